/- What each text does, on any memory, with any number of ticks, or why it is not run, is the document's. Conditions: what is read is of bulk at most 1048576. -/
import Derived.Test.YtjlnpppjkdcpkaaERTreeO
import Derived.Test.YtjlnpppjkdcpkaaEREvX5
namespace Go.Proofs.Ytjlnpppjkdcpkaa.MyEvalRuns
open Go.ChangeShapes Go.WideShapes Go.ChangeAt Go.RowKit Go.Proofs.Ytjlnpppjkdcpkaa.My
theorem own : ownKnob Try.prog.godebug = none := by kernel_rfl
theorem laid : laidOutB Try.prog = true := by kernel_rfl
set_option maxRecDepth 100000 in
theorem contract (H : Type) (enc : TypeId × Value → H) (W : World) (base : Nat) (args : Array Value) (ds gs : List (DataW H)) (before : List MemPlace)
  (hval : ∀ (j : Nat) t v, Try.f7.params[j]? = some t → args[j]? = some v → Value.okWide Try.prog W .any base t v)
  (hW : DataW.Whole enc Try.prog Try.f7.params.toList Rows.evalRunsSpec.vars false W args.toList ds gs before) (hk : Rows.uptoSmall H (ds ++ gs) = true) :
  Calls Try.prog 7 args W fun e W' => ∃ v, e = .returned v ∧ Rows.evalRunsSpec.post enc Try.prog Try.f7 false true false false W args v W' := by
 have hW' := hW; obtain ⟨p, q, hA0, hV, rfl, hfz, hnd⟩ := hW; have hA : DataW.TrodAll enc Try.prog W 0 (fun _ => true) true Try.f7.params.toList args.toList ds p := hA0
 rw [Try.params7] at hA hval; obtain ⟨v0, vs0, d0, ds0, p0, q0, hargs, rfl, rfl, h0, r0⟩ := trodAll_cons hA; obtain ⟨rfl, rfl, rfl⟩ := trodAll_nil r0; have hargs' : args = #[v0] := by have h := congrArg List.toArray hargs; simpa using h
 subst hargs'; obtain ⟨rfl, rfl⟩ := trodVars_none hV; obtain ⟨cs0, fu0, rfl, t0⟩ := open_agg Try.underlying50 (hval 0 50 v0 rfl rfl) h0; obtain ⟨l, A, c, L, g, B, gc, n, i, k, bd, e0, ⟨hlc, hrd, hbk, h64⟩, hgc, hgr, hgi, hn, hi, hk', hL, hbd⟩ := open_case t0; obtain rfl : cs0 = #[.slice A l.length c, .int .i64 L, .slice B g.length gc, .int .i64 n, .int .i64 i, .int .i64 k, .int .i64 bd] := Array.toList_inj.1 (by simpa using e0)
 have hb : Rows.uptoBulkAll ([d0] : List (DataW H)) ≤ 1048576 := by
  have h : Rows.uptoBulkAll (([d0] : List (DataW H)) ++ []) ≤ 1048576 := of_decide_eq_true hk
  simpa only [List.append_nil] using h
 simp only [Rows.uptoBulkAll] at hb hbk
 refine (evalRuns_calls l A c L g B gc n i k bd W hrd (by omega) hgr (by omega) h64 hgi hn hi hk').mono fun e W' ⟨he, hg⟩ => ?_
 subst he; exact ⟨_, rfl, true_post laid (by kernel_rfl) rfl rfl rfl Try.underlying4 hW' hg⟩
set_option maxRecDepth 100000 in
theorem lifted (os : Os) (started : os.Started) (H : Type) (enc : TypeId × Value → H) (F : Stop.Interp) :
  ReturnsInHanded {} Try.checked os 7 .any ((Rows.OpenSpec.upto Rows.evalRunsSpec).pre6 enc Try.prog Try.f7 Rows.evalRunsUptoRow.domain false) (((Rows.OpenSpec.upto Rows.evalRunsSpec).at F).post enc Try.prog Try.f7 false true false false) := by
 refine returnsInHanded_of_cond (C := Try.checked) (s := Rows.OpenSpec.upto Rows.evalRunsSpec) (k := Rows.uptoSmall) rfl own started (by kernel_rfl) Try.func7
  (OpenSpec.witness (enc := enc) (C := Try.checked) (s := Rows.OpenSpec.upto Rows.evalRunsSpec) (k := Rows.uptoSmall) rfl false ⟨#[], #[.agg #[.slice none 0 0, .int .i64 0, .slice none 0 0, .int .i64 0, .int .i64 0, .int .i64 0, .int .i64 0]], []⟩ 8 (by kernel_rfl) (by kernel_rfl) (by kernel_rfl)
   (x := ([.agg [.nil, .lit (.int .i64 0), .agg [.nil, .lit (.int .i64 0), .lit (.int .i64 0), .lit (.int .i64 0)], .lit (.int .i64 0)]], [], [])) (by kernel_rfl) rfl (by kernel_rfl)) ?_
 intro W base args ds gs before hval hW _ hk _; exact contract H enc W base args ds gs before hval hW hk
theorem proved : Rows.EvalRunsUptoSaid :=
 OpenClaim.holds_of_cond 7 Try.f7 rfl rfl rfl rfl rfl rfl rfl ⟨rfl, rfl, rfl, rfl, rfl⟩ rfl rfl rfl rfl rfl (by kernel_rfl) Try.func7 (by kernel_rfl)
  (of_decide_eq_true (by kernel_rfl)) (by unfold Func.isWrapper; first | (rw [if_pos (by decide +kernel)]; kernel_rfl) | (rw [if_neg (by decide +kernel)]; exact ⟨rfl, rfl⟩))
  (fun os started H enc _ F => lifted os started H enc F)
end Go.Proofs.Ytjlnpppjkdcpkaa.MyEvalRuns
