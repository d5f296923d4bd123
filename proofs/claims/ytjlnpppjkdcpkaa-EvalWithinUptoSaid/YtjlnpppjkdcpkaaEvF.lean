/- What stands behind a stop changes nothing a run does; rows of statements put behind one another. Conditions: the trees were there in the world W, which is kept. -/
import Derived.Test.YtjlnpppjkdcpkaaEvU
import Derived.Test.YtjlnpppjkdcpkaaNameF
namespace Go.Proofs.Ytjlnpppjkdcpkaa.My
open Go.RowKit Go.Proofs.Ytjlnpppjkdcpkaa.NumA
set_option linter.unusedVariables false
set_option linter.unusedSimpArgs false
theorem stmtsS_app (S : Sc) (b : List Stmt) : ∀ a : List Stmt, stmtsS S (a ++ b) = if (stmtsS S a).1 = 0 then stmtsS (stmtsS S a).2 b else stmtsS S a
  | [] => by simp [stmtsS]
  | x :: a => by
    rw [List.cons_append, stmtsS, stmtsS]
    by_cases h : (stmtS S x).1 = 0
    · rw [if_pos h, if_pos h, stmtsS_app]
    · rw [if_neg h, if_neg h, if_neg h]
theorem slotsP_app {a b : List Stmt} {L : Int} (h : (slotsP (a ++ b) L).2 = 0) : (slotsP a L).2 = 0 := by
  unfold slotsP at h ⊢
  rw [stmtsS_app] at h
  by_cases h0 : (stmtsS ⟨[], [], 0, L⟩ a).1 = 0
  · rw [if_pos h0]
  · rw [if_neg h0, if_neg h0] at h
    exact absurd h h0
theorem runErr_app {a b : List Stmt} {L : Int} {ml : Nat} {B : Int} (h : runErr (a ++ b) L ml B = 0) : runErr a L ml B = 0 := by
  unfold runErr at h ⊢
  by_cases h1 : rightP nameB (a ++ b) = false
  · rw [if_pos h1] at h; omega
  rw [if_neg h1] at h
  by_cases h2 : (slotsP (a ++ b) L).2 = 0
  · rw [if_neg (by simpa using h2)] at h
    rw [if_neg (by simp [rightP_app (by simpa using h1 : rightP nameB (a ++ b) = true)]), if_neg (by simpa using slotsP_app h2)]
    exact h
  · rw [if_pos h2] at h; exact absurd h h2
theorem runErr_zero {ss : List Stmt} {L : Int} {mem : List Int} {n i k B : Int} {r : Res} (h : Ran ss L mem n i k B r) : r.code = runErr ss L mem.length B := by
  rcases h with ⟨h, hc, _⟩ | ⟨h, rfl⟩
  · rw [h, hc]
  · rfl
/-- what stands behind a stop changes nothing -/
theorem stops_plain {ss more : List Stmt} {L : Int} {mem : List Int} {n i k B : Int} {r1 r2 : Res} (h1 : Ran (ss ++ [stopS]) L mem n i k B r1) (h2 : Ran (ss ++ [stopS] ++ more) L mem n i k B r2) (h0 : r2.code = 0) : r1 = r2 := by
  have hz := runErr_zero h2
  rw [h0] at hz
  have hz1 := runErr_app hz.symm
  rcases h2 with ⟨_, c2, o2, d2, a2, b2, t2⟩ | ⟨e2, _⟩
  · rcases h1 with ⟨_, c1, o1, d1, a1, b1, t1⟩ | ⟨e1, _⟩
    · obtain ⟨S1, ov1, va1, st1, code1⟩ := r1
      obtain ⟨S2, ov2, va2, st2, code2⟩ := r2
      simp only at c1 d1 a1 b1 t1 c2 d2 a2 b2 t2
      obtain ⟨hS, ho⟩ := d1.same d2.stops
      subst hS; subst ho
      rw [c1, a1, b1, t1, c2, a2, b2, t2]
    · exact absurd hz1 e1
  · exact absurd hz.symm e2
theorem info_stmt : (Try.prog.info? 36).map (fun i => (i.zero, i.size, i.bytes)) = some (some (.agg #[.int .i64 0, .string ⟨#[]⟩, .int .i64 0, .slice none 0 0, .slice none 0 0, .slice none 0 0]), 6, 104) := by kernel_rfl
/-- append of statements that were there onto a row -/
theorem wpList_append_trees (W w : World) (hB : Below W.heap.size W w) {ops : Array Oper} {rest : List Oper} {o : Oper} {a : Act} {Q : Exit → Act → World → Prop} (hgd : o.guard = none) (s x : Operand)
    (ho : o.op = .call { callee := .builtin .append, args := #[s, x], argTypes := #[22, 22] }) (v : Value) (n : Nat) (f0 : List Value) (hown : Row w 36 6 v n f0) (l : List Stmt) (A : Option Addr) (c : Nat) (hrd : Stmt.rds W l A 0) (hl : n + l.length ≤ 100000000)
    (hs : a.eval s = v) (hx : a.eval x = .slice A l.length c)
    (h : ∀ v' w' fs, Stmt.flat W l fs → Row w' 36 6 v' (n + l.length) (f0 ++ fs) → w.grownBy w' v.ownBlock → (v'.ownBlock = v.ownBlock ∨ v'.ownBlock = some w.heap.size) → wpList Try.prog ops Q rest (a.put o.dst v') w') : wpList Try.prog ops Q (o :: rest) a w := by
  refine wpList_plain hgd fun _ hK => ?_
  obtain ⟨i, hi, hi2⟩ := Option.map_eq_some_iff.mp info_stmt
  simp only [Prod.mk.injEq] at hi2
  obtain ⟨fs, hf, hfc⟩ := Stmt.flat_of hrd
  have hfl := Stmt.flat_len hf
  obtain ⟨A0, c0, rfl, hc0⟩ := hown.slice
  have hr : ∃ v' w', (Builtin.append_ #[22, 22] o.type #[.slice A0 n c0, .slice A l.length c]).run Try.prog w = .ok v' w' ∧ Row w' 36 6 v' (n + l.length) (f0 ++ fs) ∧ w.grownBy w' (Value.slice A0 n c0).ownBlock ∧ (v'.ownBlock = (Value.slice A0 n c0).ownBlock ∨ v'.ownBlock = some w.heap.size) := by
    rcases Nat.eq_zero_or_pos l.length with h0 | h0
    · have hn : fs = [] := List.eq_nil_of_length_eq_zero (by omega)
      subst hn
      rw [h0]
      refine ⟨_, w, run_append_nothing w _ _ _ 36 i Try.underlying22 hi A0 n c0 hc0 _ (by cases A with | none => exact Src.ofNil w Try.underlying22 c | some a => exact Src.ofSlice w Try.underlying22 a 0 c [] (by simp) (by simp) (by simp)), by simpa using hown, ⟨rfl, rfl, rfl, Nat.le_refl _, fun _ _ _ => rfl⟩, .inl rfl⟩
    · obtain ⟨b, o', cs, hA, _, _⟩ := Stmt.rds_get hrd 0 h0
      subst hA
      have hr' := fun hc => run_append_row (P := Try.prog) w 22 o.type 36 i _ 6 104 Try.underlying22 hi hi2.1 hi2.2.1 hi2.2.2 rfl _ n f0 hown ⟨b, o', none⟩ l.length c fs hfl hc (Stmt.flat_one hf) h0 (by unfold maxLen; omega) (by omega)
      refine hr' fun j u hu => ?_
      have hadd : (⟨b, o', none⟩ : Addr).add j = ⟨b, o' + 0 * 6 + j, none⟩ := by unfold Addr.add; split <;> simp_all
      rw [hadd]
      exact hB.cellOf (hfc b o' rfl j u hu)
  obtain ⟨v', w', hr, h2, h3, h4⟩ := hr
  unfold Oper.wp execOp
  simp only [ho, resolve, invoke, builtin, Sem.run_bind, Sem.run_pure, Result.andThen_ok, List.map_toArray, List.map_cons, List.map_nil, hs, hx, hr]
  exact hK _ _ (h v' w' fs hf h2 h3 h4)
theorem stop_flat (w : World) : Stmt.flat w [stopS] [.int .i64 9, .string ⟨#[]⟩, .int .i64 0, .slice none 0 0, .slice none 0 0, .slice none 0 0] := by
  simp only [Stmt.flat, stopS]
  refine ⟨[.int .i64 9, .string ⟨#[]⟩, .int .i64 0, .slice none 0 0, .slice none 0 0, .slice none 0 0], [], rfl, ?_, rfl⟩
  simp only [Stmt.rd]
  exact ⟨none, 0, none, 0, none, 0, rfl, Nat.le_refl _, Nat.le_refl _, Nat.le_refl _, by decide, by simp [Expr.rds], by simp [Stmt.rds], by simp [Stmt.rds]⟩
end Go.Proofs.Ytjlnpppjkdcpkaa.My
