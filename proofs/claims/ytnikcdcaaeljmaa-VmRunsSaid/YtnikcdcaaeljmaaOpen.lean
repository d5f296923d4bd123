/- The reading of arguments: slices of instructions and of numbers, structs. Also: a call that keeps what was there leaves the arguments as they read. -/
import Derived.Test.YtnikcdcaaeljmaaRows
import Derived.Test.YtnikcdcaaeljmaaInsK
import Derived.ProofKit
import Derived.OpenShut
import Derived.Deep.Fields
import Derived.Carry
import Derived.SizedLaws
namespace Go.Proofs.Ytnikcdcaaeljmaa.My
open Go.ChangeShapes Go.WideShapes Go.ChangeAt Go.RowKit Go.Deep
section
variable {H : Type} {enc : TypeId × Value → H} {w : World}
theorem open_sl {P : Program} {t e : TypeId} (ht : P.underlying t = some (.slice e)) (hc : 0 < P.cellsOf e) {fuel : Nat} {cs : List Value} {x : DataW H × List MemPlace} (h : DataW.trod enc P w 0 (fun _ => true) true fuel t cs = some x) :
    cs = [.slice none 0 0] ∨ ∃ (A : Option Addr) (len cap : Nat) (ys : List (DataW H × List MemPlace)) (n : Nat), cs = [.slice A len cap] ∧ len ≤ cap ∧ cap ≤ maxLen ∧ ys.length = len ∧
      ∀ i, i < len → ∃ b o cs' y, A = some ⟨b, o, none⟩ ∧ ys[i]? = some y ∧ cs'.length = P.cellsOf e ∧ DataW.trod enc P w 0 (fun _ => true) true n e cs' = some y ∧ ∀ m u, cs'[m]? = some u → w.cell? ⟨b, o + i * P.cellsOf e + m, none⟩ = some u := by
  rcases DataW.trod_slice ht h with h0 | ⟨a, len, cap, elems, rest, n, _, rfl, rfl, hb, hl, hm, hlen, hel, _, _⟩
  · exact .inl h0.1
  refine .inr ⟨some a, len, cap, elems, n, rfl, hl, hm, hlen, fun i hi => ?_⟩
  · have g := hel i hi
    rw [List.getElem?_eq_getElem (by omega)] at g
    obtain ⟨cs', h1, h2⟩ := Option.bind_eq_some_iff.1 g
    obtain ⟨_, hlen', hcell⟩ := World.cells?_some h1
    obtain ⟨b, o, spot⟩ := a
    have hspot : spot = none := by
      have h1 := hel 0 (by omega)
      have h1' : (w.cells? 0 ((⟨b, o, spot⟩ : Addr).add (0 * P.cellsOf e)) (P.cellsOf e)).bind (DataW.trod enc P w 0 (fun _ => true) true n e) = some (elems[0]'(by omega)) := by rw [h1, List.getElem?_eq_getElem (by omega)]
      obtain ⟨cs0, h1, _⟩ := Option.bind_eq_some_iff.1 h1'
      obtain ⟨_, hl0, hc0⟩ := World.cells?_some h1
      have h0 := hc0 0 hc
      rw [List.getElem?_eq_getElem (by omega)] at h0
      simpa [Addr.add] using World.cell?_spot h0
    subst hspot
    refine ⟨b, o, cs', _, rfl, List.getElem?_eq_getElem (by omega), hlen', h2, fun m u hu => ?_⟩
    have hm' : m < cs'.length := (List.getElem?_eq_some_iff.1 hu).1
    have := hcell m (by omega)
    rw [add_add, add_plain, hu] at this
    rw [Nat.add_assoc]
    exact this
theorem open_st {P : Program} {t : TypeId} {fs : Array Field} (hs : P.underlying t = some (.struct fs)) (hone : ∀ (i : Nat) (f : Field), fs[i]? = some f → f.offset = i ∧ P.cellsOf f.type = 1) (hC : P.cellsOf t = fs.size) {fuel : Nat} {cs : List Value} {x : DataW H × List MemPlace}
    (h : DataW.trod enc P w 0 (fun _ => true) true fuel t cs = some x) : cs.length = fs.size ∧ ∃ (xs : List (DataW H × List MemPlace)) (n : Nat), x.1 = .agg (xs.map (·.1)) ∧ xs.length = fs.size ∧ ∀ (i : Nat) (f : Field), fs[i]? = some f → DataW.trod enc P w 0 (fun _ => true) true n f.type [cs.getD i undef] = xs[i]? := by
  obtain ⟨xs, n, _, rfl, hl, hxl, hf⟩ := DataW.trod_struct hs h
  rw [hC] at hl
  refine ⟨hl, xs, n, rfl, hxl, fun i f hi => ?_⟩
  have hlt : i < fs.size := (Array.getElem?_eq_some_iff.1 hi).1
  obtain ⟨ho, hc1⟩ := hone i f hi
  have g := hf i f hi
  rw [ho, hc1, take1_drop cs i undef (by omega)] at g
  exact g
theorem wf64 {n : Int} (h : (Lit.int .i64 n).wf = true) : -9223372036854775808 ≤ n ∧ n ≤ 9223372036854775807 := by
  simp [Lit.wf, IntKind.min, IntKind.max, IntKind.signed, IntKind.bits] at h
  exact h
/-- an instruction's numbers are numbers of a word -/
def Ins.in64 (x : Ins) : Prop := -9223372036854775808 ≤ x.n ∧ x.n ≤ 9223372036854775807
theorem open_ins {fuel : Nat} {cs : List Value} {x : DataW H × List MemPlace} (h : DataW.trod enc Try.prog w 0 (fun _ => true) true fuel 76 cs = some x) : ∃ y : Ins, cs = y.cells ∧ y.in64 := by
  obtain ⟨hl, xs, n, hx, hxl, hf⟩ := open_st Try.underlying76 (hone_of (by kernel_rfl)) (by kernel_rfl) h
  match cs, xs, hl, hxl with
  | [c0, c1, c2, c3, c4, c5], [x0, x1, x2, x3, x4, x5], _, _ =>
    have h0 := hf 0 _ rfl
    have h1 := hf 1 _ rfl
    have h2 := hf 2 _ rfl
    have h3 := hf 3 _ rfl
    have h4 := hf 4 _ rfl
    have h5 := hf 5 _ rfl
    simp only [List.getD_cons_zero, List.getD_cons_succ, List.getElem?_cons_zero, List.getElem?_cons_succ] at h0 h1 h2 h3 h4 h5
    obtain ⟨a0, e0, _, _⟩ := DataW.trod_int (k := .i64) (by kernel_rfl) h0
    obtain ⟨a1, e1, _, _⟩ := DataW.trod_int (k := .i64) (by kernel_rfl) h1
    obtain ⟨a2, e2, _, _⟩ := DataW.trod_int (k := .i64) (by kernel_rfl) h2
    obtain ⟨a3, e3, _, _⟩ := DataW.trod_int (k := .i64) (by kernel_rfl) h3
    obtain ⟨a4, e4, _, _⟩ := DataW.trod_int (k := .i64) (by kernel_rfl) h4
    obtain ⟨a5, e5, _, w5⟩ := DataW.trod_int (k := .i64) (by kernel_rfl) h5
    simp only [List.cons.injEq, and_true] at e0 e1 e2 e3 e4 e5
    subst e0 e1 e2 e3 e4 e5
    exact ⟨⟨a0, a1, a2, a3, a4, a5⟩, rfl, wf64 w5⟩
theorem open_inss {fuel : Nat} {cs : List Value} {x : DataW H × List MemPlace} (h : DataW.trod enc Try.prog w 0 (fun _ => true) true fuel 22 cs = some x) :
    ∃ (l : List Ins) (A : Option Addr) (c : Nat), cs = [.slice A l.length c] ∧ l.length ≤ c ∧ c ≤ maxLen ∧ insRow w l A ∧ ∀ y ∈ l, y.in64 := by
  rcases open_sl Try.underlying22 (by rw [show Try.prog.cellsOf 76 = 6 by kernel_rfl]; decide) h with rfl | ⟨A, len, cap, ys, n, rfl, hle, hcm, hyl, hel⟩
  · exact ⟨[], none, 0, rfl, Nat.le_refl _, Nat.zero_le _, fun j hj => absurd hj (Nat.not_lt_zero _), fun y hy => by cases hy⟩
  · rw [show Try.prog.cellsOf 76 = 6 by kernel_rfl] at hel
    have hpick : ∀ i, i < len → ∃ y : Ins, (∃ b o, A = some ⟨b, o, none⟩ ∧ ∀ m u, (y.cells)[m]? = some u → w.cell? ⟨b, o + i * 6 + m, none⟩ = some u) ∧ y.in64 := by
      intro i hi
      obtain ⟨b, o, cs', y, hA, hy, hcl, htr, hcell⟩ := hel i hi
      obtain ⟨z, rfl, hz⟩ := open_ins htr
      exact ⟨z, ⟨b, o, hA, hcell⟩, hz⟩
    obtain ⟨E, hE⟩ := choose_lt hpick
    refine ⟨(List.range len).map E, A, cap, by simp, by simpa using hle, hcm, fun j hj => ?_, fun y hy => ?_⟩
    · have hj' : j < len := by simpa using hj
      obtain ⟨b, o, h1, h2⟩ := (hE j hj').1
      exact ⟨b, o, h1, by simpa using h2⟩
    · obtain ⟨j, hj, rfl⟩ := List.mem_map.1 hy
      exact (hE j (by simpa using hj)).2
/-- a row of numbers in memory -/
def numRow (w : World) (l : List Int) (A : Option Addr) : Prop := ∀ j (hj : j < l.length), ∃ b o, A = some ⟨b, o, none⟩ ∧ w.cell? ⟨b, o + j, none⟩ = some (.int .i64 l[j])
def in64 (v : Int) : Prop := -9223372036854775808 ≤ v ∧ v ≤ 9223372036854775807
theorem open_nums {fuel : Nat} {cs : List Value} {x : DataW H × List MemPlace} (h : DataW.trod enc Try.prog w 0 (fun _ => true) true fuel 25 cs = some x) :
    ∃ (l : List Int) (A : Option Addr) (c : Nat), cs = [.slice A l.length c] ∧ l.length ≤ c ∧ c ≤ maxLen ∧ numRow w l A ∧ ∀ y ∈ l, in64 y := by
  rcases open_sl Try.underlying25 (by rw [show Try.prog.cellsOf 2 = 1 by kernel_rfl]; decide) h with rfl | ⟨A, len, cap, ys, n, rfl, hle, hcm, hyl, hel⟩
  · exact ⟨[], none, 0, rfl, Nat.le_refl _, Nat.zero_le _, fun j hj => absurd hj (Nat.not_lt_zero _), fun y hy => by cases hy⟩
  · rw [show Try.prog.cellsOf 2 = 1 by kernel_rfl] at hel
    have hpick : ∀ i, i < len → ∃ y : Int, (∃ b o, A = some ⟨b, o, none⟩ ∧ w.cell? ⟨b, o + i, none⟩ = some (.int .i64 y)) ∧ in64 y := by
      intro i hi
      obtain ⟨b, o, cs', y, hA, hy, hcl, htr, hcell⟩ := hel i hi
      obtain ⟨z, rfl, _, hz⟩ := DataW.trod_int (k := .i64) (by kernel_rfl) htr
      refine ⟨z, ⟨b, o, hA, ?_⟩, wf64 hz⟩
      simpa using hcell 0 _ rfl
    obtain ⟨E, hE⟩ := choose_lt hpick
    refine ⟨(List.range len).map E, A, cap, by simp, by simpa using hle, hcm, fun j hj => ?_, fun y hy => ?_⟩
    · have hj' : j < len := by simpa using hj
      obtain ⟨b, o, h1, h2⟩ := (hE j hj').1
      exact ⟨b, o, h1, by simpa using h2⟩
    · obtain ⟨j, hj, rfl⟩ := List.mem_map.1 hy
      exact (hE j (by simpa using hj)).2
theorem all_stays {P : Program} (hl : laidOutB P = true) {W W' : World} {sp : Nat → Bool} : ∀ (ts : List TypeId) (vs : List Value) (ds : List (DataW H)) (ps : List MemPlace), ts.all (fun t => P.readableRec t && decide (t < P.types.size)) = true →
    DataW.TrodAll enc P W 0 (fun _ => true) true ts vs ds ps → (∀ p ∈ ps, W.sameAt W' p) → (∀ p ∈ ps, sp p.block = true) → DataW.TrodAll enc P W' 0 sp true ts vs ds ps
  | [], [], [], _, _, h, _, _ => h
  | t :: ts, v :: vs, d :: ds, _, hr, ⟨p, q, h1, h2, rfl⟩, hsame, hs => by
    simp only [List.all_cons, Bool.and_eq_true, decide_eq_true_eq] at hr
    exact ⟨p, q, WideElems.Trod_stays hl hr.1.1 hr.1.2 h1 (fun x hx => hsame x (List.mem_append_left _ hx)) (fun x hx => hs x (List.mem_append_left _ hx)),
      all_stays hl ts vs ds q hr.2 h2 (fun x hx => hsame x (List.mem_append_right _ hx)) (fun x hx => hs x (List.mem_append_right _ hx)), rfl⟩
  | [], _ :: _, _, _, _, h, _, _ => by simp [DataW.TrodAll] at h
  | [], [], _ :: _, _, _, h, _, _ => by simp [DataW.TrodAll] at h
  | _ :: _, [], _, _, _, h, _, _ => by simp [DataW.TrodAll] at h
  | _ :: _, _ :: _, [], _, _, h, _, _ => by simp [DataW.TrodAll] at h
/-- a call that gives true and keeps what was there meets the law's statement -/
theorem true_post {P : Program} {f : Func} {s : ChangeSpec} {apart fresh handsOn again : Bool} {W W' : World} {args : Array Value} {ds gs : List (DataW H)} {before : List MemPlace} (hlo : laidOutB P = true) (hty : f.params.toList.all (fun t => P.readableRec t && decide (t < P.types.size)) = true) (hvars : s.vars = [])
    (hfn : s.fn H (ds ++ gs) = { results := [.lit (.bool true)], args := ds }) {tb : TypeId} (hres : f.resultTypes = #[tb]) (hb : P.underlying tb = some .bool) (hW : DataW.Whole enc P f.params.toList s.vars apart W args.toList ds gs before) (hB : Below W.heap.size W W') : s.post enc P f apart fresh handsOn again W args (.bool true) W' := by
  have hlt : ∀ p ∈ before, p.block < W.heap.size := fun p hp => hW.lt p hp
  have hsame : ∀ p ∈ before, W.sameAt W' p := fun p hp => hB.same (hlt p hp)
  have hr1 : ∀ (b : Nat) (sp : Nat → Bool) (hd : Bool), DataW.TrodAll enc P W' b sp hd f.resultTypes.toList ((Value.bool true).resultList f.resultTypes.size) (s.fn H (ds ++ gs)).results [] := by
    intro b sp hd
    rw [hres, hfn]
    exact trodAll_cons_mk (shut_bool hb _) trodAll_mk0
  have hW' := hW
  obtain ⟨p, q, hA, hV, rfl, hz, hn⟩ := hW
  rw [hvars] at hV
  obtain ⟨rfl, rfl⟩ := trodVars_none hV
  have hpe : p ++ [] = p := List.append_nil p
  rw [hpe] at hlt hsame hW' hz hn
  have ha : ∀ sp : Nat → Bool, (∀ x ∈ p, sp x.block = true) → DataW.TrodAll enc P W' 0 sp true f.params.toList args.toList (s.fn H (ds ++ [])).args p := by
    intro sp hsp
    rw [hfn]
    exact all_stays hlo _ _ _ _ hty hA hsame hsp
  have hvn : (s.fn H (ds ++ [])).vars = [] := by rw [hfn]
  have hv : ∀ sp : Nat → Bool, DataW.TrodVars enc P W' sp s.vars (s.fn H (ds ++ [])).vars [] := by
    intro sp
    rw [hvars, hvn]
    simp [DataW.TrodVars]
  refine ⟨ds, [], p, [], p, [], hW', hr1 _ _ _, ha _ (fun x hx => by simpa using hlt x hx), hv _, World.keptBut_mono (fun x hx => ⟨hx, .inr (.inl hx)⟩) (hB.frame (· ∈ p)), fun _ => ⟨?_, ?_⟩⟩
  · exact ok_one hres rfl (okWide_bool_mk hb _)
  · refine ⟨_, _, p, ⟨p, [], trodAll_append (ha _ (fun _ _ => rfl)) (hr1 _ _ _), hv _, by simp, ?_, hn⟩, fun x hx _ => hx⟩
    intro b off hx
    rw [hB.frozen (hlt _ hx)]
    exact hz b off hx
end
end Go.Proofs.Ytnikcdcaaeljmaa.My
