/- The evaluator's whole run, its panic caught. Conditions: the tree was there in the world W, which is kept; the machine lies in memory. -/
import Derived.Test.YtjlnpppjkdcpkaaGmTrP
import Derived.Test.YtjlnpppjkdcpkaaGmTrN
import Derived.Test.YtjlnpppjkdcpkaaGmNameW2
import Derived.WalkLawsBesides
import Derived.BigRegion
import Derived.Recover
namespace Go.Proofs.Ytjlnpppjkdcpkaa.My
open Go.RowKit Go.Proofs.Ytjlnpppjkdcpkaa.NumA
set_option linter.unusedVariables false
set_option linter.unusedSimpArgs false
def nums (l : List Int) : List Value := l.map (Value.int .i64)
def strs (l : List ByteArray) : List Value := l.map Value.string
def intoCells : List (Int × Int) → List Value
  | [] => []
  | x :: l => .int .i64 x.1 :: .int .i64 x.2 :: intoCells l
theorem nums_get {l : List Int} {j : Nat} (hj : j < l.length) : (nums l)[j]? = some (.int .i64 (l.getD j 0)) := by
  simp [nums, List.getD, hj]
theorem grown_blk {w w' : World} {row : Option Nat} {g : Nat} {o : Obj} (h : w.grownBy w' row) (hg : w.heap[g]? = some o) (hn : row ≠ some g) : w'.heap[g]? = some o := (h.block g (blk_lt hg) (fun e => hn e.symm)).trans hg
theorem rows_apart {w : World} {e e' : TypeId} {s s' n n' : Nat} {v v' : Value} {xs xs' : List Value} (h : Row w e s v n xs) (h' : Row w e' s' v' n' xs') (hne : e ≠ e') : ∀ q, v.ownBlock = some q → v'.ownBlock ≠ some q := by
  intro q hq hq'
  rcases h'.2 with ⟨h2, _⟩ | ⟨g, cap, cur, h2, hg, _⟩
  · subst h2; simp [Value.ownBlock] at hq'
  · subst h2; simp [Value.ownBlock] at hq'; subst hq'
    exact h.ne hg hne hq
theorem Row.far {w w' : World} {e : TypeId} {s n : Nat} {v : Value} {xs : List Value} (h : Row w e s v n xs) {b i : Nat} {u : Value} (hb : ∀ q, v.ownBlock = some q → w'.heap[q]? = w.heap[q]?) (hn : v.ownBlock ≠ some b) : Row (w'.setCell ⟨b, i, none⟩ u) e s v n xs :=
  h.keep fun q hq => (Below.heap_setCell w' ⟨b, i, none⟩ u q (fun e1 => hn (by rw [hq, e1]))).trans (hb q hq)
theorem Row.put {w : World} {t : TypeId} {g c n : Nat} {xs : List Value} (h : Row w t 1 (.slice (some ⟨g, 0, none⟩) n c) n xs) (j : Nat) (u : Value) : Row (w.setCell ⟨g, j, none⟩ u) t 1 (.slice (some ⟨g, 0, none⟩) n c) n (xs.set j u) := by
  refine ⟨by simpa using h.1, ?_⟩
  rcases h.2 with ⟨h2, _⟩ | ⟨g', cap, cur, h2, hg, h3, h4, h5, h6⟩
  · cases h2
  · injection h2 with h2 _ h7
    injection h2 with h2; injection h2 with h2 _ _
    subst h2; subst h7
    refine .inr ⟨g, c, _, rfl, blk_set hg j u, h3, h4, by simpa using h5, ?_⟩
    rw [Array.toList_setIfInBounds, List.take_set, h6]
theorem grown_undrew {w w' : World} {row : Option Nat} (h : w.drew.grownBy w' row) : w.grownBy w' row := ⟨h.os, h.tape, h.output, h.size, h.block⟩
theorem Row.bound {w : World} {t : TypeId} {z n : Nat} {v : Value} {xs : List Value} (h : Row w t z v n xs) : n ≤ maxLen := by
  rcases h.2 with ⟨_, rfl⟩ | ⟨_, cap, _, _, _, h1, h2, _⟩
  · exact Nat.zero_le _
  · omega
theorem Row.below {w w' : World} {t : TypeId} {z n : Nat} {v : Value} {xs : List Value} (h : Row w t z v n xs) (hB : Below w.heap.size w w') : Row w' t z v n xs := h.keep fun g hg => hB.block g (h.lt hg)
theorem Row.cellA {w : World} {e : TypeId} {size n c : Nat} {A : Option Addr} {xs : List Value} (h : Row w e size (.slice A n c) n xs) {j : Nat} {u : Value} (hj : xs[j]? = some u) : ∃ g, A = some ⟨g, 0, none⟩ ∧ w.cell? ⟨g, j, none⟩ = some u := by
  obtain ⟨g, d, h1, h2, _⟩ := h.cell hj
  injection h1 with h1 _ _
  exact ⟨g, h1, h2⟩
def mCells (N V M O I : Value) (ticks B : Int) : Array Value := #[N, V, M, O, I, .int .i64 0, .int .i64 0, .int .i64 ticks, .int .i64 B]
/-- a machine at p: its rows lie in blocks from base on, each of numbers apart -/
structure EvAt (w : World) (p base : Nat) (B : Int) (S : Ev) (N V M O I : Value) : Prop where
  blk : w.heap[p]? = some (.cells (mCells N V M O I S.ticks B) 91 (0, 0))
  names : Row w 9 1 N S.names.length (strs S.names)
  vals : Row w 2 1 V S.vals.length (nums S.vals)
  mem : Row w 2 1 M S.mem.length (nums S.mem)
  outs : Row w 2 1 O S.outs.length (nums S.outs)
  intos : Row w 98 2 I S.intos.length (intoCells S.intos)
  fn : ∀ g, N.ownBlock = some g → base ≤ g
  fv : ∀ g, V.ownBlock = some g → base ≤ g
  fm : ∀ g, M.ownBlock = some g → base ≤ g
  fo : ∀ g, O.ownBlock = some g → base ≤ g
  fi : ∀ g, I.ownBlock = some g → base ≤ g
  vm : ∀ g, V.ownBlock = some g → M.ownBlock ≠ some g
  vo : ∀ g, V.ownBlock = some g → O.ownBlock ≠ some g
  mo : ∀ g, M.ownBlock = some g → O.ownBlock ≠ some g
  hb : base ≤ p
  eq : S.names.length = S.vals.length
theorem EvAt.below {w w' : World} {p base : Nat} {B : Int} {S : Ev} {N V M O I : Value} (h : EvAt w p base B S N V M O I) (hB : Below w.heap.size w w') : EvAt w' p base B S N V M O I :=
  ⟨below_blk hB h.blk (blk_lt h.blk), h.names.below hB, h.vals.below hB, h.mem.below hB, h.outs.below hB, h.intos.below hB, h.fn, h.fv, h.fm, h.fo, h.fi, h.vm, h.vo, h.mo, h.hb, h.eq⟩
theorem EvAt.drewN {w : World} {p base : Nat} {B : Int} {S : Ev} {N V M O I : Value} (h : EvAt w p base B S N V M O I) (k : Nat) : EvAt (w.drewN k) p base B S N V M O I := h.below (below_drewN (Below.refl _ _) k)
end Go.Proofs.Ytjlnpppjkdcpkaa.My
namespace Go.Proofs.Ytjlnpppjkdcpkaa.My
open Go.RowKit Go.Proofs.Ytjlnpppjkdcpkaa.NumA
set_option linter.unusedVariables false
set_option linter.unusedSimpArgs false
/-- the types of the boxes that stay -/
def bt (i : Fin 3) : TypeId := if i = 0 then 36 else if i = 1 then 87 else 55
structure Fx (W w w' : World) : Prop where
  below : Below W.heap.size w w'
  boxes : ∀ (k : Nat) (cs : Array Value × Fin 3), w.heap[k]? = some (.cells cs.1 (bt cs.2) (0, 0)) → w'.heap[k]? = some (.cells cs.1 (bt cs.2) (0, 0))
theorem Fx.refl (W w : World) : Fx W w w := ⟨Below.refl _ _, fun _ _ h => h⟩
theorem Fx.trans {W w w1 w2 : World} (h : Fx W w w1) (k : Fx W w1 w2) : Fx W w w2 := ⟨h.below.trans k.below, fun i cs hi => k.boxes i cs (h.boxes i cs hi)⟩
/-- what is bounded by the ticks -/
structure szE (S : Ev) : Prop where
  n : (S.names.length : Int) ≤ S.ticks + 3
  o : (S.outs.length : Int) ≤ S.ticks
  i : (S.intos.length : Int) ≤ S.ticks
  t : 0 ≤ S.ticks
theorem szE.tick {S : Ev} (h : szE S) : szE S.tick := ⟨by have := h.n; simp only [Ev.tick]; omega, by have := h.o; simp only [Ev.tick]; omega, by have := h.i; simp only [Ev.tick]; omega, by have := h.t; simp only [Ev.tick]; omega⟩
def EvIn (w : World) (p base : Nat) (B : Int) (S : Ev) : Prop := ∃ N V M O I, EvAt w p base B S N V M O I
theorem EvIn.below {w w' : World} {p base : Nat} {B : Int} {S : Ev} (h : EvIn w p base B S) (hB : Below w.heap.size w w') : EvIn w' p base B S := by
  obtain ⟨N, V, M, O, I, h⟩ := h
  exact ⟨N, V, M, O, I, h.below hB⟩
theorem Row.cutTo {w : World} {e : TypeId} {size n m : Nat} {A : Option Addr} {c : Nat} {xs : List Value} (h : Row w e size (.slice A n c) n xs) (hm : m ≤ n) : Row w e size (.slice A m c) m (xs.take (m * size)) := by
  rcases h.2 with ⟨h2, rfl⟩ | ⟨g, cap, cur, h2, hg, h3, h4, h5, h6⟩
  · have hm0 : m = 0 := by omega
    subst hm0
    injection h2 with h2 _ h7; subst h2; subst h7
    exact ⟨by simp, .inl ⟨rfl, rfl⟩⟩
  · injection h2 with h2 _ h7; subst h2; subst h7
    have hle : m * size ≤ n * size := Nat.mul_le_mul_right _ hm
    exact ⟨by rw [List.length_take, h.1]; omega, .inr ⟨g, c, cur, rfl, hg, by omega, h4, h5, by rw [← h6, List.take_take, Nat.min_eq_left hle]⟩⟩
theorem Fx.keep {W w w1 w2 : World} (h : Fx W w w1) {Os : Nat → Prop} (k : Keep Os w1 w2) (hW : W.heap.size ≤ w1.heap.size) (h1 : ∀ q, Os q → W.heap.size ≤ q) (h2 : ∀ (q : Nat) (cs : Array Value × Fin 3), Os q → w1.heap[q]? ≠ some (.cells cs.1 (bt cs.2) (0, 0))) : Fx W w w2 :=
  h.trans ⟨k.toBelow hW h1, fun q cs hq => k.blk hq fun ho => h2 q cs ho hq⟩
theorem EvAt.back {w w' : World} {p base : Nat} {B : Int} {S : Ev} {A1 A2 : Option Addr} {n c1 c2 : Nat} {M O I : Value} (h : EvAt w p base B S (.slice A1 S.names.length c1) (.slice A2 S.vals.length c2) M O I) (hn : n ≤ S.names.length) (k : Keep (fun q => q = p) w w')
    (hb : w'.heap[p]? = some (.cells (mCells (.slice A1 n c1) (.slice A2 n c2) M O I S.ticks B) 91 (0, 0))) : EvAt w' p base B (S.back n) (.slice A1 n c1) (.slice A2 n c2) M O I :=
  have far : ∀ {v : Value} {z n : Nat} {ty : TypeId} {xs : List Value}, Row w ty z v n xs → ty ≠ 91 → Row w' ty z v n xs := fun hr hne => hr.keep fun g hg => k.block g (hr.lt hg) (fun e => hr.ne h.blk hne (by rw [hg, e]))
  have e1 : (S.back n).names.length = n := by simp only [Ev.back, List.length_take]; omega
  have e2 : (S.back n).vals.length = n := by have := h.eq; simp only [Ev.back, List.length_take]; omega
  ⟨hb, by rw [e1]; have q := (far h.names (by decide)).cutTo hn; simpa [strs, Ev.back, List.map_take] using q, by rw [e2]; have q := (far h.vals (by decide)).cutTo (m := n) (by have := h.eq; omega); simpa [nums, Ev.back, List.map_take] using q,
    far h.mem (by decide), far h.outs (by decide), far h.intos (by decide), fun g hg => h.fn g ((own_any _ _ _ _ _).trans hg), fun g hg => h.fv g ((own_any _ _ _ _ _).trans hg), h.fm, h.fo, h.fi, fun g hg => h.vm g ((own_any _ _ _ _ _).trans hg), fun g hg => h.vo g ((own_any _ _ _ _ _).trans hg), h.mo, h.hb, by rw [e1, e2]⟩
end Go.Proofs.Ytjlnpppjkdcpkaa.My
namespace Go.Proofs.Ytjlnpppjkdcpkaa.My
open Go.RowKit Go.Proofs.Ytjlnpppjkdcpkaa.NumA
set_option linter.unusedVariables false
set_option linter.unusedSimpArgs false
/-- what lies elsewhere changes -/
theorem EvAt.apart {w w' : World} {p base : Nat} {B : Int} {S : Ev} {N V M O I : Value} (h : EvAt w p base B S N V M O I) {b : Nat} {cs : Array Value} (hb : w.heap[b]? = some (.cells cs 148 (0, 0))) (k : Keep (fun q => q = b) w w') : EvAt w' p base B S N V M O I :=
  have far : ∀ {v : Value} {z n : Nat} {ty : TypeId} {xs : List Value}, Row w ty z v n xs → ty ≠ 148 → Row w' ty z v n xs := fun hr hne => hr.keep fun g hg => k.block g (hr.lt hg) (fun e => hr.ne hb hne (by rw [hg, e]))
  ⟨k.blk h.blk (fun e => by subst e; have q := h.blk; rw [hb] at q; injection q with q; injection q with _ q; exact absurd q (by decide)), far h.names (by decide), far h.vals (by decide), far h.mem (by decide), far h.outs (by decide), far h.intos (by decide), h.fn, h.fv, h.fm, h.fo, h.fi, h.vm, h.vo, h.mo, h.hb, h.eq⟩
end Go.Proofs.Ytjlnpppjkdcpkaa.My
namespace Go.Proofs.Ytjlnpppjkdcpkaa.My
open Go.RowKit Go.Proofs.Ytjlnpppjkdcpkaa.NumA
set_option linter.unusedVariables false
section
variable {P : Program} {ops : Array Oper} {Q : Exit → Act → World → Prop} {md : Region.Mode} {S : World → Prop} {k : Nat}
/-- S is owed behind each operation as long as number k has not come up -/
def wpTill (P : Program) (md : Region.Mode) (ops : Array Oper) (Q : Exit → Act → World → Prop) (S : World → Prop) (k : Nat) : Nat → Array Bool → Act → World → Prop
  | 0, listed, a, w => Region.ready md ops listed = [] ∧ Q .normal a w
  | fuel + 1, listed, a, w => (Region.ready md ops listed = [] → Q .normal a w) ∧
    ∀ i ∈ Region.ready md ops listed, wpOp P ops Q i (fun a' w' => ((listed.setIfInBounds i true).getD k true = false → S w') ∧ wpTill P md ops Q S k fuel (listed.setIfInBounds i true) a' w') a w
/-- what has come up has all that it waits for behind it -/
def Downward (md : Region.Mode) (ops : Array Oper) (listed : Array Bool) : Prop := ∀ j o, ops[j]? = some o → listed.getD j true = true → ∀ e ∈ o.after, Region.binds md e = true → listed.getD e.on false = true
theorem Downward.put {listed : Array Bool} (h : Downward md ops listed) {j : Nat} (hj : j ∈ Region.ready md ops listed) : Downward md ops (listed.setIfInBounds j true) := fun i o ho hl e he hb => by
  obtain ⟨_, oj, hoj, hall⟩ := mem_ready.1 hj
  by_cases hij : j = i
  · subst hij
    rw [hoj] at ho; cases ho
    exact getD_set_true (hall e he hb)
  · rw [getD_set_ne true hij] at hl
    exact getD_set_true (h i o ho hl e he hb)
def TillAll (P : Program) (md : Region.Mode) (ops : Array Oper) (Q : Exit → Act → World → Prop) (S : World → Prop) (k fuel : Nat) (listed : Array Bool) (a : Act) (w : World) (rs : List Nat) : Prop :=
  ∀ i ∈ rs, wpOp P ops Q i (fun a' w' => ((listed.setIfInBounds i true).getD k true = false → S w') ∧ wpTill P md ops Q S k fuel (listed.setIfInBounds i true) a' w') a w
theorem TillAll.nil {fuel : Nat} {listed : Array Bool} {a : Act} {w : World} : TillAll P md ops Q S k fuel listed a w [] := fun _ h => by cases h
theorem TillAll.cons {fuel : Nat} {listed : Array Bool} {a : Act} {w : World} {i : Nat} {o : Oper} {rs : List Nat} (ho : ops[i]? = some o)
    (h : ∀ K' : Act → World → Prop, Shut (∀ a w, ((listed.setIfInBounds i true).getD k true = false → S w) → wpTill P md ops Q S k fuel (listed.setIfInBounds i true) a w → K' a w) → if Region.wanted o (yielded ops a.tmps) = true then Oper.wp P o a w K' Q else K' (a.put o.dst undef) w)
    (hs : TillAll P md ops Q S k fuel listed a w rs) : TillAll P md ops Q S k fuel listed a w (i :: rs) := fun j hj => by
  rcases List.mem_cons.1 hj with rfl | hj
  · exact wpOp_step ho (fun K' hK => h K' (fun a w hS hW => hK a w ⟨hS, hW⟩))
  · exact hs j hj
end
end Go.Proofs.Ytjlnpppjkdcpkaa.My
namespace Go.Proofs.Ytjlnpppjkdcpkaa.My
open Go.RowKit Go.Proofs.Ytjlnpppjkdcpkaa.NumA
set_option linter.unusedVariables false
set_option linter.unusedSimpArgs false
/-- how a run ended -/
def howE : Option (Int × Int) → Int × Int
  | none => (1, 0)
  | some x => x
end Go.Proofs.Ytjlnpppjkdcpkaa.My
