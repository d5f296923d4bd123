/- The evaluator's blocks, walked. Conditions: the tree was there in the world W, which is kept; the machine lies in memory. -/
import Derived.Test.YtjlnpppjkdcpkaaGfEvM
import Derived.BigRegion
namespace Go.Proofs.Ytjlnpppjkdcpkaa.My
open Go.RowKit Go.Proofs.Ytjlnpppjkdcpkaa.NumA
set_option linter.unusedVariables false
set_option linter.unusedSimpArgs false
/-- the types of the boxes that stay -/
def bt (i : Fin 3) : TypeId := if i = 0 then 36 else if i = 1 then 87 else 55
structure Fx (W w w' : World) : Prop where
  below : Below W.heap.size w w'
  boxes : ∀ (k : Nat) (cs : Array Value × Fin 3), w.heap[k]? = some (.cells cs.1 (bt cs.2) (0, 0)) → w'.heap[k]? = some (.cells cs.1 (bt cs.2) (0, 0))
theorem Fx.refl (W w : World) : Fx W w w := ⟨Below.refl _ _, fun _ _ h => h⟩
theorem Fx.trans {W w w1 w2 : World} (h : Fx W w w1) (k : Fx W w1 w2) : Fx W w w2 := ⟨h.below.trans k.below, fun i cs hi => k.boxes i cs (h.boxes i cs hi)⟩
/-- what is bounded by the ticks -/
structure szE (S : Ev) : Prop where
  n : (S.names.length : Int) ≤ S.ticks + 3
  o : (S.outs.length : Int) ≤ S.ticks
  i : (S.intos.length : Int) ≤ S.ticks
  t : 0 ≤ S.ticks
theorem szE.tick {S : Ev} (h : szE S) : szE S.tick := ⟨by have := h.n; simp only [Ev.tick]; omega, by have := h.o; simp only [Ev.tick]; omega, by have := h.i; simp only [Ev.tick]; omega, by have := h.t; simp only [Ev.tick]; omega⟩
def EvIn (w : World) (p base : Nat) (B : Int) (S : Ev) : Prop := ∃ N V M O I, EvAt w p base B S N V M O I
theorem EvIn.below {w w' : World} {p base : Nat} {B : Int} {S : Ev} (h : EvIn w p base B S) (hB : Below w.heap.size w w') : EvIn w' p base B S := by
  obtain ⟨N, V, M, O, I, h⟩ := h
  exact ⟨N, V, M, O, I, h.below hB⟩
theorem Row.cutTo {w : World} {e : TypeId} {size n m : Nat} {A : Option Addr} {c : Nat} {xs : List Value} (h : Row w e size (.slice A n c) n xs) (hm : m ≤ n) : Row w e size (.slice A m c) m (xs.take (m * size)) := by
  rcases h.2 with ⟨h2, rfl⟩ | ⟨g, cap, cur, h2, hg, h3, h4, h5, h6⟩
  · have hm0 : m = 0 := by omega
    subst hm0
    injection h2 with h2 _ h7; subst h2; subst h7
    exact ⟨by simp, .inl ⟨rfl, rfl⟩⟩
  · injection h2 with h2 _ h7; subst h2; subst h7
    have hle : m * size ≤ n * size := Nat.mul_le_mul_right _ hm
    exact ⟨by rw [List.length_take, h.1]; omega, .inr ⟨g, c, cur, rfl, hg, by omega, h4, h5, by rw [← h6, List.take_take, Nat.min_eq_left hle]⟩⟩
theorem Fx.keep {W w w1 w2 : World} (h : Fx W w w1) {Os : Nat → Prop} (k : Keep Os w1 w2) (hW : W.heap.size ≤ w1.heap.size) (h1 : ∀ q, Os q → W.heap.size ≤ q) (h2 : ∀ (q : Nat) (cs : Array Value × Fin 3), Os q → w1.heap[q]? ≠ some (.cells cs.1 (bt cs.2) (0, 0))) : Fx W w w2 :=
  h.trans ⟨k.toBelow hW h1, fun q cs hq => k.blk hq fun ho => h2 q cs ho hq⟩
theorem EvAt.back {w w' : World} {p base : Nat} {B : Int} {S : Ev} {A1 A2 : Option Addr} {n c1 c2 : Nat} {M O I : Value} (h : EvAt w p base B S (.slice A1 S.names.length c1) (.slice A2 S.vals.length c2) M O I) (hn : n ≤ S.names.length) (k : Keep (fun q => q = p) w w')
    (hb : w'.heap[p]? = some (.cells (mCells (.slice A1 n c1) (.slice A2 n c2) M O I S.ticks B) 91 (0, 0))) : EvAt w' p base B (S.back n) (.slice A1 n c1) (.slice A2 n c2) M O I :=
  have far : ∀ {v : Value} {z n : Nat} {ty : TypeId} {xs : List Value}, Row w ty z v n xs → ty ≠ 91 → Row w' ty z v n xs := fun hr hne => hr.keep fun g hg => k.block g (hr.lt hg) (fun e => hr.ne h.blk hne (by rw [hg, e]))
  have e1 : (S.back n).names.length = n := by simp only [Ev.back, List.length_take]; omega
  have e2 : (S.back n).vals.length = n := by have := h.eq; simp only [Ev.back, List.length_take]; omega
  ⟨hb, by rw [e1]; have q := (far h.names (by decide)).cutTo hn; simpa [strs, Ev.back, List.map_take] using q, by rw [e2]; have q := (far h.vals (by decide)).cutTo (m := n) (by have := h.eq; omega); simpa [nums, Ev.back, List.map_take] using q,
    far h.mem (by decide), far h.outs (by decide), far h.intos (by decide), fun g hg => h.fn g ((own_any _ _ _ _ _).trans hg), fun g hg => h.fv g ((own_any _ _ _ _ _).trans hg), h.fm, h.fo, h.fi, fun g hg => h.vm g ((own_any _ _ _ _ _).trans hg), fun g hg => h.vo g ((own_any _ _ _ _ _).trans hg), h.mo, h.hb, by rw [e1, e2]⟩
end Go.Proofs.Ytjlnpppjkdcpkaa.My
