/- The evaluator's machine in memory; its names, its ticks, its places. Conditions: the machine lies in memory. -/
import Derived.Test.YtjlnpppjkdcpkaaGfEvL
import Derived.Test.YtjlnpppjkdcpkaaGfCom
import Derived.Test.YtjlnpppjkdcpkaaGfTrN
import Derived.Test.YtjlnpppjkdcpkaaGfNameW2
import Derived.WalkLawsBesides
namespace Go.Proofs.Ytjlnpppjkdcpkaa.My
open Go.RowKit Go.Proofs.Ytjlnpppjkdcpkaa.NumA
set_option linter.unusedVariables false
set_option linter.unusedSimpArgs false
def nums (l : List Int) : List Value := l.map (Value.int .i64)
def strs (l : List ByteArray) : List Value := l.map Value.string
def intoCells : List (Int × Int) → List Value
  | [] => []
  | x :: l => .int .i64 x.1 :: .int .i64 x.2 :: intoCells l
theorem nums_get {l : List Int} {j : Nat} (hj : j < l.length) : (nums l)[j]? = some (.int .i64 (l.getD j 0)) := by
  simp [nums, List.getD, hj]
theorem grown_blk {w w' : World} {row : Option Nat} {g : Nat} {o : Obj} (h : w.grownBy w' row) (hg : w.heap[g]? = some o) (hn : row ≠ some g) : w'.heap[g]? = some o := (h.block g (blk_lt hg) (fun e => hn e.symm)).trans hg
theorem Row.far {w w' : World} {e : TypeId} {s n : Nat} {v : Value} {xs : List Value} (h : Row w e s v n xs) {b i : Nat} {u : Value} (hb : ∀ q, v.ownBlock = some q → w'.heap[q]? = w.heap[q]?) (hn : v.ownBlock ≠ some b) : Row (w'.setCell ⟨b, i, none⟩ u) e s v n xs :=
  h.keep fun q hq => (Below.heap_setCell w' ⟨b, i, none⟩ u q (fun e1 => hn (by rw [hq, e1]))).trans (hb q hq)
theorem Row.put {w : World} {t : TypeId} {g c n : Nat} {xs : List Value} (h : Row w t 1 (.slice (some ⟨g, 0, none⟩) n c) n xs) (j : Nat) (u : Value) : Row (w.setCell ⟨g, j, none⟩ u) t 1 (.slice (some ⟨g, 0, none⟩) n c) n (xs.set j u) := by
  refine ⟨by simpa using h.1, ?_⟩
  rcases h.2 with ⟨h2, _⟩ | ⟨g', cap, cur, h2, hg, h3, h4, h5, h6⟩
  · cases h2
  · injection h2 with h2 _ h7
    injection h2 with h2; injection h2 with h2 _ _
    subst h2; subst h7
    refine .inr ⟨g, c, _, rfl, blk_set hg j u, h3, h4, by simpa using h5, ?_⟩
    rw [Array.toList_setIfInBounds, List.take_set, h6]
theorem grown_undrew {w w' : World} {row : Option Nat} (h : w.drew.grownBy w' row) : w.grownBy w' row := ⟨h.os, h.tape, h.output, h.size, h.block⟩
theorem Row.bound {w : World} {t : TypeId} {z n : Nat} {v : Value} {xs : List Value} (h : Row w t z v n xs) : n ≤ maxLen := by
  rcases h.2 with ⟨_, rfl⟩ | ⟨_, cap, _, _, _, h1, h2, _⟩
  · exact Nat.zero_le _
  · omega
theorem Row.below {w w' : World} {t : TypeId} {z n : Nat} {v : Value} {xs : List Value} (h : Row w t z v n xs) (hB : Below w.heap.size w w') : Row w' t z v n xs := h.keep fun g hg => hB.block g (h.lt hg)
theorem Row.cellA {w : World} {e : TypeId} {size n c : Nat} {A : Option Addr} {xs : List Value} (h : Row w e size (.slice A n c) n xs) {j : Nat} {u : Value} (hj : xs[j]? = some u) : ∃ g, A = some ⟨g, 0, none⟩ ∧ w.cell? ⟨g, j, none⟩ = some u := by
  obtain ⟨g, d, h1, h2, _⟩ := h.cell hj
  injection h1 with h1 _ _
  exact ⟨g, h1, h2⟩
def mCells (N V M O I : Value) (ticks B : Int) : Array Value := #[N, V, M, O, I, .int .i64 0, .int .i64 0, .int .i64 ticks, .int .i64 B]
/-- a machine at p: its rows lie in blocks from base on, each of numbers apart -/
structure EvAt (w : World) (p base : Nat) (B : Int) (S : Ev) (N V M O I : Value) : Prop where
  blk : w.heap[p]? = some (.cells (mCells N V M O I S.ticks B) 91 (0, 0))
  names : Row w 9 1 N S.names.length (strs S.names)
  vals : Row w 2 1 V S.vals.length (nums S.vals)
  mem : Row w 2 1 M S.mem.length (nums S.mem)
  outs : Row w 2 1 O S.outs.length (nums S.outs)
  intos : Row w 98 2 I S.intos.length (intoCells S.intos)
  fn : ∀ g, N.ownBlock = some g → base ≤ g
  fv : ∀ g, V.ownBlock = some g → base ≤ g
  fm : ∀ g, M.ownBlock = some g → base ≤ g
  fo : ∀ g, O.ownBlock = some g → base ≤ g
  fi : ∀ g, I.ownBlock = some g → base ≤ g
  vm : ∀ g, V.ownBlock = some g → M.ownBlock ≠ some g
  vo : ∀ g, V.ownBlock = some g → O.ownBlock ≠ some g
  mo : ∀ g, M.ownBlock = some g → O.ownBlock ≠ some g
  hb : base ≤ p
  eq : S.names.length = S.vals.length
theorem EvAt.below {w w' : World} {p base : Nat} {B : Int} {S : Ev} {N V M O I : Value} (h : EvAt w p base B S N V M O I) (hB : Below w.heap.size w w') : EvAt w' p base B S N V M O I :=
  ⟨below_blk hB h.blk (blk_lt h.blk), h.names.below hB, h.vals.below hB, h.mem.below hB, h.outs.below hB, h.intos.below hB, h.fn, h.fv, h.fm, h.fo, h.fi, h.vm, h.vo, h.mo, h.hb, h.eq⟩
theorem EvAt.drewN {w : World} {p base : Nat} {B : Int} {S : Ev} {N V M O I : Value} (h : EvAt w p base B S N V M O I) (k : Nat) : EvAt (w.drewN k) p base B S N V M O I := h.below (below_drewN (Below.refl _ _) k)
end Go.Proofs.Ytjlnpppjkdcpkaa.My
