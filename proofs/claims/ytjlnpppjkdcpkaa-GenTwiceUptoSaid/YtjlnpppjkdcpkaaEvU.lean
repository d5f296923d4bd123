/- What a run hands back, be it an error or an effect; what a row of numbers is after each was made another one. Conditions: the tree was there in the world W, which is kept. -/
import Derived.Test.YtjlnpppjkdcpkaaEvG
import Derived.Test.YtjlnpppjkdcpkaaEvA
namespace Go.Proofs.Ytjlnpppjkdcpkaa.My
open Go.RowKit Go.Proofs.Ytjlnpppjkdcpkaa.NumA
set_option linter.unusedVariables false
set_option linter.unusedSimpArgs false
/-- an effect with its numbers, and the error -/
structure Res where
  S : Ev
  ov : Int
  va : Int
  st : Int
  code : Int
def emptyS : Ev := ⟨[], [], [], [], [], 0⟩
def Ran (ss : List Stmt) (L : Int) (mem : List Int) (n i k B : Int) (r : Res) : Prop :=
  (runErr ss L mem.length B = 0 ∧ r.code = 0 ∧ ∃ o, Does B (.block ss) (startS mem n i k) r.S o ∧ r.ov = (howE o).1 ∧ r.va = (howE o).2 ∧ r.st = r.S.ticks)
  ∨ (runErr ss L mem.length B ≠ 0 ∧ r = ⟨emptyS, 0, 0, 0, runErr ss L mem.length B⟩)
theorem Ran.same {ss : List Stmt} {L : Int} {mem : List Int} {n i k B : Int} {r1 r2 : Res} (h1 : Ran ss L mem n i k B r1) (h2 : Ran ss L mem n i k B r2) : r1 = r2 := by
  rcases h1 with ⟨e1, c1, o1, d1, a1, b1, t1⟩ | ⟨e1, rfl⟩
  · rcases h2 with ⟨e2, c2, o2, d2, a2, b2, t2⟩ | ⟨e2, rfl⟩
    · obtain ⟨S1, ov1, va1, st1, code1⟩ := r1
      obtain ⟨S2, ov2, va2, st2, code2⟩ := r2
      simp only at c1 d1 a1 b1 t1 c2 d2 a2 b2 t2
      obtain ⟨hS, ho⟩ := d1.same d2
      subst hS; subst ho
      rw [c1, a1, b1, t1, c2, a2, b2, t2]
    · exact absurd e1 e2
  · rcases h2 with ⟨e2, c2, o2, d2, a2, b2, t2⟩ | ⟨e2, rfl⟩
    · exact absurd e2 e1
    · rfl
theorem run_u (W : World) (ss : List Stmt) (A : Option Addr) (c : Nat) (hrd : Stmt.rds W ss A 0) (hnl : Stmt.nodesL ss ≤ 1000000000) (L : Int) (mem : List Int) (AM : Option Addr) (cM : Nat) (n i k B : Int) (w : World) (hB : Below W.heap.size W w) (hm : numRow w mem AM) (hml : mem.length ≤ maxLen) :
    Calls Try.prog 22 #[.slice A ss.length c, .int .i64 L, .agg #[.slice AM mem.length cM, .int .i64 n, .int .i64 i, .int .i64 k], .int .i64 B] w fun E w' => ∃ r M O I, Below w.heap.size w w' ∧ Ran ss L mem n i k B r ∧ OutAt w' w.heap.size r.S M O I ∧ E = .returned (.tuple #[.agg #[M, O, I, .int .i64 r.ov, .int .i64 r.va, .int .i64 r.st], .int .i64 r.code]) := by
  refine (run_calls W ss A c hrd hnl L mem AM cM n i k B w hB hm hml).mono ?_
  rintro E w' ⟨hb, h⟩
  split at h
  · rename_i h0
    obtain ⟨S, o, M, O, I, hd, ho, rfl⟩ := h
    exact ⟨⟨S, (howE o).1, (howE o).2, S.ticks, 0⟩, M, O, I, hb, .inl ⟨h0, rfl, o, hd, rfl, rfl, rfl⟩, ho, rfl⟩
  · rename_i h0
    subst h
    exact ⟨⟨emptyS, 0, 0, 0, runErr ss L mem.length B⟩, .slice none 0 0, .slice none 0 0, .slice none 0 0, hb, .inr ⟨h0, rfl⟩, ⟨Row.nil _ _ _, Row.nil _ _ _, Row.nil _ _ _, by simp [Value.ownBlock], by simp [Value.ownBlock], by simp [Value.ownBlock], by simp [Value.ownBlock]⟩, rfl⟩
/-- the first k numbers of a row made others -/
def bump (f : Int → Int) (k : Nat) (l : List Int) : List Int := (l.take k).map f ++ l.drop k
theorem bump_zero (f : Int → Int) (l : List Int) : bump f 0 l = l := by simp [bump]
theorem bump_all (f : Int → Int) (l : List Int) : bump f l.length l = l.map f := by simp [bump]
theorem bump_length (f : Int → Int) (k : Nat) (l : List Int) : (bump f k l).length = l.length := by simp [bump]; omega
theorem bump_get (f : Int → Int) {k : Nat} {l : List Int} (hk : k < l.length) : (nums (bump f k l))[k]? = some (.int .i64 (l.getD k 0)) := by
  simp [nums, bump, List.getElem?_append, hk, Nat.min_eq_left (Nat.le_of_lt hk), List.getD]
theorem bump_succ (f : Int → Int) {k : Nat} {l : List Int} (hk : k < l.length) : (nums (bump f k l)).set k (.int .i64 (f (l.getD k 0))) = nums (bump f (k + 1) l) := by
  apply List.ext_getElem?
  intro j
  rw [List.getElem?_set]
  simp only [nums, bump, List.length_map, List.length_append, List.length_take, List.length_drop, List.getElem?_map, List.getElem?_append, List.getElem?_take, List.getElem?_drop, List.map_append]
  by_cases hj : k = j
  · subst hj
    have h1 : k < min k l.length + (l.length - k) := by omega
    have h2 : k < min (k + 1) l.length := by omega
    simp [h1, h2, hk, List.getD]
  · by_cases h : j < k
    · have h2 : j < min k l.length := by omega
      have h3 : j < min (k + 1) l.length := by omega
      have h4 : j < k + 1 := by omega
      simp [hj, h2, h3, h, h4]
    · have h2 : ¬ j < min k l.length := by omega
      have h3 : ¬ j < min (k + 1) l.length := by omega
      have e1 : k + (j - min k l.length) = j := by omega
      have e2 : k + 1 + (j - min (k + 1) l.length) = j := by omega
      simp [hj, h2, h3, e1, e2]
theorem Row.freeA {w : World} {e : TypeId} {z n g c : Nat} {xs : List Value} (h : Row w e z (.slice (some ⟨g, 0, none⟩) n c) n xs) (i : Nat) : w.frozen? ⟨g, i, none⟩ = false := by
  rcases h.2 with ⟨h2, _⟩ | ⟨g', cap, cur, h2, hg, _⟩
  · cases h2
  · injection h2 with h2 _ h7
    injection h2 with h2; injection h2 with h2 _ _
    subst h2
    exact blk_free hg i
theorem Row.drewN {w : World} {t : TypeId} {z n : Nat} {v : Value} {xs : List Value} (h : Row w t z v n xs) (k : Nat) : Row (w.drewN k) t z v n xs := h
theorem Keep.drewN2 {O : Nat → Prop} {w w1 : World} (h : Keep O w w1) (n : Nat) : Keep O w (w1.drewN n) := ⟨h.os, h.tape, h.output, h.size, h.block⟩
end Go.Proofs.Ytjlnpppjkdcpkaa.My
