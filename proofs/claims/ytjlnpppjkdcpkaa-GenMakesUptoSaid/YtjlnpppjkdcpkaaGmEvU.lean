/- What a run hands back, be it an error or an effect; what a row of numbers is after each was made another one. Conditions: the tree was there in the world W, which is kept. -/
import Derived.Test.YtjlnpppjkdcpkaaGmNameH
import Derived.Test.YtjlnpppjkdcpkaaGmEvR
import Derived.Test.YtjlnpppjkdcpkaaGmTrP
import Derived.Deep.CutRange
namespace Go.Proofs.Ytjlnpppjkdcpkaa.My
open Go.RowKit Go.Maps
theorem great_calls (W : World) (l : List Stmt) (A : Option Addr) (c : Nat) (hrd : Stmt.rds W l A 0) (hl : Stmt.nodesL l ≤ 1000000000) (w : World) (hB : Below W.heap.size W w) :
    Calls Try.prog 12 #[.slice A l.length c] w (AnyB w) := by
  have hI := nodes_calls W _ l A c (Nat.le_refl _) hrd hl w hB
  go_enter Try.func12, Try.ntmps12
  go_wp2_with (go_at_call 28; go_must (refine hI.mono ?_); rintro y w1 ⟨z, rfl, hb1⟩)
  all_goals
    go_ret
    exact ⟨_, rfl, hb1⟩
end Go.Proofs.Ytjlnpppjkdcpkaa.My
namespace Go.Proofs.Ytjlnpppjkdcpkaa.My
open Go.RowKit Go.Proofs.Ytjlnpppjkdcpkaa.NumA
set_option linter.unusedVariables false
set_option linter.unusedSimpArgs false
/-- an effect's rows in memory -/
structure Rows3 (w : World) (e : Ev) (M O I : Value) : Prop where
  mem : Row w 2 1 M e.mem.length (nums e.mem)
  outs : Row w 2 1 O e.outs.length (nums e.outs)
  intos : Row w 98 2 I e.intos.length (intoCells e.intos)
theorem Rows3.below {w w' : World} {e : Ev} {M O I : Value} (h : Rows3 w e M O I) (hB : Below w.heap.size w w') : Rows3 w' e M O I := ⟨h.mem.below hB, h.outs.below hB, h.intos.below hB⟩
theorem OutAt.below {w w' : World} {base : Nat} {S : Ev} {M O I : Value} (h : OutAt w base S M O I) (hB : Below w.heap.size w w') : OutAt w' base S M O I := ⟨h.mem.below hB, h.outs.below hB, h.intos.below hB, h.fm, h.fo, h.fi, h.mo⟩
end Go.Proofs.Ytjlnpppjkdcpkaa.My
namespace Go.Proofs.Ytjlnpppjkdcpkaa.My
open Go.RowKit Go.Proofs.Ytjlnpppjkdcpkaa.NumA
set_option linter.unusedVariables false
set_option linter.unusedSimpArgs false
theorem els {w : World} {g : Nat} {arr : Array Value} {t : TypeId} (h : w.heap[g]? = some (.cells arr t (0, 0))) (o : Nat) (cs : List Value) (hc : ∀ j, j < cs.length → arr[o + j]? = cs[j]?) : ∀ j u, cs[j]? = some u → w.cell? ⟨g, o + j, none⟩ = some u := by
  intro j u hu
  rw [blk_cell h, hc j, hu]
  exact (List.getElem?_eq_some_iff.1 hu).1
theorem j5 (arr : Array Value) (cs : List Value) (o : Nat) (hl : cs.length = 5) (h0 : arr[o]? = cs[0]?) (h1 : arr[o + 1]? = cs[1]?) (h2 : arr[o + 2]? = cs[2]?) (h3 : arr[o + 3]? = cs[3]?) (h4 : arr[o + 4]? = cs[4]?) : ∀ j, j < cs.length → arr[o + j]? = cs[j]? := by
  intro j hj
  have hj' : j = 0 ∨ j = 1 ∨ j = 2 ∨ j = 3 ∨ j = 4 := by omega
  rcases hj' with rfl | rfl | rfl | rfl | rfl
  · exact h0
  · exact h1
  · exact h2
  · exact h3
  · exact h4
theorem i6 (arr : Array Value) (cs : List Value) (o : Nat) (hl : cs.length = 6) (h0 : arr[o]? = cs[0]?) (h1 : arr[o + 1]? = cs[1]?) (h2 : arr[o + 2]? = cs[2]?) (h3 : arr[o + 3]? = cs[3]?) (h4 : arr[o + 4]? = cs[4]?) (h5 : arr[o + 5]? = cs[5]?) : ∀ j, j < cs.length → arr[o + j]? = cs[j]? := by
  intro j hj
  have hj' : j = 0 ∨ j = 1 ∨ j = 2 ∨ j = 3 ∨ j = 4 ∨ j = 5 := by omega
  rcases hj' with rfl | rfl | rfl | rfl | rfl | rfl
  · exact h0
  · exact h1
  · exact h2
  · exact h3
  · exact h4
  · exact h5
theorem laidE1 {w : World} {e : Expr} {x0 x1 x2 x3 x4 : Value} {T : TypeId} (h : e.rd w [x0, x1, x2, x3, x4]) : Expr.rds (w.alloc (.cells #[x0, x1, x2, x3, x4] T)) [e] (some ⟨w.heap.size, 0, none⟩) 0 := by
  simp only [Expr.rds]
  exact ⟨⟨_, 0, _, rfl, Expr.rd_keep (Below.refl _ _).al h, els (blk_new w _) 0 _ (j5 _ _ _ rfl rfl rfl rfl rfl rfl)⟩, trivial⟩
theorem laidE2 {w : World} {e f : Expr} {x0 x1 x2 x3 x4 y0 y1 y2 y3 y4 : Value} {T : TypeId} (h : e.rd w [x0, x1, x2, x3, x4]) (h' : f.rd w [y0, y1, y2, y3, y4]) : Expr.rds (w.alloc (.cells #[x0, x1, x2, x3, x4, y0, y1, y2, y3, y4] T)) [e, f] (some ⟨w.heap.size, 0, none⟩) 0 := by
  simp only [Expr.rds]
  exact ⟨⟨_, 0, _, rfl, Expr.rd_keep (Below.refl _ _).al h, els (blk_new w _) 0 _ (j5 _ _ _ rfl rfl rfl rfl rfl rfl)⟩, ⟨_, 0, _, rfl, Expr.rd_keep (Below.refl _ _).al h', els (blk_new w _) 5 _ (j5 _ _ _ rfl rfl rfl rfl rfl rfl)⟩, trivial⟩
theorem laidS1 {w : World} {e : Stmt} {x0 x1 x2 x3 x4 x5 : Value} {T : TypeId} (h : e.rd w [x0, x1, x2, x3, x4, x5]) : Stmt.rds (w.alloc (.cells #[x0, x1, x2, x3, x4, x5] T)) [e] (some ⟨w.heap.size, 0, none⟩) 0 := by
  simp only [Stmt.rds]
  exact ⟨⟨_, 0, _, rfl, Stmt.rd_keep (Below.refl _ _).al h, els (blk_new w _) 0 _ (i6 _ _ _ rfl rfl rfl rfl rfl rfl rfl)⟩, trivial⟩
theorem mkE {w : World} {k n o : Int} {s : ByteArray} {l : List Expr} {A : Option Addr} {c : Nat} (hs : s.size ≤ maxLen) (hc : l.length ≤ c) (h : Expr.rds w l A 0) : Expr.rd w (.mk k n s o l) [.int .i64 k, .int .i64 n, .string s, .int .i64 o, .slice A l.length c] := by
  unfold Expr.rd
  exact ⟨_, _, rfl, hc, hs, h⟩
theorem mkS {w : World} {k n : Int} {s : ByteArray} {l : List Expr} {A : Option Addr} {c : Nat} (hs : s.size ≤ maxLen) (hc : l.length ≤ c) (h : Expr.rds w l A 0) : Stmt.rd w (.mk k s n l [] []) [.int .i64 k, .string s, .int .i64 n, .slice A l.length c, .slice none 0 0, .slice none 0 0] := by
  unfold Stmt.rd
  exact ⟨_, _, _, _, _, _, rfl, hc, Nat.le_refl _, Nat.le_refl _, hs, h, by simp [Stmt.rds], by simp [Stmt.rds]⟩
def numE (n : Int) : Expr := .mk 1 n ⟨#[]⟩ 0 []
def iE : Expr := .mk 2 0 ⟨#[105]⟩ 0 []
def addE : Expr := .mk 5 0 ⟨#[]⟩ 1 [iE, numE 1]
def memE : Expr := .mk 3 0 ⟨#[]⟩ 0 [numE 1]
def mulE : Expr := .mk 5 0 ⟨#[]⟩ 3 [memE, numE 2]
def st1 : Stmt := .mk 3 ⟨#[]⟩ 0 [numE 1, addE] [] []
def st2 : Stmt := .mk 4 ⟨#[]⟩ 0 [mulE] [] []
end Go.Proofs.Ytjlnpppjkdcpkaa.My
namespace Go.Proofs.Ytjlnpppjkdcpkaa.My
open Go.RowKit Go.Proofs.Ytjlnpppjkdcpkaa.NumA
set_option linter.unusedVariables false
set_option linter.unusedSimpArgs false
/-- an effect with its numbers, and the error -/
structure Res where
  S : Ev
  ov : Int
  va : Int
  st : Int
  code : Int
def emptyS : Ev := ⟨[], [], [], [], [], 0⟩
def Ran (ss : List Stmt) (L : Int) (mem : List Int) (n i k B : Int) (r : Res) : Prop :=
  (runErr ss L mem.length B = 0 ∧ r.code = 0 ∧ ∃ o, Does B (.block ss) (startS mem n i k) r.S o ∧ r.ov = (howE o).1 ∧ r.va = (howE o).2 ∧ r.st = r.S.ticks)
  ∨ (runErr ss L mem.length B ≠ 0 ∧ r = ⟨emptyS, 0, 0, 0, runErr ss L mem.length B⟩)
theorem Ran.same {ss : List Stmt} {L : Int} {mem : List Int} {n i k B : Int} {r1 r2 : Res} (h1 : Ran ss L mem n i k B r1) (h2 : Ran ss L mem n i k B r2) : r1 = r2 := by
  rcases h1 with ⟨e1, c1, o1, d1, a1, b1, t1⟩ | ⟨e1, rfl⟩
  · rcases h2 with ⟨e2, c2, o2, d2, a2, b2, t2⟩ | ⟨e2, rfl⟩
    · obtain ⟨S1, ov1, va1, st1, code1⟩ := r1
      obtain ⟨S2, ov2, va2, st2, code2⟩ := r2
      simp only at c1 d1 a1 b1 t1 c2 d2 a2 b2 t2
      obtain ⟨hS, ho⟩ := d1.same d2
      subst hS; subst ho
      rw [c1, a1, b1, t1, c2, a2, b2, t2]
    · exact absurd e1 e2
  · rcases h2 with ⟨e2, c2, o2, d2, a2, b2, t2⟩ | ⟨e2, rfl⟩
    · exact absurd e2 e1
    · rfl
theorem Row.freeA {w : World} {e : TypeId} {z n g c : Nat} {xs : List Value} (h : Row w e z (.slice (some ⟨g, 0, none⟩) n c) n xs) (i : Nat) : w.frozen? ⟨g, i, none⟩ = false := by
  rcases h.2 with ⟨h2, _⟩ | ⟨g', cap, cur, h2, hg, _⟩
  · cases h2
  · injection h2 with h2 _ h7
    injection h2 with h2; injection h2 with h2 _ _
    subst h2
    exact blk_free hg i
theorem Row.drewN {w : World} {t : TypeId} {z n : Nat} {v : Value} {xs : List Value} (h : Row w t z v n xs) (k : Nat) : Row (w.drewN k) t z v n xs := h
end Go.Proofs.Ytjlnpppjkdcpkaa.My
