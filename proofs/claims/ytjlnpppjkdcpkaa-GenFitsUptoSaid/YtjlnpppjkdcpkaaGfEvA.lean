/- Layer 7: the fact of the layer, alive: it is true. -/
import Derived.Test.YtjlnpppjkdcpkaaGfEvR
import Derived.Test.YtjlnpppjkdcpkaaGfCom
import Derived.Deep.CutRange
namespace Go.Proofs.Ytjlnpppjkdcpkaa.My
open Go.RowKit Go.Proofs.Ytjlnpppjkdcpkaa.NumA
set_option linter.unusedVariables false
set_option linter.unusedSimpArgs false
theorem els {w : World} {g : Nat} {arr : Array Value} {t : TypeId} (h : w.heap[g]? = some (.cells arr t (0, 0))) (o : Nat) (cs : List Value) (hc : ∀ j, j < cs.length → arr[o + j]? = cs[j]?) : ∀ j u, cs[j]? = some u → w.cell? ⟨g, o + j, none⟩ = some u := by
  intro j u hu
  rw [blk_cell h, hc j, hu]
  exact (List.getElem?_eq_some_iff.1 hu).1
theorem j5 (arr : Array Value) (cs : List Value) (o : Nat) (hl : cs.length = 5) (h0 : arr[o]? = cs[0]?) (h1 : arr[o + 1]? = cs[1]?) (h2 : arr[o + 2]? = cs[2]?) (h3 : arr[o + 3]? = cs[3]?) (h4 : arr[o + 4]? = cs[4]?) : ∀ j, j < cs.length → arr[o + j]? = cs[j]? := by
  intro j hj
  have hj' : j = 0 ∨ j = 1 ∨ j = 2 ∨ j = 3 ∨ j = 4 := by omega
  rcases hj' with rfl | rfl | rfl | rfl | rfl
  · exact h0
  · exact h1
  · exact h2
  · exact h3
  · exact h4
theorem i6 (arr : Array Value) (cs : List Value) (o : Nat) (hl : cs.length = 6) (h0 : arr[o]? = cs[0]?) (h1 : arr[o + 1]? = cs[1]?) (h2 : arr[o + 2]? = cs[2]?) (h3 : arr[o + 3]? = cs[3]?) (h4 : arr[o + 4]? = cs[4]?) (h5 : arr[o + 5]? = cs[5]?) : ∀ j, j < cs.length → arr[o + j]? = cs[j]? := by
  intro j hj
  have hj' : j = 0 ∨ j = 1 ∨ j = 2 ∨ j = 3 ∨ j = 4 ∨ j = 5 := by omega
  rcases hj' with rfl | rfl | rfl | rfl | rfl | rfl
  · exact h0
  · exact h1
  · exact h2
  · exact h3
  · exact h4
  · exact h5
theorem laidE1 {w : World} {e : Expr} {x0 x1 x2 x3 x4 : Value} {T : TypeId} (h : e.rd w [x0, x1, x2, x3, x4]) : Expr.rds (w.alloc (.cells #[x0, x1, x2, x3, x4] T)) [e] (some ⟨w.heap.size, 0, none⟩) 0 := by
  simp only [Expr.rds]
  exact ⟨⟨_, 0, _, rfl, Expr.rd_keep (Below.refl _ _).al h, els (blk_new w _) 0 _ (j5 _ _ _ rfl rfl rfl rfl rfl rfl)⟩, trivial⟩
theorem laidE2 {w : World} {e f : Expr} {x0 x1 x2 x3 x4 y0 y1 y2 y3 y4 : Value} {T : TypeId} (h : e.rd w [x0, x1, x2, x3, x4]) (h' : f.rd w [y0, y1, y2, y3, y4]) : Expr.rds (w.alloc (.cells #[x0, x1, x2, x3, x4, y0, y1, y2, y3, y4] T)) [e, f] (some ⟨w.heap.size, 0, none⟩) 0 := by
  simp only [Expr.rds]
  exact ⟨⟨_, 0, _, rfl, Expr.rd_keep (Below.refl _ _).al h, els (blk_new w _) 0 _ (j5 _ _ _ rfl rfl rfl rfl rfl rfl)⟩, ⟨_, 0, _, rfl, Expr.rd_keep (Below.refl _ _).al h', els (blk_new w _) 5 _ (j5 _ _ _ rfl rfl rfl rfl rfl rfl)⟩, trivial⟩
theorem laidS1 {w : World} {e : Stmt} {x0 x1 x2 x3 x4 x5 : Value} {T : TypeId} (h : e.rd w [x0, x1, x2, x3, x4, x5]) : Stmt.rds (w.alloc (.cells #[x0, x1, x2, x3, x4, x5] T)) [e] (some ⟨w.heap.size, 0, none⟩) 0 := by
  simp only [Stmt.rds]
  exact ⟨⟨_, 0, _, rfl, Stmt.rd_keep (Below.refl _ _).al h, els (blk_new w _) 0 _ (i6 _ _ _ rfl rfl rfl rfl rfl rfl rfl)⟩, trivial⟩
theorem mkE {w : World} {k n o : Int} {s : ByteArray} {l : List Expr} {A : Option Addr} {c : Nat} (hs : s.size ≤ maxLen) (hc : l.length ≤ c) (h : Expr.rds w l A 0) : Expr.rd w (.mk k n s o l) [.int .i64 k, .int .i64 n, .string s, .int .i64 o, .slice A l.length c] := by
  unfold Expr.rd
  exact ⟨_, _, rfl, hc, hs, h⟩
theorem mkS {w : World} {k n : Int} {s : ByteArray} {l : List Expr} {A : Option Addr} {c : Nat} (hs : s.size ≤ maxLen) (hc : l.length ≤ c) (h : Expr.rds w l A 0) : Stmt.rd w (.mk k s n l [] []) [.int .i64 k, .string s, .int .i64 n, .slice A l.length c, .slice none 0 0, .slice none 0 0] := by
  unfold Stmt.rd
  exact ⟨_, _, _, _, _, _, rfl, hc, Nat.le_refl _, Nat.le_refl _, hs, h, by simp [Stmt.rds], by simp [Stmt.rds]⟩
def numE (n : Int) : Expr := .mk 1 n ⟨#[]⟩ 0 []
def iE : Expr := .mk 2 0 ⟨#[105]⟩ 0 []
def addE : Expr := .mk 5 0 ⟨#[]⟩ 1 [iE, numE 1]
def memE : Expr := .mk 3 0 ⟨#[]⟩ 0 [numE 1]
def mulE : Expr := .mk 5 0 ⟨#[]⟩ 3 [memE, numE 2]
def st1 : Stmt := .mk 3 ⟨#[]⟩ 0 [numE 1, addE] [] []
def st2 : Stmt := .mk 4 ⟨#[]⟩ 0 [mulE] [] []
end Go.Proofs.Ytjlnpppjkdcpkaa.My
