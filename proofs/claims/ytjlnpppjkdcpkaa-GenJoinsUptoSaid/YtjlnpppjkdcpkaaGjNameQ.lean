/- Layer 6: the document's way through a tree, told by the plain functions of 'NameS'. No program in sight. -/
import Derived.Test.YtjlnpppjkdcpkaaGjLib
import Derived.Test.YtjlnpppjkdcpkaaGjNameS
namespace Go.Proofs.Ytjlnpppjkdcpkaa.My
open Go.RowKit
structure Ins where
  kind : Int
  op : Int
  a : Int
  b : Int
  c : Int
  n : Int
instance : Inhabited Ins := ⟨⟨0, 0, 0, 0, 0, 0⟩⟩
def Ins.cells (x : Ins) : List Value := [.int .i64 x.kind, .int .i64 x.op, .int .i64 x.a, .int .i64 x.b, .int .i64 x.c, .int .i64 x.n]
/-- a row of instructions in memory -/
def insRow (w : World) (l : List Ins) (A : Option Addr) : Prop := ∀ j (hj : j < l.length), ∃ b o, A = some ⟨b, o, none⟩ ∧ ∀ m u, (l[j].cells)[m]? = some u → w.cell? ⟨b, o + j * 6 + m, none⟩ = some u
theorem insRow.at {W w : World} {l : List Ins} {A : Option Addr} (h : insRow W l A) (hB : Below W.heap.size W w) {j : Nat} (hj : j < l.length) : ∃ b o, A = some ⟨b, o, none⟩ ∧
    w.cell? ⟨b, o + j * 6, none⟩ = some (.int .i64 l[j].kind) ∧ w.cell? ⟨b, o + j * 6 + 1, none⟩ = some (.int .i64 l[j].op) ∧ w.cell? ⟨b, o + j * 6 + 2, none⟩ = some (.int .i64 l[j].a) ∧ w.cell? ⟨b, o + j * 6 + 3, none⟩ = some (.int .i64 l[j].b) ∧
    w.cell? ⟨b, o + j * 6 + 4, none⟩ = some (.int .i64 l[j].c) ∧ w.cell? ⟨b, o + j * 6 + 5, none⟩ = some (.int .i64 l[j].n) := by
  obtain ⟨b, o, hA, h⟩ := h j hj
  have hc : ∀ m u, (l[j].cells)[m]? = some u → w.cell? ⟨b, o + j * 6 + m, none⟩ = some u := fun m u hu => (hB.cell (World.block_lt_of_cell? W _ (h m u hu))).trans (h m u hu)
  exact ⟨b, o, hA, hc 0 _ rfl, hc 1 _ rfl, hc 2 _ rfl, hc 3 _ rfl, hc 4 _ rfl, hc 5 _ rfl⟩
end Go.Proofs.Ytjlnpppjkdcpkaa.My
namespace Go.Proofs.Ytjlnpppjkdcpkaa.My
mutual
def Expr.names : Expr → List ByteArray
  | .mk k _ s _ as => if k = 2 then [s] else Expr.namesL as
def Expr.namesL : List Expr → List ByteArray
  | [] => []
  | e :: l => e.names ++ Expr.namesL l
end
theorem look_same (S : Sc) (x : ByteArray) : (look S x).2.names = S.names ∧ (look S x).2.cells = S.cells ∧ (look S x).2.most = S.most := by
  unfold look; split <;> exact ⟨rfl, rfl, rfl⟩
theorem declare_cells (S : Sc) (x : ByteArray) : (declare S x).2.cells = S.cells := by
  unfold declare; split
  · rfl
  · split
    · rfl
    · rw [(look_same _ _).2.1]
theorem declare_prefix (S : Sc) (x : ByteArray) : S.names <+: (declare S x).2.names := by
  unfold declare; split
  · exact List.prefix_refl _
  · split
    · exact List.prefix_refl _
    · rw [look_names]; exact List.prefix_append _ _
theorem kindS_cells (S : Sc) (k : Int) (x : ByteArray) (c : Int) : (kindS S k x c).2.cells = S.cells := by
  unfold kindS; split
  · exact declare_cells _ _
  · split
    · exact (look_same _ _).2.1
    · split <;> rfl
theorem kindS_prefix (S : Sc) (k : Int) (x : ByteArray) (c : Int) : S.names <+: (kindS S k x c).2.names := by
  unfold kindS; split
  · exact declare_prefix _ _
  · split
    · rw [look_names]; exact List.prefix_refl _
    · split <;> exact List.prefix_refl _
mutual
theorem exprS_cells (S : Sc) : ∀ e : Expr, (exprS S e).2.cells = S.cells
  | .mk k n s o as => by
    rw [exprS]
    split
    · exact (look_same S s).2.1
    · exact exprsS_cells S as
theorem exprsS_cells (S : Sc) : ∀ l : List Expr, (exprsS S l).2.cells = S.cells
  | [] => by simp [exprsS]
  | e :: l => by
    rw [exprsS]
    have h1 := exprS_cells S e
    split
    · rw [exprsS_cells, h1]
    · exact h1
end
mutual
theorem stmtS_cells (S : Sc) : ∀ s : Stmt, (stmtS S s).2.cells = S.cells
  | .mk k s c as bs es => by
    rw [stmtS]
    have h1 := exprsS_cells S as
    have h2 := kindS_cells (exprsS S as).2 k s c
    have h3 := blockS_cells (kindS (exprsS S as).2 k s c).2 bs
    have h4 := blockS_cells (blockS (kindS (exprsS S as).2 k s c).2 bs).2 es
    split
    · dsimp only
      split
      · split
        · rw [h4, h3, h2, h1]
        · rw [h3, h2, h1]
      · rw [h2, h1]
    · exact h1
theorem blockS_cells (S : Sc) (l : List Stmt) : (blockS S l).2.cells = S.cells := by
  rw [blockS]
  exact stmtsS_cells S l
theorem stmtsS_cells (S : Sc) : ∀ l : List Stmt, (stmtsS S l).2.cells = S.cells
  | [] => by simp [stmtsS]
  | e :: l => by
    rw [stmtsS]
    have h1 := stmtS_cells S e
    split
    · rw [stmtsS_cells, h1]
    · exact h1
end
mutual
theorem stmtS_prefix (S : Sc) : ∀ s : Stmt, S.names <+: (stmtS S s).2.names
  | .mk k s c as bs es => by
    rw [stmtS]
    have h1 := exprsS_names S as
    have h2 := kindS_prefix (exprsS S as).2 k s c
    have h3 := blockS_same (kindS (exprsS S as).2 k s c).2 bs
    have h4 := blockS_same (blockS (kindS (exprsS S as).2 k s c).2 bs).2 es
    rw [h1] at h2
    split
    · dsimp only
      split
      · split
        · rw [h4, h3]; exact h2
        · rw [h3]; exact h2
      · exact h2
    · rw [h1]; exact List.prefix_refl _
theorem blockS_same (S : Sc) (l : List Stmt) : (blockS S l).2.names = S.names := by
  rw [blockS]
  exact (List.prefix_iff_eq_take.1 (stmtsS_prefix S l)).symm
theorem stmtsS_prefix (S : Sc) : ∀ l : List Stmt, S.names <+: (stmtsS S l).2.names
  | [] => by simp [stmtsS]
  | e :: l => by
    rw [stmtsS]
    have h1 := stmtS_prefix S e
    split
    · exact h1.trans (stmtsS_prefix (stmtS S e).2 l)
    · exact h1
end
end Go.Proofs.Ytjlnpppjkdcpkaa.My
