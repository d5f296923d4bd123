/- Layer 6: the document's way through a tree, told by the plain functions of 'NameS'. No program in sight. -/
import Derived.Test.YtjlnpppjkdcpkaaGfNameS
namespace Go.Proofs.Ytjlnpppjkdcpkaa.My
mutual
def Expr.names : Expr → List ByteArray
  | .mk k _ s _ as => if k = 2 then [s] else Expr.namesL as
def Expr.namesL : List Expr → List ByteArray
  | [] => []
  | e :: l => e.names ++ Expr.namesL l
end
theorem look_same (S : Sc) (x : ByteArray) : (look S x).2.names = S.names ∧ (look S x).2.cells = S.cells ∧ (look S x).2.most = S.most := by
  unfold look; split <;> exact ⟨rfl, rfl, rfl⟩
theorem declare_cells (S : Sc) (x : ByteArray) : (declare S x).2.cells = S.cells := by
  unfold declare; split
  · rfl
  · split
    · rfl
    · rw [(look_same _ _).2.1]
theorem kindS_cells (S : Sc) (k : Int) (x : ByteArray) (c : Int) : (kindS S k x c).2.cells = S.cells := by
  unfold kindS; split
  · exact declare_cells _ _
  · split
    · exact (look_same _ _).2.1
    · split <;> rfl
mutual
theorem exprS_cells (S : Sc) : ∀ e : Expr, (exprS S e).2.cells = S.cells
  | .mk k n s o as => by
    rw [exprS]
    split
    · exact (look_same S s).2.1
    · exact exprsS_cells S as
theorem exprsS_cells (S : Sc) : ∀ l : List Expr, (exprsS S l).2.cells = S.cells
  | [] => by simp [exprsS]
  | e :: l => by
    rw [exprsS]
    have h1 := exprS_cells S e
    split
    · rw [exprsS_cells, h1]
    · exact h1
end
mutual
theorem stmtS_cells (S : Sc) : ∀ s : Stmt, (stmtS S s).2.cells = S.cells
  | .mk k s c as bs es => by
    rw [stmtS]
    have h1 := exprsS_cells S as
    have h2 := kindS_cells (exprsS S as).2 k s c
    have h3 := blockS_cells (kindS (exprsS S as).2 k s c).2 bs
    have h4 := blockS_cells (blockS (kindS (exprsS S as).2 k s c).2 bs).2 es
    split
    · dsimp only
      split
      · split
        · rw [h4, h3, h2, h1]
        · rw [h3, h2, h1]
      · rw [h2, h1]
    · exact h1
theorem blockS_cells (S : Sc) (l : List Stmt) : (blockS S l).2.cells = S.cells := by
  rw [blockS]
  exact stmtsS_cells S l
theorem stmtsS_cells (S : Sc) : ∀ l : List Stmt, (stmtsS S l).2.cells = S.cells
  | [] => by simp [stmtsS]
  | e :: l => by
    rw [stmtsS]
    have h1 := stmtS_cells S e
    split
    · rw [stmtsS_cells, h1]
    · exact h1
end
end Go.Proofs.Ytjlnpppjkdcpkaa.My
