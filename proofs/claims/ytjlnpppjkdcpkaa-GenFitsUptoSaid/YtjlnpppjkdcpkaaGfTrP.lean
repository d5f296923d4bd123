/- Which statements may be, in plain Lean; 'nm' says which texts are names. No program in sight. -/
import Derived.Test.YtjlnpppjkdcpkaaGfLib
namespace Go.Proofs.Ytjlnpppjkdcpkaa.My
open Go.RowKit
def wantE (k : Int) : Int := if k = 5 then 2 else if k = 3 ∨ k = 4 then 1 else 0
def fieldsB (nm : ByteArray → Bool) (k n : Int) (s : ByteArray) (o : Int) : Bool :=
  (if k = 1 then decide (0 ≤ n) else decide (n = 0)) && (if k = 2 then nm s else decide (s = ByteArray.empty)) && (if k = 4 then decide (19 ≤ o ∧ o ≤ 21) else if k = 5 then decide (1 ≤ o ∧ o ≤ 18) else decide (o = 0))
mutual
def Expr.rightB (nm : ByteArray → Bool) (deep : Nat) : Expr → Bool
  | .mk k n s o la => decide (deep ≤ 48) && decide (1 ≤ k ∧ k ≤ 5) && decide ((la.length : Int) = wantE k) && fieldsB nm k n s o && Expr.rightsB nm (deep + 1) la
def Expr.rightsB (nm : ByteArray → Bool) (deep : Nat) : List Expr → Bool
  | [] => true
  | e :: l => e.rightB nm deep && Expr.rightsB nm deep l
end
def wantA (k : Int) : Int := if k = 3 then 2 else if k = 9 then 0 else 1
def headB (nm : ByteArray → Bool) (k : Int) (s : ByteArray) (c : Int) (args body els : Nat) : Bool :=
  decide (1 ≤ k ∧ k ≤ 9) && decide ((args : Int) = wantA k) && (if k = 1 ∨ k = 2 then nm s else !nm s && decide (s = ByteArray.empty)) && (if k = 5 then decide (0 ≤ c ∧ c ≤ 255) else decide (c = 0)) &&
    (if k = 6 ∨ k = 7 then true else decide (body = 0)) && (if k = 6 then true else decide (els = 0))
mutual
def Stmt.rightB (nm : ByteArray → Bool) (blocks : Nat) : Stmt → Bool
  | .mk k s c la lb le => headB nm k s c la.length lb.length le.length && Expr.rightsB nm 1 la && (if k = 6 ∨ k = 7 then decide (blocks + 1 ≤ 12) && Stmt.rightsB nm (blocks + 1) lb else true) && (if le.length = 0 then true else decide (blocks + 1 ≤ 12) && Stmt.rightsB nm (blocks + 1) le)
def Stmt.rightsB (nm : ByteArray → Bool) (blocks : Nat) : List Stmt → Bool
  | [] => true
  | s :: l => s.rightB nm blocks && Stmt.rightsB nm blocks l
end
/-- may these statements be? -/
def rightP (nm : ByteArray → Bool) (l : List Stmt) : Bool := Stmt.rightsB nm 0 l && decide (Stmt.nodesL l ≤ 600)
theorem Expr.rightB_eq (nm : ByteArray → Bool) (d : Nat) (e : Expr) : e.rightB nm d = (decide (d ≤ 48) && decide (1 ≤ e.kind ∧ e.kind ≤ 5) && decide ((e.args.length : Int) = wantE e.kind) && fieldsB nm e.kind e.num e.name e.op && Expr.rightsB nm (d + 1) e.args) := by cases e; rfl
theorem Stmt.rightB_eq (nm : ByteArray → Bool) (d : Nat) (e : Stmt) : e.rightB nm d = (headB nm e.kind e.name e.cell e.args.length e.body.length e.els.length && Expr.rightsB nm 1 e.args && (if e.kind = 6 ∨ e.kind = 7 then decide (d + 1 ≤ 12) && Stmt.rightsB nm (d + 1) e.body else true) && (if e.els.length = 0 then true else decide (d + 1 ≤ 12) && Stmt.rightsB nm (d + 1) e.els)) := by cases e; rfl
theorem Expr.rightsB_snoc (nm : ByteArray → Bool) (d : Nat) (e : Expr) : ∀ l : List Expr, Expr.rightsB nm d (l ++ [e]) = (Expr.rightsB nm d l && e.rightB nm d)
  | [] => by simp [Expr.rightsB]
  | x :: l => by simp only [List.cons_append, Expr.rightsB, Expr.rightsB_snoc nm d e l, Bool.and_assoc]
theorem Stmt.rightsB_app (nm : ByteArray → Bool) (d : Nat) (m : List Stmt) : ∀ l : List Stmt, Stmt.rightsB nm d (l ++ m) = (Stmt.rightsB nm d l && Stmt.rightsB nm d m)
  | [] => by simp [Stmt.rightsB]
  | x :: l => by simp only [List.cons_append, Stmt.rightsB, Stmt.rightsB_app nm d m l, Bool.and_assoc]
theorem Expr.rightsB_all {nm : ByteArray → Bool} {d : Nat} : ∀ {l : List Expr}, Expr.rightsB nm d l = true → ∀ e ∈ l, e.rightB nm d = true
  | x :: l, h, e, he => by
    simp only [Expr.rightsB, Bool.and_eq_true] at h
    rcases List.mem_cons.1 he with rfl | he
    · exact h.1
    · exact Expr.rightsB_all h.2 e he
theorem Stmt.rightsB_all {nm : ByteArray → Bool} {d : Nat} : ∀ {l : List Stmt}, Stmt.rightsB nm d l = true → ∀ e ∈ l, e.rightB nm d = true
  | x :: l, h, e, he => by
    simp only [Stmt.rightsB, Bool.and_eq_true] at h
    rcases List.mem_cons.1 he with rfl | he
    · exact h.1
    · exact Stmt.rightsB_all h.2 e he
theorem Stmt.nodesL_app (m : List Stmt) : ∀ l : List Stmt, Stmt.nodesL (l ++ m) = Stmt.nodesL l + Stmt.nodesL m
  | [] => by simp [Stmt.nodesL]
  | x :: l => by simp only [List.cons_append, Stmt.nodesL, Stmt.nodesL_app m l]; omega
theorem Expr.nodesL_app (m : List Expr) : ∀ l : List Expr, Expr.nodesL (l ++ m) = Expr.nodesL l + Expr.nodesL m
  | [] => by simp [Expr.nodesL]
  | x :: l => by simp only [List.cons_append, Expr.nodesL, Expr.nodesL_app m l]; omega
end Go.Proofs.Ytjlnpppjkdcpkaa.My
