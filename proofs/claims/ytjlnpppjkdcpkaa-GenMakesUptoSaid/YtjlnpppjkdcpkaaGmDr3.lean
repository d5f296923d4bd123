/- What the document's may says of a statement: the program's own say. No program in sight. -/
import Derived.Test.YtjlnpppjkdcpkaaGmDr2
namespace Go.Proofs.Ytjlnpppjkdcpkaa.My
open Go.RowKit Go.Maps
set_option linter.unusedVariables false
set_option linter.unusedSimpArgs false
theorem nameB_none {s : ByteArray} (h : s.toList = []) : nameB s = false := by
  have := (ss_empty s).2 h
  subst this
  rfl
theorem Expr.rightsB_succ (nm : ByteArray → Bool) (d : Nat) : ∀ (l : List Expr) (k : Nat) (h : k < l.length), Expr.rightsB nm d (l.take (k + 1)) = (Expr.rightsB nm d (l.take k) && (l[k]).rightB nm d)
  | e :: l, 0, _ => by simp [Expr.rightsB]
  | e :: l, k + 1, h => by
    have := Expr.rightsB_succ nm d l k (by simpa using h)
    rw [List.take_succ_cons, Expr.rightsB, this, List.take_succ_cons, Expr.rightsB]
    simp only [List.getElem_cons_succ, Bool.and_assoc]
theorem Expr.rightsB_bad (nm : ByteArray → Bool) (d : Nat) : ∀ (l : List Expr) (k : Nat) (h : k < l.length), (l[k]).rightB nm d = false → Expr.rightsB nm d l = false
  | e :: l, 0, _, hb => by simp only [List.getElem_cons_zero] at hb; simp [Expr.rightsB, hb]
  | e :: l, k + 1, h, hb => by
    have := Expr.rightsB_bad nm d l k (by simpa using h) (by simpa using hb)
    simp [Expr.rightsB, this]
theorem Stmt.rightsB_succ (nm : ByteArray → Bool) (d : Nat) : ∀ (l : List Stmt) (k : Nat) (h : k < l.length), Stmt.rightsB nm d (l.take (k + 1)) = (Stmt.rightsB nm d (l.take k) && (l[k]).rightB nm d)
  | e :: l, 0, _ => by simp [Stmt.rightsB]
  | e :: l, k + 1, h => by
    have := Stmt.rightsB_succ nm d l k (by simpa using h)
    rw [List.take_succ_cons, Stmt.rightsB, this, List.take_succ_cons, Stmt.rightsB]
    simp only [List.getElem_cons_succ, Bool.and_assoc]
theorem Stmt.rightsB_bad (nm : ByteArray → Bool) (d : Nat) : ∀ (l : List Stmt) (k : Nat) (h : k < l.length), (l[k]).rightB nm d = false → Stmt.rightsB nm d l = false
  | e :: l, 0, _, hb => by simp only [List.getElem_cons_zero] at hb; simp [Stmt.rightsB, hb]
  | e :: l, k + 1, h, hb => by
    have := Stmt.rightsB_bad nm d l k (by simpa using h) (by simpa using hb)
    simp [Stmt.rightsB, this]
mutual
theorem Expr.rightB_deep : ∀ (e : Expr) (d : Nat), 1 ≤ d → e.rightB nameB d = (decide (d + e.deepN ≤ 49) && e.fitsB)
  | .mk k n s o la, d, h1 => by
    have ih := Expr.rightsB_deep la d h1
    rw [Expr.rightB, Expr.fitsB, ih, Expr.deepN]
    rw [Bool.eq_iff_iff]
    simp only [Bool.and_eq_true, decide_eq_true_eq]
    constructor
    · rintro ⟨⟨⟨⟨h1, h2⟩, h3⟩, h4⟩, h5, h6⟩
      refine ⟨?_, ⟨⟨h2, h3⟩, h4⟩, h6⟩
      split <;> omega
    · rintro ⟨h1, ⟨⟨h2, h3⟩, h4⟩, h6⟩
      split at h1
      · omega
      · exact ⟨⟨⟨⟨by omega, h2⟩, h3⟩, h4⟩, by omega, h6⟩
theorem Expr.rightsB_deep : ∀ (l : List Expr) (d : Nat), 1 ≤ d → Expr.rightsB nameB (d + 1) l = (decide (Expr.deepL l = 0 ∨ d + 1 + Expr.deepL l ≤ 49) && Expr.fitsL l)
  | [], d, _ => by simp [Expr.rightsB, Expr.deepL, Expr.fitsL]
  | e :: l, d, h1 => by
    have i1 := Expr.rightB_deep e (d + 1) (by omega)
    have i2 := Expr.rightsB_deep l d h1
    have hd := e.deepN_le
    rw [Expr.rightsB, Expr.fitsL, i1, i2, Expr.deepL]
    rw [Bool.eq_iff_iff]
    simp only [Bool.and_eq_true, decide_eq_true_eq]
    constructor
    · rintro ⟨⟨h1, h2⟩, h3, h4⟩
      exact ⟨by omega, h2, h4⟩
    · rintro ⟨h1, h2, h4⟩
      exact ⟨⟨by omega, h2⟩, by omega, h4⟩
end
theorem Expr.rightB_deep1 (e : Expr) : e.rightB nameB 1 = (decide (e.deepN ≤ 48) && e.fitsB) := by
  rw [Expr.rightB_deep e 1 (Nat.le_refl _)]
  congr 1
  rw [Bool.eq_iff_iff]; simp only [decide_eq_true_eq]; omega
def bodyB (k : Int) (n : Nat) (lb : List Stmt) : Bool := if k = 6 ∨ k = 7 then decide (n + 1 ≤ 12) && Stmt.rightsB nameB (n + 1) lb else true
def elsB (n : Nat) (le : List Stmt) : Bool := if le.length = 0 then true else decide (n + 1 ≤ 12) && Stmt.rightsB nameB (n + 1) le
/-- may a statement of these parts be -/
def mayX (k : Int) (s : ByteArray) (c : Int) (la : List Expr) (lb le : List Stmt) (n : Nat) : Bool := headB nameB k s c la.length lb.length le.length && Expr.rightsB nameB 1 la && bodyB k n lb && elsB n le
theorem mayX_eq (e : Stmt) (n : Nat) : mayX e.kind e.name e.cell e.args e.body e.els n = e.rightB nameB n := by rw [Stmt.rightB_eq]; rfl
theorem elsB_eq {n : Nat} (le : List Stmt) (h : n + 1 ≤ 12) : elsB n le = Stmt.rightsB nameB (n + 1) le := by
  unfold elsB
  split
  · rename_i h0; have := List.eq_nil_of_length_eq_zero h0; subst this; simp [Stmt.rightsB]
  · simp only [decide_eq_true h, Bool.true_and]
theorem bodyB_eq {n : Nat} (k : Int) (lb : List Stmt) (hk : k = 6 ∨ k = 7) (h : n + 1 ≤ 12) : bodyB k n lb = Stmt.rightsB nameB (n + 1) lb := by
  unfold bodyB
  rw [if_pos hk]
  simp only [decide_eq_true h, Bool.true_and]
theorem bodyB_bad {n : Nat} (k : Int) (lb : List Stmt) (hk : k = 6 ∨ k = 7) (h : ¬ n + 1 ≤ 12) : bodyB k n lb = false := by
  unfold bodyB
  rw [if_pos hk]
  simp only [decide_eq_false h, Bool.false_and]
def MayIs (W : World) (N : Nat) : Prop := ∀ (kk : Int) (ss : ByteArray) (cc : Int) (la : List Expr) (lb le : List Stmt) (A0 : Option Addr) (c0 : Nat) (A1 : Option Addr) (c1 : Nat) (A2 : Option Addr) (c2 : Nat) (n : Nat), Expr.nodesL la + Stmt.nodesL lb + Stmt.nodesL le < N → Expr.rds W la A0 0 → Stmt.rds W lb A1 0 → Stmt.rds W le A2 0 → Expr.nodesL la + Stmt.nodesL lb + Stmt.nodesL le ≤ 1000000000 → ss.size ≤ maxLen → ∀ (w : World), Below W.heap.size W w →
    Calls Try.prog 36 #[.agg #[.int .i64 kk, .string ss, .int .i64 cc, .slice A0 la.length c0, .slice A1 lb.length c1, .slice A2 le.length c2], .int .i64 (n : Int)] w (IsB (mayX kk ss cc la lb le n) w)
end Go.Proofs.Ytjlnpppjkdcpkaa.My
