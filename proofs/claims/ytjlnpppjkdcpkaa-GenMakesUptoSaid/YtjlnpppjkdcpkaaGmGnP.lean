/- Which instructions a source text has, in plain Lean: no program in sight. -/
import Derived.Test.YtjlnpppjkdcpkaaGmNameQ
import Derived.Test.YtjlnpppjkdcpkaaGmTrP
namespace Go.Proofs.Ytjlnpppjkdcpkaa.My
open Go.RowKit
set_option linter.unusedVariables false
set_option linter.unusedSimpArgs false
/-- what was made, and the registers of the names that come -/
structure Gn where
  out : List Ins
  slots : List Int
def Gn.put (G : Gn) (x : Ins) : Gn := { G with out := G.out ++ [x] }
def Gn.skip (G : Gn) (n : Nat) : Gn := { G with slots := G.slots.drop n }
/-- the instruction at a place made another one -/
def Gn.upd (G : Gn) (i : Nat) (f : Ins → Ins) : Gn := { G with out := G.out.set i (f (G.out.getD i default)) }
def Gn.here (G : Gn) (i : Nat) : Gn := G.upd i fun x => { x with n := (G.out.length : Int) }
mutual
/-- where a value is, what is free behind it, and what was made; none: no register was left -/
def exprG (G : Gn) (t : Int) : Expr → Option (Int × Int × Gn)
  | .mk k n s o la =>
    if k = 2 then some (G.slots.getD 0 0, t, G.skip 1)
    else if 16 ≤ t then none
    else if k = 1 then some (t, t + 1, G.put ⟨2, 0, t, 0, 0, n⟩)
    else match exprsG G t la with
      | none => none
      | some (vs, _, G1) => some (t, t + 1, G1.put (if k = 3 then ⟨6, 0, t, vs.getD 0 0, 0, 0⟩ else if k = 4 then ⟨4, o, t, vs.getD 0 0, 0, 0⟩ else ⟨5, o, t, vs.getD 0 0, vs.getD 1 0, 0⟩))
def exprsG (G : Gn) (t : Int) : List Expr → Option (List Int × Int × Gn)
  | [] => some ([], t, G)
  | e :: l => match exprG G t e with
    | none => none
    | some (a, t1, G1) => match exprsG G1 t1 l with
      | none => none
      | some (vs, t2, G2) => some (a :: vs, t2, G2)
end
def setG (G : Gn) (e : Expr) : Option Gn :=
  if e.kind = 2 then some (((G.skip 1).skip 1).put ⟨3, 0, G.slots.getD 1 0, G.slots.getD 0 0, 0, 0⟩)
  else match exprG G 11 e with
    | none => none
    | some (_, _, G1) => some ((G1.skip 1).upd (G1.out.length - 1) fun x => { x with a := G1.slots.getD 0 0 })
def oneG (G : Gn) (k : Int) (e : Expr) (c : Int) : Option Gn := match exprG G 11 e with
  | none => none
  | some (a, _, G1) => some (G1.put ⟨k, 0, a, 0, c, 0⟩)
def storeG (G : Gn) (e f : Expr) : Option Gn := match exprG G 11 e with
  | none => none
  | some (a, t, G1) => match exprG G1 t f with
    | none => none
    | some (v, _, G2) => some (G2.put ⟨7, 0, v, a, 0, 0⟩)
mutual
def stmtG (G : Gn) : Stmt → Option Gn
  | .mk k s c la lb le =>
    if k = 1 ∨ k = 2 then setG G (la.getD 0 default)
    else if k = 3 then storeG G (la.getD 0 default) (la.getD 1 default)
    else if k = 4 then oneG G 9 (la.getD 0 default) 0
    else if k = 5 then oneG G 8 (la.getD 0 default) c
    else if k = 8 then oneG G 13 (la.getD 0 default) 0
    else if k = 9 then some (G.put ⟨1, 0, 0, 0, 0, 0⟩)
    else if k = 6 then (match oneG G 11 (la.getD 0 default) 0 with
      | none => none
      | some G2 => match blockG G2 lb with
        | none => none
        | some G3 => if le.length = 0 then some (G3.here (G2.out.length - 1))
          else match blockG ((G3.put ⟨10, 0, 0, 0, 0, 0⟩).here (G2.out.length - 1)) le with
            | none => none
            | some G6 => some (G6.here G3.out.length))
    else if k = 7 then (match oneG G 11 (la.getD 0 default) 0 with
      | none => none
      | some G2 => match blockG G2 lb with
        | none => none
        | some G3 => some ((G3.put ⟨10, 0, 0, 0, 0, (G.out.length : Int)⟩).here (G2.out.length - 1)))
    else some G
def blockG (G : Gn) : List Stmt → Option Gn
  | [] => some G
  | s :: l => match stmtG G s with
    | none => none
    | some G1 => blockG G1 l
end
mutual
/-- how many names an expression uses up -/
def Expr.useN : Expr → Nat | .mk k _ _ _ la => if k = 2 then 1 else Expr.useL la
def Expr.useL : List Expr → Nat | [] => 0 | e :: l => e.useN + Expr.useL l
end
mutual
def Stmt.useN : Stmt → Nat | .mk k _ _ la lb le => Expr.useL la + (if k = 1 ∨ k = 2 then 1 else 0) + Stmt.useL lb + Stmt.useL le
def Stmt.useL : List Stmt → Nat | [] => 0 | s :: l => s.useN + Stmt.useL l
end
theorem Gn.upd_slots (G : Gn) (i : Nat) (f : Ins → Ins) : (G.upd i f).slots = G.slots := rfl
theorem Gn.upd_len (G : Gn) (i : Nat) (f : Ins → Ins) : (G.upd i f).out.length = G.out.length := by simp [Gn.upd]
mutual
theorem exprG_grow {G : Gn} : ∀ (e : Expr) (t : Int) {a t' : Int} {G' : Gn} {d : Nat} {nm : ByteArray → Bool}, e.rightB nm d = true → exprG G t e = some (a, t', G') → G'.slots = G.slots.drop e.useN ∧ G.out.length ≤ G'.out.length ∧ G'.out.length ≤ G.out.length + e.nodes ∧ (e.kind ≠ 2 → G.out.length < G'.out.length)
  | .mk k n s o la, t, a, t', G', d, nm, hr, h => by
    rw [exprG] at h
    rw [Expr.useN, Expr.nodes]
    split at h
    · rename_i h2
      simp only [Option.some.injEq, Prod.mk.injEq] at h
      obtain ⟨_, _, rfl⟩ := h
      rw [if_pos h2]
      exact ⟨rfl, Nat.le_refl _, by simp [Gn.skip], fun h => absurd h2 h⟩
    · rename_i h2
      rw [if_neg h2]
      split at h
      · cases h
      · split at h
        · rename_i h1
          subst h1
          simp only [Option.some.injEq, Prod.mk.injEq] at h
          obtain ⟨_, _, rfl⟩ := h
          rw [Expr.rightB] at hr
          simp only [Bool.and_eq_true, decide_eq_true_eq] at hr
          have hl : la.length = 0 := by have := hr.1.1.2; simp [wantE] at this; simp [this]
          have := List.eq_nil_of_length_eq_zero hl
          subst this
          exact ⟨by simp [Gn.put, Expr.useL], by simp [Gn.put], by simp [Gn.put, Expr.nodesL], fun _ => by simp [Gn.put]⟩
        · split at h
          · cases h
          · rename_i vs t2 G1 hx
            simp only [Option.some.injEq, Prod.mk.injEq] at h
            obtain ⟨_, _, rfl⟩ := h
            rw [Expr.rightB] at hr
            simp only [Bool.and_eq_true, decide_eq_true_eq] at hr
            have ih := exprsG_grow la t hr.2 hx
            refine ⟨ih.1, ?_, ?_, fun _ => ?_⟩
            all_goals
              simp only [Gn.put, List.length_append, List.length_singleton]
              omega
theorem exprsG_grow {G : Gn} : ∀ (l : List Expr) (t : Int) {vs : List Int} {t' : Int} {G' : Gn} {d : Nat} {nm : ByteArray → Bool}, Expr.rightsB nm d l = true → exprsG G t l = some (vs, t', G') → G'.slots = G.slots.drop (Expr.useL l) ∧ G.out.length ≤ G'.out.length ∧ G'.out.length ≤ G.out.length + Expr.nodesL l
  | [], t, vs, t', G', d, nm, hr, h => by
    rw [exprsG] at h
    simp only [Option.some.injEq, Prod.mk.injEq] at h
    obtain ⟨_, _, rfl⟩ := h
    exact ⟨by simp [Expr.useL], Nat.le_refl _, by simp⟩
  | e :: l, t, vs, t', G', d, nm, hr, h => by
    rw [exprsG] at h
    rw [Expr.rightsB] at hr
    simp only [Bool.and_eq_true] at hr
    split at h
    · cases h
    · rename_i a t1 G1 h1
      split at h
      · cases h
      · rename_i vs2 t2 G2 h2
        simp only [Option.some.injEq, Prod.mk.injEq] at h
        obtain ⟨_, _, rfl⟩ := h
        have i1 := exprG_grow e t hr.1 h1
        have i2 := exprsG_grow l t1 hr.2 h2
        refine ⟨?_, by omega, by rw [Expr.nodesL]; omega⟩
        rw [i2.1, i1.1, List.drop_drop, Expr.useL]
end
end Go.Proofs.Ytjlnpppjkdcpkaa.My
