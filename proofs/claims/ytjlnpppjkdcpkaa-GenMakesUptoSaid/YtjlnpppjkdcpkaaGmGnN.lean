/- The document's way to a text's instructions: the names that are there handed on, pieces put together; it is the program's. Plain Lean, no program in sight. -/
import Derived.Test.YtjlnpppjkdcpkaaGmGnI
namespace Go.Proofs.Ytjlnpppjkdcpkaa.My
open Go.RowKit
set_option linter.unusedVariables false
set_option linter.unusedSimpArgs false
/-- a name's register -/
def regD (th : List ByteArray) (x : ByteArray) : Int := (regOf th x).getD 0
def lastOp (k o t : Int) (vs : List Int) : Ins := if k = 3 then ⟨6, 0, t, vs.getD 0 0, 0, 0⟩ else if k = 4 then ⟨4, o, t, vs.getD 0 0, 0, 0⟩ else ⟨5, o, t, vs.getD 0 0, vs.getD 1 0, 0⟩
mutual
/-- where an expression's value is, what is free behind it, its instructions -/
def exprD (th : List ByteArray) (t : Int) : Expr → Option (Int × Int × List Ins)
  | .mk k n s o la =>
    if k = 2 then some (regD th s, t, [])
    else if 16 ≤ t then none
    else if k = 1 then some (t, t + 1, [⟨2, 0, t, 0, 0, n⟩])
    else match exprsD th t la with
      | none => none
      | some (vs, _, l) => some (t, t + 1, l ++ [lastOp k o t vs])
def exprsD (th : List ByteArray) (t : Int) : List Expr → Option (List Int × Int × List Ins)
  | [] => some ([], t, [])
  | e :: l => match exprD th t e with
    | none => none
    | some (a, t1, X) => match exprsD th t1 l with
      | none => none
      | some (vs, t2, Y) => some (a :: vs, t2, X ++ Y)
end
/-- a value laid into a register -/
def laidD (X : List Ins) (r a : Int) : List Ins := if X.length = 0 then [⟨3, 0, r, a, 0, 0⟩] else X.set (X.length - 1) { X.getD (X.length - 1) default with a := r }
def oneD (th : List ByteArray) (k : Int) (e : Expr) (c : Int) : Option (List Ins × List ByteArray) := match exprD th 11 e with
  | none => none
  | some (a, _, X) => some (X ++ [⟨k, 0, a, 0, c, 0⟩], th)
mutual
/-- a statement's instructions, the targets told from its own beginning; the names that are there behind it -/
def stmtD (th : List ByteArray) : Stmt → Option (List Ins × List ByteArray)
  | .mk k s c la lb le =>
    if k = 1 then (match exprD th 11 (la.getD 0 default) with
      | none => none
      | some (a, _, X) => some (laidD X (regD (th ++ [s]) s) a, th ++ [s]))
    else if k = 2 then (match exprD th 11 (la.getD 0 default) with
      | none => none
      | some (a, _, X) => some (laidD X (regD th s) a, th))
    else if k = 3 then (match exprD th 11 (la.getD 0 default) with
      | none => none
      | some (a, t, X) => match exprD th t (la.getD 1 default) with
        | none => none
        | some (v, _, Y) => some (X ++ Y ++ [⟨7, 0, v, a, 0, 0⟩], th))
    else if k = 4 then oneD th 9 (la.getD 0 default) 0
    else if k = 5 then oneD th 8 (la.getD 0 default) c
    else if k = 8 then oneD th 13 (la.getD 0 default) 0
    else if k = 9 then some ([⟨1, 0, 0, 0, 0, 0⟩], th)
    else if k = 6 then (match exprD th 11 (la.getD 0 default) with
      | none => none
      | some (a, _, l) => match blockD th lb with
        | none => none
        | some (X, _) => match blockD th le with
          | none => none
          | some (Y, _) => if le.length = 0 then some (l ++ ⟨11, 0, a, 0, 0, ((l.length + 1 + X.length : Nat) : Int)⟩ :: X.map (mv (l.length + 1)), th)
            else some (l ++ ⟨11, 0, a, 0, 0, ((l.length + 1 + X.length + 1 : Nat) : Int)⟩ :: (X.map (mv (l.length + 1)) ++ ⟨10, 0, 0, 0, 0, ((l.length + 1 + X.length + 1 + Y.length : Nat) : Int)⟩ :: Y.map (mv (l.length + 1 + X.length + 1))), th))
    else if k = 7 then (match exprD th 11 (la.getD 0 default) with
      | none => none
      | some (a, _, l) => match blockD th lb with
        | none => none
        | some (X, _) => some (l ++ ⟨11, 0, a, 0, 0, ((l.length + 1 + X.length + 1 : Nat) : Int)⟩ :: (X.map (mv (l.length + 1)) ++ [⟨10, 0, 0, 0, 0, 0⟩]), th))
    else some ([], th)
def blockD (th : List ByteArray) : List Stmt → Option (List Ins × List ByteArray)
  | [] => some ([], th)
  | s :: l => match stmtD th s with
    | none => none
    | some (X, t1) => match blockD t1 l with
      | none => none
      | some (Y, t2) => some (X ++ Y.map (mv X.length), t2)
end
mutual
theorem exprD_C : ∀ (e : Expr) (th : List ByteArray) (T : List Int) (t : Int) {d : Nat} {nm : ByteArray → Bool}, e.rightB nm d = true → exprC (e.names.map (regD th) ++ T) t e = (exprD th t e).map fun r => (r.1, r.2.1, r.2.2, T)
  | .mk k n s o la, th, T, t, d, nm, hr => by
    rw [Expr.rightB] at hr
    simp only [Bool.and_eq_true, decide_eq_true_eq] at hr
    rw [exprC, exprD, Expr.names]
    by_cases h2 : k = 2
    · rw [if_pos h2, if_pos h2, if_pos h2]; simp
    · rw [if_neg h2, if_neg h2, if_neg h2]
      by_cases ht : 16 ≤ t
      · rw [if_pos ht, if_pos ht]; rfl
      · rw [if_neg ht, if_neg ht]
        by_cases h1 : k = 1
        · have hl : la = [] := List.eq_nil_of_length_eq_zero (by have := hr.1.1.2; rw [h1] at this; simp [wantE] at this; simp [this])
          subst hl
          rw [if_pos h1, if_pos h1]; simp [Expr.namesL]
        · rw [if_neg h1, if_neg h1, exprsD_C la th T t hr.2]
          cases exprsD th t la with
          | none => rfl
          | some r => rfl
theorem exprsD_C : ∀ (l : List Expr) (th : List ByteArray) (T : List Int) (t : Int) {d : Nat} {nm : ByteArray → Bool}, Expr.rightsB nm d l = true → exprsC ((Expr.namesL l).map (regD th) ++ T) t l = (exprsD th t l).map fun r => (r.1, r.2.1, r.2.2, T)
  | [], th, T, t, d, nm, hr => by rw [exprsC, exprsD, Expr.namesL]; simp
  | e :: l, th, T, t, d, nm, hr => by
    rw [Expr.rightsB] at hr
    simp only [Bool.and_eq_true] at hr
    rw [exprsC, exprsD, Expr.namesL, List.map_append, List.append_assoc, exprD_C e th _ t hr.1]
    cases exprD th t e with
    | none => rfl
    | some r =>
      simp only [Option.map_some]
      rw [exprsD_C l th T r.2.1 hr.2]
      cases exprsD th r.2.1 l with
      | none => rfl
      | some r2 => rfl
end
theorem exprD_len {e : Expr} {th : List ByteArray} {t : Int} {r : Int × Int × List Ins} {d : Nat} {nm : ByteArray → Bool} (hr : e.rightB nm d = true) (h : exprD th t e = some r) : r.2.2.length ≤ e.nodes ∧ (e.kind ≠ 2 → 0 < r.2.2.length) ∧ (e.kind = 2 → r.2.2 = []) ∧ (∀ x ∈ r.2.2, ¬ (10 ≤ x.kind ∧ x.kind ≤ 12)) := by
  have h1 := exprD_C e th [] t hr
  rw [h] at h1
  simp only [Option.map_some, List.append_nil] at h1
  have hf := exprC_far _ _ _ h1
  have h2 := exprG_C e ⟨[], e.names.map (regD th)⟩ t
  simp only [h1, Option.map_some] at h2
  have hg := exprG_grow e t hr h2
  simp only [List.nil_append] at hg
  refine ⟨by simpa using hg.2.2.1, hf.2, fun h2 => ?_, hf.1⟩
  cases e with
  | mk k n s o la =>
    simp only [Expr.kind] at h2
    rw [exprD, if_pos h2] at h
    cases h
    rfl
theorem look_D {S : Sc} {x : ByteArray} (h : (look S x).1 = 0) : (look S x).2 = { S with out := S.out ++ [regD S.names x] } := by
  unfold look at h ⊢
  cases hr : regOf S.names x with
  | none => rw [hr] at h; simp at h
  | some r => simp [regD, hr]
mutual
theorem exprS_D : ∀ (e : Expr) (S : Sc), (exprS S e).1 = 0 → (exprS S e).2 = { S with out := S.out ++ e.names.map (regD S.names) }
  | .mk k n s o la, S, h => by
    rw [exprS] at h ⊢
    rw [Expr.names]
    by_cases hk : k = 2
    · rw [if_pos hk] at h ⊢; rw [if_pos hk, look_D h]; rfl
    · rw [if_neg hk] at h ⊢; rw [if_neg hk]; exact exprsS_D la S h
theorem exprsS_D : ∀ (l : List Expr) (S : Sc), (exprsS S l).1 = 0 → (exprsS S l).2 = { S with out := S.out ++ (Expr.namesL l).map (regD S.names) }
  | [], S, h => by simp [exprsS, Expr.namesL]
  | e :: l, S, h => by
    rw [exprsS] at h ⊢
    by_cases h1 : (exprS S e).1 = 0
    · rw [if_pos h1] at h ⊢
      rw [exprsS_D l _ h, exprS_D e S h1, Expr.namesL]
      simp
    · rw [if_neg h1] at h; exact absurd h h1
end
theorem setC_D {e : Expr} {th : List ByteArray} {r : Int} {T : List Int} {d : Nat} (hr : e.rightB nameB d = true) : setC (e.names.map (regD th) ++ r :: T) e = (exprD th 11 e).map fun q => (laidD q.2.2 r q.1, T) := by
  have hc := exprD_C e th (r :: T) 11 hr
  unfold setC
  by_cases h2 : e.kind = 2
  · rw [if_pos h2]
    cases e with
    | mk k n s o la =>
      simp only [Expr.kind] at h2
      rw [exprD, if_pos h2, Expr.names, if_pos h2]
      simp [laidD]
  · rw [if_neg h2, hc]
    cases hx : exprD th 11 e with
    | none => rfl
    | some q =>
      have hl := (exprD_len hr hx).2.1 h2
      simp only [Option.map_some, laidD]
      rw [if_neg (by omega)]
      simp
theorem oneC_D {e : Expr} {k c : Int} {th : List ByteArray} {T : List Int} {d : Nat} (hr : e.rightB nameB d = true) : oneC (e.names.map (regD th) ++ T) k e c = (oneD th k e c).map fun q => (q.1, T) := by
  unfold oneC oneD
  rw [exprD_C e th T 11 hr]
  cases exprD th 11 e with
  | none => rfl
  | some q => rfl
theorem blockS_D {S : Sc} {l : List Stmt} : (blockS S l).2.out = (stmtsS S l).2.out ∧ (blockS S l).1 = (stmtsS S l).1 := by rw [blockS]; exact ⟨rfl, rfl⟩
mutual
theorem stmtD_C : ∀ (s : Stmt) (S : Sc) {d : Nat}, s.rightB nameB d = true → (stmtS S s).1 = 0 → ∃ rs, (stmtS S s).2.out = S.out ++ rs ∧ (∀ T, stmtC (rs ++ T) s = (stmtD S.names s).map fun r => (r.1, T)) ∧ ∀ r, stmtD S.names s = some r → r.2 = (stmtS S s).2.names
  | .mk k nm c la lb le, S, d, hr, h0 => by
    obtain ⟨hk, hla, hrr, hlb, hle, hrb, hre⟩ := Stmt.right_parts hr
    simp only [Stmt.kind, Stmt.args, Stmt.body, Stmt.els] at hk hla hrr hlb hle hrb hre
    rw [stmtS] at h0 ⊢
    have b1 : (exprsS S la).1 = 0 := by
      by_cases e : (exprsS S la).1 = 0
      · exact e
      · rw [if_neg e] at h0; exact absurd h0 e
    rw [if_pos b1] at h0 ⊢
    simp only at h0 ⊢
    have b2 : (kindS (exprsS S la).2 k nm c).1 = 0 := by
      by_cases e : (kindS (exprsS S la).2 k nm c).1 = 0
      · exact e
      · rw [if_neg e] at h0; exact absurd h0 e
    rw [if_pos b2] at h0 ⊢
    have b3 : (blockS (kindS (exprsS S la).2 k nm c).2 lb).1 = 0 := by
      by_cases e : (blockS (kindS (exprsS S la).2 k nm c).2 lb).1 = 0
      · exact e
      · rw [if_neg e] at h0; exact absurd h0 e
    rw [if_pos b3] at h0 ⊢
    have e1 := exprsS_D la S b1
    generalize exprsS S la = r1 at *
    obtain ⟨c1, S1⟩ := r1
    simp only at b1 b2 b3 h0 e1 ⊢
    subst e1
    have ib := fun S' h => stmtsD_C lb S' hrb h
    have ie := fun S' h => stmtsD_C le S' hre h
    have a0 : ∀ (h : 0 < la.length), (la.getD 0 default).rightB nameB 1 = true := fun h => by
      rw [show la.getD 0 default = la[0] by simp [List.getD, h]]; exact Expr.rightsB_all hrr _ (List.getElem_mem h)
    have u1 : la.length = 1 → Expr.namesL la = (la.getD 0 default).names := fun h => by
      match la, h with
      | [x], _ => simp [Expr.namesL]
    by_cases q6 : k ≠ 6 ∧ k ≠ 7
    · obtain rfl := hlb q6.1 q6.2
      obtain rfl := hle q6.1
      have bn : ∀ T : Sc, (blockS T []).2.out = T.out ∧ (blockS T []).2.names = T.names := fun T => by
        rw [blockS, stmtsS]; simp
      rw [(bn _).1, (bn _).1, (bn _).2, (bn _).2]
      simp only [stmtC, stmtD]
      by_cases q1 : k = 1
      · have hl : la.length = 1 := by simp only [wantA] at hla; split at hla <;> (try split at hla) <;> omega
        have hd : kindS { S with out := S.out ++ (Expr.namesL la).map (regD S.names) } k nm c = declare { S with out := S.out ++ (Expr.namesL la).map (regD S.names) } nm := by unfold kindS; rw [if_pos q1]
        rw [hd] at b2 ⊢
        unfold declare at b2 ⊢
        split at b2
        · simp at b2
        · rename_i d1
          split at b2
          · simp at b2
          · rename_i d2
            rw [if_neg d1, if_neg d2, look_D b2]
            refine ⟨(Expr.namesL la).map (regD S.names) ++ [regD (S.names ++ [nm]) nm], by simp, fun T => ?_, fun r h => ?_⟩
            · rw [if_pos (.inl q1), if_pos q1, u1 hl, List.append_assoc, List.singleton_append, setC_D (a0 (by omega))]
              cases exprD S.names 11 (la.getD 0 default) with
              | none => rfl
              | some q => rfl
            · rw [if_pos q1] at h
              split at h
              · cases h
              · cases h; rfl
      by_cases q2 : k = 2
      · have hl : la.length = 1 := by simp only [wantA] at hla; split at hla <;> (try split at hla) <;> omega
        have hd : kindS { S with out := S.out ++ (Expr.namesL la).map (regD S.names) } k nm c = look { S with out := S.out ++ (Expr.namesL la).map (regD S.names) } nm := by unfold kindS; rw [if_neg q1, if_pos q2]
        rw [hd] at b2 ⊢
        rw [look_D b2]
        refine ⟨(Expr.namesL la).map (regD S.names) ++ [regD S.names nm], by simp, fun T => ?_, fun r h => ?_⟩
        · rw [if_pos (.inr q2), if_neg q1, if_pos q2, u1 hl, List.append_assoc, List.singleton_append, setC_D (a0 (by omega))]
          cases exprD S.names 11 (la.getD 0 default) with
          | none => rfl
          | some q => rfl
        · rw [if_neg q1, if_pos q2] at h
          split at h
          · cases h
          · cases h; rfl
      have hd : (kindS { S with out := S.out ++ (Expr.namesL la).map (regD S.names) } k nm c).2 = { S with out := S.out ++ (Expr.namesL la).map (regD S.names) } := by
        unfold kindS; rw [if_neg q1, if_neg q2]; split <;> rfl
      rw [hd]
      refine ⟨(Expr.namesL la).map (regD S.names), rfl, fun T => ?_, fun r h => ?_⟩
      · rw [if_neg (by omega), if_neg q1, if_neg q2]
        by_cases q3 : k = 3
        · have hl : la.length = 2 := by simp only [wantA] at hla; split at hla <;> (try split at hla) <;> omega
          have a1 : (la.getD 1 default).rightB nameB 1 = true := by
            rw [show la.getD 1 default = la[1] by simp [List.getD, hl]]; exact Expr.rightsB_all hrr _ (List.getElem_mem _)
          have u2 : Expr.namesL la = (la.getD 0 default).names ++ (la.getD 1 default).names := by
            match la, hl with
            | [x, y], _ => simp [Expr.namesL]
          rw [if_pos q3, if_pos q3, u2, List.map_append, List.append_assoc]
          unfold storeC
          rw [exprD_C _ S.names _ 11 (a0 (by omega))]
          cases exprD S.names 11 (la.getD 0 default) with
          | none => rfl
          | some q =>
            simp only [Option.map_some]
            rw [exprD_C _ S.names _ q.2.1 a1]
            cases exprD S.names q.2.1 (la.getD 1 default) with
            | none => rfl
            | some q2 => rfl
        rw [if_neg q3, if_neg q3]
        by_cases q9 : k = 9
        · have hl : la = [] := List.eq_nil_of_length_eq_zero (by rw [q9] at hla; simp [wantA] at hla; simp [hla])
          subst hl
          subst q9
          simp [Expr.namesL]
        have hl : la.length = 1 := by simp only [wantA] at hla; split at hla <;> (try split at hla) <;> omega
        rw [u1 hl]
        by_cases q4 : k = 4
        · rw [if_pos q4, if_pos q4]; exact oneC_D (a0 (by omega))
        rw [if_neg q4, if_neg q4]
        by_cases q5 : k = 5
        · rw [if_pos q5, if_pos q5]; exact oneC_D (a0 (by omega))
        rw [if_neg q5, if_neg q5, if_pos (by omega), if_pos (by omega)]
        exact oneC_D (a0 (by omega))
      · have hone : ∀ {k' : Int} {e : Expr} {c' : Int}, oneD S.names k' e c' = some r → r.2 = S.names := fun h => by
          unfold oneD at h
          split at h
          · cases h
          · cases h; rfl
        rw [if_neg q1, if_neg q2] at h
        by_cases q3 : k = 3
        · rw [if_pos q3] at h
          split at h
          · cases h
          · split at h
            · cases h
            · cases h; rfl
        rw [if_neg q3] at h
        by_cases q4 : k = 4
        · rw [if_pos q4] at h; exact hone h
        rw [if_neg q4] at h
        by_cases q5 : k = 5
        · rw [if_pos q5] at h; exact hone h
        rw [if_neg q5] at h
        by_cases q8 : k = 8
        · rw [if_pos q8] at h; exact hone h
        rw [if_neg q8, if_pos (by omega)] at h
        cases h; rfl
    · have hl : la.length = 1 := by simp only [wantA] at hla; split at hla <;> (try split at hla) <;> omega
      have hr1 := a0 (by omega)
      have hd : (kindS { S with out := S.out ++ (Expr.namesL la).map (regD S.names) } k nm c).2 = { S with out := S.out ++ (Expr.namesL la).map (regD S.names) } := by
        unfold kindS; rw [if_neg (by omega), if_neg (by omega)]; split <;> rfl
      rw [hd] at b3 h0 ⊢
      obtain ⟨rb, eb, fb, nb⟩ := ib _ (by rw [← blockS_D.2]; exact b3)
      obtain ⟨re, ee, fe, ne⟩ := ie _ (by rw [← blockS_D.2]; exact h0)
      rw [blockS_same] at fe ne
      rw [blockS_same, blockS_same]
      rw [blockS_D.1] at ee
      simp only at eb fb nb fe ne
      refine ⟨(Expr.namesL la).map (regD S.names) ++ (rb ++ re), by rw [blockS_D.1, ee, eb]; simp, fun T => ?_, fun r h => ?_⟩
      · rw [u1 hl, List.append_assoc, List.append_assoc]
        simp only [stmtC, stmtD]
        generalize la.getD 0 default = e at hr1 ⊢
        have m12 : ¬ (k = 1 ∨ k = 2) := by omega
        have m1 : ¬ k = 1 := by omega
        have m2 : ¬ k = 2 := by omega
        have m3 : ¬ k = 3 := by omega
        have m4 : ¬ k = 4 := by omega
        have m5 : ¬ k = 5 := by omega
        have m8 : ¬ k = 8 := by omega
        have m9 : ¬ k = 9 := by omega
        simp only [m1, m2, m3, m4, m5, m8, m9, or_self, if_false]
        rw [exprD_C e S.names _ 11 hr1]
        by_cases q : k = 6
        · rw [if_pos q, if_pos q]
          cases exprD S.names 11 e with
          | none => rfl
          | some q1 =>
            simp only [Option.map_some]
            rw [fb]
            cases blockD S.names lb with
            | none => rfl
            | some q2 =>
              simp only [Option.map_some]
              by_cases hz : le.length = 0
              · have := List.eq_nil_of_length_eq_zero hz
                subst this
                rw [if_pos List.length_nil]
                have hre0 : re = [] := by
                  have := ee
                  rw [stmtsS, blockS_D.1] at this
                  simpa using this
                subst hre0
                simp [blockD]
              · rw [if_neg hz, fe]
                cases blockD S.names le with
                | none => rfl
                | some q3 => simp [hz]
        · rw [if_neg q, if_neg q, if_pos (by omega), if_pos (by omega)]
          have hz := hle q
          subst hz
          have hre0 : re = [] := by
            have := ee
            rw [stmtsS, blockS_D.1] at this
            simpa using this
          subst hre0
          cases exprD S.names 11 e with
          | none => rfl
          | some q1 =>
            simp only [Option.map_some]
            rw [fb]
            cases blockD S.names lb with
            | none => rfl
            | some q2 => simp
      · simp only [stmtD] at h
        rw [if_neg (by omega), if_neg (by omega), if_neg (by omega), if_neg (by omega), if_neg (by omega), if_neg (by omega), if_neg (by omega)] at h
        by_cases q : k = 6
        · rw [if_pos q] at h
          split at h
          · cases h
          · split at h
            · cases h
            · split at h
              · cases h
              · split at h
                · cases h; rfl
                · cases h; rfl
        · rw [if_neg q, if_pos (by omega)] at h
          split at h
          · cases h
          · split at h
            · cases h
            · cases h; rfl
theorem stmtsD_C : ∀ (l : List Stmt) (S : Sc) {d : Nat}, Stmt.rightsB nameB d l = true → (stmtsS S l).1 = 0 → ∃ rs, (stmtsS S l).2.out = S.out ++ rs ∧ (∀ T, blockC (rs ++ T) l = (blockD S.names l).map fun r => (r.1, T)) ∧ ∀ r, blockD S.names l = some r → r.2 = (stmtsS S l).2.names
  | [], S, d, hr, h0 => ⟨[], by simp [stmtsS], fun T => by simp [blockC, blockD], fun r h => by rw [blockD] at h; cases h; rw [stmtsS]⟩
  | s :: l, S, d, hr, h0 => by
    rw [Stmt.rightsB] at hr
    simp only [Bool.and_eq_true] at hr
    rw [stmtsS] at h0 ⊢
    have b1 : (stmtS S s).1 = 0 := by
      by_cases e : (stmtS S s).1 = 0
      · exact e
      · rw [if_neg e] at h0; exact absurd h0 e
    rw [if_pos b1] at h0 ⊢
    obtain ⟨r1, e1, f1, n1⟩ := stmtD_C s S hr.1 b1
    obtain ⟨r2, e2, f2, n2⟩ := stmtsD_C l (stmtS S s).2 hr.2 h0
    refine ⟨r1 ++ r2, by rw [e2, e1, List.append_assoc], fun T => ?_, fun r h => ?_⟩
    · rw [blockC, blockD, List.append_assoc, f1]
      cases hx : stmtD S.names s with
      | none => rfl
      | some q =>
        simp only [Option.map_some]
        rw [f2, n1 q hx]
        cases blockD (stmtS S s).2.names l with
        | none => rfl
        | some q2 => rfl
    · rw [blockD] at h
      cases hx : stmtD S.names s with
      | none => rw [hx] at h; cases h
      | some q =>
        rw [hx] at h
        simp only at h
        rw [n1 q hx] at h
        cases hy : blockD (stmtS S s).2.names l with
        | none => rw [hy] at h; cases h
        | some q2 =>
          rw [hy] at h
          cases h
          exact n2 q2 hy
end
/-- the document's instructions, or the error -/
theorem genP_doc {ss : List Stmt} {L : Int} (hr : rightP nameB ss = true) (hs : (slotsP ss L).2 = 0) : genP ss L = match blockD [] ss with
    | none => ([], 100)
    | some r => if 600 < r.1.length + 1 then ([], 80) else (r.1 ++ [⟨1, 0, 0, 0, 0, 0⟩], 0) := by
  have hrr : Stmt.rightsB nameB 0 ss = true := by
    simp only [rightP, Bool.and_eq_true] at hr; exact hr.1
  have c1 : (stmtsS ⟨[], [], 0, L⟩ ss).1 = 0 := by
    unfold slotsP at hs
    split at hs
    · assumption
    · exact hs
  obtain ⟨rs, e, f, _⟩ := stmtsD_C ss ⟨[], [], 0, L⟩ hrr c1
  have e1 : (slotsP ss L).1 = rs := by unfold slotsP; rw [if_pos c1]; simpa using e
  have f1 := f []
  rw [List.append_nil] at f1
  unfold genP
  rw [if_neg (by simp [hr]), if_neg (by simp [hs]), blockG_C, e1, f1]
  cases blockD [] ss with
  | none => rfl
  | some r => simp [show mv 0 = id from funext mv_zero]
end Go.Proofs.Ytjlnpppjkdcpkaa.My
