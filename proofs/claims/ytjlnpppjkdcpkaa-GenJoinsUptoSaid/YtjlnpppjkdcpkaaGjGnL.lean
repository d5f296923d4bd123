/- A text that declares nothing but within blocks, and another one behind it: the registers and the instructions of both. Plain Lean, no program in sight. -/
import Derived.Test.YtjlnpppjkdcpkaaGjGnJ
import Derived.Test.YtjlnpppjkdcpkaaGjEvF
import Derived.Test.YtjlnpppjkdcpkaaGjGnC
namespace Go.Proofs.Ytjlnpppjkdcpkaa.My
open Go.RowKit
set_option linter.unusedVariables false
set_option linter.unusedSimpArgs false
/-- the same scope with more made ahead -/
structure Lift (p : List Int) (S R : Sc) : Prop where
  names : R.names = S.names
  out : R.out = p ++ S.out
  cells : R.cells = S.cells
theorem look_lift {p : List Int} {S R : Sc} (h : Lift p S R) (x : ByteArray) : (look R x).1 = (look S x).1 ∧ Lift p (look S x).2 (look R x).2 := by
  unfold look
  rw [h.names]
  cases regOf S.names x with
  | none => exact ⟨rfl, h⟩
  | some r => exact ⟨rfl, ⟨rfl, by simp [h.out], h.cells⟩⟩
theorem declare_lift {p : List Int} {S R : Sc} (h : Lift p S R) (x : ByteArray) : (declare R x).1 = (declare S x).1 ∧ Lift p (declare S x).2 (declare R x).2 := by
  unfold declare
  rw [h.names]
  split
  · exact ⟨rfl, h⟩
  · split
    · exact ⟨rfl, h⟩
    · refine look_lift ?_ x
      exact ⟨rfl, h.out, h.cells⟩
mutual
theorem exprS_lift {p : List Int} : ∀ (e : Expr) {S R : Sc}, Lift p S R → (exprS R e).1 = (exprS S e).1 ∧ Lift p (exprS S e).2 (exprS R e).2
  | .mk k n s o la, S, R, h => by
    rw [exprS, exprS]
    split
    · exact look_lift h s
    · exact exprsS_lift la h
theorem exprsS_lift {p : List Int} : ∀ (l : List Expr) {S R : Sc}, Lift p S R → (exprsS R l).1 = (exprsS S l).1 ∧ Lift p (exprsS S l).2 (exprsS R l).2
  | [], S, R, h => by rw [exprsS, exprsS]; exact ⟨rfl, h⟩
  | e :: l, S, R, h => by
    have i1 := exprS_lift e h
    rw [exprsS, exprsS, i1.1]
    split
    · exact exprsS_lift l i1.2
    · exact i1
end
theorem kindS_lift {p : List Int} {S R : Sc} (h : Lift p S R) (k : Int) (x : ByteArray) (c : Int) : (kindS R k x c).1 = (kindS S k x c).1 ∧ Lift p (kindS S k x c).2 (kindS R k x c).2 := by
  unfold kindS
  split
  · exact declare_lift h x
  · split
    · exact look_lift h x
    · rw [h.cells]
      split
      · exact ⟨rfl, h⟩
      · exact ⟨rfl, h⟩
mutual
theorem stmtS_lift {p : List Int} : ∀ (s : Stmt) {S R : Sc}, Lift p S R → (stmtS R s).1 = (stmtS S s).1 ∧ Lift p (stmtS S s).2 (stmtS R s).2
  | .mk k nm c la lb le, S, R, h => by
    have i1 := exprsS_lift la h
    have i2 := kindS_lift i1.2 k nm c
    have i3 : ∀ {S R : Sc}, Lift p S R → (blockS R lb).1 = (blockS S lb).1 ∧ Lift p (blockS S lb).2 (blockS R lb).2 := fun h => by
      have := stmtsS_lift lb h
      rw [blockS, blockS]
      exact ⟨this.1, by simp only [this.2.names, h.names], this.2.out, this.2.cells⟩
    have i4 : ∀ {S R : Sc}, Lift p S R → (blockS R le).1 = (blockS S le).1 ∧ Lift p (blockS S le).2 (blockS R le).2 := fun h => by
      have := stmtsS_lift le h
      rw [blockS, blockS]
      exact ⟨this.1, by simp only [this.2.names, h.names], this.2.out, this.2.cells⟩
    have i5 := i3 i2.2
    rw [stmtS, stmtS, i1.1]
    split
    · simp only [i2.1]
      split
      · rw [i5.1]
        split
        · exact i4 i5.2
        · exact i5
      · exact i2
    · exact i1
theorem stmtsS_lift {p : List Int} : ∀ (l : List Stmt) {S R : Sc}, Lift p S R → (stmtsS R l).1 = (stmtsS S l).1 ∧ Lift p (stmtsS S l).2 (stmtsS R l).2
  | [], S, R, h => by rw [stmtsS, stmtsS]; exact ⟨rfl, h⟩
  | s :: l, S, R, h => by
    have i1 := stmtS_lift s h
    rw [stmtsS, stmtsS, i1.1]
    split
    · exact stmtsS_lift l i1.2
    · exact i1
end
theorem stmtS_keeps {S : Sc} {s : Stmt} (hk : s.kind ≠ 1) : (stmtS S s).2.names = S.names := by
  cases s with
  | mk k nm c la lb le =>
    simp only [Stmt.kind] at hk
    have h2 : ∀ T : Sc, (kindS T k nm c).2.names = T.names := fun T => by
      unfold kindS
      rw [if_neg hk]
      split
      · exact look_names T nm
      · split <;> rfl
    rw [stmtS]
    split
    · simp only
      split
      · split
        · rw [blockS_same, blockS_same, h2, exprsS_names]
        · rw [blockS_same, h2, exprsS_names]
      · rw [h2, exprsS_names]
    · rw [exprsS_names]
theorem stmtsS_keeps : ∀ (l : List Stmt) {S : Sc}, (∀ s ∈ l, s.kind ≠ 1) → (stmtsS S l).2.names = S.names
  | [], S, h => by rw [stmtsS]
  | s :: l, S, h => by
    rw [stmtsS]
    split
    · rw [stmtsS_keeps l fun x hx => h x (List.mem_cons_of_mem _ hx), stmtS_keeps (h s (List.mem_cons_self ..))]
    · exact stmtS_keeps (h s (List.mem_cons_self ..))
theorem slotsP_joins {l m : List Stmt} {L : Int} (hk : ∀ s ∈ l, s.kind ≠ 1) (h1 : (slotsP l L).2 = 0) (h2 : (slotsP m L).2 = 0) : slotsP (l ++ m) L = ((slotsP l L).1 ++ (slotsP m L).1, 0) := by
  have c1 : (stmtsS ⟨[], [], 0, L⟩ l).1 = 0 := by
    unfold slotsP at h1
    split at h1
    · assumption
    · exact h1
  have c2 : (stmtsS ⟨[], [], 0, L⟩ m).1 = 0 := by
    unfold slotsP at h2
    split at h2
    · assumption
    · exact h2
  have hl : Lift (stmtsS ⟨[], [], 0, L⟩ l).2.out ⟨[], [], 0, L⟩ (stmtsS ⟨[], [], 0, L⟩ l).2 := ⟨stmtsS_keeps l hk, by simp, stmtsS_cells _ _⟩
  have i := stmtsS_lift m hl
  unfold slotsP
  rw [stmtsS_app, if_pos c1, i.1, if_pos c2, if_pos c1, if_pos c2, i.2.out]
theorem drop_more {sl T : List Int} {n : Nat} (h : n ≤ sl.length) : (sl ++ T).drop n = sl.drop n ++ T := by
  rw [List.drop_append, show n - sl.length = 0 by omega, List.drop_zero]
theorem getD_more {sl T : List Int} {n : Nat} (h : n < sl.length) : (sl ++ T).getD n 0 = sl.getD n 0 := by
  simp [List.getD, List.getElem?_append, h]
theorem exprC_slots {e : Expr} {sl : List Int} {t : Int} {r : Int × Int × List Ins × List Int} {d : Nat} {nm : ByteArray → Bool} (hr : e.rightB nm d = true) (h : exprC sl t e = some r) : r.2.2.2 = sl.drop e.useN := by
  have := exprG_C e ⟨[], sl⟩ t
  simp only [h, Option.map_some] at this
  exact (exprG_grow e t hr this).1
mutual
theorem exprC_more : ∀ (e : Expr) (sl T : List Int) (t : Int) {d : Nat} {nm : ByteArray → Bool}, e.rightB nm d = true → e.useN ≤ sl.length → exprC (sl ++ T) t e = (exprC sl t e).map fun r => (r.1, r.2.1, r.2.2.1, r.2.2.2 ++ T)
  | .mk k n s o la, sl, T, t, d, nm, hr, hu => by
    rw [Expr.useN] at hu
    rw [Expr.rightB] at hr
    simp only [Bool.and_eq_true] at hr
    rw [exprC, exprC]
    by_cases h2 : k = 2
    · rw [if_pos h2] at hu
      rw [if_pos h2, if_pos h2, getD_more (by omega), drop_more (by omega)]; rfl
    · rw [if_neg h2] at hu
      rw [if_neg h2, if_neg h2]
      by_cases ht : 16 ≤ t
      · rw [if_pos ht, if_pos ht]; rfl
      · rw [if_neg ht, if_neg ht]
        by_cases h1 : k = 1
        · rw [if_pos h1, if_pos h1]; rfl
        · rw [if_neg h1, if_neg h1, exprsC_more la sl T t hr.2 hu]
          cases exprsC sl t la with
          | none => rfl
          | some r => rfl
theorem exprsC_more : ∀ (l : List Expr) (sl T : List Int) (t : Int) {d : Nat} {nm : ByteArray → Bool}, Expr.rightsB nm d l = true → Expr.useL l ≤ sl.length → exprsC (sl ++ T) t l = (exprsC sl t l).map fun r => (r.1, r.2.1, r.2.2.1, r.2.2.2 ++ T)
  | [], sl, T, t, d, nm, hr, hu => by rw [exprsC, exprsC]; rfl
  | e :: l, sl, T, t, d, nm, hr, hu => by
    rw [Expr.useL] at hu
    rw [Expr.rightsB] at hr
    simp only [Bool.and_eq_true] at hr
    rw [exprsC, exprsC, exprC_more e sl T t hr.1 (by omega)]
    cases hx : exprC sl t e with
    | none => rfl
    | some r =>
      have hs := exprC_slots hr.1 hx
      simp only [Option.map_some]
      rw [exprsC_more l r.2.2.2 T r.2.1 hr.2 (by rw [hs, List.length_drop]; omega)]
      cases exprsC r.2.2.2 r.2.1 l with
      | none => rfl
      | some r2 => rfl
end
theorem setC_more {e : Expr} {sl : List Int} (T : List Int) {d : Nat} (hr : e.rightB nameB d = true) (hu : e.useN + 1 ≤ sl.length) : setC (sl ++ T) e = (setC sl e).map fun r => (r.1, r.2 ++ T) := by
  unfold setC
  by_cases h : e.kind = 2
  · rw [Expr.useN_eq, if_pos h] at hu
    rw [if_pos h, if_pos h, getD_more (by omega), getD_more (by omega), drop_more (by omega)]; rfl
  · rw [if_neg h, if_neg h, exprC_more e sl T 11 hr (by omega)]
    cases hx : exprC sl 11 e with
    | none => rfl
    | some r =>
      have hs := exprC_slots hr hx
      have hl : 1 ≤ r.2.2.2.length := by rw [hs, List.length_drop]; omega
      simp only [Option.map_some]
      rw [getD_more (by omega), drop_more hl]
theorem oneC_more {e : Expr} {sl : List Int} (T : List Int) (k c : Int) {d : Nat} (hr : e.rightB nameB d = true) (hu : e.useN ≤ sl.length) : oneC (sl ++ T) k e c = (oneC sl k e c).map fun r => (r.1, r.2 ++ T) := by
  unfold oneC
  rw [exprC_more e sl T 11 hr hu]
  cases hx : exprC sl 11 e with
  | none => rfl
  | some r => rfl
theorem storeC_more {e f : Expr} {sl : List Int} (T : List Int) {d : Nat} (hr : e.rightB nameB d = true) (hr2 : f.rightB nameB d = true) (hu : e.useN + f.useN ≤ sl.length) : storeC (sl ++ T) e f = (storeC sl e f).map fun r => (r.1, r.2 ++ T) := by
  unfold storeC
  rw [exprC_more e sl T 11 hr (by omega)]
  cases hx : exprC sl 11 e with
  | none => rfl
  | some r =>
    have hs := exprC_slots hr hx
    simp only [Option.map_some]
    rw [exprC_more f r.2.2.2 T r.2.1 hr2 (by rw [hs, List.length_drop]; omega)]
    cases exprC r.2.2.2 r.2.1 f with
    | none => rfl
    | some r2 => rfl
theorem blockC_slots {l : List Stmt} {sl : List Int} {r : List Ins × List Int} {d : Nat} (hr : Stmt.rightsB nameB d l = true) (h : blockC sl l = some r) : r.2 = sl.drop (Stmt.useL l) := by
  have := blockG_C l ⟨[], sl⟩
  simp only [h, Option.map_some] at this
  exact (blockG_grow l hr this).1
theorem stmtC_slots {s : Stmt} {sl : List Int} {r : List Ins × List Int} {d : Nat} (hr : s.rightB nameB d = true) (h : stmtC sl s = some r) : r.2 = sl.drop s.useN := by
  have := stmtG_C s ⟨[], sl⟩
  simp only [h, Option.map_some] at this
  exact (stmtG_grow s hr this).1
mutual
theorem stmtC_more : ∀ (s : Stmt) (sl T : List Int) {d : Nat}, s.rightB nameB d = true → s.useN ≤ sl.length → stmtC (sl ++ T) s = (stmtC sl s).map fun r => (r.1, r.2 ++ T)
  | .mk k nm c la lb le, sl, T, d, hr, hu => by
    obtain ⟨hk, hla, hrr, hlb, hle, hrb, hre⟩ := Stmt.right_parts hr
    simp only [Stmt.kind, Stmt.args, Stmt.body, Stmt.els] at hk hla hrr hlb hle hrb hre
    rw [Stmt.useN] at hu
    have ib := fun sl => stmtsC_more lb sl T hrb
    have ie := fun sl => stmtsC_more le sl T hre
    have a0 : ∀ (h : 0 < la.length), (la.getD 0 default).rightB nameB 1 = true := fun h => by
      rw [show la.getD 0 default = la[0] by simp [List.getD, h]]; exact Expr.rightsB_all hrr _ (List.getElem_mem h)
    have u1 : la.length = 1 → Expr.useL la = (la.getD 0 default).useN := fun h => by
      match la, h with
      | [x], _ => simp [Expr.useL]
    rw [stmtC, stmtC]
    by_cases h1 : k = 1 ∨ k = 2
    · rw [if_pos h1] at hu
      have hl : la.length = 1 := by simp only [wantA] at hla; split at hla <;> (try split at hla) <;> omega
      have := u1 hl
      rw [if_pos h1, if_pos h1]; exact setC_more T (a0 (by omega)) (by omega)
    rw [if_neg h1] at hu
    rw [if_neg h1, if_neg h1]
    by_cases h3 : k = 3
    · have hl : la.length = 2 := by simp only [wantA] at hla; split at hla <;> (try split at hla) <;> omega
      have a1 : (la.getD 1 default).rightB nameB 1 = true := by
        rw [show la.getD 1 default = la[1] by simp [List.getD, hl]]; exact Expr.rightsB_all hrr _ (List.getElem_mem _)
      have u2 : Expr.useL la = (la.getD 0 default).useN + (la.getD 1 default).useN := by
        match la, hl with
        | [x, y], _ => simp [Expr.useL]
      rw [if_pos h3, if_pos h3]; exact storeC_more T (a0 (by omega)) a1 (by omega)
    rw [if_neg h3, if_neg h3]
    by_cases h9 : k = 9
    · subst h9
      simp
    have hl : la.length = 1 := by simp only [wantA] at hla; split at hla <;> (try split at hla) <;> omega
    have hu1 := u1 hl
    have hr1 := a0 (by omega)
    generalize la.getD 0 default = e at hu1 hr1
    have ue : e.useN ≤ sl.length := by omega
    by_cases h4 : k = 4
    · rw [if_pos h4, if_pos h4]; exact oneC_more T _ _ hr1 ue
    rw [if_neg h4, if_neg h4]
    by_cases h5 : k = 5
    · rw [if_pos h5, if_pos h5]; exact oneC_more T _ _ hr1 ue
    rw [if_neg h5, if_neg h5]
    by_cases h8 : k = 8
    · rw [if_pos h8, if_pos h8]; exact oneC_more T _ _ hr1 ue
    rw [if_neg h8, if_neg h8, if_neg h9, if_neg h9, exprC_more e sl T 11 hr1 ue]
    by_cases h6 : k = 6
    · rw [if_pos h6, if_pos h6]
      cases hx : exprC sl 11 e with
      | none => rfl
      | some r =>
        have hs := exprC_slots hr1 hx
        obtain ⟨a, t', R, s1⟩ := r
        simp only [Option.map_some] at hs ⊢
        rw [ib s1 (by rw [hs, List.length_drop]; omega)]
        cases hb : blockC s1 lb with
        | none => rfl
        | some rb =>
          have hs2 := blockC_slots hrb hb
          obtain ⟨B, s2⟩ := rb
          simp only [Option.map_some] at hs2 ⊢
          by_cases hl : le.length = 0
          · rw [if_pos hl, if_pos hl]; rfl
          · rw [if_neg hl, if_neg hl, ie s2 (by rw [hs2, hs, List.length_drop, List.length_drop]; omega)]
            cases blockC s2 le with
            | none => rfl
            | some re => rfl
    rw [if_neg h6, if_neg h6]
    by_cases h7 : k = 7
    · rw [if_pos h7, if_pos h7]
      cases hx : exprC sl 11 e with
      | none => rfl
      | some r =>
        have hs := exprC_slots hr1 hx
        obtain ⟨a, t', R, s1⟩ := r
        simp only [Option.map_some] at hs ⊢
        rw [ib s1 (by rw [hs, List.length_drop]; omega)]
        cases hb : blockC s1 lb with
        | none => rfl
        | some rb => rfl
    rw [if_neg h7, if_neg h7]
    rfl
theorem stmtsC_more : ∀ (l : List Stmt) (sl T : List Int) {d : Nat}, Stmt.rightsB nameB d l = true → Stmt.useL l ≤ sl.length → blockC (sl ++ T) l = (blockC sl l).map fun r => (r.1, r.2 ++ T)
  | [], sl, T, d, hr, hu => by rw [blockC, blockC]; rfl
  | s :: l, sl, T, d, hr, hu => by
    rw [Stmt.useL] at hu
    rw [Stmt.rightsB] at hr
    simp only [Bool.and_eq_true] at hr
    rw [blockC, blockC, stmtC_more s sl T hr.1 (by omega)]
    cases hx : stmtC sl s with
    | none => rfl
    | some r =>
      have hs := stmtC_slots hr.1 hx
      simp only [Option.map_some]
      rw [stmtsC_more l r.2 T hr.2 (by rw [hs, List.length_drop]; omega)]
      cases blockC r.2 l with
      | none => rfl
      | some r2 => rfl
end
theorem blockC_app : ∀ (l m : List Stmt) (sl : List Int), blockC sl (l ++ m) = (blockC sl l).bind fun r => (blockC r.2 m).map fun q => (r.1 ++ q.1.map (mv r.1.length), q.2)
  | [], m, sl => by
    rw [blockC]
    simp only [List.nil_append, Option.bind_some]
    rw [show (fun q : List Ins × List Int => (q.1.map (mv ([] : List Ins).length), q.2)) = id from funext fun q => by simp [show mv 0 = id from funext mv_zero]]
    simp
  | s :: l, m, sl => by
    rw [List.cons_append, blockC, blockC]
    cases stmtC sl s with
    | none => rfl
    | some r =>
      simp only
      rw [blockC_app l m r.2]
      cases blockC r.2 l with
      | none => rfl
      | some r2 =>
        simp only [Option.bind_some]
        cases blockC r2.2 m with
        | none => rfl
        | some r3 =>
          simp only [Option.map_some, List.map_append, map_mv_mv, List.append_assoc, List.length_append, List.length_map]
          rw [Nat.add_comm]
theorem genP_is {ss : List Stmt} {L : Int} {a : List Ins} (h : genP ss L = (a, 0)) : rightP nameB ss = true ∧ (slotsP ss L).2 = 0 ∧ ∃ r, blockC (slotsP ss L).1 ss = some r ∧ a = r.1 ++ [⟨1, 0, 0, 0, 0, 0⟩] ∧ a.length ≤ 600 := by
  unfold genP at h
  split at h
  · simp at h
  · rename_i hr
    split at h
    · rename_i hs
      simp only [Prod.mk.injEq] at h
      exact absurd h.2 hs
    · rename_i hs
      split at h
      · simp at h
      · rename_i G hG
        split at h
        · simp at h
        · rename_i hl
          simp only [Prod.mk.injEq, and_true] at h
          rw [blockG_C] at hG
          cases hb : blockC (slotsP ss L).1 ss with
          | none => rw [hb] at hG; simp at hG
          | some r =>
            rw [hb] at hG
            simp only [Option.map_some, Option.some.injEq] at hG
            subst hG
            simp only [List.nil_append, List.length_map, List.length_nil, show mv 0 = id from funext mv_zero, List.map_id] at h hl
            refine ⟨by simpa using hr, by simpa using hs, r, rfl, h.symm, ?_⟩
            rw [← h]
            simp
            omega
theorem joins_plain {l m : List Stmt} {L : Int} {a b : List Ins} (hk : ∀ s ∈ l, s.kind ≠ 1) (h1 : genP l L = (a, 0)) (h2 : genP m L = (b, 0)) (hr : rightP nameB (l ++ m) = true) :
    genP (l ++ m) L = if 600 < a.length - 1 + b.length then ([], 80) else (a.take (a.length - 1) ++ b.map (mv (a.length - 1)), 0) := by
  obtain ⟨r1, s1, q1, b1, e1, _⟩ := genP_is h1
  obtain ⟨r2, s2, q2, b2, e2, _⟩ := genP_is h2
  have hs := slotsP_joins hk s1 s2
  have hrr1 : Stmt.rightsB nameB 0 l = true := by
    simp only [rightP, Bool.and_eq_true] at r1; exact r1.1
  have hlen := slots_use s1
  have hb : blockC ((slotsP l L).1 ++ (slotsP m L).1) (l ++ m) = some (q1.1 ++ q2.1.map (mv q1.1.length), q2.2) := by
    rw [blockC_app, stmtsC_more l _ _ hrr1 (by omega), b1]
    have hq := blockC_slots hrr1 b1
    simp only [Option.map_some, Option.bind_some]
    rw [hq, ← hlen, List.drop_length, List.nil_append, b2]
    rfl
  unfold genP
  rw [if_neg (by simp [hr]), hs, if_neg (by simp), blockG_C, hb]
  simp only [Option.map_some, List.nil_append, List.length_nil, show mv 0 = id from funext mv_zero, List.map_id]
  have la : a.length - 1 = q1.1.length := by rw [e1]; simp
  have lb : b.length = q2.1.length + 1 := by rw [e2]; simp
  rw [la, lb, e1, e2]
  simp only [List.length_append, List.length_map, List.map_append, List.map_cons, List.map_nil]
  by_cases h6 : 600 < q1.1.length + q2.1.length + 1
  · rw [if_pos h6, if_pos (by omega)]
  · rw [if_neg h6, if_neg (by omega)]
    simp [mv]
end Go.Proofs.Ytjlnpppjkdcpkaa.My
