/- A text's instructions put together of pieces that are told from their own beginning; in plain Lean, no program in sight. -/
import Derived.Test.YtjlnpppjkdcpkaaGmGnQ
namespace Go.Proofs.Ytjlnpppjkdcpkaa.My
open Go.RowKit
set_option linter.unusedVariables false
set_option linter.unusedSimpArgs false
/-- an instruction moved so much further -/
def mv (n : Nat) (x : Ins) : Ins := if 10 ≤ x.kind ∧ x.kind ≤ 12 then { x with n := x.n + n } else x
theorem mv_zero (x : Ins) : mv 0 x = x := by
  unfold mv
  split
  · simp
  · rfl
theorem mv_kind (n : Nat) (x : Ins) : (mv n x).kind = x.kind := by unfold mv; split <;> rfl
theorem mv_mv (a b : Nat) (x : Ins) : mv b (mv a x) = mv (a + b) x := by
  by_cases h : 10 ≤ x.kind ∧ x.kind ≤ 12
  · simp only [mv, if_pos h]
    congr 1
    push_cast
    omega
  · simp only [mv, if_neg h]
theorem mv_far {n : Nat} {x : Ins} (h : ¬ (10 ≤ x.kind ∧ x.kind ≤ 12)) : mv n x = x := by simp only [mv, if_neg h]
theorem map_mv_mv (a b : Nat) (l : List Ins) : (l.map (mv a)).map (mv b) = l.map (mv (a + b)) := by
  rw [List.map_map]
  exact List.map_congr_left fun x _ => mv_mv a b x
theorem map_mv_far {n : Nat} {l : List Ins} (h : ∀ x ∈ l, ¬ (10 ≤ x.kind ∧ x.kind ≤ 12)) : l.map (mv n) = l := by
  conv => rhs; rw [← List.map_id l]
  exact List.map_congr_left fun x hx => mv_far (h x hx)
mutual
/-- an expression's instructions, which hold no target; where its value is, what is free behind it, which registers of names are left -/
def exprC (sl : List Int) (t : Int) : Expr → Option (Int × Int × List Ins × List Int)
  | .mk k n s o la =>
    if k = 2 then some (sl.getD 0 0, t, [], sl.drop 1)
    else if 16 ≤ t then none
    else if k = 1 then some (t, t + 1, [⟨2, 0, t, 0, 0, n⟩], sl)
    else match exprsC sl t la with
      | none => none
      | some (vs, _, l, s1) => some (t, t + 1, l ++ [if k = 3 then ⟨6, 0, t, vs.getD 0 0, 0, 0⟩ else if k = 4 then ⟨4, o, t, vs.getD 0 0, 0, 0⟩ else ⟨5, o, t, vs.getD 0 0, vs.getD 1 0, 0⟩], s1)
def exprsC (sl : List Int) (t : Int) : List Expr → Option (List Int × Int × List Ins × List Int)
  | [] => some ([], t, [], sl)
  | e :: l => match exprC sl t e with
    | none => none
    | some (a, t1, X, s1) => match exprsC s1 t1 l with
      | none => none
      | some (vs, t2, Y, s2) => some (a :: vs, t2, X ++ Y, s2)
end
def setC (sl : List Int) (e : Expr) : Option (List Ins × List Int) :=
  if e.kind = 2 then some ([⟨3, 0, sl.getD 1 0, sl.getD 0 0, 0, 0⟩], sl.drop 2)
  else match exprC sl 11 e with
    | none => none
    | some (_, _, X, s1) => some (X.set (X.length - 1) { X.getD (X.length - 1) default with a := s1.getD 0 0 }, s1.drop 1)
def oneC (sl : List Int) (k : Int) (e : Expr) (c : Int) : Option (List Ins × List Int) := match exprC sl 11 e with
  | none => none
  | some (a, _, X, s1) => some (X ++ [⟨k, 0, a, 0, c, 0⟩], s1)
def storeC (sl : List Int) (e f : Expr) : Option (List Ins × List Int) := match exprC sl 11 e with
  | none => none
  | some (a, t, X, s1) => match exprC s1 t f with
    | none => none
    | some (v, _, Y, s2) => some (X ++ Y ++ [⟨7, 0, v, a, 0, 0⟩], s2)
mutual
/-- a statement's instructions, the targets told from its own beginning -/
def stmtC (sl : List Int) : Stmt → Option (List Ins × List Int)
  | .mk k s c la lb le =>
    if k = 1 ∨ k = 2 then setC sl (la.getD 0 default)
    else if k = 3 then storeC sl (la.getD 0 default) (la.getD 1 default)
    else if k = 4 then oneC sl 9 (la.getD 0 default) 0
    else if k = 5 then oneC sl 8 (la.getD 0 default) c
    else if k = 8 then oneC sl 13 (la.getD 0 default) 0
    else if k = 9 then some ([⟨1, 0, 0, 0, 0, 0⟩], sl)
    else if k = 6 then (match exprC sl 11 (la.getD 0 default) with
      | none => none
      | some (a, _, l, s1) => match blockC s1 lb with
        | none => none
        | some (X, s2) => if le.length = 0 then some (l ++ ⟨11, 0, a, 0, 0, ((l.length + 1 + X.length : Nat) : Int)⟩ :: X.map (mv (l.length + 1)), s2)
          else match blockC s2 le with
            | none => none
            | some (Y, s3) => some (l ++ ⟨11, 0, a, 0, 0, ((l.length + 1 + X.length + 1 : Nat) : Int)⟩ :: (X.map (mv (l.length + 1)) ++ ⟨10, 0, 0, 0, 0, ((l.length + 1 + X.length + 1 + Y.length : Nat) : Int)⟩ :: Y.map (mv (l.length + 1 + X.length + 1))), s3))
    else if k = 7 then (match exprC sl 11 (la.getD 0 default) with
      | none => none
      | some (a, _, l, s1) => match blockC s1 lb with
        | none => none
        | some (X, s2) => some (l ++ ⟨11, 0, a, 0, 0, ((l.length + 1 + X.length + 1 : Nat) : Int)⟩ :: (X.map (mv (l.length + 1)) ++ [⟨10, 0, 0, 0, 0, 0⟩]), s2))
    else some ([], sl)
def blockC (sl : List Int) : List Stmt → Option (List Ins × List Int)
  | [] => some ([], sl)
  | s :: l => match stmtC sl s with
    | none => none
    | some (X, s1) => match blockC s1 l with
      | none => none
      | some (Y, s2) => some (X ++ Y.map (mv X.length), s2)
end
mutual
theorem exprC_far : ∀ (e : Expr) (sl : List Int) (t : Int) {r : Int × Int × List Ins × List Int}, exprC sl t e = some r → (∀ x ∈ r.2.2.1, ¬ (10 ≤ x.kind ∧ x.kind ≤ 12)) ∧ (e.kind ≠ 2 → 0 < r.2.2.1.length)
  | .mk k n s o la, sl, t, r, h => by
    rw [exprC] at h
    split at h
    · rename_i hk
      cases h
      exact ⟨by simp, fun hh => absurd hk hh⟩
    · split at h
      · cases h
      · split at h
        · cases h
          exact ⟨by simp, fun _ => by simp⟩
        · split at h
          · cases h
          · rename_i vs t2 l s1 hx
            cases h
            have ih := exprsC_far la sl t hx
            refine ⟨fun x hx => ?_, fun _ => by simp⟩
            rcases List.mem_append.1 hx with hx | hx
            · exact ih x hx
            · simp only [List.mem_singleton] at hx
              subst hx
              split
              · simp
              · split <;> simp
theorem exprsC_far : ∀ (l : List Expr) (sl : List Int) (t : Int) {r : List Int × Int × List Ins × List Int}, exprsC sl t l = some r → ∀ x ∈ r.2.2.1, ¬ (10 ≤ x.kind ∧ x.kind ≤ 12)
  | [], sl, t, r, h => by
    rw [exprsC] at h
    cases h
    simp
  | e :: l, sl, t, r, h => by
    rw [exprsC] at h
    split at h
    · cases h
    · rename_i a t1 X s1 h1
      split at h
      · cases h
      · rename_i vs t2 Y s2 h2
        cases h
        have i1 := (exprC_far e sl t h1).1
        have i2 := exprsC_far l s1 t1 h2
        intro x hx
        rcases List.mem_append.1 hx with hx | hx
        · exact i1 x hx
        · exact i2 x hx
end
mutual
theorem exprG_C : ∀ (e : Expr) (G : Gn) (t : Int), exprG G t e = (exprC G.slots t e).map fun r => (r.1, r.2.1, ⟨G.out ++ r.2.2.1, r.2.2.2⟩)
  | .mk k n s o la, G, t => by
    rw [exprG, exprC]
    by_cases h2 : k = 2
    · simp [h2, Gn.skip]
    · rw [if_neg h2, if_neg h2]
      by_cases ht : 16 ≤ t
      · simp [ht]
      · rw [if_neg ht, if_neg ht]
        by_cases h1 : k = 1
        · simp [h1, Gn.put]
        · rw [if_neg h1, if_neg h1, exprsG_C la G t]
          cases exprsC G.slots t la with
          | none => rfl
          | some r => simp [Gn.put]
theorem exprsG_C : ∀ (l : List Expr) (G : Gn) (t : Int), exprsG G t l = (exprsC G.slots t l).map fun r => (r.1, r.2.1, ⟨G.out ++ r.2.2.1, r.2.2.2⟩)
  | [], G, t => by rw [exprsG, exprsC]; simp
  | e :: l, G, t => by
    rw [exprsG, exprsC, exprG_C e G t]
    cases exprC G.slots t e with
    | none => rfl
    | some r =>
      simp only [Option.map_some]
      rw [exprsG_C l _ _]
      cases exprsC r.2.2.2 r.2.1 l with
      | none => rfl
      | some r2 => simp
end
theorem upd_last (A X : List Ins) (sl : List Int) (f : Ins → Ins) (h : 0 < X.length) : (⟨A ++ X, sl⟩ : Gn).upd ((A ++ X).length - 1) f = ⟨A ++ X.set (X.length - 1) (f (X.getD (X.length - 1) default)), sl⟩ := by
  have e : (A ++ X).length - 1 = A.length + (X.length - 1) := by simp; omega
  unfold Gn.upd
  rw [e]
  simp [List.set_append, List.getD, List.getElem?_append]
  rw [if_neg (by omega)]
theorem here_mid (A B : List Ins) (x : Ins) (sl : List Int) : (⟨A ++ x :: B, sl⟩ : Gn).here A.length = ⟨A ++ { x with n := ((A.length + 1 + B.length : Nat) : Int) } :: B, sl⟩ := by
  unfold Gn.here Gn.upd
  simp [List.set_append, List.getD, List.getElem?_append]
  omega
theorem put_mid (A B : List Ins) (x y : Ins) (sl : List Int) : (⟨A ++ x :: B, sl⟩ : Gn).put y = ⟨A ++ x :: (B ++ [y]), sl⟩ := by simp [Gn.put]
theorem mid_mid (A B C : List Ins) (x y : Ins) (sl : List Int) (n : Nat) (hn : n = A.length + 1 + B.length) : (⟨A ++ x :: (B ++ [y]) ++ C, sl⟩ : Gn).here n = ⟨A ++ x :: (B ++ { y with n := ((A.length + 1 + B.length + 1 + C.length : Nat) : Int) } :: C), sl⟩ := by
  have h := here_mid (A ++ x :: B) C y sl
  rw [show (A ++ x :: B).length = n by simp; omega] at h
  rw [show A ++ x :: (B ++ [y]) ++ C = A ++ x :: B ++ y :: C by simp, h]
  simp
  omega
theorem setG_C (e : Expr) (G : Gn) : setG G e = (setC G.slots e).map fun r => ⟨G.out ++ r.1.map (mv G.out.length), r.2⟩ := by
  unfold setG setC
  by_cases h : e.kind = 2
  · simp [h, Gn.put, Gn.skip, mv]
  · rw [if_neg h, if_neg h, exprG_C]
    cases hx : exprC G.slots 11 e with
    | none => rfl
    | some r =>
      have hf := exprC_far e _ _ hx
      have hl := hf.2 h
      simp only [Option.map_some]
      have := upd_last G.out r.2.2.1 (r.2.2.2.drop 1) (fun x => { x with a := r.2.2.2.getD 0 0 }) hl
      rw [show (Gn.skip ⟨G.out ++ r.2.2.1, r.2.2.2⟩ 1) = ⟨G.out ++ r.2.2.1, r.2.2.2.drop 1⟩ from rfl, this]
      congr 3
      rw [map_mv_far]
      intro x hx
      rcases List.mem_or_eq_of_mem_set hx with hx | hx
      · exact hf.1 x hx
      · subst hx
        have hm : r.2.2.1.getD (r.2.2.1.length - 1) default ∈ r.2.2.1 := by
          rw [List.getD_eq_getElem?_getD, List.getElem?_eq_getElem (by omega)]
          exact List.getElem_mem _
        have := hf.1 _ hm
        exact this
theorem oneG_C (e : Expr) (G : Gn) (k c : Int) (hk : ¬ (10 ≤ k ∧ k ≤ 12)) : oneG G k e c = (oneC G.slots k e c).map fun r => ⟨G.out ++ r.1.map (mv G.out.length), r.2⟩ := by
  unfold oneG oneC
  rw [exprG_C]
  cases hx : exprC G.slots 11 e with
  | none => rfl
  | some r =>
    have hf := exprC_far e _ _ hx
    simp [Gn.put, map_mv_far hf.1, mv, hk]
theorem storeG_C (e f : Expr) (G : Gn) : storeG G e f = (storeC G.slots e f).map fun r => ⟨G.out ++ r.1.map (mv G.out.length), r.2⟩ := by
  unfold storeG storeC
  rw [exprG_C]
  cases hx : exprC G.slots 11 e with
  | none => rfl
  | some r =>
    simp only [Option.map_some]
    rw [exprG_C]
    have hf := exprC_far e _ _ hx
    cases hy : exprC r.2.2.2 r.2.1 f with
    | none => rfl
    | some r2 =>
      have hg := exprC_far f _ _ hy
      simp [Gn.put, map_mv_far hf.1, map_mv_far hg.1, mv]
theorem oneG_test (e : Expr) (G : Gn) : oneG G 11 e 0 = (exprC G.slots 11 e).map fun r => ⟨(G.out ++ r.2.2.1) ++ [⟨11, 0, r.1, 0, 0, 0⟩], r.2.2.2⟩ := by
  unfold oneG
  rw [exprG_C]
  cases exprC G.slots 11 e with
  | none => rfl
  | some r => rfl
mutual
theorem stmtG_C : ∀ (s : Stmt) (G : Gn), stmtG G s = (stmtC G.slots s).map fun r => ⟨G.out ++ r.1.map (mv G.out.length), r.2⟩
  | .mk k nm c la lb le, G => by
    rw [stmtG, stmtC]
    by_cases h1 : k = 1 ∨ k = 2
    · rw [if_pos h1, if_pos h1]; exact setG_C _ _
    rw [if_neg h1, if_neg h1]
    by_cases h3 : k = 3
    · rw [if_pos h3, if_pos h3]; exact storeG_C _ _ _
    rw [if_neg h3, if_neg h3]
    by_cases h4 : k = 4
    · rw [if_pos h4, if_pos h4]; exact oneG_C _ _ _ _ (by decide)
    rw [if_neg h4, if_neg h4]
    by_cases h5 : k = 5
    · rw [if_pos h5, if_pos h5]; exact oneG_C _ _ _ _ (by decide)
    rw [if_neg h5, if_neg h5]
    by_cases h8 : k = 8
    · rw [if_pos h8, if_pos h8]; exact oneG_C _ _ _ _ (by decide)
    rw [if_neg h8, if_neg h8]
    by_cases h9 : k = 9
    · rw [if_pos h9, if_pos h9]; simp [Gn.put, mv]
    rw [if_neg h9, if_neg h9]
    by_cases h6 : k = 6
    · rw [if_pos h6, if_pos h6, oneG_test]
      cases hx : exprC G.slots 11 (la.getD 0 default) with
      | none => rfl
      | some r =>
        have hf := (exprC_far _ _ _ hx).1
        obtain ⟨a, t', R, s1⟩ := r
        simp only [Option.map_some] at hf ⊢
        rw [blockG_C lb _]
        simp only
        cases hb : blockC s1 lb with
        | none => rfl
        | some rb =>
          obtain ⟨B, s2⟩ := rb
          simp only [Option.map_some]
          have hi : (G.out ++ R ++ [(⟨11, 0, a, 0, 0, 0⟩ : Ins)]).length - 1 = (G.out ++ R).length := by simp
          have hi2 : (G.out ++ R ++ [(⟨11, 0, a, 0, 0, 0⟩ : Ins)]).length = G.out.length + R.length + 1 := by simp; omega
          rw [hi, hi2]
          by_cases hl : le.length = 0
          · rw [if_pos hl, if_pos hl]
            simp only [Option.map_some, Option.some.injEq]
            rw [List.append_assoc (G.out ++ R), List.singleton_append, here_mid]
            simp only [Gn.mk.injEq, and_true, List.append_assoc, List.map_append, List.map_cons, map_mv_far hf, map_mv_mv, List.append_cancel_left_eq, List.cons.injEq]
            refine ⟨?_, ?_⟩
            · simp [mv]; omega
            · congr 2; omega
          · rw [if_neg hl, if_neg hl]
            rw [List.append_assoc (G.out ++ R), List.singleton_append, put_mid, here_mid, blockG_C le _]
            simp only
            cases he : blockC s2 le with
            | none => rfl
            | some re =>
              obtain ⟨C, s3⟩ := re
              simp only [Option.map_some, Option.some.injEq]
              rw [mid_mid (G.out ++ R) _ _ _ _ _ (G.out ++ R ++ (⟨11, 0, a, 0, 0, 0⟩ : Ins) :: List.map (mv (G.out.length + R.length + 1)) B).length (by simp; omega)]
              simp only [Gn.mk.injEq, and_true, List.append_assoc, List.map_append, List.map_cons, map_mv_far hf, map_mv_mv, List.cons_append, List.append_cancel_left_eq, List.cons.injEq]
              refine ⟨?_, ?_⟩
              · simp [mv]; omega
              · congr 1
                · congr 2; omega
                · simp only [List.cons.injEq]
                  refine ⟨?_, ?_⟩
                  · simp [mv]; omega
                  · congr 2; simp; omega
    rw [if_neg h6, if_neg h6]
    by_cases h7 : k = 7
    · rw [if_pos h7, if_pos h7, oneG_test]
      cases hx : exprC G.slots 11 (la.getD 0 default) with
      | none => rfl
      | some r =>
        have hf := (exprC_far _ _ _ hx).1
        obtain ⟨a, t', R, s1⟩ := r
        simp only [Option.map_some] at hf ⊢
        rw [blockG_C lb _]
        simp only
        cases hb : blockC s1 lb with
        | none => rfl
        | some rb =>
          obtain ⟨B, s2⟩ := rb
          simp only [Option.map_some, Option.some.injEq]
          have hi : (G.out ++ R ++ [(⟨11, 0, a, 0, 0, 0⟩ : Ins)]).length - 1 = (G.out ++ R).length := by simp
          have hi2 : (G.out ++ R ++ [(⟨11, 0, a, 0, 0, 0⟩ : Ins)]).length = G.out.length + R.length + 1 := by simp; omega
          rw [hi, hi2, List.append_assoc (G.out ++ R), List.singleton_append, put_mid, here_mid]
          simp only [Gn.mk.injEq, and_true, List.append_assoc, List.map_append, List.map_cons, map_mv_far hf, map_mv_mv, List.cons_append, List.append_cancel_left_eq, List.cons.injEq]
          refine ⟨?_, ?_⟩
          · simp [mv]; omega
          · congr 1
            · congr 2; omega
            · simp [mv]
    rw [if_neg h7, if_neg h7]
    simp
theorem blockG_C : ∀ (l : List Stmt) (G : Gn), blockG G l = (blockC G.slots l).map fun r => ⟨G.out ++ r.1.map (mv G.out.length), r.2⟩
  | [], G => by rw [blockG, blockC]; simp
  | s :: l, G => by
    rw [blockG, blockC, stmtG_C s G]
    cases stmtC G.slots s with
    | none => rfl
    | some r =>
      simp only [Option.map_some]
      rw [blockG_C l _]
      simp only
      cases blockC r.2 l with
      | none => rfl
      | some r2 =>
        simp only [Option.map_some, Option.some.injEq, Gn.mk.injEq, and_true, List.map_append, map_mv_mv, List.append_assoc, List.append_cancel_left_eq, List.length_append, List.length_map]
        congr 2
        omega
end
end Go.Proofs.Ytjlnpppjkdcpkaa.My
