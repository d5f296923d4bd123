/- The document's statements taken whole: instructions, names, whether no register was left; plain Lean, no program in sight. -/
import Derived.Test.YtjlnpppjkdcpkaaGmGnRg
namespace Go.Proofs.Ytjlnpppjkdcpkaa.My
open Go.RowKit
set_option linter.unusedVariables false
set_option linter.unusedSimpArgs false
/-- a target moved, wrapping round -/
def mvw (d : Nat) (x : Ins) : Ins := if 10 ≤ x.kind ∧ x.kind ≤ 12 then { x with n := wrap64 (x.n + d) } else x
theorem mvw_mv {n d : Nat} {l : List Ins} (h : Tgt n l) (hn : n + d ≤ 1000000000) : l.map (mvw d) = l.map (mv d) := by
  refine List.map_congr_left fun x hx => ?_
  unfold mvw mv
  split
  · rename_i hk
    have := h x hx hk
    rw [show wrap64 (x.n + d) = x.n + d by unfold wrap64; omega]
  · rfl
structure Mm where
  l : List Ins
  th : List ByteArray
  deep : Bool
def ifM0 (X : List Ins) (a : Int) (th : List ByteArray) (b o : Mm) : Mm := ⟨X ++ [⟨11, 0, a, 0, 0, ((X.length + 1 + b.l.length : Nat) : Int)⟩] ++ b.l.map (mvw (X.length + 1)), th, b.deep || o.deep⟩
def ifM1 (X : List Ins) (a : Int) (th : List ByteArray) (b o : Mm) : Mm := ⟨X ++ [⟨11, 0, a, 0, 0, ((X.length + 1 + b.l.length + 1 : Nat) : Int)⟩] ++ b.l.map (mvw (X.length + 1)) ++ [⟨10, 0, 0, 0, 0, ((X.length + 1 + b.l.length + 1 + o.l.length : Nat) : Int)⟩] ++ o.l.map (mvw (X.length + 1 + b.l.length + 1)), th, b.deep || o.deep⟩
def whileM (X : List Ins) (a : Int) (th : List ByteArray) (b : Mm) : Mm := ⟨X ++ [⟨11, 0, a, 0, 0, ((X.length + 1 + b.l.length + 1 : Nat) : Int)⟩] ++ b.l.map (mvw (X.length + 1)) ++ [⟨10, 0, 0, 0, 0, 0⟩], th, b.deep⟩
def varM (th : List ByteArray) (s : ByteArray) (e : Expr) : Mm := match exprD th 11 e with
  | none => ⟨[], [], true⟩
  | some (a, _, X) => ⟨laidD X (regD (th ++ [s]) s) a, th ++ [s], false⟩
def setM (th : List ByteArray) (s : ByteArray) (e : Expr) : Mm := match exprD th 11 e with
  | none => ⟨[], [], true⟩
  | some (a, _, X) => ⟨laidD X (regD th s) a, th, false⟩
def storeM (th : List ByteArray) (e f : Expr) : Mm := match exprD th 11 e with
  | none => ⟨[], [], true⟩
  | some (a, t, X) => match exprD th t f with
    | none => ⟨X ++ [⟨7, 0, 0, a, 0, 0⟩], th, true⟩
    | some (v, _, Y) => ⟨X ++ Y ++ [⟨7, 0, v, a, 0, 0⟩], th, false⟩
def oneM (th : List ByteArray) (k : Int) (e : Expr) (c : Int) : Mm := match exprD th 11 e with
  | none => ⟨[], [], true⟩
  | some (a, _, X) => ⟨X ++ [⟨k, 0, a, 0, c, 0⟩], th, false⟩
mutual
def stmtM (th : List ByteArray) : Stmt → Mm
  | .mk k s c la lb le =>
    if k = 1 then varM th s (la.getD 0 default)
    else if k = 2 then setM th s (la.getD 0 default)
    else if k = 3 then storeM th (la.getD 0 default) (la.getD 1 default)
    else if k = 4 then oneM th 9 (la.getD 0 default) 0
    else if k = 5 then oneM th 8 (la.getD 0 default) c
    else if k = 8 then oneM th 13 (la.getD 0 default) 0
    else if k = 9 then ⟨[⟨1, 0, 0, 0, 0, 0⟩], th, false⟩
    else if k = 6 then (match exprD th 11 (la.getD 0 default) with
      | none => ⟨[], [], true⟩
      | some (a, _, X) => if le.length = 0 then ifM0 X a th (blockM ⟨[], th, false⟩ lb) (blockM ⟨[], th, false⟩ le) else ifM1 X a th (blockM ⟨[], th, false⟩ lb) (blockM ⟨[], th, false⟩ le))
    else if k = 7 then (match exprD th 11 (la.getD 0 default) with
      | none => ⟨[], [], true⟩
      | some (a, _, X) => whileM X a th (blockM ⟨[], th, false⟩ lb))
    else ⟨[], th, false⟩
def blockM (m : Mm) : List Stmt → Mm
  | [] => m
  | s :: l => if m.deep then m else blockM ⟨m.l ++ (stmtM m.th s).l.map (mvw m.l.length), (stmtM m.th s).th, (stmtM m.th s).deep⟩ l
end
theorem stmtM_eq (th : List ByteArray) (s : Stmt) : stmtM th s = 
    if s.kind = 1 then varM th s.name (s.args.getD 0 default)
    else if s.kind = 2 then setM th s.name (s.args.getD 0 default)
    else if s.kind = 3 then storeM th (s.args.getD 0 default) (s.args.getD 1 default)
    else if s.kind = 4 then oneM th 9 (s.args.getD 0 default) 0
    else if s.kind = 5 then oneM th 8 (s.args.getD 0 default) s.cell
    else if s.kind = 8 then oneM th 13 (s.args.getD 0 default) 0
    else if s.kind = 9 then ⟨[⟨1, 0, 0, 0, 0, 0⟩], th, false⟩
    else if s.kind = 6 then (match exprD th 11 (s.args.getD 0 default) with
      | none => ⟨[], [], true⟩
      | some (a, _, X) => if s.els.length = 0 then ifM0 X a th (blockM ⟨[], th, false⟩ s.body) (blockM ⟨[], th, false⟩ s.els) else ifM1 X a th (blockM ⟨[], th, false⟩ s.body) (blockM ⟨[], th, false⟩ s.els))
    else if s.kind = 7 then (match exprD th 11 (s.args.getD 0 default) with
      | none => ⟨[], [], true⟩
      | some (a, _, X) => whileM X a th (blockM ⟨[], th, false⟩ s.body))
    else ⟨[], th, false⟩ := by cases s; rw [stmtM]; rfl
theorem blockM_deep {m : Mm} (h : m.deep = true) (l : List Stmt) : blockM m l = m := by
  cases l with
  | nil => rw [blockM]
  | cons s l => rw [blockM, if_pos h]
theorem laidD_len (X : List Ins) (r a : Int) : (laidD X r a).length ≤ X.length + 1 := by
  unfold laidD
  split
  · simp
  · simp
theorem laidD_far {X : List Ins} (r a : Int) (h : ∀ x ∈ X, ¬ (10 ≤ x.kind ∧ x.kind ≤ 12)) (n : Nat) : Tgt n (laidD X r a) := by
  unfold laidD
  split
  · exact .cons (fun h => by simp at h) (.nil n)
  · rename_i hl
    refine Tgt.of_far fun x hx => ?_
    rcases List.mem_or_eq_of_mem_set hx with hx | hx
    · exact h x hx
    · subst hx
      have hm : X.getD (X.length - 1) default ∈ X := by
        rw [List.getD_eq_getElem?_getD, List.getElem?_eq_getElem (by omega)]
        exact List.getElem_mem _
      have := h _ hm
      exact this
theorem nodesL_pick {la : List Expr} {i : Nat} (hi : i < la.length) : (la.getD i default).nodes ≤ Expr.nodesL la := by
  rw [show la.getD i default = la[i] by simp [List.getD, hi]]
  have := Expr.nodesL_take la i hi
  omega
theorem nodesL_pick2 {la : List Expr} (hi : la.length = 2) : (la.getD 0 default).nodes + (la.getD 1 default).nodes ≤ Expr.nodesL la := by
  match la, hi with
  | [x, y], _ => simp [Expr.nodesL]
theorem oneM_len {th : List ByteArray} {k c : Int} {e : Expr} {d : Nat} {nm : ByteArray → Bool} (hr : e.rightB nm d = true) : (oneM th k e c).l.length ≤ e.nodes + 1 ∧ (oneM th k e c).th.length ≤ th.length := by
  unfold oneM
  split
  · simp
  · rename_i a t X h
    have := (exprD_len hr h).1
    simp only [List.length_append, List.length_singleton] at this ⊢
    omega
mutual
theorem stmtM_len : ∀ (s : Stmt) (th : List ByteArray) {d : Nat}, s.rightB nameB d = true → (stmtM th s).l.length ≤ 3 * s.nodes ∧ (stmtM th s).th.length ≤ th.length + s.nodes
  | .mk k nm c la lb le, th, d, hr => by
    obtain ⟨hk, hla, hrr, hlb, hle, hrb, hre⟩ := Stmt.right_parts hr
    simp only [Stmt.kind, Stmt.args, Stmt.body, Stmt.els] at hk hla hrr hlb hle hrb hre
    have a0 : ∀ (h : 0 < la.length), (la.getD 0 default).rightB nameB 1 = true := fun h => by
      rw [show la.getD 0 default = la[0] by simp [List.getD, h]]; exact Expr.rightsB_all hrr _ (List.getElem_mem h)
    have a1 : ∀ (h : 1 < la.length), (la.getD 1 default).rightB nameB 1 = true := fun h => by
      rw [show la.getD 1 default = la[1] by simp [List.getD, h]]; exact Expr.rightsB_all hrr _ (List.getElem_mem h)
    have ib := blockM_len lb ⟨[], th, false⟩ hrb
    have ie := blockM_len le ⟨[], th, false⟩ hre
    simp only [List.length_nil, Nat.zero_add] at ib ie
    have hw : k ≠ 9 → 0 < la.length := fun h9 => by
      simp only [wantA] at hla
      repeat' split at hla
      all_goals omega
    rw [stmtM, Stmt.nodes]
    by_cases q1 : k = 1
    · rw [if_pos q1]
      unfold varM
      split
      · simp
      · rename_i a t X h
        have := (exprD_len (a0 (hw (by omega))) h).1
        have := laidD_len X (regD (th ++ [nm]) nm) a
        have := nodesL_pick (hw (by omega))
        simp only [List.length_append, List.length_singleton] at *
        omega
    rw [if_neg q1]
    by_cases q2 : k = 2
    · rw [if_pos q2]
      unfold setM
      split
      · simp
      · rename_i a t X h
        have := (exprD_len (a0 (hw (by omega))) h).1
        have := laidD_len X (regD th nm) a
        have := nodesL_pick (hw (by omega))
        simp only at *
        omega
    rw [if_neg q2]
    by_cases q3 : k = 3
    · rw [if_pos q3]
      have hl : la.length = 2 := by simp only [wantA] at hla; repeat' split at hla
                                    all_goals omega
      have hp := nodesL_pick2 hl
      unfold storeM
      split
      · simp
      · rename_i a t X h
        have h1 := (exprD_len (a0 (by omega)) h).1
        split
        · simp only [List.length_append, List.length_singleton] at *
          omega
        · rename_i v t2 Y h2
          have := (exprD_len (a1 (by omega)) h2).1
          simp only [List.length_append, List.length_singleton] at *
          omega
    rw [if_neg q3]
    have hone : ∀ k' c', (oneM th k' (la.getD 0 default) c').l.length ≤ 3 * (1 + Expr.nodesL la + Stmt.nodesL lb + Stmt.nodesL le) ∧ (oneM th k' (la.getD 0 default) c').th.length ≤ th.length + (1 + Expr.nodesL la + Stmt.nodesL lb + Stmt.nodesL le) ∨ k = 9 := fun k' c' => by
      by_cases h9 : k = 9
      · exact .inr h9
      · refine .inl ?_
        have := oneM_len (th := th) (k := k') (c := c') (a0 (hw h9))
        have := nodesL_pick (hw h9)
        omega
    by_cases q4 : k = 4
    · rw [if_pos q4]; exact (hone 9 0).resolve_right (by omega)
    rw [if_neg q4]
    by_cases q5 : k = 5
    · rw [if_pos q5]; exact (hone 8 c).resolve_right (by omega)
    rw [if_neg q5]
    by_cases q8 : k = 8
    · rw [if_pos q8]; exact (hone 13 0).resolve_right (by omega)
    rw [if_neg q8]
    by_cases q9 : k = 9
    · rw [if_pos q9]; simp; omega
    rw [if_neg q9]
    have hp := nodesL_pick (hw q9)
    by_cases q6 : k = 6
    · rw [if_pos q6]
      split
      · simp
      · rename_i a t X h
        have := (exprD_len (a0 (hw q9)) h).1
        split
        · simp only [ifM0, List.length_append, List.length_singleton, List.length_map] at *
          omega
        · simp only [ifM1, List.length_append, List.length_singleton, List.length_map] at *
          have : 0 < le.length := by omega
          have := Stmt.nodesL_len le
          omega
    rw [if_neg q6]
    by_cases q7 : k = 7
    · rw [if_pos q7]
      split
      · simp
      · rename_i a t X h
        have := (exprD_len (a0 (hw q9)) h).1
        simp only [whileM, List.length_append, List.length_singleton, List.length_map] at *
        omega
    · omega
theorem blockM_len : ∀ (l : List Stmt) (m : Mm) {d : Nat}, Stmt.rightsB nameB d l = true → (blockM m l).l.length ≤ m.l.length + 3 * Stmt.nodesL l ∧ (blockM m l).th.length ≤ m.th.length + Stmt.nodesL l
  | [], m, d, hr => by rw [blockM]; simp
  | s :: l, m, d, hr => by
    rw [Stmt.rightsB] at hr
    simp only [Bool.and_eq_true] at hr
    rw [blockM, Stmt.nodesL]
    split
    · omega
    · have h1 := stmtM_len s m.th hr.1
      have h2 := blockM_len l ⟨m.l ++ (stmtM m.th s).l.map (mvw m.l.length), (stmtM m.th s).th, (stmtM m.th s).deep⟩ hr.2
      simp only [List.length_append, List.length_map] at h2
      omega
end
/-- what is handed on where a register was left -/
def MIs (o : Option (List Ins × List ByteArray)) (m : Mm) : Prop := match o with
  | none => m.deep = true
  | some r => m = ⟨r.1, r.2, false⟩ ∧ Tgt r.1.length r.1
/-- .. onto what was there -/
def BIs (X0 : List Ins) (o : Option (List Ins × List ByteArray)) (m : Mm) : Prop := match o with
  | none => m.deep = true
  | some r => m = ⟨X0 ++ r.1.map (mv X0.length), r.2, false⟩ ∧ Tgt r.1.length r.1
theorem BIs.nil {o : Option (List Ins × List ByteArray)} {m : Mm} (h : BIs [] o m) : MIs o m := by
  cases o with
  | none => exact h
  | some r => exact ⟨by rw [h.1, List.length_nil, show mv 0 = id from funext mv_zero, List.map_id, List.nil_append], h.2⟩
theorem oneM_D {th : List ByteArray} {k c : Int} {e : Expr} {d : Nat} {nm : ByteArray → Bool} (hr : e.rightB nm d = true) (hk : ¬ (10 ≤ k ∧ k ≤ 12)) : MIs (oneD th k e c) (oneM th k e c) := by
  unfold oneM oneD
  cases h : exprD th 11 e with
  | none => exact rfl
  | some r =>
    have hf := (exprD_len hr h).2.2.2
    exact ⟨rfl, (Tgt.of_far hf).app (.cons (fun h => absurd h hk) (.nil _))⟩
mutual
theorem stmtM_D : ∀ (s : Stmt) (th : List ByteArray) {d : Nat}, s.rightB nameB d = true → s.nodes ≤ 1000000 → MIs (stmtD th s) (stmtM th s)
  | .mk k nm c la lb le, th, d, hr, hn => by
    obtain ⟨hk, hla, hrr, hlb, hle, hrb, hre⟩ := Stmt.right_parts hr
    simp only [Stmt.kind, Stmt.args, Stmt.body, Stmt.els] at hk hla hrr hlb hle hrb hre
    have a0 : ∀ (h : 0 < la.length), (la.getD 0 default).rightB nameB 1 = true := fun h => by
      rw [show la.getD 0 default = la[0] by simp [List.getD, h]]; exact Expr.rightsB_all hrr _ (List.getElem_mem h)
    have a1 : ∀ (h : 1 < la.length), (la.getD 1 default).rightB nameB 1 = true := fun h => by
      rw [show la.getD 1 default = la[1] by simp [List.getD, h]]; exact Expr.rightsB_all hrr _ (List.getElem_mem h)
    rw [Stmt.nodes] at hn
    have nb := blockM_len lb ⟨[], th, false⟩ hrb
    have ne := blockM_len le ⟨[], th, false⟩ hre
    simp only [List.length_nil, Nat.zero_add] at nb ne
    have ib := (blockM_D lb [] th hrb (by simp; omega)).nil
    have ie := (blockM_D le [] th hre (by simp; omega)).nil
    have hw : k ≠ 9 → 0 < la.length := fun h9 => by
      simp only [wantA] at hla
      repeat' split at hla
      all_goals omega
    rw [stmtM, stmtD]
    by_cases q1 : k = 1
    · rw [if_pos q1, if_pos q1]
      unfold varM
      cases h : exprD th 11 (la.getD 0 default) with
      | none => exact rfl
      | some r => exact ⟨rfl, laidD_far _ _ (exprD_len (a0 (hw (by omega))) h).2.2.2 _⟩
    rw [if_neg q1, if_neg q1]
    by_cases q2 : k = 2
    · rw [if_pos q2, if_pos q2]
      unfold setM
      cases h : exprD th 11 (la.getD 0 default) with
      | none => exact rfl
      | some r => exact ⟨rfl, laidD_far _ _ (exprD_len (a0 (hw (by omega))) h).2.2.2 _⟩
    rw [if_neg q2, if_neg q2]
    by_cases q3 : k = 3
    · rw [if_pos q3, if_pos q3]
      have hl : la.length = 2 := by simp only [wantA] at hla; repeat' split at hla
                                    all_goals omega
      unfold storeM
      cases h : exprD th 11 (la.getD 0 default) with
      | none => exact rfl
      | some r =>
        simp only
        cases h2 : exprD th r.2.1 (la.getD 1 default) with
        | none => exact rfl
        | some q =>
          exact ⟨rfl, ((Tgt.of_far (exprD_len (a0 (by omega)) h).2.2.2).app (Tgt.of_far (exprD_len (a1 (by omega)) h2).2.2.2)).app (.cons (fun h => by simp at h) (.nil _))⟩
    rw [if_neg q3, if_neg q3]
    by_cases q4 : k = 4
    · rw [if_pos q4, if_pos q4]; exact oneM_D (a0 (hw (by omega))) (by decide)
    rw [if_neg q4, if_neg q4]
    by_cases q5 : k = 5
    · rw [if_pos q5, if_pos q5]; exact oneM_D (a0 (hw (by omega))) (by decide)
    rw [if_neg q5, if_neg q5]
    by_cases q8 : k = 8
    · rw [if_pos q8, if_pos q8]; exact oneM_D (a0 (hw (by omega))) (by decide)
    rw [if_neg q8, if_neg q8]
    by_cases q9 : k = 9
    · rw [if_pos q9, if_pos q9]; exact ⟨rfl, .cons (fun h => by simp at h) (.nil _)⟩
    rw [if_neg q9, if_neg q9]
    have hp := nodesL_pick (hw q9)
    by_cases q6 : k = 6
    · rw [if_pos q6, if_pos q6]
      cases h : exprD th 11 (la.getD 0 default) with
      | none => exact rfl
      | some r =>
        obtain ⟨a, t, X⟩ := r
        have hX := exprD_len (a0 (hw q9)) h
        simp only at hX
        simp only
        have fX : ∀ n, Tgt n X := fun n => Tgt.of_far hX.2.2.2
        cases hb : blockD th lb with
        | none =>
          rw [hb] at ib
          have ib' : (blockM ⟨[], th, false⟩ lb).deep = true := ib
          show (if le.length = 0 then _ else _ : Mm).deep = true
          split <;> simp [ifM0, ifM1, ib']
        | some rb =>
          rw [hb] at ib
          obtain ⟨ib1, ib2⟩ := ib
          rw [ib1] at nb ⊢
          simp only at nb
          cases he : blockD th le with
          | none =>
            rw [he] at ie
            have ie' : (blockM ⟨[], th, false⟩ le).deep = true := ie
            show (if le.length = 0 then _ else _ : Mm).deep = true
            split <;> simp [ifM0, ifM1, ie']
          | some re =>
            rw [he] at ie
            obtain ⟨ie1, ie2⟩ := ie
            rw [ie1] at ne ⊢
            simp only at ne ⊢
            by_cases hz : le.length = 0
            · rw [if_pos hz, if_pos hz]
              refine ⟨?_, ?_⟩
              · simp only [ifM0, Bool.or_self, List.append_assoc, List.singleton_append]
                rw [mvw_mv ib2 (by omega)]
              · refine (fX _).app (.cons (fun _ => ?_) ((ib2.moved (X.length + 1)).mono ?_))
                · simp; omega
                · simp; omega
            · rw [if_neg hz, if_neg hz]
              refine ⟨?_, ?_⟩
              · simp only [ifM1, Bool.or_self, List.append_assoc, List.singleton_append, List.cons_append, List.nil_append]
                rw [mvw_mv ib2 (by omega), mvw_mv ie2 (by omega)]
              · refine (fX _).app (.cons (fun _ => ?_) (((ib2.moved (X.length + 1)).mono ?_).app (.cons (fun _ => ?_) ((ie2.moved (X.length + 1 + rb.1.length + 1)).mono ?_))))
                · simp; omega
                · simp; omega
                · simp; omega
                · simp; omega
    rw [if_neg q6, if_neg q6]
    by_cases q7 : k = 7
    · rw [if_pos q7, if_pos q7]
      cases h : exprD th 11 (la.getD 0 default) with
      | none => exact rfl
      | some r =>
        obtain ⟨a, t, X⟩ := r
        have hX := exprD_len (a0 (hw q9)) h
        simp only at hX
        simp only
        have fX : ∀ n, Tgt n X := fun n => Tgt.of_far hX.2.2.2
        cases hb : blockD th lb with
        | none =>
          rw [hb] at ib
          have ib' : (blockM ⟨[], th, false⟩ lb).deep = true := ib
          show (whileM _ _ _ _).deep = true
          simp [whileM, ib']
        | some rb =>
          rw [hb] at ib
          obtain ⟨ib1, ib2⟩ := ib
          rw [ib1] at nb ⊢
          simp only at nb ⊢
          refine ⟨?_, ?_⟩
          · simp only [whileM, List.append_assoc, List.singleton_append, List.cons_append, List.nil_append]
            rw [mvw_mv ib2 (by omega)]
          · refine (fX _).app (.cons (fun _ => ?_) (((ib2.moved (X.length + 1)).mono ?_).app (.cons (fun _ => ?_) (.nil _))))
            · simp; omega
            · simp; omega
            · simp; omega
    · omega
theorem blockM_D : ∀ (l : List Stmt) (X0 : List Ins) (th : List ByteArray) {d : Nat}, Stmt.rightsB nameB d l = true → X0.length + 3 * Stmt.nodesL l ≤ 3000000 → BIs X0 (blockD th l) (blockM ⟨X0, th, false⟩ l)
  | [], X0, th, d, hr, hn => by rw [blockD, blockM]; exact ⟨by simp, .nil _⟩
  | s :: l, X0, th, d, hr, hn => by
    rw [Stmt.rightsB] at hr
    simp only [Bool.and_eq_true] at hr
    rw [Stmt.nodesL] at hn
    have hs := stmtM_D s th hr.1 (by omega)
    have hl := stmtM_len s th hr.1
    rw [blockD, blockM]
    simp only [Bool.false_eq_true, if_false]
    cases hx : stmtD th s with
    | none =>
      rw [hx] at hs
      have hs' : (stmtM th s).deep = true := hs
      have e := blockM_deep (m := ⟨X0 ++ (stmtM th s).l.map (mvw X0.length), (stmtM th s).th, (stmtM th s).deep⟩) hs' l
      show (blockM _ l).deep = true
      rw [e]
      exact hs'
    | some r =>
      rw [hx] at hs
      obtain ⟨h1, h2⟩ := hs
      rw [h1] at hl ⊢
      simp only at hl ⊢
      rw [mvw_mv h2 (by omega)]
      have ih := blockM_D l (X0 ++ r.1.map (mv X0.length)) r.2 hr.2 (by simp; omega)
      cases hy : blockD r.2 l with
      | none => rw [hy] at ih; exact ih
      | some q =>
        rw [hy] at ih
        obtain ⟨i1, i2⟩ := ih
        refine ⟨?_, ?_⟩
        · rw [i1]
          simp only [List.length_append, List.length_map, List.map_append, List.append_assoc, map_mv_mv]
          rw [Nat.add_comm r.1.length]
        · exact (h2.mono (by simp)).app ((i2.moved r.1.length).mono (by simp; omega))
end
end Go.Proofs.Ytjlnpppjkdcpkaa.My
