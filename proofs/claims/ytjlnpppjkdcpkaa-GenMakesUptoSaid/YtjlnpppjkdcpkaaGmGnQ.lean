/- How much a statement's instructions are, and which names it uses up; in plain Lean. No program in sight. -/
import Derived.Test.YtjlnpppjkdcpkaaGmGnE
namespace Go.Proofs.Ytjlnpppjkdcpkaa.My
open Go.RowKit
set_option linter.unusedVariables false
set_option linter.unusedSimpArgs false
theorem setG_grow {G G' : Gn} {e : Expr} {d : Nat} (hr : e.rightB nameB d = true) (h : setG G e = some G') : G'.slots = G.slots.drop (e.useN + 1) ∧ G.out.length < G'.out.length ∧ G'.out.length ≤ G.out.length + 1 + e.nodes := by
  unfold setG at h
  split at h
  · rename_i h2
    simp only [Option.some.injEq] at h
    subst h
    rw [Expr.useN_eq, if_pos h2]
    refine ⟨?_, ?_, ?_⟩
    · simp [Gn.put, Gn.skip, List.drop_drop]
    · simp [Gn.put, Gn.skip]
    · simp [Gn.put, Gn.skip]
  · rename_i h2
    split at h
    · cases h
    · rename_i a t G1 hx
      simp only [Option.some.injEq] at h
      subst h
      have hg := exprG_grow e 11 hr hx
      refine ⟨?_, ?_, ?_⟩
      · rw [Gn.upd_slots, Gn.skip, hg.1, List.drop_drop]
      · rw [Gn.upd_len]; exact hg.2.2.2 h2
      · rw [Gn.upd_len]; have := hg.2.2.1; show G1.out.length ≤ _; omega
theorem oneG_grow {G G' : Gn} {e : Expr} {k c : Int} {d : Nat} (hr : e.rightB nameB d = true) (h : oneG G k e c = some G') : G'.slots = G.slots.drop e.useN ∧ G.out.length < G'.out.length ∧ G'.out.length ≤ G.out.length + 1 + e.nodes := by
  unfold oneG at h
  split at h
  · cases h
  · rename_i a t G1 hx
    simp only [Option.some.injEq] at h
    subst h
    have hg := exprG_grow e 11 hr hx
    refine ⟨hg.1, ?_, ?_⟩ <;> simp only [Gn.put, List.length_append, List.length_singleton] <;> omega
theorem storeG_grow {G G' : Gn} {e f : Expr} {d : Nat} (hr : e.rightB nameB d = true) (hr2 : f.rightB nameB d = true) (h : storeG G e f = some G') : G'.slots = G.slots.drop (e.useN + f.useN) ∧ G.out.length < G'.out.length ∧ G'.out.length ≤ G.out.length + 1 + e.nodes + f.nodes := by
  unfold storeG at h
  split at h
  · cases h
  · rename_i a t G1 hx
    have hg := exprG_grow e 11 hr hx
    split at h
    · cases h
    · rename_i a2 t2 G2 hx2
      have hg2 := exprG_grow f t hr2 hx2
      simp only [Option.some.injEq] at h
      subst h
      refine ⟨?_, ?_, ?_⟩
      · show G2.slots = _
        rw [hg2.1, hg.1, List.drop_drop]
      · simp only [Gn.put, List.length_append, List.length_singleton]; omega
      · simp only [Gn.put, List.length_append, List.length_singleton]; omega
theorem Stmt.useN_eq (s : Stmt) : s.useN = Expr.useL s.args + (if s.kind = 1 ∨ s.kind = 2 then 1 else 0) + Stmt.useL s.body + Stmt.useL s.els := by cases s; rw [Stmt.useN]; rfl
/-- what a statement that may be has: its arguments, and no bodies but in an if and a while -/
theorem Stmt.right_parts {s : Stmt} {d : Nat} (h : s.rightB nameB d = true) : (1 ≤ s.kind ∧ s.kind ≤ 9) ∧ ((s.args.length : Int) = wantA s.kind) ∧ Expr.rightsB nameB 1 s.args = true ∧ (s.kind ≠ 6 → s.kind ≠ 7 → s.body = []) ∧ (s.kind ≠ 6 → s.els = []) ∧ Stmt.rightsB nameB (d + 1) s.body = true ∧ Stmt.rightsB nameB (d + 1) s.els = true := by
  rw [Stmt.rightB_eq] at h
  simp only [Bool.and_eq_true, headB, decide_eq_true_eq] at h
  obtain ⟨⟨⟨⟨⟨⟨⟨⟨h1, h2⟩, h3⟩, h4⟩, h5⟩, h6⟩, h7⟩, h8⟩, h9⟩ := h
  have e1 : s.kind ≠ 6 → s.kind ≠ 7 → s.body = [] := fun a b => by
    rw [if_neg (by omega)] at h5
    exact List.eq_nil_of_length_eq_zero (by simpa using h5)
  have e2 : s.kind ≠ 6 → s.els = [] := fun a => by
    rw [if_neg a] at h6
    exact List.eq_nil_of_length_eq_zero (by simpa using h6)
  refine ⟨h1, h2, h7, e1, e2, ?_, ?_⟩
  · by_cases hk : s.kind = 6 ∨ s.kind = 7
    · rw [if_pos hk] at h8
      simp only [Bool.and_eq_true] at h8
      exact h8.2
    · rw [e1 (by omega) (by omega)]; simp [Stmt.rightsB]
  · by_cases hk : s.els.length = 0
    · rw [List.eq_nil_of_length_eq_zero hk]; simp [Stmt.rightsB]
    · rw [if_neg hk] at h9
      simp only [Bool.and_eq_true] at h9
      exact h9.2
theorem stmtG_eq (G : Gn) (s : Stmt) : stmtG G s = if s.kind = 1 ∨ s.kind = 2 then setG G (s.args.getD 0 default)
    else if s.kind = 3 then storeG G (s.args.getD 0 default) (s.args.getD 1 default)
    else if s.kind = 4 then oneG G 9 (s.args.getD 0 default) 0
    else if s.kind = 5 then oneG G 8 (s.args.getD 0 default) s.cell
    else if s.kind = 8 then oneG G 13 (s.args.getD 0 default) 0
    else if s.kind = 9 then some (G.put ⟨1, 0, 0, 0, 0, 0⟩)
    else if s.kind = 6 then (match oneG G 11 (s.args.getD 0 default) 0 with
      | none => none
      | some G2 => match blockG G2 s.body with
        | none => none
        | some G3 => if s.els.length = 0 then some (G3.here (G2.out.length - 1))
          else match blockG ((G3.put ⟨10, 0, 0, 0, 0, 0⟩).here (G2.out.length - 1)) s.els with
            | none => none
            | some G6 => some (G6.here G3.out.length))
    else if s.kind = 7 then (match oneG G 11 (s.args.getD 0 default) 0 with
      | none => none
      | some G2 => match blockG G2 s.body with
        | none => none
        | some G3 => some ((G3.put ⟨10, 0, 0, 0, 0, (G.out.length : Int)⟩).here (G2.out.length - 1)))
    else some G := by cases s; rw [stmtG]; rfl
theorem Gn.here_slots (G : Gn) (i : Nat) : (G.here i).slots = G.slots := rfl
theorem Gn.here_len (G : Gn) (i : Nat) : (G.here i).out.length = G.out.length := Gn.upd_len _ _ _
theorem Gn.put_len (G : Gn) (x : Ins) : (G.put x).out.length = G.out.length + 1 := by simp [Gn.put]
mutual
theorem stmtG_grow {G : Gn} : ∀ (s : Stmt) {G' : Gn} {d : Nat}, s.rightB nameB d = true → stmtG G s = some G' → G'.slots = G.slots.drop s.useN ∧ G.out.length < G'.out.length ∧ G'.out.length ≤ G.out.length + 3 * s.nodes
  | .mk k nm c la lb le, G', d, hr, h => by
    obtain ⟨hk, hla, hrr, hlb, hle, hrb, hre⟩ := Stmt.right_parts hr
    simp only [Stmt.kind, Stmt.args, Stmt.body, Stmt.els] at hk hla hrr hlb hle hrb hre
    rw [stmtG] at h
    rw [Stmt.useN, Stmt.nodes]
    have ih1 := fun G2 G3 h => blockG_grow (G := G2) lb (G' := G3) hrb h
    have ih2 := fun G2 G3 h => blockG_grow (G := G2) le (G' := G3) hre h
    have a0 : ∀ (h : 0 < la.length), la.getD 0 default = la[0] ∧ (la[0]).rightB nameB 1 = true := fun h => ⟨by simp [List.getD, h], Expr.rightsB_all hrr _ (List.getElem_mem h)⟩
    have a1 : ∀ (h : 1 < la.length), la.getD 1 default = la[1] ∧ (la[1]).rightB nameB 1 = true := fun h => ⟨by simp [List.getD, h], Expr.rightsB_all hrr _ (List.getElem_mem h)⟩
    split at h
    · rename_i h1
      have hl : la.length = 1 := by simp only [wantA] at hla; split at hla <;> (try split at hla) <;> omega
      obtain ⟨b0, b1⟩ := a0 (by omega)
      rw [b0] at h
      have hg := setG_grow b1 h
      rw [hlb (by omega) (by omega), hle (by omega), if_pos h1, useL_1 hl, nodesL_1 hl]
      simp only [Stmt.useL, Stmt.nodesL, Nat.add_zero]
      exact ⟨hg.1, hg.2.1, by omega⟩
    · rename_i h1
      rw [if_neg h1]
      split at h
      · rename_i h3
        have hl : la.length = 2 := by simp only [wantA, if_pos h3] at hla; omega
        obtain ⟨b0, b1⟩ := a0 (by omega)
        obtain ⟨b2, b3⟩ := a1 (by omega)
        rw [b0, b2] at h
        have hg := storeG_grow b1 b3 h
        rw [hlb (by omega) (by omega), hle (by omega), useL_2 hl, nodesL_2 hl]
        simp only [Stmt.useL, Stmt.nodesL, Nat.add_zero]
        exact ⟨hg.1, hg.2.1, by omega⟩
      · rename_i h3
        split at h
        · rename_i h4
          have hl : la.length = 1 := by simp only [wantA, if_neg h3] at hla; rw [if_neg (by omega)] at hla; omega
          obtain ⟨b0, b1⟩ := a0 (by omega)
          rw [b0] at h
          have hg := oneG_grow b1 h
          rw [hlb (by omega) (by omega), hle (by omega), useL_1 hl, nodesL_1 hl]
          simp only [Stmt.useL, Stmt.nodesL, Nat.add_zero]
          exact ⟨hg.1, hg.2.1, by omega⟩
        · split at h
          · rename_i h4
            have hl : la.length = 1 := by simp only [wantA, if_neg h3] at hla; rw [if_neg (by omega)] at hla; omega
            obtain ⟨b0, b1⟩ := a0 (by omega)
            rw [b0] at h
            have hg := oneG_grow b1 h
            rw [hlb (by omega) (by omega), hle (by omega), useL_1 hl, nodesL_1 hl]
            simp only [Stmt.useL, Stmt.nodesL, Nat.add_zero]
            exact ⟨hg.1, hg.2.1, by omega⟩
          · split at h
            · rename_i h4
              have hl : la.length = 1 := by simp only [wantA, if_neg h3] at hla; rw [if_neg (by omega)] at hla; omega
              obtain ⟨b0, b1⟩ := a0 (by omega)
              rw [b0] at h
              have hg := oneG_grow b1 h
              rw [hlb (by omega) (by omega), hle (by omega), useL_1 hl, nodesL_1 hl]
              simp only [Stmt.useL, Stmt.nodesL, Nat.add_zero]
              exact ⟨hg.1, hg.2.1, by omega⟩
            · split at h
              · rename_i h9
                have hl : la = [] := List.eq_nil_of_length_eq_zero (by simp only [wantA, if_neg h3, if_pos h9] at hla; omega)
                simp only [Option.some.injEq] at h
                subst h
                rw [hlb (by omega) (by omega), hle (by omega), hl]
                simp only [Stmt.useL, Stmt.nodesL, Expr.useL, Expr.nodesL, Nat.add_zero, Gn.put_len]
                exact ⟨rfl, by omega, by omega⟩
              · rename_i h9
                have hl : la.length = 1 := by simp only [wantA, if_neg h3, if_neg h9] at hla; omega
                obtain ⟨b0, b1⟩ := a0 (by omega)
                split at h
                · split at h
                  · cases h
                  · rename_i G2 hx
                    rw [b0] at hx
                    have hg := oneG_grow b1 hx
                    rw [← useL_1 hl, ← nodesL_1 hl] at hg
                    split at h
                    · cases h
                    · rename_i G3 hb
                      have hg3 := ih1 G2 G3 hb
                      split at h
                      · rename_i hle0
                        simp only [Option.some.injEq] at h
                        subst h
                        rw [List.eq_nil_of_length_eq_zero hle0]
                        simp only [Stmt.useL, Stmt.nodesL, Nat.add_zero, Gn.here_len, Gn.here_slots]
                        exact ⟨by rw [hg3.1, hg.1, List.drop_drop], by omega, by omega⟩
                      · split at h
                        · cases h
                        · rename_i G6 hb6
                          have hg6 := ih2 _ G6 hb6
                          simp only [Option.some.injEq] at h
                          subst h
                          simp only [Gn.here_len, Gn.here_slots, Gn.put_len] at hg6 ⊢
                          refine ⟨?_, by omega, by omega⟩
                          rw [hg6.1]
                          show List.drop _ G3.slots = _
                          rw [hg3.1, hg.1, List.drop_drop, List.drop_drop]
                          congr 1
                          omega
                · split at h
                  · split at h
                    · cases h
                    · rename_i G2 hx
                      rw [b0] at hx
                      have hg := oneG_grow b1 hx
                      rw [← useL_1 hl, ← nodesL_1 hl] at hg
                      split at h
                      · cases h
                      · rename_i G3 hb
                        have hg3 := ih1 G2 G3 hb
                        simp only [Option.some.injEq] at h
                        subst h
                        rw [hle (by omega)]
                        simp only [Stmt.useL, Stmt.nodesL, Nat.add_zero, Gn.here_len, Gn.here_slots, Gn.put_len]
                        refine ⟨?_, by omega, by omega⟩
                        show G3.slots = _
                        rw [hg3.1, hg.1, List.drop_drop]
                  · omega
theorem blockG_grow {G : Gn} : ∀ (l : List Stmt) {G' : Gn} {d : Nat}, Stmt.rightsB nameB d l = true → blockG G l = some G' → G'.slots = G.slots.drop (Stmt.useL l) ∧ G.out.length ≤ G'.out.length ∧ G'.out.length ≤ G.out.length + 3 * Stmt.nodesL l
  | [], G', d, hr, h => by
    rw [blockG] at h
    simp only [Option.some.injEq] at h
    subst h
    exact ⟨by simp [Stmt.useL], Nat.le_refl _, by simp⟩
  | s :: l, G', d, hr, h => by
    rw [blockG] at h
    rw [Stmt.rightsB] at hr
    simp only [Bool.and_eq_true] at hr
    split at h
    · cases h
    · rename_i G1 h1
      have i1 := stmtG_grow s hr.1 h1
      have i2 := blockG_grow l hr.2 h
      refine ⟨?_, by omega, by rw [Stmt.nodesL]; omega⟩
      rw [i2.1, i1.1, List.drop_drop, Stmt.useL]
end
theorem blockG_snoc {G : Gn} : ∀ (l : List Stmt) (k : Nat) (hk : k < l.length), blockG G (l.take (k + 1)) = match blockG G (l.take k) with
    | none => none
    | some G1 => stmtG G1 l[k]
  | s :: l, 0, _ => by
    simp only [List.take_succ_cons, List.take_zero, blockG, List.getElem_cons_zero]
    cases stmtG G s <;> rfl
  | s :: l, k + 1, hk => by
    have ih := fun G1 => blockG_snoc (G := G1) l k (by simpa using hk)
    rw [List.take_succ_cons, blockG, List.take_succ_cons, blockG]
    cases stmtG G s with
    | none => rfl
    | some G1 => simp only [ih, List.getElem_cons_succ]
theorem blockG_stop {G : Gn} : ∀ (l : List Stmt) (k : Nat), blockG G (l.take k) = none → blockG G l = none
  | [], k, h => by simp [blockG] at h
  | s :: l, 0, h => by simp [blockG] at h
  | s :: l, k + 1, h => by
    rw [List.take_succ_cons, blockG] at h
    rw [blockG]
    cases hs : stmtG G s with
    | none => rfl
    | some G1 => rw [hs] at h; simp only at h ⊢; exact blockG_stop l k h
theorem Stmt.useL_take : ∀ (l : List Stmt) (k : Nat) (h : k < l.length), Stmt.useL (l.take k) + (l[k]).useN ≤ Stmt.useL l
  | e :: l, 0, _ => by simp [Stmt.useL]
  | e :: l, k + 1, h => by have := Stmt.useL_take l k (by simpa using h); simp only [List.take_succ_cons, Stmt.useL, List.getElem_cons_succ]; omega
theorem Stmt.rightsB_take {nm : ByteArray → Bool} {d : Nat} : ∀ {l : List Stmt} (k : Nat), Stmt.rightsB nm d l = true → Stmt.rightsB nm d (l.take k) = true
  | [], k, _ => by simp [Stmt.rightsB]
  | e :: l, 0, _ => by simp [Stmt.rightsB]
  | e :: l, k + 1, h => by
    rw [Stmt.rightsB] at h
    simp only [Bool.and_eq_true] at h
    rw [List.take_succ_cons, Stmt.rightsB, h.1, Stmt.rightsB_take k h.2]
    rfl
end Go.Proofs.Ytjlnpppjkdcpkaa.My
