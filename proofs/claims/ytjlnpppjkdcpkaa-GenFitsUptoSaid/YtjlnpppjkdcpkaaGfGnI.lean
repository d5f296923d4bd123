/- The targets in a text's instructions lie within it; plain Lean, no program in sight. -/
import Derived.Test.YtjlnpppjkdcpkaaGfGnL
namespace Go.Proofs.Ytjlnpppjkdcpkaa.My
open Go.RowKit
set_option linter.unusedVariables false
set_option linter.unusedSimpArgs false
/-- each target lies from 0 to n -/
def Tgt (n : Nat) (l : List Ins) : Prop := ∀ x ∈ l, 10 ≤ x.kind ∧ x.kind ≤ 12 → 0 ≤ x.n ∧ x.n ≤ n
theorem Tgt.of_far {n : Nat} {l : List Ins} (h : ∀ x ∈ l, ¬ (10 ≤ x.kind ∧ x.kind ≤ 12)) : Tgt n l := fun x hx hk => absurd hk (h x hx)
theorem Tgt.mono {m n : Nat} {l : List Ins} (h : Tgt m l) (hmn : m ≤ n) : Tgt n l := fun x hx hk => by have := h x hx hk; omega
theorem Tgt.app {n : Nat} {l m : List Ins} (h : Tgt n l) (k : Tgt n m) : Tgt n (l ++ m) := fun x hx hk => by
  rcases List.mem_append.1 hx with hx | hx
  · exact h x hx hk
  · exact k x hx hk
theorem Tgt.cons {n : Nat} {x : Ins} {l : List Ins} (hx : 10 ≤ x.kind ∧ x.kind ≤ 12 → 0 ≤ x.n ∧ x.n ≤ n) (h : Tgt n l) : Tgt n (x :: l) := fun y hy hk => by
  rcases List.mem_cons.1 hy with rfl | hy
  · exact hx hk
  · exact h y hy hk
theorem Tgt.nil (n : Nat) : Tgt n [] := fun x hx => by simp at hx
theorem Tgt.moved {n : Nat} {l : List Ins} (h : Tgt n l) (d : Nat) : Tgt (n + d) (l.map (mv d)) := fun x hx hk => by
  obtain ⟨y, hy, rfl⟩ := List.mem_map.1 hx
  rw [mv_kind] at hk
  have := h y hy hk
  simp only [mv, if_pos hk]
  omega
theorem setC_tgt {sl : List Int} {e : Expr} {r : List Ins × List Int} (h : setC sl e = some r) (n : Nat) : Tgt n r.1 := by
  unfold setC at h
  split at h
  · cases h
    exact .cons (fun hk => by simp at hk) (.nil n)
  · rename_i h2
    split at h
    · cases h
    · rename_i a t X s1 hx
      cases h
      have hf := exprC_far _ _ _ hx
      simp only at hf
      refine Tgt.of_far fun x hx => ?_
      rcases List.mem_or_eq_of_mem_set hx with hx | hx
      · exact hf.1 x hx
      · subst hx
        have hm : X.getD (X.length - 1) default ∈ X := by
          rw [List.getD_eq_getElem?_getD, List.getElem?_eq_getElem (by have := hf.2 h2; omega)]
          exact List.getElem_mem _
        have := hf.1 _ hm
        exact this
theorem oneC_tgt {sl : List Int} {k c : Int} {e : Expr} {r : List Ins × List Int} (hk : ¬ (10 ≤ k ∧ k ≤ 12)) (h : oneC sl k e c = some r) (n : Nat) : Tgt n r.1 := by
  unfold oneC at h
  split at h
  · cases h
  · rename_i a t X s1 hx
    cases h
    exact (Tgt.of_far (exprC_far _ _ _ hx).1).app (.cons (fun h => absurd h hk) (.nil n))
theorem storeC_tgt {sl : List Int} {e f : Expr} {r : List Ins × List Int} (h : storeC sl e f = some r) (n : Nat) : Tgt n r.1 := by
  unfold storeC at h
  split at h
  · cases h
  · rename_i a t X s1 hx
    split at h
    · cases h
    · rename_i a t X s1 hy
      cases h
      exact ((Tgt.of_far (exprC_far _ _ _ hx).1).app (Tgt.of_far (exprC_far _ _ _ hy).1)).app (.cons (fun h => by simp at h) (.nil n))
mutual
theorem stmtC_tgt : ∀ (s : Stmt) {sl : List Int} {r : List Ins × List Int}, stmtC sl s = some r → Tgt r.1.length r.1
  | .mk k nm c la lb le, sl, r, h => by
    rw [stmtC] at h
    split at h
    · exact setC_tgt h _
    split at h
    · exact storeC_tgt h _
    split at h
    · exact oneC_tgt (by decide) h _
    split at h
    · exact oneC_tgt (by decide) h _
    split at h
    · exact oneC_tgt (by decide) h _
    split at h
    · cases h
      exact .cons (fun h => by simp at h) (.nil _)
    split at h
    · split at h
      · cases h
      · rename_i a t l s1 hx
        have hf : ∀ n, Tgt n l := fun n => Tgt.of_far (exprC_far _ _ _ hx).1
        split at h
        · cases h
        · rename_i X s2 hb
          have ib := blockC_tgt lb hb
          split at h
          · cases h
            refine (hf _).app (.cons (fun _ => ?_) ((ib.moved (l.length + 1)).mono ?_))
            · simp; omega
            · simp; omega
          · split at h
            · cases h
            · rename_i Y s3 he
              have ie := blockC_tgt le he
              cases h
              refine (hf _).app (.cons (fun _ => ?_) (((ib.moved (l.length + 1)).mono ?_).app (.cons (fun _ => ?_) ((ie.moved (l.length + 1 + X.length + 1)).mono ?_))))
              · simp; omega
              · simp; omega
              · simp; omega
              · simp; omega
    split at h
    · split at h
      · cases h
      · rename_i a t l s1 hx
        have hf : ∀ n, Tgt n l := fun n => Tgt.of_far (exprC_far _ _ _ hx).1
        split at h
        · cases h
        · rename_i X s2 hb
          have ib := blockC_tgt lb hb
          cases h
          refine (hf _).app (.cons (fun _ => ?_) (((ib.moved (l.length + 1)).mono ?_).app (.cons (fun _ => ?_) (.nil _))))
          · simp; omega
          · simp; omega
          · simp; omega
    · cases h
      exact .nil _
theorem blockC_tgt : ∀ (l : List Stmt) {sl : List Int} {r : List Ins × List Int}, blockC sl l = some r → Tgt r.1.length r.1
  | [], sl, r, h => by
    rw [blockC] at h
    cases h
    exact .nil _
  | s :: l, sl, r, h => by
    rw [blockC] at h
    split at h
    · cases h
    · rename_i X s1 hx
      split at h
      · cases h
      · rename_i Y s2 hy
        cases h
        have i1 := stmtC_tgt s hx
        have i2 := blockC_tgt l hy
        exact (i1.mono (by simp)).app ((i2.moved X.length).mono (by simp; omega))
end
end Go.Proofs.Ytjlnpppjkdcpkaa.My
