/- The plain law of VmFuel: more fuel changes nothing where the fuel was enough. -/
import Derived.Test.YtnikcdcaaeljmaaVmR
namespace Go.Proofs.Ytnikcdcaaeljmaa.My
open Go.RowKit Go.Proofs.Ytnikcdcaaeljmaa.NumA
set_option linter.unusedVariables false
set_option linter.unusedSimpArgs false
theorem over_if {c : Prop} [Decidable c] {a b : St} {n : Int} (ha : a.over ≠ n) (hb : b.over ≠ n) : (if c then a else b).over ≠ n := by
  by_cases h : c
  · rw [if_pos h]; exact ha
  · rw [if_neg h]; exact hb
theorem doS_over (words : Int) (s : St) (x : Ins) (got : Int) (h : s.over ≠ 5) : (doS words s x got).over ≠ 5 := by
  unfold doS memS branchS reckonS
  repeat' first | exact h | apply over_if | (show (_ : Int) ≠ 5; simp [ended])
theorem want_same {l : List Ins} {words f g : Int} {s : St} (hf : s.steps ≠ f) (hg : s.steps ≠ g) : wantS l words g s = wantS l words f s := by
  unfold wantS; simp [hf, hg]
theorem step_same {l : List Ins} {words f g : Int} {s : St} (hf : s.steps ≠ f) (hg : s.steps ≠ g) (got : Int) : stepS l words g s got = stepS l words f s got := by
  unfold stepS; simp [hf, hg]
theorem stepS_spent {l : List Ins} {words f : Int} {s : St} (h0 : s.over = 0) (h : s.steps = f) (got : Int) : stepS l words f s got = ended s 5 0 := by
  unfold stepS; simp [h0, h]
theorem step_over5 {l : List Ins} {words f : Int} {s : St} (h0 : s.over = 0) (h : s.steps ≠ f) (got : Int) : (stepS l words f s got).over ≠ 5 := by
  unfold stepS; rw [if_pos h0, if_neg h]; exact doS_over words _ _ got (by show s.over ≠ 5; omega)
theorem run_stop (l : List Ins) (words f : Int) : ∀ (m : Nat) (s : St) (e : Eff), s.over ≠ 0 → runN l words f m s e = (s, e)
  | 0, _, _, _ => rfl
  | m + 1, s, e, h => by rw [runN, if_neg h]
theorem run_step (l : List Ins) (words f : Int) (m : Nat) (s : St) (e : Eff) (h : s.over = 0) : runN l words f (m + 1) s e = runN l words f m (stepS l words f s (giveS e (wantS l words f s).1 (wantS l words f s).2.1 (wantS l words f s).2.2).2) (giveS e (wantS l words f s).1 (wantS l words f s).2.1 (wantS l words f s).2.2).1 := by
  rw [runN, if_pos h]
theorem run_same (l : List Ins) (words f g : Int) (hfg : f ≤ g) : ∀ (m d : Nat) (s : St) (e : Eff), s.steps ≤ f → (runN l words f m s e).1.over ≠ 5 → (runN l words f m s e).1.over ≠ 0 → runN l words g (m + d) s e = runN l words f m s e
  | 0, d, s, e, hs, h5, h0 => run_stop l words g _ s e h0
  | m + 1, d, s, e, hs, h5, h0 => by
    by_cases ho : s.over = 0
    · rw [run_step l words f m s e ho] at h5 h0 ⊢
      by_cases hf : s.steps = f
      · rw [stepS_spent ho hf, run_stop _ _ _ _ _ _ (by simp [ended])] at h5
        exact absurd rfl h5
      · have hg : s.steps ≠ g := by omega
        rw [show m + 1 + d = m + d + 1 by omega, run_step l words g (m + d) s e ho, want_same hf hg, step_same hf hg]
        exact run_same l words f g hfg m d _ _ (by rw [step_steps ho hf]; omega) h5 h0
    · rw [run_stop _ _ _ _ _ _ ho, run_stop _ _ _ _ _ _ ho]
theorem run_ends (l : List Ins) (words f : Int) : ∀ (m : Nat) (s : St) (e : Eff), s.steps ≤ f → f - s.steps + 1 ≤ (m : Int) → (runN l words f m s e).1.over ≠ 0
  | 0, s, e, hs, hm => by omega
  | m + 1, s, e, hs, hm => by
    by_cases ho : s.over = 0
    · rw [run_step l words f m s e ho]
      by_cases hf : s.steps = f
      · rw [stepS_spent ho hf, run_stop _ _ _ _ _ _ (by simp [ended])]
        simp [ended]
      · exact run_ends l words f m _ _ (by rw [step_steps ho hf]; omega) (by rw [step_steps ho hf]; omega)
    · rw [run_stop _ _ _ _ _ _ ho]; exact ho
theorem run_ticks (l : List Ins) (words f : Int) : ∀ (m : Nat) (s : St) (e : Eff), s.steps ≤ f → (runN l words f m s e).1.steps ≤ f
  | 0, s, e, hs => hs
  | m + 1, s, e, hs => by
    by_cases ho : s.over = 0
    · rw [run_step l words f m s e ho]
      by_cases hf : s.steps = f
      · rw [stepS_spent ho hf, run_stop _ _ _ _ _ _ (by simp [ended])]
        exact hs
      · exact run_ticks l words f m _ _ (by rw [step_steps ho hf]; omega)
    · rw [run_stop _ _ _ _ _ _ ho]; exact hs
theorem run_mono (l : List Ins) (words f : Int) : ∀ (m : Nat) (s : St) (e : Eff), s.steps ≤ (runN l words f m s e).1.steps
  | 0, s, e => Int.le_refl _
  | m + 1, s, e => by
    by_cases ho : s.over = 0
    · rw [run_step l words f m s e ho]
      by_cases hf : s.steps = f
      · rw [stepS_spent ho hf, run_stop _ _ _ _ _ _ (by simp [ended])]
        exact Int.le_refl _
      · have h := run_mono l words f m (stepS l words f s (giveS e (wantS l words f s).1 (wantS l words f s).2.1 (wantS l words f s).2.2).2) (giveS e (wantS l words f s).1 (wantS l words f s).2.1 (wantS l words f s).2.2).1
        rw [step_steps ho hf] at h
        omega
    · rw [run_stop _ _ _ _ _ _ ho]; exact Int.le_refl _
theorem run_spent (l : List Ins) (words f : Int) : ∀ (m : Nat) (s : St) (e : Eff), s.over ≠ 5 → (runN l words f m s e).1.over = 5 → (runN l words f m s e).1.steps = f
  | 0, s, e, hs, h => absurd h hs
  | m + 1, s, e, hs, h => by
    by_cases ho : s.over = 0
    · rw [run_step l words f m s e ho] at h ⊢
      by_cases hf : s.steps = f
      · rw [stepS_spent ho hf, run_stop _ _ _ _ _ _ (by simp [ended])]
        exact hf
      · exact run_spent l words f m _ _ (step_over5 ho hf _) h
    · rw [run_stop _ _ _ _ _ _ ho] at h; exact absurd h hs
theorem run_more (l : List Ins) (words f g : Int) (hfg : f ≤ g) : ∀ (m d : Nat) (s : St) (e : Eff), s.over ≠ 5 → s.steps ≤ f → (runN l words f m s e).1.over = 5 → f ≤ (runN l words g (m + d) s e).1.steps
  | 0, d, s, e, hs, hf, h => absurd h hs
  | m + 1, d, s, e, hs, hle, h => by
    by_cases ho : s.over = 0
    · rw [run_step l words f m s e ho] at h
      by_cases hf : s.steps = f
      · have := run_mono l words g (m + 1 + d) s e
        omega
      · have hg : s.steps ≠ g := by omega
        rw [show m + 1 + d = m + d + 1 by omega, run_step l words g (m + d) s e ho, want_same hf hg, step_same hf hg]
        exact run_more l words f g hfg m d _ _ (step_over5 ho hf _) (by rw [step_steps ho hf]; omega) h
    · rw [run_stop _ _ _ _ _ _ ho] at h; exact absurd h hs
theorem newE_more {l : List Ins} {cells words f g : Int} (hfg : f ≤ g) (h : newE l cells words f = 0) : newE l cells words g = 0 ∨ newE l cells words g = 110 := by
  unfold newE at h ⊢
  split at h
  · rw [if_pos (by assumption)]
    split at h
    · cases h
    · rw [if_neg (by assumption)]
      split at h
      · cases h
      · split
        · exact .inr rfl
        · exact .inl rfl
  · contradiction
/-- what the law says of two runs -/
theorem fuel_law {l : List Ins} {f g : Int} {m : List Int} {n i k : Int} (hf : 1 ≤ f) (hfg : f ≤ g) :
    (runEnd l f m n i k).1.steps ≤ f ∧ (runEnd l g m n i k).1.steps ≤ g ∧ (runEnd l f m n i k).1.over ≠ 0 ∧ (runEnd l g m n i k).1.over ≠ 0 ∧
    ((runEnd l f m n i k).1.over = 5 → (runEnd l f m n i k).1.steps = f ∧ f ≤ (runEnd l g m n i k).1.steps) ∧ ((runEnd l f m n i k).1.over ≠ 5 → runEnd l g m n i k = runEnd l f m n i k) := by
  have hd : ∃ d, g.toNat + 1 = f.toNat + 1 + d := ⟨g.toNat - f.toNat, by omega⟩
  obtain ⟨d, hd⟩ := hd
  have h0 : (s0 n i k).steps = 0 := rfl
  have h1 : (s0 n i k).over = 0 := rfl
  have e1 := run_ends l m.length f (f.toNat + 1) (s0 n i k) ⟨m, [], []⟩ (by omega) (by omega)
  have e2 := run_ends l m.length g (g.toNat + 1) (s0 n i k) ⟨m, [], []⟩ (by omega) (by omega)
  refine ⟨run_ticks _ _ _ _ _ _ (by omega), run_ticks _ _ _ _ _ _ (by omega), e1, e2, fun h => ⟨run_spent _ _ _ _ _ _ (by omega) h, ?_⟩, fun h => ?_⟩
  · unfold runEnd; rw [hd]; exact run_more l _ f g hfg _ d _ _ (by omega) (by omega) h
  · unfold runEnd; rw [hd]; exact run_same l _ f g hfg _ d _ _ (by omega) h e1
end Go.Proofs.Ytnikcdcaaeljmaa.My
