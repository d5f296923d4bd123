/- Every register is a number of 64 bits, step for step. No program in sight. -/
import Derived.Test.YtnikcdcaaeljmaaVmRf
namespace Go.Proofs.Ytnikcdcaaeljmaa.My
open Go.RowKit Go.Proofs.Ytnikcdcaaeljmaa.NumA
set_option linter.unusedVariables false
set_option linter.unusedSimpArgs false
theorem b64_if {c : Prop} [Decidable c] {a b : Int × Bool} (ha : b64 a.1) (hb : b64 b.1) : b64 (if c then a else b).1 := by
  by_cases h : c
  · rw [if_pos h]; exact ha
  · rw [if_neg h]; exact hb
theorem b64_ifi {c : Prop} [Decidable c] {a b : Int} (ha : b64 a) (hb : b64 b) : b64 (if c then a else b) := by
  by_cases h : c
  · rw [if_pos h]; exact ha
  · rw [if_neg h]; exact hb
theorem b64_shr {a : Int} (h : b64 a) (k : Nat) : b64 (a / 2 ^ k) := by
  obtain ⟨h0, h1⟩ := h
  have hp : (1 : Int) ≤ 2 ^ k := by exact_mod_cast Nat.one_le_two_pow
  rcases Int.le_total 0 a with ha | ha
  · have e0 := Int.ediv_nonneg ha (show (0 : Int) ≤ 2 ^ k by omega)
    have e1 := Int.ediv_le_self (2 ^ k) ha
    exact ⟨by omega, by omega⟩
  · have e0 : a ≤ a / 2 ^ k := by
      rw [Int.le_ediv_iff_mul_le (by omega)]
      have := Int.mul_le_mul_of_nonpos_left ha hp
      omega
    have e1 : a / 2 ^ k < 1 := by
      rw [Int.ediv_lt_iff_lt_mul (by omega)]
      omega
    exact ⟨by omega, by omega⟩
theorem two_b64 (op : Int) {a b : Int} (ha : b64 a) (hb : b64 b) : b64 (two op a b).1 := by
  have h0 : b64 0 := ⟨by omega, by omega⟩
  have h1 : b64 1 := ⟨by omega, by omega⟩
  unfold two
  simp only [bits_and64, bits_or64, bits_xor64]
  repeat' first | with_reducible apply b64_if | with_reducible apply b64_ifi
  all_goals first | exact w64_bd _ | exact h0 | exact h1 | exact ha | exact hb | exact tmod_bd a b ha.1 ha.2 | exact b64_shr ha _
theorem one_b64 (op : Int) {a : Int} (ha : b64 a) : b64 (one op a).1 := by
  have h0 : b64 0 := ⟨by omega, by omega⟩
  have h1 : b64 1 := ⟨by omega, by omega⟩
  unfold one
  simp only [bits_xor64]
  repeat' first | with_reducible apply b64_if | with_reducible apply b64_ifi
  all_goals first | exact w64_bd _ | exact h0 | exact h1
def reg64 (s : St) : Prop := ∀ v ∈ s.rg, b64 v
theorem reg64_get {s : St} (h : reg64 s) (i : Nat) : b64 (s.reg i) := by
  unfold St.reg
  rw [List.getD]
  by_cases hi : i < s.rg.length
  · rw [List.getElem?_eq_getElem hi]; exact h _ (List.getElem_mem hi)
  · rw [List.getElem?_eq_none (by omega)]; exact ⟨by decide, by decide⟩
theorem reg64_if {c : Prop} [Decidable c] {a b : St} (ha : reg64 a) (hb : reg64 b) : reg64 (if c then a else b) := by
  by_cases h : c
  · rw [if_pos h]; exact ha
  · rw [if_neg h]; exact hb
theorem reg64_put {s : St} (h : reg64 s) (x : Ins) {v : Int} (hv : b64 v) : reg64 (putR s x v) := by
  intro u hu
  rcases List.mem_or_eq_of_mem_set (show u ∈ s.rg.set x.a.toNat v from hu) with h1 | h1
  · exact h u h1
  · rw [h1]; exact hv
theorem reg64_step {l : List Ins} {words fuel : Int} {s : St} (h : reg64 s) (hn : ∀ x ∈ l, b64 x.n) {got : Int} (hg : b64 got) : reg64 (stepS l words fuel s got) := by
  have hd : b64 (l.getD s.at0.toNat default).n := by
    rw [List.getD]
    by_cases hi : s.at0.toNat < l.length
    · rw [List.getElem?_eq_getElem hi]; exact hn _ (List.getElem_mem hi)
    · rw [List.getElem?_eq_none (by omega)]; exact ⟨by decide, by decide⟩
  have hr : ∀ i, b64 (St.reg { s with steps := s.steps + 1 } i) := fun i => reg64_get (s := { s with steps := s.steps + 1 }) h i
  unfold stepS
  generalize l.getD s.at0.toNat default = x at hd ⊢
  unfold doS memS branchS reckonS
  repeat' apply reg64_if
  all_goals first | exact h | exact reg64_put h _ hg | exact reg64_put h _ (by assumption) | exact reg64_put h _ (hr _) | exact reg64_put h _ (one_b64 _ (hr _)) | exact reg64_put h _ (two_b64 _ (hr _) (hr _)) | skip
end Go.Proofs.Ytnikcdcaaeljmaa.My
