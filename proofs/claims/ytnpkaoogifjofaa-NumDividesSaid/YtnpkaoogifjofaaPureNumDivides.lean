/- The pure statement of the law NumDivides: over whole numbers alone, the printed function of the law answers true for every int64. No condition. -/
import Derived.Test.YtnpkaoogifjofaaNumD
import Derived.Test.YtnpkaoogifjofaaPNumx21
import Derived.Test.YtnpkaoogifjofaaPNumx22
namespace Go.Proofs.Ytnpkaoogifjofaa.Pure
open Go.RowKit Go.Proofs.Ytnpkaoogifjofaa.PNum Go.Proofs.Ytnpkaoogifjofaa.NumA Go.Proofs.YtnpkaoogifjofaaW.PrintWords Go.Proofs.YtnpkaoogifjofaaW.PrintLast Go.Proofs.YtnpkaoogifjofaaW.PrintMore
theorem nearer_eq (x y : Int) (hx : -9223372036854775808 ≤ x) (hx1 : x ≤ 9223372036854775807) (hy : -9223372036854775808 ≤ y) (hy1 : y ≤ 9223372036854775807) : outriderlaw01_nearer.f x y = some (decide (x.natAbs < y.natAbs)) := by
  unfold outriderlaw01_nearer.f
  by_cases h1 : x > 0
  · by_cases h2 : y > 0
    · rw [if_pos h1, if_pos h2, w64_id (by omega) (by omega), w64_id (by omega) (by omega)]; congr 1; rw [decide_eq_decide]; omega
    · rw [if_pos h1, if_neg h2, w64_id (by omega) (by omega)]; congr 1; rw [decide_eq_decide]; omega
  · by_cases h2 : y > 0
    · rw [if_neg h1, if_pos h2, w64_id (by omega) (by omega)]; congr 1; rw [decide_eq_decide]; omega
    · rw [if_neg h1, if_neg h2]; congr 1; rw [decide_eq_decide]; omega
theorem w64_mul_l (x y z : Int) : wrap64 (wrap64 (wrap64 x * y) + z) = wrap64 (x * y + z) := by
  refine w64_congr ?_
  rw [Int.add_emod, w64_mod, Int.mul_emod, w64_mod, ← Int.mul_emod, ← Int.add_emod]
theorem rest_lt (a b : Int) (h : b ≠ 0) : (Int.tmod a b).natAbs < b.natAbs := by
  rw [Int.natAbs_tmod]; exact Nat.mod_lt _ (by omega)
theorem NumDivides : outriderlaw01_NumDivides.Pure := by
  intro a b h1 h2
  obtain ⟨ha, ha1⟩ := bd64 h1
  obtain ⟨hb, hb1⟩ := bd64 h2
  refine ⟨220, ?_⟩
  unfold outriderlaw01_NumDivides.f
  rw [alive_eq 200, num_two 4 a b 218, num_two 5 a b 218, floor_eq a b]
  simp only [Option.bind_some, if_true]
  by_cases hz : b = 0
  · simp [hz, flo, two]
  have hr := rest_lt a b hz
  have hd := Int.mul_tdiv_add_tmod a b
  have hs := tmod_sign a b
  obtain ⟨q, hq⟩ : ∃ q, q = Int.tdiv a b := ⟨_, rfl⟩
  obtain ⟨r, hr2⟩ : ∃ r, r = Int.tmod a b := ⟨_, rfl⟩
  have e4 : two 4 a b = (wrap64 q, true) := by simp [two, hz, hq]
  have e5 : two 5 a b = (r, true) := by simp [two, hz, hr2]
  have ef : flo a b = if r ≠ 0 ∧ decide (r < 0) ≠ decide (b < 0) then (wrap64 (wrap64 q - 1), wrap64 (r + b), 0) else (wrap64 q, r, 0) := by
    unfold flo; rw [if_neg hz, ← hq, ← hr2]
  rw [← hq, ← hr2] at hd
  rw [← hr2] at hr hs
  have f1 : wrap64 (wrap64 (wrap64 q * b) + r) = a := by rw [w64_mul_l, Int.mul_comm, hd, w64_id ha ha1]
  have f0 := nearer_eq r b (by omega) (by omega) hb hb1
  rw [decide_eq_true hr] at f0
  rw [e4, e5, if_neg hz]
  by_cases h0 : r = 0
  · have ef2 : flo a b = (wrap64 q, r, 0) := by rw [ef, if_neg (by simp [h0])]
    rw [ef2]
    simp [h0] at f0 f1
    simp [h0, f0, f1]
  · have hs2 := hs h0
    by_cases h3 : decide (r < 0) = decide (b < 0)
    · have ef2 : flo a b = (wrap64 q, r, 0) := by rw [ef, if_neg (by simp [h3])]
      rw [ef2]
      clear ef ef2
      rw [decide_eq_decide] at h3 hs2
      simp [h0, f0, f1, h3]
      simp [← hs2, h3]
    · have ef2 : flo a b = (wrap64 (wrap64 q - 1), wrap64 (r + b), 0) := by rw [ef, if_pos ⟨h0, h3⟩]
      have hl : wrap64 (r + b) = r + b := by
        refine w64_id ?_ ?_ <;> (rw [decide_eq_decide] at h3; omega)
      have hl0 : r + b ≠ 0 := by omega
      have f2 : wrap64 (wrap64 (wrap64 (wrap64 q - 1) * b) + (r + b)) = a := by
        rw [w64_mul_l]
        have : wrap64 ((wrap64 q - 1) * b + (r + b)) = wrap64 (wrap64 q * b + r) := by congr 1; rw [Int.sub_mul]; omega
        rw [this, ← w64_id ha ha1]
        refine w64_congr ?_
        rw [Int.add_emod, Int.mul_emod, w64_mod, ← Int.mul_emod, ← Int.add_emod, Int.mul_comm, hd]
      have f3 := nearer_eq (r + b) b (by rw [decide_eq_decide] at h3; omega) (by rw [decide_eq_decide] at h3; omega) hb hb1
      rw [decide_eq_true (by rw [decide_eq_decide] at h3; omega)] at f3
      have f4 : decide (r + b < 0) = decide (b < 0) := by rw [decide_eq_decide] at h3 ⊢; omega
      rw [ef2]
      clear ef ef2 h3
      simp only [decide_eq_decide] at hs2 f4
      simp [h0, f0, f1, hl, hl0, f2, f3, f4, hs2]
end Go.Proofs.Ytnpkaoogifjofaa.Pure
