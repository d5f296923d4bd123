/- The pure statement of the law NumGcd: over whole numbers alone, the printed function of the law answers true for every two int64. No condition. -/
import Derived.Test.YtnpkaoogifjofaaNumE
import Derived.Test.YtnpkaoogifjofaaPNumx19
import Derived.Test.YtnpkaoogifjofaaPNumx20
namespace Go.Proofs.Ytnpkaoogifjofaa.Pure
open Go.RowKit Go.Proofs.Ytnpkaoogifjofaa.PNum Go.Proofs.Ytnpkaoogifjofaa.NumA Go.Proofs.YtnpkaoogifjofaaW.PrintWords Go.Proofs.YtnpkaoogifjofaaW.PrintLast Go.Proofs.YtnpkaoogifjofaaW.PrintMore
theorem lsize_eq (a : Int) (h0 : -9223372036854775808 ≤ a) (h1 : a ≤ 9223372036854775807) : outriderlaw01_size.f a = some (a.natAbs : Int) := by
  unfold outriderlaw01_size.f
  split
  · rw [uw, uw]; congr 1; omega
  · rw [uw]; congr 1; omega
theorem mod0 {x g : Nat} (h : g ∣ x) : Int.tmod (x : Int) g = 0 := by
  rw [Int.tmod_eq_emod_of_nonneg (by omega)]
  exact_mod_cast Nat.mod_eq_zero_of_dvd h
theorem NumGcd : outriderlaw01_NumGcd.Pure := by
  intro a b h1 h2
  obtain ⟨ha, ha1⟩ := bd64 h1
  obtain ⟨hb, hb1⟩ := bd64 h2
  refine ⟨2 * (a.natAbs + b.natAbs) + 50, ?_⟩
  unfold outriderlaw01_NumGcd.f
  have hn := w64_bd (-a)
  have hna : (wrap64 (-a)).natAbs = a.natAbs := by unfold wrap64; omega
  rw [num_gcd a b ha ha1 hb hb1 _ (by omega), ref_gcd a b ha ha1 hb hb1 _ (by omega), num_gcd b a hb hb1 ha ha1 _ (by omega), num_gcd (wrap64 (-a)) b hn.1 hn.2 hb hb1 _ (by omega), hna, Nat.gcd_comm b.natAbs]
  simp only [Option.bind_some, if_true, bne_self_eq_false]
  rw [show 2 * (a.natAbs + b.natAbs) + 50 = (2 * (a.natAbs + b.natAbs) + 49) + 1 from rfl]
  simp only [outriderlaw01_NumGcd.j0, alive_ge _ (show 20 ≤ 2 * (a.natAbs + b.natAbs) + 49 by omega), lsize_eq a ha ha1, lsize_eq b hb hb1, Option.bind_some, mod0 (Nat.gcd_dvd_left _ _), mod0 (Nat.gcd_dvd_right _ _), if_true]
  rw [if_neg (by decide)]
  by_cases hg : Nat.gcd a.natAbs b.natAbs = 0
  · have h := Nat.gcd_eq_zero_iff.mp hg
    rw [if_pos (by omega), if_pos (by omega), if_pos (by omega)]
  · rw [if_neg (by omega)]
end Go.Proofs.Ytnpkaoogifjofaa.Pure
