/- The pure statement of the law NumBezout: over whole numbers alone, the printed function of the law answers true for every two int64. No condition. -/
import Derived.Test.YtnpkaoogifjofaaNumD
import Derived.Test.YtnpkaoogifjofaaNumE
import Derived.Test.YtnpkaoogifjofaaPNumx11
import Derived.Test.YtnpkaoogifjofaaPNumx19
import Derived.Test.YtnpkaoogifjofaaPNumx26
import Derived.Test.YtnpkaoogifjofaaPNumx27
import Derived.Test.YtnpkaoogifjofaaPNumx28
namespace Go.Proofs.Ytnpkaoogifjofaa.Pure
open Go.RowKit Go.Proofs.Ytnpkaoogifjofaa.PNum Go.Proofs.Ytnpkaoogifjofaa.NumA Go.Proofs.YtnpkaoogifjofaaW.PrintWords Go.Proofs.YtnpkaoogifjofaaW.PrintLast Go.Proofs.YtnpkaoogifjofaaW.PrintMore
theorem lsize_eq (a : Int) (h0 : -9223372036854775808 ≤ a) (h1 : a ≤ 9223372036854775807) : outriderlaw01_size.f a = some (a.natAbs : Int) := by
  unfold outriderlaw01_size.f
  split
  · rw [uw, uw]; congr 1; omega
  · rw [uw]; congr 1; omega
theorem abs_mul_le {x y X Y : Nat} {a b : Int} (ha : a.natAbs ≤ X) (hb : b.natAbs ≤ Y) (_h : x = X ∧ y = Y) : (a * b).natAbs ≤ X * Y := by
  rw [Int.natAbs_mul]; exact Nat.mul_le_mul ha hb
theorem nat_step (R S X U Q T : Nat) (hdm : R = Q * S + T) : S * (X + Q * U) + T * U = R * U + S * X := by
  subst hdm
  rw [Nat.mul_add, Nat.add_mul, ← Nat.mul_assoc, Nat.mul_comm S Q]; omega
set_option maxHeartbeats 1000000 in
/-- what one round of Euclid's keeps -/
theorem steps_loop (a b : Int) (B : Nat) (hB : B = b.natAbs) (hb31 : B ≤ 2147483648) (n : Nat) : ∀ (k : Nat) (r s x u : Int), s.natAbs = n → n < k → r.natAbs ≤ 2147483648 → n ≤ 2147483648 →
    r.natAbs * u.natAbs + s.natAbs * x.natAbs ≤ B → x.natAbs ≤ B + 1 → u.natAbs ≤ B → (r = 0 → u = 0) → (r.natAbs = 0 → s.natAbs ≠ 0) →
    (∃ y, r = a * x + b * y) → (∃ y, s = a * u + b * y) → Nat.gcd r.natAbs s.natAbs = Nat.gcd a.natAbs b.natAbs →
    ∃ X G, num_steps.l0 k r s x u = some (X, G) ∧ G = (Nat.gcd a.natAbs b.natAbs : Int) ∧ X.natAbs ≤ B + 1 ∧ ∃ y, G = a * X + b * y := by
  induction n using Nat.strongRecOn with
  | _ n ih =>
    intro k r s x u hn hk hr hnb hI hx hu hr0 hrs hy1 hy2 hg
    obtain ⟨k, rfl⟩ : ∃ m, k = m + 1 := ⟨k - 1, by omega⟩
    simp only [num_steps.l0]
    by_cases hs : s = 0
    · subst hs
      rw [if_pos rfl]
      have hg2 : r.natAbs = Nat.gcd a.natAbs b.natAbs := by rw [← hg]; simp
      obtain ⟨y, hy⟩ := hy1
      by_cases hneg : r < 0
      · rw [if_pos hneg, w64_id (by omega) (by omega), w64_id (by omega) (by omega)]
        exact ⟨_, _, rfl, by omega, by omega, -y, by rw [Int.mul_neg, Int.mul_neg]; omega⟩
      · rw [if_neg hneg]
        exact ⟨_, _, rfl, by omega, hx, y, hy⟩
    · rw [if_neg hs]
      have hm := Int.mul_tdiv_add_tmod r s
      obtain ⟨q, hq⟩ : ∃ q, q = Int.tdiv r s := ⟨_, rfl⟩
      obtain ⟨t, ht⟩ : ∃ t, t = Int.tmod r s := ⟨_, rfl⟩
      have hqa : q.natAbs = r.natAbs / s.natAbs := by rw [hq, Int.natAbs_tdiv]; rfl
      have hta : t.natAbs = r.natAbs % s.natAbs := by rw [ht, Int.natAbs_tmod]
      rw [← hq, ← ht] at hm
      have hspos : 0 < s.natAbs := by omega
      have hqle : q.natAbs * s.natAbs ≤ r.natAbs := by rw [hqa]; exact Nat.div_mul_le_self _ _
      have hqr : q.natAbs ≤ r.natAbs := Nat.le_trans (Nat.le_mul_of_pos_right _ hspos) hqle
      have hdm : r.natAbs = q.natAbs * s.natAbs + t.natAbs := by
        rw [hqa, hta, Nat.mul_comm]; exact (Nat.div_add_mod _ _).symm
      have htlt : t.natAbs < s.natAbs := by rw [hta]; exact Nat.mod_lt _ hspos
      have hqu : q.natAbs * u.natAbs ≤ B := by
        have : q.natAbs * u.natAbs ≤ r.natAbs * u.natAbs := Nat.mul_le_mul_right _ hqr
        omega
      have hqs : (q * s).natAbs ≤ 2147483648 := by rw [Int.natAbs_mul]; omega
      have hqui : (q * u).natAbs ≤ B := by rw [Int.natAbs_mul]; exact hqu
      have e1 : wrap64 q = q := w64_id (by omega) (by omega)
      have e2 : wrap64 (q * s) = q * s := w64_id (by omega) (by omega)
      have e3 : r - q * s = t := by rw [Int.mul_comm q s]; omega
      have e4 : wrap64 t = t := w64_id (by omega) (by omega)
      have e5 : wrap64 (q * u) = q * u := w64_id (by omega) (by omega)
      have e6 : wrap64 (x - q * u) = x - q * u := w64_id (by omega) (by omega)
      rw [← hq, e1, e2, e3, e4, e5, e6]
      have hsub : (x - q * u).natAbs ≤ x.natAbs + q.natAbs * u.natAbs := by
        have : (q * u).natAbs = q.natAbs * u.natAbs := Int.natAbs_mul _ _
        omega
      have hI2 : s.natAbs * (x - q * u).natAbs + t.natAbs * u.natAbs ≤ B := by
        have h1 : s.natAbs * (x - q * u).natAbs ≤ s.natAbs * (x.natAbs + q.natAbs * u.natAbs) := Nat.mul_le_mul_left _ hsub
        have h2 := nat_step r.natAbs s.natAbs x.natAbs u.natAbs q.natAbs t.natAbs hdm
        omega
      have hu2 : (x - q * u).natAbs ≤ B := by
        have h1 : (x - q * u).natAbs ≤ s.natAbs * (x - q * u).natAbs := Nat.le_mul_of_pos_left _ hspos
        omega
      obtain ⟨y1, hy1⟩ := hy1
      obtain ⟨y2, hy2⟩ := hy2
      have hgn : Nat.gcd s.natAbs t.natAbs = Nat.gcd a.natAbs b.natAbs := by
        rw [← hg, hta, Nat.gcd_comm r.natAbs, Nat.gcd_rec s.natAbs r.natAbs, Nat.gcd_comm]
      exact ih t.natAbs (by omega) k s t u (x - q * u) rfl (by omega) (by omega) (by omega) hI2 (by omega) hu2 (fun h => absurd h hs) (fun h => by omega) ⟨y2, hy2⟩
        ⟨y1 - q * y2, by rw [← e3, hy1, Int.mul_sub, Int.mul_sub]; rw [show q * s = q * (a * u + b * y2) by rw [← hy2], Int.mul_add, Int.mul_left_comm q a u, Int.mul_left_comm q b y2]; omega⟩ hgn
theorem steps_eq (a b : Int) (ha : a.natAbs ≤ 2147483648) (hb : b.natAbs ≤ 2147483648) (hz : b ≠ 0) (k : Nat) (hk : b.natAbs < k) : ∃ X G, num_steps.f k a b = some (X, G) ∧ G = (Nat.gcd a.natAbs b.natAbs : Int) ∧ X.natAbs ≤ b.natAbs + 1 ∧ ∃ y, G = a * X + b * y :=
  steps_loop a b b.natAbs rfl hb b.natAbs k a b 1 0 rfl hk ha hb (by simp) (by simp) (by simp) (fun _ => rfl) (fun _ => by omega) ⟨0, by simp⟩ ⟨1, by simp⟩ rfl
theorem flo_rest (x m : Int) (hm : 0 < m) (_hx : x.natAbs ≤ 2147483649) (hm2 : m ≤ 2147483648) : (flo x m).2.1 = x % m := by
  unfold flo
  rw [if_neg (by omega)]
  have hl := tmod_le
  by_cases h : Int.tmod x m ≠ 0 ∧ decide (Int.tmod x m < 0) ≠ decide (m < 0)
  · rw [if_pos h]
    obtain ⟨h1, h2⟩ := h
    rw [decide_eq_false (show ¬ m < 0 by omega)] at h2
    have h3 : Int.tmod x m < 0 := by
      rcases Int.lt_or_le (Int.tmod x m) 0 with h | h
      · exact h
      · exact absurd (decide_eq_false (by omega)) h2
    have hlt : (Int.tmod x m).natAbs < m.natAbs := by rw [Int.natAbs_tmod]; exact Nat.mod_lt _ (by omega)
    have hd := Int.mul_tdiv_add_tmod x m
    show wrap64 (Int.tmod x m + m) = x % m
    rw [w64_id (by omega) (by omega)]
    have e : x = (Int.tmod x m + m) + m * (Int.tdiv x m - 1) := by rw [Int.mul_sub]; omega
    conv => rhs; rw [e]
    rw [Int.add_mul_emod_self_left, Int.emod_eq_of_lt (by omega) (by omega)]
  · rw [if_neg h]
    have hlt : (Int.tmod x m).natAbs < m.natAbs := by rw [Int.natAbs_tmod]; exact Nat.mod_lt _ (by omega)
    have hd := Int.mul_tdiv_add_tmod x m
    have h3 : 0 ≤ Int.tmod x m := by
      rcases Int.lt_or_le (Int.tmod x m) 0 with h4 | h4
      · exfalso
        refine h ⟨by omega, ?_⟩
        rw [decide_eq_false (show ¬ m < 0 by omega), decide_eq_true h4]; decide
      · exact h4
    show Int.tmod x m = x % m
    have e : x = Int.tmod x m + m * Int.tdiv x m := by omega
    conv => rhs; rw [e]
    rw [Int.add_mul_emod_self_left, Int.emod_eq_of_lt h3 (by omega)]
theorem w64_nat {n : Nat} (h : n ≤ 9223372036854775807) : wrap64 (n : Int) = n := w64_id (by omega) (by omega)
theorem w64_abs {z : Int} {n : Nat} (h : z.natAbs ≤ n) (hn : n ≤ 9223372036854775807) : wrap64 z = z := w64_id (by omega) (by omega)
theorem abs_sub {g : Nat} {p : Int} (hg : g ≤ 2147483648) (hp : p.natAbs ≤ 4611686018427387904) : ((g : Int) - p).natAbs ≤ 4611686020574871552 := by omega
theorem abs_lt {x : Int} {c n : Nat} (h0 : 0 ≤ x) (h1 : x < c) (h : c ≤ n) : x.natAbs ≤ n := by omega
theorem add_back {g p q : Int} (h : g - p = q) : p + q = g := by omega
theorem c62 : 2147483648 * 2147483648 = 4611686018427387904 := by decide
set_option maxHeartbeats 2000000 in
/-- what Bezout's answer is, for a divisor that isn't 0 -/
theorem bezout_main (a b : Int) (ha : a.natAbs ≤ 2147483648) (hb : b.natAbs ≤ 2147483648) (hz : b ≠ 0) (k : Nat) (hk : b.natAbs < k) : ∃ x y g : Int, num_Bezout.j0 (k + 1) a b false = some (x, y, g, 0) ∧ g = (Nat.gcd a.natAbs b.natAbs : Int) ∧ 0 < g ∧ a * x + b * y = g ∧ 0 ≤ x ∧ x < (b.natAbs : Int) / g := by
  obtain ⟨X, G, hs, hG, hX, y0, hy0⟩ := steps_eq a b ha hb hz k hk
  have hgpos : 0 < Nat.gcd a.natAbs b.natAbs := Nat.gcd_pos_of_pos_right _ (by omega)
  have hgle : Nat.gcd a.natAbs b.natAbs ≤ b.natAbs := Nat.gcd_le_right _ (by omega)
  obtain ⟨c, hc⟩ := Nat.gcd_dvd_right a.natAbs b.natAbs
  obtain ⟨d, hd⟩ := Nat.gcd_dvd_left a.natAbs b.natAbs
  simp only [num_Bezout.j0, Bool.false_eq_true, if_false]
  rw [if_neg hz, hs, nsize_eq b (by omega) (by omega)]
  simp only [Option.bind_some]
  rw [if_neg (by omega), floor_eq, Option.bind_some]
  obtain ⟨g, hgg⟩ : ∃ g, g = Nat.gcd a.natAbs b.natAbs := ⟨_, rfl⟩
  rw [← hgg] at hG hgpos hgle hc hd
  subst hG
  have hcpos : 0 < c := by
    rcases Nat.eq_zero_or_pos c with h | h
    · subst h; omega
    · exact h
  have hcle : c ≤ b.natAbs := by rw [hc]; exact Nat.le_mul_of_pos_left _ hgpos
  have hm : wrap64 (Int.tdiv (wrap64 (b.natAbs : Int)) g) = c := by
    rw [w64_nat (Nat.le_trans hb (by decide)), Int.tdiv_eq_ediv_of_nonneg (Int.natCast_nonneg _)]
    have : (b.natAbs : Int) / g = c := by
      rw [hc, Int.natCast_mul, Int.mul_ediv_cancel_left _ (Int.natCast_ne_zero.mpr (Nat.pos_iff_ne_zero.mp hgpos))]
    rw [this]; exact w64_nat (Nat.le_trans hcle (Nat.le_trans hb (by decide)))
  rw [hm, flo_rest X c (Int.natCast_pos.mpr hcpos) (Nat.le_trans hX (Nat.succ_le_succ hb)) (Int.ofNat_le.mpr (Nat.le_trans hcle hb))]
  have hx0 : 0 ≤ X % c := Int.emod_nonneg _ (Int.natCast_ne_zero.mpr (Nat.pos_iff_ne_zero.mp hcpos))
  have hx1 : X % c < c := Int.emod_lt_of_pos _ (Int.natCast_pos.mpr hcpos)
  obtain ⟨x, hx⟩ : ∃ x, x = X % c := ⟨_, rfl⟩
  rw [← hx] at hx0 hx1 ⊢
  have hxa : x.natAbs ≤ 2147483648 := by
    exact abs_lt hx0 hx1 (Nat.le_trans hcle hb)
  have hax : (a * x).natAbs ≤ 4611686018427387904 := by
    rw [Int.natAbs_mul, ← c62]; exact Nat.mul_le_mul ha hxa
  have e1 : wrap64 (a * x) = a * x := w64_abs hax (by decide)
  have hga := abs_sub (g := g) (p := a * x) (Nat.le_trans hgle hb) hax
  have e2 : wrap64 ((g : Int) - a * x) = (g : Int) - a * x := w64_abs hga (by decide)
  have hXd : X = x + c * (X / c) := by rw [hx]; have := Int.emod_add_mul_ediv X c; omega
  -- b divides g - a x
  have hac : ∃ e : Int, a * c = b * e := by
    rcases Int.natAbs_eq a with h1 | h1 <;> rcases Int.natAbs_eq b with h2 | h2
    · exact ⟨d, by rw [h1, h2, hc, hd]; simp only [Int.natCast_mul]; rw [Int.mul_right_comm]⟩
    · exact ⟨-d, by rw [h1, h2, hc, hd]; simp only [Int.natCast_mul]; rw [Int.neg_mul_neg, Int.mul_right_comm]⟩
    · exact ⟨-d, by rw [h1, h2, hc, hd]; simp only [Int.natCast_mul]; rw [Int.mul_neg, Int.neg_mul, Int.mul_right_comm]⟩
    · exact ⟨d, by rw [h1, h2, hc, hd]; simp only [Int.natCast_mul]; rw [Int.neg_mul, Int.neg_mul, Int.mul_right_comm]⟩
  obtain ⟨e, he⟩ := hac
  have hdiv : (g : Int) - a * x = b * (y0 + e * (X / c)) := by
    rw [Int.mul_add, ← Int.mul_assoc b e, ← he, hy0]
    conv => lhs; rw [hXd]
    rw [Int.mul_add, ← Int.mul_assoc a c]; omega
  obtain ⟨y, hy⟩ : ∃ y, y = y0 + e * (X / c) := ⟨_, rfl⟩
  rw [← hy] at hdiv
  have hyle : y.natAbs ≤ (b * y).natAbs := by rw [Int.natAbs_mul]; exact Nat.le_mul_of_pos_left _ (by omega)
  rw [← hdiv] at hyle
  have e3 : wrap64 (Int.tdiv ((g : Int) - a * x) b) = y := by
    rw [hdiv, Int.mul_tdiv_cancel_left _ hz]; exact w64_abs (Nat.le_trans hyle hga) (by decide)
  rw [e1, e2, e3]
  refine ⟨x, y, g, rfl, by rw [hgg], Int.natCast_pos.mpr hgpos, add_back hdiv, hx0, ?_⟩
  have : (b.natAbs : Int) / g = c := by
    rw [hc, Int.natCast_mul, Int.mul_ediv_cancel_left _ (Int.natCast_ne_zero.mpr (Nat.pos_iff_ne_zero.mp hgpos))]
  rw [this]; exact hx1
theorem out_bez (a b : Int) (h : a < -2147483648 ∨ a > 2147483648 ∨ b < -2147483648 ∨ b > 2147483648) (k : Nat) : num_Bezout.f (k + 1) a b = some (0, 0, 0, 11) := by
  unfold num_Bezout.f
  simp only [num_Bezout.j0]
  by_cases c1 : a < -2147483648
  · simp [c1]
  by_cases c2 : a > 2147483648
  · simp [c1, c2]
  by_cases c3 : b < -2147483648
  · simp [c1, c2, c3]
  have c4 : b > 2147483648 := by omega
  simp [c1, c2, c3, c4]
theorem NumBezout : outriderlaw01_NumBezout.Pure := by
  intro a b h1 h2
  obtain ⟨ha, ha1⟩ := bd64 h1
  obtain ⟨hb, hb1⟩ := bd64 h2
  refine ⟨b.natAbs + 60, ?_⟩
  unfold outriderlaw01_NumBezout.f
  have hal : outriderlaw01_alive.f (b.natAbs + 59) = some true := alive_ge _ (by omega)
  by_cases hout : a < -2147483648 ∨ a > 2147483648 ∨ b < -2147483648 ∨ b > 2147483648
  · rw [out_bez a b hout (b.natAbs + 59), Option.bind_some]
    have hj : outriderlaw01_NumBezout.j0 (b.natAbs + 60) a b 0 0 0 11 true = some true := by
      simp only [outriderlaw01_NumBezout.j0, hal]; simp
    by_cases c1 : a < -2147483648
    · rw [if_pos c1]; exact hj
    by_cases c2 : a > 2147483648
    · rw [if_neg c1, if_pos c2]; exact hj
    by_cases c3 : b < -2147483648
    · rw [if_neg c1, if_neg c2, if_pos c3]; exact hj
    rw [if_neg c1, if_neg c2, if_neg c3, decide_eq_true (by omega)]; exact hj
  · have i1 : ¬ a < -2147483648 := by omega
    have i2 : ¬ a > 2147483648 := by omega
    have i3 : ¬ b < -2147483648 := by omega
    have i4 : ¬ b > 2147483648 := by omega
    have hbf : num_Bezout.f (b.natAbs + 60) a b = num_Bezout.j0 (b.natAbs + 60) a b false := by
      unfold num_Bezout.f; rw [if_neg i1, if_neg i2, if_neg i3, decide_eq_false i4]
    rw [hbf]
    have hgc := num_gcd a b ha ha1 hb hb1 (b.natAbs + 59) (by omega)
    by_cases hz : b = 0
    · subst hz
      have hj : num_Bezout.j0 ((0 : Int).natAbs + 60) a 0 false = some (if a < 0 then (-1, 0, -a, 0) else if a > 0 then (1, 0, a, 0) else (0, 0, 0, 0)) := by
        simp only [num_Bezout.j0, Bool.false_eq_true, if_false, if_true]
        rw [w64_id (by omega) (by omega)]
        (repeat' split) <;> rfl
      rw [hj, Option.bind_some, if_neg i1, if_neg i2, if_neg i3, decide_eq_false i4]
      simp only [outriderlaw01_NumBezout.j0, outriderlaw01_NumBezout.j1, hgc, Bool.false_eq_true, if_false]
      have hal2 : outriderlaw01_alive.f ((0 : Int).natAbs + 58) = some true := alive_ge _ (by omega)
      rw [hal2]
      have w0 : wrap64 0 = 0 := w64_id (by omega) (by omega)
      by_cases n1 : a < 0
      · have u1 : IntKind.u64.wrap (-a) = -a := by rw [uw]; omega
        have w1 : wrap64 (-a) = -a := w64_id (by omega) (by omega)
        simp [n1, u1, w0, w1, show ¬ a = 0 by omega, show ¬ (0 < a) by omega]
        simp [show (a.natAbs : Int) = -a by omega]
      · by_cases n2 : a > 0
        · have u1 : IntKind.u64.wrap a = a := by rw [uw]; omega
          have w1 : wrap64 a = a := w64_id (by omega) (by omega)
          simp [n1, n2, u1, w0, w1, show ¬ a = 0 by omega]
          simp [show (a.natAbs : Int) = a by omega]
        · obtain rfl : a = 0 := by omega
          simp [uw, w0]
    · obtain ⟨x, y, g, hj, hg, hgp, he, hx0, hx1⟩ := bezout_main a b (by omega) (by omega) hz (b.natAbs + 59) (by omega)
      rw [hj, Option.bind_some, if_neg i1, if_neg i2, if_neg i3, decide_eq_false i4]
      simp only [outriderlaw01_NumBezout.j0, outriderlaw01_NumBezout.j1, hgc, Bool.false_eq_true, if_false, Option.bind_some]
      have hgle : g ≤ b.natAbs := by
        rw [hg]; exact_mod_cast Nat.gcd_le_right a.natAbs (show 0 < b.natAbs by omega)
      have e1 : IntKind.u64.wrap g = g := by rw [uw]; omega
      have e2 : wrap64 (wrap64 (a * x) + wrap64 (b * y)) = g := by
        rw [show wrap64 (wrap64 (a * x) + wrap64 (b * y)) = wrap64 (a * x + b * y) from w64_congr (by rw [Int.add_emod, w64_mod, w64_mod, ← Int.add_emod]), he]
        exact w64_id (by omega) (by omega)
      have hx2 : (b.natAbs : Int) / g ≤ b.natAbs := Int.ediv_le_self _ (by omega)
      have e3 : IntKind.u64.wrap x = x := by rw [uw]; omega
      have e4 : IntKind.u64.wrap (Int.tdiv (b.natAbs : Int) g) = (b.natAbs : Int) / g := by
        rw [Int.tdiv_eq_ediv_of_nonneg (by omega), uw]
        have := Int.ediv_nonneg (show (0 : Int) ≤ b.natAbs by omega) (Int.le_of_lt hgp)
        omega
      rw [if_pos trivial, if_neg (by omega), e1, if_pos hg, e2, if_pos rfl, if_neg (by omega), if_neg hz, if_pos (by omega), lsize_eq b hb hb1, Option.bind_some, if_neg (by omega), e3, e4, if_pos hx1, alive_ge _ (by omega)]
      rfl
end Go.Proofs.Ytnpkaoogifjofaa.Pure
