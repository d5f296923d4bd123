/- GenFits: what is made may be, and is one more than the statements at least. Conditions: the arguments lie in memory. -/
import Derived.Test.YtjlnpppjkdcpkaaGfGnK
import Derived.Test.YtjlnpppjkdcpkaaGfGnX1
import Derived.Test.YtjlnpppjkdcpkaaGfGnIn
namespace Go.Proofs.Ytjlnpppjkdcpkaa.My
open Go.RowKit Go.Proofs.Ytjlnpppjkdcpkaa.NumA
set_option linter.unusedVariables false
set_option linter.unusedSimpArgs false
theorem insChk_none : ∀ (l : List Ins) (cells long : Int) (i : Nat), (∀ x ∈ l, insErr x.kind x.op x.a x.b x.c x.n cells long = 0) → insChk l cells long i = none
  | [], _, _, _, _ => rfl
  | x :: l, cells, long, i, h => by
    rw [insChk, if_pos (h x (List.mem_cons_self ..))]
    exact insChk_none l cells long (i + 1) fun y hy => h y (List.mem_cons_of_mem _ hy)
theorem fits_check {ss : List Stmt} {L : Int} {a : List Ins} (h : genP ss L = (a, 0)) : checkP a L = (0, 0) := by
  obtain ⟨h1, h2, h3, m, h4⟩ := fits_plain h
  unfold checkP
  rw [if_neg (by omega), insChk_none a L a.length 0 h1]
  simp [h4, fallsK]
theorem rowIns {w : World} {l : List Ins} {A : Option Addr} {c : Nat} (h : Row w 42 6 (.slice A l.length c) l.length (insCells l)) : insRow w l A := fun j hj => by
  obtain ⟨g, e, _⟩ := ins_at h hj
  refine ⟨g, 0, e, fun m u hu => ?_⟩
  have hm : m < 6 := by
    have := (List.getElem?_eq_some_iff.1 hu).1
    simpa [Ins.cells] using this
  obtain ⟨g', e', x⟩ := h.cellA ((insCells_get l j m hj hm).trans hu)
  rw [e] at e'
  simp only [Option.some.injEq, Addr.mk.injEq] at e'
  obtain ⟨e', _⟩ := e'
  subst e'
  rw [Nat.zero_add]
  exact x
set_option maxRecDepth 100000 in
set_option maxHeartbeats 4000000 in
theorem genFits_calls (ss : List Stmt) (A : Option Addr) (c : Nat) (L : Int) (W : World) (hrd : Stmt.rds W ss A 0) (hnl : Stmt.nodesL ss ≤ 10000000) :
    Calls Try.prog 6 #[.slice A ss.length c, .int .i64 L] W (TrueB W) := by
  have HG := Lib.hid (great_calls W ss A c hrd (by omega) W (Below.refl _ _))
  have HC := Lib.hid (fun w h => compile_calls W ss A c hrd (by omega) L w h)
  have HCN := Lib.hid (fun w h => cnt_calls W _ ss A c (Nat.le_refl _) hrd (by omega) w h)
  obtain ⟨r, hr⟩ : ∃ r, genP ss L = r := ⟨_, rfl⟩
  have hlen := genP_len ss L
  have herr : r.2 ≠ 0 → r.1 = [] := fun h => by rw [← hr]; exact genP_err (by rw [hr]; exact h)
  have hok : r.2 = 0 → checkP r.1 L = (0, 0) ∧ Stmt.cntL ss < r.1.length ∧ ∃ m, r.1 = m ++ [⟨1, 0, 0, 0, 0, 0⟩] := fun h => by
    have h' : genP ss L = (r.1, 0) := by rw [hr, ← h]
    obtain ⟨_, h2, _, h4⟩ := fits_plain h'
    exact ⟨fits_check h', h2, h4⟩
  rw [hr] at HC hlen
  have HER := Lib.hid herr
  have HOK := Lib.hid hok
  clear hrd hnl hr herr hok
  go_enter Try.func6, Try.ntmps6
  go_wp2_with fail
  refine HG.out.mono ?_
  rintro y w1 ⟨b, rfl, hb1⟩
  have HB1 := Lib.hid hb1
  clear hb1
  cases b with
  | true =>
    go_wp2
    go_ret
    exact ⟨rfl, HB1.out⟩
  | false =>
    go_wp2_with fail
    refine (HC.out w1 HB1.out).mono ?_
    rintro E w2 ⟨hb2, V2, rfl, hrow2, hown2⟩
    obtain ⟨A2, c2, hV, hc2⟩ := hrow2.slice
    subst hV
    have HB2 := Lib.hid (HB1.out.trans (hb2.mono HB1.out.size))
    have HR2 := Lib.hid hrow2
    clear hb2 hrow2 hown2
    by_cases q1 : r.2 = 0
    · obtain ⟨k1, k2, m, k3⟩ := HOK.out q1
      have hchk := fun h => insCheck_calls w2 r.1 A2 c2 L (rowIns HR2.out) (by omega) w2 h
      rw [k1] at hchk
      have hn1 : r.1.length = m.length + 1 := by rw [k3]; simp
      rw [hn1] at hchk
      have HCK := Lib.hid hchk
      have hk : (r.1[m.length]'(by omega)).kind = 1 := by
        have : r.1[m.length]? = some ⟨1, 0, 0, 0, 0, 0⟩ := by rw [k3]; simp
        rw [List.getElem?_eq_getElem (by omega)] at this
        rw [Option.some.inj this]
      obtain ⟨cn, hcn⟩ : ∃ cn, (Stmt.cntL ss : Int) = cn := ⟨_, rfl⟩
      rw [hcn] at HCN
      have hgt : (m.length : Int) + 1 > cn := by omega
      have hm0 : (0 : Int) ≤ (m.length : Int) := by omega
      have hm1 : (m.length : Int) < (m.length : Int) + 1 := by omega
      have HN1 := Lib.hid hn1
      have HKD := Lib.hid hk
      rw [q1]
      clear q1 k1 k2 k3 hchk hk hcn
      go_wp2_with fail
      refine (HCK.out (Below.refl _ _)).mono ?_
      rintro E w3 ⟨rfl, hb3⟩
      have HB3 := Lib.hid (HB2.out.trans (hb3.mono HB2.out.size))
      have HR3 := Lib.hid (HR2.out.below hb3)
      clear hb3
      go_wp2_with fail
      refine (HCN.out w3 HB3.out).mono ?_
      rintro E w4 ⟨rfl, hb4⟩
      have HB4 := Lib.hid (HB3.out.trans (hb4.mono HB3.out.size))
      have hr4 := HR3.out.below hb4
      obtain ⟨g, e, x0, _⟩ := ins_at hr4 (k := m.length) (by have := HN1.out; omega)
      subst e
      rw [HKD.out] at x0
      clear hb4 hr4
      go_wp2_with fail
      refine (aliveG_calls w4).mono ?_
      rintro E wz ⟨rfl, hbz⟩
      go_wp2
      go_ret
      exact ⟨rfl, HB4.out.trans (hbz.mono HB4.out.size)⟩
    · have hnil := HER.out q1
      have q1b : (r.2 != 0) = true := by simp [q1]
      have hz : r.1.length = 0 := by rw [hnil]; rfl
      rw [hz]
      clear q1 hnil hz
      go_wp2_with fail
      refine (aliveG_calls w2).mono ?_
      rintro E wz ⟨rfl, hbz⟩
      go_wp2
      go_ret
      exact ⟨rfl, HB2.out.trans (hbz.mono HB2.out.size)⟩
end Go.Proofs.Ytjlnpppjkdcpkaa.My
