/- EvalBounds: what has ended ends so with every greater bound; with a lesser one what is put out is a beginning. Conditions: the arguments lie in memory. -/
import Derived.Test.YtjlnpppjkdcpkaaEvK
import Derived.Test.YtjlnpppjkdcpkaaEvF
namespace Go.Proofs.Ytjlnpppjkdcpkaa.My
open Go.RowKit Go.Proofs.Ytjlnpppjkdcpkaa.NumA
set_option linter.unusedVariables false
set_option linter.unusedSimpArgs false
def TrueB (W : World) (e : Ending) (w' : World) : Prop := e = .returned (.bool true) ∧ Below W.heap.size W w'
theorem numRow.front {w : World} {l m : List Int} {A : Option Addr} (h : numRow w l A) (hp : m <+: l) : numRow w m A := fun j hj => by
  obtain ⟨x, rfl⟩ := hp
  obtain ⟨b, o, h1, h2⟩ := h j (by simp; omega)
  refine ⟨b, o, h1, ?_⟩
  rw [h2, List.getElem_append_left hj]
theorem intoCells_app : ∀ (l m : List (Int × Int)), intoCells (l ++ m) = intoCells l ++ intoCells m
  | [], m => rfl
  | x :: l, m => by simp [intoCells, intoCells_app l m]
theorem intoCells_len : ∀ l : List (Int × Int), (intoCells l).length = l.length * 2
  | [] => rfl
  | x :: l => by simp [intoCells, intoCells_len l]; omega
theorem Row.front {w : World} {l m : List (Int × Int)} {A : Option Addr} {c : Nat} (h : Row w 98 2 (.slice A l.length c) l.length (intoCells l)) (hp : m <+: l) : Row w 98 2 (.slice A m.length c) m.length (intoCells m) := by
  obtain ⟨x, rfl⟩ := hp
  refine ⟨intoCells_len m, ?_⟩
  rcases h.2 with ⟨h2, h3⟩ | ⟨g, cap, cur, h2, hg, h3, h4, h5, h6⟩
  · simp only [List.length_append] at h3
    have hm : m.length = 0 := by omega
    injection h2 with e1 _ e3
    subst e1; subst e3
    exact .inl ⟨by rw [hm], hm⟩
  · injection h2 with e1 _ e3
    subst e1; subst e3
    simp only [List.length_append] at h3 h6
    refine .inr ⟨g, c, cur, rfl, hg, by omega, h4, h5, ?_⟩
    rw [intoCells_app] at h6
    have : (cur.toList.take ((m.length + x.length) * 2)).take (m.length * 2) = intoCells m := by rw [h6, List.take_left' (intoCells_len m)]
    rwa [List.take_take, Nat.min_eq_left (by omega)] at this
set_option maxRecDepth 100000 in
set_option maxHeartbeats 4000000 in
theorem evalBounds_calls (ss : List Stmt) (A : Option Addr) (c : Nat) (L : Int) (mem : List Int) (AM : Option Addr) (cM : Nat) (n i k B less : Int) (W : World) (hrd : Stmt.rds W ss A 0) (hnl : Stmt.nodesL ss ≤ 1000000000) (hm : numRow W mem AM) (hml : mem.length ≤ 1000000000) :
    Calls Try.prog 8 #[.agg #[.slice A ss.length c, .int .i64 L, .slice AM mem.length cM, .int .i64 n, .int .i64 i, .int .i64 k, .int .i64 B], .int .i64 less] W (TrueB W) := by
  have hx := blk_new W (.cells #[.slice A ss.length c, .int .i64 L, .slice AM mem.length cM, .int .i64 n, .int .i64 i, .int .i64 k, .int .i64 B] 50)
  have hb : Below W.heap.size W (W.alloc (.cells #[.slice A ss.length c, .int .i64 L, .slice AM mem.length cM, .int .i64 n, .int .i64 i, .int .i64 k, .int .i64 B] 50)) := (Below.refl W.heap.size W).al
  obtain ⟨w1, hw1⟩ : ∃ w1, W.alloc (.cells #[.slice A ss.length c, .int .i64 L, .slice AM mem.length cM, .int .i64 n, .int .i64 i, .int .i64 k, .int .i64 B] 50) = w1 := ⟨_, rfl⟩
  rw [hw1] at hx hb
  have hG := great7_bd W ss A c hrd hnl L AM mem.length cM n i k B w1 hb
  have HG := Lib.hid hG
  have HW := Lib.hid hw1
  have HX := Lib.hid hx
  have HB := Lib.hid hb
  have HRD := Lib.hid hrd
  have HM := Lib.hid hm
  have HNL := Lib.hid hnl
  clear hG hw1 hx hb hrd hm hnl
  go_enter Try.func8, Try.ntmps8
  go_wp2_with fail
  rw [HW.out]
  refine HG.out.mono ?_
  rintro y w2 ⟨b, rfl, hb2, hbd⟩
  have HB2 := Lib.hid (HB.out.trans (hb2.mono HB.out.size))
  have HX2 := Lib.hid (below_blk hb2 HX.out (blk_lt HX.out))
  have hsz1 : w1.heap.size = W.heap.size + 1 := by rw [← HW.out, size_al]
  have hsz2 : W.heap.size + 1 ≤ w2.heap.size := by have := hb2.size; omega
  clear hb2
  cases b with
  | true =>
    go_wp2_with fail
    refine (aliveE_calls w2).mono ?_
    rintro E wz ⟨rfl, hbz⟩
    go_wp2
    go_ret
    exact ⟨rfl, HB2.out.trans (hbz.mono HB2.out.size)⟩
  | false =>
    have hB20 := hbd rfl
    clear hbd
    have k6 := blk_cell HX2.out 6
    by_cases h1 : less < 0
    · clear k6
      go_wp2_with fail
      refine (aliveE_calls w2).mono ?_
      rintro E wz ⟨rfl, hbz⟩
      go_wp2
      go_ret
      exact ⟨rfl, HB2.out.trans (hbz.mono HB2.out.size)⟩
    · by_cases h2 : B < less
      ·
        go_wp2_with fail
        refine (aliveE_calls w2).mono ?_
        rintro E wz ⟨rfl, hbz⟩
        go_wp2
        go_ret
        exact ⟨rfl, HB2.out.trans (hbz.mono HB2.out.size)⟩
      · have hl0 : 0 ≤ less := by omega
        have hlB : less ≤ B := by omega
        have k0 := blk_cell HX2.out 0
        have k1 := blk_cell HX2.out 1
        have k2 := blk_cell HX2.out 2
        have k3 := blk_cell HX2.out 3
        have k4 := blk_cell HX2.out 4
        have k5 := blk_cell HX2.out 5
        have hrun1 := run_u W ss A c HRD.out HNL.out L mem AM cM n i k less w2 HB2.out (HM.out.below HB2.out) (by unfold maxLen; omega)
        have hrun2 := fun w8 h8 => run_u W ss A c HRD.out HNL.out L mem AM cM n i k B w8 h8 (HM.out.below h8) (by unfold maxLen; omega)
        have HRUN1 := Lib.hid hrun1
        have HRUN2 := Lib.hid hrun2
        clear hrun1 hrun2
        go_wp2_with fail
        refine HRUN1.out.mono ?_
        rintro E w8 ⟨rP, M, O, I, hb8, hran, hout, hE⟩
        obtain ⟨e, he⟩ : ∃ e, rP.code = e := ⟨_, rfl⟩
        rw [he] at hE
        subst hE
        have HRAN1 := Lib.hid hran
        have HOUT := Lib.hid hout
        have HB8 := Lib.hid (HB2.out.trans (hb8.mono HB2.out.size))
        have hz8 := hb8.size
        obtain ⟨P5, p5, hM, _⟩ := hout.mem.slice
        obtain ⟨P6, p6, hO, _⟩ := hout.outs.slice
        obtain ⟨P7, p7, hI, _⟩ := hout.intos.slice
        subst hM hO hI
        have hx9 := blk_alloc (below_blk hb8 HX2.out (blk_lt HX2.out)) (.cells #[.slice P5 rP.S.mem.length p5, .slice P6 rP.S.outs.length p6, .slice P7 rP.S.intos.length p7, .int .i64 rP.ov, .int .i64 rP.va, .int .i64 rP.st] 55)
        have g0 := blk_cell hx9 0
        have g1 := blk_cell hx9 1
        have g2 := blk_cell hx9 2
        have g3 := blk_cell hx9 3
        have g4 := blk_cell hx9 4
        have g5 := blk_cell hx9 5
        have g6 := blk_cell hx9 6
        clear hb8 hran hout k0 k1 k2 k3 k4 k5 k6 hx9
        go_wp2_with fail
        clear g0 g1 g2 g3 g4 g5 g6
        obtain ⟨w9, hw9⟩ : ∃ w9, w8.alloc (.cells #[.slice P5 rP.S.mem.length p5, .slice P6 rP.S.outs.length p6, .slice P7 rP.S.intos.length p7, .int .i64 rP.ov, .int .i64 rP.va, .int .i64 rP.st] 55) = w9 := ⟨_, rfl⟩
        have hz9 : w9.heap.size = w8.heap.size + 1 := by rw [← hw9, size_al]
        have hb9 : Below w8.heap.size w8 w9 := by rw [← hw9]; exact (Below.refl _ _).al
        have hp9 : w9.heap[w8.heap.size]? = some (.cells #[.slice P5 rP.S.mem.length p5, .slice P6 rP.S.outs.length p6, .slice P7 rP.S.intos.length p7, .int .i64 rP.ov, .int .i64 rP.va, .int .i64 rP.st] 55) := by rw [← hw9]; exact blk_new _ _
        rw [hw9]
        have HB9 := Lib.hid (HB8.out.trans (hb9.mono HB8.out.size))
        have HP9 := Lib.hid hp9
        have HO9 := Lib.hid (HOUT.out.below hb9)
        clear hb9 hp9 hw9
        refine (HRUN2.out w9 HB9.out).mono ?_
        rintro E w10 ⟨rQ, M, O, I, hb10, hran, hout, hE⟩
        obtain ⟨hcode, hcases⟩ := bounds_plain hl0 hlB hB20 HRAN1.out hran
        rw [← hcode, he] at hE
        subst hE
        have HOUT2 := Lib.hid hout
        have HB10 := Lib.hid hb10
        have HBT := Lib.hid (HB9.out.trans (hb10.mono HB9.out.size))
        have hz10 := hb10.size
        obtain ⟨Q5, q5, hM, _⟩ := hout.mem.slice
        obtain ⟨Q6, q6, hO, _⟩ := hout.outs.slice
        obtain ⟨Q7, q7, hI, _⟩ := hout.intos.slice
        subst hM hO hI
        clear hb10 hran hout hcode
        have hpa := blk_alloc (below_blk HB10.out HP9.out (blk_lt HP9.out)) (.cells #[.slice Q5 rQ.S.mem.length q5, .slice Q6 rQ.S.outs.length q6, .slice Q7 rQ.S.intos.length q7, .int .i64 rQ.ov, .int .i64 rQ.va, .int .i64 rQ.st] 55)
        have hqa := blk_new w10 (.cells #[.slice Q5 rQ.S.mem.length q5, .slice Q6 rQ.S.outs.length q6, .slice Q7 rQ.S.intos.length q7, .int .i64 rQ.ov, .int .i64 rQ.va, .int .i64 rQ.st] 55)
        have hoa := (HO9.out.below HB10.out).below (Below.refl w10.heap.size w10 |>.al (o := (.cells #[.slice Q5 rQ.S.mem.length q5, .slice Q6 rQ.S.outs.length q6, .slice Q7 rQ.S.intos.length q7, .int .i64 rQ.ov, .int .i64 rQ.va, .int .i64 rQ.st] 55)))
        have hob := HOUT2.out.below (Below.refl w10.heap.size w10 |>.al (o := (.cells #[.slice Q5 rQ.S.mem.length q5, .slice Q6 rQ.S.outs.length q6, .slice Q7 rQ.S.intos.length q7, .int .i64 rQ.ov, .int .i64 rQ.va, .int .i64 rQ.st] 55)))
        have hbt := HBT.out.alloc HBT.out.size (.cells #[.slice Q5 rQ.S.mem.length q5, .slice Q6 rQ.S.outs.length q6, .slice Q7 rQ.S.intos.length q7, .int .i64 rQ.ov, .int .i64 rQ.va, .int .i64 rQ.st] 55)
        by_cases h0 : e = 0
        · subst h0
          obtain ⟨hend, hgo⟩ := hcases he
          clear hcases he
          by_cases hov : rP.ov = 0
          · obtain ⟨s1, s2, s3, s4⟩ := hgo hov
            have a1 := blk_cell hpa 1
            have a2 := blk_cell hpa 2
            have a3 := blk_cell hpa 3
            have a5 := blk_cell hpa 5
            have b1 := blk_cell hqa 1
            have b2 := blk_cell hqa 2
            have b5 := blk_cell hqa 5
            rw [hov] at a3
            rw [s1] at a5
            have d1 : decide (rQ.st < less) = false := by simp; omega
            have hlo := s3.length_le
            have hli := s4.length_le
            have d2 : decide ((rQ.S.outs.length : Int) < (rP.S.outs.length : Int)) = false := by simp; omega
            have d3 : decide ((rQ.S.intos.length : Int) < (rP.S.intos.length : Int)) = false := by simp; omega
            have hrow := rowN_same _ rP.S.outs _ _ p6 q6 hoa.outs.numRow (hob.outs.numRow.front s3) hoa.outs.bound
            have HROW := Lib.hid hrow
            have HOA := Lib.hid hoa
            have HOB := Lib.hid hob
            have HBT2 := Lib.hid hbt
            have HPA := Lib.hid hpa
            have HQA := Lib.hid hqa
            clear hrow hoa hob hbt hend hgo hpa hqa
            go_wp2_with fail
            obtain ⟨w11, hw11⟩ : ∃ w11, w10.alloc (.cells #[.slice Q5 rQ.S.mem.length q5, .slice Q6 rQ.S.outs.length q6, .slice Q7 rQ.S.intos.length q7, .int .i64 rQ.ov, .int .i64 rQ.va, .int .i64 rQ.st] 55) = w11 := ⟨_, rfl⟩
            rw [hw11]
            rw [hw11] at a1 a2 b1 b2 HROW HOA HOB HBT2
            clear hw11 a3 a5 b5 d1 d2 d3
            have hq6 : (rP.S.outs.length : Int) ≤ (q6 : Int) := by obtain ⟨_, _, e, h⟩ := HOB.out.outs.slice; injection e with _ _ e; omega
            have hq7 : (rP.S.intos.length : Int) ≤ (q7 : Int) := by obtain ⟨_, _, e, h⟩ := HOB.out.intos.slice; injection e with _ _ e; omega
            refine wp_region_noPanic ?_
            refine wp_region_held_drew (S := fun V => Below w11.heap.size w11 V) (by kernel_rfl) (Below.refl _ _).drew (fun hHeld => ?_)
            refine wpAnyH_take (i := 0) (oi := ⟨some 95, _, _, _, _, _⟩) (v := .pointer (some ⟨w8.heap.size, 1, none⟩)) rfl (by kernel_rfl) (by kernel_rfl) (by kernel_rfl) (fun _ _ _ h => h) (Or.inl ⟨by rfl, fun V hV => by go_simp⟩) (by assumption) ?_
            try simp only [Act.put, List.setIfInBounds_toArray, List.set_cons_zero, List.set_cons_succ]
            refine wpAnyH_take (i := 1) (oi := ⟨some 96, _, _, _, _, _⟩) (v := .slice P6 rP.S.outs.length p6) rfl (by kernel_rfl) (by kernel_rfl) (by kernel_rfl) (fun _ _ _ h => h) (Or.inl ⟨by rfl, fun V hV => by have q9 := hV.cellOf a1; go_simp⟩) (by assumption) ?_
            try simp only [Act.put, List.setIfInBounds_toArray, List.set_cons_zero, List.set_cons_succ]
            refine wpAnyH_take (i := 2) (oi := ⟨some 97, _, _, _, _, _⟩) (v := .pointer (some ⟨w10.heap.size, 1, none⟩)) rfl (by kernel_rfl) (by kernel_rfl) (by kernel_rfl) (fun _ _ _ h => h) (Or.inl ⟨by rfl, fun V hV => by go_simp⟩) (by assumption) ?_
            try simp only [Act.put, List.setIfInBounds_toArray, List.set_cons_zero, List.set_cons_succ]
            refine wpAnyH_take (i := 3) (oi := ⟨some 98, _, _, _, _, _⟩) (v := .slice Q6 rQ.S.outs.length q6) rfl (by kernel_rfl) (by kernel_rfl) (by kernel_rfl) (fun _ _ _ h => h) (Or.inl ⟨by rfl, fun V hV => by have q9 := hV.cellOf b1; go_simp⟩) (by assumption) ?_
            try simp only [Act.put, List.setIfInBounds_toArray, List.set_cons_zero, List.set_cons_succ]
            refine wpAnyH_take (i := 4) (oi := ⟨some 99, _, _, _, _, _⟩) (v := .pointer (some ⟨w8.heap.size, 1, none⟩)) rfl (by kernel_rfl) (by kernel_rfl) (by kernel_rfl) (fun _ _ _ h => h) (Or.inl ⟨by rfl, fun V hV => by go_simp⟩) (by assumption) ?_
            try simp only [Act.put, List.setIfInBounds_toArray, List.set_cons_zero, List.set_cons_succ]
            refine wpAnyH_take (i := 5) (oi := ⟨some 100, _, _, _, _, _⟩) (v := .slice P6 rP.S.outs.length p6) rfl (by kernel_rfl) (by kernel_rfl) (by kernel_rfl) (fun _ _ _ h => h) (Or.inl ⟨by rfl, fun V hV => by have q9 := hV.cellOf a1; go_simp⟩) (by assumption) ?_
            try simp only [Act.put, List.setIfInBounds_toArray, List.set_cons_zero, List.set_cons_succ]
            refine wpAnyH_take (i := 6) (oi := ⟨some 101, _, _, _, _, _⟩) (v := .int .i64 rP.S.outs.length) rfl (by kernel_rfl) (by kernel_rfl) (by kernel_rfl) (fun _ _ _ h => h) (Or.inl ⟨by rfl, fun V hV => by go_simp⟩) (by assumption) ?_
            try simp only [Act.put, List.setIfInBounds_toArray, List.set_cons_zero, List.set_cons_succ]
            refine wpAnyH_take (i := 7) (oi := ⟨some 102, _, _, _, _, _⟩) (v := .slice Q6 rP.S.outs.length q6) rfl (by kernel_rfl) (by kernel_rfl) (by kernel_rfl) (fun _ _ _ h => h) (Or.inl ⟨by rfl, fun V hV => by go_simp⟩) (by assumption) ?_
            try simp only [Act.put, List.setIfInBounds_toArray, List.set_cons_zero, List.set_cons_succ]
            refine wpAnyH_ready (rs := [8]) (by kernel_rfl) (by simp) ?_
            refine AllReadyH.cons (o := ⟨some 103, _, _, _, _, _⟩) rfl (fun K hK => ?_) AllReadyH.nil
            go_simp
            refine (rowN_same _ rP.S.outs _ _ p6 q6 (HOA.out.below hHeld).outs.numRow ((HOB.out.below hHeld).outs.numRow.front s3) HOA.out.outs.bound).mono ?_
            rintro y wx ⟨rfl, hbx⟩
            refine hK.out _ _ (hHeld.trans (hbx.mono hHeld.size)) (fun hHeld' => ?_)
            clear hK K hHeld
            have hHeld := hHeld'
            clear hHeld'
            try simp only [Act.put, List.setIfInBounds_toArray, List.set_cons_zero, List.set_cons_succ]
            refine wpAnyH_take (i := 9) (oi := ⟨some 104, _, _, _, _, _⟩) (v := .bool true) rfl (by kernel_rfl) (by kernel_rfl) (by kernel_rfl) (fun _ _ _ h => h) (Or.inl ⟨by rfl, fun V hV => by go_simp⟩) (by assumption) ?_
            try simp only [Act.put, List.setIfInBounds_toArray, List.set_cons_zero, List.set_cons_succ]
            refine wpAnyH_take (i := 10) (oi := ⟨some 105, _, _, _, _, _⟩) (v := .pointer (some ⟨w8.heap.size, 2, none⟩)) rfl (by kernel_rfl) (by kernel_rfl) (by kernel_rfl) (fun _ _ _ h => h) (Or.inl ⟨by rfl, fun V hV => by go_simp⟩) (by assumption) ?_
            try simp only [Act.put, List.setIfInBounds_toArray, List.set_cons_zero, List.set_cons_succ]
            refine wpAnyH_take (i := 11) (oi := ⟨some 106, _, _, _, _, _⟩) (v := .slice P7 rP.S.intos.length p7) rfl (by kernel_rfl) (by kernel_rfl) (by kernel_rfl) (fun _ _ _ h => h) (Or.inl ⟨by rfl, fun V hV => by have q9 := hV.cellOf a2; go_simp⟩) (by assumption) ?_
            try simp only [Act.put, List.setIfInBounds_toArray, List.set_cons_zero, List.set_cons_succ]
            refine wpAnyH_take (i := 12) (oi := ⟨some 107, _, _, _, _, _⟩) (v := .pointer (some ⟨w10.heap.size, 2, none⟩)) rfl (by kernel_rfl) (by kernel_rfl) (by kernel_rfl) (fun _ _ _ h => h) (Or.inl ⟨by rfl, fun V hV => by go_simp⟩) (by assumption) ?_
            try simp only [Act.put, List.setIfInBounds_toArray, List.set_cons_zero, List.set_cons_succ]
            refine wpAnyH_take (i := 13) (oi := ⟨some 108, _, _, _, _, _⟩) (v := .slice Q7 rQ.S.intos.length q7) rfl (by kernel_rfl) (by kernel_rfl) (by kernel_rfl) (fun _ _ _ h => h) (Or.inl ⟨by rfl, fun V hV => by have q9 := hV.cellOf b2; go_simp⟩) (by assumption) ?_
            try simp only [Act.put, List.setIfInBounds_toArray, List.set_cons_zero, List.set_cons_succ]
            refine wpAnyH_take (i := 14) (oi := ⟨some 109, _, _, _, _, _⟩) (v := .pointer (some ⟨w8.heap.size, 2, none⟩)) rfl (by kernel_rfl) (by kernel_rfl) (by kernel_rfl) (fun _ _ _ h => h) (Or.inl ⟨by rfl, fun V hV => by go_simp⟩) (by assumption) ?_
            try simp only [Act.put, List.setIfInBounds_toArray, List.set_cons_zero, List.set_cons_succ]
            refine wpAnyH_take (i := 15) (oi := ⟨some 110, _, _, _, _, _⟩) (v := .slice P7 rP.S.intos.length p7) rfl (by kernel_rfl) (by kernel_rfl) (by kernel_rfl) (fun _ _ _ h => h) (Or.inl ⟨by rfl, fun V hV => by have q9 := hV.cellOf a2; go_simp⟩) (by assumption) ?_
            try simp only [Act.put, List.setIfInBounds_toArray, List.set_cons_zero, List.set_cons_succ]
            refine wpAnyH_take (i := 16) (oi := ⟨some 111, _, _, _, _, _⟩) (v := .int .i64 rP.S.intos.length) rfl (by kernel_rfl) (by kernel_rfl) (by kernel_rfl) (fun _ _ _ h => h) (Or.inl ⟨by rfl, fun V hV => by go_simp⟩) (by assumption) ?_
            try simp only [Act.put, List.setIfInBounds_toArray, List.set_cons_zero, List.set_cons_succ]
            refine wpAnyH_take (i := 17) (oi := ⟨some 112, _, _, _, _, _⟩) (v := .slice Q7 rP.S.intos.length q7) rfl (by kernel_rfl) (by kernel_rfl) (by kernel_rfl) (fun _ _ _ h => h) (Or.inl ⟨by rfl, fun V hV => by go_simp⟩) (by assumption) ?_
            try simp only [Act.put, List.setIfInBounds_toArray, List.set_cons_zero, List.set_cons_succ]
            refine wpAnyH_ready (rs := [18]) (by kernel_rfl) (by simp) ?_
            refine AllReadyH.cons (o := ⟨some 113, _, _, _, _, _⟩) rfl (fun K hK => ?_) AllReadyH.nil
            go_simp
            refine (intos_same _ rP.S.intos _ _ (HOA.out.below hHeld).intos ((HOB.out.below hHeld).intos.front s4)).mono ?_
            rintro y wy ⟨rfl, hby⟩
            refine hK.out _ _ (hHeld.trans (hby.mono hHeld.size)) (fun hHeld' => ?_)
            clear hK K hHeld
            have hHeld := hHeld'
            clear hHeld'
            try simp only [Act.put, List.setIfInBounds_toArray, List.set_cons_zero, List.set_cons_succ]
            refine wpAnyH_take (i := 19) (oi := ⟨some 114, _, _, _, _, _⟩) (v := .bool true) rfl (by kernel_rfl) (by kernel_rfl) (by kernel_rfl) (fun _ _ _ h => h) (Or.inl ⟨by rfl, fun V hV => by go_simp⟩) (by assumption) ?_
            try simp only [Act.put, List.setIfInBounds_toArray, List.set_cons_zero, List.set_cons_succ]
            refine wpAnyH_take (i := 20) (oi := ⟨some 115, _, _, _, _, _⟩) (v := .bool true) rfl (by kernel_rfl) (by kernel_rfl) (by kernel_rfl) (fun _ _ _ h => h) (Or.inl ⟨by rfl, fun V hV => by go_simp⟩) (by assumption) ?_
            try simp only [Act.put, List.setIfInBounds_toArray, List.set_cons_zero, List.set_cons_succ]
            refine wpAnyH_ready (rs := [21]) (by kernel_rfl) (by simp) ?_
            refine AllReadyH.cons (o := ⟨some 116, _, _, _, _, _⟩) rfl (fun K hK => ?_) AllReadyH.nil
            go_simp
            refine (aliveE_calls _).mono ?_
            rintro y wz ⟨rfl, hbz⟩
            refine hK.out _ _ (hHeld.trans (hbz.mono hHeld.size)) (fun hHeld' => ?_)
            clear hK K hHeld
            have hHeld := hHeld'
            clear hHeld'
            try simp only [Act.put, List.setIfInBounds_toArray, List.set_cons_zero, List.set_cons_succ]
            refine wpAnyH_take (i := 22) (oi := ⟨some 117, _, _, _, _, _⟩) (v := .bool true) rfl (by kernel_rfl) (by kernel_rfl) (by kernel_rfl) (fun _ _ _ h => h) (Or.inl ⟨by rfl, fun V hV => by go_simp⟩) (by assumption) ?_
            try simp only [Act.put, List.setIfInBounds_toArray, List.set_cons_zero, List.set_cons_succ]
            refine wpAnyH_take (i := 23) (oi := ⟨some 4, _, _, _, _, _⟩) (v := .bool true) rfl (by kernel_rfl) (by kernel_rfl) (by kernel_rfl) (fun _ _ _ h => h) (Or.inl ⟨by rfl, fun V hV => by go_simp⟩) (by assumption) ?_
            try simp only [Act.put, List.setIfInBounds_toArray, List.set_cons_zero, List.set_cons_succ]
            refine wpAnyH_done (by kernel_rfl) ?_ _
            refine NoPanic.normal ?_
            go_wp2
            go_ret
            exact ⟨rfl, HBT2.out.trans (hHeld.mono HBT2.out.size)⟩
          · obtain rfl := hend hov
            have hnov : (rP.ov != 0) = true := by simpa using hov
            clear hend hgo hov
            have HSAME := Lib.hid (same_calls _ rP.S _ _ _ _ _ _ rP.ov rP.va rP.st hoa.rows hob.rows)
            have HBT2 := Lib.hid hbt
            have a0 := blk_cell hpa 0
            have b0 := blk_cell hqa 0
            have a1 := blk_cell hpa 1
            have b1 := blk_cell hqa 1
            have a2 := blk_cell hpa 2
            have b2 := blk_cell hqa 2
            have a3 := blk_cell hpa 3
            have b3 := blk_cell hqa 3
            have a4 := blk_cell hpa 4
            have b4 := blk_cell hqa 4
            have a5 := blk_cell hpa 5
            have b5 := blk_cell hqa 5
            clear hpa hqa hoa hob hbt
            go_wp2_with fail
            refine HSAME.out.mono ?_
            rintro E wx ⟨rfl, hbx⟩
            have HBx := Lib.hid (HBT2.out.trans (hbx.mono HBT2.out.size))
            clear hbx a0 a1 a2 a3 a4 a5 b0 b1 b2 b3 b4 b5
            go_wp2_with fail
            refine (aliveE_calls wx).mono ?_
            rintro E wz ⟨rfl, hbz⟩
            go_wp2
            go_ret
            exact ⟨rfl, HBx.out.trans (hbz.mono HBx.out.size)⟩
        · have hne : (e != 0) = true := by simpa using h0
          have HBT2 := Lib.hid hbt
          clear hpa hqa hoa hob hbt hcases he
          go_wp2_with fail
          refine (aliveE_calls _).mono ?_
          rintro E wz ⟨rfl, hbz⟩
          go_wp2
          go_ret
          exact ⟨rfl, HBT2.out.trans (hbz.mono HBT2.out.size)⟩
end Go.Proofs.Ytjlnpppjkdcpkaa.My
