/- GenMakes: each text has the document's instructions, or an error. Conditions: the arguments lie in memory. -/
import Derived.Test.YtjlnpppjkdcpkaaGmGnUe
import Derived.Test.YtjlnpppjkdcpkaaGmGnUf
import Derived.Test.YtjlnpppjkdcpkaaGmGnUg
import Derived.Test.YtjlnpppjkdcpkaaGmDr0
import Derived.Test.YtjlnpppjkdcpkaaGmDrM
import Derived.Test.YtjlnpppjkdcpkaaGmGnA
import Derived.Test.YtjlnpppjkdcpkaaGmEvU
namespace Go.Proofs.Ytjlnpppjkdcpkaa.My
open Go.RowKit Go.Maps Go.Proofs.Ytjlnpppjkdcpkaa.NumA
set_option linter.unusedVariables false
set_option linter.unusedSimpArgs false
theorem done_all (W : World) (N : Nat) : DOneIH W N := by
  induction N with
  | zero => intro s A0 c0 A1 c1 A2 c2 d hN; have := s.nodes_eq; omega
  | succ N ih =>
    intro s A0 c0 A1 c1 A2 c2 d hN hrd hrd1 hrd2 hr hl th V w hB hth htl
    have hk := (Stmt.right_parts hr).1
    have hk' : s.kind = 1 ∨ s.kind = 2 ∨ s.kind = 3 ∨ s.kind = 4 ∨ s.kind = 5 ∨ s.kind = 6 ∨ s.kind = 7 ∨ s.kind = 8 ∨ s.kind = 9 := by omega
    rcases hk' with h | h | h | h | h | h | h | h | h
    · exact done_named W N ih s A0 c0 A1 c1 A2 c2 d hN hrd hrd1 hrd2 hr hl th V w hB hth htl (.inl h)
    · exact done_named W N ih s A0 c0 A1 c1 A2 c2 d hN hrd hrd1 hrd2 hr hl th V w hB hth htl (.inr h)
    · exact done_3 W N ih s A0 c0 A1 c1 A2 c2 d hN hrd hrd1 hrd2 hr hl th V w hB hth htl h
    · exact done_4 W N ih s A0 c0 A1 c1 A2 c2 d hN hrd hrd1 hrd2 hr hl th V w hB hth htl h
    · exact done_5 W N ih s A0 c0 A1 c1 A2 c2 d hN hrd hrd1 hrd2 hr hl th V w hB hth htl h
    · exact done_6 W N ih s A0 c0 A1 c1 A2 c2 d hN hrd hrd1 hrd2 hr hl th V w hB hth htl h
    · exact done_7 W N ih s A0 c0 A1 c1 A2 c2 d hN hrd hrd1 hrd2 hr hl th V w hB hth htl h
    · exact done_8 W N ih s A0 c0 A1 c1 A2 c2 d hN hrd hrd1 hrd2 hr hl th V w hB hth htl h
    · exact done_stop W N ih s A0 c0 A1 c1 A2 c2 d hN hrd hrd1 hrd2 hr hl th V w hB hth htl h
theorem genP_M {ss : List Stmt} {L : Int} (hr : rightP nameB ss = true) (hs : (slotsP ss L).2 = 0) : genP ss L = if (blockM ⟨[], [], false⟩ ss).deep = true then ([], 100) else if 600 < (blockM ⟨[], [], false⟩ ss).l.length + 1 then ([], 80) else ((blockM ⟨[], [], false⟩ ss).l ++ [⟨1, 0, 0, 0, 0, 0⟩], 0) := by
  rw [genP_doc hr hs]
  simp only [rightP, Bool.and_eq_true, decide_eq_true_eq] at hr
  have h := (blockM_D ss [] [] hr.1 (by simp; omega)).nil
  cases hb : blockD [] ss with
  | none =>
    rw [hb] at h
    have h' : (blockM ⟨[], [], false⟩ ss).deep = true := h
    rw [if_pos h']
  | some r =>
    rw [hb] at h
    obtain ⟨h1, _⟩ := h
    rw [h1, if_neg (by simp)]
set_option maxRecDepth 100000 in
set_option maxHeartbeats 8000000 in
theorem dcompile_calls (W : World) (ss : List Stmt) (A : Option Addr) (c : Nat) (hrd : Stmt.rds W ss A 0) (hnl : Stmt.nodesL ss ≤ 1000000000) (L : Int) (w : World) (hB : Below W.heap.size W w) :
    Calls Try.prog 14 #[.slice A ss.length c, .int .i64 L] w (GenTo w (genP ss L)) := by
  have HRI := Lib.hid (docRight_calls W ss A c hrd hnl w hB)
  have HSL := Lib.hid (fun w1 (h : Below w.heap.size w w1) => rslots_calls W ss A c L hrd hnl w1 (hB.trans (h.mono hB.size)))
  have HRD := Lib.hid hrd
  have HBW := Lib.hid hB
  clear hrd hnl hB
  by_cases hr : rightP nameB ss = false
  · have HQ := Lib.hid (show genP ss L = ([], 43) by simp [genP, hr])
    have HR := Lib.hid hr
    clear hr
    go_enter Try.func14, Try.ntmps14
    go_wp2_with fail
    refine HRI.out.mono ?_
    rintro y w1 ⟨rfl, hb1⟩
    rw [HR.out]
    have HB1 := Lib.hid hb1
    clear hb1
    go_wp2
    go_ret2
    rw [HQ.out]
    exact ⟨HB1.out, _, rfl, Row.nil _ _ _, fun g hg => by simp [Value.ownBlock] at hg⟩
  · have hrt : rightP nameB ss = true := by simpa using hr
    have HR := Lib.hid hrt
    by_cases hs : (slotsP ss L).2 = 0
    · have hgp := genP_M hrt hs
      have HS := Lib.hid hs
      have hnp : Stmt.nodesL ss ≤ 600 := by
        simp only [rightP, Bool.and_eq_true, decide_eq_true_eq] at hrt; exact hrt.2
      have hrs : Stmt.rightsB nameB 0 ss = true := by
        simp only [rightP, Bool.and_eq_true, decide_eq_true_eq] at hrt; exact hrt.1
      have hml := (blockM_len ss ⟨[], [], false⟩ hrs).1
      have HBL := Lib.hid (fun w2 (h : Below w.heap.size w w2) => dblock_of W _ (done_all W (Stmt.nodesL ss)) ss A c 0 (Nat.le_refl _) HRD.out hrs (by omega) [] (.slice none 0 0) w2 (HBW.out.trans (h.mono HBW.out.size)) (Row.nil _ _ _) (by simp; omega))
      obtain ⟨m, hm⟩ : ∃ m, blockM ⟨[], [], false⟩ ss = m := ⟨_, rfl⟩
      rw [hm] at hgp hml HBL
      simp only [List.length_nil, Nat.zero_add] at hml
      have hml' : m.l.length ≤ 1800 := by omega
      have HGP := Lib.hid hgp
      clear hr hrt hs hgp hrs hm hml hnp
      go_enter Try.func14, Try.ntmps14
      go_wp2_with fail
      refine HRI.out.mono ?_
      rintro y w1 ⟨rfl, hb1⟩
      rw [HR.out]
      have HB1 := Lib.hid hb1
      clear hb1
      go_wp2_with fail
      refine (HSL.out w1 HB1.out).mono ?_
      rintro y w2 ⟨v, rfl, _, hb2⟩
      rw [HS.out]
      have HB2 := Lib.hid (HB1.out.trans (hb2.mono HB1.out.size))
      clear hb2
      go_wp2_with fail
      refine (HBL.out w2 HB2.out).mono ?_
      intro E w3 hd
      obtain ⟨MA, mc, UA, uc, rfl, hb3, hr3, hrt3, ho3⟩ := hd.split
      have HB3 := Lib.hid (HB2.out.trans (hb3.mono HB2.out.size))
      have HR3 := Lib.hid hr3
      have HO3 := Lib.hid (show ∀ g, (Value.slice MA m.l.length mc).ownBlock = some g → w.heap.size ≤ g from fun g hg => Nat.le_trans HB2.out.size (ho3 g hg))
      clear hd hb3 hr3 hrt3 ho3
      by_cases hdp : m.deep = true
      · have HQ := Lib.hid (show genP ss L = ([], 100) by rw [HGP.out, if_pos hdp])
        rw [hdp]
        go_wp2
        go_ret2
        rw [HQ.out]
        exact ⟨HB3.out.al, _, rfl, Row.nil _ _ _, fun g hg => by simp [Value.ownBlock] at hg⟩
      · have hdf : m.deep = false := by simpa using hdp
        rw [hdf]
        have hq := blk_new w3 (mC (.slice MA m.l.length mc) (.slice UA m.th.length uc) false)
        have hr4 := HR3.out.alloc (mC (.slice MA m.l.length mc) (.slice UA m.th.length uc) false)
        have hb4 := HB3.out.al (o := mC (.slice MA m.l.length mc) (.slice UA m.th.length uc) false)
        obtain ⟨w4, hw4⟩ : ∃ x, w3.alloc (mC (.slice MA m.l.length mc) (.slice UA m.th.length uc) false) = x := ⟨_, rfl⟩
        rw [hw4] at hq hr4 hb4
        unfold mC at hw4
        have HW4 := Lib.hid hw4
        have HQ4 := Lib.hid hq
        have HR4 := Lib.hid hr4
        have HB4 := Lib.hid hb4
        have HNE := Lib.hid (hr4.ne hq (by decide))
        have q0 := blk_cell hq 0
        have q2 := blk_cell hq 2
        have hwz := HB3.out.size
        clear hw4 hq hr4 hb4
        go_upto_region 10 with (first
          | (have tk := HW4; clear tk; rw [HW4.out]; clear HW4)
          | (at_builtin; go_must (refine wpList_append_rows _ rfl _ _ 24 rfl 42 (.agg #[.int .i64 0, .int .i64 0, .int .i64 0, .int .i64 0, .int .i64 0, .int .i64 0]) 6 48 Try.underlying24 info_ins rfl (.slice MA m.l.length mc) m.l.length (insCells m.l) rfl (HR4.out.alloc _) (.slice (some ⟨w4.heap.size, 0, none⟩) 1 1) 1 [.int .i64 1, .int .i64 0, .int .i64 0, .int .i64 0, .int .i64 0, .int .i64 0] rfl (Row.laid (n := 1) (cs := #[.int .i64 1, .int .i64 0, .int .i64 0, .int .i64 0, .int .i64 0, .int .i64 0]) (size := 6) rfl rfl (by decide)) (by simp [Value.oneCell']) (by unfold maxLen; omega) (by omega) ?_); intro v' w' hrow' hgrow hown; obtain ⟨A5, c5, hv', hc'⟩ := hrow'.slice; subst hv'; have hbb := grown_blk hgrow (blk_alloc HQ4.out _) HNE.out; have fb := blk_cell hbb 0; have ff := blk_free hbb))
        have hbk := blk_set hbb 0 (.slice A5 (m.l.length + 1) c5)
        have hb5 := (Below.grown HB4.out.al hgrow (HB4.out.al).size HO3.out).setCell (p := ⟨w3.heap.size, 0, none⟩) hwz (.slice A5 (m.l.length + 1) c5)
        have hr5 := rowSet (b := w3.heap.size) (i := 0) (u := .slice A5 (m.l.length + 1) c5) hrow' (hrow'.ne hbb (by decide))
        have ho5 : ∀ g, (Value.slice A5 (m.l.length + 1) c5).ownBlock = some g → w.heap.size ≤ g := fun g hg => by
          rcases hown with e | e
          · rw [e] at hg; exact HO3.out g hg
          · rw [e] at hg; have := Option.some.inj hg; have := (HB4.out.al (o := .cells #[.int .i64 1, .int .i64 0, .int .i64 0, .int .i64 0, .int .i64 0, .int .i64 0] 42)).size; omega
        have HB5 := Lib.hid hb5
        have HR5 := Lib.hid hr5
        have HO5 := Lib.hid ho5
        clear q0 q2 fb ff hrow' hgrow hown hbb hb5 hr5 ho5
        have q0 := blk_cell hbk 0
        clear hbk
        by_cases h6 : 600 < m.l.length + 1
        · have h6' : (m.l.length : Int) + 1 > 600 := by omega
          have HQ := Lib.hid (show genP ss L = ([], 80) by rw [HGP.out, if_neg hdp, if_pos h6])
          clear h6 hdp hdf
          go_wp2
          go_ret2
          rw [HQ.out]
          exact ⟨HB5.out, _, rfl, Row.nil _ _ _, fun g hg => by simp [Value.ownBlock] at hg⟩
        · have h6' : ¬ ((m.l.length : Int) + 1 > 600) := by omega
          have HQ := Lib.hid (show genP ss L = (m.l ++ [⟨1, 0, 0, 0, 0, 0⟩], 0) by rw [HGP.out, if_neg hdp, if_neg h6])
          clear h6 hdp hdf
          go_wp2
          go_ret2
          rw [HQ.out]
          refine ⟨HB5.out, _, rfl, ?_, HO5.out⟩
          have := HR5.out
          simp only [List.length_append, List.length_singleton, insCells_push]
          exact this
    · have HQ := Lib.hid (show genP ss L = ([], (slotsP ss L).2) by simp [genP, hrt, hs])
      have hs' : ((slotsP ss L).2 != 0) = true := by simpa using hs
      clear hr hrt hs
      go_enter Try.func14, Try.ntmps14
      go_wp2_with fail
      refine HRI.out.mono ?_
      rintro y w1 ⟨rfl, hb1⟩
      rw [HR.out]
      have HB1 := Lib.hid hb1
      clear hb1
      go_wp2_with fail
      refine (HSL.out w1 HB1.out).mono ?_
      rintro y w2 ⟨v, rfl, _, hb2⟩
      have HB2 := Lib.hid (HB1.out.trans (hb2.mono HB1.out.size))
      clear hb2
      go_wp2
      go_ret2
      rw [HQ.out]
      exact ⟨HB2.out, _, rfl, Row.nil _ _ _, fun g hg => by simp [Value.ownBlock] at hg⟩
end Go.Proofs.Ytjlnpppjkdcpkaa.My
namespace Go.Proofs.Ytjlnpppjkdcpkaa.My
open Go.RowKit Go.Proofs.Ytjlnpppjkdcpkaa.NumA
set_option linter.unusedVariables false
set_option linter.unusedSimpArgs false
def TrueB (W : World) (e : Ending) (w' : World) : Prop := e = .returned (.bool true) ∧ Below W.heap.size W w'
end Go.Proofs.Ytjlnpppjkdcpkaa.My
namespace Go.Proofs.Ytjlnpppjkdcpkaa.My
open Go.RowKit Go.Proofs.Ytjlnpppjkdcpkaa.NumA
set_option linter.unusedVariables false
set_option linter.unusedSimpArgs false
set_option maxRecDepth 100000 in
set_option maxHeartbeats 4000000 in
theorem genMakes_calls (ss : List Stmt) (A : Option Addr) (c : Nat) (L : Int) (W : World) (hrd : Stmt.rds W ss A 0) (hnl : Stmt.nodesL ss ≤ 1000000000) :
    Calls Try.prog 3 #[.slice A ss.length c, .int .i64 L] W (TrueB W) := by
  have HG := Lib.hid (great_calls W ss A c hrd hnl W (Below.refl _ _))
  have HC := Lib.hid (fun w h => compile_calls W ss A c hrd hnl L w h)
  have HD := Lib.hid (fun w h => dcompile_calls W ss A c hrd hnl L w h)
  obtain ⟨r, hr⟩ : ∃ r, genP ss L = r := ⟨_, rfl⟩
  rw [hr] at HC HD
  clear hrd hnl hr
  go_enter Try.func3, Try.ntmps3
  go_wp2_with fail
  refine HG.out.mono ?_
  rintro y w1 ⟨b, rfl, hb1⟩
  have HB1 := Lib.hid hb1
  clear hb1
  cases b with
  | true =>
    go_wp2
    go_ret
    exact ⟨rfl, HB1.out⟩
  | false =>
    go_wp2_with fail
    refine (HC.out w1 HB1.out).mono ?_
    rintro E w2 ⟨hb2, V2, rfl, hrow2, hown2⟩
    obtain ⟨A2, c2, hV, _⟩ := hrow2.slice
    subst hV
    have HB2 := Lib.hid (HB1.out.trans (hb2.mono HB1.out.size))
    have HR2 := Lib.hid hrow2
    clear hb2 hrow2 hown2
    go_wp2_with fail
    refine (HD.out w2 HB2.out).mono ?_
    rintro E w3 ⟨hb3, V3, rfl, hrow3, hown3⟩
    obtain ⟨A3, c3, hV, _⟩ := hrow3.slice
    subst hV
    have HB3 := Lib.hid (HB2.out.trans (hb3.mono HB2.out.size))
    have HS := Lib.hid (isame_calls w3 r.1 (.slice A2 r.1.length c2) (.slice A3 r.1.length c3) (HR2.out.below hb3) hrow3)
    clear hb3 hrow3 hown3
    go_wp2_with fail
    refine HS.out.mono ?_
    rintro E w4 ⟨rfl, hb4⟩
    have HB4 := Lib.hid (HB3.out.trans (hb4.mono HB3.out.size))
    clear hb4
    go_wp2_with fail
    refine (aliveG_calls w4).mono ?_
    rintro E w5 ⟨rfl, hb5⟩
    go_wp2
    go_ret
    exact ⟨rfl, HB4.out.trans (hb5.mono HB4.out.size)⟩
end Go.Proofs.Ytjlnpppjkdcpkaa.My
