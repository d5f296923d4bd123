/- gen.Compile walked: a text's instructions, or the error. Conditions: the tree was there in the world W, which is kept. -/
import Derived.Test.YtjlnpppjkdcpkaaGmGnI
namespace Go.Proofs.Ytjlnpppjkdcpkaa.My
open Go.RowKit Go.Proofs.Ytjlnpppjkdcpkaa.NumA
set_option linter.unusedVariables false
set_option linter.unusedSimpArgs false
/-- what a making hands back: the instructions in a row of their own, and the error -/
def GenTo (w : World) (r : List Ins × Int) (E : Ending) (w' : World) : Prop := Below w.heap.size w w' ∧ ∃ V, E = .returned (.tuple #[V, .int .i64 r.2]) ∧ Row w' 42 6 V r.1.length (insCells r.1) ∧ ∀ g, V.ownBlock = some g → w.heap.size ≤ g
theorem genP_ok {ss : List Stmt} {L : Int} (hr : ¬ rightP nameB ss = false) (hs : (slotsP ss L).2 = 0) : genP ss L = match blockG ⟨[], (slotsP ss L).1⟩ ss with
    | none => ([], 100)
    | some G => if 600 < G.out.length + 1 then ([], 80) else (G.out ++ [⟨1, 0, 0, 0, 0, 0⟩], 0) := by
  unfold genP
  rw [if_neg hr, if_neg (by simp [hs])]
  cases blockG ⟨[], (slotsP ss L).1⟩ ss <;> rfl
set_option maxRecDepth 100000 in
set_option maxHeartbeats 4000000 in
theorem compile_calls (W : World) (ss : List Stmt) (A : Option Addr) (c : Nat) (hrd : Stmt.rds W ss A 0) (hnl : Stmt.nodesL ss ≤ 1000000000) (L : Int) (w : World) (hB : Below W.heap.size W w) :
    Calls Try.prog 13 #[.slice A ss.length c, .int .i64 L] w (GenTo w (genP ss L)) := by
  have hmf : ∀ (fn : Fn) (first cap : Array Value) (w : World), (Instr.makeFunc fn first cap).run Try.prog w = .ok (.func fn first cap) w := fun _ _ _ _ => rfl
  have hx0 := blk_alloc (blk_new w (.cells #[.slice none 0 0] 24)) (.cells #[.int .i64 0] 25)
  have hx1 := blk_new (w.alloc (.cells #[.slice none 0 0] 24)) (.cells #[.int .i64 0] 25)
  rw [size_al] at hx1
  have hb0 : Below w.heap.size w ((w.alloc (.cells #[.slice none 0 0] 24)).alloc (.cells #[.int .i64 0] 25)) := ((Below.refl _ _).al).al
  have hz0 : ((w.alloc (.cells #[.slice none 0 0] 24)).alloc (.cells #[.int .i64 0] 25)).heap.size = w.heap.size + 2 := by rw [size_al, size_al]
  obtain ⟨w0, hw0⟩ : ∃ w0, (w.alloc (.cells #[.slice none 0 0] 24)).alloc (.cells #[.int .i64 0] 25) = w0 := ⟨_, rfl⟩
  rw [hw0] at hx0 hx1 hb0 hz0
  have HX0 := Lib.hid hx0
  have HX1 := Lib.hid hx1
  have HB0 := Lib.hid hb0
  have HZ0 := Lib.hid hz0
  have HW := Lib.hid hw0
  have HWS := Lib.hid hB.size
  have HBW := Lib.hid (hB.trans (hb0.mono hB.size))
  have HRI := Lib.hid (right_is W ss A c hrd hnl w0 (hB.trans (hb0.mono hB.size)))
  have HRD := Lib.hid hrd
  have HNL := Lib.hid hnl
  clear hx0 hx1 hb0 hz0 hw0 hrd hnl hB
  by_cases hr : rightP nameB ss = false
  · have HR := Lib.hid hr
    have HQ := Lib.hid (show genP ss L = ([], 43) by simp [genP, hr])
    clear hr
    go_enter_defers Try.func13, Try.ntmps13
    go_wp2_with fail
    rw [HW.out]
    refine HRI.out.mono ?_
    rintro y w1 ⟨rfl, hb1⟩
    rw [HR.out]
    have hy0 := below_blk hb1 HX0.out (blk_lt HX0.out)
    have hy1 := below_blk hb1 HX1.out (blk_lt HX1.out)
    have q0 := blk_cell hy0 0
    have q1 := blk_cell hy1 0
    have p0 := blk_free hy0 0
    have p1 := blk_free hy1 0
    have HB1 := Lib.hid (HB0.out.trans (hb1.mono HB0.out.size))
    have HY0 := Lib.hid hy0
    have HY1 := Lib.hid hy1
    clear hb1 hy0 hy1
    go_wp2
    refine ⟨_, compile_results _ _ w.heap.size (w.heap.size + 1) (.slice none 0 0) 43 rfl rfl (blk_cell (blk_far (blk_set HY0.out 0 (.slice none 0 0)) (show w.heap.size ≠ (⟨w.heap.size + 1, 0, none⟩ : Addr).block by show w.heap.size ≠ w.heap.size + 1; omega) (.int .i64 43)) 0) (blk_cell (blk_set (blk_far HY1.out (show w.heap.size + 1 ≠ (⟨w.heap.size, 0, none⟩ : Addr).block by show w.heap.size + 1 ≠ w.heap.size; omega) (.slice none 0 0)) 0 (.int .i64 43)) 0), ?_⟩
    rw [HQ.out]
    exact ⟨(HB1.out.setCell (show w.heap.size ≤ w.heap.size from Nat.le_refl _) _).setCell (show w.heap.size ≤ w.heap.size + 1 by omega) _, _, rfl, Row.nil _ _ _, fun g hg => by simp [Value.ownBlock] at hg⟩
  · have hrt : rightP nameB ss = true := by simpa using hr
    have HR := Lib.hid hrt
    have HSL := Lib.hid (fun w1 (h : Below w0.heap.size w0 w1) => slots_calls W ss A c L HRD.out HNL.out w1 (HBW.out.trans (h.mono HBW.out.size)))
    by_cases hs : (slotsP ss L).2 = 0
    · have hsu := slots_use hs
      have hnp : Stmt.nodesL ss ≤ 600 := by
        simp only [rightP, Bool.and_eq_true, decide_eq_true_eq] at hrt; exact hrt.2
      have hrs : Stmt.rightsB nameB 0 ss = true := by
        simp only [rightP, Bool.and_eq_true, decide_eq_true_eq] at hrt; exact hrt.1
      have HRS := Lib.hid hrs
      have HNP := Lib.hid hnp
      have HS0 := Lib.hid hs
      have HSU := Lib.hid hsu
      have hgp := genP_ok hr hs
      obtain ⟨sl, hsl⟩ : ∃ sl, (slotsP ss L).1 = sl := ⟨_, rfl⟩
      rw [hsl] at hgp hsu
      have HSL2 := Lib.hid hsl
      have HGP := Lib.hid hgp
      have HUS := Lib.hid hsu
      have hgrow := fun G h => blockG_grow (G := ⟨[], sl⟩) ss (G' := G) (d := 0) hrs h
      have HGR := Lib.hid hgrow
      clear hr hrt hs hsu hnp hrs hgp hsl hgrow
      cases hx : blockG ⟨[], sl⟩ ss with
      | none =>
        have HN := Lib.hid hx
        have HQ := Lib.hid (show genP ss L = ([], 100) by rw [HGP.out, hx])
        clear hx
        go_enter_defers Try.func13, Try.ntmps13
        go_wp2_with fail
        rw [HW.out]
        refine HRI.out.mono ?_
        rintro y w1 ⟨rfl, hb1⟩
        rw [HR.out]
        have HB01 := Lib.hid hb1
        clear hb1
        go_wp2_with fail
        refine (HSL.out w1 HB01.out).mono ?_
        rintro y w2 ⟨v, rfl, hrow, hb2⟩
        rw [HS0.out]
        rw [HSL2.out] at hrow
        obtain ⟨As, cs, hv, hcs⟩ := hrow.slice
        subst hv
        have hb02 := HB01.out.trans (hb2.mono HB01.out.size)
        have hy0 := below_blk hb02 HX0.out (blk_lt HX0.out)
        have hy1 := below_blk hb02 HX1.out (blk_lt HX1.out)
        have hw3 := blk_set hy1 0 (.int .i64 0)
        have hw30 := blk_far hy0 (show w.heap.size ≠ (⟨w.heap.size + 1, 0, none⟩ : Addr).block by show w.heap.size ≠ w.heap.size + 1; omega) (.int .i64 0)
        have hb3 : Below w.heap.size w (w2.setCell ⟨w.heap.size + 1, 0, none⟩ (.int .i64 0)) := (HB0.out.trans (hb02.mono HB0.out.size)).setCell (show w.heap.size ≤ w.heap.size + 1 by omega) _
        have hbW : Below W.heap.size W (w2.setCell ⟨w.heap.size + 1, 0, none⟩ (.int .i64 0)) := (HBW.out.trans (hb02.mono HBW.out.size)).setCell (show W.heap.size ≤ w.heap.size + 1 by have := HBW.out.size; have := HZ0.out; have := HWS.out; omega) _
        have hrow3 := rowSet (b := w.heap.size + 1) (i := 0) (u := .int .i64 0) hrow (hrow.ne hy1 (by decide))
        have q1 := blk_cell hy1 0
        have p1 := blk_free hy1 0
        have hszs : w2.heap.size = (w2.setCell ⟨w.heap.size + 1, 0, none⟩ (.int .i64 0)).heap.size := by simp [World.setCell]
        obtain ⟨w3, hw3e⟩ : ∃ w3, w2.setCell ⟨w.heap.size + 1, 0, none⟩ (.int .i64 0) = w3 := ⟨_, rfl⟩
        rw [hw3e] at hw3 hw30 hb3 hbW hrow3 hszs
        have hnums : numRow w3 sl As := fun j hj => by
          obtain ⟨g, e1, e2⟩ := hrow3.cellA (j := j) (u := .int .i64 sl[j]) (by simp [hj])
          exact ⟨g, 0, e1, by rw [Nat.zero_add]; exact e2⟩
        have hcm := hrow.bound
        have q2 := blk_cell hw3 0
        have hcapm : cs ≤ maxLen := by
          rcases hrow.2 with ⟨e1, _⟩ | ⟨g, cap, cur, e1, _, h3, h4, _⟩
          · injection e1 with _ _ e1; omega
          · injection e1 with _ _ e1; omega
        have HE3 := Lib.hid hw3e
        have HY1 := Lib.hid hw3
        have HY0 := Lib.hid hw30
        have HB3 := Lib.hid hb3
        have hMK : GnAt w3 (w3.alloc (.cells #[.slice none 0 0, .slice As sl.length cs] 73)) w3.heap.size ⟨[], sl⟩ (.slice none 0 0) As cs := ⟨blk_new _ _, Row.nil _ _ _, hnums, ⟨hcs, hcapm⟩, fun g hg => by simp [Value.ownBlock] at hg, Nat.le_refl _⟩
        have HMK := Lib.hid hMK
        have hBL := gblock_of w3 _ (gstmt_calls w3 (Stmt.nodesL ss)) ss A c 0 (Nat.le_refl _) (Stmt.rds_keep hbW HRD.out) HRS.out ⟨[], sl⟩ (w3.alloc (.cells #[.slice none 0 0, .slice As sl.length cs] 73)) w3.heap.size (.slice none 0 0) As cs hMK (Below.refl _ _).al (by rw [HUS.out]; exact Nat.le_refl _) (by have := HNP.out; show 0 + 3 * Stmt.nodesL ss ≤ 1000000; omega)
        have HBL := Lib.hid hBL
        clear hb2 hrow hb02 hy0 hy1 hw3 hw30 hb3 hbW hrow3 hw3e hnums hcapm hMK hBL hcm
        go_wp2_with (have tk := HE3; clear tk; rw [HE3.out]; clear HE3)
        refine HBL.out.mono ?_
        rw [HN.out]
        rintro y w4 ⟨rfl, G4, hg⟩
        have hb4 : Below w3.heap.size w3 w4 := GnTo.below HMK.out (Below.refl w3.heap.size w3).al hg
        have hyo := below_blk hb4 HY0.out (blk_lt HY0.out)
        have hye := below_blk hb4 HY1.out (blk_lt HY1.out)
        refine leaves_cons (f := 31) (args := #[.pointer (some ⟨w.heap.size, 0, none⟩), .pointer (some ⟨w.heap.size + 1, 0, none⟩)]) (by simp) (by simp [go_sem]) ?_
        refine (gcatch_panicking w.heap.size (w.heap.size + 1) _ _ w4 (by omega) hyo hye).mono ?_
        rintro e u' w5 ⟨rfl, rfl, hk, h1, h2⟩
        refine ⟨_, compile_results _ _ w.heap.size (w.heap.size + 1) (.slice none 0 0) 100 rfl rfl (blk_cell h1 0) (blk_cell h2 0), ?_⟩
        rw [HQ.out]
        have hb34 := HB3.out.trans (hb4.mono HB3.out.size)
        exact ⟨hb34.trans (hk.toBelow hb34.size fun q hq => by rcases hq with rfl | rfl <;> omega), _, rfl, Row.nil _ _ _, fun g hg => by simp [Value.ownBlock] at hg⟩
      | some G =>
        have HN := Lib.hid hx
        have hgl := (HGR.out G hx).2.2
        have HL := Lib.hid (show G.out.length ≤ 1000000 by have := HNP.out; have h0 : (⟨[], sl⟩ : Gn).out.length = 0 := rfl; omega)
        by_cases h6 : 600 < G.out.length + 1
        · have HQ := Lib.hid (show genP ss L = ([], 80) by rw [HGP.out, hx]; exact if_pos h6)
          have h6' : (600 : Int) < ((G.out.length + 1 : Nat) : Int) := by omega
          clear hx hgl
          go_enter_defers Try.func13, Try.ntmps13
          go_wp2_with fail
          rw [HW.out]
          refine HRI.out.mono ?_
          rintro y w1 ⟨rfl, hb1⟩
          rw [HR.out]
          have HB01 := Lib.hid hb1
          clear hb1
          go_wp2_with fail
          refine (HSL.out w1 HB01.out).mono ?_
          rintro y w2 ⟨v, rfl, hrow, hb2⟩
          rw [HS0.out]
          rw [HSL2.out] at hrow
          obtain ⟨As, cs, hv, hcs⟩ := hrow.slice
          subst hv
          have hb02 := HB01.out.trans (hb2.mono HB01.out.size)
          have hy0 := below_blk hb02 HX0.out (blk_lt HX0.out)
          have hy1 := below_blk hb02 HX1.out (blk_lt HX1.out)
          have hw3 := blk_set hy1 0 (.int .i64 0)
          have hw30 := blk_far hy0 (show w.heap.size ≠ (⟨w.heap.size + 1, 0, none⟩ : Addr).block by show w.heap.size ≠ w.heap.size + 1; omega) (.int .i64 0)
          have hb3 : Below w.heap.size w (w2.setCell ⟨w.heap.size + 1, 0, none⟩ (.int .i64 0)) := (HB0.out.trans (hb02.mono HB0.out.size)).setCell (show w.heap.size ≤ w.heap.size + 1 by omega) _
          have hbW : Below W.heap.size W (w2.setCell ⟨w.heap.size + 1, 0, none⟩ (.int .i64 0)) := (HBW.out.trans (hb02.mono HBW.out.size)).setCell (show W.heap.size ≤ w.heap.size + 1 by have := HBW.out.size; have := HZ0.out; have := HWS.out; omega) _
          have hrow3 := rowSet (b := w.heap.size + 1) (i := 0) (u := .int .i64 0) hrow (hrow.ne hy1 (by decide))
          have q1 := blk_cell hy1 0
          have p1 := blk_free hy1 0
          have hszs : w2.heap.size = (w2.setCell ⟨w.heap.size + 1, 0, none⟩ (.int .i64 0)).heap.size := by simp [World.setCell]
          obtain ⟨w3, hw3e⟩ : ∃ w3, w2.setCell ⟨w.heap.size + 1, 0, none⟩ (.int .i64 0) = w3 := ⟨_, rfl⟩
          rw [hw3e] at hw3 hw30 hb3 hbW hrow3 hszs
          have hnums : numRow w3 sl As := fun j hj => by
            obtain ⟨g, e1, e2⟩ := hrow3.cellA (j := j) (u := .int .i64 sl[j]) (by simp [hj])
            exact ⟨g, 0, e1, by rw [Nat.zero_add]; exact e2⟩
          have hcm := hrow.bound
          have q2 := blk_cell hw3 0
          have hcapm : cs ≤ maxLen := by
            rcases hrow.2 with ⟨e1, _⟩ | ⟨g, cap, cur, e1, _, h3, h4, _⟩
            · injection e1 with _ _ e1; omega
            · injection e1 with _ _ e1; omega
          have HE3 := Lib.hid hw3e
          have HY1 := Lib.hid hw3
          have HY0 := Lib.hid hw30
          have HB3 := Lib.hid hb3
          have hMK : GnAt w3 (w3.alloc (.cells #[.slice none 0 0, .slice As sl.length cs] 73)) w3.heap.size ⟨[], sl⟩ (.slice none 0 0) As cs := ⟨blk_new _ _, Row.nil _ _ _, hnums, ⟨hcs, hcapm⟩, fun g hg => by simp [Value.ownBlock] at hg, Nat.le_refl _⟩
          have HMK := Lib.hid hMK
          have hBL := gblock_of w3 _ (gstmt_calls w3 (Stmt.nodesL ss)) ss A c 0 (Nat.le_refl _) (Stmt.rds_keep hbW HRD.out) HRS.out ⟨[], sl⟩ (w3.alloc (.cells #[.slice none 0 0, .slice As sl.length cs] 73)) w3.heap.size (.slice none 0 0) As cs hMK (Below.refl _ _).al (by rw [HUS.out]; exact Nat.le_refl _) (by have := HNP.out; show 0 + 3 * Stmt.nodesL ss ≤ 1000000; omega)
          have HBL := Lib.hid hBL
          clear hb2 hrow hb02 hy0 hy1 hw3 hw30 hb3 hbW hrow3 hw3e hnums hcapm hMK hBL hcm
          go_wp2_with (have tk := HE3; clear tk; rw [HE3.out]; clear HE3)
          refine HBL.out.mono ?_
          rw [HN.out]
          rintro y w4 ⟨rfl, hg⟩
          have hb4 : Below w3.heap.size w3 w4 := GnTo.below HMK.out (Below.refl w3.heap.size w3).al hg
          obtain ⟨O4, A4, c4, g4, k4, o4⟩ := hg
          have HB4 := Lib.hid hb4
          have HG4 := Lib.hid g4
          clear g4 k4 o4 hb4
          go_wp2_with fail
          refine (put_calls w3 w4 w3.heap.size G O4 A4 c4 HG4.out HB4.out HL.out 1 0 0 0 0 0).mono ?_
          rintro y w5 ⟨rfl, hg⟩
          have hb5 := GnTo.below HG4.out HB4.out hg
          obtain ⟨O5, A5', c5, g5, k5, o5⟩ := hg
          have hlen5 : (G.put ⟨1, 0, 0, 0, 0, 0⟩).out.length = G.out.length + 1 := Gn.put_len _ _
          have hout5 := g5.out
          have hbk5 := g5.blk
          rw [hlen5] at hout5
          obtain ⟨A5, c5', hO5, _⟩ := hout5.slice
          subst hO5
          have hyo := below_blk hb5 HY0.out (blk_lt HY0.out)
          have hye := below_blk hb5 HY1.out (blk_lt HY1.out)
          have HO5 := Lib.hid hyo
          have HE5 := Lib.hid hye
          have HB5 := Lib.hid (HB3.out.trans (hb5.mono HB3.out.size))
          have HRW := Lib.hid (show Row w5 42 6 (.slice A5 (G.out.length + 1) c5') (G.out.length + 1) (insCells (G.out ++ [⟨1, 0, 0, 0, 0, 0⟩])) from hout5)
          have HNO := Lib.hid (And.intro (hout5.ne hyo (by decide)) (hout5.ne hye (by decide)))
          have HNO2 := Lib.hid (fun g hg => Nat.le_trans HB3.out.size (g5.fo g hg))
          have q5 : w5.cell? ⟨w3.heap.size, 0, none⟩ = some (.slice A5 (G.out.length + 1) c5') := blk_cell hbk5 0
          have u0 := blk_cell hyo 0
          have u1 := blk_cell hye 0
          have v0 := blk_free hyo 0
          have v1 := blk_free hye 0
          clear g5 k5 o5 hb5 hout5 hbk5 hyo hye hlen5
          go_wp2
          refine leaves_cons (f := 31) (args := #[.pointer (some ⟨w.heap.size, 0, none⟩), .pointer (some ⟨w.heap.size + 1, 0, none⟩)]) (by simp) (by simp [go_sem]) ?_
          refine (gcatch_idle w.heap.size (w.heap.size + 1) _).mono ?_
          rintro e u' w6 ⟨rfl, rfl, rfl⟩
          refine ⟨_, compile_results _ _ w.heap.size (w.heap.size + 1) (.slice none 0 0) 80 rfl rfl (blk_cell (blk_far (blk_set HO5.out 0 (.slice none 0 0)) (show w.heap.size ≠ (⟨w.heap.size + 1, 0, none⟩ : Addr).block by show w.heap.size ≠ w.heap.size + 1; omega) (.int .i64 80)) 0) (blk_cell (blk_set (blk_far HE5.out (show w.heap.size + 1 ≠ (⟨w.heap.size, 0, none⟩ : Addr).block by show w.heap.size + 1 ≠ w.heap.size; omega) (.slice none 0 0)) 0 (.int .i64 80)) 0), ?_⟩
          rw [HQ.out]
          exact ⟨(HB5.out.setCell (show w.heap.size ≤ w.heap.size from Nat.le_refl _) _).setCell (show w.heap.size ≤ w.heap.size + 1 by omega) _, _, rfl, Row.nil _ _ _, fun g hg => by simp [Value.ownBlock] at hg⟩
        · have HQ := Lib.hid (show genP ss L = (G.out ++ [⟨1, 0, 0, 0, 0, 0⟩], 0) by rw [HGP.out, hx]; exact if_neg h6)
          have h6' : ¬ ((600 : Int) < ((G.out.length + 1 : Nat) : Int)) := by omega
          clear hx hgl
          go_enter_defers Try.func13, Try.ntmps13
          go_wp2_with fail
          rw [HW.out]
          refine HRI.out.mono ?_
          rintro y w1 ⟨rfl, hb1⟩
          rw [HR.out]
          have HB01 := Lib.hid hb1
          clear hb1
          go_wp2_with fail
          refine (HSL.out w1 HB01.out).mono ?_
          rintro y w2 ⟨v, rfl, hrow, hb2⟩
          rw [HS0.out]
          rw [HSL2.out] at hrow
          obtain ⟨As, cs, hv, hcs⟩ := hrow.slice
          subst hv
          have hb02 := HB01.out.trans (hb2.mono HB01.out.size)
          have hy0 := below_blk hb02 HX0.out (blk_lt HX0.out)
          have hy1 := below_blk hb02 HX1.out (blk_lt HX1.out)
          have hw3 := blk_set hy1 0 (.int .i64 0)
          have hw30 := blk_far hy0 (show w.heap.size ≠ (⟨w.heap.size + 1, 0, none⟩ : Addr).block by show w.heap.size ≠ w.heap.size + 1; omega) (.int .i64 0)
          have hb3 : Below w.heap.size w (w2.setCell ⟨w.heap.size + 1, 0, none⟩ (.int .i64 0)) := (HB0.out.trans (hb02.mono HB0.out.size)).setCell (show w.heap.size ≤ w.heap.size + 1 by omega) _
          have hbW : Below W.heap.size W (w2.setCell ⟨w.heap.size + 1, 0, none⟩ (.int .i64 0)) := (HBW.out.trans (hb02.mono HBW.out.size)).setCell (show W.heap.size ≤ w.heap.size + 1 by have := HBW.out.size; have := HZ0.out; have := HWS.out; omega) _
          have hrow3 := rowSet (b := w.heap.size + 1) (i := 0) (u := .int .i64 0) hrow (hrow.ne hy1 (by decide))
          have q1 := blk_cell hy1 0
          have p1 := blk_free hy1 0
          have hszs : w2.heap.size = (w2.setCell ⟨w.heap.size + 1, 0, none⟩ (.int .i64 0)).heap.size := by simp [World.setCell]
          obtain ⟨w3, hw3e⟩ : ∃ w3, w2.setCell ⟨w.heap.size + 1, 0, none⟩ (.int .i64 0) = w3 := ⟨_, rfl⟩
          rw [hw3e] at hw3 hw30 hb3 hbW hrow3 hszs
          have hnums : numRow w3 sl As := fun j hj => by
            obtain ⟨g, e1, e2⟩ := hrow3.cellA (j := j) (u := .int .i64 sl[j]) (by simp [hj])
            exact ⟨g, 0, e1, by rw [Nat.zero_add]; exact e2⟩
          have hcm := hrow.bound
          have q2 := blk_cell hw3 0
          have hcapm : cs ≤ maxLen := by
            rcases hrow.2 with ⟨e1, _⟩ | ⟨g, cap, cur, e1, _, h3, h4, _⟩
            · injection e1 with _ _ e1; omega
            · injection e1 with _ _ e1; omega
          have HE3 := Lib.hid hw3e
          have HY1 := Lib.hid hw3
          have HY0 := Lib.hid hw30
          have HB3 := Lib.hid hb3
          have hMK : GnAt w3 (w3.alloc (.cells #[.slice none 0 0, .slice As sl.length cs] 73)) w3.heap.size ⟨[], sl⟩ (.slice none 0 0) As cs := ⟨blk_new _ _, Row.nil _ _ _, hnums, ⟨hcs, hcapm⟩, fun g hg => by simp [Value.ownBlock] at hg, Nat.le_refl _⟩
          have HMK := Lib.hid hMK
          have hBL := gblock_of w3 _ (gstmt_calls w3 (Stmt.nodesL ss)) ss A c 0 (Nat.le_refl _) (Stmt.rds_keep hbW HRD.out) HRS.out ⟨[], sl⟩ (w3.alloc (.cells #[.slice none 0 0, .slice As sl.length cs] 73)) w3.heap.size (.slice none 0 0) As cs hMK (Below.refl _ _).al (by rw [HUS.out]; exact Nat.le_refl _) (by have := HNP.out; show 0 + 3 * Stmt.nodesL ss ≤ 1000000; omega)
          have HBL := Lib.hid hBL
          clear hb2 hrow hb02 hy0 hy1 hw3 hw30 hb3 hbW hrow3 hw3e hnums hcapm hMK hBL hcm
          go_wp2_with (have tk := HE3; clear tk; rw [HE3.out]; clear HE3)
          refine HBL.out.mono ?_
          rw [HN.out]
          rintro y w4 ⟨rfl, hg⟩
          have hb4 : Below w3.heap.size w3 w4 := GnTo.below HMK.out (Below.refl w3.heap.size w3).al hg
          obtain ⟨O4, A4, c4, g4, k4, o4⟩ := hg
          have HB4 := Lib.hid hb4
          have HG4 := Lib.hid g4
          clear g4 k4 o4 hb4
          go_wp2_with fail
          refine (put_calls w3 w4 w3.heap.size G O4 A4 c4 HG4.out HB4.out HL.out 1 0 0 0 0 0).mono ?_
          rintro y w5 ⟨rfl, hg⟩
          have hb5 := GnTo.below HG4.out HB4.out hg
          obtain ⟨O5, A5', c5, g5, k5, o5⟩ := hg
          have hlen5 : (G.put ⟨1, 0, 0, 0, 0, 0⟩).out.length = G.out.length + 1 := Gn.put_len _ _
          have hout5 := g5.out
          have hbk5 := g5.blk
          rw [hlen5] at hout5
          obtain ⟨A5, c5', hO5, _⟩ := hout5.slice
          subst hO5
          have hyo := below_blk hb5 HY0.out (blk_lt HY0.out)
          have hye := below_blk hb5 HY1.out (blk_lt HY1.out)
          have HO5 := Lib.hid hyo
          have HE5 := Lib.hid hye
          have HB5 := Lib.hid (HB3.out.trans (hb5.mono HB3.out.size))
          have HRW := Lib.hid (show Row w5 42 6 (.slice A5 (G.out.length + 1) c5') (G.out.length + 1) (insCells (G.out ++ [⟨1, 0, 0, 0, 0, 0⟩])) from hout5)
          have HNO := Lib.hid (And.intro (hout5.ne hyo (by decide)) (hout5.ne hye (by decide)))
          have HNO2 := Lib.hid (fun g hg => Nat.le_trans HB3.out.size (g5.fo g hg))
          have q5 : w5.cell? ⟨w3.heap.size, 0, none⟩ = some (.slice A5 (G.out.length + 1) c5') := blk_cell hbk5 0
          have u0 := blk_cell hyo 0
          have u1 := blk_cell hye 0
          have v0 := blk_free hyo 0
          have v1 := blk_free hye 0
          clear g5 k5 o5 hb5 hout5 hbk5 hyo hye hlen5
          go_wp2
          refine leaves_cons (f := 31) (args := #[.pointer (some ⟨w.heap.size, 0, none⟩), .pointer (some ⟨w.heap.size + 1, 0, none⟩)]) (by simp) (by simp [go_sem]) ?_
          refine (gcatch_idle w.heap.size (w.heap.size + 1) _).mono ?_
          rintro e u' w6 ⟨rfl, rfl, rfl⟩
          refine ⟨_, compile_results _ _ w.heap.size (w.heap.size + 1) (.slice A5 (G.out.length + 1) c5') 0 rfl rfl (blk_cell (blk_far (blk_set HO5.out 0 (.slice A5 (G.out.length + 1) c5')) (show w.heap.size ≠ (⟨w.heap.size + 1, 0, none⟩ : Addr).block by show w.heap.size ≠ w.heap.size + 1; omega) (.int .i64 0)) 0) (blk_cell (blk_set (blk_far HE5.out (show w.heap.size + 1 ≠ (⟨w.heap.size, 0, none⟩ : Addr).block by show w.heap.size + 1 ≠ w.heap.size; omega) (.slice A5 (G.out.length + 1) c5')) 0 (.int .i64 0)) 0), ?_⟩
          rw [HQ.out]
          exact ⟨(HB5.out.setCell (show w.heap.size ≤ w.heap.size from Nat.le_refl _) _).setCell (show w.heap.size ≤ w.heap.size + 1 by omega) _, _, rfl, by rw [List.length_append]; exact rowSet (rowSet HRW.out HNO.out.1) HNO.out.2, fun g hg => HNO2.out g hg⟩
    · have HQ := Lib.hid (show genP ss L = ([], (slotsP ss L).2) by unfold genP; rw [if_neg hr, if_pos hs])
      have hs' : ((slotsP ss L).2 != 0) = true := by simpa using hs
      obtain ⟨e, he⟩ : ∃ e, (slotsP ss L).2 = e := ⟨_, rfl⟩
      rw [he] at hs'
      have HE := Lib.hid he
      clear hr hrt hs he
      go_enter_defers Try.func13, Try.ntmps13
      go_wp2_with fail
      rw [HW.out]
      refine HRI.out.mono ?_
      rintro y w1 ⟨rfl, hb1⟩
      rw [HR.out]
      have HB01 := Lib.hid hb1
      clear hb1
      go_wp2_with fail
      refine (HSL.out w1 HB01.out).mono ?_
      rintro y w2 ⟨v, rfl, hrow, hb2⟩
      rw [HE.out]
      have hb02 := HB01.out.trans (hb2.mono HB01.out.size)
      have hy0 := below_blk hb02 HX0.out (blk_lt HX0.out)
      have hy1 := below_blk hb02 HX1.out (blk_lt HX1.out)
      have q0 := blk_cell hy0 0
      have q1 := blk_cell hy1 0
      have p0 := blk_free hy0 0
      have p1 := blk_free hy1 0
      have r1 := blk_cell (blk_set hy1 0 (.int .i64 e)) 0
      have HB2 := Lib.hid (HB0.out.trans (hb02.mono HB0.out.size))
      have HY0 := Lib.hid hy0
      have HY1 := Lib.hid hy1
      clear hb2 hy0 hy1 hrow hb02
      go_wp2_with fail
      have hz3 := blk_far HY0.out (show w.heap.size ≠ (⟨w.heap.size + 1, 0, none⟩ : Addr).block by show w.heap.size ≠ w.heap.size + 1; omega) (.int .i64 e)
      have hz4 := blk_set HY1.out 0 (.int .i64 e)
      have hb3 : Below w.heap.size w (w2.setCell ⟨w.heap.size + 1, 0, none⟩ (.int .i64 e)) := HB2.out.setCell (show w.heap.size ≤ w.heap.size + 1 by omega) _
      obtain ⟨w3, hw3⟩ : ∃ w3, w2.setCell ⟨w.heap.size + 1, 0, none⟩ (.int .i64 e) = w3 := ⟨_, rfl⟩
      rw [hw3] at r1 hz3 hz4 hb3 ⊢
      have s0 := blk_cell hz3 0
      have s1 := blk_free hz3 0
      have s2 := blk_free hz4 0
      have HZ3 := Lib.hid hz3
      have HZ4 := Lib.hid hz4
      have HB3 := Lib.hid hb3
      have u1 : ((w3.setCell ⟨w.heap.size, 0, none⟩ (.slice none 0 0)).setCell ⟨w.heap.size + 1, 0, none⟩ (.int .i64 e)).cell? ⟨w.heap.size + 1, 0, none⟩ = some (.int .i64 e) := blk_cell (blk_set (blk_far hz4 (show w.heap.size + 1 ≠ (⟨w.heap.size, 0, none⟩ : Addr).block by show w.heap.size + 1 ≠ w.heap.size; omega) _) 0 _) 0
      clear q0 q1 p0 p1 hz3 hz4 hb3 hw3
      go_region_held3 (fun V_ => V_.cell? ⟨w.heap.size + 1, 0, none⟩ = some (.int .i64 e)) (first | go_keep | exact u1) (fail)
      go_wp2
      refine ⟨_, compile_results _ _ w.heap.size (w.heap.size + 1) (.slice none 0 0) e rfl rfl (blk_cell (blk_far (blk_set HZ3.out 0 (.slice none 0 0)) (show w.heap.size ≠ (⟨w.heap.size + 1, 0, none⟩ : Addr).block by show w.heap.size ≠ w.heap.size + 1; omega) (.int .i64 e)) 0) u1, ?_⟩
      rw [HQ.out, HE.out]
      exact ⟨((HB3.out.setCell (show w.heap.size ≤ w.heap.size from Nat.le_refl _) _).setCell (show w.heap.size ≤ w.heap.size + 1 by omega) _).drew, _, rfl, Row.nil _ _ _, fun g hg => by simp [Value.ownBlock] at hg⟩
end Go.Proofs.Ytjlnpppjkdcpkaa.My
