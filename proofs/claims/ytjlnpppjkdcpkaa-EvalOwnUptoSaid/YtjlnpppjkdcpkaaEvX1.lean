/- EvalOwn: the memory that is handed in stays. Conditions: the arguments lie in memory; what is stored are numbers of 64 bits. -/
import Derived.Test.YtjlnpppjkdcpkaaEvU
import Derived.Test.YtjlnpppjkdcpkaaEv64
namespace Go.Proofs.Ytjlnpppjkdcpkaa.My
open Go.RowKit Go.Proofs.Ytjlnpppjkdcpkaa.NumA
set_option linter.unusedVariables false
set_option linter.unusedSimpArgs false
def up1 (y : Int) : Int := wrap64 (y + 1)
def dn1 (y : Int) : Int := wrap64 (y - 1)
/-- what a run left in memory, one more and one less, is what it was -/
theorem ran_back {ss : List Stmt} {L : Int} {mem : List Int} {n i k B : Int} {r : Res} (h : Ran ss L mem n i k B r) (h64 : Stmt.in64L ss) (hm : ∀ y ∈ mem, n64 y) (hn : n64 n) (hi : n64 i) (hk : n64 k) : ∀ y ∈ r.S.mem, dn1 (up1 y) = y := by
  intro y hy
  have hy64 : n64 y := by
    rcases h with ⟨_, _, o, hd, _⟩ | ⟨_, rfl⟩
    · refine (hd.in64 ⟨fun v hv => ?_, hm⟩ h64).2 y hy
      simp only [startS, List.mem_cons, List.not_mem_nil, or_false] at hv
      rcases hv with rfl | rfl | rfl
      · exact hn
      · exact hi
      · exact hk
    · simp [emptyS] at hy
  unfold n64 at hy64
  unfold dn1 up1 wrap64
  omega
def TrueB (W : World) (e : Ending) (w' : World) : Prop := e = .returned (.bool true) ∧ Below W.heap.size W w'
set_option maxRecDepth 100000 in
set_option maxHeartbeats 4000000 in
theorem evalOwn_calls (ss : List Stmt) (A : Option Addr) (c : Nat) (L : Int) (mem : List Int) (AM : Option Addr) (cM : Nat) (n i k B : Int) (W : World) (hrd : Stmt.rds W ss A 0) (hnl : Stmt.nodesL ss ≤ 1000000000) (hm : numRow W mem AM) (hml : mem.length ≤ 1000000000)
    (hwr : ∀ r, Ran ss L mem n i k B r → ∀ y ∈ r.S.mem, dn1 (up1 y) = y) :
    Calls Try.prog 11 #[.agg #[.slice A ss.length c, .int .i64 L, .slice AM mem.length cM, .int .i64 n, .int .i64 i, .int .i64 k, .int .i64 B]] W (TrueB W) := by
  have hx := blk_new W (.cells #[.slice A ss.length c, .int .i64 L, .slice AM mem.length cM, .int .i64 n, .int .i64 i, .int .i64 k, .int .i64 B] 50)
  have hb : Below W.heap.size W (W.alloc (.cells #[.slice A ss.length c, .int .i64 L, .slice AM mem.length cM, .int .i64 n, .int .i64 i, .int .i64 k, .int .i64 B] 50)) := (Below.refl W.heap.size W).al
  obtain ⟨w1, hw1⟩ : ∃ w1, W.alloc (.cells #[.slice A ss.length c, .int .i64 L, .slice AM mem.length cM, .int .i64 n, .int .i64 i, .int .i64 k, .int .i64 B] 50) = w1 := ⟨_, rfl⟩
  rw [hw1] at hx hb
  have hG := great7_calls W ss A c hrd hnl L AM mem.length cM n i k B w1 hb
  have HG := Lib.hid hG
  have HW := Lib.hid hw1
  have HX := Lib.hid hx
  have HB := Lib.hid hb
  have HRD := Lib.hid hrd
  have HM := Lib.hid hm
  have HWR := Lib.hid hwr
  have HNL := Lib.hid hnl
  clear hG hw1 hx hb hrd hm hwr hnl
  go_enter Try.func11, Try.ntmps11
  go_wp2_with fail
  rw [HW.out]
  refine HG.out.mono ?_
  rintro y w2 ⟨b, rfl, hb2⟩
  have HB2 := Lib.hid (HB.out.trans (hb2.mono HB.out.size))
  have hx2 := below_blk hb2 HX.out (blk_lt HX.out)
  have HX2 := Lib.hid hx2
  have hsz1 : w1.heap.size = W.heap.size + 1 := by rw [← HW.out, size_al]
  have hsz2 : W.heap.size + 1 ≤ w2.heap.size := by have := hb2.size; omega
  clear hb2
  cases b with
  | true =>
    go_wp2
    go_ret
    exact ⟨rfl, HB2.out⟩
  | false =>
    have f0 := fun o => (Below.al (o := o) (Below.refl w2.heap.size w2)).cellOf (blk_cell hx2 0)
    have f1 := fun o => (Below.al (o := o) (Below.refl w2.heap.size w2)).cellOf (blk_cell hx2 1)
    have f2 := fun o => (Below.al (o := o) (Below.refl w2.heap.size w2)).cellOf (blk_cell hx2 2)
    have f3 := fun o => (Below.al (o := o) (Below.refl w2.heap.size w2)).cellOf (blk_cell hx2 3)
    have f4 := fun o => (Below.al (o := o) (Below.refl w2.heap.size w2)).cellOf (blk_cell hx2 4)
    have f5 := fun o => (Below.al (o := o) (Below.refl w2.heap.size w2)).cellOf (blk_cell hx2 5)
    have f2' := fun o o' => (Below.al (o := o') (Below.al (o := o) (Below.refl w2.heap.size w2))).cellOf (blk_cell hx2 2)
    clear hx2
    have HM2 := Lib.hid ((HM.out.below HB2.out).below (((Below.refl w2.heap.size w2).al (o := .cells #[.slice AM mem.length cM, .int .i64 n, .int .i64 i, .int .i64 k] 48)).al (o := .cells #[] 2)))
    go_wp2_with (at_builtin; go_must (refine wpList_append_nums _ rfl _ _ rfl (.slice (some ⟨w2.heap.size + 1, 0, none⟩) 0 0) 0 [] rfl (Row.laid (n := 0) (cs := #[]) (size := 1) (size_al _ _) rfl (by decide)) mem AM cM rfl HM2.out (by omega) ?_); intro v3 w3 hr3 hg3 hn3; rw [Nat.zero_add, List.nil_append] at hr3; obtain ⟨A3, c3, hv3, _⟩ := hr3.slice; subst hv3; have hin3 := grown_blk hg3 (blk_alloc (blk_new w2 (.cells #[.slice AM mem.length cM, .int .i64 n, .int .i64 i, .int .i64 k] 48)) (.cells #[] 2)) (by simp [Value.ownBlock]); have hca3 := grown_blk hg3 (blk_alloc (blk_alloc HX2.out (.cells #[.slice AM mem.length cM, .int .i64 n, .int .i64 i, .int .i64 k] 48)) (.cells #[] 2)) (by simp [Value.ownBlock]; omega); have hin4 := blk_set hin3 0 (.slice A3 mem.length c3); have hca4 := blk_far hca3 (show W.heap.size ≠ (⟨w2.heap.size, 0, none⟩ : Addr).block by show W.heap.size ≠ w2.heap.size; omega) (.slice A3 mem.length c3); have g0 := blk_cell hin4 0; have g1 := blk_cell hin4 1; have g2 := blk_cell hin4 2; have g3 := blk_cell hin4 3; have k0 := blk_cell hca4 0; have k1 := blk_cell hca4 1; have k6 := blk_cell hca4 6; have HIN4 := Lib.hid hin4; have HCA4 := Lib.hid hca4; have pf := blk_free hin3; have p0 := blk_cell hin3 0; clear hin3 hca3 hin4 hca4; have HR3 := Lib.hid hr3; have HG3 := Lib.hid hg3; have HN3 := Lib.hid hn3; clear hr3 hg3 hn3)
    obtain ⟨w4, hw4⟩ : ∃ w4, w3.setCell ⟨w2.heap.size, 0, none⟩ (.slice A3 mem.length c3) = w4 := ⟨_, rfl⟩
    have hz3 : w2.heap.size + 2 ≤ w3.heap.size := by have := HG3.out.size; rw [size_al, size_al] at this; omega
    have hz4 : w4.heap.size = w3.heap.size := by rw [← hw4]; simp [World.setCell]
    have hm4 : Row w4 2 1 (.slice A3 mem.length c3) mem.length (nums mem) := by
      rw [← hw4]
      refine rowSet HR3.out ?_
      rcases HN3.out with e | e
      · rw [e]; simp [Value.ownBlock]
      · rw [e, size_al, size_al]; simp; omega
    have hb4 : Below W.heap.size W w4 := by
      have h3 : Keep (fun _ => False) w2 w3 := (((Keep.refl _ w2).alloc _).alloc _).grown HG3.out (fun q hq => by simp [Value.ownBlock] at hq; omega)
      rw [← hw4]
      exact (HB2.out.trans (h3.toBelow (by omega) (fun _ h => h.elim))).setCell (by show W.heap.size ≤ w2.heap.size; omega) _
    rw [hw4] at HIN4 HCA4
    rw [hw4]
    have HM4 := Lib.hid hm4
    have HB4 := Lib.hid hb4
    clear hm4 hb4 g0 g1 g2 g3 k0 k1 k6 p0 pf hw4 f0 f1 f2 f3 f4 f5 f2' HR3 HG3 HN3 HM2
    refine (run_u W ss A c HRD.out HNL.out L mem A3 c3 n i k B w4 HB4.out HM4.out.numRow (by unfold maxLen; omega)).mono ?_
    rintro E w5 ⟨r, M, O, I, hb5, hran, hout, rfl⟩
    have HRAN := Lib.hid hran
    have HOUT := Lib.hid hout
    have HB45 := Lib.hid hb5
    have HB5 := Lib.hid (HB4.out.trans (hb5.mono HB4.out.size))
    have hz5 := hb5.size
    have HIN5 := Lib.hid (below_blk hb5 HIN4.out (blk_lt HIN4.out))
    have HCA5 := Lib.hid (below_blk hb5 HCA4.out (blk_lt HCA4.out))
    obtain ⟨A5, c5, hM, _⟩ := hout.mem.slice
    obtain ⟨A6, c6, hO, _⟩ := hout.outs.slice
    obtain ⟨A7, c7, hI, _⟩ := hout.intos.slice
    subst hM hO hI
    have g0 := fun o => (Below.al (o := o) (Below.refl w5.heap.size w5)).cellOf (blk_cell HIN5.out 0)
    have k2 := fun o => (Below.al (o := o) (Below.refl w5.heap.size w5)).cellOf (blk_cell HCA5.out 2)
    clear hb5 hran hout
    go_wp2_with fail
    obtain ⟨w6, hw6⟩ : ∃ w6, w5.alloc (.cells #[.slice A5 r.S.mem.length c5, .slice A6 r.S.outs.length c6, .slice A7 r.S.intos.length c7, .int .i64 r.ov, .int .i64 r.va, .int .i64 r.st] 55) = w6 := ⟨_, rfl⟩
    have hz6 : w6.heap.size = w5.heap.size + 1 := by rw [← hw6, size_al]
    have hb6 : Below w5.heap.size w5 w6 := by rw [← hw6]; exact (Below.refl _ _).al
    have ha6 : w6.heap[w5.heap.size]? = some (.cells #[.slice A5 r.S.mem.length c5, .slice A6 r.S.outs.length c6, .slice A7 r.S.intos.length c7, .int .i64 r.ov, .int .i64 r.va, .int .i64 r.st] 55) := by rw [← hw6]; exact blk_new _ _
    rw [hw6]
    clear g0 k2 hw6
    refine (rowN_same w6 mem A3 AM c3 cM (HM4.out.numRow.below (HB45.out.trans (hb6.mono hz5))) (HM.out.below (HB5.out.trans (hb6.mono (by omega)))) (by unfold maxLen; omega)).mono ?_
    rintro E w7 ⟨rfl, hb7⟩
    have hz7 := hb7.size
    have HB57 := Lib.hid (hb6.trans (hb7.mono hb6.size))
    have HB7 := Lib.hid (HB5.out.trans ((hb6.trans (hb7.mono hb6.size)).mono (by omega)))
    have HA7 := Lib.hid (below_blk hb7 ha6 (blk_lt ha6))
    have HO7 := Lib.hid (HOUT.out.below HB57.out)
    have hne : ∀ q, w5.heap.size ≤ q → (Value.slice A5 r.S.mem.length c5).ownBlock ≠ some q := fun q hq e => by have := HOUT.out.mem.lt e; omega
    have HNE := Lib.hid hne
    have hlo : ∀ q, q < w4.heap.size → (Value.slice A5 r.S.mem.length c5).ownBlock ≠ some q := fun q hq e => by have := HOUT.out.fm q e; omega
    have HLO := Lib.hid hlo
    have hml5 := HOUT.out.mem.bound
    unfold maxLen at hml5
    clear hb6 hb7 ha6 hne hlo
    go_wp2_with fail
    go_loopw [6] (fun i wr => ∃ k : Nat, i = .int .i64 (k : Int) ∧ k ≤ r.S.mem.length ∧ Hid (Row wr 2 1 (.slice A5 r.S.mem.length c5) r.S.mem.length (nums (bump up1 k r.S.mem))) ∧ Hid (Keep (fun q => (Value.slice A5 r.S.mem.length c5).ownBlock = some q) w7 wr)) (fun i _ => r.S.mem.length - (intOf i).toNat)
    case atStart => exact ⟨0, rfl, Nat.zero_le _, Lib.hid (by rw [bump_zero]; exact HO7.out.mem), Lib.hid (Keep.refl _ _)⟩
    case round =>
      obtain ⟨k', rfl, hk, HR, HK⟩ := hrel
      have ha := HK.out.blk HA7.out (HNE.out _ (Nat.le_refl _))
      by_cases hlt : k' < r.S.mem.length
      · have hlt' : (k' : Int) < (r.S.mem.length : Int) := by omega
        have hk0 : (0 : Int) ≤ (k' : Int) := by omega
        obtain ⟨g, e1, x1⟩ := HR.out.cellA (bump_get up1 hlt)
        subst e1
        have pf := HR.out.freeA k'
        have q0 := blk_cell ha 0
        generalize hv : r.S.mem.getD k' 0 = v at x1
        go_wp2_with fail
        go_still_tail 9, (by kernel_rfl)
        go_wp2
        refine ⟨⟨k' + 1, by go_num, by omega, Lib.hid ?_, Lib.hid ?_⟩, ?_⟩
        · rw [← bump_succ up1 hlt, hv]
          exact HR.out.put k' _
        · exact (HK.out.set (p := ⟨g, k', none⟩) (.inl rfl) _).drew
        · simp [intOf]; omega
      · have hk' : k' = r.S.mem.length := by omega
        subst hk'
        rw [bump_all] at HR
        have HAk := Lib.hid ha
        have q0 := blk_cell ha 0
        clear ha
        have hin7 := HK.out.blk (below_blk HB57.out HIN5.out (blk_lt HIN5.out)) (HLO.out _ (blk_lt HIN4.out))
        have hca7 := HK.out.blk (below_blk HB57.out HCA5.out (blk_lt HCA5.out)) (HLO.out _ (blk_lt HCA4.out))
        have g0 := blk_cell hin7 0
        have g1 := blk_cell hin7 1
        have g2 := blk_cell hin7 2
        have g3 := blk_cell hin7 3
        have k0 := blk_cell hca7 0
        have k1 := blk_cell hca7 1
        have k6 := blk_cell hca7 6
        have HINr := Lib.hid hin7
        have HCAr := Lib.hid hca7
        have hzr := HK.out.size
        have HBr := Lib.hid (HB7.out.trans (HK.out.toBelow (B := W.heap.size) (by omega) (fun q hq => by have := HOUT.out.fm q hq; have := HB4.out.size; omega)))
        have HMr := Lib.hid (((HM4.out.below HB45.out).below HB57.out).keep fun q hq => HK.out.block q (by have := HM4.out.lt hq; omega) (HLO.out q (HM4.out.lt hq)))
        clear hin7 hca7
        go_wp2_with fail
        clear q0 g0 g1 g2 g3 k0 k1 k6
        refine (run_u W ss A c HRD.out HNL.out L mem A3 c3 n i k B wr HBr.out HMr.out.numRow (by unfold maxLen; omega)).mono ?_
        rintro E w8 ⟨r2, M2, O2, I2, hb8, hran2, hout2, rfl⟩
        obtain rfl := HRAN.out.same hran2
        have HOUT2 := Lib.hid hout2
        have HBr8 := Lib.hid hb8
        have HB8 := Lib.hid (HBr.out.trans (hb8.mono HBr.out.size))
        have hz8 := hb8.size
        obtain ⟨B5, d5, hM, _⟩ := hout2.mem.slice
        obtain ⟨B6, d6, hO, _⟩ := hout2.outs.slice
        obtain ⟨B7, d7, hI, _⟩ := hout2.intos.slice
        subst hM hO hI
        clear hb8 hran2 hout2
        go_wp2_with fail
        obtain ⟨w9, hw9⟩ : ∃ w9, w8.alloc (.cells #[.slice B5 r.S.mem.length d5, .slice B6 r.S.outs.length d6, .slice B7 r.S.intos.length d7, .int .i64 r.ov, .int .i64 r.va, .int .i64 r.st] 55) = w9 := ⟨_, rfl⟩
        have hz9 : w9.heap.size = w8.heap.size + 1 := by rw [← hw9, size_al]
        have hb9 : Below w8.heap.size w8 w9 := by rw [← hw9]; exact (Below.refl _ _).al
        have hB9 : w9.heap[w8.heap.size]? = some (.cells #[.slice B5 r.S.mem.length d5, .slice B6 r.S.outs.length d6, .slice B7 r.S.intos.length d7, .int .i64 r.ov, .int .i64 r.va, .int .i64 r.st] 55) := by rw [← hw9]; exact blk_new _ _
        rw [hw9]
        have HBr9 := Lib.hid (HBr8.out.trans (hb9.mono hz8))
        have HB9 := Lib.hid (HB8.out.trans (hb9.mono HB8.out.size))
        have HA9 := Lib.hid (below_blk HBr9.out HAk.out (blk_lt HAk.out))
        have HIN9 := Lib.hid (below_blk HBr9.out HINr.out (blk_lt HINr.out))
        have HCA9 := Lib.hid (below_blk HBr9.out HCAr.out (blk_lt HCAr.out))
        have HE9 := Lib.hid hB9
        have HO9 := Lib.hid (HOUT2.out.below hb9)
        have hR9 := HR.out.below HBr9.out
        have hoo : Row w9 2 1 (.slice A6 r.S.outs.length c6) r.S.outs.length (nums r.S.outs) := (HO7.out.outs.keep fun q hq => HK.out.block q (HO7.out.outs.lt hq) (fun e => HO7.out.mo q e hq)).below HBr9.out
        have hii : Row w9 98 2 (.slice A7 r.S.intos.length c7) r.S.intos.length (intoCells r.S.intos) := (HO7.out.intos.keep fun q hq => HK.out.block q (HO7.out.intos.lt hq) (fun e => rows_apart HO7.out.mem HO7.out.intos (by decide) q e hq)).below HBr9.out
        have HOO := Lib.hid hoo
        have HII := Lib.hid hii
        have HMr9 := Lib.hid (HMr.out.below HBr9.out)
        have HR9 := Lib.hid hR9
        have hzk := HK.out.size
        clear hb9 hB9 hw9 hoo hii hR9
        go_loopw [9] (fun i wr => ∃ k : Nat, i = .int .i64 (k : Int) ∧ k ≤ r.S.mem.length ∧ Hid (Row wr 2 1 (.slice A5 r.S.mem.length c5) r.S.mem.length (nums (bump dn1 k (r.S.mem.map up1)))) ∧ Hid (Keep (fun q => (Value.slice A5 r.S.mem.length c5).ownBlock = some q) w9 wr)) (fun i _ => r.S.mem.length - (intOf i).toNat)
        case atStart => exact ⟨0, rfl, Nat.zero_le _, Lib.hid (by rw [bump_zero]; exact HR9.out), Lib.hid (Keep.refl _ _)⟩
        case round =>
          obtain ⟨k', rfl, hk', HR2, HK2⟩ := hrel
          have ha := HK2.out.blk HA9.out (HNE.out _ (Nat.le_refl _))
          have hml2 : (r.S.mem.map up1).length = r.S.mem.length := by simp
          by_cases hlt : k' < r.S.mem.length
          · have hlt' : (k' : Int) < (r.S.mem.length : Int) := by omega
            have hk0 : (0 : Int) ≤ (k' : Int) := by omega
            obtain ⟨g, e1, x1⟩ := HR2.out.cellA (bump_get dn1 (l := r.S.mem.map up1) (by omega))
            subst e1
            have pf := HR2.out.freeA k'
            have q0 := blk_cell ha 0
            generalize hv : (r.S.mem.map up1).getD k' 0 = v at x1
            go_wp2_with fail
            go_still_tail 9, (by kernel_rfl)
            go_wp2
            refine ⟨⟨k' + 1, by go_num, by omega, Lib.hid ?_, Lib.hid ?_⟩, ?_⟩
            · rw [← bump_succ dn1 (l := r.S.mem.map up1) (by omega), hv]
              exact HR2.out.put k' _
            · exact (HK2.out.set (p := ⟨g, k', none⟩) (.inl rfl) _).drew
            · simp [intOf]; omega
          · have hk' : k' = r.S.mem.length := by omega
            subst hk'
            have hback : bump dn1 r.S.mem.length (r.S.mem.map up1) = r.S.mem := by
              have h1 := bump_all dn1 (r.S.mem.map up1)
              rw [hml2] at h1
              rw [h1, List.map_map]
              conv => rhs; rw [← List.map_id r.S.mem]
              exact List.map_congr_left fun y hy => HWR.out r HRAN.out y hy
            rw [hback] at HR2
            have hin := HK2.out.blk HIN9.out (HLO.out _ (blk_lt HIN4.out))
            have hca := HK2.out.blk HCA9.out (HLO.out _ (blk_lt HCA4.out))
            have hbb := HK2.out.blk HE9.out (HNE.out _ (by omega))
            have a0 := blk_cell ha 0
            have a1 := blk_cell ha 1
            have a2 := blk_cell ha 2
            have a3 := blk_cell ha 3
            have a4 := blk_cell ha 4
            have a5 := blk_cell ha 5
            have b0 := blk_cell hbb 0
            have b1 := blk_cell hbb 1
            have b2 := blk_cell hbb 2
            have b3 := blk_cell hbb 3
            have b4 := blk_cell hbb 4
            have b5 := blk_cell hbb 5
            have HINq := Lib.hid hin
            have HCAq := Lib.hid hca
            have hra : Rows3 wr r.S (.slice A5 r.S.mem.length c5) (.slice A6 r.S.outs.length c6) (.slice A7 r.S.intos.length c7) :=
              ⟨HR2.out, HOO.out.keep fun q hq => HK2.out.block q (HOO.out.lt hq) (fun e => HO7.out.mo q e hq), HII.out.keep fun q hq => HK2.out.block q (HII.out.lt hq) (fun e => rows_apart HO7.out.mem HO7.out.intos (by decide) q e hq)⟩
            have hrb : Rows3 wr r.S (.slice B5 r.S.mem.length d5) (.slice B6 r.S.outs.length d6) (.slice B7 r.S.intos.length d7) :=
              ⟨HO9.out.mem.keep fun q hq => HK2.out.block q (HO9.out.mem.lt hq) (HNE.out q (by have := HO9.out.fm q hq; omega)), HO9.out.outs.keep fun q hq => HK2.out.block q (HO9.out.outs.lt hq) (HNE.out q (by have := HO9.out.fo q hq; omega)), HO9.out.intos.keep fun q hq => HK2.out.block q (HO9.out.intos.lt hq) (HNE.out q (by have := HO9.out.fi q hq; omega))⟩
            have HRA := Lib.hid hra
            have HRB := Lib.hid hrb
            have HBq := Lib.hid (HB9.out.trans (HK2.out.toBelow (B := W.heap.size) (by have := HB9.out.size; omega) (fun q hq => by have := HOUT.out.fm q hq; have := HB4.out.size; omega)))
            have HMq := Lib.hid (HMr9.out.keep fun q hq => HK2.out.block q (HMr9.out.lt hq) (HLO.out q (HM4.out.lt hq)))
            clear hin hca hbb hra hrb
            have q0 := blk_cell ha 0
            clear ha
            go_wp2_with fail
            refine (same_calls wr r.S _ _ _ _ _ _ r.ov r.va r.st HRA.out HRB.out).mono ?_
            rintro E wx ⟨rfl, hbx⟩
            have HBx := Lib.hid (HBq.out.trans (hbx.mono HBq.out.size))
            have hinx := below_blk hbx HINq.out (blk_lt HINq.out)
            have hcax := below_blk hbx HCAq.out (blk_lt HCAq.out)
            have HMx := Lib.hid (HMq.out.below hbx)
            have g0 := blk_cell hinx 0
            have k2 := blk_cell hcax 2
            clear hbx hinx hcax q0 a0 a1 a2 a3 a4 a5 b0 b1 b2 b3 b4 b5
            go_wp2_with fail
            refine (rowN_same wx mem A3 AM c3 cM HMx.out.numRow (HM.out.below HBx.out) (by unfold maxLen; omega)).mono ?_
            rintro E wy ⟨rfl, hby⟩
            have HBy := Lib.hid (HBx.out.trans (hby.mono HBx.out.size))
            clear hby g0 k2
            go_wp2_with fail
            refine (aliveE_calls wy).mono ?_
            rintro E wz ⟨rfl, hbz⟩
            go_wp2
            go_ret
            exact ⟨rfl, HBy.out.trans (hbz.mono HBy.out.size)⟩
end Go.Proofs.Ytjlnpppjkdcpkaa.My
