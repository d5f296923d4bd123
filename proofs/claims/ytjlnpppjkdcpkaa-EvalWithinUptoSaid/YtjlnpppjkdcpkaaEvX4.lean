/- EvalWithin: all within an if of 1 does the same, with one tick more. Conditions: the arguments lie in memory. -/
import Derived.Test.YtjlnpppjkdcpkaaEvK
import Derived.Test.YtjlnpppjkdcpkaaEvF
import Derived.Test.YtjlnpppjkdcpkaaDrM
namespace Go.Proofs.Ytjlnpppjkdcpkaa.My
open Go.RowKit Go.Proofs.Ytjlnpppjkdcpkaa.NumA
set_option linter.unusedVariables false
set_option linter.unusedSimpArgs false
def TrueB (W : World) (e : Ending) (w' : World) : Prop := e = .returned (.bool true) ∧ Below W.heap.size W w'
/-- an if of 1 around statements -/
def ifOne (ss : List Stmt) : Stmt := .mk 6 ⟨#[]⟩ 0 [numE 1] ss []
theorem ifOne_laid {w : World} {ss : List Stmt} {A : Option Addr} {c g : Nat} (hc : ss.length ≤ c) (h : Stmt.rds w ss A 0) (hE : Expr.rds w [numE 1] (some ⟨g, 0, none⟩) 0) : Stmt.rds (w.alloc (.cells #[.int .i64 6, .string ⟨#[]⟩, .int .i64 0, .slice (some ⟨g, 0, none⟩) 1 1, .slice A ss.length c, .slice none 0 0] 36)) [ifOne ss] (some ⟨w.heap.size, 0, none⟩) 0 := by
  refine laidS1 (e := ifOne ss) ?_
  unfold ifOne
  simp only [Stmt.rd]
  exact ⟨_, _, _, _, _, _, rfl, Nat.le_refl _, hc, Nat.le_refl _, by decide, hE, h, by simp [Stmt.rds]⟩
mutual
theorem Stmt.rightB_less (nm : ByteArray → Bool) : ∀ (e : Stmt) (d : Nat), e.rightB nm (d + 1) = true → e.rightB nm d = true
  | .mk k s c la lb le, d, h => by
    rw [Stmt.rightB] at h ⊢
    simp only [Bool.and_eq_true] at h ⊢
    obtain ⟨⟨⟨h1, h2⟩, h3⟩, h4⟩ := h
    refine ⟨⟨⟨h1, h2⟩, ?_⟩, ?_⟩
    · split
      · rename_i hk
        rw [if_pos hk] at h3
        simp only [Bool.and_eq_true, decide_eq_true_eq] at h3 ⊢
        exact ⟨by omega, Stmt.rightsB_less nm lb (d + 1) h3.2⟩
      · rfl
    · split
      · rfl
      · rename_i hk
        rw [if_neg hk] at h4
        simp only [Bool.and_eq_true, decide_eq_true_eq] at h4 ⊢
        exact ⟨by omega, Stmt.rightsB_less nm le (d + 1) h4.2⟩
theorem Stmt.rightsB_less (nm : ByteArray → Bool) : ∀ (l : List Stmt) (d : Nat), Stmt.rightsB nm (d + 1) l = true → Stmt.rightsB nm d l = true
  | [], d, _ => by simp [Stmt.rightsB]
  | e :: l, d, h => by
    rw [Stmt.rightsB] at h ⊢
    simp only [Bool.and_eq_true] at h ⊢
    exact ⟨Stmt.rightB_less nm e d h.1, Stmt.rightsB_less nm l d h.2⟩
end
theorem ifOne_right {ss : List Stmt} (h : rightP nameB [ifOne ss] = true) : rightP nameB ss = true := by
  unfold rightP at h ⊢
  simp only [Bool.and_eq_true, decide_eq_true_eq, Stmt.rightsB, ifOne, Stmt.rightB, Stmt.nodesL, Stmt.nodes] at h ⊢
  obtain ⟨⟨⟨⟨⟨_, _⟩, h3⟩, _⟩, _⟩, h5⟩ := h
  simp only [true_or, if_true, Bool.and_eq_true, decide_eq_true_eq] at h3
  exact ⟨Stmt.rightsB_less nameB ss 0 h3.2, by omega⟩
theorem ifOne_slots (ss : List Stmt) (L : Int) : (slotsP [ifOne ss] L).2 = (slotsP ss L).2 := by
  have e1 : (stmtsS ⟨[], [], 0, L⟩ [ifOne ss]).1 = (stmtsS ⟨[], [], 0, L⟩ ss).1 := by
    have h1 : exprsS ⟨[], [], 0, L⟩ [numE 1] = (0, ⟨[], [], 0, L⟩) := by simp [exprsS, exprS, numE]
    have h2 : kindS ⟨[], [], 0, L⟩ 6 ⟨#[]⟩ 0 = (0, ⟨[], [], 0, L⟩) := by simp [kindS]
    have h3 : ∀ T : Sc, (blockS T []).1 = 0 := fun T => by rw [blockS_one]; simp [stmtsS]
    have h4 : (stmtS ⟨[], [], 0, L⟩ (ifOne ss)).1 = (stmtsS ⟨[], [], 0, L⟩ ss).1 := by
      unfold ifOne
      rw [stmtS, h1]
      simp only [if_true, h2]
      by_cases h : (blockS ⟨[], [], 0, L⟩ ss).1 = 0
      · rw [if_pos h, h3]; rw [blockS_one] at h; exact h.symm
      · rw [if_neg h, blockS_one]
    rw [stmtsS]
    by_cases h : (stmtS ⟨[], [], 0, L⟩ (ifOne ss)).1 = 0
    · rw [if_pos h]; rw [h4] at h; rw [h]; simp [stmtsS]
    · rw [if_neg h]; exact h4
  unfold slotsP
  rw [e1]
  split
  · rfl
  · rfl
theorem back_back (S : Ev) (n : Nat) : (S.back n).back n = S.back n := by
  unfold Ev.back
  simp [List.take_take]
theorem ifOne_does {B : Int} {ss : List Stmt} {S S' : Ev} {o : Option (Int × Int)} (h0 : S.ticks ≠ B + 1) (h : Does B (.block ss) S S' o) : Does (B + 1) (.block [ifOne ss]) S S'.tick o := by
  have h1 := h.ahead
  have h2 : Does (B + 1) (.stmt (ifOne ss)) S S'.tick o := by
    refine .thn (vs := [1]) rfl h0 ?_ (by decide) h1
    simp [ifOne, Stmt.args, exprsV, exprV, numE]
  cases o with
  | some x => exact .blockLeft (.first h2)
  | none =>
    have h3 := Does.block (.next h2 .nil)
    cases h with
    | block hh => rw [show ((_ : Ev).back S.names.length).tick.back S.names.length = ((_ : Ev).back S.names.length).tick from congrArg Ev.tick (back_back _ _)] at h3; exact h3
/-- within an if of 1: one tick more -/
theorem within_plain {ss : List Stmt} {L : Int} {mem : List Int} {n i k B : Int} {r1 r2 : Res} (hr : rightP nameB [ifOne ss] = true) (h0 : 0 ≤ B) (hB : B ≤ 20000) (h1 : Ran ss L mem n i k B r1) (h2 : Ran [ifOne ss] L mem n i k (B + 1) r2) : r2.code = r1.code ∧ (r1.code = 0 → r2 = ⟨r1.S.tick, r1.ov, r1.va, r1.st + 1, 0⟩ ∧ 0 ≤ r1.st ∧ r1.st ≤ 20000) := by
  have he : runErr [ifOne ss] L mem.length (B + 1) = runErr ss L mem.length B := by
    unfold runErr
    rw [hr, ifOne_right hr, ifOne_slots]
    simp only [Bool.true_eq_false, if_false]
    split
    · rfl
    · split
      · rfl
      · rw [if_neg (by omega), if_neg (by omega)]
  have c1 := runErr_zero h1
  have c2 := runErr_zero h2
  refine ⟨by rw [c1, c2, he], fun hc => ?_⟩
  rcases h1 with ⟨e1, _, o1, d1, a1, b1, t1⟩ | ⟨e1, _⟩
  · rcases h2 with ⟨e2, q2, o2, d2, a2, b2, t2⟩ | ⟨e2, _⟩
    · obtain ⟨hS, ho⟩ := (ifOne_does (show (startS mem n i k).ticks ≠ B + 1 by show (0 : Int) ≠ B + 1; omega) d1).same d2
      have ht := d1.ticks
      have ht0 : (startS mem n i k).ticks = 0 := rfl
      refine ⟨?_, by rw [t1]; omega, by rw [t1]; have := ht.2 (by omega); omega⟩
      obtain ⟨S2, ov2, va2, st2, code2⟩ := r2
      simp only at a2 b2 t2 q2 hS
      subst hS; subst ho
      rw [a2, b2, t2, q2, a1, b1, t1]
      rfl
    · rw [he] at e2; exact absurd e1 e2
  · rw [hc] at c1; exact absurd c1.symm e1
set_option maxRecDepth 100000 in
set_option maxHeartbeats 4000000 in
theorem evalWithin_calls (ss : List Stmt) (A : Option Addr) (c : Nat) (L : Int) (mem : List Int) (AM : Option Addr) (cM : Nat) (n i k B : Int) (W : World) (hrd : Stmt.rds W ss A 0) (hnl : Stmt.nodesL ss ≤ 10000000) (hlc : ss.length ≤ c) (hm : numRow W mem AM) (hml : mem.length ≤ 1000000000) :
    Calls Try.prog 9 #[.agg #[.slice A ss.length c, .int .i64 L, .slice AM mem.length cM, .int .i64 n, .int .i64 i, .int .i64 k, .int .i64 B]] W (TrueB W) := by
  have hx := blk_new W (.cells #[.slice A ss.length c, .int .i64 L, .slice AM mem.length cM, .int .i64 n, .int .i64 i, .int .i64 k, .int .i64 B] 50)
  have hb : Below W.heap.size W (W.alloc (.cells #[.slice A ss.length c, .int .i64 L, .slice AM mem.length cM, .int .i64 n, .int .i64 i, .int .i64 k, .int .i64 B] 50)) := (Below.refl W.heap.size W).al
  obtain ⟨w1, hw1⟩ : ∃ w1, W.alloc (.cells #[.slice A ss.length c, .int .i64 L, .slice AM mem.length cM, .int .i64 n, .int .i64 i, .int .i64 k, .int .i64 B] 50) = w1 := ⟨_, rfl⟩
  rw [hw1] at hx hb
  have hG := great7_bd W ss A c hrd (by omega) L AM mem.length cM n i k B w1 hb
  have HG := Lib.hid hG
  have HW := Lib.hid hw1
  have HX := Lib.hid hx
  have HB := Lib.hid hb
  have HRD := Lib.hid hrd
  have HM := Lib.hid hm
  have HNL := Lib.hid hnl
  clear hG hw1 hx hb hrd hm hnl
  go_enter Try.func9, Try.ntmps9
  go_wp2_with fail
  rw [HW.out]
  refine HG.out.mono ?_
  rintro y w2 ⟨b, rfl, hb2, hbd⟩
  have HB2 := Lib.hid (HB.out.trans (hb2.mono HB.out.size))
  have HX2 := Lib.hid (below_blk hb2 HX.out (blk_lt HX.out))
  have hsz1 : w1.heap.size = W.heap.size + 1 := by rw [← HW.out, size_al]
  have hsz2 : W.heap.size + 1 ≤ w2.heap.size := by have := hb2.size; omega
  clear hb2
  cases b with
  | true =>
    go_wp2_with fail
    refine (aliveE_calls w2).mono ?_
    rintro E wz ⟨rfl, hbz⟩
    go_wp2
    go_ret
    exact ⟨rfl, HB2.out.trans (hbz.mono HB2.out.size)⟩
  | false =>
    have hB20 := hbd rfl
    clear hbd
    have k6 := blk_cell HX2.out 6
    by_cases h1 : B < 0
    ·
      go_wp2_with fail
      refine (aliveE_calls w2).mono ?_
      rintro E wz ⟨rfl, hbz⟩
      go_wp2
      go_ret
      exact ⟨rfl, HB2.out.trans (hbz.mono HB2.out.size)⟩
    · have h0B : 0 ≤ B := by omega
      have k0 := fun o => (Below.al (o := o) (Below.refl w2.heap.size w2)).cellOf (blk_cell HX2.out 0)
      have hE : Expr.rds (w2.alloc (.cells #[.int .i64 1, .int .i64 1, .string ⟨#[]⟩, .int .i64 0, .slice none 0 0] 66)) [numE 1] (some ⟨w2.heap.size, 0, none⟩) 0 := laidE1 (e := numE 1) (mkE (by decide) (Nat.le_refl _) (by simp [Expr.rds]))
      have hb3 : Below W.heap.size W ((w2.alloc (.cells #[.int .i64 1, .int .i64 1, .string ⟨#[]⟩, .int .i64 0, .slice none 0 0] 66)).alloc (.cells #[.int .i64 6, .string ⟨#[]⟩, .int .i64 0, .slice (some ⟨w2.heap.size, 0, none⟩) 1 1, .slice A ss.length c, .slice none 0 0] 36)) := (HB2.out.alloc HB2.out.size _).alloc (by rw [size_al]; have := HB2.out.size; omega) _
      have hS : Stmt.rds ((w2.alloc (.cells #[.int .i64 1, .int .i64 1, .string ⟨#[]⟩, .int .i64 0, .slice none 0 0] 66)).alloc (.cells #[.int .i64 6, .string ⟨#[]⟩, .int .i64 0, .slice (some ⟨w2.heap.size, 0, none⟩) 1 1, .slice A ss.length c, .slice none 0 0] 36)) [ifOne ss] (some ⟨w2.heap.size + 1, 0, none⟩) 0 := by
        have h := ifOne_laid (w := w2.alloc (.cells #[.int .i64 1, .int .i64 1, .string ⟨#[]⟩, .int .i64 0, .slice none 0 0] 66)) hlc (Stmt.rds_keep (HB2.out.alloc HB2.out.size _) HRD.out) hE
        rw [size_al] at h
        exact h
      have hx3 := blk_alloc (blk_alloc HX2.out (.cells #[.int .i64 1, .int .i64 1, .string ⟨#[]⟩, .int .i64 0, .slice none 0 0] 66)) (.cells #[.int .i64 6, .string ⟨#[]⟩, .int .i64 0, .slice (some ⟨w2.heap.size, 0, none⟩) 1 1, .slice A ss.length c, .slice none 0 0] 36)
      obtain ⟨w3, hw3⟩ : ∃ w3, (w2.alloc (.cells #[.int .i64 1, .int .i64 1, .string ⟨#[]⟩, .int .i64 0, .slice none 0 0] 66)).alloc (.cells #[.int .i64 6, .string ⟨#[]⟩, .int .i64 0, .slice (some ⟨w2.heap.size, 0, none⟩) 1 1, .slice A ss.length c, .slice none 0 0] 36) = w3 := ⟨_, rfl⟩
      rw [hw3] at hb3 hS hx3
      have HW3 := Lib.hid hw3
      have HB3 := Lib.hid hb3
      have HS := Lib.hid hS
      have HX3 := Lib.hid hx3
      have hn1 : Stmt.nodesL [ifOne ss] ≤ 1000000000 := by have := HNL.out; simp [ifOne, Stmt.nodesL, Stmt.nodes, Expr.nodesL, numE, Expr.nodes]; omega
      have HN1 := Lib.hid hn1
      have HR := Lib.hid (docRight_calls w3 [ifOne ss] (some ⟨w2.heap.size + 1, 0, none⟩) 1 hS hn1 w3 (Below.refl _ _))
      clear hE hb3 hS hx3 hw3 hn1
      go_wp2_with fail
      rw [HW3.out]
      refine HR.out.mono ?_
      rintro y w4 ⟨rfl, hb4⟩
      have HB34 := Lib.hid hb4
      have HB4 := Lib.hid (HB3.out.trans (hb4.mono HB3.out.size))
      have HX4 := Lib.hid (below_blk hb4 HX3.out (blk_lt HX3.out))
      clear hb4 k0 k6
      by_cases hri : rightP nameB [ifOne ss] = true
      · have HRI := Lib.hid hri
        rw [hri]
        clear hri
        have k0 := blk_cell HX4.out 0
        have k1 := blk_cell HX4.out 1
        have k2 := blk_cell HX4.out 2
        have k3 := blk_cell HX4.out 3
        have k4 := blk_cell HX4.out 4
        have k5 := blk_cell HX4.out 5
        have k6 := blk_cell HX4.out 6
        have hrun1 := run_u W ss A c HRD.out (by have := HNL.out; omega) L mem AM cM n i k B w4 HB4.out (HM.out.below HB4.out) (by unfold maxLen; omega)
        have hrun2 := fun w8 (h8 : Below w4.heap.size w4 w8) => run_u w3 [ifOne ss] (some ⟨w2.heap.size + 1, 0, none⟩) 1 HS.out HN1.out L mem AM cM n i k (B + 1) w8 (HB34.out.trans (h8.mono HB34.out.size)) (HM.out.below (HB4.out.trans (h8.mono HB4.out.size))) (by unfold maxLen; omega)
        have HRUN1 := Lib.hid hrun1
        have HRUN2 := Lib.hid hrun2
        clear hrun1 hrun2
        go_wp2_with fail
        refine HRUN1.out.mono ?_
        rintro E w8 ⟨rP, M, O, I, hb8, hran, hout, hE⟩
        obtain ⟨e, he⟩ : ∃ e, rP.code = e := ⟨_, rfl⟩
        rw [he] at hE
        subst hE
        have HRAN1 := Lib.hid hran
        have HOUT := Lib.hid hout
        have HB48 := Lib.hid hb8
        have HB8 := Lib.hid (HB4.out.trans (hb8.mono HB4.out.size))
        have hz8 := hb8.size
        obtain ⟨P5, p5, hM, _⟩ := hout.mem.slice
        obtain ⟨P6, p6, hO, _⟩ := hout.outs.slice
        obtain ⟨P7, p7, hI, _⟩ := hout.intos.slice
        subst hM hO hI
        have hx9 := blk_alloc (below_blk hb8 HX4.out (blk_lt HX4.out)) (.cells #[.slice P5 rP.S.mem.length p5, .slice P6 rP.S.outs.length p6, .slice P7 rP.S.intos.length p7, .int .i64 rP.ov, .int .i64 rP.va, .int .i64 rP.st] 55)
        have g1 := blk_cell hx9 1
        have g2 := blk_cell hx9 2
        have g3 := blk_cell hx9 3
        have g4 := blk_cell hx9 4
        have g5 := blk_cell hx9 5
        have g6 := blk_cell hx9 6
        clear hb8 hran hout k0 k1 k2 k3 k4 k5 k6 hx9
        go_wp2_with fail
        clear g1 g2 g3 g4 g5 g6
        obtain ⟨w9, hw9⟩ : ∃ w9, w8.alloc (.cells #[.slice P5 rP.S.mem.length p5, .slice P6 rP.S.outs.length p6, .slice P7 rP.S.intos.length p7, .int .i64 rP.ov, .int .i64 rP.va, .int .i64 rP.st] 55) = w9 := ⟨_, rfl⟩
        have hz9 : w9.heap.size = w8.heap.size + 1 := by rw [← hw9, size_al]
        have hb9 : Below w8.heap.size w8 w9 := by rw [← hw9]; exact (Below.refl _ _).al
        have hp9 : w9.heap[w8.heap.size]? = some (.cells #[.slice P5 rP.S.mem.length p5, .slice P6 rP.S.outs.length p6, .slice P7 rP.S.intos.length p7, .int .i64 rP.ov, .int .i64 rP.va, .int .i64 rP.st] 55) := by rw [← hw9]; exact blk_new _ _
        rw [hw9]
        have HB49 := Lib.hid (HB48.out.trans (hb9.mono hz8))
        have HP9 := Lib.hid hp9
        have HO9 := Lib.hid (HOUT.out.below hb9)
        clear hb9 hp9 hw9
        refine (HRUN2.out w9 HB49.out).mono ?_
        rintro E w10 ⟨rQ, M, O, I, hb10, hran, hout, hE⟩
        obtain ⟨hcode, hsame⟩ := within_plain HRI.out h0B hB20 HRAN1.out hran
        rw [hcode, he] at hE
        subst hE
        have HOUT2 := Lib.hid hout
        have HB10 := Lib.hid hb10
        have HBT := Lib.hid (HB4.out.trans ((HB49.out.trans (hb10.mono HB49.out.size)).mono HB4.out.size))
        have hz10 := hb10.size
        by_cases h0 : e = 0
        · subst h0
          obtain ⟨hq, hs0, hs1⟩ := hsame he
          subst hq
          obtain ⟨Q5, q5, hM, _⟩ : ∃ A c, M = .slice A rP.S.mem.length c ∧ rP.S.mem.length ≤ c := hout.mem.slice
          obtain ⟨Q6, q6, hO, _⟩ : ∃ A c, O = .slice A rP.S.outs.length c ∧ rP.S.outs.length ≤ c := hout.outs.slice
          obtain ⟨Q7, q7, hI, _⟩ : ∃ A c, I = .slice A rP.S.intos.length c ∧ rP.S.intos.length ≤ c := hout.intos.slice
          subst hM hO hI
          obtain ⟨w11, hw11⟩ : ∃ w11, w10.alloc (.cells #[.slice Q5 rP.S.mem.length q5, .slice Q6 rP.S.outs.length q6, .slice Q7 rP.S.intos.length q7, .int .i64 rP.ov, .int .i64 rP.va, .int .i64 (rP.st + 1)] 55) = w11 := ⟨_, rfl⟩
          have hpa : w11.heap[w8.heap.size]? = some (.cells #[.slice P5 rP.S.mem.length p5, .slice P6 rP.S.outs.length p6, .slice P7 rP.S.intos.length p7, .int .i64 rP.ov, .int .i64 rP.va, .int .i64 rP.st] 55) := by rw [← hw11]; exact blk_alloc (below_blk HB10.out HP9.out (blk_lt HP9.out)) _
          have hqa : w11.heap[w10.heap.size]? = some (.cells #[.slice Q5 rP.S.mem.length q5, .slice Q6 rP.S.outs.length q6, .slice Q7 rP.S.intos.length q7, .int .i64 rP.ov, .int .i64 rP.va, .int .i64 (rP.st + 1)] 55) := by rw [← hw11]; exact blk_new _ _
          have hoa : OutAt w11 w4.heap.size rP.S (.slice P5 rP.S.mem.length p5) (.slice P6 rP.S.outs.length p6) (.slice P7 rP.S.intos.length p7) := by rw [← hw11]; exact (HO9.out.below HB10.out).below (Below.refl _ _).al
          have hob : OutAt w11 w9.heap.size rP.S.tick (.slice Q5 rP.S.mem.length q5) (.slice Q6 rP.S.outs.length q6) (.slice Q7 rP.S.intos.length q7) := by rw [← hw11]; exact HOUT2.out.below (Below.refl _ _).al
          have hbt : Below W.heap.size W (w11.setCell ⟨w8.heap.size, 5, none⟩ (.int .i64 (rP.st + 1))) := by
            rw [← hw11]
            refine (HBT.out.alloc HBT.out.size _).setCell ?_ _
            show W.heap.size ≤ w8.heap.size
            exact HB8.out.size
          have hnp : ∀ (v : Value) (z m : Nat) (ty : TypeId) (xs : List Value), Row w8 ty z v m xs → v.ownBlock ≠ some w8.heap.size := fun v z m ty xs h e => by have := h.lt e; omega
          have hra : Rows3 (w11.setCell ⟨w8.heap.size, 5, none⟩ (.int .i64 (rP.st + 1))) rP.S (.slice P5 rP.S.mem.length p5) (.slice P6 rP.S.outs.length p6) (.slice P7 rP.S.intos.length p7) := ⟨rowSet hoa.mem (hnp _ _ _ _ _ HOUT.out.mem), rowSet hoa.outs (hnp _ _ _ _ _ HOUT.out.outs), rowSet hoa.intos (hnp _ _ _ _ _ HOUT.out.intos)⟩
          have hrb : Rows3 (w11.setCell ⟨w8.heap.size, 5, none⟩ (.int .i64 (rP.st + 1))) rP.S (.slice Q5 rP.S.mem.length q5) (.slice Q6 rP.S.outs.length q6) (.slice Q7 rP.S.intos.length q7) := ⟨rowSet hob.mem (fun e => by have := hob.fm _ e; omega), rowSet hob.outs (fun e => by have := hob.fo _ e; omega), rowSet hob.intos (fun e => by have := hob.fi _ e; omega)⟩
          have HSAME := Lib.hid (same_calls _ rP.S _ _ _ _ _ _ rP.ov rP.va (rP.st + 1) hra hrb)
          have hp2 := blk_set hpa 5 (.int .i64 (rP.st + 1))
          have hq2 := blk_far hqa (show w10.heap.size ≠ (⟨w8.heap.size, 5, none⟩ : Addr).block by show w10.heap.size ≠ w8.heap.size; omega) (.int .i64 (rP.st + 1))
          have c5 := blk_cell hpa 5
          have pf := blk_free hpa 5
          have a0 := blk_cell hp2 0
          have b0 := blk_cell hq2 0
          have a1 := blk_cell hp2 1
          have b1 := blk_cell hq2 1
          have a2 := blk_cell hp2 2
          have b2 := blk_cell hq2 2
          have a3 := blk_cell hp2 3
          have b3 := blk_cell hq2 3
          have a4 := blk_cell hp2 4
          have b4 := blk_cell hq2 4
          have a5 := blk_cell hp2 5
          have b5 := blk_cell hq2 5
          have HW11 := Lib.hid hw11
          have HBT2 := Lib.hid hbt
          clear hpa hqa hoa hob hbt hnp hra hrb hp2 hq2 hw11 hsame hb10 hran hout hcode he
          go_wp2_with (have tk := HW11; clear tk; rw [HW11.out]; clear HW11)
          refine HSAME.out.mono ?_
          rintro E wx ⟨rfl, hbx⟩
          have HBx := Lib.hid (HBT2.out.trans (hbx.mono HBT2.out.size))
          clear hbx a0 a1 a2 a3 a4 a5 b0 b1 b2 b3 b4 b5 c5 pf
          go_wp2_with fail
          refine (aliveE_calls wx).mono ?_
          rintro E wz ⟨rfl, hbz⟩
          go_wp2
          go_ret
          exact ⟨rfl, HBx.out.trans (hbz.mono HBx.out.size)⟩
        · have hne : (e != 0) = true := by simpa using h0
          obtain ⟨Q5, q5, hM, _⟩ := hout.mem.slice
          obtain ⟨Q6, q6, hO, _⟩ := hout.outs.slice
          obtain ⟨Q7, q7, hI, _⟩ := hout.intos.slice
          subst hM hO hI
          have hbt := HBT.out.alloc HBT.out.size (.cells #[.slice Q5 rQ.S.mem.length q5, .slice Q6 rQ.S.outs.length q6, .slice Q7 rQ.S.intos.length q7, .int .i64 rQ.ov, .int .i64 rQ.va, .int .i64 rQ.st] 55)
          have HBT2 := Lib.hid hbt
          clear hbt hsame he hb10 hran hout hcode
          go_wp2_with fail
          refine (aliveE_calls _).mono ?_
          rintro E wz ⟨rfl, hbz⟩
          go_wp2
          go_ret
          exact ⟨rfl, HBT2.out.trans (hbz.mono HBT2.out.size)⟩
      · have HRI := Lib.hid (show rightP nameB [ifOne ss] = false by simpa using hri)
        rw [HRI.out]
        clear hri
        go_wp2_with fail
        refine (aliveE_calls w4).mono ?_
        rintro E wz ⟨rfl, hbz⟩
        go_wp2
        go_ret
        exact ⟨rfl, HB4.out.trans (hbz.mono HB4.out.size)⟩
end Go.Proofs.Ytjlnpppjkdcpkaa.My
