/- Which statements may be: the program's test of statements and blocks, walked. -/
import Derived.Test.YtjlnpppjkdcpkaaERTrX
namespace Go.Proofs.Ytjlnpppjkdcpkaa.My
open Go.RowKit
set_option linter.unusedVariables false
set_option linter.unusedSimpArgs false
def blockB (nm : ByteArray → Bool) (blocks : Nat) (l : List Stmt) : Bool := decide (blocks ≤ 12) && Stmt.rightsB nm blocks l
def StmtT (W : World) (q N : Nat) : Prop := ∀ (s : Stmt) (A0 : Option Addr) (c0 : Nat) (A1 : Option Addr) (c1 : Nat) (A2 : Option Addr) (c2 : Nat), s.nodes ≤ N → Expr.rds W s.args A0 0 → Stmt.rds W s.body A1 0 → Stmt.rds W s.els A2 0 →
  s.args.length ≤ c0 → s.body.length ≤ c1 → s.els.length ≤ c2 → s.name.size ≤ maxLen → ∀ (blocks : Nat) (n0 : Int) (w : World), blocks ≤ 12 → 0 ≤ n0 → n0 ≤ 600 → Below W.heap.size W w → cnt w q n0 →
  Calls Try.prog 61 #[.pointer (some ⟨q, 0, none⟩), .agg #[.int .i64 s.kind, .string s.name, .int .i64 s.cell, .slice A0 s.args.length c0, .slice A1 s.body.length c1, .slice A2 s.els.length c2], .int .i64 (blocks : Int)] w (TestOK w q n0 (s.rightB nameB blocks) (Expr.nodesL s.args + Stmt.nodesL s.body + Stmt.nodesL s.els))
set_option maxRecDepth 100000 in
set_option maxHeartbeats 2000000 in
theorem rblock_of (W : World) (q N : Nat) (hqW : W.heap.size ≤ q) (ih : StmtT W q N) (l : List Stmt) (A : Option Addr) (c : Nat) (hN : Stmt.nodesL l ≤ N) (hrd : Stmt.rds W l A 0) (hlc : l.length ≤ 1000000000) (blocks : Nat) (n0 : Int) (w : World) (hbl : blocks ≤ 1000) (h0 : 0 ≤ n0) (h6 : n0 ≤ 600) (hB : Below W.heap.size W w) (hq : cnt w q n0) :
  Calls Try.prog 46 #[.pointer (some ⟨q, 0, none⟩), .slice A l.length c, .int .i64 (blocks : Int)] w (TestOK w q n0 (blockB nameB blocks l) (Stmt.nodesL l)) := by
 have hal := Stmt.nodesL_len l; have HIH := Lib.hid ih; have HBW := Lib.hid hB; have HRD := Lib.hid hrd; have HQ := Lib.hid hq; have HQW := Lib.hid hqW; clear ih hB hrd hq hqW; by_cases hl : 600 < l.length
 ·have hl' : (l.length : Int) > 600 := by omega
  have HNO := Lib.hid (show (blockB nameB blocks l && decide (n0 + (Stmt.nodesL l : Int) ≤ 600)) = false by simp; omega)
  clear hl hal; go_enter Try.func46, Try.ntmps46
  go_wp2; go_ret; exact TestOK.no HNO.out (Keep.refl _ _) HQ.out
 have hl' : ¬ ((l.length : Int) > 600) := by omega
 by_cases hb : 12 < blocks
 ·have hb' : (blocks : Int) > 12 := by omega
  have HNO := Lib.hid (show (blockB nameB blocks l && decide (n0 + (Stmt.nodesL l : Int) ≤ 600)) = false by simp [blockB]; omega)
  clear hb hal; go_enter Try.func46, Try.ntmps46
  go_wp2; go_ret; exact TestOK.no HNO.out (Keep.refl _ _) HQ.out
 have hb' : ¬ ((blocks : Int) > 12) := by omega
 have HBB := Lib.hid (show blockB nameB blocks l = Stmt.rightsB nameB blocks l by simp [blockB]; omega)
 have HAL := Lib.hid hal; clear hal hb; go_enter Try.func46, Try.ntmps46
 go_wp2; go_loopw [18] (fun at_ wr => ∃ (k : Nat), at_ = .int .i64 (k : Int) ∧ k ≤ l.length ∧ Hid (Stmt.rightsB nameB blocks (l.take k) = true) ∧ Hid (cnt wr q (n0 + (Stmt.nodesL (l.take k) : Int))) ∧ Hid (n0 + (Stmt.nodesL (l.take k) : Int) ≤ 600) ∧ Hid (Keep (fun j => j = q) w wr)) (fun a _ => l.length - (intOf a).toNat)
 case atStart => exact ⟨0, rfl, Nat.zero_le _, Lib.hid rfl, Lib.hid (by simpa [Stmt.nodesL] using HQ.out), Lib.hid (by simp [Stmt.nodesL]; omega), Lib.hid (Keep.refl _ _)⟩
 case round =>
  obtain ⟨k, rfl, hk, HRk, HCk, HLk, HKk⟩ := hrel; clear HQ; have HBk := Lib.hid (HBW.out.trans (HKk.out.toBelow HBW.out.size (fun j hj => by subst hj; exact HQW.out)))
  by_cases hlt : k < l.length
  ·have hlt' : ((k : Int) < (l.length : Int)) := by omega
   have HSZ := Lib.hid (Stmt.nodesL_take l k hlt); have HNE := Lib.hid (Stmt.nodes_eq l[k]); obtain ⟨b, o, A0, c0, A1, c1, A2, c2, rfl, hbW, g0, g1, g2, g3, g4, g5, e0, e1, e2, hs', r0, r1, r2⟩ := Stmt.at HRD.out HBk.out hlt; have hw1 : ∃ w1, wr.alloc (.cells #[.int .i64 l[k].kind, .string l[k].name, .int .i64 l[k].cell, .slice A0 l[k].args.length c0, .slice A1 l[k].body.length c1, .slice A2 l[k].els.length c2] 36) = w1 := ⟨_, rfl⟩
   have hq1 : cnt (wr.alloc (.cells #[.int .i64 l[k].kind, .string l[k].name, .int .i64 l[k].cell, .slice A0 l[k].args.length c0, .slice A1 l[k].body.length c1, .slice A2 l[k].els.length c2] 36)) q (n0 + (Stmt.nodesL (l.take k) : Int)) := blk_alloc HCk.out _
   have hk1 : Keep (fun j => j = q) w (wr.alloc (.cells #[.int .i64 l[k].kind, .string l[k].name, .int .i64 l[k].cell, .slice A0 l[k].args.length c0, .slice A1 l[k].body.length c1, .slice A2 l[k].els.length c2] 36)) := HKk.out.alloc _
   have hx1 := blk_new wr (.cells #[.int .i64 l[k].kind, .string l[k].name, .int .i64 l[k].cell, .slice A0 l[k].args.length c0, .slice A1 l[k].body.length c1, .slice A2 l[k].els.length c2] 36); obtain ⟨w1, hw1⟩ := hw1; rw [hw1] at hq1 hk1 hx1; have HC1 := Lib.hid hq1; have HK1 := Lib.hid hk1; have HX1 := Lib.hid hx1; have HW1 := Lib.hid hw1; have HNQ := Lib.hid (show wr.heap.size ≠ q by have := blk_lt HCk.out; omega)
   have HR := Lib.hid (And.intro r0 (And.intro r1 r2)); have HE := Lib.hid (And.intro e0 (And.intro e1 e2)); have HS := Lib.hid hs'; clear hq1 hk1 hx1 hw1 r0 r1 r2 e0 e1 e2 hs'; by_cases hcn : 600 ≤ n0 + (Stmt.nodesL (l.take k) : Int)
   ·have HD := Lib.hid (show decide (n0 + (Stmt.nodesL (l.take k) : Int) + 1 ≤ 600) = false by simp; omega)
    have HNO := Lib.hid (show (blockB nameB blocks l && decide (n0 + (Stmt.nodesL l : Int) ≤ 600)) = false by
     have := HSZ.out; have := HNE.out; simp; omega)
    have HLO := Lib.hid (show 0 ≤ n0 + (Stmt.nodesL (l.take k) : Int) by omega)
    clear hcn; go_wp2_with (first | (have tk := HW1; clear tk; rw [HW1.out]; clear HW1) | (go_at_call 60; go_must (refine (one_calls q _ _ HC1.out HLO.out (by have := HLk.out; omega)).mono ?_); rintro x w2 ⟨rfl, hk2, hc2⟩; rw [HD.out]; have HK2 := Lib.hid (HK1.out.step hk2); have HC2 := Lib.hid hc2; clear hk2 hc2))
    go_ret; exact TestOK.no HNO.out HK2.out HC2.out
   ·have HD := Lib.hid (show decide (n0 + (Stmt.nodesL (l.take k) : Int) + 1 ≤ 600) = true by simp; omega)
    have HLO := Lib.hid (show 0 ≤ n0 + (Stmt.nodesL (l.take k) : Int) by omega)
    have HL1 := Lib.hid (show n0 + (Stmt.nodesL (l.take k) : Int) + 1 ≤ 600 by omega)
    clear hcn; have HI := Lib.hid (fun w2 (h1 : Below W.heap.size W w2) (h2 : cnt w2 q (n0 + (Stmt.nodesL (l.take k) : Int) + 1)) => HIH.out l[k] A0 c0 A1 c1 A2 c2 (by have := HSZ.out; omega) HR.out.1 HR.out.2.1 HR.out.2.2 HE.out.1 HE.out.2.1 HE.out.2.2 HS.out blocks (n0 + (Stmt.nodesL (l.take k) : Int) + 1) w2 (by omega) (by have := HLO.out; omega) HL1.out h1 h2)
    have hn : n0 + (Stmt.nodesL (l.take (k + 1)) : Int) = n0 + (Stmt.nodesL (l.take k) : Int) + 1 + ((Expr.nodesL l[k].args + Stmt.nodesL l[k].body + Stmt.nodesL l[k].els : Nat) : Int) := by
     rw [← List.take_append_getElem hlt, Stmt.nodesL_app]; have := HNE.out; simp [Stmt.nodesL]; omega
    have HNN := Lib.hid hn; clear hn; by_cases hv : (l[k].rightB nameB blocks && decide (n0 + (Stmt.nodesL (l.take k) : Int) + 1 + ((Expr.nodesL l[k].args + Stmt.nodesL l[k].body + Stmt.nodesL l[k].els : Nat) : Int) ≤ 600)) = true
    ·have HV := Lib.hid hv
     clear hv; go_wp2_with (first | (go_at_call 61; go_must (refine (HI.out _ HB2.out HC2.out).mono ?_); rintro x w3 ⟨rfl, hk3, c3, hc3, hcc⟩; rw [HV.out]; have HK3 := Lib.hid (HK2.out.step hk3); have HC3 := Lib.hid (hcc HV.out ▸ hc3); clear hk3 hc3 hcc) | (have tk := HW1; clear tk; rw [HW1.out]; clear HW1) | (go_at_call 60; go_must (refine (one_calls q _ _ HC1.out HLO.out (by have := HL1.out; omega)).mono ?_); rintro x w2 ⟨rfl, hk2, hc2⟩; rw [HD.out]; have HK2 := Lib.hid (HK1.out.step hk2); have HC2 := Lib.hid hc2; have HX2 := Lib.hid (hk2.blk HX1.out HNQ.out); have HB2 := Lib.hid (HBW.out.trans (HK2.out.toBelow HBW.out.size (fun j hj => by subst hj; exact HQW.out))); clear hk2 hc2; have f0 := blk_cell HX2.out 0; have f1 := blk_cell HX2.out 1; have f2 := blk_cell HX2.out 2; have f3 := blk_cell HX2.out 3; have f4 := blk_cell HX2.out 4; have f5 := blk_cell HX2.out 5))
     go_roundw
     case rel =>
      have hv := HV.out; rw [Bool.and_eq_true, decide_eq_true_eq] at hv; refine ⟨k + 1, by go_num, by omega, Lib.hid ?_, Lib.hid ?_, Lib.hid (by rw [HNN.out]; exact hv.2), HK3⟩
      ·rw [← List.take_append_getElem hlt, Stmt.rightsB_app, HRk.out]; simp [Stmt.rightsB, hv.1]
      ·rw [HNN.out]; exact HC3.out
     case measure => simp [intOf]; omega
    ·have HV := Lib.hid (show (l[k].rightB nameB blocks && decide (n0 + (Stmt.nodesL (l.take k) : Int) + 1 + ((Expr.nodesL l[k].args + Stmt.nodesL l[k].body + Stmt.nodesL l[k].els : Nat) : Int) ≤ 600)) = false by simpa using hv)
     have HNO := Lib.hid (show (blockB nameB blocks l && decide (n0 + (Stmt.nodesL l : Int) ≤ 600)) = false by
      rw [Bool.eq_false_iff]; intro h; rw [Bool.and_eq_true, decide_eq_true_eq, HBB.out] at h; apply hv
      rw [Bool.and_eq_true, decide_eq_true_eq]; exact ⟨Stmt.rightsB_all h.1 _ (List.getElem_mem hlt), by have := HSZ.out; have := HNE.out; omega⟩)
     clear hv; go_wp2_with (first | (go_at_call 61; go_must (refine (HI.out _ HB2.out HC2.out).mono ?_); rintro x w3 ⟨rfl, hk3, c3, hc3, hcc⟩; rw [HV.out]; have HK3 := Lib.hid (HK2.out.step hk3); have HC3 := Lib.hid hc3; clear hk3 hc3 hcc) | (have tk := HW1; clear tk; rw [HW1.out]; clear HW1) | (go_at_call 60; go_must (refine (one_calls q _ _ HC1.out HLO.out (by have := HL1.out; omega)).mono ?_); rintro x w2 ⟨rfl, hk2, hc2⟩; rw [HD.out]; have HK2 := Lib.hid (HK1.out.step hk2); have HC2 := Lib.hid hc2; have HX2 := Lib.hid (hk2.blk HX1.out HNQ.out); have HB2 := Lib.hid (HBW.out.trans (HK2.out.toBelow HBW.out.size (fun j hj => by subst hj; exact HQW.out))); clear hk2 hc2; have f0 := blk_cell HX2.out 0; have f1 := blk_cell HX2.out 1; have f2 := blk_cell HX2.out 2; have f3 := blk_cell HX2.out 3; have f4 := blk_cell HX2.out 4; have f5 := blk_cell HX2.out 5))
     go_ret; exact TestOK.no HNO.out HK3.out HC3.out
  ·have hk' : k = l.length := by omega
   subst hk'; go_wp2; go_ret; have hr := HRk.out; have hl2 := HLk.out; have hc2 := HCk.out; rw [List.take_length] at hr hl2 hc2; exact TestOK.yes (by rw [HBB.out, hr, Bool.true_and, decide_eq_true_eq]; exact hl2) HKk.out hc2 rfl
set_option maxRecDepth 100000 in
set_option maxHeartbeats 8000000 in
theorem rstmt_calls (W : World) (q : Nat) (hqW : W.heap.size ≤ q) (N : Nat) (hNN : N ≤ 1000000000) : StmtT W q N := by
 induction N with
 | zero => intro s A0 c0 A1 c1 A2 c2 hN; have := s.nodes_eq; omega
 | succ N ih =>
  intro s A0 c0 A1 c1 A2 c2 hN hrd hrd1 hrd2 hc0 hc1 hc2 hs blocks n0 w hbl h0 h6 hB hq; have HNE := Lib.hid (s.nodes_eq); have HNN := Lib.hid hN; have HRB := Lib.hid (s.rightB_eq nameB blocks); have HNX := Lib.hid (fun (hh : headB nameB s.kind s.name s.cell s.args.length s.body.length s.els.length = false) => (show (s.rightB nameB blocks && decide (n0 + ((Expr.nodesL s.args + Stmt.nodesL s.body + Stmt.nodesL s.els : Nat) : Int) ≤ 600)) = false by rw [HRB.out, hh]; rfl))
  have HBW := Lib.hid hB; have HRD := Lib.hid (And.intro hrd (And.intro hrd1 hrd2)); have ih := ih (by omega)
  have HIH := Lib.hid ih; have HSZ := Lib.hid hs; have HQW := Lib.hid hqW; have hlt := blk_lt hq; have HBL := Lib.hid (fun (l : List Stmt) A c h1 h2 h3 n w h4 h5 h6 h7 => rblock_of W q N hqW ih l A c h1 h2 h3 (blocks + 1) n w (by omega) h4 h5 h6 h7)
  have HK0 : Hid (Keep (fun k => k = q) w (w.alloc (.cells #[.int .i64 s.kind, .string s.name, .int .i64 s.cell, .slice A0 s.args.length c0, .slice A1 s.body.length c1, .slice A2 s.els.length c2] 36))) := Lib.hid (Keep.alloc (Keep.refl _ _) _)
  have HC0 := Lib.hid (show cnt (w.alloc (.cells #[.int .i64 s.kind, .string s.name, .int .i64 s.cell, .slice A0 s.args.length c0, .slice A1 s.body.length c1, .slice A2 s.els.length c2] 36)) q n0 from blk_alloc hq _)
  have hx := blk_new w (.cells #[.int .i64 s.kind, .string s.name, .int .i64 s.cell, .slice A0 s.args.length c0, .slice A1 s.body.length c1, .slice A2 s.els.length c2] 36); obtain ⟨w0, hw0⟩ : ∃ w0, w.alloc (.cells #[.int .i64 s.kind, .string s.name, .int .i64 s.cell, .slice A0 s.args.length c0, .slice A1 s.body.length c1, .slice A2 s.els.length c2] 36) = w0 := ⟨_, rfl⟩
  rw [hw0] at HK0 HC0 hx; have HX := Lib.hid hx; have HW := Lib.hid hw0; have HQ := Lib.hid (show w.heap.size ≠ q by omega)
  have hdb := empty_beq s.name; have hdn : (s.name.toList != []) = !decide (s.name = ByteArray.empty) := by rw [bne, hdb]
  have HLEN := Lib.hid (show s.body.length ≤ 1000000000 ∧ s.els.length ≤ 1000000000 by have := Stmt.nodesL_len s.body; have := Stmt.nodesL_len s.els; have := HNE.out; omega)
  clear hq hB hrd hrd1 hrd2 hw0 hx ih hs hlt hN hqW; have hkk : s.kind = 1 ∨ s.kind = 2 ∨ s.kind = 3 ∨ s.kind = 4 ∨ s.kind = 5 ∨ s.kind = 6 ∨ s.kind = 7 ∨ s.kind = 8 ∨ s.kind = 9 ∨ ¬ (1 ≤ s.kind ∧ s.kind ≤ 9) := by omega
  rcases hkk with hK | hK | hK | hK | hK | hK | hK | hK | hK | hK
  focus
   have t1 : (s.kind == 1) = true := by simp [hK]
   have u1 : (s.kind != 1) = false := by simp [hK]
   have t2 : (s.kind == 2) = false := by simp [hK]
   have u2 : (s.kind != 2) = true := by simp [hK]
   have t3 : (s.kind == 3) = false := by simp [hK]
   have u3 : (s.kind != 3) = true := by simp [hK]
   have t4 : (s.kind == 4) = false := by simp [hK]
   have u4 : (s.kind != 4) = true := by simp [hK]
   have t5 : (s.kind == 5) = false := by simp [hK]
   have u5 : (s.kind != 5) = true := by simp [hK]
   have t6 : (s.kind == 6) = false := by simp [hK]
   have u6 : (s.kind != 6) = true := by simp [hK]
   have t7 : (s.kind == 7) = false := by simp [hK]
   have u7 : (s.kind != 7) = true := by simp [hK]
   have t8 : (s.kind == 8) = false := by simp [hK]
   have u8 : (s.kind != 8) = true := by simp [hK]
   have t9 : (s.kind == 9) = false := by simp [hK]
   have u9 : (s.kind != 9) = true := by simp [hK]
   by_cases hl : ¬ (s.args.length = 1)
   focus
    have hl' : ((s.args.length : Int) != 1) = true := by rw [bne_iff_ne]; omega
    have hli : ¬ ((s.args.length : Int) = 1) := by omega
    have HNO := Lib.hid (HNX.out (by simp [headB, wantA, hK, hli]))
    clear hK hl hli hdb hdn; have WL := True.intro
   rotate_left; rw [Decidable.not_not] at hl; have hl' : ((s.args.length : Int) != 1) = false := by rw [bne_eq_false_iff_eq]; omega
   by_cases hn : nameB s.name = false
   focus
    have HNm := Lib.hid hn; have HNO := Lib.hid (HNX.out (by simp [headB, wantA, hK, hn]))
    clear hK hl hn hdb hdn; have WL := True.intro
   rotate_left; have HNm := Lib.hid (show nameB s.name = true by simpa using hn)
   have hn := HNm.out; by_cases hcc : ¬ (s.cell = 0)
   focus
    have d3 : (s.cell != 0) = true := by simp [hcc]
    have HNO := Lib.hid (HNX.out (by simp [headB, wantA, hK, hcc]))
    clear hK hl hn hdb hdn hcc; have WL := True.intro
   rotate_left; rw [Decidable.not_not] at hcc; have d3 : (s.cell != 0) = false := by simp [hcc]
   have hcell := hcc; clear hcc; by_cases hb : ¬ (s.body.length = 0)
   focus
    have hb' : (s.body.length : Int) > 0 := by omega
    have HNO := Lib.hid (HNX.out (by simp [headB, wantA, hK, hb]))
    clear hK hl hn hdb hdn hcell; have WL := True.intro
   rotate_left; rw [Decidable.not_not] at hb; have HBZ := Lib.hid hb; by_cases he2 : ¬ (s.els.length = 0)
   focus
    have he2' : (s.els.length : Int) > 0 := by omega
    have HNO := Lib.hid (HNX.out (by simp [headB, wantA, hK, he2]))
    clear hK hl hn hdb hdn hcell hb; have WL := True.intro
   rotate_left; rw [Decidable.not_not] at he2; have HEZ := Lib.hid he2; have HHD := Lib.hid (show headB nameB s.kind s.name s.cell s.args.length s.body.length s.els.length = true from by simp [headB, wantA, hK, hl, hn, hcell, hb, he2])
   have HRR := Lib.hid (show s.rightB nameB blocks = (Expr.rightsB nameB 1 s.args && (true)) by rw [HRB.out, HHD.out]; simp [hK, blockB, he2, Bool.and_assoc])
   have hbody : s.body = [] := List.eq_nil_of_length_eq_zero hb
   have HBN := Lib.hid (show Stmt.nodesL s.body = 0 by rw [hbody]; rfl)
   clear hbody; have hels : s.els = [] := List.eq_nil_of_length_eq_zero he2
   have HEN := Lib.hid (show Stmt.nodesL s.els = 0 by rw [hels]; rfl)
   clear hels; have hlen : s.args.length ≤ 2 := by omega
   clear hK hl hn hdb hdn hcell hb he2; have WM := True.intro
  rotate_left 6; focus
   have t1 : (s.kind == 1) = false := by simp [hK]
   have u1 : (s.kind != 1) = true := by simp [hK]
   have t2 : (s.kind == 2) = true := by simp [hK]
   have u2 : (s.kind != 2) = false := by simp [hK]
   have t3 : (s.kind == 3) = false := by simp [hK]
   have u3 : (s.kind != 3) = true := by simp [hK]
   have t4 : (s.kind == 4) = false := by simp [hK]
   have u4 : (s.kind != 4) = true := by simp [hK]
   have t5 : (s.kind == 5) = false := by simp [hK]
   have u5 : (s.kind != 5) = true := by simp [hK]
   have t6 : (s.kind == 6) = false := by simp [hK]
   have u6 : (s.kind != 6) = true := by simp [hK]
   have t7 : (s.kind == 7) = false := by simp [hK]
   have u7 : (s.kind != 7) = true := by simp [hK]
   have t8 : (s.kind == 8) = false := by simp [hK]
   have u8 : (s.kind != 8) = true := by simp [hK]
   have t9 : (s.kind == 9) = false := by simp [hK]
   have u9 : (s.kind != 9) = true := by simp [hK]
   by_cases hl : ¬ (s.args.length = 1)
   focus
    have hl' : ((s.args.length : Int) != 1) = true := by rw [bne_iff_ne]; omega
    have hli : ¬ ((s.args.length : Int) = 1) := by omega
    have HNO := Lib.hid (HNX.out (by simp [headB, wantA, hK, hli]))
    clear hK hl hli hdb hdn; have WL := True.intro
   rotate_left; rw [Decidable.not_not] at hl; have hl' : ((s.args.length : Int) != 1) = false := by rw [bne_eq_false_iff_eq]; omega
   by_cases hn : nameB s.name = false
   focus
    have HNm := Lib.hid hn; have HNO := Lib.hid (HNX.out (by simp [headB, wantA, hK, hn]))
    clear hK hl hn hdb hdn; have WL := True.intro
   rotate_left; have HNm := Lib.hid (show nameB s.name = true by simpa using hn)
   have hn := HNm.out; by_cases hcc : ¬ (s.cell = 0)
   focus
    have d3 : (s.cell != 0) = true := by simp [hcc]
    have HNO := Lib.hid (HNX.out (by simp [headB, wantA, hK, hcc]))
    clear hK hl hn hdb hdn hcc; have WL := True.intro
   rotate_left; rw [Decidable.not_not] at hcc; have d3 : (s.cell != 0) = false := by simp [hcc]
   have hcell := hcc; clear hcc; by_cases hb : ¬ (s.body.length = 0)
   focus
    have hb' : (s.body.length : Int) > 0 := by omega
    have HNO := Lib.hid (HNX.out (by simp [headB, wantA, hK, hb]))
    clear hK hl hn hdb hdn hcell; have WL := True.intro
   rotate_left; rw [Decidable.not_not] at hb; have HBZ := Lib.hid hb; by_cases he2 : ¬ (s.els.length = 0)
   focus
    have he2' : (s.els.length : Int) > 0 := by omega
    have HNO := Lib.hid (HNX.out (by simp [headB, wantA, hK, he2]))
    clear hK hl hn hdb hdn hcell hb; have WL := True.intro
   rotate_left; rw [Decidable.not_not] at he2; have HEZ := Lib.hid he2; have HHD := Lib.hid (show headB nameB s.kind s.name s.cell s.args.length s.body.length s.els.length = true from by simp [headB, wantA, hK, hl, hn, hcell, hb, he2])
   have HRR := Lib.hid (show s.rightB nameB blocks = (Expr.rightsB nameB 1 s.args && (true)) by rw [HRB.out, HHD.out]; simp [hK, blockB, he2, Bool.and_assoc])
   have hbody : s.body = [] := List.eq_nil_of_length_eq_zero hb
   have HBN := Lib.hid (show Stmt.nodesL s.body = 0 by rw [hbody]; rfl)
   clear hbody; have hels : s.els = [] := List.eq_nil_of_length_eq_zero he2
   have HEN := Lib.hid (show Stmt.nodesL s.els = 0 by rw [hels]; rfl)
   clear hels; have hlen : s.args.length ≤ 2 := by omega
   clear hK hl hn hdb hdn hcell hb he2; have WM := True.intro
  rotate_left 6; focus
   have t1 : (s.kind == 1) = false := by simp [hK]
   have u1 : (s.kind != 1) = true := by simp [hK]
   have t2 : (s.kind == 2) = false := by simp [hK]
   have u2 : (s.kind != 2) = true := by simp [hK]
   have t3 : (s.kind == 3) = true := by simp [hK]
   have u3 : (s.kind != 3) = false := by simp [hK]
   have t4 : (s.kind == 4) = false := by simp [hK]
   have u4 : (s.kind != 4) = true := by simp [hK]
   have t5 : (s.kind == 5) = false := by simp [hK]
   have u5 : (s.kind != 5) = true := by simp [hK]
   have t6 : (s.kind == 6) = false := by simp [hK]
   have u6 : (s.kind != 6) = true := by simp [hK]
   have t7 : (s.kind == 7) = false := by simp [hK]
   have u7 : (s.kind != 7) = true := by simp [hK]
   have t8 : (s.kind == 8) = false := by simp [hK]
   have u8 : (s.kind != 8) = true := by simp [hK]
   have t9 : (s.kind == 9) = false := by simp [hK]
   have u9 : (s.kind != 9) = true := by simp [hK]
   by_cases hl : ¬ (s.args.length = 2)
   focus
    have hl' : ((s.args.length : Int) != 2) = true := by rw [bne_iff_ne]; omega
    have hli : ¬ ((s.args.length : Int) = 2) := by omega
    have HNO := Lib.hid (HNX.out (by simp [headB, wantA, hK, hli]))
    clear hK hl hli hdb hdn; have WL := True.intro
   rotate_left; rw [Decidable.not_not] at hl; have hl' : ((s.args.length : Int) != 2) = false := by rw [bne_eq_false_iff_eq]; omega
   by_cases hn : nameB s.name = true
   focus
    have HNm := Lib.hid hn; have HNO := Lib.hid (HNX.out (by simp [headB, wantA, hK, hn]))
    clear hK hl hn hdb hdn; have WL := True.intro
   rotate_left; have HNm := Lib.hid (show nameB s.name = false by simpa using hn)
   clear hn; have hn := HNm.out; by_cases he : ¬ (s.name = ByteArray.empty)
   focus
    have d1 : (s.name.toList == []) = false := by rw [hdb]; simp [he]
    have d2 : (s.name.toList != []) = true := by rw [hdn]; simp [he]
    have HNO := Lib.hid (HNX.out (by simp [headB, wantA, hK, he]))
    clear hK hl hn he hdb hdn; have WL := True.intro
   rotate_left; rw [Decidable.not_not] at he; have d1 : (s.name.toList == []) = true := by rw [hdb]; simp [he]
   have d2 : (s.name.toList != []) = false := by rw [hdn]; simp [he]
   by_cases hcc : ¬ (s.cell = 0)
   focus
    have d3 : (s.cell != 0) = true := by simp [hcc]
    have HNO := Lib.hid (HNX.out (by simp [headB, wantA, hK, hcc]))
    clear hK hl hn hdb hdn he hcc; have WL := True.intro
   rotate_left; rw [Decidable.not_not] at hcc; have d3 : (s.cell != 0) = false := by simp [hcc]
   have hcell := hcc; clear hcc; by_cases hb : ¬ (s.body.length = 0)
   focus
    have hb' : (s.body.length : Int) > 0 := by omega
    have HNO := Lib.hid (HNX.out (by simp [headB, wantA, hK, hb]))
    clear hK hl hn hdb hdn he hcell; have WL := True.intro
   rotate_left; rw [Decidable.not_not] at hb; have HBZ := Lib.hid hb; by_cases he2 : ¬ (s.els.length = 0)
   focus
    have he2' : (s.els.length : Int) > 0 := by omega
    have HNO := Lib.hid (HNX.out (by simp [headB, wantA, hK, he2]))
    clear hK hl hn hdb hdn he hcell hb; have WL := True.intro
   rotate_left; rw [Decidable.not_not] at he2; have HEZ := Lib.hid he2; have HHD := Lib.hid (show headB nameB s.kind s.name s.cell s.args.length s.body.length s.els.length = true from by simp [headB, wantA, hK, hl, hn, hcell, he, (he ▸ hn : nameB ByteArray.empty = false), hb, he2])
   have HRR := Lib.hid (show s.rightB nameB blocks = (Expr.rightsB nameB 1 s.args && (true)) by rw [HRB.out, HHD.out]; simp [hK, blockB, he2, Bool.and_assoc])
   have hbody : s.body = [] := List.eq_nil_of_length_eq_zero hb
   have HBN := Lib.hid (show Stmt.nodesL s.body = 0 by rw [hbody]; rfl)
   clear hbody; have hels : s.els = [] := List.eq_nil_of_length_eq_zero he2
   have HEN := Lib.hid (show Stmt.nodesL s.els = 0 by rw [hels]; rfl)
   clear hels; have hlen : s.args.length ≤ 2 := by omega
   clear hK hl hn hdb hdn he hcell hb he2; have WM := True.intro
  rotate_left 7; focus
   have t1 : (s.kind == 1) = false := by simp [hK]
   have u1 : (s.kind != 1) = true := by simp [hK]
   have t2 : (s.kind == 2) = false := by simp [hK]
   have u2 : (s.kind != 2) = true := by simp [hK]
   have t3 : (s.kind == 3) = false := by simp [hK]
   have u3 : (s.kind != 3) = true := by simp [hK]
   have t4 : (s.kind == 4) = true := by simp [hK]
   have u4 : (s.kind != 4) = false := by simp [hK]
   have t5 : (s.kind == 5) = false := by simp [hK]
   have u5 : (s.kind != 5) = true := by simp [hK]
   have t6 : (s.kind == 6) = false := by simp [hK]
   have u6 : (s.kind != 6) = true := by simp [hK]
   have t7 : (s.kind == 7) = false := by simp [hK]
   have u7 : (s.kind != 7) = true := by simp [hK]
   have t8 : (s.kind == 8) = false := by simp [hK]
   have u8 : (s.kind != 8) = true := by simp [hK]
   have t9 : (s.kind == 9) = false := by simp [hK]
   have u9 : (s.kind != 9) = true := by simp [hK]
   by_cases hl : ¬ (s.args.length = 1)
   focus
    have hl' : ((s.args.length : Int) != 1) = true := by rw [bne_iff_ne]; omega
    have hli : ¬ ((s.args.length : Int) = 1) := by omega
    have HNO := Lib.hid (HNX.out (by simp [headB, wantA, hK, hli]))
    clear hK hl hli hdb hdn; have WL := True.intro
   rotate_left; rw [Decidable.not_not] at hl; have hl' : ((s.args.length : Int) != 1) = false := by rw [bne_eq_false_iff_eq]; omega
   by_cases hn : nameB s.name = true
   focus
    have HNm := Lib.hid hn; have HNO := Lib.hid (HNX.out (by simp [headB, wantA, hK, hn]))
    clear hK hl hn hdb hdn; have WL := True.intro
   rotate_left; have HNm := Lib.hid (show nameB s.name = false by simpa using hn)
   clear hn; have hn := HNm.out; by_cases he : ¬ (s.name = ByteArray.empty)
   focus
    have d1 : (s.name.toList == []) = false := by rw [hdb]; simp [he]
    have d2 : (s.name.toList != []) = true := by rw [hdn]; simp [he]
    have HNO := Lib.hid (HNX.out (by simp [headB, wantA, hK, he]))
    clear hK hl hn he hdb hdn; have WL := True.intro
   rotate_left; rw [Decidable.not_not] at he; have d1 : (s.name.toList == []) = true := by rw [hdb]; simp [he]
   have d2 : (s.name.toList != []) = false := by rw [hdn]; simp [he]
   by_cases hcc : ¬ (s.cell = 0)
   focus
    have d3 : (s.cell != 0) = true := by simp [hcc]
    have HNO := Lib.hid (HNX.out (by simp [headB, wantA, hK, hcc]))
    clear hK hl hn hdb hdn he hcc; have WL := True.intro
   rotate_left; rw [Decidable.not_not] at hcc; have d3 : (s.cell != 0) = false := by simp [hcc]
   have hcell := hcc; clear hcc; by_cases hb : ¬ (s.body.length = 0)
   focus
    have hb' : (s.body.length : Int) > 0 := by omega
    have HNO := Lib.hid (HNX.out (by simp [headB, wantA, hK, hb]))
    clear hK hl hn hdb hdn he hcell; have WL := True.intro
   rotate_left; rw [Decidable.not_not] at hb; have HBZ := Lib.hid hb; by_cases he2 : ¬ (s.els.length = 0)
   focus
    have he2' : (s.els.length : Int) > 0 := by omega
    have HNO := Lib.hid (HNX.out (by simp [headB, wantA, hK, he2]))
    clear hK hl hn hdb hdn he hcell hb; have WL := True.intro
   rotate_left; rw [Decidable.not_not] at he2; have HEZ := Lib.hid he2; have HHD := Lib.hid (show headB nameB s.kind s.name s.cell s.args.length s.body.length s.els.length = true from by simp [headB, wantA, hK, hl, hn, hcell, he, (he ▸ hn : nameB ByteArray.empty = false), hb, he2])
   have HRR := Lib.hid (show s.rightB nameB blocks = (Expr.rightsB nameB 1 s.args && (true)) by rw [HRB.out, HHD.out]; simp [hK, blockB, he2, Bool.and_assoc])
   have hbody : s.body = [] := List.eq_nil_of_length_eq_zero hb
   have HBN := Lib.hid (show Stmt.nodesL s.body = 0 by rw [hbody]; rfl)
   clear hbody; have hels : s.els = [] := List.eq_nil_of_length_eq_zero he2
   have HEN := Lib.hid (show Stmt.nodesL s.els = 0 by rw [hels]; rfl)
   clear hels; have hlen : s.args.length ≤ 2 := by omega
   clear hK hl hn hdb hdn he hcell hb he2; have WM := True.intro
  rotate_left 7; focus
   have t1 : (s.kind == 1) = false := by simp [hK]
   have u1 : (s.kind != 1) = true := by simp [hK]
   have t2 : (s.kind == 2) = false := by simp [hK]
   have u2 : (s.kind != 2) = true := by simp [hK]
   have t3 : (s.kind == 3) = false := by simp [hK]
   have u3 : (s.kind != 3) = true := by simp [hK]
   have t4 : (s.kind == 4) = false := by simp [hK]
   have u4 : (s.kind != 4) = true := by simp [hK]
   have t5 : (s.kind == 5) = true := by simp [hK]
   have u5 : (s.kind != 5) = false := by simp [hK]
   have t6 : (s.kind == 6) = false := by simp [hK]
   have u6 : (s.kind != 6) = true := by simp [hK]
   have t7 : (s.kind == 7) = false := by simp [hK]
   have u7 : (s.kind != 7) = true := by simp [hK]
   have t8 : (s.kind == 8) = false := by simp [hK]
   have u8 : (s.kind != 8) = true := by simp [hK]
   have t9 : (s.kind == 9) = false := by simp [hK]
   have u9 : (s.kind != 9) = true := by simp [hK]
   by_cases hl : ¬ (s.args.length = 1)
   focus
    have hl' : ((s.args.length : Int) != 1) = true := by rw [bne_iff_ne]; omega
    have hli : ¬ ((s.args.length : Int) = 1) := by omega
    have HNO := Lib.hid (HNX.out (by simp [headB, wantA, hK, hli]))
    clear hK hl hli hdb hdn; have WL := True.intro
   rotate_left; rw [Decidable.not_not] at hl; have hl' : ((s.args.length : Int) != 1) = false := by rw [bne_eq_false_iff_eq]; omega
   by_cases hn : nameB s.name = true
   focus
    have HNm := Lib.hid hn; have HNO := Lib.hid (HNX.out (by simp [headB, wantA, hK, hn]))
    clear hK hl hn hdb hdn; have WL := True.intro
   rotate_left; have HNm := Lib.hid (show nameB s.name = false by simpa using hn)
   clear hn; have hn := HNm.out; by_cases he : ¬ (s.name = ByteArray.empty)
   focus
    have d1 : (s.name.toList == []) = false := by rw [hdb]; simp [he]
    have d2 : (s.name.toList != []) = true := by rw [hdn]; simp [he]
    have HNO := Lib.hid (HNX.out (by simp [headB, wantA, hK, he]))
    clear hK hl hn he hdb hdn; have WL := True.intro
   rotate_left; rw [Decidable.not_not] at he; have d1 : (s.name.toList == []) = true := by rw [hdb]; simp [he]
   have d2 : (s.name.toList != []) = false := by rw [hdn]; simp [he]
   by_cases c1 : s.cell < 0
   focus
    have hcc : ¬ (0 ≤ s.cell) := by omega
    have HNO := Lib.hid (HNX.out (by simp [headB, wantA, hK, hcc]))
    clear hK hl hn hdb hdn he hcc; have WL := True.intro
   rotate_left; by_cases c2 : s.cell > 255
   focus
    have hcc : ¬ (s.cell ≤ 255) := by omega
    have HNO := Lib.hid (HNX.out (by simp [headB, wantA, hK, hcc]))
    clear hK hl hn hdb hdn he hcc; have WL := True.intro
   rotate_left; have hcell : 0 ≤ s.cell ∧ s.cell ≤ 255 := by omega
   by_cases hb : ¬ (s.body.length = 0)
   focus
    have hb' : (s.body.length : Int) > 0 := by omega
    have HNO := Lib.hid (HNX.out (by simp [headB, wantA, hK, hb]))
    clear hK hl hn hdb hdn he hcell; have WL := True.intro
   rotate_left; rw [Decidable.not_not] at hb; have HBZ := Lib.hid hb; by_cases he2 : ¬ (s.els.length = 0)
   focus
    have he2' : (s.els.length : Int) > 0 := by omega
    have HNO := Lib.hid (HNX.out (by simp [headB, wantA, hK, he2]))
    clear hK hl hn hdb hdn he hcell hb; have WL := True.intro
   rotate_left; rw [Decidable.not_not] at he2; have HEZ := Lib.hid he2; have HHD := Lib.hid (show headB nameB s.kind s.name s.cell s.args.length s.body.length s.els.length = true from by simp [headB, wantA, hK, hl, hn, hcell, he, (he ▸ hn : nameB ByteArray.empty = false), hb, he2])
   have HRR := Lib.hid (show s.rightB nameB blocks = (Expr.rightsB nameB 1 s.args && (true)) by rw [HRB.out, HHD.out]; simp [hK, blockB, he2, Bool.and_assoc])
   have hbody : s.body = [] := List.eq_nil_of_length_eq_zero hb
   have HBN := Lib.hid (show Stmt.nodesL s.body = 0 by rw [hbody]; rfl)
   clear hbody; have hels : s.els = [] := List.eq_nil_of_length_eq_zero he2
   have HEN := Lib.hid (show Stmt.nodesL s.els = 0 by rw [hels]; rfl)
   clear hels; have hlen : s.args.length ≤ 2 := by omega
   clear hK hl hn hdb hdn he hcell hb he2; have WM := True.intro
  rotate_left 8; focus
   have t1 : (s.kind == 1) = false := by simp [hK]
   have u1 : (s.kind != 1) = true := by simp [hK]
   have t2 : (s.kind == 2) = false := by simp [hK]
   have u2 : (s.kind != 2) = true := by simp [hK]
   have t3 : (s.kind == 3) = false := by simp [hK]
   have u3 : (s.kind != 3) = true := by simp [hK]
   have t4 : (s.kind == 4) = false := by simp [hK]
   have u4 : (s.kind != 4) = true := by simp [hK]
   have t5 : (s.kind == 5) = false := by simp [hK]
   have u5 : (s.kind != 5) = true := by simp [hK]
   have t6 : (s.kind == 6) = true := by simp [hK]
   have u6 : (s.kind != 6) = false := by simp [hK]
   have t7 : (s.kind == 7) = false := by simp [hK]
   have u7 : (s.kind != 7) = true := by simp [hK]
   have t8 : (s.kind == 8) = false := by simp [hK]
   have u8 : (s.kind != 8) = true := by simp [hK]
   have t9 : (s.kind == 9) = false := by simp [hK]
   have u9 : (s.kind != 9) = true := by simp [hK]
   by_cases hl : ¬ (s.args.length = 1)
   focus
    have hl' : ((s.args.length : Int) != 1) = true := by rw [bne_iff_ne]; omega
    have hli : ¬ ((s.args.length : Int) = 1) := by omega
    have HNO := Lib.hid (HNX.out (by simp [headB, wantA, hK, hli]))
    clear hK hl hli hdb hdn; have WL := True.intro
   rotate_left; rw [Decidable.not_not] at hl; have hl' : ((s.args.length : Int) != 1) = false := by rw [bne_eq_false_iff_eq]; omega
   by_cases hn : nameB s.name = true
   focus
    have HNm := Lib.hid hn; have HNO := Lib.hid (HNX.out (by simp [headB, wantA, hK, hn]))
    clear hK hl hn hdb hdn; have WL := True.intro
   rotate_left; have HNm := Lib.hid (show nameB s.name = false by simpa using hn)
   clear hn; have hn := HNm.out; by_cases he : ¬ (s.name = ByteArray.empty)
   focus
    have d1 : (s.name.toList == []) = false := by rw [hdb]; simp [he]
    have d2 : (s.name.toList != []) = true := by rw [hdn]; simp [he]
    have HNO := Lib.hid (HNX.out (by simp [headB, wantA, hK, he]))
    clear hK hl hn he hdb hdn; have WL := True.intro
   rotate_left; rw [Decidable.not_not] at he; have d1 : (s.name.toList == []) = true := by rw [hdb]; simp [he]
   have d2 : (s.name.toList != []) = false := by rw [hdn]; simp [he]
   by_cases hcc : ¬ (s.cell = 0)
   focus
    have d3 : (s.cell != 0) = true := by simp [hcc]
    have HNO := Lib.hid (HNX.out (by simp [headB, wantA, hK, hcc]))
    clear hK hl hn hdb hdn he hcc; have WL := True.intro
   rotate_left; rw [Decidable.not_not] at hcc; have d3 : (s.cell != 0) = false := by simp [hcc]
   have hcell := hcc; clear hcc; have HHD := Lib.hid (show headB nameB s.kind s.name s.cell s.args.length s.body.length s.els.length = true from by simp [headB, wantA, hK, hl, hn, hcell, he, (he ▸ hn : nameB ByteArray.empty = false)])
   have HRR := Lib.hid (show s.rightB nameB blocks = (Expr.rightsB nameB 1 s.args && (blockB nameB (blocks + 1) s.body && (if s.els.length = 0 then true else blockB nameB (blocks + 1) s.els))) by rw [HRB.out, HHD.out]; simp [hK, blockB, Bool.and_assoc])
   have hlen : s.args.length ≤ 2 := by omega
   clear hK hl hn hdb hdn he hcell
   ·go_enter Try.func61, Try.ntmps61
    go_wp2_with (first | (go_at_call 83; go_must (refine (lexName_calls s.name _ HSZ.out).mono ?_); rintro x w1 ⟨rfl, hww⟩; obtain rfl := hww.symm; rw [HNm.out]) | (have tk := HW; clear tk; rw [HW.out]; clear HW; have f0 := blk_cell HX.out 0; have f1 := blk_cell HX.out 1; have f2 := blk_cell HX.out 2; have f3 := blk_cell HX.out 3; have f4 := blk_cell HX.out 4; have f5 := blk_cell HX.out 5))
    skip; go_loopw [101] (fun at_ wr => ∃ (k : Nat), at_ = .int .i64 (k : Int) ∧ k ≤ s.args.length ∧ Hid (Expr.rightsB nameB 1 (s.args.take k) = true) ∧ Hid (cnt wr q (n0 + (Expr.nodesL (s.args.take k) : Int))) ∧ Hid (n0 + (Expr.nodesL (s.args.take k) : Int) ≤ 600) ∧ Hid (Keep (fun j => j = q) w0 wr)) (fun a _ => s.args.length - (intOf a).toNat)
    case atStart => exact ⟨0, rfl, Nat.zero_le _, Lib.hid rfl, Lib.hid (by simpa [Expr.nodesL] using HC0.out), Lib.hid (by simp [Expr.nodesL]; omega), Lib.hid (Keep.refl _ _)⟩
    case round =>
     obtain ⟨k, rfl, hk, HRk, HCk, HLk, HKk⟩ := hrel; clear f0 f1 f2 f3 f4 f5 HC0; have HKw := Lib.hid (HK0.out.step HKk.out); have HBk := Lib.hid (HBW.out.trans (HKw.out.toBelow HBW.out.size (fun j hj => by subst hj; exact HQW.out)))
     by_cases hlt : k < s.args.length
     ·have hlt' : ((k : Int) < (s.args.length : Int)) := by omega
      have HSZk := Lib.hid (Expr.nodesL_take s.args k hlt); obtain ⟨b, o, A', c', rfl, hbW, g0, g1, g2, g3, g4, hc', hs', hrd'⟩ := Expr.at HRD.out.1 HBk.out hlt; have hq2 : cnt (wr.alloc (.cells #[.int .i64 s.args[k].kind, .int .i64 s.args[k].num, .string s.args[k].name, .int .i64 s.args[k].op, .slice A' s.args[k].args.length c'] 66)) q (n0 + (Expr.nodesL (s.args.take k) : Int)) := blk_alloc HCk.out _
      have hI := rexpr_calls W q HQW.out _ s.args[k] A' c' (Nat.le_refl _) hrd' hc' hs' 1 _ _ (by omega) (by omega) HLk.out (HBk.out.alloc HBk.out.size _) hq2
      have HI := Lib.hid hI; clear hI hq2; by_cases hv : (s.args[k].rightB nameB 1 && decide (n0 + (Expr.nodesL (s.args.take k) : Int) + (s.args[k].nodes : Int) ≤ 600)) = true
      ·have HV := Lib.hid hv
       clear hv; go_wp2_with (go_at_call 84; go_must (refine HI.out.mono ?_); rintro x w' ⟨rfl, hk2, c3, hc3, hcc⟩; rw [HV.out]; have HK3 := Lib.hid ((HKk.out.alloc _).step hk2); have HC3 := Lib.hid (hcc HV.out ▸ hc3); clear hk2 hc3 hcc)
       go_roundw
       case rel =>
        have hv := HV.out; rw [Bool.and_eq_true, decide_eq_true_eq] at hv; have hn : (Expr.nodesL (s.args.take (k + 1)) : Int) = (Expr.nodesL (s.args.take k) : Int) + (s.args[k].nodes : Int) := by rw [← List.take_append_getElem hlt, Expr.nodesL_app]; simp [Expr.nodesL]
        refine ⟨k + 1, by go_num, by omega, Lib.hid ?_, Lib.hid ?_, Lib.hid (by rw [hn]; omega), HK3⟩
        ·rw [← List.take_append_getElem hlt, Expr.rightsB_snoc, HRk.out, hv.1]; rfl
        ·rw [hn, ← Int.add_assoc]; exact HC3.out
       case measure => simp [intOf]; omega
      ·have HV := Lib.hid (show (s.args[k].rightB nameB 1 && decide (n0 + (Expr.nodesL (s.args.take k) : Int) + (s.args[k].nodes : Int) ≤ 600)) = false by simpa using hv)
       have HNO := Lib.hid (show (s.rightB nameB blocks && decide (n0 + ((Expr.nodesL s.args + Stmt.nodesL s.body + Stmt.nodesL s.els : Nat) : Int) ≤ 600)) = false by
        rw [Bool.eq_false_iff]; intro h; rw [Bool.and_eq_true, decide_eq_true_eq, HRR.out, Bool.and_eq_true] at h; apply hv
        rw [Bool.and_eq_true, decide_eq_true_eq]; exact ⟨Expr.rightsB_all h.1.1 _ (List.getElem_mem hlt), by have := HSZk.out; omega⟩)
       clear hv; go_wp2_with (go_at_call 84; go_must (refine HI.out.mono ?_); rintro x w' ⟨rfl, hk2, c3, hc3, hcc⟩; rw [HV.out]; have HK3 := Lib.hid ((HKk.out.alloc _).step hk2); have HC3 := Lib.hid hc3; clear hk2 hc3 hcc)
       go_ret; exact TestOK.no HNO.out (HK0.out.step HK3.out) HC3.out
     ·have hk' : k = s.args.length := by omega
      subst hk'; have hr := HRk.out; have hl2 := HLk.out; have hc2 := HCk.out; rw [List.take_length] at hr hl2 hc2; have HR2 := Lib.hid hr; have HL2 := Lib.hid hl2; have HC2 := Lib.hid hc2; have HXr := Lib.hid (HKk.out.blk HX.out HQ.out); have HLO := Lib.hid (show 0 ≤ n0 + (Expr.nodesL s.args : Int) by omega)
      clear hr hl2 hc2 HRk HLk HCk; have f4 := blk_cell HXr.out 4; have f5 := blk_cell HXr.out 5; have HB1 := Lib.hid (HBL.out s.body A1 c1 (by have := HNE.out; have := HNN.out; omega) HRD.out.2.1 HLEN.out.1 (n0 + (Expr.nodesL s.args : Int)) wr HLO.out HL2.out HBk.out HC2.out)
      by_cases hv : (blockB nameB (blocks + 1) s.body && decide (n0 + (Expr.nodesL s.args : Int) + (Stmt.nodesL s.body : Int) ≤ 600)) = false
      ·have HV := Lib.hid hv
       have HNO := Lib.hid (show (s.rightB nameB blocks && decide (n0 + ((Expr.nodesL s.args + Stmt.nodesL s.body + Stmt.nodesL s.els : Nat) : Int) ≤ 600)) = false by
        rw [Bool.eq_false_iff]; intro h; rw [Bool.and_eq_true, decide_eq_true_eq, HRR.out, Bool.and_eq_true, Bool.and_eq_true] at h; rw [Bool.eq_false_iff] at hv; apply hv
        rw [Bool.and_eq_true, decide_eq_true_eq]; exact ⟨h.1.2.1, by omega⟩)
       clear hv; go_wp2_with (go_at_call 46; go_must (refine HB1.out.mono ?_); rintro x w' ⟨rfl, hk2, c3, hc3, hcc⟩; rw [HV.out]; have HK3 := Lib.hid hk2; have HC3 := Lib.hid hc3; clear hk2 hc3 hcc)
       go_ret; exact TestOK.no HNO.out (HKw.out.step HK3.out) HC3.out
      have HV := Lib.hid (show (blockB nameB (blocks + 1) s.body && decide (n0 + (Expr.nodesL s.args : Int) + (Stmt.nodesL s.body : Int) ≤ 600)) = true by simpa using hv)
      clear hv; have hv := HV.out; rw [Bool.and_eq_true, decide_eq_true_eq] at hv; have HVB := Lib.hid hv; clear hv; by_cases hz : s.els.length = 0
      ·have hz' : ((s.els.length : Int) == 0) = true := by rw [beq_iff_eq]; omega
       have HRR2 := Lib.hid (show s.rightB nameB blocks = true by rw [HRR.out, HR2.out, if_pos hz, HVB.out.1]; rfl)
       have hels : s.els = [] := List.eq_nil_of_length_eq_zero hz
       have HEN := Lib.hid (show Stmt.nodesL s.els = 0 by rw [hels]; rfl)
       have HEZ := Lib.hid hz; clear hels hz hz'; go_wp2_with (go_at_call 46; go_must (refine HB1.out.mono ?_); rintro x w2 ⟨rfl, hk2, c3, hc3, hcc⟩; rw [HV.out]; have HK3 := Lib.hid hk2; have HC3 := Lib.hid (hcc HV.out ▸ hc3); have f5 := blk_cell (hk2.blk HXr.out HQ.out) 5; clear hk2 hc3 hcc; have hez := HEZ.out)
       go_ret; have hv := HVB.out; exact TestOK.yes (by rw [HRR2.out, Bool.true_and, decide_eq_true_eq]; have e2 := HEN.out; omega) (HKw.out.step HK3.out) HC3.out (by have e2 := HEN.out; omega)
      have hz' : ((s.els.length : Int) == 0) = false := by rw [beq_eq_false_iff_ne]; omega
      have HRR2 := Lib.hid (show s.rightB nameB blocks = blockB nameB (blocks + 1) s.els by rw [HRR.out, HR2.out, if_neg hz, HVB.out.1]; rfl)
      have HLO2 := Lib.hid (show 0 ≤ n0 + (Expr.nodesL s.args : Int) + (Stmt.nodesL s.body : Int) by omega)
      have HB2 := Lib.hid (fun w2 h1 h2 => HBL.out s.els A2 c2 (by have := HNE.out; have := HNN.out; omega) HRD.out.2.2 HLEN.out.2 (n0 + (Expr.nodesL s.args : Int) + (Stmt.nodesL s.body : Int)) w2 HLO2.out HVB.out.2 h1 h2)
      obtain ⟨u, hu⟩ : ∃ u, (blockB nameB (blocks + 1) s.els && decide (n0 + (Expr.nodesL s.args : Int) + (Stmt.nodesL s.body : Int) + (Stmt.nodesL s.els : Int) ≤ 600)) = u := ⟨_, rfl⟩
      have HU := Lib.hid hu; have HFIN := Lib.hid (show (s.rightB nameB blocks && decide (n0 + ((Expr.nodesL s.args + Stmt.nodesL s.body + Stmt.nodesL s.els : Nat) : Int) ≤ 600)) = u by rw [← hu, HRR2.out]; congr 2; exact propext ⟨fun h => by omega, fun h => by omega⟩)
      clear hu; go_wp2_with (first | (go_at_call 46; have tk := HK3; clear tk; go_must (refine (HB2.out _ (HBW.out.trans ((HKw.out.step HK3.out).toBelow HBW.out.size (fun j hj => by subst hj; exact HQW.out))) HC3.out).mono ?_); rintro x w4 ⟨rfl, hk4, c4, hc4, hcc⟩; rw [HU.out]; have HK4 := Lib.hid hk4; have HC4 := Lib.hid hc4; have HCC := Lib.hid hcc; clear hk4 hc4 hcc) | (go_at_call 46; go_must (refine HB1.out.mono ?_); rintro x w2 ⟨rfl, hk2, c3, hc3, hcc⟩; rw [HV.out]; have HK3 := Lib.hid hk2; have HC3 := Lib.hid (hcc HV.out ▸ hc3); have f5 := blk_cell (hk2.blk HXr.out HQ.out) 5; clear hk2 hc3 hcc))
      go_ret; exact ⟨congrArg (fun b => Ending.returned (.bool b)) HFIN.out.symm, (HKw.out.step HK3.out).step HK4.out, c4, HC4.out, fun h => by have := HCC.out (by rw [HU.out, ← HFIN.out]; exact h); omega⟩
  rotate_left 4; focus
   have t1 : (s.kind == 1) = false := by simp [hK]
   have u1 : (s.kind != 1) = true := by simp [hK]
   have t2 : (s.kind == 2) = false := by simp [hK]
   have u2 : (s.kind != 2) = true := by simp [hK]
   have t3 : (s.kind == 3) = false := by simp [hK]
   have u3 : (s.kind != 3) = true := by simp [hK]
   have t4 : (s.kind == 4) = false := by simp [hK]
   have u4 : (s.kind != 4) = true := by simp [hK]
   have t5 : (s.kind == 5) = false := by simp [hK]
   have u5 : (s.kind != 5) = true := by simp [hK]
   have t6 : (s.kind == 6) = false := by simp [hK]
   have u6 : (s.kind != 6) = true := by simp [hK]
   have t7 : (s.kind == 7) = true := by simp [hK]
   have u7 : (s.kind != 7) = false := by simp [hK]
   have t8 : (s.kind == 8) = false := by simp [hK]
   have u8 : (s.kind != 8) = true := by simp [hK]
   have t9 : (s.kind == 9) = false := by simp [hK]
   have u9 : (s.kind != 9) = true := by simp [hK]
   by_cases hl : ¬ (s.args.length = 1)
   focus
    have hl' : ((s.args.length : Int) != 1) = true := by rw [bne_iff_ne]; omega
    have hli : ¬ ((s.args.length : Int) = 1) := by omega
    have HNO := Lib.hid (HNX.out (by simp [headB, wantA, hK, hli]))
    clear hK hl hli hdb hdn; have WL := True.intro
   rotate_left; rw [Decidable.not_not] at hl; have hl' : ((s.args.length : Int) != 1) = false := by rw [bne_eq_false_iff_eq]; omega
   by_cases hn : nameB s.name = true
   focus
    have HNm := Lib.hid hn; have HNO := Lib.hid (HNX.out (by simp [headB, wantA, hK, hn]))
    clear hK hl hn hdb hdn; have WL := True.intro
   rotate_left; have HNm := Lib.hid (show nameB s.name = false by simpa using hn)
   clear hn; have hn := HNm.out; by_cases he : ¬ (s.name = ByteArray.empty)
   focus
    have d1 : (s.name.toList == []) = false := by rw [hdb]; simp [he]
    have d2 : (s.name.toList != []) = true := by rw [hdn]; simp [he]
    have HNO := Lib.hid (HNX.out (by simp [headB, wantA, hK, he]))
    clear hK hl hn he hdb hdn; have WL := True.intro
   rotate_left; rw [Decidable.not_not] at he; have d1 : (s.name.toList == []) = true := by rw [hdb]; simp [he]
   have d2 : (s.name.toList != []) = false := by rw [hdn]; simp [he]
   by_cases hcc : ¬ (s.cell = 0)
   focus
    have d3 : (s.cell != 0) = true := by simp [hcc]
    have HNO := Lib.hid (HNX.out (by simp [headB, wantA, hK, hcc]))
    clear hK hl hn hdb hdn he hcc; have WL := True.intro
   rotate_left; rw [Decidable.not_not] at hcc; have d3 : (s.cell != 0) = false := by simp [hcc]
   have hcell := hcc; clear hcc; by_cases he2 : ¬ (s.els.length = 0)
   focus
    have he2' : (s.els.length : Int) > 0 := by omega
    have HNO := Lib.hid (HNX.out (by simp [headB, wantA, hK, he2]))
    clear hK hl hn hdb hdn he hcell; have WL := True.intro
   rotate_left; rw [Decidable.not_not] at he2; have HEZ := Lib.hid he2; have HHD := Lib.hid (show headB nameB s.kind s.name s.cell s.args.length s.body.length s.els.length = true from by simp [headB, wantA, hK, hl, hn, hcell, he, (he ▸ hn : nameB ByteArray.empty = false), he2])
   have HRR := Lib.hid (show s.rightB nameB blocks = (Expr.rightsB nameB 1 s.args && (blockB nameB (blocks + 1) s.body)) by rw [HRB.out, HHD.out]; simp [hK, blockB, he2, Bool.and_assoc])
   have hels : s.els = [] := List.eq_nil_of_length_eq_zero he2
   have HEN := Lib.hid (show Stmt.nodesL s.els = 0 by rw [hels]; rfl)
   clear hels; have hlen : s.args.length ≤ 2 := by omega
   clear hK hl hn hdb hdn he hcell he2
   ·go_enter Try.func61, Try.ntmps61
    go_wp2_with (first | (go_at_call 83; go_must (refine (lexName_calls s.name _ HSZ.out).mono ?_); rintro x w1 ⟨rfl, hww⟩; obtain rfl := hww.symm; rw [HNm.out]) | (have tk := HW; clear tk; rw [HW.out]; clear HW; have f0 := blk_cell HX.out 0; have f1 := blk_cell HX.out 1; have f2 := blk_cell HX.out 2; have f3 := blk_cell HX.out 3; have f4 := blk_cell HX.out 4; have f5 := blk_cell HX.out 5; have hez := HEZ.out))
    clear hez; go_loopw [101] (fun at_ wr => ∃ (k : Nat), at_ = .int .i64 (k : Int) ∧ k ≤ s.args.length ∧ Hid (Expr.rightsB nameB 1 (s.args.take k) = true) ∧ Hid (cnt wr q (n0 + (Expr.nodesL (s.args.take k) : Int))) ∧ Hid (n0 + (Expr.nodesL (s.args.take k) : Int) ≤ 600) ∧ Hid (Keep (fun j => j = q) w0 wr)) (fun a _ => s.args.length - (intOf a).toNat)
    case atStart => exact ⟨0, rfl, Nat.zero_le _, Lib.hid rfl, Lib.hid (by simpa [Expr.nodesL] using HC0.out), Lib.hid (by simp [Expr.nodesL]; omega), Lib.hid (Keep.refl _ _)⟩
    case round =>
     obtain ⟨k, rfl, hk, HRk, HCk, HLk, HKk⟩ := hrel; clear f0 f1 f2 f3 f4 f5 HC0; have HKw := Lib.hid (HK0.out.step HKk.out); have HBk := Lib.hid (HBW.out.trans (HKw.out.toBelow HBW.out.size (fun j hj => by subst hj; exact HQW.out)))
     by_cases hlt : k < s.args.length
     ·have hlt' : ((k : Int) < (s.args.length : Int)) := by omega
      have HSZk := Lib.hid (Expr.nodesL_take s.args k hlt); obtain ⟨b, o, A', c', rfl, hbW, g0, g1, g2, g3, g4, hc', hs', hrd'⟩ := Expr.at HRD.out.1 HBk.out hlt; have hq2 : cnt (wr.alloc (.cells #[.int .i64 s.args[k].kind, .int .i64 s.args[k].num, .string s.args[k].name, .int .i64 s.args[k].op, .slice A' s.args[k].args.length c'] 66)) q (n0 + (Expr.nodesL (s.args.take k) : Int)) := blk_alloc HCk.out _
      have hI := rexpr_calls W q HQW.out _ s.args[k] A' c' (Nat.le_refl _) hrd' hc' hs' 1 _ _ (by omega) (by omega) HLk.out (HBk.out.alloc HBk.out.size _) hq2
      have HI := Lib.hid hI; clear hI hq2; by_cases hv : (s.args[k].rightB nameB 1 && decide (n0 + (Expr.nodesL (s.args.take k) : Int) + (s.args[k].nodes : Int) ≤ 600)) = true
      ·have HV := Lib.hid hv
       clear hv; go_wp2_with (go_at_call 84; go_must (refine HI.out.mono ?_); rintro x w' ⟨rfl, hk2, c3, hc3, hcc⟩; rw [HV.out]; have HK3 := Lib.hid ((HKk.out.alloc _).step hk2); have HC3 := Lib.hid (hcc HV.out ▸ hc3); clear hk2 hc3 hcc)
       go_roundw
       case rel =>
        have hv := HV.out; rw [Bool.and_eq_true, decide_eq_true_eq] at hv; have hn : (Expr.nodesL (s.args.take (k + 1)) : Int) = (Expr.nodesL (s.args.take k) : Int) + (s.args[k].nodes : Int) := by rw [← List.take_append_getElem hlt, Expr.nodesL_app]; simp [Expr.nodesL]
        refine ⟨k + 1, by go_num, by omega, Lib.hid ?_, Lib.hid ?_, Lib.hid (by rw [hn]; omega), HK3⟩
        ·rw [← List.take_append_getElem hlt, Expr.rightsB_snoc, HRk.out, hv.1]; rfl
        ·rw [hn, ← Int.add_assoc]; exact HC3.out
       case measure => simp [intOf]; omega
      ·have HV := Lib.hid (show (s.args[k].rightB nameB 1 && decide (n0 + (Expr.nodesL (s.args.take k) : Int) + (s.args[k].nodes : Int) ≤ 600)) = false by simpa using hv)
       have HNO := Lib.hid (show (s.rightB nameB blocks && decide (n0 + ((Expr.nodesL s.args + Stmt.nodesL s.body + Stmt.nodesL s.els : Nat) : Int) ≤ 600)) = false by
        rw [Bool.eq_false_iff]; intro h; rw [Bool.and_eq_true, decide_eq_true_eq, HRR.out, Bool.and_eq_true] at h; apply hv
        rw [Bool.and_eq_true, decide_eq_true_eq]; exact ⟨Expr.rightsB_all h.1.1 _ (List.getElem_mem hlt), by have := HSZk.out; omega⟩)
       clear hv; go_wp2_with (go_at_call 84; go_must (refine HI.out.mono ?_); rintro x w' ⟨rfl, hk2, c3, hc3, hcc⟩; rw [HV.out]; have HK3 := Lib.hid ((HKk.out.alloc _).step hk2); have HC3 := Lib.hid hc3; clear hk2 hc3 hcc)
       go_ret; exact TestOK.no HNO.out (HK0.out.step HK3.out) HC3.out
     ·have hk' : k = s.args.length := by omega
      subst hk'; have hr := HRk.out; have hl2 := HLk.out; have hc2 := HCk.out; rw [List.take_length] at hr hl2 hc2; have HR2 := Lib.hid hr; have HL2 := Lib.hid hl2; have HC2 := Lib.hid hc2; have HXr := Lib.hid (HKk.out.blk HX.out HQ.out); have HLO := Lib.hid (show 0 ≤ n0 + (Expr.nodesL s.args : Int) by omega)
      clear hr hl2 hc2 HRk HLk HCk; have f4 := blk_cell HXr.out 4; have f5 := blk_cell HXr.out 5; have HB1 := Lib.hid (HBL.out s.body A1 c1 (by have := HNE.out; have := HNN.out; omega) HRD.out.2.1 HLEN.out.1 (n0 + (Expr.nodesL s.args : Int)) wr HLO.out HL2.out HBk.out HC2.out)
      by_cases hv : (blockB nameB (blocks + 1) s.body && decide (n0 + (Expr.nodesL s.args : Int) + (Stmt.nodesL s.body : Int) ≤ 600)) = false
      ·have HV := Lib.hid hv
       have HNO := Lib.hid (show (s.rightB nameB blocks && decide (n0 + ((Expr.nodesL s.args + Stmt.nodesL s.body + Stmt.nodesL s.els : Nat) : Int) ≤ 600)) = false by
        rw [Bool.eq_false_iff]; intro h; rw [Bool.and_eq_true, decide_eq_true_eq, HRR.out, Bool.and_eq_true] at h; rw [Bool.eq_false_iff] at hv; apply hv
        rw [Bool.and_eq_true, decide_eq_true_eq]; exact ⟨h.1.2, by omega⟩)
       clear hv; go_wp2_with (go_at_call 46; go_must (refine HB1.out.mono ?_); rintro x w' ⟨rfl, hk2, c3, hc3, hcc⟩; rw [HV.out]; have HK3 := Lib.hid hk2; have HC3 := Lib.hid hc3; clear hk2 hc3 hcc)
       go_ret; exact TestOK.no HNO.out (HKw.out.step HK3.out) HC3.out
      have HV := Lib.hid (show (blockB nameB (blocks + 1) s.body && decide (n0 + (Expr.nodesL s.args : Int) + (Stmt.nodesL s.body : Int) ≤ 600)) = true by simpa using hv)
      clear hv; go_wp2_with (go_at_call 46; go_must (refine HB1.out.mono ?_); rintro x w2 ⟨rfl, hk2, c3, hc3, hcc⟩; rw [HV.out]; have HK3 := Lib.hid hk2; have HC3 := Lib.hid (hcc HV.out ▸ hc3); have f5 := blk_cell (hk2.blk HXr.out HQ.out) 5; clear hk2 hc3 hcc; have hez := HEZ.out)
      go_ret; have hv := HV.out; rw [Bool.and_eq_true, decide_eq_true_eq] at hv; exact TestOK.yes (by rw [HRR.out, HR2.out, Bool.true_and, hv.1, Bool.true_and, decide_eq_true_eq]; have e2 := HEN.out; omega) (HKw.out.step HK3.out) HC3.out (by have e2 := HEN.out; omega)
  rotate_left 5; focus
   have t1 : (s.kind == 1) = false := by simp [hK]
   have u1 : (s.kind != 1) = true := by simp [hK]
   have t2 : (s.kind == 2) = false := by simp [hK]
   have u2 : (s.kind != 2) = true := by simp [hK]
   have t3 : (s.kind == 3) = false := by simp [hK]
   have u3 : (s.kind != 3) = true := by simp [hK]
   have t4 : (s.kind == 4) = false := by simp [hK]
   have u4 : (s.kind != 4) = true := by simp [hK]
   have t5 : (s.kind == 5) = false := by simp [hK]
   have u5 : (s.kind != 5) = true := by simp [hK]
   have t6 : (s.kind == 6) = false := by simp [hK]
   have u6 : (s.kind != 6) = true := by simp [hK]
   have t7 : (s.kind == 7) = false := by simp [hK]
   have u7 : (s.kind != 7) = true := by simp [hK]
   have t8 : (s.kind == 8) = true := by simp [hK]
   have u8 : (s.kind != 8) = false := by simp [hK]
   have t9 : (s.kind == 9) = false := by simp [hK]
   have u9 : (s.kind != 9) = true := by simp [hK]
   by_cases hl : ¬ (s.args.length = 1)
   focus
    have hl' : ((s.args.length : Int) != 1) = true := by rw [bne_iff_ne]; omega
    have hli : ¬ ((s.args.length : Int) = 1) := by omega
    have HNO := Lib.hid (HNX.out (by simp [headB, wantA, hK, hli]))
    clear hK hl hli hdb hdn; have WL := True.intro
   rotate_left; rw [Decidable.not_not] at hl; have hl' : ((s.args.length : Int) != 1) = false := by rw [bne_eq_false_iff_eq]; omega
   by_cases hn : nameB s.name = true
   focus
    have HNm := Lib.hid hn; have HNO := Lib.hid (HNX.out (by simp [headB, wantA, hK, hn]))
    clear hK hl hn hdb hdn; have WL := True.intro
   rotate_left; have HNm := Lib.hid (show nameB s.name = false by simpa using hn)
   clear hn; have hn := HNm.out; by_cases he : ¬ (s.name = ByteArray.empty)
   focus
    have d1 : (s.name.toList == []) = false := by rw [hdb]; simp [he]
    have d2 : (s.name.toList != []) = true := by rw [hdn]; simp [he]
    have HNO := Lib.hid (HNX.out (by simp [headB, wantA, hK, he]))
    clear hK hl hn he hdb hdn; have WL := True.intro
   rotate_left; rw [Decidable.not_not] at he; have d1 : (s.name.toList == []) = true := by rw [hdb]; simp [he]
   have d2 : (s.name.toList != []) = false := by rw [hdn]; simp [he]
   by_cases hcc : ¬ (s.cell = 0)
   focus
    have d3 : (s.cell != 0) = true := by simp [hcc]
    have HNO := Lib.hid (HNX.out (by simp [headB, wantA, hK, hcc]))
    clear hK hl hn hdb hdn he hcc; have WL := True.intro
   rotate_left; rw [Decidable.not_not] at hcc; have d3 : (s.cell != 0) = false := by simp [hcc]
   have hcell := hcc; clear hcc; by_cases hb : ¬ (s.body.length = 0)
   focus
    have hb' : (s.body.length : Int) > 0 := by omega
    have HNO := Lib.hid (HNX.out (by simp [headB, wantA, hK, hb]))
    clear hK hl hn hdb hdn he hcell; have WL := True.intro
   rotate_left; rw [Decidable.not_not] at hb; have HBZ := Lib.hid hb; by_cases he2 : ¬ (s.els.length = 0)
   focus
    have he2' : (s.els.length : Int) > 0 := by omega
    have HNO := Lib.hid (HNX.out (by simp [headB, wantA, hK, he2]))
    clear hK hl hn hdb hdn he hcell hb; have WL := True.intro
   rotate_left; rw [Decidable.not_not] at he2; have HEZ := Lib.hid he2; have HHD := Lib.hid (show headB nameB s.kind s.name s.cell s.args.length s.body.length s.els.length = true from by simp [headB, wantA, hK, hl, hn, hcell, he, (he ▸ hn : nameB ByteArray.empty = false), hb, he2])
   have HRR := Lib.hid (show s.rightB nameB blocks = (Expr.rightsB nameB 1 s.args && (true)) by rw [HRB.out, HHD.out]; simp [hK, blockB, he2, Bool.and_assoc])
   have hbody : s.body = [] := List.eq_nil_of_length_eq_zero hb
   have HBN := Lib.hid (show Stmt.nodesL s.body = 0 by rw [hbody]; rfl)
   clear hbody; have hels : s.els = [] := List.eq_nil_of_length_eq_zero he2
   have HEN := Lib.hid (show Stmt.nodesL s.els = 0 by rw [hels]; rfl)
   clear hels; have hlen : s.args.length ≤ 2 := by omega
   clear hK hl hn hdb hdn he hcell hb he2; have WM := True.intro
  rotate_left 7; focus
   have t1 : (s.kind == 1) = false := by simp [hK]
   have u1 : (s.kind != 1) = true := by simp [hK]
   have t2 : (s.kind == 2) = false := by simp [hK]
   have u2 : (s.kind != 2) = true := by simp [hK]
   have t3 : (s.kind == 3) = false := by simp [hK]
   have u3 : (s.kind != 3) = true := by simp [hK]
   have t4 : (s.kind == 4) = false := by simp [hK]
   have u4 : (s.kind != 4) = true := by simp [hK]
   have t5 : (s.kind == 5) = false := by simp [hK]
   have u5 : (s.kind != 5) = true := by simp [hK]
   have t6 : (s.kind == 6) = false := by simp [hK]
   have u6 : (s.kind != 6) = true := by simp [hK]
   have t7 : (s.kind == 7) = false := by simp [hK]
   have u7 : (s.kind != 7) = true := by simp [hK]
   have t8 : (s.kind == 8) = false := by simp [hK]
   have u8 : (s.kind != 8) = true := by simp [hK]
   have t9 : (s.kind == 9) = true := by simp [hK]
   have u9 : (s.kind != 9) = false := by simp [hK]
   by_cases hl : ¬ (s.args.length = 0)
   focus
    have hl' : ((s.args.length : Int) != 0) = true := by rw [bne_iff_ne]; omega
    have hli : ¬ ((s.args.length : Int) = 0) := by omega
    have hne9 : ¬ s.args = [] := fun h => hl (by rw [h]; rfl)
    have HNO := Lib.hid (HNX.out (by simp [headB, wantA, hK, hne9]))
    clear hK hl hli hdb hdn hne9; have WL := True.intro
   rotate_left; rw [Decidable.not_not] at hl; have hl' : ((s.args.length : Int) != 0) = false := by rw [bne_eq_false_iff_eq]; omega
   by_cases hn : nameB s.name = true
   focus
    have HNm := Lib.hid hn; have HNO := Lib.hid (HNX.out (by simp [headB, wantA, hK, hn]))
    clear hK hl hn hdb hdn; have WL := True.intro
   rotate_left; have HNm := Lib.hid (show nameB s.name = false by simpa using hn)
   clear hn; have hn := HNm.out; by_cases he : ¬ (s.name = ByteArray.empty)
   focus
    have d1 : (s.name.toList == []) = false := by rw [hdb]; simp [he]
    have d2 : (s.name.toList != []) = true := by rw [hdn]; simp [he]
    have HNO := Lib.hid (HNX.out (by simp [headB, wantA, hK, he]))
    clear hK hl hn he hdb hdn; have WL := True.intro
   rotate_left; rw [Decidable.not_not] at he; have d1 : (s.name.toList == []) = true := by rw [hdb]; simp [he]
   have d2 : (s.name.toList != []) = false := by rw [hdn]; simp [he]
   by_cases hcc : ¬ (s.cell = 0)
   focus
    have d3 : (s.cell != 0) = true := by simp [hcc]
    have HNO := Lib.hid (HNX.out (by simp [headB, wantA, hK, hcc]))
    clear hK hl hn hdb hdn he hcc; have WL := True.intro
   rotate_left; rw [Decidable.not_not] at hcc; have d3 : (s.cell != 0) = false := by simp [hcc]
   have hcell := hcc; clear hcc; by_cases hb : ¬ (s.body.length = 0)
   focus
    have hb' : (s.body.length : Int) > 0 := by omega
    have HNO := Lib.hid (HNX.out (by simp [headB, wantA, hK, hb]))
    clear hK hl hn hdb hdn he hcell; have WL := True.intro
   rotate_left; rw [Decidable.not_not] at hb; have HBZ := Lib.hid hb; by_cases he2 : ¬ (s.els.length = 0)
   focus
    have he2' : (s.els.length : Int) > 0 := by omega
    have HNO := Lib.hid (HNX.out (by simp [headB, wantA, hK, he2]))
    clear hK hl hn hdb hdn he hcell hb; have WL := True.intro
   rotate_left; rw [Decidable.not_not] at he2; have HEZ := Lib.hid he2; have HHD := Lib.hid (show headB nameB s.kind s.name s.cell s.args.length s.body.length s.els.length = true from by simp [headB, wantA, hK, hl, hn, hcell, he, (he ▸ hn : nameB ByteArray.empty = false), hb, he2])
   have HRR := Lib.hid (show s.rightB nameB blocks = (Expr.rightsB nameB 1 s.args && (true)) by rw [HRB.out, HHD.out]; simp [hK, blockB, he2, Bool.and_assoc])
   have hbody : s.body = [] := List.eq_nil_of_length_eq_zero hb
   have HBN := Lib.hid (show Stmt.nodesL s.body = 0 by rw [hbody]; rfl)
   clear hbody; have hels : s.els = [] := List.eq_nil_of_length_eq_zero he2
   have HEN := Lib.hid (show Stmt.nodesL s.els = 0 by rw [hels]; rfl)
   clear hels; have hlen : s.args.length ≤ 2 := by omega
   clear hK hl hn hdb hdn he hcell hb he2; have WM := True.intro
  rotate_left 7
  ·have t1 : (s.kind == 1) = false := by rw [beq_eq_false_iff_ne]; omega
   have t2 : (s.kind == 2) = false := by rw [beq_eq_false_iff_ne]; omega
   have t3 : (s.kind == 3) = false := by rw [beq_eq_false_iff_ne]; omega
   have t4 : (s.kind == 4) = false := by rw [beq_eq_false_iff_ne]; omega
   have t5 : (s.kind == 5) = false := by rw [beq_eq_false_iff_ne]; omega
   have t6 : (s.kind == 6) = false := by rw [beq_eq_false_iff_ne]; omega
   have t7 : (s.kind == 7) = false := by rw [beq_eq_false_iff_ne]; omega
   have t8 : (s.kind == 8) = false := by rw [beq_eq_false_iff_ne]; omega
   have t9 : (s.kind == 9) = false := by rw [beq_eq_false_iff_ne]; omega
   have HNO := Lib.hid (show (s.rightB nameB blocks && decide (n0 + ((Expr.nodesL s.args + Stmt.nodesL s.body + Stmt.nodesL s.els : Nat) : Int) ≤ 600)) = false by rw [HRB.out, show headB nameB s.kind s.name s.cell s.args.length s.body.length s.els.length = false from by simp [headB, hK]]; rfl)
   clear hK hdb hdn; go_enter Try.func61, Try.ntmps61
   go_wp2_with (have tk := HW; clear tk; rw [HW.out]; clear HW; have f0 := blk_cell HX.out 0; have f1 := blk_cell HX.out 1; have f2 := blk_cell HX.out 2; have f3 := blk_cell HX.out 3; have f4 := blk_cell HX.out 4; have f5 := blk_cell HX.out 5)
   go_ret; exact TestOK.no HNO.out HK0.out HC0.out
  all_goals first
  |have q := WL
   clear q WL; go_enter Try.func61, Try.ntmps61
   go_wp2_with (first | (go_at_call 83; go_must (refine (lexName_calls s.name _ HSZ.out).mono ?_); rintro x w1 ⟨rfl, hww⟩; obtain rfl := hww.symm; rw [HNm.out]) | (have tk := HW; clear tk; rw [HW.out]; clear HW; have f0 := blk_cell HX.out 0; have f1 := blk_cell HX.out 1; have f2 := blk_cell HX.out 2; have f3 := blk_cell HX.out 3; have f4 := blk_cell HX.out 4; have f5 := blk_cell HX.out 5; (try have hbz := HBZ.out); (try have hez := HEZ.out)))
   all_goals
    go_ret; exact TestOK.no HNO.out HK0.out HC0.out
  |have q := WM
   clear q WM; go_enter Try.func61, Try.ntmps61
   go_wp2_with (first | (go_at_call 83; go_must (refine (lexName_calls s.name _ HSZ.out).mono ?_); rintro x w1 ⟨rfl, hww⟩; obtain rfl := hww.symm; rw [HNm.out]) | (have tk := HW; clear tk; rw [HW.out]; clear HW; have f0 := blk_cell HX.out 0; have f1 := blk_cell HX.out 1; have f2 := blk_cell HX.out 2; have f3 := blk_cell HX.out 3; have f4 := blk_cell HX.out 4; have f5 := blk_cell HX.out 5; have hbz := HBZ.out; have hez := HEZ.out))
   clear hbz hez; go_loopw [101] (fun at_ wr => ∃ (k : Nat), at_ = .int .i64 (k : Int) ∧ k ≤ s.args.length ∧ Hid (Expr.rightsB nameB 1 (s.args.take k) = true) ∧ Hid (cnt wr q (n0 + (Expr.nodesL (s.args.take k) : Int))) ∧ Hid (n0 + (Expr.nodesL (s.args.take k) : Int) ≤ 600) ∧ Hid (Keep (fun j => j = q) w0 wr)) (fun a _ => s.args.length - (intOf a).toNat)
   case atStart => exact ⟨0, rfl, Nat.zero_le _, Lib.hid rfl, Lib.hid (by simpa [Expr.nodesL] using HC0.out), Lib.hid (by simp [Expr.nodesL]; omega), Lib.hid (Keep.refl _ _)⟩
   case round =>
    obtain ⟨k, rfl, hk, HRk, HCk, HLk, HKk⟩ := hrel; clear f0 f1 f2 f3 f4 f5 HC0; have HKw := Lib.hid (HK0.out.step HKk.out); have HBk := Lib.hid (HBW.out.trans (HKw.out.toBelow HBW.out.size (fun j hj => by subst hj; exact HQW.out)))
    by_cases hlt : k < s.args.length
    ·have hlt' : ((k : Int) < (s.args.length : Int)) := by omega
     have HSZk := Lib.hid (Expr.nodesL_take s.args k hlt); obtain ⟨b, o, A', c', rfl, hbW, g0, g1, g2, g3, g4, hc', hs', hrd'⟩ := Expr.at HRD.out.1 HBk.out hlt; have hq2 : cnt (wr.alloc (.cells #[.int .i64 s.args[k].kind, .int .i64 s.args[k].num, .string s.args[k].name, .int .i64 s.args[k].op, .slice A' s.args[k].args.length c'] 66)) q (n0 + (Expr.nodesL (s.args.take k) : Int)) := blk_alloc HCk.out _
     have hI := rexpr_calls W q HQW.out _ s.args[k] A' c' (Nat.le_refl _) hrd' hc' hs' 1 _ _ (by omega) (by omega) HLk.out (HBk.out.alloc HBk.out.size _) hq2
     have HI := Lib.hid hI; clear hI hq2; by_cases hv : (s.args[k].rightB nameB 1 && decide (n0 + (Expr.nodesL (s.args.take k) : Int) + (s.args[k].nodes : Int) ≤ 600)) = true
     ·have HV := Lib.hid hv
      clear hv; go_wp2_with (go_at_call 84; go_must (refine HI.out.mono ?_); rintro x w' ⟨rfl, hk2, c3, hc3, hcc⟩; rw [HV.out]; have HK3 := Lib.hid ((HKk.out.alloc _).step hk2); have HC3 := Lib.hid (hcc HV.out ▸ hc3); clear hk2 hc3 hcc)
      go_roundw
      case rel =>
       have hv := HV.out; rw [Bool.and_eq_true, decide_eq_true_eq] at hv; have hn : (Expr.nodesL (s.args.take (k + 1)) : Int) = (Expr.nodesL (s.args.take k) : Int) + (s.args[k].nodes : Int) := by rw [← List.take_append_getElem hlt, Expr.nodesL_app]; simp [Expr.nodesL]
       refine ⟨k + 1, by go_num, by omega, Lib.hid ?_, Lib.hid ?_, Lib.hid (by rw [hn]; omega), HK3⟩
       ·rw [← List.take_append_getElem hlt, Expr.rightsB_snoc, HRk.out, hv.1]; rfl
       ·rw [hn, ← Int.add_assoc]; exact HC3.out
      case measure => simp [intOf]; omega
     ·have HV := Lib.hid (show (s.args[k].rightB nameB 1 && decide (n0 + (Expr.nodesL (s.args.take k) : Int) + (s.args[k].nodes : Int) ≤ 600)) = false by simpa using hv)
      have HNO := Lib.hid (show (s.rightB nameB blocks && decide (n0 + ((Expr.nodesL s.args + Stmt.nodesL s.body + Stmt.nodesL s.els : Nat) : Int) ≤ 600)) = false by
       rw [Bool.eq_false_iff]; intro h; rw [Bool.and_eq_true, decide_eq_true_eq, HRR.out, Bool.and_eq_true] at h; apply hv
       rw [Bool.and_eq_true, decide_eq_true_eq]; exact ⟨Expr.rightsB_all h.1.1 _ (List.getElem_mem hlt), by have := HSZk.out; omega⟩)
      clear hv; go_wp2_with (go_at_call 84; go_must (refine HI.out.mono ?_); rintro x w' ⟨rfl, hk2, c3, hc3, hcc⟩; rw [HV.out]; have HK3 := Lib.hid ((HKk.out.alloc _).step hk2); have HC3 := Lib.hid hc3; clear hk2 hc3 hcc)
      go_ret; exact TestOK.no HNO.out (HK0.out.step HK3.out) HC3.out
    ·have hk' : k = s.args.length := by omega
     subst hk'; have hr := HRk.out; have hl2 := HLk.out; have hc2 := HCk.out; rw [List.take_length] at hr hl2 hc2; have HR2 := Lib.hid hr; have HL2 := Lib.hid hl2; have HC2 := Lib.hid hc2; have HXr := Lib.hid (HKk.out.blk HX.out HQ.out); have HLO := Lib.hid (show 0 ≤ n0 + (Expr.nodesL s.args : Int) by omega)
     clear hr hl2 hc2 HRk HLk HCk; have f5 := blk_cell HXr.out 5; have hez := HEZ.out; go_wp2; go_ret; exact TestOK.yes (by rw [HRR.out, HR2.out, Bool.true_and, Bool.true_and, decide_eq_true_eq]; have e1 := HBN.out; have e2 := HEN.out; have := HL2.out; omega) HKw.out HC2.out (by have e1 := HBN.out; have e2 := HEN.out; omega)
theorem right_is (W : World) (l : List Stmt) (A : Option Addr) (c : Nat) (hrd : Stmt.rds W l A 0) (hl : Stmt.nodesL l ≤ 1000000000) (w : World) (hB : Below W.heap.size W w) :
  Calls Try.prog 29 #[.slice A l.length c] w fun e w' => e = .returned (.bool (rightP nameB l)) ∧ Below w.heap.size w w' := by
 have hal := Stmt.nodesL_len l; have hx := blk_new w (.cells #[.int .i64 0] 102); have HB1 := Lib.hid (show Below w.heap.size w (w.alloc (.cells #[.int .i64 0] 102)) from (Below.refl _ _).al)
 have HC := Lib.hid (show cnt (w.alloc (.cells #[.int .i64 0] 102)) w.heap.size 0 from hx)
 have HI := Lib.hid (rblock_of W w.heap.size (Stmt.nodesL l) hB.size (rstmt_calls W w.heap.size hB.size _ hl) l A c (Nat.le_refl _) hrd (by omega) 0 0 _ (by omega) (by omega) (by omega) (hB.trans (HB1.out.mono hB.size)) HC.out)
 clear hx hal hl hrd; go_enter Try.func29, Try.ntmps29
 go_wp2_with (go_at_call 46; go_must (refine HI.out.mono ?_); rintro x w' ⟨rfl, hk, c1, hc, hcc⟩)
 go_ret; refine ⟨?_, HB1.out.trans (hk.toBelow HB1.out.size (fun j hj => by subst hj; exact Nat.le_refl _))⟩
 refine congrArg (fun b => Ending.returned (.bool b)) ?_
 simp only [rightP, blockB, Nat.zero_le, decide_true, Bool.true_and, Int.zero_add]
 congr 1
 exact decide_eq_decide.2 ⟨fun h => by omega, fun h => by omega⟩
end Go.Proofs.Ytjlnpppjkdcpkaa.My
