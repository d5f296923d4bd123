/- EvalRuns: what each text does, or why it isn't run, is the document's. Conditions: the arguments lie in memory; the numbers are of 64 bits. -/
import Derived.Test.YtjlnpppjkdcpkaaEREvNs
import Derived.Test.YtjlnpppjkdcpkaaEREvN15
namespace Go.Proofs.Ytjlnpppjkdcpkaa.My
open Go.RowKit Go.Proofs.Ytjlnpppjkdcpkaa.NumA
set_option linter.unusedVariables false
set_option linter.unusedSimpArgs false
/-- the document's run hands back what a run hands back -/
theorem docRun_calls (W : World) (ss : List Stmt) (A : Option Addr) (c : Nat) (hrd : Stmt.rds W ss A 0) (hnl : Stmt.nodesL ss ≤ 1000000000) (L : Int) (mem : List Int) (AM : Option Addr) (cM : Nat) (n i k B : Int) (w : World) (hB : Below W.heap.size W w) (hm : numRow w mem AM) (hml : mem.length ≤ maxLen) (h64 : Stmt.in64L ss) (hg : ∀ y ∈ mem, n64 y) (hn : n64 n) (hi : n64 i) (hk : n64 k) (r : Res) (hr : Ran ss L mem n i k B r) :
  Calls Try.prog 23 #[.slice A ss.length c, .int .i64 L, .agg #[.slice AM mem.length cM, .int .i64 n, .int .i64 i, .int .i64 k], .int .i64 B] w fun E w' => ∃ M O I, Below w.heap.size w w' ∧ Rows3 w' r.S M O I ∧ E = .returned (.tuple #[.agg #[M, O, I, .int .i64 r.ov, .int .i64 r.va, .int .i64 r.st], .int .i64 r.code]) := by
 rcases hr with ⟨h0, hc, o, hd, h1, h2, h3⟩ | ⟨h0, rfl⟩
 ·refine (docRun_ok W ss A c hrd hnl L mem AM cM n i k B w hB hm hml h0 h64 hg hn hi hk r.S o hd).mono ?_
  rintro E w' ⟨M, O, I, hb, hx, rfl⟩; refine ⟨M, O, I, hb, hx, ?_⟩
  rw [h1, h2, h3, hc]; rfl
 ·refine (docRun_err W ss A c hrd hnl L mem AM cM n i k B w hB hm hml h0).mono ?_
  rintro E w' ⟨hb, rfl⟩; exact ⟨.slice none 0 0, .slice none 0 0, .slice none 0 0, hb, ⟨Row.nil _ _ _, Row.nil _ _ _, Row.nil _ _ _⟩, rfl⟩
set_option maxRecDepth 100000 in
set_option maxHeartbeats 4000000 in
theorem evalRuns_calls (ss : List Stmt) (A : Option Addr) (c : Nat) (L : Int) (mem : List Int) (AM : Option Addr) (cM : Nat) (n i k B : Int) (W : World) (hrd : Stmt.rds W ss A 0) (hnl : Stmt.nodesL ss ≤ 1000000000) (hm : numRow W mem AM) (hml : mem.length ≤ 1000000000) (h64 : Stmt.in64L ss) (hg : ∀ y ∈ mem, n64 y) (hn : n64 n) (hi : n64 i) (hk : n64 k) :
  Calls Try.prog 7 #[.agg #[.slice A ss.length c, .int .i64 L, .slice AM mem.length cM, .int .i64 n, .int .i64 i, .int .i64 k, .int .i64 B]] W (TrueB W) := by
 have hx := blk_new W (.cells #[.slice A ss.length c, .int .i64 L, .slice AM mem.length cM, .int .i64 n, .int .i64 i, .int .i64 k, .int .i64 B] 50); have hb : Below W.heap.size W (W.alloc (.cells #[.slice A ss.length c, .int .i64 L, .slice AM mem.length cM, .int .i64 n, .int .i64 i, .int .i64 k, .int .i64 B] 50)) := (Below.refl W.heap.size W).al
 obtain ⟨w1, hw1⟩ : ∃ w1, W.alloc (.cells #[.slice A ss.length c, .int .i64 L, .slice AM mem.length cM, .int .i64 n, .int .i64 i, .int .i64 k, .int .i64 B] 50) = w1 := ⟨_, rfl⟩
 rw [hw1] at hx hb; have hG := great7_calls W ss A c hrd hnl L AM mem.length cM n i k B w1 hb; have HG := Lib.hid hG; have HW := Lib.hid hw1; have HX := Lib.hid hx; have HB := Lib.hid hb; have hrun1 := fun w4 (hb4 : Below W.heap.size W w4) => run_u W ss A c hrd hnl L mem AM cM n i k B w4 hb4 (hm.below hb4) (by unfold maxLen; omega)
 have hrun2 := fun r (hr : Ran ss L mem n i k B r) w4 (hb4 : Below W.heap.size W w4) => docRun_calls W ss A c hrd hnl L mem AM cM n i k B w4 hb4 (hm.below hb4) (by unfold maxLen; omega) h64 hg hn hi hk r hr
 have HR1 := Lib.hid hrun1; have HR2 := Lib.hid hrun2; clear hG hw1 hx hb hrd hm hnl hrun1 hrun2 h64 hg hn hi hk hml; go_enter Try.func7, Try.ntmps7
 go_wp2_with fail; rw [HW.out]; refine HG.out.mono ?_; rintro y w2 ⟨b, rfl, hb2⟩; have HB2 := Lib.hid (HB.out.trans (hb2.mono HB.out.size)); have hx2 := below_blk hb2 HX.out (blk_lt HX.out); have HX2 := Lib.hid hx2; clear hb2
 cases b with
 | true =>
  go_wp2; go_ret; exact ⟨rfl, HB2.out⟩
 | false =>
  have k0 := blk_cell hx2 0; have k1 := blk_cell hx2 1; have k2 := blk_cell hx2 2; have k3 := blk_cell hx2 3; have k4 := blk_cell hx2 4; have k5 := blk_cell hx2 5; have k6 := blk_cell hx2 6; clear hx2; go_wp2_with fail; refine (HR1.out w2 HB2.out).mono ?_; rintro E w8 ⟨r, M, O, I, hb8, hran, hout, rfl⟩; have HRAN := Lib.hid hran; have HOUT := Lib.hid hout; have HB28 := Lib.hid hb8; have HB8 := Lib.hid (HB2.out.trans (hb8.mono HB2.out.size)); obtain ⟨P5, p5, hM, _⟩ := hout.mem.slice; obtain ⟨P6, p6, hO, _⟩ := hout.outs.slice; obtain ⟨P7, p7, hI, _⟩ := hout.intos.slice; subst hM hO hI; have hx9 := blk_alloc (below_blk hb8 HX2.out (blk_lt HX2.out)) (.cells #[.slice P5 r.S.mem.length p5, .slice P6 r.S.outs.length p6, .slice P7 r.S.intos.length p7, .int .i64 r.ov, .int .i64 r.va, .int .i64 r.st] 55)
  have g0 := blk_cell hx9 0; have g1 := blk_cell hx9 1; have g2 := blk_cell hx9 2; have g3 := blk_cell hx9 3; have g4 := blk_cell hx9 4; have g5 := blk_cell hx9 5; have g6 := blk_cell hx9 6; clear hb8 hran hout k0 k1 k2 k3 k4 k5 k6 hx9; go_wp2_with fail; clear g0 g1 g2 g3 g4 g5 g6; obtain ⟨w9, hw9⟩ : ∃ w9, w8.alloc (.cells #[.slice P5 r.S.mem.length p5, .slice P6 r.S.outs.length p6, .slice P7 r.S.intos.length p7, .int .i64 r.ov, .int .i64 r.va, .int .i64 r.st] 55) = w9 := ⟨_, rfl⟩
  have hz9 : w9.heap.size = w8.heap.size + 1 := by rw [← hw9, size_al]
  have hb9 : Below w8.heap.size w8 w9 := by rw [← hw9]; exact (Below.refl _ _).al
  have hp9 : w9.heap[w8.heap.size]? = some (.cells #[.slice P5 r.S.mem.length p5, .slice P6 r.S.outs.length p6, .slice P7 r.S.intos.length p7, .int .i64 r.ov, .int .i64 r.va, .int .i64 r.st] 55) := by rw [← hw9]; exact blk_new _ _
  rw [hw9]; have HB9 := Lib.hid (HB8.out.trans (hb9.mono HB8.out.size)); have HP9 := Lib.hid hp9; have HO9 := Lib.hid (HOUT.out.below hb9); clear hb9 hp9 hw9; refine (HR2.out r HRAN.out w9 HB9.out).mono ?_; rintro E w10 ⟨M, O, I, hb10, hrw, rfl⟩; have HRW := Lib.hid hrw; have HB10 := Lib.hid hb10; have HBT := Lib.hid (HB9.out.trans (hb10.mono HB9.out.size)); obtain ⟨Q5, q5, hM, _⟩ := hrw.mem.slice; obtain ⟨Q6, q6, hO, _⟩ := hrw.outs.slice; obtain ⟨Q7, q7, hI, _⟩ := hrw.intos.slice; subst hM hO hI; obtain ⟨w11, hw11⟩ : ∃ w11, w10.alloc (.cells #[.slice Q5 r.S.mem.length q5, .slice Q6 r.S.outs.length q6, .slice Q7 r.S.intos.length q7, .int .i64 r.ov, .int .i64 r.va, .int .i64 r.st] 55) = w11 := ⟨_, rfl⟩
  have hpa : w11.heap[w8.heap.size]? = some (.cells #[.slice P5 r.S.mem.length p5, .slice P6 r.S.outs.length p6, .slice P7 r.S.intos.length p7, .int .i64 r.ov, .int .i64 r.va, .int .i64 r.st] 55) := by rw [← hw11]; exact blk_alloc (below_blk HB10.out HP9.out (blk_lt HP9.out)) _
  have hqa : w11.heap[w10.heap.size]? = some (.cells #[.slice Q5 r.S.mem.length q5, .slice Q6 r.S.outs.length q6, .slice Q7 r.S.intos.length q7, .int .i64 r.ov, .int .i64 r.va, .int .i64 r.st] 55) := by rw [← hw11]; exact blk_new _ _
  have hoa : OutAt w11 w2.heap.size r.S (.slice P5 r.S.mem.length p5) (.slice P6 r.S.outs.length p6) (.slice P7 r.S.intos.length p7) := by rw [← hw11]; exact (HO9.out.below HB10.out).below (Below.refl _ _).al
  have hob : Rows3 w11 r.S (.slice Q5 r.S.mem.length q5) (.slice Q6 r.S.outs.length q6) (.slice Q7 r.S.intos.length q7) := by rw [← hw11]; exact HRW.out.below (Below.refl _ _).al
  have hbt : Below W.heap.size W w11 := by
   rw [← hw11]; exact HBT.out.alloc HBT.out.size _
  have HSAME := Lib.hid (same_calls _ r.S _ _ _ _ _ _ r.ov r.va r.st ⟨hoa.mem, hoa.outs, hoa.intos⟩ hob); have a0 := blk_cell hpa 0; have b0 := blk_cell hqa 0; have a1 := blk_cell hpa 1; have b1 := blk_cell hqa 1; have a2 := blk_cell hpa 2; have b2 := blk_cell hqa 2; have a3 := blk_cell hpa 3; have b3 := blk_cell hqa 3; have a4 := blk_cell hpa 4; have b4 := blk_cell hqa 4; have a5 := blk_cell hpa 5; have b5 := blk_cell hqa 5; have HW11 := Lib.hid hw11; have HBT2 := Lib.hid hbt; clear hpa hqa hoa hob hbt hw11 hb10 hrw; go_wp2_with (have tk := HW11; clear tk; rw [HW11.out]; clear HW11)
  refine HSAME.out.mono ?_; rintro E wx ⟨rfl, hbx⟩; have HBx := Lib.hid (HBT2.out.trans (hbx.mono HBT2.out.size)); clear hbx a0 a1 a2 a3 a4 a5 b0 b1 b2 b3 b4 b5; go_wp2_with fail; refine (aliveE_calls wx).mono ?_; rintro E wz ⟨rfl, hbz⟩; go_wp2; go_ret; exact ⟨rfl, HBx.out.trans (hbz.mono HBx.out.size)⟩
end Go.Proofs.Ytjlnpppjkdcpkaa.My
