/- EvalStops: what stands behind a stop changes nothing. Conditions: the arguments lie in memory. -/
import Derived.Test.YtjlnpppjkdcpkaaEvF
namespace Go.Proofs.Ytjlnpppjkdcpkaa.My
open Go.RowKit Go.Proofs.Ytjlnpppjkdcpkaa.NumA
set_option linter.unusedVariables false
set_option linter.unusedSimpArgs false
def TrueB (W : World) (e : Ending) (w' : World) : Prop := e = .returned (.bool true) ∧ Below W.heap.size W w'
set_option maxRecDepth 100000 in
set_option maxHeartbeats 4000000 in
theorem evalStops_calls (ss : List Stmt) (A : Option Addr) (c : Nat) (L : Int) (mem : List Int) (AM : Option Addr) (cM : Nat) (n i k B : Int) (ms : List Stmt) (A' : Option Addr) (c' : Nat) (W : World) (hrd : Stmt.rds W ss A 0) (hnl : Stmt.nodesL ss ≤ 10000000) (hrd' : Stmt.rds W ms A' 0) (hnl' : Stmt.nodesL ms ≤ 10000000) (hm : numRow W mem AM) (hml : mem.length ≤ 1000000000) :
    Calls Try.prog 10 #[.agg #[.slice A ss.length c, .int .i64 L, .slice AM mem.length cM, .int .i64 n, .int .i64 i, .int .i64 k, .int .i64 B], .slice A' ms.length c'] W (TrueB W) := by
  have hx := blk_new W (.cells #[.slice A ss.length c, .int .i64 L, .slice AM mem.length cM, .int .i64 n, .int .i64 i, .int .i64 k, .int .i64 B] 50)
  have hb : Below W.heap.size W (W.alloc (.cells #[.slice A ss.length c, .int .i64 L, .slice AM mem.length cM, .int .i64 n, .int .i64 i, .int .i64 k, .int .i64 B] 50)) := (Below.refl W.heap.size W).al
  obtain ⟨w1, hw1⟩ : ∃ w1, W.alloc (.cells #[.slice A ss.length c, .int .i64 L, .slice AM mem.length cM, .int .i64 n, .int .i64 i, .int .i64 k, .int .i64 B] 50) = w1 := ⟨_, rfl⟩
  rw [hw1] at hx hb
  have hG := great7_calls W ss A c hrd (by omega) L AM mem.length cM n i k B w1 hb
  have HG := Lib.hid hG
  have HW := Lib.hid hw1
  have HX := Lib.hid hx
  have HB := Lib.hid hb
  have HRD := Lib.hid hrd
  have HRD' := Lib.hid hrd'
  have HM := Lib.hid hm
  have hll := Stmt.nodesL_len ss
  have hll' := Stmt.nodesL_len ms
  have hll2 : ss.length ≤ 10000000 := by omega
  have hll2' : ms.length ≤ 10000000 := by omega
  have HNL := Lib.hid hnl
  have HNL' := Lib.hid hnl'
  clear hG hw1 hx hb hrd hm hnl hrd' hnl'
  go_enter Try.func10, Try.ntmps10
  go_wp2_with fail
  rw [HW.out]
  refine HG.out.mono ?_
  rintro y w2 ⟨b, rfl, hb2⟩
  have HB2 := Lib.hid (HB.out.trans (hb2.mono HB.out.size))
  have HX2 := Lib.hid (below_blk hb2 HX.out (blk_lt HX.out))
  have hsz1 : w1.heap.size = W.heap.size + 1 := by rw [← HW.out, size_al]
  have hsz2 : W.heap.size + 1 ≤ w2.heap.size := by have := hb2.size; omega
  clear hb2
  cases b with
  | true =>
    go_wp2_with fail
    refine (aliveE_calls w2).mono ?_
    rintro E wz ⟨rfl, hbz⟩
    go_wp2
    go_ret
    exact ⟨rfl, HB2.out.trans (hbz.mono HB2.out.size)⟩
  | false =>
    go_wp2_with fail
    refine (great_calls W ms A' c' HRD'.out (by have := HNL'.out; omega) w2 HB2.out).mono ?_
    rintro y w3 ⟨b, rfl, hb3⟩
    have HB3 := Lib.hid (HB2.out.trans (hb3.mono HB2.out.size))
    have HX3 := Lib.hid (below_blk hb3 HX2.out (blk_lt HX2.out))
    have hsz3 := hb3.size
    clear hb3
    cases b with
    | true =>
      go_wp2_with fail
      refine (aliveE_calls w3).mono ?_
      rintro E wz ⟨rfl, hbz⟩
      go_wp2
      go_ret
      exact ⟨rfl, HB3.out.trans (hbz.mono HB3.out.size)⟩
    | false =>
      have k0 := blk_cell HX3.out 0
      go_wp2_with (first
        | (at_builtin; have tk := HR6; clear tk; go_must (refine wpList_append_trees W _ HB6.out rfl _ _ rfl v6 _ _ HR6.out ms A' c' HRD'.out (by omega) rfl rfl ?_); intro v7 w7 f7 hf7 hr7 hg7 hn7; have HF7 := Lib.hid hf7; have HR7 := Lib.hid hr7; have HK7 := Lib.hid (show Below w5.heap.size w5 w7 from Below.grown HK6.out hg7 HK6.out.size HOW6.out); have HX7 := Lib.hid (below_blk (HK5.out.trans (HK7.out.mono HK5.out.size)) HX3.out (blk_lt HX3.out)); have k1 := blk_cell HX7.out 1; have k2 := blk_cell HX7.out 2; have k3 := blk_cell HX7.out 3; have k4 := blk_cell HX7.out 4; have k5 := blk_cell HX7.out 5; have k6 := blk_cell HX7.out 6; clear hf7 hr7 hg7 hn7)
        | (at_builtin; have tk := HR5; clear tk; go_must (refine wpList_append_rows _ rfl _ _ 22 rfl 36 (.agg #[.int .i64 0, .string ⟨#[]⟩, .int .i64 0, .slice none 0 0, .slice none 0 0, .slice none 0 0]) 6 104 Try.underlying22 info_stmt rfl (.slice none 0 0) 0 [] rfl (Row.nil _ _ _) v5 (ss.length + 1) (f4 ++ [.int .i64 9, .string ⟨#[]⟩, .int .i64 0, .slice none 0 0, .slice none 0 0, .slice none 0 0]) rfl HR5.out HON.out (by unfold maxLen; omega) (by omega) ?_); intro v6 w6 hr6 hg6 hn6; rw [Nat.zero_add, List.nil_append] at hr6; have HR6 := Lib.hid hr6; have HOW6 := Lib.hid (show ∀ k, v6.ownBlock = some k → w5.heap.size ≤ k from fun k hk => by rcases hn6 with h | h <;> rw [h] at hk <;> cases hk; omega); have HK6 := Lib.hid (show Below w5.heap.size w5 w6 from Below.grown (Below.refl _ _) hg6 (Nat.le_refl _) (by intro k hk; cases hk)); have HB6 := Lib.hid (HB5.out.trans (HK6.out.mono HB5.out.size)); clear hr6 hg6 hn6)
        | (at_builtin; have tk := HR4; clear tk; go_must (refine wpList_append_rows _ rfl _ _ 22 rfl 36 (.agg #[.int .i64 0, .string ⟨#[]⟩, .int .i64 0, .slice none 0 0, .slice none 0 0, .slice none 0 0]) 6 104 Try.underlying22 info_stmt rfl v4 ss.length f4 rfl (HR4.out.alloc _) (.slice (some ⟨w4.heap.size, 0, none⟩) 1 1) 1 [.int .i64 9, .string ⟨#[]⟩, .int .i64 0, .slice none 0 0, .slice none 0 0, .slice none 0 0] rfl (Row.laid (n := 1) (cs := #[.int .i64 9, .string ⟨#[]⟩, .int .i64 0, .slice none 0 0, .slice none 0 0, .slice none 0 0]) (size := 6) rfl rfl (by decide)) (by intro u hu; simp only [List.mem_cons, List.not_mem_nil, or_false] at hu; rcases hu with rfl | rfl | rfl | rfl | rfl | rfl <;> rfl) (by unfold maxLen; omega) (by omega) ?_); intro v5 w5 hr5 hg5 hn5; have HR5 := Lib.hid hr5; have HON := Lib.hid (Stmt.flat_one (Stmt.flat_append HF4.out (stop_flat W))); have HK5 := Lib.hid (show Below w3.heap.size w3 w5 from Below.grown (HK4.out.alloc HK4.out.size _) hg5 (by have := HK4.out.size; rw [size_al]; omega) HOW4.out); have HB5 := Lib.hid (HB3.out.trans (HK5.out.mono HB3.out.size)); clear hr5 hg5 hn5)
        | (at_builtin; go_must (refine wpList_append_trees W _ HB3.out rfl _ _ rfl (.slice none 0 0) 0 [] (Row.nil _ _ _) ss A c HRD.out (by omega) rfl rfl ?_); intro v4 w4 f4 hf4 hr4 hg4 hn4; rw [Nat.zero_add, List.nil_append] at hr4; have HF4 := Lib.hid hf4; have HR4 := Lib.hid hr4; have HK4 := Lib.hid (show Below w3.heap.size w3 w4 from Below.grown (Below.refl _ _) hg4 (Nat.le_refl _) (by intro k hk; cases hk)); have HOW4 := Lib.hid (show ∀ k, v4.ownBlock = some k → w3.heap.size ≤ k from fun k hk => by rcases hn4 with h | h <;> rw [h] at hk <;> cases hk; omega); clear hf4 hr4 hg4 hn4 k0))
      have HB7 := Lib.hid (HB5.out.trans (HK7.out.mono HB5.out.size))
      have hr5 := HR5.out.below HK7.out
      have hf5 := Stmt.flat_keep HB7.out (Stmt.flat_append HF4.out (stop_flat W))
      have hf7 := Stmt.flat_append hf5 (Stmt.flat_keep HB7.out HF7.out)
      have hr7 := HR7.out
      obtain ⟨A5, c5, hv5, _⟩ := hr5.slice
      obtain ⟨A7, c7, hv7, _⟩ := hr7.slice
      subst hv5 hv7
      have HRS := Lib.hid (Stmt.of_row hr5 hf5)
      have HRM := Lib.hid (Stmt.of_row hr7 hf7)
      have e1 : (ss ++ [stopS]).length = ss.length + 1 := by simp
      have e2 : (ss ++ [stopS] ++ ms).length = ss.length + 1 + ms.length := by simp; omega
      have n1 : Stmt.nodesL (ss ++ [stopS]) ≤ 1000000000 := by have := HNL.out; rw [Stmt.nodesL_app]; simp [stopS, Stmt.nodesL, Stmt.nodes, Expr.nodesL]; omega
      have n2 : Stmt.nodesL (ss ++ [stopS] ++ ms) ≤ 1000000000 := by have := HNL.out; have := HNL'.out; rw [Stmt.nodesL_app, Stmt.nodesL_app]; simp [stopS, Stmt.nodesL, Stmt.nodes, Expr.nodesL]; omega
      have hrun1 := run_u w7 (ss ++ [stopS]) A5 c5 HRS.out n1 L mem AM cM n i k B w7 (Below.refl _ _) (HM.out.below HB7.out) (by unfold maxLen; omega)
      have hrun2 := fun w8 h8 => run_u w7 (ss ++ [stopS] ++ ms) A7 c7 HRM.out n2 L mem AM cM n i k B w8 h8 (HM.out.below (HB7.out.trans (h8.mono HB7.out.size))) (by unfold maxLen; omega)
      rw [e1] at hrun1
      rw [e2] at hrun2
      have HRUN1 := Lib.hid hrun1
      have HRUN2 := Lib.hid hrun2
      clear hr5 hf5 hf7 hr7 n1 n2 hrun1 hrun2
      go_wp2_with fail
      refine HRUN1.out.mono ?_
      rintro E w8 ⟨rP, M, O, I, hb8, hran, hout, rfl⟩
      have HRAN1 := Lib.hid hran
      have HOUT := Lib.hid hout
      have HB78 := Lib.hid hb8
      have hz8 := hb8.size
      obtain ⟨P5, p5, hM, _⟩ := hout.mem.slice
      obtain ⟨P6, p6, hO, _⟩ := hout.outs.slice
      obtain ⟨P7, p7, hI, _⟩ := hout.intos.slice
      subst hM hO hI
      have hx9 := blk_alloc (below_blk hb8 HX7.out (blk_lt HX7.out)) (.cells #[.slice P5 rP.S.mem.length p5, .slice P6 rP.S.outs.length p6, .slice P7 rP.S.intos.length p7, .int .i64 rP.ov, .int .i64 rP.va, .int .i64 rP.st] 55)
      have g1 := blk_cell hx9 1
      have g2 := blk_cell hx9 2
      have g3 := blk_cell hx9 3
      have g4 := blk_cell hx9 4
      have g5 := blk_cell hx9 5
      have g6 := blk_cell hx9 6
      clear hb8 hran hout k1 k2 k3 k4 k5 k6 hx9
      go_wp2_with fail
      clear g1 g2 g3 g4 g5 g6
      obtain ⟨w9, hw9⟩ : ∃ w9, w8.alloc (.cells #[.slice P5 rP.S.mem.length p5, .slice P6 rP.S.outs.length p6, .slice P7 rP.S.intos.length p7, .int .i64 rP.ov, .int .i64 rP.va, .int .i64 rP.st] 55) = w9 := ⟨_, rfl⟩
      have hz9 : w9.heap.size = w8.heap.size + 1 := by rw [← hw9, size_al]
      have hb9 : Below w8.heap.size w8 w9 := by rw [← hw9]; exact (Below.refl _ _).al
      have hp9 : w9.heap[w8.heap.size]? = some (.cells #[.slice P5 rP.S.mem.length p5, .slice P6 rP.S.outs.length p6, .slice P7 rP.S.intos.length p7, .int .i64 rP.ov, .int .i64 rP.va, .int .i64 rP.st] 55) := by rw [← hw9]; exact blk_new _ _
      rw [hw9]
      have HB79 := Lib.hid (HB78.out.trans (hb9.mono hz8))
      have HP9 := Lib.hid hp9
      have HO9 := Lib.hid (HOUT.out.below hb9)
      clear hb9 hp9 hw9
      refine (HRUN2.out w9 HB79.out).mono ?_
      rintro E w10 ⟨rQ, M, O, I, hb10, hran, hout, rfl⟩
      have HRAN2 := Lib.hid hran
      have HOUT2 := Lib.hid hout
      have HB10 := Lib.hid hb10
      have HB710 := Lib.hid (HB7.out.trans ((HB79.out.trans (hb10.mono HB79.out.size)).mono HB7.out.size))
      have hz10 := hb10.size
      obtain ⟨Q5, q5, hM, _⟩ := hout.mem.slice
      obtain ⟨Q6, q6, hO, _⟩ := hout.outs.slice
      obtain ⟨Q7, q7, hI, _⟩ := hout.intos.slice
      subst hM hO hI
      clear hb10 hran hout
      by_cases h0 : rQ.code = 0
      · obtain rfl := stops_plain HRAN1.out HRAN2.out h0
        have HC0 := Lib.hid h0
        have hpa := blk_alloc (below_blk HB10.out HP9.out (blk_lt HP9.out)) (.cells #[.slice Q5 rP.S.mem.length q5, .slice Q6 rP.S.outs.length q6, .slice Q7 rP.S.intos.length q7, .int .i64 rP.ov, .int .i64 rP.va, .int .i64 rP.st] 55)
        have hqa := blk_new w10 (.cells #[.slice Q5 rP.S.mem.length q5, .slice Q6 rP.S.outs.length q6, .slice Q7 rP.S.intos.length q7, .int .i64 rP.ov, .int .i64 rP.va, .int .i64 rP.st] 55)
        have hra : Rows3 (w10.alloc (.cells #[.slice Q5 rP.S.mem.length q5, .slice Q6 rP.S.outs.length q6, .slice Q7 rP.S.intos.length q7, .int .i64 rP.ov, .int .i64 rP.va, .int .i64 rP.st] 55)) rP.S (.slice P5 rP.S.mem.length p5) (.slice P6 rP.S.outs.length p6) (.slice P7 rP.S.intos.length p7) := ((HO9.out.below HB10.out).below (Below.refl _ _).al).rows
        have hrb : Rows3 (w10.alloc (.cells #[.slice Q5 rP.S.mem.length q5, .slice Q6 rP.S.outs.length q6, .slice Q7 rP.S.intos.length q7, .int .i64 rP.ov, .int .i64 rP.va, .int .i64 rP.st] 55)) rP.S (.slice Q5 rP.S.mem.length q5) (.slice Q6 rP.S.outs.length q6) (.slice Q7 rP.S.intos.length q7) := (HOUT2.out.below (Below.refl _ _).al).rows
        have HSAME := Lib.hid (same_calls _ rP.S _ _ _ _ _ _ rP.ov rP.va rP.st hra hrb)
        have a0 := blk_cell hpa 0
        have b0 := blk_cell hqa 0
        have a1 := blk_cell hpa 1
        have b1 := blk_cell hqa 1
        have a2 := blk_cell hpa 2
        have b2 := blk_cell hqa 2
        have a3 := blk_cell hpa 3
        have b3 := blk_cell hqa 3
        have a4 := blk_cell hpa 4
        have b4 := blk_cell hqa 4
        have a5 := blk_cell hpa 5
        have b5 := blk_cell hqa 5
        clear hpa hqa hra hrb
        go_wp2_with (have tk := HC0; clear tk; rw [HC0.out]; clear HC0)
        refine HSAME.out.mono ?_
        rintro E wx ⟨rfl, hbx⟩
        have HBx := Lib.hid ((HB710.out.alloc HB710.out.size (.cells #[.slice Q5 rP.S.mem.length q5, .slice Q6 rP.S.outs.length q6, .slice Q7 rP.S.intos.length q7, .int .i64 rP.ov, .int .i64 rP.va, .int .i64 rP.st] 55)).trans (hbx.mono (by have := HB710.out.size; rw [size_al]; omega)))
        clear hbx a0 a1 a2 a3 a4 a5 b0 b1 b2 b3 b4 b5
        go_wp2_with fail
        refine (aliveE_calls wx).mono ?_
        rintro E wz ⟨rfl, hbz⟩
        go_wp2
        go_ret
        exact ⟨rfl, HBx.out.trans (hbz.mono HBx.out.size)⟩
      · have hne : (rQ.code != 0) = true := by simpa using h0
        go_wp2_with fail
        refine (aliveE_calls _).mono ?_
        rintro E wz ⟨rfl, hbz⟩
        go_wp2
        go_ret
        exact ⟨rfl, (HB710.out.alloc HB710.out.size _).trans (hbz.mono (by have := HB710.out.size; rw [size_al]; omega))⟩
end Go.Proofs.Ytjlnpppjkdcpkaa.My
