/- An instruction's error, as the program and as the document tell it. No conditions. -/
import Derived.Test.YtjlnpppjkdcpkaaGfInsS
namespace Go.Proofs.Ytjlnpppjkdcpkaa.My
open Go.RowKit
set_option linter.unusedVariables false in
set_option maxRecDepth 100000 in
set_option maxHeartbeats 4000000 in
theorem insOne_8 (op a b c n cells long : Int) (w : World) : Calls Try.prog 39 #[.agg #[.int .i64 8, .int .i64 op, .int .i64 a, .int .i64 b, .int .i64 c, .int .i64 n], .int .i64 cells, .int .i64 long] w fun e w' => e = .returned (.int .i64 (e8 op a b c n cells long)) ∧ Below w.heap.size w w' := by
  by_cases h0 : a < 0
  · have h0b : ¬ (0 ≤ a) := by omega
    have h0r : regB a = false := regB_no (by omega)
    have HS := Lib.hid (show e8 op a b c n cells long = 82 by unfold e8; rw [if_pos h0])
    have HX := Lib.hid (blk_new w (.cells #[.int .i64 8, .int .i64 op, .int .i64 a, .int .i64 b, .int .i64 c, .int .i64 n] 42))
    go_enter Try.func39, Try.ntmps39
    go_wp2_with (first | (go_at_call 56; go_must (refine (reg_calls _ _).mono ?_); rintro y w2 ⟨rfl, rfl⟩) | (go_at_call 55; go_must (refine (shape_8 _).mono ?_); rintro y w1 ⟨rfl, hb1⟩; have hx1 := below_blk hb1 HX.out (blk_lt HX.out); have x0 := fun o => blk_cell (blk_alloc hx1 o) 0; have x1 := fun o => blk_cell (blk_alloc hx1 o) 1; have x2 := fun o => blk_cell (blk_alloc hx1 o) 2; have x3 := fun o => blk_cell (blk_alloc hx1 o) 3; have x4 := fun o => blk_cell (blk_alloc hx1 o) 4; have x5 := fun o => blk_cell (blk_alloc hx1 o) 5; clear hx1))
    all_goals
      go_ret
      refine ⟨?_, ?_⟩
      · first | (rw [HS.out]; done) | (rw [HS.out]; rfl)
      · exact fin1 hb1
  · have h0b : 0 ≤ a := by omega
    by_cases h1 : 15 < a
    · have h1b : ¬ (a < 16) := by omega
      have h1c : a > 15 := by omega
      have h1r : regB a = false := regB_no (by omega)
      have HS := Lib.hid (show e8 op a b c n cells long = 82 by unfold e8; rw [if_neg h0, if_pos h1])
      have HX := Lib.hid (blk_new w (.cells #[.int .i64 8, .int .i64 op, .int .i64 a, .int .i64 b, .int .i64 c, .int .i64 n] 42))
      go_enter Try.func39, Try.ntmps39
      go_wp2_with (first | (go_at_call 56; go_must (refine (reg_calls _ _).mono ?_); rintro y w2 ⟨rfl, rfl⟩) | (go_at_call 55; go_must (refine (shape_8 _).mono ?_); rintro y w1 ⟨rfl, hb1⟩; have hx1 := below_blk hb1 HX.out (blk_lt HX.out); have x0 := fun o => blk_cell (blk_alloc hx1 o) 0; have x1 := fun o => blk_cell (blk_alloc hx1 o) 1; have x2 := fun o => blk_cell (blk_alloc hx1 o) 2; have x3 := fun o => blk_cell (blk_alloc hx1 o) 3; have x4 := fun o => blk_cell (blk_alloc hx1 o) 4; have x5 := fun o => blk_cell (blk_alloc hx1 o) 5; clear hx1))
      all_goals
        go_ret
        refine ⟨?_, ?_⟩
        · first | (rw [HS.out]; done) | (rw [HS.out]; rfl)
        · exact fin1 hb1
    · have h1b : a < 16 := by omega
      have h1c : ¬ (a > 15) := by omega
      have h1r : regB a = true := regB_yes (by omega) (by omega)
      by_cases h2 : b = 0
      · subst h2
        by_cases h3 : n = 0
        · subst h3
          by_cases h4 : op = 0
          · subst h4
            by_cases h5 : c < 0
            · have h5b : ¬ (0 ≤ c) := by omega
              have HS := Lib.hid (show e8 0 a 0 c 0 cells long = 63 by unfold e8; rw [if_neg h0, if_neg h1, if_pos rfl, if_pos rfl, if_pos rfl, if_pos h5])
              have HX := Lib.hid (blk_new w (.cells #[.int .i64 8, .int .i64 0, .int .i64 a, .int .i64 0, .int .i64 c, .int .i64 0] 42))
              go_enter Try.func39, Try.ntmps39
              go_wp2_with (first | (go_at_call 56; go_must (refine (reg_calls _ _).mono ?_); rintro y w2 ⟨rfl, rfl⟩) | (go_at_call 55; go_must (refine (shape_8 _).mono ?_); rintro y w1 ⟨rfl, hb1⟩; have hx1 := below_blk hb1 HX.out (blk_lt HX.out); have x0 := fun o => blk_cell (blk_alloc hx1 o) 0; have x1 := fun o => blk_cell (blk_alloc hx1 o) 1; have x2 := fun o => blk_cell (blk_alloc hx1 o) 2; have x3 := fun o => blk_cell (blk_alloc hx1 o) 3; have x4 := fun o => blk_cell (blk_alloc hx1 o) 4; have x5 := fun o => blk_cell (blk_alloc hx1 o) 5; clear hx1))
              all_goals
                go_ret
                refine ⟨?_, ?_⟩
                · first | (rw [HS.out]; done) | (rw [HS.out]; rfl)
                · exact fin1 hb1
            · have h5b : 0 ≤ c := by omega
              by_cases h6 : cells ≤ c
              · have h6b : c ≥ cells := by omega
                have HS := Lib.hid (show e8 0 a 0 c 0 cells long = 63 by unfold e8; rw [if_neg h0, if_neg h1, if_pos rfl, if_pos rfl, if_pos rfl, if_neg h5, if_pos h6])
                have HX := Lib.hid (blk_new w (.cells #[.int .i64 8, .int .i64 0, .int .i64 a, .int .i64 0, .int .i64 c, .int .i64 0] 42))
                go_enter Try.func39, Try.ntmps39
                go_wp2_with (first | (go_at_call 56; go_must (refine (reg_calls _ _).mono ?_); rintro y w2 ⟨rfl, rfl⟩) | (go_at_call 55; go_must (refine (shape_8 _).mono ?_); rintro y w1 ⟨rfl, hb1⟩; have hx1 := below_blk hb1 HX.out (blk_lt HX.out); have x0 := fun o => blk_cell (blk_alloc hx1 o) 0; have x1 := fun o => blk_cell (blk_alloc hx1 o) 1; have x2 := fun o => blk_cell (blk_alloc hx1 o) 2; have x3 := fun o => blk_cell (blk_alloc hx1 o) 3; have x4 := fun o => blk_cell (blk_alloc hx1 o) 4; have x5 := fun o => blk_cell (blk_alloc hx1 o) 5; clear hx1))
                all_goals
                  go_ret
                  refine ⟨?_, ?_⟩
                  · first | (rw [HS.out]; done) | (rw [HS.out]; rfl)
                  · exact fin1 hb1
              · have h6b : ¬ (c ≥ cells) := by omega
                by_cases h7 : 4 ≤ c
                · have h7b : c ≥ 4 := by omega
                  have HS := Lib.hid (show e8 0 a 0 c 0 cells long = 63 by unfold e8; rw [if_neg h0, if_neg h1, if_pos rfl, if_pos rfl, if_pos rfl, if_neg h5, if_neg h6, if_pos h7])
                  have HX := Lib.hid (blk_new w (.cells #[.int .i64 8, .int .i64 0, .int .i64 a, .int .i64 0, .int .i64 c, .int .i64 0] 42))
                  go_enter Try.func39, Try.ntmps39
                  go_wp2_with (first | (go_at_call 56; go_must (refine (reg_calls _ _).mono ?_); rintro y w2 ⟨rfl, rfl⟩) | (go_at_call 55; go_must (refine (shape_8 _).mono ?_); rintro y w1 ⟨rfl, hb1⟩; have hx1 := below_blk hb1 HX.out (blk_lt HX.out); have x0 := fun o => blk_cell (blk_alloc hx1 o) 0; have x1 := fun o => blk_cell (blk_alloc hx1 o) 1; have x2 := fun o => blk_cell (blk_alloc hx1 o) 2; have x3 := fun o => blk_cell (blk_alloc hx1 o) 3; have x4 := fun o => blk_cell (blk_alloc hx1 o) 4; have x5 := fun o => blk_cell (blk_alloc hx1 o) 5; clear hx1))
                  all_goals
                    go_ret
                    refine ⟨?_, ?_⟩
                    · first | (rw [HS.out]; done) | (rw [HS.out]; rfl)
                    · exact fin1 hb1
                · have h7b : ¬ (c ≥ 4) := by omega
                  have HS := Lib.hid (show e8 0 a 0 c 0 cells long = 0 by unfold e8; rw [if_neg h0, if_neg h1, if_pos rfl, if_pos rfl, if_pos rfl, if_neg h5, if_neg h6, if_neg h7])
                  have HX := Lib.hid (blk_new w (.cells #[.int .i64 8, .int .i64 0, .int .i64 a, .int .i64 0, .int .i64 c, .int .i64 0] 42))
                  go_enter Try.func39, Try.ntmps39
                  go_wp2_with (first | (go_at_call 56; go_must (refine (reg_calls _ _).mono ?_); rintro y w2 ⟨rfl, rfl⟩) | (go_at_call 55; go_must (refine (shape_8 _).mono ?_); rintro y w1 ⟨rfl, hb1⟩; have hx1 := below_blk hb1 HX.out (blk_lt HX.out); have x0 := fun o => blk_cell (blk_alloc hx1 o) 0; have x1 := fun o => blk_cell (blk_alloc hx1 o) 1; have x2 := fun o => blk_cell (blk_alloc hx1 o) 2; have x3 := fun o => blk_cell (blk_alloc hx1 o) 3; have x4 := fun o => blk_cell (blk_alloc hx1 o) 4; have x5 := fun o => blk_cell (blk_alloc hx1 o) 5; clear hx1))
                  all_goals
                    go_ret
                    refine ⟨?_, ?_⟩
                    · first | (rw [HS.out]; done) | (rw [HS.out]; rfl)
                    · exact fin1 hb1
          · have h4b : (op == 0) = false := by simp [h4]
            have HS := Lib.hid (show e8 op a 0 c 0 cells long = 83 by unfold e8; rw [if_neg h0, if_neg h1, if_pos rfl, if_pos rfl, if_neg h4])
            have HX := Lib.hid (blk_new w (.cells #[.int .i64 8, .int .i64 op, .int .i64 a, .int .i64 0, .int .i64 c, .int .i64 0] 42))
            go_enter Try.func39, Try.ntmps39
            go_wp2_with (first | (go_at_call 56; go_must (refine (reg_calls _ _).mono ?_); rintro y w2 ⟨rfl, rfl⟩) | (go_at_call 55; go_must (refine (shape_8 _).mono ?_); rintro y w1 ⟨rfl, hb1⟩; have hx1 := below_blk hb1 HX.out (blk_lt HX.out); have x0 := fun o => blk_cell (blk_alloc hx1 o) 0; have x1 := fun o => blk_cell (blk_alloc hx1 o) 1; have x2 := fun o => blk_cell (blk_alloc hx1 o) 2; have x3 := fun o => blk_cell (blk_alloc hx1 o) 3; have x4 := fun o => blk_cell (blk_alloc hx1 o) 4; have x5 := fun o => blk_cell (blk_alloc hx1 o) 5; clear hx1))
            all_goals
              go_ret
              refine ⟨?_, ?_⟩
              · first | (rw [HS.out]; done) | (rw [HS.out]; rfl)
              · exact fin1 hb1
        · have h3b : (n == 0) = false := by simp [h3]
          have HS := Lib.hid (show e8 op a 0 c n cells long = 83 by unfold e8; rw [if_neg h0, if_neg h1, if_pos rfl, if_neg h3])
          have HX := Lib.hid (blk_new w (.cells #[.int .i64 8, .int .i64 op, .int .i64 a, .int .i64 0, .int .i64 c, .int .i64 n] 42))
          go_enter Try.func39, Try.ntmps39
          go_wp2_with (first | (go_at_call 56; go_must (refine (reg_calls _ _).mono ?_); rintro y w2 ⟨rfl, rfl⟩) | (go_at_call 55; go_must (refine (shape_8 _).mono ?_); rintro y w1 ⟨rfl, hb1⟩; have hx1 := below_blk hb1 HX.out (blk_lt HX.out); have x0 := fun o => blk_cell (blk_alloc hx1 o) 0; have x1 := fun o => blk_cell (blk_alloc hx1 o) 1; have x2 := fun o => blk_cell (blk_alloc hx1 o) 2; have x3 := fun o => blk_cell (blk_alloc hx1 o) 3; have x4 := fun o => blk_cell (blk_alloc hx1 o) 4; have x5 := fun o => blk_cell (blk_alloc hx1 o) 5; clear hx1))
          all_goals
            go_ret
            refine ⟨?_, ?_⟩
            · first | (rw [HS.out]; done) | (rw [HS.out]; rfl)
            · exact fin1 hb1
      · have h2b : (b == 0) = false := by simp [h2]
        have HS := Lib.hid (show e8 op a b c n cells long = 83 by unfold e8; rw [if_neg h0, if_neg h1, if_neg h2])
        have HX := Lib.hid (blk_new w (.cells #[.int .i64 8, .int .i64 op, .int .i64 a, .int .i64 b, .int .i64 c, .int .i64 n] 42))
        go_enter Try.func39, Try.ntmps39
        go_wp2_with (first | (go_at_call 56; go_must (refine (reg_calls _ _).mono ?_); rintro y w2 ⟨rfl, rfl⟩) | (go_at_call 55; go_must (refine (shape_8 _).mono ?_); rintro y w1 ⟨rfl, hb1⟩; have hx1 := below_blk hb1 HX.out (blk_lt HX.out); have x0 := fun o => blk_cell (blk_alloc hx1 o) 0; have x1 := fun o => blk_cell (blk_alloc hx1 o) 1; have x2 := fun o => blk_cell (blk_alloc hx1 o) 2; have x3 := fun o => blk_cell (blk_alloc hx1 o) 3; have x4 := fun o => blk_cell (blk_alloc hx1 o) 4; have x5 := fun o => blk_cell (blk_alloc hx1 o) 5; clear hx1))
        all_goals
          go_ret
          refine ⟨?_, ?_⟩
          · first | (rw [HS.out]; done) | (rw [HS.out]; rfl)
          · exact fin1 hb1
set_option linter.unusedVariables false in
set_option maxRecDepth 100000 in
set_option maxHeartbeats 4000000 in
theorem insOne_9 (op a b c n cells long : Int) (w : World) : Calls Try.prog 39 #[.agg #[.int .i64 9, .int .i64 op, .int .i64 a, .int .i64 b, .int .i64 c, .int .i64 n], .int .i64 cells, .int .i64 long] w fun e w' => e = .returned (.int .i64 (e9 op a b c n cells long)) ∧ Below w.heap.size w w' := by
  by_cases h0 : a < 0
  · have h0b : ¬ (0 ≤ a) := by omega
    have h0r : regB a = false := regB_no (by omega)
    have HS := Lib.hid (show e9 op a b c n cells long = 82 by unfold e9; rw [if_pos h0])
    have HX := Lib.hid (blk_new w (.cells #[.int .i64 9, .int .i64 op, .int .i64 a, .int .i64 b, .int .i64 c, .int .i64 n] 42))
    go_enter Try.func39, Try.ntmps39
    go_wp2_with (first | (go_at_call 56; go_must (refine (reg_calls _ _).mono ?_); rintro y w2 ⟨rfl, rfl⟩) | (go_at_call 55; go_must (refine (shape_9 _).mono ?_); rintro y w1 ⟨rfl, hb1⟩; have hx1 := below_blk hb1 HX.out (blk_lt HX.out); have x0 := fun o => blk_cell (blk_alloc hx1 o) 0; have x1 := fun o => blk_cell (blk_alloc hx1 o) 1; have x2 := fun o => blk_cell (blk_alloc hx1 o) 2; have x3 := fun o => blk_cell (blk_alloc hx1 o) 3; have x4 := fun o => blk_cell (blk_alloc hx1 o) 4; have x5 := fun o => blk_cell (blk_alloc hx1 o) 5; clear hx1))
    all_goals
      go_ret
      refine ⟨?_, ?_⟩
      · first | (rw [HS.out]; done) | (rw [HS.out]; rfl)
      · exact fin1 hb1
  · have h0b : 0 ≤ a := by omega
    by_cases h1 : 15 < a
    · have h1b : ¬ (a < 16) := by omega
      have h1c : a > 15 := by omega
      have h1r : regB a = false := regB_no (by omega)
      have HS := Lib.hid (show e9 op a b c n cells long = 82 by unfold e9; rw [if_neg h0, if_pos h1])
      have HX := Lib.hid (blk_new w (.cells #[.int .i64 9, .int .i64 op, .int .i64 a, .int .i64 b, .int .i64 c, .int .i64 n] 42))
      go_enter Try.func39, Try.ntmps39
      go_wp2_with (first | (go_at_call 56; go_must (refine (reg_calls _ _).mono ?_); rintro y w2 ⟨rfl, rfl⟩) | (go_at_call 55; go_must (refine (shape_9 _).mono ?_); rintro y w1 ⟨rfl, hb1⟩; have hx1 := below_blk hb1 HX.out (blk_lt HX.out); have x0 := fun o => blk_cell (blk_alloc hx1 o) 0; have x1 := fun o => blk_cell (blk_alloc hx1 o) 1; have x2 := fun o => blk_cell (blk_alloc hx1 o) 2; have x3 := fun o => blk_cell (blk_alloc hx1 o) 3; have x4 := fun o => blk_cell (blk_alloc hx1 o) 4; have x5 := fun o => blk_cell (blk_alloc hx1 o) 5; clear hx1))
      all_goals
        go_ret
        refine ⟨?_, ?_⟩
        · first | (rw [HS.out]; done) | (rw [HS.out]; rfl)
        · exact fin1 hb1
    · have h1b : a < 16 := by omega
      have h1c : ¬ (a > 15) := by omega
      have h1r : regB a = true := regB_yes (by omega) (by omega)
      by_cases h2 : b = 0
      · subst h2
        by_cases h3 : c = 0
        · subst h3
          by_cases h4 : n = 0
          · subst h4
            by_cases h5 : op = 0
            · subst h5
              have HS := Lib.hid (show e9 0 a 0 0 0 cells long = 0 by unfold e9; rw [if_neg h0, if_neg h1, if_pos rfl, if_pos rfl, if_pos rfl, if_pos rfl])
              have HX := Lib.hid (blk_new w (.cells #[.int .i64 9, .int .i64 0, .int .i64 a, .int .i64 0, .int .i64 0, .int .i64 0] 42))
              go_enter Try.func39, Try.ntmps39
              go_wp2_with (first | (go_at_call 56; go_must (refine (reg_calls _ _).mono ?_); rintro y w2 ⟨rfl, rfl⟩) | (go_at_call 55; go_must (refine (shape_9 _).mono ?_); rintro y w1 ⟨rfl, hb1⟩; have hx1 := below_blk hb1 HX.out (blk_lt HX.out); have x0 := fun o => blk_cell (blk_alloc hx1 o) 0; have x1 := fun o => blk_cell (blk_alloc hx1 o) 1; have x2 := fun o => blk_cell (blk_alloc hx1 o) 2; have x3 := fun o => blk_cell (blk_alloc hx1 o) 3; have x4 := fun o => blk_cell (blk_alloc hx1 o) 4; have x5 := fun o => blk_cell (blk_alloc hx1 o) 5; clear hx1))
              all_goals
                go_ret
                refine ⟨?_, ?_⟩
                · first | (rw [HS.out]; done) | (rw [HS.out]; rfl)
                · exact fin1 hb1
            · have h5b : (op == 0) = false := by simp [h5]
              have HS := Lib.hid (show e9 op a 0 0 0 cells long = 83 by unfold e9; rw [if_neg h0, if_neg h1, if_pos rfl, if_pos rfl, if_pos rfl, if_neg h5])
              have HX := Lib.hid (blk_new w (.cells #[.int .i64 9, .int .i64 op, .int .i64 a, .int .i64 0, .int .i64 0, .int .i64 0] 42))
              go_enter Try.func39, Try.ntmps39
              go_wp2_with (first | (go_at_call 56; go_must (refine (reg_calls _ _).mono ?_); rintro y w2 ⟨rfl, rfl⟩) | (go_at_call 55; go_must (refine (shape_9 _).mono ?_); rintro y w1 ⟨rfl, hb1⟩; have hx1 := below_blk hb1 HX.out (blk_lt HX.out); have x0 := fun o => blk_cell (blk_alloc hx1 o) 0; have x1 := fun o => blk_cell (blk_alloc hx1 o) 1; have x2 := fun o => blk_cell (blk_alloc hx1 o) 2; have x3 := fun o => blk_cell (blk_alloc hx1 o) 3; have x4 := fun o => blk_cell (blk_alloc hx1 o) 4; have x5 := fun o => blk_cell (blk_alloc hx1 o) 5; clear hx1))
              all_goals
                go_ret
                refine ⟨?_, ?_⟩
                · first | (rw [HS.out]; done) | (rw [HS.out]; rfl)
                · exact fin1 hb1
          · have h4b : (n == 0) = false := by simp [h4]
            have HS := Lib.hid (show e9 op a 0 0 n cells long = 83 by unfold e9; rw [if_neg h0, if_neg h1, if_pos rfl, if_pos rfl, if_neg h4])
            have HX := Lib.hid (blk_new w (.cells #[.int .i64 9, .int .i64 op, .int .i64 a, .int .i64 0, .int .i64 0, .int .i64 n] 42))
            go_enter Try.func39, Try.ntmps39
            go_wp2_with (first | (go_at_call 56; go_must (refine (reg_calls _ _).mono ?_); rintro y w2 ⟨rfl, rfl⟩) | (go_at_call 55; go_must (refine (shape_9 _).mono ?_); rintro y w1 ⟨rfl, hb1⟩; have hx1 := below_blk hb1 HX.out (blk_lt HX.out); have x0 := fun o => blk_cell (blk_alloc hx1 o) 0; have x1 := fun o => blk_cell (blk_alloc hx1 o) 1; have x2 := fun o => blk_cell (blk_alloc hx1 o) 2; have x3 := fun o => blk_cell (blk_alloc hx1 o) 3; have x4 := fun o => blk_cell (blk_alloc hx1 o) 4; have x5 := fun o => blk_cell (blk_alloc hx1 o) 5; clear hx1))
            all_goals
              go_ret
              refine ⟨?_, ?_⟩
              · first | (rw [HS.out]; done) | (rw [HS.out]; rfl)
              · exact fin1 hb1
        · have h3b : (c == 0) = false := by simp [h3]
          have HS := Lib.hid (show e9 op a 0 c n cells long = 83 by unfold e9; rw [if_neg h0, if_neg h1, if_pos rfl, if_neg h3])
          have HX := Lib.hid (blk_new w (.cells #[.int .i64 9, .int .i64 op, .int .i64 a, .int .i64 0, .int .i64 c, .int .i64 n] 42))
          go_enter Try.func39, Try.ntmps39
          go_wp2_with (first | (go_at_call 56; go_must (refine (reg_calls _ _).mono ?_); rintro y w2 ⟨rfl, rfl⟩) | (go_at_call 55; go_must (refine (shape_9 _).mono ?_); rintro y w1 ⟨rfl, hb1⟩; have hx1 := below_blk hb1 HX.out (blk_lt HX.out); have x0 := fun o => blk_cell (blk_alloc hx1 o) 0; have x1 := fun o => blk_cell (blk_alloc hx1 o) 1; have x2 := fun o => blk_cell (blk_alloc hx1 o) 2; have x3 := fun o => blk_cell (blk_alloc hx1 o) 3; have x4 := fun o => blk_cell (blk_alloc hx1 o) 4; have x5 := fun o => blk_cell (blk_alloc hx1 o) 5; clear hx1))
          all_goals
            go_ret
            refine ⟨?_, ?_⟩
            · first | (rw [HS.out]; done) | (rw [HS.out]; rfl)
            · exact fin1 hb1
      · have h2b : (b == 0) = false := by simp [h2]
        have HS := Lib.hid (show e9 op a b c n cells long = 83 by unfold e9; rw [if_neg h0, if_neg h1, if_neg h2])
        have HX := Lib.hid (blk_new w (.cells #[.int .i64 9, .int .i64 op, .int .i64 a, .int .i64 b, .int .i64 c, .int .i64 n] 42))
        go_enter Try.func39, Try.ntmps39
        go_wp2_with (first | (go_at_call 56; go_must (refine (reg_calls _ _).mono ?_); rintro y w2 ⟨rfl, rfl⟩) | (go_at_call 55; go_must (refine (shape_9 _).mono ?_); rintro y w1 ⟨rfl, hb1⟩; have hx1 := below_blk hb1 HX.out (blk_lt HX.out); have x0 := fun o => blk_cell (blk_alloc hx1 o) 0; have x1 := fun o => blk_cell (blk_alloc hx1 o) 1; have x2 := fun o => blk_cell (blk_alloc hx1 o) 2; have x3 := fun o => blk_cell (blk_alloc hx1 o) 3; have x4 := fun o => blk_cell (blk_alloc hx1 o) 4; have x5 := fun o => blk_cell (blk_alloc hx1 o) 5; clear hx1))
        all_goals
          go_ret
          refine ⟨?_, ?_⟩
          · first | (rw [HS.out]; done) | (rw [HS.out]; rfl)
          · exact fin1 hb1
set_option linter.unusedVariables false in
set_option maxRecDepth 100000 in
set_option maxHeartbeats 4000000 in
theorem insOne_10 (op a b c n cells long : Int) (w : World) : Calls Try.prog 39 #[.agg #[.int .i64 10, .int .i64 op, .int .i64 a, .int .i64 b, .int .i64 c, .int .i64 n], .int .i64 cells, .int .i64 long] w fun e w' => e = .returned (.int .i64 (e10 op a b c n cells long)) ∧ Below w.heap.size w w' := by
  by_cases h0 : a = 0
  · subst h0
    by_cases h1 : b = 0
    · subst h1
      by_cases h2 : c = 0
      · subst h2
        by_cases h3 : op = 0
        · subst h3
          by_cases h4 : n < 0
          · have h4b : ¬ (0 ≤ n) := by omega
            have HS := Lib.hid (show e10 0 0 0 0 n cells long = 84 by unfold e10; rw [if_pos rfl, if_pos rfl, if_pos rfl, if_pos rfl, if_pos h4])
            have HX := Lib.hid (blk_new w (.cells #[.int .i64 10, .int .i64 0, .int .i64 0, .int .i64 0, .int .i64 0, .int .i64 n] 42))
            go_enter Try.func39, Try.ntmps39
            go_wp2_with (first | (go_at_call 56; go_must (refine (reg_calls _ _).mono ?_); rintro y w2 ⟨rfl, rfl⟩) | (go_at_call 55; go_must (refine (shape_10 _).mono ?_); rintro y w1 ⟨rfl, hb1⟩; have hx1 := below_blk hb1 HX.out (blk_lt HX.out); have x0 := fun o => blk_cell (blk_alloc hx1 o) 0; have x1 := fun o => blk_cell (blk_alloc hx1 o) 1; have x2 := fun o => blk_cell (blk_alloc hx1 o) 2; have x3 := fun o => blk_cell (blk_alloc hx1 o) 3; have x4 := fun o => blk_cell (blk_alloc hx1 o) 4; have x5 := fun o => blk_cell (blk_alloc hx1 o) 5; clear hx1))
            all_goals
              go_ret
              refine ⟨?_, ?_⟩
              · first | (rw [HS.out]; done) | (rw [HS.out]; rfl)
              · exact fin1 hb1
          · have h4b : 0 ≤ n := by omega
            by_cases h5 : long ≤ n
            · have h5b : n ≥ long := by omega
              have HS := Lib.hid (show e10 0 0 0 0 n cells long = 84 by unfold e10; rw [if_pos rfl, if_pos rfl, if_pos rfl, if_pos rfl, if_neg h4, if_pos h5])
              have HX := Lib.hid (blk_new w (.cells #[.int .i64 10, .int .i64 0, .int .i64 0, .int .i64 0, .int .i64 0, .int .i64 n] 42))
              go_enter Try.func39, Try.ntmps39
              go_wp2_with (first | (go_at_call 56; go_must (refine (reg_calls _ _).mono ?_); rintro y w2 ⟨rfl, rfl⟩) | (go_at_call 55; go_must (refine (shape_10 _).mono ?_); rintro y w1 ⟨rfl, hb1⟩; have hx1 := below_blk hb1 HX.out (blk_lt HX.out); have x0 := fun o => blk_cell (blk_alloc hx1 o) 0; have x1 := fun o => blk_cell (blk_alloc hx1 o) 1; have x2 := fun o => blk_cell (blk_alloc hx1 o) 2; have x3 := fun o => blk_cell (blk_alloc hx1 o) 3; have x4 := fun o => blk_cell (blk_alloc hx1 o) 4; have x5 := fun o => blk_cell (blk_alloc hx1 o) 5; clear hx1))
              all_goals
                go_ret
                refine ⟨?_, ?_⟩
                · first | (rw [HS.out]; done) | (rw [HS.out]; rfl)
                · exact fin1 hb1
            · have h5b : ¬ (n ≥ long) := by omega
              have HS := Lib.hid (show e10 0 0 0 0 n cells long = 0 by unfold e10; rw [if_pos rfl, if_pos rfl, if_pos rfl, if_pos rfl, if_neg h4, if_neg h5])
              have HX := Lib.hid (blk_new w (.cells #[.int .i64 10, .int .i64 0, .int .i64 0, .int .i64 0, .int .i64 0, .int .i64 n] 42))
              go_enter Try.func39, Try.ntmps39
              go_wp2_with (first | (go_at_call 56; go_must (refine (reg_calls _ _).mono ?_); rintro y w2 ⟨rfl, rfl⟩) | (go_at_call 55; go_must (refine (shape_10 _).mono ?_); rintro y w1 ⟨rfl, hb1⟩; have hx1 := below_blk hb1 HX.out (blk_lt HX.out); have x0 := fun o => blk_cell (blk_alloc hx1 o) 0; have x1 := fun o => blk_cell (blk_alloc hx1 o) 1; have x2 := fun o => blk_cell (blk_alloc hx1 o) 2; have x3 := fun o => blk_cell (blk_alloc hx1 o) 3; have x4 := fun o => blk_cell (blk_alloc hx1 o) 4; have x5 := fun o => blk_cell (blk_alloc hx1 o) 5; clear hx1))
              all_goals
                go_ret
                refine ⟨?_, ?_⟩
                · first | (rw [HS.out]; done) | (rw [HS.out]; rfl)
                · exact fin1 hb1
        · have h3b : (op == 0) = false := by simp [h3]
          have HS := Lib.hid (show e10 op 0 0 0 n cells long = 83 by unfold e10; rw [if_pos rfl, if_pos rfl, if_pos rfl, if_neg h3])
          have HX := Lib.hid (blk_new w (.cells #[.int .i64 10, .int .i64 op, .int .i64 0, .int .i64 0, .int .i64 0, .int .i64 n] 42))
          go_enter Try.func39, Try.ntmps39
          go_wp2_with (first | (go_at_call 56; go_must (refine (reg_calls _ _).mono ?_); rintro y w2 ⟨rfl, rfl⟩) | (go_at_call 55; go_must (refine (shape_10 _).mono ?_); rintro y w1 ⟨rfl, hb1⟩; have hx1 := below_blk hb1 HX.out (blk_lt HX.out); have x0 := fun o => blk_cell (blk_alloc hx1 o) 0; have x1 := fun o => blk_cell (blk_alloc hx1 o) 1; have x2 := fun o => blk_cell (blk_alloc hx1 o) 2; have x3 := fun o => blk_cell (blk_alloc hx1 o) 3; have x4 := fun o => blk_cell (blk_alloc hx1 o) 4; have x5 := fun o => blk_cell (blk_alloc hx1 o) 5; clear hx1))
          all_goals
            go_ret
            refine ⟨?_, ?_⟩
            · first | (rw [HS.out]; done) | (rw [HS.out]; rfl)
            · exact fin1 hb1
      · have h2b : (c == 0) = false := by simp [h2]
        have HS := Lib.hid (show e10 op 0 0 c n cells long = 83 by unfold e10; rw [if_pos rfl, if_pos rfl, if_neg h2])
        have HX := Lib.hid (blk_new w (.cells #[.int .i64 10, .int .i64 op, .int .i64 0, .int .i64 0, .int .i64 c, .int .i64 n] 42))
        go_enter Try.func39, Try.ntmps39
        go_wp2_with (first | (go_at_call 56; go_must (refine (reg_calls _ _).mono ?_); rintro y w2 ⟨rfl, rfl⟩) | (go_at_call 55; go_must (refine (shape_10 _).mono ?_); rintro y w1 ⟨rfl, hb1⟩; have hx1 := below_blk hb1 HX.out (blk_lt HX.out); have x0 := fun o => blk_cell (blk_alloc hx1 o) 0; have x1 := fun o => blk_cell (blk_alloc hx1 o) 1; have x2 := fun o => blk_cell (blk_alloc hx1 o) 2; have x3 := fun o => blk_cell (blk_alloc hx1 o) 3; have x4 := fun o => blk_cell (blk_alloc hx1 o) 4; have x5 := fun o => blk_cell (blk_alloc hx1 o) 5; clear hx1))
        all_goals
          go_ret
          refine ⟨?_, ?_⟩
          · first | (rw [HS.out]; done) | (rw [HS.out]; rfl)
          · exact fin1 hb1
    · have h1b : (b == 0) = false := by simp [h1]
      have HS := Lib.hid (show e10 op 0 b c n cells long = 83 by unfold e10; rw [if_pos rfl, if_neg h1])
      have HX := Lib.hid (blk_new w (.cells #[.int .i64 10, .int .i64 op, .int .i64 0, .int .i64 b, .int .i64 c, .int .i64 n] 42))
      go_enter Try.func39, Try.ntmps39
      go_wp2_with (first | (go_at_call 56; go_must (refine (reg_calls _ _).mono ?_); rintro y w2 ⟨rfl, rfl⟩) | (go_at_call 55; go_must (refine (shape_10 _).mono ?_); rintro y w1 ⟨rfl, hb1⟩; have hx1 := below_blk hb1 HX.out (blk_lt HX.out); have x0 := fun o => blk_cell (blk_alloc hx1 o) 0; have x1 := fun o => blk_cell (blk_alloc hx1 o) 1; have x2 := fun o => blk_cell (blk_alloc hx1 o) 2; have x3 := fun o => blk_cell (blk_alloc hx1 o) 3; have x4 := fun o => blk_cell (blk_alloc hx1 o) 4; have x5 := fun o => blk_cell (blk_alloc hx1 o) 5; clear hx1))
      all_goals
        go_ret
        refine ⟨?_, ?_⟩
        · first | (rw [HS.out]; done) | (rw [HS.out]; rfl)
        · exact fin1 hb1
  · have h0b : (a == 0) = false := by simp [h0]
    have HS := Lib.hid (show e10 op a b c n cells long = 83 by unfold e10; rw [if_neg h0])
    have HX := Lib.hid (blk_new w (.cells #[.int .i64 10, .int .i64 op, .int .i64 a, .int .i64 b, .int .i64 c, .int .i64 n] 42))
    go_enter Try.func39, Try.ntmps39
    go_wp2_with (first | (go_at_call 56; go_must (refine (reg_calls _ _).mono ?_); rintro y w2 ⟨rfl, rfl⟩) | (go_at_call 55; go_must (refine (shape_10 _).mono ?_); rintro y w1 ⟨rfl, hb1⟩; have hx1 := below_blk hb1 HX.out (blk_lt HX.out); have x0 := fun o => blk_cell (blk_alloc hx1 o) 0; have x1 := fun o => blk_cell (blk_alloc hx1 o) 1; have x2 := fun o => blk_cell (blk_alloc hx1 o) 2; have x3 := fun o => blk_cell (blk_alloc hx1 o) 3; have x4 := fun o => blk_cell (blk_alloc hx1 o) 4; have x5 := fun o => blk_cell (blk_alloc hx1 o) 5; clear hx1))
    all_goals
      go_ret
      refine ⟨?_, ?_⟩
      · first | (rw [HS.out]; done) | (rw [HS.out]; rfl)
      · exact fin1 hb1
set_option linter.unusedVariables false in
set_option maxRecDepth 100000 in
set_option maxHeartbeats 4000000 in
theorem insOne_11 (op a b c n cells long : Int) (w : World) : Calls Try.prog 39 #[.agg #[.int .i64 11, .int .i64 op, .int .i64 a, .int .i64 b, .int .i64 c, .int .i64 n], .int .i64 cells, .int .i64 long] w fun e w' => e = .returned (.int .i64 (e11 op a b c n cells long)) ∧ Below w.heap.size w w' := by
  by_cases h0 : a < 0
  · have h0b : ¬ (0 ≤ a) := by omega
    have h0r : regB a = false := regB_no (by omega)
    have HS := Lib.hid (show e11 op a b c n cells long = 82 by unfold e11; rw [if_pos h0])
    have HX := Lib.hid (blk_new w (.cells #[.int .i64 11, .int .i64 op, .int .i64 a, .int .i64 b, .int .i64 c, .int .i64 n] 42))
    go_enter Try.func39, Try.ntmps39
    go_wp2_with (first | (go_at_call 56; go_must (refine (reg_calls _ _).mono ?_); rintro y w2 ⟨rfl, rfl⟩) | (go_at_call 55; go_must (refine (shape_11 _).mono ?_); rintro y w1 ⟨rfl, hb1⟩; have hx1 := below_blk hb1 HX.out (blk_lt HX.out); have x0 := fun o => blk_cell (blk_alloc hx1 o) 0; have x1 := fun o => blk_cell (blk_alloc hx1 o) 1; have x2 := fun o => blk_cell (blk_alloc hx1 o) 2; have x3 := fun o => blk_cell (blk_alloc hx1 o) 3; have x4 := fun o => blk_cell (blk_alloc hx1 o) 4; have x5 := fun o => blk_cell (blk_alloc hx1 o) 5; clear hx1))
    all_goals
      go_ret
      refine ⟨?_, ?_⟩
      · first | (rw [HS.out]; done) | (rw [HS.out]; rfl)
      · exact fin1 hb1
  · have h0b : 0 ≤ a := by omega
    by_cases h1 : 15 < a
    · have h1b : ¬ (a < 16) := by omega
      have h1c : a > 15 := by omega
      have h1r : regB a = false := regB_no (by omega)
      have HS := Lib.hid (show e11 op a b c n cells long = 82 by unfold e11; rw [if_neg h0, if_pos h1])
      have HX := Lib.hid (blk_new w (.cells #[.int .i64 11, .int .i64 op, .int .i64 a, .int .i64 b, .int .i64 c, .int .i64 n] 42))
      go_enter Try.func39, Try.ntmps39
      go_wp2_with (first | (go_at_call 56; go_must (refine (reg_calls _ _).mono ?_); rintro y w2 ⟨rfl, rfl⟩) | (go_at_call 55; go_must (refine (shape_11 _).mono ?_); rintro y w1 ⟨rfl, hb1⟩; have hx1 := below_blk hb1 HX.out (blk_lt HX.out); have x0 := fun o => blk_cell (blk_alloc hx1 o) 0; have x1 := fun o => blk_cell (blk_alloc hx1 o) 1; have x2 := fun o => blk_cell (blk_alloc hx1 o) 2; have x3 := fun o => blk_cell (blk_alloc hx1 o) 3; have x4 := fun o => blk_cell (blk_alloc hx1 o) 4; have x5 := fun o => blk_cell (blk_alloc hx1 o) 5; clear hx1))
      all_goals
        go_ret
        refine ⟨?_, ?_⟩
        · first | (rw [HS.out]; done) | (rw [HS.out]; rfl)
        · exact fin1 hb1
    · have h1b : a < 16 := by omega
      have h1c : ¬ (a > 15) := by omega
      have h1r : regB a = true := regB_yes (by omega) (by omega)
      by_cases h2 : b = 0
      · subst h2
        by_cases h3 : c = 0
        · subst h3
          by_cases h4 : op = 0
          · subst h4
            by_cases h5 : n < 0
            · have h5b : ¬ (0 ≤ n) := by omega
              have HS := Lib.hid (show e11 0 a 0 0 n cells long = 84 by unfold e11; rw [if_neg h0, if_neg h1, if_pos rfl, if_pos rfl, if_pos rfl, if_pos h5])
              have HX := Lib.hid (blk_new w (.cells #[.int .i64 11, .int .i64 0, .int .i64 a, .int .i64 0, .int .i64 0, .int .i64 n] 42))
              go_enter Try.func39, Try.ntmps39
              go_wp2_with (first | (go_at_call 56; go_must (refine (reg_calls _ _).mono ?_); rintro y w2 ⟨rfl, rfl⟩) | (go_at_call 55; go_must (refine (shape_11 _).mono ?_); rintro y w1 ⟨rfl, hb1⟩; have hx1 := below_blk hb1 HX.out (blk_lt HX.out); have x0 := fun o => blk_cell (blk_alloc hx1 o) 0; have x1 := fun o => blk_cell (blk_alloc hx1 o) 1; have x2 := fun o => blk_cell (blk_alloc hx1 o) 2; have x3 := fun o => blk_cell (blk_alloc hx1 o) 3; have x4 := fun o => blk_cell (blk_alloc hx1 o) 4; have x5 := fun o => blk_cell (blk_alloc hx1 o) 5; clear hx1))
              all_goals
                go_ret
                refine ⟨?_, ?_⟩
                · first | (rw [HS.out]; done) | (rw [HS.out]; rfl)
                · exact fin1 hb1
            · have h5b : 0 ≤ n := by omega
              by_cases h6 : long ≤ n
              · have h6b : n ≥ long := by omega
                have HS := Lib.hid (show e11 0 a 0 0 n cells long = 84 by unfold e11; rw [if_neg h0, if_neg h1, if_pos rfl, if_pos rfl, if_pos rfl, if_neg h5, if_pos h6])
                have HX := Lib.hid (blk_new w (.cells #[.int .i64 11, .int .i64 0, .int .i64 a, .int .i64 0, .int .i64 0, .int .i64 n] 42))
                go_enter Try.func39, Try.ntmps39
                go_wp2_with (first | (go_at_call 56; go_must (refine (reg_calls _ _).mono ?_); rintro y w2 ⟨rfl, rfl⟩) | (go_at_call 55; go_must (refine (shape_11 _).mono ?_); rintro y w1 ⟨rfl, hb1⟩; have hx1 := below_blk hb1 HX.out (blk_lt HX.out); have x0 := fun o => blk_cell (blk_alloc hx1 o) 0; have x1 := fun o => blk_cell (blk_alloc hx1 o) 1; have x2 := fun o => blk_cell (blk_alloc hx1 o) 2; have x3 := fun o => blk_cell (blk_alloc hx1 o) 3; have x4 := fun o => blk_cell (blk_alloc hx1 o) 4; have x5 := fun o => blk_cell (blk_alloc hx1 o) 5; clear hx1))
                all_goals
                  go_ret
                  refine ⟨?_, ?_⟩
                  · first | (rw [HS.out]; done) | (rw [HS.out]; rfl)
                  · exact fin1 hb1
              · have h6b : ¬ (n ≥ long) := by omega
                have HS := Lib.hid (show e11 0 a 0 0 n cells long = 0 by unfold e11; rw [if_neg h0, if_neg h1, if_pos rfl, if_pos rfl, if_pos rfl, if_neg h5, if_neg h6])
                have HX := Lib.hid (blk_new w (.cells #[.int .i64 11, .int .i64 0, .int .i64 a, .int .i64 0, .int .i64 0, .int .i64 n] 42))
                go_enter Try.func39, Try.ntmps39
                go_wp2_with (first | (go_at_call 56; go_must (refine (reg_calls _ _).mono ?_); rintro y w2 ⟨rfl, rfl⟩) | (go_at_call 55; go_must (refine (shape_11 _).mono ?_); rintro y w1 ⟨rfl, hb1⟩; have hx1 := below_blk hb1 HX.out (blk_lt HX.out); have x0 := fun o => blk_cell (blk_alloc hx1 o) 0; have x1 := fun o => blk_cell (blk_alloc hx1 o) 1; have x2 := fun o => blk_cell (blk_alloc hx1 o) 2; have x3 := fun o => blk_cell (blk_alloc hx1 o) 3; have x4 := fun o => blk_cell (blk_alloc hx1 o) 4; have x5 := fun o => blk_cell (blk_alloc hx1 o) 5; clear hx1))
                all_goals
                  go_ret
                  refine ⟨?_, ?_⟩
                  · first | (rw [HS.out]; done) | (rw [HS.out]; rfl)
                  · exact fin1 hb1
          · have h4b : (op == 0) = false := by simp [h4]
            have HS := Lib.hid (show e11 op a 0 0 n cells long = 83 by unfold e11; rw [if_neg h0, if_neg h1, if_pos rfl, if_pos rfl, if_neg h4])
            have HX := Lib.hid (blk_new w (.cells #[.int .i64 11, .int .i64 op, .int .i64 a, .int .i64 0, .int .i64 0, .int .i64 n] 42))
            go_enter Try.func39, Try.ntmps39
            go_wp2_with (first | (go_at_call 56; go_must (refine (reg_calls _ _).mono ?_); rintro y w2 ⟨rfl, rfl⟩) | (go_at_call 55; go_must (refine (shape_11 _).mono ?_); rintro y w1 ⟨rfl, hb1⟩; have hx1 := below_blk hb1 HX.out (blk_lt HX.out); have x0 := fun o => blk_cell (blk_alloc hx1 o) 0; have x1 := fun o => blk_cell (blk_alloc hx1 o) 1; have x2 := fun o => blk_cell (blk_alloc hx1 o) 2; have x3 := fun o => blk_cell (blk_alloc hx1 o) 3; have x4 := fun o => blk_cell (blk_alloc hx1 o) 4; have x5 := fun o => blk_cell (blk_alloc hx1 o) 5; clear hx1))
            all_goals
              go_ret
              refine ⟨?_, ?_⟩
              · first | (rw [HS.out]; done) | (rw [HS.out]; rfl)
              · exact fin1 hb1
        · have h3b : (c == 0) = false := by simp [h3]
          have HS := Lib.hid (show e11 op a 0 c n cells long = 83 by unfold e11; rw [if_neg h0, if_neg h1, if_pos rfl, if_neg h3])
          have HX := Lib.hid (blk_new w (.cells #[.int .i64 11, .int .i64 op, .int .i64 a, .int .i64 0, .int .i64 c, .int .i64 n] 42))
          go_enter Try.func39, Try.ntmps39
          go_wp2_with (first | (go_at_call 56; go_must (refine (reg_calls _ _).mono ?_); rintro y w2 ⟨rfl, rfl⟩) | (go_at_call 55; go_must (refine (shape_11 _).mono ?_); rintro y w1 ⟨rfl, hb1⟩; have hx1 := below_blk hb1 HX.out (blk_lt HX.out); have x0 := fun o => blk_cell (blk_alloc hx1 o) 0; have x1 := fun o => blk_cell (blk_alloc hx1 o) 1; have x2 := fun o => blk_cell (blk_alloc hx1 o) 2; have x3 := fun o => blk_cell (blk_alloc hx1 o) 3; have x4 := fun o => blk_cell (blk_alloc hx1 o) 4; have x5 := fun o => blk_cell (blk_alloc hx1 o) 5; clear hx1))
          all_goals
            go_ret
            refine ⟨?_, ?_⟩
            · first | (rw [HS.out]; done) | (rw [HS.out]; rfl)
            · exact fin1 hb1
      · have h2b : (b == 0) = false := by simp [h2]
        have HS := Lib.hid (show e11 op a b c n cells long = 83 by unfold e11; rw [if_neg h0, if_neg h1, if_neg h2])
        have HX := Lib.hid (blk_new w (.cells #[.int .i64 11, .int .i64 op, .int .i64 a, .int .i64 b, .int .i64 c, .int .i64 n] 42))
        go_enter Try.func39, Try.ntmps39
        go_wp2_with (first | (go_at_call 56; go_must (refine (reg_calls _ _).mono ?_); rintro y w2 ⟨rfl, rfl⟩) | (go_at_call 55; go_must (refine (shape_11 _).mono ?_); rintro y w1 ⟨rfl, hb1⟩; have hx1 := below_blk hb1 HX.out (blk_lt HX.out); have x0 := fun o => blk_cell (blk_alloc hx1 o) 0; have x1 := fun o => blk_cell (blk_alloc hx1 o) 1; have x2 := fun o => blk_cell (blk_alloc hx1 o) 2; have x3 := fun o => blk_cell (blk_alloc hx1 o) 3; have x4 := fun o => blk_cell (blk_alloc hx1 o) 4; have x5 := fun o => blk_cell (blk_alloc hx1 o) 5; clear hx1))
        all_goals
          go_ret
          refine ⟨?_, ?_⟩
          · first | (rw [HS.out]; done) | (rw [HS.out]; rfl)
          · exact fin1 hb1
set_option linter.unusedVariables false in
set_option maxRecDepth 100000 in
set_option maxHeartbeats 4000000 in
theorem insOne_12 (op a b c n cells long : Int) (w : World) : Calls Try.prog 39 #[.agg #[.int .i64 12, .int .i64 op, .int .i64 a, .int .i64 b, .int .i64 c, .int .i64 n], .int .i64 cells, .int .i64 long] w fun e w' => e = .returned (.int .i64 (e12 op a b c n cells long)) ∧ Below w.heap.size w w' := by
  by_cases h0 : a < 0
  · have h0b : ¬ (0 ≤ a) := by omega
    have h0r : regB a = false := regB_no (by omega)
    have HS := Lib.hid (show e12 op a b c n cells long = 82 by unfold e12; rw [if_pos h0])
    have HX := Lib.hid (blk_new w (.cells #[.int .i64 12, .int .i64 op, .int .i64 a, .int .i64 b, .int .i64 c, .int .i64 n] 42))
    go_enter Try.func39, Try.ntmps39
    go_wp2_with (first | (go_at_call 56; go_must (refine (reg_calls _ _).mono ?_); rintro y w2 ⟨rfl, rfl⟩) | (go_at_call 55; go_must (refine (shape_12 _).mono ?_); rintro y w1 ⟨rfl, hb1⟩; have hx1 := below_blk hb1 HX.out (blk_lt HX.out); have x0 := fun o => blk_cell (blk_alloc hx1 o) 0; have x1 := fun o => blk_cell (blk_alloc hx1 o) 1; have x2 := fun o => blk_cell (blk_alloc hx1 o) 2; have x3 := fun o => blk_cell (blk_alloc hx1 o) 3; have x4 := fun o => blk_cell (blk_alloc hx1 o) 4; have x5 := fun o => blk_cell (blk_alloc hx1 o) 5; clear hx1))
    all_goals
      go_ret
      refine ⟨?_, ?_⟩
      · first | (rw [HS.out]; done) | (rw [HS.out]; rfl)
      · exact fin1 hb1
  · have h0b : 0 ≤ a := by omega
    by_cases h1 : 15 < a
    · have h1b : ¬ (a < 16) := by omega
      have h1c : a > 15 := by omega
      have h1r : regB a = false := regB_no (by omega)
      have HS := Lib.hid (show e12 op a b c n cells long = 82 by unfold e12; rw [if_neg h0, if_pos h1])
      have HX := Lib.hid (blk_new w (.cells #[.int .i64 12, .int .i64 op, .int .i64 a, .int .i64 b, .int .i64 c, .int .i64 n] 42))
      go_enter Try.func39, Try.ntmps39
      go_wp2_with (first | (go_at_call 56; go_must (refine (reg_calls _ _).mono ?_); rintro y w2 ⟨rfl, rfl⟩) | (go_at_call 55; go_must (refine (shape_12 _).mono ?_); rintro y w1 ⟨rfl, hb1⟩; have hx1 := below_blk hb1 HX.out (blk_lt HX.out); have x0 := fun o => blk_cell (blk_alloc hx1 o) 0; have x1 := fun o => blk_cell (blk_alloc hx1 o) 1; have x2 := fun o => blk_cell (blk_alloc hx1 o) 2; have x3 := fun o => blk_cell (blk_alloc hx1 o) 3; have x4 := fun o => blk_cell (blk_alloc hx1 o) 4; have x5 := fun o => blk_cell (blk_alloc hx1 o) 5; clear hx1))
      all_goals
        go_ret
        refine ⟨?_, ?_⟩
        · first | (rw [HS.out]; done) | (rw [HS.out]; rfl)
        · exact fin1 hb1
    · have h1b : a < 16 := by omega
      have h1c : ¬ (a > 15) := by omega
      have h1r : regB a = true := regB_yes (by omega) (by omega)
      by_cases h2 : b = 0
      · subst h2
        by_cases h3 : c = 0
        · subst h3
          by_cases h4 : op = 0
          · subst h4
            by_cases h5 : n < 0
            · have h5b : ¬ (0 ≤ n) := by omega
              have HS := Lib.hid (show e12 0 a 0 0 n cells long = 84 by unfold e12; rw [if_neg h0, if_neg h1, if_pos rfl, if_pos rfl, if_pos rfl, if_pos h5])
              have HX := Lib.hid (blk_new w (.cells #[.int .i64 12, .int .i64 0, .int .i64 a, .int .i64 0, .int .i64 0, .int .i64 n] 42))
              go_enter Try.func39, Try.ntmps39
              go_wp2_with (first | (go_at_call 56; go_must (refine (reg_calls _ _).mono ?_); rintro y w2 ⟨rfl, rfl⟩) | (go_at_call 55; go_must (refine (shape_12 _).mono ?_); rintro y w1 ⟨rfl, hb1⟩; have hx1 := below_blk hb1 HX.out (blk_lt HX.out); have x0 := fun o => blk_cell (blk_alloc hx1 o) 0; have x1 := fun o => blk_cell (blk_alloc hx1 o) 1; have x2 := fun o => blk_cell (blk_alloc hx1 o) 2; have x3 := fun o => blk_cell (blk_alloc hx1 o) 3; have x4 := fun o => blk_cell (blk_alloc hx1 o) 4; have x5 := fun o => blk_cell (blk_alloc hx1 o) 5; clear hx1))
              all_goals
                go_ret
                refine ⟨?_, ?_⟩
                · first | (rw [HS.out]; done) | (rw [HS.out]; rfl)
                · exact fin1 hb1
            · have h5b : 0 ≤ n := by omega
              by_cases h6 : long ≤ n
              · have h6b : n ≥ long := by omega
                have HS := Lib.hid (show e12 0 a 0 0 n cells long = 84 by unfold e12; rw [if_neg h0, if_neg h1, if_pos rfl, if_pos rfl, if_pos rfl, if_neg h5, if_pos h6])
                have HX := Lib.hid (blk_new w (.cells #[.int .i64 12, .int .i64 0, .int .i64 a, .int .i64 0, .int .i64 0, .int .i64 n] 42))
                go_enter Try.func39, Try.ntmps39
                go_wp2_with (first | (go_at_call 56; go_must (refine (reg_calls _ _).mono ?_); rintro y w2 ⟨rfl, rfl⟩) | (go_at_call 55; go_must (refine (shape_12 _).mono ?_); rintro y w1 ⟨rfl, hb1⟩; have hx1 := below_blk hb1 HX.out (blk_lt HX.out); have x0 := fun o => blk_cell (blk_alloc hx1 o) 0; have x1 := fun o => blk_cell (blk_alloc hx1 o) 1; have x2 := fun o => blk_cell (blk_alloc hx1 o) 2; have x3 := fun o => blk_cell (blk_alloc hx1 o) 3; have x4 := fun o => blk_cell (blk_alloc hx1 o) 4; have x5 := fun o => blk_cell (blk_alloc hx1 o) 5; clear hx1))
                all_goals
                  go_ret
                  refine ⟨?_, ?_⟩
                  · first | (rw [HS.out]; done) | (rw [HS.out]; rfl)
                  · exact fin1 hb1
              · have h6b : ¬ (n ≥ long) := by omega
                have HS := Lib.hid (show e12 0 a 0 0 n cells long = 0 by unfold e12; rw [if_neg h0, if_neg h1, if_pos rfl, if_pos rfl, if_pos rfl, if_neg h5, if_neg h6])
                have HX := Lib.hid (blk_new w (.cells #[.int .i64 12, .int .i64 0, .int .i64 a, .int .i64 0, .int .i64 0, .int .i64 n] 42))
                go_enter Try.func39, Try.ntmps39
                go_wp2_with (first | (go_at_call 56; go_must (refine (reg_calls _ _).mono ?_); rintro y w2 ⟨rfl, rfl⟩) | (go_at_call 55; go_must (refine (shape_12 _).mono ?_); rintro y w1 ⟨rfl, hb1⟩; have hx1 := below_blk hb1 HX.out (blk_lt HX.out); have x0 := fun o => blk_cell (blk_alloc hx1 o) 0; have x1 := fun o => blk_cell (blk_alloc hx1 o) 1; have x2 := fun o => blk_cell (blk_alloc hx1 o) 2; have x3 := fun o => blk_cell (blk_alloc hx1 o) 3; have x4 := fun o => blk_cell (blk_alloc hx1 o) 4; have x5 := fun o => blk_cell (blk_alloc hx1 o) 5; clear hx1))
                all_goals
                  go_ret
                  refine ⟨?_, ?_⟩
                  · first | (rw [HS.out]; done) | (rw [HS.out]; rfl)
                  · exact fin1 hb1
          · have h4b : (op == 0) = false := by simp [h4]
            have HS := Lib.hid (show e12 op a 0 0 n cells long = 83 by unfold e12; rw [if_neg h0, if_neg h1, if_pos rfl, if_pos rfl, if_neg h4])
            have HX := Lib.hid (blk_new w (.cells #[.int .i64 12, .int .i64 op, .int .i64 a, .int .i64 0, .int .i64 0, .int .i64 n] 42))
            go_enter Try.func39, Try.ntmps39
            go_wp2_with (first | (go_at_call 56; go_must (refine (reg_calls _ _).mono ?_); rintro y w2 ⟨rfl, rfl⟩) | (go_at_call 55; go_must (refine (shape_12 _).mono ?_); rintro y w1 ⟨rfl, hb1⟩; have hx1 := below_blk hb1 HX.out (blk_lt HX.out); have x0 := fun o => blk_cell (blk_alloc hx1 o) 0; have x1 := fun o => blk_cell (blk_alloc hx1 o) 1; have x2 := fun o => blk_cell (blk_alloc hx1 o) 2; have x3 := fun o => blk_cell (blk_alloc hx1 o) 3; have x4 := fun o => blk_cell (blk_alloc hx1 o) 4; have x5 := fun o => blk_cell (blk_alloc hx1 o) 5; clear hx1))
            all_goals
              go_ret
              refine ⟨?_, ?_⟩
              · first | (rw [HS.out]; done) | (rw [HS.out]; rfl)
              · exact fin1 hb1
        · have h3b : (c == 0) = false := by simp [h3]
          have HS := Lib.hid (show e12 op a 0 c n cells long = 83 by unfold e12; rw [if_neg h0, if_neg h1, if_pos rfl, if_neg h3])
          have HX := Lib.hid (blk_new w (.cells #[.int .i64 12, .int .i64 op, .int .i64 a, .int .i64 0, .int .i64 c, .int .i64 n] 42))
          go_enter Try.func39, Try.ntmps39
          go_wp2_with (first | (go_at_call 56; go_must (refine (reg_calls _ _).mono ?_); rintro y w2 ⟨rfl, rfl⟩) | (go_at_call 55; go_must (refine (shape_12 _).mono ?_); rintro y w1 ⟨rfl, hb1⟩; have hx1 := below_blk hb1 HX.out (blk_lt HX.out); have x0 := fun o => blk_cell (blk_alloc hx1 o) 0; have x1 := fun o => blk_cell (blk_alloc hx1 o) 1; have x2 := fun o => blk_cell (blk_alloc hx1 o) 2; have x3 := fun o => blk_cell (blk_alloc hx1 o) 3; have x4 := fun o => blk_cell (blk_alloc hx1 o) 4; have x5 := fun o => blk_cell (blk_alloc hx1 o) 5; clear hx1))
          all_goals
            go_ret
            refine ⟨?_, ?_⟩
            · first | (rw [HS.out]; done) | (rw [HS.out]; rfl)
            · exact fin1 hb1
      · have h2b : (b == 0) = false := by simp [h2]
        have HS := Lib.hid (show e12 op a b c n cells long = 83 by unfold e12; rw [if_neg h0, if_neg h1, if_neg h2])
        have HX := Lib.hid (blk_new w (.cells #[.int .i64 12, .int .i64 op, .int .i64 a, .int .i64 b, .int .i64 c, .int .i64 n] 42))
        go_enter Try.func39, Try.ntmps39
        go_wp2_with (first | (go_at_call 56; go_must (refine (reg_calls _ _).mono ?_); rintro y w2 ⟨rfl, rfl⟩) | (go_at_call 55; go_must (refine (shape_12 _).mono ?_); rintro y w1 ⟨rfl, hb1⟩; have hx1 := below_blk hb1 HX.out (blk_lt HX.out); have x0 := fun o => blk_cell (blk_alloc hx1 o) 0; have x1 := fun o => blk_cell (blk_alloc hx1 o) 1; have x2 := fun o => blk_cell (blk_alloc hx1 o) 2; have x3 := fun o => blk_cell (blk_alloc hx1 o) 3; have x4 := fun o => blk_cell (blk_alloc hx1 o) 4; have x5 := fun o => blk_cell (blk_alloc hx1 o) 5; clear hx1))
        all_goals
          go_ret
          refine ⟨?_, ?_⟩
          · first | (rw [HS.out]; done) | (rw [HS.out]; rfl)
          · exact fin1 hb1
set_option linter.unusedVariables false in
set_option maxRecDepth 100000 in
set_option maxHeartbeats 4000000 in
theorem insOne_13 (op a b c n cells long : Int) (w : World) : Calls Try.prog 39 #[.agg #[.int .i64 13, .int .i64 op, .int .i64 a, .int .i64 b, .int .i64 c, .int .i64 n], .int .i64 cells, .int .i64 long] w fun e w' => e = .returned (.int .i64 (e13 op a b c n cells long)) ∧ Below w.heap.size w w' := by
  by_cases h0 : a < 0
  · have h0b : ¬ (0 ≤ a) := by omega
    have h0r : regB a = false := regB_no (by omega)
    have HS := Lib.hid (show e13 op a b c n cells long = 82 by unfold e13; rw [if_pos h0])
    have HX := Lib.hid (blk_new w (.cells #[.int .i64 13, .int .i64 op, .int .i64 a, .int .i64 b, .int .i64 c, .int .i64 n] 42))
    go_enter Try.func39, Try.ntmps39
    go_wp2_with (first | (go_at_call 56; go_must (refine (reg_calls _ _).mono ?_); rintro y w2 ⟨rfl, rfl⟩) | (go_at_call 55; go_must (refine (shape_13 _).mono ?_); rintro y w1 ⟨rfl, hb1⟩; have hx1 := below_blk hb1 HX.out (blk_lt HX.out); have x0 := fun o => blk_cell (blk_alloc hx1 o) 0; have x1 := fun o => blk_cell (blk_alloc hx1 o) 1; have x2 := fun o => blk_cell (blk_alloc hx1 o) 2; have x3 := fun o => blk_cell (blk_alloc hx1 o) 3; have x4 := fun o => blk_cell (blk_alloc hx1 o) 4; have x5 := fun o => blk_cell (blk_alloc hx1 o) 5; clear hx1))
    all_goals
      go_ret
      refine ⟨?_, ?_⟩
      · first | (rw [HS.out]; done) | (rw [HS.out]; rfl)
      · exact fin1 hb1
  · have h0b : 0 ≤ a := by omega
    by_cases h1 : 15 < a
    · have h1b : ¬ (a < 16) := by omega
      have h1c : a > 15 := by omega
      have h1r : regB a = false := regB_no (by omega)
      have HS := Lib.hid (show e13 op a b c n cells long = 82 by unfold e13; rw [if_neg h0, if_pos h1])
      have HX := Lib.hid (blk_new w (.cells #[.int .i64 13, .int .i64 op, .int .i64 a, .int .i64 b, .int .i64 c, .int .i64 n] 42))
      go_enter Try.func39, Try.ntmps39
      go_wp2_with (first | (go_at_call 56; go_must (refine (reg_calls _ _).mono ?_); rintro y w2 ⟨rfl, rfl⟩) | (go_at_call 55; go_must (refine (shape_13 _).mono ?_); rintro y w1 ⟨rfl, hb1⟩; have hx1 := below_blk hb1 HX.out (blk_lt HX.out); have x0 := fun o => blk_cell (blk_alloc hx1 o) 0; have x1 := fun o => blk_cell (blk_alloc hx1 o) 1; have x2 := fun o => blk_cell (blk_alloc hx1 o) 2; have x3 := fun o => blk_cell (blk_alloc hx1 o) 3; have x4 := fun o => blk_cell (blk_alloc hx1 o) 4; have x5 := fun o => blk_cell (blk_alloc hx1 o) 5; clear hx1))
      all_goals
        go_ret
        refine ⟨?_, ?_⟩
        · first | (rw [HS.out]; done) | (rw [HS.out]; rfl)
        · exact fin1 hb1
    · have h1b : a < 16 := by omega
      have h1c : ¬ (a > 15) := by omega
      have h1r : regB a = true := regB_yes (by omega) (by omega)
      by_cases h2 : b = 0
      · subst h2
        by_cases h3 : c = 0
        · subst h3
          by_cases h4 : n = 0
          · subst h4
            by_cases h5 : op = 0
            · subst h5
              have HS := Lib.hid (show e13 0 a 0 0 0 cells long = 0 by unfold e13; rw [if_neg h0, if_neg h1, if_pos rfl, if_pos rfl, if_pos rfl, if_pos rfl])
              have HX := Lib.hid (blk_new w (.cells #[.int .i64 13, .int .i64 0, .int .i64 a, .int .i64 0, .int .i64 0, .int .i64 0] 42))
              go_enter Try.func39, Try.ntmps39
              go_wp2_with (first | (go_at_call 56; go_must (refine (reg_calls _ _).mono ?_); rintro y w2 ⟨rfl, rfl⟩) | (go_at_call 55; go_must (refine (shape_13 _).mono ?_); rintro y w1 ⟨rfl, hb1⟩; have hx1 := below_blk hb1 HX.out (blk_lt HX.out); have x0 := fun o => blk_cell (blk_alloc hx1 o) 0; have x1 := fun o => blk_cell (blk_alloc hx1 o) 1; have x2 := fun o => blk_cell (blk_alloc hx1 o) 2; have x3 := fun o => blk_cell (blk_alloc hx1 o) 3; have x4 := fun o => blk_cell (blk_alloc hx1 o) 4; have x5 := fun o => blk_cell (blk_alloc hx1 o) 5; clear hx1))
              all_goals
                go_ret
                refine ⟨?_, ?_⟩
                · first | (rw [HS.out]; done) | (rw [HS.out]; rfl)
                · exact fin1 hb1
            · have h5b : (op == 0) = false := by simp [h5]
              have HS := Lib.hid (show e13 op a 0 0 0 cells long = 83 by unfold e13; rw [if_neg h0, if_neg h1, if_pos rfl, if_pos rfl, if_pos rfl, if_neg h5])
              have HX := Lib.hid (blk_new w (.cells #[.int .i64 13, .int .i64 op, .int .i64 a, .int .i64 0, .int .i64 0, .int .i64 0] 42))
              go_enter Try.func39, Try.ntmps39
              go_wp2_with (first | (go_at_call 56; go_must (refine (reg_calls _ _).mono ?_); rintro y w2 ⟨rfl, rfl⟩) | (go_at_call 55; go_must (refine (shape_13 _).mono ?_); rintro y w1 ⟨rfl, hb1⟩; have hx1 := below_blk hb1 HX.out (blk_lt HX.out); have x0 := fun o => blk_cell (blk_alloc hx1 o) 0; have x1 := fun o => blk_cell (blk_alloc hx1 o) 1; have x2 := fun o => blk_cell (blk_alloc hx1 o) 2; have x3 := fun o => blk_cell (blk_alloc hx1 o) 3; have x4 := fun o => blk_cell (blk_alloc hx1 o) 4; have x5 := fun o => blk_cell (blk_alloc hx1 o) 5; clear hx1))
              all_goals
                go_ret
                refine ⟨?_, ?_⟩
                · first | (rw [HS.out]; done) | (rw [HS.out]; rfl)
                · exact fin1 hb1
          · have h4b : (n == 0) = false := by simp [h4]
            have HS := Lib.hid (show e13 op a 0 0 n cells long = 83 by unfold e13; rw [if_neg h0, if_neg h1, if_pos rfl, if_pos rfl, if_neg h4])
            have HX := Lib.hid (blk_new w (.cells #[.int .i64 13, .int .i64 op, .int .i64 a, .int .i64 0, .int .i64 0, .int .i64 n] 42))
            go_enter Try.func39, Try.ntmps39
            go_wp2_with (first | (go_at_call 56; go_must (refine (reg_calls _ _).mono ?_); rintro y w2 ⟨rfl, rfl⟩) | (go_at_call 55; go_must (refine (shape_13 _).mono ?_); rintro y w1 ⟨rfl, hb1⟩; have hx1 := below_blk hb1 HX.out (blk_lt HX.out); have x0 := fun o => blk_cell (blk_alloc hx1 o) 0; have x1 := fun o => blk_cell (blk_alloc hx1 o) 1; have x2 := fun o => blk_cell (blk_alloc hx1 o) 2; have x3 := fun o => blk_cell (blk_alloc hx1 o) 3; have x4 := fun o => blk_cell (blk_alloc hx1 o) 4; have x5 := fun o => blk_cell (blk_alloc hx1 o) 5; clear hx1))
            all_goals
              go_ret
              refine ⟨?_, ?_⟩
              · first | (rw [HS.out]; done) | (rw [HS.out]; rfl)
              · exact fin1 hb1
        · have h3b : (c == 0) = false := by simp [h3]
          have HS := Lib.hid (show e13 op a 0 c n cells long = 83 by unfold e13; rw [if_neg h0, if_neg h1, if_pos rfl, if_neg h3])
          have HX := Lib.hid (blk_new w (.cells #[.int .i64 13, .int .i64 op, .int .i64 a, .int .i64 0, .int .i64 c, .int .i64 n] 42))
          go_enter Try.func39, Try.ntmps39
          go_wp2_with (first | (go_at_call 56; go_must (refine (reg_calls _ _).mono ?_); rintro y w2 ⟨rfl, rfl⟩) | (go_at_call 55; go_must (refine (shape_13 _).mono ?_); rintro y w1 ⟨rfl, hb1⟩; have hx1 := below_blk hb1 HX.out (blk_lt HX.out); have x0 := fun o => blk_cell (blk_alloc hx1 o) 0; have x1 := fun o => blk_cell (blk_alloc hx1 o) 1; have x2 := fun o => blk_cell (blk_alloc hx1 o) 2; have x3 := fun o => blk_cell (blk_alloc hx1 o) 3; have x4 := fun o => blk_cell (blk_alloc hx1 o) 4; have x5 := fun o => blk_cell (blk_alloc hx1 o) 5; clear hx1))
          all_goals
            go_ret
            refine ⟨?_, ?_⟩
            · first | (rw [HS.out]; done) | (rw [HS.out]; rfl)
            · exact fin1 hb1
      · have h2b : (b == 0) = false := by simp [h2]
        have HS := Lib.hid (show e13 op a b c n cells long = 83 by unfold e13; rw [if_neg h0, if_neg h1, if_neg h2])
        have HX := Lib.hid (blk_new w (.cells #[.int .i64 13, .int .i64 op, .int .i64 a, .int .i64 b, .int .i64 c, .int .i64 n] 42))
        go_enter Try.func39, Try.ntmps39
        go_wp2_with (first | (go_at_call 56; go_must (refine (reg_calls _ _).mono ?_); rintro y w2 ⟨rfl, rfl⟩) | (go_at_call 55; go_must (refine (shape_13 _).mono ?_); rintro y w1 ⟨rfl, hb1⟩; have hx1 := below_blk hb1 HX.out (blk_lt HX.out); have x0 := fun o => blk_cell (blk_alloc hx1 o) 0; have x1 := fun o => blk_cell (blk_alloc hx1 o) 1; have x2 := fun o => blk_cell (blk_alloc hx1 o) 2; have x3 := fun o => blk_cell (blk_alloc hx1 o) 3; have x4 := fun o => blk_cell (blk_alloc hx1 o) 4; have x5 := fun o => blk_cell (blk_alloc hx1 o) 5; clear hx1))
        all_goals
          go_ret
          refine ⟨?_, ?_⟩
          · first | (rw [HS.out]; done) | (rw [HS.out]; rfl)
          · exact fin1 hb1
set_option linter.unusedVariables false in
set_option maxRecDepth 100000 in
set_option maxHeartbeats 4000000 in
theorem insOne_0 (k op a b c n cells long : Int) (hk : k < 1 ∨ 13 < k) (w : World) : Calls Try.prog 39 #[.agg #[.int .i64 k, .int .i64 op, .int .i64 a, .int .i64 b, .int .i64 c, .int .i64 n], .int .i64 cells, .int .i64 long] w fun e w' => e = .returned (.int .i64 81) ∧ Below w.heap.size w w' := by
  have HX := Lib.hid (blk_new w (.cells #[.int .i64 k, .int .i64 op, .int .i64 a, .int .i64 b, .int .i64 c, .int .i64 n] 42))
  have k1 : (k == 1) = false := by simp; omega
  have k2 : (k == 2) = false := by simp; omega
  have k3 : (k == 3) = false := by simp; omega
  have k4 : (k == 4) = false := by simp; omega
  have k5 : (k == 5) = false := by simp; omega
  have k6 : (k == 6) = false := by simp; omega
  have k7 : (k == 7) = false := by simp; omega
  have k8 : (k == 8) = false := by simp; omega
  have k9 : (k == 9) = false := by simp; omega
  have k10 : (k == 10) = false := by simp; omega
  have k11 : (k == 11) = false := by simp; omega
  have k12 : (k == 12) = false := by simp; omega
  have k13 : (k == 13) = false := by simp; omega
  have hlt : ¬ (k < 1) ∨ k < 1 := by omega
  have hk0 := hk
  rcases hk with hk | hk
  · have hk2 : ¬ (k > 13) := by omega
    go_enter Try.func39, Try.ntmps39
    go_wp2_with (first | (go_at_call 56; go_must (refine (reg_calls _ _).mono ?_); rintro y w2 ⟨rfl, rfl⟩) | (go_at_call 55; go_must (refine (shape_0 k hk0 _).mono ?_); rintro y w1 ⟨rfl, hb1⟩; have hx1 := below_blk hb1 HX.out (blk_lt HX.out); have x0 := fun o => blk_cell (blk_alloc hx1 o) 0; have x1 := fun o => blk_cell (blk_alloc hx1 o) 1; have x2 := fun o => blk_cell (blk_alloc hx1 o) 2; have x3 := fun o => blk_cell (blk_alloc hx1 o) 3; have x4 := fun o => blk_cell (blk_alloc hx1 o) 4; have x5 := fun o => blk_cell (blk_alloc hx1 o) 5; clear hx1))
    all_goals
      go_ret
      refine ⟨?_, ?_⟩
      · rfl
      · exact fin1 hb1
  · have hk2 : ¬ (k < 1) := by omega
    have hk3 : k > 13 := hk
    go_enter Try.func39, Try.ntmps39
    go_wp2_with (first | (go_at_call 56; go_must (refine (reg_calls _ _).mono ?_); rintro y w2 ⟨rfl, rfl⟩) | (go_at_call 55; go_must (refine (shape_0 k hk0 _).mono ?_); rintro y w1 ⟨rfl, hb1⟩; have hx1 := below_blk hb1 HX.out (blk_lt HX.out); have x0 := fun o => blk_cell (blk_alloc hx1 o) 0; have x1 := fun o => blk_cell (blk_alloc hx1 o) 1; have x2 := fun o => blk_cell (blk_alloc hx1 o) 2; have x3 := fun o => blk_cell (blk_alloc hx1 o) 3; have x4 := fun o => blk_cell (blk_alloc hx1 o) 4; have x5 := fun o => blk_cell (blk_alloc hx1 o) 5; clear hx1))
    all_goals
      go_ret
      refine ⟨?_, ?_⟩
      · rfl
      · exact fin1 hb1
end Go.Proofs.Ytjlnpppjkdcpkaa.My
