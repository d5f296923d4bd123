/- An instruction's error, as the program and as the document tell it. No conditions. -/
import Derived.Test.YtjlnpppjkdcpkaaGfInsS
namespace Go.Proofs.Ytjlnpppjkdcpkaa.My
open Go.RowKit
set_option linter.unusedVariables false in
set_option maxRecDepth 100000 in
set_option maxHeartbeats 4000000 in
theorem insOne_1 (op a b c n cells long : Int) (w : World) : Calls Try.prog 39 #[.agg #[.int .i64 1, .int .i64 op, .int .i64 a, .int .i64 b, .int .i64 c, .int .i64 n], .int .i64 cells, .int .i64 long] w fun e w' => e = .returned (.int .i64 (e1 op a b c n cells long)) ∧ Below w.heap.size w w' := by
  by_cases h0 : a = 0
  · subst h0
    by_cases h1 : b = 0
    · subst h1
      by_cases h2 : c = 0
      · subst h2
        by_cases h3 : n = 0
        · subst h3
          by_cases h4 : op = 0
          · subst h4
            have HS := Lib.hid (show e1 0 0 0 0 0 cells long = 0 by unfold e1; rw [if_pos rfl, if_pos rfl, if_pos rfl, if_pos rfl, if_pos rfl])
            have HX := Lib.hid (blk_new w (.cells #[.int .i64 1, .int .i64 0, .int .i64 0, .int .i64 0, .int .i64 0, .int .i64 0] 42))
            go_enter Try.func39, Try.ntmps39
            go_wp2_with (first | (go_at_call 56; go_must (refine (reg_calls _ _).mono ?_); rintro y w2 ⟨rfl, rfl⟩) | (go_at_call 55; go_must (refine (shape_1 _).mono ?_); rintro y w1 ⟨rfl, hb1⟩; have hx1 := below_blk hb1 HX.out (blk_lt HX.out); have x0 := fun o => blk_cell (blk_alloc hx1 o) 0; have x1 := fun o => blk_cell (blk_alloc hx1 o) 1; have x2 := fun o => blk_cell (blk_alloc hx1 o) 2; have x3 := fun o => blk_cell (blk_alloc hx1 o) 3; have x4 := fun o => blk_cell (blk_alloc hx1 o) 4; have x5 := fun o => blk_cell (blk_alloc hx1 o) 5; clear hx1))
            all_goals
              go_ret
              refine ⟨?_, ?_⟩
              · first | (rw [HS.out]; done) | (rw [HS.out]; rfl)
              · exact fin1 hb1
          · have h4b : (op == 0) = false := by simp [h4]
            have HS := Lib.hid (show e1 op 0 0 0 0 cells long = 83 by unfold e1; rw [if_pos rfl, if_pos rfl, if_pos rfl, if_pos rfl, if_neg h4])
            have HX := Lib.hid (blk_new w (.cells #[.int .i64 1, .int .i64 op, .int .i64 0, .int .i64 0, .int .i64 0, .int .i64 0] 42))
            go_enter Try.func39, Try.ntmps39
            go_wp2_with (first | (go_at_call 56; go_must (refine (reg_calls _ _).mono ?_); rintro y w2 ⟨rfl, rfl⟩) | (go_at_call 55; go_must (refine (shape_1 _).mono ?_); rintro y w1 ⟨rfl, hb1⟩; have hx1 := below_blk hb1 HX.out (blk_lt HX.out); have x0 := fun o => blk_cell (blk_alloc hx1 o) 0; have x1 := fun o => blk_cell (blk_alloc hx1 o) 1; have x2 := fun o => blk_cell (blk_alloc hx1 o) 2; have x3 := fun o => blk_cell (blk_alloc hx1 o) 3; have x4 := fun o => blk_cell (blk_alloc hx1 o) 4; have x5 := fun o => blk_cell (blk_alloc hx1 o) 5; clear hx1))
            all_goals
              go_ret
              refine ⟨?_, ?_⟩
              · first | (rw [HS.out]; done) | (rw [HS.out]; rfl)
              · exact fin1 hb1
        · have h3b : (n == 0) = false := by simp [h3]
          have HS := Lib.hid (show e1 op 0 0 0 n cells long = 83 by unfold e1; rw [if_pos rfl, if_pos rfl, if_pos rfl, if_neg h3])
          have HX := Lib.hid (blk_new w (.cells #[.int .i64 1, .int .i64 op, .int .i64 0, .int .i64 0, .int .i64 0, .int .i64 n] 42))
          go_enter Try.func39, Try.ntmps39
          go_wp2_with (first | (go_at_call 56; go_must (refine (reg_calls _ _).mono ?_); rintro y w2 ⟨rfl, rfl⟩) | (go_at_call 55; go_must (refine (shape_1 _).mono ?_); rintro y w1 ⟨rfl, hb1⟩; have hx1 := below_blk hb1 HX.out (blk_lt HX.out); have x0 := fun o => blk_cell (blk_alloc hx1 o) 0; have x1 := fun o => blk_cell (blk_alloc hx1 o) 1; have x2 := fun o => blk_cell (blk_alloc hx1 o) 2; have x3 := fun o => blk_cell (blk_alloc hx1 o) 3; have x4 := fun o => blk_cell (blk_alloc hx1 o) 4; have x5 := fun o => blk_cell (blk_alloc hx1 o) 5; clear hx1))
          all_goals
            go_ret
            refine ⟨?_, ?_⟩
            · first | (rw [HS.out]; done) | (rw [HS.out]; rfl)
            · exact fin1 hb1
      · have h2b : (c == 0) = false := by simp [h2]
        have HS := Lib.hid (show e1 op 0 0 c n cells long = 83 by unfold e1; rw [if_pos rfl, if_pos rfl, if_neg h2])
        have HX := Lib.hid (blk_new w (.cells #[.int .i64 1, .int .i64 op, .int .i64 0, .int .i64 0, .int .i64 c, .int .i64 n] 42))
        go_enter Try.func39, Try.ntmps39
        go_wp2_with (first | (go_at_call 56; go_must (refine (reg_calls _ _).mono ?_); rintro y w2 ⟨rfl, rfl⟩) | (go_at_call 55; go_must (refine (shape_1 _).mono ?_); rintro y w1 ⟨rfl, hb1⟩; have hx1 := below_blk hb1 HX.out (blk_lt HX.out); have x0 := fun o => blk_cell (blk_alloc hx1 o) 0; have x1 := fun o => blk_cell (blk_alloc hx1 o) 1; have x2 := fun o => blk_cell (blk_alloc hx1 o) 2; have x3 := fun o => blk_cell (blk_alloc hx1 o) 3; have x4 := fun o => blk_cell (blk_alloc hx1 o) 4; have x5 := fun o => blk_cell (blk_alloc hx1 o) 5; clear hx1))
        all_goals
          go_ret
          refine ⟨?_, ?_⟩
          · first | (rw [HS.out]; done) | (rw [HS.out]; rfl)
          · exact fin1 hb1
    · have h1b : (b == 0) = false := by simp [h1]
      have HS := Lib.hid (show e1 op 0 b c n cells long = 83 by unfold e1; rw [if_pos rfl, if_neg h1])
      have HX := Lib.hid (blk_new w (.cells #[.int .i64 1, .int .i64 op, .int .i64 0, .int .i64 b, .int .i64 c, .int .i64 n] 42))
      go_enter Try.func39, Try.ntmps39
      go_wp2_with (first | (go_at_call 56; go_must (refine (reg_calls _ _).mono ?_); rintro y w2 ⟨rfl, rfl⟩) | (go_at_call 55; go_must (refine (shape_1 _).mono ?_); rintro y w1 ⟨rfl, hb1⟩; have hx1 := below_blk hb1 HX.out (blk_lt HX.out); have x0 := fun o => blk_cell (blk_alloc hx1 o) 0; have x1 := fun o => blk_cell (blk_alloc hx1 o) 1; have x2 := fun o => blk_cell (blk_alloc hx1 o) 2; have x3 := fun o => blk_cell (blk_alloc hx1 o) 3; have x4 := fun o => blk_cell (blk_alloc hx1 o) 4; have x5 := fun o => blk_cell (blk_alloc hx1 o) 5; clear hx1))
      all_goals
        go_ret
        refine ⟨?_, ?_⟩
        · first | (rw [HS.out]; done) | (rw [HS.out]; rfl)
        · exact fin1 hb1
  · have h0b : (a == 0) = false := by simp [h0]
    have HS := Lib.hid (show e1 op a b c n cells long = 83 by unfold e1; rw [if_neg h0])
    have HX := Lib.hid (blk_new w (.cells #[.int .i64 1, .int .i64 op, .int .i64 a, .int .i64 b, .int .i64 c, .int .i64 n] 42))
    go_enter Try.func39, Try.ntmps39
    go_wp2_with (first | (go_at_call 56; go_must (refine (reg_calls _ _).mono ?_); rintro y w2 ⟨rfl, rfl⟩) | (go_at_call 55; go_must (refine (shape_1 _).mono ?_); rintro y w1 ⟨rfl, hb1⟩; have hx1 := below_blk hb1 HX.out (blk_lt HX.out); have x0 := fun o => blk_cell (blk_alloc hx1 o) 0; have x1 := fun o => blk_cell (blk_alloc hx1 o) 1; have x2 := fun o => blk_cell (blk_alloc hx1 o) 2; have x3 := fun o => blk_cell (blk_alloc hx1 o) 3; have x4 := fun o => blk_cell (blk_alloc hx1 o) 4; have x5 := fun o => blk_cell (blk_alloc hx1 o) 5; clear hx1))
    all_goals
      go_ret
      refine ⟨?_, ?_⟩
      · first | (rw [HS.out]; done) | (rw [HS.out]; rfl)
      · exact fin1 hb1
set_option linter.unusedVariables false in
set_option maxRecDepth 100000 in
set_option maxHeartbeats 4000000 in
theorem insOne_2 (op a b c n cells long : Int) (w : World) : Calls Try.prog 39 #[.agg #[.int .i64 2, .int .i64 op, .int .i64 a, .int .i64 b, .int .i64 c, .int .i64 n], .int .i64 cells, .int .i64 long] w fun e w' => e = .returned (.int .i64 (e2 op a b c n cells long)) ∧ Below w.heap.size w w' := by
  by_cases h0 : a < 0
  · have h0b : ¬ (0 ≤ a) := by omega
    have h0r : regB a = false := regB_no (by omega)
    have HS := Lib.hid (show e2 op a b c n cells long = 82 by unfold e2; rw [if_pos h0])
    have HX := Lib.hid (blk_new w (.cells #[.int .i64 2, .int .i64 op, .int .i64 a, .int .i64 b, .int .i64 c, .int .i64 n] 42))
    go_enter Try.func39, Try.ntmps39
    go_wp2_with (first | (go_at_call 56; go_must (refine (reg_calls _ _).mono ?_); rintro y w2 ⟨rfl, rfl⟩) | (go_at_call 55; go_must (refine (shape_2 _).mono ?_); rintro y w1 ⟨rfl, hb1⟩; have hx1 := below_blk hb1 HX.out (blk_lt HX.out); have x0 := fun o => blk_cell (blk_alloc hx1 o) 0; have x1 := fun o => blk_cell (blk_alloc hx1 o) 1; have x2 := fun o => blk_cell (blk_alloc hx1 o) 2; have x3 := fun o => blk_cell (blk_alloc hx1 o) 3; have x4 := fun o => blk_cell (blk_alloc hx1 o) 4; have x5 := fun o => blk_cell (blk_alloc hx1 o) 5; clear hx1))
    all_goals
      go_ret
      refine ⟨?_, ?_⟩
      · first | (rw [HS.out]; done) | (rw [HS.out]; rfl)
      · exact fin1 hb1
  · have h0b : 0 ≤ a := by omega
    by_cases h1 : 15 < a
    · have h1b : ¬ (a < 16) := by omega
      have h1c : a > 15 := by omega
      have h1r : regB a = false := regB_no (by omega)
      have HS := Lib.hid (show e2 op a b c n cells long = 82 by unfold e2; rw [if_neg h0, if_pos h1])
      have HX := Lib.hid (blk_new w (.cells #[.int .i64 2, .int .i64 op, .int .i64 a, .int .i64 b, .int .i64 c, .int .i64 n] 42))
      go_enter Try.func39, Try.ntmps39
      go_wp2_with (first | (go_at_call 56; go_must (refine (reg_calls _ _).mono ?_); rintro y w2 ⟨rfl, rfl⟩) | (go_at_call 55; go_must (refine (shape_2 _).mono ?_); rintro y w1 ⟨rfl, hb1⟩; have hx1 := below_blk hb1 HX.out (blk_lt HX.out); have x0 := fun o => blk_cell (blk_alloc hx1 o) 0; have x1 := fun o => blk_cell (blk_alloc hx1 o) 1; have x2 := fun o => blk_cell (blk_alloc hx1 o) 2; have x3 := fun o => blk_cell (blk_alloc hx1 o) 3; have x4 := fun o => blk_cell (blk_alloc hx1 o) 4; have x5 := fun o => blk_cell (blk_alloc hx1 o) 5; clear hx1))
      all_goals
        go_ret
        refine ⟨?_, ?_⟩
        · first | (rw [HS.out]; done) | (rw [HS.out]; rfl)
        · exact fin1 hb1
    · have h1b : a < 16 := by omega
      have h1c : ¬ (a > 15) := by omega
      have h1r : regB a = true := regB_yes (by omega) (by omega)
      by_cases h2 : b = 0
      · subst h2
        by_cases h3 : c = 0
        · subst h3
          by_cases h4 : op = 0
          · subst h4
            have HS := Lib.hid (show e2 0 a 0 0 n cells long = 0 by unfold e2; rw [if_neg h0, if_neg h1, if_pos rfl, if_pos rfl, if_pos rfl])
            have HX := Lib.hid (blk_new w (.cells #[.int .i64 2, .int .i64 0, .int .i64 a, .int .i64 0, .int .i64 0, .int .i64 n] 42))
            go_enter Try.func39, Try.ntmps39
            go_wp2_with (first | (go_at_call 56; go_must (refine (reg_calls _ _).mono ?_); rintro y w2 ⟨rfl, rfl⟩) | (go_at_call 55; go_must (refine (shape_2 _).mono ?_); rintro y w1 ⟨rfl, hb1⟩; have hx1 := below_blk hb1 HX.out (blk_lt HX.out); have x0 := fun o => blk_cell (blk_alloc hx1 o) 0; have x1 := fun o => blk_cell (blk_alloc hx1 o) 1; have x2 := fun o => blk_cell (blk_alloc hx1 o) 2; have x3 := fun o => blk_cell (blk_alloc hx1 o) 3; have x4 := fun o => blk_cell (blk_alloc hx1 o) 4; have x5 := fun o => blk_cell (blk_alloc hx1 o) 5; clear hx1))
            all_goals
              go_ret
              refine ⟨?_, ?_⟩
              · first | (rw [HS.out]; done) | (rw [HS.out]; rfl)
              · exact fin1 hb1
          · have h4b : (op == 0) = false := by simp [h4]
            have HS := Lib.hid (show e2 op a 0 0 n cells long = 83 by unfold e2; rw [if_neg h0, if_neg h1, if_pos rfl, if_pos rfl, if_neg h4])
            have HX := Lib.hid (blk_new w (.cells #[.int .i64 2, .int .i64 op, .int .i64 a, .int .i64 0, .int .i64 0, .int .i64 n] 42))
            go_enter Try.func39, Try.ntmps39
            go_wp2_with (first | (go_at_call 56; go_must (refine (reg_calls _ _).mono ?_); rintro y w2 ⟨rfl, rfl⟩) | (go_at_call 55; go_must (refine (shape_2 _).mono ?_); rintro y w1 ⟨rfl, hb1⟩; have hx1 := below_blk hb1 HX.out (blk_lt HX.out); have x0 := fun o => blk_cell (blk_alloc hx1 o) 0; have x1 := fun o => blk_cell (blk_alloc hx1 o) 1; have x2 := fun o => blk_cell (blk_alloc hx1 o) 2; have x3 := fun o => blk_cell (blk_alloc hx1 o) 3; have x4 := fun o => blk_cell (blk_alloc hx1 o) 4; have x5 := fun o => blk_cell (blk_alloc hx1 o) 5; clear hx1))
            all_goals
              go_ret
              refine ⟨?_, ?_⟩
              · first | (rw [HS.out]; done) | (rw [HS.out]; rfl)
              · exact fin1 hb1
        · have h3b : (c == 0) = false := by simp [h3]
          have HS := Lib.hid (show e2 op a 0 c n cells long = 83 by unfold e2; rw [if_neg h0, if_neg h1, if_pos rfl, if_neg h3])
          have HX := Lib.hid (blk_new w (.cells #[.int .i64 2, .int .i64 op, .int .i64 a, .int .i64 0, .int .i64 c, .int .i64 n] 42))
          go_enter Try.func39, Try.ntmps39
          go_wp2_with (first | (go_at_call 56; go_must (refine (reg_calls _ _).mono ?_); rintro y w2 ⟨rfl, rfl⟩) | (go_at_call 55; go_must (refine (shape_2 _).mono ?_); rintro y w1 ⟨rfl, hb1⟩; have hx1 := below_blk hb1 HX.out (blk_lt HX.out); have x0 := fun o => blk_cell (blk_alloc hx1 o) 0; have x1 := fun o => blk_cell (blk_alloc hx1 o) 1; have x2 := fun o => blk_cell (blk_alloc hx1 o) 2; have x3 := fun o => blk_cell (blk_alloc hx1 o) 3; have x4 := fun o => blk_cell (blk_alloc hx1 o) 4; have x5 := fun o => blk_cell (blk_alloc hx1 o) 5; clear hx1))
          all_goals
            go_ret
            refine ⟨?_, ?_⟩
            · first | (rw [HS.out]; done) | (rw [HS.out]; rfl)
            · exact fin1 hb1
      · have h2b : (b == 0) = false := by simp [h2]
        have HS := Lib.hid (show e2 op a b c n cells long = 83 by unfold e2; rw [if_neg h0, if_neg h1, if_neg h2])
        have HX := Lib.hid (blk_new w (.cells #[.int .i64 2, .int .i64 op, .int .i64 a, .int .i64 b, .int .i64 c, .int .i64 n] 42))
        go_enter Try.func39, Try.ntmps39
        go_wp2_with (first | (go_at_call 56; go_must (refine (reg_calls _ _).mono ?_); rintro y w2 ⟨rfl, rfl⟩) | (go_at_call 55; go_must (refine (shape_2 _).mono ?_); rintro y w1 ⟨rfl, hb1⟩; have hx1 := below_blk hb1 HX.out (blk_lt HX.out); have x0 := fun o => blk_cell (blk_alloc hx1 o) 0; have x1 := fun o => blk_cell (blk_alloc hx1 o) 1; have x2 := fun o => blk_cell (blk_alloc hx1 o) 2; have x3 := fun o => blk_cell (blk_alloc hx1 o) 3; have x4 := fun o => blk_cell (blk_alloc hx1 o) 4; have x5 := fun o => blk_cell (blk_alloc hx1 o) 5; clear hx1))
        all_goals
          go_ret
          refine ⟨?_, ?_⟩
          · first | (rw [HS.out]; done) | (rw [HS.out]; rfl)
          · exact fin1 hb1
set_option linter.unusedVariables false in
set_option maxRecDepth 100000 in
set_option maxHeartbeats 4000000 in
theorem insOne_3 (op a b c n cells long : Int) (w : World) : Calls Try.prog 39 #[.agg #[.int .i64 3, .int .i64 op, .int .i64 a, .int .i64 b, .int .i64 c, .int .i64 n], .int .i64 cells, .int .i64 long] w fun e w' => e = .returned (.int .i64 (e3 op a b c n cells long)) ∧ Below w.heap.size w w' := by
  by_cases h0 : a < 0
  · have h0b : ¬ (0 ≤ a) := by omega
    have h0r : regB a = false := regB_no (by omega)
    have HS := Lib.hid (show e3 op a b c n cells long = 82 by unfold e3; rw [if_pos h0])
    have HX := Lib.hid (blk_new w (.cells #[.int .i64 3, .int .i64 op, .int .i64 a, .int .i64 b, .int .i64 c, .int .i64 n] 42))
    go_enter Try.func39, Try.ntmps39
    go_wp2_with (first | (go_at_call 56; go_must (refine (reg_calls _ _).mono ?_); rintro y w2 ⟨rfl, rfl⟩) | (go_at_call 55; go_must (refine (shape_3 _).mono ?_); rintro y w1 ⟨rfl, hb1⟩; have hx1 := below_blk hb1 HX.out (blk_lt HX.out); have x0 := fun o => blk_cell (blk_alloc hx1 o) 0; have x1 := fun o => blk_cell (blk_alloc hx1 o) 1; have x2 := fun o => blk_cell (blk_alloc hx1 o) 2; have x3 := fun o => blk_cell (blk_alloc hx1 o) 3; have x4 := fun o => blk_cell (blk_alloc hx1 o) 4; have x5 := fun o => blk_cell (blk_alloc hx1 o) 5; clear hx1))
    all_goals
      go_ret
      refine ⟨?_, ?_⟩
      · first | (rw [HS.out]; done) | (rw [HS.out]; rfl)
      · exact fin1 hb1
  · have h0b : 0 ≤ a := by omega
    by_cases h1 : 15 < a
    · have h1b : ¬ (a < 16) := by omega
      have h1c : a > 15 := by omega
      have h1r : regB a = false := regB_no (by omega)
      have HS := Lib.hid (show e3 op a b c n cells long = 82 by unfold e3; rw [if_neg h0, if_pos h1])
      have HX := Lib.hid (blk_new w (.cells #[.int .i64 3, .int .i64 op, .int .i64 a, .int .i64 b, .int .i64 c, .int .i64 n] 42))
      go_enter Try.func39, Try.ntmps39
      go_wp2_with (first | (go_at_call 56; go_must (refine (reg_calls _ _).mono ?_); rintro y w2 ⟨rfl, rfl⟩) | (go_at_call 55; go_must (refine (shape_3 _).mono ?_); rintro y w1 ⟨rfl, hb1⟩; have hx1 := below_blk hb1 HX.out (blk_lt HX.out); have x0 := fun o => blk_cell (blk_alloc hx1 o) 0; have x1 := fun o => blk_cell (blk_alloc hx1 o) 1; have x2 := fun o => blk_cell (blk_alloc hx1 o) 2; have x3 := fun o => blk_cell (blk_alloc hx1 o) 3; have x4 := fun o => blk_cell (blk_alloc hx1 o) 4; have x5 := fun o => blk_cell (blk_alloc hx1 o) 5; clear hx1))
      all_goals
        go_ret
        refine ⟨?_, ?_⟩
        · first | (rw [HS.out]; done) | (rw [HS.out]; rfl)
        · exact fin1 hb1
    · have h1b : a < 16 := by omega
      have h1c : ¬ (a > 15) := by omega
      have h1r : regB a = true := regB_yes (by omega) (by omega)
      by_cases h2 : b < 0
      · have h2b : ¬ (0 ≤ b) := by omega
        have h2r : regB b = false := regB_no (by omega)
        have HS := Lib.hid (show e3 op a b c n cells long = 82 by unfold e3; rw [if_neg h0, if_neg h1, if_pos h2])
        have HX := Lib.hid (blk_new w (.cells #[.int .i64 3, .int .i64 op, .int .i64 a, .int .i64 b, .int .i64 c, .int .i64 n] 42))
        go_enter Try.func39, Try.ntmps39
        go_wp2_with (first | (go_at_call 56; go_must (refine (reg_calls _ _).mono ?_); rintro y w2 ⟨rfl, rfl⟩) | (go_at_call 55; go_must (refine (shape_3 _).mono ?_); rintro y w1 ⟨rfl, hb1⟩; have hx1 := below_blk hb1 HX.out (blk_lt HX.out); have x0 := fun o => blk_cell (blk_alloc hx1 o) 0; have x1 := fun o => blk_cell (blk_alloc hx1 o) 1; have x2 := fun o => blk_cell (blk_alloc hx1 o) 2; have x3 := fun o => blk_cell (blk_alloc hx1 o) 3; have x4 := fun o => blk_cell (blk_alloc hx1 o) 4; have x5 := fun o => blk_cell (blk_alloc hx1 o) 5; clear hx1))
        all_goals
          go_ret
          refine ⟨?_, ?_⟩
          · first | (rw [HS.out]; done) | (rw [HS.out]; rfl)
          · exact fin1 hb1
      · have h2b : 0 ≤ b := by omega
        by_cases h3 : 15 < b
        · have h3b : ¬ (b < 16) := by omega
          have h3c : b > 15 := by omega
          have h3r : regB b = false := regB_no (by omega)
          have HS := Lib.hid (show e3 op a b c n cells long = 82 by unfold e3; rw [if_neg h0, if_neg h1, if_neg h2, if_pos h3])
          have HX := Lib.hid (blk_new w (.cells #[.int .i64 3, .int .i64 op, .int .i64 a, .int .i64 b, .int .i64 c, .int .i64 n] 42))
          go_enter Try.func39, Try.ntmps39
          go_wp2_with (first | (go_at_call 56; go_must (refine (reg_calls _ _).mono ?_); rintro y w2 ⟨rfl, rfl⟩) | (go_at_call 55; go_must (refine (shape_3 _).mono ?_); rintro y w1 ⟨rfl, hb1⟩; have hx1 := below_blk hb1 HX.out (blk_lt HX.out); have x0 := fun o => blk_cell (blk_alloc hx1 o) 0; have x1 := fun o => blk_cell (blk_alloc hx1 o) 1; have x2 := fun o => blk_cell (blk_alloc hx1 o) 2; have x3 := fun o => blk_cell (blk_alloc hx1 o) 3; have x4 := fun o => blk_cell (blk_alloc hx1 o) 4; have x5 := fun o => blk_cell (blk_alloc hx1 o) 5; clear hx1))
          all_goals
            go_ret
            refine ⟨?_, ?_⟩
            · first | (rw [HS.out]; done) | (rw [HS.out]; rfl)
            · exact fin1 hb1
        · have h3b : b < 16 := by omega
          have h3c : ¬ (b > 15) := by omega
          have h3r : regB b = true := regB_yes (by omega) (by omega)
          by_cases h4 : c = 0
          · subst h4
            by_cases h5 : n = 0
            · subst h5
              by_cases h6 : op = 0
              · subst h6
                have HS := Lib.hid (show e3 0 a b 0 0 cells long = 0 by unfold e3; rw [if_neg h0, if_neg h1, if_neg h2, if_neg h3, if_pos rfl, if_pos rfl, if_pos rfl])
                have HX := Lib.hid (blk_new w (.cells #[.int .i64 3, .int .i64 0, .int .i64 a, .int .i64 b, .int .i64 0, .int .i64 0] 42))
                go_enter Try.func39, Try.ntmps39
                go_wp2_with (first | (go_at_call 56; go_must (refine (reg_calls _ _).mono ?_); rintro y w2 ⟨rfl, rfl⟩) | (go_at_call 55; go_must (refine (shape_3 _).mono ?_); rintro y w1 ⟨rfl, hb1⟩; have hx1 := below_blk hb1 HX.out (blk_lt HX.out); have x0 := fun o => blk_cell (blk_alloc hx1 o) 0; have x1 := fun o => blk_cell (blk_alloc hx1 o) 1; have x2 := fun o => blk_cell (blk_alloc hx1 o) 2; have x3 := fun o => blk_cell (blk_alloc hx1 o) 3; have x4 := fun o => blk_cell (blk_alloc hx1 o) 4; have x5 := fun o => blk_cell (blk_alloc hx1 o) 5; clear hx1))
                all_goals
                  go_ret
                  refine ⟨?_, ?_⟩
                  · first | (rw [HS.out]; done) | (rw [HS.out]; rfl)
                  · exact fin1 hb1
              · have h6b : (op == 0) = false := by simp [h6]
                have HS := Lib.hid (show e3 op a b 0 0 cells long = 83 by unfold e3; rw [if_neg h0, if_neg h1, if_neg h2, if_neg h3, if_pos rfl, if_pos rfl, if_neg h6])
                have HX := Lib.hid (blk_new w (.cells #[.int .i64 3, .int .i64 op, .int .i64 a, .int .i64 b, .int .i64 0, .int .i64 0] 42))
                go_enter Try.func39, Try.ntmps39
                go_wp2_with (first | (go_at_call 56; go_must (refine (reg_calls _ _).mono ?_); rintro y w2 ⟨rfl, rfl⟩) | (go_at_call 55; go_must (refine (shape_3 _).mono ?_); rintro y w1 ⟨rfl, hb1⟩; have hx1 := below_blk hb1 HX.out (blk_lt HX.out); have x0 := fun o => blk_cell (blk_alloc hx1 o) 0; have x1 := fun o => blk_cell (blk_alloc hx1 o) 1; have x2 := fun o => blk_cell (blk_alloc hx1 o) 2; have x3 := fun o => blk_cell (blk_alloc hx1 o) 3; have x4 := fun o => blk_cell (blk_alloc hx1 o) 4; have x5 := fun o => blk_cell (blk_alloc hx1 o) 5; clear hx1))
                all_goals
                  go_ret
                  refine ⟨?_, ?_⟩
                  · first | (rw [HS.out]; done) | (rw [HS.out]; rfl)
                  · exact fin1 hb1
            · have h5b : (n == 0) = false := by simp [h5]
              have HS := Lib.hid (show e3 op a b 0 n cells long = 83 by unfold e3; rw [if_neg h0, if_neg h1, if_neg h2, if_neg h3, if_pos rfl, if_neg h5])
              have HX := Lib.hid (blk_new w (.cells #[.int .i64 3, .int .i64 op, .int .i64 a, .int .i64 b, .int .i64 0, .int .i64 n] 42))
              go_enter Try.func39, Try.ntmps39
              go_wp2_with (first | (go_at_call 56; go_must (refine (reg_calls _ _).mono ?_); rintro y w2 ⟨rfl, rfl⟩) | (go_at_call 55; go_must (refine (shape_3 _).mono ?_); rintro y w1 ⟨rfl, hb1⟩; have hx1 := below_blk hb1 HX.out (blk_lt HX.out); have x0 := fun o => blk_cell (blk_alloc hx1 o) 0; have x1 := fun o => blk_cell (blk_alloc hx1 o) 1; have x2 := fun o => blk_cell (blk_alloc hx1 o) 2; have x3 := fun o => blk_cell (blk_alloc hx1 o) 3; have x4 := fun o => blk_cell (blk_alloc hx1 o) 4; have x5 := fun o => blk_cell (blk_alloc hx1 o) 5; clear hx1))
              all_goals
                go_ret
                refine ⟨?_, ?_⟩
                · first | (rw [HS.out]; done) | (rw [HS.out]; rfl)
                · exact fin1 hb1
          · have h4b : (c == 0) = false := by simp [h4]
            have HS := Lib.hid (show e3 op a b c n cells long = 83 by unfold e3; rw [if_neg h0, if_neg h1, if_neg h2, if_neg h3, if_neg h4])
            have HX := Lib.hid (blk_new w (.cells #[.int .i64 3, .int .i64 op, .int .i64 a, .int .i64 b, .int .i64 c, .int .i64 n] 42))
            go_enter Try.func39, Try.ntmps39
            go_wp2_with (first | (go_at_call 56; go_must (refine (reg_calls _ _).mono ?_); rintro y w2 ⟨rfl, rfl⟩) | (go_at_call 55; go_must (refine (shape_3 _).mono ?_); rintro y w1 ⟨rfl, hb1⟩; have hx1 := below_blk hb1 HX.out (blk_lt HX.out); have x0 := fun o => blk_cell (blk_alloc hx1 o) 0; have x1 := fun o => blk_cell (blk_alloc hx1 o) 1; have x2 := fun o => blk_cell (blk_alloc hx1 o) 2; have x3 := fun o => blk_cell (blk_alloc hx1 o) 3; have x4 := fun o => blk_cell (blk_alloc hx1 o) 4; have x5 := fun o => blk_cell (blk_alloc hx1 o) 5; clear hx1))
            all_goals
              go_ret
              refine ⟨?_, ?_⟩
              · first | (rw [HS.out]; done) | (rw [HS.out]; rfl)
              · exact fin1 hb1
set_option linter.unusedVariables false in
set_option maxRecDepth 100000 in
set_option maxHeartbeats 4000000 in
theorem insOne_4 (op a b c n cells long : Int) (w : World) : Calls Try.prog 39 #[.agg #[.int .i64 4, .int .i64 op, .int .i64 a, .int .i64 b, .int .i64 c, .int .i64 n], .int .i64 cells, .int .i64 long] w fun e w' => e = .returned (.int .i64 (e4 op a b c n cells long)) ∧ Below w.heap.size w w' := by
  by_cases h0 : op < 19
  · have h0b : ¬ (19 ≤ op) := by omega
    have HS := Lib.hid (show e4 op a b c n cells long = 81 by unfold e4; rw [if_pos h0])
    have HX := Lib.hid (blk_new w (.cells #[.int .i64 4, .int .i64 op, .int .i64 a, .int .i64 b, .int .i64 c, .int .i64 n] 42))
    go_enter Try.func39, Try.ntmps39
    go_wp2_with (first | (go_at_call 56; go_must (refine (reg_calls _ _).mono ?_); rintro y w2 ⟨rfl, rfl⟩) | (go_at_call 55; go_must (refine (shape_4 _).mono ?_); rintro y w1 ⟨rfl, hb1⟩; have hx1 := below_blk hb1 HX.out (blk_lt HX.out); have x0 := fun o => blk_cell (blk_alloc hx1 o) 0; have x1 := fun o => blk_cell (blk_alloc hx1 o) 1; have x2 := fun o => blk_cell (blk_alloc hx1 o) 2; have x3 := fun o => blk_cell (blk_alloc hx1 o) 3; have x4 := fun o => blk_cell (blk_alloc hx1 o) 4; have x5 := fun o => blk_cell (blk_alloc hx1 o) 5; clear hx1))
    all_goals
      go_ret
      refine ⟨?_, ?_⟩
      · first | (rw [HS.out]; done) | (rw [HS.out]; rfl)
      · exact fin1 hb1
  · have h0b : 19 ≤ op := by omega
    by_cases h1 : 21 < op
    · have h1b : ¬ (op < 22) := by omega
      have h1c : op > 21 := by omega
      have HS := Lib.hid (show e4 op a b c n cells long = 81 by unfold e4; rw [if_neg h0, if_pos h1])
      have HX := Lib.hid (blk_new w (.cells #[.int .i64 4, .int .i64 op, .int .i64 a, .int .i64 b, .int .i64 c, .int .i64 n] 42))
      go_enter Try.func39, Try.ntmps39
      go_wp2_with (first | (go_at_call 56; go_must (refine (reg_calls _ _).mono ?_); rintro y w2 ⟨rfl, rfl⟩) | (go_at_call 55; go_must (refine (shape_4 _).mono ?_); rintro y w1 ⟨rfl, hb1⟩; have hx1 := below_blk hb1 HX.out (blk_lt HX.out); have x0 := fun o => blk_cell (blk_alloc hx1 o) 0; have x1 := fun o => blk_cell (blk_alloc hx1 o) 1; have x2 := fun o => blk_cell (blk_alloc hx1 o) 2; have x3 := fun o => blk_cell (blk_alloc hx1 o) 3; have x4 := fun o => blk_cell (blk_alloc hx1 o) 4; have x5 := fun o => blk_cell (blk_alloc hx1 o) 5; clear hx1))
      all_goals
        go_ret
        refine ⟨?_, ?_⟩
        · first | (rw [HS.out]; done) | (rw [HS.out]; rfl)
        · exact fin1 hb1
    · have h1b : op < 22 := by omega
      have h1c : ¬ (op > 21) := by omega
      by_cases h2 : a < 0
      · have h2b : ¬ (0 ≤ a) := by omega
        have h2r : regB a = false := regB_no (by omega)
        have HS := Lib.hid (show e4 op a b c n cells long = 82 by unfold e4; rw [if_neg h0, if_neg h1, if_pos h2])
        have HX := Lib.hid (blk_new w (.cells #[.int .i64 4, .int .i64 op, .int .i64 a, .int .i64 b, .int .i64 c, .int .i64 n] 42))
        go_enter Try.func39, Try.ntmps39
        go_wp2_with (first | (go_at_call 56; go_must (refine (reg_calls _ _).mono ?_); rintro y w2 ⟨rfl, rfl⟩) | (go_at_call 55; go_must (refine (shape_4 _).mono ?_); rintro y w1 ⟨rfl, hb1⟩; have hx1 := below_blk hb1 HX.out (blk_lt HX.out); have x0 := fun o => blk_cell (blk_alloc hx1 o) 0; have x1 := fun o => blk_cell (blk_alloc hx1 o) 1; have x2 := fun o => blk_cell (blk_alloc hx1 o) 2; have x3 := fun o => blk_cell (blk_alloc hx1 o) 3; have x4 := fun o => blk_cell (blk_alloc hx1 o) 4; have x5 := fun o => blk_cell (blk_alloc hx1 o) 5; clear hx1))
        all_goals
          go_ret
          refine ⟨?_, ?_⟩
          · first | (rw [HS.out]; done) | (rw [HS.out]; rfl)
          · exact fin1 hb1
      · have h2b : 0 ≤ a := by omega
        by_cases h3 : 15 < a
        · have h3b : ¬ (a < 16) := by omega
          have h3c : a > 15 := by omega
          have h3r : regB a = false := regB_no (by omega)
          have HS := Lib.hid (show e4 op a b c n cells long = 82 by unfold e4; rw [if_neg h0, if_neg h1, if_neg h2, if_pos h3])
          have HX := Lib.hid (blk_new w (.cells #[.int .i64 4, .int .i64 op, .int .i64 a, .int .i64 b, .int .i64 c, .int .i64 n] 42))
          go_enter Try.func39, Try.ntmps39
          go_wp2_with (first | (go_at_call 56; go_must (refine (reg_calls _ _).mono ?_); rintro y w2 ⟨rfl, rfl⟩) | (go_at_call 55; go_must (refine (shape_4 _).mono ?_); rintro y w1 ⟨rfl, hb1⟩; have hx1 := below_blk hb1 HX.out (blk_lt HX.out); have x0 := fun o => blk_cell (blk_alloc hx1 o) 0; have x1 := fun o => blk_cell (blk_alloc hx1 o) 1; have x2 := fun o => blk_cell (blk_alloc hx1 o) 2; have x3 := fun o => blk_cell (blk_alloc hx1 o) 3; have x4 := fun o => blk_cell (blk_alloc hx1 o) 4; have x5 := fun o => blk_cell (blk_alloc hx1 o) 5; clear hx1))
          all_goals
            go_ret
            refine ⟨?_, ?_⟩
            · first | (rw [HS.out]; done) | (rw [HS.out]; rfl)
            · exact fin1 hb1
        · have h3b : a < 16 := by omega
          have h3c : ¬ (a > 15) := by omega
          have h3r : regB a = true := regB_yes (by omega) (by omega)
          by_cases h4 : b < 0
          · have h4b : ¬ (0 ≤ b) := by omega
            have h4r : regB b = false := regB_no (by omega)
            have HS := Lib.hid (show e4 op a b c n cells long = 82 by unfold e4; rw [if_neg h0, if_neg h1, if_neg h2, if_neg h3, if_pos h4])
            have HX := Lib.hid (blk_new w (.cells #[.int .i64 4, .int .i64 op, .int .i64 a, .int .i64 b, .int .i64 c, .int .i64 n] 42))
            go_enter Try.func39, Try.ntmps39
            go_wp2_with (first | (go_at_call 56; go_must (refine (reg_calls _ _).mono ?_); rintro y w2 ⟨rfl, rfl⟩) | (go_at_call 55; go_must (refine (shape_4 _).mono ?_); rintro y w1 ⟨rfl, hb1⟩; have hx1 := below_blk hb1 HX.out (blk_lt HX.out); have x0 := fun o => blk_cell (blk_alloc hx1 o) 0; have x1 := fun o => blk_cell (blk_alloc hx1 o) 1; have x2 := fun o => blk_cell (blk_alloc hx1 o) 2; have x3 := fun o => blk_cell (blk_alloc hx1 o) 3; have x4 := fun o => blk_cell (blk_alloc hx1 o) 4; have x5 := fun o => blk_cell (blk_alloc hx1 o) 5; clear hx1))
            all_goals
              go_ret
              refine ⟨?_, ?_⟩
              · first | (rw [HS.out]; done) | (rw [HS.out]; rfl)
              · exact fin1 hb1
          · have h4b : 0 ≤ b := by omega
            by_cases h5 : 15 < b
            · have h5b : ¬ (b < 16) := by omega
              have h5c : b > 15 := by omega
              have h5r : regB b = false := regB_no (by omega)
              have HS := Lib.hid (show e4 op a b c n cells long = 82 by unfold e4; rw [if_neg h0, if_neg h1, if_neg h2, if_neg h3, if_neg h4, if_pos h5])
              have HX := Lib.hid (blk_new w (.cells #[.int .i64 4, .int .i64 op, .int .i64 a, .int .i64 b, .int .i64 c, .int .i64 n] 42))
              go_enter Try.func39, Try.ntmps39
              go_wp2_with (first | (go_at_call 56; go_must (refine (reg_calls _ _).mono ?_); rintro y w2 ⟨rfl, rfl⟩) | (go_at_call 55; go_must (refine (shape_4 _).mono ?_); rintro y w1 ⟨rfl, hb1⟩; have hx1 := below_blk hb1 HX.out (blk_lt HX.out); have x0 := fun o => blk_cell (blk_alloc hx1 o) 0; have x1 := fun o => blk_cell (blk_alloc hx1 o) 1; have x2 := fun o => blk_cell (blk_alloc hx1 o) 2; have x3 := fun o => blk_cell (blk_alloc hx1 o) 3; have x4 := fun o => blk_cell (blk_alloc hx1 o) 4; have x5 := fun o => blk_cell (blk_alloc hx1 o) 5; clear hx1))
              all_goals
                go_ret
                refine ⟨?_, ?_⟩
                · first | (rw [HS.out]; done) | (rw [HS.out]; rfl)
                · exact fin1 hb1
            · have h5b : b < 16 := by omega
              have h5c : ¬ (b > 15) := by omega
              have h5r : regB b = true := regB_yes (by omega) (by omega)
              by_cases h6 : c = 0
              · subst h6
                by_cases h7 : n = 0
                · subst h7
                  have HS := Lib.hid (show e4 op a b 0 0 cells long = 0 by unfold e4; rw [if_neg h0, if_neg h1, if_neg h2, if_neg h3, if_neg h4, if_neg h5, if_pos rfl, if_pos rfl])
                  have HX := Lib.hid (blk_new w (.cells #[.int .i64 4, .int .i64 op, .int .i64 a, .int .i64 b, .int .i64 0, .int .i64 0] 42))
                  go_enter Try.func39, Try.ntmps39
                  go_wp2_with (first | (go_at_call 56; go_must (refine (reg_calls _ _).mono ?_); rintro y w2 ⟨rfl, rfl⟩) | (go_at_call 55; go_must (refine (shape_4 _).mono ?_); rintro y w1 ⟨rfl, hb1⟩; have hx1 := below_blk hb1 HX.out (blk_lt HX.out); have x0 := fun o => blk_cell (blk_alloc hx1 o) 0; have x1 := fun o => blk_cell (blk_alloc hx1 o) 1; have x2 := fun o => blk_cell (blk_alloc hx1 o) 2; have x3 := fun o => blk_cell (blk_alloc hx1 o) 3; have x4 := fun o => blk_cell (blk_alloc hx1 o) 4; have x5 := fun o => blk_cell (blk_alloc hx1 o) 5; clear hx1))
                  all_goals
                    go_ret
                    refine ⟨?_, ?_⟩
                    · first | (rw [HS.out]; done) | (rw [HS.out]; rfl)
                    · exact fin1 hb1
                · have h7b : (n == 0) = false := by simp [h7]
                  have HS := Lib.hid (show e4 op a b 0 n cells long = 83 by unfold e4; rw [if_neg h0, if_neg h1, if_neg h2, if_neg h3, if_neg h4, if_neg h5, if_pos rfl, if_neg h7])
                  have HX := Lib.hid (blk_new w (.cells #[.int .i64 4, .int .i64 op, .int .i64 a, .int .i64 b, .int .i64 0, .int .i64 n] 42))
                  go_enter Try.func39, Try.ntmps39
                  go_wp2_with (first | (go_at_call 56; go_must (refine (reg_calls _ _).mono ?_); rintro y w2 ⟨rfl, rfl⟩) | (go_at_call 55; go_must (refine (shape_4 _).mono ?_); rintro y w1 ⟨rfl, hb1⟩; have hx1 := below_blk hb1 HX.out (blk_lt HX.out); have x0 := fun o => blk_cell (blk_alloc hx1 o) 0; have x1 := fun o => blk_cell (blk_alloc hx1 o) 1; have x2 := fun o => blk_cell (blk_alloc hx1 o) 2; have x3 := fun o => blk_cell (blk_alloc hx1 o) 3; have x4 := fun o => blk_cell (blk_alloc hx1 o) 4; have x5 := fun o => blk_cell (blk_alloc hx1 o) 5; clear hx1))
                  all_goals
                    go_ret
                    refine ⟨?_, ?_⟩
                    · first | (rw [HS.out]; done) | (rw [HS.out]; rfl)
                    · exact fin1 hb1
              · have h6b : (c == 0) = false := by simp [h6]
                have HS := Lib.hid (show e4 op a b c n cells long = 83 by unfold e4; rw [if_neg h0, if_neg h1, if_neg h2, if_neg h3, if_neg h4, if_neg h5, if_neg h6])
                have HX := Lib.hid (blk_new w (.cells #[.int .i64 4, .int .i64 op, .int .i64 a, .int .i64 b, .int .i64 c, .int .i64 n] 42))
                go_enter Try.func39, Try.ntmps39
                go_wp2_with (first | (go_at_call 56; go_must (refine (reg_calls _ _).mono ?_); rintro y w2 ⟨rfl, rfl⟩) | (go_at_call 55; go_must (refine (shape_4 _).mono ?_); rintro y w1 ⟨rfl, hb1⟩; have hx1 := below_blk hb1 HX.out (blk_lt HX.out); have x0 := fun o => blk_cell (blk_alloc hx1 o) 0; have x1 := fun o => blk_cell (blk_alloc hx1 o) 1; have x2 := fun o => blk_cell (blk_alloc hx1 o) 2; have x3 := fun o => blk_cell (blk_alloc hx1 o) 3; have x4 := fun o => blk_cell (blk_alloc hx1 o) 4; have x5 := fun o => blk_cell (blk_alloc hx1 o) 5; clear hx1))
                all_goals
                  go_ret
                  refine ⟨?_, ?_⟩
                  · first | (rw [HS.out]; done) | (rw [HS.out]; rfl)
                  · exact fin1 hb1
set_option linter.unusedVariables false in
set_option maxRecDepth 100000 in
set_option maxHeartbeats 4000000 in
theorem insOne_5 (op a b c n cells long : Int) (w : World) : Calls Try.prog 39 #[.agg #[.int .i64 5, .int .i64 op, .int .i64 a, .int .i64 b, .int .i64 c, .int .i64 n], .int .i64 cells, .int .i64 long] w fun e w' => e = .returned (.int .i64 (e5 op a b c n cells long)) ∧ Below w.heap.size w w' := by
  by_cases h0 : op < 1
  · have h0b : ¬ (1 ≤ op) := by omega
    have HS := Lib.hid (show e5 op a b c n cells long = 81 by unfold e5; rw [if_pos h0])
    have HX := Lib.hid (blk_new w (.cells #[.int .i64 5, .int .i64 op, .int .i64 a, .int .i64 b, .int .i64 c, .int .i64 n] 42))
    go_enter Try.func39, Try.ntmps39
    go_wp2_with (first | (go_at_call 56; go_must (refine (reg_calls _ _).mono ?_); rintro y w2 ⟨rfl, rfl⟩) | (go_at_call 55; go_must (refine (shape_5 _).mono ?_); rintro y w1 ⟨rfl, hb1⟩; have hx1 := below_blk hb1 HX.out (blk_lt HX.out); have x0 := fun o => blk_cell (blk_alloc hx1 o) 0; have x1 := fun o => blk_cell (blk_alloc hx1 o) 1; have x2 := fun o => blk_cell (blk_alloc hx1 o) 2; have x3 := fun o => blk_cell (blk_alloc hx1 o) 3; have x4 := fun o => blk_cell (blk_alloc hx1 o) 4; have x5 := fun o => blk_cell (blk_alloc hx1 o) 5; clear hx1))
    all_goals
      go_ret
      refine ⟨?_, ?_⟩
      · first | (rw [HS.out]; done) | (rw [HS.out]; rfl)
      · exact fin1 hb1
  · have h0b : 1 ≤ op := by omega
    by_cases h1 : 18 < op
    · have h1b : ¬ (op < 19) := by omega
      have h1c : op > 18 := by omega
      have HS := Lib.hid (show e5 op a b c n cells long = 81 by unfold e5; rw [if_neg h0, if_pos h1])
      have HX := Lib.hid (blk_new w (.cells #[.int .i64 5, .int .i64 op, .int .i64 a, .int .i64 b, .int .i64 c, .int .i64 n] 42))
      go_enter Try.func39, Try.ntmps39
      go_wp2_with (first | (go_at_call 56; go_must (refine (reg_calls _ _).mono ?_); rintro y w2 ⟨rfl, rfl⟩) | (go_at_call 55; go_must (refine (shape_5 _).mono ?_); rintro y w1 ⟨rfl, hb1⟩; have hx1 := below_blk hb1 HX.out (blk_lt HX.out); have x0 := fun o => blk_cell (blk_alloc hx1 o) 0; have x1 := fun o => blk_cell (blk_alloc hx1 o) 1; have x2 := fun o => blk_cell (blk_alloc hx1 o) 2; have x3 := fun o => blk_cell (blk_alloc hx1 o) 3; have x4 := fun o => blk_cell (blk_alloc hx1 o) 4; have x5 := fun o => blk_cell (blk_alloc hx1 o) 5; clear hx1))
      all_goals
        go_ret
        refine ⟨?_, ?_⟩
        · first | (rw [HS.out]; done) | (rw [HS.out]; rfl)
        · exact fin1 hb1
    · have h1b : op < 19 := by omega
      have h1c : ¬ (op > 18) := by omega
      by_cases h2 : a < 0
      · have h2b : ¬ (0 ≤ a) := by omega
        have h2r : regB a = false := regB_no (by omega)
        have HS := Lib.hid (show e5 op a b c n cells long = 82 by unfold e5; rw [if_neg h0, if_neg h1, if_pos h2])
        have HX := Lib.hid (blk_new w (.cells #[.int .i64 5, .int .i64 op, .int .i64 a, .int .i64 b, .int .i64 c, .int .i64 n] 42))
        go_enter Try.func39, Try.ntmps39
        go_wp2_with (first | (go_at_call 56; go_must (refine (reg_calls _ _).mono ?_); rintro y w2 ⟨rfl, rfl⟩) | (go_at_call 55; go_must (refine (shape_5 _).mono ?_); rintro y w1 ⟨rfl, hb1⟩; have hx1 := below_blk hb1 HX.out (blk_lt HX.out); have x0 := fun o => blk_cell (blk_alloc hx1 o) 0; have x1 := fun o => blk_cell (blk_alloc hx1 o) 1; have x2 := fun o => blk_cell (blk_alloc hx1 o) 2; have x3 := fun o => blk_cell (blk_alloc hx1 o) 3; have x4 := fun o => blk_cell (blk_alloc hx1 o) 4; have x5 := fun o => blk_cell (blk_alloc hx1 o) 5; clear hx1))
        all_goals
          go_ret
          refine ⟨?_, ?_⟩
          · first | (rw [HS.out]; done) | (rw [HS.out]; rfl)
          · exact fin1 hb1
      · have h2b : 0 ≤ a := by omega
        by_cases h3 : 15 < a
        · have h3b : ¬ (a < 16) := by omega
          have h3c : a > 15 := by omega
          have h3r : regB a = false := regB_no (by omega)
          have HS := Lib.hid (show e5 op a b c n cells long = 82 by unfold e5; rw [if_neg h0, if_neg h1, if_neg h2, if_pos h3])
          have HX := Lib.hid (blk_new w (.cells #[.int .i64 5, .int .i64 op, .int .i64 a, .int .i64 b, .int .i64 c, .int .i64 n] 42))
          go_enter Try.func39, Try.ntmps39
          go_wp2_with (first | (go_at_call 56; go_must (refine (reg_calls _ _).mono ?_); rintro y w2 ⟨rfl, rfl⟩) | (go_at_call 55; go_must (refine (shape_5 _).mono ?_); rintro y w1 ⟨rfl, hb1⟩; have hx1 := below_blk hb1 HX.out (blk_lt HX.out); have x0 := fun o => blk_cell (blk_alloc hx1 o) 0; have x1 := fun o => blk_cell (blk_alloc hx1 o) 1; have x2 := fun o => blk_cell (blk_alloc hx1 o) 2; have x3 := fun o => blk_cell (blk_alloc hx1 o) 3; have x4 := fun o => blk_cell (blk_alloc hx1 o) 4; have x5 := fun o => blk_cell (blk_alloc hx1 o) 5; clear hx1))
          all_goals
            go_ret
            refine ⟨?_, ?_⟩
            · first | (rw [HS.out]; done) | (rw [HS.out]; rfl)
            · exact fin1 hb1
        · have h3b : a < 16 := by omega
          have h3c : ¬ (a > 15) := by omega
          have h3r : regB a = true := regB_yes (by omega) (by omega)
          by_cases h4 : b < 0
          · have h4b : ¬ (0 ≤ b) := by omega
            have h4r : regB b = false := regB_no (by omega)
            have HS := Lib.hid (show e5 op a b c n cells long = 82 by unfold e5; rw [if_neg h0, if_neg h1, if_neg h2, if_neg h3, if_pos h4])
            have HX := Lib.hid (blk_new w (.cells #[.int .i64 5, .int .i64 op, .int .i64 a, .int .i64 b, .int .i64 c, .int .i64 n] 42))
            go_enter Try.func39, Try.ntmps39
            go_wp2_with (first | (go_at_call 56; go_must (refine (reg_calls _ _).mono ?_); rintro y w2 ⟨rfl, rfl⟩) | (go_at_call 55; go_must (refine (shape_5 _).mono ?_); rintro y w1 ⟨rfl, hb1⟩; have hx1 := below_blk hb1 HX.out (blk_lt HX.out); have x0 := fun o => blk_cell (blk_alloc hx1 o) 0; have x1 := fun o => blk_cell (blk_alloc hx1 o) 1; have x2 := fun o => blk_cell (blk_alloc hx1 o) 2; have x3 := fun o => blk_cell (blk_alloc hx1 o) 3; have x4 := fun o => blk_cell (blk_alloc hx1 o) 4; have x5 := fun o => blk_cell (blk_alloc hx1 o) 5; clear hx1))
            all_goals
              go_ret
              refine ⟨?_, ?_⟩
              · first | (rw [HS.out]; done) | (rw [HS.out]; rfl)
              · exact fin1 hb1
          · have h4b : 0 ≤ b := by omega
            by_cases h5 : 15 < b
            · have h5b : ¬ (b < 16) := by omega
              have h5c : b > 15 := by omega
              have h5r : regB b = false := regB_no (by omega)
              have HS := Lib.hid (show e5 op a b c n cells long = 82 by unfold e5; rw [if_neg h0, if_neg h1, if_neg h2, if_neg h3, if_neg h4, if_pos h5])
              have HX := Lib.hid (blk_new w (.cells #[.int .i64 5, .int .i64 op, .int .i64 a, .int .i64 b, .int .i64 c, .int .i64 n] 42))
              go_enter Try.func39, Try.ntmps39
              go_wp2_with (first | (go_at_call 56; go_must (refine (reg_calls _ _).mono ?_); rintro y w2 ⟨rfl, rfl⟩) | (go_at_call 55; go_must (refine (shape_5 _).mono ?_); rintro y w1 ⟨rfl, hb1⟩; have hx1 := below_blk hb1 HX.out (blk_lt HX.out); have x0 := fun o => blk_cell (blk_alloc hx1 o) 0; have x1 := fun o => blk_cell (blk_alloc hx1 o) 1; have x2 := fun o => blk_cell (blk_alloc hx1 o) 2; have x3 := fun o => blk_cell (blk_alloc hx1 o) 3; have x4 := fun o => blk_cell (blk_alloc hx1 o) 4; have x5 := fun o => blk_cell (blk_alloc hx1 o) 5; clear hx1))
              all_goals
                go_ret
                refine ⟨?_, ?_⟩
                · first | (rw [HS.out]; done) | (rw [HS.out]; rfl)
                · exact fin1 hb1
            · have h5b : b < 16 := by omega
              have h5c : ¬ (b > 15) := by omega
              have h5r : regB b = true := regB_yes (by omega) (by omega)
              by_cases h6 : c < 0
              · have h6b : ¬ (0 ≤ c) := by omega
                have h6r : regB c = false := regB_no (by omega)
                have HS := Lib.hid (show e5 op a b c n cells long = 82 by unfold e5; rw [if_neg h0, if_neg h1, if_neg h2, if_neg h3, if_neg h4, if_neg h5, if_pos h6])
                have HX := Lib.hid (blk_new w (.cells #[.int .i64 5, .int .i64 op, .int .i64 a, .int .i64 b, .int .i64 c, .int .i64 n] 42))
                go_enter Try.func39, Try.ntmps39
                go_wp2_with (first | (go_at_call 56; go_must (refine (reg_calls _ _).mono ?_); rintro y w2 ⟨rfl, rfl⟩) | (go_at_call 55; go_must (refine (shape_5 _).mono ?_); rintro y w1 ⟨rfl, hb1⟩; have hx1 := below_blk hb1 HX.out (blk_lt HX.out); have x0 := fun o => blk_cell (blk_alloc hx1 o) 0; have x1 := fun o => blk_cell (blk_alloc hx1 o) 1; have x2 := fun o => blk_cell (blk_alloc hx1 o) 2; have x3 := fun o => blk_cell (blk_alloc hx1 o) 3; have x4 := fun o => blk_cell (blk_alloc hx1 o) 4; have x5 := fun o => blk_cell (blk_alloc hx1 o) 5; clear hx1))
                all_goals
                  go_ret
                  refine ⟨?_, ?_⟩
                  · first | (rw [HS.out]; done) | (rw [HS.out]; rfl)
                  · exact fin1 hb1
              · have h6b : 0 ≤ c := by omega
                by_cases h7 : 15 < c
                · have h7b : ¬ (c < 16) := by omega
                  have h7c : c > 15 := by omega
                  have h7r : regB c = false := regB_no (by omega)
                  have HS := Lib.hid (show e5 op a b c n cells long = 82 by unfold e5; rw [if_neg h0, if_neg h1, if_neg h2, if_neg h3, if_neg h4, if_neg h5, if_neg h6, if_pos h7])
                  have HX := Lib.hid (blk_new w (.cells #[.int .i64 5, .int .i64 op, .int .i64 a, .int .i64 b, .int .i64 c, .int .i64 n] 42))
                  go_enter Try.func39, Try.ntmps39
                  go_wp2_with (first | (go_at_call 56; go_must (refine (reg_calls _ _).mono ?_); rintro y w2 ⟨rfl, rfl⟩) | (go_at_call 55; go_must (refine (shape_5 _).mono ?_); rintro y w1 ⟨rfl, hb1⟩; have hx1 := below_blk hb1 HX.out (blk_lt HX.out); have x0 := fun o => blk_cell (blk_alloc hx1 o) 0; have x1 := fun o => blk_cell (blk_alloc hx1 o) 1; have x2 := fun o => blk_cell (blk_alloc hx1 o) 2; have x3 := fun o => blk_cell (blk_alloc hx1 o) 3; have x4 := fun o => blk_cell (blk_alloc hx1 o) 4; have x5 := fun o => blk_cell (blk_alloc hx1 o) 5; clear hx1))
                  all_goals
                    go_ret
                    refine ⟨?_, ?_⟩
                    · first | (rw [HS.out]; done) | (rw [HS.out]; rfl)
                    · exact fin1 hb1
                · have h7b : c < 16 := by omega
                  have h7c : ¬ (c > 15) := by omega
                  have h7r : regB c = true := regB_yes (by omega) (by omega)
                  by_cases h8 : n = 0
                  · subst h8
                    have HS := Lib.hid (show e5 op a b c 0 cells long = 0 by unfold e5; rw [if_neg h0, if_neg h1, if_neg h2, if_neg h3, if_neg h4, if_neg h5, if_neg h6, if_neg h7, if_pos rfl])
                    have HX := Lib.hid (blk_new w (.cells #[.int .i64 5, .int .i64 op, .int .i64 a, .int .i64 b, .int .i64 c, .int .i64 0] 42))
                    go_enter Try.func39, Try.ntmps39
                    go_wp2_with (first | (go_at_call 56; go_must (refine (reg_calls _ _).mono ?_); rintro y w2 ⟨rfl, rfl⟩) | (go_at_call 55; go_must (refine (shape_5 _).mono ?_); rintro y w1 ⟨rfl, hb1⟩; have hx1 := below_blk hb1 HX.out (blk_lt HX.out); have x0 := fun o => blk_cell (blk_alloc hx1 o) 0; have x1 := fun o => blk_cell (blk_alloc hx1 o) 1; have x2 := fun o => blk_cell (blk_alloc hx1 o) 2; have x3 := fun o => blk_cell (blk_alloc hx1 o) 3; have x4 := fun o => blk_cell (blk_alloc hx1 o) 4; have x5 := fun o => blk_cell (blk_alloc hx1 o) 5; clear hx1))
                    all_goals
                      go_ret
                      refine ⟨?_, ?_⟩
                      · first | (rw [HS.out]; done) | (rw [HS.out]; rfl)
                      · exact fin1 hb1
                  · have h8b : (n == 0) = false := by simp [h8]
                    have HS := Lib.hid (show e5 op a b c n cells long = 83 by unfold e5; rw [if_neg h0, if_neg h1, if_neg h2, if_neg h3, if_neg h4, if_neg h5, if_neg h6, if_neg h7, if_neg h8])
                    have HX := Lib.hid (blk_new w (.cells #[.int .i64 5, .int .i64 op, .int .i64 a, .int .i64 b, .int .i64 c, .int .i64 n] 42))
                    go_enter Try.func39, Try.ntmps39
                    go_wp2_with (first | (go_at_call 56; go_must (refine (reg_calls _ _).mono ?_); rintro y w2 ⟨rfl, rfl⟩) | (go_at_call 55; go_must (refine (shape_5 _).mono ?_); rintro y w1 ⟨rfl, hb1⟩; have hx1 := below_blk hb1 HX.out (blk_lt HX.out); have x0 := fun o => blk_cell (blk_alloc hx1 o) 0; have x1 := fun o => blk_cell (blk_alloc hx1 o) 1; have x2 := fun o => blk_cell (blk_alloc hx1 o) 2; have x3 := fun o => blk_cell (blk_alloc hx1 o) 3; have x4 := fun o => blk_cell (blk_alloc hx1 o) 4; have x5 := fun o => blk_cell (blk_alloc hx1 o) 5; clear hx1))
                    all_goals
                      go_ret
                      refine ⟨?_, ?_⟩
                      · first | (rw [HS.out]; done) | (rw [HS.out]; rfl)
                      · exact fin1 hb1
set_option linter.unusedVariables false in
set_option maxRecDepth 100000 in
set_option maxHeartbeats 4000000 in
theorem insOne_6 (op a b c n cells long : Int) (w : World) : Calls Try.prog 39 #[.agg #[.int .i64 6, .int .i64 op, .int .i64 a, .int .i64 b, .int .i64 c, .int .i64 n], .int .i64 cells, .int .i64 long] w fun e w' => e = .returned (.int .i64 (e6 op a b c n cells long)) ∧ Below w.heap.size w w' := by
  by_cases h0 : a < 0
  · have h0b : ¬ (0 ≤ a) := by omega
    have h0r : regB a = false := regB_no (by omega)
    have HS := Lib.hid (show e6 op a b c n cells long = 82 by unfold e6; rw [if_pos h0])
    have HX := Lib.hid (blk_new w (.cells #[.int .i64 6, .int .i64 op, .int .i64 a, .int .i64 b, .int .i64 c, .int .i64 n] 42))
    go_enter Try.func39, Try.ntmps39
    go_wp2_with (first | (go_at_call 56; go_must (refine (reg_calls _ _).mono ?_); rintro y w2 ⟨rfl, rfl⟩) | (go_at_call 55; go_must (refine (shape_6 _).mono ?_); rintro y w1 ⟨rfl, hb1⟩; have hx1 := below_blk hb1 HX.out (blk_lt HX.out); have x0 := fun o => blk_cell (blk_alloc hx1 o) 0; have x1 := fun o => blk_cell (blk_alloc hx1 o) 1; have x2 := fun o => blk_cell (blk_alloc hx1 o) 2; have x3 := fun o => blk_cell (blk_alloc hx1 o) 3; have x4 := fun o => blk_cell (blk_alloc hx1 o) 4; have x5 := fun o => blk_cell (blk_alloc hx1 o) 5; clear hx1))
    all_goals
      go_ret
      refine ⟨?_, ?_⟩
      · first | (rw [HS.out]; done) | (rw [HS.out]; rfl)
      · exact fin1 hb1
  · have h0b : 0 ≤ a := by omega
    by_cases h1 : 15 < a
    · have h1b : ¬ (a < 16) := by omega
      have h1c : a > 15 := by omega
      have h1r : regB a = false := regB_no (by omega)
      have HS := Lib.hid (show e6 op a b c n cells long = 82 by unfold e6; rw [if_neg h0, if_pos h1])
      have HX := Lib.hid (blk_new w (.cells #[.int .i64 6, .int .i64 op, .int .i64 a, .int .i64 b, .int .i64 c, .int .i64 n] 42))
      go_enter Try.func39, Try.ntmps39
      go_wp2_with (first | (go_at_call 56; go_must (refine (reg_calls _ _).mono ?_); rintro y w2 ⟨rfl, rfl⟩) | (go_at_call 55; go_must (refine (shape_6 _).mono ?_); rintro y w1 ⟨rfl, hb1⟩; have hx1 := below_blk hb1 HX.out (blk_lt HX.out); have x0 := fun o => blk_cell (blk_alloc hx1 o) 0; have x1 := fun o => blk_cell (blk_alloc hx1 o) 1; have x2 := fun o => blk_cell (blk_alloc hx1 o) 2; have x3 := fun o => blk_cell (blk_alloc hx1 o) 3; have x4 := fun o => blk_cell (blk_alloc hx1 o) 4; have x5 := fun o => blk_cell (blk_alloc hx1 o) 5; clear hx1))
      all_goals
        go_ret
        refine ⟨?_, ?_⟩
        · first | (rw [HS.out]; done) | (rw [HS.out]; rfl)
        · exact fin1 hb1
    · have h1b : a < 16 := by omega
      have h1c : ¬ (a > 15) := by omega
      have h1r : regB a = true := regB_yes (by omega) (by omega)
      by_cases h2 : b < 0
      · have h2b : ¬ (0 ≤ b) := by omega
        have h2r : regB b = false := regB_no (by omega)
        have HS := Lib.hid (show e6 op a b c n cells long = 82 by unfold e6; rw [if_neg h0, if_neg h1, if_pos h2])
        have HX := Lib.hid (blk_new w (.cells #[.int .i64 6, .int .i64 op, .int .i64 a, .int .i64 b, .int .i64 c, .int .i64 n] 42))
        go_enter Try.func39, Try.ntmps39
        go_wp2_with (first | (go_at_call 56; go_must (refine (reg_calls _ _).mono ?_); rintro y w2 ⟨rfl, rfl⟩) | (go_at_call 55; go_must (refine (shape_6 _).mono ?_); rintro y w1 ⟨rfl, hb1⟩; have hx1 := below_blk hb1 HX.out (blk_lt HX.out); have x0 := fun o => blk_cell (blk_alloc hx1 o) 0; have x1 := fun o => blk_cell (blk_alloc hx1 o) 1; have x2 := fun o => blk_cell (blk_alloc hx1 o) 2; have x3 := fun o => blk_cell (blk_alloc hx1 o) 3; have x4 := fun o => blk_cell (blk_alloc hx1 o) 4; have x5 := fun o => blk_cell (blk_alloc hx1 o) 5; clear hx1))
        all_goals
          go_ret
          refine ⟨?_, ?_⟩
          · first | (rw [HS.out]; done) | (rw [HS.out]; rfl)
          · exact fin1 hb1
      · have h2b : 0 ≤ b := by omega
        by_cases h3 : 15 < b
        · have h3b : ¬ (b < 16) := by omega
          have h3c : b > 15 := by omega
          have h3r : regB b = false := regB_no (by omega)
          have HS := Lib.hid (show e6 op a b c n cells long = 82 by unfold e6; rw [if_neg h0, if_neg h1, if_neg h2, if_pos h3])
          have HX := Lib.hid (blk_new w (.cells #[.int .i64 6, .int .i64 op, .int .i64 a, .int .i64 b, .int .i64 c, .int .i64 n] 42))
          go_enter Try.func39, Try.ntmps39
          go_wp2_with (first | (go_at_call 56; go_must (refine (reg_calls _ _).mono ?_); rintro y w2 ⟨rfl, rfl⟩) | (go_at_call 55; go_must (refine (shape_6 _).mono ?_); rintro y w1 ⟨rfl, hb1⟩; have hx1 := below_blk hb1 HX.out (blk_lt HX.out); have x0 := fun o => blk_cell (blk_alloc hx1 o) 0; have x1 := fun o => blk_cell (blk_alloc hx1 o) 1; have x2 := fun o => blk_cell (blk_alloc hx1 o) 2; have x3 := fun o => blk_cell (blk_alloc hx1 o) 3; have x4 := fun o => blk_cell (blk_alloc hx1 o) 4; have x5 := fun o => blk_cell (blk_alloc hx1 o) 5; clear hx1))
          all_goals
            go_ret
            refine ⟨?_, ?_⟩
            · first | (rw [HS.out]; done) | (rw [HS.out]; rfl)
            · exact fin1 hb1
        · have h3b : b < 16 := by omega
          have h3c : ¬ (b > 15) := by omega
          have h3r : regB b = true := regB_yes (by omega) (by omega)
          by_cases h4 : c = 0
          · subst h4
            by_cases h5 : op = 0
            · subst h5
              have HS := Lib.hid (show e6 0 a b 0 n cells long = 0 by unfold e6; rw [if_neg h0, if_neg h1, if_neg h2, if_neg h3, if_pos rfl, if_pos rfl])
              have HX := Lib.hid (blk_new w (.cells #[.int .i64 6, .int .i64 0, .int .i64 a, .int .i64 b, .int .i64 0, .int .i64 n] 42))
              go_enter Try.func39, Try.ntmps39
              go_wp2_with (first | (go_at_call 56; go_must (refine (reg_calls _ _).mono ?_); rintro y w2 ⟨rfl, rfl⟩) | (go_at_call 55; go_must (refine (shape_6 _).mono ?_); rintro y w1 ⟨rfl, hb1⟩; have hx1 := below_blk hb1 HX.out (blk_lt HX.out); have x0 := fun o => blk_cell (blk_alloc hx1 o) 0; have x1 := fun o => blk_cell (blk_alloc hx1 o) 1; have x2 := fun o => blk_cell (blk_alloc hx1 o) 2; have x3 := fun o => blk_cell (blk_alloc hx1 o) 3; have x4 := fun o => blk_cell (blk_alloc hx1 o) 4; have x5 := fun o => blk_cell (blk_alloc hx1 o) 5; clear hx1))
              all_goals
                go_ret
                refine ⟨?_, ?_⟩
                · first | (rw [HS.out]; done) | (rw [HS.out]; rfl)
                · exact fin1 hb1
            · have h5b : (op == 0) = false := by simp [h5]
              have HS := Lib.hid (show e6 op a b 0 n cells long = 83 by unfold e6; rw [if_neg h0, if_neg h1, if_neg h2, if_neg h3, if_pos rfl, if_neg h5])
              have HX := Lib.hid (blk_new w (.cells #[.int .i64 6, .int .i64 op, .int .i64 a, .int .i64 b, .int .i64 0, .int .i64 n] 42))
              go_enter Try.func39, Try.ntmps39
              go_wp2_with (first | (go_at_call 56; go_must (refine (reg_calls _ _).mono ?_); rintro y w2 ⟨rfl, rfl⟩) | (go_at_call 55; go_must (refine (shape_6 _).mono ?_); rintro y w1 ⟨rfl, hb1⟩; have hx1 := below_blk hb1 HX.out (blk_lt HX.out); have x0 := fun o => blk_cell (blk_alloc hx1 o) 0; have x1 := fun o => blk_cell (blk_alloc hx1 o) 1; have x2 := fun o => blk_cell (blk_alloc hx1 o) 2; have x3 := fun o => blk_cell (blk_alloc hx1 o) 3; have x4 := fun o => blk_cell (blk_alloc hx1 o) 4; have x5 := fun o => blk_cell (blk_alloc hx1 o) 5; clear hx1))
              all_goals
                go_ret
                refine ⟨?_, ?_⟩
                · first | (rw [HS.out]; done) | (rw [HS.out]; rfl)
                · exact fin1 hb1
          · have h4b : (c == 0) = false := by simp [h4]
            have HS := Lib.hid (show e6 op a b c n cells long = 83 by unfold e6; rw [if_neg h0, if_neg h1, if_neg h2, if_neg h3, if_neg h4])
            have HX := Lib.hid (blk_new w (.cells #[.int .i64 6, .int .i64 op, .int .i64 a, .int .i64 b, .int .i64 c, .int .i64 n] 42))
            go_enter Try.func39, Try.ntmps39
            go_wp2_with (first | (go_at_call 56; go_must (refine (reg_calls _ _).mono ?_); rintro y w2 ⟨rfl, rfl⟩) | (go_at_call 55; go_must (refine (shape_6 _).mono ?_); rintro y w1 ⟨rfl, hb1⟩; have hx1 := below_blk hb1 HX.out (blk_lt HX.out); have x0 := fun o => blk_cell (blk_alloc hx1 o) 0; have x1 := fun o => blk_cell (blk_alloc hx1 o) 1; have x2 := fun o => blk_cell (blk_alloc hx1 o) 2; have x3 := fun o => blk_cell (blk_alloc hx1 o) 3; have x4 := fun o => blk_cell (blk_alloc hx1 o) 4; have x5 := fun o => blk_cell (blk_alloc hx1 o) 5; clear hx1))
            all_goals
              go_ret
              refine ⟨?_, ?_⟩
              · first | (rw [HS.out]; done) | (rw [HS.out]; rfl)
              · exact fin1 hb1
set_option linter.unusedVariables false in
set_option maxRecDepth 100000 in
set_option maxHeartbeats 4000000 in
theorem insOne_7 (op a b c n cells long : Int) (w : World) : Calls Try.prog 39 #[.agg #[.int .i64 7, .int .i64 op, .int .i64 a, .int .i64 b, .int .i64 c, .int .i64 n], .int .i64 cells, .int .i64 long] w fun e w' => e = .returned (.int .i64 (e7 op a b c n cells long)) ∧ Below w.heap.size w w' := by
  by_cases h0 : a < 0
  · have h0b : ¬ (0 ≤ a) := by omega
    have h0r : regB a = false := regB_no (by omega)
    have HS := Lib.hid (show e7 op a b c n cells long = 82 by unfold e7; rw [if_pos h0])
    have HX := Lib.hid (blk_new w (.cells #[.int .i64 7, .int .i64 op, .int .i64 a, .int .i64 b, .int .i64 c, .int .i64 n] 42))
    go_enter Try.func39, Try.ntmps39
    go_wp2_with (first | (go_at_call 56; go_must (refine (reg_calls _ _).mono ?_); rintro y w2 ⟨rfl, rfl⟩) | (go_at_call 55; go_must (refine (shape_7 _).mono ?_); rintro y w1 ⟨rfl, hb1⟩; have hx1 := below_blk hb1 HX.out (blk_lt HX.out); have x0 := fun o => blk_cell (blk_alloc hx1 o) 0; have x1 := fun o => blk_cell (blk_alloc hx1 o) 1; have x2 := fun o => blk_cell (blk_alloc hx1 o) 2; have x3 := fun o => blk_cell (blk_alloc hx1 o) 3; have x4 := fun o => blk_cell (blk_alloc hx1 o) 4; have x5 := fun o => blk_cell (blk_alloc hx1 o) 5; clear hx1))
    all_goals
      go_ret
      refine ⟨?_, ?_⟩
      · first | (rw [HS.out]; done) | (rw [HS.out]; rfl)
      · exact fin1 hb1
  · have h0b : 0 ≤ a := by omega
    by_cases h1 : 15 < a
    · have h1b : ¬ (a < 16) := by omega
      have h1c : a > 15 := by omega
      have h1r : regB a = false := regB_no (by omega)
      have HS := Lib.hid (show e7 op a b c n cells long = 82 by unfold e7; rw [if_neg h0, if_pos h1])
      have HX := Lib.hid (blk_new w (.cells #[.int .i64 7, .int .i64 op, .int .i64 a, .int .i64 b, .int .i64 c, .int .i64 n] 42))
      go_enter Try.func39, Try.ntmps39
      go_wp2_with (first | (go_at_call 56; go_must (refine (reg_calls _ _).mono ?_); rintro y w2 ⟨rfl, rfl⟩) | (go_at_call 55; go_must (refine (shape_7 _).mono ?_); rintro y w1 ⟨rfl, hb1⟩; have hx1 := below_blk hb1 HX.out (blk_lt HX.out); have x0 := fun o => blk_cell (blk_alloc hx1 o) 0; have x1 := fun o => blk_cell (blk_alloc hx1 o) 1; have x2 := fun o => blk_cell (blk_alloc hx1 o) 2; have x3 := fun o => blk_cell (blk_alloc hx1 o) 3; have x4 := fun o => blk_cell (blk_alloc hx1 o) 4; have x5 := fun o => blk_cell (blk_alloc hx1 o) 5; clear hx1))
      all_goals
        go_ret
        refine ⟨?_, ?_⟩
        · first | (rw [HS.out]; done) | (rw [HS.out]; rfl)
        · exact fin1 hb1
    · have h1b : a < 16 := by omega
      have h1c : ¬ (a > 15) := by omega
      have h1r : regB a = true := regB_yes (by omega) (by omega)
      by_cases h2 : b < 0
      · have h2b : ¬ (0 ≤ b) := by omega
        have h2r : regB b = false := regB_no (by omega)
        have HS := Lib.hid (show e7 op a b c n cells long = 82 by unfold e7; rw [if_neg h0, if_neg h1, if_pos h2])
        have HX := Lib.hid (blk_new w (.cells #[.int .i64 7, .int .i64 op, .int .i64 a, .int .i64 b, .int .i64 c, .int .i64 n] 42))
        go_enter Try.func39, Try.ntmps39
        go_wp2_with (first | (go_at_call 56; go_must (refine (reg_calls _ _).mono ?_); rintro y w2 ⟨rfl, rfl⟩) | (go_at_call 55; go_must (refine (shape_7 _).mono ?_); rintro y w1 ⟨rfl, hb1⟩; have hx1 := below_blk hb1 HX.out (blk_lt HX.out); have x0 := fun o => blk_cell (blk_alloc hx1 o) 0; have x1 := fun o => blk_cell (blk_alloc hx1 o) 1; have x2 := fun o => blk_cell (blk_alloc hx1 o) 2; have x3 := fun o => blk_cell (blk_alloc hx1 o) 3; have x4 := fun o => blk_cell (blk_alloc hx1 o) 4; have x5 := fun o => blk_cell (blk_alloc hx1 o) 5; clear hx1))
        all_goals
          go_ret
          refine ⟨?_, ?_⟩
          · first | (rw [HS.out]; done) | (rw [HS.out]; rfl)
          · exact fin1 hb1
      · have h2b : 0 ≤ b := by omega
        by_cases h3 : 15 < b
        · have h3b : ¬ (b < 16) := by omega
          have h3c : b > 15 := by omega
          have h3r : regB b = false := regB_no (by omega)
          have HS := Lib.hid (show e7 op a b c n cells long = 82 by unfold e7; rw [if_neg h0, if_neg h1, if_neg h2, if_pos h3])
          have HX := Lib.hid (blk_new w (.cells #[.int .i64 7, .int .i64 op, .int .i64 a, .int .i64 b, .int .i64 c, .int .i64 n] 42))
          go_enter Try.func39, Try.ntmps39
          go_wp2_with (first | (go_at_call 56; go_must (refine (reg_calls _ _).mono ?_); rintro y w2 ⟨rfl, rfl⟩) | (go_at_call 55; go_must (refine (shape_7 _).mono ?_); rintro y w1 ⟨rfl, hb1⟩; have hx1 := below_blk hb1 HX.out (blk_lt HX.out); have x0 := fun o => blk_cell (blk_alloc hx1 o) 0; have x1 := fun o => blk_cell (blk_alloc hx1 o) 1; have x2 := fun o => blk_cell (blk_alloc hx1 o) 2; have x3 := fun o => blk_cell (blk_alloc hx1 o) 3; have x4 := fun o => blk_cell (blk_alloc hx1 o) 4; have x5 := fun o => blk_cell (blk_alloc hx1 o) 5; clear hx1))
          all_goals
            go_ret
            refine ⟨?_, ?_⟩
            · first | (rw [HS.out]; done) | (rw [HS.out]; rfl)
            · exact fin1 hb1
        · have h3b : b < 16 := by omega
          have h3c : ¬ (b > 15) := by omega
          have h3r : regB b = true := regB_yes (by omega) (by omega)
          by_cases h4 : c = 0
          · subst h4
            by_cases h5 : op = 0
            · subst h5
              have HS := Lib.hid (show e7 0 a b 0 n cells long = 0 by unfold e7; rw [if_neg h0, if_neg h1, if_neg h2, if_neg h3, if_pos rfl, if_pos rfl])
              have HX := Lib.hid (blk_new w (.cells #[.int .i64 7, .int .i64 0, .int .i64 a, .int .i64 b, .int .i64 0, .int .i64 n] 42))
              go_enter Try.func39, Try.ntmps39
              go_wp2_with (first | (go_at_call 56; go_must (refine (reg_calls _ _).mono ?_); rintro y w2 ⟨rfl, rfl⟩) | (go_at_call 55; go_must (refine (shape_7 _).mono ?_); rintro y w1 ⟨rfl, hb1⟩; have hx1 := below_blk hb1 HX.out (blk_lt HX.out); have x0 := fun o => blk_cell (blk_alloc hx1 o) 0; have x1 := fun o => blk_cell (blk_alloc hx1 o) 1; have x2 := fun o => blk_cell (blk_alloc hx1 o) 2; have x3 := fun o => blk_cell (blk_alloc hx1 o) 3; have x4 := fun o => blk_cell (blk_alloc hx1 o) 4; have x5 := fun o => blk_cell (blk_alloc hx1 o) 5; clear hx1))
              all_goals
                go_ret
                refine ⟨?_, ?_⟩
                · first | (rw [HS.out]; done) | (rw [HS.out]; rfl)
                · exact fin1 hb1
            · have h5b : (op == 0) = false := by simp [h5]
              have HS := Lib.hid (show e7 op a b 0 n cells long = 83 by unfold e7; rw [if_neg h0, if_neg h1, if_neg h2, if_neg h3, if_pos rfl, if_neg h5])
              have HX := Lib.hid (blk_new w (.cells #[.int .i64 7, .int .i64 op, .int .i64 a, .int .i64 b, .int .i64 0, .int .i64 n] 42))
              go_enter Try.func39, Try.ntmps39
              go_wp2_with (first | (go_at_call 56; go_must (refine (reg_calls _ _).mono ?_); rintro y w2 ⟨rfl, rfl⟩) | (go_at_call 55; go_must (refine (shape_7 _).mono ?_); rintro y w1 ⟨rfl, hb1⟩; have hx1 := below_blk hb1 HX.out (blk_lt HX.out); have x0 := fun o => blk_cell (blk_alloc hx1 o) 0; have x1 := fun o => blk_cell (blk_alloc hx1 o) 1; have x2 := fun o => blk_cell (blk_alloc hx1 o) 2; have x3 := fun o => blk_cell (blk_alloc hx1 o) 3; have x4 := fun o => blk_cell (blk_alloc hx1 o) 4; have x5 := fun o => blk_cell (blk_alloc hx1 o) 5; clear hx1))
              all_goals
                go_ret
                refine ⟨?_, ?_⟩
                · first | (rw [HS.out]; done) | (rw [HS.out]; rfl)
                · exact fin1 hb1
          · have h4b : (c == 0) = false := by simp [h4]
            have HS := Lib.hid (show e7 op a b c n cells long = 83 by unfold e7; rw [if_neg h0, if_neg h1, if_neg h2, if_neg h3, if_neg h4])
            have HX := Lib.hid (blk_new w (.cells #[.int .i64 7, .int .i64 op, .int .i64 a, .int .i64 b, .int .i64 c, .int .i64 n] 42))
            go_enter Try.func39, Try.ntmps39
            go_wp2_with (first | (go_at_call 56; go_must (refine (reg_calls _ _).mono ?_); rintro y w2 ⟨rfl, rfl⟩) | (go_at_call 55; go_must (refine (shape_7 _).mono ?_); rintro y w1 ⟨rfl, hb1⟩; have hx1 := below_blk hb1 HX.out (blk_lt HX.out); have x0 := fun o => blk_cell (blk_alloc hx1 o) 0; have x1 := fun o => blk_cell (blk_alloc hx1 o) 1; have x2 := fun o => blk_cell (blk_alloc hx1 o) 2; have x3 := fun o => blk_cell (blk_alloc hx1 o) 3; have x4 := fun o => blk_cell (blk_alloc hx1 o) 4; have x5 := fun o => blk_cell (blk_alloc hx1 o) 5; clear hx1))
            all_goals
              go_ret
              refine ⟨?_, ?_⟩
              · first | (rw [HS.out]; done) | (rw [HS.out]; rfl)
              · exact fin1 hb1
end Go.Proofs.Ytjlnpppjkdcpkaa.My
