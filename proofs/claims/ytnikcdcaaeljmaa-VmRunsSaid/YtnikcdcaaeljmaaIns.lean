/- An instruction's error, as the program and as the document tell it. No conditions. -/
import Derived.Test.YtnikcdcaaeljmaaInsA
import Derived.Test.YtnikcdcaaeljmaaInsB
import Derived.Test.YtnikcdcaaeljmaaInsC
import Derived.Test.YtnikcdcaaeljmaaInsD
namespace Go.Proofs.Ytnikcdcaaeljmaa.My
open Go.RowKit
theorem insOne_calls (k op a b c n cells long : Int) (w : World) : Calls Try.prog 53 #[.agg #[.int .i64 k, .int .i64 op, .int .i64 a, .int .i64 b, .int .i64 c, .int .i64 n], .int .i64 cells, .int .i64 long] w fun e w' => e = .returned (.int .i64 (insErr k op a b c n cells long)) ∧ Below w.heap.size w w' := by
  by_cases hk : k < 1 ∨ 13 < k
  · have h : insErr k op a b c n cells long = 81 := by
      unfold insErr
      rw [if_neg (by omega), if_neg (by omega), if_neg (by omega), if_neg (by omega), if_neg (by omega), if_neg (by omega), if_neg (by omega), if_neg (by omega), if_neg (by omega), if_neg (by omega), if_neg (by omega), if_neg (by omega), if_neg (by omega)]
    rw [h]
    exact insOne_0 k op a b c n cells long hk w
  · have hk' : k = 1 ∨ k = 2 ∨ k = 3 ∨ k = 4 ∨ k = 5 ∨ k = 6 ∨ k = 7 ∨ k = 8 ∨ k = 9 ∨ k = 10 ∨ k = 11 ∨ k = 12 ∨ k = 13 := by omega
    rcases hk' with rfl | rfl | rfl | rfl | rfl | rfl | rfl | rfl | rfl | rfl | rfl | rfl | rfl
    · exact insOne_1 op a b c n cells long w
    · exact insOne_2 op a b c n cells long w
    · exact insOne_3 op a b c n cells long w
    · exact insOne_4 op a b c n cells long w
    · exact insOne_5 op a b c n cells long w
    · exact insOne_6 op a b c n cells long w
    · exact insOne_7 op a b c n cells long w
    · exact insOne_8 op a b c n cells long w
    · exact insOne_9 op a b c n cells long w
    · exact insOne_10 op a b c n cells long w
    · exact insOne_11 op a b c n cells long w
    · exact insOne_12 op a b c n cells long w
    · exact insOne_13 op a b c n cells long w
theorem refOne_calls (k op a b c n cells long : Int) (w : World) : Calls Try.prog 55 #[.agg #[.int .i64 k, .int .i64 op, .int .i64 a, .int .i64 b, .int .i64 c, .int .i64 n], .int .i64 cells, .int .i64 long] w fun e w' => e = .returned (.int .i64 (insErr k op a b c n cells long)) ∧ Below w.heap.size w w' := by
  by_cases hk : k < 1 ∨ 13 < k
  · have h : insErr k op a b c n cells long = 81 := by
      unfold insErr
      rw [if_neg (by omega), if_neg (by omega), if_neg (by omega), if_neg (by omega), if_neg (by omega), if_neg (by omega), if_neg (by omega), if_neg (by omega), if_neg (by omega), if_neg (by omega), if_neg (by omega), if_neg (by omega), if_neg (by omega)]
    rw [h]
    exact refOne_0 k op a b c n cells long hk w
  · have hk' : k = 1 ∨ k = 2 ∨ k = 3 ∨ k = 4 ∨ k = 5 ∨ k = 6 ∨ k = 7 ∨ k = 8 ∨ k = 9 ∨ k = 10 ∨ k = 11 ∨ k = 12 ∨ k = 13 := by omega
    rcases hk' with rfl | rfl | rfl | rfl | rfl | rfl | rfl | rfl | rfl | rfl | rfl | rfl | rfl
    · exact refOne_1 op a b c n cells long w
    · exact refOne_2 op a b c n cells long w
    · exact refOne_3 op a b c n cells long w
    · exact refOne_4 op a b c n cells long w
    · exact refOne_5 op a b c n cells long w
    · exact refOne_6 op a b c n cells long w
    · exact refOne_7 op a b c n cells long w
    · exact refOne_8 op a b c n cells long w
    · exact refOne_9 op a b c n cells long w
    · exact refOne_10 op a b c n cells long w
    · exact refOne_11 op a b c n cells long w
    · exact refOne_12 op a b c n cells long w
    · exact refOne_13 op a b c n cells long w
end Go.Proofs.Ytnikcdcaaeljmaa.My
