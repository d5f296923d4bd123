/- Which statements may be: the program's tree.Right, walked. Conditions: the tree was there in the world W, which is kept. -/
import Derived.Test.YtjlnpppjkdcpkaaERTrN
import Derived.Test.YtjlnpppjkdcpkaaERNameW2
import Derived.Test.YtjlnpppjkdcpkaaERNameS
namespace Go.Proofs.Ytjlnpppjkdcpkaa.My
open Go.RowKit
set_option linter.unusedVariables false
set_option linter.unusedSimpArgs false
def cnt (w : World) (q : Nat) (c : Int) : Prop := w.heap[q]? = some (.cells #[.int .i64 c] 102 (0, 0))
theorem one_calls (q : Nat) (c : Int) (w : World) (h : cnt w q c) (h0 : 0 ≤ c) (h1 : c ≤ 100000) :
  Calls Try.prog 60 #[.pointer (some ⟨q, 0, none⟩)] w fun e w' => e = .returned (.bool (decide (c + 1 ≤ 600))) ∧ Keep (fun k => k = q) w w' ∧ cnt w' q (c + 1) := by
 have f0 := blk_cell h 0; have ff := blk_free h; have HC := Lib.hid h; clear h; go_enter Try.func60, Try.ntmps60
 go_wp2; go_ret; exact ⟨by simp, Keep.set (O := fun k => k = q) (Keep.refl _ _) (p := ⟨q, 0, none⟩) (.inl rfl) _, blk_set HC.out 0 _⟩
theorem empty_beq (s : ByteArray) : (s.toList == []) = decide (s = ByteArray.empty) := by
 by_cases h : s = ByteArray.empty
 ·rw [(sbeqL s []).2 h]; simp [h]
 ·rw [Bool.eq_false_iff.2 fun hh => h ((sbeqL s []).1 hh)]; simp [h]
set_option maxRecDepth 100000 in
set_option maxHeartbeats 2000000 in
theorem fields_calls (k n : Int) (s : ByteArray) (o : Int) (A : Option Addr) (m c : Nat) (hs : s.size ≤ maxLen) (hk : 1 ≤ k ∧ k ≤ 5) (w : World) :
  Calls Try.prog 103 #[.agg #[.int .i64 k, .int .i64 n, .string s, .int .i64 o, .slice A m c]] w fun e w' => e = .returned (.bool (fieldsB nameB k n s o)) ∧ Below w.heap.size w w' := by
 have HB := Lib.hid ((Below.refl w.heap.size w).al (o := .cells #[.int .i64 k, .int .i64 n, .string s, .int .i64 o, .slice A m c] 66)); have hx := blk_new w (.cells #[.int .i64 k, .int .i64 n, .string s, .int .i64 o, .slice A m c] 66); obtain ⟨w0, hw0⟩ : ∃ w0, w.alloc (.cells #[.int .i64 k, .int .i64 n, .string s, .int .i64 o, .slice A m c] 66) = w0 := ⟨_, rfl⟩
 rw [hw0] at HB hx; have HX := Lib.hid hx; have HW := Lib.hid hw0; have HNM := Lib.hid (fun w1 => lexName_calls s w1 hs)
 have hsb := empty_beq s; clear hx hw0 hs; have hK5 : k = 1 ∨ k = 2 ∨ k = 3 ∨ k = 4 ∨ k = 5 := by omega
 clear hk; rcases hK5 with rfl | rfl | rfl | rfl | rfl
 ·have HF := Lib.hid (show ∀ b, b = (decide (0 ≤ n) && decide (s = ByteArray.empty) && decide (o = 0)) → b = fieldsB nameB 1 n s o from fun b h => by rw [h]; simp [fieldsB])
  by_cases a1 : n ≥ 0
  ·by_cases b1 : s = ByteArray.empty
   ·have d1 : (s.toList == []) = true := by rw [hsb]; simp [b1]
    have HN := Lib.hid b1; clear b1 hsb; by_cases o1 : (o == 0) = true
    all_goals try (rw [Bool.not_eq_true] at o1)
    all_goals
     go_enter Try.func103, Try.ntmps103
     go_wp2_with (first | (have tk := HW; clear tk; rw [HW.out]; clear HW; have f0 := blk_cell HX.out 0; have f1 := blk_cell HX.out 1; have f2 := blk_cell HX.out 2; have f3 := blk_cell HX.out 3))
     go_ret; refine ⟨congrArg (fun b => Ending.returned (.bool b)) (HF.out _ ?_), HB.out⟩
     have hn := HN.out; simp_all
     try omega
   ·have d1 : (s.toList == []) = false := by rw [hsb]; simp [b1]
    have HN := Lib.hid b1; clear b1 hsb; by_cases o1 : (o == 0) = true
    all_goals try (rw [Bool.not_eq_true] at o1)
    all_goals
     go_enter Try.func103, Try.ntmps103
     go_wp2_with (first | (have tk := HW; clear tk; rw [HW.out]; clear HW; have f0 := blk_cell HX.out 0; have f1 := blk_cell HX.out 1; have f2 := blk_cell HX.out 2; have f3 := blk_cell HX.out 3))
     go_ret; refine ⟨congrArg (fun b => Ending.returned (.bool b)) (HF.out _ ?_), HB.out⟩
     have hn := HN.out; simp_all
     try omega
  ·by_cases b1 : s = ByteArray.empty
   ·have d1 : (s.toList == []) = true := by rw [hsb]; simp [b1]
    have HN := Lib.hid b1; clear b1 hsb; by_cases o1 : (o == 0) = true
    all_goals try (rw [Bool.not_eq_true] at o1)
    all_goals
     go_enter Try.func103, Try.ntmps103
     go_wp2_with (first | (have tk := HW; clear tk; rw [HW.out]; clear HW; have f0 := blk_cell HX.out 0; have f1 := blk_cell HX.out 1; have f2 := blk_cell HX.out 2; have f3 := blk_cell HX.out 3))
     go_ret; refine ⟨congrArg (fun b => Ending.returned (.bool b)) (HF.out _ ?_), HB.out⟩
     have hn := HN.out; simp_all
     try omega
   ·have d1 : (s.toList == []) = false := by rw [hsb]; simp [b1]
    have HN := Lib.hid b1; clear b1 hsb; by_cases o1 : (o == 0) = true
    all_goals try (rw [Bool.not_eq_true] at o1)
    all_goals
     go_enter Try.func103, Try.ntmps103
     go_wp2_with (first | (have tk := HW; clear tk; rw [HW.out]; clear HW; have f0 := blk_cell HX.out 0; have f1 := blk_cell HX.out 1; have f2 := blk_cell HX.out 2; have f3 := blk_cell HX.out 3))
     go_ret; refine ⟨congrArg (fun b => Ending.returned (.bool b)) (HF.out _ ?_), HB.out⟩
     have hn := HN.out; simp_all
     try omega
 ·have HF := Lib.hid (show ∀ b, b = (decide (n = 0) && nameB s && decide (o = 0)) → b = fieldsB nameB 2 n s o from fun b h => by rw [h]; simp [fieldsB])
  by_cases a1 : (n == 0) = true
  ·by_cases b1 : nameB s = true
   ·have HN := Lib.hid b1
    clear b1; by_cases o1 : (o == 0) = true
    all_goals try (rw [Bool.not_eq_true] at o1)
    all_goals
     go_enter Try.func103, Try.ntmps103
     go_wp2_with (first | (have tk := HW; clear tk; rw [HW.out]; clear HW; have f0 := blk_cell HX.out 0; have f1 := blk_cell HX.out 1; have f2 := blk_cell HX.out 2; have f3 := blk_cell HX.out 3) | (go_at_call 83; go_must (refine (HNM.out _).mono ?_); rintro x w1 ⟨rfl, rfl⟩; rw [HN.out]))
     go_ret; refine ⟨congrArg (fun b => Ending.returned (.bool b)) (HF.out _ ?_), HB.out⟩
     have hn := HN.out; simp_all
     try omega
   ·have HN := Lib.hid (show nameB s = false by simpa using b1)
    clear b1; by_cases o1 : (o == 0) = true
    all_goals try (rw [Bool.not_eq_true] at o1)
    all_goals
     go_enter Try.func103, Try.ntmps103
     go_wp2_with (first | (have tk := HW; clear tk; rw [HW.out]; clear HW; have f0 := blk_cell HX.out 0; have f1 := blk_cell HX.out 1; have f2 := blk_cell HX.out 2; have f3 := blk_cell HX.out 3) | (go_at_call 83; go_must (refine (HNM.out _).mono ?_); rintro x w1 ⟨rfl, rfl⟩; rw [HN.out]))
     go_ret; refine ⟨congrArg (fun b => Ending.returned (.bool b)) (HF.out _ ?_), HB.out⟩
     have hn := HN.out; simp_all
     try omega
  ·rw [Bool.not_eq_true] at a1
   by_cases b1 : nameB s = true
   ·have HN := Lib.hid b1
    clear b1; by_cases o1 : (o == 0) = true
    all_goals try (rw [Bool.not_eq_true] at o1)
    all_goals
     go_enter Try.func103, Try.ntmps103
     go_wp2_with (first | (have tk := HW; clear tk; rw [HW.out]; clear HW; have f0 := blk_cell HX.out 0; have f1 := blk_cell HX.out 1; have f2 := blk_cell HX.out 2; have f3 := blk_cell HX.out 3) | (go_at_call 83; go_must (refine (HNM.out _).mono ?_); rintro x w1 ⟨rfl, rfl⟩; rw [HN.out]))
     go_ret; refine ⟨congrArg (fun b => Ending.returned (.bool b)) (HF.out _ ?_), HB.out⟩
     have hn := HN.out; simp_all
     try omega
   ·have HN := Lib.hid (show nameB s = false by simpa using b1)
    clear b1; by_cases o1 : (o == 0) = true
    all_goals try (rw [Bool.not_eq_true] at o1)
    all_goals
     go_enter Try.func103, Try.ntmps103
     go_wp2_with (first | (have tk := HW; clear tk; rw [HW.out]; clear HW; have f0 := blk_cell HX.out 0; have f1 := blk_cell HX.out 1; have f2 := blk_cell HX.out 2; have f3 := blk_cell HX.out 3) | (go_at_call 83; go_must (refine (HNM.out _).mono ?_); rintro x w1 ⟨rfl, rfl⟩; rw [HN.out]))
     go_ret; refine ⟨congrArg (fun b => Ending.returned (.bool b)) (HF.out _ ?_), HB.out⟩
     have hn := HN.out; simp_all
     try omega
 ·have HF := Lib.hid (show ∀ b, b = (decide (n = 0) && decide (s = ByteArray.empty) && decide (o = 0)) → b = fieldsB nameB 3 n s o from fun b h => by rw [h]; simp [fieldsB])
  by_cases a1 : (n == 0) = true
  ·by_cases b1 : s = ByteArray.empty
   ·have d1 : (s.toList == []) = true := by rw [hsb]; simp [b1]
    have HN := Lib.hid b1; clear b1 hsb; by_cases o1 : (o == 0) = true
    all_goals try (rw [Bool.not_eq_true] at o1)
    all_goals
     go_enter Try.func103, Try.ntmps103
     go_wp2_with (first | (have tk := HW; clear tk; rw [HW.out]; clear HW; have f0 := blk_cell HX.out 0; have f1 := blk_cell HX.out 1; have f2 := blk_cell HX.out 2; have f3 := blk_cell HX.out 3))
     go_ret; refine ⟨congrArg (fun b => Ending.returned (.bool b)) (HF.out _ ?_), HB.out⟩
     have hn := HN.out; simp_all
     try omega
   ·have d1 : (s.toList == []) = false := by rw [hsb]; simp [b1]
    have HN := Lib.hid b1; clear b1 hsb; by_cases o1 : (o == 0) = true
    all_goals try (rw [Bool.not_eq_true] at o1)
    all_goals
     go_enter Try.func103, Try.ntmps103
     go_wp2_with (first | (have tk := HW; clear tk; rw [HW.out]; clear HW; have f0 := blk_cell HX.out 0; have f1 := blk_cell HX.out 1; have f2 := blk_cell HX.out 2; have f3 := blk_cell HX.out 3))
     go_ret; refine ⟨congrArg (fun b => Ending.returned (.bool b)) (HF.out _ ?_), HB.out⟩
     have hn := HN.out; simp_all
     try omega
  ·rw [Bool.not_eq_true] at a1
   by_cases b1 : s = ByteArray.empty
   ·have d1 : (s.toList == []) = true := by rw [hsb]; simp [b1]
    have HN := Lib.hid b1; clear b1 hsb; by_cases o1 : (o == 0) = true
    all_goals try (rw [Bool.not_eq_true] at o1)
    all_goals
     go_enter Try.func103, Try.ntmps103
     go_wp2_with (first | (have tk := HW; clear tk; rw [HW.out]; clear HW; have f0 := blk_cell HX.out 0; have f1 := blk_cell HX.out 1; have f2 := blk_cell HX.out 2; have f3 := blk_cell HX.out 3))
     go_ret; refine ⟨congrArg (fun b => Ending.returned (.bool b)) (HF.out _ ?_), HB.out⟩
     have hn := HN.out; simp_all
     try omega
   ·have d1 : (s.toList == []) = false := by rw [hsb]; simp [b1]
    have HN := Lib.hid b1; clear b1 hsb; by_cases o1 : (o == 0) = true
    all_goals try (rw [Bool.not_eq_true] at o1)
    all_goals
     go_enter Try.func103, Try.ntmps103
     go_wp2_with (first | (have tk := HW; clear tk; rw [HW.out]; clear HW; have f0 := blk_cell HX.out 0; have f1 := blk_cell HX.out 1; have f2 := blk_cell HX.out 2; have f3 := blk_cell HX.out 3))
     go_ret; refine ⟨congrArg (fun b => Ending.returned (.bool b)) (HF.out _ ?_), HB.out⟩
     have hn := HN.out; simp_all
     try omega
 ·have HF := Lib.hid (show ∀ b, b = (decide (n = 0) && decide (s = ByteArray.empty) && decide (19 ≤ o ∧ o ≤ 21)) → b = fieldsB nameB 4 n s o from fun b h => by rw [h]; simp [fieldsB])
  by_cases a1 : (n == 0) = true
  ·by_cases b1 : s = ByteArray.empty
   ·have d1 : (s.toList == []) = true := by rw [hsb]; simp [b1]
    have HN := Lib.hid b1; clear b1 hsb; by_cases o1 : o ≥ 19 <;> by_cases o2 : o ≤ 21
    all_goals try (exfalso; omega)
    all_goals
     go_enter Try.func103, Try.ntmps103
     go_wp2_with (first | (have tk := HW; clear tk; rw [HW.out]; clear HW; have f0 := blk_cell HX.out 0; have f1 := blk_cell HX.out 1; have f2 := blk_cell HX.out 2; have f3 := blk_cell HX.out 3))
     go_ret; refine ⟨congrArg (fun b => Ending.returned (.bool b)) (HF.out _ ?_), HB.out⟩
     have hn := HN.out; simp_all
     try omega
   ·have d1 : (s.toList == []) = false := by rw [hsb]; simp [b1]
    have HN := Lib.hid b1; clear b1 hsb; by_cases o1 : o ≥ 19 <;> by_cases o2 : o ≤ 21
    all_goals try (exfalso; omega)
    all_goals
     go_enter Try.func103, Try.ntmps103
     go_wp2_with (first | (have tk := HW; clear tk; rw [HW.out]; clear HW; have f0 := blk_cell HX.out 0; have f1 := blk_cell HX.out 1; have f2 := blk_cell HX.out 2; have f3 := blk_cell HX.out 3))
     go_ret; refine ⟨congrArg (fun b => Ending.returned (.bool b)) (HF.out _ ?_), HB.out⟩
     have hn := HN.out; simp_all
     try omega
  ·rw [Bool.not_eq_true] at a1
   by_cases b1 : s = ByteArray.empty
   ·have d1 : (s.toList == []) = true := by rw [hsb]; simp [b1]
    have HN := Lib.hid b1; clear b1 hsb; by_cases o1 : o ≥ 19 <;> by_cases o2 : o ≤ 21
    all_goals try (exfalso; omega)
    all_goals
     go_enter Try.func103, Try.ntmps103
     go_wp2_with (first | (have tk := HW; clear tk; rw [HW.out]; clear HW; have f0 := blk_cell HX.out 0; have f1 := blk_cell HX.out 1; have f2 := blk_cell HX.out 2; have f3 := blk_cell HX.out 3))
     go_ret; refine ⟨congrArg (fun b => Ending.returned (.bool b)) (HF.out _ ?_), HB.out⟩
     have hn := HN.out; simp_all
     try omega
   ·have d1 : (s.toList == []) = false := by rw [hsb]; simp [b1]
    have HN := Lib.hid b1; clear b1 hsb; by_cases o1 : o ≥ 19 <;> by_cases o2 : o ≤ 21
    all_goals try (exfalso; omega)
    all_goals
     go_enter Try.func103, Try.ntmps103
     go_wp2_with (first | (have tk := HW; clear tk; rw [HW.out]; clear HW; have f0 := blk_cell HX.out 0; have f1 := blk_cell HX.out 1; have f2 := blk_cell HX.out 2; have f3 := blk_cell HX.out 3))
     go_ret; refine ⟨congrArg (fun b => Ending.returned (.bool b)) (HF.out _ ?_), HB.out⟩
     have hn := HN.out; simp_all
     try omega
 ·have HF := Lib.hid (show ∀ b, b = (decide (n = 0) && decide (s = ByteArray.empty) && decide (1 ≤ o ∧ o ≤ 18)) → b = fieldsB nameB 5 n s o from fun b h => by rw [h]; simp [fieldsB])
  by_cases a1 : (n == 0) = true
  ·by_cases b1 : s = ByteArray.empty
   ·have d1 : (s.toList == []) = true := by rw [hsb]; simp [b1]
    have HN := Lib.hid b1; clear b1 hsb; by_cases o1 : o ≥ 1 <;> by_cases o2 : o ≤ 18
    all_goals try (exfalso; omega)
    all_goals
     go_enter Try.func103, Try.ntmps103
     go_wp2_with (first | (have tk := HW; clear tk; rw [HW.out]; clear HW; have f0 := blk_cell HX.out 0; have f1 := blk_cell HX.out 1; have f2 := blk_cell HX.out 2; have f3 := blk_cell HX.out 3))
     go_ret; refine ⟨congrArg (fun b => Ending.returned (.bool b)) (HF.out _ ?_), HB.out⟩
     have hn := HN.out; simp_all
     try omega
   ·have d1 : (s.toList == []) = false := by rw [hsb]; simp [b1]
    have HN := Lib.hid b1; clear b1 hsb; by_cases o1 : o ≥ 1 <;> by_cases o2 : o ≤ 18
    all_goals try (exfalso; omega)
    all_goals
     go_enter Try.func103, Try.ntmps103
     go_wp2_with (first | (have tk := HW; clear tk; rw [HW.out]; clear HW; have f0 := blk_cell HX.out 0; have f1 := blk_cell HX.out 1; have f2 := blk_cell HX.out 2; have f3 := blk_cell HX.out 3))
     go_ret; refine ⟨congrArg (fun b => Ending.returned (.bool b)) (HF.out _ ?_), HB.out⟩
     have hn := HN.out; simp_all
     try omega
  ·rw [Bool.not_eq_true] at a1
   by_cases b1 : s = ByteArray.empty
   ·have d1 : (s.toList == []) = true := by rw [hsb]; simp [b1]
    have HN := Lib.hid b1; clear b1 hsb; by_cases o1 : o ≥ 1 <;> by_cases o2 : o ≤ 18
    all_goals try (exfalso; omega)
    all_goals
     go_enter Try.func103, Try.ntmps103
     go_wp2_with (first | (have tk := HW; clear tk; rw [HW.out]; clear HW; have f0 := blk_cell HX.out 0; have f1 := blk_cell HX.out 1; have f2 := blk_cell HX.out 2; have f3 := blk_cell HX.out 3))
     go_ret; refine ⟨congrArg (fun b => Ending.returned (.bool b)) (HF.out _ ?_), HB.out⟩
     have hn := HN.out; simp_all
     try omega
   ·have d1 : (s.toList == []) = false := by rw [hsb]; simp [b1]
    have HN := Lib.hid b1; clear b1 hsb; by_cases o1 : o ≥ 1 <;> by_cases o2 : o ≤ 18
    all_goals try (exfalso; omega)
    all_goals
     go_enter Try.func103, Try.ntmps103
     go_wp2_with (first | (have tk := HW; clear tk; rw [HW.out]; clear HW; have f0 := blk_cell HX.out 0; have f1 := blk_cell HX.out 1; have f2 := blk_cell HX.out 2; have f3 := blk_cell HX.out 3))
     go_ret; refine ⟨congrArg (fun b => Ending.returned (.bool b)) (HF.out _ ?_), HB.out⟩
     have hn := HN.out; simp_all
     try omega
end Go.Proofs.Ytjlnpppjkdcpkaa.My
