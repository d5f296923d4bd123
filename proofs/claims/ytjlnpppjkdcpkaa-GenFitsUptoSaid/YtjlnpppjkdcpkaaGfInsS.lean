/- An instruction's error, as the program and as the document tell it. No conditions. -/
import Derived.Test.YtjlnpppjkdcpkaaGfCom
import Derived.Test.YtjlnpppjkdcpkaaProg
import Derived.Maps.OwnOps
import Derived.Carry
import Derived.Outline
import Derived.WalkSpells
namespace Go.Proofs.Ytjlnpppjkdcpkaa.My
open Go.RowKit
set_option linter.unusedVariables false
def e1 (op a b c n cells long : Int) : Int := if a = 0 then (if b = 0 then (if c = 0 then (if n = 0 then (if op = 0 then (0) else 83) else 83) else 83) else 83) else 83
def e2 (op a b c n cells long : Int) : Int := if a < 0 then 82 else (if 15 < a then 82 else (if b = 0 then (if c = 0 then (if op = 0 then (0) else 83) else 83) else 83))
def e3 (op a b c n cells long : Int) : Int := if a < 0 then 82 else (if 15 < a then 82 else (if b < 0 then 82 else (if 15 < b then 82 else (if c = 0 then (if n = 0 then (if op = 0 then (0) else 83) else 83) else 83))))
def e4 (op a b c n cells long : Int) : Int := if op < 19 then 81 else (if 21 < op then 81 else (if a < 0 then 82 else (if 15 < a then 82 else (if b < 0 then 82 else (if 15 < b then 82 else (if c = 0 then (if n = 0 then (0) else 83) else 83))))))
def e5 (op a b c n cells long : Int) : Int := if op < 1 then 81 else (if 18 < op then 81 else (if a < 0 then 82 else (if 15 < a then 82 else (if b < 0 then 82 else (if 15 < b then 82 else (if c < 0 then 82 else (if 15 < c then 82 else (if n = 0 then (0) else 83))))))))
def e6 (op a b c n cells long : Int) : Int := if a < 0 then 82 else (if 15 < a then 82 else (if b < 0 then 82 else (if 15 < b then 82 else (if c = 0 then (if op = 0 then (0) else 83) else 83))))
def e7 (op a b c n cells long : Int) : Int := if a < 0 then 82 else (if 15 < a then 82 else (if b < 0 then 82 else (if 15 < b then 82 else (if c = 0 then (if op = 0 then (0) else 83) else 83))))
def e8 (op a b c n cells long : Int) : Int := if a < 0 then 82 else (if 15 < a then 82 else (if b = 0 then (if n = 0 then (if op = 0 then (if c < 0 then 63 else (if cells ≤ c then 63 else (if 4 ≤ c then 63 else (0)))) else 83) else 83) else 83))
def e9 (op a b c n cells long : Int) : Int := if a < 0 then 82 else (if 15 < a then 82 else (if b = 0 then (if c = 0 then (if n = 0 then (if op = 0 then (0) else 83) else 83) else 83) else 83))
def e10 (op a b c n cells long : Int) : Int := if a = 0 then (if b = 0 then (if c = 0 then (if op = 0 then (if n < 0 then 84 else (if long ≤ n then 84 else (0))) else 83) else 83) else 83) else 83
def e11 (op a b c n cells long : Int) : Int := if a < 0 then 82 else (if 15 < a then 82 else (if b = 0 then (if c = 0 then (if op = 0 then (if n < 0 then 84 else (if long ≤ n then 84 else (0))) else 83) else 83) else 83))
def e12 (op a b c n cells long : Int) : Int := if a < 0 then 82 else (if 15 < a then 82 else (if b = 0 then (if c = 0 then (if op = 0 then (if n < 0 then 84 else (if long ≤ n then 84 else (0))) else 83) else 83) else 83))
def e13 (op a b c n cells long : Int) : Int := if a < 0 then 82 else (if 15 < a then 82 else (if b = 0 then (if c = 0 then (if n = 0 then (if op = 0 then (0) else 83) else 83) else 83) else 83))
/-- the error of an instruction: its kind, operation, registers, number; beside so many reductions, in a text of so many -/
def insErr (k op a b c n cells long : Int) : Int := if k = 1 then e1 op a b c n cells long else if k = 2 then e2 op a b c n cells long else if k = 3 then e3 op a b c n cells long else if k = 4 then e4 op a b c n cells long else if k = 5 then e5 op a b c n cells long else if k = 6 then e6 op a b c n cells long else if k = 7 then e7 op a b c n cells long else if k = 8 then e8 op a b c n cells long else if k = 9 then e9 op a b c n cells long else if k = 10 then e10 op a b c n cells long else if k = 11 then e11 op a b c n cells long else if k = 12 then e12 op a b c n cells long else if k = 13 then e13 op a b c n cells long else 81
theorem fin1 {w w1 : World} {o o' : Obj} (h : Below (w.alloc o).heap.size (w.alloc o) w1) : Below w.heap.size w (w1.alloc o') :=
  ((Below.refl _ _).al).trans ((h.mono (by simp)).trans (((Below.refl w1.heap.size w1).al).mono (by have := h.size; simp at this; omega)))
def regB (n : Int) : Bool := decide (0 ≤ n ∧ n ≤ 15)
theorem regB_yes {n : Int} (h0 : 0 ≤ n) (h1 : n ≤ 15) : regB n = true := by simp [regB, h0, h1]
theorem regB_no {n : Int} (h : n < 0 ∨ 15 < n) : regB n = false := by simp [regB]; omega
theorem reg_calls (n : Int) (w : World) : Calls Try.prog 56 #[.bool true, .int .i64 n] w fun e w' => e = .returned (.bool (regB n)) ∧ w' = w := by
  by_cases h0 : n < 0
  · have HS := Lib.hid (regB_no (.inl h0))
    have h0b : ¬ (0 ≤ n) := by omega
    go_enter Try.func56, Try.ntmps56
    go_wp2
    all_goals
      go_ret
      rw [HS.out]
      exact ⟨rfl, rfl⟩
  · have h0b : 0 ≤ n := by omega
    by_cases h1 : 15 < n
    · have HS := Lib.hid (regB_no (.inr h1))
      have h1b : ¬ (n < 16) := by omega
      go_enter Try.func56, Try.ntmps56
      go_wp2
      all_goals
        go_ret
        rw [HS.out]
        exact ⟨rfl, rfl⟩
    · have HS := Lib.hid (regB_yes h0b (by omega))
      have h1b : n < 16 := by omega
      go_enter Try.func56, Try.ntmps56
      go_wp2
      all_goals
        go_ret
        rw [HS.out]
        exact ⟨rfl, rfl⟩
set_option maxRecDepth 100000 in
theorem shape_1 (w : World) : Calls Try.prog 55 #[.int .i64 1] w fun e w' => e = .returned (.tuple #[.agg #[.bool false, .bool false, .bool false, .bool false, .bool false, .bool false, .bool false, .bool false], .bool true]) ∧ Below w.heap.size w w' := by
  go_enter Try.func55, Try.ntmps55
  go_wp2
  refine bodyPost_ret (v := .tuple #[.agg #[.bool false, .bool false, .bool false, .bool false, .bool false, .bool false, .bool false, .bool false], .bool true]) (by simp [results, Try.results55, go_sem]) rfl ⟨rfl, ?_⟩
  repeat (first | exact Below.refl _ _ | apply Below.al | apply Below.drew)
set_option maxRecDepth 100000 in
theorem shape_2 (w : World) : Calls Try.prog 55 #[.int .i64 2] w fun e w' => e = .returned (.tuple #[.agg #[.bool true, .bool false, .bool false, .bool false, .bool true, .bool false, .bool false, .bool false], .bool true]) ∧ Below w.heap.size w w' := by
  go_enter Try.func55, Try.ntmps55
  go_wp2
  refine bodyPost_ret (v := .tuple #[.agg #[.bool true, .bool false, .bool false, .bool false, .bool true, .bool false, .bool false, .bool false], .bool true]) (by simp [results, Try.results55, go_sem]) rfl ⟨rfl, ?_⟩
  repeat (first | exact Below.refl _ _ | apply Below.al | apply Below.drew)
set_option maxRecDepth 100000 in
theorem shape_3 (w : World) : Calls Try.prog 55 #[.int .i64 3] w fun e w' => e = .returned (.tuple #[.agg #[.bool true, .bool true, .bool false, .bool false, .bool false, .bool false, .bool false, .bool false], .bool true]) ∧ Below w.heap.size w w' := by
  go_enter Try.func55, Try.ntmps55
  go_wp2
  refine bodyPost_ret (v := .tuple #[.agg #[.bool true, .bool true, .bool false, .bool false, .bool false, .bool false, .bool false, .bool false], .bool true]) (by simp [results, Try.results55, go_sem]) rfl ⟨rfl, ?_⟩
  repeat (first | exact Below.refl _ _ | apply Below.al | apply Below.drew)
set_option maxRecDepth 100000 in
theorem shape_4 (w : World) : Calls Try.prog 55 #[.int .i64 4] w fun e w' => e = .returned (.tuple #[.agg #[.bool true, .bool true, .bool false, .bool false, .bool false, .bool false, .bool true, .bool false], .bool true]) ∧ Below w.heap.size w w' := by
  go_enter Try.func55, Try.ntmps55
  go_wp2
  refine bodyPost_ret (v := .tuple #[.agg #[.bool true, .bool true, .bool false, .bool false, .bool false, .bool false, .bool true, .bool false], .bool true]) (by simp [results, Try.results55, go_sem]) rfl ⟨rfl, ?_⟩
  repeat (first | exact Below.refl _ _ | apply Below.al | apply Below.drew)
set_option maxRecDepth 100000 in
theorem shape_5 (w : World) : Calls Try.prog 55 #[.int .i64 5] w fun e w' => e = .returned (.tuple #[.agg #[.bool true, .bool true, .bool true, .bool false, .bool false, .bool false, .bool false, .bool true], .bool true]) ∧ Below w.heap.size w w' := by
  go_enter Try.func55, Try.ntmps55
  go_wp2
  refine bodyPost_ret (v := .tuple #[.agg #[.bool true, .bool true, .bool true, .bool false, .bool false, .bool false, .bool false, .bool true], .bool true]) (by simp [results, Try.results55, go_sem]) rfl ⟨rfl, ?_⟩
  repeat (first | exact Below.refl _ _ | apply Below.al | apply Below.drew)
set_option maxRecDepth 100000 in
theorem shape_6 (w : World) : Calls Try.prog 55 #[.int .i64 6] w fun e w' => e = .returned (.tuple #[.agg #[.bool true, .bool true, .bool false, .bool false, .bool true, .bool false, .bool false, .bool false], .bool true]) ∧ Below w.heap.size w w' := by
  go_enter Try.func55, Try.ntmps55
  go_wp2
  refine bodyPost_ret (v := .tuple #[.agg #[.bool true, .bool true, .bool false, .bool false, .bool true, .bool false, .bool false, .bool false], .bool true]) (by simp [results, Try.results55, go_sem]) rfl ⟨rfl, ?_⟩
  repeat (first | exact Below.refl _ _ | apply Below.al | apply Below.drew)
set_option maxRecDepth 100000 in
theorem shape_7 (w : World) : Calls Try.prog 55 #[.int .i64 7] w fun e w' => e = .returned (.tuple #[.agg #[.bool true, .bool true, .bool false, .bool false, .bool true, .bool false, .bool false, .bool false], .bool true]) ∧ Below w.heap.size w w' := by
  go_enter Try.func55, Try.ntmps55
  go_wp2
  refine bodyPost_ret (v := .tuple #[.agg #[.bool true, .bool true, .bool false, .bool false, .bool true, .bool false, .bool false, .bool false], .bool true]) (by simp [results, Try.results55, go_sem]) rfl ⟨rfl, ?_⟩
  repeat (first | exact Below.refl _ _ | apply Below.al | apply Below.drew)
set_option maxRecDepth 100000 in
theorem shape_8 (w : World) : Calls Try.prog 55 #[.int .i64 8] w fun e w' => e = .returned (.tuple #[.agg #[.bool true, .bool false, .bool false, .bool true, .bool false, .bool false, .bool false, .bool false], .bool true]) ∧ Below w.heap.size w w' := by
  go_enter Try.func55, Try.ntmps55
  go_wp2
  refine bodyPost_ret (v := .tuple #[.agg #[.bool true, .bool false, .bool false, .bool true, .bool false, .bool false, .bool false, .bool false], .bool true]) (by simp [results, Try.results55, go_sem]) rfl ⟨rfl, ?_⟩
  repeat (first | exact Below.refl _ _ | apply Below.al | apply Below.drew)
set_option maxRecDepth 100000 in
theorem shape_9 (w : World) : Calls Try.prog 55 #[.int .i64 9] w fun e w' => e = .returned (.tuple #[.agg #[.bool true, .bool false, .bool false, .bool false, .bool false, .bool false, .bool false, .bool false], .bool true]) ∧ Below w.heap.size w w' := by
  go_enter Try.func55, Try.ntmps55
  go_wp2
  refine bodyPost_ret (v := .tuple #[.agg #[.bool true, .bool false, .bool false, .bool false, .bool false, .bool false, .bool false, .bool false], .bool true]) (by simp [results, Try.results55, go_sem]) rfl ⟨rfl, ?_⟩
  repeat (first | exact Below.refl _ _ | apply Below.al | apply Below.drew)
set_option maxRecDepth 100000 in
theorem shape_10 (w : World) : Calls Try.prog 55 #[.int .i64 10] w fun e w' => e = .returned (.tuple #[.agg #[.bool false, .bool false, .bool false, .bool false, .bool true, .bool true, .bool false, .bool false], .bool true]) ∧ Below w.heap.size w w' := by
  go_enter Try.func55, Try.ntmps55
  go_wp2
  refine bodyPost_ret (v := .tuple #[.agg #[.bool false, .bool false, .bool false, .bool false, .bool true, .bool true, .bool false, .bool false], .bool true]) (by simp [results, Try.results55, go_sem]) rfl ⟨rfl, ?_⟩
  repeat (first | exact Below.refl _ _ | apply Below.al | apply Below.drew)
set_option maxRecDepth 100000 in
theorem shape_11 (w : World) : Calls Try.prog 55 #[.int .i64 11] w fun e w' => e = .returned (.tuple #[.agg #[.bool true, .bool false, .bool false, .bool false, .bool true, .bool true, .bool false, .bool false], .bool true]) ∧ Below w.heap.size w w' := by
  go_enter Try.func55, Try.ntmps55
  go_wp2
  refine bodyPost_ret (v := .tuple #[.agg #[.bool true, .bool false, .bool false, .bool false, .bool true, .bool true, .bool false, .bool false], .bool true]) (by simp [results, Try.results55, go_sem]) rfl ⟨rfl, ?_⟩
  repeat (first | exact Below.refl _ _ | apply Below.al | apply Below.drew)
set_option maxRecDepth 100000 in
theorem shape_12 (w : World) : Calls Try.prog 55 #[.int .i64 12] w fun e w' => e = .returned (.tuple #[.agg #[.bool true, .bool false, .bool false, .bool false, .bool true, .bool true, .bool false, .bool false], .bool true]) ∧ Below w.heap.size w w' := by
  go_enter Try.func55, Try.ntmps55
  go_wp2
  refine bodyPost_ret (v := .tuple #[.agg #[.bool true, .bool false, .bool false, .bool false, .bool true, .bool true, .bool false, .bool false], .bool true]) (by simp [results, Try.results55, go_sem]) rfl ⟨rfl, ?_⟩
  repeat (first | exact Below.refl _ _ | apply Below.al | apply Below.drew)
set_option maxRecDepth 100000 in
theorem shape_13 (w : World) : Calls Try.prog 55 #[.int .i64 13] w fun e w' => e = .returned (.tuple #[.agg #[.bool true, .bool false, .bool false, .bool false, .bool false, .bool false, .bool false, .bool false], .bool true]) ∧ Below w.heap.size w w' := by
  go_enter Try.func55, Try.ntmps55
  go_wp2
  refine bodyPost_ret (v := .tuple #[.agg #[.bool true, .bool false, .bool false, .bool false, .bool false, .bool false, .bool false, .bool false], .bool true]) (by simp [results, Try.results55, go_sem]) rfl ⟨rfl, ?_⟩
  repeat (first | exact Below.refl _ _ | apply Below.al | apply Below.drew)
set_option maxRecDepth 100000 in
theorem shape_0 (k : Int) (hk : k < 1 ∨ 13 < k) (w : World) : Calls Try.prog 55 #[.int .i64 k] w fun e w' => e = .returned (.tuple #[.agg #[.bool false, .bool false, .bool false, .bool false, .bool false, .bool false, .bool false, .bool false], .bool false]) ∧ Below w.heap.size w w' := by
  have k1 : (k == 1) = false := by simp; omega
  have k2 : (k == 2) = false := by simp; omega
  have k3 : (k == 3) = false := by simp; omega
  have k4 : (k == 4) = false := by simp; omega
  have k5 : (k == 5) = false := by simp; omega
  have k6 : (k == 6) = false := by simp; omega
  have k7 : (k == 7) = false := by simp; omega
  have k8 : (k == 8) = false := by simp; omega
  have k9 : (k == 9) = false := by simp; omega
  have k10 : (k == 10) = false := by simp; omega
  have k11 : (k == 11) = false := by simp; omega
  have k12 : (k == 12) = false := by simp; omega
  have k13 : (k == 13) = false := by simp; omega
  go_enter Try.func55, Try.ntmps55
  go_wp2
  refine bodyPost_ret (v := .tuple #[.agg #[.bool false, .bool false, .bool false, .bool false, .bool false, .bool false, .bool false, .bool false], .bool false]) (by simp [results, Try.results55, go_sem]) rfl ⟨rfl, ?_⟩
  repeat (first | exact Below.refl _ _ | apply Below.al | apply Below.drew)
end Go.Proofs.Ytjlnpppjkdcpkaa.My
