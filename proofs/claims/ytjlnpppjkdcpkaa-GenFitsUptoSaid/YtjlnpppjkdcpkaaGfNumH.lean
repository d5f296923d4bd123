/- What the program's operations of two and of one number give, walked by hand. No conditions. -/
import Derived.Test.YtjlnpppjkdcpkaaGfLib
import Derived.Test.YtjlnpppjkdcpkaaProg
import Derived.WalkSpells
import Derived.Laws.Cover1
namespace Go.Proofs.Ytjlnpppjkdcpkaa.NumA
open Go.RowKit
set_option linter.unusedVariables false
set_option linter.unusedSimpArgs false
theorem i64w (n : Int) : IntKind.i64.wrap n = wrap64 n := by unfold wrap64; exact IntKind.wrap_i64 n
theorem bits_and64 (a b : Int) : Go.bits .and .i64 a b = wrap64 ((BitVec.ofInt 64 a &&& BitVec.ofInt 64 b).toNat : Int) := by rw [← i64w]; rfl
/-- what an operation of two numbers gives -/
def two (op a b : Int) : Int × Bool :=
  if op = 1 then (wrap64 (a + b), true) else if op = 2 then (wrap64 (a - b), true) else if op = 3 then (wrap64 (a * b), true)
  else if op = 4 then (if b = 0 then (0, false) else (wrap64 (Int.tdiv a b), true)) else if op = 5 then (if b = 0 then (0, false) else (Int.tmod a b, true))
  else if op = 6 then (Go.bits .and .i64 a b, true) else if op = 7 then (Go.bits .or .i64 a b, true) else if op = 8 then (Go.bits .xor .i64 a b, true)
  else if op = 9 then (wrap64 (a * 2 ^ (b % 64).toNat), true) else if op = 10 then (a / 2 ^ (b % 64).toNat, true)
  else if op = 11 then (if a = b then 1 else 0, true) else if op = 12 then (if a = b then 0 else 1, true) else if op = 13 then (if a < b then 1 else 0, true)
  else if op = 14 then (if a ≤ b then 1 else 0, true) else if op = 15 then (if b < a then 1 else 0, true) else if op = 16 then (if b ≤ a then 1 else 0, true)
  else if op = 17 then (if b < a then b else a, true) else if op = 18 then (if a < b then b else a, true) else (0, false)
/-- of one number -/
def one (op a : Int) : Int × Bool :=
  if op = 19 then (wrap64 (-a), true) else if op = 20 then (Go.bits .xor .i64 (-1) a, true) else if op = 21 then (if a = 0 then 1 else 0, true) else (0, false)
end Go.Proofs.Ytjlnpppjkdcpkaa.NumA
