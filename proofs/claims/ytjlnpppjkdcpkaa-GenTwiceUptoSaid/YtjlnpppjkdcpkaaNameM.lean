/- Layer 7: the guard may: it ends with a truth value and keeps what was there. Conditions: the tree was there in the world W, which is kept; it has at most 10^9 nodes. -/
import Derived.Test.YtjlnpppjkdcpkaaNameMa
import Derived.Test.YtjlnpppjkdcpkaaNameMb
import Derived.Test.YtjlnpppjkdcpkaaNameMc
import Derived.Test.YtjlnpppjkdcpkaaNameMd
namespace Go.Proofs.Ytjlnpppjkdcpkaa.My
open Go.RowKit Go.Maps
theorem may_calls (W : World) (N : Nat) : MayOK W N := by
  induction N with
  | zero => intro kk ss cc la lb le A0 c0 A1 c1 A2 c2 bl hN; omega
  | succ N ih =>
    intro kk ss cc la lb le A0 c0 A1 c1 A2 c2 bl hN hrd0 hrd1 hrd2 hl hs w hB
    by_cases hk : kk < 1 ∨ 9 < kk
    · exact may_0 W N ih kk ss cc la lb le A0 c0 A1 c1 A2 c2 bl hk hN hrd0 hrd1 hrd2 hl hs w hB
    · have hk' : kk = 1 ∨ kk = 2 ∨ kk = 3 ∨ kk = 4 ∨ kk = 5 ∨ kk = 6 ∨ kk = 7 ∨ kk = 8 ∨ kk = 9 := by omega
      rcases hk' with rfl | rfl | rfl | rfl | rfl | rfl | rfl | rfl | rfl
      · exact may_1 W N ih ss cc la lb le A0 c0 A1 c1 A2 c2 bl hN hrd0 hrd1 hrd2 hl hs w hB
      · exact may_2 W N ih ss cc la lb le A0 c0 A1 c1 A2 c2 bl hN hrd0 hrd1 hrd2 hl hs w hB
      · exact may_3 W N ih ss cc la lb le A0 c0 A1 c1 A2 c2 bl hN hrd0 hrd1 hrd2 hl hs w hB
      · exact may_4 W N ih ss cc la lb le A0 c0 A1 c1 A2 c2 bl hN hrd0 hrd1 hrd2 hl hs w hB
      · exact may_5 W N ih ss cc la lb le A0 c0 A1 c1 A2 c2 bl hN hrd0 hrd1 hrd2 hl hs w hB
      · exact may_6 W N ih ss cc la lb le A0 c0 A1 c1 A2 c2 bl hN hrd0 hrd1 hrd2 hl hs w hB
      · exact may_7 W N ih ss cc la lb le A0 c0 A1 c1 A2 c2 bl hN hrd0 hrd1 hrd2 hl hs w hB
      · exact may_8 W N ih ss cc la lb le A0 c0 A1 c1 A2 c2 bl hN hrd0 hrd1 hrd2 hl hs w hB
      · exact may_9 W N ih ss cc la lb le A0 c0 A1 c1 A2 c2 bl hN hrd0 hrd1 hrd2 hl hs w hB
end Go.Proofs.Ytjlnpppjkdcpkaa.My
