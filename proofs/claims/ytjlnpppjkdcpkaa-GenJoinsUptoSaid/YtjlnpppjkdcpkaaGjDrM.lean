/- What the document's may and Right say, exactly: the program's own say. Conditions: the tree was there in the world W, which is kept; it has at most 10^9 nodes. -/
import Derived.Test.YtjlnpppjkdcpkaaGjDrMa
import Derived.Test.YtjlnpppjkdcpkaaGjDrMb
import Derived.Test.YtjlnpppjkdcpkaaGjDrMc
import Derived.Test.YtjlnpppjkdcpkaaGjDrMd
import Derived.Test.YtjlnpppjkdcpkaaGjDrMe
import Derived.Test.YtjlnpppjkdcpkaaGjDrMf
namespace Go.Proofs.Ytjlnpppjkdcpkaa.My
open Go.RowKit Go.Maps
set_option linter.unusedVariables false
set_option linter.unusedSimpArgs false
theorem docMay_calls (W : World) (N : Nat) : MayIs W N := by
  induction N with
  | zero => intro kk ss cc la lb le A0 c0 A1 c1 A2 c2 n hN; omega
  | succ N ih =>
    intro kk ss cc la lb le A0 c0 A1 c1 A2 c2 n hN hrd0 hrd1 hrd2 hl hs w hB
    by_cases hk : 1 ≤ kk ∧ kk ≤ 9
    · have hk' : kk = 1 ∨ kk = 2 ∨ kk = 3 ∨ kk = 4 ∨ kk = 5 ∨ kk = 6 ∨ kk = 7 ∨ kk = 8 ∨ kk = 9 := by omega
      rcases hk' with rfl | rfl | rfl | rfl | rfl | rfl | rfl | rfl | rfl
      · exact docMay_1 W N ih ss cc la lb le A0 c0 A1 c1 A2 c2 n hN hrd0 hrd1 hrd2 hl hs w hB
      · exact docMay_2 W N ih ss cc la lb le A0 c0 A1 c1 A2 c2 n hN hrd0 hrd1 hrd2 hl hs w hB
      · exact docMay_3 W N ih ss cc la lb le A0 c0 A1 c1 A2 c2 n hN hrd0 hrd1 hrd2 hl hs w hB
      · exact docMay_4 W N ih ss cc la lb le A0 c0 A1 c1 A2 c2 n hN hrd0 hrd1 hrd2 hl hs w hB
      · exact docMay_5 W N ih ss cc la lb le A0 c0 A1 c1 A2 c2 n hN hrd0 hrd1 hrd2 hl hs w hB
      · exact docMay_6 W N ih ss cc la lb le A0 c0 A1 c1 A2 c2 n hN hrd0 hrd1 hrd2 hl hs w hB
      · exact docMay_7 W N ih ss cc la lb le A0 c0 A1 c1 A2 c2 n hN hrd0 hrd1 hrd2 hl hs w hB
      · exact docMay_8 W N ih ss cc la lb le A0 c0 A1 c1 A2 c2 n hN hrd0 hrd1 hrd2 hl hs w hB
      · exact docMay_9 W N ih ss cc la lb le A0 c0 A1 c1 A2 c2 n hN hrd0 hrd1 hrd2 hl hs w hB
    · exact docMay_0 W N ih kk ss cc la lb le A0 c0 A1 c1 A2 c2 n hk hN hrd0 hrd1 hrd2 hl hs w hB
theorem docRight_calls (W : World) (l : List Stmt) (A : Option Addr) (c : Nat) (hrd : Stmt.rds W l A 0) (hl : Stmt.nodesL l ≤ 1000000000) (w : World) (hB : Below W.heap.size W w) :
    Calls Try.prog 17 #[.slice A l.length c] w (IsB (rightP nameB l) w) := by
  have hal := Stmt.nodesL_len l
  have hI := docNodes_calls W _ l A c (Nat.le_refl _) hrd hl w hB
  by_cases h6 : Stmt.nodesL l ≤ 600
  · have h6' : ¬ ((600 : Int) < (Stmt.nodesL l : Int)) := by omega
    rw [show rightP nameB l = Stmt.rightsB nameB 0 l by simp [rightP, h6]]
    go_enter Try.func17, Try.ntmps17
    go_wp2_with (go_at_call 28; go_must (refine hI.mono ?_); rintro y w1 ⟨rfl, hb1⟩)
    go_loopw [3] (fun at_ wr => ∃ (k : Nat), at_ = .int .i64 (k : Int) ∧ k ≤ l.length ∧ Hid (Stmt.rightsB nameB 0 (l.take k) = true) ∧ Below w.heap.size w wr) (fun a _ => l.length - (intOf a).toNat)
    case atStart => exact ⟨0, rfl, Nat.zero_le _, Lib.hid (by simp [Stmt.rightsB]), hb1⟩
    case round =>
      obtain ⟨k, rfl, hk, HP, HB⟩ := hrel
      by_cases hlt : k < l.length
      · have hsz := Stmt.nodesL_take l k hlt
        have hne := l[k].nodes_eq
        obtain ⟨b, o, B0, d0, B1, d1, B2, d2, rfl, hbW, g0, g1, g2, g3, g4, g5, e0, e1, e2, hs', r0, r1, r2⟩ := Stmt.at hrd (hB.trans (HB.mono hB.size)) hlt
        have hlt' : ((k : Int) < (l.length : Int)) := by omega
        have hI0 := docMay_calls W _ l[k].kind l[k].name l[k].cell l[k].args l[k].body l[k].els B0 d0 B1 d1 B2 d2 0 (Nat.lt_succ_self _) r0 r1 r2 (by omega) hs' wr (hB.trans (HB.mono hB.size))
        rw [mayX_eq, show ((0 : Nat) : Int) = 0 from rfl] at hI0
        have hI := Lib.hid hI0
        clear hI0
        by_cases hz : (l[k]).rightB nameB 0 = true
        · have HS := Lib.hid (show Stmt.rightsB nameB 0 (l.take (k + 1)) = true by rw [Stmt.rightsB_succ _ _ l k hlt, HP.out, hz]; rfl)
          have HZ := Lib.hid hz
          clear hz
          go_wp2_with (go_at_call 36; go_must (refine hI.out.mono ?_); rintro y w6 ⟨rfl, hb⟩; rw [HZ.out])
          go_roundw
          case rel => exact ⟨k + 1, by go_num, by omega, HS, HB.trans (hb.mono HB.size)⟩
          case measure => simp [intOf]; omega
        · have HZ := Lib.hid (show (l[k]).rightB nameB 0 = false by simpa using hz)
          have HS := Lib.hid (Stmt.rightsB_bad nameB 0 l k hlt HZ.out)
          clear hz
          go_wp2_with (go_at_call 36; go_must (refine hI.out.mono ?_); rintro y w6 ⟨rfl, hb⟩; rw [HZ.out])
          go_ret
          exact ⟨congrArg (fun b => Ending.returned (.bool b)) HS.out.symm, HB.trans (hb.mono HB.size)⟩
      · have hkl : k = l.length := by omega
        have HS := Lib.hid (show Stmt.rightsB nameB 0 l = true by have h1 := HP.out; rwa [hkl, List.take_length] at h1)
        go_wp2
        go_ret
        exact ⟨congrArg (fun b => Ending.returned (.bool b)) HS.out.symm, HB⟩
  · have h6' : ((600 : Int) < (Stmt.nodesL l : Int)) := by omega
    rw [show rightP nameB l = false by simp [rightP]; intro; omega]
    go_enter Try.func17, Try.ntmps17
    go_wp2_with (go_at_call 28; go_must (refine hI.mono ?_); rintro y w1 ⟨rfl, hb1⟩)
    go_ret
    exact ⟨rfl, hb1⟩
end Go.Proofs.Ytjlnpppjkdcpkaa.My
