/- Which texts of instructions may be, as the program tells it. Conditions: the text was there in the world W, which is kept. -/
import Derived.Test.YtjlnpppjkdcpkaaGfInsA
import Derived.Test.YtjlnpppjkdcpkaaGfInsB
import Derived.Test.YtjlnpppjkdcpkaaGfInsT
namespace Go.Proofs.Ytjlnpppjkdcpkaa.My
open Go.RowKit
theorem insOne_calls (k op a b c n cells long : Int) (w : World) : Calls Try.prog 39 #[.agg #[.int .i64 k, .int .i64 op, .int .i64 a, .int .i64 b, .int .i64 c, .int .i64 n], .int .i64 cells, .int .i64 long] w fun e w' => e = .returned (.int .i64 (insErr k op a b c n cells long)) ∧ Below w.heap.size w w' := by
  by_cases hk : k < 1 ∨ 13 < k
  · have h : insErr k op a b c n cells long = 81 := by
      unfold insErr
      rw [if_neg (by omega), if_neg (by omega), if_neg (by omega), if_neg (by omega), if_neg (by omega), if_neg (by omega), if_neg (by omega), if_neg (by omega), if_neg (by omega), if_neg (by omega), if_neg (by omega), if_neg (by omega), if_neg (by omega)]
    rw [h]
    exact insOne_0 k op a b c n cells long hk w
  · have hk' : k = 1 ∨ k = 2 ∨ k = 3 ∨ k = 4 ∨ k = 5 ∨ k = 6 ∨ k = 7 ∨ k = 8 ∨ k = 9 ∨ k = 10 ∨ k = 11 ∨ k = 12 ∨ k = 13 := by omega
    rcases hk' with rfl | rfl | rfl | rfl | rfl | rfl | rfl | rfl | rfl | rfl | rfl | rfl | rfl
    · exact insOne_1 op a b c n cells long w
    · exact insOne_2 op a b c n cells long w
    · exact insOne_3 op a b c n cells long w
    · exact insOne_4 op a b c n cells long w
    · exact insOne_5 op a b c n cells long w
    · exact insOne_6 op a b c n cells long w
    · exact insOne_7 op a b c n cells long w
    · exact insOne_8 op a b c n cells long w
    · exact insOne_9 op a b c n cells long w
    · exact insOne_10 op a b c n cells long w
    · exact insOne_11 op a b c n cells long w
    · exact insOne_12 op a b c n cells long w
    · exact insOne_13 op a b c n cells long w
/-- the first error, and its place -/
def insChk : List Ins → Int → Int → Nat → Option (Nat × Int)
  | [], _, _, _ => none
  | x :: l, cells, long, i => if insErr x.kind x.op x.a x.b x.c x.n cells long = 0 then insChk l cells long (i + 1) else some (i, insErr x.kind x.op x.a x.b x.c x.n cells long)
def fallsK (k : Int) : Bool := k != 1 && k != 10 && k != 13
def checkP (l : List Ins) (cells : Int) : Int × Int :=
  if l.length = 0 ∨ 600 < l.length then (0, 80) else match insChk l cells l.length 0 with | some r => ((r.1 : Int), r.2) | none => if (l[l.length - 1]?.map fun x => fallsK x.kind).getD false = true then ((l.length : Int) - 1, 85) else (0, 0)
theorem wrap_small (n : Int) (h0 : 0 ≤ n) (h1 : n ≤ 1000000000) : IntKind.i64.wrap n = n := by
  simp [IntKind.wrap, IntKind.signed, IntKind.bits]; omega

theorem insFalls_calls (k op a b c n : Int) (w : World) : Calls Try.prog 40 #[.agg #[.int .i64 k, .int .i64 op, .int .i64 a, .int .i64 b, .int .i64 c, .int .i64 n]] w fun e w' => e = .returned (.bool (fallsK k)) ∧ Below w.heap.size w w' := by
  by_cases h1 : k = 1
  · subst h1
    go_enter Try.func40, Try.ntmps40
    go_wp2
    go_ret
    exact ⟨rfl, (Below.refl _ _).al⟩
  · have h1' : (k == 1) = false := by simp [h1]
    by_cases h2 : k = 10
    · subst h2
      go_enter Try.func40, Try.ntmps40
      go_wp2
      go_ret
      exact ⟨rfl, (Below.refl _ _).al⟩
    · have h2' : (k == 10) = false := by simp [h2]
      by_cases h3 : k = 13
      · subst h3
        go_enter Try.func40, Try.ntmps40
        go_wp2
        go_ret
        exact ⟨rfl, (Below.refl _ _).al⟩
      · have h3' : (k == 13) = false := by simp [h3]
        go_enter Try.func40, Try.ntmps40
        go_wp2
        go_ret
        exact ⟨rfl, (Below.refl _ _).al⟩
set_option maxRecDepth 100000 in
set_option maxHeartbeats 1000000 in
theorem insCheck_calls (W : World) (l : List Ins) (A : Option Addr) (c : Nat) (cells : Int) (hrd : insRow W l A) (hl : l.length ≤ 1000000000) (w : World) (hB : Below W.heap.size W w) :
    Calls Try.prog 19 #[.slice A l.length c, .int .i64 cells] w fun e w' => e = .returned (.tuple #[.int .i64 (checkP l cells).1, .int .i64 (checkP l cells).2]) ∧ Below w.heap.size w w' := by
  by_cases h0 : l.length = 0
  · have HS := Lib.hid (show checkP l cells = (0, 80) by unfold checkP; rw [if_pos (.inl h0)])
    rw [h0]
    go_enter Try.func19, Try.ntmps19
    go_wp2
    go_ret2
    rw [HS.out]
    exact ⟨rfl, Below.refl _ _⟩
  · have h0' : ¬ ((l.length : Int) = 0) := by omega
    by_cases h6 : 600 < l.length
    · have HS := Lib.hid (show checkP l cells = (0, 80) by unfold checkP; rw [if_pos (.inr h6)])
      have h6' : (l.length : Int) > 600 := by omega
      go_enter Try.func19, Try.ntmps19
      go_wp2
      go_ret2
      rw [HS.out]
      exact ⟨rfl, Below.refl _ _⟩
    · have h6' : ¬ ((l.length : Int) > 600) := by omega
      have HP := Lib.hid (show checkP l cells = match insChk l cells l.length 0 with | some r => ((r.1 : Int), r.2) | none => if (l[l.length - 1]?.map fun x => fallsK x.kind).getD false = true then ((l.length : Int) - 1, 85) else (0, 0) by unfold checkP; rw [if_neg (by omega)])
      go_enter Try.func19, Try.ntmps19
      go_wp2
      go_loopw [20] (fun at_ wr => ∃ (k : Nat), at_ = .int .i64 (k : Int) ∧ k ≤ l.length ∧ Hid (insChk l cells l.length 0 = insChk (l.drop k) cells l.length k) ∧ Below w.heap.size w wr) (fun a _ => l.length - (intOf a).toNat)
      case atStart => exact ⟨0, rfl, Nat.zero_le _, Lib.hid rfl, Below.refl _ _⟩
      case round =>
        obtain ⟨k, rfl, hk, HK, HB⟩ := hrel
        by_cases hlt : k < l.length
        · obtain ⟨b, o, rfl, g0, g1, g2, g3, g4, g5⟩ := hrd.at (hB.trans (HB.mono hB.size)) hlt
          have hlt' : ((k : Int) < (l.length : Int)) := by omega
          have hst := HK.out
          rw [List.drop_eq_getElem_cons hlt, insChk] at hst
          obtain ⟨er, her⟩ : ∃ er, insErr l[k].kind l[k].op l[k].a l[k].b l[k].c l[k].n cells l.length = er := ⟨_, rfl⟩
          have hI := fun w1 => insOne_calls l[k].kind l[k].op l[k].a l[k].b l[k].c l[k].n cells l.length w1
          rw [her] at hst
          simp only [her] at hI
          have HI := Lib.hid hI
          clear hI her
          by_cases hz : er = 0
          · have hz' : (er == 0) = true := by simp [hz]
            rw [if_pos hz] at hst
            have HS := Lib.hid hst
            clear hst
            go_wp2_with (go_at_call 39; go_must (refine (HI.out _).mono ?_); rintro x w1 ⟨rfl, hb⟩)
            go_roundw
            case rel => exact ⟨k + 1, by go_num, by omega, HS, HB.trans ((((Below.refl wr.heap.size wr).al).trans (hb.mono (by simp))).mono HB.size)⟩
            case measure => simp [intOf]; omega
          · have hz' : (er == 0) = false := by simp [hz]
            rw [if_neg hz] at hst
            have HS := Lib.hid (show checkP l cells = ((k : Int), er) by rw [HP.out, hst])
            clear hst
            go_wp2_with (go_at_call 39; go_must (refine (HI.out _).mono ?_); rintro x w1 ⟨rfl, hb⟩)
            go_ret2
            rw [HS.out]
            exact ⟨rfl, HB.trans ((((Below.refl wr.heap.size wr).al).trans (hb.mono (by simp))).mono HB.size)⟩
        · have hk' : k = l.length := by omega
          subst hk'
          have hst := HK.out
          rw [List.drop_length, insChk] at hst
          have hp := HP.out
          rw [hst] at hp
          obtain ⟨m, hlm⟩ : ∃ m, l.length = m + 1 := ⟨l.length - 1, by omega⟩
          have e1 : l.length - 1 = m := by omega
          have hlast : m < l.length := by omega
          obtain ⟨b, o, rfl, g0, g1, g2, g3, g4, g5⟩ := hrd.at (hB.trans (HB.mono hB.size)) hlast
          have hsub : ((l.length : Int) - 1) = (m : Int) := by omega
          rw [e1, List.getElem?_eq_getElem hlast, hsub] at hp
          have hwr : IntKind.i64.wrap ((l.length : Int) - 1) = (m : Int) := by rw [hsub]; exact wrap_small _ (by omega) (by omega)
          have hmlt : (m : Int) < (l.length : Int) := by omega
          have hm0 : (0 : Int) ≤ (m : Int) := by omega
          have hnlt : ¬ ((l.length : Int) < (l.length : Int)) := by omega
          clear hst HK HP e1 hlm
          cases hf : fallsK l[m].kind
          · have HS := Lib.hid (hp.trans (if_neg (by simp [hf])))
            clear hp
            go_wp2_with (go_at_call 40; go_must (refine (insFalls_calls _ _ _ _ _ _ _).mono ?_); rintro x w1 ⟨rfl, hb⟩)
            go_ret2
            rw [HS.out]
            exact ⟨rfl, HB.trans (hb.mono HB.size)⟩
          · have HS := Lib.hid (hp.trans (if_pos (by simp [hf])))
            clear hp
            go_wp2_with (go_at_call 40; go_must (refine (insFalls_calls _ _ _ _ _ _ _).mono ?_); rintro x w1 ⟨rfl, hb⟩)
            go_ret2
            rw [HS.out]
            exact ⟨rfl, HB.trans (hb.mono HB.size)⟩

end Go.Proofs.Ytjlnpppjkdcpkaa.My
