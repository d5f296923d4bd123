/- Which texts of instructions may be, as the program and as the document tell it. Conditions: the text was there in the world W, which is kept. -/
import Derived.Test.YtnikcdcaaeljmaaIns
namespace Go.Proofs.Ytnikcdcaaeljmaa.My
open Go.RowKit
structure Ins where
  kind : Int
  op : Int
  a : Int
  b : Int
  c : Int
  n : Int
instance : Inhabited Ins := ⟨⟨0, 0, 0, 0, 0, 0⟩⟩
def Ins.cells (x : Ins) : List Value := [.int .i64 x.kind, .int .i64 x.op, .int .i64 x.a, .int .i64 x.b, .int .i64 x.c, .int .i64 x.n]
/-- a row of instructions in memory -/
def insRow (w : World) (l : List Ins) (A : Option Addr) : Prop := ∀ j (hj : j < l.length), ∃ b o, A = some ⟨b, o, none⟩ ∧ ∀ m u, (l[j].cells)[m]? = some u → w.cell? ⟨b, o + j * 6 + m, none⟩ = some u
theorem insRow.at {W w : World} {l : List Ins} {A : Option Addr} (h : insRow W l A) (hB : Below W.heap.size W w) {j : Nat} (hj : j < l.length) : ∃ b o, A = some ⟨b, o, none⟩ ∧
    w.cell? ⟨b, o + j * 6, none⟩ = some (.int .i64 l[j].kind) ∧ w.cell? ⟨b, o + j * 6 + 1, none⟩ = some (.int .i64 l[j].op) ∧ w.cell? ⟨b, o + j * 6 + 2, none⟩ = some (.int .i64 l[j].a) ∧ w.cell? ⟨b, o + j * 6 + 3, none⟩ = some (.int .i64 l[j].b) ∧
    w.cell? ⟨b, o + j * 6 + 4, none⟩ = some (.int .i64 l[j].c) ∧ w.cell? ⟨b, o + j * 6 + 5, none⟩ = some (.int .i64 l[j].n) := by
  obtain ⟨b, o, hA, h⟩ := h j hj
  have hc : ∀ m u, (l[j].cells)[m]? = some u → w.cell? ⟨b, o + j * 6 + m, none⟩ = some u := fun m u hu => (hB.cell (World.block_lt_of_cell? W _ (h m u hu))).trans (h m u hu)
  exact ⟨b, o, hA, hc 0 _ rfl, hc 1 _ rfl, hc 2 _ rfl, hc 3 _ rfl, hc 4 _ rfl, hc 5 _ rfl⟩
/-- the first error, and its place -/
def insChk : List Ins → Int → Int → Nat → Option (Nat × Int)
  | [], _, _, _ => none
  | x :: l, cells, long, i => if insErr x.kind x.op x.a x.b x.c x.n cells long = 0 then insChk l cells long (i + 1) else some (i, insErr x.kind x.op x.a x.b x.c x.n cells long)
def fallsK (k : Int) : Bool := k != 1 && k != 10 && k != 13
def checkP (l : List Ins) (cells : Int) : Int × Int :=
  if l.length = 0 ∨ 600 < l.length then (0, 80) else match insChk l cells l.length 0 with | some r => ((r.1 : Int), r.2) | none => if (l[l.length - 1]?.map fun x => fallsK x.kind).getD false = true then ((l.length : Int) - 1, 85) else (0, 0)
theorem wrap_small (n : Int) (h0 : 0 ≤ n) (h1 : n ≤ 1000000000) : IntKind.i64.wrap n = n := by
  simp [IntKind.wrap, IntKind.signed, IntKind.bits]; omega

theorem insFalls_calls (k op a b c n : Int) (w : World) : Calls Try.prog 54 #[.agg #[.int .i64 k, .int .i64 op, .int .i64 a, .int .i64 b, .int .i64 c, .int .i64 n]] w fun e w' => e = .returned (.bool (fallsK k)) ∧ Below w.heap.size w w' := by
  by_cases h1 : k = 1
  · subst h1
    go_enter Try.func54, Try.ntmps54
    go_wp2
    go_ret
    exact ⟨rfl, (Below.refl _ _).al⟩
  · have h1' : (k == 1) = false := by simp [h1]
    by_cases h2 : k = 10
    · subst h2
      go_enter Try.func54, Try.ntmps54
      go_wp2
      go_ret
      exact ⟨rfl, (Below.refl _ _).al⟩
    · have h2' : (k == 10) = false := by simp [h2]
      by_cases h3 : k = 13
      · subst h3
        go_enter Try.func54, Try.ntmps54
        go_wp2
        go_ret
        exact ⟨rfl, (Below.refl _ _).al⟩
      · have h3' : (k == 13) = false := by simp [h3]
        go_enter Try.func54, Try.ntmps54
        go_wp2
        go_ret
        exact ⟨rfl, (Below.refl _ _).al⟩
theorem refFalls_calls (k op a b c n : Int) (w : World) : Calls Try.prog 56 #[.agg #[.int .i64 k, .int .i64 op, .int .i64 a, .int .i64 b, .int .i64 c, .int .i64 n]] w fun e w' => e = .returned (.bool (fallsK k)) ∧ Below w.heap.size w w' := by
  by_cases h1 : k = 1
  · subst h1
    go_enter Try.func56, Try.ntmps56
    go_wp2
    go_ret
    exact ⟨rfl, (Below.refl _ _).al⟩
  · have h1' : (k == 1) = false := by simp [h1]
    by_cases h2 : k = 10
    · subst h2
      go_enter Try.func56, Try.ntmps56
      go_wp2
      go_ret
      exact ⟨rfl, (Below.refl _ _).al⟩
    · have h2' : (k == 10) = false := by simp [h2]
      by_cases h3 : k = 13
      · subst h3
        go_enter Try.func56, Try.ntmps56
        go_wp2
        go_ret
        exact ⟨rfl, (Below.refl _ _).al⟩
      · have h3' : (k == 13) = false := by simp [h3]
        go_enter Try.func56, Try.ntmps56
        go_wp2
        go_ret
        exact ⟨rfl, (Below.refl _ _).al⟩
set_option maxRecDepth 100000 in
set_option maxHeartbeats 1000000 in
theorem insCheck_calls (W : World) (l : List Ins) (A : Option Addr) (c : Nat) (cells : Int) (hrd : insRow W l A) (hl : l.length ≤ 1000000000) (w : World) (hB : Below W.heap.size W w) :
    Calls Try.prog 36 #[.slice A l.length c, .int .i64 cells] w fun e w' => e = .returned (.tuple #[.int .i64 (checkP l cells).1, .int .i64 (checkP l cells).2]) ∧ Below w.heap.size w w' := by
  by_cases h0 : l.length = 0
  · have HS := Lib.hid (show checkP l cells = (0, 80) by unfold checkP; rw [if_pos (.inl h0)])
    rw [h0]
    go_enter Try.func36, Try.ntmps36
    go_wp2
    go_ret2
    rw [HS.out]
    exact ⟨rfl, Below.refl _ _⟩
  · have h0' : ¬ ((l.length : Int) = 0) := by omega
    by_cases h6 : 600 < l.length
    · have HS := Lib.hid (show checkP l cells = (0, 80) by unfold checkP; rw [if_pos (.inr h6)])
      have h6' : (l.length : Int) > 600 := by omega
      go_enter Try.func36, Try.ntmps36
      go_wp2
      go_ret2
      rw [HS.out]
      exact ⟨rfl, Below.refl _ _⟩
    · have h6' : ¬ ((l.length : Int) > 600) := by omega
      have HP := Lib.hid (show checkP l cells = match insChk l cells l.length 0 with | some r => ((r.1 : Int), r.2) | none => if (l[l.length - 1]?.map fun x => fallsK x.kind).getD false = true then ((l.length : Int) - 1, 85) else (0, 0) by unfold checkP; rw [if_neg (by omega)])
      go_enter Try.func36, Try.ntmps36
      go_wp2
      go_loopw [20] (fun at_ wr => ∃ (k : Nat), at_ = .int .i64 (k : Int) ∧ k ≤ l.length ∧ Hid (insChk l cells l.length 0 = insChk (l.drop k) cells l.length k) ∧ Below w.heap.size w wr) (fun a _ => l.length - (intOf a).toNat)
      case atStart => exact ⟨0, rfl, Nat.zero_le _, Lib.hid rfl, Below.refl _ _⟩
      case round =>
        obtain ⟨k, rfl, hk, HK, HB⟩ := hrel
        by_cases hlt : k < l.length
        · obtain ⟨b, o, rfl, g0, g1, g2, g3, g4, g5⟩ := hrd.at (hB.trans (HB.mono hB.size)) hlt
          have hlt' : ((k : Int) < (l.length : Int)) := by omega
          have hst := HK.out
          rw [List.drop_eq_getElem_cons hlt, insChk] at hst
          obtain ⟨er, her⟩ : ∃ er, insErr l[k].kind l[k].op l[k].a l[k].b l[k].c l[k].n cells l.length = er := ⟨_, rfl⟩
          have hI := fun w1 => insOne_calls l[k].kind l[k].op l[k].a l[k].b l[k].c l[k].n cells l.length w1
          rw [her] at hst
          simp only [her] at hI
          have HI := Lib.hid hI
          clear hI her
          by_cases hz : er = 0
          · have hz' : (er == 0) = true := by simp [hz]
            rw [if_pos hz] at hst
            have HS := Lib.hid hst
            clear hst
            go_wp2_with (go_at_call 53; go_must (refine (HI.out _).mono ?_); rintro x w1 ⟨rfl, hb⟩)
            go_roundw
            case rel => exact ⟨k + 1, by go_num, by omega, HS, HB.trans ((((Below.refl wr.heap.size wr).al).trans (hb.mono (by simp))).mono HB.size)⟩
            case measure => simp [intOf]; omega
          · have hz' : (er == 0) = false := by simp [hz]
            rw [if_neg hz] at hst
            have HS := Lib.hid (show checkP l cells = ((k : Int), er) by rw [HP.out, hst])
            clear hst
            go_wp2_with (go_at_call 53; go_must (refine (HI.out _).mono ?_); rintro x w1 ⟨rfl, hb⟩)
            go_ret2
            rw [HS.out]
            exact ⟨rfl, HB.trans ((((Below.refl wr.heap.size wr).al).trans (hb.mono (by simp))).mono HB.size)⟩
        · have hk' : k = l.length := by omega
          subst hk'
          have hst := HK.out
          rw [List.drop_length, insChk] at hst
          have hp := HP.out
          rw [hst] at hp
          obtain ⟨m, hlm⟩ : ∃ m, l.length = m + 1 := ⟨l.length - 1, by omega⟩
          have e1 : l.length - 1 = m := by omega
          have hlast : m < l.length := by omega
          obtain ⟨b, o, rfl, g0, g1, g2, g3, g4, g5⟩ := hrd.at (hB.trans (HB.mono hB.size)) hlast
          have hsub : ((l.length : Int) - 1) = (m : Int) := by omega
          rw [e1, List.getElem?_eq_getElem hlast, hsub] at hp
          have hwr : IntKind.i64.wrap ((l.length : Int) - 1) = (m : Int) := by rw [hsub]; exact wrap_small _ (by omega) (by omega)
          have hmlt : (m : Int) < (l.length : Int) := by omega
          have hm0 : (0 : Int) ≤ (m : Int) := by omega
          have hnlt : ¬ ((l.length : Int) < (l.length : Int)) := by omega
          clear hst HK HP e1 hlm
          cases hf : fallsK l[m].kind
          · have HS := Lib.hid (hp.trans (if_neg (by simp [hf])))
            clear hp
            go_wp2_with (go_at_call 54; go_must (refine (insFalls_calls _ _ _ _ _ _ _).mono ?_); rintro x w1 ⟨rfl, hb⟩)
            go_ret2
            rw [HS.out]
            exact ⟨rfl, HB.trans (hb.mono HB.size)⟩
          · have HS := Lib.hid (hp.trans (if_pos (by simp [hf])))
            clear hp
            go_wp2_with (go_at_call 54; go_must (refine (insFalls_calls _ _ _ _ _ _ _).mono ?_); rintro x w1 ⟨rfl, hb⟩)
            go_ret2
            rw [HS.out]
            exact ⟨rfl, HB.trans (hb.mono HB.size)⟩

set_option maxRecDepth 100000 in
set_option maxHeartbeats 1000000 in
theorem refCheck_calls (W : World) (l : List Ins) (A : Option Addr) (c : Nat) (cells : Int) (hrd : insRow W l A) (hl : l.length ≤ 1000000000) (w : World) (hB : Below W.heap.size W w) :
    Calls Try.prog 39 #[.slice A l.length c, .int .i64 cells] w fun e w' => e = .returned (.tuple #[.int .i64 (checkP l cells).1, .int .i64 (checkP l cells).2]) ∧ Below w.heap.size w w' := by
  by_cases h0 : l.length = 0
  · have HS := Lib.hid (show checkP l cells = (0, 80) by unfold checkP; rw [if_pos (.inl h0)])
    rw [h0]
    go_enter Try.func39, Try.ntmps39
    go_wp2
    go_ret2
    rw [HS.out]
    exact ⟨rfl, Below.refl _ _⟩
  · have h0' : ¬ ((l.length : Int) = 0) := by omega
    by_cases h6 : 600 < l.length
    · have HS := Lib.hid (show checkP l cells = (0, 80) by unfold checkP; rw [if_pos (.inr h6)])
      have h6' : (l.length : Int) > 600 := by omega
      go_enter Try.func39, Try.ntmps39
      go_wp2
      go_ret2
      rw [HS.out]
      exact ⟨rfl, Below.refl _ _⟩
    · have h6' : ¬ ((l.length : Int) > 600) := by omega
      have HP := Lib.hid (show checkP l cells = match insChk l cells l.length 0 with | some r => ((r.1 : Int), r.2) | none => if (l[l.length - 1]?.map fun x => fallsK x.kind).getD false = true then ((l.length : Int) - 1, 85) else (0, 0) by unfold checkP; rw [if_neg (by omega)])
      go_enter Try.func39, Try.ntmps39
      go_wp2
      go_loopw [6] (fun at_ wr => ∃ (k : Nat), at_ = .int .i64 (k : Int) ∧ k ≤ l.length ∧ Hid (insChk l cells l.length 0 = insChk (l.drop k) cells l.length k) ∧ Below w.heap.size w wr) (fun a _ => l.length - (intOf a).toNat)
      case atStart => exact ⟨0, rfl, Nat.zero_le _, Lib.hid rfl, Below.refl _ _⟩
      case round =>
        obtain ⟨k, rfl, hk, HK, HB⟩ := hrel
        by_cases hlt : k < l.length
        · obtain ⟨b, o, rfl, g0, g1, g2, g3, g4, g5⟩ := hrd.at (hB.trans (HB.mono hB.size)) hlt
          have hlt' : ((k : Int) < (l.length : Int)) := by omega
          have hst := HK.out
          rw [List.drop_eq_getElem_cons hlt, insChk] at hst
          obtain ⟨er, her⟩ : ∃ er, insErr l[k].kind l[k].op l[k].a l[k].b l[k].c l[k].n cells l.length = er := ⟨_, rfl⟩
          have hI := fun w1 => refOne_calls l[k].kind l[k].op l[k].a l[k].b l[k].c l[k].n cells l.length w1
          rw [her] at hst
          simp only [her] at hI
          have HI := Lib.hid hI
          clear hI her
          by_cases hz : er = 0
          · have hz' : (er == 0) = true := by simp [hz]
            rw [if_pos hz] at hst
            have HS := Lib.hid hst
            clear hst
            go_wp2_with (go_at_call 55; go_must (refine (HI.out _).mono ?_); rintro x w1 ⟨rfl, hb⟩)
            go_roundw
            case rel => exact ⟨k + 1, by go_num, by omega, HS, HB.trans (hb.mono HB.size)⟩
            case measure => simp [intOf]; omega
          · have hz' : (er == 0) = false := by simp [hz]
            rw [if_neg hz] at hst
            have HS := Lib.hid (show checkP l cells = ((k : Int), er) by rw [HP.out, hst])
            clear hst
            go_wp2_with (go_at_call 55; go_must (refine (HI.out _).mono ?_); rintro x w1 ⟨rfl, hb⟩)
            go_ret2
            rw [HS.out]
            exact ⟨rfl, HB.trans (hb.mono HB.size)⟩
        · have hk' : k = l.length := by omega
          subst hk'
          have hst := HK.out
          rw [List.drop_length, insChk] at hst
          have hp := HP.out
          rw [hst] at hp
          obtain ⟨m, hlm⟩ : ∃ m, l.length = m + 1 := ⟨l.length - 1, by omega⟩
          have e1 : l.length - 1 = m := by omega
          have hlast : m < l.length := by omega
          obtain ⟨b, o, rfl, g0, g1, g2, g3, g4, g5⟩ := hrd.at (hB.trans (HB.mono hB.size)) hlast
          have hsub : ((l.length : Int) - 1) = (m : Int) := by omega
          rw [e1, List.getElem?_eq_getElem hlast, hsub] at hp
          have hwr : IntKind.i64.wrap ((l.length : Int) - 1) = (m : Int) := by rw [hsub]; exact wrap_small _ (by omega) (by omega)
          have hmlt : (m : Int) < (l.length : Int) := by omega
          have hm0 : (0 : Int) ≤ (m : Int) := by omega
          have hnlt : ¬ ((l.length : Int) < (l.length : Int)) := by omega
          clear hst HK HP e1 hlm
          cases hf : fallsK l[m].kind
          · have HS := Lib.hid (hp.trans (if_neg (by simp [hf])))
            clear hp
            go_wp2_with (go_at_call 56; go_must (refine (refFalls_calls _ _ _ _ _ _ _).mono ?_); rintro x w1 ⟨rfl, hb⟩)
            go_ret2
            rw [HS.out]
            exact ⟨rfl, HB.trans (hb.mono HB.size)⟩
          · have HS := Lib.hid (hp.trans (if_pos (by simp [hf])))
            clear hp
            go_wp2_with (go_at_call 56; go_must (refine (refFalls_calls _ _ _ _ _ _ _).mono ?_); rintro x w1 ⟨rfl, hb⟩)
            go_ret2
            rw [HS.out]
            exact ⟨rfl, HB.trans (hb.mono HB.size)⟩

end Go.Proofs.Ytnikcdcaaeljmaa.My
