/- Layer 7: the law NameBegins is true. Conditions: the tree is there in the world w; it has at most 10^8 nodes. -/
import Derived.Test.YtenocgeafmonmaaNameX
import Derived.Test.YtenocgeafmonmaaNameP
namespace Go.Proofs.Ytenocgeafmonmaa.My
open Go.RowKit Go.Maps
theorem Stmt.rds_take {w : World} : ∀ {l : List Stmt} {A : Option Addr} {i : Nat} (k : Nat), Stmt.rds w l A i → Stmt.rds w (l.take k) A i
  | [], _, _, k, _ => by simp [Stmt.rds]
  | s :: l, A, i, 0, _ => by simp [Stmt.rds]
  | s :: l, A, i, k + 1, h => by
    rw [List.take_succ_cons]
    simp only [Stmt.rds] at h ⊢
    exact ⟨h.1, Stmt.rds_take k h.2⟩
theorem Stmt.nodesL_take_le : ∀ (l : List Stmt) (k : Nat), Stmt.nodesL (l.take k) ≤ Stmt.nodesL l
  | [], k => by simp
  | s :: l, 0 => by simp [Stmt.nodesL]
  | s :: l, k + 1 => by
    rw [List.take_succ_cons]
    simp only [Stmt.nodesL]
    have := Stmt.nodesL_take_le l k
    omega
/-- s[:m] -/
theorem Row.cutTo {w : World} {e : TypeId} {size n m : Nat} {A : Option Addr} {c : Nat} {xs : List Value} (h : Row w e size (.slice A n c) n xs) (hm : m ≤ n) : Row w e size (.slice A m c) m (xs.take (m * size)) := by
  rcases h.2 with ⟨h2, rfl⟩ | ⟨g, cap, cur, h2, hg, h3, h4, h5, h6⟩
  · have hm0 : m = 0 := by omega
    subst hm0
    injection h2 with h2 _ h3; subst h2; subst h3
    exact ⟨by simp, .inl ⟨rfl, rfl⟩⟩
  · injection h2 with h2 _ h7; subst h2; subst h7
    have hle : m * size ≤ n * size := Nat.mul_le_mul_right _ hm
    exact ⟨by rw [List.length_take, h.1]; omega, .inr ⟨g, c, cur, rfl, hg, by omega, h4, h5, by rw [← h6, List.take_take, Nat.min_eq_left hle]⟩⟩
/-- where the first statements end -/
theorem many_at (many : Int) (n : Nat) (hn : n ≤ 100000000) : ∃ k : Nat, (wrap64 (wrap64 (many.tmod ((n : Int) + 1) + (n : Int)) + 1)).tmod ((n : Int) + 1) = (k : Int) ∧ k ≤ n := by
  obtain ⟨t, ht⟩ : ∃ t, many.tmod ((n : Int) + 1) = t := ⟨_, rfl⟩
  have h1 : t < (n : Int) + 1 := ht ▸ Int.tmod_lt_of_pos many (by omega)
  have h2 : -((n : Int) + 1) < t := by
    have h := Int.natAbs_tmod many ((n : Int) + 1)
    rw [ht] at h
    have h3 : many.natAbs % ((n : Int) + 1).natAbs < ((n : Int) + 1).natAbs := Nat.mod_lt _ (by omega)
    omega
  rw [ht]
  have e1 : wrap64 (t + (n : Int)) = t + n := by unfold wrap64; omega
  have e2 : wrap64 (t + (n : Int) + 1) = t + n + 1 := by unfold wrap64; omega
  rw [e1, e2]
  have h0 : 0 ≤ t + (n : Int) + 1 := by omega
  have h4 : (t + (n : Int) + 1).tmod ((n : Int) + 1) < (n : Int) + 1 := Int.tmod_lt_of_pos _ (by omega)
  have h5 : 0 ≤ (t + (n : Int) + 1).tmod ((n : Int) + 1) := Int.tmod_nonneg _ h0
  exact ⟨((t + (n : Int) + 1).tmod ((n : Int) + 1)).toNat, by omega, by omega⟩
set_option maxRecDepth 100000 in
set_option maxHeartbeats 1000000 in
theorem nameBegins_calls (l : List Stmt) (A : Option Addr) (c : Nat) (cells many : Int) (w : World) (hrd : Stmt.rds w l A 0) (hl : Stmt.nodesL l ≤ 100000000) (hlc : l.length ≤ c) :
    Calls Try.prog 4 #[.slice A l.length c, .int .i64 cells, .int .i64 many] w (TrueB w) := by
  have cG := Lib.hid (great_calls w l A c hrd (by omega))
  have cR := Lib.hid (right_calls w l A c hrd (by omega))
  have cS := Lib.hid (slots_calls w l A c cells hrd (by omega))
  have hal := Stmt.nodesL_len l
  obtain ⟨k, hk, hkl⟩ := many_at many l.length (by omega)
  have hkn := Stmt.nodesL_take_le l k
  have hkl' : (l.take k).length = k := by simp; omega
  have cK := slots_calls w (l.take k) A k cells (Stmt.rds_take k hrd) (by omega)
  rw [hkl'] at cK
  have cK := Lib.hid cK
  have hp := begins_plain l k cells
  have hlen := slotsP_len l cells
  have hlenk := slotsP_len (l.take k) cells
  obtain ⟨⟨xb, eb⟩, hxb⟩ : ∃ r, slotsP l cells = r := ⟨_, rfl⟩
  obtain ⟨⟨xa, ea⟩, hxa⟩ : ∃ r, slotsP (l.take k) cells = r := ⟨_, rfl⟩
  rw [hxb] at cS hp hlen
  rw [hxa] at cK hp hlenk
  have hlx : xa.length ≤ 1000000000 := by have : xa.length ≤ _ := hlenk; omega
  dsimp only at hp hlen
  have hkc : ((k : Nat) : Int) ≤ (c : Int) := by omega
  have hlb : l.length ≤ 100000000 := by omega
  clear hxb hxa hlenk hkl' hkn hrd hl hal
  by_cases hz : eb = 0
  · subst hz
    obtain ⟨hea, hpre⟩ := hp.2 rfl
    subst hea
    have hle : xa.length ≤ xb.length := hpre.length_le
    have hle' : ((xa.length : Nat) : Int) ≤ (xb.length : Int) := by omega
    have HRC := Lib.hid (fun (w' : World) (B : Option Addr) (cb : Nat) (h : Row w' 3 1 (.slice B xb.length cb) xb.length (xb.map (.int .i64))) => show Row w' 3 1 (.slice B xa.length cb) xa.length (xa.map (.int .i64)) by
      have h1 := h.cutTo hle
      rw [Nat.mul_one, ← List.map_take, ← List.prefix_iff_eq_take.1 hpre] at h1
      exact h1)
    clear hp hpre hle
    go_enter Try.func4, Try.ntmps4
    go_wp2_with (first
      | (go_at_call 17; go_must (refine (alive_calls _).mono ?_); rintro x wa ⟨rfl, hba⟩)
      | (go_at_call 21; go_must (refine (row_same xa _ _ _ hlx (r3.below hb4) (HRC.out _ _ _ r4)).mono ?_); rintro x w6 ⟨rfl, hb6⟩; have hB6 := hB4.trans (hb6.mono hB4.size))
      | (go_at_call 18; have _h := hB3; go_must (refine (cS.out _ hB3).mono ?_); rintro x w4 ⟨v4, rfl, r4, hb4⟩; have hB4 := hB3.trans (hb4.mono hB3.size); go_must (obtain ⟨B4, c4, hv4, hl4⟩ := r4.slice); go_must (subst hv4); go_must (obtain ⟨A3, c3, hv3, hl3⟩ := r3.slice); go_must (subst hv3); go_must (have hle4 : ((xa.length : Nat) : Int) ≤ (c4 : Int) := (by omega)))
      | (go_at_call 18; go_must (refine (cK.out _ hB2).mono ?_); rintro x w3 ⟨v3, rfl, r3, hb3⟩; have hB3 := hB2.trans (hb3.mono hB2.size))
      | (go_at_call 16; go_must (refine (cR.out _ hB1).mono ?_); rintro x w2 ⟨b2, rfl, hb2⟩; have hB2 := hB1.trans (hb2.mono hB1.size))
      | (go_at_call 15; go_must (refine (cG.out _ (Below.refl _ _)).mono ?_); rintro x w1 ⟨b1, rfl, hB1⟩))
    all_goals
      go_ret
      first
        | exact ⟨rfl, hB6.trans (hba.mono hB6.size)⟩
        | exact ⟨rfl, hB4.trans (hba.mono hB4.size)⟩
        | exact ⟨rfl, hB2.trans (hba.mono hB2.size)⟩
        | exact ⟨rfl, hB1.trans (hba.mono hB1.size)⟩
  · have hz' : (eb == 0) = false := by simp [hz]
    rcases hp.1 hz with hea | hea
    · subst hea
      clear hp
      go_enter Try.func4, Try.ntmps4
      go_wp2_with (first
        | (go_at_call 17; go_must (refine (alive_calls _).mono ?_); rintro x wa ⟨rfl, hba⟩)
        | (go_at_call 18; have _h := hB3; go_must (refine (cS.out _ hB3).mono ?_); rintro x w4 ⟨v4, rfl, r4, hb4⟩; have hB4 := hB3.trans (hb4.mono hB3.size))
        | (go_at_call 18; go_must (refine (cK.out _ hB2).mono ?_); rintro x w3 ⟨v3, rfl, r3, hb3⟩; have hB3 := hB2.trans (hb3.mono hB2.size))
        | (go_at_call 16; go_must (refine (cR.out _ hB1).mono ?_); rintro x w2 ⟨b2, rfl, hb2⟩; have hB2 := hB1.trans (hb2.mono hB1.size))
        | (go_at_call 15; go_must (refine (cG.out _ (Below.refl _ _)).mono ?_); rintro x w1 ⟨b1, rfl, hB1⟩))
      all_goals
        go_ret
        first
          | exact ⟨rfl, hB6.trans (hba.mono hB6.size)⟩
          | exact ⟨rfl, hB4.trans (hba.mono hB4.size)⟩
          | exact ⟨rfl, hB2.trans (hba.mono hB2.size)⟩
          | exact ⟨rfl, hB1.trans (hba.mono hB1.size)⟩
    · subst hea
      clear hp
      go_enter Try.func4, Try.ntmps4
      go_wp2_with (first
        | (go_at_call 17; go_must (refine (alive_calls _).mono ?_); rintro x wa ⟨rfl, hba⟩)
        | (go_at_call 18; have _h := hB3; go_must (refine (cS.out _ hB3).mono ?_); rintro x w4 ⟨v4, rfl, r4, hb4⟩; have hB4 := hB3.trans (hb4.mono hB3.size))
        | (go_at_call 18; go_must (refine (cK.out _ hB2).mono ?_); rintro x w3 ⟨v3, rfl, r3, hb3⟩; have hB3 := hB2.trans (hb3.mono hB2.size))
        | (go_at_call 16; go_must (refine (cR.out _ hB1).mono ?_); rintro x w2 ⟨b2, rfl, hb2⟩; have hB2 := hB1.trans (hb2.mono hB1.size))
        | (go_at_call 15; go_must (refine (cG.out _ (Below.refl _ _)).mono ?_); rintro x w1 ⟨b1, rfl, hB1⟩))
      all_goals
        go_ret
        first
          | exact ⟨rfl, hB6.trans (hba.mono hB6.size)⟩
          | exact ⟨rfl, hB4.trans (hba.mono hB4.size)⟩
          | exact ⟨rfl, hB2.trans (hba.mono hB2.size)⟩
          | exact ⟨rfl, hB1.trans (hba.mono hB1.size)⟩
end Go.Proofs.Ytenocgeafmonmaa.My
