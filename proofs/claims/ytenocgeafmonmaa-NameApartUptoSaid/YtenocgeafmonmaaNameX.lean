/- Layer 7: the four laws of names: each is true. Conditions: the tree is there in the world w; it has at most 10^9 nodes. -/
import Derived.Test.YtenocgeafmonmaaNameA
import Derived.Test.YtenocgeafmonmaaNameL
namespace Go.Proofs.Ytenocgeafmonmaa.My
open Go.RowKit Go.Maps
theorem most_code (l : List Stmt) (cells : Int) : (mostP l cells).2 = (slotsP l cells).2 := by
  unfold mostP slotsP; split <;> rfl
theorem row_same (xs : List Int) (va vb : Value) (w : World) (hl : xs.length ≤ 1000000000) (ha : Row w 3 1 va xs.length (xs.map (.int .i64))) (hb : Row w 3 1 vb xs.length (xs.map (.int .i64))) :
    Calls Try.prog 21 #[va, vb] w fun e w' => e = .returned (.bool true) ∧ Below w.heap.size w w' := by
  have h := row6_calls xs xs va vb w hl ha hb
  simpa using h
theorem Row.below {w w' : World} {e : TypeId} {size n : Nat} {v : Value} {xs : List Value} (h : Row w e size v n xs) (hB : Below w.heap.size w w') : Row w' e size v n xs := h.keep fun g hg => hB.block g (h.lt hg)
theorem slotsP_len (l : List Stmt) (cells : Int) : (slotsP l cells).1.length ≤ Stmt.nodesL l := by
  have h := stmtsS_len ⟨[], [], 0, cells⟩ l
  unfold slotsP; split
  · simpa using h
  · simp
def TrueB (w : World) (e : Ending) (w' : World) : Prop := e = .returned (.bool true) ∧ Below w.heap.size w w'
set_option maxRecDepth 100000 in
set_option maxHeartbeats 1000000 in
theorem nameSlots_calls (l : List Stmt) (A : Option Addr) (c : Nat) (cells : Int) (w : World) (hrd : Stmt.rds w l A 0) (hl : Stmt.nodesL l ≤ 1000000000) :
    Calls Try.prog 3 #[.slice A l.length c, .int .i64 cells] w (TrueB w) := by
  have cG := Lib.hid (great_calls w l A c hrd hl)
  have cR := Lib.hid (right_calls w l A c hrd hl)
  have cS := Lib.hid (slots_calls w l A c cells hrd hl)
  have cM := Lib.hid (most_calls w l A c cells hrd hl)
  have cT := Lib.hid (rslots_calls w l A c cells hrd hl)
  have hlen := slotsP_len l cells
  rw [most_code] at cM
  obtain ⟨xs, hxs⟩ : ∃ xs, (slotsP l cells).1 = xs := ⟨_, rfl⟩
  obtain ⟨e0, he0⟩ : ∃ e0, (slotsP l cells).2 = e0 := ⟨_, rfl⟩
  obtain ⟨m0, hm0⟩ : ∃ m0, (mostP l cells).1 = m0 := ⟨_, rfl⟩
  rw [hxs, he0] at cS cT
  rw [hm0, he0] at cM
  rw [hm0] at cT
  rw [hxs] at hlen
  have hlx : xs.length ≤ 1000000000 := by omega
  clear hxs he0 hm0 hlen
  go_enter Try.func3, Try.ntmps3
  go_wp2_with (first
    | (go_at_call 17; go_must (refine (alive_calls _).mono ?_); rintro x wa ⟨rfl, hba⟩)
    | (go_at_call 21; go_must (refine (row_same xs _ _ _ hlx ((r3.below hb4).below hb5) r5).mono ?_); rintro x w6 ⟨rfl, hb6⟩; have hB6 := hB5.trans (hb6.mono hB5.size))
    | (go_at_call 20; go_must (refine (cT.out _ hB4).mono ?_); rintro x w5 ⟨v5, rfl, r5, hb5⟩; have hB5 := hB4.trans (hb5.mono hB4.size))
    | (go_at_call 19; go_must (refine (cM.out _ hB3).mono ?_); rintro x w4 ⟨rfl, hb4⟩; have hB4 := hB3.trans (hb4.mono hB3.size))
    | (go_at_call 18; go_must (refine (cS.out _ hB2).mono ?_); rintro x w3 ⟨v3, rfl, r3, hb3⟩; have hB3 := hB2.trans (hb3.mono hB2.size))
    | (go_at_call 16; go_must (refine (cR.out _ hB1).mono ?_); rintro x w2 ⟨b2, rfl, hb2⟩; have hB2 := hB1.trans (hb2.mono hB1.size))
    | (go_at_call 15; go_must (refine (cG.out _ (Below.refl _ _)).mono ?_); rintro x w1 ⟨b1, rfl, hB1⟩))
  all_goals
    go_ret
    first
      | exact ⟨rfl, hB6.trans (hba.mono hB6.size)⟩
      | exact ⟨rfl, hB2.trans (hba.mono hB2.size)⟩
      | exact ⟨rfl, hB1.trans (hba.mono hB1.size)⟩
end Go.Proofs.Ytenocgeafmonmaa.My
