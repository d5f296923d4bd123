/- The document's Moved walked: instructions with their targets so much further, wrapping round. Conditions: the row lies in memory. -/
import Derived.Test.YtjlnpppjkdcpkaaGmGnRg
import Derived.Test.YtjlnpppjkdcpkaaGmGnT
namespace Go.Proofs.Ytjlnpppjkdcpkaa.My
open Go.RowKit Go.Proofs.Ytjlnpppjkdcpkaa.NumA
set_option linter.unusedVariables false
set_option linter.unusedSimpArgs false
set_option maxRecDepth 100000 in
set_option maxHeartbeats 2000000 in
theorem movedw_calls (w : World) (l : List Ins) (V : Value) (d : Nat) (hrow : Row w 42 6 V l.length (insCells l)) (hl : l.length ≤ 1000000) :
    Calls Try.prog 18 #[V, .int .i64 (d : Int)] w fun E w' => Below w.heap.size w w' ∧ ∃ V', E = .returned V' ∧ Row w' 42 6 V' l.length (insCells (l.map (mvw d))) ∧ ∀ g, V'.ownBlock = some g → w.heap.size ≤ g := by
  obtain ⟨A, c, rfl, _⟩ := hrow.slice
  have HR := Lib.hid hrow
  clear hrow
  go_enter Try.func18, Try.ntmps18
  go_wp2
  go_loopw [5, 6] (fun o i wr => ∃ k : Nat, i = .int .i64 (k : Int) ∧ k ≤ l.length ∧ Hid (Below w.heap.size w wr) ∧ Hid (Row wr 42 6 o k (insCells ((l.take k).map (mvw d)))) ∧ Hid (∀ g, o.ownBlock = some g → w.heap.size ≤ g)) (fun _ i _ => l.length - (intOf i).toNat)
  case atStart => exact ⟨0, rfl, Nat.zero_le _, Lib.hid (Below.refl _ _), Lib.hid (Row.nil _ _ _), Lib.hid fun g hg => by simp [Value.ownBlock] at hg⟩
  case round =>
    rename_i o _
    obtain ⟨k, rfl, hk, HB, HO, HW⟩ := hrel
    obtain ⟨AX, cX, hX, _⟩ := HO.out.slice
    subst hX
    by_cases hlt : k < l.length
    · have hlt' : (k : Int) < (l.length : Int) := by omega
      have hk0 : (0 : Int) ≤ (k : Int) := by omega
      obtain ⟨g, e, x0, x1, x2, x3, x4, x5⟩ := ins_at (HR.out.below HB.out) hlt
      subst e
      have htk : (l.take (k + 1)).map (mvw d) = (l.take k).map (mvw d) ++ [mvw d l[k]] := by rw [← List.take_append_getElem hlt, List.map_append]; rfl
      have HTK := Lib.hid htk
      clear htk
      obtain ⟨x, hx⟩ : ∃ x, l[k] = x := ⟨_, rfl⟩
      rw [hx] at x0 x1 x2 x3 x4 x5
      have HX := Lib.hid hx
      clear hx
      obtain ⟨v0, v1, v2, v3, v4, v5⟩ := x
      simp only at x0 x1 x2 x3 x4 x5
      go_wp2_with fail
      refine (partsJ_calls v0 _).mono ?_
      rintro y w1 ⟨rfl, hb1⟩
      have hz1 := hb1.size
      rw [size_al] at hz1
      have hy := below_blk hb1 (blk_new wr (.cells #[.int .i64 v0, .int .i64 v1, .int .i64 v2, .int .i64 v3, .int .i64 v4, .int .i64 v5] 42)) (blk_lt (blk_new wr (.cells #[.int .i64 v0, .int .i64 v1, .int .i64 v2, .int .i64 v3, .int .i64 v4, .int .i64 v5] 42)))
      have HZ1 := Lib.hid hz1
      have HB1 := Lib.hid (HB.out.trans (((Below.refl wr.heap.size wr).al.trans (hb1.mono (by simp))).mono HB.out.size))
      have HY := Lib.hid hy
      have HO1 := Lib.hid ((HO.out.alloc (.cells #[.int .i64 v0, .int .i64 v1, .int .i64 v2, .int .i64 v3, .int .i64 v4, .int .i64 v5] 42)).below hb1)
      have HOL := Lib.hid (show ∀ q, (Value.slice AX k cX).ownBlock = some q → q < wr.heap.size from fun q hq => HO.out.lt hq)
      clear x0 x1 x2 x3 x4 x5 hb1 hz1
      have x0 := blk_cell hy 0
      have x1 := blk_cell hy 1
      have x2 := blk_cell hy 2
      have x3 := blk_cell hy 3
      have x4 := blk_cell hy 4
      have x5 := blk_cell hy 5
      have p5 := blk_free hy 5
      clear hy
      go_wp2_with fail
      refine (hasJ_calls (partsOf v0) 116 (partsOf_size v0) _).mono ?_
      rintro y w2 ⟨rfl, rfl⟩
      by_cases ht : 10 ≤ v0 ∧ v0 ≤ 12
      · have ht' : hasJ (partsOf v0) 116 = true := by rw [partsOf_t]; simpa using ht
        have HT := Lib.hid ht
        have HOK := Lib.hid (HO1.out.keep (w' := w2.setCell ⟨wr.heap.size, 5, none⟩ (.int .i64 (wrap64 (v5 + d)))) fun q hq => (Keep.set (O := fun q => q = wr.heap.size) (Keep.refl _ w2) (p := ⟨wr.heap.size, 5, none⟩) (.inl rfl) _).block q (HO1.out.lt hq) (fun e => by have := HOL.out q hq; omega))
        have HBK := Lib.hid (HB1.out.setCell (p := ⟨wr.heap.size, 5, none⟩) HB.out.size (.int .i64 (wrap64 (v5 + d))))
        clear ht
        go_wp2_with (at_builtin; go_must (refine wpList_append_rows _ rfl _ _ 24 rfl 42 (.agg #[.int .i64 0, .int .i64 0, .int .i64 0, .int .i64 0, .int .i64 0, .int .i64 0]) 6 48 Try.underlying24 info_ins rfl (.slice AX k cX) k (insCells ((l.take k).map (mvw d))) rfl (HOK.out.alloc _) (.slice (some ⟨w2.heap.size, 0, none⟩) 1 1) 1 [.int .i64 v0, .int .i64 v1, .int .i64 v2, .int .i64 v3, .int .i64 v4, .int .i64 (wrap64 (v5 + d))] rfl (Row.laid (n := 1) (cs := #[.int .i64 v0, .int .i64 v1, .int .i64 v2, .int .i64 v3, .int .i64 v4, .int .i64 (wrap64 (v5 + d))]) (size := 6) (by first | rfl | simp [World.setCell]) rfl (by decide)) (by simp [Value.oneCell']) (by unfold maxLen; omega) (by omega) ?_); intro v4' w4 hr4 hg4 hn4; obtain ⟨A4, c4, hv4, _⟩ := hr4.slice; subst hv4; have HR4 := Lib.hid hr4; have HG4 := Lib.hid hg4; have HN4 := Lib.hid hn4; clear hr4 hg4 hn4 x0 x1 x2 x3 x4 x5 p5)
        have HBW := Lib.hid (Below.grown (HBK.out.al) HG4.out (by rw [size_al]; have := HBK.out.size; omega) (fun q hq => HW.out q hq))
        have HRW := Lib.hid (show Row w4 42 6 (.slice A4 (k + 1) c4) (k + 1) (insCells ((l.take (k + 1)).map (mvw d))) by
          have h := HR4.out
          rw [HTK.out, insCells_app, HX.out, show mvw d ⟨v0, v1, v2, v3, v4, v5⟩ = ⟨v0, v1, v2, v3, v4, wrap64 (v5 + d)⟩ from by simp only [mvw]; rw [if_pos HT.out]]
          exact h)
        have HWN := Lib.hid (show ∀ q, (Value.slice A4 (k + 1) c4).ownBlock = some q → w.heap.size ≤ q from fun q hq => by
          rcases HN4.out with e | e
          · rw [e] at hq; exact HW.out q hq
          · rw [e, size_al] at hq
            have h1 := Option.some.inj hq
            have := HBK.out.size
            omega)
        go_wp2
        go_roundw
        case rel => exact ⟨k + 1, by go_num, by omega, HBW, HRW, HWN⟩
        case measure => simp [intOf]; omega
      · have ht' : hasJ (partsOf v0) 116 = false := by rw [partsOf_t]; simpa using ht
        have HT := Lib.hid ht
        have HOK := HO1
        have HBK := HB1
        clear ht
        go_wp2_with (at_builtin; go_must (refine wpList_append_rows _ rfl _ _ 24 rfl 42 (.agg #[.int .i64 0, .int .i64 0, .int .i64 0, .int .i64 0, .int .i64 0, .int .i64 0]) 6 48 Try.underlying24 info_ins rfl (.slice AX k cX) k (insCells ((l.take k).map (mvw d))) rfl (HOK.out.alloc _) (.slice (some ⟨w2.heap.size, 0, none⟩) 1 1) 1 [.int .i64 v0, .int .i64 v1, .int .i64 v2, .int .i64 v3, .int .i64 v4, .int .i64 v5] rfl (Row.laid (n := 1) (cs := #[.int .i64 v0, .int .i64 v1, .int .i64 v2, .int .i64 v3, .int .i64 v4, .int .i64 v5]) (size := 6) (by first | rfl | simp [World.setCell]) rfl (by decide)) (by simp [Value.oneCell']) (by unfold maxLen; omega) (by omega) ?_); intro v4' w4 hr4 hg4 hn4; obtain ⟨A4, c4, hv4, _⟩ := hr4.slice; subst hv4; have HR4 := Lib.hid hr4; have HG4 := Lib.hid hg4; have HN4 := Lib.hid hn4; clear hr4 hg4 hn4 x0 x1 x2 x3 x4 x5 p5)
        have HBW := Lib.hid (Below.grown (HBK.out.al) HG4.out (by rw [size_al]; have := HBK.out.size; omega) (fun q hq => HW.out q hq))
        have HRW := Lib.hid (show Row w4 42 6 (.slice A4 (k + 1) c4) (k + 1) (insCells ((l.take (k + 1)).map (mvw d))) by
          have h := HR4.out
          rw [HTK.out, insCells_app, HX.out, show mvw d ⟨v0, v1, v2, v3, v4, v5⟩ = ⟨v0, v1, v2, v3, v4, v5⟩ from by simp only [mvw]; rw [if_neg HT.out]]
          exact h)
        have HWN := Lib.hid (show ∀ q, (Value.slice A4 (k + 1) c4).ownBlock = some q → w.heap.size ≤ q from fun q hq => by
          rcases HN4.out with e | e
          · rw [e] at hq; exact HW.out q hq
          · rw [e, size_al] at hq
            have h1 := Option.some.inj hq
            have := HBK.out.size
            omega)
        go_wp2
        go_roundw
        case rel => exact ⟨k + 1, by go_num, by omega, HBW, HRW, HWN⟩
        case measure => simp [intOf]; omega
    · have hk' : k = l.length := by omega
      subst hk'
      go_wp2
      go_ret
      refine ⟨HB.out, _, rfl, ?_, HW.out⟩
      have := HO.out
      rw [List.take_length] at this
      exact this
end Go.Proofs.Ytjlnpppjkdcpkaa.My
