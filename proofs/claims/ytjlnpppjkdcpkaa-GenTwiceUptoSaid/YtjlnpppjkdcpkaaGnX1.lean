/- GenTwice: a text's instructions don't hang on what was made ahead; what is answered is new memory. Conditions: the arguments lie in memory. -/
import Derived.Test.YtjlnpppjkdcpkaaGnA
import Derived.Test.YtjlnpppjkdcpkaaNameL
import Derived.Test.YtjlnpppjkdcpkaaEvU
namespace Go.Proofs.Ytjlnpppjkdcpkaa.My
open Go.RowKit Go.Proofs.Ytjlnpppjkdcpkaa.NumA
set_option linter.unusedVariables false
set_option linter.unusedSimpArgs false
def TrueB (W : World) (e : Ending) (w' : World) : Prop := e = .returned (.bool true) ∧ Below W.heap.size W w'
theorem genP_len (ss : List Stmt) (L : Int) : (genP ss L).1.length ≤ 600 := by
  unfold genP
  split
  · simp
  · split
    · simp
    · split
      · simp
      · split
        · simp
        · simp; omega
set_option maxRecDepth 100000 in
set_option maxHeartbeats 4000000 in
theorem genTwice_calls (ss : List Stmt) (A : Option Addr) (c : Nat) (ms : List Stmt) (A' : Option Addr) (c' : Nat) (L : Int) (W : World) (hrd : Stmt.rds W ss A 0) (hnl : Stmt.nodesL ss ≤ 1000000000) (hrd' : Stmt.rds W ms A' 0) (hnl' : Stmt.nodesL ms ≤ 1000000000) :
    Calls Try.prog 5 #[.slice A ss.length c, .slice A' ms.length c', .int .i64 L] W (TrueB W) := by
  have HG := Lib.hid (great_calls W ss A c hrd hnl W (Below.refl _ _))
  have HG' := Lib.hid (fun w h => great_calls W ms A' c' hrd' hnl' w h)
  have HC := Lib.hid (fun w h => compile_calls W ss A c hrd hnl L w h)
  have HC' := Lib.hid (fun w h => compile_calls W ms A' c' hrd' hnl' L w h)
  obtain ⟨r, hr⟩ : ∃ r, genP ss L = r := ⟨_, rfl⟩
  obtain ⟨r', hr'⟩ : ∃ r', genP ms L = r' := ⟨_, rfl⟩
  have hlen := genP_len ss L
  rw [hr] at HC hlen
  rw [hr'] at HC'
  clear hrd hnl hrd' hnl' hr hr'
  go_enter Try.func5, Try.ntmps5
  go_wp2_with fail
  refine HG.out.mono ?_
  rintro y w1 ⟨b, rfl, hb1⟩
  have HB1 := Lib.hid hb1
  clear hb1
  cases b with
  | true =>
    go_wp2
    go_ret
    exact ⟨rfl, HB1.out⟩
  | false =>
    go_wp2_with fail
    refine (HG'.out w1 HB1.out).mono ?_
    rintro y w2 ⟨b, rfl, hb2⟩
    have HB2 := Lib.hid (HB1.out.trans (hb2.mono HB1.out.size))
    clear hb2
    cases b with
    | true =>
      go_wp2
      go_ret
      exact ⟨rfl, HB2.out⟩
    | false =>
      go_wp2_with fail
      refine (HC.out w2 HB2.out).mono ?_
      rintro E w3 ⟨hb3, V, rfl, hrow, hown⟩
      obtain ⟨A3, c3, hV, _⟩ := hrow.slice
      subst hV
      have HB23 := Lib.hid hb3
      have HB3 := Lib.hid (HB2.out.trans (hb3.mono HB2.out.size))
      have HR3 := Lib.hid hrow
      have HO3 := Lib.hid hown
      have hlen2 : (r.1.length : Int) ≤ 600 := by omega
      clear hb3 hrow hown
      go_wp2_with (at_builtin; go_must (refine wpList_append_rows _ rfl _ _ 24 rfl 42 (.agg #[.int .i64 0, .int .i64 0, .int .i64 0, .int .i64 0, .int .i64 0, .int .i64 0]) 6 48 Try.underlying24 info_ins rfl (.slice (some ⟨w3.heap.size, 0, none⟩) 0 0) 0 [] rfl (Row.laid (n := 0) (cs := #[]) (size := 6) rfl rfl (by decide)) (.slice A3 r.1.length c3) r.1.length (insCells r.1) rfl (HR3.out.alloc _) (insCells_one _) (by unfold maxLen; omega) (by omega) ?_); intro v4 w4 hr4 hg4 hn4; rw [Nat.zero_add, List.nil_append] at hr4; have HR4 := Lib.hid hr4; have HG4 := Lib.hid hg4; have HN4 := Lib.hid hn4; clear hr4 hg4 hn4)
      have hb34 : Below w3.heap.size w3 w4 := Below.grown ((Below.refl w3.heap.size w3).al) HG4.out (by rw [size_al]; omega) (fun q hq => by simp [Value.ownBlock] at hq; omega)
      have HB34 := Lib.hid hb34
      have HB4 := Lib.hid (HB3.out.trans (hb34.mono HB3.out.size))
      have hz3 := HB23.out.size
      have hz4 := hb34.size
      have HOW := Lib.hid (show ∀ q, v4.ownBlock = some q → w3.heap.size ≤ q from fun q hq => by
        rcases HN4.out with e | e
        · rw [e] at hq; simp [Value.ownBlock] at hq; omega
        · rw [e, size_al] at hq; have := Option.some.inj hq; omega)
      clear hb34
      refine (HC'.out w4 HB4.out).mono ?_
      rintro E w5 ⟨hb5, V5, rfl, hrow5, hown5⟩
      have hz5 := hb5.size
      have HB5 := Lib.hid (HB4.out.trans (hb5.mono HB4.out.size))
      have HR5 := Lib.hid ((HR3.out.below HB34.out).below hb5)
      have HV5 := Lib.hid (HR4.out.below hb5)
      have HLT := Lib.hid (show ∀ q, (Value.slice A3 r.1.length c3).ownBlock = some q → q < w3.heap.size from fun q hq => HR3.out.lt hq)
      clear hb5 hrow5 hown5
      go_wp2_with fail
      go_loopw [10] (fun i wr => ∃ k : Nat, i = .int .i64 (k : Int) ∧ k ≤ r.1.length ∧ Hid (∃ l' : List Ins, l'.length = r.1.length ∧ Row wr 42 6 (.slice A3 r.1.length c3) r.1.length (insCells l')) ∧ Hid (Keep (fun q => (Value.slice A3 r.1.length c3).ownBlock = some q) w5 wr)) (fun i _ => r.1.length - (intOf i).toNat)
      case atStart => exact ⟨0, rfl, Nat.zero_le _, Lib.hid ⟨r.1, rfl, HR5.out⟩, Lib.hid (Keep.refl _ _)⟩
      case round =>
        obtain ⟨k, rfl, hk, HRX, HK⟩ := hrel
        by_cases hlt : k < r.1.length
        · obtain ⟨l', hl', hrx⟩ := HRX.out
          have hlt' : (k : Int) < (r.1.length : Int) := by omega
          have hk0 : (0 : Int) ≤ (k : Int) := by omega
          obtain ⟨g, eg, x0, x1, x2, x3, x4, x5⟩ := ins_at hrx (k := k) (by omega)
          subst eg
          have pf := hrx.freeA (k * 6 + 5)
          have hset := hrx.putZ (k * 6 + 5) (.int .i64 (wrap64 ((l'[k]'(by omega)).n + 1)))
          rw [insCells_set l' k 5 (by omega) { l'[k]'(by omega) with n := wrap64 ((l'[k]'(by omega)).n + 1) } _ (by omega) rfl] at hset
          obtain ⟨v, hv⟩ : ∃ v, (l'[k]'(by omega)).n = v := ⟨_, rfl⟩
          rw [hv] at x5 hset
          have HSET := Lib.hid (show ∃ l2 : List Ins, l2.length = r.1.length ∧ Row (wr.setCell ⟨g, k * 6 + 5, none⟩ (.int .i64 (wrap64 (v + 1)))) 42 6 (.slice (some ⟨g, 0, none⟩) r.1.length c3) r.1.length (insCells l2) from ⟨_, by rw [List.length_set]; exact hl', hset⟩)
          clear x0 x1 x2 x3 x4 hset hrx hv hl'
          go_wp2
          refine ⟨⟨k + 1, by go_num, by omega, Lib.hid HSET.out, Lib.hid (HK.out.set (p := ⟨g, k * 6 + 5, none⟩) (.inl rfl) _)⟩, ?_⟩
          simp [intOf]; omega
        · have hk' : k = r.1.length := by omega
          subst hk'
          have hzr := HK.out.size
          have hWs := HB2.out.size
          have HBr := Lib.hid (HB5.out.trans (HK.out.toBelow (B := W.heap.size) (by omega) (fun q hq => by have := HO3.out q hq; omega)))
          have HVr := Lib.hid (HV5.out.keep fun q hq => HK.out.block q (HV5.out.lt hq) (fun e => by have := HLT.out q e; have := HOW.out q hq; omega))
          go_wp2_with fail
          refine (HC.out wr HBr.out).mono ?_
          rintro E w6 ⟨hb6, V6, rfl, hrow6, hown6⟩
          have HB6 := Lib.hid (HBr.out.trans (hb6.mono HBr.out.size))
          have HS6 := Lib.hid (isame_calls w6 r.1 V6 v4 hrow6 (HVr.out.below hb6))
          clear hb6 hrow6 hown6
          go_wp2_with fail
          refine HS6.out.mono ?_
          rintro E w7 ⟨rfl, hb7⟩
          have HB7 := Lib.hid (HB6.out.trans (hb7.mono HB6.out.size))
          clear hb7
          go_wp2_with fail
          refine (aliveG_calls w7).mono ?_
          rintro E w8 ⟨rfl, hb8⟩
          go_wp2
          go_ret
          exact ⟨rfl, HB7.out.trans (hb8.mono HB7.out.size)⟩
end Go.Proofs.Ytjlnpppjkdcpkaa.My
