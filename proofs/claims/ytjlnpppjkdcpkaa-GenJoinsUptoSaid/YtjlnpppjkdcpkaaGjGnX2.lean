/- GenJoins: a text that declares nothing but within blocks, and another one behind it. Conditions: the arguments lie in memory. -/
import Derived.Test.YtjlnpppjkdcpkaaGjGnW
import Derived.Test.YtjlnpppjkdcpkaaGjGnI
import Derived.Test.YtjlnpppjkdcpkaaGjGnX1
import Derived.Test.YtjlnpppjkdcpkaaGjDrM
namespace Go.Proofs.Ytjlnpppjkdcpkaa.My
open Go.RowKit Go.Proofs.Ytjlnpppjkdcpkaa.NumA
set_option linter.unusedVariables false
set_option linter.unusedSimpArgs false
theorem run_toZ (w : World) (t : TypeId) (ht : Try.prog.underlying t = some (.slice (Try.prog.elem t))) (z : Nat) (hs : ∀ w, (sizeOf (Try.prog.elem t)).run Try.prog w = .ok z w) (A : Option Addr) (n c m : Nat) (hm : m ≤ c) :
    (Instr.sliceAt t (.slice A n c) none (some (.int .i64 (m : Int))) none).run Try.prog w = .ok (.slice A m c) w := by
  have h0 : ∀ a : Addr, a.add 0 = a := fun a => by simp [Addr.add]
  rw [run_sliceAt_slice w t _ _ _ _ ht, run_slice_h w t A n c ht .i64 m (by omega) (by omega), hs]
  simp only [Result.andThen, sliced, Int.toNat_natCast, Nat.zero_mul]
  have : A.map (·.add 0) = A := by cases A <;> simp [h0]
  rw [this]
  simp
theorem elem_ins : Try.prog.underlying 24 = some (.slice (Try.prog.elem 24)) := by kernel_rfl
theorem size_ins (w : World) : (sizeOf (Try.prog.elem 24)).run Try.prog w = .ok 6 w := by kernel_rfl
theorem insCells_take : ∀ (l : List Ins) (n : Nat), (insCells l).take (n * 6) = insCells (l.take n)
  | [], n => by simp [insCells]
  | x :: l, 0 => by simp [insCells]
  | x :: l, n + 1 => by
    rw [List.take_succ_cons, insCells, insCells, ← insCells_take l n, show (n + 1) * 6 = x.cells.length + n * 6 by simp [Ins.cells]; omega, List.take_length_add_append]
set_option maxRecDepth 100000 in
set_option maxHeartbeats 8000000 in
theorem genJoins_calls (ss : List Stmt) (A : Option Addr) (c : Nat) (ms : List Stmt) (A' : Option Addr) (c' : Nat) (L : Int) (W : World) (hrd : Stmt.rds W ss A 0) (hnl : Stmt.nodesL ss ≤ 10000000) (hrd' : Stmt.rds W ms A' 0) (hnl' : Stmt.nodesL ms ≤ 10000000) :
    Calls Try.prog 4 #[.slice A ss.length c, .slice A' ms.length c', .int .i64 L] W (TrueB W) := by
  have HG := Lib.hid (great_calls W ss A c hrd (by omega) W (Below.refl _ _))
  have HG' := Lib.hid (fun w h => great_calls W ms A' c' hrd' (by omega) w h)
  have HC := Lib.hid (fun w h => compile_calls W ss A c hrd (by omega) L w h)
  have HC' := Lib.hid (fun w h => compile_calls W ms A' c' hrd' (by omega) L w h)
  have HRD := Lib.hid hrd
  have HRD' := Lib.hid hrd'
  have hal := Stmt.nodesL_len ss
  have hal' := Stmt.nodesL_len ms
  obtain ⟨r, hr⟩ : ∃ r, genP ss L = r := ⟨_, rfl⟩
  obtain ⟨r', hr'⟩ : ∃ r', genP ms L = r' := ⟨_, rfl⟩
  have hlen := genP_len ss L
  have hlen' := genP_len ms L
  rw [hr] at HC hlen
  rw [hr'] at HC' hlen'
  have HR := Lib.hid hr
  have HR' := Lib.hid hr'
  clear hrd hrd' hr hr'
  go_enter Try.func4, Try.ntmps4
  go_wp2_with fail
  refine HG.out.mono ?_
  rintro y w1 ⟨b, rfl, hb1⟩
  have HB1 := Lib.hid hb1
  clear hb1
  cases b with
  | true =>
    go_wp2
    go_ret
    exact ⟨rfl, HB1.out⟩
  | false =>
    go_wp2_with fail
    refine (HG'.out w1 HB1.out).mono ?_
    rintro y w2 ⟨b, rfl, hb2⟩
    have HB2 := Lib.hid (HB1.out.trans (hb2.mono HB1.out.size))
    clear hb2
    cases b with
    | true =>
      go_wp2
      go_ret
      exact ⟨rfl, HB2.out⟩
    | false =>
      go_wp2_with fail
      go_loopw [7] (fun i wr => ∃ k : Nat, i = .int .i64 (k : Int) ∧ k ≤ ss.length ∧ Hid (∀ s ∈ ss.take k, s.kind ≠ 1) ∧ Hid (Below W.heap.size W wr)) (fun i _ => ss.length - (intOf i).toNat)
      case atStart => exact ⟨0, rfl, Nat.zero_le _, Lib.hid (fun s hs => by simp at hs), HB2⟩
      case round =>
        obtain ⟨k, rfl, hk, HK, HB⟩ := hrel
        by_cases hlt : k < ss.length
        · obtain ⟨b, o, A0, c0, A2, c2, A3, c3, hA, hbW, g0, g1, g2, g3, g4, g5, e0, e1, e2, hs', r0, r1, r2⟩ := Stmt.at HRD.out HB.out hlt
          subst hA
          have hlt' : (k : Int) < (ss.length : Int) := by omega
          obtain ⟨kd, hkd⟩ : ∃ kd, (ss[k]).kind = kd := ⟨_, rfl⟩
          rw [hkd] at g0
          clear g1 g2 g3 g4 g5 e0 e1 e2 hs' r0 r1 r2
          by_cases h1 : kd = 1
          · have hb1 : (kd == 1) = true := by simp [h1]
            clear hkd h1
            go_wp2_with fail
            refine (aliveG_calls wr).mono ?_
            rintro E wz ⟨rfl, hbz⟩
            go_wp2
            go_ret
            exact ⟨rfl, HB.out.trans (hbz.mono HB.out.size)⟩
          · have hb1 : (kd == 1) = false := by simp [h1]
            have HKN := Lib.hid (show ∀ s ∈ ss.take (k + 1), s.kind ≠ 1 from fun s hs => by
              rw [← List.take_append_getElem hlt, List.mem_append, List.mem_singleton] at hs
              rcases hs with hs | hs
              · exact HK.out s hs
              · rw [hs, hkd]; exact h1)
            clear hkd h1
            go_wp2
            first
              | (go_roundw
                 case rel => exact ⟨k + 1, by go_num, by omega, HKN, HB⟩
                 case measure => simp [intOf]; omega)
              | (refine ⟨⟨k + 1, by go_num, by omega, HKN, HB⟩, ?_⟩; simp [intOf]; omega)
        · have hk' : k = ss.length := by omega
          subst hk'
          have HNK := Lib.hid (show ∀ s ∈ ss, s.kind ≠ 1 by have := HK.out; rw [List.take_length] at this; exact this)
          clear HK
          go_wp2_with (first
            | (at_builtin; have tk := HR4; clear tk; go_must (refine wpList_append_trees W _ HB4.out rfl _ _ rfl v4 _ _ HR4.out ms A' c' HRD'.out (by omega) rfl rfl ?_); intro v5 w5 f5 hf5 hr5 hg5 hn5; have HF5 := Lib.hid hf5; have HR5 := Lib.hid hr5; have HB5 := Lib.hid (show Below W.heap.size W w5 from Below.grown HB4.out hg5 HB4.out.size (fun q hq => by have := HOW4.out q hq; have := HB.out.size; omega)); clear hf5 hr5 hg5 hn5)
            | (at_builtin; go_must (refine wpList_append_trees W _ HB.out rfl _ _ rfl (.slice none 0 0) 0 [] (Row.nil _ _ _) ss A c HRD.out (by omega) rfl rfl ?_); intro v4 w4 f4 hf4 hr4 hg4 hn4; rw [Nat.zero_add, List.nil_append] at hr4; have HF4 := Lib.hid hf4; have HR4 := Lib.hid hr4; have HB4 := Lib.hid (show Below W.heap.size W w4 from HB.out.trans ((Below.grown (Below.refl wr.heap.size wr) hg4 (Nat.le_refl _) (by intro k hk; cases hk)).mono HB.out.size)); have HOW4 := Lib.hid (show ∀ k, v4.ownBlock = some k → wr.heap.size ≤ k from fun k hk => by rcases hn4 with h | h <;> rw [h] at hk <;> cases hk; omega); clear hf4 hr4 hg4 hn4))
          have hf5 := Stmt.flat_keep HB5.out (Stmt.flat_append HF4.out HF5.out)
          have hr5 := HR5.out
          obtain ⟨A5, c5, hv5, _⟩ := hr5.slice
          subst hv5
          have hrs := Stmt.of_row hr5 hf5
          have el : (ss ++ ms).length = ss.length + ms.length := by simp
          have hn5 : Stmt.nodesL (ss ++ ms) ≤ 1000000000 := by rw [Stmt.nodesL_app]; omega
          have hcb := fun w h => compile_calls w5 (ss ++ ms) A5 c5 hrs hn5 L w h
          have hdr := fun w h => docRight_calls w5 (ss ++ ms) A5 c5 hrs hn5 w h
          rw [el] at hcb hdr
          have HCB := Lib.hid hcb
          have HDR := Lib.hid hdr
          clear hf5 hr5 hrs hcb hdr hn5
          refine (HC.out w5 HB5.out).mono ?_
          rintro E w6 ⟨hb6, V6, rfl, hrow6, hown6⟩
          obtain ⟨A6, c6, hV, hc6⟩ := hrow6.slice
          subst hV
          have HB6 := Lib.hid (HB5.out.trans (hb6.mono HB5.out.size))
          have HB56 := Lib.hid hb6
          have HR6 := Lib.hid hrow6
          clear hb6 hrow6 hown6
          go_wp2_with fail
          refine (HC'.out w6 HB6.out).mono ?_
          rintro E w7 ⟨hb7, V7, rfl, hrow7, hown7⟩
          obtain ⟨A7, c7, hV, hc7⟩ := hrow7.slice
          subst hV
          have HB7 := Lib.hid (HB6.out.trans (hb7.mono HB6.out.size))
          have HB57 := Lib.hid (HB56.out.trans (hb7.mono HB56.out.size))
          have HR7 := Lib.hid hrow7
          have HR67 := Lib.hid (HR6.out.below hb7)
          clear hb7 hrow7 hown7
          go_wp2_with fail
          refine (HCB.out w7 HB57.out).mono ?_
          rintro E w8 ⟨hb8, V8, rfl, hrow8, hown8⟩
          obtain ⟨A8, c8, hV, hc8⟩ := hrow8.slice
          subst hV
          have HB8 := Lib.hid (HB7.out.trans (hb8.mono HB7.out.size))
          have HB58 := Lib.hid (HB57.out.trans (hb8.mono HB57.out.size))
          have HR8 := Lib.hid hrow8
          have HR68 := Lib.hid (HR67.out.below hb8)
          have HR78 := Lib.hid (HR7.out.below hb8)
          clear hb8 hrow8 hown8
          have hw8 := HB8.out.size
          by_cases q1 : r.2 = 0
          · by_cases q2 : r'.2 = 0
            · have ha : genP ss L = (r.1, 0) := by rw [HR.out, ← q1]
              have hb' : genP ms L = (r'.1, 0) := by rw [HR'.out, ← q2]
              obtain ⟨_, _, _, _, ea, _⟩ := genP_is ha
              obtain ⟨n1, hn1⟩ : ∃ n1, r.1.length = n1 + 1 := ⟨r.1.length - 1, by rw [ea]; simp⟩
              have hj := fun h => joins_plain HNK.out ha hb' h
              have ht := genP_tgt hb'
              rw [hn1, Nat.add_sub_cancel] at hj
              have hmv := fun w h => moved_calls w r'.1 (.slice A7 r'.1.length c7) n1 h (by omega) (fun x hx hk => by have := ht x hx hk; simp [wrap64, IntKind.wrap, IntKind.signed, IntKind.bits]; omega)
              have hr6 := HR68.out
              rw [hn1] at hr6 hc6 hlen
              have HMV := Lib.hid hmv
              have HJ := Lib.hid hj
              have HRA := Lib.hid hr6
              have HN1 := Lib.hid hn1
              rw [q1, q2, hn1]
              clear ha hb' ea hn1 hj ht hmv hr6 q1 q2 HR6 HR67 HR68
              go_wp2_with fail
              refine (HDR.out w8 HB58.out).mono ?_
              rintro y w9 ⟨rfl, hb9⟩
              have HB9 := Lib.hid (HB8.out.trans (hb9.mono HB8.out.size))
              have HRA9 := Lib.hid (HRA.out.below hb9)
              have HRB9 := Lib.hid (HR78.out.below hb9)
              have HRC9 := Lib.hid (HR8.out.below hb9)
              clear hb9
              cases hrb : rightP nameB (ss ++ ms) with
              | false =>
                clear hrb
                go_wp2_with fail
                refine (aliveG_calls w9).mono ?_
                rintro E wz ⟨rfl, hbz⟩
                go_wp2
                go_ret
                exact ⟨rfl, HB9.out.trans (hbz.mono HB9.out.size)⟩
              | true =>
                have hj := HJ.out hrb
                clear hrb
                by_cases h6 : 600 < n1 + r'.1.length
                · rw [if_pos h6] at hj
                  rw [hj]
                  have h6' : (n1 : Int) + (r'.1.length : Int) > 600 := by omega
                  clear hj h6
                  go_wp2_with fail
                  refine (aliveG_calls w9).mono ?_
                  rintro E wz ⟨rfl, hbz⟩
                  go_wp2
                  go_ret
                  exact ⟨rfl, HB9.out.trans (hbz.mono HB9.out.size)⟩
                · rw [if_neg h6] at hj
                  have hc9 := HRC9.out
                  rw [hj] at hc9 ⊢
                  obtain ⟨T, hT⟩ : ∃ T, List.take n1 r.1 ++ List.map (mv n1) r'.1 = T := ⟨_, rfl⟩
                  have hTL : T.length = n1 + r'.1.length := by have := HN1.out; rw [← hT]; simp; omega
                  rw [hT] at hc9 ⊢
                  simp only at hc9
                  rw [hTL] at hc9 ⊢
                  have HTL := Lib.hid hTL
                  have HT := Lib.hid hT
                  clear hT hTL
                  have h6' : ¬ ((n1 : Int) + (r'.1.length : Int) > 600) := by omega
                  have hs1 : ∀ W, (Instr.sliceAt 24 (.slice A6 (n1 + 1) c6) none (some (.int .i64 (n1 : Int))) none).run Try.prog W = .ok (.slice A6 n1 c6) W := fun W => run_toZ W _ elem_ins 6 size_ins A6 _ c6 n1 (by omega)
                  have hcut := HRA9.out.cutTo (m := n1) (by omega)
                  rw [insCells_take] at hcut
                  have HCUT := Lib.hid hcut
                  have HC9 := Lib.hid hc9
                  have h7 : n1 + r'.1.length ≤ 600 := by omega
                  clear hj h6 hc9 hcut
                  go_wp2_with (at_builtin; go_must (refine wpList_append_rows _ rfl _ _ 24 rfl 42 (.agg #[.int .i64 0, .int .i64 0, .int .i64 0, .int .i64 0, .int .i64 0, .int .i64 0]) 6 48 Try.underlying24 info_ins rfl (.slice (some ⟨w9.heap.size, 0, none⟩) 0 0) (0) ([]) rfl (Row.laid (n := 0) (cs := #[]) (size := 6) rfl rfl (by decide)) (.slice A6 n1 c6) (n1) (insCells (r.1.take n1)) rfl (HCUT.out.alloc _) (insCells_one _) (by unfold maxLen; omega) (by omega) ?_); intro v10 w10 hr10 hg10 hn10; have HR10 := Lib.hid hr10; have HG10 := Lib.hid hg10; have HN10 := Lib.hid hn10; clear hr10 hg10 hn10)
                  have hb10 : Below w9.heap.size w9 w10 := Below.grown ((Below.refl w9.heap.size w9).al) HG10.out (by rw [size_al]; omega) (fun q hq => by simp [Value.ownBlock] at hq; omega)
                  have hr10 := HR10.out
                  rw [Nat.zero_add, List.nil_append] at hr10
                  obtain ⟨A10, c10, hV, _⟩ := hr10.slice
                  subst hV
                  have HB10 := Lib.hid (HB9.out.trans (hb10.mono HB9.out.size))
                  have HB90 := Lib.hid hb10
                  have hrb10 := HRB9.out.below hb10
                  have HRC10 := Lib.hid (HC9.out.below hb10)
                  have HRW10 := Lib.hid hr10
                  have HMV10 := Lib.hid (HMV.out w10 hrb10)
                  have HOW10 := Lib.hid (show ∀ q, (Value.slice A10 n1 c10).ownBlock = some q → w9.heap.size ≤ q from fun q hq => by
                    rcases HN10.out with e | e
                    · rw [e] at hq; simp [Value.ownBlock] at hq; omega
                    · rw [e, size_al] at hq; have := Option.some.inj hq; omega)
                  clear hb10 hr10 hrb10 HR10 HG10 HN10
                  refine HMV10.out.mono ?_
                  rintro E w11 ⟨hb11, V11, rfl, hr11, hown11⟩
                  obtain ⟨A11, c11, hV, _⟩ := hr11.slice
                  subst hV
                  have HB11 := Lib.hid (HB10.out.trans (hb11.mono HB10.out.size))
                  have HB911 := Lib.hid (HB90.out.trans (hb11.mono HB90.out.size))
                  have HR11 := Lib.hid hr11
                  have HRC11 := Lib.hid (HRC10.out.below hb11)
                  have HRW11 := Lib.hid (HRW10.out.below hb11)
                  have HRCL := Lib.hid (show ∀ q, (Value.slice A8 (n1 + r'.1.length) c8).ownBlock = some q → q < w9.heap.size from fun q hq => HC9.out.lt hq)
                  clear hb11 hr11 hown11
                  go_wp2_with (at_builtin; go_must (refine wpList_append_rows _ rfl _ _ 24 rfl 42 (.agg #[.int .i64 0, .int .i64 0, .int .i64 0, .int .i64 0, .int .i64 0, .int .i64 0]) 6 48 Try.underlying24 info_ins rfl (.slice A10 n1 c10) (n1) (insCells (r.1.take n1)) rfl (HRW11.out) ((.slice A11 r'.1.length c11)) (r'.1.length) (insCells (r'.1.map (mv n1))) rfl (HR11.out) (insCells_one _) (by unfold maxLen; omega) (by omega) ?_); intro v12 w12 hr12 hg12 hn12; have HR12 := Lib.hid hr12; have HG12 := Lib.hid hg12; have HN12 := Lib.hid hn12; clear hr12 hg12 hn12)
                  have hb12 : Below w9.heap.size w9 w12 := Below.grown HB911.out HG12.out HB911.out.size (fun q hq => HOW10.out q hq)
                  have hr12 := HR12.out
                  rw [← insCells_app, HT.out] at hr12
                  have hrc12 := HRC11.out.keep (w' := w12) fun q hq => HG12.out.block q (HRC11.out.lt hq) (fun e => by have := HRCL.out q hq; have := HOW10.out q e.symm; omega)
                  rw [← HTL.out] at hr12 hrc12
                  have hsm := isame_calls w12 T _ _ hrc12 hr12
                  rw [HTL.out] at hsm
                  have HB12 := Lib.hid (HB9.out.trans (hb12.mono HB9.out.size))
                  have HSM := Lib.hid hsm
                  clear hb12 hr12 hrc12 hsm
                  refine HSM.out.mono ?_
                  rintro E w13 ⟨rfl, hb13⟩
                  have HB13 := Lib.hid (HB12.out.trans (hb13.mono HB12.out.size))
                  clear hb13
                  go_wp2_with fail
                  refine (aliveG_calls w13).mono ?_
                  rintro E wz ⟨rfl, hbz⟩
                  go_wp2
                  go_ret
                  exact ⟨rfl, HB13.out.trans (hbz.mono HB13.out.size)⟩
            · have HQ1 := Lib.hid q1
              have q2b : (r'.2 != 0) = true := by simp [q2]
              rw [q1]
              clear q1 q2
              go_wp2_with fail
              refine (aliveG_calls w8).mono ?_
              rintro E wz ⟨rfl, hbz⟩
              go_wp2
              go_ret
              exact ⟨rfl, HB8.out.trans (hbz.mono HB8.out.size)⟩
          · have q1b : (r.2 != 0) = true := by simp [q1]
            clear q1
            go_wp2_with fail
            refine (aliveG_calls w8).mono ?_
            rintro E wz ⟨rfl, hbz⟩
            go_wp2
            go_ret
            exact ⟨rfl, HB8.out.trans (hbz.mono HB8.out.size)⟩
end Go.Proofs.Ytjlnpppjkdcpkaa.My
