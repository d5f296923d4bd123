/- Layer 7: the law NameApart is true. Conditions: the tree is there in the world w; it has at most 10^8 nodes. -/
import Derived.Test.YtenocgeafmonmaaNameX
import Derived.Test.YtenocgeafmonmaaNameP
import Derived.Test.YtenocgeafmonmaaNameF
namespace Go.Proofs.Ytenocgeafmonmaa.My
open Go.RowKit Go.Maps
theorem info_stmt : (Try.prog.info? 43).map (fun i => (i.zero, i.size, i.bytes)) = some (some (.agg #[.int .i64 0, .string ⟨#[]⟩, .int .i64 0, .slice none 0 0, .slice none 0 0, .slice none 0 0]), 6, 104) := by kernel_rfl
/-- append of the argument's statements onto nothing -/
theorem wpList_append_tree (w : World) {ops : Array Oper} {rest : List Oper} {o : Oper} {a : Act} {Q : Exit → Act → World → Prop} (hgd : o.guard = none) (s x : Operand)
    (ho : o.op = .call { callee := .builtin .append, args := #[s, x], argTypes := #[22, 22] }) (l : List Stmt) (A : Option Addr) (c : Nat) (hrd : Stmt.rds w l A 0) (hl : l.length ≤ 100000000)
    (hs : a.eval s = .slice none 0 0) (hx : a.eval x = .slice A l.length c)
    (h : ∀ v' w' fs, Stmt.flat w l fs → Row w' 43 6 v' l.length fs → w.grownBy w' none → (v'.ownBlock = none ∨ v'.ownBlock = some w.heap.size) → wpList Try.prog ops Q rest (a.put o.dst v') w') : wpList Try.prog ops Q (o :: rest) a w := by
  refine wpList_plain hgd fun _ hK => ?_
  obtain ⟨i, hi, hi2⟩ := Option.map_eq_some_iff.mp info_stmt
  simp only [Prod.mk.injEq] at hi2
  obtain ⟨fs, hf, hfc⟩ := Stmt.flat_of hrd
  have hfl := Stmt.flat_len hf
  have hr : ∃ v' w', (Builtin.append_ #[22, 22] o.type #[.slice none 0 0, .slice A l.length c]).run Try.prog w = .ok v' w' ∧ Row w' 43 6 v' l.length fs ∧ w.grownBy w' none ∧ (v'.ownBlock = none ∨ v'.ownBlock = some w.heap.size) := by
    rcases Nat.eq_zero_or_pos l.length with h0 | h0
    · have hn : fs = [] := List.eq_nil_of_length_eq_zero (by omega)
      subst hn
      rw [h0]
      exact ⟨_, w, run_append_nothing w _ _ _ 43 i Try.underlying22 hi none 0 0 (Nat.le_refl _) _ (by cases A with | none => exact Src.ofNil w Try.underlying22 c | some a => exact Src.ofSlice w Try.underlying22 a 0 c [] (by simp) (by simp) (by simp)), Row.nil _ _ _, ⟨rfl, rfl, rfl, Nat.le_refl _, fun _ _ _ => rfl⟩, .inl rfl⟩
    · obtain ⟨b, o', cs, hA, _, _⟩ := Stmt.rds_get hrd 0 h0
      subst hA
      have hcell : ∀ j u, fs[j]? = some u → w.cell? ((⟨b, o', none⟩ : Addr).add j) = some u := fun j u hu => by
        have hadd : (⟨b, o', none⟩ : Addr).add j = ⟨b, o' + 0 * 6 + j, none⟩ := by unfold Addr.add; split <;> simp_all
        rw [hadd]
        exact hfc b o' rfl j u hu
      have hr := run_append_row (P := Try.prog) w 22 o.type 43 i _ 6 104 Try.underlying22 hi hi2.1 hi2.2.1 hi2.2.2 rfl (.slice none 0 0) 0 [] (Row.nil _ _ _) ⟨b, o', none⟩ l.length c fs hfl hcell (Stmt.flat_one hf) h0 (by unfold maxLen; omega) (by omega)
      simpa [Value.ownBlock] using hr
  obtain ⟨v', w', hr, h2, h3, h4⟩ := hr
  unfold Oper.wp execOp
  simp only [ho, resolve, invoke, builtin, Sem.run_bind, Sem.run_pure, Result.andThen_ok, List.map_toArray, List.map_cons, List.map_nil, hs, hx, hr]
  exact hK _ _ (h v' w' fs hf h2 h3 h4)
theorem i5 (arr : Array Value) (cs : List Value) (o : Nat) (hl : cs.length = 5) (h0 : arr[o]? = cs[0]?) (h1 : arr[o + 1]? = cs[1]?) (h2 : arr[o + 2]? = cs[2]?) (h3 : arr[o + 3]? = cs[3]?) (h4 : arr[o + 4]? = cs[4]?) : ∀ j, j < cs.length → arr[o + j]? = cs[j]? := by
  intro j hj
  have hj' : j = 0 ∨ j = 1 ∨ j = 2 ∨ j = 3 ∨ j = 4 := by omega
  rcases hj' with rfl | rfl | rfl | rfl | rfl
  · exact h0
  · exact h1
  · exact h2
  · exact h3
  · exact h4
/-- the row of statements with the two that were put behind -/
theorem apart_mem {w3 w5 w6 : World} {l : List Stmt} {s : ByteArray} {fs : List Value} {v5 v6 : Value} (hf : Stmt.flat w3 l fs) (g5 : w3.grownBy w5 none) (hr5 : Row w5 43 6 v5 l.length fs) (n5 : v5.ownBlock = none ∨ v5.ownBlock = some w3.heap.size)
    (hg6 : (((w5.alloc (.cells #[.int .i64 1, .int .i64 0, .string ⟨#[]⟩, .int .i64 0, .slice none 0 0] 41)).alloc (.cells #[.int .i64 2, .int .i64 0, .string s, .int .i64 0, .slice none 0 0] 41)).alloc (.cells #[.int .i64 1, .string s, .int .i64 0, .slice (some ⟨w5.heap.size, 0, none⟩) 1 1, .slice none 0 0, .slice none 0 0, .int .i64 4, .string ⟨#[]⟩, .int .i64 0, .slice (some ⟨w5.heap.size + 1, 0, none⟩) 1 1, .slice none 0 0, .slice none 0 0] 43)).grownBy w6 v5.ownBlock) (hr6 : Row w6 43 6 v6 (l.length + 2) (fs ++ [.int .i64 1, .string s, .int .i64 0, .slice (some ⟨w5.heap.size, 0, none⟩) 1 1, .slice none 0 0, .slice none 0 0, .int .i64 4, .string ⟨#[]⟩, .int .i64 0, .slice (some ⟨w5.heap.size + 1, 0, none⟩) 1 1, .slice none 0 0, .slice none 0 0])) (hs : s.size ≤ maxLen) :
    Below w3.heap.size w3 w6 ∧ ∃ A6 c6, v6 = .slice A6 (l.length + 2) c6 ∧ Stmt.rds w6 (l ++ [varOf s, emitOf s]) A6 0 := by
  have h5 : Below w3.heap.size w3 w5 := Below.grown (Below.refl _ _) g5 (Nat.le_refl _) (by intro k hk; cases hk)
  have h5s := h5.size
  have hB : Below w3.heap.size w3 w6 := by
    refine Below.grown (((h5.alloc h5s _).alloc (by simp; omega) _).alloc (by simp; omega) _) hg6 (by simp; omega) ?_
    intro k hk
    rcases n5 with h | h
    · rw [h] at hk; cases hk
    · rw [h] at hk; cases hk; exact Nat.le_refl _
  have hne : ∀ g, w5.heap.size ≤ g → some g ≠ v5.ownBlock := fun g hg e => by have := hr5.lt e.symm; omega
  have e1 : w6.heap[w5.heap.size]? = some (.cells #[.int .i64 1, .int .i64 0, .string ⟨#[]⟩, .int .i64 0, .slice none 0 0] 41 (0, 0)) := (hg6.block _ (by simp; omega) (hne _ (Nat.le_refl _))).trans (hq (hq (hn rfl)))
  have e2 : w6.heap[w5.heap.size + 1]? = some (.cells #[.int .i64 2, .int .i64 0, .string s, .int .i64 0, .slice none 0 0] 41 (0, 0)) := (hg6.block _ (by simp) (hne _ (by omega))).trans (hq (hn (by simp)))
  obtain ⟨A6, c6, rfl, _⟩ := hr6.slice
  refine ⟨hB, A6, c6, rfl, Stmt.of_row hr6 (Stmt.flat_append (Stmt.flat_keep hB hf) ?_)⟩
  have r1 : Expr.rds w6 [.mk 1 0 ⟨#[]⟩ 0 []] (some ⟨w5.heap.size, 0, none⟩) 0 := by
    simp only [Expr.rds]
    refine ⟨⟨_, 0, [.int .i64 1, .int .i64 0, .string ⟨#[]⟩, .int .i64 0, .slice none 0 0], rfl, ?_, els e1 0 _ (i5 _ _ _ rfl rfl rfl rfl rfl rfl)⟩, trivial⟩
    simp only [Expr.rd]
    exact ⟨_, _, rfl, Nat.le_refl _, by decide, by simp [Expr.rds]⟩
  have r2 : Expr.rds w6 [.mk 2 0 s 0 []] (some ⟨w5.heap.size + 1, 0, none⟩) 0 := by
    simp only [Expr.rds]
    refine ⟨⟨_, 0, [.int .i64 2, .int .i64 0, .string s, .int .i64 0, .slice none 0 0], rfl, ?_, els e2 0 _ (i5 _ _ _ rfl rfl rfl rfl rfl rfl)⟩, trivial⟩
    simp only [Expr.rd]
    exact ⟨_, _, rfl, Nat.le_refl _, hs, by simp [Expr.rds]⟩
  simp only [Stmt.flat]
  refine ⟨[.int .i64 1, .string s, .int .i64 0, .slice (some ⟨w5.heap.size, 0, none⟩) 1 1, .slice none 0 0, .slice none 0 0], _, rfl, ?_, ⟨[.int .i64 4, .string ⟨#[]⟩, .int .i64 0, .slice (some ⟨w5.heap.size + 1, 0, none⟩) 1 1, .slice none 0 0, .slice none 0 0], _, rfl, ?_, rfl⟩⟩
  · unfold varOf
    simp only [Stmt.rd]
    exact ⟨_, _, _, _, _, _, rfl, Nat.le_refl _, Nat.le_refl _, Nat.le_refl _, hs, r1, by simp [Stmt.rds], by simp [Stmt.rds]⟩
  · unfold emitOf
    simp only [Stmt.rd]
    exact ⟨_, _, _, _, _, _, rfl, Nat.le_refl _, Nat.le_refl _, Nat.le_refl _, by decide, r2, by simp [Stmt.rds], by simp [Stmt.rds]⟩
theorem wrap_small (n : Int) (h0 : 0 ≤ n) (h1 : n ≤ 1000000000) : IntKind.i64.wrap n = n := by
  simp [IntKind.wrap, IntKind.signed, IntKind.bits]; omega
theorem cells_twelve (w : World) (news : List Value) {t : TypeId} {g : Nat} (hg : g = w.heap.size) : ∀ j u, news[j]? = some u → (w.alloc (.cells news.toArray t)).cell? ((⟨g, 0, none⟩ : Addr).add j) = some u := by
  subst hg
  intro j u hu
  have hadd : (⟨w.heap.size, 0, none⟩ : Addr).add j = ⟨w.heap.size, j, none⟩ := by unfold Addr.add; split <;> simp_all
  rw [hadd, blk_cell (blk_new w _)]
  simpa using hu
theorem two_nodes (l : List Stmt) (s : ByteArray) : Stmt.nodesL (l ++ [varOf s, emitOf s]) = Stmt.nodesL l + 4 := by
  induction l with
  | nil => simp [varOf, emitOf, Stmt.nodesL, Stmt.nodes, Expr.nodesL, Expr.nodes]
  | cons e l ih => rw [List.cons_append]; simp only [Stmt.nodesL, ih]; omega
theorem cR2 {w6 : World} {l : List Stmt} {s : ByteArray} {A6 : Option Addr} {c6 : Nat} (hl : Stmt.nodesL l ≤ 100000000) (h : Stmt.rds w6 (l ++ [varOf s, emitOf s]) A6 0) : Calls Try.prog 16 #[.slice A6 (l.length + 2) c6] w6 (AnyB w6) := by
  have h1 := right_calls w6 _ A6 c6 h (by rw [two_nodes]; omega) w6 (Below.refl _ _)
  rw [List.length_append] at h1
  exact h1
theorem cS2 {w6 w7 : World} {l : List Stmt} {s : ByteArray} {A6 : Option Addr} {c6 : Nat} {cells e1 : Int} {ys : List Int} (hl : Stmt.nodesL l ≤ 100000000) (h : Stmt.rds w6 (l ++ [varOf s, emitOf s]) A6 0) (hx : slotsP (l ++ [varOf s, emitOf s]) cells = (ys, e1)) (hB : Below w6.heap.size w6 w7) :
    Calls Try.prog 18 #[.slice A6 (l.length + 2) c6, .int .i64 cells] w7 fun e w' => ∃ v, e = .returned (.tuple #[v, .int .i64 e1]) ∧ Row w' 3 1 v ys.length (ys.map (.int .i64)) ∧ Below w7.heap.size w7 w' := by
  have h1 := slots_calls w6 _ A6 c6 cells h (by rw [two_nodes]; omega) w7 hB
  rw [List.length_append, hx] at h1
  exact h1
theorem keep2 {w w' : World} {g n : Nat} {u v : Value} (h1 : w.cell? ⟨g, n, none⟩ = some u) (h2 : w.cell? ⟨g, n + 1, none⟩ = some v) (hg : g < w.heap.size) (hB : Below w.heap.size w w') : w'.cell? ⟨g, n, none⟩ = some u ∧ w'.cell? ⟨g, n + 1, none⟩ = some v ∧ Below w.heap.size w w' :=
  ⟨(hB.cell (p := ⟨g, n, none⟩) hg).trans h1, (hB.cell (p := ⟨g, n + 1, none⟩) hg).trans h2, hB⟩
set_option maxRecDepth 100000 in
set_option maxHeartbeats 2000000 in
theorem nameApart_calls (l : List Stmt) (A : Option Addr) (c : Nat) (cells : Int) (s : ByteArray) (w : World) (hrd : Stmt.rds w l A 0) (hl : Stmt.nodesL l ≤ 100000000) (hs : s.size ≤ maxLen) :
    Calls Try.prog 6 #[.slice A l.length c, .int .i64 cells, .string s] w (TrueB w) := by
  have cG := Lib.hid (great_calls w l A c hrd (by omega))
  have cR := Lib.hid (right_calls w l A c hrd (by omega))
  have cS := Lib.hid (slots_calls w l A c cells hrd (by omega))
  have hal := Stmt.nodesL_len l
  have hlen := slotsP_len l cells
  have hin := slotsP_in l cells
  have hap := apart_plain l s cells
  have hnil : (slotsP l cells).2 ≠ 0 → (slotsP l cells).1 = [] := by
    unfold slotsP; split
    · intro h; exact absurd rfl h
    · intro _; rfl
  obtain ⟨⟨xs, e0⟩, hxs⟩ : ∃ r, slotsP l cells = r := ⟨_, rfl⟩
  rw [hxs] at cS hlen hin hap hnil
  dsimp only at hlen hin hap hnil
  have hlx : xs.length ≤ 100000000 := by omega
  have hlb : l.length ≤ 100000000 := by omega
  have HRD := Lib.hid (fun (w' : World) (h : Below w.heap.size w w') => Stmt.rds_keep h hrd)
  have HL := Lib.hid hl
  have HS := Lib.hid hs
  have HIN := Lib.hid hin
  clear hxs hlen hal hrd hl hs hin
  by_cases hz : e0 = 0
  · subst hz
    rcases hap rfl with hy | hy | ⟨kk, hy⟩
    · have HY := Lib.hid hy
      clear hy hap hnil
      go_enter Try.func6, Try.ntmps6
      go_wp2_with (first
        | (go_at_call 17; go_must (refine (alive_calls _).mono ?_); rintro x wa ⟨rfl, hba⟩)
        | (go_at_call 18; go_must (refine (cS.out _ hB2).mono ?_); rintro x w3 ⟨v3, rfl, r3, hb3⟩; have hB3 := hB2.trans (hb3.mono hB2.size); have HR3 := Lib.hid r3; obtain ⟨A3, c3, hv3, hl3⟩ := r3.slice; subst hv3; clear r3)
        | (go_at_call 16; go_must (refine (cR.out _ hB1).mono ?_); rintro x w2 ⟨b2, rfl, hb2⟩; have hB2 := hB1.trans (hb2.mono hB1.size))
        | (go_at_call 15; go_must (refine (cG.out _ (Below.refl _ _)).mono ?_); rintro x w1 ⟨b1, rfl, hB1⟩))
      all_goals first
        | (go_ret; exact ⟨rfl, hB2.trans (hba.mono hB2.size)⟩)
        | (go_ret; exact ⟨rfl, hB1.trans (hba.mono hB1.size)⟩)
        | skip
      go_loop [9] (fun at_ => ∃ (k : Nat), at_ = .int .i64 (k : Int) ∧ k ≤ xs.length) (fun a => xs.length - (intOf a).toNat)
      case atStart => exact ⟨0, rfl, Nat.zero_le _⟩
      case round =>
        obtain ⟨k, rfl, hk⟩ := hrel
        by_cases hlt : k < xs.length
        · have hlt' : ((k : Int) < (xs.length : Int)) := by omega
          obtain ⟨g, c', hv, hcell, _⟩ := HR3.out.cell (j := k) (u := .int .i64 xs[k]) (by simp [hlt])
          injection hv with hv _ hc
          subst hv
          subst hc
          obtain ⟨h0, h1⟩ := HIN.out xs[k] (List.getElem_mem hlt)
          have h0' : ¬ (xs[k] < 0) := by omega
          have h1' : ¬ (xs[k] ≥ 11) := by omega
          clear h0 h1
          go_wp2
          go_round
          case rel => exact ⟨k + 1, by go_num, by omega⟩
          case measure => simp [intOf]; omega
        · go_wp2_with (first
            | (go_at_call 17; go_must (refine (alive_calls _).mono ?_); rintro x wa ⟨rfl, hba⟩)
            | (go_at_call 18; go_must (refine (cS2 (ys := []) (e1 := 61) HL.out hrd6 HY.out hb7).mono ?_); rintro x w8 ⟨v8, rfl, r8, hb8⟩; have hB8 := hB7.trans (hb8.mono hB7.size))
            | (go_at_call 16; go_must (refine (cR2 HL.out hrd6).mono ?_); rintro x w7 ⟨b7, rfl, hb7⟩; have hB7 := hB6.trans (hb7.mono hB6.size))
            | (at_builtin; have _h := hr5; go_must (refine wpList_append_row _ rfl _ _ 22 rfl 43 (.agg #[.int .i64 0, .string ⟨#[]⟩, .int .i64 0, .slice none 0 0, .slice none 0 0, .slice none 0 0]) 6 104 Try.underlying22 info_stmt rfl v5 _ _ rfl (hr5.keep fun g hg => (Below.heap_alloc _ _ g (by have := hr5.lt hg; simp; omega)).trans ((Below.heap_alloc _ _ g (by have := hr5.lt hg; simp; omega)).trans (Below.heap_alloc _ _ g (hr5.lt hg)))) ⟨w5.heap.size + 1 + 1, 0, none⟩ 2 2 [.int .i64 1, .string s, .int .i64 0, .slice (some ⟨w5.heap.size, 0, none⟩) 1 1, .slice none 0 0, .slice none 0 0, .int .i64 4, .string ⟨#[]⟩, .int .i64 0, .slice (some ⟨w5.heap.size + 1, 0, none⟩) 1 1, .slice none 0 0, .slice none 0 0] rfl rfl (cells_twelve _ _ (by simp)) (by simp [Value.oneCell']) (by decide) (by unfold maxLen; omega) (by omega) ?_); intro v6 w6 hr6 hg6 hn6; go_must (obtain ⟨hb6, A6, c6, hv6, hrd6⟩ := apart_mem hf5 hg5 hr5 hn5 hg6 hr6 HS.out); subst hv6; have hB6 := hB3.trans (hb6.mono hB3.size))
            | (at_builtin; go_must (refine wpList_append_tree _ rfl _ _ rfl l A c (HRD.out _ hB3) hlb rfl rfl ?_); intro v5 w5 fs hf5 hr5 hg5 hn5))
          all_goals first
            | (go_ret; exact ⟨rfl, hB8.trans (hba.mono hB8.size)⟩)
            | (go_ret; exact ⟨rfl, hB7.trans (hba.mono hB7.size)⟩)
    · have HY := Lib.hid hy
      clear hy hap hnil
      go_enter Try.func6, Try.ntmps6
      go_wp2_with (first
        | (go_at_call 17; go_must (refine (alive_calls _).mono ?_); rintro x wa ⟨rfl, hba⟩)
        | (go_at_call 18; go_must (refine (cS.out _ hB2).mono ?_); rintro x w3 ⟨v3, rfl, r3, hb3⟩; have hB3 := hB2.trans (hb3.mono hB2.size); have HR3 := Lib.hid r3; obtain ⟨A3, c3, hv3, hl3⟩ := r3.slice; subst hv3; clear r3)
        | (go_at_call 16; go_must (refine (cR.out _ hB1).mono ?_); rintro x w2 ⟨b2, rfl, hb2⟩; have hB2 := hB1.trans (hb2.mono hB1.size))
        | (go_at_call 15; go_must (refine (cG.out _ (Below.refl _ _)).mono ?_); rintro x w1 ⟨b1, rfl, hB1⟩))
      all_goals first
        | (go_ret; exact ⟨rfl, hB2.trans (hba.mono hB2.size)⟩)
        | (go_ret; exact ⟨rfl, hB1.trans (hba.mono hB1.size)⟩)
        | skip
      go_loop [9] (fun at_ => ∃ (k : Nat), at_ = .int .i64 (k : Int) ∧ k ≤ xs.length) (fun a => xs.length - (intOf a).toNat)
      case atStart => exact ⟨0, rfl, Nat.zero_le _⟩
      case round =>
        obtain ⟨k, rfl, hk⟩ := hrel
        by_cases hlt : k < xs.length
        · have hlt' : ((k : Int) < (xs.length : Int)) := by omega
          obtain ⟨g, c', hv, hcell, _⟩ := HR3.out.cell (j := k) (u := .int .i64 xs[k]) (by simp [hlt])
          injection hv with hv _ hc
          subst hv
          subst hc
          obtain ⟨h0, h1⟩ := HIN.out xs[k] (List.getElem_mem hlt)
          have h0' : ¬ (xs[k] < 0) := by omega
          have h1' : ¬ (xs[k] ≥ 11) := by omega
          clear h0 h1
          go_wp2
          go_round
          case rel => exact ⟨k + 1, by go_num, by omega⟩
          case measure => simp [intOf]; omega
        · go_wp2_with (first
            | (go_at_call 17; go_must (refine (alive_calls _).mono ?_); rintro x wa ⟨rfl, hba⟩)
            | (go_at_call 18; go_must (refine (cS2 (ys := []) (e1 := 62) HL.out hrd6 HY.out hb7).mono ?_); rintro x w8 ⟨v8, rfl, r8, hb8⟩; have hB8 := hB7.trans (hb8.mono hB7.size))
            | (go_at_call 16; go_must (refine (cR2 HL.out hrd6).mono ?_); rintro x w7 ⟨b7, rfl, hb7⟩; have hB7 := hB6.trans (hb7.mono hB6.size))
            | (at_builtin; have _h := hr5; go_must (refine wpList_append_row _ rfl _ _ 22 rfl 43 (.agg #[.int .i64 0, .string ⟨#[]⟩, .int .i64 0, .slice none 0 0, .slice none 0 0, .slice none 0 0]) 6 104 Try.underlying22 info_stmt rfl v5 _ _ rfl (hr5.keep fun g hg => (Below.heap_alloc _ _ g (by have := hr5.lt hg; simp; omega)).trans ((Below.heap_alloc _ _ g (by have := hr5.lt hg; simp; omega)).trans (Below.heap_alloc _ _ g (hr5.lt hg)))) ⟨w5.heap.size + 1 + 1, 0, none⟩ 2 2 [.int .i64 1, .string s, .int .i64 0, .slice (some ⟨w5.heap.size, 0, none⟩) 1 1, .slice none 0 0, .slice none 0 0, .int .i64 4, .string ⟨#[]⟩, .int .i64 0, .slice (some ⟨w5.heap.size + 1, 0, none⟩) 1 1, .slice none 0 0, .slice none 0 0] rfl rfl (cells_twelve _ _ (by simp)) (by simp [Value.oneCell']) (by decide) (by unfold maxLen; omega) (by omega) ?_); intro v6 w6 hr6 hg6 hn6; go_must (obtain ⟨hb6, A6, c6, hv6, hrd6⟩ := apart_mem hf5 hg5 hr5 hn5 hg6 hr6 HS.out); subst hv6; have hB6 := hB3.trans (hb6.mono hB3.size))
            | (at_builtin; go_must (refine wpList_append_tree _ rfl _ _ rfl l A c (HRD.out _ hB3) hlb rfl rfl ?_); intro v5 w5 fs hf5 hr5 hg5 hn5))
          all_goals first
            | (go_ret; exact ⟨rfl, hB8.trans (hba.mono hB8.size)⟩)
            | (go_ret; exact ⟨rfl, hB7.trans (hba.mono hB7.size)⟩)
    · obtain ⟨r, hr⟩ : ∃ r : Int, 3 + (kk : Int) = r := ⟨_, rfl⟩
      have hr3 : 3 ≤ r := by omega
      rw [hr] at hy
      clear hr
      have HY := Lib.hid hy
      clear hy hap hnil
      have hW1 : IntKind.i64.wrap ((xs.length : Int) + 2) = (xs.length : Int) + 2 := wrap_small _ (by omega) (by omega)
      have hW2 : IntKind.i64.wrap ((xs.length : Int) + 1) = (xs.length : Int) + 1 := wrap_small _ (by omega) (by omega)
      have hL2 : (xs.length : Int) < (xs.length : Int) + 2 := by omega
      have hL3 : (xs.length : Int) + 1 < (xs.length : Int) + 2 := by omega
      have hL4 : (0 : Int) ≤ (xs.length : Int) := by omega
      have hL5 : (0 : Int) ≤ (xs.length : Int) + 1 := by omega
      go_enter Try.func6, Try.ntmps6
      go_wp2_with (first
        | (go_at_call 17; go_must (refine (alive_calls _).mono ?_); rintro x wa ⟨rfl, hba⟩)
        | (go_at_call 18; go_must (refine (cS.out _ hB2).mono ?_); rintro x w3 ⟨v3, rfl, r3, hb3⟩; have hB3 := hB2.trans (hb3.mono hB2.size); have HR3 := Lib.hid r3; obtain ⟨A3, c3, hv3, hl3⟩ := r3.slice; subst hv3; clear r3)
        | (go_at_call 16; go_must (refine (cR.out _ hB1).mono ?_); rintro x w2 ⟨b2, rfl, hb2⟩; have hB2 := hB1.trans (hb2.mono hB1.size))
        | (go_at_call 15; go_must (refine (cG.out _ (Below.refl _ _)).mono ?_); rintro x w1 ⟨b1, rfl, hB1⟩))
      all_goals first
        | (go_ret; exact ⟨rfl, hB2.trans (hba.mono hB2.size)⟩)
        | (go_ret; exact ⟨rfl, hB1.trans (hba.mono hB1.size)⟩)
        | skip
      go_loop [9] (fun at_ => ∃ (k : Nat), at_ = .int .i64 (k : Int) ∧ k ≤ xs.length) (fun a => xs.length - (intOf a).toNat)
      case atStart => exact ⟨0, rfl, Nat.zero_le _⟩
      case round =>
        obtain ⟨k, rfl, hk⟩ := hrel
        by_cases hlt : k < xs.length
        · have hlt' : ((k : Int) < (xs.length : Int)) := by omega
          obtain ⟨g, c', hv, hcell, _⟩ := HR3.out.cell (j := k) (u := .int .i64 xs[k]) (by simp [hlt])
          injection hv with hv _ hc
          subst hv
          subst hc
          obtain ⟨h0, h1⟩ := HIN.out xs[k] (List.getElem_mem hlt)
          have h0' : ¬ (xs[k] < 0) := by omega
          have h1' : ¬ (xs[k] ≥ 11) := by omega
          clear h0 h1
          go_wp2
          go_round
          case rel => exact ⟨k + 1, by go_num, by omega⟩
          case measure => simp [intOf]; omega
        · go_wp2_with (first
            | (go_at_call 17; go_must (refine (alive_calls _).mono ?_); rintro x wa ⟨rfl, hba⟩)
            | (go_at_call 18; go_must (refine (cS2 (ys := (xs ++ [r, r])) (e1 := 0) HL.out hrd6 HY.out hb7).mono ?_); rintro x w8 ⟨v8, rfl, r8, hb8⟩; have hB8 := hB7.trans (hb8.mono hB7.size); go_must (rw [show (xs ++ [r, r]).length = xs.length + 2 by simp] at r8); obtain ⟨g8, c8, hv8, hc1, _⟩ := r8.cell (j := xs.length) (u := .int .i64 r) (by simp); obtain ⟨g8', c8', hv8', hc2, _⟩ := r8.cell (j := xs.length + 1) (u := .int .i64 r) (by simp); have hg8 : g8 < w8.heap.size := r8.lt (by rw [hv8]; rfl); rw [hv8] at hv8'; have hgg : g8 = g8' := (by injection hv8' with h _ _; injection h with h; injection h); subst hgg; subst hv8; have HC1 := Lib.hid hc1; have HC2 := Lib.hid hc2; clear hv8' hc1 hc2)
            | (go_at_call 16; go_must (refine (cR2 HL.out hrd6).mono ?_); rintro x w7 ⟨b7, rfl, hb7⟩; have hB7 := hB6.trans (hb7.mono hB6.size))
            | (at_builtin; have _h := hr5; go_must (refine wpList_append_row _ rfl _ _ 22 rfl 43 (.agg #[.int .i64 0, .string ⟨#[]⟩, .int .i64 0, .slice none 0 0, .slice none 0 0, .slice none 0 0]) 6 104 Try.underlying22 info_stmt rfl v5 _ _ rfl (hr5.keep fun g hg => (Below.heap_alloc _ _ g (by have := hr5.lt hg; simp; omega)).trans ((Below.heap_alloc _ _ g (by have := hr5.lt hg; simp; omega)).trans (Below.heap_alloc _ _ g (hr5.lt hg)))) ⟨w5.heap.size + 1 + 1, 0, none⟩ 2 2 [.int .i64 1, .string s, .int .i64 0, .slice (some ⟨w5.heap.size, 0, none⟩) 1 1, .slice none 0 0, .slice none 0 0, .int .i64 4, .string ⟨#[]⟩, .int .i64 0, .slice (some ⟨w5.heap.size + 1, 0, none⟩) 1 1, .slice none 0 0, .slice none 0 0] rfl rfl (cells_twelve _ _ (by simp)) (by simp [Value.oneCell']) (by decide) (by unfold maxLen; omega) (by omega) ?_); intro v6 w6 hr6 hg6 hn6; go_must (obtain ⟨hb6, A6, c6, hv6, hrd6⟩ := apart_mem hf5 hg5 hr5 hn5 hg6 hr6 HS.out); subst hv6; have hB6 := hB3.trans (hb6.mono hB3.size))
            | (at_builtin; go_must (refine wpList_append_tree _ rfl _ _ rfl l A c (HRD.out _ hB3) hlb rfl rfl ?_); intro v5 w5 fs hf5 hr5 hg5 hn5))
          all_goals first
            | (go_ret; exact ⟨rfl, hB8.trans (hba.mono hB8.size)⟩)
            | (go_ret; exact ⟨rfl, hB7.trans (hba.mono hB7.size)⟩)
            | (go_region_held3 (fun w' => w'.cell? ⟨g8, xs.length, none⟩ = some (.int .i64 r) ∧ w'.cell? ⟨g8, xs.length + 1, none⟩ = some (.int .i64 r) ∧ Below w8.heap.size w8 w')
                 (first
                   | exact keep2 HC1.out HC2.out hg8 hW9
                   | exact keep2 HC1.out HC2.out hg8 (Below.refl _ _).drew
                   | exact keep2 HC1.out HC2.out hg8 (Below.refl _ _))
                 (first
                   | (go_at_call 17; go_must (refine (alive_calls _).mono ?_); rintro x wa ⟨rfl, hba⟩; have hW9 : Below w8.heap.size w8 wa := (by first | exact (Below.refl _ _).drew.trans hba | exact hba)))
               all_goals
                 go_wp2
                 go_ret
                 exact ⟨rfl, hB8.trans (hW9.mono hB8.size)⟩)
  · have hx0 := hnil hz
    subst hx0
    have hz' : (e0 == 0) = false := by simp [hz]
    clear hap hnil
    go_enter Try.func6, Try.ntmps6
    go_wp2_with (first
      | (go_at_call 17; go_must (refine (alive_calls _).mono ?_); rintro x wa ⟨rfl, hba⟩)
      | (go_at_call 18; go_must (refine (cS.out _ hB2).mono ?_); rintro x w3 ⟨v3, rfl, r3, hb3⟩; have hB3 := hB2.trans (hb3.mono hB2.size); obtain ⟨A3, c3, hv3, hl3⟩ := r3.slice; subst hv3)
      | (go_at_call 16; go_must (refine (cR.out _ hB1).mono ?_); rintro x w2 ⟨b2, rfl, hb2⟩; have hB2 := hB1.trans (hb2.mono hB1.size))
      | (go_at_call 15; go_must (refine (cG.out _ (Below.refl _ _)).mono ?_); rintro x w1 ⟨b1, rfl, hB1⟩))
    all_goals
      go_ret
      first
        | exact ⟨rfl, hB3.trans (hba.mono hB3.size)⟩
        | exact ⟨rfl, hB2.trans (hba.mono hB2.size)⟩
        | exact ⟨rfl, hB1.trans (hba.mono hB1.size)⟩
end Go.Proofs.Ytenocgeafmonmaa.My
