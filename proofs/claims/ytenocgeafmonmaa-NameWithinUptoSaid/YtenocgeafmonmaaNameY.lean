/- Layer 7: the law NameWithin is true. Conditions: the tree is there in the world w; it has at most 10^8 nodes. -/
import Derived.Test.YtenocgeafmonmaaNameX
namespace Go.Proofs.Ytenocgeafmonmaa.My
open Go.RowKit Go.Maps
/-- all within an if of 1 (kind 6) or a while of 1 (kind 7) -/
def wrap (k : Int) (l : List Stmt) : Stmt := .mk k ⟨#[]⟩ 0 [.mk 1 1 ⟨#[]⟩ 0 []] l []
theorem wrap_nodes (k : Int) (l : List Stmt) : Stmt.nodesL [wrap k l] = Stmt.nodesL l + 2 := by
  simp [wrap, Stmt.nodesL, Stmt.nodes, Expr.nodesL, Expr.nodes]; omega
theorem wrap_S (k : Int) (hk : k = 6 ∨ k = 7) (l : List Stmt) (cells : Int) : stmtsS ⟨[], [], 0, cells⟩ [wrap k l] = ((stmtsS ⟨[], [], 0, cells⟩ l).1, { (stmtsS ⟨[], [], 0, cells⟩ l).2 with names := [] }) := by
  have e : exprsS ⟨[], [], 0, cells⟩ [.mk 1 1 ⟨#[]⟩ 0 []] = (0, ⟨[], [], 0, cells⟩) := by simp [exprsS, exprS]
  have f : kindS ⟨[], [], 0, cells⟩ k ⟨#[]⟩ 0 = (0, ⟨[], [], 0, cells⟩) := by
    unfold kindS
    rcases hk with rfl | rfl <;> simp
  have g : stmtS ⟨[], [], 0, cells⟩ (wrap k l) = ((stmtsS ⟨[], [], 0, cells⟩ l).1, { (stmtsS ⟨[], [], 0, cells⟩ l).2 with names := [] }) := by
    unfold wrap
    rw [stmtS, e]
    dsimp only
    rw [if_pos rfl, f]
    dsimp only
    rw [if_pos rfl]
    by_cases h : (stmtsS ⟨[], [], 0, cells⟩ l).1 = 0
    · simp [blockS, stmtsS, h]
    · simp [blockS, h]
  rw [stmtsS, g]
  dsimp only
  split
  · rename_i h
    rw [stmtsS, h]
  · rfl
theorem wrap_slots (k : Int) (hk : k = 6 ∨ k = 7) (l : List Stmt) (cells : Int) : slotsP [wrap k l] cells = slotsP l cells := by
  unfold slotsP; rw [wrap_S k hk]
theorem wrap_most (k : Int) (hk : k = 6 ∨ k = 7) (l : List Stmt) (cells : Int) : mostP [wrap k l] cells = mostP l cells := by
  unfold mostP; rw [wrap_S k hk]
theorem wrap_rds {w : World} {ga gs : Nat} {ta td : TypeId} {k : Int} {l : List Stmt} {A : Option Addr} {c : Nat}
    (ha : w.heap[ga]? = some (.cells #[.int .i64 1, .int .i64 1, .string ⟨#[]⟩, .int .i64 0, .slice none 0 0] ta (0, 0)))
    (hs : w.heap[gs]? = some (.cells #[.int .i64 k, .string ⟨#[]⟩, .int .i64 0, .slice (some ⟨ga, 0, none⟩) 1 1, .slice A l.length c, .slice none 0 0] td (0, 0)))
    (hrd : Stmt.rds w l A 0) (hc : l.length ≤ c) : Stmt.rds w [wrap k l] (some ⟨gs, 0, none⟩) 0 := by
  have r1 : Expr.rds w [.mk 1 1 ⟨#[]⟩ 0 []] (some ⟨ga, 0, none⟩) 0 := by
    simp only [Expr.rds]
    refine ⟨⟨ga, 0, [.int .i64 1, .int .i64 1, .string ⟨#[]⟩, .int .i64 0, .slice none 0 0], rfl, ?_, ?_⟩, trivial⟩
    · unfold Expr.rd
      exact ⟨_, _, rfl, Nat.le_refl _, by decide, by simp [Expr.rds]⟩
    · refine els ha 0 _ ?_
      intro j hj
      have hj' : j = 0 ∨ j = 1 ∨ j = 2 ∨ j = 3 ∨ j = 4 := by simp at hj; omega
      rcases hj' with rfl | rfl | rfl | rfl | rfl <;> rfl
  unfold wrap
  simp only [Stmt.rds]
  refine ⟨⟨gs, 0, [.int .i64 k, .string ⟨#[]⟩, .int .i64 0, .slice (some ⟨ga, 0, none⟩) 1 1, .slice A l.length c, .slice none 0 0], rfl, ?_, ?_⟩, trivial⟩
  · unfold Stmt.rd
    exact ⟨_, _, _, _, _, _, rfl, Nat.le_refl _, hc, Nat.le_refl _, by decide, r1, hrd, by simp [Stmt.rds]⟩
  · refine els hs 0 _ ?_
    intro j hj
    have hj' : j = 0 ∨ j = 1 ∨ j = 2 ∨ j = 3 ∨ j = 4 ∨ j = 5 := by simp at hj; omega
    rcases hj' with rfl | rfl | rfl | rfl | rfl | rfl <;> rfl
theorem cR' {k : Int} {l : List Stmt} (hl : Stmt.nodesL l ≤ 100000000) {w : World} {gs : Nat} (h : Stmt.rds w [wrap k l] (some ⟨gs, 0, none⟩) 0) :
    Calls Try.prog 16 #[.slice (some ⟨gs, 0, none⟩) 1 1] w (AnyB w) :=
  right_calls w [wrap k l] _ 1 h (by rw [wrap_nodes]; omega) w (Below.refl _ _)
theorem cS' {k : Int} (hk : k = 6 ∨ k = 7) {l : List Stmt} (hl : Stmt.nodesL l ≤ 100000000) {cells : Int} {xs : List Int} {e0 : Int} (hx : slotsP l cells = (xs, e0)) {w : World} {gs : Nat} (h : Stmt.rds w [wrap k l] (some ⟨gs, 0, none⟩) 0) :
    Calls Try.prog 18 #[.slice (some ⟨gs, 0, none⟩) 1 1, .int .i64 cells] w fun e w' => ∃ v, e = .returned (.tuple #[v, .int .i64 e0]) ∧ Row w' 3 1 v xs.length (xs.map (.int .i64)) ∧ Below w.heap.size w w' := by
  have h1 := slots_calls w [wrap k l] (some ⟨gs, 0, none⟩) 1 cells h (by rw [wrap_nodes]; omega) w (Below.refl _ _)
  rw [wrap_slots k hk, hx] at h1
  exact h1
theorem cM' {k : Int} (hk : k = 6 ∨ k = 7) {l : List Stmt} (hl : Stmt.nodesL l ≤ 100000000) {cells : Int} {m0 e0 : Int} (hx : mostP l cells = (m0, e0)) {w : World} {gs : Nat} (h : Stmt.rds w [wrap k l] (some ⟨gs, 0, none⟩) 0) :
    Calls Try.prog 19 #[.slice (some ⟨gs, 0, none⟩) 1 1, .int .i64 cells] w fun e w' => e = .returned (.tuple #[.int .i64 m0, .int .i64 e0]) ∧ Below w.heap.size w w' := by
  have h1 := most_calls w [wrap k l] (some ⟨gs, 0, none⟩) 1 cells h (by rw [wrap_nodes]; omega) w (Below.refl _ _)
  rw [wrap_most k hk, hx] at h1
  exact h1
set_option maxRecDepth 100000 in
set_option maxHeartbeats 2000000 in
theorem nameWithin_calls (l : List Stmt) (A : Option Addr) (c : Nat) (cells : Int) (loop : Bool) (w : World) (hrd : Stmt.rds w l A 0) (hl : Stmt.nodesL l ≤ 100000000) (hlc : l.length ≤ c) :
    Calls Try.prog 5 #[.slice A l.length c, .int .i64 cells, .bool loop] w (TrueB w) := by
  have cG := Lib.hid (great_calls w l A c hrd (by omega))
  have cR := Lib.hid (right_calls w l A c hrd (by omega))
  have cS := Lib.hid (slots_calls w l A c cells hrd (by omega))
  have cM := Lib.hid (most_calls w l A c cells hrd (by omega))
  have hlen := slotsP_len l cells
  have hmc := most_code l cells
  obtain ⟨⟨xs, e0⟩, hxs⟩ : ∃ r, slotsP l cells = r := ⟨_, rfl⟩
  obtain ⟨⟨m0, e1⟩, hm0⟩ : ∃ r, mostP l cells = r := ⟨_, rfl⟩
  rw [hxs] at cS hlen hmc
  rw [hm0] at cM hmc
  have hme : e1 = e0 := hmc
  subst hme
  have hlx : xs.length ≤ 1000000000 := by have : xs.length ≤ Stmt.nodesL l := hlen; omega
  have hxs := Lib.hid hxs
  have hm0 := Lib.hid hm0
  have HL := Lib.hid hl
  have HLC := Lib.hid hlc
  have HRD := Lib.hid (fun (w' : World) (h : Below w.heap.size w w') => Stmt.rds_keep h hrd)
  clear hlen hmc hl hlc hrd
  cases loop
  · go_enter Try.func5, Try.ntmps5
    go_wp2_with (first
      | (go_at_call 17; go_must (refine (alive_calls _).mono ?_); rintro x wa ⟨rfl, hba⟩)
      | (go_at_call 21; go_must (refine (row_same xs _ _ _ hlx (((r6.below hc7).below hb8).below hc9) ((r7.below hb8).below hc9)).mono ?_); rintro x w10 ⟨rfl, hb10⟩; have hB10 := hB9.trans (hb10.mono hB9.size))
      | (go_at_call 19; have _h := hb8; go_must (refine (cM' (k := 6) (.inl rfl) HL.out hm0.out (wrap_rds (ga := w2.heap.size) (gs := w8.heap.size) (hq HA8.out) (hn rfl) (HRD.out _ (hB8.alloc hB8.size _)) HLC.out)).mono ?_); rintro x w9 ⟨rfl, hb9⟩; have hc9 : Below w8.heap.size w8 w9 := (Below.alloc (Below.refl _ _) (Nat.le_refl _) _).trans (hb9.mono (by simp)); have hB9 := hB8.trans (hc9.mono hB8.size))
      | (go_at_call 19; go_must (refine (cM.out _ hB7).mono ?_); rintro x w8 ⟨rfl, hb8⟩; have hB8 := hB7.trans (hb8.mono hB7.size); have HA8 : Hid (w8.heap[w2.heap.size]? = some (.cells #[.int .i64 1, .int .i64 1, .string ⟨#[]⟩, .int .i64 0, .slice none 0 0] 41 (0, 0))) := Lib.hid (below_blk hb8 HA7.out (blk_lt HA7.out)); have HX8 : Hid (w8.heap[w2.heap.size + 1]? = some (.cells #[.int .i64 6, .string ⟨#[]⟩, .int .i64 0, .slice (some ⟨w2.heap.size, 0, none⟩) 1 1, .slice A l.length c, .slice none 0 0] 43 (0, 0))) := Lib.hid (below_blk hb8 HX7.out (blk_lt HX7.out)); have hX8 := HX8.out; have q0 := blk_cell hX8 0; have q1 := blk_cell hX8 1; have q2 := blk_cell hX8 2; have q3 := blk_cell hX8 3; have q4 := blk_cell hX8 4; have q5 := blk_cell hX8 5; clear hX8)
      | (go_at_call 18; have _h := hb6; go_must (refine (cS' (k := 6) (.inl rfl) HL.out hxs.out (wrap_rds (ga := w2.heap.size) (gs := w6.heap.size) (hq HA6.out) (hn rfl) (HRD.out _ (hB6.alloc hB6.size _)) HLC.out)).mono ?_); rintro x w7 ⟨v7, rfl, r7, hb7⟩; have hc7 : Below w6.heap.size w6 w7 := (Below.alloc (Below.refl _ _) (Nat.le_refl _) _).trans (hb7.mono (by simp)); have hB7 := hB6.trans (hc7.mono hB6.size); have HA7 : Hid (w7.heap[w2.heap.size]? = some (.cells #[.int .i64 1, .int .i64 1, .string ⟨#[]⟩, .int .i64 0, .slice none 0 0] 41 (0, 0))) := Lib.hid (below_blk hc7 HA6.out (blk_lt HA6.out)); have HX7 : Hid (w7.heap[w2.heap.size + 1]? = some (.cells #[.int .i64 6, .string ⟨#[]⟩, .int .i64 0, .slice (some ⟨w2.heap.size, 0, none⟩) 1 1, .slice A l.length c, .slice none 0 0] 43 (0, 0))) := Lib.hid (below_blk hc7 HX6.out (blk_lt HX6.out)))
      | (go_at_call 18; go_must (refine (cS.out _ hB5).mono ?_); rintro x w6 ⟨v6, rfl, r6, hb6⟩; have hB6 := hB5.trans (hb6.mono hB5.size); have HA6 : Hid (w6.heap[w2.heap.size]? = some (.cells #[.int .i64 1, .int .i64 1, .string ⟨#[]⟩, .int .i64 0, .slice none 0 0] 41 (0, 0))) := Lib.hid (below_blk hb6 HA5.out (blk_lt HA5.out)); have HX6 : Hid (w6.heap[w2.heap.size + 1]? = some (.cells #[.int .i64 6, .string ⟨#[]⟩, .int .i64 0, .slice (some ⟨w2.heap.size, 0, none⟩) 1 1, .slice A l.length c, .slice none 0 0] 43 (0, 0))) := Lib.hid (below_blk hb6 HX5.out (blk_lt HX5.out)); have hX6 := HX6.out; have q0 := blk_cell hX6 0; have q1 := blk_cell hX6 1; have q2 := blk_cell hX6 2; have q3 := blk_cell hX6 3; have q4 := blk_cell hX6 4; have q5 := blk_cell hX6 5; clear hX6)
      | (go_at_call 16; have _h := hB2; go_must (refine (cR' (k := 6) HL.out (wrap_rds (ga := w2.heap.size) (gs := w2.heap.size + 1 + 1) (hq (hq (hn rfl))) (hn (by simp)) (HRD.out _ (hB2.trans (Below.mono (Below.alloc (Below.alloc (Below.alloc (Below.refl w2.heap.size w2) (Nat.le_refl _) _) (by simp) _) (by first | (simp; done) | (simp; omega)) _) hB2.size))) HLC.out)).mono ?_); go_must (rintro x w5 ⟨b5, rfl, hb5⟩); go_must (have hc5 : Below w2.heap.size w2 w5 := (Below.alloc (Below.alloc (Below.alloc (Below.refl w2.heap.size w2) (Nat.le_refl _) _) (by simp) _) (by first | (simp; done) | (simp; omega)) _).trans (hb5.mono (by first | (simp; done) | (simp; omega)))); have hB5 := hB2.trans (hc5.mono hB2.size); go_must (have HA5 : Hid (w5.heap[w2.heap.size]? = some (.cells #[.int .i64 1, .int .i64 1, .string ⟨#[]⟩, .int .i64 0, .slice none 0 0] 41 (0, 0))) := Lib.hid (below_blk hb5 (hq (hq (hn rfl))) (by first | (simp; done) | (simp; omega)))); go_must (have HX5 : Hid (w5.heap[w2.heap.size + 1]? = some (.cells #[.int .i64 6, .string ⟨#[]⟩, .int .i64 0, .slice (some ⟨w2.heap.size, 0, none⟩) 1 1, .slice A l.length c, .slice none 0 0] 43 (0, 0))) := Lib.hid (below_blk hb5 (hq (hn (by simp))) (by first | (simp; done) | (simp; omega)))))
      | (go_at_call 16; go_must (refine (cR.out _ hB1).mono ?_); rintro x w2 ⟨b2, rfl, hb2⟩; have hB2 := hB1.trans (hb2.mono hB1.size))
      | (go_at_call 15; go_must (refine (cG.out _ (Below.refl _ _)).mono ?_); rintro x w1 ⟨b1, rfl, hB1⟩))
    all_goals
      go_ret
      first
        | exact ⟨rfl, hB10.trans (hba.mono hB10.size)⟩
        | exact ⟨rfl, hB5.trans (hba.mono hB5.size)⟩
        | exact ⟨rfl, hB2.trans (hba.mono hB2.size)⟩
        | exact ⟨rfl, hB1.trans (hba.mono hB1.size)⟩
  · go_enter Try.func5, Try.ntmps5
    go_wp2_with (first
      | (go_at_call 17; go_must (refine (alive_calls _).mono ?_); rintro x wa ⟨rfl, hba⟩)
      | (go_at_call 21; go_must (refine (row_same xs _ _ _ hlx (((r6.below hc7).below hb8).below hc9) ((r7.below hb8).below hc9)).mono ?_); rintro x w10 ⟨rfl, hb10⟩; have hB10 := hB9.trans (hb10.mono hB9.size))
      | (go_at_call 19; have _h := hb8; go_must (refine (cM' (k := 7) (.inr rfl) HL.out hm0.out (wrap_rds (ga := w2.heap.size) (gs := w8.heap.size) (hq HA8.out) (hn rfl) (HRD.out _ (hB8.alloc hB8.size _)) HLC.out)).mono ?_); rintro x w9 ⟨rfl, hb9⟩; have hc9 : Below w8.heap.size w8 w9 := (Below.alloc (Below.refl _ _) (Nat.le_refl _) _).trans (hb9.mono (by simp)); have hB9 := hB8.trans (hc9.mono hB8.size))
      | (go_at_call 19; go_must (refine (cM.out _ hB7).mono ?_); rintro x w8 ⟨rfl, hb8⟩; have hB8 := hB7.trans (hb8.mono hB7.size); have HA8 : Hid (w8.heap[w2.heap.size]? = some (.cells #[.int .i64 1, .int .i64 1, .string ⟨#[]⟩, .int .i64 0, .slice none 0 0] 41 (0, 0))) := Lib.hid (below_blk hb8 HA7.out (blk_lt HA7.out)); have HX8 : Hid (w8.heap[w2.heap.size + 1]? = some (.cells #[.int .i64 7, .string ⟨#[]⟩, .int .i64 0, .slice (some ⟨w2.heap.size, 0, none⟩) 1 1, .slice A l.length c, .slice none 0 0] 43 (0, 0))) := Lib.hid (below_blk hb8 HX7.out (blk_lt HX7.out)); have hX8 := HX8.out; have q0 := blk_cell hX8 0; have q1 := blk_cell hX8 1; have q2 := blk_cell hX8 2; have q3 := blk_cell hX8 3; have q4 := blk_cell hX8 4; have q5 := blk_cell hX8 5; clear hX8)
      | (go_at_call 18; have _h := hb6; go_must (refine (cS' (k := 7) (.inr rfl) HL.out hxs.out (wrap_rds (ga := w2.heap.size) (gs := w6.heap.size) (hq HA6.out) (hn rfl) (HRD.out _ (hB6.alloc hB6.size _)) HLC.out)).mono ?_); rintro x w7 ⟨v7, rfl, r7, hb7⟩; have hc7 : Below w6.heap.size w6 w7 := (Below.alloc (Below.refl _ _) (Nat.le_refl _) _).trans (hb7.mono (by simp)); have hB7 := hB6.trans (hc7.mono hB6.size); have HA7 : Hid (w7.heap[w2.heap.size]? = some (.cells #[.int .i64 1, .int .i64 1, .string ⟨#[]⟩, .int .i64 0, .slice none 0 0] 41 (0, 0))) := Lib.hid (below_blk hc7 HA6.out (blk_lt HA6.out)); have HX7 : Hid (w7.heap[w2.heap.size + 1]? = some (.cells #[.int .i64 7, .string ⟨#[]⟩, .int .i64 0, .slice (some ⟨w2.heap.size, 0, none⟩) 1 1, .slice A l.length c, .slice none 0 0] 43 (0, 0))) := Lib.hid (below_blk hc7 HX6.out (blk_lt HX6.out)))
      | (go_at_call 18; go_must (refine (cS.out _ hB5).mono ?_); rintro x w6 ⟨v6, rfl, r6, hb6⟩; have hB6 := hB5.trans (hb6.mono hB5.size); have HA6 : Hid (w6.heap[w2.heap.size]? = some (.cells #[.int .i64 1, .int .i64 1, .string ⟨#[]⟩, .int .i64 0, .slice none 0 0] 41 (0, 0))) := Lib.hid (below_blk hb6 HA5.out (blk_lt HA5.out)); have HX6 : Hid (w6.heap[w2.heap.size + 1]? = some (.cells #[.int .i64 7, .string ⟨#[]⟩, .int .i64 0, .slice (some ⟨w2.heap.size, 0, none⟩) 1 1, .slice A l.length c, .slice none 0 0] 43 (0, 0))) := Lib.hid (below_blk hb6 HX5.out (blk_lt HX5.out)); have hX6 := HX6.out; have q0 := blk_cell hX6 0; have q1 := blk_cell hX6 1; have q2 := blk_cell hX6 2; have q3 := blk_cell hX6 3; have q4 := blk_cell hX6 4; have q5 := blk_cell hX6 5; clear hX6)
      | (go_at_call 16; have _h := hB2; go_must (refine (cR' (k := 7) HL.out (wrap_rds (ga := w2.heap.size) (gs := w2.heap.size + 1 + 1) (hq (hq (hn rfl))) (hn (by simp)) (HRD.out _ (hB2.trans (Below.mono (Below.alloc (Below.alloc (Below.alloc (Below.refl w2.heap.size w2) (Nat.le_refl _) _) (by simp) _) (by first | (simp; done) | (simp; omega)) _) hB2.size))) HLC.out)).mono ?_); go_must (rintro x w5 ⟨b5, rfl, hb5⟩); go_must (have hc5 : Below w2.heap.size w2 w5 := (Below.alloc (Below.alloc (Below.alloc (Below.refl w2.heap.size w2) (Nat.le_refl _) _) (by simp) _) (by first | (simp; done) | (simp; omega)) _).trans (hb5.mono (by first | (simp; done) | (simp; omega)))); have hB5 := hB2.trans (hc5.mono hB2.size); go_must (have HA5 : Hid (w5.heap[w2.heap.size]? = some (.cells #[.int .i64 1, .int .i64 1, .string ⟨#[]⟩, .int .i64 0, .slice none 0 0] 41 (0, 0))) := Lib.hid (below_blk hb5 (hq (hq (hn rfl))) (by first | (simp; done) | (simp; omega)))); go_must (have HX5 : Hid (w5.heap[w2.heap.size + 1]? = some (.cells #[.int .i64 7, .string ⟨#[]⟩, .int .i64 0, .slice (some ⟨w2.heap.size, 0, none⟩) 1 1, .slice A l.length c, .slice none 0 0] 43 (0, 0))) := Lib.hid (below_blk hb5 (hq (hn (by simp))) (by first | (simp; done) | (simp; omega)))))
      | (go_at_call 16; go_must (refine (cR.out _ hB1).mono ?_); rintro x w2 ⟨b2, rfl, hb2⟩; have hB2 := hB1.trans (hb2.mono hB1.size))
      | (go_at_call 15; go_must (refine (cG.out _ (Below.refl _ _)).mono ?_); rintro x w1 ⟨b1, rfl, hB1⟩))
    all_goals
      go_ret
      first
        | exact ⟨rfl, hB10.trans (hba.mono hB10.size)⟩
        | exact ⟨rfl, hB5.trans (hba.mono hB5.size)⟩
        | exact ⟨rfl, hB2.trans (hba.mono hB2.size)⟩
        | exact ⟨rfl, hB1.trans (hba.mono hB1.size)⟩
end Go.Proofs.Ytenocgeafmonmaa.My
