/- Layer 7: the fact of the layer, alive: it is true. -/
import Derived.Test.YtenocgeafmonmaaNameT
namespace Go.Proofs.Ytenocgeafmonmaa.My
open Go.RowKit Go.Maps
theorem els {w : World} {g : Nat} {arr : Array Value} {t : TypeId} (h : w.heap[g]? = some (.cells arr t (0, 0))) (o : Nat) (cs : List Value) (hc : ∀ j, j < cs.length → arr[o + j]? = cs[j]?) : ∀ j u, cs[j]? = some u → w.cell? ⟨g, o + j, none⟩ = some u := by
  intro j u hu
  rw [blk_cell h, hc j, hu]
  exact (List.getElem?_eq_some_iff.1 hu).1
def nm (x : UInt8) : Expr := .mk 2 0 ⟨#[x]⟩ 0 []
def litA : List Stmt := [.mk 1 ⟨#[120]⟩ 0 [nm 105] [] [], .mk 2 ⟨#[120]⟩ 0 [.mk 5 0 ⟨#[]⟩ 1 [nm 120, nm 107]] [] []]
def litB : List Stmt := [.mk 1 ⟨#[105]⟩ 0 [nm 105] [] []]
theorem litA_slots : slotsP litA 0 = ([1, 3, 3, 2, 3], 0) := by simp [slotsP, litA, nm, stmtsS, stmtS, blockS, kindS, exprS, exprsS, declare, look, regOf, idx]
theorem litA_most : mostP litA 0 = (1, 0) := by simp [mostP, litA, nm, stmtsS, stmtS, blockS, kindS, exprS, exprsS, declare, look, regOf, idx]
theorem litB_slots : slotsP litB 0 = ([], 61) := by simp [slotsP, litB, nm, stmtsS, stmtS, kindS, exprS, exprsS, declare, look, regOf]
theorem nm_rd (w : World) (x : UInt8) (A : Option Addr) : (nm x).rd w [.int .i64 2, .int .i64 0, .string ⟨#[x]⟩, .int .i64 0, .slice A 0 0] := by
  unfold nm Expr.rd
  exact ⟨_, _, rfl, Nat.le_refl _, (show 1 ≤ maxLen by decide), by simp [Expr.rds]⟩
theorem litA_rds {w : World} {ga gb gc gd : Nat} {ta : TypeId}
    (ha : w.heap[ga]? = some (.cells #[.int .i64 2, .int .i64 0, .string ⟨#[105]⟩, .int .i64 0, .slice none 0 0] ta (0, 0)))
    (hb : w.heap[gb]? = some (.cells #[.int .i64 2, .int .i64 0, .string ⟨#[120]⟩, .int .i64 0, .slice none 0 0, .int .i64 2, .int .i64 0, .string ⟨#[107]⟩, .int .i64 0, .slice none 0 0] ta (0, 0)))
    (hc : w.heap[gc]? = some (.cells #[.int .i64 5, .int .i64 0, .string ⟨#[]⟩, .int .i64 1, .slice (some ⟨gb, 0, none⟩) 2 2] ta (0, 0))) {td : TypeId}
    (hd : w.heap[gd]? = some (.cells #[.int .i64 1, .string ⟨#[120]⟩, .int .i64 0, .slice (some ⟨ga, 0, none⟩) 1 1, .slice none 0 0, .slice none 0 0, .int .i64 2, .string ⟨#[120]⟩, .int .i64 0, .slice (some ⟨gc, 0, none⟩) 1 1, .slice none 0 0, .slice none 0 0] td (0, 0))) :
    Stmt.rds w litA (some ⟨gd, 0, none⟩) 0 := by
  have i5 : ∀ (arr : Array Value) (cs : List Value) (o : Nat), cs.length = 5 → arr[o]? = cs[0]? → arr[o + 1]? = cs[1]? → arr[o + 2]? = cs[2]? → arr[o + 3]? = cs[3]? → arr[o + 4]? = cs[4]? → ∀ j, j < cs.length → arr[o + j]? = cs[j]? := by
    intro arr cs o hl h0 h1 h2 h3 h4 j hj
    have hj' : j = 0 ∨ j = 1 ∨ j = 2 ∨ j = 3 ∨ j = 4 := by omega
    rcases hj' with rfl | rfl | rfl | rfl | rfl
    · exact h0
    · exact h1
    · exact h2
    · exact h3
    · exact h4
  have i6 : ∀ (arr : Array Value) (cs : List Value) (o : Nat), cs.length = 6 → arr[o]? = cs[0]? → arr[o + 1]? = cs[1]? → arr[o + 2]? = cs[2]? → arr[o + 3]? = cs[3]? → arr[o + 4]? = cs[4]? → arr[o + 5]? = cs[5]? → ∀ j, j < cs.length → arr[o + j]? = cs[j]? := by
    intro arr cs o hl h0 h1 h2 h3 h4 h5 j hj
    have hj' : j = 0 ∨ j = 1 ∨ j = 2 ∨ j = 3 ∨ j = 4 ∨ j = 5 := by omega
    rcases hj' with rfl | rfl | rfl | rfl | rfl | rfl
    · exact h0
    · exact h1
    · exact h2
    · exact h3
    · exact h4
    · exact h5
  have r1 : Expr.rds w [nm 105] (some ⟨ga, 0, none⟩) 0 := by
    simp only [Expr.rds]
    exact ⟨⟨ga, 0, _, rfl, nm_rd w 105 none, els ha 0 _ (i5 _ _ _ rfl rfl rfl rfl rfl rfl)⟩, trivial⟩
  have r2 : Expr.rds w [nm 120, nm 107] (some ⟨gb, 0, none⟩) 0 := by
    simp only [Expr.rds]
    exact ⟨⟨gb, 0, _, rfl, nm_rd w 120 none, els hb 0 _ (i5 _ _ _ rfl rfl rfl rfl rfl rfl)⟩, ⟨gb, 0, _, rfl, nm_rd w 107 none, els hb 5 _ (i5 _ _ _ rfl rfl rfl rfl rfl rfl)⟩, trivial⟩
  have r3 : Expr.rds w [.mk 5 0 ⟨#[]⟩ 1 [nm 120, nm 107]] (some ⟨gc, 0, none⟩) 0 := by
    simp only [Expr.rds]
    exact ⟨⟨gc, 0, [.int .i64 5, .int .i64 0, .string ⟨#[]⟩, .int .i64 1, .slice (some ⟨gb, 0, none⟩) 2 2], rfl, by
      unfold Expr.rd
      exact ⟨_, _, rfl, Nat.le_refl _, by decide, r2⟩, els hc 0 _ (i5 _ _ _ rfl rfl rfl rfl rfl rfl)⟩, trivial⟩
  unfold litA
  simp only [Stmt.rds]
  refine ⟨⟨gd, 0, [.int .i64 1, .string ⟨#[120]⟩, .int .i64 0, .slice (some ⟨ga, 0, none⟩) 1 1, .slice none 0 0, .slice none 0 0], rfl, ?_, els hd 0 _ (i6 _ _ _ rfl rfl rfl rfl rfl rfl rfl)⟩, ⟨gd, 0, [.int .i64 2, .string ⟨#[120]⟩, .int .i64 0, .slice (some ⟨gc, 0, none⟩) 1 1, .slice none 0 0, .slice none 0 0], rfl, ?_, els hd 6 _ (i6 _ _ _ rfl rfl rfl rfl rfl rfl rfl)⟩, trivial⟩
  · unfold Stmt.rd
    exact ⟨_, _, _, _, _, _, rfl, Nat.le_refl _, Nat.le_refl _, Nat.le_refl _, by decide, r1, by simp [Stmt.rds], by simp [Stmt.rds]⟩
  · unfold Stmt.rd
    exact ⟨_, _, _, _, _, _, rfl, Nat.le_refl _, Nat.le_refl _, Nat.le_refl _, by decide, r3, by simp [Stmt.rds], by simp [Stmt.rds]⟩
theorem litB_rds {w : World} {ga gd : Nat} {ta : TypeId}
    (ha : w.heap[ga]? = some (.cells #[.int .i64 2, .int .i64 0, .string ⟨#[105]⟩, .int .i64 0, .slice none 0 0] ta (0, 0))) {td : TypeId}
    (hd : w.heap[gd]? = some (.cells #[.int .i64 1, .string ⟨#[105]⟩, .int .i64 0, .slice (some ⟨ga, 0, none⟩) 1 1, .slice none 0 0, .slice none 0 0] td (0, 0))) :
    Stmt.rds w litB (some ⟨gd, 0, none⟩) 0 := by
  have i5 : ∀ (arr : Array Value) (cs : List Value) (o : Nat), cs.length = 5 → arr[o]? = cs[0]? → arr[o + 1]? = cs[1]? → arr[o + 2]? = cs[2]? → arr[o + 3]? = cs[3]? → arr[o + 4]? = cs[4]? → ∀ j, j < cs.length → arr[o + j]? = cs[j]? := by
    intro arr cs o hl h0 h1 h2 h3 h4 j hj
    have hj' : j = 0 ∨ j = 1 ∨ j = 2 ∨ j = 3 ∨ j = 4 := by omega
    rcases hj' with rfl | rfl | rfl | rfl | rfl
    · exact h0
    · exact h1
    · exact h2
    · exact h3
    · exact h4
  have i6 : ∀ (arr : Array Value) (cs : List Value) (o : Nat), cs.length = 6 → arr[o]? = cs[0]? → arr[o + 1]? = cs[1]? → arr[o + 2]? = cs[2]? → arr[o + 3]? = cs[3]? → arr[o + 4]? = cs[4]? → arr[o + 5]? = cs[5]? → ∀ j, j < cs.length → arr[o + j]? = cs[j]? := by
    intro arr cs o hl h0 h1 h2 h3 h4 h5 j hj
    have hj' : j = 0 ∨ j = 1 ∨ j = 2 ∨ j = 3 ∨ j = 4 ∨ j = 5 := by omega
    rcases hj' with rfl | rfl | rfl | rfl | rfl | rfl
    · exact h0
    · exact h1
    · exact h2
    · exact h3
    · exact h4
    · exact h5
  have r1 : Expr.rds w [nm 105] (some ⟨ga, 0, none⟩) 0 := by
    simp only [Expr.rds]
    exact ⟨⟨ga, 0, _, rfl, nm_rd w 105 none, els ha 0 _ (i5 _ _ _ rfl rfl rfl rfl rfl rfl)⟩, trivial⟩
  unfold litB
  simp only [Stmt.rds]
  refine ⟨⟨gd, 0, [.int .i64 1, .string ⟨#[105]⟩, .int .i64 0, .slice (some ⟨ga, 0, none⟩) 1 1, .slice none 0 0, .slice none 0 0], rfl, ?_, els hd 0 _ (i6 _ _ _ rfl rfl rfl rfl rfl rfl rfl)⟩, trivial⟩
  unfold Stmt.rd
  exact ⟨_, _, _, _, _, _, rfl, Nat.le_refl _, Nat.le_refl _, Nat.le_refl _, by decide, r1, by simp [Stmt.rds], by simp [Stmt.rds]⟩
theorem hq {w : World} {o x : Obj} {g : Nat} (h : w.heap[g]? = some x) : (w.alloc o).heap[g]? = some x := blk_alloc h _
theorem hn {w : World} {o : Obj} {g : Nat} (h : g = w.heap.size) : (w.alloc o).heap[g]? = some o := by subst h; exact blk_new _ _
theorem alive1 (W : World) (A : Option Addr) (c : Nat) (hrd : Stmt.rds W litA A 0) : Calls Try.prog 18 #[.slice A 2 c, .int .i64 0] W fun e w' => ∃ v, e = .returned (.tuple #[v, .int .i64 0]) ∧ Row w' 3 1 v 5 [.int .i64 1, .int .i64 3, .int .i64 3, .int .i64 2, .int .i64 3] ∧ Stmt.rds w' litA A 0 ∧ Below W.heap.size W w' := by
  have h := slots_calls W litA A c 0 hrd (by decide) W (Below.refl _ _)
  rw [litA_slots] at h
  exact h.mono fun e w' ⟨v, h1, h2, h3⟩ => ⟨v, h1, h2, Stmt.rds_keep h3 hrd, h3⟩
theorem alive2 (W : World) (A : Option Addr) (c : Nat) (hrd : Stmt.rds W litA A 0) : Calls Try.prog 19 #[.slice A 2 c, .int .i64 0] W fun e w' => e = .returned (.tuple #[.int .i64 1, .int .i64 0]) ∧ Below W.heap.size W w' := by
  have h := most_calls W litA A c 0 hrd (by decide) W (Below.refl _ _)
  rw [litA_most] at h
  exact h
theorem alive3 (W : World) (A : Option Addr) (c : Nat) (hrd : Stmt.rds W litB A 0) : Calls Try.prog 18 #[.slice A 1 c, .int .i64 0] W fun e w' => ∃ v, e = .returned (.tuple #[v, .int .i64 61]) ∧ Below W.heap.size W w' := by
  have h := slots_calls W litB A c 0 hrd (by decide) W (Below.refl _ _)
  rw [litB_slots] at h
  exact h.mono fun e w' ⟨v, h1, h2, h3⟩ => ⟨v, h1, h3⟩
theorem alive4 (W w : World) (va : Value) (B : Option Addr) (cb : Nat) (ha : Row W 3 1 va 5 [.int .i64 1, .int .i64 3, .int .i64 3, .int .i64 2, .int .i64 3]) (hB : Below W.heap.size W w) (hb : Row w 3 1 (.slice B 5 cb) 5 [.int .i64 1, .int .i64 3, .int .i64 3, .int .i64 2, .int .i64 3]) :
    Calls Try.prog 21 #[va, .slice B 5 cb] w fun e w' => e = .returned (.bool true) ∧ Below w.heap.size w w' :=
  row6_calls [1, 3, 3, 2, 3] [1, 3, 3, 2, 3] va _ w (by decide) (ha.keep fun g hg => hB.block g (ha.lt hg)) hb
set_option maxRecDepth 100000 in
set_option maxHeartbeats 1000000 in
theorem alive_calls (w : World) : Calls Try.prog 17 #[] w fun e w' => e = .returned (.bool true) ∧ Below w.heap.size w w' := by
  go_enter Try.func17, Try.ntmps17
  go_wp2_with (first
    | (go_at_call 21; go_must (refine (alive4 w1 _ v1 _ _ hr1 (hc3.alloc hc3.size _) (Row.laid rfl rfl (by decide))).mono ?_); rintro x w4 ⟨rfl, hb4⟩)
    | (go_at_call 18; have _h := hb2; go_must (refine (alive3 _ _ _ (litB_rds (ga := w2.heap.size) (gd := w2.heap.size + 1) (ta := 41) (td := 43) (hq (hn rfl)) (hn (by simp)))).mono ?_); rintro x w3 ⟨v3, rfl, hb3⟩; have hc3 : Below w1.heap.size w1 w3 := hb2.trans ((Below.trans (Below.alloc (Below.alloc (Below.refl w2.heap.size w2) (Nat.le_refl _) _) (by simp) _) (hb3.mono (by simp; omega))).mono hb2.size))
    | (go_at_call 19; go_must (refine (alive2 _ _ _ hrd1).mono ?_); rintro x w2 ⟨rfl, hb2⟩; have hx2 := below_blk hb2 hx1 (blk_lt hx1); have q0 := blk_cell hx2 0; have q1 := blk_cell hx2 1; have q2 := blk_cell hx2 2; have q3 := blk_cell hx2 3; have q4 := blk_cell hx2 4; clear hx2)
    | (go_at_call 18; go_must (refine (alive1 _ _ _ (litA_rds (ga := w.heap.size + 1) (gb := w.heap.size + 1 + 1) (gc := w.heap.size + 1 + 1 + 1) (gd := w.heap.size + 1 + 1 + 1 + 1) (ta := 41) (td := 43) (hq (hq (hq (hn (by simp))))) (hq (hq (hn (by simp)))) (hq (hn (by simp))) (hn (by simp)))).mono ?_); rintro x w1 ⟨v1, rfl, hr1, hrd1, hb1⟩; have hx1 := below_blk (g := w.heap.size) (o := .cells #[.int .i64 2, .int .i64 0, .string ⟨#[105]⟩, .int .i64 0, .slice none 0 0] 41) hb1 (hq (hq (hq (hq (hn rfl))))) (by simp; omega)))
  go_ret
  refine ⟨rfl, ?_⟩
  have h0 := Below.trans (Below.alloc (Below.alloc (Below.alloc (Below.alloc (Below.alloc (Below.refl w.heap.size w) (Nat.le_refl _) _) (by simp) _) (by simp; omega) _) (by simp; omega) _) (by simp; omega) _) (hb1.mono (by simp; omega))
  exact ((h0.trans (hc3.mono h0.size)).alloc (by have := h0.size; have := hc3.size; omega) _).trans (hb4.mono (by have := h0.size; have := hc3.size; simp; omega))
end Go.Proofs.Ytenocgeafmonmaa.My
