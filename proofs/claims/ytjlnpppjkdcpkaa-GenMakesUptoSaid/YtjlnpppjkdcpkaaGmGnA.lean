/- Two rows of instructions that are alike are told the same; alive of law 10. No conditions. -/
import Derived.Test.YtjlnpppjkdcpkaaGmGnD
import Derived.Test.YtjlnpppjkdcpkaaGmEvU
namespace Go.Proofs.Ytjlnpppjkdcpkaa.My
open Go.RowKit Go.Proofs.Ytjlnpppjkdcpkaa.NumA
set_option linter.unusedVariables false
set_option linter.unusedSimpArgs false
theorem ins_at {w : World} {l : List Ins} {A : Option Addr} {n c : Nat} (h : Row w 42 6 (.slice A n c) n (insCells l)) {k : Nat} (hk : k < l.length) : ∃ g, A = some ⟨g, 0, none⟩ ∧ w.cell? ⟨g, k * 6, none⟩ = some (.int .i64 l[k].kind) ∧ w.cell? ⟨g, k * 6 + 1, none⟩ = some (.int .i64 l[k].op) ∧ w.cell? ⟨g, k * 6 + 2, none⟩ = some (.int .i64 l[k].a) ∧ w.cell? ⟨g, k * 6 + 3, none⟩ = some (.int .i64 l[k].b) ∧ w.cell? ⟨g, k * 6 + 4, none⟩ = some (.int .i64 l[k].c) ∧ w.cell? ⟨g, k * 6 + 5, none⟩ = some (.int .i64 l[k].n) := by
  have q := fun m hm => insCells_get l k m hk hm
  obtain ⟨g, e, x0⟩ := h.cellA (q 0 (by omega))
  subst e
  have f : ∀ m (hm : m < 6) u, (l[k].cells)[m]? = some u → w.cell? ⟨g, k * 6 + m, none⟩ = some u := fun m hm u hu => by
    obtain ⟨g', e, x⟩ := h.cellA ((q m hm).trans hu)
    simp only [Option.some.injEq, Addr.mk.injEq] at e
    obtain ⟨e, _⟩ := e
    subst e
    exact x
  exact ⟨g, rfl, f 0 (by omega) _ rfl, f 1 (by omega) _ rfl, f 2 (by omega) _ rfl, f 3 (by omega) _ rfl, f 4 (by omega) _ rfl, f 5 (by omega) _ rfl⟩
set_option maxRecDepth 100000 in
set_option maxHeartbeats 2000000 in
theorem isame_calls (w : World) (l : List Ins) (M1 M2 : Value) (h1 : Row w 42 6 M1 l.length (insCells l)) (h2 : Row w 42 6 M2 l.length (insCells l)) :
    Calls Try.prog 15 #[M1, M2] w fun e w' => e = .returned (.bool true) ∧ Below w.heap.size w w' := by
  have hml := h1.bound
  unfold maxLen at hml
  obtain ⟨A1, c1, rfl, _⟩ := h1.slice
  obtain ⟨A2, c2, rfl, _⟩ := h2.slice
  have H1 := Lib.hid h1
  have H2 := Lib.hid h2
  clear h1 h2
  have hnn : ((l.length : Int) != (l.length : Int)) = false := by simp
  go_enter Try.func15, Try.ntmps15
  go_wp2
  go_loopw [5] (fun i wr => ∃ k : Nat, i = .int .i64 (k : Int) ∧ k ≤ l.length ∧ Hid (Below w.heap.size w wr)) (fun i _ => l.length - (intOf i).toNat)
  case atStart => exact ⟨0, rfl, Nat.zero_le _, Lib.hid (Below.refl _ _)⟩
  case round =>
    obtain ⟨k, rfl, hk, HB⟩ := hrel
    by_cases hlt : k < l.length
    · have hlt' : (k : Int) < (l.length : Int) := by omega
      have hk0 : (0 : Int) ≤ (k : Int) := by omega
      obtain ⟨g1, e1, x10, x11, x12, x13, x14, x15⟩ := ins_at (H1.out.below HB.out) hlt
      obtain ⟨g2, e2, x20, x21, x22, x23, x24, x25⟩ := ins_at (H2.out.below HB.out) hlt
      subst e1; subst e2
      generalize l[k].kind = v0 at x10 x20
      generalize l[k].op = v1 at x11 x21
      generalize l[k].a = v2 at x12 x22
      generalize l[k].b = v3 at x13 x23
      generalize l[k].c = v4 at x14 x24
      generalize l[k].n = v5 at x15 x25
      go_wp2
      go_quiet ((fail))
      go_wp2
      go_roundw
      case rel => exact ⟨k + 1, by go_num, by omega, Lib.hid (below_drewN HB.out _)⟩
      case measure => simp [intOf]; omega
    · have hk' : k = l.length := by omega
      subst hk'
      go_wp2
      go_ret
      exact ⟨rfl, HB.out⟩
def kE : Expr := .mk 2 0 ⟨#[107]⟩ 0 []
def subE : Expr := .mk 5 0 ⟨#[]⟩ 2 [kE, numE 1]
def setS : Stmt := .mk 2 ⟨#[107]⟩ 0 [subE] [] []
def whileS : Stmt := .mk 7 ⟨#[]⟩ 0 [kE] [setS] []
def litG : List Stmt := [whileS]
def litI : List Ins := [⟨11, 0, 2, 0, 0, 4⟩, ⟨2, 0, 11, 0, 0, 1⟩, ⟨5, 2, 2, 2, 11, 0⟩, ⟨10, 0, 0, 0, 0, 0⟩, ⟨1, 0, 0, 0, 0, 0⟩]
theorem litG_right : rightP nameB litG = true := by decide
theorem litG_slots : slotsP litG 0 = ([2, 2, 2], 0) := by
  simp [slotsP, litG, whileS, setS, subE, kE, numE, stmtsS, stmtS, blockS, exprsS, exprS, kindS, look, regOf]
theorem litG_block : blockG ⟨[], [2, 2, 2]⟩ litG = some ⟨[⟨11, 0, 2, 0, 0, 4⟩, ⟨2, 0, 11, 0, 0, 1⟩, ⟨5, 2, 2, 2, 11, 0⟩, ⟨10, 0, 0, 0, 0, 0⟩], []⟩ := by kernel_rfl
theorem litG_gen : genP litG 0 = (litI, 0) := by
  unfold genP
  rw [litG_right, litG_slots]
  simp only [litG_block]
  rfl
theorem litG_laid (w0 : World) (b : Nat) (hb : w0.heap.size = b) : Stmt.rds (((((w0.alloc (.cells #[.int .i64 2, .int .i64 0, .string ⟨#[107]⟩, .int .i64 0, .slice none 0 0] 66)).alloc (.cells #[.int .i64 2, .int .i64 0, .string ⟨#[107]⟩, .int .i64 0, .slice none 0 0, .int .i64 1, .int .i64 1, .string ⟨#[]⟩, .int .i64 0, .slice none 0 0] 66)).alloc (.cells #[.int .i64 5, .int .i64 0, .string ⟨#[]⟩, .int .i64 2, .slice (some ⟨b + 1, 0, none⟩) 2 2] 66)).alloc (.cells #[.int .i64 2, .string ⟨#[107]⟩, .int .i64 0, .slice (some ⟨b + 1 + 1, 0, none⟩) 1 1, .slice none 0 0, .slice none 0 0] 36)).alloc (.cells #[.int .i64 7, .string ⟨#[]⟩, .int .i64 0, .slice (some ⟨b, 0, none⟩) 1 1, .slice (some ⟨b + 1 + 1 + 1, 0, none⟩) 1 1, .slice none 0 0] 36)) litG (some ⟨b + 1 + 1 + 1 + 1, 0, none⟩) 0 := by
  have z1 : (w0.alloc (.cells #[.int .i64 2, .int .i64 0, .string ⟨#[107]⟩, .int .i64 0, .slice none 0 0] 66)).heap.size = b + 1 := by rw [size_al, hb]
  have z2 : ((w0.alloc (.cells #[.int .i64 2, .int .i64 0, .string ⟨#[107]⟩, .int .i64 0, .slice none 0 0] 66)).alloc (.cells #[.int .i64 2, .int .i64 0, .string ⟨#[107]⟩, .int .i64 0, .slice none 0 0, .int .i64 1, .int .i64 1, .string ⟨#[]⟩, .int .i64 0, .slice none 0 0] 66)).heap.size = b + 1 + 1 := by rw [size_al, z1]
  have z3 : (((w0.alloc (.cells #[.int .i64 2, .int .i64 0, .string ⟨#[107]⟩, .int .i64 0, .slice none 0 0] 66)).alloc (.cells #[.int .i64 2, .int .i64 0, .string ⟨#[107]⟩, .int .i64 0, .slice none 0 0, .int .i64 1, .int .i64 1, .string ⟨#[]⟩, .int .i64 0, .slice none 0 0] 66)).alloc (.cells #[.int .i64 5, .int .i64 0, .string ⟨#[]⟩, .int .i64 2, .slice (some ⟨b + 1, 0, none⟩) 2 2] 66)).heap.size = b + 1 + 1 + 1 := by rw [size_al, z2]
  have z4 : ((((w0.alloc (.cells #[.int .i64 2, .int .i64 0, .string ⟨#[107]⟩, .int .i64 0, .slice none 0 0] 66)).alloc (.cells #[.int .i64 2, .int .i64 0, .string ⟨#[107]⟩, .int .i64 0, .slice none 0 0, .int .i64 1, .int .i64 1, .string ⟨#[]⟩, .int .i64 0, .slice none 0 0] 66)).alloc (.cells #[.int .i64 5, .int .i64 0, .string ⟨#[]⟩, .int .i64 2, .slice (some ⟨b + 1, 0, none⟩) 2 2] 66)).alloc (.cells #[.int .i64 2, .string ⟨#[107]⟩, .int .i64 0, .slice (some ⟨b + 1 + 1, 0, none⟩) 1 1, .slice none 0 0, .slice none 0 0] 36)).heap.size = b + 1 + 1 + 1 + 1 := by rw [size_al, z3]
  have k0 : ∀ w : World, kE.rd w [.int .i64 2, .int .i64 0, .string ⟨#[107]⟩, .int .i64 0, .slice none 0 0] := fun w => mkE (by decide) (Nat.le_refl _) (by simp [Expr.rds])
  have o0 : ∀ w : World, (numE 1).rd w [.int .i64 1, .int .i64 1, .string ⟨#[]⟩, .int .i64 0, .slice none 0 0] := fun w => mkE (by decide) (Nat.le_refl _) (by simp [Expr.rds])
  have r1 := laidE1 (w := w0) (T := 66) (k0 w0)
  rw [hb] at r1
  have r2 := laidE2 (w := w0.alloc (.cells #[.int .i64 2, .int .i64 0, .string ⟨#[107]⟩, .int .i64 0, .slice none 0 0] 66)) (T := 66) (k0 _) (o0 _)
  rw [z1] at r2
  have r3 := laidE1 (w := (w0.alloc (.cells #[.int .i64 2, .int .i64 0, .string ⟨#[107]⟩, .int .i64 0, .slice none 0 0] 66)).alloc (.cells #[.int .i64 2, .int .i64 0, .string ⟨#[107]⟩, .int .i64 0, .slice none 0 0, .int .i64 1, .int .i64 1, .string ⟨#[]⟩, .int .i64 0, .slice none 0 0] 66)) (T := 66) (e := subE) (mkE (by decide) (Nat.le_refl _) r2)
  rw [z2] at r3
  have r4 := laidS1 (w := ((w0.alloc (.cells #[.int .i64 2, .int .i64 0, .string ⟨#[107]⟩, .int .i64 0, .slice none 0 0] 66)).alloc (.cells #[.int .i64 2, .int .i64 0, .string ⟨#[107]⟩, .int .i64 0, .slice none 0 0, .int .i64 1, .int .i64 1, .string ⟨#[]⟩, .int .i64 0, .slice none 0 0] 66)).alloc (.cells #[.int .i64 5, .int .i64 0, .string ⟨#[]⟩, .int .i64 2, .slice (some ⟨b + 1, 0, none⟩) 2 2] 66)) (T := 36) (e := setS) (mkS (by decide) (Nat.le_refl _) r3)
  rw [z3] at r4
  have r1a : Expr.rds ((w0.alloc (.cells #[.int .i64 2, .int .i64 0, .string ⟨#[107]⟩, .int .i64 0, .slice none 0 0] 66)).alloc (.cells #[.int .i64 2, .int .i64 0, .string ⟨#[107]⟩, .int .i64 0, .slice none 0 0, .int .i64 1, .int .i64 1, .string ⟨#[]⟩, .int .i64 0, .slice none 0 0] 66)) [kE] (some ⟨b, 0, none⟩) 0 := Expr.rds_keep (Below.refl _ _).al r1
  have r1b : Expr.rds (((w0.alloc (.cells #[.int .i64 2, .int .i64 0, .string ⟨#[107]⟩, .int .i64 0, .slice none 0 0] 66)).alloc (.cells #[.int .i64 2, .int .i64 0, .string ⟨#[107]⟩, .int .i64 0, .slice none 0 0, .int .i64 1, .int .i64 1, .string ⟨#[]⟩, .int .i64 0, .slice none 0 0] 66)).alloc (.cells #[.int .i64 5, .int .i64 0, .string ⟨#[]⟩, .int .i64 2, .slice (some ⟨b + 1, 0, none⟩) 2 2] 66)) [kE] (some ⟨b, 0, none⟩) 0 := Expr.rds_keep (Below.refl _ _).al r1a
  have r1' : Expr.rds ((((w0.alloc (.cells #[.int .i64 2, .int .i64 0, .string ⟨#[107]⟩, .int .i64 0, .slice none 0 0] 66)).alloc (.cells #[.int .i64 2, .int .i64 0, .string ⟨#[107]⟩, .int .i64 0, .slice none 0 0, .int .i64 1, .int .i64 1, .string ⟨#[]⟩, .int .i64 0, .slice none 0 0] 66)).alloc (.cells #[.int .i64 5, .int .i64 0, .string ⟨#[]⟩, .int .i64 2, .slice (some ⟨b + 1, 0, none⟩) 2 2] 66)).alloc (.cells #[.int .i64 2, .string ⟨#[107]⟩, .int .i64 0, .slice (some ⟨b + 1 + 1, 0, none⟩) 1 1, .slice none 0 0, .slice none 0 0] 36)) [kE] (some ⟨b, 0, none⟩) 0 := Expr.rds_keep (Below.refl _ _).al r1b
  have r5 : whileS.rd ((((w0.alloc (.cells #[.int .i64 2, .int .i64 0, .string ⟨#[107]⟩, .int .i64 0, .slice none 0 0] 66)).alloc (.cells #[.int .i64 2, .int .i64 0, .string ⟨#[107]⟩, .int .i64 0, .slice none 0 0, .int .i64 1, .int .i64 1, .string ⟨#[]⟩, .int .i64 0, .slice none 0 0] 66)).alloc (.cells #[.int .i64 5, .int .i64 0, .string ⟨#[]⟩, .int .i64 2, .slice (some ⟨b + 1, 0, none⟩) 2 2] 66)).alloc (.cells #[.int .i64 2, .string ⟨#[107]⟩, .int .i64 0, .slice (some ⟨b + 1 + 1, 0, none⟩) 1 1, .slice none 0 0, .slice none 0 0] 36)) [.int .i64 7, .string ⟨#[]⟩, .int .i64 0, .slice (some ⟨b, 0, none⟩) 1 1, .slice (some ⟨b + 1 + 1 + 1, 0, none⟩) 1 1, .slice none 0 0] := by
    unfold whileS
    simp only [Stmt.rd]
    exact ⟨_, _, _, _, _, _, rfl, Nat.le_refl _, Nat.le_refl _, Nat.le_refl _, by decide, r1', r4, by simp [Stmt.rds]⟩
  have r6 := laidS1 (T := 36) r5
  rw [z4] at r6
  exact r6
set_option maxRecDepth 100000 in
set_option maxHeartbeats 2000000 in
theorem aliveG_calls (w : World) : Calls Try.prog 16 #[] w fun e w' => e = .returned (.bool true) ∧ Below w.heap.size w w' := by
  have hx0 := blk_alloc (blk_new w (.cells #[.int .i64 2, .int .i64 0, .string ⟨#[107]⟩, .int .i64 0, .slice none 0 0] 66)) (.cells #[.int .i64 1, .int .i64 1, .string ⟨#[]⟩, .int .i64 0, .slice none 0 0] 66)
  have hx1 := blk_new (w.alloc (.cells #[.int .i64 2, .int .i64 0, .string ⟨#[107]⟩, .int .i64 0, .slice none 0 0] 66)) (.cells #[.int .i64 1, .int .i64 1, .string ⟨#[]⟩, .int .i64 0, .slice none 0 0] 66)
  rw [size_al] at hx1
  have hb0 : Below w.heap.size w ((w.alloc (.cells #[.int .i64 2, .int .i64 0, .string ⟨#[107]⟩, .int .i64 0, .slice none 0 0] 66)).alloc (.cells #[.int .i64 1, .int .i64 1, .string ⟨#[]⟩, .int .i64 0, .slice none 0 0] 66)) := ((Below.refl _ _).al).al
  obtain ⟨w0, hw0⟩ : ∃ w0, ((w.alloc (.cells #[.int .i64 2, .int .i64 0, .string ⟨#[107]⟩, .int .i64 0, .slice none 0 0] 66)).alloc (.cells #[.int .i64 1, .int .i64 1, .string ⟨#[]⟩, .int .i64 0, .slice none 0 0] 66)) = w0 := ⟨_, rfl⟩
  rw [hw0] at hx0 hx1 hb0
  have hcp := compile_calls _ litG _ 1 (litG_laid w0 _ rfl) (by decide) 0 _ (Below.refl _ _)
  rw [litG_gen] at hcp
  have HCP := Lib.hid hcp
  clear hcp
  have HB0 := Lib.hid hb0
  have HW := Lib.hid hw0
  have k0 := blk_cell hx0 0
  have k1 := blk_cell hx0 1
  have k2 := blk_cell hx0 2
  have k3 := blk_cell hx0 3
  have k4 := blk_cell hx0 4
  have m0 := fun o => (Below.al (Below.refl w0.heap.size w0) (o := o)).cellOf k0
  have m1 := fun o => (Below.al (Below.refl w0.heap.size w0) (o := o)).cellOf k1
  have m2 := fun o => (Below.al (Below.refl w0.heap.size w0) (o := o)).cellOf k2
  have m3 := fun o => (Below.al (Below.refl w0.heap.size w0) (o := o)).cellOf k3
  have m4 := fun o => (Below.al (Below.refl w0.heap.size w0) (o := o)).cellOf k4
  have n0 := fun o => (Below.al (Below.refl w0.heap.size w0) (o := o)).cellOf (blk_cell hx1 0)
  have n1 := fun o => (Below.al (Below.refl w0.heap.size w0) (o := o)).cellOf (blk_cell hx1 1)
  have n2 := fun o => (Below.al (Below.refl w0.heap.size w0) (o := o)).cellOf (blk_cell hx1 2)
  have n3 := fun o => (Below.al (Below.refl w0.heap.size w0) (o := o)).cellOf (blk_cell hx1 3)
  have n4 := fun o => (Below.al (Below.refl w0.heap.size w0) (o := o)).cellOf (blk_cell hx1 4)
  clear hx0 hx1 hb0 hw0
  go_enter Try.func16, Try.ntmps16
  go_wp2_with (have tk := HW; clear tk; rw [HW.out]; clear HW)
  refine HCP.out.mono ?_
  rintro E w6 ⟨hb6, V, rfl, hrow, hown⟩
  simp only at hrow
  obtain ⟨A6, c6, hV, _⟩ := hrow.slice
  subst hV
  obtain ⟨g, eg, x0, x1, x2, x3, x4, x5⟩ := ins_at hrow (k := 0) (by decide)
  subst eg
  obtain ⟨g', eg, y0, y1, y2, y3, y4, y5⟩ := ins_at hrow (k := 2) (by decide)
  obtain rfl : g = g' := congrArg Addr.block (Option.some.inj eg)
  obtain ⟨g', eg2, z0, _, _, _, _, _⟩ := ins_at hrow (k := 4) (by decide)
  obtain rfl : g = g' := congrArg Addr.block (Option.some.inj eg2)
  have hlen : litI.length = 5 := rfl
  rw [hlen]
  simp only [litI, List.getElem_cons_zero, List.getElem_cons_succ, Nat.zero_mul, Nat.zero_add] at x0 x1 x2 x3 x4 x5 y0 y1 y2 y3 y4 y5 z0
  have HB6 := Lib.hid (HB0.out.trans (Below.mono ((((((Below.refl w0.heap.size w0).al).al).al).al).al |>.trans (hb6.mono (by simp; omega))) HB0.out.size))
  clear hb6 hrow hown eg eg2 k0 k1 k2 k3 k4 m0 m1 m2 m3 m4 n0 n1 n2 n3 n4
  go_wp2
  go_ret
  exact ⟨rfl, HB6.out⟩
end Go.Proofs.Ytjlnpppjkdcpkaa.My
