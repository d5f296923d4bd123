/- Layer 7: the fact of the layer, alive: it is true. -/
import Derived.Test.YtjlnpppjkdcpkaaEREvR
import Derived.Test.YtjlnpppjkdcpkaaERInv
import Derived.Deep.CutRange
namespace Go.Proofs.Ytjlnpppjkdcpkaa.My
open Go.RowKit Go.Proofs.Ytjlnpppjkdcpkaa.NumA
set_option linter.unusedVariables false
set_option linter.unusedSimpArgs false
theorem els {w : World} {g : Nat} {arr : Array Value} {t : TypeId} (h : w.heap[g]? = some (.cells arr t (0, 0))) (o : Nat) (cs : List Value) (hc : ∀ j, j < cs.length → arr[o + j]? = cs[j]?) : ∀ j u, cs[j]? = some u → w.cell? ⟨g, o + j, none⟩ = some u := by
 intro j u hu; rw [blk_cell h, hc j, hu]; exact (List.getElem?_eq_some_iff.1 hu).1
theorem j5 (arr : Array Value) (cs : List Value) (o : Nat) (hl : cs.length = 5) (h0 : arr[o]? = cs[0]?) (h1 : arr[o + 1]? = cs[1]?) (h2 : arr[o + 2]? = cs[2]?) (h3 : arr[o + 3]? = cs[3]?) (h4 : arr[o + 4]? = cs[4]?) : ∀ j, j < cs.length → arr[o + j]? = cs[j]? := by
 intro j hj; have hj' : j = 0 ∨ j = 1 ∨ j = 2 ∨ j = 3 ∨ j = 4 := by omega
 rcases hj' with rfl | rfl | rfl | rfl | rfl
 ·exact h0
 ·exact h1
 ·exact h2
 ·exact h3
 ·exact h4
theorem i6 (arr : Array Value) (cs : List Value) (o : Nat) (hl : cs.length = 6) (h0 : arr[o]? = cs[0]?) (h1 : arr[o + 1]? = cs[1]?) (h2 : arr[o + 2]? = cs[2]?) (h3 : arr[o + 3]? = cs[3]?) (h4 : arr[o + 4]? = cs[4]?) (h5 : arr[o + 5]? = cs[5]?) : ∀ j, j < cs.length → arr[o + j]? = cs[j]? := by
 intro j hj; have hj' : j = 0 ∨ j = 1 ∨ j = 2 ∨ j = 3 ∨ j = 4 ∨ j = 5 := by omega
 rcases hj' with rfl | rfl | rfl | rfl | rfl | rfl
 ·exact h0
 ·exact h1
 ·exact h2
 ·exact h3
 ·exact h4
 ·exact h5
theorem laidE1 {w : World} {e : Expr} {x0 x1 x2 x3 x4 : Value} {T : TypeId} (h : e.rd w [x0, x1, x2, x3, x4]) : Expr.rds (w.alloc (.cells #[x0, x1, x2, x3, x4] T)) [e] (some ⟨w.heap.size, 0, none⟩) 0 := by
 simp only [Expr.rds]
 exact ⟨⟨_, 0, _, rfl, Expr.rd_keep (Below.refl _ _).al h, els (blk_new w _) 0 _ (j5 _ _ _ rfl rfl rfl rfl rfl rfl)⟩, trivial⟩
theorem laidE2 {w : World} {e f : Expr} {x0 x1 x2 x3 x4 y0 y1 y2 y3 y4 : Value} {T : TypeId} (h : e.rd w [x0, x1, x2, x3, x4]) (h' : f.rd w [y0, y1, y2, y3, y4]) : Expr.rds (w.alloc (.cells #[x0, x1, x2, x3, x4, y0, y1, y2, y3, y4] T)) [e, f] (some ⟨w.heap.size, 0, none⟩) 0 := by
 simp only [Expr.rds]
 exact ⟨⟨_, 0, _, rfl, Expr.rd_keep (Below.refl _ _).al h, els (blk_new w _) 0 _ (j5 _ _ _ rfl rfl rfl rfl rfl rfl)⟩, ⟨_, 0, _, rfl, Expr.rd_keep (Below.refl _ _).al h', els (blk_new w _) 5 _ (j5 _ _ _ rfl rfl rfl rfl rfl rfl)⟩, trivial⟩
theorem laidS2 {w : World} {e f : Stmt} {x0 x1 x2 x3 x4 x5 y0 y1 y2 y3 y4 y5 : Value} {T : TypeId} (h : e.rd w [x0, x1, x2, x3, x4, x5]) (h' : f.rd w [y0, y1, y2, y3, y4, y5]) : Stmt.rds (w.alloc (.cells #[x0, x1, x2, x3, x4, x5, y0, y1, y2, y3, y4, y5] T)) [e, f] (some ⟨w.heap.size, 0, none⟩) 0 := by
 simp only [Stmt.rds]
 exact ⟨⟨_, 0, _, rfl, Stmt.rd_keep (Below.refl _ _).al h, els (blk_new w _) 0 _ (i6 _ _ _ rfl rfl rfl rfl rfl rfl rfl)⟩, ⟨_, 0, _, rfl, Stmt.rd_keep (Below.refl _ _).al h', els (blk_new w _) 6 _ (i6 _ _ _ rfl rfl rfl rfl rfl rfl rfl)⟩, trivial⟩
theorem mkE {w : World} {k n o : Int} {s : ByteArray} {l : List Expr} {A : Option Addr} {c : Nat} (hs : s.size ≤ maxLen) (hc : l.length ≤ c) (h : Expr.rds w l A 0) : Expr.rd w (.mk k n s o l) [.int .i64 k, .int .i64 n, .string s, .int .i64 o, .slice A l.length c] := by
 unfold Expr.rd
 exact ⟨_, _, rfl, hc, hs, h⟩
theorem mkS {w : World} {k n : Int} {s : ByteArray} {l : List Expr} {A : Option Addr} {c : Nat} (hs : s.size ≤ maxLen) (hc : l.length ≤ c) (h : Expr.rds w l A 0) : Stmt.rd w (.mk k s n l [] []) [.int .i64 k, .string s, .int .i64 n, .slice A l.length c, .slice none 0 0, .slice none 0 0] := by
 unfold Stmt.rd
 exact ⟨_, _, _, _, _, _, rfl, hc, Nat.le_refl _, Nat.le_refl _, hs, h, by simp [Stmt.rds], by simp [Stmt.rds]⟩
def numE (n : Int) : Expr := .mk 1 n ⟨#[]⟩ 0 []
def iE : Expr := .mk 2 0 ⟨#[105]⟩ 0 []
def addE : Expr := .mk 5 0 ⟨#[]⟩ 1 [iE, numE 1]
def memE : Expr := .mk 3 0 ⟨#[]⟩ 0 [numE 1]
def mulE : Expr := .mk 5 0 ⟨#[]⟩ 3 [memE, numE 2]
def st1 : Stmt := .mk 3 ⟨#[]⟩ 0 [numE 1, addE] [] []
def st2 : Stmt := .mk 4 ⟨#[]⟩ 0 [mulE] [] []
def litE : List Stmt := [st1, st2]
theorem numE_rd (n : Int) (w : World) : Expr.rd w (numE n) [.int .i64 1, .int .i64 n, .string ⟨#[]⟩, .int .i64 0, .slice none 0 0] := mkE (l := []) (show 0 ≤ maxLen by decide) (Nat.le_refl _) (by simp [Expr.rds])
theorem iE_rd (w : World) : Expr.rd w iE [.int .i64 2, .int .i64 0, .string ⟨#[105]⟩, .int .i64 0, .slice none 0 0] := mkE (l := []) (show 1 ≤ maxLen by decide) (Nat.le_refl _) (by simp [Expr.rds])
def RA (i : Nat) (v : Value) (w : World) : Prop := match i with
 | 0 => v = .func (.func 44) #[] #[]
 | 1 => ∃ A c, v = .agg #[.int .i64 1, .int .i64 1, .string ⟨#[]⟩, .int .i64 0, .slice A 0 c] ∧ Expr.rd w (numE 1) [.int .i64 1, .int .i64 1, .string ⟨#[]⟩, .int .i64 0, .slice A 0 c]
 | 2 => ∃ A c, v = .agg #[.int .i64 2, .int .i64 0, .string ⟨#[105]⟩, .int .i64 0, .slice A 0 c] ∧ Expr.rd w iE [.int .i64 2, .int .i64 0, .string ⟨#[105]⟩, .int .i64 0, .slice A 0 c]
 | 3 => v = .func (.func 44) #[] #[]
 | 4 => ∃ A c, v = .agg #[.int .i64 1, .int .i64 1, .string ⟨#[]⟩, .int .i64 0, .slice A 0 c] ∧ Expr.rd w (numE 1) [.int .i64 1, .int .i64 1, .string ⟨#[]⟩, .int .i64 0, .slice A 0 c]
 | 5 => ∃ g, v = .slice (some ⟨g, 0, none⟩) 2 2 ∧ Expr.rds w [iE, (numE 1)] (some ⟨g, 0, none⟩) 0
 | 6 => ∃ A c, v = .agg #[.int .i64 5, .int .i64 0, .string ⟨#[]⟩, .int .i64 1, .slice A 2 c] ∧ Expr.rd w addE [.int .i64 5, .int .i64 0, .string ⟨#[]⟩, .int .i64 1, .slice A 2 c]
 | 7 => ∃ g, v = .slice (some ⟨g, 0, none⟩) 2 2 ∧ Expr.rds w [(numE 1), addE] (some ⟨g, 0, none⟩) 0
 | 8 => ∃ A c, v = .agg #[.int .i64 3, .string ⟨#[]⟩, .int .i64 0, .slice A 2 c, .slice none 0 0, .slice none 0 0] ∧ Stmt.rd w st1 [.int .i64 3, .string ⟨#[]⟩, .int .i64 0, .slice A 2 c, .slice none 0 0, .slice none 0 0]
 | 9 => v = .func (.func 44) #[] #[]
 | 10 => ∃ A c, v = .agg #[.int .i64 1, .int .i64 1, .string ⟨#[]⟩, .int .i64 0, .slice A 0 c] ∧ Expr.rd w (numE 1) [.int .i64 1, .int .i64 1, .string ⟨#[]⟩, .int .i64 0, .slice A 0 c]
 | 11 => ∃ g, v = .slice (some ⟨g, 0, none⟩) 1 1 ∧ Expr.rds w [(numE 1)] (some ⟨g, 0, none⟩) 0
 | 12 => ∃ A c, v = .agg #[.int .i64 3, .int .i64 0, .string ⟨#[]⟩, .int .i64 0, .slice A 1 c] ∧ Expr.rd w memE [.int .i64 3, .int .i64 0, .string ⟨#[]⟩, .int .i64 0, .slice A 1 c]
 | 13 => v = .func (.func 44) #[] #[]
 | 14 => ∃ A c, v = .agg #[.int .i64 1, .int .i64 2, .string ⟨#[]⟩, .int .i64 0, .slice A 0 c] ∧ Expr.rd w (numE 2) [.int .i64 1, .int .i64 2, .string ⟨#[]⟩, .int .i64 0, .slice A 0 c]
 | 15 => ∃ g, v = .slice (some ⟨g, 0, none⟩) 2 2 ∧ Expr.rds w [memE, (numE 2)] (some ⟨g, 0, none⟩) 0
 | 16 => ∃ A c, v = .agg #[.int .i64 5, .int .i64 0, .string ⟨#[]⟩, .int .i64 3, .slice A 2 c] ∧ Expr.rd w mulE [.int .i64 5, .int .i64 0, .string ⟨#[]⟩, .int .i64 3, .slice A 2 c]
 | 17 => ∃ g, v = .slice (some ⟨g, 0, none⟩) 1 1 ∧ Expr.rds w [mulE] (some ⟨g, 0, none⟩) 0
 | 18 => ∃ A c, v = .agg #[.int .i64 4, .string ⟨#[]⟩, .int .i64 0, .slice A 1 c, .slice none 0 0, .slice none 0 0] ∧ Stmt.rd w st2 [.int .i64 4, .string ⟨#[]⟩, .int .i64 0, .slice A 1 c, .slice none 0 0, .slice none 0 0]
 | 19 => ∃ g, v = .slice (some ⟨g, 0, none⟩) 2 2 ∧ Stmt.rds w litE (some ⟨g, 0, none⟩) 0
 | 20 => ∃ g, v = .slice (some ⟨g, 0, none⟩) 2 2 ∧ Stmt.rds w litE (some ⟨g, 0, none⟩) 0
 | _ => True
theorem RA_mono (k : Nat) (v : Value) (w w' : World) (h : RA k v w) (hB : Below w.heap.size w w') : RA k v w' := by
 match k, h with
 | 0, h => exact h
 | 1, ⟨A, c, h1, h2⟩ => exact ⟨A, c, h1, Expr.rd_keep hB h2⟩
 | 2, ⟨A, c, h1, h2⟩ => exact ⟨A, c, h1, Expr.rd_keep hB h2⟩
 | 3, h => exact h
 | 4, ⟨A, c, h1, h2⟩ => exact ⟨A, c, h1, Expr.rd_keep hB h2⟩
 | 5, ⟨g, h1, h2⟩ => exact ⟨g, h1, Expr.rds_keep hB h2⟩
 | 6, ⟨A, c, h1, h2⟩ => exact ⟨A, c, h1, Expr.rd_keep hB h2⟩
 | 7, ⟨g, h1, h2⟩ => exact ⟨g, h1, Expr.rds_keep hB h2⟩
 | 8, ⟨A, c, h1, h2⟩ => exact ⟨A, c, h1, Stmt.rd_keep hB h2⟩
 | 9, h => exact h
 | 10, ⟨A, c, h1, h2⟩ => exact ⟨A, c, h1, Expr.rd_keep hB h2⟩
 | 11, ⟨g, h1, h2⟩ => exact ⟨g, h1, Expr.rds_keep hB h2⟩
 | 12, ⟨A, c, h1, h2⟩ => exact ⟨A, c, h1, Expr.rd_keep hB h2⟩
 | 13, h => exact h
 | 14, ⟨A, c, h1, h2⟩ => exact ⟨A, c, h1, Expr.rd_keep hB h2⟩
 | 15, ⟨g, h1, h2⟩ => exact ⟨g, h1, Expr.rds_keep hB h2⟩
 | 16, ⟨A, c, h1, h2⟩ => exact ⟨A, c, h1, Expr.rd_keep hB h2⟩
 | 17, ⟨g, h1, h2⟩ => exact ⟨g, h1, Expr.rds_keep hB h2⟩
 | 18, ⟨A, c, h1, h2⟩ => exact ⟨A, c, h1, Stmt.rd_keep hB h2⟩
 | 19, ⟨g, h1, h2⟩ => exact ⟨g, h1, Stmt.rds_keep hB h2⟩
 | 20, ⟨g, h1, h2⟩ => exact ⟨g, h1, Stmt.rds_keep hB h2⟩
 | _ + 21, _ => trivial
set_option maxRecDepth 100000 in
theorem numE_calls (n : Int) (w : World) : Calls Try.prog 44 #[.int .i64 n] w fun e w' => e = .returned (.agg #[.int .i64 1, .int .i64 n, .string ⟨#[]⟩, .int .i64 0, .slice none 0 0]) ∧ w' = w.alloc (.cells #[.int .i64 1, .int .i64 n, .string ⟨#[]⟩, .int .i64 0, .slice none 0 0] 66) := by
 go_enter Try.func44, Try.ntmps44
 go_wp2; refine bodyPost_ret (results_cell rfl _ _ w.heap.size [.int .i64 1, .int .i64 n, .string ⟨#[]⟩, .int .i64 0, .slice none 0 0] (by rfl) (range_at (blk_new w _) 0 [.int .i64 1, .int .i64 n, .string ⟨#[]⟩, .int .i64 0, .slice none 0 0] rfl) rfl rfl (by kernel_rfl)) rfl ?_
 exact ⟨rfl, rfl⟩
theorem litE_slots : (slotsP litE 0).2 = 0 := by simp [slotsP, litE, st1, st2, addE, memE, mulE, iE, numE, stmtsS, stmtS, blockS, kindS, exprS, exprsS, declare, look, regOf, idx]
theorem litE_right : rightP nameB litE = true := by decide
theorem litE_ok : runErr litE 0 ([0, 0] : List Int).length 9 = 0 := by simp [runErr, litE_right, litE_slots]
def endE : Ev := ⟨[⟨#[110]⟩, ⟨#[105]⟩, ⟨#[107]⟩], [0, 4, 0], [0, 5], [10], [], 2⟩
theorem litE_does : Does 9 (.block litE) (startS [0, 0] 0 4 0) endE none := by
 have h1 : Does 9 (.stmt st1) (startS [0, 0] 0 4 0) _ _ := .does (s := st1) (vs := [1, 5]) (by decide) (by decide) (by decide) (by kernel_rfl)
 have e1 : doV (startS [0, 0] 0 4 0).tick st1 (([1, 5] : List Int).getD 0 0) (([1, 5] : List Int).getD 1 0) = (⟨[⟨#[110]⟩, ⟨#[105]⟩, ⟨#[107]⟩], [0, 4, 0], [0, 5], [], [], 1⟩, none) := by kernel_rfl
 rw [e1] at h1; have h2 : Does 9 (.stmt st2) ⟨[⟨#[110]⟩, ⟨#[105]⟩, ⟨#[107]⟩], [0, 4, 0], [0, 5], [], [], 1⟩ _ _ := .does (s := st2) (vs := [10]) (by decide) (by decide) (by decide) (by kernel_rfl)
 have e2 : doV (Ev.tick ⟨[⟨#[110]⟩, ⟨#[105]⟩, ⟨#[107]⟩], [0, 4, 0], [0, 5], [], [], 1⟩) st2 (([10] : List Int).getD 0 0) (([10] : List Int).getD 1 0) = (endE, none) := by kernel_rfl
 rw [e2] at h2; have h3 := Does.block (.next h1 (.next h2 .nil)); exact h3
set_option maxRecDepth 100000 in
set_option maxHeartbeats 4000000 in
theorem aliveE_calls (w : World) : Calls Try.prog 25 #[] w fun e w' => e = .returned (.bool true) ∧ Below w.heap.size w w' := by
 have hx := blk_new w (.cells #[.int .i64 2, .int .i64 0, .string ⟨#[105]⟩, .int .i64 0, .slice none 0 0] 66); obtain ⟨w0, hw0⟩ : ∃ x, w.alloc (.cells #[.int .i64 2, .int .i64 0, .string ⟨#[105]⟩, .int .i64 0, .slice none 0 0] 66) = x := ⟨_, rfl⟩
 have hb0 : Below w.heap.size w w0 := by rw [← hw0]; exact (Below.refl _ _).al
 rw [hw0] at hx; obtain ⟨b, hbb⟩ : ∃ x, w.heap.size = x := ⟨_, rfl⟩
 rw [hbb] at hx; have HX := Lib.hid hx; have HW := Lib.hid hw0; have HBB := Lib.hid hbb; have HB := Lib.hid hb0; clear hx hw0 hbb hb0; go_enter Try.func25, Try.ntmps25
 go_upto_region 3 with (have tk := HW; clear tk; rw [HW.out, HBB.out]; clear HW)
 go_cut [3] from 6 (fun l wx => ∃ g, l = .slice (some ⟨g, 0, none⟩) 2 2 ∧ Hid (Below w.heap.size w wx) ∧ Hid (Stmt.rds wx litE (some ⟨g, 0, none⟩) 0))
 case first =>
  have f0 := blk_cell HX.out 0; have f1 := blk_cell HX.out 1; have f2 := blk_cell HX.out 2; have f3 := blk_cell HX.out 3; have f4 := blk_cell HX.out 4; refine wp_region_inv RA (fun V => Below w0.heap.size w0 V) (by kernel_rfl) (by kernel_rfl) (Below.refl _ _).drew RA_mono ?_ ?_
  ·intro i o ho
   have hi : i < 21 := (Array.getElem?_eq_some_iff.1 ho).1
   obtain rfl | rfl | rfl | rfl | rfl | rfl | rfl | rfl | rfl | rfl | rfl | rfl | rfl | rfl | rfl | rfl | rfl | rfl | rfl | rfl | rfl : i = 0 ∨ i = 1 ∨ i = 2 ∨ i = 3 ∨ i = 4 ∨ i = 5 ∨ i = 6 ∨ i = 7 ∨ i = 8 ∨ i = 9 ∨ i = 10 ∨ i = 11 ∨ i = 12 ∨ i = 13 ∨ i = 14 ∨ i = 15 ∨ i = 16 ∨ i = 17 ∨ i = 18 ∨ i = 19 ∨ i = 20 := by omega
   ·injection ho with ho; subst ho
    intro vals a w K hG hd hf hK; have e0 : a.tmps[1]?.getD undef = .func (.func 44) #[] #[] := by simpa using hf 1 (noB_spec (by kernel_rfl))
    clear hd hf; go_simp; exact hK _ w (Below.refl _ _) hG rfl
   ·injection ho with ho; subst ho
    intro vals a w K hG hd hf hK; obtain ⟨r0, z0⟩ := hd ⟨0, .data⟩ (by simp) rfl
    have e0 : a.tmps[7]?.getD undef = _ := (by simpa using z0 _ 7 rfl rfl : a.tmps[7]?.getD undef = vals 0).trans r0
    clear hd hf r0 z0; go_simp; refine (numE_calls _ _).mono ?_; rintro y w1 ⟨rfl, rfl⟩; exact hK _ _ (Below.refl _ _).al (hG.trans ((Below.refl _ _).al.mono hG.size)) ⟨none, 0, rfl, numE_rd _ _⟩
   ·injection ho with ho; subst ho
    intro vals a w K hG hd hf hK; have e0 : a.tmps[2]?.getD undef = .pointer (some ⟨b, 0, none⟩) := by simpa using hf 2 (noB_spec (by kernel_rfl))
    clear hd hf; have q0 := hG.cellOf f0; have q1 := hG.cellOf f1; have q2 := hG.cellOf f2; have q3 := hG.cellOf f3; have q4 := hG.cellOf f4; go_simp; exact hK _ w (Below.refl _ _) hG ⟨none, 0, rfl, iE_rd _⟩
   ·injection ho with ho; subst ho
    intro vals a w K hG hd hf hK; have e0 : a.tmps[1]?.getD undef = .func (.func 44) #[] #[] := by simpa using hf 1 (noB_spec (by kernel_rfl))
    clear hd hf; go_simp; exact hK _ w (Below.refl _ _) hG rfl
   ·injection ho with ho; subst ho
    intro vals a w K hG hd hf hK; obtain ⟨r0, z0⟩ := hd ⟨3, .data⟩ (by simp) rfl
    have e0 : a.tmps[10]?.getD undef = _ := (by simpa using z0 _ 10 rfl rfl : a.tmps[10]?.getD undef = vals 3).trans r0
    clear hd hf r0 z0; go_simp; refine (numE_calls _ _).mono ?_; rintro y w1 ⟨rfl, rfl⟩; exact hK _ _ (Below.refl _ _).al (hG.trans ((Below.refl _ _).al.mono hG.size)) ⟨none, 0, rfl, numE_rd _ _⟩
   ·injection ho with ho; subst ho
    intro vals a w K hG hd hf hK; obtain ⟨⟨A0, c0, r0, x0⟩, z0⟩ := hd ⟨2, .data⟩ (by simp) rfl
    have e0 : a.tmps[9]?.getD undef = _ := (by simpa using z0 _ 9 rfl rfl : a.tmps[9]?.getD undef = vals 2).trans r0
    obtain ⟨⟨A1, c1, r1, x1⟩, z1⟩ := hd ⟨4, .data⟩ (by simp) rfl
    have e1 : a.tmps[11]?.getD undef = _ := (by simpa using z1 _ 11 rfl rfl : a.tmps[11]?.getD undef = vals 4).trans r1
    clear hd hf r0 z0 r1 z1; go_simp; exact hK _ _ (Below.refl _ _).al (hG.trans ((Below.refl _ _).al.mono hG.size)) ⟨_, rfl, laidE2 x0 x1⟩
   ·injection ho with ho; subst ho
    intro vals a w K hG hd hf hK; obtain ⟨⟨g0, r0, x0⟩, z0⟩ := hd ⟨5, .data⟩ (by simp) rfl
    have e0 : a.tmps[12]?.getD undef = _ := (by simpa using z0 _ 12 rfl rfl : a.tmps[12]?.getD undef = vals 5).trans r0
    clear hd hf r0 z0; go_simp; exact hK _ w (Below.refl _ _) hG ⟨_, _, rfl, mkE (show 0 ≤ maxLen by decide) (Nat.le_refl _) x0⟩
   ·injection ho with ho; subst ho
    intro vals a w K hG hd hf hK; obtain ⟨⟨A0, c0, r0, x0⟩, z0⟩ := hd ⟨1, .data⟩ (by simp) rfl
    have e0 : a.tmps[8]?.getD undef = _ := (by simpa using z0 _ 8 rfl rfl : a.tmps[8]?.getD undef = vals 1).trans r0
    obtain ⟨⟨A1, c1, r1, x1⟩, z1⟩ := hd ⟨6, .data⟩ (by simp) rfl
    have e1 : a.tmps[13]?.getD undef = _ := (by simpa using z1 _ 13 rfl rfl : a.tmps[13]?.getD undef = vals 6).trans r1
    clear hd hf r0 z0 r1 z1; go_simp; exact hK _ _ (Below.refl _ _).al (hG.trans ((Below.refl _ _).al.mono hG.size)) ⟨_, rfl, laidE2 x0 x1⟩
   ·injection ho with ho; subst ho
    intro vals a w K hG hd hf hK; obtain ⟨⟨g0, r0, x0⟩, z0⟩ := hd ⟨7, .data⟩ (by simp) rfl
    have e0 : a.tmps[14]?.getD undef = _ := (by simpa using z0 _ 14 rfl rfl : a.tmps[14]?.getD undef = vals 7).trans r0
    clear hd hf r0 z0; go_simp; exact hK _ w (Below.refl _ _) hG ⟨_, _, rfl, mkS (show 0 ≤ maxLen by decide) (Nat.le_refl _) x0⟩
   ·injection ho with ho; subst ho
    intro vals a w K hG hd hf hK; have e0 : a.tmps[1]?.getD undef = .func (.func 44) #[] #[] := by simpa using hf 1 (noB_spec (by kernel_rfl))
    clear hd hf; go_simp; exact hK _ w (Below.refl _ _) hG rfl
   ·injection ho with ho; subst ho
    intro vals a w K hG hd hf hK; obtain ⟨r0, z0⟩ := hd ⟨9, .data⟩ (by simp) rfl
    have e0 : a.tmps[16]?.getD undef = _ := (by simpa using z0 _ 16 rfl rfl : a.tmps[16]?.getD undef = vals 9).trans r0
    clear hd hf r0 z0; go_simp; refine (numE_calls _ _).mono ?_; rintro y w1 ⟨rfl, rfl⟩; exact hK _ _ (Below.refl _ _).al (hG.trans ((Below.refl _ _).al.mono hG.size)) ⟨none, 0, rfl, numE_rd _ _⟩
   ·injection ho with ho; subst ho
    intro vals a w K hG hd hf hK; obtain ⟨⟨A0, c0, r0, x0⟩, z0⟩ := hd ⟨10, .data⟩ (by simp) rfl
    have e0 : a.tmps[17]?.getD undef = _ := (by simpa using z0 _ 17 rfl rfl : a.tmps[17]?.getD undef = vals 10).trans r0
    clear hd hf r0 z0; go_simp; exact hK _ _ (Below.refl _ _).al (hG.trans ((Below.refl _ _).al.mono hG.size)) ⟨_, rfl, laidE1 x0⟩
   ·injection ho with ho; subst ho
    intro vals a w K hG hd hf hK; obtain ⟨⟨g0, r0, x0⟩, z0⟩ := hd ⟨11, .data⟩ (by simp) rfl
    have e0 : a.tmps[18]?.getD undef = _ := (by simpa using z0 _ 18 rfl rfl : a.tmps[18]?.getD undef = vals 11).trans r0
    clear hd hf r0 z0; go_simp; exact hK _ w (Below.refl _ _) hG ⟨_, _, rfl, mkE (show 0 ≤ maxLen by decide) (Nat.le_refl _) x0⟩
   ·injection ho with ho; subst ho
    intro vals a w K hG hd hf hK; have e0 : a.tmps[1]?.getD undef = .func (.func 44) #[] #[] := by simpa using hf 1 (noB_spec (by kernel_rfl))
    clear hd hf; go_simp; exact hK _ w (Below.refl _ _) hG rfl
   ·injection ho with ho; subst ho
    intro vals a w K hG hd hf hK; obtain ⟨r0, z0⟩ := hd ⟨13, .data⟩ (by simp) rfl
    have e0 : a.tmps[20]?.getD undef = _ := (by simpa using z0 _ 20 rfl rfl : a.tmps[20]?.getD undef = vals 13).trans r0
    clear hd hf r0 z0; go_simp; refine (numE_calls _ _).mono ?_; rintro y w1 ⟨rfl, rfl⟩; exact hK _ _ (Below.refl _ _).al (hG.trans ((Below.refl _ _).al.mono hG.size)) ⟨none, 0, rfl, numE_rd _ _⟩
   ·injection ho with ho; subst ho
    intro vals a w K hG hd hf hK; obtain ⟨⟨A0, c0, r0, x0⟩, z0⟩ := hd ⟨12, .data⟩ (by simp) rfl
    have e0 : a.tmps[19]?.getD undef = _ := (by simpa using z0 _ 19 rfl rfl : a.tmps[19]?.getD undef = vals 12).trans r0
    obtain ⟨⟨A1, c1, r1, x1⟩, z1⟩ := hd ⟨14, .data⟩ (by simp) rfl
    have e1 : a.tmps[21]?.getD undef = _ := (by simpa using z1 _ 21 rfl rfl : a.tmps[21]?.getD undef = vals 14).trans r1
    clear hd hf r0 z0 r1 z1; go_simp; exact hK _ _ (Below.refl _ _).al (hG.trans ((Below.refl _ _).al.mono hG.size)) ⟨_, rfl, laidE2 x0 x1⟩
   ·injection ho with ho; subst ho
    intro vals a w K hG hd hf hK; obtain ⟨⟨g0, r0, x0⟩, z0⟩ := hd ⟨15, .data⟩ (by simp) rfl
    have e0 : a.tmps[22]?.getD undef = _ := (by simpa using z0 _ 22 rfl rfl : a.tmps[22]?.getD undef = vals 15).trans r0
    clear hd hf r0 z0; go_simp; exact hK _ w (Below.refl _ _) hG ⟨_, _, rfl, mkE (show 0 ≤ maxLen by decide) (Nat.le_refl _) x0⟩
   ·injection ho with ho; subst ho
    intro vals a w K hG hd hf hK; obtain ⟨⟨A0, c0, r0, x0⟩, z0⟩ := hd ⟨16, .data⟩ (by simp) rfl
    have e0 : a.tmps[23]?.getD undef = _ := (by simpa using z0 _ 23 rfl rfl : a.tmps[23]?.getD undef = vals 16).trans r0
    clear hd hf r0 z0; go_simp; exact hK _ _ (Below.refl _ _).al (hG.trans ((Below.refl _ _).al.mono hG.size)) ⟨_, rfl, laidE1 x0⟩
   ·injection ho with ho; subst ho
    intro vals a w K hG hd hf hK; obtain ⟨⟨g0, r0, x0⟩, z0⟩ := hd ⟨17, .data⟩ (by simp) rfl
    have e0 : a.tmps[24]?.getD undef = _ := (by simpa using z0 _ 24 rfl rfl : a.tmps[24]?.getD undef = vals 17).trans r0
    clear hd hf r0 z0; go_simp; exact hK _ w (Below.refl _ _) hG ⟨_, _, rfl, mkS (show 0 ≤ maxLen by decide) (Nat.le_refl _) x0⟩
   ·injection ho with ho; subst ho
    intro vals a w K hG hd hf hK; obtain ⟨⟨A0, c0, r0, x0⟩, z0⟩ := hd ⟨8, .data⟩ (by simp) rfl
    have e0 : a.tmps[15]?.getD undef = _ := (by simpa using z0 _ 15 rfl rfl : a.tmps[15]?.getD undef = vals 8).trans r0
    obtain ⟨⟨A1, c1, r1, x1⟩, z1⟩ := hd ⟨18, .data⟩ (by simp) rfl
    have e1 : a.tmps[25]?.getD undef = _ := (by simpa using z1 _ 25 rfl rfl : a.tmps[25]?.getD undef = vals 18).trans r1
    clear hd hf r0 z0 r1 z1; go_simp; exact hK _ _ (Below.refl _ _).al (hG.trans ((Below.refl _ _).al.mono hG.size)) ⟨_, rfl, laidS2 x0 x1⟩
   ·injection ho with ho; subst ho
    intro vals a w K hG hd hf hK; obtain ⟨⟨g0, r0, x0⟩, z0⟩ := hd ⟨19, .data⟩ (by simp) rfl
    have e0 : a.tmps[26]?.getD undef = _ := (by simpa using z0 _ 26 rfl rfl : a.tmps[26]?.getD undef = vals 19).trans r0
    clear hd hf r0 z0; go_simp; exact hK _ w (Below.refl _ _) hG ⟨_, rfl, x0⟩
  ·intro vals w1 hG hR
   obtain ⟨g, hv, hr⟩ := hR 20 (by decide)
   have hv : vals 20 = .slice (some ⟨g, 0, none⟩) 2 2 := hv
   have hr := Lib.hid hr; clear hR f0 f1 f2 f3 f4; generalize hA : putAll _ _ _ _ _ = A
   have hA' : A = { tmps := #[.bool false, .func (.func 44) #[] #[], .pointer (some ⟨b, 0, none⟩), vals 20, undef, undef, .agg #[.int .i64 2, .int .i64 0, .string ⟨#[105]⟩, .int .i64 0, .slice none 0 0], vals 0, vals 1, vals 2, vals 3, vals 4, vals 5, vals 6, vals 7, vals 8, vals 9, vals 10, vals 11, vals 12, vals 13, vals 14, vals 15, vals 16, vals 17, vals 18, vals 19, undef, undef, undef, undef, undef, undef, undef, undef, undef, undef, undef, undef, undef, undef, undef, undef, undef, undef, undef, undef, undef, undef, undef, undef, undef, undef, undef, undef, undef, undef, undef, undef, undef, undef, undef, undef, undef, undef, undef, undef, undef, undef, undef, undef, undef], defers := [] } := by rw [← hA]; kernel_rfl
   rw [hA', hv]; clear hA hA'; dsimp only
   go_wp2_with fail; go_meet
   exact ⟨g, rfl, Lib.hid (HB.out.trans (hG.mono HB.out.size)), hr⟩
 case rest =>
  obtain ⟨g, rfl, HBC, HL⟩ := hcut; have hrun := run_calls (wc.alloc (.cells #[.int .i64 0, .int .i64 0] 2)) litE (some ⟨g, 0, none⟩) 2 (Stmt.rds_keep (Below.refl _ _).al HL.out) (by decide) 0 [0, 0] (some ⟨wc.heap.size, 0, none⟩) 2 0 4 0 9 _ (Below.refl _ _) (Row.numRow (c := 2) (Row.laid (n := 2) (cs := #[.int .i64 0, .int .i64 0]) (size := 1) rfl rfl (by decide))) (by decide)
  have HRUN := Lib.hid hrun; clear hrun; go_wp2_with fail; refine HRUN.out.mono ?_; rintro y w2 ⟨hb2, hk⟩; rw [litE_ok, if_pos rfl] at hk; obtain ⟨S, o, M, O, I, hd, ho, rfl⟩ := hk; obtain ⟨rfl, rfl⟩ := hd.same litE_does; obtain ⟨A5, c5, hM, _⟩ := ho.mem.slice; obtain ⟨A6, c6, hO, _⟩ := ho.outs.slice; obtain ⟨A7, c7, hI, _⟩ := ho.intos.slice; subst hM; subst hO; subst hI
  obtain ⟨g1, hA5, m1⟩ := ho.mem.cellA (j := 1) (u := .int .i64 5) rfl; subst hA5; obtain ⟨g2, hA6, m2⟩ := ho.outs.cellA (j := 0) (u := .int .i64 10) rfl; subst hA6; have n1 := fun o => (Below.al (Below.refl w2.heap.size w2) (o := o)).cellOf m1
  have n2 := fun o => (Below.al (Below.refl w2.heap.size w2) (o := o)).cellOf m2
  have HB2 := Lib.hid ((HBC.out.trans ((Below.refl _ _).al.mono HBC.out.size)).trans (hb2.mono (Nat.le_trans HBC.out.size (by rw [size_al]; omega))))
  clear hb2 ho hd; rw [show effV endE none (.slice (some ⟨g1, 0, none⟩) endE.mem.length c5) (.slice (some ⟨g2, 0, none⟩) endE.outs.length c6) (.slice A7 endE.intos.length c7) = .agg #[.slice (some ⟨g1, 0, none⟩) 2 c5, .slice (some ⟨g2, 0, none⟩) 1 c6, .slice A7 0 c7, .int .i64 1, .int .i64 0, .int .i64 2] from rfl]
  go_wp2; go_ret; exact ⟨rfl, HB2.out.al⟩
end Go.Proofs.Ytjlnpppjkdcpkaa.My
