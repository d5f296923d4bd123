/- The document's way through a statement: what goes out and what goes into reductions. Conditions: as9 XEvN5. -/
import Derived.Test.YtjlnpppjkdcpkaaEREvNs
import Derived.Test.YtjlnpppjkdcpkaaEREvN8
import Derived.Test.YtjlnpppjkdcpkaaEREvO
namespace Go.Proofs.Ytjlnpppjkdcpkaa.My
open Go.RowKit Go.Proofs.Ytjlnpppjkdcpkaa.NumA
set_option linter.unusedVariables false
set_option linter.unusedSimpArgs false
variable {W w : World} {s : Stmt} {A0 A1 A2 : Option Addr} {c0 c1 c2 : Nat} {N V M O I : Rw} {ov va tk lf : Int} {e : Bool} {wz : World}
theorem LoB.grown {v : Value} {t : TypeId} {z n : Nat} {xs : List Value} {X : Obj} {w' : World} (h : LoB W w s A0 c0 A1 c1 A2 c2 N V M O I ov va tk lf e wz) (hr : Row wz t z v n xs) (he : t = 2 ∨ t = 98) (hb : ∀ g, v.ownBlock = some g → W.heap.size ≤ g) (hg : (wz.alloc X).grownBy w' v.ownBlock) :
  LoB W w s A0 c0 A1 c1 A2 c2 N V M O I ov va tk lf e w' := by
 have hf : FrX wz w' := fun q cs ty hq h1 h2 => grown_blk hg (blk_alloc hq X) (hr.ne hq (by rcases he with rfl | rfl; exact h1; exact h2))
 have hB : Below W.heap.size W w' := ⟨hg.os.trans h.below.os, hg.tape.trans h.below.tape, hg.output.trans h.below.output, Nat.le_trans h.below.size (Nat.le_trans (by rw [size_al]; exact Nat.le_succ _) hg.size), fun q hq => (hg.block q (by have := h.below.size; simp; omega) (fun e1 => by have := hb q e1.symm; omega)).trans ((Below.heap_alloc wz X q (by have := h.below.size; omega)).trans (h.below.block q hq))⟩
 exact h.call hB hf
theorem LoB.set3 (h : LoB W w s A0 c0 A1 c1 A2 c2 N V M O I ov va tk lf e wz) (hw : W.heap.size ≤ w.heap.size) (O' : Rw) : LoB W w s A0 c0 A1 c1 A2 c2 N V M O' I ov va tk lf e (wz.setCell ⟨w.heap.size, 3, none⟩ (.slice O'.a O'.n O'.c)) :=
 ⟨h.below.setCell hw _, h.fr.set (Nat.le_refl _) _ _, blk_set h.sb 3 _, blk_far h.xb (show w.heap.size + 1 ≠ w.heap.size by omega) _, blk_far h.rb (show w.heap.size + 1 + 1 ≠ w.heap.size by omega) _⟩
theorem LoB.set4 (h : LoB W w s A0 c0 A1 c1 A2 c2 N V M O I ov va tk lf e wz) (hw : W.heap.size ≤ w.heap.size) (I' : Rw) : LoB W w s A0 c0 A1 c1 A2 c2 N V M O I' ov va tk lf e (wz.setCell ⟨w.heap.size, 4, none⟩ (.slice I'.a I'.n I'.c)) :=
 ⟨h.below.setCell hw _, h.fr.set (Nat.le_refl _) _ _, blk_set h.sb 4 _, blk_far h.xb (show w.heap.size + 1 ≠ w.heap.size by omega) _, blk_far h.rb (show w.heap.size + 1 + 1 ≠ w.heap.size by omega) _⟩
theorem DocAt.pushOut {w w' : World} {base : Nat} {S : Ev} (h : DocAt w base S N V M O I) (hbw : base ≤ w.heap.size) {X : Obj} {A' : Option Addr} {c' : Nat} {v : Int} (hg : (w.alloc X).grownBy w' (Value.slice O.a O.n O.c).ownBlock) (hr : Row w' 2 1 (.slice A' (O.n + 1) c') (O.n + 1) (nums S.outs ++ [.int .i64 v]))
  (ho : (Value.slice A' (O.n + 1) c').ownBlock = (Value.slice O.a O.n O.c).ownBlock ∨ (Value.slice A' (O.n + 1) c').ownBlock = some (w.alloc X).heap.size) : DocAt w' base { S with outs := S.outs ++ [v] } N V M ⟨A', O.n + 1, c'⟩ I := by
 have hfar : ∀ q, q < w.heap.size → (Value.slice O.a O.n O.c).ownBlock ≠ some q → w'.heap[q]? = w.heap[q]? := fun q hq hn => (hg.block q (by simp; omega) (fun e1 => hn e1.symm)).trans (Below.heap_alloc w X q hq)
 have hown : ∀ q, (Value.slice A' (O.n + 1) c').ownBlock = some q → base ≤ q ∧ ((Value.slice O.a O.n O.c).ownBlock = some q ∨ w.heap.size ≤ q) := fun q hq => by
  rcases ho with e1 | e1
  ·exact ⟨h.fo q (e1 ▸ hq), .inl (e1 ▸ hq)⟩
  ·rw [hq] at e1; have := Option.some.inj e1; simp at this; exact ⟨by omega, .inr (by omega)⟩
 refine ⟨h.nn, h.vn, h.mn, by simp [h.oo], h.ii, h.names.keep (fun q hq => hfar q (h.names.lt hq) (fun e => rows_apart h.names h.outs (by decide) q hq e)), h.vals.keep (fun q hq => hfar q (h.vals.lt hq) (h.vo q hq)), h.mem.keep (fun q hq => hfar q (h.mem.lt hq) (h.mo q hq)), ?_, h.intos.keep (fun q hq => hfar q (h.intos.lt hq) (fun e => rows_apart h.intos h.outs (by decide) q hq e)), h.fv, h.fm, ?_, h.fi, h.vm, ?_, ?_, h.eq⟩
 ·show Row _ _ _ _ _ (nums (S.outs ++ [v]))
  rw [show nums (S.outs ++ [v]) = nums S.outs ++ [.int .i64 v] by simp [nums]]
  exact hr
 ·exact fun q hq => (hown q hq).1
 ·intro q hq hq'
  rcases (hown q hq').2 with e | e
  ·exact h.vo q hq e
  ·have := h.vals.lt hq; omega
 ·intro q hq hq'
  rcases (hown q hq').2 with e | e
  ·exact h.mo q hq e
  ·have := h.mem.lt hq; omega
theorem DocAt.pushInto {w w' : World} {base : Nat} {S : Ev} (h : DocAt w base S N V M O I) (hbw : base ≤ w.heap.size) {X : Obj} {A' : Option Addr} {c' : Nat} {a v : Int} (hg : (w.alloc X).grownBy w' (Value.slice I.a I.n I.c).ownBlock) (hr : Row w' 98 2 (.slice A' (I.n + 1) c') (I.n + 1) (intoCells S.intos ++ [.int .i64 a, .int .i64 v]))
  (ho : (Value.slice A' (I.n + 1) c').ownBlock = (Value.slice I.a I.n I.c).ownBlock ∨ (Value.slice A' (I.n + 1) c').ownBlock = some (w.alloc X).heap.size) : DocAt w' base { S with intos := S.intos ++ [(a, v)] } N V M O ⟨A', I.n + 1, c'⟩ := by
 have hfar : ∀ q, q < w.heap.size → (Value.slice I.a I.n I.c).ownBlock ≠ some q → w'.heap[q]? = w.heap[q]? := fun q hq hn => (hg.block q (by simp; omega) (fun e1 => hn e1.symm)).trans (Below.heap_alloc w X q hq)
 have hown : ∀ q, (Value.slice A' (I.n + 1) c').ownBlock = some q → base ≤ q := fun q hq => by
  rcases ho with e1 | e1
  ·exact h.fi q (e1 ▸ hq)
  ·rw [hq] at e1; have := Option.some.inj e1; simp at this; omega
 refine ⟨h.nn, h.vn, h.mn, h.oo, by simp [h.ii], h.names.keep (fun q hq => hfar q (h.names.lt hq) (fun e => rows_apart h.names h.intos (by decide) q hq e)), h.vals.keep (fun q hq => hfar q (h.vals.lt hq) (fun e => rows_apart h.vals h.intos (by decide) q hq e)), h.mem.keep (fun q hq => hfar q (h.mem.lt hq) (fun e => rows_apart h.mem h.intos (by decide) q hq e)), h.outs.keep (fun q hq => hfar q (h.outs.lt hq) (fun e => rows_apart h.outs h.intos (by decide) q hq e)), ?_, h.fv, h.fm, h.fo, hown, h.vm, h.vo, h.mo, h.eq⟩
 show Row _ _ _ _ _ (intoCells (S.intos ++ [(a, v)]))
 rw [intoCells_snoc]; exact hr
set_option maxRecDepth 100000 in
set_option maxHeartbeats 8000000 in
theorem one_out (W : World) (B : Int) (s : Stmt) (S : Ev) {u0 : Int} (h7 : s.kind ≠ 7) (hs : S.ticks ≠ B) (hl : s.args.length = 1) (hfd0 : ∀ u, exprV S.tick (s.args.getD 0 default) ≠ .left 0 u) (hx0 : exprV S.tick (s.args.getD 0 default) = .ok u0) (hK : s.kind = 4) : StmtC W B s S { S.tick with outs := S.tick.outs ++ [u0] } none := by
 intro A0 c0 A1 c1 A2 c2 d hrd hrd1 hrd2 hr h64 hnl w N V M O I hB hD hF; have hws := hB.size; obtain ⟨w0, hw0, hat, hdo⟩ := LoB.begin (s := s) (A0 := A0) (c0 := c0) (A1 := A1) (c1 := c1) (A2 := A2) (c2 := c2) hB hD S.ticks (B - S.ticks); have HAT := Lib.hid hat; have HD := Lib.hid hdo; have HF := Lib.hid hF; have HB := Lib.hid hB; have HCP := Lib.hid hD.caps; have HW := Lib.hid hw0; have HR64 := Lib.hid (And.intro hr h64); clear hat hdo hB hD hF hw0 ; obtain ⟨s0, s1, s2, s3, s4, s5, s6, s7, s8, s9⟩ := cel10 HAT.out.sb; obtain ⟨e0, e1, e2, e3, e4, e5⟩ := cel6 HAT.out.xb; obtain ⟨r0, r1, r2, r3, r4, r5, r6, r7, r8, r9⟩ := celz HAT.out.rb
 have rf := blk_free HAT.out.rb; have sf := blk_free HAT.out.sb; unfold dsL Stmt.val
 have t7 : (s.kind == 7) = false := by simp [h7]
 have hol : O.n ≤ 1000000 := by have := HD.out.oo; have := HF.out.sz.o; have := HF.out.tk; have := HF.out.b0; omega
 have t1 : (s.kind == 1) = false := by simp [hK]
 have t2 : (s.kind == 2) = false := by simp [hK]
 have t3 : (s.kind == 3) = false := by simp [hK]
 have t4 : (s.kind == 4) = true := by simp [hK]
 have t5 : (s.kind == 5) = false := by simp [hK]
 have t6 : (s.kind == 6) = false := by simp [hK]
 have t8 : (s.kind == 8) = false := by simp [hK]
 have t9 : (s.kind == 9) = false := by simp [hK]
 have HFK := Lib.hid (HF.out.tick hs); have HT := Lib.hid (fun w' => tick_more HF.out hs N V M O I w')
 rw [s.rightB_eq nameB d] at hr; simp only [Bool.and_eq_true, headB, decide_eq_true_eq] at hr
 obtain ⟨⟨⟨⟨⟨⟨⟨⟨_, hlen⟩, _⟩, _⟩, _⟩, _⟩, hra⟩, hrb⟩, hre⟩ := hr; have h64a := Stmt.in64_args h64; have hj0 : 0 < s.args.length := by omega
 have hga0 : s.args.getD 0 default = s.args[0]'hj0 := by simp [List.getD, hj0]
 have hra0 := Expr.rightsB_all hra (s.args[0]'hj0) (List.getElem_mem hj0); have h640 := Expr.in64_mem h64a (List.getElem_mem hj0); obtain ⟨a0, ha0⟩ : ∃ x, s.args[0]'hj0 = x := ⟨_, rfl⟩
 have HAX0 := Lib.hid (fun w' (hb : Below W.heap.size W w') => Expr.at hrd hb hj0)
 rw [ha0] at hga0 hra0 h640 HAX0; have hj0' : (0 : Int) < (s.args.length : Int) := by omega
 have g1 : ¬ (1 < (s.args.length : Int)) := by omega
 rw [hga0] at hx0 hfd0; have HV0 := Lib.hid (fun A' c' (h5 : Expr.rds W a0.args A' 0) w' (hb : Below W.heap.size W w') (hr' : RdS w' S.tick N V M) => dvalue_calls W S.tick HFK.out.i64 a0.nodes a0 A' c' 1 (Nat.le_refl _) h5 hra0 h640 hfd0 N V M O I S.tick.ticks (B - S.tick.ticks) w' hb hr')
 unfold dsL at HV0; unfold dsL at HT; clear hK hl hs h64 hrd1 hrd2 hlen hra hrb hre h64a hrd hj0 hga0 hra0 h640 ha0 hfd0; go_enter Try.func59, Try.ntmps59
 go_wp2_with (have tk := HW; clear tk; rw [HW.out]; clear HW)
 refine (HT.out _).mono ?_; rintro y w1 ⟨rfl, hb1⟩; have hat := HAT.out.next hws hb1; have hdo := HD.out.below hb1; have HAT1 := Lib.hid hat; have HD1 := Lib.hid hdo; clear s0 s1 s2 s3 s4 s5 s6 s7 s8 s9 e0 e1 e2 e3 e4 e5 r0 r1 r2 r3 r4 r5 r6 r7 r8 r9 rf sf hat hdo hb1; obtain ⟨s0, s1, s2, s3, s4, s5, s6, s7, s8, s9⟩ := cel10 HAT1.out.sb; obtain ⟨e0, e1, e2, e3, e4, e5⟩ := cel6 HAT1.out.xb; obtain ⟨r0, r1, r2, r3, r4, r5, r6, r7, r8, r9⟩ := celz HAT1.out.rb; have rf := blk_free HAT1.out.rb; have sf := blk_free HAT1.out.sb; go_wp2_with fail; have hat := (HAT1.out.put hws N V M O I (0) (0) S.tick.ticks (B - S.tick.ticks) false)
 have hdo := (docPut HD1.out HAT1.out N V M O I (0) (0) S.tick.ticks (B - S.tick.ticks) false).tick; obtain ⟨w2, hw2⟩ : ∃ wx, put10 w1 w.heap.size N V M O I (0) (0) S.tick.ticks (B - S.tick.ticks) false = wx := ⟨_, rfl⟩
 rw [hw2] at hat hdo; unfold put10 at hw2; rw [hw2]; have HAT2 := Lib.hid hat; have HD2 := Lib.hid hdo; clear s0 s1 s2 s3 s4 s5 s6 s7 s8 s9 e0 e1 e2 e3 e4 e5 r0 r1 r2 r3 r4 r5 r6 r7 r8 r9 rf sf hat hw2 hdo; obtain ⟨s0, s1, s2, s3, s4, s5, s6, s7, s8, s9⟩ := cel10 HAT2.out.sb; obtain ⟨e0, e1, e2, e3, e4, e5⟩ := cel6 HAT2.out.xb; obtain ⟨r0, r1, r2, r3, r4, r5, r6, r7, r8, r9⟩ := celz HAT2.out.rb; have rf := blk_free HAT2.out.rb; have sf := blk_free HAT2.out.sb; obtain ⟨ba0, oa0, B0, d0, hA0, hba0, m0, m1, m2, m3, m4, _, _, hr5⟩ := HAX0.out w2 HAT2.out.below; simp only [Nat.zero_mul, Nat.one_mul, Nat.add_zero] at m0 m1 m2 m3 m4
 subst hA0; have HE0 := Lib.hid (HV0.out B0 d0 hr5 w2.drew HAT2.out.drew.below ((HD2.out.below (Below.refl _ _).drew).reads HFK.out)); rw [hx0] at HE0; clear hr5; refine wp_region_noPanic ?_; refine wp_region_held_drew (S := KeepS (w.heap.size) w2) (by kernel_rfl) (KeepS.drew _ _) (fun hHeld => ?_)
 refine tkP 1 22 (.pointer (some ⟨w.heap.size + 1, 3, none⟩)) ?_; refine tkP 2 23 (.slice (some ⟨ba0, oa0, none⟩) s.args.length c0) ?_ (hy := Or.inl ⟨by rfl, fun U hU => by have q := hU.cell e3 (by omega); clear e3; go_simp⟩)
 refine tkP 3 24 (.pointer (some ⟨ba0, oa0, none⟩)) ?_; refine tkP 4 25 (.agg #[.int .i64 a0.kind, .int .i64 a0.num, .string a0.name, .int .i64 a0.op, .slice B0 a0.args.length d0]) ?_ (hy := Or.inl ⟨by rfl, fun U hU => by have q0 := hU.cell m0 (by omega); have q1 := hU.cell m1 (by omega); have q2 := hU.cell m2 (by omega); have q3 := hU.cell m3 (by omega); have q4 := hU.cell m4 (by omega); clear m0 m1 m2 m3 m4; go_simp⟩)
 refine rd1 0 (some 21) fun K hK => ?_
 go_simp; refine bk hK (hHeld) fun q => ?_; clear hK K hHeld; have hHeld := q; clear q
 refine rd1 5 (some 26) fun K hK => ?_
 go_simp; refine (HE0.out).mono ?_; rintro y w8 ⟨hb8, hy⟩; simp only [dsL] at hy
 subst hy; have hbc8 : Below w2.heap.size w2 w8 := below_fromdrew hb8
 have hat8 := HAT2.out.next hws hbc8; obtain ⟨z0, z1, z2, z3, z4, z5, z6, z7, z8, z9⟩ := cel10 hat8.sb; have zf := blk_free hat8.sb; refine bk hK ((KeepS.drew _ w2).below hb8) fun q => ?_; clear hK K hHeld; have hHeld := q; clear q
 refine tkP 6 20 (.tuple #[.agg #[.slice N.a N.n N.c, .slice V.a V.n V.c, .slice M.a M.n M.c, .slice O.a O.n O.c, .slice I.a I.n I.c, .int .i64 (0), .int .i64 (0), .int .i64 S.tick.ticks, .int .i64 (B - S.tick.ticks), .bool false], .int .i64 u0]) ?_; refine tkP 7 27 (.agg #[.slice N.a N.n N.c, .slice V.a V.n V.c, .slice M.a M.n M.c, .slice O.a O.n O.c, .slice I.a I.n I.c, .int .i64 (0), .int .i64 (0), .int .i64 S.tick.ticks, .int .i64 (B - S.tick.ticks), .bool false]) ?_; refine tkP 8 28 (.int .i64 u0) ?_; refine rd1 9 none fun K hK => ?_
 go_simp; refine bk hK (((KeepS.drew _ w2).below hb8).put N V M O I (0) (0) S.tick.ticks (B - S.tick.ticks) false) fun q => ?_; clear hK K hHeld; have hHeld := q; clear q
 refine tkP 10 5 (.int .i64 u0) ?_; refine wpAnyH_done (by kernel_rfl) ?_ _
 refine NoPanic.normal ?_; clear z0 z1 z2 z3 z4 z5 z6 z7 z8 z9 zf; have hat := (hat8.put hws N V M O I (0) (0) S.tick.ticks (B - S.tick.ticks) false); have hdo := HD2.out.below hbc8 |>.put10 hat8.sb N V M O I (0) (0) S.tick.ticks (B - S.tick.ticks) false
 obtain ⟨w3, hw3⟩ : ∃ wx, put10 w8 w.heap.size N V M O I (0) (0) S.tick.ticks (B - S.tick.ticks) false = wx := ⟨_, rfl⟩
 rw [hw3] at hat hdo; unfold put10 at hw3; rw [hw3]; have HAT3 := Lib.hid hat; have HD3 := Lib.hid hdo; clear s0 s1 s2 s3 s4 s5 s6 s7 s8 s9 e0 e1 e2 e3 e4 e5 r0 r1 r2 r3 r4 r5 r6 r7 r8 r9 rf sf hat hw3 hdo; obtain ⟨s0, s1, s2, s3, s4, s5, s6, s7, s8, s9⟩ := cel10 HAT3.out.sb; obtain ⟨e0, e1, e2, e3, e4, e5⟩ := cel6 HAT3.out.xb; obtain ⟨r0, r1, r2, r3, r4, r5, r6, r7, r8, r9⟩ := celz HAT3.out.rb; have rf := blk_free HAT3.out.rb; have sf := blk_free HAT3.out.sb; have hne := HD3.out.outs.ne HAT3.out.sb (by decide)
 have HNE := Lib.hid hne; clear hne; go_upto_region 34 with (at_builtin; go_must (refine wpList_append_rows _ rfl _ _ 46 rfl 2 (.int .i64 0) 1 8 Try.underlying46 info_i64 rfl (.slice O.a O.n O.c) O.n (nums S.tick.outs) rfl (HD3.out.outs.alloc _) (.slice (some ⟨w3.heap.size, 0, none⟩) 1 1) 1 [.int .i64 u0] rfl (Row.laid (n := 1) (cs := #[.int .i64 u0]) (size := 1) rfl rfl (by decide)) (by simp [Value.oneCell']) (by unfold maxLen; omega) (by omega) ?_); intro v' w' hrow' hgrow hown; obtain ⟨A5, c5, hv', hc'⟩ := hrow'.slice; subst hv'; have hbb := grown_blk hgrow (blk_alloc HAT3.out.sb _) HNE.out; have fb := blk_cell hbb 3; have ff := blk_free hbb)
 have hat := (HAT3.out.grown HD3.out.outs (.inl rfl) HD3.out.fo hgrow).set3 hws ⟨A5, O.n + 1, c5⟩; have hdo := (HD3.out.pushOut (Nat.le_trans hws (by have := blk_lt HAT3.out.sb; omega)) hgrow hrow' hown).set hbb (i := 3) (by decide) (by decide) (by decide) (.slice A5 (O.n + 1) c5)
 dsimp only at hat; obtain ⟨w5, hw5⟩ : ∃ wx, w'.setCell ⟨w.heap.size, 3, none⟩ (.slice A5 (O.n + 1) c5) = wx := ⟨_, rfl⟩
 rw [hw5] at hat hdo ⊢; have HAT5 := Lib.hid hat; have HD5 := Lib.hid hdo; clear s0 s1 s2 s3 s4 s5 s6 s7 s8 s9 e0 e1 e2 e3 e4 e5 r0 r1 r2 r3 r4 r5 r6 r7 r8 r9 rf sf hat hdo hw5 hbb fb ff hrow' hgrow hown hc'; obtain ⟨s0, s1, s2, s3, s4, s5, s6, s7, s8, s9⟩ := cel10 HAT5.out.sb; dsimp only at s3; obtain ⟨e0, e1, e2, e3, e4, e5⟩ := cel6 HAT5.out.xb; obtain ⟨r0, r1, r2, r3, r4, r5, r6, r7, r8, r9⟩ := celz HAT5.out.rb; have rf := blk_free HAT5.out.rb; have sf := blk_free HAT5.out.sb; go_wp2; have hfin := LoR.done (B := B) (S := S) (S' := { S.tick with outs := S.tick.outs ++ [u0] }) HAT5.out.res hws HD5.out
 obtain ⟨w99, hw99⟩ : ∃ wx, put10 w5 (w.heap.size + 1 + 1) N V M ⟨A5, O.n + 1, c5⟩ I (0) (0) S.tick.ticks (B - S.tick.ticks) false = wx := ⟨_, rfl⟩
 try dsimp only at hfin
 rw [hw99] at hfin; unfold put10 at hw99; try dsimp only at hw99
 rw [hw99]; exact bodyPost_ret (results_ds rfl _ _ (w.heap.size + 1 + 1) N V M ⟨A5, O.n + 1, c5⟩ I (0) (0) S.tick.ticks (B - S.tick.ticks) false (by rfl) hfin.1) rfl hfin.2
set_option maxRecDepth 100000 in
set_option maxHeartbeats 8000000 in
theorem one_into (W : World) (B : Int) (s : Stmt) (S : Ev) {u0 : Int} (h7 : s.kind ≠ 7) (hs : S.ticks ≠ B) (hl : s.args.length = 1) (hfd0 : ∀ u, exprV S.tick (s.args.getD 0 default) ≠ .left 0 u) (hx0 : exprV S.tick (s.args.getD 0 default) = .ok u0) (hK : s.kind = 5) : StmtC W B s S { S.tick with intos := S.tick.intos ++ [(s.cell, u0)] } none := by
 intro A0 c0 A1 c1 A2 c2 d hrd hrd1 hrd2 hr h64 hnl w N V M O I hB hD hF; have hws := hB.size; obtain ⟨w0, hw0, hat, hdo⟩ := LoB.begin (s := s) (A0 := A0) (c0 := c0) (A1 := A1) (c1 := c1) (A2 := A2) (c2 := c2) hB hD S.ticks (B - S.ticks); have HAT := Lib.hid hat; have HD := Lib.hid hdo; have HF := Lib.hid hF; have HB := Lib.hid hB; have HCP := Lib.hid hD.caps; have HW := Lib.hid hw0; have HR64 := Lib.hid (And.intro hr h64); clear hat hdo hB hD hF hw0 ; obtain ⟨s0, s1, s2, s3, s4, s5, s6, s7, s8, s9⟩ := cel10 HAT.out.sb; obtain ⟨e0, e1, e2, e3, e4, e5⟩ := cel6 HAT.out.xb; obtain ⟨r0, r1, r2, r3, r4, r5, r6, r7, r8, r9⟩ := celz HAT.out.rb
 have rf := blk_free HAT.out.rb; have sf := blk_free HAT.out.sb; unfold dsL Stmt.val
 have t7 : (s.kind == 7) = false := by simp [h7]
 have hol : I.n ≤ 1000000 := by have := HD.out.ii; have := HF.out.sz.i; have := HF.out.tk; have := HF.out.b0; omega
 have t1 : (s.kind == 1) = false := by simp [hK]
 have t2 : (s.kind == 2) = false := by simp [hK]
 have t3 : (s.kind == 3) = false := by simp [hK]
 have t4 : (s.kind == 4) = false := by simp [hK]
 have t5 : (s.kind == 5) = true := by simp [hK]
 have t6 : (s.kind == 6) = false := by simp [hK]
 have t8 : (s.kind == 8) = false := by simp [hK]
 have t9 : (s.kind == 9) = false := by simp [hK]
 have HFK := Lib.hid (HF.out.tick hs); have HT := Lib.hid (fun w' => tick_more HF.out hs N V M O I w')
 rw [s.rightB_eq nameB d] at hr; simp only [Bool.and_eq_true, headB, decide_eq_true_eq] at hr
 obtain ⟨⟨⟨⟨⟨⟨⟨⟨_, hlen⟩, _⟩, _⟩, _⟩, _⟩, hra⟩, hrb⟩, hre⟩ := hr; have h64a := Stmt.in64_args h64; have hj0 : 0 < s.args.length := by omega
 have hga0 : s.args.getD 0 default = s.args[0]'hj0 := by simp [List.getD, hj0]
 have hra0 := Expr.rightsB_all hra (s.args[0]'hj0) (List.getElem_mem hj0); have h640 := Expr.in64_mem h64a (List.getElem_mem hj0); obtain ⟨a0, ha0⟩ : ∃ x, s.args[0]'hj0 = x := ⟨_, rfl⟩
 have HAX0 := Lib.hid (fun w' (hb : Below W.heap.size W w') => Expr.at hrd hb hj0)
 rw [ha0] at hga0 hra0 h640 HAX0; have hj0' : (0 : Int) < (s.args.length : Int) := by omega
 have g1 : ¬ (1 < (s.args.length : Int)) := by omega
 rw [hga0] at hx0 hfd0; have HV0 := Lib.hid (fun A' c' (h5 : Expr.rds W a0.args A' 0) w' (hb : Below W.heap.size W w') (hr' : RdS w' S.tick N V M) => dvalue_calls W S.tick HFK.out.i64 a0.nodes a0 A' c' 1 (Nat.le_refl _) h5 hra0 h640 hfd0 N V M O I S.tick.ticks (B - S.tick.ticks) w' hb hr')
 unfold dsL at HV0; unfold dsL at HT; clear hK hl hs h64 hrd1 hrd2 hlen hra hrb hre h64a hrd hj0 hga0 hra0 h640 ha0 hfd0; go_enter Try.func59, Try.ntmps59
 go_wp2_with (have tk := HW; clear tk; rw [HW.out]; clear HW)
 refine (HT.out _).mono ?_; rintro y w1 ⟨rfl, hb1⟩; have hat := HAT.out.next hws hb1; have hdo := HD.out.below hb1; have HAT1 := Lib.hid hat; have HD1 := Lib.hid hdo; clear s0 s1 s2 s3 s4 s5 s6 s7 s8 s9 e0 e1 e2 e3 e4 e5 r0 r1 r2 r3 r4 r5 r6 r7 r8 r9 rf sf hat hdo hb1; obtain ⟨s0, s1, s2, s3, s4, s5, s6, s7, s8, s9⟩ := cel10 HAT1.out.sb; obtain ⟨e0, e1, e2, e3, e4, e5⟩ := cel6 HAT1.out.xb; obtain ⟨r0, r1, r2, r3, r4, r5, r6, r7, r8, r9⟩ := celz HAT1.out.rb; have rf := blk_free HAT1.out.rb; have sf := blk_free HAT1.out.sb; go_wp2_with fail; have hat := (HAT1.out.put hws N V M O I (0) (0) S.tick.ticks (B - S.tick.ticks) false)
 have hdo := (docPut HD1.out HAT1.out N V M O I (0) (0) S.tick.ticks (B - S.tick.ticks) false).tick; obtain ⟨w2, hw2⟩ : ∃ wx, put10 w1 w.heap.size N V M O I (0) (0) S.tick.ticks (B - S.tick.ticks) false = wx := ⟨_, rfl⟩
 rw [hw2] at hat hdo; unfold put10 at hw2; rw [hw2]; have HAT2 := Lib.hid hat; have HD2 := Lib.hid hdo; clear s0 s1 s2 s3 s4 s5 s6 s7 s8 s9 e0 e1 e2 e3 e4 e5 r0 r1 r2 r3 r4 r5 r6 r7 r8 r9 rf sf hat hw2 hdo; obtain ⟨s0, s1, s2, s3, s4, s5, s6, s7, s8, s9⟩ := cel10 HAT2.out.sb; obtain ⟨e0, e1, e2, e3, e4, e5⟩ := cel6 HAT2.out.xb; obtain ⟨r0, r1, r2, r3, r4, r5, r6, r7, r8, r9⟩ := celz HAT2.out.rb; have rf := blk_free HAT2.out.rb; have sf := blk_free HAT2.out.sb; obtain ⟨ba0, oa0, B0, d0, hA0, hba0, m0, m1, m2, m3, m4, _, _, hr5⟩ := HAX0.out w2 HAT2.out.below; simp only [Nat.zero_mul, Nat.one_mul, Nat.add_zero] at m0 m1 m2 m3 m4
 subst hA0; have HE0 := Lib.hid (HV0.out B0 d0 hr5 w2.drew HAT2.out.drew.below ((HD2.out.below (Below.refl _ _).drew).reads HFK.out)); rw [hx0] at HE0; clear hr5; refine wp_region_noPanic ?_; refine wp_region_held_drew (S := KeepS (w.heap.size) w2) (by kernel_rfl) (KeepS.drew _ _) (fun hHeld => ?_)
 refine tkP 1 22 (.pointer (some ⟨w.heap.size + 1, 3, none⟩)) ?_; refine tkP 2 23 (.slice (some ⟨ba0, oa0, none⟩) s.args.length c0) ?_ (hy := Or.inl ⟨by rfl, fun U hU => by have q := hU.cell e3 (by omega); clear e3; go_simp⟩)
 refine tkP 3 24 (.pointer (some ⟨ba0, oa0, none⟩)) ?_; refine tkP 4 25 (.agg #[.int .i64 a0.kind, .int .i64 a0.num, .string a0.name, .int .i64 a0.op, .slice B0 a0.args.length d0]) ?_ (hy := Or.inl ⟨by rfl, fun U hU => by have q0 := hU.cell m0 (by omega); have q1 := hU.cell m1 (by omega); have q2 := hU.cell m2 (by omega); have q3 := hU.cell m3 (by omega); have q4 := hU.cell m4 (by omega); clear m0 m1 m2 m3 m4; go_simp⟩)
 refine rd1 0 (some 21) fun K hK => ?_
 go_simp; refine bk hK (hHeld) fun q => ?_; clear hK K hHeld; have hHeld := q; clear q
 refine rd1 5 (some 26) fun K hK => ?_
 go_simp; refine (HE0.out).mono ?_; rintro y w8 ⟨hb8, hy⟩; simp only [dsL] at hy
 subst hy; have hbc8 : Below w2.heap.size w2 w8 := below_fromdrew hb8
 have hat8 := HAT2.out.next hws hbc8; obtain ⟨z0, z1, z2, z3, z4, z5, z6, z7, z8, z9⟩ := cel10 hat8.sb; have zf := blk_free hat8.sb; refine bk hK ((KeepS.drew _ w2).below hb8) fun q => ?_; clear hK K hHeld; have hHeld := q; clear q
 refine tkP 6 20 (.tuple #[.agg #[.slice N.a N.n N.c, .slice V.a V.n V.c, .slice M.a M.n M.c, .slice O.a O.n O.c, .slice I.a I.n I.c, .int .i64 (0), .int .i64 (0), .int .i64 S.tick.ticks, .int .i64 (B - S.tick.ticks), .bool false], .int .i64 u0]) ?_; refine tkP 7 27 (.agg #[.slice N.a N.n N.c, .slice V.a V.n V.c, .slice M.a M.n M.c, .slice O.a O.n O.c, .slice I.a I.n I.c, .int .i64 (0), .int .i64 (0), .int .i64 S.tick.ticks, .int .i64 (B - S.tick.ticks), .bool false]) ?_; refine tkP 8 28 (.int .i64 u0) ?_; refine rd1 9 none fun K hK => ?_
 go_simp; refine bk hK (((KeepS.drew _ w2).below hb8).put N V M O I (0) (0) S.tick.ticks (B - S.tick.ticks) false) fun q => ?_; clear hK K hHeld; have hHeld := q; clear q
 refine tkP 10 5 (.int .i64 u0) ?_; refine wpAnyH_done (by kernel_rfl) ?_ _
 refine NoPanic.normal ?_; clear z0 z1 z2 z3 z4 z5 z6 z7 z8 z9 zf; have hat := (hat8.put hws N V M O I (0) (0) S.tick.ticks (B - S.tick.ticks) false); have hdo := HD2.out.below hbc8 |>.put10 hat8.sb N V M O I (0) (0) S.tick.ticks (B - S.tick.ticks) false
 obtain ⟨w3, hw3⟩ : ∃ wx, put10 w8 w.heap.size N V M O I (0) (0) S.tick.ticks (B - S.tick.ticks) false = wx := ⟨_, rfl⟩
 rw [hw3] at hat hdo; unfold put10 at hw3; rw [hw3]; have HAT3 := Lib.hid hat; have HD3 := Lib.hid hdo; clear s0 s1 s2 s3 s4 s5 s6 s7 s8 s9 e0 e1 e2 e3 e4 e5 r0 r1 r2 r3 r4 r5 r6 r7 r8 r9 rf sf hat hw3 hdo; obtain ⟨s0, s1, s2, s3, s4, s5, s6, s7, s8, s9⟩ := cel10 HAT3.out.sb; obtain ⟨e0, e1, e2, e3, e4, e5⟩ := cel6 HAT3.out.xb; obtain ⟨r0, r1, r2, r3, r4, r5, r6, r7, r8, r9⟩ := celz HAT3.out.rb; have rf := blk_free HAT3.out.rb; have sf := blk_free HAT3.out.sb; have hne := HD3.out.intos.ne HAT3.out.sb (by decide)
 have HNE := Lib.hid hne; clear hne; go_upto_region 34 with (at_builtin; go_must (refine wpList_append_rows _ rfl _ _ 52 rfl 98 (.agg #[.int .i64 0, .int .i64 0]) 2 16 Try.underlying52 info_into rfl (.slice I.a I.n I.c) I.n (intoCells S.tick.intos) rfl (HD3.out.intos.alloc _) (.slice (some ⟨w3.heap.size, 0, none⟩) 1 1) 1 [.int .i64 s.cell, .int .i64 u0] rfl (Row.laid (n := 1) (cs := #[.int .i64 s.cell, .int .i64 u0]) (size := 2) rfl rfl (by decide)) (by simp [Value.oneCell']) (by unfold maxLen; omega) (by omega) ?_); intro v' w' hrow' hgrow hown; obtain ⟨A5, c5, hv', hc'⟩ := hrow'.slice; subst hv'; have hbb := grown_blk hgrow (blk_alloc HAT3.out.sb _) HNE.out; have fb := blk_cell hbb 4; have ff := blk_free hbb)
 have hat := (HAT3.out.grown HD3.out.intos (.inr rfl) HD3.out.fi hgrow).set4 hws ⟨A5, I.n + 1, c5⟩; have hdo := (HD3.out.pushInto (Nat.le_trans hws (by have := blk_lt HAT3.out.sb; omega)) hgrow hrow' hown).set hbb (i := 4) (by decide) (by decide) (by decide) (.slice A5 (I.n + 1) c5)
 dsimp only at hat; obtain ⟨w5, hw5⟩ : ∃ wx, w'.setCell ⟨w.heap.size, 4, none⟩ (.slice A5 (I.n + 1) c5) = wx := ⟨_, rfl⟩
 rw [hw5] at hat hdo ⊢; have HAT5 := Lib.hid hat; have HD5 := Lib.hid hdo; clear s0 s1 s2 s3 s4 s5 s6 s7 s8 s9 e0 e1 e2 e3 e4 e5 r0 r1 r2 r3 r4 r5 r6 r7 r8 r9 rf sf hat hdo hw5 hbb fb ff hrow' hgrow hown hc'; obtain ⟨s0, s1, s2, s3, s4, s5, s6, s7, s8, s9⟩ := cel10 HAT5.out.sb; dsimp only at s4; obtain ⟨e0, e1, e2, e3, e4, e5⟩ := cel6 HAT5.out.xb; obtain ⟨r0, r1, r2, r3, r4, r5, r6, r7, r8, r9⟩ := celz HAT5.out.rb; have rf := blk_free HAT5.out.rb; have sf := blk_free HAT5.out.sb; go_wp2; have hfin := LoR.done (B := B) (S := S) (S' := { S.tick with intos := S.tick.intos ++ [(s.cell, u0)] }) HAT5.out.res hws HD5.out
 obtain ⟨w99, hw99⟩ : ∃ wx, put10 w5 (w.heap.size + 1 + 1) N V M O ⟨A5, I.n + 1, c5⟩ (0) (0) S.tick.ticks (B - S.tick.ticks) false = wx := ⟨_, rfl⟩
 try dsimp only at hfin
 rw [hw99] at hfin; unfold put10 at hw99; try dsimp only at hw99
 rw [hw99]; exact bodyPost_ret (results_ds rfl _ _ (w.heap.size + 1 + 1) N V M O ⟨A5, I.n + 1, c5⟩ (0) (0) S.tick.ticks (B - S.tick.ticks) false (by rfl) hfin.1) rfl hfin.2
end Go.Proofs.Ytjlnpppjkdcpkaa.My
