/- The document's way through a statement: where a value leaves it. Conditions: as9 XEvN5. -/
import Derived.Test.YtjlnpppjkdcpkaaEREvNs
import Derived.Test.YtjlnpppjkdcpkaaEREvN6
namespace Go.Proofs.Ytjlnpppjkdcpkaa.My
open Go.RowKit Go.Proofs.Ytjlnpppjkdcpkaa.NumA
set_option linter.unusedVariables false
set_option linter.unusedSimpArgs false
set_option maxRecDepth 100000 in
set_option maxHeartbeats 8000000 in
theorem one_fell10 (W : World) (B : Int) (s : Stmt) (S : Ev) {h v u0 : Int} (h7 : s.kind ≠ 7) (hs : S.ticks ≠ B) (hl : s.args.length = 1) (hfd0 : ∀ u, exprV S.tick (s.args.getD 0 default) ≠ .left 0 u) (hx0 : exprV S.tick (s.args.getD 0 default) = .left h v) : StmtC W B s S S.tick (some (h, v)) := by
 intro A0 c0 A1 c1 A2 c2 d hrd hrd1 hrd2 hr h64 hnl w N V M O I hB hD hF; have hws := hB.size; obtain ⟨w0, hw0, hat, hdo⟩ := LoB.begin (s := s) (A0 := A0) (c0 := c0) (A1 := A1) (c1 := c1) (A2 := A2) (c2 := c2) hB hD S.ticks (B - S.ticks); have HAT := Lib.hid hat; have HD := Lib.hid hdo; have HF := Lib.hid hF; have HB := Lib.hid hB; have HCP := Lib.hid hD.caps; have HW := Lib.hid hw0; have HR64 := Lib.hid (And.intro hr h64); clear hat hdo hB hD hF hw0 ; obtain ⟨s0, s1, s2, s3, s4, s5, s6, s7, s8, s9⟩ := cel10 HAT.out.sb; obtain ⟨e0, e1, e2, e3, e4, e5⟩ := cel6 HAT.out.xb; obtain ⟨r0, r1, r2, r3, r4, r5, r6, r7, r8, r9⟩ := celz HAT.out.rb
 have rf := blk_free HAT.out.rb; have sf := blk_free HAT.out.sb; unfold dsL Stmt.val
 have t7 : (s.kind == 7) = false := by simp [h7]
 have HFK := Lib.hid (HF.out.tick hs); have HT := Lib.hid (fun w' => tick_more HF.out hs N V M O I w')
 rw [s.rightB_eq nameB d] at hr; simp only [Bool.and_eq_true, headB, decide_eq_true_eq] at hr
 obtain ⟨⟨⟨⟨⟨⟨⟨⟨_, hlen⟩, _⟩, _⟩, _⟩, _⟩, hra⟩, hrb⟩, hre⟩ := hr; have h64a := Stmt.in64_args h64; have hj0 : 0 < s.args.length := by omega
 have hga0 : s.args.getD 0 default = s.args[0]'hj0 := by simp [List.getD, hj0]
 have hra0 := Expr.rightsB_all hra (s.args[0]'hj0) (List.getElem_mem hj0); have h640 := Expr.in64_mem h64a (List.getElem_mem hj0); obtain ⟨a0, ha0⟩ : ∃ x, s.args[0]'hj0 = x := ⟨_, rfl⟩
 have HAX0 := Lib.hid (fun w' (hb : Below W.heap.size W w') => Expr.at hrd hb hj0)
 rw [ha0] at hga0 hra0 h640 HAX0; have hj0' : (0 : Int) < (s.args.length : Int) := by omega
 have g1 : ¬ (1 < (s.args.length : Int)) := by omega
 rw [hga0] at hx0 hfd0; have HV0 := Lib.hid (fun A' c' (h5 : Expr.rds W a0.args A' 0) w' (hb : Below W.heap.size W w') (hr' : RdS w' S.tick N V M) => dvalue_calls W S.tick HFK.out.i64 a0.nodes a0 A' c' 1 (Nat.le_refl _) h5 hra0 h640 hfd0 N V M O I S.tick.ticks (B - S.tick.ticks) w' hb hr')
 unfold dsL at HV0; unfold dsL at HT; clear hl hs h64 hrd1 hrd2 hlen hra hrb hre h64a hrd hj0 hga0 hra0 h640 ha0 hfd0; go_enter Try.func59, Try.ntmps59
 go_wp2_with (have tk := HW; clear tk; rw [HW.out]; clear HW)
 refine (HT.out _).mono ?_; rintro y w1 ⟨rfl, hb1⟩; have hat := HAT.out.next hws hb1; have hdo := HD.out.below hb1; have HAT1 := Lib.hid hat; have HD1 := Lib.hid hdo; clear s0 s1 s2 s3 s4 s5 s6 s7 s8 s9 e0 e1 e2 e3 e4 e5 r0 r1 r2 r3 r4 r5 r6 r7 r8 r9 rf sf hat hdo hb1; obtain ⟨s0, s1, s2, s3, s4, s5, s6, s7, s8, s9⟩ := cel10 HAT1.out.sb; obtain ⟨e0, e1, e2, e3, e4, e5⟩ := cel6 HAT1.out.xb; obtain ⟨r0, r1, r2, r3, r4, r5, r6, r7, r8, r9⟩ := celz HAT1.out.rb; have rf := blk_free HAT1.out.rb; have sf := blk_free HAT1.out.sb; go_wp2_with fail; have hat := (HAT1.out.put hws N V M O I (0) (0) S.tick.ticks (B - S.tick.ticks) false)
 have hdo := (docPut HD1.out HAT1.out N V M O I (0) (0) S.tick.ticks (B - S.tick.ticks) false).tick; obtain ⟨w2, hw2⟩ : ∃ wx, put10 w1 w.heap.size N V M O I (0) (0) S.tick.ticks (B - S.tick.ticks) false = wx := ⟨_, rfl⟩
 rw [hw2] at hat hdo; unfold put10 at hw2; rw [hw2]; have HAT2 := Lib.hid hat; have HD2 := Lib.hid hdo; clear s0 s1 s2 s3 s4 s5 s6 s7 s8 s9 e0 e1 e2 e3 e4 e5 r0 r1 r2 r3 r4 r5 r6 r7 r8 r9 rf sf hat hw2 hdo; obtain ⟨s0, s1, s2, s3, s4, s5, s6, s7, s8, s9⟩ := cel10 HAT2.out.sb; obtain ⟨e0, e1, e2, e3, e4, e5⟩ := cel6 HAT2.out.xb; obtain ⟨r0, r1, r2, r3, r4, r5, r6, r7, r8, r9⟩ := celz HAT2.out.rb; have rf := blk_free HAT2.out.rb; have sf := blk_free HAT2.out.sb; obtain ⟨ba0, oa0, B0, d0, hA0, hba0, m0, m1, m2, m3, m4, _, _, hr5⟩ := HAX0.out w2 HAT2.out.below; simp only [Nat.zero_mul, Nat.one_mul, Nat.add_zero] at m0 m1 m2 m3 m4
 subst hA0; have HE0 := Lib.hid (HV0.out B0 d0 hr5 w2.drew HAT2.out.drew.below ((HD2.out.below (Below.refl _ _).drew).reads HFK.out)); rw [hx0] at HE0; clear hr5; refine wp_region_noPanic ?_; refine wp_region_held_drew (S := KeepS (w.heap.size) w2) (by kernel_rfl) (KeepS.drew _ _) (fun hHeld => ?_)
 refine tkP 1 22 (.pointer (some ⟨w.heap.size + 1, 3, none⟩)) ?_; refine tkP 2 23 (.slice (some ⟨ba0, oa0, none⟩) s.args.length c0) ?_ (hy := Or.inl ⟨by rfl, fun U hU => by have q := hU.cell e3 (by omega); clear e3; go_simp⟩)
 refine tkP 3 24 (.pointer (some ⟨ba0, oa0, none⟩)) ?_; refine tkP 4 25 (.agg #[.int .i64 a0.kind, .int .i64 a0.num, .string a0.name, .int .i64 a0.op, .slice B0 a0.args.length d0]) ?_ (hy := Or.inl ⟨by rfl, fun U hU => by have q0 := hU.cell m0 (by omega); have q1 := hU.cell m1 (by omega); have q2 := hU.cell m2 (by omega); have q3 := hU.cell m3 (by omega); have q4 := hU.cell m4 (by omega); clear m0 m1 m2 m3 m4; go_simp⟩)
 refine rd1 0 (some 21) fun K hK => ?_
 go_simp; refine bk hK (hHeld) fun q => ?_; clear hK K hHeld; have hHeld := q; clear q
 refine rd1 5 (some 26) fun K hK => ?_
 go_simp; refine (HE0.out).mono ?_; rintro y w8 ⟨hb8, hy⟩; simp only [dsL] at hy
 subst hy; have hbc8 : Below w2.heap.size w2 w8 := below_fromdrew hb8
 have hat8 := HAT2.out.next hws hbc8; obtain ⟨z0, z1, z2, z3, z4, z5, z6, z7, z8, z9⟩ := cel10 hat8.sb; have zf := blk_free hat8.sb; refine bk hK ((KeepS.drew _ w2).below hb8) fun q => ?_; clear hK K hHeld; have hHeld := q; clear q
 refine tkP 6 20 (.tuple #[.agg #[.slice N.a N.n N.c, .slice V.a V.n V.c, .slice M.a M.n M.c, .slice O.a O.n O.c, .slice I.a I.n I.c, .int .i64 (h), .int .i64 (v), .int .i64 S.tick.ticks, .int .i64 (B - S.tick.ticks), .bool true], .int .i64 0]) ?_; refine tkP 7 27 (.agg #[.slice N.a N.n N.c, .slice V.a V.n V.c, .slice M.a M.n M.c, .slice O.a O.n O.c, .slice I.a I.n I.c, .int .i64 (h), .int .i64 (v), .int .i64 S.tick.ticks, .int .i64 (B - S.tick.ticks), .bool true]) ?_; refine tkP 8 28 (.int .i64 0) ?_; refine rd1 9 none fun K hK => ?_
 go_simp; refine bk hK (((KeepS.drew _ w2).below hb8).put N V M O I (h) (v) S.tick.ticks (B - S.tick.ticks) true) fun q => ?_; clear hK K hHeld; have hHeld := q; clear q
 refine tkP 10 5 (.int .i64 0) ?_; refine wpAnyH_done (by kernel_rfl) ?_ _
 refine NoPanic.normal ?_; clear z0 z1 z2 z3 z4 z5 z6 z7 z8 z9 zf; have hat := (hat8.put hws N V M O I (h) (v) S.tick.ticks (B - S.tick.ticks) true); have hdo := (HD2.out.below hbc8 |>.put10 hat8.sb N V M O I (h) (v) S.tick.ticks (B - S.tick.ticks) true).ends
 obtain ⟨w3, hw3⟩ : ∃ wx, put10 w8 w.heap.size N V M O I (h) (v) S.tick.ticks (B - S.tick.ticks) true = wx := ⟨_, rfl⟩
 rw [hw3] at hat hdo; unfold put10 at hw3; rw [hw3]; have HAT3 := Lib.hid hat; have HD3 := Lib.hid hdo; clear s0 s1 s2 s3 s4 s5 s6 s7 s8 s9 e0 e1 e2 e3 e4 e5 r0 r1 r2 r3 r4 r5 r6 r7 r8 r9 rf sf hat hw3 hdo; obtain ⟨s0, s1, s2, s3, s4, s5, s6, s7, s8, s9⟩ := cel10 HAT3.out.sb; obtain ⟨e0, e1, e2, e3, e4, e5⟩ := cel6 HAT3.out.xb; obtain ⟨r0, r1, r2, r3, r4, r5, r6, r7, r8, r9⟩ := celz HAT3.out.rb; have rf := blk_free HAT3.out.rb; have sf := blk_free HAT3.out.sb; go_wp2; have hfin := LoB.left (B := B) (S := S) (S' := S.tick) (x := (h, v)) HAT3.out hws HD3.out HCP.out.1 HCP.out.2; obtain ⟨w99, hw99⟩ : ∃ wx, put10 w3 (w.heap.size + 1 + 1) N V M O I (h) (v) S.tick.ticks (B - S.tick.ticks) true = wx := ⟨_, rfl⟩
 try dsimp only at hfin
 rw [hw99] at hfin; unfold put10 at hw99; rw [hw99]; exact bodyPost_ret (results_ds rfl _ _ (w.heap.size + 1 + 1) N V M O I (h) (v) S.tick.ticks (B - S.tick.ticks) true (by rfl) hfin.1) rfl hfin.2
set_option maxRecDepth 100000 in
set_option maxHeartbeats 8000000 in
theorem one_fell20 (W : World) (B : Int) (s : Stmt) (S : Ev) {h v u0 : Int} (h7 : s.kind ≠ 7) (hs : S.ticks ≠ B) (hl : s.args.length = 2) (hfd0 : ∀ u, exprV S.tick (s.args.getD 0 default) ≠ .left 0 u) (hx0 : exprV S.tick (s.args.getD 0 default) = .left h v) : StmtC W B s S S.tick (some (h, v)) := by
 intro A0 c0 A1 c1 A2 c2 d hrd hrd1 hrd2 hr h64 hnl w N V M O I hB hD hF; have hws := hB.size; obtain ⟨w0, hw0, hat, hdo⟩ := LoB.begin (s := s) (A0 := A0) (c0 := c0) (A1 := A1) (c1 := c1) (A2 := A2) (c2 := c2) hB hD S.ticks (B - S.ticks); have HAT := Lib.hid hat; have HD := Lib.hid hdo; have HF := Lib.hid hF; have HB := Lib.hid hB; have HCP := Lib.hid hD.caps; have HW := Lib.hid hw0; have HR64 := Lib.hid (And.intro hr h64); clear hat hdo hB hD hF hw0 ; obtain ⟨s0, s1, s2, s3, s4, s5, s6, s7, s8, s9⟩ := cel10 HAT.out.sb; obtain ⟨e0, e1, e2, e3, e4, e5⟩ := cel6 HAT.out.xb; obtain ⟨r0, r1, r2, r3, r4, r5, r6, r7, r8, r9⟩ := celz HAT.out.rb
 have rf := blk_free HAT.out.rb; have sf := blk_free HAT.out.sb; unfold dsL Stmt.val
 have t7 : (s.kind == 7) = false := by simp [h7]
 have HFK := Lib.hid (HF.out.tick hs); have HT := Lib.hid (fun w' => tick_more HF.out hs N V M O I w')
 rw [s.rightB_eq nameB d] at hr; simp only [Bool.and_eq_true, headB, decide_eq_true_eq] at hr
 obtain ⟨⟨⟨⟨⟨⟨⟨⟨_, hlen⟩, _⟩, _⟩, _⟩, _⟩, hra⟩, hrb⟩, hre⟩ := hr; have h64a := Stmt.in64_args h64; have hj0 : 0 < s.args.length := by omega
 have hga0 : s.args.getD 0 default = s.args[0]'hj0 := by simp [List.getD, hj0]
 have hra0 := Expr.rightsB_all hra (s.args[0]'hj0) (List.getElem_mem hj0); have h640 := Expr.in64_mem h64a (List.getElem_mem hj0); obtain ⟨a0, ha0⟩ : ∃ x, s.args[0]'hj0 = x := ⟨_, rfl⟩
 have HAX0 := Lib.hid (fun w' (hb : Below W.heap.size W w') => Expr.at hrd hb hj0)
 rw [ha0] at hga0 hra0 h640 HAX0; have hj0' : (0 : Int) < (s.args.length : Int) := by omega
 have hj1 : 1 < s.args.length := by omega
 have hga1 : s.args.getD 1 default = s.args[1]'hj1 := by simp [List.getD, hj1]
 have hra1 := Expr.rightsB_all hra (s.args[1]'hj1) (List.getElem_mem hj1); have h641 := Expr.in64_mem h64a (List.getElem_mem hj1); obtain ⟨a1, ha1⟩ : ∃ x, s.args[1]'hj1 = x := ⟨_, rfl⟩
 have HAX1 := Lib.hid (fun w' (hb : Below W.heap.size W w') => Expr.at hrd hb hj1)
 rw [ha1] at hga1 hra1 h641 HAX1; have hj1' : (1 : Int) < (s.args.length : Int) := by omega
 rw [hga0] at hx0 hfd0; have HV0 := Lib.hid (fun A' c' (h5 : Expr.rds W a0.args A' 0) w' (hb : Below W.heap.size W w') (hr' : RdS w' S.tick N V M) => dvalue_calls W S.tick HFK.out.i64 a0.nodes a0 A' c' 1 (Nat.le_refl _) h5 hra0 h640 hfd0 N V M O I S.tick.ticks (B - S.tick.ticks) w' hb hr')
 unfold dsL at HV0; unfold dsL at HT; clear hl hs h64 hrd1 hrd2 hlen hra hrb hre h64a hrd hj0 hga0 hra0 h640 ha0 hj1 hga1 hra1 h641 ha1 hfd0; go_enter Try.func59, Try.ntmps59
 go_wp2_with (have tk := HW; clear tk; rw [HW.out]; clear HW)
 refine (HT.out _).mono ?_; rintro y w1 ⟨rfl, hb1⟩; have hat := HAT.out.next hws hb1; have hdo := HD.out.below hb1; have HAT1 := Lib.hid hat; have HD1 := Lib.hid hdo; clear s0 s1 s2 s3 s4 s5 s6 s7 s8 s9 e0 e1 e2 e3 e4 e5 r0 r1 r2 r3 r4 r5 r6 r7 r8 r9 rf sf hat hdo hb1; obtain ⟨s0, s1, s2, s3, s4, s5, s6, s7, s8, s9⟩ := cel10 HAT1.out.sb; obtain ⟨e0, e1, e2, e3, e4, e5⟩ := cel6 HAT1.out.xb; obtain ⟨r0, r1, r2, r3, r4, r5, r6, r7, r8, r9⟩ := celz HAT1.out.rb; have rf := blk_free HAT1.out.rb; have sf := blk_free HAT1.out.sb; go_wp2_with fail; have hat := (HAT1.out.put hws N V M O I (0) (0) S.tick.ticks (B - S.tick.ticks) false)
 have hdo := (docPut HD1.out HAT1.out N V M O I (0) (0) S.tick.ticks (B - S.tick.ticks) false).tick; obtain ⟨w2, hw2⟩ : ∃ wx, put10 w1 w.heap.size N V M O I (0) (0) S.tick.ticks (B - S.tick.ticks) false = wx := ⟨_, rfl⟩
 rw [hw2] at hat hdo; unfold put10 at hw2; rw [hw2]; have HAT2 := Lib.hid hat; have HD2 := Lib.hid hdo; clear s0 s1 s2 s3 s4 s5 s6 s7 s8 s9 e0 e1 e2 e3 e4 e5 r0 r1 r2 r3 r4 r5 r6 r7 r8 r9 rf sf hat hw2 hdo; obtain ⟨s0, s1, s2, s3, s4, s5, s6, s7, s8, s9⟩ := cel10 HAT2.out.sb; obtain ⟨e0, e1, e2, e3, e4, e5⟩ := cel6 HAT2.out.xb; obtain ⟨r0, r1, r2, r3, r4, r5, r6, r7, r8, r9⟩ := celz HAT2.out.rb; have rf := blk_free HAT2.out.rb; have sf := blk_free HAT2.out.sb; obtain ⟨ba0, oa0, B0, d0, hA0, hba0, m0, m1, m2, m3, m4, _, _, hr5⟩ := HAX0.out w2 HAT2.out.below; simp only [Nat.zero_mul, Nat.one_mul, Nat.add_zero] at m0 m1 m2 m3 m4
 subst hA0; have HE0 := Lib.hid (HV0.out B0 d0 hr5 w2.drew HAT2.out.drew.below ((HD2.out.below (Below.refl _ _).drew).reads HFK.out)); rw [hx0] at HE0; clear hr5; refine wp_region_noPanic ?_; refine wp_region_held_drew (S := KeepS (w.heap.size) w2) (by kernel_rfl) (KeepS.drew _ _) (fun hHeld => ?_)
 refine tkP 1 22 (.pointer (some ⟨w.heap.size + 1, 3, none⟩)) ?_; refine tkP 2 23 (.slice (some ⟨ba0, oa0, none⟩) s.args.length c0) ?_ (hy := Or.inl ⟨by rfl, fun U hU => by have q := hU.cell e3 (by omega); clear e3; go_simp⟩)
 refine tkP 3 24 (.pointer (some ⟨ba0, oa0, none⟩)) ?_; refine tkP 4 25 (.agg #[.int .i64 a0.kind, .int .i64 a0.num, .string a0.name, .int .i64 a0.op, .slice B0 a0.args.length d0]) ?_ (hy := Or.inl ⟨by rfl, fun U hU => by have q0 := hU.cell m0 (by omega); have q1 := hU.cell m1 (by omega); have q2 := hU.cell m2 (by omega); have q3 := hU.cell m3 (by omega); have q4 := hU.cell m4 (by omega); clear m0 m1 m2 m3 m4; go_simp⟩)
 refine rd1 0 (some 21) fun K hK => ?_
 go_simp; refine bk hK (hHeld) fun q => ?_; clear hK K hHeld; have hHeld := q; clear q
 refine rd1 5 (some 26) fun K hK => ?_
 go_simp; refine (HE0.out).mono ?_; rintro y w8 ⟨hb8, hy⟩; simp only [dsL] at hy
 subst hy; have hbc8 : Below w2.heap.size w2 w8 := below_fromdrew hb8
 have hat8 := HAT2.out.next hws hbc8; obtain ⟨z0, z1, z2, z3, z4, z5, z6, z7, z8, z9⟩ := cel10 hat8.sb; have zf := blk_free hat8.sb; refine bk hK ((KeepS.drew _ w2).below hb8) fun q => ?_; clear hK K hHeld; have hHeld := q; clear q
 refine tkP 6 20 (.tuple #[.agg #[.slice N.a N.n N.c, .slice V.a V.n V.c, .slice M.a M.n M.c, .slice O.a O.n O.c, .slice I.a I.n I.c, .int .i64 (h), .int .i64 (v), .int .i64 S.tick.ticks, .int .i64 (B - S.tick.ticks), .bool true], .int .i64 0]) ?_; refine tkP 7 27 (.agg #[.slice N.a N.n N.c, .slice V.a V.n V.c, .slice M.a M.n M.c, .slice O.a O.n O.c, .slice I.a I.n I.c, .int .i64 (h), .int .i64 (v), .int .i64 S.tick.ticks, .int .i64 (B - S.tick.ticks), .bool true]) ?_; refine tkP 8 28 (.int .i64 0) ?_; refine rd1 9 none fun K hK => ?_
 go_simp; refine bk hK (((KeepS.drew _ w2).below hb8).put N V M O I (h) (v) S.tick.ticks (B - S.tick.ticks) true) fun q => ?_; clear hK K hHeld; have hHeld := q; clear q
 refine tkP 10 5 (.int .i64 0) ?_; refine wpAnyH_done (by kernel_rfl) ?_ _
 refine NoPanic.normal ?_; clear z0 z1 z2 z3 z4 z5 z6 z7 z8 z9 zf; have hat := (hat8.put hws N V M O I (h) (v) S.tick.ticks (B - S.tick.ticks) true); have hdo := (HD2.out.below hbc8 |>.put10 hat8.sb N V M O I (h) (v) S.tick.ticks (B - S.tick.ticks) true).ends
 obtain ⟨w3, hw3⟩ : ∃ wx, put10 w8 w.heap.size N V M O I (h) (v) S.tick.ticks (B - S.tick.ticks) true = wx := ⟨_, rfl⟩
 rw [hw3] at hat hdo; unfold put10 at hw3; rw [hw3]; have HAT3 := Lib.hid hat; have HD3 := Lib.hid hdo; clear s0 s1 s2 s3 s4 s5 s6 s7 s8 s9 e0 e1 e2 e3 e4 e5 r0 r1 r2 r3 r4 r5 r6 r7 r8 r9 rf sf hat hw3 hdo; obtain ⟨s0, s1, s2, s3, s4, s5, s6, s7, s8, s9⟩ := cel10 HAT3.out.sb; obtain ⟨e0, e1, e2, e3, e4, e5⟩ := cel6 HAT3.out.xb; obtain ⟨r0, r1, r2, r3, r4, r5, r6, r7, r8, r9⟩ := celz HAT3.out.rb; have rf := blk_free HAT3.out.rb; have sf := blk_free HAT3.out.sb; go_wp2_with fail; obtain ⟨ba1, oa1, B1, d1, hA1, hba1, m0, m1, m2, m3, m4, _, _, hr5⟩ := HAX1.out w3 HAT3.out.below; simp only [Nat.zero_mul, Nat.one_mul, Nat.add_zero] at m0 m1 m2 m3 m4
 injection hA1 with hA1
 injection hA1 with hA1 hA2 _
 subst hA1; subst hA2; have HE1 := Lib.hid (dvalue_gone a1 B1 d1 N V M O I (h) (v) S.tick.ticks (B - S.tick.ticks) w3.drew); unfold dsL at HE1; clear hr5; refine wp_region_noPanic ?_; refine wp_region_held_drew (S := KeepS (w.heap.size) w3) (by kernel_rfl) (KeepS.drew _ _) (fun hHeld => ?_)
 refine tkP 1 35 (.pointer (some ⟨w.heap.size + 1, 3, none⟩)) ?_; refine tkP 2 36 (.slice (some ⟨ba0, oa0, none⟩) s.args.length c0) ?_ (hy := Or.inl ⟨by rfl, fun U hU => by have q := hU.cell e3 (by omega); clear e3; go_simp⟩)
 refine tkP 3 37 (.pointer (some ⟨ba0, oa0 + 5, none⟩)) ?_; refine tkP 4 38 (.agg #[.int .i64 a1.kind, .int .i64 a1.num, .string a1.name, .int .i64 a1.op, .slice B1 a1.args.length d1]) ?_ (hy := Or.inl ⟨by rfl, fun U hU => by have q0 := hU.cell m0 (by omega); have q1 := hU.cell m1 (by omega); have q2 := hU.cell m2 (by omega); have q3 := hU.cell m3 (by omega); have q4 := hU.cell m4 (by omega); clear m0 m1 m2 m3 m4; go_simp⟩)
 refine rd1 0 (some 34) fun K hK => ?_
 go_simp; refine bk hK (hHeld) fun q => ?_; clear hK K hHeld; have hHeld := q; clear q
 refine rd1 5 (some 39) fun K hK => ?_
 go_simp; refine (HE1.out).mono ?_; rintro y w8 ⟨hb8, hy⟩; simp only [dsL] at hy
 subst hy; have hbc8 : Below w3.heap.size w3 w8 := below_fromdrew hb8
 have hat8 := HAT3.out.next hws hbc8; obtain ⟨z0, z1, z2, z3, z4, z5, z6, z7, z8, z9⟩ := cel10 hat8.sb; have zf := blk_free hat8.sb; refine bk hK ((KeepS.drew _ w3).below hb8) fun q => ?_; clear hK K hHeld; have hHeld := q; clear q
 refine tkP 6 33 (.tuple #[.agg #[.slice N.a N.n N.c, .slice V.a V.n V.c, .slice M.a M.n M.c, .slice O.a O.n O.c, .slice I.a I.n I.c, .int .i64 (h), .int .i64 (v), .int .i64 S.tick.ticks, .int .i64 (B - S.tick.ticks), .bool true], .int .i64 0]) ?_; refine tkP 7 40 (.agg #[.slice N.a N.n N.c, .slice V.a V.n V.c, .slice M.a M.n M.c, .slice O.a O.n O.c, .slice I.a I.n I.c, .int .i64 (h), .int .i64 (v), .int .i64 S.tick.ticks, .int .i64 (B - S.tick.ticks), .bool true]) ?_; refine tkP 8 41 (.int .i64 0) ?_; refine rd1 9 none fun K hK => ?_
 go_simp; refine bk hK (((KeepS.drew _ w3).below hb8).put N V M O I (h) (v) S.tick.ticks (B - S.tick.ticks) true) fun q => ?_; clear hK K hHeld; have hHeld := q; clear q
 refine tkP 10 6 (.int .i64 0) ?_; refine wpAnyH_done (by kernel_rfl) ?_ _
 refine NoPanic.normal ?_; clear z0 z1 z2 z3 z4 z5 z6 z7 z8 z9 zf; have hat := (hat8.put hws N V M O I (h) (v) S.tick.ticks (B - S.tick.ticks) true); have hdo := HD3.out.below hbc8 |>.put10 hat8.sb N V M O I (h) (v) S.tick.ticks (B - S.tick.ticks) true
 obtain ⟨w4, hw4⟩ : ∃ wx, put10 w8 w.heap.size N V M O I (h) (v) S.tick.ticks (B - S.tick.ticks) true = wx := ⟨_, rfl⟩
 rw [hw4] at hat hdo; unfold put10 at hw4; rw [hw4]; have HAT4 := Lib.hid hat; have HD4 := Lib.hid hdo; clear s0 s1 s2 s3 s4 s5 s6 s7 s8 s9 e0 e1 e2 e3 e4 e5 r0 r1 r2 r3 r4 r5 r6 r7 r8 r9 rf sf hat hw4 hdo; obtain ⟨s0, s1, s2, s3, s4, s5, s6, s7, s8, s9⟩ := cel10 HAT4.out.sb; obtain ⟨e0, e1, e2, e3, e4, e5⟩ := cel6 HAT4.out.xb; obtain ⟨r0, r1, r2, r3, r4, r5, r6, r7, r8, r9⟩ := celz HAT4.out.rb; have rf := blk_free HAT4.out.rb; have sf := blk_free HAT4.out.sb; go_wp2; have hfin := LoB.left (B := B) (S := S) (S' := S.tick) (x := (h, v)) HAT4.out hws HD4.out HCP.out.1 HCP.out.2; obtain ⟨w99, hw99⟩ : ∃ wx, put10 w4 (w.heap.size + 1 + 1) N V M O I (h) (v) S.tick.ticks (B - S.tick.ticks) true = wx := ⟨_, rfl⟩
 try dsimp only at hfin
 rw [hw99] at hfin; unfold put10 at hw99; rw [hw99]; exact bodyPost_ret (results_ds rfl _ _ (w.heap.size + 1 + 1) N V M O I (h) (v) S.tick.ticks (B - S.tick.ticks) true (by rfl) hfin.1) rfl hfin.2
set_option maxRecDepth 100000 in
set_option maxHeartbeats 8000000 in
theorem one_fell21 (W : World) (B : Int) (s : Stmt) (S : Ev) {h v u0 : Int} (h7 : s.kind ≠ 7) (hs : S.ticks ≠ B) (hl : s.args.length = 2) (hfd0 : ∀ u, exprV S.tick (s.args.getD 0 default) ≠ .left 0 u) (hx0 : exprV S.tick (s.args.getD 0 default) = .ok u0) (hfd1 : ∀ u, exprV S.tick (s.args.getD 1 default) ≠ .left 0 u) (hx1 : exprV S.tick (s.args.getD 1 default) = .left h v) : StmtC W B s S S.tick (some (h, v)) := by
 intro A0 c0 A1 c1 A2 c2 d hrd hrd1 hrd2 hr h64 hnl w N V M O I hB hD hF; have hws := hB.size; obtain ⟨w0, hw0, hat, hdo⟩ := LoB.begin (s := s) (A0 := A0) (c0 := c0) (A1 := A1) (c1 := c1) (A2 := A2) (c2 := c2) hB hD S.ticks (B - S.ticks); have HAT := Lib.hid hat; have HD := Lib.hid hdo; have HF := Lib.hid hF; have HB := Lib.hid hB; have HCP := Lib.hid hD.caps; have HW := Lib.hid hw0; have HR64 := Lib.hid (And.intro hr h64); clear hat hdo hB hD hF hw0 ; obtain ⟨s0, s1, s2, s3, s4, s5, s6, s7, s8, s9⟩ := cel10 HAT.out.sb; obtain ⟨e0, e1, e2, e3, e4, e5⟩ := cel6 HAT.out.xb; obtain ⟨r0, r1, r2, r3, r4, r5, r6, r7, r8, r9⟩ := celz HAT.out.rb
 have rf := blk_free HAT.out.rb; have sf := blk_free HAT.out.sb; unfold dsL Stmt.val
 have t7 : (s.kind == 7) = false := by simp [h7]
 have HFK := Lib.hid (HF.out.tick hs); have HT := Lib.hid (fun w' => tick_more HF.out hs N V M O I w')
 rw [s.rightB_eq nameB d] at hr; simp only [Bool.and_eq_true, headB, decide_eq_true_eq] at hr
 obtain ⟨⟨⟨⟨⟨⟨⟨⟨_, hlen⟩, _⟩, _⟩, _⟩, _⟩, hra⟩, hrb⟩, hre⟩ := hr; have h64a := Stmt.in64_args h64; have hj0 : 0 < s.args.length := by omega
 have hga0 : s.args.getD 0 default = s.args[0]'hj0 := by simp [List.getD, hj0]
 have hra0 := Expr.rightsB_all hra (s.args[0]'hj0) (List.getElem_mem hj0); have h640 := Expr.in64_mem h64a (List.getElem_mem hj0); obtain ⟨a0, ha0⟩ : ∃ x, s.args[0]'hj0 = x := ⟨_, rfl⟩
 have HAX0 := Lib.hid (fun w' (hb : Below W.heap.size W w') => Expr.at hrd hb hj0)
 rw [ha0] at hga0 hra0 h640 HAX0; have hj0' : (0 : Int) < (s.args.length : Int) := by omega
 have hj1 : 1 < s.args.length := by omega
 have hga1 : s.args.getD 1 default = s.args[1]'hj1 := by simp [List.getD, hj1]
 have hra1 := Expr.rightsB_all hra (s.args[1]'hj1) (List.getElem_mem hj1); have h641 := Expr.in64_mem h64a (List.getElem_mem hj1); obtain ⟨a1, ha1⟩ : ∃ x, s.args[1]'hj1 = x := ⟨_, rfl⟩
 have HAX1 := Lib.hid (fun w' (hb : Below W.heap.size W w') => Expr.at hrd hb hj1)
 rw [ha1] at hga1 hra1 h641 HAX1; have hj1' : (1 : Int) < (s.args.length : Int) := by omega
 rw [hga0] at hx0 hfd0; have HV0 := Lib.hid (fun A' c' (h5 : Expr.rds W a0.args A' 0) w' (hb : Below W.heap.size W w') (hr' : RdS w' S.tick N V M) => dvalue_calls W S.tick HFK.out.i64 a0.nodes a0 A' c' 1 (Nat.le_refl _) h5 hra0 h640 hfd0 N V M O I S.tick.ticks (B - S.tick.ticks) w' hb hr')
 unfold dsL at HV0; rw [hga1] at hx1 hfd1; have HV1 := Lib.hid (fun A' c' (h5 : Expr.rds W a1.args A' 0) w' (hb : Below W.heap.size W w') (hr' : RdS w' S.tick N V M) => dvalue_calls W S.tick HFK.out.i64 a1.nodes a1 A' c' 1 (Nat.le_refl _) h5 hra1 h641 hfd1 N V M O I S.tick.ticks (B - S.tick.ticks) w' hb hr')
 unfold dsL at HV1; unfold dsL at HT; clear hl hs h64 hrd1 hrd2 hlen hra hrb hre h64a hrd hj0 hga0 hra0 h640 ha0 hj1 hga1 hra1 h641 ha1 hfd0 hfd1; go_enter Try.func59, Try.ntmps59
 go_wp2_with (have tk := HW; clear tk; rw [HW.out]; clear HW)
 refine (HT.out _).mono ?_; rintro y w1 ⟨rfl, hb1⟩; have hat := HAT.out.next hws hb1; have hdo := HD.out.below hb1; have HAT1 := Lib.hid hat; have HD1 := Lib.hid hdo; clear s0 s1 s2 s3 s4 s5 s6 s7 s8 s9 e0 e1 e2 e3 e4 e5 r0 r1 r2 r3 r4 r5 r6 r7 r8 r9 rf sf hat hdo hb1; obtain ⟨s0, s1, s2, s3, s4, s5, s6, s7, s8, s9⟩ := cel10 HAT1.out.sb; obtain ⟨e0, e1, e2, e3, e4, e5⟩ := cel6 HAT1.out.xb; obtain ⟨r0, r1, r2, r3, r4, r5, r6, r7, r8, r9⟩ := celz HAT1.out.rb; have rf := blk_free HAT1.out.rb; have sf := blk_free HAT1.out.sb; go_wp2_with fail; have hat := (HAT1.out.put hws N V M O I (0) (0) S.tick.ticks (B - S.tick.ticks) false)
 have hdo := (docPut HD1.out HAT1.out N V M O I (0) (0) S.tick.ticks (B - S.tick.ticks) false).tick; obtain ⟨w2, hw2⟩ : ∃ wx, put10 w1 w.heap.size N V M O I (0) (0) S.tick.ticks (B - S.tick.ticks) false = wx := ⟨_, rfl⟩
 rw [hw2] at hat hdo; unfold put10 at hw2; rw [hw2]; have HAT2 := Lib.hid hat; have HD2 := Lib.hid hdo; clear s0 s1 s2 s3 s4 s5 s6 s7 s8 s9 e0 e1 e2 e3 e4 e5 r0 r1 r2 r3 r4 r5 r6 r7 r8 r9 rf sf hat hw2 hdo; obtain ⟨s0, s1, s2, s3, s4, s5, s6, s7, s8, s9⟩ := cel10 HAT2.out.sb; obtain ⟨e0, e1, e2, e3, e4, e5⟩ := cel6 HAT2.out.xb; obtain ⟨r0, r1, r2, r3, r4, r5, r6, r7, r8, r9⟩ := celz HAT2.out.rb; have rf := blk_free HAT2.out.rb; have sf := blk_free HAT2.out.sb; obtain ⟨ba0, oa0, B0, d0, hA0, hba0, m0, m1, m2, m3, m4, _, _, hr5⟩ := HAX0.out w2 HAT2.out.below; simp only [Nat.zero_mul, Nat.one_mul, Nat.add_zero] at m0 m1 m2 m3 m4
 subst hA0; have HE0 := Lib.hid (HV0.out B0 d0 hr5 w2.drew HAT2.out.drew.below ((HD2.out.below (Below.refl _ _).drew).reads HFK.out)); rw [hx0] at HE0; clear hr5; refine wp_region_noPanic ?_; refine wp_region_held_drew (S := KeepS (w.heap.size) w2) (by kernel_rfl) (KeepS.drew _ _) (fun hHeld => ?_)
 refine tkP 1 22 (.pointer (some ⟨w.heap.size + 1, 3, none⟩)) ?_; refine tkP 2 23 (.slice (some ⟨ba0, oa0, none⟩) s.args.length c0) ?_ (hy := Or.inl ⟨by rfl, fun U hU => by have q := hU.cell e3 (by omega); clear e3; go_simp⟩)
 refine tkP 3 24 (.pointer (some ⟨ba0, oa0, none⟩)) ?_; refine tkP 4 25 (.agg #[.int .i64 a0.kind, .int .i64 a0.num, .string a0.name, .int .i64 a0.op, .slice B0 a0.args.length d0]) ?_ (hy := Or.inl ⟨by rfl, fun U hU => by have q0 := hU.cell m0 (by omega); have q1 := hU.cell m1 (by omega); have q2 := hU.cell m2 (by omega); have q3 := hU.cell m3 (by omega); have q4 := hU.cell m4 (by omega); clear m0 m1 m2 m3 m4; go_simp⟩)
 refine rd1 0 (some 21) fun K hK => ?_
 go_simp; refine bk hK (hHeld) fun q => ?_; clear hK K hHeld; have hHeld := q; clear q
 refine rd1 5 (some 26) fun K hK => ?_
 go_simp; refine (HE0.out).mono ?_; rintro y w8 ⟨hb8, hy⟩; simp only [dsL] at hy
 subst hy; have hbc8 : Below w2.heap.size w2 w8 := below_fromdrew hb8
 have hat8 := HAT2.out.next hws hbc8; obtain ⟨z0, z1, z2, z3, z4, z5, z6, z7, z8, z9⟩ := cel10 hat8.sb; have zf := blk_free hat8.sb; refine bk hK ((KeepS.drew _ w2).below hb8) fun q => ?_; clear hK K hHeld; have hHeld := q; clear q
 refine tkP 6 20 (.tuple #[.agg #[.slice N.a N.n N.c, .slice V.a V.n V.c, .slice M.a M.n M.c, .slice O.a O.n O.c, .slice I.a I.n I.c, .int .i64 (0), .int .i64 (0), .int .i64 S.tick.ticks, .int .i64 (B - S.tick.ticks), .bool false], .int .i64 u0]) ?_; refine tkP 7 27 (.agg #[.slice N.a N.n N.c, .slice V.a V.n V.c, .slice M.a M.n M.c, .slice O.a O.n O.c, .slice I.a I.n I.c, .int .i64 (0), .int .i64 (0), .int .i64 S.tick.ticks, .int .i64 (B - S.tick.ticks), .bool false]) ?_; refine tkP 8 28 (.int .i64 u0) ?_; refine rd1 9 none fun K hK => ?_
 go_simp; refine bk hK (((KeepS.drew _ w2).below hb8).put N V M O I (0) (0) S.tick.ticks (B - S.tick.ticks) false) fun q => ?_; clear hK K hHeld; have hHeld := q; clear q
 refine tkP 10 5 (.int .i64 u0) ?_; refine wpAnyH_done (by kernel_rfl) ?_ _
 refine NoPanic.normal ?_; clear z0 z1 z2 z3 z4 z5 z6 z7 z8 z9 zf; have hat := (hat8.put hws N V M O I (0) (0) S.tick.ticks (B - S.tick.ticks) false); have hdo := HD2.out.below hbc8 |>.put10 hat8.sb N V M O I (0) (0) S.tick.ticks (B - S.tick.ticks) false
 obtain ⟨w3, hw3⟩ : ∃ wx, put10 w8 w.heap.size N V M O I (0) (0) S.tick.ticks (B - S.tick.ticks) false = wx := ⟨_, rfl⟩
 rw [hw3] at hat hdo; unfold put10 at hw3; rw [hw3]; have HAT3 := Lib.hid hat; have HD3 := Lib.hid hdo; clear s0 s1 s2 s3 s4 s5 s6 s7 s8 s9 e0 e1 e2 e3 e4 e5 r0 r1 r2 r3 r4 r5 r6 r7 r8 r9 rf sf hat hw3 hdo; obtain ⟨s0, s1, s2, s3, s4, s5, s6, s7, s8, s9⟩ := cel10 HAT3.out.sb; obtain ⟨e0, e1, e2, e3, e4, e5⟩ := cel6 HAT3.out.xb; obtain ⟨r0, r1, r2, r3, r4, r5, r6, r7, r8, r9⟩ := celz HAT3.out.rb; have rf := blk_free HAT3.out.rb; have sf := blk_free HAT3.out.sb; go_wp2_with fail; obtain ⟨ba1, oa1, B1, d1, hA1, hba1, m0, m1, m2, m3, m4, _, _, hr5⟩ := HAX1.out w3 HAT3.out.below; simp only [Nat.zero_mul, Nat.one_mul, Nat.add_zero] at m0 m1 m2 m3 m4
 injection hA1 with hA1
 injection hA1 with hA1 hA2 _
 subst hA1; subst hA2; have HE1 := Lib.hid (HV1.out B1 d1 hr5 w3.drew HAT3.out.drew.below ((HD3.out.below (Below.refl _ _).drew).reads HFK.out)); rw [hx1] at HE1; clear hr5; refine wp_region_noPanic ?_; refine wp_region_held_drew (S := KeepS (w.heap.size) w3) (by kernel_rfl) (KeepS.drew _ _) (fun hHeld => ?_)
 refine tkP 1 35 (.pointer (some ⟨w.heap.size + 1, 3, none⟩)) ?_; refine tkP 2 36 (.slice (some ⟨ba0, oa0, none⟩) s.args.length c0) ?_ (hy := Or.inl ⟨by rfl, fun U hU => by have q := hU.cell e3 (by omega); clear e3; go_simp⟩)
 refine tkP 3 37 (.pointer (some ⟨ba0, oa0 + 5, none⟩)) ?_; refine tkP 4 38 (.agg #[.int .i64 a1.kind, .int .i64 a1.num, .string a1.name, .int .i64 a1.op, .slice B1 a1.args.length d1]) ?_ (hy := Or.inl ⟨by rfl, fun U hU => by have q0 := hU.cell m0 (by omega); have q1 := hU.cell m1 (by omega); have q2 := hU.cell m2 (by omega); have q3 := hU.cell m3 (by omega); have q4 := hU.cell m4 (by omega); clear m0 m1 m2 m3 m4; go_simp⟩)
 refine rd1 0 (some 34) fun K hK => ?_
 go_simp; refine bk hK (hHeld) fun q => ?_; clear hK K hHeld; have hHeld := q; clear q
 refine rd1 5 (some 39) fun K hK => ?_
 go_simp; refine (HE1.out).mono ?_; rintro y w8 ⟨hb8, hy⟩; simp only [dsL] at hy
 subst hy; have hbc8 : Below w3.heap.size w3 w8 := below_fromdrew hb8
 have hat8 := HAT3.out.next hws hbc8; obtain ⟨z0, z1, z2, z3, z4, z5, z6, z7, z8, z9⟩ := cel10 hat8.sb; have zf := blk_free hat8.sb; refine bk hK ((KeepS.drew _ w3).below hb8) fun q => ?_; clear hK K hHeld; have hHeld := q; clear q
 refine tkP 6 33 (.tuple #[.agg #[.slice N.a N.n N.c, .slice V.a V.n V.c, .slice M.a M.n M.c, .slice O.a O.n O.c, .slice I.a I.n I.c, .int .i64 (h), .int .i64 (v), .int .i64 S.tick.ticks, .int .i64 (B - S.tick.ticks), .bool true], .int .i64 0]) ?_; refine tkP 7 40 (.agg #[.slice N.a N.n N.c, .slice V.a V.n V.c, .slice M.a M.n M.c, .slice O.a O.n O.c, .slice I.a I.n I.c, .int .i64 (h), .int .i64 (v), .int .i64 S.tick.ticks, .int .i64 (B - S.tick.ticks), .bool true]) ?_; refine tkP 8 41 (.int .i64 0) ?_; refine rd1 9 none fun K hK => ?_
 go_simp; refine bk hK (((KeepS.drew _ w3).below hb8).put N V M O I (h) (v) S.tick.ticks (B - S.tick.ticks) true) fun q => ?_; clear hK K hHeld; have hHeld := q; clear q
 refine tkP 10 6 (.int .i64 0) ?_; refine wpAnyH_done (by kernel_rfl) ?_ _
 refine NoPanic.normal ?_; clear z0 z1 z2 z3 z4 z5 z6 z7 z8 z9 zf; have hat := (hat8.put hws N V M O I (h) (v) S.tick.ticks (B - S.tick.ticks) true); have hdo := (HD3.out.below hbc8 |>.put10 hat8.sb N V M O I (h) (v) S.tick.ticks (B - S.tick.ticks) true).ends
 obtain ⟨w4, hw4⟩ : ∃ wx, put10 w8 w.heap.size N V M O I (h) (v) S.tick.ticks (B - S.tick.ticks) true = wx := ⟨_, rfl⟩
 rw [hw4] at hat hdo; unfold put10 at hw4; rw [hw4]; have HAT4 := Lib.hid hat; have HD4 := Lib.hid hdo; clear s0 s1 s2 s3 s4 s5 s6 s7 s8 s9 e0 e1 e2 e3 e4 e5 r0 r1 r2 r3 r4 r5 r6 r7 r8 r9 rf sf hat hw4 hdo; obtain ⟨s0, s1, s2, s3, s4, s5, s6, s7, s8, s9⟩ := cel10 HAT4.out.sb; obtain ⟨e0, e1, e2, e3, e4, e5⟩ := cel6 HAT4.out.xb; obtain ⟨r0, r1, r2, r3, r4, r5, r6, r7, r8, r9⟩ := celz HAT4.out.rb; have rf := blk_free HAT4.out.rb; have sf := blk_free HAT4.out.sb; go_wp2; have hfin := LoB.left (B := B) (S := S) (S' := S.tick) (x := (h, v)) HAT4.out hws HD4.out HCP.out.1 HCP.out.2; obtain ⟨w99, hw99⟩ : ∃ wx, put10 w4 (w.heap.size + 1 + 1) N V M O I (h) (v) S.tick.ticks (B - S.tick.ticks) true = wx := ⟨_, rfl⟩
 try dsimp only at hfin
 rw [hw99] at hfin; unfold put10 at hw99; rw [hw99]; exact bodyPost_ret (results_ds rfl _ _ (w.heap.size + 1 + 1) N V M O I (h) (v) S.tick.ticks (B - S.tick.ticks) true (by rfl) hfin.1) rfl hfin.2
end Go.Proofs.Ytjlnpppjkdcpkaa.My
