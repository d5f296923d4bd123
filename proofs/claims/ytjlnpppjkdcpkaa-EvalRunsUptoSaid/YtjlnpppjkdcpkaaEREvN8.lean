/- The document's way through a statement: an if, an end. Conditions: as9 XEvN5. -/
import Derived.Test.YtjlnpppjkdcpkaaEREvNs
import Derived.Test.YtjlnpppjkdcpkaaEREvN6
namespace Go.Proofs.Ytjlnpppjkdcpkaa.My
open Go.RowKit Go.Proofs.Ytjlnpppjkdcpkaa.NumA
set_option linter.unusedVariables false
set_option linter.unusedSimpArgs false
/-- what is left of the boxes where the result is set -/
structure LoR (W w : World) (wz : World) : Prop where
 below : Below W.heap.size W wz
 fr : FrX w wz
 rb : wz.heap[w.heap.size + 1 + 1]? = some (dsC (dsL zR zR zR zR zR 0 0 0 0 false))
theorem LoB.res {W w : World} {s : Stmt} {A0 A1 A2 : Option Addr} {c0 c1 c2 : Nat} {N V M O I : Rw} {ov va tk lf : Int} {e : Bool} {wz : World} (h : LoB W w s A0 c0 A1 c1 A2 c2 N V M O I ov va tk lf e wz) : LoR W w wz := ⟨h.below, h.fr, h.rb⟩
theorem LoR.done {W w wz : World} {N V M O I : Rw} {B : Int} {S S' : Ev} (h : LoR W w wz) (hw : W.heap.size ≤ w.heap.size) (hd : DocAt wz W.heap.size S' N V M O I) :
  (put10 wz (w.heap.size + 1 + 1) N V M O I 0 0 S'.ticks (B - S'.ticks) false).heap[w.heap.size + 1 + 1]? = some (dsC (dsL N V M O I 0 0 S'.ticks (B - S'.ticks) false)) ∧
  DoneD W B S S' none w (.returned (.agg (dsL N V M O I 0 0 S'.ticks (B - S'.ticks) false).toArray)) (put10 wz (w.heap.size + 1 + 1) N V M O I 0 0 S'.ticks (B - S'.ticks) false) :=
 ⟨put10_blk h.rb _ _ _ _ _ _ _ _ _ _, h.below.put10 (by omega) _ _ _ _ _ _ _ _ _ _, h.fr.put10 (by omega) _ _ _ _ _ _ _ _ _ _, N, V, M, O, I, rfl, hd.put10 h.rb _ _ _ _ _ _ _ _ _ _⟩
theorem LoR.left {W w wz : World} {N V M O I : Rw} {B : Int} {S S' : Ev} {x : Int × Int} (h : LoR W w wz) (hw : W.heap.size ≤ w.heap.size) (hd : EndAt wz W.heap.size S' M O I) (hn : S.names.length ≤ N.c) (hv : S.names.length ≤ V.c) :
  (put10 wz (w.heap.size + 1 + 1) N V M O I x.1 x.2 S'.ticks (B - S'.ticks) true).heap[w.heap.size + 1 + 1]? = some (dsC (dsL N V M O I x.1 x.2 S'.ticks (B - S'.ticks) true)) ∧
  DoneD W B S S' (some x) w (.returned (.agg (dsL N V M O I x.1 x.2 S'.ticks (B - S'.ticks) true).toArray)) (put10 wz (w.heap.size + 1 + 1) N V M O I x.1 x.2 S'.ticks (B - S'.ticks) true) :=
 ⟨put10_blk h.rb _ _ _ _ _ _ _ _ _ _, h.below.put10 (by omega) _ _ _ _ _ _ _ _ _ _, h.fr.put10 (by omega) _ _ _ _ _ _ _ _ _ _, N, V, M, O, I, rfl, hn, hv, hd.put10 h.rb _ _ _ _ _ _ _ _ _ _⟩
set_option maxRecDepth 100000 in
set_option maxHeartbeats 8000000 in
theorem one_ift (W : World) (B : Int) (s : Stmt) (S : Ev) {S' : Ev} {o : Option (Int × Int)} {u0 : Int} (h7 : s.kind ≠ 7) (hs : S.ticks ≠ B) (hl : s.args.length = 1) (hfd0 : ∀ u, exprV S.tick (s.args.getD 0 default) ≠ .left 0 u) (hx0 : exprV S.tick (s.args.getD 0 default) = .ok u0) (hK : s.kind = 6) (hz : u0 ≠ 0) (HRB : ∀ {d}, s.rightB nameB d = true → Stmt.rightsB nameB (d + 1) s.body = true) (HI6 : s.in64 → Stmt.in64L s.body) (hc : BlockC W B s.body S.tick S' o) : StmtC W B s S S' o := by
 intro A0 c0 A1 c1 A2 c2 d hrd hrd1 hrd2 hr h64 hnl w N V M O I hB hD hF; have hws := hB.size; obtain ⟨w0, hw0, hat, hdo⟩ := LoB.begin (s := s) (A0 := A0) (c0 := c0) (A1 := A1) (c1 := c1) (A2 := A2) (c2 := c2) hB hD S.ticks (B - S.ticks); have HAT := Lib.hid hat; have HD := Lib.hid hdo; have HF := Lib.hid hF; have HB := Lib.hid hB; have HCP := Lib.hid hD.caps; have HW := Lib.hid hw0; have HR64 := Lib.hid (And.intro hr h64); clear hat hdo hB hD hF hw0 ; obtain ⟨s0, s1, s2, s3, s4, s5, s6, s7, s8, s9⟩ := cel10 HAT.out.sb; obtain ⟨e0, e1, e2, e3, e4, e5⟩ := cel6 HAT.out.xb; obtain ⟨r0, r1, r2, r3, r4, r5, r6, r7, r8, r9⟩ := celz HAT.out.rb
 have rf := blk_free HAT.out.rb; have sf := blk_free HAT.out.sb; unfold dsL Stmt.val
 have t7 : (s.kind == 7) = false := by simp [h7]
 have hnn := s.nodes_eq; have HBL := Lib.hid (fun w' (hb : Below W.heap.size W w') (hd : DocAt w' W.heap.size S.tick N V M O I) => hc A1 c1 (d + 1) hrd1 (HRB hr) (HI6 h64) (by omega) w' N V M O I hb hd (HF.out.tick hs))
 unfold dsL at HBL; have hz' : (u0 != 0) = true := by simp [hz]
 clear hz hnn hc HRB HI6; have t1 : (s.kind == 1) = false := by simp [hK]
 have t2 : (s.kind == 2) = false := by simp [hK]
 have t3 : (s.kind == 3) = false := by simp [hK]
 have t4 : (s.kind == 4) = false := by simp [hK]
 have t5 : (s.kind == 5) = false := by simp [hK]
 have t6 : (s.kind == 6) = true := by simp [hK]
 have t8 : (s.kind == 8) = false := by simp [hK]
 have t9 : (s.kind == 9) = false := by simp [hK]
 have HFK := Lib.hid (HF.out.tick hs); have HT := Lib.hid (fun w' => tick_more HF.out hs N V M O I w')
 rw [s.rightB_eq nameB d] at hr; simp only [Bool.and_eq_true, headB, decide_eq_true_eq] at hr
 obtain ⟨⟨⟨⟨⟨⟨⟨⟨_, hlen⟩, _⟩, _⟩, _⟩, _⟩, hra⟩, hrb⟩, hre⟩ := hr; have h64a := Stmt.in64_args h64; have hj0 : 0 < s.args.length := by omega
 have hga0 : s.args.getD 0 default = s.args[0]'hj0 := by simp [List.getD, hj0]
 have hra0 := Expr.rightsB_all hra (s.args[0]'hj0) (List.getElem_mem hj0); have h640 := Expr.in64_mem h64a (List.getElem_mem hj0); obtain ⟨a0, ha0⟩ : ∃ x, s.args[0]'hj0 = x := ⟨_, rfl⟩
 have HAX0 := Lib.hid (fun w' (hb : Below W.heap.size W w') => Expr.at hrd hb hj0)
 rw [ha0] at hga0 hra0 h640 HAX0; have hj0' : (0 : Int) < (s.args.length : Int) := by omega
 have g1 : ¬ (1 < (s.args.length : Int)) := by omega
 rw [hga0] at hx0 hfd0; have HV0 := Lib.hid (fun A' c' (h5 : Expr.rds W a0.args A' 0) w' (hb : Below W.heap.size W w') (hr' : RdS w' S.tick N V M) => dvalue_calls W S.tick HFK.out.i64 a0.nodes a0 A' c' 1 (Nat.le_refl _) h5 hra0 h640 hfd0 N V M O I S.tick.ticks (B - S.tick.ticks) w' hb hr')
 unfold dsL at HV0; unfold dsL at HT; clear hK hl hs h64 hrd1 hrd2 hlen hra hrb hre h64a hrd hj0 hga0 hra0 h640 ha0 hfd0; go_enter Try.func59, Try.ntmps59
 go_wp2_with (have tk := HW; clear tk; rw [HW.out]; clear HW)
 refine (HT.out _).mono ?_; rintro y w1 ⟨rfl, hb1⟩; have hat := HAT.out.next hws hb1; have hdo := HD.out.below hb1; have HAT1 := Lib.hid hat; have HD1 := Lib.hid hdo; clear s0 s1 s2 s3 s4 s5 s6 s7 s8 s9 e0 e1 e2 e3 e4 e5 r0 r1 r2 r3 r4 r5 r6 r7 r8 r9 rf sf hat hdo hb1; obtain ⟨s0, s1, s2, s3, s4, s5, s6, s7, s8, s9⟩ := cel10 HAT1.out.sb; obtain ⟨e0, e1, e2, e3, e4, e5⟩ := cel6 HAT1.out.xb; obtain ⟨r0, r1, r2, r3, r4, r5, r6, r7, r8, r9⟩ := celz HAT1.out.rb; have rf := blk_free HAT1.out.rb; have sf := blk_free HAT1.out.sb; go_wp2_with fail; have hat := (HAT1.out.put hws N V M O I (0) (0) S.tick.ticks (B - S.tick.ticks) false)
 have hdo := (docPut HD1.out HAT1.out N V M O I (0) (0) S.tick.ticks (B - S.tick.ticks) false).tick; obtain ⟨w2, hw2⟩ : ∃ wx, put10 w1 w.heap.size N V M O I (0) (0) S.tick.ticks (B - S.tick.ticks) false = wx := ⟨_, rfl⟩
 rw [hw2] at hat hdo; unfold put10 at hw2; rw [hw2]; have HAT2 := Lib.hid hat; have HD2 := Lib.hid hdo; clear s0 s1 s2 s3 s4 s5 s6 s7 s8 s9 e0 e1 e2 e3 e4 e5 r0 r1 r2 r3 r4 r5 r6 r7 r8 r9 rf sf hat hw2 hdo; obtain ⟨s0, s1, s2, s3, s4, s5, s6, s7, s8, s9⟩ := cel10 HAT2.out.sb; obtain ⟨e0, e1, e2, e3, e4, e5⟩ := cel6 HAT2.out.xb; obtain ⟨r0, r1, r2, r3, r4, r5, r6, r7, r8, r9⟩ := celz HAT2.out.rb; have rf := blk_free HAT2.out.rb; have sf := blk_free HAT2.out.sb; obtain ⟨ba0, oa0, B0, d0, hA0, hba0, m0, m1, m2, m3, m4, _, _, hr5⟩ := HAX0.out w2 HAT2.out.below; simp only [Nat.zero_mul, Nat.one_mul, Nat.add_zero] at m0 m1 m2 m3 m4
 subst hA0; have HE0 := Lib.hid (HV0.out B0 d0 hr5 w2.drew HAT2.out.drew.below ((HD2.out.below (Below.refl _ _).drew).reads HFK.out)); rw [hx0] at HE0; clear hr5; refine wp_region_noPanic ?_; refine wp_region_held_drew (S := KeepS (w.heap.size) w2) (by kernel_rfl) (KeepS.drew _ _) (fun hHeld => ?_)
 refine tkP 1 22 (.pointer (some ⟨w.heap.size + 1, 3, none⟩)) ?_; refine tkP 2 23 (.slice (some ⟨ba0, oa0, none⟩) s.args.length c0) ?_ (hy := Or.inl ⟨by rfl, fun U hU => by have q := hU.cell e3 (by omega); clear e3; go_simp⟩)
 refine tkP 3 24 (.pointer (some ⟨ba0, oa0, none⟩)) ?_; refine tkP 4 25 (.agg #[.int .i64 a0.kind, .int .i64 a0.num, .string a0.name, .int .i64 a0.op, .slice B0 a0.args.length d0]) ?_ (hy := Or.inl ⟨by rfl, fun U hU => by have q0 := hU.cell m0 (by omega); have q1 := hU.cell m1 (by omega); have q2 := hU.cell m2 (by omega); have q3 := hU.cell m3 (by omega); have q4 := hU.cell m4 (by omega); clear m0 m1 m2 m3 m4; go_simp⟩)
 refine rd1 0 (some 21) fun K hK => ?_
 go_simp; refine bk hK (hHeld) fun q => ?_; clear hK K hHeld; have hHeld := q; clear q
 refine rd1 5 (some 26) fun K hK => ?_
 go_simp; refine (HE0.out).mono ?_; rintro y w8 ⟨hb8, hy⟩; simp only [dsL] at hy
 subst hy; have hbc8 : Below w2.heap.size w2 w8 := below_fromdrew hb8
 have hat8 := HAT2.out.next hws hbc8; obtain ⟨z0, z1, z2, z3, z4, z5, z6, z7, z8, z9⟩ := cel10 hat8.sb; have zf := blk_free hat8.sb; refine bk hK ((KeepS.drew _ w2).below hb8) fun q => ?_; clear hK K hHeld; have hHeld := q; clear q
 refine tkP 6 20 (.tuple #[.agg #[.slice N.a N.n N.c, .slice V.a V.n V.c, .slice M.a M.n M.c, .slice O.a O.n O.c, .slice I.a I.n I.c, .int .i64 (0), .int .i64 (0), .int .i64 S.tick.ticks, .int .i64 (B - S.tick.ticks), .bool false], .int .i64 u0]) ?_; refine tkP 7 27 (.agg #[.slice N.a N.n N.c, .slice V.a V.n V.c, .slice M.a M.n M.c, .slice O.a O.n O.c, .slice I.a I.n I.c, .int .i64 (0), .int .i64 (0), .int .i64 S.tick.ticks, .int .i64 (B - S.tick.ticks), .bool false]) ?_; refine tkP 8 28 (.int .i64 u0) ?_; refine rd1 9 none fun K hK => ?_
 go_simp; refine bk hK (((KeepS.drew _ w2).below hb8).put N V M O I (0) (0) S.tick.ticks (B - S.tick.ticks) false) fun q => ?_; clear hK K hHeld; have hHeld := q; clear q
 refine tkP 10 5 (.int .i64 u0) ?_; refine wpAnyH_done (by kernel_rfl) ?_ _
 refine NoPanic.normal ?_; clear z0 z1 z2 z3 z4 z5 z6 z7 z8 z9 zf; have hat := (hat8.put hws N V M O I (0) (0) S.tick.ticks (B - S.tick.ticks) false); have hdo := HD2.out.below hbc8 |>.put10 hat8.sb N V M O I (0) (0) S.tick.ticks (B - S.tick.ticks) false
 obtain ⟨w3, hw3⟩ : ∃ wx, put10 w8 w.heap.size N V M O I (0) (0) S.tick.ticks (B - S.tick.ticks) false = wx := ⟨_, rfl⟩
 rw [hw3] at hat hdo; unfold put10 at hw3; rw [hw3]; have HAT3 := Lib.hid hat; have HD3 := Lib.hid hdo; clear s0 s1 s2 s3 s4 s5 s6 s7 s8 s9 e0 e1 e2 e3 e4 e5 r0 r1 r2 r3 r4 r5 r6 r7 r8 r9 rf sf hat hw3 hdo; obtain ⟨s0, s1, s2, s3, s4, s5, s6, s7, s8, s9⟩ := cel10 HAT3.out.sb; obtain ⟨e0, e1, e2, e3, e4, e5⟩ := cel6 HAT3.out.xb; obtain ⟨r0, r1, r2, r3, r4, r5, r6, r7, r8, r9⟩ := celz HAT3.out.rb; have rf := blk_free HAT3.out.rb; have sf := blk_free HAT3.out.sb; go_wp2_with fail; refine (HBL.out w3 HAT3.out.below HD3.out).mono ?_; rintro y w5 hy; obtain ⟨hb5, hf5, hy⟩ := hy; have hat := HAT3.out.call hb5 hf5
 have HAT5 := Lib.hid hat; clear s0 s1 s2 s3 s4 s5 s6 s7 s8 s9 e0 e1 e2 e3 e4 e5 r0 r1 r2 r3 r4 r5 r6 r7 r8 r9 rf sf hat hb5 hf5; obtain ⟨s0, s1, s2, s3, s4, s5, s6, s7, s8, s9⟩ := cel10 HAT5.out.sb; obtain ⟨e0, e1, e2, e3, e4, e5⟩ := cel6 HAT5.out.xb; obtain ⟨r0, r1, r2, r3, r4, r5, r6, r7, r8, r9⟩ := celz HAT5.out.rb; have rf := blk_free HAT5.out.rb; have sf := blk_free HAT5.out.sb
 cases o with
 | none =>
  obtain ⟨N1, V1, M1, O1, I1, hy, hd1⟩ := hy; simp only [dsL] at hy
  subst hy; go_wp2; have hfin := LoR.done (B := B) (S := S) (S' := S') HAT5.out.res hws hd1; obtain ⟨w99, hw99⟩ : ∃ wx, put10 w5 (w.heap.size + 1 + 1) N1 V1 M1 O1 I1 (0) (0) S'.ticks (B - S'.ticks) false = wx := ⟨_, rfl⟩
  try dsimp only at hfin
  rw [hw99] at hfin; unfold put10 at hw99; rw [hw99]; exact bodyPost_ret (results_ds rfl _ _ (w.heap.size + 1 + 1) N1 V1 M1 O1 I1 (0) (0) S'.ticks (B - S'.ticks) false (by rfl) hfin.1) rfl hfin.2
 | some x =>
  obtain ⟨N1, V1, M1, O1, I1, hy, hn1, hv1, hd1⟩ := hy; simp only [dsL] at hy
  subst hy; go_wp2; have hfin := LoR.left (B := B) (S := S) (S' := S') (x := x) HAT5.out.res hws hd1 hn1 hv1; obtain ⟨w99, hw99⟩ : ∃ wx, put10 w5 (w.heap.size + 1 + 1) N1 V1 M1 O1 I1 (x.1) (x.2) S'.ticks (B - S'.ticks) true = wx := ⟨_, rfl⟩
  try dsimp only at hfin
  rw [hw99] at hfin; unfold put10 at hw99; rw [hw99]; exact bodyPost_ret (results_ds rfl _ _ (w.heap.size + 1 + 1) N1 V1 M1 O1 I1 (x.1) (x.2) S'.ticks (B - S'.ticks) true (by rfl) hfin.1) rfl hfin.2
set_option maxRecDepth 100000 in
set_option maxHeartbeats 8000000 in
theorem one_ife (W : World) (B : Int) (s : Stmt) (S : Ev) {S' : Ev} {o : Option (Int × Int)} {u0 : Int} (h7 : s.kind ≠ 7) (hs : S.ticks ≠ B) (hl : s.args.length = 1) (hfd0 : ∀ u, exprV S.tick (s.args.getD 0 default) ≠ .left 0 u) (hx0 : exprV S.tick (s.args.getD 0 default) = .ok u0) (hK : s.kind = 6) (hz : u0 = 0) (HRB : ∀ {d}, s.rightB nameB d = true → Stmt.rightsB nameB (d + 1) s.els = true) (HI6 : s.in64 → Stmt.in64L s.els) (hc : BlockC W B s.els S.tick S' o) : StmtC W B s S S' o := by
 intro A0 c0 A1 c1 A2 c2 d hrd hrd1 hrd2 hr h64 hnl w N V M O I hB hD hF; have hws := hB.size; obtain ⟨w0, hw0, hat, hdo⟩ := LoB.begin (s := s) (A0 := A0) (c0 := c0) (A1 := A1) (c1 := c1) (A2 := A2) (c2 := c2) hB hD S.ticks (B - S.ticks); have HAT := Lib.hid hat; have HD := Lib.hid hdo; have HF := Lib.hid hF; have HB := Lib.hid hB; have HCP := Lib.hid hD.caps; have HW := Lib.hid hw0; have HR64 := Lib.hid (And.intro hr h64); clear hat hdo hB hD hF hw0 ; obtain ⟨s0, s1, s2, s3, s4, s5, s6, s7, s8, s9⟩ := cel10 HAT.out.sb; obtain ⟨e0, e1, e2, e3, e4, e5⟩ := cel6 HAT.out.xb; obtain ⟨r0, r1, r2, r3, r4, r5, r6, r7, r8, r9⟩ := celz HAT.out.rb
 have rf := blk_free HAT.out.rb; have sf := blk_free HAT.out.sb; unfold dsL Stmt.val
 have t7 : (s.kind == 7) = false := by simp [h7]
 have hnn := s.nodes_eq; have HBL := Lib.hid (fun w' (hb : Below W.heap.size W w') (hd : DocAt w' W.heap.size S.tick N V M O I) => hc A2 c2 (d + 1) hrd2 (HRB hr) (HI6 h64) (by omega) w' N V M O I hb hd (HF.out.tick hs))
 unfold dsL at HBL; have hz' : (u0 != 0) = false := by simp [hz]
 clear hz hnn hc HRB HI6; have t1 : (s.kind == 1) = false := by simp [hK]
 have t2 : (s.kind == 2) = false := by simp [hK]
 have t3 : (s.kind == 3) = false := by simp [hK]
 have t4 : (s.kind == 4) = false := by simp [hK]
 have t5 : (s.kind == 5) = false := by simp [hK]
 have t6 : (s.kind == 6) = true := by simp [hK]
 have t8 : (s.kind == 8) = false := by simp [hK]
 have t9 : (s.kind == 9) = false := by simp [hK]
 have HFK := Lib.hid (HF.out.tick hs); have HT := Lib.hid (fun w' => tick_more HF.out hs N V M O I w')
 rw [s.rightB_eq nameB d] at hr; simp only [Bool.and_eq_true, headB, decide_eq_true_eq] at hr
 obtain ⟨⟨⟨⟨⟨⟨⟨⟨_, hlen⟩, _⟩, _⟩, _⟩, _⟩, hra⟩, hrb⟩, hre⟩ := hr; have h64a := Stmt.in64_args h64; have hj0 : 0 < s.args.length := by omega
 have hga0 : s.args.getD 0 default = s.args[0]'hj0 := by simp [List.getD, hj0]
 have hra0 := Expr.rightsB_all hra (s.args[0]'hj0) (List.getElem_mem hj0); have h640 := Expr.in64_mem h64a (List.getElem_mem hj0); obtain ⟨a0, ha0⟩ : ∃ x, s.args[0]'hj0 = x := ⟨_, rfl⟩
 have HAX0 := Lib.hid (fun w' (hb : Below W.heap.size W w') => Expr.at hrd hb hj0)
 rw [ha0] at hga0 hra0 h640 HAX0; have hj0' : (0 : Int) < (s.args.length : Int) := by omega
 have g1 : ¬ (1 < (s.args.length : Int)) := by omega
 rw [hga0] at hx0 hfd0; have HV0 := Lib.hid (fun A' c' (h5 : Expr.rds W a0.args A' 0) w' (hb : Below W.heap.size W w') (hr' : RdS w' S.tick N V M) => dvalue_calls W S.tick HFK.out.i64 a0.nodes a0 A' c' 1 (Nat.le_refl _) h5 hra0 h640 hfd0 N V M O I S.tick.ticks (B - S.tick.ticks) w' hb hr')
 unfold dsL at HV0; unfold dsL at HT; clear hK hl hs h64 hrd1 hrd2 hlen hra hrb hre h64a hrd hj0 hga0 hra0 h640 ha0 hfd0; go_enter Try.func59, Try.ntmps59
 go_wp2_with (have tk := HW; clear tk; rw [HW.out]; clear HW)
 refine (HT.out _).mono ?_; rintro y w1 ⟨rfl, hb1⟩; have hat := HAT.out.next hws hb1; have hdo := HD.out.below hb1; have HAT1 := Lib.hid hat; have HD1 := Lib.hid hdo; clear s0 s1 s2 s3 s4 s5 s6 s7 s8 s9 e0 e1 e2 e3 e4 e5 r0 r1 r2 r3 r4 r5 r6 r7 r8 r9 rf sf hat hdo hb1; obtain ⟨s0, s1, s2, s3, s4, s5, s6, s7, s8, s9⟩ := cel10 HAT1.out.sb; obtain ⟨e0, e1, e2, e3, e4, e5⟩ := cel6 HAT1.out.xb; obtain ⟨r0, r1, r2, r3, r4, r5, r6, r7, r8, r9⟩ := celz HAT1.out.rb; have rf := blk_free HAT1.out.rb; have sf := blk_free HAT1.out.sb; go_wp2_with fail; have hat := (HAT1.out.put hws N V M O I (0) (0) S.tick.ticks (B - S.tick.ticks) false)
 have hdo := (docPut HD1.out HAT1.out N V M O I (0) (0) S.tick.ticks (B - S.tick.ticks) false).tick; obtain ⟨w2, hw2⟩ : ∃ wx, put10 w1 w.heap.size N V M O I (0) (0) S.tick.ticks (B - S.tick.ticks) false = wx := ⟨_, rfl⟩
 rw [hw2] at hat hdo; unfold put10 at hw2; rw [hw2]; have HAT2 := Lib.hid hat; have HD2 := Lib.hid hdo; clear s0 s1 s2 s3 s4 s5 s6 s7 s8 s9 e0 e1 e2 e3 e4 e5 r0 r1 r2 r3 r4 r5 r6 r7 r8 r9 rf sf hat hw2 hdo; obtain ⟨s0, s1, s2, s3, s4, s5, s6, s7, s8, s9⟩ := cel10 HAT2.out.sb; obtain ⟨e0, e1, e2, e3, e4, e5⟩ := cel6 HAT2.out.xb; obtain ⟨r0, r1, r2, r3, r4, r5, r6, r7, r8, r9⟩ := celz HAT2.out.rb; have rf := blk_free HAT2.out.rb; have sf := blk_free HAT2.out.sb; obtain ⟨ba0, oa0, B0, d0, hA0, hba0, m0, m1, m2, m3, m4, _, _, hr5⟩ := HAX0.out w2 HAT2.out.below; simp only [Nat.zero_mul, Nat.one_mul, Nat.add_zero] at m0 m1 m2 m3 m4
 subst hA0; have HE0 := Lib.hid (HV0.out B0 d0 hr5 w2.drew HAT2.out.drew.below ((HD2.out.below (Below.refl _ _).drew).reads HFK.out)); rw [hx0] at HE0; clear hr5; refine wp_region_noPanic ?_; refine wp_region_held_drew (S := KeepS (w.heap.size) w2) (by kernel_rfl) (KeepS.drew _ _) (fun hHeld => ?_)
 refine tkP 1 22 (.pointer (some ⟨w.heap.size + 1, 3, none⟩)) ?_; refine tkP 2 23 (.slice (some ⟨ba0, oa0, none⟩) s.args.length c0) ?_ (hy := Or.inl ⟨by rfl, fun U hU => by have q := hU.cell e3 (by omega); clear e3; go_simp⟩)
 refine tkP 3 24 (.pointer (some ⟨ba0, oa0, none⟩)) ?_; refine tkP 4 25 (.agg #[.int .i64 a0.kind, .int .i64 a0.num, .string a0.name, .int .i64 a0.op, .slice B0 a0.args.length d0]) ?_ (hy := Or.inl ⟨by rfl, fun U hU => by have q0 := hU.cell m0 (by omega); have q1 := hU.cell m1 (by omega); have q2 := hU.cell m2 (by omega); have q3 := hU.cell m3 (by omega); have q4 := hU.cell m4 (by omega); clear m0 m1 m2 m3 m4; go_simp⟩)
 refine rd1 0 (some 21) fun K hK => ?_
 go_simp; refine bk hK (hHeld) fun q => ?_; clear hK K hHeld; have hHeld := q; clear q
 refine rd1 5 (some 26) fun K hK => ?_
 go_simp; refine (HE0.out).mono ?_; rintro y w8 ⟨hb8, hy⟩; simp only [dsL] at hy
 subst hy; have hbc8 : Below w2.heap.size w2 w8 := below_fromdrew hb8
 have hat8 := HAT2.out.next hws hbc8; obtain ⟨z0, z1, z2, z3, z4, z5, z6, z7, z8, z9⟩ := cel10 hat8.sb; have zf := blk_free hat8.sb; refine bk hK ((KeepS.drew _ w2).below hb8) fun q => ?_; clear hK K hHeld; have hHeld := q; clear q
 refine tkP 6 20 (.tuple #[.agg #[.slice N.a N.n N.c, .slice V.a V.n V.c, .slice M.a M.n M.c, .slice O.a O.n O.c, .slice I.a I.n I.c, .int .i64 (0), .int .i64 (0), .int .i64 S.tick.ticks, .int .i64 (B - S.tick.ticks), .bool false], .int .i64 u0]) ?_; refine tkP 7 27 (.agg #[.slice N.a N.n N.c, .slice V.a V.n V.c, .slice M.a M.n M.c, .slice O.a O.n O.c, .slice I.a I.n I.c, .int .i64 (0), .int .i64 (0), .int .i64 S.tick.ticks, .int .i64 (B - S.tick.ticks), .bool false]) ?_; refine tkP 8 28 (.int .i64 u0) ?_; refine rd1 9 none fun K hK => ?_
 go_simp; refine bk hK (((KeepS.drew _ w2).below hb8).put N V M O I (0) (0) S.tick.ticks (B - S.tick.ticks) false) fun q => ?_; clear hK K hHeld; have hHeld := q; clear q
 refine tkP 10 5 (.int .i64 u0) ?_; refine wpAnyH_done (by kernel_rfl) ?_ _
 refine NoPanic.normal ?_; clear z0 z1 z2 z3 z4 z5 z6 z7 z8 z9 zf; have hat := (hat8.put hws N V M O I (0) (0) S.tick.ticks (B - S.tick.ticks) false); have hdo := HD2.out.below hbc8 |>.put10 hat8.sb N V M O I (0) (0) S.tick.ticks (B - S.tick.ticks) false
 obtain ⟨w3, hw3⟩ : ∃ wx, put10 w8 w.heap.size N V M O I (0) (0) S.tick.ticks (B - S.tick.ticks) false = wx := ⟨_, rfl⟩
 rw [hw3] at hat hdo; unfold put10 at hw3; rw [hw3]; have HAT3 := Lib.hid hat; have HD3 := Lib.hid hdo; clear s0 s1 s2 s3 s4 s5 s6 s7 s8 s9 e0 e1 e2 e3 e4 e5 r0 r1 r2 r3 r4 r5 r6 r7 r8 r9 rf sf hat hw3 hdo; obtain ⟨s0, s1, s2, s3, s4, s5, s6, s7, s8, s9⟩ := cel10 HAT3.out.sb; obtain ⟨e0, e1, e2, e3, e4, e5⟩ := cel6 HAT3.out.xb; obtain ⟨r0, r1, r2, r3, r4, r5, r6, r7, r8, r9⟩ := celz HAT3.out.rb; have rf := blk_free HAT3.out.rb; have sf := blk_free HAT3.out.sb; go_wp2_with fail; refine (HBL.out w3 HAT3.out.below HD3.out).mono ?_; rintro y w5 hy; obtain ⟨hb5, hf5, hy⟩ := hy; have hat := HAT3.out.call hb5 hf5
 have HAT5 := Lib.hid hat; clear s0 s1 s2 s3 s4 s5 s6 s7 s8 s9 e0 e1 e2 e3 e4 e5 r0 r1 r2 r3 r4 r5 r6 r7 r8 r9 rf sf hat hb5 hf5; obtain ⟨s0, s1, s2, s3, s4, s5, s6, s7, s8, s9⟩ := cel10 HAT5.out.sb; obtain ⟨e0, e1, e2, e3, e4, e5⟩ := cel6 HAT5.out.xb; obtain ⟨r0, r1, r2, r3, r4, r5, r6, r7, r8, r9⟩ := celz HAT5.out.rb; have rf := blk_free HAT5.out.rb; have sf := blk_free HAT5.out.sb
 cases o with
 | none =>
  obtain ⟨N1, V1, M1, O1, I1, hy, hd1⟩ := hy; simp only [dsL] at hy
  subst hy; go_wp2; have hfin := LoR.done (B := B) (S := S) (S' := S') HAT5.out.res hws hd1; obtain ⟨w99, hw99⟩ : ∃ wx, put10 w5 (w.heap.size + 1 + 1) N1 V1 M1 O1 I1 (0) (0) S'.ticks (B - S'.ticks) false = wx := ⟨_, rfl⟩
  try dsimp only at hfin
  rw [hw99] at hfin; unfold put10 at hw99; rw [hw99]; exact bodyPost_ret (results_ds rfl _ _ (w.heap.size + 1 + 1) N1 V1 M1 O1 I1 (0) (0) S'.ticks (B - S'.ticks) false (by rfl) hfin.1) rfl hfin.2
 | some x =>
  obtain ⟨N1, V1, M1, O1, I1, hy, hn1, hv1, hd1⟩ := hy; simp only [dsL] at hy
  subst hy; go_wp2; have hfin := LoR.left (B := B) (S := S) (S' := S') (x := x) HAT5.out.res hws hd1 hn1 hv1; obtain ⟨w99, hw99⟩ : ∃ wx, put10 w5 (w.heap.size + 1 + 1) N1 V1 M1 O1 I1 (x.1) (x.2) S'.ticks (B - S'.ticks) true = wx := ⟨_, rfl⟩
  try dsimp only at hfin
  rw [hw99] at hfin; unfold put10 at hw99; rw [hw99]; exact bodyPost_ret (results_ds rfl _ _ (w.heap.size + 1 + 1) N1 V1 M1 O1 I1 (x.1) (x.2) S'.ticks (B - S'.ticks) true (by rfl) hfin.1) rfl hfin.2
set_option maxRecDepth 100000 in
set_option maxHeartbeats 8000000 in
theorem one_end8 (W : World) (B : Int) (s : Stmt) (S : Ev) {u0 : Int} (h7 : s.kind ≠ 7) (hs : S.ticks ≠ B) (hl : s.args.length = 1) (hfd0 : ∀ u, exprV S.tick (s.args.getD 0 default) ≠ .left 0 u) (hx0 : exprV S.tick (s.args.getD 0 default) = .ok u0) (hK : s.kind = 8) : StmtC W B s S S.tick (some (4, u0)) := by
 intro A0 c0 A1 c1 A2 c2 d hrd hrd1 hrd2 hr h64 hnl w N V M O I hB hD hF; have hws := hB.size; obtain ⟨w0, hw0, hat, hdo⟩ := LoB.begin (s := s) (A0 := A0) (c0 := c0) (A1 := A1) (c1 := c1) (A2 := A2) (c2 := c2) hB hD S.ticks (B - S.ticks); have HAT := Lib.hid hat; have HD := Lib.hid hdo; have HF := Lib.hid hF; have HB := Lib.hid hB; have HCP := Lib.hid hD.caps; have HW := Lib.hid hw0; have HR64 := Lib.hid (And.intro hr h64); clear hat hdo hB hD hF hw0 ; obtain ⟨s0, s1, s2, s3, s4, s5, s6, s7, s8, s9⟩ := cel10 HAT.out.sb; obtain ⟨e0, e1, e2, e3, e4, e5⟩ := cel6 HAT.out.xb; obtain ⟨r0, r1, r2, r3, r4, r5, r6, r7, r8, r9⟩ := celz HAT.out.rb
 have rf := blk_free HAT.out.rb; have sf := blk_free HAT.out.sb; unfold dsL Stmt.val
 have t7 : (s.kind == 7) = false := by simp [h7]
 have HDE := Lib.hid (fun w' => dend_calls N V M O I 0 0 S.tick.ticks (B - S.tick.ticks) false 4 u0 w')
 unfold endL dsL at HDE; have t1 : (s.kind == 1) = false := by simp [hK]
 have t2 : (s.kind == 2) = false := by simp [hK]
 have t3 : (s.kind == 3) = false := by simp [hK]
 have t4 : (s.kind == 4) = false := by simp [hK]
 have t5 : (s.kind == 5) = false := by simp [hK]
 have t6 : (s.kind == 6) = false := by simp [hK]
 have t8 : (s.kind == 8) = true := by simp [hK]
 have t9 : (s.kind == 9) = false := by simp [hK]
 have HFK := Lib.hid (HF.out.tick hs); have HT := Lib.hid (fun w' => tick_more HF.out hs N V M O I w')
 rw [s.rightB_eq nameB d] at hr; simp only [Bool.and_eq_true, headB, decide_eq_true_eq] at hr
 obtain ⟨⟨⟨⟨⟨⟨⟨⟨_, hlen⟩, _⟩, _⟩, _⟩, _⟩, hra⟩, hrb⟩, hre⟩ := hr; have h64a := Stmt.in64_args h64; have hj0 : 0 < s.args.length := by omega
 have hga0 : s.args.getD 0 default = s.args[0]'hj0 := by simp [List.getD, hj0]
 have hra0 := Expr.rightsB_all hra (s.args[0]'hj0) (List.getElem_mem hj0); have h640 := Expr.in64_mem h64a (List.getElem_mem hj0); obtain ⟨a0, ha0⟩ : ∃ x, s.args[0]'hj0 = x := ⟨_, rfl⟩
 have HAX0 := Lib.hid (fun w' (hb : Below W.heap.size W w') => Expr.at hrd hb hj0)
 rw [ha0] at hga0 hra0 h640 HAX0; have hj0' : (0 : Int) < (s.args.length : Int) := by omega
 have g1 : ¬ (1 < (s.args.length : Int)) := by omega
 rw [hga0] at hx0 hfd0; have HV0 := Lib.hid (fun A' c' (h5 : Expr.rds W a0.args A' 0) w' (hb : Below W.heap.size W w') (hr' : RdS w' S.tick N V M) => dvalue_calls W S.tick HFK.out.i64 a0.nodes a0 A' c' 1 (Nat.le_refl _) h5 hra0 h640 hfd0 N V M O I S.tick.ticks (B - S.tick.ticks) w' hb hr')
 unfold dsL at HV0; unfold dsL at HT; clear hK hl hs h64 hrd1 hrd2 hlen hra hrb hre h64a hrd hj0 hga0 hra0 h640 ha0 hfd0; go_enter Try.func59, Try.ntmps59
 go_wp2_with (have tk := HW; clear tk; rw [HW.out]; clear HW)
 refine (HT.out _).mono ?_; rintro y w1 ⟨rfl, hb1⟩; have hat := HAT.out.next hws hb1; have hdo := HD.out.below hb1; have HAT1 := Lib.hid hat; have HD1 := Lib.hid hdo; clear s0 s1 s2 s3 s4 s5 s6 s7 s8 s9 e0 e1 e2 e3 e4 e5 r0 r1 r2 r3 r4 r5 r6 r7 r8 r9 rf sf hat hdo hb1; obtain ⟨s0, s1, s2, s3, s4, s5, s6, s7, s8, s9⟩ := cel10 HAT1.out.sb; obtain ⟨e0, e1, e2, e3, e4, e5⟩ := cel6 HAT1.out.xb; obtain ⟨r0, r1, r2, r3, r4, r5, r6, r7, r8, r9⟩ := celz HAT1.out.rb; have rf := blk_free HAT1.out.rb; have sf := blk_free HAT1.out.sb; go_wp2_with fail; have hat := (HAT1.out.put hws N V M O I (0) (0) S.tick.ticks (B - S.tick.ticks) false)
 have hdo := (docPut HD1.out HAT1.out N V M O I (0) (0) S.tick.ticks (B - S.tick.ticks) false).tick; obtain ⟨w2, hw2⟩ : ∃ wx, put10 w1 w.heap.size N V M O I (0) (0) S.tick.ticks (B - S.tick.ticks) false = wx := ⟨_, rfl⟩
 rw [hw2] at hat hdo; unfold put10 at hw2; rw [hw2]; have HAT2 := Lib.hid hat; have HD2 := Lib.hid hdo; clear s0 s1 s2 s3 s4 s5 s6 s7 s8 s9 e0 e1 e2 e3 e4 e5 r0 r1 r2 r3 r4 r5 r6 r7 r8 r9 rf sf hat hw2 hdo; obtain ⟨s0, s1, s2, s3, s4, s5, s6, s7, s8, s9⟩ := cel10 HAT2.out.sb; obtain ⟨e0, e1, e2, e3, e4, e5⟩ := cel6 HAT2.out.xb; obtain ⟨r0, r1, r2, r3, r4, r5, r6, r7, r8, r9⟩ := celz HAT2.out.rb; have rf := blk_free HAT2.out.rb; have sf := blk_free HAT2.out.sb; obtain ⟨ba0, oa0, B0, d0, hA0, hba0, m0, m1, m2, m3, m4, _, _, hr5⟩ := HAX0.out w2 HAT2.out.below; simp only [Nat.zero_mul, Nat.one_mul, Nat.add_zero] at m0 m1 m2 m3 m4
 subst hA0; have HE0 := Lib.hid (HV0.out B0 d0 hr5 w2.drew HAT2.out.drew.below ((HD2.out.below (Below.refl _ _).drew).reads HFK.out)); rw [hx0] at HE0; clear hr5; refine wp_region_noPanic ?_; refine wp_region_held_drew (S := KeepS (w.heap.size) w2) (by kernel_rfl) (KeepS.drew _ _) (fun hHeld => ?_)
 refine tkP 1 22 (.pointer (some ⟨w.heap.size + 1, 3, none⟩)) ?_; refine tkP 2 23 (.slice (some ⟨ba0, oa0, none⟩) s.args.length c0) ?_ (hy := Or.inl ⟨by rfl, fun U hU => by have q := hU.cell e3 (by omega); clear e3; go_simp⟩)
 refine tkP 3 24 (.pointer (some ⟨ba0, oa0, none⟩)) ?_; refine tkP 4 25 (.agg #[.int .i64 a0.kind, .int .i64 a0.num, .string a0.name, .int .i64 a0.op, .slice B0 a0.args.length d0]) ?_ (hy := Or.inl ⟨by rfl, fun U hU => by have q0 := hU.cell m0 (by omega); have q1 := hU.cell m1 (by omega); have q2 := hU.cell m2 (by omega); have q3 := hU.cell m3 (by omega); have q4 := hU.cell m4 (by omega); clear m0 m1 m2 m3 m4; go_simp⟩)
 refine rd1 0 (some 21) fun K hK => ?_
 go_simp; refine bk hK (hHeld) fun q => ?_; clear hK K hHeld; have hHeld := q; clear q
 refine rd1 5 (some 26) fun K hK => ?_
 go_simp; refine (HE0.out).mono ?_; rintro y w8 ⟨hb8, hy⟩; simp only [dsL] at hy
 subst hy; have hbc8 : Below w2.heap.size w2 w8 := below_fromdrew hb8
 have hat8 := HAT2.out.next hws hbc8; obtain ⟨z0, z1, z2, z3, z4, z5, z6, z7, z8, z9⟩ := cel10 hat8.sb; have zf := blk_free hat8.sb; refine bk hK ((KeepS.drew _ w2).below hb8) fun q => ?_; clear hK K hHeld; have hHeld := q; clear q
 refine tkP 6 20 (.tuple #[.agg #[.slice N.a N.n N.c, .slice V.a V.n V.c, .slice M.a M.n M.c, .slice O.a O.n O.c, .slice I.a I.n I.c, .int .i64 (0), .int .i64 (0), .int .i64 S.tick.ticks, .int .i64 (B - S.tick.ticks), .bool false], .int .i64 u0]) ?_; refine tkP 7 27 (.agg #[.slice N.a N.n N.c, .slice V.a V.n V.c, .slice M.a M.n M.c, .slice O.a O.n O.c, .slice I.a I.n I.c, .int .i64 (0), .int .i64 (0), .int .i64 S.tick.ticks, .int .i64 (B - S.tick.ticks), .bool false]) ?_; refine tkP 8 28 (.int .i64 u0) ?_; refine rd1 9 none fun K hK => ?_
 go_simp; refine bk hK (((KeepS.drew _ w2).below hb8).put N V M O I (0) (0) S.tick.ticks (B - S.tick.ticks) false) fun q => ?_; clear hK K hHeld; have hHeld := q; clear q
 refine tkP 10 5 (.int .i64 u0) ?_; refine wpAnyH_done (by kernel_rfl) ?_ _
 refine NoPanic.normal ?_; clear z0 z1 z2 z3 z4 z5 z6 z7 z8 z9 zf; have hat := (hat8.put hws N V M O I (0) (0) S.tick.ticks (B - S.tick.ticks) false); have hdo := HD2.out.below hbc8 |>.put10 hat8.sb N V M O I (0) (0) S.tick.ticks (B - S.tick.ticks) false
 obtain ⟨w3, hw3⟩ : ∃ wx, put10 w8 w.heap.size N V M O I (0) (0) S.tick.ticks (B - S.tick.ticks) false = wx := ⟨_, rfl⟩
 rw [hw3] at hat hdo; unfold put10 at hw3; rw [hw3]; have HAT3 := Lib.hid hat; have HD3 := Lib.hid hdo; clear s0 s1 s2 s3 s4 s5 s6 s7 s8 s9 e0 e1 e2 e3 e4 e5 r0 r1 r2 r3 r4 r5 r6 r7 r8 r9 rf sf hat hw3 hdo; obtain ⟨s0, s1, s2, s3, s4, s5, s6, s7, s8, s9⟩ := cel10 HAT3.out.sb; obtain ⟨e0, e1, e2, e3, e4, e5⟩ := cel6 HAT3.out.xb; obtain ⟨r0, r1, r2, r3, r4, r5, r6, r7, r8, r9⟩ := celz HAT3.out.rb; have rf := blk_free HAT3.out.rb; have sf := blk_free HAT3.out.sb; go_wp2_with fail; refine (HDE.out w3).mono ?_; rintro y w5 ⟨rfl, hb5⟩; have hat := HAT3.out.next hws hb5; have hdo := HD3.out.ends.below hb5
 have HAT5 := Lib.hid hat; have HD5 := Lib.hid hdo; clear s0 s1 s2 s3 s4 s5 s6 s7 s8 s9 e0 e1 e2 e3 e4 e5 r0 r1 r2 r3 r4 r5 r6 r7 r8 r9 rf sf hat hdo hb5; obtain ⟨s0, s1, s2, s3, s4, s5, s6, s7, s8, s9⟩ := cel10 HAT5.out.sb; obtain ⟨e0, e1, e2, e3, e4, e5⟩ := cel6 HAT5.out.xb; obtain ⟨r0, r1, r2, r3, r4, r5, r6, r7, r8, r9⟩ := celz HAT5.out.rb; have rf := blk_free HAT5.out.rb; have sf := blk_free HAT5.out.sb; go_wp2; have hfin := LoR.left (B := B) (S := S) (S' := S.tick) (x := (4, u0)) HAT5.out.res hws HD5.out HCP.out.1 HCP.out.2; obtain ⟨w99, hw99⟩ : ∃ wx, put10 w5 (w.heap.size + 1 + 1) N V M O I (4) (u0) S.tick.ticks (B - S.tick.ticks) true = wx := ⟨_, rfl⟩
 try dsimp only at hfin
 rw [hw99] at hfin; unfold put10 at hw99; rw [hw99]; exact bodyPost_ret (results_ds rfl _ _ (w.heap.size + 1 + 1) N V M O I (4) (u0) S.tick.ticks (B - S.tick.ticks) true (by rfl) hfin.1) rfl hfin.2
set_option maxRecDepth 100000 in
set_option maxHeartbeats 8000000 in
theorem one_end9 (W : World) (B : Int) (s : Stmt) (S : Ev) (h7 : s.kind ≠ 7) (hs : S.ticks ≠ B) (hl : s.args.length = 0) (hK : s.kind = 9) : StmtC W B s S S.tick (some (1, 0)) := by
 intro A0 c0 A1 c1 A2 c2 d hrd hrd1 hrd2 hr h64 hnl w N V M O I hB hD hF; have hws := hB.size; obtain ⟨w0, hw0, hat, hdo⟩ := LoB.begin (s := s) (A0 := A0) (c0 := c0) (A1 := A1) (c1 := c1) (A2 := A2) (c2 := c2) hB hD S.ticks (B - S.ticks); have HAT := Lib.hid hat; have HD := Lib.hid hdo; have HF := Lib.hid hF; have HB := Lib.hid hB; have HCP := Lib.hid hD.caps; have HW := Lib.hid hw0; have HR64 := Lib.hid (And.intro hr h64); clear hat hdo hB hD hF hw0 ; obtain ⟨s0, s1, s2, s3, s4, s5, s6, s7, s8, s9⟩ := cel10 HAT.out.sb; obtain ⟨e0, e1, e2, e3, e4, e5⟩ := cel6 HAT.out.xb; obtain ⟨r0, r1, r2, r3, r4, r5, r6, r7, r8, r9⟩ := celz HAT.out.rb
 have rf := blk_free HAT.out.rb; have sf := blk_free HAT.out.sb; unfold dsL Stmt.val
 have t7 : (s.kind == 7) = false := by simp [h7]
 have HDE := Lib.hid (fun w' => dend_calls N V M O I 0 0 S.tick.ticks (B - S.tick.ticks) false 1 0 w')
 unfold endL dsL at HDE; have t1 : (s.kind == 1) = false := by simp [hK]
 have t2 : (s.kind == 2) = false := by simp [hK]
 have t3 : (s.kind == 3) = false := by simp [hK]
 have t4 : (s.kind == 4) = false := by simp [hK]
 have t5 : (s.kind == 5) = false := by simp [hK]
 have t6 : (s.kind == 6) = false := by simp [hK]
 have t8 : (s.kind == 8) = false := by simp [hK]
 have t9 : (s.kind == 9) = true := by simp [hK]
 have HFK := Lib.hid (HF.out.tick hs); have HT := Lib.hid (fun w' => tick_more HF.out hs N V M O I w')
 rw [s.rightB_eq nameB d] at hr; simp only [Bool.and_eq_true, headB, decide_eq_true_eq] at hr
 obtain ⟨⟨⟨⟨⟨⟨⟨⟨_, hlen⟩, _⟩, _⟩, _⟩, _⟩, hra⟩, hrb⟩, hre⟩ := hr; have h64a := Stmt.in64_args h64; have g0 : ¬ (0 < (s.args.length : Int)) := by omega
 have g1 : ¬ (1 < (s.args.length : Int)) := by omega
 unfold dsL at HT; clear hK hl hs h64 hrd1 hrd2 hlen hra hrb hre h64a hrd; go_enter Try.func59, Try.ntmps59
 go_wp2_with (have tk := HW; clear tk; rw [HW.out]; clear HW)
 refine (HT.out _).mono ?_; rintro y w1 ⟨rfl, hb1⟩; have hat := HAT.out.next hws hb1; have hdo := HD.out.below hb1; have HAT1 := Lib.hid hat; have HD1 := Lib.hid hdo; clear s0 s1 s2 s3 s4 s5 s6 s7 s8 s9 e0 e1 e2 e3 e4 e5 r0 r1 r2 r3 r4 r5 r6 r7 r8 r9 rf sf hat hdo hb1; obtain ⟨s0, s1, s2, s3, s4, s5, s6, s7, s8, s9⟩ := cel10 HAT1.out.sb; obtain ⟨e0, e1, e2, e3, e4, e5⟩ := cel6 HAT1.out.xb; obtain ⟨r0, r1, r2, r3, r4, r5, r6, r7, r8, r9⟩ := celz HAT1.out.rb; have rf := blk_free HAT1.out.rb; have sf := blk_free HAT1.out.sb; go_wp2_with fail; have hat := (HAT1.out.put hws N V M O I (0) (0) S.tick.ticks (B - S.tick.ticks) false)
 have hdo := (docPut HD1.out HAT1.out N V M O I (0) (0) S.tick.ticks (B - S.tick.ticks) false).tick; obtain ⟨w2, hw2⟩ : ∃ wx, put10 w1 w.heap.size N V M O I (0) (0) S.tick.ticks (B - S.tick.ticks) false = wx := ⟨_, rfl⟩
 rw [hw2] at hat hdo; unfold put10 at hw2; rw [hw2]; have HAT2 := Lib.hid hat; have HD2 := Lib.hid hdo; clear s0 s1 s2 s3 s4 s5 s6 s7 s8 s9 e0 e1 e2 e3 e4 e5 r0 r1 r2 r3 r4 r5 r6 r7 r8 r9 rf sf hat hw2 hdo; obtain ⟨s0, s1, s2, s3, s4, s5, s6, s7, s8, s9⟩ := cel10 HAT2.out.sb; obtain ⟨e0, e1, e2, e3, e4, e5⟩ := cel6 HAT2.out.xb; obtain ⟨r0, r1, r2, r3, r4, r5, r6, r7, r8, r9⟩ := celz HAT2.out.rb; have rf := blk_free HAT2.out.rb; have sf := blk_free HAT2.out.sb; go_wp2_with fail; refine (HDE.out w2).mono ?_; rintro y w5 ⟨rfl, hb5⟩; have hat := HAT2.out.next hws hb5; have hdo := HD2.out.ends.below hb5
 have HAT5 := Lib.hid hat; have HD5 := Lib.hid hdo; clear s0 s1 s2 s3 s4 s5 s6 s7 s8 s9 e0 e1 e2 e3 e4 e5 r0 r1 r2 r3 r4 r5 r6 r7 r8 r9 rf sf hat hdo hb5; obtain ⟨s0, s1, s2, s3, s4, s5, s6, s7, s8, s9⟩ := cel10 HAT5.out.sb; obtain ⟨e0, e1, e2, e3, e4, e5⟩ := cel6 HAT5.out.xb; obtain ⟨r0, r1, r2, r3, r4, r5, r6, r7, r8, r9⟩ := celz HAT5.out.rb; have rf := blk_free HAT5.out.rb; have sf := blk_free HAT5.out.sb; go_wp2; have hfin := LoR.left (B := B) (S := S) (S' := S.tick) (x := (1, 0)) HAT5.out.res hws HD5.out HCP.out.1 HCP.out.2; obtain ⟨w99, hw99⟩ : ∃ wx, put10 w5 (w.heap.size + 1 + 1) N V M O I (1) (0) S.tick.ticks (B - S.tick.ticks) true = wx := ⟨_, rfl⟩
 try dsimp only at hfin
 rw [hw99] at hfin; unfold put10 at hw99; rw [hw99]; exact bodyPost_ret (results_ds rfl _ _ (w.heap.size + 1 + 1) N V M O I (1) (0) S.tick.ticks (B - S.tick.ticks) true (by rfl) hfin.1) rfl hfin.2
end Go.Proofs.Ytjlnpppjkdcpkaa.My
