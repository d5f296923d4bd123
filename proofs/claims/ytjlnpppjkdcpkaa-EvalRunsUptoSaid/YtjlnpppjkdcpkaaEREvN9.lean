/- The document's way through a while. Conditions: as9 XEvN5. -/
import Derived.Test.YtjlnpppjkdcpkaaEREvNs
import Derived.Test.YtjlnpppjkdcpkaaEREvN8
import Derived.Test.YtjlnpppjkdcpkaaEREvB
namespace Go.Proofs.Ytjlnpppjkdcpkaa.My
open Go.RowKit Go.Proofs.Ytjlnpppjkdcpkaa.NumA
set_option linter.unusedVariables false
set_option linter.unusedSimpArgs false
theorem exprsV_1left {S : Ev} {l : List Expr} (hl : l.length = 1) {h v : Int} (hx : exprsV S l = .left h v) : exprV S (l.getD 0 default) = .left h v := by
 rw [exprsV_one hl] at hx
 cases h1 : exprV S (l.getD 0 default) <;> simp_all
theorem exprsV_1ok {S : Ev} {l : List Expr} (hl : l.length = 1) {vs : List Int} (hx : exprsV S l = .ok vs) : ∃ v, exprV S (l.getD 0 default) = .ok v ∧ vs = [v] := by
 rw [exprsV_one hl] at hx
 cases h1 : exprV S (l.getD 0 default) <;> simp_all
theorem exprsV_1found {S : Ev} {l : List Expr} (hl : l.length = 1) (hf : ∀ u, exprsV S l ≠ .left 0 u) : ∀ u, exprV S (l.getD 0 default) ≠ .left 0 u := by
 intro u hu; apply hf u
 rw [exprsV_one hl, hu]
theorem LoopP.inv {W : World} {B : Int} {s : Stmt} {S S' : Ev} {o : Option (Int × Int)} (h : LoopP W B s S S' o) :
  (S.ticks = B ∧ S' = S ∧ o = some (0, 0)) ∨ (∃ h v, S.ticks ≠ B ∧ (∀ u, exprsV S.tick s.args ≠ .left 0 u) ∧ exprsV S.tick s.args = .left h v ∧ S' = S.tick ∧ o = some (h, v)) ∨
  (∃ vs, S.ticks ≠ B ∧ exprsV S.tick s.args = .ok vs ∧ vs.getD 0 0 = 0 ∧ S' = S.tick ∧ o = none) ∨
  (∃ x vs, S.ticks ≠ B ∧ exprsV S.tick s.args = .ok vs ∧ vs.getD 0 0 ≠ 0 ∧ DoesF B (.block s.body) S.tick S' (some x) ∧ BlockC W B s.body S.tick S' (some x) ∧ o = some x) ∨
  (∃ S1 vs, S.ticks ≠ B ∧ exprsV S.tick s.args = .ok vs ∧ vs.getD 0 0 ≠ 0 ∧ DoesF B (.block s.body) S.tick S1 none ∧ BlockC W B s.body S.tick S1 none ∧ LoopP W B s S1 S' o) := by
 cases h with
 | spent h1 => exact .inl ⟨h1, rfl, rfl⟩
 | fell h1 h2 h3 => exact .inr (.inl ⟨_, _, h1, h2, h3, rfl, rfl⟩)
 | ends h1 h2 h3 => exact .inr (.inr (.inl ⟨_, h1, h2, h3, rfl, rfl⟩))
 | left h1 h2 h3 h4 h5 => exact .inr (.inr (.inr (.inl ⟨_, _, h1, h2, h3, h4, h5, rfl⟩)))
 | again h1 h2 h3 h4 h5 h6 => exact .inr (.inr (.inr (.inr ⟨_, _, h1, h2, h3, h4, h5, h6⟩)))
/-- the while's loop -/
def LoI (W : World) (B : Int) (s : Stmt) (A0 : Option Addr) (c0 : Nat) (A1 : Option Addr) (c1 : Nat) (A2 : Option Addr) (c2 : Nat) (S S' : Ev) (o : Option (Int × Int)) (w : World) (gk : Nat) (wr : World) : Prop :=
 (∃ Sk N V M O I, LoopP W B s Sk S' o ∧ LoB W w s A0 c0 A1 c1 A2 c2 N V M O I 0 0 Sk.ticks (B - Sk.ticks) false wr ∧ DocAt wr W.heap.size Sk N V M O I ∧ FitS B Sk ∧ S.names.length ≤ Sk.names.length ∧ B - Sk.ticks + 1 ≤ (gk : Int)) ∨
 (∃ x N V M O I, o = some x ∧ LoB W w s A0 c0 A1 c1 A2 c2 N V M O I x.1 x.2 S'.ticks (B - S'.ticks) true wr ∧ EndAt wr W.heap.size S' M O I ∧ S.names.length ≤ N.c ∧ S.names.length ≤ V.c)
theorem DoesF.grows {B : Int} {t : Task} {S S' : Ev} (h : DoesF B t S S' none) : S.names.length ≤ S'.names.length := h.does_.grow
set_option maxRecDepth 100000 in
set_option maxHeartbeats 8000000 in
theorem dloop_of (W : World) (B : Int) (s : Stmt) (S S' : Ev) (o : Option (Int × Int)) (hlp : LoopP W B s S S' o) : LoopC W B s S S' o := by
 intro A0 c0 A1 c1 A2 c2 d hrd hrd1 hk7 hr h64 hnl w N V M O I hB hD hF; have hws := hB.size; obtain ⟨w0, hw0, hat, hdo⟩ := LoB.begin (s := s) (A0 := A0) (c0 := c0) (A1 := A1) (c1 := c1) (A2 := A2) (c2 := c2) hB hD S.ticks (B - S.ticks); have HAT := Lib.hid hat; have HD := Lib.hid hdo; have HF := Lib.hid hF; have HB := Lib.hid hB; have HCP := Lib.hid hD.caps; have HW := Lib.hid hw0; have HR64 := Lib.hid (And.intro hr h64); clear hat hdo hB hD hF hw0 ; obtain ⟨s0, s1, s2, s3, s4, s5, s6, s7, s8, s9⟩ := cel10 HAT.out.sb; obtain ⟨e0, e1, e2, e3, e4, e5⟩ := cel6 HAT.out.xb; obtain ⟨r0, r1, r2, r3, r4, r5, r6, r7, r8, r9⟩ := celz HAT.out.rb
 have rf := blk_free HAT.out.rb; have sf := blk_free HAT.out.sb; unfold dsL Stmt.val
 have hnn := s.nodes_eq; rw [s.rightB_eq nameB d] at hr; simp only [Bool.and_eq_true, headB, decide_eq_true_eq] at hr
 obtain ⟨⟨⟨⟨⟨⟨⟨⟨_, hlen⟩, _⟩, _⟩, _⟩, _⟩, hra⟩, hrb⟩, hre⟩ := hr; have h64a := Stmt.in64_args h64; rw [if_pos (.inr hk7), Bool.and_eq_true, decide_eq_true_eq] at hrb; have hl : s.args.length = 1 := by have h9 : wantA s.kind = 1 := (by simp [wantA, hk7]); omega
 have HRB := Lib.hid hrb.2; have HI6 := Lib.hid (show Stmt.in64L s.body by cases s; simp only [Stmt.in64] at h64; exact h64.2.2.2.1)
 have HI7 := Lib.hid (show Task.in64 (.block s.body) from HI6.out)
 have HNL := Lib.hid (show Stmt.nodesL s.body ≤ 100000 by omega)
 have HRD1 := Lib.hid hrd1; have hj0 : 0 < s.args.length := by omega
 have hga0 : s.args.getD 0 default = s.args[0]'hj0 := by simp [List.getD, hj0]
 have hra0 := Expr.rightsB_all hra (s.args[0]'hj0) (List.getElem_mem hj0); have h640 := Expr.in64_mem h64a (List.getElem_mem hj0); obtain ⟨a0, ha0⟩ : ∃ x, s.args[0]'hj0 = x := ⟨_, rfl⟩
 have HAX0 := Lib.hid (fun w' (hb : Below W.heap.size W w') => Expr.at hrd hb hj0)
 rw [ha0] at hga0 hra0 h640 HAX0; have hj0' : (0 : Int) < (s.args.length : Int) := by omega
 have hne : s.args ≠ [] := fun e => by rw [e] at hl; cases hl
 have HX1 := Lib.hid (fun (S0 : Ev) (h v : Int) => exprsV_1left (S := S0) (h := h) (v := v) hl)
 have HX2 := Lib.hid (fun (S0 : Ev) (vs : List Int) => exprsV_1ok (S := S0) (vs := vs) hl)
 have HX3 := Lib.hid (fun (S0 : Ev) => exprsV_1found (S := S0) hl)
 have HI := Lib.hid (show LoI W B s A0 c0 A1 c1 A2 c2 S S' o w ((B - S.ticks).toNat + 1) w0 from .inl ⟨S, N, V, M, O, I, hlp, HAT.out, HD.out, HF.out, Nat.le_refl _, by have := HF.out.tk; omega⟩)
 clear hnn hl hlen hra hrb hre h64a h64 hk7 hrd1 hlp hrd HR64 HCP ha0 hj0; go_enter Try.func78, Try.ntmps78
 go_wp2_with (have tk := HW; clear tk; rw [HW.out]; clear HW)
 go_loopg [] ((B - S.ticks).toNat + 1) (fun gk wr => Hid (LoI W B s A0 c0 A1 c1 A2 c2 S S' o w gk wr))
 case atStart => exact HI
 case round =>
  clear HI HAT HD HF s0 s1 s2 s3 s4 s5 s6 s7 s8 s9 e0 e1 e2 e3 e4 e5 r0 r1 r2 r3 r4 r5 r6 r7 r8 r9 rf sf; rcases hrel.out with ⟨Sk, N, V, M, O, I, hlp, hat, hdo, hft, hgk, hgg⟩ | ⟨x, N, V, M, O, I, ho, hat, hend, hn1, hv1⟩
  ·have HAT0 := Lib.hid hat
   have HD0 := Lib.hid hdo; have HFT := Lib.hid hft; have HGK := Lib.hid hgk; have HGG := Lib.hid hgg; have HCK := Lib.hid hdo.caps; clear hat hdo hft hgk hgg hrel; obtain ⟨s0, s1, s2, s3, s4, s5, s6, s7, s8, s9⟩ := cel10 HAT0.out.sb; obtain ⟨e0, e1, e2, e3, e4, e5⟩ := cel6 HAT0.out.xb; obtain ⟨r0, r1, r2, r3, r4, r5, r6, r7, r8, r9⟩ := celz HAT0.out.rb; have rf := blk_free HAT0.out.rb; have sf := blk_free HAT0.out.sb; rcases hlp.inv with ⟨hs, hq⟩ | ⟨h, v, hs, hfd0, hx0, hq⟩ | ⟨vs, hs, hx0, hz, hq⟩ | ⟨x, vs, hs, hx0, hz, hdf, hc, hq⟩ | ⟨S1, vs, hs, hx0, hz, hdf, hc, hq⟩
   all_goals clear hlp
   ·have HQ := Lib.hid hq
    clear hq hra0 h640 hga0; have HT := Lib.hid (fun w' => tick_spent HFT.out hs N V M O I w')
    unfold dsL at HT; clear hs; go_wp2_with fail; refine (HT.out _).mono ?_; rintro y w1 ⟨rfl, hb1⟩; have hat := HAT0.out.next hws hb1; have hdo := HD0.out.below hb1; have HAT1 := Lib.hid hat; have HD1 := Lib.hid hdo; clear s0 s1 s2 s3 s4 s5 s6 s7 s8 s9 e0 e1 e2 e3 e4 e5 r0 r1 r2 r3 r4 r5 r6 r7 r8 r9 rf sf hat hdo hb1; obtain ⟨s0, s1, s2, s3, s4, s5, s6, s7, s8, s9⟩ := cel10 HAT1.out.sb; obtain ⟨e0, e1, e2, e3, e4, e5⟩ := cel6 HAT1.out.xb; obtain ⟨r0, r1, r2, r3, r4, r5, r6, r7, r8, r9⟩ := celz HAT1.out.rb; have rf := blk_free HAT1.out.rb; have sf := blk_free HAT1.out.sb; go_wp2_with fail; have hat := (HAT1.out.put hws N V M O I (0) (0) Sk.ticks (B - Sk.ticks) true)
    have hdo := (docPut HD1.out HAT1.out N V M O I (0) (0) Sk.ticks (B - Sk.ticks) true).ends; obtain ⟨w2, hw2⟩ : ∃ wx, put10 w1 w.heap.size N V M O I (0) (0) Sk.ticks (B - Sk.ticks) true = wx := ⟨_, rfl⟩
    rw [hw2] at hat hdo; unfold put10 at hw2; rw [hw2]; have HAT2 := Lib.hid hat; have HD2 := Lib.hid hdo; clear s0 s1 s2 s3 s4 s5 s6 s7 s8 s9 e0 e1 e2 e3 e4 e5 r0 r1 r2 r3 r4 r5 r6 r7 r8 r9 rf sf hat hw2 hdo; obtain ⟨s0, s1, s2, s3, s4, s5, s6, s7, s8, s9⟩ := cel10 HAT2.out.sb; obtain ⟨e0, e1, e2, e3, e4, e5⟩ := cel6 HAT2.out.xb; obtain ⟨r0, r1, r2, r3, r4, r5, r6, r7, r8, r9⟩ := celz HAT2.out.rb; have rf := blk_free HAT2.out.rb; have sf := blk_free HAT2.out.sb; obtain ⟨ba0, oa0, B0, d0, hA0, hba0, m0, m1, m2, m3, m4, _, _, hr5⟩ := HAX0.out w2 HAT2.out.below; simp only [Nat.zero_mul, Nat.one_mul, Nat.add_zero] at m0 m1 m2 m3 m4
    subst hA0; have HE0 := Lib.hid (dvalue_gone a0 B0 d0 N V M O I (0) (0) Sk.ticks (B - Sk.ticks) w2.drew); unfold dsL at HE0; clear hr5; refine wp_region_noPanic ?_; refine wp_region_held_drew (S := KeepS (w.heap.size) w2) (by kernel_rfl) (KeepS.drew _ _) (fun hHeld => ?_)
    refine tkP 1 13 (.pointer (some ⟨w.heap.size + 1, 3, none⟩)) ?_; refine tkP 2 14 (.slice (some ⟨ba0, oa0, none⟩) s.args.length c0) ?_ (hy := Or.inl ⟨by rfl, fun U hU => by have q := hU.cell e3 (by omega); clear e3; go_simp⟩)
    refine tkP 3 15 (.pointer (some ⟨ba0, oa0, none⟩)) ?_; refine tkP 4 16 (.agg #[.int .i64 a0.kind, .int .i64 a0.num, .string a0.name, .int .i64 a0.op, .slice B0 a0.args.length d0]) ?_ (hy := Or.inl ⟨by rfl, fun U hU => by have q0 := hU.cell m0 (by omega); have q1 := hU.cell m1 (by omega); have q2 := hU.cell m2 (by omega); have q3 := hU.cell m3 (by omega); have q4 := hU.cell m4 (by omega); clear m0 m1 m2 m3 m4; go_simp⟩)
    refine rd1 0 (some 12) fun K hK => ?_
    go_simp; refine bk hK (hHeld) fun q => ?_; clear hK K hHeld; have hHeld := q; clear q
    refine rd1 5 (some 17) fun K hK => ?_
    go_simp; refine (HE0.out).mono ?_; rintro y w8 ⟨hb8, hy⟩; simp only [dsL] at hy
    subst hy; have hbc8 : Below w2.heap.size w2 w8 := below_fromdrew hb8
    have hat8 := HAT2.out.next hws hbc8; obtain ⟨z0, z1, z2, z3, z4, z5, z6, z7, z8, z9⟩ := cel10 hat8.sb; have zf := blk_free hat8.sb; refine bk hK ((KeepS.drew _ w2).below hb8) fun q => ?_; clear hK K hHeld; have hHeld := q; clear q
    refine tkP 6 11 (.tuple #[.agg #[.slice N.a N.n N.c, .slice V.a V.n V.c, .slice M.a M.n M.c, .slice O.a O.n O.c, .slice I.a I.n I.c, .int .i64 (0), .int .i64 (0), .int .i64 Sk.ticks, .int .i64 (B - Sk.ticks), .bool true], .int .i64 0]) ?_; refine tkP 7 18 (.agg #[.slice N.a N.n N.c, .slice V.a V.n V.c, .slice M.a M.n M.c, .slice O.a O.n O.c, .slice I.a I.n I.c, .int .i64 (0), .int .i64 (0), .int .i64 Sk.ticks, .int .i64 (B - Sk.ticks), .bool true]) ?_; refine tkP 8 19 (.int .i64 0) ?_; refine rd1 9 none fun K hK => ?_
    go_simp; refine bk hK (((KeepS.drew _ w2).below hb8).put N V M O I (0) (0) Sk.ticks (B - Sk.ticks) true) fun q => ?_; clear hK K hHeld; have hHeld := q; clear q
    refine tkP 10 5 (.int .i64 0) ?_; refine wpAnyH_done (by kernel_rfl) ?_ _
    refine NoPanic.normal ?_; clear z0 z1 z2 z3 z4 z5 z6 z7 z8 z9 zf; have hat := (hat8.put hws N V M O I (0) (0) Sk.ticks (B - Sk.ticks) true); have hdo := HD2.out.below hbc8 |>.put10 hat8.sb N V M O I (0) (0) Sk.ticks (B - Sk.ticks) true
    obtain ⟨w3, hw3⟩ : ∃ wx, put10 w8 w.heap.size N V M O I (0) (0) Sk.ticks (B - Sk.ticks) true = wx := ⟨_, rfl⟩
    rw [hw3] at hat hdo; unfold put10 at hw3; rw [hw3]; have HAT3 := Lib.hid hat; have HD3 := Lib.hid hdo; clear s0 s1 s2 s3 s4 s5 s6 s7 s8 s9 e0 e1 e2 e3 e4 e5 r0 r1 r2 r3 r4 r5 r6 r7 r8 r9 rf sf hat hw3 hdo; obtain ⟨s0, s1, s2, s3, s4, s5, s6, s7, s8, s9⟩ := cel10 HAT3.out.sb; obtain ⟨e0, e1, e2, e3, e4, e5⟩ := cel6 HAT3.out.xb; obtain ⟨r0, r1, r2, r3, r4, r5, r6, r7, r8, r9⟩ := celz HAT3.out.rb; have rf := blk_free HAT3.out.rb; have sf := blk_free HAT3.out.sb; go_wp2; have hfin := LoR.left (B := B) (S := S) (S' := Sk) (x := (0, 0)) HAT3.out.res hws HD3.out (Nat.le_trans HGK.out HCK.out.1) (Nat.le_trans HGK.out HCK.out.2)
    obtain ⟨w99, hw99⟩ : ∃ wx, put10 w3 (w.heap.size + 1 + 1) N V M O I (0) (0) Sk.ticks (B - Sk.ticks) true = wx := ⟨_, rfl⟩
    try dsimp only at hfin
    rw [hw99] at hfin; unfold put10 at hw99; rw [hw99]; exact bodyPost_ret (results_ds rfl _ _ (w.heap.size + 1 + 1) N V M O I (0) (0) Sk.ticks (B - Sk.ticks) true (by rfl) hfin.1) rfl (by rw [HQ.out.1, HQ.out.2]; exact hfin.2)
   ·have HQ := Lib.hid hq
    replace hfd0 := HX3.out _ hfd0; replace hx0 := HX1.out _ _ _ hx0; clear hq; have HFK := Lib.hid (HFT.out.tick hs); rw [hga0] at hx0 hfd0; have HV0 := Lib.hid (fun A' c' (h5 : Expr.rds W a0.args A' 0) w' (hb : Below W.heap.size W w') (hr' : RdS w' Sk.tick N V M) => dvalue_calls W Sk.tick HFK.out.i64 a0.nodes a0 A' c' 1 (Nat.le_refl _) h5 hra0 h640 hfd0 N V M O I Sk.tick.ticks (B - Sk.tick.ticks) w' hb hr')
    unfold dsL at HV0; have HT := Lib.hid (fun w' => tick_more HFT.out hs N V M O I w')
    unfold dsL at HT; clear hs; clear hfd0; go_wp2_with fail; refine (HT.out _).mono ?_; rintro y w1 ⟨rfl, hb1⟩; have hat := HAT0.out.next hws hb1; have hdo := HD0.out.below hb1; have HAT1 := Lib.hid hat; have HD1 := Lib.hid hdo; clear s0 s1 s2 s3 s4 s5 s6 s7 s8 s9 e0 e1 e2 e3 e4 e5 r0 r1 r2 r3 r4 r5 r6 r7 r8 r9 rf sf hat hdo hb1; obtain ⟨s0, s1, s2, s3, s4, s5, s6, s7, s8, s9⟩ := cel10 HAT1.out.sb; obtain ⟨e0, e1, e2, e3, e4, e5⟩ := cel6 HAT1.out.xb; obtain ⟨r0, r1, r2, r3, r4, r5, r6, r7, r8, r9⟩ := celz HAT1.out.rb; have rf := blk_free HAT1.out.rb; have sf := blk_free HAT1.out.sb; go_wp2_with fail
    have hat := (HAT1.out.put hws N V M O I (0) (0) Sk.tick.ticks (B - Sk.tick.ticks) false); have hdo := (docPut HD1.out HAT1.out N V M O I (0) (0) Sk.tick.ticks (B - Sk.tick.ticks) false).tick; obtain ⟨w2, hw2⟩ : ∃ wx, put10 w1 w.heap.size N V M O I (0) (0) Sk.tick.ticks (B - Sk.tick.ticks) false = wx := ⟨_, rfl⟩
    rw [hw2] at hat hdo; unfold put10 at hw2; rw [hw2]; have HAT2 := Lib.hid hat; have HD2 := Lib.hid hdo; clear s0 s1 s2 s3 s4 s5 s6 s7 s8 s9 e0 e1 e2 e3 e4 e5 r0 r1 r2 r3 r4 r5 r6 r7 r8 r9 rf sf hat hw2 hdo; obtain ⟨s0, s1, s2, s3, s4, s5, s6, s7, s8, s9⟩ := cel10 HAT2.out.sb; obtain ⟨e0, e1, e2, e3, e4, e5⟩ := cel6 HAT2.out.xb; obtain ⟨r0, r1, r2, r3, r4, r5, r6, r7, r8, r9⟩ := celz HAT2.out.rb; have rf := blk_free HAT2.out.rb; have sf := blk_free HAT2.out.sb; obtain ⟨ba0, oa0, B0, d0, hA0, hba0, m0, m1, m2, m3, m4, _, _, hr5⟩ := HAX0.out w2 HAT2.out.below; simp only [Nat.zero_mul, Nat.one_mul, Nat.add_zero] at m0 m1 m2 m3 m4
    subst hA0; have HE0 := Lib.hid (HV0.out B0 d0 hr5 w2.drew HAT2.out.drew.below ((HD2.out.below (Below.refl _ _).drew).reads HFK.out)); rw [hx0] at HE0; clear hr5; refine wp_region_noPanic ?_; refine wp_region_held_drew (S := KeepS (w.heap.size) w2) (by kernel_rfl) (KeepS.drew _ _) (fun hHeld => ?_)
    refine tkP 1 13 (.pointer (some ⟨w.heap.size + 1, 3, none⟩)) ?_; refine tkP 2 14 (.slice (some ⟨ba0, oa0, none⟩) s.args.length c0) ?_ (hy := Or.inl ⟨by rfl, fun U hU => by have q := hU.cell e3 (by omega); clear e3; go_simp⟩)
    refine tkP 3 15 (.pointer (some ⟨ba0, oa0, none⟩)) ?_; refine tkP 4 16 (.agg #[.int .i64 a0.kind, .int .i64 a0.num, .string a0.name, .int .i64 a0.op, .slice B0 a0.args.length d0]) ?_ (hy := Or.inl ⟨by rfl, fun U hU => by have q0 := hU.cell m0 (by omega); have q1 := hU.cell m1 (by omega); have q2 := hU.cell m2 (by omega); have q3 := hU.cell m3 (by omega); have q4 := hU.cell m4 (by omega); clear m0 m1 m2 m3 m4; go_simp⟩)
    refine rd1 0 (some 12) fun K hK => ?_
    go_simp; refine bk hK (hHeld) fun q => ?_; clear hK K hHeld; have hHeld := q; clear q
    refine rd1 5 (some 17) fun K hK => ?_
    go_simp; refine (HE0.out).mono ?_; rintro y w8 ⟨hb8, hy⟩; simp only [dsL] at hy
    subst hy; have hbc8 : Below w2.heap.size w2 w8 := below_fromdrew hb8
    have hat8 := HAT2.out.next hws hbc8; obtain ⟨z0, z1, z2, z3, z4, z5, z6, z7, z8, z9⟩ := cel10 hat8.sb; have zf := blk_free hat8.sb; refine bk hK ((KeepS.drew _ w2).below hb8) fun q => ?_; clear hK K hHeld; have hHeld := q; clear q
    refine tkP 6 11 (.tuple #[.agg #[.slice N.a N.n N.c, .slice V.a V.n V.c, .slice M.a M.n M.c, .slice O.a O.n O.c, .slice I.a I.n I.c, .int .i64 (h), .int .i64 (v), .int .i64 Sk.tick.ticks, .int .i64 (B - Sk.tick.ticks), .bool true], .int .i64 0]) ?_; refine tkP 7 18 (.agg #[.slice N.a N.n N.c, .slice V.a V.n V.c, .slice M.a M.n M.c, .slice O.a O.n O.c, .slice I.a I.n I.c, .int .i64 (h), .int .i64 (v), .int .i64 Sk.tick.ticks, .int .i64 (B - Sk.tick.ticks), .bool true]) ?_; refine tkP 8 19 (.int .i64 0) ?_; refine rd1 9 none fun K hK => ?_
    go_simp; refine bk hK (((KeepS.drew _ w2).below hb8).put N V M O I (h) (v) Sk.tick.ticks (B - Sk.tick.ticks) true) fun q => ?_; clear hK K hHeld; have hHeld := q; clear q
    refine tkP 10 5 (.int .i64 0) ?_; refine wpAnyH_done (by kernel_rfl) ?_ _
    refine NoPanic.normal ?_; clear z0 z1 z2 z3 z4 z5 z6 z7 z8 z9 zf; have hat := (hat8.put hws N V M O I (h) (v) Sk.tick.ticks (B - Sk.tick.ticks) true); have hdo := (HD2.out.below hbc8 |>.put10 hat8.sb N V M O I (h) (v) Sk.tick.ticks (B - Sk.tick.ticks) true).ends
    obtain ⟨w3, hw3⟩ : ∃ wx, put10 w8 w.heap.size N V M O I (h) (v) Sk.tick.ticks (B - Sk.tick.ticks) true = wx := ⟨_, rfl⟩
    rw [hw3] at hat hdo; unfold put10 at hw3; rw [hw3]; have HAT3 := Lib.hid hat; have HD3 := Lib.hid hdo; clear s0 s1 s2 s3 s4 s5 s6 s7 s8 s9 e0 e1 e2 e3 e4 e5 r0 r1 r2 r3 r4 r5 r6 r7 r8 r9 rf sf hat hw3 hdo; obtain ⟨s0, s1, s2, s3, s4, s5, s6, s7, s8, s9⟩ := cel10 HAT3.out.sb; obtain ⟨e0, e1, e2, e3, e4, e5⟩ := cel6 HAT3.out.xb; obtain ⟨r0, r1, r2, r3, r4, r5, r6, r7, r8, r9⟩ := celz HAT3.out.rb; have rf := blk_free HAT3.out.rb; have sf := blk_free HAT3.out.sb; go_wp2; have hfin := LoR.left (B := B) (S := S) (S' := Sk.tick) (x := (h, v)) HAT3.out.res hws HD3.out (Nat.le_trans HGK.out HCK.out.1) (Nat.le_trans HGK.out HCK.out.2)
    obtain ⟨w99, hw99⟩ : ∃ wx, put10 w3 (w.heap.size + 1 + 1) N V M O I (h) (v) Sk.tick.ticks (B - Sk.tick.ticks) true = wx := ⟨_, rfl⟩
    try dsimp only at hfin
    rw [hw99] at hfin; unfold put10 at hw99; rw [hw99]; exact bodyPost_ret (results_ds rfl _ _ (w.heap.size + 1 + 1) N V M O I (h) (v) Sk.tick.ticks (B - Sk.tick.ticks) true (by rfl) hfin.1) rfl (by rw [HQ.out.1, HQ.out.2]; exact hfin.2)
   ·have HQ := Lib.hid hq
    obtain ⟨v, hx1, rfl⟩ := HX2.out _ _ hx0; clear hx0; have hx0 := hx1; clear hx1; have hfd0 : ∀ u, exprV Sk.tick (s.args.getD 0 default) ≠ .left 0 u := fun u hu => by rw [hx0] at hu; cases hu
    replace hz : v = 0 := hz
    clear hq; have HFK := Lib.hid (HFT.out.tick hs); rw [hga0] at hx0 hfd0; have HV0 := Lib.hid (fun A' c' (h5 : Expr.rds W a0.args A' 0) w' (hb : Below W.heap.size W w') (hr' : RdS w' Sk.tick N V M) => dvalue_calls W Sk.tick HFK.out.i64 a0.nodes a0 A' c' 1 (Nat.le_refl _) h5 hra0 h640 hfd0 N V M O I Sk.tick.ticks (B - Sk.tick.ticks) w' hb hr')
    unfold dsL at HV0; have HT := Lib.hid (fun w' => tick_more HFT.out hs N V M O I w')
    unfold dsL at HT; clear hs; clear hfd0; have hz' : (v == 0) = true := by simp [hz]
    clear hz; go_wp2_with fail; refine (HT.out _).mono ?_; rintro y w1 ⟨rfl, hb1⟩; have hat := HAT0.out.next hws hb1; have hdo := HD0.out.below hb1; have HAT1 := Lib.hid hat; have HD1 := Lib.hid hdo; clear s0 s1 s2 s3 s4 s5 s6 s7 s8 s9 e0 e1 e2 e3 e4 e5 r0 r1 r2 r3 r4 r5 r6 r7 r8 r9 rf sf hat hdo hb1; obtain ⟨s0, s1, s2, s3, s4, s5, s6, s7, s8, s9⟩ := cel10 HAT1.out.sb; obtain ⟨e0, e1, e2, e3, e4, e5⟩ := cel6 HAT1.out.xb; obtain ⟨r0, r1, r2, r3, r4, r5, r6, r7, r8, r9⟩ := celz HAT1.out.rb; have rf := blk_free HAT1.out.rb; have sf := blk_free HAT1.out.sb; go_wp2_with fail; have hat := (HAT1.out.put hws N V M O I (0) (0) Sk.tick.ticks (B - Sk.tick.ticks) false)
    have hdo := (docPut HD1.out HAT1.out N V M O I (0) (0) Sk.tick.ticks (B - Sk.tick.ticks) false).tick; obtain ⟨w2, hw2⟩ : ∃ wx, put10 w1 w.heap.size N V M O I (0) (0) Sk.tick.ticks (B - Sk.tick.ticks) false = wx := ⟨_, rfl⟩
    rw [hw2] at hat hdo; unfold put10 at hw2; rw [hw2]; have HAT2 := Lib.hid hat; have HD2 := Lib.hid hdo; clear s0 s1 s2 s3 s4 s5 s6 s7 s8 s9 e0 e1 e2 e3 e4 e5 r0 r1 r2 r3 r4 r5 r6 r7 r8 r9 rf sf hat hw2 hdo; obtain ⟨s0, s1, s2, s3, s4, s5, s6, s7, s8, s9⟩ := cel10 HAT2.out.sb; obtain ⟨e0, e1, e2, e3, e4, e5⟩ := cel6 HAT2.out.xb; obtain ⟨r0, r1, r2, r3, r4, r5, r6, r7, r8, r9⟩ := celz HAT2.out.rb; have rf := blk_free HAT2.out.rb; have sf := blk_free HAT2.out.sb; obtain ⟨ba0, oa0, B0, d0, hA0, hba0, m0, m1, m2, m3, m4, _, _, hr5⟩ := HAX0.out w2 HAT2.out.below; simp only [Nat.zero_mul, Nat.one_mul, Nat.add_zero] at m0 m1 m2 m3 m4
    subst hA0; have HE0 := Lib.hid (HV0.out B0 d0 hr5 w2.drew HAT2.out.drew.below ((HD2.out.below (Below.refl _ _).drew).reads HFK.out)); rw [hx0] at HE0; clear hr5; refine wp_region_noPanic ?_; refine wp_region_held_drew (S := KeepS (w.heap.size) w2) (by kernel_rfl) (KeepS.drew _ _) (fun hHeld => ?_)
    refine tkP 1 13 (.pointer (some ⟨w.heap.size + 1, 3, none⟩)) ?_; refine tkP 2 14 (.slice (some ⟨ba0, oa0, none⟩) s.args.length c0) ?_ (hy := Or.inl ⟨by rfl, fun U hU => by have q := hU.cell e3 (by omega); clear e3; go_simp⟩)
    refine tkP 3 15 (.pointer (some ⟨ba0, oa0, none⟩)) ?_; refine tkP 4 16 (.agg #[.int .i64 a0.kind, .int .i64 a0.num, .string a0.name, .int .i64 a0.op, .slice B0 a0.args.length d0]) ?_ (hy := Or.inl ⟨by rfl, fun U hU => by have q0 := hU.cell m0 (by omega); have q1 := hU.cell m1 (by omega); have q2 := hU.cell m2 (by omega); have q3 := hU.cell m3 (by omega); have q4 := hU.cell m4 (by omega); clear m0 m1 m2 m3 m4; go_simp⟩)
    refine rd1 0 (some 12) fun K hK => ?_
    go_simp; refine bk hK (hHeld) fun q => ?_; clear hK K hHeld; have hHeld := q; clear q
    refine rd1 5 (some 17) fun K hK => ?_
    go_simp; refine (HE0.out).mono ?_; rintro y w8 ⟨hb8, hy⟩; simp only [dsL] at hy
    subst hy; have hbc8 : Below w2.heap.size w2 w8 := below_fromdrew hb8
    have hat8 := HAT2.out.next hws hbc8; obtain ⟨z0, z1, z2, z3, z4, z5, z6, z7, z8, z9⟩ := cel10 hat8.sb; have zf := blk_free hat8.sb; refine bk hK ((KeepS.drew _ w2).below hb8) fun q => ?_; clear hK K hHeld; have hHeld := q; clear q
    refine tkP 6 11 (.tuple #[.agg #[.slice N.a N.n N.c, .slice V.a V.n V.c, .slice M.a M.n M.c, .slice O.a O.n O.c, .slice I.a I.n I.c, .int .i64 (0), .int .i64 (0), .int .i64 Sk.tick.ticks, .int .i64 (B - Sk.tick.ticks), .bool false], .int .i64 v]) ?_; refine tkP 7 18 (.agg #[.slice N.a N.n N.c, .slice V.a V.n V.c, .slice M.a M.n M.c, .slice O.a O.n O.c, .slice I.a I.n I.c, .int .i64 (0), .int .i64 (0), .int .i64 Sk.tick.ticks, .int .i64 (B - Sk.tick.ticks), .bool false]) ?_; refine tkP 8 19 (.int .i64 v) ?_; refine rd1 9 none fun K hK => ?_
    go_simp; refine bk hK (((KeepS.drew _ w2).below hb8).put N V M O I (0) (0) Sk.tick.ticks (B - Sk.tick.ticks) false) fun q => ?_; clear hK K hHeld; have hHeld := q; clear q
    refine tkP 10 5 (.int .i64 v) ?_; refine wpAnyH_done (by kernel_rfl) ?_ _
    refine NoPanic.normal ?_; clear z0 z1 z2 z3 z4 z5 z6 z7 z8 z9 zf; have hat := (hat8.put hws N V M O I (0) (0) Sk.tick.ticks (B - Sk.tick.ticks) false); have hdo := HD2.out.below hbc8 |>.put10 hat8.sb N V M O I (0) (0) Sk.tick.ticks (B - Sk.tick.ticks) false
    obtain ⟨w3, hw3⟩ : ∃ wx, put10 w8 w.heap.size N V M O I (0) (0) Sk.tick.ticks (B - Sk.tick.ticks) false = wx := ⟨_, rfl⟩
    rw [hw3] at hat hdo; unfold put10 at hw3; rw [hw3]; have HAT3 := Lib.hid hat; have HD3 := Lib.hid hdo; clear s0 s1 s2 s3 s4 s5 s6 s7 s8 s9 e0 e1 e2 e3 e4 e5 r0 r1 r2 r3 r4 r5 r6 r7 r8 r9 rf sf hat hw3 hdo; obtain ⟨s0, s1, s2, s3, s4, s5, s6, s7, s8, s9⟩ := cel10 HAT3.out.sb; obtain ⟨e0, e1, e2, e3, e4, e5⟩ := cel6 HAT3.out.xb; obtain ⟨r0, r1, r2, r3, r4, r5, r6, r7, r8, r9⟩ := celz HAT3.out.rb; have rf := blk_free HAT3.out.rb; have sf := blk_free HAT3.out.sb; go_wp2; have hfin := LoR.done (B := B) (S := S) (S' := Sk.tick) HAT3.out.res hws HD3.out; obtain ⟨w99, hw99⟩ : ∃ wx, put10 w3 (w.heap.size + 1 + 1) N V M O I (0) (0) Sk.tick.ticks (B - Sk.tick.ticks) false = wx := ⟨_, rfl⟩
    try dsimp only at hfin
    rw [hw99] at hfin; unfold put10 at hw99; rw [hw99]; exact bodyPost_ret (results_ds rfl _ _ (w.heap.size + 1 + 1) N V M O I (0) (0) Sk.tick.ticks (B - Sk.tick.ticks) false (by rfl) hfin.1) rfl (by rw [HQ.out.1, HQ.out.2]; exact hfin.2)
   ·have HQ := Lib.hid hq
    obtain ⟨v, hx1, rfl⟩ := HX2.out _ _ hx0; clear hx0; have hx0 := hx1; clear hx1; have hfd0 : ∀ u, exprV Sk.tick (s.args.getD 0 default) ≠ .left 0 u := fun u hu => by rw [hx0] at hu; cases hu
    replace hz : v ≠ 0 := hz
    clear hq hdf; have HFK := Lib.hid (HFT.out.tick hs); rw [hga0] at hx0 hfd0; have HV0 := Lib.hid (fun A' c' (h5 : Expr.rds W a0.args A' 0) w' (hb : Below W.heap.size W w') (hr' : RdS w' Sk.tick N V M) => dvalue_calls W Sk.tick HFK.out.i64 a0.nodes a0 A' c' 1 (Nat.le_refl _) h5 hra0 h640 hfd0 N V M O I Sk.tick.ticks (B - Sk.tick.ticks) w' hb hr')
    unfold dsL at HV0; have HT := Lib.hid (fun w' => tick_more HFT.out hs N V M O I w')
    unfold dsL at HT; clear hs; clear hfd0; have HBL := Lib.hid (fun w' (hb : Below W.heap.size W w') (hd : DocAt w' W.heap.size Sk.tick N V M O I) => hc A1 c1 (d + 1) HRD1.out HRB.out HI6.out (by have := HNL.out; omega) w' N V M O I hb hd HFK.out)
    unfold dsL at HBL; have hz' : (v == 0) = false := by simp [hz]
    clear hz hc; go_wp2_with fail; refine (HT.out _).mono ?_; rintro y w1 ⟨rfl, hb1⟩; have hat := HAT0.out.next hws hb1; have hdo := HD0.out.below hb1; have HAT1 := Lib.hid hat; have HD1 := Lib.hid hdo; clear s0 s1 s2 s3 s4 s5 s6 s7 s8 s9 e0 e1 e2 e3 e4 e5 r0 r1 r2 r3 r4 r5 r6 r7 r8 r9 rf sf hat hdo hb1; obtain ⟨s0, s1, s2, s3, s4, s5, s6, s7, s8, s9⟩ := cel10 HAT1.out.sb; obtain ⟨e0, e1, e2, e3, e4, e5⟩ := cel6 HAT1.out.xb; obtain ⟨r0, r1, r2, r3, r4, r5, r6, r7, r8, r9⟩ := celz HAT1.out.rb; have rf := blk_free HAT1.out.rb; have sf := blk_free HAT1.out.sb; go_wp2_with fail; have hat := (HAT1.out.put hws N V M O I (0) (0) Sk.tick.ticks (B - Sk.tick.ticks) false)
    have hdo := (docPut HD1.out HAT1.out N V M O I (0) (0) Sk.tick.ticks (B - Sk.tick.ticks) false).tick; obtain ⟨w2, hw2⟩ : ∃ wx, put10 w1 w.heap.size N V M O I (0) (0) Sk.tick.ticks (B - Sk.tick.ticks) false = wx := ⟨_, rfl⟩
    rw [hw2] at hat hdo; unfold put10 at hw2; rw [hw2]; have HAT2 := Lib.hid hat; have HD2 := Lib.hid hdo; clear s0 s1 s2 s3 s4 s5 s6 s7 s8 s9 e0 e1 e2 e3 e4 e5 r0 r1 r2 r3 r4 r5 r6 r7 r8 r9 rf sf hat hw2 hdo; obtain ⟨s0, s1, s2, s3, s4, s5, s6, s7, s8, s9⟩ := cel10 HAT2.out.sb; obtain ⟨e0, e1, e2, e3, e4, e5⟩ := cel6 HAT2.out.xb; obtain ⟨r0, r1, r2, r3, r4, r5, r6, r7, r8, r9⟩ := celz HAT2.out.rb; have rf := blk_free HAT2.out.rb; have sf := blk_free HAT2.out.sb; obtain ⟨ba0, oa0, B0, d0, hA0, hba0, m0, m1, m2, m3, m4, _, _, hr5⟩ := HAX0.out w2 HAT2.out.below; simp only [Nat.zero_mul, Nat.one_mul, Nat.add_zero] at m0 m1 m2 m3 m4
    subst hA0; have HE0 := Lib.hid (HV0.out B0 d0 hr5 w2.drew HAT2.out.drew.below ((HD2.out.below (Below.refl _ _).drew).reads HFK.out)); rw [hx0] at HE0; clear hr5; refine wp_region_noPanic ?_; refine wp_region_held_drew (S := KeepS (w.heap.size) w2) (by kernel_rfl) (KeepS.drew _ _) (fun hHeld => ?_)
    refine tkP 1 13 (.pointer (some ⟨w.heap.size + 1, 3, none⟩)) ?_; refine tkP 2 14 (.slice (some ⟨ba0, oa0, none⟩) s.args.length c0) ?_ (hy := Or.inl ⟨by rfl, fun U hU => by have q := hU.cell e3 (by omega); clear e3; go_simp⟩)
    refine tkP 3 15 (.pointer (some ⟨ba0, oa0, none⟩)) ?_; refine tkP 4 16 (.agg #[.int .i64 a0.kind, .int .i64 a0.num, .string a0.name, .int .i64 a0.op, .slice B0 a0.args.length d0]) ?_ (hy := Or.inl ⟨by rfl, fun U hU => by have q0 := hU.cell m0 (by omega); have q1 := hU.cell m1 (by omega); have q2 := hU.cell m2 (by omega); have q3 := hU.cell m3 (by omega); have q4 := hU.cell m4 (by omega); clear m0 m1 m2 m3 m4; go_simp⟩)
    refine rd1 0 (some 12) fun K hK => ?_
    go_simp; refine bk hK (hHeld) fun q => ?_; clear hK K hHeld; have hHeld := q; clear q
    refine rd1 5 (some 17) fun K hK => ?_
    go_simp; refine (HE0.out).mono ?_; rintro y w8 ⟨hb8, hy⟩; simp only [dsL] at hy
    subst hy; have hbc8 : Below w2.heap.size w2 w8 := below_fromdrew hb8
    have hat8 := HAT2.out.next hws hbc8; obtain ⟨z0, z1, z2, z3, z4, z5, z6, z7, z8, z9⟩ := cel10 hat8.sb; have zf := blk_free hat8.sb; refine bk hK ((KeepS.drew _ w2).below hb8) fun q => ?_; clear hK K hHeld; have hHeld := q; clear q
    refine tkP 6 11 (.tuple #[.agg #[.slice N.a N.n N.c, .slice V.a V.n V.c, .slice M.a M.n M.c, .slice O.a O.n O.c, .slice I.a I.n I.c, .int .i64 (0), .int .i64 (0), .int .i64 Sk.tick.ticks, .int .i64 (B - Sk.tick.ticks), .bool false], .int .i64 v]) ?_; refine tkP 7 18 (.agg #[.slice N.a N.n N.c, .slice V.a V.n V.c, .slice M.a M.n M.c, .slice O.a O.n O.c, .slice I.a I.n I.c, .int .i64 (0), .int .i64 (0), .int .i64 Sk.tick.ticks, .int .i64 (B - Sk.tick.ticks), .bool false]) ?_; refine tkP 8 19 (.int .i64 v) ?_; refine rd1 9 none fun K hK => ?_
    go_simp; refine bk hK (((KeepS.drew _ w2).below hb8).put N V M O I (0) (0) Sk.tick.ticks (B - Sk.tick.ticks) false) fun q => ?_; clear hK K hHeld; have hHeld := q; clear q
    refine tkP 10 5 (.int .i64 v) ?_; refine wpAnyH_done (by kernel_rfl) ?_ _
    refine NoPanic.normal ?_; clear z0 z1 z2 z3 z4 z5 z6 z7 z8 z9 zf; have hat := (hat8.put hws N V M O I (0) (0) Sk.tick.ticks (B - Sk.tick.ticks) false); have hdo := HD2.out.below hbc8 |>.put10 hat8.sb N V M O I (0) (0) Sk.tick.ticks (B - Sk.tick.ticks) false
    obtain ⟨w3, hw3⟩ : ∃ wx, put10 w8 w.heap.size N V M O I (0) (0) Sk.tick.ticks (B - Sk.tick.ticks) false = wx := ⟨_, rfl⟩
    rw [hw3] at hat hdo; unfold put10 at hw3; rw [hw3]; have HAT3 := Lib.hid hat; have HD3 := Lib.hid hdo; clear s0 s1 s2 s3 s4 s5 s6 s7 s8 s9 e0 e1 e2 e3 e4 e5 r0 r1 r2 r3 r4 r5 r6 r7 r8 r9 rf sf hat hw3 hdo; obtain ⟨s0, s1, s2, s3, s4, s5, s6, s7, s8, s9⟩ := cel10 HAT3.out.sb; obtain ⟨e0, e1, e2, e3, e4, e5⟩ := cel6 HAT3.out.xb; obtain ⟨r0, r1, r2, r3, r4, r5, r6, r7, r8, r9⟩ := celz HAT3.out.rb; have rf := blk_free HAT3.out.rb; have sf := blk_free HAT3.out.sb; go_wp2_with fail; refine (HBL.out w3 HAT3.out.below HD3.out).mono ?_; rintro y w5 hy; obtain ⟨hb5, hf5, hy⟩ := hy; have hat := HAT3.out.call hb5 hf5
    have HAT5 := Lib.hid hat; clear s0 s1 s2 s3 s4 s5 s6 s7 s8 s9 e0 e1 e2 e3 e4 e5 r0 r1 r2 r3 r4 r5 r6 r7 r8 r9 rf sf hat hb5 hf5; obtain ⟨s0, s1, s2, s3, s4, s5, s6, s7, s8, s9⟩ := cel10 HAT5.out.sb; obtain ⟨e0, e1, e2, e3, e4, e5⟩ := cel6 HAT5.out.xb; obtain ⟨r0, r1, r2, r3, r4, r5, r6, r7, r8, r9⟩ := celz HAT5.out.rb; have rf := blk_free HAT5.out.rb; have sf := blk_free HAT5.out.sb; obtain ⟨m, rfl⟩ : ∃ m, gk = m + 1 := ⟨gk - 1, by have := HGG.out; have := HFT.out.tk; omega⟩
    obtain ⟨N1, V1, M1, O1, I1, hy, hn1, hv1, hd1⟩ := hy; simp only [dsL] at hy
    subst hy; go_wp2_with fail; have hat := (HAT5.out.put hws N1 V1 M1 O1 I1 (x.1) (x.2) S'.ticks (B - S'.ticks) true); have hdo := (hd1.put10 HAT5.out.sb N1 V1 M1 O1 I1 (x.1) (x.2) S'.ticks (B - S'.ticks) true); obtain ⟨w6, hw6⟩ : ∃ wx, put10 w5 w.heap.size N1 V1 M1 O1 I1 (x.1) (x.2) S'.ticks (B - S'.ticks) true = wx := ⟨_, rfl⟩
    rw [hw6] at hat hdo; unfold put10 at hw6; rw [hw6]; have HAT6 := Lib.hid hat; have HD6 := Lib.hid hdo; clear s0 s1 s2 s3 s4 s5 s6 s7 s8 s9 e0 e1 e2 e3 e4 e5 r0 r1 r2 r3 r4 r5 r6 r7 r8 r9 rf sf hat hw6 hdo; obtain ⟨s0, s1, s2, s3, s4, s5, s6, s7, s8, s9⟩ := cel10 HAT6.out.sb; obtain ⟨e0, e1, e2, e3, e4, e5⟩ := cel6 HAT6.out.xb; obtain ⟨r0, r1, r2, r3, r4, r5, r6, r7, r8, r9⟩ := celz HAT6.out.rb; have rf := blk_free HAT6.out.rb; have sf := blk_free HAT6.out.sb; have HNX := Lib.hid (show LoI W B s (some ⟨ba0, oa0, none⟩) c0 A1 c1 A2 c2 S S' o w m w6 from .inr ⟨x, N1, V1, M1, O1, I1, HQ.out, HAT6.out, HD6.out, Nat.le_trans HGK.out hn1, Nat.le_trans HGK.out hv1⟩)
    go_roundg m
    case measure => omega
    case rel => exact HNX
   ·have HLP := Lib.hid hq
    have HDF := Lib.hid hdf; obtain ⟨v, hx1, rfl⟩ := HX2.out _ _ hx0; clear hx0; have hx0 := hx1; clear hx1; have hfd0 : ∀ u, exprV Sk.tick (s.args.getD 0 default) ≠ .left 0 u := fun u hu => by rw [hx0] at hu; cases hu
    replace hz : v ≠ 0 := hz
    clear hq hdf; have HFK := Lib.hid (HFT.out.tick hs); rw [hga0] at hx0 hfd0; have HV0 := Lib.hid (fun A' c' (h5 : Expr.rds W a0.args A' 0) w' (hb : Below W.heap.size W w') (hr' : RdS w' Sk.tick N V M) => dvalue_calls W Sk.tick HFK.out.i64 a0.nodes a0 A' c' 1 (Nat.le_refl _) h5 hra0 h640 hfd0 N V M O I Sk.tick.ticks (B - Sk.tick.ticks) w' hb hr')
    unfold dsL at HV0; have HT := Lib.hid (fun w' => tick_more HFT.out hs N V M O I w')
    unfold dsL at HT; clear hs; clear hfd0; have HBL := Lib.hid (fun w' (hb : Below W.heap.size W w') (hd : DocAt w' W.heap.size Sk.tick N V M O I) => hc A1 c1 (d + 1) HRD1.out HRB.out HI6.out (by have := HNL.out; omega) w' N V M O I hb hd HFK.out)
    unfold dsL at HBL; have hz' : (v == 0) = false := by simp [hz]
    clear hz hc; go_wp2_with fail; refine (HT.out _).mono ?_; rintro y w1 ⟨rfl, hb1⟩; have hat := HAT0.out.next hws hb1; have hdo := HD0.out.below hb1; have HAT1 := Lib.hid hat; have HD1 := Lib.hid hdo; clear s0 s1 s2 s3 s4 s5 s6 s7 s8 s9 e0 e1 e2 e3 e4 e5 r0 r1 r2 r3 r4 r5 r6 r7 r8 r9 rf sf hat hdo hb1; obtain ⟨s0, s1, s2, s3, s4, s5, s6, s7, s8, s9⟩ := cel10 HAT1.out.sb; obtain ⟨e0, e1, e2, e3, e4, e5⟩ := cel6 HAT1.out.xb; obtain ⟨r0, r1, r2, r3, r4, r5, r6, r7, r8, r9⟩ := celz HAT1.out.rb; have rf := blk_free HAT1.out.rb; have sf := blk_free HAT1.out.sb; go_wp2_with fail; have hat := (HAT1.out.put hws N V M O I (0) (0) Sk.tick.ticks (B - Sk.tick.ticks) false)
    have hdo := (docPut HD1.out HAT1.out N V M O I (0) (0) Sk.tick.ticks (B - Sk.tick.ticks) false).tick; obtain ⟨w2, hw2⟩ : ∃ wx, put10 w1 w.heap.size N V M O I (0) (0) Sk.tick.ticks (B - Sk.tick.ticks) false = wx := ⟨_, rfl⟩
    rw [hw2] at hat hdo; unfold put10 at hw2; rw [hw2]; have HAT2 := Lib.hid hat; have HD2 := Lib.hid hdo; clear s0 s1 s2 s3 s4 s5 s6 s7 s8 s9 e0 e1 e2 e3 e4 e5 r0 r1 r2 r3 r4 r5 r6 r7 r8 r9 rf sf hat hw2 hdo; obtain ⟨s0, s1, s2, s3, s4, s5, s6, s7, s8, s9⟩ := cel10 HAT2.out.sb; obtain ⟨e0, e1, e2, e3, e4, e5⟩ := cel6 HAT2.out.xb; obtain ⟨r0, r1, r2, r3, r4, r5, r6, r7, r8, r9⟩ := celz HAT2.out.rb; have rf := blk_free HAT2.out.rb; have sf := blk_free HAT2.out.sb; obtain ⟨ba0, oa0, B0, d0, hA0, hba0, m0, m1, m2, m3, m4, _, _, hr5⟩ := HAX0.out w2 HAT2.out.below; simp only [Nat.zero_mul, Nat.one_mul, Nat.add_zero] at m0 m1 m2 m3 m4
    subst hA0; have HE0 := Lib.hid (HV0.out B0 d0 hr5 w2.drew HAT2.out.drew.below ((HD2.out.below (Below.refl _ _).drew).reads HFK.out)); rw [hx0] at HE0; clear hr5; refine wp_region_noPanic ?_; refine wp_region_held_drew (S := KeepS (w.heap.size) w2) (by kernel_rfl) (KeepS.drew _ _) (fun hHeld => ?_)
    refine tkP 1 13 (.pointer (some ⟨w.heap.size + 1, 3, none⟩)) ?_; refine tkP 2 14 (.slice (some ⟨ba0, oa0, none⟩) s.args.length c0) ?_ (hy := Or.inl ⟨by rfl, fun U hU => by have q := hU.cell e3 (by omega); clear e3; go_simp⟩)
    refine tkP 3 15 (.pointer (some ⟨ba0, oa0, none⟩)) ?_; refine tkP 4 16 (.agg #[.int .i64 a0.kind, .int .i64 a0.num, .string a0.name, .int .i64 a0.op, .slice B0 a0.args.length d0]) ?_ (hy := Or.inl ⟨by rfl, fun U hU => by have q0 := hU.cell m0 (by omega); have q1 := hU.cell m1 (by omega); have q2 := hU.cell m2 (by omega); have q3 := hU.cell m3 (by omega); have q4 := hU.cell m4 (by omega); clear m0 m1 m2 m3 m4; go_simp⟩)
    refine rd1 0 (some 12) fun K hK => ?_
    go_simp; refine bk hK (hHeld) fun q => ?_; clear hK K hHeld; have hHeld := q; clear q
    refine rd1 5 (some 17) fun K hK => ?_
    go_simp; refine (HE0.out).mono ?_; rintro y w8 ⟨hb8, hy⟩; simp only [dsL] at hy
    subst hy; have hbc8 : Below w2.heap.size w2 w8 := below_fromdrew hb8
    have hat8 := HAT2.out.next hws hbc8; obtain ⟨z0, z1, z2, z3, z4, z5, z6, z7, z8, z9⟩ := cel10 hat8.sb; have zf := blk_free hat8.sb; refine bk hK ((KeepS.drew _ w2).below hb8) fun q => ?_; clear hK K hHeld; have hHeld := q; clear q
    refine tkP 6 11 (.tuple #[.agg #[.slice N.a N.n N.c, .slice V.a V.n V.c, .slice M.a M.n M.c, .slice O.a O.n O.c, .slice I.a I.n I.c, .int .i64 (0), .int .i64 (0), .int .i64 Sk.tick.ticks, .int .i64 (B - Sk.tick.ticks), .bool false], .int .i64 v]) ?_; refine tkP 7 18 (.agg #[.slice N.a N.n N.c, .slice V.a V.n V.c, .slice M.a M.n M.c, .slice O.a O.n O.c, .slice I.a I.n I.c, .int .i64 (0), .int .i64 (0), .int .i64 Sk.tick.ticks, .int .i64 (B - Sk.tick.ticks), .bool false]) ?_; refine tkP 8 19 (.int .i64 v) ?_; refine rd1 9 none fun K hK => ?_
    go_simp; refine bk hK (((KeepS.drew _ w2).below hb8).put N V M O I (0) (0) Sk.tick.ticks (B - Sk.tick.ticks) false) fun q => ?_; clear hK K hHeld; have hHeld := q; clear q
    refine tkP 10 5 (.int .i64 v) ?_; refine wpAnyH_done (by kernel_rfl) ?_ _
    refine NoPanic.normal ?_; clear z0 z1 z2 z3 z4 z5 z6 z7 z8 z9 zf; have hat := (hat8.put hws N V M O I (0) (0) Sk.tick.ticks (B - Sk.tick.ticks) false); have hdo := HD2.out.below hbc8 |>.put10 hat8.sb N V M O I (0) (0) Sk.tick.ticks (B - Sk.tick.ticks) false
    obtain ⟨w3, hw3⟩ : ∃ wx, put10 w8 w.heap.size N V M O I (0) (0) Sk.tick.ticks (B - Sk.tick.ticks) false = wx := ⟨_, rfl⟩
    rw [hw3] at hat hdo; unfold put10 at hw3; rw [hw3]; have HAT3 := Lib.hid hat; have HD3 := Lib.hid hdo; clear s0 s1 s2 s3 s4 s5 s6 s7 s8 s9 e0 e1 e2 e3 e4 e5 r0 r1 r2 r3 r4 r5 r6 r7 r8 r9 rf sf hat hw3 hdo; obtain ⟨s0, s1, s2, s3, s4, s5, s6, s7, s8, s9⟩ := cel10 HAT3.out.sb; obtain ⟨e0, e1, e2, e3, e4, e5⟩ := cel6 HAT3.out.xb; obtain ⟨r0, r1, r2, r3, r4, r5, r6, r7, r8, r9⟩ := celz HAT3.out.rb; have rf := blk_free HAT3.out.rb; have sf := blk_free HAT3.out.sb; go_wp2_with fail; refine (HBL.out w3 HAT3.out.below HD3.out).mono ?_; rintro y w5 hy; obtain ⟨hb5, hf5, hy⟩ := hy; have hat := HAT3.out.call hb5 hf5
    have HAT5 := Lib.hid hat; clear s0 s1 s2 s3 s4 s5 s6 s7 s8 s9 e0 e1 e2 e3 e4 e5 r0 r1 r2 r3 r4 r5 r6 r7 r8 r9 rf sf hat hb5 hf5; obtain ⟨s0, s1, s2, s3, s4, s5, s6, s7, s8, s9⟩ := cel10 HAT5.out.sb; obtain ⟨e0, e1, e2, e3, e4, e5⟩ := cel6 HAT5.out.xb; obtain ⟨r0, r1, r2, r3, r4, r5, r6, r7, r8, r9⟩ := celz HAT5.out.rb; have rf := blk_free HAT5.out.rb; have sf := blk_free HAT5.out.sb; obtain ⟨m, rfl⟩ : ∃ m, gk = m + 1 := ⟨gk - 1, by have := HGG.out; have := HFT.out.tk; omega⟩
    obtain ⟨N1, V1, M1, O1, I1, hy, hd1⟩ := hy; simp only [dsL] at hy
    subst hy; go_wp2_with fail; have hat := (HAT5.out.put hws N1 V1 M1 O1 I1 (0) (0) S1.ticks (B - S1.ticks) false); have hdo := (hd1.put10 HAT5.out.sb N1 V1 M1 O1 I1 (0) (0) S1.ticks (B - S1.ticks) false); obtain ⟨w6, hw6⟩ : ∃ wx, put10 w5 w.heap.size N1 V1 M1 O1 I1 (0) (0) S1.ticks (B - S1.ticks) false = wx := ⟨_, rfl⟩
    rw [hw6] at hat hdo; unfold put10 at hw6; rw [hw6]; have HAT6 := Lib.hid hat; have HD6 := Lib.hid hdo; clear s0 s1 s2 s3 s4 s5 s6 s7 s8 s9 e0 e1 e2 e3 e4 e5 r0 r1 r2 r3 r4 r5 r6 r7 r8 r9 rf sf hat hw6 hdo; obtain ⟨s0, s1, s2, s3, s4, s5, s6, s7, s8, s9⟩ := cel10 HAT6.out.sb; obtain ⟨e0, e1, e2, e3, e4, e5⟩ := cel6 HAT6.out.xb; obtain ⟨r0, r1, r2, r3, r4, r5, r6, r7, r8, r9⟩ := celz HAT6.out.rb; have rf := blk_free HAT6.out.rb; have sf := blk_free HAT6.out.sb; have HNX := Lib.hid (show LoI W B s (some ⟨ba0, oa0, none⟩) c0 A1 c1 A2 c2 S S' o w m w6 from .inl ⟨S1, N1, V1, M1, O1, I1, HLP.out, HAT6.out, HD6.out, HFK.out.next HDF.out HI7.out, Nat.le_trans HGK.out HDF.out.grows, by have := HDF.out.does_.ticks.1; simp only [Ev.tick] at this; have := HGG.out; omega⟩)
    go_roundg m
    case measure => omega
    case rel => exact HNX
  ·have HO := Lib.hid ho
   have HAT0 := Lib.hid hat; have HD0 := Lib.hid hend; clear hat hend hrel ho; obtain ⟨s0, s1, s2, s3, s4, s5, s6, s7, s8, s9⟩ := cel10 HAT0.out.sb; obtain ⟨e0, e1, e2, e3, e4, e5⟩ := cel6 HAT0.out.xb; obtain ⟨r0, r1, r2, r3, r4, r5, r6, r7, r8, r9⟩ := celz HAT0.out.rb; have rf := blk_free HAT0.out.rb; have sf := blk_free HAT0.out.sb; go_wp2; have hfin := LoR.left (B := B) (S := S) (S' := S') (x := x) HAT0.out.res hws HD0.out hn1 hv1; obtain ⟨w99, hw99⟩ : ∃ wx, put10 wr (w.heap.size + 1 + 1) N V M O I (x.1) (x.2) S'.ticks (B - S'.ticks) true = wx := ⟨_, rfl⟩
   try dsimp only at hfin
   rw [hw99] at hfin; unfold put10 at hw99; rw [hw99]; exact bodyPost_ret (results_ds rfl _ _ (w.heap.size + 1 + 1) N V M O I (x.1) (x.2) S'.ticks (B - S'.ticks) true (by rfl) hfin.1) rfl (by rw [HO.out]; exact hfin.2)
end Go.Proofs.Ytjlnpppjkdcpkaa.My
