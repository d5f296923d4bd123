/- The document's way through a statement: a name or a cell set. Conditions: as9 XEvN5. -/
import Derived.Test.YtjlnpppjkdcpkaaEREvNs
import Derived.Test.YtjlnpppjkdcpkaaEREvN8
import Derived.Test.YtjlnpppjkdcpkaaEREvO
namespace Go.Proofs.Ytjlnpppjkdcpkaa.My
open Go.RowKit Go.Proofs.Ytjlnpppjkdcpkaa.NumA
set_option linter.unusedVariables false
set_option linter.unusedSimpArgs false
theorem Row.blkAt {w : World} {e : TypeId} {z n c g : Nat} {xs : List Value} (h : Row w e z (.slice (some ⟨g, 0, none⟩) n c) n xs) : ∃ cur, w.heap[g]? = some (.cells cur e (0, 0)) := by
 rcases h.2 with ⟨h1, _⟩ | ⟨g1, cap, cur, h1, h2, _⟩
 ·cases h1
 ·injection h1 with h1 _ _
  injection h1 with h1
  injection h1 with h1 _ _
  subst h1; exact ⟨cur, h2⟩
theorem DocAt.setVal {w : World} {base : Nat} {S : Ev} {N V M O I : Rw} (h : DocAt w base S N V M O I) {g : Nat} (hg : V.a = some ⟨g, 0, none⟩) (i : Nat) (u : Int) : DocAt (w.setCell ⟨g, i, none⟩ (.int .i64 u)) base { S with vals := S.vals.set i u } N V M O I := by
 have hv := h.vals; rw [hg] at hv; have far : ∀ {v : Value} {z n : Nat} {ty : TypeId} {xs : List Value}, Row w ty z v n xs → v.ownBlock ≠ some g → Row (w.setCell ⟨g, i, none⟩ (.int .i64 u)) ty z v n xs := fun hr hne => hr.keep fun q hq => Below.heap_setCell _ _ _ _ (fun e => hne (by rw [hq, e]))
 have hgo : (Value.slice V.a V.n V.c).ownBlock = some g := by rw [hg]; rfl
 refine ⟨h.nn, by simpa using h.vn, h.mn, h.oo, h.ii, far h.names (fun e => rows_apart h.names h.vals (by decide) g e hgo), ?_, far h.mem (h.vm g hgo), far h.outs (h.vo g hgo), far h.intos (fun e => rows_apart h.intos h.vals (by decide) g e hgo), h.fv, h.fm, h.fo, h.fi, h.vm, h.vo, h.mo, by simpa using h.eq⟩
 have q := hv.put i (.int .i64 u); show Row _ _ _ _ _ (nums (S.vals.set i u))
 rw [hg, show nums (S.vals.set i u) = (nums S.vals).set i (.int .i64 u) by simp [nums, List.map_set]]
 exact q
theorem DocAt.setMem {w : World} {base : Nat} {S : Ev} {N V M O I : Rw} (h : DocAt w base S N V M O I) {g : Nat} (hg : M.a = some ⟨g, 0, none⟩) (i : Nat) (u : Int) : DocAt (w.setCell ⟨g, i, none⟩ (.int .i64 u)) base { S with mem := S.mem.set i u } N V M O I := by
 have hv := h.mem; rw [hg] at hv; have far : ∀ {v : Value} {z n : Nat} {ty : TypeId} {xs : List Value}, Row w ty z v n xs → v.ownBlock ≠ some g → Row (w.setCell ⟨g, i, none⟩ (.int .i64 u)) ty z v n xs := fun hr hne => hr.keep fun q hq => Below.heap_setCell _ _ _ _ (fun e => hne (by rw [hq, e]))
 have hgo : (Value.slice M.a M.n M.c).ownBlock = some g := by rw [hg]; rfl
 refine ⟨h.nn, h.vn, by simpa using h.mn, h.oo, h.ii, far h.names (fun e => rows_apart h.names h.mem (by decide) g e hgo), far h.vals (fun e => h.vm g e hgo), ?_, far h.outs (h.mo g hgo), far h.intos (fun e => rows_apart h.intos h.mem (by decide) g e hgo), h.fv, h.fm, h.fo, h.fi, h.vm, h.vo, h.mo, h.eq⟩
 have q := hv.put i (.int .i64 u); show Row _ _ _ _ _ (nums (S.mem.set i u))
 rw [hg, show nums (S.mem.set i u) = (nums S.mem).set i (.int .i64 u) by simp [nums, List.map_set]]
 exact q
theorem LoR.own {W w wz : World} (h : LoR W w wz) {g i : Nat} {cur : Array Value} (hb : wz.heap[g]? = some (.cells cur 2 (0, 0))) (hg : W.heap.size ≤ g) (u : Value) : LoR W w (wz.setCell ⟨g, i, none⟩ u) :=
 have hn : ∀ (q : Nat) (cs : Array Value) (t : TypeId), wz.heap[q]? = some (.cells cs t (0, 0)) → 2 ≠ t → q ≠ g := fun q cs t hq hne e => by
  subst e; rw [hb] at hq; injection hq with hq
  injection hq with _ hq
  exact hne hq
 ⟨h.below.setCell hg _, fun q cs t hq h1 h2 => blk_far (h.fr q cs t hq h1 h2) (hn q cs t (h.fr q cs t hq h1 h2) h1) _, blk_far h.rb (hn _ _ _ h.rb (by decide)) _⟩
set_option maxRecDepth 100000 in
set_option maxHeartbeats 8000000 in
theorem one_store (W : World) (B : Int) (s : Stmt) (S : Ev) {u0 : Int} {u1 : Int} (h7 : s.kind ≠ 7) (hs : S.ticks ≠ B) (hl : s.args.length = 2) (hfd0 : ∀ u, exprV S.tick (s.args.getD 0 default) ≠ .left 0 u) (hx0 : exprV S.tick (s.args.getD 0 default) = .ok u0) (hfd1 : ∀ u, exprV S.tick (s.args.getD 1 default) ≠ .left 0 u) (hx1 : exprV S.tick (s.args.getD 1 default) = .ok u1) (hK : s.kind = 3) (hin : 0 ≤ u0 ∧ u0 < (S.mem.length : Int)) : StmtC W B s S { S.tick with mem := S.tick.mem.set u0.toNat u1 } none := by
 intro A0 c0 A1 c1 A2 c2 d hrd hrd1 hrd2 hr h64 hnl w N V M O I hB hD hF; have hws := hB.size; obtain ⟨w0, hw0, hat, hdo⟩ := LoB.begin (s := s) (A0 := A0) (c0 := c0) (A1 := A1) (c1 := c1) (A2 := A2) (c2 := c2) hB hD S.ticks (B - S.ticks); have HAT := Lib.hid hat; have HD := Lib.hid hdo; have HF := Lib.hid hF; have HB := Lib.hid hB; have HCP := Lib.hid hD.caps; have HW := Lib.hid hw0; have HR64 := Lib.hid (And.intro hr h64); clear hat hdo hB hD hF hw0 ; obtain ⟨s0, s1, s2, s3, s4, s5, s6, s7, s8, s9⟩ := cel10 HAT.out.sb; obtain ⟨e0, e1, e2, e3, e4, e5⟩ := cel6 HAT.out.xb; obtain ⟨r0, r1, r2, r3, r4, r5, r6, r7, r8, r9⟩ := celz HAT.out.rb
 have rf := blk_free HAT.out.rb; have sf := blk_free HAT.out.sb; unfold dsL Stmt.val
 have t7 : (s.kind == 7) = false := by simp [h7]
 have HIN := Lib.hid (fun w' => inside_calls N V M O I 0 0 S.tick.ticks (B - S.tick.ticks) false u0 w')
 have HIP := Lib.hid (show insideP M.n u0 = true by unfold insideP; rw [HD.out.mn]; simp [hin.1, hin.2])
 obtain ⟨kk, hkk⟩ := Int.eq_ofNat_of_zero_le hin.1; subst hkk; have hkm : kk < S.mem.length := by omega
 have hkM : (kk : Int) < (M.n : Int) := by have := HD.out.mn; omega
 have hkk0 : (0 : Int) ≤ (kk : Int) := by omega
 obtain ⟨gm, eg, _⟩ := HD.out.mem.cellA (nums_get hkm); have hgb := HD.out.fm gm (by rw [eg]; rfl)
 have HKM := Lib.hid hkm; have HEG := Lib.hid eg; unfold dsL at HIN; clear hin eg hkm; have t1 : (s.kind == 1) = false := by simp [hK]
 have t2 : (s.kind == 2) = false := by simp [hK]
 have t3 : (s.kind == 3) = true := by simp [hK]
 have t4 : (s.kind == 4) = false := by simp [hK]
 have t5 : (s.kind == 5) = false := by simp [hK]
 have t6 : (s.kind == 6) = false := by simp [hK]
 have t8 : (s.kind == 8) = false := by simp [hK]
 have t9 : (s.kind == 9) = false := by simp [hK]
 have HFK := Lib.hid (HF.out.tick hs); have HT := Lib.hid (fun w' => tick_more HF.out hs N V M O I w')
 rw [s.rightB_eq nameB d] at hr; simp only [Bool.and_eq_true, headB, decide_eq_true_eq] at hr
 obtain ⟨⟨⟨⟨⟨⟨⟨⟨_, hlen⟩, _⟩, _⟩, _⟩, _⟩, hra⟩, hrb⟩, hre⟩ := hr; have h64a := Stmt.in64_args h64; have hj0 : 0 < s.args.length := by omega
 have hga0 : s.args.getD 0 default = s.args[0]'hj0 := by simp [List.getD, hj0]
 have hra0 := Expr.rightsB_all hra (s.args[0]'hj0) (List.getElem_mem hj0); have h640 := Expr.in64_mem h64a (List.getElem_mem hj0); obtain ⟨a0, ha0⟩ : ∃ x, s.args[0]'hj0 = x := ⟨_, rfl⟩
 have HAX0 := Lib.hid (fun w' (hb : Below W.heap.size W w') => Expr.at hrd hb hj0)
 rw [ha0] at hga0 hra0 h640 HAX0; have hj0' : (0 : Int) < (s.args.length : Int) := by omega
 have hj1 : 1 < s.args.length := by omega
 have hga1 : s.args.getD 1 default = s.args[1]'hj1 := by simp [List.getD, hj1]
 have hra1 := Expr.rightsB_all hra (s.args[1]'hj1) (List.getElem_mem hj1); have h641 := Expr.in64_mem h64a (List.getElem_mem hj1); obtain ⟨a1, ha1⟩ : ∃ x, s.args[1]'hj1 = x := ⟨_, rfl⟩
 have HAX1 := Lib.hid (fun w' (hb : Below W.heap.size W w') => Expr.at hrd hb hj1)
 rw [ha1] at hga1 hra1 h641 HAX1; have hj1' : (1 : Int) < (s.args.length : Int) := by omega
 rw [hga0] at hx0 hfd0; have HV0 := Lib.hid (fun A' c' (h5 : Expr.rds W a0.args A' 0) w' (hb : Below W.heap.size W w') (hr' : RdS w' S.tick N V M) => dvalue_calls W S.tick HFK.out.i64 a0.nodes a0 A' c' 1 (Nat.le_refl _) h5 hra0 h640 hfd0 N V M O I S.tick.ticks (B - S.tick.ticks) w' hb hr')
 unfold dsL at HV0; rw [hga1] at hx1 hfd1; have HV1 := Lib.hid (fun A' c' (h5 : Expr.rds W a1.args A' 0) w' (hb : Below W.heap.size W w') (hr' : RdS w' S.tick N V M) => dvalue_calls W S.tick HFK.out.i64 a1.nodes a1 A' c' 1 (Nat.le_refl _) h5 hra1 h641 hfd1 N V M O I S.tick.ticks (B - S.tick.ticks) w' hb hr')
 unfold dsL at HV1; unfold dsL at HT; clear hK hl hs h64 hrd1 hrd2 hlen hra hrb hre h64a hrd hj0 hga0 hra0 h640 ha0 hj1 hga1 hra1 h641 ha1 hfd0 hfd1; go_enter Try.func59, Try.ntmps59
 go_wp2_with (have tk := HW; clear tk; rw [HW.out]; clear HW)
 refine (HT.out _).mono ?_; rintro y w1 ⟨rfl, hb1⟩; have hat := HAT.out.next hws hb1; have hdo := HD.out.below hb1; have HAT1 := Lib.hid hat; have HD1 := Lib.hid hdo; clear s0 s1 s2 s3 s4 s5 s6 s7 s8 s9 e0 e1 e2 e3 e4 e5 r0 r1 r2 r3 r4 r5 r6 r7 r8 r9 rf sf hat hdo hb1; obtain ⟨s0, s1, s2, s3, s4, s5, s6, s7, s8, s9⟩ := cel10 HAT1.out.sb; obtain ⟨e0, e1, e2, e3, e4, e5⟩ := cel6 HAT1.out.xb; obtain ⟨r0, r1, r2, r3, r4, r5, r6, r7, r8, r9⟩ := celz HAT1.out.rb; have rf := blk_free HAT1.out.rb; have sf := blk_free HAT1.out.sb; go_wp2_with fail; have hat := (HAT1.out.put hws N V M O I (0) (0) S.tick.ticks (B - S.tick.ticks) false)
 have hdo := (docPut HD1.out HAT1.out N V M O I (0) (0) S.tick.ticks (B - S.tick.ticks) false).tick; obtain ⟨w2, hw2⟩ : ∃ wx, put10 w1 w.heap.size N V M O I (0) (0) S.tick.ticks (B - S.tick.ticks) false = wx := ⟨_, rfl⟩
 rw [hw2] at hat hdo; unfold put10 at hw2; rw [hw2]; have HAT2 := Lib.hid hat; have HD2 := Lib.hid hdo; clear s0 s1 s2 s3 s4 s5 s6 s7 s8 s9 e0 e1 e2 e3 e4 e5 r0 r1 r2 r3 r4 r5 r6 r7 r8 r9 rf sf hat hw2 hdo; obtain ⟨s0, s1, s2, s3, s4, s5, s6, s7, s8, s9⟩ := cel10 HAT2.out.sb; obtain ⟨e0, e1, e2, e3, e4, e5⟩ := cel6 HAT2.out.xb; obtain ⟨r0, r1, r2, r3, r4, r5, r6, r7, r8, r9⟩ := celz HAT2.out.rb; have rf := blk_free HAT2.out.rb; have sf := blk_free HAT2.out.sb; obtain ⟨ba0, oa0, B0, d0, hA0, hba0, m0, m1, m2, m3, m4, _, _, hr5⟩ := HAX0.out w2 HAT2.out.below; simp only [Nat.zero_mul, Nat.one_mul, Nat.add_zero] at m0 m1 m2 m3 m4
 subst hA0; have HE0 := Lib.hid (HV0.out B0 d0 hr5 w2.drew HAT2.out.drew.below ((HD2.out.below (Below.refl _ _).drew).reads HFK.out)); rw [hx0] at HE0; clear hr5; refine wp_region_noPanic ?_; refine wp_region_held_drew (S := KeepS (w.heap.size) w2) (by kernel_rfl) (KeepS.drew _ _) (fun hHeld => ?_)
 refine tkP 1 22 (.pointer (some ⟨w.heap.size + 1, 3, none⟩)) ?_; refine tkP 2 23 (.slice (some ⟨ba0, oa0, none⟩) s.args.length c0) ?_ (hy := Or.inl ⟨by rfl, fun U hU => by have q := hU.cell e3 (by omega); clear e3; go_simp⟩)
 refine tkP 3 24 (.pointer (some ⟨ba0, oa0, none⟩)) ?_; refine tkP 4 25 (.agg #[.int .i64 a0.kind, .int .i64 a0.num, .string a0.name, .int .i64 a0.op, .slice B0 a0.args.length d0]) ?_ (hy := Or.inl ⟨by rfl, fun U hU => by have q0 := hU.cell m0 (by omega); have q1 := hU.cell m1 (by omega); have q2 := hU.cell m2 (by omega); have q3 := hU.cell m3 (by omega); have q4 := hU.cell m4 (by omega); clear m0 m1 m2 m3 m4; go_simp⟩)
 refine rd1 0 (some 21) fun K hK => ?_
 go_simp; refine bk hK (hHeld) fun q => ?_; clear hK K hHeld; have hHeld := q; clear q
 refine rd1 5 (some 26) fun K hK => ?_
 go_simp; refine (HE0.out).mono ?_; rintro y w8 ⟨hb8, hy⟩; simp only [dsL] at hy
 subst hy; have hbc8 : Below w2.heap.size w2 w8 := below_fromdrew hb8
 have hat8 := HAT2.out.next hws hbc8; obtain ⟨z0, z1, z2, z3, z4, z5, z6, z7, z8, z9⟩ := cel10 hat8.sb; have zf := blk_free hat8.sb; refine bk hK ((KeepS.drew _ w2).below hb8) fun q => ?_; clear hK K hHeld; have hHeld := q; clear q
 refine tkP 6 20 (.tuple #[.agg #[.slice N.a N.n N.c, .slice V.a V.n V.c, .slice M.a M.n M.c, .slice O.a O.n O.c, .slice I.a I.n I.c, .int .i64 (0), .int .i64 (0), .int .i64 S.tick.ticks, .int .i64 (B - S.tick.ticks), .bool false], .int .i64 (kk : Int)]) ?_; refine tkP 7 27 (.agg #[.slice N.a N.n N.c, .slice V.a V.n V.c, .slice M.a M.n M.c, .slice O.a O.n O.c, .slice I.a I.n I.c, .int .i64 (0), .int .i64 (0), .int .i64 S.tick.ticks, .int .i64 (B - S.tick.ticks), .bool false]) ?_; refine tkP 8 28 (.int .i64 (kk : Int)) ?_; refine rd1 9 none fun K hK => ?_
 go_simp; refine bk hK (((KeepS.drew _ w2).below hb8).put N V M O I (0) (0) S.tick.ticks (B - S.tick.ticks) false) fun q => ?_; clear hK K hHeld; have hHeld := q; clear q
 refine tkP 10 5 (.int .i64 (kk : Int)) ?_; refine wpAnyH_done (by kernel_rfl) ?_ _
 refine NoPanic.normal ?_; clear z0 z1 z2 z3 z4 z5 z6 z7 z8 z9 zf; have hat := (hat8.put hws N V M O I (0) (0) S.tick.ticks (B - S.tick.ticks) false); have hdo := HD2.out.below hbc8 |>.put10 hat8.sb N V M O I (0) (0) S.tick.ticks (B - S.tick.ticks) false
 obtain ⟨w3, hw3⟩ : ∃ wx, put10 w8 w.heap.size N V M O I (0) (0) S.tick.ticks (B - S.tick.ticks) false = wx := ⟨_, rfl⟩
 rw [hw3] at hat hdo; unfold put10 at hw3; rw [hw3]; have HAT3 := Lib.hid hat; have HD3 := Lib.hid hdo; clear s0 s1 s2 s3 s4 s5 s6 s7 s8 s9 e0 e1 e2 e3 e4 e5 r0 r1 r2 r3 r4 r5 r6 r7 r8 r9 rf sf hat hw3 hdo; obtain ⟨s0, s1, s2, s3, s4, s5, s6, s7, s8, s9⟩ := cel10 HAT3.out.sb; obtain ⟨e0, e1, e2, e3, e4, e5⟩ := cel6 HAT3.out.xb; obtain ⟨r0, r1, r2, r3, r4, r5, r6, r7, r8, r9⟩ := celz HAT3.out.rb; have rf := blk_free HAT3.out.rb; have sf := blk_free HAT3.out.sb; go_wp2_with fail; obtain ⟨ba1, oa1, B1, d1, hA1, hba1, m0, m1, m2, m3, m4, _, _, hr5⟩ := HAX1.out w3 HAT3.out.below; simp only [Nat.zero_mul, Nat.one_mul, Nat.add_zero] at m0 m1 m2 m3 m4
 injection hA1 with hA1
 injection hA1 with hA1 hA2 _
 subst hA1; subst hA2; have HE1 := Lib.hid (HV1.out B1 d1 hr5 w3.drew HAT3.out.drew.below ((HD3.out.below (Below.refl _ _).drew).reads HFK.out)); rw [hx1] at HE1; clear hr5; refine wp_region_noPanic ?_; refine wp_region_held_drew (S := KeepS (w.heap.size) w3) (by kernel_rfl) (KeepS.drew _ _) (fun hHeld => ?_)
 refine tkP 1 35 (.pointer (some ⟨w.heap.size + 1, 3, none⟩)) ?_; refine tkP 2 36 (.slice (some ⟨ba0, oa0, none⟩) s.args.length c0) ?_ (hy := Or.inl ⟨by rfl, fun U hU => by have q := hU.cell e3 (by omega); clear e3; go_simp⟩)
 refine tkP 3 37 (.pointer (some ⟨ba0, oa0 + 5, none⟩)) ?_; refine tkP 4 38 (.agg #[.int .i64 a1.kind, .int .i64 a1.num, .string a1.name, .int .i64 a1.op, .slice B1 a1.args.length d1]) ?_ (hy := Or.inl ⟨by rfl, fun U hU => by have q0 := hU.cell m0 (by omega); have q1 := hU.cell m1 (by omega); have q2 := hU.cell m2 (by omega); have q3 := hU.cell m3 (by omega); have q4 := hU.cell m4 (by omega); clear m0 m1 m2 m3 m4; go_simp⟩)
 refine rd1 0 (some 34) fun K hK => ?_
 go_simp; refine bk hK (hHeld) fun q => ?_; clear hK K hHeld; have hHeld := q; clear q
 refine rd1 5 (some 39) fun K hK => ?_
 go_simp; refine (HE1.out).mono ?_; rintro y w8 ⟨hb8, hy⟩; simp only [dsL] at hy
 subst hy; have hbc8 : Below w3.heap.size w3 w8 := below_fromdrew hb8
 have hat8 := HAT3.out.next hws hbc8; obtain ⟨z0, z1, z2, z3, z4, z5, z6, z7, z8, z9⟩ := cel10 hat8.sb; have zf := blk_free hat8.sb; refine bk hK ((KeepS.drew _ w3).below hb8) fun q => ?_; clear hK K hHeld; have hHeld := q; clear q
 refine tkP 6 33 (.tuple #[.agg #[.slice N.a N.n N.c, .slice V.a V.n V.c, .slice M.a M.n M.c, .slice O.a O.n O.c, .slice I.a I.n I.c, .int .i64 (0), .int .i64 (0), .int .i64 S.tick.ticks, .int .i64 (B - S.tick.ticks), .bool false], .int .i64 u1]) ?_; refine tkP 7 40 (.agg #[.slice N.a N.n N.c, .slice V.a V.n V.c, .slice M.a M.n M.c, .slice O.a O.n O.c, .slice I.a I.n I.c, .int .i64 (0), .int .i64 (0), .int .i64 S.tick.ticks, .int .i64 (B - S.tick.ticks), .bool false]) ?_; refine tkP 8 41 (.int .i64 u1) ?_; refine rd1 9 none fun K hK => ?_
 go_simp; refine bk hK (((KeepS.drew _ w3).below hb8).put N V M O I (0) (0) S.tick.ticks (B - S.tick.ticks) false) fun q => ?_; clear hK K hHeld; have hHeld := q; clear q
 refine tkP 10 6 (.int .i64 u1) ?_; refine wpAnyH_done (by kernel_rfl) ?_ _
 refine NoPanic.normal ?_; clear z0 z1 z2 z3 z4 z5 z6 z7 z8 z9 zf; have hat := (hat8.put hws N V M O I (0) (0) S.tick.ticks (B - S.tick.ticks) false); have hdo := HD3.out.below hbc8 |>.put10 hat8.sb N V M O I (0) (0) S.tick.ticks (B - S.tick.ticks) false
 obtain ⟨w4, hw4⟩ : ∃ wx, put10 w8 w.heap.size N V M O I (0) (0) S.tick.ticks (B - S.tick.ticks) false = wx := ⟨_, rfl⟩
 rw [hw4] at hat hdo; unfold put10 at hw4; rw [hw4]; have HAT4 := Lib.hid hat; have HD4 := Lib.hid hdo; clear s0 s1 s2 s3 s4 s5 s6 s7 s8 s9 e0 e1 e2 e3 e4 e5 r0 r1 r2 r3 r4 r5 r6 r7 r8 r9 rf sf hat hw4 hdo; obtain ⟨s0, s1, s2, s3, s4, s5, s6, s7, s8, s9⟩ := cel10 HAT4.out.sb; obtain ⟨e0, e1, e2, e3, e4, e5⟩ := cel6 HAT4.out.xb; obtain ⟨r0, r1, r2, r3, r4, r5, r6, r7, r8, r9⟩ := celz HAT4.out.rb; have rf := blk_free HAT4.out.rb; have sf := blk_free HAT4.out.sb; go_wp2_with fail; refine (HIN.out w4).mono ?_; rintro y w5 ⟨rfl, hb5⟩; rw [HIP.out]; have hat := HAT4.out.next hws hb5; have hdo := HD4.out.below hb5
 have HAT5 := Lib.hid hat; have HD5 := Lib.hid hdo; clear s0 s1 s2 s3 s4 s5 s6 s7 s8 s9 e0 e1 e2 e3 e4 e5 r0 r1 r2 r3 r4 r5 r6 r7 r8 r9 rf sf hat hdo hb5; obtain ⟨s0, s1, s2, s3, s4, s5, s6, s7, s8, s9⟩ := cel10 HAT5.out.sb; obtain ⟨e0, e1, e2, e3, e4, e5⟩ := cel6 HAT5.out.xb; obtain ⟨r0, r1, r2, r3, r4, r5, r6, r7, r8, r9⟩ := celz HAT5.out.rb; have rf := blk_free HAT5.out.rb; have sf := blk_free HAT5.out.sb; obtain ⟨g9, e9, x9⟩ := HD5.out.mem.cellA (nums_get HKM.out); have hm9 := HD5.out.mem; rw [HEG.out] at e9 hm9; simp only [Option.some.injEq, Addr.mk.injEq] at e9
 obtain ⟨rfl, _⟩ := e9; obtain ⟨cu9, hb9⟩ := Row.blkAt hm9; have f9 := blk_free hb9 kk; have n1 : gm ≠ w.heap.size := fun e => by subst e; have q := HAT5.out.sb; rw [hb9] at q; injection q with q; injection q with _ q; exact absurd q (by decide)
 have n3 : gm ≠ w.heap.size + 1 + 1 := fun e => by have q := HAT5.out.rb; rw [← e, hb9] at q; injection q with q; injection q with _ q; exact absurd q (by decide)
 have n1' := Ne.symm n1; have n3' := Ne.symm n3; have HB9 := Lib.hid hb9; have eg := HEG.out; clear hm9 hb9; go_wp2; have hfin := LoR.done (B := B) (S := S) (S' := { S.tick with mem := S.tick.mem.set kk u1 }) (LoR.own HAT5.out.res (i := kk) HB9.out hgb (.int .i64 u1)) hws (HD5.out.setMem HEG.out kk u1)
 obtain ⟨w99, hw99⟩ : ∃ wx, put10 (w5.setCell ⟨gm, kk, none⟩ (.int .i64 u1)) (w.heap.size + 1 + 1) N V M O I (0) (0) S.tick.ticks (B - S.tick.ticks) false = wx := ⟨_, rfl⟩
 try dsimp only at hfin
 rw [hw99] at hfin; unfold put10 at hw99; simp only [HEG.out] at hw99
 rw [hw99]; exact bodyPost_ret (results_ds rfl _ _ (w.heap.size + 1 + 1) N V M O I (0) (0) S.tick.ticks (B - S.tick.ticks) false (by rfl) hfin.1) rfl hfin.2
set_option maxRecDepth 100000 in
set_option maxHeartbeats 8000000 in
theorem one_storeOut (W : World) (B : Int) (s : Stmt) (S : Ev) {u0 u1 : Int} (h7 : s.kind ≠ 7) (hs : S.ticks ≠ B) (hl : s.args.length = 2) (hfd0 : ∀ u, exprV S.tick (s.args.getD 0 default) ≠ .left 0 u) (hx0 : exprV S.tick (s.args.getD 0 default) = .ok u0) (hfd1 : ∀ u, exprV S.tick (s.args.getD 1 default) ≠ .left 0 u) (hx1 : exprV S.tick (s.args.getD 1 default) = .ok u1) (hK : s.kind = 3) (hin : ¬ (0 ≤ u0 ∧ u0 < (S.mem.length : Int))) : StmtC W B s S S.tick (some (3, u0)) := by
 intro A0 c0 A1 c1 A2 c2 d hrd hrd1 hrd2 hr h64 hnl w N V M O I hB hD hF; have hws := hB.size; obtain ⟨w0, hw0, hat, hdo⟩ := LoB.begin (s := s) (A0 := A0) (c0 := c0) (A1 := A1) (c1 := c1) (A2 := A2) (c2 := c2) hB hD S.ticks (B - S.ticks); have HAT := Lib.hid hat; have HD := Lib.hid hdo; have HF := Lib.hid hF; have HB := Lib.hid hB; have HCP := Lib.hid hD.caps; have HW := Lib.hid hw0; have HR64 := Lib.hid (And.intro hr h64); clear hat hdo hB hD hF hw0 ; obtain ⟨s0, s1, s2, s3, s4, s5, s6, s7, s8, s9⟩ := cel10 HAT.out.sb; obtain ⟨e0, e1, e2, e3, e4, e5⟩ := cel6 HAT.out.xb; obtain ⟨r0, r1, r2, r3, r4, r5, r6, r7, r8, r9⟩ := celz HAT.out.rb
 have rf := blk_free HAT.out.rb; have sf := blk_free HAT.out.sb; unfold dsL Stmt.val
 have t7 : (s.kind == 7) = false := by simp [h7]
 have HIN := Lib.hid (fun w' => inside_calls N V M O I 0 0 S.tick.ticks (B - S.tick.ticks) false u0 w')
 have HIP := Lib.hid (show insideP M.n u0 = false by unfold insideP; rw [HD.out.mn]; by_cases h0 : 0 ≤ u0 <;> simp [h0]; omega)
 have HDE := Lib.hid (fun w' => dend_calls N V M O I 0 0 S.tick.ticks (B - S.tick.ticks) false 3 u0 w')
 unfold endL at HDE; unfold dsL at HIN HDE; clear hin; have t1 : (s.kind == 1) = false := by simp [hK]
 have t2 : (s.kind == 2) = false := by simp [hK]
 have t3 : (s.kind == 3) = true := by simp [hK]
 have t4 : (s.kind == 4) = false := by simp [hK]
 have t5 : (s.kind == 5) = false := by simp [hK]
 have t6 : (s.kind == 6) = false := by simp [hK]
 have t8 : (s.kind == 8) = false := by simp [hK]
 have t9 : (s.kind == 9) = false := by simp [hK]
 have HFK := Lib.hid (HF.out.tick hs); have HT := Lib.hid (fun w' => tick_more HF.out hs N V M O I w')
 rw [s.rightB_eq nameB d] at hr; simp only [Bool.and_eq_true, headB, decide_eq_true_eq] at hr
 obtain ⟨⟨⟨⟨⟨⟨⟨⟨_, hlen⟩, _⟩, _⟩, _⟩, _⟩, hra⟩, hrb⟩, hre⟩ := hr; have h64a := Stmt.in64_args h64; have hj0 : 0 < s.args.length := by omega
 have hga0 : s.args.getD 0 default = s.args[0]'hj0 := by simp [List.getD, hj0]
 have hra0 := Expr.rightsB_all hra (s.args[0]'hj0) (List.getElem_mem hj0); have h640 := Expr.in64_mem h64a (List.getElem_mem hj0); obtain ⟨a0, ha0⟩ : ∃ x, s.args[0]'hj0 = x := ⟨_, rfl⟩
 have HAX0 := Lib.hid (fun w' (hb : Below W.heap.size W w') => Expr.at hrd hb hj0)
 rw [ha0] at hga0 hra0 h640 HAX0; have hj0' : (0 : Int) < (s.args.length : Int) := by omega
 have hj1 : 1 < s.args.length := by omega
 have hga1 : s.args.getD 1 default = s.args[1]'hj1 := by simp [List.getD, hj1]
 have hra1 := Expr.rightsB_all hra (s.args[1]'hj1) (List.getElem_mem hj1); have h641 := Expr.in64_mem h64a (List.getElem_mem hj1); obtain ⟨a1, ha1⟩ : ∃ x, s.args[1]'hj1 = x := ⟨_, rfl⟩
 have HAX1 := Lib.hid (fun w' (hb : Below W.heap.size W w') => Expr.at hrd hb hj1)
 rw [ha1] at hga1 hra1 h641 HAX1; have hj1' : (1 : Int) < (s.args.length : Int) := by omega
 rw [hga0] at hx0 hfd0; have HV0 := Lib.hid (fun A' c' (h5 : Expr.rds W a0.args A' 0) w' (hb : Below W.heap.size W w') (hr' : RdS w' S.tick N V M) => dvalue_calls W S.tick HFK.out.i64 a0.nodes a0 A' c' 1 (Nat.le_refl _) h5 hra0 h640 hfd0 N V M O I S.tick.ticks (B - S.tick.ticks) w' hb hr')
 unfold dsL at HV0; rw [hga1] at hx1 hfd1; have HV1 := Lib.hid (fun A' c' (h5 : Expr.rds W a1.args A' 0) w' (hb : Below W.heap.size W w') (hr' : RdS w' S.tick N V M) => dvalue_calls W S.tick HFK.out.i64 a1.nodes a1 A' c' 1 (Nat.le_refl _) h5 hra1 h641 hfd1 N V M O I S.tick.ticks (B - S.tick.ticks) w' hb hr')
 unfold dsL at HV1; unfold dsL at HT; clear hK hl hs h64 hrd1 hrd2 hlen hra hrb hre h64a hrd hj0 hga0 hra0 h640 ha0 hj1 hga1 hra1 h641 ha1 hfd0 hfd1; go_enter Try.func59, Try.ntmps59
 go_wp2_with (have tk := HW; clear tk; rw [HW.out]; clear HW)
 refine (HT.out _).mono ?_; rintro y w1 ⟨rfl, hb1⟩; have hat := HAT.out.next hws hb1; have hdo := HD.out.below hb1; have HAT1 := Lib.hid hat; have HD1 := Lib.hid hdo; clear s0 s1 s2 s3 s4 s5 s6 s7 s8 s9 e0 e1 e2 e3 e4 e5 r0 r1 r2 r3 r4 r5 r6 r7 r8 r9 rf sf hat hdo hb1; obtain ⟨s0, s1, s2, s3, s4, s5, s6, s7, s8, s9⟩ := cel10 HAT1.out.sb; obtain ⟨e0, e1, e2, e3, e4, e5⟩ := cel6 HAT1.out.xb; obtain ⟨r0, r1, r2, r3, r4, r5, r6, r7, r8, r9⟩ := celz HAT1.out.rb; have rf := blk_free HAT1.out.rb; have sf := blk_free HAT1.out.sb; go_wp2_with fail; have hat := (HAT1.out.put hws N V M O I (0) (0) S.tick.ticks (B - S.tick.ticks) false)
 have hdo := (docPut HD1.out HAT1.out N V M O I (0) (0) S.tick.ticks (B - S.tick.ticks) false).tick; obtain ⟨w2, hw2⟩ : ∃ wx, put10 w1 w.heap.size N V M O I (0) (0) S.tick.ticks (B - S.tick.ticks) false = wx := ⟨_, rfl⟩
 rw [hw2] at hat hdo; unfold put10 at hw2; rw [hw2]; have HAT2 := Lib.hid hat; have HD2 := Lib.hid hdo; clear s0 s1 s2 s3 s4 s5 s6 s7 s8 s9 e0 e1 e2 e3 e4 e5 r0 r1 r2 r3 r4 r5 r6 r7 r8 r9 rf sf hat hw2 hdo; obtain ⟨s0, s1, s2, s3, s4, s5, s6, s7, s8, s9⟩ := cel10 HAT2.out.sb; obtain ⟨e0, e1, e2, e3, e4, e5⟩ := cel6 HAT2.out.xb; obtain ⟨r0, r1, r2, r3, r4, r5, r6, r7, r8, r9⟩ := celz HAT2.out.rb; have rf := blk_free HAT2.out.rb; have sf := blk_free HAT2.out.sb; obtain ⟨ba0, oa0, B0, d0, hA0, hba0, m0, m1, m2, m3, m4, _, _, hr5⟩ := HAX0.out w2 HAT2.out.below; simp only [Nat.zero_mul, Nat.one_mul, Nat.add_zero] at m0 m1 m2 m3 m4
 subst hA0; have HE0 := Lib.hid (HV0.out B0 d0 hr5 w2.drew HAT2.out.drew.below ((HD2.out.below (Below.refl _ _).drew).reads HFK.out)); rw [hx0] at HE0; clear hr5; refine wp_region_noPanic ?_; refine wp_region_held_drew (S := KeepS (w.heap.size) w2) (by kernel_rfl) (KeepS.drew _ _) (fun hHeld => ?_)
 refine tkP 1 22 (.pointer (some ⟨w.heap.size + 1, 3, none⟩)) ?_; refine tkP 2 23 (.slice (some ⟨ba0, oa0, none⟩) s.args.length c0) ?_ (hy := Or.inl ⟨by rfl, fun U hU => by have q := hU.cell e3 (by omega); clear e3; go_simp⟩)
 refine tkP 3 24 (.pointer (some ⟨ba0, oa0, none⟩)) ?_; refine tkP 4 25 (.agg #[.int .i64 a0.kind, .int .i64 a0.num, .string a0.name, .int .i64 a0.op, .slice B0 a0.args.length d0]) ?_ (hy := Or.inl ⟨by rfl, fun U hU => by have q0 := hU.cell m0 (by omega); have q1 := hU.cell m1 (by omega); have q2 := hU.cell m2 (by omega); have q3 := hU.cell m3 (by omega); have q4 := hU.cell m4 (by omega); clear m0 m1 m2 m3 m4; go_simp⟩)
 refine rd1 0 (some 21) fun K hK => ?_
 go_simp; refine bk hK (hHeld) fun q => ?_; clear hK K hHeld; have hHeld := q; clear q
 refine rd1 5 (some 26) fun K hK => ?_
 go_simp; refine (HE0.out).mono ?_; rintro y w8 ⟨hb8, hy⟩; simp only [dsL] at hy
 subst hy; have hbc8 : Below w2.heap.size w2 w8 := below_fromdrew hb8
 have hat8 := HAT2.out.next hws hbc8; obtain ⟨z0, z1, z2, z3, z4, z5, z6, z7, z8, z9⟩ := cel10 hat8.sb; have zf := blk_free hat8.sb; refine bk hK ((KeepS.drew _ w2).below hb8) fun q => ?_; clear hK K hHeld; have hHeld := q; clear q
 refine tkP 6 20 (.tuple #[.agg #[.slice N.a N.n N.c, .slice V.a V.n V.c, .slice M.a M.n M.c, .slice O.a O.n O.c, .slice I.a I.n I.c, .int .i64 (0), .int .i64 (0), .int .i64 S.tick.ticks, .int .i64 (B - S.tick.ticks), .bool false], .int .i64 u0]) ?_; refine tkP 7 27 (.agg #[.slice N.a N.n N.c, .slice V.a V.n V.c, .slice M.a M.n M.c, .slice O.a O.n O.c, .slice I.a I.n I.c, .int .i64 (0), .int .i64 (0), .int .i64 S.tick.ticks, .int .i64 (B - S.tick.ticks), .bool false]) ?_; refine tkP 8 28 (.int .i64 u0) ?_; refine rd1 9 none fun K hK => ?_
 go_simp; refine bk hK (((KeepS.drew _ w2).below hb8).put N V M O I (0) (0) S.tick.ticks (B - S.tick.ticks) false) fun q => ?_; clear hK K hHeld; have hHeld := q; clear q
 refine tkP 10 5 (.int .i64 u0) ?_; refine wpAnyH_done (by kernel_rfl) ?_ _
 refine NoPanic.normal ?_; clear z0 z1 z2 z3 z4 z5 z6 z7 z8 z9 zf; have hat := (hat8.put hws N V M O I (0) (0) S.tick.ticks (B - S.tick.ticks) false); have hdo := HD2.out.below hbc8 |>.put10 hat8.sb N V M O I (0) (0) S.tick.ticks (B - S.tick.ticks) false
 obtain ⟨w3, hw3⟩ : ∃ wx, put10 w8 w.heap.size N V M O I (0) (0) S.tick.ticks (B - S.tick.ticks) false = wx := ⟨_, rfl⟩
 rw [hw3] at hat hdo; unfold put10 at hw3; rw [hw3]; have HAT3 := Lib.hid hat; have HD3 := Lib.hid hdo; clear s0 s1 s2 s3 s4 s5 s6 s7 s8 s9 e0 e1 e2 e3 e4 e5 r0 r1 r2 r3 r4 r5 r6 r7 r8 r9 rf sf hat hw3 hdo; obtain ⟨s0, s1, s2, s3, s4, s5, s6, s7, s8, s9⟩ := cel10 HAT3.out.sb; obtain ⟨e0, e1, e2, e3, e4, e5⟩ := cel6 HAT3.out.xb; obtain ⟨r0, r1, r2, r3, r4, r5, r6, r7, r8, r9⟩ := celz HAT3.out.rb; have rf := blk_free HAT3.out.rb; have sf := blk_free HAT3.out.sb; go_wp2_with fail; obtain ⟨ba1, oa1, B1, d1, hA1, hba1, m0, m1, m2, m3, m4, _, _, hr5⟩ := HAX1.out w3 HAT3.out.below; simp only [Nat.zero_mul, Nat.one_mul, Nat.add_zero] at m0 m1 m2 m3 m4
 injection hA1 with hA1
 injection hA1 with hA1 hA2 _
 subst hA1; subst hA2; have HE1 := Lib.hid (HV1.out B1 d1 hr5 w3.drew HAT3.out.drew.below ((HD3.out.below (Below.refl _ _).drew).reads HFK.out)); rw [hx1] at HE1; clear hr5; refine wp_region_noPanic ?_; refine wp_region_held_drew (S := KeepS (w.heap.size) w3) (by kernel_rfl) (KeepS.drew _ _) (fun hHeld => ?_)
 refine tkP 1 35 (.pointer (some ⟨w.heap.size + 1, 3, none⟩)) ?_; refine tkP 2 36 (.slice (some ⟨ba0, oa0, none⟩) s.args.length c0) ?_ (hy := Or.inl ⟨by rfl, fun U hU => by have q := hU.cell e3 (by omega); clear e3; go_simp⟩)
 refine tkP 3 37 (.pointer (some ⟨ba0, oa0 + 5, none⟩)) ?_; refine tkP 4 38 (.agg #[.int .i64 a1.kind, .int .i64 a1.num, .string a1.name, .int .i64 a1.op, .slice B1 a1.args.length d1]) ?_ (hy := Or.inl ⟨by rfl, fun U hU => by have q0 := hU.cell m0 (by omega); have q1 := hU.cell m1 (by omega); have q2 := hU.cell m2 (by omega); have q3 := hU.cell m3 (by omega); have q4 := hU.cell m4 (by omega); clear m0 m1 m2 m3 m4; go_simp⟩)
 refine rd1 0 (some 34) fun K hK => ?_
 go_simp; refine bk hK (hHeld) fun q => ?_; clear hK K hHeld; have hHeld := q; clear q
 refine rd1 5 (some 39) fun K hK => ?_
 go_simp; refine (HE1.out).mono ?_; rintro y w8 ⟨hb8, hy⟩; simp only [dsL] at hy
 subst hy; have hbc8 : Below w3.heap.size w3 w8 := below_fromdrew hb8
 have hat8 := HAT3.out.next hws hbc8; obtain ⟨z0, z1, z2, z3, z4, z5, z6, z7, z8, z9⟩ := cel10 hat8.sb; have zf := blk_free hat8.sb; refine bk hK ((KeepS.drew _ w3).below hb8) fun q => ?_; clear hK K hHeld; have hHeld := q; clear q
 refine tkP 6 33 (.tuple #[.agg #[.slice N.a N.n N.c, .slice V.a V.n V.c, .slice M.a M.n M.c, .slice O.a O.n O.c, .slice I.a I.n I.c, .int .i64 (0), .int .i64 (0), .int .i64 S.tick.ticks, .int .i64 (B - S.tick.ticks), .bool false], .int .i64 u1]) ?_; refine tkP 7 40 (.agg #[.slice N.a N.n N.c, .slice V.a V.n V.c, .slice M.a M.n M.c, .slice O.a O.n O.c, .slice I.a I.n I.c, .int .i64 (0), .int .i64 (0), .int .i64 S.tick.ticks, .int .i64 (B - S.tick.ticks), .bool false]) ?_; refine tkP 8 41 (.int .i64 u1) ?_; refine rd1 9 none fun K hK => ?_
 go_simp; refine bk hK (((KeepS.drew _ w3).below hb8).put N V M O I (0) (0) S.tick.ticks (B - S.tick.ticks) false) fun q => ?_; clear hK K hHeld; have hHeld := q; clear q
 refine tkP 10 6 (.int .i64 u1) ?_; refine wpAnyH_done (by kernel_rfl) ?_ _
 refine NoPanic.normal ?_; clear z0 z1 z2 z3 z4 z5 z6 z7 z8 z9 zf; have hat := (hat8.put hws N V M O I (0) (0) S.tick.ticks (B - S.tick.ticks) false); have hdo := HD3.out.below hbc8 |>.put10 hat8.sb N V M O I (0) (0) S.tick.ticks (B - S.tick.ticks) false
 obtain ⟨w4, hw4⟩ : ∃ wx, put10 w8 w.heap.size N V M O I (0) (0) S.tick.ticks (B - S.tick.ticks) false = wx := ⟨_, rfl⟩
 rw [hw4] at hat hdo; unfold put10 at hw4; rw [hw4]; have HAT4 := Lib.hid hat; have HD4 := Lib.hid hdo; clear s0 s1 s2 s3 s4 s5 s6 s7 s8 s9 e0 e1 e2 e3 e4 e5 r0 r1 r2 r3 r4 r5 r6 r7 r8 r9 rf sf hat hw4 hdo; obtain ⟨s0, s1, s2, s3, s4, s5, s6, s7, s8, s9⟩ := cel10 HAT4.out.sb; obtain ⟨e0, e1, e2, e3, e4, e5⟩ := cel6 HAT4.out.xb; obtain ⟨r0, r1, r2, r3, r4, r5, r6, r7, r8, r9⟩ := celz HAT4.out.rb; have rf := blk_free HAT4.out.rb; have sf := blk_free HAT4.out.sb; go_wp2_with fail; refine (HIN.out w4).mono ?_; rintro y w5 ⟨rfl, hb5⟩; rw [HIP.out]; have hat := HAT4.out.next hws hb5; have hdo := HD4.out.below hb5
 have HAT5 := Lib.hid hat; have HD5 := Lib.hid hdo; clear s0 s1 s2 s3 s4 s5 s6 s7 s8 s9 e0 e1 e2 e3 e4 e5 r0 r1 r2 r3 r4 r5 r6 r7 r8 r9 rf sf hat hdo hb5; obtain ⟨s0, s1, s2, s3, s4, s5, s6, s7, s8, s9⟩ := cel10 HAT5.out.sb; obtain ⟨e0, e1, e2, e3, e4, e5⟩ := cel6 HAT5.out.xb; obtain ⟨r0, r1, r2, r3, r4, r5, r6, r7, r8, r9⟩ := celz HAT5.out.rb; have rf := blk_free HAT5.out.rb; have sf := blk_free HAT5.out.sb; go_wp2_with fail; refine (HDE.out w5).mono ?_; rintro y w6 ⟨rfl, hb6⟩; have hat := HAT5.out.next hws hb6; have hdo := HD5.out.ends.below hb6; have HAT6 := Lib.hid hat; have HD6 := Lib.hid hdo
 clear s0 s1 s2 s3 s4 s5 s6 s7 s8 s9 e0 e1 e2 e3 e4 e5 r0 r1 r2 r3 r4 r5 r6 r7 r8 r9 rf sf hat hdo hb6; obtain ⟨s0, s1, s2, s3, s4, s5, s6, s7, s8, s9⟩ := cel10 HAT6.out.sb; obtain ⟨e0, e1, e2, e3, e4, e5⟩ := cel6 HAT6.out.xb; obtain ⟨r0, r1, r2, r3, r4, r5, r6, r7, r8, r9⟩ := celz HAT6.out.rb; have rf := blk_free HAT6.out.rb; have sf := blk_free HAT6.out.sb; go_wp2; have hfin := LoR.left (B := B) (S := S) (S' := S.tick) (x := (3, u0)) HAT6.out.res hws HD6.out HCP.out.1 HCP.out.2; obtain ⟨w99, hw99⟩ : ∃ wx, put10 w6 (w.heap.size + 1 + 1) N V M O I (3) (u0) S.tick.ticks (B - S.tick.ticks) true = wx := ⟨_, rfl⟩
 try dsimp only at hfin
 rw [hw99] at hfin; unfold put10 at hw99; rw [hw99]; exact bodyPost_ret (results_ds rfl _ _ (w.heap.size + 1 + 1) N V M O I (3) (u0) S.tick.ticks (B - S.tick.ticks) true (by rfl) hfin.1) rfl hfin.2
set_option maxRecDepth 100000 in
set_option maxHeartbeats 8000000 in
theorem one_set (W : World) (B : Int) (s : Stmt) (S : Ev) {u0 : Int} (h7 : s.kind ≠ 7) (hs : S.ticks ≠ B) (hl : s.args.length = 1) (hfd0 : ∀ u, exprV S.tick (s.args.getD 0 default) ≠ .left 0 u) (hx0 : exprV S.tick (s.args.getD 0 default) = .ok u0) (hK : s.kind = 2) (hname : ∃ i, lastIdx S.names s.name = some i) : StmtC W B s S (doV S.tick s u0 0).1 none := by
 intro A0 c0 A1 c1 A2 c2 d hrd hrd1 hrd2 hr h64 hnl w N V M O I hB hD hF; have hws := hB.size; obtain ⟨w0, hw0, hat, hdo⟩ := LoB.begin (s := s) (A0 := A0) (c0 := c0) (A1 := A1) (c1 := c1) (A2 := A2) (c2 := c2) hB hD S.ticks (B - S.ticks); have HAT := Lib.hid hat; have HD := Lib.hid hdo; have HF := Lib.hid hF; have HB := Lib.hid hB; have HCP := Lib.hid hD.caps; have HW := Lib.hid hw0; have HR64 := Lib.hid (And.intro hr h64); clear hat hdo hB hD hF hw0 ; obtain ⟨s0, s1, s2, s3, s4, s5, s6, s7, s8, s9⟩ := cel10 HAT.out.sb; obtain ⟨e0, e1, e2, e3, e4, e5⟩ := cel6 HAT.out.xb; obtain ⟨r0, r1, r2, r3, r4, r5, r6, r7, r8, r9⟩ := celz HAT.out.rb
 have rf := blk_free HAT.out.rb; have sf := blk_free HAT.out.sb; unfold dsL Stmt.val
 have t7 : (s.kind == 7) = false := by simp [h7]
 obtain ⟨i, hi⟩ := hname; have hil := lastIdx_lt hi; have HLI := Lib.hid hi; have HP := Lib.hid (show placeP S.names s.name = (i : Int) by unfold placeP; rw [hi])
 have hiv : i < S.vals.length := by have := HD.out.eq; omega
 have hiV : (i : Int) < (V.n : Int) := by have := HD.out.vn; omega
 have hi0 : (0 : Int) ≤ (i : Int) := by omega
 obtain ⟨gv, eg, _⟩ := HD.out.vals.cellA (nums_get hiv); have hgb := HD.out.fv gv (by rw [eg]; rfl)
 have HIV := Lib.hid hiv; have HEG := Lib.hid eg; have HSL := Lib.hid (show S.names.length ≤ 1000000000 by have := HF.out.sz.n; have := HF.out.tk; have := HF.out.b0; omega)
 have HPC := Lib.hid (fun w' (h : Row w' 9 1 (.slice N.a N.n N.c) N.n (strs S.names)) => by
  have q := place_calls S.names s.name (.slice N.a N.n N.c) w' HSL.out (by rw [← HD.out.nn]; exact h)
  rwa [HP.out] at q)
 clear hi hil hiv eg HP; have HK2 := Lib.hid hK; have t1 : (s.kind == 1) = false := by simp [hK]
 have t2 : (s.kind == 2) = true := by simp [hK]
 have t3 : (s.kind == 3) = false := by simp [hK]
 have t4 : (s.kind == 4) = false := by simp [hK]
 have t5 : (s.kind == 5) = false := by simp [hK]
 have t6 : (s.kind == 6) = false := by simp [hK]
 have t8 : (s.kind == 8) = false := by simp [hK]
 have t9 : (s.kind == 9) = false := by simp [hK]
 have HFK := Lib.hid (HF.out.tick hs); have HT := Lib.hid (fun w' => tick_more HF.out hs N V M O I w')
 rw [s.rightB_eq nameB d] at hr; simp only [Bool.and_eq_true, headB, decide_eq_true_eq] at hr
 obtain ⟨⟨⟨⟨⟨⟨⟨⟨_, hlen⟩, _⟩, _⟩, _⟩, _⟩, hra⟩, hrb⟩, hre⟩ := hr; have h64a := Stmt.in64_args h64; have hj0 : 0 < s.args.length := by omega
 have hga0 : s.args.getD 0 default = s.args[0]'hj0 := by simp [List.getD, hj0]
 have hra0 := Expr.rightsB_all hra (s.args[0]'hj0) (List.getElem_mem hj0); have h640 := Expr.in64_mem h64a (List.getElem_mem hj0); obtain ⟨a0, ha0⟩ : ∃ x, s.args[0]'hj0 = x := ⟨_, rfl⟩
 have HAX0 := Lib.hid (fun w' (hb : Below W.heap.size W w') => Expr.at hrd hb hj0)
 rw [ha0] at hga0 hra0 h640 HAX0; have hj0' : (0 : Int) < (s.args.length : Int) := by omega
 have g1 : ¬ (1 < (s.args.length : Int)) := by omega
 rw [hga0] at hx0 hfd0; have HV0 := Lib.hid (fun A' c' (h5 : Expr.rds W a0.args A' 0) w' (hb : Below W.heap.size W w') (hr' : RdS w' S.tick N V M) => dvalue_calls W S.tick HFK.out.i64 a0.nodes a0 A' c' 1 (Nat.le_refl _) h5 hra0 h640 hfd0 N V M O I S.tick.ticks (B - S.tick.ticks) w' hb hr')
 unfold dsL at HV0; unfold dsL at HT; clear hK hl hs h64 hrd1 hrd2 hlen hra hrb hre h64a hrd hj0 hga0 hra0 h640 ha0 hfd0; go_enter Try.func59, Try.ntmps59
 go_wp2_with (have tk := HW; clear tk; rw [HW.out]; clear HW)
 refine (HT.out _).mono ?_; rintro y w1 ⟨rfl, hb1⟩; have hat := HAT.out.next hws hb1; have hdo := HD.out.below hb1; have HAT1 := Lib.hid hat; have HD1 := Lib.hid hdo; clear s0 s1 s2 s3 s4 s5 s6 s7 s8 s9 e0 e1 e2 e3 e4 e5 r0 r1 r2 r3 r4 r5 r6 r7 r8 r9 rf sf hat hdo hb1; obtain ⟨s0, s1, s2, s3, s4, s5, s6, s7, s8, s9⟩ := cel10 HAT1.out.sb; obtain ⟨e0, e1, e2, e3, e4, e5⟩ := cel6 HAT1.out.xb; obtain ⟨r0, r1, r2, r3, r4, r5, r6, r7, r8, r9⟩ := celz HAT1.out.rb; have rf := blk_free HAT1.out.rb; have sf := blk_free HAT1.out.sb; go_wp2_with fail; have hat := (HAT1.out.put hws N V M O I (0) (0) S.tick.ticks (B - S.tick.ticks) false)
 have hdo := (docPut HD1.out HAT1.out N V M O I (0) (0) S.tick.ticks (B - S.tick.ticks) false).tick; obtain ⟨w2, hw2⟩ : ∃ wx, put10 w1 w.heap.size N V M O I (0) (0) S.tick.ticks (B - S.tick.ticks) false = wx := ⟨_, rfl⟩
 rw [hw2] at hat hdo; unfold put10 at hw2; rw [hw2]; have HAT2 := Lib.hid hat; have HD2 := Lib.hid hdo; clear s0 s1 s2 s3 s4 s5 s6 s7 s8 s9 e0 e1 e2 e3 e4 e5 r0 r1 r2 r3 r4 r5 r6 r7 r8 r9 rf sf hat hw2 hdo; obtain ⟨s0, s1, s2, s3, s4, s5, s6, s7, s8, s9⟩ := cel10 HAT2.out.sb; obtain ⟨e0, e1, e2, e3, e4, e5⟩ := cel6 HAT2.out.xb; obtain ⟨r0, r1, r2, r3, r4, r5, r6, r7, r8, r9⟩ := celz HAT2.out.rb; have rf := blk_free HAT2.out.rb; have sf := blk_free HAT2.out.sb; obtain ⟨ba0, oa0, B0, d0, hA0, hba0, m0, m1, m2, m3, m4, _, _, hr5⟩ := HAX0.out w2 HAT2.out.below; simp only [Nat.zero_mul, Nat.one_mul, Nat.add_zero] at m0 m1 m2 m3 m4
 subst hA0; have HE0 := Lib.hid (HV0.out B0 d0 hr5 w2.drew HAT2.out.drew.below ((HD2.out.below (Below.refl _ _).drew).reads HFK.out)); rw [hx0] at HE0; clear hr5; refine wp_region_noPanic ?_; refine wp_region_held_drew (S := KeepS (w.heap.size) w2) (by kernel_rfl) (KeepS.drew _ _) (fun hHeld => ?_)
 refine tkP 1 22 (.pointer (some ⟨w.heap.size + 1, 3, none⟩)) ?_; refine tkP 2 23 (.slice (some ⟨ba0, oa0, none⟩) s.args.length c0) ?_ (hy := Or.inl ⟨by rfl, fun U hU => by have q := hU.cell e3 (by omega); clear e3; go_simp⟩)
 refine tkP 3 24 (.pointer (some ⟨ba0, oa0, none⟩)) ?_; refine tkP 4 25 (.agg #[.int .i64 a0.kind, .int .i64 a0.num, .string a0.name, .int .i64 a0.op, .slice B0 a0.args.length d0]) ?_ (hy := Or.inl ⟨by rfl, fun U hU => by have q0 := hU.cell m0 (by omega); have q1 := hU.cell m1 (by omega); have q2 := hU.cell m2 (by omega); have q3 := hU.cell m3 (by omega); have q4 := hU.cell m4 (by omega); clear m0 m1 m2 m3 m4; go_simp⟩)
 refine rd1 0 (some 21) fun K hK => ?_
 go_simp; refine bk hK (hHeld) fun q => ?_; clear hK K hHeld; have hHeld := q; clear q
 refine rd1 5 (some 26) fun K hK => ?_
 go_simp; refine (HE0.out).mono ?_; rintro y w8 ⟨hb8, hy⟩; simp only [dsL] at hy
 subst hy; have hbc8 : Below w2.heap.size w2 w8 := below_fromdrew hb8
 have hat8 := HAT2.out.next hws hbc8; obtain ⟨z0, z1, z2, z3, z4, z5, z6, z7, z8, z9⟩ := cel10 hat8.sb; have zf := blk_free hat8.sb; refine bk hK ((KeepS.drew _ w2).below hb8) fun q => ?_; clear hK K hHeld; have hHeld := q; clear q
 refine tkP 6 20 (.tuple #[.agg #[.slice N.a N.n N.c, .slice V.a V.n V.c, .slice M.a M.n M.c, .slice O.a O.n O.c, .slice I.a I.n I.c, .int .i64 (0), .int .i64 (0), .int .i64 S.tick.ticks, .int .i64 (B - S.tick.ticks), .bool false], .int .i64 u0]) ?_; refine tkP 7 27 (.agg #[.slice N.a N.n N.c, .slice V.a V.n V.c, .slice M.a M.n M.c, .slice O.a O.n O.c, .slice I.a I.n I.c, .int .i64 (0), .int .i64 (0), .int .i64 S.tick.ticks, .int .i64 (B - S.tick.ticks), .bool false]) ?_; refine tkP 8 28 (.int .i64 u0) ?_; refine rd1 9 none fun K hK => ?_
 go_simp; refine bk hK (((KeepS.drew _ w2).below hb8).put N V M O I (0) (0) S.tick.ticks (B - S.tick.ticks) false) fun q => ?_; clear hK K hHeld; have hHeld := q; clear q
 refine tkP 10 5 (.int .i64 u0) ?_; refine wpAnyH_done (by kernel_rfl) ?_ _
 refine NoPanic.normal ?_; clear z0 z1 z2 z3 z4 z5 z6 z7 z8 z9 zf; have hat := (hat8.put hws N V M O I (0) (0) S.tick.ticks (B - S.tick.ticks) false); have hdo := HD2.out.below hbc8 |>.put10 hat8.sb N V M O I (0) (0) S.tick.ticks (B - S.tick.ticks) false
 obtain ⟨w3, hw3⟩ : ∃ wx, put10 w8 w.heap.size N V M O I (0) (0) S.tick.ticks (B - S.tick.ticks) false = wx := ⟨_, rfl⟩
 rw [hw3] at hat hdo; unfold put10 at hw3; rw [hw3]; have HAT3 := Lib.hid hat; have HD3 := Lib.hid hdo; clear s0 s1 s2 s3 s4 s5 s6 s7 s8 s9 e0 e1 e2 e3 e4 e5 r0 r1 r2 r3 r4 r5 r6 r7 r8 r9 rf sf hat hw3 hdo; obtain ⟨s0, s1, s2, s3, s4, s5, s6, s7, s8, s9⟩ := cel10 HAT3.out.sb; obtain ⟨e0, e1, e2, e3, e4, e5⟩ := cel6 HAT3.out.xb; obtain ⟨r0, r1, r2, r3, r4, r5, r6, r7, r8, r9⟩ := celz HAT3.out.rb; have rf := blk_free HAT3.out.rb; have sf := blk_free HAT3.out.sb; go_wp2_with fail; refine (HPC.out w3 HD3.out.names).mono ?_; rintro y w5 ⟨rfl, hw5⟩; rw [hw5]; clear hw5 w5; obtain ⟨g9, e9, x9⟩ := HD3.out.vals.cellA (nums_get HIV.out)
 have hm9 := HD3.out.vals; rw [HEG.out] at e9 hm9; simp only [Option.some.injEq, Addr.mk.injEq] at e9
 obtain ⟨rfl, _⟩ := e9; obtain ⟨cu9, hb9⟩ := Row.blkAt hm9; have f9 := blk_free hb9 i; have n1 : gv ≠ w.heap.size := fun e => by subst e; have q := HAT3.out.sb; rw [hb9] at q; injection q with q; injection q with _ q; exact absurd q (by decide)
 have n3 : gv ≠ w.heap.size + 1 + 1 := fun e => by have q := HAT3.out.rb; rw [← e, hb9] at q; injection q with q; injection q with _ q; exact absurd q (by decide)
 have n1' := Ne.symm n1; have n3' := Ne.symm n3; have HB9 := Lib.hid hb9; have eg := HEG.out; clear hm9 hb9; go_wp2; have hdv : (doV S.tick s u0 0).1 = { S.tick with vals := S.tick.vals.set i u0 } := by unfold doV; rw [if_neg (by have := HK2.out; omega), if_pos HK2.out, show lastIdx S.tick.names s.name = some i from HLI.out]
 rw [hdv]; have hfin := LoR.done (B := B) (S := S) (S' := { S.tick with vals := S.tick.vals.set i u0 }) (LoR.own HAT3.out.res (i := i) HB9.out hgb (.int .i64 u0)) hws (HD3.out.setVal HEG.out i u0)
 obtain ⟨w99, hw99⟩ : ∃ wx, put10 (w3.setCell ⟨gv, i, none⟩ (.int .i64 u0)) (w.heap.size + 1 + 1) N V M O I (0) (0) S.tick.ticks (B - S.tick.ticks) false = wx := ⟨_, rfl⟩
 try dsimp only at hfin
 rw [hw99] at hfin; unfold put10 at hw99; simp only [HEG.out] at hw99
 rw [hw99]; exact bodyPost_ret (results_ds rfl _ _ (w.heap.size + 1 + 1) N V M O I (0) (0) S.tick.ticks (B - S.tick.ticks) false (by rfl) hfin.1) rfl hfin.2
end Go.Proofs.Ytjlnpppjkdcpkaa.My
