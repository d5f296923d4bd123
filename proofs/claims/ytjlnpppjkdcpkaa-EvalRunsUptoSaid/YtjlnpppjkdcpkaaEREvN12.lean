/- The document's way through a statement: a name declared. Conditions: as9 XEvN5. -/
import Derived.Test.YtjlnpppjkdcpkaaEREvNs
import Derived.Test.YtjlnpppjkdcpkaaEREvN8
import Derived.Test.YtjlnpppjkdcpkaaEREvO
namespace Go.Proofs.Ytjlnpppjkdcpkaa.My
open Go.RowKit Go.Proofs.Ytjlnpppjkdcpkaa.NumA
set_option linter.unusedVariables false
set_option linter.unusedSimpArgs false
variable {W w : World} {s : Stmt} {A0 A1 A2 : Option Addr} {c0 c1 c2 : Nat} {N V M O I : Rw} {ov va tk lf : Int} {e : Bool} {wz : World}
theorem Row.grownKeep {w w' : World} {t : TypeId} {z n : Nat} {v : Value} {xs : List Value} {row : Option Nat} (h : Row w t z v n xs) (hk : w.grownBy w' row) (hn : ∀ g, v.ownBlock = some g → row ≠ some g) : Row w' t z v n xs := h.keep fun g hg => hk.block g (h.lt hg) (fun e => hn g hg e.symm)
theorem KeepS.ofB (T : Nat) {w U : World} (h : Below w.heap.size w U) : KeepS T w U := ⟨h.size, fun q _ hl => h.block q hl⟩
theorem LoB.set0 (h : LoB W w s A0 c0 A1 c1 A2 c2 N V M O I ov va tk lf e wz) (hw : W.heap.size ≤ w.heap.size) (N' : Rw) : LoB W w s A0 c0 A1 c1 A2 c2 N' V M O I ov va tk lf e (wz.setCell ⟨w.heap.size, 0, none⟩ (.slice N'.a N'.n N'.c)) :=
 ⟨h.below.setCell hw _, h.fr.set (Nat.le_refl _) _ _, blk_set h.sb 0 _, blk_far h.xb (show w.heap.size + 1 ≠ w.heap.size by omega) _, blk_far h.rb (show w.heap.size + 1 + 1 ≠ w.heap.size by omega) _⟩
theorem LoB.set1 (h : LoB W w s A0 c0 A1 c1 A2 c2 N V M O I ov va tk lf e wz) (hw : W.heap.size ≤ w.heap.size) (V' : Rw) : LoB W w s A0 c0 A1 c1 A2 c2 N V' M O I ov va tk lf e (wz.setCell ⟨w.heap.size, 1, none⟩ (.slice V'.a V'.n V'.c)) :=
 ⟨h.below.setCell hw _, h.fr.set (Nat.le_refl _) _ _, blk_set h.sb 1 _, blk_far h.xb (show w.heap.size + 1 ≠ w.heap.size by omega) _, blk_far h.rb (show w.heap.size + 1 + 1 ≠ w.heap.size by omega) _⟩
/-- two rows made anew, of the names and of their numbers -/
theorem DocAt.pushVar {w : World} {base K : Nat} {S : Ev} {A B : Option Addr} {a b : Nat} {x : ByteArray} {u : Int} (h : DocAt w base S N V M O I) (hbk : base ≤ K) (hm : ∀ g, (Value.slice M.a M.n M.c).ownBlock = some g → g < K) (ho : ∀ g, (Value.slice O.a O.n O.c).ownBlock = some g → g < K)
  (hn : Row w 9 1 (.slice A (N.n + 1) a) (N.n + 1) (strs S.names ++ [.string x])) (hv : Row w 2 1 (.slice B (V.n + 1) b) (V.n + 1) (nums S.vals ++ [.int .i64 u])) (hf : ∀ g, (Value.slice B (V.n + 1) b).ownBlock = some g → K ≤ g) :
  DocAt w base { S with names := S.names ++ [x], vals := S.vals ++ [u] } ⟨A, N.n + 1, a⟩ ⟨B, V.n + 1, b⟩ M O I := by
 refine ⟨by simp [h.nn], by simp [h.vn], h.mn, h.oo, h.ii, ?_, ?_, h.mem, h.outs, h.intos, fun g hg => Nat.le_trans hbk (hf g hg), h.fm, h.fo, h.fi, fun g hg h2 => ?_, fun g hg h2 => ?_, h.mo, by simp [h.eq]⟩
 ·show Row _ _ _ _ _ (strs (S.names ++ [x]))
  rw [show strs (S.names ++ [x]) = strs S.names ++ [.string x] by simp [strs]]
  exact hn
 ·show Row _ _ _ _ _ (nums (S.vals ++ [u]))
  rw [show nums (S.vals ++ [u]) = nums S.vals ++ [.int .i64 u] by simp [nums]]
  exact hv
 ·have := hm g h2
  have := hf g hg
  omega
 ·have := ho g h2
  have := hf g hg
  omega
set_option maxRecDepth 100000 in
set_option maxHeartbeats 8000000 in
theorem one_var (W : World) (B : Int) (s : Stmt) (S : Ev) {u0 : Int} (h7 : s.kind ≠ 7) (hs : S.ticks ≠ B) (hl : s.args.length = 1) (hfd0 : ∀ u, exprV S.tick (s.args.getD 0 default) ≠ .left 0 u) (hx0 : exprV S.tick (s.args.getD 0 default) = .ok u0) (hK : s.kind = 1) : StmtC W B s S { S.tick with names := S.tick.names ++ [s.name], vals := S.tick.vals ++ [u0] } none := by
 intro A0 c0 A1 c1 A2 c2 d hrd hrd1 hrd2 hr h64 hnl w N V M O I hB hD hF; have hws := hB.size; obtain ⟨w0, hw0, hat, hdo⟩ := LoB.begin (s := s) (A0 := A0) (c0 := c0) (A1 := A1) (c1 := c1) (A2 := A2) (c2 := c2) hB hD S.ticks (B - S.ticks); have HAT := Lib.hid hat; have HD := Lib.hid hdo; have HF := Lib.hid hF; have HB := Lib.hid hB; have HCP := Lib.hid hD.caps; have HW := Lib.hid hw0; have HR64 := Lib.hid (And.intro hr h64); clear hat hdo hB hD hF hw0 ; obtain ⟨s0, s1, s2, s3, s4, s5, s6, s7, s8, s9⟩ := cel10 HAT.out.sb; obtain ⟨e0, e1, e2, e3, e4, e5⟩ := cel6 HAT.out.xb; obtain ⟨r0, r1, r2, r3, r4, r5, r6, r7, r8, r9⟩ := celz HAT.out.rb
 have rf := blk_free HAT.out.rb; have sf := blk_free HAT.out.sb; unfold dsL Stmt.val
 have t7 : (s.kind == 7) = false := by simp [h7]
 have hnl1 : N.n ≤ 1000010 := by have := HD.out.nn; have := HF.out.sz.n; have := HF.out.tk; have := HF.out.b0; omega
 have t1 : (s.kind == 1) = true := by simp [hK]
 have t2 : (s.kind == 2) = false := by simp [hK]
 have t3 : (s.kind == 3) = false := by simp [hK]
 have t4 : (s.kind == 4) = false := by simp [hK]
 have t5 : (s.kind == 5) = false := by simp [hK]
 have t6 : (s.kind == 6) = false := by simp [hK]
 have t8 : (s.kind == 8) = false := by simp [hK]
 have t9 : (s.kind == 9) = false := by simp [hK]
 have HFK := Lib.hid (HF.out.tick hs); have HT := Lib.hid (fun w' => tick_more HF.out hs N V M O I w')
 rw [s.rightB_eq nameB d] at hr; simp only [Bool.and_eq_true, headB, decide_eq_true_eq] at hr
 obtain ⟨⟨⟨⟨⟨⟨⟨⟨_, hlen⟩, _⟩, _⟩, _⟩, _⟩, hra⟩, hrb⟩, hre⟩ := hr; have h64a := Stmt.in64_args h64; have hj0 : 0 < s.args.length := by omega
 have hga0 : s.args.getD 0 default = s.args[0]'hj0 := by simp [List.getD, hj0]
 have hra0 := Expr.rightsB_all hra (s.args[0]'hj0) (List.getElem_mem hj0); have h640 := Expr.in64_mem h64a (List.getElem_mem hj0); obtain ⟨a0, ha0⟩ : ∃ x, s.args[0]'hj0 = x := ⟨_, rfl⟩
 have HAX0 := Lib.hid (fun w' (hb : Below W.heap.size W w') => Expr.at hrd hb hj0)
 rw [ha0] at hga0 hra0 h640 HAX0; have hj0' : (0 : Int) < (s.args.length : Int) := by omega
 have g1 : ¬ (1 < (s.args.length : Int)) := by omega
 rw [hga0] at hx0 hfd0; have HV0 := Lib.hid (fun A' c' (h5 : Expr.rds W a0.args A' 0) w' (hb : Below W.heap.size W w') (hr' : RdS w' S.tick N V M) => dvalue_calls W S.tick HFK.out.i64 a0.nodes a0 A' c' 1 (Nat.le_refl _) h5 hra0 h640 hfd0 N V M O I S.tick.ticks (B - S.tick.ticks) w' hb hr')
 unfold dsL at HV0; unfold dsL at HT; clear hK hl hs h64 hrd1 hrd2 hlen hra hrb hre h64a hrd hj0 hga0 hra0 h640 ha0 hfd0; go_enter Try.func59, Try.ntmps59
 go_wp2_with (have tk := HW; clear tk; rw [HW.out]; clear HW)
 refine (HT.out _).mono ?_; rintro y w1 ⟨rfl, hb1⟩; have hat := HAT.out.next hws hb1; have hdo := HD.out.below hb1; have HAT1 := Lib.hid hat; have HD1 := Lib.hid hdo; clear s0 s1 s2 s3 s4 s5 s6 s7 s8 s9 e0 e1 e2 e3 e4 e5 r0 r1 r2 r3 r4 r5 r6 r7 r8 r9 rf sf hat hdo hb1; obtain ⟨s0, s1, s2, s3, s4, s5, s6, s7, s8, s9⟩ := cel10 HAT1.out.sb; obtain ⟨e0, e1, e2, e3, e4, e5⟩ := cel6 HAT1.out.xb; obtain ⟨r0, r1, r2, r3, r4, r5, r6, r7, r8, r9⟩ := celz HAT1.out.rb; have rf := blk_free HAT1.out.rb; have sf := blk_free HAT1.out.sb; go_wp2_with fail; have hat := (HAT1.out.put hws N V M O I (0) (0) S.tick.ticks (B - S.tick.ticks) false)
 have hdo := (docPut HD1.out HAT1.out N V M O I (0) (0) S.tick.ticks (B - S.tick.ticks) false).tick; obtain ⟨w2, hw2⟩ : ∃ wx, put10 w1 w.heap.size N V M O I (0) (0) S.tick.ticks (B - S.tick.ticks) false = wx := ⟨_, rfl⟩
 rw [hw2] at hat hdo; unfold put10 at hw2; rw [hw2]; have HAT2 := Lib.hid hat; have HD2 := Lib.hid hdo; clear s0 s1 s2 s3 s4 s5 s6 s7 s8 s9 e0 e1 e2 e3 e4 e5 r0 r1 r2 r3 r4 r5 r6 r7 r8 r9 rf sf hat hw2 hdo; obtain ⟨s0, s1, s2, s3, s4, s5, s6, s7, s8, s9⟩ := cel10 HAT2.out.sb; obtain ⟨e0, e1, e2, e3, e4, e5⟩ := cel6 HAT2.out.xb; obtain ⟨r0, r1, r2, r3, r4, r5, r6, r7, r8, r9⟩ := celz HAT2.out.rb; have rf := blk_free HAT2.out.rb; have sf := blk_free HAT2.out.sb; obtain ⟨ba0, oa0, B0, d0, hA0, hba0, m0, m1, m2, m3, m4, _, _, hr5⟩ := HAX0.out w2 HAT2.out.below; simp only [Nat.zero_mul, Nat.one_mul, Nat.add_zero] at m0 m1 m2 m3 m4
 subst hA0; have HE0 := Lib.hid (HV0.out B0 d0 hr5 w2.drew HAT2.out.drew.below ((HD2.out.below (Below.refl _ _).drew).reads HFK.out)); rw [hx0] at HE0; clear hr5; refine wp_region_noPanic ?_; refine wp_region_held_drew (S := KeepS (w.heap.size) w2) (by kernel_rfl) (KeepS.drew _ _) (fun hHeld => ?_)
 refine tkP 1 22 (.pointer (some ⟨w.heap.size + 1, 3, none⟩)) ?_; refine tkP 2 23 (.slice (some ⟨ba0, oa0, none⟩) s.args.length c0) ?_ (hy := Or.inl ⟨by rfl, fun U hU => by have q := hU.cell e3 (by omega); clear e3; go_simp⟩)
 refine tkP 3 24 (.pointer (some ⟨ba0, oa0, none⟩)) ?_; refine tkP 4 25 (.agg #[.int .i64 a0.kind, .int .i64 a0.num, .string a0.name, .int .i64 a0.op, .slice B0 a0.args.length d0]) ?_ (hy := Or.inl ⟨by rfl, fun U hU => by have q0 := hU.cell m0 (by omega); have q1 := hU.cell m1 (by omega); have q2 := hU.cell m2 (by omega); have q3 := hU.cell m3 (by omega); have q4 := hU.cell m4 (by omega); clear m0 m1 m2 m3 m4; go_simp⟩)
 refine rd1 0 (some 21) fun K hK => ?_
 go_simp; refine bk hK (hHeld) fun q => ?_; clear hK K hHeld; have hHeld := q; clear q
 refine rd1 5 (some 26) fun K hK => ?_
 go_simp; refine (HE0.out).mono ?_; rintro y w8 ⟨hb8, hy⟩; simp only [dsL] at hy
 subst hy; have hbc8 : Below w2.heap.size w2 w8 := below_fromdrew hb8
 have hat8 := HAT2.out.next hws hbc8; obtain ⟨z0, z1, z2, z3, z4, z5, z6, z7, z8, z9⟩ := cel10 hat8.sb; have zf := blk_free hat8.sb; refine bk hK ((KeepS.drew _ w2).below hb8) fun q => ?_; clear hK K hHeld; have hHeld := q; clear q
 refine tkP 6 20 (.tuple #[.agg #[.slice N.a N.n N.c, .slice V.a V.n V.c, .slice M.a M.n M.c, .slice O.a O.n O.c, .slice I.a I.n I.c, .int .i64 (0), .int .i64 (0), .int .i64 S.tick.ticks, .int .i64 (B - S.tick.ticks), .bool false], .int .i64 u0]) ?_; refine tkP 7 27 (.agg #[.slice N.a N.n N.c, .slice V.a V.n V.c, .slice M.a M.n M.c, .slice O.a O.n O.c, .slice I.a I.n I.c, .int .i64 (0), .int .i64 (0), .int .i64 S.tick.ticks, .int .i64 (B - S.tick.ticks), .bool false]) ?_; refine tkP 8 28 (.int .i64 u0) ?_; refine rd1 9 none fun K hK => ?_
 go_simp; refine bk hK (((KeepS.drew _ w2).below hb8).put N V M O I (0) (0) S.tick.ticks (B - S.tick.ticks) false) fun q => ?_; clear hK K hHeld; have hHeld := q; clear q
 refine tkP 10 5 (.int .i64 u0) ?_; refine wpAnyH_done (by kernel_rfl) ?_ _
 refine NoPanic.normal ?_; clear z0 z1 z2 z3 z4 z5 z6 z7 z8 z9 zf; have hat := (hat8.put hws N V M O I (0) (0) S.tick.ticks (B - S.tick.ticks) false); have hdo := HD2.out.below hbc8 |>.put10 hat8.sb N V M O I (0) (0) S.tick.ticks (B - S.tick.ticks) false
 obtain ⟨w3, hw3⟩ : ∃ wx, put10 w8 w.heap.size N V M O I (0) (0) S.tick.ticks (B - S.tick.ticks) false = wx := ⟨_, rfl⟩
 rw [hw3] at hat hdo; unfold put10 at hw3; rw [hw3]; have HAT3 := Lib.hid hat; have HD3 := Lib.hid hdo; clear s0 s1 s2 s3 s4 s5 s6 s7 s8 s9 e0 e1 e2 e3 e4 e5 r0 r1 r2 r3 r4 r5 r6 r7 r8 r9 rf sf hat hw3 hdo; obtain ⟨s0, s1, s2, s3, s4, s5, s6, s7, s8, s9⟩ := cel10 HAT3.out.sb; obtain ⟨e0, e1, e2, e3, e4, e5⟩ := cel6 HAT3.out.xb; obtain ⟨r0, r1, r2, r3, r4, r5, r6, r7, r8, r9⟩ := celz HAT3.out.rb; have rf := blk_free HAT3.out.rb; have sf := blk_free HAT3.out.sb; go_wp2_with fail; have hBw := (Below.refl w3.heap.size w3).drew; refine wp_region_held_drew (S := KeepS w.heap.size w3) (by kernel_rfl) (KeepS.drew _ _) (fun hHeld => ?_)
 refine tkP 1 50 (.pointer (some ⟨w.heap.size, 0, none⟩)) ?_; refine tkP 4 53 (.pointer (some ⟨w.heap.size + 1, 1, none⟩)) ?_; refine tkP 5 54 (.string s.name) ?_ (hy := Or.inl ⟨by rfl, fun U hU => by have q := hU.cell e1 (by omega); clear e1; go_simp⟩)
 refine wpAnyH_ready (rs := [0, 2, 6]) (by kernel_rfl) (by simp) ?_
 refine AllReadyH.cons (o := ⟨some 49, _, _, _, _, _⟩) rfl (fun K hK => ?_) ?_
 focus
  go_simp; have HE0 := Lib.hid (Row.laid (w := w3) (g := w3.heap.size) (n := 0) (cs := #[]) (e := 9) (size := 1) rfl rfl (by decide)).drewed
  replace hBw : Below w3.heap.size w3 (w3.alloc (.cells #[] 9)).drew := hBw.al (o := .cells #[] 9)
  refine bk hK (KeepS.ofB _ hBw) fun q => ?_; clear hK K hHeld; have hHeld := q; clear q
  refine wpAnyH_ready (rs := [2, 6]) (by kernel_rfl) (by simp) ?_
  refine AllReadyH.cons (o := ⟨some 51, _, _, _, _, _⟩) rfl (fun K hK => ?_) ?_
  focus
   have q9 := hBw.cellOf s0; go_simp; clear q9; refine bk hK (hHeld) fun q => ?_; clear hK K hHeld; have hHeld := q; clear q
   refine wpAnyH_ready (rs := [3, 6]) (by kernel_rfl) (by simp) ?_
   refine AllReadyH.cons (o := ⟨some 52, _, _, _, _, _⟩) rfl (fun K hK => ?_) ?_
   focus
    refine step_append_rows (by rfl) _ _ 78 (by rfl) 9 (.string ⟨#[]⟩) 1 16 Try.underlying78 info_string rfl (.slice (some ⟨w3.heap.size, 0, none⟩) 0 0) (0) ([]) (by rfl) (HE0.out) (.slice N.a N.n N.c) (N.n) (strs S.tick.names) (by rfl) (HD3.out.names.below hBw) (row_oneS _) (by unfold maxLen; omega) (by omega) ?_
    intro v4 w4 hr4 hg4 hn4; rw [Nat.zero_add, List.nil_append] at hr4; obtain ⟨A4, d4, hv4, _⟩ := hr4.slice; subst hv4; have hX4 := Below.grown hBw hg4 hBw.size (by intro k hk; simp [Value.ownBlock] at hk; omega)
    have hY4 : ∀ g, (Value.slice A4 N.n d4).ownBlock = some g → w3.heap.size ≤ g := by intro g hg; have hz := hBw.size; rcases hn4 with h | h <;> rw [h] at hg <;> simp [Value.ownBlock] at hg <;> omega
    replace hBw := hX4; refine bk hK (KeepS.ofB _ hX4) fun q => ?_; clear hK K hHeld; have hHeld := q; clear q
    refine rd1 6 (some 55) fun K hK => ?_
    go_simp; have HL := Lib.hid (Row.laid (w := w4) (g := w4.heap.size) (n := 1) (cs := #[.string s.name]) (e := 9) (size := 1) rfl rfl (by decide))
    have HR4 := Lib.hid (hr4.alloc (.cells #[.string s.name] 9)); replace hBw : Below w3.heap.size w3 (w4.alloc (.cells #[.string s.name] 9)) := hBw.al (o := .cells #[.string s.name] 9)
    refine bk hK (KeepS.ofB _ hBw) fun q => ?_; clear hK K hHeld; have hHeld := q; clear q
    refine rd1 7 (some 56) fun K hK => ?_
    refine step_append_rows (by rfl) _ _ 78 (by rfl) 9 (.string ⟨#[]⟩) 1 16 Try.underlying78 info_string rfl (.slice A4 N.n d4) (N.n) (strs S.tick.names) (by rfl) (HR4.out) (.slice (some ⟨w4.heap.size, 0, none⟩) 1 1) (1) ([.string s.name]) (by rfl) (HL.out) (by simp [Value.oneCell']) (by unfold maxLen; omega) (by omega) ?_
    intro v5 w5 hr5 hg5 hn5; obtain ⟨A5, d5, hv5, _⟩ := hr5.slice; subst hv5; have hX5 := Below.grown hBw hg5 hBw.size hY4; have hY5 : ∀ g, (Value.slice A5 (N.n + 1) d5).ownBlock = some g → w3.heap.size ≤ g := by intro g hg; have hz := hBw.size; rcases hn5 with h | h <;> rw [h] at hg <;> first | exact hY4 g hg | (simp [Value.ownBlock] at hg; (try simp at hz); omega)
    have zb := below_blk hX5 HAT3.out.sb (blk_lt HAT3.out.sb); have z0 := blk_cell zb 0; have zf := blk_free zb; clear hBw; refine bk hK (KeepS.ofB _ hX5) fun q => ?_; clear hK K hHeld; have hHeld := q; clear q
    refine tkP 8 57 (.pointer (some ⟨w.heap.size, 0, none⟩)) ?_; refine rd1 9 none fun K hK => ?_
    go_simp; refine bk hK ((KeepS.ofB _ hX5).set _ _) fun q => ?_; clear hK K hHeld; have hHeld := q; clear q
    refine wpAnyH_done (by kernel_rfl) ?_ _
    have WFIN := True.intro
   rotate_left 1; refine AllReadyH.cons (o := ⟨some 55, _, _, _, _, _⟩) rfl (fun K hK => ?_) AllReadyH.nil
   focus
    go_simp; have HL0 := Lib.hid (Row.laid (w := w3.alloc (.cells #[] 9)) (g := w3.heap.size + 1) (n := 1) (cs := #[.string s.name]) (e := 9) (size := 1) (size_al _ _) rfl (by decide)).drewed
    replace HE0 := Lib.hid ((Row.laid (w := w3) (g := w3.heap.size) (n := 0) (cs := #[]) (e := 9) (size := 1) rfl rfl (by decide)).alloc (.cells #[.string s.name] 9)).drewed
    replace hBw : Below w3.heap.size w3 ((w3.alloc (.cells #[] 9)).alloc (.cells #[.string s.name] 9)).drew := hBw.al (o := .cells #[.string s.name] 9)
    refine bk hK (KeepS.ofB _ hBw) fun q => ?_; clear hK K hHeld; have hHeld := q; clear q
    refine rd1 3 (some 52) fun K hK => ?_
    refine step_append_rows (by rfl) _ _ 78 (by rfl) 9 (.string ⟨#[]⟩) 1 16 Try.underlying78 info_string rfl (.slice (some ⟨w3.heap.size, 0, none⟩) 0 0) (0) ([]) (by rfl) (HE0.out) (.slice N.a N.n N.c) (N.n) (strs S.tick.names) (by rfl) (HD3.out.names.below hBw) (row_oneS _) (by unfold maxLen; omega) (by omega) ?_
    intro v4 w4 hr4 hg4 hn4; rw [Nat.zero_add, List.nil_append] at hr4; obtain ⟨A4, d4, hv4, _⟩ := hr4.slice; subst hv4; have hX4 := Below.grown hBw hg4 hBw.size (by intro k hk; simp [Value.ownBlock] at hk; omega)
    have hY4 : ∀ g, (Value.slice A4 N.n d4).ownBlock = some g → w3.heap.size ≤ g := by intro g hg; have hz := hBw.size; rcases hn4 with h | h <;> rw [h] at hg <;> simp [Value.ownBlock] at hg <;> omega
    have HL := Lib.hid (HL0.out.grownKeep hg4 (by simp [Value.ownBlock]))
    have HR4 := Lib.hid hr4; replace hBw := hX4; refine bk hK (KeepS.ofB _ hX4) fun q => ?_; clear hK K hHeld; have hHeld := q; clear q
    refine rd1 7 (some 56) fun K hK => ?_
    refine step_append_rows (by rfl) _ _ 78 (by rfl) 9 (.string ⟨#[]⟩) 1 16 Try.underlying78 info_string rfl (.slice A4 N.n d4) (N.n) (strs S.tick.names) (by rfl) (HR4.out) (.slice (some ⟨w3.heap.size + 1, 0, none⟩) 1 1) (1) ([.string s.name]) (by rfl) (HL.out) (by simp [Value.oneCell']) (by unfold maxLen; omega) (by omega) ?_
    intro v5 w5 hr5 hg5 hn5; obtain ⟨A5, d5, hv5, _⟩ := hr5.slice; subst hv5; have hX5 := Below.grown hBw hg5 hBw.size hY4; have hY5 : ∀ g, (Value.slice A5 (N.n + 1) d5).ownBlock = some g → w3.heap.size ≤ g := by intro g hg; have hz := hBw.size; rcases hn5 with h | h <;> rw [h] at hg <;> first | exact hY4 g hg | (simp [Value.ownBlock] at hg; (try simp at hz); omega)
    have zb := below_blk hX5 HAT3.out.sb (blk_lt HAT3.out.sb); have z0 := blk_cell zb 0; have zf := blk_free zb; clear hBw; refine bk hK (KeepS.ofB _ hX5) fun q => ?_; clear hK K hHeld; have hHeld := q; clear q
    refine tkP 8 57 (.pointer (some ⟨w.heap.size, 0, none⟩)) ?_; refine rd1 9 none fun K hK => ?_
    go_simp; refine bk hK ((KeepS.ofB _ hX5).set _ _) fun q => ?_; clear hK K hHeld; have hHeld := q; clear q
    refine wpAnyH_done (by kernel_rfl) ?_ _
    have WFIN := True.intro
  rotate_left 2; refine AllReadyH.cons (o := ⟨some 55, _, _, _, _, _⟩) rfl (fun K hK => ?_) AllReadyH.nil
  focus
   go_simp; have HL0 := Lib.hid (Row.laid (w := w3.alloc (.cells #[] 9)) (g := w3.heap.size + 1) (n := 1) (cs := #[.string s.name]) (e := 9) (size := 1) (size_al _ _) rfl (by decide)).drewed
   replace HE0 := Lib.hid ((Row.laid (w := w3) (g := w3.heap.size) (n := 0) (cs := #[]) (e := 9) (size := 1) rfl rfl (by decide)).alloc (.cells #[.string s.name] 9)).drewed
   replace hBw : Below w3.heap.size w3 ((w3.alloc (.cells #[] 9)).alloc (.cells #[.string s.name] 9)).drew := hBw.al (o := .cells #[.string s.name] 9)
   refine bk hK (KeepS.ofB _ hBw) fun q => ?_; clear hK K hHeld; have hHeld := q; clear q
   refine rd1 2 (some 51) fun K hK => ?_
   have q9 := hBw.cellOf s0; go_simp; clear q9; refine bk hK (hHeld) fun q => ?_; clear hK K hHeld; have hHeld := q; clear q
   refine rd1 3 (some 52) fun K hK => ?_
   refine step_append_rows (by rfl) _ _ 78 (by rfl) 9 (.string ⟨#[]⟩) 1 16 Try.underlying78 info_string rfl (.slice (some ⟨w3.heap.size, 0, none⟩) 0 0) (0) ([]) (by rfl) (HE0.out) (.slice N.a N.n N.c) (N.n) (strs S.tick.names) (by rfl) (HD3.out.names.below hBw) (row_oneS _) (by unfold maxLen; omega) (by omega) ?_
   intro v4 w4 hr4 hg4 hn4; rw [Nat.zero_add, List.nil_append] at hr4; obtain ⟨A4, d4, hv4, _⟩ := hr4.slice; subst hv4; have hX4 := Below.grown hBw hg4 hBw.size (by intro k hk; simp [Value.ownBlock] at hk; omega)
   have hY4 : ∀ g, (Value.slice A4 N.n d4).ownBlock = some g → w3.heap.size ≤ g := by intro g hg; have hz := hBw.size; rcases hn4 with h | h <;> rw [h] at hg <;> simp [Value.ownBlock] at hg <;> omega
   have HL := Lib.hid (HL0.out.grownKeep hg4 (by simp [Value.ownBlock]))
   have HR4 := Lib.hid hr4; replace hBw := hX4; refine bk hK (KeepS.ofB _ hX4) fun q => ?_; clear hK K hHeld; have hHeld := q; clear q
   refine rd1 7 (some 56) fun K hK => ?_
   refine step_append_rows (by rfl) _ _ 78 (by rfl) 9 (.string ⟨#[]⟩) 1 16 Try.underlying78 info_string rfl (.slice A4 N.n d4) (N.n) (strs S.tick.names) (by rfl) (HR4.out) (.slice (some ⟨w3.heap.size + 1, 0, none⟩) 1 1) (1) ([.string s.name]) (by rfl) (HL.out) (by simp [Value.oneCell']) (by unfold maxLen; omega) (by omega) ?_
   intro v5 w5 hr5 hg5 hn5; obtain ⟨A5, d5, hv5, _⟩ := hr5.slice; subst hv5; have hX5 := Below.grown hBw hg5 hBw.size hY4; have hY5 : ∀ g, (Value.slice A5 (N.n + 1) d5).ownBlock = some g → w3.heap.size ≤ g := by intro g hg; have hz := hBw.size; rcases hn5 with h | h <;> rw [h] at hg <;> first | exact hY4 g hg | (simp [Value.ownBlock] at hg; (try simp at hz); omega)
   have zb := below_blk hX5 HAT3.out.sb (blk_lt HAT3.out.sb); have z0 := blk_cell zb 0; have zf := blk_free zb; clear hBw; refine bk hK (KeepS.ofB _ hX5) fun q => ?_; clear hK K hHeld; have hHeld := q; clear q
   refine tkP 8 57 (.pointer (some ⟨w.heap.size, 0, none⟩)) ?_; refine rd1 9 none fun K hK => ?_
   go_simp; refine bk hK ((KeepS.ofB _ hX5).set _ _) fun q => ?_; clear hK K hHeld; have hHeld := q; clear q
   refine wpAnyH_done (by kernel_rfl) ?_ _
   have WFIN := True.intro
 rotate_left 3; refine AllReadyH.cons (o := ⟨some 51, _, _, _, _, _⟩) rfl (fun K hK => ?_) ?_
 focus
  have q9 := hBw.cellOf s0; go_simp; clear q9; refine bk hK (hHeld) fun q => ?_; clear hK K hHeld; have hHeld := q; clear q
  refine wpAnyH_ready (rs := [0, 6]) (by kernel_rfl) (by simp) ?_
  refine AllReadyH.cons (o := ⟨some 49, _, _, _, _, _⟩) rfl (fun K hK => ?_) ?_
  focus
   go_simp; have HE0 := Lib.hid (Row.laid (w := w3) (g := w3.heap.size) (n := 0) (cs := #[]) (e := 9) (size := 1) rfl rfl (by decide)).drewed
   replace hBw : Below w3.heap.size w3 (w3.alloc (.cells #[] 9)).drew := hBw.al (o := .cells #[] 9)
   refine bk hK (KeepS.ofB _ hBw) fun q => ?_; clear hK K hHeld; have hHeld := q; clear q
   refine wpAnyH_ready (rs := [3, 6]) (by kernel_rfl) (by simp) ?_
   refine AllReadyH.cons (o := ⟨some 52, _, _, _, _, _⟩) rfl (fun K hK => ?_) ?_
   focus
    refine step_append_rows (by rfl) _ _ 78 (by rfl) 9 (.string ⟨#[]⟩) 1 16 Try.underlying78 info_string rfl (.slice (some ⟨w3.heap.size, 0, none⟩) 0 0) (0) ([]) (by rfl) (HE0.out) (.slice N.a N.n N.c) (N.n) (strs S.tick.names) (by rfl) (HD3.out.names.below hBw) (row_oneS _) (by unfold maxLen; omega) (by omega) ?_
    intro v4 w4 hr4 hg4 hn4; rw [Nat.zero_add, List.nil_append] at hr4; obtain ⟨A4, d4, hv4, _⟩ := hr4.slice; subst hv4; have hX4 := Below.grown hBw hg4 hBw.size (by intro k hk; simp [Value.ownBlock] at hk; omega)
    have hY4 : ∀ g, (Value.slice A4 N.n d4).ownBlock = some g → w3.heap.size ≤ g := by intro g hg; have hz := hBw.size; rcases hn4 with h | h <;> rw [h] at hg <;> simp [Value.ownBlock] at hg <;> omega
    replace hBw := hX4; refine bk hK (KeepS.ofB _ hX4) fun q => ?_; clear hK K hHeld; have hHeld := q; clear q
    refine rd1 6 (some 55) fun K hK => ?_
    go_simp; have HL := Lib.hid (Row.laid (w := w4) (g := w4.heap.size) (n := 1) (cs := #[.string s.name]) (e := 9) (size := 1) rfl rfl (by decide))
    have HR4 := Lib.hid (hr4.alloc (.cells #[.string s.name] 9)); replace hBw : Below w3.heap.size w3 (w4.alloc (.cells #[.string s.name] 9)) := hBw.al (o := .cells #[.string s.name] 9)
    refine bk hK (KeepS.ofB _ hBw) fun q => ?_; clear hK K hHeld; have hHeld := q; clear q
    refine rd1 7 (some 56) fun K hK => ?_
    refine step_append_rows (by rfl) _ _ 78 (by rfl) 9 (.string ⟨#[]⟩) 1 16 Try.underlying78 info_string rfl (.slice A4 N.n d4) (N.n) (strs S.tick.names) (by rfl) (HR4.out) (.slice (some ⟨w4.heap.size, 0, none⟩) 1 1) (1) ([.string s.name]) (by rfl) (HL.out) (by simp [Value.oneCell']) (by unfold maxLen; omega) (by omega) ?_
    intro v5 w5 hr5 hg5 hn5; obtain ⟨A5, d5, hv5, _⟩ := hr5.slice; subst hv5; have hX5 := Below.grown hBw hg5 hBw.size hY4; have hY5 : ∀ g, (Value.slice A5 (N.n + 1) d5).ownBlock = some g → w3.heap.size ≤ g := by intro g hg; have hz := hBw.size; rcases hn5 with h | h <;> rw [h] at hg <;> first | exact hY4 g hg | (simp [Value.ownBlock] at hg; (try simp at hz); omega)
    have zb := below_blk hX5 HAT3.out.sb (blk_lt HAT3.out.sb); have z0 := blk_cell zb 0; have zf := blk_free zb; clear hBw; refine bk hK (KeepS.ofB _ hX5) fun q => ?_; clear hK K hHeld; have hHeld := q; clear q
    refine tkP 8 57 (.pointer (some ⟨w.heap.size, 0, none⟩)) ?_; refine rd1 9 none fun K hK => ?_
    go_simp; refine bk hK ((KeepS.ofB _ hX5).set _ _) fun q => ?_; clear hK K hHeld; have hHeld := q; clear q
    refine wpAnyH_done (by kernel_rfl) ?_ _
    have WFIN := True.intro
   rotate_left 1; refine AllReadyH.cons (o := ⟨some 55, _, _, _, _, _⟩) rfl (fun K hK => ?_) AllReadyH.nil
   focus
    go_simp; have HL0 := Lib.hid (Row.laid (w := w3.alloc (.cells #[] 9)) (g := w3.heap.size + 1) (n := 1) (cs := #[.string s.name]) (e := 9) (size := 1) (size_al _ _) rfl (by decide)).drewed
    replace HE0 := Lib.hid ((Row.laid (w := w3) (g := w3.heap.size) (n := 0) (cs := #[]) (e := 9) (size := 1) rfl rfl (by decide)).alloc (.cells #[.string s.name] 9)).drewed
    replace hBw : Below w3.heap.size w3 ((w3.alloc (.cells #[] 9)).alloc (.cells #[.string s.name] 9)).drew := hBw.al (o := .cells #[.string s.name] 9)
    refine bk hK (KeepS.ofB _ hBw) fun q => ?_; clear hK K hHeld; have hHeld := q; clear q
    refine rd1 3 (some 52) fun K hK => ?_
    refine step_append_rows (by rfl) _ _ 78 (by rfl) 9 (.string ⟨#[]⟩) 1 16 Try.underlying78 info_string rfl (.slice (some ⟨w3.heap.size, 0, none⟩) 0 0) (0) ([]) (by rfl) (HE0.out) (.slice N.a N.n N.c) (N.n) (strs S.tick.names) (by rfl) (HD3.out.names.below hBw) (row_oneS _) (by unfold maxLen; omega) (by omega) ?_
    intro v4 w4 hr4 hg4 hn4; rw [Nat.zero_add, List.nil_append] at hr4; obtain ⟨A4, d4, hv4, _⟩ := hr4.slice; subst hv4; have hX4 := Below.grown hBw hg4 hBw.size (by intro k hk; simp [Value.ownBlock] at hk; omega)
    have hY4 : ∀ g, (Value.slice A4 N.n d4).ownBlock = some g → w3.heap.size ≤ g := by intro g hg; have hz := hBw.size; rcases hn4 with h | h <;> rw [h] at hg <;> simp [Value.ownBlock] at hg <;> omega
    have HL := Lib.hid (HL0.out.grownKeep hg4 (by simp [Value.ownBlock]))
    have HR4 := Lib.hid hr4; replace hBw := hX4; refine bk hK (KeepS.ofB _ hX4) fun q => ?_; clear hK K hHeld; have hHeld := q; clear q
    refine rd1 7 (some 56) fun K hK => ?_
    refine step_append_rows (by rfl) _ _ 78 (by rfl) 9 (.string ⟨#[]⟩) 1 16 Try.underlying78 info_string rfl (.slice A4 N.n d4) (N.n) (strs S.tick.names) (by rfl) (HR4.out) (.slice (some ⟨w3.heap.size + 1, 0, none⟩) 1 1) (1) ([.string s.name]) (by rfl) (HL.out) (by simp [Value.oneCell']) (by unfold maxLen; omega) (by omega) ?_
    intro v5 w5 hr5 hg5 hn5; obtain ⟨A5, d5, hv5, _⟩ := hr5.slice; subst hv5; have hX5 := Below.grown hBw hg5 hBw.size hY4; have hY5 : ∀ g, (Value.slice A5 (N.n + 1) d5).ownBlock = some g → w3.heap.size ≤ g := by intro g hg; have hz := hBw.size; rcases hn5 with h | h <;> rw [h] at hg <;> first | exact hY4 g hg | (simp [Value.ownBlock] at hg; (try simp at hz); omega)
    have zb := below_blk hX5 HAT3.out.sb (blk_lt HAT3.out.sb); have z0 := blk_cell zb 0; have zf := blk_free zb; clear hBw; refine bk hK (KeepS.ofB _ hX5) fun q => ?_; clear hK K hHeld; have hHeld := q; clear q
    refine tkP 8 57 (.pointer (some ⟨w.heap.size, 0, none⟩)) ?_; refine rd1 9 none fun K hK => ?_
    go_simp; refine bk hK ((KeepS.ofB _ hX5).set _ _) fun q => ?_; clear hK K hHeld; have hHeld := q; clear q
    refine wpAnyH_done (by kernel_rfl) ?_ _
    have WFIN := True.intro
  rotate_left 2; refine AllReadyH.cons (o := ⟨some 55, _, _, _, _, _⟩) rfl (fun K hK => ?_) AllReadyH.nil
  focus
   go_simp; replace hBw : Below w3.heap.size w3 (w3.alloc (.cells #[.string s.name] 9)).drew := hBw.al (o := .cells #[.string s.name] 9)
   refine bk hK (KeepS.ofB _ hBw) fun q => ?_; clear hK K hHeld; have hHeld := q; clear q
   refine rd1 0 (some 49) fun K hK => ?_
   go_simp; have HE0 := Lib.hid (Row.laid (w := w3.alloc (.cells #[.string s.name] 9)) (g := w3.heap.size + 1) (n := 0) (cs := #[]) (e := 9) (size := 1) (size_al _ _) rfl (by decide)).drewed
   have HL0 := Lib.hid ((Row.laid (w := w3) (g := w3.heap.size) (n := 1) (cs := #[.string s.name]) (e := 9) (size := 1) rfl rfl (by decide)).alloc (.cells #[] 9)).drewed
   replace hBw : Below w3.heap.size w3 ((w3.alloc (.cells #[.string s.name] 9)).alloc (.cells #[] 9)).drew := hBw.al (o := .cells #[] 9)
   refine bk hK (KeepS.ofB _ hBw) fun q => ?_; clear hK K hHeld; have hHeld := q; clear q
   refine rd1 3 (some 52) fun K hK => ?_
   refine step_append_rows (by rfl) _ _ 78 (by rfl) 9 (.string ⟨#[]⟩) 1 16 Try.underlying78 info_string rfl (.slice (some ⟨w3.heap.size + 1, 0, none⟩) 0 0) (0) ([]) (by rfl) (HE0.out) (.slice N.a N.n N.c) (N.n) (strs S.tick.names) (by rfl) (HD3.out.names.below hBw) (row_oneS _) (by unfold maxLen; omega) (by omega) ?_
   intro v4 w4 hr4 hg4 hn4; rw [Nat.zero_add, List.nil_append] at hr4; obtain ⟨A4, d4, hv4, _⟩ := hr4.slice; subst hv4; have hX4 := Below.grown hBw hg4 hBw.size (by intro k hk; simp [Value.ownBlock] at hk; omega)
   have hY4 : ∀ g, (Value.slice A4 N.n d4).ownBlock = some g → w3.heap.size ≤ g := by intro g hg; have hz := hBw.size; rcases hn4 with h | h <;> rw [h] at hg <;> simp [Value.ownBlock] at hg <;> omega
   have HL := Lib.hid (HL0.out.grownKeep hg4 (by simp [Value.ownBlock]))
   have HR4 := Lib.hid hr4; replace hBw := hX4; refine bk hK (KeepS.ofB _ hX4) fun q => ?_; clear hK K hHeld; have hHeld := q; clear q
   refine rd1 7 (some 56) fun K hK => ?_
   refine step_append_rows (by rfl) _ _ 78 (by rfl) 9 (.string ⟨#[]⟩) 1 16 Try.underlying78 info_string rfl (.slice A4 N.n d4) (N.n) (strs S.tick.names) (by rfl) (HR4.out) (.slice (some ⟨w3.heap.size, 0, none⟩) 1 1) (1) ([.string s.name]) (by rfl) (HL.out) (by simp [Value.oneCell']) (by unfold maxLen; omega) (by omega) ?_
   intro v5 w5 hr5 hg5 hn5; obtain ⟨A5, d5, hv5, _⟩ := hr5.slice; subst hv5; have hX5 := Below.grown hBw hg5 hBw.size hY4; have hY5 : ∀ g, (Value.slice A5 (N.n + 1) d5).ownBlock = some g → w3.heap.size ≤ g := by intro g hg; have hz := hBw.size; rcases hn5 with h | h <;> rw [h] at hg <;> first | exact hY4 g hg | (simp [Value.ownBlock] at hg; (try simp at hz); omega)
   have zb := below_blk hX5 HAT3.out.sb (blk_lt HAT3.out.sb); have z0 := blk_cell zb 0; have zf := blk_free zb; clear hBw; refine bk hK (KeepS.ofB _ hX5) fun q => ?_; clear hK K hHeld; have hHeld := q; clear q
   refine tkP 8 57 (.pointer (some ⟨w.heap.size, 0, none⟩)) ?_; refine rd1 9 none fun K hK => ?_
   go_simp; refine bk hK ((KeepS.ofB _ hX5).set _ _) fun q => ?_; clear hK K hHeld; have hHeld := q; clear q
   refine wpAnyH_done (by kernel_rfl) ?_ _
   have WFIN := True.intro
 rotate_left 3; refine AllReadyH.cons (o := ⟨some 55, _, _, _, _, _⟩) rfl (fun K hK => ?_) AllReadyH.nil
 focus
  go_simp; replace hBw : Below w3.heap.size w3 (w3.alloc (.cells #[.string s.name] 9)).drew := hBw.al (o := .cells #[.string s.name] 9)
  refine bk hK (KeepS.ofB _ hBw) fun q => ?_; clear hK K hHeld; have hHeld := q; clear q
  refine wpAnyH_ready (rs := [0, 2]) (by kernel_rfl) (by simp) ?_
  refine AllReadyH.cons (o := ⟨some 49, _, _, _, _, _⟩) rfl (fun K hK => ?_) ?_
  focus
   go_simp; have HE0 := Lib.hid (Row.laid (w := w3.alloc (.cells #[.string s.name] 9)) (g := w3.heap.size + 1) (n := 0) (cs := #[]) (e := 9) (size := 1) (size_al _ _) rfl (by decide)).drewed
   have HL0 := Lib.hid ((Row.laid (w := w3) (g := w3.heap.size) (n := 1) (cs := #[.string s.name]) (e := 9) (size := 1) rfl rfl (by decide)).alloc (.cells #[] 9)).drewed
   replace hBw : Below w3.heap.size w3 ((w3.alloc (.cells #[.string s.name] 9)).alloc (.cells #[] 9)).drew := hBw.al (o := .cells #[] 9)
   refine bk hK (KeepS.ofB _ hBw) fun q => ?_; clear hK K hHeld; have hHeld := q; clear q
   refine rd1 2 (some 51) fun K hK => ?_
   have q9 := hBw.cellOf s0; go_simp; clear q9; refine bk hK (hHeld) fun q => ?_; clear hK K hHeld; have hHeld := q; clear q
   refine rd1 3 (some 52) fun K hK => ?_
   refine step_append_rows (by rfl) _ _ 78 (by rfl) 9 (.string ⟨#[]⟩) 1 16 Try.underlying78 info_string rfl (.slice (some ⟨w3.heap.size + 1, 0, none⟩) 0 0) (0) ([]) (by rfl) (HE0.out) (.slice N.a N.n N.c) (N.n) (strs S.tick.names) (by rfl) (HD3.out.names.below hBw) (row_oneS _) (by unfold maxLen; omega) (by omega) ?_
   intro v4 w4 hr4 hg4 hn4; rw [Nat.zero_add, List.nil_append] at hr4; obtain ⟨A4, d4, hv4, _⟩ := hr4.slice; subst hv4; have hX4 := Below.grown hBw hg4 hBw.size (by intro k hk; simp [Value.ownBlock] at hk; omega)
   have hY4 : ∀ g, (Value.slice A4 N.n d4).ownBlock = some g → w3.heap.size ≤ g := by intro g hg; have hz := hBw.size; rcases hn4 with h | h <;> rw [h] at hg <;> simp [Value.ownBlock] at hg <;> omega
   have HL := Lib.hid (HL0.out.grownKeep hg4 (by simp [Value.ownBlock]))
   have HR4 := Lib.hid hr4; replace hBw := hX4; refine bk hK (KeepS.ofB _ hX4) fun q => ?_; clear hK K hHeld; have hHeld := q; clear q
   refine rd1 7 (some 56) fun K hK => ?_
   refine step_append_rows (by rfl) _ _ 78 (by rfl) 9 (.string ⟨#[]⟩) 1 16 Try.underlying78 info_string rfl (.slice A4 N.n d4) (N.n) (strs S.tick.names) (by rfl) (HR4.out) (.slice (some ⟨w3.heap.size, 0, none⟩) 1 1) (1) ([.string s.name]) (by rfl) (HL.out) (by simp [Value.oneCell']) (by unfold maxLen; omega) (by omega) ?_
   intro v5 w5 hr5 hg5 hn5; obtain ⟨A5, d5, hv5, _⟩ := hr5.slice; subst hv5; have hX5 := Below.grown hBw hg5 hBw.size hY4; have hY5 : ∀ g, (Value.slice A5 (N.n + 1) d5).ownBlock = some g → w3.heap.size ≤ g := by intro g hg; have hz := hBw.size; rcases hn5 with h | h <;> rw [h] at hg <;> first | exact hY4 g hg | (simp [Value.ownBlock] at hg; (try simp at hz); omega)
   have zb := below_blk hX5 HAT3.out.sb (blk_lt HAT3.out.sb); have z0 := blk_cell zb 0; have zf := blk_free zb; clear hBw; refine bk hK (KeepS.ofB _ hX5) fun q => ?_; clear hK K hHeld; have hHeld := q; clear q
   refine tkP 8 57 (.pointer (some ⟨w.heap.size, 0, none⟩)) ?_; refine rd1 9 none fun K hK => ?_
   go_simp; refine bk hK ((KeepS.ofB _ hX5).set _ _) fun q => ?_; clear hK K hHeld; have hHeld := q; clear q
   refine wpAnyH_done (by kernel_rfl) ?_ _
   have WFIN := True.intro
  rotate_left 1; refine AllReadyH.cons (o := ⟨some 51, _, _, _, _, _⟩) rfl (fun K hK => ?_) AllReadyH.nil
  focus
   have q9 := hBw.cellOf s0; go_simp; clear q9; refine bk hK (hHeld) fun q => ?_; clear hK K hHeld; have hHeld := q; clear q
   refine rd1 0 (some 49) fun K hK => ?_
   go_simp; have HE0 := Lib.hid (Row.laid (w := w3.alloc (.cells #[.string s.name] 9)) (g := w3.heap.size + 1) (n := 0) (cs := #[]) (e := 9) (size := 1) (size_al _ _) rfl (by decide)).drewed
   have HL0 := Lib.hid ((Row.laid (w := w3) (g := w3.heap.size) (n := 1) (cs := #[.string s.name]) (e := 9) (size := 1) rfl rfl (by decide)).alloc (.cells #[] 9)).drewed
   replace hBw : Below w3.heap.size w3 ((w3.alloc (.cells #[.string s.name] 9)).alloc (.cells #[] 9)).drew := hBw.al (o := .cells #[] 9)
   refine bk hK (KeepS.ofB _ hBw) fun q => ?_; clear hK K hHeld; have hHeld := q; clear q
   refine rd1 3 (some 52) fun K hK => ?_
   refine step_append_rows (by rfl) _ _ 78 (by rfl) 9 (.string ⟨#[]⟩) 1 16 Try.underlying78 info_string rfl (.slice (some ⟨w3.heap.size + 1, 0, none⟩) 0 0) (0) ([]) (by rfl) (HE0.out) (.slice N.a N.n N.c) (N.n) (strs S.tick.names) (by rfl) (HD3.out.names.below hBw) (row_oneS _) (by unfold maxLen; omega) (by omega) ?_
   intro v4 w4 hr4 hg4 hn4; rw [Nat.zero_add, List.nil_append] at hr4; obtain ⟨A4, d4, hv4, _⟩ := hr4.slice; subst hv4; have hX4 := Below.grown hBw hg4 hBw.size (by intro k hk; simp [Value.ownBlock] at hk; omega)
   have hY4 : ∀ g, (Value.slice A4 N.n d4).ownBlock = some g → w3.heap.size ≤ g := by intro g hg; have hz := hBw.size; rcases hn4 with h | h <;> rw [h] at hg <;> simp [Value.ownBlock] at hg <;> omega
   have HL := Lib.hid (HL0.out.grownKeep hg4 (by simp [Value.ownBlock]))
   have HR4 := Lib.hid hr4; replace hBw := hX4; refine bk hK (KeepS.ofB _ hX4) fun q => ?_; clear hK K hHeld; have hHeld := q; clear q
   refine rd1 7 (some 56) fun K hK => ?_
   refine step_append_rows (by rfl) _ _ 78 (by rfl) 9 (.string ⟨#[]⟩) 1 16 Try.underlying78 info_string rfl (.slice A4 N.n d4) (N.n) (strs S.tick.names) (by rfl) (HR4.out) (.slice (some ⟨w3.heap.size, 0, none⟩) 1 1) (1) ([.string s.name]) (by rfl) (HL.out) (by simp [Value.oneCell']) (by unfold maxLen; omega) (by omega) ?_
   intro v5 w5 hr5 hg5 hn5; obtain ⟨A5, d5, hv5, _⟩ := hr5.slice; subst hv5; have hX5 := Below.grown hBw hg5 hBw.size hY4; have hY5 : ∀ g, (Value.slice A5 (N.n + 1) d5).ownBlock = some g → w3.heap.size ≤ g := by intro g hg; have hz := hBw.size; rcases hn5 with h | h <;> rw [h] at hg <;> first | exact hY4 g hg | (simp [Value.ownBlock] at hg; (try simp at hz); omega)
   have zb := below_blk hX5 HAT3.out.sb (blk_lt HAT3.out.sb); have z0 := blk_cell zb 0; have zf := blk_free zb; clear hBw; refine bk hK (KeepS.ofB _ hX5) fun q => ?_; clear hK K hHeld; have hHeld := q; clear q
   refine tkP 8 57 (.pointer (some ⟨w.heap.size, 0, none⟩)) ?_; refine rd1 9 none fun K hK => ?_
   go_simp; refine bk hK ((KeepS.ofB _ hX5).set _ _) fun q => ?_; clear hK K hHeld; have hHeld := q; clear q
   refine wpAnyH_done (by kernel_rfl) ?_ _
   have WFIN := True.intro
 all_goals clear WFIN
 all_goals
  have hat := (HAT3.out.next hws hX5).set0 hws ⟨A5, N.n + 1, d5⟩; have hnr := rowSet (i := 0) (u := .slice A5 (N.n + 1) d5) hr5 (hr5.ne zb (by decide))
  have hdo := (HD3.out.below hX5).set zb (i := 0) (by decide) (by decide) (by decide) (.slice A5 (N.n + 1) d5)
  have hws5 := hX5.size; obtain ⟨w6, hw6⟩ : ∃ wx, w5.setCell ⟨w.heap.size, 0, none⟩ (.slice A5 (N.n + 1) d5) = wx := ⟨_, rfl⟩
  have hws6 : w5.heap.size = w6.heap.size := by rw [← hw6]; simp [World.setCell]
  dsimp only at hat; rw [hw6] at hat hnr hdo ⊢; have HAT6 := Lib.hid hat; have HD6 := Lib.hid hdo; have HNR := Lib.hid hnr; have HK6 := Lib.hid (show w3.heap.size ≤ w6.heap.size by omega)
  have HM6 := Lib.hid (show (∀ g, (Value.slice M.a M.n M.c).ownBlock = some g → g < w6.heap.size) ∧ (∀ g, (Value.slice O.a O.n O.c).ownBlock = some g → g < w6.heap.size) from ⟨fun g hg => hdo.mem.lt hg, fun g hg => hdo.outs.lt hg⟩)
  clear s0 s1 s2 s3 s4 s5 s6 s7 s8 s9 e0 e1 e2 e3 e4 e5 r0 r1 r2 r3 r4 r5 r6 r7 r8 r9 rf sf hat hdo hnr hw6 hws5 hws6 hr5 hg5 hn5 hX5 hY5 zb z0 zf hHeld; obtain ⟨s0, s1, s2, s3, s4, s5, s6, s7, s8, s9⟩ := cel10 HAT6.out.sb; dsimp only at s0; obtain ⟨e0, e1, e2, e3, e4, e5⟩ := cel6 HAT6.out.xb; obtain ⟨r0, r1, r2, r3, r4, r5, r6, r7, r8, r9⟩ := celz HAT6.out.rb; have rf := blk_free HAT6.out.rb; have sf := blk_free HAT6.out.sb; have hvb : V.n ≤ 1000010 := by have := HD6.out.vn; have := HD6.out.nn; have := HD6.out.eq; omega
  have m1 := (Below.al (Below.refl w6.heap.size w6) (o := .cells #[] 2)).cellOf s1; go_upto_region 34 with (first | (have tk := HR7; clear tk; at_builtin; go_must (refine wpList_append_rows _ rfl _ _ 46 rfl 2 (.int .i64 0) 1 8 Try.underlying46 info_i64 rfl (.slice A7 V.n d7) (V.n) (nums S.tick.vals) rfl (HR7.out.alloc _) (.slice (some ⟨w7.heap.size, 0, none⟩) 1 1) (1) ([.int .i64 u0]) rfl (Row.laid (n := 1) (cs := #[.int .i64 u0]) (size := 1) rfl rfl (by decide)) (by simp [Value.oneCell']) (by unfold maxLen; omega) (by omega) ?_); intro v8 w8 hr8 hg8 hn8; obtain ⟨A8, d8, hv8, _⟩ := hr8.slice; subst hv8; have hX8 := Below.grown (HX7.out.al (o := .cells #[.int .i64 u0] 2)) hg8 (HX7.out.al (o := .cells #[.int .i64 u0] 2)).size HY7.out; have zb := below_blk hX8 HAT6.out.sb (blk_lt HAT6.out.sb); have zc := blk_cell zb 1; have zf := blk_free zb) | (at_builtin; go_must (refine wpList_append_rows _ rfl _ _ 46 rfl 2 (.int .i64 0) 1 8 Try.underlying46 info_i64 rfl (.slice (some ⟨w6.heap.size, 0, none⟩) 0 0) (0) ([]) rfl (Row.laid (n := 0) (cs := #[]) (size := 1) rfl rfl (by decide)) (.slice V.a V.n V.c) (V.n) (nums S.tick.vals) rfl (HD6.out.vals.alloc _) (row_oneI _) (by unfold maxLen; omega) (by omega) ?_); intro v7 w7 hr7 hg7 hn7; rw [Nat.zero_add, List.nil_append] at hr7; obtain ⟨A7, d7, hv7, _⟩ := hr7.slice; subst hv7; have HR7 := Lib.hid hr7; have HX7 := Lib.hid (Below.grown ((Below.refl w6.heap.size w6).al (o := .cells #[] 2)) hg7 ((Below.refl w6.heap.size w6).al (o := .cells #[] 2)).size (by intro k hk; simp [Value.ownBlock] at hk; omega)); have HY7 := Lib.hid (show ∀ g, (Value.slice A7 V.n d7).ownBlock = some g → w6.heap.size ≤ g by intro g hg; rcases hn7 with h | h <;> rw [h] at hg <;> simp [Value.ownBlock] at hg <;> omega); clear hr7 hg7 hn7))
  have hY8 : ∀ g, (Value.slice A8 (V.n + 1) d8).ownBlock = some g → w6.heap.size ≤ g := by intro g hg; have hz := HX7.out.size; rcases hn8 with h | h <;> rw [h] at hg <;> first | exact HY7.out g hg | (simp [Value.ownBlock] at hg; (try simp at hz); omega)
  have hat := (HAT6.out.next hws hX8).set1 hws ⟨A8, V.n + 1, d8⟩; have hnr := rowSet (i := 1) (u := .slice A8 (V.n + 1) d8) (HNR.out.below hX8) ((HNR.out.below hX8).ne zb (by decide))
  have hvr := rowSet (i := 1) (u := .slice A8 (V.n + 1) d8) hr8 (hr8.ne zb (by decide))
  have hdo := ((HD6.out.below hX8).set zb (i := 1) (by decide) (by decide) (by decide) (.slice A8 (V.n + 1) d8)).pushVar (K := w6.heap.size) (Nat.le_trans (Nat.le_trans hws (by have := blk_lt HAT3.out.sb; omega)) HK6.out) HM6.out.1 HM6.out.2 hnr hvr hY8
  obtain ⟨w9, hw9⟩ : ∃ wx, w8.setCell ⟨w.heap.size, 1, none⟩ (.slice A8 (V.n + 1) d8) = wx := ⟨_, rfl⟩
  dsimp only at hat; rw [hw9] at hat hdo ⊢; have HAT9 := Lib.hid hat; have HD9 := Lib.hid hdo; clear s0 s1 s2 s3 s4 s5 s6 s7 s8 s9 e0 e1 e2 e3 e4 e5 r0 r1 r2 r3 r4 r5 r6 r7 r8 r9 rf sf hat hdo hnr hvr hw9 hr8 hg8 hn8 hX8 hY8 zb zc zf m1; obtain ⟨s0, s1, s2, s3, s4, s5, s6, s7, s8, s9⟩ := cel10 HAT9.out.sb; dsimp only at s0 s1; obtain ⟨e0, e1, e2, e3, e4, e5⟩ := cel6 HAT9.out.xb; obtain ⟨r0, r1, r2, r3, r4, r5, r6, r7, r8, r9⟩ := celz HAT9.out.rb; have rf := blk_free HAT9.out.rb; have sf := blk_free HAT9.out.sb; go_wp2; have hfin := LoR.done (B := B) (S := S) (S' := { S.tick with names := S.tick.names ++ [s.name], vals := S.tick.vals ++ [u0] }) HAT9.out.res hws HD9.out
  obtain ⟨w99, hw99⟩ : ∃ wx, put10 w9 (w.heap.size + 1 + 1) ⟨A5, N.n + 1, d5⟩ ⟨A8, V.n + 1, d8⟩ M O I (0) (0) S.tick.ticks (B - S.tick.ticks) false = wx := ⟨_, rfl⟩
  try dsimp only at hfin
  rw [hw99] at hfin; unfold put10 at hw99; try dsimp only at hw99
  rw [hw99]; exact bodyPost_ret (results_ds rfl _ _ (w.heap.size + 1 + 1) ⟨A5, N.n + 1, d5⟩ ⟨A8, V.n + 1, d8⟩ M O I (0) (0) S.tick.ticks (B - S.tick.ticks) false (by rfl) hfin.1) rfl hfin.2
end Go.Proofs.Ytjlnpppjkdcpkaa.My
