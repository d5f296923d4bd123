/- The document's way through a statement: where no tick is left, and where a value leaves. Conditions: as9 XEvN5. -/
import Derived.Test.YtjlnpppjkdcpkaaEREvN4
import Derived.Test.YtjlnpppjkdcpkaaEREvNs
namespace Go.Proofs.Ytjlnpppjkdcpkaa.My
open Go.RowKit Go.Proofs.Ytjlnpppjkdcpkaa.NumA
set_option linter.unusedVariables false
set_option linter.unusedSimpArgs false
/-- the three boxes of a statement's run: the state, the statement, the result -/
structure LoB (W w : World) (s : Stmt) (A0 : Option Addr) (c0 : Nat) (A1 : Option Addr) (c1 : Nat) (A2 : Option Addr) (c2 : Nat) (N V M O I : Rw) (ov va tk lf : Int) (e : Bool) (wz : World) : Prop where
 below : Below W.heap.size W wz
 fr : FrX w wz
 sb : wz.heap[w.heap.size]? = some (dsC (dsL N V M O I ov va tk lf e))
 xb : wz.heap[w.heap.size + 1]? = some (.cells #[.int .i64 s.kind, .string s.name, .int .i64 s.cell, .slice A0 s.args.length c0, .slice A1 s.body.length c1, .slice A2 s.els.length c2] 36 (0, 0))
 rb : wz.heap[w.heap.size + 1 + 1]? = some (dsC (dsL zR zR zR zR zR 0 0 0 0 false))
variable {W w : World} {s : Stmt} {A0 A1 A2 : Option Addr} {c0 c1 c2 : Nat} {N V M O I : Rw} {ov va tk lf : Int} {e : Bool} {wz : World}
theorem LoB.start (hB : Below W.heap.size W w) (N V M O I : Rw) (tk lf : Int) : LoB W w s A0 c0 A1 c1 A2 c2 N V M O I 0 0 tk lf false (((w.alloc (dsC (dsL N V M O I 0 0 tk lf false))).alloc (.cells #[.int .i64 s.kind, .string s.name, .int .i64 s.cell, .slice A0 s.args.length c0, .slice A1 s.body.length c1, .slice A2 s.els.length c2] 36)).alloc (dsC (dsL zR zR zR zR zR 0 0 0 0 false))) := by
 refine ⟨hB.trans (((((Below.refl w.heap.size w).al).al).al).mono hB.size), (FrX.refl w).below ((((Below.refl w.heap.size w).al).al).al), blk_alloc (blk_alloc (blk_new w _) _) _, blk_alloc (blk_new1 w _ _) _, ?_⟩
 have h := blk_new ((w.alloc (dsC (dsL N V M O I 0 0 tk lf false))).alloc (.cells #[.int .i64 s.kind, .string s.name, .int .i64 s.cell, .slice A0 s.args.length c0, .slice A1 s.body.length c1, .slice A2 s.els.length c2] 36)) (dsC (dsL zR zR zR zR zR 0 0 0 0 false)); rw [size_al, size_al] at h; exact h
/-- the three boxes laid -/
theorem LoB.begin {base : Nat} {S : Ev} (hB : Below W.heap.size W w) (hD : DocAt w base S N V M O I) (tk lf : Int) : ∃ w0, ((w.alloc (.cells #[.slice N.a N.n N.c, .slice V.a V.n V.c, .slice M.a M.n M.c, .slice O.a O.n O.c, .slice I.a I.n I.c, .int .i64 0, .int .i64 0, .int .i64 tk, .int .i64 lf, .bool false] 93)).alloc (.cells #[.int .i64 s.kind, .string s.name, .int .i64 s.cell, .slice A0 s.args.length c0, .slice A1 s.body.length c1, .slice A2 s.els.length c2] 36)).alloc (.cells #[.slice none 0 0, .slice none 0 0, .slice none 0 0, .slice none 0 0, .slice none 0 0, .int .i64 0, .int .i64 0, .int .i64 0, .int .i64 0, .bool false] 93) = w0 ∧ LoB W w s A0 c0 A1 c1 A2 c2 N V M O I 0 0 tk lf false w0 ∧ DocAt w0 base S N V M O I :=
 ⟨_, rfl, LoB.start hB N V M O I tk lf, hD.below (((Below.refl w.heap.size w).al).al).al⟩
theorem LoB.drew (h : LoB W w s A0 c0 A1 c1 A2 c2 N V M O I ov va tk lf e wz) : LoB W w s A0 c0 A1 c1 A2 c2 N V M O I ov va tk lf e wz.drew := ⟨h.below.drew, h.fr, h.sb, h.xb, h.rb⟩
theorem LoB.next (h : LoB W w s A0 c0 A1 c1 A2 c2 N V M O I ov va tk lf e wz) (hw : W.heap.size ≤ w.heap.size) {wy : World} (hB : Below wz.heap.size wz wy) : LoB W w s A0 c0 A1 c1 A2 c2 N V M O I ov va tk lf e wy :=
 ⟨h.below.trans (hB.mono h.below.size), h.fr.trans ((FrX.refl wz).below hB), below_blk hB h.sb (blk_lt h.sb), below_blk hB h.xb (blk_lt h.xb), below_blk hB h.rb (blk_lt h.rb)⟩
theorem LoB.call (h : LoB W w s A0 c0 A1 c1 A2 c2 N V M O I ov va tk lf e wz) {wy : World} (hB : Below W.heap.size W wy) (hf : FrX wz wy) : LoB W w s A0 c0 A1 c1 A2 c2 N V M O I ov va tk lf e wy :=
 ⟨hB, h.fr.trans hf, hf _ _ _ h.sb (by decide) (by decide), hf _ _ _ h.xb (by decide) (by decide), hf _ _ _ h.rb (by decide) (by decide)⟩
theorem LoB.put (h : LoB W w s A0 c0 A1 c1 A2 c2 N V M O I ov va tk lf e wz) (hw : W.heap.size ≤ w.heap.size) (N' V' M' O' I' : Rw) (ov' va' tk' lf' : Int) (e' : Bool) : LoB W w s A0 c0 A1 c1 A2 c2 N' V' M' O' I' ov' va' tk' lf' e' (put10 wz w.heap.size N' V' M' O' I' ov' va' tk' lf' e') :=
 ⟨h.below.put10 hw _ _ _ _ _ _ _ _ _ _, h.fr.put10 (Nat.le_refl _) _ _ _ _ _ _ _ _ _ _, put10_blk h.sb _ _ _ _ _ _ _ _ _ _, put10_far h.xb (by omega) _ _ _ _ _ _ _ _ _ _, put10_far h.rb (by omega) _ _ _ _ _ _ _ _ _ _⟩
theorem LoB.done {B : Int} {S S' : Ev} (h : LoB W w s A0 c0 A1 c1 A2 c2 N V M O I 0 0 S'.ticks (B - S'.ticks) false wz) (hw : W.heap.size ≤ w.heap.size) (hd : DocAt wz W.heap.size S' N V M O I) :
  (put10 wz (w.heap.size + 1 + 1) N V M O I 0 0 S'.ticks (B - S'.ticks) false).heap[w.heap.size + 1 + 1]? = some (dsC (dsL N V M O I 0 0 S'.ticks (B - S'.ticks) false)) ∧
  DoneD W B S S' none w (.returned (.agg (dsL N V M O I 0 0 S'.ticks (B - S'.ticks) false).toArray)) (put10 wz (w.heap.size + 1 + 1) N V M O I 0 0 S'.ticks (B - S'.ticks) false) :=
 ⟨put10_blk h.rb _ _ _ _ _ _ _ _ _ _, h.below.put10 (by omega) _ _ _ _ _ _ _ _ _ _, h.fr.put10 (by omega) _ _ _ _ _ _ _ _ _ _, N, V, M, O, I, rfl, hd.put10 h.rb _ _ _ _ _ _ _ _ _ _⟩
theorem LoB.left {B : Int} {S S' : Ev} {x : Int × Int} (h : LoB W w s A0 c0 A1 c1 A2 c2 N V M O I x.1 x.2 S'.ticks (B - S'.ticks) true wz) (hw : W.heap.size ≤ w.heap.size) (hd : EndAt wz W.heap.size S' M O I) (hn : S.names.length ≤ N.c) (hv : S.names.length ≤ V.c) :
  (put10 wz (w.heap.size + 1 + 1) N V M O I x.1 x.2 S'.ticks (B - S'.ticks) true).heap[w.heap.size + 1 + 1]? = some (dsC (dsL N V M O I x.1 x.2 S'.ticks (B - S'.ticks) true)) ∧
  DoneD W B S S' (some x) w (.returned (.agg (dsL N V M O I x.1 x.2 S'.ticks (B - S'.ticks) true).toArray)) (put10 wz (w.heap.size + 1 + 1) N V M O I x.1 x.2 S'.ticks (B - S'.ticks) true) :=
 ⟨put10_blk h.rb _ _ _ _ _ _ _ _ _ _, h.below.put10 (by omega) _ _ _ _ _ _ _ _ _ _, h.fr.put10 (by omega) _ _ _ _ _ _ _ _ _ _, N, V, M, O, I, rfl, hn, hv, hd.put10 h.rb _ _ _ _ _ _ _ _ _ _⟩
theorem docPut {base : Nat} {S : Ev} (h : DocAt wz base S N V M O I) (hb : LoB W w s A0 c0 A1 c1 A2 c2 N V M O I ov va tk lf e wz) (N' V' M' O' I' : Rw) (ov' va' tk' lf' : Int) (e' : Bool) : DocAt (put10 wz w.heap.size N' V' M' O' I' ov' va' tk' lf' e') base S N V M O I := DocAt.put10 h hb.sb _ _ _ _ _ _ _ _ _ _
theorem DocAt.tick {base : Nat} {S : Ev} (h : DocAt wz base S N V M O I) : DocAt wz base S.tick N V M O I := ⟨h.nn, h.vn, h.mn, h.oo, h.ii, h.names, h.vals, h.mem, h.outs, h.intos, h.fv, h.fm, h.fo, h.fi, h.vm, h.vo, h.mo, h.eq⟩
theorem DocAt.caps {base : Nat} {S : Ev} (h : DocAt wz base S N V M O I) : S.names.length ≤ N.c ∧ S.names.length ≤ V.c := by
 have h1 := Row.capLe h.names; have h2 := Row.capLe h.vals; have := h.nn
 have := h.vn
 have := h.eq
 omega
theorem DocAt.reads {base : Nat} {S : Ev} {B : Int} (h : DocAt wz base S N V M O I) (hf : FitS B S) : RdS wz S N V M := ⟨h.nn, h.vn, h.mn, h.names, h.vals, h.mem, h.eq, by have := hf.sz.n; have := hf.tk; have := hf.b0; omega, by have := hf.ml; omega⟩
theorem FitS.tick {B : Int} {S : Ev} (h : FitS B S) (hn : S.ticks ≠ B) : FitS B S.tick := ⟨h.sz.tick, h.i64, by have := h.tk; simp only [Ev.tick]; omega, h.ml, h.b0⟩
/-- a tick, where none is left and where some are -/
theorem tick_spent {B : Int} {S : Ev} (hf : FitS B S) (hs : S.ticks = B) (N V M O I : Rw) (w : World) : Calls Try.prog 79 #[.agg (dsL N V M O I 0 0 S.ticks (B - S.ticks) false).toArray] w (BackL (dsL N V M O I 0 0 S.ticks (B - S.ticks) true) w) := by
 have h := dtick_calls N V M O I S.ticks (B - S.ticks) w hf.sz.t (by have := hf.tk; have := hf.b0; omega) (by have := hf.sz.t; have := hf.b0; omega)
 rwa [tickL, if_pos (by omega)] at h
theorem tick_more {B : Int} {S : Ev} (hf : FitS B S) (hs : S.ticks ≠ B) (N V M O I : Rw) (w : World) : Calls Try.prog 79 #[.agg (dsL N V M O I 0 0 S.ticks (B - S.ticks) false).toArray] w (BackL (dsL N V M O I 0 0 S.tick.ticks (B - S.tick.ticks) false) w) := by
 have h := dtick_calls N V M O I S.ticks (B - S.ticks) w hf.sz.t (by have := hf.tk; have := hf.b0; omega) (by have := hf.sz.t; have := hf.b0; omega)
 rwa [tickL, if_neg (by have := hf.tk; omega), show B - S.ticks - 1 = B - S.tick.ticks by simp only [Ev.tick]; omega] at h
theorem dvalue_gone (x : Expr) (A : Option Addr) (c : Nat) (N V M O I : Rw) (h u tk lf : Int) (w : World) : Calls Try.prog 80 #[.agg (dsL N V M O I h u tk lf true).toArray, .agg #[.int .i64 x.kind, .int .i64 x.num, .string x.name, .int .i64 x.op, .slice A x.args.length c]] w (GotD (.left h u) N V M O I tk lf w) :=
 (dvalue_ended x A c N V M O I h u tk lf w).mono fun _ _ h => ⟨h.2, h.1⟩
/-- the while's chain: at its condition -/
inductive LoopP (W : World) (B : Int) (s : Stmt) : Ev → Ev → Option (Int × Int) → Prop
 | spent {S} : S.ticks = B → LoopP W B s S S (some (0, 0))
 | fell {S h v} : S.ticks ≠ B → (∀ u, exprsV S.tick s.args ≠ .left 0 u) → exprsV S.tick s.args = .left h v → LoopP W B s S S.tick (some (h, v))
 | ends {S vs} : S.ticks ≠ B → exprsV S.tick s.args = .ok vs → vs.getD 0 0 = 0 → LoopP W B s S S.tick none
 | left {S S' x vs} : S.ticks ≠ B → exprsV S.tick s.args = .ok vs → vs.getD 0 0 ≠ 0 → DoesF B (.block s.body) S.tick S' (some x) → BlockC W B s.body S.tick S' (some x) → LoopP W B s S S' (some x)
 | again {S S1 S' o vs} : S.ticks ≠ B → exprsV S.tick s.args = .ok vs → vs.getD 0 0 ≠ 0 → DoesF B (.block s.body) S.tick S1 none → BlockC W B s.body S.tick S1 none → LoopP W B s S1 S' o → LoopP W B s S S' o
def LoopC (W : World) (B : Int) (s : Stmt) (S S' : Ev) (o : Option (Int × Int)) : Prop := ∀ (A0 : Option Addr) (c0 : Nat) (A1 : Option Addr) (c1 : Nat) (A2 : Option Addr) (c2 d : Nat), Expr.rds W s.args A0 0 → Stmt.rds W s.body A1 0 → s.kind = 7 → s.rightB nameB d = true → s.in64 → s.nodes ≤ 100000 → RunC W B 78 (s.val A0 c0 A1 c1 A2 c2) S S' o
end Go.Proofs.Ytjlnpppjkdcpkaa.My
namespace Go.Proofs.Ytjlnpppjkdcpkaa.My
open Go.RowKit Go.Proofs.Ytjlnpppjkdcpkaa.NumA
set_option linter.unusedVariables false
set_option linter.unusedSimpArgs false
set_option maxRecDepth 100000 in
set_option maxHeartbeats 8000000 in
theorem one_spent0 (W : World) (B : Int) (s : Stmt) (S : Ev) (h7 : s.kind ≠ 7) (hs : S.ticks = B) (hl : s.args.length = 0) : StmtC W B s S S (some (0, 0)) := by
 intro A0 c0 A1 c1 A2 c2 d hrd hrd1 hrd2 hr h64 hnl w N V M O I hB hD hF; have hws := hB.size; obtain ⟨w0, hw0, hat, hdo⟩ := LoB.begin (s := s) (A0 := A0) (c0 := c0) (A1 := A1) (c1 := c1) (A2 := A2) (c2 := c2) hB hD S.ticks (B - S.ticks); have HAT := Lib.hid hat; have HD := Lib.hid hdo; have HF := Lib.hid hF; have HB := Lib.hid hB; have HCP := Lib.hid hD.caps; have HW := Lib.hid hw0; have HR64 := Lib.hid (And.intro hr h64); clear hat hdo hB hD hF hw0 ; obtain ⟨s0, s1, s2, s3, s4, s5, s6, s7, s8, s9⟩ := cel10 HAT.out.sb; obtain ⟨e0, e1, e2, e3, e4, e5⟩ := cel6 HAT.out.xb; obtain ⟨r0, r1, r2, r3, r4, r5, r6, r7, r8, r9⟩ := celz HAT.out.rb
 have rf := blk_free HAT.out.rb; have sf := blk_free HAT.out.sb; unfold dsL Stmt.val
 have t7 : (s.kind == 7) = false := by simp [h7]
 have HT := Lib.hid (fun w' => tick_spent HF.out hs N V M O I w')
 have g0 : ¬ (0 < (s.args.length : Int)) := by omega
 have g1 : ¬ (1 < (s.args.length : Int)) := by omega
 unfold dsL at HT; clear hl hs; go_enter Try.func59, Try.ntmps59
 go_wp2_with (have tk := HW; clear tk; rw [HW.out]; clear HW)
 refine (HT.out _).mono ?_; rintro y w1 ⟨rfl, hb1⟩; have hat := HAT.out.next hws hb1; have hdo := HD.out.below hb1; have HAT1 := Lib.hid hat; have HD1 := Lib.hid hdo; clear s0 s1 s2 s3 s4 s5 s6 s7 s8 s9 e0 e1 e2 e3 e4 e5 r0 r1 r2 r3 r4 r5 r6 r7 r8 r9 rf sf hat hdo hb1; obtain ⟨s0, s1, s2, s3, s4, s5, s6, s7, s8, s9⟩ := cel10 HAT1.out.sb; obtain ⟨e0, e1, e2, e3, e4, e5⟩ := cel6 HAT1.out.xb; obtain ⟨r0, r1, r2, r3, r4, r5, r6, r7, r8, r9⟩ := celz HAT1.out.rb; have rf := blk_free HAT1.out.rb; have sf := blk_free HAT1.out.sb; go_wp2; have hfin := LoB.left (B := B) (S := S) (S' := S) (x := (0, 0)) (HAT1.out.put hws N V M O I (0) (0) S.ticks (B - S.ticks) true) hws (docPut HD1.out HAT1.out N V M O I (0) (0) S.ticks (B - S.ticks) true).ends HCP.out.1 HCP.out.2
 obtain ⟨w99, hw99⟩ : ∃ wx, put10 (put10 w1 w.heap.size N V M O I (0) (0) S.ticks (B - S.ticks) true) (w.heap.size + 1 + 1) N V M O I (0) (0) S.ticks (B - S.ticks) true = wx := ⟨_, rfl⟩
 try dsimp only at hfin
 rw [hw99] at hfin; unfold put10 at hw99; rw [hw99]; exact bodyPost_ret (results_ds rfl _ _ (w.heap.size + 1 + 1) N V M O I (0) (0) S.ticks (B - S.ticks) true (by rfl) hfin.1) rfl hfin.2
set_option maxRecDepth 100000 in
set_option maxHeartbeats 8000000 in
theorem one_spent1 (W : World) (B : Int) (s : Stmt) (S : Ev) (h7 : s.kind ≠ 7) (hs : S.ticks = B) (hl : s.args.length = 1) : StmtC W B s S S (some (0, 0)) := by
 intro A0 c0 A1 c1 A2 c2 d hrd hrd1 hrd2 hr h64 hnl w N V M O I hB hD hF; have hws := hB.size; obtain ⟨w0, hw0, hat, hdo⟩ := LoB.begin (s := s) (A0 := A0) (c0 := c0) (A1 := A1) (c1 := c1) (A2 := A2) (c2 := c2) hB hD S.ticks (B - S.ticks); have HAT := Lib.hid hat; have HD := Lib.hid hdo; have HF := Lib.hid hF; have HB := Lib.hid hB; have HCP := Lib.hid hD.caps; have HW := Lib.hid hw0; have HR64 := Lib.hid (And.intro hr h64); clear hat hdo hB hD hF hw0 ; obtain ⟨s0, s1, s2, s3, s4, s5, s6, s7, s8, s9⟩ := cel10 HAT.out.sb; obtain ⟨e0, e1, e2, e3, e4, e5⟩ := cel6 HAT.out.xb; obtain ⟨r0, r1, r2, r3, r4, r5, r6, r7, r8, r9⟩ := celz HAT.out.rb
 have rf := blk_free HAT.out.rb; have sf := blk_free HAT.out.sb; unfold dsL Stmt.val
 have t7 : (s.kind == 7) = false := by simp [h7]
 have HT := Lib.hid (fun w' => tick_spent HF.out hs N V M O I w')
 rw [s.rightB_eq nameB d] at hr; simp only [Bool.and_eq_true, headB, decide_eq_true_eq] at hr
 obtain ⟨⟨⟨⟨⟨⟨⟨⟨_, hlen⟩, _⟩, _⟩, _⟩, _⟩, hra⟩, hrb⟩, hre⟩ := hr; have h64a := Stmt.in64_args h64; have hj0 : 0 < s.args.length := by omega
 have hga0 : s.args.getD 0 default = s.args[0]'hj0 := by simp [List.getD, hj0]
 have hra0 := Expr.rightsB_all hra (s.args[0]'hj0) (List.getElem_mem hj0); have h640 := Expr.in64_mem h64a (List.getElem_mem hj0); obtain ⟨a0, ha0⟩ : ∃ x, s.args[0]'hj0 = x := ⟨_, rfl⟩
 have HAX0 := Lib.hid (fun w' (hb : Below W.heap.size W w') => Expr.at hrd hb hj0)
 rw [ha0] at hga0 hra0 h640 HAX0; have hj0' : (0 : Int) < (s.args.length : Int) := by omega
 have g1 : ¬ (1 < (s.args.length : Int)) := by omega
 unfold dsL at HT; clear hl hs h64 hrd1 hrd2 hlen hra hrb hre h64a hj0 hga0 hra0 h640 ha0; go_enter Try.func59, Try.ntmps59
 go_wp2_with (have tk := HW; clear tk; rw [HW.out]; clear HW)
 refine (HT.out _).mono ?_; rintro y w1 ⟨rfl, hb1⟩; have hat := HAT.out.next hws hb1; have hdo := HD.out.below hb1; have HAT1 := Lib.hid hat; have HD1 := Lib.hid hdo; clear s0 s1 s2 s3 s4 s5 s6 s7 s8 s9 e0 e1 e2 e3 e4 e5 r0 r1 r2 r3 r4 r5 r6 r7 r8 r9 rf sf hat hdo hb1; obtain ⟨s0, s1, s2, s3, s4, s5, s6, s7, s8, s9⟩ := cel10 HAT1.out.sb; obtain ⟨e0, e1, e2, e3, e4, e5⟩ := cel6 HAT1.out.xb; obtain ⟨r0, r1, r2, r3, r4, r5, r6, r7, r8, r9⟩ := celz HAT1.out.rb; have rf := blk_free HAT1.out.rb; have sf := blk_free HAT1.out.sb; go_wp2_with fail; have hat := (HAT1.out.put hws N V M O I (0) (0) S.ticks (B - S.ticks) true)
 have hdo := (docPut HD1.out HAT1.out N V M O I (0) (0) S.ticks (B - S.ticks) true).ends; obtain ⟨w2, hw2⟩ : ∃ wx, put10 w1 w.heap.size N V M O I (0) (0) S.ticks (B - S.ticks) true = wx := ⟨_, rfl⟩
 rw [hw2] at hat hdo; unfold put10 at hw2; rw [hw2]; have HAT2 := Lib.hid hat; have HD2 := Lib.hid hdo; clear s0 s1 s2 s3 s4 s5 s6 s7 s8 s9 e0 e1 e2 e3 e4 e5 r0 r1 r2 r3 r4 r5 r6 r7 r8 r9 rf sf hat hw2 hdo; obtain ⟨s0, s1, s2, s3, s4, s5, s6, s7, s8, s9⟩ := cel10 HAT2.out.sb; obtain ⟨e0, e1, e2, e3, e4, e5⟩ := cel6 HAT2.out.xb; obtain ⟨r0, r1, r2, r3, r4, r5, r6, r7, r8, r9⟩ := celz HAT2.out.rb; have rf := blk_free HAT2.out.rb; have sf := blk_free HAT2.out.sb; obtain ⟨ba0, oa0, B0, d0, hA0, hba0, m0, m1, m2, m3, m4, _, _, hr5⟩ := HAX0.out w2 HAT2.out.below; simp only [Nat.zero_mul, Nat.one_mul, Nat.add_zero] at m0 m1 m2 m3 m4
 subst hA0; clear hr5; have HE0 := Lib.hid (dvalue_gone a0 B0 d0 N V M O I (0) (0) S.ticks (B - S.ticks) w2.drew); unfold dsL at HE0; refine wp_region_noPanic ?_; refine wp_region_held_drew (S := KeepS (w.heap.size) w2) (by kernel_rfl) (KeepS.drew _ _) (fun hHeld => ?_)
 refine tkP 1 22 (.pointer (some ⟨w.heap.size + 1, 3, none⟩)) ?_; refine tkP 2 23 (.slice (some ⟨ba0, oa0, none⟩) s.args.length c0) ?_ (hy := Or.inl ⟨by rfl, fun U hU => by have q := hU.cell e3 (by omega); clear e3; go_simp⟩)
 refine tkP 3 24 (.pointer (some ⟨ba0, oa0, none⟩)) ?_; refine tkP 4 25 (.agg #[.int .i64 a0.kind, .int .i64 a0.num, .string a0.name, .int .i64 a0.op, .slice B0 a0.args.length d0]) ?_ (hy := Or.inl ⟨by rfl, fun U hU => by have q0 := hU.cell m0 (by omega); have q1 := hU.cell m1 (by omega); have q2 := hU.cell m2 (by omega); have q3 := hU.cell m3 (by omega); have q4 := hU.cell m4 (by omega); clear m0 m1 m2 m3 m4; go_simp⟩)
 refine rd1 0 (some 21) fun K hK => ?_
 go_simp; refine bk hK (hHeld) fun q => ?_; clear hK K hHeld; have hHeld := q; clear q
 refine rd1 5 (some 26) fun K hK => ?_
 go_simp; refine (HE0.out).mono ?_; rintro y w8 ⟨hb8, hy⟩; simp only [dsL] at hy
 subst hy; have hbc8 : Below w2.heap.size w2 w8 := below_fromdrew hb8
 have hat8 := HAT2.out.next hws hbc8; obtain ⟨z0, z1, z2, z3, z4, z5, z6, z7, z8, z9⟩ := cel10 hat8.sb; have zf := blk_free hat8.sb; refine bk hK ((KeepS.drew _ w2).below hb8) fun q => ?_; clear hK K hHeld; have hHeld := q; clear q
 refine tkP 6 20 (.tuple #[.agg #[.slice N.a N.n N.c, .slice V.a V.n V.c, .slice M.a M.n M.c, .slice O.a O.n O.c, .slice I.a I.n I.c, .int .i64 (0), .int .i64 (0), .int .i64 S.ticks, .int .i64 (B - S.ticks), .bool true], .int .i64 0]) ?_; refine tkP 7 27 (.agg #[.slice N.a N.n N.c, .slice V.a V.n V.c, .slice M.a M.n M.c, .slice O.a O.n O.c, .slice I.a I.n I.c, .int .i64 (0), .int .i64 (0), .int .i64 S.ticks, .int .i64 (B - S.ticks), .bool true]) ?_; refine tkP 8 28 (.int .i64 0) ?_; refine rd1 9 none fun K hK => ?_
 go_simp; refine bk hK (((KeepS.drew _ w2).below hb8).put N V M O I (0) (0) S.ticks (B - S.ticks) true) fun q => ?_; clear hK K hHeld; have hHeld := q; clear q
 refine tkP 10 5 (.int .i64 0) ?_; refine wpAnyH_done (by kernel_rfl) ?_ _
 refine NoPanic.normal ?_; clear z0 z1 z2 z3 z4 z5 z6 z7 z8 z9 zf; have hat := (hat8.put hws N V M O I (0) (0) S.ticks (B - S.ticks) true); have hdo := HD2.out.below hbc8 |>.put10 hat8.sb N V M O I (0) (0) S.ticks (B - S.ticks) true
 obtain ⟨w3, hw3⟩ : ∃ wx, put10 w8 w.heap.size N V M O I (0) (0) S.ticks (B - S.ticks) true = wx := ⟨_, rfl⟩
 rw [hw3] at hat hdo; unfold put10 at hw3; rw [hw3]; have HAT3 := Lib.hid hat; have HD3 := Lib.hid hdo; clear s0 s1 s2 s3 s4 s5 s6 s7 s8 s9 e0 e1 e2 e3 e4 e5 r0 r1 r2 r3 r4 r5 r6 r7 r8 r9 rf sf hat hw3 hdo; obtain ⟨s0, s1, s2, s3, s4, s5, s6, s7, s8, s9⟩ := cel10 HAT3.out.sb; obtain ⟨e0, e1, e2, e3, e4, e5⟩ := cel6 HAT3.out.xb; obtain ⟨r0, r1, r2, r3, r4, r5, r6, r7, r8, r9⟩ := celz HAT3.out.rb; have rf := blk_free HAT3.out.rb; have sf := blk_free HAT3.out.sb; go_wp2; have hfin := LoB.left (B := B) (S := S) (S' := S) (x := (0, 0)) HAT3.out hws HD3.out HCP.out.1 HCP.out.2; obtain ⟨w99, hw99⟩ : ∃ wx, put10 w3 (w.heap.size + 1 + 1) N V M O I (0) (0) S.ticks (B - S.ticks) true = wx := ⟨_, rfl⟩
 try dsimp only at hfin
 rw [hw99] at hfin; unfold put10 at hw99; rw [hw99]; exact bodyPost_ret (results_ds rfl _ _ (w.heap.size + 1 + 1) N V M O I (0) (0) S.ticks (B - S.ticks) true (by rfl) hfin.1) rfl hfin.2
set_option maxRecDepth 100000 in
set_option maxHeartbeats 8000000 in
theorem one_spent2 (W : World) (B : Int) (s : Stmt) (S : Ev) (h7 : s.kind ≠ 7) (hs : S.ticks = B) (hl : s.args.length = 2) : StmtC W B s S S (some (0, 0)) := by
 intro A0 c0 A1 c1 A2 c2 d hrd hrd1 hrd2 hr h64 hnl w N V M O I hB hD hF; have hws := hB.size; obtain ⟨w0, hw0, hat, hdo⟩ := LoB.begin (s := s) (A0 := A0) (c0 := c0) (A1 := A1) (c1 := c1) (A2 := A2) (c2 := c2) hB hD S.ticks (B - S.ticks); have HAT := Lib.hid hat; have HD := Lib.hid hdo; have HF := Lib.hid hF; have HB := Lib.hid hB; have HCP := Lib.hid hD.caps; have HW := Lib.hid hw0; have HR64 := Lib.hid (And.intro hr h64); clear hat hdo hB hD hF hw0 ; obtain ⟨s0, s1, s2, s3, s4, s5, s6, s7, s8, s9⟩ := cel10 HAT.out.sb; obtain ⟨e0, e1, e2, e3, e4, e5⟩ := cel6 HAT.out.xb; obtain ⟨r0, r1, r2, r3, r4, r5, r6, r7, r8, r9⟩ := celz HAT.out.rb
 have rf := blk_free HAT.out.rb; have sf := blk_free HAT.out.sb; unfold dsL Stmt.val
 have t7 : (s.kind == 7) = false := by simp [h7]
 have HT := Lib.hid (fun w' => tick_spent HF.out hs N V M O I w')
 rw [s.rightB_eq nameB d] at hr; simp only [Bool.and_eq_true, headB, decide_eq_true_eq] at hr
 obtain ⟨⟨⟨⟨⟨⟨⟨⟨_, hlen⟩, _⟩, _⟩, _⟩, _⟩, hra⟩, hrb⟩, hre⟩ := hr; have h64a := Stmt.in64_args h64; have hj0 : 0 < s.args.length := by omega
 have hga0 : s.args.getD 0 default = s.args[0]'hj0 := by simp [List.getD, hj0]
 have hra0 := Expr.rightsB_all hra (s.args[0]'hj0) (List.getElem_mem hj0); have h640 := Expr.in64_mem h64a (List.getElem_mem hj0); obtain ⟨a0, ha0⟩ : ∃ x, s.args[0]'hj0 = x := ⟨_, rfl⟩
 have HAX0 := Lib.hid (fun w' (hb : Below W.heap.size W w') => Expr.at hrd hb hj0)
 rw [ha0] at hga0 hra0 h640 HAX0; have hj0' : (0 : Int) < (s.args.length : Int) := by omega
 have hj1 : 1 < s.args.length := by omega
 have hga1 : s.args.getD 1 default = s.args[1]'hj1 := by simp [List.getD, hj1]
 have hra1 := Expr.rightsB_all hra (s.args[1]'hj1) (List.getElem_mem hj1); have h641 := Expr.in64_mem h64a (List.getElem_mem hj1); obtain ⟨a1, ha1⟩ : ∃ x, s.args[1]'hj1 = x := ⟨_, rfl⟩
 have HAX1 := Lib.hid (fun w' (hb : Below W.heap.size W w') => Expr.at hrd hb hj1)
 rw [ha1] at hga1 hra1 h641 HAX1; have hj1' : (1 : Int) < (s.args.length : Int) := by omega
 unfold dsL at HT; clear hl hs h64 hrd1 hrd2 hlen hra hrb hre h64a hj0 hga0 hra0 h640 ha0 hj1 hga1 hra1 h641 ha1; go_enter Try.func59, Try.ntmps59
 go_wp2_with (have tk := HW; clear tk; rw [HW.out]; clear HW)
 refine (HT.out _).mono ?_; rintro y w1 ⟨rfl, hb1⟩; have hat := HAT.out.next hws hb1; have hdo := HD.out.below hb1; have HAT1 := Lib.hid hat; have HD1 := Lib.hid hdo; clear s0 s1 s2 s3 s4 s5 s6 s7 s8 s9 e0 e1 e2 e3 e4 e5 r0 r1 r2 r3 r4 r5 r6 r7 r8 r9 rf sf hat hdo hb1; obtain ⟨s0, s1, s2, s3, s4, s5, s6, s7, s8, s9⟩ := cel10 HAT1.out.sb; obtain ⟨e0, e1, e2, e3, e4, e5⟩ := cel6 HAT1.out.xb; obtain ⟨r0, r1, r2, r3, r4, r5, r6, r7, r8, r9⟩ := celz HAT1.out.rb; have rf := blk_free HAT1.out.rb; have sf := blk_free HAT1.out.sb; go_wp2_with fail; have hat := (HAT1.out.put hws N V M O I (0) (0) S.ticks (B - S.ticks) true)
 have hdo := (docPut HD1.out HAT1.out N V M O I (0) (0) S.ticks (B - S.ticks) true).ends; obtain ⟨w2, hw2⟩ : ∃ wx, put10 w1 w.heap.size N V M O I (0) (0) S.ticks (B - S.ticks) true = wx := ⟨_, rfl⟩
 rw [hw2] at hat hdo; unfold put10 at hw2; rw [hw2]; have HAT2 := Lib.hid hat; have HD2 := Lib.hid hdo; clear s0 s1 s2 s3 s4 s5 s6 s7 s8 s9 e0 e1 e2 e3 e4 e5 r0 r1 r2 r3 r4 r5 r6 r7 r8 r9 rf sf hat hw2 hdo; obtain ⟨s0, s1, s2, s3, s4, s5, s6, s7, s8, s9⟩ := cel10 HAT2.out.sb; obtain ⟨e0, e1, e2, e3, e4, e5⟩ := cel6 HAT2.out.xb; obtain ⟨r0, r1, r2, r3, r4, r5, r6, r7, r8, r9⟩ := celz HAT2.out.rb; have rf := blk_free HAT2.out.rb; have sf := blk_free HAT2.out.sb; obtain ⟨ba0, oa0, B0, d0, hA0, hba0, m0, m1, m2, m3, m4, _, _, hr5⟩ := HAX0.out w2 HAT2.out.below; simp only [Nat.zero_mul, Nat.one_mul, Nat.add_zero] at m0 m1 m2 m3 m4
 subst hA0; clear hr5; have HE0 := Lib.hid (dvalue_gone a0 B0 d0 N V M O I (0) (0) S.ticks (B - S.ticks) w2.drew); unfold dsL at HE0; refine wp_region_noPanic ?_; refine wp_region_held_drew (S := KeepS (w.heap.size) w2) (by kernel_rfl) (KeepS.drew _ _) (fun hHeld => ?_)
 refine tkP 1 22 (.pointer (some ⟨w.heap.size + 1, 3, none⟩)) ?_; refine tkP 2 23 (.slice (some ⟨ba0, oa0, none⟩) s.args.length c0) ?_ (hy := Or.inl ⟨by rfl, fun U hU => by have q := hU.cell e3 (by omega); clear e3; go_simp⟩)
 refine tkP 3 24 (.pointer (some ⟨ba0, oa0, none⟩)) ?_; refine tkP 4 25 (.agg #[.int .i64 a0.kind, .int .i64 a0.num, .string a0.name, .int .i64 a0.op, .slice B0 a0.args.length d0]) ?_ (hy := Or.inl ⟨by rfl, fun U hU => by have q0 := hU.cell m0 (by omega); have q1 := hU.cell m1 (by omega); have q2 := hU.cell m2 (by omega); have q3 := hU.cell m3 (by omega); have q4 := hU.cell m4 (by omega); clear m0 m1 m2 m3 m4; go_simp⟩)
 refine rd1 0 (some 21) fun K hK => ?_
 go_simp; refine bk hK (hHeld) fun q => ?_; clear hK K hHeld; have hHeld := q; clear q
 refine rd1 5 (some 26) fun K hK => ?_
 go_simp; refine (HE0.out).mono ?_; rintro y w8 ⟨hb8, hy⟩; simp only [dsL] at hy
 subst hy; have hbc8 : Below w2.heap.size w2 w8 := below_fromdrew hb8
 have hat8 := HAT2.out.next hws hbc8; obtain ⟨z0, z1, z2, z3, z4, z5, z6, z7, z8, z9⟩ := cel10 hat8.sb; have zf := blk_free hat8.sb; refine bk hK ((KeepS.drew _ w2).below hb8) fun q => ?_; clear hK K hHeld; have hHeld := q; clear q
 refine tkP 6 20 (.tuple #[.agg #[.slice N.a N.n N.c, .slice V.a V.n V.c, .slice M.a M.n M.c, .slice O.a O.n O.c, .slice I.a I.n I.c, .int .i64 (0), .int .i64 (0), .int .i64 S.ticks, .int .i64 (B - S.ticks), .bool true], .int .i64 0]) ?_; refine tkP 7 27 (.agg #[.slice N.a N.n N.c, .slice V.a V.n V.c, .slice M.a M.n M.c, .slice O.a O.n O.c, .slice I.a I.n I.c, .int .i64 (0), .int .i64 (0), .int .i64 S.ticks, .int .i64 (B - S.ticks), .bool true]) ?_; refine tkP 8 28 (.int .i64 0) ?_; refine rd1 9 none fun K hK => ?_
 go_simp; refine bk hK (((KeepS.drew _ w2).below hb8).put N V M O I (0) (0) S.ticks (B - S.ticks) true) fun q => ?_; clear hK K hHeld; have hHeld := q; clear q
 refine tkP 10 5 (.int .i64 0) ?_; refine wpAnyH_done (by kernel_rfl) ?_ _
 refine NoPanic.normal ?_; clear z0 z1 z2 z3 z4 z5 z6 z7 z8 z9 zf; have hat := (hat8.put hws N V M O I (0) (0) S.ticks (B - S.ticks) true); have hdo := HD2.out.below hbc8 |>.put10 hat8.sb N V M O I (0) (0) S.ticks (B - S.ticks) true
 obtain ⟨w3, hw3⟩ : ∃ wx, put10 w8 w.heap.size N V M O I (0) (0) S.ticks (B - S.ticks) true = wx := ⟨_, rfl⟩
 rw [hw3] at hat hdo; unfold put10 at hw3; rw [hw3]; have HAT3 := Lib.hid hat; have HD3 := Lib.hid hdo; clear s0 s1 s2 s3 s4 s5 s6 s7 s8 s9 e0 e1 e2 e3 e4 e5 r0 r1 r2 r3 r4 r5 r6 r7 r8 r9 rf sf hat hw3 hdo; obtain ⟨s0, s1, s2, s3, s4, s5, s6, s7, s8, s9⟩ := cel10 HAT3.out.sb; obtain ⟨e0, e1, e2, e3, e4, e5⟩ := cel6 HAT3.out.xb; obtain ⟨r0, r1, r2, r3, r4, r5, r6, r7, r8, r9⟩ := celz HAT3.out.rb; have rf := blk_free HAT3.out.rb; have sf := blk_free HAT3.out.sb; go_wp2_with fail; obtain ⟨ba1, oa1, B1, d1, hA1, hba1, m0, m1, m2, m3, m4, _, _, hr5⟩ := HAX1.out w3 HAT3.out.below; simp only [Nat.zero_mul, Nat.one_mul, Nat.add_zero] at m0 m1 m2 m3 m4
 injection hA1 with hA1
 injection hA1 with hA1 hA2 _
 subst hA1; subst hA2; clear hr5; have HE1 := Lib.hid (dvalue_gone a1 B1 d1 N V M O I (0) (0) S.ticks (B - S.ticks) w3.drew); unfold dsL at HE1; refine wp_region_noPanic ?_; refine wp_region_held_drew (S := KeepS (w.heap.size) w3) (by kernel_rfl) (KeepS.drew _ _) (fun hHeld => ?_)
 refine tkP 1 35 (.pointer (some ⟨w.heap.size + 1, 3, none⟩)) ?_; refine tkP 2 36 (.slice (some ⟨ba0, oa0, none⟩) s.args.length c0) ?_ (hy := Or.inl ⟨by rfl, fun U hU => by have q := hU.cell e3 (by omega); clear e3; go_simp⟩)
 refine tkP 3 37 (.pointer (some ⟨ba0, oa0 + 5, none⟩)) ?_; refine tkP 4 38 (.agg #[.int .i64 a1.kind, .int .i64 a1.num, .string a1.name, .int .i64 a1.op, .slice B1 a1.args.length d1]) ?_ (hy := Or.inl ⟨by rfl, fun U hU => by have q0 := hU.cell m0 (by omega); have q1 := hU.cell m1 (by omega); have q2 := hU.cell m2 (by omega); have q3 := hU.cell m3 (by omega); have q4 := hU.cell m4 (by omega); clear m0 m1 m2 m3 m4; go_simp⟩)
 refine rd1 0 (some 34) fun K hK => ?_
 go_simp; refine bk hK (hHeld) fun q => ?_; clear hK K hHeld; have hHeld := q; clear q
 refine rd1 5 (some 39) fun K hK => ?_
 go_simp; refine (HE1.out).mono ?_; rintro y w8 ⟨hb8, hy⟩; simp only [dsL] at hy
 subst hy; have hbc8 : Below w3.heap.size w3 w8 := below_fromdrew hb8
 have hat8 := HAT3.out.next hws hbc8; obtain ⟨z0, z1, z2, z3, z4, z5, z6, z7, z8, z9⟩ := cel10 hat8.sb; have zf := blk_free hat8.sb; refine bk hK ((KeepS.drew _ w3).below hb8) fun q => ?_; clear hK K hHeld; have hHeld := q; clear q
 refine tkP 6 33 (.tuple #[.agg #[.slice N.a N.n N.c, .slice V.a V.n V.c, .slice M.a M.n M.c, .slice O.a O.n O.c, .slice I.a I.n I.c, .int .i64 (0), .int .i64 (0), .int .i64 S.ticks, .int .i64 (B - S.ticks), .bool true], .int .i64 0]) ?_; refine tkP 7 40 (.agg #[.slice N.a N.n N.c, .slice V.a V.n V.c, .slice M.a M.n M.c, .slice O.a O.n O.c, .slice I.a I.n I.c, .int .i64 (0), .int .i64 (0), .int .i64 S.ticks, .int .i64 (B - S.ticks), .bool true]) ?_; refine tkP 8 41 (.int .i64 0) ?_; refine rd1 9 none fun K hK => ?_
 go_simp; refine bk hK (((KeepS.drew _ w3).below hb8).put N V M O I (0) (0) S.ticks (B - S.ticks) true) fun q => ?_; clear hK K hHeld; have hHeld := q; clear q
 refine tkP 10 6 (.int .i64 0) ?_; refine wpAnyH_done (by kernel_rfl) ?_ _
 refine NoPanic.normal ?_; clear z0 z1 z2 z3 z4 z5 z6 z7 z8 z9 zf; have hat := (hat8.put hws N V M O I (0) (0) S.ticks (B - S.ticks) true); have hdo := HD3.out.below hbc8 |>.put10 hat8.sb N V M O I (0) (0) S.ticks (B - S.ticks) true
 obtain ⟨w4, hw4⟩ : ∃ wx, put10 w8 w.heap.size N V M O I (0) (0) S.ticks (B - S.ticks) true = wx := ⟨_, rfl⟩
 rw [hw4] at hat hdo; unfold put10 at hw4; rw [hw4]; have HAT4 := Lib.hid hat; have HD4 := Lib.hid hdo; clear s0 s1 s2 s3 s4 s5 s6 s7 s8 s9 e0 e1 e2 e3 e4 e5 r0 r1 r2 r3 r4 r5 r6 r7 r8 r9 rf sf hat hw4 hdo; obtain ⟨s0, s1, s2, s3, s4, s5, s6, s7, s8, s9⟩ := cel10 HAT4.out.sb; obtain ⟨e0, e1, e2, e3, e4, e5⟩ := cel6 HAT4.out.xb; obtain ⟨r0, r1, r2, r3, r4, r5, r6, r7, r8, r9⟩ := celz HAT4.out.rb; have rf := blk_free HAT4.out.rb; have sf := blk_free HAT4.out.sb; go_wp2; have hfin := LoB.left (B := B) (S := S) (S' := S) (x := (0, 0)) HAT4.out hws HD4.out HCP.out.1 HCP.out.2; obtain ⟨w99, hw99⟩ : ∃ wx, put10 w4 (w.heap.size + 1 + 1) N V M O I (0) (0) S.ticks (B - S.ticks) true = wx := ⟨_, rfl⟩
 try dsimp only at hfin
 rw [hw99] at hfin; unfold put10 at hw99; rw [hw99]; exact bodyPost_ret (results_ds rfl _ _ (w.heap.size + 1 + 1) N V M O I (0) (0) S.ticks (B - S.ticks) true (by rfl) hfin.1) rfl hfin.2
end Go.Proofs.Ytjlnpppjkdcpkaa.My
