/- The document's names are the program's. No conditions. -/
import Derived.Test.YtjlnpppjkdcpkaaEREvNs
import Derived.Test.YtjlnpppjkdcpkaaEREvN6
import Derived.Test.YtjlnpppjkdcpkaaEREvN7
import Derived.Test.YtjlnpppjkdcpkaaEREvN9
import Derived.Test.YtjlnpppjkdcpkaaEREvN10
import Derived.Test.YtjlnpppjkdcpkaaEREvN11
import Derived.Test.YtjlnpppjkdcpkaaEREvN12
import Derived.Test.YtjlnpppjkdcpkaaERTrN
import Derived.Test.YtjlnpppjkdcpkaaEREvG
namespace Go.Proofs.Ytjlnpppjkdcpkaa.My
open Go.RowKit Go.Proofs.Ytjlnpppjkdcpkaa.NumA
set_option linter.unusedVariables false
set_option linter.unusedSimpArgs false
set_option maxRecDepth 100000 in
set_option maxHeartbeats 8000000 in
theorem one_loops (W : World) (B : Int) (s : Stmt) (S S' : Ev) (o : Option (Int × Int)) (hk : s.kind = 7) (hc : LoopC W B s S S' o) : StmtC W B s S S' o := by
 intro A0 c0 A1 c1 A2 c2 d hrd hrd1 hrd2 hr h64 hnl w N V M O I hB hD hF; have hws := hB.size; obtain ⟨w0, hw0, hat, hdo⟩ := LoB.begin (s := s) (A0 := A0) (c0 := c0) (A1 := A1) (c1 := c1) (A2 := A2) (c2 := c2) hB hD S.ticks (B - S.ticks); have HAT := Lib.hid hat; have HD := Lib.hid hdo; have HF := Lib.hid hF; have HB := Lib.hid hB; have HCP := Lib.hid hD.caps; have HW := Lib.hid hw0; have HR64 := Lib.hid (And.intro hr h64); clear hat hdo hB hD hF hw0 ; obtain ⟨s0, s1, s2, s3, s4, s5, s6, s7, s8, s9⟩ := cel10 HAT.out.sb; obtain ⟨e0, e1, e2, e3, e4, e5⟩ := cel6 HAT.out.xb; obtain ⟨r0, r1, r2, r3, r4, r5, r6, r7, r8, r9⟩ := celz HAT.out.rb
 have rf := blk_free HAT.out.rb; have sf := blk_free HAT.out.sb; unfold dsL Stmt.val
 have t7 : (s.kind == 7) = true := by simp [hk]
 have HBL := Lib.hid (fun w' (hb : Below W.heap.size W w') (hd : DocAt w' W.heap.size S N V M O I) => hc A0 c0 A1 c1 A2 c2 d hrd hrd1 hk hr h64 hnl w' N V M O I hb hd HF.out)
 unfold dsL Stmt.val at HBL
 clear hrd hrd1 hrd2 hk hr h64 hc HR64; go_enter Try.func59, Try.ntmps59
 go_wp2_with (have tk := HW; clear tk; rw [HW.out]; clear HW)
 refine (HBL.out w0 HAT.out.below HD.out).mono ?_; rintro y w5 hy; obtain ⟨hb5, hf5, hy⟩ := hy; have hat := HAT.out.call hb5 hf5; have HAT5 := Lib.hid hat; clear s0 s1 s2 s3 s4 s5 s6 s7 s8 s9 e0 e1 e2 e3 e4 e5 r0 r1 r2 r3 r4 r5 r6 r7 r8 r9 rf sf hat hb5 hf5; obtain ⟨s0, s1, s2, s3, s4, s5, s6, s7, s8, s9⟩ := cel10 HAT5.out.sb; obtain ⟨e0, e1, e2, e3, e4, e5⟩ := cel6 HAT5.out.xb; obtain ⟨r0, r1, r2, r3, r4, r5, r6, r7, r8, r9⟩ := celz HAT5.out.rb; have rf := blk_free HAT5.out.rb; have sf := blk_free HAT5.out.sb
 cases o with
 | none =>
  obtain ⟨N1, V1, M1, O1, I1, hy, hd1⟩ := hy; simp only [dsL] at hy
  subst hy; go_wp2; have hfin := LoR.done (B := B) (S := S) (S' := S') HAT5.out.res hws hd1; obtain ⟨w99, hw99⟩ : ∃ wx, put10 w5 (w.heap.size + 1 + 1) N1 V1 M1 O1 I1 (0) (0) S'.ticks (B - S'.ticks) false = wx := ⟨_, rfl⟩
  try dsimp only at hfin
  rw [hw99] at hfin; unfold put10 at hw99; rw [hw99]; exact bodyPost_ret (results_ds rfl _ _ (w.heap.size + 1 + 1) N1 V1 M1 O1 I1 (0) (0) S'.ticks (B - S'.ticks) false (by rfl) hfin.1) rfl hfin.2
 | some x =>
  obtain ⟨N1, V1, M1, O1, I1, hy, hn1, hv1, hd1⟩ := hy; simp only [dsL] at hy
  subst hy; go_wp2; have hfin := LoR.left (B := B) (S := S) (S' := S') (x := x) HAT5.out.res hws hd1 hn1 hv1; obtain ⟨w99, hw99⟩ : ∃ wx, put10 w5 (w.heap.size + 1 + 1) N1 V1 M1 O1 I1 (x.1) (x.2) S'.ticks (B - S'.ticks) true = wx := ⟨_, rfl⟩
  try dsimp only at hfin
  rw [hw99] at hfin; unfold put10 at hw99; rw [hw99]; exact bodyPost_ret (results_ds rfl _ _ (w.heap.size + 1 + 1) N1 V1 M1 O1 I1 (x.1) (x.2) S'.ticks (B - S'.ticks) true (by rfl) hfin.1) rfl hfin.2
theorem exprsV_2 {S : Ev} {l : List Expr} (hl : l.length = 2) : exprsV S l = (match exprV S (l.getD 0 default) with
  | .left h v => .left h v
  | .ok v => match exprV S (l.getD 1 default) with
   | .left h u => .left h u
   | .ok u => .ok [v, u]) := by
 match l, hl with
 | [a, b], _ =>
  simp only [exprsV, List.getD, List.getElem?_cons_zero, List.getElem?_cons_succ, Option.getD_some]
  cases exprV S a <;> simp only
  cases exprV S b <;> rfl
theorem exprsV_0 {S : Ev} {l : List Expr} (hl : l.length = 0) : exprsV S l = .ok [] := by
 match l, hl with
 | [], _ => simp only [exprsV]
theorem stmt_args {s : Stmt} {d : Nat} (h : s.rightB nameB d = true) : (s.args.length : Int) = wantA s.kind ∧ 1 ≤ s.kind ∧ s.kind ≤ 9 := by
 rw [s.rightB_eq nameB d] at h; simp only [Bool.and_eq_true, headB, decide_eq_true_eq] at h
 obtain ⟨⟨⟨⟨⟨⟨⟨⟨h0, hlen⟩, _⟩, _⟩, _⟩, _⟩, _⟩, _⟩, _⟩ := h; exact ⟨hlen, h0⟩
/-- what is to be shown for a task -/
def TaskC (W : World) (B : Int) : Task → Ev → Ev → Option (Int × Int) → Prop
 | .stmt s, S, S', o => StmtC W B s S S' o
 | .seq l, S, S', o => SeqP W B l S S' o
 | .block l, S, S', o => BlockC W B l S S' o
 | .loop s, S, S', o => LoopP W B s S S' o
theorem stmtC_of {W : World} {B : Int} {s : Stmt} {S S' : Ev} {o : Option (Int × Int)} (h : (∃ d, s.rightB nameB d = true) → StmtC W B s S S' o) : StmtC W B s S S' o :=
 fun A0 c0 A1 c1 A2 c2 d r0 r1 r2 hr => h ⟨d, hr⟩ A0 c0 A1 c1 A2 c2 d r0 r1 r2 hr
theorem wantA_cases {k : Int} (h : 1 ≤ k ∧ k ≤ 9) : (k = 3 ∧ wantA k = 2) ∨ (k = 9 ∧ wantA k = 0) ∨ (k ≠ 3 ∧ k ≠ 9 ∧ wantA k = 1) := by
 have : k = 1 ∨ k = 2 ∨ k = 3 ∨ k = 4 ∨ k = 5 ∨ k = 6 ∨ k = 7 ∨ k = 8 ∨ k = 9 := by omega
 rcases this with rfl | rfl | rfl | rfl | rfl | rfl | rfl | rfl | rfl <;> simp [wantA]
theorem body_right {s : Stmt} (h6 : s.kind = 6) : ∀ {d : Nat}, s.rightB nameB d = true → Stmt.rightsB nameB (d + 1) s.body = true := by
 intro d h; rw [s.rightB_eq nameB d, if_pos (.inl h6)] at h; simp only [Bool.and_eq_true] at h
 exact h.1.2.2
theorem els_right {s : Stmt} : ∀ {d : Nat}, s.rightB nameB d = true → Stmt.rightsB nameB (d + 1) s.els = true := by
 intro d h; rw [s.rightB_eq nameB d] at h; simp only [Bool.and_eq_true] at h
 by_cases he : s.els.length = 0
 ·rw [List.eq_nil_of_length_eq_zero he]; simp [Stmt.rightsB]
 ·have h2 := h.2
  rw [if_neg he] at h2; simp only [Bool.and_eq_true] at h2
  exact h2.2
theorem in64_body {s : Stmt} (h : s.in64) : Stmt.in64L s.body := by cases s; simp only [Stmt.in64] at h; exact h.2.2.2.1
theorem in64_els {s : Stmt} (h : s.in64) : Stmt.in64L s.els := by cases s; simp only [Stmt.in64] at h; exact h.2.2.2.2
theorem exprsV_2nf {S : Ev} {l : List Expr} (hl : l.length = 2) (hf : ∀ u, exprsV S l ≠ .left 0 u) : ∀ u, exprV S (l.getD 0 default) ≠ .left 0 u := fun u hu => hf u (by rw [exprsV_2 hl, hu])
/-- what a task does, the document's functions do -/
theorem DoesF.taskC {W : World} {B : Int} {t : Task} {S S' : Ev} {o : Option (Int × Int)} (hd : DoesF B t S S' o) : TaskC W B t S S' o := by
 induction hd with
 | nil => exact SeqP.nil
 | first d ih => exact SeqP.first d ih
 | next d1 d2 ih1 ih2 => exact SeqP.next d1 ih1 ih2
 | @block l S S' hg d ih => exact dblk_of W B l S S' none ih hg
 | @blockLeft l S S' x d ih => exact dblk_of W B l S S' (some x) ih d.does_.grow
 | @loops s S S' o hk d ih => exact one_loops W B s S S' o hk (dloop_of W B s S S' o ih)
 | @spent s S h7 hs =>
  refine stmtC_of fun ⟨d, hr⟩ => ?_
  obtain ⟨hl, hk⟩ := stmt_args hr; rcases wantA_cases hk with ⟨h3, hw⟩ | ⟨h9, hw⟩ | ⟨h3, h9, hw⟩
  ·exact one_spent2 W B s S h7 hs (by omega)
  ·exact one_spent0 W B s S h7 hs (by omega)
  ·exact one_spent1 W B s S h7 hs (by omega)
 | @fell s S h v h7 hs hnf hv =>
  refine stmtC_of fun ⟨d, hr⟩ => ?_
  obtain ⟨hl, hk⟩ := stmt_args hr; rcases wantA_cases hk with ⟨h3, hw⟩ | ⟨h9, hw⟩ | ⟨h3, h9, hw⟩
  ·have hl2 : s.args.length = 2 := by omega
   have hn0 := exprsV_2nf hl2 hnf; have hv0 := hv; rw [exprsV_2 hl2] at hv
   cases e0 : exprV S.tick (s.args.getD 0 default) with
   | left h0 v0 =>
    rw [e0] at hv; simp only [Got.left.injEq] at hv
    obtain ⟨rfl, rfl⟩ := hv; exact one_fell20 W B s S (u0 := 0) h7 hs hl2 hn0 e0
   | ok v0 =>
    rw [e0] at hv; simp only at hv
    cases e1 : exprV S.tick (s.args.getD 1 default) with
    | left h1 v1 =>
     rw [e1] at hv; simp only [Got.left.injEq] at hv
     obtain ⟨rfl, rfl⟩ := hv; refine one_fell21 W B s S (u0 := v0) h7 hs hl2 hn0 e0 (fun u hu => hnf u ?_) e1
     rw [hv0]; rw [e1] at hu; injection hu with q1 q2; rw [q1, q2]
    | ok v1 => rw [e1] at hv; cases hv
  ·rw [exprsV_0 (by omega)] at hv; cases hv
  ·have hl1 : s.args.length = 1 := by omega
   exact one_fell10 W B s S (u0 := 0) h7 hs hl1 (exprsV_1found hl1 hnf) (exprsV_1left hl1 hv)
 | @does s S vs h7 h6 hs hname hv =>
  refine stmtC_of fun ⟨d, hr⟩ => ?_
  obtain ⟨hl, hk⟩ := stmt_args hr; rcases wantA_cases hk with ⟨h3, hw⟩ | ⟨h9, hw⟩ | ⟨h3, h9, hw⟩
  ·have hl2 : s.args.length = 2 := by omega
   rw [exprsV_2 hl2] at hv
   cases e0 : exprV S.tick (s.args.getD 0 default) with
   | left h0 v0 => rw [e0] at hv; cases hv
   | ok v0 =>
    rw [e0] at hv; simp only at hv
    cases e1 : exprV S.tick (s.args.getD 1 default) with
    | left h1 v1 => rw [e1] at hv; cases hv
    | ok v1 =>
     rw [e1] at hv; simp only [Got.ok.injEq] at hv
     subst hv; show StmtC W B s S (doV S.tick s v0 v1).1 (doV S.tick s v0 v1).2
     by_cases hin : 0 ≤ v0 ∧ v0 < (S.mem.length : Int)
     ·rw [show doV S.tick s v0 v1 = ({ S.tick with mem := S.tick.mem.set v0.toNat v1 }, none) by unfold doV; rw [if_neg (by omega), if_neg (by omega), if_pos h3, if_pos (show 0 ≤ v0 ∧ v0 < (S.tick.mem.length : Int) from hin)]]
      exact one_store W B s S h7 hs hl2 (fun u => by rw [e0]; exact fun hh => nomatch hh) e0 (fun u => by rw [e1]; exact fun hh => nomatch hh) e1 h3 hin
     ·rw [show doV S.tick s v0 v1 = (S.tick, some (3, v0)) by unfold doV; rw [if_neg (by omega), if_neg (by omega), if_pos h3, if_neg (show ¬ (0 ≤ v0 ∧ v0 < (S.tick.mem.length : Int)) from hin)]]
      exact one_storeOut W B s S h7 hs hl2 (fun u => by rw [e0]; exact fun hh => nomatch hh) e0 (fun u => by rw [e1]; exact fun hh => nomatch hh) e1 h3 hin
  ·have hl0 : s.args.length = 0 := by omega
   rw [exprsV_0 hl0] at hv
   cases hv
   show StmtC W B s S (doV S.tick s 0 0).1 (doV S.tick s 0 0).2
   rw [show doV S.tick s 0 0 = (S.tick, some (1, 0)) by unfold doV; rw [if_neg (by omega), if_neg (by omega), if_neg (by omega), if_neg (by omega), if_neg (by omega), if_neg (by omega), if_pos h9]]
   exact one_end9 W B s S h7 hs hl0 h9
  ·have hl1 : s.args.length = 1 := by omega
   obtain ⟨v, e0, rfl⟩ := exprsV_1ok hl1 hv; show StmtC W B s S (doV S.tick s v 0).1 (doV S.tick s v 0).2
   have hnf : ∀ u, exprV S.tick (s.args.getD 0 default) ≠ .left 0 u := fun u => by rw [e0]; exact fun hh => nomatch hh
   have hkk : s.kind = 1 ∨ s.kind = 2 ∨ s.kind = 4 ∨ s.kind = 5 ∨ s.kind = 8 := by omega
   rcases hkk with k1 | k2 | k4 | k5 | k8
   ·rw [show doV S.tick s v 0 = ({ S.tick with names := S.tick.names ++ [s.name], vals := S.tick.vals ++ [v] }, none) by unfold doV; rw [if_pos k1]]
    exact one_var W B s S h7 hs hl1 hnf e0 k1
   ·obtain ⟨i, hi⟩ := hname k2
    have h2 : (doV S.tick s v 0).2 = none := by
     unfold doV; rw [if_neg (by omega), if_pos k2, show S.tick.names = S.names from rfl, hi]
    rw [h2]; exact one_set W B s S h7 hs hl1 hnf e0 k2 ⟨i, hi⟩
   ·rw [show doV S.tick s v 0 = ({ S.tick with outs := S.tick.outs ++ [v] }, none) by unfold doV; rw [if_neg (by omega), if_neg (by omega), if_neg (by omega), if_pos k4]]
    exact one_out W B s S h7 hs hl1 hnf e0 k4
   ·rw [show doV S.tick s v 0 = ({ S.tick with intos := S.tick.intos ++ [(s.cell, v)] }, none) by unfold doV; rw [if_neg (by omega), if_neg (by omega), if_neg (by omega), if_neg (by omega), if_pos k5]]
    exact one_into W B s S h7 hs hl1 hnf e0 k5
   ·rw [show doV S.tick s v 0 = (S.tick, some (4, v)) by unfold doV; rw [if_neg (by omega), if_neg (by omega), if_neg (by omega), if_neg (by omega), if_neg (by omega), if_pos k8]]
    exact one_end8 W B s S h7 hs hl1 hnf e0 k8
 | @thn s S S' o vs h6 hs hv hz d ih =>
  refine stmtC_of fun ⟨dd, hr⟩ => ?_
  obtain ⟨hl, hk⟩ := stmt_args hr; have hw : wantA s.kind = 1 := by rw [h6]; rfl
  have hl1 : s.args.length = 1 := by omega
  obtain ⟨v, e0, rfl⟩ := exprsV_1ok hl1 hv; exact one_ift W B s S (by omega) hs hl1 (fun u => by rw [e0]; exact fun hh => nomatch hh) e0 h6 hz (body_right h6) in64_body ih
 | @els s S S' o vs h6 hs hv hz d ih =>
  refine stmtC_of fun ⟨dd, hr⟩ => ?_
  obtain ⟨hl, hk⟩ := stmt_args hr; have hw : wantA s.kind = 1 := by rw [h6]; rfl
  have hl1 : s.args.length = 1 := by omega
  obtain ⟨v, e0, rfl⟩ := exprsV_1ok hl1 hv; exact one_ife W B s S (by omega) hs hl1 (fun u => by rw [e0]; exact fun hh => nomatch hh) e0 h6 hz els_right in64_els ih
 | loopSpent h => exact LoopP.spent h
 | loopFell h1 h2 h3 => exact LoopP.fell h1 h2 h3
 | loopEnd h1 h2 h3 => exact LoopP.ends h1 h2 h3
 | loopLeft h1 h2 h3 d ih => exact LoopP.left h1 h2 h3 d ih
 | again h1 h2 h3 d1 d2 ih1 ih2 => exact LoopP.again h1 h2 h3 d1 ih1 ih2
end Go.Proofs.Ytjlnpppjkdcpkaa.My
namespace Go.Proofs.Ytjlnpppjkdcpkaa.My
open Go.RowKit
set_option linter.unusedVariables false
set_option linter.unusedSimpArgs false
theorem docLetter_calls (c : Int) (w : World) : Calls Try.prog 91 #[.int .u8 c] w fun e w' => e = .returned (.bool (letterB c)) ∧ w' = w := by
 go_enter Try.func91, Try.ntmps91
 by_cases h1 : 97 ≤ c <;> by_cases h2 : c ≤ 122 <;> by_cases h3 : 65 ≤ c <;> by_cases h4 : c ≤ 90 <;> by_cases h5 : (c == 95) = true
 all_goals try (have := eq_of_beq h5; exfalso; omega)
 all_goals try (rw [Bool.not_eq_true] at h5)
 all_goals
  go_wp2; go_ret; first
   | (have h : letterB c = true := by simp only [letterB, Bool.or_eq_true, decide_eq_true_eq]; first | omega | (have := eq_of_beq h5; omega)
      exact ⟨congrArg (fun b => Ending.returned (.bool b)) h.symm, rfl⟩)
   | (have h : letterB c = false := by simp only [letterB, Bool.or_eq_false_iff, decide_eq_false_iff_not]; have := ne_of_beq_false h5; omega
      exact ⟨congrArg (fun b => Ending.returned (.bool b)) h.symm, rfl⟩)
theorem docDigit_calls (c : Int) (w : World) : Calls Try.prog 92 #[.int .u8 c] w fun e w' => e = .returned (.bool (digitB c)) ∧ w' = w := by
 go_enter Try.func92, Try.ntmps92
 by_cases h1 : 48 ≤ c <;> by_cases h2 : c ≤ 57
 all_goals
  go_wp2; go_ret; first
   | (have h : digitB c = true := by simp only [digitB, decide_eq_true_eq]; omega
      exact ⟨congrArg (fun b => Ending.returned (.bool b)) h.symm, rfl⟩)
   | (have h : digitB c = false := by simp only [digitB, decide_eq_false_iff_not]; omega
      exact ⟨congrArg (fun b => Ending.returned (.bool b)) h.symm, rfl⟩)
def rowB (s : ByteArray) : Bool := decide (0 < s.size) && (List.range s.size).all fun k => letterB (byteN s k) || (digitB (byteN s k) && decide (k ≠ 0))
theorem rowB_eq (s : ByteArray) (h0 : 0 < s.size) : rowB s = (letterB (byteN s 0) && allB s) := by
 rw [Bool.eq_iff_iff]; simp only [rowB, allB, Bool.and_eq_true, decide_eq_true_eq, List.all_eq_true, List.mem_range, Bool.or_eq_true]
 constructor
 ·rintro ⟨_, h⟩
  refine ⟨?_, fun k hk => ?_⟩
  ·rcases h 0 h0 with h1 | ⟨_, h1⟩
   ·exact h1
   ·exact absurd rfl h1
  ·rcases h k hk with h1 | ⟨h1, _⟩
   ·exact .inl h1
   ·exact .inr h1
 ·rintro ⟨h1, h⟩
  refine ⟨h0, fun k hk => ?_⟩
  by_cases hk0 : k = 0
  ·subst hk0; exact .inl h1
  ·rcases h k hk with h2 | h2
   ·exact .inl h2
   ·exact .inr ⟨h2, hk0⟩
theorem docRow_calls (s : ByteArray) (w : World) (hs : s.size ≤ maxLen) : Calls Try.prog 75 #[.string s] w fun e w' => e = .returned (.bool (rowB s)) ∧ w' = w := by
 unfold maxLen at hs; go_enter Try.func75, Try.ntmps75
 go_wp2; go_loop [3] (fun i => ∃ k : Nat, k ≤ s.size ∧ i = .int .i64 k ∧ Hid (∀ j, j < k → (letterB (byteN s j) || (digitB (byteN s j) && decide (j ≠ 0))) = true)) (fun i => s.size - (intOf i).toNat)
 case atStart => exact ⟨0, Nat.zero_le _, rfl, Lib.hid (fun j hj => absurd hj (Nat.not_lt_zero _))⟩
 case round =>
  obtain ⟨k, hk, rfl, HK⟩ := hrel; by_cases hlt : k < s.size
  ·have hbk : byteN s k = (s[k].toNat : Int) := by simp [byteN, hlt]
   have hlt' : (k : Int) < (s.size : Int) := by omega
   have hk0 : (0 : Int) ≤ (k : Int) := by omega
   have hbad : letterB (byteN s k) = false → (digitB (byteN s k) = false ∨ k = 0) → rowB s = false := fun h1 h2 => by
    rw [rowB, Bool.and_eq_false_iff]; right
    rw [List.all_eq_false]; refine ⟨k, List.mem_range.2 hlt, ?_⟩
    rcases h2 with h2 | h2
    ·simp [h1, h2]
    ·subst h2; simp [h1]
   by_cases hl : letterB (s[k].toNat : Int) = true
   ·have HL := Lib.hid hl
    have HS := Lib.hid (show ∀ j, j < k + 1 → (letterB (byteN s j) || (digitB (byteN s j) && decide (j ≠ 0))) = true from fun j hj => by
     by_cases hjk : j = k
     ·rw [hjk, hbk, hl]; rfl
     ·exact HK.out j (by omega))
    clear hl hbk hbad; go_wp2_with (go_at_call 91; go_must (refine (docLetter_calls _ _).mono ?_); rintro x w1 ⟨rfl, rfl⟩; rw [HL.out])
    go_round
    case rel => exact ⟨k + 1, by omega, by go_num, HS⟩
    case measure => simp [intOf]; omega
   ·have HL := Lib.hid (show letterB (s[k].toNat : Int) = false by simpa using hl)
    by_cases hd : digitB (s[k].toNat : Int) = true
    ·have HD := Lib.hid hd
     by_cases hz : k = 0
     ·have HR := Lib.hid (hbad (by rw [hbk]; exact HL.out) (.inr hz))
      have hz' : ((k : Int) == 0) = true := by simp [hz]
      clear hl hd hbk hbad hz; go_wp2_with (first | (go_at_call 92; go_must (refine (docDigit_calls _ _).mono ?_); rintro x w3 ⟨rfl, rfl⟩; rw [HD.out]) | (go_at_call 91; go_must (refine (docLetter_calls _ _).mono ?_); rintro x w1 ⟨rfl, rfl⟩; rw [HL.out]))
      go_ret; exact ⟨congrArg (fun b => Ending.returned (.bool b)) HR.out.symm, rfl⟩
     ·have HS := Lib.hid (show ∀ j, j < k + 1 → (letterB (byteN s j) || (digitB (byteN s j) && decide (j ≠ 0))) = true from fun j hj => by
       by_cases hjk : j = k
       ·rw [hjk, hbk, hd]; simp [hz]
       ·exact HK.out j (by omega))
      have hz' : ((k : Int) == 0) = false := by simp [hz]
      clear hl hd hbk hbad hz; go_wp2_with (first | (go_at_call 92; go_must (refine (docDigit_calls _ _).mono ?_); rintro x w3 ⟨rfl, rfl⟩; rw [HD.out]) | (go_at_call 91; go_must (refine (docLetter_calls _ _).mono ?_); rintro x w1 ⟨rfl, rfl⟩; rw [HL.out]))
      go_round
      case rel => exact ⟨k + 1, by omega, by go_num, HS⟩
      case measure => simp [intOf]; omega
    ·have HD := Lib.hid (show digitB (s[k].toNat : Int) = false by simpa using hd)
     have HR := Lib.hid (hbad (by rw [hbk]; exact HL.out) (.inl (by rw [hbk]; exact HD.out)))
     clear hl hd hbk hbad; go_wp2_with (first | (go_at_call 92; go_must (refine (docDigit_calls _ _).mono ?_); rintro x w3 ⟨rfl, rfl⟩; rw [HD.out]) | (go_at_call 91; go_must (refine (docLetter_calls _ _).mono ?_); rintro x w1 ⟨rfl, rfl⟩; rw [HL.out]))
     go_ret; exact ⟨congrArg (fun b => Ending.returned (.bool b)) HR.out.symm, rfl⟩
  ·have hke : k = s.size := by omega
   subst hke; by_cases h0 : 0 < s.size
   ·have HR := Lib.hid (show rowB s = true by
     rw [rowB, Bool.and_eq_true, List.all_eq_true]; exact ⟨by simpa using h0, fun j hj => HK.out j (List.mem_range.1 hj)⟩)
    have h0' : (0 : Int) < (s.size : Int) := by omega
    go_wp2; go_ret; exact ⟨congrArg (fun b => Ending.returned (.bool b)) HR.out.symm, rfl⟩
   ·have HR := Lib.hid (show rowB s = false by simp [rowB, h0])
    have h0' : ¬ (0 : Int) < (s.size : Int) := by omega
    go_wp2; go_ret; exact ⟨congrArg (fun b => Ending.returned (.bool b)) HR.out.symm, rfl⟩
theorem docWords_calls (s : ByteArray) (w : World) : Calls Try.prog 76 #[.string s] w fun e w' => e = .returned (.bool (wordsB s)) ∧ Below w.heap.size w w' := by
 have hww : wordsB s = words.any (fun k => decide (s = k)) := by
  rw [Bool.eq_iff_iff]; simp only [wordsB, kwl, words, List.any_cons, List.any_nil, Bool.or_false, Bool.or_eq_true, decide_eq_true_eq]
  constructor <;> (intro h; rcases h with h | h | h | h | h | h | h | h | h | h | h <;> simp [h])
 have HWW := Lib.hid hww; clear hww; go_enter Try.func76, Try.ntmps76
 go_wp2; have hR : Row (w.alloc (.cells (words.map Value.string).toArray 9)) 9 1 (.slice (some ⟨w.heap.size, 0, none⟩) 11 11) 11 (words.map Value.string) := by
  have h := Row.laid (w := w) (e := 9) (size := 1) (cs := (words.map Value.string).toArray) (n := 11) rfl rfl (by decide)
  simpa using h
 have HR := Lib.hid hR; clear hR; go_loop [4] (fun i => ∃ k : Nat, k ≤ 11 ∧ i = .int .i64 k ∧ Hid (∀ j (hj : j < words.length), j < k → words[j] ≠ s)) (fun i => 11 - (intOf i).toNat)
 case atStart => exact ⟨0, Nat.zero_le _, rfl, Lib.hid (fun j hj h => absurd h (Nat.not_lt_zero _))⟩
 case round =>
  obtain ⟨k, hk, rfl, HN⟩ := hrel; by_cases hlt : k < 11
  ·have hkw : k < words.length := hlt
   obtain ⟨g, c', hv, hcell, _⟩ := HR.out.cell (j := k) (u := .string words[k]) (by rw [List.getElem?_map, List.getElem?_eq_getElem (show k < words.length from hlt)]; rfl)
   have hg : g = w.heap.size := by simp at hv; exact hv.1.symm
   subst hg; have hc : (w.alloc (.cells #[.string ⟨#[109]⟩, .string ⟨#[105, 102]⟩, .string ⟨#[118, 97, 114]⟩, .string ⟨#[109, 105, 110]⟩, .string ⟨#[109, 97, 120]⟩, .string ⟨#[101, 108, 115, 101]⟩, .string ⟨#[101, 109, 105, 116]⟩, .string ⟨#[105, 110, 116, 111]⟩, .string ⟨#[102, 97, 105, 108]⟩, .string ⟨#[115, 116, 111, 112]⟩, .string ⟨#[119, 104, 105, 108, 101]⟩] 9)).cell? ⟨w.heap.size, k, none⟩ = some (.string words[k]) := hcell
   clear hcell hv; by_cases he : words[k] = s
   ·have b4 := (beq_str words[k] s).2 he
    have HR := Lib.hid (show wordsB s = true by rw [HWW.out, List.any_eq_true]; exact ⟨words[k], List.getElem_mem _, by simp [he]⟩)
    clear he; go_wp2; go_ret; exact ⟨congrArg (fun b => Ending.returned (.bool b)) HR.out.symm, (Below.refl _ _).alloc (Nat.le_refl _) _⟩
   ·have b4 := beq_strf he
    have HS := Lib.hid (show ∀ j (hj : j < words.length), j < k + 1 → words[j] ≠ s from fun j hj h => by
     by_cases hjk : j = k
     ·subst hjk; exact he
     ·exact HN.out j hj (by omega))
    clear he; go_wp2; go_round
    case rel => exact ⟨k + 1, by omega, by go_num, HS⟩
    case measure => simp [intOf]; omega
  ·have HR := Lib.hid (show wordsB s = false by
    rw [HWW.out, List.any_eq_false]; intro x hx; obtain ⟨j, hj, rfl⟩ := List.mem_iff_getElem.1 hx; have h1 := HN.out j hj (by have : words.length = 11 := rfl; omega)
    simpa using Ne.symm h1)
   go_wp2; all_goals
    go_ret; exact ⟨congrArg (fun b => Ending.returned (.bool b)) HR.out.symm, (Below.refl _ _).alloc (Nat.le_refl _) _⟩
theorem nameB_eq (s : ByteArray) : nameB s = (decide (s.size ≤ 12) && rowB s && !wordsB s) := by
 by_cases h0 : 0 < s.size
 ·rw [rowB_eq s h0, Bool.eq_iff_iff]
  simp only [nameB, Bool.and_eq_true, decide_eq_true_eq]
  constructor
  ·rintro ⟨⟨⟨h1, h2⟩, h3⟩, h4⟩; exact ⟨⟨h1.2, h2, h4⟩, h3⟩
  ·rintro ⟨⟨h1, h2, h4⟩, h3⟩; exact ⟨⟨⟨⟨h0, h1⟩, h2⟩, h3⟩, h4⟩
 ·have : nameB s = false := by simp [nameB, h0]
  rw [this, rowB]; simp [h0]
theorem docName_calls (s : ByteArray) (w : World) (hs : s.size ≤ maxLen) : Calls Try.prog 52 #[.string s] w fun e w' => e = .returned (.bool (nameB s)) ∧ Below w.heap.size w w' := by
 have hs' := hs; unfold maxLen at hs'; have HE := Lib.hid (nameB_eq s); by_cases h12 : s.size ≤ 12
 ·have h12' : (s.size : Int) ≤ 12 := by omega
  have HE2 := Lib.hid (show nameB s = (rowB s && !wordsB s) by rw [HE.out]; simp [h12])
  clear h12; by_cases hr : rowB s = true
  ·have HR := Lib.hid hr
   have HQ := Lib.hid (show nameB s = !wordsB s by rw [HE2.out, hr]; rfl)
   clear hr; go_enter Try.func52, Try.ntmps52
   go_wp2_with (first | (go_at_call 76; go_must (refine (docWords_calls _ _).mono ?_); rintro x w2 ⟨rfl, hb2⟩; rw [← HQ'.out]) | (go_at_call 76; go_must (refine (docWords_calls _ _).mono ?_); rintro x w2 ⟨rfl, hb2⟩) | (go_at_call 75; go_must (refine (docRow_calls _ _ hs).mono ?_); rintro x w1 ⟨rfl, rfl⟩; rw [HR.out]))
   go_ret; exact ⟨congrArg (fun b => Ending.returned (.bool b)) HQ.out.symm, hb2⟩
  ·have HR := Lib.hid (show rowB s = false by simpa using hr)
   have HQ := Lib.hid (show nameB s = false by rw [HE2.out, HR.out]; rfl)
   clear hr; go_enter Try.func52, Try.ntmps52
   go_wp2_with (go_at_call 75; go_must (refine (docRow_calls _ _ hs).mono ?_); rintro x w1 ⟨rfl, rfl⟩; rw [HR.out])
   go_ret; exact ⟨congrArg (fun b => Ending.returned (.bool b)) HQ.out.symm, Below.refl _ _⟩
 ·have h12' : ¬ (s.size : Int) ≤ 12 := by omega
  have HQ := Lib.hid (show nameB s = false by rw [HE.out]; simp [h12])
  clear h12; go_enter Try.func52, Try.ntmps52
  go_wp2_with fail; all_goals
   go_ret; exact ⟨congrArg (fun b => Ending.returned (.bool b)) HQ.out.symm, Below.refl _ _⟩
end Go.Proofs.Ytjlnpppjkdcpkaa.My
