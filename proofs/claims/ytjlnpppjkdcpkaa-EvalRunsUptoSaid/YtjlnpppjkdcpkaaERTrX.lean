/- Which expressions may be: the program's test, walked. -/
import Derived.Test.YtjlnpppjkdcpkaaERTrW
namespace Go.Proofs.Ytjlnpppjkdcpkaa.My
open Go.RowKit
set_option linter.unusedVariables false
set_option linter.unusedSimpArgs false
/-- a test of a tree's part, of n nodes, from a count of c on -/
def TestOK (w : World) (q : Nat) (c : Int) (ok : Bool) (n : Nat) (e : Ending) (w' : World) : Prop :=
 e = .returned (.bool (ok && decide (c + (n : Int) ≤ 600))) ∧ Keep (fun k => k = q) w w' ∧ ∃ c1, cnt w' q c1 ∧ ((ok && decide (c + (n : Int) ≤ 600)) = true → c1 = c + n)
theorem TestOK.no {w w' : World} {q : Nat} {c c1 : Int} {ok : Bool} {n : Nat} (h : (ok && decide (c + (n : Int) ≤ 600)) = false) (hk : Keep (fun k => k = q) w w') (hc : cnt w' q c1) : TestOK w q c ok n (.returned (.bool false)) w' :=
 ⟨by rw [h], hk, c1, hc, fun h2 => by rw [h] at h2; cases h2⟩
theorem TestOK.yes {w w' : World} {q : Nat} {c c1 : Int} {ok : Bool} {n : Nat} (h : (ok && decide (c + (n : Int) ≤ 600)) = true) (hk : Keep (fun k => k = q) w w') (hc : cnt w' q c1) (he : c1 = c + n) : TestOK w q c ok n (.returned (.bool true)) w' :=
 ⟨by rw [h], hk, c1, hc, fun _ => he⟩
theorem cntB {q : Nat} {c : Int} {w1 w2 : World} (h : cnt w1 q c) (hb : Below w1.heap.size w1 w2) : cnt w2 q c := below_blk hb h (blk_lt h)
set_option maxRecDepth 100000 in
set_option maxHeartbeats 4000000 in
theorem rexpr_calls (W : World) (q : Nat) (hqW : W.heap.size ≤ q) (N : Nat) : ∀ (e : Expr) (A : Option Addr) (c : Nat), e.nodes ≤ N → Expr.rds W e.args A 0 → e.args.length ≤ c → e.name.size ≤ maxLen → ∀ (deep : Nat) (c0 : Int) (w : World), deep ≤ 1000 → 0 ≤ c0 → c0 ≤ 600 → Below W.heap.size W w → cnt w q c0 →
  Calls Try.prog 84 #[.pointer (some ⟨q, 0, none⟩), .agg #[.int .i64 e.kind, .int .i64 e.num, .string e.name, .int .i64 e.op, .slice A e.args.length c], .int .i64 (deep : Int)] w (TestOK w q c0 (e.rightB nameB deep) e.nodes) := by
 induction N with
 | zero => intro e A c hN; have := e.nodes_eq; omega
 | succ N ih =>
  intro e A c hN hrd hc hs deep c0 w hdp h0 h6 hB hq; have hne := e.nodes_eq; have HNE := Lib.hid hne; have hal := Expr.nodesL_len e.args; have HRB := Lib.hid (e.rightB_eq nameB deep); have HC := Lib.hid hq; have HBW := Lib.hid hB; have HRD := Lib.hid hrd; have HIH := Lib.hid ih; have HSZ := Lib.hid hs; have hlt := blk_lt hq; have HK0 : Hid (Keep (fun k => k = q) w (w.alloc (.cells #[.int .i64 e.kind, .int .i64 e.num, .string e.name, .int .i64 e.op, .slice A e.args.length c] 66))) := Lib.hid (Keep.alloc (Keep.refl _ _) _)
  have HC0 := Lib.hid (show cnt (w.alloc (.cells #[.int .i64 e.kind, .int .i64 e.num, .string e.name, .int .i64 e.op, .slice A e.args.length c] 66)) q c0 from blk_alloc hq _)
  have hx := blk_new w (.cells #[.int .i64 e.kind, .int .i64 e.num, .string e.name, .int .i64 e.op, .slice A e.args.length c] 66); obtain ⟨w0, hw0⟩ : ∃ w0, w.alloc (.cells #[.int .i64 e.kind, .int .i64 e.num, .string e.name, .int .i64 e.op, .slice A e.args.length c] 66) = w0 := ⟨_, rfl⟩
  rw [hw0] at HK0 HC0 hx; have HX := Lib.hid hx; have HW := Lib.hid hw0; have HQ := Lib.hid (show w.heap.size ≠ q by omega)
  have HQW := Lib.hid hqW; clear hq hB hrd hw0 hx ih hs hlt; by_cases hd : 48 < deep
  ·have hd' : (deep : Int) > 48 := by omega
   have HNO := Lib.hid (show (e.rightB nameB deep && decide (c0 + (e.nodes : Int) ≤ 600)) = false by rw [HRB.out]; simp; omega)
   clear hne; go_enter Try.func84, Try.ntmps84
   go_wp2; rw [HW.out]; go_ret; exact TestOK.no HNO.out HK0.out HC0.out
  have hd' : ¬ ((deep : Int) > 48) := by omega
  by_cases hcn : 600 ≤ c0
  ·have HNO := Lib.hid (show (e.rightB nameB deep && decide (c0 + (e.nodes : Int) ≤ 600)) = false by simp; omega)
   have HD := Lib.hid (show decide (c0 + 1 ≤ 600) = false by simp; omega)
   clear hne; go_enter Try.func84, Try.ntmps84
   go_wp2_with (first | (go_at_call 60; go_must (refine (one_calls q c0 _ HC0.out h0 (by omega)).mono ?_); rintro x w1 ⟨rfl, hk1, hc1⟩; rw [HD.out]; have HK1 := Lib.hid (HK0.out.step hk1); have HC1 := Lib.hid hc1; clear hk1 hc1) | (have tk := HW; clear tk; rw [HW.out]; clear HW))
   go_ret; exact TestOK.no HNO.out HK1.out HC1.out
  have HD := Lib.hid (show decide (c0 + 1 ≤ 600) = true by simp; omega)
  have hkk : e.kind = 1 ∨ e.kind = 2 ∨ e.kind = 3 ∨ e.kind = 4 ∨ e.kind = 5 ∨ ¬ (1 ≤ e.kind ∧ e.kind ≤ 5) := by omega
  rcases hkk with hK | hK | hK | hK | hK | hK
  focus
   have t1 : (e.kind == 1) = true := by simp [hK]
   have u1 : (e.kind != 1) = false := by simp [hK]
   have t2 : (e.kind == 2) = false := by simp [hK]
   have u2 : (e.kind != 2) = true := by simp [hK]
   have t3 : (e.kind == 3) = false := by simp [hK]
   have u3 : (e.kind != 3) = true := by simp [hK]
   have t4 : (e.kind == 4) = false := by simp [hK]
   have u4 : (e.kind != 4) = true := by simp [hK]
   have t5 : (e.kind == 5) = false := by simp [hK]
   have u5 : (e.kind != 5) = true := by simp [hK]
   have HKR := Lib.hid (show 1 ≤ e.kind ∧ e.kind ≤ 5 by omega)
   have hwant : wantE e.kind = 0 := by simp [wantE, hK]
   by_cases hl : ¬ (e.args.length = 0)
   focus
    have hl' : ((e.args.length : Int) != 0) = true := by rw [bne_iff_ne]; omega
    have HNO := Lib.hid (show (e.rightB nameB deep && decide (c0 + (e.nodes : Int) ≤ 600)) = false by rw [HRB.out, hwant, show decide ((e.args.length : Int) = 0) = false from decide_eq_false (by omega)]; simp)
    clear hwant hne hK hl; have WL := True.intro
   rotate_left; rw [Decidable.not_not] at hl; have hl' : ((e.args.length : Int) != 0) = false := by rw [bne_eq_false_iff_eq]; omega
   by_cases hf : fieldsB nameB e.kind e.num e.name e.op = false
   focus
    have HF := Lib.hid hf; have HNO := Lib.hid (show (e.rightB nameB deep && decide (c0 + (e.nodes : Int) ≤ 600)) = false by rw [HRB.out]; simp [hf])
    clear hwant hf hne hK hl; have WF := True.intro
   rotate_left; have HF := Lib.hid (show fieldsB nameB e.kind e.num e.name e.op = true by simpa using hf)
   have HRE := Lib.hid (show e.rightB nameB deep = Expr.rightsB nameB (deep + 1) e.args by rw [HRB.out, hwant, HF.out, show decide ((e.args.length : Int) = 0) = true from decide_eq_true (by omega), show decide (deep ≤ 48) = true from decide_eq_true (by omega), show decide (1 ≤ e.kind ∧ e.kind ≤ 5) = true from decide_eq_true (by omega)]; simp)
   have hlen : e.args.length ≤ 2 := by omega
   clear hwant hf hne hK hl; have WM := True.intro
  rotate_left 3; focus
   have t1 : (e.kind == 1) = false := by simp [hK]
   have u1 : (e.kind != 1) = true := by simp [hK]
   have t2 : (e.kind == 2) = true := by simp [hK]
   have u2 : (e.kind != 2) = false := by simp [hK]
   have t3 : (e.kind == 3) = false := by simp [hK]
   have u3 : (e.kind != 3) = true := by simp [hK]
   have t4 : (e.kind == 4) = false := by simp [hK]
   have u4 : (e.kind != 4) = true := by simp [hK]
   have t5 : (e.kind == 5) = false := by simp [hK]
   have u5 : (e.kind != 5) = true := by simp [hK]
   have HKR := Lib.hid (show 1 ≤ e.kind ∧ e.kind ≤ 5 by omega)
   have hwant : wantE e.kind = 0 := by simp [wantE, hK]
   by_cases hl : ¬ (e.args.length = 0)
   focus
    have hl' : ((e.args.length : Int) != 0) = true := by rw [bne_iff_ne]; omega
    have HNO := Lib.hid (show (e.rightB nameB deep && decide (c0 + (e.nodes : Int) ≤ 600)) = false by rw [HRB.out, hwant, show decide ((e.args.length : Int) = 0) = false from decide_eq_false (by omega)]; simp)
    clear hwant hne hK hl; have WL := True.intro
   rotate_left; rw [Decidable.not_not] at hl; have hl' : ((e.args.length : Int) != 0) = false := by rw [bne_eq_false_iff_eq]; omega
   by_cases hf : fieldsB nameB e.kind e.num e.name e.op = false
   focus
    have HF := Lib.hid hf; have HNO := Lib.hid (show (e.rightB nameB deep && decide (c0 + (e.nodes : Int) ≤ 600)) = false by rw [HRB.out]; simp [hf])
    clear hwant hf hne hK hl; have WF := True.intro
   rotate_left; have HF := Lib.hid (show fieldsB nameB e.kind e.num e.name e.op = true by simpa using hf)
   have HRE := Lib.hid (show e.rightB nameB deep = Expr.rightsB nameB (deep + 1) e.args by rw [HRB.out, hwant, HF.out, show decide ((e.args.length : Int) = 0) = true from decide_eq_true (by omega), show decide (deep ≤ 48) = true from decide_eq_true (by omega), show decide (1 ≤ e.kind ∧ e.kind ≤ 5) = true from decide_eq_true (by omega)]; simp)
   have hlen : e.args.length ≤ 2 := by omega
   clear hwant hf hne hK hl; have WM := True.intro
  rotate_left 3; focus
   have t1 : (e.kind == 1) = false := by simp [hK]
   have u1 : (e.kind != 1) = true := by simp [hK]
   have t2 : (e.kind == 2) = false := by simp [hK]
   have u2 : (e.kind != 2) = true := by simp [hK]
   have t3 : (e.kind == 3) = true := by simp [hK]
   have u3 : (e.kind != 3) = false := by simp [hK]
   have t4 : (e.kind == 4) = false := by simp [hK]
   have u4 : (e.kind != 4) = true := by simp [hK]
   have t5 : (e.kind == 5) = false := by simp [hK]
   have u5 : (e.kind != 5) = true := by simp [hK]
   have HKR := Lib.hid (show 1 ≤ e.kind ∧ e.kind ≤ 5 by omega)
   have hwant : wantE e.kind = 1 := by simp [wantE, hK]
   by_cases hl : ¬ (e.args.length = 1)
   focus
    have hl' : ((e.args.length : Int) != 1) = true := by rw [bne_iff_ne]; omega
    have HNO := Lib.hid (show (e.rightB nameB deep && decide (c0 + (e.nodes : Int) ≤ 600)) = false by rw [HRB.out, hwant, show decide ((e.args.length : Int) = 1) = false from decide_eq_false (by omega)]; simp)
    clear hwant hne hK hl; have WL := True.intro
   rotate_left; rw [Decidable.not_not] at hl; have hl' : ((e.args.length : Int) != 1) = false := by rw [bne_eq_false_iff_eq]; omega
   by_cases hf : fieldsB nameB e.kind e.num e.name e.op = false
   focus
    have HF := Lib.hid hf; have HNO := Lib.hid (show (e.rightB nameB deep && decide (c0 + (e.nodes : Int) ≤ 600)) = false by rw [HRB.out]; simp [hf])
    clear hwant hf hne hK hl; have WF := True.intro
   rotate_left; have HF := Lib.hid (show fieldsB nameB e.kind e.num e.name e.op = true by simpa using hf)
   have HRE := Lib.hid (show e.rightB nameB deep = Expr.rightsB nameB (deep + 1) e.args by rw [HRB.out, hwant, HF.out, show decide ((e.args.length : Int) = 1) = true from decide_eq_true (by omega), show decide (deep ≤ 48) = true from decide_eq_true (by omega), show decide (1 ≤ e.kind ∧ e.kind ≤ 5) = true from decide_eq_true (by omega)]; simp)
   have hlen : e.args.length ≤ 2 := by omega
   clear hwant hf hne hK hl; have WM := True.intro
  rotate_left 3; focus
   have t1 : (e.kind == 1) = false := by simp [hK]
   have u1 : (e.kind != 1) = true := by simp [hK]
   have t2 : (e.kind == 2) = false := by simp [hK]
   have u2 : (e.kind != 2) = true := by simp [hK]
   have t3 : (e.kind == 3) = false := by simp [hK]
   have u3 : (e.kind != 3) = true := by simp [hK]
   have t4 : (e.kind == 4) = true := by simp [hK]
   have u4 : (e.kind != 4) = false := by simp [hK]
   have t5 : (e.kind == 5) = false := by simp [hK]
   have u5 : (e.kind != 5) = true := by simp [hK]
   have HKR := Lib.hid (show 1 ≤ e.kind ∧ e.kind ≤ 5 by omega)
   have hwant : wantE e.kind = 1 := by simp [wantE, hK]
   by_cases hl : ¬ (e.args.length = 1)
   focus
    have hl' : ((e.args.length : Int) != 1) = true := by rw [bne_iff_ne]; omega
    have HNO := Lib.hid (show (e.rightB nameB deep && decide (c0 + (e.nodes : Int) ≤ 600)) = false by rw [HRB.out, hwant, show decide ((e.args.length : Int) = 1) = false from decide_eq_false (by omega)]; simp)
    clear hwant hne hK hl; have WL := True.intro
   rotate_left; rw [Decidable.not_not] at hl; have hl' : ((e.args.length : Int) != 1) = false := by rw [bne_eq_false_iff_eq]; omega
   by_cases hf : fieldsB nameB e.kind e.num e.name e.op = false
   focus
    have HF := Lib.hid hf; have HNO := Lib.hid (show (e.rightB nameB deep && decide (c0 + (e.nodes : Int) ≤ 600)) = false by rw [HRB.out]; simp [hf])
    clear hwant hf hne hK hl; have WF := True.intro
   rotate_left; have HF := Lib.hid (show fieldsB nameB e.kind e.num e.name e.op = true by simpa using hf)
   have HRE := Lib.hid (show e.rightB nameB deep = Expr.rightsB nameB (deep + 1) e.args by rw [HRB.out, hwant, HF.out, show decide ((e.args.length : Int) = 1) = true from decide_eq_true (by omega), show decide (deep ≤ 48) = true from decide_eq_true (by omega), show decide (1 ≤ e.kind ∧ e.kind ≤ 5) = true from decide_eq_true (by omega)]; simp)
   have hlen : e.args.length ≤ 2 := by omega
   clear hwant hf hne hK hl; have WM := True.intro
  rotate_left 3; focus
   have t1 : (e.kind == 1) = false := by simp [hK]
   have u1 : (e.kind != 1) = true := by simp [hK]
   have t2 : (e.kind == 2) = false := by simp [hK]
   have u2 : (e.kind != 2) = true := by simp [hK]
   have t3 : (e.kind == 3) = false := by simp [hK]
   have u3 : (e.kind != 3) = true := by simp [hK]
   have t4 : (e.kind == 4) = false := by simp [hK]
   have u4 : (e.kind != 4) = true := by simp [hK]
   have t5 : (e.kind == 5) = true := by simp [hK]
   have u5 : (e.kind != 5) = false := by simp [hK]
   have HKR := Lib.hid (show 1 ≤ e.kind ∧ e.kind ≤ 5 by omega)
   have hwant : wantE e.kind = 2 := by simp [wantE, hK]
   by_cases hl : ¬ (e.args.length = 2)
   focus
    have hl' : ((e.args.length : Int) != 2) = true := by rw [bne_iff_ne]; omega
    have HNO := Lib.hid (show (e.rightB nameB deep && decide (c0 + (e.nodes : Int) ≤ 600)) = false by rw [HRB.out, hwant, show decide ((e.args.length : Int) = 2) = false from decide_eq_false (by omega)]; simp)
    clear hwant hne hK hl; have WL := True.intro
   rotate_left; rw [Decidable.not_not] at hl; have hl' : ((e.args.length : Int) != 2) = false := by rw [bne_eq_false_iff_eq]; omega
   by_cases hf : fieldsB nameB e.kind e.num e.name e.op = false
   focus
    have HF := Lib.hid hf; have HNO := Lib.hid (show (e.rightB nameB deep && decide (c0 + (e.nodes : Int) ≤ 600)) = false by rw [HRB.out]; simp [hf])
    clear hwant hf hne hK hl; have WF := True.intro
   rotate_left; have HF := Lib.hid (show fieldsB nameB e.kind e.num e.name e.op = true by simpa using hf)
   have HRE := Lib.hid (show e.rightB nameB deep = Expr.rightsB nameB (deep + 1) e.args by rw [HRB.out, hwant, HF.out, show decide ((e.args.length : Int) = 2) = true from decide_eq_true (by omega), show decide (deep ≤ 48) = true from decide_eq_true (by omega), show decide (1 ≤ e.kind ∧ e.kind ≤ 5) = true from decide_eq_true (by omega)]; simp)
   have hlen : e.args.length ≤ 2 := by omega
   clear hwant hf hne hK hl; have WM := True.intro
  rotate_left 3
  ·have t1 : (e.kind == 1) = false := by rw [beq_eq_false_iff_ne]; omega
   have t2 : (e.kind == 2) = false := by rw [beq_eq_false_iff_ne]; omega
   have t3 : (e.kind == 3) = false := by rw [beq_eq_false_iff_ne]; omega
   have t4 : (e.kind == 4) = false := by rw [beq_eq_false_iff_ne]; omega
   have t5 : (e.kind == 5) = false := by rw [beq_eq_false_iff_ne]; omega
   have HNO := Lib.hid (show (e.rightB nameB deep && decide (c0 + (e.nodes : Int) ≤ 600)) = false by rw [HRB.out]; simp [hK])
   have HKK := Lib.hid hK; clear hne hK; go_enter Try.func84, Try.ntmps84
   go_wp2_with (first | (go_at_call 60; go_must (refine (one_calls q c0 _ HC0.out h0 (by omega)).mono ?_); rintro x w1 ⟨rfl, hk1, hc1⟩; rw [HD.out]; have HK1 := Lib.hid (HK0.out.step hk1); have HC1 := Lib.hid hc1; have HX1 := Lib.hid (hk1.blk HX.out HQ.out); clear hk1 hc1; have f0 := blk_cell HX1.out 0) | (have tk := HW; clear tk; rw [HW.out]; clear HW))
   go_ret; exact TestOK.no HNO.out HK1.out HC1.out
  all_goals first
  |have q := WL
   clear q WL; go_enter Try.func84, Try.ntmps84
   go_wp2_with (first | (go_at_call 60; go_must (refine (one_calls q c0 _ HC0.out h0 (by omega)).mono ?_); rintro x w1 ⟨rfl, hk1, hc1⟩; rw [HD.out]; have HK1 := Lib.hid (HK0.out.step hk1); have HC1 := Lib.hid hc1; have HX1 := Lib.hid (hk1.blk HX.out HQ.out); clear hk1 hc1; have f0 := blk_cell HX1.out 0; have f4 := blk_cell HX1.out 4) | (have tk := HW; clear tk; rw [HW.out]; clear HW))
   go_ret; exact TestOK.no HNO.out HK1.out HC1.out
  |have q := WF
   clear q WF; go_enter Try.func84, Try.ntmps84
   go_wp2_with (first | (go_at_call 103; go_must (refine (fields_calls e.kind e.num e.name e.op A e.args.length c HSZ.out HKR.out _).mono ?_); rintro x w2 ⟨rfl, hb2⟩; rw [HF.out]; have HK2 := Lib.hid (HK1.out.below hb2); have HC2 := Lib.hid (cntB HC1.out hb2); have HX2 := Lib.hid (below_blk hb2 HX1.out (blk_lt HX1.out)); clear hb2 f0 f1 f2 f3 f4; have f4 := blk_cell HX2.out 4) | (go_at_call 60; go_must (refine (one_calls q c0 _ HC0.out h0 (by omega)).mono ?_); rintro x w1 ⟨rfl, hk1, hc1⟩; rw [HD.out]; have HK1 := Lib.hid (HK0.out.step hk1); have HC1 := Lib.hid hc1; have HX1 := Lib.hid (hk1.blk HX.out HQ.out); clear hk1 hc1; have f0 := blk_cell HX1.out 0; have f1 := blk_cell HX1.out 1; have f2 := blk_cell HX1.out 2; have f3 := blk_cell HX1.out 3; have f4 := blk_cell HX1.out 4) | (have tk := HW; clear tk; rw [HW.out]; clear HW))
   go_ret; exact TestOK.no HNO.out HK2.out HC2.out
  |have q := WM
   clear q WM; go_enter Try.func84, Try.ntmps84
   go_wp2_with (first | (go_at_call 103; go_must (refine (fields_calls e.kind e.num e.name e.op A e.args.length c HSZ.out HKR.out _).mono ?_); rintro x w2 ⟨rfl, hb2⟩; rw [HF.out]; have HK2 := Lib.hid (HK1.out.below hb2); have HC2 := Lib.hid (cntB HC1.out hb2); have HX2 := Lib.hid (below_blk hb2 HX1.out (blk_lt HX1.out)); clear hb2 f0 f1 f2 f3 f4; have f4 := blk_cell HX2.out 4) | (go_at_call 60; go_must (refine (one_calls q c0 _ HC0.out h0 (by omega)).mono ?_); rintro x w1 ⟨rfl, hk1, hc1⟩; rw [HD.out]; have HK1 := Lib.hid (HK0.out.step hk1); have HC1 := Lib.hid hc1; have HX1 := Lib.hid (hk1.blk HX.out HQ.out); clear hk1 hc1; have f0 := blk_cell HX1.out 0; have f1 := blk_cell HX1.out 1; have f2 := blk_cell HX1.out 2; have f3 := blk_cell HX1.out 3; have f4 := blk_cell HX1.out 4) | (have tk := HW; clear tk; rw [HW.out]; clear HW))
   go_loopw [40] (fun at_ wr => ∃ (k : Nat), at_ = .int .i64 (k : Int) ∧ k ≤ e.args.length ∧ Hid (Expr.rightsB nameB (deep + 1) (e.args.take k) = true) ∧ Hid (cnt wr q (c0 + 1 + (Expr.nodesL (e.args.take k) : Int))) ∧ Hid (c0 + 1 + (Expr.nodesL (e.args.take k) : Int) ≤ 600) ∧ Hid (Keep (fun j => j = q) w wr)) (fun a _ => e.args.length - (intOf a).toNat)
   case atStart => exact ⟨0, rfl, Nat.zero_le _, Lib.hid rfl, Lib.hid (by simpa [Expr.nodesL] using HC2.out), Lib.hid (by simp [Expr.nodesL]; omega), HK2⟩
   case round =>
    obtain ⟨k, rfl, hk, HRk, HCk, HLk, HKk⟩ := hrel; clear f4 HX2 HC2 HK2 HX1 HC1 HK1 HX HK0 HC0; have HBk := Lib.hid (HBW.out.trans (HKk.out.toBelow HBW.out.size (fun j hj => by subst hj; exact HQW.out)))
    by_cases hlt : k < e.args.length
    ·have hlt' : ((k : Int) < (e.args.length : Int)) := by omega
     have hsz := Expr.nodesL_take e.args k hlt; obtain ⟨b, o, A', c', rfl, hbW, g0, g1, g2, g3, g4, hc', hs', hrd'⟩ := Expr.at HRD.out HBk.out hlt; have hq2 : cnt (wr.alloc (.cells #[.int .i64 e.args[k].kind, .int .i64 e.args[k].num, .string e.args[k].name, .int .i64 e.args[k].op, .slice A' e.args[k].args.length c'] 66)) q (c0 + 1 + (Expr.nodesL (e.args.take k) : Int)) := blk_alloc HCk.out _
     have hI := HIH.out e.args[k] A' c' (by have := HNE.out; omega) hrd' hc' hs' (deep + 1) _ _ (by omega) (by omega) HLk.out (HBk.out.alloc HBk.out.size _) hq2
     have HI := Lib.hid hI; clear hI hq2; by_cases hv : (e.args[k].rightB nameB (deep + 1) && decide (c0 + 1 + (Expr.nodesL (e.args.take k) : Int) + (e.args[k].nodes : Int) ≤ 600)) = true
     ·have HV := Lib.hid hv
      clear hv; go_wp2_with (go_at_call 84; go_must (refine HI.out.mono ?_); rintro x w' ⟨rfl, hk2, c1, hc1, hcc⟩; rw [HV.out]; have HK3 := Lib.hid ((HKk.out.alloc _).step hk2); have HC3 := Lib.hid (hcc HV.out ▸ hc1); clear hk2 hc1 hcc)
      go_roundw
      case rel =>
       have hv := HV.out; rw [Bool.and_eq_true, decide_eq_true_eq] at hv; have hn : (Expr.nodesL (e.args.take (k + 1)) : Int) = (Expr.nodesL (e.args.take k) : Int) + (e.args[k].nodes : Int) := by rw [← List.take_append_getElem hlt, Expr.nodesL_app]; simp [Expr.nodesL]
       refine ⟨k + 1, by go_num, by omega, Lib.hid ?_, Lib.hid ?_, Lib.hid (by rw [hn]; omega), HK3⟩
       ·rw [← List.take_append_getElem hlt, Expr.rightsB_snoc, HRk.out, hv.1]; rfl
       ·rw [hn, ← Int.add_assoc]; exact HC3.out
      case measure => simp [intOf]; omega
     ·have HV := Lib.hid (show (e.args[k].rightB nameB (deep + 1) && decide (c0 + 1 + (Expr.nodesL (e.args.take k) : Int) + (e.args[k].nodes : Int) ≤ 600)) = false by simpa using hv)
      have HNO := Lib.hid (show (e.rightB nameB deep && decide (c0 + (e.nodes : Int) ≤ 600)) = false by
       rw [Bool.eq_false_iff]; intro h; rw [Bool.and_eq_true, decide_eq_true_eq, HRE.out] at h; apply hv
       rw [Bool.and_eq_true, decide_eq_true_eq]; exact ⟨Expr.rightsB_all h.1 _ (List.getElem_mem hlt), by have := HNE.out; omega⟩)
      clear hv; go_wp2_with (go_at_call 84; go_must (refine HI.out.mono ?_); rintro x w' ⟨rfl, hk2, c1, hc1, hcc⟩; rw [HV.out]; have HK3 := Lib.hid ((HKk.out.alloc _).step hk2); have HC3 := Lib.hid hc1; clear hk2 hc1 hcc)
      go_ret; exact TestOK.no HNO.out HK3.out HC3.out
    ·have hk' : k = e.args.length := by omega
     subst hk'; go_wp2; go_ret; have hr := HRk.out; have hl2 := HLk.out; have hc2 := HCk.out; rw [List.take_length] at hr hl2 hc2; exact TestOK.yes (by rw [HRE.out, hr, Bool.true_and, decide_eq_true_eq]; have := HNE.out; omega) HKk.out hc2 (by have := HNE.out; omega)
end Go.Proofs.Ytjlnpppjkdcpkaa.My
