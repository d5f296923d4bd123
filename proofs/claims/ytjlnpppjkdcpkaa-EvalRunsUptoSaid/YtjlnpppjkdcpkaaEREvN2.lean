/- The document's value of an expression. Conditions: the tree was there in the world W, which is kept; it may be; its names are there; numbers of 64 bits. -/
import Derived.Test.YtjlnpppjkdcpkaaEREvNs
import Derived.Test.YtjlnpppjkdcpkaaERNumRef
import Derived.Test.YtjlnpppjkdcpkaaEREv64
namespace Go.Proofs.Ytjlnpppjkdcpkaa.My
open Go.RowKit Go.Proofs.Ytjlnpppjkdcpkaa.NumA
set_option linter.unusedVariables false
set_option linter.unusedSimpArgs false
/-- the rows that are read -/
structure RdS (w : World) (S : Ev) (N V M : Rw) : Prop where
 nn : N.n = S.names.length
 vn : V.n = S.vals.length
 mn : M.n = S.mem.length
 names : Row w 9 1 (.slice N.a N.n N.c) N.n (strs S.names)
 vals : Row w 2 1 (.slice V.a V.n V.c) V.n (nums S.vals)
 mem : Row w 2 1 (.slice M.a M.n M.c) M.n (nums S.mem)
 eq : S.names.length = S.vals.length
 n9 : S.names.length ≤ 2000000
 m9 : S.mem.length ≤ 2000000
theorem RdS.below {w w' : World} {S : Ev} {N V M : Rw} (h : RdS w S N V M) (hB : Below w.heap.size w w') : RdS w' S N V M := ⟨h.nn, h.vn, h.mn, h.names.below hB, h.vals.below hB, h.mem.below hB, h.eq, h.n9, h.m9⟩
/-- what is handed back -/
def GotD (g : Got Int) (N V M O I : Rw) (tk lf : Int) (w : World) (y : Ending) (w' : World) : Prop := Below w.heap.size w w' ∧ match g with
 | .ok v => y = .returned (.tuple #[.agg (dsL N V M O I 0 0 tk lf false).toArray, .int .i64 v])
 | .left h u => y = .returned (.tuple #[.agg (dsL N V M O I h u tk lf true).toArray, .int .i64 0])
theorem put10_heap (w : World) {b g : Nat} (hg : g ≠ b) (N V M O I : Rw) (ov va tk lf : Int) (e : Bool) : (put10 w b N V M O I ov va tk lf e).heap[g]? = w.heap[g]? := by
 unfold put10; rw [Below.heap_setCell _ _ _ _ hg, Below.heap_setCell _ _ _ _ hg, Below.heap_setCell _ _ _ _ hg, Below.heap_setCell _ _ _ _ hg, Below.heap_setCell _ _ _ _ hg, Below.heap_setCell _ _ _ _ hg, Below.heap_setCell _ _ _ _ hg, Below.heap_setCell _ _ _ _ hg, Below.heap_setCell _ _ _ _ hg, Below.heap_setCell _ _ _ _ hg]
theorem blk_drew {w : World} {g : Nat} {o : Obj} (h : w.heap[g]? = some o) : w.drew.heap[g]? = some o := h
/-- all old blocks but one are kept -/
def KeepS (T : Nat) (w U : World) : Prop := w.heap.size ≤ U.heap.size ∧ ∀ q, q ≠ T → q < w.heap.size → U.heap[q]? = w.heap[q]?
theorem KeepS.refl (T : Nat) (w : World) : KeepS T w w := ⟨Nat.le_refl _, fun _ _ _ => rfl⟩
theorem KeepS.drewR {T : Nat} {w U : World} (h : KeepS T w U) : KeepS T w U.drew := h
theorem KeepS.drew (T : Nat) (w : World) : KeepS T w w.drew := ⟨Nat.le_refl _, fun _ _ _ => rfl⟩
theorem KeepS.below {T : Nat} {w U U' : World} (h : KeepS T w U) (hB : Below U.heap.size U U') : KeepS T w U' := ⟨Nat.le_trans h.1 hB.size, fun q hq hl => (hB.block q (Nat.lt_of_lt_of_le hl h.1)).trans (h.2 q hq hl)⟩
theorem KeepS.put {T : Nat} {w U : World} (h : KeepS T w U) (N V M O I : Rw) (ov va tk lf : Int) (e : Bool) : KeepS T w (put10 U T N V M O I ov va tk lf e) := ⟨by have := h.1; simpa [put10, World.setCell] using this, fun q hq hl => (put10_heap U hq _ _ _ _ _ _ _ _ _ _).trans (h.2 q hq hl)⟩
theorem KeepS.cell {T g i : Nat} {w U : World} {u : Value} (h : KeepS T w U) (hc : w.cell? ⟨g, i, none⟩ = some u) (hg : g ≠ T) : U.cell? ⟨g, i, none⟩ = some u := by
 have hl := World.block_lt_of_cell? w _ hc; have := h.2 g hg hl
 unfold World.cell? at hc ⊢
 simp only at hc ⊢
 rw [this]; exact hc
theorem Expr.in64_mem : ∀ {l : List Expr} {e : Expr}, Expr.in64L l → e ∈ l → e.in64
 | x :: l, e, h, hm => by
  rw [Expr.in64L] at h; rcases List.mem_cons.1 hm with rfl | hm
  ·exact h.1
  ·exact Expr.in64_mem h.2 hm
theorem Expr.in64_args {e : Expr} (h : e.in64) : Expr.in64L e.args := by cases e; simp only [Expr.in64] at h; exact h.2.2.2
/-- value's boxes in memory -/
structure VaAt (w : World) (e : Expr) (A : Option Addr) (c : Nat) (wx : World) (N V M O I : Rw) (ov va tk lf : Int) (b : Bool) : Prop where
 bel : Below w.heap.size w wx
 sb : wx.heap[w.heap.size]? = some (dsC (dsL N V M O I ov va tk lf b))
 eb : wx.heap[w.heap.size + 1]? = some (.cells #[.int .i64 e.kind, .int .i64 e.num, .string e.name, .int .i64 e.op, .slice A e.args.length c] 66 (0, 0))
 rb : wx.heap[w.heap.size + 1 + 1]? = some (dsC (dsL zR zR zR zR zR 0 0 0 0 false))
theorem VaAt.below {w : World} {e : Expr} {A : Option Addr} {c : Nat} {wx wy : World} {N V M O I : Rw} {ov va tk lf : Int} {b : Bool} (h : VaAt w e A c wx N V M O I ov va tk lf b) (hB : Below wx.heap.size wx wy) : VaAt w e A c wy N V M O I ov va tk lf b :=
 ⟨h.bel.trans (hB.mono h.bel.size), below_blk hB h.sb (blk_lt h.sb), below_blk hB h.eb (blk_lt h.eb), below_blk hB h.rb (blk_lt h.rb)⟩
theorem VaAt.put {w : World} {e : Expr} {A : Option Addr} {c : Nat} {wx : World} {N V M O I : Rw} {ov va tk lf : Int} {b : Bool} (h : VaAt w e A c wx N V M O I ov va tk lf b) (N' V' M' O' I' : Rw) (ov' va' tk' lf' : Int) (b' : Bool) : VaAt w e A c (put10 wx w.heap.size N' V' M' O' I' ov' va' tk' lf' b') N' V' M' O' I' ov' va' tk' lf' b' :=
 ⟨put10_below h.bel (Nat.le_refl _) _ _ _ _ _ _ _ _ _ _, put10_blk h.sb _ _ _ _ _ _ _ _ _ _, put10_far h.eb (by omega) _ _ _ _ _ _ _ _ _ _, put10_far h.rb (by omega) _ _ _ _ _ _ _ _ _ _⟩
set_option maxRecDepth 100000 in
theorem results_dsTmp {fn : Func} {t s : Tmp} (h : fn.results = #[.cell t 93, .tmp s]) (tmps : Array Value) (w : World) (b : Nat) (N V M O I : Rw) (ov va tk lf : Int) (e : Bool) (v : Value) (ht : tmps.getD t undef = .pointer (some ⟨b, 0, none⟩)) (hs : tmps.getD s undef = v) (hc : w.heap[b]? = some (dsC (dsL N V M O I ov va tk lf e))) :
  (results fn tmps).run Try.prog w = .ok (.tuple #[.agg (dsL N V M O I ov va tk lf e).toArray, v]) w :=
 results_cellTmp h tmps w b (dsL N V M O I ov va tk lf e) v ht hs (range_at hc 0 (dsL N V M O I ov va tk lf e) rfl) rfl rfl ds_size
/-- the end: the result's box set -/
theorem VaAt.fin {w : World} {e : Expr} {A : Option Addr} {c : Nat} {wx : World} {N V M O I : Rw} {ov va tk lf : Int} {b : Bool} (h : VaAt w e A c wx N V M O I ov va tk lf b) (N' V' M' O' I' : Rw) (ov' va' tk' lf' : Int) (b' : Bool) :
  (put10 wx (w.heap.size + 1 + 1) N' V' M' O' I' ov' va' tk' lf' b').heap[w.heap.size + 1 + 1]? = some (dsC (dsL N' V' M' O' I' ov' va' tk' lf' b')) ∧ Below w.heap.size w (put10 wx (w.heap.size + 1 + 1) N' V' M' O' I' ov' va' tk' lf' b') :=
 ⟨put10_blk h.rb _ _ _ _ _ _ _ _ _ _, put10_below h.bel (by omega) _ _ _ _ _ _ _ _ _ _⟩
set_option maxRecDepth 100000 in
set_option maxHeartbeats 4000000 in
theorem dvalue_ended (e : Expr) (A : Option Addr) (c : Nat) (N V M O I : Rw) (ov va tk lf : Int) (w : World) :
  Calls Try.prog 80 #[.agg (dsL N V M O I ov va tk lf true).toArray, .agg #[.int .i64 e.kind, .int .i64 e.num, .string e.name, .int .i64 e.op, .slice A e.args.length c]] w fun y w' => y = .returned (.tuple #[.agg (dsL N V M O I ov va tk lf true).toArray, .int .i64 0]) ∧ Below w.heap.size w w' := by
 unfold dsL; have hs0 : w.heap.size + 1 + 1 = w.heap.size + 1 + 1 := rfl
 obtain ⟨w0, hw0⟩ : ∃ w0, (((w.alloc (.cells #[.slice N.a N.n N.c, .slice V.a V.n V.c, .slice M.a M.n M.c, .slice O.a O.n O.c, .slice I.a I.n I.c, .int .i64 ov, .int .i64 va, .int .i64 tk, .int .i64 lf, .bool true] 93)).alloc (.cells #[.int .i64 e.kind, .int .i64 e.num, .string e.name, .int .i64 e.op, .slice A e.args.length c] 66)).alloc (.cells #[.slice none 0 0, .slice none 0 0, .slice none 0 0, .slice none 0 0, .slice none 0 0, .int .i64 0, .int .i64 0, .int .i64 0, .int .i64 0, .bool false] 93)) = w0 := ⟨_, rfl⟩
 have hat : VaAt w e A c w0 N V M O I ov va tk lf true := by
  rw [← hw0]; refine ⟨(((Below.refl _ _).al).al).al, ?_, ?_, ?_⟩
  ·exact blk_alloc (blk_alloc (blk_new w _) _) _
  ·exact blk_alloc (blk_new1 w _ _) _
  ·have h := blk_new ((w.alloc (.cells #[.slice N.a N.n N.c, .slice V.a V.n V.c, .slice M.a M.n M.c, .slice O.a O.n O.c, .slice I.a I.n I.c, .int .i64 ov, .int .i64 va, .int .i64 tk, .int .i64 lf, .bool true] 93)).alloc (.cells #[.int .i64 e.kind, .int .i64 e.num, .string e.name, .int .i64 e.op, .slice A e.args.length c] 66)) (.cells #[.slice none 0 0, .slice none 0 0, .slice none 0 0, .slice none 0 0, .slice none 0 0, .int .i64 0, .int .i64 0, .int .i64 0, .int .i64 0, .bool false] 93)
   rw [size_al, size_al] at h; exact h
 have HW := Lib.hid hw0; have HAT := Lib.hid hat; obtain ⟨s0, s1, s2, s3, s4, s5, s6, s7, s8, s9⟩ := cel10 hat.sb; obtain ⟨e0, e1, e2, e3, e4⟩ := cel5 hat.eb; obtain ⟨r0, r1, r2, r3, r4, r5, r6, r7, r8, r9⟩ := celz hat.rb; have rf := blk_free hat.rb; have sf := blk_free hat.sb; clear hw0 hs0; go_enter Try.func80, Try.ntmps80
 go_wp2_with (have tk := HW; clear tk; rw [HW.out]; clear HW)
 exact bodyPost_ret (results_dsTmp rfl _ _ (w.heap.size + 1 + 1) N V M O I ov va tk lf true (.int .i64 0) (by rfl) (by rfl) (HAT.out.fin N V M O I ov va tk lf true).1) rfl ⟨rfl, (HAT.out.fin N V M O I ov va tk lf true).2⟩
set_option maxRecDepth 100000 in
set_option maxHeartbeats 8000000 in
theorem dvalue_calls (W : World) (S : Ev) (hS : S.in64) (n : Nat) : ∀ (e : Expr) (A : Option Addr) (c d : Nat), e.nodes ≤ n → Expr.rds W e.args A 0 → e.rightB nameB d = true → e.in64 → (∀ u, exprV S e ≠ .left 0 u) → ∀ (N V M O I : Rw) (tk lf : Int) (w : World), Below W.heap.size W w → RdS w S N V M →
  Calls Try.prog 80 #[.agg (dsL N V M O I 0 0 tk lf false).toArray, .agg #[.int .i64 e.kind, .int .i64 e.num, .string e.name, .int .i64 e.op, .slice A e.args.length c]] w (GotD (exprV S e) N V M O I tk lf w) := by
 induction n with
 | zero => intro e A c d hN; have := e.nodes_eq; omega
 | succ n ih =>
  intro e A c d hN hrd hr h64 hfd N V M O I tk lf w hB hRD; have hne := e.nodes_eq; rw [Expr.rightB_eq] at hr; simp only [Bool.and_eq_true, decide_eq_true_eq] at hr
  obtain ⟨⟨⟨⟨_, hk⟩, hla⟩, _⟩, hrr⟩ := hr; change 1 ≤ e.kind ∧ e.kind ≤ 5 at hk
  unfold dsL; have hs0 : w.heap.size + 1 + 1 = w.heap.size + 1 + 1 := rfl
  obtain ⟨w0, hw0⟩ : ∃ w0, (((w.alloc (.cells #[.slice N.a N.n N.c, .slice V.a V.n V.c, .slice M.a M.n M.c, .slice O.a O.n O.c, .slice I.a I.n I.c, .int .i64 0, .int .i64 0, .int .i64 tk, .int .i64 lf, .bool false] 93)).alloc (.cells #[.int .i64 e.kind, .int .i64 e.num, .string e.name, .int .i64 e.op, .slice A e.args.length c] 66)).alloc (.cells #[.slice none 0 0, .slice none 0 0, .slice none 0 0, .slice none 0 0, .slice none 0 0, .int .i64 0, .int .i64 0, .int .i64 0, .int .i64 0, .bool false] 93)) = w0 := ⟨_, rfl⟩
  have hat : VaAt w e A c w0 N V M O I 0 0 tk lf false := by
   rw [← hw0]; refine ⟨(((Below.refl _ _).al).al).al, ?_, ?_, ?_⟩
   ·exact blk_alloc (blk_alloc (blk_new w _) _) _
   ·exact blk_alloc (blk_new1 w _ _) _
   ·have h := blk_new ((w.alloc (.cells #[.slice N.a N.n N.c, .slice V.a V.n V.c, .slice M.a M.n M.c, .slice O.a O.n O.c, .slice I.a I.n I.c, .int .i64 0, .int .i64 0, .int .i64 tk, .int .i64 lf, .bool false] 93)).alloc (.cells #[.int .i64 e.kind, .int .i64 e.num, .string e.name, .int .i64 e.op, .slice A e.args.length c] 66)) (.cells #[.slice none 0 0, .slice none 0 0, .slice none 0 0, .slice none 0 0, .slice none 0 0, .int .i64 0, .int .i64 0, .int .i64 0, .int .i64 0, .bool false] 93)
    rw [size_al, size_al] at h; exact h
  have HW := Lib.hid hw0; have HAT := Lib.hid hat; obtain ⟨s0, s1, s2, s3, s4, s5, s6, s7, s8, s9⟩ := cel10 hat.sb; obtain ⟨e0, e1, e2, e3, e4⟩ := cel5 hat.eb; obtain ⟨r0, r1, r2, r3, r4, r5, r6, r7, r8, r9⟩ := celz hat.rb; have rf := blk_free hat.rb; have sf := blk_free hat.sb; clear hw0 hs0; have HRD := Lib.hid hRD; have HRD0 := Lib.hid (hRD.below hat.bel); have HB := Lib.hid hB; have HWB := Lib.hid (hB.trans (hat.bel.mono hB.size)); clear hat hRD; have hkk : e.kind = 1 ∨ e.kind = 2 ∨ e.kind = 3 ∨ e.kind = 4 ∨ e.kind = 5 := by omega
  rcases hkk with hK | hK | hK | hK | hK
  ·have t1 : (e.kind == 1) = true := by simp [hK]
   have t2 : (e.kind == 2) = false := by simp [hK]
   have t3 : (e.kind == 3) = false := by simp [hK]
   have t4 : (e.kind == 4) = false := by simp [hK]
   have HV := Lib.hid (show exprV S e = .ok e.num by cases e; simp only [Expr.kind] at hK; subst hK; rfl)
   clear hK hla ih hfd; go_enter Try.func80, Try.ntmps80
   go_wp2_with (have tk := HW; clear tk; rw [HW.out]; clear HW)
   refine wp_region_held_drew (S := KeepS (w.heap.size + 1 + 1) w0) (by kernel_rfl) (KeepS.drew _ _) (fun hHeld => ?_)
   refine tkP 0 18 (.agg #[.slice N.a N.n N.c, .slice V.a V.n V.c, .slice M.a M.n M.c, .slice O.a O.n O.c, .slice I.a I.n I.c, .int .i64 0, .int .i64 0, .int .i64 tk, .int .i64 lf, .bool false]) ?_ (hy := Or.inl ⟨by rfl, fun U hU => by have q0 := hU.cell s0 (by omega); have q1 := hU.cell s1 (by omega); have q2 := hU.cell s2 (by omega); have q3 := hU.cell s3 (by omega); have q4 := hU.cell s4 (by omega); have q5 := hU.cell s5 (by omega); have q6 := hU.cell s6 (by omega); have q7 := hU.cell s7 (by omega); have q8 := hU.cell s8 (by omega); have q9 := hU.cell s9 (by omega); clear s0 s1 s2 s3 s4 s5 s6 s7 s8 s9; go_simp⟩)
   refine tkP 1 19 (.pointer (some ⟨w.heap.size + 1, 1, none⟩)) ?_; refine tkP 2 20 (.int .i64 e.num) ?_ (hy := Or.inl ⟨by rfl, fun U hU => by have q := hU.cell e1 (by omega); clear e1; go_simp⟩)
   refine rd1 3 none fun K hK => ?_
   go_simp; refine bk hK (((KeepS.refl _ w0).put N V M O I (0) (0) tk lf false).drewR) fun q => ?_; clear hK K hHeld; have hHeld := q; clear q
   refine tkP 4 5 (.int .i64 e.num) ?_; refine wpAnyH_done (by kernel_rfl) ?_ _
   go_wp2; have hf1 : ((put10 w0 (w.heap.size + 1 + 1) N V M O I (0) (0) tk lf false).drew).heap[w.heap.size + 1 + 1]? = some (dsC (dsL N V M O I (0) (0) tk lf false)) := blk_drew (HAT.out.fin N V M O I (0) (0) tk lf false).1
   have hf2 := (HAT.out.fin N V M O I (0) (0) tk lf false).2.drew; obtain ⟨w9, hw9⟩ : ∃ x, (put10 w0 (w.heap.size + 1 + 1) N V M O I (0) (0) tk lf false).drew = x := ⟨_, rfl⟩
   rw [hw9] at hf1 hf2; unfold put10 at hw9; rw [hw9]; refine bodyPost_ret (results_dsTmp rfl _ _ (w.heap.size + 1 + 1) N V M O I (0) (0) tk lf false (.int .i64 e.num) (by rfl) (by rfl) hf1) rfl ?_
   rw [HV.out]; exact ⟨hf2, rfl⟩
  ·have t1 : (e.kind == 1) = false := by simp [hK]
   have t2 : (e.kind == 2) = true := by simp [hK]
   have t3 : (e.kind == 3) = false := by simp [hK]
   have t4 : (e.kind == 4) = false := by simp [hK]
   have HV : exprV S e = nameV S e.name := by cases e; simp only [Expr.kind] at hK; subst hK; rfl
   obtain ⟨i, hi⟩ : ∃ i, lastIdx S.names e.name = some i := by
    cases hi : lastIdx S.names e.name with
    | none => exact absurd (by rw [HV, nameV, hi]) (hfd 0)
    | some i => exact ⟨i, rfl⟩
   have hil := lastIdx_lt hi; have HG := Lib.hid (show exprV S e = .ok (S.vals.getD i 0) by rw [HV, nameV, hi])
   have HP := Lib.hid (show placeP S.names e.name = (i : Int) by unfold placeP; rw [hi])
   have hiv : i < S.vals.length := by have := HRD.out.eq; omega
   obtain ⟨gv, eg, xv⟩ := HRD0.out.vals.cellA (nums_get hiv); have hgv := HRD.out.vals.lt (k := gv) (by rw [eg]; rfl)
   have hiV : (i : Int) < (V.n : Int) := by have := HRD.out.vn; omega
   have hi0 : (0 : Int) ≤ (i : Int) := by omega
   have hnr := HRD0.out.names; rw [HRD0.out.nn] at hnr; have HPC := Lib.hid (fun w1 (h : Below w0.heap.size w0 w1) => place_calls S.names e.name (.slice N.a S.names.length N.c) w1 (by have := HRD.out.n9; omega) (hnr.below h))
   rw [← HRD0.out.nn, HP.out] at HPC; generalize S.vals.getD i 0 = v at HG xv
   have HEG := Lib.hid eg; clear eg; clear hK hla hi hil hiv HV hnr HP; go_enter Try.func80, Try.ntmps80
   go_wp2_with (have tk := HW; clear tk; rw [HW.out]; clear HW)
   refine wp_region_noPanic ?_; refine wp_region_held_drew (S := KeepS (w.heap.size + 1 + 1) w0) (by kernel_rfl) (KeepS.drew _ _) (fun hHeld => ?_)
   refine tkP 0 24 (.agg #[.slice N.a N.n N.c, .slice V.a V.n V.c, .slice M.a M.n M.c, .slice O.a O.n O.c, .slice I.a I.n I.c, .int .i64 0, .int .i64 0, .int .i64 tk, .int .i64 lf, .bool false]) ?_ (hy := Or.inl ⟨by rfl, fun U hU => by have q0 := hU.cell s0 (by omega); have q1 := hU.cell s1 (by omega); have q2 := hU.cell s2 (by omega); have q3 := hU.cell s3 (by omega); have q4 := hU.cell s4 (by omega); have q5 := hU.cell s5 (by omega); have q6 := hU.cell s6 (by omega); have q7 := hU.cell s7 (by omega); have q8 := hU.cell s8 (by omega); have q9 := hU.cell s9 (by omega); clear s0 s1 s2 s3 s4 s5 s6 s7 s8 s9; go_simp⟩)
   refine tkP 1 25 (.pointer (some ⟨w.heap.size, 1, none⟩)) ?_; refine tkP 2 26 (.slice V.a V.n V.c) ?_ (hy := Or.inl ⟨by rfl, fun U hU => by have q := hU.cell s1 (by omega); clear s1; go_simp⟩)
   refine tkP 3 27 (.pointer (some ⟨w.heap.size, 0, none⟩)) ?_; refine tkP 4 28 (.slice N.a N.n N.c) ?_ (hy := Or.inl ⟨by rfl, fun U hU => by have q := hU.cell s0 (by omega); clear s0; go_simp⟩)
   refine tkP 5 29 (.pointer (some ⟨w.heap.size + 1, 2, none⟩)) ?_; refine tkP 6 30 (.string e.name) ?_ (hy := Or.inl ⟨by rfl, fun U hU => by have q := hU.cell e2 (by omega); clear e2; go_simp⟩)
   refine rd1 7 (some 31) fun K hK => ?_
   go_simp; refine (HPC.out _ (Below.refl _ _).drew).mono ?_; rintro y w1 ⟨rfl, rfl⟩; refine bk hK (hHeld) fun q => ?_; clear hK K hHeld; have hHeld := q; clear q
   refine tkP 8 32 (.pointer (some ⟨gv, i, none⟩)) ?_ (hy := Or.inl ⟨by rfl, fun U hU => by have eg := HEG.out; go_simp⟩)
   refine tkP 9 33 (.int .i64 v) ?_ (hy := Or.inl ⟨by rfl, fun U hU => by have q := hU.cell xv (by omega); clear xv; go_simp⟩)
   refine rd1 10 none fun K hK => ?_
   go_simp; refine bk hK (((KeepS.refl _ w0).put N V M O I (0) (0) tk lf false).drewR) fun q => ?_; clear hK K hHeld; have hHeld := q; clear q
   refine tkP 11 5 (.int .i64 v) ?_; refine wpAnyH_done (by kernel_rfl) ?_ _
   refine NoPanic.normal ?_; go_wp2; have hf1 : ((put10 w0 (w.heap.size + 1 + 1) N V M O I (0) (0) tk lf false).drew).heap[w.heap.size + 1 + 1]? = some (dsC (dsL N V M O I (0) (0) tk lf false)) := blk_drew (HAT.out.fin N V M O I (0) (0) tk lf false).1
   have hf2 := (HAT.out.fin N V M O I (0) (0) tk lf false).2.drew; obtain ⟨w9, hw9⟩ : ∃ x, (put10 w0 (w.heap.size + 1 + 1) N V M O I (0) (0) tk lf false).drew = x := ⟨_, rfl⟩
   rw [hw9] at hf1 hf2; unfold put10 at hw9; rw [hw9]; refine bodyPost_ret (results_dsTmp rfl _ _ (w.heap.size + 1 + 1) N V M O I (0) (0) tk lf false (.int .i64 v) (by rfl) (by rfl) hf1) rfl ?_
   rw [HG.out]; exact ⟨hf2, rfl⟩
  ·have t1 : (e.kind == 1) = false := by simp [hK]
   have t2 : (e.kind == 2) = false := by simp [hK]
   have t3 : (e.kind == 3) = true := by simp [hK]
   have t4 : (e.kind == 4) = false := by simp [hK]
   have hlen : e.args.length = 1 := by simp [wantE, hK] at hla; omega
   have hwW := hB.size; have hj0 : 0 < e.args.length := by omega
   have hga0 : e.args.getD 0 default = e.args[0]'hj0 := by simp [List.getD, hj0]
   have hno0 := Expr.nodesL_take e.args 0 hj0; have hra0 := Expr.rightsB_all hrr (e.args[0]'hj0) (List.getElem_mem hj0); have h640 := Expr.in64_mem (Expr.in64_args h64) (List.getElem_mem hj0); obtain ⟨a0, ha0⟩ : ∃ x, e.args[0]'hj0 = x := ⟨_, rfl⟩
   have HAX0 := Lib.hid (fun w' (hb : Below W.heap.size W w') => Expr.at hrd hb hj0)
   rw [ha0] at hga0 hno0 hra0 h640 HAX0; have hj0' : (0 : Int) < (e.args.length : Int) := by omega
   have hV := exprV_one (S := S) (e := e) (by omega) (by omega) hlen
   unfold argV at hV; rw [hga0] at hV; have hfd0 : ∀ u, exprV S a0 ≠ .left 0 u := fun u hu => hfd u (by rw [hV, hu])
   have HI0 := Lib.hid (fun A' c' (h5 : Expr.rds W a0.args A' 0) w' (hb : Below W.heap.size W w') (hr' : RdS w' S N V M) => ih a0 A' c' (d + 1) (by omega) h5 hra0 h640 hfd0 N V M O I tk lf w' hb hr')
   unfold dsL at HI0; have HAT0 := HAT; obtain ⟨ba0, oa0, B0, d0, hA0, hba0, m0, m1, m2, m3, m4, _, _, hr5⟩ := HAX0.out w0 (HB.out.trans (HAT0.out.bel.mono hwW)); simp only [Nat.zero_mul, Nat.one_mul, Nat.add_zero] at m0 m1 m2 m3 m4
   subst hA0; have HI := Lib.hid (HI0.out B0 d0 hr5 w0.drew HWB.out.drew (HRD0.out.below (Below.refl _ _).drew)); have HHV := Lib.hid hV; have HFD := Lib.hid hfd; have HKK := Lib.hid hK; have H640 := Lib.hid h640; clear hK hla hlen ih hfd hfd0 hra0 h640 hno0 hga0 hV hrr h64 hne hr5 ha0
   cases hx : exprV S a0 with
   | left h u =>
    have HG := Lib.hid (show exprV S e = .left h u by rw [HHV.out, hx])
    rw [hx] at HI; go_enter Try.func80, Try.ntmps80
    go_wp2_with (have tk := HW; clear tk; rw [HW.out]; clear HW)
    refine wp_region_noPanic ?_; refine wp_region_held_drew (S := KeepS (w.heap.size) w0) (by kernel_rfl) (KeepS.drew _ _) (fun hHeld => ?_)
    refine tkP 1 36 (.pointer (some ⟨w.heap.size + 1, 4, none⟩)) ?_; refine tkP 2 37 (.slice (some ⟨ba0, oa0, none⟩) e.args.length c) ?_ (hy := Or.inl ⟨by rfl, fun U hU => by have q := hU.cell e4 (by omega); clear e4; go_simp⟩)
    refine tkP 3 38 (.pointer (some ⟨ba0, oa0, none⟩)) ?_; refine tkP 4 39 (.agg #[.int .i64 a0.kind, .int .i64 a0.num, .string a0.name, .int .i64 a0.op, .slice B0 a0.args.length d0]) ?_ (hy := Or.inl ⟨by rfl, fun U hU => by have q0 := hU.cell m0 (by omega); have q1 := hU.cell m1 (by omega); have q2 := hU.cell m2 (by omega); have q3 := hU.cell m3 (by omega); have q4 := hU.cell m4 (by omega); clear m0 m1 m2 m3 m4; go_simp⟩)
    refine rd1 0 (some 35) fun K hK => ?_
    go_simp; refine bk hK (hHeld) fun q => ?_; clear hK K hHeld; have hHeld := q; clear q
    refine rd1 5 (some 40) fun K hK => ?_
    go_simp; refine (HI.out).mono ?_; rintro y w1 ⟨hb1, hy⟩; simp only [dsL] at hy
    subst hy; have hbc1 : Below w0.heap.size w0 w1 := below_fromdrew hb1
    have hat1 := HAT0.out.below hbc1; obtain ⟨z0, z1, z2, z3, z4, z5, z6, z7, z8, z9⟩ := cel10 hat1.sb; have zf := blk_free hat1.sb; refine bk hK ((KeepS.drew _ w0).below hb1) fun q => ?_; clear hK K hHeld; have hHeld := q; clear q
    refine tkP 6 34 (.tuple #[.agg #[.slice N.a N.n N.c, .slice V.a V.n V.c, .slice M.a M.n M.c, .slice O.a O.n O.c, .slice I.a I.n I.c, .int .i64 h, .int .i64 u, .int .i64 tk, .int .i64 lf, .bool true], .int .i64 0]) ?_; refine tkP 7 41 (.agg #[.slice N.a N.n N.c, .slice V.a V.n V.c, .slice M.a M.n M.c, .slice O.a O.n O.c, .slice I.a I.n I.c, .int .i64 h, .int .i64 u, .int .i64 tk, .int .i64 lf, .bool true]) ?_; refine tkP 8 42 (.int .i64 0) ?_; refine rd1 9 none fun K hK => ?_
    go_simp; refine bk hK (((KeepS.drew _ w0).below hb1).put N V M O I (h) (u) tk lf true) fun q => ?_; clear hK K hHeld; have hHeld := q; clear q
    refine tkP 10 6 (.int .i64 0) ?_; refine wpAnyH_done (by kernel_rfl) ?_ _
    refine NoPanic.normal ?_; clear z0 z1 z2 z3 z4 z5 z6 z7 z8 z9 zf; have hat := hat1.put N V M O I h u tk lf true; obtain ⟨w2, hw2⟩ : ∃ x, put10 w1 w.heap.size N V M O I h u tk lf true = x := ⟨_, rfl⟩
    rw [hw2] at hat; unfold put10 at hw2; rw [hw2]; have HAT2 := Lib.hid hat; clear s0 s1 s2 s3 s4 s5 s6 s7 s8 s9 e0 e1 e2 e3 e4 r0 r1 r2 r3 r4 r5 r6 r7 r8 r9 rf sf hat hw2; obtain ⟨s0, s1, s2, s3, s4, s5, s6, s7, s8, s9⟩ := cel10 HAT2.out.sb; obtain ⟨e0, e1, e2, e3, e4⟩ := cel5 HAT2.out.eb; obtain ⟨r0, r1, r2, r3, r4, r5, r6, r7, r8, r9⟩ := celz HAT2.out.rb; have rf := blk_free HAT2.out.rb; have sf := blk_free HAT2.out.sb; go_wp2; have hf1 : ((put10 w2 (w.heap.size + 1 + 1) N V M O I (h) (u) tk lf true)).heap[w.heap.size + 1 + 1]? = some (dsC (dsL N V M O I (h) (u) tk lf true)) := (HAT2.out.fin N V M O I (h) (u) tk lf true).1
    have hf2 := (HAT2.out.fin N V M O I (h) (u) tk lf true).2; obtain ⟨w9, hw9⟩ : ∃ x, (put10 w2 (w.heap.size + 1 + 1) N V M O I (h) (u) tk lf true) = x := ⟨_, rfl⟩
    rw [hw9] at hf1 hf2; unfold put10 at hw9; rw [hw9]; refine bodyPost_ret (results_dsTmp rfl _ _ (w.heap.size + 1 + 1) N V M O I (h) (u) tk lf true (.int .i64 0) (by rfl) (by rfl) hf1) rfl ?_
    rw [HG.out]; exact ⟨hf2, rfl⟩
   | ok v =>
    rw [hx] at HI; have hn64 := exprV_n64 hS a0 H640.out v hx; have HIN := Lib.hid (fun w' => inside_calls N V M O I 0 0 tk lf false v w')
    by_cases hin : 0 ≤ v ∧ v < (S.mem.length : Int)
    ·have HG := Lib.hid (show exprV S e = .ok (S.mem.getD v.toNat 0) by rw [HHV.out, hx]; simp only; rw [if_pos HKK.out, memV, if_pos hin])
     have HIP := Lib.hid (show insideP M.n v = true by unfold insideP; rw [HRD.out.mn]; simp [hin.1, hin.2])
     obtain ⟨kk, hkk⟩ := Int.eq_ofNat_of_zero_le hin.1; subst hkk; have hkm : kk < S.mem.length := by omega
     rw [Int.toNat_natCast] at HG; have hkM : (kk : Int) < (M.n : Int) := by have := HRD.out.mn; omega
     have hkk0 : (0 : Int) ≤ (kk : Int) := by omega
     obtain ⟨gm, eg, _⟩ := HRD0.out.mem.cellA (nums_get hkm); have hgm := HRD.out.mem.lt (k := gm) (by rw [eg]; rfl)
     have HMC := Lib.hid (fun w' (hb : Below w.heap.size w w') => by
      obtain ⟨g', e', x'⟩ := (HRD.out.below hb).mem.cellA (nums_get hkm); rw [eg] at e'; simp only [Option.some.injEq, Addr.mk.injEq] at e'
      obtain ⟨rfl, _⟩ := e'; exact (x' : w'.cell? ⟨gm, kk, none⟩ = some (.int .i64 (S.mem.getD kk 0))))
     have HEG := Lib.hid eg; unfold dsL at HIN; clear eg hin hn64 hx; go_enter Try.func80, Try.ntmps80
     go_wp2_with (have tk := HW; clear tk; rw [HW.out]; clear HW)
     refine wp_region_noPanic ?_; refine wp_region_held_drew (S := KeepS (w.heap.size) w0) (by kernel_rfl) (KeepS.drew _ _) (fun hHeld => ?_)
     refine tkP 1 36 (.pointer (some ⟨w.heap.size + 1, 4, none⟩)) ?_; refine tkP 2 37 (.slice (some ⟨ba0, oa0, none⟩) e.args.length c) ?_ (hy := Or.inl ⟨by rfl, fun U hU => by have q := hU.cell e4 (by omega); clear e4; go_simp⟩)
     refine tkP 3 38 (.pointer (some ⟨ba0, oa0, none⟩)) ?_; refine tkP 4 39 (.agg #[.int .i64 a0.kind, .int .i64 a0.num, .string a0.name, .int .i64 a0.op, .slice B0 a0.args.length d0]) ?_ (hy := Or.inl ⟨by rfl, fun U hU => by have q0 := hU.cell m0 (by omega); have q1 := hU.cell m1 (by omega); have q2 := hU.cell m2 (by omega); have q3 := hU.cell m3 (by omega); have q4 := hU.cell m4 (by omega); clear m0 m1 m2 m3 m4; go_simp⟩)
     refine rd1 0 (some 35) fun K hK => ?_
     go_simp; refine bk hK (hHeld) fun q => ?_; clear hK K hHeld; have hHeld := q; clear q
     refine rd1 5 (some 40) fun K hK => ?_
     go_simp; refine (HI.out).mono ?_; rintro y w1 ⟨hb1, hy⟩; simp only [dsL] at hy
     subst hy; have hbc1 : Below w0.heap.size w0 w1 := below_fromdrew hb1
     have hat1 := HAT0.out.below hbc1; obtain ⟨z0, z1, z2, z3, z4, z5, z6, z7, z8, z9⟩ := cel10 hat1.sb; have zf := blk_free hat1.sb; refine bk hK ((KeepS.drew _ w0).below hb1) fun q => ?_; clear hK K hHeld; have hHeld := q; clear q
     refine tkP 6 34 (.tuple #[.agg #[.slice N.a N.n N.c, .slice V.a V.n V.c, .slice M.a M.n M.c, .slice O.a O.n O.c, .slice I.a I.n I.c, .int .i64 0, .int .i64 0, .int .i64 tk, .int .i64 lf, .bool false], .int .i64 (kk : Int)]) ?_; refine tkP 7 41 (.agg #[.slice N.a N.n N.c, .slice V.a V.n V.c, .slice M.a M.n M.c, .slice O.a O.n O.c, .slice I.a I.n I.c, .int .i64 0, .int .i64 0, .int .i64 tk, .int .i64 lf, .bool false]) ?_; refine tkP 8 42 (.int .i64 (kk : Int)) ?_; refine rd1 9 none fun K hK => ?_
     go_simp; refine bk hK (((KeepS.drew _ w0).below hb1).put N V M O I (0) (0) tk lf false) fun q => ?_; clear hK K hHeld; have hHeld := q; clear q
     refine tkP 10 6 (.int .i64 (kk : Int)) ?_; refine wpAnyH_done (by kernel_rfl) ?_ _
     refine NoPanic.normal ?_; clear z0 z1 z2 z3 z4 z5 z6 z7 z8 z9 zf; have hat := hat1.put N V M O I 0 0 tk lf false; obtain ⟨w2, hw2⟩ : ∃ x, put10 w1 w.heap.size N V M O I 0 0 tk lf false = x := ⟨_, rfl⟩
     rw [hw2] at hat; unfold put10 at hw2; rw [hw2]; have HAT2 := Lib.hid hat; clear s0 s1 s2 s3 s4 s5 s6 s7 s8 s9 e0 e1 e2 e3 e4 r0 r1 r2 r3 r4 r5 r6 r7 r8 r9 rf sf hat hw2; obtain ⟨s0, s1, s2, s3, s4, s5, s6, s7, s8, s9⟩ := cel10 HAT2.out.sb; obtain ⟨e0, e1, e2, e3, e4⟩ := cel5 HAT2.out.eb; obtain ⟨r0, r1, r2, r3, r4, r5, r6, r7, r8, r9⟩ := celz HAT2.out.rb; have rf := blk_free HAT2.out.rb; have sf := blk_free HAT2.out.sb; go_wp2_with fail; refine (HIN.out w2).mono ?_; rintro y w3 ⟨rfl, hb3⟩; rw [HIP.out]; have hat := HAT2.out.below hb3; have HAT3 := Lib.hid hat; clear s0 s1 s2 s3 s4 s5 s6 s7 s8 s9 e0 e1 e2 e3 e4 r0 r1 r2 r3 r4 r5 r6 r7 r8 r9 rf sf hat hb3
     obtain ⟨s0, s1, s2, s3, s4, s5, s6, s7, s8, s9⟩ := cel10 HAT3.out.sb; obtain ⟨e0, e1, e2, e3, e4⟩ := cel5 HAT3.out.eb; obtain ⟨r0, r1, r2, r3, r4, r5, r6, r7, r8, r9⟩ := celz HAT3.out.rb; have rf := blk_free HAT3.out.rb; have sf := blk_free HAT3.out.sb; have xm := HMC.out w3 HAT3.out.bel; generalize S.mem.getD kk 0 = mv at HG xm
     go_wp2_with fail; refine wp_region_noPanic ?_; refine wp_region_held_drew (S := KeepS (w.heap.size + 1 + 1) w3) (by kernel_rfl) (KeepS.drew _ _) (fun hHeld => ?_)
     refine tkP 0 56 (.agg #[.slice N.a N.n N.c, .slice V.a V.n V.c, .slice M.a M.n M.c, .slice O.a O.n O.c, .slice I.a I.n I.c, .int .i64 0, .int .i64 0, .int .i64 tk, .int .i64 lf, .bool false]) ?_ (hy := Or.inl ⟨by rfl, fun U hU => by have q0 := hU.cell s0 (by omega); have q1 := hU.cell s1 (by omega); have q2 := hU.cell s2 (by omega); have q3 := hU.cell s3 (by omega); have q4 := hU.cell s4 (by omega); have q5 := hU.cell s5 (by omega); have q6 := hU.cell s6 (by omega); have q7 := hU.cell s7 (by omega); have q8 := hU.cell s8 (by omega); have q9 := hU.cell s9 (by omega); clear s0 s1 s2 s3 s4 s5 s6 s7 s8 s9; go_simp⟩)
     refine tkP 1 57 (.pointer (some ⟨w.heap.size, 2, none⟩)) ?_; refine tkP 2 58 (.pointer (some ⟨w.heap.size, 2, none⟩)) ?_; refine tkP 3 59 (.slice M.a M.n M.c) ?_ (hy := Or.inl ⟨by rfl, fun U hU => by have q := hU.cell s2 (by omega); clear s2; go_simp⟩)
     refine tkP 4 60 (.int .i64 (kk : Int)) ?_; refine tkP 5 61 (.pointer (some ⟨gm, kk, none⟩)) ?_ (hy := Or.inl ⟨by rfl, fun U hU => by have eg := HEG.out; go_simp⟩)
     refine tkP 6 62 (.int .i64 mv) ?_ (hy := Or.inl ⟨by rfl, fun U hU => by have q := hU.cell xm (by omega); clear xm; go_simp⟩)
     refine rd1 7 none fun K hK => ?_
     go_simp; refine bk hK (((KeepS.refl _ w3).put N V M O I (0) (0) tk lf false).drewR) fun q => ?_; clear hK K hHeld; have hHeld := q; clear q
     refine tkP 8 5 (.int .i64 mv) ?_; refine wpAnyH_done (by kernel_rfl) ?_ _
     refine NoPanic.normal ?_; go_wp2; have hf1 : ((put10 w3 (w.heap.size + 1 + 1) N V M O I (0) (0) tk lf false).drew).heap[w.heap.size + 1 + 1]? = some (dsC (dsL N V M O I (0) (0) tk lf false)) := blk_drew (HAT3.out.fin N V M O I (0) (0) tk lf false).1
     have hf2 := (HAT3.out.fin N V M O I (0) (0) tk lf false).2.drew; obtain ⟨w9, hw9⟩ : ∃ x, (put10 w3 (w.heap.size + 1 + 1) N V M O I (0) (0) tk lf false).drew = x := ⟨_, rfl⟩
     rw [hw9] at hf1 hf2; unfold put10 at hw9; rw [hw9]; refine bodyPost_ret (results_dsTmp rfl _ _ (w.heap.size + 1 + 1) N V M O I (0) (0) tk lf false (.int .i64 mv) (by rfl) (by rfl) hf1) rfl ?_
     rw [HG.out]; exact ⟨hf2, rfl⟩
    ·have HG := Lib.hid (show exprV S e = .left 3 v by rw [HHV.out, hx]; simp only; rw [if_pos HKK.out, memV, if_neg hin])
     have HIP := Lib.hid (show insideP M.n v = false by unfold insideP; rw [HRD.out.mn]; by_cases h0 : 0 ≤ v <;> simp [h0]; omega)
     have HDE := Lib.hid (fun w' => dend_calls N V M O I 0 0 tk lf false 3 v w')
     unfold dsL at HIN HDE; clear hin hn64 hx; go_enter Try.func80, Try.ntmps80
     go_wp2_with (have tk := HW; clear tk; rw [HW.out]; clear HW)
     refine wp_region_noPanic ?_; refine wp_region_held_drew (S := KeepS (w.heap.size) w0) (by kernel_rfl) (KeepS.drew _ _) (fun hHeld => ?_)
     refine tkP 1 36 (.pointer (some ⟨w.heap.size + 1, 4, none⟩)) ?_; refine tkP 2 37 (.slice (some ⟨ba0, oa0, none⟩) e.args.length c) ?_ (hy := Or.inl ⟨by rfl, fun U hU => by have q := hU.cell e4 (by omega); clear e4; go_simp⟩)
     refine tkP 3 38 (.pointer (some ⟨ba0, oa0, none⟩)) ?_; refine tkP 4 39 (.agg #[.int .i64 a0.kind, .int .i64 a0.num, .string a0.name, .int .i64 a0.op, .slice B0 a0.args.length d0]) ?_ (hy := Or.inl ⟨by rfl, fun U hU => by have q0 := hU.cell m0 (by omega); have q1 := hU.cell m1 (by omega); have q2 := hU.cell m2 (by omega); have q3 := hU.cell m3 (by omega); have q4 := hU.cell m4 (by omega); clear m0 m1 m2 m3 m4; go_simp⟩)
     refine rd1 0 (some 35) fun K hK => ?_
     go_simp; refine bk hK (hHeld) fun q => ?_; clear hK K hHeld; have hHeld := q; clear q
     refine rd1 5 (some 40) fun K hK => ?_
     go_simp; refine (HI.out).mono ?_; rintro y w1 ⟨hb1, hy⟩; simp only [dsL] at hy
     subst hy; have hbc1 : Below w0.heap.size w0 w1 := below_fromdrew hb1
     have hat1 := HAT0.out.below hbc1; obtain ⟨z0, z1, z2, z3, z4, z5, z6, z7, z8, z9⟩ := cel10 hat1.sb; have zf := blk_free hat1.sb; refine bk hK ((KeepS.drew _ w0).below hb1) fun q => ?_; clear hK K hHeld; have hHeld := q; clear q
     refine tkP 6 34 (.tuple #[.agg #[.slice N.a N.n N.c, .slice V.a V.n V.c, .slice M.a M.n M.c, .slice O.a O.n O.c, .slice I.a I.n I.c, .int .i64 0, .int .i64 0, .int .i64 tk, .int .i64 lf, .bool false], .int .i64 v]) ?_; refine tkP 7 41 (.agg #[.slice N.a N.n N.c, .slice V.a V.n V.c, .slice M.a M.n M.c, .slice O.a O.n O.c, .slice I.a I.n I.c, .int .i64 0, .int .i64 0, .int .i64 tk, .int .i64 lf, .bool false]) ?_; refine tkP 8 42 (.int .i64 v) ?_; refine rd1 9 none fun K hK => ?_
     go_simp; refine bk hK (((KeepS.drew _ w0).below hb1).put N V M O I (0) (0) tk lf false) fun q => ?_; clear hK K hHeld; have hHeld := q; clear q
     refine tkP 10 6 (.int .i64 v) ?_; refine wpAnyH_done (by kernel_rfl) ?_ _
     refine NoPanic.normal ?_; clear z0 z1 z2 z3 z4 z5 z6 z7 z8 z9 zf; have hat := hat1.put N V M O I 0 0 tk lf false; obtain ⟨w2, hw2⟩ : ∃ x, put10 w1 w.heap.size N V M O I 0 0 tk lf false = x := ⟨_, rfl⟩
     rw [hw2] at hat; unfold put10 at hw2; rw [hw2]; have HAT2 := Lib.hid hat; clear s0 s1 s2 s3 s4 s5 s6 s7 s8 s9 e0 e1 e2 e3 e4 r0 r1 r2 r3 r4 r5 r6 r7 r8 r9 rf sf hat hw2; obtain ⟨s0, s1, s2, s3, s4, s5, s6, s7, s8, s9⟩ := cel10 HAT2.out.sb; obtain ⟨e0, e1, e2, e3, e4⟩ := cel5 HAT2.out.eb; obtain ⟨r0, r1, r2, r3, r4, r5, r6, r7, r8, r9⟩ := celz HAT2.out.rb; have rf := blk_free HAT2.out.rb; have sf := blk_free HAT2.out.sb; go_wp2_with fail; refine (HIN.out w2).mono ?_; rintro y w3 ⟨rfl, hb3⟩; rw [HIP.out]; have hat := HAT2.out.below hb3; have HAT3 := Lib.hid hat; clear s0 s1 s2 s3 s4 s5 s6 s7 s8 s9 e0 e1 e2 e3 e4 r0 r1 r2 r3 r4 r5 r6 r7 r8 r9 rf sf hat hb3
     obtain ⟨s0, s1, s2, s3, s4, s5, s6, s7, s8, s9⟩ := cel10 HAT3.out.sb; obtain ⟨e0, e1, e2, e3, e4⟩ := cel5 HAT3.out.eb; obtain ⟨r0, r1, r2, r3, r4, r5, r6, r7, r8, r9⟩ := celz HAT3.out.rb; have rf := blk_free HAT3.out.rb; have sf := blk_free HAT3.out.sb; go_wp2_with fail; refine (HDE.out w3).mono ?_; rintro y w4 ⟨rfl, hb4⟩; unfold endL dsL; have hat := HAT3.out.below hb4; have HAT4 := Lib.hid hat; clear s0 s1 s2 s3 s4 s5 s6 s7 s8 s9 e0 e1 e2 e3 e4 r0 r1 r2 r3 r4 r5 r6 r7 r8 r9 rf sf hat hb4; obtain ⟨s0, s1, s2, s3, s4, s5, s6, s7, s8, s9⟩ := cel10 HAT4.out.sb; obtain ⟨e0, e1, e2, e3, e4⟩ := cel5 HAT4.out.eb
     obtain ⟨r0, r1, r2, r3, r4, r5, r6, r7, r8, r9⟩ := celz HAT4.out.rb; have rf := blk_free HAT4.out.rb; have sf := blk_free HAT4.out.sb; go_wp2; have hf1 : ((put10 w4 (w.heap.size + 1 + 1) N V M O I (3) (v) tk lf true)).heap[w.heap.size + 1 + 1]? = some (dsC (dsL N V M O I (3) (v) tk lf true)) := (HAT4.out.fin N V M O I (3) (v) tk lf true).1
     have hf2 := (HAT4.out.fin N V M O I (3) (v) tk lf true).2; obtain ⟨w9, hw9⟩ : ∃ x, (put10 w4 (w.heap.size + 1 + 1) N V M O I (3) (v) tk lf true) = x := ⟨_, rfl⟩
     rw [hw9] at hf1 hf2; unfold put10 at hw9; rw [hw9]; refine bodyPost_ret (results_dsTmp rfl _ _ (w.heap.size + 1 + 1) N V M O I (3) (v) tk lf true (.int .i64 0) (by rfl) (by rfl) hf1) rfl ?_
     rw [HG.out]; exact ⟨hf2, rfl⟩
  ·have t1 : (e.kind == 1) = false := by simp [hK]
   have t2 : (e.kind == 2) = false := by simp [hK]
   have t3 : (e.kind == 3) = false := by simp [hK]
   have t4 : (e.kind == 4) = true := by simp [hK]
   have hlen : e.args.length = 1 := by simp [wantE, hK] at hla; omega
   have hwW := hB.size; have hj0 : 0 < e.args.length := by omega
   have hga0 : e.args.getD 0 default = e.args[0]'hj0 := by simp [List.getD, hj0]
   have hno0 := Expr.nodesL_take e.args 0 hj0; have hra0 := Expr.rightsB_all hrr (e.args[0]'hj0) (List.getElem_mem hj0); have h640 := Expr.in64_mem (Expr.in64_args h64) (List.getElem_mem hj0); obtain ⟨a0, ha0⟩ : ∃ x, e.args[0]'hj0 = x := ⟨_, rfl⟩
   have HAX0 := Lib.hid (fun w' (hb : Below W.heap.size W w') => Expr.at hrd hb hj0)
   rw [ha0] at hga0 hno0 hra0 h640 HAX0; have hj0' : (0 : Int) < (e.args.length : Int) := by omega
   have hV := exprV_one (S := S) (e := e) (by omega) (by omega) hlen
   unfold argV at hV; rw [hga0] at hV; have hfd0 : ∀ u, exprV S a0 ≠ .left 0 u := fun u hu => hfd u (by rw [hV, hu])
   have HI0 := Lib.hid (fun A' c' (h5 : Expr.rds W a0.args A' 0) w' (hb : Below W.heap.size W w') (hr' : RdS w' S N V M) => ih a0 A' c' (d + 1) (by omega) h5 hra0 h640 hfd0 N V M O I tk lf w' hb hr')
   unfold dsL at HI0; have HAT0 := HAT; obtain ⟨ba0, oa0, B0, d0, hA0, hba0, m0, m1, m2, m3, m4, _, _, hr5⟩ := HAX0.out w0 (HB.out.trans (HAT0.out.bel.mono hwW)); simp only [Nat.zero_mul, Nat.one_mul, Nat.add_zero] at m0 m1 m2 m3 m4
   subst hA0; have HI := Lib.hid (HI0.out B0 d0 hr5 w0.drew HWB.out.drew (HRD0.out.below (Below.refl _ _).drew)); have HHV := Lib.hid hV; have HFD := Lib.hid hfd; have HKK := Lib.hid hK; have H640 := Lib.hid h640; clear hK hla hlen ih hfd hfd0 hra0 h640 hno0 hga0 hV hrr h64 hne hr5 ha0
   cases hx : exprV S a0 with
   | left h u =>
    have HG := Lib.hid (show exprV S e = .left h u by rw [HHV.out, hx])
    rw [hx] at HI; go_enter Try.func80, Try.ntmps80
    go_wp2_with (have tk := HW; clear tk; rw [HW.out]; clear HW)
    refine wp_region_noPanic ?_; refine wp_region_held_drew (S := KeepS (w.heap.size) w0) (by kernel_rfl) (KeepS.drew _ _) (fun hHeld => ?_)
    refine tkP 1 36 (.pointer (some ⟨w.heap.size + 1, 4, none⟩)) ?_; refine tkP 2 37 (.slice (some ⟨ba0, oa0, none⟩) e.args.length c) ?_ (hy := Or.inl ⟨by rfl, fun U hU => by have q := hU.cell e4 (by omega); clear e4; go_simp⟩)
    refine tkP 3 38 (.pointer (some ⟨ba0, oa0, none⟩)) ?_; refine tkP 4 39 (.agg #[.int .i64 a0.kind, .int .i64 a0.num, .string a0.name, .int .i64 a0.op, .slice B0 a0.args.length d0]) ?_ (hy := Or.inl ⟨by rfl, fun U hU => by have q0 := hU.cell m0 (by omega); have q1 := hU.cell m1 (by omega); have q2 := hU.cell m2 (by omega); have q3 := hU.cell m3 (by omega); have q4 := hU.cell m4 (by omega); clear m0 m1 m2 m3 m4; go_simp⟩)
    refine rd1 0 (some 35) fun K hK => ?_
    go_simp; refine bk hK (hHeld) fun q => ?_; clear hK K hHeld; have hHeld := q; clear q
    refine rd1 5 (some 40) fun K hK => ?_
    go_simp; refine (HI.out).mono ?_; rintro y w1 ⟨hb1, hy⟩; simp only [dsL] at hy
    subst hy; have hbc1 : Below w0.heap.size w0 w1 := below_fromdrew hb1
    have hat1 := HAT0.out.below hbc1; obtain ⟨z0, z1, z2, z3, z4, z5, z6, z7, z8, z9⟩ := cel10 hat1.sb; have zf := blk_free hat1.sb; refine bk hK ((KeepS.drew _ w0).below hb1) fun q => ?_; clear hK K hHeld; have hHeld := q; clear q
    refine tkP 6 34 (.tuple #[.agg #[.slice N.a N.n N.c, .slice V.a V.n V.c, .slice M.a M.n M.c, .slice O.a O.n O.c, .slice I.a I.n I.c, .int .i64 h, .int .i64 u, .int .i64 tk, .int .i64 lf, .bool true], .int .i64 0]) ?_; refine tkP 7 41 (.agg #[.slice N.a N.n N.c, .slice V.a V.n V.c, .slice M.a M.n M.c, .slice O.a O.n O.c, .slice I.a I.n I.c, .int .i64 h, .int .i64 u, .int .i64 tk, .int .i64 lf, .bool true]) ?_; refine tkP 8 42 (.int .i64 0) ?_; refine rd1 9 none fun K hK => ?_
    go_simp; refine bk hK (((KeepS.drew _ w0).below hb1).put N V M O I (h) (u) tk lf true) fun q => ?_; clear hK K hHeld; have hHeld := q; clear q
    refine tkP 10 6 (.int .i64 0) ?_; refine wpAnyH_done (by kernel_rfl) ?_ _
    refine NoPanic.normal ?_; clear z0 z1 z2 z3 z4 z5 z6 z7 z8 z9 zf; have hat := hat1.put N V M O I h u tk lf true; obtain ⟨w2, hw2⟩ : ∃ x, put10 w1 w.heap.size N V M O I h u tk lf true = x := ⟨_, rfl⟩
    rw [hw2] at hat; unfold put10 at hw2; rw [hw2]; have HAT2 := Lib.hid hat; clear s0 s1 s2 s3 s4 s5 s6 s7 s8 s9 e0 e1 e2 e3 e4 r0 r1 r2 r3 r4 r5 r6 r7 r8 r9 rf sf hat hw2; obtain ⟨s0, s1, s2, s3, s4, s5, s6, s7, s8, s9⟩ := cel10 HAT2.out.sb; obtain ⟨e0, e1, e2, e3, e4⟩ := cel5 HAT2.out.eb; obtain ⟨r0, r1, r2, r3, r4, r5, r6, r7, r8, r9⟩ := celz HAT2.out.rb; have rf := blk_free HAT2.out.rb; have sf := blk_free HAT2.out.sb; go_wp2; have hf1 : ((put10 w2 (w.heap.size + 1 + 1) N V M O I (h) (u) tk lf true)).heap[w.heap.size + 1 + 1]? = some (dsC (dsL N V M O I (h) (u) tk lf true)) := (HAT2.out.fin N V M O I (h) (u) tk lf true).1
    have hf2 := (HAT2.out.fin N V M O I (h) (u) tk lf true).2; obtain ⟨w9, hw9⟩ : ∃ x, (put10 w2 (w.heap.size + 1 + 1) N V M O I (h) (u) tk lf true) = x := ⟨_, rfl⟩
    rw [hw9] at hf1 hf2; unfold put10 at hw9; rw [hw9]; refine bodyPost_ret (results_dsTmp rfl _ _ (w.heap.size + 1 + 1) N V M O I (h) (u) tk lf true (.int .i64 0) (by rfl) (by rfl) hf1) rfl ?_
    rw [HG.out]; exact ⟨hf2, rfl⟩
   | ok v =>
    rw [hx] at HI; have hn64 := exprV_n64 hS a0 H640.out v hx; have HG := Lib.hid (show exprV S e = .ok (one e.op v).1 by rw [HHV.out, hx]; simp only; rw [if_neg (by have := HKK.out; omega), if_pos HKK.out])
    clear hn64 hx; go_enter Try.func80, Try.ntmps80
    go_wp2_with (have tk := HW; clear tk; rw [HW.out]; clear HW)
    refine wp_region_noPanic ?_; refine wp_region_held_drew (S := KeepS (w.heap.size) w0) (by kernel_rfl) (KeepS.drew _ _) (fun hHeld => ?_)
    refine tkP 1 36 (.pointer (some ⟨w.heap.size + 1, 4, none⟩)) ?_; refine tkP 2 37 (.slice (some ⟨ba0, oa0, none⟩) e.args.length c) ?_ (hy := Or.inl ⟨by rfl, fun U hU => by have q := hU.cell e4 (by omega); clear e4; go_simp⟩)
    refine tkP 3 38 (.pointer (some ⟨ba0, oa0, none⟩)) ?_; refine tkP 4 39 (.agg #[.int .i64 a0.kind, .int .i64 a0.num, .string a0.name, .int .i64 a0.op, .slice B0 a0.args.length d0]) ?_ (hy := Or.inl ⟨by rfl, fun U hU => by have q0 := hU.cell m0 (by omega); have q1 := hU.cell m1 (by omega); have q2 := hU.cell m2 (by omega); have q3 := hU.cell m3 (by omega); have q4 := hU.cell m4 (by omega); clear m0 m1 m2 m3 m4; go_simp⟩)
    refine rd1 0 (some 35) fun K hK => ?_
    go_simp; refine bk hK (hHeld) fun q => ?_; clear hK K hHeld; have hHeld := q; clear q
    refine rd1 5 (some 40) fun K hK => ?_
    go_simp; refine (HI.out).mono ?_; rintro y w1 ⟨hb1, hy⟩; simp only [dsL] at hy
    subst hy; have hbc1 : Below w0.heap.size w0 w1 := below_fromdrew hb1
    have hat1 := HAT0.out.below hbc1; obtain ⟨z0, z1, z2, z3, z4, z5, z6, z7, z8, z9⟩ := cel10 hat1.sb; have zf := blk_free hat1.sb; refine bk hK ((KeepS.drew _ w0).below hb1) fun q => ?_; clear hK K hHeld; have hHeld := q; clear q
    refine tkP 6 34 (.tuple #[.agg #[.slice N.a N.n N.c, .slice V.a V.n V.c, .slice M.a M.n M.c, .slice O.a O.n O.c, .slice I.a I.n I.c, .int .i64 0, .int .i64 0, .int .i64 tk, .int .i64 lf, .bool false], .int .i64 v]) ?_; refine tkP 7 41 (.agg #[.slice N.a N.n N.c, .slice V.a V.n V.c, .slice M.a M.n M.c, .slice O.a O.n O.c, .slice I.a I.n I.c, .int .i64 0, .int .i64 0, .int .i64 tk, .int .i64 lf, .bool false]) ?_; refine tkP 8 42 (.int .i64 v) ?_; refine rd1 9 none fun K hK => ?_
    go_simp; refine bk hK (((KeepS.drew _ w0).below hb1).put N V M O I (0) (0) tk lf false) fun q => ?_; clear hK K hHeld; have hHeld := q; clear q
    refine tkP 10 6 (.int .i64 v) ?_; refine wpAnyH_done (by kernel_rfl) ?_ _
    refine NoPanic.normal ?_; clear z0 z1 z2 z3 z4 z5 z6 z7 z8 z9 zf; have hat := hat1.put N V M O I 0 0 tk lf false; obtain ⟨w2, hw2⟩ : ∃ x, put10 w1 w.heap.size N V M O I 0 0 tk lf false = x := ⟨_, rfl⟩
    rw [hw2] at hat; unfold put10 at hw2; rw [hw2]; have HAT2 := Lib.hid hat; clear s0 s1 s2 s3 s4 s5 s6 s7 s8 s9 e0 e1 e2 e3 e4 r0 r1 r2 r3 r4 r5 r6 r7 r8 r9 rf sf hat hw2; obtain ⟨s0, s1, s2, s3, s4, s5, s6, s7, s8, s9⟩ := cel10 HAT2.out.sb; obtain ⟨e0, e1, e2, e3, e4⟩ := cel5 HAT2.out.eb; obtain ⟨r0, r1, r2, r3, r4, r5, r6, r7, r8, r9⟩ := celz HAT2.out.rb; have rf := blk_free HAT2.out.rb; have sf := blk_free HAT2.out.sb; go_wp2_with fail; refine (refOne_calls e.op v w2).mono ?_; rintro y w3 ⟨rfl, hb3⟩; have hat := HAT2.out.below hb3; have HAT3 := Lib.hid hat; clear s0 s1 s2 s3 s4 s5 s6 s7 s8 s9 e0 e1 e2 e3 e4 r0 r1 r2 r3 r4 r5 r6 r7 r8 r9 rf sf hat hb3
    obtain ⟨s0, s1, s2, s3, s4, s5, s6, s7, s8, s9⟩ := cel10 HAT3.out.sb; obtain ⟨e0, e1, e2, e3, e4⟩ := cel5 HAT3.out.eb; obtain ⟨r0, r1, r2, r3, r4, r5, r6, r7, r8, r9⟩ := celz HAT3.out.rb; have rf := blk_free HAT3.out.rb; have sf := blk_free HAT3.out.sb; go_wp2; have hf1 : ((put10 w3 (w.heap.size + 1 + 1) N V M O I (0) (0) tk lf false)).heap[w.heap.size + 1 + 1]? = some (dsC (dsL N V M O I (0) (0) tk lf false)) := (HAT3.out.fin N V M O I (0) (0) tk lf false).1
    have hf2 := (HAT3.out.fin N V M O I (0) (0) tk lf false).2; obtain ⟨w9, hw9⟩ : ∃ x, (put10 w3 (w.heap.size + 1 + 1) N V M O I (0) (0) tk lf false) = x := ⟨_, rfl⟩
    rw [hw9] at hf1 hf2; unfold put10 at hw9; rw [hw9]; refine bodyPost_ret (results_dsTmp rfl _ _ (w.heap.size + 1 + 1) N V M O I (0) (0) tk lf false (.int .i64 (one e.op v).1) (by rfl) (by rfl) hf1) rfl ?_
    rw [HG.out]; exact ⟨hf2, rfl⟩
  ·have t1 : (e.kind == 1) = false := by simp [hK]
   have t2 : (e.kind == 2) = false := by simp [hK]
   have t3 : (e.kind == 3) = false := by simp [hK]
   have t4 : (e.kind == 4) = false := by simp [hK]
   have hlen : e.args.length = 2 := by simp [wantE, hK] at hla; omega
   have hwW := hB.size; have hj0 : 0 < e.args.length := by omega
   have hga0 : e.args.getD 0 default = e.args[0]'hj0 := by simp [List.getD, hj0]
   have hno0 := Expr.nodesL_take e.args 0 hj0; have hra0 := Expr.rightsB_all hrr (e.args[0]'hj0) (List.getElem_mem hj0); have h640 := Expr.in64_mem (Expr.in64_args h64) (List.getElem_mem hj0); obtain ⟨a0, ha0⟩ : ∃ x, e.args[0]'hj0 = x := ⟨_, rfl⟩
   have HAX0 := Lib.hid (fun w' (hb : Below W.heap.size W w') => Expr.at hrd hb hj0)
   rw [ha0] at hga0 hno0 hra0 h640 HAX0; have hj0' : (0 : Int) < (e.args.length : Int) := by omega
   have hj1 : 1 < e.args.length := by omega
   have hga1 : e.args.getD 1 default = e.args[1]'hj1 := by simp [List.getD, hj1]
   have hno1 := Expr.nodesL_take e.args 1 hj1; have hra1 := Expr.rightsB_all hrr (e.args[1]'hj1) (List.getElem_mem hj1); have h641 := Expr.in64_mem (Expr.in64_args h64) (List.getElem_mem hj1); obtain ⟨a1, ha1⟩ : ∃ x, e.args[1]'hj1 = x := ⟨_, rfl⟩
   have HAX1 := Lib.hid (fun w' (hb : Below W.heap.size W w') => Expr.at hrd hb hj1)
   rw [ha1] at hga1 hno1 hra1 h641 HAX1; have hj1' : (1 : Int) < (e.args.length : Int) := by omega
   have hV := exprV_two (S := S) (e := e) hK hlen; unfold argV at hV; rw [hga0, hga1] at hV; have hfd0 : ∀ u, exprV S a0 ≠ .left 0 u := fun u hu => hfd u (by rw [hV, hu])
   have HI0 := Lib.hid (fun A' c' (h5 : Expr.rds W a0.args A' 0) w' (hb : Below W.heap.size W w') (hr' : RdS w' S N V M) => ih a0 A' c' (d + 1) (by omega) h5 hra0 h640 hfd0 N V M O I tk lf w' hb hr')
   unfold dsL at HI0; have HHV := Lib.hid hV; have HFD := Lib.hid hfd; have HIH1 := Lib.hid (fun (hfd1 : ∀ u, exprV S a1 ≠ .left 0 u) A' c' (h5 : Expr.rds W a1.args A' 0) w' (hb : Below W.heap.size W w') (hr' : RdS w' S N V M) => ih a1 A' c' (d + 1) (by omega) h5 hra1 h641 hfd1 N V M O I tk lf w' hb hr')
   unfold dsL at HIH1; have HAT0 := HAT; obtain ⟨ba0, oa0, B0, d0, hA0, hba0, m0, m1, m2, m3, m4, _, _, hr5⟩ := HAX0.out w0 (HB.out.trans (HAT0.out.bel.mono hwW)); simp only [Nat.zero_mul, Nat.one_mul, Nat.add_zero] at m0 m1 m2 m3 m4
   subst hA0; have HI := Lib.hid (HI0.out B0 d0 hr5 w0.drew HWB.out.drew (HRD0.out.below (Below.refl _ _).drew)); have HKK := Lib.hid hK; have H640 := Lib.hid h640; have H641 := Lib.hid h641; clear hK hla hlen ih hfd hfd0 hra0 hra1 h640 h641 hno0 hno1 hga0 hga1 hV hrr h64 hne hr5 ha0 ha1
   cases hx : exprV S a0 with
   | left h u =>
    have HG := Lib.hid (show exprV S e = .left h u by rw [HHV.out, hx])
    rw [hx] at HI; go_enter Try.func80, Try.ntmps80
    go_wp2_with (have tk := HW; clear tk; rw [HW.out]; clear HW)
    refine wp_region_noPanic ?_; refine wp_region_held_drew (S := KeepS (w.heap.size) w0) (by kernel_rfl) (KeepS.drew _ _) (fun hHeld => ?_)
    refine tkP 1 36 (.pointer (some ⟨w.heap.size + 1, 4, none⟩)) ?_; refine tkP 2 37 (.slice (some ⟨ba0, oa0, none⟩) e.args.length c) ?_ (hy := Or.inl ⟨by rfl, fun U hU => by have q := hU.cell e4 (by omega); clear e4; go_simp⟩)
    refine tkP 3 38 (.pointer (some ⟨ba0, oa0, none⟩)) ?_; refine tkP 4 39 (.agg #[.int .i64 a0.kind, .int .i64 a0.num, .string a0.name, .int .i64 a0.op, .slice B0 a0.args.length d0]) ?_ (hy := Or.inl ⟨by rfl, fun U hU => by have q0 := hU.cell m0 (by omega); have q1 := hU.cell m1 (by omega); have q2 := hU.cell m2 (by omega); have q3 := hU.cell m3 (by omega); have q4 := hU.cell m4 (by omega); clear m0 m1 m2 m3 m4; go_simp⟩)
    refine rd1 0 (some 35) fun K hK => ?_
    go_simp; refine bk hK (hHeld) fun q => ?_; clear hK K hHeld; have hHeld := q; clear q
    refine rd1 5 (some 40) fun K hK => ?_
    go_simp; refine (HI.out).mono ?_; rintro y w1 ⟨hb1, hy⟩; simp only [dsL] at hy
    subst hy; have hbc1 : Below w0.heap.size w0 w1 := below_fromdrew hb1
    have hat1 := HAT0.out.below hbc1; obtain ⟨z0, z1, z2, z3, z4, z5, z6, z7, z8, z9⟩ := cel10 hat1.sb; have zf := blk_free hat1.sb; refine bk hK ((KeepS.drew _ w0).below hb1) fun q => ?_; clear hK K hHeld; have hHeld := q; clear q
    refine tkP 6 34 (.tuple #[.agg #[.slice N.a N.n N.c, .slice V.a V.n V.c, .slice M.a M.n M.c, .slice O.a O.n O.c, .slice I.a I.n I.c, .int .i64 h, .int .i64 u, .int .i64 tk, .int .i64 lf, .bool true], .int .i64 0]) ?_; refine tkP 7 41 (.agg #[.slice N.a N.n N.c, .slice V.a V.n V.c, .slice M.a M.n M.c, .slice O.a O.n O.c, .slice I.a I.n I.c, .int .i64 h, .int .i64 u, .int .i64 tk, .int .i64 lf, .bool true]) ?_; refine tkP 8 42 (.int .i64 0) ?_; refine rd1 9 none fun K hK => ?_
    go_simp; refine bk hK (((KeepS.drew _ w0).below hb1).put N V M O I (h) (u) tk lf true) fun q => ?_; clear hK K hHeld; have hHeld := q; clear q
    refine tkP 10 6 (.int .i64 0) ?_; refine wpAnyH_done (by kernel_rfl) ?_ _
    refine NoPanic.normal ?_; clear z0 z1 z2 z3 z4 z5 z6 z7 z8 z9 zf; have hat := hat1.put N V M O I h u tk lf true; obtain ⟨w2, hw2⟩ : ∃ x, put10 w1 w.heap.size N V M O I h u tk lf true = x := ⟨_, rfl⟩
    rw [hw2] at hat; unfold put10 at hw2; rw [hw2]; have HAT2 := Lib.hid hat; clear s0 s1 s2 s3 s4 s5 s6 s7 s8 s9 e0 e1 e2 e3 e4 r0 r1 r2 r3 r4 r5 r6 r7 r8 r9 rf sf hat hw2; obtain ⟨s0, s1, s2, s3, s4, s5, s6, s7, s8, s9⟩ := cel10 HAT2.out.sb; obtain ⟨e0, e1, e2, e3, e4⟩ := cel5 HAT2.out.eb; obtain ⟨r0, r1, r2, r3, r4, r5, r6, r7, r8, r9⟩ := celz HAT2.out.rb; have rf := blk_free HAT2.out.rb; have sf := blk_free HAT2.out.sb; go_wp2; have hf1 : ((put10 w2 (w.heap.size + 1 + 1) N V M O I (h) (u) tk lf true)).heap[w.heap.size + 1 + 1]? = some (dsC (dsL N V M O I (h) (u) tk lf true)) := (HAT2.out.fin N V M O I (h) (u) tk lf true).1
    have hf2 := (HAT2.out.fin N V M O I (h) (u) tk lf true).2; obtain ⟨w9, hw9⟩ : ∃ x, (put10 w2 (w.heap.size + 1 + 1) N V M O I (h) (u) tk lf true) = x := ⟨_, rfl⟩
    rw [hw9] at hf1 hf2; unfold put10 at hw9; rw [hw9]; refine bodyPost_ret (results_dsTmp rfl _ _ (w.heap.size + 1 + 1) N V M O I (h) (u) tk lf true (.int .i64 0) (by rfl) (by rfl) hf1) rfl ?_
    rw [HG.out]; exact ⟨hf2, rfl⟩
   | ok v =>
    rw [hx] at HI; have hn64 := exprV_n64 hS a0 H640.out v hx; have hfd1 : ∀ u, exprV S a1 ≠ .left 0 u := fun u hu => HFD.out u (by rw [HHV.out, hx]; simp only; rw [hu])
    go_enter Try.func80, Try.ntmps80
    go_wp2_with (have tk := HW; clear tk; rw [HW.out]; clear HW)
    refine wp_region_noPanic ?_; refine wp_region_held_drew (S := KeepS (w.heap.size) w0) (by kernel_rfl) (KeepS.drew _ _) (fun hHeld => ?_)
    refine tkP 1 36 (.pointer (some ⟨w.heap.size + 1, 4, none⟩)) ?_; refine tkP 2 37 (.slice (some ⟨ba0, oa0, none⟩) e.args.length c) ?_ (hy := Or.inl ⟨by rfl, fun U hU => by have q := hU.cell e4 (by omega); clear e4; go_simp⟩)
    refine tkP 3 38 (.pointer (some ⟨ba0, oa0, none⟩)) ?_; refine tkP 4 39 (.agg #[.int .i64 a0.kind, .int .i64 a0.num, .string a0.name, .int .i64 a0.op, .slice B0 a0.args.length d0]) ?_ (hy := Or.inl ⟨by rfl, fun U hU => by have q0 := hU.cell m0 (by omega); have q1 := hU.cell m1 (by omega); have q2 := hU.cell m2 (by omega); have q3 := hU.cell m3 (by omega); have q4 := hU.cell m4 (by omega); clear m0 m1 m2 m3 m4; go_simp⟩)
    refine rd1 0 (some 35) fun K hK => ?_
    go_simp; refine bk hK (hHeld) fun q => ?_; clear hK K hHeld; have hHeld := q; clear q
    refine rd1 5 (some 40) fun K hK => ?_
    go_simp; refine (HI.out).mono ?_; rintro y w1 ⟨hb1, hy⟩; simp only [dsL] at hy
    subst hy; have hbc1 : Below w0.heap.size w0 w1 := below_fromdrew hb1
    have hat1 := HAT0.out.below hbc1; obtain ⟨z0, z1, z2, z3, z4, z5, z6, z7, z8, z9⟩ := cel10 hat1.sb; have zf := blk_free hat1.sb; refine bk hK ((KeepS.drew _ w0).below hb1) fun q => ?_; clear hK K hHeld; have hHeld := q; clear q
    refine tkP 6 34 (.tuple #[.agg #[.slice N.a N.n N.c, .slice V.a V.n V.c, .slice M.a M.n M.c, .slice O.a O.n O.c, .slice I.a I.n I.c, .int .i64 0, .int .i64 0, .int .i64 tk, .int .i64 lf, .bool false], .int .i64 v]) ?_; refine tkP 7 41 (.agg #[.slice N.a N.n N.c, .slice V.a V.n V.c, .slice M.a M.n M.c, .slice O.a O.n O.c, .slice I.a I.n I.c, .int .i64 0, .int .i64 0, .int .i64 tk, .int .i64 lf, .bool false]) ?_; refine tkP 8 42 (.int .i64 v) ?_; refine rd1 9 none fun K hK => ?_
    go_simp; refine bk hK (((KeepS.drew _ w0).below hb1).put N V M O I (0) (0) tk lf false) fun q => ?_; clear hK K hHeld; have hHeld := q; clear q
    refine tkP 10 6 (.int .i64 v) ?_; refine wpAnyH_done (by kernel_rfl) ?_ _
    refine NoPanic.normal ?_; clear z0 z1 z2 z3 z4 z5 z6 z7 z8 z9 zf; have hat := hat1.put N V M O I 0 0 tk lf false; obtain ⟨w2, hw2⟩ : ∃ x, put10 w1 w.heap.size N V M O I 0 0 tk lf false = x := ⟨_, rfl⟩
    rw [hw2] at hat; unfold put10 at hw2; rw [hw2]; have HAT2 := Lib.hid hat; clear s0 s1 s2 s3 s4 s5 s6 s7 s8 s9 e0 e1 e2 e3 e4 r0 r1 r2 r3 r4 r5 r6 r7 r8 r9 rf sf hat hw2; obtain ⟨s0, s1, s2, s3, s4, s5, s6, s7, s8, s9⟩ := cel10 HAT2.out.sb; obtain ⟨e0, e1, e2, e3, e4⟩ := cel5 HAT2.out.eb; obtain ⟨r0, r1, r2, r3, r4, r5, r6, r7, r8, r9⟩ := celz HAT2.out.rb; have rf := blk_free HAT2.out.rb; have sf := blk_free HAT2.out.sb; go_wp2_with fail; obtain ⟨ba1, oa1, B1, d1, hA1, hba1, m0, m1, m2, m3, m4, _, _, hr5⟩ := HAX1.out w2 (HB.out.trans (HAT2.out.bel.mono hwW)); simp only [Option.some.injEq, Addr.mk.injEq] at hA1
    obtain ⟨rfl, rfl, _⟩ := hA1; simp only [Nat.one_mul] at m0 m1 m2 m3 m4
    have HI2 := Lib.hid (HIH1.out hfd1 B1 d1 hr5 w2.drew (HB.out.trans (HAT2.out.bel.mono hwW)).drew ((HRD.out.below HAT2.out.bel).below (Below.refl _ _).drew))
    cases hy1 : exprV S a1 with
    | left h u =>
     have HG := Lib.hid (show exprV S e = .left h u by rw [HHV.out, hx]; simp only; rw [hy1])
     rw [hy1] at HI2; clear hr5 hx hy1 hn64 hfd1; refine wp_region_noPanic ?_; refine wp_region_held_drew (S := KeepS (w.heap.size) w2) (by kernel_rfl) (KeepS.drew _ _) (fun hHeld => ?_)
     refine tkP 1 77 (.pointer (some ⟨w.heap.size + 1, 4, none⟩)) ?_; refine tkP 2 78 (.slice (some ⟨ba0, oa0, none⟩) e.args.length c) ?_ (hy := Or.inl ⟨by rfl, fun U hU => by have q := hU.cell e4 (by omega); clear e4; go_simp⟩)
     refine tkP 3 79 (.pointer (some ⟨ba0, oa0 + 5, none⟩)) ?_; refine tkP 4 80 (.agg #[.int .i64 a1.kind, .int .i64 a1.num, .string a1.name, .int .i64 a1.op, .slice B1 a1.args.length d1]) ?_ (hy := Or.inl ⟨by rfl, fun U hU => by have q0 := hU.cell m0 (by omega); have q1 := hU.cell m1 (by omega); have q2 := hU.cell m2 (by omega); have q3 := hU.cell m3 (by omega); have q4 := hU.cell m4 (by omega); clear m0 m1 m2 m3 m4; go_simp⟩)
     refine rd1 0 (some 76) fun K hK => ?_
     go_simp; refine bk hK (hHeld) fun q => ?_; clear hK K hHeld; have hHeld := q; clear q
     refine rd1 5 (some 81) fun K hK => ?_
     go_simp; refine (HI2.out).mono ?_; rintro y w1 ⟨hb1, hy⟩; simp only [dsL] at hy
     subst hy; have hbc1 : Below w2.heap.size w2 w1 := below_fromdrew hb1
     have hat1 := HAT2.out.below hbc1; obtain ⟨z0, z1, z2, z3, z4, z5, z6, z7, z8, z9⟩ := cel10 hat1.sb; have zf := blk_free hat1.sb; refine bk hK ((KeepS.drew _ w2).below hb1) fun q => ?_; clear hK K hHeld; have hHeld := q; clear q
     refine tkP 6 75 (.tuple #[.agg #[.slice N.a N.n N.c, .slice V.a V.n V.c, .slice M.a M.n M.c, .slice O.a O.n O.c, .slice I.a I.n I.c, .int .i64 h, .int .i64 u, .int .i64 tk, .int .i64 lf, .bool true], .int .i64 0]) ?_; refine tkP 7 82 (.agg #[.slice N.a N.n N.c, .slice V.a V.n V.c, .slice M.a M.n M.c, .slice O.a O.n O.c, .slice I.a I.n I.c, .int .i64 h, .int .i64 u, .int .i64 tk, .int .i64 lf, .bool true]) ?_; refine tkP 8 83 (.int .i64 0) ?_; refine rd1 9 none fun K hK => ?_
     go_simp; refine bk hK (((KeepS.drew _ w2).below hb1).put N V M O I (h) (u) tk lf true) fun q => ?_; clear hK K hHeld; have hHeld := q; clear q
     refine tkP 10 9 (.int .i64 0) ?_; refine wpAnyH_done (by kernel_rfl) ?_ _
     refine NoPanic.normal ?_; clear z0 z1 z2 z3 z4 z5 z6 z7 z8 z9 zf; have hat := hat1.put N V M O I h u tk lf true; obtain ⟨w3, hw3⟩ : ∃ x, put10 w1 w.heap.size N V M O I h u tk lf true = x := ⟨_, rfl⟩
     rw [hw3] at hat; unfold put10 at hw3; rw [hw3]; have HAT3 := Lib.hid hat; clear s0 s1 s2 s3 s4 s5 s6 s7 s8 s9 e0 e1 e2 e3 e4 r0 r1 r2 r3 r4 r5 r6 r7 r8 r9 rf sf hat hw3; obtain ⟨s0, s1, s2, s3, s4, s5, s6, s7, s8, s9⟩ := cel10 HAT3.out.sb; obtain ⟨e0, e1, e2, e3, e4⟩ := cel5 HAT3.out.eb; obtain ⟨r0, r1, r2, r3, r4, r5, r6, r7, r8, r9⟩ := celz HAT3.out.rb; have rf := blk_free HAT3.out.rb; have sf := blk_free HAT3.out.sb; go_wp2; have hf1 : ((put10 w3 (w.heap.size + 1 + 1) N V M O I (h) (u) tk lf true)).heap[w.heap.size + 1 + 1]? = some (dsC (dsL N V M O I (h) (u) tk lf true)) := (HAT3.out.fin N V M O I (h) (u) tk lf true).1
     have hf2 := (HAT3.out.fin N V M O I (h) (u) tk lf true).2; obtain ⟨w9, hw9⟩ : ∃ x, (put10 w3 (w.heap.size + 1 + 1) N V M O I (h) (u) tk lf true) = x := ⟨_, rfl⟩
     rw [hw9] at hf1 hf2; unfold put10 at hw9; rw [hw9]; refine bodyPost_ret (results_dsTmp rfl _ _ (w.heap.size + 1 + 1) N V M O I (h) (u) tk lf true (.int .i64 0) (by rfl) (by rfl) hf1) rfl ?_
     rw [HG.out]; exact ⟨hf2, rfl⟩
    | ok u =>
     rw [hy1] at HI2; have hn641 := exprV_n64 hS a1 H641.out u hy1; have HTW := Lib.hid (fun w' => refTwo_calls e.op v u hn64.1 hn64.2 hn641.1 hn641.2 w')
     by_cases h2 : (two e.op v u).2 = true
     ·have HG := Lib.hid (show exprV S e = .ok (two e.op v u).1 by rw [HHV.out, hx]; simp only; rw [hy1]; simp only; rw [twoV, if_pos h2])
      have H2 := Lib.hid h2; clear hr5 hx hy1 hn64 hn641 hfd1 h2; refine wp_region_noPanic ?_; refine wp_region_held_drew (S := KeepS (w.heap.size) w2) (by kernel_rfl) (KeepS.drew _ _) (fun hHeld => ?_)
      refine tkP 1 77 (.pointer (some ⟨w.heap.size + 1, 4, none⟩)) ?_; refine tkP 2 78 (.slice (some ⟨ba0, oa0, none⟩) e.args.length c) ?_ (hy := Or.inl ⟨by rfl, fun U hU => by have q := hU.cell e4 (by omega); clear e4; go_simp⟩)
      refine tkP 3 79 (.pointer (some ⟨ba0, oa0 + 5, none⟩)) ?_; refine tkP 4 80 (.agg #[.int .i64 a1.kind, .int .i64 a1.num, .string a1.name, .int .i64 a1.op, .slice B1 a1.args.length d1]) ?_ (hy := Or.inl ⟨by rfl, fun U hU => by have q0 := hU.cell m0 (by omega); have q1 := hU.cell m1 (by omega); have q2 := hU.cell m2 (by omega); have q3 := hU.cell m3 (by omega); have q4 := hU.cell m4 (by omega); clear m0 m1 m2 m3 m4; go_simp⟩)
      refine rd1 0 (some 76) fun K hK => ?_
      go_simp; refine bk hK (hHeld) fun q => ?_; clear hK K hHeld; have hHeld := q; clear q
      refine rd1 5 (some 81) fun K hK => ?_
      go_simp; refine (HI2.out).mono ?_; rintro y w1 ⟨hb1, hy⟩; simp only [dsL] at hy
      subst hy; have hbc1 : Below w2.heap.size w2 w1 := below_fromdrew hb1
      have hat1 := HAT2.out.below hbc1; obtain ⟨z0, z1, z2, z3, z4, z5, z6, z7, z8, z9⟩ := cel10 hat1.sb; have zf := blk_free hat1.sb; refine bk hK ((KeepS.drew _ w2).below hb1) fun q => ?_; clear hK K hHeld; have hHeld := q; clear q
      refine tkP 6 75 (.tuple #[.agg #[.slice N.a N.n N.c, .slice V.a V.n V.c, .slice M.a M.n M.c, .slice O.a O.n O.c, .slice I.a I.n I.c, .int .i64 0, .int .i64 0, .int .i64 tk, .int .i64 lf, .bool false], .int .i64 u]) ?_; refine tkP 7 82 (.agg #[.slice N.a N.n N.c, .slice V.a V.n V.c, .slice M.a M.n M.c, .slice O.a O.n O.c, .slice I.a I.n I.c, .int .i64 0, .int .i64 0, .int .i64 tk, .int .i64 lf, .bool false]) ?_; refine tkP 8 83 (.int .i64 u) ?_; refine rd1 9 none fun K hK => ?_
      go_simp; refine bk hK (((KeepS.drew _ w2).below hb1).put N V M O I (0) (0) tk lf false) fun q => ?_; clear hK K hHeld; have hHeld := q; clear q
      refine tkP 10 9 (.int .i64 u) ?_; refine wpAnyH_done (by kernel_rfl) ?_ _
      refine NoPanic.normal ?_; clear z0 z1 z2 z3 z4 z5 z6 z7 z8 z9 zf; have hat := hat1.put N V M O I 0 0 tk lf false; obtain ⟨w3, hw3⟩ : ∃ x, put10 w1 w.heap.size N V M O I 0 0 tk lf false = x := ⟨_, rfl⟩
      rw [hw3] at hat; unfold put10 at hw3; rw [hw3]; have HAT3 := Lib.hid hat; clear s0 s1 s2 s3 s4 s5 s6 s7 s8 s9 e0 e1 e2 e3 e4 r0 r1 r2 r3 r4 r5 r6 r7 r8 r9 rf sf hat hw3; obtain ⟨s0, s1, s2, s3, s4, s5, s6, s7, s8, s9⟩ := cel10 HAT3.out.sb; obtain ⟨e0, e1, e2, e3, e4⟩ := cel5 HAT3.out.eb; obtain ⟨r0, r1, r2, r3, r4, r5, r6, r7, r8, r9⟩ := celz HAT3.out.rb; have rf := blk_free HAT3.out.rb; have sf := blk_free HAT3.out.sb; go_wp2_with fail; refine (HTW.out w3).mono ?_; rintro y w4 ⟨rfl, hb4⟩; rw [H2.out]; have hat := HAT3.out.below hb4; have HAT4 := Lib.hid hat; clear s0 s1 s2 s3 s4 s5 s6 s7 s8 s9 e0 e1 e2 e3 e4 r0 r1 r2 r3 r4 r5 r6 r7 r8 r9 rf sf hat hb4
      obtain ⟨s0, s1, s2, s3, s4, s5, s6, s7, s8, s9⟩ := cel10 HAT4.out.sb; obtain ⟨e0, e1, e2, e3, e4⟩ := cel5 HAT4.out.eb; obtain ⟨r0, r1, r2, r3, r4, r5, r6, r7, r8, r9⟩ := celz HAT4.out.rb; have rf := blk_free HAT4.out.rb; have sf := blk_free HAT4.out.sb; go_wp2; have hf1 : ((put10 w4 (w.heap.size + 1 + 1) N V M O I (0) (0) tk lf false)).heap[w.heap.size + 1 + 1]? = some (dsC (dsL N V M O I (0) (0) tk lf false)) := (HAT4.out.fin N V M O I (0) (0) tk lf false).1
      have hf2 := (HAT4.out.fin N V M O I (0) (0) tk lf false).2; obtain ⟨w9, hw9⟩ : ∃ x, (put10 w4 (w.heap.size + 1 + 1) N V M O I (0) (0) tk lf false) = x := ⟨_, rfl⟩
      rw [hw9] at hf1 hf2; unfold put10 at hw9; rw [hw9]; refine bodyPost_ret (results_dsTmp rfl _ _ (w.heap.size + 1 + 1) N V M O I (0) (0) tk lf false (.int .i64 (two e.op v u).1) (by rfl) (by rfl) hf1) rfl ?_
      rw [HG.out]; exact ⟨hf2, rfl⟩
     ·have h2f : (two e.op v u).2 = false := by simpa using h2
      have HG := Lib.hid (show exprV S e = .left 2 0 by rw [HHV.out, hx]; simp only; rw [hy1]; simp only; rw [twoV, if_neg h2])
      have H2 := Lib.hid h2f; have HDE := Lib.hid (fun w' => dend_calls N V M O I 0 0 tk lf false 2 0 w')
      unfold dsL at HDE; clear hr5 hx hy1 hn64 hn641 hfd1 h2 h2f; refine wp_region_noPanic ?_; refine wp_region_held_drew (S := KeepS (w.heap.size) w2) (by kernel_rfl) (KeepS.drew _ _) (fun hHeld => ?_)
      refine tkP 1 77 (.pointer (some ⟨w.heap.size + 1, 4, none⟩)) ?_; refine tkP 2 78 (.slice (some ⟨ba0, oa0, none⟩) e.args.length c) ?_ (hy := Or.inl ⟨by rfl, fun U hU => by have q := hU.cell e4 (by omega); clear e4; go_simp⟩)
      refine tkP 3 79 (.pointer (some ⟨ba0, oa0 + 5, none⟩)) ?_; refine tkP 4 80 (.agg #[.int .i64 a1.kind, .int .i64 a1.num, .string a1.name, .int .i64 a1.op, .slice B1 a1.args.length d1]) ?_ (hy := Or.inl ⟨by rfl, fun U hU => by have q0 := hU.cell m0 (by omega); have q1 := hU.cell m1 (by omega); have q2 := hU.cell m2 (by omega); have q3 := hU.cell m3 (by omega); have q4 := hU.cell m4 (by omega); clear m0 m1 m2 m3 m4; go_simp⟩)
      refine rd1 0 (some 76) fun K hK => ?_
      go_simp; refine bk hK (hHeld) fun q => ?_; clear hK K hHeld; have hHeld := q; clear q
      refine rd1 5 (some 81) fun K hK => ?_
      go_simp; refine (HI2.out).mono ?_; rintro y w1 ⟨hb1, hy⟩; simp only [dsL] at hy
      subst hy; have hbc1 : Below w2.heap.size w2 w1 := below_fromdrew hb1
      have hat1 := HAT2.out.below hbc1; obtain ⟨z0, z1, z2, z3, z4, z5, z6, z7, z8, z9⟩ := cel10 hat1.sb; have zf := blk_free hat1.sb; refine bk hK ((KeepS.drew _ w2).below hb1) fun q => ?_; clear hK K hHeld; have hHeld := q; clear q
      refine tkP 6 75 (.tuple #[.agg #[.slice N.a N.n N.c, .slice V.a V.n V.c, .slice M.a M.n M.c, .slice O.a O.n O.c, .slice I.a I.n I.c, .int .i64 0, .int .i64 0, .int .i64 tk, .int .i64 lf, .bool false], .int .i64 u]) ?_; refine tkP 7 82 (.agg #[.slice N.a N.n N.c, .slice V.a V.n V.c, .slice M.a M.n M.c, .slice O.a O.n O.c, .slice I.a I.n I.c, .int .i64 0, .int .i64 0, .int .i64 tk, .int .i64 lf, .bool false]) ?_; refine tkP 8 83 (.int .i64 u) ?_; refine rd1 9 none fun K hK => ?_
      go_simp; refine bk hK (((KeepS.drew _ w2).below hb1).put N V M O I (0) (0) tk lf false) fun q => ?_; clear hK K hHeld; have hHeld := q; clear q
      refine tkP 10 9 (.int .i64 u) ?_; refine wpAnyH_done (by kernel_rfl) ?_ _
      refine NoPanic.normal ?_; clear z0 z1 z2 z3 z4 z5 z6 z7 z8 z9 zf; have hat := hat1.put N V M O I 0 0 tk lf false; obtain ⟨w3, hw3⟩ : ∃ x, put10 w1 w.heap.size N V M O I 0 0 tk lf false = x := ⟨_, rfl⟩
      rw [hw3] at hat; unfold put10 at hw3; rw [hw3]; have HAT3 := Lib.hid hat; clear s0 s1 s2 s3 s4 s5 s6 s7 s8 s9 e0 e1 e2 e3 e4 r0 r1 r2 r3 r4 r5 r6 r7 r8 r9 rf sf hat hw3; obtain ⟨s0, s1, s2, s3, s4, s5, s6, s7, s8, s9⟩ := cel10 HAT3.out.sb; obtain ⟨e0, e1, e2, e3, e4⟩ := cel5 HAT3.out.eb; obtain ⟨r0, r1, r2, r3, r4, r5, r6, r7, r8, r9⟩ := celz HAT3.out.rb; have rf := blk_free HAT3.out.rb; have sf := blk_free HAT3.out.sb; go_wp2_with fail; refine (HTW.out w3).mono ?_; rintro y w4 ⟨rfl, hb4⟩; rw [H2.out]; have hat := HAT3.out.below hb4; have HAT4 := Lib.hid hat; clear s0 s1 s2 s3 s4 s5 s6 s7 s8 s9 e0 e1 e2 e3 e4 r0 r1 r2 r3 r4 r5 r6 r7 r8 r9 rf sf hat hb4
      obtain ⟨s0, s1, s2, s3, s4, s5, s6, s7, s8, s9⟩ := cel10 HAT4.out.sb; obtain ⟨e0, e1, e2, e3, e4⟩ := cel5 HAT4.out.eb; obtain ⟨r0, r1, r2, r3, r4, r5, r6, r7, r8, r9⟩ := celz HAT4.out.rb; have rf := blk_free HAT4.out.rb; have sf := blk_free HAT4.out.sb; go_wp2_with fail; refine (HDE.out w4).mono ?_; rintro y w5 ⟨rfl, hb5⟩; unfold endL dsL; have hat := HAT4.out.below hb5; have HAT5 := Lib.hid hat; clear s0 s1 s2 s3 s4 s5 s6 s7 s8 s9 e0 e1 e2 e3 e4 r0 r1 r2 r3 r4 r5 r6 r7 r8 r9 rf sf hat hb5; obtain ⟨s0, s1, s2, s3, s4, s5, s6, s7, s8, s9⟩ := cel10 HAT5.out.sb; obtain ⟨e0, e1, e2, e3, e4⟩ := cel5 HAT5.out.eb
      obtain ⟨r0, r1, r2, r3, r4, r5, r6, r7, r8, r9⟩ := celz HAT5.out.rb; have rf := blk_free HAT5.out.rb; have sf := blk_free HAT5.out.sb; go_wp2; have hf1 : ((put10 w5 (w.heap.size + 1 + 1) N V M O I (2) (0) tk lf true)).heap[w.heap.size + 1 + 1]? = some (dsC (dsL N V M O I (2) (0) tk lf true)) := (HAT5.out.fin N V M O I (2) (0) tk lf true).1
      have hf2 := (HAT5.out.fin N V M O I (2) (0) tk lf true).2; obtain ⟨w9, hw9⟩ : ∃ x, (put10 w5 (w.heap.size + 1 + 1) N V M O I (2) (0) tk lf true) = x := ⟨_, rfl⟩
      rw [hw9] at hf1 hf2; unfold put10 at hw9; rw [hw9]; refine bodyPost_ret (results_dsTmp rfl _ _ (w.heap.size + 1 + 1) N V M O I (2) (0) tk lf true (.int .i64 0) (by rfl) (by rfl) hf1) rfl ?_
      rw [HG.out]; exact ⟨hf2, rfl⟩
end Go.Proofs.Ytjlnpppjkdcpkaa.My
