/- The evaluator's blocks, walked. Conditions: the tree was there in the world W, which is kept; the machine lies in memory. -/
import Derived.Test.YtjlnpppjkdcpkaaEREvM
import Derived.BigRegion
namespace Go.Proofs.Ytjlnpppjkdcpkaa.My
open Go.RowKit Go.Proofs.Ytjlnpppjkdcpkaa.NumA
set_option linter.unusedVariables false
set_option linter.unusedSimpArgs false
/-- the types of the boxes that stay -/
def bt (i : Fin 3) : TypeId := if i = 0 then 36 else if i = 1 then 87 else 55
structure Fx (W w w' : World) : Prop where
 below : Below W.heap.size w w'
 boxes : ∀ (k : Nat) (cs : Array Value × Fin 3), w.heap[k]? = some (.cells cs.1 (bt cs.2) (0, 0)) → w'.heap[k]? = some (.cells cs.1 (bt cs.2) (0, 0))
theorem Fx.refl (W w : World) : Fx W w w := ⟨Below.refl _ _, fun _ _ h => h⟩
theorem Fx.trans {W w w1 w2 : World} (h : Fx W w w1) (k : Fx W w1 w2) : Fx W w w2 := ⟨h.below.trans k.below, fun i cs hi => k.boxes i cs (h.boxes i cs hi)⟩
/-- what is bounded by the ticks -/
structure szE (S : Ev) : Prop where
 n : (S.names.length : Int) ≤ S.ticks + 3
 o : (S.outs.length : Int) ≤ S.ticks
 i : (S.intos.length : Int) ≤ S.ticks
 t : 0 ≤ S.ticks
theorem szE.tick {S : Ev} (h : szE S) : szE S.tick := ⟨by have := h.n; simp only [Ev.tick]; omega, by have := h.o; simp only [Ev.tick]; omega, by have := h.i; simp only [Ev.tick]; omega, by have := h.t; simp only [Ev.tick]; omega⟩
theorem doV_sz (S : Ev) (h : szE S) (s : Stmt) (a b : Int) : szE (doV S.tick s a b).1 := by
 obtain ⟨h1, h2, h3, h4⟩ := h; unfold doV; repeat' split
 all_goals
  refine ⟨?_, ?_, ?_, ?_⟩ <;> simp only [Ev.tick, List.length_append, List.length_set, List.length_cons, List.length_nil] <;> omega
theorem Does.sz {B : Int} {t : Task} {S S' : Ev} {o : Option (Int × Int)} (h : Does B t S S' o) : szE S → szE S' := by
 induction h with
 | nil => exact id
 | first _ ih => exact ih
 | next _ _ ih1 ih2 => exact fun h => ih2 (ih1 h)
 | @block l S S' _ ih =>
  intro h; obtain ⟨h1, h2, h3, h4⟩ := ih h; exact ⟨by simp only [Ev.back, List.length_take]; omega, h2, h3, h4⟩
 | blockLeft _ ih => exact ih
 | loops hk _ ih => exact ih
 | spent hk ht => exact id
 | fell hk ht he => exact fun h => h.tick
 | @does s S vs hk hk2 ht he => exact fun h => doV_sz S h s _ _
 | thn hk ht he hv _ ih => exact fun h => ih h.tick
 | els hk ht he hv _ ih => exact fun h => ih h.tick
 | loopSpent ht => exact id
 | loopFell ht he => exact fun h => h.tick
 | loopEnd ht he hv => exact fun h => h.tick
 | loopLeft ht he hv _ ih => exact fun h => ih h.tick
 | again ht he hv _ _ ih1 ih2 => exact fun h => ih2 (ih1 h.tick)
theorem doV_grow (S : Ev) (s : Stmt) (a b : Int) : S.names.length ≤ (doV S s a b).1.names.length := by
 unfold doV; repeat' split
 all_goals simp
theorem Does.grow {B : Int} {t : Task} {S S' : Ev} {o : Option (Int × Int)} (h : Does B t S S' o) : S.names.length ≤ S'.names.length := by
 induction h with
 | nil => exact Nat.le_refl _
 | first _ ih => exact ih
 | next _ _ ih1 ih2 => exact Nat.le_trans ih1 ih2
 | block _ ih => simp only [Ev.back, List.length_take]; omega
 | blockLeft _ ih => exact ih
 | loops hk _ ih => exact ih
 | spent hk ht => exact Nat.le_refl _
 | fell hk ht he => exact Nat.le_refl _
 | @does s S vs hk hk2 ht he => exact doV_grow S.tick s _ _
 | thn hk ht he hv _ ih => exact ih
 | els hk ht he hv _ ih => exact ih
 | loopSpent ht => exact Nat.le_refl _
 | loopFell ht he => exact Nat.le_refl _
 | loopEnd ht he hv => exact Nat.le_refl _
 | loopLeft ht he hv _ ih => exact ih
 | again ht he hv _ _ ih1 ih2 => exact Nat.le_trans ih1 ih2
def EvIn (w : World) (p base : Nat) (B : Int) (S : Ev) : Prop := ∃ N V M O I, EvAt w p base B S N V M O I
theorem EvIn.below {w w' : World} {p base : Nat} {B : Int} {S : Ev} (h : EvIn w p base B S) (hB : Below w.heap.size w w') : EvIn w' p base B S := by
 obtain ⟨N, V, M, O, I, h⟩ := h; exact ⟨N, V, M, O, I, h.below hB⟩
def leftE : Option (Int × Int) → Ending
 | none => .returned (.tuple #[])
 | some x => ovr x.1 x.2
/-- what a call of the machine does -/
def DoesK (W : World) (p base : Nat) (B : Int) (t : Task) (S : Ev) (w : World) (E : Ending) (w' : World) : Prop :=
 ∃ S' o, Does B t S S' o ∧ EvIn w' p base B S' ∧ Fx W w w' ∧ E = leftE o
def StmtE (W : World) (p base : Nat) (B : Int) (F : Nat) : Prop := ∀ (s : Stmt) (A0 : Option Addr) (c0 : Nat) (A1 : Option Addr) (c1 : Nat) (A2 : Option Addr) (c2 d : Nat), Expr.rds W s.args A0 0 → Stmt.rds W s.body A1 0 → Stmt.rds W s.els A2 0 →
  s.args.length ≤ c0 → s.body.length ≤ c1 → s.els.length ≤ c2 → s.name.size ≤ maxLen → s.nodes ≤ 1000000000 → s.rightB nameB d = true → ∀ (S : Ev) (w : World), szE S → S.ticks ≤ B → B - S.ticks < F → Below W.heap.size W w → EvIn w p base B S →
  Calls Try.prog 77 #[.pointer (some ⟨p, 0, none⟩), .agg #[.int .i64 s.kind, .string s.name, .int .i64 s.cell, .slice A0 s.args.length c0, .slice A1 s.body.length c1, .slice A2 s.els.length c2]] w (DoesK W p base B (.stmt s) S w)
theorem Row.cutTo {w : World} {e : TypeId} {size n m : Nat} {A : Option Addr} {c : Nat} {xs : List Value} (h : Row w e size (.slice A n c) n xs) (hm : m ≤ n) : Row w e size (.slice A m c) m (xs.take (m * size)) := by
 rcases h.2 with ⟨h2, rfl⟩ | ⟨g, cap, cur, h2, hg, h3, h4, h5, h6⟩
 ·have hm0 : m = 0 := by omega
  subst hm0; injection h2 with h2 _ h7; subst h2; subst h7
  exact ⟨by simp, .inl ⟨rfl, rfl⟩⟩
 ·injection h2 with h2 _ h7; subst h2; subst h7
  have hle : m * size ≤ n * size := Nat.mul_le_mul_right _ hm
  exact ⟨by rw [List.length_take, h.1]; omega, .inr ⟨g, c, cur, rfl, hg, by omega, h4, h5, by rw [← h6, List.take_take, Nat.min_eq_left hle]⟩⟩
theorem run_to (w : World) (t : TypeId) (ht : Try.prog.underlying t = some (.slice (Try.prog.elem t))) (hs : ∀ w, (sizeOf (Try.prog.elem t)).run Try.prog w = .ok 1 w) (A : Option Addr) (n c m : Nat) (hm : m ≤ c) :
  (Instr.sliceAt t (.slice A n c) none (some (.int .i64 (m : Int))) none).run Try.prog w = .ok (.slice A m c) w := by
 have h0 : ∀ a : Addr, a.add 0 = a := fun a => by simp [Addr.add]
 rw [run_sliceAt_slice w t _ _ _ _ ht, run_slice_h w t A n c ht .i64 m (by omega) (by omega), hs]
 simp only [Result.andThen, sliced, Int.toNat_natCast, Nat.zero_mul]
 have : A.map (·.add 0) = A := by cases A <;> simp [h0]
 rw [this]; simp
theorem elem_nums : Try.prog.underlying 46 = some (.slice (Try.prog.elem 46)) := by kernel_rfl
theorem size_nums (w : World) : (sizeOf (Try.prog.elem 46)).run Try.prog w = .ok 1 w := by kernel_rfl
theorem Fx.keep {W w w1 w2 : World} (h : Fx W w w1) {Os : Nat → Prop} (k : Keep Os w1 w2) (hW : W.heap.size ≤ w1.heap.size) (h1 : ∀ q, Os q → W.heap.size ≤ q) (h2 : ∀ (q : Nat) (cs : Array Value × Fin 3), Os q → w1.heap[q]? ≠ some (.cells cs.1 (bt cs.2) (0, 0))) : Fx W w w2 :=
 h.trans ⟨k.toBelow hW h1, fun q cs hq => k.blk hq fun ho => h2 q cs ho hq⟩
theorem Fx.belowR {W w w1 w2 : World} (h : Fx W w w1) (hW : W.heap.size ≤ w1.heap.size) (hb : Below w1.heap.size w1 w2) : Fx W w w2 :=
 h.trans ⟨hb.mono hW, fun q cs hq => below_blk hb hq (blk_lt hq)⟩
theorem EvAt.back {w w' : World} {p base : Nat} {B : Int} {S : Ev} {A1 A2 : Option Addr} {n c1 c2 : Nat} {M O I : Value} (h : EvAt w p base B S (.slice A1 S.names.length c1) (.slice A2 S.vals.length c2) M O I) (hn : n ≤ S.names.length) (k : Keep (fun q => q = p) w w')
  (hb : w'.heap[p]? = some (.cells (mCells (.slice A1 n c1) (.slice A2 n c2) M O I S.ticks B) 91 (0, 0))) : EvAt w' p base B (S.back n) (.slice A1 n c1) (.slice A2 n c2) M O I :=
 have far : ∀ {v : Value} {z n : Nat} {ty : TypeId} {xs : List Value}, Row w ty z v n xs → ty ≠ 91 → Row w' ty z v n xs := fun hr hne => hr.keep fun g hg => k.block g (hr.lt hg) (fun e => hr.ne h.blk hne (by rw [hg, e]))
 have e1 : (S.back n).names.length = n := by simp only [Ev.back, List.length_take]; omega
 have e2 : (S.back n).vals.length = n := by have := h.eq; simp only [Ev.back, List.length_take]; omega
 ⟨hb, by rw [e1]; have q := (far h.names (by decide)).cutTo hn; simpa [strs, Ev.back, List.map_take] using q, by rw [e2]; have q := (far h.vals (by decide)).cutTo (m := n) (by have := h.eq; omega); simpa [nums, Ev.back, List.map_take] using q,
  far h.mem (by decide), far h.outs (by decide), far h.intos (by decide), fun g hg => h.fn g ((own_any _ _ _ _ _).trans hg), fun g hg => h.fv g ((own_any _ _ _ _ _).trans hg), h.fm, h.fo, h.fi, fun g hg => h.vm g ((own_any _ _ _ _ _).trans hg), fun g hg => h.vo g ((own_any _ _ _ _ _).trans hg), h.mo, h.hb, by rw [e1, e2]⟩
theorem EvAt.noBox {w : World} {p base : Nat} {B : Int} {S : Ev} {N V M O I : Value} (h : EvAt w p base B S N V M O I) (q : Nat) (cs : Array Value × Fin 3) (e : q = p) : w.heap[q]? ≠ some (.cells cs.1 (bt cs.2) (0, 0)) := fun hq => by
 subst e; rw [h.blk] at hq; injection hq with hq
 injection hq with _ hq
 exact absurd hq ((by decide : ∀ i : Fin 3, 91 ≠ bt i) cs.2)
set_option maxRecDepth 100000 in
set_option maxHeartbeats 2000000 in
theorem eblock_of (W : World) (p base : Nat) (B : Int) (hbase : W.heap.size ≤ base) (hB1 : B ≤ 1000000) (F : Nat) (ih : StmtE W p base B F) (l : List Stmt) (A : Option Addr) (c d : Nat) (hrd : Stmt.rds W l A 0) (hnl : Stmt.nodesL l ≤ 1000000000) (hr : Stmt.rightsB nameB d l = true) (S : Ev) (w : World) (hsz : szE S) (htB : S.ticks ≤ B) (hF : B - S.ticks < F) (hB : Below W.heap.size W w) (hE : EvIn w p base B S) :
  Calls Try.prog 58 #[.pointer (some ⟨p, 0, none⟩), .slice A l.length c] w (DoesK W p base B (.block l) S w) := by
 have hal := Stmt.nodesL_len l; obtain ⟨N0, V0, M0, O0, I0, hE0⟩ := hE; obtain ⟨AN, cN, rfl, _⟩ := hE0.names.slice; have f0 : w.cell? ⟨p, 0, none⟩ = some (.slice AN S.names.length cN) := blk_cell hE0.blk 0
 have HE0 := Lib.hid (show EvIn w p base B S from ⟨_, _, _, _, _, hE0⟩)
 have HIH := Lib.hid ih; have HBW := Lib.hid hB; have HRD := Lib.hid hrd; have HRR := Lib.hid hr; have HSZ := Lib.hid hsz; have HTB := Lib.hid (And.intro htB hF); clear hE0 ih hB hrd hr hsz htB hF; go_enter Try.func58, Try.ntmps58
 go_wp2; clear f0; go_loopw [15] (fun at_ wr => ∃ (k : Nat) (S1 : Ev), at_ = .int .i64 (k : Int) ∧ k ≤ l.length ∧ Hid (Does B (.seq (l.take k)) S S1 none) ∧ Hid (EvIn wr p base B S1) ∧ Hid (Fx W w wr)) (fun a _ => l.length - (intOf a).toNat)
 case atStart => exact ⟨0, S, rfl, Nat.zero_le _, Lib.hid .nil, HE0, Lib.hid (Fx.refl _ _)⟩
 case round =>
  clear HE0; obtain ⟨k, S1, rfl, hk, HDk, HEk, HFk⟩ := hrel; have HBk := Lib.hid (HBW.out.trans HFk.out.below); by_cases hlt : k < l.length
  ·have hlt' : ((k : Int) < (l.length : Int)) := by omega
   have HN := Lib.hid (Stmt.nodesL_take l k hlt); obtain ⟨b, o, A0, c0, A1, c1, A2, c2, rfl, hbW, g0, g1, g2, g3, g4, g5, e0, e1, e2, hs', r0, r1, r2⟩ := Stmt.at HRD.out HBk.out hlt; have hb1 : Below wr.heap.size wr (wr.alloc (.cells #[.int .i64 l[k].kind, .string l[k].name, .int .i64 l[k].cell, .slice A0 l[k].args.length c0, .slice A1 l[k].body.length c1, .slice A2 l[k].els.length c2] 36)) := (Below.refl _ _).al
   have HI := Lib.hid (HIH.out l[k] A0 c0 A1 c1 A2 c2 d r0 r1 r2 e0 e1 e2 hs' (by have := HN.out; omega) (Stmt.rightsB_all HRR.out _ (List.getElem_mem hlt)) S1 _ (HDk.out.sz HSZ.out) (HDk.out.ticks.2 HTB.out.1) (by have := HDk.out.ticks.1; have := HTB.out.2; omega) (HBk.out.trans (hb1.mono HBk.out.size)) (HEk.out.below hb1))
   have HF1 := Lib.hid (HFk.out.belowR HBk.out.size hb1); clear hb1 r0 r1 r2 e0 e1 e2 hs'; go_wp2_with fail; refine HI.out.mono ?_; rintro y w2 ⟨S2, o2, hd2, he2, hf2, rfl⟩; have HD2 := Lib.hid hd2; have HE2 := Lib.hid he2; have HF2 := Lib.hid (HF1.out.trans hf2); clear hd2 he2 hf2 g0 g1 g2 g3 g4 g5
   cases o2 with
   | none =>
    simp only [leftE]
    go_wp2; go_roundw
    case rel => exact ⟨k + 1, S2, by go_num, by omega, Lib.hid (by rw [← List.take_append_getElem hlt]; exact HDk.out.app (.next HD2.out .nil)), HE2, HF2⟩
    case measure => simp [intOf]; omega
   | some x =>
    refine ⟨rfl, S2, some x, .blockLeft ?_, HE2.out, HF2.out, rfl⟩
    have h := HDk.out.app (m := l.drop k) (by rw [List.drop_eq_getElem_cons hlt]; exact .first HD2.out)
    rwa [List.take_append_drop] at h
  ·have hk' : k = l.length := by omega
   subst hk'; have HD := Lib.hid (show Does B (.seq l) S S1 none by have h := HDk.out; rwa [List.take_length] at h)
   obtain ⟨N1, V1, M1, O1, I1, hE1⟩ := HEk.out; obtain ⟨A1, c1, rfl, hc1⟩ := hE1.names.slice; obtain ⟨A2, c2, rfl, hc2⟩ := hE1.vals.slice; have HE1 := Lib.hid hE1; have hgr := HD.out.grow; have heq := hE1.eq; have f0 : wr.cell? ⟨p, 0, none⟩ = some (.slice A1 S1.names.length c1) := blk_cell hE1.blk 0
   have f1 : wr.cell? ⟨p, 1, none⟩ = some (.slice A2 S1.vals.length c2) := blk_cell hE1.blk 1
   have ff := blk_free hE1.blk; have hs1 : ∀ W, (Instr.sliceAt 78 (.slice A1 S1.names.length c1) none (some (.int .i64 (S.names.length : Int))) none).run Try.prog W = .ok (.slice A1 S.names.length c1) W := fun W => run_to W _ elem_strings size_strings A1 _ c1 _ (by omega)
   have hs2 : ∀ W, (Instr.sliceAt 46 (.slice A2 S1.vals.length c2) none (some (.int .i64 (S.names.length : Int))) none).run Try.prog W = .ok (.slice A2 S.names.length c2) W := fun W => run_to W _ elem_nums size_nums A2 _ c2 _ (by omega)
   have HG := Lib.hid hgr; clear hE1 hgr heq hc1 hc2; go_wp2_with fail; go_region
   go_end0
   have hk9 : Keep (fun q => q = p) wr ((wr.setCell ⟨p, 0, none⟩ (.slice A1 S.names.length c1)).setCell ⟨p, 1, none⟩ (.slice A2 S.names.length c2)).drew := Keep.drew (Keep.set (O := fun q => q = p) (Keep.set (O := fun q => q = p) (Keep.refl _ wr) (p := ⟨p, 0, none⟩) (.inl rfl) _) (p := ⟨p, 1, none⟩) (.inl rfl) _)
   have hb9 : (((wr.setCell ⟨p, 0, none⟩ (.slice A1 S.names.length c1)).setCell ⟨p, 1, none⟩ (.slice A2 S.names.length c2)).drew).heap[p]? = some (.cells (mCells (.slice A1 S.names.length c1) (.slice A2 S.names.length c2) M1 O1 I1 S1.ticks B) 91 (0, 0)) := blk_set (blk_set HE1.out.blk 0 _) 1 _
   have he9 := HE1.out.back HG.out hk9 hb9; exact ⟨_, none, .block HD.out, ⟨_, _, _, _, _, he9⟩, HFk.out.keep hk9 HBk.out.size (fun q h => by subst h; exact Nat.le_trans hbase HE1.out.hb) (fun q cs h hq => HE1.out.noBox q cs h hq), rfl⟩
theorem exprsV_one {S : Ev} {l : List Expr} (hl : l.length = 1) : exprsV S l = (match exprV S (l.getD 0 default) with
  | .left h v => .left h v
  | .ok v => .ok [v]) := by
 match l, hl with
 | [a], _ => simp only [exprsV, List.getD, List.getElem?_cons_zero, Option.getD_some]; cases exprV S a <;> rfl
set_option maxRecDepth 100000 in
set_option maxHeartbeats 2000000 in
theorem eloop_of (W : World) (p base : Nat) (B : Int) (hbase : W.heap.size ≤ base) (hB1 : B ≤ 1000000) (F : Nat) (ih : StmtE W p base B F) (s : Stmt) (A0 : Option Addr) (c0 : Nat) (A1 : Option Addr) (c1 : Nat) (A2 : Option Addr) (c2 d : Nat) (hrd : Expr.rds W s.args A0 0) (hrd1 : Stmt.rds W s.body A1 0)
  (hnl : s.nodes ≤ 1000000000) (hk7 : s.kind = 7) (hr : s.rightB nameB d = true) (S : Ev) (w : World) (hsz : szE S) (htB : S.ticks ≤ B) (hF : B - S.ticks < F + 1) (hB : Below W.heap.size W w) (hE : EvIn w p base B S) :
  Calls Try.prog 93 #[.pointer (some ⟨p, 0, none⟩), .agg #[.int .i64 s.kind, .string s.name, .int .i64 s.cell, .slice A0 s.args.length c0, .slice A1 s.body.length c1, .slice A2 s.els.length c2]] w (DoesK W p base B (.loop s) S w) := by
 have hne := s.nodes_eq; rw [s.rightB_eq nameB d] at hr; simp only [Bool.and_eq_true, headB, decide_eq_true_eq] at hr
 obtain ⟨⟨⟨⟨⟨⟨⟨⟨_, hlen⟩, _⟩, _⟩, _⟩, _⟩, hra⟩, hrb⟩, _⟩ := hr; have hl : s.args.length = 1 := by have h9 : wantA s.kind = 1 := (by simp [wantA, hk7]); omega
 rw [if_pos (.inr hk7), Bool.and_eq_true, decide_eq_true_eq] at hrb; have hpos : 0 < s.args.length := by omega
 have HA := Lib.hid (fun (w1 : World) (hB1 : Below W.heap.size W w1) => Expr.at hrd hB1 hpos)
 have HRA := Lib.hid (Expr.rightsB_all hra _ (List.getElem_mem hpos)); have HV := Lib.hid (fun S' => exprsV_one (S := S') hl)
 have HG0 := Lib.hid (show s.args.getD 0 default = s.args[0] by rw [List.getD, List.getElem?_eq_getElem hpos]; rfl)
 have HBL := Lib.hid (fun S1 w1 h1 h2 h3 h4 h5 => eblock_of W p base B hbase hB1 F ih s.body A1 c1 (d + 1) hrd1 (by omega) hrb.2 S1 w1 h1 h2 h3 h4 h5)
 have HSZ := Lib.hid hsz; have HBW := Lib.hid hB; have hlt1 : (0 : Int) < (s.args.length : Int) := by omega
 have hb0 : Below w.heap.size w (w.alloc (.cells #[.int .i64 s.kind, .string s.name, .int .i64 s.cell, .slice A0 s.args.length c0, .slice A1 s.body.length c1, .slice A2 s.els.length c2] 36)) := (Below.refl _ _).al
 have hx := blk_new w (.cells #[.int .i64 s.kind, .string s.name, .int .i64 s.cell, .slice A0 s.args.length c0, .slice A1 s.body.length c1, .slice A2 s.els.length c2] 36); have hf0 : Fx W w (w.alloc (.cells #[.int .i64 s.kind, .string s.name, .int .i64 s.cell, .slice A0 s.args.length c0, .slice A1 s.body.length c1, .slice A2 s.els.length c2] 36)) := (Fx.refl _ _).belowR hB.size hb0
 have he0 := hE.below hb0; obtain ⟨w0, hw0⟩ : ∃ w0, w.alloc (.cells #[.int .i64 s.kind, .string s.name, .int .i64 s.cell, .slice A0 s.args.length c0, .slice A1 s.body.length c1, .slice A2 s.els.length c2] 36) = w0 := ⟨_, rfl⟩
 rw [hw0] at hx hf0 he0; have HX := Lib.hid hx; have HF0 := Lib.hid hf0; have HE0 := Lib.hid he0; have HW := Lib.hid hw0; have HFF := Lib.hid hF; clear ih hrd hrd1 hra hrb hsz hB hE hb0 hx hf0 he0 hw0 hne hnl hl hlen hk7 hF; go_enter Try.func93, Try.ntmps93
 go_wp2; rw [HW.out]; go_loopg [] ((B - S.ticks).toNat + 1) (fun gk wr => ∃ (S1 : Ev), Hid (∀ S' o, Does B (.loop s) S1 S' o → Does B (.loop s) S S' o) ∧ Hid (EvIn wr p base B S1) ∧ Hid (Fx W w wr) ∧ Hid (wr.heap[w.heap.size]? = some (.cells #[.int .i64 s.kind, .string s.name, .int .i64 s.cell, .slice A0 s.args.length c0, .slice A1 s.body.length c1, .slice A2 s.els.length c2] 36 (0, 0))) ∧ Hid (B - S1.ticks + 1 ≤ (gk : Int)) ∧ Hid (S1.ticks ≤ B) ∧ Hid (szE S1) ∧ Hid (S.ticks ≤ S1.ticks))
 case atStart => exact ⟨S, Lib.hid (fun _ _ h => h), HE0, HF0, HX, Lib.hid (by omega), Lib.hid htB, HSZ, Lib.hid (Int.le_refl _)⟩
 case round =>
  clear HX HF0 HE0 HSZ; obtain ⟨S1, HD, HE, HFr, HXr, HGk, HTB, HSZ, HST⟩ := hrel; have HBr := Lib.hid (HBW.out.trans HFr.out.below); obtain ⟨N, V, M, O, I, hEv⟩ := HE.out; have HEv := Lib.hid hEv; have HN := Lib.hid (show S1.names.length ≤ 1000000000 ∧ (S1.ticks ≤ 1000000) by have := HSZ.out.n; have := HTB.out; omega)
  clear hEv; by_cases ht : S1.ticks = B
  ·go_wp2_with fail
   refine (spent_calls _ p base B S1 N V M O I HEv.out ht).mono ?_; rintro y w1 ⟨rfl, hk1, he1⟩; exact ⟨rfl, S1, some (0, 0), HD.out _ _ (.loopSpent ht), ⟨_, _, _, _, _, he1⟩, HFr.out.keep hk1 HBr.out.size (fun q h => by subst h; exact Nat.le_trans hbase HEv.out.hb) (fun q cs h hq => HEv.out.noBox q cs h hq), rfl⟩
  have HTN := Lib.hid ht; clear ht; go_wp2_with fail; refine (tick_calls _ p base B S1 N V M O I HEv.out HSZ.out.t HN.out.2 HTN.out).mono ?_; rintro y w1 ⟨rfl, hk1, he1⟩; have HE1 := Lib.hid he1; have HF1 := Lib.hid (HFr.out.keep hk1 HBr.out.size (fun q h => by subst h; exact Nat.le_trans hbase HEv.out.hb) (fun q cs h hq => HEv.out.noBox q cs h hq))
  have HX1 := Lib.hid (hk1.blk HXr.out (fun e => HEv.out.noBox _ (_, 0) e HXr.out))
  have HB1 := Lib.hid (HBW.out.trans HF1.out.below); clear hk1 he1; obtain ⟨b, o, A', c', hA', _, g0, g1, g2, g3, g4, hc', hs', hrd'⟩ := HA.out w1 HB1.out; subst hA'; simp only [Nat.zero_mul, Nat.add_zero] at g0 g1 g2 g3 g4
  have f3 := blk_cell HX1.out 3; have HI := Lib.hid (eexpr_calls W p base B S1.tick N V M O I (by have := HSZ.out.n; have := HTB.out; simp only [Ev.tick]; omega) _ s.args[0] A' c' 1 (Nat.le_refl _) hrd' hc' hs' HRA.out w1 HB1.out HE1.out)
  clear hc' hs' hrd'; go_wp2_with fail; refine HI.out.mono ?_; rintro y w2 ⟨rfl, hb2⟩; have HE2 := Lib.hid (HE1.out.below hb2); have HF2 := Lib.hid (HF1.out.belowR HB1.out.size hb2); have HX2 := Lib.hid (below_blk hb2 HX1.out (blk_lt HX1.out)); have HB2 := Lib.hid (HB1.out.trans (hb2.mono HB1.out.size)); clear hb2 g0 g1 g2 g3 g4 f3; have HT1 := Lib.hid (show S1.tick.ticks ≤ B ∧ B - S1.tick.ticks < F by have := HTB.out; have := HTN.out; have := HFF.out; have := HST.out; simp only [Ev.tick]; omega)
  cases hv : exprV S1.tick s.args[0] with
  | left h v =>
   exact ⟨rfl, S1.tick, some (h, v), HD.out _ _ (.loopFell HTN.out (by rw [HV.out, HG0.out, hv])), ⟨_, _, _, _, _, HE2.out⟩, HF2.out, rfl⟩
  | ok v =>
   have HVV := Lib.hid (show exprsV S1.tick s.args = .ok [v] by rw [HV.out, HG0.out, hv])
   clear hv; simp only [gotE]
   by_cases hz : v = 0
   ·have hz' : (v == 0) = true := by simp [hz]
    have HZ := Lib.hid hz; clear hz; go_wp2; first | go_end0 | refine bodyPost_ret (results_none rfl _ _ _) rfl ?_
    exact ⟨S1.tick, none, HD.out _ _ (.loopEnd HTN.out HVV.out HZ.out), ⟨_, _, _, _, _, HE2.out⟩, HF2.out, rfl⟩
   ·have hz' : (v == 0) = false := by simp [hz]
    have HZ := Lib.hid (show [v].getD 0 0 ≠ 0 from hz)
    clear hz; have f4 := blk_cell HX2.out 4; go_wp2_with fail; refine (HBL.out S1.tick w2 HSZ.out.tick HT1.out.1 HT1.out.2 HB2.out ⟨_, _, _, _, _, HE2.out⟩).mono ?_; rintro y w3 ⟨S3, o3, hd3, he3, hf3, rfl⟩; have HD3 := Lib.hid hd3; have HE3 := Lib.hid he3; have HX3 := Lib.hid (hf3.boxes _ (_, 0) HX2.out); have HF3 := Lib.hid (HF2.out.trans hf3); clear hd3 he3 hf3 f4
    cases o3 with
    | none =>
     simp only [leftE]
     have hm : ∃ m, gk = m + 1 := ⟨gk - 1, by have := HGk.out; have := HTB.out; omega⟩
     obtain ⟨m, rfl⟩ := hm; go_wp2; go_roundg m
     case measure => omega
     case rel => exact ⟨S3, Lib.hid (fun S' o h => HD.out _ _ (.again HTN.out HVV.out HZ.out HD3.out h)), HE3, HF3, HX3, Lib.hid (by have := HGk.out; have := HD3.out.ticks.1; simp only [Ev.tick] at this; omega), Lib.hid (HD3.out.ticks.2 HT1.out.1), Lib.hid (HD3.out.sz HSZ.out.tick), Lib.hid (by have := HST.out; have := HD3.out.ticks.1; simp only [Ev.tick] at this; omega)⟩
    | some x =>
     exact ⟨rfl, S3, some x, HD.out _ _ (.loopLeft HTN.out HVV.out HZ.out HD3.out), HE3.out, HF3.out, rfl⟩
end Go.Proofs.Ytjlnpppjkdcpkaa.My
