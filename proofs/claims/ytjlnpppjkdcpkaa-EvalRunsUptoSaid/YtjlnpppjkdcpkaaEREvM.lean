/- The evaluator's machine in memory; its names, its ticks, its places. Conditions: the machine lies in memory. -/
import Derived.Test.YtjlnpppjkdcpkaaERNameS
import Derived.Test.YtjlnpppjkdcpkaaERTrN
import Derived.Test.YtjlnpppjkdcpkaaERNameW2
import Derived.WalkLawsBesides
namespace Go.Proofs.Ytjlnpppjkdcpkaa.My
open Go.RowKit Go.Proofs.Ytjlnpppjkdcpkaa.NumA
set_option linter.unusedVariables false
set_option linter.unusedSimpArgs false
def nums (l : List Int) : List Value := l.map (Value.int .i64)
def strs (l : List ByteArray) : List Value := l.map Value.string
def intoCells : List (Int × Int) → List Value
 | [] => []
 | x :: l => .int .i64 x.1 :: .int .i64 x.2 :: intoCells l
theorem nums_get {l : List Int} {j : Nat} (hj : j < l.length) : (nums l)[j]? = some (.int .i64 (l.getD j 0)) := by
 simp [nums, List.getD, hj]
theorem intoCells_snoc : ∀ (l : List (Int × Int)) (x : Int × Int), intoCells (l ++ [x]) = intoCells l ++ [.int .i64 x.1, .int .i64 x.2]
 | [], _ => rfl
 | y :: l, x => by simp [intoCells, intoCells_snoc l x]
theorem grown_blk {w w' : World} {row : Option Nat} {g : Nat} {o : Obj} (h : w.grownBy w' row) (hg : w.heap[g]? = some o) (hn : row ≠ some g) : w'.heap[g]? = some o := (h.block g (blk_lt hg) (fun e => hn e.symm)).trans hg
theorem info_into : (Try.prog.info? 98).map (fun i => (i.zero, i.size, i.bytes)) = some (some (.agg #[.int .i64 0, .int .i64 0]), 2, 16) := by kernel_rfl
theorem rows_apart {w : World} {e e' : TypeId} {s s' n n' : Nat} {v v' : Value} {xs xs' : List Value} (h : Row w e s v n xs) (h' : Row w e' s' v' n' xs') (hne : e ≠ e') : ∀ q, v.ownBlock = some q → v'.ownBlock ≠ some q := by
 intro q hq hq'; rcases h'.2 with ⟨h2, _⟩ | ⟨g, cap, cur, h2, hg, _⟩
 ·subst h2; simp [Value.ownBlock] at hq'
 ·subst h2; simp [Value.ownBlock] at hq'; subst hq'
  exact h.ne hg hne hq
theorem Row.far {w w' : World} {e : TypeId} {s n : Nat} {v : Value} {xs : List Value} (h : Row w e s v n xs) {b i : Nat} {u : Value} (hb : ∀ q, v.ownBlock = some q → w'.heap[q]? = w.heap[q]?) (hn : v.ownBlock ≠ some b) : Row (w'.setCell ⟨b, i, none⟩ u) e s v n xs :=
 h.keep fun q hq => (Below.heap_setCell w' ⟨b, i, none⟩ u q (fun e1 => hn (by rw [hq, e1]))).trans (hb q hq)
theorem Row.put {w : World} {t : TypeId} {g c n : Nat} {xs : List Value} (h : Row w t 1 (.slice (some ⟨g, 0, none⟩) n c) n xs) (j : Nat) (u : Value) : Row (w.setCell ⟨g, j, none⟩ u) t 1 (.slice (some ⟨g, 0, none⟩) n c) n (xs.set j u) := by
 refine ⟨by simpa using h.1, ?_⟩
 rcases h.2 with ⟨h2, _⟩ | ⟨g', cap, cur, h2, hg, h3, h4, h5, h6⟩
 ·cases h2
 ·injection h2 with h2 _ h7
  injection h2 with h2; injection h2 with h2 _ _
  subst h2; subst h7
  refine .inr ⟨g, c, _, rfl, blk_set hg j u, h3, h4, by simpa using h5, ?_⟩
  rw [Array.toList_setIfInBounds, List.take_set, h6]
theorem grown_undrew {w w' : World} {row : Option Nat} (h : w.drew.grownBy w' row) : w.grownBy w' row := ⟨h.os, h.tape, h.output, h.size, h.block⟩
theorem info_i64 : (Try.prog.info? 2).map (fun i => (i.zero, i.size, i.bytes)) = some (some (.int .i64 0), 1, 8) := by kernel_rfl
theorem Row.bound {w : World} {t : TypeId} {z n : Nat} {v : Value} {xs : List Value} (h : Row w t z v n xs) : n ≤ maxLen := by
 rcases h.2 with ⟨_, rfl⟩ | ⟨_, cap, _, _, _, h1, h2, _⟩
 ·exact Nat.zero_le _
 ·omega
theorem Row.below {w w' : World} {t : TypeId} {z n : Nat} {v : Value} {xs : List Value} (h : Row w t z v n xs) (hB : Below w.heap.size w w') : Row w' t z v n xs := h.keep fun g hg => hB.block g (h.lt hg)
theorem Row.cellA {w : World} {e : TypeId} {size n c : Nat} {A : Option Addr} {xs : List Value} (h : Row w e size (.slice A n c) n xs) {j : Nat} {u : Value} (hj : xs[j]? = some u) : ∃ g, A = some ⟨g, 0, none⟩ ∧ w.cell? ⟨g, j, none⟩ = some u := by
 obtain ⟨g, d, h1, h2, _⟩ := h.cell hj; injection h1 with h1 _ _
 exact ⟨g, h1, h2⟩
def mCells (N V M O I : Value) (ticks B : Int) : Array Value := #[N, V, M, O, I, .int .i64 0, .int .i64 0, .int .i64 ticks, .int .i64 B]
/-- a machine at p: its rows lie in blocks from base on, each of numbers apart -/
structure EvAt (w : World) (p base : Nat) (B : Int) (S : Ev) (N V M O I : Value) : Prop where
 blk : w.heap[p]? = some (.cells (mCells N V M O I S.ticks B) 91 (0, 0))
 names : Row w 9 1 N S.names.length (strs S.names)
 vals : Row w 2 1 V S.vals.length (nums S.vals)
 mem : Row w 2 1 M S.mem.length (nums S.mem)
 outs : Row w 2 1 O S.outs.length (nums S.outs)
 intos : Row w 98 2 I S.intos.length (intoCells S.intos)
 fn : ∀ g, N.ownBlock = some g → base ≤ g
 fv : ∀ g, V.ownBlock = some g → base ≤ g
 fm : ∀ g, M.ownBlock = some g → base ≤ g
 fo : ∀ g, O.ownBlock = some g → base ≤ g
 fi : ∀ g, I.ownBlock = some g → base ≤ g
 vm : ∀ g, V.ownBlock = some g → M.ownBlock ≠ some g
 vo : ∀ g, V.ownBlock = some g → O.ownBlock ≠ some g
 mo : ∀ g, M.ownBlock = some g → O.ownBlock ≠ some g
 hb : base ≤ p
 eq : S.names.length = S.vals.length
theorem EvAt.below {w w' : World} {p base : Nat} {B : Int} {S : Ev} {N V M O I : Value} (h : EvAt w p base B S N V M O I) (hB : Below w.heap.size w w') : EvAt w' p base B S N V M O I :=
 ⟨below_blk hB h.blk (blk_lt h.blk), h.names.below hB, h.vals.below hB, h.mem.below hB, h.outs.below hB, h.intos.below hB, h.fn, h.fv, h.fm, h.fo, h.fi, h.vm, h.vo, h.mo, h.hb, h.eq⟩
/-- how a run is left -/
def ovr (h v : Int) : Ending := .panicked [{ v := .iface 121 (.agg #[.int .i64 h, .int .i64 v]), recovered := false }]
def gotE : Got Int → Ending
 | .ok v => .returned (.int .i64 v)
 | .left h v => ovr h v
def findE (l : List ByteArray) (x : ByteArray) : Ending := match lastIdx l x with
 | some i => .returned (.int .i64 (i : Int))
 | none => ovr 0 0
theorem strs_get {l : List ByteArray} {j : Nat} (hj : j < l.length) : (strs l)[j]? = some (.string l[j]) := by simp [strs, hj]
set_option maxRecDepth 100000 in
theorem find_calls (w : World) (p base : Nat) (B : Int) (S : Ev) (N V M O I : Value) (h : EvAt w p base B S N V M O I) (x : ByteArray) (hn : S.names.length ≤ 2000000) :
  Calls Try.prog 96 #[.pointer (some ⟨p, 0, none⟩), .string x] w fun e w' => e = findE S.names x ∧ w' = w := by
 obtain ⟨A, c, rfl, hc⟩ := h.names.slice; have f0 : w.cell? ⟨p, 0, none⟩ = some (.slice A S.names.length c) := blk_cell h.blk 0
 have HR := Lib.hid h.names; clear h; go_enter Try.func96, Try.ntmps96
 go_wp2; go_loop [5] (fun i => ∃ k : Nat, k ≤ S.names.length ∧ i = .int .i64 ((k : Int) - 1) ∧ Hid (∀ j (hj : j < S.names.length), k ≤ j → S.names[j] ≠ x)) (fun i => (intOf i + 1).toNat)
 case atStart => exact ⟨S.names.length, Nat.le_refl _, rfl, Lib.hid (fun j hj hk => by omega)⟩
 case round =>
  obtain ⟨k, hk, rfl, HK⟩ := hrel
  cases k with
  | zero =>
   have HF := Lib.hid (show findE S.names x = ovr 0 0 by rw [findE, lastIdx_none (fun j hj => HK.out j hj (Nat.zero_le _))])
   go_wp2; exact ⟨rfl, HF.out.symm, rfl⟩
  | succ j =>
   have hj : j < S.names.length := by omega
   have hjj : ((j + 1 : Nat) : Int) - 1 = (j : Int) := by omega
   rw [hjj]; obtain ⟨g, e1, x1⟩ := HR.out.cellA (strs_get hj); subst e1; have hj0 : (0 : Int) ≤ (j : Int) := by omega
   have hj1 : (j : Int) < (S.names.length : Int) := by omega
   by_cases he : S.names[j] = x
   ·have b1 := (sbeq S.names[j] x).2 he
    have HF := Lib.hid (show findE S.names x = .returned (.int .i64 (j : Int)) by rw [findE, lastIdx_some hj he (fun i hi hji => HK.out i hi hji)])
    clear he; go_wp2; go_ret; exact ⟨HF.out.symm, rfl⟩
   ·have b1 : (S.names[j].toList == x.toList) = false := by rw [Bool.eq_false_iff]; intro hh; exact he ((sbeq _ _).1 hh)
    have HS := Lib.hid (show ∀ i (hi : i < S.names.length), j ≤ i → S.names[i] ≠ x from fun i hi hji => by
     by_cases hij : i = j
     ·subst hij; exact he
     ·exact HK.out i hi (by omega))
    clear he; go_wp2; go_round
    case rel => exact ⟨j, by omega, by go_num, HS⟩
    case measure => simp [intOf]
theorem EvAt.other {w w' : World} {p base : Nat} {B : Int} {S : Ev} {N V M O I : Value} (h : EvAt w p base B S N V M O I) (k : Keep (fun q => q = p) w w') (t : Int) (hb : w'.heap[p]? = some (.cells (mCells N V M O I t B) 91 (0, 0))) : EvAt w' p base B { S with ticks := t } N V M O I :=
 have far : ∀ {v : Value} {z n : Nat} {ty : TypeId} {xs : List Value}, Row w ty z v n xs → ty ≠ 91 → Row w' ty z v n xs := fun hr hne => hr.keep fun g hg => k.block g (hr.lt hg) (fun e => hr.ne h.blk hne (by rw [hg, e]))
 ⟨hb, far h.names (by decide), far h.vals (by decide), far h.mem (by decide), far h.outs (by decide), far h.intos (by decide), h.fn, h.fv, h.fm, h.fo, h.fi, h.vm, h.vo, h.mo, h.hb, h.eq⟩
set_option maxRecDepth 100000 in
theorem tick_calls (w : World) (p base : Nat) (B : Int) (S : Ev) (N V M O I : Value) (h : EvAt w p base B S N V M O I) (h0 : 0 ≤ S.ticks) (h1 : S.ticks ≤ 1000000) (hB : S.ticks ≠ B) :
  Calls Try.prog 94 #[.pointer (some ⟨p, 0, none⟩)] w fun e w' => e = .returned (.tuple #[]) ∧ Keep (fun k => k = p) w w' ∧ EvAt w' p base B S.tick N V M O I := by
 have HE := Lib.hid h; have f7 : w.cell? ⟨p, 7, none⟩ = some (.int .i64 S.ticks) := blk_cell h.blk 7
 have f8 : w.cell? ⟨p, 8, none⟩ = some (.int .i64 B) := blk_cell h.blk 8
 have hB' : (S.ticks == B) = false := by simp [hB]
 clear h hB; go_enter Try.func94, Try.ntmps94
 go_wp2; go_quiet ((fail))
 clear f7 f8; have f7 : (w.drewN nq).cell? ⟨p, 7, none⟩ = some (.int .i64 S.ticks) := blk_cell HE.out.blk 7
 have ff : ∀ i, (w.drewN nq).frozen? ⟨p, i, none⟩ = false := blk_free (show (w.drewN nq).heap[p]? = _ from HE.out.blk)
 go_wp2; first | go_end0 | refine bodyPost_ret (results_none rfl _ _ _) rfl ?_
 have hk : Keep (fun k => k = p) w ((w.drewN nq).setCell ⟨p, 7, none⟩ (.int .i64 (S.ticks + 1))) := Keep.set (O := fun k => k = p) (Keep.drewN (Keep.refl _ w) nq) (p := ⟨p, 7, none⟩) (.inl rfl) _
 exact ⟨rfl, hk, HE.out.other hk (S.ticks + 1) (blk_set (show (w.drewN nq).heap[p]? = _ from HE.out.blk) 7 _)⟩
set_option maxRecDepth 100000 in
theorem spent_calls (w : World) (p base : Nat) (B : Int) (S : Ev) (N V M O I : Value) (h : EvAt w p base B S N V M O I) (hB : S.ticks = B) :
  Calls Try.prog 94 #[.pointer (some ⟨p, 0, none⟩)] w fun e w' => e = ovr 0 0 ∧ Keep (fun k => k = p) w w' ∧ EvAt w' p base B S N V M O I := by
 have HE := Lib.hid h; have f7 : w.cell? ⟨p, 7, none⟩ = some (.int .i64 S.ticks) := blk_cell h.blk 7
 have f8 : w.cell? ⟨p, 8, none⟩ = some (.int .i64 B) := blk_cell h.blk 8
 have hB' : (S.ticks == B) = true := by simp [hB]
 clear h hB; go_enter Try.func94, Try.ntmps94
 go_wp2; go_quiet ((fail))
 clear f7 f8; go_wp2; exact ⟨rfl, rfl, Keep.drewN (Keep.refl _ w) nq, HE.out.below (below_drewN (Below.refl _ _) nq)⟩
def placeE (n : Nat) (a : Int) : Ending := if 0 ≤ a ∧ a < n then .returned (.int .i64 a) else ovr 3 a
set_option maxRecDepth 100000 in
theorem at_calls (w : World) (p base : Nat) (B : Int) (S : Ev) (N V M O I : Value) (h : EvAt w p base B S N V M O I) (a : Int) :
  Calls Try.prog 97 #[.pointer (some ⟨p, 0, none⟩), .int .i64 a] w fun e w' => e = placeE S.mem.length a ∧ w' = w := by
 obtain ⟨A, c, rfl, hc⟩ := h.mem.slice; have f2 : w.cell? ⟨p, 2, none⟩ = some (.slice A S.mem.length c) := blk_cell h.blk 2
 clear h; by_cases h1 : a < 0
 ·have HI := Lib.hid (show placeE S.mem.length a = ovr 3 a from if_neg (by omega))
  go_enter Try.func97, Try.ntmps97
  go_wp2; exact ⟨rfl, HI.out.symm, rfl⟩
 by_cases h2 : a ≥ (S.mem.length : Int)
 ·have HI := Lib.hid (show placeE S.mem.length a = ovr 3 a from if_neg (by omega))
  go_enter Try.func97, Try.ntmps97
  go_wp2; exact ⟨rfl, HI.out.symm, rfl⟩
 have HI := Lib.hid (show placeE S.mem.length a = .returned (.int .i64 a) from if_pos (by omega))
 go_enter Try.func97, Try.ntmps97
 go_wp2; go_ret; exact ⟨HI.out.symm, rfl⟩
theorem EvAt.drewN {w : World} {p base : Nat} {B : Int} {S : Ev} {N V M O I : Value} (h : EvAt w p base B S N V M O I) (k : Nat) : EvAt (w.drewN k) p base B S N V M O I := h.below (below_drewN (Below.refl _ _) k)
def argV (S : Ev) (e : Expr) (i : Nat) : Got Int := exprV S (e.args.getD i default)
theorem exprV_one {S : Ev} {e : Expr} (h1 : e.kind ≠ 1) (h2 : e.kind ≠ 2) (hl : e.args.length = 1) : exprV S e = (match argV S e 0 with
  | .left h v => .left h v
  | .ok v => if e.kind = 3 then memV S v else if e.kind = 4 then .ok (one e.op v).1 else twoV e.op v 0) := by
 obtain ⟨k, n, s, o, la⟩ := e; simp only [Expr.kind, Expr.args] at h1 h2 hl
 match la, hl with
 | [a], _ =>
  simp only [exprV, exprsV, argV, Expr.kind, Expr.args, Expr.op, if_neg h1, if_neg h2, List.getD, List.getElem?_cons_zero, Option.getD_some]
  cases exprV S a <;> rfl
theorem exprV_two {S : Ev} {e : Expr} (h1 : e.kind = 5) (hl : e.args.length = 2) : exprV S e = (match argV S e 0 with
  | .left h v => .left h v
  | .ok v => match argV S e 1 with
   | .left h u => .left h u
   | .ok u => twoV e.op v u) := by
 obtain ⟨k, n, s, o, la⟩ := e; simp only [Expr.kind, Expr.args] at h1 hl
 subst h1; match la, hl with
 | [a, b], _ =>
  simp only [exprV, exprsV, argV, Expr.kind, Expr.args, Expr.op, List.getD, List.getElem?_cons_zero, List.getElem?_cons_succ, Option.getD_some]
  cases exprV S a <;> cases exprV S b <;> rfl
def ExprK (S : Ev) (e : Expr) (w : World) (E : Ending) (w' : World) : Prop := E = gotE (exprV S e) ∧ Below w.heap.size w w'
set_option maxRecDepth 100000 in
set_option maxHeartbeats 4000000 in
theorem eexpr_calls (W : World) (p base : Nat) (B : Int) (S : Ev) (N V M O I : Value) (hS : S.names.length ≤ 2000000) (n : Nat) : ∀ (e : Expr) (A : Option Addr) (c d : Nat), e.nodes ≤ n → Expr.rds W e.args A 0 → e.args.length ≤ c → e.name.size ≤ maxLen → e.rightB nameB d = true → ∀ (w : World), Below W.heap.size W w → EvAt w p base B S N V M O I →
  Calls Try.prog 95 #[.pointer (some ⟨p, 0, none⟩), .agg #[.int .i64 e.kind, .int .i64 e.num, .string e.name, .int .i64 e.op, .slice A e.args.length c]] w (ExprK S e w) := by
 induction n with
 | zero => intro e A c d hN; have := e.nodes_eq; omega
 | succ n ih =>
  intro e A c d hN hrd hc hs hr w hB hE; have hne := e.nodes_eq; rw [e.rightB_eq nameB d] at hr; simp only [Bool.and_eq_true, decide_eq_true_eq] at hr
  obtain ⟨⟨⟨⟨_, hk1, hk5⟩, hlen⟩, _⟩, hra⟩ := hr; have HA := Lib.hid (fun j (hj : j < e.args.length) (w1 : World) (hB1 : Below W.heap.size W w1) => Expr.at hrd hB1 hj)
  have HIH := Lib.hid (fun j (hj : j < e.args.length) A' c' (hrd' : Expr.rds W e.args[j].args A' 0) (hc' : e.args[j].args.length ≤ c') (hs' : e.args[j].name.size ≤ maxLen) w1 hB1 hE1 => ih e.args[j] A' c' (d + 1) (by have := Expr.nodesL_take e.args j hj; omega) hrd' hc' hs' (Expr.rightsB_all hra _ (List.getElem_mem hj)) w1 hB1 hE1)
  have HSZ := Lib.hid hs; have HB0 := Lib.hid (show Below w.heap.size w (w.alloc (.cells #[.int .i64 e.kind, .int .i64 e.num, .string e.name, .int .i64 e.op, .slice A e.args.length c] 66)) from (Below.refl _ _).al)
  have hx := blk_new w (.cells #[.int .i64 e.kind, .int .i64 e.num, .string e.name, .int .i64 e.op, .slice A e.args.length c] 66); obtain ⟨w0, hw0⟩ : ∃ w0, w.alloc (.cells #[.int .i64 e.kind, .int .i64 e.num, .string e.name, .int .i64 e.op, .slice A e.args.length c] 66) = w0 := ⟨_, rfl⟩
  rw [hw0] at HB0 hx; have HX := Lib.hid hx; have HW := Lib.hid hw0; have HE := Lib.hid (hE.below HB0.out); have HBW := Lib.hid (hB.trans (HB0.out.mono hB.size)); clear ih hrd hs hra hx hw0 hE hB hne hN; have hkk : e.kind = 1 ∨ e.kind = 2 ∨ e.kind = 3 ∨ e.kind = 4 ∨ e.kind = 5 := by omega
  rcases hkk with hK | hK | hK | hK | hK
  ·have t1 : (e.kind == 1) = true := by simp [hK]
   have t2 : (e.kind == 2) = false := by simp [hK]
   have t3 : (e.kind == 3) = false := by simp [hK]
   have t4 : (e.kind == 4) = false := by simp [hK]
   have t5 : (e.kind == 5) = false := by simp [hK]
   have HV := Lib.hid (show exprV S e = .ok e.num by cases e; simp only [Expr.kind] at hK; subst hK; rfl)
   clear hK hlen; go_enter Try.func95, Try.ntmps95
   go_wp2_with (have tk := HW; clear tk; rw [HW.out]; clear HW; have f0 := blk_cell HX.out 0; have f1 := blk_cell HX.out 1; have f2 := blk_cell HX.out 2; have f3 := blk_cell HX.out 3; have f4 := blk_cell HX.out 4)
   go_ret; exact ⟨by rw [HV.out]; rfl, HB0.out⟩
  ·have t1 : (e.kind == 1) = false := by simp [hK]
   have t2 : (e.kind == 2) = true := by simp [hK]
   have t3 : (e.kind == 3) = false := by simp [hK]
   have t4 : (e.kind == 4) = false := by simp [hK]
   have t5 : (e.kind == 5) = false := by simp [hK]
   have HV := Lib.hid (show exprV S e = nameV S e.name by cases e; simp only [Expr.kind] at hK; subst hK; rfl)
   have HF := Lib.hid (fun w1 (h1 : EvAt w1 p base B S N V M O I) => find_calls w1 p base B S N V M O I h1 e.name hS)
   clear hK hlen
   cases hi : lastIdx S.names e.name with
   | none =>
    have HI := Lib.hid (show findE S.names e.name = ovr 0 0 by rw [findE, hi])
    have HG := Lib.hid (show exprV S e = .left 0 0 by rw [HV.out, nameV, hi])
    clear hi; go_enter Try.func95, Try.ntmps95
    go_wp2_with (have tk := HW; clear tk; rw [HW.out]; clear HW; have f0 := blk_cell HX.out 0; have f1 := blk_cell HX.out 1; have f2 := blk_cell HX.out 2; have f3 := blk_cell HX.out 3; have f4 := blk_cell HX.out 4)
    go_still_tail 5, (by kernel_rfl)
    go_wp2_with fail; refine (HF.out _ (HE.out.drewN _)).mono ?_; rintro y w1 ⟨rfl, rfl⟩; rw [HI.out]; exact ⟨rfl, by rw [HG.out]; rfl, below_drewN HB0.out _⟩
   | some i =>
    have hil := lastIdx_lt hi; have HI := Lib.hid (show findE S.names e.name = .returned (.int .i64 (i : Int)) by rw [findE, hi])
    have HG := Lib.hid (show exprV S e = .ok (S.vals.getD i 0) by rw [HV.out, nameV, hi])
    have hiv : i < S.vals.length := by have := HE.out.eq; omega
    obtain ⟨gv, cv, rfl, xv, _⟩ := HE.out.vals.cell (nums_get hiv); have HXV := Lib.hid xv; have hi0 : (0 : Int) ≤ (i : Int) := by omega
    have hi1 : (i : Int) < (S.vals.length : Int) := by omega
    generalize hgv : S.vals.getD i 0 = v at HG HXV
    clear hi xv hgv; go_enter Try.func95, Try.ntmps95
    go_wp2_with (have tk := HW; clear tk; rw [HW.out]; clear HW; have f0 := blk_cell HX.out 0; have f1 := blk_cell HX.out 1; have f2 := blk_cell HX.out 2; have f3 := blk_cell HX.out 3; have f4 := blk_cell HX.out 4)
    go_still_tail 5, (by kernel_rfl)
    go_wp2_with fail; refine (HF.out _ (HE.out.drewN _)).mono ?_; rintro y w1 ⟨rfl, hw1⟩; rw [HI.out]; have HEw := Lib.hid (hw1 ▸ HE.out.drewN _ : EvAt w1 p base B S N _ M O I); have HBw := Lib.hid (show Below w.heap.size w w1 from hw1 ▸ below_drewN HB0.out _)
    have g1 : w1.cell? ⟨p, 1, none⟩ = some (.slice (some ⟨gv, 0, none⟩) S.vals.length cv) := blk_cell HEw.out.blk 1
    have g2 : w1.cell? ⟨gv, i, none⟩ = some (.int .i64 v) := by subst hw1; exact HXV.out
    clear hw1; go_wp2; go_ret; exact ⟨by rw [HG.out]; rfl, HBw.out⟩
  ·have h9 : wantE e.kind = 1 := by simp [wantE, hK]
   have hl : e.args.length = 1 := by omega
   clear h9; have hj0 : 0 < e.args.length := by omega
   obtain ⟨b0, o0, A0, c0, hA0, _, g0, g1, g2, g3, g4, hc0, hs0, hrd0⟩ := HA.out 0 hj0 w0 HBW.out; have HI0 := Lib.hid (fun w1 h1 h2 => HIH.out 0 hj0 A0 c0 hrd0 hc0 hs0 w1 h1 h2)
   have HV0 := Lib.hid (show argV S e 0 = exprV S e.args[0] by rw [argV, List.getD, List.getElem?_eq_getElem hj0]; rfl)
   obtain ⟨a0, ha0⟩ : ∃ a, e.args[0] = a := ⟨_, rfl⟩
   rw [ha0] at g0 g1 g2 g3 g4 HI0 HV0; simp only [Nat.zero_mul, Nat.add_zero] at g0 g1 g2 g3 g4
   clear hc0 hs0 hrd0 ha0; subst hA0; have t1 : (e.kind == 1) = false := by simp [hK]
   have t2 : (e.kind == 2) = false := by simp [hK]
   have t3 : (e.kind == 3) = true := by simp [hK]
   have t4 : (e.kind == 4) = false := by simp [hK]
   have t5 : (e.kind == 5) = false := by simp [hK]
   have HV := Lib.hid (exprV_one (S := S) (by omega) (by omega) hl)
   have HK3 := Lib.hid hK; have hlen' : (e.args.length : Int) = 1 := by omega
   clear hK hlen hl hlen'; have hlt0 : (0 : Int) < (e.args.length : Int) := by omega
   cases hv : exprV S a0 with
   | left h v =>
    have HG := Lib.hid (show exprV S e = .left h v by rw [HV.out, HV0.out, hv])
    have HL := Lib.hid hv; clear hv; go_enter Try.func95, Try.ntmps95
    go_wp2_with (have tk := HW; clear tk; rw [HW.out]; clear HW; have f0 := blk_cell HX.out 0; have f1 := blk_cell HX.out 1; have f2 := blk_cell HX.out 2; have f3 := blk_cell HX.out 3; have f4 := blk_cell HX.out 4)
    refine (HI0.out _ HBW.out HE.out).mono ?_; rintro y w1 ⟨rfl, hb1⟩; rw [HL.out]; exact ⟨rfl, by rw [HG.out]; rfl, HB0.out.trans (hb1.mono HB0.out.size)⟩
   | ok v =>
    have HG := Lib.hid (show exprV S e = memV S v by rw [HV.out, HV0.out, hv]; simp only [HK3.out, if_true])
    have HL := Lib.hid hv; clear hv; by_cases hin : 0 ≤ v ∧ v < S.mem.length
    ·obtain ⟨j, rfl⟩ : ∃ j : Nat, v = j := ⟨v.toNat, by omega⟩
     have hj : j < S.mem.length := by omega
     have HP := Lib.hid (show placeE S.mem.length (j : Int) = .returned (.int .i64 (j : Int)) from if_pos hin)
     have HM := Lib.hid (show memV S (j : Int) = .ok (S.mem.getD j 0) by rw [memV, if_pos hin]; rfl)
     obtain ⟨gm, cm, rfl, xm, _⟩ := HE.out.mem.cell (nums_get hj); generalize hu : S.mem.getD j 0 = u at HM xm
     have HXM := Lib.hid xm; have hi0 : (0 : Int) ≤ (j : Int) := by omega
     have hi1 : (j : Int) < (S.mem.length : Int) := by omega
     clear hin xm hu; go_enter Try.func95, Try.ntmps95
     go_wp2_with (have tk := HW; clear tk; rw [HW.out]; clear HW; have f0 := blk_cell HX.out 0; have f1 := blk_cell HX.out 1; have f2 := blk_cell HX.out 2; have f3 := blk_cell HX.out 3; have f4 := blk_cell HX.out 4)
     refine (HI0.out _ HBW.out HE.out).mono ?_; rintro y w1 ⟨rfl, hb1⟩; rw [HL.out]; have HB1 := Lib.hid (HB0.out.trans (hb1.mono HB0.out.size)); have HE1 := Lib.hid (HE.out.below hb1); have HX1 := Lib.hid (hb1.cellOf HXM.out); clear hb1 f0 f1 f2 f3 f4 g0 g1 g2 g3 g4; simp only [gotE]
     go_wp2_with fail; refine (at_calls _ p base B S _ _ _ _ _ HE1.out _).mono ?_; rintro y w2 ⟨rfl, hw2⟩; obtain rfl := hw2.symm
     rw [HP.out]; have m1 : w1.cell? ⟨p, 2, none⟩ = some (.slice (some ⟨gm, 0, none⟩) S.mem.length cm) := blk_cell HE1.out.blk 2
     have m2 := HX1.out; go_wp2; go_ret; exact ⟨by rw [HG.out, HM.out]; rfl, HB1.out⟩
    ·have HP := Lib.hid (show placeE S.mem.length v = ovr 3 v from if_neg hin)
     have HM := Lib.hid (show memV S v = .left 3 v by rw [memV, if_neg hin])
     clear hin; go_enter Try.func95, Try.ntmps95
     go_wp2_with (have tk := HW; clear tk; rw [HW.out]; clear HW; have f0 := blk_cell HX.out 0; have f1 := blk_cell HX.out 1; have f2 := blk_cell HX.out 2; have f3 := blk_cell HX.out 3; have f4 := blk_cell HX.out 4)
     refine (HI0.out _ HBW.out HE.out).mono ?_; rintro y w1 ⟨rfl, hb1⟩; rw [HL.out]; have HB1 := Lib.hid (HB0.out.trans (hb1.mono HB0.out.size)); have HE1 := Lib.hid (HE.out.below hb1); clear hb1 f0 f1 f2 f3 f4 g0 g1 g2 g3 g4; simp only [gotE]
     go_wp2_with fail; refine (at_calls _ p base B S _ _ _ _ _ HE1.out _).mono ?_; rintro y w2 ⟨rfl, hw2⟩; obtain rfl := hw2.symm
     rw [HP.out]; exact ⟨rfl, by rw [HG.out, HM.out]; rfl, HB1.out⟩
  ·have h9 : wantE e.kind = 1 := by simp [wantE, hK]
   have hl : e.args.length = 1 := by omega
   clear h9; have hj0 : 0 < e.args.length := by omega
   obtain ⟨b0, o0, A0, c0, hA0, _, g0, g1, g2, g3, g4, hc0, hs0, hrd0⟩ := HA.out 0 hj0 w0 HBW.out; have HI0 := Lib.hid (fun w1 h1 h2 => HIH.out 0 hj0 A0 c0 hrd0 hc0 hs0 w1 h1 h2)
   have HV0 := Lib.hid (show argV S e 0 = exprV S e.args[0] by rw [argV, List.getD, List.getElem?_eq_getElem hj0]; rfl)
   obtain ⟨a0, ha0⟩ : ∃ a, e.args[0] = a := ⟨_, rfl⟩
   rw [ha0] at g0 g1 g2 g3 g4 HI0 HV0; simp only [Nat.zero_mul, Nat.add_zero] at g0 g1 g2 g3 g4
   clear hc0 hs0 hrd0 ha0; subst hA0; have t1 : (e.kind == 1) = false := by simp [hK]
   have t2 : (e.kind == 2) = false := by simp [hK]
   have t3 : (e.kind == 3) = false := by simp [hK]
   have t4 : (e.kind == 4) = true := by simp [hK]
   have t5 : (e.kind == 5) = false := by simp [hK]
   have HV := Lib.hid (exprV_one (S := S) (by omega) (by omega) hl)
   have HK3 := Lib.hid hK; clear hK hlen hl; have hlt0 : (0 : Int) < (e.args.length : Int) := by omega
   cases hv : exprV S a0 with
   | left h v =>
    have HG := Lib.hid (show exprV S e = .left h v by rw [HV.out, HV0.out, hv])
    have HL := Lib.hid hv; clear hv; go_enter Try.func95, Try.ntmps95
    go_wp2_with (have tk := HW; clear tk; rw [HW.out]; clear HW; have f0 := blk_cell HX.out 0; have f1 := blk_cell HX.out 1; have f2 := blk_cell HX.out 2; have f3 := blk_cell HX.out 3; have f4 := blk_cell HX.out 4)
    clear f0 f1 f2; refine wp_region_held_drew (S := fun V_ => V_.cell? ⟨w.heap.size, 3, none⟩ = some (.int .i64 e.op) ∧ V_.cell? ⟨w.heap.size, 4, none⟩ = some (.slice (some ⟨b0, o0, none⟩) e.args.length c) ∧ V_.cell? ⟨b0, o0, none⟩ = some (.int .i64 a0.kind) ∧ V_.cell? ⟨b0, o0 + 1, none⟩ = some (.int .i64 a0.num) ∧ V_.cell? ⟨b0, o0 + 2, none⟩ = some (.string a0.name) ∧ V_.cell? ⟨b0, o0 + 3, none⟩ = some (.int .i64 a0.op) ∧ V_.cell? ⟨b0, o0 + 4, none⟩ = some (.slice A0 a0.args.length c0)) (by kernel_rfl) ⟨f3, f4, g0, g1, g2, g3, g4⟩ (fun hHeld => ?_)
    refine wpAnyH_take (i := 0) (oi := ⟨some 56, _, _, _, _, _⟩) (v := .pointer (some ⟨w.heap.size, 3, none⟩)) rfl (by kernel_rfl) (by kernel_rfl) (by kernel_rfl) (fun _ _ _ h => h) (Or.inl ⟨by rfl, fun V hV => by obtain ⟨q1, q2, q3, q4, q5, q6, q7⟩ := hV; go_simp⟩) (by assumption) ?_
    try simp only [Act.put, List.setIfInBounds_toArray, List.set_cons_zero, List.set_cons_succ]
    refine wpAnyH_take (i := 1) (oi := ⟨some 57, _, _, _, _, _⟩) (v := .int .i64 e.op) rfl (by kernel_rfl) (by kernel_rfl) (by kernel_rfl) (fun _ _ _ h => h) (Or.inl ⟨by rfl, fun V hV => by obtain ⟨q1, q2, q3, q4, q5, q6, q7⟩ := hV; go_simp⟩) (by assumption) ?_
    try simp only [Act.put, List.setIfInBounds_toArray, List.set_cons_zero, List.set_cons_succ]
    refine wpAnyH_take (i := 2) (oi := ⟨some 58, _, _, _, _, _⟩) (v := .pointer (some ⟨p, 0, none⟩)) rfl (by kernel_rfl) (by kernel_rfl) (by kernel_rfl) (fun _ _ _ h => h) (Or.inl ⟨by rfl, fun V hV => by obtain ⟨q1, q2, q3, q4, q5, q6, q7⟩ := hV; go_simp⟩) (by assumption) ?_
    try simp only [Act.put, List.setIfInBounds_toArray, List.set_cons_zero, List.set_cons_succ]
    refine wpAnyH_take (i := 3) (oi := ⟨some 59, _, _, _, _, _⟩) (v := .pointer (some ⟨w.heap.size, 4, none⟩)) rfl (by kernel_rfl) (by kernel_rfl) (by kernel_rfl) (fun _ _ _ h => h) (Or.inl ⟨by rfl, fun V hV => by obtain ⟨q1, q2, q3, q4, q5, q6, q7⟩ := hV; go_simp⟩) (by assumption) ?_
    try simp only [Act.put, List.setIfInBounds_toArray, List.set_cons_zero, List.set_cons_succ]
    refine wpAnyH_take (i := 4) (oi := ⟨some 60, _, _, _, _, _⟩) (v := .slice (some ⟨b0, o0, none⟩) e.args.length c) rfl (by kernel_rfl) (by kernel_rfl) (by kernel_rfl) (fun _ _ _ h => h) (Or.inl ⟨by rfl, fun V hV => by obtain ⟨q1, q2, q3, q4, q5, q6, q7⟩ := hV; go_simp⟩) (by assumption) ?_
    try simp only [Act.put, List.setIfInBounds_toArray, List.set_cons_zero, List.set_cons_succ]
    refine wpAnyH_take (i := 5) (oi := ⟨some 61, _, _, _, _, _⟩) (v := .pointer (some ⟨b0, o0, none⟩)) rfl (by kernel_rfl) (by kernel_rfl) (by kernel_rfl) (fun _ _ _ h => h) (Or.inl ⟨by rfl, fun V hV => by obtain ⟨q1, q2, q3, q4, q5, q6, q7⟩ := hV; go_simp⟩) (by assumption) ?_
    try simp only [Act.put, List.setIfInBounds_toArray, List.set_cons_zero, List.set_cons_succ]
    refine wpAnyH_take (i := 6) (oi := ⟨some 62, _, _, _, _, _⟩) (v := .agg #[.int .i64 a0.kind, .int .i64 a0.num, .string a0.name, .int .i64 a0.op, .slice A0 a0.args.length c0]) rfl (by kernel_rfl) (by kernel_rfl) (by kernel_rfl) (fun _ _ _ h => h) (Or.inl ⟨by rfl, fun V hV => by obtain ⟨q1, q2, q3, q4, q5, q6, q7⟩ := hV; go_simp⟩) (by assumption) ?_
    try simp only [Act.put, List.setIfInBounds_toArray, List.set_cons_zero, List.set_cons_succ]
    refine wpAnyH_ready (rs := [7]) (by kernel_rfl) (by simp) ?_
    refine AllReadyH.cons (o := ⟨some 63, _, _, _, _, _⟩) rfl (fun K hK => ?_) AllReadyH.nil
    go_simp; refine (HI0.out _ HBW.out.drew (HE.out.drewN 1)).mono ?_; rintro y w1 ⟨rfl, hb⟩; rw [HL.out]; exact ⟨rfl, by rw [HG.out]; rfl, HB0.out.trans ((below_fromdrew hb).mono HB0.out.size)⟩
   | ok v =>
    have HG := Lib.hid (show exprV S e = .ok (one e.op v).1 by rw [HV.out, HV0.out, hv]; simp only [HK3.out]; rfl)
    have HL := Lib.hid hv; clear hv; go_enter Try.func95, Try.ntmps95
    go_wp2_with (have tk := HW; clear tk; rw [HW.out]; clear HW; have f0 := blk_cell HX.out 0; have f1 := blk_cell HX.out 1; have f2 := blk_cell HX.out 2; have f3 := blk_cell HX.out 3; have f4 := blk_cell HX.out 4)
    clear f0 f1 f2; go_region_held3 (fun V_ => V_.cell? ⟨w.heap.size, 3, none⟩ = some (.int .i64 e.op) ∧ V_.cell? ⟨w.heap.size, 4, none⟩ = some (.slice (some ⟨b0, o0, none⟩) e.args.length c) ∧ V_.cell? ⟨b0, o0, none⟩ = some (.int .i64 a0.kind) ∧ V_.cell? ⟨b0, o0 + 1, none⟩ = some (.int .i64 a0.num) ∧ V_.cell? ⟨b0, o0 + 2, none⟩ = some (.string a0.name) ∧ V_.cell? ⟨b0, o0 + 3, none⟩ = some (.int .i64 a0.op) ∧ V_.cell? ⟨b0, o0 + 4, none⟩ = some (.slice A0 a0.args.length c0)) (first | go_keep | (refine ⟨?_, ?_, ?_, ?_, ?_, ?_, ?_⟩ <;> exact keep_cell hb (by assumption))) (first | (go_at_call 104; go_must (refine (one_same _ _ _).mono ?_); rintro y w2 ⟨rfl, hw2⟩; obtain rfl := hw2.symm) | (go_at_call 95; go_must (refine (HI0.out _ HBW.out.drew (HE.out.drewN 1)).mono ?_); rintro y w1 ⟨rfl, hb⟩; rw [HL.out]; simp only [gotE]))
    have HB1 := Lib.hid (HB0.out.trans ((below_fromdrew hb).mono HB0.out.size)); go_wp2; go_ret; exact ⟨by rw [HG.out]; rfl, HB1.out⟩
  ·have h9 : wantE e.kind = 2 := by simp [wantE, hK]
   have hl : e.args.length = 2 := by omega
   clear h9; have hj0 : 0 < e.args.length := by omega
   obtain ⟨b0, o0, A0, c0, hA0, _, g0, g1, g2, g3, g4, hc0, hs0, hrd0⟩ := HA.out 0 hj0 w0 HBW.out; have HI0 := Lib.hid (fun w1 h1 h2 => HIH.out 0 hj0 A0 c0 hrd0 hc0 hs0 w1 h1 h2)
   have HV0 := Lib.hid (show argV S e 0 = exprV S e.args[0] by rw [argV, List.getD, List.getElem?_eq_getElem hj0]; rfl)
   obtain ⟨a0, ha0⟩ : ∃ a, e.args[0] = a := ⟨_, rfl⟩
   rw [ha0] at g0 g1 g2 g3 g4 HI0 HV0; simp only [Nat.zero_mul, Nat.add_zero] at g0 g1 g2 g3 g4
   clear hc0 hs0 hrd0 ha0; have hj1 : 1 < e.args.length := by omega
   obtain ⟨b1, o1, A1, c1, hA1, _, k0, k1, k2, k3, k4, hc1, hs1, hrd1⟩ := HA.out 1 hj1 w0 HBW.out; have HI1 := Lib.hid (fun w1 h1 h2 => HIH.out 1 hj1 A1 c1 hrd1 hc1 hs1 w1 h1 h2)
   have HV1 := Lib.hid (show argV S e 1 = exprV S e.args[1] by rw [argV, List.getD, List.getElem?_eq_getElem hj1]; rfl)
   obtain ⟨a1, ha1⟩ : ∃ a, e.args[1] = a := ⟨_, rfl⟩
   rw [ha1] at k0 k1 k2 k3 k4 HI1 HV1; simp only [Nat.one_mul] at k0 k1 k2 k3 k4
   clear hc1 hs1 hrd1 ha1; subst hA0; obtain ⟨e1, e2⟩ : b0 = b1 ∧ o0 = o1 := by injection hA1 with h; injection h with h1 h2 _; exact ⟨h1, h2⟩
   subst e1; subst e2
   clear hA1; have t1 : (e.kind == 1) = false := by simp [hK]
   have t2 : (e.kind == 2) = false := by simp [hK]
   have t3 : (e.kind == 3) = false := by simp [hK]
   have t4 : (e.kind == 4) = false := by simp [hK]
   have t5 : (e.kind == 5) = true := by simp [hK]
   have HV := Lib.hid (exprV_two (S := S) hK hl); clear hK hlen; have hlt0 : (0 : Int) < (e.args.length : Int) := by omega
   have hlt1 : (1 : Int) < (e.args.length : Int) := by omega
   clear hl; have HKK := Lib.hid (And.intro k0 (And.intro k1 (And.intro k2 (And.intro k3 k4)))); clear k0 k1 k2 k3 k4
   cases hv : exprV S a0 with
   | left h v =>
    have HG := Lib.hid (show exprV S e = .left h v by rw [HV.out, HV0.out, hv])
    have HL := Lib.hid hv; clear hv; go_enter Try.func95, Try.ntmps95
    go_wp2_with (have tk := HW; clear tk; rw [HW.out]; clear HW; have f0 := blk_cell HX.out 0; have f1 := blk_cell HX.out 1; have f2 := blk_cell HX.out 2; have f3 := blk_cell HX.out 3; have f4 := blk_cell HX.out 4)
    refine (HI0.out _ HBW.out HE.out).mono ?_; rintro y w1 ⟨rfl, hb1⟩; rw [HL.out]; exact ⟨rfl, by rw [HG.out]; rfl, HB0.out.trans (hb1.mono HB0.out.size)⟩
   | ok v =>
    have HL := Lib.hid hv
    cases hu : exprV S a1 with
    | left h u =>
     have HG := Lib.hid (show exprV S e = .left h u by rw [HV.out, HV0.out, hv]; simp only []; rw [HV1.out, hu])
     have HM := Lib.hid hu; clear hv hu; go_enter Try.func95, Try.ntmps95
     go_wp2_with (have tk := HW; clear tk; rw [HW.out]; clear HW; have f0 := blk_cell HX.out 0; have f1 := blk_cell HX.out 1; have f2 := blk_cell HX.out 2; have f3 := blk_cell HX.out 3; have f4 := blk_cell HX.out 4)
     refine (HI0.out _ HBW.out HE.out).mono ?_; rintro y w1 ⟨rfl, hb1⟩; rw [HL.out]; have HB1 := Lib.hid (HB0.out.trans (hb1.mono HB0.out.size)); have HE1 := Lib.hid (HE.out.below hb1); have HBW1 := Lib.hid (HBW.out.trans (hb1.mono HBW.out.size)); have HX1 := Lib.hid (below_blk hb1 HX.out (blk_lt HX.out)); have k0 := hb1.cellOf HKK.out.1; have k1 := hb1.cellOf HKK.out.2.1; have k2 := hb1.cellOf HKK.out.2.2.1; have k3 := hb1.cellOf HKK.out.2.2.2.1; have k4 := hb1.cellOf HKK.out.2.2.2.2; clear hb1 f0 f1 f2 f3 f4 g0 g1 g2 g3 g4; have f0 := blk_cell HX1.out 0; have f1 := blk_cell HX1.out 1; have f2 := blk_cell HX1.out 2
     have f3 := blk_cell HX1.out 3; have f4 := blk_cell HX1.out 4; simp only [gotE]
     go_wp2_with fail; refine (HI1.out _ HBW1.out HE1.out).mono ?_; rintro y w2 ⟨rfl, hb2⟩; rw [HM.out]; exact ⟨rfl, by rw [HG.out]; rfl, HB1.out.trans (hb2.mono HB1.out.size)⟩
    | ok u =>
     have HM := Lib.hid hu; have HG0 := Lib.hid (show exprV S e = twoV e.op v u by rw [HV.out, HV0.out, hv]; simp only []; rw [HV1.out, hu])
     clear hv hu; by_cases ht : (two e.op v u).2 = true
     ·have HT := Lib.hid ht
      have HG := Lib.hid (show exprV S e = .ok (two e.op v u).1 by rw [HG0.out, twoV, if_pos ht])
      clear ht; go_enter Try.func95, Try.ntmps95
      go_wp2_with (have tk := HW; clear tk; rw [HW.out]; clear HW; have f0 := blk_cell HX.out 0; have f1 := blk_cell HX.out 1; have f2 := blk_cell HX.out 2; have f3 := blk_cell HX.out 3; have f4 := blk_cell HX.out 4)
      refine (HI0.out _ HBW.out HE.out).mono ?_; rintro y w1 ⟨rfl, hb1⟩; rw [HL.out]; have HB1 := Lib.hid (HB0.out.trans (hb1.mono HB0.out.size)); have HE1 := Lib.hid (HE.out.below hb1); have HBW1 := Lib.hid (HBW.out.trans (hb1.mono HBW.out.size)); have HX1 := Lib.hid (below_blk hb1 HX.out (blk_lt HX.out)); have k0 := hb1.cellOf HKK.out.1; have k1 := hb1.cellOf HKK.out.2.1; have k2 := hb1.cellOf HKK.out.2.2.1; have k3 := hb1.cellOf HKK.out.2.2.2.1; have k4 := hb1.cellOf HKK.out.2.2.2.2; clear hb1 f0 f1 f2 f3 f4 g0 g1 g2 g3 g4; have f0 := blk_cell HX1.out 0; have f1 := blk_cell HX1.out 1; have f2 := blk_cell HX1.out 2
      have f3 := blk_cell HX1.out 3; have f4 := blk_cell HX1.out 4; simp only [gotE]
      go_wp2_with fail; refine (HI1.out _ HBW1.out HE1.out).mono ?_; rintro y w2 ⟨rfl, hb2⟩; rw [HM.out]; have HB2 := Lib.hid (HB1.out.trans (hb2.mono HB1.out.size)); have HX2 := Lib.hid (below_blk hb2 HX1.out (blk_lt HX1.out)); clear hb2 f0 f1 f2 f3 f4 k0 k1 k2 k3 k4; have f3 := blk_cell HX2.out 3; simp only [gotE]
      go_wp2_with fail; refine (two_same _ _ _ _).mono ?_; rintro y w3 ⟨rfl, hw3⟩; obtain rfl := hw3.symm
      rw [HT.out]; go_wp2; go_ret; exact ⟨by rw [HG.out]; rfl, HB2.out⟩
     ·have HT := Lib.hid (show (two e.op v u).2 = false by simpa using ht)
      have HG := Lib.hid (show exprV S e = .left 2 0 by rw [HG0.out, twoV, if_neg ht])
      clear ht; go_enter Try.func95, Try.ntmps95
      go_wp2_with (have tk := HW; clear tk; rw [HW.out]; clear HW; have f0 := blk_cell HX.out 0; have f1 := blk_cell HX.out 1; have f2 := blk_cell HX.out 2; have f3 := blk_cell HX.out 3; have f4 := blk_cell HX.out 4)
      refine (HI0.out _ HBW.out HE.out).mono ?_; rintro y w1 ⟨rfl, hb1⟩; rw [HL.out]; have HB1 := Lib.hid (HB0.out.trans (hb1.mono HB0.out.size)); have HE1 := Lib.hid (HE.out.below hb1); have HBW1 := Lib.hid (HBW.out.trans (hb1.mono HBW.out.size)); have HX1 := Lib.hid (below_blk hb1 HX.out (blk_lt HX.out)); have k0 := hb1.cellOf HKK.out.1; have k1 := hb1.cellOf HKK.out.2.1; have k2 := hb1.cellOf HKK.out.2.2.1; have k3 := hb1.cellOf HKK.out.2.2.2.1; have k4 := hb1.cellOf HKK.out.2.2.2.2; clear hb1 f0 f1 f2 f3 f4 g0 g1 g2 g3 g4; have f0 := blk_cell HX1.out 0; have f1 := blk_cell HX1.out 1; have f2 := blk_cell HX1.out 2
      have f3 := blk_cell HX1.out 3; have f4 := blk_cell HX1.out 4; simp only [gotE]
      go_wp2_with fail; refine (HI1.out _ HBW1.out HE1.out).mono ?_; rintro y w2 ⟨rfl, hb2⟩; rw [HM.out]; have HB2 := Lib.hid (HB1.out.trans (hb2.mono HB1.out.size)); have HX2 := Lib.hid (below_blk hb2 HX1.out (blk_lt HX1.out)); clear hb2 f0 f1 f2 f3 f4 k0 k1 k2 k3 k4; have f3 := blk_cell HX2.out 3; simp only [gotE]
      go_wp2_with fail; refine (two_same _ _ _ _).mono ?_; rintro y w3 ⟨rfl, hw3⟩; obtain rfl := hw3.symm
      rw [HT.out]; go_wp2; exact ⟨rfl, by rw [HG.out]; rfl, HB2.out⟩
end Go.Proofs.Ytjlnpppjkdcpkaa.My
