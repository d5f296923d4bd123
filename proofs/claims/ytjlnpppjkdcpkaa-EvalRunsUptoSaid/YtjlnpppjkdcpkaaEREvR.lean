/- eval.Run: the errors, the machine made, its effect. Conditions: the tree was there in the world W, which is kept. -/
import Derived.Test.YtjlnpppjkdcpkaaERNameW3
import Derived.Test.YtjlnpppjkdcpkaaERTrY
namespace Go.Proofs.Ytjlnpppjkdcpkaa.My
open Go.RowKit Go.Proofs.Ytjlnpppjkdcpkaa.NumA
set_option linter.unusedVariables false
set_option linter.unusedSimpArgs false
/-- the state in which a run begins -/
def startS (mem : List Int) (n i k : Int) : Ev := ⟨[⟨#[110]⟩, ⟨#[105]⟩, ⟨#[107]⟩], [n, i, k], mem, [], [], 0⟩
/-- why a text isn't run -/
def runErr (ss : List Stmt) (L : Int) (ml : Nat) (B : Int) : Int :=
 if rightP nameB ss = false then 43 else if (slotsP ss L).2 ≠ 0 then (slotsP ss L).2 else if 64 < ml then 130 else if B < 0 ∨ 1000000 < B then 110 else 0
/-- an effect's rows in blocks from base on -/
structure OutAt (w : World) (base : Nat) (S : Ev) (M O I : Value) : Prop where
 mem : Row w 2 1 M S.mem.length (nums S.mem)
 outs : Row w 2 1 O S.outs.length (nums S.outs)
 intos : Row w 98 2 I S.intos.length (intoCells S.intos)
 fm : ∀ g, M.ownBlock = some g → base ≤ g
 fo : ∀ g, O.ownBlock = some g → base ≤ g
 fi : ∀ g, I.ownBlock = some g → base ≤ g
 mo : ∀ g, M.ownBlock = some g → O.ownBlock ≠ some g
def effV (S : Ev) (o : Option (Int × Int)) (M O I : Value) : Value := .agg #[M, O, I, .int .i64 (howE o).1, .int .i64 (howE o).2, .int .i64 S.ticks]
def zeroV : Value := .agg #[.slice none 0 0, .slice none 0 0, .slice none 0 0, .int .i64 0, .int .i64 0, .int .i64 0]
/-- what a run hands back -/
def RunK (ss : List Stmt) (L : Int) (mem : List Int) (n i k B : Int) (w : World) (E : Ending) (w' : World) : Prop := Below w.heap.size w w' ∧
 if runErr ss L mem.length B = 0 then ∃ S o M O I, Does B (.block ss) (startS mem n i k) S o ∧ OutAt w' w.heap.size S M O I ∧ E = .returned (.tuple #[effV S o M O I, .int .i64 0])
 else E = .returned (.tuple #[zeroV, .int .i64 (runErr ss L mem.length B)])
theorem nums_oneCell (l : List Int) : ∀ u ∈ nums l, u.oneCell' = true := by
 intro u hu; obtain ⟨_, _, rfl⟩ := List.mem_map.1 hu; rfl
/-- numbers that lie from an address on -/
def numRow (w : World) (l : List Int) (A : Option Addr) : Prop := ∀ j (hj : j < l.length), ∃ b o, A = some ⟨b, o, none⟩ ∧ w.cell? ⟨b, o + j, none⟩ = some (.int .i64 l[j])
theorem numRow.below {w w' : World} {l : List Int} {A : Option Addr} (h : numRow w l A) (hB : Below w.heap.size w w') : numRow w' l A := fun j hj => by
 obtain ⟨b, o, h1, h2⟩ := h j hj; exact ⟨b, o, h1, hB.cellOf h2⟩
theorem Row.numRow {w : World} {l : List Int} {A : Option Addr} {n c : Nat} (h : Row w 2 1 (.slice A n c) n (nums l)) : numRow w l A := fun j hj => by
 obtain ⟨g, h1, h2⟩ := h.cellA (nums_get hj); exact ⟨g, 0, h1, by rw [Nat.zero_add, h2]; simp [List.getD, hj]⟩
/-- append of the argument's numbers -/
theorem wpList_append_nums (w : World) {ops : Array Oper} {rest : List Oper} {o : Oper} {a : Act} {Q : Exit → Act → World → Prop} (hgd : o.guard = none) (s x : Operand)
  (ho : o.op = .call { callee := .builtin .append, args := #[s, x], argTypes := #[46, 46] }) (v : Value) (n : Nat) (xs : List Value) (hs : a.eval s = v) (hown : Row w 2 1 v n xs) (l : List Int) (A : Option Addr) (c : Nat) (hx : a.eval x = .slice A l.length c) (hr : numRow w l A) (hl : n + l.length ≤ 1000000000)
  (h : ∀ v' w', Row w' 2 1 v' (n + l.length) (xs ++ nums l) → w.grownBy w' v.ownBlock → (v'.ownBlock = v.ownBlock ∨ v'.ownBlock = some w.heap.size) → wpList Try.prog ops Q rest (a.put o.dst v') w') : wpList Try.prog ops Q (o :: rest) a w := by
 refine wpList_plain hgd fun _ hK => ?_
 obtain ⟨i, hi, hi2⟩ := Option.map_eq_some_iff.mp info_i64; simp only [Prod.mk.injEq] at hi2
 obtain ⟨A0, c0, rfl, hc0⟩ := hown.slice; have hr : ∃ v' w', (Builtin.append_ #[46, 46] o.type #[.slice A0 n c0, .slice A l.length c]).run Try.prog w = .ok v' w' ∧ Row w' 2 1 v' (n + l.length) (xs ++ nums l) ∧ w.grownBy w' (Value.slice A0 n c0).ownBlock ∧ (v'.ownBlock = (Value.slice A0 n c0).ownBlock ∨ v'.ownBlock = some w.heap.size) := by
  rcases Nat.eq_zero_or_pos l.length with h0 | h0
  ·have hn : l = [] := List.eq_nil_of_length_eq_zero h0
   subst hn; refine ⟨_, w, run_append_nothing w _ _ _ 2 i Try.underlying46 hi A0 n c0 hc0 _ (by cases A with | none => exact Src.ofNil w Try.underlying46 c | some a => exact Src.ofSlice w Try.underlying46 a 0 c [] (by simp) (by simp) (by simp)), by simpa [nums] using hown, ⟨rfl, rfl, rfl, Nat.le_refl _, fun _ _ _ => rfl⟩, .inl rfl⟩
  ·obtain ⟨b, o', hA, _⟩ := hr 0 h0
   subst hA; have hr' := fun hc => run_append_row (P := Try.prog) w 46 o.type 2 i _ 1 8 Try.underlying46 hi hi2.1 hi2.2.1 hi2.2.2 rfl _ n xs hown ⟨b, o', none⟩ l.length c (nums l) (by simp [nums]) hc (nums_oneCell l) h0 (Nat.le_trans hl (by decide)) (by omega)
   refine hr' fun j u hu => ?_
   have hj : j < l.length := by have := (List.getElem?_eq_some_iff.1 hu).1; simpa [nums] using this
   obtain ⟨b2, o2, e, hc⟩ := hr j hj; simp only [Option.some.injEq, Addr.mk.injEq] at e
   obtain ⟨e1, e2, _⟩ := e; subst e1; subst e2
   have hadd : (⟨b, o', none⟩ : Addr).add j = ⟨b, o' + j, none⟩ := by unfold Addr.add; split <;> simp_all
   rw [hadd, hc, ← hu]; simp [nums, hj]
 obtain ⟨v', w', hr, h2, h3, h4⟩ := hr; unfold Oper.wp execOp
 simp only [ho, resolve, invoke, builtin, Sem.run_bind, Sem.run_pure, Result.andThen_ok, List.map_toArray, List.map_cons, List.map_nil, hs, hx, hr]
 exact hK _ _ (h v' w' h2 h3 h4)
theorem results_cellTmp {P : Program} {fn : Func} {t s : Tmp} {ty : TypeId} {d : TypeDesc} (h : fn.results = #[.cell t ty, .tmp s]) (tmps : Array Value) (w : World) (b : Nat) (cs : List Value) (v : Value) (ht : tmps.getD t undef = .pointer (some ⟨b, 0, none⟩)) (hs : tmps.getD s undef = v) (hc : w.rangeAt b 0 cs) (hu : P.underlying ty = some d) (hd : d.isRow = true) (hi : (P.info? ty).map (·.size) = some cs.length) :
  (results fn tmps).run P w = .ok (.tuple #[.agg cs.toArray, v]) w := by
 have ht' : tmps[t]?.getD undef = .pointer (some ⟨b, 0, none⟩) := by simpa using ht
 have hs' : tmps[s]?.getD undef = v := by simpa using hs
 simp [results, h, ht', hs', asAddr, run_loadVar_mid w b 0 ty cs d hc hu hd hi]
theorem rowSet {w : World} {e : TypeId} {z n : Nat} {v : Value} {xs : List Value} (h : Row w e z v n xs) {b i : Nat} {u : Value} (hb : v.ownBlock ≠ some b) : Row (w.setCell ⟨b, i, none⟩ u) e z v n xs := h.keep fun g hg => Below.heap_setCell _ _ _ _ (fun e1 => hb (by rw [hg, e1]))
theorem startS_sz (mem : List Int) (n i k : Int) : szE (startS mem n i k) := ⟨by simp [startS], by simp [startS], by simp [startS], by simp [startS]⟩
set_option maxRecDepth 100000 in
set_option maxHeartbeats 8000000 in
theorem run_calls (W : World) (ss : List Stmt) (A : Option Addr) (c : Nat) (hrd : Stmt.rds W ss A 0) (hnl : Stmt.nodesL ss ≤ 1000000000) (L : Int) (mem : List Int) (AM : Option Addr) (cM : Nat) (n i k B : Int) (w : World) (hB : Below W.heap.size W w) (hm : numRow w mem AM) (hml : mem.length ≤ maxLen) :
  Calls Try.prog 22 #[.slice A ss.length c, .int .i64 L, .agg #[.slice AM mem.length cM, .int .i64 n, .int .i64 i, .int .i64 k], .int .i64 B] w (RunK ss L mem n i k B w) := by
 unfold maxLen at hml; have hz1 : (w.alloc (.cells #[.slice AM mem.length cM, .int .i64 n, .int .i64 i, .int .i64 k] 48)).heap.size = w.heap.size + 1 := size_al _ _
 have hx0 := blk_alloc (blk_new w (.cells #[.slice AM mem.length cM, .int .i64 n, .int .i64 i, .int .i64 k] 48)) (.cells #[.slice none 0 0, .slice none 0 0, .slice none 0 0, .int .i64 0, .int .i64 0, .int .i64 0] 55); have hx1 := blk_new (w.alloc (.cells #[.slice AM mem.length cM, .int .i64 n, .int .i64 i, .int .i64 k] 48)) (.cells #[.slice none 0 0, .slice none 0 0, .slice none 0 0, .int .i64 0, .int .i64 0, .int .i64 0] 55); have hb : Below w.heap.size w ((w.alloc (.cells #[.slice AM mem.length cM, .int .i64 n, .int .i64 i, .int .i64 k] 48)).alloc (.cells #[.slice none 0 0, .slice none 0 0, .slice none 0 0, .int .i64 0, .int .i64 0, .int .i64 0] 55)) := ((Below.refl w.heap.size w).al).al
 rw [hz1] at hx1; obtain ⟨w0, hw0⟩ : ∃ x, (w.alloc (.cells #[.slice AM mem.length cM, .int .i64 n, .int .i64 i, .int .i64 k] 48)).alloc (.cells #[.slice none 0 0, .slice none 0 0, .slice none 0 0, .int .i64 0, .int .i64 0, .int .i64 0] 55) = x := ⟨_, rfl⟩
 rw [hw0] at hx0 hx1 hb; have HRI := Lib.hid (right_is W ss A c hrd hnl w0 (hB.trans (hb.mono hB.size))); have HSL := Lib.hid (fun w1 (h1 : Below w0.heap.size w0 w1) => slots_calls W ss A c L hrd hnl w1 (hB.trans ((hb.trans (h1.mono hb.size)).mono hB.size)))
 have HX0 := Lib.hid hx0; have HX1 := Lib.hid hx1; have HB := Lib.hid hb; have HW := Lib.hid hw0; have HBW := Lib.hid hB; have HM := Lib.hid (hm.below hb); have HRD := Lib.hid hrd; have HNL := Lib.hid hnl; clear hx0 hx1 hb hw0 hB hm hrd hnl hz1; by_cases hr : rightP nameB ss = false
 ·have HQ := Lib.hid (show runErr ss L mem.length B = 43 by simp [runErr, hr])
  have HR := Lib.hid hr; clear hr; go_enter Try.func22, Try.ntmps22
  go_wp2_with fail; rw [HW.out]; refine HRI.out.mono ?_; rintro y w1 ⟨rfl, hb1⟩; have HB1 := Lib.hid (HB.out.trans (hb1.mono HB.out.size)); have hx := below_blk hb1 HX1.out (blk_lt HX1.out); rw [HR.out]; have f0 := blk_cell hx 0; have f1 := blk_cell hx 1; have f2 := blk_cell hx 2; have f3 := blk_cell hx 3; have f4 := blk_cell hx 4; have f5 := blk_cell hx 5; have ff := blk_free hx; go_wp2; refine bodyPost_ret (results_cellTmp rfl _ _ (w.heap.size + 1) [.slice none 0 0, .slice none 0 0, .slice none 0 0, .int .i64 0, .int .i64 0, .int .i64 0] _ (by rfl) (by rfl) (range_at (blk_set (blk_set (blk_set (blk_set (blk_set (blk_set hx 0 _) 1 _) 2 _) 3 _) 4 _) 5 _) 0 [.slice none 0 0, .slice none 0 0, .slice none 0 0, .int .i64 0, .int .i64 0, .int .i64 0] rfl) rfl rfl (by kernel_rfl)) rfl ?_
  refine ⟨?_, ?_⟩
  ·repeat (refine Below.setCell ?_ (by simp) _)
   exact HB1.out
  ·rw [if_neg (by rw [HQ.out]; decide), HQ.out]
   rfl
 have hr : rightP nameB ss = true := by simpa using hr
 have HR := Lib.hid hr; have HRB := Lib.hid (show Stmt.rightsB nameB 0 ss = true by unfold rightP at hr; rw [Bool.and_eq_true] at hr; exact hr.1)
 have hlen : ss.length ≤ 1000000000 := Nat.le_trans (Stmt.nodesL_len ss) HNL.out
 by_cases hs : (slotsP ss L).2 = 0
 ·have HS := Lib.hid hs
  clear hs; by_cases h64 : 64 < mem.length
  ·have HQ := Lib.hid (show runErr ss L mem.length B = 130 by simp [runErr, hr, HS.out, h64])
   clear hr; go_enter Try.func22, Try.ntmps22
   go_wp2_with fail; rw [HW.out]; refine HRI.out.mono ?_; rintro y w1 ⟨rfl, hb1⟩; have HB01 := Lib.hid hb1; rw [HR.out]; clear hb1; go_wp2_with fail; refine (HSL.out w1 HB01.out).mono ?_; rintro y w2 ⟨v, rfl, _, hb2⟩; have HB12 := Lib.hid (HB01.out.trans (hb2.mono HB01.out.size)); have HB2 := Lib.hid (HB.out.trans (HB12.out.mono HB.out.size)); clear hb2; rw [HS.out]; have hx0 := blk_cell (below_blk HB12.out HX0.out (blk_lt HX0.out)) 0; have hx := below_blk HB12.out HX1.out (blk_lt HX1.out); have f0 := blk_cell hx 0; have f1 := blk_cell hx 1; have f2 := blk_cell hx 2; have f3 := blk_cell hx 3; have f4 := blk_cell hx 4
   have f5 := blk_cell hx 5; have ff := blk_free hx; go_wp2; refine bodyPost_ret (results_cellTmp rfl _ _ (w.heap.size + 1) [.slice none 0 0, .slice none 0 0, .slice none 0 0, .int .i64 0, .int .i64 0, .int .i64 0] _ (by rfl) (by rfl) (range_at (blk_set (blk_set (blk_set (blk_set (blk_set (blk_set hx 0 _) 1 _) 2 _) 3 _) 4 _) 5 _) 0 [.slice none 0 0, .slice none 0 0, .slice none 0 0, .int .i64 0, .int .i64 0, .int .i64 0] rfl) rfl rfl (by kernel_rfl)) rfl ?_
   refine ⟨?_, ?_⟩
   ·repeat (refine Below.setCell ?_ (by simp) _)
    exact HB2.out
   ·rw [if_neg (by rw [HQ.out]; decide), HQ.out]
    rfl
  ·by_cases hbd : B < 0 ∨ 1000000 < B
   ·have HQ := Lib.hid (show runErr ss L mem.length B = 110 by simp [runErr, hr, HS.out, h64, hbd])
    clear hr; go_enter Try.func22, Try.ntmps22
    go_wp2_with fail; rw [HW.out]; refine HRI.out.mono ?_; rintro y w1 ⟨rfl, hb1⟩; have HB01 := Lib.hid hb1; rw [HR.out]; clear hb1; go_wp2_with fail; refine (HSL.out w1 HB01.out).mono ?_; rintro y w2 ⟨v, rfl, _, hb2⟩; have HB12 := Lib.hid (HB01.out.trans (hb2.mono HB01.out.size)); have HB2 := Lib.hid (HB.out.trans (HB12.out.mono HB.out.size)); clear hb2; rw [HS.out]; have hx0 := blk_cell (below_blk HB12.out HX0.out (blk_lt HX0.out)) 0; have hx := below_blk HB12.out HX1.out (blk_lt HX1.out); rcases hbd with hbd | hbd
    ·have f0 := blk_cell hx 0
     have f1 := blk_cell hx 1; have f2 := blk_cell hx 2; have f3 := blk_cell hx 3; have f4 := blk_cell hx 4; have f5 := blk_cell hx 5; have ff := blk_free hx; go_wp2; refine bodyPost_ret (results_cellTmp rfl _ _ (w.heap.size + 1) [.slice none 0 0, .slice none 0 0, .slice none 0 0, .int .i64 0, .int .i64 0, .int .i64 0] _ (by rfl) (by rfl) (range_at (blk_set (blk_set (blk_set (blk_set (blk_set (blk_set hx 0 _) 1 _) 2 _) 3 _) 4 _) 5 _) 0 [.slice none 0 0, .slice none 0 0, .slice none 0 0, .int .i64 0, .int .i64 0, .int .i64 0] rfl) rfl rfl (by kernel_rfl)) rfl ?_
     refine ⟨?_, ?_⟩
     ·repeat (refine Below.setCell ?_ (by simp) _)
      exact HB2.out
     ·rw [if_neg (by rw [HQ.out]; decide), HQ.out]
      rfl
    ·have hb0 : ¬ B < 0 := by omega
     have f0 := blk_cell hx 0; have f1 := blk_cell hx 1; have f2 := blk_cell hx 2; have f3 := blk_cell hx 3; have f4 := blk_cell hx 4; have f5 := blk_cell hx 5; have ff := blk_free hx; go_wp2; refine bodyPost_ret (results_cellTmp rfl _ _ (w.heap.size + 1) [.slice none 0 0, .slice none 0 0, .slice none 0 0, .int .i64 0, .int .i64 0, .int .i64 0] _ (by rfl) (by rfl) (range_at (blk_set (blk_set (blk_set (blk_set (blk_set (blk_set hx 0 _) 1 _) 2 _) 3 _) 4 _) 5 _) 0 [.slice none 0 0, .slice none 0 0, .slice none 0 0, .int .i64 0, .int .i64 0, .int .i64 0] rfl) rfl rfl (by kernel_rfl)) rfl ?_
     refine ⟨?_, ?_⟩
     ·repeat (refine Below.setCell ?_ (by simp) _)
      exact HB2.out
     ·rw [if_neg (by rw [HQ.out]; decide), HQ.out]
      rfl
   ·have HQ := Lib.hid (show runErr ss L mem.length B = 0 by simp [runErr, hr, HS.out, h64, hbd])
    clear hr; go_enter Try.func22, Try.ntmps22
    go_wp2_with fail; rw [HW.out]; refine HRI.out.mono ?_; rintro y w1 ⟨rfl, hb1⟩; have HB01 := Lib.hid hb1; rw [HR.out]; clear hb1; go_wp2_with fail; refine (HSL.out w1 HB01.out).mono ?_; rintro y w2 ⟨v, rfl, _, hb2⟩; have HB12 := Lib.hid (HB01.out.trans (hb2.mono HB01.out.size)); have HB2 := Lib.hid (HB.out.trans (HB12.out.mono HB.out.size)); clear hb2; rw [HS.out]; have hx0 := blk_cell (below_blk HB12.out HX0.out (blk_lt HX0.out)) 0; have hb0 : ¬ B < 0 := by omega
    have hb1 : ¬ B > 1000000 := by omega
    have g1 := fun o o' => ((((Below.refl w2.heap.size w2).al (o := o)).al (o := o'))).cellOf (show w2.cell? ⟨w.heap.size, 1, none⟩ = some (.int .i64 n) from blk_cell (below_blk HB12.out HX0.out (blk_lt HX0.out)) 1)
    have g2 := fun o o' => ((((Below.refl w2.heap.size w2).al (o := o)).al (o := o'))).cellOf (show w2.cell? ⟨w.heap.size, 2, none⟩ = some (.int .i64 i) from blk_cell (below_blk HB12.out HX0.out (blk_lt HX0.out)) 2)
    have g3 := fun o o' => ((((Below.refl w2.heap.size w2).al (o := o)).al (o := o'))).cellOf (show w2.cell? ⟨w.heap.size, 3, none⟩ = some (.int .i64 k) from blk_cell (below_blk HB12.out HX0.out (blk_lt HX0.out)) 3)
    have g4 := fun o o' o'' => (((((Below.refl w2.heap.size w2).al (o := o)).al (o := o')).al (o := o''))).cellOf (show w2.cell? ⟨w.heap.size, 0, none⟩ = some (.slice AM mem.length cM) from hx0)
    have hbp := blk_alloc (blk_alloc (blk_new w2 (.cells (mCells (.slice (some ⟨w2.heap.size + 1, 0, none⟩) 3 3) (.slice (some ⟨w2.heap.size + 1 + 1, 0, none⟩) 3 3) (.slice none 0 0) (.slice none 0 0) (.slice none 0 0) 0 B) 91)) (.cells #[.string ⟨#[110]⟩, .string ⟨#[105]⟩, .string ⟨#[107]⟩] 9)) (.cells #[.int .i64 n, .int .i64 i, .int .i64 k] 2); have HMW := Lib.hid ((HM.out.below HB12.out).below ((((Below.refl w2.heap.size w2).al (o := (.cells (mCells (.slice (some ⟨w2.heap.size + 1, 0, none⟩) 3 3) (.slice (some ⟨w2.heap.size + 1 + 1, 0, none⟩) 3 3) (.slice none 0 0) (.slice none 0 0) (.slice none 0 0) 0 B) 91))).al (o := (.cells #[.string ⟨#[110]⟩, .string ⟨#[105]⟩, .string ⟨#[107]⟩] 9))).al (o := (.cells #[.int .i64 n, .int .i64 i, .int .i64 k] 2))))
    have HBP := Lib.hid hbp; clear hbp; go_wp2_with (at_builtin; go_must (refine wpList_append_nums _ rfl _ _ rfl (.slice none 0 0) 0 [] rfl (Row.nil _ _ _) mem AM cM rfl HMW.out (by omega) ?_); intro v3 w3 hr3 hg3 hn3; rw [Nat.zero_add, List.nil_append] at hr3; obtain ⟨A3, c3, hv3, _⟩ := hr3.slice; subst hv3; have hbm := grown_blk hg3 HBP.out (by simp [Value.ownBlock]); have p2 := blk_cell hbm 2; have pf := blk_free hbm; simp only [mCells] at p2)
    have hszz : w.heap.size ≤ w2.heap.size := HB2.out.size
    have hs1 : (w2.alloc (.cells (mCells (.slice (some ⟨w2.heap.size + 1, 0, none⟩) 3 3) (.slice (some ⟨w2.heap.size + 1 + 1, 0, none⟩) 3 3) (.slice none 0 0) (.slice none 0 0) (.slice none 0 0) 0 B) 91)).heap.size = w2.heap.size + 1 := size_al _ _
    have hs2 : ((w2.alloc (.cells (mCells (.slice (some ⟨w2.heap.size + 1, 0, none⟩) 3 3) (.slice (some ⟨w2.heap.size + 1 + 1, 0, none⟩) 3 3) (.slice none 0 0) (.slice none 0 0) (.slice none 0 0) 0 B) 91)).alloc (.cells #[.string ⟨#[110]⟩, .string ⟨#[105]⟩, .string ⟨#[107]⟩] 9)).heap.size = w2.heap.size + 1 + 1 := by rw [size_al, size_al]
    have hs3 : (((w2.alloc (.cells (mCells (.slice (some ⟨w2.heap.size + 1, 0, none⟩) 3 3) (.slice (some ⟨w2.heap.size + 1 + 1, 0, none⟩) 3 3) (.slice none 0 0) (.slice none 0 0) (.slice none 0 0) 0 B) 91)).alloc (.cells #[.string ⟨#[110]⟩, .string ⟨#[105]⟩, .string ⟨#[107]⟩] 9)).alloc (.cells #[.int .i64 n, .int .i64 i, .int .i64 k] 2)).heap.size = w2.heap.size + 1 + 1 + 1 := by rw [size_al, size_al, size_al]
    have hrn := (Row.laid (w := w2.alloc (.cells (mCells (.slice (some ⟨w2.heap.size + 1, 0, none⟩) 3 3) (.slice (some ⟨w2.heap.size + 1 + 1, 0, none⟩) 3 3) (.slice none 0 0) (.slice none 0 0) (.slice none 0 0) 0 B) 91)) (g := w2.heap.size + 1) (n := 3) (cs := #[.string ⟨#[110]⟩, .string ⟨#[105]⟩, .string ⟨#[107]⟩]) (e := 9) (size := 1) hs1 rfl (by decide)).alloc (.cells #[.int .i64 n, .int .i64 i, .int .i64 k] 2)
    have hrv := Row.laid (w := (w2.alloc (.cells (mCells (.slice (some ⟨w2.heap.size + 1, 0, none⟩) 3 3) (.slice (some ⟨w2.heap.size + 1 + 1, 0, none⟩) 3 3) (.slice none 0 0) (.slice none 0 0) (.slice none 0 0) 0 B) 91)).alloc (.cells #[.string ⟨#[110]⟩, .string ⟨#[105]⟩, .string ⟨#[107]⟩] 9)) (g := w2.heap.size + 1 + 1) (n := 3) (cs := #[.int .i64 n, .int .i64 i, .int .i64 k]) (e := 2) (size := 1) hs2 rfl (by decide)
    have hrn3 := hrn.keep fun q hq => hg3.block q (hrn.lt hq) (by simp [Value.ownBlock])
    have hrv3 := hrv.keep fun q hq => hg3.block q (hrv.lt hq) (by simp [Value.ownBlock])
    have how : ∀ q, (Value.slice A3 mem.length c3).ownBlock = some q → q = w2.heap.size + 1 + 1 + 1 := fun q hq => by
     rcases hn3 with e | e
     ·rw [hq] at e; simp [Value.ownBlock] at e
     ·rw [hq] at e; exact (Option.some.inj e).trans hs3
    have hat : EvAt (w3.setCell ⟨w2.heap.size, 2, none⟩ (.slice A3 mem.length c3)) w2.heap.size w.heap.size B (startS mem n i k) (.slice (some ⟨w2.heap.size + 1, 0, none⟩) 3 3) (.slice (some ⟨w2.heap.size + 1 + 1, 0, none⟩) 3 3) (.slice A3 mem.length c3) (.slice none 0 0) (.slice none 0 0) := by
     refine ⟨blk_set hbm 2 _, rowSet hrn3 ?_, rowSet hrv3 ?_, rowSet hr3 ?_, Row.nil _ _ _, Row.nil _ _ _, ?_, ?_, ?_, ?_, ?_, ?_, ?_, ?_, ?_, rfl⟩
     ·simp [Value.ownBlock]
     ·simp [Value.ownBlock]; omega
     ·exact fun e => by have := how _ e; omega
     ·intro q hq; simp [Value.ownBlock] at hq; omega
     ·intro q hq; simp [Value.ownBlock] at hq; omega
     ·intro q hq; have := how _ hq; omega
     ·intro q hq; simp [Value.ownBlock] at hq
     ·intro q hq; simp [Value.ownBlock] at hq
     ·intro q hq hq'; have := how _ hq'; simp [Value.ownBlock] at hq; omega
     ·intro q hq hq'; simp [Value.ownBlock] at hq'
     ·intro q hq hq'; simp [Value.ownBlock] at hq'
     ·omega
    have hb3 : Below w.heap.size w (w3.setCell ⟨w2.heap.size, 2, none⟩ (.slice A3 mem.length c3)) := by
     have h3 : Keep (fun _ => False) w2 w3 := ((((Keep.refl _ w2).alloc _).alloc _).alloc _).grown hg3 (fun q hq => by simp [Value.ownBlock] at hq)
     exact (HB2.out.trans (h3.toBelow (by omega) (fun _ h => h.elim))).setCell (by show w.heap.size ≤ w2.heap.size; omega) _
    have hef : (w3.setCell ⟨w2.heap.size, 2, none⟩ (.slice A3 mem.length c3)).heap[w.heap.size + 1]? = some (.cells #[.slice none 0 0, .slice none 0 0, .slice none 0 0, .int .i64 0, .int .i64 0, .int .i64 0] 55) := by
     have hl := blk_lt (below_blk HB12.out HX1.out (blk_lt HX1.out)); exact blk_far (grown_blk hg3 (blk_alloc (blk_alloc (blk_alloc (below_blk HB12.out HX1.out (blk_lt HX1.out)) _) _) _) (by simp [Value.ownBlock])) (by show w.heap.size + 1 ≠ w2.heap.size; omega) _
    refine (whole_calls w w2.heap.size w.heap.size B (Nat.le_refl _) (by omega) ss A c 0 (Stmt.rds_keep HBW.out HRD.out) HNL.out HRB.out (startS mem n i k) _ (startS_sz mem n i k) (show (0 : Int) ≤ B by omega) hb3 ⟨_, _, _, _, _, hat⟩).mono ?_
    rintro y w4 ⟨rfl, S, o, M, O, I, hd, hf, ho⟩; have hx := hf.boxes _ (_, 2) hef; have HB4 := Lib.hid (hb3.trans hf.below); have HD := Lib.hid hd; have HO := Lib.hid ho; obtain ⟨N9, V9, B9, hb9⟩ := ho.blk; obtain ⟨A5, c5, hM, _⟩ := ho.mem.slice; obtain ⟨A6, c6, hO, _⟩ := ho.outs.slice; obtain ⟨A7, c7, hI, _⟩ := ho.intos.slice; subst hM; subst hO; subst hI
    have e2 := blk_cell hb9 2; have e3 := blk_cell hb9 3; have e4 := blk_cell hb9 4; have e5 := blk_cell hb9 5; have e6 := blk_cell hb9 6; have e7 := blk_cell hb9 7; simp only [oCells] at e2 e3 e4 e5 e6 e7
    have f0 := blk_cell hx 0; have f1 := blk_cell hx 1; have f2 := blk_cell hx 2; have f3 := blk_cell hx 3; have f4 := blk_cell hx 4; have f5 := blk_cell hx 5; have ff := blk_free hx; have HX := Lib.hid hx; clear hx hef hb3 hat how hrn hrv hrn3 hrv3 hs1 hs2 hs3 hd hf ho hb9 p2 pf hbm hr3 hg3 hn3; go_wp2; refine bodyPost_ret (results_cellTmp rfl _ _ (w.heap.size + 1) [.slice A5 S.mem.length c5, .slice A6 S.outs.length c6, .slice A7 S.intos.length c7, .int .i64 (howE o).1, .int .i64 (howE o).2, .int .i64 S.ticks] _ (by rfl) (by rfl) (range_at (blk_set (blk_set (blk_set (blk_set (blk_set (blk_set HX.out 0 _) 1 _) 2 _) 3 _) 4 _) 5 _) 0 [.slice A5 S.mem.length c5, .slice A6 S.outs.length c6, .slice A7 S.intos.length c7, .int .i64 (howE o).1, .int .i64 (howE o).2, .int .i64 S.ticks] rfl) rfl rfl (by kernel_rfl)) rfl ?_
    refine ⟨?_, ?_⟩
    ·repeat (refine Below.setCell ?_ (by simp) _)
     exact HB4.out
    ·rw [if_pos HQ.out]
     have hne6 : ∀ {v : Value} {z n : Nat} {ty : TypeId} {xs : List Value}, Row w4 ty z v n xs → ty ≠ 55 → v.ownBlock ≠ some (w.heap.size + 1) := fun hr hne => hr.ne HX.out hne
     have s6 : ∀ {v : Value} {z n : Nat} {ty : TypeId} {xs : List Value} {u0 u1 u2 u3 u4 u5 : Value}, Row w4 ty z v n xs → ty ≠ 55 → Row ((((((w4.setCell ⟨w.heap.size + 1, 0, none⟩ u0).setCell ⟨w.heap.size + 1, 1, none⟩ u1).setCell ⟨w.heap.size + 1, 2, none⟩ u2).setCell ⟨w.heap.size + 1, 3, none⟩ u3).setCell ⟨w.heap.size + 1, 4, none⟩ u4).setCell ⟨w.heap.size + 1, 5, none⟩ u5) ty z v n xs := fun hr hne =>
      rowSet (rowSet (rowSet (rowSet (rowSet (rowSet hr (hne6 hr hne)) (hne6 hr hne)) (hne6 hr hne)) (hne6 hr hne)) (hne6 hr hne)) (hne6 hr hne)
     exact ⟨S, o, _, _, _, HD.out, ⟨s6 HO.out.mem (by decide), s6 HO.out.outs (by decide), s6 HO.out.intos (by decide), HO.out.fm, HO.out.fo, HO.out.fi, HO.out.mo⟩, rfl⟩
 ·have HQ := Lib.hid (show runErr ss L mem.length B = (slotsP ss L).2 by simp [runErr, hr, hs])
  have HS := Lib.hid hs; have hs' : ((slotsP ss L).2 != 0) = true := by simpa using hs
  clear hr hs; go_enter Try.func22, Try.ntmps22
  go_wp2_with fail; rw [HW.out]; refine HRI.out.mono ?_; rintro y w1 ⟨rfl, hb1⟩; have HB01 := Lib.hid hb1; rw [HR.out]; clear hb1; go_wp2_with fail; refine (HSL.out w1 HB01.out).mono ?_; rintro y w2 ⟨v, rfl, _, hb2⟩; have HB12 := Lib.hid (HB01.out.trans (hb2.mono HB01.out.size)); have HB2 := Lib.hid (HB.out.trans (HB12.out.mono HB.out.size)); clear hb2; have hx := below_blk HB12.out HX1.out (blk_lt HX1.out); have f0 := blk_cell hx 0; have f1 := blk_cell hx 1; have f2 := blk_cell hx 2; have f3 := blk_cell hx 3; have f4 := blk_cell hx 4; have f5 := blk_cell hx 5; have ff := blk_free hx; go_wp2; refine bodyPost_ret (results_cellTmp rfl _ _ (w.heap.size + 1) [.slice none 0 0, .slice none 0 0, .slice none 0 0, .int .i64 0, .int .i64 0, .int .i64 0] _ (by rfl) (by rfl) (range_at (blk_set (blk_set (blk_set (blk_set (blk_set (blk_set hx 0 _) 1 _) 2 _) 3 _) 4 _) 5 _) 0 [.slice none 0 0, .slice none 0 0, .slice none 0 0, .int .i64 0, .int .i64 0, .int .i64 0] rfl) rfl rfl (by kernel_rfl)) rfl ?_
  refine ⟨?_, ?_⟩
  ·repeat (refine Below.setCell ?_ (by simp) _)
   exact HB2.out
  ·rw [if_neg (by rw [HQ.out]; exact HS.out), HQ.out]
   rfl
end Go.Proofs.Ytjlnpppjkdcpkaa.My
