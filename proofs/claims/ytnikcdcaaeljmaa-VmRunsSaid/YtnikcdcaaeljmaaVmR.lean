/- A run of instructions on a memory of its own. Conditions: the text and the memory were there in the world W, which is kept. -/
import Derived.Test.YtnikcdcaaeljmaaVmG
import Derived.Test.YtnikcdcaaeljmaaOpen
import Derived.Deep.AppendLies
import Derived.Deep.RegionLaw
namespace Go.Proofs.Ytnikcdcaaeljmaa.My
open Go.RowKit Go.Proofs.Ytnikcdcaaeljmaa.NumA
set_option linter.unusedVariables false
set_option linter.unusedSimpArgs false
/-- steps, till it is over, so many at most -/
def runN (l : List Ins) (words fuel : Int) : Nat → St → Eff → St × Eff
  | 0, s, e => (s, e)
  | m + 1, s, e => if s.over = 0 then runN l words fuel m (stepS l words fuel s (giveS e (wantS l words fuel s).1 (wantS l words fuel s).2.1 (wantS l words fuel s).2.2).2) (giveS e (wantS l words fuel s).1 (wantS l words fuel s).2.1 (wantS l words fuel s).2.2).1 else (s, e)
/-- a run's end -/
def runEnd (l : List Ins) (fuel : Int) (mem : List Int) (n i k : Int) : St × Eff := runN l mem.length fuel (fuel.toNat + 1) (s0 n i k) ⟨mem, [], []⟩
def zeroE : Array Value := #[.slice none 0 0, .slice none 0 0, .slice none 0 0, .int .i64 0, .int .i64 0, .int .i64 0]
def RunOK (w : World) (l : List Ins) (cells fuel : Int) (g : List Int) (n i k : Int) (E : Ending) (w' : World) : Prop :=
  Below w.heap.size w w' ∧ if newE l cells g.length fuel = 0 then ∃ M O I, E = .returned (.tuple #[.agg #[M, O, I, .int .i64 (runEnd l fuel g n i k).1.over, .int .i64 (runEnd l fuel g n i k).1.value, .int .i64 (runEnd l fuel g n i k).1.steps], .int .i64 0]) ∧
      Row w' 2 1 M (runEnd l fuel g n i k).2.mem.length (nums (runEnd l fuel g n i k).2.mem) ∧ Row w' 2 1 O (runEnd l fuel g n i k).2.outs.length (nums (runEnd l fuel g n i k).2.outs) ∧ Row w' 96 2 I (runEnd l fuel g n i k).2.intos.length (intoCells (runEnd l fuel g n i k).2.intos)
    else E = .returned (.tuple #[.agg zeroE, .int .i64 (newE l cells g.length fuel)])
theorem giveS_len (e : Eff) (k a v : Int) : (giveS e k a v).1.mem.length = e.mem.length ∧ (giveS e k a v).1.outs.length + (giveS e k a v).1.intos.length ≤ e.outs.length + e.intos.length + 1 := by
  unfold giveS; (repeat' split) <;> simp <;> omega
theorem insideB_iff {a w : Int} (h : insideB a w = true) : 0 ≤ a ∧ a < w := by simpa [insideB] using h
theorem okWant_want (l : List Ins) (words fuel : Int) (s : St) (e : Eff) (h : (e.mem.length : Int) = words) : okWant e (wantS l words fuel s).1 (wantS l words fuel s).2.1 := by
  unfold wantS
  split
  · generalize l.getD s.at0.toNat default = x
    unfold wantX okWant
    split
    · split
      · rename_i hi; have := insideB_iff hi; exact .inr (.inl ⟨.inl rfl, this.1, by simp only; omega⟩)
      · exact .inl rfl
    split
    · split
      · rename_i hi; have := insideB_iff hi; exact .inr (.inl ⟨.inr rfl, this.1, by simp only; omega⟩)
      · exact .inl rfl
    split
    · exact .inr (.inr (.inl rfl))
    split
    · exact .inr (.inr (.inr rfl))
    exact .inl rfl
  · exact .inl rfl
theorem steps_if {c : Prop} [Decidable c] {a b : St} {n : Int} (ha : a.steps = n) (hb : b.steps = n) : (if c then a else b).steps = n := by
  by_cases h : c
  · rw [if_pos h]; exact ha
  · rw [if_neg h]; exact hb
theorem doS_steps (words : Int) (s : St) (x : Ins) (got : Int) : (doS words s x got).steps = s.steps := by
  unfold doS memS branchS reckonS
  repeat' first | rfl | apply steps_if
theorem step_steps {l : List Ins} {words fuel : Int} {s : St} (h0 : s.over = 0) (h1 : s.steps ≠ fuel) (got : Int) : (stepS l words fuel s got).steps = s.steps + 1 := by
  unfold stepS; rw [if_pos h0, if_neg h1]; exact doS_steps words _ _ got
theorem Mach.keepS {w w' : World} {p : Nat} {l : List Ins} {words fuel : Int} {first : List Value} {s : St} {Ac : Option Addr} {cc : Nat} (h : Mach w p l words fuel first s Ac cc) {S : Nat → Prop} (k : Keep S w w') (hp : ∀ q, q ≤ p → ¬ S q) : Mach w' p l words fuel first s Ac cc :=
  ⟨h.vm.far k (hp p (Nat.le_refl _)), h.row.far k (fun b o hb => hp b (Nat.le_of_lt (h.ne b o hb))), h.ne, h.good, h.ok, h.fuel⟩
theorem start_fin {w1 w2 w' : World} {g : List Int} {A' : Option Addr} {c' : Nat} (hx : w2.heap[w1.heap.size]? = some (.cells zeroE 93 (0, 0))) (hB : Below w1.heap.size w1 w2)
    (hg : w2.grownBy w' none) (hr : Row w' 2 1 (.slice A' g.length c') g.length (nums g)) (ho : (Value.slice A' g.length c').ownBlock = none ∨ (Value.slice A' g.length c').ownBlock = some w2.heap.size) :
    EffAt (w'.setCell ⟨w1.heap.size, 0, none⟩ (.slice A' g.length c')) w1.heap.size w1.heap.size ⟨g, [], []⟩ (.slice A' g.length c') (.slice none 0 0) (.slice none 0 0) := by
  have hbb := grown_blk hg hx (by simp)
  have hlt := blk_lt hx
  refine ⟨blk_set hbb 0 _, hr.far (fun _ _ => rfl) (hr.ne hbb (by decide)), Row.nil _ _ _, Row.nil _ _ _, ?_, fun q hq => by simp [Value.ownBlock] at hq, fun q hq => by simp [Value.ownBlock] at hq, fun q _ hq => by simp [Value.ownBlock] at hq, Nat.le_refl _⟩
  intro q hq
  rcases ho with e | e
  · rw [hq] at e; cases e
  · rw [hq] at e; have := Option.some.inj e; omega
/-- append of numbers onto nothing -/
theorem run_append_nums (w : World) (ty : TypeId) (l : List Int) (A : Option Addr) (c : Nat) (hrd : numRow w l A) (hl : l.length ≤ 100000000) :
    ∃ v' w', (Builtin.append_ #[25, 25] ty #[.slice none 0 0, .slice A l.length c]).run Try.prog w = .ok v' w' ∧ Row w' 2 1 v' l.length (nums l) ∧ w.grownBy w' none ∧ (v'.ownBlock = none ∨ v'.ownBlock = some w.heap.size) := by
  obtain ⟨i, hi, hi2⟩ := Option.map_eq_some_iff.mp info_i64
  simp only [Prod.mk.injEq] at hi2
  have hnl : (nums l).length = l.length * 1 := by simp [nums]
  rcases Nat.eq_zero_or_pos l.length with h0 | h0
  · have hn : nums l = [] := List.eq_nil_of_length_eq_zero (by omega)
    rw [h0, hn]
    exact ⟨_, w, run_append_nothing w _ _ _ 2 i Try.underlying25 hi none 0 0 (Nat.le_refl _) _ (by cases A with | none => exact Src.ofNil w Try.underlying25 c | some a => exact Src.ofSlice w Try.underlying25 a 0 c [] (by simp) (by simp) (by simp)), Row.nil _ _ _, ⟨rfl, rfl, rfl, Nat.le_refl _, fun _ _ _ => rfl⟩, .inl rfl⟩
  · obtain ⟨b, o', hA, _⟩ := hrd 0 h0
    subst hA
    have hcell : ∀ j u, (nums l)[j]? = some u → w.cell? ((⟨b, o', none⟩ : Addr).add j) = some u := fun j u hu => by
      have hj : j < l.length := by have := (List.getElem?_eq_some_iff.1 hu).1; simpa [nums] using this
      obtain ⟨b', o'', h1, h2⟩ := hrd j hj
      have h3 : b = b' := congrArg Addr.block (Option.some.inj h1)
      have h4 : o' = o'' := congrArg Addr.off (Option.some.inj h1)
      subst h3; subst h4
      have hadd : (⟨b, o', none⟩ : Addr).add j = ⟨b, o' + j, none⟩ := by unfold Addr.add; split <;> simp_all
      rw [hadd, h2]
      have : (nums l)[j]? = some (.int .i64 l[j]) := by simp [nums, hj]
      rw [this] at hu; exact hu
    have hr := run_append_row (P := Try.prog) w 25 ty 2 i _ 1 8 Try.underlying25 hi hi2.1 hi2.2.1 hi2.2.2 rfl (.slice none 0 0) 0 [] (Row.nil _ _ _) ⟨b, o', none⟩ l.length c (nums l) hnl hcell (by intro u hu; obtain ⟨v, _, rfl⟩ := List.mem_map.1 hu; rfl) h0 (by unfold maxLen; omega) (by omega)
    simpa [Value.ownBlock] using hr
theorem step_append_nums {w : World} {ops : Array Oper} {o : Oper} {a : Act} {K : Act → World → Prop} {Q : Exit → Act → World → Prop} {E : Prop} (hgd : o.guard = none) (s x : Operand)
    (ho : o.op = .call { callee := .builtin .append, args := #[s, x], argTypes := #[25, 25] }) (l : List Int) (A : Option Addr) (c : Nat) (hrd : numRow w l A) (hl : l.length ≤ 100000000)
    (hs : a.eval s = .slice none 0 0) (hx : a.eval x = .slice A l.length c)
    (h : ∀ v' w', Row w' 2 1 v' l.length (nums l) → w.grownBy w' none → (v'.ownBlock = none ∨ v'.ownBlock = some w.heap.size) → K (a.put o.dst v') w') :
    if Region.wanted o (yielded ops a.tmps) = true then Oper.wp Try.prog o a w K Q else E := by
  have hw : Region.wanted o (yielded ops a.tmps) = true := by simp [Region.wanted, hgd]
  rw [if_pos hw]
  obtain ⟨v', w', hr, h2, h3, h4⟩ := run_append_nums w o.type l A c hrd hl
  unfold Oper.wp execOp
  simp only [ho, resolve, invoke, builtin, Sem.run_bind, Sem.run_pure, Result.andThen_ok, List.map_toArray, List.map_cons, List.map_nil, hs, hx, hr]
  exact h v' w' h2 h3 h4
theorem numRow.there {W w : World} {l : List Int} {A : Option Addr} (h : numRow W l A) (hB : Below W.heap.size W w) {j : Nat} (hj : j < l.length) : ∃ b o, A = some ⟨b, o, none⟩ ∧ w.cell? ⟨b, o + j, none⟩ = some (.int .i64 l[j]) := by
  obtain ⟨b, o, hA, hc⟩ := h j hj
  exact ⟨b, o, hA, hB.cellOf hc⟩
theorem below_drew1' {B : Nat} {a w : World} (h : Below B a w) : Below B a w.drew := h.drew
theorem numRow.keep {w w' : World} {l : List Int} {A : Option Addr} (h : numRow w l A) (hB : Below w.heap.size w w') : numRow w' l A := fun j hj => h.there hB hj
set_option maxRecDepth 100000 in
set_option maxHeartbeats 4000000 in
theorem vmRun_calls (W : World) (l : List Ins) (A : Option Addr) (c : Nat) (cells fuel : Int) (g : List Int) (B : Option Addr) (gc : Nat) (n i k : Int) (hrd : insRow W l A) (hl : l.length ≤ 100000000) (hg : numRow W g B) (hgl : g.length ≤ 100000000) (w : World) (hB : Below W.heap.size W w) :
    Calls Try.prog 21 #[.slice A l.length c, .int .i64 cells, .int .i64 fuel, .agg #[.slice B g.length gc, .int .i64 n, .int .i64 i, .int .i64 k]] w (RunOK w l cells fuel g n i k) := by
  have HRD := Lib.hid hrd
  have HG := Lib.hid hg
  have HB := Lib.hid hB
  clear hrd hg hB
  by_cases hz : newE l cells g.length fuel = 0
  · have HZ := Lib.hid hz
    have hgd := newE_good hz
    obtain ⟨_, hw1, hw2, hf1, hf2⟩ := hgd
    clear hz
    go_enter Try.func21, Try.ntmps21
    go_wp2_with fail
    have hsz1 : (w.alloc (.cells #[.slice B g.length gc, .int .i64 n, .int .i64 i, .int .i64 k] 58)).heap.size = w.heap.size + 1 := size_al _ _
    have hbw : Below w.heap.size w ((w.alloc (.cells #[.slice B g.length gc, .int .i64 n, .int .i64 i, .int .i64 k] 58)).alloc (.cells zeroE 63)) := ((Below.refl w.heap.size w).al).al
    have hx0 := blk_alloc (blk_new w (.cells #[.slice B g.length gc, .int .i64 n, .int .i64 i, .int .i64 k] 58)) (.cells zeroE 63)
    have hx1 := blk_new (w.alloc (.cells #[.slice B g.length gc, .int .i64 n, .int .i64 i, .int .i64 k] 58)) (.cells zeroE 63)
    rw [hsz1] at hx1
    have hsz2 : ((w.alloc (.cells #[.slice B g.length gc, .int .i64 n, .int .i64 i, .int .i64 k] 58)).alloc (.cells zeroE 63)).heap.size = w.heap.size + 2 := by rw [size_al, hsz1]
    refine (vmNew_calls W l A c cells g.length fuel n i k HRD.out (by omega) _ (HB.out.trans (hbw.mono HB.out.size))).mono ?_
    intro e1 w1 hd
    obtain ⟨p, Ac, cc, rfl, hp, hb1, hm⟩ := Mach.new HZ.out hd
    rw [hsz2] at hp
    have hx0 := below_blk hb1 hx0 (blk_lt hx0)
    have hx1 := below_blk hb1 hx1 (blk_lt hx1)
    have hB1 := hbw.trans (hb1.mono hbw.size)
    clear hb1 hbw hd hsz1 hsz2
    have HX0 := Lib.hid hx0
    have HX1 := Lib.hid hx1
    have HM1 := Lib.hid hm
    have HB1 := Lib.hid hB1
    have HP := Lib.hid hp
    clear hx0 hx1 hm hB1 hp
    go_wp2
    have hx2 := blk_new w1 (.cells #[.slice none 0 0, .slice none 0 0, .slice none 0 0, .int .i64 0, .int .i64 0, .int .i64 0] 93)
    have hb2 : Below w1.heap.size w1 (w1.alloc (.cells #[.slice none 0 0, .slice none 0 0, .slice none 0 0, .int .i64 0, .int .i64 0, .int .i64 0] 93)) := (Below.refl w1.heap.size w1).al
    generalize w1.alloc (.cells #[.slice none 0 0, .slice none 0 0, .slice none 0 0, .int .i64 0, .int .i64 0, .int .i64 0] 93) = w2 at *
    have HX2 := Lib.hid hx2
    have HB2 := Lib.hid hb2
    have f0 : w2.cell? ⟨w1.heap.size, 0, none⟩ = some (.slice none 0 0) := blk_cell hx2 0
    have f1 : w2.cell? ⟨w.heap.size, 0, none⟩ = some (.slice B g.length gc) := hb2.cellOf (blk_cell HX0.out 0)
    clear hx2 hb2
    go_region_law (first | (refine step_append_nums (by rfl) _ _ (by rfl) g B gc (HG.out.keep ((HB.out.trans (HB1.out.mono HB.out.size)).trans ((below_drew1' HB2.out).mono (HB.out.trans (HB1.out.mono HB.out.size)).size))) hgl (by rfl) (by rfl) ?_; intro v' w' hrow hgrow hown; obtain ⟨A', c', hv', hc'⟩ := hrow.slice; subst hv'; have hbb := grown_blk (grown_undrew hgrow) HX2.out (by simp); have fb : w'.cell? ⟨w1.heap.size, 0, none⟩ = some (.slice none 0 0) := blk_cell hbb 0; have ff := blk_free hbb))
    all_goals
      have hE3 := start_fin HX2.out HB2.out (grown_undrew hgrow) hrow hown
      have hk3 : Keep (fun q => w1.heap.size ≤ q) w1 (w'.setCell ⟨w1.heap.size, 0, none⟩ (.slice A' g.length c')) := Keep.set (O := fun q => w1.heap.size ≤ q) (Keep.grown (Keep.below (Keep.refl _ w1) HB2.out) (grown_undrew hgrow) (fun k hk => by cases hk)) (p := ⟨w1.heap.size, 0, none⟩) (.inl (Nat.le_refl _)) _
      have hm3 := HM1.out.keepS hk3 (fun q hq h => by have := HM1.out.vm.lt; omega)
      have hx3 := hk3.blk HX1.out (by have := blk_lt HX1.out; omega)
      have hb3 : Below w.heap.size w (w'.setCell ⟨w1.heap.size, 0, none⟩ (.slice A' g.length c')) := HB1.out.trans (hk3.toBelow HB1.out.size (fun q hq => by have := HB1.out.size; omega))
      clear fb ff hbb f0 f1 hrow hgrow hown hk3
      generalize w'.setCell ⟨w1.heap.size, 0, none⟩ (.slice A' g.length c') = w3 at *
      have HE3 := Lib.hid hE3
      have HM3 := Lib.hid hm3
      have HX3 := Lib.hid hx3
      have HB3 := Lib.hid hb3
      have HPB := Lib.hid (HM1.out.vm.lt)
      have HBW := Lib.hid (HB1.out.size)
      clear hE3 hm3 hx3 hb3
      go_wp2
      go_loopg [] (fuel.toNat + 1) (fun gk wr => ∃ (s : St) (e : Eff) (M O I : Value), Hid (runEnd l fuel g n i k = runN l g.length fuel gk s e) ∧ Hid (Mach wr p l g.length fuel (s0 n i k).cells s Ac cc) ∧ Hid (EffAt wr w1.heap.size w1.heap.size e M O I) ∧ Hid (wr.heap[w.heap.size + 1]? = some (.cells zeroE 63 (0, 0))) ∧ Hid (Below w.heap.size w wr) ∧ Hid (w1.heap.size ≤ wr.heap.size) ∧ Hid (e.mem.length = g.length) ∧ Hid (e.outs.length + e.intos.length + gk ≤ 5000) ∧ Hid (s.over = 0 → fuel - s.steps + 1 ≤ (gk : Int)))
      case atStart =>
        exact ⟨s0 n i k, ⟨g, [], []⟩, _, _, _, Lib.hid rfl, HM3, HE3, HX3, HB3, Lib.hid (Nat.le_of_lt (blk_lt HE3.out.blk)), Lib.hid rfl, Lib.hid (by simp; omega), Lib.hid (fun _ => by simp [s0]; omega)⟩
      case round =>
        obtain ⟨s, e, M, O, I, HR, HMr, HEr, HXr, HBr, HZr, HLr, HOr, HSr⟩ := hrel
        have c18 := (HMr.out.vm.cell (i := 18) (by decide)).trans (St.cell18 HMr.out.ok.1)
        by_cases hov : s.over = 0
        · have hgk : ∃ m, gk = m + 1 := ⟨gk - 1, by have := HSr.out hov; have := HMr.out.ok.2.2.2.2; omega⟩
          obtain ⟨m, rfl⟩ := hgk
          have hov' : (s.over == 0) = true := by simp [hov]
          have HOV := Lib.hid hov
          have hrn := HR.out
          rw [runN, if_pos hov] at hrn
          have HRN := Lib.hid hrn
          clear hov hrn
          go_wp2_with fail
          refine (HMr.out.want).mono ?_
          rintro y w4 ⟨rfl, hb4⟩
          have hw4 := okWant_want l g.length fuel s e (by rw [HLr.out])
          generalize hwk : wantS l g.length fuel s = W3 at *
          obtain ⟨wk, wa, wv⟩ := W3
          simp only at hw4
          have HWK := Lib.hid hwk
          have HM4 := Lib.hid (HMr.out.below hb4)
          have HE4 := Lib.hid (HEr.out.below hb4)
          have HX4 := Lib.hid (below_blk hb4 HXr.out (blk_lt HXr.out))
          have HB4 := Lib.hid (HBr.out.trans (hb4.mono HBr.out.size))
          have HZ4 := Lib.hid (Nat.le_trans HZr.out hb4.size)
          clear hb4 hwk c18
          go_wp2_with fail
          refine (give_calls w4 w1.heap.size w1.heap.size e M O I HE4.out HZ4.out wk wa wv hw4 (by have := HOr.out; omega) (by have := HOr.out; omega)).mono ?_
          intro y w5 hd5
          obtain ⟨hy, hk5, M', O', I', hE5⟩ := hd5
          subst hy
          have HM5 := Lib.hid (HM4.out.keepS hk5 (fun q hq h => by have := HPB.out; omega))
          have HX5 := Lib.hid (hk5.blk HX4.out (by have := HPB.out; have := HP.out; omega))
          have HB5 := Lib.hid (HB4.out.trans (hk5.toBelow HB4.out.size (fun q hq => by have := HBW.out; omega)))
          have HZ5 := Lib.hid (Nat.le_trans HZ4.out hk5.size)
          have HE5 := Lib.hid hE5
          clear hk5 hE5
          go_wp2_with fail
          refine (HM5.out.step _).mono ?_
          rintro y w6 ⟨rfl, hk6, hm6⟩
          have hE6 := HE5.out.keepO hk6 (fun q hq h => by have := HPB.out; omega)
          have hx6 := hk6.blk HX5.out (by have := HP.out; omega)
          have hb6 := HB5.out.trans (hk6.toBelow HB5.out.size (fun q h => by subst h; have := HP.out; omega))
          have hz6 := Nat.le_trans HZ5.out hk6.size
          have hgl2 := giveS_len e wk wa wv
          have hst : (stepS l g.length fuel s (giveS e wk wa wv).2).over = 0 → fuel - (stepS l g.length fuel s (giveS e wk wa wv).2).steps + 1 ≤ (m : Int) := by
            intro h0
            have h1 := HSr.out HOV.out
            by_cases hsf : s.steps = fuel
            · exfalso
              have : (stepS l g.length fuel s (giveS e wk wa wv).2).over = 5 := by simp [stepS, HOV.out, hsf, ended]
              omega
            · rw [step_steps HOV.out hsf]; omega
          have hR6 : runEnd l fuel g n i k = runN l g.length fuel m (stepS l g.length fuel s (giveS e wk wa wv).2) (giveS e wk wa wv).1 := HRN.out
          have H1 := Lib.hid hE6
          have H2 := Lib.hid hx6
          have H3 := Lib.hid hb6
          have H4 := Lib.hid hz6
          have H5 := Lib.hid hgl2
          have H6 := Lib.hid hst
          have H7 := Lib.hid hR6
          have H8 := Lib.hid hm6
          clear hE6 hx6 hb6 hz6 hgl2 hst hR6 hm6 hk6
          go_wp2
          go_roundg m
          case measure => omega
          case rel => exact ⟨_, _, M', O', I', H7, H8, H1, H2, H3, H4, Lib.hid (H5.out.1.trans HLr.out), Lib.hid (by have := H5.out.2; have := HOr.out; omega), H6⟩
        · have hov' : (s.over == 0) = false := by simp [hov]
          have hrn : runEnd l fuel g n i k = (s, e) := by
            have h := HR.out
            cases gk with
            | zero => exact h
            | succ m => rw [runN, if_neg hov] at h; exact h
          have HRN := Lib.hid hrn
          obtain ⟨AM, cM, hMs, _⟩ := HEr.out.mem.slice
          obtain ⟨AO, cO, hOs, _⟩ := HEr.out.outs.slice
          obtain ⟨AI, cI, hIs, _⟩ := HEr.out.intos.slice
          subst hMs hOs hIs
          have c17 := (HMr.out.vm.cell (i := 17) (by decide)).trans (St.cell17 HMr.out.ok.1)
          have c19 := (HMr.out.vm.cell (i := 19) (by decide)).trans (St.cell19 HMr.out.ok.1)
          have d0 : wr.cell? ⟨w1.heap.size, 0, none⟩ = some (.slice AM e.mem.length cM) := blk_cell HEr.out.blk 0
          have d1 : wr.cell? ⟨w1.heap.size, 1, none⟩ = some (.slice AO e.outs.length cO) := blk_cell HEr.out.blk 1
          have d2 : wr.cell? ⟨w1.heap.size, 2, none⟩ = some (.slice AI e.intos.length cI) := blk_cell HEr.out.blk 2
          have d3 : wr.cell? ⟨w1.heap.size, 3, none⟩ = some (.int .i64 0) := blk_cell HEr.out.blk 3
          have d4 : wr.cell? ⟨w1.heap.size, 4, none⟩ = some (.int .i64 0) := blk_cell HEr.out.blk 4
          have d5 : wr.cell? ⟨w1.heap.size, 5, none⟩ = some (.int .i64 0) := blk_cell HEr.out.blk 5
          have ff := blk_free HEr.out.blk
          have hne : w1.heap.size ≠ p := by have := HPB.out; omega
          clear hov hrn
          go_wp2_with fail
          go_region_held3 (fun V => V.cell? ⟨p, 17, none⟩ = some (.int .i64 s.steps) ∧ V.cell? ⟨p, 18, none⟩ = some (.int .i64 s.over) ∧ V.cell? ⟨p, 19, none⟩ = some (.int .i64 s.value)) (go_keep) (fail)
          have hk9 : Keep (fun q => q = w1.heap.size) wr (((wr.setCell ⟨w1.heap.size, 3, none⟩ (.int .i64 s.over)).setCell ⟨w1.heap.size, 4, none⟩ (.int .i64 s.value)).setCell ⟨w1.heap.size, 5, none⟩ (.int .i64 s.steps)).drew := Keep.drew (Keep.set (O := fun q => q = w1.heap.size) (Keep.set (O := fun q => q = w1.heap.size) (Keep.set (O := fun q => q = w1.heap.size) (Keep.refl _ wr) (p := ⟨w1.heap.size, 3, none⟩) (.inl rfl) _) (p := ⟨w1.heap.size, 4, none⟩) (.inl rfl) _) (p := ⟨w1.heap.size, 5, none⟩) (.inl rfl) _)
          have hx9 : (((wr.setCell ⟨w1.heap.size, 3, none⟩ (.int .i64 s.over)).setCell ⟨w1.heap.size, 4, none⟩ (.int .i64 s.value)).setCell ⟨w1.heap.size, 5, none⟩ (.int .i64 s.steps)).drew.heap[w1.heap.size]? = some (.cells #[.slice AM e.mem.length cM, .slice AO e.outs.length cO, .slice AI e.intos.length cI, .int .i64 s.over, .int .i64 s.value, .int .i64 s.steps] 93 (0, 0)) := blk_set (blk_set (blk_set HEr.out.blk 3 _) 4 _) 5 _
          clear c17 c18 c19 d0 d1 d2 d3 d4 d5 ff
          generalize (((wr.setCell ⟨w1.heap.size, 3, none⟩ (.int .i64 s.over)).setCell ⟨w1.heap.size, 4, none⟩ (.int .i64 s.value)).setCell ⟨w1.heap.size, 5, none⟩ (.int .i64 s.steps)).drew = w9 at *
          have hR0 : w.heap.size + 1 ≠ w1.heap.size := by have := HP.out; have := HPB.out; omega
          have hr9 := hk9.blk HXr.out hR0
          have hb9 := HBr.out.trans (hk9.toBelow HBr.out.size (fun q h => by subst h; exact HBW.out))
          have HK9 := Lib.hid hk9
          have HX9 := Lib.hid hx9
          have HR9 := Lib.hid hr9
          have HB9 := Lib.hid hb9
          have HR0 := Lib.hid hR0
          have d0 : w9.cell? ⟨w1.heap.size, 0, none⟩ = some (.slice AM e.mem.length cM) := blk_cell hx9 0
          have d1 : w9.cell? ⟨w1.heap.size, 1, none⟩ = some (.slice AO e.outs.length cO) := blk_cell hx9 1
          have d2 : w9.cell? ⟨w1.heap.size, 2, none⟩ = some (.slice AI e.intos.length cI) := blk_cell hx9 2
          have d3 : w9.cell? ⟨w1.heap.size, 3, none⟩ = some (.int .i64 s.over) := blk_cell hx9 3
          have d4 : w9.cell? ⟨w1.heap.size, 4, none⟩ = some (.int .i64 s.value) := blk_cell hx9 4
          have d5 : w9.cell? ⟨w1.heap.size, 5, none⟩ = some (.int .i64 s.steps) := blk_cell hx9 5
          have HT9 := Lib.hid (there_at hr9 0 6 (by decide))
          clear hk9 hx9 hr9 hb9 hR0
          go_wp2_with (refine wpList_store_mid (by rfl) 63 _ _ (by rfl) (w.heap.size + 1) 0 #[.slice AM e.mem.length cM, .slice AO e.outs.length cO, .slice AI e.intos.length cI, .int .i64 s.over, .int .i64 s.value, .int .i64 s.steps] (by rfl) (by rfl) HT9.out (by kernel_rfl) (by simp [Value.oneCell']) ?_)
          refine bodyPost_ret (results_cell_tmp rfl _ _ (w.heap.size + 1) [.slice AM e.mem.length cM, .slice AO e.outs.length cO, .slice AI e.intos.length cI, .int .i64 s.over, .int .i64 s.value, .int .i64 s.steps] rfl (World.rangeAt_setCells_same w9 _ 0 _ HT9.out) Try.underlying63 rfl (by kernel_rfl)) rfl ?_
          refine ⟨below_sets (Nat.le_succ _) _ 0 HB9.out, ?_⟩
          rw [if_pos HZ.out, HRN.out]
          have hrow : ∀ {q : Nat}, q < wr.heap.size → q ≠ w1.heap.size → q ≠ w.heap.size + 1 → (w9.setCells (w.heap.size + 1) 0 [.slice AM e.mem.length cM, .slice AO e.outs.length cO, .slice AI e.intos.length cI, .int .i64 s.over, .int .i64 s.value, .int .i64 s.steps]).heap[q]? = wr.heap[q]? := fun h1 h2 h3 => (heap_sets h3 _ 0).trans (HK9.out.block _ h1 h2)
          have hfr : ∀ {q : Nat}, w1.heap.size ≤ q → q ≠ w.heap.size + 1 := fun h => by have := HP.out; have := HPB.out; omega
          exact ⟨_, _, _, rfl, HEr.out.mem.keep (fun q hq => hrow (HEr.out.mem.lt hq) (fun h => HEr.out.mem.ne HEr.out.blk (by decide) (by rw [hq, h])) (hfr (HEr.out.fm q hq))), HEr.out.outs.keep (fun q hq => hrow (HEr.out.outs.lt hq) (fun h => HEr.out.outs.ne HEr.out.blk (by decide) (by rw [hq, h])) (hfr (HEr.out.fo q hq))), HEr.out.intos.keep (fun q hq => hrow (HEr.out.intos.lt hq) (fun h => HEr.out.intos.ne HEr.out.blk (by decide) (by rw [hq, h])) (hfr (HEr.out.fi q hq)))⟩
  · obtain ⟨E, hE⟩ : ∃ E, newE l cells g.length fuel = E := ⟨_, rfl⟩
    rw [hE] at hz
    have hE0 : (E != 0) = true := by simp [hz]
    have HE := Lib.hid hE
    have HZ := Lib.hid hz
    clear hz hE
    go_enter Try.func21, Try.ntmps21
    go_wp2_with fail
    have hsz1 : (w.alloc (.cells #[.slice B g.length gc, .int .i64 n, .int .i64 i, .int .i64 k] 58)).heap.size = w.heap.size + 1 := size_al _ _
    have hbw : Below w.heap.size w ((w.alloc (.cells #[.slice B g.length gc, .int .i64 n, .int .i64 i, .int .i64 k] 58)).alloc (.cells zeroE 63)) := ((Below.refl w.heap.size w).al).al
    have hx0 := blk_alloc (blk_new w (.cells #[.slice B g.length gc, .int .i64 n, .int .i64 i, .int .i64 k] 58)) (.cells zeroE 63)
    have hx1 := blk_new (w.alloc (.cells #[.slice B g.length gc, .int .i64 n, .int .i64 i, .int .i64 k] 58)) (.cells zeroE 63)
    rw [hsz1] at hx1
    have hsz2 : ((w.alloc (.cells #[.slice B g.length gc, .int .i64 n, .int .i64 i, .int .i64 k] 58)).alloc (.cells zeroE 63)).heap.size = w.heap.size + 2 := by rw [size_al, hsz1]
    refine (vmNew_calls W l A c cells g.length fuel n i k HRD.out (by omega) _ (HB.out.trans (hbw.mono HB.out.size))).mono ?_
    intro e1 w1 hd
    obtain ⟨hb1, hd1⟩ := hd
    rw [HE.out, if_neg HZ.out] at hd1
    subst hd1
    have hx1 := below_blk hb1 hx1 (blk_lt hx1)
    have hB1 := hbw.trans (hb1.mono hbw.size)
    have HB1 := Lib.hid hB1
    have HX1 := Lib.hid hx1
    have HT := Lib.hid (there_at hx1 0 6 (by decide))
    clear hb1 hbw hx0 hx1 hsz1 hsz2 hB1
    go_wp2_with (refine wpList_store_mid (by rfl) 63 _ _ (by rfl) (w.heap.size + 1) 0 #[.slice none 0 0, .slice none 0 0, .slice none 0 0, .int .i64 0, .int .i64 0, .int .i64 0] (by rfl) (by rfl) HT.out (by kernel_rfl) (by simp [Value.oneCell']) ?_)
    refine bodyPost_ret (results_cell_tmp rfl _ _ (w.heap.size + 1) [.slice none 0 0, .slice none 0 0, .slice none 0 0, .int .i64 0, .int .i64 0, .int .i64 0] rfl (World.rangeAt_setCells_same _ _ 0 _ HT.out) Try.underlying63 rfl (by kernel_rfl)) rfl ?_
    refine ⟨below_sets (Nat.le_succ _) _ 0 HB1.out, ?_⟩
    rw [HE.out, if_neg HZ.out]
    rfl
end Go.Proofs.Ytnikcdcaaeljmaa.My
