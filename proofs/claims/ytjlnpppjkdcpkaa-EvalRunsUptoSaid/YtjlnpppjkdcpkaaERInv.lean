/- A region that draws its order, walked by what each operation yields: no order is looked at. No program in sight. -/
import Derived.Test.YtjlnpppjkdcpkaaERNameS
namespace Go.Proofs.Ytjlnpppjkdcpkaa.My
open Go.RowKit
set_option linter.unusedVariables false
/-- the values of those that have come up, put in the row's order -/
def putAll (ops : Array Oper) (listed : Array Bool) (vals : Nat → Value) : List Nat → Act → Act
 | [], a => a
 | k :: l, a => putAll ops listed vals l (if listed.getD k true = true then (match ops[k]? with | some o => a.put o.dst (vals k) | none => a) else a)
def updV (vals : Nat → Value) (i : Nat) (v : Value) : Nat → Value := fun k => if k = i then v else vals k
def Apart (ops : Array Oper) : Prop := ∀ (j k : Nat) (oj ok : Oper), ops[j]? = some oj → ops[k]? = some ok → j ≠ k → ∀ d, oj.dst = some d → ok.dst ≠ some d
theorem putAll_skip {ops : Array Oper} (hd : Apart ops) {listed : Array Bool} {vals : Nat → Value} {i : Nat} {o : Oper} (ho : ops[i]? = some o) (v : Value) : ∀ (l : List Nat) (a : Act), i ∉ l →
  putAll ops (listed.setIfInBounds i true) (updV vals i v) l (a.put o.dst v) = (putAll ops listed vals l a).put o.dst v
 | [], a, _ => rfl
 | k :: l, a, hi => by
  have hki : i ≠ k := fun e => hi (by simp [e])
  have hil : i ∉ l := fun e => hi (by simp [e])
  simp only [putAll, getD_set_ne true hki, updV, if_neg (Ne.symm hki)]
  rw [← putAll_skip hd ho v l _ hil]; congr 1
  split
  ·cases hk : ops[k]? with
   | none => rfl
   | some ok => exact Act.put_comm a v (vals k) (hd i k o ok ho hk hki)
  ·rfl
theorem putAll_put {ops : Array Oper} (hd : Apart ops) {listed : Array Bool} {vals : Nat → Value} {i : Nat} {o : Oper} (ho : ops[i]? = some o) (hu : listed.getD i true = false) (v : Value) : ∀ (l : List Nat) (a : Act), i ∈ l → l.Nodup →
  putAll ops (listed.setIfInBounds i true) (updV vals i v) l a = (putAll ops listed vals l a).put o.dst v
 | k :: l, a, hi, hn => by
  rw [List.nodup_cons] at hn; by_cases hki : i = k
  ·subst hki
   have hs : i < listed.size := by
    rcases Nat.lt_or_ge i listed.size with h | h
    ·exact h
    ·simp [Array.getElem?_eq_none h] at hu
   have h1 : (listed.setIfInBounds i true).getD i true = true := by simp [hs]
   simp only [putAll, h1, hu, if_true, ho, updV, Bool.false_eq_true, if_false]
   exact putAll_skip hd ho v l a hn.1
  ·have hil : i ∈ l := by simpa [hki] using hi
   simp only [putAll, getD_set_ne true hki, updV, if_neg (Ne.symm hki)]
   exact putAll_put hd ho hu v l _ hil hn.2
theorem put_size (a : Act) (d : Option Tmp) (v : Value) : (a.put d v).tmps.size = a.tmps.size := by cases d <;> simp [Act.put]
theorem putAll_far {ops : Array Oper} {listed : Array Bool} {vals : Nat → Value} {t : Nat} : ∀ (l : List Nat) (a : Act), (∀ k ∈ l, ∀ o, ops[k]? = some o → o.dst ≠ some t) → (putAll ops listed vals l a).tmps.getD t undef = a.tmps.getD t undef
 | [], a, _ => rfl
 | k :: l, a, h => by
  rw [putAll, putAll_far l _ fun j hj => h j (by simp [hj])]
  split
  ·cases hk : ops[k]? with
   | none => rfl
   | some o =>
    have := h k (by simp) o hk
    cases hd : o.dst with
    | none => simp [Act.put, hd]
    | some d =>
     have hne : d ≠ t := fun e => this (by rw [hd, e])
     simp [Act.put, hd, Array.getElem?_setIfInBounds_ne hne]
  ·rfl
theorem putAll_at {ops : Array Oper} (hd : Apart ops) {listed : Array Bool} {vals : Nat → Value} {i t : Nat} {o : Oper} (ho : ops[i]? = some o) (ht : o.dst = some t) (hl : listed.getD i true = true) : ∀ (l : List Nat) (a : Act), i ∈ l → l.Nodup → t < a.tmps.size → (putAll ops listed vals l a).tmps.getD t undef = vals i
 | k :: l, a, hi, hn, hts => by
  rw [List.nodup_cons] at hn; rw [putAll]; by_cases hki : i = k
  ·subst hki
   rw [putAll_far l _ fun j hj oj hoj e => hd i j o oj ho hoj (fun e1 => hn.1 (e1 ▸ hj)) t ht e]
   simp only [hl, if_true, ho, ht, Act.put]
   simp [hts]
  ·refine putAll_at hd ho ht hl l _ (by simpa [hki] using hi) hn.2 ?_
   split
   ·cases hk : ops[k]? with
    | none => exact hts
    | some ok => show t < (a.put ok.dst (vals k)).tmps.size; rw [put_size]; exact hts
   ·exact hts
section
variable {P : Program} {ops : Array Oper} {Q : Exit → Act → World → Prop}
/-- what is asked of one operation: of what it waits for it knows all; it yields what R says -/
def StepR (P : Program) (ops : Array Oper) (Q : Exit → Act → World → Prop) (R : Nat → Value → World → Prop) (G : World → Prop) (a0 : Act) (i : Nat) (o : Oper) : Prop :=
 ∀ (vals : Nat → Value) (a : Act) (w : World) (K : Act → World → Prop), G w → (∀ e ∈ o.after, Region.binds .any e = true → R e.on (vals e.on) w ∧ ∀ oe d, ops[e.on]? = some oe → oe.dst = some d → a.tmps.getD d undef = vals e.on) →
  (∀ t, (∀ (k : Nat) (ok : Oper), ops[k]? = some ok → ok.dst ≠ some t) → a.tmps.getD t undef = a0.tmps.getD t undef) →
  (∀ v w', Below w.heap.size w w' → G w' → R i v w' → K (a.put o.dst v) w') → Oper.wp P o a w K Q
def InvR (ops : Array Oper) (R : Nat → Value → World → Prop) (G : World → Prop) (a0 : Act) (listed : Array Bool) (a : Act) (w : World) : Prop :=
 listed.size = ops.size ∧ G w ∧ Downward' ops listed ∧ ∃ vals, a = putAll ops listed vals (List.range ops.size) a0 ∧ ∀ k, k < ops.size → listed.getD k true = true → R k (vals k) w
where Downward' (ops : Array Oper) (listed : Array Bool) : Prop := ∀ k, k < ops.size → listed.getD k true = true ∨ listed.getD k true = false
theorem wpAny_inv (R : Nat → Value → World → Prop) (G : World → Prop) (a0 : Act) (hd : Apart ops) (hg : ∀ (k : Nat) (o : Oper), ops[k]? = some o → o.guard = none) (hdn : ∀ (k : Nat) (o : Oper), ops[k]? = some o → ∃ d, o.dst = some d ∧ d < a0.tmps.size)
  (hac : ∀ (k : Nat) (o : Oper), ops[k]? = some o → ∀ e ∈ o.after, Region.binds .any e = true → e.on < k)
  (mono : ∀ k v w w', R k v w → Below w.heap.size w w' → R k v w') (step : ∀ i o, ops[i]? = some o → StepR P ops Q R G a0 i o)
  (fin : ∀ vals w, G w → (∀ k, k < ops.size → R k (vals k) w) → Q .normal (putAll ops (Array.replicate ops.size true) vals (List.range ops.size) a0) w) :
  ∀ (fuel : Nat) (listed : Array Bool) (a : Act) (w : World), listed.count false ≤ fuel → InvR ops R G a0 listed a w → wpAny P .any ops Q fuel listed a w := by
 have done : ∀ (listed : Array Bool) (a : Act) (w : World), InvR ops R G a0 listed a w → Region.ready .any ops listed = [] → Q .normal a w := by
  intro listed a w ⟨hs, hG, _, vals, ha, hR⟩ hr
  have all : ∀ n, n < ops.size → listed.getD n true = true := by
   intro n; induction n using Nat.strongRecOn with
   | _ n ih =>
    intro hn
    cases hl : listed.getD n true with
    | true => rfl
    | false =>
     exfalso
     have : n ∈ Region.ready .any ops listed := mem_ready.2 ⟨hl, ops[n], by simp [hn], fun e he hb => by
      have h1 := hac n ops[n] (by simp [hn]) e he hb
      have h2 := ih e.on h1 (by omega)
      have h3 : e.on < listed.size := by omega
      simpa [h3] using h2⟩
     rw [hr] at this; cases this
  have hrep : listed = Array.replicate ops.size true := by
   apply Array.ext
   ·simp [hs]
   ·intro j h1 h2
    have := all j (by omega)
    simpa [h1] using this
  subst hrep; subst ha; exact fin vals w hG fun k hk => hR k hk (all k hk)
 intro fuel; induction fuel with
 | zero =>
  intro listed a w hc hI; have hr : Region.ready .any ops listed = [] := by
   cases hr : Region.ready .any ops listed with
   | nil => rfl
   | cons j l =>
    exfalso
    have hj : j ∈ Region.ready .any ops listed := by rw [hr]; simp
    have hu := (mem_ready.1 hj).1; have hjs : j < listed.size := by
     rcases Nat.lt_or_ge j listed.size with h | h
     ·exact h
     ·simp [Array.getElem?_eq_none h] at hu
    have hm : false ∈ listed := by
     have : listed[j] = false := by simpa [hjs] using hu
     rw [← this]; exact Array.getElem_mem hjs
    have := Array.count_pos_iff.2 hm
    omega
  exact ⟨hr, done listed a w hI hr⟩
 | succ fuel ih =>
  intro listed a w hc hI; refine ⟨done listed a w hI, fun i hi => ?_⟩
  obtain ⟨hs, hG, _, vals, ha, hR⟩ := hI; obtain ⟨hu, o, ho, hall⟩ := mem_ready.1 hi; have his : i < listed.size := by
   rcases Nat.lt_or_ge i listed.size with h | h
   ·exact h
   ·simp [Array.getElem?_eq_none h] at hu
  refine wpOp_step ho fun K hK => ?_
  rw [if_pos (by simp [Region.wanted, hg i o ho])]
  refine step i o ho vals a w K hG ?_ ?_ ?_
  ·intro e he hb
   have h1 := hall e he hb; have hes : e.on < listed.size := by
    rcases Nat.lt_or_ge e.on listed.size with h | h
    ·exact h
    ·simp [Array.getElem?_eq_none h] at h1
   have h2 : listed.getD e.on true = true := by simpa [hes] using h1
   refine ⟨hR e.on (by omega) h2, fun oe d hoe hde => ?_⟩
   subst ha; obtain ⟨d', hd', hlt⟩ := hdn e.on oe hoe; rw [hde] at hd'; cases hd'
   exact putAll_at hd hoe hde h2 _ _ (List.mem_range.2 (by omega)) List.nodup_range hlt
  ·intro t ht
   subst ha; exact putAll_far _ _ fun k _ ok hok => ht k ok hok
  ·intro v w' hB hG' hRi
   refine hK _ _ (ih (listed.setIfInBounds i true) _ w' ?_ ⟨by simp [hs], hG', fun k _ => by cases (listed.setIfInBounds i true).getD k true <;> simp, updV vals i v, ?_, ?_⟩)
   ·have : (listed.setIfInBounds i true).count false + 1 = listed.count false := by
     have hf : listed[i] = false := by simpa [his] using hu
     rw [Array.setIfInBounds, dif_pos his, Array.count_set]; have := Array.count_pos_iff.2 (hf ▸ Array.getElem_mem his : false ∈ listed)
     simp [hf]
     omega
    omega
   ·subst ha
    exact (putAll_put hd ho hu v _ _ (List.mem_range.2 (by omega)) List.nodup_range).symm
   ·intro k hk hlk
    by_cases hki : k = i
    ·subst hki; simpa [updV] using hRi
    ·rw [getD_set_ne true (Ne.symm hki)] at hlk
     simp only [updV, if_neg hki]
     exact mono k _ w w' (hR k hk hlk) hB
def invB (ops : Array Oper) (n : Nat) : Bool := (List.range ops.size).all fun j => match ops[j]? with
 | some oj => oj.guard.isNone && (match oj.dst with
  | some d => decide (d < n) && (List.range ops.size).all (fun k => k == j || (match ops[k]? with | some ok => ok.dst != some d | none => true))
  | none => false) && oj.after.all (fun e => !(Region.binds .any e) || decide (e.on < j))
 | none => true
theorem invB_spec {n : Nat} (h : invB ops n = true) : Apart ops ∧ (∀ (k : Nat) (o : Oper), ops[k]? = some o → o.guard = none) ∧ (∀ (k : Nat) (o : Oper), ops[k]? = some o → ∃ d, o.dst = some d ∧ d < n) ∧
  (∀ (k : Nat) (o : Oper), ops[k]? = some o → ∀ e ∈ o.after, Region.binds .any e = true → e.on < k) := by
 have key : ∀ (k : Nat) (o : Oper), ops[k]? = some o → o.guard = none ∧ (∃ d, o.dst = some d ∧ d < n ∧ ∀ (j : Nat) (oj : Oper), ops[j]? = some oj → j ≠ k → oj.dst ≠ some d) ∧ ∀ e ∈ o.after, Region.binds .any e = true → e.on < k := by
  intro k o ho; have hk : k < ops.size := (Array.getElem?_eq_some_iff.1 ho).1
  have h1 := List.all_eq_true.1 h k (List.mem_range.2 hk); simp only [ho, Bool.and_eq_true] at h1
  obtain ⟨⟨h1, h2⟩, h3⟩ := h1; refine ⟨by simpa using h1, ?_, fun e he hb => ?_⟩
  ·cases hd : o.dst with
   | none => rw [hd] at h2; cases h2
   | some d =>
    rw [hd] at h2; simp only [Bool.and_eq_true, decide_eq_true_eq] at h2
    refine ⟨d, rfl, h2.1, fun j oj hoj hjk => ?_⟩
    have h4 := List.all_eq_true.1 h2.2 j (List.mem_range.2 (Array.getElem?_eq_some_iff.1 hoj).1); simp only [hoj, Bool.or_eq_true, beq_iff_eq, bne_iff_ne] at h4
    exact h4.resolve_left hjk
  ·have h4 := Array.all_eq_true_iff_forall_mem.1 h3 e he
   simpa [hb] using h4
 refine ⟨fun j k oj ok hj hk hjk d hd he => ?_, fun k o ho => (key k o ho).1, fun k o ho => ?_, fun k o ho => (key k o ho).2.2⟩
 ·obtain ⟨d', h1, _, h3⟩ := (key j oj hj).2.1
  rw [hd] at h1; cases h1
  exact h3 k ok hk (Ne.symm hjk) he
 ·obtain ⟨d, h1, h2, _⟩ := (key k o ho).2.1
  exact ⟨d, h1, h2⟩
/-- THE BEGINNING -/
theorem wp_region_inv {id : Nat} {a0 : Act} {w : World} (R : Nat → Value → World → Prop) (G : World → Prop) (hm : P.follows .mixedOrders = true) (hb : invB ops a0.tmps.size = true) (hG : G w.drew)
  (mono : ∀ k v w w', R k v w → Below w.heap.size w w' → R k v w') (step : ∀ i o, ops[i]? = some o → StepR P ops Q R G a0 i o)
  (fin : ∀ vals w, G w → (∀ k, k < ops.size → R k (vals k) w) → Q .normal (putAll ops (Array.replicate ops.size true) vals (List.range ops.size) a0) w) : (Code.region id ops true).wp P Q a0 w := by
 obtain ⟨h1, h2, h3, h4⟩ := invB_spec hb; have hno : ∀ l : List Nat, (∀ k ∈ l, k < ops.size) → putAll ops (Array.replicate ops.size false) (fun _ => undef) l a0 = a0 := by
  intro l; induction l with
  | nil => intro _; rfl
  | cons k l ih =>
   intro h; have hk : k < ops.size := h k (by simp)
   rw [putAll, if_neg (by simp [hk])]
   exact ih fun j hj => h j (by simp [hj])
 refine wp_region_any hm (wpAny_inv R G a0 h1 h2 h3 h4 mono step fin ops.size _ a0 _ ?_ ⟨by simp, hG, fun k hk => by simp [hk], fun _ => undef, (hno _ fun k hk => List.mem_range.1 hk).symm, fun k hk hl => ?_⟩)
 ·exact Nat.le_trans Array.count_le_size (by simp)
 ·simp [hk] at hl
/-- a slot that no operation writes -/
def noB (ops : Array Oper) (t : Tmp) : Bool := ops.all fun o => o.dst != some t
theorem noB_spec {t : Tmp} (h : noB ops t = true) : ∀ (k : Nat) (o : Oper), ops[k]? = some o → o.dst ≠ some t := fun k o ho => by
 have := Array.all_eq_true_iff_forall_mem.1 h o (Array.mem_of_getElem? ho)
 simpa using this
end
end Go.Proofs.Ytjlnpppjkdcpkaa.My
