/- What holds of a machine whose text may be; the fixed fact of the layer's laws. -/
import Derived.Test.YtnikcdcaaeljmaaVmW
namespace Go.Proofs.Ytnikcdcaaeljmaa.My
open Go.RowKit Go.Proofs.Ytnikcdcaaeljmaa.NumA
/-- a text that may be -/
def goodL (l : List Ins) : Prop := l ≠ [] ∧ l.length ≤ 600 ∧ (∀ x ∈ l, okR x ∧ 1 ≤ x.kind ∧ x.kind ≤ 13 ∧ (x.kind = 10 ∨ x.kind = 11 ∨ x.kind = 12 → 0 ≤ x.n ∧ x.n < l.length)) ∧ (∀ x, l[l.length - 1]? = some x → fallsK x.kind = false)
theorem if1 {p : Prop} [Decidable p] {x c : Int} (hc : c ≠ 0) (h : (if p then x else c) = 0) : p ∧ x = 0 := by
  by_cases hp : p
  · rw [if_pos hp] at h; exact ⟨hp, h⟩
  · rw [if_neg hp] at h; exact absurd h hc
theorem if2 {p : Prop} [Decidable p] {x c : Int} (hc : c ≠ 0) (h : (if p then c else x) = 0) : ¬ p ∧ x = 0 := by
  by_cases hp : p
  · rw [if_pos hp] at h; exact absurd h hc
  · rw [if_neg hp] at h; exact ⟨hp, h⟩
theorem e1_ok (op a b c n cells long : Int) (h : e1 op a b c n cells long = 0) : ((0 ≤ a ∧ a < 16) ∧ (0 ≤ b ∧ b < 16) ∧ (0 ≤ c ∧ c < 16)) ∧ (True) := by
  unfold e1 at h
  obtain ⟨h0, h⟩ := if1 (by decide) h
  obtain ⟨h1, h⟩ := if1 (by decide) h
  obtain ⟨h2, h⟩ := if1 (by decide) h
  obtain ⟨h3, h⟩ := if1 (by decide) h
  obtain ⟨h4, h⟩ := if1 (by decide) h
  refine ⟨by omega, by first | trivial | omega⟩
theorem e2_ok (op a b c n cells long : Int) (h : e2 op a b c n cells long = 0) : ((0 ≤ a ∧ a < 16) ∧ (0 ≤ b ∧ b < 16) ∧ (0 ≤ c ∧ c < 16)) ∧ (True) := by
  unfold e2 at h
  obtain ⟨h0, h⟩ := if2 (by decide) h
  obtain ⟨h1, h⟩ := if2 (by decide) h
  obtain ⟨h2, h⟩ := if1 (by decide) h
  obtain ⟨h3, h⟩ := if1 (by decide) h
  obtain ⟨h4, h⟩ := if1 (by decide) h
  refine ⟨by omega, by first | trivial | omega⟩
theorem e3_ok (op a b c n cells long : Int) (h : e3 op a b c n cells long = 0) : ((0 ≤ a ∧ a < 16) ∧ (0 ≤ b ∧ b < 16) ∧ (0 ≤ c ∧ c < 16)) ∧ (True) := by
  unfold e3 at h
  obtain ⟨h0, h⟩ := if2 (by decide) h
  obtain ⟨h1, h⟩ := if2 (by decide) h
  obtain ⟨h2, h⟩ := if2 (by decide) h
  obtain ⟨h3, h⟩ := if2 (by decide) h
  obtain ⟨h4, h⟩ := if1 (by decide) h
  obtain ⟨h5, h⟩ := if1 (by decide) h
  obtain ⟨h6, h⟩ := if1 (by decide) h
  refine ⟨by omega, by first | trivial | omega⟩
theorem e4_ok (op a b c n cells long : Int) (h : e4 op a b c n cells long = 0) : ((0 ≤ a ∧ a < 16) ∧ (0 ≤ b ∧ b < 16) ∧ (0 ≤ c ∧ c < 16)) ∧ (True) := by
  unfold e4 at h
  obtain ⟨h0, h⟩ := if2 (by decide) h
  obtain ⟨h1, h⟩ := if2 (by decide) h
  obtain ⟨h2, h⟩ := if2 (by decide) h
  obtain ⟨h3, h⟩ := if2 (by decide) h
  obtain ⟨h4, h⟩ := if2 (by decide) h
  obtain ⟨h5, h⟩ := if2 (by decide) h
  obtain ⟨h6, h⟩ := if1 (by decide) h
  obtain ⟨h7, h⟩ := if1 (by decide) h
  refine ⟨by omega, by first | trivial | omega⟩
theorem e5_ok (op a b c n cells long : Int) (h : e5 op a b c n cells long = 0) : ((0 ≤ a ∧ a < 16) ∧ (0 ≤ b ∧ b < 16) ∧ (0 ≤ c ∧ c < 16)) ∧ (True) := by
  unfold e5 at h
  obtain ⟨h0, h⟩ := if2 (by decide) h
  obtain ⟨h1, h⟩ := if2 (by decide) h
  obtain ⟨h2, h⟩ := if2 (by decide) h
  obtain ⟨h3, h⟩ := if2 (by decide) h
  obtain ⟨h4, h⟩ := if2 (by decide) h
  obtain ⟨h5, h⟩ := if2 (by decide) h
  obtain ⟨h6, h⟩ := if2 (by decide) h
  obtain ⟨h7, h⟩ := if2 (by decide) h
  obtain ⟨h8, h⟩ := if1 (by decide) h
  refine ⟨by omega, by first | trivial | omega⟩
theorem e6_ok (op a b c n cells long : Int) (h : e6 op a b c n cells long = 0) : ((0 ≤ a ∧ a < 16) ∧ (0 ≤ b ∧ b < 16) ∧ (0 ≤ c ∧ c < 16)) ∧ (True) := by
  unfold e6 at h
  obtain ⟨h0, h⟩ := if2 (by decide) h
  obtain ⟨h1, h⟩ := if2 (by decide) h
  obtain ⟨h2, h⟩ := if2 (by decide) h
  obtain ⟨h3, h⟩ := if2 (by decide) h
  obtain ⟨h4, h⟩ := if1 (by decide) h
  obtain ⟨h5, h⟩ := if1 (by decide) h
  refine ⟨by omega, by first | trivial | omega⟩
theorem e7_ok (op a b c n cells long : Int) (h : e7 op a b c n cells long = 0) : ((0 ≤ a ∧ a < 16) ∧ (0 ≤ b ∧ b < 16) ∧ (0 ≤ c ∧ c < 16)) ∧ (True) := by
  unfold e7 at h
  obtain ⟨h0, h⟩ := if2 (by decide) h
  obtain ⟨h1, h⟩ := if2 (by decide) h
  obtain ⟨h2, h⟩ := if2 (by decide) h
  obtain ⟨h3, h⟩ := if2 (by decide) h
  obtain ⟨h4, h⟩ := if1 (by decide) h
  obtain ⟨h5, h⟩ := if1 (by decide) h
  refine ⟨by omega, by first | trivial | omega⟩
theorem e8_ok (op a b c n cells long : Int) (h : e8 op a b c n cells long = 0) : ((0 ≤ a ∧ a < 16) ∧ (0 ≤ b ∧ b < 16) ∧ (0 ≤ c ∧ c < 16)) ∧ (True) := by
  unfold e8 at h
  obtain ⟨h0, h⟩ := if2 (by decide) h
  obtain ⟨h1, h⟩ := if2 (by decide) h
  obtain ⟨h2, h⟩ := if1 (by decide) h
  obtain ⟨h3, h⟩ := if1 (by decide) h
  obtain ⟨h4, h⟩ := if1 (by decide) h
  obtain ⟨h5, h⟩ := if2 (by decide) h
  obtain ⟨h6, h⟩ := if2 (by decide) h
  obtain ⟨h7, h⟩ := if2 (by decide) h
  refine ⟨by omega, by first | trivial | omega⟩
theorem e9_ok (op a b c n cells long : Int) (h : e9 op a b c n cells long = 0) : ((0 ≤ a ∧ a < 16) ∧ (0 ≤ b ∧ b < 16) ∧ (0 ≤ c ∧ c < 16)) ∧ (True) := by
  unfold e9 at h
  obtain ⟨h0, h⟩ := if2 (by decide) h
  obtain ⟨h1, h⟩ := if2 (by decide) h
  obtain ⟨h2, h⟩ := if1 (by decide) h
  obtain ⟨h3, h⟩ := if1 (by decide) h
  obtain ⟨h4, h⟩ := if1 (by decide) h
  obtain ⟨h5, h⟩ := if1 (by decide) h
  refine ⟨by omega, by first | trivial | omega⟩
theorem e10_ok (op a b c n cells long : Int) (h : e10 op a b c n cells long = 0) : ((0 ≤ a ∧ a < 16) ∧ (0 ≤ b ∧ b < 16) ∧ (0 ≤ c ∧ c < 16)) ∧ (0 ≤ n ∧ n < long) := by
  unfold e10 at h
  obtain ⟨h0, h⟩ := if1 (by decide) h
  obtain ⟨h1, h⟩ := if1 (by decide) h
  obtain ⟨h2, h⟩ := if1 (by decide) h
  obtain ⟨h3, h⟩ := if1 (by decide) h
  obtain ⟨h4, h⟩ := if2 (by decide) h
  obtain ⟨h5, h⟩ := if2 (by decide) h
  refine ⟨by omega, by first | trivial | omega⟩
theorem e11_ok (op a b c n cells long : Int) (h : e11 op a b c n cells long = 0) : ((0 ≤ a ∧ a < 16) ∧ (0 ≤ b ∧ b < 16) ∧ (0 ≤ c ∧ c < 16)) ∧ (0 ≤ n ∧ n < long) := by
  unfold e11 at h
  obtain ⟨h0, h⟩ := if2 (by decide) h
  obtain ⟨h1, h⟩ := if2 (by decide) h
  obtain ⟨h2, h⟩ := if1 (by decide) h
  obtain ⟨h3, h⟩ := if1 (by decide) h
  obtain ⟨h4, h⟩ := if1 (by decide) h
  obtain ⟨h5, h⟩ := if2 (by decide) h
  obtain ⟨h6, h⟩ := if2 (by decide) h
  refine ⟨by omega, by first | trivial | omega⟩
theorem e12_ok (op a b c n cells long : Int) (h : e12 op a b c n cells long = 0) : ((0 ≤ a ∧ a < 16) ∧ (0 ≤ b ∧ b < 16) ∧ (0 ≤ c ∧ c < 16)) ∧ (0 ≤ n ∧ n < long) := by
  unfold e12 at h
  obtain ⟨h0, h⟩ := if2 (by decide) h
  obtain ⟨h1, h⟩ := if2 (by decide) h
  obtain ⟨h2, h⟩ := if1 (by decide) h
  obtain ⟨h3, h⟩ := if1 (by decide) h
  obtain ⟨h4, h⟩ := if1 (by decide) h
  obtain ⟨h5, h⟩ := if2 (by decide) h
  obtain ⟨h6, h⟩ := if2 (by decide) h
  refine ⟨by omega, by first | trivial | omega⟩
theorem e13_ok (op a b c n cells long : Int) (h : e13 op a b c n cells long = 0) : ((0 ≤ a ∧ a < 16) ∧ (0 ≤ b ∧ b < 16) ∧ (0 ≤ c ∧ c < 16)) ∧ (True) := by
  unfold e13 at h
  obtain ⟨h0, h⟩ := if2 (by decide) h
  obtain ⟨h1, h⟩ := if2 (by decide) h
  obtain ⟨h2, h⟩ := if1 (by decide) h
  obtain ⟨h3, h⟩ := if1 (by decide) h
  obtain ⟨h4, h⟩ := if1 (by decide) h
  obtain ⟨h5, h⟩ := if1 (by decide) h
  refine ⟨by omega, by first | trivial | omega⟩
theorem insErr_ok (x : Ins) (cells long : Int) (h : insErr x.kind x.op x.a x.b x.c x.n cells long = 0) : okR x ∧ 1 ≤ x.kind ∧ x.kind ≤ 13 ∧ (x.kind = 10 ∨ x.kind = 11 ∨ x.kind = 12 → 0 ≤ x.n ∧ x.n < long) := by
  obtain ⟨k, op, a, b, c, n⟩ := x
  simp only [okR] at h ⊢
  unfold insErr at h
  by_cases h1 : k = 1
  · subst h1; rw [if_pos rfl] at h; have := e1_ok op a b c n cells long h; exact ⟨this.1, by decide, by decide, fun e => by first | exact this.2 | (exfalso; omega)⟩
  rw [if_neg h1] at h
  by_cases h2 : k = 2
  · subst h2; rw [if_pos rfl] at h; have := e2_ok op a b c n cells long h; exact ⟨this.1, by decide, by decide, fun e => by first | exact this.2 | (exfalso; omega)⟩
  rw [if_neg h2] at h
  by_cases h3 : k = 3
  · subst h3; rw [if_pos rfl] at h; have := e3_ok op a b c n cells long h; exact ⟨this.1, by decide, by decide, fun e => by first | exact this.2 | (exfalso; omega)⟩
  rw [if_neg h3] at h
  by_cases h4 : k = 4
  · subst h4; rw [if_pos rfl] at h; have := e4_ok op a b c n cells long h; exact ⟨this.1, by decide, by decide, fun e => by first | exact this.2 | (exfalso; omega)⟩
  rw [if_neg h4] at h
  by_cases h5 : k = 5
  · subst h5; rw [if_pos rfl] at h; have := e5_ok op a b c n cells long h; exact ⟨this.1, by decide, by decide, fun e => by first | exact this.2 | (exfalso; omega)⟩
  rw [if_neg h5] at h
  by_cases h6 : k = 6
  · subst h6; rw [if_pos rfl] at h; have := e6_ok op a b c n cells long h; exact ⟨this.1, by decide, by decide, fun e => by first | exact this.2 | (exfalso; omega)⟩
  rw [if_neg h6] at h
  by_cases h7 : k = 7
  · subst h7; rw [if_pos rfl] at h; have := e7_ok op a b c n cells long h; exact ⟨this.1, by decide, by decide, fun e => by first | exact this.2 | (exfalso; omega)⟩
  rw [if_neg h7] at h
  by_cases h8 : k = 8
  · subst h8; rw [if_pos rfl] at h; have := e8_ok op a b c n cells long h; exact ⟨this.1, by decide, by decide, fun e => by first | exact this.2 | (exfalso; omega)⟩
  rw [if_neg h8] at h
  by_cases h9 : k = 9
  · subst h9; rw [if_pos rfl] at h; have := e9_ok op a b c n cells long h; exact ⟨this.1, by decide, by decide, fun e => by first | exact this.2 | (exfalso; omega)⟩
  rw [if_neg h9] at h
  by_cases h10 : k = 10
  · subst h10; rw [if_pos rfl] at h; have := e10_ok op a b c n cells long h; exact ⟨this.1, by decide, by decide, fun e => by first | exact this.2 | (exfalso; omega)⟩
  rw [if_neg h10] at h
  by_cases h11 : k = 11
  · subst h11; rw [if_pos rfl] at h; have := e11_ok op a b c n cells long h; exact ⟨this.1, by decide, by decide, fun e => by first | exact this.2 | (exfalso; omega)⟩
  rw [if_neg h11] at h
  by_cases h12 : k = 12
  · subst h12; rw [if_pos rfl] at h; have := e12_ok op a b c n cells long h; exact ⟨this.1, by decide, by decide, fun e => by first | exact this.2 | (exfalso; omega)⟩
  rw [if_neg h12] at h
  by_cases h13 : k = 13
  · subst h13; rw [if_pos rfl] at h; have := e13_ok op a b c n cells long h; exact ⟨this.1, by decide, by decide, fun e => by first | exact this.2 | (exfalso; omega)⟩
  rw [if_neg h13] at h
  exact absurd h (by decide)
theorem insChk_none (cells long : Int) : ∀ (l : List Ins) (i : Nat), insChk l cells long i = none → ∀ x ∈ l, insErr x.kind x.op x.a x.b x.c x.n cells long = 0
  | [], _, _, x, hx => by cases hx
  | y :: l, i, h, x, hx => by
    rw [insChk] at h
    by_cases h0 : insErr y.kind y.op y.a y.b y.c y.n cells long = 0
    · rw [if_pos h0] at h
      rcases List.mem_cons.1 hx with rfl | hx
      · exact h0
      · exact insChk_none cells long l (i + 1) h x hx
    · rw [if_neg h0] at h; cases h
theorem insChk_some (cells long : Int) : ∀ (l : List Ins) (i : Nat) (r : Nat × Int), insChk l cells long i = some r → r.2 ≠ 0
  | [], _, _, h => by cases h
  | y :: l, i, r, h => by
    rw [insChk] at h
    by_cases h0 : insErr y.kind y.op y.a y.b y.c y.n cells long = 0
    · rw [if_pos h0] at h; exact insChk_some cells long l (i + 1) r h
    · rw [if_neg h0] at h; cases h; exact h0
theorem goodL_of {l : List Ins} {cells : Int} (h : (checkP l cells).2 = 0) : goodL l := by
  unfold checkP at h
  by_cases h0 : l.length = 0 ∨ 600 < l.length
  · rw [if_pos h0] at h; exact absurd h (by decide)
  rw [if_neg h0] at h
  cases hc : insChk l cells l.length 0 with
  | some r => rw [hc] at h; exact absurd h (insChk_some _ _ _ _ _ hc)
  | none =>
    rw [hc] at h
    simp only at h
    refine ⟨fun e => h0 (.inl (by rw [e]; rfl)), by omega, fun x hx => insErr_ok x cells l.length (insChk_none _ _ _ _ hc x hx), fun x hx => ?_⟩
    rw [hx] at h
    cases hf : fallsK x.kind
    · rfl
    · simp [hf] at h
/-- a state that a machine of this text may have -/
def okS (l : List Ins) (fuel : Int) (s : St) : Prop := s.rg.length = 16 ∧ 0 ≤ s.at0 ∧ s.at0 < l.length ∧ 0 ≤ s.steps ∧ s.steps ≤ fuel
theorem goodL.falls {l : List Ins} (h : goodL l) {j : Nat} (hj : j < l.length) (hf : fallsK l[j].kind = true) : j + 1 < l.length := by
  by_cases e : j = l.length - 1
  · have := h.2.2.2 l[j] (by subst e; exact List.getElem?_eq_getElem hj)
    rw [hf] at this; cases this
  · omega
theorem goodL.at {l : List Ins} (h : goodL l) {j : Nat} (hj : j < l.length) : okR l[j] ∧ 1 ≤ l[j].kind ∧ l[j].kind ≤ 13 ∧ (l[j].kind = 10 ∨ l[j].kind = 11 ∨ l[j].kind = 12 → 0 ≤ l[j].n ∧ l[j].n < l.length) := h.2.2.1 _ (List.getElem_mem hj)
theorem okS_step {l : List Ins} {words fuel : Int} {s : St} (hl : goodL l) (h : okS l fuel s) (got : Int) : okS l fuel (stepS l words fuel s got) := by
  obtain ⟨hr, h0, h1, h2, h3⟩ := h
  unfold stepS
  split
  · split
    · exact ⟨hr, h0, h1, h2, h3⟩
    · rename_i hov hne
      obtain ⟨rg, at0, steps, over, value⟩ := s
      simp only at hne
      obtain ⟨j, rfl⟩ : ∃ j : Nat, at0 = j := ⟨at0.toNat, by simp only at h0; omega⟩
      simp only at hr h0 h1 h2 h3 ⊢
      have h4 : steps + 1 ≤ fuel := by omega
      have h5 : 0 ≤ steps + 1 := by omega
      have hj : j < l.length := by omega
      have hfl := fun hf => hl.falls (j := j) hj hf
      have hat := hl.at hj
      rw [show l.getD (j : Int).toNat default = l[j] from by simp [List.getD, List.getElem?_eq_getElem hj]]
      generalize l[j] = x at hfl hat ⊢
      have hn : ∀ s' : St, s'.rg.length = 16 → s'.at0 = j → s'.steps = steps + 1 → fallsK x.kind = true → okS l fuel (next s') := fun s' a b c d => ⟨a, by simp [next, b]; omega, by have := hfl d; simp [next, b]; omega, by simp only [next, c]; exact h5, by simp only [next, c]; exact h4⟩
      have he : ∀ how v, okS l fuel (ended ⟨rg, (j : Int), steps + 1, over, value⟩ how v) := fun how v => ⟨hr, h0, h1, h5, h4⟩
      have hp : ∀ v, fallsK x.kind = true → okS l fuel (putR ⟨rg, (j : Int), steps + 1, over, value⟩ x v) := fun v hf => hn _ (by simp [hr]) rfl rfl hf
      unfold doS
      split
      · exact he _ _
      rename_i k1
      split
      · exact he _ _
      rename_i k13
      split
      · rename_i hk
        have hf : fallsK x.kind = true := by rcases hk with e | e <;> simp [e, fallsK]
        unfold memS
        split
        · split
          · exact hp _ hf
          · exact hn _ hr rfl rfl hf
        · exact he _ _
      rename_i k67
      split
      · rename_i hk
        unfold branchS
        split
        · exact ⟨hr, (hat.2.2.2 hk).1, (hat.2.2.2 hk).2, h5, h4⟩
        · rename_i hb
          refine hn _ hr rfl rfl ?_
          rcases hk with e | e | e <;> simp [jumpB, e, fallsK] at hb ⊢
      rename_i kj
      have hf : fallsK x.kind = true := by simp [fallsK]; omega
      unfold reckonS
      repeat' split
      all_goals first | exact hp _ hf | exact he _ _ | exact hn _ hr rfl rfl hf
  · exact ⟨hr, h0, h1, h2, h3⟩
def s0 (n i k : Int) : St := ⟨[n, i, k, 0, 0, 0, 0, 0, 0, 0, 0, 0, 0, 0, 0, 0], 0, 0, 0, 0⟩
theorem okS_first {l : List Ins} {fuel : Int} (hl : goodL l) (hf : 1 ≤ fuel) (n i k : Int) : okS l fuel (s0 n i k) :=
  ⟨rfl, Int.le_refl _, by have := List.length_pos_iff.2 hl.1; simp [s0]; omega, Int.le_refl _, by simp [s0]; omega⟩
theorem newE_good {l : List Ins} {cells words fuel : Int} (h : newE l cells words fuel = 0) : goodL l ∧ 1 ≤ words ∧ words ≤ 64 ∧ 1 ≤ fuel ∧ fuel ≤ 4000 := by
  unfold newE at h
  split at h
  · rename_i hc
    split at h
    · exact absurd h (by decide)
    split at h
    · exact absurd h (by decide)
    exact ⟨goodL_of hc, by omega, by omega, by omega, by omega⟩
  · rename_i hc; exact absurd h hc
/-- a machine in memory, with its text -/
structure Mach (w : World) (p : Nat) (l : List Ins) (words fuel : Int) (first : List Value) (s : St) (Ac : Option Addr) (cc : Nat) : Prop where
  vm : vmAt w p s.cells (.slice Ac l.length cc) words fuel first
  row : insRow w l Ac
  ne : ∀ b o, Ac = some ⟨b, o, none⟩ → b < p
  good : goodL l
  ok : okS l fuel s
  fuel : fuel ≤ 4000
theorem Mach.below {w w' : World} {p : Nat} {l : List Ins} {words fuel : Int} {first : List Value} {s : St} {Ac : Option Addr} {cc : Nat} (h : Mach w p l words fuel first s Ac cc) (hB : Below w.heap.size w w') : Mach w' p l words fuel first s Ac cc :=
  ⟨h.vm.keep hB, h.row.keep hB, h.ne, h.good, h.ok, h.fuel⟩
theorem Mach.did {w w' : World} {p : Nat} {l : List Ins} {words fuel : Int} {first : List Value} {s s' : St} {Ac : Option Addr} {cc : Nat} (h : Mach w p l words fuel first s Ac cc) (hd : Did w p s' (.slice Ac l.length cc) words fuel first w') (hs : okS l fuel s') : Mach w' p l words fuel first s' Ac cc :=
  ⟨hd.2, h.row.far hd.1 (fun b o hb e => by have := h.ne b o hb; omega), h.ne, h.good, hs, h.fuel⟩
theorem Mach.step {w : World} {p : Nat} {l : List Ins} {words fuel : Int} {first : List Value} {s : St} {Ac : Option Addr} {cc : Nat} (h : Mach w p l words fuel first s Ac cc) (got : Int) :
    Calls Try.prog 12 #[.pointer (some ⟨p, 0, none⟩), .int .i64 got] w fun e w' => e = .returned (.bool (s.over == 0)) ∧ Keep (fun k => k = p) w w' ∧ Mach w' p l words fuel first (stepS l words fuel s got) Ac cc :=
  (step_calls w p Ac l cc words fuel first s h.vm h.ok.1 h.row (fun b o hb => by have := h.ne b o hb; omega) (by have := h.good.2.1; omega) (fun x hx => (h.good.2.2.1 x hx).1) h.ok.2.1 h.ok.2.2.1 h.ok.2.2.2.1 (by have := h.ok.2.2.2.2; have := h.fuel; omega) got).mono
    fun e w' hd => ⟨hd.1, hd.2.1, h.did hd.2 (okS_step h.good h.ok got)⟩
theorem Mach.want {w : World} {p : Nat} {l : List Ins} {words fuel : Int} {first : List Value} {s : St} {Ac : Option Addr} {cc : Nat} (h : Mach w p l words fuel first s Ac cc) :
    Calls Try.prog 11 #[.pointer (some ⟨p, 0, none⟩)] w fun e w' => e = .returned (.agg #[.int .i64 (wantS l words fuel s).1, .int .i64 (wantS l words fuel s).2.1, .int .i64 (wantS l words fuel s).2.2]) ∧ Below w.heap.size w w' :=
  want_calls w p Ac l cc words fuel first s h.vm h.ok.1 h.row (by have := h.good.2.1; omega) (fun x hx => (h.good.2.2.1 x hx).1) h.ok.2.1 h.ok.2.2.1
theorem Mach.now {w : World} {p : Nat} {l : List Ins} {words fuel : Int} {first : List Value} {s : St} {Ac : Option Addr} {cc : Nat} (h : Mach w p l words fuel first s Ac cc) :
    Calls Try.prog 16 #[.pointer (some ⟨p, 0, none⟩)] w fun e w' => e = .returned (.agg s.cells.toArray) ∧ Below w.heap.size w w' :=
  now_calls w p s.cells first _ words fuel s.one h.vm
/-- what New leaves -/
theorem Mach.new {w w' : World} {l : List Ins} {cells words fuel n i k : Int} {e : Ending} (hz : newE l cells words fuel = 0) (h : NewOK w l cells words fuel n i k e w') :
    ∃ p Ac cc, e = .returned (.tuple #[.pointer (some ⟨p, 0, none⟩), .int .i64 0]) ∧ w.heap.size ≤ p ∧ Below w.heap.size w w' ∧ Mach w' p l words fuel (s0 n i k).cells (s0 n i k) Ac cc := by
  obtain ⟨hb, h⟩ := h
  rw [if_pos hz] at h
  obtain ⟨p, Ac, cc, he, hp, hv, hr, hn⟩ := h
  have hg := newE_good hz
  exact ⟨p, Ac, cc, he, hp, hb, ⟨⟨hv, rfl, rfl⟩, hr, hn, hg.1, okS_first hg.1 hg.2.2.2.1 n i k, hg.2.2.2.2⟩⟩
end Go.Proofs.Ytnikcdcaaeljmaa.My
namespace Go.Proofs.Ytnikcdcaaeljmaa.My
open Go.RowKit Go.Proofs.Ytnikcdcaaeljmaa.NumA
set_option linter.unusedVariables false
set_option linter.unusedSimpArgs false
def aliveL : List Ins := [⟨2, 0, 3, 0, 0, 5⟩, ⟨6, 0, 4, 1, 0, 0⟩, ⟨1, 0, 0, 0, 0, 0⟩]
def aliveS : St := ⟨[0, 2, 0, 5, 7, 0, 0, 0, 0, 0, 0, 0, 0, 0, 0, 0], 2, 2, 0, 0⟩
def aliveS1 : St := ⟨[0, 2, 0, 5, 0, 0, 0, 0, 0, 0, 0, 0, 0, 0, 0, 0], 1, 1, 0, 0⟩
theorem alive_s1 : stepS aliveL 4 9 (s0 0 2 0) 0 = aliveS1 := by kernel_rfl
theorem alive_s2 : stepS aliveL 4 9 aliveS1 7 = aliveS := by kernel_rfl
theorem alive_w : wantS aliveL 4 9 aliveS1 = (1, 2, 0) := by kernel_rfl
theorem alive_new : newE aliveL 0 4 9 = 0 := by kernel_rfl
theorem alive_row (w : World) : insRow (w.alloc (.cells #[.int .i64 2, .int .i64 0, .int .i64 3, .int .i64 0, .int .i64 0, .int .i64 5, .int .i64 6, .int .i64 0, .int .i64 4, .int .i64 1, .int .i64 0, .int .i64 0, .int .i64 1, .int .i64 0, .int .i64 0, .int .i64 0, .int .i64 0, .int .i64 0] 76)) aliveL (some ⟨w.heap.size, 0, none⟩) :=
  insRow.of (n := 3) (c := 3) (Row.laid (w := w) (cs := #[.int .i64 2, .int .i64 0, .int .i64 3, .int .i64 0, .int .i64 0, .int .i64 5, .int .i64 6, .int .i64 0, .int .i64 4, .int .i64 1, .int .i64 0, .int .i64 0, .int .i64 1, .int .i64 0, .int .i64 0, .int .i64 0, .int .i64 0, .int .i64 0]) rfl rfl (by decide))
theorem blk_all {g : Nat} {t : TypeId} {w : World} {arr : Array Value} (vs : List Value) (hl : vs.length = arr.size) (h : w.heap[g]? = some (.cells arr t (0, 0))) : (w.setCells g 0 vs).heap[g]? = some (.cells vs.toArray t (0, 0)) := by
  rw [blk_sets vs 0 w arr (by omega) h]
  have : (arr.toList.drop (0 + vs.length)) = [] := List.drop_of_length_le (by simp; omega)
  rw [this]; simp
set_option maxRecDepth 100000 in
set_option maxHeartbeats 1000000 in
theorem alive_calls (w : World) : Calls Try.prog 9 #[] w fun e w' => e = .returned (.bool true) ∧ Below w.heap.size w w' := by
  go_enter Try.func9, Try.ntmps9
  go_wp2_with fail
  refine (vmNew_calls _ aliveL _ 3 0 4 9 0 2 0 (alive_row w) (by decide) _ (Below.refl _ _)).mono ?_
  intro y w2 hd
  obtain ⟨p, Ac, cc, hy, hp, hb2, hm2'⟩ := Mach.new alive_new hd
  subst hy
  have hm2 := Lib.hid hm2'
  have HP := Lib.hid (show w.heap.size ≤ p by simp at hp; omega)
  have HB2 := Lib.hid (((Below.refl w.heap.size w).al).trans (hb2.mono (by simp)))
  clear hd hp hb2 hm2'
  go_wp2_with fail
  refine ((hm2.out).step 0).mono ?_
  rintro y w3 ⟨rfl, k3, hm3'⟩
  rw [show ((s0 0 2 0).over == 0) = true from rfl]
  rw [alive_s1] at hm3'
  have hm3 := Lib.hid hm3'
  have HB3 := Lib.hid (HB2.out.trans (k3.toBelow HB2.out.size (fun k e => by subst e; exact HP.out)))
  clear k3 hm3'
  go_wp2_with fail
  refine ((hm3.out).want).mono ?_
  rintro y w4 ⟨rfl, hb4⟩
  rw [alive_w]
  have hm4 := Lib.hid (hm3.out.below hb4)
  have HB4 := Lib.hid (HB3.out.trans (hb4.mono HB3.out.size))
  clear hb4
  go_wp2_with fail
  refine ((hm4.out).step 7).mono ?_
  rintro y w5 ⟨rfl, k5, hm5'⟩
  rw [show (aliveS1.over == 0) = true from rfl]
  rw [alive_s2] at hm5'
  have hm5 := Lib.hid hm5'
  have HB5 := Lib.hid (HB4.out.trans (k5.toBelow HB4.out.size (fun k e => by subst e; exact HP.out)))
  clear k5 hm5'
  go_wp2_with fail
  refine (hm5.out.now).mono ?_
  rintro y w6 ⟨rfl, hb6⟩
  rw [show aliveS.cells.toArray = #[.int .i64 0, .int .i64 2, .int .i64 0, .int .i64 5, .int .i64 7, .int .i64 0, .int .i64 0, .int .i64 0, .int .i64 0, .int .i64 0, .int .i64 0, .int .i64 0, .int .i64 0, .int .i64 0, .int .i64 0, .int .i64 0, .int .i64 2, .int .i64 2, .int .i64 0, .int .i64 0] from rfl]
  have HB6 := Lib.hid (HB5.out.trans (hb6.mono HB5.out.size))
  clear hb6
  have hu7 := there_new (w := w6) (arr := #[.int .i64 0, .int .i64 0, .int .i64 0, .int .i64 0, .int .i64 0, .int .i64 0, .int .i64 0, .int .i64 0, .int .i64 0, .int .i64 0, .int .i64 0, .int .i64 0, .int .i64 0, .int .i64 0, .int .i64 0, .int .i64 0, .int .i64 0, .int .i64 0, .int .i64 0, .int .i64 0]) (t := 45) 20 (by decide)
  have hx7 := blk_all (w := w6.alloc (.cells #[.int .i64 0, .int .i64 0, .int .i64 0, .int .i64 0, .int .i64 0, .int .i64 0, .int .i64 0, .int .i64 0, .int .i64 0, .int .i64 0, .int .i64 0, .int .i64 0, .int .i64 0, .int .i64 0, .int .i64 0, .int .i64 0, .int .i64 0, .int .i64 0, .int .i64 0, .int .i64 0] 45)) [.int .i64 0, .int .i64 2, .int .i64 0, .int .i64 5, .int .i64 7, .int .i64 0, .int .i64 0, .int .i64 0, .int .i64 0, .int .i64 0, .int .i64 0, .int .i64 0, .int .i64 0, .int .i64 0, .int .i64 0, .int .i64 0, .int .i64 2, .int .i64 2, .int .i64 0, .int .i64 0] (by rfl) (blk_new w6 _)
  have HB7 := Lib.hid (HB6.out.trans ((below_sets (Nat.le_refl _) [.int .i64 0, .int .i64 2, .int .i64 0, .int .i64 5, .int .i64 7, .int .i64 0, .int .i64 0, .int .i64 0, .int .i64 0, .int .i64 0, .int .i64 0, .int .i64 0, .int .i64 0, .int .i64 0, .int .i64 0, .int .i64 0, .int .i64 2, .int .i64 2, .int .i64 0, .int .i64 0] 0 ((Below.refl w6.heap.size w6).al (o := .cells #[.int .i64 0, .int .i64 0, .int .i64 0, .int .i64 0, .int .i64 0, .int .i64 0, .int .i64 0, .int .i64 0, .int .i64 0, .int .i64 0, .int .i64 0, .int .i64 0, .int .i64 0, .int .i64 0, .int .i64 0, .int .i64 0, .int .i64 0, .int .i64 0, .int .i64 0, .int .i64 0] 45))).mono HB6.out.size))
  have HX7 := Lib.hid hx7
  clear hx7
  go_wp2_with ((refine wpList_store_mid (by rfl) 45 _ _ (by rfl) w6.heap.size 0 #[.int .i64 0, .int .i64 2, .int .i64 0, .int .i64 5, .int .i64 7, .int .i64 0, .int .i64 0, .int .i64 0, .int .i64 0, .int .i64 0, .int .i64 0, .int .i64 0, .int .i64 0, .int .i64 0, .int .i64 0, .int .i64 0, .int .i64 2, .int .i64 2, .int .i64 0, .int .i64 0] (by rfl) (by rfl) hu7 (by kernel_rfl) (by simp [Value.oneCell']) ?_); generalize World.setCells _ _ _ _ = w7 at HX7 HB7; have c4 := blk_cell HX7.out 4; have c16 := blk_cell HX7.out 16; have c17 := blk_cell HX7.out 17; have c18 := blk_cell HX7.out 18; clear hu7)
  go_ret
  exact ⟨rfl, HB7.out⟩
end Go.Proofs.Ytnikcdcaaeljmaa.My
