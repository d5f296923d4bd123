/- What a source text does where all names are found; in plain Lean, no program in sight. -/
import Derived.Test.YtjlnpppjkdcpkaaEREvNs
import Derived.Test.YtjlnpppjkdcpkaaEREv64
namespace Go.Proofs.Ytjlnpppjkdcpkaa.My
open Go.RowKit Go.Proofs.Ytjlnpppjkdcpkaa.NumA
set_option linter.unusedVariables false
set_option linter.unusedSimpArgs false
/-- as9 Does, and no name was missed -/
inductive DoesF (B : Int) : Task → Ev → Ev → Option (Int × Int) → Prop
 | nil {S} : DoesF B (.seq []) S S none
 | first {s l S S' x} : DoesF B (.stmt s) S S' (some x) → DoesF B (.seq (s :: l)) S S' (some x)
 | next {s l S S' S'' o} : DoesF B (.stmt s) S S' none → DoesF B (.seq l) S' S'' o → DoesF B (.seq (s :: l)) S S'' o
 | block {l S S'} : S.names.length ≤ S'.names.length → DoesF B (.seq l) S S' none → DoesF B (.block l) S (S'.back S.names.length) none
 | blockLeft {l S S' x} : DoesF B (.seq l) S S' (some x) → DoesF B (.block l) S S' (some x)
 | loops {s S S' o} : s.kind = 7 → DoesF B (.loop s) S S' o → DoesF B (.stmt s) S S' o
 | spent {s S} : s.kind ≠ 7 → S.ticks = B → DoesF B (.stmt s) S S (some (0, 0))
 | fell {s S h v} : s.kind ≠ 7 → S.ticks ≠ B → (∀ u, exprsV S.tick s.args ≠ .left 0 u) → exprsV S.tick s.args = .left h v → DoesF B (.stmt s) S S.tick (some (h, v))
 | does {s S vs} : s.kind ≠ 7 → s.kind ≠ 6 → S.ticks ≠ B → (s.kind = 2 → ∃ i, lastIdx S.names s.name = some i) → exprsV S.tick s.args = .ok vs → DoesF B (.stmt s) S (doV S.tick s (vs.getD 0 0) (vs.getD 1 0)).1 (doV S.tick s (vs.getD 0 0) (vs.getD 1 0)).2
 | thn {s S S' o vs} : s.kind = 6 → S.ticks ≠ B → exprsV S.tick s.args = .ok vs → vs.getD 0 0 ≠ 0 → DoesF B (.block s.body) S.tick S' o → DoesF B (.stmt s) S S' o
 | els {s S S' o vs} : s.kind = 6 → S.ticks ≠ B → exprsV S.tick s.args = .ok vs → vs.getD 0 0 = 0 → DoesF B (.block s.els) S.tick S' o → DoesF B (.stmt s) S S' o
 | loopSpent {s S} : S.ticks = B → DoesF B (.loop s) S S (some (0, 0))
 | loopFell {s S h v} : S.ticks ≠ B → (∀ u, exprsV S.tick s.args ≠ .left 0 u) → exprsV S.tick s.args = .left h v → DoesF B (.loop s) S S.tick (some (h, v))
 | loopEnd {s S vs} : S.ticks ≠ B → exprsV S.tick s.args = .ok vs → vs.getD 0 0 = 0 → DoesF B (.loop s) S S.tick none
 | loopLeft {s S S' x vs} : S.ticks ≠ B → exprsV S.tick s.args = .ok vs → vs.getD 0 0 ≠ 0 → DoesF B (.block s.body) S.tick S' (some x) → DoesF B (.loop s) S S' (some x)
 | again {s S S' S'' o vs} : S.ticks ≠ B → exprsV S.tick s.args = .ok vs → vs.getD 0 0 ≠ 0 → DoesF B (.block s.body) S.tick S' none → DoesF B (.loop s) S' S'' o → DoesF B (.loop s) S S'' o
theorem DoesF.does_ {B : Int} {t : Task} {S S' : Ev} {o : Option (Int × Int)} (h : DoesF B t S S' o) : Does B t S S' o := by
 induction h with
 | nil => exact .nil
 | first _ ih => exact .first ih
 | next _ _ ih1 ih2 => exact .next ih1 ih2
 | block _ _ ih => exact .block ih
 | blockLeft _ ih => exact .blockLeft ih
 | loops h _ ih => exact .loops h ih
 | spent h1 h2 => exact .spent h1 h2
 | fell h1 h2 _ h3 => exact .fell h1 h2 h3
 | does h1 h2 h3 _ h4 => exact .does h1 h2 h3 h4
 | thn h1 h2 h3 h4 _ ih => exact .thn h1 h2 h3 h4 ih
 | els h1 h2 h3 h4 _ ih => exact .els h1 h2 h3 h4 ih
 | loopSpent h => exact .loopSpent h
 | loopFell h1 _ h2 => exact .loopFell h1 h2
 | loopEnd h1 h2 h3 => exact .loopEnd h1 h2 h3
 | loopLeft h1 h2 h3 _ ih => exact .loopLeft h1 h2 h3 ih
 | again h1 h2 h3 _ _ ih1 ih2 => exact .again h1 h2 h3 ih1 ih2
/-- names that have registers are found -/
theorem Does.found {B : Int} {t : Task} {S S' : Ev} {o : Option (Int × Int)} (h : Does B t S S' o) : ∀ T : Sc, S.names = baseN ++ T.names → t.known T → DoesF B t S S' o := by
 induction h with
 | nil => exact fun _ _ _ => .nil
 | @first s l S S' x _ ih =>
  intro T hT hk; simp only [Task.known, stmtsS] at hk
  by_cases h1 : (stmtS T s).1 = 0
  ·exact .first (ih T hT h1)
  ·rw [if_neg h1] at hk; exact absurd hk h1
 | @next s l S S' S'' o d1 _ ih1 ih2 =>
  intro T hT hk; simp only [Task.known, stmtsS] at hk
  by_cases h1 : (stmtS T s).1 = 0
  ·rw [if_pos h1] at hk
   exact .next (ih1 T hT h1) (ih2 (stmtS T s).2 ((d1.known T hT h1).1 rfl) hk)
  ·rw [if_neg h1] at hk; exact absurd hk h1
 | @block l S S' d ih =>
  intro T hT hk; exact .block d.grow (ih T hT (by simp only [Task.known] at hk ⊢; rw [blockS_one] at hk; exact hk))
 | @blockLeft l S S' x _ ih =>
  intro T hT hk; exact .blockLeft (ih T hT (by simp only [Task.known] at hk ⊢; rw [blockS_one] at hk; exact hk))
 | @loops s S S' o h7 _ ih =>
  intro T hT hk; obtain ⟨a1, a2, a3, a4, a5⟩ := stmtS_ok hk; have hn : (kindS (exprsS T s.args).2 s.kind s.name s.cell).2.names = T.names := by rw [kindS_other (by rw [h7]; decide), exprsS_names]
  exact .loops h7 (ih T hT ⟨a1, _, hn, a3⟩)
 | spent h1 h2 => exact fun _ _ _ => .spent h1 h2
 | @fell s S h v h7 hB hv =>
  intro T hT hk; obtain ⟨a1, _⟩ := stmtS_ok hk; exact .fell h7 hB (exprsV_found (S := S.tick) s.args T hT a1) hv
 | @does s S vs h7 h6 hB hv =>
  intro T hT hk; obtain ⟨a1, a2, a3, a4, a5⟩ := stmtS_ok hk; refine .does h7 h6 hB (fun h2 => ?_) hv
  have hd : kindS (exprsS T s.args).2 s.kind s.name s.cell = look (exprsS T s.args).2 s.name := by unfold kindS; rw [if_neg (by omega), if_pos h2]
  rw [hd] at a2; obtain ⟨i, hi⟩ := look_found a2; rw [exprsS_names] at hi; exact ⟨i, by rw [hT]; exact hi⟩
 | @thn s S S' o vs h6 hB hv h0 _ ih =>
  intro T hT hk; obtain ⟨a1, a2, a3, a4, a5⟩ := stmtS_ok hk; have hn : (kindS (exprsS T s.args).2 s.kind s.name s.cell).2.names = T.names := by rw [kindS_other (by rw [h6]; decide), exprsS_names]
  exact .thn h6 hB hv h0 (ih _ (show S.tick.names = baseN ++ (kindS (exprsS T s.args).2 s.kind s.name s.cell).2.names by rw [hn]; exact hT) a3)
 | @els s S S' o vs h6 hB hv h0 _ ih =>
  intro T hT hk; obtain ⟨a1, a2, a3, a4, a5⟩ := stmtS_ok hk; have hn : (kindS (exprsS T s.args).2 s.kind s.name s.cell).2.names = T.names := by rw [kindS_other (by rw [h6]; decide), exprsS_names]
  exact .els h6 hB hv h0 (ih _ (show S.tick.names = baseN ++ (blockS (kindS (exprsS T s.args).2 s.kind s.name s.cell).2 s.body).2.names by rw [blockS_same, hn]; exact hT) a4)
 | loopSpent hB => exact fun _ _ _ => .loopSpent hB
 | @loopFell s S h v hB hv => exact fun T hT hk => .loopFell hB (exprsV_found (S := S.tick) s.args T hT hk.1) hv
 | loopEnd h1 h2 h3 => exact fun _ _ _ => .loopEnd h1 h2 h3
 | @loopLeft s S S' x vs hB hv h0 _ ih =>
  intro T hT hk; obtain ⟨T', hn, hb⟩ := hk.2; exact .loopLeft hB hv h0 (ih T' (by rw [hn]; exact hT) hb)
 | @again s S S' S'' o vs hB hv h0 d1 _ ih1 ih2 =>
  intro T hT hk; obtain ⟨T', hn, hb⟩ := hk.2; have h1 := (d1.known T' (by rw [hn]; exact hT) hb).1 rfl
  simp only [Task.after] at h1
  rw [hn] at h1; exact .again hB hv h0 (ih1 T' (by rw [hn]; exact hT) hb) (ih2 T h1 hk)
theorem doV_mem (S : Ev) (s : Stmt) (a b : Int) : (doV S s a b).1.mem.length = S.mem.length := by
 unfold doV; repeat' split
 all_goals simp
theorem Does.memlen {B : Int} {t : Task} {S S' : Ev} {o : Option (Int × Int)} (h : Does B t S S' o) : S'.mem.length = S.mem.length := by
 induction h with
 | nil => rfl
 | first _ ih => exact ih
 | next _ _ ih1 ih2 => exact ih2.trans ih1
 | block _ ih => exact ih
 | blockLeft _ ih => exact ih
 | loops _ _ ih => exact ih
 | spent => rfl
 | fell => rfl
 | @does s S vs => exact doV_mem _ _ _ _
 | thn _ _ _ _ _ ih => exact ih
 | els _ _ _ _ _ ih => exact ih
 | loopSpent => rfl
 | loopFell => rfl
 | loopEnd => rfl
 | loopLeft _ _ _ _ ih => exact ih
 | again _ _ _ _ _ ih1 ih2 => exact ih2.trans ih1
end Go.Proofs.Ytjlnpppjkdcpkaa.My
