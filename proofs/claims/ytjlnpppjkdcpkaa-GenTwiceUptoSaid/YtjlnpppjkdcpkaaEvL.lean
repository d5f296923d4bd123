/- Laws of what source texts do: texts behind one another, more ticks. No program in sight. -/
import Derived.Test.YtjlnpppjkdcpkaaEvP
namespace Go.Proofs.Ytjlnpppjkdcpkaa.My
open Go.RowKit Go.Proofs.Ytjlnpppjkdcpkaa.NumA
theorem Does.appLeft {B : Int} {m : List Stmt} {x : Int × Int} : ∀ {l : List Stmt} {S S' : Ev}, Does B (.seq l) S S' (some x) → Does B (.seq (l ++ m)) S S' (some x)
  | [], _, _, h => by cases h
  | _ :: _, _, _, h => by
    cases h with
    | first h => exact .first h
    | next h h' => exact .next h (Does.appLeft h')
theorem Does.app {B : Int} {m : List Stmt} {S2 : Ev} {o : Option (Int × Int)} : ∀ {l : List Stmt} {S S' : Ev}, Does B (.seq l) S S' none → Does B (.seq m) S' S2 o → Does B (.seq (l ++ m)) S S2 o
  | [], _, _, h, h2 => by cases h; exact h2
  | _ :: _, _, _, h, h2 => by
    cases h with
    | next h h' => exact .next h (Does.app h' h2)
theorem Does.parts {B : Int} {m : List Stmt} {o : Option (Int × Int)} : ∀ {l : List Stmt} {S S' : Ev}, Does B (.seq (l ++ m)) S S' o → (∃ x, o = some x ∧ Does B (.seq l) S S' (some x)) ∨ ∃ S1, Does B (.seq l) S S1 none ∧ Does B (.seq m) S1 S' o
  | [], S, _, h => .inr ⟨S, .nil, h⟩
  | s :: l, _, _, h => by
    rw [List.cons_append] at h
    cases h with
    | first h => exact .inl ⟨_, rfl, .first h⟩
    | next h h' =>
      rcases Does.parts h' with ⟨x, rfl, h2⟩ | ⟨S1, h2, h3⟩
      · exact .inl ⟨x, rfl, .next h h2⟩
      · exact .inr ⟨S1, .next h h2, h3⟩
def stopS : Stmt := .mk 9 ByteArray.empty 0 [] [] []
theorem Does.stop {B : Int} {S S' : Ev} {o : Option (Int × Int)} (h : Does B (.stmt stopS) S S' o) : ∃ x, o = some x := by
  cases h with
  | loops hk => exact absurd hk (by decide)
  | spent => exact ⟨_, rfl⟩
  | fell => exact ⟨_, rfl⟩
  | does => exact ⟨(1, 0), by simp [doV, stopS, Stmt.kind]⟩
  | thn hk => exact absurd hk (by decide)
  | els hk => exact absurd hk (by decide)
/-- what stands behind a stop changes nothing -/
theorem Does.stops {B : Int} {l more : List Stmt} {S S' : Ev} {o : Option (Int × Int)} (h : Does B (.block (l ++ [stopS] ++ more)) S S' o) : Does B (.block (l ++ [stopS])) S S' o := by
  have key : ∀ {S' o}, Does B (.seq (l ++ [stopS] ++ more)) S S' o → ∃ x, o = some x ∧ Does B (.seq (l ++ [stopS])) S S' (some x) := by
    intro S' o h
    rcases Does.parts h with h | ⟨S1, h1, h2⟩
    · exact h
    · rcases Does.parts h1 with ⟨x, hx, _⟩ | ⟨S2, h3, h4⟩
      · cases hx
      · cases h4 with
        | next h5 _ => obtain ⟨x, hx⟩ := h5.stop; cases hx
  cases h with
  | block h => obtain ⟨x, hx, _⟩ := key h; cases hx
  | blockLeft h => obtain ⟨x, hx, h2⟩ := key h; cases hx; exact .blockLeft h2
mutual
theorem exprV_ticks (S : Ev) (t : Int) : ∀ e, exprV { S with ticks := t } e = exprV S e
  | .mk k n s o la => by rw [exprV, exprV, exprsV_ticks S t la]; rfl
theorem exprsV_ticks (S : Ev) (t : Int) : ∀ l, exprsV { S with ticks := t } l = exprsV S l
  | [] => rfl
  | e :: l => by rw [exprsV, exprsV, exprV_ticks S t e, exprsV_ticks S t l]
end
theorem doV_tick (S : Ev) (s : Stmt) (a b : Int) : doV S.tick s a b = ((doV S s a b).1.tick, (doV S s a b).2) := by
  unfold doV
  have h1 : S.tick.names = S.names := rfl
  have h2 : S.tick.mem = S.mem := rfl
  rw [h1, h2]
  repeat' split
  all_goals rfl
/-- one tick more ahead, one more at most -/
theorem Does.ahead {B : Int} {t : Task} {S S' : Ev} {o : Option (Int × Int)} (h : Does B t S S' o) : Does (B + 1) t S.tick S'.tick o := by
  have ne : ∀ {S : Ev}, S.ticks ≠ B → S.tick.ticks ≠ B + 1 := fun h => by simp only [Ev.tick]; omega
  have eq : ∀ {S : Ev}, S.ticks = B → S.tick.ticks = B + 1 := fun h => by simp only [Ev.tick]; omega
  have ex : ∀ {S : Ev} {l : List Expr} {r}, exprsV S.tick l = r → exprsV S.tick.tick l = r := fun {S l r} h => by rw [← h]; exact exprsV_ticks S.tick _ l
  induction h with
  | nil => exact .nil
  | first _ ih => exact .first ih
  | next _ _ ih1 ih2 => exact .next ih1 ih2
  | block _ ih => exact .block ih
  | blockLeft _ ih => exact .blockLeft ih
  | loops hk _ ih => exact .loops hk ih
  | spent hk ht => exact .spent hk (eq ht)
  | fell hk ht he => exact .fell hk (ne ht) (ex he)
  | @does s S vs hk hk2 ht he =>
    have h := Does.does (B := B + 1) hk hk2 (ne ht) (ex he)
    rw [doV_tick] at h
    exact h
  | thn hk ht he hv _ ih => exact .thn hk (ne ht) (ex he) hv ih
  | els hk ht he hv _ ih => exact .els hk (ne ht) (ex he) hv ih
  | loopSpent ht => exact .loopSpent (eq ht)
  | loopFell ht he => exact .loopFell (ne ht) (ex he)
  | loopEnd ht he hv => exact .loopEnd (ne ht) (ex he) hv
  | loopLeft ht he hv _ ih => exact .loopLeft (ne ht) (ex he) hv ih
  | again ht he hv _ _ ih1 ih2 => exact .again (ne ht) (ex he) hv ih1 ih2
theorem doV_ticks (S : Ev) (s : Stmt) (a b : Int) : (doV S s a b).1.ticks = S.ticks := by
  unfold doV
  repeat' split
  all_goals rfl
theorem doV_more (S : Ev) (s : Stmt) (a b : Int) : S.outs <+: (doV S s a b).1.outs ∧ S.intos <+: (doV S s a b).1.intos := by
  unfold doV
  repeat' split
  all_goals first | exact ⟨List.prefix_rfl, List.prefix_rfl⟩ | exact ⟨List.prefix_append _ _, List.prefix_rfl⟩ | exact ⟨List.prefix_rfl, List.prefix_append _ _⟩
theorem Does.ticks {B : Int} {t : Task} {S S' : Ev} {o : Option (Int × Int)} (h : Does B t S S' o) : S.ticks ≤ S'.ticks ∧ (S.ticks ≤ B → S'.ticks ≤ B) := by
  induction h with
  | nil => exact ⟨Int.le_refl _, id⟩
  | first _ ih => exact ih
  | next _ _ ih1 ih2 => exact ⟨Int.le_trans ih1.1 ih2.1, fun h => ih2.2 (ih1.2 h)⟩
  | block _ ih => exact ih
  | blockLeft _ ih => exact ih
  | loops hk _ ih => exact ih
  | spent hk ht => exact ⟨Int.le_refl _, id⟩
  | fell hk ht he => exact ⟨by simp only [Ev.tick]; omega, fun h => by simp only [Ev.tick]; omega⟩
  | does hk hk2 ht he => rw [doV_ticks]; exact ⟨by simp only [Ev.tick]; omega, fun h => by simp only [Ev.tick]; omega⟩
  | thn hk ht he hv _ ih => simp only [Ev.tick] at ih; exact ⟨by omega, fun h => ih.2 (by omega)⟩
  | els hk ht he hv _ ih => simp only [Ev.tick] at ih; exact ⟨by omega, fun h => ih.2 (by omega)⟩
  | loopSpent ht => exact ⟨Int.le_refl _, id⟩
  | loopFell ht he => exact ⟨by simp only [Ev.tick]; omega, fun h => by simp only [Ev.tick]; omega⟩
  | loopEnd ht he hv => exact ⟨by simp only [Ev.tick]; omega, fun h => by simp only [Ev.tick]; omega⟩
  | loopLeft ht he hv _ ih => simp only [Ev.tick] at ih; exact ⟨by omega, fun h => ih.2 (by omega)⟩
  | again ht he hv _ _ ih1 ih2 => simp only [Ev.tick] at ih1; exact ⟨by omega, fun h => ih2.2 (ih1.2 (by omega))⟩
theorem Does.outs {B : Int} {t : Task} {S S' : Ev} {o : Option (Int × Int)} (h : Does B t S S' o) : S.outs <+: S'.outs ∧ S.intos <+: S'.intos := by
  induction h with
  | nil => exact ⟨List.prefix_rfl, List.prefix_rfl⟩
  | first _ ih => exact ih
  | next _ _ ih1 ih2 => exact ⟨ih1.1.trans ih2.1, ih1.2.trans ih2.2⟩
  | block _ ih => exact ih
  | blockLeft _ ih => exact ih
  | loops hk _ ih => exact ih
  | spent hk ht => exact ⟨List.prefix_rfl, List.prefix_rfl⟩
  | fell hk ht he => exact ⟨List.prefix_rfl, List.prefix_rfl⟩
  | @does s S vs hk hk2 ht he => exact doV_more S.tick s _ _
  | thn hk ht he hv _ ih => exact ih
  | els hk ht he hv _ ih => exact ih
  | loopSpent ht => exact ⟨List.prefix_rfl, List.prefix_rfl⟩
  | loopFell ht he => exact ⟨List.prefix_rfl, List.prefix_rfl⟩
  | loopEnd ht he hv => exact ⟨List.prefix_rfl, List.prefix_rfl⟩
  | loopLeft ht he hv _ ih => exact ih
  | again ht he hv _ _ ih1 ih2 => exact ⟨ih1.1.trans ih2.1, ih1.2.trans ih2.2⟩
/-- what has ended ends so with every greater bound; what is out of ticks has put out a beginning -/
theorem Does.more {A B : Int} {t : Task} {S S1 : Ev} {o : Option (Int × Int)} (hAB : A ≤ B) (h : Does A t S S1 o) : S.ticks ≤ A → Does B t S S1 o ∨ (o = some (0, 0) ∧ S1.ticks = A ∧ ∀ S2 o2, Does B t S S2 o2 → S1.outs <+: S2.outs ∧ S1.intos <+: S2.intos ∧ A ≤ S2.ticks) := by
  induction h with
  | nil => exact fun _ => .inl .nil
  | first _ ih =>
    intro hs
    rcases ih hs with h | ⟨ho, ht, h⟩
    · exact .inl (.first h)
    · refine .inr ⟨ho, ht, fun S2 o2 h2 => ?_⟩
      cases h2 with
      | first h3 => exact h _ _ h3
      | next h3 h4 => obtain ⟨a, b, c⟩ := h _ _ h3; exact ⟨a.trans h4.outs.1, b.trans h4.outs.2, Int.le_trans c h4.ticks.1⟩
  | next h1 _ ih1 ih2 =>
    intro hs
    rcases ih1 hs with h | ⟨ho, _⟩
    · rcases ih2 (h1.ticks.2 hs) with h' | ⟨ho, ht, h'⟩
      · exact .inl (.next h h')
      · refine .inr ⟨ho, ht, fun S2 o2 h2 => ?_⟩
        cases h2 with
        | first h3 => have := (h.same h3).2; cases this
        | next h3 h4 => obtain ⟨rfl, _⟩ := h.same h3; exact h' _ _ h4
    · cases ho
  | block _ ih =>
    intro hs
    rcases ih hs with h | ⟨ho, _⟩
    · exact .inl (.block h)
    · cases ho
  | blockLeft _ ih =>
    intro hs
    rcases ih hs with h | ⟨ho, ht, h⟩
    · exact .inl (.blockLeft h)
    · refine .inr ⟨ho, ht, fun S2 o2 h2 => ?_⟩
      cases h2 with
      | block h3 => have q := h _ _ h3; exact q
      | blockLeft h3 => exact h _ _ h3
  | loops hk _ ih =>
    intro hs
    rcases ih hs with h | ⟨ho, ht, h⟩
    · exact .inl (.loops hk h)
    · refine .inr ⟨ho, ht, fun S2 o2 h2 => ?_⟩
      cases h2 with
      | loops _ h3 => exact h _ _ h3
      | thn hk2 => rw [hk] at hk2; exact absurd hk2 (by decide)
      | els hk2 => rw [hk] at hk2; exact absurd hk2 (by decide)
      | spent hk2 => exact absurd hk hk2
      | fell hk2 => exact absurd hk hk2
      | does hk2 => exact absurd hk hk2
  | spent hk ht => exact fun hs => .inr ⟨rfl, ht, fun S2 o2 h2 => ⟨h2.outs.1, h2.outs.2, by have := h2.ticks.1; omega⟩⟩
  | fell hk ht he => exact fun hs => .inl (.fell hk (by omega) he)
  | does hk hk2 ht he => exact fun hs => .inl (.does hk hk2 (by omega) he)
  | @thn s S S' o vs hk ht he hv _ ih =>
    intro hs
    rcases ih (by simp only [Ev.tick]; omega) with h | ⟨ho, ht2, h⟩
    · exact .inl (.thn hk (by omega) he hv h)
    · refine .inr ⟨ho, ht2, fun S2 o2 h2 => ?_⟩
      cases h2 with
      | thn _ _ _ _ h3 => exact h _ _ h3
      | els _ _ he2 hv2 => rw [he] at he2; cases he2; exact absurd hv2 hv
      | loops hk2 => rw [hk] at hk2; exact absurd hk2 (by decide)
      | spent _ ht3 => omega
      | fell _ _ he2 => rw [he] at he2; cases he2
      | does _ hk2 => exact absurd hk hk2
  | @els s S S' o vs hk ht he hv _ ih =>
    intro hs
    rcases ih (by simp only [Ev.tick]; omega) with h | ⟨ho, ht2, h⟩
    · exact .inl (.els hk (by omega) he hv h)
    · refine .inr ⟨ho, ht2, fun S2 o2 h2 => ?_⟩
      cases h2 with
      | els _ _ _ _ h3 => exact h _ _ h3
      | thn _ _ he2 hv2 => rw [he] at he2; cases he2; exact absurd hv hv2
      | loops hk2 => rw [hk] at hk2; exact absurd hk2 (by decide)
      | spent _ ht3 => omega
      | fell _ _ he2 => rw [he] at he2; cases he2
      | does _ hk2 => exact absurd hk hk2
  | loopSpent ht => exact fun hs => .inr ⟨rfl, ht, fun S2 o2 h2 => ⟨h2.outs.1, h2.outs.2, by have := h2.ticks.1; omega⟩⟩
  | loopFell ht he => exact fun hs => .inl (.loopFell (by omega) he)
  | loopEnd ht he hv => exact fun hs => .inl (.loopEnd (by omega) he hv)
  | loopLeft ht he hv _ ih =>
    intro hs
    rcases ih (by simp only [Ev.tick]; omega) with h | ⟨ho, ht2, h⟩
    · exact .inl (.loopLeft (by omega) he hv h)
    · refine .inr ⟨ho, ht2, fun S2 o2 h2 => ?_⟩
      cases h2 with
      | loopLeft _ _ _ h3 => exact h _ _ h3
      | again _ _ _ h3 h4 => obtain ⟨a, b, c⟩ := h _ _ h3; exact ⟨a.trans h4.outs.1, b.trans h4.outs.2, Int.le_trans c h4.ticks.1⟩
      | loopSpent ht3 => omega
      | loopFell _ he2 => rw [he] at he2; cases he2
      | loopEnd _ he2 hv2 => rw [he] at he2; cases he2; exact absurd hv2 hv
  | again ht he hv h1 _ ih1 ih2 =>
    intro hs
    have hs1 := h1.ticks.2 (by simp only [Ev.tick]; omega)
    rcases ih1 (by simp only [Ev.tick]; omega) with h | ⟨ho, _⟩
    · rcases ih2 hs1 with h' | ⟨ho, ht2, h'⟩
      · exact .inl (.again (by omega) he hv h h')
      · refine .inr ⟨ho, ht2, fun S2 o2 h2 => ?_⟩
        cases h2 with
        | loopLeft _ _ _ h3 => have := (h.same h3).2; cases this
        | again _ _ _ h3 h4 => obtain ⟨rfl, _⟩ := h.same h3; exact h' _ _ h4
        | loopSpent ht3 => omega
        | loopFell _ he2 => rw [he] at he2; cases he2
        | loopEnd _ he2 hv2 => rw [he] at he2; cases he2; exact absurd hv2 hv
    · cases ho
end Go.Proofs.Ytjlnpppjkdcpkaa.My
