/- Laws of what source texts do: texts behind one another, more ticks. No program in sight. -/
import Derived.Test.YtjlnpppjkdcpkaaGfEvP
namespace Go.Proofs.Ytjlnpppjkdcpkaa.My
open Go.RowKit Go.Proofs.Ytjlnpppjkdcpkaa.NumA
theorem Does.app {B : Int} {m : List Stmt} {S2 : Ev} {o : Option (Int × Int)} : ∀ {l : List Stmt} {S S' : Ev}, Does B (.seq l) S S' none → Does B (.seq m) S' S2 o → Does B (.seq (l ++ m)) S S2 o
  | [], _, _, h, h2 => by cases h; exact h2
  | _ :: _, _, _, h, h2 => by
    cases h with
    | next h h' => exact .next h (Does.app h' h2)
theorem doV_ticks (S : Ev) (s : Stmt) (a b : Int) : (doV S s a b).1.ticks = S.ticks := by
  unfold doV
  repeat' split
  all_goals rfl
theorem doV_more (S : Ev) (s : Stmt) (a b : Int) : S.outs <+: (doV S s a b).1.outs ∧ S.intos <+: (doV S s a b).1.intos := by
  unfold doV
  repeat' split
  all_goals first | exact ⟨List.prefix_rfl, List.prefix_rfl⟩ | exact ⟨List.prefix_append _ _, List.prefix_rfl⟩ | exact ⟨List.prefix_rfl, List.prefix_append _ _⟩
theorem Does.ticks {B : Int} {t : Task} {S S' : Ev} {o : Option (Int × Int)} (h : Does B t S S' o) : S.ticks ≤ S'.ticks ∧ (S.ticks ≤ B → S'.ticks ≤ B) := by
  induction h with
  | nil => exact ⟨Int.le_refl _, id⟩
  | first _ ih => exact ih
  | next _ _ ih1 ih2 => exact ⟨Int.le_trans ih1.1 ih2.1, fun h => ih2.2 (ih1.2 h)⟩
  | block _ ih => exact ih
  | blockLeft _ ih => exact ih
  | loops hk _ ih => exact ih
  | spent hk ht => exact ⟨Int.le_refl _, id⟩
  | fell hk ht he => exact ⟨by simp only [Ev.tick]; omega, fun h => by simp only [Ev.tick]; omega⟩
  | does hk hk2 ht he => rw [doV_ticks]; exact ⟨by simp only [Ev.tick]; omega, fun h => by simp only [Ev.tick]; omega⟩
  | thn hk ht he hv _ ih => simp only [Ev.tick] at ih; exact ⟨by omega, fun h => ih.2 (by omega)⟩
  | els hk ht he hv _ ih => simp only [Ev.tick] at ih; exact ⟨by omega, fun h => ih.2 (by omega)⟩
  | loopSpent ht => exact ⟨Int.le_refl _, id⟩
  | loopFell ht he => exact ⟨by simp only [Ev.tick]; omega, fun h => by simp only [Ev.tick]; omega⟩
  | loopEnd ht he hv => exact ⟨by simp only [Ev.tick]; omega, fun h => by simp only [Ev.tick]; omega⟩
  | loopLeft ht he hv _ ih => simp only [Ev.tick] at ih; exact ⟨by omega, fun h => ih.2 (by omega)⟩
  | again ht he hv _ _ ih1 ih2 => simp only [Ev.tick] at ih1; exact ⟨by omega, fun h => ih2.2 (ih1.2 (by omega))⟩
theorem Does.outs {B : Int} {t : Task} {S S' : Ev} {o : Option (Int × Int)} (h : Does B t S S' o) : S.outs <+: S'.outs ∧ S.intos <+: S'.intos := by
  induction h with
  | nil => exact ⟨List.prefix_rfl, List.prefix_rfl⟩
  | first _ ih => exact ih
  | next _ _ ih1 ih2 => exact ⟨ih1.1.trans ih2.1, ih1.2.trans ih2.2⟩
  | block _ ih => exact ih
  | blockLeft _ ih => exact ih
  | loops hk _ ih => exact ih
  | spent hk ht => exact ⟨List.prefix_rfl, List.prefix_rfl⟩
  | fell hk ht he => exact ⟨List.prefix_rfl, List.prefix_rfl⟩
  | @does s S vs hk hk2 ht he => exact doV_more S.tick s _ _
  | thn hk ht he hv _ ih => exact ih
  | els hk ht he hv _ ih => exact ih
  | loopSpent ht => exact ⟨List.prefix_rfl, List.prefix_rfl⟩
  | loopFell ht he => exact ⟨List.prefix_rfl, List.prefix_rfl⟩
  | loopEnd ht he hv => exact ⟨List.prefix_rfl, List.prefix_rfl⟩
  | loopLeft ht he hv _ ih => exact ih
  | again ht he hv _ _ ih1 ih2 => exact ⟨ih1.1.trans ih2.1, ih1.2.trans ih2.2⟩
end Go.Proofs.Ytjlnpppjkdcpkaa.My
