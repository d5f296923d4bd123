/- A row of statements as its cells, laid elsewhere. -/
import Derived.Test.YtjlnpppjkdcpkaaGjNameW3
namespace Go.Proofs.Ytjlnpppjkdcpkaa.My
open Go.RowKit Go.Maps
def Stmt.flat (w : World) : List Stmt → List Value → Prop
  | [], xs => xs = []
  | s :: l, xs => ∃ cs ys, xs = cs ++ ys ∧ s.rd w cs ∧ Stmt.flat w l ys
theorem Stmt.rd_len {w : World} {s : Stmt} {cs : List Value} (h : s.rd w cs) : cs.length = 6 := by
  cases s; simp only [Stmt.rd] at h; obtain ⟨_, _, _, _, _, _, rfl, _⟩ := h; rfl
theorem Stmt.rd_one {w : World} {s : Stmt} {cs : List Value} (h : s.rd w cs) : ∀ u ∈ cs, u.oneCell' = true := by
  cases s; simp only [Stmt.rd] at h; obtain ⟨_, _, _, _, _, _, rfl, _⟩ := h
  intro u hu
  simp only [List.mem_cons, List.not_mem_nil, or_false] at hu
  rcases hu with rfl | rfl | rfl | rfl | rfl | rfl <;> rfl
theorem Stmt.flat_len {w : World} : ∀ {l : List Stmt} {xs : List Value}, Stmt.flat w l xs → xs.length = l.length * 6
  | [], _, h => by simp only [Stmt.flat] at h; subst h; rfl
  | s :: l, _, h => by
    simp only [Stmt.flat] at h
    obtain ⟨cs, ys, rfl, h1, h2⟩ := h
    rw [List.length_append, Stmt.rd_len h1, Stmt.flat_len h2, List.length_cons]; omega
theorem Stmt.flat_one {w : World} : ∀ {l : List Stmt} {xs : List Value}, Stmt.flat w l xs → ∀ u ∈ xs, u.oneCell' = true
  | [], _, h => by simp only [Stmt.flat] at h; subst h; intro u hu; cases hu
  | s :: l, _, h => by
    simp only [Stmt.flat] at h
    obtain ⟨cs, ys, rfl, h1, h2⟩ := h
    intro u hu
    rcases List.mem_append.1 hu with hu | hu
    · exact Stmt.rd_one h1 u hu
    · exact Stmt.flat_one h2 u hu
theorem Stmt.flat_keep {w w' : World} (hB : Below w.heap.size w w') : ∀ {l : List Stmt} {xs : List Value}, Stmt.flat w l xs → Stmt.flat w' l xs
  | [], _, h => h
  | s :: l, _, h => by
    simp only [Stmt.flat] at h ⊢
    obtain ⟨cs, ys, rfl, h1, h2⟩ := h
    exact ⟨cs, ys, rfl, Stmt.rd_keep hB h1, Stmt.flat_keep hB h2⟩
theorem Stmt.flat_append {w : World} : ∀ {l m : List Stmt} {xs ys : List Value}, Stmt.flat w l xs → Stmt.flat w m ys → Stmt.flat w (l ++ m) (xs ++ ys)
  | [], _, _, _, h, k => by simp only [Stmt.flat] at h; subst h; exact k
  | s :: l, _, _, _, h, k => by
    simp only [Stmt.flat] at h
    obtain ⟨cs, zs, rfl, h1, h2⟩ := h
    rw [List.cons_append]
    simp only [Stmt.flat]
    exact ⟨cs, _, by rw [List.append_assoc], h1, Stmt.flat_append h2 k⟩
/-- its cells where it lies -/
theorem Stmt.flat_of {w : World} : ∀ {l : List Stmt} {A : Option Addr} {i : Nat}, Stmt.rds w l A i → ∃ xs, Stmt.flat w l xs ∧ ∀ b o, A = some ⟨b, o, none⟩ → ∀ m u, xs[m]? = some u → w.cell? ⟨b, o + i * 6 + m, none⟩ = some u
  | [], _, _, _ => ⟨[], rfl, fun b o _ m u hu => by simp at hu⟩
  | s :: l, A, i, h => by
    simp only [Stmt.rds] at h
    obtain ⟨⟨b, o, cs, rfl, h2, h3⟩, h4⟩ := h
    obtain ⟨ys, k1, k2⟩ := Stmt.flat_of h4
    refine ⟨cs ++ ys, ⟨cs, ys, rfl, h2, k1⟩, fun b' o' he m u hu => ?_⟩
    simp only [Option.some.injEq, Addr.mk.injEq, and_true] at he
    obtain ⟨rfl, rfl⟩ := he
    have hl := Stmt.rd_len h2
    rw [List.getElem?_append] at hu
    split at hu
    · exact h3 m u hu
    · have := k2 b o rfl _ u hu
      rw [hl] at this
      rw [show o + i * 6 + m = o + (i + 1) * 6 + (m - 6) by omega]
      exact this
/-- and elsewhere -/
theorem Stmt.of_flat {w : World} {g : Nat} : ∀ {l : List Stmt} {xs : List Value} {i : Nat}, Stmt.flat w l xs → (∀ m u, xs[m]? = some u → w.cell? ⟨g, i * 6 + m, none⟩ = some u) → Stmt.rds w l (some ⟨g, 0, none⟩) i
  | [], _, _, _, _ => by simp [Stmt.rds]
  | s :: l, _, i, h, hc => by
    simp only [Stmt.flat] at h
    obtain ⟨cs, ys, rfl, h1, h2⟩ := h
    simp only [Stmt.rds]
    have hl := Stmt.rd_len h1
    refine ⟨⟨g, 0, cs, rfl, h1, fun j u hu => ?_⟩, Stmt.of_flat h2 fun m u hu => ?_⟩
    · rw [Nat.zero_add]
      refine hc j u ?_
      rw [List.getElem?_append_left (List.getElem?_eq_some_iff.1 hu).1]
      exact hu
    · have := hc (6 + m) u (by rw [List.getElem?_append_right (by omega), hl]; simpa using hu)
      rw [show (i + 1) * 6 + m = i * 6 + (6 + m) by omega]
      exact this
theorem Stmt.of_row {w : World} {l : List Stmt} {xs : List Value} {A : Option Addr} {n c : Nat} (h : Row w 36 6 (.slice A n c) n xs) (hf : Stmt.flat w l xs) : Stmt.rds w l A 0 := by
  rcases h.2 with ⟨_, rfl⟩ | ⟨g, cap, cur, hv, _⟩
  · have h1 := h.1
    have h2 := Stmt.flat_len hf
    have : l = [] := List.eq_nil_of_length_eq_zero (by omega)
    subst this
    simp [Stmt.rds]
  · injection hv with hv _ _
    subst hv
    refine Stmt.of_flat hf fun m u hu => ?_
    obtain ⟨g', c', hv, hc, _⟩ := h.cell hu
    injection hv with hv _ _; injection hv with hv; injection hv with hv _ _; subst hv
    rw [Nat.zero_mul, Nat.zero_add]
    exact hc
end Go.Proofs.Ytjlnpppjkdcpkaa.My
