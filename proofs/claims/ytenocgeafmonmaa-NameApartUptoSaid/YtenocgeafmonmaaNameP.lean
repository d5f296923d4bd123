/- Plain: the registers of the first statements are a beginning of the whole's; registers lie from 0 to 10; a declared name has the register that it was given. -/
import Derived.Test.YtenocgeafmonmaaNameT
namespace Go.Proofs.Ytenocgeafmonmaa.My
def InR (l : List Int) : Prop := ∀ x ∈ l, 0 ≤ x ∧ x < 11
def Grow (S R : Sc) : Prop := S.out <+: R.out ∧ (S.names.length ≤ 8 → R.names.length ≤ 8 ∧ (InR S.out → InR R.out))
theorem Grow.refl (S : Sc) : Grow S S := ⟨List.prefix_refl _, fun h => ⟨h, id⟩⟩
theorem Grow.trans {S R T : Sc} (h : Grow S R) (k : Grow R T) : Grow S T :=
  ⟨h.1.trans k.1, fun h8 => ⟨(k.2 (h.2 h8).1).1, fun hi => (k.2 (h.2 h8).1).2 ((h.2 h8).2 hi)⟩⟩
theorem Grow.cut {S R : Sc} (h : Grow S R) (n : Nat) : Grow S { R with names := R.names.take n } :=
  ⟨h.1, fun h8 => ⟨by have := (h.2 h8).1; simp; omega, (h.2 h8).2⟩⟩
theorem look_grow (S : Sc) (x : ByteArray) : Grow S (look S x).2 := by
  unfold look
  split
  · exact Grow.refl S
  · rename_i r hr
    refine ⟨List.prefix_append _ _, fun h8 => ⟨h8, fun hi y hy => ?_⟩⟩
    simp only [List.mem_append, List.mem_singleton] at hy
    rcases hy with hy | rfl
    · exact hi y hy
    · have := regOf_nonneg hr; omega
theorem declare_grow (S : Sc) (x : ByteArray) : Grow S (declare S x).2 := by
  unfold declare
  split
  · exact Grow.refl S
  · split
    · exact Grow.refl S
    · have h := look_grow { S with names := S.names ++ [x], most := if S.most < (S.names.length : Int) + 1 then (S.names.length : Int) + 1 else S.most } x
      refine ⟨h.1, fun h8 => h.2 ?_⟩
      simp; omega
mutual
theorem exprS_grow (S : Sc) : ∀ e : Expr, Grow S (exprS S e).2
  | .mk k n s o xs => by
    rw [exprS]
    split
    · exact look_grow S s
    · exact exprsS_grow S xs
theorem exprsS_grow (S : Sc) : ∀ l : List Expr, Grow S (exprsS S l).2
  | [] => by rw [exprsS]; exact Grow.refl S
  | e :: l => by
    rw [exprsS]
    have h := exprS_grow S e
    split
    · exact h.trans (exprsS_grow (exprS S e).2 l)
    · exact h
end
theorem kindS_grow (S : Sc) (k : Int) (s : ByteArray) (c : Int) : Grow S (kindS S k s c).2 := by
  unfold kindS
  split
  · exact declare_grow S s
  · split
    · exact look_grow S s
    · split <;> exact Grow.refl S
mutual
theorem stmtS_grow (S : Sc) : ∀ s : Stmt, Grow S (stmtS S s).2
  | .mk k s c xs bs es => by
    rw [stmtS]
    have h1 := exprsS_grow S xs
    have h2 := kindS_grow (exprsS S xs).2 k s c
    have h3 := blockS_grow (kindS (exprsS S xs).2 k s c).2 bs
    have h4 := blockS_grow (blockS (kindS (exprsS S xs).2 k s c).2 bs).2 es
    split
    · dsimp only
      split
      · split
        · exact ((h1.trans h2).trans h3).trans h4
        · exact (h1.trans h2).trans h3
      · exact h1.trans h2
    · exact h1
theorem blockS_grow (S : Sc) (l : List Stmt) : Grow S (blockS S l).2 := by
  rw [blockS]
  exact (stmtsS_grow S l).cut _
theorem stmtsS_grow (S : Sc) : ∀ l : List Stmt, Grow S (stmtsS S l).2
  | [] => by rw [stmtsS]; exact Grow.refl S
  | e :: l => by
    rw [stmtsS]
    have h := stmtS_grow S e
    split
    · exact h.trans (stmtsS_grow (stmtS S e).2 l)
    · exact h
end
theorem stmtsS_append (S : Sc) : ∀ a b : List Stmt, stmtsS S (a ++ b) = if (stmtsS S a).1 = 0 then stmtsS (stmtsS S a).2 b else stmtsS S a := fun a b => by
  induction a generalizing S with
  | nil => simp [stmtsS]
  | cons e a ih =>
    rw [List.cons_append, stmtsS, stmtsS]
    by_cases h : (stmtS S e).1 = 0
    · rw [if_pos h, if_pos h, ih]
    · rw [if_neg h, if_neg h, if_neg h]
theorem slotsP_in (l : List Stmt) (cells : Int) : InR (slotsP l cells).1 := by
  unfold slotsP
  split
  · exact ((stmtsS_grow ⟨[], [], 0, cells⟩ l).2 (by simp)).2 (fun x hx => by simp at hx)
  · intro x hx; simp at hx
theorem begins_plain (l : List Stmt) (k : Nat) (cells : Int) :
    ((slotsP l cells).2 ≠ 0 → (slotsP (l.take k) cells).2 = 0 ∨ (slotsP (l.take k) cells).2 = (slotsP l cells).2) ∧
    ((slotsP l cells).2 = 0 → (slotsP (l.take k) cells).2 = 0 ∧ (slotsP (l.take k) cells).1 <+: (slotsP l cells).1) := by
  have h := stmtsS_append ⟨[], [], 0, cells⟩ (l.take k) (l.drop k)
  rw [List.take_append_drop] at h
  by_cases hz : (stmtsS ⟨[], [], 0, cells⟩ (l.take k)).1 = 0
  · rw [if_pos hz] at h
    have e : slotsP (l.take k) cells = ((stmtsS ⟨[], [], 0, cells⟩ (l.take k)).2.out, 0) := by unfold slotsP; rw [if_pos hz]
    rw [e]
    refine ⟨fun _ => .inl rfl, fun h0 => ⟨rfl, ?_⟩⟩
    have g := (stmtsS_grow (stmtsS ⟨[], [], 0, cells⟩ (l.take k)).2 (l.drop k)).1
    rw [← h] at g
    unfold slotsP at h0 ⊢
    split
    · exact g
    · rename_i hn; rw [if_neg hn] at h0; exact absurd h0 hn
  · rw [if_neg hz] at h
    have e : slotsP (l.take k) cells = slotsP l cells := by unfold slotsP; rw [h]
    rw [e]
    exact ⟨fun _ => .inr rfl, fun h0 => ⟨h0, List.prefix_refl _⟩⟩
/-- a variable of that name, and what it is -/
def varOf (s : ByteArray) : Stmt := .mk 1 s 0 [.mk 1 0 ⟨#[]⟩ 0 []] [] []
def emitOf (s : ByteArray) : Stmt := .mk 4 ⟨#[]⟩ 0 [.mk 2 0 s 0 []] [] []
theorem apart_plain (l : List Stmt) (s : ByteArray) (cells : Int) (h0 : (slotsP l cells).2 = 0) :
    slotsP (l ++ [varOf s, emitOf s]) cells = ([], 61) ∨ slotsP (l ++ [varOf s, emitOf s]) cells = ([], 62) ∨ ∃ n : Nat, slotsP (l ++ [varOf s, emitOf s]) cells = ((slotsP l cells).1 ++ [3 + (n : Int), 3 + (n : Int)], 0) := by
  have hz : (stmtsS ⟨[], [], 0, cells⟩ l).1 = 0 := by
    unfold slotsP at h0
    split at h0
    · assumption
    · exact h0
  have e : slotsP l cells = ((stmtsS ⟨[], [], 0, cells⟩ l).2.out, 0) := by unfold slotsP; rw [if_pos hz]
  have h := stmtsS_append ⟨[], [], 0, cells⟩ l [varOf s, emitOf s]
  rw [if_pos hz] at h
  obtain ⟨S, hS⟩ : ∃ S, (stmtsS ⟨[], [], 0, cells⟩ l).2 = S := ⟨_, rfl⟩
  rw [hS] at h e
  rw [e]
  have hv : stmtS S (varOf s) = (if (declare S s).1 = 0 then ((0 : Int), { (declare S s).2 with names := (declare S s).2.names }) else declare S s) := by
    unfold varOf
    rw [stmtS]
    simp only [exprsS, exprS, kindS, if_true, show ¬ ((1 : Int) = 2) by decide, if_false]
    by_cases hd : (declare S s).1 = 0
    · simp [hd, blockS, stmtsS]
    · simp [hd]
  by_cases h1 : (regOf S.names s).isSome = true
  · refine .inl ?_
    have hd : declare S s = (61, S) := by unfold declare; rw [if_pos h1]
    rw [hd, if_neg (by simp)] at hv
    have : stmtsS S [varOf s, emitOf s] = (61, S) := by rw [stmtsS, hv, if_neg (by simp)]
    rw [this] at h
    unfold slotsP
    rw [h, if_neg (by simp)]
  · by_cases h2 : S.names.length = 8
    · refine .inr (.inl ?_)
      have hd : declare S s = (62, S) := by unfold declare; rw [if_neg h1, if_pos h2]
      rw [hd, if_neg (by simp)] at hv
      have : stmtsS S [varOf s, emitOf s] = (62, S) := by rw [stmtsS, hv, if_neg (by simp)]
      rw [this] at h
      unfold slotsP
      rw [h, if_neg (by simp)]
    · refine .inr (.inr ⟨S.names.length, ?_⟩)
      have hn : regOf S.names s = none := by simpa using h1
      have hr : regOf (S.names ++ [s]) s = some (3 + (S.names.length : Int)) := by simp only [← regOf_put hn, putF, if_pos]
      have hd := declare_new (S := S) (out := S.out) hn h2
      rw [show ({ S with out := S.out } : Sc) = S from rfl] at hd
      rw [hd, if_pos rfl] at hv
      dsimp only at hv
      have he : ∀ m : Int, stmtS ⟨S.names ++ [s], S.out ++ [3 + (S.names.length : Int)], m, S.cells⟩ (emitOf s) = (0, ⟨S.names ++ [s], S.out ++ [3 + (S.names.length : Int)] ++ [3 + (S.names.length : Int)], m, S.cells⟩) := by
        intro m
        unfold emitOf
        rw [stmtS]
        simp only [exprsS, exprS, look, hr, if_true, kindS, blockS, stmtsS, show ¬ ((4 : Int) = 1) by decide, show ¬ ((4 : Int) = 2) by decide, show ¬ ((4 : Int) = 5) by decide, if_false]
        simp
        rw [List.take_of_length_le (by simp), List.take_of_length_le (by simp)]
      have : ∃ m, stmtsS S [varOf s, emitOf s] = (0, ⟨S.names ++ [s], S.out ++ [3 + (S.names.length : Int)] ++ [3 + (S.names.length : Int)], m, S.cells⟩) := by
        refine ⟨if S.most < (S.names.length : Int) + 1 then (S.names.length : Int) + 1 else S.most, ?_⟩
        rw [stmtsS, hv, if_pos rfl]
        dsimp only
        rw [stmtsS, he, if_pos rfl, stmtsS]
      obtain ⟨m, this⟩ := this
      rw [this] at h
      unfold slotsP
      rw [h, if_pos rfl]
      simp
end Go.Proofs.Ytenocgeafmonmaa.My
