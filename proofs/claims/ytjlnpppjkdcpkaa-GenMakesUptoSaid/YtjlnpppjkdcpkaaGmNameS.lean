/- Layer 6 as plain functions: which register each name of a tree is, as they are gone through. No program in sight. -/
import Derived.Test.YtjlnpppjkdcpkaaGmLib
namespace Go.Proofs.Ytjlnpppjkdcpkaa.My
def idx : List ByteArray → ByteArray → Option Nat
  | [], _ => none
  | x :: l, s => if x = s then some 0 else (idx l s).map (· + 1)
/-- a name's register -/
def regOf (names : List ByteArray) (s : ByteArray) : Option Int :=
  if s = ⟨#[107]⟩ then some 2 else if s = ⟨#[105]⟩ then some 1 else if s = ⟨#[110]⟩ then some 0
  else (idx names s).map fun (j : Nat) => 3 + (j : Int)
def putF (f : ByteArray → Option Int) (x : ByteArray) (c : Int) (s : ByteArray) : Option Int := if s = x then some c else f s
def delF (f : ByteArray → Option Int) (x : ByteArray) (s : ByteArray) : Option Int := if s = x then none else f s
theorem regOf_nil : putF (putF (putF (fun _ => none) ⟨#[110]⟩ 0) ⟨#[105]⟩ 1) ⟨#[107]⟩ 2 = regOf [] := by
  funext s
  simp [putF, regOf, idx]
theorem idx_none {l : List ByteArray} {s : ByteArray} : idx l s = none ↔ s ∉ l := by
  induction l with
  | nil => simp [idx]
  | cons x l ih =>
    by_cases h : x = s
    · subst h; simp [idx]
    · simp [idx, h, ih, Ne.symm h]
theorem idx_lt {l : List ByteArray} {s : ByteArray} {j : Nat} (h : idx l s = some j) : j < l.length := by
  induction l generalizing j with
  | nil => simp [idx] at h
  | cons x l ih =>
    by_cases hx : x = s
    · subst hx; simp [idx] at h; subst h; simp
    · simp [idx, hx] at h
      obtain ⟨i, hi, rfl⟩ := h
      have := ih hi
      simp; omega
theorem idx_append (l m : List ByteArray) (s : ByteArray) : idx (l ++ m) s = match idx l s with | some j => some j | none => (idx m s).map (· + l.length) := by
  induction l with
  | nil => simp [idx]
  | cons x l ih =>
    by_cases hx : x = s
    · simp [idx, hx]
    · simp only [List.cons_append, idx, if_neg hx, ih]
      cases idx l s with
      | some j => rfl
      | none =>
        simp [Function.comp_def]
        cases idx m s with
        | none => rfl
        | some j => simp; omega
theorem regOf_far {names : List ByteArray} {x : ByteArray} (h : regOf names x = none) : x ∉ names ∧ x ≠ ⟨#[107]⟩ ∧ x ≠ ⟨#[105]⟩ ∧ x ≠ ⟨#[110]⟩ := by
  unfold regOf at h
  split at h
  · cases h
  · split at h
    · cases h
    · split at h
      · cases h
      · rename_i h1 h2 h3
        exact ⟨idx_none.1 (Option.map_eq_none_iff.1 h), h1, h2, h3⟩
theorem regOf_put {names : List ByteArray} {x : ByteArray} (h : regOf names x = none) : putF (regOf names) x (3 + (names.length : Int)) = regOf (names ++ [x]) := by
  obtain ⟨h0, h1, h2, h3⟩ := regOf_far h
  funext s
  unfold putF
  by_cases hs : s = x
  · subst hs
    simp [regOf, h1, h2, h3, idx_append, idx_none.2 h0, idx]
  · simp only [hs, if_false, regOf, idx_append]
    cases hi : idx names s with
    | some j => rfl
    | none => simp [idx, Ne.symm hs]
structure okN (names : List ByteArray) : Prop where
  nodup : names.Nodup
  far : ∀ x ∈ names, x ≠ ⟨#[107]⟩ ∧ x ≠ ⟨#[105]⟩ ∧ x ≠ ⟨#[110]⟩
  len : names.length ≤ 8
  size : ∀ x ∈ names, x.size ≤ 9223372036854775807
theorem okN.nil : okN [] := ⟨List.nodup_nil, by simp, by simp, by simp⟩
theorem okN.put {names : List ByteArray} (h : okN names) {x : ByteArray} (hx : regOf names x = none) (hl : names.length ≠ 8) (hs : x.size ≤ 9223372036854775807) : okN (names ++ [x]) := by
  obtain ⟨h0, h1, h2, h3⟩ := regOf_far hx
  have := h.len
  refine ⟨List.nodup_append.2 ⟨h.nodup, by simp, fun a ha b hb e => ?_⟩, fun y hy => ?_, by simp; omega, fun y hy => ?_⟩
  · simp at hb; subst hb; subst e; exact h0 ha
  · rcases List.mem_append.1 hy with hy | hy
    · exact h.far y hy
    · simp at hy; subst hy; exact ⟨h1, h2, h3⟩
  · rcases List.mem_append.1 hy with hy | hy
    · exact h.size y hy
    · simp at hy; subst hy; exact hs
theorem okN.take {names : List ByteArray} (h : okN names) (m : Nat) : okN (names.take m) :=
  ⟨h.nodup.sublist (List.take_sublist _ _), fun x hx => h.far x (List.mem_of_mem_take hx), by have := h.len; simp; omega, fun x hx => h.size x (List.mem_of_mem_take hx)⟩
theorem okN.back {names : List ByteArray} (h : okN names) (m : Nat) (s : ByteArray) : (s ∈ names.drop m → regOf (names.take m) s = none) ∧ (s ∉ names.drop m → regOf (names.take m) s = regOf names s) := by
  refine ⟨fun hs => ?_, fun hs => ?_⟩
  · obtain ⟨h1, h2, h3⟩ := h.far s (List.mem_of_mem_drop hs)
    have hn : s ∉ names.take m := fun ht => by
      have hd := h.nodup
      rw [← List.take_append_drop m names] at hd
      exact (List.nodup_append.1 hd).2.2 s ht s hs rfl
    simp [regOf, h1, h2, h3, idx_none.2 hn]
  · have e : idx names s = idx (names.take m) s := by
      conv => lhs; rw [← List.take_append_drop m names, idx_append]
      cases idx (names.take m) s with
      | some j => rfl
      | none => simp [idx_none.2 hs]
    simp [regOf, e]
structure Sc where
  names : List ByteArray
  out : List Int
  most : Int
  cells : Int
def look (S : Sc) (x : ByteArray) : Int × Sc :=
  match regOf S.names x with
  | none => (60, S)
  | some r => (0, { S with out := S.out ++ [r] })
def declare (S : Sc) (x : ByteArray) : Int × Sc :=
  if (regOf S.names x).isSome = true then (61, S)
  else if S.names.length = 8 then (62, S)
  else look { S with names := S.names ++ [x], most := if S.most < (S.names.length : Int) + 1 then (S.names.length : Int) + 1 else S.most } x
mutual
def exprS (S : Sc) : Expr → Int × Sc
  | .mk k _ s _ as => if k = 2 then look S s else exprsS S as
def exprsS (S : Sc) : List Expr → Int × Sc
  | [] => (0, S)
  | e :: l => if (exprS S e).1 = 0 then exprsS (exprS S e).2 l else exprS S e
end
def kindS (S : Sc) (k : Int) (s : ByteArray) (c : Int) : Int × Sc :=
  if k = 1 then declare S s else if k = 2 then look S s
  else if k = 5 then (if c ≥ (if 4 < S.cells then 4 else S.cells) then 63 else 0, S) else (0, S)
mutual
def stmtS (S : Sc) : Stmt → Int × Sc
  | .mk k s c as bs es =>
    if (exprsS S as).1 = 0 then
      let r := kindS (exprsS S as).2 k s c
      if r.1 = 0 then
        let b := blockS r.2 bs
        if b.1 = 0 then blockS b.2 es else b
      else r
    else exprsS S as
def blockS (S : Sc) (l : List Stmt) : Int × Sc :=
  let r := stmtsS S l
  (r.1, { r.2 with names := r.2.names.take S.names.length })
def stmtsS (S : Sc) : List Stmt → Int × Sc
  | [] => (0, S)
  | s :: l => if (stmtS S s).1 = 0 then stmtsS (stmtS S s).2 l else stmtS S s
end
theorem exprS_eq (S : Sc) (e : Expr) : exprS S e = if e.kind = 2 then look S e.name else exprsS S e.args := by cases e; simp only [exprS]; rfl
theorem exprsS_snoc (S : Sc) (l : List Expr) (e : Expr) : exprsS S (l ++ [e]) = if (exprsS S l).1 = 0 then exprS (exprsS S l).2 e else exprsS S l := by
  induction l generalizing S with
  | nil => simp [exprsS]; intro h; exact Prod.ext h.symm rfl
  | cons x l ih =>
    simp only [List.cons_append, exprsS]
    by_cases h : (exprS S x).1 = 0
    · simp only [h, if_true, ih]
    · simp only [h, if_false]
theorem exprsS_stop (S : Sc) (l : List Expr) (k : Nat) (h : (exprsS S (l.take k)).1 ≠ 0) : exprsS S l = exprsS S (l.take k) := by
  induction l generalizing S k with
  | nil => simp
  | cons x l ih =>
    cases k with
    | zero => simp [exprsS] at h
    | succ k =>
      simp only [List.take_succ_cons, exprsS] at h ⊢
      by_cases h1 : (exprS S x).1 = 0
      · simp only [h1, if_true] at h ⊢; exact ih _ _ h
      · simp only [h1, if_false]
theorem stmtsS_snoc (S : Sc) (l : List Stmt) (e : Stmt) : stmtsS S (l ++ [e]) = if (stmtsS S l).1 = 0 then stmtS (stmtsS S l).2 e else stmtsS S l := by
  induction l generalizing S with
  | nil => simp [stmtsS]; intro h; exact Prod.ext h.symm rfl
  | cons x l ih =>
    simp only [List.cons_append, stmtsS]
    by_cases h : (stmtS S x).1 = 0
    · simp only [h, if_true, ih]
    · simp only [h, if_false]
theorem stmtsS_stop (S : Sc) (l : List Stmt) (k : Nat) (h : (stmtsS S (l.take k)).1 ≠ 0) : stmtsS S l = stmtsS S (l.take k) := by
  induction l generalizing S k with
  | nil => simp
  | cons x l ih =>
    cases k with
    | zero => simp [stmtsS] at h
    | succ k =>
      simp only [List.take_succ_cons, stmtsS] at h ⊢
      by_cases h1 : (stmtS S x).1 = 0
      · simp only [h1, if_true] at h ⊢; exact ih _ _ h
      · simp only [h1, if_false]
theorem look_len (S : Sc) (x : ByteArray) : (look S x).2.out.length ≤ S.out.length + 1 := by
  unfold look; split <;> simp
theorem declare_len (S : Sc) (x : ByteArray) : (declare S x).2.out.length ≤ S.out.length + 1 := by
  unfold declare; split
  · simp
  · split
    · simp
    · exact look_len _ _
theorem kindS_len (S : Sc) (k : Int) (x : ByteArray) (c : Int) : (kindS S k x c).2.out.length ≤ S.out.length + 1 := by
  unfold kindS; split
  · exact declare_len _ _
  · split
    · exact look_len _ _
    · split <;> simp
mutual
theorem exprS_len (S : Sc) : ∀ e : Expr, (exprS S e).2.out.length ≤ S.out.length + e.nodes
  | .mk k n s o as => by
    rw [exprS, Expr.nodes]
    split
    · have := look_len S s; omega
    · have := exprsS_len S as; omega
theorem exprsS_len (S : Sc) : ∀ l : List Expr, (exprsS S l).2.out.length ≤ S.out.length + Expr.nodesL l
  | [] => by simp [exprsS]
  | e :: l => by
    rw [exprsS, Expr.nodesL]
    have h1 := exprS_len S e
    split
    · have := exprsS_len (exprS S e).2 l; omega
    · omega
end
mutual
theorem stmtS_len (S : Sc) : ∀ s : Stmt, (stmtS S s).2.out.length ≤ S.out.length + s.nodes
  | .mk k s c as bs es => by
    rw [stmtS, Stmt.nodes]
    have h1 := exprsS_len S as
    have h2 := kindS_len (exprsS S as).2 k s c
    have h3 := blockS_len (kindS (exprsS S as).2 k s c).2 bs
    have h4 := blockS_len (blockS (kindS (exprsS S as).2 k s c).2 bs).2 es
    split
    · dsimp only
      split
      · split <;> omega
      · omega
    · omega
theorem blockS_len (S : Sc) (l : List Stmt) : (blockS S l).2.out.length ≤ S.out.length + Stmt.nodesL l := by
  rw [blockS]
  exact stmtsS_len S l
theorem stmtsS_len (S : Sc) : ∀ l : List Stmt, (stmtsS S l).2.out.length ≤ S.out.length + Stmt.nodesL l
  | [] => by simp [stmtsS]
  | e :: l => by
    rw [stmtsS, Stmt.nodesL]
    have h1 := stmtS_len S e
    split
    · have := stmtsS_len (stmtS S e).2 l; omega
    · omega
end
theorem look_names (S : Sc) (x : ByteArray) : (look S x).2.names = S.names := by
  unfold look; split <;> rfl
theorem declare_names (S : Sc) (x : ByteArray) : S.names.length ≤ (declare S x).2.names.length := by
  unfold declare; split
  · simp
  · split
    · simp
    · rw [look_names]; simp
theorem kindS_names (S : Sc) (k : Int) (x : ByteArray) (c : Int) : S.names.length ≤ (kindS S k x c).2.names.length := by
  unfold kindS; split
  · exact declare_names _ _
  · split
    · rw [look_names]; simp
    · split <;> simp
mutual
theorem exprS_names (S : Sc) : ∀ e : Expr, (exprS S e).2.names = S.names
  | .mk k n s o as => by
    rw [exprS]
    split
    · exact look_names S s
    · exact exprsS_names S as
theorem exprsS_names (S : Sc) : ∀ l : List Expr, (exprsS S l).2.names = S.names
  | [] => by simp [exprsS]
  | e :: l => by
    rw [exprsS]
    have h1 := exprS_names S e
    split
    · rw [exprsS_names, h1]
    · exact h1
end
mutual
theorem stmtS_names (S : Sc) : ∀ s : Stmt, S.names.length ≤ (stmtS S s).2.names.length
  | .mk k s c as bs es => by
    rw [stmtS]
    have h1 := exprsS_names S as
    have h2 := kindS_names (exprsS S as).2 k s c
    have h3 := blockS_names (kindS (exprsS S as).2 k s c).2 bs
    have h4 := blockS_names (blockS (kindS (exprsS S as).2 k s c).2 bs).2 es
    rw [h1] at h2
    split
    · dsimp only
      split
      · split <;> omega
      · omega
    · rw [h1]; exact Nat.le_refl _
theorem blockS_names (S : Sc) (l : List Stmt) : S.names.length ≤ (blockS S l).2.names.length := by
  rw [blockS]
  have := stmtsS_names S l
  simp only [List.length_take]; omega
theorem stmtsS_names (S : Sc) : ∀ l : List Stmt, S.names.length ≤ (stmtsS S l).2.names.length
  | [] => by simp [stmtsS]
  | e :: l => by
    rw [stmtsS]
    have h1 := stmtS_names S e
    split
    · have := stmtsS_names (stmtS S e).2 l; omega
    · omega
end
end Go.Proofs.Ytjlnpppjkdcpkaa.My
