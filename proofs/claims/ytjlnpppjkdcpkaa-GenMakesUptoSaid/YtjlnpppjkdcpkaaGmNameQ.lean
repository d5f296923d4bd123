/- Layer 6: the document's way through a tree, told by the plain functions of 'NameS'. No program in sight. -/
import Derived.Test.YtjlnpppjkdcpkaaGmLib
import Derived.Test.YtjlnpppjkdcpkaaGmNameS
namespace Go.Proofs.Ytjlnpppjkdcpkaa.My
open Go.RowKit
structure Ins where
  kind : Int
  op : Int
  a : Int
  b : Int
  c : Int
  n : Int
instance : Inhabited Ins := ⟨⟨0, 0, 0, 0, 0, 0⟩⟩
def Ins.cells (x : Ins) : List Value := [.int .i64 x.kind, .int .i64 x.op, .int .i64 x.a, .int .i64 x.b, .int .i64 x.c, .int .i64 x.n]
/-- a row of instructions in memory -/
def insRow (w : World) (l : List Ins) (A : Option Addr) : Prop := ∀ j (hj : j < l.length), ∃ b o, A = some ⟨b, o, none⟩ ∧ ∀ m u, (l[j].cells)[m]? = some u → w.cell? ⟨b, o + j * 6 + m, none⟩ = some u
theorem insRow.at {W w : World} {l : List Ins} {A : Option Addr} (h : insRow W l A) (hB : Below W.heap.size W w) {j : Nat} (hj : j < l.length) : ∃ b o, A = some ⟨b, o, none⟩ ∧
    w.cell? ⟨b, o + j * 6, none⟩ = some (.int .i64 l[j].kind) ∧ w.cell? ⟨b, o + j * 6 + 1, none⟩ = some (.int .i64 l[j].op) ∧ w.cell? ⟨b, o + j * 6 + 2, none⟩ = some (.int .i64 l[j].a) ∧ w.cell? ⟨b, o + j * 6 + 3, none⟩ = some (.int .i64 l[j].b) ∧
    w.cell? ⟨b, o + j * 6 + 4, none⟩ = some (.int .i64 l[j].c) ∧ w.cell? ⟨b, o + j * 6 + 5, none⟩ = some (.int .i64 l[j].n) := by
  obtain ⟨b, o, hA, h⟩ := h j hj
  have hc : ∀ m u, (l[j].cells)[m]? = some u → w.cell? ⟨b, o + j * 6 + m, none⟩ = some u := fun m u hu => (hB.cell (World.block_lt_of_cell? W _ (h m u hu))).trans (h m u hu)
  exact ⟨b, o, hA, hc 0 _ rfl, hc 1 _ rfl, hc 2 _ rfl, hc 3 _ rfl, hc 4 _ rfl, hc 5 _ rfl⟩
end Go.Proofs.Ytjlnpppjkdcpkaa.My
namespace Go.Proofs.Ytjlnpppjkdcpkaa.My
mutual
def Expr.names : Expr → List ByteArray
  | .mk k _ s _ as => if k = 2 then [s] else Expr.namesL as
def Expr.namesL : List Expr → List ByteArray
  | [] => []
  | e :: l => e.names ++ Expr.namesL l
end
theorem Expr.names_eq (e : Expr) : e.names = if e.kind = 2 then [e.name] else Expr.namesL e.args := by cases e; rw [Expr.names]; rfl
mutual
theorem Expr.names_len : ∀ e : Expr, e.names.length ≤ e.nodes
  | .mk k n s o as => by
    rw [Expr.names, Expr.nodes]
    split
    · simp
    · have := Expr.namesL_len as; omega
theorem Expr.namesL_len : ∀ l : List Expr, (Expr.namesL l).length ≤ Expr.nodesL l
  | [] => by simp [Expr.namesL]
  | e :: l => by rw [Expr.namesL, Expr.nodesL, List.length_append]; have := Expr.names_len e; have := Expr.namesL_len l; omega
end
theorem Expr.namesL_append (a b : List Expr) : Expr.namesL (a ++ b) = Expr.namesL a ++ Expr.namesL b := by
  induction a with
  | nil => rfl
  | cons e l ih => simp only [List.cons_append, Expr.namesL, ih, List.append_assoc]
theorem Expr.namesL_snoc (l : List Expr) (k : Nat) (h : k < l.length) : Expr.namesL (l.take (k + 1)) = Expr.namesL (l.take k) ++ (l[k]).names := by
  rw [← List.take_append_getElem h, Expr.namesL_append]
  simp [Expr.namesL]
def lookL (S : Sc) : List ByteArray → Int × Sc
  | [] => (0, S)
  | x :: l => if (look S x).1 = 0 then lookL (look S x).2 l else look S x
theorem lookL_append (S : Sc) (a b : List ByteArray) : lookL S (a ++ b) = if (lookL S a).1 = 0 then lookL (lookL S a).2 b else lookL S a := by
  induction a generalizing S with
  | nil => simp [lookL]
  | cons x l ih =>
    simp only [List.cons_append, lookL]
    by_cases h : (look S x).1 = 0
    · simp only [h, if_true, ih]
    · simp only [h, if_false]
theorem lookL_one (S : Sc) (x : ByteArray) : lookL S [x] = look S x := by
  simp only [lookL]
  split
  · rename_i h; exact Prod.ext h.symm rfl
  · rfl
mutual
theorem exprS_names' (S : Sc) : ∀ e : Expr, exprS S e = lookL S e.names
  | .mk k n s o as => by
    rw [exprS, Expr.names]
    split
    · rw [lookL_one]
    · exact exprsS_names' S as
theorem exprsS_names' (S : Sc) : ∀ l : List Expr, exprsS S l = lookL S (Expr.namesL l)
  | [] => by simp [exprsS, Expr.namesL, lookL]
  | e :: l => by
    rw [exprsS, Expr.namesL, lookL_append, exprS_names' S e]
    split
    · exact exprsS_names' _ l
    · rfl
end
/-- the registers of names, if all are there -/
def regs (names : List ByteArray) : List ByteArray → Option (List Int)
  | [] => some []
  | x :: l => match regOf names x with
    | some r => (regs names l).map (r :: ·)
    | none => none
theorem lookL_regs (S : Sc) (l : List ByteArray) : match regs S.names l with
    | some rs => lookL S l = (0, { S with out := S.out ++ rs })
    | none => (lookL S l).1 = 60 := by
  induction l generalizing S with
  | nil => simp [regs, lookL]
  | cons x l ih =>
    simp only [regs, lookL]
    cases hx : regOf S.names x with
    | none =>
      have : look S x = (60, S) := by unfold look; rw [hx]
      simp [this]
    | some r =>
      have h0 : look S x = (0, { S with out := S.out ++ [r] }) := by unfold look; rw [hx]
      have := ih { S with out := S.out ++ [r] }
      rw [h0]
      simp only [if_true]
      revert this
      cases regs S.names l with
      | none => simp
      | some rs => simp
theorem regs_append (names : List ByteArray) (a b : List ByteArray) : regs names (a ++ b) = (regs names a).bind fun x => (regs names b).map (x ++ ·) := by
  induction a with
  | nil => simp [regs]
  | cons x l ih =>
    simp only [List.cons_append, regs, ih]
    cases regOf names x with
    | none => rfl
    | some r =>
      cases regs names l with
      | none => rfl
      | some rs => cases regs names b <;> simp
theorem regs_len {names l : List ByteArray} {rs : List Int} (h : regs names l = some rs) : rs.length = l.length := by
  induction l generalizing rs with
  | nil => simp [regs] at h; subst h; rfl
  | cons x l ih =>
    simp only [regs] at h
    cases hx : regOf names x with
    | none => rw [hx] at h; cases h
    | some r =>
      rw [hx] at h
      obtain ⟨rs', h1, rfl⟩ := Option.map_eq_some_iff.1 h
      simp [ih h1]
/-- the names of a statement ahead of its blocks, but for the name that it declares -/
def Stmt.uses (s : Stmt) : List ByteArray := Expr.namesL s.args ++ if s.kind = 2 then [s.name] else []
theorem look_same (S : Sc) (x : ByteArray) : (look S x).2.names = S.names ∧ (look S x).2.cells = S.cells ∧ (look S x).2.most = S.most := by
  unfold look; split <;> exact ⟨rfl, rfl, rfl⟩
theorem declare_cells (S : Sc) (x : ByteArray) : (declare S x).2.cells = S.cells := by
  unfold declare; split
  · rfl
  · split
    · rfl
    · rw [(look_same _ _).2.1]
theorem declare_prefix (S : Sc) (x : ByteArray) : S.names <+: (declare S x).2.names := by
  unfold declare; split
  · exact List.prefix_refl _
  · split
    · exact List.prefix_refl _
    · rw [look_names]; exact List.prefix_append _ _
theorem kindS_cells (S : Sc) (k : Int) (x : ByteArray) (c : Int) : (kindS S k x c).2.cells = S.cells := by
  unfold kindS; split
  · exact declare_cells _ _
  · split
    · exact (look_same _ _).2.1
    · split <;> rfl
theorem kindS_prefix (S : Sc) (k : Int) (x : ByteArray) (c : Int) : S.names <+: (kindS S k x c).2.names := by
  unfold kindS; split
  · exact declare_prefix _ _
  · split
    · rw [look_names]; exact List.prefix_refl _
    · split <;> exact List.prefix_refl _
mutual
theorem exprS_cells (S : Sc) : ∀ e : Expr, (exprS S e).2.cells = S.cells
  | .mk k n s o as => by
    rw [exprS]
    split
    · exact (look_same S s).2.1
    · exact exprsS_cells S as
theorem exprsS_cells (S : Sc) : ∀ l : List Expr, (exprsS S l).2.cells = S.cells
  | [] => by simp [exprsS]
  | e :: l => by
    rw [exprsS]
    have h1 := exprS_cells S e
    split
    · rw [exprsS_cells, h1]
    · exact h1
end
mutual
theorem stmtS_cells (S : Sc) : ∀ s : Stmt, (stmtS S s).2.cells = S.cells
  | .mk k s c as bs es => by
    rw [stmtS]
    have h1 := exprsS_cells S as
    have h2 := kindS_cells (exprsS S as).2 k s c
    have h3 := blockS_cells (kindS (exprsS S as).2 k s c).2 bs
    have h4 := blockS_cells (blockS (kindS (exprsS S as).2 k s c).2 bs).2 es
    split
    · dsimp only
      split
      · split
        · rw [h4, h3, h2, h1]
        · rw [h3, h2, h1]
      · rw [h2, h1]
    · exact h1
theorem blockS_cells (S : Sc) (l : List Stmt) : (blockS S l).2.cells = S.cells := by
  rw [blockS]
  exact stmtsS_cells S l
theorem stmtsS_cells (S : Sc) : ∀ l : List Stmt, (stmtsS S l).2.cells = S.cells
  | [] => by simp [stmtsS]
  | e :: l => by
    rw [stmtsS]
    have h1 := stmtS_cells S e
    split
    · rw [stmtsS_cells, h1]
    · exact h1
end
mutual
theorem stmtS_prefix (S : Sc) : ∀ s : Stmt, S.names <+: (stmtS S s).2.names
  | .mk k s c as bs es => by
    rw [stmtS]
    have h1 := exprsS_names S as
    have h2 := kindS_prefix (exprsS S as).2 k s c
    have h3 := blockS_same (kindS (exprsS S as).2 k s c).2 bs
    have h4 := blockS_same (blockS (kindS (exprsS S as).2 k s c).2 bs).2 es
    rw [h1] at h2
    split
    · dsimp only
      split
      · split
        · rw [h4, h3]; exact h2
        · rw [h3]; exact h2
      · exact h2
    · rw [h1]; exact List.prefix_refl _
theorem blockS_same (S : Sc) (l : List Stmt) : (blockS S l).2.names = S.names := by
  rw [blockS]
  exact (List.prefix_iff_eq_take.1 (stmtsS_prefix S l)).symm
theorem stmtsS_prefix (S : Sc) : ∀ l : List Stmt, S.names <+: (stmtsS S l).2.names
  | [] => by simp [stmtsS]
  | e :: l => by
    rw [stmtsS]
    have h1 := stmtS_prefix S e
    split
    · exact h1.trans (stmtsS_prefix (stmtS S e).2 l)
    · exact h1
end
/-- what a statement does behind the names that it uses -/
def restS (S : Sc) (s : Stmt) : Int × Sc :=
  if s.kind = 5 ∧ s.cell ≥ (if 4 < S.cells then 4 else S.cells) then (63, S)
  else
    let r := if s.kind = 1 then declare S s.name else (0, S)
    if r.1 = 0 then (if (blockS r.2 s.body).1 = 0 then blockS (blockS r.2 s.body).2 s.els else blockS r.2 s.body) else r
theorem stmtS_uses (S : Sc) : ∀ s : Stmt, stmtS S s = if (lookL S s.uses).1 = 0 then restS (lookL S s.uses).2 s else lookL S s.uses
  | .mk k s c as bs es => by
    rw [stmtS, exprsS_names']
    show _ = if (lookL S (Expr.namesL as ++ if k = 2 then [s] else [])).1 = 0 then _ else _
    rw [lookL_append]
    by_cases h0 : (lookL S (Expr.namesL as)).1 = 0
    · simp only [h0, if_true, Stmt.uses, Stmt.args, Stmt.kind, Stmt.name, lookL_append]
      by_cases k2 : k = 2
      · subst k2
        simp only [if_true, lookL_one, kindS, show ¬ (2 : Int) = 1 by decide, if_false]
        by_cases hl : (look (lookL S (Expr.namesL as)).2 s).1 = 0
        · simp only [hl, if_true, restS, Stmt.kind, show ¬ ((2 : Int) = 5) by decide, show ¬ ((2 : Int) = 1) by decide, false_and, if_false, Stmt.body, Stmt.els]
        · simp only [hl, if_false]
      · simp only [k2, if_false, lookL, if_true]
        by_cases k1 : k = 1
        · subst k1
          simp only [kindS, restS, Stmt.kind, Stmt.name, Stmt.body, Stmt.els, show ¬ ((1 : Int) = 5) by decide, if_true, false_and, if_false]
        · by_cases k5 : k = 5
          · subst k5
            simp only [kindS, restS, Stmt.kind, Stmt.cell, Stmt.body, Stmt.els, k1, k2, if_true, true_and, if_false]
            by_cases hc : c ≥ (if 4 < (lookL S (Expr.namesL as)).2.cells then 4 else (lookL S (Expr.namesL as)).2.cells)
            · simp only [if_pos hc, show ¬ ((63 : Int) = 0) by decide, if_false]
            · simp only [if_neg hc, if_true]
          · simp only [kindS, restS, Stmt.kind, Stmt.body, Stmt.els, k1, k2, k5, false_and, if_false, if_true]
    · simp only [h0, if_false, Stmt.uses, Stmt.args, Stmt.kind, Stmt.name, lookL_append]
theorem declare_le8 {S : Sc} (x : ByteArray) (h : S.names.length ≤ 8) : (declare S x).2.names.length ≤ 8 := by
  unfold declare; split
  · exact h
  · split
    · exact h
    · rw [look_names]; simp; omega
theorem kindS_le8 {S : Sc} (k : Int) (x : ByteArray) (c : Int) (h : S.names.length ≤ 8) : (kindS S k x c).2.names.length ≤ 8 := by
  unfold kindS; split
  · exact declare_le8 _ h
  · split
    · rw [look_names]; exact h
    · split <;> exact h
mutual
theorem stmtS_le8 {S : Sc} (h : S.names.length ≤ 8) : ∀ s : Stmt, (stmtS S s).2.names.length ≤ 8
  | .mk k s c as bs es => by
    rw [stmtS]
    have h1 := exprsS_names S as
    have h2 := kindS_le8 k s c (S := (exprsS S as).2) (by rw [h1]; exact h)
    have h3 := blockS_le8 h2 bs
    have h4 := blockS_le8 h3 es
    split
    · dsimp only
      split
      · split
        · exact h4
        · exact h3
      · exact h2
    · rw [h1]; exact h
theorem blockS_le8 {S : Sc} (h : S.names.length ≤ 8) (l : List Stmt) : (blockS S l).2.names.length ≤ 8 := by
  rw [blockS_same]; exact h
theorem stmtsS_le8 {S : Sc} (h : S.names.length ≤ 8) : ∀ l : List Stmt, (stmtsS S l).2.names.length ≤ 8
  | [] => by simpa [stmtsS] using h
  | e :: l => by
    rw [stmtsS]
    have h1 := stmtS_le8 h e
    split
    · exact stmtsS_le8 h1 l
    · exact h1
end
end Go.Proofs.Ytjlnpppjkdcpkaa.My
