/- Layer 6: what the document's Go functions find, Names, Block, one, Slots do. Conditions: the tree was there in the world W, which is kept; it has at most 10^9 nodes. -/
import Derived.Test.YtjlnpppjkdcpkaaERNameS
import Derived.Test.YtjlnpppjkdcpkaaERNameW3
namespace Go.Proofs.Ytjlnpppjkdcpkaa.My
mutual
def Expr.names : Expr → List ByteArray
 | .mk k _ s _ as9 => if k = 2 then [s] else Expr.namesL as9
def Expr.namesL : List Expr → List ByteArray
 | [] => []
 | e :: l => e.names ++ Expr.namesL l
end
theorem Expr.names_eq (e : Expr) : e.names = if e.kind = 2 then [e.name] else Expr.namesL e.args := by cases e; rw [Expr.names]; rfl
mutual
theorem Expr.names_len : ∀ e : Expr, e.names.length ≤ e.nodes
 | .mk k n s o as9 => by
  rw [Expr.names, Expr.nodes]; split
  ·simp
  ·have := Expr.namesL_len as9; omega
theorem Expr.namesL_len : ∀ l : List Expr, (Expr.namesL l).length ≤ Expr.nodesL l
 | [] => by simp [Expr.namesL]
 | e :: l => by rw [Expr.namesL, Expr.nodesL, List.length_append]; have := Expr.names_len e; have := Expr.namesL_len l; omega
end
theorem Expr.namesL_append (a b : List Expr) : Expr.namesL (a ++ b) = Expr.namesL a ++ Expr.namesL b := by
 induction a with
 | nil => rfl
 | cons e l ih => simp only [List.cons_append, Expr.namesL, ih, List.append_assoc]
theorem Expr.namesL_snoc (l : List Expr) (k : Nat) (h : k < l.length) : Expr.namesL (l.take (k + 1)) = Expr.namesL (l.take k) ++ (l[k]).names := by
 rw [← List.take_append_getElem h, Expr.namesL_append]; simp [Expr.namesL]
def lookL (S : Sc) : List ByteArray → Int × Sc
 | [] => (0, S)
 | x :: l => if (look S x).1 = 0 then lookL (look S x).2 l else look S x
theorem lookL_append (S : Sc) (a b : List ByteArray) : lookL S (a ++ b) = if (lookL S a).1 = 0 then lookL (lookL S a).2 b else lookL S a := by
 induction a generalizing S with
 | nil => simp [lookL]
 | cons x l ih =>
  simp only [List.cons_append, lookL]
  by_cases h : (look S x).1 = 0
  ·simp only [h, if_true, ih]
  ·simp only [h, if_false]
theorem lookL_one (S : Sc) (x : ByteArray) : lookL S [x] = look S x := by
 simp only [lookL]
 split
 ·rename_i h; exact Prod.ext h.symm rfl
 ·rfl
mutual
theorem exprS_names' (S : Sc) : ∀ e : Expr, exprS S e = lookL S e.names
 | .mk k n s o as9 => by
  rw [exprS, Expr.names]; split
  ·rw [lookL_one]
  ·exact exprsS_names' S as9
theorem exprsS_names' (S : Sc) : ∀ l : List Expr, exprsS S l = lookL S (Expr.namesL l)
 | [] => by simp [exprsS, Expr.namesL, lookL]
 | e :: l => by
  rw [exprsS, Expr.namesL, lookL_append, exprS_names' S e]; split
  ·exact exprsS_names' _ l
  ·rfl
end
/-- the registers of names, if all are there -/
def regs (names : List ByteArray) : List ByteArray → Option (List Int)
 | [] => some []
 | x :: l => match regOf names x with
  | some r => (regs names l).map (r :: ·)
  | none => none
theorem lookL_regs (S : Sc) (l : List ByteArray) : match regs S.names l with
  | some rs => lookL S l = (0, { S with out := S.out ++ rs })
  | none => (lookL S l).1 = 60 := by
 induction l generalizing S with
 | nil => simp [regs, lookL]
 | cons x l ih =>
  simp only [regs, lookL]
  cases hx : regOf S.names x with
  | none =>
   have : look S x = (60, S) := by unfold look; rw [hx]
   simp [this]
  | some r =>
   have h0 : look S x = (0, { S with out := S.out ++ [r] }) := by unfold look; rw [hx]
   have := ih { S with out := S.out ++ [r] }
   rw [h0]; simp only [if_true]
   revert this
   cases regs S.names l with
   | none => simp
   | some rs => simp
theorem regs_append (names : List ByteArray) (a b : List ByteArray) : regs names (a ++ b) = (regs names a).bind fun x => (regs names b).map (x ++ ·) := by
 induction a with
 | nil => simp [regs]
 | cons x l ih =>
  simp only [List.cons_append, regs, ih]
  cases regOf names x with
  | none => rfl
  | some r =>
   cases regs names l with
   | none => rfl
   | some rs => cases regs names b <;> simp
theorem regs_len {names l : List ByteArray} {rs : List Int} (h : regs names l = some rs) : rs.length = l.length := by
 induction l generalizing rs with
 | nil => simp [regs] at h; subst h; rfl
 | cons x l ih =>
  simp only [regs] at h
  cases hx : regOf names x with
  | none => rw [hx] at h; cases h
  | some r =>
   rw [hx] at h; obtain ⟨rs', h1, rfl⟩ := Option.map_eq_some_iff.1 h; simp [ih h1]
/-- the names of a statement ahead of its blocks, but for the name that it declares -/
def Stmt.uses (s : Stmt) : List ByteArray := Expr.namesL s.args ++ if s.kind = 2 then [s.name] else []
theorem look_same (S : Sc) (x : ByteArray) : (look S x).2.names = S.names ∧ (look S x).2.cells = S.cells ∧ (look S x).2.most = S.most := by
 unfold look; split <;> exact ⟨rfl, rfl, rfl⟩
theorem declare_cells (S : Sc) (x : ByteArray) : (declare S x).2.cells = S.cells := by
 unfold declare; split
 ·rfl
 ·split
  ·rfl
  ·rw [(look_same _ _).2.1]
theorem declare_prefix (S : Sc) (x : ByteArray) : S.names <+: (declare S x).2.names := by
 unfold declare; split
 ·exact List.prefix_refl _
 ·split
  ·exact List.prefix_refl _
  ·rw [look_names]; exact List.prefix_append _ _
theorem kindS_cells (S : Sc) (k : Int) (x : ByteArray) (c : Int) : (kindS S k x c).2.cells = S.cells := by
 unfold kindS; split
 ·exact declare_cells _ _
 ·split
  ·exact (look_same _ _).2.1
  ·split <;> rfl
theorem kindS_prefix (S : Sc) (k : Int) (x : ByteArray) (c : Int) : S.names <+: (kindS S k x c).2.names := by
 unfold kindS; split
 ·exact declare_prefix _ _
 ·split
  ·rw [look_names]; exact List.prefix_refl _
  ·split <;> exact List.prefix_refl _
mutual
theorem exprS_cells (S : Sc) : ∀ e : Expr, (exprS S e).2.cells = S.cells
 | .mk k n s o as9 => by
  rw [exprS]; split
  ·exact (look_same S s).2.1
  ·exact exprsS_cells S as9
theorem exprsS_cells (S : Sc) : ∀ l : List Expr, (exprsS S l).2.cells = S.cells
 | [] => by simp [exprsS]
 | e :: l => by
  rw [exprsS]; have h1 := exprS_cells S e; split
  ·rw [exprsS_cells, h1]
  ·exact h1
end
mutual
theorem stmtS_cells (S : Sc) : ∀ s : Stmt, (stmtS S s).2.cells = S.cells
 | .mk k s c as9 bs es => by
  rw [stmtS]; have h1 := exprsS_cells S as9; have h2 := kindS_cells (exprsS S as9).2 k s c; have h3 := blockS_cells (kindS (exprsS S as9).2 k s c).2 bs; have h4 := blockS_cells (blockS (kindS (exprsS S as9).2 k s c).2 bs).2 es; split
  ·dsimp only
   split
   ·split
    ·rw [h4, h3, h2, h1]
    ·rw [h3, h2, h1]
   ·rw [h2, h1]
  ·exact h1
theorem blockS_cells (S : Sc) (l : List Stmt) : (blockS S l).2.cells = S.cells := by
 rw [blockS]; exact stmtsS_cells S l
theorem stmtsS_cells (S : Sc) : ∀ l : List Stmt, (stmtsS S l).2.cells = S.cells
 | [] => by simp [stmtsS]
 | e :: l => by
  rw [stmtsS]; have h1 := stmtS_cells S e; split
  ·rw [stmtsS_cells, h1]
  ·exact h1
end
mutual
theorem stmtS_prefix (S : Sc) : ∀ s : Stmt, S.names <+: (stmtS S s).2.names
 | .mk k s c as9 bs es => by
  rw [stmtS]; have h1 := exprsS_names S as9; have h2 := kindS_prefix (exprsS S as9).2 k s c; have h3 := blockS_same (kindS (exprsS S as9).2 k s c).2 bs; have h4 := blockS_same (blockS (kindS (exprsS S as9).2 k s c).2 bs).2 es; rw [h1] at h2; split
  ·dsimp only
   split
   ·split
    ·rw [h4, h3]; exact h2
    ·rw [h3]; exact h2
   ·exact h2
  ·rw [h1]; exact List.prefix_refl _
theorem blockS_same (S : Sc) (l : List Stmt) : (blockS S l).2.names = S.names := by
 rw [blockS]; exact (List.prefix_iff_eq_take.1 (stmtsS_prefix S l)).symm
theorem stmtsS_prefix (S : Sc) : ∀ l : List Stmt, S.names <+: (stmtsS S l).2.names
 | [] => by simp [stmtsS]
 | e :: l => by
  rw [stmtsS]; have h1 := stmtS_prefix S e; split
  ·exact h1.trans (stmtsS_prefix (stmtS S e).2 l)
  ·exact h1
end
/-- what a statement does behind the names that it uses -/
def restS (S : Sc) (s : Stmt) : Int × Sc :=
 if s.kind = 5 ∧ s.cell ≥ (if 4 < S.cells then 4 else S.cells) then (63, S)
 else
  let r := if s.kind = 1 then declare S s.name else (0, S)
  if r.1 = 0 then (if (blockS r.2 s.body).1 = 0 then blockS (blockS r.2 s.body).2 s.els else blockS r.2 s.body) else r
theorem stmtS_uses (S : Sc) : ∀ s : Stmt, stmtS S s = if (lookL S s.uses).1 = 0 then restS (lookL S s.uses).2 s else lookL S s.uses
 | .mk k s c as9 bs es => by
  rw [stmtS, exprsS_names']; show _ = if (lookL S (Expr.namesL as9 ++ if k = 2 then [s] else [])).1 = 0 then _ else _
  rw [lookL_append]; by_cases h0 : (lookL S (Expr.namesL as9)).1 = 0
  ·simp only [h0, if_true, Stmt.uses, Stmt.args, Stmt.kind, Stmt.name, lookL_append]
   by_cases k2 : k = 2
   ·subst k2
    simp only [if_true, lookL_one, kindS, show ¬ (2 : Int) = 1 by decide, if_false]
    by_cases hl : (look (lookL S (Expr.namesL as9)).2 s).1 = 0
    ·simp only [hl, if_true, restS, Stmt.kind, show ¬ ((2 : Int) = 5) by decide, show ¬ ((2 : Int) = 1) by decide, false_and, if_false, Stmt.body, Stmt.els]
    ·simp only [hl, if_false]
   ·simp only [k2, if_false, lookL, if_true]
    by_cases k1 : k = 1
    ·subst k1
     simp only [kindS, restS, Stmt.kind, Stmt.name, Stmt.body, Stmt.els, show ¬ ((1 : Int) = 5) by decide, if_true, false_and, if_false]
    ·by_cases k5 : k = 5
     ·subst k5
      simp only [kindS, restS, Stmt.kind, Stmt.cell, Stmt.body, Stmt.els, k1, k2, if_true, true_and, if_false]
      by_cases hc : c ≥ (if 4 < (lookL S (Expr.namesL as9)).2.cells then 4 else (lookL S (Expr.namesL as9)).2.cells)
      ·simp only [if_pos hc, show ¬ ((63 : Int) = 0) by decide, if_false]
      ·simp only [if_neg hc, if_true]
     ·simp only [kindS, restS, Stmt.kind, Stmt.body, Stmt.els, k1, k2, k5, false_and, if_false, if_true]
  ·simp only [h0, if_false, Stmt.uses, Stmt.args, Stmt.kind, Stmt.name, lookL_append]
theorem declare_le8 {S : Sc} (x : ByteArray) (h : S.names.length ≤ 8) : (declare S x).2.names.length ≤ 8 := by
 unfold declare; split
 ·exact h
 ·split
  ·exact h
  ·rw [look_names]; simp; omega
theorem kindS_le8 {S : Sc} (k : Int) (x : ByteArray) (c : Int) (h : S.names.length ≤ 8) : (kindS S k x c).2.names.length ≤ 8 := by
 unfold kindS; split
 ·exact declare_le8 _ h
 ·split
  ·rw [look_names]; exact h
  ·split <;> exact h
mutual
theorem stmtS_le8 {S : Sc} (h : S.names.length ≤ 8) : ∀ s : Stmt, (stmtS S s).2.names.length ≤ 8
 | .mk k s c as9 bs es => by
  rw [stmtS]; have h1 := exprsS_names S as9; have h2 := kindS_le8 k s c (S := (exprsS S as9).2) (by rw [h1]; exact h)
  have h3 := blockS_le8 h2 bs; have h4 := blockS_le8 h3 es; split
  ·dsimp only
   split
   ·split
    ·exact h4
    ·exact h3
   ·exact h2
  ·rw [h1]; exact h
theorem blockS_le8 {S : Sc} (h : S.names.length ≤ 8) (l : List Stmt) : (blockS S l).2.names.length ≤ 8 := by
 rw [blockS_same]; exact h
theorem stmtsS_le8 {S : Sc} (h : S.names.length ≤ 8) : ∀ l : List Stmt, (stmtsS S l).2.names.length ≤ 8
 | [] => by simpa [stmtsS] using h
 | e :: l => by
  rw [stmtsS]; have h1 := stmtS_le8 h e; split
  ·exact stmtsS_le8 h1 l
  ·exact h1
end
end Go.Proofs.Ytjlnpppjkdcpkaa.My
namespace Go.Proofs.Ytjlnpppjkdcpkaa.My
open Go.RowKit Go.Maps
def findP (names : List ByteArray) (x : ByteArray) : Int := (regOf names x).getD (-1)
theorem info_strings : (Try.prog.info? 9).map (fun i => (i.zero, i.size, i.bytes)) = some (some (.string ⟨#[]⟩), 1, 16) := info_string
theorem row_oneS (l : List ByteArray) : ∀ u ∈ l.map Value.string, u.oneCell' = true := by
 intro u hu; obtain ⟨_, _, rfl⟩ := List.mem_map.1 hu; rfl
theorem row_oneI (l : List Int) : ∀ u ∈ l.map (Value.int .i64), u.oneCell' = true := by
 intro u hu; obtain ⟨_, _, rfl⟩ := List.mem_map.1 hu; rfl
theorem idx_take {l : List ByteArray} {x : ByteArray} {k : Nat} (hk : k < l.length) (h : idx (l.take k) x = none) : (l[k] = x → idx l x = some k) ∧ (l[k] ≠ x → idx (l.take (k + 1)) x = none) := by
 constructor
 ·intro e
  have h1 : l = l.take k ++ l.drop k := (List.take_append_drop k l).symm
  rw [h1, idx_append, h]; rw [List.drop_eq_getElem_cons hk]; simp [idx, e]; omega
 ·intro e
  rw [← List.take_append_getElem hk, idx_append, h]; simp [idx, e]
theorem blk_new1 (w : World) (o o' : Obj) : ((w.alloc o).alloc o').heap[w.heap.size + 1]? = some o' := by
 have h := blk_new (w.alloc o) o'; rwa [show (w.alloc o).heap.size = w.heap.size + 1 by simp] at h
theorem beq_str (a b : ByteArray) : (a.toList == b.toList) = true ↔ a = b := by
 rw [beq_iff_eq]; exact ⟨fun h => by rw [ByteArray.toList_eq, ByteArray.toList_eq] at h; cases a; cases b; simp at h; simp [h], fun h => by rw [h]⟩
theorem beq_str1 (a : ByteArray) (c : UInt8) : (a.toList == [c]) = true ↔ a = ⟨#[c]⟩ := by
 have : (⟨#[c]⟩ : ByteArray).toList = [c] := ByteArray.toList_mk [c]
 have h := beq_str a ⟨#[c]⟩; rw [this] at h; exact h
theorem beq_str1f {a : ByteArray} {c : UInt8} (h : a ≠ ⟨#[c]⟩) : (a.toList == [c]) = false := by
 rw [Bool.eq_false_iff]; intro h1; exact h ((beq_str1 a c).1 h1)
theorem beq_strf {a b : ByteArray} (h : a ≠ b) : (a.toList == b.toList) = false := by
 rw [Bool.eq_false_iff]; intro h1; exact h ((beq_str a b).1 h1)
set_option maxRecDepth 100000 in
theorem nfind_calls (names : List ByteArray) (x : ByteArray) (v : Value) (w : World) (hl : names.length ≤ 1000000000) (h : Row w 9 1 v names.length (names.map .string)) :
  Calls Try.prog 89 #[v, .string x] w fun e w' => e = .returned (.int .i64 (findP names x)) ∧ w' = w := by
 obtain ⟨A, c, rfl, hc⟩ := h.slice; by_cases h1 : x = ⟨#[110]⟩
 ·have b1 := (beq_str1 x 110).2 h1
  have HF := Lib.hid (show findP names x = 0 by subst h1; rfl)
  clear h1; go_enter Try.func89, Try.ntmps89
  go_wp2; go_ret; rw [HF.out]; exact ⟨rfl, rfl⟩
 ·have b1 := beq_str1f h1
  by_cases h2 : x = ⟨#[105]⟩
  ·have b2 := (beq_str1 x 105).2 h2
   have HF := Lib.hid (show findP names x = 1 by subst h2; rfl)
   clear h1 h2; go_enter Try.func89, Try.ntmps89
   go_wp2; go_ret; rw [HF.out]; exact ⟨rfl, rfl⟩
  ·have b2 := beq_str1f h2
   by_cases h3 : x = ⟨#[107]⟩
   ·have b3 := (beq_str1 x 107).2 h3
    have HF := Lib.hid (show findP names x = 2 by subst h3; rfl)
    clear h1 h2 h3; go_enter Try.func89, Try.ntmps89
    go_wp2; go_ret; rw [HF.out]; exact ⟨rfl, rfl⟩
   ·have b3 := beq_str1f h3
    have HF := Lib.hid (show findP names x = ((idx names x).map fun (j : Nat) => (3 + (j : Int))).getD (-1) by unfold findP regOf; rw [if_neg h3, if_neg h2, if_neg h1])
    clear h1 h2 h3; go_enter Try.func89, Try.ntmps89
    go_wp2; go_loopw [5] (fun at_ wr => ∃ (k : Nat), at_ = .int .i64 (k : Int) ∧ k ≤ names.length ∧ Hid (idx (names.take k) x = none) ∧ wr = w) (fun a _ => names.length - (intOf a).toNat)
    case atStart => exact ⟨0, rfl, Nat.zero_le _, rfl, rfl⟩
    case round =>
     obtain ⟨k, rfl, hk, HZ, rfl⟩ := hrel; by_cases hlt : k < names.length
     ·have hlt' : ((k : Int) < (names.length : Int)) := by omega
      obtain ⟨g, c', hv, hcell, _⟩ := h.cell (j := k) (u := .string names[k]) (by simp [hlt])
      injection hv with hv _ _
      subst hv; have hit := idx_take hlt HZ.out; by_cases he : names[k] = x
      ·have b4 := (beq_str names[k] x).2 he
       have HI := Lib.hid (hit.1 he); clear hit he; go_wp2; go_ret; rw [HF.out, HI.out]; exact ⟨rfl, rfl⟩
      ·have b4 := beq_strf he
       have HI := Lib.hid (hit.2 he); clear hit he; go_wp2; go_roundw
       case rel => exact ⟨k + 1, by go_num, by omega, HI, trivial⟩
       case measure => simp [intOf]; omega
     ·have hk' : k = names.length := by omega
      subst hk'; have hz := HZ.out; rw [List.take_length] at hz; have HY := Lib.hid hz; clear hz; go_wp2; go_ret; rw [HF.out, HY.out]; exact ⟨rfl, rfl⟩
set_option maxRecDepth 100000 in
theorem names_calls (W : World) (N : Nat) : ∀ (e : Expr) (A : Option Addr) (c : Nat), e.nodes ≤ N → Expr.rds W e.args A 0 → e.nodes ≤ 1000000000 → ∀ (w : World), Below W.heap.size W w →
  Calls Try.prog 88 #[e.val A c] w fun r w' => ∃ v, r = .returned v ∧ Row w' 9 1 v e.names.length (e.names.map .string) ∧ (∀ g, v.ownBlock = some g → w.heap.size ≤ g) ∧ Below w.heap.size w w' := by
 induction N with
 | zero => intro e A c hN; have := e.nodes_eq; omega
 | succ N ih =>
  intro e A c hN hrd hl w hB; have hne := e.nodes_eq; have hal := Expr.nodesL_len e.args; have hnl := Expr.namesL_len e.args; have HE := Lib.hid e.names_eq; unfold Expr.val
  by_cases h2 : e.kind = 2
  ·have h2' : (e.kind == 2) = true := by simp [h2]
   go_enter Try.func88, Try.ntmps88
   go_wp2; go_ret; rw [HE.out, if_pos h2]; refine ⟨_, rfl, ⟨rfl, .inr ⟨_, _, #[.string e.name], rfl, blk_new1 _ _ _, Nat.le_refl _, by decide, Nat.le_refl _, rfl⟩⟩, ?_, ((Below.refl _ _).alloc (Nat.le_refl _) _).alloc (by simp) _⟩
   intro g hg; simp [Value.ownBlock] at hg
   omega
  ·have h2' : (e.kind == 2) = false := by simp [h2]
   have HE' := Lib.hid (HE.out.trans (if_neg h2)); go_enter Try.func88, Try.ntmps88
   go_wp2; have HBX := Lib.hid (blk_new w (.cells #[.int .i64 e.kind, .int .i64 e.num, .string e.name, .int .i64 e.op, .slice A e.args.length c] 66)); go_loopw [3, 4] (fun v at_ wr => ∃ (k : Nat), at_ = .int .i64 (k : Int) ∧ k ≤ e.args.length ∧ Hid (Row wr 9 1 v (Expr.namesL (e.args.take k)).length ((Expr.namesL (e.args.take k)).map .string)) ∧ Hid (∀ g, v.ownBlock = some g → w.heap.size ≤ g) ∧ Below w.heap.size w wr ∧ Hid (wr.heap[w.heap.size]? = some (.cells #[.int .i64 e.kind, .int .i64 e.num, .string e.name, .int .i64 e.op, .slice A e.args.length c] 66 (0, 0)))) (fun _ a _ => e.args.length - (intOf a).toNat)
   case atStart => exact ⟨0, rfl, Nat.zero_le _, Row.nil _ _ _, fun g hg => by simp [Value.ownBlock] at hg, (Below.refl _ _).alloc (Nat.le_refl _) _, HBX⟩
   case round =>
    obtain ⟨k, rfl, hk, HR, HO, HB, HX⟩ := hrel; clear HBX; have b4 := blk_cell HX.out 4; by_cases hlt : k < e.args.length
    ·have hsz := Expr.nodesL_take e.args k hlt
     have hln := Expr.namesL_len (e.args.take k); have hl1 := Expr.names_len e.args[k]; obtain ⟨b, o, A', c', rfl, hbW, g0, g1, g2, g3, g4, hc', hs', hrd'⟩ := Expr.at hrd (hB.trans (HB.mono hB.size)) hlt; have hlt' : ((k : Int) < (e.args.length : Int)) := by omega
     have hI := ih e.args[k] A' c' (by omega) hrd' (by omega) wr (hB.trans (HB.mono hB.size))
     unfold Expr.val at hI
     have HS := Lib.hid (Expr.namesL_snoc e.args k hlt); go_wp2_with (first
      | (at_builtin; go_must (refine wpList_append_rows _ rfl _ _ 78 rfl 9 (.string ⟨#[]⟩) 1 16 Try.underlying78 info_strings rfl u3 _ _ rfl (HR.out.keep fun g hg => hb2.block g (HR.out.lt hg)) v2 _ _ rfl hr2 (row_oneS _) (by unfold maxLen; omega) (by omega) ?_); intro v3 w2 hr3 hg3 hn3)
      | (go_at_call 88; go_must (refine hI.mono ?_); rintro x w1 ⟨v2, rfl, hr2, ho2, hb2⟩))
     go_roundw
     case rel =>
      have hlt2 := blk_lt HX.out; have hvn : u3.ownBlock ≠ some w.heap.size := HR.out.ne HX.out (by decide)
      refine ⟨k + 1, by go_num, by omega, ?_, ?_, ?_, ?_⟩
      ·rw [HS.out]
       refine Lib.hid ?_; rw [List.length_append, List.map_append]; exact hr3
      ·refine Lib.hid fun g hg => ?_
       rcases hn3 with h | h
       ·exact HO.out g (h ▸ hg)
       ·rw [hg] at h; have h := Option.some.inj h; have := hb2.size; have := HB.size; omega
      ·have K1 : Keep (fun _ => False) w wr := ⟨HB.os, HB.tape, HB.output, HB.size, fun k hk _ => HB.block k hk⟩
       have K2 := (K1.below hb2).grown hg3 fun g hg => .inr (HO.out g hg)
       exact K2.toBelow (Nat.le_refl _) (fun _ h => h.elim)
      ·exact Lib.hid ((hg3.block _ (Nat.lt_of_lt_of_le hlt2 hb2.size) (Ne.symm hvn)).trans (below_blk hb2 HX.out hlt2))
     case measure => simp [intOf]; omega
    ·go_wp2
     go_ret; have hk' : k = e.args.length := by omega
     subst hk'; have hq := HR.out; rw [List.take_length] at hq; rw [HE'.out]; exact ⟨_, rfl, hq, HO.out, HB⟩
end Go.Proofs.Ytjlnpppjkdcpkaa.My
