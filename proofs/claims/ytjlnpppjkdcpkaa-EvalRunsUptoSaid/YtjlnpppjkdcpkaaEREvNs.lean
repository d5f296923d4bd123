/- Shorter words for walks through regions that draw their order, and for boxes of ten cells. No conditions. -/
import Derived.Test.YtjlnpppjkdcpkaaEREvG
import Derived.Test.YtjlnpppjkdcpkaaEREvA
import Derived.Test.YtjlnpppjkdcpkaaEREv64
import Derived.Test.YtjlnpppjkdcpkaaERNameR
import Derived.Deep.CutRange
import Derived.Deep.DeepCutAuto
namespace Go.Proofs.Ytjlnpppjkdcpkaa.My
open Go.RowKit Go.Proofs.Ytjlnpppjkdcpkaa.NumA
set_option linter.unusedVariables false
set_option linter.unusedSimpArgs false
/-- an effect with its numbers, and the error -/
structure Res where
 S : Ev
 ov : Int
 va : Int
 st : Int
 code : Int
def emptyS : Ev := ⟨[], [], [], [], [], 0⟩
def Ran (ss : List Stmt) (L : Int) (mem : List Int) (n i k B : Int) (r : Res) : Prop :=
 (runErr ss L mem.length B = 0 ∧ r.code = 0 ∧ ∃ o, Does B (.block ss) (startS mem n i k) r.S o ∧ r.ov = (howE o).1 ∧ r.va = (howE o).2 ∧ r.st = r.S.ticks)
 ∨ (runErr ss L mem.length B ≠ 0 ∧ r = ⟨emptyS, 0, 0, 0, runErr ss L mem.length B⟩)
theorem Ran.same {ss : List Stmt} {L : Int} {mem : List Int} {n i k B : Int} {r1 r2 : Res} (h1 : Ran ss L mem n i k B r1) (h2 : Ran ss L mem n i k B r2) : r1 = r2 := by
 rcases h1 with ⟨e1, c1, o1, d1, a1, b1, t1⟩ | ⟨e1, rfl⟩
 ·rcases h2 with ⟨e2, c2, o2, d2, a2, b2, t2⟩ | ⟨e2, rfl⟩
  ·obtain ⟨S1, ov1, va1, st1, code1⟩ := r1
   obtain ⟨S2, ov2, va2, st2, code2⟩ := r2; simp only at c1 d1 a1 b1 t1 c2 d2 a2 b2 t2
   obtain ⟨hS, ho⟩ := d1.same d2; subst hS; subst ho
   rw [c1, a1, b1, t1, c2, a2, b2, t2]
  ·exact absurd e1 e2
 ·rcases h2 with ⟨e2, c2, o2, d2, a2, b2, t2⟩ | ⟨e2, rfl⟩
  ·exact absurd e2 e1
  ·rfl
theorem run_u (W : World) (ss : List Stmt) (A : Option Addr) (c : Nat) (hrd : Stmt.rds W ss A 0) (hnl : Stmt.nodesL ss ≤ 1000000000) (L : Int) (mem : List Int) (AM : Option Addr) (cM : Nat) (n i k B : Int) (w : World) (hB : Below W.heap.size W w) (hm : numRow w mem AM) (hml : mem.length ≤ maxLen) :
  Calls Try.prog 22 #[.slice A ss.length c, .int .i64 L, .agg #[.slice AM mem.length cM, .int .i64 n, .int .i64 i, .int .i64 k], .int .i64 B] w fun E w' => ∃ r M O I, Below w.heap.size w w' ∧ Ran ss L mem n i k B r ∧ OutAt w' w.heap.size r.S M O I ∧ E = .returned (.tuple #[.agg #[M, O, I, .int .i64 r.ov, .int .i64 r.va, .int .i64 r.st], .int .i64 r.code]) := by
 refine (run_calls W ss A c hrd hnl L mem AM cM n i k B w hB hm hml).mono ?_; rintro E w' ⟨hb, h⟩; split at h
 ·rename_i h0
  obtain ⟨S, o, M, O, I, hd, ho, rfl⟩ := h; exact ⟨⟨S, (howE o).1, (howE o).2, S.ticks, 0⟩, M, O, I, hb, .inl ⟨h0, rfl, o, hd, rfl, rfl, rfl⟩, ho, rfl⟩
 ·rename_i h0
  subst h; exact ⟨⟨emptyS, 0, 0, 0, runErr ss L mem.length B⟩, .slice none 0 0, .slice none 0 0, .slice none 0 0, hb, .inr ⟨h0, rfl⟩, ⟨Row.nil _ _ _, Row.nil _ _ _, Row.nil _ _ _, by simp [Value.ownBlock], by simp [Value.ownBlock], by simp [Value.ownBlock], by simp [Value.ownBlock]⟩, rfl⟩
theorem Row.drewN {w : World} {t : TypeId} {z n : Nat} {v : Value} {xs : List Value} (h : Row w t z v n xs) (k : Nat) : Row (w.drewN k) t z v n xs := h
end Go.Proofs.Ytjlnpppjkdcpkaa.My
namespace Go.Proofs.Ytjlnpppjkdcpkaa.My
open Go.RowKit Go.Proofs.Ytjlnpppjkdcpkaa.NumA
set_option linter.unusedVariables false
set_option linter.unusedSimpArgs false
def TrueB (W : World) (e : Ending) (w' : World) : Prop := e = .returned (.bool true) ∧ Below W.heap.size W w'
end Go.Proofs.Ytjlnpppjkdcpkaa.My
namespace Go.Proofs.Ytjlnpppjkdcpkaa.My
open Go.RowKit Go.Proofs.Ytjlnpppjkdcpkaa.NumA
set_option linter.unusedVariables false
set_option linter.unusedSimpArgs false
def baseN : List ByteArray := [⟨#[110]⟩, ⟨#[105]⟩, ⟨#[107]⟩]
theorem lastIdx_mem {x : ByteArray} : ∀ {l : List ByteArray}, x ∈ l → ∃ i, lastIdx l x = some i
 | y :: l, h => by
  rw [lastIdx]
  cases hl : lastIdx l x with
  | some k => exact ⟨_, rfl⟩
  | none =>
   rcases List.mem_cons.1 h with e | e
   ·subst e; exact ⟨0, by simp⟩
   ·obtain ⟨i, hi⟩ := lastIdx_mem e; rw [hl] at hi; cases hi
theorem regOf_found {T : List ByteArray} {x : ByteArray} (h : regOf T x ≠ none) : ∃ i, lastIdx (baseN ++ T) x = some i := by
 refine lastIdx_mem ?_; unfold regOf at h; split at h
 ·rename_i e; subst e; simp [baseN]
 ·split at h
  ·rename_i e; subst e; simp [baseN]
  ·split at h
   ·rename_i e; subst e; simp [baseN]
   ·by_cases hx : x ∈ T
    ·simp [hx]
    ·rw [idx_none.2 hx] at h; simp at h
theorem look_found {T : Sc} {x : ByteArray} (h : (look T x).1 = 0) : ∃ i, lastIdx (baseN ++ T.names) x = some i := by
 refine regOf_found fun e => ?_
 rw [look, e] at h; simp at h
mutual
theorem exprV_found {S : Ev} : ∀ (e : Expr) (T : Sc), S.names = baseN ++ T.names → (exprS T e).1 = 0 → ∀ v, exprV S e ≠ .left 0 v
 | .mk k n s o la => by
  intro T hT h v hv; rw [exprS] at h; rw [exprV] at hv; split at hv
  ·cases hv
  ·split at hv
   ·rename_i h2
    rw [if_pos h2] at h; obtain ⟨i, hi⟩ := look_found h; rw [nameV, hT, hi] at hv
    cases hv
   ·rename_i h2
    rw [if_neg h2] at h; have ih := exprsV_found la T hT h; split at hv
    ·rename_i w u hw
     injection hv with e1 e2
     subst e1; exact ih _ hw
    ·split at hv
     ·unfold memV at hv; split at hv <;> simp at hv
     ·split at hv
      ·cases hv
      ·unfold twoV at hv; split at hv <;> simp at hv
theorem exprsV_found {S : Ev} : ∀ (l : List Expr) (T : Sc), S.names = baseN ++ T.names → (exprsS T l).1 = 0 → ∀ v, exprsV S l ≠ .left 0 v
 | [] => by intro T _ _ v hv; rw [exprsV] at hv; cases hv
 | e :: l => by
  intro T hT h v hv; rw [exprsS] at h; by_cases h1 : (exprS T e).1 = 0
  ·rw [if_pos h1] at h
   rw [exprsV] at hv; split at hv
   ·rename_i a b hw
    injection hv with e1 e2
    subst e1; exact exprV_found e T hT h1 _ hw
   ·split at hv
    ·rename_i a b hw
     injection hv with e1 e2
     subst e1; exact exprsV_found l (exprS T e).2 (by rw [exprS_names]; exact hT) h _ hw
    ·cases hv
  ·rw [if_neg h1] at h; exact absurd h h1
end
theorem blockS_one (T : Sc) (l : List Stmt) : (blockS T l).1 = (stmtsS T l).1 := by rw [blockS]
def Task.known (T : Sc) : Task → Prop
 | .stmt s => (stmtS T s).1 = 0
 | .seq l => (stmtsS T l).1 = 0
 | .block l => (blockS T l).1 = 0
 | .loop s => (exprsS T s.args).1 = 0 ∧ ∃ T' : Sc, T'.names = T.names ∧ (blockS T' s.body).1 = 0
def Task.after (T : Sc) : Task → List ByteArray
 | .stmt s => (stmtS T s).2.names
 | .seq l => (stmtsS T l).2.names
 | .block _ => T.names
 | .loop _ => T.names
theorem stmtS_ok {T : Sc} {s : Stmt} (h : (stmtS T s).1 = 0) : (exprsS T s.args).1 = 0 ∧ (kindS (exprsS T s.args).2 s.kind s.name s.cell).1 = 0 ∧ (blockS (kindS (exprsS T s.args).2 s.kind s.name s.cell).2 s.body).1 = 0 ∧ (blockS (blockS (kindS (exprsS T s.args).2 s.kind s.name s.cell).2 s.body).2 s.els).1 = 0 ∧
  (stmtS T s).2.names = (kindS (exprsS T s.args).2 s.kind s.name s.cell).2.names := by
 cases s with
 | mk k s c la lb le =>
  rw [stmtS] at h ⊢; by_cases h1 : (exprsS T la).1 = 0
  ·rw [if_pos h1] at h ⊢
   simp only at h ⊢
   by_cases h2 : (kindS (exprsS T la).2 k s c).1 = 0
   ·rw [if_pos h2] at h ⊢
    by_cases h3 : (blockS (kindS (exprsS T la).2 k s c).2 lb).1 = 0
    ·rw [if_pos h3] at h ⊢
     exact ⟨h1, h2, h3, h, by rw [blockS_same, blockS_same]; rfl⟩
    ·rw [if_neg h3] at h; exact absurd h h3
   ·rw [if_neg h2] at h; exact absurd h h2
  ·rw [if_neg h1] at h; exact absurd h h1
theorem kindS_other {T : Sc} {k : Int} {x : ByteArray} {c : Int} (hk : k ≠ 1) : (kindS T k x c).2.names = T.names := by
 unfold kindS; rw [if_neg hk]; split
 ·exact look_names T x
 ·split <;> rfl
theorem back_names {S S' : Ev} {T : Sc} {l : List Stmt} (hS : S.names = baseN ++ T.names) (h : S'.names = baseN ++ (stmtsS T l).2.names) : (S'.back S.names.length).names = baseN ++ T.names := by
 show S'.names.take S.names.length = _
 rw [h, hS]; obtain ⟨m, hm⟩ := stmtsS_prefix T l; rw [← hm, ← List.append_assoc, List.take_left']; rfl
theorem doV_names {S : Ev} {s : Stmt} {a b : Int} (hk : s.kind ≠ 1) : (doV S s a b).1.names = S.names := by
 unfold doV; rw [if_neg hk]; repeat' split
 all_goals rfl
theorem doV_known {S : Ev} {s : Stmt} {a b v : Int} (h : ∃ i, s.kind = 2 → lastIdx S.names s.name = some i) : (doV S s a b).2 ≠ some (0, v) := by
 obtain ⟨i, hi⟩ := h; unfold doV; by_cases h1 : s.kind = 1
 ·rw [if_pos h1]; simp
 rw [if_neg h1]; by_cases h2 : s.kind = 2
 ·rw [if_pos h2, hi h2]; simp
 rw [if_neg h2]; repeat' split
 all_goals simp
/-- names that have registers are found; it is out of ticks only when they are spent -/
theorem Does.known {B : Int} {t : Task} {S S' : Ev} {o : Option (Int × Int)} (h : Does B t S S' o) : ∀ T : Sc, S.names = baseN ++ T.names → t.known T → (o = none → S'.names = baseN ++ t.after T) ∧ ∀ v, o = some (0, v) → S'.ticks = B := by
 induction h with
 | nil => exact fun T hT _ => ⟨fun _ => by simpa [Task.after, stmtsS] using hT, fun v hv => by cases hv⟩
 | @first s l S S' x _ ih =>
  intro T hT hk; simp only [Task.known, stmtsS] at hk
  by_cases h1 : (stmtS T s).1 = 0
  ·exact ⟨fun e => (by cases e), (ih T hT h1).2⟩
  ·rw [if_neg h1] at hk; exact absurd hk h1
 | @next s l S S' S'' o _ _ ih1 ih2 =>
  intro T hT hk; simp only [Task.known, stmtsS] at hk
  by_cases h1 : (stmtS T s).1 = 0
  ·rw [if_pos h1] at hk
   have hS' := (ih1 T hT h1).1 rfl; have h2 := ih2 (stmtS T s).2 hS' hk; refine ⟨fun e => ?_, h2.2⟩
   have := h2.1 e
   simp only [Task.after, stmtsS] at this ⊢
   rw [if_pos h1]; exact this
  ·rw [if_neg h1] at hk; exact absurd hk h1
 | @block l S S' _ ih =>
  intro T hT hk; have h1 := ih T hT (by simp only [Task.known] at hk ⊢; rw [blockS_one] at hk; exact hk)
  exact ⟨fun _ => back_names hT (h1.1 rfl), fun v hv => by cases hv⟩
 | @blockLeft l S S' x _ ih =>
  intro T hT hk; exact ⟨fun e => (by cases e), (ih T hT (by simp only [Task.known] at hk ⊢; rw [blockS_one] at hk; exact hk)).2⟩
 | @loops s S S' o h7 _ ih =>
  intro T hT hk; obtain ⟨a1, a2, a3, a4, a5⟩ := stmtS_ok hk; have hn : (kindS (exprsS T s.args).2 s.kind s.name s.cell).2.names = T.names := by rw [kindS_other (by rw [h7]; decide), exprsS_names]
  have h1 := ih T hT ⟨a1, _, hn, a3⟩; refine ⟨fun e => ?_, h1.2⟩
  have := h1.1 e
  simp only [Task.after] at this ⊢
  rw [a5, hn]; exact this
 | spent _ hB => exact fun T hT hk => ⟨fun e => (by cases e), fun v hv => hB⟩
 | @fell s S h v h7 hB hv =>
  intro T hT hk; obtain ⟨a1, _⟩ := stmtS_ok hk; refine ⟨fun e => (by cases e), fun u hu => ?_⟩
  simp only [Option.some.injEq, Prod.mk.injEq] at hu
  obtain ⟨e1, e2⟩ := hu; subst e1; exact absurd hv (exprsV_found (S := S.tick) s.args T hT a1 v)
 | @does s S vs h7 h6 hB hv =>
  intro T hT hk; obtain ⟨a1, a2, a3, a4, a5⟩ := stmtS_ok hk; refine ⟨fun _ => ?_, fun v hd => ?_⟩
  ·simp only [Task.after]
   rw [a5]; by_cases h1 : s.kind = 1
   ·have hd : kindS (exprsS T s.args).2 s.kind s.name s.cell = declare (exprsS T s.args).2 s.name := by unfold kindS; rw [if_pos h1]
    rw [hd] at a2 ⊢; unfold declare at a2 ⊢; by_cases b1 : (regOf (exprsS T s.args).2.names s.name).isSome = true
    ·rw [if_pos b1] at a2; simp at a2
    ·rw [if_neg b1] at a2 ⊢
     by_cases b2 : (exprsS T s.args).2.names.length = 8
     ·rw [if_pos b2] at a2; simp at a2
     ·rw [if_neg b2, look_names]
      simp only [doV, if_pos h1]
      show S.names ++ [s.name] = _
      rw [hT, exprsS_names, List.append_assoc]
   ·rw [doV_names h1, kindS_other h1, exprsS_names]
    exact hT
  ·refine absurd hd (doV_known ?_)
   by_cases h2 : s.kind = 2
   ·have hd : kindS (exprsS T s.args).2 s.kind s.name s.cell = look (exprsS T s.args).2 s.name := by unfold kindS; rw [if_neg (by omega), if_pos h2]
    rw [hd] at a2; obtain ⟨i, hi⟩ := look_found a2; rw [exprsS_names] at hi; exact ⟨i, fun _ => by show lastIdx S.names s.name = _; rw [hT]; exact hi⟩
   ·exact ⟨0, fun h => absurd h h2⟩
 | @thn s S S' o vs h6 hB hv h0 _ ih =>
  intro T hT hk; obtain ⟨a1, a2, a3, a4, a5⟩ := stmtS_ok hk; have hn : (kindS (exprsS T s.args).2 s.kind s.name s.cell).2.names = T.names := by rw [kindS_other (by rw [h6]; decide), exprsS_names]
  have h1 := ih _ (show S.tick.names = baseN ++ (kindS (exprsS T s.args).2 s.kind s.name s.cell).2.names by rw [hn]; exact hT) a3
  refine ⟨fun e => ?_, h1.2⟩
  have := h1.1 e
  simp only [Task.after] at this ⊢
  rw [a5]; exact this
 | @els s S S' o vs h6 hB hv h0 _ ih =>
  intro T hT hk; obtain ⟨a1, a2, a3, a4, a5⟩ := stmtS_ok hk; have hn : (kindS (exprsS T s.args).2 s.kind s.name s.cell).2.names = T.names := by rw [kindS_other (by rw [h6]; decide), exprsS_names]
  have h1 := ih _ (show S.tick.names = baseN ++ (blockS (kindS (exprsS T s.args).2 s.kind s.name s.cell).2 s.body).2.names by rw [blockS_same, hn]; exact hT) a4
  refine ⟨fun e => ?_, h1.2⟩
  have := h1.1 e
  simp only [Task.after] at this ⊢
  rw [a5]; rw [blockS_same] at this; exact this
 | loopSpent hB => exact fun T hT hk => ⟨fun e => (by cases e), fun v hv => hB⟩
 | @loopFell s S h v hB hv =>
  intro T hT hk; refine ⟨fun e => (by cases e), fun u hu => ?_⟩
  simp only [Option.some.injEq, Prod.mk.injEq] at hu
  obtain ⟨e1, e2⟩ := hu; subst e1; exact absurd hv (exprsV_found (S := S.tick) s.args T hT hk.1 v)
 | loopEnd _ _ _ => exact fun T hT hk => ⟨fun _ => hT, fun v hv => by cases hv⟩
 | @loopLeft s S S' x vs hB hv h0 _ ih =>
  intro T hT hk; obtain ⟨T', hn, hb⟩ := hk.2; exact ⟨fun e => (by cases e), (ih T' (by rw [hn]; exact hT) hb).2⟩
 | @again s S S' S'' o vs hB hv h0 _ _ ih1 ih2 =>
  intro T hT hk; obtain ⟨T', hn, hb⟩ := hk.2; have h1 := (ih1 T' (by rw [hn]; exact hT) hb).1 rfl
  simp only [Task.after] at h1
  rw [hn] at h1; exact ih2 T h1 hk
end Go.Proofs.Ytjlnpppjkdcpkaa.My
namespace Go.Proofs.Ytjlnpppjkdcpkaa.My
open Go.RowKit Go.Proofs.Ytjlnpppjkdcpkaa.NumA
set_option linter.unusedVariables false
set_option linter.unusedSimpArgs false
structure Rw where
 a : Option Addr
 n : Nat
 c : Nat
def Rw.v (r : Rw) : Value := .slice r.a r.n r.c
def dsL (N V M O I : Rw) (ov va tk lf : Int) (e : Bool) : List Value := [.slice N.a N.n N.c, .slice V.a V.n V.c, .slice M.a M.n M.c, .slice O.a O.n O.c, .slice I.a I.n I.c, .int .i64 ov, .int .i64 va, .int .i64 tk, .int .i64 lf, .bool e]
/-- where a name stands last; below 0: nowhere -/
def placeP (l : List ByteArray) (x : ByteArray) : Int := match lastIdx l x with
 | some i => (i : Int)
 | none => -1
theorem placeP_take {l : List ByteArray} {x : ByteArray} {k : Nat} (h : k < l.length) : placeP (l.take (k + 1)) x = if l[k] = x then (k : Int) else placeP (l.take k) x := by
 have key : ∀ (l : List ByteArray) (y : ByteArray), lastIdx (l ++ [y]) x = if y = x then some l.length else lastIdx l x := by
  intro l y; induction l with
  | nil => simp [lastIdx]
  | cons z l ih =>
   rw [List.cons_append, lastIdx, ih]; by_cases hy : y = x
   ·rw [if_pos hy, if_pos hy]; rfl
   ·rw [if_neg hy, if_neg hy, lastIdx]
 unfold placeP; rw [← List.take_append_getElem h, key]; by_cases hy : l[k] = x
 ·rw [if_pos hy, if_pos hy]; simp; omega
 ·rw [if_neg hy, if_neg hy]
set_option maxRecDepth 100000 in
theorem place_calls (names : List ByteArray) (x : ByteArray) (v : Value) (w : World) (hl : names.length ≤ 1000000000) (h : Row w 9 1 v names.length (strs names)) :
  Calls Try.prog 81 #[v, .string x] w fun e w' => e = .returned (.int .i64 (placeP names x)) ∧ w' = w := by
 obtain ⟨A, c, rfl, hc⟩ := h.slice; go_enter Try.func81, Try.ntmps81
 go_wp2; go_loopw [5, 6] (fun r at_ wr => ∃ (k : Nat), at_ = .int .i64 (k : Int) ∧ k ≤ names.length ∧ r = .int .i64 (placeP (names.take k) x) ∧ wr = w) (fun _ a _ => names.length - (intOf a).toNat)
 case atStart => exact ⟨0, rfl, Nat.zero_le _, rfl, rfl⟩
 case round =>
  obtain ⟨k, rfl, hk, rfl, rfl⟩ := hrel; by_cases hlt : k < names.length
  ·have hlt' : ((k : Int) < (names.length : Int)) := by omega
   obtain ⟨g, e1, hcell⟩ := h.cellA (strs_get hlt); subst e1; have htk := placeP_take (x := x) hlt; by_cases he : names[k] = x
   ·have b4 := (beq_str names[k] x).2 he
    rw [if_pos he] at htk; have HT := Lib.hid htk; clear he htk; go_wp2; go_roundw
    case rel => exact ⟨k + 1, by go_num, by omega, by rw [HT.out], trivial⟩
    case measure => simp [intOf]; omega
   ·have b4 := beq_strf he
    rw [if_neg he] at htk; have HT := Lib.hid htk; clear he htk; go_wp2; go_roundw
    case rel => exact ⟨k + 1, by go_num, by omega, by rw [HT.out], trivial⟩
    case measure => simp [intOf]; omega
  ·have hk' : k = names.length := by omega
   subst hk'; go_wp2; go_ret; rw [List.take_length]; exact ⟨rfl, rfl⟩
def insideP (n : Nat) (a : Int) : Bool := decide (0 ≤ a) && decide (a < (n : Int))
set_option maxRecDepth 100000 in
theorem inside_calls (N V M O I : Rw) (ov va tk lf : Int) (e : Bool) (a : Int) (w : World) :
  Calls Try.prog 82 #[.agg (dsL N V M O I ov va tk lf e).toArray, .int .i64 a] w fun y w' => y = .returned (.bool (insideP M.n a)) ∧ Below w.heap.size w w' := by
 unfold dsL; by_cases h0 : 0 ≤ a
 ·have h0' : a ≥ 0 := h0
  have HI := Lib.hid (show insideP M.n a = decide (a < (M.n : Int)) by simp [insideP, h0])
  clear h0; go_enter Try.func82, Try.ntmps82
  go_wp2; go_ret; rw [HI.out]; exact ⟨rfl, (Below.refl _ _).al⟩
 ·have h0' : ¬ (a ≥ 0) := h0
  have HI := Lib.hid (show insideP M.n a = false by simp [insideP, h0])
  clear h0; go_enter Try.func82, Try.ntmps82
  go_wp2; go_ret; rw [HI.out]; exact ⟨rfl, (Below.refl _ _).al⟩
def dsC (l : List Value) : Obj := .cells l.toArray 93 (0, 0)
theorem ds_size : (Try.prog.info? 93).map (·.size) = some 10 := by kernel_rfl
set_option maxRecDepth 100000 in
theorem results_ds {fn : Func} {t : Tmp} (h : fn.results = #[.cell t 93]) (tmps : Array Value) (w : World) (b : Nat) (N V M O I : Rw) (ov va tk lf : Int) (e : Bool) (ht : tmps.getD t undef = .pointer (some ⟨b, 0, none⟩)) (hc : w.heap[b]? = some (dsC (dsL N V M O I ov va tk lf e))) :
  (results fn tmps).run Try.prog w = .ok (.agg (dsL N V M O I ov va tk lf e).toArray) w :=
 results_cell h tmps w b (dsL N V M O I ov va tk lf e) ht (range_at hc 0 (dsL N V M O I ov va tk lf e) rfl) rfl rfl ds_size
/-- ten cells laid over ten -/
def put10 (w : World) (b : Nat) (N V M O I : Rw) (ov va tk lf : Int) (e : Bool) : World := (((((((((w.setCell ⟨b, 0, none⟩ (.slice N.a N.n N.c)).setCell ⟨b, 1, none⟩ (.slice V.a V.n V.c)).setCell ⟨b, 2, none⟩ (.slice M.a M.n M.c)).setCell ⟨b, 3, none⟩ (.slice O.a O.n O.c)).setCell ⟨b, 4, none⟩ (.slice I.a I.n I.c)).setCell ⟨b, 5, none⟩ (.int .i64 ov)).setCell ⟨b, 6, none⟩ (.int .i64 va)).setCell ⟨b, 7, none⟩ (.int .i64 tk)).setCell ⟨b, 8, none⟩ (.int .i64 lf)).setCell ⟨b, 9, none⟩ (.bool e)
theorem dsC_eq (N V M O I : Rw) (ov va tk lf : Int) (e : Bool) : dsC (dsL N V M O I ov va tk lf e) = .cells #[.slice N.a N.n N.c, .slice V.a V.n V.c, .slice M.a M.n M.c, .slice O.a O.n O.c, .slice I.a I.n I.c, .int .i64 ov, .int .i64 va, .int .i64 tk, .int .i64 lf, .bool e] 93 (0, 0) := rfl
theorem set10 {w : World} {b : Nat} {t : TypeId} {c0 c1 c2 c3 c4 c5 c6 c7 c8 c9 : Value} (h : w.heap[b]? = some (.cells #[c0, c1, c2, c3, c4, c5, c6, c7, c8, c9] t (0, 0))) (u0 u1 u2 u3 u4 u5 u6 u7 u8 u9 : Value) :
  ((((((((((w.setCell ⟨b, 0, none⟩ u0).setCell ⟨b, 1, none⟩ u1).setCell ⟨b, 2, none⟩ u2).setCell ⟨b, 3, none⟩ u3).setCell ⟨b, 4, none⟩ u4).setCell ⟨b, 5, none⟩ u5).setCell ⟨b, 6, none⟩ u6).setCell ⟨b, 7, none⟩ u7).setCell ⟨b, 8, none⟩ u8).setCell ⟨b, 9, none⟩ u9).heap[b]? = some (.cells #[u0, u1, u2, u3, u4, u5, u6, u7, u8, u9] t (0, 0)) := by
 have h0 : (w.setCell ⟨b, 0, none⟩ u0).heap[b]? = some (.cells #[u0, c1, c2, c3, c4, c5, c6, c7, c8, c9] t (0, 0)) := blk_set h 0 u0
 have h1 : ((w.setCell ⟨b, 0, none⟩ u0).setCell ⟨b, 1, none⟩ u1).heap[b]? = some (.cells #[u0, u1, c2, c3, c4, c5, c6, c7, c8, c9] t (0, 0)) := blk_set h0 1 u1
 generalize (w.setCell ⟨b, 0, none⟩ u0).setCell ⟨b, 1, none⟩ u1 = w1 at h1 ⊢
 have h2 : (w1.setCell ⟨b, 2, none⟩ u2).heap[b]? = some (.cells #[u0, u1, u2, c3, c4, c5, c6, c7, c8, c9] t (0, 0)) := blk_set h1 2 u2
 generalize w1.setCell ⟨b, 2, none⟩ u2 = w2 at h2 ⊢
 have h3 : (w2.setCell ⟨b, 3, none⟩ u3).heap[b]? = some (.cells #[u0, u1, u2, u3, c4, c5, c6, c7, c8, c9] t (0, 0)) := blk_set h2 3 u3
 generalize w2.setCell ⟨b, 3, none⟩ u3 = w3 at h3 ⊢
 have h4 : (w3.setCell ⟨b, 4, none⟩ u4).heap[b]? = some (.cells #[u0, u1, u2, u3, u4, c5, c6, c7, c8, c9] t (0, 0)) := blk_set h3 4 u4
 generalize w3.setCell ⟨b, 4, none⟩ u4 = w4 at h4 ⊢
 have h5 : (w4.setCell ⟨b, 5, none⟩ u5).heap[b]? = some (.cells #[u0, u1, u2, u3, u4, u5, c6, c7, c8, c9] t (0, 0)) := blk_set h4 5 u5
 generalize w4.setCell ⟨b, 5, none⟩ u5 = w5 at h5 ⊢
 have h6 : (w5.setCell ⟨b, 6, none⟩ u6).heap[b]? = some (.cells #[u0, u1, u2, u3, u4, u5, u6, c7, c8, c9] t (0, 0)) := blk_set h5 6 u6
 generalize w5.setCell ⟨b, 6, none⟩ u6 = w6 at h6 ⊢
 have h7 : (w6.setCell ⟨b, 7, none⟩ u7).heap[b]? = some (.cells #[u0, u1, u2, u3, u4, u5, u6, u7, c8, c9] t (0, 0)) := blk_set h6 7 u7
 generalize w6.setCell ⟨b, 7, none⟩ u7 = w7 at h7 ⊢
 have h8 : (w7.setCell ⟨b, 8, none⟩ u8).heap[b]? = some (.cells #[u0, u1, u2, u3, u4, u5, u6, u7, u8, c9] t (0, 0)) := blk_set h7 8 u8
 generalize w7.setCell ⟨b, 8, none⟩ u8 = w8 at h8 ⊢
 exact blk_set h8 9 u9
theorem put10_blk {w : World} {b : Nat} {N0 V0 M0 O0 I0 : Rw} {ov0 va0 tk0 lf0 : Int} {e0 : Bool} (h : w.heap[b]? = some (dsC (dsL N0 V0 M0 O0 I0 ov0 va0 tk0 lf0 e0))) (N V M O I : Rw) (ov va tk lf : Int) (e : Bool) : (put10 w b N V M O I ov va tk lf e).heap[b]? = some (dsC (dsL N V M O I ov va tk lf e)) := by
 rw [dsC_eq] at h ⊢; exact set10 h _ _ _ _ _ _ _ _ _ _
def zR : Rw := ⟨none, 0, 0⟩
theorem put10_below {B b : Nat} {a w : World} (h : Below B a w) (hb : B ≤ b) (N V M O I : Rw) (ov va tk lf : Int) (e : Bool) : Below B a (put10 w b N V M O I ov va tk lf e) :=
 (((((((((h.setCell hb _).setCell hb _).setCell hb _).setCell hb _).setCell hb _).setCell hb _).setCell hb _).setCell hb _).setCell hb _).setCell hb _
theorem put10_far {w : World} {b g : Nat} {o : Obj} (h : w.heap[g]? = some o) (hg : g ≠ b) (N V M O I : Rw) (ov va tk lf : Int) (e : Bool) : (put10 w b N V M O I ov va tk lf e).heap[g]? = some o :=
 blk_far (blk_far (blk_far (blk_far (blk_far (blk_far (blk_far (blk_far (blk_far (blk_far h hg _) hg _) hg _) hg _) hg _) hg _) hg _) hg _) hg _) hg _
/-- what is handed back by its end -/
def endL (N V M O I : Rw) (ov va tk lf : Int) (e : Bool) (h v : Int) : List Value := match e with
 | true => dsL N V M O I ov va tk lf true
 | false => dsL N V M O I h v tk lf true
def BackL (l : List Value) (w : World) (y : Ending) (w' : World) : Prop := y = .returned (.agg l.toArray) ∧ Below w.heap.size w w'
set_option maxRecDepth 100000 in
set_option maxHeartbeats 2000000 in
theorem dend_calls (N V M O I : Rw) (ov va tk lf : Int) (e : Bool) (h v : Int) (w : World) :
  Calls Try.prog 43 #[.agg (dsL N V M O I ov va tk lf e).toArray, .int .i64 h, .int .i64 v] w (BackL (endL N V M O I ov va tk lf e h v) w) := by
 unfold dsL
 cases e with
 | true =>
  go_enter Try.func43, Try.ntmps43
  go_wp2; exact bodyPost_ret (results_ds rfl _ _ (w.heap.size + 1) N V M O I ov va tk lf true (by rfl) (blk_new1 w _ _)) rfl ⟨rfl, ((Below.refl _ _).al).al⟩
 | false =>
  go_enter Try.func43, Try.ntmps43
  go_wp2; exact bodyPost_ret (results_ds rfl _ _ (w.heap.size + 1) N V M O I h v tk lf true (by rfl) (blk_new1 w _ _)) rfl ⟨rfl, ((Below.refl _ _).al).al⟩
/-- what is handed back by its tick -/
def tickL (N V M O I : Rw) (tk lf : Int) : List Value := if lf ≤ 0 then dsL N V M O I 0 0 tk lf true else dsL N V M O I 0 0 (tk + 1) (lf - 1) false
set_option maxRecDepth 100000 in
set_option maxHeartbeats 2000000 in
theorem dtick_calls (N V M O I : Rw) (tk lf : Int) (w : World) (h0 : 0 ≤ tk) (h1 : tk ≤ 2000000) (h2 : lf ≤ 2000000) :
  Calls Try.prog 79 #[.agg (dsL N V M O I 0 0 tk lf false).toArray] w (BackL (tickL N V M O I tk lf) w) := by
 by_cases hl : lf ≤ 0
 ·have HT := Lib.hid (show tickL N V M O I tk lf = dsL N V M O I 0 0 tk lf true by unfold tickL; rw [if_pos hl])
  have HE := Lib.hid (fun w => dend_calls N V M O I 0 0 tk lf false 0 0 w)
  unfold dsL at HE ⊢; go_enter Try.func79, Try.ntmps79
  go_wp2_with fail; refine (HE.out _).mono ?_; rintro y w1 ⟨rfl, hb1⟩; have hb2 : Below w.heap.size w w1 := (((Below.refl w.heap.size w).al).al).trans (hb1.mono (by simp; omega))
  have hy := below_blk hb1 (blk_new1 w _ _) (blk_lt (blk_new1 w _ _)); have HY := Lib.hid hy; have HB := Lib.hid hb2; have y0 := blk_cell hy 0; have y1 := blk_cell hy 1; have y2 := blk_cell hy 2; have y3 := blk_cell hy 3; have y4 := blk_cell hy 4; have y5 := blk_cell hy 5; have y6 := blk_cell hy 6; have y7 := blk_cell hy 7; have y8 := blk_cell hy 8; have y9 := blk_cell hy 9; have yf := blk_free hy; clear hb1 hb2 hy; unfold endL dsL; go_wp2; rw [HT.out]; exact bodyPost_ret (results_ds rfl _ _ (w.heap.size + 1) N V M O I 0 0 tk lf true (by rfl) (put10_blk (N0 := zR) (V0 := zR) (M0 := zR) (O0 := zR) (I0 := zR) (ov0 := 0) (va0 := 0) (tk0 := 0) (lf0 := 0) (e0 := false) HY.out N V M O I 0 0 tk lf true)) rfl ⟨rfl, put10_below HB.out (Nat.le_succ _) N V M O I 0 0 tk lf true⟩
 ·have HT := Lib.hid (show tickL N V M O I tk lf = dsL N V M O I 0 0 (tk + 1) (lf - 1) false by unfold tickL; rw [if_neg hl])
  unfold dsL; go_enter Try.func79, Try.ntmps79
  go_wp2; rw [HT.out]; exact bodyPost_ret (results_ds rfl _ _ (w.heap.size + 1) N V M O I 0 0 (tk + 1) (lf - 1) false (by rfl) (blk_new1 w _ _)) rfl ⟨rfl, ((Below.refl _ _).al).al⟩
end Go.Proofs.Ytjlnpppjkdcpkaa.My
namespace Go.Proofs.Ytjlnpppjkdcpkaa.My
open Go Go.RowKit Go.Proofs.Ytjlnpppjkdcpkaa.NumA
set_option linter.unusedVariables false
section
variable {P : Program} {ops : Array Oper} {Q : Exit → Act → World → Prop} {md : Region.Mode} {S : World → Prop} {fuel : Nat} {listed listed' : Array Bool} {a a' : Act} {w : World} {op : Op} {ty : TypeId} {pos : String} {after : Array Edge} {guard : Option (Nat × Bool)}
/-- an operation that yields its value in every world that meets S is taken -/
theorem tkP (i : Nat) (s : Tmp) (v : Value) (h : wpAnyH P md ops Q S fuel listed' a' w) (hi : ops[i]? = some ⟨some s, op, ty, pos, after, guard⟩ := by rfl) (hs : Region.noSelect ops = true := by kernel_rfl) (hf : Region.free md ops listed i = true := by kernel_rfl) (hr : (Region.ready md ops listed).contains i = true := by kernel_rfl)
  (hQ : ∀ c a w, Q (.panic c) (a.put (some s) v) w → Q (.panic c) a w := by exact fun _ _ _ h => h) (hy : YieldsIf P ops S ⟨some s, op, ty, pos, after, guard⟩ v a := by exact Or.inl ⟨by rfl, fun U hU => by go_simp⟩) (hS : S w := by assumption)
  (hl : listed.setIfInBounds i true = listed' := by first | (simp only [List.setIfInBounds_toArray, List.set_cons_zero, List.set_cons_succ]; done) | rfl) (ha : a.put (some s) v = a' := by first | (simp only [Act.put, List.setIfInBounds_toArray, List.set_cons_zero, List.set_cons_succ]; done) | rfl) : wpAnyH P md ops Q S (fuel + 1) listed a w := by
 subst hl; subst ha; exact wpAnyH_take hi hs hf hr hQ hy hS h
/-- one operation alone may come up -/
theorem rd1 (i : Nat) (s : Option Tmp) (h : ∀ K' : Act → World → Prop, Shut (∀ a w, S w → (S w → wpAnyH P md ops Q S fuel (listed.setIfInBounds i true) a w) → K' a w) → if Region.wanted ⟨s, op, ty, pos, after, guard⟩ (yielded ops a.tmps) = true then Oper.wp P ⟨s, op, ty, pos, after, guard⟩ a w K' Q else K' (a.put s undef) w)
  (ho : ops[i]? = some ⟨s, op, ty, pos, after, guard⟩ := by rfl) (hr : Region.ready md ops listed = [i] := by kernel_rfl) : wpAnyH P md ops Q S (fuel + 1) listed a w :=
 wpAnyH_ready hr (by simp) (AllReadyH.cons ho h AllReadyH.nil)
/-- back into the region -/
theorem bk {K : Act → World → Prop} {l : Array Bool} (hK : Shut (∀ a w, S w → (S w → wpAnyH P md ops Q S fuel l a w) → K a w)) (hS : S w) (h : S w → wpAnyH P md ops Q S fuel listed' a' w)
  (hl : l = listed' := by first | (simp only [List.setIfInBounds_toArray, List.set_cons_zero, List.set_cons_succ]; done) | rfl) (ha : a = a' := by first | (simp only [Act.put, List.setIfInBounds_toArray, List.set_cons_zero, List.set_cons_succ]; done) | rfl) : K a w := by
 subst hl; subst ha; exact hK.out _ _ hS h
end
theorem cel10 {w : World} {b : Nat} {N V M O I : Rw} {ov va tk lf : Int} {e : Bool} (h : w.heap[b]? = some (dsC (dsL N V M O I ov va tk lf e))) : w.cell? ⟨b, 0, none⟩ = some (.slice N.a N.n N.c) ∧ w.cell? ⟨b, 1, none⟩ = some (.slice V.a V.n V.c) ∧ w.cell? ⟨b, 2, none⟩ = some (.slice M.a M.n M.c) ∧ w.cell? ⟨b, 3, none⟩ = some (.slice O.a O.n O.c) ∧ w.cell? ⟨b, 4, none⟩ = some (.slice I.a I.n I.c) ∧ w.cell? ⟨b, 5, none⟩ = some (.int .i64 ov) ∧ w.cell? ⟨b, 6, none⟩ = some (.int .i64 va) ∧ w.cell? ⟨b, 7, none⟩ = some (.int .i64 tk) ∧ w.cell? ⟨b, 8, none⟩ = some (.int .i64 lf) ∧ w.cell? ⟨b, 9, none⟩ = some (.bool e) :=
 ⟨blk_cell h 0, blk_cell h 1, blk_cell h 2, blk_cell h 3, blk_cell h 4, blk_cell h 5, blk_cell h 6, blk_cell h 7, blk_cell h 8, blk_cell h 9⟩
theorem celz {w : World} {b : Nat} (h : w.heap[b]? = some (dsC (dsL zR zR zR zR zR 0 0 0 0 false))) : w.cell? ⟨b, 0, none⟩ = some (.slice none 0 0) ∧ w.cell? ⟨b, 1, none⟩ = some (.slice none 0 0) ∧ w.cell? ⟨b, 2, none⟩ = some (.slice none 0 0) ∧ w.cell? ⟨b, 3, none⟩ = some (.slice none 0 0) ∧ w.cell? ⟨b, 4, none⟩ = some (.slice none 0 0) ∧ w.cell? ⟨b, 5, none⟩ = some (.int .i64 0) ∧ w.cell? ⟨b, 6, none⟩ = some (.int .i64 0) ∧ w.cell? ⟨b, 7, none⟩ = some (.int .i64 0) ∧ w.cell? ⟨b, 8, none⟩ = some (.int .i64 0) ∧ w.cell? ⟨b, 9, none⟩ = some (.bool false) := cel10 h
theorem cel6 {w : World} {b : Nat} {t : TypeId} {a0 a1 a2 a3 a4 a5 : Value} (h : w.heap[b]? = some (.cells #[a0, a1, a2, a3, a4, a5] t (0, 0))) : w.cell? ⟨b, 0, none⟩ = some a0 ∧ w.cell? ⟨b, 1, none⟩ = some a1 ∧ w.cell? ⟨b, 2, none⟩ = some a2 ∧ w.cell? ⟨b, 3, none⟩ = some a3 ∧ w.cell? ⟨b, 4, none⟩ = some a4 ∧ w.cell? ⟨b, 5, none⟩ = some a5 :=
 ⟨blk_cell h 0, blk_cell h 1, blk_cell h 2, blk_cell h 3, blk_cell h 4, blk_cell h 5⟩
theorem cel5 {w : World} {b : Nat} {t : TypeId} {a0 a1 a2 a3 a4 : Value} (h : w.heap[b]? = some (.cells #[a0, a1, a2, a3, a4] t (0, 0))) : w.cell? ⟨b, 0, none⟩ = some a0 ∧ w.cell? ⟨b, 1, none⟩ = some a1 ∧ w.cell? ⟨b, 2, none⟩ = some a2 ∧ w.cell? ⟨b, 3, none⟩ = some a3 ∧ w.cell? ⟨b, 4, none⟩ = some a4 :=
 ⟨blk_cell h 0, blk_cell h 1, blk_cell h 2, blk_cell h 3, blk_cell h 4⟩
end Go.Proofs.Ytjlnpppjkdcpkaa.My
