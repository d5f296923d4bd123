/- Which instructions the maker makes of an expression. Conditions: the tree was there in the world W, which is kept; it may be; the registers of its names are there. -/
import Derived.Test.YtjlnpppjkdcpkaaGmGnM
namespace Go.Proofs.Ytjlnpppjkdcpkaa.My
open Go.RowKit Go.Proofs.Ytjlnpppjkdcpkaa.NumA
set_option linter.unusedVariables false
set_option linter.unusedSimpArgs false
def deepE : Ending := .panicked [{ v := .iface 145 (.agg #[]), recovered := false }]
/-- what a call of the maker's expr does -/
def ExprTo (W w : World) (p : Nat) (O : Value) (R : Option (Int × Int × Gn)) (E : Ending) (w' : World) : Prop := match R with
  | some (a, t', G') => E = .returned (.tuple #[.int .i64 a, .int .i64 t']) ∧ GnTo W w p O w' G'
  | none => E = deepE ∧ ∃ G', GnTo W w p O w' G'
theorem GnAt.to {W w w' : World} {p : Nat} {G : Gn} {O : Value} {A : Option Addr} {c : Nat} (h : GnAt W w' p G O A c) (k : Keep (GnOwn p O) w w') : GnTo W w p O w' G := ⟨O, A, c, h, k, fun q hq => .inl hq⟩
theorem exprG_eq (G : Gn) (t : Int) (e : Expr) : exprG G t e = if e.kind = 2 then some (G.slots.getD 0 0, t, G.skip 1) else if 16 ≤ t then none else if e.kind = 1 then some (t, t + 1, G.put ⟨2, 0, t, 0, 0, e.num⟩) else match exprsG G t e.args with
    | none => none
    | some (vs, _, G1) => some (t, t + 1, G1.put (if e.kind = 3 then ⟨6, 0, t, vs.getD 0 0, 0, 0⟩ else if e.kind = 4 then ⟨4, e.op, t, vs.getD 0 0, 0, 0⟩ else ⟨5, e.op, t, vs.getD 0 0, vs.getD 1 0, 0⟩)) := by
  cases e; rw [exprG]; rfl
theorem exprG_one {G : Gn} {t : Int} {e : Expr} (h2 : e.kind ≠ 2) (ht : t < 16) (h1 : e.kind = 1) : exprG G t e = some (t, t + 1, G.put ⟨2, 0, t, 0, 0, e.num⟩) := by
  rw [exprG_eq, if_neg h2, if_neg (by omega), if_pos h1]
theorem exprG_name {G : Gn} {t : Int} {e : Expr} (h2 : e.kind = 2) : exprG G t e = some (G.slots.getD 0 0, t, G.skip 1) := by
  rw [exprG_eq, if_pos h2]
theorem exprG_deep {G : Gn} {t : Int} {e : Expr} (h2 : e.kind ≠ 2) (ht : 16 ≤ t) : exprG G t e = none := by
  rw [exprG_eq, if_neg h2, if_pos ht]
theorem exprG_more {G : Gn} {t : Int} {e : Expr} (h2 : e.kind ≠ 2) (ht : t < 16) (h1 : e.kind ≠ 1) : exprG G t e = match exprsG G t e.args with
    | none => none
    | some (vs, _, G1) => some (t, t + 1, G1.put (if e.kind = 3 then ⟨6, 0, t, vs.getD 0 0, 0, 0⟩ else if e.kind = 4 then ⟨4, e.op, t, vs.getD 0 0, 0, 0⟩ else ⟨5, e.op, t, vs.getD 0 0, vs.getD 1 0, 0⟩)) := by
  rw [exprG_eq, if_neg h2, if_neg (by omega), if_neg h1]
theorem exprsG_1 {G : Gn} {t : Int} {l : List Expr} (hl : l.length = 1) : exprsG G t l = match exprG G t (l[0]'(by omega)) with
    | none => none
    | some (a, t1, G1) => some ([a], t1, G1) := by
  match l, hl with
  | [e], _ => rw [exprsG]; simp only [List.getElem_cons_zero]; cases exprG G t e with
    | none => rfl
    | some r => obtain ⟨a, t1, G1⟩ := r; simp only [exprsG]
theorem exprsG_2 {G : Gn} {t : Int} {l : List Expr} (hl : l.length = 2) : exprsG G t l = match exprG G t (l[0]'(by omega)) with
    | none => none
    | some (a, t1, G1) => match exprG G1 t1 (l[1]'(by omega)) with
      | none => none
      | some (b, t2, G2) => some ([a, b], t2, G2) := by
  match l, hl with
  | [e, f], _ =>
    rw [exprsG]; simp only [List.getElem_cons_zero, List.getElem_cons_succ]; cases exprG G t e with
    | none => rfl
    | some r =>
      obtain ⟨a, t1, G1⟩ := r
      simp only [exprsG]
      cases exprG G1 t1 f with
      | none => rfl
      | some r => obtain ⟨b, t2, G2⟩ := r; rfl
theorem Expr.useN_eq (e : Expr) : e.useN = if e.kind = 2 then 1 else Expr.useL e.args := by cases e; rw [Expr.useN]; rfl
theorem useL_1 {l : List Expr} (hl : l.length = 1) : Expr.useL l = (l[0]'(by omega)).useN := by
  match l, hl with
  | [e], _ => simp [Expr.useL]
theorem useL_2 {l : List Expr} (hl : l.length = 2) : Expr.useL l = (l[0]'(by omega)).useN + (l[1]'(by omega)).useN := by
  match l, hl with
  | [e, f], _ => simp [Expr.useL]
theorem nodesL_1 {l : List Expr} (hl : l.length = 1) : Expr.nodesL l = (l[0]'(by omega)).nodes := by
  match l, hl with
  | [e], _ => simp [Expr.nodesL]
theorem nodesL_2 {l : List Expr} (hl : l.length = 2) : Expr.nodesL l = (l[0]'(by omega)).nodes + (l[1]'(by omega)).nodes := by
  match l, hl with
  | [e, f], _ => simp [Expr.nodesL]
/-- the contract, for expressions of so many nodes at most -/
def ExprIH (W : World) (N : Nat) : Prop := ∀ (e : Expr) (A : Option Addr) (ca d : Nat), e.nodes ≤ N → Expr.rds W e.args A 0 → e.rightB nameB d = true → ∀ (G : Gn) (t : Int) (w : World) (p : Nat) (O : Value) (As : Option Addr) (c : Nat), GnAt W w p G O As c → Below W.heap.size W w → e.useN ≤ G.slots.length → G.out.length + e.nodes ≤ 1000000 → 0 ≤ t → t ≤ 16 →
    Calls Try.prog 67 #[.pointer (some ⟨p, 0, none⟩), e.val A ca, .int .i64 t] w (ExprTo W w p O (exprG G t e))
set_option maxRecDepth 100000 in
set_option maxHeartbeats 4000000 in
theorem gname_calls (W : World) (N : Nat) (ih : ExprIH W N) (e : Expr) (A : Option Addr) (ca d : Nat) (hN : e.nodes ≤ N + 1) (hrd : Expr.rds W e.args A 0) (hr : e.rightB nameB d = true) (G : Gn) (t : Int) (w : World) (p : Nat) (O : Value) (As : Option Addr) (c : Nat) (h : GnAt W w p G O As c) (hB : Below W.heap.size W w) (hu : e.useN ≤ G.slots.length) (hl : G.out.length + e.nodes ≤ 1000000) (ht0 : 0 ≤ t) (ht1 : t ≤ 16) (hk2 : e.kind = 2) :
    Calls Try.prog 67 #[.pointer (some ⟨p, 0, none⟩), e.val A ca, .int .i64 t] w (ExprTo W w p O (exprG G t e)) := by
  have hne := e.nodes_eq
  unfold Expr.val
  obtain ⟨AX, cX, hX, _⟩ := h.out.slice
  have hown : ∀ q, O.ownBlock = some q → q < w.heap.size := fun q hq => h.out.lt hq
  clear hX
  have hpw := blk_lt h.blk
  have hx := blk_new w (.cells #[.int .i64 e.kind, .int .i64 e.num, .string e.name, .int .i64 e.op, .slice A e.args.length ca] 66)
  have hb : Below w.heap.size w (w.alloc (.cells #[.int .i64 e.kind, .int .i64 e.num, .string e.name, .int .i64 e.op, .slice A e.args.length ca] 66)) := (Below.refl _ _).al
  have hz := size_al w (.cells #[.int .i64 e.kind, .int .i64 e.num, .string e.name, .int .i64 e.op, .slice A e.args.length ca] 66)
  have hk := (Keep.refl (GnOwn p O) w).alloc (.cells #[.int .i64 e.kind, .int .i64 e.num, .string e.name, .int .i64 e.op, .slice A e.args.length ca] 66)
  obtain ⟨w1, hw1⟩ : ∃ w1, w.alloc (.cells #[.int .i64 e.kind, .int .i64 e.num, .string e.name, .int .i64 e.op, .slice A e.args.length ca] 66) = w1 := ⟨_, rfl⟩
  rw [hw1] at hx hb hz hk
  obtain ⟨b, hbe⟩ : ∃ b, w.heap.size = b := ⟨_, rfl⟩
  rw [hbe] at hx hz
  have HG1 := Lib.hid (h.below hb)
  have HK1 := Lib.hid hk
  have HB1 := Lib.hid (hB.trans (hb.mono hB.size))
  have HX1 := Lib.hid hx
  have HW := Lib.hid hw1
  have HBE := Lib.hid hbe
  have HZ1 := Lib.hid hz
  have HOW := Lib.hid hown
  have HPW := Lib.hid hpw
  have e0 := blk_cell hx 0
  have n1 := fun o => (Below.al (Below.refl w1.heap.size w1) (o := o)).cellOf (show w1.cell? ⟨b, 1, none⟩ = some (.int .i64 e.num) from blk_cell hx 1)
  have n3 := fun o => (Below.al (Below.refl w1.heap.size w1) (o := o)).cellOf (show w1.cell? ⟨b, 3, none⟩ = some (.int .i64 e.op) from blk_cell hx 3)
  have n4 := fun o => (Below.al (Below.refl w1.heap.size w1) (o := o)).cellOf (show w1.cell? ⟨b, 4, none⟩ = some (.slice A e.args.length ca) from blk_cell hx 4)
  have n0 := fun o => (Below.al (Below.refl w1.heap.size w1) (o := o)).cellOf (show w1.cell? ⟨b, 0, none⟩ = some (.int .i64 e.kind) from blk_cell hx 0)
  rw [exprG_name hk2]
  rw [Expr.useN_eq, if_pos hk2] at hu
  have hk2' : (e.kind == 2) = true := by simp [hk2]
  have HS := Lib.hid (slot_calls W w1 p G O As c HG1.out HB1.out hu)
  clear hx hb hz hk hw1 hbe h hB hrd hr hown hpw n0 n1 n3 n4 hk2
  go_enter Try.func67, Try.ntmps67
  go_wp2_with (have tk := HW; clear tk; rw [HW.out, HBE.out]; clear HW)
  refine HS.out.mono ?_
  rintro y w2 ⟨rfl, hg⟩
  go_wp2
  go_ret2
  exact ⟨rfl, GnTo.trans HG1.out HK1.out (fun q hq => .inl hq) hg⟩
set_option maxRecDepth 100000 in
set_option maxHeartbeats 4000000 in
theorem gdeep_calls (W : World) (N : Nat) (ih : ExprIH W N) (e : Expr) (A : Option Addr) (ca d : Nat) (hN : e.nodes ≤ N + 1) (hrd : Expr.rds W e.args A 0) (hr : e.rightB nameB d = true) (G : Gn) (t : Int) (w : World) (p : Nat) (O : Value) (As : Option Addr) (c : Nat) (h : GnAt W w p G O As c) (hB : Below W.heap.size W w) (hu : e.useN ≤ G.slots.length) (hl : G.out.length + e.nodes ≤ 1000000) (ht0 : 0 ≤ t) (ht1 : t ≤ 16) (hk2 : e.kind ≠ 2) (ht : 16 ≤ t) :
    Calls Try.prog 67 #[.pointer (some ⟨p, 0, none⟩), e.val A ca, .int .i64 t] w (ExprTo W w p O (exprG G t e)) := by
  have hne := e.nodes_eq
  unfold Expr.val
  obtain ⟨AX, cX, hX, _⟩ := h.out.slice
  have hown : ∀ q, O.ownBlock = some q → q < w.heap.size := fun q hq => h.out.lt hq
  clear hX
  have hpw := blk_lt h.blk
  have hx := blk_new w (.cells #[.int .i64 e.kind, .int .i64 e.num, .string e.name, .int .i64 e.op, .slice A e.args.length ca] 66)
  have hb : Below w.heap.size w (w.alloc (.cells #[.int .i64 e.kind, .int .i64 e.num, .string e.name, .int .i64 e.op, .slice A e.args.length ca] 66)) := (Below.refl _ _).al
  have hz := size_al w (.cells #[.int .i64 e.kind, .int .i64 e.num, .string e.name, .int .i64 e.op, .slice A e.args.length ca] 66)
  have hk := (Keep.refl (GnOwn p O) w).alloc (.cells #[.int .i64 e.kind, .int .i64 e.num, .string e.name, .int .i64 e.op, .slice A e.args.length ca] 66)
  obtain ⟨w1, hw1⟩ : ∃ w1, w.alloc (.cells #[.int .i64 e.kind, .int .i64 e.num, .string e.name, .int .i64 e.op, .slice A e.args.length ca] 66) = w1 := ⟨_, rfl⟩
  rw [hw1] at hx hb hz hk
  obtain ⟨b, hbe⟩ : ∃ b, w.heap.size = b := ⟨_, rfl⟩
  rw [hbe] at hx hz
  have HG1 := Lib.hid (h.below hb)
  have HK1 := Lib.hid hk
  have HB1 := Lib.hid (hB.trans (hb.mono hB.size))
  have HX1 := Lib.hid hx
  have HW := Lib.hid hw1
  have HBE := Lib.hid hbe
  have HZ1 := Lib.hid hz
  have HOW := Lib.hid hown
  have HPW := Lib.hid hpw
  have e0 := blk_cell hx 0
  have n1 := fun o => (Below.al (Below.refl w1.heap.size w1) (o := o)).cellOf (show w1.cell? ⟨b, 1, none⟩ = some (.int .i64 e.num) from blk_cell hx 1)
  have n3 := fun o => (Below.al (Below.refl w1.heap.size w1) (o := o)).cellOf (show w1.cell? ⟨b, 3, none⟩ = some (.int .i64 e.op) from blk_cell hx 3)
  have n4 := fun o => (Below.al (Below.refl w1.heap.size w1) (o := o)).cellOf (show w1.cell? ⟨b, 4, none⟩ = some (.slice A e.args.length ca) from blk_cell hx 4)
  have n0 := fun o => (Below.al (Below.refl w1.heap.size w1) (o := o)).cellOf (show w1.cell? ⟨b, 0, none⟩ = some (.int .i64 e.kind) from blk_cell hx 0)
  rw [exprG_deep hk2 ht]
  have hk2' : (e.kind == 2) = false := by simp [hk2]
  clear hx hb hz hk hw1 hbe h hB hrd hr hown hpw n0 n1 n3 n4 hk2
  go_enter Try.func67, Try.ntmps67
  go_wp2_with (have tk := HW; clear tk; rw [HW.out, HBE.out]; clear HW)
  all_goals exact ⟨rfl, rfl, G, HG1.out.to HK1.out⟩
set_option maxRecDepth 100000 in
set_option maxHeartbeats 4000000 in
theorem gnum_calls (W : World) (N : Nat) (ih : ExprIH W N) (e : Expr) (A : Option Addr) (ca d : Nat) (hN : e.nodes ≤ N + 1) (hrd : Expr.rds W e.args A 0) (hr : e.rightB nameB d = true) (G : Gn) (t : Int) (w : World) (p : Nat) (O : Value) (As : Option Addr) (c : Nat) (h : GnAt W w p G O As c) (hB : Below W.heap.size W w) (hu : e.useN ≤ G.slots.length) (hl : G.out.length + e.nodes ≤ 1000000) (ht0 : 0 ≤ t) (ht1 : t ≤ 16) (hk1 : e.kind = 1) (ht : t < 16) :
    Calls Try.prog 67 #[.pointer (some ⟨p, 0, none⟩), e.val A ca, .int .i64 t] w (ExprTo W w p O (exprG G t e)) := by
  have hne := e.nodes_eq
  unfold Expr.val
  obtain ⟨AX, cX, hX, _⟩ := h.out.slice
  have hown : ∀ q, O.ownBlock = some q → q < w.heap.size := fun q hq => h.out.lt hq
  clear hX
  have hpw := blk_lt h.blk
  have hx := blk_new w (.cells #[.int .i64 e.kind, .int .i64 e.num, .string e.name, .int .i64 e.op, .slice A e.args.length ca] 66)
  have hb : Below w.heap.size w (w.alloc (.cells #[.int .i64 e.kind, .int .i64 e.num, .string e.name, .int .i64 e.op, .slice A e.args.length ca] 66)) := (Below.refl _ _).al
  have hz := size_al w (.cells #[.int .i64 e.kind, .int .i64 e.num, .string e.name, .int .i64 e.op, .slice A e.args.length ca] 66)
  have hk := (Keep.refl (GnOwn p O) w).alloc (.cells #[.int .i64 e.kind, .int .i64 e.num, .string e.name, .int .i64 e.op, .slice A e.args.length ca] 66)
  obtain ⟨w1, hw1⟩ : ∃ w1, w.alloc (.cells #[.int .i64 e.kind, .int .i64 e.num, .string e.name, .int .i64 e.op, .slice A e.args.length ca] 66) = w1 := ⟨_, rfl⟩
  rw [hw1] at hx hb hz hk
  obtain ⟨b, hbe⟩ : ∃ b, w.heap.size = b := ⟨_, rfl⟩
  rw [hbe] at hx hz
  have HG1 := Lib.hid (h.below hb)
  have HK1 := Lib.hid hk
  have HB1 := Lib.hid (hB.trans (hb.mono hB.size))
  have HX1 := Lib.hid hx
  have HW := Lib.hid hw1
  have HBE := Lib.hid hbe
  have HZ1 := Lib.hid hz
  have HOW := Lib.hid hown
  have HPW := Lib.hid hpw
  have e0 := blk_cell hx 0
  have n1 := fun o => (Below.al (Below.refl w1.heap.size w1) (o := o)).cellOf (show w1.cell? ⟨b, 1, none⟩ = some (.int .i64 e.num) from blk_cell hx 1)
  have n3 := fun o => (Below.al (Below.refl w1.heap.size w1) (o := o)).cellOf (show w1.cell? ⟨b, 3, none⟩ = some (.int .i64 e.op) from blk_cell hx 3)
  have n4 := fun o => (Below.al (Below.refl w1.heap.size w1) (o := o)).cellOf (show w1.cell? ⟨b, 4, none⟩ = some (.slice A e.args.length ca) from blk_cell hx 4)
  have n0 := fun o => (Below.al (Below.refl w1.heap.size w1) (o := o)).cellOf (show w1.cell? ⟨b, 0, none⟩ = some (.int .i64 e.kind) from blk_cell hx 0)
  have hk2 : e.kind ≠ 2 := by omega
  rw [exprG_one hk2 ht hk1]
  have hk2' : (e.kind == 2) = false := by simp [hk2]
  have hk1' : (e.kind == 1) = true := by simp [hk1]
  have ht' : ¬ (16 ≤ t) := by omega
  have ht8 : IntKind.i64.wrap (t + 1) = t + 1 := by simp [IntKind.wrap, IntKind.signed, IntKind.bits]; omega
  have hx2 := blk_new w1 (.cells #[.int .i64 2, .int .i64 0, .int .i64 t, .int .i64 0, .int .i64 0, .int .i64 e.num] 42)
  have hb2 : Below w1.heap.size w1 (w1.alloc (.cells #[.int .i64 2, .int .i64 0, .int .i64 t, .int .i64 0, .int .i64 0, .int .i64 e.num] 42)) := (Below.refl _ _).al
  have hkk2 := HK1.out.alloc (.cells #[.int .i64 2, .int .i64 0, .int .i64 t, .int .i64 0, .int .i64 0, .int .i64 e.num] 42)
  have hz2 := size_al w1 (.cells #[.int .i64 2, .int .i64 0, .int .i64 t, .int .i64 0, .int .i64 0, .int .i64 e.num] 42)
  have HP := Lib.hid (put_calls W (w1.alloc (.cells #[.int .i64 2, .int .i64 0, .int .i64 t, .int .i64 0, .int .i64 0, .int .i64 e.num] 42)).drew p G O As c (HG1.out.below hb2).drew (HB1.out.alloc HB1.out.size _).drew (by omega) 2 0 t 0 0 e.num)
  have HK2 := Lib.hid hkk2
  have HG2 := Lib.hid (HG1.out.below hb2)
  clear hx hb hz hk hw1 hbe h hB hrd hr hown hpw n3 n4 hx2 hb2 hkk2 hz2 hk1 hk2
  go_enter Try.func67, Try.ntmps67
  go_wp2_with (have tk := HW; clear tk; rw [HW.out, HBE.out]; clear HW)
  go_region_held3 (fun V_ => V_.cell? ⟨b, 1, none⟩ = some (.int .i64 e.num)) (exact n1 _) (fail)
  go_wp2_with fail
  refine HP.out.mono ?_
  rintro y w2 ⟨rfl, hg⟩
  go_wp2
  go_ret2
  exact ⟨rfl, GnTo.trans HG2.out.drew HK2.out.drew (fun q hq => .inl hq) hg⟩
set_option maxRecDepth 100000 in
set_option maxHeartbeats 4000000 in
theorem gmem_calls (W : World) (N : Nat) (ih : ExprIH W N) (e : Expr) (A : Option Addr) (ca d : Nat) (hN : e.nodes ≤ N + 1) (hrd : Expr.rds W e.args A 0) (hr : e.rightB nameB d = true) (G : Gn) (t : Int) (w : World) (p : Nat) (O : Value) (As : Option Addr) (c : Nat) (h : GnAt W w p G O As c) (hB : Below W.heap.size W w) (hu : e.useN ≤ G.slots.length) (hl : G.out.length + e.nodes ≤ 1000000) (ht0 : 0 ≤ t) (ht1 : t ≤ 16) (hkd : e.kind = 3) (ht : t < 16) :
    Calls Try.prog 67 #[.pointer (some ⟨p, 0, none⟩), e.val A ca, .int .i64 t] w (ExprTo W w p O (exprG G t e)) := by
  have hne := e.nodes_eq
  unfold Expr.val
  obtain ⟨AX, cX, hX, _⟩ := h.out.slice
  have hown : ∀ q, O.ownBlock = some q → q < w.heap.size := fun q hq => h.out.lt hq
  clear hX
  have hpw := blk_lt h.blk
  have hx := blk_new w (.cells #[.int .i64 e.kind, .int .i64 e.num, .string e.name, .int .i64 e.op, .slice A e.args.length ca] 66)
  have hb : Below w.heap.size w (w.alloc (.cells #[.int .i64 e.kind, .int .i64 e.num, .string e.name, .int .i64 e.op, .slice A e.args.length ca] 66)) := (Below.refl _ _).al
  have hz := size_al w (.cells #[.int .i64 e.kind, .int .i64 e.num, .string e.name, .int .i64 e.op, .slice A e.args.length ca] 66)
  have hk := (Keep.refl (GnOwn p O) w).alloc (.cells #[.int .i64 e.kind, .int .i64 e.num, .string e.name, .int .i64 e.op, .slice A e.args.length ca] 66)
  obtain ⟨w1, hw1⟩ : ∃ w1, w.alloc (.cells #[.int .i64 e.kind, .int .i64 e.num, .string e.name, .int .i64 e.op, .slice A e.args.length ca] 66) = w1 := ⟨_, rfl⟩
  rw [hw1] at hx hb hz hk
  obtain ⟨b, hbe⟩ : ∃ b, w.heap.size = b := ⟨_, rfl⟩
  rw [hbe] at hx hz
  have HG1 := Lib.hid (h.below hb)
  have HK1 := Lib.hid hk
  have HB1 := Lib.hid (hB.trans (hb.mono hB.size))
  have HX1 := Lib.hid hx
  have HW := Lib.hid hw1
  have HBE := Lib.hid hbe
  have HZ1 := Lib.hid hz
  have HOW := Lib.hid hown
  have HPW := Lib.hid hpw
  have e0 := blk_cell hx 0
  have n1 := fun o => (Below.al (Below.refl w1.heap.size w1) (o := o)).cellOf (show w1.cell? ⟨b, 1, none⟩ = some (.int .i64 e.num) from blk_cell hx 1)
  have n3 := fun o => (Below.al (Below.refl w1.heap.size w1) (o := o)).cellOf (show w1.cell? ⟨b, 3, none⟩ = some (.int .i64 e.op) from blk_cell hx 3)
  have n4 := fun o => (Below.al (Below.refl w1.heap.size w1) (o := o)).cellOf (show w1.cell? ⟨b, 4, none⟩ = some (.slice A e.args.length ca) from blk_cell hx 4)
  have n0 := fun o => (Below.al (Below.refl w1.heap.size w1) (o := o)).cellOf (show w1.cell? ⟨b, 0, none⟩ = some (.int .i64 e.kind) from blk_cell hx 0)
  have hk2 : e.kind ≠ 2 := by omega
  have hk1 : e.kind ≠ 1 := by omega
  rw [exprG_more hk2 ht hk1]
  rw [Expr.useN_eq, if_neg hk2] at hu
  rw [Expr.rightB_eq] at hr
  simp only [Bool.and_eq_true, decide_eq_true_eq] at hr
  have hrr := hr.2
  have hla : e.args.length = 1 := by have := hr.1.1.2; simp [wantE, hkd] at this; omega
  rw [useL_1 hla] at hu
  rw [nodesL_1 hla] at hne
  have hk2' : (e.kind == 2) = false := by simp [hkd]
  have hk1' : (e.kind == 1) = false := by simp [hkd]
  have ht' : ¬ (16 ≤ t) := by omega
  have ht8 : IntKind.i64.wrap (t + 1) = t + 1 := by simp [IntKind.wrap, IntKind.signed, IntKind.bits]; omega
  have hq3 : (e.kind == 3) = true := by simp [hkd]
  have hj0 : 0 < e.args.length := by omega
  obtain ⟨ba0, oa0, A0, c0, hA0, hba0, g00, g01, g02, g03, g04, hc0, hs0, hrd0⟩ := Expr.at hrd HB1.out hj0
  have hra0 := Expr.rightsB_all hrr e.args[0] (List.getElem_mem hj0)
  have hna0 := e.args[0].nodes_eq
  rw [exprsG_1 hla]
  have IHC := ih e.args[0] A0 c0 (d + 1) (by omega) hrd0 hra0 G t (w1.alloc (.cells #[.int .i64 6, .int .i64 0, .int .i64 t, .int .i64 0, .int .i64 0, .int .i64 0] 42)) p O As c (HG1.out.below (Below.refl _ _).al) (HB1.out.alloc HB1.out.size _) hu (by omega) ht0 ht1
  have hgrow := fun a' t' G' (hh : exprG G t (e.args[0]'hj0) = some (a', t', G')) => exprG_grow (G := G) (e.args[0]'hj0) t (a := a') (t' := t') (G' := G') hra0 hh
  obtain ⟨a0, ha0⟩ : ∃ x, e.args[0] = x := ⟨_, rfl⟩
  rw [ha0] at IHC hgrow g00 g01 g02 g03 g04 hne hna0 ⊢
  have m0 := fun o => (Below.al (Below.refl w1.heap.size w1) (o := o)).cellOf (show w1.cell? ⟨ba0, oa0, none⟩ = some (.int .i64 a0.kind) from g00)
  have m1 := fun o => (Below.al (Below.refl w1.heap.size w1) (o := o)).cellOf (show w1.cell? ⟨ba0, oa0 + 1, none⟩ = some (.int .i64 a0.num) from g01)
  have m2 := fun o => (Below.al (Below.refl w1.heap.size w1) (o := o)).cellOf (show w1.cell? ⟨ba0, oa0 + 2, none⟩ = some (.string a0.name) from g02)
  have m3 := fun o => (Below.al (Below.refl w1.heap.size w1) (o := o)).cellOf (show w1.cell? ⟨ba0, oa0 + 3, none⟩ = some (.int .i64 a0.op) from g03)
  have m4 := fun o => (Below.al (Below.refl w1.heap.size w1) (o := o)).cellOf (show w1.cell? ⟨ba0, oa0 + 4, none⟩ = some (.slice A0 a0.args.length c0) from g04)
  unfold Expr.val at IHC
  have hx2 := blk_new w1 (.cells #[.int .i64 6, .int .i64 0, .int .i64 t, .int .i64 0, .int .i64 0, .int .i64 0] 42)
  have HK2 := Lib.hid (HK1.out.alloc (.cells #[.int .i64 6, .int .i64 0, .int .i64 t, .int .i64 0, .int .i64 0, .int .i64 0] 42))
  have HZ2 := Lib.hid (size_al w1 (.cells #[.int .i64 6, .int .i64 0, .int .i64 t, .int .i64 0, .int .i64 0, .int .i64 0] 42))
  have HX2 := Lib.hid hx2
  have hxo : ¬ GnOwn p O w1.heap.size := by
    rintro (q | q)
    · have := HPW.out; have := HK1.out.size; omega
    · have := HOW.out _ q; have := HK1.out.size; omega
  have HXO := Lib.hid hxo
  have HIHC := Lib.hid IHC
  have HGR := Lib.hid hgrow
  have HHL := Lib.hid hl
  have HNE := Lib.hid hne
  have hlen1 : (0 : Int) < (e.args.length : Int) := by omega
  have HKK := Lib.hid hkd
  subst hA0
  clear hx hb hz hk hkd hw1 hbe h hB hrd hr hrr hown hpw hx2 hxo IHC hgrow hl hne hna0 hk1 hk2 hu hla ha0 hj0 g00 g01 g02 g03 g04 hra0 n1 hs0 hc0 hrd0
  cases hx0 : exprG G t a0 with
  | none =>
    have HN0 := Lib.hid hx0
    clear hx0
    go_enter Try.func67, Try.ntmps67
    go_wp2_with (have tk := HW; clear tk; rw [HW.out, HBE.out]; clear HW)
    refine HIHC.out.mono ?_
    rw [HN0.out]
    rintro y w3 ⟨rfl, G3, hg⟩
    exact ⟨rfl, rfl, G3, GnTo.trans (HG1.out.below (Below.refl _ _).al) HK2.out (fun q hq => .inl hq) hg⟩
  | some r =>
    obtain ⟨a3, t3, G3⟩ := r
    have HN0 := Lib.hid hx0
    have hgr := HGR.out a3 t3 G3 hx0
    have HLN := Lib.hid (show G3.out.length ≤ 1000000 by have := hgr.2.2.1; have := HHL.out; have := HNE.out; omega)
    simp only [List.getD_cons_zero]
    rw [if_pos HKK.out]
    clear hx0 hgr
    go_enter Try.func67, Try.ntmps67
    go_wp2_with (have tk := HW; clear tk; rw [HW.out, HBE.out]; clear HW)
    refine HIHC.out.mono ?_
    rw [HN0.out]
    rintro y w3 ⟨rfl, hg⟩
    obtain ⟨O3, A3, c3, g3, k3, o3⟩ := hg
    have hx3 := k3.blk HX2.out HXO.out
    have hz3 := k3.size
    have hzz := HZ2.out
    have hzk := HK1.out.size
    have hO3 : O3.ownBlock ≠ some w1.heap.size := fun q => by
      rcases o3 _ q with q | q
      · exact HXO.out (.inr q)
      · have : (w1.alloc (.cells #[.int .i64 6, .int .i64 0, .int .i64 t, .int .i64 0, .int .i64 0, .int .i64 0] 42)).heap.size ≤ w1.heap.size := q
        omega
    have hbp : w1.heap.size ≠ p := fun q => HXO.out (.inl q)
    have g4 := g3.far (i := 3) (u := .int .i64 a3) hbp hO3
    have k4 := ((HK2.out).trans k3 (fun q _ h => h)).set (p := ⟨w1.heap.size, 3, none⟩) (.inr hzk) (.int .i64 a3)
    have o4 : ∀ q, O3.ownBlock = some q → O.ownBlock = some q ∨ w.heap.size ≤ q := fun q hq => by
      rcases o3 q hq with h | h
      · exact .inl h
      · have : (w1.alloc (.cells #[.int .i64 6, .int .i64 0, .int .i64 t, .int .i64 0, .int .i64 0, .int .i64 0] 42)).heap.size ≤ q := h
        exact .inr (by omega)
    have hWs := HB1.out.size
    have hWs2 : W.heap.size ≤ (w1.alloc (.cells #[.int .i64 6, .int .i64 0, .int .i64 t, .int .i64 0, .int .i64 0, .int .i64 0] 42)).heap.size := by show W.heap.size ≤ (w1.alloc (.cells #[.int .i64 6, .int .i64 0, .int .i64 t, .int .i64 0, .int .i64 0, .int .i64 0] 42)).heap.size; omega
    have hkb := k3.toBelow (B := W.heap.size) hWs2 (fun q hq => by
      rcases hq with hq | hq
      · subst hq; exact HG1.out.hp
      · exact HG1.out.fo q hq)
    have hb4 : Below W.heap.size W (w3.setCell ⟨w1.heap.size, 3, none⟩ (.int .i64 a3)) := ((HB1.out.alloc HB1.out.size _).trans hkb).setCell (show W.heap.size ≤ w1.heap.size from HB1.out.size) _
    have HP := Lib.hid (put_calls W _ p G3 O3 A3 c3 g4 hb4 HLN.out 6 0 t a3 0 0)
    have hp4 := blk_set hx3 3 (.int .i64 a3)
    have ff := blk_free hx3
    have ff0 := blk_cell hx3 3
    have f0 := blk_cell hp4 0
    have f1 := blk_cell hp4 1
    have f2 := blk_cell hp4 2
    have f3 := blk_cell hp4 3
    have f4 := blk_cell hp4 4
    have f5 := blk_cell hp4 5
    have HG4 := Lib.hid g4
    have HK4 := Lib.hid k4
    have HO4 := Lib.hid o4
    clear g3 k3 o3 hx3 hO3 hbp g4 k4 o4 hb4 hp4 n0 n3 n4 m0 m1 m2 m3 m4 hz3 hzz hzk
    go_wp2_with fail
    refine HP.out.mono ?_
    rintro y w5 ⟨rfl, hg5⟩
    go_wp2
    go_ret2
    exact ⟨rfl, GnTo.trans HG4.out HK4.out HO4.out hg5⟩
set_option maxRecDepth 100000 in
set_option maxHeartbeats 4000000 in
theorem gone_calls (W : World) (N : Nat) (ih : ExprIH W N) (e : Expr) (A : Option Addr) (ca d : Nat) (hN : e.nodes ≤ N + 1) (hrd : Expr.rds W e.args A 0) (hr : e.rightB nameB d = true) (G : Gn) (t : Int) (w : World) (p : Nat) (O : Value) (As : Option Addr) (c : Nat) (h : GnAt W w p G O As c) (hB : Below W.heap.size W w) (hu : e.useN ≤ G.slots.length) (hl : G.out.length + e.nodes ≤ 1000000) (ht0 : 0 ≤ t) (ht1 : t ≤ 16) (hkd : e.kind = 4) (ht : t < 16) :
    Calls Try.prog 67 #[.pointer (some ⟨p, 0, none⟩), e.val A ca, .int .i64 t] w (ExprTo W w p O (exprG G t e)) := by
  have hne := e.nodes_eq
  unfold Expr.val
  obtain ⟨AX, cX, hX, _⟩ := h.out.slice
  have hown : ∀ q, O.ownBlock = some q → q < w.heap.size := fun q hq => h.out.lt hq
  clear hX
  have hpw := blk_lt h.blk
  have hx := blk_new w (.cells #[.int .i64 e.kind, .int .i64 e.num, .string e.name, .int .i64 e.op, .slice A e.args.length ca] 66)
  have hb : Below w.heap.size w (w.alloc (.cells #[.int .i64 e.kind, .int .i64 e.num, .string e.name, .int .i64 e.op, .slice A e.args.length ca] 66)) := (Below.refl _ _).al
  have hz := size_al w (.cells #[.int .i64 e.kind, .int .i64 e.num, .string e.name, .int .i64 e.op, .slice A e.args.length ca] 66)
  have hk := (Keep.refl (GnOwn p O) w).alloc (.cells #[.int .i64 e.kind, .int .i64 e.num, .string e.name, .int .i64 e.op, .slice A e.args.length ca] 66)
  obtain ⟨w1, hw1⟩ : ∃ w1, w.alloc (.cells #[.int .i64 e.kind, .int .i64 e.num, .string e.name, .int .i64 e.op, .slice A e.args.length ca] 66) = w1 := ⟨_, rfl⟩
  rw [hw1] at hx hb hz hk
  obtain ⟨b, hbe⟩ : ∃ b, w.heap.size = b := ⟨_, rfl⟩
  rw [hbe] at hx hz
  have HG1 := Lib.hid (h.below hb)
  have HK1 := Lib.hid hk
  have HB1 := Lib.hid (hB.trans (hb.mono hB.size))
  have HX1 := Lib.hid hx
  have HW := Lib.hid hw1
  have HBE := Lib.hid hbe
  have HZ1 := Lib.hid hz
  have HOW := Lib.hid hown
  have HPW := Lib.hid hpw
  have e0 := blk_cell hx 0
  have n1 := fun o => (Below.al (Below.refl w1.heap.size w1) (o := o)).cellOf (show w1.cell? ⟨b, 1, none⟩ = some (.int .i64 e.num) from blk_cell hx 1)
  have n3 := fun o => (Below.al (Below.refl w1.heap.size w1) (o := o)).cellOf (show w1.cell? ⟨b, 3, none⟩ = some (.int .i64 e.op) from blk_cell hx 3)
  have n4 := fun o => (Below.al (Below.refl w1.heap.size w1) (o := o)).cellOf (show w1.cell? ⟨b, 4, none⟩ = some (.slice A e.args.length ca) from blk_cell hx 4)
  have n0 := fun o => (Below.al (Below.refl w1.heap.size w1) (o := o)).cellOf (show w1.cell? ⟨b, 0, none⟩ = some (.int .i64 e.kind) from blk_cell hx 0)
  have hk2 : e.kind ≠ 2 := by omega
  have hk1 : e.kind ≠ 1 := by omega
  rw [exprG_more hk2 ht hk1]
  rw [Expr.useN_eq, if_neg hk2] at hu
  rw [Expr.rightB_eq] at hr
  simp only [Bool.and_eq_true, decide_eq_true_eq] at hr
  have hrr := hr.2
  have hla : e.args.length = 1 := by have := hr.1.1.2; simp [wantE, hkd] at this; omega
  rw [useL_1 hla] at hu
  rw [nodesL_1 hla] at hne
  have hk2' : (e.kind == 2) = false := by simp [hkd]
  have hk1' : (e.kind == 1) = false := by simp [hkd]
  have ht' : ¬ (16 ≤ t) := by omega
  have ht8 : IntKind.i64.wrap (t + 1) = t + 1 := by simp [IntKind.wrap, IntKind.signed, IntKind.bits]; omega
  have hq3 : (e.kind == 3) = false := by simp [hkd]
  have hq4 : (e.kind == 4) = true := by simp [hkd]
  have hj0 : 0 < e.args.length := by omega
  obtain ⟨ba0, oa0, A0, c0, hA0, hba0, g00, g01, g02, g03, g04, hc0, hs0, hrd0⟩ := Expr.at hrd HB1.out hj0
  have hra0 := Expr.rightsB_all hrr e.args[0] (List.getElem_mem hj0)
  have hna0 := e.args[0].nodes_eq
  rw [exprsG_1 hla]
  have IHC := ih e.args[0] A0 c0 (d + 1) (by omega) hrd0 hra0 G t (w1.alloc (.cells #[.int .i64 4, .int .i64 e.op, .int .i64 t, .int .i64 0, .int .i64 0, .int .i64 0] 42)).drew p O As c (HG1.out.below (Below.refl _ _).al).drew (HB1.out.alloc HB1.out.size _).drew hu (by omega) ht0 ht1
  have hgrow := fun a' t' G' (hh : exprG G t (e.args[0]'hj0) = some (a', t', G')) => exprG_grow (G := G) (e.args[0]'hj0) t (a := a') (t' := t') (G' := G') hra0 hh
  obtain ⟨a0, ha0⟩ : ∃ x, e.args[0] = x := ⟨_, rfl⟩
  rw [ha0] at IHC hgrow g00 g01 g02 g03 g04 hne hna0 ⊢
  have m0 := fun o => (Below.al (Below.refl w1.heap.size w1) (o := o)).cellOf (show w1.cell? ⟨ba0, oa0, none⟩ = some (.int .i64 a0.kind) from g00)
  have m1 := fun o => (Below.al (Below.refl w1.heap.size w1) (o := o)).cellOf (show w1.cell? ⟨ba0, oa0 + 1, none⟩ = some (.int .i64 a0.num) from g01)
  have m2 := fun o => (Below.al (Below.refl w1.heap.size w1) (o := o)).cellOf (show w1.cell? ⟨ba0, oa0 + 2, none⟩ = some (.string a0.name) from g02)
  have m3 := fun o => (Below.al (Below.refl w1.heap.size w1) (o := o)).cellOf (show w1.cell? ⟨ba0, oa0 + 3, none⟩ = some (.int .i64 a0.op) from g03)
  have m4 := fun o => (Below.al (Below.refl w1.heap.size w1) (o := o)).cellOf (show w1.cell? ⟨ba0, oa0 + 4, none⟩ = some (.slice A0 a0.args.length c0) from g04)
  unfold Expr.val at IHC
  have hx2 := blk_new w1 (.cells #[.int .i64 4, .int .i64 e.op, .int .i64 t, .int .i64 0, .int .i64 0, .int .i64 0] 42)
  have HK2 := Lib.hid (HK1.out.alloc (.cells #[.int .i64 4, .int .i64 e.op, .int .i64 t, .int .i64 0, .int .i64 0, .int .i64 0] 42))
  have HZ2 := Lib.hid (size_al w1 (.cells #[.int .i64 4, .int .i64 e.op, .int .i64 t, .int .i64 0, .int .i64 0, .int .i64 0] 42))
  have HX2 := Lib.hid hx2
  have hxo : ¬ GnOwn p O w1.heap.size := by
    rintro (q | q)
    · have := HPW.out; have := HK1.out.size; omega
    · have := HOW.out _ q; have := HK1.out.size; omega
  have HXO := Lib.hid hxo
  have HIHC := Lib.hid IHC
  have HGR := Lib.hid hgrow
  have HHL := Lib.hid hl
  have HNE := Lib.hid hne
  have hlen1 : (0 : Int) < (e.args.length : Int) := by omega
  have HKK := Lib.hid hkd
  subst hA0
  clear hx hb hz hk hkd hw1 hbe h hB hrd hr hrr hown hpw hx2 hxo IHC hgrow hl hne hna0 hk1 hk2 hu hla ha0 hj0 g00 g01 g02 g03 g04 hra0 n1 hs0 hc0 hrd0
  cases hx0 : exprG G t a0 with
  | none =>
    have HN0 := Lib.hid hx0
    clear hx0
    go_enter Try.func67, Try.ntmps67
    go_wp2_with (have tk := HW; clear tk; rw [HW.out, HBE.out]; clear HW)
    go_region_held3 (fun V_ => V_.cell? ⟨b, 3, none⟩ = some (.int .i64 e.op)) (exact n3 _) (fail)
    go_wp2_with fail
    refine HIHC.out.mono ?_
    rw [HN0.out]
    rintro y w3 ⟨rfl, G3, hg⟩
    exact ⟨rfl, rfl, G3, GnTo.trans (HG1.out.below (Below.refl _ _).al).drew HK2.out.drew (fun q hq => .inl hq) hg⟩
  | some r =>
    obtain ⟨a3, t3, G3⟩ := r
    have HN0 := Lib.hid hx0
    have hgr := HGR.out a3 t3 G3 hx0
    have HLN := Lib.hid (show G3.out.length ≤ 1000000 by have := hgr.2.2.1; have := HHL.out; have := HNE.out; omega)
    simp only [List.getD_cons_zero]
    rw [if_neg (by have := HKK.out; omega), if_pos HKK.out]
    clear hx0 hgr
    go_enter Try.func67, Try.ntmps67
    go_wp2_with (have tk := HW; clear tk; rw [HW.out, HBE.out]; clear HW)
    go_region_held3 (fun V_ => V_.cell? ⟨b, 3, none⟩ = some (.int .i64 e.op)) (exact n3 _) (fail)
    go_wp2_with fail
    refine HIHC.out.mono ?_
    rw [HN0.out]
    rintro y w3 ⟨rfl, hg⟩
    obtain ⟨O3, A3, c3, g3, k3, o3⟩ := hg
    have hx3 := k3.blk HX2.out HXO.out
    have hz3 := k3.size
    have hzz := HZ2.out
    have hzk := HK1.out.size
    have hO3 : O3.ownBlock ≠ some w1.heap.size := fun q => by
      rcases o3 _ q with q | q
      · exact HXO.out (.inr q)
      · have : (w1.alloc (.cells #[.int .i64 4, .int .i64 e.op, .int .i64 t, .int .i64 0, .int .i64 0, .int .i64 0] 42)).heap.size ≤ w1.heap.size := q
        omega
    have hbp : w1.heap.size ≠ p := fun q => HXO.out (.inl q)
    have g4 := g3.far (i := 3) (u := .int .i64 a3) hbp hO3
    have k4 := ((HK2.out.drew).trans k3 (fun q _ h => h)).set (p := ⟨w1.heap.size, 3, none⟩) (.inr hzk) (.int .i64 a3)
    have o4 : ∀ q, O3.ownBlock = some q → O.ownBlock = some q ∨ w.heap.size ≤ q := fun q hq => by
      rcases o3 q hq with h | h
      · exact .inl h
      · have : (w1.alloc (.cells #[.int .i64 4, .int .i64 e.op, .int .i64 t, .int .i64 0, .int .i64 0, .int .i64 0] 42)).heap.size ≤ q := h
        exact .inr (by omega)
    have hWs := HB1.out.size
    have hWs2 : W.heap.size ≤ (w1.alloc (.cells #[.int .i64 4, .int .i64 e.op, .int .i64 t, .int .i64 0, .int .i64 0, .int .i64 0] 42)).drew.heap.size := by show W.heap.size ≤ (w1.alloc (.cells #[.int .i64 4, .int .i64 e.op, .int .i64 t, .int .i64 0, .int .i64 0, .int .i64 0] 42)).heap.size; omega
    have hkb := k3.toBelow (B := W.heap.size) hWs2 (fun q hq => by
      rcases hq with hq | hq
      · subst hq; exact HG1.out.hp
      · exact HG1.out.fo q hq)
    have hb4 : Below W.heap.size W (w3.setCell ⟨w1.heap.size, 3, none⟩ (.int .i64 a3)) := ((HB1.out.alloc HB1.out.size _).drew.trans hkb).setCell (show W.heap.size ≤ w1.heap.size from HB1.out.size) _
    have HP := Lib.hid (put_calls W _ p G3 O3 A3 c3 g4 hb4 HLN.out 4 e.op t a3 0 0)
    have hp4 := blk_set hx3 3 (.int .i64 a3)
    have ff := blk_free hx3
    have ff0 := blk_cell hx3 3
    have f0 := blk_cell hp4 0
    have f1 := blk_cell hp4 1
    have f2 := blk_cell hp4 2
    have f3 := blk_cell hp4 3
    have f4 := blk_cell hp4 4
    have f5 := blk_cell hp4 5
    have HG4 := Lib.hid g4
    have HK4 := Lib.hid k4
    have HO4 := Lib.hid o4
    clear g3 k3 o3 hx3 hO3 hbp g4 k4 o4 hb4 hp4 n0 n3 n4 m0 m1 m2 m3 m4 hz3 hzz hzk
    go_wp2_with fail
    refine HP.out.mono ?_
    rintro y w5 ⟨rfl, hg5⟩
    go_wp2
    go_ret2
    exact ⟨rfl, GnTo.trans HG4.out HK4.out HO4.out hg5⟩
theorem exprG_free {G : Gn} {t : Int} {e : Expr} {a t' : Int} {G' : Gn} (h : exprG G t e = some (a, t', G')) : t' = t ∨ t' = t + 1 := by
  rw [exprG_eq] at h
  split at h
  · simp only [Option.some.injEq, Prod.mk.injEq] at h; exact .inl h.2.1.symm
  · split at h
    · cases h
    · split at h
      · simp only [Option.some.injEq, Prod.mk.injEq] at h; exact .inr h.2.1.symm
      · split at h
        · cases h
        · simp only [Option.some.injEq, Prod.mk.injEq] at h; exact .inr h.2.1.symm
set_option maxRecDepth 100000 in
set_option maxHeartbeats 4000000 in
theorem gtwo_calls (W : World) (N : Nat) (ih : ExprIH W N) (e : Expr) (A : Option Addr) (ca d : Nat) (hN : e.nodes ≤ N + 1) (hrd : Expr.rds W e.args A 0) (hr : e.rightB nameB d = true) (G : Gn) (t : Int) (w : World) (p : Nat) (O : Value) (As : Option Addr) (c : Nat) (h : GnAt W w p G O As c) (hB : Below W.heap.size W w) (hu : e.useN ≤ G.slots.length) (hl : G.out.length + e.nodes ≤ 1000000) (ht0 : 0 ≤ t) (ht1 : t ≤ 16) (hkd : e.kind = 5) (ht : t < 16) :
    Calls Try.prog 67 #[.pointer (some ⟨p, 0, none⟩), e.val A ca, .int .i64 t] w (ExprTo W w p O (exprG G t e)) := by
  have hne := e.nodes_eq
  unfold Expr.val
  obtain ⟨AX, cX, hX, _⟩ := h.out.slice
  have hown : ∀ q, O.ownBlock = some q → q < w.heap.size := fun q hq => h.out.lt hq
  clear hX
  have hpw := blk_lt h.blk
  have hx := blk_new w (.cells #[.int .i64 e.kind, .int .i64 e.num, .string e.name, .int .i64 e.op, .slice A e.args.length ca] 66)
  have hb : Below w.heap.size w (w.alloc (.cells #[.int .i64 e.kind, .int .i64 e.num, .string e.name, .int .i64 e.op, .slice A e.args.length ca] 66)) := (Below.refl _ _).al
  have hz := size_al w (.cells #[.int .i64 e.kind, .int .i64 e.num, .string e.name, .int .i64 e.op, .slice A e.args.length ca] 66)
  have hk := (Keep.refl (GnOwn p O) w).alloc (.cells #[.int .i64 e.kind, .int .i64 e.num, .string e.name, .int .i64 e.op, .slice A e.args.length ca] 66)
  obtain ⟨w1, hw1⟩ : ∃ w1, w.alloc (.cells #[.int .i64 e.kind, .int .i64 e.num, .string e.name, .int .i64 e.op, .slice A e.args.length ca] 66) = w1 := ⟨_, rfl⟩
  rw [hw1] at hx hb hz hk
  obtain ⟨b, hbe⟩ : ∃ b, w.heap.size = b := ⟨_, rfl⟩
  rw [hbe] at hx hz
  have HG1 := Lib.hid (h.below hb)
  have HK1 := Lib.hid hk
  have HB1 := Lib.hid (hB.trans (hb.mono hB.size))
  have HX1 := Lib.hid hx
  have HW := Lib.hid hw1
  have HBE := Lib.hid hbe
  have HZ1 := Lib.hid hz
  have HOW := Lib.hid hown
  have HPW := Lib.hid hpw
  have e0 := blk_cell hx 0
  have n1 := fun o => (Below.al (Below.refl w1.heap.size w1) (o := o)).cellOf (show w1.cell? ⟨b, 1, none⟩ = some (.int .i64 e.num) from blk_cell hx 1)
  have n3 := fun o => (Below.al (Below.refl w1.heap.size w1) (o := o)).cellOf (show w1.cell? ⟨b, 3, none⟩ = some (.int .i64 e.op) from blk_cell hx 3)
  have n4 := fun o => (Below.al (Below.refl w1.heap.size w1) (o := o)).cellOf (show w1.cell? ⟨b, 4, none⟩ = some (.slice A e.args.length ca) from blk_cell hx 4)
  have n0 := fun o => (Below.al (Below.refl w1.heap.size w1) (o := o)).cellOf (show w1.cell? ⟨b, 0, none⟩ = some (.int .i64 e.kind) from blk_cell hx 0)
  have hk2 : e.kind ≠ 2 := by omega
  have hk1 : e.kind ≠ 1 := by omega
  rw [exprG_more hk2 ht hk1]
  rw [Expr.useN_eq, if_neg hk2] at hu
  rw [Expr.rightB_eq] at hr
  simp only [Bool.and_eq_true, decide_eq_true_eq] at hr
  have hrr := hr.2
  have hla : e.args.length = 2 := by have := hr.1.1.2; simp [wantE, hkd] at this; omega
  rw [useL_2 hla] at hu
  rw [nodesL_2 hla] at hne
  have hk2' : (e.kind == 2) = false := by simp [hkd]
  have hk1' : (e.kind == 1) = false := by simp [hkd]
  have ht' : ¬ (16 ≤ t) := by omega
  have ht8 : IntKind.i64.wrap (t + 1) = t + 1 := by simp [IntKind.wrap, IntKind.signed, IntKind.bits]; omega
  have hq3 : (e.kind == 3) = false := by simp [hkd]
  have hq4 : (e.kind == 4) = false := by simp [hkd]
  have hq5 : (e.kind == 5) = true := by simp [hkd]
  have hj0 : 0 < e.args.length := by omega
  obtain ⟨ba0, oa0, A0, c0, hA0, hba0, g00, g01, g02, g03, g04, hc0, hs0, hrd0⟩ := Expr.at hrd HB1.out hj0
  have hra0 := Expr.rightsB_all hrr e.args[0] (List.getElem_mem hj0)
  have hna0 := e.args[0].nodes_eq
  have hj1 : 1 < e.args.length := by omega
  obtain ⟨ba1, oa1, A1, c1, hA1, hba1, g10, g11, g12, g13, g14, hc1, hs1, hrd1⟩ := Expr.at hrd (Below.refl W.heap.size W) hj1
  have hra1 := Expr.rightsB_all hrr e.args[1] (List.getElem_mem hj1)
  have hna1 := e.args[1].nodes_eq
  rw [exprsG_2 hla]
  have IHC := ih (e.args[0]'hj0) A0 c0 (d + 1) (by omega) hrd0 hra0 G t (w1.alloc (.cells #[.int .i64 5, .int .i64 e.op, .int .i64 t, .int .i64 0, .int .i64 0, .int .i64 0] 42)).drew p O As c (HG1.out.below (Below.refl _ _).al).drew (HB1.out.alloc HB1.out.size _).drew (by omega) (by omega) ht0 ht1
  have hgrow := fun a' t' G' (hh : exprG G t (e.args[0]'hj0) = some (a', t', G')) => exprG_grow (G := G) (e.args[0]'hj0) t (a := a') (t' := t') (G' := G') hra0 hh
  have hgrow1 := fun G3 t3 a' t' G' (hh : exprG G3 t3 (e.args[1]'hj1) = some (a', t', G')) => exprG_grow (G := G3) (e.args[1]'hj1) t3 (a := a') (t' := t') (G' := G') hra1 hh
  have IHD := fun G3 t3 w4 O3 A3 c3 h1 h2 h3 h4 h5 h6 => ih (e.args[1]'hj1) A1 c1 (d + 1) (by omega) hrd1 hra1 G3 t3 w4 p O3 A3 c3 h1 h2 h3 h4 h5 h6
  have HAT := Lib.hid (fun w4 (hb4 : Below W.heap.size W w4) => (⟨hb4.cellOf g10, hb4.cellOf g11, hb4.cellOf g12, hb4.cellOf g13, hb4.cellOf g14⟩ : _ ∧ _ ∧ _ ∧ _ ∧ _))
  obtain ⟨a0, ha0⟩ : ∃ x, e.args[0]'hj0 = x := ⟨_, rfl⟩
  obtain ⟨a1, ha1⟩ : ∃ x, e.args[1]'hj1 = x := ⟨_, rfl⟩
  rw [ha0] at IHC hgrow g00 g01 g02 g03 g04 hne hna0 hu ⊢
  rw [ha1] at IHD hgrow1 g10 g11 g12 g13 g14 hne hna1 hu HAT ⊢
  have m0 := fun o => (Below.al (Below.refl w1.heap.size w1) (o := o)).cellOf (show w1.cell? ⟨ba0, oa0, none⟩ = some (.int .i64 a0.kind) from g00)
  have m1 := fun o => (Below.al (Below.refl w1.heap.size w1) (o := o)).cellOf (show w1.cell? ⟨ba0, oa0 + 1, none⟩ = some (.int .i64 a0.num) from g01)
  have m2 := fun o => (Below.al (Below.refl w1.heap.size w1) (o := o)).cellOf (show w1.cell? ⟨ba0, oa0 + 2, none⟩ = some (.string a0.name) from g02)
  have m3 := fun o => (Below.al (Below.refl w1.heap.size w1) (o := o)).cellOf (show w1.cell? ⟨ba0, oa0 + 3, none⟩ = some (.int .i64 a0.op) from g03)
  have m4 := fun o => (Below.al (Below.refl w1.heap.size w1) (o := o)).cellOf (show w1.cell? ⟨ba0, oa0 + 4, none⟩ = some (.slice A0 a0.args.length c0) from g04)
  unfold Expr.val at IHC IHD
  have hx2 := blk_new w1 (.cells #[.int .i64 5, .int .i64 e.op, .int .i64 t, .int .i64 0, .int .i64 0, .int .i64 0] 42)
  have hxe := blk_alloc HX1.out (.cells #[.int .i64 5, .int .i64 e.op, .int .i64 t, .int .i64 0, .int .i64 0, .int .i64 0] 42)
  have HK2 := Lib.hid (HK1.out.alloc (.cells #[.int .i64 5, .int .i64 e.op, .int .i64 t, .int .i64 0, .int .i64 0, .int .i64 0] 42))
  have HZ2 := Lib.hid (size_al w1 (.cells #[.int .i64 5, .int .i64 e.op, .int .i64 t, .int .i64 0, .int .i64 0, .int .i64 0] 42))
  have HX2 := Lib.hid hx2
  have HXE := Lib.hid hxe
  have hxo : ¬ GnOwn p O w1.heap.size := by
    rintro (q | q)
    · have := HPW.out; have := HK1.out.size; omega
    · have := HOW.out _ q; have := HK1.out.size; omega
  have HXO := Lib.hid hxo
  have hxb : ¬ GnOwn p O b := by
    rintro (q | q)
    · have := HPW.out; have := HBE.out; omega
    · have := HOW.out _ q; have := HBE.out; omega
  have HXB := Lib.hid hxb
  have HIHC := Lib.hid IHC
  have HIHD := Lib.hid IHD
  have HGR := Lib.hid hgrow
  have HGR1 := Lib.hid hgrow1
  have HHL := Lib.hid hl
  have HNE := Lib.hid hne
  have HUU := Lib.hid hu
  have hlen1 : (0 : Int) < (e.args.length : Int) := by omega
  have hlen2 : (1 : Int) < (e.args.length : Int) := by omega
  have HKK := Lib.hid hkd
  subst hA0
  simp only [Option.some.injEq, Addr.mk.injEq] at hA1
  obtain ⟨hA1, hA2, _⟩ := hA1
  subst hA1 hA2
  clear hx hb hz hk hkd hw1 hbe h hB hrd hr hrr hown hpw hx2 hxe hxo hxb IHC IHD hgrow hgrow1 hl hne hna0 hna1 hk1 hk2 hu hla ha0 ha1 hj0 hj1 g00 g01 g02 g03 g04 g10 g11 g12 g13 g14 hra0 hra1 n1 hs0 hc0 hrd0 hs1 hc1 hrd1
  cases hx0 : exprG G t a0 with
  | none =>
    have HN0 := Lib.hid hx0
    clear hx0
    go_enter Try.func67, Try.ntmps67
    go_wp2_with (have tk := HW; clear tk; rw [HW.out, HBE.out]; clear HW)
    go_region_held3 (fun V_ => V_.cell? ⟨b, 3, none⟩ = some (.int .i64 e.op)) (exact n3 _) (fail)
    go_wp2_with fail
    refine HIHC.out.mono ?_
    rw [HN0.out]
    rintro y w3 ⟨rfl, G3, hg⟩
    exact ⟨rfl, rfl, G3, GnTo.trans (HG1.out.below (Below.refl _ _).al).drew HK2.out.drew (fun q hq => .inl hq) hg⟩
  | some r =>
    obtain ⟨a3, t3, G3⟩ := r
    have HN0 := Lib.hid hx0
    have hgr := HGR.out a3 t3 G3 hx0
    have hfr := exprG_free hx0
    have hsl : G3.slots.length = G.slots.length - a0.useN := by rw [hgr.1]; simp
    have HU3 := Lib.hid (show a1.useN ≤ G3.slots.length by have := HUU.out; omega)
    have HL3 := Lib.hid (show G3.out.length + a1.nodes ≤ 1000000 by have := hgr.2.2.1; have := HHL.out; have := HNE.out; omega)
    have HT3 := Lib.hid (show 0 ≤ t3 ∧ t3 ≤ 16 by omega)
    clear hx0 hgr hfr hsl
    simp only []
    cases hx1 : exprG G3 t3 a1 with
    | none =>
      have HN1 := Lib.hid hx1
      clear hx1
      go_enter Try.func67, Try.ntmps67
      go_wp2_with (have tk := HW; clear tk; rw [HW.out, HBE.out]; clear HW)
      go_region_held3 (fun V_ => V_.cell? ⟨b, 3, none⟩ = some (.int .i64 e.op)) (exact n3 _) (fail)
      go_wp2_with fail
      refine HIHC.out.mono ?_
      rw [HN0.out]
      rintro y w3 ⟨rfl, hg⟩
      obtain ⟨O3, A3, c3, g3, k3, o3⟩ := hg
      have hx3 := k3.blk HX2.out HXO.out
      have hxe3 := k3.blk HXE.out HXB.out
      have hz3 := k3.size
      have hzz := HZ2.out
      have hzk := HK1.out.size
      have hO3 : O3.ownBlock ≠ some w1.heap.size := fun q => by
        rcases o3 _ q with q | q
        · exact HXO.out (.inr q)
        · have : (w1.alloc (.cells #[.int .i64 5, .int .i64 e.op, .int .i64 t, .int .i64 0, .int .i64 0, .int .i64 0] 42)).heap.size ≤ w1.heap.size := q
          omega
      have hbp : w1.heap.size ≠ p := fun q => HXO.out (.inl q)
      have g4 := g3.far (i := 3) (u := .int .i64 a3) hbp hO3
      have k4 := ((HK2.out.drew).trans k3 (fun q _ h => h)).set (p := ⟨w1.heap.size, 3, none⟩) (.inr hzk) (.int .i64 a3)
      have o4 : ∀ q, O3.ownBlock = some q → O.ownBlock = some q ∨ w.heap.size ≤ q := fun q hq => by
        rcases o3 q hq with h | h
        · exact .inl h
        · have : (w1.alloc (.cells #[.int .i64 5, .int .i64 e.op, .int .i64 t, .int .i64 0, .int .i64 0, .int .i64 0] 42)).heap.size ≤ q := h
          exact .inr (by omega)
      have hWs := HB1.out.size
      have hWs2 : W.heap.size ≤ (w1.alloc (.cells #[.int .i64 5, .int .i64 e.op, .int .i64 t, .int .i64 0, .int .i64 0, .int .i64 0] 42)).drew.heap.size := by show W.heap.size ≤ (w1.alloc (.cells #[.int .i64 5, .int .i64 e.op, .int .i64 t, .int .i64 0, .int .i64 0, .int .i64 0] 42)).heap.size; omega
      have hkb := k3.toBelow (B := W.heap.size) hWs2 (fun q hq => by
        rcases hq with hq | hq
        · subst hq; exact HG1.out.hp
        · exact HG1.out.fo q hq)
      have hb4 : Below W.heap.size W (w3.setCell ⟨w1.heap.size, 3, none⟩ (.int .i64 a3)) := ((HB1.out.alloc HB1.out.size _).drew.trans hkb).setCell (show W.heap.size ≤ w1.heap.size from HB1.out.size) _
      have hp4 := blk_set hx3 3 (.int .i64 a3)
      have hpe4 := blk_far hxe3 (show b ≠ (⟨w1.heap.size, 3, none⟩ : Addr).block by show b ≠ w1.heap.size; have := HBE.out; have := HZ1.out; omega) (.int .i64 a3)
      have q4 := blk_cell hpe4 4
      have ff := blk_free hx3
      have ff0 := blk_cell hx3 3
      have hba : ba0 < W.heap.size := hba1
      obtain ⟨r0, r1, r2, r3, r4⟩ := HAT.out (w3.setCell ⟨w1.heap.size, 3, none⟩ (.int .i64 a3)) hb4
      have HX4 := Lib.hid hp4
      have HG4 := Lib.hid g4
      have HK4 := Lib.hid k4
      have HO4 := Lib.hid o4
      have HB4 := Lib.hid hb4
      have HXO3 := Lib.hid (show ¬ GnOwn p O3 w1.heap.size from fun q => q.elim hbp hO3)
      clear g3 k3 o3 hx3 hxe3 hO3 hbp g4 k4 o4 hb4 hp4 hpe4 n0 n3 n4 m0 m1 m2 m3 m4 hz3 hzz hzk hWs hWs2 hkb
      go_wp2_with fail
      refine (HIHD.out G3 t3 _ O3 A3 c3 HG4.out HB4.out HU3.out HL3.out HT3.out.1 HT3.out.2).mono ?_
      rw [HN1.out]
      rintro y w5 ⟨rfl, G5, hg5⟩
      exact ⟨rfl, rfl, G5, GnTo.trans HG4.out HK4.out HO4.out hg5⟩
    | some r =>
      obtain ⟨a5, t5, G5⟩ := r
      have HN1 := Lib.hid hx1
      have HL5 := Lib.hid (show G5.out.length ≤ 1000000 by have := (HGR1.out G3 t3 a5 t5 G5 hx1).2.2.1; have := HL3.out; omega)
      simp only [List.getD_cons_zero, List.getD_cons_succ]
      rw [if_neg (by have := HKK.out; omega), if_neg (by have := HKK.out; omega)]
      clear hx1
      go_enter Try.func67, Try.ntmps67
      go_wp2_with (have tk := HW; clear tk; rw [HW.out, HBE.out]; clear HW)
      go_region_held3 (fun V_ => V_.cell? ⟨b, 3, none⟩ = some (.int .i64 e.op)) (exact n3 _) (fail)
      go_wp2_with fail
      refine HIHC.out.mono ?_
      rw [HN0.out]
      rintro y w3 ⟨rfl, hg⟩
      obtain ⟨O3, A3, c3, g3, k3, o3⟩ := hg
      have hx3 := k3.blk HX2.out HXO.out
      have hxe3 := k3.blk HXE.out HXB.out
      have hz3 := k3.size
      have hzz := HZ2.out
      have hzk := HK1.out.size
      have hO3 : O3.ownBlock ≠ some w1.heap.size := fun q => by
        rcases o3 _ q with q | q
        · exact HXO.out (.inr q)
        · have : (w1.alloc (.cells #[.int .i64 5, .int .i64 e.op, .int .i64 t, .int .i64 0, .int .i64 0, .int .i64 0] 42)).heap.size ≤ w1.heap.size := q
          omega
      have hbp : w1.heap.size ≠ p := fun q => HXO.out (.inl q)
      have g4 := g3.far (i := 3) (u := .int .i64 a3) hbp hO3
      have k4 := ((HK2.out.drew).trans k3 (fun q _ h => h)).set (p := ⟨w1.heap.size, 3, none⟩) (.inr hzk) (.int .i64 a3)
      have o4 : ∀ q, O3.ownBlock = some q → O.ownBlock = some q ∨ w.heap.size ≤ q := fun q hq => by
        rcases o3 q hq with h | h
        · exact .inl h
        · have : (w1.alloc (.cells #[.int .i64 5, .int .i64 e.op, .int .i64 t, .int .i64 0, .int .i64 0, .int .i64 0] 42)).heap.size ≤ q := h
          exact .inr (by omega)
      have hWs := HB1.out.size
      have hWs2 : W.heap.size ≤ (w1.alloc (.cells #[.int .i64 5, .int .i64 e.op, .int .i64 t, .int .i64 0, .int .i64 0, .int .i64 0] 42)).drew.heap.size := by show W.heap.size ≤ (w1.alloc (.cells #[.int .i64 5, .int .i64 e.op, .int .i64 t, .int .i64 0, .int .i64 0, .int .i64 0] 42)).heap.size; omega
      have hkb := k3.toBelow (B := W.heap.size) hWs2 (fun q hq => by
        rcases hq with hq | hq
        · subst hq; exact HG1.out.hp
        · exact HG1.out.fo q hq)
      have hb4 : Below W.heap.size W (w3.setCell ⟨w1.heap.size, 3, none⟩ (.int .i64 a3)) := ((HB1.out.alloc HB1.out.size _).drew.trans hkb).setCell (show W.heap.size ≤ w1.heap.size from HB1.out.size) _
      have hp4 := blk_set hx3 3 (.int .i64 a3)
      have hpe4 := blk_far hxe3 (show b ≠ (⟨w1.heap.size, 3, none⟩ : Addr).block by show b ≠ w1.heap.size; have := HBE.out; have := HZ1.out; omega) (.int .i64 a3)
      have q4 := blk_cell hpe4 4
      have ff := blk_free hx3
      have ff0 := blk_cell hx3 3
      have hba : ba0 < W.heap.size := hba1
      obtain ⟨r0, r1, r2, r3, r4⟩ := HAT.out (w3.setCell ⟨w1.heap.size, 3, none⟩ (.int .i64 a3)) hb4
      have HX4 := Lib.hid hp4
      have HG4 := Lib.hid g4
      have HK4 := Lib.hid k4
      have HO4 := Lib.hid o4
      have HB4 := Lib.hid hb4
      have HXO3 := Lib.hid (show ¬ GnOwn p O3 w1.heap.size from fun q => q.elim hbp hO3)
      clear g3 k3 o3 hx3 hxe3 hO3 hbp g4 k4 o4 hb4 hp4 hpe4 n0 n3 n4 m0 m1 m2 m3 m4 hz3 hzz hzk hWs hWs2 hkb
      go_wp2_with fail
      refine (HIHD.out G3 t3 _ O3 A3 c3 HG4.out HB4.out HU3.out HL3.out HT3.out.1 HT3.out.2).mono ?_
      rw [HN1.out]
      rintro y w5 ⟨rfl, hg5⟩
      clear q4 ff ff0 r0 r1 r2 r3 r4
      obtain ⟨O5, A5, c5, g5, k5, o5⟩ := hg5
      have hx5 := k5.blk HX4.out HXO3.out
      have hz5 := k5.size
      have hz4 := HK4.out.size
      have hzk := HK1.out.size
      have hxl : w1.heap.size < (w3.setCell ⟨w1.heap.size, 3, none⟩ (.int .i64 a3)).heap.size := blk_lt HX4.out
      have hO5 : O5.ownBlock ≠ some w1.heap.size := fun q => by
        rcases o5 _ q with q | q
        · exact HXO3.out (.inr q)
        · omega
      have hbp : w1.heap.size ≠ p := fun q => HXO3.out (.inl q)
      have g6 := g5.far (i := 4) (u := .int .i64 a5) hbp hO5
      have k6 := (HK4.out.trans k5 (fun q hq h => by
        rcases h with h | h
        · exact .inl h
        · rcases HO4.out q h with h | h
          · exact .inr h
          · omega)).set (p := ⟨w1.heap.size, 4, none⟩) (.inr hzk) (.int .i64 a5)
      have o6 : ∀ q, O5.ownBlock = some q → O.ownBlock = some q ∨ w.heap.size ≤ q := fun q hq => by
        rcases o5 q hq with h | h
        · exact HO4.out q h
        · exact .inr (by omega)
      have hkb := k5.toBelow (B := W.heap.size) HB4.out.size (fun q hq => by
        rcases hq with hq | hq
        · subst hq; exact HG1.out.hp
        · exact HG4.out.fo q hq)
      have hb6 := (HB4.out.trans hkb).setCell (show W.heap.size ≤ (⟨w1.heap.size, 4, none⟩ : Addr).block from HB1.out.size) (.int .i64 a5)
      have HP := Lib.hid (put_calls W _ p G5 O5 A5 c5 g6 hb6 HL5.out 5 e.op t a3 a5 0)
      have hp6 := blk_set hx5 4 (.int .i64 a5)
      have ff := blk_free hx5
      have ff0 := blk_cell hx5 4
      have f0 := blk_cell hp6 0
      have f1 := blk_cell hp6 1
      have f2 := blk_cell hp6 2
      have f3 := blk_cell hp6 3
      have f4 := blk_cell hp6 4
      have f5 := blk_cell hp6 5
      have HG6 := Lib.hid g6
      have HK6 := Lib.hid k6
      have HO6 := Lib.hid o6
      clear g5 k5 o5 hx5 hO5 hbp g6 k6 o6 hb6 hp6 hz5 hz4 hzk hxl hkb
      go_wp2_with fail
      refine HP.out.mono ?_
      rintro y w7 ⟨rfl, hg7⟩
      go_wp2
      go_ret2
      exact ⟨rfl, GnTo.trans HG6.out HK6.out HO6.out hg7⟩
theorem gexpr_calls (W : World) (N : Nat) : ExprIH W N := by
  induction N with
  | zero => intro e A ca d hN; have := e.nodes_eq; omega
  | succ N ih =>
    intro e A ca d hN hrd hr G t w p O As c h hB hu hl ht0 ht1
    by_cases h2 : e.kind = 2
    · exact gname_calls W N ih e A ca d hN hrd hr G t w p O As c h hB hu hl ht0 ht1 h2
    · by_cases ht : 16 ≤ t
      · exact gdeep_calls W N ih e A ca d hN hrd hr G t w p O As c h hB hu hl ht0 ht1 h2 ht
      · have hk : 1 ≤ e.kind ∧ e.kind ≤ 5 := by
          have := hr
          rw [Expr.rightB_eq] at this
          simp only [Bool.and_eq_true, decide_eq_true_eq] at this
          exact this.1.1.1.2
        have hk' : e.kind = 1 ∨ e.kind = 3 ∨ e.kind = 4 ∨ e.kind = 5 := by omega
        rcases hk' with h1 | h1 | h1 | h1
        · exact gnum_calls W N ih e A ca d hN hrd hr G t w p O As c h hB hu hl ht0 ht1 h1 (by omega)
        · exact gmem_calls W N ih e A ca d hN hrd hr G t w p O As c h hB hu hl ht0 ht1 h1 (by omega)
        · exact gone_calls W N ih e A ca d hN hrd hr G t w p O As c h hB hu hl ht0 ht1 h1 (by omega)
        · exact gtwo_calls W N ih e A ca d hN hrd hr G t w p O As c h hB hu hl ht0 ht1 h1 (by omega)
end Go.Proofs.Ytjlnpppjkdcpkaa.My
