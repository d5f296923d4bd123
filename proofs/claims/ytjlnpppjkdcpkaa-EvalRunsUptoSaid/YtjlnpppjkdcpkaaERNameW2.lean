/- Layer 6: the Go functions of package name that go through a tree. Conditions: the tree was there in the world W, which is kept; it has less than 10^9 nodes. -/
import Derived.Test.YtjlnpppjkdcpkaaERNameW
namespace Go.Proofs.Ytjlnpppjkdcpkaa.My
open Go.RowKit Go.Maps
def Expr.val (e : Expr) (A : Option Addr) (c : Nat) : Value := .agg #[.int .i64 e.kind, .int .i64 e.num, .string e.name, .int .i64 e.op, .slice A e.args.length c]
def Stmt.val (s : Stmt) (A0 : Option Addr) (c0 : Nat) (A1 : Option Addr) (c1 : Nat) (A2 : Option Addr) (c2 : Nat) : Value := .agg #[.int .i64 s.kind, .string s.name, .int .i64 s.cell, .slice A0 s.args.length c0, .slice A1 s.body.length c1, .slice A2 s.els.length c2]
/-- a scope at p, all of whose blocks are younger than W -/
def Sc0 (W : World) (w : World) (p : Nat) (S : Sc) : Prop := ∃ O, ScAt (3 + S.out.length) O w p S ∧ ∀ k, O k → W.heap.size ≤ k
/-- boxes of statements are kept -/
structure Fr (W w w' : World) : Prop where
 below : Below W.heap.size w w'
 boxes : ∀ (k : Nat) (cs : Array Value), w.heap[k]? = some (.cells cs 36 (0, 0)) → w'.heap[k]? = some (.cells cs 36 (0, 0))
theorem Fr.refl (W w : World) : Fr W w w := ⟨Below.refl _ _, fun _ _ h => h⟩
theorem Fr.trans {W w w1 w2 : World} (h : Fr W w w1) (k : Fr W w1 w2) : Fr W w w2 := ⟨h.below.trans k.below, fun i cs hi => k.boxes i cs (h.boxes i cs hi)⟩
theorem Fr.alloc {W w w1 : World} (h : Fr W w w1) (hW : W.heap.size ≤ w.heap.size) (o : Obj) : Fr W w (w1.alloc o) := ⟨h.below.alloc (Nat.le_trans hW h.below.size) o, fun i cs hi => blk_alloc (h.boxes i cs hi) o⟩
theorem Fr.drew {W w w1 : World} (h : Fr W w w1) : Fr W w w1.drew := ⟨h.below.drew, h.boxes⟩
theorem ScAt.tight {n : Nat} {O : Nat → Prop} {w : World} {p : Nat} {S : Sc} (h : ScAt n O w p S) : ∃ T : Nat → Prop, ScAt n T w p S ∧ (∀ k, T k → O k) ∧ ∀ (k : Nat) (cs : Array Value), T k → w.heap[k]? ≠ some (.cells cs 36 (0, 0)) := by
 obtain ⟨bm, vn, vo, hb, hM, hn, ho, ok, o1, o2, o3, o4⟩ := h; refine ⟨fun k => k = p ∨ k = bm ∨ vn.ownBlock = some k ∨ vo.ownBlock = some k, ⟨bm, vn, vo, hb, hM, hn, ho, ok, .inl rfl, .inr (.inl rfl), fun k hk => .inr (.inr (.inl hk)), fun k hk => .inr (.inr (.inr hk))⟩, ?_, ?_⟩
 ·rintro k (rfl | rfl | h | h)
  ·exact o1
  ·exact o2
  ·exact o3 k h
  ·exact o4 k h
 ·rintro k cs (rfl | rfl | h | h) hk
  ·rw [hb] at hk; injection hk with hk; injection hk with _ hk; exact absurd hk (by decide)
  ·obtain ⟨es, cl, hm⟩ := hM.blk; rw [hm] at hk; cases hk
  ·exact hn.ne hk (by decide) h
  ·exact ho.ne hk (by decide) h
/-- what a call hands back: the code, the scope; and it keeps all but the scope's blocks -/
def Next (W : World) (p : Nat) (w : World) (r : Int × Sc) (e : Ending) (w' : World) : Prop :=
 e = .returned (.int .i64 r.1) ∧ Sc0 W w' p r.2 ∧ Fr W w w'
theorem Next.of {W w w' : World} {p : Nat} {r : Int × Sc} {e : Ending} {O : Nat → Prop} (hW : W.heap.size ≤ w.heap.size) (hO : ∀ k, O k → W.heap.size ≤ k) (hT : ∀ (k : Nat) (cs : Array Value), O k → w.heap[k]? ≠ some (.cells cs 36 (0, 0)))
  (h : e = .returned (.int .i64 r.1) ∧ (∃ O', ScAt (3 + r.2.out.length) O' w' p r.2 ∧ (∀ k, k < w.heap.size → O' k → O k)) ∧ Keep O w w') : Next W p w r e w' := by
 obtain ⟨h1, ⟨O', h2, h3⟩, h4⟩ := h; exact ⟨h1, ⟨O', h2, fun k hk => Nat.le_of_not_lt fun hl => by have := hO k (h3 k (by omega) hk); omega⟩, h4.toBelow hW hO, fun k cs hk => h4.blk hk fun h => hT k cs h hk⟩
theorem ScAt.mono {n m : Nat} {O : Nat → Prop} {w : World} {p : Nat} {S : Sc} (h : ScAt n O w p S) (hm : n ≤ m) : ScAt m O w p S := by
 obtain ⟨bm, vn, vo, hb, hM, r⟩ := h; exact ⟨bm, vn, vo, hb, hM.keep rfl hm, r⟩
theorem look0 (W : World) (p : Nat) (S : Sc) (x : ByteArray) (hx : x.size ≤ maxLen) (hl : S.out.length ≤ 1000000000) (w : World) (hW : W.heap.size ≤ w.heap.size) (h : Sc0 W w p S) :
  Calls Try.prog 64 #[.pointer (some ⟨p, 0, none⟩), .string x] w (Next W p w (look S x)) := by
 obtain ⟨O0, h0, hO0⟩ := h; obtain ⟨O, h, hOO, hT⟩ := h0.tight; have hO : ∀ k, O k → W.heap.size ≤ k := fun k hk => hO0 k (hOO k hk)
 refine (look_calls _ O p S x hx hl w h).mono ?_; rintro e w' ⟨h1, ⟨O', h2, h3⟩, h4⟩; refine Next.of hW hO hT ⟨h1, ⟨O', h2.mono ?_, h3⟩, h4⟩
 unfold look; split <;> simp
theorem declare0 (W : World) (p : Nat) (S : Sc) (x : ByteArray) (hx : x.size ≤ maxLen) (hl : S.out.length ≤ 1000000000) (w : World) (hW : W.heap.size ≤ w.heap.size) (h : Sc0 W w p S) :
  Calls Try.prog 63 #[.pointer (some ⟨p, 0, none⟩), .string x] w (Next W p w (declare S x)) := by
 obtain ⟨O0, h0, hO0⟩ := h; obtain ⟨O, h, hOO, hT⟩ := h0.tight; have hO : ∀ k, O k → W.heap.size ≤ k := fun k hk => hO0 k (hOO k hk)
 exact (declare_calls O p S x hx hl w h).mono fun e w' hw => Next.of hW hO hT hw
theorem Sc0.keep {W w w' : World} {p : Nat} {S : Sc} (h : Sc0 W w p S) (hB : Below w.heap.size w w') : Sc0 W w' p S := by
 obtain ⟨O, ⟨bm, vn, vo, hb, hM, hn, ho, r⟩, hO⟩ := h; obtain ⟨es, cl, hm⟩ := hM.blk; exact ⟨O, ⟨bm, vn, vo, below_blk hB hb (blk_lt hb), hM.keep (hB.block _ (blk_lt hm)) (Nat.le_refl _), hn.keep fun g hg => hB.block g (hn.lt hg), ho.keep fun g hg => hB.block g (ho.lt hg), r⟩, hO⟩
set_option maxRecDepth 100000 in
theorem expr_calls (W : World) (p : Nat) (N : Nat) : ∀ (e : Expr) (A : Option Addr) (c : Nat), e.nodes ≤ N → Expr.rds W e.args A 0 → e.args.length ≤ c → e.name.size ≤ maxLen → ∀ (S : Sc) (w : World), S.out.length + e.nodes ≤ 1000000000 → Below W.heap.size W w → Sc0 W w p S →
  Calls Try.prog 62 #[.pointer (some ⟨p, 0, none⟩), e.val A c] w (Next W p w (exprS S e)) := by
 induction N with
 | zero => intro e A c hN; have := e.nodes_eq; omega
 | succ N ih =>
  intro e A c hN hrd hc hs S w hl hB hS; have hne := e.nodes_eq; have hal := Expr.nodesL_len e.args; unfold Expr.val
  by_cases h2 : e.kind = 2
  ·have HE := Lib.hid (show exprS S e = look S e.name by rw [exprS_eq, if_pos h2])
   have h2' : (e.kind == 2) = true := by simp [h2]
   go_enter Try.func62, Try.ntmps62
   go_wp2_with (go_at_call 64; go_must (refine (look0 W p S e.name hs (by omega) _ (Nat.le_trans hB.size (Below.alloc (Below.refl w.heap.size _) (Nat.le_refl _) _).size) (hS.keep (Below.alloc (Below.refl _ _) (Nat.le_refl _) _))).mono ?_); rintro x w' ⟨rfl, hw, hb⟩)
   go_ret; rw [HE.out]; exact ⟨rfl, hw, ((Fr.refl W w).alloc hB.size _).trans hb⟩
  ·have HE := Lib.hid (show exprS S e = exprsS S e.args by rw [exprS_eq, if_neg h2])
   have h2' : (e.kind == 2) = false := by simp [h2]
   go_enter Try.func62, Try.ntmps62
   go_wp2; go_loopw [18] (fun at_ wr => ∃ (k : Nat), at_ = .int .i64 (k : Int) ∧ k ≤ e.args.length ∧ Hid ((exprsS S (e.args.take k)).1 = 0) ∧ Hid (Sc0 W wr p (exprsS S (e.args.take k)).2) ∧ Fr W w wr) (fun a _ => e.args.length - (intOf a).toNat)
   case atStart => exact ⟨0, rfl, Nat.zero_le _, rfl, hS.keep ((Below.refl _ _).alloc (Nat.le_refl _) _), (Fr.refl _ _).alloc hB.size _⟩
   case round =>
    obtain ⟨k, rfl, hk, HZ, HS, HB⟩ := hrel; by_cases hlt : k < e.args.length
    ·have hsz := Expr.nodesL_take e.args k hlt
     have hln := exprsS_len S (e.args.take k); obtain ⟨b, o, A', c', rfl, hbW, g0, g1, g2, g3, g4, hc', hs', hrd'⟩ := Expr.at hrd (hB.trans HB.below) hlt; have hlt' : ((k : Int) < (e.args.length : Int)) := by omega
     have hsn := exprsS_snoc S (e.args.take k) e.args[k]; rw [List.take_append_getElem hlt, if_pos HZ.out] at hsn; obtain ⟨r, hr⟩ : ∃ r, exprS (exprsS S (e.args.take k)).2 e.args[k] = r := ⟨_, rfl⟩
     rw [hr] at hsn; have HR := Lib.hid hsn; clear hsn; have hBa := (hB.trans HB.below).alloc (hB.trans HB.below).size (.cells #[.int .i64 e.args[k].kind, .int .i64 e.args[k].num, .string e.args[k].name, .int .i64 e.args[k].op, .slice A' e.args[k].args.length c'] 66); have hSa := HS.out.keep ((Below.refl wr.heap.size wr).alloc (Nat.le_refl _) (.cells #[.int .i64 e.args[k].kind, .int .i64 e.args[k].num, .string e.args[k].name, .int .i64 e.args[k].op, .slice A' e.args[k].args.length c'] 66)); have hI := ih e.args[k] A' c' (by omega) hrd' hc' hs' (exprsS S (e.args.take k)).2 _ (by omega) hBa hSa
     rw [hr] at hI; have HI := Lib.hid hI; clear hI hr; by_cases hz : r.1 = 0
     ·have hz' : (r.1 == 0) = true := by simp [hz]
      go_wp2_with (go_at_call 62; go_must (refine HI.out.mono ?_); rintro x w' ⟨rfl, hw, hb⟩)
      go_roundw
      case rel => exact ⟨k + 1, by go_num, by omega, by rw [HR.out]; exact hz, by rw [HR.out]; exact hw, (HB.alloc hB.size _).trans hb⟩
      case measure => simp [intOf]; omega
     ·have hz' : (r.1 == 0) = false := by simp [hz]
      have hst := exprsS_stop S e.args (k + 1) (by rw [HR.out]; exact hz)
      rw [HR.out] at hst; have HT := Lib.hid hst; clear hst; go_wp2_with (go_at_call 62; go_must (refine HI.out.mono ?_); rintro x w' ⟨rfl, hw, hb⟩)
      go_ret; rw [HE.out, HT.out]; exact ⟨rfl, hw, (HB.alloc hB.size _).trans hb⟩
    ·go_wp2
     go_ret; have hk' : k = e.args.length := by omega
     subst hk'; have hz := HZ.out; have hq := HS.out; rw [List.take_length] at hz hq; rw [HE.out]; exact ⟨by rw [hz]; rfl, hq, HB⟩
theorem back0 (W : World) (p : Nat) (S : Sc) (m : Nat) (hm : m ≤ S.names.length) (u : FrameMode) (w : World) (hW : W.heap.size ≤ w.heap.size) (h : Sc0 W w p S) :
  CallsD Try.prog 85 #[.pointer (some ⟨p, 0, none⟩), .int .i64 (m : Int)] u w fun e u' w' => u' = u ∧ (e = .returned (.tuple #[]) ∧ Sc0 W w' p { S with names := S.names.take m } ∧ Fr W w w') := by
 obtain ⟨O0, h0, hO0⟩ := h; obtain ⟨O, h, hOO, hT⟩ := h0.tight; have hO : ∀ k, O k → W.heap.size ≤ k := fun k hk => hO0 k (hOO k hk)
 refine (back_calls _ O p S m hm u w h).mono ?_; rintro e u' w' ⟨rfl, h1, h2, h3⟩; exact ⟨rfl, h1, ⟨O, h2, hO⟩, h3.toBelow hW hO, fun k cs hk => h3.blk hk fun h => hT k cs h hk⟩
def StmtOK (W : World) (p N : Nat) : Prop := ∀ (s : Stmt) (A0 : Option Addr) (c0 : Nat) (A1 : Option Addr) (c1 : Nat) (A2 : Option Addr) (c2 : Nat), s.nodes ≤ N → Expr.rds W s.args A0 0 → Stmt.rds W s.body A1 0 → Stmt.rds W s.els A2 0 →
  s.args.length ≤ c0 → s.body.length ≤ c1 → s.els.length ≤ c2 → s.name.size ≤ maxLen → ∀ (S : Sc) (w : World), S.out.length + s.nodes ≤ 1000000000 → Below W.heap.size W w → Sc0 W w p S →
  Calls Try.prog 48 #[.pointer (some ⟨p, 0, none⟩), s.val A0 c0 A1 c1 A2 c2] w (Next W p w (stmtS S s))
theorem Sc0.cell1 {W w : World} {p : Nat} {S : Sc} (h : Sc0 W w p S) : ∃ A c, w.cell? ⟨p, 1, none⟩ = some (.slice A S.names.length c) := by
 obtain ⟨O, ⟨bm, vn, vo, hb, hM, hn, r⟩, hO⟩ := h; obtain ⟨A, c, rfl, _⟩ := hn.slice; exact ⟨A, c, blk_cell hb 1⟩
theorem Sc0.cell23 {W w : World} {p : Nat} {S : Sc} (h : Sc0 W w p S) : w.cell? ⟨p, 2, none⟩ = some (.int .i64 S.cells) ∧ w.cell? ⟨p, 3, none⟩ = some (.int .i64 S.most) := by
 obtain ⟨O, ⟨bm, vn, vo, hb, r⟩, hO⟩ := h; exact ⟨blk_cell hb 2, blk_cell hb 3⟩
set_option maxRecDepth 100000 in
theorem block_of (W : World) (p N : Nat) (ih : StmtOK W p N) (l : List Stmt) (A : Option Addr) (c : Nat) (hN : Stmt.nodesL l ≤ N) (hrd : Stmt.rds W l A 0) (S : Sc) (w : World) (hl : S.out.length + Stmt.nodesL l ≤ 1000000000) (hB : Below W.heap.size W w) (hS : Sc0 W w p S) :
  Calls Try.prog 65 #[.pointer (some ⟨p, 0, none⟩), .slice A l.length c] w (Next W p w (blockS S l)) := by
 have hal := Stmt.nodesL_len l; obtain ⟨A1, c1, hc1⟩ := hS.cell1; go_enter_defers Try.func65, Try.ntmps65
 go_wp2; go_loopw [18] (fun at_ wr => ∃ (k : Nat), at_ = .int .i64 (k : Int) ∧ k ≤ l.length ∧ Hid ((stmtsS S (l.take k)).1 = 0) ∧ Hid (Sc0 W wr p (stmtsS S (l.take k)).2) ∧ Fr W w wr) (fun a _ => l.length - (intOf a).toNat)
 case atStart => exact ⟨0, rfl, Nat.zero_le _, Lib.hid (by simp [stmtsS]), Lib.hid (by simpa [stmtsS] using hS), Fr.refl _ _⟩
 case round =>
  obtain ⟨k, rfl, hk, HZ, HS, HB⟩ := hrel; by_cases hlt : k < l.length
  ·have hsz := Stmt.nodesL_take l k hlt
   have hln := stmtsS_len S (l.take k); obtain ⟨b, o, A0, c0, A2, c2, A3, c3, rfl, hbW, g0, g1, g2, g3, g4, g5, e0, e1, e2, hs', r0, r1, r2⟩ := Stmt.at hrd (hB.trans HB.below) hlt; have hlt' : ((k : Int) < (l.length : Int)) := by omega
   have hsn := stmtsS_snoc S (l.take k) l[k]; rw [List.take_append_getElem hlt, if_pos HZ.out] at hsn; obtain ⟨r, hr⟩ : ∃ r, stmtS (stmtsS S (l.take k)).2 l[k] = r := ⟨_, rfl⟩
   rw [hr] at hsn; have HR := Lib.hid hsn; clear hsn; have hBa := (hB.trans HB.below).alloc (hB.trans HB.below).size (.cells #[.int .i64 l[k].kind, .string l[k].name, .int .i64 l[k].cell, .slice A0 l[k].args.length c0, .slice A2 l[k].body.length c2, .slice A3 l[k].els.length c3] 36); have hSa := HS.out.keep ((Below.refl wr.heap.size wr).alloc (Nat.le_refl _) (.cells #[.int .i64 l[k].kind, .string l[k].name, .int .i64 l[k].cell, .slice A0 l[k].args.length c0, .slice A2 l[k].body.length c2, .slice A3 l[k].els.length c3] 36)); have hI := ih l[k] A0 c0 A2 c2 A3 c3 (by omega) r0 r1 r2 e0 e1 e2 hs' (stmtsS S (l.take k)).2 _ (by omega) hBa hSa
   rw [hr] at hI; unfold Stmt.val at hI
   have HI := Lib.hid hI; clear hI hr; by_cases hz : r.1 = 0
   ·have hz' : (r.1 == 0) = true := by simp [hz]
    go_wp2_with (go_at_call 48; go_must (refine HI.out.mono ?_); rintro x w' ⟨rfl, hw, hb⟩)
    go_roundw
    case rel => exact ⟨k + 1, by go_num, by omega, Lib.hid (by rw [HR.out]; exact hz), Lib.hid (by rw [HR.out]; exact hw), (HB.alloc hB.size _).trans hb⟩
    case measure => simp [intOf]; omega
   ·have hz' : (r.1 == 0) = false := by simp [hz]
    have hst := stmtsS_stop S l (k + 1) (by rw [HR.out]; exact hz)
    have hnm := stmtsS_names S (l.take (k + 1)); rw [HR.out] at hst hnm; have HT := Lib.hid (show blockS S l = (r.1, { r.2 with names := r.2.names.take S.names.length }) by rw [blockS, hst])
    clear hst; go_wp2_with (go_at_call 48; go_must (refine HI.out.mono ?_); rintro x w' ⟨rfl, hw, hb⟩)
    have hbb := (HB.alloc hB.size _).trans hb; refine leaves_cons (f := 85) (args := #[.pointer (some ⟨p, 0, none⟩), .int .i64 (S.names.length : Int)]) (by simp) (by simp [go_sem]) ?_
    refine (back0 W p _ S.names.length hnm .returning _ (hB.trans hbb.below).size hw).mono ?_; rintro e u' w'' ⟨rfl, rfl, h1, h2⟩; refine ⟨_, results_tmp rfl _ _ _, ?_⟩
    rw [HT.out]; exact ⟨rfl, h1, hbb.trans h2⟩
  ·go_wp2
   have hk' : k = l.length := by omega
   subst hk'; have hz := HZ.out; have hq := HS.out; rw [List.take_length] at hz hq; refine leaves_cons (f := 85) (args := #[.pointer (some ⟨p, 0, none⟩), .int .i64 (S.names.length : Int)]) (by simp) (by simp [go_sem]) ?_
   refine (back0 W p _ S.names.length (stmtsS_names S l) .returning _ (hB.trans HB.below).size hq).mono ?_; rintro e u' w'' ⟨rfl, rfl, h1, h2⟩; refine ⟨_, results_tmp rfl _ _ _, ?_⟩
   rw [blockS, hz]; exact ⟨rfl, h1, HB.trans h2⟩
theorem stmtS_eq (S : Sc) (s : Stmt) : stmtS S s = if (exprsS S s.args).1 = 0 then (if (kindS (exprsS S s.args).2 s.kind s.name s.cell).1 = 0 then (if (blockS (kindS (exprsS S s.args).2 s.kind s.name s.cell).2 s.body).1 = 0 then blockS (blockS (kindS (exprsS S s.args).2 s.kind s.name s.cell).2 s.body).2 s.els else blockS (kindS (exprsS S s.args).2 s.kind s.name s.cell).2 s.body) else kindS (exprsS S s.args).2 s.kind s.name s.cell) else exprsS S s.args := by
 cases s
 rw [stmtS]; rfl
set_option maxRecDepth 100000 in
set_option maxHeartbeats 1000000 in
theorem stmt_calls (W : World) (p N : Nat) : StmtOK W p N := by
 induction N with
 | zero => intro s A0 c0 A1 c1 A2 c2 hN; have := s.nodes_eq; omega
 | succ N ih =>
  intro s A0 c0 A1 c1 A2 c2 hN hrd hrd1 hrd2 hc0 hc1 hc2 hs S w hl hB hS; have hne := s.nodes_eq; have hal := Expr.nodesL_len s.args; have HX := Lib.hid (stmtS_eq S s); unfold Stmt.val
  go_enter Try.func48, Try.ntmps48
  go_wp2; have hbx00 := blk_new w (.cells #[.int .i64 s.kind, .string s.name, .int .i64 s.cell, .slice A0 s.args.length c0, .slice A1 s.body.length c1, .slice A2 s.els.length c2] 36); have HBX := Lib.hid hbx00; clear hbx00; go_loopw [13] (fun at_ wr => ∃ (k : Nat), at_ = .int .i64 (k : Int) ∧ k ≤ s.args.length ∧ Hid ((exprsS S (s.args.take k)).1 = 0) ∧ Hid (Sc0 W wr p (exprsS S (s.args.take k)).2) ∧ Fr W w wr ∧ Hid (wr.heap[w.heap.size]? = some (.cells #[.int .i64 s.kind, .string s.name, .int .i64 s.cell, .slice A0 s.args.length c0, .slice A1 s.body.length c1, .slice A2 s.els.length c2] 36 (0, 0)))) (fun a _ => s.args.length - (intOf a).toNat)
  case atStart => exact ⟨0, rfl, Nat.zero_le _, rfl, hS.keep ((Below.refl _ _).alloc (Nat.le_refl _) _), (Fr.refl _ _).alloc hB.size _, HBX⟩
  case round =>
   obtain ⟨k, rfl, hk, HZ, HS, HB, HBk⟩ := hrel; clear HBX; by_cases hlt : k < s.args.length
   ·have hsz := Expr.nodesL_take s.args k hlt
    have hln := exprsS_len S (s.args.take k); obtain ⟨b, o, A', c', rfl, hbW, g0, g1, g2, g3, g4, hc', hs', hrd'⟩ := Expr.at hrd (hB.trans HB.below) hlt; have hlt' : ((k : Int) < (s.args.length : Int)) := by omega
    have hsn := exprsS_snoc S (s.args.take k) s.args[k]; rw [List.take_append_getElem hlt, if_pos HZ.out] at hsn; obtain ⟨r, hr⟩ : ∃ r, exprS (exprsS S (s.args.take k)).2 s.args[k] = r := ⟨_, rfl⟩
    rw [hr] at hsn; have HR := Lib.hid hsn; clear hsn; have hBa := (hB.trans HB.below).alloc (hB.trans HB.below).size (.cells #[.int .i64 s.args[k].kind, .int .i64 s.args[k].num, .string s.args[k].name, .int .i64 s.args[k].op, .slice A' s.args[k].args.length c'] 66); have hSa := HS.out.keep ((Below.refl wr.heap.size wr).alloc (Nat.le_refl _) (.cells #[.int .i64 s.args[k].kind, .int .i64 s.args[k].num, .string s.args[k].name, .int .i64 s.args[k].op, .slice A' s.args[k].args.length c'] 66)); have hI := expr_calls W p _ s.args[k] A' c' (Nat.le_refl _) hrd' hc' hs' (exprsS S (s.args.take k)).2 _ (by omega) hBa hSa
    rw [hr] at hI; unfold Expr.val at hI
    have HI := Lib.hid hI; clear hI hr; by_cases hz : r.1 = 0
    ·have hz' : (r.1 == 0) = true := by simp [hz]
     go_wp2_with (go_at_call 62; go_must (refine HI.out.mono ?_); rintro x w' ⟨rfl, hw, hb⟩)
     go_roundw
     case rel => exact ⟨k + 1, by go_num, by omega, by rw [HR.out]; exact hz, by rw [HR.out]; exact hw, (HB.alloc hB.size _).trans hb, hb.boxes _ _ (blk_alloc HBk.out _)⟩
     case measure => simp [intOf]; omega
    ·have hz' : (r.1 == 0) = false := by simp [hz]
     have hst := exprsS_stop S s.args (k + 1) (by rw [HR.out]; exact hz)
     rw [HR.out] at hst; have hx := HX.out; rw [hst, if_neg hz] at hx; have HT := Lib.hid hx; clear hst hx; go_wp2_with (go_at_call 62; go_must (refine HI.out.mono ?_); rintro x w' ⟨rfl, hw, hb⟩)
     go_ret; rw [HT.out]; exact ⟨rfl, hw, (HB.alloc hB.size _).trans hb⟩
   ·have hk' : k = s.args.length := by omega
    subst hk'; have hz := HZ.out; have hS1 := HS.out; have hx := HX.out; rw [List.take_length] at hz hS1; rw [if_pos hz] at hx; have hln := exprsS_len S s.args; obtain ⟨S1, hS1e⟩ : ∃ S1, (exprsS S s.args).2 = S1 := ⟨_, rfl⟩
    rw [hS1e] at hS1 hx hln; clear HS HZ hz HX hS1e; have HX := Lib.hid hx; clear hx; have b0 := blk_cell HBk.out 0; have b1 := blk_cell HBk.out 1; have b2 := blk_cell HBk.out 2; have b4 := blk_cell HBk.out 4; have b5 := blk_cell HBk.out 5; by_cases k1 : s.kind = 1
    ·have k1' : (s.kind == 1) = true := by simp [k1]
     have hr0 : kindS S1 s.kind s.name s.cell = declare S1 s.name := by unfold kindS; rw [if_pos k1]
     have hrl := declare_len S1 s.name; obtain ⟨r, hr⟩ : ∃ r, kindS S1 s.kind s.name s.cell = r := ⟨_, rfl⟩
     have hI := declare0 W p S1 s.name hs (by omega) wr (hB.trans HB.below).size hS1
     rw [← hr0, hr] at hI hrl; have hX := HX.out; rw [hr] at hX; by_cases hz : r.1 = 0
     ·have hz' : (r.1 == 0) = true := by simp [hz]
      rw [if_pos hz] at hX; obtain ⟨q, hq⟩ : ∃ q, blockS r.2 s.body = q := ⟨_, rfl⟩
      rw [hq] at hX; have hql := blockS_len r.2 s.body; rw [hq] at hql; have C1 := Lib.hid (show ∀ w2, Below W.heap.size W w2 → Sc0 W w2 p r.2 → Calls Try.prog 65 #[.pointer (some ⟨p, 0, none⟩), .slice A1 s.body.length c1] w2 (Next W p w2 q) from fun w2 h1 h2 => hq ▸ block_of W p N ih s.body A1 c1 (by omega) hrd1 r.2 w2 (by omega) h1 h2)
      have C2 := Lib.hid (show ∀ w2, Below W.heap.size W w2 → Sc0 W w2 p q.2 → Calls Try.prog 65 #[.pointer (some ⟨p, 0, none⟩), .slice A2 s.els.length c2] w2 (Next W p w2 (blockS q.2 s.els)) from fun w2 h1 h2 => block_of W p N ih s.els A2 c2 (by omega) hrd2 q.2 w2 (by omega) h1 h2)
      clear hq; by_cases hy : q.1 = 0
      ·have hy' : (q.1 == 0) = true := by simp [hy]
       rw [if_pos hy] at hX; have HX' := Lib.hid hX; clear hX; go_wp2_with (first | (go_at_call 63; go_must (refine hI.mono ?_); rintro x w' ⟨rfl, hw, hb⟩; have b4' := blk_cell (hb.boxes _ _ HBk.out) 4) | (go_at_call 65; refine (C2.out _ (hB.trans ((HB.trans hb).trans hb2).below) hw2).mono ?_; rintro x3 w3 ⟨rfl, hw3, hb3⟩) | (go_at_call 65; refine (C1.out _ (hB.trans (HB.trans hb).below) hw).mono ?_; rintro x2 w2 ⟨rfl, hw2, hb2⟩; have b5' := blk_cell (hb2.boxes _ _ (hb.boxes _ _ HBk.out)) 5))
       go_ret; rw [HX'.out]; exact ⟨rfl, hw3, ((HB.trans hb).trans hb2).trans hb3⟩
      ·have hy' : (q.1 == 0) = false := by simp [hy]
       rw [if_neg hy] at hX; have HX' := Lib.hid hX; clear hX; go_wp2_with (first | (go_at_call 63; go_must (refine hI.mono ?_); rintro x w' ⟨rfl, hw, hb⟩; have b4' := blk_cell (hb.boxes _ _ HBk.out) 4) | (go_at_call 65; refine (C2.out _ (hB.trans ((HB.trans hb).trans hb2).below) hw2).mono ?_; rintro x3 w3 ⟨rfl, hw3, hb3⟩) | (go_at_call 65; refine (C1.out _ (hB.trans (HB.trans hb).below) hw).mono ?_; rintro x2 w2 ⟨rfl, hw2, hb2⟩; have b5' := blk_cell (hb2.boxes _ _ (hb.boxes _ _ HBk.out)) 5))
       go_ret; rw [HX'.out]; exact ⟨rfl, hw2, (HB.trans hb).trans hb2⟩
     ·have hz' : (r.1 == 0) = false := by simp [hz]
      rw [if_neg hz] at hX; have HX' := Lib.hid hX; clear hX; go_wp2_with (go_at_call 63; go_must (refine hI.mono ?_); rintro x w' ⟨rfl, hw, hb⟩; have b4' := blk_cell (hb.boxes _ _ HBk.out) 4)
      go_ret; rw [HX'.out]; exact ⟨rfl, hw, HB.trans hb⟩
    ·have k1' : (s.kind == 1) = false := by simp [k1]
     by_cases k2 : s.kind = 2
     ·have k2' : (s.kind == 2) = true := by simp [k2]
      have hr0 : kindS S1 s.kind s.name s.cell = look S1 s.name := by unfold kindS; rw [if_neg k1, if_pos k2]
      have hrl := look_len S1 s.name; obtain ⟨r, hr⟩ : ∃ r, kindS S1 s.kind s.name s.cell = r := ⟨_, rfl⟩
      have hI := look0 W p S1 s.name hs (by omega) wr (hB.trans HB.below).size hS1
      rw [← hr0, hr] at hI hrl; have hX := HX.out; rw [hr] at hX; by_cases hz : r.1 = 0
      ·have hz' : (r.1 == 0) = true := by simp [hz]
       rw [if_pos hz] at hX; obtain ⟨q, hq⟩ : ∃ q, blockS r.2 s.body = q := ⟨_, rfl⟩
       rw [hq] at hX; have hql := blockS_len r.2 s.body; rw [hq] at hql; have C1 := Lib.hid (show ∀ w2, Below W.heap.size W w2 → Sc0 W w2 p r.2 → Calls Try.prog 65 #[.pointer (some ⟨p, 0, none⟩), .slice A1 s.body.length c1] w2 (Next W p w2 q) from fun w2 h1 h2 => hq ▸ block_of W p N ih s.body A1 c1 (by omega) hrd1 r.2 w2 (by omega) h1 h2)
       have C2 := Lib.hid (show ∀ w2, Below W.heap.size W w2 → Sc0 W w2 p q.2 → Calls Try.prog 65 #[.pointer (some ⟨p, 0, none⟩), .slice A2 s.els.length c2] w2 (Next W p w2 (blockS q.2 s.els)) from fun w2 h1 h2 => block_of W p N ih s.els A2 c2 (by omega) hrd2 q.2 w2 (by omega) h1 h2)
       clear hq; by_cases hy : q.1 = 0
       ·have hy' : (q.1 == 0) = true := by simp [hy]
        rw [if_pos hy] at hX; have HX' := Lib.hid hX; clear hX; go_wp2_with (first | (go_at_call 64; go_must (refine hI.mono ?_); rintro x w' ⟨rfl, hw, hb⟩; have b4' := blk_cell (hb.boxes _ _ HBk.out) 4) | (go_at_call 65; refine (C2.out _ (hB.trans ((HB.trans hb).trans hb2).below) hw2).mono ?_; rintro x3 w3 ⟨rfl, hw3, hb3⟩) | (go_at_call 65; refine (C1.out _ (hB.trans (HB.trans hb).below) hw).mono ?_; rintro x2 w2 ⟨rfl, hw2, hb2⟩; have b5' := blk_cell (hb2.boxes _ _ (hb.boxes _ _ HBk.out)) 5))
        go_ret; rw [HX'.out]; exact ⟨rfl, hw3, ((HB.trans hb).trans hb2).trans hb3⟩
       ·have hy' : (q.1 == 0) = false := by simp [hy]
        rw [if_neg hy] at hX; have HX' := Lib.hid hX; clear hX; go_wp2_with (first | (go_at_call 64; go_must (refine hI.mono ?_); rintro x w' ⟨rfl, hw, hb⟩; have b4' := blk_cell (hb.boxes _ _ HBk.out) 4) | (go_at_call 65; refine (C2.out _ (hB.trans ((HB.trans hb).trans hb2).below) hw2).mono ?_; rintro x3 w3 ⟨rfl, hw3, hb3⟩) | (go_at_call 65; refine (C1.out _ (hB.trans (HB.trans hb).below) hw).mono ?_; rintro x2 w2 ⟨rfl, hw2, hb2⟩; have b5' := blk_cell (hb2.boxes _ _ (hb.boxes _ _ HBk.out)) 5))
        go_ret; rw [HX'.out]; exact ⟨rfl, hw2, (HB.trans hb).trans hb2⟩
      ·have hz' : (r.1 == 0) = false := by simp [hz]
       rw [if_neg hz] at hX; have HX' := Lib.hid hX; clear hX; go_wp2_with (go_at_call 64; go_must (refine hI.mono ?_); rintro x w' ⟨rfl, hw, hb⟩; have b4' := blk_cell (hb.boxes _ _ HBk.out) 4)
       go_ret; rw [HX'.out]; exact ⟨rfl, hw, HB.trans hb⟩
     ·have k2' : (s.kind == 2) = false := by simp [k2]
      by_cases k5 : s.kind = 5
      ·have k5' : (s.kind == 5) = true := by simp [k5]
       have hc2 : wr.drew.cell? ⟨p, 2, none⟩ = some (.int .i64 S1.cells) := hS1.cell23.1
       have hcb2 : wr.drew.cell? ⟨w.heap.size, 2, none⟩ = some (.int .i64 s.cell) := b2
       by_cases h5 : s.cell ≥ (if 4 < S1.cells then 4 else S1.cells)
       ·have hr : kindS S1 s.kind s.name s.cell = (63, S1) := by unfold kindS; rw [if_neg k1, if_neg k2, if_pos k5, if_pos h5]
        have hX := HX.out; rw [hr, if_neg (by simp)] at hX
        have HX' := Lib.hid hX; clear hX; go_wp2; go_region
        go_wp2; all_goals
         go_ret; rw [HX'.out]; exact ⟨rfl, hS1.keep (Below.refl _ _).drew, HB.drew⟩
       ·obtain ⟨r, hr⟩ : ∃ r, kindS S1 s.kind s.name s.cell = r := ⟨_, rfl⟩
        have hre : r = (0, S1) := by rw [← hr]; unfold kindS; rw [if_neg k1, if_neg k2, if_pos k5, if_neg h5]
        have hrl : r.2.out.length ≤ S1.out.length + 1 := by rw [hre]; simp
        have hw : Sc0 W wr.drew p r.2 := by rw [hre]; exact hS1
        have hb : Fr W wr wr.drew := (Fr.refl W wr).drew
        have hX := HX.out; rw [hr] at hX; by_cases hz : r.1 = 0
        ·have hz' : (r.1 == 0) = true := by simp [hz]
         rw [if_pos hz] at hX; obtain ⟨q, hq⟩ : ∃ q, blockS r.2 s.body = q := ⟨_, rfl⟩
         rw [hq] at hX; have hql := blockS_len r.2 s.body; rw [hq] at hql; have C1 := Lib.hid (show ∀ w2, Below W.heap.size W w2 → Sc0 W w2 p r.2 → Calls Try.prog 65 #[.pointer (some ⟨p, 0, none⟩), .slice A1 s.body.length c1] w2 (Next W p w2 q) from fun w2 h1 h2 => hq ▸ block_of W p N ih s.body A1 c1 (by omega) hrd1 r.2 w2 (by omega) h1 h2)
         have C2 := Lib.hid (show ∀ w2, Below W.heap.size W w2 → Sc0 W w2 p q.2 → Calls Try.prog 65 #[.pointer (some ⟨p, 0, none⟩), .slice A2 s.els.length c2] w2 (Next W p w2 (blockS q.2 s.els)) from fun w2 h1 h2 => block_of W p N ih s.els A2 c2 (by omega) hrd2 q.2 w2 (by omega) h1 h2)
         clear hq; by_cases hy : q.1 = 0
         ·have hy' : (q.1 == 0) = true := by simp [hy]
          rw [if_pos hy] at hX; have HX' := Lib.hid hX; clear hX; go_wp2; go_region
          go_wp2_with (first | (go_at_call 65; refine (C2.out _ (hB.trans ((HB.trans hb).trans hb2).below) hw2).mono ?_; rintro x3 w3 ⟨rfl, hw3, hb3⟩) | (go_at_call 65; refine (C1.out _ (hB.trans (HB.trans hb).below) hw).mono ?_; rintro x2 w2 ⟨rfl, hw2, hb2⟩; have b5' := blk_cell (hb2.boxes _ _ (hb.boxes _ _ HBk.out)) 5))
          all_goals
           go_ret; rw [HX'.out]; exact ⟨rfl, hw3, ((HB.trans hb).trans hb2).trans hb3⟩
         ·have hy' : (q.1 == 0) = false := by simp [hy]
          rw [if_neg hy] at hX; have HX' := Lib.hid hX; clear hX; go_wp2; go_region
          go_wp2_with (first | (go_at_call 65; refine (C2.out _ (hB.trans ((HB.trans hb).trans hb2).below) hw2).mono ?_; rintro x3 w3 ⟨rfl, hw3, hb3⟩) | (go_at_call 65; refine (C1.out _ (hB.trans (HB.trans hb).below) hw).mono ?_; rintro x2 w2 ⟨rfl, hw2, hb2⟩; have b5' := blk_cell (hb2.boxes _ _ (hb.boxes _ _ HBk.out)) 5))
          all_goals
           go_ret; rw [HX'.out]; exact ⟨rfl, hw2, (HB.trans hb).trans hb2⟩
        ·exact absurd (by rw [hre]) hz
      ·have k5' : (s.kind == 5) = false := by simp [k5]
       obtain ⟨r, hr⟩ : ∃ r, kindS S1 s.kind s.name s.cell = r := ⟨_, rfl⟩
       have hre : r = (0, S1) := by rw [← hr]; unfold kindS; rw [if_neg k1, if_neg k2, if_neg k5]
       have hrl : r.2.out.length ≤ S1.out.length + 1 := by rw [hre]; simp
       have hw : Sc0 W wr p r.2 := by rw [hre]; exact hS1
       have hb : Fr W wr wr := Fr.refl W wr
       have hX := HX.out; rw [hr] at hX; by_cases hz : r.1 = 0
       ·have hz' : (r.1 == 0) = true := by simp [hz]
        rw [if_pos hz] at hX; obtain ⟨q, hq⟩ : ∃ q, blockS r.2 s.body = q := ⟨_, rfl⟩
        rw [hq] at hX; have hql := blockS_len r.2 s.body; rw [hq] at hql; have C1 := Lib.hid (show ∀ w2, Below W.heap.size W w2 → Sc0 W w2 p r.2 → Calls Try.prog 65 #[.pointer (some ⟨p, 0, none⟩), .slice A1 s.body.length c1] w2 (Next W p w2 q) from fun w2 h1 h2 => hq ▸ block_of W p N ih s.body A1 c1 (by omega) hrd1 r.2 w2 (by omega) h1 h2)
        have C2 := Lib.hid (show ∀ w2, Below W.heap.size W w2 → Sc0 W w2 p q.2 → Calls Try.prog 65 #[.pointer (some ⟨p, 0, none⟩), .slice A2 s.els.length c2] w2 (Next W p w2 (blockS q.2 s.els)) from fun w2 h1 h2 => block_of W p N ih s.els A2 c2 (by omega) hrd2 q.2 w2 (by omega) h1 h2)
        clear hq; by_cases hy : q.1 = 0
        ·have hy' : (q.1 == 0) = true := by simp [hy]
         rw [if_pos hy] at hX; have HX' := Lib.hid hX; clear hX; go_wp2_with (first | (go_at_call 65; refine (C2.out _ (hB.trans ((HB.trans hb).trans hb2).below) hw2).mono ?_; rintro x3 w3 ⟨rfl, hw3, hb3⟩) | (go_at_call 65; refine (C1.out _ (hB.trans (HB.trans hb).below) hw).mono ?_; rintro x2 w2 ⟨rfl, hw2, hb2⟩; have b5' := blk_cell (hb2.boxes _ _ (hb.boxes _ _ HBk.out)) 5))
         go_ret; rw [HX'.out]; exact ⟨rfl, hw3, ((HB.trans hb).trans hb2).trans hb3⟩
        ·have hy' : (q.1 == 0) = false := by simp [hy]
         rw [if_neg hy] at hX; have HX' := Lib.hid hX; clear hX; go_wp2_with (first | (go_at_call 65; refine (C2.out _ (hB.trans ((HB.trans hb).trans hb2).below) hw2).mono ?_; rintro x3 w3 ⟨rfl, hw3, hb3⟩) | (go_at_call 65; refine (C1.out _ (hB.trans (HB.trans hb).below) hw).mono ?_; rintro x2 w2 ⟨rfl, hw2, hb2⟩; have b5' := blk_cell (hb2.boxes _ _ (hb.boxes _ _ HBk.out)) 5))
         go_ret; rw [HX'.out]; exact ⟨rfl, hw2, (HB.trans hb).trans hb2⟩
       ·exact absurd (by rw [hre]) hz
end Go.Proofs.Ytjlnpppjkdcpkaa.My
