/- Layer 6: what the Go functions of package name do to a scope in memory: each comes to its plain function. Conditions: the scope lies in memory as9 'ScAt' says; what is told so far is shorter than 10^9. -/
import Derived.Test.YtjlnpppjkdcpkaaProg
import Derived.Test.YtjlnpppjkdcpkaaERNameS
import Derived.Maps.OwnOps
import Derived.Maps.OwnSet
import Derived.Carry
import Derived.Defers
import Derived.Outline
import Derived.WalkSpells
namespace Go.Proofs.Ytjlnpppjkdcpkaa.My
open Go.RowKit Go.Maps
open Go.WideMaps (keyOf_string_mk)
theorem kmap : Keyed Try.prog 9 := string_keyed Try.underlying9
theorem zint (w : World) : (zeroValue 3).run Try.prog w = .ok (.int .i64 0) w := by kernel_rfl
theorem info_int : (Try.prog.info? 3).map (fun i => (i.zero, i.size, i.bytes)) = some (some (.int .i64 0), 1, 8) := by kernel_rfl
theorem info_string : (Try.prog.info? 9).map (fun i => (i.zero, i.size, i.bytes)) = some (some (.string ⟨#[]⟩), 1, 16) := by kernel_rfl
/-- block b of w is a map that holds just what f says -/
def MapIs (w : World) (b n : Nat) (f : ByteArray → Option Int) : Prop :=
 ∃ D : DataW Unit, w.ownsMap Try.prog 9 (plainElem Try.prog 3) b n D ∧
  ∀ s : ByteArray, has D (.string s.data.toList) = (f s).isSome ∧ ∀ c z, f s = some c → D.atKey (.string s.data.toList) z = .lit (.int .i64 c)
theorem MapIs.blk {w : World} {b n : Nat} {f : ByteArray → Option Int} (h : MapIs w b n f) : ∃ es cl, w.heap[b]? = some (.map es cl) := by
 obtain ⟨D, ⟨es, cl, h1, _⟩, _⟩ := h; exact ⟨es, cl, h1⟩
theorem MapIs.keep {w w' : World} {b n n' : Nat} {f : ByteArray → Option Int} (h : MapIs w b n f) (hk : w'.heap[b]? = w.heap[b]?) (hn : n ≤ n') : MapIs w' b n' f := by
 obtain ⟨D, ⟨es, cl, h1, h2, h3, h4⟩, hf⟩ := h; exact ⟨D, ⟨es, cl, hk.trans h1, h2, Nat.le_trans h3 hn, h4⟩, hf⟩
theorem Row.neMap {w : World} {e : TypeId} {size n b : Nat} {v : Value} {xs : List Value} {es : Array MapEntry} {cl : Nat} (h : Row w e size v n xs) (hm : w.heap[b]? = some (.map es cl)) : v.ownBlock ≠ some b := by
 intro hk; rcases h.2 with ⟨rfl, _⟩ | ⟨g, cap, cur, rfl, hg, _⟩
 ·simp [Value.ownBlock] at hk
 ·simp [Value.ownBlock] at hk; subst hk; rw [hm] at hg; cases hg
theorem str_ne {s x : ByteArray} (h : s ≠ x) : Lit.string s.data.toList ≠ Lit.string x.data.toList := fun e => h (by
 injection e with e
 cases s; cases x; simp at e; simp [e])
theorem isKey_str (x : ByteArray) : WideAt.IsKeyLit (Lit.string x.data.toList) := trivial
theorem MapIs.new (w : World) : MapIs (w.alloc (.map #[] 0)) w.heap.size 0 (fun _ => none) :=
 ⟨_, World.ownsMap_made w _ _ _, fun s => ⟨rfl, fun c z h => by cases h⟩⟩
theorem MapIs.put {w : World} {b n : Nat} {f : ByteArray → Option Int} (h : MapIs w b n f) (hn : n < maxLen) {x : ByteArray} (hx : x.size ≤ maxLen) {c : Int} (hc : (Lit.int .i64 c).wf = true) :
  ∃ w', (Instr.mapUpdate 106 (.map (some b)) (.string x) (.int .i64 c)).run Try.prog w = .ok () w' ∧ MapIs w' b (n + 1) (putF f x c) ∧ w.grownBy w' (some b) := by
 obtain ⟨D, hD, hf⟩ := h; obtain ⟨w', hrun, r1, r2⟩ := hD.update kmap Try.underlying106 hn (keyOf_string_mk Try.underlying9 hx) (plainElem_int Try.underlying3 hc); refine ⟨w', hrun, ⟨_, r1, fun s => ?_⟩, r2⟩
 by_cases hs : s = x
 ·subst hs
  refine ⟨by rw [has_put_same hD.isMap (isKey_str _)]; simp [putF], fun c' z h => ?_⟩
  simp [putF] at h
  subst h; exact atKey_put_same hD.isMap (isKey_str _) _ _
 ·have h1 := hf s
  refine ⟨by rw [has_put_other (str_ne hs)]; simp [putF, hs, h1.1], fun c' z h => ?_⟩
  simp [putF, hs] at h
  rw [atKey_put_other (str_ne hs)]; exact h1.2 c' z h
theorem MapIs.drop {w : World} {b n : Nat} {f : ByteArray → Option Int} (h : MapIs w b n f) {x : ByteArray} (hx : x.size ≤ maxLen) (ty : TypeId) :
  ∃ w', (Builtin.delete_ #[106, 9] ty #[.map (some b), .string x]).run Try.prog w = .ok (.tuple #[]) w' ∧ MapIs w' b n (delF f x) ∧ w.mapTurned w' b := by
 obtain ⟨D, hD, hf⟩ := h; obtain ⟨w', hrun, r1, r2⟩ := hD.drop kmap Try.underlying106 (keyOf_string_mk Try.underlying9 hx) ty; refine ⟨w', hrun, ⟨_, r1, fun s => ?_⟩, r2⟩
 by_cases hs : s = x
 ·subst hs
  refine ⟨by rw [has_del_same]; simp [delF], fun c' z h => ?_⟩
  simp [delF] at h
 ·have h1 := hf s
  refine ⟨by rw [has_del_other (str_ne hs)]; simp [delF, hs, h1.1], fun c' z h => ?_⟩
  simp [delF, hs] at h
  rw [atKey_del_other (str_ne hs)]; exact h1.2 c' z h
theorem wpList_put {w : World} {ops : Array Oper} {rest : List Oper} {o : Oper} {a : Act} {Q : Exit → Act → World → Prop} (hg : o.guard = none) (m x v : Operand)
  (hop : o.op = .insert 106 m x v) (b n : Nat) (f : ByteArray → Option Int) (hm : a.eval m = .map (some b)) (h : MapIs w b n f) (hn : n < maxLen) (s : ByteArray) (c : Int)
  (hx : a.eval x = .string s) (hv : a.eval v = .int .i64 c) (hs : s.size ≤ maxLen) (hc : (Lit.int .i64 c).wf = true)
  (hK : ∀ w', MapIs w' b (n + 1) (putF f s c) → w.grownBy w' (some b) → wpList Try.prog ops Q rest (a.put o.dst undef) w') : wpList Try.prog ops Q (o :: rest) a w := by
 refine wpList_plain hg fun K' hK' => ?_
 obtain ⟨w', hrun, r1, r2⟩ := h.put hn hs hc; unfold Oper.wp
 simp [execOp, hop, hm, hx, hv, hrun, Result.andThen]
 exact hK' _ _ (hK w' r1 r2)
/-- a scope at block p: its blocks are among O -/
def ScAt (n : Nat) (O : Nat → Prop) (w : World) (p : Nat) (S : Sc) : Prop :=
 ∃ bm vn vo, w.heap[p]? = some (.cells #[.map (some bm), vn, .int .i64 S.cells, .int .i64 S.most, vo] 108 (0, 0)) ∧ MapIs w bm n (regOf S.names) ∧
  Row w 9 1 vn S.names.length (S.names.map .string) ∧ Row w 3 1 vo S.out.length (S.out.map (.int .i64)) ∧
  okN S.names ∧ O p ∧ O bm ∧ (∀ k, vn.ownBlock = some k → O k) ∧ (∀ k, vo.ownBlock = some k → O k)
set_option maxRecDepth 100000 in
set_option maxHeartbeats 400000 in
theorem look_calls (n : Nat) (O : Nat → Prop) (p : Nat) (S : Sc) (x : ByteArray) (hx : x.size ≤ maxLen) (hl : S.out.length ≤ 1000000000) (w : World) (h : ScAt n O w p S) :
  Calls Try.prog 64 #[.pointer (some ⟨p, 0, none⟩), .string x] w fun e w' => e = .returned (.int .i64 (look S x).1) ∧ (∃ O', ScAt n O' w' p (look S x).2 ∧ (∀ k, k < w.heap.size → O' k → O k)) ∧ Keep O w w' := by
 obtain ⟨bm, vn, vo, hb, ⟨D, hD, hf⟩, hn, ho, ok, o1, o2, o3, o4⟩ := h; have c0 : w.cell? ⟨p, 0, none⟩ = some (.map (some bm)) := blk_cell hb 0
 have c4 : w.cell? ⟨p, 4, none⟩ = some vo := blk_cell hb 4
 have f4 : w.frozen? ⟨p, 4, none⟩ = false := blk_free hb 4
 have hkey : keyOf Try.prog 9 (.string x) = some (.string x.data.toList) := keyOf_string_mk Try.underlying9 hx
 obtain ⟨f1, f2⟩ := hf x
 cases hr : regOf S.names x with
 | none =>
  rw [hr] at f1; have hh : has D (.string x.data.toList) = false := f1
  have hlook : look S x = (60, S) := by unfold look; rw [hr]
  have HL := Lib.hid hlook; clear hlook f1 f2; have HH := Lib.hid hh; clear hh; go_enter Try.func64, Try.ntmps64
  go_wp2_with (at_lookup; refine wpList_lookup_own_ok_int _ rfl _ _ 106 rfl 9 3 .i64 kmap Try.underlying106 Try.underlying3 (zint _) bm _ D rfl hD _ _ rfl hkey ?_; intro c hat hwc; rw [HH.out])
  go_ret; exact ⟨by rw [HL.out]; rfl, ⟨O, by rw [HL.out]; exact ⟨bm, vn, vo, hb, ⟨D, hD, hf⟩, hn, ho, ok, o1, o2, o3, o4⟩, fun _ _ h => h⟩, Keep.refl _ _⟩
 | some r =>
  rw [hr] at f1; have hh : has D (.string x.data.toList) = true := f1
  have hv := f2 r (.lit (.int .i64 0)) hr; have hlook : look S x = (0, { S with out := S.out ++ [r] }) := by unfold look; rw [hr]
  have HL := Lib.hid hlook; have HV := Lib.hid hv; clear hlook f1 f2 hv; have HH := Lib.hid hh; clear hh; go_enter Try.func64, Try.ntmps64
  go_wp2_with (first | (at_lookup; refine wpList_lookup_own_ok_int _ rfl _ _ 106 rfl 9 3 .i64 kmap Try.underlying106 Try.underlying3 (zint _) bm _ D rfl hD _ _ rfl hkey ?_; intro c hat hwc; have hcr := hat.symm.trans HV.out; clear hat; injection hcr with hcr; injection hcr with _ hcr; subst c; rw [HH.out]) | (at_builtin; go_must (refine wpList_append_row _ rfl _ _ 68 rfl 3 (.int .i64 0) 1 8 Try.underlying68 info_int rfl vo _ _ rfl (ho.keep fun g hg => Below.heap_alloc w _ g (ho.lt hg)) ⟨w.heap.size, 0, none⟩ 1 1 [.int .i64 r] rfl rfl (cell_one_new _ _ _) (by simp [Value.oneCell']) (by decide) (by unfold maxLen; omega) (by omega) ?_); intro v' w1 hr1 hg1 hn1; obtain ⟨A1, cap1, rfl, _⟩ := hr1.slice; have hb1 := (hg1.block p (by simp; exact Nat.lt_succ_of_lt (blk_lt hb)) (Ne.symm (ho.ne hb (by decide)))).trans (blk_alloc hb _); have c41 := blk_cell hb1 4; have f41 := blk_free hb1 4))
  go_ret; have hm : MapIs w bm n (regOf S.names) := ⟨D, hD, hf⟩
  obtain ⟨es, cl, hm1⟩ := hm.blk; have hbp : bm ≠ p := fun e => by subst e; rw [hm1] at hb; cases hb
  have hm2 := (hg1.block bm (by simp; exact Nat.lt_succ_of_lt (blk_lt hm1)) (Ne.symm (ho.neMap hm1))).trans (blk_alloc hm1 _)
  have hvp : vn.ownBlock ≠ some p := hn.ne hb (by decide)
  have hvo : ∀ k, vn.ownBlock = some k → vo.ownBlock ≠ some k := fun k hk => by
   rcases hn.2 with ⟨rfl, _⟩ | ⟨g, cap, cur, rfl, hg, _⟩
   ·simp [Value.ownBlock] at hk
   ·simp [Value.ownBlock] at hk; subst hk; exact ho.ne hg (by decide)
  have K1 : Keep O w w1 := ((Keep.refl O w).alloc _).grown hg1 fun k hk => .inl (o4 k hk)
  rw [HL.out]; refine ⟨rfl, ⟨fun k => O k ∨ w.heap.size ≤ k, ⟨bm, vn, _, blk_set hb1 4 _, ?_, ?_, ?_, ok, .inl o1, .inl o2, fun k hk => .inl (o3 k hk), ?_⟩, fun k hk hh => hh.elim id (by omega)⟩, K1.set (.inl o1) _⟩
  ·exact hm.keep ((blk_far hm2 hbp _).trans hm1.symm) (Nat.le_refl _)
  ·refine hn.keep fun g hg => ?_
   obtain ⟨o, hgo⟩ : ∃ o, w.heap[g]? = some o := ⟨_, Array.getElem?_eq_getElem (hn.lt hg)⟩
   have h2 := (hg1.block g (by simp; exact Nat.lt_succ_of_lt (blk_lt hgo)) (Ne.symm (hvo g hg))).trans (blk_alloc hgo _)
   exact (blk_far h2 (fun e => by subst e; exact hvp hg) _).trans hgo.symm
  ·have h1 : Row w1 3 1 (.slice A1 (S.out.length + 1) cap1) (S.out ++ [r]).length ((S.out ++ [r]).map (.int .i64)) := by simpa using hr1
   refine h1.keep fun g hg => Below.heap_setCell _ _ _ _ fun e => ?_
   subst e; rcases hn1 with h | h
   ·exact ho.ne hb (by decide) (h ▸ hg)
   ·rw [hg] at h; have h := Option.some.inj h; have := blk_lt hb; simp at h; omega
  ·intro k hk
   rcases hn1 with h | h
   ·exact .inl (o4 k (h ▸ hk))
   ·rw [hk] at h; have h := Option.some.inj h; simp at h; exact .inr (by omega)
set_option maxRecDepth 100000 in
theorem fresh_calls (cells : Int) (w : World) :
  Calls Try.prog 47 #[.int .i64 cells] w fun e w' => ∃ p O, e = .returned (.pointer (some ⟨p, 0, none⟩)) ∧ ScAt 3 O w' p ⟨[], [], 0, cells⟩ ∧ (∀ k, O k → w.heap.size ≤ k) ∧ Keep (fun _ => False) w w' := by
 have hmm := @run_makeMap Try.prog; go_enter Try.func47, Try.ntmps47
 go_wp2_with (first
  | (refine wpList_put rfl _ _ _ rfl _ _ _ rfl (MapIs.new _) (by decide) ⟨#[110]⟩ 0 rfl rfl (by decide) (by decide) ?_; intro w1 m1 g1)
  | (refine wpList_put rfl _ _ _ rfl _ _ _ rfl m1 (by decide) ⟨#[105]⟩ 1 rfl rfl (by decide) (by decide) ?_; intro w2 m2 g2)
  | (refine wpList_put rfl _ _ _ rfl _ _ _ rfl m2 (by decide) ⟨#[107]⟩ 2 rfl rfl (by decide) (by decide) ?_; intro w3 m3 g3))
 go_ret; have G1 := (World.grownBy_alloc w (.map #[] 0) (some w.heap.size)).trans g1; have G := (G1.trans g2).trans g3; have hlt : w.heap.size < w3.heap.size := by have := g1.size; have := g2.size; have := g3.size; have h1 := G1.size; have h2 := blk_lt (blk_new w (.map #[] 0)); have h3 := g1.size; omega
 obtain ⟨es, cl, hm⟩ := m3.blk; rw [regOf_nil] at m3; refine ⟨w3.heap.size, fun k => w.heap.size ≤ k, rfl, ⟨w.heap.size, _, _, blk_new _ _, m3.keep ((blk_alloc hm _).trans hm.symm) (by simp), Row.nil _ _ _, Row.nil _ _ _, okN.nil, Nat.le_of_lt hlt, Nat.le_refl _, by intro k hk; simp [Value.ownBlock] at hk, by intro k hk; simp [Value.ownBlock] at hk⟩, fun _ h => h, ?_⟩
 exact ((Keep.refl _ w).grown G fun k hk => .inr (by cases hk; exact Nat.le_refl _)).alloc _
set_option maxRecDepth 100000 in
theorem sc_declared {n : Nat} {O : Nat → Prop} {p bm : Nat} {S : Sc} {x : ByteArray} {w w1 w2 : World} {vn vo v' : Value} {o : Obj} (hx : x.size ≤ maxLen) (h8 : S.names.length ≠ 8) (hr : regOf S.names x = none)
  (hb : w.heap[p]? = some (.cells #[.map (some bm), vn, .int .i64 S.cells, .int .i64 S.most, vo] 108 (0, 0))) (hm : MapIs w bm n (regOf S.names))
  (hn : Row w 9 1 vn S.names.length (S.names.map .string)) (ho : Row w 3 1 vo S.out.length (S.out.map (.int .i64))) (ok : okN S.names)
  (o1 : O p) (o2 : O bm) (o3 : ∀ k, vn.ownBlock = some k → O k) (o4 : ∀ k, vo.ownBlock = some k → O k)
  (m1 : MapIs w1 bm (n + 1) (putF (regOf S.names) x (3 + (S.names.length : Int)))) (g1 : w.grownBy w1 (some bm))
  (hr2 : Row w2 9 1 v' (S.names.length + 1) (S.names.map .string ++ [.string x])) (hg2 : (w1.alloc o).grownBy w2 vn.ownBlock) (hn2 : v'.ownBlock = vn.ownBlock ∨ v'.ownBlock = some (w1.alloc o).heap.size) (M : Int) :
  ScAt (n + 1) (fun k => O k ∨ w.heap.size ≤ k) (((w2.setCell ⟨p, 1, none⟩ v').setCell ⟨p, 3, none⟩ (.int .i64 M)).drew) p ⟨S.names ++ [x], S.out, M, S.cells⟩ ∧
  Keep O w (((w2.setCell ⟨p, 1, none⟩ v').setCell ⟨p, 3, none⟩ (.int .i64 M)).drew) := by
 obtain ⟨es, cl, hm0⟩ := hm.blk; have hbp : bm ≠ p := fun e => by subst e; rw [hm0] at hb; cases hb
 have hb1 := (g1.block p (blk_lt hb) (by intro e; cases e; exact hbp rfl)).trans hb
 have hs1 : w1.heap.size ≤ (w1.alloc o).heap.size := (World.grownBy_alloc w1 o none).size
 have hb2 := (hg2.block p (Nat.lt_of_lt_of_le (blk_lt hb1) hs1) (Ne.symm (hn.ne hb (by decide)))).trans (blk_alloc hb1 _)
 have hb3 := blk_set (blk_set hb2 1 v') 3 (.int .i64 M); obtain ⟨es1, cl1, hm1⟩ := m1.blk; have hm2 := (hg2.block bm (Nat.lt_of_lt_of_le (blk_lt hm1) hs1) (Ne.symm (hn.neMap hm0))).trans (blk_alloc hm1 _); have hm3 := blk_far (blk_far hm2 (p := ⟨p, 1, none⟩) hbp v') (p := ⟨p, 3, none⟩) hbp (.int .i64 M); have K1 : Keep O w w2 := (((Keep.refl O w).grown g1 fun k hk => by cases hk; exact .inl o2).alloc o).grown hg2 fun k hk => .inl (o3 k hk)
 have hvp : v'.ownBlock ≠ some p := fun e => by
  rcases hn2 with h | h
  ·exact hn.ne hb (by decide) (h ▸ e)
  ·rw [e] at h; have h := Option.some.inj h; have := blk_lt hb1; omega
 refine ⟨⟨bm, _, _, hb3, ?_, ?_, ?_, ok.put hr h8 hx, .inl o1, .inl o2, ?_, fun k hk => .inl (o4 k hk)⟩, ((K1.set (.inl o1) _).set (.inl o1) _).drew⟩
 ·rw [← regOf_put hr]
  exact m1.keep (hm3.trans hm1.symm) (Nat.le_refl _)
 ·have h1 : Row w2 9 1 v' (S.names ++ [x]).length ((S.names ++ [x]).map .string) := by simpa using hr2
  refine h1.keep fun g hg => ?_
  have hne : g ≠ p := fun e => by subst e; exact hvp hg
  exact (Below.heap_setCell _ _ _ _ hne).trans (Below.heap_setCell _ _ _ _ hne)
 ·refine ho.keep fun g hg => ?_
  have hne : g ≠ p := fun e => by subst e; exact ho.ne hb (by decide) hg
  have hgl := ho.lt hg; have e1 := g1.block g hgl (by intro e; cases e; exact ho.neMap hm0 hg)
  have e2 := hg2.block g (Nat.lt_of_lt_of_le (Nat.lt_of_lt_of_le hgl g1.size) hs1) (fun e => by
   rcases hn.2 with ⟨rfl, _⟩ | ⟨g', cap, cur, rfl, hg', _⟩
   ·simp [Value.ownBlock] at e
   ·simp [Value.ownBlock] at e; subst e; exact ho.ne hg' (by decide) hg)
  have e3 := Below.heap_alloc w1 o g (Nat.lt_of_lt_of_le hgl g1.size); exact ((Below.heap_setCell _ _ _ _ hne).trans (Below.heap_setCell _ _ _ _ hne)).trans (e2.trans (e3.trans e1))
 ·intro k hk
  rcases hn2 with h | h
  ·exact .inl (o3 k (h ▸ hk))
  ·rw [hk] at h; have h := Option.some.inj h; have := g1.size; exact .inr (by omega)
set_option maxRecDepth 100000 in
theorem declare_calls (O : Nat → Prop) (p : Nat) (S : Sc) (x : ByteArray) (hx : x.size ≤ maxLen) (hl : S.out.length ≤ 1000000000) (w : World) (h : ScAt (3 + S.out.length) O w p S) :
  Calls Try.prog 63 #[.pointer (some ⟨p, 0, none⟩), .string x] w fun e w' => e = .returned (.int .i64 (declare S x).1) ∧ (∃ O', ScAt (3 + (declare S x).2.out.length) O' w' p (declare S x).2 ∧ (∀ k, k < w.heap.size → O' k → O k)) ∧ Keep O w w' := by
 obtain ⟨bm, vn, vo, hb, ⟨D, hD, hf⟩, hn, ho, ok, o1, o2, o3, o4⟩ := h; have c0 : w.cell? ⟨p, 0, none⟩ = some (.map (some bm)) := blk_cell hb 0
 obtain ⟨An, cn, rfl, hnc⟩ := hn.slice; have c1 : w.cell? ⟨p, 1, none⟩ = some (.slice An S.names.length cn) := blk_cell hb 1
 have hkey : keyOf Try.prog 9 (.string x) = some (.string x.data.toList) := keyOf_string_mk Try.underlying9 hx
 obtain ⟨f1, f2⟩ := hf x
 cases hr : regOf S.names x with
 | some r =>
  rw [hr] at f1; have HH := Lib.hid (show has D (.string x.data.toList) = true from f1)
  have HL := Lib.hid (show declare S x = (61, S) by unfold declare; rw [hr]; rfl)
  clear f1 f2; go_enter Try.func63, Try.ntmps63
  go_wp2_with (at_lookup; refine wpList_lookup_own_ok_int _ rfl _ _ 106 rfl 9 3 .i64 kmap Try.underlying106 Try.underlying3 (zint _) bm _ D rfl hD _ _ rfl hkey ?_; intro c hat hwc; clear hat; rw [HH.out])
  go_ret; exact ⟨by rw [HL.out]; rfl, ⟨O, by rw [HL.out]; exact ⟨bm, _, vo, hb, ⟨D, hD, hf⟩, hn, ho, ok, o1, o2, o3, o4⟩, fun _ _ h => h⟩, Keep.refl _ _⟩
 | none =>
  rw [hr] at f1; have HH := Lib.hid (show has D (.string x.data.toList) = false from f1)
  clear f1 f2; by_cases h8 : S.names.length = 8
  ·have HL := Lib.hid (show declare S x = (62, S) by unfold declare; rw [hr, if_neg (by simp), if_pos h8])
   have e8 : ((S.names.length : Int) == 8) = true := by rw [h8]; rfl
   go_enter Try.func63, Try.ntmps63
   go_wp2_with (at_lookup; refine wpList_lookup_own_ok_int _ rfl _ _ 106 rfl 9 3 .i64 kmap Try.underlying106 Try.underlying3 (zint _) bm _ D rfl hD _ _ rfl hkey ?_; intro c hat hwc; clear hat; rw [HH.out])
   go_ret; exact ⟨by rw [HL.out]; rfl, ⟨O, by rw [HL.out]; exact ⟨bm, _, vo, hb, ⟨D, hD, hf⟩, hn, ho, ok, o1, o2, o3, o4⟩, fun _ _ h => h⟩, Keep.refl _ _⟩
  ·have e8 : ((S.names.length : Int) == 8) = false := by simp; omega
   have h7 := ok.len; obtain ⟨w1, hrun, m1, g1⟩ := MapIs.put (w := w.drew) (c := 3 + (S.names.length : Int)) ⟨D, hD, hf⟩ (by unfold maxLen; omega) hx (WalkArith.wf_i64 (by omega))
   go_enter Try.func63, Try.ntmps63
   go_wp2_with (at_lookup; refine wpList_lookup_own_ok_int _ rfl _ _ 106 rfl 9 3 .i64 kmap Try.underlying106 Try.underlying3 (zint _) bm _ D rfl hD _ _ rfl hkey ?_; intro c hat hwc; clear hat; rw [HH.out])
   go_region
   have hb1 := (g1.block p (blk_lt hb) (by intro e; cases e; obtain ⟨es, cl, hm, _⟩ := hD; rw [hm] at hb; cases hb)).trans hb
   have d0 := blk_cell hb1 0; have d1 := blk_cell hb1 1; have d1f := blk_free hb1 1; have hn1 := hn.keep (w' := w1) fun g hg => g1.block g (hn.lt hg) (by intro e; cases e; obtain ⟨es, cl, hm, _⟩ := hD; exact hn.neMap hm hg)
   go_wp2_with (at_builtin; go_must (refine wpList_append_row _ rfl _ _ 78 rfl 9 (.string ⟨#[]⟩) 1 16 Try.underlying78 info_string rfl (.slice An S.names.length cn) _ _ rfl (hn1.keep fun g hg => Below.heap_alloc w1 _ g (hn1.lt hg)) ⟨w1.heap.size, 0, none⟩ 1 1 [.string x] rfl rfl (cell_one_new _ _ _) (by simp [Value.oneCell']) (by decide) (by unfold maxLen; omega) (by omega) ?_); intro v' w2 hr2 hg2 hn2; obtain ⟨A2, cap2, rfl, _⟩ := hr2.slice; have hb2 := (hg2.block p (by simp; exact Nat.lt_succ_of_lt (blk_lt hb1)) (Ne.symm (hn1.ne hb1 (by decide)))).trans (blk_alloc hb1 _); have e1 := blk_cell hb2 1; have e1f := blk_free hb2 1; have hb3 := blk_set hb2 1 (.slice A2 (S.names.length + 1) cap2); have e3 : (w2.setCell ⟨p, 1, none⟩ (.slice A2 (S.names.length + 1) cap2)).drew.cell? ⟨p, 3, none⟩ = some (.int .i64 S.most) := blk_cell hb3 3; have e4 : (w2.setCell ⟨p, 1, none⟩ (.slice A2 (S.names.length + 1) cap2)).drew.cell? ⟨p, 1, none⟩ = some (.slice A2 (S.names.length + 1) cap2) := blk_cell hb3 1; have e5 : (w2.setCell ⟨p, 1, none⟩ (.slice A2 (S.names.length + 1) cap2)).drew.frozen? ⟨p, 3, none⟩ = false := blk_free hb3 3)
   have g0 : w.grownBy w1 (some bm) := ⟨g1.os, g1.tape, g1.output, g1.size, g1.block⟩
   have hD0 : MapIs w bm (3 + S.out.length) (regOf S.names) := ⟨D, hD, hf⟩
   have HL := Lib.hid (show declare S x = (0, ⟨S.names ++ [x], S.out ++ [3 + (S.names.length : Int)], if S.most < (S.names.length : Int) + 1 then (S.names.length : Int) + 1 else S.most, S.cells⟩) by
    unfold declare; rw [hr, if_neg (by simp), if_neg h8]; unfold look; rw [← regOf_put hr]; simp [putF])
   have HK := Lib.hid (show ∀ M, look ⟨S.names ++ [x], S.out, M, S.cells⟩ x = (0, ⟨S.names ++ [x], S.out ++ [3 + (S.names.length : Int)], M, S.cells⟩) by
    intro M; unfold look; rw [← regOf_put hr]; simp [putF])
   go_region
   have HS := sc_declared (M := if S.most < (S.names.length : Int) + 1 then (S.names.length : Int) + 1 else S.most) hx h8 hr hb hD0 hn ho ok o1 o2 o3 o4 m1 g0 hr2 hg2 hn2
   go_wp2_with (go_at_call 64; go_must (refine (look_calls _ _ p ⟨S.names ++ [x], S.out, if S.most < (S.names.length : Int) + 1 then (S.names.length : Int) + 1 else S.most, S.cells⟩ x hx hl _ HS.1).mono ?_); rintro e w' hw; rw [HK.out] at hw; obtain ⟨rfl, hw⟩ := hw)
   all_goals
    go_ret; obtain ⟨⟨O', hw1, hw2⟩, hw3⟩ := hw; rw [HL.out]; have hle := HS.2.size; refine ⟨rfl, ⟨O', ?_, fun k hk h => (hw2 k (Nat.lt_of_lt_of_le hk hle) h).elim id (by omega)⟩, HS.2.trans hw3 fun k hk h => h.elim id (by omega)⟩
    have e : 3 + (S.out ++ [3 + (S.names.length : Int)]).length = 3 + S.out.length + 1 := by simp; omega
    rw [e]; exact hw1
theorem elem_strings : Try.prog.underlying 78 = some (.slice (Try.prog.elem 78)) := by
 have : Try.prog.elem 78 = 9 := by kernel_rfl
 rw [this]; exact Try.underlying78
theorem size_strings : ∀ w, (sizeOf (Try.prog.elem 78)).run Try.prog w = .ok 1 w := fun w => by kernel_rfl
theorem wpList_drop {w : World} {ops : Array Oper} {rest : List Oper} {o : Oper} {a : Act} {Q : Exit → Act → World → Prop} (hg : o.guard = none) (m x : Operand)
  (hop : o.op = Op.call { callee := Callee.builtin Builtin.delete, args := #[m, x], argTypes := #[106, 9] }) (b n : Nat) (f : ByteArray → Option Int) (hm : a.eval m = .map (some b)) (h : MapIs w b n f) (s : ByteArray)
  (hx : a.eval x = .string s) (hs : s.size ≤ maxLen)
  (hK : ∀ w', MapIs w' b n (delF f s) → w.mapTurned w' b → wpList Try.prog ops Q rest (a.put o.dst (.tuple #[])) w') : wpList Try.prog ops Q (o :: rest) a w := by
 refine wpList_plain hg fun K' hK' => ?_
 obtain ⟨w', hrun, r1, r2⟩ := h.drop hs o.type; unfold Oper.wp
 simp [execOp, hop, resolve, invoke, builtin, hm, hx, hrun, Result.andThen]
 exact hK' _ _ (hK w' r1 r2)
set_option maxRecDepth 100000 in
theorem back_calls (n : Nat) (O : Nat → Prop) (p : Nat) (S : Sc) (m : Nat) (hm : m ≤ S.names.length) (u : FrameMode) (w : World) (h : ScAt n O w p S) :
  CallsD Try.prog 85 #[.pointer (some ⟨p, 0, none⟩), .int .i64 (m : Int)] u w fun e u' w' => u' = u ∧ (e = .returned (.tuple #[]) ∧ ScAt n O w' p { S with names := S.names.take m } ∧ Keep O w w') := by
 obtain ⟨bm, vn, vo, hb, hM, hn, ho, ok, o1, o2, o3, o4⟩ := h; obtain ⟨es, cl, hm0⟩ := hM.blk; have hbp : bm ≠ p := fun e => by subst e; rw [hm0] at hb; cases hb
 have c0 : w.cell? ⟨p, 0, none⟩ = some (.map (some bm)) := blk_cell hb 0
 obtain ⟨An, cn, rfl, hnc⟩ := hn.slice; have c1 : w.cell? ⟨p, 1, none⟩ = some (.slice An S.names.length cn) := blk_cell hb 1
 have h8 := ok.len; obtain ⟨A1, hA1⟩ : ∃ A1, (if cn = m then An else An.map (·.add (m * 1))) = A1 := ⟨_, rfl⟩
 have hsl1 : ∀ W, (Instr.sliceAt 78 (.slice An S.names.length cn) (some (.int .i64 (m : Int))) none none).run Try.prog W = .ok (.slice A1 (S.names.length - m) (cn - m)) W := fun W => by
  rw [← hA1]; exact run_cut_from W _ elem_strings 1 size_strings An _ cn m hm
 have hsl2 : ∀ W, (Instr.sliceAt 78 (.slice An S.names.length cn) none (some (.int .i64 (m : Int))) (some (.int .i64 (m : Int)))).run Try.prog W = .ok (.slice An m m) W := fun W =>
  run_cut_to W _ elem_strings 1 size_strings An _ cn m (by omega)
 have HA := Lib.hid hA1; clear hA1; go_enter_d Try.func85, Try.ntmps85
 go_wp2; go_loopw [13] (fun at_ wr => ∃ (k : Nat) (f : ByteArray → Option Int), at_ = .int .i64 (k : Int) ∧ k ≤ S.names.length - m ∧ w.mapTurned wr bm ∧ Hid (MapIs wr bm n f) ∧ Hid (∀ s, (s ∈ (S.names.drop m).take k → f s = none) ∧ (s ∉ (S.names.drop m).take k → f s = regOf S.names s))) (fun a _ => S.names.length - m - (intOf a).toNat)
 case atStart => exact ⟨0, _, rfl, Nat.zero_le _, by obtain ⟨D, hD, _⟩ := hM; exact hD.turned_refl, hM, fun s => by simp⟩
 case round =>
  obtain ⟨k, f, rfl, hk, hT, HM, HF⟩ := hrel; have hT' := hT.grown; have hpb := (hT'.block p (blk_lt hb) (by intro e; cases e; exact hbp rfl)).trans hb
  have d0 : wr.cell? ⟨p, 0, none⟩ = some (.map (some bm)) := blk_cell hpb 0
  have d1 : wr.cell? ⟨p, 1, none⟩ = some (.slice An S.names.length cn) := blk_cell hpb 1
  have d1f : wr.frozen? ⟨p, 1, none⟩ = false := blk_free hpb 1
  by_cases hlt : k < S.names.length - m
  ·obtain ⟨g, c', hv, hcell, _⟩ := hn.cell (j := m + k) (u := .string (S.names[m + k]'(by omega))) (by simp)
   injection hv with hv _ _
   subst hv; have hA : A1 = some ⟨g, m, none⟩ := by rw [← HA.out, if_neg (by omega)]; simp [Addr.add]; omega
   subst hA; have hgb : bm ≠ g := fun e => by subst e; exact hn.neMap hm0 rfl
   have hcell' : wr.cell? ⟨g, m + k, none⟩ = some (.string (S.names[m + k]'(by omega))) := (World.cell?_of_block (hT'.block g (hn.lt rfl) (by intro e; cases e; exact hgb rfl))).trans hcell
   go_wp2_with (at_delete; go_must (refine wpList_drop rfl _ _ rfl bm n f rfl HM.out (S.names[m + k]'(by omega)) rfl (ok.size _ (List.getElem_mem _)) ?_); intro w1 m1 g1)
   go_roundw
   case rel =>
    refine ⟨k + 1, by go_num, by omega, hT.trans g1, _, m1, fun s => ?_⟩
    have hF := HF.out s; have e : (S.names.drop m).take (k + 1) = (S.names.drop m).take k ++ [S.names[m + k]'(by omega)] := by
     rw [List.take_add_one, List.getElem?_drop, List.getElem?_eq_getElem (by omega)]; rfl
    rw [e]; unfold delF; by_cases hs : s = S.names[m + k]'(by omega)
    ·subst hs; simp
    ·simp only [List.mem_append, List.mem_singleton, hs, or_false, if_false]; exact hF
   case measure => simp [intOf]; omega
  ·go_wp2
   first | go_end0 | refine bodyPost_ret (results_none rfl _ _ _) rfl ?_
   have hkn : k = S.names.length - m := by omega
   have hMF : MapIs wr bm n (regOf (S.names.take m)) := by
    have e : f = regOf (S.names.take m) := by
     funext s
     have h1 := HF.out s; have h2 := ok.back m s; have e : (S.names.drop m).take k = S.names.drop m := List.take_of_length_le (by simp; omega)
     rw [e] at h1; by_cases hs : s ∈ S.names.drop m
     ·rw [h1.1 hs, h2.1 hs]
     ·rw [h1.2 hs, h2.2 hs]
    rw [← e]; exact HM.out
   obtain ⟨es', cl', hm1⟩ := hMF.blk; have hnr := hn.keep (w' := wr) fun g hg => hT'.block g (hn.lt hg) (by intro e; cases e; exact hn.neMap hm0 hg)
   have hor := ho.keep (w' := wr) fun g hg => hT'.block g (ho.lt hg) (by intro e; cases e; exact ho.neMap hm0 hg)
   refine ⟨rfl, ⟨bm, _, _, blk_set hpb 1 _, hMF.keep (Below.heap_setCell _ _ _ _ hbp) (Nat.le_refl _), ?_, ?_, ok.take m, o1, o2, ?_, o4⟩, ((Keep.refl O w).grown hT' fun k hk => by cases hk; exact .inl o2).set (.inl o1) _⟩
   ·have h1 := hnr.cut hm
    rw [Nat.mul_one, ← List.map_take] at h1; have h2 : (S.names.take m).length = m := by simp; omega
    show Row _ _ _ _ (S.names.take m).length _
    rw [h2]; exact h1.keep fun g hg => Below.heap_setCell _ _ _ _ (by intro e; subst e; exact hnr.ne hpb (by decide) ((own_any _ _ _ _ _).trans hg))
   ·exact hor.keep fun g hg => Below.heap_setCell _ _ _ _ (by intro e; subst e; exact hor.ne hpb (by decide) hg)
   ·intro g hg
    exact o3 g ((own_any _ _ _ _ _).trans hg)
end Go.Proofs.Ytjlnpppjkdcpkaa.My
