/- Small words for walks: what a call keeps of memory ('Keep'), a row of cells that a slice leads to ('Row') and append onto it, trees of expressions and statements as9 they are read in memory. No program in sight. -/
import Derived.WalkKit
import Derived.Lib.Hide
import Derived.Lib.IndexBytes
import Derived.KernelRfl
import Derived.Deep.LoopGhost
import Derived.OwnWalk
import Derived.Deep.QuietTactic
import Derived.BigQuiet
import Derived.Deep.Upon
namespace Go.Proofs.Ytjlnpppjkdcpkaa.My
open Go.RowKit
/-! ### blocks -/
theorem blk_lt {w : World} {g : Nat} {o : Obj} (h : w.heap[g]? = some o) : g < w.heap.size := (Array.getElem?_eq_some_iff.1 h).1
theorem blk_cell {w : World} {g : Nat} {t : TypeId} {cs : Array Value} (h : w.heap[g]? = some (.cells cs t (0, 0))) (i : Nat) : w.cell? ⟨g, i, none⟩ = cs[i]? := cell_of_row w g i cs t (0, 0) h
theorem blk_free {w : World} {g : Nat} {t : TypeId} {cs : Array Value} (h : w.heap[g]? = some (.cells cs t (0, 0))) (i : Nat) : w.frozen? ⟨g, i, none⟩ = false := by simp [World.frozen?, h]
theorem blk_new (w : World) (o : Obj) : (w.alloc o).heap[w.heap.size]? = some o := heap_alloc_new w o
theorem blk_alloc {w : World} {g : Nat} {o : Obj} (h : w.heap[g]? = some o) (o' : Obj) : (w.alloc o').heap[g]? = some o := (Below.heap_alloc w o' g (blk_lt h)).trans h
theorem blk_set {w : World} {g : Nat} {t : TypeId} {cs : Array Value} (h : w.heap[g]? = some (.cells cs t (0, 0))) (i : Nat) (u : Value) : (w.setCell ⟨g, i, none⟩ u).heap[g]? = some (.cells (cs.setIfInBounds i u) t (0, 0)) := by
 simp [World.setCell, Array.getElem?_modify, h]
theorem blk_far {w : World} {g : Nat} {o : Obj} (h : w.heap[g]? = some o) {p : Addr} (hp : g ≠ p.block) (u : Value) : (w.setCell p u).heap[g]? = some o := (Below.heap_setCell w p u g hp).trans h
/-! ### what a call keeps: all blocks that were there, but those of O -/
structure Keep (O : Nat → Prop) (w w' : World) : Prop where
 os : w'.os = w.os
 tape : w'.tape = w.tape
 output : w'.output = w.output
 size : w.heap.size ≤ w'.heap.size
 block : ∀ k, k < w.heap.size → ¬ O k → w'.heap[k]? = w.heap[k]?
theorem Keep.refl (O : Nat → Prop) (w : World) : Keep O w w := ⟨rfl, rfl, rfl, Nat.le_refl _, fun _ _ _ => rfl⟩
theorem Keep.trans {O O' : Nat → Prop} {w w1 w2 : World} (h : Keep O w w1) (k : Keep O' w1 w2) (hO : ∀ k, k < w.heap.size → O' k → O k) : Keep O w w2 :=
 ⟨k.os.trans h.os, k.tape.trans h.tape, k.output.trans h.output, Nat.le_trans h.size k.size, fun i hi hn => (k.block i (Nat.lt_of_lt_of_le hi h.size) (fun e => hn (hO i hi e))).trans (h.block i hi hn)⟩
theorem Keep.step {O : Nat → Prop} {w w1 w2 : World} (h : Keep O w w1) (k : Keep O w1 w2) : Keep O w w2 := h.trans k fun _ _ e => e
theorem Keep.alloc {O : Nat → Prop} {w w1 : World} (h : Keep O w w1) (o : Obj) : Keep O w (w1.alloc o) :=
 h.step ⟨rfl, rfl, rfl, by simp, fun k hk _ => Below.heap_alloc _ _ _ hk⟩
theorem Keep.drew {O : Nat → Prop} {w w1 : World} (h : Keep O w w1) : Keep O w w1.drew := ⟨h.os, h.tape, h.output, h.size, h.block⟩
theorem Keep.drewN {O : Nat → Prop} {w w1 : World} (h : Keep O w w1) (n : Nat) : Keep O w (w1.drewN n) := ⟨h.os, h.tape, h.output, h.size, h.block⟩
theorem Keep.set {O : Nat → Prop} {w w1 : World} (h : Keep O w w1) {p : Addr} (hp : O p.block ∨ w.heap.size ≤ p.block) (u : Value) : Keep O w (w1.setCell p u) :=
 ⟨h.os, h.tape, h.output, by have := h.size; simpa [World.setCell] using this, fun k hk hn => (Below.heap_setCell _ _ _ _ (fun e => by subst e; rcases hp with h1 | h1; exact hn h1; omega)).trans (h.block k hk hn)⟩
theorem Keep.grown {O : Nat → Prop} {w w1 w2 : World} {row : Option Nat} (h : Keep O w w1) (hg : w1.grownBy w2 row) (hr : ∀ k, row = some k → O k ∨ w.heap.size ≤ k) : Keep O w w2 :=
 ⟨hg.os.trans h.os, hg.tape.trans h.tape, hg.output.trans h.output, Nat.le_trans h.size hg.size, fun k hk hn => (hg.block k (Nat.lt_of_lt_of_le hk h.size) (fun e => by rcases hr k e.symm with h1 | h1; exact hn h1; omega)).trans (h.block k hk hn)⟩
theorem Keep.below {O : Nat → Prop} {w w1 w2 : World} (h : Keep O w w1) (hb : Below w1.heap.size w1 w2) : Keep O w w2 :=
 ⟨hb.os.trans h.os, hb.tape.trans h.tape, hb.output.trans h.output, Nat.le_trans h.size hb.size, fun k hk hn => (hb.block k (Nat.lt_of_lt_of_le hk h.size)).trans (h.block k hk hn)⟩
theorem Keep.toBelow {O : Nat → Prop} {w w1 : World} {B : Nat} (h : Keep O w w1) (hB : B ≤ w.heap.size) (hO : ∀ k, O k → B ≤ k) : Below B w w1 :=
 ⟨h.os, h.tape, h.output, h.size, fun k hk => h.block k (by omega) (fun e => by have := hO k e; omega)⟩
theorem Keep.blk {O : Nat → Prop} {w w1 : World} (h : Keep O w w1) {g : Nat} {o : Obj} (hg : w.heap[g]? = some o) (hn : ¬ O g) : w1.heap[g]? = some o := (h.block g (blk_lt hg) hn).trans hg
theorem below_blk {w w1 : World} {B g : Nat} {o : Obj} (hb : Below B w w1) (hg : w.heap[g]? = some o) (h : g < B) : w1.heap[g]? = some o := (hb.block g h).trans hg
/-! ### a row that a slice leads to: its block may have more cells than the slice's capacity -/
def Row (w : World) (e : TypeId) (size : Nat) (v : Value) (n : Nat) (xs : List Value) : Prop :=
 xs.length = n * size ∧
 ((v = .slice none 0 0 ∧ n = 0) ∨
  ∃ g cap cur, v = .slice (some ⟨g, 0, none⟩) n cap ∧ w.heap[g]? = some (.cells cur e (0, 0)) ∧ n ≤ cap ∧ cap ≤ maxLen ∧ cap * size ≤ cur.size ∧ cur.toList.take (n * size) = xs)
theorem Row.nil (w : World) (e : TypeId) (size : Nat) : Row w e size (.slice none 0 0) 0 [] := ⟨by simp, .inl ⟨rfl, rfl⟩⟩
theorem Row.keep {w w' : World} {e : TypeId} {size n : Nat} {v : Value} {xs : List Value} (h : Row w e size v n xs) (hk : ∀ g, v.ownBlock = some g → w'.heap[g]? = w.heap[g]?) : Row w' e size v n xs := by
 refine ⟨h.1, ?_⟩
 rcases h.2 with h2 | ⟨g, cap, cur, rfl, hg, r⟩
 ·exact .inl h2
 ·exact .inr ⟨g, cap, cur, rfl, (hk g rfl).trans hg, r⟩
theorem Row.lt {w : World} {e : TypeId} {size n : Nat} {v : Value} {xs : List Value} (h : Row w e size v n xs) {k : Nat} (hk : v.ownBlock = some k) : k < w.heap.size := by
 rcases h.2 with ⟨rfl, _⟩ | ⟨g, cap, cur, rfl, hg, _⟩
 ·simp [Value.ownBlock] at hk
 ·simp [Value.ownBlock] at hk; subst hk; exact blk_lt hg
theorem own_any (A : Option Addr) (n c n' c' : Nat) : (Value.slice A n c).ownBlock = (Value.slice A n' c').ownBlock := by cases A <;> rfl
/-- its value's shape -/
theorem Row.slice {w : World} {e : TypeId} {size n : Nat} {v : Value} {xs : List Value} (h : Row w e size v n xs) : ∃ A c, v = .slice A n c ∧ n ≤ c := by
 rcases h.2 with ⟨rfl, rfl⟩ | ⟨g, cap, cur, rfl, _, hc, _⟩
 ·exact ⟨_, _, rfl, Nat.le_refl _⟩
 ·exact ⟨_, _, rfl, hc⟩
/-- a row of another type lies in another block -/
theorem Row.ne {w : World} {e t : TypeId} {size n g : Nat} {v : Value} {xs : List Value} {cs : Array Value} {fr : Nat × Nat} (h : Row w e size v n xs) (hg : w.heap[g]? = some (.cells cs t fr)) (hne : e ≠ t) : v.ownBlock ≠ some g := by
 intro hk; rcases h.2 with ⟨rfl, _⟩ | ⟨g', cap, cur, rfl, hg', _⟩
 ·simp [Value.ownBlock] at hk
 ·simp [Value.ownBlock] at hk; subst hk
  rw [hg] at hg'; injection hg' with h1; injection h1 with _ h2; exact hne h2.symm
theorem Row.cell {w : World} {e : TypeId} {size n : Nat} {v : Value} {xs : List Value} (h : Row w e size v n xs) {j : Nat} {u : Value} (hj : xs[j]? = some u) : ∃ g c, v = .slice (some ⟨g, 0, none⟩) n c ∧ w.cell? ⟨g, j, none⟩ = some u ∧ w.frozen? ⟨g, j, none⟩ = false := by
 rcases h.2 with ⟨rfl, rfl⟩ | ⟨g, cap, cur, rfl, hg, _, _, _, ht⟩
 ·have := List.eq_nil_of_length_eq_zero (h.1.trans (by simp)); subst this; simp at hj
 ·refine ⟨g, cap, rfl, ?_, blk_free hg j⟩
  rw [blk_cell hg, ← Array.getElem?_toList]; rw [← ht, List.getElem?_take] at hj; split at hj
  ·exact hj
  ·cases hj
/-- s[:m:m] -/
theorem Row.cut {w : World} {e : TypeId} {size n m : Nat} {A : Option Addr} {c : Nat} {xs : List Value} (h : Row w e size (.slice A n c) n xs) (hm : m ≤ n) : Row w e size (.slice A m m) m (xs.take (m * size)) := by
 rcases h.2 with ⟨h2, rfl⟩ | ⟨g, cap, cur, h2, hg, h3, h4, h5, h6⟩
 ·have hm0 : m = 0 := by omega
  subst hm0; injection h2 with h2 _ _; subst h2
  exact ⟨by simp, .inl ⟨rfl, rfl⟩⟩
 ·injection h2 with h2 _ h7; subst h2; subst h7
  have hle : m * size ≤ n * size := Nat.mul_le_mul_right _ hm
  refine ⟨by rw [List.length_take, h.1]; omega, .inr ⟨g, m, cur, rfl, hg, Nat.le_refl _, by omega, ?_, by rw [← h6, List.take_take, Nat.min_eq_left hle]⟩⟩
  exact Nat.le_trans (Nat.mul_le_mul_right _ (Nat.le_trans hm h3)) h5
theorem run_cut_from {P : Program} (w : World) (t : TypeId) (ht : P.underlying t = some (.slice (P.elem t))) (size : Nat) (hs : ∀ w, (sizeOf (P.elem t)).run P w = .ok size w) (A : Option Addr) (n c m : Nat) (hm : m ≤ n) :
  (Instr.sliceAt t (.slice A n c) (some (.int .i64 (m : Int))) none none).run P w = .ok (.slice (if c = m then A else A.map (·.add (m * size))) (n - m) (c - m)) w := by
 rw [run_sliceAt_slice w t _ _ _ _ ht, run_slice_l w t A n c ht .i64 m (by omega) (by omega), hs]
 simp only [Result.andThen, sliced, Int.toNat_natCast]
theorem run_cut_to {P : Program} (w : World) (t : TypeId) (ht : P.underlying t = some (.slice (P.elem t))) (size : Nat) (hs : ∀ w, (sizeOf (P.elem t)).run P w = .ok size w) (A : Option Addr) (n c m : Nat) (hm : m ≤ c) :
  (Instr.sliceAt t (.slice A n c) none (some (.int .i64 (m : Int))) (some (.int .i64 (m : Int)))).run P w = .ok (.slice A m m) w := by
 have h0 : ∀ a : Addr, a.add 0 = a := fun a => by simp [Addr.add]
 rw [run_sliceAt_slice w t _ _ _ _ ht, run_slice_hm w t A n c ht .i64 .i64 m m (by omega) (by omega) (by omega), hs]
 simp only [Result.andThen, sliced, Int.toNat_natCast, Nat.zero_mul]
 have : A.map (·.add 0) = A := by cases A <;> simp [h0]
 rw [this]; simp
/-- append onto a row -/
theorem run_append_row {P : Program} (w : World) (t ty e : TypeId) (i : TypeInfo) (z : Value) (size bytes : Nat) (ht : P.underlying t = some (.slice e)) (hi : P.info? e = some i) (hz : i.zero = some z)
  (hsize : i.size = size) (hby : i.bytes = bytes) (hzs : z.cells.size = size)
  (v : Value) (n : Nat) (xs : List Value) (hown : Row w e size v n xs)
  (a : Addr) (m c : Nat) (news : List Value) (hl : news.length = m * size) (hnews : ∀ j u, news[j]? = some u → w.cell? (a.add j) = some u) (h1 : ∀ u ∈ news, u.oneCell' = true)
  (hm0 : 0 < m) (h63 : n + m ≤ maxLen) (hbytes : (n + m) * bytes ≤ 140737488355328) :
  ∃ v' w', (Builtin.append_ #[t, t] ty #[v, .slice (some a) m c]).run P w = .ok v' w' ∧ Row w' e size v' (n + m) (xs ++ news) ∧ w.grownBy w' v.ownBlock ∧
   (v'.ownBlock = v.ownBlock ∨ v'.ownBlock = some w.heap.size) := by
 subst hsize; subst hby; have hsmall : n + m ≤ 9223372036854775807 := by simp only [maxLen] at h63; omega
 have hlen : (xs ++ news).length = (n + m) * i.size := by rw [List.length_append, hown.1, hl, Nat.add_mul]
 have grown : ∀ (old : Nat), old < n + m → ∀ (row : Option Nat),
   Row (w.drew.alloc (.cells (xs.toArray ++ news.toArray ++ Builtin.zeroCells z.cells (grownCap w (n + m) old e - (n + m))) e)) e i.size
    (.slice (some ⟨w.heap.size, 0, none⟩) (n + m) (grownCap w (n + m) old e)) (n + m) (xs ++ news) ∧
   w.grownBy (w.drew.alloc (.cells (xs.toArray ++ news.toArray ++ Builtin.zeroCells z.cells (grownCap w (n + m) old e - (n + m))) e)) row := by
  intro old ho row; have hge := grownCap_ge w (n + m) old e; have hcm : grownCap w (n + m) old e ≤ maxLen := grownCap_le_maxLen w (n + m) old e h63
  refine ⟨⟨hlen, .inr ⟨w.heap.size, _, _, rfl, heap_alloc_new w.drew _, hge, hcm, ?_, ?_⟩⟩, ⟨rfl, rfl, rfl, by simp, fun k hk _ => Below.heap_alloc w.drew _ k hk⟩⟩
  ·simp only [Array.size_append, List.size_toArray, size_zeroCells, hzs, hown.1, hl, ← Nat.add_mul]
   refine Nat.mul_le_mul_right _ ?_; omega
  ·simp only [Array.toList_append, List.append_assoc]
   rw [← List.append_assoc, ← hlen]; exact List.take_left
 rcases hown.2 with ⟨rfl, rfl⟩ | ⟨g, cap, cur, rfl, hg, hnc, hcm, hcs, htake⟩
 ·have hx : xs = [] := List.eq_nil_of_length_eq_zero (by simpa using hown.1)
  subst hx; have hr := run_append_nil (P := P) w t ty e i z ht hi hz a m c news hl hnews (by omega) (by omega) (by have hb := hbytes; simp only [Nat.zero_add] at hb; omega)
  have hgr := grown 0 (by omega) (Value.ownBlock (.slice none 0 0))
  simp only [Nat.zero_add, List.nil_append, Array.empty_append] at hgr ⊢
  exact ⟨_, _, hr, hgr.1, hgr.2, .inr rfl⟩
 ·by_cases hroom : n + m ≤ cap
  ·have hfit : n * i.size + news.length ≤ cur.size := by rw [hl, ← Nat.add_mul]; exact Nat.le_trans (Nat.mul_le_mul_right _ hroom) hcs
   have hr := run_append_room (P := P) w t ty e i ht hi g n cap cur hg a m c news hl hnews h1 hroom hfit; refine ⟨_, _, hr, ⟨hlen, .inr ⟨g, cap, _, rfl, setRow_heap w g cur _ e _ hg, hroom, hcm, ?_, ?_⟩⟩, ⟨rfl, rfl, rfl, by simp, fun k _ hk => setRow_other w g k _ (fun e => hk (by simp [Value.ownBlock, e]))⟩, .inl rfl⟩
   ·simp only [List.size_toArray, List.length_append, List.length_take, List.length_drop, Array.length_toList]
    omega
   ·rw [htake, ← hlen]
    exact List.take_left
  ·have holds : ∀ j u, xs[j]? = some u → w.cell? ((⟨g, 0, none⟩ : Addr).add j) = some u := fun j u hu => by
    have hadd : (⟨g, 0, none⟩ : Addr).add j = ⟨g, j, none⟩ := by unfold Addr.add; split <;> simp_all
    rw [hadd, blk_cell hg, ← Array.getElem?_toList]; rw [← htake, List.getElem?_take] at hu; split at hu
    ·exact hu
    ·cases hu
   have hr := run_append_grow (P := P) w t ty e i z ht hi hz ⟨g, 0, none⟩ n cap xs hown.1 holds a m c news hl hnews (by omega) (by omega) (growslice_fits (by omega) hbytes)
   have hgr := grown cap (by omega) (Value.ownBlock (.slice (some ⟨g, 0, none⟩) n cap))
   exact ⟨_, _, hr, hgr.1, hgr.2, .inr rfl⟩
/-- .. at the operation, for the walk: behind 'at_builtin' -/
theorem wpList_append_row {P : Program} (w : World) {ops : Array Oper} {rest : List Oper} {o : Oper} {a : Act} {Q : Exit → Act → World → Prop} (hgd : o.guard = none) (s x : Operand) (t : TypeId)
  (ho : o.op = .call { callee := .builtin .append, args := #[s, x], argTypes := #[t, t] })
  (e : TypeId) (z : Value) (size bytes : Nat) (ht : P.underlying t = some (.slice e)) (hinfo : (P.info? e).map (fun i => (i.zero, i.size, i.bytes)) = some (some z, size, bytes)) (hzs : z.cells.size = size)
  (v : Value) (n : Nat) (xs : List Value) (hs : a.eval s = v) (hown : Row w e size v n xs)
  (ad : Addr) (m c : Nat) (news : List Value) (hx : a.eval x = .slice (some ad) m c) (hl : news.length = m * size) (hnews : ∀ j u, news[j]? = some u → w.cell? (ad.add j) = some u) (h1 : ∀ u ∈ news, u.oneCell' = true)
  (hm0 : 0 < m) (h63 : n + m ≤ maxLen) (hbytes : (n + m) * bytes ≤ 140737488355328)
  (h : ∀ v' w', Row w' e size v' (n + m) (xs ++ news) → w.grownBy w' v.ownBlock → (v'.ownBlock = v.ownBlock ∨ v'.ownBlock = some w.heap.size) → wpList P ops Q rest (a.put o.dst v') w') : wpList P ops Q (o :: rest) a w := by
 refine wpList_plain hgd fun _ hK => ?_
 obtain ⟨i, hi, hi2⟩ := Option.map_eq_some_iff.mp hinfo; simp only [Prod.mk.injEq] at hi2
 obtain ⟨v', w', hr, h2, h3, h4⟩ := run_append_row (P := P) w t o.type e i z size bytes ht hi hi2.1 hi2.2.1 hi2.2.2 hzs v n xs hown ad m c news hl hnews h1 hm0 h63 hbytes; unfold Oper.wp execOp
 simp only [ho, resolve, invoke, builtin, Sem.run_bind, Sem.run_pure, Result.andThen_ok, List.map_toArray, List.map_cons, List.map_nil, hs, hx, hr]
 exact hK _ _ (h v' w' h2 h3 h4)
/-- append of a whole row onto a row -/
theorem run_append_rows {P : Program} (w : World) (t ty e : TypeId) (z : Value) (size bytes : Nat) (ht : P.underlying t = some (.slice e)) (hinfo : (P.info? e).map (fun i => (i.zero, i.size, i.bytes)) = some (some z, size, bytes)) (hzs : z.cells.size = size)
  (v : Value) (n : Nat) (xs : List Value) (hown : Row w e size v n xs) (vx : Value) (m : Nat) (news : List Value) (hx : Row w e size vx m news) (h1 : ∀ u ∈ news, u.oneCell' = true)
  (h63 : n + m ≤ maxLen) (hbytes : (n + m) * bytes ≤ 140737488355328) :
  ∃ v' w', (Builtin.append_ #[t, t] ty #[v, vx]).run P w = .ok v' w' ∧ Row w' e size v' (n + m) (xs ++ news) ∧ w.grownBy w' v.ownBlock ∧ (v'.ownBlock = v.ownBlock ∨ v'.ownBlock = some w.heap.size) := by
 obtain ⟨i, hi, hi2⟩ := Option.map_eq_some_iff.mp hinfo; simp only [Prod.mk.injEq] at hi2
 obtain ⟨A, c, rfl, hc⟩ := hx.slice; obtain ⟨A0, c0, rfl, hc0⟩ := hown.slice; rcases Nat.eq_zero_or_pos m with rfl | hm
 ·have hn : news = [] := List.eq_nil_of_length_eq_zero (by have := hx.1; simpa using this)
  subst hn; refine ⟨_, w, run_append_nothing w t t ty e i ht hi A0 n c0 hc0 _ (by cases A with | none => exact Src.ofNil w ht c | some a => exact Src.ofSlice w ht a 0 c [] (by simp) (by simp) (by simp)), by simpa using hown, ⟨rfl, rfl, rfl, Nat.le_refl _, fun _ _ _ => rfl⟩, .inl rfl⟩
 ·have hA : ∃ g, A = some ⟨g, 0, none⟩ := by
   rcases hx.2 with ⟨h2, h3⟩ | ⟨g, cap, cur, h2, _⟩
   ·omega
   ·injection h2 with h2 _ _; exact ⟨g, h2⟩
  obtain ⟨g, rfl⟩ := hA; refine run_append_row w t ty e i z size bytes ht hi hi2.1 hi2.2.1 hi2.2.2 hzs _ n xs hown ⟨g, 0, none⟩ m c news hx.1 (fun j u hu => ?_) h1 hm h63 hbytes
  obtain ⟨g', c', hv, hcell, _⟩ := hx.cell hu; injection hv with hv _ _; injection hv with hv; injection hv with hv _ _; subst hv
  have hadd : (⟨g, 0, none⟩ : Addr).add j = ⟨g, j, none⟩ := by unfold Addr.add; split <;> simp_all
  rw [hadd]; exact hcell
theorem wpList_append_rows {P : Program} (w : World) {ops : Array Oper} {rest : List Oper} {o : Oper} {a : Act} {Q : Exit → Act → World → Prop} (hgd : o.guard = none) (s x : Operand) (t : TypeId)
  (ho : o.op = .call { callee := .builtin .append, args := #[s, x], argTypes := #[t, t] })
  (e : TypeId) (z : Value) (size bytes : Nat) (ht : P.underlying t = some (.slice e)) (hinfo : (P.info? e).map (fun i => (i.zero, i.size, i.bytes)) = some (some z, size, bytes)) (hzs : z.cells.size = size)
  (v : Value) (n : Nat) (xs : List Value) (hs : a.eval s = v) (hown : Row w e size v n xs)
  (vx : Value) (m : Nat) (news : List Value) (hx : a.eval x = vx) (hrx : Row w e size vx m news) (h1 : ∀ u ∈ news, u.oneCell' = true)
  (h63 : n + m ≤ maxLen) (hbytes : (n + m) * bytes ≤ 140737488355328)
  (h : ∀ v' w', Row w' e size v' (n + m) (xs ++ news) → w.grownBy w' v.ownBlock → (v'.ownBlock = v.ownBlock ∨ v'.ownBlock = some w.heap.size) → wpList P ops Q rest (a.put o.dst v') w') : wpList P ops Q (o :: rest) a w := by
 refine wpList_plain hgd fun _ hK => ?_
 obtain ⟨v', w', hr, h2, h3, h4⟩ := run_append_rows (P := P) w t o.type e z size bytes ht hinfo hzs v n xs hown vx m news hrx h1 h63 hbytes; unfold Oper.wp execOp
 simp only [ho, resolve, invoke, builtin, Sem.run_bind, Sem.run_pure, Result.andThen_ok, List.map_toArray, List.map_cons, List.map_nil, hs, hx, hr]
 exact hK _ _ (h v' w' h2 h3 h4)
/-- .. at a step of a region that draws -/
theorem step_append_rows {P : Program} {w : World} {ops : Array Oper} {o : Oper} {a : Act} {K : Act → World → Prop} {Q : Exit → Act → World → Prop} {E : Prop} (hgd : o.guard = none) (s x : Operand) (t : TypeId)
  (ho : o.op = .call { callee := .builtin .append, args := #[s, x], argTypes := #[t, t] })
  (e : TypeId) (z : Value) (size bytes : Nat) (ht : P.underlying t = some (.slice e)) (hinfo : (P.info? e).map (fun i => (i.zero, i.size, i.bytes)) = some (some z, size, bytes)) (hzs : z.cells.size = size)
  (v : Value) (n : Nat) (xs : List Value) (hs : a.eval s = v) (hown : Row w e size v n xs)
  (vx : Value) (m : Nat) (news : List Value) (hx : a.eval x = vx) (hrx : Row w e size vx m news) (h1 : ∀ u ∈ news, u.oneCell' = true)
  (h63 : n + m ≤ maxLen) (hbytes : (n + m) * bytes ≤ 140737488355328)
  (h : ∀ v' w', Row w' e size v' (n + m) (xs ++ news) → w.grownBy w' v.ownBlock → (v'.ownBlock = v.ownBlock ∨ v'.ownBlock = some w.heap.size) → K (a.put o.dst v') w') :
  if Region.wanted o (yielded ops a.tmps) = true then Oper.wp P o a w K Q else E := by
 have hw : Region.wanted o (yielded ops a.tmps) = true := by simp [Region.wanted, hgd]
 rw [if_pos hw]; obtain ⟨v', w', hr, h2, h3, h4⟩ := run_append_rows (P := P) w t o.type e z size bytes ht hinfo hzs v n xs hown vx m news hrx h1 h63 hbytes; unfold Oper.wp execOp
 simp only [ho, resolve, invoke, builtin, Sem.run_bind, Sem.run_pure, Result.andThen_ok, List.map_toArray, List.map_cons, List.map_nil, hs, hx, hr]
 exact h v' w' h2 h3 h4
theorem Row.alloc {w : World} {e : TypeId} {size n : Nat} {v : Value} {xs : List Value} (h : Row w e size v n xs) (o : Obj) : Row (w.alloc o) e size v n xs := h.keep fun g hg => Below.heap_alloc w o g (h.lt hg)
theorem Row.drewed {w : World} {e : TypeId} {size n : Nat} {v : Value} {xs : List Value} (h : Row w e size v n xs) : Row w.drew e size v n xs := h
/-- a row that was just laid -/
theorem Row.laid {w : World} {e : TypeId} {size n g : Nat} {cs : Array Value} (hg : w.heap.size = g) (hn : cs.size = n * size) (hm : n ≤ maxLen) : Row (w.alloc (.cells cs e)) e size (.slice (some ⟨g, 0, none⟩) n n) n cs.toList := by
 subst hg; refine ⟨by simpa using hn, .inr ⟨w.heap.size, n, cs, rfl, heap_alloc_new w _, Nat.le_refl _, hm, by omega, ?_⟩⟩
 rw [← hn, ← Array.length_toList]; exact List.take_length
theorem results_tmp4 {fn : Func} {t u v x : Tmp} (h : fn.results = #[.tmp t, .tmp u, .tmp v, .tmp x]) (tmps : Array Value) (P : Program) (w : World) :
  (results fn tmps).run P w = .ok (.tuple #[tmps.getD t undef, tmps.getD u undef, tmps.getD v undef, tmps.getD x undef]) w := by
 simp [results, h]
/-! ### trees -/
inductive Expr where
 | mk (kind num : Int) (name : ByteArray) (op : Int) (args : List Expr)
inductive Stmt where
 | mk (kind : Int) (name : ByteArray) (cell : Int) (args : List Expr) (body els : List Stmt)
instance : Inhabited Expr := ⟨.mk 0 0 ByteArray.empty 0 []⟩
instance : Inhabited Stmt := ⟨.mk 0 ByteArray.empty 0 [] [] []⟩
mutual
def Expr.rd (w : World) : Expr → List Value → Prop
 | .mk k n s o as9, cs => ∃ A c, cs = [.int .i64 k, .int .i64 n, .string s, .int .i64 o, .slice A as9.length c] ∧ as9.length ≤ c ∧ s.size ≤ maxLen ∧ Expr.rds w as9 A 0
def Expr.rds (w : World) : List Expr → Option Addr → Nat → Prop
 | [], _, _ => True
 | e :: l, A, i => (∃ b o cs, A = some ⟨b, o, none⟩ ∧ e.rd w cs ∧ ∀ j u, cs[j]? = some u → w.cell? ⟨b, o + i * 5 + j, none⟩ = some u) ∧ Expr.rds w l A (i + 1)
end
mutual
def Stmt.rd (w : World) : Stmt → List Value → Prop
 | .mk k s c as9 bs es, cs => ∃ A0 c0 A1 c1 A2 c2, cs = [.int .i64 k, .string s, .int .i64 c, .slice A0 as9.length c0, .slice A1 bs.length c1, .slice A2 es.length c2] ∧ as9.length ≤ c0 ∧ bs.length ≤ c1 ∧ es.length ≤ c2 ∧ s.size ≤ maxLen ∧
   Expr.rds w as9 A0 0 ∧ Stmt.rds w bs A1 0 ∧ Stmt.rds w es A2 0
def Stmt.rds (w : World) : List Stmt → Option Addr → Nat → Prop
 | [], _, _ => True
 | s :: l, A, i => (∃ b o cs, A = some ⟨b, o, none⟩ ∧ s.rd w cs ∧ ∀ j u, cs[j]? = some u → w.cell? ⟨b, o + i * 6 + j, none⟩ = some u) ∧ Stmt.rds w l A (i + 1)
end
theorem Expr.rds_get {w : World} : ∀ {l : List Expr} {A : Option Addr} {i : Nat}, Expr.rds w l A i → ∀ j (hj : j < l.length), ∃ b o cs, A = some ⟨b, o, none⟩ ∧ (l[j]).rd w cs ∧ ∀ m u, cs[m]? = some u → w.cell? ⟨b, o + (i + j) * 5 + m, none⟩ = some u
 | [], _, _, _, j, hj => absurd hj (Nat.not_lt_zero _)
 | e :: l, A, i, h, 0, _ => by simp only [Expr.rds] at h; exact h.1
 | e :: l, A, i, h, j + 1, hj => by
  simp only [Expr.rds] at h
  obtain ⟨b, o, cs, h1, h2, h3⟩ := Expr.rds_get h.2 j (by simpa using hj)
  exact ⟨b, o, cs, h1, h2, by rw [show i + (j + 1) = i + 1 + j by omega]; exact h3⟩
theorem Stmt.rds_get {w : World} : ∀ {l : List Stmt} {A : Option Addr} {i : Nat}, Stmt.rds w l A i → ∀ j (hj : j < l.length), ∃ b o cs, A = some ⟨b, o, none⟩ ∧ (l[j]).rd w cs ∧ ∀ m u, cs[m]? = some u → w.cell? ⟨b, o + (i + j) * 6 + m, none⟩ = some u
 | [], _, _, _, j, hj => absurd hj (Nat.not_lt_zero _)
 | e :: l, A, i, h, 0, _ => by simp only [Stmt.rds] at h; exact h.1
 | e :: l, A, i, h, j + 1, hj => by
  simp only [Stmt.rds] at h
  obtain ⟨b, o, cs, h1, h2, h3⟩ := Stmt.rds_get h.2 j (by simpa using hj)
  exact ⟨b, o, cs, h1, h2, by rw [show i + (j + 1) = i + 1 + j by omega]; exact h3⟩
def Expr.kind : Expr → Int | .mk k _ _ _ _ => k
def Expr.num : Expr → Int | .mk _ n _ _ _ => n
def Expr.name : Expr → ByteArray | .mk _ _ s _ _ => s
def Expr.op : Expr → Int | .mk _ _ _ o _ => o
def Expr.args : Expr → List Expr | .mk _ _ _ _ l => l
def Stmt.kind : Stmt → Int | .mk k _ _ _ _ _ => k
def Stmt.name : Stmt → ByteArray | .mk _ s _ _ _ _ => s
def Stmt.cell : Stmt → Int | .mk _ _ c _ _ _ => c
def Stmt.args : Stmt → List Expr | .mk _ _ _ l _ _ => l
def Stmt.body : Stmt → List Stmt | .mk _ _ _ _ l _ => l
def Stmt.els : Stmt → List Stmt | .mk _ _ _ _ _ l => l
mutual
def Expr.nodes : Expr → Nat | .mk _ _ _ _ as9 => 1 + Expr.nodesL as9
def Expr.nodesL : List Expr → Nat | [] => 0 | e :: l => e.nodes + Expr.nodesL l
end
mutual
def Stmt.nodes : Stmt → Nat | .mk _ _ _ as9 bs es => 1 + Expr.nodesL as9 + Stmt.nodesL bs + Stmt.nodesL es
def Stmt.nodesL : List Stmt → Nat | [] => 0 | s :: l => s.nodes + Stmt.nodesL l
end
theorem Expr.nodes_eq (e : Expr) : e.nodes = 1 + Expr.nodesL e.args := by cases e; rfl
theorem Stmt.nodes_eq (s : Stmt) : s.nodes = 1 + Expr.nodesL s.args + Stmt.nodesL s.body + Stmt.nodesL s.els := by cases s; rfl
theorem Expr.nodesL_len : ∀ l : List Expr, l.length ≤ Expr.nodesL l
 | [] => Nat.le_refl _
 | e :: l => by have := Expr.nodesL_len l; have := e.nodes_eq; simp only [List.length_cons, Expr.nodesL]; omega
theorem Stmt.nodesL_len : ∀ l : List Stmt, l.length ≤ Stmt.nodesL l
 | [] => Nat.le_refl _
 | e :: l => by have := Stmt.nodesL_len l; have := e.nodes_eq; simp only [List.length_cons, Stmt.nodesL]; omega
theorem Expr.nodesL_take : ∀ (l : List Expr) (k : Nat) (h : k < l.length), Expr.nodesL (l.take k) + (l[k]).nodes ≤ Expr.nodesL l
 | e :: l, 0, _ => by simp [Expr.nodesL]
 | e :: l, k + 1, h => by have := Expr.nodesL_take l k (by simpa using h); simp only [List.take_succ_cons, Expr.nodesL, List.getElem_cons_succ]; omega
theorem Stmt.nodesL_take : ∀ (l : List Stmt) (k : Nat) (h : k < l.length), Stmt.nodesL (l.take k) + (l[k]).nodes ≤ Stmt.nodesL l
 | e :: l, 0, _ => by simp [Stmt.nodesL]
 | e :: l, k + 1, h => by have := Stmt.nodesL_take l k (by simpa using h); simp only [List.take_succ_cons, Stmt.nodesL, List.getElem_cons_succ]; omega
/-- element j of a row of expressions that was there in W, in a later world -/
theorem Expr.at {W w : World} {l : List Expr} {A : Option Addr} (h : Expr.rds W l A 0) (hB : Below W.heap.size W w) {j : Nat} (hj : j < l.length) : ∃ b o A' c', A = some ⟨b, o, none⟩ ∧ b < W.heap.size ∧
  w.cell? ⟨b, o + j * 5, none⟩ = some (.int .i64 l[j].kind) ∧ w.cell? ⟨b, o + j * 5 + 1, none⟩ = some (.int .i64 l[j].num) ∧ w.cell? ⟨b, o + j * 5 + 2, none⟩ = some (.string l[j].name) ∧ w.cell? ⟨b, o + j * 5 + 3, none⟩ = some (.int .i64 l[j].op) ∧
  w.cell? ⟨b, o + j * 5 + 4, none⟩ = some (.slice A' l[j].args.length c') ∧ l[j].args.length ≤ c' ∧ l[j].name.size ≤ maxLen ∧ Expr.rds W l[j].args A' 0 := by
 obtain ⟨b, o, cs, h1, h2, h3⟩ := Expr.rds_get h j hj; obtain ⟨k, n, s, p, as9, he⟩ : ∃ k n s p as9, l[j] = Expr.mk k n s p as9 := by cases l[j]; exact ⟨_, _, _, _, _, rfl⟩
 rw [he] at h2 ⊢; simp only [Expr.rd] at h2
 obtain ⟨A', c', rfl, h4, h6, h5⟩ := h2; rw [Nat.zero_add] at h3; have hc : ∀ m u, ([.int .i64 k, .int .i64 n, .string s, .int .i64 p, .slice A' as9.length c'] : List Value)[m]? = some u → w.cell? ⟨b, o + j * 5 + m, none⟩ = some u := fun m u hu => (hB.cell (World.block_lt_of_cell? W _ (h3 m u hu))).trans (h3 m u hu)
 exact ⟨b, o, A', c', h1, World.block_lt_of_cell? W _ (h3 0 _ rfl), hc 0 _ rfl, hc 1 _ rfl, hc 2 _ rfl, hc 3 _ rfl, hc 4 _ rfl, h4, h6, h5⟩
theorem Stmt.at {W w : World} {l : List Stmt} {A : Option Addr} (h : Stmt.rds W l A 0) (hB : Below W.heap.size W w) {j : Nat} (hj : j < l.length) : ∃ b o A0 c0 A1 c1 A2 c2, A = some ⟨b, o, none⟩ ∧ b < W.heap.size ∧
  w.cell? ⟨b, o + j * 6, none⟩ = some (.int .i64 l[j].kind) ∧ w.cell? ⟨b, o + j * 6 + 1, none⟩ = some (.string l[j].name) ∧ w.cell? ⟨b, o + j * 6 + 2, none⟩ = some (.int .i64 l[j].cell) ∧ w.cell? ⟨b, o + j * 6 + 3, none⟩ = some (.slice A0 l[j].args.length c0) ∧
  w.cell? ⟨b, o + j * 6 + 4, none⟩ = some (.slice A1 l[j].body.length c1) ∧ w.cell? ⟨b, o + j * 6 + 5, none⟩ = some (.slice A2 l[j].els.length c2) ∧
  l[j].args.length ≤ c0 ∧ l[j].body.length ≤ c1 ∧ l[j].els.length ≤ c2 ∧ l[j].name.size ≤ maxLen ∧ Expr.rds W l[j].args A0 0 ∧ Stmt.rds W l[j].body A1 0 ∧ Stmt.rds W l[j].els A2 0 := by
 obtain ⟨b, o, cs, h1, h2, h3⟩ := Stmt.rds_get h j hj; obtain ⟨k, s, c, as9, bs, es, he⟩ : ∃ k s c as9 bs es, l[j] = Stmt.mk k s c as9 bs es := by cases l[j]; exact ⟨_, _, _, _, _, _, rfl⟩
 rw [he] at h2 ⊢; simp only [Stmt.rd] at h2
 obtain ⟨A0, c0, A1, c1, A2, c2, rfl, h4, h5, h6, hs, h7, h8, h9⟩ := h2; rw [Nat.zero_add] at h3; have hc : ∀ m u, ([.int .i64 k, .string s, .int .i64 c, .slice A0 as9.length c0, .slice A1 bs.length c1, .slice A2 es.length c2] : List Value)[m]? = some u → w.cell? ⟨b, o + j * 6 + m, none⟩ = some u := fun m u hu => (hB.cell (World.block_lt_of_cell? W _ (h3 m u hu))).trans (h3 m u hu)
 exact ⟨b, o, A0, c0, A1, c1, A2, c2, h1, World.block_lt_of_cell? W _ (h3 0 _ rfl), hc 0 _ rfl, hc 1 _ rfl, hc 2 _ rfl, hc 3 _ rfl, hc 4 _ rfl, hc 5 _ rfl, h4, h5, h6, hs, h7, h8, h9⟩
end Go.Proofs.Ytjlnpppjkdcpkaa.My
