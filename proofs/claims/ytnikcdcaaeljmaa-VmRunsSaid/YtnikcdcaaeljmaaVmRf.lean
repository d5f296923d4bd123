/- The document's machine: a sum that goes round, an end, a register set. Conditions: numbers of 64 bits; the registers' row lies in memory. -/
import Derived.Test.YtnikcdcaaeljmaaVmR
import Derived.Test.YtnikcdcaaeljmaaVmS
import Derived.Test.YtnikcdcaaeljmaaNumRef
namespace Go.Proofs.Ytnikcdcaaeljmaa.My
open Go.RowKit Go.Proofs.Ytnikcdcaaeljmaa.NumA
set_option linter.unusedVariables false
set_option linter.unusedSimpArgs false
def b64 (a : Int) : Prop := -9223372036854775808 ≤ a ∧ a ≤ 9223372036854775807
theorem row_free {w : World} {t : TypeId} {z g n c : Nat} {xs : List Value} (h : Row w t z (.slice (some ⟨g, 0, none⟩) n c) n xs) (j : Nat) : w.frozen? ⟨g, j, none⟩ = false := by
  rcases h.2 with ⟨h2, _⟩ | ⟨g', cap, cur, h2, hg, _⟩
  · cases h2
  · injection h2 with h2 _ _; injection h2 with h2; injection h2 with h2 _ _; subst h2; exact blk_free hg j
theorem plus_calls (a b : Int) (ha : b64 a) (hb : b64 b) (w : World) : Calls Try.prog 26 #[.int .i64 a, .int .i64 b] w fun e w' => e = .returned (.int .i64 (wrap64 (a + b))) ∧ Below w.heap.size w w' := by
  go_enter Try.func26, Try.ntmps26
  go_wp2_with fail
  refine (refTwo_calls 1 a b ha.1 ha.2 hb.1 hb.2 w).mono ?_
  rintro y w1 ⟨rfl, hb1⟩
  rw [show two 1 a b = (wrap64 (a + b), true) from rfl]
  go_wp2
  go_ret
  exact ⟨rfl, hb1⟩
set_option maxRecDepth 100000 in
set_option maxHeartbeats 1000000 in
theorem over_calls (A : Option Addr) (n c : Nat) (words fuel : Int) (R : Option Addr) (cr : Nat) (at0 steps ov va how v : Int) (w : World) : Calls Try.prog 32 #[.agg #[.slice A n c, .int .i64 words, .int .i64 fuel, .slice R 16 cr, .int .i64 at0, .int .i64 steps, .int .i64 ov, .int .i64 va], .int .i64 how, .int .i64 v] w fun e w' => e = .returned (.agg #[.slice A n c, .int .i64 words, .int .i64 fuel, .slice R 16 cr, .int .i64 at0, .int .i64 steps, .int .i64 how, .int .i64 v]) ∧ Below w.heap.size w w' := by
  go_enter Try.func32, Try.ntmps32
  go_wp2
  have hx := blk_new (w.alloc (.cells #[.slice A n c, .int .i64 words, .int .i64 fuel, .slice R 16 cr, .int .i64 at0, .int .i64 steps, .int .i64 how, .int .i64 v] 29)) (.cells #[.slice A n c, .int .i64 words, .int .i64 fuel, .slice R 16 cr, .int .i64 at0, .int .i64 steps, .int .i64 how, .int .i64 v] 29)
  rw [size_al] at hx
  exact bodyPost_ret (results_cell rfl _ _ (w.heap.size + 1) [.slice A n c, .int .i64 words, .int .i64 fuel, .slice R 16 cr, .int .i64 at0, .int .i64 steps, .int .i64 how, .int .i64 v] rfl (range_at hx 0 _ rfl) Try.underlying29 rfl (by kernel_rfl)) rfl ⟨rfl, ((Below.refl w.heap.size w).al).al⟩
set_option maxRecDepth 100000 in
set_option maxHeartbeats 8000000 in
theorem set_ref_calls (A : Option Addr) (n c : Nat) (words fuel : Int) (R : Option Addr) (cr : Nat) (at0 steps ov va : Int) (rg : List Int) (hr : rg.length = 16) (r : Nat) (h16 : r < 16) (h0 : 0 ≤ at0) (h1 : at0 ≤ 100000) (v : Int) (w : World) (hrow : Row w 2 1 (.slice R 16 cr) 16 (nums rg)) :
    Calls Try.prog 33 #[.agg #[.slice A n c, .int .i64 words, .int .i64 fuel, .slice R 16 cr, .int .i64 at0, .int .i64 steps, .int .i64 ov, .int .i64 va], .int .i64 (r : Int), .int .i64 v] w fun e w' => ∃ R' cr', e = .returned (.agg #[.slice A n c, .int .i64 words, .int .i64 fuel, .slice R' 16 cr', .int .i64 (at0 + 1), .int .i64 steps, .int .i64 ov, .int .i64 va]) ∧ Row w' 2 1 (.slice R' 16 cr') 16 (nums (rg.set r v)) ∧ Below w.heap.size w w' ∧ ∀ q, (Value.slice R' 16 cr').ownBlock = some q → w.heap.size ≤ q := by
  have hz1 : (w.alloc (.cells #[.slice A n c, .int .i64 words, .int .i64 fuel, .slice R 16 cr, .int .i64 at0, .int .i64 steps, .int .i64 ov, .int .i64 va] 29)).heap.size = w.heap.size + 1 := size_al _ _
  have hz2 : ((w.alloc (.cells #[.slice A n c, .int .i64 words, .int .i64 fuel, .slice R 16 cr, .int .i64 at0, .int .i64 steps, .int .i64 ov, .int .i64 va] 29)).alloc (.cells #[.slice none 0 0, .int .i64 0, .int .i64 0, .slice none 0 0, .int .i64 0, .int .i64 0, .int .i64 0, .int .i64 0] 29)).heap.size = w.heap.size + 1 + 1 := by rw [size_al, hz1]
  have hx0 := blk_alloc (blk_alloc (blk_new w (.cells #[.slice A n c, .int .i64 words, .int .i64 fuel, .slice R 16 cr, .int .i64 at0, .int .i64 steps, .int .i64 ov, .int .i64 va] 29)) (.cells #[.slice none 0 0, .int .i64 0, .int .i64 0, .slice none 0 0, .int .i64 0, .int .i64 0, .int .i64 0, .int .i64 0] 29)) (.cells #[] 2)
  have hx1 := blk_alloc (blk_new (w.alloc (.cells #[.slice A n c, .int .i64 words, .int .i64 fuel, .slice R 16 cr, .int .i64 at0, .int .i64 steps, .int .i64 ov, .int .i64 va] 29)) (.cells #[.slice none 0 0, .int .i64 0, .int .i64 0, .slice none 0 0, .int .i64 0, .int .i64 0, .int .i64 0, .int .i64 0] 29)) (.cells #[] 2)
  have hx2 := blk_new ((w.alloc (.cells #[.slice A n c, .int .i64 words, .int .i64 fuel, .slice R 16 cr, .int .i64 at0, .int .i64 steps, .int .i64 ov, .int .i64 va] 29)).alloc (.cells #[.slice none 0 0, .int .i64 0, .int .i64 0, .slice none 0 0, .int .i64 0, .int .i64 0, .int .i64 0, .int .i64 0] 29)) (.cells #[] 2)
  have hb : Below w.heap.size w (((w.alloc (.cells #[.slice A n c, .int .i64 words, .int .i64 fuel, .slice R 16 cr, .int .i64 at0, .int .i64 steps, .int .i64 ov, .int .i64 va] 29)).alloc (.cells #[.slice none 0 0, .int .i64 0, .int .i64 0, .slice none 0 0, .int .i64 0, .int .i64 0, .int .i64 0, .int .i64 0] 29)).alloc (.cells #[] 2)) := (((Below.refl w.heap.size w).al).al).al
  rw [hz1] at hx1
  rw [hz2] at hx2
  have hrE : Row (((w.alloc (.cells #[.slice A n c, .int .i64 words, .int .i64 fuel, .slice R 16 cr, .int .i64 at0, .int .i64 steps, .int .i64 ov, .int .i64 va] 29)).alloc (.cells #[.slice none 0 0, .int .i64 0, .int .i64 0, .slice none 0 0, .int .i64 0, .int .i64 0, .int .i64 0, .int .i64 0] 29)).alloc (.cells #[] 2)) 2 1 (.slice (some ⟨w.heap.size + 1 + 1, 0, none⟩) 0 0) 0 [] := ⟨rfl, .inr ⟨_, 0, #[], rfl, hx2, Nat.le_refl _, Nat.zero_le _, by simp, rfl⟩⟩
  have hrR := hrow.below hb
  have HXA := Lib.hid hx0
  have HXB := Lib.hid hx1
  have HRE := Lib.hid hrE
  have HRR := Lib.hid hrR
  have HB := Lib.hid hb
  have h63 : (16 : Nat) ≤ maxLen := by unfold maxLen; omega
  have hone : ∀ u ∈ nums rg, u.oneCell' = true := fun u hu => by obtain ⟨x, _, rfl⟩ := List.mem_map.1 hu; rfl
  have hrv : (nums rg)[r]? = some (.int .i64 (rg.getD r 0)) := nums_get (by omega)
  clear hx0 hx1 hx2 hb hz1 hz2 hrE hrR hrow
  go_enter Try.func33, Try.ntmps33
  go_wp2_with (first | (have tk := HTA; clear tk; refine wpList_store_mid (by rfl) 29 _ _ (by rfl) (w.heap.size + 1) 0 #[.slice A n c, .int .i64 words, .int .i64 fuel, .slice (some ⟨g, 0, none⟩) 16 c', .int .i64 (at0 + 1), .int .i64 steps, .int .i64 ov, .int .i64 va] (by rfl) (by rfl) HTA.out (by kernel_rfl) (by simp [Value.oneCell']) ?_) | (refine wpList_append_rows _ (by rfl) _ _ 25 (by rfl) 2 (.int .i64 0) 1 8 Try.underlying25 info_i64 rfl _ 0 [] (by rfl) HRE.out _ 16 (nums rg) (by rfl) HRR.out hone (by simpa using h63) (by omega) ?_; intro v' w' hr' hg' hn'; rw [List.nil_append] at hr'; obtain ⟨g, e1, x1⟩ : ∃ g, (∃ c', v' = .slice (some ⟨g, 0, none⟩) 16 c') ∧ w'.cell? ⟨g, r, none⟩ = some (.int .i64 (rg.getD r 0)) := (by obtain ⟨g, c', h1, h2, _⟩ := hr'.cell hrv; exact ⟨g, ⟨c', h1⟩, h2⟩); obtain ⟨c', rfl⟩ := e1; have hx0 := grown_blk hg' HXA.out (by simp [Value.ownBlock] <;> omega); have hx1 := grown_blk hg' HXB.out (by simp [Value.ownBlock] <;> omega); have ff := blk_free hx0; have fg := row_free hr' r; have hne0 : g ≠ w.heap.size := fun e => hr'.ne hx0 (by decide) (by rw [e]; rfl); have hne1 : g ≠ w.heap.size + 1 := fun e => hr'.ne hx1 (by decide) (by rw [e]; rfl); have hne0' := hne0.symm; have f0 := blk_cell hx0 0; have f1 := blk_cell hx0 1; have f2 := blk_cell hx0 2; have f3 := blk_cell hx0 3; have f4 := blk_cell hx0 4; have f5 := blk_cell hx0 5; have f6 := blk_cell hx0 6; have f7 := blk_cell hx0 7; have HG := Lib.hid hg'; have HR' := Lib.hid hr'; have HY0 := Lib.hid hx0; have HY1 := Lib.hid hx1; have HO := Lib.hid hn'; have hkk : Keep (fun q => q = w.heap.size ∨ q = g) w' (((w'.setCell ⟨w.heap.size, 3, none⟩ (.slice (some ⟨g, 0, none⟩) 16 c')).setCell ⟨g, r, none⟩ (.int .i64 v)).setCell ⟨w.heap.size, 4, none⟩ (.int .i64 (at0 + 1))) := Keep.set (O := fun q => q = w.heap.size ∨ q = g) (Keep.set (O := fun q => q = w.heap.size ∨ q = g) (Keep.set (O := fun q => q = w.heap.size ∨ q = g) (Keep.refl _ w') (p := ⟨w.heap.size, 3, none⟩) (.inl (.inl rfl)) _) (p := ⟨g, r, none⟩) (.inl (.inr rfl)) _) (p := ⟨w.heap.size, 4, none⟩) (.inl (.inl rfl)) _; have HTA := Lib.hid (there_at (hkk.blk hx1 (by rintro (h | h) <;> omega)) 0 8 (by decide)); have HKK := Lib.hid hkk; clear hg' hr' hx0 hx1 hn' hkk))
  refine bodyPost_ret (results_cell rfl _ _ (w.heap.size + 1) [.slice A n c, .int .i64 words, .int .i64 fuel, .slice (some ⟨g, 0, none⟩) 16 c', .int .i64 (at0 + 1), .int .i64 steps, .int .i64 ov, .int .i64 va] rfl (World.rangeAt_setCells_same _ _ 0 _ HTA.out) Try.underlying29 rfl (by kernel_rfl)) rfl ?_
  have own : ∀ q, (Value.slice (some ⟨g, 0, none⟩) 16 c').ownBlock = some q → q = g := fun q hq => (Option.some.inj hq).symm
  have hgs : w.heap.size ≤ g := by
    rcases HO.out with h | h
    · have h2 : g = w.heap.size + 1 + 1 := Option.some.inj h
      omega
    · have h2 : g = _ := Option.some.inj h
      rw [h2]; exact HB.out.size
  refine ⟨some ⟨g, 0, none⟩, c', rfl, ?_, ?_, fun q hq => by rw [own q hq]; exact hgs⟩
  · have q0 : Row (w'.setCell ⟨w.heap.size, 3, none⟩ (.slice (some ⟨g, 0, none⟩) 16 c')) 2 1 (.slice (some ⟨g, 0, none⟩) 16 c') 16 (nums rg) := HR'.out.keep fun q hq => Below.heap_setCell _ _ _ _ (by rw [own q hq]; exact hne0)
    have q1 := q0.put r (.int .i64 v)
    rw [show (nums rg).set r (.int .i64 v) = nums (rg.set r v) by simp [nums, List.map_set]] at q1
    have q2 : Row ((w'.setCell ⟨w.heap.size, 3, none⟩ (.slice (some ⟨g, 0, none⟩) 16 c')).setCell ⟨g, r, none⟩ (.int .i64 v) |>.setCell ⟨w.heap.size, 4, none⟩ (.int .i64 (at0 + 1))) 2 1 (.slice (some ⟨g, 0, none⟩) 16 c') 16 (nums (rg.set r v)) := q1.keep fun q hq => Below.heap_setCell _ _ _ _ (by rw [own q hq]; exact hne0)
    exact q2.keep fun q hq => heap_sets (by rw [own q hq]; exact hne1) _ 0
  · have b1 : Below w.heap.size w w' := (Keep.grown (O := fun q => w.heap.size ≤ q) (Keep.below (Keep.refl _ w) HB.out) HG.out (fun k hk => .inr (by have h2 : w.heap.size + 1 + 1 = k := Option.some.inj hk; omega))).toBelow (Nat.le_refl _) (fun k h => h)
    exact below_sets (Nat.le_succ _) _ 0 (b1.trans (HKK.out.toBelow b1.size (by rintro k (h | h) <;> omega)))
end Go.Proofs.Ytnikcdcaaeljmaa.My
