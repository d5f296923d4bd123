/- What is made of a text may be; plain Lean, no program in sight. -/
import Derived.Test.YtjlnpppjkdcpkaaGfGnI
import Derived.Test.YtjlnpppjkdcpkaaGfInsS
namespace Go.Proofs.Ytjlnpppjkdcpkaa.My
open Go.RowKit
set_option linter.unusedVariables false
set_option linter.unusedSimpArgs false
theorem regOf_inF {names : List ByteArray} {x : ByteArray} {r : Int} (h : regOf names x = some r) : 0 ≤ r ∧ r < 3 + (names.length : Int) := by
  unfold regOf at h
  split at h
  · cases h; omega
  · split at h
    · cases h; omega
    · split at h
      · cases h; omega
      · obtain ⟨j, hj, rfl⟩ := Option.map_eq_some_iff.1 h
        have := idx_lt hj
        omega
def InRF (l : List Int) : Prop := ∀ x ∈ l, 0 ≤ x ∧ x < 11
def GrowF (S R : Sc) : Prop := S.out <+: R.out ∧ (S.names.length ≤ 8 → R.names.length ≤ 8 ∧ (InRF S.out → InRF R.out))
theorem GrowF.refl (S : Sc) : GrowF S S := ⟨List.prefix_refl _, fun h => ⟨h, id⟩⟩
theorem GrowF.trans {S R T : Sc} (h : GrowF S R) (k : GrowF R T) : GrowF S T :=
  ⟨h.1.trans k.1, fun h8 => ⟨(k.2 (h.2 h8).1).1, fun hi => (k.2 (h.2 h8).1).2 ((h.2 h8).2 hi)⟩⟩
theorem GrowF.cut {S R : Sc} (h : GrowF S R) (n : Nat) : GrowF S { R with names := R.names.take n } :=
  ⟨h.1, fun h8 => ⟨by have := (h.2 h8).1; simp; omega, (h.2 h8).2⟩⟩
theorem look_growF (S : Sc) (x : ByteArray) : GrowF S (look S x).2 := by
  unfold look
  split
  · exact GrowF.refl S
  · rename_i r hr
    refine ⟨List.prefix_append _ _, fun h8 => ⟨h8, fun hi y hy => ?_⟩⟩
    simp only [List.mem_append, List.mem_singleton] at hy
    rcases hy with hy | rfl
    · exact hi y hy
    · have := regOf_inF hr; omega
theorem declare_growF (S : Sc) (x : ByteArray) : GrowF S (declare S x).2 := by
  unfold declare
  split
  · exact GrowF.refl S
  · split
    · exact GrowF.refl S
    · have h := look_growF { S with names := S.names ++ [x], most := if S.most < (S.names.length : Int) + 1 then (S.names.length : Int) + 1 else S.most } x
      refine ⟨h.1, fun h8 => h.2 ?_⟩
      simp; omega
mutual
theorem exprS_growF (S : Sc) : ∀ e : Expr, GrowF S (exprS S e).2
  | .mk k n s o xs => by
    rw [exprS]
    split
    · exact look_growF S s
    · exact exprsS_growF S xs
theorem exprsS_growF (S : Sc) : ∀ l : List Expr, GrowF S (exprsS S l).2
  | [] => by rw [exprsS]; exact GrowF.refl S
  | e :: l => by
    rw [exprsS]
    have h := exprS_growF S e
    split
    · exact h.trans (exprsS_growF (exprS S e).2 l)
    · exact h
end
theorem kindS_growF (S : Sc) (k : Int) (s : ByteArray) (c : Int) : GrowF S (kindS S k s c).2 := by
  unfold kindS
  split
  · exact declare_growF S s
  · split
    · exact look_growF S s
    · split <;> exact GrowF.refl S
mutual
theorem stmtS_growF (S : Sc) : ∀ s : Stmt, GrowF S (stmtS S s).2
  | .mk k s c xs bs es => by
    rw [stmtS]
    have h1 := exprsS_growF S xs
    have h2 := kindS_growF (exprsS S xs).2 k s c
    have h3 := blockS_growF (kindS (exprsS S xs).2 k s c).2 bs
    have h4 := blockS_growF (blockS (kindS (exprsS S xs).2 k s c).2 bs).2 es
    split
    · dsimp only
      split
      · split
        · exact ((h1.trans h2).trans h3).trans h4
        · exact (h1.trans h2).trans h3
      · exact h1.trans h2
    · exact h1
theorem blockS_growF (S : Sc) (l : List Stmt) : GrowF S (blockS S l).2 := by
  rw [blockS]
  exact (stmtsS_growF S l).cut _
theorem stmtsS_growF (S : Sc) : ∀ l : List Stmt, GrowF S (stmtsS S l).2
  | [] => by rw [stmtsS]; exact GrowF.refl S
  | e :: l => by
    rw [stmtsS]
    have h := stmtS_growF S e
    split
    · exact h.trans (stmtsS_growF (stmtS S e).2 l)
    · exact h
end
theorem slotsP_inF (l : List Stmt) (cells : Int) : InRF (slotsP l cells).1 := by
  unfold slotsP
  split
  · exact ((stmtsS_growF ⟨[], [], 0, cells⟩ l).2 (by simp)).2 (fun x hx => by simp at hx)
  · intro x hx; simp at hx

/-- registers -/
def InA (l : List Int) : Prop := ∀ x ∈ l, 0 ≤ x ∧ x ≤ 15
theorem InA.get {l : List Int} (h : InA l) (i : Nat) : 0 ≤ l.getD i 0 ∧ l.getD i 0 ≤ 15 := by
  rw [List.getD_eq_getElem?_getD]
  cases he : l[i]? with
  | none => simp
  | some x => exact h x (List.mem_of_getElem? he)
theorem InA.drop {l : List Int} (h : InA l) (n : Nat) : InA (l.drop n) := fun x hx => h x (List.mem_of_mem_drop hx)
/-- an instruction that may be, wherever its target lies within the text -/
def shp (L : Int) (x : Ins) : Prop := ∀ n N : Int, (if 10 ≤ x.kind ∧ x.kind ≤ 12 then 0 ≤ n ∧ n < N else n = x.n) → insErr x.kind x.op x.a x.b x.c n L N = 0
def Shps (L : Int) (l : List Ins) : Prop := ∀ x ∈ l, shp L x
theorem Shps.nil (L : Int) : Shps L [] := fun x hx => by simp at hx
theorem Shps.app {L : Int} {l m : List Ins} (h : Shps L l) (k : Shps L m) : Shps L (l ++ m) := fun x hx => by
  rcases List.mem_append.1 hx with hx | hx
  · exact h x hx
  · exact k x hx
theorem Shps.cons {L : Int} {x : Ins} {l : List Ins} (hx : shp L x) (h : Shps L l) : Shps L (x :: l) := fun y hy => by
  rcases List.mem_cons.1 hy with rfl | hy
  · exact hx
  · exact h y hy
theorem Shps.moved {L : Int} {l : List Ins} (h : Shps L l) (d : Nat) : Shps L (l.map (mv d)) := fun x hx => by
  obtain ⟨y, hy, rfl⟩ := List.mem_map.1 hx
  have := h y hy
  by_cases hk : 10 ≤ y.kind ∧ y.kind ≤ 12
  · intro n N hn
    rw [mv_kind, if_pos hk] at hn
    have h2 := this n N (by rw [if_pos hk]; exact hn)
    simp only [mv, if_pos hk]
    exact h2
  · rw [mv_far hk]; exact this
section
variable {L a b c o n : Int}
theorem shp_1 : shp L ⟨1, 0, 0, 0, 0, 0⟩ := fun n N h => by
  simp at h; subst h
  simp [insErr, e1]
theorem shp_2 (h1 : 0 ≤ a) (h2 : a ≤ 15) : shp L ⟨2, 0, a, 0, 0, n⟩ := fun n N h => by
  simp [insErr, e2, show ¬ a < 0 by omega, show ¬ 15 < a by omega]
theorem shp_3 (h1 : 0 ≤ a) (h2 : a ≤ 15) (h3 : 0 ≤ b) (h4 : b ≤ 15) : shp L ⟨3, 0, a, b, 0, 0⟩ := fun n N h => by
  simp at h; subst h
  simp [insErr, e3, show ¬ a < 0 by omega, show ¬ 15 < a by omega, show ¬ b < 0 by omega, show ¬ 15 < b by omega]
theorem shp_4 (h1 : 0 ≤ a) (h2 : a ≤ 15) (h3 : 0 ≤ b) (h4 : b ≤ 15) (h5 : 19 ≤ o) (h6 : o ≤ 21) : shp L ⟨4, o, a, b, 0, 0⟩ := fun n N h => by
  simp at h; subst h
  simp [insErr, e4, show ¬ a < 0 by omega, show ¬ 15 < a by omega, show ¬ b < 0 by omega, show ¬ 15 < b by omega, show ¬ o < 19 by omega, show ¬ 21 < o by omega]
theorem shp_5 (h1 : 0 ≤ a) (h2 : a ≤ 15) (h3 : 0 ≤ b) (h4 : b ≤ 15) (h7 : 0 ≤ c) (h8 : c ≤ 15) (h5 : 1 ≤ o) (h6 : o ≤ 18) : shp L ⟨5, o, a, b, c, 0⟩ := fun n N h => by
  simp at h; subst h
  simp [insErr, e5, show ¬ a < 0 by omega, show ¬ 15 < a by omega, show ¬ b < 0 by omega, show ¬ 15 < b by omega, show ¬ c < 0 by omega, show ¬ 15 < c by omega, show ¬ o < 1 by omega, show ¬ 18 < o by omega]
theorem shp_6 (h1 : 0 ≤ a) (h2 : a ≤ 15) (h3 : 0 ≤ b) (h4 : b ≤ 15) : shp L ⟨6, 0, a, b, 0, 0⟩ := fun n N h => by
  simp [insErr, e6, show ¬ a < 0 by omega, show ¬ 15 < a by omega, show ¬ b < 0 by omega, show ¬ 15 < b by omega]
theorem shp_7 (h1 : 0 ≤ a) (h2 : a ≤ 15) (h3 : 0 ≤ b) (h4 : b ≤ 15) : shp L ⟨7, 0, a, b, 0, 0⟩ := fun n N h => by
  simp [insErr, e7, show ¬ a < 0 by omega, show ¬ 15 < a by omega, show ¬ b < 0 by omega, show ¬ 15 < b by omega]
theorem shp_8 (h1 : 0 ≤ a) (h2 : a ≤ 15) (h3 : 0 ≤ c) (h4 : c < 4) (h5 : c < L) : shp L ⟨8, 0, a, 0, c, 0⟩ := fun n N h => by
  simp at h; subst h
  simp [insErr, e8, show ¬ a < 0 by omega, show ¬ 15 < a by omega, show ¬ c < 0 by omega, show ¬ 4 ≤ c by omega, show ¬ L ≤ c by omega]
theorem shp_9 (h1 : 0 ≤ a) (h2 : a ≤ 15) : shp L ⟨9, 0, a, 0, 0, 0⟩ := fun n N h => by
  simp at h; subst h
  simp [insErr, e9, show ¬ a < 0 by omega, show ¬ 15 < a by omega]
theorem shp_10 : shp L ⟨10, 0, 0, 0, 0, n⟩ := fun n N h => by
  simp at h
  simp [insErr, e10, show ¬ n < 0 by omega, show ¬ N ≤ n by omega]
theorem shp_11 (h1 : 0 ≤ a) (h2 : a ≤ 15) : shp L ⟨11, 0, a, 0, 0, n⟩ := fun n N h => by
  simp at h
  simp [insErr, e11, show ¬ a < 0 by omega, show ¬ 15 < a by omega, show ¬ n < 0 by omega, show ¬ N ≤ n by omega]
theorem shp_13 (h1 : 0 ≤ a) (h2 : a ≤ 15) : shp L ⟨13, 0, a, 0, 0, 0⟩ := fun n N h => by
  simp at h; subst h
  simp [insErr, e13, show ¬ a < 0 by omega, show ¬ 15 < a by omega]
end
/-- the instructions of an expression: each sets a register -/
def Sets (L : Int) (l : List Ins) : Prop := ∀ x ∈ l, ∀ r, 0 ≤ r → r ≤ 15 → shp L { x with a := r }
theorem Sets.shps {L : Int} {l : List Ins} (h : Sets L l) (ha : ∀ x ∈ l, 0 ≤ x.a ∧ x.a ≤ 15) : Shps L l := fun x hx => h x hx x.a (ha x hx).1 (ha x hx).2
mutual
theorem exprC_good (L : Int) : ∀ (e : Expr) {sl : List Int} {t : Int} {r : Int × Int × List Ins × List Int} {d : Nat} {nm : ByteArray → Bool}, InA sl → 0 ≤ t → e.rightB nm d = true → exprC sl t e = some r → (0 ≤ r.1 ∧ r.1 ≤ 15) ∧ 0 ≤ r.2.1 ∧ InA r.2.2.2 ∧ Sets L r.2.2.1 ∧ (∀ x ∈ r.2.2.1, 0 ≤ x.a ∧ x.a ≤ 15)
  | .mk k nn s o la, sl, t, r, d, nm, hs, ht, hr, h => by
    rw [Expr.rightB] at hr
    simp only [Bool.and_eq_true, decide_eq_true_eq] at hr
    obtain ⟨⟨⟨⟨_, hk⟩, hl⟩, hf⟩, hrr⟩ := hr
    simp only [fieldsB, Bool.and_eq_true] at hf
    rw [exprC] at h
    split at h
    · cases h
      exact ⟨hs.get 0, ht, hs.drop 1, fun x hx => by simp at hx, fun x hx => by simp at hx⟩
    · rename_i k2
      split at h
      · cases h
      · rename_i h16
        split at h
        · cases h
          refine ⟨⟨ht, by omega⟩, by simp only; omega, hs, fun x hx r h0 h1 => ?_, fun x hx => ?_⟩
          · simp only [List.mem_singleton] at hx
            subst hx
            exact shp_2 h0 h1
          · simp only [List.mem_singleton] at hx
            subst hx
            exact ⟨ht, by simp only; omega⟩
        · rename_i k1
          split at h
          · cases h
          · rename_i vs t2 X s1 hx
            cases h
            obtain ⟨iv, it, is, iX, ia⟩ := exprsC_good L la hs ht hrr hx
            refine ⟨⟨ht, by simp only; omega⟩, by simp only; omega, is, fun x hx r h0 h1 => ?_, fun x hx => ?_⟩
            · rcases List.mem_append.1 hx with hx | hx
              · exact iX x hx r h0 h1
              · simp only [List.mem_singleton] at hx
                subst hx
                have g0 := iv.get 0
                have g1 := iv.get 1
                split
                · exact shp_6 h0 h1 g0.1 g0.2
                · split
                  · rename_i k4
                    have ho := hf.2
                    rw [if_pos k4] at ho
                    simp only [decide_eq_true_eq] at ho
                    exact shp_4 h0 h1 g0.1 g0.2 ho.1 ho.2
                  · rename_i k3 k4
                    have k5 : k = 5 := by omega
                    have ho := hf.2
                    rw [if_neg k4, if_pos k5] at ho
                    simp only [decide_eq_true_eq] at ho
                    exact shp_5 h0 h1 g0.1 g0.2 g1.1 g1.2 ho.1 ho.2
            · rcases List.mem_append.1 hx with hx | hx
              · exact ia x hx
              · simp only [List.mem_singleton] at hx
                subst hx
                split
                · exact ⟨ht, by simp only; omega⟩
                · split <;> exact ⟨ht, by simp only; omega⟩
theorem exprsC_good (L : Int) : ∀ (l : List Expr) {sl : List Int} {t : Int} {r : List Int × Int × List Ins × List Int} {d : Nat} {nm : ByteArray → Bool}, InA sl → 0 ≤ t → Expr.rightsB nm d l = true → exprsC sl t l = some r → InA r.1 ∧ 0 ≤ r.2.1 ∧ InA r.2.2.2 ∧ Sets L r.2.2.1 ∧ (∀ x ∈ r.2.2.1, 0 ≤ x.a ∧ x.a ≤ 15)
  | [], sl, t, r, d, nm, hs, ht, hr, h => by
    rw [exprsC] at h
    cases h
    exact ⟨fun x hx => by simp at hx, ht, hs, fun x hx => by simp at hx, fun x hx => by simp at hx⟩
  | e :: l, sl, t, r, d, nm, hs, ht, hr, h => by
    rw [Expr.rightsB] at hr
    simp only [Bool.and_eq_true] at hr
    rw [exprsC] at h
    split at h
    · cases h
    · rename_i a t1 X s1 h1
      split at h
      · cases h
      · rename_i vs t2 Y s2 h2
        cases h
        obtain ⟨i1, i2, i3, i4, i5⟩ := exprC_good L e hs ht hr.1 h1
        obtain ⟨j1, j2, j3, j4, j5⟩ := exprsC_good L l i3 i2 hr.2 h2
        refine ⟨fun x hx => ?_, j2, j3, fun x hx => ?_, fun x hx => ?_⟩
        · rcases List.mem_cons.1 hx with rfl | hx
          · exact i1
          · exact j1 x hx
        · rcases List.mem_append.1 hx with hx | hx
          · exact i4 x hx
          · exact j4 x hx
        · rcases List.mem_append.1 hx with hx | hx
          · exact i5 x hx
          · exact j5 x hx
end
theorem setC_good (L : Int) {e : Expr} {sl : List Int} {r : List Ins × List Int} {d : Nat} (hs : InA sl) (hr : e.rightB nameB d = true) (h : setC sl e = some r) : InA r.2 ∧ Shps L r.1 := by
  unfold setC at h
  split at h
  · cases h
    exact ⟨hs.drop 2, .cons (shp_3 (hs.get 1).1 (hs.get 1).2 (hs.get 0).1 (hs.get 0).2) (.nil L)⟩
  · rename_i h2
    split at h
    · cases h
    · rename_i a t X s1 hx
      cases h
      obtain ⟨i1, i2, i3, i4, i5⟩ := exprC_good L e hs (by omega) hr hx
      simp only at i3 i4 i5
      have hl := (exprC_far _ _ _ hx).2 h2
      simp only at hl
      refine ⟨i3.drop 1, fun x hx => ?_⟩
      rcases List.mem_or_eq_of_mem_set hx with hx | hx
      · exact i4.shps i5 x hx
      · subst hx
        have hm : X.getD (X.length - 1) default ∈ X := by
          rw [List.getD_eq_getElem?_getD, List.getElem?_eq_getElem (by omega)]
          exact List.getElem_mem _
        exact i4 _ hm _ (i3.get 0).1 (i3.get 0).2
theorem oneC_good (L : Int) {e : Expr} {k c : Int} {sl : List Int} {r : List Ins × List Int} {d : Nat} (hs : InA sl) (hr : e.rightB nameB d = true) (hk : ∀ a, 0 ≤ a → a ≤ 15 → shp L ⟨k, 0, a, 0, c, 0⟩) (h : oneC sl k e c = some r) : InA r.2 ∧ Shps L r.1 := by
  unfold oneC at h
  split at h
  · cases h
  · rename_i a t X s1 hx
    cases h
    obtain ⟨i1, i2, i3, i4, i5⟩ := exprC_good L e hs (by omega) hr hx
    exact ⟨i3, (i4.shps i5).app (.cons (hk _ i1.1 i1.2) (.nil L))⟩
theorem storeC_good (L : Int) {e f : Expr} {sl : List Int} {r : List Ins × List Int} {d : Nat} (hs : InA sl) (hr : e.rightB nameB d = true) (hr2 : f.rightB nameB d = true) (h : storeC sl e f = some r) : InA r.2 ∧ Shps L r.1 := by
  unfold storeC at h
  split at h
  · cases h
  · rename_i a t X s1 hx
    split at h
    · cases h
    · rename_i v t2 Y s2 hy
      cases h
      obtain ⟨i1, i2, i3, i4, i5⟩ := exprC_good L e hs (by omega) hr hx
      obtain ⟨j1, j2, j3, j4, j5⟩ := exprC_good L f i3 i2 hr2 hy
      exact ⟨j3, ((i4.shps i5).app (j4.shps j5)).app (.cons (shp_7 j1.1 j1.2 i1.1 i1.2) (.nil L))⟩
theorem fblockS_one (T : Sc) (l : List Stmt) : (blockS T l).1 = (stmtsS T l).1 := by rw [blockS]
mutual
theorem stmtC_good : ∀ (s : Stmt) {S : Sc} {sl : List Int} {r : List Ins × List Int} {d : Nat}, InA sl → s.rightB nameB d = true → (stmtS S s).1 = 0 → stmtC sl s = some r → InA r.2 ∧ Shps S.cells r.1
  | .mk k nm c la lb le, S, sl, r, d, hs, hr, h0, h => by
    obtain ⟨hk, hla, hrr, hlb, hle, hrb, hre⟩ := Stmt.right_parts hr
    have hcell : k = 5 → 0 ≤ c := fun h5 => by
      rw [Stmt.rightB] at hr
      simp only [headB, Bool.and_eq_true, if_pos h5, decide_eq_true_eq] at hr
      omega
    simp only [Stmt.kind, Stmt.args, Stmt.body, Stmt.els] at hk hla hrr hlb hle hrb hre
    have a0 : ∀ (h : 0 < la.length), (la.getD 0 default).rightB nameB 1 = true := fun h => by
      rw [show la.getD 0 default = la[0] by simp [List.getD, h]]; exact Expr.rightsB_all hrr _ (List.getElem_mem h)
    rw [stmtS] at h0
    have b1 : (exprsS S la).1 = 0 := by
      by_cases e : (exprsS S la).1 = 0
      · exact e
      · rw [if_neg e] at h0; exact absurd h0 e
    rw [if_pos b1] at h0
    simp only at h0
    have b2 : (kindS (exprsS S la).2 k nm c).1 = 0 := by
      by_cases e : (kindS (exprsS S la).2 k nm c).1 = 0
      · exact e
      · rw [if_neg e] at h0; exact absurd h0 e
    rw [if_pos b2] at h0
    have b3 : (blockS (kindS (exprsS S la).2 k nm c).2 lb).1 = 0 := by
      by_cases e : (blockS (kindS (exprsS S la).2 k nm c).2 lb).1 = 0
      · exact e
      · rw [if_neg e] at h0; exact absurd h0 e
    rw [if_pos b3] at h0
    have c1 : (kindS (exprsS S la).2 k nm c).2.cells = S.cells := by rw [kindS_cells, exprsS_cells]
    have c2 : (blockS (kindS (exprsS S la).2 k nm c).2 lb).2.cells = S.cells := by rw [blockS_cells, c1]
    have ib := fun {sl r} hs h => blockC_good lb (S := (kindS (exprsS S la).2 k nm c).2) (sl := sl) (r := r) hs hrb (by rw [← fblockS_one]; exact b3) h
    have ie := fun {sl r} hs h => blockC_good le (S := (blockS (kindS (exprsS S la).2 k nm c).2 lb).2) (sl := sl) (r := r) hs hre (by rw [← fblockS_one]; exact h0) h
    rw [c1] at ib
    rw [c2] at ie
    have h5 : k = 5 → c < 4 ∧ c < S.cells := fun e => by
      have := b2
      unfold kindS at this
      rw [if_neg (by omega), if_neg (by omega), if_pos e, exprsS_cells] at this
      by_cases hq : c ≥ (if 4 < S.cells then 4 else S.cells)
      · rw [if_pos hq] at this; simp at this
      · split at hq <;> omega
    rw [stmtC] at h
    by_cases q1 : k = 1 ∨ k = 2
    · rw [if_pos q1] at h
      have hl : la.length = 1 := by simp only [wantA] at hla; split at hla <;> (try split at hla) <;> omega
      exact setC_good S.cells hs (a0 (by omega)) h
    rw [if_neg q1] at h
    by_cases q3 : k = 3
    · rw [if_pos q3] at h
      have hl : la.length = 2 := by simp only [wantA] at hla; split at hla <;> (try split at hla) <;> omega
      have a1 : (la.getD 1 default).rightB nameB 1 = true := by
        rw [show la.getD 1 default = la[1] by simp [List.getD, hl]]; exact Expr.rightsB_all hrr _ (List.getElem_mem _)
      exact storeC_good S.cells hs (a0 (by omega)) a1 h
    rw [if_neg q3] at h
    by_cases q9 : k = 9
    · rw [if_neg (by omega), if_neg (by omega), if_neg (by omega), if_pos q9] at h
      cases h
      exact ⟨hs, .cons shp_1 (.nil _)⟩
    have hl : la.length = 1 := by simp only [wantA] at hla; split at hla <;> (try split at hla) <;> omega
    have hr1 := a0 (by omega)
    generalize la.getD 0 default = e at hr1 h
    by_cases q4 : k = 4
    · rw [if_pos q4] at h
      exact oneC_good S.cells hs hr1 (fun a h0 h1 => shp_9 h0 h1) h
    rw [if_neg q4] at h
    by_cases q5 : k = 5
    · rw [if_pos q5] at h
      exact oneC_good S.cells hs hr1 (fun a h0 h1 => shp_8 h0 h1 (hcell q5) (h5 q5).1 (h5 q5).2) h
    rw [if_neg q5] at h
    by_cases q8 : k = 8
    · rw [if_pos q8] at h
      exact oneC_good S.cells hs hr1 (fun a h0 h1 => shp_13 h0 h1) h
    rw [if_neg q8, if_neg q9] at h
    by_cases q6 : k = 6
    · rw [if_pos q6] at h
      split at h
      · cases h
      · rename_i a t l s1 hx
        obtain ⟨i1, i2, i3, i4, i5⟩ := exprC_good S.cells e hs (by omega) hr1 hx
        split at h
        · cases h
        · rename_i X s2 hb
          have jb := ib i3 hb
          split at h
          · cases h
            exact ⟨jb.1, (i4.shps i5).app (.cons (shp_11 i1.1 i1.2) (jb.2.moved _))⟩
          · split at h
            · cases h
            · rename_i Y s3 he
              have je := ie jb.1 he
              cases h
              exact ⟨je.1, (i4.shps i5).app (.cons (shp_11 i1.1 i1.2) ((jb.2.moved _).app (.cons shp_10 (je.2.moved _))))⟩
    rw [if_neg q6] at h
    by_cases q7 : k = 7
    · rw [if_pos q7] at h
      split at h
      · cases h
      · rename_i a t l s1 hx
        obtain ⟨i1, i2, i3, i4, i5⟩ := exprC_good S.cells e hs (by omega) hr1 hx
        split at h
        · cases h
        · rename_i X s2 hb
          have jb := ib i3 hb
          cases h
          exact ⟨jb.1, (i4.shps i5).app (.cons (shp_11 i1.1 i1.2) ((jb.2.moved _).app (.cons shp_10 (.nil _))))⟩
    rw [if_neg q7] at h
    cases h
    exact ⟨hs, .nil _⟩
theorem blockC_good : ∀ (l : List Stmt) {S : Sc} {sl : List Int} {r : List Ins × List Int} {d : Nat}, InA sl → Stmt.rightsB nameB d l = true → (stmtsS S l).1 = 0 → blockC sl l = some r → InA r.2 ∧ Shps S.cells r.1
  | [], S, sl, r, d, hs, hr, h0, h => by
    rw [blockC] at h
    cases h
    exact ⟨hs, .nil _⟩
  | s :: l, S, sl, r, d, hs, hr, h0, h => by
    rw [Stmt.rightsB] at hr
    simp only [Bool.and_eq_true] at hr
    rw [stmtsS] at h0
    have b1 : (stmtS S s).1 = 0 := by
      by_cases e : (stmtS S s).1 = 0
      · exact e
      · rw [if_neg e] at h0; exact absurd h0 e
    rw [if_pos b1] at h0
    rw [blockC] at h
    split at h
    · cases h
    · rename_i X s1 hx
      split at h
      · cases h
      · rename_i Y s2 hy
        cases h
        have i1 := stmtC_good s hs hr.1 b1 hx
        have i2 := blockC_good l i1.1 hr.2 h0 hy
        rw [stmtS_cells] at i2
        exact ⟨i2.1, i1.2.app (i2.2.moved _)⟩
end
mutual
/-- how many statements there are -/
def Stmt.cnt : Stmt → Nat | .mk _ _ _ _ lb le => 1 + Stmt.cntL lb + Stmt.cntL le
def Stmt.cntL : List Stmt → Nat | [] => 0 | s :: l => s.cnt + Stmt.cntL l
end
mutual
theorem stmtC_cnt : ∀ (s : Stmt) {sl : List Int} {r : List Ins × List Int} {d : Nat}, s.rightB nameB d = true → stmtC sl s = some r → s.cnt ≤ r.1.length
  | .mk k nm c la lb le, sl, r, d, hr, h => by
    obtain ⟨hk, hla, hrr, hlb, hle, hrb, hre⟩ := Stmt.right_parts hr
    simp only [Stmt.kind, Stmt.args, Stmt.body, Stmt.els] at hk hla hrr hlb hle hrb hre
    have ib := fun {sl r} h => blockC_cnt lb (sl := sl) (r := r) hrb h
    have ie := fun {sl r} h => blockC_cnt le (sl := sl) (r := r) hre h
    rw [stmtC] at h
    rw [Stmt.cnt]
    by_cases q6 : k = 6
    · rw [if_neg (by omega), if_neg (by omega), if_neg (by omega), if_neg (by omega), if_neg (by omega), if_neg (by omega), if_pos q6] at h
      split at h
      · cases h
      · rename_i a t l s1 hx
        split at h
        · cases h
        · rename_i X s2 hb
          have jb := ib hb
          split at h
          · rename_i hl
            cases h
            rw [List.eq_nil_of_length_eq_zero hl]
            simp [Stmt.cntL] at jb ⊢
            omega
          · split at h
            · cases h
            · rename_i Y s3 he
              have je := ie he
              cases h
              simp at jb je ⊢
              omega
    by_cases q7 : k = 7
    · rw [if_neg (by omega), if_neg (by omega), if_neg (by omega), if_neg (by omega), if_neg (by omega), if_neg (by omega), if_neg q6, if_pos q7] at h
      rw [hle q6]
      split at h
      · cases h
      · rename_i a t l s1 hx
        split at h
        · cases h
        · rename_i X s2 hb
          have jb := ib hb
          cases h
          simp [Stmt.cntL] at jb ⊢
          omega
    rw [hlb q6 q7, hle q6]
    simp only [Stmt.cntL, Nat.add_zero]
    by_cases q1 : k = 1 ∨ k = 2
    · rw [if_pos q1] at h
      unfold setC at h
      split at h
      · cases h; simp
      · rename_i h2
        split at h
        · cases h
        · rename_i a t X s1 hx
          cases h
          have := (exprC_far _ _ _ hx).2 h2
          simp only [List.length_set] at this ⊢
          omega
    rw [if_neg q1] at h
    have hone : ∀ {k' : Int} {e : Expr} {c' : Int}, oneC sl k' e c' = some r → 1 ≤ r.1.length := fun h => by
      unfold oneC at h
      split at h
      · cases h
      · cases h; simp
    by_cases q3 : k = 3
    · rw [if_pos q3] at h
      unfold storeC at h
      split at h
      · cases h
      · split at h
        · cases h
        · cases h; simp; omega
    rw [if_neg q3] at h
    by_cases q4 : k = 4
    · rw [if_pos q4] at h; exact hone h
    rw [if_neg q4] at h
    by_cases q5 : k = 5
    · rw [if_pos q5] at h; exact hone h
    rw [if_neg q5] at h
    by_cases q8 : k = 8
    · rw [if_pos q8] at h; exact hone h
    rw [if_neg q8, if_pos (by omega)] at h
    cases h
    simp
theorem blockC_cnt : ∀ (l : List Stmt) {sl : List Int} {r : List Ins × List Int} {d : Nat}, Stmt.rightsB nameB d l = true → blockC sl l = some r → Stmt.cntL l ≤ r.1.length
  | [], sl, r, d, hr, h => by rw [Stmt.cntL]; exact Nat.zero_le _
  | s :: l, sl, r, d, hr, h => by
    rw [Stmt.rightsB] at hr
    simp only [Bool.and_eq_true] at hr
    rw [blockC] at h
    split at h
    · cases h
    · rename_i X s1 hx
      split at h
      · cases h
      · rename_i Y s2 hy
        cases h
        have i1 := stmtC_cnt s hr.1 hx
        have i2 := blockC_cnt l hr.2 hy
        rw [Stmt.cntL]
        simp at i1 i2 ⊢
        omega
end
theorem genP_err {ss : List Stmt} {L : Int} (h : (genP ss L).2 ≠ 0) : (genP ss L).1 = [] := by
  unfold genP at h ⊢
  split
  · rfl
  · rename_i hr
    split
    · rfl
    · rename_i hs
      rw [if_neg hr, if_neg hs] at h
      split
      · rfl
      · rename_i G hG
        rw [hG] at h
        simp only at h
        split
        · rfl
        · rename_i hl
          rw [if_neg hl] at h
          exact absurd rfl h
theorem fits_plain {ss : List Stmt} {L : Int} {a : List Ins} (h : genP ss L = (a, 0)) : (∀ x ∈ a, insErr x.kind x.op x.a x.b x.c x.n L a.length = 0) ∧ Stmt.cntL ss < a.length ∧ a.length ≤ 600 ∧ ∃ m, a = m ++ [⟨1, 0, 0, 0, 0, 0⟩] := by
  obtain ⟨hr, hs, r, hb, ha, hl⟩ := genP_is h
  have hrr : Stmt.rightsB nameB 0 ss = true := by
    simp only [rightP, Bool.and_eq_true] at hr; exact hr.1
  have c1 : (stmtsS ⟨[], [], 0, L⟩ ss).1 = 0 := by
    unfold slotsP at hs
    split at hs
    · assumption
    · exact hs
  have hin : InA (slotsP ss L).1 := fun x hx => by have := slotsP_inF ss L x hx; omega
  have hg := blockC_good ss hin hrr c1 hb
  have ht := blockC_tgt ss hb
  have hc := blockC_cnt ss hrr hb
  have hlen : a.length = r.1.length + 1 := by rw [ha]; simp
  refine ⟨fun x hx => ?_, by omega, hl, r.1, ha⟩
  rw [ha] at hx
  rcases List.mem_append.1 hx with hx | hx
  · refine hg.2 x hx x.n _ ?_
    split
    · rename_i hk
      have := ht x hx hk
      omega
    · rfl
  · simp only [List.mem_singleton] at hx
    subst hx
    exact shp_1 (L := L) 0 _ (by simp)
end Go.Proofs.Ytjlnpppjkdcpkaa.My
