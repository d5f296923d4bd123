/- The document's way through an if. Conditions: the tree was there in the world W, which is kept; it may be. -/
import Derived.Test.YtjlnpppjkdcpkaaGmGnUb
namespace Go.Proofs.Ytjlnpppjkdcpkaa.My
open Go.RowKit Go.Maps Go.Proofs.Ytjlnpppjkdcpkaa.NumA
set_option linter.unusedVariables false
set_option linter.unusedSimpArgs false
def brM (X : List Ins) (a : Int) (th : List ByteArray) (b o : Mm) (n : Nat) : Mm := if n = 0 then ifM0 X a th b o else ifM1 X a th b o
/-- all boxes stay, rows of instructions aside -/
def FrI (w w' : World) : Prop := ∀ (q : Nat) (cs : Array Value) (t : TypeId), w.heap[q]? = some (.cells cs t (0, 0)) → 42 ≠ t → w'.heap[q]? = some (.cells cs t (0, 0))
theorem FrI.refl (w : World) : FrI w w := fun _ _ _ h _ => h
theorem FrI.trans {w w1 w2 : World} (h : FrI w w1) (k : FrI w1 w2) : FrI w w2 := fun q cs t hq ht => k q cs t (h q cs t hq ht) ht
theorem FrI.below {w w1 w2 : World} (h : FrI w w1) (hB : Below w1.heap.size w1 w2) : FrI w w2 := fun q cs t hq ht => below_blk hB (h q cs t hq ht) (blk_lt (h q cs t hq ht))
/-- what is handed back by the way through an if -/
def BrDo (m : Mm) (wb w : World) (E : Ending) (w' : World) : Prop := Below wb.heap.size wb w' ∧ FrI w w' ∧ ∃ VL VT, E = .returned (.agg #[VL, VT, .bool m.deep]) ∧ Row w' 42 6 VL m.l.length (insCells m.l) ∧ Row w' 9 1 VT m.th.length (m.th.map .string) ∧ ∀ g, VL.ownBlock = some g → wb.heap.size ≤ g
theorem MDo.split {m : Mm} {w : World} {E : Ending} {w' : World} (h : MDo m w E w') : ∃ A c B b, E = .returned (.agg #[.slice A m.l.length c, .slice B m.th.length b, .bool m.deep]) ∧ Below w.heap.size w w' ∧ Row w' 42 6 (.slice A m.l.length c) m.l.length (insCells m.l) ∧ Row w' 9 1 (.slice B m.th.length b) m.th.length (m.th.map .string) ∧ ∀ g, (Value.slice A m.l.length c).ownBlock = some g → w.heap.size ≤ g := by
  obtain ⟨hb, VL, VT, rfl, h1, h2, h3⟩ := h
  obtain ⟨A, c, rfl, _⟩ := h1.slice
  obtain ⟨B, b, rfl, _⟩ := h2.slice
  exact ⟨A, c, B, b, rfl, hb, h1, h2, h3⟩
theorem FrI.set {w wx : World} (h : FrI w wx) {p : Addr} (hp : w.heap.size ≤ p.block) (u : Value) : FrI w (wx.setCell p u) := fun q cs t hq ht => blk_far (h q cs t hq ht) (by have := blk_lt hq; omega) u
theorem movedw_int (w : World) (l : List Ins) (V : Value) (d : Nat) (D : Int) (hD : D = (d : Int)) (hrow : Row w 42 6 V l.length (insCells l)) (hl : l.length ≤ 1000000) :
    Calls Try.prog 18 #[V, .int .i64 D] w fun E w' => Below w.heap.size w w' ∧ ∃ V', E = .returned V' ∧ Row w' 42 6 V' l.length (insCells (l.map (mvw d))) ∧ ∀ g, V'.ownBlock = some g → w.heap.size ≤ g := by
  subst hD; exact movedw_calls w l V d hrow hl
/-- a row of instructions that lies apart from another one -/
def ApR (w : World) (u v : Value) (n : Nat) (xs : List Value) : Prop := Row w 42 6 v n xs ∧ ∀ g, v.ownBlock = some g → u.ownBlock ≠ some g
/-- the way through an if, in memory: the statement's box at w's end, the part's behind it, then the result's; the body and the other block at p7 and p8 -/
structure BrAt (wb w : World) (Sc : Array Value) (p7 p8 : Nat) (v7 v8 : Value × Value × Bool) (l7 l8 : List Ins) (th : List ByteArray) (wx : World) (L : List Ins) (A : Option Addr) (c : Nat) (B : Option Addr) (b : Nat) : Prop where
  bel : Below wb.heap.size wb wx
  fr : FrI w wx
  sx : wx.heap[w.heap.size]? = some (.cells Sc 36 (0, 0))
  mm : wx.heap[w.heap.size + 1]? = some (mC (.slice A L.length c) (.slice B th.length b) false)
  res : wx.heap[w.heap.size + 1 + 1]? = some (mC (.slice none 0 0) (.slice none 0 0) false)
  b7 : wx.heap[p7]? = some (mC v7.1 v7.2.1 v7.2.2)
  b8 : wx.heap[p8]? = some (mC v8.1 v8.2.1 v8.2.2)
  rl : Row wx 42 6 (.slice A L.length c) L.length (insCells L)
  rt : Row wx 9 1 (.slice B th.length b) th.length (th.map .string)
  own : ∀ g, (Value.slice A L.length c).ownBlock = some g → wb.heap.size ≤ g
  r7 : ApR wx (.slice A L.length c) v7.1 l7.length (insCells l7)
  r8 : ApR wx (.slice A L.length c) v8.1 l8.length (insCells l8)
  n7 : w.heap.size + 1 < p7
  n8 : w.heap.size + 1 < p8
  hw : wb.heap.size ≤ w.heap.size
/-- .. and its end: the part's last cell set, the part laid into the result -/
theorem BrAt.last {wb w : World} {Sc : Array Value} {p7 p8 : Nat} {v7 v8 : Value × Value × Bool} {l7 l8 : List Ins} {th : List ByteArray} {wx : World} {L : List Ins} {A : Option Addr} {c : Nat} {B : Option Addr} {b : Nat} (h : BrAt wb w Sc p7 p8 v7 v8 l7 l8 th wx L A c B b) (d : Bool) (u0 u1 u2 : Value) {E : Ending} (hE : E = .returned (.agg #[.slice A L.length c, .slice B th.length b, .bool d])) :
    BrDo ⟨L, th, d⟩ wb w E ((((wx.setCell ⟨w.heap.size + 1, 2, none⟩ (.bool d)).setCell ⟨w.heap.size + 1 + 1, 0, none⟩ u0).setCell ⟨w.heap.size + 1 + 1, 1, none⟩ u1).setCell ⟨w.heap.size + 1 + 1, 2, none⟩ u2) := by
  have h1 := h.hw
  have a1 : wb.heap.size ≤ w.heap.size + 1 := by omega
  have a2 : wb.heap.size ≤ w.heap.size + 1 + 1 := by omega
  have b1 : w.heap.size ≤ w.heap.size + 1 := by omega
  have b2 : w.heap.size ≤ w.heap.size + 1 + 1 := by omega
  have hres : (wx.setCell ⟨w.heap.size + 1, 2, none⟩ (.bool d)).heap[w.heap.size + 1 + 1]? = _ := blk_far h.res (show w.heap.size + 1 + 1 ≠ w.heap.size + 1 by omega) _
  exact ⟨(((h.bel.setCell a1 _).setCell a2 _).setCell a2 _).setCell a2 _, (((h.fr.set b1 _).set b2 _).set b2 _).set b2 _, _, _, hE, row_sets (rowSet h.rl (h.rl.ne h.mm (by decide))) hres (by decide) _ _ _, row_sets (rowSet h.rt (h.rt.ne h.mm (by decide))) hres (by decide) _ _ _, h.own⟩
theorem BrAt.below {wb w : World} {Sc : Array Value} {p7 p8 : Nat} {v7 v8 : Value × Value × Bool} {l7 l8 : List Ins} {th : List ByteArray} {wx wy : World} {L : List Ins} {A : Option Addr} {c : Nat} {B : Option Addr} {b : Nat} (h : BrAt wb w Sc p7 p8 v7 v8 l7 l8 th wx L A c B b) (hB : Below wx.heap.size wx wy) : BrAt wb w Sc p7 p8 v7 v8 l7 l8 th wy L A c B b :=
  ⟨h.bel.trans (hB.mono h.bel.size), h.fr.below hB, below_blk hB h.sx (blk_lt h.sx), below_blk hB h.mm (blk_lt h.mm), below_blk hB h.res (blk_lt h.res), below_blk hB h.b7 (blk_lt h.b7), below_blk hB h.b8 (blk_lt h.b8), h.rl.below hB, h.rt.below hB, h.own, ⟨h.r7.1.below hB, h.r7.2⟩, ⟨h.r8.1.below hB, h.r8.2⟩, h.n7, h.n8, h.hw⟩
theorem BrAt.push {wb w : World} {Sc : Array Value} {p7 p8 : Nat} {v7 v8 : Value × Value × Bool} {l7 l8 : List Ins} {th : List ByteArray} {w1 w' : World} {L Y : List Ins} {A A' : Option Addr} {c c' n : Nat} {B : Option Addr} {b : Nat} (h : BrAt wb w Sc p7 p8 v7 v8 l7 l8 th w1 L A c B b)
    (hn : n = L.length + Y.length) (hrow : Row w' 42 6 (.slice A' n c') n (insCells L ++ insCells Y)) (hg : w1.grownBy w' (Value.slice A L.length c).ownBlock) (hown : (Value.slice A' n c').ownBlock = (Value.slice A L.length c).ownBlock ∨ (Value.slice A' n c').ownBlock = some w1.heap.size) :
    BrAt wb w Sc p7 p8 v7 v8 l7 l8 th (w'.setCell ⟨w.heap.size + 1, 0, none⟩ (.slice A' n c')) (L ++ Y) A' c' B b := by
  have hwp : wb.heap.size ≤ w.heap.size + 1 := by have := h.hw; omega
  have hbb := grown_blk hg h.mm (h.rl.ne h.mm (by decide))
  have far : ∀ {e : TypeId} {z m : Nat} {v : Value} {xs : List Value}, Row w1 e z v m xs → e ≠ 42 → e ≠ 80 → Row (w'.setCell ⟨w.heap.size + 1, 0, none⟩ (.slice A' n c')) e z v m xs := fun hr h1 h2 =>
    rowSet (hr.keep fun g hgg => hg.block g (hr.lt hgg) fun e => rows_apart hr h.rl h1 g hgg e.symm) (hr.ne h.mm h2)
  have box : ∀ {q : Nat} {cs : Array Value} {t : TypeId}, q ≠ w.heap.size + 1 → w1.heap[q]? = some (.cells cs t (0, 0)) → 42 ≠ t → (w'.setCell ⟨w.heap.size + 1, 0, none⟩ (.slice A' n c')).heap[q]? = some (.cells cs t (0, 0)) := fun hq hc ht => blk_far (grown_blk hg hc (h.rl.ne hc ht)) hq _
  have apr : ∀ {v : Value} {m : Nat} {xs : List Value}, ApR w1 (.slice A L.length c) v m xs → ApR (w'.setCell ⟨w.heap.size + 1, 0, none⟩ (.slice A' n c')) (.slice A' n c') v m xs := fun hr =>
    ⟨rowSet (hr.1.keep fun g hgg => hg.block g (hr.1.lt hgg) fun e => hr.2 g hgg e.symm) (hr.1.ne h.mm (by decide)), fun g hgg e => by
      rcases hown with e1 | e1
      · exact hr.2 g hgg (e1 ▸ e)
      · rw [e1] at e; have := Option.some.inj e; have := hr.1.lt hgg; omega⟩
  subst hn
  have hlen : L.length + Y.length = (L ++ Y).length := by simp
  have h1 := (Below.grown h.bel hg h.bel.size h.own).setCell (p := ⟨w.heap.size + 1, 0, none⟩) hwp (.slice A' (L.length + Y.length) c')
  have h2 : FrI w (w'.setCell ⟨w.heap.size + 1, 0, none⟩ (.slice A' (L.length + Y.length) c')) := fun q cs t hq ht => box (by have := blk_lt hq; omega) (h.fr q cs t hq ht) ht
  have h3 := box (by omega) h.sx (by decide)
  have h4 := blk_set hbb 0 (.slice A' (L.length + Y.length) c')
  have h5 := box (by omega) h.res (by decide)
  have h6 := box (by have := h.n7; omega) h.b7 (by decide)
  have h7 := box (by have := h.n8; omega) h.b8 (by decide)
  have h8 := far h.rt (by decide) (by decide)
  have h9 := apr h.r7
  have h10 := apr h.r8
  have ho : ∀ g, (Value.slice A' (L.length + Y.length) c').ownBlock = some g → wb.heap.size ≤ g := fun g hgg => by
    rcases hown with e | e
    · rw [e] at hgg; exact h.own g hgg
    · rw [e] at hgg; have := Option.some.inj hgg; have := h.bel.size; omega
  have hr := rowSet (b := w.heap.size + 1) (i := 0) (u := .slice A' (L.length + Y.length) c') hrow (hrow.ne hbb (by decide))
  rw [hlen] at h1 h2 h3 h4 h5 h6 h7 h8 h9 h10 ho hr ⊢
  rw [← insCells_app] at hr
  exact ⟨h1, h2, h3, h4, h5, h6, h7, hr, h8, ho, h9, h10, h.n7, h.n8, h.hw⟩
set_option maxRecDepth 100000 in
set_option maxHeartbeats 8000000 in
theorem dbranch_calls (W : World) (N : Nat) (ih : DOneIH W N) (s : Stmt) (A0 : Option Addr) (c0 : Nat) (A1 : Option Addr) (c1 : Nat) (A2 : Option Addr) (c2 d : Nat) (hN : s.nodes ≤ N + 1) (hrd1 : Stmt.rds W s.body A1 0) (hrd2 : Stmt.rds W s.els A2 0) (hr : s.rightB nameB d = true) (hl : s.nodes ≤ 100000) (th : List ByteArray) (V : Value) (X : List Ins) (XA : Option Addr) (xc : Nat) (a : Int) (wb w : World) (hWb : Below W.heap.size W wb) (hB : Below wb.heap.size wb w) (hth : Row w 9 1 V th.length (th.map .string)) (htl : th.length + s.nodes ≤ 900)
    (hX : Row w 42 6 (.slice XA X.length xc) X.length (insCells X)) (hXO : ∀ g, (Value.slice XA X.length xc).ownBlock = some g → wb.heap.size ≤ g) (hXl : X.length ≤ 100000) :
    Calls Try.prog 74 #[s.val A0 c0 A1 c1 A2 c2, .agg #[.slice XA X.length xc, V, .bool false], .int .i64 a] w (BrDo (brM X a th (blockM ⟨[], th, false⟩ s.body) (blockM ⟨[], th, false⟩ s.els) s.els.length) wb w) := by
  obtain ⟨hkk, hla, hrr, hlb, hle, hrb, hre⟩ := Stmt.right_parts hr
  have hne := s.nodes_eq
  obtain ⟨TA, tc, hV, _⟩ := hth.slice
  subst hV
  unfold Stmt.val
  have hmb := blockM_len s.body ⟨[], th, false⟩ hrb
  have hmo := blockM_len s.els ⟨[], th, false⟩ hre
  simp only [List.length_nil, Nat.zero_add] at hmb hmo
  have hI1 := fun w' (hb : Below w.heap.size w w') => dblock_of W N ih s.body A1 c1 (d + 1) (by omega) hrd1 hrb (by omega) th (.slice TA th.length tc) w' (hWb.trans ((hB.trans (hb.mono hB.size)).mono hWb.size)) (hth.below hb) (by omega)
  have hI2 := fun w' (hb : Below w.heap.size w w') => dblock_of W N ih s.els A2 c2 (d + 1) (by omega) hrd2 hre (by omega) th (.slice TA th.length tc) w' (hWb.trans ((hB.trans (hb.mono hB.size)).mono hWb.size)) (hth.below hb) (by omega)
  obtain ⟨Bm, hBm⟩ : ∃ b, blockM ⟨[], th, false⟩ s.body = b := ⟨_, rfl⟩
  obtain ⟨Om, hOm⟩ : ∃ b, blockM ⟨[], th, false⟩ s.els = b := ⟨_, rfl⟩
  rw [hBm] at hI1 hmb ⊢
  rw [hOm] at hI2 hmo ⊢
  have hbl : Bm.l.length ≤ 300000 := by omega
  have hol : Om.l.length ≤ 300000 := by omega
  have hx := blk_alloc (blk_alloc (blk_new w (.cells #[.int .i64 s.kind, .string s.name, .int .i64 s.cell, .slice A0 s.args.length c0, .slice A1 s.body.length c1, .slice A2 s.els.length c2] 36)) (mC (.slice XA X.length xc) (.slice TA th.length tc) false)) (mC (.slice none 0 0) (.slice none 0 0) false)
  have hm := blk_alloc (blk_new (w.alloc (.cells #[.int .i64 s.kind, .string s.name, .int .i64 s.cell, .slice A0 s.args.length c0, .slice A1 s.body.length c1, .slice A2 s.els.length c2] 36)) (mC (.slice XA X.length xc) (.slice TA th.length tc) false)) (mC (.slice none 0 0) (.slice none 0 0) false)
  have hy := blk_new ((w.alloc (.cells #[.int .i64 s.kind, .string s.name, .int .i64 s.cell, .slice A0 s.args.length c0, .slice A1 s.body.length c1, .slice A2 s.els.length c2] 36)).alloc (mC (.slice XA X.length xc) (.slice TA th.length tc) false)) (mC (.slice none 0 0) (.slice none 0 0) false)
  rw [size_al] at hm
  rw [size_al, size_al] at hy
  have hb0 : Below w.heap.size w (((w.alloc (.cells #[.int .i64 s.kind, .string s.name, .int .i64 s.cell, .slice A0 s.args.length c0, .slice A1 s.body.length c1, .slice A2 s.els.length c2] 36)).alloc (mC (.slice XA X.length xc) (.slice TA th.length tc) false)).alloc (mC (.slice none 0 0) (.slice none 0 0) false)) := (((Below.refl _ _).al).al).al
  have hz0 : (((w.alloc (.cells #[.int .i64 s.kind, .string s.name, .int .i64 s.cell, .slice A0 s.args.length c0, .slice A1 s.body.length c1, .slice A2 s.els.length c2] 36)).alloc (mC (.slice XA X.length xc) (.slice TA th.length tc) false)).alloc (mC (.slice none 0 0) (.slice none 0 0) false)).heap.size = w.heap.size + 3 := by rw [size_al, size_al, size_al]
  obtain ⟨w0, hw0⟩ : ∃ w0, (((w.alloc (.cells #[.int .i64 s.kind, .string s.name, .int .i64 s.cell, .slice A0 s.args.length c0, .slice A1 s.body.length c1, .slice A2 s.els.length c2] 36)).alloc (mC (.slice XA X.length xc) (.slice TA th.length tc) false)).alloc (mC (.slice none 0 0) (.slice none 0 0) false)) = w0 := ⟨_, rfl⟩
  rw [hw0] at hx hm hy hb0 hz0
  unfold mC at hw0
  have HI1 := Lib.hid (hI1 w0 hb0)
  have HI2 := Lib.hid (fun w' (h : Below w0.heap.size w0 w') => hI2 w' (hb0.trans (h.mono hb0.size)))
  have HX := Lib.hid hx
  have HM := Lib.hid hm
  have HY := Lib.hid hy
  have HB0 := Lib.hid hb0
  have HW := Lib.hid hw0
  have HZ := Lib.hid hz0
  have HB := Lib.hid hB
  have HT := Lib.hid (hth.below hb0)
  have HXR := Lib.hid (hX.below hb0)
  have HXO := Lib.hid hXO
  have HXLT := Lib.hid (show ∀ g, (Value.slice XA X.length xc).ownBlock = some g → g < w.heap.size from fun g hg => hX.lt hg)
  have hbw := hB.size
  have x4 := blk_cell hx 4
  have m1 := blk_cell hm 1
  clear hx hm hy hb0 hw0 hz0 hI1 hI2 hrr hlb hle hrb hre hr hla hkk hne hth hX hXO hB hWb hBm hOm hrd1 hrd2
  go_enter Try.func74, Try.ntmps74
  go_wp2_with (have tk := HW; clear tk; rw [HW.out]; clear HW)
  refine HI1.out.mono ?_
  intro E w1 hd1
  obtain ⟨BA, bc, BB, bb, rfl, hb1, hr1, hr2, ho1⟩ := hd1.split
  have hx := below_blk hb1 HX.out (blk_lt HX.out)
  have hm := below_blk hb1 HM.out (blk_lt HM.out)
  have hq := blk_new w1 (mC (.slice BA Bm.l.length bc) (.slice BB Bm.th.length bb) Bm.deep)
  have hb1a : Below w0.heap.size w0 (w1.alloc (mC (.slice BA Bm.l.length bc) (.slice BB Bm.th.length bb) Bm.deep)) := hb1.al
  have HZ1 := Lib.hid hb1.size
  have hz1 : (w1.alloc (mC (.slice BA Bm.l.length bc) (.slice BB Bm.th.length bb) Bm.deep)).heap.size = w1.heap.size + 1 := size_al _ _
  obtain ⟨w2, hw2⟩ : ∃ w2, w1.alloc (mC (.slice BA Bm.l.length bc) (.slice BB Bm.th.length bb) Bm.deep) = w2 := ⟨_, rfl⟩
  have hr1a := hr1.alloc (mC (.slice BA Bm.l.length bc) (.slice BB Bm.th.length bb) Bm.deep)
  rw [hw2] at hq hb1a hz1 hr1a
  unfold mC at hw2
  have HW2 := Lib.hid hw2
  have HQ7 := Lib.hid hq
  have HB2 := Lib.hid hb1a
  have HZ2 := Lib.hid hz1
  have HR7 := Lib.hid hr1a
  have x5 := blk_cell (below_blk hb1a HX.out (blk_lt HX.out)) 5
  have m1' := blk_cell (below_blk hb1a HM.out (blk_lt HM.out)) 1
  have HO7 := Lib.hid ho1
  clear x4 m1 hx hm hd1 hq hb1a hz1 hr1a hw2 hr1 hr2 ho1 hb1
  go_wp2_with (have tk := HW2; clear tk; rw [HW2.out]; clear HW2)
  refine (HI2.out w2 HB2.out).mono ?_
  intro E w3 hd3
  obtain ⟨OA, oc, OB, ob, rfl, hb3, hr3, _, ho3⟩ := hd3.split
  have hq := blk_new w3 (mC (.slice OA Om.l.length oc) (.slice OB Om.th.length ob) Om.deep)
  have hb4 : Below w0.heap.size w0 (w3.alloc (mC (.slice OA Om.l.length oc) (.slice OB Om.th.length ob) Om.deep)) := (HB2.out.trans (hb3.mono HB2.out.size)).al
  have hb24 : Below w2.heap.size w2 (w3.alloc (mC (.slice OA Om.l.length oc) (.slice OB Om.th.length ob) Om.deep)) := hb3.al
  have hr8 := hr3.alloc (mC (.slice OA Om.l.length oc) (.slice OB Om.th.length ob) Om.deep)
  have hz3 : (w3.alloc (mC (.slice OA Om.l.length oc) (.slice OB Om.th.length ob) Om.deep)).heap.size = w3.heap.size + 1 := size_al _ _
  obtain ⟨w4, hw4⟩ : ∃ w4, w3.alloc (mC (.slice OA Om.l.length oc) (.slice OB Om.th.length ob) Om.deep) = w4 := ⟨_, rfl⟩
  rw [hw4] at hq hb4 hb24 hr8 hz3
  unfold mC at hw4
  have hz23 := hb3.size
  have HW4 := Lib.hid hw4
  have HBR := Lib.hid (show BrAt wb w #[.int .i64 s.kind, .string s.name, .int .i64 s.cell, .slice A0 s.args.length c0, .slice A1 s.body.length c1, .slice A2 s.els.length c2] w1.heap.size w3.heap.size (.slice BA Bm.l.length bc, .slice BB Bm.th.length bb, Bm.deep) (.slice OA Om.l.length oc, .slice OB Om.th.length ob, Om.deep) Bm.l Om.l th w4 X XA xc TA tc from
    ⟨HB.out.trans ((HB0.out.trans (hb4.mono HB0.out.size)).mono HB.out.size), (FrI.refl w).below (HB0.out.trans (hb4.mono HB0.out.size)), below_blk hb4 HX.out (blk_lt HX.out), below_blk hb4 HM.out (blk_lt HM.out), below_blk hb4 HY.out (blk_lt HY.out), below_blk hb24 HQ7.out (blk_lt HQ7.out), hq, HXR.out.below hb4, HT.out.below hb4, HXO.out,
      ⟨HR7.out.below hb24, fun g hg e => by have := HO7.out g hg; have := HXLT.out g e; have := HZ.out; omega⟩, ⟨hr8, fun g hg e => by have := ho3 g hg; have := HXLT.out g e; have := HZ.out; have := HB2.out.size; omega⟩, by have := HZ.out; have := HZ1.out; omega, by have := HZ.out; have := HZ2.out; have := HZ1.out; omega, hbw⟩)
  have HNE := Lib.hid (HBR.out.rl.ne HBR.out.mm (by decide))
  clear x5 m1' hd3 hq hb4 hb24 hr8 hw4 hb3 hr3 hz3 hz23 ho3
  have x5 := blk_cell HBR.out.sx 5
  have n5 := fun o => blk_cell (blk_alloc HBR.out.sx o) 5
  have m0 := blk_cell HBR.out.mm 0
  have y7 := blk_cell HBR.out.b7 0
  have hce : (((X.length + 1 + Bm.l.length : Nat) : Int)) = (X.length : Int) + 1 + (Bm.l.length : Int) := by omega
  have hce1 : (((X.length + 1 + Bm.l.length + 1 : Nat) : Int)) = (X.length : Int) + 1 + (Bm.l.length : Int) + 1 := by omega
  have hce2 : (((X.length + 1 + Bm.l.length + 1 + Om.l.length : Nat) : Int)) = (X.length : Int) + 1 + (Bm.l.length : Int) + 1 + (Om.l.length : Int) := by omega
  have hw1 : IntKind.i64.wrap ((X.length : Int) + 1) = (X.length : Int) + 1 := by simp [IntKind.wrap, IntKind.signed, IntKind.bits]; omega
  have HW1 := Lib.hid hw1
  clear hw1
  have HCE := Lib.hid hce
  have HCE1 := Lib.hid hce1
  have HCE2 := Lib.hid hce2
  clear hce hce1 hce2
  by_cases hz : s.els.length = 0
  · have hz' : ¬ ((s.els.length : Int) > 0) := by omega
    have HPO := Lib.hid (show brM X a th Bm Om s.els.length = ifM0 X a th Bm Om by unfold brM; rw [if_pos hz])
    clear hz
    go_wp2_with (first
      | (have tk := HW4; clear tk; rw [HW4.out]; clear HW4)
      | (at_builtin; go_must (refine wpList_append_rows _ rfl _ _ 24 rfl 42 (.agg #[.int .i64 0, .int .i64 0, .int .i64 0, .int .i64 0, .int .i64 0, .int .i64 0]) 6 48 Try.underlying24 info_ins rfl (.slice XA X.length xc) (X.length) (insCells X) rfl (HBR.out.rl.alloc _) (.slice (some ⟨w4.heap.size, 0, none⟩) 1 1) 1 [.int .i64 11, .int .i64 0, .int .i64 a, .int .i64 0, .int .i64 0, .int .i64 ((X.length : Int) + 1 + (Bm.l.length : Int))] rfl (Row.laid (n := 1) (cs := #[.int .i64 11, .int .i64 0, .int .i64 a, .int .i64 0, .int .i64 0, .int .i64 ((X.length : Int) + 1 + (Bm.l.length : Int))]) (size := 6) rfl rfl (by decide)) (by simp [Value.oneCell']) (by unfold maxLen; omega) (by omega) ?_); intro v' w' hrow' hgrow hown; obtain ⟨A5, c5, hv', hc'⟩ := hrow'.slice; subst hv'; have hbb := grown_blk hgrow (blk_alloc HBR.out.mm _) HNE.out; have fb := blk_cell hbb 0; have ff := blk_free hbb))
    have hps := ((HBR.out.below (Below.refl w4.heap.size w4).al).push (Y := [(⟨11, 0, a, 0, 0, ((X.length + 1 + Bm.l.length : Nat) : Int)⟩ : Ins)]) rfl (by simp only [insCells, Ins.cells, HCE.out, List.append_nil]; exact hrow') hgrow hown)
    obtain ⟨L5, hL5⟩ : ∃ l, X ++ [(⟨11, 0, a, 0, 0, ((X.length + 1 + Bm.l.length : Nat) : Int)⟩ : Ins)] = l := ⟨_, rfl⟩
    obtain ⟨w5, hw5⟩ : ∃ x, w'.setCell ⟨w.heap.size + 1, 0, none⟩ (.slice A5 (X.length + 1) c5) = x := ⟨_, rfl⟩
    have hll5 : L5.length ≤ X.length + 1 := by rw [← hL5]; simp
    rw [hL5] at hps
    have hrr : w'.setCell ⟨w.heap.size + 1, 0, none⟩ (.slice A5 (X.length + ([(⟨11, 0, a, 0, 0, ((X.length + 1 + Bm.l.length : Nat) : Int)⟩ : Ins)]).length) c5) = w5 := hw5
    rw [hrr] at hps
    rw [hw5]
    have HBR5 := Lib.hid hps
    have HL5 := Lib.hid hL5
    clear hps hL5 hw5 hrr hrow' hgrow hown hbb fb ff m0 y7 x5 n5
    have m0 := blk_cell HBR5.out.mm 0
    have y7 := blk_cell HBR5.out.b7 0
    obtain ⟨L6, hL6⟩ : ∃ l, L5 ++ Bm.l.map (mvw (X.length + 1)) = l := ⟨_, rfl⟩
    have HL6 := Lib.hid hL6
    have hll6 : L6.length ≤ L5.length + Bm.l.length := by rw [← hL6]; simp
    clear hL6
    go_cut [9] from 11 to 83 (fun a_ wx => a_ = .int .i64 (X.length : Int) ∧ ∃ A c, Hid (BrAt wb w #[.int .i64 s.kind, .string s.name, .int .i64 s.cell, .slice A0 s.args.length c0, .slice A1 s.body.length c1, .slice A2 s.els.length c2] w1.heap.size w3.heap.size (.slice BA Bm.l.length bc, .slice BB Bm.th.length bb, Bm.deep) (.slice OA Om.l.length oc, .slice OB Om.th.length ob, Om.deep) Bm.l Om.l th wx L6 A c TA tc))
    case first =>
      have hw1 := HW1.out
      refine wp_region_held_drew (S := fun V => V.cell? ⟨w1.heap.size, 0, none⟩ = some (.slice BA Bm.l.length bc)) (by kernel_rfl) y7 (fun hHeld => ?_)
      refine wpAnyH_take (i := 0) (oi := ⟨some 44, _, _, _, _, _⟩) (v := .pointer (some ⟨w.heap.size + 1, 0, none⟩)) rfl (by kernel_rfl) (by kernel_rfl) (by kernel_rfl) (fun _ _ _ h => h) (Or.inl ⟨by rfl, fun V hV => by go_simp⟩) (by assumption) ?_
      try simp only [Act.put, List.setIfInBounds_toArray, List.set_cons_zero, List.set_cons_succ]
      refine wpAnyH_take (i := 2) (oi := ⟨some 46, _, _, _, _, _⟩) (v := .pointer (some ⟨w1.heap.size, 0, none⟩)) rfl (by kernel_rfl) (by kernel_rfl) (by kernel_rfl) (fun _ _ _ h => h) (Or.inl ⟨by rfl, fun V hV => by go_simp⟩) (by assumption) ?_
      try simp only [Act.put, List.setIfInBounds_toArray, List.set_cons_zero, List.set_cons_succ]
      refine wpAnyH_take (i := 3) (oi := ⟨some 47, _, _, _, _, _⟩) (v := .slice BA Bm.l.length bc) rfl (by kernel_rfl) (by kernel_rfl) (by kernel_rfl) (fun _ _ _ h => h) (Or.inl ⟨by rfl, fun V hV => by have q9 := hV; go_simp⟩) (by assumption) ?_
      try simp only [Act.put, List.setIfInBounds_toArray, List.set_cons_zero, List.set_cons_succ]
      refine wpAnyH_take (i := 4) (oi := ⟨some 48, _, _, _, _, _⟩) (v := .int .i64 (X.length : Int)) rfl (by kernel_rfl) (by kernel_rfl) (by kernel_rfl) (fun _ _ _ h => h) (Or.inl ⟨by rfl, fun V hV => by go_simp⟩) (by assumption) ?_
      try simp only [Act.put, List.setIfInBounds_toArray, List.set_cons_zero, List.set_cons_succ]
      refine wpAnyH_take (i := 5) (oi := ⟨some 49, _, _, _, _, _⟩) (v := .int .i64 ((X.length : Int) + 1)) rfl (by kernel_rfl) (by kernel_rfl) (by kernel_rfl) (fun _ _ _ h => h) (Or.inl ⟨by rfl, fun V hV => by go_simp⟩) (by assumption) ?_
      try simp only [Act.put, List.setIfInBounds_toArray, List.set_cons_zero, List.set_cons_succ]
      refine wpAnyH_ready (rs := [1, 6]) (by kernel_rfl) (by simp) ?_
      refine AllReadyH.cons (o := ⟨some 45, _, _, _, _, _⟩) rfl (fun K hK => ?_) ?_
      · go_simp
        refine hK.out _ _ (hHeld) (fun hHeld' => ?_)
        clear hK K hHeld
        have hHeld := hHeld'
        clear hHeld'
        try simp only [Act.put, List.setIfInBounds_toArray, List.set_cons_zero, List.set_cons_succ]
        refine wpAnyH_ready (rs := [6]) (by kernel_rfl) (by simp) ?_
        refine AllReadyH.cons (o := ⟨some 50, _, _, _, _, _⟩) rfl (fun K hK => ?_) AllReadyH.nil
        go_simp
        refine (movedw_int w5.drew Bm.l (.slice BA Bm.l.length bc) (X.length + 1) ((X.length : Int) + 1) (by omega) HBR5.out.r7.1.drewed (by omega)).mono ?_
        rintro E w1' ⟨hb1, V1, rfl, hr1, ho1⟩
        obtain ⟨V1A, v1c, hv1, _⟩ := hr1.slice
        subst hv1
        have hbc1 : Below w5.heap.size w5 w1' := below_fromdrew hb1
        have p0' := blk_cell (HBR5.out.below hbc1).mm 0
        refine hK.out _ _ (blk_cell (HBR5.out.below hbc1).b7 0) (fun hHeld' => ?_)
        clear hK K hHeld
        have hHeld := hHeld'
        clear hHeld'
        try simp only [Act.put, List.setIfInBounds_toArray, List.set_cons_zero, List.set_cons_succ]
        refine wpAnyH_ready (rs := [7]) (by kernel_rfl) (by simp) ?_
        refine AllReadyH.cons (o := ⟨some 51, _, _, _, _, _⟩) rfl (fun K hK => ?_) AllReadyH.nil
        refine step_append_rows (by rfl) _ _ 24 (by rfl) 42 (.agg #[.int .i64 0, .int .i64 0, .int .i64 0, .int .i64 0, .int .i64 0, .int .i64 0]) 6 48 Try.underlying24 info_ins rfl (.slice A5 L5.length c5) L5.length (insCells L5) (by rfl) (HBR5.out.below hbc1).rl (.slice V1A Bm.l.length v1c) Bm.l.length (insCells (Bm.l.map (mvw (X.length + 1)))) (by rfl) hr1 (insCells_one _) (by unfold maxLen; omega) (by omega) ?_
        intro v' w' hrow' hgrow hown
        obtain ⟨A', c', hv', hc'⟩ := hrow'.slice
        subst hv'
        have hbb := grown_blk hgrow (HBR5.out.below hbc1).mm ((HBR5.out.below hbc1).rl.ne (HBR5.out.below hbc1).mm (by decide))
        have fb := blk_cell hbb 0
        have ff := blk_free hbb
        have hps := ((HBR5.out.below hbc1).push (Y := Bm.l.map (mvw (X.length + 1))) (by simp) hrow' hgrow hown)
        refine hK.out _ _ (blk_cell (grown_blk hgrow (HBR5.out.below hbc1).b7 ((HBR5.out.below hbc1).rl.ne (HBR5.out.below hbc1).b7 (by decide))) 0) (fun hHeld' => ?_)
        clear hK K hHeld
        have hHeld := hHeld'
        clear hHeld'
        try simp only [Act.put, List.setIfInBounds_toArray, List.set_cons_zero, List.set_cons_succ]
        refine wpAnyH_take (i := 8) (oi := ⟨some 52, _, _, _, _, _⟩) (v := .pointer (some ⟨w.heap.size + 1, 0, none⟩)) rfl (by kernel_rfl) (by kernel_rfl) (by kernel_rfl) (fun _ _ _ h => h) (Or.inl ⟨by rfl, fun V hV => by go_simp⟩) (by assumption) ?_
        try simp only [Act.put, List.setIfInBounds_toArray, List.set_cons_zero, List.set_cons_succ]
        refine wpAnyH_ready (rs := [9]) (by kernel_rfl) (by simp) ?_
        refine AllReadyH.cons (o := ⟨none, _, _, _, _, _⟩) rfl (fun K hK => ?_) AllReadyH.nil
        go_simp
        refine hK.out _ _ (blk_cell hps.b7 0) (fun hHeld' => ?_)
        clear hK K hHeld
        have hHeld := hHeld'
        clear hHeld'
        try simp only [Act.put, List.setIfInBounds_toArray, List.set_cons_zero, List.set_cons_succ]
        refine wpAnyH_done (by kernel_rfl) ?_ _
        rw [HL6.out] at hps
        go_wp2_with fail
        go_meet
        exact ⟨rfl, A', c', Lib.hid hps⟩
      · refine AllReadyH.cons (o := ⟨some 50, _, _, _, _, _⟩) rfl (fun K hK => ?_) AllReadyH.nil
        go_simp
        refine (movedw_int w5.drew Bm.l (.slice BA Bm.l.length bc) (X.length + 1) ((X.length : Int) + 1) (by omega) HBR5.out.r7.1.drewed (by omega)).mono ?_
        rintro E w1' ⟨hb1, V1, rfl, hr1, ho1⟩
        obtain ⟨V1A, v1c, hv1, _⟩ := hr1.slice
        subst hv1
        have hbc1 : Below w5.heap.size w5 w1' := below_fromdrew hb1
        have p0' := blk_cell (HBR5.out.below hbc1).mm 0
        refine hK.out _ _ (blk_cell (HBR5.out.below hbc1).b7 0) (fun hHeld' => ?_)
        clear hK K hHeld
        have hHeld := hHeld'
        clear hHeld'
        try simp only [Act.put, List.setIfInBounds_toArray, List.set_cons_zero, List.set_cons_succ]
        refine wpAnyH_ready (rs := [1]) (by kernel_rfl) (by simp) ?_
        refine AllReadyH.cons (o := ⟨some 45, _, _, _, _, _⟩) rfl (fun K hK => ?_) AllReadyH.nil
        go_simp
        refine hK.out _ _ (hHeld) (fun hHeld' => ?_)
        clear hK K hHeld
        have hHeld := hHeld'
        clear hHeld'
        try simp only [Act.put, List.setIfInBounds_toArray, List.set_cons_zero, List.set_cons_succ]
        refine wpAnyH_ready (rs := [7]) (by kernel_rfl) (by simp) ?_
        refine AllReadyH.cons (o := ⟨some 51, _, _, _, _, _⟩) rfl (fun K hK => ?_) AllReadyH.nil
        refine step_append_rows (by rfl) _ _ 24 (by rfl) 42 (.agg #[.int .i64 0, .int .i64 0, .int .i64 0, .int .i64 0, .int .i64 0, .int .i64 0]) 6 48 Try.underlying24 info_ins rfl (.slice A5 L5.length c5) L5.length (insCells L5) (by rfl) (HBR5.out.below hbc1).rl (.slice V1A Bm.l.length v1c) Bm.l.length (insCells (Bm.l.map (mvw (X.length + 1)))) (by rfl) hr1 (insCells_one _) (by unfold maxLen; omega) (by omega) ?_
        intro v' w' hrow' hgrow hown
        obtain ⟨A', c', hv', hc'⟩ := hrow'.slice
        subst hv'
        have hbb := grown_blk hgrow (HBR5.out.below hbc1).mm ((HBR5.out.below hbc1).rl.ne (HBR5.out.below hbc1).mm (by decide))
        have fb := blk_cell hbb 0
        have ff := blk_free hbb
        have hps := ((HBR5.out.below hbc1).push (Y := Bm.l.map (mvw (X.length + 1))) (by simp) hrow' hgrow hown)
        refine hK.out _ _ (blk_cell (grown_blk hgrow (HBR5.out.below hbc1).b7 ((HBR5.out.below hbc1).rl.ne (HBR5.out.below hbc1).b7 (by decide))) 0) (fun hHeld' => ?_)
        clear hK K hHeld
        have hHeld := hHeld'
        clear hHeld'
        try simp only [Act.put, List.setIfInBounds_toArray, List.set_cons_zero, List.set_cons_succ]
        refine wpAnyH_take (i := 8) (oi := ⟨some 52, _, _, _, _, _⟩) (v := .pointer (some ⟨w.heap.size + 1, 0, none⟩)) rfl (by kernel_rfl) (by kernel_rfl) (by kernel_rfl) (fun _ _ _ h => h) (Or.inl ⟨by rfl, fun V hV => by go_simp⟩) (by assumption) ?_
        try simp only [Act.put, List.setIfInBounds_toArray, List.set_cons_zero, List.set_cons_succ]
        refine wpAnyH_ready (rs := [9]) (by kernel_rfl) (by simp) ?_
        refine AllReadyH.cons (o := ⟨none, _, _, _, _, _⟩) rfl (fun K hK => ?_) AllReadyH.nil
        go_simp
        refine hK.out _ _ (blk_cell hps.b7 0) (fun hHeld' => ?_)
        clear hK K hHeld
        have hHeld := hHeld'
        clear hHeld'
        try simp only [Act.put, List.setIfInBounds_toArray, List.set_cons_zero, List.set_cons_succ]
        refine wpAnyH_done (by kernel_rfl) ?_ _
        rw [HL6.out] at hps
        go_wp2_with fail
        go_meet
        exact ⟨rfl, A', c', Lib.hid hps⟩
    case rest =>
      obtain ⟨rfl, A6, c6, HBR6⟩ := hcut
      clear m0 y7
      have HPD := Lib.hid (show L6 = X ++ [⟨11, 0, a, 0, 0, ((X.length + 1 + Bm.l.length : Nat) : Int)⟩] ++ Bm.l.map (mvw (X.length + 1)) by rw [← HL6.out, ← HL5.out])
      have x5 := blk_cell HBR6.out.sx 5
      have d7 := blk_cell HBR6.out.b7 2
      have d8 := blk_cell HBR6.out.b8 2
      have m0 := blk_cell HBR6.out.mm 0
      have m1 := blk_cell HBR6.out.mm 1
      have m2 := blk_cell HBR6.out.mm 2
      have mf := blk_free HBR6.out.mm
      have HF := Lib.hid (fun d u0 u1 u2 E h => HBR6.out.last d u0 u1 u2 (E := E) h)
      have HRS := Lib.hid (fun u => blk_far HBR6.out.res (show w.heap.size + 1 + 1 ≠ (⟨w.heap.size + 1, 2, none⟩ : Addr).block from by show w.heap.size + 1 + 1 ≠ w.heap.size + 1; omega) u)
      have r0 := fun u => blk_cell (HRS.out u) 0
      have r1 := fun u => blk_cell (HRS.out u) 1
      have r2 := fun u => blk_cell (HRS.out u) 2
      have rf := fun u => blk_free (HRS.out u)
      cases hbd : Bm.deep with
      | true =>
        rw [hbd] at d7
        have HPX := Lib.hid (show ifM0 X a th Bm Om = ⟨L6, th, true⟩ by unfold ifM0; rw [HPD.out, hbd, Bool.true_or])
        clear hbd
        go_wp2_with fail
        refine bodyPost_ret (results_cell rfl _ _ (w.heap.size + 1 + 1) [.slice A6 L6.length c6, .slice TA th.length tc, .bool true] (by rfl) (range_at (blk_set (blk_set (blk_set (HRS.out _) 0 _) 1 _) 2 _) 0 [.slice A6 L6.length c6, .slice TA th.length tc, .bool true] rfl) rfl rfl (by kernel_rfl)) rfl ?_
        rw [HPO.out, HPX.out]
        exact HF.out _ _ _ _ _ rfl
      | false =>
        rw [hbd] at d7
        have HPX := Lib.hid (show ifM0 X a th Bm Om = ⟨L6, th, Om.deep⟩ by unfold ifM0; rw [HPD.out, hbd, Bool.false_or])
        clear hbd
        go_wp2_with fail
        refine bodyPost_ret (results_cell rfl _ _ (w.heap.size + 1 + 1) [.slice A6 L6.length c6, .slice TA th.length tc, .bool Om.deep] (by rfl) (range_at (blk_set (blk_set (blk_set (HRS.out _) 0 _) 1 _) 2 _) 0 [.slice A6 L6.length c6, .slice TA th.length tc, .bool Om.deep] rfl) rfl rfl (by kernel_rfl)) rfl ?_
        rw [HPO.out, HPX.out]
        exact HF.out _ _ _ _ _ rfl
  · have hz' : (s.els.length : Int) > 0 := by omega
    have HPO := Lib.hid (show brM X a th Bm Om s.els.length = ifM1 X a th Bm Om by unfold brM; rw [if_neg hz])
    clear hz
    go_wp2_with (first
      | (have tk := HW4; clear tk; rw [HW4.out]; clear HW4)
      | (at_builtin; go_must (refine wpList_append_rows _ rfl _ _ 24 rfl 42 (.agg #[.int .i64 0, .int .i64 0, .int .i64 0, .int .i64 0, .int .i64 0, .int .i64 0]) 6 48 Try.underlying24 info_ins rfl (.slice XA X.length xc) (X.length) (insCells X) rfl (HBR.out.rl.alloc _) (.slice (some ⟨w4.heap.size, 0, none⟩) 1 1) 1 [.int .i64 11, .int .i64 0, .int .i64 a, .int .i64 0, .int .i64 0, .int .i64 ((X.length : Int) + 1 + (Bm.l.length : Int) + 1)] rfl (Row.laid (n := 1) (cs := #[.int .i64 11, .int .i64 0, .int .i64 a, .int .i64 0, .int .i64 0, .int .i64 ((X.length : Int) + 1 + (Bm.l.length : Int) + 1)]) (size := 6) rfl rfl (by decide)) (by simp [Value.oneCell']) (by unfold maxLen; omega) (by omega) ?_); intro v' w' hrow' hgrow hown; obtain ⟨A5, c5, hv', hc'⟩ := hrow'.slice; subst hv'; have hbb := grown_blk hgrow (blk_alloc HBR.out.mm _) HNE.out; have fb := blk_cell hbb 0; have ff := blk_free hbb))
    have hps := ((HBR.out.below (Below.refl w4.heap.size w4).al).push (Y := [(⟨11, 0, a, 0, 0, ((X.length + 1 + Bm.l.length + 1 : Nat) : Int)⟩ : Ins)]) rfl (by simp only [insCells, Ins.cells, HCE1.out, List.append_nil]; exact hrow') hgrow hown)
    obtain ⟨L5, hL5⟩ : ∃ l, X ++ [(⟨11, 0, a, 0, 0, ((X.length + 1 + Bm.l.length + 1 : Nat) : Int)⟩ : Ins)] = l := ⟨_, rfl⟩
    obtain ⟨w5, hw5⟩ : ∃ x, w'.setCell ⟨w.heap.size + 1, 0, none⟩ (.slice A5 (X.length + 1) c5) = x := ⟨_, rfl⟩
    have hll5 : L5.length ≤ X.length + 1 := by rw [← hL5]; simp
    rw [hL5] at hps
    have hrr : w'.setCell ⟨w.heap.size + 1, 0, none⟩ (.slice A5 (X.length + ([(⟨11, 0, a, 0, 0, ((X.length + 1 + Bm.l.length + 1 : Nat) : Int)⟩ : Ins)]).length) c5) = w5 := hw5
    rw [hrr] at hps
    rw [hw5]
    have HBR5 := Lib.hid hps
    have HL5 := Lib.hid hL5
    clear hps hL5 hw5 hrr hrow' hgrow hown hbb fb ff m0 y7 x5 n5
    have m0 := blk_cell HBR5.out.mm 0
    have y7 := blk_cell HBR5.out.b7 0
    obtain ⟨L6, hL6⟩ : ∃ l, L5 ++ Bm.l.map (mvw (X.length + 1)) = l := ⟨_, rfl⟩
    have HL6 := Lib.hid hL6
    have hll6 : L6.length ≤ L5.length + Bm.l.length := by rw [← hL6]; simp
    clear hL6
    go_cut [9] from 11 to 83 (fun a_ wx => a_ = .int .i64 (X.length : Int) ∧ ∃ A c, Hid (BrAt wb w #[.int .i64 s.kind, .string s.name, .int .i64 s.cell, .slice A0 s.args.length c0, .slice A1 s.body.length c1, .slice A2 s.els.length c2] w1.heap.size w3.heap.size (.slice BA Bm.l.length bc, .slice BB Bm.th.length bb, Bm.deep) (.slice OA Om.l.length oc, .slice OB Om.th.length ob, Om.deep) Bm.l Om.l th wx L6 A c TA tc))
    case first =>
      have hw1 := HW1.out
      refine wp_region_held_drew (S := fun V => V.cell? ⟨w1.heap.size, 0, none⟩ = some (.slice BA Bm.l.length bc)) (by kernel_rfl) y7 (fun hHeld => ?_)
      refine wpAnyH_take (i := 0) (oi := ⟨some 44, _, _, _, _, _⟩) (v := .pointer (some ⟨w.heap.size + 1, 0, none⟩)) rfl (by kernel_rfl) (by kernel_rfl) (by kernel_rfl) (fun _ _ _ h => h) (Or.inl ⟨by rfl, fun V hV => by go_simp⟩) (by assumption) ?_
      try simp only [Act.put, List.setIfInBounds_toArray, List.set_cons_zero, List.set_cons_succ]
      refine wpAnyH_take (i := 2) (oi := ⟨some 46, _, _, _, _, _⟩) (v := .pointer (some ⟨w1.heap.size, 0, none⟩)) rfl (by kernel_rfl) (by kernel_rfl) (by kernel_rfl) (fun _ _ _ h => h) (Or.inl ⟨by rfl, fun V hV => by go_simp⟩) (by assumption) ?_
      try simp only [Act.put, List.setIfInBounds_toArray, List.set_cons_zero, List.set_cons_succ]
      refine wpAnyH_take (i := 3) (oi := ⟨some 47, _, _, _, _, _⟩) (v := .slice BA Bm.l.length bc) rfl (by kernel_rfl) (by kernel_rfl) (by kernel_rfl) (fun _ _ _ h => h) (Or.inl ⟨by rfl, fun V hV => by have q9 := hV; go_simp⟩) (by assumption) ?_
      try simp only [Act.put, List.setIfInBounds_toArray, List.set_cons_zero, List.set_cons_succ]
      refine wpAnyH_take (i := 4) (oi := ⟨some 48, _, _, _, _, _⟩) (v := .int .i64 (X.length : Int)) rfl (by kernel_rfl) (by kernel_rfl) (by kernel_rfl) (fun _ _ _ h => h) (Or.inl ⟨by rfl, fun V hV => by go_simp⟩) (by assumption) ?_
      try simp only [Act.put, List.setIfInBounds_toArray, List.set_cons_zero, List.set_cons_succ]
      refine wpAnyH_take (i := 5) (oi := ⟨some 49, _, _, _, _, _⟩) (v := .int .i64 ((X.length : Int) + 1)) rfl (by kernel_rfl) (by kernel_rfl) (by kernel_rfl) (fun _ _ _ h => h) (Or.inl ⟨by rfl, fun V hV => by go_simp⟩) (by assumption) ?_
      try simp only [Act.put, List.setIfInBounds_toArray, List.set_cons_zero, List.set_cons_succ]
      refine wpAnyH_ready (rs := [1, 6]) (by kernel_rfl) (by simp) ?_
      refine AllReadyH.cons (o := ⟨some 45, _, _, _, _, _⟩) rfl (fun K hK => ?_) ?_
      · go_simp
        refine hK.out _ _ (hHeld) (fun hHeld' => ?_)
        clear hK K hHeld
        have hHeld := hHeld'
        clear hHeld'
        try simp only [Act.put, List.setIfInBounds_toArray, List.set_cons_zero, List.set_cons_succ]
        refine wpAnyH_ready (rs := [6]) (by kernel_rfl) (by simp) ?_
        refine AllReadyH.cons (o := ⟨some 50, _, _, _, _, _⟩) rfl (fun K hK => ?_) AllReadyH.nil
        go_simp
        refine (movedw_int w5.drew Bm.l (.slice BA Bm.l.length bc) (X.length + 1) ((X.length : Int) + 1) (by omega) HBR5.out.r7.1.drewed (by omega)).mono ?_
        rintro E w1' ⟨hb1, V1, rfl, hr1, ho1⟩
        obtain ⟨V1A, v1c, hv1, _⟩ := hr1.slice
        subst hv1
        have hbc1 : Below w5.heap.size w5 w1' := below_fromdrew hb1
        have p0' := blk_cell (HBR5.out.below hbc1).mm 0
        refine hK.out _ _ (blk_cell (HBR5.out.below hbc1).b7 0) (fun hHeld' => ?_)
        clear hK K hHeld
        have hHeld := hHeld'
        clear hHeld'
        try simp only [Act.put, List.setIfInBounds_toArray, List.set_cons_zero, List.set_cons_succ]
        refine wpAnyH_ready (rs := [7]) (by kernel_rfl) (by simp) ?_
        refine AllReadyH.cons (o := ⟨some 51, _, _, _, _, _⟩) rfl (fun K hK => ?_) AllReadyH.nil
        refine step_append_rows (by rfl) _ _ 24 (by rfl) 42 (.agg #[.int .i64 0, .int .i64 0, .int .i64 0, .int .i64 0, .int .i64 0, .int .i64 0]) 6 48 Try.underlying24 info_ins rfl (.slice A5 L5.length c5) L5.length (insCells L5) (by rfl) (HBR5.out.below hbc1).rl (.slice V1A Bm.l.length v1c) Bm.l.length (insCells (Bm.l.map (mvw (X.length + 1)))) (by rfl) hr1 (insCells_one _) (by unfold maxLen; omega) (by omega) ?_
        intro v' w' hrow' hgrow hown
        obtain ⟨A', c', hv', hc'⟩ := hrow'.slice
        subst hv'
        have hbb := grown_blk hgrow (HBR5.out.below hbc1).mm ((HBR5.out.below hbc1).rl.ne (HBR5.out.below hbc1).mm (by decide))
        have fb := blk_cell hbb 0
        have ff := blk_free hbb
        have hps := ((HBR5.out.below hbc1).push (Y := Bm.l.map (mvw (X.length + 1))) (by simp) hrow' hgrow hown)
        refine hK.out _ _ (blk_cell (grown_blk hgrow (HBR5.out.below hbc1).b7 ((HBR5.out.below hbc1).rl.ne (HBR5.out.below hbc1).b7 (by decide))) 0) (fun hHeld' => ?_)
        clear hK K hHeld
        have hHeld := hHeld'
        clear hHeld'
        try simp only [Act.put, List.setIfInBounds_toArray, List.set_cons_zero, List.set_cons_succ]
        refine wpAnyH_take (i := 8) (oi := ⟨some 52, _, _, _, _, _⟩) (v := .pointer (some ⟨w.heap.size + 1, 0, none⟩)) rfl (by kernel_rfl) (by kernel_rfl) (by kernel_rfl) (fun _ _ _ h => h) (Or.inl ⟨by rfl, fun V hV => by go_simp⟩) (by assumption) ?_
        try simp only [Act.put, List.setIfInBounds_toArray, List.set_cons_zero, List.set_cons_succ]
        refine wpAnyH_ready (rs := [9]) (by kernel_rfl) (by simp) ?_
        refine AllReadyH.cons (o := ⟨none, _, _, _, _, _⟩) rfl (fun K hK => ?_) AllReadyH.nil
        go_simp
        refine hK.out _ _ (blk_cell hps.b7 0) (fun hHeld' => ?_)
        clear hK K hHeld
        have hHeld := hHeld'
        clear hHeld'
        try simp only [Act.put, List.setIfInBounds_toArray, List.set_cons_zero, List.set_cons_succ]
        refine wpAnyH_done (by kernel_rfl) ?_ _
        rw [HL6.out] at hps
        go_wp2_with fail
        go_meet
        exact ⟨rfl, A', c', Lib.hid hps⟩
      · refine AllReadyH.cons (o := ⟨some 50, _, _, _, _, _⟩) rfl (fun K hK => ?_) AllReadyH.nil
        go_simp
        refine (movedw_int w5.drew Bm.l (.slice BA Bm.l.length bc) (X.length + 1) ((X.length : Int) + 1) (by omega) HBR5.out.r7.1.drewed (by omega)).mono ?_
        rintro E w1' ⟨hb1, V1, rfl, hr1, ho1⟩
        obtain ⟨V1A, v1c, hv1, _⟩ := hr1.slice
        subst hv1
        have hbc1 : Below w5.heap.size w5 w1' := below_fromdrew hb1
        have p0' := blk_cell (HBR5.out.below hbc1).mm 0
        refine hK.out _ _ (blk_cell (HBR5.out.below hbc1).b7 0) (fun hHeld' => ?_)
        clear hK K hHeld
        have hHeld := hHeld'
        clear hHeld'
        try simp only [Act.put, List.setIfInBounds_toArray, List.set_cons_zero, List.set_cons_succ]
        refine wpAnyH_ready (rs := [1]) (by kernel_rfl) (by simp) ?_
        refine AllReadyH.cons (o := ⟨some 45, _, _, _, _, _⟩) rfl (fun K hK => ?_) AllReadyH.nil
        go_simp
        refine hK.out _ _ (hHeld) (fun hHeld' => ?_)
        clear hK K hHeld
        have hHeld := hHeld'
        clear hHeld'
        try simp only [Act.put, List.setIfInBounds_toArray, List.set_cons_zero, List.set_cons_succ]
        refine wpAnyH_ready (rs := [7]) (by kernel_rfl) (by simp) ?_
        refine AllReadyH.cons (o := ⟨some 51, _, _, _, _, _⟩) rfl (fun K hK => ?_) AllReadyH.nil
        refine step_append_rows (by rfl) _ _ 24 (by rfl) 42 (.agg #[.int .i64 0, .int .i64 0, .int .i64 0, .int .i64 0, .int .i64 0, .int .i64 0]) 6 48 Try.underlying24 info_ins rfl (.slice A5 L5.length c5) L5.length (insCells L5) (by rfl) (HBR5.out.below hbc1).rl (.slice V1A Bm.l.length v1c) Bm.l.length (insCells (Bm.l.map (mvw (X.length + 1)))) (by rfl) hr1 (insCells_one _) (by unfold maxLen; omega) (by omega) ?_
        intro v' w' hrow' hgrow hown
        obtain ⟨A', c', hv', hc'⟩ := hrow'.slice
        subst hv'
        have hbb := grown_blk hgrow (HBR5.out.below hbc1).mm ((HBR5.out.below hbc1).rl.ne (HBR5.out.below hbc1).mm (by decide))
        have fb := blk_cell hbb 0
        have ff := blk_free hbb
        have hps := ((HBR5.out.below hbc1).push (Y := Bm.l.map (mvw (X.length + 1))) (by simp) hrow' hgrow hown)
        refine hK.out _ _ (blk_cell (grown_blk hgrow (HBR5.out.below hbc1).b7 ((HBR5.out.below hbc1).rl.ne (HBR5.out.below hbc1).b7 (by decide))) 0) (fun hHeld' => ?_)
        clear hK K hHeld
        have hHeld := hHeld'
        clear hHeld'
        try simp only [Act.put, List.setIfInBounds_toArray, List.set_cons_zero, List.set_cons_succ]
        refine wpAnyH_take (i := 8) (oi := ⟨some 52, _, _, _, _, _⟩) (v := .pointer (some ⟨w.heap.size + 1, 0, none⟩)) rfl (by kernel_rfl) (by kernel_rfl) (by kernel_rfl) (fun _ _ _ h => h) (Or.inl ⟨by rfl, fun V hV => by go_simp⟩) (by assumption) ?_
        try simp only [Act.put, List.setIfInBounds_toArray, List.set_cons_zero, List.set_cons_succ]
        refine wpAnyH_ready (rs := [9]) (by kernel_rfl) (by simp) ?_
        refine AllReadyH.cons (o := ⟨none, _, _, _, _, _⟩) rfl (fun K hK => ?_) AllReadyH.nil
        go_simp
        refine hK.out _ _ (blk_cell hps.b7 0) (fun hHeld' => ?_)
        clear hK K hHeld
        have hHeld := hHeld'
        clear hHeld'
        try simp only [Act.put, List.setIfInBounds_toArray, List.set_cons_zero, List.set_cons_succ]
        refine wpAnyH_done (by kernel_rfl) ?_ _
        rw [HL6.out] at hps
        go_wp2_with fail
        go_meet
        exact ⟨rfl, A', c', Lib.hid hps⟩
    case rest =>
      obtain ⟨rfl, A6, c6, HBR6⟩ := hcut
      clear m0 y7
      have x5 := blk_cell HBR6.out.sx 5
      have n5 := fun o => blk_cell (blk_alloc HBR6.out.sx o) 5
      have m0 := blk_cell HBR6.out.mm 0
      have y7 := blk_cell HBR6.out.b8 0
      have HNE6 := Lib.hid (HBR6.out.rl.ne HBR6.out.mm (by decide))
      go_wp2_with (at_builtin; go_must (refine wpList_append_rows _ rfl _ _ 24 rfl 42 (.agg #[.int .i64 0, .int .i64 0, .int .i64 0, .int .i64 0, .int .i64 0, .int .i64 0]) 6 48 Try.underlying24 info_ins rfl (.slice A6 L6.length c6) (L6.length) (insCells L6) rfl (HBR6.out.rl.alloc _) (.slice (some ⟨wc.heap.size, 0, none⟩) 1 1) 1 [.int .i64 10, .int .i64 0, .int .i64 0, .int .i64 0, .int .i64 0, .int .i64 ((X.length : Int) + 1 + (Bm.l.length : Int) + 1 + (Om.l.length : Int))] rfl (Row.laid (n := 1) (cs := #[.int .i64 10, .int .i64 0, .int .i64 0, .int .i64 0, .int .i64 0, .int .i64 ((X.length : Int) + 1 + (Bm.l.length : Int) + 1 + (Om.l.length : Int))]) (size := 6) rfl rfl (by decide)) (by simp [Value.oneCell']) (by unfold maxLen; omega) (by omega) ?_); intro v' w' hrow' hgrow hown; obtain ⟨A7, c7, hv', hc'⟩ := hrow'.slice; subst hv'; have hbb := grown_blk hgrow (blk_alloc HBR6.out.mm _) HNE6.out; have fb := blk_cell hbb 0; have ff := blk_free hbb)
      have hps := ((HBR6.out.below (Below.refl wc.heap.size wc).al).push (Y := [(⟨10, 0, 0, 0, 0, ((X.length + 1 + Bm.l.length + 1 + Om.l.length : Nat) : Int)⟩ : Ins)]) rfl (by simp only [insCells, Ins.cells, HCE2.out, List.append_nil]; exact hrow') hgrow hown)
      obtain ⟨L7, hL7⟩ : ∃ l, L6 ++ [(⟨10, 0, 0, 0, 0, ((X.length + 1 + Bm.l.length + 1 + Om.l.length : Nat) : Int)⟩ : Ins)] = l := ⟨_, rfl⟩
      obtain ⟨w7, hw7⟩ : ∃ x, w'.setCell ⟨w.heap.size + 1, 0, none⟩ (.slice A7 (L6.length + 1) c7) = x := ⟨_, rfl⟩
      have hll7 : L7.length ≤ L6.length + 1 := by rw [← hL7]; simp
      rw [hL7] at hps
      have hrr : w'.setCell ⟨w.heap.size + 1, 0, none⟩ (.slice A7 (L6.length + ([(⟨10, 0, 0, 0, 0, ((X.length + 1 + Bm.l.length + 1 + Om.l.length : Nat) : Int)⟩ : Ins)]).length) c7) = w7 := hw7
      rw [hrr] at hps
      rw [hw7]
      have HBR7 := Lib.hid hps
      have HL7 := Lib.hid hL7
      clear hps hL7 hw7 hrr hrow' hgrow hown hbb fb ff m0 y7 x5 n5
      have m0 := blk_cell HBR7.out.mm 0
      have y7 := blk_cell HBR7.out.b8 0
      obtain ⟨L8, hL8⟩ : ∃ l, L7 ++ Om.l.map (mvw (X.length + 1 + Bm.l.length + 1)) = l := ⟨_, rfl⟩
      have HL8 := Lib.hid hL8
      have hll8 : L8.length ≤ L7.length + Om.l.length := by rw [← hL8]; simp
      clear hL8
      go_cut [9] from 11 to 83 (fun a_ wx => a_ = .int .i64 (X.length : Int) ∧ ∃ A c, Hid (BrAt wb w #[.int .i64 s.kind, .string s.name, .int .i64 s.cell, .slice A0 s.args.length c0, .slice A1 s.body.length c1, .slice A2 s.els.length c2] w1.heap.size w3.heap.size (.slice BA Bm.l.length bc, .slice BB Bm.th.length bb, Bm.deep) (.slice OA Om.l.length oc, .slice OB Om.th.length ob, Om.deep) Bm.l Om.l th wx L8 A c TA tc))
      case first =>
        have hw1 := HW1.out
        refine wp_region_held_drew (S := fun V => V.cell? ⟨w3.heap.size, 0, none⟩ = some (.slice OA Om.l.length oc)) (by kernel_rfl) y7 (fun hHeld => ?_)
        refine wpAnyH_take (i := 0) (oi := ⟨some 68, _, _, _, _, _⟩) (v := .pointer (some ⟨w.heap.size + 1, 0, none⟩)) rfl (by kernel_rfl) (by kernel_rfl) (by kernel_rfl) (fun _ _ _ h => h) (Or.inl ⟨by rfl, fun V hV => by go_simp⟩) (by assumption) ?_
        try simp only [Act.put, List.setIfInBounds_toArray, List.set_cons_zero, List.set_cons_succ]
        refine wpAnyH_take (i := 2) (oi := ⟨some 70, _, _, _, _, _⟩) (v := .pointer (some ⟨w3.heap.size, 0, none⟩)) rfl (by kernel_rfl) (by kernel_rfl) (by kernel_rfl) (fun _ _ _ h => h) (Or.inl ⟨by rfl, fun V hV => by go_simp⟩) (by assumption) ?_
        try simp only [Act.put, List.setIfInBounds_toArray, List.set_cons_zero, List.set_cons_succ]
        refine wpAnyH_take (i := 3) (oi := ⟨some 71, _, _, _, _, _⟩) (v := .slice OA Om.l.length oc) rfl (by kernel_rfl) (by kernel_rfl) (by kernel_rfl) (fun _ _ _ h => h) (Or.inl ⟨by rfl, fun V hV => by have q9 := hV; go_simp⟩) (by assumption) ?_
        try simp only [Act.put, List.setIfInBounds_toArray, List.set_cons_zero, List.set_cons_succ]
        refine wpAnyH_take (i := 4) (oi := ⟨some 72, _, _, _, _, _⟩) (v := .int .i64 ((X.length : Int) + 1 + (Bm.l.length : Int) + 1)) rfl (by kernel_rfl) (by kernel_rfl) (by kernel_rfl) (fun _ _ _ h => h) (Or.inl ⟨by rfl, fun V hV => by go_simp⟩) (by assumption) ?_
        try simp only [Act.put, List.setIfInBounds_toArray, List.set_cons_zero, List.set_cons_succ]
        refine wpAnyH_ready (rs := [1, 5]) (by kernel_rfl) (by simp) ?_
        refine AllReadyH.cons (o := ⟨some 69, _, _, _, _, _⟩) rfl (fun K hK => ?_) ?_
        · go_simp
          refine hK.out _ _ (hHeld) (fun hHeld' => ?_)
          clear hK K hHeld
          have hHeld := hHeld'
          clear hHeld'
          try simp only [Act.put, List.setIfInBounds_toArray, List.set_cons_zero, List.set_cons_succ]
          refine wpAnyH_ready (rs := [5]) (by kernel_rfl) (by simp) ?_
          refine AllReadyH.cons (o := ⟨some 73, _, _, _, _, _⟩) rfl (fun K hK => ?_) AllReadyH.nil
          go_simp
          refine (movedw_int w7.drew Om.l (.slice OA Om.l.length oc) (X.length + 1 + Bm.l.length + 1) ((X.length : Int) + 1 + (Bm.l.length : Int) + 1) (by omega) HBR7.out.r8.1.drewed (by omega)).mono ?_
          rintro E w1' ⟨hb1, V1, rfl, hr1, ho1⟩
          obtain ⟨V1A, v1c, hv1, _⟩ := hr1.slice
          subst hv1
          have hbc1 : Below w7.heap.size w7 w1' := below_fromdrew hb1
          have p0' := blk_cell (HBR7.out.below hbc1).mm 0
          refine hK.out _ _ (blk_cell (HBR7.out.below hbc1).b8 0) (fun hHeld' => ?_)
          clear hK K hHeld
          have hHeld := hHeld'
          clear hHeld'
          try simp only [Act.put, List.setIfInBounds_toArray, List.set_cons_zero, List.set_cons_succ]
          refine wpAnyH_ready (rs := [6]) (by kernel_rfl) (by simp) ?_
          refine AllReadyH.cons (o := ⟨some 74, _, _, _, _, _⟩) rfl (fun K hK => ?_) AllReadyH.nil
          refine step_append_rows (by rfl) _ _ 24 (by rfl) 42 (.agg #[.int .i64 0, .int .i64 0, .int .i64 0, .int .i64 0, .int .i64 0, .int .i64 0]) 6 48 Try.underlying24 info_ins rfl (.slice A7 L7.length c7) L7.length (insCells L7) (by rfl) (HBR7.out.below hbc1).rl (.slice V1A Om.l.length v1c) Om.l.length (insCells (Om.l.map (mvw (X.length + 1 + Bm.l.length + 1)))) (by rfl) hr1 (insCells_one _) (by unfold maxLen; omega) (by omega) ?_
          intro v' w' hrow' hgrow hown
          obtain ⟨A', c', hv', hc'⟩ := hrow'.slice
          subst hv'
          have hbb := grown_blk hgrow (HBR7.out.below hbc1).mm ((HBR7.out.below hbc1).rl.ne (HBR7.out.below hbc1).mm (by decide))
          have fb := blk_cell hbb 0
          have ff := blk_free hbb
          have hps := ((HBR7.out.below hbc1).push (Y := Om.l.map (mvw (X.length + 1 + Bm.l.length + 1))) (by simp) hrow' hgrow hown)
          refine hK.out _ _ (blk_cell (grown_blk hgrow (HBR7.out.below hbc1).b8 ((HBR7.out.below hbc1).rl.ne (HBR7.out.below hbc1).b8 (by decide))) 0) (fun hHeld' => ?_)
          clear hK K hHeld
          have hHeld := hHeld'
          clear hHeld'
          try simp only [Act.put, List.setIfInBounds_toArray, List.set_cons_zero, List.set_cons_succ]
          refine wpAnyH_take (i := 7) (oi := ⟨some 75, _, _, _, _, _⟩) (v := .pointer (some ⟨w.heap.size + 1, 0, none⟩)) rfl (by kernel_rfl) (by kernel_rfl) (by kernel_rfl) (fun _ _ _ h => h) (Or.inl ⟨by rfl, fun V hV => by go_simp⟩) (by assumption) ?_
          try simp only [Act.put, List.setIfInBounds_toArray, List.set_cons_zero, List.set_cons_succ]
          refine wpAnyH_ready (rs := [8]) (by kernel_rfl) (by simp) ?_
          refine AllReadyH.cons (o := ⟨none, _, _, _, _, _⟩) rfl (fun K hK => ?_) AllReadyH.nil
          go_simp
          refine hK.out _ _ (blk_cell hps.b8 0) (fun hHeld' => ?_)
          clear hK K hHeld
          have hHeld := hHeld'
          clear hHeld'
          try simp only [Act.put, List.setIfInBounds_toArray, List.set_cons_zero, List.set_cons_succ]
          refine wpAnyH_done (by kernel_rfl) ?_ _
          rw [HL8.out] at hps
          go_wp2_with fail
          go_meet
          exact ⟨rfl, A', c', Lib.hid hps⟩
        · refine AllReadyH.cons (o := ⟨some 73, _, _, _, _, _⟩) rfl (fun K hK => ?_) AllReadyH.nil
          go_simp
          refine (movedw_int w7.drew Om.l (.slice OA Om.l.length oc) (X.length + 1 + Bm.l.length + 1) ((X.length : Int) + 1 + (Bm.l.length : Int) + 1) (by omega) HBR7.out.r8.1.drewed (by omega)).mono ?_
          rintro E w1' ⟨hb1, V1, rfl, hr1, ho1⟩
          obtain ⟨V1A, v1c, hv1, _⟩ := hr1.slice
          subst hv1
          have hbc1 : Below w7.heap.size w7 w1' := below_fromdrew hb1
          have p0' := blk_cell (HBR7.out.below hbc1).mm 0
          refine hK.out _ _ (blk_cell (HBR7.out.below hbc1).b8 0) (fun hHeld' => ?_)
          clear hK K hHeld
          have hHeld := hHeld'
          clear hHeld'
          try simp only [Act.put, List.setIfInBounds_toArray, List.set_cons_zero, List.set_cons_succ]
          refine wpAnyH_ready (rs := [1]) (by kernel_rfl) (by simp) ?_
          refine AllReadyH.cons (o := ⟨some 69, _, _, _, _, _⟩) rfl (fun K hK => ?_) AllReadyH.nil
          go_simp
          refine hK.out _ _ (hHeld) (fun hHeld' => ?_)
          clear hK K hHeld
          have hHeld := hHeld'
          clear hHeld'
          try simp only [Act.put, List.setIfInBounds_toArray, List.set_cons_zero, List.set_cons_succ]
          refine wpAnyH_ready (rs := [6]) (by kernel_rfl) (by simp) ?_
          refine AllReadyH.cons (o := ⟨some 74, _, _, _, _, _⟩) rfl (fun K hK => ?_) AllReadyH.nil
          refine step_append_rows (by rfl) _ _ 24 (by rfl) 42 (.agg #[.int .i64 0, .int .i64 0, .int .i64 0, .int .i64 0, .int .i64 0, .int .i64 0]) 6 48 Try.underlying24 info_ins rfl (.slice A7 L7.length c7) L7.length (insCells L7) (by rfl) (HBR7.out.below hbc1).rl (.slice V1A Om.l.length v1c) Om.l.length (insCells (Om.l.map (mvw (X.length + 1 + Bm.l.length + 1)))) (by rfl) hr1 (insCells_one _) (by unfold maxLen; omega) (by omega) ?_
          intro v' w' hrow' hgrow hown
          obtain ⟨A', c', hv', hc'⟩ := hrow'.slice
          subst hv'
          have hbb := grown_blk hgrow (HBR7.out.below hbc1).mm ((HBR7.out.below hbc1).rl.ne (HBR7.out.below hbc1).mm (by decide))
          have fb := blk_cell hbb 0
          have ff := blk_free hbb
          have hps := ((HBR7.out.below hbc1).push (Y := Om.l.map (mvw (X.length + 1 + Bm.l.length + 1))) (by simp) hrow' hgrow hown)
          refine hK.out _ _ (blk_cell (grown_blk hgrow (HBR7.out.below hbc1).b8 ((HBR7.out.below hbc1).rl.ne (HBR7.out.below hbc1).b8 (by decide))) 0) (fun hHeld' => ?_)
          clear hK K hHeld
          have hHeld := hHeld'
          clear hHeld'
          try simp only [Act.put, List.setIfInBounds_toArray, List.set_cons_zero, List.set_cons_succ]
          refine wpAnyH_take (i := 7) (oi := ⟨some 75, _, _, _, _, _⟩) (v := .pointer (some ⟨w.heap.size + 1, 0, none⟩)) rfl (by kernel_rfl) (by kernel_rfl) (by kernel_rfl) (fun _ _ _ h => h) (Or.inl ⟨by rfl, fun V hV => by go_simp⟩) (by assumption) ?_
          try simp only [Act.put, List.setIfInBounds_toArray, List.set_cons_zero, List.set_cons_succ]
          refine wpAnyH_ready (rs := [8]) (by kernel_rfl) (by simp) ?_
          refine AllReadyH.cons (o := ⟨none, _, _, _, _, _⟩) rfl (fun K hK => ?_) AllReadyH.nil
          go_simp
          refine hK.out _ _ (blk_cell hps.b8 0) (fun hHeld' => ?_)
          clear hK K hHeld
          have hHeld := hHeld'
          clear hHeld'
          try simp only [Act.put, List.setIfInBounds_toArray, List.set_cons_zero, List.set_cons_succ]
          refine wpAnyH_done (by kernel_rfl) ?_ _
          rw [HL8.out] at hps
          go_wp2_with fail
          go_meet
          exact ⟨rfl, A', c', Lib.hid hps⟩
      case rest =>
        obtain ⟨rfl, A8, c8, HBR8⟩ := hcut
        clear m0 y7
        have HPD := Lib.hid (show L8 = X ++ [⟨11, 0, a, 0, 0, ((X.length + 1 + Bm.l.length + 1 : Nat) : Int)⟩] ++ Bm.l.map (mvw (X.length + 1)) ++ [⟨10, 0, 0, 0, 0, ((X.length + 1 + Bm.l.length + 1 + Om.l.length : Nat) : Int)⟩] ++ Om.l.map (mvw (X.length + 1 + Bm.l.length + 1)) by rw [← HL8.out, ← HL7.out, ← HL6.out, ← HL5.out])
        have x5 := blk_cell HBR8.out.sx 5
        have d7 := blk_cell HBR8.out.b7 2
        have d8 := blk_cell HBR8.out.b8 2
        have m0 := blk_cell HBR8.out.mm 0
        have m1 := blk_cell HBR8.out.mm 1
        have m2 := blk_cell HBR8.out.mm 2
        have mf := blk_free HBR8.out.mm
        have HF := Lib.hid (fun d u0 u1 u2 E h => HBR8.out.last d u0 u1 u2 (E := E) h)
        have HRS := Lib.hid (fun u => blk_far HBR8.out.res (show w.heap.size + 1 + 1 ≠ (⟨w.heap.size + 1, 2, none⟩ : Addr).block from by show w.heap.size + 1 + 1 ≠ w.heap.size + 1; omega) u)
        have r0 := fun u => blk_cell (HRS.out u) 0
        have r1 := fun u => blk_cell (HRS.out u) 1
        have r2 := fun u => blk_cell (HRS.out u) 2
        have rf := fun u => blk_free (HRS.out u)
        cases hbd : Bm.deep with
        | true =>
          rw [hbd] at d7
          have HPX := Lib.hid (show ifM1 X a th Bm Om = ⟨L8, th, true⟩ by unfold ifM1; rw [HPD.out, hbd, Bool.true_or])
          clear hbd
          go_wp2_with fail
          refine bodyPost_ret (results_cell rfl _ _ (w.heap.size + 1 + 1) [.slice A8 L8.length c8, .slice TA th.length tc, .bool true] (by rfl) (range_at (blk_set (blk_set (blk_set (HRS.out _) 0 _) 1 _) 2 _) 0 [.slice A8 L8.length c8, .slice TA th.length tc, .bool true] rfl) rfl rfl (by kernel_rfl)) rfl ?_
          rw [HPO.out, HPX.out]
          exact HF.out _ _ _ _ _ rfl
        | false =>
          rw [hbd] at d7
          have HPX := Lib.hid (show ifM1 X a th Bm Om = ⟨L8, th, Om.deep⟩ by unfold ifM1; rw [HPD.out, hbd, Bool.false_or])
          clear hbd
          go_wp2_with fail
          refine bodyPost_ret (results_cell rfl _ _ (w.heap.size + 1 + 1) [.slice A8 L8.length c8, .slice TA th.length tc, .bool Om.deep] (by rfl) (range_at (blk_set (blk_set (blk_set (HRS.out _) 0 _) 1 _) 2 _) 0 [.slice A8 L8.length c8, .slice TA th.length tc, .bool Om.deep] rfl) rfl rfl (by kernel_rfl)) rfl ?_
          rw [HPO.out, HPX.out]
          exact HF.out _ _ _ _ _ rfl
end Go.Proofs.Ytjlnpppjkdcpkaa.My
