/- The document's way through a block. Conditions: the tree was there in the world W, which is kept; it may be. -/
import Derived.Test.YtjlnpppjkdcpkaaGmGnU
import Derived.Test.YtjlnpppjkdcpkaaGmGnWw
import Derived.Deep.CutRange
namespace Go.Proofs.Ytjlnpppjkdcpkaa.My
open Go.RowKit Go.Maps Go.Proofs.Ytjlnpppjkdcpkaa.NumA
set_option linter.unusedVariables false
set_option linter.unusedSimpArgs false
def mC (VL VT : Value) (d : Bool) : Obj := .cells #[VL, VT, .bool d] 80 (0, 0)
/-- a part that lies in a box of its own -/
def MBox (w : World) (base q : Nat) (m : Mm) : Prop := ∃ A c B b, w.heap[q]? = some (mC (.slice A m.l.length c) (.slice B m.th.length b) m.deep) ∧ Row w 42 6 (.slice A m.l.length c) m.l.length (insCells m.l) ∧ Row w 9 1 (.slice B m.th.length b) m.th.length (m.th.map .string) ∧ (∀ g, (Value.slice A m.l.length c).ownBlock = some g → base ≤ g) ∧ base ≤ q
theorem MBox.below {w w' : World} {base q : Nat} {m : Mm} (h : MBox w base q m) (hB : Below w.heap.size w w') : MBox w' base q m := by
  obtain ⟨A, c, B, b, h1, h2, h3, h4, h5⟩ := h
  exact ⟨A, c, B, b, below_blk hB h1 (blk_lt h1), h2.below hB, h3.below hB, h4, h5⟩
/-- the contract, for statements of so many nodes at most -/
def DOneIH (W : World) (N : Nat) : Prop := ∀ (s : Stmt) (A0 : Option Addr) (c0 : Nat) (A1 : Option Addr) (c1 : Nat) (A2 : Option Addr) (c2 d : Nat), s.nodes ≤ N → Expr.rds W s.args A0 0 → Stmt.rds W s.body A1 0 → Stmt.rds W s.els A2 0 → s.rightB nameB d = true → s.nodes ≤ 100000 → ∀ (th : List ByteArray) (V : Value) (w : World), Below W.heap.size W w → Row w 9 1 V th.length (th.map .string) → th.length + s.nodes ≤ 900 →
    Calls Try.prog 51 #[s.val A0 c0 A1 c1 A2 c2, V] w (MDo (stmtM th s) w)
theorem blockM_drop {m : Mm} {l : List Stmt} {k : Nat} (hk : k < l.length) (hd : m.deep = false) : blockM m (l.drop k) = blockM ⟨m.l ++ (stmtM m.th l[k]).l.map (mvw m.l.length), (stmtM m.th l[k]).th, (stmtM m.th l[k]).deep⟩ (l.drop (k + 1)) := by
  rw [List.drop_eq_getElem_cons hk, blockM, if_neg (by simp [hd])]
theorem nodesL_drop : ∀ (l : List Stmt) (k : Nat) (h : k < l.length), Stmt.nodesL (l.drop k) = (l[k]).nodes + Stmt.nodesL (l.drop (k + 1)) := fun l k h => by
  rw [List.drop_eq_getElem_cons h, Stmt.nodesL]
theorem MBox.pushed {w w1 w' : World} {p : Nat} {L Y : List Ins} {th : List ByteArray} {dp : Bool} {AL BT A' : Option Addr} {cL bT c' n : Nat} (hB : Below w.heap.size w w1) (hp : w1.heap[p]? = some (mC (.slice AL L.length cL) (.slice BT th.length bT) dp)) (hwp : w.heap.size ≤ p)
    (hL : Row w1 42 6 (.slice AL L.length cL) L.length (insCells L)) (hT : Row w1 9 1 (.slice BT th.length bT) th.length (th.map .string)) (hO : ∀ g, (Value.slice AL L.length cL).ownBlock = some g → w.heap.size ≤ g)
    (hn : n = L.length + Y.length) (hrow : Row w' 42 6 (.slice A' n c') n (insCells L ++ insCells Y)) (hg : w1.grownBy w' (Value.slice AL L.length cL).ownBlock) (hown : (Value.slice A' n c').ownBlock = (Value.slice AL L.length cL).ownBlock ∨ (Value.slice A' n c').ownBlock = some w1.heap.size) :
    MBox (w'.setCell ⟨p, 0, none⟩ (.slice A' n c')) w.heap.size p ⟨L ++ Y, th, dp⟩ ∧ Below w.heap.size w (w'.setCell ⟨p, 0, none⟩ (.slice A' n c')) ∧
    (∀ (q : Nat) (cs : Array Value) (t : TypeId), q ≠ p → w1.heap[q]? = some (.cells cs t (0, 0)) → 42 ≠ t → (w'.setCell ⟨p, 0, none⟩ (.slice A' n c')).heap[q]? = some (.cells cs t (0, 0))) ∧
    (∀ {e : TypeId} {z m : Nat} {v : Value} {xs : List Value}, Row w1 e z v m xs → e ≠ 42 → e ≠ 80 → Row (w'.setCell ⟨p, 0, none⟩ (.slice A' n c')) e z v m xs) := by
  have hbb := grown_blk hg hp (hL.ne hp (by decide))
  have far : ∀ {e : TypeId} {z m : Nat} {v : Value} {xs : List Value}, Row w1 e z v m xs → e ≠ 42 → e ≠ 80 → Row (w'.setCell ⟨p, 0, none⟩ (.slice A' n c')) e z v m xs := fun hr h1 h2 =>
    rowSet (hr.keep fun g hgg => hg.block g (hr.lt hgg) fun e => rows_apart hr hL h1 g hgg e.symm) (hr.ne hp h2)
  subst hn
  have hlen : L.length + Y.length = (L ++ Y).length := by simp
  refine ⟨?_, (Below.grown hB hg hB.size hO).setCell hwp _, fun q cs t hq hc ht => blk_far (grown_blk hg hc (hL.ne hc ht)) hq _, far⟩
  have hTT := far hT (by decide) (by decide)
  rw [hlen] at hrow hTT ⊢
  rw [← insCells_app] at hrow
  exact ⟨A', c', BT, bT, blk_set hbb 0 _, rowSet hrow (hrow.ne hbb (by decide)), hTT, fun g hgg => by
    rcases hown with e | e
    · rw [own_any _ _ _ (L.length + Y.length) c', e] at hgg; exact hO g hgg
    · rw [own_any _ _ _ (L.length + Y.length) c', e] at hgg; have := Option.some.inj hgg; have := hB.size; omega, hwp⟩
set_option maxRecDepth 100000 in
set_option maxHeartbeats 8000000 in
theorem dblock_of (W : World) (N : Nat) (ih : DOneIH W N) (l : List Stmt) (A : Option Addr) (cl d : Nat) (hN : Stmt.nodesL l ≤ N) (hrd : Stmt.rds W l A 0) (hr : Stmt.rightsB nameB d l = true) (hl : Stmt.nodesL l ≤ 100000) (th : List ByteArray) (V : Value) (w : World) (hB : Below W.heap.size W w) (hth : Row w 9 1 V th.length (th.map .string)) (htl : th.length + Stmt.nodesL l ≤ 900) :
    Calls Try.prog 35 #[.slice A l.length cl, V] w (MDo (blockM ⟨[], th, false⟩ l) w) := by
  have hln := Stmt.nodesL_len l
  obtain ⟨AV, cV, hV, hcV⟩ := hth.slice
  subst hV
  have HBW := Lib.hid hB
  have HRD := Lib.hid hrd
  have HR := Lib.hid hr
  have HIH := Lib.hid ih
  have HT := Lib.hid hth
  have hws := hB.size
  clear hB hrd hr ih hth
  go_enter Try.func35, Try.ntmps35
  go_wp2
  go_loopw [6] (fun i wr => ∃ (k : Nat) (m : Mm), i = .int .i64 (k : Int) ∧ k ≤ l.length ∧ Hid (blockM m (l.drop k) = blockM ⟨[], th, false⟩ l) ∧ Hid (MBox wr w.heap.size (w.heap.size + 1) m) ∧ Hid (Below w.heap.size w wr) ∧ Hid (wr.heap[w.heap.size]? = some (mC (.slice none 0 0) (.slice none 0 0) false)) ∧ m.l.length + 3 * Stmt.nodesL (l.drop k) ≤ 1000000 ∧ m.th.length + Stmt.nodesL (l.drop k) ≤ 900) (fun i _ => l.length - (intOf i).toNat)
  case atStart =>
    have hq := blk_new (w.alloc (mC (.slice none 0 0) (.slice none 0 0) false)) (mC (.slice none 0 0) (.slice AV th.length cV) false)
    rw [size_al] at hq
    exact ⟨0, ⟨[], th, false⟩, rfl, Nat.zero_le _, Lib.hid (by rw [List.drop_zero]), Lib.hid ⟨none, 0, AV, cV, hq, Row.nil _ _ _, (HT.out.alloc _).alloc _, fun g hg => by simp [Value.ownBlock] at hg, by omega⟩, Lib.hid (((Below.refl _ _).al).al), Lib.hid (blk_alloc (blk_new w _) _), by rw [List.drop_zero]; simp; omega, by rw [List.drop_zero]; exact htl⟩
  case round =>
    obtain ⟨k, m, rfl, hk, HE, HM, HB, HX, hml, hmt⟩ := hrel
    obtain ⟨AL, cL, BT, bT, hm, hrl, hrt, hol, _⟩ := HM.out
    have p0 := blk_cell hm 0
    have p1 := blk_cell hm 1
    have p2 := blk_cell hm 2
    by_cases hlt : k < l.length
    · have hlt' : (k : Int) < (l.length : Int) := by omega
      have hk0 : (0 : Int) ≤ (k : Int) := by omega
      cases hd : m.deep with
      | true =>
        rw [hd] at p2
        have HQ := Lib.hid (show blockM ⟨[], th, false⟩ l = m by rw [← HE.out, blockM_deep hd])
        have HD := Lib.hid hd
        clear hd
        have x0 := blk_cell HX.out 0
        have x1 := blk_cell HX.out 1
        have x2 := blk_cell HX.out 2
        have xf := blk_free HX.out
        have HRL := Lib.hid hrl
        have HRT := Lib.hid hrt
        clear hrl hrt
        go_wp2
        refine bodyPost_ret (results_cell rfl _ _ w.heap.size [.slice AL m.l.length cL, .slice BT m.th.length bT, .bool true] (by rfl) (range_at (blk_set (blk_set (blk_set HX.out 0 _) 1 _) 2 _) 0 [.slice AL m.l.length cL, .slice BT m.th.length bT, .bool true] rfl) rfl rfl (by kernel_rfl)) rfl ?_
        rw [HQ.out]
        exact ⟨((HB.out.setCell (Nat.le_refl _) _).setCell (Nat.le_refl _) _).setCell (Nat.le_refl _) _, _, _, by rw [HD.out], row_sets HRL.out HX.out (by decide) _ _ _, row_sets HRT.out HX.out (by decide) _ _ _, hol⟩
      | false =>
        rw [hd] at p2
        obtain ⟨ba, oa, A0, c0, A1, c1, A2, c2, hA, hbW, g0, g1, g2, g3, g4, g5, e0, e1, e2, hs', r0, r1, r2⟩ := Stmt.at HRD.out (HBW.out.trans (HB.out.mono hws)) hlt
        subst hA
        have hra := Stmt.rightsB_all HR.out l[k] (List.getElem_mem hlt)
        have hnd := nodesL_drop l k hlt
        have hdr := blockM_drop hlt hd
        have hnt := Stmt.nodesL_take l k hlt
        obtain ⟨s, hs⟩ : ∃ s, l[k] = s := ⟨_, rfl⟩
        rw [hs] at g0 g1 g2 g3 g4 g5 r0 r1 r2 hra hnd hdr hnt
        have hI := fun w' (hb : Below wr.heap.size wr w') => HIH.out s A0 c0 A1 c1 A2 c2 d (by omega) r0 r1 r2 hra (by omega) m.th (.slice BT m.th.length bT) w' (HBW.out.trans ((HB.out.trans (hb.mono HB.out.size)).mono hws)) (hrt.below hb) (by omega)
        unfold Stmt.val at hI
        have HI := Lib.hid hI
        have hml2 := stmtM_len s m.th hra
        have HDR := Lib.hid hdr
        have HD := Lib.hid hd
        have HRL := Lib.hid hrl
        have HRT := Lib.hid hrt
        have HMB := Lib.hid hm
        have HOL := Lib.hid hol
        clear hI hdr hs r0 r1 r2 hra e0 e1 e2 hs' hnt hm hrl hrt hol hd
        go_upto_region 5 with fail
        go_cut [7] from 10 to 43 (fun x wx => ∃ q, x = .pointer (some ⟨q, 0, none⟩) ∧ Hid (MBox wx wr.heap.size q (stmtM m.th s)) ∧ Hid (Below wr.heap.size wr wx))
        case first =>
          refine wp_region_noPanic ?_
          refine wp_region_held_drew (S := fun V => Below wr.heap.size wr V) (by kernel_rfl) (Below.refl _ _).drew (fun hHeld => ?_)
          refine wpAnyH_take (i := 0) (oi := ⟨some 21, _, _, _, _, _⟩) (v := .slice (some ⟨ba, oa, none⟩) l.length cl) rfl (by kernel_rfl) (by kernel_rfl) (by kernel_rfl) (fun _ _ _ h => h) (Or.inl ⟨by rfl, fun V hV => by clear g0 g1 g2 g3 g4 g5 p0 p1 p2; go_simp⟩) (by assumption) ?_
          try simp only [Act.put, List.setIfInBounds_toArray, List.set_cons_zero, List.set_cons_succ]
          refine wpAnyH_take (i := 1) (oi := ⟨some 22, _, _, _, _, _⟩) (v := .int .i64 (k : Int)) rfl (by kernel_rfl) (by kernel_rfl) (by kernel_rfl) (fun _ _ _ h => h) (Or.inl ⟨by rfl, fun V hV => by clear g0 g1 g2 g3 g4 g5 p0 p1 p2; go_simp⟩) (by assumption) ?_
          try simp only [Act.put, List.setIfInBounds_toArray, List.set_cons_zero, List.set_cons_succ]
          refine wpAnyH_take (i := 2) (oi := ⟨some 23, _, _, _, _, _⟩) (v := .pointer (some ⟨ba, oa + k * 6, none⟩)) rfl (by kernel_rfl) (by kernel_rfl) (by kernel_rfl) (fun _ _ _ h => h) (Or.inl ⟨by rfl, fun V hV => by clear g0 g1 g2 g3 g4 g5 p0 p1 p2; go_simp⟩) (by assumption) ?_
          try simp only [Act.put, List.setIfInBounds_toArray, List.set_cons_zero, List.set_cons_succ]
          refine wpAnyH_take (i := 3) (oi := ⟨some 24, _, _, _, _, _⟩) (v := .agg #[.int .i64 s.kind, .string s.name, .int .i64 s.cell, .slice A0 s.args.length c0, .slice A1 s.body.length c1, .slice A2 s.els.length c2]) rfl (by kernel_rfl) (by kernel_rfl) (by kernel_rfl) (fun _ _ _ h => h) (Or.inl ⟨by rfl, fun V hV => by have q0 := hV.cellOf g0; have q1 := hV.cellOf g1; have q2 := hV.cellOf g2; have q3 := hV.cellOf g3; have q4 := hV.cellOf g4; have q5 := hV.cellOf g5; have q6 := hV.cellOf p1; clear g0 g1 g2 g3 g4 g5 p0 p1 p2; go_simp⟩) (by assumption) ?_
          try simp only [Act.put, List.setIfInBounds_toArray, List.set_cons_zero, List.set_cons_succ]
          refine wpAnyH_take (i := 4) (oi := ⟨some 25, _, _, _, _, _⟩) (v := .pointer (some ⟨w.heap.size + 1, 1, none⟩)) rfl (by kernel_rfl) (by kernel_rfl) (by kernel_rfl) (fun _ _ _ h => h) (Or.inl ⟨by rfl, fun V hV => by clear g0 g1 g2 g3 g4 g5 p0 p1 p2; go_simp⟩) (by assumption) ?_
          try simp only [Act.put, List.setIfInBounds_toArray, List.set_cons_zero, List.set_cons_succ]
          refine wpAnyH_take (i := 5) (oi := ⟨some 26, _, _, _, _, _⟩) (v := .slice BT m.th.length bT) rfl (by kernel_rfl) (by kernel_rfl) (by kernel_rfl) (fun _ _ _ h => h) (Or.inl ⟨by rfl, fun V hV => by have q0 := hV.cellOf g0; have q1 := hV.cellOf g1; have q2 := hV.cellOf g2; have q3 := hV.cellOf g3; have q4 := hV.cellOf g4; have q5 := hV.cellOf g5; have q6 := hV.cellOf p1; clear g0 g1 g2 g3 g4 g5 p0 p1 p2; go_simp⟩) (by assumption) ?_
          try simp only [Act.put, List.setIfInBounds_toArray, List.set_cons_zero, List.set_cons_succ]
          refine wpAnyH_ready (rs := [6, 7]) (by kernel_rfl) (by simp) ?_
          refine AllReadyH.cons (o := ⟨some 27, _, _, _, _, _⟩) rfl (fun K hK => ?_) ?_
          · go_simp
            refine (HI.out _ hHeld).mono ?_
            rintro E w1 ⟨hb1, VL, VT, rfl, hr1, hr2, ho1⟩
            obtain ⟨VA, vc, rfl, _⟩ := hr1.slice
            obtain ⟨VB, vb, rfl, _⟩ := hr2.slice
            have hS1 : Below wr.heap.size wr w1 := hHeld.trans (hb1.mono hHeld.size)
            have hzz := hHeld.size
            refine hK.out _ _ (hS1) (fun hHeld' => ?_)
            clear hK K hHeld
            have hHeld := hHeld'
            clear hHeld'
            try simp only [Act.put, List.setIfInBounds_toArray, List.set_cons_zero, List.set_cons_succ]
            refine wpAnyH_ready (rs := [7]) (by kernel_rfl) (by simp) ?_
            refine AllReadyH.cons (o := ⟨some 7, _, _, _, _, _⟩) rfl (fun K hK => ?_) AllReadyH.nil
            go_simp
            refine hK.out _ _ (hS1.al) (fun hHeld' => ?_)
            clear hK K hHeld
            have hHeld := hHeld'
            clear hHeld'
            try simp only [Act.put, List.setIfInBounds_toArray, List.set_cons_zero, List.set_cons_succ]
            refine wpAnyH_ready (rs := [8]) (by kernel_rfl) (by simp) ?_
            refine AllReadyH.cons (o := ⟨none, _, _, _, _, _⟩) rfl (fun K hK => ?_) AllReadyH.nil
            have hz := blk_new w1 (mC (.slice none 0 0) (.slice none 0 0) false)
            have z0 := blk_cell hz 0
            have z1 := blk_cell hz 1
            have z2 := blk_cell hz 2
            have zf := blk_free hz
            go_simp
            refine hK.out _ _ (hS1.al) (fun hHeld' => ?_)
            clear hK K hHeld
            have hHeld := hHeld'
            clear hHeld'
            try simp only [Act.put, List.setIfInBounds_toArray, List.set_cons_zero, List.set_cons_succ]
            refine wpAnyH_done (by kernel_rfl) ?_ _
            refine NoPanic.normal ?_
            go_wp2_with fail
            go_meet
            exact ⟨w1.heap.size, rfl, Lib.hid ⟨VA, vc, VB, vb, blk_new _ _, hr1.alloc _, hr2.alloc _, ho1, hS1.size⟩, Lib.hid hS1.al⟩
          · refine AllReadyH.cons (o := ⟨some 7, _, _, _, _, _⟩) rfl (fun K hK => ?_) AllReadyH.nil
            go_simp
            refine hK.out _ _ (hHeld.al) (fun hHeld' => ?_)
            clear hK K hHeld
            have hHeld := hHeld'
            clear hHeld'
            try simp only [Act.put, List.setIfInBounds_toArray, List.set_cons_zero, List.set_cons_succ]
            refine wpAnyH_ready (rs := [6]) (by kernel_rfl) (by simp) ?_
            refine AllReadyH.cons (o := ⟨some 27, _, _, _, _, _⟩) rfl (fun K hK => ?_) AllReadyH.nil
            go_simp
            refine (HI.out _ hHeld).mono ?_
            rintro E w1 ⟨hb1, VL, VT, rfl, hr1, hr2, ho1⟩
            obtain ⟨VA, vc, rfl, _⟩ := hr1.slice
            obtain ⟨VB, vb, rfl, _⟩ := hr2.slice
            have hS1 : Below wr.heap.size wr w1 := hHeld.trans (hb1.mono hHeld.size)
            have hzz := hHeld.size
            refine hK.out _ _ (hS1) (fun hHeld' => ?_)
            clear hK K hHeld
            have hHeld := hHeld'
            clear hHeld'
            try simp only [Act.put, List.setIfInBounds_toArray, List.set_cons_zero, List.set_cons_succ]
            refine wpAnyH_ready (rs := [8]) (by kernel_rfl) (by simp) ?_
            refine AllReadyH.cons (o := ⟨none, _, _, _, _, _⟩) rfl (fun K hK => ?_) AllReadyH.nil
            have hz := (show w1.heap[wr.heap.size]? = some (mC (.slice none 0 0) (.slice none 0 0) false) from below_blk hb1 (blk_new wr.drew (mC (.slice none 0 0) (.slice none 0 0) false)) (blk_lt (blk_new wr.drew (mC (.slice none 0 0) (.slice none 0 0) false))))
            have z0 := blk_cell hz 0
            have z1 := blk_cell hz 1
            have z2 := blk_cell hz 2
            have zf := blk_free hz
            go_simp
            refine hK.out _ _ (((hS1.setCell (Nat.le_refl _) _).setCell (Nat.le_refl _) _).setCell (Nat.le_refl _) _) (fun hHeld' => ?_)
            clear hK K hHeld
            have hHeld := hHeld'
            clear hHeld'
            try simp only [Act.put, List.setIfInBounds_toArray, List.set_cons_zero, List.set_cons_succ]
            refine wpAnyH_done (by kernel_rfl) ?_ _
            refine NoPanic.normal ?_
            go_wp2_with fail
            go_meet
            exact ⟨wr.heap.size, rfl, Lib.hid ⟨VA, vc, VB, vb, blk_set (blk_set (blk_set hz 0 _) 1 _) 2 _, row_sets hr1 hz (by decide) _ _ _, row_sets hr2 hz (by decide) _ _ _, fun g hg => Nat.le_trans hzz (ho1 g hg), Nat.le_refl _⟩, Lib.hid (((hS1.setCell (Nat.le_refl _) _).setCell (Nat.le_refl _) _).setCell (Nat.le_refl _) _)⟩
        case rest =>
          obtain ⟨q, rfl, HMQ, HBQ⟩ := hcut
          obtain ⟨XA, xc, XB, xb, hq, hxr, hxt, hxo, hqs⟩ := HMQ.out
          have hwr := HB.out.size
          have hMc := below_blk HBQ.out HMB.out (blk_lt HMB.out)
          rw [HD.out] at hMc
          have HMC := Lib.hid hMc
          have HXQ := Lib.hid hq
          have HXC := Lib.hid (below_blk HBQ.out HX.out (blk_lt HX.out))
          have HBC := Lib.hid (HB.out.trans (HBQ.out.mono HB.out.size))
          have HLC := Lib.hid (HRL.out.below HBQ.out)
          have HTC := Lib.hid (HRT.out.below HBQ.out)
          have HXR := Lib.hid hxr
          have HXT := Lib.hid hxt
          have hlq := blk_lt HMB.out
          have hqlt := blk_lt hq
          clear p0 p1 p2 g0 g1 g2 g3 g4 g5
          have p0 := blk_cell hMc 0
          have y0 := blk_cell hq 0
          clear hMc hq hxr hxt
          go_upto_region 6 with fail
          go_cut [6] from 10 to 43 (fun i wx => i = .int .i64 (k : Int) ∧ Hid (MBox wx w.heap.size (w.heap.size + 1) ⟨m.l ++ (stmtM m.th s).l.map (mvw m.l.length), m.th, false⟩) ∧ Hid (wx.heap[q]? = some (mC (.slice XA (stmtM m.th s).l.length xc) (.slice XB (stmtM m.th s).th.length xb) (stmtM m.th s).deep)) ∧ Hid (Row wx 9 1 (.slice XB (stmtM m.th s).th.length xb) (stmtM m.th s).th.length ((stmtM m.th s).th.map .string)) ∧ Hid (Below w.heap.size w wx) ∧ Hid (wx.heap[w.heap.size]? = some (mC (.slice none 0 0) (.slice none 0 0) false)))
          case first =>
            go_region_law (first
              | (go_simp; go_at_call 18; go_must (refine (movedw_calls wc.drew (stmtM m.th s).l (.slice XA (stmtM m.th s).l.length xc) m.l.length HXR.out.drewed (by omega)).mono ?_); rintro E w1 ⟨hb1, V1, rfl, hr1, ho1⟩; obtain ⟨V1A, v1c, hv1, _⟩ := hr1.slice; subst hv1; have hbc1 : Below wc.heap.size wc w1 := below_fromdrew hb1; have p0' := blk_cell (below_blk hbc1 HMC.out (blk_lt HMC.out)) 0)
              | (refine step_append_rows (by rfl) _ _ 24 (by rfl) 42 (.agg #[.int .i64 0, .int .i64 0, .int .i64 0, .int .i64 0, .int .i64 0, .int .i64 0]) 6 48 Try.underlying24 info_ins rfl (.slice AL m.l.length cL) m.l.length (insCells m.l) (by rfl) (HLC.out.below hbc1) (.slice V1A (stmtM m.th s).l.length v1c) (stmtM m.th s).l.length (insCells ((stmtM m.th s).l.map (mvw m.l.length))) (by rfl) hr1 (insCells_one _) (by unfold maxLen; omega) (by omega) ?_; intro v' w' hrow' hgrow hown; obtain ⟨A', c', hv', hc'⟩ := hrow'.slice; subst hv'; have hbb := grown_blk hgrow (below_blk hbc1 HMC.out (blk_lt HMC.out)) (HLC.out.ne HMC.out (by decide)); have fb := blk_cell hbb 0; have ff := blk_free hbb))
            all_goals
              clear fb ff p0'
              obtain ⟨f1, f2, f3, f4⟩ := MBox.pushed (w := w) (Y := (stmtM m.th s).l.map (mvw m.l.length)) (HBC.out.trans (hbc1.mono HBC.out.size)) (below_blk hbc1 HMC.out (blk_lt HMC.out)) (Nat.le_succ _) (HLC.out.below hbc1) (HTC.out.below hbc1) HOL.out (by simp) hrow' hgrow hown
              go_wp2_with fail
              go_meet
              exact ⟨rfl, Lib.hid f1, Lib.hid (f3 q _ _ (by omega) (below_blk hbc1 HXQ.out (blk_lt HXQ.out)) (by decide)), Lib.hid (f4 (HXT.out.below hbc1) (by decide) (by decide)), Lib.hid f2, Lib.hid (f3 w.heap.size _ _ (by omega) (below_blk hbc1 HXC.out (blk_lt HXC.out)) (by decide))⟩
          case rest =>
            obtain ⟨rfl, HM2, HXQ2, HXT2, HB2, HX2⟩ := hcut
            obtain ⟨A2, c2', B2, b2, hm2, hl2, ht2, ho2, _⟩ := HM2.out
            clear p0 y0
            have y1 := blk_cell HXQ2.out 1
            have y2 := blk_cell HXQ2.out 2
            have p1 := blk_cell hm2 1
            have p2 := blk_cell hm2 2
            have pf := blk_free hm2
            have hqp : q ≠ w.heap.size + 1 := by omega
            go_wp2_with fail
            go_region_held3 (fun V_ => V_.cell? ⟨q, 1, none⟩ = some (.slice XB (stmtM m.th s).th.length xb) ∧ V_.cell? ⟨q, 2, none⟩ = some (.bool (stmtM m.th s).deep)) (first | exact ⟨y1, y2⟩ | exact ⟨blk_cell (blk_far HXQ2.out hqp _) 1, blk_cell (blk_far HXQ2.out hqp _) 2⟩ | exact ⟨blk_cell (blk_far (blk_far HXQ2.out hqp _) hqp _) 1, blk_cell (blk_far (blk_far HXQ2.out hqp _) hqp _) 2⟩) (fail)
            have hne7 : ∀ {e : TypeId} {z n : Nat} {v : Value} {xs : List Value} (u1 u2 : Value), Row wc e z v n xs → e ≠ 80 → Row (((wc.setCell ⟨w.heap.size + 1, 1, none⟩ u1).setCell ⟨w.heap.size + 1, 2, none⟩ u2).drew) e z v n xs := fun u1 u2 hr hne => (rowSet (rowSet hr (hr.ne hm2 hne)) (hr.ne hm2 hne)).drewed
            have HMN := Lib.hid (show MBox (((wc.setCell ⟨w.heap.size + 1, 1, none⟩ (.slice XB (stmtM m.th s).th.length xb)).setCell ⟨w.heap.size + 1, 2, none⟩ (.bool (stmtM m.th s).deep)).drew) w.heap.size (w.heap.size + 1) ⟨m.l ++ (stmtM m.th s).l.map (mvw m.l.length), (stmtM m.th s).th, (stmtM m.th s).deep⟩ from ⟨A2, c2', XB, xb, blk_set (blk_set hm2 1 _) 2 _, hne7 _ _ hl2 (by decide), hne7 _ _ HXT2.out (by decide), ho2, Nat.le_succ _⟩)
            have HBN := Lib.hid (show Below w.heap.size w (((wc.setCell ⟨w.heap.size + 1, 1, none⟩ (.slice XB (stmtM m.th s).th.length xb)).setCell ⟨w.heap.size + 1, 2, none⟩ (.bool (stmtM m.th s).deep)).drew) from ((HB2.out.setCell (Nat.le_succ _) _).setCell (Nat.le_succ _) _).drew)
            have HXN := Lib.hid (show (((wc.setCell ⟨w.heap.size + 1, 1, none⟩ (.slice XB (stmtM m.th s).th.length xb)).setCell ⟨w.heap.size + 1, 2, none⟩ (.bool (stmtM m.th s).deep)).drew).heap[w.heap.size]? = some (mC (.slice none 0 0) (.slice none 0 0) false) from blk_far (blk_far HX2.out (show w.heap.size ≠ w.heap.size + 1 by omega) _) (show w.heap.size ≠ w.heap.size + 1 by omega) _)
            go_wp2
            go_roundw
            case rel => exact ⟨k + 1, _, by go_num, by omega, Lib.hid (HDR.out.symm.trans HE.out), HMN, HBN, HXN, by simp; omega, by simp only; omega⟩
            case measure => simp [intOf]; omega
    · have hk' : k = l.length := by omega
      have HQ := Lib.hid (show blockM ⟨[], th, false⟩ l = m by rw [← HE.out, hk', List.drop_length, blockM])
      have hge : ¬ ((k : Int) < (l.length : Int)) := by omega
      have x0 := blk_cell HX.out 0
      have x1 := blk_cell HX.out 1
      have x2 := blk_cell HX.out 2
      have xf := blk_free HX.out
      have HRL := Lib.hid hrl
      have HRT := Lib.hid hrt
      clear hrl hrt
      go_wp2
      refine bodyPost_ret (results_cell rfl _ _ w.heap.size [.slice AL m.l.length cL, .slice BT m.th.length bT, .bool m.deep] (by rfl) (range_at (blk_set (blk_set (blk_set HX.out 0 _) 1 _) 2 _) 0 [.slice AL m.l.length cL, .slice BT m.th.length bT, .bool m.deep] rfl) rfl rfl (by kernel_rfl)) rfl ?_
      rw [HQ.out]
      exact ⟨((HB.out.setCell (Nat.le_refl _) _).setCell (Nat.le_refl _) _).setCell (Nat.le_refl _) _, _, _, by rfl, row_sets HRL.out HX.out (by decide) _ _ _, row_sets HRT.out HX.out (by decide) _ _ _, hol⟩
end Go.Proofs.Ytjlnpppjkdcpkaa.My
