/- The document's way through a block. Conditions: the tree was there in the world W, which is kept; it may be; its names are there. -/
import Derived.Test.YtjlnpppjkdcpkaaEREvNs
import Derived.Test.YtjlnpppjkdcpkaaEREvN2
import Derived.Test.YtjlnpppjkdcpkaaEREvN3
namespace Go.Proofs.Ytjlnpppjkdcpkaa.My
open Go.RowKit Go.Proofs.Ytjlnpppjkdcpkaa.NumA
set_option linter.unusedVariables false
set_option linter.unusedSimpArgs false
/-- all boxes stay, rows of numbers and of what goes into reductions aside -/
def FrX (w w' : World) : Prop := ∀ (q : Nat) (cs : Array Value) (t : TypeId), w.heap[q]? = some (.cells cs t (0, 0)) → 2 ≠ t → 98 ≠ t → w'.heap[q]? = some (.cells cs t (0, 0))
theorem FrX.refl (w : World) : FrX w w := fun _ _ _ h _ _ => h
theorem FrX.trans {w w1 w2 : World} (h : FrX w w1) (k : FrX w1 w2) : FrX w w2 := fun q cs t hq h1 h2 => k q cs t (h q cs t hq h1 h2) h1 h2
theorem FrX.below {w w1 w2 : World} (h : FrX w w1) (hB : Below w1.heap.size w1 w2) : FrX w w2 := fun q cs t hq h1 h2 => below_blk hB (h q cs t hq h1 h2) (blk_lt (h q cs t hq h1 h2))
/-- a run's rows, in blocks of their own from base on -/
structure DocAt (w : World) (base : Nat) (S : Ev) (N V M O I : Rw) : Prop where
 nn : N.n = S.names.length
 vn : V.n = S.vals.length
 mn : M.n = S.mem.length
 oo : O.n = S.outs.length
 ii : I.n = S.intos.length
 names : Row w 9 1 (.slice N.a N.n N.c) N.n (strs S.names)
 vals : Row w 2 1 (.slice V.a V.n V.c) V.n (nums S.vals)
 mem : Row w 2 1 (.slice M.a M.n M.c) M.n (nums S.mem)
 outs : Row w 2 1 (.slice O.a O.n O.c) O.n (nums S.outs)
 intos : Row w 98 2 (.slice I.a I.n I.c) I.n (intoCells S.intos)
 fv : ∀ g, (Value.slice V.a V.n V.c).ownBlock = some g → base ≤ g
 fm : ∀ g, (Value.slice M.a M.n M.c).ownBlock = some g → base ≤ g
 fo : ∀ g, (Value.slice O.a O.n O.c).ownBlock = some g → base ≤ g
 fi : ∀ g, (Value.slice I.a I.n I.c).ownBlock = some g → base ≤ g
 vm : ∀ g, (Value.slice V.a V.n V.c).ownBlock = some g → (Value.slice M.a M.n M.c).ownBlock ≠ some g
 vo : ∀ g, (Value.slice V.a V.n V.c).ownBlock = some g → (Value.slice O.a O.n O.c).ownBlock ≠ some g
 mo : ∀ g, (Value.slice M.a M.n M.c).ownBlock = some g → (Value.slice O.a O.n O.c).ownBlock ≠ some g
 eq : S.names.length = S.vals.length
theorem DocAt.below {w w' : World} {base : Nat} {S : Ev} {N V M O I : Rw} (h : DocAt w base S N V M O I) (hB : Below w.heap.size w w') : DocAt w' base S N V M O I :=
 ⟨h.nn, h.vn, h.mn, h.oo, h.ii, h.names.below hB, h.vals.below hB, h.mem.below hB, h.outs.below hB, h.intos.below hB, h.fv, h.fm, h.fo, h.fi, h.vm, h.vo, h.mo, h.eq⟩
/-- .. a box of the state set anew -/
theorem DocAt.set {w : World} {base : Nat} {S : Ev} {N V M O I : Rw} (h : DocAt w base S N V M O I) {b i : Nat} {cs : Array Value} {t : TypeId} (hb : w.heap[b]? = some (.cells cs t (0, 0))) (h1 : 2 ≠ t) (h2 : 98 ≠ t) (h3 : 9 ≠ t) (u : Value) : DocAt (w.setCell ⟨b, i, none⟩ u) base S N V M O I :=
 ⟨h.nn, h.vn, h.mn, h.oo, h.ii, rowSet h.names (h.names.ne hb h3), rowSet h.vals (h.vals.ne hb h1), rowSet h.mem (h.mem.ne hb h1), rowSet h.outs (h.outs.ne hb h1), rowSet h.intos (h.intos.ne hb h2), h.fv, h.fm, h.fo, h.fi, h.vm, h.vo, h.mo, h.eq⟩
/-- what is left of a run that has ended -/
structure EndAt (w : World) (base : Nat) (S : Ev) (M O I : Rw) : Prop where
 mn : M.n = S.mem.length
 oo : O.n = S.outs.length
 ii : I.n = S.intos.length
 mem : Row w 2 1 (.slice M.a M.n M.c) M.n (nums S.mem)
 outs : Row w 2 1 (.slice O.a O.n O.c) O.n (nums S.outs)
 intos : Row w 98 2 (.slice I.a I.n I.c) I.n (intoCells S.intos)
theorem DocAt.ends {w : World} {base : Nat} {S : Ev} {N V M O I : Rw} (h : DocAt w base S N V M O I) : EndAt w base S M O I := ⟨h.mn, h.oo, h.ii, h.mem, h.outs, h.intos⟩
theorem EndAt.below {w w' : World} {base : Nat} {S : Ev} {M O I : Rw} (h : EndAt w base S M O I) (hB : Below w.heap.size w w') : EndAt w' base S M O I := ⟨h.mn, h.oo, h.ii, h.mem.below hB, h.outs.below hB, h.intos.below hB⟩
theorem EndAt.set {w : World} {base : Nat} {S : Ev} {M O I : Rw} (h : EndAt w base S M O I) {b i : Nat} {cs : Array Value} {t : TypeId} (hb : w.heap[b]? = some (.cells cs t (0, 0))) (h1 : 2 ≠ t) (h2 : 98 ≠ t) (u : Value) : EndAt (w.setCell ⟨b, i, none⟩ u) base S M O I :=
 ⟨h.mn, h.oo, h.ii, rowSet h.mem (h.mem.ne hb h1), rowSet h.outs (h.outs.ne hb h1), rowSet h.intos (h.intos.ne hb h2)⟩
/-- what a task hands back -/
def DoneD (W : World) (B : Int) (S S' : Ev) (o : Option (Int × Int)) (w : World) (y : Ending) (w' : World) : Prop := Below W.heap.size W w' ∧ FrX w w' ∧ match o with
 | none => ∃ N V M O I, y = .returned (.agg (dsL N V M O I 0 0 S'.ticks (B - S'.ticks) false).toArray) ∧ DocAt w' W.heap.size S' N V M O I
 | some x => ∃ N V M O I, y = .returned (.agg (dsL N V M O I x.1 x.2 S'.ticks (B - S'.ticks) true).toArray) ∧ S.names.length ≤ N.c ∧ S.names.length ≤ V.c ∧ EndAt w' W.heap.size S' M O I
/-- what is known of a state -/
structure FitS (B : Int) (S : Ev) : Prop where
 sz : szE S
 i64 : S.in64
 tk : S.ticks ≤ B
 ml : S.mem.length ≤ 1000
 b0 : B ≤ 1000000
def RunC (W : World) (B : Int) (f : Nat) (arg : Value) (S S' : Ev) (o : Option (Int × Int)) : Prop := ∀ (w : World) (N V M O I : Rw), Below W.heap.size W w → DocAt w W.heap.size S N V M O I → FitS B S →
 Calls Try.prog f #[.agg (dsL N V M O I 0 0 S.ticks (B - S.ticks) false).toArray, arg] w (DoneD W B S S' o w)
def StmtC (W : World) (B : Int) (s : Stmt) (S S' : Ev) (o : Option (Int × Int)) : Prop := ∀ (A0 : Option Addr) (c0 : Nat) (A1 : Option Addr) (c1 : Nat) (A2 : Option Addr) (c2 d : Nat), Expr.rds W s.args A0 0 → Stmt.rds W s.body A1 0 → Stmt.rds W s.els A2 0 → s.rightB nameB d = true → s.in64 → s.nodes ≤ 100000 → RunC W B 59 (s.val A0 c0 A1 c1 A2 c2) S S' o
def BlockC (W : World) (B : Int) (l : List Stmt) (S S' : Ev) (o : Option (Int × Int)) : Prop := ∀ (A : Option Addr) (c d : Nat), Stmt.rds W l A 0 → Stmt.rightsB nameB d l = true → Stmt.in64L l → Stmt.nodesL l ≤ 100000 → RunC W B 42 (.slice A l.length c) S S' o
/-- a row of statements, each as9 its contract says -/
inductive SeqP (W : World) (B : Int) : List Stmt → Ev → Ev → Option (Int × Int) → Prop
 | nil {S} : SeqP W B [] S S none
 | first {s l S S' x} : DoesF B (.stmt s) S S' (some x) → StmtC W B s S S' (some x) → SeqP W B (s :: l) S S' (some x)
 | next {s l S S' S'' o} : DoesF B (.stmt s) S S' none → StmtC W B s S S' none → SeqP W B l S' S'' o → SeqP W B (s :: l) S S'' o
theorem FitS.next {B : Int} {t : Task} {S S' : Ev} {o : Option (Int × Int)} (h : FitS B S) (hd : DoesF B t S S' o) (ht : t.in64) : FitS B S' :=
 ⟨hd.does_.sz h.sz, hd.does_.in64 h.i64 ht, (hd.does_.ticks).2 h.tk, by rw [hd.does_.memlen]; exact h.ml, h.b0⟩
theorem KeepS.set {T : Nat} {w U : World} (h : KeepS T w U) (i : Nat) (u : Value) : KeepS T w (U.setCell ⟨T, i, none⟩ u) := ⟨by have := h.1; simpa [World.setCell] using this, fun q hq hl => (Below.heap_setCell _ _ _ _ hq).trans (h.2 q hq hl)⟩
theorem Stmt.in64_mem : ∀ {l : List Stmt} {e : Stmt}, Stmt.in64L l → e ∈ l → e.in64
 | x :: l, e, h, hm => by
  rw [Stmt.in64L] at h; rcases List.mem_cons.1 hm with rfl | hm
  ·exact h.1
  ·exact Stmt.in64_mem h.2 hm
/-- the block's loop at its k-th statement -/
def BlkI (W : World) (B : Int) (l : List Stmt) (S S' : Ev) (o : Option (Int × Int)) (w : World) (k : Nat) (wr : World) : Prop :=
 Below W.heap.size W wr ∧ FrX w wr ∧ wr.heap[w.heap.size + 1]? = some (dsC (dsL zR zR zR zR zR 0 0 0 0 false)) ∧
 ((∃ Sk N V M O I, SeqP W B (l.drop k) Sk S' o ∧ DocAt wr W.heap.size Sk N V M O I ∧ wr.heap[w.heap.size]? = some (dsC (dsL N V M O I 0 0 Sk.ticks (B - Sk.ticks) false)) ∧ FitS B Sk ∧ S.names.length ≤ Sk.names.length) ∨
  (∃ x N V M O I, o = some x ∧ wr.heap[w.heap.size]? = some (dsC (dsL N V M O I x.1 x.2 S'.ticks (B - S'.ticks) true)) ∧ S.names.length ≤ N.c ∧ S.names.length ≤ V.c ∧ EndAt wr W.heap.size S' M O I))
theorem _root_.Go.RowKit.Below.put10 {B b : Nat} {a w : World} (h : Below B a w) (hb : B ≤ b) (N V M O I : Rw) (ov va tk lf : Int) (e : Bool) : Below B a (put10 w b N V M O I ov va tk lf e) := put10_below h hb N V M O I ov va tk lf e
theorem FrX.put10 {w wx : World} (h : FrX w wx) {b : Nat} (hb : w.heap.size ≤ b) (N V M O I : Rw) (ov va tk lf : Int) (e : Bool) : FrX w (put10 wx b N V M O I ov va tk lf e) := fun q cs t hq h1 h2 => put10_far (h q cs t hq h1 h2) (by have := blk_lt hq; omega) _ _ _ _ _ _ _ _ _ _
theorem Row.put10 {w : World} {e : TypeId} {z n b : Nat} {v : Value} {xs : List Value} {l : List Value} (h : Row w e z v n xs) (hb : w.heap[b]? = some (dsC l)) (hne : e ≠ 93) (N V M O I : Rw) (ov va tk lf : Int) (d : Bool) : Row (put10 w b N V M O I ov va tk lf d) e z v n xs :=
 h.keep fun g hg => put10_heap w (fun e1 => h.ne hb hne (by rw [hg, e1])) _ _ _ _ _ _ _ _ _ _
theorem DocAt.put10 {w : World} {base : Nat} {S : Ev} {N V M O I : Rw} (h : DocAt w base S N V M O I) {b : Nat} {l : List Value} (hb : w.heap[b]? = some (dsC l)) (N' V' M' O' I' : Rw) (ov va tk lf : Int) (d : Bool) : DocAt (put10 w b N' V' M' O' I' ov va tk lf d) base S N V M O I :=
 ⟨h.nn, h.vn, h.mn, h.oo, h.ii, h.names.put10 hb (by decide) _ _ _ _ _ _ _ _ _ _, h.vals.put10 hb (by decide) _ _ _ _ _ _ _ _ _ _, h.mem.put10 hb (by decide) _ _ _ _ _ _ _ _ _ _, h.outs.put10 hb (by decide) _ _ _ _ _ _ _ _ _ _, h.intos.put10 hb (by decide) _ _ _ _ _ _ _ _ _ _, h.fv, h.fm, h.fo, h.fi, h.vm, h.vo, h.mo, h.eq⟩
theorem EndAt.put10 {w : World} {base : Nat} {S : Ev} {M O I : Rw} (h : EndAt w base S M O I) {b : Nat} {l : List Value} (hb : w.heap[b]? = some (dsC l)) (N' V' M' O' I' : Rw) (ov va tk lf : Int) (d : Bool) : EndAt (put10 w b N' V' M' O' I' ov va tk lf d) base S M O I :=
 ⟨h.mn, h.oo, h.ii, h.mem.put10 hb (by decide) _ _ _ _ _ _ _ _ _ _, h.outs.put10 hb (by decide) _ _ _ _ _ _ _ _ _ _, h.intos.put10 hb (by decide) _ _ _ _ _ _ _ _ _ _⟩
theorem Row.capLe {w : World} {e : TypeId} {z n c : Nat} {A : Option Addr} {xs : List Value} (h : Row w e z (.slice A n c) n xs) : n ≤ c := by
 obtain ⟨A1, c1, e1, h1⟩ := h.slice; injection e1 with _ _ e1
 omega
theorem DocAt.back {w : World} {base : Nat} {S : Ev} {N V M O I : Rw} (h : DocAt w base S N V M O I) {n : Nat} (hn : n ≤ S.names.length) : DocAt w base (S.back n) ⟨N.a, n, N.c⟩ ⟨V.a, n, V.c⟩ M O I :=
 have e1 : (S.back n).names.length = n := by simp only [Ev.back, List.length_take]; omega
 have e2 : (S.back n).vals.length = n := by have := h.eq; simp only [Ev.back, List.length_take]; omega
 have o : (Value.slice V.a n V.c).ownBlock = (Value.slice V.a V.n V.c).ownBlock := own_any _ _ _ _ _
 have hnn : n ≤ N.n := by have := h.nn; omega
 have hnv : n ≤ V.n := by have := h.vn; have := h.eq; omega
 ⟨e1.symm, e2.symm, h.mn, h.oo, h.ii, by have q := h.names.cutTo hnn; simpa [strs, Ev.back, List.map_take] using q, by have q := h.vals.cutTo hnv; simpa [nums, Ev.back, List.map_take] using q, h.mem, h.outs, h.intos,
  fun g hg => h.fv g (o ▸ hg), h.fm, h.fo, h.fi, fun g hg => h.vm g (o ▸ hg), fun g hg => h.vo g (o ▸ hg), h.mo, by rw [e1, e2]⟩
theorem FrX.set {w wx : World} (h : FrX w wx) {b : Nat} (hb : w.heap.size ≤ b) (i : Nat) (u : Value) : FrX w (wx.setCell ⟨b, i, none⟩ u) := fun q cs t hq h1 h2 => blk_far (h q cs t hq h1 h2) (by have := blk_lt hq; show q ≠ b; omega) _
/-- the two boxes of a block's run -/
structure TwoB (W w : World) (N V M O I : Rw) (ov va tk lf : Int) (e : Bool) (wz : World) : Prop where
 below : Below W.heap.size W wz
 fr : FrX w wz
 sb : wz.heap[w.heap.size]? = some (dsC (dsL N V M O I ov va tk lf e))
 rb : wz.heap[w.heap.size + 1]? = some (dsC (dsL zR zR zR zR zR 0 0 0 0 false))
theorem TwoB.cut {W w wz : World} {N V M O I : Rw} {ov va tk lf : Int} {e : Bool} (h : TwoB W w N V M O I ov va tk lf e wz) (hw : W.heap.size ≤ w.heap.size) (n : Nat) :
  TwoB W w ⟨N.a, n, N.c⟩ ⟨V.a, n, V.c⟩ M O I ov va tk lf e (((wz.setCell ⟨w.heap.size, 0, none⟩ (.slice N.a n N.c)).setCell ⟨w.heap.size, 1, none⟩ (.slice V.a n V.c)).drew) :=
 ⟨((h.below.setCell hw _).setCell hw _).drew, (h.fr.set (Nat.le_refl _) _ _).set (Nat.le_refl _) _ _, blk_set (blk_set h.sb 0 _) 1 _, blk_far (blk_far h.rb (show w.heap.size + 1 ≠ w.heap.size by omega) _) (show w.heap.size + 1 ≠ w.heap.size by omega) _⟩
theorem TwoB.docAt {W w wz : World} {N V M O I : Rw} {ov va tk lf : Int} {e : Bool} (h : TwoB W w N V M O I ov va tk lf e wz) {S : Ev} {base : Nat} (hd : DocAt wz base S N V M O I) {n : Nat} (hn : n ≤ S.names.length) :
  DocAt (((wz.setCell ⟨w.heap.size, 0, none⟩ (.slice N.a n N.c)).setCell ⟨w.heap.size, 1, none⟩ (.slice V.a n V.c)).drew) base (S.back n) ⟨N.a, n, N.c⟩ ⟨V.a, n, V.c⟩ M O I :=
 (((hd.back hn).set h.sb (by decide) (by decide) (by decide) _).set (blk_set h.sb 0 _) (by decide) (by decide) (by decide) _).below (Below.refl _ _).drew
theorem TwoB.endAt {W w wz : World} {N V M O I : Rw} {ov va tk lf : Int} {e : Bool} (h : TwoB W w N V M O I ov va tk lf e wz) {S : Ev} {base : Nat} (hd : EndAt wz base S M O I) (n : Nat) :
  EndAt (((wz.setCell ⟨w.heap.size, 0, none⟩ (.slice N.a n N.c)).setCell ⟨w.heap.size, 1, none⟩ (.slice V.a n V.c)).drew) base S M O I :=
 ((hd.set h.sb (by decide) (by decide) _).set (blk_set h.sb 0 _) (by decide) (by decide) _).below (Below.refl _ _).drew
theorem TwoB.done {W w wz : World} {N V M O I : Rw} {B : Int} {S S' : Ev} (h : TwoB W w N V M O I 0 0 S'.ticks (B - S'.ticks) false wz) (hw : W.heap.size ≤ w.heap.size) (hd : DocAt wz W.heap.size S' N V M O I) :
  DoneD W B S S' none w (.returned (.agg (dsL N V M O I 0 0 S'.ticks (B - S'.ticks) false).toArray)) (put10 wz (w.heap.size + 1) N V M O I 0 0 S'.ticks (B - S'.ticks) false) :=
 ⟨h.below.put10 (by omega) _ _ _ _ _ _ _ _ _ _, h.fr.put10 (by omega) _ _ _ _ _ _ _ _ _ _, N, V, M, O, I, rfl, hd.put10 h.rb _ _ _ _ _ _ _ _ _ _⟩
theorem TwoB.left {W w wz : World} {N V M O I : Rw} {B : Int} {S S' : Ev} {x : Int × Int} (h : TwoB W w N V M O I x.1 x.2 S'.ticks (B - S'.ticks) true wz) (hw : W.heap.size ≤ w.heap.size) (hd : EndAt wz W.heap.size S' M O I) (hn : S.names.length ≤ N.c) (hv : S.names.length ≤ V.c) :
  DoneD W B S S' (some x) w (.returned (.agg (dsL N V M O I x.1 x.2 S'.ticks (B - S'.ticks) true).toArray)) (put10 wz (w.heap.size + 1) N V M O I x.1 x.2 S'.ticks (B - S'.ticks) true) :=
 ⟨h.below.put10 (by omega) _ _ _ _ _ _ _ _ _ _, h.fr.put10 (by omega) _ _ _ _ _ _ _ _ _ _, N, V, M, O, I, rfl, hn, hv, hd.put10 h.rb _ _ _ _ _ _ _ _ _ _⟩
/-- how a block ends -/
def blockEnd (S S' : Ev) (o : Option (Int × Int)) : Ev := match o with
 | none => S'.back S.names.length
 | some _ => S'
set_option maxRecDepth 100000 in
set_option maxHeartbeats 8000000 in
theorem dblk_of (W : World) (B : Int) (l : List Stmt) (S S' : Ev) (o : Option (Int × Int)) (hs : SeqP W B l S S' o) (hg : S.names.length ≤ S'.names.length) : BlockC W B l S (blockEnd S S' o) o := by
 intro A cl d hrd hr h64 hl w N0 V0 M0 O0 I0 hB hD hF; have hln := Stmt.nodesL_len l; have HBW := Lib.hid hB; have HRD := Lib.hid hrd; have HR := Lib.hid hr; have H64 := Lib.hid h64; have hws := hB.size; have hI : BlkI W B l S S' o w 0 ((w.alloc (dsC (dsL N0 V0 M0 O0 I0 0 0 S.ticks (B - S.ticks) false))).alloc (dsC (dsL zR zR zR zR zR 0 0 0 0 false))) :=
  ⟨hB.trans (((Below.refl w.heap.size w).al.al).mono hws), (FrX.refl w).below ((Below.refl w.heap.size w).al.al), blk_new1 w _ _, .inl ⟨S, N0, V0, M0, O0, I0, by rw [List.drop_zero]; exact hs, hD.below ((Below.refl w.heap.size w).al.al), blk_alloc (blk_new w _) _, hF, Nat.le_refl _⟩⟩
 have HI := Lib.hid hI; have hnn := hD.nn; have HNN := Lib.hid hnn; have HG := Lib.hid hg; clear hI hB hD hF hrd hr h64 hs hnn hg; unfold dsL; go_enter Try.func42, Try.ntmps42
 go_wp2; go_loopw [6] (fun i wr => ∃ (k : Nat), i = .int .i64 (k : Int) ∧ k ≤ l.length ∧ Hid (BlkI W B l S S' o w k wr)) (fun i _ => l.length - (intOf i).toNat)
 case atStart => exact ⟨0, rfl, Nat.zero_le _, HI⟩
 case round =>
  clear HI; obtain ⟨k, rfl, hk, HJ⟩ := hrel; obtain ⟨hBr, hFr, hrb, hcase⟩ := HJ.out; have HBR := Lib.hid hBr; have HFR := Lib.hid hFr; have HRB := Lib.hid hrb; have hwr : w.heap.size + 2 ≤ wr.heap.size := by have := blk_lt hrb; omega
  rcases hcase with ⟨Sk, N, V, M, O, I, hsq, hdoc, hsb, hft, hgk⟩ | ⟨x, N, V, M, O, I, ho, hsb, hcn, hcv, hend⟩
  ·have HSQ := Lib.hid hsq
   have HDOC := Lib.hid hdoc; have HSB := Lib.hid hsb; have HFT := Lib.hid hft; have HGK := Lib.hid hgk; obtain ⟨s0, s1, s2, s3, s4, s5, s6, s7, s8, s9⟩ := cel10 hsb; by_cases hlt : k < l.length
   ·have hlt' : (k : Int) < (l.length : Int) := by omega
    have hk0 : (0 : Int) ≤ (k : Int) := by omega
    obtain ⟨ba, oa, A0, c0, A1, c1, A2, c2, hA, hbW, g0, g1, g2, g3, g4, g5, e0, e1, e2, hs', r0, r1, r2⟩ := Stmt.at HRD.out (Below.refl W.heap.size W) hlt; subst hA; have hra := Stmt.rightsB_all HR.out l[k] (List.getElem_mem hlt); have h64s := Stmt.in64_mem H64.out (List.getElem_mem hlt); have hnt := Stmt.nodesL_take l k hlt; rw [List.drop_eq_getElem_cons hlt] at hsq; obtain ⟨s, hs⟩ : ∃ s, l[k] = s := ⟨_, rfl⟩
    rw [hs] at g0 g1 g2 g3 g4 g5 r0 r1 r2 hra h64s hnt hsq; clear HSQ e0 e1 e2 hs' hs
    cases hsq with
    | @first _ _ _ _ x hd hc =>
     have HI := Lib.hid (hc A0 c0 A1 c1 A2 c2 d r0 r1 r2 hra h64s (by omega) wr.drew N V M O I HBR.out.drew (HDOC.out.below (Below.refl _ _).drew) HFT.out)
     unfold Stmt.val at HI
     unfold dsL at HI; clear hd hc r0 r1 r2 hra h64s hnt hsb hdoc hBr hFr hrb hft hgk HJ; go_wp2; refine wp_region_noPanic ?_; refine wp_region_held_drew (S := fun U => Below W.heap.size W U) (by kernel_rfl) HBR.out.drew (fun hHeld => ?_)
     refine tkP 1 22 (.slice (some ⟨ba, oa, none⟩) l.length cl) ?_; refine tkP 2 23 (.int .i64 (k : Int)) ?_; refine tkP 3 24 (.pointer (some ⟨ba, oa + k * 6, none⟩)) ?_; refine tkP 4 25 (.agg #[.int .i64 s.kind, .string s.name, .int .i64 s.cell, .slice A0 s.args.length c0, .slice A1 s.body.length c1, .slice A2 s.els.length c2]) ?_ (hy := Or.inl ⟨by rfl, fun U hU => by have q0 := hU.cellOf g0; have q1 := hU.cellOf g1; have q2 := hU.cellOf g2; have q3 := hU.cellOf g3; have q4 := hU.cellOf g4; have q5 := hU.cellOf g5; clear g0 g1 g2 g3 g4 g5; go_simp⟩)
     refine rd1 0 (some 21) fun K hK => ?_
     go_simp; refine bk hK (hHeld) fun q => ?_; clear hK K hHeld; have hHeld := q; clear q
     refine rd1 5 (some 26) fun K hK => ?_
     go_simp; refine HI.out.mono ?_; rintro y w1 ⟨hbW1, hfr1, N1, V1, M1, O1, I1, hy, hcn1, hcv1, he1⟩; simp only [dsL] at hy
     subst hy; have hfr2 : FrX wr w1 := fun q cs t hq a b => hfr1 q cs t hq a b
     have hsb1 := hfr2 _ _ _ HSB.out (by decide) (by decide)
     have hrb1 := hfr2 _ _ _ HRB.out (by decide) (by decide)
     obtain ⟨z0, z1, z2, z3, z4, z5, z6, z7, z8, z9⟩ := cel10 hsb1; have zf := blk_free hsb1; refine bk hK (hbW1) fun q => ?_; clear hK K hHeld; have hHeld := q; clear q
     refine rd1 6 none fun K hK => ?_
     go_simp; refine bk hK (hbW1.put10 hws N1 V1 M1 O1 I1 (x.1) (x.2) S'.ticks (B - S'.ticks) true) fun q => ?_; clear hK K hHeld; have hHeld := q; clear q
     refine wpAnyH_done (by kernel_rfl) ?_ _
     refine NoPanic.normal ?_; have hps := put10_blk hsb1 N1 V1 M1 O1 I1 (x.1) (x.2) S'.ticks (B - S'.ticks) true; have hrb2 := put10_far hrb1 (show w.heap.size + 1 ≠ w.heap.size by omega) N1 V1 M1 O1 I1 (x.1) (x.2) S'.ticks (B - S'.ticks) true
     have hbW2 := hbW1.put10 hws N1 V1 M1 O1 I1 (x.1) (x.2) S'.ticks (B - S'.ticks) true; have hfr3 : FrX w (put10 w1 w.heap.size N1 V1 M1 O1 I1 (x.1) (x.2) S'.ticks (B - S'.ticks) true) := (HFR.out.trans hfr2).put10 (Nat.le_refl _) _ _ _ _ _ _ _ _ _ _
     have hend2 := he1.put10 hsb1 N1 V1 M1 O1 I1 x.1 x.2 S'.ticks (B - S'.ticks) true; have HNX := Lib.hid (show BlkI W B l S S' (some x) w (k + 1) (put10 w1 w.heap.size N1 V1 M1 O1 I1 (x.1) (x.2) S'.ticks (B - S'.ticks) true) from ⟨hbW2, hfr3, hrb2, .inr ⟨x, N1, V1, M1, O1, I1, rfl, hps, Nat.le_trans HGK.out hcn1, Nat.le_trans HGK.out hcv1, hend2⟩⟩)
     obtain ⟨w9, hw9⟩ : ∃ wx, put10 w1 w.heap.size N1 V1 M1 O1 I1 (x.1) (x.2) S'.ticks (B - S'.ticks) true = wx := ⟨_, rfl⟩
     rw [hw9] at HNX; unfold put10 at hw9; rw [hw9]; clear hps hrb2 hbW2 hfr3 hfr2 hfr1 hsb1 hrb1 hw9 z0 z1 z2 z3 z4 z5 z6 z7 z8 z9 zf; go_wp2; go_roundw
     case rel => exact ⟨k + 1, by go_num, by omega, HNX⟩
     case measure => simp [intOf]; omega
    | @next _ _ _ S1 _ _ hd hc hrest =>
     have HI := Lib.hid (hc A0 c0 A1 c1 A2 c2 d r0 r1 r2 hra h64s (by omega) wr.drew N V M O I HBR.out.drew (HDOC.out.below (Below.refl _ _).drew) HFT.out)
     unfold Stmt.val at HI
     unfold dsL at HI; have HF1 := Lib.hid (HFT.out.next hd h64s); have HGR := Lib.hid hd.does_.grow; have HREST := Lib.hid hrest; clear hd hc r0 r1 r2 hra h64s hnt hsb hdoc hBr hFr hrb hft hgk HJ hrest; go_wp2; refine wp_region_noPanic ?_; refine wp_region_held_drew (S := fun U => Below W.heap.size W U) (by kernel_rfl) HBR.out.drew (fun hHeld => ?_)
     refine tkP 1 22 (.slice (some ⟨ba, oa, none⟩) l.length cl) ?_; refine tkP 2 23 (.int .i64 (k : Int)) ?_; refine tkP 3 24 (.pointer (some ⟨ba, oa + k * 6, none⟩)) ?_; refine tkP 4 25 (.agg #[.int .i64 s.kind, .string s.name, .int .i64 s.cell, .slice A0 s.args.length c0, .slice A1 s.body.length c1, .slice A2 s.els.length c2]) ?_ (hy := Or.inl ⟨by rfl, fun U hU => by have q0 := hU.cellOf g0; have q1 := hU.cellOf g1; have q2 := hU.cellOf g2; have q3 := hU.cellOf g3; have q4 := hU.cellOf g4; have q5 := hU.cellOf g5; clear g0 g1 g2 g3 g4 g5; go_simp⟩)
     refine rd1 0 (some 21) fun K hK => ?_
     go_simp; refine bk hK (hHeld) fun q => ?_; clear hK K hHeld; have hHeld := q; clear q
     refine rd1 5 (some 26) fun K hK => ?_
     go_simp; refine HI.out.mono ?_; rintro y w1 ⟨hbW1, hfr1, N1, V1, M1, O1, I1, hy, hd1⟩; simp only [dsL] at hy
     subst hy; have hfr2 : FrX wr w1 := fun q cs t hq a b => hfr1 q cs t hq a b
     have hsb1 := hfr2 _ _ _ HSB.out (by decide) (by decide)
     have hrb1 := hfr2 _ _ _ HRB.out (by decide) (by decide)
     obtain ⟨z0, z1, z2, z3, z4, z5, z6, z7, z8, z9⟩ := cel10 hsb1; have zf := blk_free hsb1; refine bk hK (hbW1) fun q => ?_; clear hK K hHeld; have hHeld := q; clear q
     refine rd1 6 none fun K hK => ?_
     go_simp; refine bk hK (hbW1.put10 hws N1 V1 M1 O1 I1 (0) (0) S1.ticks (B - S1.ticks) false) fun q => ?_; clear hK K hHeld; have hHeld := q; clear q
     refine wpAnyH_done (by kernel_rfl) ?_ _
     refine NoPanic.normal ?_; have hps := put10_blk hsb1 N1 V1 M1 O1 I1 (0) (0) S1.ticks (B - S1.ticks) false; have hrb2 := put10_far hrb1 (show w.heap.size + 1 ≠ w.heap.size by omega) N1 V1 M1 O1 I1 (0) (0) S1.ticks (B - S1.ticks) false
     have hbW2 := hbW1.put10 hws N1 V1 M1 O1 I1 (0) (0) S1.ticks (B - S1.ticks) false; have hfr3 : FrX w (put10 w1 w.heap.size N1 V1 M1 O1 I1 (0) (0) S1.ticks (B - S1.ticks) false) := (HFR.out.trans hfr2).put10 (Nat.le_refl _) _ _ _ _ _ _ _ _ _ _
     have hdoc2 := hd1.put10 hsb1 N1 V1 M1 O1 I1 0 0 S1.ticks (B - S1.ticks) false; have HNX := Lib.hid (show BlkI W B l S S' o w (k + 1) (put10 w1 w.heap.size N1 V1 M1 O1 I1 (0) (0) S1.ticks (B - S1.ticks) false) from ⟨hbW2, hfr3, hrb2, .inl ⟨S1, N1, V1, M1, O1, I1, HREST.out, hdoc2, hps, HF1.out, Nat.le_trans HGK.out HGR.out⟩⟩)
     obtain ⟨w9, hw9⟩ : ∃ wx, put10 w1 w.heap.size N1 V1 M1 O1 I1 (0) (0) S1.ticks (B - S1.ticks) false = wx := ⟨_, rfl⟩
     rw [hw9] at HNX; unfold put10 at hw9; rw [hw9]; clear hps hrb2 hbW2 hfr3 hfr2 hfr1 hsb1 hrb1 hw9 z0 z1 z2 z3 z4 z5 z6 z7 z8 z9 zf; go_wp2; go_roundw
     case rel => exact ⟨k + 1, by go_num, by omega, HNX⟩
     case measure => simp [intOf]; omega
   ·have hk' : k = l.length := by omega
    subst hk'; have hnl : ¬ ((l.length : Int) < (l.length : Int)) := by omega
    rw [List.drop_length] at hsq
    cases hsq
    have hc1 := Row.capLe hdoc.names; have hc2 := Row.capLe hdoc.vals; have sf := blk_free hsb; have hsn : ∀ U, (Instr.sliceAt 78 (.slice N.a N.n N.c) none (some (.int .i64 (N0.n : Int))) none).run Try.prog U = .ok (.slice N.a N0.n N.c) U := fun U => run_to U _ elem_strings size_strings N.a _ N.c _ (by have := hdoc.nn; have := HNN.out; omega)
    have hsv : ∀ U, (Instr.sliceAt 46 (.slice V.a V.n V.c) none (some (.int .i64 (N0.n : Int))) none).run Try.prog U = .ok (.slice V.a N0.n V.c) U := fun U => run_to U _ elem_nums size_nums V.a _ V.c _ (by have := hdoc.vn; have := hdoc.eq; have := HNN.out; omega)
    have HT := Lib.hid (TwoB.cut (W := W) (w := w) ⟨HBR.out, HFR.out, HSB.out, HRB.out⟩ hws N0.n); have HQ := Lib.hid (TwoB.docAt (W := W) (w := w) ⟨HBR.out, HFR.out, HSB.out, HRB.out⟩ hdoc (n := N0.n) (by have := HNN.out; omega))
    clear HSQ hc1 hc2 hsb hdoc hBr hFr hrb hft hgk HJ; go_wp2; refine wp_region_held_drew (S := KeepS (w.heap.size) wr) (by kernel_rfl) (KeepS.drew _ _) (fun hHeld => ?_)
    refine tkP 0 27 (.pointer (some ⟨w.heap.size, 0, none⟩)) ?_; refine tkP 2 29 (.int .i64 (N0.n : Int)) ?_; refine tkP 4 31 (.pointer (some ⟨w.heap.size, 1, none⟩)) ?_; refine tkP 6 33 (.int .i64 (N0.n : Int)) ?_; refine wpAnyH_ready (rs := [1, 5]) (by kernel_rfl) (by simp) ?_
    refine AllReadyH.cons (o := ⟨some 28, _, _, _, _, _⟩) rfl (fun K hK => ?_) ?_
    ·go_simp
     refine bk hK (hHeld) fun q => ?_; clear hK K hHeld; have hHeld := q; clear q
     refine tkP 3 30 (.slice N.a N0.n N.c) ?_ (hy := Or.inl ⟨by rfl, fun U hU => by have r1 := hsn U; go_simp⟩)
     refine rd1 5 (some 32) fun K hK => ?_
     go_simp; refine bk hK (hHeld) fun q => ?_; clear hK K hHeld; have hHeld := q; clear q
     refine tkP 7 34 (.slice V.a N0.n V.c) ?_ (hy := Or.inl ⟨by rfl, fun U hU => by have r2 := hsv U; go_simp⟩)
     refine tkP 8 35 (.pointer (some ⟨w.heap.size, 0, none⟩)) ?_; refine rd1 9 none fun K hK => ?_
     go_simp; refine bk hK ((KeepS.refl _ wr).set _ _) fun q => ?_; clear hK K hHeld; have hHeld := q; clear q
     refine tkP 10 36 (.pointer (some ⟨w.heap.size, 1, none⟩)) ?_; refine rd1 11 none fun K hK => ?_
     go_simp; refine bk hK (((KeepS.refl _ wr).set _ _).set _ _) fun q => ?_; clear hK K hHeld; have hHeld := q; clear q
     refine wpAnyH_done (by kernel_rfl) ?_ _
     obtain ⟨wz, hwz⟩ : ∃ wx, ((wr.setCell ⟨w.heap.size, 0, none⟩ (.slice N.a N0.n N.c)).setCell ⟨w.heap.size, 1, none⟩ (.slice V.a N0.n V.c)).drew = wx := ⟨_, rfl⟩
     rw [hwz] at HT HQ ⊢; clear hHeld hwz s0 s1 s2 s3 s4 s5 s6 s7 s8 s9 sf hsn hsv; obtain ⟨z0, z1, z2, z3, z4, z5, z6, z7, z8, z9⟩ := cel10 HT.out.sb; dsimp only at z0 z1; obtain ⟨r0, r1, r2, r3, r4, r5, r6, r7, r8, r9⟩ := celz HT.out.rb; have rf := blk_free HT.out.rb; go_wp2; have hf := put10_blk HT.out.rb ⟨N.a, N0.n, N.c⟩ ⟨V.a, N0.n, V.c⟩ M O I 0 0 S'.ticks (B - S'.ticks) false; have hd := TwoB.done (S := S) (S' := S'.back N0.n) HT.out hws HQ.out; exact bodyPost_ret (results_ds rfl _ _ (w.heap.size + 1) ⟨N.a, N0.n, N.c⟩ ⟨V.a, N0.n, V.c⟩ M O I 0 0 S'.ticks (B - S'.ticks) false (by rfl) hf) rfl (by have e := HNN.out; unfold blockEnd; rw [← e]; exact hd)
    ·refine AllReadyH.cons (o := ⟨some 32, _, _, _, _, _⟩) rfl (fun K hK => ?_) AllReadyH.nil
     go_simp; refine bk hK (hHeld) fun q => ?_; clear hK K hHeld; have hHeld := q; clear q
     refine tkP 7 34 (.slice V.a N0.n V.c) ?_ (hy := Or.inl ⟨by rfl, fun U hU => by have r2 := hsv U; go_simp⟩)
     refine rd1 1 (some 28) fun K hK => ?_
     go_simp; refine bk hK (hHeld) fun q => ?_; clear hK K hHeld; have hHeld := q; clear q
     refine tkP 3 30 (.slice N.a N0.n N.c) ?_ (hy := Or.inl ⟨by rfl, fun U hU => by have r1 := hsn U; go_simp⟩)
     refine tkP 8 35 (.pointer (some ⟨w.heap.size, 0, none⟩)) ?_; refine rd1 9 none fun K hK => ?_
     go_simp; refine bk hK ((KeepS.refl _ wr).set _ _) fun q => ?_; clear hK K hHeld; have hHeld := q; clear q
     refine tkP 10 36 (.pointer (some ⟨w.heap.size, 1, none⟩)) ?_; refine rd1 11 none fun K hK => ?_
     go_simp; refine bk hK (((KeepS.refl _ wr).set _ _).set _ _) fun q => ?_; clear hK K hHeld; have hHeld := q; clear q
     refine wpAnyH_done (by kernel_rfl) ?_ _
     obtain ⟨wz, hwz⟩ : ∃ wx, ((wr.setCell ⟨w.heap.size, 0, none⟩ (.slice N.a N0.n N.c)).setCell ⟨w.heap.size, 1, none⟩ (.slice V.a N0.n V.c)).drew = wx := ⟨_, rfl⟩
     rw [hwz] at HT HQ ⊢; clear hHeld hwz s0 s1 s2 s3 s4 s5 s6 s7 s8 s9 sf hsn hsv; obtain ⟨z0, z1, z2, z3, z4, z5, z6, z7, z8, z9⟩ := cel10 HT.out.sb; dsimp only at z0 z1; obtain ⟨r0, r1, r2, r3, r4, r5, r6, r7, r8, r9⟩ := celz HT.out.rb; have rf := blk_free HT.out.rb; go_wp2; have hf := put10_blk HT.out.rb ⟨N.a, N0.n, N.c⟩ ⟨V.a, N0.n, V.c⟩ M O I 0 0 S'.ticks (B - S'.ticks) false; have hd := TwoB.done (S := S) (S' := S'.back N0.n) HT.out hws HQ.out; exact bodyPost_ret (results_ds rfl _ _ (w.heap.size + 1) ⟨N.a, N0.n, N.c⟩ ⟨V.a, N0.n, V.c⟩ M O I 0 0 S'.ticks (B - S'.ticks) false (by rfl) hf) rfl (by have e := HNN.out; unfold blockEnd; rw [← e]; exact hd)
  ·obtain ⟨B1, hB1⟩ : ∃ b : Bool, decide ((k : Int) < (l.length : Int)) = b := ⟨_, rfl⟩
   have HSB := Lib.hid hsb; subst ho; obtain ⟨s0, s1, s2, s3, s4, s5, s6, s7, s8, s9⟩ := cel10 hsb; have sf := blk_free hsb; have hc1 : N0.n ≤ N.c := by have := HNN.out; omega
   have hc2 : N0.n ≤ V.c := by have := HNN.out; omega
   have hsn : ∀ U, (Instr.sliceAt 78 (.slice N.a N.n N.c) none (some (.int .i64 (N0.n : Int))) none).run Try.prog U = .ok (.slice N.a N0.n N.c) U := fun U => run_to U _ elem_strings size_strings N.a _ N.c _ hc1
   have hsv : ∀ U, (Instr.sliceAt 46 (.slice V.a V.n V.c) none (some (.int .i64 (N0.n : Int))) none).run Try.prog U = .ok (.slice V.a N0.n V.c) U := fun U => run_to U _ elem_nums size_nums V.a _ V.c _ hc2
   have HT := Lib.hid (TwoB.cut (W := W) (w := w) ⟨HBR.out, HFR.out, hsb, HRB.out⟩ hws N0.n); have HQ := Lib.hid (TwoB.endAt (W := W) (w := w) ⟨HBR.out, HFR.out, hsb, HRB.out⟩ hend N0.n); have HC := Lib.hid (And.intro hcn hcv); clear hc1 hc2 hsb hBr hFr hrb HJ hend hcn hcv; by_cases hlt : k < l.length
   ·have hlt' : (k : Int) < (l.length : Int) := by omega
    go_wp2; refine wp_region_held_drew (S := KeepS (w.heap.size) wr) (by kernel_rfl) (KeepS.drew _ _) (fun hHeld => ?_)
    refine tkP 0 27 (.pointer (some ⟨w.heap.size, 0, none⟩)) ?_; refine tkP 2 29 (.int .i64 (N0.n : Int)) ?_; refine tkP 4 31 (.pointer (some ⟨w.heap.size, 1, none⟩)) ?_; refine tkP 6 33 (.int .i64 (N0.n : Int)) ?_; refine wpAnyH_ready (rs := [1, 5]) (by kernel_rfl) (by simp) ?_
    refine AllReadyH.cons (o := ⟨some 28, _, _, _, _, _⟩) rfl (fun K hK => ?_) ?_
    ·go_simp
     refine bk hK (hHeld) fun q => ?_; clear hK K hHeld; have hHeld := q; clear q
     refine tkP 3 30 (.slice N.a N0.n N.c) ?_ (hy := Or.inl ⟨by rfl, fun U hU => by have r1 := hsn U; go_simp⟩)
     refine rd1 5 (some 32) fun K hK => ?_
     go_simp; refine bk hK (hHeld) fun q => ?_; clear hK K hHeld; have hHeld := q; clear q
     refine tkP 7 34 (.slice V.a N0.n V.c) ?_ (hy := Or.inl ⟨by rfl, fun U hU => by have r2 := hsv U; go_simp⟩)
     refine tkP 8 35 (.pointer (some ⟨w.heap.size, 0, none⟩)) ?_; refine rd1 9 none fun K hK => ?_
     go_simp; refine bk hK ((KeepS.refl _ wr).set _ _) fun q => ?_; clear hK K hHeld; have hHeld := q; clear q
     refine tkP 10 36 (.pointer (some ⟨w.heap.size, 1, none⟩)) ?_; refine rd1 11 none fun K hK => ?_
     go_simp; refine bk hK (((KeepS.refl _ wr).set _ _).set _ _) fun q => ?_; clear hK K hHeld; have hHeld := q; clear q
     refine wpAnyH_done (by kernel_rfl) ?_ _
     obtain ⟨wz, hwz⟩ : ∃ wx, ((wr.setCell ⟨w.heap.size, 0, none⟩ (.slice N.a N0.n N.c)).setCell ⟨w.heap.size, 1, none⟩ (.slice V.a N0.n V.c)).drew = wx := ⟨_, rfl⟩
     rw [hwz] at HT HQ ⊢; clear hHeld hwz s0 s1 s2 s3 s4 s5 s6 s7 s8 s9 sf hsn hsv; obtain ⟨z0, z1, z2, z3, z4, z5, z6, z7, z8, z9⟩ := cel10 HT.out.sb; dsimp only at z0 z1; obtain ⟨r0, r1, r2, r3, r4, r5, r6, r7, r8, r9⟩ := celz HT.out.rb; have rf := blk_free HT.out.rb; go_wp2; have hf := put10_blk HT.out.rb ⟨N.a, N0.n, N.c⟩ ⟨V.a, N0.n, V.c⟩ M O I x.1 x.2 S'.ticks (B - S'.ticks) true; have hd := TwoB.left (S := S) (S' := S') HT.out hws HQ.out HC.out.1 HC.out.2; exact bodyPost_ret (results_ds rfl _ _ (w.heap.size + 1) ⟨N.a, N0.n, N.c⟩ ⟨V.a, N0.n, V.c⟩ M O I x.1 x.2 S'.ticks (B - S'.ticks) true (by rfl) hf) rfl hd
    ·refine AllReadyH.cons (o := ⟨some 32, _, _, _, _, _⟩) rfl (fun K hK => ?_) AllReadyH.nil
     go_simp; refine bk hK (hHeld) fun q => ?_; clear hK K hHeld; have hHeld := q; clear q
     refine tkP 7 34 (.slice V.a N0.n V.c) ?_ (hy := Or.inl ⟨by rfl, fun U hU => by have r2 := hsv U; go_simp⟩)
     refine rd1 1 (some 28) fun K hK => ?_
     go_simp; refine bk hK (hHeld) fun q => ?_; clear hK K hHeld; have hHeld := q; clear q
     refine tkP 3 30 (.slice N.a N0.n N.c) ?_ (hy := Or.inl ⟨by rfl, fun U hU => by have r1 := hsn U; go_simp⟩)
     refine tkP 8 35 (.pointer (some ⟨w.heap.size, 0, none⟩)) ?_; refine rd1 9 none fun K hK => ?_
     go_simp; refine bk hK ((KeepS.refl _ wr).set _ _) fun q => ?_; clear hK K hHeld; have hHeld := q; clear q
     refine tkP 10 36 (.pointer (some ⟨w.heap.size, 1, none⟩)) ?_; refine rd1 11 none fun K hK => ?_
     go_simp; refine bk hK (((KeepS.refl _ wr).set _ _).set _ _) fun q => ?_; clear hK K hHeld; have hHeld := q; clear q
     refine wpAnyH_done (by kernel_rfl) ?_ _
     obtain ⟨wz, hwz⟩ : ∃ wx, ((wr.setCell ⟨w.heap.size, 0, none⟩ (.slice N.a N0.n N.c)).setCell ⟨w.heap.size, 1, none⟩ (.slice V.a N0.n V.c)).drew = wx := ⟨_, rfl⟩
     rw [hwz] at HT HQ ⊢; clear hHeld hwz s0 s1 s2 s3 s4 s5 s6 s7 s8 s9 sf hsn hsv; obtain ⟨z0, z1, z2, z3, z4, z5, z6, z7, z8, z9⟩ := cel10 HT.out.sb; dsimp only at z0 z1; obtain ⟨r0, r1, r2, r3, r4, r5, r6, r7, r8, r9⟩ := celz HT.out.rb; have rf := blk_free HT.out.rb; go_wp2; have hf := put10_blk HT.out.rb ⟨N.a, N0.n, N.c⟩ ⟨V.a, N0.n, V.c⟩ M O I x.1 x.2 S'.ticks (B - S'.ticks) true; have hd := TwoB.left (S := S) (S' := S') HT.out hws HQ.out HC.out.1 HC.out.2; exact bodyPost_ret (results_ds rfl _ _ (w.heap.size + 1) ⟨N.a, N0.n, N.c⟩ ⟨V.a, N0.n, V.c⟩ M O I x.1 x.2 S'.ticks (B - S'.ticks) true (by rfl) hf) rfl hd
   ·have hk' : k = l.length := by omega
    subst hk'; have hnl : ¬ ((l.length : Int) < (l.length : Int)) := by omega
    go_wp2; refine wp_region_held_drew (S := KeepS (w.heap.size) wr) (by kernel_rfl) (KeepS.drew _ _) (fun hHeld => ?_)
    refine tkP 0 27 (.pointer (some ⟨w.heap.size, 0, none⟩)) ?_; refine tkP 2 29 (.int .i64 (N0.n : Int)) ?_; refine tkP 4 31 (.pointer (some ⟨w.heap.size, 1, none⟩)) ?_; refine tkP 6 33 (.int .i64 (N0.n : Int)) ?_; refine wpAnyH_ready (rs := [1, 5]) (by kernel_rfl) (by simp) ?_
    refine AllReadyH.cons (o := ⟨some 28, _, _, _, _, _⟩) rfl (fun K hK => ?_) ?_
    ·go_simp
     refine bk hK (hHeld) fun q => ?_; clear hK K hHeld; have hHeld := q; clear q
     refine tkP 3 30 (.slice N.a N0.n N.c) ?_ (hy := Or.inl ⟨by rfl, fun U hU => by have r1 := hsn U; go_simp⟩)
     refine rd1 5 (some 32) fun K hK => ?_
     go_simp; refine bk hK (hHeld) fun q => ?_; clear hK K hHeld; have hHeld := q; clear q
     refine tkP 7 34 (.slice V.a N0.n V.c) ?_ (hy := Or.inl ⟨by rfl, fun U hU => by have r2 := hsv U; go_simp⟩)
     refine tkP 8 35 (.pointer (some ⟨w.heap.size, 0, none⟩)) ?_; refine rd1 9 none fun K hK => ?_
     go_simp; refine bk hK ((KeepS.refl _ wr).set _ _) fun q => ?_; clear hK K hHeld; have hHeld := q; clear q
     refine tkP 10 36 (.pointer (some ⟨w.heap.size, 1, none⟩)) ?_; refine rd1 11 none fun K hK => ?_
     go_simp; refine bk hK (((KeepS.refl _ wr).set _ _).set _ _) fun q => ?_; clear hK K hHeld; have hHeld := q; clear q
     refine wpAnyH_done (by kernel_rfl) ?_ _
     obtain ⟨wz, hwz⟩ : ∃ wx, ((wr.setCell ⟨w.heap.size, 0, none⟩ (.slice N.a N0.n N.c)).setCell ⟨w.heap.size, 1, none⟩ (.slice V.a N0.n V.c)).drew = wx := ⟨_, rfl⟩
     rw [hwz] at HT HQ ⊢; clear hHeld hwz s0 s1 s2 s3 s4 s5 s6 s7 s8 s9 sf hsn hsv; obtain ⟨z0, z1, z2, z3, z4, z5, z6, z7, z8, z9⟩ := cel10 HT.out.sb; dsimp only at z0 z1; obtain ⟨r0, r1, r2, r3, r4, r5, r6, r7, r8, r9⟩ := celz HT.out.rb; have rf := blk_free HT.out.rb; go_wp2; have hf := put10_blk HT.out.rb ⟨N.a, N0.n, N.c⟩ ⟨V.a, N0.n, V.c⟩ M O I x.1 x.2 S'.ticks (B - S'.ticks) true; have hd := TwoB.left (S := S) (S' := S') HT.out hws HQ.out HC.out.1 HC.out.2; exact bodyPost_ret (results_ds rfl _ _ (w.heap.size + 1) ⟨N.a, N0.n, N.c⟩ ⟨V.a, N0.n, V.c⟩ M O I x.1 x.2 S'.ticks (B - S'.ticks) true (by rfl) hf) rfl hd
    ·refine AllReadyH.cons (o := ⟨some 32, _, _, _, _, _⟩) rfl (fun K hK => ?_) AllReadyH.nil
     go_simp; refine bk hK (hHeld) fun q => ?_; clear hK K hHeld; have hHeld := q; clear q
     refine tkP 7 34 (.slice V.a N0.n V.c) ?_ (hy := Or.inl ⟨by rfl, fun U hU => by have r2 := hsv U; go_simp⟩)
     refine rd1 1 (some 28) fun K hK => ?_
     go_simp; refine bk hK (hHeld) fun q => ?_; clear hK K hHeld; have hHeld := q; clear q
     refine tkP 3 30 (.slice N.a N0.n N.c) ?_ (hy := Or.inl ⟨by rfl, fun U hU => by have r1 := hsn U; go_simp⟩)
     refine tkP 8 35 (.pointer (some ⟨w.heap.size, 0, none⟩)) ?_; refine rd1 9 none fun K hK => ?_
     go_simp; refine bk hK ((KeepS.refl _ wr).set _ _) fun q => ?_; clear hK K hHeld; have hHeld := q; clear q
     refine tkP 10 36 (.pointer (some ⟨w.heap.size, 1, none⟩)) ?_; refine rd1 11 none fun K hK => ?_
     go_simp; refine bk hK (((KeepS.refl _ wr).set _ _).set _ _) fun q => ?_; clear hK K hHeld; have hHeld := q; clear q
     refine wpAnyH_done (by kernel_rfl) ?_ _
     obtain ⟨wz, hwz⟩ : ∃ wx, ((wr.setCell ⟨w.heap.size, 0, none⟩ (.slice N.a N0.n N.c)).setCell ⟨w.heap.size, 1, none⟩ (.slice V.a N0.n V.c)).drew = wx := ⟨_, rfl⟩
     rw [hwz] at HT HQ ⊢; clear hHeld hwz s0 s1 s2 s3 s4 s5 s6 s7 s8 s9 sf hsn hsv; obtain ⟨z0, z1, z2, z3, z4, z5, z6, z7, z8, z9⟩ := cel10 HT.out.sb; dsimp only at z0 z1; obtain ⟨r0, r1, r2, r3, r4, r5, r6, r7, r8, r9⟩ := celz HT.out.rb; have rf := blk_free HT.out.rb; go_wp2; have hf := put10_blk HT.out.rb ⟨N.a, N0.n, N.c⟩ ⟨V.a, N0.n, V.c⟩ M O I x.1 x.2 S'.ticks (B - S'.ticks) true; have hd := TwoB.left (S := S) (S' := S') HT.out hws HQ.out HC.out.1 HC.out.2; exact bodyPost_ret (results_ds rfl _ _ (w.heap.size + 1) ⟨N.a, N0.n, N.c⟩ ⟨V.a, N0.n, V.c⟩ M O I x.1 x.2 S'.ticks (B - S'.ticks) true (by rfl) hf) rfl hd
end Go.Proofs.Ytjlnpppjkdcpkaa.My
