/- The document's run of a source text. Conditions: the tree was there in the world W, which is kept; the numbers are of 64 bits. -/
import Derived.Test.YtjlnpppjkdcpkaaERDr0
import Derived.Test.YtjlnpppjkdcpkaaEREvN14
namespace Go.Proofs.Ytjlnpppjkdcpkaa.My
open Go.RowKit Go.Proofs.Ytjlnpppjkdcpkaa.NumA
set_option linter.unusedVariables false
set_option linter.unusedSimpArgs false
set_option maxRecDepth 100000 in
set_option maxHeartbeats 4000000 in
theorem docRun_ok (W : World) (ss : List Stmt) (A : Option Addr) (c : Nat) (hrd : Stmt.rds W ss A 0) (hnl : Stmt.nodesL ss ≤ 1000000000) (L : Int) (mem : List Int) (AM : Option Addr) (cM : Nat) (n i k B : Int) (w : World) (hB : Below W.heap.size W w) (hm : numRow w mem AM) (hml : mem.length ≤ maxLen) (hq : runErr ss L mem.length B = 0) (h64 : Stmt.in64L ss) (hg : ∀ y ∈ mem, n64 y) (hn : n64 n) (hi : n64 i) (hk : n64 k) (S : Ev) (o : Option (Int × Int)) (hd : Does B (.block ss) (startS mem n i k) S o) :
  Calls Try.prog 23 #[.slice A ss.length c, .int .i64 L, .agg #[.slice AM mem.length cM, .int .i64 n, .int .i64 i, .int .i64 k], .int .i64 B] w fun E w' => ∃ M O I, Below w.heap.size w w' ∧ Rows3 w' S M O I ∧ E = .returned (.tuple #[effV S o M O I, .int .i64 0]) := by
 have hr : rightP nameB ss = true := by
  by_cases hr : rightP nameB ss = true
  ·exact hr
  ·exfalso; simp [runErr, hr] at hq
 have hs : (slotsP ss L).2 = 0 := by
  by_cases hs : (slotsP ss L).2 = 0
  ·exact hs
  ·exfalso; simp [runErr, hr, hs] at hq
 have h6 : ¬ 64 < mem.length := by
  intro h6; simp [runErr, hr, hs, h6] at hq
 have hbd : ¬ (B < 0 ∨ 1000000 < B) := by
  intro hbd; simp [runErr, hr, hs, h6, hbd] at hq
 have hb0 : ¬ B < 0 := by omega
 have hb1 : ¬ 1000000 < B := by omega
 have h64' : ¬ (((64 : Nat) : Int) < (mem.length : Int)) := by omega
 have hdf : DoesF B (.block ss) (startS mem n i k) S o := hd.found ⟨[], [], 0, L⟩ rfl (by
  simp only [Task.known]
  rw [blockS_one]; unfold slotsP at hs; split at hs
  ·assumption
  ·exact hs)
 have hsB : Stmt.rightsB nameB 0 ss = true := by unfold rightP at hr; rw [Bool.and_eq_true] at hr; exact hr.1
 have hnb : Stmt.nodesL ss ≤ 600 := by unfold rightP at hr; simp only [Bool.and_eq_true, decide_eq_true_eq] at hr; exact hr.2
 have hfit : FitS B (startS mem n i k) := ⟨startS_sz mem n i k, ⟨fun v hv => by
  simp only [startS, List.mem_cons, List.not_mem_nil, or_false] at hv
  rcases hv with rfl | rfl | rfl
  ·exact hn
  ·exact hi
  ·exact hk, hg⟩, by show (0 : Int) ≤ B; omega, by show mem.length ≤ 1000; omega, by omega⟩
 have HBL := Lib.hid (show ∀ w' N V M O I, Below w.heap.size w w' → DocAt w' w.heap.size (startS mem n i k) N V M O I → Calls Try.prog 42 #[.agg #[.slice N.a N.n N.c, .slice V.a V.n V.c, .slice M.a M.n M.c, .slice O.a O.n O.c, .slice I.a I.n I.c, .int .i64 0, .int .i64 0, .int .i64 0, .int .i64 B, .bool false], .slice A ss.length c] w' (DoneD w B (startS mem n i k) S o w') from fun w' N V M O I hb hd => by
  have h := hdf.taskC (W := w) A c 0 (Stmt.rds_keep hB hrd) hsB h64 (by omega) w' N V M O I hb hd hfit
  have e : B - (startS mem n i k).ticks = B := by show B - 0 = B; omega
  rw [e] at h; exact h)
 clear hdf hsB hnb hfit h6 hbd hq hn hi hk hg h64 hd; unfold maxLen at hml; have hz1 : (w.alloc (.cells #[.slice AM mem.length cM, .int .i64 n, .int .i64 i, .int .i64 k] 48)).heap.size = w.heap.size + 1 := size_al _ _
 have hx0 := blk_alloc (blk_new w (.cells #[.slice AM mem.length cM, .int .i64 n, .int .i64 i, .int .i64 k] 48)) (.cells #[.slice none 0 0, .slice none 0 0, .slice none 0 0, .int .i64 0, .int .i64 0, .int .i64 0] 55); have hx1 := blk_new (w.alloc (.cells #[.slice AM mem.length cM, .int .i64 n, .int .i64 i, .int .i64 k] 48)) (.cells #[.slice none 0 0, .slice none 0 0, .slice none 0 0, .int .i64 0, .int .i64 0, .int .i64 0] 55); have hb : Below w.heap.size w ((w.alloc (.cells #[.slice AM mem.length cM, .int .i64 n, .int .i64 i, .int .i64 k] 48)).alloc (.cells #[.slice none 0 0, .slice none 0 0, .slice none 0 0, .int .i64 0, .int .i64 0, .int .i64 0] 55)) := ((Below.refl w.heap.size w).al).al
 rw [hz1] at hx1; obtain ⟨w0, hw0⟩ : ∃ x, (w.alloc (.cells #[.slice AM mem.length cM, .int .i64 n, .int .i64 i, .int .i64 k] 48)).alloc (.cells #[.slice none 0 0, .slice none 0 0, .slice none 0 0, .int .i64 0, .int .i64 0, .int .i64 0] 55) = x := ⟨_, rfl⟩
 rw [hw0] at hx0 hx1 hb; have HRI := Lib.hid (docRight_calls W ss A c hrd hnl w0 (hB.trans (hb.mono hB.size))); have HSL := Lib.hid (fun w1 (h1 : Below w0.heap.size w0 w1) => rslots_calls W ss A c L hrd hnl w1 (hB.trans ((hb.trans (h1.mono hb.size)).mono hB.size)))
 have HX0 := Lib.hid hx0; have HX1 := Lib.hid hx1; have HB := Lib.hid hb; have HW := Lib.hid hw0; have HBW := Lib.hid hB; have HM := Lib.hid (hm.below hb); have HRD := Lib.hid hrd; have HNL := Lib.hid hnl; clear hx0 hx1 hb hw0 hB hm hrd hnl hz1; have HR := Lib.hid hr; have HS := Lib.hid hs; clear hr hs; go_enter Try.func23, Try.ntmps23
 go_wp2_with fail; rw [HW.out]; refine HRI.out.mono ?_; rintro y w1 ⟨rfl, hb1⟩; have HB01 := Lib.hid hb1; clear hb1; rw [HR.out]; go_wp2_with fail; refine (HSL.out w1 HB01.out).mono ?_; rintro y w2 ⟨v, rfl, _, hb2⟩; have HB12 := Lib.hid (HB01.out.trans (hb2.mono HB01.out.size)); have HB2 := Lib.hid (HB.out.trans (HB12.out.mono HB.out.size)); clear hb2; rw [HS.out]; have hx0 := below_blk HB12.out HX0.out (blk_lt HX0.out); have g0 := blk_cell hx0 0; have g1 := blk_cell hx0 1; have g2 := blk_cell hx0 2; have g3 := blk_cell hx0 3; have m1 := fun o => (Below.al (o := o) (Below.refl w2.heap.size w2)).cellOf g1
 have m2 := fun o => (Below.al (o := o) (Below.refl w2.heap.size w2)).cellOf g2
 have m3 := fun o => (Below.al (o := o) (Below.refl w2.heap.size w2)).cellOf g3
 go_upto_region 11 with fail; obtain ⟨w3, hw3⟩ : ∃ x, ((w2.alloc (.cells #[.string ⟨#[110]⟩, .string ⟨#[105]⟩, .string ⟨#[107]⟩] 9)).alloc (.cells #[.int .i64 n, .int .i64 i, .int .i64 k] 2)).alloc (.cells #[.slice (some ⟨w2.heap.size, 0, none⟩) 3 3, .slice (some ⟨w2.heap.size + 1, 0, none⟩) 3 3, .slice none 0 0, .slice none 0 0, .slice none 0 0, .int .i64 0, .int .i64 0, .int .i64 0, .int .i64 B, .bool false] 93) = x := ⟨_, rfl⟩
 have z1 : (w2.alloc (.cells #[.string ⟨#[110]⟩, .string ⟨#[105]⟩, .string ⟨#[107]⟩] 9)).heap.size = w2.heap.size + 1 := size_al _ _
 have z2 : ((w2.alloc (.cells #[.string ⟨#[110]⟩, .string ⟨#[105]⟩, .string ⟨#[107]⟩] 9)).alloc (.cells #[.int .i64 n, .int .i64 i, .int .i64 k] 2)).heap.size = w2.heap.size + 1 + 1 := by rw [size_al, z1]
 have hrn := ((Row.laid (w := w2) (g := w2.heap.size) (n := 3) (cs := #[.string ⟨#[110]⟩, .string ⟨#[105]⟩, .string ⟨#[107]⟩]) (e := 9) (size := 1) rfl rfl (by decide)).alloc (.cells #[.int .i64 n, .int .i64 i, .int .i64 k] 2)).alloc (.cells #[.slice (some ⟨w2.heap.size, 0, none⟩) 3 3, .slice (some ⟨w2.heap.size + 1, 0, none⟩) 3 3, .slice none 0 0, .slice none 0 0, .slice none 0 0, .int .i64 0, .int .i64 0, .int .i64 0, .int .i64 B, .bool false] 93)
 have hrv := (Row.laid (w := w2.alloc (.cells #[.string ⟨#[110]⟩, .string ⟨#[105]⟩, .string ⟨#[107]⟩] 9)) (g := w2.heap.size + 1) (n := 3) (cs := #[.int .i64 n, .int .i64 i, .int .i64 k]) (e := 2) (size := 1) z1 rfl (by decide)).alloc (.cells #[.slice (some ⟨w2.heap.size, 0, none⟩) 3 3, .slice (some ⟨w2.heap.size + 1, 0, none⟩) 3 3, .slice none 0 0, .slice none 0 0, .slice none 0 0, .int .i64 0, .int .i64 0, .int .i64 0, .int .i64 B, .bool false] 93)
 have hbx := blk_new ((w2.alloc (.cells #[.string ⟨#[110]⟩, .string ⟨#[105]⟩, .string ⟨#[107]⟩] 9)).alloc (.cells #[.int .i64 n, .int .i64 i, .int .i64 k] 2)) (.cells #[.slice (some ⟨w2.heap.size, 0, none⟩) 3 3, .slice (some ⟨w2.heap.size + 1, 0, none⟩) 3 3, .slice none 0 0, .slice none 0 0, .slice none 0 0, .int .i64 0, .int .i64 0, .int .i64 0, .int .i64 B, .bool false] 93); rw [z2] at hbx; have hb3 : Below w2.heap.size w2 (((w2.alloc (.cells #[.string ⟨#[110]⟩, .string ⟨#[105]⟩, .string ⟨#[107]⟩] 9)).alloc (.cells #[.int .i64 n, .int .i64 i, .int .i64 k] 2)).alloc (.cells #[.slice (some ⟨w2.heap.size, 0, none⟩) 3 3, .slice (some ⟨w2.heap.size + 1, 0, none⟩) 3 3, .slice none 0 0, .slice none 0 0, .slice none 0 0, .int .i64 0, .int .i64 0, .int .i64 0, .int .i64 B, .bool false] 93)) := ((Below.al (o := .cells #[.slice (some ⟨w2.heap.size, 0, none⟩) 3 3, .slice (some ⟨w2.heap.size + 1, 0, none⟩) 3 3, .slice none 0 0, .slice none 0 0, .slice none 0 0, .int .i64 0, .int .i64 0, .int .i64 0, .int .i64 B, .bool false] 93) (Below.al (o := .cells #[.int .i64 n, .int .i64 i, .int .i64 k] 2) (Below.al (o := .cells #[.string ⟨#[110]⟩, .string ⟨#[105]⟩, .string ⟨#[107]⟩] 9) (Below.refl w2.heap.size w2)))))
 have hz3 : w2.heap.size + 1 + 1 + 1 ≤ (((w2.alloc (.cells #[.string ⟨#[110]⟩, .string ⟨#[105]⟩, .string ⟨#[107]⟩] 9)).alloc (.cells #[.int .i64 n, .int .i64 i, .int .i64 k] 2)).alloc (.cells #[.slice (some ⟨w2.heap.size, 0, none⟩) 3 3, .slice (some ⟨w2.heap.size + 1, 0, none⟩) 3 3, .slice none 0 0, .slice none 0 0, .slice none 0 0, .int .i64 0, .int .i64 0, .int .i64 0, .int .i64 B, .bool false] 93)).heap.size := by rw [size_al, z2]; omega
 rw [hw3] at hrn hrv hbx hb3 hz3 ⊢; have HRN := Lib.hid hrn; have HRV := Lib.hid hrv; have HBX := Lib.hid hbx; have HB3 := Lib.hid (HB2.out.trans (hb3.mono HB2.out.size)); have hin3 := below_blk hb3 hx0 (blk_lt hx0); have HX13 := Lib.hid (below_blk hb3 (below_blk HB12.out HX1.out (blk_lt HX1.out)) (blk_lt (below_blk HB12.out HX1.out (blk_lt HX1.out)))); have k0 := (Below.al (o := .cells #[] 2) (Below.refl w3.heap.size w3)).cellOf (blk_cell hin3 0); have HM3 := Lib.hid (((HM.out.below HB12.out).below hb3).below (Below.al (o := .cells #[] 2) (Below.refl w3.heap.size w3))); have hw2z : w.heap.size + 1 < w2.heap.size := blk_lt (below_blk HB12.out HX1.out (blk_lt HX1.out))
 clear hw3 z1 z2 hrn hrv hbx hb3 g0 g1 g2 g3 m1 m2 m3 hin3 hx0; go_upto_region 12 with (at_builtin; go_must (refine wpList_append_nums _ rfl _ _ rfl (.slice (some ⟨w3.heap.size, 0, none⟩) 0 0) 0 [] rfl (Row.laid (w := w3) (n := 0) (cs := #[]) (size := 1) rfl rfl (by decide)) mem AM cM rfl HM3.out (by omega) ?_); intro v4 w4 hr4 hg4 hn4; rw [Nat.zero_add, List.nil_append] at hr4; obtain ⟨A4, c4, hv4, _⟩ := hr4.slice; subst hv4; have hbm := grown_blk hg4 (blk_alloc HBX.out (.cells #[] 2)) (by simp [Value.ownBlock]; omega); have p2 := blk_cell hbm 2; have pf := blk_free hbm)
 have hr4b : ∀ q, (Value.slice A4 mem.length c4).ownBlock = some q → w3.heap.size ≤ q := by
  intro q hq; rcases hn4 with h | h <;> rw [h] at hq <;> simp [Value.ownBlock] at hq <;> omega
 have hkp : ∀ {ty : TypeId} {z m : Nat} {v : Value} {xs : List Value}, Row w3 ty z v m xs → Row w4 ty z v m xs := fun h => (h.alloc _).keep fun q hq => hg4.block q ((h.alloc _).lt hq) (by have := h.lt hq; simp [Value.ownBlock]; omega)
 have hb4 : Below w.heap.size w w4 := by
  have h3 : Keep (fun _ => False) w3 w4 := ((Keep.refl _ w3).alloc _).grown hg4 (fun q hq => by simp [Value.ownBlock] at hq; omega)
  exact HB3.out.trans (h3.toBelow (by have := HB3.out.size; omega) (fun _ h => h.elim))
 have hef : w4.heap[w.heap.size + 1]? = some (.cells #[.slice none 0 0, .slice none 0 0, .slice none 0 0, .int .i64 0, .int .i64 0, .int .i64 0] 55) := grown_blk hg4 (blk_alloc HX13.out (.cells #[] 2)) (by simp [Value.ownBlock]; omega)
 have hnS : ∀ {ty : TypeId} {z m : Nat} {v : Value} {xs : List Value}, Row w4 ty z v m xs → ty ≠ 93 → v.ownBlock ≠ some (w2.heap.size + 1 + 1) := fun h hne => h.ne hbm hne
 have hdoc : DocAt (w4.setCell ⟨(w2.heap.size + 1 + 1), 2, none⟩ (.slice A4 mem.length c4)) w.heap.size (startS mem n i k) ⟨some ⟨w2.heap.size, 0, none⟩, 3, 3⟩ ⟨some ⟨w2.heap.size + 1, 0, none⟩, 3, 3⟩ ⟨A4, mem.length, c4⟩ zR zR := by
  refine ⟨rfl, rfl, rfl, rfl, rfl, rowSet (hkp HRN.out) (hnS (hkp HRN.out) (by decide)), rowSet (hkp HRV.out) (hnS (hkp HRV.out) (by decide)), rowSet hr4 (hnS hr4 (by decide)), Row.nil _ _ _, Row.nil _ _ _, ?_, ?_, ?_, ?_, ?_, ?_, ?_, rfl⟩
  ·intro q hq; simp [Value.ownBlock] at hq; omega
  ·intro q hq; have := hr4b q hq; omega
  ·intro q hq; simp [Value.ownBlock, zR] at hq
  ·intro q hq; simp [Value.ownBlock, zR] at hq
  ·intro q hq hq2; have := hr4b q hq2; simp [Value.ownBlock] at hq; omega
  ·intro q hq hq2; simp [Value.ownBlock, zR] at hq2
  ·intro q hq hq2; simp [Value.ownBlock, zR] at hq2
 have hb5 : Below w.heap.size w (w4.setCell ⟨(w2.heap.size + 1 + 1), 2, none⟩ (.slice A4 mem.length c4)) := hb4.setCell (by show w.heap.size ≤ (w2.heap.size + 1 + 1); omega) _
 have hef5 : (w4.setCell ⟨(w2.heap.size + 1 + 1), 2, none⟩ (.slice A4 mem.length c4)).heap[w.heap.size + 1]? = some (.cells #[.slice none 0 0, .slice none 0 0, .slice none 0 0, .int .i64 0, .int .i64 0, .int .i64 0] 55) := blk_far hef (by show w.heap.size + 1 ≠ (w2.heap.size + 1 + 1); omega) _
 have hbx5 := blk_set hbm 2 (.slice A4 mem.length c4); obtain ⟨w5, hw5⟩ : ∃ x, w4.setCell ⟨(w2.heap.size + 1 + 1), 2, none⟩ (.slice A4 mem.length c4) = x := ⟨_, rfl⟩
 rw [hw5] at hdoc hb5 hef5 hbx5 ⊢; have HDOC := Lib.hid hdoc; have HB5 := Lib.hid hb5; have HEF5 := Lib.hid hef5; have HBX5 := Lib.hid (show w5.heap[(w2.heap.size + 1 + 1)]? = some (dsC (dsL ⟨some ⟨w2.heap.size, 0, none⟩, 3, 3⟩ ⟨some ⟨w2.heap.size + 1, 0, none⟩, 3, 3⟩ ⟨A4, mem.length, c4⟩ zR zR 0 0 0 B false)) from hbx5)
 have p0 := blk_cell hbx5 0; have p1 := blk_cell hbx5 1; have p3 := blk_cell hbx5 3; have p4 := blk_cell hbx5 4; have p5 := blk_cell hbx5 5; have p6 := blk_cell hbx5 6; have p7 := blk_cell hbx5 7; have p8 := blk_cell hbx5 8; have p9 := blk_cell hbx5 9; clear p2 pf k0; have p2 := blk_cell hbx5 2; clear hr4b hkp hb4 hef hnS hdoc hb5 hef5 hbx5 hw5 hr4 hg4 hn4 hbm HRN HRV HBX HX13 HM3 hz3; go_wp2_with fail; refine (HBL.out w5 ⟨some ⟨w2.heap.size, 0, none⟩, 3, 3⟩ ⟨some ⟨w2.heap.size + 1, 0, none⟩, 3, 3⟩ ⟨A4, mem.length, c4⟩ zR zR HB5.out HDOC.out).mono ?_; rintro y w6 ⟨hb6, hf6, hy⟩; have HB6 := Lib.hid hb6
 have hef6 := hf6 _ _ _ HEF5.out (by decide) (by decide)
 have hbx6 := hf6 _ _ _ HBX5.out (by decide) (by decide)
 clear hb6 hf6 p0 p1 p2 p3 p4 p5 p6 p7 p8 p9 HEF5 HBX5 HB5 HDOC HBL; simp only [dsL, zR] at hbx6
 have hlt6 : (w2.heap.size + 1 + 1) < w6.heap.size := blk_lt hbx6
 cases o with
 | none =>
  obtain ⟨N1, V1, M1, O1, I1, hy, hd1⟩ := hy; simp only [dsL] at hy
  subst hy; have HEND := Lib.hid hd1.ends; clear hd1; have p0 := blk_cell hbx6 0; have p1 := blk_cell hbx6 1; have p2 := blk_cell hbx6 2; have p3 := blk_cell hbx6 3; have p4 := blk_cell hbx6 4; have p5 := blk_cell hbx6 5; have p6 := blk_cell hbx6 6; have p7 := blk_cell hbx6 7; have p8 := blk_cell hbx6 8; have p9 := blk_cell hbx6 9; have pf := blk_free hbx6; have HEF6 := Lib.hid hef6; have HBX6 := Lib.hid hbx6; clear hef6 hbx6; go_upto_region 13 with fail; obtain ⟨w7, hw7⟩ : ∃ wx, put10 w6 (w2.heap.size + 1 + 1) N1 V1 M1 O1 I1 (0) (0) S.ticks (B - S.ticks) false = wx := ⟨_, rfl⟩
  have hbx7 : w7.heap[(w2.heap.size + 1 + 1)]? = some (dsC (dsL N1 V1 M1 O1 I1 (0) (0) S.ticks (B - S.ticks) false)) := by rw [← hw7]; exact put10_blk (N0 := ⟨some ⟨w2.heap.size, 0, none⟩, 3, 3⟩) (V0 := ⟨some ⟨w2.heap.size + 1, 0, none⟩, 3, 3⟩) (M0 := ⟨A4, mem.length, c4⟩) (O0 := zR) (I0 := zR) HBX6.out _ _ _ _ _ _ _ _ _ _
  have hef7 : w7.heap[w.heap.size + 1]? = some (.cells #[.slice none 0 0, .slice none 0 0, .slice none 0 0, .int .i64 0, .int .i64 0, .int .i64 0] 55) := by rw [← hw7]; exact put10_far HEF6.out (by omega) _ _ _ _ _ _ _ _ _ _
  have hend7 : EndAt w7 w.heap.size S M1 O1 I1 := by rw [← hw7]; exact HEND.out.put10 (l := dsL ⟨some ⟨w2.heap.size, 0, none⟩, 3, 3⟩ ⟨some ⟨w2.heap.size + 1, 0, none⟩, 3, 3⟩ ⟨A4, mem.length, c4⟩ zR zR 0 0 0 B false) HBX6.out _ _ _ _ _ _ _ _ _ _
  have hb7 : Below w.heap.size w w7 := by rw [← hw7]; exact put10_below HB6.out (by omega) _ _ _ _ _ _ _ _ _ _
  unfold put10 at hw7; try dsimp only at hw7
  rw [hw7]; have HEND7 := Lib.hid hend7; have HEF7 := Lib.hid hef7; have HBX7 := Lib.hid hbx7; have HB7 := Lib.hid hb7; simp only [dsL] at hbx7
  clear p0 p1 p2 p3 p4 p5 p6 p7 p8 p9 pf hw7 hend7 hef7 hb7; have p0 := blk_cell hbx7 0; have p1 := blk_cell hbx7 1; have p2 := blk_cell hbx7 2; have p3 := blk_cell hbx7 3; have p4 := blk_cell hbx7 4; have p5 := blk_cell hbx7 5; have p6 := blk_cell hbx7 6; have p7 := blk_cell hbx7 7; have p8 := blk_cell hbx7 8; have p9 := blk_cell hbx7 9; have pf := blk_free hbx7; clear hbx7; have HDE := Lib.hid (fun w' => dend_calls N1 V1 M1 O1 I1 (0) (0) S.ticks (B - S.ticks) false 1 0 w')
  unfold endL dsL at HDE; go_wp2_with fail; refine (HDE.out w7).mono ?_; rintro y w8 ⟨rfl, hb8⟩; have hbx8 := below_blk hb8 HBX7.out (blk_lt HBX7.out); have HBX8 := Lib.hid hbx8; have HEF8 := Lib.hid (below_blk hb8 HEF7.out (blk_lt HEF7.out)); have HEND8 := Lib.hid (HEND7.out.below hb8); have HB8 := Lib.hid (HB7.out.trans (hb8.mono HB7.out.size)); clear p0 p1 p2 p3 p4 p5 p6 p7 p8 p9 pf hb8 HDE; simp only [dsL] at hbx8
  have p0 := blk_cell hbx8 0; have p1 := blk_cell hbx8 1; have p2 := blk_cell hbx8 2; have p3 := blk_cell hbx8 3; have p4 := blk_cell hbx8 4; have p5 := blk_cell hbx8 5; have p6 := blk_cell hbx8 6; have p7 := blk_cell hbx8 7; have p8 := blk_cell hbx8 8; have p9 := blk_cell hbx8 9; have pf := blk_free hbx8; clear hbx8; go_upto_region 14 with fail; obtain ⟨w9, hw9⟩ : ∃ wx, put10 w8 (w2.heap.size + 1 + 1) N1 V1 M1 O1 I1 (1) (0) S.ticks (B - S.ticks) true = wx := ⟨_, rfl⟩
  have hbx9 : w9.heap[(w2.heap.size + 1 + 1)]? = some (dsC (dsL N1 V1 M1 O1 I1 (1) (0) S.ticks (B - S.ticks) true)) := by rw [← hw9]; exact put10_blk HBX8.out _ _ _ _ _ _ _ _ _ _
  have hef9 : w9.heap[w.heap.size + 1]? = some (.cells #[.slice none 0 0, .slice none 0 0, .slice none 0 0, .int .i64 0, .int .i64 0, .int .i64 0] 55) := by rw [← hw9]; exact put10_far HEF8.out (by omega) _ _ _ _ _ _ _ _ _ _
  have hend9 : EndAt w9 w.heap.size S M1 O1 I1 := by rw [← hw9]; exact HEND8.out.put10 HBX8.out _ _ _ _ _ _ _ _ _ _
  have hb9 : Below w.heap.size w w9 := by rw [← hw9]; exact put10_below HB8.out (by omega) _ _ _ _ _ _ _ _ _ _
  unfold put10 at hw9; try dsimp only at hw9
  rw [hw9]; have HEND9 := Lib.hid hend9; have HEF9 := Lib.hid hef9; have HB9 := Lib.hid hb9; simp only [dsL] at hbx9
  clear p0 p1 p2 p3 p4 p5 p6 p7 p8 p9 pf hw9 hend9 hb9; have p0 := blk_cell hbx9 0; have p1 := blk_cell hbx9 1; have p2 := blk_cell hbx9 2; have p3 := blk_cell hbx9 3; have p4 := blk_cell hbx9 4; have p5 := blk_cell hbx9 5; have p6 := blk_cell hbx9 6; have p7 := blk_cell hbx9 7; have p8 := blk_cell hbx9 8; have p9 := blk_cell hbx9 9; have f0 := blk_cell hef9 0; have f1 := blk_cell hef9 1; have f2 := blk_cell hef9 2; have f3 := blk_cell hef9 3; have f4 := blk_cell hef9 4; have f5 := blk_cell hef9 5; have ff := blk_free hef9; clear hbx9 hef9; go_wp2; refine bodyPost_ret (results_cellTmp rfl _ _ (w.heap.size + 1) [.slice M1.a M1.n M1.c, .slice O1.a O1.n O1.c, .slice I1.a I1.n I1.c, .int .i64 (1), .int .i64 (0), .int .i64 S.ticks] _ (by rfl) (by rfl) (range_at (blk_set (blk_set (blk_set (blk_set (blk_set (blk_set HEF9.out 0 _) 1 _) 2 _) 3 _) 4 _) 5 _) 0 [.slice M1.a M1.n M1.c, .slice O1.a O1.n O1.c, .slice I1.a I1.n I1.c, .int .i64 (1), .int .i64 (0), .int .i64 S.ticks] rfl) rfl rfl (by kernel_rfl)) rfl ?_
  have hne6 : ∀ {v : Value} {z n : Nat} {ty : TypeId} {xs : List Value}, Row w9 ty z v n xs → ty ≠ 55 → v.ownBlock ≠ some (w.heap.size + 1) := fun hr hne => hr.ne HEF9.out hne
  have s6 : ∀ {v : Value} {z n : Nat} {ty : TypeId} {xs : List Value} {u0 u1 u2 u3 u4 u5 : Value}, Row w9 ty z v n xs → ty ≠ 55 → Row ((((((w9.setCell ⟨w.heap.size + 1, 0, none⟩ u0).setCell ⟨w.heap.size + 1, 1, none⟩ u1).setCell ⟨w.heap.size + 1, 2, none⟩ u2).setCell ⟨w.heap.size + 1, 3, none⟩ u3).setCell ⟨w.heap.size + 1, 4, none⟩ u4).setCell ⟨w.heap.size + 1, 5, none⟩ u5) ty z v n xs := fun hr hne =>
   rowSet (rowSet (rowSet (rowSet (rowSet (rowSet hr (hne6 hr hne)) (hne6 hr hne)) (hne6 hr hne)) (hne6 hr hne)) (hne6 hr hne)) (hne6 hr hne)
  refine ⟨_, _, _, ?_, ⟨?_, ?_, ?_⟩, rfl⟩
  ·repeat (refine Below.setCell ?_ (by simp) _)
   exact HB9.out
  ·have h := HEND9.out.mem; rw [HEND9.out.mn] at h; exact s6 (by rw [HEND9.out.mn]; exact h) (by decide)
  ·have h := HEND9.out.outs; rw [HEND9.out.oo] at h; exact s6 (by rw [HEND9.out.oo]; exact h) (by decide)
  ·have h := HEND9.out.intos; rw [HEND9.out.ii] at h; exact s6 (by rw [HEND9.out.ii]; exact h) (by decide)
 | some x =>
  obtain ⟨N1, V1, M1, O1, I1, hy, hn1, hv1, hd1⟩ := hy; simp only [dsL] at hy
  subst hy; have HEND := Lib.hid hd1; clear hd1 hn1 hv1; have p0 := blk_cell hbx6 0; have p1 := blk_cell hbx6 1; have p2 := blk_cell hbx6 2; have p3 := blk_cell hbx6 3; have p4 := blk_cell hbx6 4; have p5 := blk_cell hbx6 5; have p6 := blk_cell hbx6 6; have p7 := blk_cell hbx6 7; have p8 := blk_cell hbx6 8; have p9 := blk_cell hbx6 9; have pf := blk_free hbx6; have HEF6 := Lib.hid hef6; have HBX6 := Lib.hid hbx6; clear hef6 hbx6; go_upto_region 13 with fail; obtain ⟨w7, hw7⟩ : ∃ wx, put10 w6 (w2.heap.size + 1 + 1) N1 V1 M1 O1 I1 (x.1) (x.2) S.ticks (B - S.ticks) true = wx := ⟨_, rfl⟩
  have hbx7 : w7.heap[(w2.heap.size + 1 + 1)]? = some (dsC (dsL N1 V1 M1 O1 I1 (x.1) (x.2) S.ticks (B - S.ticks) true)) := by rw [← hw7]; exact put10_blk (N0 := ⟨some ⟨w2.heap.size, 0, none⟩, 3, 3⟩) (V0 := ⟨some ⟨w2.heap.size + 1, 0, none⟩, 3, 3⟩) (M0 := ⟨A4, mem.length, c4⟩) (O0 := zR) (I0 := zR) HBX6.out _ _ _ _ _ _ _ _ _ _
  have hef7 : w7.heap[w.heap.size + 1]? = some (.cells #[.slice none 0 0, .slice none 0 0, .slice none 0 0, .int .i64 0, .int .i64 0, .int .i64 0] 55) := by rw [← hw7]; exact put10_far HEF6.out (by omega) _ _ _ _ _ _ _ _ _ _
  have hend7 : EndAt w7 w.heap.size S M1 O1 I1 := by rw [← hw7]; exact HEND.out.put10 (l := dsL ⟨some ⟨w2.heap.size, 0, none⟩, 3, 3⟩ ⟨some ⟨w2.heap.size + 1, 0, none⟩, 3, 3⟩ ⟨A4, mem.length, c4⟩ zR zR 0 0 0 B false) HBX6.out _ _ _ _ _ _ _ _ _ _
  have hb7 : Below w.heap.size w w7 := by rw [← hw7]; exact put10_below HB6.out (by omega) _ _ _ _ _ _ _ _ _ _
  unfold put10 at hw7; try dsimp only at hw7
  rw [hw7]; have HEND7 := Lib.hid hend7; have HEF7 := Lib.hid hef7; have HBX7 := Lib.hid hbx7; have HB7 := Lib.hid hb7; simp only [dsL] at hbx7
  clear p0 p1 p2 p3 p4 p5 p6 p7 p8 p9 pf hw7 hend7 hef7 hb7; have p0 := blk_cell hbx7 0; have p1 := blk_cell hbx7 1; have p2 := blk_cell hbx7 2; have p3 := blk_cell hbx7 3; have p4 := blk_cell hbx7 4; have p5 := blk_cell hbx7 5; have p6 := blk_cell hbx7 6; have p7 := blk_cell hbx7 7; have p8 := blk_cell hbx7 8; have p9 := blk_cell hbx7 9; have pf := blk_free hbx7; clear hbx7; have HDE := Lib.hid (fun w' => dend_calls N1 V1 M1 O1 I1 (x.1) (x.2) S.ticks (B - S.ticks) true 1 0 w')
  unfold endL dsL at HDE; go_wp2_with fail; refine (HDE.out w7).mono ?_; rintro y w8 ⟨rfl, hb8⟩; have hbx8 := below_blk hb8 HBX7.out (blk_lt HBX7.out); have HBX8 := Lib.hid hbx8; have HEF8 := Lib.hid (below_blk hb8 HEF7.out (blk_lt HEF7.out)); have HEND8 := Lib.hid (HEND7.out.below hb8); have HB8 := Lib.hid (HB7.out.trans (hb8.mono HB7.out.size)); clear p0 p1 p2 p3 p4 p5 p6 p7 p8 p9 pf hb8 HDE; simp only [dsL] at hbx8
  have p0 := blk_cell hbx8 0; have p1 := blk_cell hbx8 1; have p2 := blk_cell hbx8 2; have p3 := blk_cell hbx8 3; have p4 := blk_cell hbx8 4; have p5 := blk_cell hbx8 5; have p6 := blk_cell hbx8 6; have p7 := blk_cell hbx8 7; have p8 := blk_cell hbx8 8; have p9 := blk_cell hbx8 9; have pf := blk_free hbx8; clear hbx8; go_upto_region 14 with fail; obtain ⟨w9, hw9⟩ : ∃ wx, put10 w8 (w2.heap.size + 1 + 1) N1 V1 M1 O1 I1 (x.1) (x.2) S.ticks (B - S.ticks) true = wx := ⟨_, rfl⟩
  have hbx9 : w9.heap[(w2.heap.size + 1 + 1)]? = some (dsC (dsL N1 V1 M1 O1 I1 (x.1) (x.2) S.ticks (B - S.ticks) true)) := by rw [← hw9]; exact put10_blk HBX8.out _ _ _ _ _ _ _ _ _ _
  have hef9 : w9.heap[w.heap.size + 1]? = some (.cells #[.slice none 0 0, .slice none 0 0, .slice none 0 0, .int .i64 0, .int .i64 0, .int .i64 0] 55) := by rw [← hw9]; exact put10_far HEF8.out (by omega) _ _ _ _ _ _ _ _ _ _
  have hend9 : EndAt w9 w.heap.size S M1 O1 I1 := by rw [← hw9]; exact HEND8.out.put10 HBX8.out _ _ _ _ _ _ _ _ _ _
  have hb9 : Below w.heap.size w w9 := by rw [← hw9]; exact put10_below HB8.out (by omega) _ _ _ _ _ _ _ _ _ _
  unfold put10 at hw9; try dsimp only at hw9
  rw [hw9]; have HEND9 := Lib.hid hend9; have HEF9 := Lib.hid hef9; have HB9 := Lib.hid hb9; simp only [dsL] at hbx9
  clear p0 p1 p2 p3 p4 p5 p6 p7 p8 p9 pf hw9 hend9 hb9; have p0 := blk_cell hbx9 0; have p1 := blk_cell hbx9 1; have p2 := blk_cell hbx9 2; have p3 := blk_cell hbx9 3; have p4 := blk_cell hbx9 4; have p5 := blk_cell hbx9 5; have p6 := blk_cell hbx9 6; have p7 := blk_cell hbx9 7; have p8 := blk_cell hbx9 8; have p9 := blk_cell hbx9 9; have f0 := blk_cell hef9 0; have f1 := blk_cell hef9 1; have f2 := blk_cell hef9 2; have f3 := blk_cell hef9 3; have f4 := blk_cell hef9 4; have f5 := blk_cell hef9 5; have ff := blk_free hef9; clear hbx9 hef9; go_wp2; refine bodyPost_ret (results_cellTmp rfl _ _ (w.heap.size + 1) [.slice M1.a M1.n M1.c, .slice O1.a O1.n O1.c, .slice I1.a I1.n I1.c, .int .i64 (x.1), .int .i64 (x.2), .int .i64 S.ticks] _ (by rfl) (by rfl) (range_at (blk_set (blk_set (blk_set (blk_set (blk_set (blk_set HEF9.out 0 _) 1 _) 2 _) 3 _) 4 _) 5 _) 0 [.slice M1.a M1.n M1.c, .slice O1.a O1.n O1.c, .slice I1.a I1.n I1.c, .int .i64 (x.1), .int .i64 (x.2), .int .i64 S.ticks] rfl) rfl rfl (by kernel_rfl)) rfl ?_
  have hne6 : ∀ {v : Value} {z n : Nat} {ty : TypeId} {xs : List Value}, Row w9 ty z v n xs → ty ≠ 55 → v.ownBlock ≠ some (w.heap.size + 1) := fun hr hne => hr.ne HEF9.out hne
  have s6 : ∀ {v : Value} {z n : Nat} {ty : TypeId} {xs : List Value} {u0 u1 u2 u3 u4 u5 : Value}, Row w9 ty z v n xs → ty ≠ 55 → Row ((((((w9.setCell ⟨w.heap.size + 1, 0, none⟩ u0).setCell ⟨w.heap.size + 1, 1, none⟩ u1).setCell ⟨w.heap.size + 1, 2, none⟩ u2).setCell ⟨w.heap.size + 1, 3, none⟩ u3).setCell ⟨w.heap.size + 1, 4, none⟩ u4).setCell ⟨w.heap.size + 1, 5, none⟩ u5) ty z v n xs := fun hr hne =>
   rowSet (rowSet (rowSet (rowSet (rowSet (rowSet hr (hne6 hr hne)) (hne6 hr hne)) (hne6 hr hne)) (hne6 hr hne)) (hne6 hr hne)) (hne6 hr hne)
  refine ⟨_, _, _, ?_, ⟨?_, ?_, ?_⟩, rfl⟩
  ·repeat (refine Below.setCell ?_ (by simp) _)
   exact HB9.out
  ·have h := HEND9.out.mem; rw [HEND9.out.mn] at h; exact s6 (by rw [HEND9.out.mn]; exact h) (by decide)
  ·have h := HEND9.out.outs; rw [HEND9.out.oo] at h; exact s6 (by rw [HEND9.out.oo]; exact h) (by decide)
  ·have h := HEND9.out.intos; rw [HEND9.out.ii] at h; exact s6 (by rw [HEND9.out.ii]; exact h) (by decide)
end Go.Proofs.Ytjlnpppjkdcpkaa.My
