/- What the maker makes of statements. Conditions: the tree was there in the world W, which is kept; it may be; the registers of its names are there. -/
import Derived.Test.YtjlnpppjkdcpkaaGmGnR
namespace Go.Proofs.Ytjlnpppjkdcpkaa.My
open Go.RowKit Go.Proofs.Ytjlnpppjkdcpkaa.NumA
set_option linter.unusedVariables false
set_option linter.unusedSimpArgs false
/-- the contract, for statements of so many nodes at most -/
def StmtIH (W : World) (N : Nat) : Prop := ∀ (s : Stmt) (A0 : Option Addr) (c0 : Nat) (A1 : Option Addr) (c1 : Nat) (A2 : Option Addr) (c2 d : Nat), s.nodes ≤ N → Expr.rds W s.args A0 0 → Stmt.rds W s.body A1 0 → Stmt.rds W s.els A2 0 → s.rightB nameB d = true → ∀ (G : Gn) (w : World) (p : Nat) (O : Value) (As : Option Addr) (c : Nat), GnAt W w p G O As c → Below W.heap.size W w → s.useN ≤ G.slots.length → G.out.length + 3 * s.nodes ≤ 1000000 →
    Calls Try.prog 49 #[.pointer (some ⟨p, 0, none⟩), s.val A0 c0 A1 c1 A2 c2] w (StmtTo W w p O (stmtG G s))
theorem GnAt.drewN {W w : World} {p : Nat} {G : Gn} {O : Value} {A : Option Addr} {c : Nat} (h : GnAt W w p G O A c) (n : Nat) : GnAt W (w.drewN n) p G O A c := ⟨h.blk, h.out, h.slots, h.cap, h.fo, h.hp⟩
theorem GnRun.drewN {W w0 wi : World} {p : Nat} {G : Gn} {O Oi : Value} {A : Option Addr} {c b : Nat} {X : Obj} (h : GnRun W w0 p O wi G Oi A c b X) (n : Nat) : GnRun W w0 p O (wi.drewN n) G Oi A c b X := ⟨h.gn.drewN n, h.k.drewN n, h.o, below_drewN h.below n, h.box, h.hb, h.lt⟩
theorem GnTo.al {W w w' : World} {p : Nat} {G' : Gn} {O : Value} (h : GnTo W w p O w' G') (X : Obj) : GnTo W w p O (w'.alloc X) G' := by
  obtain ⟨O2, A2, c2, a2, k2, o2⟩ := h
  exact ⟨O2, A2, c2, a2.below (Below.refl _ _).al, k2.alloc X, o2⟩
theorem GnTo.start {W w : World} {p : Nat} {G : Gn} {O : Value} {A : Option Addr} {c : Nat} (h : GnAt W w p G O A c) : GnTo W w p O w G := h.to (Keep.refl _ _)
set_option maxRecDepth 100000 in
set_option maxHeartbeats 2000000 in
theorem gblock_of (W : World) (N : Nat) (ih : StmtIH W N) (l : List Stmt) (A : Option Addr) (cl d : Nat) (hN : Stmt.nodesL l ≤ N) (hrd : Stmt.rds W l A 0) (hr : Stmt.rightsB nameB d l = true) (G : Gn) (w : World) (p : Nat) (O : Value) (As : Option Addr) (c : Nat) (h : GnAt W w p G O As c) (hB : Below W.heap.size W w) (hu : Stmt.useL l ≤ G.slots.length) (hl : G.out.length + 3 * Stmt.nodesL l ≤ 1000000) :
    Calls Try.prog 32 #[.pointer (some ⟨p, 0, none⟩), .slice A l.length cl] w (StmtTo W w p O (blockG G l)) := by
  have hln := Stmt.nodesL_len l
  have HST := Lib.hid (GnTo.start h)
  have HH := Lib.hid h
  have HBW := Lib.hid hB
  have HRD := Lib.hid hrd
  have HR := Lib.hid hr
  have HIH := Lib.hid ih
  clear h hB hrd hr ih
  go_enter Try.func32, Try.ntmps32
  go_wp2
  go_loopw [8] (fun i wr => ∃ (k : Nat) (Gk : Gn), i = .int .i64 (k : Int) ∧ k ≤ l.length ∧ Hid (blockG G (l.take k) = some Gk) ∧ Hid (GnTo W w p O wr Gk)) (fun i _ => l.length - (intOf i).toNat)
  case atStart => exact ⟨0, G, rfl, Nat.zero_le _, Lib.hid (by simp [blockG]), HST⟩
  case round =>
    obtain ⟨k, Gk, rfl, hk, HP, HT⟩ := hrel
    by_cases hlt : k < l.length
    · have hsz := Stmt.nodesL_take l k hlt
      have hut := Stmt.useL_take l k hlt
      have hgr := blockG_grow (l.take k) (Stmt.rightsB_take k HR.out) HP.out
      have hbw := GnTo.below HH.out HBW.out HT.out
      obtain ⟨Ok, Ak, ck, gk, kk, ok⟩ := HT.out
      obtain ⟨ba, oa, A0, c0, A1, c1, A2, c2, hA, hbW, g0, g1, g2, g3, g4, g5, e0, e1, e2, hs', r0, r1, r2⟩ := Stmt.at HRD.out hbw hlt
      have hra := Stmt.rightsB_all HR.out l[k] (List.getElem_mem hlt)
      have hsl : Gk.slots.length = G.slots.length - Stmt.useL (l.take k) := by rw [hgr.1]; simp
      have hsn := blockG_snoc (G := G) l k hlt
      rw [HP.out] at hsn
      obtain ⟨s, hs⟩ : ∃ s, l[k] = s := ⟨_, rfl⟩
      rw [hs] at g0 g1 g2 g3 g4 g5 r0 r1 r2 hra hsn hsz hut
      have hI := HIH.out s A0 c0 A1 c1 A2 c2 d (by omega) r0 r1 r2 hra Gk (wr.alloc (.cells #[.int .i64 s.kind, .string s.name, .int .i64 s.cell, .slice A0 s.args.length c0, .slice A1 s.body.length c1, .slice A2 s.els.length c2] 36)) p Ok Ak ck (gk.below (Below.refl _ _).al) (hbw.alloc hbw.size _) (by omega) (by omega)
      unfold Stmt.val at hI
      have HI := Lib.hid hI
      have HKK := Lib.hid (kk.alloc (.cells #[.int .i64 s.kind, .string s.name, .int .i64 s.cell, .slice A0 s.args.length c0, .slice A1 s.body.length c1, .slice A2 s.els.length c2] 36))
      have HGK := Lib.hid (gk.below (Below.refl wr.heap.size wr |>.al (o := .cells #[.int .i64 s.kind, .string s.name, .int .i64 s.cell, .slice A0 s.args.length c0, .slice A1 s.body.length c1, .slice A2 s.els.length c2] 36)))
      have HOK := Lib.hid ok
      have hlt' : (k : Int) < (l.length : Int) := by omega
      have hk0 : (0 : Int) ≤ (k : Int) := by omega
      have HSN := Lib.hid hsn
      subst hA
      cases hx : stmtG Gk s with
      | none =>
        have HN := Lib.hid hx
        have HBN := Lib.hid (show blockG G l = none from blockG_stop l (k + 1) (by rw [HSN.out]; exact hx))
        clear hx hI gk kk ok hsn hgr hbw hs hsz hut hsl r0 r1 r2 hra
        go_wp2_with fail
        refine HI.out.mono ?_
        rw [HN.out]
        rintro y w3 ⟨rfl, G3, hg⟩
        refine ⟨rfl, ?_⟩
        show StmtTo W w p O (blockG G l) _ _
        rw [HBN.out]
        exact ⟨rfl, G3, GnTo.trans HGK.out HKK.out HOK.out hg⟩
      | some G3 =>
        have HN := Lib.hid hx
        have HBN := Lib.hid (show blockG G (l.take (k + 1)) = some G3 by rw [HSN.out]; exact hx)
        clear hx hI gk kk ok hsn hgr hbw hs hsz hut hsl r0 r1 r2 hra
        go_wp2_with fail
        refine HI.out.mono ?_
        rw [HN.out]
        rintro y w3 ⟨rfl, hg⟩
        go_wp2
        go_roundw
        case rel => exact ⟨k + 1, G3, by go_num, by omega, HBN, Lib.hid (GnTo.trans HGK.out HKK.out HOK.out hg)⟩
        case measure => simp [intOf]; omega
    · have hk' : k = l.length := by omega
      have HBN := Lib.hid (show blockG G l = some Gk by have := HP.out; rwa [hk', List.take_length] at this)
      subst hk'
      go_wp2
      first | go_end0 | refine bodyPost_ret (results_none rfl _ _ _) rfl ?_
      rw [HBN.out]
      exact ⟨rfl, HT.out⟩
set_option maxRecDepth 100000 in
set_option maxHeartbeats 2000000 in
theorem gstmt_1 (W : World) (s : Stmt) (A0 : Option Addr) (c0 : Nat) (A1 : Option Addr) (c1 : Nat) (A2 : Option Addr) (c2 d : Nat) (N : Nat) (ih : StmtIH W N) (hN : s.nodes ≤ N + 1) (hrd0 : Expr.rds W s.args A0 0) (hrd1 : Stmt.rds W s.body A1 0) (hrd2 : Stmt.rds W s.els A2 0) (hr : s.rightB nameB d = true) (G : Gn) (w : World) (p : Nat) (O : Value) (As : Option Addr) (c : Nat) (h : GnAt W w p G O As c) (hB : Below W.heap.size W w) (hu : s.useN ≤ G.slots.length) (hl : G.out.length + 3 * s.nodes ≤ 1000000) (hk : s.kind = 1) :
    Calls Try.prog 49 #[.pointer (some ⟨p, 0, none⟩), s.val A0 c0 A1 c1 A2 c2] w (StmtTo W w p O (stmtG G s)) := by
  obtain ⟨hkk, hla, hrr, hlb, hle, hrb, hre⟩ := Stmt.right_parts hr
  have hne := s.nodes_eq
  have hus := s.useN_eq
  unfold Stmt.val
  have hr0 := GnRun.init h hB (.cells #[.int .i64 s.kind, .string s.name, .int .i64 s.cell, .slice A0 s.args.length c0, .slice A1 s.body.length c1, .slice A2 s.els.length c2] 36)
  obtain ⟨w1, hw1⟩ : ∃ w1, w.alloc (.cells #[.int .i64 s.kind, .string s.name, .int .i64 s.cell, .slice A0 s.args.length c0, .slice A1 s.body.length c1, .slice A2 s.els.length c2] 36) = w1 := ⟨_, rfl⟩
  obtain ⟨b, hbe⟩ : ∃ b, w.heap.size = b := ⟨_, rfl⟩
  have HEND := Lib.hid (fun wi wj G1 O1 A1' c1' G2 (r : GnRun W w1 p O wi G1 O1 A1' c1' b (.cells #[.int .i64 s.kind, .string s.name, .int .i64 s.cell, .slice A0 s.args.length c0, .slice A1 s.body.length c1, .slice A2 s.els.length c2] 36)) h2 => GnRun.last (w := w) (Y := .cells #[.int .i64 s.kind, .string s.name, .int .i64 s.cell, .slice A0 s.args.length c0, .slice A1 s.body.length c1, .slice A2 s.els.length c2] 36) (hw1 ▸ r) (G' := G2) (wj := wj) h2)
  rw [hw1, hbe] at hr0
  have HR1 := Lib.hid hr0
  have HW := Lib.hid hw1
  have HBE := Lib.hid hbe
  have hlen : s.args.length = 1 := by simp [wantA, hk] at hla; omega
  rw [useL_1 hlen] at hus
  rw [nodesL_1 hlen] at hne
  have hq1 : (s.kind == 1) = true := by simp [hk]
  rw [stmtG_eq, if_pos (Or.inl hk)]
  have hj0 : 0 < s.args.length := by omega
  have hga0 : s.args.getD 0 default = s.args[0]'hj0 := by simp [List.getD, hj0]
  rw [hga0]
  obtain ⟨ba0, oa0, B0, d0, hA0, hba0, m00, m01, m02, m03, m04, hc0, hs0, hrd0'⟩ := Expr.at hrd0 (Below.refl W.heap.size W) hj0
  simp only [Nat.zero_mul, Nat.add_zero] at m00 m01 m02 m03 m04
  have hra0 := Expr.rightsB_all hrr (s.args[0]'hj0) (List.getElem_mem hj0)
  have HAT0 := Lib.hid (fun w4 (hb4 : Below W.heap.size W w4) => (⟨hb4.cellOf m00, hb4.cellOf m01, hb4.cellOf m02, hb4.cellOf m03, hb4.cellOf m04⟩ : _ ∧ _ ∧ _ ∧ _ ∧ _))
  clear m00 m01 m02 m03 m04 hga0
  have hI := gset_calls W (s.args[0]'hj0) B0 d0 1 hrd0' hra0 G w1 p O As c HR1.out.gn HR1.out.below (by simp [hk] at hus; omega) (by omega)
  obtain ⟨a0, ha0⟩ : ∃ x, s.args[0]'hj0 = x := ⟨_, rfl⟩
  rw [ha0] at hI HAT0 hra0 hus hne ⊢
  unfold Expr.val at hI
  have HI := Lib.hid hI
  have s0 := blk_cell HR1.out.box 0
  have s1 := blk_cell HR1.out.box 1
  have s2 := blk_cell HR1.out.box 2
  have s3 := blk_cell HR1.out.box 3
  have s4 := blk_cell HR1.out.box 4
  have s5 := blk_cell HR1.out.box 5
  obtain ⟨x00, x01, x02, x03, x04⟩ := HAT0.out _ HR1.out.below
  have hlen1 : (0 : Int) < (s.args.length : Int) := by omega
  have hlen2 : 0 < s.args.length := by omega
  have hlen3 : s.args.length ≠ 0 := by omega
  subst hA0
  clear hI ha0 hc0 hs0 hj0 hlen hra0 hrd0'
  clear hr0 hw1 hbe h hB hrd0 hrd1 hrd2 hr hu hl hne hus hkk hla hrr hlb hle hrb hre hk
  obtain ⟨r, hrr⟩ : ∃ r, setG G a0 = r := ⟨_, rfl⟩
  rw [hrr] at HI ⊢
  clear hrr
  go_enter Try.func49, Try.ntmps49
  go_wp2_with (have tk := HW; clear tk; rw [HW.out, HBE.out]; clear HW)
  refine HI.out.mono ?_
  intro y w3 hto
  cases r with
  | none =>
    obtain ⟨rfl, G3, hg⟩ := hto
    exact ⟨rfl, rfl, G3, HEND.out _ _ _ _ _ _ _ HR1.out hg⟩
  | some G3 =>
    obtain ⟨rfl, hg⟩ := hto
    go_wp2
    first | go_end0 | refine bodyPost_ret (results_none rfl _ _ _) rfl ?_
    exact ⟨rfl, HEND.out _ _ _ _ _ _ _ HR1.out hg⟩
set_option maxRecDepth 100000 in
set_option maxHeartbeats 2000000 in
theorem gstmt_2 (W : World) (s : Stmt) (A0 : Option Addr) (c0 : Nat) (A1 : Option Addr) (c1 : Nat) (A2 : Option Addr) (c2 d : Nat) (N : Nat) (ih : StmtIH W N) (hN : s.nodes ≤ N + 1) (hrd0 : Expr.rds W s.args A0 0) (hrd1 : Stmt.rds W s.body A1 0) (hrd2 : Stmt.rds W s.els A2 0) (hr : s.rightB nameB d = true) (G : Gn) (w : World) (p : Nat) (O : Value) (As : Option Addr) (c : Nat) (h : GnAt W w p G O As c) (hB : Below W.heap.size W w) (hu : s.useN ≤ G.slots.length) (hl : G.out.length + 3 * s.nodes ≤ 1000000) (hk : s.kind = 2) :
    Calls Try.prog 49 #[.pointer (some ⟨p, 0, none⟩), s.val A0 c0 A1 c1 A2 c2] w (StmtTo W w p O (stmtG G s)) := by
  obtain ⟨hkk, hla, hrr, hlb, hle, hrb, hre⟩ := Stmt.right_parts hr
  have hne := s.nodes_eq
  have hus := s.useN_eq
  unfold Stmt.val
  have hr0 := GnRun.init h hB (.cells #[.int .i64 s.kind, .string s.name, .int .i64 s.cell, .slice A0 s.args.length c0, .slice A1 s.body.length c1, .slice A2 s.els.length c2] 36)
  obtain ⟨w1, hw1⟩ : ∃ w1, w.alloc (.cells #[.int .i64 s.kind, .string s.name, .int .i64 s.cell, .slice A0 s.args.length c0, .slice A1 s.body.length c1, .slice A2 s.els.length c2] 36) = w1 := ⟨_, rfl⟩
  obtain ⟨b, hbe⟩ : ∃ b, w.heap.size = b := ⟨_, rfl⟩
  have HEND := Lib.hid (fun wi wj G1 O1 A1' c1' G2 (r : GnRun W w1 p O wi G1 O1 A1' c1' b (.cells #[.int .i64 s.kind, .string s.name, .int .i64 s.cell, .slice A0 s.args.length c0, .slice A1 s.body.length c1, .slice A2 s.els.length c2] 36)) h2 => GnRun.last (w := w) (Y := .cells #[.int .i64 s.kind, .string s.name, .int .i64 s.cell, .slice A0 s.args.length c0, .slice A1 s.body.length c1, .slice A2 s.els.length c2] 36) (hw1 ▸ r) (G' := G2) (wj := wj) h2)
  rw [hw1, hbe] at hr0
  have HR1 := Lib.hid hr0
  have HW := Lib.hid hw1
  have HBE := Lib.hid hbe
  have hlen : s.args.length = 1 := by simp [wantA, hk] at hla; omega
  rw [useL_1 hlen] at hus
  rw [nodesL_1 hlen] at hne
  have hq1 : (s.kind == 1) = false := by simp [hk]
  have hq2 : (s.kind == 2) = true := by simp [hk]
  rw [stmtG_eq, if_pos (Or.inr hk)]
  have hj0 : 0 < s.args.length := by omega
  have hga0 : s.args.getD 0 default = s.args[0]'hj0 := by simp [List.getD, hj0]
  rw [hga0]
  obtain ⟨ba0, oa0, B0, d0, hA0, hba0, m00, m01, m02, m03, m04, hc0, hs0, hrd0'⟩ := Expr.at hrd0 (Below.refl W.heap.size W) hj0
  simp only [Nat.zero_mul, Nat.add_zero] at m00 m01 m02 m03 m04
  have hra0 := Expr.rightsB_all hrr (s.args[0]'hj0) (List.getElem_mem hj0)
  have HAT0 := Lib.hid (fun w4 (hb4 : Below W.heap.size W w4) => (⟨hb4.cellOf m00, hb4.cellOf m01, hb4.cellOf m02, hb4.cellOf m03, hb4.cellOf m04⟩ : _ ∧ _ ∧ _ ∧ _ ∧ _))
  clear m00 m01 m02 m03 m04 hga0
  have hI := gset_calls W (s.args[0]'hj0) B0 d0 1 hrd0' hra0 G w1 p O As c HR1.out.gn HR1.out.below (by simp [hk] at hus; omega) (by omega)
  obtain ⟨a0, ha0⟩ : ∃ x, s.args[0]'hj0 = x := ⟨_, rfl⟩
  rw [ha0] at hI HAT0 hra0 hus hne ⊢
  unfold Expr.val at hI
  have HI := Lib.hid hI
  have s0 := blk_cell HR1.out.box 0
  have s1 := blk_cell HR1.out.box 1
  have s2 := blk_cell HR1.out.box 2
  have s3 := blk_cell HR1.out.box 3
  have s4 := blk_cell HR1.out.box 4
  have s5 := blk_cell HR1.out.box 5
  obtain ⟨x00, x01, x02, x03, x04⟩ := HAT0.out _ HR1.out.below
  have hlen1 : (0 : Int) < (s.args.length : Int) := by omega
  have hlen2 : 0 < s.args.length := by omega
  have hlen3 : s.args.length ≠ 0 := by omega
  subst hA0
  clear hI ha0 hc0 hs0 hj0 hlen hra0 hrd0'
  clear hr0 hw1 hbe h hB hrd0 hrd1 hrd2 hr hu hl hne hus hkk hla hrr hlb hle hrb hre hk
  obtain ⟨r, hrr⟩ : ∃ r, setG G a0 = r := ⟨_, rfl⟩
  rw [hrr] at HI ⊢
  clear hrr
  go_enter Try.func49, Try.ntmps49
  go_wp2_with (have tk := HW; clear tk; rw [HW.out, HBE.out]; clear HW)
  refine HI.out.mono ?_
  intro y w3 hto
  cases r with
  | none =>
    obtain ⟨rfl, G3, hg⟩ := hto
    exact ⟨rfl, rfl, G3, HEND.out _ _ _ _ _ _ _ HR1.out hg⟩
  | some G3 =>
    obtain ⟨rfl, hg⟩ := hto
    go_wp2
    first | go_end0 | refine bodyPost_ret (results_none rfl _ _ _) rfl ?_
    exact ⟨rfl, HEND.out _ _ _ _ _ _ _ HR1.out hg⟩
set_option maxRecDepth 100000 in
set_option maxHeartbeats 2000000 in
theorem gstmt_4 (W : World) (s : Stmt) (A0 : Option Addr) (c0 : Nat) (A1 : Option Addr) (c1 : Nat) (A2 : Option Addr) (c2 d : Nat) (N : Nat) (ih : StmtIH W N) (hN : s.nodes ≤ N + 1) (hrd0 : Expr.rds W s.args A0 0) (hrd1 : Stmt.rds W s.body A1 0) (hrd2 : Stmt.rds W s.els A2 0) (hr : s.rightB nameB d = true) (G : Gn) (w : World) (p : Nat) (O : Value) (As : Option Addr) (c : Nat) (h : GnAt W w p G O As c) (hB : Below W.heap.size W w) (hu : s.useN ≤ G.slots.length) (hl : G.out.length + 3 * s.nodes ≤ 1000000) (hk : s.kind = 4) :
    Calls Try.prog 49 #[.pointer (some ⟨p, 0, none⟩), s.val A0 c0 A1 c1 A2 c2] w (StmtTo W w p O (stmtG G s)) := by
  obtain ⟨hkk, hla, hrr, hlb, hle, hrb, hre⟩ := Stmt.right_parts hr
  have hne := s.nodes_eq
  have hus := s.useN_eq
  unfold Stmt.val
  have hr0 := GnRun.init h hB (.cells #[.int .i64 s.kind, .string s.name, .int .i64 s.cell, .slice A0 s.args.length c0, .slice A1 s.body.length c1, .slice A2 s.els.length c2] 36)
  obtain ⟨w1, hw1⟩ : ∃ w1, w.alloc (.cells #[.int .i64 s.kind, .string s.name, .int .i64 s.cell, .slice A0 s.args.length c0, .slice A1 s.body.length c1, .slice A2 s.els.length c2] 36) = w1 := ⟨_, rfl⟩
  obtain ⟨b, hbe⟩ : ∃ b, w.heap.size = b := ⟨_, rfl⟩
  have HEND := Lib.hid (fun wi wj G1 O1 A1' c1' G2 (r : GnRun W w1 p O wi G1 O1 A1' c1' b (.cells #[.int .i64 s.kind, .string s.name, .int .i64 s.cell, .slice A0 s.args.length c0, .slice A1 s.body.length c1, .slice A2 s.els.length c2] 36)) h2 => GnRun.last (w := w) (Y := .cells #[.int .i64 s.kind, .string s.name, .int .i64 s.cell, .slice A0 s.args.length c0, .slice A1 s.body.length c1, .slice A2 s.els.length c2] 36) (hw1 ▸ r) (G' := G2) (wj := wj) h2)
  rw [hw1, hbe] at hr0
  have HR1 := Lib.hid hr0
  have HW := Lib.hid hw1
  have HBE := Lib.hid hbe
  have hlen : s.args.length = 1 := by simp [wantA, hk] at hla; omega
  rw [useL_1 hlen] at hus
  rw [nodesL_1 hlen] at hne
  have hq1 : (s.kind == 1) = false := by simp [hk]
  have hq2 : (s.kind == 2) = false := by simp [hk]
  have hq3 : (s.kind == 3) = false := by simp [hk]
  have hq4 : (s.kind == 4) = true := by simp [hk]
  rw [stmtG_eq, if_neg (by omega), if_neg (by omega), if_pos hk]
  have hj0 : 0 < s.args.length := by omega
  have hga0 : s.args.getD 0 default = s.args[0]'hj0 := by simp [List.getD, hj0]
  rw [hga0]
  obtain ⟨ba0, oa0, B0, d0, hA0, hba0, m00, m01, m02, m03, m04, hc0, hs0, hrd0'⟩ := Expr.at hrd0 (Below.refl W.heap.size W) hj0
  simp only [Nat.zero_mul, Nat.add_zero] at m00 m01 m02 m03 m04
  have hra0 := Expr.rightsB_all hrr (s.args[0]'hj0) (List.getElem_mem hj0)
  have HAT0 := Lib.hid (fun w4 (hb4 : Below W.heap.size W w4) => (⟨hb4.cellOf m00, hb4.cellOf m01, hb4.cellOf m02, hb4.cellOf m03, hb4.cellOf m04⟩ : _ ∧ _ ∧ _ ∧ _ ∧ _))
  clear m00 m01 m02 m03 m04 hga0
  have hI := gone1_calls W 9 0 (s.args[0]'hj0) B0 d0 1 hrd0' hra0 G w1 p O As c HR1.out.gn HR1.out.below (by simp [hk] at hus; omega) (by omega)
  obtain ⟨a0, ha0⟩ : ∃ x, s.args[0]'hj0 = x := ⟨_, rfl⟩
  rw [ha0] at hI HAT0 hra0 hus hne ⊢
  unfold Expr.val at hI
  have HI := Lib.hid hI
  have s0 := blk_cell HR1.out.box 0
  have s1 := blk_cell HR1.out.box 1
  have s2 := blk_cell HR1.out.box 2
  have s3 := blk_cell HR1.out.box 3
  have s4 := blk_cell HR1.out.box 4
  have s5 := blk_cell HR1.out.box 5
  obtain ⟨x00, x01, x02, x03, x04⟩ := HAT0.out _ HR1.out.below
  have hlen1 : (0 : Int) < (s.args.length : Int) := by omega
  have hlen2 : 0 < s.args.length := by omega
  have hlen3 : s.args.length ≠ 0 := by omega
  subst hA0
  clear hI ha0 hc0 hs0 hj0 hlen hra0 hrd0'
  clear hr0 hw1 hbe h hB hrd0 hrd1 hrd2 hr hu hl hne hus hkk hla hrr hlb hle hrb hre hk
  obtain ⟨r, hrr⟩ : ∃ r, oneG G 9 a0 0 = r := ⟨_, rfl⟩
  rw [hrr] at HI ⊢
  clear hrr
  go_enter Try.func49, Try.ntmps49
  go_wp2_with (have tk := HW; clear tk; rw [HW.out, HBE.out]; clear HW)
  refine HI.out.mono ?_
  intro y w3 hto
  cases r with
  | none =>
    obtain ⟨rfl, G3, hg⟩ := hto
    exact ⟨rfl, rfl, G3, HEND.out _ _ _ _ _ _ _ HR1.out hg⟩
  | some G3 =>
    obtain ⟨rfl, hg⟩ := hto
    go_wp2
    first | go_end0 | refine bodyPost_ret (results_none rfl _ _ _) rfl ?_
    exact ⟨rfl, HEND.out _ _ _ _ _ _ _ HR1.out hg⟩
set_option maxRecDepth 100000 in
set_option maxHeartbeats 2000000 in
theorem gstmt_5 (W : World) (s : Stmt) (A0 : Option Addr) (c0 : Nat) (A1 : Option Addr) (c1 : Nat) (A2 : Option Addr) (c2 d : Nat) (N : Nat) (ih : StmtIH W N) (hN : s.nodes ≤ N + 1) (hrd0 : Expr.rds W s.args A0 0) (hrd1 : Stmt.rds W s.body A1 0) (hrd2 : Stmt.rds W s.els A2 0) (hr : s.rightB nameB d = true) (G : Gn) (w : World) (p : Nat) (O : Value) (As : Option Addr) (c : Nat) (h : GnAt W w p G O As c) (hB : Below W.heap.size W w) (hu : s.useN ≤ G.slots.length) (hl : G.out.length + 3 * s.nodes ≤ 1000000) (hk : s.kind = 5) :
    Calls Try.prog 49 #[.pointer (some ⟨p, 0, none⟩), s.val A0 c0 A1 c1 A2 c2] w (StmtTo W w p O (stmtG G s)) := by
  obtain ⟨hkk, hla, hrr, hlb, hle, hrb, hre⟩ := Stmt.right_parts hr
  have hne := s.nodes_eq
  have hus := s.useN_eq
  unfold Stmt.val
  have hr0 := GnRun.init h hB (.cells #[.int .i64 s.kind, .string s.name, .int .i64 s.cell, .slice A0 s.args.length c0, .slice A1 s.body.length c1, .slice A2 s.els.length c2] 36)
  obtain ⟨w1, hw1⟩ : ∃ w1, w.alloc (.cells #[.int .i64 s.kind, .string s.name, .int .i64 s.cell, .slice A0 s.args.length c0, .slice A1 s.body.length c1, .slice A2 s.els.length c2] 36) = w1 := ⟨_, rfl⟩
  obtain ⟨b, hbe⟩ : ∃ b, w.heap.size = b := ⟨_, rfl⟩
  have HEND := Lib.hid (fun wi wj G1 O1 A1' c1' G2 (r : GnRun W w1 p O wi G1 O1 A1' c1' b (.cells #[.int .i64 s.kind, .string s.name, .int .i64 s.cell, .slice A0 s.args.length c0, .slice A1 s.body.length c1, .slice A2 s.els.length c2] 36)) h2 => GnRun.last (w := w) (Y := .cells #[.int .i64 s.kind, .string s.name, .int .i64 s.cell, .slice A0 s.args.length c0, .slice A1 s.body.length c1, .slice A2 s.els.length c2] 36) (hw1 ▸ r) (G' := G2) (wj := wj) h2)
  rw [hw1, hbe] at hr0
  have HR1 := Lib.hid hr0
  have HW := Lib.hid hw1
  have HBE := Lib.hid hbe
  have hlen : s.args.length = 1 := by simp [wantA, hk] at hla; omega
  rw [useL_1 hlen] at hus
  rw [nodesL_1 hlen] at hne
  have hq1 : (s.kind == 1) = false := by simp [hk]
  have hq2 : (s.kind == 2) = false := by simp [hk]
  have hq3 : (s.kind == 3) = false := by simp [hk]
  have hq4 : (s.kind == 4) = false := by simp [hk]
  have hq5 : (s.kind == 5) = true := by simp [hk]
  rw [stmtG_eq, if_neg (by omega), if_neg (by omega), if_neg (by omega), if_pos hk]
  have hj0 : 0 < s.args.length := by omega
  have hga0 : s.args.getD 0 default = s.args[0]'hj0 := by simp [List.getD, hj0]
  rw [hga0]
  obtain ⟨ba0, oa0, B0, d0, hA0, hba0, m00, m01, m02, m03, m04, hc0, hs0, hrd0'⟩ := Expr.at hrd0 (Below.refl W.heap.size W) hj0
  simp only [Nat.zero_mul, Nat.add_zero] at m00 m01 m02 m03 m04
  have hra0 := Expr.rightsB_all hrr (s.args[0]'hj0) (List.getElem_mem hj0)
  have HAT0 := Lib.hid (fun w4 (hb4 : Below W.heap.size W w4) => (⟨hb4.cellOf m00, hb4.cellOf m01, hb4.cellOf m02, hb4.cellOf m03, hb4.cellOf m04⟩ : _ ∧ _ ∧ _ ∧ _ ∧ _))
  clear m00 m01 m02 m03 m04 hga0
  have hI := gone1_calls W 8 s.cell (s.args[0]'hj0) B0 d0 1 hrd0' hra0 G (w1.drewN 1) p O As c (HR1.out.drewN 1).gn (HR1.out.drewN 1).below (by simp [hk] at hus; omega) (by omega)
  obtain ⟨a0, ha0⟩ : ∃ x, s.args[0]'hj0 = x := ⟨_, rfl⟩
  rw [ha0] at hI HAT0 hra0 hus hne ⊢
  unfold Expr.val at hI
  have HI := Lib.hid hI
  have s0 := blk_cell HR1.out.box 0
  have s1 := blk_cell HR1.out.box 1
  have s2 := blk_cell HR1.out.box 2
  have s3 := blk_cell HR1.out.box 3
  have s4 := blk_cell HR1.out.box 4
  have s5 := blk_cell HR1.out.box 5
  obtain ⟨x00, x01, x02, x03, x04⟩ := HAT0.out _ HR1.out.below
  have hlen1 : (0 : Int) < (s.args.length : Int) := by omega
  have hlen2 : 0 < s.args.length := by omega
  have hlen3 : s.args.length ≠ 0 := by omega
  subst hA0
  clear hI ha0 hc0 hs0 hj0 hlen hra0 hrd0'
  clear hr0 hw1 hbe h hB hrd0 hrd1 hrd2 hr hu hl hne hus hkk hla hrr hlb hle hrb hre hk
  obtain ⟨r, hrr⟩ : ∃ r, oneG G 8 a0 s.cell = r := ⟨_, rfl⟩
  rw [hrr] at HI ⊢
  clear hrr
  go_enter Try.func49, Try.ntmps49
  go_wp2_with (have tk := HW; clear tk; rw [HW.out, HBE.out]; clear HW)
  go_still_tail 7, (by kernel_rfl)
  go_wp2_with fail
  refine HI.out.mono ?_
  intro y w3 hto
  cases r with
  | none =>
    obtain ⟨rfl, G3, hg⟩ := hto
    exact ⟨rfl, rfl, G3, HEND.out _ _ _ _ _ _ _ (HR1.out.drewN 1) hg⟩
  | some G3 =>
    obtain ⟨rfl, hg⟩ := hto
    go_wp2
    first | go_end0 | refine bodyPost_ret (results_none rfl _ _ _) rfl ?_
    exact ⟨rfl, HEND.out _ _ _ _ _ _ _ (HR1.out.drewN 1) hg⟩
set_option maxRecDepth 100000 in
set_option maxHeartbeats 2000000 in
theorem gstmt_8 (W : World) (s : Stmt) (A0 : Option Addr) (c0 : Nat) (A1 : Option Addr) (c1 : Nat) (A2 : Option Addr) (c2 d : Nat) (N : Nat) (ih : StmtIH W N) (hN : s.nodes ≤ N + 1) (hrd0 : Expr.rds W s.args A0 0) (hrd1 : Stmt.rds W s.body A1 0) (hrd2 : Stmt.rds W s.els A2 0) (hr : s.rightB nameB d = true) (G : Gn) (w : World) (p : Nat) (O : Value) (As : Option Addr) (c : Nat) (h : GnAt W w p G O As c) (hB : Below W.heap.size W w) (hu : s.useN ≤ G.slots.length) (hl : G.out.length + 3 * s.nodes ≤ 1000000) (hk : s.kind = 8) :
    Calls Try.prog 49 #[.pointer (some ⟨p, 0, none⟩), s.val A0 c0 A1 c1 A2 c2] w (StmtTo W w p O (stmtG G s)) := by
  obtain ⟨hkk, hla, hrr, hlb, hle, hrb, hre⟩ := Stmt.right_parts hr
  have hne := s.nodes_eq
  have hus := s.useN_eq
  unfold Stmt.val
  have hr0 := GnRun.init h hB (.cells #[.int .i64 s.kind, .string s.name, .int .i64 s.cell, .slice A0 s.args.length c0, .slice A1 s.body.length c1, .slice A2 s.els.length c2] 36)
  obtain ⟨w1, hw1⟩ : ∃ w1, w.alloc (.cells #[.int .i64 s.kind, .string s.name, .int .i64 s.cell, .slice A0 s.args.length c0, .slice A1 s.body.length c1, .slice A2 s.els.length c2] 36) = w1 := ⟨_, rfl⟩
  obtain ⟨b, hbe⟩ : ∃ b, w.heap.size = b := ⟨_, rfl⟩
  have HEND := Lib.hid (fun wi wj G1 O1 A1' c1' G2 (r : GnRun W w1 p O wi G1 O1 A1' c1' b (.cells #[.int .i64 s.kind, .string s.name, .int .i64 s.cell, .slice A0 s.args.length c0, .slice A1 s.body.length c1, .slice A2 s.els.length c2] 36)) h2 => GnRun.last (w := w) (Y := .cells #[.int .i64 s.kind, .string s.name, .int .i64 s.cell, .slice A0 s.args.length c0, .slice A1 s.body.length c1, .slice A2 s.els.length c2] 36) (hw1 ▸ r) (G' := G2) (wj := wj) h2)
  rw [hw1, hbe] at hr0
  have HR1 := Lib.hid hr0
  have HW := Lib.hid hw1
  have HBE := Lib.hid hbe
  have hlen : s.args.length = 1 := by simp [wantA, hk] at hla; omega
  rw [useL_1 hlen] at hus
  rw [nodesL_1 hlen] at hne
  have hq1 : (s.kind == 1) = false := by simp [hk]
  have hq2 : (s.kind == 2) = false := by simp [hk]
  have hq3 : (s.kind == 3) = false := by simp [hk]
  have hq4 : (s.kind == 4) = false := by simp [hk]
  have hq5 : (s.kind == 5) = false := by simp [hk]
  have hq8 : (s.kind == 8) = true := by simp [hk]
  rw [stmtG_eq, if_neg (by omega), if_neg (by omega), if_neg (by omega), if_neg (by omega), if_pos hk]
  have hj0 : 0 < s.args.length := by omega
  have hga0 : s.args.getD 0 default = s.args[0]'hj0 := by simp [List.getD, hj0]
  rw [hga0]
  obtain ⟨ba0, oa0, B0, d0, hA0, hba0, m00, m01, m02, m03, m04, hc0, hs0, hrd0'⟩ := Expr.at hrd0 (Below.refl W.heap.size W) hj0
  simp only [Nat.zero_mul, Nat.add_zero] at m00 m01 m02 m03 m04
  have hra0 := Expr.rightsB_all hrr (s.args[0]'hj0) (List.getElem_mem hj0)
  have HAT0 := Lib.hid (fun w4 (hb4 : Below W.heap.size W w4) => (⟨hb4.cellOf m00, hb4.cellOf m01, hb4.cellOf m02, hb4.cellOf m03, hb4.cellOf m04⟩ : _ ∧ _ ∧ _ ∧ _ ∧ _))
  clear m00 m01 m02 m03 m04 hga0
  have hI := gone1_calls W 13 0 (s.args[0]'hj0) B0 d0 1 hrd0' hra0 G w1 p O As c HR1.out.gn HR1.out.below (by simp [hk] at hus; omega) (by omega)
  obtain ⟨a0, ha0⟩ : ∃ x, s.args[0]'hj0 = x := ⟨_, rfl⟩
  rw [ha0] at hI HAT0 hra0 hus hne ⊢
  unfold Expr.val at hI
  have HI := Lib.hid hI
  have s0 := blk_cell HR1.out.box 0
  have s1 := blk_cell HR1.out.box 1
  have s2 := blk_cell HR1.out.box 2
  have s3 := blk_cell HR1.out.box 3
  have s4 := blk_cell HR1.out.box 4
  have s5 := blk_cell HR1.out.box 5
  obtain ⟨x00, x01, x02, x03, x04⟩ := HAT0.out _ HR1.out.below
  have hlen1 : (0 : Int) < (s.args.length : Int) := by omega
  have hlen2 : 0 < s.args.length := by omega
  have hlen3 : s.args.length ≠ 0 := by omega
  subst hA0
  clear hI ha0 hc0 hs0 hj0 hlen hra0 hrd0'
  clear hr0 hw1 hbe h hB hrd0 hrd1 hrd2 hr hu hl hne hus hkk hla hrr hlb hle hrb hre hk
  obtain ⟨r, hrr⟩ : ∃ r, oneG G 13 a0 0 = r := ⟨_, rfl⟩
  rw [hrr] at HI ⊢
  clear hrr
  go_enter Try.func49, Try.ntmps49
  go_wp2_with (have tk := HW; clear tk; rw [HW.out, HBE.out]; clear HW)
  refine HI.out.mono ?_
  intro y w3 hto
  cases r with
  | none =>
    obtain ⟨rfl, G3, hg⟩ := hto
    exact ⟨rfl, rfl, G3, HEND.out _ _ _ _ _ _ _ HR1.out hg⟩
  | some G3 =>
    obtain ⟨rfl, hg⟩ := hto
    go_wp2
    first | go_end0 | refine bodyPost_ret (results_none rfl _ _ _) rfl ?_
    exact ⟨rfl, HEND.out _ _ _ _ _ _ _ HR1.out hg⟩
set_option maxRecDepth 100000 in
set_option maxHeartbeats 2000000 in
theorem gstmt_9 (W : World) (s : Stmt) (A0 : Option Addr) (c0 : Nat) (A1 : Option Addr) (c1 : Nat) (A2 : Option Addr) (c2 d : Nat) (N : Nat) (ih : StmtIH W N) (hN : s.nodes ≤ N + 1) (hrd0 : Expr.rds W s.args A0 0) (hrd1 : Stmt.rds W s.body A1 0) (hrd2 : Stmt.rds W s.els A2 0) (hr : s.rightB nameB d = true) (G : Gn) (w : World) (p : Nat) (O : Value) (As : Option Addr) (c : Nat) (h : GnAt W w p G O As c) (hB : Below W.heap.size W w) (hu : s.useN ≤ G.slots.length) (hl : G.out.length + 3 * s.nodes ≤ 1000000) (hk : s.kind = 9) :
    Calls Try.prog 49 #[.pointer (some ⟨p, 0, none⟩), s.val A0 c0 A1 c1 A2 c2] w (StmtTo W w p O (stmtG G s)) := by
  obtain ⟨hkk, hla, hrr, hlb, hle, hrb, hre⟩ := Stmt.right_parts hr
  have hne := s.nodes_eq
  have hus := s.useN_eq
  unfold Stmt.val
  have hr0 := GnRun.init h hB (.cells #[.int .i64 s.kind, .string s.name, .int .i64 s.cell, .slice A0 s.args.length c0, .slice A1 s.body.length c1, .slice A2 s.els.length c2] 36)
  obtain ⟨w1, hw1⟩ : ∃ w1, w.alloc (.cells #[.int .i64 s.kind, .string s.name, .int .i64 s.cell, .slice A0 s.args.length c0, .slice A1 s.body.length c1, .slice A2 s.els.length c2] 36) = w1 := ⟨_, rfl⟩
  obtain ⟨b, hbe⟩ : ∃ b, w.heap.size = b := ⟨_, rfl⟩
  have HEND := Lib.hid (fun wi wj G1 O1 A1' c1' G2 (r : GnRun W w1 p O wi G1 O1 A1' c1' b (.cells #[.int .i64 s.kind, .string s.name, .int .i64 s.cell, .slice A0 s.args.length c0, .slice A1 s.body.length c1, .slice A2 s.els.length c2] 36)) h2 => GnRun.last (w := w) (Y := .cells #[.int .i64 s.kind, .string s.name, .int .i64 s.cell, .slice A0 s.args.length c0, .slice A1 s.body.length c1, .slice A2 s.els.length c2] 36) (hw1 ▸ r) (G' := G2) (wj := wj) h2)
  rw [hw1, hbe] at hr0
  have HR1 := Lib.hid hr0
  have HW := Lib.hid hw1
  have HBE := Lib.hid hbe
  have hlen : s.args.length = 0 := by have := hla; rw [hk] at this; simpa [wantA] using this
  have hq1 : (s.kind == 1) = false := by simp [hk]
  have hq2 : (s.kind == 2) = false := by simp [hk]
  have hq3 : (s.kind == 3) = false := by simp [hk]
  have hq4 : (s.kind == 4) = false := by simp [hk]
  have hq5 : (s.kind == 5) = false := by simp [hk]
  have hq8 : (s.kind == 8) = false := by simp [hk]
  have hq9 : (s.kind == 9) = true := by simp [hk]
  rw [stmtG_eq, if_neg (by omega), if_neg (by omega), if_neg (by omega), if_neg (by omega), if_neg (by omega), if_pos hk]
  have HP := Lib.hid (put_calls W w1 p G O As c HR1.out.gn HR1.out.below (by omega) 1 0 0 0 0 0)
  have s0 := blk_cell HR1.out.box 0
  have s1 := blk_cell HR1.out.box 1
  have s2 := blk_cell HR1.out.box 2
  have s3 := blk_cell HR1.out.box 3
  have s4 := blk_cell HR1.out.box 4
  have s5 := blk_cell HR1.out.box 5
  clear hlen
  clear hr0 hw1 hbe h hB hrd0 hrd1 hrd2 hr hu hl hne hus hkk hla hrr hlb hle hrb hre hk
  go_enter Try.func49, Try.ntmps49
  go_wp2_with (have tk := HW; clear tk; rw [HW.out, HBE.out]; clear HW)
  refine HP.out.mono ?_
  rintro y w3 ⟨rfl, hg⟩
  go_wp2
  first | go_end0 | refine bodyPost_ret (results_none rfl _ _ _) rfl ?_
  exact ⟨rfl, HEND.out _ _ _ _ _ _ _ HR1.out hg⟩
theorem gexprU (W : World) (e : Expr) (A : Option Addr) (ca d : Nat) (hrd : Expr.rds W e.args A 0) (hr : e.rightB nameB d = true) (G : Gn) (t : Int) (w : World) (p : Nat) (O : Value) (As : Option Addr) (c : Nat) (h : GnAt W w p G O As c) (hB : Below W.heap.size W w) (hu : e.useN ≤ G.slots.length) (hl : G.out.length + e.nodes ≤ 1000000) (ht0 : 0 ≤ t) (ht1 : t ≤ 16) :
    Calls Try.prog 67 #[.pointer (some ⟨p, 0, none⟩), .agg #[.int .i64 e.kind, .int .i64 e.num, .string e.name, .int .i64 e.op, .slice A e.args.length ca], .int .i64 t] w (ExprTo W w p O (exprG G t e)) :=
  gexpr_calls W _ e A ca d (Nat.le_refl _) hrd hr G t w p O As c h hB hu hl ht0 ht1
set_option maxRecDepth 100000 in
set_option maxHeartbeats 2000000 in
theorem gstmt_3 (W : World) (s : Stmt) (A0 : Option Addr) (c0 : Nat) (A1 : Option Addr) (c1 : Nat) (A2 : Option Addr) (c2 d : Nat) (N : Nat) (ih : StmtIH W N) (hN : s.nodes ≤ N + 1) (hrd0 : Expr.rds W s.args A0 0) (hrd1 : Stmt.rds W s.body A1 0) (hrd2 : Stmt.rds W s.els A2 0) (hr : s.rightB nameB d = true) (G : Gn) (w : World) (p : Nat) (O : Value) (As : Option Addr) (c : Nat) (h : GnAt W w p G O As c) (hB : Below W.heap.size W w) (hu : s.useN ≤ G.slots.length) (hl : G.out.length + 3 * s.nodes ≤ 1000000) (hk : s.kind = 3) :
    Calls Try.prog 49 #[.pointer (some ⟨p, 0, none⟩), s.val A0 c0 A1 c1 A2 c2] w (StmtTo W w p O (stmtG G s)) := by
  obtain ⟨hkk, hla, hrr, hlb, hle, hrb, hre⟩ := Stmt.right_parts hr
  have hne := s.nodes_eq
  have hus := s.useN_eq
  unfold Stmt.val
  have hr0 := GnRun.init h hB (.cells #[.int .i64 s.kind, .string s.name, .int .i64 s.cell, .slice A0 s.args.length c0, .slice A1 s.body.length c1, .slice A2 s.els.length c2] 36)
  obtain ⟨w1, hw1⟩ : ∃ w1, w.alloc (.cells #[.int .i64 s.kind, .string s.name, .int .i64 s.cell, .slice A0 s.args.length c0, .slice A1 s.body.length c1, .slice A2 s.els.length c2] 36) = w1 := ⟨_, rfl⟩
  obtain ⟨b, hbe⟩ : ∃ b, w.heap.size = b := ⟨_, rfl⟩
  have HEND := Lib.hid (fun wi wj G1 O1 A1' c1' G2 (r : GnRun W w1 p O wi G1 O1 A1' c1' b (.cells #[.int .i64 s.kind, .string s.name, .int .i64 s.cell, .slice A0 s.args.length c0, .slice A1 s.body.length c1, .slice A2 s.els.length c2] 36)) h2 => GnRun.last (w := w) (Y := .cells #[.int .i64 s.kind, .string s.name, .int .i64 s.cell, .slice A0 s.args.length c0, .slice A1 s.body.length c1, .slice A2 s.els.length c2] 36) (hw1 ▸ r) (G' := G2) (wj := wj) h2)
  rw [hw1, hbe] at hr0
  have HR1 := Lib.hid hr0
  have HW := Lib.hid hw1
  have HBE := Lib.hid hbe
  have hlen : s.args.length = 2 := by simp [wantA, hk] at hla; omega
  rw [useL_2 hlen] at hus
  rw [nodesL_2 hlen] at hne
  have hq1 : (s.kind == 1) = false := by simp [hk]
  have hq2 : (s.kind == 2) = false := by simp [hk]
  have hq3 : (s.kind == 3) = true := by simp [hk]
  rw [stmtG_eq, if_neg (by omega), if_pos hk]
  have hj0 : 0 < s.args.length := by omega
  have hga0 : s.args.getD 0 default = s.args[0]'hj0 := by simp [List.getD, hj0]
  rw [hga0]
  obtain ⟨ba0, oa0, B0, d0, hA0, hba0, m00, m01, m02, m03, m04, hc0, hs0, hrd0'⟩ := Expr.at hrd0 (Below.refl W.heap.size W) hj0
  simp only [Nat.zero_mul, Nat.add_zero] at m00 m01 m02 m03 m04
  have hra0 := Expr.rightsB_all hrr (s.args[0]'hj0) (List.getElem_mem hj0)
  have HAT0 := Lib.hid (fun w4 (hb4 : Below W.heap.size W w4) => (⟨hb4.cellOf m00, hb4.cellOf m01, hb4.cellOf m02, hb4.cellOf m03, hb4.cellOf m04⟩ : _ ∧ _ ∧ _ ∧ _ ∧ _))
  clear m00 m01 m02 m03 m04 hga0
  have hj1 : 1 < s.args.length := by omega
  have hga1 : s.args.getD 1 default = s.args[1]'hj1 := by simp [List.getD, hj1]
  rw [hga1]
  obtain ⟨ba1, oa1, B1, d1, hA1, hba1, m10, m11, m12, m13, m14, hc1, hs1, hrd1'⟩ := Expr.at hrd0 (Below.refl W.heap.size W) hj1
  simp only [Nat.one_mul] at m10 m11 m12 m13 m14
  have hra1 := Expr.rightsB_all hrr (s.args[1]'hj1) (List.getElem_mem hj1)
  have HAT1 := Lib.hid (fun w4 (hb4 : Below W.heap.size W w4) => (⟨hb4.cellOf m10, hb4.cellOf m11, hb4.cellOf m12, hb4.cellOf m13, hb4.cellOf m14⟩ : _ ∧ _ ∧ _ ∧ _ ∧ _))
  clear m10 m11 m12 m13 m14 hga1
  have HRA0 := Lib.hid (And.intro hrd0' hra0)
  have HRA1 := Lib.hid (And.intro hrd1' hra1)
  have hgw0 := fun G' a t G'' (hh : exprG G' 11 (s.args[0]'hj0) = some (a, t, G'')) => exprG_grow (G := G') (s.args[0]'hj0) 11 hra0 hh
  have hgw1 := fun G' t' a t G'' (hh : exprG G' t' (s.args[1]'hj1) = some (a, t, G'')) => exprG_grow (G := G') (s.args[1]'hj1) t' hra1 hh
  clear hrd0' hrd1' hra0 hra1
  obtain ⟨a0, ha0⟩ : ∃ x, s.args[0]'hj0 = x := ⟨_, rfl⟩
  obtain ⟨a1, ha1⟩ : ∃ x, s.args[1]'hj1 = x := ⟨_, rfl⟩
  rw [ha0] at HAT0 HRA0 hus hne hgw0 ⊢
  rw [ha1] at HAT1 HRA1 hus hne hgw1 ⊢
  simp [hk] at hus
  have hsb : Stmt.useL s.body = 0 := by rw [hlb (by omega) (by omega)]; rfl
  have hse : Stmt.useL s.els = 0 := by rw [hle (by omega)]; rfl
  have s0 := blk_cell HR1.out.box 0
  have s1 := blk_cell HR1.out.box 1
  have s2 := blk_cell HR1.out.box 2
  have s3 := blk_cell HR1.out.box 3
  have s4 := blk_cell HR1.out.box 4
  have s5 := blk_cell HR1.out.box 5
  obtain ⟨x00, x01, x02, x03, x04⟩ := HAT0.out _ HR1.out.below
  have hlen1 : (0 : Int) < (s.args.length : Int) := by omega
  have hlen2 : (1 : Int) < (s.args.length : Int) := by omega
  subst hA0
  simp only [Option.some.injEq, Addr.mk.injEq] at hA1
  obtain ⟨hA1, hA2, _⟩ := hA1
  subst hA1 hA2
  have HU0 := Lib.hid (show a0.useN ≤ G.slots.length by omega)
  have HL0 := Lib.hid (show G.out.length + a0.nodes ≤ 1000000 by omega)
  unfold storeG
  cases hx : exprG G 11 a0 with
  | none =>
    have HN0 := Lib.hid hx
    clear hx
    simp only []
    clear hlen ha0 ha1 hc0 hs0 hc1 hs1 hj0 hj1 hsb hse hgw0 hgw1
    clear hr0 hw1 hbe h hB hrd0 hrd1 hrd2 hr hu hl hne hus hkk hla hrr hlb hle hrb hre hk
    go_enter Try.func49, Try.ntmps49
    go_wp2_with (have tk := HW; clear tk; rw [HW.out, HBE.out]; clear HW)
    refine (gexprU W a0 B0 d0 1 HRA0.out.1 HRA0.out.2 G 11 w1 p O As c HR1.out.gn HR1.out.below HU0.out HL0.out (by omega) (by omega)).mono ?_
    rw [HN0.out]
    rintro y w9 ⟨rfl, G9, hg⟩
    exact ⟨rfl, rfl, G9, HEND.out _ _ _ _ _ _ _ HR1.out hg⟩
  | some r =>
    obtain ⟨v0, t1, G1⟩ := r
    have HN0 := Lib.hid hx
    have hg0 := hgw0 _ _ _ _ hx
    have hf0 := exprG_free hx
    have HT1 := Lib.hid (show 0 ≤ t1 ∧ t1 ≤ 16 by omega)
    have HU1 := Lib.hid (show a1.useN ≤ G1.slots.length by rw [hg0.1]; simp; omega)
    have HL1 := Lib.hid (show G1.out.length + a1.nodes ≤ 1000000 by omega)
    simp only []
    cases hx1 : exprG G1 t1 a1 with
    | none =>
      have HN1 := Lib.hid hx1
      clear hx hx1 hg0 hf0
      simp only []
      clear hlen ha0 ha1 hc0 hs0 hc1 hs1 hj0 hj1 hsb hse hgw0 hgw1
      clear hr0 hw1 hbe h hB hrd0 hrd1 hrd2 hr hu hl hne hus hkk hla hrr hlb hle hrb hre hk
      go_enter Try.func49, Try.ntmps49
      go_wp2_with (have tk := HW; clear tk; rw [HW.out, HBE.out]; clear HW)
      refine (gexprU W a0 B0 d0 1 HRA0.out.1 HRA0.out.2 G 11 w1 p O As c HR1.out.gn HR1.out.below HU0.out HL0.out (by omega) (by omega)).mono ?_
      rw [HN0.out]
      rintro y w3 ⟨rfl, hg⟩
      obtain ⟨O3, E3, k3, r3⟩ := HR1.out.step hg
      have HR3 := Lib.hid r3
      clear r3 hg
      clear s0 s1 s2 s3 s4 s5
      have s0 := blk_cell HR3.out.box 0
      have s1 := blk_cell HR3.out.box 1
      have s2 := blk_cell HR3.out.box 2
      have s3 := blk_cell HR3.out.box 3
      have s4 := blk_cell HR3.out.box 4
      have s5 := blk_cell HR3.out.box 5
      obtain ⟨z10, z11, z12, z13, z14⟩ := HAT1.out _ HR3.out.below
      clear x00 x01 x02 x03 x04
      go_wp2_with fail
      refine (gexprU W a1 B1 d1 1 HRA1.out.1 HRA1.out.2 G1 t1 w3 p O3 E3 k3 HR3.out.gn HR3.out.below HU1.out HL1.out HT1.out.1 HT1.out.2).mono ?_
      rw [HN1.out]
      rintro y w9 ⟨rfl, G9, hg⟩
      exact ⟨rfl, rfl, G9, HEND.out _ _ _ _ _ _ _ HR3.out hg⟩
    | some r =>
      obtain ⟨v1, t2, G2⟩ := r
      have HN1 := Lib.hid hx1
      have HL2 := Lib.hid (show G2.out.length ≤ 1000000 by have := (hgw1 _ _ _ _ _ hx1).2.2.1; omega)
      clear hx hx1 hg0 hf0
      simp only []
      clear hlen ha0 ha1 hc0 hs0 hc1 hs1 hj0 hj1 hsb hse hgw0 hgw1
      clear hr0 hw1 hbe h hB hrd0 hrd1 hrd2 hr hu hl hne hus hkk hla hrr hlb hle hrb hre hk
      go_enter Try.func49, Try.ntmps49
      go_wp2_with (have tk := HW; clear tk; rw [HW.out, HBE.out]; clear HW)
      refine (gexprU W a0 B0 d0 1 HRA0.out.1 HRA0.out.2 G 11 w1 p O As c HR1.out.gn HR1.out.below HU0.out HL0.out (by omega) (by omega)).mono ?_
      rw [HN0.out]
      rintro y w3 ⟨rfl, hg⟩
      obtain ⟨O3, E3, k3, r3⟩ := HR1.out.step hg
      have HR3 := Lib.hid r3
      clear r3 hg
      clear s0 s1 s2 s3 s4 s5
      have s0 := blk_cell HR3.out.box 0
      have s1 := blk_cell HR3.out.box 1
      have s2 := blk_cell HR3.out.box 2
      have s3 := blk_cell HR3.out.box 3
      have s4 := blk_cell HR3.out.box 4
      have s5 := blk_cell HR3.out.box 5
      obtain ⟨z10, z11, z12, z13, z14⟩ := HAT1.out _ HR3.out.below
      clear x00 x01 x02 x03 x04
      go_wp2_with fail
      refine (gexprU W a1 B1 d1 1 HRA1.out.1 HRA1.out.2 G1 t1 w3 p O3 E3 k3 HR3.out.gn HR3.out.below HU1.out HL1.out HT1.out.1 HT1.out.2).mono ?_
      rw [HN1.out]
      rintro y w4 ⟨rfl, hg⟩
      obtain ⟨O4, E4, k4, r4⟩ := HR3.out.step hg
      have HR4 := Lib.hid r4
      clear r4 hg
      clear s0 s1 s2 s3 s4 s5
      have s0 := blk_cell HR4.out.box 0
      have s1 := blk_cell HR4.out.box 1
      have s2 := blk_cell HR4.out.box 2
      have s3 := blk_cell HR4.out.box 3
      have s4 := blk_cell HR4.out.box 4
      have s5 := blk_cell HR4.out.box 5
      clear z10 z11 z12 z13 z14
      go_wp2_with fail
      refine (put_calls W w4 p G2 O4 E4 k4 HR4.out.gn HR4.out.below HL2.out 7 0 v1 v0 0 0).mono ?_
      rintro y w9 ⟨rfl, hg⟩
      go_wp2
      first | go_end0 | refine bodyPost_ret (results_none rfl _ _ _) rfl ?_
      exact ⟨rfl, HEND.out _ _ _ _ _ _ _ HR4.out hg⟩
set_option maxRecDepth 100000 in
set_option maxHeartbeats 2000000 in
theorem gbranch_calls (W : World) (s : Stmt) (A0 : Option Addr) (c0 : Nat) (A1 : Option Addr) (c1 : Nat) (A2 : Option Addr) (c2 d : Nat) (N : Nat) (ih : StmtIH W N) (hN : s.nodes ≤ N + 1) (hrd0 : Expr.rds W s.args A0 0) (hrd1 : Stmt.rds W s.body A1 0) (hrd2 : Stmt.rds W s.els A2 0) (hr : s.rightB nameB d = true) (G : Gn) (w : World) (p : Nat) (O : Value) (As : Option Addr) (c : Nat) (h : GnAt W w p G O As c) (hB : Below W.heap.size W w) (hu : s.useN ≤ G.slots.length) (hl : G.out.length + 3 * s.nodes ≤ 1000000) (hk : s.kind = 6) :
    Calls Try.prog 69 #[.pointer (some ⟨p, 0, none⟩), s.val A0 c0 A1 c1 A2 c2] w (StmtTo W w p O (stmtG G s)) := by
  obtain ⟨hkk, hla, hrr, hlb, hle, hrb, hre⟩ := Stmt.right_parts hr
  have hne := s.nodes_eq
  have hus := s.useN_eq
  unfold Stmt.val
  have hr0 := GnRun.init h hB (.cells #[.int .i64 s.kind, .string s.name, .int .i64 s.cell, .slice A0 s.args.length c0, .slice A1 s.body.length c1, .slice A2 s.els.length c2] 36)
  obtain ⟨w1, hw1⟩ : ∃ w1, w.alloc (.cells #[.int .i64 s.kind, .string s.name, .int .i64 s.cell, .slice A0 s.args.length c0, .slice A1 s.body.length c1, .slice A2 s.els.length c2] 36) = w1 := ⟨_, rfl⟩
  obtain ⟨b, hbe⟩ : ∃ b, w.heap.size = b := ⟨_, rfl⟩
  have HEND := Lib.hid (fun wi wj G1 O1 A1' c1' G2 (r : GnRun W w1 p O wi G1 O1 A1' c1' b (.cells #[.int .i64 s.kind, .string s.name, .int .i64 s.cell, .slice A0 s.args.length c0, .slice A1 s.body.length c1, .slice A2 s.els.length c2] 36)) h2 => GnRun.last (w := w) (Y := .cells #[.int .i64 s.kind, .string s.name, .int .i64 s.cell, .slice A0 s.args.length c0, .slice A1 s.body.length c1, .slice A2 s.els.length c2] 36) (hw1 ▸ r) (G' := G2) (wj := wj) h2)
  rw [hw1, hbe] at hr0
  have HR1 := Lib.hid hr0
  have HW := Lib.hid hw1
  have HBE := Lib.hid hbe
  have hlen : s.args.length = 1 := by simp [wantA, hk] at hla; omega
  rw [useL_1 hlen] at hus
  rw [nodesL_1 hlen] at hne
  rw [stmtG_eq, if_neg (by omega), if_neg (by omega), if_neg (by omega), if_neg (by omega), if_neg (by omega), if_neg (by omega), if_pos hk]
  have hj0 : 0 < s.args.length := by omega
  have hga0 : s.args.getD 0 default = s.args[0]'hj0 := by simp [List.getD, hj0]
  rw [hga0]
  obtain ⟨ba0, oa0, B0, d0, hA0, hba0, m00, m01, m02, m03, m04, hc0, hs0, hrd0'⟩ := Expr.at hrd0 (Below.refl W.heap.size W) hj0
  simp only [Nat.zero_mul, Nat.add_zero] at m00 m01 m02 m03 m04
  have hra0 := Expr.rightsB_all hrr (s.args[0]'hj0) (List.getElem_mem hj0)
  have HAT0 := Lib.hid (fun w4 (hb4 : Below W.heap.size W w4) => (⟨hb4.cellOf m00, hb4.cellOf m01, hb4.cellOf m02, hb4.cellOf m03, hb4.cellOf m04⟩ : _ ∧ _ ∧ _ ∧ _ ∧ _))
  clear m00 m01 m02 m03 m04 hga0
  have HRA0 := Lib.hid (And.intro hrd0' hra0)
  have hgw0 := fun G' a t G'' (hh : exprG G' 11 (s.args[0]'hj0) = some (a, t, G'')) => exprG_grow (G := G') (s.args[0]'hj0) 11 hra0 hh
  clear hrd0' hra0
  obtain ⟨a0, ha0⟩ : ∃ x, s.args[0]'hj0 = x := ⟨_, rfl⟩
  rw [ha0] at HAT0 HRA0 hus hne hgw0 ⊢
  simp [hk] at hus
  have s0 := blk_cell HR1.out.box 0
  have s1 := blk_cell HR1.out.box 1
  have s2 := blk_cell HR1.out.box 2
  have s3 := blk_cell HR1.out.box 3
  have s4 := blk_cell HR1.out.box 4
  have s5 := blk_cell HR1.out.box 5
  obtain ⟨x00, x01, x02, x03, x04⟩ := HAT0.out _ HR1.out.below
  have hlen1 : (0 : Int) < (s.args.length : Int) := by omega
  subst hA0
  have HU0 := Lib.hid (show a0.useN ≤ G.slots.length by omega)
  have HL0 := Lib.hid (show G.out.length + a0.nodes ≤ 1000000 by omega)
  have HBB := Lib.hid (And.intro hrd1 hrb)
  have HBE2 := Lib.hid (And.intro hrd2 hre)
  have HIH := Lib.hid ih
  unfold oneG
  cases hx : exprG G 11 a0 with
  | none =>
    have HN0 := Lib.hid hx
    clear hx
    simp only []
    clear hlen ha0 hc0 hs0 hj0 hgw0 ih
    clear hr0 hw1 hbe h hB hrd0 hrd1 hrd2 hr hu hl hne hus hkk hla hrr hlb hle hrb hre hk
    go_enter Try.func69, Try.ntmps69
    go_wp2_with (have tk := HW; clear tk; rw [HW.out, HBE.out]; clear HW)
    refine (gexprU W a0 B0 d0 1 HRA0.out.1 HRA0.out.2 G 11 w1 p O As c HR1.out.gn HR1.out.below HU0.out HL0.out (by omega) (by omega)).mono ?_
    rw [HN0.out]
    rintro y w9 ⟨rfl, G9, hg⟩
    exact ⟨rfl, rfl, G9, HEND.out _ _ _ _ _ _ _ HR1.out hg⟩
  | some r =>
    obtain ⟨v0, t1, G1⟩ := r
    have HN0 := Lib.hid hx
    have hg0 := hgw0 _ _ _ _ hx
    have HL1 := Lib.hid (show G1.out.length ≤ 1000000 by omega)
    have hsl1 : G1.slots.length = G.slots.length - a0.useN := by rw [hg0.1]; simp
    have HU2 := Lib.hid (show Stmt.useL s.body ≤ (G1.put ⟨11, 0, v0, 0, 0, 0⟩).slots.length by show _ ≤ G1.slots.length; omega)
    have HL2 := Lib.hid (show (G1.put ⟨11, 0, v0, 0, 0, 0⟩).out.length + 3 * Stmt.nodesL s.body ≤ 1000000 by rw [Gn.put_len]; omega)
    have HNB := Lib.hid (show Stmt.nodesL s.body ≤ N ∧ Stmt.nodesL s.els ≤ N by omega)
    simp only []
    cases hx2 : blockG (G1.put ⟨11, 0, v0, 0, 0, 0⟩) s.body with
    | none =>
      have HN2 := Lib.hid hx2
      clear hx hx2 hg0 hsl1
      simp only []
      clear hlen ha0 hc0 hs0 hj0 hgw0 ih
      clear hr0 hw1 hbe h hB hrd0 hrd1 hrd2 hr hu hl hne hus hkk hla hrr hlb hle hrb hre hk
      go_enter Try.func69, Try.ntmps69
      go_wp2_with (have tk := HW; clear tk; rw [HW.out, HBE.out]; clear HW)
      refine (gexprU W a0 B0 d0 1 HRA0.out.1 HRA0.out.2 G 11 w1 p O As c HR1.out.gn HR1.out.below HU0.out HL0.out (by omega) (by omega)).mono ?_
      rw [HN0.out]
      rintro y w3 ⟨rfl, hg⟩
      obtain ⟨O3, E3, k3, r3⟩ := HR1.out.step hg
      have HR3 := Lib.hid r3
      clear r3 hg
      clear s0 s1 s2 s3 s4 s5
      have s0 := blk_cell HR3.out.box 0
      have s1 := blk_cell HR3.out.box 1
      have s2 := blk_cell HR3.out.box 2
      have s3 := blk_cell HR3.out.box 3
      have s4 := blk_cell HR3.out.box 4
      have s5 := blk_cell HR3.out.box 5
      clear x00 x01 x02 x03 x04
      go_wp2_with fail
      refine (put_calls W w3 p G1 O3 E3 k3 HR3.out.gn HR3.out.below HL1.out 11 0 v0 0 0 0).mono ?_
      rintro y w4 ⟨rfl, hg⟩
      obtain ⟨O4, E4, k4, r4⟩ := HR3.out.step hg
      have HR4 := Lib.hid r4
      clear r4 hg
      clear s0 s1 s2 s3 s4 s5
      have s0 := blk_cell HR4.out.box 0
      have s1 := blk_cell HR4.out.box 1
      have s2 := blk_cell HR4.out.box 2
      have s3 := blk_cell HR4.out.box 3
      have s4 := blk_cell HR4.out.box 4
      have s5 := blk_cell HR4.out.box 5
      go_wp2_with fail
      refine (gblock_of W N HIH.out s.body A1 c1 (d + 1) HNB.out.1 HBB.out.1 HBB.out.2 (G1.put ⟨11, 0, v0, 0, 0, 0⟩) w4 p O4 E4 k4 HR4.out.gn HR4.out.below HU2.out HL2.out).mono ?_
      rw [HN2.out]
      rintro y w9 ⟨rfl, G9, hg⟩
      exact ⟨rfl, rfl, G9, HEND.out _ _ _ _ _ _ _ HR4.out hg⟩
    | some G3 =>
      have HN2 := Lib.hid hx2
      have hg3 := blockG_grow s.body hrb hx2
      rw [Gn.put_len] at hg3
      have HI3 := Lib.hid (show (G1.put ⟨11, 0, v0, 0, 0, 0⟩).out.length - 1 = G1.out.length ∧ G1.out.length < G3.out.length by rw [Gn.put_len]; omega)
      have HL3 := Lib.hid (show G3.out.length < 1000000 by omega)
      have hsl3 : G3.slots.length = G.slots.length - a0.useN - Stmt.useL s.body := by rw [hg3.1]; simp [Gn.put, hsl1]
      simp only []
      rw [HI3.out.1]
      by_cases hle0 : s.els.length = 0
      · rw [if_pos hle0]
        have hle1 : ¬ ((0 : Int) < (s.els.length : Int)) := by omega
        clear hx hx2 hg0 hg3 hsl1 hsl3 hle0
        clear hlen ha0 hc0 hs0 hj0 hgw0 ih
        clear hr0 hw1 hbe h hB hrd0 hrd1 hrd2 hr hu hl hne hus hkk hla hrr hlb hle hrb hre hk
        go_enter Try.func69, Try.ntmps69
        go_wp2_with (have tk := HW; clear tk; rw [HW.out, HBE.out]; clear HW)
        refine (gexprU W a0 B0 d0 1 HRA0.out.1 HRA0.out.2 G 11 w1 p O As c HR1.out.gn HR1.out.below HU0.out HL0.out (by omega) (by omega)).mono ?_
        rw [HN0.out]
        rintro y w3 ⟨rfl, hg⟩
        obtain ⟨O3, E3, k3, r3⟩ := HR1.out.step hg
        have HR3 := Lib.hid r3
        clear r3 hg
        clear s0 s1 s2 s3 s4 s5
        have s0 := blk_cell HR3.out.box 0
        have s1 := blk_cell HR3.out.box 1
        have s2 := blk_cell HR3.out.box 2
        have s3 := blk_cell HR3.out.box 3
        have s4 := blk_cell HR3.out.box 4
        have s5 := blk_cell HR3.out.box 5
        clear x00 x01 x02 x03 x04
        go_wp2_with fail
        refine (put_calls W w3 p G1 O3 E3 k3 HR3.out.gn HR3.out.below HL1.out 11 0 v0 0 0 0).mono ?_
        rintro y w4 ⟨rfl, hg⟩
        obtain ⟨O4, E4, k4, r4⟩ := HR3.out.step hg
        have HR4 := Lib.hid r4
        clear r4 hg
        clear s0 s1 s2 s3 s4 s5
        have s0 := blk_cell HR4.out.box 0
        have s1 := blk_cell HR4.out.box 1
        have s2 := blk_cell HR4.out.box 2
        have s3 := blk_cell HR4.out.box 3
        have s4 := blk_cell HR4.out.box 4
        have s5 := blk_cell HR4.out.box 5
        go_wp2_with fail
        refine (gblock_of W N HIH.out s.body A1 c1 (d + 1) HNB.out.1 HBB.out.1 HBB.out.2 (G1.put ⟨11, 0, v0, 0, 0, 0⟩) w4 p O4 E4 k4 HR4.out.gn HR4.out.below HU2.out HL2.out).mono ?_
        rw [HN2.out]
        rintro y w5 ⟨rfl, hg⟩
        obtain ⟨O5, E5, k5, r5⟩ := HR4.out.step hg
        have HR5 := Lib.hid r5
        clear r5 hg
        clear s0 s1 s2 s3 s4 s5
        have s0 := blk_cell HR5.out.box 0
        have s1 := blk_cell HR5.out.box 1
        have s2 := blk_cell HR5.out.box 2
        have s3 := blk_cell HR5.out.box 3
        have s4 := blk_cell HR5.out.box 4
        have s5 := blk_cell HR5.out.box 5
        go_wp2_with fail
        refine (here_calls W w5 p G3 O5 E5 k5 HR5.out.gn G1.out.length HI3.out.2 (Nat.le_of_lt HL3.out)).mono ?_
        rintro y w9 ⟨rfl, hg⟩
        go_wp2
        first | go_end0 | refine bodyPost_ret (results_none rfl _ _ _) rfl ?_
        exact ⟨rfl, HEND.out _ _ _ _ _ _ _ HR5.out hg⟩
      · rw [if_neg hle0]
        have hle1 : (0 : Int) < (s.els.length : Int) := by omega
        have HI4 := Lib.hid (show G1.out.length < (G3.put ⟨10, 0, 0, 0, 0, 0⟩).out.length ∧ (G3.put ⟨10, 0, 0, 0, 0, 0⟩).out.length ≤ 1000000 by rw [Gn.put_len]; have := HI3.out; have := HL3.out; omega)
        have HU5 := Lib.hid (show Stmt.useL s.els ≤ ((G3.put ⟨10, 0, 0, 0, 0, 0⟩).here G1.out.length).slots.length by show _ ≤ G3.slots.length; omega)
        have HL5 := Lib.hid (show ((G3.put ⟨10, 0, 0, 0, 0, 0⟩).here G1.out.length).out.length + 3 * Stmt.nodesL s.els ≤ 1000000 by rw [Gn.here_len, Gn.put_len]; omega)
        cases hx5 : blockG ((G3.put ⟨10, 0, 0, 0, 0, 0⟩).here G1.out.length) s.els with
        | none =>
          have HN5 := Lib.hid hx5
          clear hx hx2 hx5 hg0 hg3 hsl1 hsl3 hle0
          simp only []
          clear hlen ha0 hc0 hs0 hj0 hgw0 ih
          clear hr0 hw1 hbe h hB hrd0 hrd1 hrd2 hr hu hl hne hus hkk hla hrr hlb hle hrb hre hk
          go_enter Try.func69, Try.ntmps69
          go_wp2_with (have tk := HW; clear tk; rw [HW.out, HBE.out]; clear HW)
          refine (gexprU W a0 B0 d0 1 HRA0.out.1 HRA0.out.2 G 11 w1 p O As c HR1.out.gn HR1.out.below HU0.out HL0.out (by omega) (by omega)).mono ?_
          rw [HN0.out]
          rintro y w3 ⟨rfl, hg⟩
          obtain ⟨O3, E3, k3, r3⟩ := HR1.out.step hg
          have HR3 := Lib.hid r3
          clear r3 hg
          clear s0 s1 s2 s3 s4 s5
          have s0 := blk_cell HR3.out.box 0
          have s1 := blk_cell HR3.out.box 1
          have s2 := blk_cell HR3.out.box 2
          have s3 := blk_cell HR3.out.box 3
          have s4 := blk_cell HR3.out.box 4
          have s5 := blk_cell HR3.out.box 5
          clear x00 x01 x02 x03 x04
          go_wp2_with fail
          refine (put_calls W w3 p G1 O3 E3 k3 HR3.out.gn HR3.out.below HL1.out 11 0 v0 0 0 0).mono ?_
          rintro y w4 ⟨rfl, hg⟩
          obtain ⟨O4, E4, k4, r4⟩ := HR3.out.step hg
          have HR4 := Lib.hid r4
          clear r4 hg
          clear s0 s1 s2 s3 s4 s5
          have s0 := blk_cell HR4.out.box 0
          have s1 := blk_cell HR4.out.box 1
          have s2 := blk_cell HR4.out.box 2
          have s3 := blk_cell HR4.out.box 3
          have s4 := blk_cell HR4.out.box 4
          have s5 := blk_cell HR4.out.box 5
          go_wp2_with fail
          refine (gblock_of W N HIH.out s.body A1 c1 (d + 1) HNB.out.1 HBB.out.1 HBB.out.2 (G1.put ⟨11, 0, v0, 0, 0, 0⟩) w4 p O4 E4 k4 HR4.out.gn HR4.out.below HU2.out HL2.out).mono ?_
          rw [HN2.out]
          rintro y w5 ⟨rfl, hg⟩
          obtain ⟨O5, E5, k5, r5⟩ := HR4.out.step hg
          have HR5 := Lib.hid r5
          clear r5 hg
          clear s0 s1 s2 s3 s4 s5
          have s0 := blk_cell HR5.out.box 0
          have s1 := blk_cell HR5.out.box 1
          have s2 := blk_cell HR5.out.box 2
          have s3 := blk_cell HR5.out.box 3
          have s4 := blk_cell HR5.out.box 4
          have s5 := blk_cell HR5.out.box 5
          go_wp2_with fail
          refine (put_calls W w5 p G3 O5 E5 k5 HR5.out.gn HR5.out.below (Nat.le_of_lt HL3.out) 10 0 0 0 0 0).mono ?_
          rintro y w6 ⟨rfl, hg⟩
          obtain ⟨O6, E6, k6, r6⟩ := HR5.out.step hg
          have HR6 := Lib.hid r6
          clear r6 hg
          clear s0 s1 s2 s3 s4 s5
          have s0 := blk_cell HR6.out.box 0
          have s1 := blk_cell HR6.out.box 1
          have s2 := blk_cell HR6.out.box 2
          have s3 := blk_cell HR6.out.box 3
          have s4 := blk_cell HR6.out.box 4
          have s5 := blk_cell HR6.out.box 5
          go_wp2_with fail
          refine (here_calls W w6 p (G3.put ⟨10, 0, 0, 0, 0, 0⟩) O6 E6 k6 HR6.out.gn G1.out.length HI4.out.1 HI4.out.2).mono ?_
          rintro y w7 ⟨rfl, hg⟩
          obtain ⟨O7, E7, k7, r7⟩ := HR6.out.step hg
          have HR7 := Lib.hid r7
          clear r7 hg
          clear s0 s1 s2 s3 s4 s5
          have s0 := blk_cell HR7.out.box 0
          have s1 := blk_cell HR7.out.box 1
          have s2 := blk_cell HR7.out.box 2
          have s3 := blk_cell HR7.out.box 3
          have s4 := blk_cell HR7.out.box 4
          have s5 := blk_cell HR7.out.box 5
          go_wp2_with fail
          refine (gblock_of W N HIH.out s.els A2 c2 (d + 1) HNB.out.2 HBE2.out.1 HBE2.out.2 ((G3.put ⟨10, 0, 0, 0, 0, 0⟩).here G1.out.length) w7 p O7 E7 k7 HR7.out.gn HR7.out.below HU5.out HL5.out).mono ?_
          rw [HN5.out]
          rintro y w9 ⟨rfl, G9, hg⟩
          exact ⟨rfl, rfl, G9, HEND.out _ _ _ _ _ _ _ HR7.out hg⟩
        | some G6 =>
          have HN5 := Lib.hid hx5
          have hg6 := blockG_grow s.els hre hx5
          rw [Gn.here_len, Gn.put_len] at hg6
          have HI6 := Lib.hid (show G3.out.length < G6.out.length ∧ G6.out.length ≤ 1000000 by omega)
          clear hx hx2 hx5 hg0 hg3 hsl1 hsl3 hle0 hg6
          simp only []
          clear hlen ha0 hc0 hs0 hj0 hgw0 ih
          clear hr0 hw1 hbe h hB hrd0 hrd1 hrd2 hr hu hl hne hus hkk hla hrr hlb hle hrb hre hk
          go_enter Try.func69, Try.ntmps69
          go_wp2_with (have tk := HW; clear tk; rw [HW.out, HBE.out]; clear HW)
          refine (gexprU W a0 B0 d0 1 HRA0.out.1 HRA0.out.2 G 11 w1 p O As c HR1.out.gn HR1.out.below HU0.out HL0.out (by omega) (by omega)).mono ?_
          rw [HN0.out]
          rintro y w3 ⟨rfl, hg⟩
          obtain ⟨O3, E3, k3, r3⟩ := HR1.out.step hg
          have HR3 := Lib.hid r3
          clear r3 hg
          clear s0 s1 s2 s3 s4 s5
          have s0 := blk_cell HR3.out.box 0
          have s1 := blk_cell HR3.out.box 1
          have s2 := blk_cell HR3.out.box 2
          have s3 := blk_cell HR3.out.box 3
          have s4 := blk_cell HR3.out.box 4
          have s5 := blk_cell HR3.out.box 5
          clear x00 x01 x02 x03 x04
          go_wp2_with fail
          refine (put_calls W w3 p G1 O3 E3 k3 HR3.out.gn HR3.out.below HL1.out 11 0 v0 0 0 0).mono ?_
          rintro y w4 ⟨rfl, hg⟩
          obtain ⟨O4, E4, k4, r4⟩ := HR3.out.step hg
          have HR4 := Lib.hid r4
          clear r4 hg
          clear s0 s1 s2 s3 s4 s5
          have s0 := blk_cell HR4.out.box 0
          have s1 := blk_cell HR4.out.box 1
          have s2 := blk_cell HR4.out.box 2
          have s3 := blk_cell HR4.out.box 3
          have s4 := blk_cell HR4.out.box 4
          have s5 := blk_cell HR4.out.box 5
          go_wp2_with fail
          refine (gblock_of W N HIH.out s.body A1 c1 (d + 1) HNB.out.1 HBB.out.1 HBB.out.2 (G1.put ⟨11, 0, v0, 0, 0, 0⟩) w4 p O4 E4 k4 HR4.out.gn HR4.out.below HU2.out HL2.out).mono ?_
          rw [HN2.out]
          rintro y w5 ⟨rfl, hg⟩
          obtain ⟨O5, E5, k5, r5⟩ := HR4.out.step hg
          have HR5 := Lib.hid r5
          clear r5 hg
          clear s0 s1 s2 s3 s4 s5
          have s0 := blk_cell HR5.out.box 0
          have s1 := blk_cell HR5.out.box 1
          have s2 := blk_cell HR5.out.box 2
          have s3 := blk_cell HR5.out.box 3
          have s4 := blk_cell HR5.out.box 4
          have s5 := blk_cell HR5.out.box 5
          go_wp2_with fail
          refine (put_calls W w5 p G3 O5 E5 k5 HR5.out.gn HR5.out.below (Nat.le_of_lt HL3.out) 10 0 0 0 0 0).mono ?_
          rintro y w6 ⟨rfl, hg⟩
          obtain ⟨O6, E6, k6, r6⟩ := HR5.out.step hg
          have HR6 := Lib.hid r6
          clear r6 hg
          clear s0 s1 s2 s3 s4 s5
          have s0 := blk_cell HR6.out.box 0
          have s1 := blk_cell HR6.out.box 1
          have s2 := blk_cell HR6.out.box 2
          have s3 := blk_cell HR6.out.box 3
          have s4 := blk_cell HR6.out.box 4
          have s5 := blk_cell HR6.out.box 5
          go_wp2_with fail
          refine (here_calls W w6 p (G3.put ⟨10, 0, 0, 0, 0, 0⟩) O6 E6 k6 HR6.out.gn G1.out.length HI4.out.1 HI4.out.2).mono ?_
          rintro y w7 ⟨rfl, hg⟩
          obtain ⟨O7, E7, k7, r7⟩ := HR6.out.step hg
          have HR7 := Lib.hid r7
          clear r7 hg
          clear s0 s1 s2 s3 s4 s5
          have s0 := blk_cell HR7.out.box 0
          have s1 := blk_cell HR7.out.box 1
          have s2 := blk_cell HR7.out.box 2
          have s3 := blk_cell HR7.out.box 3
          have s4 := blk_cell HR7.out.box 4
          have s5 := blk_cell HR7.out.box 5
          go_wp2_with fail
          refine (gblock_of W N HIH.out s.els A2 c2 (d + 1) HNB.out.2 HBE2.out.1 HBE2.out.2 ((G3.put ⟨10, 0, 0, 0, 0, 0⟩).here G1.out.length) w7 p O7 E7 k7 HR7.out.gn HR7.out.below HU5.out HL5.out).mono ?_
          rw [HN5.out]
          rintro y w8 ⟨rfl, hg⟩
          obtain ⟨O8, E8, k8, r8⟩ := HR7.out.step hg
          have HR8 := Lib.hid r8
          clear r8 hg
          clear s0 s1 s2 s3 s4 s5
          have s0 := blk_cell HR8.out.box 0
          have s1 := blk_cell HR8.out.box 1
          have s2 := blk_cell HR8.out.box 2
          have s3 := blk_cell HR8.out.box 3
          have s4 := blk_cell HR8.out.box 4
          have s5 := blk_cell HR8.out.box 5
          go_wp2_with fail
          refine (here_calls W w8 p G6 O8 E8 k8 HR8.out.gn G3.out.length HI6.out.1 HI6.out.2).mono ?_
          rintro y w9 ⟨rfl, hg⟩
          go_wp2
          first | go_end0 | refine bodyPost_ret (results_none rfl _ _ _) rfl ?_
          exact ⟨rfl, HEND.out _ _ _ _ _ _ _ HR8.out hg⟩
set_option maxRecDepth 100000 in
set_option maxHeartbeats 2000000 in
theorem gloop_calls (W : World) (s : Stmt) (A0 : Option Addr) (c0 : Nat) (A1 : Option Addr) (c1 : Nat) (A2 : Option Addr) (c2 d : Nat) (N : Nat) (ih : StmtIH W N) (hN : s.nodes ≤ N + 1) (hrd0 : Expr.rds W s.args A0 0) (hrd1 : Stmt.rds W s.body A1 0) (hrd2 : Stmt.rds W s.els A2 0) (hr : s.rightB nameB d = true) (G : Gn) (w : World) (p : Nat) (O : Value) (As : Option Addr) (c : Nat) (h : GnAt W w p G O As c) (hB : Below W.heap.size W w) (hu : s.useN ≤ G.slots.length) (hl : G.out.length + 3 * s.nodes ≤ 1000000) (hk : s.kind = 7) :
    Calls Try.prog 70 #[.pointer (some ⟨p, 0, none⟩), s.val A0 c0 A1 c1 A2 c2] w (StmtTo W w p O (stmtG G s)) := by
  obtain ⟨hkk, hla, hrr, hlb, hle, hrb, hre⟩ := Stmt.right_parts hr
  have hne := s.nodes_eq
  have hus := s.useN_eq
  unfold Stmt.val
  have hr0 := GnRun.init h hB (.cells #[.int .i64 s.kind, .string s.name, .int .i64 s.cell, .slice A0 s.args.length c0, .slice A1 s.body.length c1, .slice A2 s.els.length c2] 36)
  obtain ⟨w1, hw1⟩ : ∃ w1, w.alloc (.cells #[.int .i64 s.kind, .string s.name, .int .i64 s.cell, .slice A0 s.args.length c0, .slice A1 s.body.length c1, .slice A2 s.els.length c2] 36) = w1 := ⟨_, rfl⟩
  obtain ⟨b, hbe⟩ : ∃ b, w.heap.size = b := ⟨_, rfl⟩
  have HEND := Lib.hid (fun wi wj G1 O1 A1' c1' G2 (r : GnRun W w1 p O wi G1 O1 A1' c1' b (.cells #[.int .i64 s.kind, .string s.name, .int .i64 s.cell, .slice A0 s.args.length c0, .slice A1 s.body.length c1, .slice A2 s.els.length c2] 36)) h2 => GnRun.last (w := w) (Y := .cells #[.int .i64 s.kind, .string s.name, .int .i64 s.cell, .slice A0 s.args.length c0, .slice A1 s.body.length c1, .slice A2 s.els.length c2] 36) (hw1 ▸ r) (G' := G2) (wj := wj) h2)
  rw [hw1, hbe] at hr0
  have HR1 := Lib.hid hr0
  have HW := Lib.hid hw1
  have HBE := Lib.hid hbe
  have hlen : s.args.length = 1 := by simp [wantA, hk] at hla; omega
  rw [useL_1 hlen] at hus
  rw [nodesL_1 hlen] at hne
  rw [stmtG_eq, if_neg (by omega), if_neg (by omega), if_neg (by omega), if_neg (by omega), if_neg (by omega), if_neg (by omega), if_neg (by omega), if_pos hk]
  have hj0 : 0 < s.args.length := by omega
  have hga0 : s.args.getD 0 default = s.args[0]'hj0 := by simp [List.getD, hj0]
  rw [hga0]
  obtain ⟨ba0, oa0, B0, d0, hA0, hba0, m00, m01, m02, m03, m04, hc0, hs0, hrd0'⟩ := Expr.at hrd0 (Below.refl W.heap.size W) hj0
  simp only [Nat.zero_mul, Nat.add_zero] at m00 m01 m02 m03 m04
  have hra0 := Expr.rightsB_all hrr (s.args[0]'hj0) (List.getElem_mem hj0)
  have HAT0 := Lib.hid (fun w4 (hb4 : Below W.heap.size W w4) => (⟨hb4.cellOf m00, hb4.cellOf m01, hb4.cellOf m02, hb4.cellOf m03, hb4.cellOf m04⟩ : _ ∧ _ ∧ _ ∧ _ ∧ _))
  clear m00 m01 m02 m03 m04 hga0
  have HRA0 := Lib.hid (And.intro hrd0' hra0)
  have hgw0 := fun G' a t G'' (hh : exprG G' 11 (s.args[0]'hj0) = some (a, t, G'')) => exprG_grow (G := G') (s.args[0]'hj0) 11 hra0 hh
  clear hrd0' hra0
  obtain ⟨a0, ha0⟩ : ∃ x, s.args[0]'hj0 = x := ⟨_, rfl⟩
  rw [ha0] at HAT0 HRA0 hus hne hgw0 ⊢
  simp [hk] at hus
  have s0 := blk_cell HR1.out.box 0
  have s1 := blk_cell HR1.out.box 1
  have s2 := blk_cell HR1.out.box 2
  have s3 := blk_cell HR1.out.box 3
  have s4 := blk_cell HR1.out.box 4
  have s5 := blk_cell HR1.out.box 5
  obtain ⟨x00, x01, x02, x03, x04⟩ := HAT0.out _ HR1.out.below
  have hlen1 : (0 : Int) < (s.args.length : Int) := by omega
  subst hA0
  have HU0 := Lib.hid (show a0.useN ≤ G.slots.length by omega)
  have HL0 := Lib.hid (show G.out.length + a0.nodes ≤ 1000000 by omega)
  have HBB := Lib.hid (And.intro hrd1 hrb)
  have HBE2 := Lib.hid (And.intro hrd2 hre)
  have HIH := Lib.hid ih
  unfold oneG
  obtain ⟨AX, cX, hAX, _⟩ := hr0.gn.out.slice
  have hOX := hAX
  have q0 : w1.cell? ⟨p, 0, none⟩ = some (.slice AX G.out.length cX) := by rw [← hAX]; exact blk_cell hr0.gn.blk 0
  clear hOX hAX
  cases hx : exprG G 11 a0 with
  | none =>
    have HN0 := Lib.hid hx
    clear hx
    simp only []
    clear hlen ha0 hc0 hs0 hj0 hgw0 ih
    clear hr0 hw1 hbe h hB hrd0 hrd1 hrd2 hr hu hl hne hus hkk hla hrr hlb hle hrb hre hk
    go_enter Try.func70, Try.ntmps70
    go_wp2_with (have tk := HW; clear tk; rw [HW.out, HBE.out]; clear HW)
    refine (gexprU W a0 B0 d0 1 HRA0.out.1 HRA0.out.2 G 11 w1 p O As c HR1.out.gn HR1.out.below HU0.out HL0.out (by omega) (by omega)).mono ?_
    rw [HN0.out]
    rintro y w9 ⟨rfl, G9, hg⟩
    exact ⟨rfl, rfl, G9, HEND.out _ _ _ _ _ _ _ HR1.out hg⟩
  | some r =>
    obtain ⟨v0, t1, G1⟩ := r
    have HN0 := Lib.hid hx
    have hg0 := hgw0 _ _ _ _ hx
    have HL1 := Lib.hid (show G1.out.length ≤ 1000000 by omega)
    have hsl1 : G1.slots.length = G.slots.length - a0.useN := by rw [hg0.1]; simp
    have HU2 := Lib.hid (show Stmt.useL s.body ≤ (G1.put ⟨11, 0, v0, 0, 0, 0⟩).slots.length by show _ ≤ G1.slots.length; omega)
    have HL2 := Lib.hid (show (G1.put ⟨11, 0, v0, 0, 0, 0⟩).out.length + 3 * Stmt.nodesL s.body ≤ 1000000 by rw [Gn.put_len]; omega)
    have HNB := Lib.hid (show Stmt.nodesL s.body ≤ N ∧ Stmt.nodesL s.els ≤ N by omega)
    simp only []
    cases hx2 : blockG (G1.put ⟨11, 0, v0, 0, 0, 0⟩) s.body with
    | none =>
      have HN2 := Lib.hid hx2
      clear hx hx2 hg0 hsl1
      simp only []
      clear hlen ha0 hc0 hs0 hj0 hgw0 ih
      clear hr0 hw1 hbe h hB hrd0 hrd1 hrd2 hr hu hl hne hus hkk hla hrr hlb hle hrb hre hk
      go_enter Try.func70, Try.ntmps70
      go_wp2_with (have tk := HW; clear tk; rw [HW.out, HBE.out]; clear HW)
      refine (gexprU W a0 B0 d0 1 HRA0.out.1 HRA0.out.2 G 11 w1 p O As c HR1.out.gn HR1.out.below HU0.out HL0.out (by omega) (by omega)).mono ?_
      rw [HN0.out]
      rintro y w3 ⟨rfl, hg⟩
      obtain ⟨O3, E3, k3, r3⟩ := HR1.out.step hg
      have HR3 := Lib.hid r3
      clear r3 hg
      clear s0 s1 s2 s3 s4 s5
      have s0 := blk_cell HR3.out.box 0
      have s1 := blk_cell HR3.out.box 1
      have s2 := blk_cell HR3.out.box 2
      have s3 := blk_cell HR3.out.box 3
      have s4 := blk_cell HR3.out.box 4
      have s5 := blk_cell HR3.out.box 5
      clear x00 x01 x02 x03 x04 q0
      go_wp2_with fail
      refine (put_calls W w3 p G1 O3 E3 k3 HR3.out.gn HR3.out.below HL1.out 11 0 v0 0 0 0).mono ?_
      rintro y w4 ⟨rfl, hg⟩
      obtain ⟨O4, E4, k4, r4⟩ := HR3.out.step hg
      have HR4 := Lib.hid r4
      clear r4 hg
      clear s0 s1 s2 s3 s4 s5
      have s0 := blk_cell HR4.out.box 0
      have s1 := blk_cell HR4.out.box 1
      have s2 := blk_cell HR4.out.box 2
      have s3 := blk_cell HR4.out.box 3
      have s4 := blk_cell HR4.out.box 4
      have s5 := blk_cell HR4.out.box 5
      go_wp2_with fail
      refine (gblock_of W N HIH.out s.body A1 c1 (d + 1) HNB.out.1 HBB.out.1 HBB.out.2 (G1.put ⟨11, 0, v0, 0, 0, 0⟩) w4 p O4 E4 k4 HR4.out.gn HR4.out.below HU2.out HL2.out).mono ?_
      rw [HN2.out]
      rintro y w9 ⟨rfl, G9, hg⟩
      exact ⟨rfl, rfl, G9, HEND.out _ _ _ _ _ _ _ HR4.out hg⟩
    | some G3 =>
      have HN2 := Lib.hid hx2
      have hg3 := blockG_grow s.body hrb hx2
      rw [Gn.put_len] at hg3
      have HI3 := Lib.hid (show (G1.put ⟨11, 0, v0, 0, 0, 0⟩).out.length - 1 = G1.out.length ∧ G1.out.length < G3.out.length by rw [Gn.put_len]; omega)
      have HL3 := Lib.hid (show G3.out.length < 1000000 by omega)
      have hsl3 : G3.slots.length = G.slots.length - a0.useN - Stmt.useL s.body := by rw [hg3.1]; simp [Gn.put, hsl1]
      simp only []
      rw [HI3.out.1]
      have HI4 := Lib.hid (show G1.out.length < (G3.put ⟨10, 0, 0, 0, 0, (G.out.length : Int)⟩).out.length ∧ (G3.put ⟨10, 0, 0, 0, 0, (G.out.length : Int)⟩).out.length ≤ 1000000 by rw [Gn.put_len]; have := HI3.out; have := HL3.out; omega)
      clear hx hx2 hg0 hg3 hsl1 hsl3
      clear hlen ha0 hc0 hs0 hj0 hgw0 ih
      clear hr0 hw1 hbe h hB hrd0 hrd1 hrd2 hr hu hl hne hus hkk hla hrr hlb hle hrb hre hk
      go_enter Try.func70, Try.ntmps70
      go_wp2_with (have tk := HW; clear tk; rw [HW.out, HBE.out]; clear HW)
      refine (gexprU W a0 B0 d0 1 HRA0.out.1 HRA0.out.2 G 11 w1 p O As c HR1.out.gn HR1.out.below HU0.out HL0.out (by omega) (by omega)).mono ?_
      rw [HN0.out]
      rintro y w3 ⟨rfl, hg⟩
      obtain ⟨O3, E3, k3, r3⟩ := HR1.out.step hg
      have HR3 := Lib.hid r3
      clear r3 hg
      clear s0 s1 s2 s3 s4 s5
      have s0 := blk_cell HR3.out.box 0
      have s1 := blk_cell HR3.out.box 1
      have s2 := blk_cell HR3.out.box 2
      have s3 := blk_cell HR3.out.box 3
      have s4 := blk_cell HR3.out.box 4
      have s5 := blk_cell HR3.out.box 5
      clear x00 x01 x02 x03 x04 q0
      go_wp2_with fail
      refine (put_calls W w3 p G1 O3 E3 k3 HR3.out.gn HR3.out.below HL1.out 11 0 v0 0 0 0).mono ?_
      rintro y w4 ⟨rfl, hg⟩
      obtain ⟨O4, E4, k4, r4⟩ := HR3.out.step hg
      have HR4 := Lib.hid r4
      clear r4 hg
      clear s0 s1 s2 s3 s4 s5
      have s0 := blk_cell HR4.out.box 0
      have s1 := blk_cell HR4.out.box 1
      have s2 := blk_cell HR4.out.box 2
      have s3 := blk_cell HR4.out.box 3
      have s4 := blk_cell HR4.out.box 4
      have s5 := blk_cell HR4.out.box 5
      go_wp2_with fail
      refine (gblock_of W N HIH.out s.body A1 c1 (d + 1) HNB.out.1 HBB.out.1 HBB.out.2 (G1.put ⟨11, 0, v0, 0, 0, 0⟩) w4 p O4 E4 k4 HR4.out.gn HR4.out.below HU2.out HL2.out).mono ?_
      rw [HN2.out]
      rintro y w5 ⟨rfl, hg⟩
      obtain ⟨O5, E5, k5, r5⟩ := HR4.out.step hg
      have HR5 := Lib.hid r5
      clear r5 hg
      clear s0 s1 s2 s3 s4 s5
      have s0 := blk_cell HR5.out.box 0
      have s1 := blk_cell HR5.out.box 1
      have s2 := blk_cell HR5.out.box 2
      have s3 := blk_cell HR5.out.box 3
      have s4 := blk_cell HR5.out.box 4
      have s5 := blk_cell HR5.out.box 5
      go_wp2_with fail
      refine (put_calls W w5 p G3 O5 E5 k5 HR5.out.gn HR5.out.below (Nat.le_of_lt HL3.out) 10 0 0 0 0 (G.out.length : Int)).mono ?_
      rintro y w6 ⟨rfl, hg⟩
      obtain ⟨O6, E6, k6, r6⟩ := HR5.out.step hg
      have HR6 := Lib.hid r6
      clear r6 hg
      clear s0 s1 s2 s3 s4 s5
      have s0 := blk_cell HR6.out.box 0
      have s1 := blk_cell HR6.out.box 1
      have s2 := blk_cell HR6.out.box 2
      have s3 := blk_cell HR6.out.box 3
      have s4 := blk_cell HR6.out.box 4
      have s5 := blk_cell HR6.out.box 5
      go_wp2_with fail
      refine (here_calls W w6 p (G3.put ⟨10, 0, 0, 0, 0, (G.out.length : Int)⟩) O6 E6 k6 HR6.out.gn G1.out.length HI4.out.1 HI4.out.2).mono ?_
      rintro y w9 ⟨rfl, hg⟩
      go_wp2
      first | go_end0 | refine bodyPost_ret (results_none rfl _ _ _) rfl ?_
      exact ⟨rfl, HEND.out _ _ _ _ _ _ _ HR6.out hg⟩
set_option maxRecDepth 100000 in
set_option maxHeartbeats 2000000 in
theorem gstmt_6 (W : World) (s : Stmt) (A0 : Option Addr) (c0 : Nat) (A1 : Option Addr) (c1 : Nat) (A2 : Option Addr) (c2 d : Nat) (N : Nat) (ih : StmtIH W N) (hN : s.nodes ≤ N + 1) (hrd0 : Expr.rds W s.args A0 0) (hrd1 : Stmt.rds W s.body A1 0) (hrd2 : Stmt.rds W s.els A2 0) (hr : s.rightB nameB d = true) (G : Gn) (w : World) (p : Nat) (O : Value) (As : Option Addr) (c : Nat) (h : GnAt W w p G O As c) (hB : Below W.heap.size W w) (hu : s.useN ≤ G.slots.length) (hl : G.out.length + 3 * s.nodes ≤ 1000000) (hk : s.kind = 6) :
    Calls Try.prog 49 #[.pointer (some ⟨p, 0, none⟩), s.val A0 c0 A1 c1 A2 c2] w (StmtTo W w p O (stmtG G s)) := by
  obtain ⟨hkk, hla, hrr, hlb, hle, hrb, hre⟩ := Stmt.right_parts hr
  have hne := s.nodes_eq
  have hus := s.useN_eq
  unfold Stmt.val
  have hr0 := GnRun.init h hB (.cells #[.int .i64 s.kind, .string s.name, .int .i64 s.cell, .slice A0 s.args.length c0, .slice A1 s.body.length c1, .slice A2 s.els.length c2] 36)
  obtain ⟨w1, hw1⟩ : ∃ w1, w.alloc (.cells #[.int .i64 s.kind, .string s.name, .int .i64 s.cell, .slice A0 s.args.length c0, .slice A1 s.body.length c1, .slice A2 s.els.length c2] 36) = w1 := ⟨_, rfl⟩
  obtain ⟨b, hbe⟩ : ∃ b, w.heap.size = b := ⟨_, rfl⟩
  have HEND := Lib.hid (fun wi wj G1 O1 A1' c1' G2 (r : GnRun W w1 p O wi G1 O1 A1' c1' b (.cells #[.int .i64 s.kind, .string s.name, .int .i64 s.cell, .slice A0 s.args.length c0, .slice A1 s.body.length c1, .slice A2 s.els.length c2] 36)) h2 => GnRun.last (w := w) (Y := .cells #[.int .i64 s.kind, .string s.name, .int .i64 s.cell, .slice A0 s.args.length c0, .slice A1 s.body.length c1, .slice A2 s.els.length c2] 36) (hw1 ▸ r) (G' := G2) (wj := wj) h2)
  rw [hw1, hbe] at hr0
  have HR1 := Lib.hid hr0
  have HW := Lib.hid hw1
  have HBE := Lib.hid hbe
  have hq1 : (s.kind == 1) = false := by simp [hk]
  have hq2 : (s.kind == 2) = false := by simp [hk]
  have hq3 : (s.kind == 3) = false := by simp [hk]
  have hq4 : (s.kind == 4) = false := by simp [hk]
  have hq5 : (s.kind == 5) = false := by simp [hk]
  have hq8 : (s.kind == 8) = false := by simp [hk]
  have hq9 : (s.kind == 9) = false := by simp [hk]
  have hq6 : (s.kind == 6) = true := by simp [hk]
  have hI := gbranch_calls W s A0 c0 A1 c1 A2 c2 d N ih hN hrd0 hrd1 hrd2 hr G w1 p O As c HR1.out.gn HR1.out.below hu hl hk
  unfold Stmt.val at hI
  have HI := Lib.hid hI
  obtain ⟨r, hrr9⟩ : ∃ r, stmtG G s = r := ⟨_, rfl⟩
  rw [hrr9] at HI ⊢
  clear hrr9
  have s0 := blk_cell HR1.out.box 0
  have s1 := blk_cell HR1.out.box 1
  have s2 := blk_cell HR1.out.box 2
  have s3 := blk_cell HR1.out.box 3
  have s4 := blk_cell HR1.out.box 4
  have s5 := blk_cell HR1.out.box 5
  clear hI ih
  clear hr0 hw1 hbe h hB hrd0 hrd1 hrd2 hr hu hl hne hus hkk hla hrr hlb hle hrb hre hk
  go_enter Try.func49, Try.ntmps49
  go_wp2_with (have tk := HW; clear tk; rw [HW.out, HBE.out]; clear HW)
  refine HI.out.mono ?_
  intro y w3 hto
  cases r with
  | none =>
    obtain ⟨rfl, G3, hg⟩ := hto
    exact ⟨rfl, rfl, G3, HEND.out _ _ _ _ _ _ _ HR1.out hg⟩
  | some G3 =>
    obtain ⟨rfl, hg⟩ := hto
    go_wp2
    first | go_end0 | refine bodyPost_ret (results_none rfl _ _ _) rfl ?_
    exact ⟨rfl, HEND.out _ _ _ _ _ _ _ HR1.out hg⟩
set_option maxRecDepth 100000 in
set_option maxHeartbeats 2000000 in
theorem gstmt_7 (W : World) (s : Stmt) (A0 : Option Addr) (c0 : Nat) (A1 : Option Addr) (c1 : Nat) (A2 : Option Addr) (c2 d : Nat) (N : Nat) (ih : StmtIH W N) (hN : s.nodes ≤ N + 1) (hrd0 : Expr.rds W s.args A0 0) (hrd1 : Stmt.rds W s.body A1 0) (hrd2 : Stmt.rds W s.els A2 0) (hr : s.rightB nameB d = true) (G : Gn) (w : World) (p : Nat) (O : Value) (As : Option Addr) (c : Nat) (h : GnAt W w p G O As c) (hB : Below W.heap.size W w) (hu : s.useN ≤ G.slots.length) (hl : G.out.length + 3 * s.nodes ≤ 1000000) (hk : s.kind = 7) :
    Calls Try.prog 49 #[.pointer (some ⟨p, 0, none⟩), s.val A0 c0 A1 c1 A2 c2] w (StmtTo W w p O (stmtG G s)) := by
  obtain ⟨hkk, hla, hrr, hlb, hle, hrb, hre⟩ := Stmt.right_parts hr
  have hne := s.nodes_eq
  have hus := s.useN_eq
  unfold Stmt.val
  have hr0 := GnRun.init h hB (.cells #[.int .i64 s.kind, .string s.name, .int .i64 s.cell, .slice A0 s.args.length c0, .slice A1 s.body.length c1, .slice A2 s.els.length c2] 36)
  obtain ⟨w1, hw1⟩ : ∃ w1, w.alloc (.cells #[.int .i64 s.kind, .string s.name, .int .i64 s.cell, .slice A0 s.args.length c0, .slice A1 s.body.length c1, .slice A2 s.els.length c2] 36) = w1 := ⟨_, rfl⟩
  obtain ⟨b, hbe⟩ : ∃ b, w.heap.size = b := ⟨_, rfl⟩
  have HEND := Lib.hid (fun wi wj G1 O1 A1' c1' G2 (r : GnRun W w1 p O wi G1 O1 A1' c1' b (.cells #[.int .i64 s.kind, .string s.name, .int .i64 s.cell, .slice A0 s.args.length c0, .slice A1 s.body.length c1, .slice A2 s.els.length c2] 36)) h2 => GnRun.last (w := w) (Y := .cells #[.int .i64 s.kind, .string s.name, .int .i64 s.cell, .slice A0 s.args.length c0, .slice A1 s.body.length c1, .slice A2 s.els.length c2] 36) (hw1 ▸ r) (G' := G2) (wj := wj) h2)
  rw [hw1, hbe] at hr0
  have HR1 := Lib.hid hr0
  have HW := Lib.hid hw1
  have HBE := Lib.hid hbe
  have hq1 : (s.kind == 1) = false := by simp [hk]
  have hq2 : (s.kind == 2) = false := by simp [hk]
  have hq3 : (s.kind == 3) = false := by simp [hk]
  have hq4 : (s.kind == 4) = false := by simp [hk]
  have hq5 : (s.kind == 5) = false := by simp [hk]
  have hq8 : (s.kind == 8) = false := by simp [hk]
  have hq9 : (s.kind == 9) = false := by simp [hk]
  have hq6 : (s.kind == 6) = false := by simp [hk]
  have hq7 : (s.kind == 7) = true := by simp [hk]
  have hI := gloop_calls W s A0 c0 A1 c1 A2 c2 d N ih hN hrd0 hrd1 hrd2 hr G w1 p O As c HR1.out.gn HR1.out.below hu hl hk
  unfold Stmt.val at hI
  have HI := Lib.hid hI
  obtain ⟨r, hrr9⟩ : ∃ r, stmtG G s = r := ⟨_, rfl⟩
  rw [hrr9] at HI ⊢
  clear hrr9
  have s0 := blk_cell HR1.out.box 0
  have s1 := blk_cell HR1.out.box 1
  have s2 := blk_cell HR1.out.box 2
  have s3 := blk_cell HR1.out.box 3
  have s4 := blk_cell HR1.out.box 4
  have s5 := blk_cell HR1.out.box 5
  clear hI ih
  clear hr0 hw1 hbe h hB hrd0 hrd1 hrd2 hr hu hl hne hus hkk hla hrr hlb hle hrb hre hk
  go_enter Try.func49, Try.ntmps49
  go_wp2_with (have tk := HW; clear tk; rw [HW.out, HBE.out]; clear HW)
  refine HI.out.mono ?_
  intro y w3 hto
  cases r with
  | none =>
    obtain ⟨rfl, G3, hg⟩ := hto
    exact ⟨rfl, rfl, G3, HEND.out _ _ _ _ _ _ _ HR1.out hg⟩
  | some G3 =>
    obtain ⟨rfl, hg⟩ := hto
    go_wp2
    first | go_end0 | refine bodyPost_ret (results_none rfl _ _ _) rfl ?_
    exact ⟨rfl, HEND.out _ _ _ _ _ _ _ HR1.out hg⟩
theorem gstmt_calls (W : World) (N : Nat) : StmtIH W N := by
  induction N with
  | zero => intro s A0 c0 A1 c1 A2 c2 d hN; have := s.nodes_eq; omega
  | succ N ih =>
    intro s A0 c0 A1 c1 A2 c2 d hN hrd0 hrd1 hrd2 hr G w p O As c h hB hu hl
    have hk := (Stmt.right_parts hr).1
    have hk' : s.kind = 1 ∨ s.kind = 2 ∨ s.kind = 3 ∨ s.kind = 4 ∨ s.kind = 5 ∨ s.kind = 6 ∨ s.kind = 7 ∨ s.kind = 8 ∨ s.kind = 9 := by omega
    rcases hk' with h1 | h1 | h1 | h1 | h1 | h1 | h1 | h1 | h1
    · exact gstmt_1 W s A0 c0 A1 c1 A2 c2 d N ih hN hrd0 hrd1 hrd2 hr G w p O As c h hB hu hl h1
    · exact gstmt_2 W s A0 c0 A1 c1 A2 c2 d N ih hN hrd0 hrd1 hrd2 hr G w p O As c h hB hu hl h1
    · exact gstmt_3 W s A0 c0 A1 c1 A2 c2 d N ih hN hrd0 hrd1 hrd2 hr G w p O As c h hB hu hl h1
    · exact gstmt_4 W s A0 c0 A1 c1 A2 c2 d N ih hN hrd0 hrd1 hrd2 hr G w p O As c h hB hu hl h1
    · exact gstmt_5 W s A0 c0 A1 c1 A2 c2 d N ih hN hrd0 hrd1 hrd2 hr G w p O As c h hB hu hl h1
    · exact gstmt_6 W s A0 c0 A1 c1 A2 c2 d N ih hN hrd0 hrd1 hrd2 hr G w p O As c h hB hu hl h1
    · exact gstmt_7 W s A0 c0 A1 c1 A2 c2 d N ih hN hrd0 hrd1 hrd2 hr G w p O As c h hB hu hl h1
    · exact gstmt_8 W s A0 c0 A1 c1 A2 c2 d N ih hN hrd0 hrd1 hrd2 hr G w p O As c h hB hu hl h1
    · exact gstmt_9 W s A0 c0 A1 c1 A2 c2 d N ih hN hrd0 hrd1 hrd2 hr G w p O As c h hB hu hl h1
end Go.Proofs.Ytjlnpppjkdcpkaa.My
