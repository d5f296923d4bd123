/- Layer 6: name.Slots and name.Most. Conditions: the tree was there in the world W, which is kept; it has at most 10^9 nodes. -/
import Derived.Test.YtjlnpppjkdcpkaaGmNameW2
namespace Go.Proofs.Ytjlnpppjkdcpkaa.My
open Go.RowKit Go.Maps
def slotsP (l : List Stmt) (cells : Int) : List Int × Int := if (stmtsS ⟨[], [], 0, cells⟩ l).1 = 0 then ((stmtsS ⟨[], [], 0, cells⟩ l).2.out, 0) else ([], (stmtsS ⟨[], [], 0, cells⟩ l).1)
def mostP (l : List Stmt) (cells : Int) : Int × Int := if (stmtsS ⟨[], [], 0, cells⟩ l).1 = 0 then ((stmtsS ⟨[], [], 0, cells⟩ l).2.most, 0) else (0, (stmtsS ⟨[], [], 0, cells⟩ l).1)
theorem Sc0.cell4 {W w : World} {p : Nat} {S : Sc} (h : Sc0 W w p S) : ∃ vo, w.cell? ⟨p, 4, none⟩ = some vo ∧ Row w 3 1 vo S.out.length (S.out.map (.int .i64)) := by
  obtain ⟨O, ⟨bm, vn, vo, hb, hM, hn, ho, r⟩, hO⟩ := h
  exact ⟨vo, blk_cell hb 4, ho⟩
mutual
theorem Expr.rd_keep {w w' : World} (hB : Below w.heap.size w w') : ∀ {e : Expr} {cs : List Value}, e.rd w cs → e.rd w' cs
  | .mk k n s o xs, cs, h => by
    simp only [Expr.rd] at h ⊢
    obtain ⟨A, c, h1, h2, h3, h4⟩ := h
    exact ⟨A, c, h1, h2, h3, Expr.rds_keep hB h4⟩
theorem Expr.rds_keep {w w' : World} (hB : Below w.heap.size w w') : ∀ {l : List Expr} {A : Option Addr} {i : Nat}, Expr.rds w l A i → Expr.rds w' l A i
  | [], _, _, _ => by simp [Expr.rds]
  | e :: l, A, i, h => by
    simp only [Expr.rds] at h ⊢
    obtain ⟨⟨b, o, cs, h1, h2, h3⟩, h4⟩ := h
    exact ⟨⟨b, o, cs, h1, Expr.rd_keep hB h2, fun j u hu => (hB.cell (World.block_lt_of_cell? w _ (h3 j u hu))).trans (h3 j u hu)⟩, Expr.rds_keep hB h4⟩
end
mutual
theorem Stmt.rd_keep {w w' : World} (hB : Below w.heap.size w w') : ∀ {e : Stmt} {cs : List Value}, e.rd w cs → e.rd w' cs
  | .mk k s c xs bs es, cs, h => by
    simp only [Stmt.rd] at h ⊢
    obtain ⟨A0, c0, A1, c1, A2, c2, h1, h2, h3, h4, h5, h6, h7, h8⟩ := h
    exact ⟨A0, c0, A1, c1, A2, c2, h1, h2, h3, h4, h5, Expr.rds_keep hB h6, Stmt.rds_keep hB h7, Stmt.rds_keep hB h8⟩
theorem Stmt.rds_keep {w w' : World} (hB : Below w.heap.size w w') : ∀ {l : List Stmt} {A : Option Addr} {i : Nat}, Stmt.rds w l A i → Stmt.rds w' l A i
  | [], _, _, _ => by simp [Stmt.rds]
  | e :: l, A, i, h => by
    simp only [Stmt.rds] at h ⊢
    obtain ⟨⟨b, o, cs, h1, h2, h3⟩, h4⟩ := h
    exact ⟨⟨b, o, cs, h1, Stmt.rd_keep hB h2, fun j u hu => (hB.cell (World.block_lt_of_cell? w _ (h3 j u hu))).trans (h3 j u hu)⟩, Stmt.rds_keep hB h4⟩
end
set_option maxRecDepth 100000 in
theorem slots_calls (W : World) (l : List Stmt) (A : Option Addr) (c : Nat) (cells : Int) (hrd : Stmt.rds W l A 0) (hl : Stmt.nodesL l ≤ 1000000000) (w : World) (hB : Below W.heap.size W w) :
    Calls Try.prog 30 #[.slice A l.length c, .int .i64 cells] w fun e w' => ∃ v, e = .returned (.tuple #[v, .int .i64 (slotsP l cells).2]) ∧ Row w' 3 1 v (slotsP l cells).1.length ((slotsP l cells).1.map (.int .i64)) ∧ Below w.heap.size w w' := by
  have hal := Stmt.nodesL_len l
  go_enter Try.func30, Try.ntmps30
  go_wp2_with (go_at_call 47; refine (fresh_calls cells w).mono ?_; rintro e w1 ⟨p, O, rfl, hsc, hO, hK⟩)
  have hS0 : Sc0 w w1 p ⟨[], [], 0, cells⟩ := ⟨O, hsc, hO⟩
  have hB1 : Below w.heap.size w w1 := hK.toBelow (Nat.le_refl _) (fun _ h => h.elim)
  have hrdw : Stmt.rds w l A 0 := Stmt.rds_keep hB hrd
  clear hsc hO hK
  go_loopw [14] (fun at_ wr => ∃ (k : Nat), at_ = .int .i64 (k : Int) ∧ k ≤ l.length ∧ Hid ((stmtsS ⟨[], [], 0, cells⟩ (l.take k)).1 = 0) ∧ Hid (Sc0 w wr p (stmtsS ⟨[], [], 0, cells⟩ (l.take k)).2) ∧ Below w.heap.size w wr) (fun a _ => l.length - (intOf a).toNat)
  case atStart => exact ⟨0, rfl, Nat.zero_le _, Lib.hid (by simp [stmtsS]), Lib.hid (by simpa [stmtsS] using hS0), hB1⟩
  case round =>
    obtain ⟨k, rfl, hk, HZ, HS, HB⟩ := hrel
    by_cases hlt : k < l.length
    · have hsz := Stmt.nodesL_take l k hlt
      have hln := stmtsS_len ⟨[], [], 0, cells⟩ (l.take k)
      have hln' : (stmtsS ⟨[], [], 0, cells⟩ (l.take k)).2.out.length ≤ Stmt.nodesL (l.take k) := by simpa using hln
      obtain ⟨b, o, A0, c0, A2, c2, A3, c3, rfl, hbW, g0, g1, g2, g3, g4, g5, e0, e1, e2, hs', r0, r1, r2⟩ := Stmt.at hrdw HB hlt
      have hlt' : ((k : Int) < (l.length : Int)) := by omega
      have hsn := stmtsS_snoc ⟨[], [], 0, cells⟩ (l.take k) l[k]
      rw [List.take_append_getElem hlt, if_pos HZ.out] at hsn
      obtain ⟨r, hr⟩ : ∃ r, stmtS (stmtsS ⟨[], [], 0, cells⟩ (l.take k)).2 l[k] = r := ⟨_, rfl⟩
      rw [hr] at hsn
      have HR := Lib.hid hsn
      clear hsn
      have hBa := HB.alloc HB.size (.cells #[.int .i64 l[k].kind, .string l[k].name, .int .i64 l[k].cell, .slice A0 l[k].args.length c0, .slice A2 l[k].body.length c2, .slice A3 l[k].els.length c3] 36)
      have hSa := HS.out.keep ((Below.refl wr.heap.size wr).alloc (Nat.le_refl _) (.cells #[.int .i64 l[k].kind, .string l[k].name, .int .i64 l[k].cell, .slice A0 l[k].args.length c0, .slice A2 l[k].body.length c2, .slice A3 l[k].els.length c3] 36))
      have hI := stmt_calls w p _ l[k] A0 c0 A2 c2 A3 c3 (Nat.le_refl _) r0 r1 r2 e0 e1 e2 hs' (stmtsS ⟨[], [], 0, cells⟩ (l.take k)).2 _ (by omega) hBa hSa
      rw [hr] at hI
      unfold Stmt.val at hI
      have HI := Lib.hid hI
      clear hI hr hln
      by_cases hz : r.1 = 0
      · have hz' : (r.1 == 0) = true := by simp [hz]
        go_wp2_with (go_at_call 48; go_must (refine HI.out.mono ?_); rintro x w' ⟨rfl, hw, hb⟩)
        go_roundw
        case rel => exact ⟨k + 1, by go_num, by omega, Lib.hid (by rw [HR.out]; exact hz), Lib.hid (by rw [HR.out]; exact hw), (HB.alloc HB.size _).trans hb.below⟩
        case measure => simp [intOf]; omega
      · have hz' : (r.1 == 0) = false := by simp [hz]
        have hst := stmtsS_stop ⟨[], [], 0, cells⟩ l (k + 1) (by rw [HR.out]; exact hz)
        rw [HR.out] at hst
        have HT := Lib.hid (show slotsP l cells = ([], r.1) by unfold slotsP; rw [hst, if_neg hz])
        clear hst
        go_wp2_with (go_at_call 48; go_must (refine HI.out.mono ?_); rintro x w' ⟨rfl, hw, hb⟩)
        go_ret2
        rw [HT.out]
        exact ⟨_, rfl, Row.nil _ _ _, (HB.alloc HB.size _).trans hb.below⟩
    · have hk' : k = l.length := by omega
      subst hk'
      have hz := HZ.out
      have hq := HS.out
      rw [List.take_length] at hz hq
      have HT := Lib.hid (show slotsP l cells = ((stmtsS ⟨[], [], 0, cells⟩ l).2.out, 0) by unfold slotsP; rw [if_pos hz])
      obtain ⟨vo, hvo, hro⟩ := hq.cell4
      go_wp2
      go_ret2
      rw [HT.out]
      exact ⟨_, rfl, hro, HB⟩
end Go.Proofs.Ytjlnpppjkdcpkaa.My
