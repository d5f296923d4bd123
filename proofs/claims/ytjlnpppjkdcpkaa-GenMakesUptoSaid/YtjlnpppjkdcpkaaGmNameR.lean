/- Layer 6: what the document's Go functions find, Names, Block, one, Slots do. Conditions: the tree was there in the world W, which is kept; it has at most 10^9 nodes. -/
import Derived.Test.YtjlnpppjkdcpkaaGmNameQ
import Derived.Test.YtjlnpppjkdcpkaaGmNameW3
namespace Go.Proofs.Ytjlnpppjkdcpkaa.My
open Go.RowKit Go.Maps
def findP (names : List ByteArray) (x : ByteArray) : Int := (regOf names x).getD (-1)
theorem info_strings : (Try.prog.info? 9).map (fun i => (i.zero, i.size, i.bytes)) = some (some (.string ⟨#[]⟩), 1, 16) := info_string
theorem row_oneS (l : List ByteArray) : ∀ u ∈ l.map Value.string, u.oneCell' = true := by
  intro u hu; obtain ⟨_, _, rfl⟩ := List.mem_map.1 hu; rfl
theorem idx_take {l : List ByteArray} {x : ByteArray} {k : Nat} (hk : k < l.length) (h : idx (l.take k) x = none) : (l[k] = x → idx l x = some k) ∧ (l[k] ≠ x → idx (l.take (k + 1)) x = none) := by
  constructor
  · intro e
    have h1 : l = l.take k ++ l.drop k := (List.take_append_drop k l).symm
    rw [h1, idx_append, h]
    rw [List.drop_eq_getElem_cons hk]
    simp [idx, e]; omega
  · intro e
    rw [← List.take_append_getElem hk, idx_append, h]
    simp [idx, e]
theorem blk_new1 (w : World) (o o' : Obj) : ((w.alloc o).alloc o').heap[w.heap.size + 1]? = some o' := by
  have h := blk_new (w.alloc o) o'
  rwa [show (w.alloc o).heap.size = w.heap.size + 1 by simp] at h
theorem beq_str (a b : ByteArray) : (a.toList == b.toList) = true ↔ a = b := by
  rw [beq_iff_eq]
  exact ⟨fun h => by rw [ByteArray.toList_eq, ByteArray.toList_eq] at h; cases a; cases b; simp at h; simp [h], fun h => by rw [h]⟩
theorem beq_str1 (a : ByteArray) (c : UInt8) : (a.toList == [c]) = true ↔ a = ⟨#[c]⟩ := by
  have : (⟨#[c]⟩ : ByteArray).toList = [c] := ByteArray.toList_mk [c]
  have h := beq_str a ⟨#[c]⟩
  rw [this] at h; exact h
theorem beq_str1f {a : ByteArray} {c : UInt8} (h : a ≠ ⟨#[c]⟩) : (a.toList == [c]) = false := by
  rw [Bool.eq_false_iff]; intro h1; exact h ((beq_str1 a c).1 h1)
theorem beq_strf {a b : ByteArray} (h : a ≠ b) : (a.toList == b.toList) = false := by
  rw [Bool.eq_false_iff]; intro h1; exact h ((beq_str a b).1 h1)
set_option maxRecDepth 100000 in
theorem nfind_calls (names : List ByteArray) (x : ByteArray) (v : Value) (w : World) (hl : names.length ≤ 1000000000) (h : Row w 9 1 v names.length (names.map .string)) :
    Calls Try.prog 89 #[v, .string x] w fun e w' => e = .returned (.int .i64 (findP names x)) ∧ w' = w := by
  obtain ⟨A, c, rfl, hc⟩ := h.slice
  by_cases h1 : x = ⟨#[110]⟩
  · have b1 := (beq_str1 x 110).2 h1
    have HF := Lib.hid (show findP names x = 0 by subst h1; rfl)
    clear h1
    go_enter Try.func89, Try.ntmps89
    go_wp2
    go_ret
    rw [HF.out]
    exact ⟨rfl, rfl⟩
  · have b1 := beq_str1f h1
    by_cases h2 : x = ⟨#[105]⟩
    · have b2 := (beq_str1 x 105).2 h2
      have HF := Lib.hid (show findP names x = 1 by subst h2; rfl)
      clear h1 h2
      go_enter Try.func89, Try.ntmps89
      go_wp2
      go_ret
      rw [HF.out]
      exact ⟨rfl, rfl⟩
    · have b2 := beq_str1f h2
      by_cases h3 : x = ⟨#[107]⟩
      · have b3 := (beq_str1 x 107).2 h3
        have HF := Lib.hid (show findP names x = 2 by subst h3; rfl)
        clear h1 h2 h3
        go_enter Try.func89, Try.ntmps89
        go_wp2
        go_ret
        rw [HF.out]
        exact ⟨rfl, rfl⟩
      · have b3 := beq_str1f h3
        have HF := Lib.hid (show findP names x = ((idx names x).map fun (j : Nat) => (3 + (j : Int))).getD (-1) by unfold findP regOf; rw [if_neg h3, if_neg h2, if_neg h1])
        clear h1 h2 h3
        go_enter Try.func89, Try.ntmps89
        go_wp2
        go_loopw [5] (fun at_ wr => ∃ (k : Nat), at_ = .int .i64 (k : Int) ∧ k ≤ names.length ∧ Hid (idx (names.take k) x = none) ∧ wr = w) (fun a _ => names.length - (intOf a).toNat)
        case atStart => exact ⟨0, rfl, Nat.zero_le _, rfl, rfl⟩
        case round =>
          obtain ⟨k, rfl, hk, HZ, rfl⟩ := hrel
          by_cases hlt : k < names.length
          · have hlt' : ((k : Int) < (names.length : Int)) := by omega
            obtain ⟨g, c', hv, hcell, _⟩ := h.cell (j := k) (u := .string names[k]) (by simp [hlt])
            injection hv with hv _ _
            subst hv
            have hit := idx_take hlt HZ.out
            by_cases he : names[k] = x
            · have b4 := (beq_str names[k] x).2 he
              have HI := Lib.hid (hit.1 he)
              clear hit he
              go_wp2
              go_ret
              rw [HF.out, HI.out]
              exact ⟨rfl, rfl⟩
            · have b4 := beq_strf he
              have HI := Lib.hid (hit.2 he)
              clear hit he
              go_wp2
              go_roundw
              case rel => exact ⟨k + 1, by go_num, by omega, HI, trivial⟩
              case measure => simp [intOf]; omega
          · have hk' : k = names.length := by omega
            subst hk'
            have hz := HZ.out
            rw [List.take_length] at hz
            have HY := Lib.hid hz
            clear hz
            go_wp2
            go_ret
            rw [HF.out, HY.out]
            exact ⟨rfl, rfl⟩
set_option maxRecDepth 100000 in
theorem names_calls (W : World) (N : Nat) : ∀ (e : Expr) (A : Option Addr) (c : Nat), e.nodes ≤ N → Expr.rds W e.args A 0 → e.nodes ≤ 1000000000 → ∀ (w : World), Below W.heap.size W w →
    Calls Try.prog 88 #[e.val A c] w fun r w' => ∃ v, r = .returned v ∧ Row w' 9 1 v e.names.length (e.names.map .string) ∧ (∀ g, v.ownBlock = some g → w.heap.size ≤ g) ∧ Below w.heap.size w w' := by
  induction N with
  | zero => intro e A c hN; have := e.nodes_eq; omega
  | succ N ih =>
    intro e A c hN hrd hl w hB
    have hne := e.nodes_eq
    have hal := Expr.nodesL_len e.args
    have hnl := Expr.namesL_len e.args
    have HE := Lib.hid e.names_eq
    unfold Expr.val
    by_cases h2 : e.kind = 2
    · have h2' : (e.kind == 2) = true := by simp [h2]
      go_enter Try.func88, Try.ntmps88
      go_wp2
      go_ret
      rw [HE.out, if_pos h2]
      refine ⟨_, rfl, ⟨rfl, .inr ⟨_, _, #[.string e.name], rfl, blk_new1 _ _ _, Nat.le_refl _, by decide, Nat.le_refl _, rfl⟩⟩, ?_, ((Below.refl _ _).alloc (Nat.le_refl _) _).alloc (by simp) _⟩
      intro g hg
      simp [Value.ownBlock] at hg
      omega
    · have h2' : (e.kind == 2) = false := by simp [h2]
      have HE' := Lib.hid (HE.out.trans (if_neg h2))
      go_enter Try.func88, Try.ntmps88
      go_wp2
      have HBX := Lib.hid (blk_new w (.cells #[.int .i64 e.kind, .int .i64 e.num, .string e.name, .int .i64 e.op, .slice A e.args.length c] 66))
      go_loopw [3, 4] (fun v at_ wr => ∃ (k : Nat), at_ = .int .i64 (k : Int) ∧ k ≤ e.args.length ∧ Hid (Row wr 9 1 v (Expr.namesL (e.args.take k)).length ((Expr.namesL (e.args.take k)).map .string)) ∧ Hid (∀ g, v.ownBlock = some g → w.heap.size ≤ g) ∧ Below w.heap.size w wr ∧ Hid (wr.heap[w.heap.size]? = some (.cells #[.int .i64 e.kind, .int .i64 e.num, .string e.name, .int .i64 e.op, .slice A e.args.length c] 66 (0, 0)))) (fun _ a _ => e.args.length - (intOf a).toNat)
      case atStart => exact ⟨0, rfl, Nat.zero_le _, Row.nil _ _ _, fun g hg => by simp [Value.ownBlock] at hg, (Below.refl _ _).alloc (Nat.le_refl _) _, HBX⟩
      case round =>
        obtain ⟨k, rfl, hk, HR, HO, HB, HX⟩ := hrel
        clear HBX
        have b4 := blk_cell HX.out 4
        by_cases hlt : k < e.args.length
        · have hsz := Expr.nodesL_take e.args k hlt
          have hln := Expr.namesL_len (e.args.take k)
          have hl1 := Expr.names_len e.args[k]
          obtain ⟨b, o, A', c', rfl, hbW, g0, g1, g2, g3, g4, hc', hs', hrd'⟩ := Expr.at hrd (hB.trans (HB.mono hB.size)) hlt
          have hlt' : ((k : Int) < (e.args.length : Int)) := by omega
          have hI := ih e.args[k] A' c' (by omega) hrd' (by omega) wr (hB.trans (HB.mono hB.size))
          unfold Expr.val at hI
          have HS := Lib.hid (Expr.namesL_snoc e.args k hlt)
          go_wp2_with (first
            | (at_builtin; go_must (refine wpList_append_rows _ rfl _ _ 78 rfl 9 (.string ⟨#[]⟩) 1 16 Try.underlying78 info_strings rfl u3 _ _ rfl (HR.out.keep fun g hg => hb2.block g (HR.out.lt hg)) v2 _ _ rfl hr2 (row_oneS _) (by unfold maxLen; omega) (by omega) ?_); intro v3 w2 hr3 hg3 hn3)
            | (go_at_call 88; go_must (refine hI.mono ?_); rintro x w1 ⟨v2, rfl, hr2, ho2, hb2⟩))
          go_roundw
          case rel =>
            have hlt2 := blk_lt HX.out
            have hvn : u3.ownBlock ≠ some w.heap.size := HR.out.ne HX.out (by decide)
            refine ⟨k + 1, by go_num, by omega, ?_, ?_, ?_, ?_⟩
            · rw [HS.out]
              refine Lib.hid ?_
              rw [List.length_append, List.map_append]
              exact hr3
            · refine Lib.hid fun g hg => ?_
              rcases hn3 with h | h
              · exact HO.out g (h ▸ hg)
              · rw [hg] at h; have h := Option.some.inj h; have := hb2.size; have := HB.size; omega
            · have K1 : Keep (fun _ => False) w wr := ⟨HB.os, HB.tape, HB.output, HB.size, fun k hk _ => HB.block k hk⟩
              have K2 := (K1.below hb2).grown hg3 fun g hg => .inr (HO.out g hg)
              exact K2.toBelow (Nat.le_refl _) (fun _ h => h.elim)
            · exact Lib.hid ((hg3.block _ (Nat.lt_of_lt_of_le hlt2 hb2.size) (Ne.symm hvn)).trans (below_blk hb2 HX.out hlt2))
          case measure => simp [intOf]; omega
        · go_wp2
          go_ret
          have hk' : k = e.args.length := by omega
          subst hk'
          have hq := HR.out
          rw [List.take_length] at hq
          rw [HE'.out]
          exact ⟨_, rfl, hq, HO.out, HB⟩
end Go.Proofs.Ytjlnpppjkdcpkaa.My
