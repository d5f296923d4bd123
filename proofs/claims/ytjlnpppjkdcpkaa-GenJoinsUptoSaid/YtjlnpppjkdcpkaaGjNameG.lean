/- Layer 7: the guards Great, Right: they end with a truth value and keep what was there. Conditions: the tree was there in the world W, which is kept. -/
import Derived.Test.YtjlnpppjkdcpkaaGjNameQ
import Derived.Test.YtjlnpppjkdcpkaaGjNameW3
import Derived.Deep.RegionHeld3
import Derived.StillTactics
namespace Go.Proofs.Ytjlnpppjkdcpkaa.My
open Go.RowKit Go.Maps
theorem beq_str (a b : ByteArray) : (a.toList == b.toList) = true ↔ a = b := by
  rw [beq_iff_eq]
  exact ⟨fun h => by rw [ByteArray.toList_eq, ByteArray.toList_eq] at h; cases a; cases b; simp at h; simp [h], fun h => by rw [h]⟩
theorem beq_strf {a b : ByteArray} (h : a ≠ b) : (a.toList == b.toList) = false := by
  rw [Bool.eq_false_iff]; intro h1; exact h ((beq_str a b).1 h1)
end Go.Proofs.Ytjlnpppjkdcpkaa.My
namespace Go.Proofs.Ytjlnpppjkdcpkaa.My
open Go.RowKit Go.Maps
/-- where a row lies that was made of another one -/
def From (w : World) (v v' : Value) : Prop := v'.ownBlock = v.ownBlock ∨ ∀ g, v'.ownBlock = some g → w.heap.size ≤ g
theorem From.refl (w : World) (v : Value) : From w v v := .inl rfl
theorem From.trans {w w1 : World} {v v1 v2 : Value} (h : From w v v1) (k : From w1 v1 v2) (hs : w.heap.size ≤ w1.heap.size) : From w v v2 := by
  rcases k with k | k
  · rcases h with h | h
    · exact .inl (k.trans h)
    · exact .inr fun g hg => h g (k ▸ hg)
  · exact .inr fun g hg => Nat.le_trans hs (k g hg)
theorem From.keep {w w1 w2 : World} {v v1 : Value} (h : From w v v1) (K : Keep (fun k => v.ownBlock = some k) w w1) (K1 : Keep (fun k => v1.ownBlock = some k) w1 w2) : Keep (fun k => v.ownBlock = some k) w w2 :=
  K.trans K1 fun k hk e => by
    rcases h with h | h
    · exact h ▸ e
    · have := h k e; omega
/-- the rows of a state -/
structure Has (W w : World) (vt vo : Value) (S : Sc) : Prop where
  names : Row w 9 1 vt S.names.length (S.names.map .string)
  out : Row w 3 1 vo S.out.length (S.out.map (.int .i64))
  ok : S.names.length ≤ 8
  young : ∀ g, vo.ownBlock = some g → W.heap.size ≤ g
theorem Has.keep {W w w' : World} {vt vo : Value} {S : Sc} (h : Has W w vt vo S) (hB : Below w.heap.size w w') : Has W w' vt vo S :=
  ⟨h.names.keep fun g hg => hB.block g (h.names.lt hg), h.out.keep fun g hg => hB.block g (h.out.lt hg), h.ok, h.young⟩
theorem Row.apart {w : World} {e e' : TypeId} {size size' n n' g : Nat} {v v' : Value} {xs xs' : List Value} (h : Row w e size v n xs) (h' : Row w e' size' v' n' xs') (hne : e ≠ e') (hg : v.ownBlock = some g) (hg' : v'.ownBlock = some g) : False := by
  rcases h.2 with ⟨rfl, _⟩ | ⟨g1, cap, cur, rfl, hc, _⟩
  · simp [Value.ownBlock] at hg
  · simp [Value.ownBlock] at hg; subst hg; exact h'.ne hc (Ne.symm hne) hg'
theorem g2 (w : World) (o : Obj) (x : ByteArray) : Row ((w.alloc o).alloc (.cells #[.string x] 9)).drew 9 1 (.slice (some ⟨w.heap.size + 1, 0, none⟩) 1 1) 1 [.string x] ∧ Row ((w.alloc (.cells #[.string x] 9)).alloc o).drew 9 1 (.slice (some ⟨w.heap.size, 0, none⟩) 1 1) 1 [.string x] :=
  ⟨(Row.laid (cs := #[.string x]) (by simp) rfl (by decide)).drewed, ((Row.laid (cs := #[.string x]) rfl rfl (by decide)).alloc o).drewed⟩
theorem g3 {w w' : World} {e : TypeId} {size n : Nat} {v : Value} {xs : List Value} {o : Option Nat} (hg : w.grownBy w' o) (h : Row w e size v n xs) (hne : v.ownBlock ≠ o) : Row w' e size v n xs :=
  h.keep fun g hk => hg.block g (h.lt hk) fun e => hne (hk.trans e)
end Go.Proofs.Ytjlnpppjkdcpkaa.My
namespace Go.Proofs.Ytjlnpppjkdcpkaa.My
open Go.RowKit Go.Maps
/-- a truth value, and what was there is kept -/
def AnyB (w : World) (e : Ending) (w' : World) : Prop := ∃ b, e = .returned (.bool b) ∧ Below w.heap.size w w'
def words : List ByteArray := [⟨#[109]⟩, ⟨#[105, 102]⟩, ⟨#[118, 97, 114]⟩, ⟨#[109, 105, 110]⟩, ⟨#[109, 97, 120]⟩, ⟨#[101, 108, 115, 101]⟩, ⟨#[101, 109, 105, 116]⟩, ⟨#[105, 110, 116, 111]⟩, ⟨#[102, 97, 105, 108]⟩, ⟨#[115, 116, 111, 112]⟩, ⟨#[119, 104, 105, 108, 101]⟩]
end Go.Proofs.Ytjlnpppjkdcpkaa.My
namespace Go.Proofs.Ytjlnpppjkdcpkaa.My
open Go.RowKit Go.Maps
set_option maxRecDepth 100000 in
theorem count_calls (W : World) (N : Nat) : ∀ (e : Expr) (A : Option Addr) (c : Nat), e.nodes ≤ N → Expr.rds W e.args A 0 → e.nodes ≤ 1000000000 → ∀ (w : World), Below W.heap.size W w →
    Calls Try.prog 45 #[e.val A c] w fun r w' => ∃ x, r = .returned (.int .i64 x) ∧ Below w.heap.size w w' := by
  induction N with
  | zero => intro e A c hN; have := e.nodes_eq; omega
  | succ N ih =>
    intro e A c hN hrd hl w hB
    have hal := Expr.nodesL_len e.args
    have hne := e.nodes_eq
    unfold Expr.val
    go_enter Try.func45, Try.ntmps45
    go_wp2
    have HBX := Lib.hid (blk_new w (.cells #[.int .i64 e.kind, .int .i64 e.num, .string e.name, .int .i64 e.op, .slice A e.args.length c] 66))
    go_loopw [3, 4] (fun v at_ wr => ∃ (k : Nat) (x : Int), at_ = .int .i64 (k : Int) ∧ v = .int .i64 x ∧ k ≤ e.args.length ∧ Below w.heap.size w wr ∧ Hid (wr.heap[w.heap.size]? = some (.cells #[.int .i64 e.kind, .int .i64 e.num, .string e.name, .int .i64 e.op, .slice A e.args.length c] 66 (0, 0)))) (fun _ a _ => e.args.length - (intOf a).toNat)
    case atStart => exact ⟨0, 1, rfl, rfl, Nat.zero_le _, (Below.refl _ _).alloc (Nat.le_refl _) _, HBX⟩
    case round =>
      obtain ⟨k, x, rfl, rfl, hk, HB, HX⟩ := hrel
      clear HBX
      have b4 := blk_cell HX.out 4
      by_cases hlt : k < e.args.length
      · have hsz := Expr.nodesL_take e.args k hlt
        obtain ⟨b, o, A', c', rfl, hbW, g0, g1, g2, g3, g4, hc', hs', hrd'⟩ := Expr.at hrd (hB.trans (HB.mono hB.size)) hlt
        have hlt' : ((k : Int) < (e.args.length : Int)) := by omega
        have hI := ih e.args[k] A' c' (by omega) hrd' (by omega) wr (hB.trans (HB.mono hB.size))
        unfold Expr.val at hI
        go_wp2_with (go_at_call 45; go_must (refine hI.mono ?_); rintro y w1 ⟨z, rfl, hb⟩)
        go_roundw
        case rel => exact ⟨k + 1, _, by go_num, rfl, by omega, HB.trans (hb.mono HB.size), Lib.hid (below_blk hb HX.out (blk_lt HX.out))⟩
        case measure => simp [intOf]; omega
      · go_wp2
        go_ret
        exact ⟨_, rfl, HB⟩
end Go.Proofs.Ytjlnpppjkdcpkaa.My
