/- Layer 6: the document's Go functions Block, one, Slots. Conditions: the tree was there in the world W, which is kept; it has at most 10^9 nodes. -/
import Derived.Test.YtjlnpppjkdcpkaaGfNameQ
import Derived.Test.YtjlnpppjkdcpkaaGfNameW3
import Derived.Deep.RegionHeld3
import Derived.StillTactics
namespace Go.Proofs.Ytjlnpppjkdcpkaa.My
open Go.RowKit Go.Maps
/-- where a row lies that was made of another one -/
def From (w : World) (v v' : Value) : Prop := v'.ownBlock = v.ownBlock ∨ ∀ g, v'.ownBlock = some g → w.heap.size ≤ g
theorem From.refl (w : World) (v : Value) : From w v v := .inl rfl
theorem From.trans {w w1 : World} {v v1 v2 : Value} (h : From w v v1) (k : From w1 v1 v2) (hs : w.heap.size ≤ w1.heap.size) : From w v v2 := by
  rcases k with k | k
  · rcases h with h | h
    · exact .inl (k.trans h)
    · exact .inr fun g hg => h g (k ▸ hg)
  · exact .inr fun g hg => Nat.le_trans hs (k g hg)
theorem From.keep {w w1 w2 : World} {v v1 : Value} (h : From w v v1) (K : Keep (fun k => v.ownBlock = some k) w w1) (K1 : Keep (fun k => v1.ownBlock = some k) w1 w2) : Keep (fun k => v.ownBlock = some k) w w2 :=
  K.trans K1 fun k hk e => by
    rcases h with h | h
    · exact h ▸ e
    · have := h k e; omega
/-- the rows of a state -/
structure Has (W w : World) (vt vo : Value) (S : Sc) : Prop where
  names : Row w 9 1 vt S.names.length (S.names.map .string)
  out : Row w 3 1 vo S.out.length (S.out.map (.int .i64))
  ok : S.names.length ≤ 8
  young : ∀ g, vo.ownBlock = some g → W.heap.size ≤ g
theorem Has.keep {W w w' : World} {vt vo : Value} {S : Sc} (h : Has W w vt vo S) (hB : Below w.heap.size w w') : Has W w' vt vo S :=
  ⟨h.names.keep fun g hg => hB.block g (h.names.lt hg), h.out.keep fun g hg => hB.block g (h.out.lt hg), h.ok, h.young⟩
theorem Row.apart {w : World} {e e' : TypeId} {size size' n n' g : Nat} {v v' : Value} {xs xs' : List Value} (h : Row w e size v n xs) (h' : Row w e' size' v' n' xs') (hne : e ≠ e') (hg : v.ownBlock = some g) (hg' : v'.ownBlock = some g) : False := by
  rcases h.2 with ⟨rfl, _⟩ | ⟨g1, cap, cur, rfl, hc, _⟩
  · simp [Value.ownBlock] at hg
  · simp [Value.ownBlock] at hg; subst hg; exact h'.ne hc (Ne.symm hne) hg'
theorem g2 (w : World) (o : Obj) (x : ByteArray) : Row ((w.alloc o).alloc (.cells #[.string x] 9)).drew 9 1 (.slice (some ⟨w.heap.size + 1, 0, none⟩) 1 1) 1 [.string x] ∧ Row ((w.alloc (.cells #[.string x] 9)).alloc o).drew 9 1 (.slice (some ⟨w.heap.size, 0, none⟩) 1 1) 1 [.string x] :=
  ⟨(Row.laid (cs := #[.string x]) (by simp) rfl (by decide)).drewed, ((Row.laid (cs := #[.string x]) rfl rfl (by decide)).alloc o).drewed⟩
theorem g3 {w w' : World} {e : TypeId} {size n : Nat} {v : Value} {xs : List Value} {o : Option Nat} (hg : w.grownBy w' o) (h : Row w e size v n xs) (hne : v.ownBlock ≠ o) : Row w' e size v n xs :=
  h.keep fun g hk => hg.block g (h.lt hk) fun e => hne (hk.trans e)
end Go.Proofs.Ytjlnpppjkdcpkaa.My
