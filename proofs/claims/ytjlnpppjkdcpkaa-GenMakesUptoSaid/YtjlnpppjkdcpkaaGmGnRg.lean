/- The document's register of a name, and its way through an expression. Conditions: the tree was there in the world W, which is kept. -/
import Derived.Test.YtjlnpppjkdcpkaaGmGnJ
import Derived.Test.YtjlnpppjkdcpkaaGmEvU
import Derived.Test.YtjlnpppjkdcpkaaGmNameW3
import Derived.Test.YtjlnpppjkdcpkaaGmGnI
import Derived.Test.YtjlnpppjkdcpkaaGmGnA
import Derived.Test.YtjlnpppjkdcpkaaGmGnN
import Derived.Test.YtjlnpppjkdcpkaaGmNameR
namespace Go.Proofs.Ytjlnpppjkdcpkaa.My
open Go.RowKit Go.Proofs.Ytjlnpppjkdcpkaa.NumA
set_option linter.unusedVariables false
set_option linter.unusedSimpArgs false
/-- does a letter stand in a text? -/
def hasJ (s : ByteArray) (c : Nat) : Bool := s.data.toList.any fun b => b.toNat == c
theorem any_takeJ (l : List UInt8) (c k : Nat) (h : k < l.length) (h0 : (l.take k).any (fun b => b.toNat == c) = false) : (l[k].toNat = c → l.any (fun b => b.toNat == c) = true) ∧ (l[k].toNat ≠ c → (l.take (k + 1)).any (fun b => b.toNat == c) = false) := by
  constructor
  · intro e
    rw [List.any_eq_true]
    exact ⟨l[k], List.getElem_mem h, by simp [e]⟩
  · intro e
    rw [← List.take_append_getElem h, List.any_append, h0]
    simp [e]
theorem hasJ_calls (s : ByteArray) (c : Nat) (hs : s.size ≤ 100) (w : World) : Calls Try.prog 37 #[.string s, .int .u8 (c : Int)] w fun e w' => e = .returned (.bool (hasJ s c)) ∧ w' = w := by
  have hsz : s.data.toList.length = s.size := by rw [Array.length_toList]; rfl
  go_enter Try.func37, Try.ntmps37
  go_wp2
  go_loop [5] (fun i => ∃ k : Nat, k ≤ s.size ∧ i = .int .i64 k ∧ Hid ((s.data.toList.take k).any (fun b => b.toNat == c) = false)) (fun i => s.size - (intOf i).toNat)
  case atStart => exact ⟨0, Nat.zero_le _, rfl, Lib.hid rfl⟩
  case round =>
    obtain ⟨k, hk, rfl, HK⟩ := hrel
    by_cases hlt : k < s.size
    · have ha := any_takeJ s.data.toList c k (by omega) HK.out
      have he0 : s.data.toList[k] = s[k] := rfl
      rw [he0] at ha
      by_cases he : s[k].toNat = c
      · have he' : (((s[k].toNat : Nat) : Int) == (c : Int)) = true := by simp [he]
        have HS := Lib.hid (show hasJ s c = true from ha.1 he)
        clear ha he0 he
        go_wp2
        go_ret
        rw [HS.out]
        exact ⟨rfl, rfl⟩
      · have he' : (((s[k].toNat : Nat) : Int) == (c : Int)) = false := by simp; omega
        have HS := Lib.hid (ha.2 he)
        clear ha he0 he
        go_wp2
        go_round
        case rel => exact ⟨k + 1, by omega, by go_num, HS⟩
        case measure => simp [intOf]; omega
    · have HS := Lib.hid (show hasJ s c = false by have h := HK.out; rw [List.take_of_length_le (by omega)] at h; exact h)
      go_wp2
      go_ret
      rw [HS.out]
      exact ⟨rfl, rfl⟩
def partsOf (k : Int) : ByteArray := if k = 1 then ⟨#[]⟩ else if k = 2 then ⟨#[97, 107]⟩ else if k = 3 then ⟨#[97, 98]⟩ else if k = 4 then ⟨#[112, 97, 98]⟩ else if k = 5 then ⟨#[111, 97, 98, 99]⟩ else if k = 6 then ⟨#[97, 98, 107]⟩ else if k = 7 then ⟨#[97, 98, 107]⟩ else if k = 8 then ⟨#[97, 114]⟩ else if k = 9 then ⟨#[97]⟩ else if k = 10 then ⟨#[116]⟩ else if k = 11 then ⟨#[97, 116]⟩ else if k = 12 then ⟨#[97, 116]⟩ else if k = 13 then ⟨#[97]⟩ else ⟨#[63]⟩
theorem partsOf_no {k : Int} (hk : k < 1 ∨ 13 < k) : partsOf k = ⟨#[63]⟩ := by
  unfold partsOf
  rw [if_neg (by omega), if_neg (by omega), if_neg (by omega), if_neg (by omega), if_neg (by omega), if_neg (by omega), if_neg (by omega), if_neg (by omega), if_neg (by omega), if_neg (by omega), if_neg (by omega), if_neg (by omega), if_neg (by omega)]
theorem partsOf_size (k : Int) : (partsOf k).size ≤ 100 := by
  by_cases hk : k < 1 ∨ 13 < k
  · rw [partsOf_no hk]; decide
  · have hk' : k = 1 ∨ k = 2 ∨ k = 3 ∨ k = 4 ∨ k = 5 ∨ k = 6 ∨ k = 7 ∨ k = 8 ∨ k = 9 ∨ k = 10 ∨ k = 11 ∨ k = 12 ∨ k = 13 := by omega
    rcases hk' with rfl | rfl | rfl | rfl | rfl | rfl | rfl | rfl | rfl | rfl | rfl | rfl | rfl <;> decide
theorem partsOf_t (k : Int) : hasJ (partsOf k) 116 = decide (10 ≤ k ∧ k ≤ 12) := by
  by_cases hk : k < 1 ∨ 13 < k
  · have : partsOf k = ⟨#[63]⟩ := by
      unfold partsOf
      rw [if_neg (by omega), if_neg (by omega), if_neg (by omega), if_neg (by omega), if_neg (by omega), if_neg (by omega), if_neg (by omega), if_neg (by omega), if_neg (by omega), if_neg (by omega), if_neg (by omega), if_neg (by omega), if_neg (by omega)]
    rw [this, show hasJ ⟨#[63]⟩ 116 = false by decide]
    simp; omega
  · have hk' : k = 1 ∨ k = 2 ∨ k = 3 ∨ k = 4 ∨ k = 5 ∨ k = 6 ∨ k = 7 ∨ k = 8 ∨ k = 9 ∨ k = 10 ∨ k = 11 ∨ k = 12 ∨ k = 13 := by omega
    rcases hk' with rfl | rfl | rfl | rfl | rfl | rfl | rfl | rfl | rfl | rfl | rfl | rfl | rfl <;> decide
set_option maxRecDepth 100000 in
set_option maxHeartbeats 4000000 in
theorem partsJ_calls (k : Int) (w : World) : Calls Try.prog 38 #[.int .i64 k] w fun e w' => e = .returned (.string (partsOf k)) ∧ Below w.heap.size w w' := by
  by_cases hk : k < 1 ∨ 13 < k
  · have HP := Lib.hid (show partsOf k = ⟨#[63]⟩ by
      unfold partsOf
      rw [if_neg (by omega), if_neg (by omega), if_neg (by omega), if_neg (by omega), if_neg (by omega), if_neg (by omega), if_neg (by omega), if_neg (by omega), if_neg (by omega), if_neg (by omega), if_neg (by omega), if_neg (by omega), if_neg (by omega)])
    rcases hk with hk | hk
    · go_enter Try.func38, Try.ntmps38
      go_wp2
      all_goals
        go_ret
        rw [HP.out]
        refine ⟨rfl, ?_⟩
        repeat (first | exact Below.refl _ _ | apply Below.al | apply Below.drew)
    · have hk2 : ¬ (k < 1) := by omega
      have hk3 : k > 13 := hk
      go_enter Try.func38, Try.ntmps38
      go_wp2
      all_goals
        go_ret
        rw [HP.out]
        refine ⟨rfl, ?_⟩
        repeat (first | exact Below.refl _ _ | apply Below.al | apply Below.drew)
  · have hk' : k = 1 ∨ k = 2 ∨ k = 3 ∨ k = 4 ∨ k = 5 ∨ k = 6 ∨ k = 7 ∨ k = 8 ∨ k = 9 ∨ k = 10 ∨ k = 11 ∨ k = 12 ∨ k = 13 := by omega
    rcases hk' with rfl | rfl | rfl | rfl | rfl | rfl | rfl | rfl | rfl | rfl | rfl | rfl | rfl
    all_goals
      go_enter Try.func38, Try.ntmps38
      go_wp2
      all_goals
        go_ret
        refine ⟨rfl, ?_⟩
        repeat (first | exact Below.refl _ _ | apply Below.al | apply Below.drew)
end Go.Proofs.Ytjlnpppjkdcpkaa.My
namespace Go.Proofs.Ytjlnpppjkdcpkaa.My
open Go.RowKit Go.Maps
set_option linter.unusedVariables false
set_option linter.unusedSimpArgs false
set_option maxRecDepth 100000 in
theorem dreg_calls (names : List ByteArray) (x : ByteArray) (v : Value) (w : World) (hl : names.length ≤ 1000000000) (h : Row w 9 1 v names.length (names.map .string)) :
    Calls Try.prog 90 #[v, .string x] w fun e w' => e = .returned (.int .i64 (regD names x)) ∧ w' = w := by
  obtain ⟨A, c, rfl, hc⟩ := h.slice
  by_cases h1 : x = ⟨#[110]⟩
  · have b1 := (beq_str1 x 110).2 h1
    have HF := Lib.hid (show regD names x = 0 by subst h1; rfl)
    clear h1
    go_enter Try.func90, Try.ntmps90
    go_wp2
    go_ret
    rw [HF.out]
    exact ⟨rfl, rfl⟩
  · have b1 := beq_str1f h1
    by_cases h2 : x = ⟨#[105]⟩
    · have b2 := (beq_str1 x 105).2 h2
      have HF := Lib.hid (show regD names x = 1 by subst h2; rfl)
      clear h1 h2
      go_enter Try.func90, Try.ntmps90
      go_wp2
      go_ret
      rw [HF.out]
      exact ⟨rfl, rfl⟩
    · have b2 := beq_str1f h2
      by_cases h3 : x = ⟨#[107]⟩
      · have b3 := (beq_str1 x 107).2 h3
        have HF := Lib.hid (show regD names x = 2 by subst h3; rfl)
        clear h1 h2 h3
        go_enter Try.func90, Try.ntmps90
        go_wp2
        go_ret
        rw [HF.out]
        exact ⟨rfl, rfl⟩
      · have b3 := beq_str1f h3
        have HF := Lib.hid (show regD names x = ((idx names x).map fun (j : Nat) => (3 + (j : Int))).getD 0 by unfold regD regOf; rw [if_neg h3, if_neg h2, if_neg h1])
        clear h1 h2 h3
        go_enter Try.func90, Try.ntmps90
        go_wp2
        go_loopw [5] (fun at_ wr => ∃ (k : Nat), at_ = .int .i64 (k : Int) ∧ k ≤ names.length ∧ Hid (idx (names.take k) x = none) ∧ wr = w) (fun a _ => names.length - (intOf a).toNat)
        case atStart => exact ⟨0, rfl, Nat.zero_le _, rfl, rfl⟩
        case round =>
          obtain ⟨k, rfl, hk, HZ, rfl⟩ := hrel
          by_cases hlt : k < names.length
          · have hlt' : ((k : Int) < (names.length : Int)) := by omega
            obtain ⟨g, c', hv, hcell, _⟩ := h.cell (j := k) (u := .string names[k]) (by simp [hlt])
            injection hv with hv _ _
            subst hv
            have hit := idx_take hlt HZ.out
            by_cases he : names[k] = x
            · have b4 := (beq_str names[k] x).2 he
              have HI := Lib.hid (hit.1 he)
              clear hit he
              go_wp2
              go_ret
              rw [HF.out, HI.out]
              exact ⟨rfl, rfl⟩
            · have b4 := beq_strf he
              have HI := Lib.hid (hit.2 he)
              clear hit he
              go_wp2
              go_roundw
              case rel => exact ⟨k + 1, by go_num, by omega, HI, trivial⟩
              case measure => simp [intOf]; omega
          · have hk' : k = names.length := by omega
            subst hk'
            have hz := HZ.out
            rw [List.take_length] at hz
            have HY := Lib.hid hz
            clear hz
            go_wp2
            go_ret
            rw [HF.out, HY.out]
            exact ⟨rfl, rfl⟩
theorem exprD_eq (th : List ByteArray) (t : Int) (e : Expr) : exprD th t e = if e.kind = 2 then some (regD th e.name, t, [])
    else if 16 ≤ t then none
    else if e.kind = 1 then some (t, t + 1, [⟨2, 0, t, 0, 0, e.num⟩])
    else match exprsD th t e.args with
      | none => none
      | some (vs, _, l) => some (t, t + 1, l ++ [lastOp e.kind e.op t vs]) := by cases e; rw [exprD]; rfl
theorem exprsD_one (th : List ByteArray) (t : Int) (e : Expr) : exprsD th t [e] = (exprD th t e).map fun r => ([r.1], r.2.1, r.2.2) := by
  rw [exprsD]
  cases exprD th t e with
  | none => rfl
  | some r => simp [exprsD]
theorem exprsD_two (th : List ByteArray) (t : Int) (e f : Expr) : exprsD th t [e, f] = (exprD th t e).bind fun r => (exprD th r.2.1 f).map fun q => ([r.1, q.1], q.2.1, r.2.2 ++ q.2.2) := by
  rw [exprsD]
  cases exprD th t e with
  | none => rfl
  | some r =>
    simp only [Option.bind_some]
    rw [exprsD_one]
    cases exprD th r.2.1 f with
    | none => rfl
    | some q => rfl
theorem exprD_t {th : List ByteArray} {t : Int} {e : Expr} {r : Int × Int × List Ins} (h0 : 0 ≤ t) (h1 : t ≤ 16) (h : exprD th t e = some r) : 0 ≤ r.2.1 ∧ r.2.1 ≤ 16 := by
  rw [exprD_eq] at h
  split at h
  · cases h; exact ⟨h0, h1⟩
  · split at h
    · cases h
    · split at h
      · cases h; simp only; omega
      · split at h
        · cases h
        · cases h; simp only; omega
/-- what the document's way through an expression hands back -/
def ExprDo (o : Option (Int × Int × List Ins)) (w : World) (E : Ending) (w' : World) : Prop := Below w.heap.size w w' ∧
  match o with
  | none => E = .returned (.tuple #[.slice none 0 0, .int .i64 0, .int .i64 0, .bool false])
  | some r => ∃ V, E = .returned (.tuple #[V, .int .i64 r.1, .int .i64 r.2.1, .bool true]) ∧ Row w' 42 6 V r.2.2.length (insCells r.2.2) ∧ ∀ g, V.ownBlock = some g → w.heap.size ≤ g
end Go.Proofs.Ytjlnpppjkdcpkaa.My
