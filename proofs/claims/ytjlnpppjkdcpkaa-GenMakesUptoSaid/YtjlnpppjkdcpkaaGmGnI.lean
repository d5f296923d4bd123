/- The targets in a text's instructions lie within it; plain Lean, no program in sight. -/
import Derived.Test.YtjlnpppjkdcpkaaGmGnS
import Derived.Test.YtjlnpppjkdcpkaaGmNameW3
import Derived.Test.YtjlnpppjkdcpkaaGmTrY
import Derived.Recover
import Derived.Test.YtjlnpppjkdcpkaaGmGnJ
import Derived.Test.YtjlnpppjkdcpkaaGmEvU
namespace Go.Proofs.Ytjlnpppjkdcpkaa.My
open Go.RowKit Go.Proofs.Ytjlnpppjkdcpkaa.NumA
set_option linter.unusedVariables false
set_option linter.unusedSimpArgs false
/-- a text's instructions, or the error -/
def genP (ss : List Stmt) (L : Int) : List Ins × Int :=
  if rightP nameB ss = false then ([], 43) else if (slotsP ss L).2 ≠ 0 then ([], (slotsP ss L).2)
  else match blockG ⟨[], (slotsP ss L).1⟩ ss with
    | none => ([], 100)
    | some G => if 600 < G.out.length + 1 then ([], 80) else (G.out ++ [⟨1, 0, 0, 0, 0, 0⟩], 0)
set_option maxRecDepth 100000 in
theorem gcatch_panicking (bo be : Nat) (v : Value) (e0 : Int) (w : World) (hbe : bo ≠ be) (ho : w.heap[bo]? = some (.cells #[v] 24 (0, 0))) (he : w.heap[be]? = some (.cells #[.int .i64 e0] 25 (0, 0))) :
    CallsD Try.prog 31 #[.pointer (some ⟨bo, 0, none⟩), .pointer (some ⟨be, 0, none⟩)] (.panicking [{ v := .iface 145 (.agg #[]), recovered := false }]) w fun e u' w' =>
      e = .returned (.tuple #[]) ∧ u' = .panicking [{ v := .iface 145 (.agg #[]), recovered := true }] ∧ Keep (fun q => q = bo ∨ q = be) w w' ∧ w'.heap[bo]? = some (.cells #[.slice none 0 0] 24 (0, 0)) ∧ w'.heap[be]? = some (.cells #[.int .i64 100] 25 (0, 0)) := by
  refine callsD_of_wpS Try.func31 rfl fun c₀ cs hu => ?_
  rw [show (#[.pointer (some ⟨bo, 0, none⟩), .pointer (some ⟨be, 0, none⟩)] ++ Array.replicate (Try.f31.ntmps - (#[.pointer (some ⟨bo, 0, none⟩), .pointer (some ⟨be, 0, none⟩)] : Array Value).size) undef : Array Value) = #[.pointer (some ⟨bo, 0, none⟩), .pointer (some ⟨be, 0, none⟩), undef, undef] from by kernel_rfl]
  have hne : ∀ w : World, (binOp BinOp.neq 20 (.iface 145 (.agg #[])) .nilIface).run Try.prog w = .ok (.bool true) w := fun _ => by rfl
  apply wpS_seq
  apply wpS_region
  simp [wpOpsS, go_sem, recoverD, hu, Try.ntmps31, Exit.thenS]
  refine wpS_cond (t := true) (by simp [Act.eval, Array.replicate]) ?_
  simp only [if_true]
  have q0 : w.cell? ⟨bo, 0, none⟩ = some v := blk_cell ho 0
  have q1 : w.cell? ⟨be, 0, none⟩ = some (.int .i64 e0) := blk_cell he 0
  have p0 := blk_free ho 0
  have p1 := blk_free he 0
  have HO := Lib.hid ho
  have HE := Lib.hid he
  have HU := Lib.hid hu
  clear ho he hu
  refine wpS_of_wp ?_
  go_wp2
  have hk : Keep (fun q => q = bo ∨ q = be) w ((w.setCell ⟨bo, 0, none⟩ (.slice none 0 0)).setCell ⟨be, 0, none⟩ (.int .i64 100)) :=
    Keep.set (O := fun q => q = bo ∨ q = be) (Keep.set (O := fun q => q = bo ∨ q = be) (Keep.refl _ w) (p := ⟨bo, 0, none⟩) (.inl (.inl rfl)) _) (p := ⟨be, 0, none⟩) (.inl (.inr rfl)) _
  exact ⟨rfl, _, rfl, _, results_none rfl _ _ _, rfl, rfl, hk, blk_far (blk_set HO.out 0 _) (show bo ≠ (⟨be, 0, none⟩ : Addr).block from hbe) _, blk_set (blk_far HE.out (show be ≠ (⟨bo, 0, none⟩ : Addr).block from fun e => hbe e.symm) _) 0 _⟩
theorem gcatch_idle (bo be : Nat) (w : World) :
    CallsD Try.prog 31 #[.pointer (some ⟨bo, 0, none⟩), .pointer (some ⟨be, 0, none⟩)] .returning w fun e u' w' => e = .returned (.tuple #[]) ∧ u' = .returning ∧ w' = w := by
  refine callsD_of_wpS Try.func31 rfl fun c₀ cs hu => ?_
  rw [show (#[.pointer (some ⟨bo, 0, none⟩), .pointer (some ⟨be, 0, none⟩)] ++ Array.replicate (Try.f31.ntmps - (#[.pointer (some ⟨bo, 0, none⟩), .pointer (some ⟨be, 0, none⟩)] : Array Value).size) undef : Array Value) = #[.pointer (some ⟨bo, 0, none⟩), .pointer (some ⟨be, 0, none⟩), undef, undef] from by kernel_rfl]
  have hne : ∀ w : World, (binOp BinOp.neq 20 .nilIface .nilIface).run Try.prog w = .ok (.bool false) w := fun _ => by kernel_rfl
  apply wpS_seq
  apply wpS_region
  simp [wpOpsS, go_sem, recoverD, hu, Try.ntmps31, Exit.thenS]
  refine wpS_cond (t := false) (by simp [Act.eval, Array.replicate]) ?_
  simp only [Bool.false_eq_true, if_false]
  refine wpS_of_wp (wp_skip ?_)
  exact ⟨rfl, _, (by cases c₀; simp_all), _, results_none rfl _ _ _, rfl, rfl, rfl⟩
theorem run_loadVar_one (w : World) (b : Nat) (ty : TypeId) (v : Value) (d : TypeDesc) (hc : w.cell? ⟨b, 0, none⟩ = some v) (hu : Try.prog.underlying ty = some d) (hd : d.isRow = false) : (loadVar ty ⟨b, 0, none⟩).run Try.prog w = .ok v w := by
  have hagg : (isAgg ty).run Try.prog w = .ok false w := by
    unfold isAgg
    rw [Sem.run_bind, run_underlying hu w]
    cases d <;> simp_all
  unfold loadVar
  rw [Sem.run_bind, hagg]
  simp [go_sem, hc]
theorem compile_results (tmps : Array Value) (w : World) (bo be : Nat) (v : Value) (e : Int) (h4 : tmps.getD 4 undef = .pointer (some ⟨bo, 0, none⟩)) (h5 : tmps.getD 5 undef = .pointer (some ⟨be, 0, none⟩)) (ho : w.cell? ⟨bo, 0, none⟩ = some v) (he : w.cell? ⟨be, 0, none⟩ = some (.int .i64 e)) :
    (results Try.f13 tmps).run Try.prog w = .ok (.tuple #[v, .int .i64 e]) w := by
  have h4' : tmps[4]?.getD undef = .pointer (some ⟨bo, 0, none⟩) := by simpa using h4
  have h5' : tmps[5]?.getD undef = .pointer (some ⟨be, 0, none⟩) := by simpa using h5
  have r1 := run_loadVar_one w bo 24 v _ ho Try.underlying24 rfl
  have r2 := run_loadVar_one w be 25 (.int .i64 e) _ he Try.underlying25 rfl
  simp [results, show Try.f13.results = #[.cell 4 24, .cell 5 25] from rfl, h4', h5', asAddr, r1, r2]
theorem look_use {S : Sc} {x : ByteArray} (h : (look S x).1 = 0) : (look S x).2.out.length = S.out.length + 1 := by
  unfold look at h ⊢
  cases hr : regOf S.names x with
  | none => rw [hr] at h; simp at h
  | some r => simp
mutual
theorem exprS_use : ∀ (e : Expr) (S : Sc), (exprS S e).1 = 0 → (exprS S e).2.out.length = S.out.length + e.useN
  | .mk k n s o la, S, h => by
    rw [exprS] at h ⊢
    rw [Expr.useN]
    by_cases hk : k = 2
    · rw [if_pos hk] at h ⊢; rw [if_pos hk]; exact look_use h
    · rw [if_neg hk] at h ⊢; rw [if_neg hk]; exact exprsS_use la S h
theorem exprsS_use : ∀ (l : List Expr) (S : Sc), (exprsS S l).1 = 0 → (exprsS S l).2.out.length = S.out.length + Expr.useL l
  | [], S, h => by simp [exprsS, Expr.useL]
  | e :: l, S, h => by
    rw [exprsS] at h ⊢
    by_cases h1 : (exprS S e).1 = 0
    · rw [if_pos h1] at h ⊢
      rw [exprsS_use l _ h, exprS_use e S h1, Expr.useL]; omega
    · rw [if_neg h1] at h; exact absurd h h1
end
theorem kindS_use {S : Sc} {k : Int} {x : ByteArray} {c : Int} (h : (kindS S k x c).1 = 0) : (kindS S k x c).2.out.length = S.out.length + (if k = 1 ∨ k = 2 then 1 else 0) := by
  unfold kindS at h ⊢
  by_cases h1 : k = 1
  · rw [if_pos h1] at h ⊢
    rw [if_pos (.inl h1)]
    unfold declare at h ⊢
    split at h
    · simp at h
    · rename_i b1
      rw [if_neg b1]
      split at h
      · simp at h
      · rename_i b2
        rw [if_neg b2]
        exact look_use h
  · rw [if_neg h1] at h ⊢
    by_cases h2 : k = 2
    · rw [if_pos h2] at h ⊢
      rw [if_pos (.inr h2)]
      exact look_use h
    · have hn : ¬ (k = 1 ∨ k = 2) := by simp [h1, h2]
      rw [if_neg hn, if_neg h2]
      split <;> simp
theorem gblockS_one (T : Sc) (l : List Stmt) : (blockS T l).1 = (stmtsS T l).1 := by rw [blockS]
theorem gblockS_out (T : Sc) (l : List Stmt) : (blockS T l).2.out = (stmtsS T l).2.out := by rw [blockS]
mutual
theorem stmtS_use : ∀ (s : Stmt) (S : Sc), (stmtS S s).1 = 0 → (stmtS S s).2.out.length = S.out.length + s.useN
  | .mk k nm c la lb le, S, h => by
    rw [stmtS] at h ⊢
    rw [Stmt.useN]
    by_cases h1 : (exprsS S la).1 = 0
    · rw [if_pos h1] at h ⊢
      simp only at h ⊢
      by_cases h2 : (kindS (exprsS S la).2 k nm c).1 = 0
      · rw [if_pos h2] at h ⊢
        by_cases h3 : (blockS (kindS (exprsS S la).2 k nm c).2 lb).1 = 0
        · rw [if_pos h3] at h ⊢
          have e3 := stmtsS_use lb _ (by rw [← gblockS_one]; exact h3)
          have e4 := stmtsS_use le _ (by rw [← gblockS_one]; exact h)
          rw [gblockS_out, e4, gblockS_out, e3, kindS_use h2, exprsS_use la S h1]; omega
        · rw [if_neg h3] at h; exact absurd h h3
      · rw [if_neg h2] at h; exact absurd h h2
    · rw [if_neg h1] at h; exact absurd h h1
theorem stmtsS_use : ∀ (l : List Stmt) (S : Sc), (stmtsS S l).1 = 0 → (stmtsS S l).2.out.length = S.out.length + Stmt.useL l
  | [], S, h => by simp [stmtsS, Stmt.useL]
  | s :: l, S, h => by
    rw [stmtsS] at h ⊢
    by_cases h1 : (stmtS S s).1 = 0
    · rw [if_pos h1] at h ⊢
      rw [stmtsS_use l _ h, stmtS_use s S h1, Stmt.useL]; omega
    · rw [if_neg h1] at h; exact absurd h h1
end
theorem slots_use {ss : List Stmt} {L : Int} (h : (slotsP ss L).2 = 0) : (slotsP ss L).1.length = Stmt.useL ss := by
  unfold slotsP at h ⊢
  by_cases h0 : (stmtsS ⟨[], [], 0, L⟩ ss).1 = 0
  · rw [if_pos h0]
    have := stmtsS_use ss _ h0
    simpa using this
  · rw [if_neg h0] at h; exact absurd h h0
end Go.Proofs.Ytjlnpppjkdcpkaa.My
namespace Go.Proofs.Ytjlnpppjkdcpkaa.My
open Go.RowKit
set_option linter.unusedVariables false
set_option linter.unusedSimpArgs false
/-- each target lies from 0 to n -/
def Tgt (n : Nat) (l : List Ins) : Prop := ∀ x ∈ l, 10 ≤ x.kind ∧ x.kind ≤ 12 → 0 ≤ x.n ∧ x.n ≤ n
theorem Tgt.of_far {n : Nat} {l : List Ins} (h : ∀ x ∈ l, ¬ (10 ≤ x.kind ∧ x.kind ≤ 12)) : Tgt n l := fun x hx hk => absurd hk (h x hx)
theorem Tgt.mono {m n : Nat} {l : List Ins} (h : Tgt m l) (hmn : m ≤ n) : Tgt n l := fun x hx hk => by have := h x hx hk; omega
theorem Tgt.app {n : Nat} {l m : List Ins} (h : Tgt n l) (k : Tgt n m) : Tgt n (l ++ m) := fun x hx hk => by
  rcases List.mem_append.1 hx with hx | hx
  · exact h x hx hk
  · exact k x hx hk
theorem Tgt.cons {n : Nat} {x : Ins} {l : List Ins} (hx : 10 ≤ x.kind ∧ x.kind ≤ 12 → 0 ≤ x.n ∧ x.n ≤ n) (h : Tgt n l) : Tgt n (x :: l) := fun y hy hk => by
  rcases List.mem_cons.1 hy with rfl | hy
  · exact hx hk
  · exact h y hy hk
theorem Tgt.nil (n : Nat) : Tgt n [] := fun x hx => by simp at hx
theorem Tgt.moved {n : Nat} {l : List Ins} (h : Tgt n l) (d : Nat) : Tgt (n + d) (l.map (mv d)) := fun x hx hk => by
  obtain ⟨y, hy, rfl⟩ := List.mem_map.1 hx
  rw [mv_kind] at hk
  have := h y hy hk
  simp only [mv, if_pos hk]
  omega
end Go.Proofs.Ytjlnpppjkdcpkaa.My
