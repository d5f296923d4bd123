/- What stands behind a stop changes nothing a run does; rows of statements put behind one another. Conditions: the trees were there in the world W, which is kept. -/
import Derived.Test.YtjlnpppjkdcpkaaGjEvU
import Derived.Test.YtjlnpppjkdcpkaaGjNameF
namespace Go.Proofs.Ytjlnpppjkdcpkaa.My
open Go.RowKit Go.Proofs.Ytjlnpppjkdcpkaa.NumA
set_option linter.unusedVariables false
set_option linter.unusedSimpArgs false
theorem stmtsS_app (S : Sc) (b : List Stmt) : ∀ a : List Stmt, stmtsS S (a ++ b) = if (stmtsS S a).1 = 0 then stmtsS (stmtsS S a).2 b else stmtsS S a
  | [] => by simp [stmtsS]
  | x :: a => by
    rw [List.cons_append, stmtsS, stmtsS]
    by_cases h : (stmtS S x).1 = 0
    · rw [if_pos h, if_pos h, stmtsS_app]
    · rw [if_neg h, if_neg h, if_neg h]
theorem info_stmt : (Try.prog.info? 36).map (fun i => (i.zero, i.size, i.bytes)) = some (some (.agg #[.int .i64 0, .string ⟨#[]⟩, .int .i64 0, .slice none 0 0, .slice none 0 0, .slice none 0 0]), 6, 104) := by kernel_rfl
/-- append of statements that were there onto a row -/
theorem wpList_append_trees (W w : World) (hB : Below W.heap.size W w) {ops : Array Oper} {rest : List Oper} {o : Oper} {a : Act} {Q : Exit → Act → World → Prop} (hgd : o.guard = none) (s x : Operand)
    (ho : o.op = .call { callee := .builtin .append, args := #[s, x], argTypes := #[22, 22] }) (v : Value) (n : Nat) (f0 : List Value) (hown : Row w 36 6 v n f0) (l : List Stmt) (A : Option Addr) (c : Nat) (hrd : Stmt.rds W l A 0) (hl : n + l.length ≤ 100000000)
    (hs : a.eval s = v) (hx : a.eval x = .slice A l.length c)
    (h : ∀ v' w' fs, Stmt.flat W l fs → Row w' 36 6 v' (n + l.length) (f0 ++ fs) → w.grownBy w' v.ownBlock → (v'.ownBlock = v.ownBlock ∨ v'.ownBlock = some w.heap.size) → wpList Try.prog ops Q rest (a.put o.dst v') w') : wpList Try.prog ops Q (o :: rest) a w := by
  refine wpList_plain hgd fun _ hK => ?_
  obtain ⟨i, hi, hi2⟩ := Option.map_eq_some_iff.mp info_stmt
  simp only [Prod.mk.injEq] at hi2
  obtain ⟨fs, hf, hfc⟩ := Stmt.flat_of hrd
  have hfl := Stmt.flat_len hf
  obtain ⟨A0, c0, rfl, hc0⟩ := hown.slice
  have hr : ∃ v' w', (Builtin.append_ #[22, 22] o.type #[.slice A0 n c0, .slice A l.length c]).run Try.prog w = .ok v' w' ∧ Row w' 36 6 v' (n + l.length) (f0 ++ fs) ∧ w.grownBy w' (Value.slice A0 n c0).ownBlock ∧ (v'.ownBlock = (Value.slice A0 n c0).ownBlock ∨ v'.ownBlock = some w.heap.size) := by
    rcases Nat.eq_zero_or_pos l.length with h0 | h0
    · have hn : fs = [] := List.eq_nil_of_length_eq_zero (by omega)
      subst hn
      rw [h0]
      refine ⟨_, w, run_append_nothing w _ _ _ 36 i Try.underlying22 hi A0 n c0 hc0 _ (by cases A with | none => exact Src.ofNil w Try.underlying22 c | some a => exact Src.ofSlice w Try.underlying22 a 0 c [] (by simp) (by simp) (by simp)), by simpa using hown, ⟨rfl, rfl, rfl, Nat.le_refl _, fun _ _ _ => rfl⟩, .inl rfl⟩
    · obtain ⟨b, o', cs, hA, _, _⟩ := Stmt.rds_get hrd 0 h0
      subst hA
      have hr' := fun hc => run_append_row (P := Try.prog) w 22 o.type 36 i _ 6 104 Try.underlying22 hi hi2.1 hi2.2.1 hi2.2.2 rfl _ n f0 hown ⟨b, o', none⟩ l.length c fs hfl hc (Stmt.flat_one hf) h0 (by unfold maxLen; omega) (by omega)
      refine hr' fun j u hu => ?_
      have hadd : (⟨b, o', none⟩ : Addr).add j = ⟨b, o' + 0 * 6 + j, none⟩ := by unfold Addr.add; split <;> simp_all
      rw [hadd]
      exact hB.cellOf (hfc b o' rfl j u hu)
  obtain ⟨v', w', hr, h2, h3, h4⟩ := hr
  unfold Oper.wp execOp
  simp only [ho, resolve, invoke, builtin, Sem.run_bind, Sem.run_pure, Result.andThen_ok, List.map_toArray, List.map_cons, List.map_nil, hs, hx, hr]
  exact hK _ _ (h v' w' fs hf h2 h3 h4)
end Go.Proofs.Ytjlnpppjkdcpkaa.My
