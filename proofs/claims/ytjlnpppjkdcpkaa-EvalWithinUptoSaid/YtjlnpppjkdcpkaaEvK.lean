/- Names that have registers are found by a run: it is out of ticks only when they are spent. Bounds: what ends with a lesser one. Conditions: the tree was there in the world W, which is kept. -/
import Derived.Test.YtjlnpppjkdcpkaaEvU
import Derived.Test.YtjlnpppjkdcpkaaNameQ
namespace Go.Proofs.Ytjlnpppjkdcpkaa.My
open Go.RowKit Go.Proofs.Ytjlnpppjkdcpkaa.NumA
set_option linter.unusedVariables false
set_option linter.unusedSimpArgs false
def baseN : List ByteArray := [⟨#[110]⟩, ⟨#[105]⟩, ⟨#[107]⟩]
theorem lastIdx_mem {x : ByteArray} : ∀ {l : List ByteArray}, x ∈ l → ∃ i, lastIdx l x = some i
  | y :: l, h => by
    rw [lastIdx]
    cases hl : lastIdx l x with
    | some k => exact ⟨_, rfl⟩
    | none =>
      rcases List.mem_cons.1 h with e | e
      · subst e; exact ⟨0, by simp⟩
      · obtain ⟨i, hi⟩ := lastIdx_mem e; rw [hl] at hi; cases hi
theorem regOf_found {T : List ByteArray} {x : ByteArray} (h : regOf T x ≠ none) : ∃ i, lastIdx (baseN ++ T) x = some i := by
  refine lastIdx_mem ?_
  unfold regOf at h
  split at h
  · rename_i e; subst e; simp [baseN]
  · split at h
    · rename_i e; subst e; simp [baseN]
    · split at h
      · rename_i e; subst e; simp [baseN]
      · by_cases hx : x ∈ T
        · simp [hx]
        · rw [idx_none.2 hx] at h; simp at h
theorem look_found {T : Sc} {x : ByteArray} (h : (look T x).1 = 0) : ∃ i, lastIdx (baseN ++ T.names) x = some i := by
  refine regOf_found fun e => ?_
  rw [look, e] at h
  simp at h
mutual
theorem exprV_found {S : Ev} : ∀ (e : Expr) (T : Sc), S.names = baseN ++ T.names → (exprS T e).1 = 0 → ∀ v, exprV S e ≠ .left 0 v
  | .mk k n s o la => by
    intro T hT h v hv
    rw [exprS] at h
    rw [exprV] at hv
    split at hv
    · cases hv
    · split at hv
      · rename_i h2
        rw [if_pos h2] at h
        obtain ⟨i, hi⟩ := look_found h
        rw [nameV, hT, hi] at hv
        cases hv
      · rename_i h2
        rw [if_neg h2] at h
        have ih := exprsV_found la T hT h
        split at hv
        · rename_i w u hw
          injection hv with e1 e2
          subst e1
          exact ih _ hw
        · split at hv
          · unfold memV at hv; split at hv <;> simp at hv
          · split at hv
            · cases hv
            · unfold twoV at hv; split at hv <;> simp at hv
theorem exprsV_found {S : Ev} : ∀ (l : List Expr) (T : Sc), S.names = baseN ++ T.names → (exprsS T l).1 = 0 → ∀ v, exprsV S l ≠ .left 0 v
  | [] => by intro T _ _ v hv; rw [exprsV] at hv; cases hv
  | e :: l => by
    intro T hT h v hv
    rw [exprsS] at h
    by_cases h1 : (exprS T e).1 = 0
    · rw [if_pos h1] at h
      rw [exprsV] at hv
      split at hv
      · rename_i a b hw
        injection hv with e1 e2
        subst e1
        exact exprV_found e T hT h1 _ hw
      · split at hv
        · rename_i a b hw
          injection hv with e1 e2
          subst e1
          exact exprsV_found l (exprS T e).2 (by rw [exprS_names]; exact hT) h _ hw
        · cases hv
    · rw [if_neg h1] at h; exact absurd h h1
end
theorem blockS_one (T : Sc) (l : List Stmt) : (blockS T l).1 = (stmtsS T l).1 := by rw [blockS]
def Task.known (T : Sc) : Task → Prop
  | .stmt s => (stmtS T s).1 = 0
  | .seq l => (stmtsS T l).1 = 0
  | .block l => (blockS T l).1 = 0
  | .loop s => (exprsS T s.args).1 = 0 ∧ ∃ T' : Sc, T'.names = T.names ∧ (blockS T' s.body).1 = 0
def Task.after (T : Sc) : Task → List ByteArray
  | .stmt s => (stmtS T s).2.names
  | .seq l => (stmtsS T l).2.names
  | .block _ => T.names
  | .loop _ => T.names
theorem stmtS_ok {T : Sc} {s : Stmt} (h : (stmtS T s).1 = 0) : (exprsS T s.args).1 = 0 ∧ (kindS (exprsS T s.args).2 s.kind s.name s.cell).1 = 0 ∧ (blockS (kindS (exprsS T s.args).2 s.kind s.name s.cell).2 s.body).1 = 0 ∧ (blockS (blockS (kindS (exprsS T s.args).2 s.kind s.name s.cell).2 s.body).2 s.els).1 = 0 ∧
    (stmtS T s).2.names = (kindS (exprsS T s.args).2 s.kind s.name s.cell).2.names := by
  cases s with
  | mk k s c la lb le =>
    rw [stmtS] at h ⊢
    by_cases h1 : (exprsS T la).1 = 0
    · rw [if_pos h1] at h ⊢
      simp only at h ⊢
      by_cases h2 : (kindS (exprsS T la).2 k s c).1 = 0
      · rw [if_pos h2] at h ⊢
        by_cases h3 : (blockS (kindS (exprsS T la).2 k s c).2 lb).1 = 0
        · rw [if_pos h3] at h ⊢
          exact ⟨h1, h2, h3, h, by rw [blockS_same, blockS_same]; rfl⟩
        · rw [if_neg h3] at h; exact absurd h h3
      · rw [if_neg h2] at h; exact absurd h h2
    · rw [if_neg h1] at h; exact absurd h h1
theorem kindS_other {T : Sc} {k : Int} {x : ByteArray} {c : Int} (hk : k ≠ 1) : (kindS T k x c).2.names = T.names := by
  unfold kindS
  rw [if_neg hk]
  split
  · exact look_names T x
  · split <;> rfl
theorem back_names {S S' : Ev} {T : Sc} {l : List Stmt} (hS : S.names = baseN ++ T.names) (h : S'.names = baseN ++ (stmtsS T l).2.names) : (S'.back S.names.length).names = baseN ++ T.names := by
  show S'.names.take S.names.length = _
  rw [h, hS]
  obtain ⟨m, hm⟩ := stmtsS_prefix T l
  rw [← hm, ← List.append_assoc, List.take_left']
  rfl
theorem doV_names {S : Ev} {s : Stmt} {a b : Int} (hk : s.kind ≠ 1) : (doV S s a b).1.names = S.names := by
  unfold doV
  rw [if_neg hk]
  repeat' split
  all_goals rfl
theorem doV_known {S : Ev} {s : Stmt} {a b v : Int} (h : ∃ i, s.kind = 2 → lastIdx S.names s.name = some i) : (doV S s a b).2 ≠ some (0, v) := by
  obtain ⟨i, hi⟩ := h
  unfold doV
  by_cases h1 : s.kind = 1
  · rw [if_pos h1]; simp
  rw [if_neg h1]
  by_cases h2 : s.kind = 2
  · rw [if_pos h2, hi h2]; simp
  rw [if_neg h2]
  repeat' split
  all_goals simp
/-- names that have registers are found; it is out of ticks only when they are spent -/
theorem Does.known {B : Int} {t : Task} {S S' : Ev} {o : Option (Int × Int)} (h : Does B t S S' o) : ∀ T : Sc, S.names = baseN ++ T.names → t.known T → (o = none → S'.names = baseN ++ t.after T) ∧ ∀ v, o = some (0, v) → S'.ticks = B := by
  induction h with
  | nil => exact fun T hT _ => ⟨fun _ => by simpa [Task.after, stmtsS] using hT, fun v hv => by cases hv⟩
  | @first s l S S' x _ ih =>
    intro T hT hk
    simp only [Task.known, stmtsS] at hk
    by_cases h1 : (stmtS T s).1 = 0
    · exact ⟨fun e => (by cases e), (ih T hT h1).2⟩
    · rw [if_neg h1] at hk; exact absurd hk h1
  | @next s l S S' S'' o _ _ ih1 ih2 =>
    intro T hT hk
    simp only [Task.known, stmtsS] at hk
    by_cases h1 : (stmtS T s).1 = 0
    · rw [if_pos h1] at hk
      have hS' := (ih1 T hT h1).1 rfl
      have h2 := ih2 (stmtS T s).2 hS' hk
      refine ⟨fun e => ?_, h2.2⟩
      have := h2.1 e
      simp only [Task.after, stmtsS] at this ⊢
      rw [if_pos h1]; exact this
    · rw [if_neg h1] at hk; exact absurd hk h1
  | @block l S S' _ ih =>
    intro T hT hk
    have h1 := ih T hT (by simp only [Task.known] at hk ⊢; rw [blockS_one] at hk; exact hk)
    exact ⟨fun _ => back_names hT (h1.1 rfl), fun v hv => by cases hv⟩
  | @blockLeft l S S' x _ ih =>
    intro T hT hk
    exact ⟨fun e => (by cases e), (ih T hT (by simp only [Task.known] at hk ⊢; rw [blockS_one] at hk; exact hk)).2⟩
  | @loops s S S' o h7 _ ih =>
    intro T hT hk
    obtain ⟨a1, a2, a3, a4, a5⟩ := stmtS_ok hk
    have hn : (kindS (exprsS T s.args).2 s.kind s.name s.cell).2.names = T.names := by rw [kindS_other (by rw [h7]; decide), exprsS_names]
    have h1 := ih T hT ⟨a1, _, hn, a3⟩
    refine ⟨fun e => ?_, h1.2⟩
    have := h1.1 e
    simp only [Task.after] at this ⊢
    rw [a5, hn]; exact this
  | spent _ hB => exact fun T hT hk => ⟨fun e => (by cases e), fun v hv => hB⟩
  | @fell s S h v h7 hB hv =>
    intro T hT hk
    obtain ⟨a1, _⟩ := stmtS_ok hk
    refine ⟨fun e => (by cases e), fun u hu => ?_⟩
    simp only [Option.some.injEq, Prod.mk.injEq] at hu
    obtain ⟨e1, e2⟩ := hu
    subst e1
    exact absurd hv (exprsV_found (S := S.tick) s.args T hT a1 v)
  | @does s S vs h7 h6 hB hv =>
    intro T hT hk
    obtain ⟨a1, a2, a3, a4, a5⟩ := stmtS_ok hk
    refine ⟨fun _ => ?_, fun v hd => ?_⟩
    · simp only [Task.after]
      rw [a5]
      by_cases h1 : s.kind = 1
      · have hd : kindS (exprsS T s.args).2 s.kind s.name s.cell = declare (exprsS T s.args).2 s.name := by unfold kindS; rw [if_pos h1]
        rw [hd] at a2 ⊢
        unfold declare at a2 ⊢
        by_cases b1 : (regOf (exprsS T s.args).2.names s.name).isSome = true
        · rw [if_pos b1] at a2; simp at a2
        · rw [if_neg b1] at a2 ⊢
          by_cases b2 : (exprsS T s.args).2.names.length = 8
          · rw [if_pos b2] at a2; simp at a2
          · rw [if_neg b2, look_names]
            simp only [doV, if_pos h1]
            show S.names ++ [s.name] = _
            rw [hT, exprsS_names, List.append_assoc]
      · rw [doV_names h1, kindS_other h1, exprsS_names]
        exact hT
    · refine absurd hd (doV_known ?_)
      by_cases h2 : s.kind = 2
      · have hd : kindS (exprsS T s.args).2 s.kind s.name s.cell = look (exprsS T s.args).2 s.name := by unfold kindS; rw [if_neg (by omega), if_pos h2]
        rw [hd] at a2
        obtain ⟨i, hi⟩ := look_found a2
        rw [exprsS_names] at hi
        exact ⟨i, fun _ => by show lastIdx S.names s.name = _; rw [hT]; exact hi⟩
      · exact ⟨0, fun h => absurd h h2⟩
  | @thn s S S' o vs h6 hB hv h0 _ ih =>
    intro T hT hk
    obtain ⟨a1, a2, a3, a4, a5⟩ := stmtS_ok hk
    have hn : (kindS (exprsS T s.args).2 s.kind s.name s.cell).2.names = T.names := by rw [kindS_other (by rw [h6]; decide), exprsS_names]
    have h1 := ih _ (show S.tick.names = baseN ++ (kindS (exprsS T s.args).2 s.kind s.name s.cell).2.names by rw [hn]; exact hT) a3
    refine ⟨fun e => ?_, h1.2⟩
    have := h1.1 e
    simp only [Task.after] at this ⊢
    rw [a5]; exact this
  | @els s S S' o vs h6 hB hv h0 _ ih =>
    intro T hT hk
    obtain ⟨a1, a2, a3, a4, a5⟩ := stmtS_ok hk
    have hn : (kindS (exprsS T s.args).2 s.kind s.name s.cell).2.names = T.names := by rw [kindS_other (by rw [h6]; decide), exprsS_names]
    have h1 := ih _ (show S.tick.names = baseN ++ (blockS (kindS (exprsS T s.args).2 s.kind s.name s.cell).2 s.body).2.names by rw [blockS_same, hn]; exact hT) a4
    refine ⟨fun e => ?_, h1.2⟩
    have := h1.1 e
    simp only [Task.after] at this ⊢
    rw [a5]; rw [blockS_same] at this; exact this
  | loopSpent hB => exact fun T hT hk => ⟨fun e => (by cases e), fun v hv => hB⟩
  | @loopFell s S h v hB hv =>
    intro T hT hk
    refine ⟨fun e => (by cases e), fun u hu => ?_⟩
    simp only [Option.some.injEq, Prod.mk.injEq] at hu
    obtain ⟨e1, e2⟩ := hu
    subst e1
    exact absurd hv (exprsV_found (S := S.tick) s.args T hT hk.1 v)
  | loopEnd _ _ _ => exact fun T hT hk => ⟨fun _ => hT, fun v hv => by cases hv⟩
  | @loopLeft s S S' x vs hB hv h0 _ ih =>
    intro T hT hk
    obtain ⟨T', hn, hb⟩ := hk.2
    exact ⟨fun e => (by cases e), (ih T' (by rw [hn]; exact hT) hb).2⟩
  | @again s S S' S'' o vs hB hv h0 _ _ ih1 ih2 =>
    intro T hT hk
    obtain ⟨T', hn, hb⟩ := hk.2
    have h1 := (ih1 T' (by rw [hn]; exact hT) hb).1 rfl
    simp only [Task.after] at h1
    rw [hn] at h1
    exact ih2 T h1 hk
/-- with a lesser bound: what has ended is the same; else it is a beginning -/
theorem bounds_plain {ss : List Stmt} {L : Int} {mem : List Int} {n i k A B : Int} {r1 r2 : Res} (hA : 0 ≤ A) (hAB : A ≤ B) (hB : B ≤ 20000) (h1 : Ran ss L mem n i k A r1) (h2 : Ran ss L mem n i k B r2) : r1.code = r2.code ∧ (r1.code = 0 → (r1.ov ≠ 0 → r1 = r2) ∧ (r1.ov = 0 → r1.st = A ∧ A ≤ r2.st ∧ r1.S.outs <+: r2.S.outs ∧ r1.S.intos <+: r2.S.intos)) := by
  have he : runErr ss L mem.length A = runErr ss L mem.length B := by
    unfold runErr
    repeat' split
    all_goals first | rfl | omega
  rcases h1 with ⟨e1, c1, o1, d1, a1, b1, t1⟩ | ⟨e1, rfl⟩
  · rcases h2 with ⟨e2, c2, o2, d2, a2, b2, t2⟩ | ⟨e2, rfl⟩
    · refine ⟨by rw [c1, c2], fun _ => ?_⟩
      have hs : (slotsP ss L).2 = 0 := by
        unfold runErr at e1
        by_cases hr : rightP nameB ss = false
        · rw [if_pos hr] at e1; omega
        · rw [if_neg hr] at e1
          by_cases hs : (slotsP ss L).2 = 0
          · exact hs
          · rw [if_pos hs] at e1; exact absurd e1 hs
      have hk : (blockS ⟨[], [], 0, L⟩ ss).1 = 0 := by
        rw [blockS_one]
        unfold slotsP at hs
        by_cases h0 : (stmtsS ⟨[], [], 0, L⟩ ss).1 = 0
        · exact h0
        · rw [if_neg h0] at hs; exact absurd hs h0
      have hspent := (d1.known ⟨[], [], 0, L⟩ (by simp [startS, baseN]) hk).2
      have hsame : Does B (.block ss) (startS mem n i k) r1.S o1 → r1 = r2 := by
        intro h
        obtain ⟨S1, ov1, va1, st1, code1⟩ := r1
        obtain ⟨S2, ov2, va2, st2, code2⟩ := r2
        simp only at c1 d1 a1 b1 t1 c2 d2 a2 b2 t2 h
        obtain ⟨hS, ho⟩ := h.same d2
        subst hS; subst ho
        rw [c1, a1, b1, t1, c2, a2, b2, t2]
      rcases d1.more hAB (show (startS mem n i k).ticks ≤ A from hA) with h | ⟨ho, ht, hp⟩
      · have hr := hsame h
        refine ⟨fun _ => hr, fun h0 => ?_⟩
        have ho : ∃ v, o1 = some (0, v) := by
          rw [a1] at h0
          cases o1 with
          | none => simp [howE] at h0
          | some x => obtain ⟨x1, x2⟩ := x; simp only [howE] at h0; subst h0; exact ⟨x2, rfl⟩
        obtain ⟨v, ho⟩ := ho
        have hst : r1.st = A := by rw [t1]; exact hspent v ho
        refine ⟨hst, ?_, ?_, ?_⟩
        · rw [← hr, hst]; exact Int.le_refl _
        · rw [hr]; exact List.prefix_rfl
        · rw [hr]; exact List.prefix_rfl
      · refine ⟨fun h0 => absurd (by rw [a1, ho]; rfl) h0, fun _ => ⟨by rw [t1]; exact ht, ?_⟩⟩
        obtain ⟨p1, p2, p3⟩ := hp _ _ d2
        exact ⟨by rw [t2]; exact p3, p1, p2⟩
    · rw [he] at e1; exact absurd e1 e2
  · rcases h2 with ⟨e2, c2, _⟩ | ⟨e2, rfl⟩
    · rw [he] at e1; exact absurd e2 e1
    · exact ⟨he, fun h => absurd h e1⟩
/-- the guard says that the bound is small -/
def GreatB (w : World) (B : Int) (e : Ending) (w' : World) : Prop := ∃ b, e = .returned (.bool b) ∧ Below w.heap.size w w' ∧ (b = false → B ≤ 20000)
set_option maxRecDepth 100000 in
theorem great7_bd (W : World) (ss : List Stmt) (A : Option Addr) (c : Nat) (hrd : Stmt.rds W ss A 0) (hnl : Stmt.nodesL ss ≤ 1000000000) (L : Int) (AM : Option Addr) (ml cM : Nat) (n i k B : Int) (w : World) (hB : Below W.heap.size W w) :
    Calls Try.prog 21 #[.agg #[.slice A ss.length c, .int .i64 L, .slice AM ml cM, .int .i64 n, .int .i64 i, .int .i64 k, .int .i64 B]] w (GreatB w B) := by
  have hb0 : Below w.heap.size w (w.alloc (.cells #[.slice A ss.length c, .int .i64 L, .slice AM ml cM, .int .i64 n, .int .i64 i, .int .i64 k, .int .i64 B] 50)) := (Below.refl _ _).al
  have hx0 := blk_new w (.cells #[.slice A ss.length c, .int .i64 L, .slice AM ml cM, .int .i64 n, .int .i64 i, .int .i64 k, .int .i64 B] 50)
  have HW := Lib.hid (show ∃ w0, w0 = w.alloc (.cells #[.slice A ss.length c, .int .i64 L, .slice AM ml cM, .int .i64 n, .int .i64 i, .int .i64 k, .int .i64 B] 50) from ⟨_, rfl⟩)
  obtain ⟨w0, hw0⟩ := HW.out
  rw [← hw0] at hb0 hx0
  have HW := Lib.hid hw0
  clear hw0
  have f0 := blk_cell hx0 0
  have hI := great_calls W ss A c hrd hnl w0 (hB.trans (hb0.mono hB.size))
  have HI := Lib.hid hI
  have HB := Lib.hid hb0
  have HX := Lib.hid hx0
  clear hI hb0 hx0 hrd
  go_enter Try.func21, Try.ntmps21
  go_wp2_with fail
  rw [← HW.out]
  refine HI.out.mono ?_
  rintro y w1 ⟨b, rfl, hb1⟩
  have hx1 := below_blk hb1 HX.out (blk_lt HX.out)
  have f2 := blk_cell hx1 2
  have f6 := blk_cell hx1 6
  have HB1 := Lib.hid (HB.out.trans (hb1.mono HB.out.size))
  clear hb1 hx1 f0
  go_wp2
  all_goals
    go_ret
    refine ⟨_, rfl, HB1.out, fun hb => ?_⟩
    first | (simp at hb; done) | (simp at hb; omega)
end Go.Proofs.Ytjlnpppjkdcpkaa.My
