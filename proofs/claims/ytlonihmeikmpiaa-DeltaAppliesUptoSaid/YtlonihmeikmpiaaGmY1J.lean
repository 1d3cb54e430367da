import Derived.Test.YtlonihmeikmpiaaGmY1I
set_option linter.all false
set_option linter.unusedVariables false
set_option linter.unusedSimpArgs false
set_option linter.unusedSimpArgs false
set_option linter.unusedVariables false
set_option maxRecDepth 8000
namespace Go.Proofs.Y1
open Go.Gm
def OrdC (l : List Change) : Prop := (∀ c ∈ l, 0 ≤ c.kind ∧ c.kind ≤ 3) ∧ ∀ j a b, l[j]? = some a → l[j + 1]? = some b → sLt a.res.key b.res.key = true
theorem ord_cases (n : Int) (i : Nat) : n < 0 ∨ (¬ n < 0 ∧ 3 < n) ∨ (¬ n < 0 ∧ ¬ 3 < n ∧ i = 0) ∨ (¬ n < 0 ∧ ¬ 3 < n ∧ ∃ j, i = j + 1) := by
  cases i with
  | zero => simp; omega
  | succ j => simp; omega
open Classical in
theorem w71 (l : List Change) (hl : l.length ≤ 34359738368) : PC Try.prog 71 [encCs l] (B (decide (OrdC l))) := by
  refine pc_of (N := 38) (rs := [.tmp 2]) Try.func71 rfl rfl rfl (Nat.le_of_ble_eq_true rfl) ?_
  refine AW.reg ?_
  generalize hK : AW Try.prog _ _ _ = K
  simp only [go_sem, ↓reduceIte, reduceCtorEq, Nat.reduceAdd, Nat.reduceSub, Nat.reduceMul, Nat.reduceEqDiff, Nat.reduceLT, Nat.reduceLeDiff, Nat.reduceBEq, Int.reduceAdd, Int.reduceSub, Int.reduceLT, Int.reduceLE, Int.reduceEq, Int.reduceToNat, ag3, ag9, ag37, el25, fl35_0, fl37_0, fl37_1, sz3, sz9, sz35, sz37, zr37, encCs, encCh, encI, ir_I]
  subst hK
  refine AW.seq ?_
  refine AW.reg ?_
  generalize hK : AW Try.prog _ _ _ = K
  simp only [go_sem, ↓reduceIte, reduceCtorEq, Nat.reduceAdd, Nat.reduceSub, Nat.reduceMul, Nat.reduceEqDiff, Nat.reduceLT, Nat.reduceLeDiff, Nat.reduceBEq, Int.reduceAdd, Int.reduceSub, Int.reduceLT, Int.reduceLE, Int.reduceEq, Int.reduceToNat, ag3, ag9, ag37, el25, fl35_0, fl37_0, fl37_1, sz3, sz9, sz35, sz37, zr37, encCs, encCh, encI, ir_I]
  subst hK
  refine AW.block ?_
  refine AW.loop (fun k st => ∃ i nx, (0 ≤ k) ∧ (i + k = l.length) ∧ (∀ j c, j < i → l[j]? = some c → 0 ≤ c.kind ∧ c.kind ≤ 3) ∧ (∀ j a b, j + 1 < i → l[j]? = some a → l[j + 1]? = some b → sLt a.res.key b.res.key = true) ∧ st = ⟨(upd (upd (upd (upd anyF 0 (encCs l)) 5 (encCs l)) 6 (I l.length)) 7 (I (i : Int))), fun _ => none, nx⟩) (l.length) _ (Ent.st (.put' (.put' (.put' (.put' .any rfl) rfl) rfl) rfl) .refl (Nat.le_refl _)) ⟨0, _, Nat.zero_le _, by simp, fun j c hj _ => by omega, fun j a b hj _ _ => by omega, rfl⟩ ?_
  rintro k _ ⟨i, nx, _, hk, hp1, hp2, rfl⟩
  refine AW.reg ?_
  generalize hK : AW Try.prog _ _ _ = K
  simp only [go_sem, ↓reduceIte, reduceCtorEq, Nat.reduceAdd, Nat.reduceSub, Nat.reduceMul, Nat.reduceEqDiff, Nat.reduceLT, Nat.reduceLeDiff, Nat.reduceBEq, Int.reduceAdd, Int.reduceSub, Int.reduceLT, Int.reduceLE, Int.reduceEq, Int.reduceToNat, ag3, ag9, ag37, el25, fl35_0, fl37_0, fl37_1, sz3, sz9, sz35, sz37, zr37, encCs, encCh, encI, ir_I]
  subst hK
  refine AW.seq ?_
  refine AW.if rfl (fun hc8 => ?_) (fun hc8 => ?_)
  · have hi : i < l.length := by simpa using hc8
    obtain ⟨c, hc⟩ : ∃ c, l[i]? = some c := ⟨l[i], by simp [hi]⟩
    refine AW.skip ?_
    refine thenA_n ?_
    refine AW.seq ?_
    refine AW.block ?_
    refine AW.reg ?_
    generalize hK : AW Try.prog _ _ _ = K
    simp only [go_sem, ↓reduceIte, reduceCtorEq, Nat.reduceAdd, Nat.reduceSub, Nat.reduceMul, Nat.reduceEqDiff, Nat.reduceLT, Nat.reduceLeDiff, Nat.reduceBEq, Int.reduceAdd, Int.reduceSub, Int.reduceLT, Int.reduceLE, Int.reduceEq, Int.reduceToNat, ag3, ag9, ag37, el25, fl35_0, fl37_0, fl37_1, sz3, sz9, sz35, sz37, zr37, encCs, encCh, encI, ir_I, hc]
    subst hK
    rcases ord_cases c.kind i with q1 | ⟨q1, q2⟩ | ⟨q1, q2, rfl⟩ | ⟨q1, q2, j, rfl⟩
    · refine AW.regd [[], [0], [0, 1], [0, 1, 2], [0, 1, 2, 3], [0, 1, 2, 3, 4], [0, 1, 2, 3, 4, 5], [0, 1, 2, 3, 4, 5, 6], [0, 1, 2, 3, 4, 5, 6, 7], [0, 1, 2, 3, 4, 5, 6, 7, 8], [0, 1, 2, 3, 4, 5, 6, 7, 8, 9], [0, 1, 2, 3, 4, 5, 6, 7, 8, 9, 10], [0, 1, 2, 3, 4, 5, 6, 7, 8, 9, 10, 11], [0, 1, 2, 3, 4, 5, 6, 7, 8, 9, 10, 11], [0, 1, 2, 3, 4, 5, 6, 7, 8, 9, 10, 11, 13], [0, 1, 2, 3, 4, 5, 6, 7, 8, 9, 10, 11, 12, 13, 14], [0, 1, 2, 3, 4, 5, 6, 7, 8, 9, 10, 11, 12, 13, 14, 15], [0, 1, 2, 3, 4, 5, 6, 7, 8, 9, 10, 11, 12, 13, 14, 15, 16], [0, 1, 2, 3, 4, 5, 6, 7, 8, 9, 10, 11, 12, 13, 14, 15, 16, 17], [0, 1, 2, 3, 4, 5, 6, 7, 8, 9, 10, 11], [0, 1, 2, 3, 4, 5, 6, 7, 8, 9, 10, 11, 19], [0, 1, 2, 3, 4, 5, 6, 7, 8, 9, 10, 11, 19, 20], [0, 1, 2, 3, 4, 5, 6, 7, 8, 9, 10, 11, 12, 13, 14, 15, 16, 17, 18, 19, 20, 21], [0, 1, 2, 3, 4, 5, 6, 7, 8, 9, 10, 11, 12, 13, 14, 15, 16, 17, 18, 19, 20, 21, 22], [0, 1, 2, 3, 4, 5, 6, 7, 8, 9, 10, 11, 12, 13, 14, 15, 16, 17, 18, 19, 20, 21, 22, 23]] [0, 1, 2, 3, 4, 5, 6, 7, 8, 9, 10, 11, 12, 13, 14, 15, 16, 17, 18, 19, 20, 21, 22, 23, 24] noFt (fun _ _ _ h => by simp [noFt] at h) draws (by kernel_rfl) (by kernel_rfl) ?_
      generalize hK : AW Try.prog _ _ _ = K
      simp only [go_sem, ↓reduceIte, reduceCtorEq, Nat.reduceAdd, Nat.reduceSub, Nat.reduceMul, Nat.reduceEqDiff, Nat.reduceLT, Nat.reduceLeDiff, Nat.reduceBEq, Int.reduceAdd, Int.reduceSub, Int.reduceLT, Int.reduceLE, Int.reduceEq, Int.reduceToNat, ag3, ag9, ag37, el25, fl35_0, fl37_0, fl37_1, sz3, sz9, sz35, sz37, zr37, encCs, encCh, encI, ir_I, q1]
      subst hK
      refine AW.if rfl (fun hc36 => ?_) (fun hc36 => ?_)
      · refine AW.reg ?_
        generalize hK : AW Try.prog _ _ _ = K
        simp only [go_sem, ↓reduceIte, reduceCtorEq, Nat.reduceAdd, Nat.reduceSub, Nat.reduceMul, Nat.reduceEqDiff, Nat.reduceLT, Nat.reduceLeDiff, Nat.reduceBEq, Int.reduceAdd, Int.reduceSub, Int.reduceLT, Int.reduceLE, Int.reduceEq, Int.reduceToNat, ag3, ag9, ag37, el25, fl35_0, fl37_0, fl37_1, sz3, sz9, sz35, sz37, zr37, encCs, encCh, encI, ir_I]
        subst hK
        refine AW.ret ?_
        refine block_r ?_
        refine thenA_r ?_
        refine thenA_r ?_
        refine block_r ?_
        refine thenA_r ?_
        have : ¬ OrdC l := fun h => by have := h.1 c (List.mem_of_getElem? hc); omega
        refine fin_val (.inl rfl) rfl ?_
        simp [this]
      · cases hc36
    · refine AW.regd [[], [0], [0, 1], [0, 1, 2], [0, 1, 2, 3], [0, 1, 2, 3, 4], [0, 1, 2, 3, 4, 5], [0, 1, 2, 3, 4, 5, 6], [0, 1, 2, 3, 4, 5, 6, 7], [0, 1, 2, 3, 4, 5, 6, 7, 8], [0, 1, 2, 3, 4, 5, 6, 7, 8, 9], [0, 1, 2, 3, 4, 5, 6, 7, 8, 9, 10], [0, 1, 2, 3, 4, 5, 6, 7, 8, 9, 10, 11], [0, 1, 2, 3, 4, 5, 6, 7, 8, 9, 10, 11], [0, 1, 2, 3, 4, 5, 6, 7, 8, 9, 10, 11, 13], [0, 1, 2, 3, 4, 5, 6, 7, 8, 9, 10, 11, 12, 13, 14], [0, 1, 2, 3, 4, 5, 6, 7, 8, 9, 10, 11, 12, 13, 14, 15], [0, 1, 2, 3, 4, 5, 6, 7, 8, 9, 10, 11, 12, 13, 14, 15, 16], [0, 1, 2, 3, 4, 5, 6, 7, 8, 9, 10, 11, 12, 13, 14, 15, 16, 17], [0, 1, 2, 3, 4, 5, 6, 7, 8, 9, 10, 11], [0, 1, 2, 3, 4, 5, 6, 7, 8, 9, 10, 11, 19], [0, 1, 2, 3, 4, 5, 6, 7, 8, 9, 10, 11, 19, 20], [0, 1, 2, 3, 4, 5, 6, 7, 8, 9, 10, 11, 12, 13, 14, 15, 16, 17, 18, 19, 20, 21], [0, 1, 2, 3, 4, 5, 6, 7, 8, 9, 10, 11, 12, 13, 14, 15, 16, 17, 18, 19, 20, 21, 22], [0, 1, 2, 3, 4, 5, 6, 7, 8, 9, 10, 11, 12, 13, 14, 15, 16, 17, 18, 19, 20, 21, 22, 23]] [0, 1, 2, 3, 4, 5, 6, 7, 8, 9, 10, 11, 12, 13, 14, 15, 16, 17, 18, 19, 20, 21, 22, 23, 24] noFt (fun _ _ _ h => by simp [noFt] at h) draws (by kernel_rfl) (by kernel_rfl) ?_
      generalize hK : AW Try.prog _ _ _ = K
      simp only [go_sem, ↓reduceIte, reduceCtorEq, Nat.reduceAdd, Nat.reduceSub, Nat.reduceMul, Nat.reduceEqDiff, Nat.reduceLT, Nat.reduceLeDiff, Nat.reduceBEq, Int.reduceAdd, Int.reduceSub, Int.reduceLT, Int.reduceLE, Int.reduceEq, Int.reduceToNat, ag3, ag9, ag37, el25, fl35_0, fl37_0, fl37_1, sz3, sz9, sz35, sz37, zr37, encCs, encCh, encI, ir_I, q1, q2]
      subst hK
      refine AW.if rfl (fun hc36 => ?_) (fun hc36 => ?_)
      · refine AW.reg ?_
        generalize hK : AW Try.prog _ _ _ = K
        simp only [go_sem, ↓reduceIte, reduceCtorEq, Nat.reduceAdd, Nat.reduceSub, Nat.reduceMul, Nat.reduceEqDiff, Nat.reduceLT, Nat.reduceLeDiff, Nat.reduceBEq, Int.reduceAdd, Int.reduceSub, Int.reduceLT, Int.reduceLE, Int.reduceEq, Int.reduceToNat, ag3, ag9, ag37, el25, fl35_0, fl37_0, fl37_1, sz3, sz9, sz35, sz37, zr37, encCs, encCh, encI, ir_I]
        subst hK
        refine AW.ret ?_
        refine block_r ?_
        refine thenA_r ?_
        refine thenA_r ?_
        refine block_r ?_
        refine thenA_r ?_
        have : ¬ OrdC l := fun h => by have := h.1 c (List.mem_of_getElem? hc); omega
        refine fin_val (.inl rfl) rfl ?_
        simp [this]
      · cases hc36
    · refine AW.regd [[], [0], [0, 1], [0, 1, 2], [0, 1, 2, 3], [0, 1, 2, 3, 4], [0, 1, 2, 3, 4, 5], [0, 1, 2, 3, 4, 5, 6], [0, 1, 2, 3, 4, 5, 6, 7], [0, 1, 2, 3, 4, 5, 6, 7, 8], [0, 1, 2, 3, 4, 5, 6, 7, 8, 9], [0, 1, 2, 3, 4, 5, 6, 7, 8, 9, 10], [0, 1, 2, 3, 4, 5, 6, 7, 8, 9, 10, 11], [0, 1, 2, 3, 4, 5, 6, 7, 8, 9, 10, 11], [0, 1, 2, 3, 4, 5, 6, 7, 8, 9, 10, 11, 13], [0, 1, 2, 3, 4, 5, 6, 7, 8, 9, 10, 11, 12, 13, 14], [0, 1, 2, 3, 4, 5, 6, 7, 8, 9, 10, 11, 12, 13, 14, 15], [0, 1, 2, 3, 4, 5, 6, 7, 8, 9, 10, 11, 12, 13, 14, 15, 16], [0, 1, 2, 3, 4, 5, 6, 7, 8, 9, 10, 11, 12, 13, 14, 15, 16, 17], [0, 1, 2, 3, 4, 5, 6, 7, 8, 9, 10, 11], [0, 1, 2, 3, 4, 5, 6, 7, 8, 9, 10, 11, 19], [0, 1, 2, 3, 4, 5, 6, 7, 8, 9, 10, 11, 19, 20], [0, 1, 2, 3, 4, 5, 6, 7, 8, 9, 10, 11, 12, 13, 14, 15, 16, 17, 18, 19, 20, 21], [0, 1, 2, 3, 4, 5, 6, 7, 8, 9, 10, 11, 12, 13, 14, 15, 16, 17, 18, 19, 20, 21, 22], [0, 1, 2, 3, 4, 5, 6, 7, 8, 9, 10, 11, 12, 13, 14, 15, 16, 17, 18, 19, 20, 21, 22, 23]] [0, 1, 2, 3, 4, 5, 6, 7, 8, 9, 10, 11, 12, 13, 14, 15, 16, 17, 18, 19, 20, 21, 22, 23, 24] noFt (fun _ _ _ h => by simp [noFt] at h) draws (by kernel_rfl) (by kernel_rfl) ?_
      generalize hK : AW Try.prog _ _ _ = K
      simp only [go_sem, ↓reduceIte, reduceCtorEq, Nat.reduceAdd, Nat.reduceSub, Nat.reduceMul, Nat.reduceEqDiff, Nat.reduceLT, Nat.reduceLeDiff, Nat.reduceBEq, Int.reduceAdd, Int.reduceSub, Int.reduceLT, Int.reduceLE, Int.reduceEq, Int.reduceToNat, ag3, ag9, ag37, el25, fl35_0, fl37_0, fl37_1, sz3, sz9, sz35, sz37, zr37, encCs, encCh, encI, ir_I, q1, q2, nat_zero, int_irr]
      subst hK
      refine AW.if rfl (fun hc36 => ?_) (fun hc36 => ?_)
      · cases hc36
      · refine AW.skip ?_
        refine block_n ?_
        refine thenA_n ?_
        have h2 : IntKind.i64.wrap (((0 : Nat) : Int) + 1) = ((0 + 1 : Nat) : Int) := by rw [wrap_id] <;> omega
        refine AW.region ?_
        generalize hK : thenA _ _ Exit.normal = K
        simp only [go_sem, ↓reduceIte, reduceCtorEq, Nat.reduceAdd, Nat.reduceSub, Nat.reduceMul, Nat.reduceEqDiff, Nat.reduceLT, Nat.reduceLeDiff, Nat.reduceBEq, Int.reduceAdd, Int.reduceSub, Int.reduceLT, Int.reduceLE, Int.reduceEq, Int.reduceToNat, ag3, ag9, ag37, el25, fl35_0, fl37_0, fl37_1, sz3, sz9, sz35, sz37, zr37, encCs, encCh, encI, ir_I, h2]
        subst hK
        refine thenA_n ?_
        refine ⟨k - 1, _, by omega, Ent.st (.put' (.put' (.put' (.put' .any rfl) rfl) rfl) rfl) .none_ (Nat.le_refl _), 0 + 1, _, Nat.zero_le _, by omega, fun j' c' hj' hc' => by rw [show j' = 0 by omega, hc] at hc'; cases hc'; omega, fun j' a' b' hj' _ _ => by omega, rfl⟩
    · obtain ⟨a, ha⟩ : ∃ a, l[j]? = some a := ⟨l[j], by simp [show j < l.length by omega]⟩
      have h1 : IntKind.i64.wrap (((j + 1 : Nat) : Int) - 1) = (j : Int) := by rw [wrap_id] <;> omega
      refine AW.regd [[], [0], [0, 1], [0, 1, 2], [0, 1, 2, 3], [0, 1, 2, 3, 4], [0, 1, 2, 3, 4, 5], [0, 1, 2, 3, 4, 5, 6], [0, 1, 2, 3, 4, 5, 6, 7], [0, 1, 2, 3, 4, 5, 6, 7, 8], [0, 1, 2, 3, 4, 5, 6, 7, 8, 9], [0, 1, 2, 3, 4, 5, 6, 7, 8, 9, 10], [0, 1, 2, 3, 4, 5, 6, 7, 8, 9, 10, 11], [0, 1, 2, 3, 4, 5, 6, 7, 8, 9, 10, 11], [0, 1, 2, 3, 4, 5, 6, 7, 8, 9, 10, 11, 13], [0, 1, 2, 3, 4, 5, 6, 7, 8, 9, 10, 11, 12, 13, 14], [0, 1, 2, 3, 4, 5, 6, 7, 8, 9, 10, 11, 12, 13, 14, 15], [0, 1, 2, 3, 4, 5, 6, 7, 8, 9, 10, 11, 12, 13, 14, 15, 16], [0, 1, 2, 3, 4, 5, 6, 7, 8, 9, 10, 11, 12, 13, 14, 15, 16, 17], [0, 1, 2, 3, 4, 5, 6, 7, 8, 9, 10, 11], [0, 1, 2, 3, 4, 5, 6, 7, 8, 9, 10, 11, 19], [0, 1, 2, 3, 4, 5, 6, 7, 8, 9, 10, 11, 19, 20], [0, 1, 2, 3, 4, 5, 6, 7, 8, 9, 10, 11, 12, 13, 14, 15, 16, 17, 18, 19, 20, 21], [0, 1, 2, 3, 4, 5, 6, 7, 8, 9, 10, 11, 12, 13, 14, 15, 16, 17, 18, 19, 20, 21, 22], [0, 1, 2, 3, 4, 5, 6, 7, 8, 9, 10, 11, 12, 13, 14, 15, 16, 17, 18, 19, 20, 21, 22, 23]] [0, 1, 2, 3, 4, 5, 6, 7, 8, 9, 10, 11, 12, 13, 14, 15, 16, 17, 18, 19, 20, 21, 22, 23, 24] noFt (fun _ _ _ h => by simp [noFt] at h) draws (by kernel_rfl) (by kernel_rfl) ?_
      generalize hK : AW Try.prog _ _ _ = K
      simp only [go_sem, ↓reduceIte, reduceCtorEq, Nat.reduceAdd, Nat.reduceSub, Nat.reduceMul, Nat.reduceEqDiff, Nat.reduceLT, Nat.reduceLeDiff, Nat.reduceBEq, Int.reduceAdd, Int.reduceSub, Int.reduceLT, Int.reduceLE, Int.reduceEq, Int.reduceToNat, ag3, ag9, ag37, el25, fl35_0, fl37_0, fl37_1, sz3, sz9, sz35, sz37, zr37, encCs, encCh, encI, ir_I, q1, q2, h1, ha, hc]
      subst hK
      refine AW.if rfl (fun hc36 => ?_) (fun hc36 => ?_)
      · refine AW.reg ?_
        generalize hK : AW Try.prog _ _ _ = K
        simp only [go_sem, ↓reduceIte, reduceCtorEq, Nat.reduceAdd, Nat.reduceSub, Nat.reduceMul, Nat.reduceEqDiff, Nat.reduceLT, Nat.reduceLeDiff, Nat.reduceBEq, Int.reduceAdd, Int.reduceSub, Int.reduceLT, Int.reduceLE, Int.reduceEq, Int.reduceToNat, ag3, ag9, ag37, el25, fl35_0, fl37_0, fl37_1, sz3, sz9, sz35, sz37, zr37, encCs, encCh, encI, ir_I]
        subst hK
        refine AW.ret ?_
        refine block_r ?_
        refine thenA_r ?_
        refine thenA_r ?_
        refine block_r ?_
        refine thenA_r ?_
        simp only [Bool.not_eq_true'] at hc36
        have : ¬ OrdC l := fun h => by have := h.2 _ _ _ ha hc; rw [hc36] at this; cases this
        refine fin_val (.inl rfl) rfl ?_
        simp [this]
      · refine AW.skip ?_
        refine block_n ?_
        refine thenA_n ?_
        have h2 : IntKind.i64.wrap (((j + 1 : Nat) : Int) + 1) = ((j + 1 + 1 : Nat) : Int) := by rw [wrap_id] <;> omega
        refine AW.region ?_
        generalize hK : thenA _ _ Exit.normal = K
        simp only [go_sem, ↓reduceIte, reduceCtorEq, Nat.reduceAdd, Nat.reduceSub, Nat.reduceMul, Nat.reduceEqDiff, Nat.reduceLT, Nat.reduceLeDiff, Nat.reduceBEq, Int.reduceAdd, Int.reduceSub, Int.reduceLT, Int.reduceLE, Int.reduceEq, Int.reduceToNat, ag3, ag9, ag37, el25, fl35_0, fl37_0, fl37_1, sz3, sz9, sz35, sz37, zr37, encCs, encCh, encI, ir_I, h2]
        subst hK
        refine thenA_n ?_
        refine ⟨k - 1, _, by omega, Ent.st (.put' (.put' (.put' (.put' .any rfl) rfl) rfl) rfl) .none_ (Nat.le_refl _), j + 1 + 1, _, Nat.zero_le _, by omega, ?_, ?_, rfl⟩
        · intro j' c' hj' hc'
          by_cases e : j' = j + 1
          · subst e; rw [hc] at hc'; cases hc'; omega
          · exact hp1 j' c' (by omega) hc'
        · intro j' a' b' hj' ha' hb'
          by_cases e : j' = j
          · subst e; rw [ha] at ha'; rw [hc] at hb'; cases ha'; cases hb'; simpa using hc36
          · exact hp2 j' a' b' (by omega) ha' hb'
  · refine AW.exit ?_
    refine thenA_x ?_
    refine thenA_x ?_
    refine block_x ?_
    refine thenA_n ?_
    refine AW.reg ?_
    generalize hK : AW Try.prog _ _ _ = K
    simp only [go_sem, ↓reduceIte, reduceCtorEq, Nat.reduceAdd, Nat.reduceSub, Nat.reduceMul, Nat.reduceEqDiff, Nat.reduceLT, Nat.reduceLeDiff, Nat.reduceBEq, Int.reduceAdd, Int.reduceSub, Int.reduceLT, Int.reduceLE, Int.reduceEq, Int.reduceToNat, ag3, ag9, ag37, el25, fl35_0, fl37_0, fl37_1, sz3, sz9, sz35, sz37, zr37, encCs, encCh, encI, ir_I]
    subst hK
    refine AW.ret ?_
    have hi : l.length ≤ i := by simpa using hc8
    have : OrdC l := ⟨fun c hc => by
        obtain ⟨j, hj⟩ := List.getElem?_of_mem hc
        exact hp1 j c (by have := (List.getElem?_eq_some_iff.1 hj).1; omega) hj, fun j a b ha hb => hp2 j a b (by have := (List.getElem?_eq_some_iff.1 hb).1; omega) ha hb⟩
    refine fin_val (.inl rfl) rfl ?_
    simp [this]
end Go.Proofs.Y1
