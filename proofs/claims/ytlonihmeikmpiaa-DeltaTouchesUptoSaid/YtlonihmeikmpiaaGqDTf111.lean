import Derived.Test.YtlonihmeikmpiaaGqDT
set_option linter.all false
set_option linter.unusedVariables false
set_option linter.unusedSimpArgs false
set_option linter.all false
set_option maxRecDepth 8000
set_option maxHeartbeats 1000000
namespace Go.Proofs.Y1
open Go.Gm
namespace Au
noncomputable def f111 (a0 : List Int) : Option (List Int) := appO? [] a0
theorem ok111 (a0 : List Int) (r : List Int) (h : f111 a0 = some r) : PC Try.prog 111 [.sl (List.map enc3 a0)] (.fr 1 (List.map enc3 r)) := by
  obtain ⟨hl, hr⟩ := appO?_some.1 h
  rw [List.nil_append] at hr
  subst hr
  have hb : a0.length ≤ 34359738368 := by simpa using hl
  refine pc_of (N := 8) (rs := [.tmp 2]) Try.func111 rfl rfl rfl (Nat.le_of_ble_eq_true rfl) ?_
  refine AW.reg ?_
  generalize hK : AW Try.prog _ _ _ = K
  simp only [go_sem, ↓reduceIte, reduceCtorEq, Nat.reduceAdd, Nat.reduceSub, Nat.reduceMul, Nat.reduceEqDiff, Nat.reduceLT, Nat.reduceLeDiff, Nat.reduceBEq, Int.reduceAdd, Int.reduceSub, Int.reduceLT, Int.reduceLE, Int.reduceEq, Int.reduceToNat]
  subst hK
  refine AW.seq ?_
  refine AW.nilq el33 rfl (by decide) (by decide) (fun bn hbn => ?_)
  refine AW.if rfl (fun hc4 => ?_) (fun hc4 => ?_)
  · have hl0 : a0 = [] := by simpa using hbn (by simpa using hc4)
    subst hl0
    refine AW.reg ?_
    generalize hK : AW Try.prog _ _ _ = K
    simp only [go_sem, ↓reduceIte, reduceCtorEq, Nat.reduceAdd, Nat.reduceSub, Nat.reduceMul, Nat.reduceEqDiff, Nat.reduceLT, Nat.reduceLeDiff, Nat.reduceBEq, Int.reduceAdd, Int.reduceSub, Int.reduceLT, Int.reduceLE, Int.reduceEq, Int.reduceToNat]
    subst hK
    refine AW.ent (Ent.nilOwn 2 1 (by decide) rfl) ?_
    refine AW.ret ?_
    refine thenA_r ?_
    exact fin_own (.inl rfl) rfl (by simp only [upd_ap, if_true]; rfl) rfl rfl rfl
  · refine AW.skip ?_
    refine thenA_n ?_
    refine AW.reg ?_
    generalize hK : AW Try.prog _ _ _ = K
    simp (disch := first | omega | (simp only [List.length_map, List.length_cons, List.length_nil, List.length_append] <;> omega)) only [go_sem, ↓reduceIte, reduceCtorEq, Nat.reduceAdd, Nat.reduceSub, Nat.reduceMul, Nat.reduceEqDiff, Nat.reduceLT, Nat.reduceLeDiff, Nat.reduceBEq, Int.reduceAdd, Int.reduceSub, Int.reduceLT, Int.reduceLE, Int.reduceEq, Int.reduceToNat]
    subst hK
    refine AW.ret ?_
    exact fin_own (.inl rfl) rfl (by simp only [upd_ap]; rfl) (by simp) (by simp only [go_sem]) rfl

end Au
end Go.Proofs.Y1
