import Derived.Test.YtlonihmeikmpiaaGrDM
import Derived.Test.YtlonihmeikmpiaaGrDMf52
import Derived.Test.YtlonihmeikmpiaaGrDMf51
import Derived.Test.YtlonihmeikmpiaaGrDMf53
set_option linter.all false
set_option linter.unusedVariables false
set_option linter.unusedSimpArgs false
set_option linter.all false
set_option maxRecDepth 8000
set_option maxHeartbeats 1000000
namespace Go.Proofs.Y1
open Go.Gm
namespace Au
noncomputable def f10 (a0 : List Int) : Option Bool := (if 200 < (a0.length : Int) then ((f51 ).bind fun x2 => some x2) else ((f52 a0).bind fun x3 => ((f53 a0).bind fun x4 => (if x3 = x4 then ((f51 ).bind fun x6 => some x6) else some false))))
theorem ok10 (a0 : List Int) (r : Bool) (h : f10 a0 = some r) : PC Try.prog 10 [.sl (List.map enc3 a0)] (.val (.bool r)) := by
  rw [f10] at h
  refine pc_of8 (N := 15) (rs := [.tmp 2]) Try.func10 rfl rfl rfl (Nat.le_of_ble_eq_true rfl) ?_
  refine AW.regL [0] ?_
  generalize hK : AW Try.prog _ _ _ = K
  simp only [go_sem, ↓reduceIte, reduceCtorEq, Nat.reduceAdd, Nat.reduceSub, Nat.reduceMul, Nat.reduceEqDiff, Nat.reduceLT, Nat.reduceLeDiff, Nat.reduceBEq, Int.reduceAdd, Int.reduceSub, Int.reduceLT, Int.reduceLE, Int.reduceEq, Int.reduceToNat]
  subst hK
  refine AW.seq ?_
  refine AW.regL [0, 5] ?_
  generalize hK : AW Try.prog _ _ _ = K
  simp only [go_sem, ↓reduceIte, reduceCtorEq, Nat.reduceAdd, Nat.reduceSub, Nat.reduceMul, Nat.reduceEqDiff, Nat.reduceLT, Nat.reduceLeDiff, Nat.reduceBEq, Int.reduceAdd, Int.reduceSub, Int.reduceLT, Int.reduceLE, Int.reduceEq, Int.reduceToNat]
  subst hK
  by_cases c1 : 200 < (a0.length : Int)
  · rw [if_pos c1] at h
    refine AW.ifT rfl c1 ?_
    obtain ⟨x2, hx2, h⟩ := Option.bind_eq_some_iff.1 h
    refine AW.regL [2] ?_
    generalize hK : AW Try.prog _ _ _ = K
    simp only [go_sem, ↓reduceIte, reduceCtorEq, Nat.reduceAdd, Nat.reduceSub, Nat.reduceMul, Nat.reduceEqDiff, Nat.reduceLT, Nat.reduceLeDiff, Nat.reduceBEq, Int.reduceAdd, Int.reduceSub, Int.reduceLT, Int.reduceLE, Int.reduceEq, Int.reduceToNat, eq_true c1]
    refine arC.of (ok51  x2 hx2) Try.call51 ?_
    simp only [go_sem, ↓reduceIte, reduceCtorEq, Nat.reduceAdd, Nat.reduceSub, Nat.reduceMul, Nat.reduceEqDiff, Nat.reduceLT, Nat.reduceLeDiff, Nat.reduceBEq, Int.reduceAdd, Int.reduceSub, Int.reduceLT, Int.reduceLE, Int.reduceEq, Int.reduceToNat, eq_true c1]
    subst hK
    refine AW.ret ?_
    refine thenA_r ?_
    obtain rfl := Option.some.inj h
    (simp only [go_sem, ↓reduceIte, reduceCtorEq, Nat.reduceAdd, Nat.reduceSub, Nat.reduceMul, Nat.reduceEqDiff, Nat.reduceLT, Nat.reduceLeDiff, Nat.reduceBEq, Int.reduceAdd, Int.reduceSub, Int.reduceLT, Int.reduceLE, Int.reduceEq, Int.reduceToNat, eq_true c1, finA, resA, resOf_1, resOf_2, sealV_val, sealV_sl, sealV_ip, sealV_agg, sealV_tup, sealV_own, sealL_nil, sealL_cons, sealV_clo, resOf_clo] <;> try simp)
  · rw [if_neg c1] at h
    refine AW.ifF rfl c1 ?_
    refine AW.skip ?_
    refine thenA_n ?_
    obtain ⟨x3, hx3, h⟩ := Option.bind_eq_some_iff.1 h
    obtain ⟨x4, hx4, h⟩ := Option.bind_eq_some_iff.1 h
    by_cases c5 : x3 = x4
    · rw [if_pos c5] at h
      obtain ⟨x6, hx6, h⟩ := Option.bind_eq_some_iff.1 h
      refine AW.regL [2] ?_
      generalize hK : AW Try.prog _ _ _ = K
      simp only [go_sem, ↓reduceIte, reduceCtorEq, Nat.reduceAdd, Nat.reduceSub, Nat.reduceMul, Nat.reduceEqDiff, Nat.reduceLT, Nat.reduceLeDiff, Nat.reduceBEq, Int.reduceAdd, Int.reduceSub, Int.reduceLT, Int.reduceLE, Int.reduceEq, Int.reduceToNat, eq_false c1, eq_true c5]
      refine arC.of (ok52 a0 x3 hx3) Try.call52 ?_
      simp only [go_sem, ↓reduceIte, reduceCtorEq, Nat.reduceAdd, Nat.reduceSub, Nat.reduceMul, Nat.reduceEqDiff, Nat.reduceLT, Nat.reduceLeDiff, Nat.reduceBEq, Int.reduceAdd, Int.reduceSub, Int.reduceLT, Int.reduceLE, Int.reduceEq, Int.reduceToNat, eq_false c1, eq_true c5]
      refine arC.of (ok53 a0 x4 hx4) Try.call53 ?_
      simp only [go_sem, ↓reduceIte, reduceCtorEq, Nat.reduceAdd, Nat.reduceSub, Nat.reduceMul, Nat.reduceEqDiff, Nat.reduceLT, Nat.reduceLeDiff, Nat.reduceBEq, Int.reduceAdd, Int.reduceSub, Int.reduceLT, Int.reduceLE, Int.reduceEq, Int.reduceToNat, eq_false c1, eq_true c5]
      refine arC.of (ok51  x6 hx6) Try.call51 ?_
      simp only [go_sem, ↓reduceIte, reduceCtorEq, Nat.reduceAdd, Nat.reduceSub, Nat.reduceMul, Nat.reduceEqDiff, Nat.reduceLT, Nat.reduceLeDiff, Nat.reduceBEq, Int.reduceAdd, Int.reduceSub, Int.reduceLT, Int.reduceLE, Int.reduceEq, Int.reduceToNat, eq_false c1, eq_true c5]
      subst hK
      refine AW.ret ?_
      obtain rfl := Option.some.inj h
      (simp only [go_sem, ↓reduceIte, reduceCtorEq, Nat.reduceAdd, Nat.reduceSub, Nat.reduceMul, Nat.reduceEqDiff, Nat.reduceLT, Nat.reduceLeDiff, Nat.reduceBEq, Int.reduceAdd, Int.reduceSub, Int.reduceLT, Int.reduceLE, Int.reduceEq, Int.reduceToNat, eq_false c1, eq_true c5, finA, resA, resOf_1, resOf_2, sealV_val, sealV_sl, sealV_ip, sealV_agg, sealV_tup, sealV_own, sealL_nil, sealL_cons, sealV_clo, resOf_clo] <;> try simp)
    · rw [if_neg c5] at h
      refine AW.regL [2] ?_
      generalize hK : AW Try.prog _ _ _ = K
      simp only [go_sem, ↓reduceIte, reduceCtorEq, Nat.reduceAdd, Nat.reduceSub, Nat.reduceMul, Nat.reduceEqDiff, Nat.reduceLT, Nat.reduceLeDiff, Nat.reduceBEq, Int.reduceAdd, Int.reduceSub, Int.reduceLT, Int.reduceLE, Int.reduceEq, Int.reduceToNat, eq_false c1, eq_false c5]
      refine arC.of (ok52 a0 x3 hx3) Try.call52 ?_
      simp only [go_sem, ↓reduceIte, reduceCtorEq, Nat.reduceAdd, Nat.reduceSub, Nat.reduceMul, Nat.reduceEqDiff, Nat.reduceLT, Nat.reduceLeDiff, Nat.reduceBEq, Int.reduceAdd, Int.reduceSub, Int.reduceLT, Int.reduceLE, Int.reduceEq, Int.reduceToNat, eq_false c1, eq_false c5]
      refine arC.of (ok53 a0 x4 hx4) Try.call53 ?_
      simp only [go_sem, ↓reduceIte, reduceCtorEq, Nat.reduceAdd, Nat.reduceSub, Nat.reduceMul, Nat.reduceEqDiff, Nat.reduceLT, Nat.reduceLeDiff, Nat.reduceBEq, Int.reduceAdd, Int.reduceSub, Int.reduceLT, Int.reduceLE, Int.reduceEq, Int.reduceToNat, eq_false c1, eq_false c5]
      subst hK
      refine AW.ret ?_
      obtain rfl := Option.some.inj h
      (simp only [go_sem, ↓reduceIte, reduceCtorEq, Nat.reduceAdd, Nat.reduceSub, Nat.reduceMul, Nat.reduceEqDiff, Nat.reduceLT, Nat.reduceLeDiff, Nat.reduceBEq, Int.reduceAdd, Int.reduceSub, Int.reduceLT, Int.reduceLE, Int.reduceEq, Int.reduceToNat, eq_false c1, eq_false c5, finA, resA, resOf_1, resOf_2, sealV_val, sealV_sl, sealV_ip, sealV_agg, sealV_tup, sealV_own, sealL_nil, sealL_cons, sealV_clo, resOf_clo] <;> try simp)
end Au
end Go.Proofs.Y1
