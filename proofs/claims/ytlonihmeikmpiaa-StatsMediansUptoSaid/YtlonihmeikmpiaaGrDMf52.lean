import Derived.Test.YtlonihmeikmpiaaGrDM
import Derived.Test.YtlonihmeikmpiaaGrDMf98
import Derived.Test.YtlonihmeikmpiaaGrDMf97x130
set_option linter.all false
set_option linter.unusedVariables false
set_option linter.unusedSimpArgs false
set_option linter.all false
set_option maxRecDepth 8000
set_option maxHeartbeats 1000000
namespace Go.Proofs.Y1
open Go.Gm
namespace Au
noncomputable def f52 (a0 : List Int) : Option Int := (if (a0.length : Int) = 0 then some 0 else ((f98 a0).bind fun x3 => ((f97_130 x3).bind fun x4 => ((ix x4 (IntKind.i64.wrap ((IntKind.i64.wrap (((x4.length : Nat) : Int) - 1)).tdiv 2))).bind fun x5 => some x5))))
theorem ok52 (a0 : List Int) (r : Int) (h : f52 a0 = some r) : PC Try.prog 52 [.sl (List.map enc3 a0)] (.val (.int .i64 r)) := by
  rw [f52] at h
  refine pc_of8 (N := 17) (rs := [.tmp 2]) Try.func52 rfl rfl rfl (Nat.le_of_ble_eq_true rfl) ?_
  refine AW.regL [0] ?_
  generalize hK : AW Try.prog _ _ _ = K
  simp only [go_sem, ↓reduceIte, reduceCtorEq, Nat.reduceAdd, Nat.reduceSub, Nat.reduceMul, Nat.reduceEqDiff, Nat.reduceLT, Nat.reduceLeDiff, Nat.reduceBEq, Int.reduceAdd, Int.reduceSub, Int.reduceLT, Int.reduceLE, Int.reduceEq, Int.reduceToNat]
  subst hK
  refine AW.seq ?_
  refine AW.regL [0, 6] ?_
  generalize hK : AW Try.prog _ _ _ = K
  simp only [go_sem, ↓reduceIte, reduceCtorEq, Nat.reduceAdd, Nat.reduceSub, Nat.reduceMul, Nat.reduceEqDiff, Nat.reduceLT, Nat.reduceLeDiff, Nat.reduceBEq, Int.reduceAdd, Int.reduceSub, Int.reduceLT, Int.reduceLE, Int.reduceEq, Int.reduceToNat]
  subst hK
  by_cases c2 : (a0.length : Int) = 0
  · rw [if_pos c2] at h
    refine AW.ifT rfl c2 ?_
    refine AW.regL [2] ?_
    generalize hK : AW Try.prog _ _ _ = K
    simp only [go_sem, ↓reduceIte, reduceCtorEq, Nat.reduceAdd, Nat.reduceSub, Nat.reduceMul, Nat.reduceEqDiff, Nat.reduceLT, Nat.reduceLeDiff, Nat.reduceBEq, Int.reduceAdd, Int.reduceSub, Int.reduceLT, Int.reduceLE, Int.reduceEq, Int.reduceToNat, eq_true c2]
    subst hK
    refine AW.ret ?_
    refine thenA_r ?_
    obtain rfl := Option.some.inj h
    (simp only [go_sem, ↓reduceIte, reduceCtorEq, Nat.reduceAdd, Nat.reduceSub, Nat.reduceMul, Nat.reduceEqDiff, Nat.reduceLT, Nat.reduceLeDiff, Nat.reduceBEq, Int.reduceAdd, Int.reduceSub, Int.reduceLT, Int.reduceLE, Int.reduceEq, Int.reduceToNat, eq_true c2, finA, resA, resOf_1, resOf_2, sealV_val, sealV_sl, sealV_ip, sealV_agg, sealV_tup, sealV_own, sealL_nil, sealL_cons, sealV_clo, resOf_clo] <;> try simp)
  · rw [if_neg c2] at h
    refine AW.ifF rfl c2 ?_
    refine AW.skip ?_
    refine thenA_n ?_
    obtain ⟨x3, hx3, h⟩ := Option.bind_eq_some_iff.1 h
    obtain ⟨x4, hx4, h⟩ := Option.bind_eq_some_iff.1 h
    refine AW.regL [3] ?_
    generalize hK : AW Try.prog _ _ _ = K
    simp only [go_sem, ↓reduceIte, reduceCtorEq, Nat.reduceAdd, Nat.reduceSub, Nat.reduceMul, Nat.reduceEqDiff, Nat.reduceLT, Nat.reduceLeDiff, Nat.reduceBEq, Int.reduceAdd, Int.reduceSub, Int.reduceLT, Int.reduceLE, Int.reduceEq, Int.reduceToNat, eq_false c2]
    refine arC.of (ok98 a0 x3 hx3) Try.call98 ?_
    simp only [go_sem, ↓reduceIte, reduceCtorEq, Nat.reduceAdd, Nat.reduceSub, Nat.reduceMul, Nat.reduceEqDiff, Nat.reduceLT, Nat.reduceLeDiff, Nat.reduceBEq, Int.reduceAdd, Int.reduceSub, Int.reduceLT, Int.reduceLE, Int.reduceEq, Int.reduceToNat, eq_false c2]
    refine arC.of (ok97_130 x3 x4 hx4) Try.call97 ?_
    simp only [go_sem, ↓reduceIte, reduceCtorEq, Nat.reduceAdd, Nat.reduceSub, Nat.reduceMul, Nat.reduceEqDiff, Nat.reduceLT, Nat.reduceLeDiff, Nat.reduceBEq, Int.reduceAdd, Int.reduceSub, Int.reduceLT, Int.reduceLE, Int.reduceEq, Int.reduceToNat, eq_false c2]
    subst hK
    obtain ⟨x5, hx5, h⟩ := Option.bind_eq_some_iff.1 h
    obtain ⟨hx5a, hx5b⟩ := ix_some.1 hx5
    refine AW.regL [2] ?_
    generalize hK : AW Try.prog _ _ _ = K
    simp only [go_sem, ↓reduceIte, reduceCtorEq, Nat.reduceAdd, Nat.reduceSub, Nat.reduceMul, Nat.reduceEqDiff, Nat.reduceLT, Nat.reduceLeDiff, Nat.reduceBEq, Int.reduceAdd, Int.reduceSub, Int.reduceLT, Int.reduceLE, Int.reduceEq, Int.reduceToNat, eq_false c2, natOf_le hx5a, hx5b, ix_lt hx5b]
    subst hK
    refine AW.ret ?_
    obtain rfl := Option.some.inj h
    (simp only [go_sem, ↓reduceIte, reduceCtorEq, Nat.reduceAdd, Nat.reduceSub, Nat.reduceMul, Nat.reduceEqDiff, Nat.reduceLT, Nat.reduceLeDiff, Nat.reduceBEq, Int.reduceAdd, Int.reduceSub, Int.reduceLT, Int.reduceLE, Int.reduceEq, Int.reduceToNat, eq_false c2, finA, resA, resOf_1, resOf_2, sealV_val, sealV_sl, sealV_ip, sealV_agg, sealV_tup, sealV_own, sealL_nil, sealL_cons, sealV_clo, resOf_clo] <;> try simp)
end Au
end Go.Proofs.Y1
