import Derived.Test.YtlonihmeikmpiaaGqDT
import Derived.Test.YtlonihmeikmpiaaGqDTf158
set_option linter.all false
set_option linter.unusedVariables false
set_option linter.unusedSimpArgs false
set_option linter.all false
set_option maxRecDepth 8000
set_option maxHeartbeats 1000000
namespace Go.Proofs.Y1
open Go.Gm
namespace Au
noncomputable def f137 (a0 : Val) (a1 : Val) : Option Bool := ((f158 a0 a1).bind fun x1 => some (decide (x1 = 0)))
theorem ok137 (a0 : Val) (a1 : Val) (r : Bool) (h : f137 a0 a1 = some r) : PC Try.prog 137 [.agg (encVal a0), .agg (encVal a1)] (.val (.bool r)) := by
  rw [f137] at h
  refine pc_of8 (N := 9) (rs := [.tmp 4]) Try.func137 rfl rfl rfl (Nat.le_of_ble_eq_true rfl) ?_
  refine AW.regL [2, 3] ?_
  generalize hK : AW Try.prog _ _ _ = K
  simp only [go_sem, ↓reduceIte, reduceCtorEq, Nat.reduceAdd, Nat.reduceSub, Nat.reduceMul, Nat.reduceEqDiff, Nat.reduceLT, Nat.reduceLeDiff, Nat.reduceBEq, Int.reduceAdd, Int.reduceSub, Int.reduceLT, Int.reduceLE, Int.reduceEq, Int.reduceToNat]
  subst hK
  obtain ⟨x1, hx1, h⟩ := Option.bind_eq_some_iff.1 h
  refine AW.regL [4] ?_
  generalize hK : AW Try.prog _ _ _ = K
  simp only [go_sem, ↓reduceIte, reduceCtorEq, Nat.reduceAdd, Nat.reduceSub, Nat.reduceMul, Nat.reduceEqDiff, Nat.reduceLT, Nat.reduceLeDiff, Nat.reduceBEq, Int.reduceAdd, Int.reduceSub, Int.reduceLT, Int.reduceLE, Int.reduceEq, Int.reduceToNat]
  refine arC.of (ok158 a0 a1 x1 hx1) Try.call158 ?_
  simp only [go_sem, ↓reduceIte, reduceCtorEq, Nat.reduceAdd, Nat.reduceSub, Nat.reduceMul, Nat.reduceEqDiff, Nat.reduceLT, Nat.reduceLeDiff, Nat.reduceBEq, Int.reduceAdd, Int.reduceSub, Int.reduceLT, Int.reduceLE, Int.reduceEq, Int.reduceToNat]
  subst hK
  refine AW.ret ?_
  obtain rfl := Option.some.inj h
  (simp only [go_sem, ↓reduceIte, reduceCtorEq, Nat.reduceAdd, Nat.reduceSub, Nat.reduceMul, Nat.reduceEqDiff, Nat.reduceLT, Nat.reduceLeDiff, Nat.reduceBEq, Int.reduceAdd, Int.reduceSub, Int.reduceLT, Int.reduceLE, Int.reduceEq, Int.reduceToNat, finA, resA, resOf_1, resOf_2, sealV_val, sealV_sl, sealV_ip, sealV_agg, sealV_tup, sealV_own, sealL_nil, sealL_cons] <;> try simp)
end Au
end Go.Proofs.Y1
