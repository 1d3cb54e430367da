import Derived.Test.YtlonihmeikmpiaaGqDT
import Derived.Test.YtlonihmeikmpiaaGqDTf54
import Derived.Test.YtlonihmeikmpiaaGqDTf14
import Derived.Test.YtlonihmeikmpiaaGqDTf56
import Derived.Test.YtlonihmeikmpiaaGqDTf57
import Derived.Test.YtlonihmeikmpiaaGqDTf55
import Derived.Test.YtlonihmeikmpiaaGqDTf58
set_option linter.all false
set_option linter.unusedVariables false
set_option linter.unusedSimpArgs false
set_option linter.all false
set_option maxRecDepth 8000
set_option maxHeartbeats 1000000
namespace Go.Proofs.Y1
open Go.Gm
namespace Au
noncomputable def f11 (a0 : List Item) (a1 : List Item) (a2 : List Item) : Option Bool := ((f54 a0).bind fun x10 => (if x10 = true then ((f14 ).bind fun x12 => some x12) else ((f54 a1).bind fun x13 => (if x13 = true then ((f14 ).bind fun x15 => some x15) else ((f54 a2).bind fun x16 => (if x16 = true then ((f14 ).bind fun x18 => some x18) else ((f56 [a0] [a1, a2]).bind fun x27 => ((f57 [a0] [a1, a2]).bind fun x28 => ((f55 x27 x28).bind fun x29 => (if x29 = true then ((f56 [a1, a2] [a0]).bind fun x31 => ((f57 [a1, a2] [a0]).bind fun x32 => ((f55 x31 x32).bind fun x33 => (if x33 = true then ((f58 a0).bind fun x35 => (if x35 = true then ((f56 [a0] [a0]).bind fun x37 => (if ((x37.length : Nat) : Int) = 0 then ((f14 ).bind fun x39 => some x39) else some false)) else ((f14 ).bind fun x40 => some x40))) else some false)))) else some false))))))))))
theorem ok11 (a0 : List Item) (a1 : List Item) (a2 : List Item) (r : Bool) (h : f11 a0 a1 a2 = some r) : PC Try.prog 11 [.sl (List.map encItem a0), .sl (List.map encItem a1), .sl (List.map encItem a2)] (.val (.bool r)) := by
  rw [f11] at h
  refine pc_of8 (N := 56) (rs := [.tmp 6]) Try.func11 rfl rfl rfl (Nat.le_of_ble_eq_true rfl) ?_
  refine AW.regL [0, 1, 2] ?_
  generalize hK : AW Try.prog _ _ _ = K
  simp only [go_sem, ↓reduceIte, reduceCtorEq, Nat.reduceAdd, Nat.reduceSub, Nat.reduceMul, Nat.reduceEqDiff, Nat.reduceLT, Nat.reduceLeDiff, Nat.reduceBEq, Int.reduceAdd, Int.reduceSub, Int.reduceLT, Int.reduceLE, Int.reduceEq, Int.reduceToNat]
  subst hK
  refine AW.seq ?_
  obtain ⟨x10, hx10, h⟩ := Option.bind_eq_some_iff.1 h
  by_cases c11 : x10 = true
  · rw [if_pos c11] at h
    refine AW.regL [0, 1, 2, 18] ?_
    generalize hK : AW Try.prog _ _ _ = K
    simp only [go_sem, ↓reduceIte, reduceCtorEq, Nat.reduceAdd, Nat.reduceSub, Nat.reduceMul, Nat.reduceEqDiff, Nat.reduceLT, Nat.reduceLeDiff, Nat.reduceBEq, Int.reduceAdd, Int.reduceSub, Int.reduceLT, Int.reduceLE, Int.reduceEq, Int.reduceToNat, c11]
    refine arC.of (ok54 a0 x10 hx10) Try.call54 ?_
    simp only [go_sem, ↓reduceIte, reduceCtorEq, Nat.reduceAdd, Nat.reduceSub, Nat.reduceMul, Nat.reduceEqDiff, Nat.reduceLT, Nat.reduceLeDiff, Nat.reduceBEq, Int.reduceAdd, Int.reduceSub, Int.reduceLT, Int.reduceLE, Int.reduceEq, Int.reduceToNat, c11]
    subst hK
    refine AW.ifBT rfl rfl ?_
    obtain ⟨x12, hx12, h⟩ := Option.bind_eq_some_iff.1 h
    refine AW.regL [6] ?_
    generalize hK : AW Try.prog _ _ _ = K
    simp only [go_sem, ↓reduceIte, reduceCtorEq, Nat.reduceAdd, Nat.reduceSub, Nat.reduceMul, Nat.reduceEqDiff, Nat.reduceLT, Nat.reduceLeDiff, Nat.reduceBEq, Int.reduceAdd, Int.reduceSub, Int.reduceLT, Int.reduceLE, Int.reduceEq, Int.reduceToNat, c11]
    refine arC.of (ok14  x12 hx12) Try.call14 ?_
    simp only [go_sem, ↓reduceIte, reduceCtorEq, Nat.reduceAdd, Nat.reduceSub, Nat.reduceMul, Nat.reduceEqDiff, Nat.reduceLT, Nat.reduceLeDiff, Nat.reduceBEq, Int.reduceAdd, Int.reduceSub, Int.reduceLT, Int.reduceLE, Int.reduceEq, Int.reduceToNat, c11]
    subst hK
    refine AW.ret ?_
    refine thenA_r ?_
    obtain rfl := Option.some.inj h
    (simp only [go_sem, ↓reduceIte, reduceCtorEq, Nat.reduceAdd, Nat.reduceSub, Nat.reduceMul, Nat.reduceEqDiff, Nat.reduceLT, Nat.reduceLeDiff, Nat.reduceBEq, Int.reduceAdd, Int.reduceSub, Int.reduceLT, Int.reduceLE, Int.reduceEq, Int.reduceToNat, c11, finA, resA, resOf_1, resOf_2, sealV_val, sealV_sl, sealV_ip, sealV_agg, sealV_tup, sealV_own, sealL_nil, sealL_cons] <;> try simp)
  · rw [if_neg c11] at h
    rw [Bool.not_eq_true] at c11
    obtain ⟨x13, hx13, h⟩ := Option.bind_eq_some_iff.1 h
    by_cases c14 : x13 = true
    · rw [if_pos c14] at h
      refine AW.regL [0, 1, 2, 18] ?_
      generalize hK : AW Try.prog _ _ _ = K
      simp only [go_sem, ↓reduceIte, reduceCtorEq, Nat.reduceAdd, Nat.reduceSub, Nat.reduceMul, Nat.reduceEqDiff, Nat.reduceLT, Nat.reduceLeDiff, Nat.reduceBEq, Int.reduceAdd, Int.reduceSub, Int.reduceLT, Int.reduceLE, Int.reduceEq, Int.reduceToNat, c11, c14]
      refine arC.of (ok54 a0 x10 hx10) Try.call54 ?_
      simp only [go_sem, ↓reduceIte, reduceCtorEq, Nat.reduceAdd, Nat.reduceSub, Nat.reduceMul, Nat.reduceEqDiff, Nat.reduceLT, Nat.reduceLeDiff, Nat.reduceBEq, Int.reduceAdd, Int.reduceSub, Int.reduceLT, Int.reduceLE, Int.reduceEq, Int.reduceToNat, c11, c14]
      refine arC.of (ok54 a1 x13 hx13) Try.call54 ?_
      simp only [go_sem, ↓reduceIte, reduceCtorEq, Nat.reduceAdd, Nat.reduceSub, Nat.reduceMul, Nat.reduceEqDiff, Nat.reduceLT, Nat.reduceLeDiff, Nat.reduceBEq, Int.reduceAdd, Int.reduceSub, Int.reduceLT, Int.reduceLE, Int.reduceEq, Int.reduceToNat, c11, c14]
      subst hK
      refine AW.ifBT rfl rfl ?_
      obtain ⟨x15, hx15, h⟩ := Option.bind_eq_some_iff.1 h
      refine AW.regL [6] ?_
      generalize hK : AW Try.prog _ _ _ = K
      simp only [go_sem, ↓reduceIte, reduceCtorEq, Nat.reduceAdd, Nat.reduceSub, Nat.reduceMul, Nat.reduceEqDiff, Nat.reduceLT, Nat.reduceLeDiff, Nat.reduceBEq, Int.reduceAdd, Int.reduceSub, Int.reduceLT, Int.reduceLE, Int.reduceEq, Int.reduceToNat, c11, c14]
      refine arC.of (ok14  x15 hx15) Try.call14 ?_
      simp only [go_sem, ↓reduceIte, reduceCtorEq, Nat.reduceAdd, Nat.reduceSub, Nat.reduceMul, Nat.reduceEqDiff, Nat.reduceLT, Nat.reduceLeDiff, Nat.reduceBEq, Int.reduceAdd, Int.reduceSub, Int.reduceLT, Int.reduceLE, Int.reduceEq, Int.reduceToNat, c11, c14]
      subst hK
      refine AW.ret ?_
      refine thenA_r ?_
      obtain rfl := Option.some.inj h
      (simp only [go_sem, ↓reduceIte, reduceCtorEq, Nat.reduceAdd, Nat.reduceSub, Nat.reduceMul, Nat.reduceEqDiff, Nat.reduceLT, Nat.reduceLeDiff, Nat.reduceBEq, Int.reduceAdd, Int.reduceSub, Int.reduceLT, Int.reduceLE, Int.reduceEq, Int.reduceToNat, c11, c14, finA, resA, resOf_1, resOf_2, sealV_val, sealV_sl, sealV_ip, sealV_agg, sealV_tup, sealV_own, sealL_nil, sealL_cons] <;> try simp)
    · rw [if_neg c14] at h
      rw [Bool.not_eq_true] at c14
      obtain ⟨x16, hx16, h⟩ := Option.bind_eq_some_iff.1 h
      refine AW.regL [0, 1, 2, 18] ?_
      generalize hK : AW Try.prog _ _ _ = K
      simp only [go_sem, ↓reduceIte, reduceCtorEq, Nat.reduceAdd, Nat.reduceSub, Nat.reduceMul, Nat.reduceEqDiff, Nat.reduceLT, Nat.reduceLeDiff, Nat.reduceBEq, Int.reduceAdd, Int.reduceSub, Int.reduceLT, Int.reduceLE, Int.reduceEq, Int.reduceToNat, c11, c14]
      refine arC.of (ok54 a0 x10 hx10) Try.call54 ?_
      simp only [go_sem, ↓reduceIte, reduceCtorEq, Nat.reduceAdd, Nat.reduceSub, Nat.reduceMul, Nat.reduceEqDiff, Nat.reduceLT, Nat.reduceLeDiff, Nat.reduceBEq, Int.reduceAdd, Int.reduceSub, Int.reduceLT, Int.reduceLE, Int.reduceEq, Int.reduceToNat, c11, c14]
      refine arC.of (ok54 a1 x13 hx13) Try.call54 ?_
      simp only [go_sem, ↓reduceIte, reduceCtorEq, Nat.reduceAdd, Nat.reduceSub, Nat.reduceMul, Nat.reduceEqDiff, Nat.reduceLT, Nat.reduceLeDiff, Nat.reduceBEq, Int.reduceAdd, Int.reduceSub, Int.reduceLT, Int.reduceLE, Int.reduceEq, Int.reduceToNat, c11, c14]
      refine arC.of (ok54 a2 x16 hx16) Try.call54 ?_
      simp only [go_sem, ↓reduceIte, reduceCtorEq, Nat.reduceAdd, Nat.reduceSub, Nat.reduceMul, Nat.reduceEqDiff, Nat.reduceLT, Nat.reduceLeDiff, Nat.reduceBEq, Int.reduceAdd, Int.reduceSub, Int.reduceLT, Int.reduceLE, Int.reduceEq, Int.reduceToNat, c11, c14]
      subst hK
      by_cases c17 : x16 = true
      · rw [if_pos c17] at h
        refine AW.ifBT rfl c17 ?_
        obtain ⟨x18, hx18, h⟩ := Option.bind_eq_some_iff.1 h
        refine AW.regL [6] ?_
        generalize hK : AW Try.prog _ _ _ = K
        simp only [go_sem, ↓reduceIte, reduceCtorEq, Nat.reduceAdd, Nat.reduceSub, Nat.reduceMul, Nat.reduceEqDiff, Nat.reduceLT, Nat.reduceLeDiff, Nat.reduceBEq, Int.reduceAdd, Int.reduceSub, Int.reduceLT, Int.reduceLE, Int.reduceEq, Int.reduceToNat, c11, c14, c17]
        refine arC.of (ok14  x18 hx18) Try.call14 ?_
        simp only [go_sem, ↓reduceIte, reduceCtorEq, Nat.reduceAdd, Nat.reduceSub, Nat.reduceMul, Nat.reduceEqDiff, Nat.reduceLT, Nat.reduceLeDiff, Nat.reduceBEq, Int.reduceAdd, Int.reduceSub, Int.reduceLT, Int.reduceLE, Int.reduceEq, Int.reduceToNat, c11, c14, c17]
        subst hK
        refine AW.ret ?_
        refine thenA_r ?_
        obtain rfl := Option.some.inj h
        (simp only [go_sem, ↓reduceIte, reduceCtorEq, Nat.reduceAdd, Nat.reduceSub, Nat.reduceMul, Nat.reduceEqDiff, Nat.reduceLT, Nat.reduceLeDiff, Nat.reduceBEq, Int.reduceAdd, Int.reduceSub, Int.reduceLT, Int.reduceLE, Int.reduceEq, Int.reduceToNat, c11, c14, c17, finA, resA, resOf_1, resOf_2, sealV_val, sealV_sl, sealV_ip, sealV_agg, sealV_tup, sealV_own, sealL_nil, sealL_cons] <;> try simp)
      · rw [if_neg c17] at h
        rw [Bool.not_eq_true] at c17
        refine AW.ifBF rfl c17 ?_
        refine AW.skip ?_
        refine thenA_n ?_
        refine AW.regL [0, 7, 8] ?_
        generalize hK : AW Try.prog _ _ _ = K
        simp only [go_sem, ↓reduceIte, reduceCtorEq, Nat.reduceAdd, Nat.reduceSub, Nat.reduceMul, Nat.reduceEqDiff, Nat.reduceLT, Nat.reduceLeDiff, Nat.reduceBEq, Int.reduceAdd, Int.reduceSub, Int.reduceLT, Int.reduceLE, Int.reduceEq, Int.reduceToNat, c11, c14, c17]
        subst hK
        refine AW.seq ?_
        obtain ⟨x27, hx27, h⟩ := Option.bind_eq_some_iff.1 h
        obtain ⟨x28, hx28, h⟩ := Option.bind_eq_some_iff.1 h
        obtain ⟨x29, hx29, h⟩ := Option.bind_eq_some_iff.1 h
        by_cases c30 : x29 = true
        · rw [if_pos c30] at h
          obtain ⟨x31, hx31, h⟩ := Option.bind_eq_some_iff.1 h
          obtain ⟨x32, hx32, h⟩ := Option.bind_eq_some_iff.1 h
          obtain ⟨x33, hx33, h⟩ := Option.bind_eq_some_iff.1 h
          refine AW.regL [0, 7, 42] ?_
          generalize hK : AW Try.prog _ _ _ = K
          simp only [go_sem, ↓reduceIte, reduceCtorEq, Nat.reduceAdd, Nat.reduceSub, Nat.reduceMul, Nat.reduceEqDiff, Nat.reduceLT, Nat.reduceLeDiff, Nat.reduceBEq, Int.reduceAdd, Int.reduceSub, Int.reduceLT, Int.reduceLE, Int.reduceEq, Int.reduceToNat, c11, c14, c17, c30]
          refine arC.of (ok56 [a0] [a1, a2] x27 hx27) Try.call56 ?_
          simp only [go_sem, ↓reduceIte, reduceCtorEq, Nat.reduceAdd, Nat.reduceSub, Nat.reduceMul, Nat.reduceEqDiff, Nat.reduceLT, Nat.reduceLeDiff, Nat.reduceBEq, Int.reduceAdd, Int.reduceSub, Int.reduceLT, Int.reduceLE, Int.reduceEq, Int.reduceToNat, c11, c14, c17, c30]
          refine arC.of (ok57 [a0] [a1, a2] x28 hx28) Try.call57 ?_
          simp only [go_sem, ↓reduceIte, reduceCtorEq, Nat.reduceAdd, Nat.reduceSub, Nat.reduceMul, Nat.reduceEqDiff, Nat.reduceLT, Nat.reduceLeDiff, Nat.reduceBEq, Int.reduceAdd, Int.reduceSub, Int.reduceLT, Int.reduceLE, Int.reduceEq, Int.reduceToNat, c11, c14, c17, c30]
          refine arC.of (ok55 x27 x28 x29 hx29) Try.call55 ?_
          simp only [go_sem, ↓reduceIte, reduceCtorEq, Nat.reduceAdd, Nat.reduceSub, Nat.reduceMul, Nat.reduceEqDiff, Nat.reduceLT, Nat.reduceLeDiff, Nat.reduceBEq, Int.reduceAdd, Int.reduceSub, Int.reduceLT, Int.reduceLE, Int.reduceEq, Int.reduceToNat, c11, c14, c17, c30]
          refine arC.of (ok56 [a1, a2] [a0] x31 hx31) Try.call56 ?_
          simp only [go_sem, ↓reduceIte, reduceCtorEq, Nat.reduceAdd, Nat.reduceSub, Nat.reduceMul, Nat.reduceEqDiff, Nat.reduceLT, Nat.reduceLeDiff, Nat.reduceBEq, Int.reduceAdd, Int.reduceSub, Int.reduceLT, Int.reduceLE, Int.reduceEq, Int.reduceToNat, c11, c14, c17, c30]
          refine arC.of (ok57 [a1, a2] [a0] x32 hx32) Try.call57 ?_
          simp only [go_sem, ↓reduceIte, reduceCtorEq, Nat.reduceAdd, Nat.reduceSub, Nat.reduceMul, Nat.reduceEqDiff, Nat.reduceLT, Nat.reduceLeDiff, Nat.reduceBEq, Int.reduceAdd, Int.reduceSub, Int.reduceLT, Int.reduceLE, Int.reduceEq, Int.reduceToNat, c11, c14, c17, c30]
          refine arC.of (ok55 x31 x32 x33 hx33) Try.call55 ?_
          simp only [go_sem, ↓reduceIte, reduceCtorEq, Nat.reduceAdd, Nat.reduceSub, Nat.reduceMul, Nat.reduceEqDiff, Nat.reduceLT, Nat.reduceLeDiff, Nat.reduceBEq, Int.reduceAdd, Int.reduceSub, Int.reduceLT, Int.reduceLE, Int.reduceEq, Int.reduceToNat, c11, c14, c17, c30]
          subst hK
          by_cases c34 : x33 = true
          · rw [if_pos c34] at h
            refine AW.ifBF rfl (by rw [c34]; rfl) ?_
            refine AW.skip ?_
            refine thenA_n ?_
            obtain ⟨x35, hx35, h⟩ := Option.bind_eq_some_iff.1 h
            by_cases c36 : x35 = true
            · rw [if_pos c36] at h
              obtain ⟨x37, hx37, h⟩ := Option.bind_eq_some_iff.1 h
              by_cases c38 : ((x37.length : Nat) : Int) = 0
              · rw [if_pos c38] at h
                obtain ⟨x39, hx39, h⟩ := Option.bind_eq_some_iff.1 h
                refine AW.regL [6] ?_
                generalize hK : AW Try.prog _ _ _ = K
                simp only [go_sem, ↓reduceIte, reduceCtorEq, Nat.reduceAdd, Nat.reduceSub, Nat.reduceMul, Nat.reduceEqDiff, Nat.reduceLT, Nat.reduceLeDiff, Nat.reduceBEq, Int.reduceAdd, Int.reduceSub, Int.reduceLT, Int.reduceLE, Int.reduceEq, Int.reduceToNat, c11, c14, c17, c30, c34, c36, eq_true c38]
                refine arC.of (ok58 a0 x35 hx35) Try.call58 ?_
                simp only [go_sem, ↓reduceIte, reduceCtorEq, Nat.reduceAdd, Nat.reduceSub, Nat.reduceMul, Nat.reduceEqDiff, Nat.reduceLT, Nat.reduceLeDiff, Nat.reduceBEq, Int.reduceAdd, Int.reduceSub, Int.reduceLT, Int.reduceLE, Int.reduceEq, Int.reduceToNat, c11, c14, c17, c30, c34, c36, eq_true c38]
                refine arC.of (ok56 [a0] [a0] x37 hx37) Try.call56 ?_
                simp only [go_sem, ↓reduceIte, reduceCtorEq, Nat.reduceAdd, Nat.reduceSub, Nat.reduceMul, Nat.reduceEqDiff, Nat.reduceLT, Nat.reduceLeDiff, Nat.reduceBEq, Int.reduceAdd, Int.reduceSub, Int.reduceLT, Int.reduceLE, Int.reduceEq, Int.reduceToNat, c11, c14, c17, c30, c34, c36, eq_true c38]
                refine arC.of (ok14  x39 hx39) Try.call14 ?_
                simp only [go_sem, ↓reduceIte, reduceCtorEq, Nat.reduceAdd, Nat.reduceSub, Nat.reduceMul, Nat.reduceEqDiff, Nat.reduceLT, Nat.reduceLeDiff, Nat.reduceBEq, Int.reduceAdd, Int.reduceSub, Int.reduceLT, Int.reduceLE, Int.reduceEq, Int.reduceToNat, c11, c14, c17, c30, c34, c36, eq_true c38]
                subst hK
                refine AW.ret ?_
                obtain rfl := Option.some.inj h
                (simp only [go_sem, ↓reduceIte, reduceCtorEq, Nat.reduceAdd, Nat.reduceSub, Nat.reduceMul, Nat.reduceEqDiff, Nat.reduceLT, Nat.reduceLeDiff, Nat.reduceBEq, Int.reduceAdd, Int.reduceSub, Int.reduceLT, Int.reduceLE, Int.reduceEq, Int.reduceToNat, c11, c14, c17, c30, c34, c36, eq_true c38, finA, resA, resOf_1, resOf_2, sealV_val, sealV_sl, sealV_ip, sealV_agg, sealV_tup, sealV_own, sealL_nil, sealL_cons] <;> try simp)
              · rw [if_neg c38] at h
                refine AW.regL [6] ?_
                generalize hK : AW Try.prog _ _ _ = K
                simp only [go_sem, ↓reduceIte, reduceCtorEq, Nat.reduceAdd, Nat.reduceSub, Nat.reduceMul, Nat.reduceEqDiff, Nat.reduceLT, Nat.reduceLeDiff, Nat.reduceBEq, Int.reduceAdd, Int.reduceSub, Int.reduceLT, Int.reduceLE, Int.reduceEq, Int.reduceToNat, c11, c14, c17, c30, c34, c36, eq_false c38]
                refine arC.of (ok58 a0 x35 hx35) Try.call58 ?_
                simp only [go_sem, ↓reduceIte, reduceCtorEq, Nat.reduceAdd, Nat.reduceSub, Nat.reduceMul, Nat.reduceEqDiff, Nat.reduceLT, Nat.reduceLeDiff, Nat.reduceBEq, Int.reduceAdd, Int.reduceSub, Int.reduceLT, Int.reduceLE, Int.reduceEq, Int.reduceToNat, c11, c14, c17, c30, c34, c36, eq_false c38]
                refine arC.of (ok56 [a0] [a0] x37 hx37) Try.call56 ?_
                simp only [go_sem, ↓reduceIte, reduceCtorEq, Nat.reduceAdd, Nat.reduceSub, Nat.reduceMul, Nat.reduceEqDiff, Nat.reduceLT, Nat.reduceLeDiff, Nat.reduceBEq, Int.reduceAdd, Int.reduceSub, Int.reduceLT, Int.reduceLE, Int.reduceEq, Int.reduceToNat, c11, c14, c17, c30, c34, c36, eq_false c38]
                subst hK
                refine AW.ret ?_
                obtain rfl := Option.some.inj h
                (simp only [go_sem, ↓reduceIte, reduceCtorEq, Nat.reduceAdd, Nat.reduceSub, Nat.reduceMul, Nat.reduceEqDiff, Nat.reduceLT, Nat.reduceLeDiff, Nat.reduceBEq, Int.reduceAdd, Int.reduceSub, Int.reduceLT, Int.reduceLE, Int.reduceEq, Int.reduceToNat, c11, c14, c17, c30, c34, c36, eq_false c38, finA, resA, resOf_1, resOf_2, sealV_val, sealV_sl, sealV_ip, sealV_agg, sealV_tup, sealV_own, sealL_nil, sealL_cons] <;> try simp)
            · rw [if_neg c36] at h
              rw [Bool.not_eq_true] at c36
              obtain ⟨x40, hx40, h⟩ := Option.bind_eq_some_iff.1 h
              refine AW.regL [6] ?_
              generalize hK : AW Try.prog _ _ _ = K
              simp only [go_sem, ↓reduceIte, reduceCtorEq, Nat.reduceAdd, Nat.reduceSub, Nat.reduceMul, Nat.reduceEqDiff, Nat.reduceLT, Nat.reduceLeDiff, Nat.reduceBEq, Int.reduceAdd, Int.reduceSub, Int.reduceLT, Int.reduceLE, Int.reduceEq, Int.reduceToNat, c11, c14, c17, c30, c34, c36]
              refine arC.of (ok58 a0 x35 hx35) Try.call58 ?_
              simp only [go_sem, ↓reduceIte, reduceCtorEq, Nat.reduceAdd, Nat.reduceSub, Nat.reduceMul, Nat.reduceEqDiff, Nat.reduceLT, Nat.reduceLeDiff, Nat.reduceBEq, Int.reduceAdd, Int.reduceSub, Int.reduceLT, Int.reduceLE, Int.reduceEq, Int.reduceToNat, c11, c14, c17, c30, c34, c36]
              refine arC.of (ok14  x40 hx40) Try.call14 ?_
              simp only [go_sem, ↓reduceIte, reduceCtorEq, Nat.reduceAdd, Nat.reduceSub, Nat.reduceMul, Nat.reduceEqDiff, Nat.reduceLT, Nat.reduceLeDiff, Nat.reduceBEq, Int.reduceAdd, Int.reduceSub, Int.reduceLT, Int.reduceLE, Int.reduceEq, Int.reduceToNat, c11, c14, c17, c30, c34, c36]
              subst hK
              refine AW.ret ?_
              obtain rfl := Option.some.inj h
              (simp only [go_sem, ↓reduceIte, reduceCtorEq, Nat.reduceAdd, Nat.reduceSub, Nat.reduceMul, Nat.reduceEqDiff, Nat.reduceLT, Nat.reduceLeDiff, Nat.reduceBEq, Int.reduceAdd, Int.reduceSub, Int.reduceLT, Int.reduceLE, Int.reduceEq, Int.reduceToNat, c11, c14, c17, c30, c34, c36, finA, resA, resOf_1, resOf_2, sealV_val, sealV_sl, sealV_ip, sealV_agg, sealV_tup, sealV_own, sealL_nil, sealL_cons] <;> try simp)
          · rw [if_neg c34] at h
            rw [Bool.not_eq_true] at c34
            refine AW.ifBT rfl (by rw [c34]; rfl) ?_
            refine AW.regL [6] ?_
            generalize hK : AW Try.prog _ _ _ = K
            simp only [go_sem, ↓reduceIte, reduceCtorEq, Nat.reduceAdd, Nat.reduceSub, Nat.reduceMul, Nat.reduceEqDiff, Nat.reduceLT, Nat.reduceLeDiff, Nat.reduceBEq, Int.reduceAdd, Int.reduceSub, Int.reduceLT, Int.reduceLE, Int.reduceEq, Int.reduceToNat, c11, c14, c17, c30, c34]
            subst hK
            refine AW.ret ?_
            refine thenA_r ?_
            obtain rfl := Option.some.inj h
            (simp only [go_sem, ↓reduceIte, reduceCtorEq, Nat.reduceAdd, Nat.reduceSub, Nat.reduceMul, Nat.reduceEqDiff, Nat.reduceLT, Nat.reduceLeDiff, Nat.reduceBEq, Int.reduceAdd, Int.reduceSub, Int.reduceLT, Int.reduceLE, Int.reduceEq, Int.reduceToNat, c11, c14, c17, c30, c34, finA, resA, resOf_1, resOf_2, sealV_val, sealV_sl, sealV_ip, sealV_agg, sealV_tup, sealV_own, sealL_nil, sealL_cons] <;> try simp)
        · rw [if_neg c30] at h
          rw [Bool.not_eq_true] at c30
          refine AW.regL [0, 7, 42] ?_
          generalize hK : AW Try.prog _ _ _ = K
          simp only [go_sem, ↓reduceIte, reduceCtorEq, Nat.reduceAdd, Nat.reduceSub, Nat.reduceMul, Nat.reduceEqDiff, Nat.reduceLT, Nat.reduceLeDiff, Nat.reduceBEq, Int.reduceAdd, Int.reduceSub, Int.reduceLT, Int.reduceLE, Int.reduceEq, Int.reduceToNat, c11, c14, c17, c30]
          refine arC.of (ok56 [a0] [a1, a2] x27 hx27) Try.call56 ?_
          simp only [go_sem, ↓reduceIte, reduceCtorEq, Nat.reduceAdd, Nat.reduceSub, Nat.reduceMul, Nat.reduceEqDiff, Nat.reduceLT, Nat.reduceLeDiff, Nat.reduceBEq, Int.reduceAdd, Int.reduceSub, Int.reduceLT, Int.reduceLE, Int.reduceEq, Int.reduceToNat, c11, c14, c17, c30]
          refine arC.of (ok57 [a0] [a1, a2] x28 hx28) Try.call57 ?_
          simp only [go_sem, ↓reduceIte, reduceCtorEq, Nat.reduceAdd, Nat.reduceSub, Nat.reduceMul, Nat.reduceEqDiff, Nat.reduceLT, Nat.reduceLeDiff, Nat.reduceBEq, Int.reduceAdd, Int.reduceSub, Int.reduceLT, Int.reduceLE, Int.reduceEq, Int.reduceToNat, c11, c14, c17, c30]
          refine arC.of (ok55 x27 x28 x29 hx29) Try.call55 ?_
          simp only [go_sem, ↓reduceIte, reduceCtorEq, Nat.reduceAdd, Nat.reduceSub, Nat.reduceMul, Nat.reduceEqDiff, Nat.reduceLT, Nat.reduceLeDiff, Nat.reduceBEq, Int.reduceAdd, Int.reduceSub, Int.reduceLT, Int.reduceLE, Int.reduceEq, Int.reduceToNat, c11, c14, c17, c30]
          subst hK
          refine AW.ifBT rfl rfl ?_
          refine AW.regL [6] ?_
          generalize hK : AW Try.prog _ _ _ = K
          simp only [go_sem, ↓reduceIte, reduceCtorEq, Nat.reduceAdd, Nat.reduceSub, Nat.reduceMul, Nat.reduceEqDiff, Nat.reduceLT, Nat.reduceLeDiff, Nat.reduceBEq, Int.reduceAdd, Int.reduceSub, Int.reduceLT, Int.reduceLE, Int.reduceEq, Int.reduceToNat, c11, c14, c17, c30]
          subst hK
          refine AW.ret ?_
          refine thenA_r ?_
          obtain rfl := Option.some.inj h
          (simp only [go_sem, ↓reduceIte, reduceCtorEq, Nat.reduceAdd, Nat.reduceSub, Nat.reduceMul, Nat.reduceEqDiff, Nat.reduceLT, Nat.reduceLeDiff, Nat.reduceBEq, Int.reduceAdd, Int.reduceSub, Int.reduceLT, Int.reduceLE, Int.reduceEq, Int.reduceToNat, c11, c14, c17, c30, finA, resA, resOf_1, resOf_2, sealV_val, sealV_sl, sealV_ip, sealV_agg, sealV_tup, sealV_own, sealL_nil, sealL_cons] <;> try simp)
end Au
end Go.Proofs.Y1
