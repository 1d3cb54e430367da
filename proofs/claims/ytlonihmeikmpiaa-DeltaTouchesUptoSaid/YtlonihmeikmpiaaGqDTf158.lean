import Derived.Test.YtlonihmeikmpiaaGqDT
import Derived.Test.YtlonihmeikmpiaaGqDTf70
set_option linter.all false
set_option linter.unusedVariables false
set_option linter.unusedSimpArgs false
set_option linter.all false
set_option maxRecDepth 8000
set_option maxHeartbeats 1000000
namespace Go.Proofs.Y1
open Go.Gm
namespace Au
noncomputable def f158_j1 (a0 : Val) (a1 : Val) : Unit → Option Int
  | _ => (if a0.Kind = 0 then some (-1) else (if a1.Kind = 0 then some 1 else ((f70 a0.Text a1.Text).bind fun x12 => (if x12 = true then some (-1) else (if a0.Text = a1.Text then some 0 else some 1)))))
noncomputable def f158 (a0 : Val) (a1 : Val) : Option Int := (if a0.Kind = 0 then (if a1.Kind = 0 then (if a0.Int < a1.Int then some (-1) else (if a1.Int < a0.Int then some 1 else some 0)) else f158_j1 a0 a1 ()) else f158_j1 a0 a1 ())
theorem ok158 (a0 : Val) (a1 : Val) (r : Int) (h : f158 a0 a1 = some r) : PC Try.prog 158 [.agg (encVal a0), .agg (encVal a1)] (.val (.int .i64 r)) := by
  rw [f158] at h
  refine pc_of8 (N := 39) (rs := [.tmp 4]) Try.func158 rfl rfl rfl (Nat.le_of_ble_eq_true rfl) ?_
  refine AW.regL [2, 3] ?_
  generalize hK : AW Try.prog _ _ _ = K
  simp only [go_sem, ↓reduceIte, reduceCtorEq, Nat.reduceAdd, Nat.reduceSub, Nat.reduceMul, Nat.reduceEqDiff, Nat.reduceLT, Nat.reduceLeDiff, Nat.reduceBEq, Int.reduceAdd, Int.reduceSub, Int.reduceLT, Int.reduceLE, Int.reduceEq, Int.reduceToNat]
  subst hK
  refine AW.join (fun s => ⟨(upd (upd anyF 2 (.ptr 8 0 0)) 3 (.ptr 9 0 0)), hpL [] [some (.row 3 true [[.val (.int .u8 a0.Kind), .val (.int .i64 a0.Int), .val (.string a0.Text)]]), some (.row 3 true [[.val (.int .u8 a1.Kind), .val (.int .i64 a1.Int), .val (.string a1.Text)]])], 10⟩) (fun s => f158_j1 a0 a1 s = some r) ?_ ?_
  · by_cases c15 : a0.Kind = 0
    · rw [if_pos c15] at h
      refine AW.regL [2, 3, 12] ?_
      generalize hK : AW Try.prog _ _ _ = K
      simp only [go_sem, ↓reduceIte, reduceCtorEq, Nat.reduceAdd, Nat.reduceSub, Nat.reduceMul, Nat.reduceEqDiff, Nat.reduceLT, Nat.reduceLeDiff, Nat.reduceBEq, Int.reduceAdd, Int.reduceSub, Int.reduceLT, Int.reduceLE, Int.reduceEq, Int.reduceToNat, eq_true c15]
      subst hK
      by_cases c16 : a1.Kind = 0
      · rw [if_pos c16] at h
        refine AW.ifT rfl c16 ?_
        refine AW.seq ?_
        refine AW.regL [2, 3, 17] ?_
        generalize hK : AW Try.prog _ _ _ = K
        simp only [go_sem, ↓reduceIte, reduceCtorEq, Nat.reduceAdd, Nat.reduceSub, Nat.reduceMul, Nat.reduceEqDiff, Nat.reduceLT, Nat.reduceLeDiff, Nat.reduceBEq, Int.reduceAdd, Int.reduceSub, Int.reduceLT, Int.reduceLE, Int.reduceEq, Int.reduceToNat, eq_true c15, eq_true c16]
        subst hK
        by_cases c18 : a0.Int < a1.Int
        · rw [if_pos c18] at h
          refine AW.ifT rfl c18 ?_
          refine AW.regL [4] ?_
          generalize hK : AW Try.prog _ _ _ = K
          simp only [go_sem, ↓reduceIte, reduceCtorEq, Nat.reduceAdd, Nat.reduceSub, Nat.reduceMul, Nat.reduceEqDiff, Nat.reduceLT, Nat.reduceLeDiff, Nat.reduceBEq, Int.reduceAdd, Int.reduceSub, Int.reduceLT, Int.reduceLE, Int.reduceEq, Int.reduceToNat, eq_true c15, eq_true c16, eq_true c18]
          subst hK
          refine AW.ret ?_
          refine thenA_r ?_
          refine thenA_r ?_
          obtain rfl := Option.some.inj h
          (simp only [go_sem, ↓reduceIte, reduceCtorEq, Nat.reduceAdd, Nat.reduceSub, Nat.reduceMul, Nat.reduceEqDiff, Nat.reduceLT, Nat.reduceLeDiff, Nat.reduceBEq, Int.reduceAdd, Int.reduceSub, Int.reduceLT, Int.reduceLE, Int.reduceEq, Int.reduceToNat, eq_true c15, eq_true c16, eq_true c18, finA, resA, resOf_1, resOf_2, sealV_val, sealV_sl, sealV_ip, sealV_agg, sealV_tup, sealV_own, sealL_nil, sealL_cons] <;> try simp)
        · rw [if_neg c18] at h
          refine AW.ifF rfl c18 ?_
          refine AW.skip ?_
          refine thenA_n ?_
          refine AW.seq ?_
          refine AW.regL [22] ?_
          generalize hK : AW Try.prog _ _ _ = K
          simp only [go_sem, ↓reduceIte, reduceCtorEq, Nat.reduceAdd, Nat.reduceSub, Nat.reduceMul, Nat.reduceEqDiff, Nat.reduceLT, Nat.reduceLeDiff, Nat.reduceBEq, Int.reduceAdd, Int.reduceSub, Int.reduceLT, Int.reduceLE, Int.reduceEq, Int.reduceToNat, eq_true c15, eq_true c16, eq_false c18]
          subst hK
          by_cases c19 : a1.Int < a0.Int
          · rw [if_pos c19] at h
            refine AW.ifT rfl c19 ?_
            refine AW.regL [4] ?_
            generalize hK : AW Try.prog _ _ _ = K
            simp only [go_sem, ↓reduceIte, reduceCtorEq, Nat.reduceAdd, Nat.reduceSub, Nat.reduceMul, Nat.reduceEqDiff, Nat.reduceLT, Nat.reduceLeDiff, Nat.reduceBEq, Int.reduceAdd, Int.reduceSub, Int.reduceLT, Int.reduceLE, Int.reduceEq, Int.reduceToNat, eq_true c15, eq_true c16, eq_false c18, eq_true c19]
            subst hK
            refine AW.ret ?_
            refine thenA_r ?_
            refine thenA_r ?_
            obtain rfl := Option.some.inj h
            (simp only [go_sem, ↓reduceIte, reduceCtorEq, Nat.reduceAdd, Nat.reduceSub, Nat.reduceMul, Nat.reduceEqDiff, Nat.reduceLT, Nat.reduceLeDiff, Nat.reduceBEq, Int.reduceAdd, Int.reduceSub, Int.reduceLT, Int.reduceLE, Int.reduceEq, Int.reduceToNat, eq_true c15, eq_true c16, eq_false c18, eq_true c19, finA, resA, resOf_1, resOf_2, sealV_val, sealV_sl, sealV_ip, sealV_agg, sealV_tup, sealV_own, sealL_nil, sealL_cons] <;> try simp)
          · rw [if_neg c19] at h
            refine AW.ifF rfl c19 ?_
            refine AW.skip ?_
            refine thenA_n ?_
            refine AW.regL [4] ?_
            generalize hK : AW Try.prog _ _ _ = K
            simp only [go_sem, ↓reduceIte, reduceCtorEq, Nat.reduceAdd, Nat.reduceSub, Nat.reduceMul, Nat.reduceEqDiff, Nat.reduceLT, Nat.reduceLeDiff, Nat.reduceBEq, Int.reduceAdd, Int.reduceSub, Int.reduceLT, Int.reduceLE, Int.reduceEq, Int.reduceToNat, eq_true c15, eq_true c16, eq_false c18, eq_false c19]
            subst hK
            refine AW.ret ?_
            refine thenA_r ?_
            obtain rfl := Option.some.inj h
            (simp only [go_sem, ↓reduceIte, reduceCtorEq, Nat.reduceAdd, Nat.reduceSub, Nat.reduceMul, Nat.reduceEqDiff, Nat.reduceLT, Nat.reduceLeDiff, Nat.reduceBEq, Int.reduceAdd, Int.reduceSub, Int.reduceLT, Int.reduceLE, Int.reduceEq, Int.reduceToNat, eq_true c15, eq_true c16, eq_false c18, eq_false c19, finA, resA, resOf_1, resOf_2, sealV_val, sealV_sl, sealV_ip, sealV_agg, sealV_tup, sealV_own, sealL_nil, sealL_cons] <;> try simp)
      · rw [if_neg c16] at h
        refine AW.ifF rfl c16 ?_
        refine AW.skip ?_
        refine thenA_n ?_
        refine ⟨_, h, ?_⟩
        refine Ent.can [8, 16] _ _ _ rfl (by first | decide | simp) rfl ?_ ?_ ?_
        · exact ((RF.any.pp (by decide) (by first | rfl | simp [upd_ap, hpL_ap, tau, mapT, mapTL, bytesI_len, eq_true c15, eq_false c16])).pp (by decide) (by first | rfl | simp [upd_ap, hpL_ap, tau, mapT, mapTL, bytesI_len, eq_true c15, eq_false c16]))
        · exact .nil _
        · exact .cons (.eq (by first | rfl | simp only [go_sem]) (by first | rfl | simp [upd_ap, hpL_ap, tau, mapT, mapTL, bytesI_len, eq_true c15, eq_false c16])) (.cons (.eq (by first | rfl | simp only [go_sem]) (by first | rfl | simp [upd_ap, hpL_ap, tau, mapT, mapTL, bytesI_len, eq_true c15, eq_false c16])) (.nil _))
    · rw [if_neg c15] at h
      refine AW.regL [2, 3, 12] ?_
      generalize hK : AW Try.prog _ _ _ = K
      simp only [go_sem, ↓reduceIte, reduceCtorEq, Nat.reduceAdd, Nat.reduceSub, Nat.reduceMul, Nat.reduceEqDiff, Nat.reduceLT, Nat.reduceLeDiff, Nat.reduceBEq, Int.reduceAdd, Int.reduceSub, Int.reduceLT, Int.reduceLE, Int.reduceEq, Int.reduceToNat, eq_false c15]
      subst hK
      refine AW.ifBF rfl rfl ?_
      refine AW.skip ?_
      refine thenA_n ?_
      refine ⟨_, h, ?_⟩
      refine Ent.can [8, 16] _ _ _ rfl (by first | decide | simp) rfl ?_ ?_ ?_
      · exact ((RF.any.pp (by decide) (by first | rfl | simp [upd_ap, hpL_ap, tau, mapT, mapTL, bytesI_len, eq_false c15])).pp (by decide) (by first | rfl | simp [upd_ap, hpL_ap, tau, mapT, mapTL, bytesI_len, eq_false c15]))
      · exact .nil _
      · exact .cons (.eq (by first | rfl | simp only [go_sem]) (by first | rfl | simp [upd_ap, hpL_ap, tau, mapT, mapTL, bytesI_len, eq_false c15])) (.cons (.eq (by first | rfl | simp only [go_sem]) (by first | rfl | simp [upd_ap, hpL_ap, tau, mapT, mapTL, bytesI_len, eq_false c15])) (.nil _))
  · clear h
    rintro ⟨⟩ h
    rw [f158_j1] at h
    refine AW.seq ?_
    refine AW.regL [2, 3, 25] ?_
    generalize hK : AW Try.prog _ _ _ = K
    simp only [go_sem, ↓reduceIte, reduceCtorEq, Nat.reduceAdd, Nat.reduceSub, Nat.reduceMul, Nat.reduceEqDiff, Nat.reduceLT, Nat.reduceLeDiff, Nat.reduceBEq, Int.reduceAdd, Int.reduceSub, Int.reduceLT, Int.reduceLE, Int.reduceEq, Int.reduceToNat]
    subst hK
    by_cases c7 : a0.Kind = 0
    · rw [if_pos c7] at h
      refine AW.ifT rfl c7 ?_
      refine AW.regL [4] ?_
      generalize hK : AW Try.prog _ _ _ = K
      simp only [go_sem, ↓reduceIte, reduceCtorEq, Nat.reduceAdd, Nat.reduceSub, Nat.reduceMul, Nat.reduceEqDiff, Nat.reduceLT, Nat.reduceLeDiff, Nat.reduceBEq, Int.reduceAdd, Int.reduceSub, Int.reduceLT, Int.reduceLE, Int.reduceEq, Int.reduceToNat, eq_true c7]
      subst hK
      refine AW.ret ?_
      refine thenA_r ?_
      obtain rfl := Option.some.inj h
      (simp only [go_sem, ↓reduceIte, reduceCtorEq, Nat.reduceAdd, Nat.reduceSub, Nat.reduceMul, Nat.reduceEqDiff, Nat.reduceLT, Nat.reduceLeDiff, Nat.reduceBEq, Int.reduceAdd, Int.reduceSub, Int.reduceLT, Int.reduceLE, Int.reduceEq, Int.reduceToNat, eq_true c7, finA, resA, resOf_1, resOf_2, sealV_val, sealV_sl, sealV_ip, sealV_agg, sealV_tup, sealV_own, sealL_nil, sealL_cons] <;> try simp)
    · rw [if_neg c7] at h
      refine AW.ifF rfl c7 ?_
      refine AW.skip ?_
      refine thenA_n ?_
      refine AW.seq ?_
      refine AW.regL [2, 3, 28] ?_
      generalize hK : AW Try.prog _ _ _ = K
      simp only [go_sem, ↓reduceIte, reduceCtorEq, Nat.reduceAdd, Nat.reduceSub, Nat.reduceMul, Nat.reduceEqDiff, Nat.reduceLT, Nat.reduceLeDiff, Nat.reduceBEq, Int.reduceAdd, Int.reduceSub, Int.reduceLT, Int.reduceLE, Int.reduceEq, Int.reduceToNat, eq_false c7]
      subst hK
      by_cases c9 : a1.Kind = 0
      · rw [if_pos c9] at h
        refine AW.ifT rfl c9 ?_
        refine AW.regL [4] ?_
        generalize hK : AW Try.prog _ _ _ = K
        simp only [go_sem, ↓reduceIte, reduceCtorEq, Nat.reduceAdd, Nat.reduceSub, Nat.reduceMul, Nat.reduceEqDiff, Nat.reduceLT, Nat.reduceLeDiff, Nat.reduceBEq, Int.reduceAdd, Int.reduceSub, Int.reduceLT, Int.reduceLE, Int.reduceEq, Int.reduceToNat, eq_false c7, eq_true c9]
        subst hK
        refine AW.ret ?_
        refine thenA_r ?_
        obtain rfl := Option.some.inj h
        (simp only [go_sem, ↓reduceIte, reduceCtorEq, Nat.reduceAdd, Nat.reduceSub, Nat.reduceMul, Nat.reduceEqDiff, Nat.reduceLT, Nat.reduceLeDiff, Nat.reduceBEq, Int.reduceAdd, Int.reduceSub, Int.reduceLT, Int.reduceLE, Int.reduceEq, Int.reduceToNat, eq_false c7, eq_true c9, finA, resA, resOf_1, resOf_2, sealV_val, sealV_sl, sealV_ip, sealV_agg, sealV_tup, sealV_own, sealL_nil, sealL_cons] <;> try simp)
      · rw [if_neg c9] at h
        refine AW.ifF rfl c9 ?_
        refine AW.skip ?_
        refine thenA_n ?_
        refine AW.seq ?_
        obtain ⟨x12, hx12, h⟩ := Option.bind_eq_some_iff.1 h
        refine AW.regL [2, 3, 33] ?_
        generalize hK : AW Try.prog _ _ _ = K
        simp only [go_sem, ↓reduceIte, reduceCtorEq, Nat.reduceAdd, Nat.reduceSub, Nat.reduceMul, Nat.reduceEqDiff, Nat.reduceLT, Nat.reduceLeDiff, Nat.reduceBEq, Int.reduceAdd, Int.reduceSub, Int.reduceLT, Int.reduceLE, Int.reduceEq, Int.reduceToNat, eq_false c7, eq_false c9]
        refine arC.of (ok70 a0.Text a1.Text x12 hx12) Try.call70 ?_
        simp only [go_sem, ↓reduceIte, reduceCtorEq, Nat.reduceAdd, Nat.reduceSub, Nat.reduceMul, Nat.reduceEqDiff, Nat.reduceLT, Nat.reduceLeDiff, Nat.reduceBEq, Int.reduceAdd, Int.reduceSub, Int.reduceLT, Int.reduceLE, Int.reduceEq, Int.reduceToNat, eq_false c7, eq_false c9]
        subst hK
        by_cases c13 : x12 = true
        · rw [if_pos c13] at h
          refine AW.ifBT rfl c13 ?_
          refine AW.regL [4] ?_
          generalize hK : AW Try.prog _ _ _ = K
          simp only [go_sem, ↓reduceIte, reduceCtorEq, Nat.reduceAdd, Nat.reduceSub, Nat.reduceMul, Nat.reduceEqDiff, Nat.reduceLT, Nat.reduceLeDiff, Nat.reduceBEq, Int.reduceAdd, Int.reduceSub, Int.reduceLT, Int.reduceLE, Int.reduceEq, Int.reduceToNat, eq_false c7, eq_false c9, c13]
          subst hK
          refine AW.ret ?_
          refine thenA_r ?_
          obtain rfl := Option.some.inj h
          (simp only [go_sem, ↓reduceIte, reduceCtorEq, Nat.reduceAdd, Nat.reduceSub, Nat.reduceMul, Nat.reduceEqDiff, Nat.reduceLT, Nat.reduceLeDiff, Nat.reduceBEq, Int.reduceAdd, Int.reduceSub, Int.reduceLT, Int.reduceLE, Int.reduceEq, Int.reduceToNat, eq_false c7, eq_false c9, c13, finA, resA, resOf_1, resOf_2, sealV_val, sealV_sl, sealV_ip, sealV_agg, sealV_tup, sealV_own, sealL_nil, sealL_cons] <;> try simp)
        · rw [if_neg c13] at h
          rw [Bool.not_eq_true] at c13
          refine AW.ifBF rfl c13 ?_
          refine AW.skip ?_
          refine thenA_n ?_
          refine AW.seq ?_
          refine AW.regL [38] ?_
          generalize hK : AW Try.prog _ _ _ = K
          simp only [go_sem, ↓reduceIte, reduceCtorEq, Nat.reduceAdd, Nat.reduceSub, Nat.reduceMul, Nat.reduceEqDiff, Nat.reduceLT, Nat.reduceLeDiff, Nat.reduceBEq, Int.reduceAdd, Int.reduceSub, Int.reduceLT, Int.reduceLE, Int.reduceEq, Int.reduceToNat, eq_false c7, eq_false c9, c13]
          subst hK
          by_cases c14 : a0.Text = a1.Text
          · rw [if_pos c14] at h
            refine AW.ifT rfl c14 ?_
            refine AW.regL [4] ?_
            generalize hK : AW Try.prog _ _ _ = K
            simp only [go_sem, ↓reduceIte, reduceCtorEq, Nat.reduceAdd, Nat.reduceSub, Nat.reduceMul, Nat.reduceEqDiff, Nat.reduceLT, Nat.reduceLeDiff, Nat.reduceBEq, Int.reduceAdd, Int.reduceSub, Int.reduceLT, Int.reduceLE, Int.reduceEq, Int.reduceToNat, eq_false c7, eq_false c9, c13, eq_true c14]
            subst hK
            refine AW.ret ?_
            refine thenA_r ?_
            obtain rfl := Option.some.inj h
            (simp only [go_sem, ↓reduceIte, reduceCtorEq, Nat.reduceAdd, Nat.reduceSub, Nat.reduceMul, Nat.reduceEqDiff, Nat.reduceLT, Nat.reduceLeDiff, Nat.reduceBEq, Int.reduceAdd, Int.reduceSub, Int.reduceLT, Int.reduceLE, Int.reduceEq, Int.reduceToNat, eq_false c7, eq_false c9, c13, eq_true c14, finA, resA, resOf_1, resOf_2, sealV_val, sealV_sl, sealV_ip, sealV_agg, sealV_tup, sealV_own, sealL_nil, sealL_cons] <;> try simp)
          · rw [if_neg c14] at h
            refine AW.ifF rfl c14 ?_
            refine AW.skip ?_
            refine thenA_n ?_
            refine AW.regL [4] ?_
            generalize hK : AW Try.prog _ _ _ = K
            simp only [go_sem, ↓reduceIte, reduceCtorEq, Nat.reduceAdd, Nat.reduceSub, Nat.reduceMul, Nat.reduceEqDiff, Nat.reduceLT, Nat.reduceLeDiff, Nat.reduceBEq, Int.reduceAdd, Int.reduceSub, Int.reduceLT, Int.reduceLE, Int.reduceEq, Int.reduceToNat, eq_false c7, eq_false c9, c13, eq_false c14]
            subst hK
            refine AW.ret ?_
            obtain rfl := Option.some.inj h
            (simp only [go_sem, ↓reduceIte, reduceCtorEq, Nat.reduceAdd, Nat.reduceSub, Nat.reduceMul, Nat.reduceEqDiff, Nat.reduceLT, Nat.reduceLeDiff, Nat.reduceBEq, Int.reduceAdd, Int.reduceSub, Int.reduceLT, Int.reduceLE, Int.reduceEq, Int.reduceToNat, eq_false c7, eq_false c9, c13, eq_false c14, finA, resA, resOf_1, resOf_2, sealV_val, sealV_sl, sealV_ip, sealV_agg, sealV_tup, sealV_own, sealL_nil, sealL_cons] <;> try simp)
end Au
end Go.Proofs.Y1
