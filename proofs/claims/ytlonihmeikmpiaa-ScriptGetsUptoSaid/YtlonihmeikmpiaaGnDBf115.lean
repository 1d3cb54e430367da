import Derived.Test.YtlonihmeikmpiaaGnDB
import Derived.Test.YtlonihmeikmpiaaGnDBf142
import Derived.Test.YtlonihmeikmpiaaGnDBf124
set_option linter.all false
set_option linter.unusedVariables false
set_option linter.unusedSimpArgs false
set_option linter.all false
set_option maxRecDepth 8000
namespace Go.Proofs.Y1
open Go.Gm
namespace Au
noncomputable def f115_s2 (x24 : List Int) : Int × Int → Option ((Int × Int) ⊕ Int)
  | (s2_0, s2_1) => (if s2_1 < (x24.length : Int) then ((ix x24 s2_1).bind fun x36 => some (.inl (orV .u64 (shlV .u64 s2_0 8) (IntKind.u64.wrap x36), IntKind.i64.wrap (s2_1 + 1)))) else some (.inr s2_0))
noncomputable def f115_j1 (a0 : List Int) (a1 : Int) (x8 : Int) : Int → Option (Int × Int × Int)
  | j1_0 => ((cutO? a0 (IntKind.i64.wrap (a1 + 1)) (IntKind.i64.wrap (a1 + (IntKind.i64.wrap (1 + x8))))).bind fun x24 => ((loopO (f115_s2 x24) (j1_0, 0)).bind fun y38 => ((f124 y38).bind fun x39 => (if x39 = (IntKind.i64.wrap (1 + x8)) then some (y38, IntKind.i64.wrap (a1 + (IntKind.i64.wrap (1 + x8))), 0) else some (0, 0, 3)))))
noncomputable def f115 (a0 : List Int) (a1 : Int) : Option (Int × Int × Int) := (if a1 < 0 then some (0, 0, 8) else (if (a0.length : Int) < a1 then some (0, 0, 8) else (if a1 = (a0.length : Int) then some (0, 0, 2) else ((ix a0 a1).bind fun x7 => ((f142 (xorV .u8 (allV .u8) x7)).bind fun x8 => (if (IntKind.i64.wrap ((a0.length : Int) - a1)) < (IntKind.i64.wrap (1 + x8)) then some (0, 0, 2) else (if (IntKind.i64.wrap (1 + x8)) < 9 then ((guardO (0 ≤ (IntKind.i64.wrap (1 + x8)))).bind fun x42 => f115_j1 a0 a1 x8 (andV .u64 (IntKind.u64.wrap x7) (shrV .u64 255 (IntKind.i64.wrap (1 + x8)).toNat))) else f115_j1 a0 a1 x8 0)))))))
theorem ok115 (a0 : List Int) (a1 : Int) (r : Int × Int × Int) (h : f115 a0 a1 = some r) : PC Try.prog 115 [.sl (List.map enc5 a0), .val (.int .i64 a1)] (.tup [.val (.int .u64 r.1), .val (.int .i64 r.2.1), .val (.int .i64 r.2.2)]) := by
  rw [f115] at h
  refine pc_of8 (N := 71) (rs := [.tmp 4, .tmp 5, .tmp 6]) Try.func115 rfl rfl rfl (Nat.le_of_ble_eq_true rfl) ?_
  refine AW.regL [0, 1, 4] ?_
  generalize hK : AW Try.prog _ _ _ = K
  simp only [go_sem, ↓reduceIte, reduceCtorEq, Nat.reduceAdd, Nat.reduceSub, Nat.reduceMul, Nat.reduceEqDiff, Nat.reduceLT, Nat.reduceLeDiff, Nat.reduceBEq, Int.reduceAdd, Int.reduceSub, Int.reduceLT, Int.reduceLE, Int.reduceEq, Int.reduceToNat]
  subst hK
  refine AW.seq ?_
  by_cases c3 : a1 < 0
  · rw [if_pos c3] at h
    refine AW.regL [0, 1, 4, 17] ?_
    generalize hK : AW Try.prog _ _ _ = K
    simp only [go_sem, ↓reduceIte, reduceCtorEq, Nat.reduceAdd, Nat.reduceSub, Nat.reduceMul, Nat.reduceEqDiff, Nat.reduceLT, Nat.reduceLeDiff, Nat.reduceBEq, Int.reduceAdd, Int.reduceSub, Int.reduceLT, Int.reduceLE, Int.reduceEq, Int.reduceToNat, eq_true c3]
    subst hK
    refine AW.ifBT rfl rfl ?_
    refine AW.regL [4, 5, 6] ?_
    generalize hK : AW Try.prog _ _ _ = K
    simp only [go_sem, ↓reduceIte, reduceCtorEq, Nat.reduceAdd, Nat.reduceSub, Nat.reduceMul, Nat.reduceEqDiff, Nat.reduceLT, Nat.reduceLeDiff, Nat.reduceBEq, Int.reduceAdd, Int.reduceSub, Int.reduceLT, Int.reduceLE, Int.reduceEq, Int.reduceToNat, eq_true c3]
    subst hK
    refine AW.ret ?_
    refine thenA_r ?_
    obtain rfl := Option.some.inj h
    (simp only [go_sem, ↓reduceIte, reduceCtorEq, Nat.reduceAdd, Nat.reduceSub, Nat.reduceMul, Nat.reduceEqDiff, Nat.reduceLT, Nat.reduceLeDiff, Nat.reduceBEq, Int.reduceAdd, Int.reduceSub, Int.reduceLT, Int.reduceLE, Int.reduceEq, Int.reduceToNat, eq_true c3, finA, resA, resOf_1, resOf_2, sealV_val, sealV_sl, sealV_ip, sealV_agg, sealV_tup, sealV_own, sealL_nil, sealL_cons] <;> try simp)
  · rw [if_neg c3] at h
    refine AW.regL [0, 1, 4, 17] ?_
    generalize hK : AW Try.prog _ _ _ = K
    simp only [go_sem, ↓reduceIte, reduceCtorEq, Nat.reduceAdd, Nat.reduceSub, Nat.reduceMul, Nat.reduceEqDiff, Nat.reduceLT, Nat.reduceLeDiff, Nat.reduceBEq, Int.reduceAdd, Int.reduceSub, Int.reduceLT, Int.reduceLE, Int.reduceEq, Int.reduceToNat, eq_false c3]
    subst hK
    by_cases c4 : (a0.length : Int) < a1
    · rw [if_pos c4] at h
      refine AW.ifT rfl c4 ?_
      refine AW.regL [4, 5, 6] ?_
      generalize hK : AW Try.prog _ _ _ = K
      simp only [go_sem, ↓reduceIte, reduceCtorEq, Nat.reduceAdd, Nat.reduceSub, Nat.reduceMul, Nat.reduceEqDiff, Nat.reduceLT, Nat.reduceLeDiff, Nat.reduceBEq, Int.reduceAdd, Int.reduceSub, Int.reduceLT, Int.reduceLE, Int.reduceEq, Int.reduceToNat, eq_false c3, eq_true c4]
      subst hK
      refine AW.ret ?_
      refine thenA_r ?_
      obtain rfl := Option.some.inj h
      (simp only [go_sem, ↓reduceIte, reduceCtorEq, Nat.reduceAdd, Nat.reduceSub, Nat.reduceMul, Nat.reduceEqDiff, Nat.reduceLT, Nat.reduceLeDiff, Nat.reduceBEq, Int.reduceAdd, Int.reduceSub, Int.reduceLT, Int.reduceLE, Int.reduceEq, Int.reduceToNat, eq_false c3, eq_true c4, finA, resA, resOf_1, resOf_2, sealV_val, sealV_sl, sealV_ip, sealV_agg, sealV_tup, sealV_own, sealL_nil, sealL_cons] <;> try simp)
    · rw [if_neg c4] at h
      refine AW.ifF rfl c4 ?_
      refine AW.skip ?_
      refine thenA_n ?_
      refine AW.seq ?_
      refine AW.regL [0, 1, 4, 21] ?_
      generalize hK : AW Try.prog _ _ _ = K
      simp only [go_sem, ↓reduceIte, reduceCtorEq, Nat.reduceAdd, Nat.reduceSub, Nat.reduceMul, Nat.reduceEqDiff, Nat.reduceLT, Nat.reduceLeDiff, Nat.reduceBEq, Int.reduceAdd, Int.reduceSub, Int.reduceLT, Int.reduceLE, Int.reduceEq, Int.reduceToNat, eq_false c3, eq_false c4]
      subst hK
      by_cases c6 : a1 = (a0.length : Int)
      · rw [if_pos c6] at h
        refine AW.ifT rfl c6 ?_
        refine AW.regL [4, 5, 6] ?_
        generalize hK : AW Try.prog _ _ _ = K
        simp only [go_sem, ↓reduceIte, reduceCtorEq, Nat.reduceAdd, Nat.reduceSub, Nat.reduceMul, Nat.reduceEqDiff, Nat.reduceLT, Nat.reduceLeDiff, Nat.reduceBEq, Int.reduceAdd, Int.reduceSub, Int.reduceLT, Int.reduceLE, Int.reduceEq, Int.reduceToNat, eq_false c3, eq_false c4, eq_true c6]
        subst hK
        refine AW.ret ?_
        refine thenA_r ?_
        obtain rfl := Option.some.inj h
        (simp only [go_sem, ↓reduceIte, reduceCtorEq, Nat.reduceAdd, Nat.reduceSub, Nat.reduceMul, Nat.reduceEqDiff, Nat.reduceLT, Nat.reduceLeDiff, Nat.reduceBEq, Int.reduceAdd, Int.reduceSub, Int.reduceLT, Int.reduceLE, Int.reduceEq, Int.reduceToNat, eq_false c3, eq_false c4, eq_true c6, finA, resA, resOf_1, resOf_2, sealV_val, sealV_sl, sealV_ip, sealV_agg, sealV_tup, sealV_own, sealL_nil, sealL_cons] <;> try simp)
      · rw [if_neg c6] at h
        refine AW.ifF rfl c6 ?_
        refine AW.skip ?_
        refine thenA_n ?_
        obtain ⟨x7, hx7, h⟩ := Option.bind_eq_some_iff.1 h
        obtain ⟨hx7a, hx7b⟩ := ix_some.1 hx7
        obtain ⟨x8, hx8, h⟩ := Option.bind_eq_some_iff.1 h
        refine AW.regL [0, 1, 4, 7] ?_
        generalize hK : AW Try.prog _ _ _ = K
        simp only [go_sem, ↓reduceIte, reduceCtorEq, Nat.reduceAdd, Nat.reduceSub, Nat.reduceMul, Nat.reduceEqDiff, Nat.reduceLT, Nat.reduceLeDiff, Nat.reduceBEq, Int.reduceAdd, Int.reduceSub, Int.reduceLT, Int.reduceLE, Int.reduceEq, Int.reduceToNat, eq_false c3, eq_false c4, eq_false c6, natOf_le hx7a, hx7b]
        refine arC.of (ok142 (xorV .u8 (allV .u8) x7) x8 hx8) Try.call142 ?_
        simp only [go_sem, ↓reduceIte, reduceCtorEq, Nat.reduceAdd, Nat.reduceSub, Nat.reduceMul, Nat.reduceEqDiff, Nat.reduceLT, Nat.reduceLeDiff, Nat.reduceBEq, Int.reduceAdd, Int.reduceSub, Int.reduceLT, Int.reduceLE, Int.reduceEq, Int.reduceToNat, eq_false c3, eq_false c4, eq_false c6, natOf_le hx7a, hx7b]
        subst hK
        refine AW.seq ?_
        refine AW.regL [0, 1, 4, 7, 34] ?_
        generalize hK : AW Try.prog _ _ _ = K
        simp only [go_sem, ↓reduceIte, reduceCtorEq, Nat.reduceAdd, Nat.reduceSub, Nat.reduceMul, Nat.reduceEqDiff, Nat.reduceLT, Nat.reduceLeDiff, Nat.reduceBEq, Int.reduceAdd, Int.reduceSub, Int.reduceLT, Int.reduceLE, Int.reduceEq, Int.reduceToNat, eq_false c3, eq_false c4, eq_false c6]
        subst hK
        by_cases c10 : (IntKind.i64.wrap ((a0.length : Int) - a1)) < (IntKind.i64.wrap (1 + x8))
        · rw [if_pos c10] at h
          refine AW.ifT rfl c10 ?_
          refine AW.regL [4, 5, 6] ?_
          generalize hK : AW Try.prog _ _ _ = K
          simp only [go_sem, ↓reduceIte, reduceCtorEq, Nat.reduceAdd, Nat.reduceSub, Nat.reduceMul, Nat.reduceEqDiff, Nat.reduceLT, Nat.reduceLeDiff, Nat.reduceBEq, Int.reduceAdd, Int.reduceSub, Int.reduceLT, Int.reduceLE, Int.reduceEq, Int.reduceToNat, eq_false c3, eq_false c4, eq_false c6, eq_true c10]
          subst hK
          refine AW.ret ?_
          refine thenA_r ?_
          obtain rfl := Option.some.inj h
          (simp only [go_sem, ↓reduceIte, reduceCtorEq, Nat.reduceAdd, Nat.reduceSub, Nat.reduceMul, Nat.reduceEqDiff, Nat.reduceLT, Nat.reduceLeDiff, Nat.reduceBEq, Int.reduceAdd, Int.reduceSub, Int.reduceLT, Int.reduceLE, Int.reduceEq, Int.reduceToNat, eq_false c3, eq_false c4, eq_false c6, eq_true c10, finA, resA, resOf_1, resOf_2, sealV_val, sealV_sl, sealV_ip, sealV_agg, sealV_tup, sealV_own, sealL_nil, sealL_cons] <;> try simp)
        · rw [if_neg c10] at h
          refine AW.ifF rfl c10 ?_
          refine AW.skip ?_
          refine thenA_n ?_
          refine AW.join (fun s => ⟨(upd (upd (upd (upd anyF 0 (.sl (List.map enc5 a0))) 1 (.val (.int .i64 a1))) 4 (.val (.int .u64 s))) 7 (.val (.int .i64 (IntKind.i64.wrap (1 + x8))))), hpL [] [], 8⟩) (fun s => f115_j1 a0 a1 x8 s = some r) ?_ ?_
          · refine AW.regL [0, 1, 4, 7, 36] ?_
            generalize hK : AW Try.prog _ _ _ = K
            simp only [go_sem, ↓reduceIte, reduceCtorEq, Nat.reduceAdd, Nat.reduceSub, Nat.reduceMul, Nat.reduceEqDiff, Nat.reduceLT, Nat.reduceLeDiff, Nat.reduceBEq, Int.reduceAdd, Int.reduceSub, Int.reduceLT, Int.reduceLE, Int.reduceEq, Int.reduceToNat, eq_false c3, eq_false c4, eq_false c6, eq_false c10]
            subst hK
            by_cases c41 : (IntKind.i64.wrap (1 + x8)) < 9
            · rw [if_pos c41] at h
              refine AW.ifT rfl c41 ?_
              obtain ⟨x42, hx42, h⟩ := Option.bind_eq_some_iff.1 h
              refine AW.drawL [0, 1, 4, 7] [[], [], [0, 1], [0, 1, 2], [0, 1, 2, 3], [], [5], [0, 1, 2, 3, 4, 5, 6], [0, 1, 2, 3, 4, 5, 6, 7]] [0, 1, 2, 3, 4, 5, 6, 7, 8] noFt (fun _ _ _ h => by simp [noFt] at h) draws (by kernel_rfl) (by kernel_rfl) ?_
              generalize hK : thenA _ _ Exit.normal = K
              simp only [go_sem, ↓reduceIte, reduceCtorEq, Nat.reduceAdd, Nat.reduceSub, Nat.reduceMul, Nat.reduceEqDiff, Nat.reduceLT, Nat.reduceLeDiff, Nat.reduceBEq, Int.reduceAdd, Int.reduceSub, Int.reduceLT, Int.reduceLE, Int.reduceEq, Int.reduceToNat, eq_false c3, eq_false c4, eq_false c6, eq_false c10, eq_true c41, natOf_le hx7a, hx7b, eq_false (Int.not_lt.2 (guardO_some.1 hx42))]
              subst hK
              refine thenA_n ?_
              refine ⟨_, h, ?_⟩
              refine Ent.can [] _ _ _ rfl (by first | decide | simp) rfl ?_ ?_ ?_
              · exact ((((RF.any.pv (by first | rfl | simp only [go_sem]) (by first | rfl | simp [upd_ap, hpL_ap, tau, mapT, mapTL, bytesI_len, eq_false c3, eq_false c4, eq_false c6, eq_false c10, eq_true c41])).pv (by first | rfl | simp only [go_sem]) (by first | rfl | simp [upd_ap, hpL_ap, tau, mapT, mapTL, bytesI_len, eq_false c3, eq_false c4, eq_false c6, eq_false c10, eq_true c41])).pv (by first | rfl | simp only [go_sem]) (by first | rfl | simp [upd_ap, hpL_ap, tau, mapT, mapTL, bytesI_len, eq_false c3, eq_false c4, eq_false c6, eq_false c10, eq_true c41])).pv (by first | rfl | simp only [go_sem]) (by first | rfl | simp [upd_ap, hpL_ap, tau, mapT, mapTL, bytesI_len, eq_false c3, eq_false c4, eq_false c6, eq_false c10, eq_true c41]))
              · exact .nil _
              · exact .nil _
            · rw [if_neg c41] at h
              refine AW.ifF rfl c41 ?_
              refine AW.skip ?_
              refine thenA_n ?_
              refine ⟨_, h, ?_⟩
              refine Ent.can [] _ _ _ rfl (by first | decide | simp) rfl ?_ ?_ ?_
              · exact ((((RF.any.pv (by first | rfl | simp only [go_sem]) (by first | rfl | simp [upd_ap, hpL_ap, tau, mapT, mapTL, bytesI_len, eq_false c3, eq_false c4, eq_false c6, eq_false c10, eq_false c41])).pv (by first | rfl | simp only [go_sem]) (by first | rfl | simp [upd_ap, hpL_ap, tau, mapT, mapTL, bytesI_len, eq_false c3, eq_false c4, eq_false c6, eq_false c10, eq_false c41])).pv (by first | rfl | simp only [go_sem]) (by first | rfl | simp [upd_ap, hpL_ap, tau, mapT, mapTL, bytesI_len, eq_false c3, eq_false c4, eq_false c6, eq_false c10, eq_false c41])).pv (by first | rfl | simp only [go_sem]) (by first | rfl | simp [upd_ap, hpL_ap, tau, mapT, mapTL, bytesI_len, eq_false c3, eq_false c4, eq_false c6, eq_false c10, eq_false c41]))
              · exact .nil _
              · exact .nil _
          · clear h
            rintro j1_0 h
            rw [f115_j1] at h
            refine AW.seq ?_
            obtain ⟨x24, hx24, h⟩ := Option.bind_eq_some_iff.1 h
            refine AW.regL [1, 4, 7, 51, 52, 53] ?_
            generalize hK : AW Try.prog _ _ _ = K
            simp only [go_sem, ↓reduceIte, reduceCtorEq, Nat.reduceAdd, Nat.reduceSub, Nat.reduceMul, Nat.reduceEqDiff, Nat.reduceLT, Nat.reduceLeDiff, Nat.reduceBEq, Int.reduceAdd, Int.reduceSub, Int.reduceLT, Int.reduceLE, Int.reduceEq, Int.reduceToNat, eq_false c3, eq_false c4, eq_false c6, eq_false c10, cut_ss el41 sz5 (ml_enc5 _) hx24]
            subst hK
            refine AW.block ?_
            obtain ⟨y38, hy38, h⟩ := Option.bind_eq_some_iff.1 h
            refine AW.loopO (fun s => ⟨(upd (upd (upd (upd (upd (upd anyF 1 (.val (.int .i64 a1))) 4 (.val (.int .u64 s.1))) 7 (.val (.int .i64 (IntKind.i64.wrap (1 + x8))))) 51 (.sl (List.map enc5 x24))) 52 (.val (.int .i64 (x24.length : Int)))) 53 (.val (.int .i64 s.2))), hpL [] [], 8⟩) (fun z e st' => e = Exit.exit 0 ∧ st' = ⟨(upd (upd (upd anyF 1 (.val (.int .i64 a1))) 4 (.val (.int .u64 z))) 7 (.val (.int .i64 (IntKind.i64.wrap (1 + x8))))), hpL [] [], 8⟩) hy38 ?_ ?_ ?_
            · refine Ent.can [] _ _ _ rfl (by first | decide | simp) rfl ?_ ?_ ?_
              · exact ((((((RF.any.pv (by first | rfl | simp only [go_sem]) (by first | rfl | simp [upd_ap, hpL_ap, tau, mapT, mapTL, bytesI_len, eq_false c3, eq_false c4, eq_false c6, eq_false c10])).pv (by first | rfl | simp only [go_sem]) (by first | rfl | simp [upd_ap, hpL_ap, tau, mapT, mapTL, bytesI_len, eq_false c3, eq_false c4, eq_false c6, eq_false c10])).pv (by first | rfl | simp only [go_sem]) (by first | rfl | simp [upd_ap, hpL_ap, tau, mapT, mapTL, bytesI_len, eq_false c3, eq_false c4, eq_false c6, eq_false c10])).pv (by first | rfl | simp only [go_sem]) (by first | rfl | simp [upd_ap, hpL_ap, tau, mapT, mapTL, bytesI_len, eq_false c3, eq_false c4, eq_false c6, eq_false c10])).pv (by first | rfl | simp only [go_sem]) (by first | rfl | simp [upd_ap, hpL_ap, tau, mapT, mapTL, bytesI_len, eq_false c3, eq_false c4, eq_false c6, eq_false c10])).pv (by first | rfl | simp only [go_sem]) (by first | rfl | simp [upd_ap, hpL_ap, tau, mapT, mapTL, bytesI_len, eq_false c3, eq_false c4, eq_false c6, eq_false c10]))
              · exact .nil _
              · exact .nil _
            · clear h hy38
              rintro ⟨s2_0, s2_1⟩ x h
              rw [f115_s2] at h
              refine AW.regL [1, 4, 7, 51, 52, 53, 54] ?_
              generalize hK : AW Try.prog _ _ _ = K
              simp only [go_sem, ↓reduceIte, reduceCtorEq, Nat.reduceAdd, Nat.reduceSub, Nat.reduceMul, Nat.reduceEqDiff, Nat.reduceLT, Nat.reduceLeDiff, Nat.reduceBEq, Int.reduceAdd, Int.reduceSub, Int.reduceLT, Int.reduceLE, Int.reduceEq, Int.reduceToNat, eq_false c3, eq_false c4, eq_false c6, eq_false c10]
              subst hK
              refine AW.seq ?_
              by_cases c35 : s2_1 < (x24.length : Int)
              · rw [if_pos c35] at h
                refine AW.ifT rfl c35 ?_
                refine AW.skip ?_
                refine thenA_n ?_
                refine AW.seq ?_
                refine AW.block ?_
                obtain ⟨x36, hx36, h⟩ := Option.bind_eq_some_iff.1 h
                obtain ⟨hx36a, hx36b⟩ := ix_some.1 hx36
                refine AW.regL [1, 4, 7, 9, 51, 52, 53] ?_
                generalize hK : AW Try.prog _ _ _ = K
                simp only [go_sem, ↓reduceIte, reduceCtorEq, Nat.reduceAdd, Nat.reduceSub, Nat.reduceMul, Nat.reduceEqDiff, Nat.reduceLT, Nat.reduceLeDiff, Nat.reduceBEq, Int.reduceAdd, Int.reduceSub, Int.reduceLT, Int.reduceLE, Int.reduceEq, Int.reduceToNat, eq_false c3, eq_false c4, eq_false c6, eq_false c10, eq_true c35, natOf_le hx36a, hx36b]
                subst hK
                refine AW.regionL [1, 4, 7, 51, 52, 53] ?_
                generalize hK : inBlockA _ _ Exit.normal = K
                simp only [go_sem, ↓reduceIte, reduceCtorEq, Nat.reduceAdd, Nat.reduceSub, Nat.reduceMul, Nat.reduceEqDiff, Nat.reduceLT, Nat.reduceLeDiff, Nat.reduceBEq, Int.reduceAdd, Int.reduceSub, Int.reduceLT, Int.reduceLE, Int.reduceEq, Int.reduceToNat, eq_false c3, eq_false c4, eq_false c6, eq_false c10, eq_true c35]
                subst hK
                refine block_n ?_
                refine thenA_n ?_
                refine AW.regionL [1, 4, 7, 51, 52, 53] ?_
                generalize hK : thenA _ _ Exit.normal = K
                simp only [go_sem, ↓reduceIte, reduceCtorEq, Nat.reduceAdd, Nat.reduceSub, Nat.reduceMul, Nat.reduceEqDiff, Nat.reduceLT, Nat.reduceLeDiff, Nat.reduceBEq, Int.reduceAdd, Int.reduceSub, Int.reduceLT, Int.reduceLE, Int.reduceEq, Int.reduceToNat, eq_false c3, eq_false c4, eq_false c6, eq_false c10, eq_true c35]
                subst hK
                refine thenA_n ?_
                refine ⟨_, (Option.some.inj h).symm, ?_⟩
                refine Ent.can [] _ _ _ rfl (by first | decide | simp) rfl ?_ ?_ ?_
                · exact ((((((RF.any.pv (by first | rfl | simp only [go_sem]) (by first | rfl | simp [upd_ap, hpL_ap, tau, mapT, mapTL, bytesI_len, eq_false c3, eq_false c4, eq_false c6, eq_false c10, eq_true c35])).pv (by first | rfl | simp only [go_sem]) (by first | rfl | simp [upd_ap, hpL_ap, tau, mapT, mapTL, bytesI_len, eq_false c3, eq_false c4, eq_false c6, eq_false c10, eq_true c35])).pv (by first | rfl | simp only [go_sem]) (by first | rfl | simp [upd_ap, hpL_ap, tau, mapT, mapTL, bytesI_len, eq_false c3, eq_false c4, eq_false c6, eq_false c10, eq_true c35])).pv (by first | rfl | simp only [go_sem]) (by first | rfl | simp [upd_ap, hpL_ap, tau, mapT, mapTL, bytesI_len, eq_false c3, eq_false c4, eq_false c6, eq_false c10, eq_true c35])).pv (by first | rfl | simp only [go_sem]) (by first | rfl | simp [upd_ap, hpL_ap, tau, mapT, mapTL, bytesI_len, eq_false c3, eq_false c4, eq_false c6, eq_false c10, eq_true c35])).pv (by first | rfl | simp only [go_sem]) (by first | rfl | simp [upd_ap, hpL_ap, tau, mapT, mapTL, bytesI_len, eq_false c3, eq_false c4, eq_false c6, eq_false c10, eq_true c35]))
                · exact .nil _
                · exact .nil _
              · rw [if_neg c35] at h
                refine AW.ifF rfl c35 ?_
                refine AW.exit ?_
                refine thenA_x ?_
                refine thenA_x ?_
                refine ⟨_, (Option.some.inj h).symm, _, ?_, rfl, rfl⟩
                refine Ent.can [] _ _ _ rfl (by first | decide | simp) rfl ?_ ?_ ?_
                · exact (((RF.any.pv (by first | rfl | simp only [go_sem]) (by first | rfl | simp [upd_ap, hpL_ap, tau, mapT, mapTL, bytesI_len, eq_false c3, eq_false c4, eq_false c6, eq_false c10, eq_false c35])).pv (by first | rfl | simp only [go_sem]) (by first | rfl | simp [upd_ap, hpL_ap, tau, mapT, mapTL, bytesI_len, eq_false c3, eq_false c4, eq_false c6, eq_false c10, eq_false c35])).pv (by first | rfl | simp only [go_sem]) (by first | rfl | simp [upd_ap, hpL_ap, tau, mapT, mapTL, bytesI_len, eq_false c3, eq_false c4, eq_false c6, eq_false c10, eq_false c35]))
                · exact .nil _
                · exact .nil _
            · intro e st' hX
              try dsimp only at h
              try dsimp only at hX
              obtain ⟨rfl, rfl⟩ := hX
              refine ⟨_, Ent.refl, ?_⟩
              refine block_x ?_
              refine thenA_n ?_
              refine AW.seq ?_
              obtain ⟨x39, hx39, h⟩ := Option.bind_eq_some_iff.1 h
              refine AW.regL [1, 4, 7, 66] ?_
              generalize hK : AW Try.prog _ _ _ = K
              simp only [go_sem, ↓reduceIte, reduceCtorEq, Nat.reduceAdd, Nat.reduceSub, Nat.reduceMul, Nat.reduceEqDiff, Nat.reduceLT, Nat.reduceLeDiff, Nat.reduceBEq, Int.reduceAdd, Int.reduceSub, Int.reduceLT, Int.reduceLE, Int.reduceEq, Int.reduceToNat, eq_false c3, eq_false c4, eq_false c6, eq_false c10]
              refine arC.of (ok124 y38 x39 hx39) Try.call124 ?_
              simp only [go_sem, ↓reduceIte, reduceCtorEq, Nat.reduceAdd, Nat.reduceSub, Nat.reduceMul, Nat.reduceEqDiff, Nat.reduceLT, Nat.reduceLeDiff, Nat.reduceBEq, Int.reduceAdd, Int.reduceSub, Int.reduceLT, Int.reduceLE, Int.reduceEq, Int.reduceToNat, eq_false c3, eq_false c4, eq_false c6, eq_false c10]
              subst hK
              by_cases c40 : x39 = (IntKind.i64.wrap (1 + x8))
              · rw [if_pos c40] at h
                refine AW.ifF rfl (fun q => q c40) ?_
                refine AW.skip ?_
                refine thenA_n ?_
                refine AW.regL [4, 5, 6] ?_
                generalize hK : AW Try.prog _ _ _ = K
                simp only [go_sem, ↓reduceIte, reduceCtorEq, Nat.reduceAdd, Nat.reduceSub, Nat.reduceMul, Nat.reduceEqDiff, Nat.reduceLT, Nat.reduceLeDiff, Nat.reduceBEq, Int.reduceAdd, Int.reduceSub, Int.reduceLT, Int.reduceLE, Int.reduceEq, Int.reduceToNat, eq_false c3, eq_false c4, eq_false c6, eq_false c10, eq_true c40]
                subst hK
                refine AW.ret ?_
                obtain rfl := Option.some.inj h
                (simp only [go_sem, ↓reduceIte, reduceCtorEq, Nat.reduceAdd, Nat.reduceSub, Nat.reduceMul, Nat.reduceEqDiff, Nat.reduceLT, Nat.reduceLeDiff, Nat.reduceBEq, Int.reduceAdd, Int.reduceSub, Int.reduceLT, Int.reduceLE, Int.reduceEq, Int.reduceToNat, eq_false c3, eq_false c4, eq_false c6, eq_false c10, eq_true c40, finA, resA, resOf_1, resOf_2, sealV_val, sealV_sl, sealV_ip, sealV_agg, sealV_tup, sealV_own, sealL_nil, sealL_cons] <;> try simp)
              · rw [if_neg c40] at h
                refine AW.ifT rfl c40 ?_
                refine AW.regL [4, 5, 6] ?_
                generalize hK : AW Try.prog _ _ _ = K
                simp only [go_sem, ↓reduceIte, reduceCtorEq, Nat.reduceAdd, Nat.reduceSub, Nat.reduceMul, Nat.reduceEqDiff, Nat.reduceLT, Nat.reduceLeDiff, Nat.reduceBEq, Int.reduceAdd, Int.reduceSub, Int.reduceLT, Int.reduceLE, Int.reduceEq, Int.reduceToNat, eq_false c3, eq_false c4, eq_false c6, eq_false c10, eq_false c40]
                subst hK
                refine AW.ret ?_
                refine thenA_r ?_
                obtain rfl := Option.some.inj h
                (simp only [go_sem, ↓reduceIte, reduceCtorEq, Nat.reduceAdd, Nat.reduceSub, Nat.reduceMul, Nat.reduceEqDiff, Nat.reduceLT, Nat.reduceLeDiff, Nat.reduceBEq, Int.reduceAdd, Int.reduceSub, Int.reduceLT, Int.reduceLE, Int.reduceEq, Int.reduceToNat, eq_false c3, eq_false c4, eq_false c6, eq_false c10, eq_false c40, finA, resA, resOf_1, resOf_2, sealV_val, sealV_sl, sealV_ip, sealV_agg, sealV_tup, sealV_own, sealL_nil, sealL_cons] <;> try simp)
end Au
end Go.Proofs.Y1
