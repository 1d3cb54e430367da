import Derived.Test.YtlonihmeikmpiaaGnDB
import Derived.Test.YtlonihmeikmpiaaGnDBf117
import Derived.Test.YtlonihmeikmpiaaGnDBf118
import Derived.Test.YtlonihmeikmpiaaGnDBf119
set_option linter.all false
set_option linter.unusedVariables false
set_option linter.unusedSimpArgs false
set_option linter.all false
set_option maxRecDepth 8000
namespace Go.Proofs.Y1
open Go.Gm
namespace Au
noncomputable def f77_s2 (a0 : List Int) (a1 : Int) (x8 : Int) : Int × Int → Option ((Int × Int) ⊕ Int)
  | (s2_0, s2_1) => (if s2_1 < (IntKind.i64.wrap (a1 + (IntKind.i64.wrap (x8 + 1)))) then ((ix a0 s2_1).bind fun x30 => some (.inl (IntKind.u64.wrap ((IntKind.u64.wrap (256 * s2_0)) + (IntKind.u64.wrap x30)), IntKind.i64.wrap (s2_1 + 1)))) else some (.inr s2_0))
noncomputable def f77_j1 (a0 : List Int) (a1 : Int) (x8 : Int) : Int → Option (Int × Int × Int)
  | j1_0 => ((loopO (f77_s2 a0 a1 x8) (j1_0, IntKind.i64.wrap (a1 + 1))).bind fun y32 => ((f119 y32).bind fun x33 => (if x33 = (IntKind.i64.wrap (x8 + 1)) then some (y32, IntKind.i64.wrap (a1 + (IntKind.i64.wrap (x8 + 1))), 0) else some (0, 0, 3))))
noncomputable def f77 (a0 : List Int) (a1 : Int) : Option (Int × Int × Int) := (if a1 < 0 then some (0, 0, 8) else (if (a0.length : Int) < a1 then some (0, 0, 8) else (if a1 = (a0.length : Int) then some (0, 0, 2) else ((ix a0 a1).bind fun x7 => ((f117 x7).bind fun x8 => (if (IntKind.i64.wrap ((a0.length : Int) - a1)) < (IntKind.i64.wrap (x8 + 1)) then some (0, 0, 2) else (if (IntKind.i64.wrap (x8 + 1)) ≤ 8 then ((f118 (IntKind.i64.wrap (8 - (IntKind.i64.wrap (x8 + 1))))).bind fun x36 => ((guardO (¬ x36 = 0)).bind fun x37 => f77_j1 a0 a1 x8 ((IntKind.u64.wrap x7).tmod x36))) else f77_j1 a0 a1 x8 0)))))))
theorem ok77 (a0 : List Int) (a1 : Int) (r : Int × Int × Int) (h : f77 a0 a1 = some r) : PC Try.prog 77 [.sl (List.map enc5 a0), .val (.int .i64 a1)] (.tup [.val (.int .u64 r.1), .val (.int .i64 r.2.1), .val (.int .i64 r.2.2)]) := by
  rw [f77] at h
  refine pc_of8 (N := 70) (rs := [.tmp 4, .tmp 5, .tmp 6]) Try.func77 rfl rfl rfl (Nat.le_of_ble_eq_true rfl) ?_
  refine AW.regL [0, 1] ?_
  generalize hK : AW Try.prog _ _ _ = K
  simp only [go_sem, ↓reduceIte, reduceCtorEq, Nat.reduceAdd, Nat.reduceSub, Nat.reduceMul, Nat.reduceEqDiff, Nat.reduceLT, Nat.reduceLeDiff, Nat.reduceBEq, Int.reduceAdd, Int.reduceSub, Int.reduceLT, Int.reduceLE, Int.reduceEq, Int.reduceToNat]
  subst hK
  refine AW.seq ?_
  by_cases c3 : a1 < 0
  · rw [if_pos c3] at h
    refine AW.regL [0, 1, 17] ?_
    generalize hK : AW Try.prog _ _ _ = K
    simp only [go_sem, ↓reduceIte, reduceCtorEq, Nat.reduceAdd, Nat.reduceSub, Nat.reduceMul, Nat.reduceEqDiff, Nat.reduceLT, Nat.reduceLeDiff, Nat.reduceBEq, Int.reduceAdd, Int.reduceSub, Int.reduceLT, Int.reduceLE, Int.reduceEq, Int.reduceToNat, eq_true c3]
    subst hK
    refine AW.ifBT rfl rfl ?_
    refine AW.regL [4, 5, 6] ?_
    generalize hK : AW Try.prog _ _ _ = K
    simp only [go_sem, ↓reduceIte, reduceCtorEq, Nat.reduceAdd, Nat.reduceSub, Nat.reduceMul, Nat.reduceEqDiff, Nat.reduceLT, Nat.reduceLeDiff, Nat.reduceBEq, Int.reduceAdd, Int.reduceSub, Int.reduceLT, Int.reduceLE, Int.reduceEq, Int.reduceToNat, eq_true c3]
    subst hK
    refine AW.ret ?_
    refine thenA_r ?_
    obtain rfl := Option.some.inj h
    (simp only [go_sem, ↓reduceIte, reduceCtorEq, Nat.reduceAdd, Nat.reduceSub, Nat.reduceMul, Nat.reduceEqDiff, Nat.reduceLT, Nat.reduceLeDiff, Nat.reduceBEq, Int.reduceAdd, Int.reduceSub, Int.reduceLT, Int.reduceLE, Int.reduceEq, Int.reduceToNat, eq_true c3, finA, resA, resOf_1, resOf_2, sealV_val, sealV_sl, sealV_ip, sealV_agg, sealV_tup, sealV_own, sealL_nil, sealL_cons] <;> try simp)
  · rw [if_neg c3] at h
    refine AW.regL [0, 1, 17] ?_
    generalize hK : AW Try.prog _ _ _ = K
    simp only [go_sem, ↓reduceIte, reduceCtorEq, Nat.reduceAdd, Nat.reduceSub, Nat.reduceMul, Nat.reduceEqDiff, Nat.reduceLT, Nat.reduceLeDiff, Nat.reduceBEq, Int.reduceAdd, Int.reduceSub, Int.reduceLT, Int.reduceLE, Int.reduceEq, Int.reduceToNat, eq_false c3]
    subst hK
    by_cases c4 : (a0.length : Int) < a1
    · rw [if_pos c4] at h
      refine AW.ifT rfl c4 ?_
      refine AW.regL [4, 5, 6] ?_
      generalize hK : AW Try.prog _ _ _ = K
      simp only [go_sem, ↓reduceIte, reduceCtorEq, Nat.reduceAdd, Nat.reduceSub, Nat.reduceMul, Nat.reduceEqDiff, Nat.reduceLT, Nat.reduceLeDiff, Nat.reduceBEq, Int.reduceAdd, Int.reduceSub, Int.reduceLT, Int.reduceLE, Int.reduceEq, Int.reduceToNat, eq_false c3, eq_true c4]
      subst hK
      refine AW.ret ?_
      refine thenA_r ?_
      obtain rfl := Option.some.inj h
      (simp only [go_sem, ↓reduceIte, reduceCtorEq, Nat.reduceAdd, Nat.reduceSub, Nat.reduceMul, Nat.reduceEqDiff, Nat.reduceLT, Nat.reduceLeDiff, Nat.reduceBEq, Int.reduceAdd, Int.reduceSub, Int.reduceLT, Int.reduceLE, Int.reduceEq, Int.reduceToNat, eq_false c3, eq_true c4, finA, resA, resOf_1, resOf_2, sealV_val, sealV_sl, sealV_ip, sealV_agg, sealV_tup, sealV_own, sealL_nil, sealL_cons] <;> try simp)
    · rw [if_neg c4] at h
      refine AW.ifF rfl c4 ?_
      refine AW.skip ?_
      refine thenA_n ?_
      refine AW.seq ?_
      refine AW.regL [0, 1, 21] ?_
      generalize hK : AW Try.prog _ _ _ = K
      simp only [go_sem, ↓reduceIte, reduceCtorEq, Nat.reduceAdd, Nat.reduceSub, Nat.reduceMul, Nat.reduceEqDiff, Nat.reduceLT, Nat.reduceLeDiff, Nat.reduceBEq, Int.reduceAdd, Int.reduceSub, Int.reduceLT, Int.reduceLE, Int.reduceEq, Int.reduceToNat, eq_false c3, eq_false c4]
      subst hK
      by_cases c6 : a1 = (a0.length : Int)
      · rw [if_pos c6] at h
        refine AW.ifT rfl c6 ?_
        refine AW.regL [4, 5, 6] ?_
        generalize hK : AW Try.prog _ _ _ = K
        simp only [go_sem, ↓reduceIte, reduceCtorEq, Nat.reduceAdd, Nat.reduceSub, Nat.reduceMul, Nat.reduceEqDiff, Nat.reduceLT, Nat.reduceLeDiff, Nat.reduceBEq, Int.reduceAdd, Int.reduceSub, Int.reduceLT, Int.reduceLE, Int.reduceEq, Int.reduceToNat, eq_false c3, eq_false c4, eq_true c6]
        subst hK
        refine AW.ret ?_
        refine thenA_r ?_
        obtain rfl := Option.some.inj h
        (simp only [go_sem, ↓reduceIte, reduceCtorEq, Nat.reduceAdd, Nat.reduceSub, Nat.reduceMul, Nat.reduceEqDiff, Nat.reduceLT, Nat.reduceLeDiff, Nat.reduceBEq, Int.reduceAdd, Int.reduceSub, Int.reduceLT, Int.reduceLE, Int.reduceEq, Int.reduceToNat, eq_false c3, eq_false c4, eq_true c6, finA, resA, resOf_1, resOf_2, sealV_val, sealV_sl, sealV_ip, sealV_agg, sealV_tup, sealV_own, sealL_nil, sealL_cons] <;> try simp)
      · rw [if_neg c6] at h
        refine AW.ifF rfl c6 ?_
        refine AW.skip ?_
        refine thenA_n ?_
        obtain ⟨x7, hx7, h⟩ := Option.bind_eq_some_iff.1 h
        obtain ⟨hx7a, hx7b⟩ := ix_some.1 hx7
        obtain ⟨x8, hx8, h⟩ := Option.bind_eq_some_iff.1 h
        refine AW.regL [0, 1, 7] ?_
        generalize hK : AW Try.prog _ _ _ = K
        simp only [go_sem, ↓reduceIte, reduceCtorEq, Nat.reduceAdd, Nat.reduceSub, Nat.reduceMul, Nat.reduceEqDiff, Nat.reduceLT, Nat.reduceLeDiff, Nat.reduceBEq, Int.reduceAdd, Int.reduceSub, Int.reduceLT, Int.reduceLE, Int.reduceEq, Int.reduceToNat, eq_false c3, eq_false c4, eq_false c6, natOf_le hx7a, hx7b]
        refine arC.of (ok117 x7 x8 hx8) Try.call117 ?_
        simp only [go_sem, ↓reduceIte, reduceCtorEq, Nat.reduceAdd, Nat.reduceSub, Nat.reduceMul, Nat.reduceEqDiff, Nat.reduceLT, Nat.reduceLeDiff, Nat.reduceBEq, Int.reduceAdd, Int.reduceSub, Int.reduceLT, Int.reduceLE, Int.reduceEq, Int.reduceToNat, eq_false c3, eq_false c4, eq_false c6, natOf_le hx7a, hx7b]
        subst hK
        refine AW.seq ?_
        refine AW.regL [0, 1, 7, 33] ?_
        generalize hK : AW Try.prog _ _ _ = K
        simp only [go_sem, ↓reduceIte, reduceCtorEq, Nat.reduceAdd, Nat.reduceSub, Nat.reduceMul, Nat.reduceEqDiff, Nat.reduceLT, Nat.reduceLeDiff, Nat.reduceBEq, Int.reduceAdd, Int.reduceSub, Int.reduceLT, Int.reduceLE, Int.reduceEq, Int.reduceToNat, eq_false c3, eq_false c4, eq_false c6]
        subst hK
        by_cases c10 : (IntKind.i64.wrap ((a0.length : Int) - a1)) < (IntKind.i64.wrap (x8 + 1))
        · rw [if_pos c10] at h
          refine AW.ifT rfl c10 ?_
          refine AW.regL [4, 5, 6] ?_
          generalize hK : AW Try.prog _ _ _ = K
          simp only [go_sem, ↓reduceIte, reduceCtorEq, Nat.reduceAdd, Nat.reduceSub, Nat.reduceMul, Nat.reduceEqDiff, Nat.reduceLT, Nat.reduceLeDiff, Nat.reduceBEq, Int.reduceAdd, Int.reduceSub, Int.reduceLT, Int.reduceLE, Int.reduceEq, Int.reduceToNat, eq_false c3, eq_false c4, eq_false c6, eq_true c10]
          subst hK
          refine AW.ret ?_
          refine thenA_r ?_
          obtain rfl := Option.some.inj h
          (simp only [go_sem, ↓reduceIte, reduceCtorEq, Nat.reduceAdd, Nat.reduceSub, Nat.reduceMul, Nat.reduceEqDiff, Nat.reduceLT, Nat.reduceLeDiff, Nat.reduceBEq, Int.reduceAdd, Int.reduceSub, Int.reduceLT, Int.reduceLE, Int.reduceEq, Int.reduceToNat, eq_false c3, eq_false c4, eq_false c6, eq_true c10, finA, resA, resOf_1, resOf_2, sealV_val, sealV_sl, sealV_ip, sealV_agg, sealV_tup, sealV_own, sealL_nil, sealL_cons] <;> try simp)
        · rw [if_neg c10] at h
          refine AW.ifF rfl c10 ?_
          refine AW.skip ?_
          refine thenA_n ?_
          refine AW.regL [0, 1, 7, 8] ?_
          generalize hK : AW Try.prog _ _ _ = K
          simp only [go_sem, ↓reduceIte, reduceCtorEq, Nat.reduceAdd, Nat.reduceSub, Nat.reduceMul, Nat.reduceEqDiff, Nat.reduceLT, Nat.reduceLeDiff, Nat.reduceBEq, Int.reduceAdd, Int.reduceSub, Int.reduceLT, Int.reduceLE, Int.reduceEq, Int.reduceToNat, eq_false c3, eq_false c4, eq_false c6, eq_false c10]
          subst hK
          refine AW.join (fun s => ⟨(upd (upd (upd (upd anyF 0 (.sl (List.map enc5 a0))) 1 (.val (.int .i64 a1))) 7 (.val (.int .i64 (IntKind.i64.wrap (x8 + 1))))) 8 (.val (.int .u64 s))), hpL [] [], 8⟩) (fun s => f77_j1 a0 a1 x8 s = some r) ?_ ?_
          · refine AW.regL [0, 1, 7, 8, 35] ?_
            generalize hK : AW Try.prog _ _ _ = K
            simp only [go_sem, ↓reduceIte, reduceCtorEq, Nat.reduceAdd, Nat.reduceSub, Nat.reduceMul, Nat.reduceEqDiff, Nat.reduceLT, Nat.reduceLeDiff, Nat.reduceBEq, Int.reduceAdd, Int.reduceSub, Int.reduceLT, Int.reduceLE, Int.reduceEq, Int.reduceToNat, eq_false c3, eq_false c4, eq_false c6, eq_false c10]
            subst hK
            by_cases c35 : (IntKind.i64.wrap (x8 + 1)) ≤ 8
            · rw [if_pos c35] at h
              refine AW.ifT rfl c35 ?_
              obtain ⟨x36, hx36, h⟩ := Option.bind_eq_some_iff.1 h
              obtain ⟨x37, hx37, h⟩ := Option.bind_eq_some_iff.1 h
              refine AW.drawL [0, 1, 7, 8] [[], [], [0, 1], [0, 1, 2], [0, 1, 2, 3], [], [5], [5, 6], [0, 1, 2, 3, 4, 5, 6, 7], [0, 1, 2, 3, 4, 5, 6, 7, 8]] [0, 1, 2, 3, 4, 5, 6, 7, 8, 9] (tab [(118, [.val (.int .i64 (IntKind.i64.wrap (8 - (IntKind.i64.wrap (x8 + 1)))))], .val (.int .u64 x36))]) (tab_cons (ok118 (IntKind.i64.wrap (8 - (IntKind.i64.wrap (x8 + 1)))) x36 hx36) Try.call118 tab_nil) draws (by kernel_rfl) (by kernel_rfl) ?_
              generalize hK : thenA _ _ Exit.normal = K
              simp only [go_sem, ↓reduceIte, reduceCtorEq, Nat.reduceAdd, Nat.reduceSub, Nat.reduceMul, Nat.reduceEqDiff, Nat.reduceLT, Nat.reduceLeDiff, Nat.reduceBEq, Int.reduceAdd, Int.reduceSub, Int.reduceLT, Int.reduceLE, Int.reduceEq, Int.reduceToNat, eq_false c3, eq_false c4, eq_false c6, eq_false c10, eq_true c35, natOf_le hx7a, hx7b, eq_false (guardO_some.1 hx37)]
              subst hK
              refine thenA_n ?_
              refine ⟨_, h, ?_⟩
              refine Ent.can [] _ _ _ rfl (by first | decide | simp) rfl ?_ ?_ ?_
              · exact ((((RF.any.pv (by first | rfl | simp only [go_sem]) (by first | rfl | simp [upd_ap, hpL_ap, tau, mapT, mapTL, bytesI_len, eq_false c3, eq_false c4, eq_false c6, eq_false c10, eq_true c35])).pv (by first | rfl | simp only [go_sem]) (by first | rfl | simp [upd_ap, hpL_ap, tau, mapT, mapTL, bytesI_len, eq_false c3, eq_false c4, eq_false c6, eq_false c10, eq_true c35])).pv (by first | rfl | simp only [go_sem]) (by first | rfl | simp [upd_ap, hpL_ap, tau, mapT, mapTL, bytesI_len, eq_false c3, eq_false c4, eq_false c6, eq_false c10, eq_true c35])).pv (by first | rfl | simp only [go_sem]) (by first | rfl | simp [upd_ap, hpL_ap, tau, mapT, mapTL, bytesI_len, eq_false c3, eq_false c4, eq_false c6, eq_false c10, eq_true c35]))
              · exact .nil _
              · exact .nil _
            · rw [if_neg c35] at h
              refine AW.ifF rfl c35 ?_
              refine AW.skip ?_
              refine thenA_n ?_
              refine ⟨_, h, ?_⟩
              refine Ent.can [] _ _ _ rfl (by first | decide | simp) rfl ?_ ?_ ?_
              · exact ((((RF.any.pv (by first | rfl | simp only [go_sem]) (by first | rfl | simp [upd_ap, hpL_ap, tau, mapT, mapTL, bytesI_len, eq_false c3, eq_false c4, eq_false c6, eq_false c10, eq_false c35])).pv (by first | rfl | simp only [go_sem]) (by first | rfl | simp [upd_ap, hpL_ap, tau, mapT, mapTL, bytesI_len, eq_false c3, eq_false c4, eq_false c6, eq_false c10, eq_false c35])).pv (by first | rfl | simp only [go_sem]) (by first | rfl | simp [upd_ap, hpL_ap, tau, mapT, mapTL, bytesI_len, eq_false c3, eq_false c4, eq_false c6, eq_false c10, eq_false c35])).pv (by first | rfl | simp only [go_sem]) (by first | rfl | simp [upd_ap, hpL_ap, tau, mapT, mapTL, bytesI_len, eq_false c3, eq_false c4, eq_false c6, eq_false c10, eq_false c35]))
              · exact .nil _
              · exact .nil _
          · clear h
            rintro j1_0 h
            rw [f77_j1] at h
            refine AW.seq ?_
            refine AW.regL [0, 1, 7, 8, 9] ?_
            generalize hK : AW Try.prog _ _ _ = K
            simp only [go_sem, ↓reduceIte, reduceCtorEq, Nat.reduceAdd, Nat.reduceSub, Nat.reduceMul, Nat.reduceEqDiff, Nat.reduceLT, Nat.reduceLeDiff, Nat.reduceBEq, Int.reduceAdd, Int.reduceSub, Int.reduceLT, Int.reduceLE, Int.reduceEq, Int.reduceToNat, eq_false c3, eq_false c4, eq_false c6, eq_false c10]
            subst hK
            refine AW.block ?_
            obtain ⟨y32, hy32, h⟩ := Option.bind_eq_some_iff.1 h
            refine AW.loopO (fun s => ⟨(upd (upd (upd (upd (upd anyF 0 (.sl (List.map enc5 a0))) 1 (.val (.int .i64 a1))) 7 (.val (.int .i64 (IntKind.i64.wrap (x8 + 1))))) 8 (.val (.int .u64 s.1))) 9 (.val (.int .i64 s.2))), hpL [] [], 8⟩) (fun z e st' => e = Exit.exit 0 ∧ st' = ⟨(upd (upd (upd anyF 1 (.val (.int .i64 a1))) 7 (.val (.int .i64 (IntKind.i64.wrap (x8 + 1))))) 8 (.val (.int .u64 z))), hpL [] [], 8⟩) hy32 ?_ ?_ ?_
            · refine Ent.can [] _ _ _ rfl (by first | decide | simp) rfl ?_ ?_ ?_
              · exact (((((RF.any.pv (by first | rfl | simp only [go_sem]) (by first | rfl | simp [upd_ap, hpL_ap, tau, mapT, mapTL, bytesI_len, eq_false c3, eq_false c4, eq_false c6, eq_false c10])).pv (by first | rfl | simp only [go_sem]) (by first | rfl | simp [upd_ap, hpL_ap, tau, mapT, mapTL, bytesI_len, eq_false c3, eq_false c4, eq_false c6, eq_false c10])).pv (by first | rfl | simp only [go_sem]) (by first | rfl | simp [upd_ap, hpL_ap, tau, mapT, mapTL, bytesI_len, eq_false c3, eq_false c4, eq_false c6, eq_false c10])).pv (by first | rfl | simp only [go_sem]) (by first | rfl | simp [upd_ap, hpL_ap, tau, mapT, mapTL, bytesI_len, eq_false c3, eq_false c4, eq_false c6, eq_false c10])).pv (by first | rfl | simp only [go_sem]) (by first | rfl | simp [upd_ap, hpL_ap, tau, mapT, mapTL, bytesI_len, eq_false c3, eq_false c4, eq_false c6, eq_false c10]))
              · exact .nil _
              · exact .nil _
            · clear h hy32
              rintro ⟨s2_0, s2_1⟩ x h
              rw [f77_s2] at h
              refine AW.seq ?_
              refine AW.regL [0, 1, 7, 8, 9, 51] ?_
              generalize hK : AW Try.prog _ _ _ = K
              simp only [go_sem, ↓reduceIte, reduceCtorEq, Nat.reduceAdd, Nat.reduceSub, Nat.reduceMul, Nat.reduceEqDiff, Nat.reduceLT, Nat.reduceLeDiff, Nat.reduceBEq, Int.reduceAdd, Int.reduceSub, Int.reduceLT, Int.reduceLE, Int.reduceEq, Int.reduceToNat, eq_false c3, eq_false c4, eq_false c6, eq_false c10]
              subst hK
              by_cases c29 : s2_1 < (IntKind.i64.wrap (a1 + (IntKind.i64.wrap (x8 + 1))))
              · rw [if_pos c29] at h
                refine AW.ifT rfl c29 ?_
                refine AW.skip ?_
                refine thenA_n ?_
                refine AW.seq ?_
                refine AW.block ?_
                obtain ⟨x30, hx30, h⟩ := Option.bind_eq_some_iff.1 h
                obtain ⟨hx30a, hx30b⟩ := ix_some.1 hx30
                refine AW.regionL [0, 1, 7, 8, 9] ?_
                generalize hK : inBlockA _ _ Exit.normal = K
                simp only [go_sem, ↓reduceIte, reduceCtorEq, Nat.reduceAdd, Nat.reduceSub, Nat.reduceMul, Nat.reduceEqDiff, Nat.reduceLT, Nat.reduceLeDiff, Nat.reduceBEq, Int.reduceAdd, Int.reduceSub, Int.reduceLT, Int.reduceLE, Int.reduceEq, Int.reduceToNat, eq_false c3, eq_false c4, eq_false c6, eq_false c10, eq_true c29, natOf_le hx30a, hx30b]
                subst hK
                refine block_n ?_
                refine thenA_n ?_
                refine AW.regionL [0, 1, 7, 8, 9] ?_
                generalize hK : thenA _ _ Exit.normal = K
                simp only [go_sem, ↓reduceIte, reduceCtorEq, Nat.reduceAdd, Nat.reduceSub, Nat.reduceMul, Nat.reduceEqDiff, Nat.reduceLT, Nat.reduceLeDiff, Nat.reduceBEq, Int.reduceAdd, Int.reduceSub, Int.reduceLT, Int.reduceLE, Int.reduceEq, Int.reduceToNat, eq_false c3, eq_false c4, eq_false c6, eq_false c10, eq_true c29]
                subst hK
                refine thenA_n ?_
                refine ⟨_, (Option.some.inj h).symm, ?_⟩
                refine Ent.can [] _ _ _ rfl (by first | decide | simp) rfl ?_ ?_ ?_
                · exact (((((RF.any.pv (by first | rfl | simp only [go_sem]) (by first | rfl | simp [upd_ap, hpL_ap, tau, mapT, mapTL, bytesI_len, eq_false c3, eq_false c4, eq_false c6, eq_false c10, eq_true c29])).pv (by first | rfl | simp only [go_sem]) (by first | rfl | simp [upd_ap, hpL_ap, tau, mapT, mapTL, bytesI_len, eq_false c3, eq_false c4, eq_false c6, eq_false c10, eq_true c29])).pv (by first | rfl | simp only [go_sem]) (by first | rfl | simp [upd_ap, hpL_ap, tau, mapT, mapTL, bytesI_len, eq_false c3, eq_false c4, eq_false c6, eq_false c10, eq_true c29])).pv (by first | rfl | simp only [go_sem]) (by first | rfl | simp [upd_ap, hpL_ap, tau, mapT, mapTL, bytesI_len, eq_false c3, eq_false c4, eq_false c6, eq_false c10, eq_true c29])).pv (by first | rfl | simp only [go_sem]) (by first | rfl | simp [upd_ap, hpL_ap, tau, mapT, mapTL, bytesI_len, eq_false c3, eq_false c4, eq_false c6, eq_false c10, eq_true c29]))
                · exact .nil _
                · exact .nil _
              · rw [if_neg c29] at h
                refine AW.ifF rfl c29 ?_
                refine AW.exit ?_
                refine thenA_x ?_
                refine thenA_x ?_
                refine ⟨_, (Option.some.inj h).symm, _, ?_, rfl, rfl⟩
                refine Ent.can [] _ _ _ rfl (by first | decide | simp) rfl ?_ ?_ ?_
                · exact (((RF.any.pv (by first | rfl | simp only [go_sem]) (by first | rfl | simp [upd_ap, hpL_ap, tau, mapT, mapTL, bytesI_len, eq_false c3, eq_false c4, eq_false c6, eq_false c10, eq_false c29])).pv (by first | rfl | simp only [go_sem]) (by first | rfl | simp [upd_ap, hpL_ap, tau, mapT, mapTL, bytesI_len, eq_false c3, eq_false c4, eq_false c6, eq_false c10, eq_false c29])).pv (by first | rfl | simp only [go_sem]) (by first | rfl | simp [upd_ap, hpL_ap, tau, mapT, mapTL, bytesI_len, eq_false c3, eq_false c4, eq_false c6, eq_false c10, eq_false c29]))
                · exact .nil _
                · exact .nil _
            · intro e st' hX
              try dsimp only at h
              try dsimp only at hX
              obtain ⟨rfl, rfl⟩ := hX
              refine ⟨_, Ent.refl, ?_⟩
              refine block_x ?_
              refine thenA_n ?_
              refine AW.seq ?_
              obtain ⟨x33, hx33, h⟩ := Option.bind_eq_some_iff.1 h
              refine AW.regL [1, 7, 8, 65] ?_
              generalize hK : AW Try.prog _ _ _ = K
              simp only [go_sem, ↓reduceIte, reduceCtorEq, Nat.reduceAdd, Nat.reduceSub, Nat.reduceMul, Nat.reduceEqDiff, Nat.reduceLT, Nat.reduceLeDiff, Nat.reduceBEq, Int.reduceAdd, Int.reduceSub, Int.reduceLT, Int.reduceLE, Int.reduceEq, Int.reduceToNat, eq_false c3, eq_false c4, eq_false c6, eq_false c10]
              refine arC.of (ok119 y32 x33 hx33) Try.call119 ?_
              simp only [go_sem, ↓reduceIte, reduceCtorEq, Nat.reduceAdd, Nat.reduceSub, Nat.reduceMul, Nat.reduceEqDiff, Nat.reduceLT, Nat.reduceLeDiff, Nat.reduceBEq, Int.reduceAdd, Int.reduceSub, Int.reduceLT, Int.reduceLE, Int.reduceEq, Int.reduceToNat, eq_false c3, eq_false c4, eq_false c6, eq_false c10]
              subst hK
              by_cases c34 : x33 = (IntKind.i64.wrap (x8 + 1))
              · rw [if_pos c34] at h
                refine AW.ifF rfl (fun q => q c34) ?_
                refine AW.skip ?_
                refine thenA_n ?_
                refine AW.regL [4, 5, 6] ?_
                generalize hK : AW Try.prog _ _ _ = K
                simp only [go_sem, ↓reduceIte, reduceCtorEq, Nat.reduceAdd, Nat.reduceSub, Nat.reduceMul, Nat.reduceEqDiff, Nat.reduceLT, Nat.reduceLeDiff, Nat.reduceBEq, Int.reduceAdd, Int.reduceSub, Int.reduceLT, Int.reduceLE, Int.reduceEq, Int.reduceToNat, eq_false c3, eq_false c4, eq_false c6, eq_false c10, eq_true c34]
                subst hK
                refine AW.ret ?_
                obtain rfl := Option.some.inj h
                (simp only [go_sem, ↓reduceIte, reduceCtorEq, Nat.reduceAdd, Nat.reduceSub, Nat.reduceMul, Nat.reduceEqDiff, Nat.reduceLT, Nat.reduceLeDiff, Nat.reduceBEq, Int.reduceAdd, Int.reduceSub, Int.reduceLT, Int.reduceLE, Int.reduceEq, Int.reduceToNat, eq_false c3, eq_false c4, eq_false c6, eq_false c10, eq_true c34, finA, resA, resOf_1, resOf_2, sealV_val, sealV_sl, sealV_ip, sealV_agg, sealV_tup, sealV_own, sealL_nil, sealL_cons] <;> try simp)
              · rw [if_neg c34] at h
                refine AW.ifT rfl c34 ?_
                refine AW.regL [4, 5, 6] ?_
                generalize hK : AW Try.prog _ _ _ = K
                simp only [go_sem, ↓reduceIte, reduceCtorEq, Nat.reduceAdd, Nat.reduceSub, Nat.reduceMul, Nat.reduceEqDiff, Nat.reduceLT, Nat.reduceLeDiff, Nat.reduceBEq, Int.reduceAdd, Int.reduceSub, Int.reduceLT, Int.reduceLE, Int.reduceEq, Int.reduceToNat, eq_false c3, eq_false c4, eq_false c6, eq_false c10, eq_false c34]
                subst hK
                refine AW.ret ?_
                refine thenA_r ?_
                obtain rfl := Option.some.inj h
                (simp only [go_sem, ↓reduceIte, reduceCtorEq, Nat.reduceAdd, Nat.reduceSub, Nat.reduceMul, Nat.reduceEqDiff, Nat.reduceLT, Nat.reduceLeDiff, Nat.reduceBEq, Int.reduceAdd, Int.reduceSub, Int.reduceLT, Int.reduceLE, Int.reduceEq, Int.reduceToNat, eq_false c3, eq_false c4, eq_false c6, eq_false c10, eq_false c34, finA, resA, resOf_1, resOf_2, sealV_val, sealV_sl, sealV_ip, sealV_agg, sealV_tup, sealV_own, sealL_nil, sealL_cons] <;> try simp)
end Au
end Go.Proofs.Y1
