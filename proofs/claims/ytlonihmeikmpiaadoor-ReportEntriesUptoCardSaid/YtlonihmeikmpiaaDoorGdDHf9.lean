import Derived.Test.YtlonihmeikmpiaaDoorGdDH
import Derived.Test.YtlonihmeikmpiaaDoorGdDHf23
set_option linter.all false
set_option linter.unusedVariables false
set_option linter.unusedSimpArgs false
set_option linter.all false
set_option maxRecDepth 8000
set_option maxHeartbeats 1000000
namespace Go.Proofs.Yd
open Go.Gm
namespace Au
noncomputable def f9_s7 (a0 : List Int) (s1_1 : Int) : Int → Option (Int ⊕ Int)
  | s7_0 => (if (IntKind.i64.wrap (s1_1 + s7_0)) < (a0.length : Int) then ((ix a0 (IntKind.i64.wrap (s1_1 + s7_0))).bind fun x124 => ((ix a0 (IntKind.i64.wrap ((IntKind.i64.wrap (s1_1 + s7_0)) - 1))).bind fun x125 => ((ix a0 (IntKind.i64.wrap (s1_1 + 1))).bind fun x126 => ((ix a0 s1_1).bind fun x127 => (if (IntKind.i64.wrap (x124 - x125)) = (IntKind.i64.wrap (x126 - x127)) then some (.inl (IntKind.i64.wrap (s7_0 + 1))) else some (.inr s7_0)))))) else some (.inr s7_0))
noncomputable def f9_j3 (a0 : List Int) (s1_1 : Int) : ByteArray → Option ((ByteArray × Int) ⊕ ByteArray)
  | j3_0 => ((loopO (f9_s7 a0 s1_1) 1).bind fun y130 => (if y130 < 3 then ((ix a0 s1_1).bind fun x132 => ((f23 x132).bind fun x133 => ((catO j3_0 x133).bind fun x134 => some (.inl (x134, IntKind.i64.wrap (s1_1 + 1)))))) else ((ix a0 s1_1).bind fun x135 => ((f23 x135).bind fun x136 => ((catO j3_0 x136).bind fun x137 => ((catO x137 ⟨#[46, 46]⟩).bind fun x138 => ((ix a0 (IntKind.i64.wrap ((IntKind.i64.wrap (s1_1 + y130)) - 1))).bind fun x139 => ((f23 x139).bind fun x140 => ((catO x138 x140).bind fun x141 => ((catO x141 ⟨#[47]⟩).bind fun x142 => ((ix a0 (IntKind.i64.wrap (s1_1 + 1))).bind fun x143 => ((f23 (IntKind.i64.wrap (x143 - x135))).bind fun x144 => ((catO x142 x144).bind fun x145 => some (.inl (x145, IntKind.i64.wrap (s1_1 + y130))))))))))))))))
noncomputable def f9_s1 (a0 : List Int) : ByteArray × Int → Option ((ByteArray × Int) ⊕ ByteArray)
  | (s1_0, s1_1) => (if s1_1 < (a0.length : Int) then (if s1_0 = ⟨#[]⟩ then f9_j3 a0 s1_1 s1_0 else ((catO s1_0 ⟨#[44]⟩).bind fun x147 => f9_j3 a0 s1_1 x147)) else some (.inr s1_0))
noncomputable def f9 (a0 : List Int) : Option ByteArray := ((loopO (f9_s1 a0) (⟨#[]⟩, 0)).bind fun y149 => some y149)
theorem ok9 (a0 : List Int) (r : ByteArray) (h : f9 a0 = some r) : PC Tryd.prog 9 [.sl (List.map enc3 a0)] (.val (.string r)) := by
  rw [f9] at h
  refine pc_of8 (N := 92) (rs := [.tmp 2]) Tryd.func9 rfl rfl rfl (Nat.le_of_ble_eq_true rfl) ?_
  refine AW.regL [0] ?_
  generalize hK : AW Tryd.prog _ _ _ = K
  simp only [go_sem, ↓reduceIte, reduceCtorEq, Nat.reduceAdd, Nat.reduceSub, Nat.reduceMul, Nat.reduceEqDiff, Nat.reduceLT, Nat.reduceLeDiff, Nat.reduceBEq, Int.reduceAdd, Int.reduceSub, Int.reduceLT, Int.reduceLE, Int.reduceEq, Int.reduceToNat]
  subst hK
  refine AW.regL [0, 3] ?_
  generalize hK : AW Tryd.prog _ _ _ = K
  simp only [go_sem, ↓reduceIte, reduceCtorEq, Nat.reduceAdd, Nat.reduceSub, Nat.reduceMul, Nat.reduceEqDiff, Nat.reduceLT, Nat.reduceLeDiff, Nat.reduceBEq, Int.reduceAdd, Int.reduceSub, Int.reduceLT, Int.reduceLE, Int.reduceEq, Int.reduceToNat]
  subst hK
  refine AW.regL [0, 3, 4] ?_
  generalize hK : AW Tryd.prog _ _ _ = K
  simp only [go_sem, ↓reduceIte, reduceCtorEq, Nat.reduceAdd, Nat.reduceSub, Nat.reduceMul, Nat.reduceEqDiff, Nat.reduceLT, Nat.reduceLeDiff, Nat.reduceBEq, Int.reduceAdd, Int.reduceSub, Int.reduceLT, Int.reduceLE, Int.reduceEq, Int.reduceToNat]
  subst hK
  refine AW.seq ?_
  refine AW.block ?_
  obtain ⟨y149, hy149, h⟩ := Option.bind_eq_some_iff.1 h
  refine AW.loopO (fun s => ⟨(upd (upd (upd anyF 0 (.sl (List.map enc3 a0))) 3 (.val (.string s.1))) 4 (.val (.int .i64 s.2))), hpL [] [], 8⟩) (fun z e st' => e = Exit.exit 0 ∧ st' = ⟨(upd anyF 3 (.val (.string z))), hpL [] [], 8⟩) hy149 ?_ ?_ ?_
  · refine Ent.can [] _ _ _ rfl (by first | decide | simp) rfl ?_ ?_ ?_
    · exact (((RF.any.pv (by first | rfl | simp only [go_sem]) (by first | rfl | simp [upd_ap, hpL_ap, tau, mapT, mapTL, bytesI_len])).pv (by first | rfl | simp only [go_sem]) (by first | rfl | simp [upd_ap, hpL_ap, tau, mapT, mapTL, bytesI_len])).pv (by first | rfl | simp only [go_sem]) (by first | rfl | simp [upd_ap, hpL_ap, tau, mapT, mapTL, bytesI_len]))
    · exact .nil _
    · exact .nil _
  · clear h hy149
    rintro ⟨s1_0, s1_1⟩ x h
    rw [f9_s1] at h
    refine AW.seq ?_
    refine AW.regL [0, 3, 4, 9] ?_
    generalize hK : AW Tryd.prog _ _ _ = K
    simp only [go_sem, ↓reduceIte, reduceCtorEq, Nat.reduceAdd, Nat.reduceSub, Nat.reduceMul, Nat.reduceEqDiff, Nat.reduceLT, Nat.reduceLeDiff, Nat.reduceBEq, Int.reduceAdd, Int.reduceSub, Int.reduceLT, Int.reduceLE, Int.reduceEq, Int.reduceToNat]
    subst hK
    by_cases c96 : s1_1 < (a0.length : Int)
    · rw [if_pos c96] at h
      refine AW.ifT rfl c96 ?_
      refine AW.skip ?_
      refine thenA_n ?_
      refine AW.block ?_
      refine AW.join (fun s => ⟨(upd (upd (upd anyF 0 (.sl (List.map enc3 a0))) 3 (.val (.string s))) 4 (.val (.int .i64 s1_1))), hpL [] [], 8⟩) (fun s => f9_j3 a0 s1_1 s = some x) ?_ ?_
      · refine AW.regL [0, 3, 4, 11] ?_
        generalize hK : AW Tryd.prog _ _ _ = K
        simp only [go_sem, ↓reduceIte, reduceCtorEq, Nat.reduceAdd, Nat.reduceSub, Nat.reduceMul, Nat.reduceEqDiff, Nat.reduceLT, Nat.reduceLeDiff, Nat.reduceBEq, Int.reduceAdd, Int.reduceSub, Int.reduceLT, Int.reduceLE, Int.reduceEq, Int.reduceToNat, eq_true c96]
        subst hK
        by_cases c146 : s1_0 = ⟨#[]⟩
        · rw [if_pos c146] at h
          refine AW.ifF rfl (fun q => q c146) ?_
          refine AW.skip ?_
          refine thenA_n ?_
          refine ⟨_, h, ?_⟩
          refine Ent.can [] _ _ _ rfl (by first | decide | simp) rfl ?_ ?_ ?_
          · exact (((RF.any.pv (by first | rfl | simp only [go_sem]) (by first | rfl | simp [upd_ap, hpL_ap, tau, mapT, mapTL, bytesI_len, eq_true c96, eq_true c146])).pv (by first | rfl | simp only [go_sem]) (by first | rfl | simp [upd_ap, hpL_ap, tau, mapT, mapTL, bytesI_len, eq_true c96, eq_true c146])).pv (by first | rfl | simp only [go_sem]) (by first | rfl | simp [upd_ap, hpL_ap, tau, mapT, mapTL, bytesI_len, eq_true c96, eq_true c146]))
          · exact .nil _
          · exact .nil _
        · rw [if_neg c146] at h
          refine AW.ifT rfl c146 ?_
          obtain ⟨x147, hx147, h⟩ := Option.bind_eq_some_iff.1 h
          refine AW.regionL [0, 3, 4] ?_
          generalize hK : thenA _ _ Exit.normal = K
          simp only [go_sem, ↓reduceIte, reduceCtorEq, Nat.reduceAdd, Nat.reduceSub, Nat.reduceMul, Nat.reduceEqDiff, Nat.reduceLT, Nat.reduceLeDiff, Nat.reduceBEq, Int.reduceAdd, Int.reduceSub, Int.reduceLT, Int.reduceLE, Int.reduceEq, Int.reduceToNat, eq_true c96, eq_false c146, binV_cat hx147]
          subst hK
          refine thenA_n ?_
          refine ⟨_, h, ?_⟩
          refine Ent.can [] _ _ _ rfl (by first | decide | simp) rfl ?_ ?_ ?_
          · exact (((RF.any.pv (by first | rfl | simp only [go_sem]) (by first | rfl | simp [upd_ap, hpL_ap, tau, mapT, mapTL, bytesI_len, eq_true c96, eq_false c146])).pv (by first | rfl | simp only [go_sem]) (by first | rfl | simp [upd_ap, hpL_ap, tau, mapT, mapTL, bytesI_len, eq_true c96, eq_false c146])).pv (by first | rfl | simp only [go_sem]) (by first | rfl | simp [upd_ap, hpL_ap, tau, mapT, mapTL, bytesI_len, eq_true c96, eq_false c146]))
          · exact .nil _
          · exact .nil _
      · clear h
        rintro j3_0 h
        rw [f9_j3] at h
        refine AW.regL [0, 3, 4, 5] ?_
        generalize hK : AW Tryd.prog _ _ _ = K
        simp only [go_sem, ↓reduceIte, reduceCtorEq, Nat.reduceAdd, Nat.reduceSub, Nat.reduceMul, Nat.reduceEqDiff, Nat.reduceLT, Nat.reduceLeDiff, Nat.reduceBEq, Int.reduceAdd, Int.reduceSub, Int.reduceLT, Int.reduceLE, Int.reduceEq, Int.reduceToNat, eq_true c96]
        subst hK
        refine AW.seq ?_
        refine AW.block ?_
        obtain ⟨y130, hy130, h⟩ := Option.bind_eq_some_iff.1 h
        refine AW.loopO (fun s => ⟨(upd (upd (upd (upd anyF 0 (.sl (List.map enc3 a0))) 3 (.val (.string j3_0))) 4 (.val (.int .i64 s1_1))) 5 (.val (.int .i64 s))), hpL [] [], 8⟩) (fun z e st' => e = Exit.exit 2 ∧ st' = ⟨(upd (upd (upd (upd anyF 0 (.sl (List.map enc3 a0))) 3 (.val (.string j3_0))) 4 (.val (.int .i64 s1_1))) 5 (.val (.int .i64 z))), hpL [] [], 8⟩) hy130 ?_ ?_ ?_
        · refine Ent.can [] _ _ _ rfl (by first | decide | simp) rfl ?_ ?_ ?_
          · exact ((((RF.any.pv (by first | rfl | simp only [go_sem]) (by first | rfl | simp [upd_ap, hpL_ap, tau, mapT, mapTL, bytesI_len, eq_true c96])).pv (by first | rfl | simp only [go_sem]) (by first | rfl | simp [upd_ap, hpL_ap, tau, mapT, mapTL, bytesI_len, eq_true c96])).pv (by first | rfl | simp only [go_sem]) (by first | rfl | simp [upd_ap, hpL_ap, tau, mapT, mapTL, bytesI_len, eq_true c96])).pv (by first | rfl | simp only [go_sem]) (by first | rfl | simp [upd_ap, hpL_ap, tau, mapT, mapTL, bytesI_len, eq_true c96]))
          · exact .nil _
          · exact .nil _
        · clear h hy130
          rintro s7_0 x h
          rw [f9_s7] at h
          refine AW.seq ?_
          by_cases c123 : (IntKind.i64.wrap (s1_1 + s7_0)) < (a0.length : Int)
          · rw [if_pos c123] at h
            obtain ⟨x124, hx124, h⟩ := Option.bind_eq_some_iff.1 h
            obtain ⟨hx124a, hx124b⟩ := ix_some.1 hx124
            obtain ⟨x125, hx125, h⟩ := Option.bind_eq_some_iff.1 h
            obtain ⟨hx125a, hx125b⟩ := ix_some.1 hx125
            obtain ⟨x126, hx126, h⟩ := Option.bind_eq_some_iff.1 h
            obtain ⟨hx126a, hx126b⟩ := ix_some.1 hx126
            obtain ⟨x127, hx127, h⟩ := Option.bind_eq_some_iff.1 h
            obtain ⟨hx127a, hx127b⟩ := ix_some.1 hx127
            refine AW.regdL [0, 3, 4, 5, 46] [[], [], [0, 1], [], [3], [0, 1, 2, 3, 4], [0, 1, 2, 3, 4, 5], [0, 1, 2, 3, 4, 5, 6], [0, 1, 2, 3, 4, 5, 6], [0, 1, 2, 3, 4, 5, 6], [0, 1, 2, 3, 4, 5, 6, 8, 9], [0, 1, 2, 3, 4, 5, 6, 7, 8, 9, 10], [0, 1, 2, 3, 4, 5, 6, 7, 8, 9, 10, 11], [0, 1, 2, 3, 4, 5, 6], [0, 1, 2, 3, 4, 5, 6], [0, 1, 2, 3, 4, 5, 6], [0, 1, 2, 3, 4, 5, 6, 14, 15], [0, 1, 2, 3, 4, 5, 6, 14, 15, 16], [0, 1, 2, 3, 4, 5, 6, 13, 14, 15, 16, 17], [0, 1, 2, 3, 4, 5, 6, 13, 14, 15, 16, 17, 18], [0, 1, 2, 3, 4, 5, 6, 7, 8, 9, 10, 11, 12, 13, 14, 15, 16, 17, 18, 19], [0, 1, 2, 3, 4, 5, 6], [0, 1, 2, 3, 4, 5, 6], [0, 1, 2, 3, 4, 5, 6, 22], [0, 1, 2, 3, 4, 5, 6, 21, 22, 23], [0, 1, 2, 3, 4, 5, 6, 21, 22, 23, 24], [0, 1, 2, 3, 4, 5, 6], [0, 1, 2, 3, 4, 5, 6], [0, 1, 2, 3, 4, 5, 6, 26, 27], [0, 1, 2, 3, 4, 5, 6, 26, 27, 28], [0, 1, 2, 3, 4, 5, 6, 21, 22, 23, 24, 25, 26, 27, 28, 29], [0, 1, 2, 3, 4, 5, 6, 7, 8, 9, 10, 11, 12, 13, 14, 15, 16, 17, 18, 19, 20, 21, 22, 23, 24, 25, 26, 27, 28, 29, 30], [0, 1, 2, 3, 4, 5, 6, 7, 8, 9, 10, 11, 12, 13, 14, 15, 16, 17, 18, 19, 20, 21, 22, 23, 24, 25, 26, 27, 28, 29, 30, 31]] [0, 1, 2, 3, 4, 5, 6, 7, 8, 9, 10, 11, 12, 13, 14, 15, 16, 17, 18, 19, 20, 21, 22, 23, 24, 25, 26, 27, 28, 29, 30, 31, 32] noFt (fun _ _ _ h => by simp [noFt] at h) draws (by kernel_rfl) (by kernel_rfl) ?_
            generalize hK : AW Tryd.prog _ _ _ = K
            simp only [go_sem, ↓reduceIte, reduceCtorEq, Nat.reduceAdd, Nat.reduceSub, Nat.reduceMul, Nat.reduceEqDiff, Nat.reduceLT, Nat.reduceLeDiff, Nat.reduceBEq, Int.reduceAdd, Int.reduceSub, Int.reduceLT, Int.reduceLE, Int.reduceEq, Int.reduceToNat, eq_true c96, eq_true c123, natOf_le hx124a, hx124b, natOf_le hx125a, hx125b, natOf_le hx126a, hx126b, natOf_le hx127a, hx127b]
            subst hK
            by_cases c128 : (IntKind.i64.wrap (x124 - x125)) = (IntKind.i64.wrap (x126 - x127))
            · rw [if_pos c128] at h
              refine AW.ifT rfl c128 ?_
              refine AW.skip ?_
              refine thenA_n ?_
              refine AW.block ?_
              refine AW.regionL [0, 3, 4, 5] ?_
              generalize hK : inBlockA _ _ Exit.normal = K
              simp only [go_sem, ↓reduceIte, reduceCtorEq, Nat.reduceAdd, Nat.reduceSub, Nat.reduceMul, Nat.reduceEqDiff, Nat.reduceLT, Nat.reduceLeDiff, Nat.reduceBEq, Int.reduceAdd, Int.reduceSub, Int.reduceLT, Int.reduceLE, Int.reduceEq, Int.reduceToNat, eq_true c96, eq_true c123, eq_true c128]
              subst hK
              refine block_n ?_
              refine thenA_n ?_
              refine ⟨_, (Option.some.inj h).symm, ?_⟩
              refine Ent.can [] _ _ _ rfl (by first | decide | simp) rfl ?_ ?_ ?_
              · exact ((((RF.any.pv (by first | rfl | simp only [go_sem]) (by first | rfl | simp [upd_ap, hpL_ap, tau, mapT, mapTL, bytesI_len, eq_true c96, eq_true c123, eq_true c128])).pv (by first | rfl | simp only [go_sem]) (by first | rfl | simp [upd_ap, hpL_ap, tau, mapT, mapTL, bytesI_len, eq_true c96, eq_true c123, eq_true c128])).pv (by first | rfl | simp only [go_sem]) (by first | rfl | simp [upd_ap, hpL_ap, tau, mapT, mapTL, bytesI_len, eq_true c96, eq_true c123, eq_true c128])).pv (by first | rfl | simp only [go_sem]) (by first | rfl | simp [upd_ap, hpL_ap, tau, mapT, mapTL, bytesI_len, eq_true c96, eq_true c123, eq_true c128]))
              · exact .nil _
              · exact .nil _
            · rw [if_neg c128] at h
              refine AW.ifF rfl c128 ?_
              refine AW.exit ?_
              refine thenA_x ?_
              refine thenA_x ?_
              refine ⟨_, (Option.some.inj h).symm, _, ?_, rfl, rfl⟩
              refine Ent.can [] _ _ _ rfl (by first | decide | simp) rfl ?_ ?_ ?_
              · exact ((((RF.any.pv (by first | rfl | simp only [go_sem]) (by first | rfl | simp [upd_ap, hpL_ap, tau, mapT, mapTL, bytesI_len, eq_true c96, eq_true c123, eq_false c128])).pv (by first | rfl | simp only [go_sem]) (by first | rfl | simp [upd_ap, hpL_ap, tau, mapT, mapTL, bytesI_len, eq_true c96, eq_true c123, eq_false c128])).pv (by first | rfl | simp only [go_sem]) (by first | rfl | simp [upd_ap, hpL_ap, tau, mapT, mapTL, bytesI_len, eq_true c96, eq_true c123, eq_false c128])).pv (by first | rfl | simp only [go_sem]) (by first | rfl | simp [upd_ap, hpL_ap, tau, mapT, mapTL, bytesI_len, eq_true c96, eq_true c123, eq_false c128]))
              · exact .nil _
              · exact .nil _
          · rw [if_neg c123] at h
            refine AW.regdL [0, 3, 4, 5, 46] [[], [], [0, 1], [], [3], [0, 1, 2, 3, 4], [0, 1, 2, 3, 4, 5], [0, 1, 2, 3, 4, 5, 6], [0, 1, 2, 3, 4, 5, 6], [0, 1, 2, 3, 4, 5, 6], [0, 1, 2, 3, 4, 5, 6, 8, 9], [0, 1, 2, 3, 4, 5, 6, 7, 8, 9, 10], [0, 1, 2, 3, 4, 5, 6, 7, 8, 9, 10, 11], [0, 1, 2, 3, 4, 5, 6], [0, 1, 2, 3, 4, 5, 6], [0, 1, 2, 3, 4, 5, 6], [0, 1, 2, 3, 4, 5, 6, 14, 15], [0, 1, 2, 3, 4, 5, 6, 14, 15, 16], [0, 1, 2, 3, 4, 5, 6, 13, 14, 15, 16, 17], [0, 1, 2, 3, 4, 5, 6, 13, 14, 15, 16, 17, 18], [0, 1, 2, 3, 4, 5, 6, 7, 8, 9, 10, 11, 12, 13, 14, 15, 16, 17, 18, 19], [0, 1, 2, 3, 4, 5, 6], [0, 1, 2, 3, 4, 5, 6], [0, 1, 2, 3, 4, 5, 6, 22], [0, 1, 2, 3, 4, 5, 6, 21, 22, 23], [0, 1, 2, 3, 4, 5, 6, 21, 22, 23, 24], [0, 1, 2, 3, 4, 5, 6], [0, 1, 2, 3, 4, 5, 6], [0, 1, 2, 3, 4, 5, 6, 26, 27], [0, 1, 2, 3, 4, 5, 6, 26, 27, 28], [0, 1, 2, 3, 4, 5, 6, 21, 22, 23, 24, 25, 26, 27, 28, 29], [0, 1, 2, 3, 4, 5, 6, 7, 8, 9, 10, 11, 12, 13, 14, 15, 16, 17, 18, 19, 20, 21, 22, 23, 24, 25, 26, 27, 28, 29, 30], [0, 1, 2, 3, 4, 5, 6, 7, 8, 9, 10, 11, 12, 13, 14, 15, 16, 17, 18, 19, 20, 21, 22, 23, 24, 25, 26, 27, 28, 29, 30, 31]] [0, 1, 2, 3, 4, 5, 6, 7, 8, 9, 10, 11, 12, 13, 14, 15, 16, 17, 18, 19, 20, 21, 22, 23, 24, 25, 26, 27, 28, 29, 30, 31, 32] noFt (fun _ _ _ h => by simp [noFt] at h) draws (by kernel_rfl) (by kernel_rfl) ?_
            generalize hK : AW Tryd.prog _ _ _ = K
            simp only [go_sem, ↓reduceIte, reduceCtorEq, Nat.reduceAdd, Nat.reduceSub, Nat.reduceMul, Nat.reduceEqDiff, Nat.reduceLT, Nat.reduceLeDiff, Nat.reduceBEq, Int.reduceAdd, Int.reduceSub, Int.reduceLT, Int.reduceLE, Int.reduceEq, Int.reduceToNat, eq_true c96, eq_false c123]
            subst hK
            refine AW.ifBF rfl rfl ?_
            refine AW.exit ?_
            refine thenA_x ?_
            refine thenA_x ?_
            refine ⟨_, (Option.some.inj h).symm, _, ?_, rfl, rfl⟩
            refine Ent.can [] _ _ _ rfl (by first | decide | simp) rfl ?_ ?_ ?_
            · exact ((((RF.any.pv (by first | rfl | simp only [go_sem]) (by first | rfl | simp [upd_ap, hpL_ap, tau, mapT, mapTL, bytesI_len, eq_true c96, eq_false c123])).pv (by first | rfl | simp only [go_sem]) (by first | rfl | simp [upd_ap, hpL_ap, tau, mapT, mapTL, bytesI_len, eq_true c96, eq_false c123])).pv (by first | rfl | simp only [go_sem]) (by first | rfl | simp [upd_ap, hpL_ap, tau, mapT, mapTL, bytesI_len, eq_true c96, eq_false c123])).pv (by first | rfl | simp only [go_sem]) (by first | rfl | simp [upd_ap, hpL_ap, tau, mapT, mapTL, bytesI_len, eq_true c96, eq_false c123]))
            · exact .nil _
            · exact .nil _
        · intro e st' hX
          try dsimp only at h
          try dsimp only at hX
          obtain ⟨rfl, rfl⟩ := hX
          refine ⟨_, Ent.refl, ?_⟩
          refine block_x ?_
          refine thenA_n ?_
          refine AW.seq ?_
          refine AW.regL [0, 3, 4, 5, 50] ?_
          generalize hK : AW Tryd.prog _ _ _ = K
          simp only [go_sem, ↓reduceIte, reduceCtorEq, Nat.reduceAdd, Nat.reduceSub, Nat.reduceMul, Nat.reduceEqDiff, Nat.reduceLT, Nat.reduceLeDiff, Nat.reduceBEq, Int.reduceAdd, Int.reduceSub, Int.reduceLT, Int.reduceLE, Int.reduceEq, Int.reduceToNat, eq_true c96]
          subst hK
          by_cases c131 : y130 < 3
          · rw [if_pos c131] at h
            refine AW.ifT rfl c131 ?_
            refine AW.regL [0, 3, 4, 5] ?_
            generalize hK : AW Tryd.prog _ _ _ = K
            simp only [go_sem, ↓reduceIte, reduceCtorEq, Nat.reduceAdd, Nat.reduceSub, Nat.reduceMul, Nat.reduceEqDiff, Nat.reduceLT, Nat.reduceLeDiff, Nat.reduceBEq, Int.reduceAdd, Int.reduceSub, Int.reduceLT, Int.reduceLE, Int.reduceEq, Int.reduceToNat, eq_true c96, eq_true c131]
            subst hK
            obtain ⟨x132, hx132, h⟩ := Option.bind_eq_some_iff.1 h
            obtain ⟨hx132a, hx132b⟩ := ix_some.1 hx132
            obtain ⟨x133, hx133, h⟩ := Option.bind_eq_some_iff.1 h
            obtain ⟨x134, hx134, h⟩ := Option.bind_eq_some_iff.1 h
            refine AW.regionL [0, 3, 4, 5] ?_
            generalize hK : thenA _ _ Exit.normal = K
            simp only [go_sem, ↓reduceIte, reduceCtorEq, Nat.reduceAdd, Nat.reduceSub, Nat.reduceMul, Nat.reduceEqDiff, Nat.reduceLT, Nat.reduceLeDiff, Nat.reduceBEq, Int.reduceAdd, Int.reduceSub, Int.reduceLT, Int.reduceLE, Int.reduceEq, Int.reduceToNat, eq_true c96, eq_true c131, natOf_le hx132a, hx132b, binV_cat hx134]
            refine arC.of (ok23 x132 x133 hx133) Tryd.call23 ?_
            simp only [go_sem, ↓reduceIte, reduceCtorEq, Nat.reduceAdd, Nat.reduceSub, Nat.reduceMul, Nat.reduceEqDiff, Nat.reduceLT, Nat.reduceLeDiff, Nat.reduceBEq, Int.reduceAdd, Int.reduceSub, Int.reduceLT, Int.reduceLE, Int.reduceEq, Int.reduceToNat, eq_true c96, eq_true c131, natOf_le hx132a, hx132b, binV_cat hx134]
            subst hK
            refine thenA_n ?_
            refine AW.regionL [0, 3, 4] ?_
            generalize hK : inBlockA _ _ Exit.normal = K
            simp only [go_sem, ↓reduceIte, reduceCtorEq, Nat.reduceAdd, Nat.reduceSub, Nat.reduceMul, Nat.reduceEqDiff, Nat.reduceLT, Nat.reduceLeDiff, Nat.reduceBEq, Int.reduceAdd, Int.reduceSub, Int.reduceLT, Int.reduceLE, Int.reduceEq, Int.reduceToNat, eq_true c96, eq_true c131]
            subst hK
            refine block_n ?_
            refine thenA_n ?_
            refine ⟨_, (Option.some.inj h).symm, ?_⟩
            refine Ent.can [] _ _ _ rfl (by first | decide | simp) rfl ?_ ?_ ?_
            · exact (((RF.any.pv (by first | rfl | simp only [go_sem]) (by first | rfl | simp [upd_ap, hpL_ap, tau, mapT, mapTL, bytesI_len, eq_true c96, eq_true c131])).pv (by first | rfl | simp only [go_sem]) (by first | rfl | simp [upd_ap, hpL_ap, tau, mapT, mapTL, bytesI_len, eq_true c96, eq_true c131])).pv (by first | rfl | simp only [go_sem]) (by first | rfl | simp [upd_ap, hpL_ap, tau, mapT, mapTL, bytesI_len, eq_true c96, eq_true c131]))
            · exact .nil _
            · exact .nil _
          · rw [if_neg c131] at h
            refine AW.ifF rfl c131 ?_
            obtain ⟨x135, hx135, h⟩ := Option.bind_eq_some_iff.1 h
            obtain ⟨hx135a, hx135b⟩ := ix_some.1 hx135
            obtain ⟨x136, hx136, h⟩ := Option.bind_eq_some_iff.1 h
            obtain ⟨x137, hx137, h⟩ := Option.bind_eq_some_iff.1 h
            obtain ⟨x138, hx138, h⟩ := Option.bind_eq_some_iff.1 h
            obtain ⟨x139, hx139, h⟩ := Option.bind_eq_some_iff.1 h
            obtain ⟨hx139a, hx139b⟩ := ix_some.1 hx139
            obtain ⟨x140, hx140, h⟩ := Option.bind_eq_some_iff.1 h
            obtain ⟨x141, hx141, h⟩ := Option.bind_eq_some_iff.1 h
            obtain ⟨x142, hx142, h⟩ := Option.bind_eq_some_iff.1 h
            obtain ⟨x143, hx143, h⟩ := Option.bind_eq_some_iff.1 h
            obtain ⟨hx143a, hx143b⟩ := ix_some.1 hx143
            obtain ⟨x144, hx144, h⟩ := Option.bind_eq_some_iff.1 h
            obtain ⟨x145, hx145, h⟩ := Option.bind_eq_some_iff.1 h
            refine AW.drawL [0, 3, 4, 5] [[], [], [], [1, 2], [1, 2, 3], [1, 2, 3, 4], [0, 1, 2, 3, 4, 5], [0, 1, 2, 3, 4, 5, 6], [], [], [], [9, 10], [9, 10, 11], [8, 9, 10, 11, 12], [8, 9, 10, 11, 12, 13], [1, 2, 3, 4, 5, 8, 9, 10, 11, 12, 13, 14], [0, 1, 2, 3, 4, 5, 6, 7, 8, 9, 10, 11, 12, 13, 14, 15], [0, 1, 2, 3, 4, 5, 6, 7, 8, 9, 10, 11, 12, 13, 14, 15, 16], [], [], [19], [18, 19, 20], [18, 19, 20, 21], [], [], [23, 24], [23, 24, 25], [18, 19, 20, 21, 22, 23, 24, 25, 26], [1, 2, 3, 4, 5, 8, 9, 10, 11, 12, 13, 14, 15, 18, 19, 20, 21, 22, 23, 24, 25, 26, 27], [0, 1, 2, 3, 4, 5, 6, 7, 8, 9, 10, 11, 12, 13, 14, 15, 16, 17, 18, 19, 20, 21, 22, 23, 24, 25, 26, 27, 28], [0, 1, 2, 3, 4, 5, 6, 7, 8, 9, 10, 11, 12, 13, 14, 15, 16, 17, 18, 19, 20, 21, 22, 23, 24, 25, 26, 27, 28, 29]] [0, 1, 2, 3, 4, 5, 6, 7, 8, 9, 10, 11, 12, 13, 14, 15, 16, 17, 18, 19, 20, 21, 22, 23, 24, 25, 26, 27, 28, 29, 30] noFt (fun _ _ _ h => by simp [noFt] at h) draws (by kernel_rfl) (by kernel_rfl) ?_
            generalize hK : thenA _ _ Exit.normal = K
            simp only [go_sem, ↓reduceIte, reduceCtorEq, Nat.reduceAdd, Nat.reduceSub, Nat.reduceMul, Nat.reduceEqDiff, Nat.reduceLT, Nat.reduceLeDiff, Nat.reduceBEq, Int.reduceAdd, Int.reduceSub, Int.reduceLT, Int.reduceLE, Int.reduceEq, Int.reduceToNat, eq_true c96, eq_false c131, natOf_le hx135a, hx135b, binV_cat hx137, binV_cat hx138, natOf_le hx139a, hx139b, binV_cat hx141, binV_cat hx142, natOf_le hx143a, hx143b, binV_cat hx145]
            refine adN.pc (ok23 x135 x136 hx136) Tryd.call23 callV_fn (by simp only [go_sem, ↓reduceIte, reduceCtorEq, Nat.reduceAdd, Nat.reduceSub, Nat.reduceMul, Nat.reduceEqDiff, Nat.reduceLT, Nat.reduceLeDiff, Nat.reduceBEq, Int.reduceAdd, Int.reduceSub, Int.reduceLT, Int.reduceLE, Int.reduceEq, Int.reduceToNat, eq_true c96, eq_false c131, natOf_le hx135a, hx135b, binV_cat hx137, binV_cat hx138, natOf_le hx139a, hx139b, binV_cat hx141, binV_cat hx142, natOf_le hx143a, hx143b, binV_cat hx145]) (by simp only [go_sem, ↓reduceIte, reduceCtorEq, Nat.reduceAdd, Nat.reduceSub, Nat.reduceMul, Nat.reduceEqDiff, Nat.reduceLT, Nat.reduceLeDiff, Nat.reduceBEq, Int.reduceAdd, Int.reduceSub, Int.reduceLT, Int.reduceLE, Int.reduceEq, Int.reduceToNat]) ?_
            simp only [go_sem, ↓reduceIte, reduceCtorEq, Nat.reduceAdd, Nat.reduceSub, Nat.reduceMul, Nat.reduceEqDiff, Nat.reduceLT, Nat.reduceLeDiff, Nat.reduceBEq, Int.reduceAdd, Int.reduceSub, Int.reduceLT, Int.reduceLE, Int.reduceEq, Int.reduceToNat, eq_true c96, eq_false c131, natOf_le hx135a, hx135b, binV_cat hx137, binV_cat hx138, natOf_le hx139a, hx139b, binV_cat hx141, binV_cat hx142, natOf_le hx143a, hx143b, binV_cat hx145]
            refine adN.pc (ok23 x139 x140 hx140) Tryd.call23 callV_fn (by simp only [go_sem, ↓reduceIte, reduceCtorEq, Nat.reduceAdd, Nat.reduceSub, Nat.reduceMul, Nat.reduceEqDiff, Nat.reduceLT, Nat.reduceLeDiff, Nat.reduceBEq, Int.reduceAdd, Int.reduceSub, Int.reduceLT, Int.reduceLE, Int.reduceEq, Int.reduceToNat, eq_true c96, eq_false c131, natOf_le hx135a, hx135b, binV_cat hx137, binV_cat hx138, natOf_le hx139a, hx139b, binV_cat hx141, binV_cat hx142, natOf_le hx143a, hx143b, binV_cat hx145]) (by simp only [go_sem, ↓reduceIte, reduceCtorEq, Nat.reduceAdd, Nat.reduceSub, Nat.reduceMul, Nat.reduceEqDiff, Nat.reduceLT, Nat.reduceLeDiff, Nat.reduceBEq, Int.reduceAdd, Int.reduceSub, Int.reduceLT, Int.reduceLE, Int.reduceEq, Int.reduceToNat]) ?_
            simp only [go_sem, ↓reduceIte, reduceCtorEq, Nat.reduceAdd, Nat.reduceSub, Nat.reduceMul, Nat.reduceEqDiff, Nat.reduceLT, Nat.reduceLeDiff, Nat.reduceBEq, Int.reduceAdd, Int.reduceSub, Int.reduceLT, Int.reduceLE, Int.reduceEq, Int.reduceToNat, eq_true c96, eq_false c131, natOf_le hx135a, hx135b, binV_cat hx137, binV_cat hx138, natOf_le hx139a, hx139b, binV_cat hx141, binV_cat hx142, natOf_le hx143a, hx143b, binV_cat hx145]
            refine adN.pc (ok23 (IntKind.i64.wrap (x143 - x135)) x144 hx144) Tryd.call23 callV_fn (by simp only [go_sem, ↓reduceIte, reduceCtorEq, Nat.reduceAdd, Nat.reduceSub, Nat.reduceMul, Nat.reduceEqDiff, Nat.reduceLT, Nat.reduceLeDiff, Nat.reduceBEq, Int.reduceAdd, Int.reduceSub, Int.reduceLT, Int.reduceLE, Int.reduceEq, Int.reduceToNat, eq_true c96, eq_false c131, natOf_le hx135a, hx135b, binV_cat hx137, binV_cat hx138, natOf_le hx139a, hx139b, binV_cat hx141, binV_cat hx142, natOf_le hx143a, hx143b, binV_cat hx145]) (by simp only [go_sem, ↓reduceIte, reduceCtorEq, Nat.reduceAdd, Nat.reduceSub, Nat.reduceMul, Nat.reduceEqDiff, Nat.reduceLT, Nat.reduceLeDiff, Nat.reduceBEq, Int.reduceAdd, Int.reduceSub, Int.reduceLT, Int.reduceLE, Int.reduceEq, Int.reduceToNat]) ?_
            simp only [go_sem, ↓reduceIte, reduceCtorEq, Nat.reduceAdd, Nat.reduceSub, Nat.reduceMul, Nat.reduceEqDiff, Nat.reduceLT, Nat.reduceLeDiff, Nat.reduceBEq, Int.reduceAdd, Int.reduceSub, Int.reduceLT, Int.reduceLE, Int.reduceEq, Int.reduceToNat, eq_true c96, eq_false c131, natOf_le hx135a, hx135b, binV_cat hx137, binV_cat hx138, natOf_le hx139a, hx139b, binV_cat hx141, binV_cat hx142, natOf_le hx143a, hx143b, binV_cat hx145]
            subst hK
            refine thenA_n ?_
            refine AW.regionL [0, 3, 4] ?_
            generalize hK : inBlockA _ _ Exit.normal = K
            simp only [go_sem, ↓reduceIte, reduceCtorEq, Nat.reduceAdd, Nat.reduceSub, Nat.reduceMul, Nat.reduceEqDiff, Nat.reduceLT, Nat.reduceLeDiff, Nat.reduceBEq, Int.reduceAdd, Int.reduceSub, Int.reduceLT, Int.reduceLE, Int.reduceEq, Int.reduceToNat, eq_true c96, eq_false c131]
            subst hK
            refine block_n ?_
            refine thenA_n ?_
            refine ⟨_, (Option.some.inj h).symm, ?_⟩
            refine Ent.can [] _ _ _ rfl (by first | decide | simp) rfl ?_ ?_ ?_
            · exact (((RF.any.pv (by first | rfl | simp only [go_sem]) (by first | rfl | simp [upd_ap, hpL_ap, tau, mapT, mapTL, bytesI_len, eq_true c96, eq_false c131])).pv (by first | rfl | simp only [go_sem]) (by first | rfl | simp [upd_ap, hpL_ap, tau, mapT, mapTL, bytesI_len, eq_true c96, eq_false c131])).pv (by first | rfl | simp only [go_sem]) (by first | rfl | simp [upd_ap, hpL_ap, tau, mapT, mapTL, bytesI_len, eq_true c96, eq_false c131]))
            · exact .nil _
            · exact .nil _
    · rw [if_neg c96] at h
      refine AW.ifF rfl c96 ?_
      refine AW.exit ?_
      refine thenA_x ?_
      refine thenA_x ?_
      refine ⟨_, (Option.some.inj h).symm, _, ?_, rfl, rfl⟩
      refine Ent.can [] _ _ _ rfl (by first | decide | simp) rfl ?_ ?_ ?_
      · exact (RF.any.pv (by first | rfl | simp only [go_sem]) (by first | rfl | simp [upd_ap, hpL_ap, tau, mapT, mapTL, bytesI_len, eq_false c96]))
      · exact .nil _
      · exact .nil _
  · intro e st' hX
    try dsimp only at h
    try dsimp only at hX
    obtain ⟨rfl, rfl⟩ := hX
    refine ⟨_, Ent.refl, ?_⟩
    refine block_x ?_
    refine thenA_n ?_
    refine AW.regL [2] ?_
    generalize hK : AW Tryd.prog _ _ _ = K
    simp only [go_sem, ↓reduceIte, reduceCtorEq, Nat.reduceAdd, Nat.reduceSub, Nat.reduceMul, Nat.reduceEqDiff, Nat.reduceLT, Nat.reduceLeDiff, Nat.reduceBEq, Int.reduceAdd, Int.reduceSub, Int.reduceLT, Int.reduceLE, Int.reduceEq, Int.reduceToNat]
    subst hK
    refine AW.ret ?_
    obtain rfl := Option.some.inj h
    (simp only [go_sem, ↓reduceIte, reduceCtorEq, Nat.reduceAdd, Nat.reduceSub, Nat.reduceMul, Nat.reduceEqDiff, Nat.reduceLT, Nat.reduceLeDiff, Nat.reduceBEq, Int.reduceAdd, Int.reduceSub, Int.reduceLT, Int.reduceLE, Int.reduceEq, Int.reduceToNat, finA, resA, resOf_1, resOf_2, sealV_val, sealV_sl, sealV_ip, sealV_agg, sealV_tup, sealV_own, sealL_nil, sealL_cons, sealV_clo, resOf_clo] <;> try simp)
end Au
end Go.Proofs.Yd
