import Derived.Test.YtlonihmeikmpiaaGqDT
import Derived.Test.YtlonihmeikmpiaaGqDTf61
import Derived.Test.YtlonihmeikmpiaaGqDTf104
set_option linter.all false
set_option linter.unusedVariables false
set_option linter.unusedSimpArgs false
set_option linter.all false
set_option maxRecDepth 8000
set_option maxHeartbeats 1000000
namespace Go.Proofs.Y1
open Go.Gm
namespace Au
noncomputable def f57_s18 (a0 : List (List Item)) (s1_1 : Int) (s12_0 : Int) (x379 : List Item) : Bool × Bool × Int → Option ((Bool × Bool × Int) ⊕ Bool)
  | (s18_0, s18_1, s18_2) => (if s1_1 < (a0.length : Int) then ((ix a0 s1_1).bind fun x437 => (if s18_2 < (x437.length : Int) then ((ix x437 s18_2).bind fun x439 => ((ix x379 s12_0).bind fun x440 => (if x439.Key = x440.Key then (if s18_1 = true then some (.inl (s18_0, true, IntKind.i64.wrap (s18_2 + 1))) else ((cutO? x437 s18_2 (IntKind.i64.wrap (s18_2 + 1))).bind fun x443 => ((cutO? x379 s12_0 (IntKind.i64.wrap (s12_0 + 1))).bind fun x444 => ((f61 x443 x444).bind fun x445 => some (.inl (x445, true, IntKind.i64.wrap (s18_2 + 1))))))) else some (.inl (s18_0, s18_1, IntKind.i64.wrap (s18_2 + 1)))))) else some (.inr s18_0))) else some (.inr s18_0))
noncomputable def f57_s12 (a0 : List (List Item)) (a1 : List (List Item)) (s1_1 : Int) : Int × (List ByteArray) → Option ((Int × (List ByteArray)) ⊕ (List ByteArray))
  | (s12_0, s12_1) => ((ix a1 s1_1).bind fun x379 => (if s12_0 < (x379.length : Int) then ((loopO (f57_s18 a0 s1_1 s12_0 x379) (false, false, 0)).bind fun y447 => (if y447 = true then some (.inl (IntKind.i64.wrap (s12_0 + 1), s12_1)) else ((ix x379 s12_0).bind fun x449 => ((f104 s12_1 x449.Key).bind fun x450 => some (.inl (IntKind.i64.wrap (s12_0 + 1), x450)))))) else some (.inr s12_1)))
noncomputable def f57_s1 (a0 : List (List Item)) (a1 : List (List Item)) : (List ByteArray) × Int → Option (((List ByteArray) × Int) ⊕ (List ByteArray))
  | (s1_0, s1_1) => (if s1_1 < (a1.length : Int) then ((loopO (f57_s12 a0 a1 s1_1) (0, s1_0)).bind fun y452 => some (.inl (y452, IntKind.i64.wrap (s1_1 + 1)))) else some (.inr s1_0))
noncomputable def f57 (a0 : List (List Item)) (a1 : List (List Item)) : Option (List ByteArray) := ((loopO (f57_s1 a0 a1) ([], 0)).bind fun y454 => some y454)
theorem ok57 (a0 : List (List Item)) (a1 : List (List Item)) (r : (List ByteArray)) (h : f57 a0 a1 = some r) : PC Try.prog 57 [.sl (List.map enc90 a0), .sl (List.map enc90 a1)] (.sl (List.map enc9 r)) := by
  rw [f57] at h
  refine pc_of8 (N := 92) (rs := [.tmp 4]) Try.func57 rfl rfl rfl (Nat.le_of_ble_eq_true rfl) ?_
  refine AW.regL [0, 1] ?_
  generalize hK : AW Try.prog _ _ _ = K
  simp only [go_sem, ↓reduceIte, reduceCtorEq, Nat.reduceAdd, Nat.reduceSub, Nat.reduceMul, Nat.reduceEqDiff, Nat.reduceLT, Nat.reduceLeDiff, Nat.reduceBEq, Int.reduceAdd, Int.reduceSub, Int.reduceLT, Int.reduceLE, Int.reduceEq, Int.reduceToNat]
  subst hK
  refine AW.regL [0, 1, 5] ?_
  generalize hK : AW Try.prog _ _ _ = K
  simp only [go_sem, ↓reduceIte, reduceCtorEq, Nat.reduceAdd, Nat.reduceSub, Nat.reduceMul, Nat.reduceEqDiff, Nat.reduceLT, Nat.reduceLeDiff, Nat.reduceBEq, Int.reduceAdd, Int.reduceSub, Int.reduceLT, Int.reduceLE, Int.reduceEq, Int.reduceToNat]
  subst hK
  refine AW.seq ?_
  refine AW.regL [0, 1, 5, 6] ?_
  generalize hK : AW Try.prog _ _ _ = K
  simp only [go_sem, ↓reduceIte, reduceCtorEq, Nat.reduceAdd, Nat.reduceSub, Nat.reduceMul, Nat.reduceEqDiff, Nat.reduceLT, Nat.reduceLeDiff, Nat.reduceBEq, Int.reduceAdd, Int.reduceSub, Int.reduceLT, Int.reduceLE, Int.reduceEq, Int.reduceToNat]
  subst hK
  refine AW.block ?_
  obtain ⟨y454, hy454, h⟩ := Option.bind_eq_some_iff.1 h
  refine AW.loopO (fun s => ⟨(upd (upd (upd (upd anyF 0 (.sl (List.map enc90 a0))) 1 (.sl (List.map enc90 a1))) 5 (.sl (List.map enc9 s.1))) 6 (.val (.int .i64 s.2))), hpL [] [], 8⟩) (fun z e st' => e = Exit.exit 0 ∧ st' = ⟨(upd anyF 5 (.sl (List.map enc9 z))), hpL [] [], 8⟩) hy454 ?_ ?_ ?_
  · refine Ent.can [] _ _ _ rfl (by first | decide | simp) rfl ?_ ?_ ?_
    · exact ((((RF.any.pv (by first | rfl | simp only [go_sem]) (by first | rfl | simp [upd_ap, hpL_ap, tau, mapT, mapTL, bytesI_len])).pv (by first | rfl | simp only [go_sem]) (by first | rfl | simp [upd_ap, hpL_ap, tau, mapT, mapTL, bytesI_len])).pn rfl).pv (by first | rfl | simp only [go_sem]) (by first | rfl | simp [upd_ap, hpL_ap, tau, mapT, mapTL, bytesI_len]))
    · exact .nil _
    · exact .nil _
  · clear h hy454
    rintro ⟨s1_0, s1_1⟩ x h
    rw [f57_s1] at h
    refine AW.seq ?_
    refine AW.regL [0, 1, 5, 6, 14] ?_
    generalize hK : AW Try.prog _ _ _ = K
    simp only [go_sem, ↓reduceIte, reduceCtorEq, Nat.reduceAdd, Nat.reduceSub, Nat.reduceMul, Nat.reduceEqDiff, Nat.reduceLT, Nat.reduceLeDiff, Nat.reduceBEq, Int.reduceAdd, Int.reduceSub, Int.reduceLT, Int.reduceLE, Int.reduceEq, Int.reduceToNat]
    subst hK
    by_cases c254 : s1_1 < (a1.length : Int)
    · rw [if_pos c254] at h
      refine AW.ifT rfl c254 ?_
      refine AW.skip ?_
      refine thenA_n ?_
      refine AW.seq ?_
      refine AW.block ?_
      refine AW.regL [0, 1, 5, 6, 7] ?_
      generalize hK : AW Try.prog _ _ _ = K
      simp only [go_sem, ↓reduceIte, reduceCtorEq, Nat.reduceAdd, Nat.reduceSub, Nat.reduceMul, Nat.reduceEqDiff, Nat.reduceLT, Nat.reduceLeDiff, Nat.reduceBEq, Int.reduceAdd, Int.reduceSub, Int.reduceLT, Int.reduceLE, Int.reduceEq, Int.reduceToNat, eq_true c254]
      subst hK
      refine AW.block ?_
      obtain ⟨y452, hy452, h⟩ := Option.bind_eq_some_iff.1 h
      refine AW.loopO (fun s => ⟨(upd (upd (upd (upd (upd anyF 0 (.sl (List.map enc90 a0))) 1 (.sl (List.map enc90 a1))) 5 (.sl (List.map enc9 s.2))) 6 (.val (.int .i64 s1_1))) 7 (.val (.int .i64 s.1))), hpL [] [], 8⟩) (fun z e st' => e = Exit.exit 2 ∧ st' = ⟨(upd (upd (upd (upd anyF 0 (.sl (List.map enc90 a0))) 1 (.sl (List.map enc90 a1))) 5 (.sl (List.map enc9 z))) 6 (.val (.int .i64 s1_1))), hpL [] [], 8⟩) hy452 ?_ ?_ ?_
      · refine Ent.can [] _ _ _ rfl (by first | decide | simp) rfl ?_ ?_ ?_
        · exact (((((RF.any.pv (by first | rfl | simp only [go_sem]) (by first | rfl | simp [upd_ap, hpL_ap, tau, mapT, mapTL, bytesI_len, eq_true c254])).pv (by first | rfl | simp only [go_sem]) (by first | rfl | simp [upd_ap, hpL_ap, tau, mapT, mapTL, bytesI_len, eq_true c254])).pv (by first | rfl | simp only [go_sem]) (by first | rfl | simp [upd_ap, hpL_ap, tau, mapT, mapTL, bytesI_len, eq_true c254])).pv (by first | rfl | simp only [go_sem]) (by first | rfl | simp [upd_ap, hpL_ap, tau, mapT, mapTL, bytesI_len, eq_true c254])).pv (by first | rfl | simp only [go_sem]) (by first | rfl | simp [upd_ap, hpL_ap, tau, mapT, mapTL, bytesI_len, eq_true c254]))
        · exact .nil _
        · exact .nil _
      · clear h hy452
        rintro ⟨s12_0, s12_1⟩ x h
        rw [f57_s12] at h
        refine AW.seq ?_
        obtain ⟨x379, hx379, h⟩ := Option.bind_eq_some_iff.1 h
        obtain ⟨hx379a, hx379b⟩ := ix_some.1 hx379
        refine AW.regL [0, 1, 5, 6, 7, 23] ?_
        generalize hK : AW Try.prog _ _ _ = K
        simp only [go_sem, ↓reduceIte, reduceCtorEq, Nat.reduceAdd, Nat.reduceSub, Nat.reduceMul, Nat.reduceEqDiff, Nat.reduceLT, Nat.reduceLeDiff, Nat.reduceBEq, Int.reduceAdd, Int.reduceSub, Int.reduceLT, Int.reduceLE, Int.reduceEq, Int.reduceToNat, eq_true c254, natOf_le hx379a, hx379b]
        subst hK
        by_cases c380 : s12_0 < (x379.length : Int)
        · rw [if_pos c380] at h
          refine AW.ifT rfl c380 ?_
          refine AW.skip ?_
          refine thenA_n ?_
          refine AW.seq ?_
          refine AW.block ?_
          refine AW.regL [0, 1, 5, 6, 7, 8, 9] ?_
          generalize hK : AW Try.prog _ _ _ = K
          simp only [go_sem, ↓reduceIte, reduceCtorEq, Nat.reduceAdd, Nat.reduceSub, Nat.reduceMul, Nat.reduceEqDiff, Nat.reduceLT, Nat.reduceLeDiff, Nat.reduceBEq, Int.reduceAdd, Int.reduceSub, Int.reduceLT, Int.reduceLE, Int.reduceEq, Int.reduceToNat, eq_true c254, eq_true c380]
          subst hK
          refine AW.seq ?_
          refine AW.regL [0, 1, 5, 6, 7, 8, 9, 10] ?_
          generalize hK : AW Try.prog _ _ _ = K
          simp only [go_sem, ↓reduceIte, reduceCtorEq, Nat.reduceAdd, Nat.reduceSub, Nat.reduceMul, Nat.reduceEqDiff, Nat.reduceLT, Nat.reduceLeDiff, Nat.reduceBEq, Int.reduceAdd, Int.reduceSub, Int.reduceLT, Int.reduceLE, Int.reduceEq, Int.reduceToNat, eq_true c254, eq_true c380]
          subst hK
          refine AW.block ?_
          obtain ⟨y447, hy447, h⟩ := Option.bind_eq_some_iff.1 h
          refine AW.loopO (fun s => ⟨(upd (upd (upd (upd (upd (upd (upd (upd anyF 0 (.sl (List.map enc90 a0))) 1 (.sl (List.map enc90 a1))) 5 (.sl (List.map enc9 s12_1))) 6 (.val (.int .i64 s1_1))) 7 (.val (.int .i64 s12_0))) 8 (.val (.bool s.1))) 9 (.val (.bool s.2.1))) 10 (.val (.int .i64 s.2.2))), hpL [] [], 8⟩) (fun z e st' => e = Exit.exit 4 ∧ st' = ⟨(upd (upd (upd (upd (upd (upd anyF 0 (.sl (List.map enc90 a0))) 1 (.sl (List.map enc90 a1))) 5 (.sl (List.map enc9 s12_1))) 6 (.val (.int .i64 s1_1))) 7 (.val (.int .i64 s12_0))) 8 (.val (.bool z))), hpL [] [], 8⟩) hy447 ?_ ?_ ?_
          · refine Ent.can [] _ _ _ rfl (by first | decide | simp) rfl ?_ ?_ ?_
            · exact ((((((((RF.any.pv (by first | rfl | simp only [go_sem]) (by first | rfl | simp [upd_ap, hpL_ap, tau, mapT, mapTL, bytesI_len, eq_true c254, eq_true c380])).pv (by first | rfl | simp only [go_sem]) (by first | rfl | simp [upd_ap, hpL_ap, tau, mapT, mapTL, bytesI_len, eq_true c254, eq_true c380])).pv (by first | rfl | simp only [go_sem]) (by first | rfl | simp [upd_ap, hpL_ap, tau, mapT, mapTL, bytesI_len, eq_true c254, eq_true c380])).pv (by first | rfl | simp only [go_sem]) (by first | rfl | simp [upd_ap, hpL_ap, tau, mapT, mapTL, bytesI_len, eq_true c254, eq_true c380])).pv (by first | rfl | simp only [go_sem]) (by first | rfl | simp [upd_ap, hpL_ap, tau, mapT, mapTL, bytesI_len, eq_true c254, eq_true c380])).pv (by first | rfl | simp only [go_sem]) (by first | rfl | simp [upd_ap, hpL_ap, tau, mapT, mapTL, bytesI_len, eq_true c254, eq_true c380])).pv (by first | rfl | simp only [go_sem]) (by first | rfl | simp [upd_ap, hpL_ap, tau, mapT, mapTL, bytesI_len, eq_true c254, eq_true c380])).pv (by first | rfl | simp only [go_sem]) (by first | rfl | simp [upd_ap, hpL_ap, tau, mapT, mapTL, bytesI_len, eq_true c254, eq_true c380]))
            · exact .nil _
            · exact .nil _
          · clear h hy447
            rintro ⟨s18_0, s18_1, s18_2⟩ x h
            rw [f57_s18] at h
            refine AW.seq ?_
            by_cases c436 : s1_1 < (a0.length : Int)
            · rw [if_pos c436] at h
              obtain ⟨x437, hx437, h⟩ := Option.bind_eq_some_iff.1 h
              obtain ⟨hx437a, hx437b⟩ := ix_some.1 hx437
              refine AW.regL [0, 1, 5, 6, 7, 8, 9, 10, 38] ?_
              generalize hK : AW Try.prog _ _ _ = K
              simp only [go_sem, ↓reduceIte, reduceCtorEq, Nat.reduceAdd, Nat.reduceSub, Nat.reduceMul, Nat.reduceEqDiff, Nat.reduceLT, Nat.reduceLeDiff, Nat.reduceBEq, Int.reduceAdd, Int.reduceSub, Int.reduceLT, Int.reduceLE, Int.reduceEq, Int.reduceToNat, eq_true c254, eq_true c380, eq_true c436, natOf_le hx437a, hx437b]
              subst hK
              by_cases c438 : s18_2 < (x437.length : Int)
              · rw [if_pos c438] at h
                refine AW.ifT rfl c438 ?_
                refine AW.skip ?_
                refine thenA_n ?_
                refine AW.seq ?_
                refine AW.block ?_
                obtain ⟨x439, hx439, h⟩ := Option.bind_eq_some_iff.1 h
                obtain ⟨hx439a, hx439b⟩ := ix_some.1 hx439
                obtain ⟨x440, hx440, h⟩ := Option.bind_eq_some_iff.1 h
                obtain ⟨hx440a, hx440b⟩ := ix_some.1 hx440
                by_cases c441 : x439.Key = x440.Key
                · rw [if_pos c441] at h
                  refine AW.regdL [0, 1, 5, 6, 7, 8, 9, 10, 61] [[], [], [0, 1], [0, 1, 2], [], [0, 1, 2, 3, 4], [0, 1, 2, 3, 4, 5], [0, 1, 2, 3, 4, 5, 6], [], [], [8, 9], [8, 9, 10], [], [8, 9, 10, 11, 12], [8, 9, 10, 11, 12, 13], [8, 9, 10, 11, 12, 13, 14], [0, 1, 2, 3, 4, 5, 6, 7, 8, 9, 10, 11, 12, 13, 14, 15], [0, 1, 2, 3, 4, 5, 6, 7, 8, 9, 10, 11, 12, 13, 14, 15, 16], [0, 1, 2, 3, 4, 5, 6, 7, 8, 9, 10, 11, 12, 13, 14, 15, 16, 17], [0, 1, 2, 3, 4, 5, 6, 7, 8, 9, 10, 11, 12, 13, 14, 15, 16, 17, 18], [0, 1, 2, 3, 4, 5, 6, 7, 8, 9, 10, 11, 12, 13, 14, 15, 16, 17, 18, 19]] [0, 1, 2, 3, 4, 5, 6, 7, 8, 9, 10, 11, 12, 13, 14, 15, 16, 17, 18, 19, 20] noFt (fun _ _ _ h => by simp [noFt] at h) draws (by kernel_rfl) (by kernel_rfl) ?_
                  generalize hK : AW Try.prog _ _ _ = K
                  simp only [go_sem, ↓reduceIte, reduceCtorEq, Nat.reduceAdd, Nat.reduceSub, Nat.reduceMul, Nat.reduceEqDiff, Nat.reduceLT, Nat.reduceLeDiff, Nat.reduceBEq, Int.reduceAdd, Int.reduceSub, Int.reduceLT, Int.reduceLE, Int.reduceEq, Int.reduceToNat, eq_true c254, eq_true c380, eq_true c436, eq_true c438, natOf_le hx437a, hx437b, natOf_le hx439a, hx439b, natOf_le hx379a, hx379b, natOf_le hx440a, hx440b, eq_true c441]
                  subst hK
                  by_cases c442 : s18_1 = true
                  · rw [if_pos c442] at h
                    refine AW.ifBF rfl (by rw [c442]; rfl) ?_
                    refine AW.skip ?_
                    refine block_n ?_
                    refine thenA_n ?_
                    refine AW.regionL [0, 1, 5, 6, 7, 8, 9, 10] ?_
                    generalize hK : thenA _ _ Exit.normal = K
                    simp only [go_sem, ↓reduceIte, reduceCtorEq, Nat.reduceAdd, Nat.reduceSub, Nat.reduceMul, Nat.reduceEqDiff, Nat.reduceLT, Nat.reduceLeDiff, Nat.reduceBEq, Int.reduceAdd, Int.reduceSub, Int.reduceLT, Int.reduceLE, Int.reduceEq, Int.reduceToNat, eq_true c254, eq_true c380, eq_true c436, eq_true c438, eq_true c441, c442]
                    subst hK
                    refine thenA_n ?_
                    refine ⟨_, (Option.some.inj h).symm, ?_⟩
                    refine Ent.can [] _ _ _ rfl (by first | decide | simp) rfl ?_ ?_ ?_
                    · exact ((((((((RF.any.pv (by first | rfl | simp only [go_sem]) (by first | rfl | simp [upd_ap, hpL_ap, tau, mapT, mapTL, bytesI_len, eq_true c254, eq_true c380, eq_true c436, eq_true c438, eq_true c441, c442])).pv (by first | rfl | simp only [go_sem]) (by first | rfl | simp [upd_ap, hpL_ap, tau, mapT, mapTL, bytesI_len, eq_true c254, eq_true c380, eq_true c436, eq_true c438, eq_true c441, c442])).pv (by first | rfl | simp only [go_sem]) (by first | rfl | simp [upd_ap, hpL_ap, tau, mapT, mapTL, bytesI_len, eq_true c254, eq_true c380, eq_true c436, eq_true c438, eq_true c441, c442])).pv (by first | rfl | simp only [go_sem]) (by first | rfl | simp [upd_ap, hpL_ap, tau, mapT, mapTL, bytesI_len, eq_true c254, eq_true c380, eq_true c436, eq_true c438, eq_true c441, c442])).pv (by first | rfl | simp only [go_sem]) (by first | rfl | simp [upd_ap, hpL_ap, tau, mapT, mapTL, bytesI_len, eq_true c254, eq_true c380, eq_true c436, eq_true c438, eq_true c441, c442])).pv (by first | rfl | simp only [go_sem]) (by first | rfl | simp [upd_ap, hpL_ap, tau, mapT, mapTL, bytesI_len, eq_true c254, eq_true c380, eq_true c436, eq_true c438, eq_true c441, c442])).pv (by first | rfl | simp only [go_sem]) (by first | rfl | simp [upd_ap, hpL_ap, tau, mapT, mapTL, bytesI_len, eq_true c254, eq_true c380, eq_true c436, eq_true c438, eq_true c441, c442])).pv (by first | rfl | simp only [go_sem]) (by first | rfl | simp [upd_ap, hpL_ap, tau, mapT, mapTL, bytesI_len, eq_true c254, eq_true c380, eq_true c436, eq_true c438, eq_true c441, c442]))
                    · exact .nil _
                    · exact .nil _
                  · rw [if_neg c442] at h
                    rw [Bool.not_eq_true] at c442
                    refine AW.ifBT rfl (by rw [c442]; rfl) ?_
                    refine AW.regL [0, 1, 5, 6, 7, 9, 10] ?_
                    generalize hK : AW Try.prog _ _ _ = K
                    simp only [go_sem, ↓reduceIte, reduceCtorEq, Nat.reduceAdd, Nat.reduceSub, Nat.reduceMul, Nat.reduceEqDiff, Nat.reduceLT, Nat.reduceLeDiff, Nat.reduceBEq, Int.reduceAdd, Int.reduceSub, Int.reduceLT, Int.reduceLE, Int.reduceEq, Int.reduceToNat, eq_true c254, eq_true c380, eq_true c436, eq_true c438, eq_true c441, c442]
                    subst hK
                    obtain ⟨x443, hx443, h⟩ := Option.bind_eq_some_iff.1 h
                    obtain ⟨x444, hx444, h⟩ := Option.bind_eq_some_iff.1 h
                    obtain ⟨x445, hx445, h⟩ := Option.bind_eq_some_iff.1 h
                    refine AW.drawL [0, 1, 5, 6, 7, 8, 9, 10] [[], [], [0, 1], [0, 1, 2], [], [], [5], [0, 1, 2, 3, 4, 5, 6], [], [], [8, 9], [8, 9, 10], [], [], [13], [8, 9, 10, 11, 12, 13, 14], [0, 1, 2, 3, 4, 5, 6, 7, 8, 9, 10, 11, 12, 13, 14, 15], [0, 1, 2, 3, 4, 5, 6, 7, 8, 9, 10, 11, 12, 13, 14, 15, 16]] [0, 1, 2, 3, 4, 5, 6, 7, 8, 9, 10, 11, 12, 13, 14, 15, 16, 17] (tab [(61, [.sl (List.map encItem x443), .sl (List.map encItem x444)], .val (.bool x445))]) (tab_cons (ok61 x443 x444 x445 hx445) Try.call61 tab_nil) draws (by kernel_rfl) (by kernel_rfl) ?_
                    generalize hK : inBlockA _ _ Exit.normal = K
                    simp only [go_sem, ↓reduceIte, reduceCtorEq, Nat.reduceAdd, Nat.reduceSub, Nat.reduceMul, Nat.reduceEqDiff, Nat.reduceLT, Nat.reduceLeDiff, Nat.reduceBEq, Int.reduceAdd, Int.reduceSub, Int.reduceLT, Int.reduceLE, Int.reduceEq, Int.reduceToNat, eq_true c254, eq_true c380, eq_true c436, eq_true c438, eq_true c441, c442, natOf_le hx437a, hx437b, cut_ss el90 sz153 (ml_encItem _) hx443, natOf_le hx379a, hx379b, cut_ss el90 sz153 (ml_encItem _) hx444]
                    subst hK
                    refine block_n ?_
                    refine thenA_n ?_
                    refine AW.regionL [0, 1, 5, 6, 7, 8, 9, 10] ?_
                    generalize hK : thenA _ _ Exit.normal = K
                    simp only [go_sem, ↓reduceIte, reduceCtorEq, Nat.reduceAdd, Nat.reduceSub, Nat.reduceMul, Nat.reduceEqDiff, Nat.reduceLT, Nat.reduceLeDiff, Nat.reduceBEq, Int.reduceAdd, Int.reduceSub, Int.reduceLT, Int.reduceLE, Int.reduceEq, Int.reduceToNat, eq_true c254, eq_true c380, eq_true c436, eq_true c438, eq_true c441, c442]
                    subst hK
                    refine thenA_n ?_
                    refine ⟨_, (Option.some.inj h).symm, ?_⟩
                    refine Ent.can [] _ _ _ rfl (by first | decide | simp) rfl ?_ ?_ ?_
                    · exact ((((((((RF.any.pv (by first | rfl | simp only [go_sem]) (by first | rfl | simp [upd_ap, hpL_ap, tau, mapT, mapTL, bytesI_len, eq_true c254, eq_true c380, eq_true c436, eq_true c438, eq_true c441, c442])).pv (by first | rfl | simp only [go_sem]) (by first | rfl | simp [upd_ap, hpL_ap, tau, mapT, mapTL, bytesI_len, eq_true c254, eq_true c380, eq_true c436, eq_true c438, eq_true c441, c442])).pv (by first | rfl | simp only [go_sem]) (by first | rfl | simp [upd_ap, hpL_ap, tau, mapT, mapTL, bytesI_len, eq_true c254, eq_true c380, eq_true c436, eq_true c438, eq_true c441, c442])).pv (by first | rfl | simp only [go_sem]) (by first | rfl | simp [upd_ap, hpL_ap, tau, mapT, mapTL, bytesI_len, eq_true c254, eq_true c380, eq_true c436, eq_true c438, eq_true c441, c442])).pv (by first | rfl | simp only [go_sem]) (by first | rfl | simp [upd_ap, hpL_ap, tau, mapT, mapTL, bytesI_len, eq_true c254, eq_true c380, eq_true c436, eq_true c438, eq_true c441, c442])).pv (by first | rfl | simp only [go_sem]) (by first | rfl | simp [upd_ap, hpL_ap, tau, mapT, mapTL, bytesI_len, eq_true c254, eq_true c380, eq_true c436, eq_true c438, eq_true c441, c442])).pv (by first | rfl | simp only [go_sem]) (by first | rfl | simp [upd_ap, hpL_ap, tau, mapT, mapTL, bytesI_len, eq_true c254, eq_true c380, eq_true c436, eq_true c438, eq_true c441, c442])).pv (by first | rfl | simp only [go_sem]) (by first | rfl | simp [upd_ap, hpL_ap, tau, mapT, mapTL, bytesI_len, eq_true c254, eq_true c380, eq_true c436, eq_true c438, eq_true c441, c442]))
                    · exact .nil _
                    · exact .nil _
                · rw [if_neg c441] at h
                  refine AW.regdL [0, 1, 5, 6, 7, 8, 9, 10, 61] [[], [], [0, 1], [0, 1, 2], [], [0, 1, 2, 3, 4], [0, 1, 2, 3, 4, 5], [0, 1, 2, 3, 4, 5, 6], [], [], [8, 9], [8, 9, 10], [], [8, 9, 10, 11, 12], [8, 9, 10, 11, 12, 13], [8, 9, 10, 11, 12, 13, 14], [0, 1, 2, 3, 4, 5, 6, 7, 8, 9, 10, 11, 12, 13, 14, 15], [0, 1, 2, 3, 4, 5, 6, 7, 8, 9, 10, 11, 12, 13, 14, 15, 16], [0, 1, 2, 3, 4, 5, 6, 7, 8, 9, 10, 11, 12, 13, 14, 15, 16, 17], [0, 1, 2, 3, 4, 5, 6, 7, 8, 9, 10, 11, 12, 13, 14, 15, 16, 17, 18], [0, 1, 2, 3, 4, 5, 6, 7, 8, 9, 10, 11, 12, 13, 14, 15, 16, 17, 18, 19]] [0, 1, 2, 3, 4, 5, 6, 7, 8, 9, 10, 11, 12, 13, 14, 15, 16, 17, 18, 19, 20] noFt (fun _ _ _ h => by simp [noFt] at h) draws (by kernel_rfl) (by kernel_rfl) ?_
                  generalize hK : AW Try.prog _ _ _ = K
                  simp only [go_sem, ↓reduceIte, reduceCtorEq, Nat.reduceAdd, Nat.reduceSub, Nat.reduceMul, Nat.reduceEqDiff, Nat.reduceLT, Nat.reduceLeDiff, Nat.reduceBEq, Int.reduceAdd, Int.reduceSub, Int.reduceLT, Int.reduceLE, Int.reduceEq, Int.reduceToNat, eq_true c254, eq_true c380, eq_true c436, eq_true c438, natOf_le hx437a, hx437b, natOf_le hx439a, hx439b, natOf_le hx379a, hx379b, natOf_le hx440a, hx440b, eq_false c441]
                  subst hK
                  refine AW.ifBF rfl rfl ?_
                  refine AW.skip ?_
                  refine block_n ?_
                  refine thenA_n ?_
                  refine AW.regionL [0, 1, 5, 6, 7, 8, 9, 10] ?_
                  generalize hK : thenA _ _ Exit.normal = K
                  simp only [go_sem, ↓reduceIte, reduceCtorEq, Nat.reduceAdd, Nat.reduceSub, Nat.reduceMul, Nat.reduceEqDiff, Nat.reduceLT, Nat.reduceLeDiff, Nat.reduceBEq, Int.reduceAdd, Int.reduceSub, Int.reduceLT, Int.reduceLE, Int.reduceEq, Int.reduceToNat, eq_true c254, eq_true c380, eq_true c436, eq_true c438, eq_false c441]
                  subst hK
                  refine thenA_n ?_
                  refine ⟨_, (Option.some.inj h).symm, ?_⟩
                  refine Ent.can [] _ _ _ rfl (by first | decide | simp) rfl ?_ ?_ ?_
                  · exact ((((((((RF.any.pv (by first | rfl | simp only [go_sem]) (by first | rfl | simp [upd_ap, hpL_ap, tau, mapT, mapTL, bytesI_len, eq_true c254, eq_true c380, eq_true c436, eq_true c438, eq_false c441])).pv (by first | rfl | simp only [go_sem]) (by first | rfl | simp [upd_ap, hpL_ap, tau, mapT, mapTL, bytesI_len, eq_true c254, eq_true c380, eq_true c436, eq_true c438, eq_false c441])).pv (by first | rfl | simp only [go_sem]) (by first | rfl | simp [upd_ap, hpL_ap, tau, mapT, mapTL, bytesI_len, eq_true c254, eq_true c380, eq_true c436, eq_true c438, eq_false c441])).pv (by first | rfl | simp only [go_sem]) (by first | rfl | simp [upd_ap, hpL_ap, tau, mapT, mapTL, bytesI_len, eq_true c254, eq_true c380, eq_true c436, eq_true c438, eq_false c441])).pv (by first | rfl | simp only [go_sem]) (by first | rfl | simp [upd_ap, hpL_ap, tau, mapT, mapTL, bytesI_len, eq_true c254, eq_true c380, eq_true c436, eq_true c438, eq_false c441])).pv (by first | rfl | simp only [go_sem]) (by first | rfl | simp [upd_ap, hpL_ap, tau, mapT, mapTL, bytesI_len, eq_true c254, eq_true c380, eq_true c436, eq_true c438, eq_false c441])).pv (by first | rfl | simp only [go_sem]) (by first | rfl | simp [upd_ap, hpL_ap, tau, mapT, mapTL, bytesI_len, eq_true c254, eq_true c380, eq_true c436, eq_true c438, eq_false c441])).pv (by first | rfl | simp only [go_sem]) (by first | rfl | simp [upd_ap, hpL_ap, tau, mapT, mapTL, bytesI_len, eq_true c254, eq_true c380, eq_true c436, eq_true c438, eq_false c441]))
                  · exact .nil _
                  · exact .nil _
              · rw [if_neg c438] at h
                refine AW.ifF rfl c438 ?_
                refine AW.exit ?_
                refine thenA_x ?_
                refine thenA_x ?_
                refine ⟨_, (Option.some.inj h).symm, _, ?_, rfl, rfl⟩
                refine Ent.can [] _ _ _ rfl (by first | decide | simp) rfl ?_ ?_ ?_
                · exact ((((((RF.any.pv (by first | rfl | simp only [go_sem]) (by first | rfl | simp [upd_ap, hpL_ap, tau, mapT, mapTL, bytesI_len, eq_true c254, eq_true c380, eq_true c436, eq_false c438])).pv (by first | rfl | simp only [go_sem]) (by first | rfl | simp [upd_ap, hpL_ap, tau, mapT, mapTL, bytesI_len, eq_true c254, eq_true c380, eq_true c436, eq_false c438])).pv (by first | rfl | simp only [go_sem]) (by first | rfl | simp [upd_ap, hpL_ap, tau, mapT, mapTL, bytesI_len, eq_true c254, eq_true c380, eq_true c436, eq_false c438])).pv (by first | rfl | simp only [go_sem]) (by first | rfl | simp [upd_ap, hpL_ap, tau, mapT, mapTL, bytesI_len, eq_true c254, eq_true c380, eq_true c436, eq_false c438])).pv (by first | rfl | simp only [go_sem]) (by first | rfl | simp [upd_ap, hpL_ap, tau, mapT, mapTL, bytesI_len, eq_true c254, eq_true c380, eq_true c436, eq_false c438])).pv (by first | rfl | simp only [go_sem]) (by first | rfl | simp [upd_ap, hpL_ap, tau, mapT, mapTL, bytesI_len, eq_true c254, eq_true c380, eq_true c436, eq_false c438]))
                · exact .nil _
                · exact .nil _
            · rw [if_neg c436] at h
              refine AW.regL [0, 1, 5, 6, 7, 8, 9, 10, 38] ?_
              generalize hK : AW Try.prog _ _ _ = K
              simp only [go_sem, ↓reduceIte, reduceCtorEq, Nat.reduceAdd, Nat.reduceSub, Nat.reduceMul, Nat.reduceEqDiff, Nat.reduceLT, Nat.reduceLeDiff, Nat.reduceBEq, Int.reduceAdd, Int.reduceSub, Int.reduceLT, Int.reduceLE, Int.reduceEq, Int.reduceToNat, eq_true c254, eq_true c380, eq_false c436]
              subst hK
              refine AW.ifBF rfl rfl ?_
              refine AW.exit ?_
              refine thenA_x ?_
              refine thenA_x ?_
              refine ⟨_, (Option.some.inj h).symm, _, ?_, rfl, rfl⟩
              refine Ent.can [] _ _ _ rfl (by first | decide | simp) rfl ?_ ?_ ?_
              · exact ((((((RF.any.pv (by first | rfl | simp only [go_sem]) (by first | rfl | simp [upd_ap, hpL_ap, tau, mapT, mapTL, bytesI_len, eq_true c254, eq_true c380, eq_false c436])).pv (by first | rfl | simp only [go_sem]) (by first | rfl | simp [upd_ap, hpL_ap, tau, mapT, mapTL, bytesI_len, eq_true c254, eq_true c380, eq_false c436])).pv (by first | rfl | simp only [go_sem]) (by first | rfl | simp [upd_ap, hpL_ap, tau, mapT, mapTL, bytesI_len, eq_true c254, eq_true c380, eq_false c436])).pv (by first | rfl | simp only [go_sem]) (by first | rfl | simp [upd_ap, hpL_ap, tau, mapT, mapTL, bytesI_len, eq_true c254, eq_true c380, eq_false c436])).pv (by first | rfl | simp only [go_sem]) (by first | rfl | simp [upd_ap, hpL_ap, tau, mapT, mapTL, bytesI_len, eq_true c254, eq_true c380, eq_false c436])).pv (by first | rfl | simp only [go_sem]) (by first | rfl | simp [upd_ap, hpL_ap, tau, mapT, mapTL, bytesI_len, eq_true c254, eq_true c380, eq_false c436]))
              · exact .nil _
              · exact .nil _
          · intro e st' hX
            try dsimp only at h
            try dsimp only at hX
            obtain ⟨rfl, rfl⟩ := hX
            refine ⟨_, Ent.refl, ?_⟩
            refine block_x ?_
            refine thenA_n ?_
            refine AW.regL [0, 1, 5, 6, 7, 80] ?_
            generalize hK : AW Try.prog _ _ _ = K
            simp only [go_sem, ↓reduceIte, reduceCtorEq, Nat.reduceAdd, Nat.reduceSub, Nat.reduceMul, Nat.reduceEqDiff, Nat.reduceLT, Nat.reduceLeDiff, Nat.reduceBEq, Int.reduceAdd, Int.reduceSub, Int.reduceLT, Int.reduceLE, Int.reduceEq, Int.reduceToNat, eq_true c254, eq_true c380]
            subst hK
            by_cases c448 : y447 = true
            · rw [if_pos c448] at h
              refine AW.ifBF rfl (by rw [c448]; rfl) ?_
              refine AW.skip ?_
              refine block_n ?_
              refine thenA_n ?_
              refine AW.regionL [0, 1, 5, 6, 7] ?_
              generalize hK : thenA _ _ Exit.normal = K
              simp only [go_sem, ↓reduceIte, reduceCtorEq, Nat.reduceAdd, Nat.reduceSub, Nat.reduceMul, Nat.reduceEqDiff, Nat.reduceLT, Nat.reduceLeDiff, Nat.reduceBEq, Int.reduceAdd, Int.reduceSub, Int.reduceLT, Int.reduceLE, Int.reduceEq, Int.reduceToNat, eq_true c254, eq_true c380, c448]
              subst hK
              refine thenA_n ?_
              refine ⟨_, (Option.some.inj h).symm, ?_⟩
              refine Ent.can [] _ _ _ rfl (by first | decide | simp) rfl ?_ ?_ ?_
              · exact (((((RF.any.pv (by first | rfl | simp only [go_sem]) (by first | rfl | simp [upd_ap, hpL_ap, tau, mapT, mapTL, bytesI_len, eq_true c254, eq_true c380, c448])).pv (by first | rfl | simp only [go_sem]) (by first | rfl | simp [upd_ap, hpL_ap, tau, mapT, mapTL, bytesI_len, eq_true c254, eq_true c380, c448])).pv (by first | rfl | simp only [go_sem]) (by first | rfl | simp [upd_ap, hpL_ap, tau, mapT, mapTL, bytesI_len, eq_true c254, eq_true c380, c448])).pv (by first | rfl | simp only [go_sem]) (by first | rfl | simp [upd_ap, hpL_ap, tau, mapT, mapTL, bytesI_len, eq_true c254, eq_true c380, c448])).pv (by first | rfl | simp only [go_sem]) (by first | rfl | simp [upd_ap, hpL_ap, tau, mapT, mapTL, bytesI_len, eq_true c254, eq_true c380, c448]))
              · exact .nil _
              · exact .nil _
            · rw [if_neg c448] at h
              rw [Bool.not_eq_true] at c448
              refine AW.ifBT rfl (by rw [c448]; rfl) ?_
              obtain ⟨x449, hx449, h⟩ := Option.bind_eq_some_iff.1 h
              obtain ⟨hx449a, hx449b⟩ := ix_some.1 hx449
              obtain ⟨x450, hx450, h⟩ := Option.bind_eq_some_iff.1 h
              refine AW.regionL [0, 1, 5, 6, 7] ?_
              generalize hK : inBlockA _ _ Exit.normal = K
              simp only [go_sem, ↓reduceIte, reduceCtorEq, Nat.reduceAdd, Nat.reduceSub, Nat.reduceMul, Nat.reduceEqDiff, Nat.reduceLT, Nat.reduceLeDiff, Nat.reduceBEq, Int.reduceAdd, Int.reduceSub, Int.reduceLT, Int.reduceLE, Int.reduceEq, Int.reduceToNat, eq_true c254, eq_true c380, c448, natOf_le hx379a, hx379b, natOf_le hx449a, hx449b]
              refine arC.of (ok104 s12_1 x449.Key x450 hx450) Try.call104 ?_
              simp only [go_sem, ↓reduceIte, reduceCtorEq, Nat.reduceAdd, Nat.reduceSub, Nat.reduceMul, Nat.reduceEqDiff, Nat.reduceLT, Nat.reduceLeDiff, Nat.reduceBEq, Int.reduceAdd, Int.reduceSub, Int.reduceLT, Int.reduceLE, Int.reduceEq, Int.reduceToNat, eq_true c254, eq_true c380, c448, natOf_le hx379a, hx379b, natOf_le hx449a, hx449b]
              subst hK
              refine block_n ?_
              refine thenA_n ?_
              refine AW.regionL [0, 1, 5, 6, 7] ?_
              generalize hK : thenA _ _ Exit.normal = K
              simp only [go_sem, ↓reduceIte, reduceCtorEq, Nat.reduceAdd, Nat.reduceSub, Nat.reduceMul, Nat.reduceEqDiff, Nat.reduceLT, Nat.reduceLeDiff, Nat.reduceBEq, Int.reduceAdd, Int.reduceSub, Int.reduceLT, Int.reduceLE, Int.reduceEq, Int.reduceToNat, eq_true c254, eq_true c380, c448]
              subst hK
              refine thenA_n ?_
              refine ⟨_, (Option.some.inj h).symm, ?_⟩
              refine Ent.can [] _ _ _ rfl (by first | decide | simp) rfl ?_ ?_ ?_
              · exact (((((RF.any.pv (by first | rfl | simp only [go_sem]) (by first | rfl | simp [upd_ap, hpL_ap, tau, mapT, mapTL, bytesI_len, eq_true c254, eq_true c380, c448])).pv (by first | rfl | simp only [go_sem]) (by first | rfl | simp [upd_ap, hpL_ap, tau, mapT, mapTL, bytesI_len, eq_true c254, eq_true c380, c448])).pv (by first | rfl | simp only [go_sem]) (by first | rfl | simp [upd_ap, hpL_ap, tau, mapT, mapTL, bytesI_len, eq_true c254, eq_true c380, c448])).pv (by first | rfl | simp only [go_sem]) (by first | rfl | simp [upd_ap, hpL_ap, tau, mapT, mapTL, bytesI_len, eq_true c254, eq_true c380, c448])).pv (by first | rfl | simp only [go_sem]) (by first | rfl | simp [upd_ap, hpL_ap, tau, mapT, mapTL, bytesI_len, eq_true c254, eq_true c380, c448]))
              · exact .nil _
              · exact .nil _
        · rw [if_neg c380] at h
          refine AW.ifF rfl c380 ?_
          refine AW.exit ?_
          refine thenA_x ?_
          refine thenA_x ?_
          refine ⟨_, (Option.some.inj h).symm, _, ?_, rfl, rfl⟩
          refine Ent.can [] _ _ _ rfl (by first | decide | simp) rfl ?_ ?_ ?_
          · exact ((((RF.any.pv (by first | rfl | simp only [go_sem]) (by first | rfl | simp [upd_ap, hpL_ap, tau, mapT, mapTL, bytesI_len, eq_true c254, eq_false c380])).pv (by first | rfl | simp only [go_sem]) (by first | rfl | simp [upd_ap, hpL_ap, tau, mapT, mapTL, bytesI_len, eq_true c254, eq_false c380])).pv (by first | rfl | simp only [go_sem]) (by first | rfl | simp [upd_ap, hpL_ap, tau, mapT, mapTL, bytesI_len, eq_true c254, eq_false c380])).pv (by first | rfl | simp only [go_sem]) (by first | rfl | simp [upd_ap, hpL_ap, tau, mapT, mapTL, bytesI_len, eq_true c254, eq_false c380]))
          · exact .nil _
          · exact .nil _
      · intro e st' hX
        try dsimp only at h
        try dsimp only at hX
        obtain ⟨rfl, rfl⟩ := hX
        refine ⟨_, Ent.refl, ?_⟩
        refine block_x ?_
        refine block_n ?_
        refine thenA_n ?_
        refine AW.regionL [0, 1, 5, 6] ?_
        generalize hK : thenA _ _ Exit.normal = K
        simp only [go_sem, ↓reduceIte, reduceCtorEq, Nat.reduceAdd, Nat.reduceSub, Nat.reduceMul, Nat.reduceEqDiff, Nat.reduceLT, Nat.reduceLeDiff, Nat.reduceBEq, Int.reduceAdd, Int.reduceSub, Int.reduceLT, Int.reduceLE, Int.reduceEq, Int.reduceToNat, eq_true c254]
        subst hK
        refine thenA_n ?_
        refine ⟨_, (Option.some.inj h).symm, ?_⟩
        refine Ent.can [] _ _ _ rfl (by first | decide | simp) rfl ?_ ?_ ?_
        · exact ((((RF.any.pv (by first | rfl | simp only [go_sem]) (by first | rfl | simp [upd_ap, hpL_ap, tau, mapT, mapTL, bytesI_len, eq_true c254])).pv (by first | rfl | simp only [go_sem]) (by first | rfl | simp [upd_ap, hpL_ap, tau, mapT, mapTL, bytesI_len, eq_true c254])).pv (by first | rfl | simp only [go_sem]) (by first | rfl | simp [upd_ap, hpL_ap, tau, mapT, mapTL, bytesI_len, eq_true c254])).pv (by first | rfl | simp only [go_sem]) (by first | rfl | simp [upd_ap, hpL_ap, tau, mapT, mapTL, bytesI_len, eq_true c254]))
        · exact .nil _
        · exact .nil _
    · rw [if_neg c254] at h
      refine AW.ifF rfl c254 ?_
      refine AW.exit ?_
      refine thenA_x ?_
      refine thenA_x ?_
      refine ⟨_, (Option.some.inj h).symm, _, ?_, rfl, rfl⟩
      refine Ent.can [] _ _ _ rfl (by first | decide | simp) rfl ?_ ?_ ?_
      · exact (RF.any.pv (by first | rfl | simp only [go_sem]) (by first | rfl | simp [upd_ap, hpL_ap, tau, mapT, mapTL, bytesI_len, eq_false c254]))
      · exact .nil _
      · exact .nil _
  · intro e st' hX
    try dsimp only at h
    try dsimp only at hX
    obtain ⟨rfl, rfl⟩ := hX
    refine ⟨_, Ent.refl, ?_⟩
    refine block_x ?_
    refine thenA_n ?_
    refine AW.regL [4] ?_
    generalize hK : AW Try.prog _ _ _ = K
    simp only [go_sem, ↓reduceIte, reduceCtorEq, Nat.reduceAdd, Nat.reduceSub, Nat.reduceMul, Nat.reduceEqDiff, Nat.reduceLT, Nat.reduceLeDiff, Nat.reduceBEq, Int.reduceAdd, Int.reduceSub, Int.reduceLT, Int.reduceLE, Int.reduceEq, Int.reduceToNat]
    subst hK
    refine AW.ret ?_
    obtain rfl := Option.some.inj h
    (simp only [go_sem, ↓reduceIte, reduceCtorEq, Nat.reduceAdd, Nat.reduceSub, Nat.reduceMul, Nat.reduceEqDiff, Nat.reduceLT, Nat.reduceLeDiff, Nat.reduceBEq, Int.reduceAdd, Int.reduceSub, Int.reduceLT, Int.reduceLE, Int.reduceEq, Int.reduceToNat, finA, resA, resOf_1, resOf_2, sealV_val, sealV_sl, sealV_ip, sealV_agg, sealV_tup, sealV_own, sealL_nil, sealL_cons] <;> try simp)
end Au
end Go.Proofs.Y1
