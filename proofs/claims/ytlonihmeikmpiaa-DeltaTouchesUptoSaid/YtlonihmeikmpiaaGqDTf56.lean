import Derived.Test.YtlonihmeikmpiaaGqDT
import Derived.Test.YtlonihmeikmpiaaGqDTf99x100
import Derived.Test.YtlonihmeikmpiaaGqDTf101
import Derived.Test.YtlonihmeikmpiaaGqDTf102
import Derived.Test.YtlonihmeikmpiaaGqDTf103
set_option linter.all false
set_option linter.unusedVariables false
set_option linter.unusedSimpArgs false
set_option linter.all false
set_option maxRecDepth 8000
set_option maxHeartbeats 1000000
namespace Go.Proofs.Y1
open Go.Gm
namespace Au
noncomputable def f56_s4 (x66 : List Item) (j3_0 : List Item) : (List ByteArray) × Int → Option (((List ByteArray) × Int) ⊕ (List ByteArray))
  | (s4_0, s4_1) => (if s4_1 < (x66.length : Int) then ((ix x66 s4_1).bind fun x94 => ((f99_100 j3_0 x94).bind fun x95 => (if x95 < 0 then ((appO? s4_0 [x94.Key]).bind fun x97 => some (.inl (x97, IntKind.i64.wrap (s4_1 + 1)))) else ((cutO? j3_0 x95 (IntKind.i64.wrap (x95 + 1))).bind fun x98 => ((f101 x98 [x94]).bind fun x99 => (if x99 = true then some (.inl (s4_0, IntKind.i64.wrap (s4_1 + 1))) else ((appO? s4_0 [x94.Key]).bind fun x101 => some (.inl (x101, IntKind.i64.wrap (s4_1 + 1)))))))))) else some (.inr s4_0))
noncomputable def f56_j3 (s1_0 : List ByteArray) (s1_1 : Int) (x66 : List Item) : (List Item) → Option (((List ByteArray) × Int) ⊕ (List ByteArray))
  | j3_0 => ((loopO (f56_s4 x66 j3_0) (s1_0, 0)).bind fun y103 => some (.inl (y103, IntKind.i64.wrap (s1_1 + 1))))
noncomputable def f56_s1 (a0 : List (List Item)) (a1 : List (List Item)) : (List ByteArray) × Int → Option (((List ByteArray) × Int) ⊕ (List ByteArray))
  | (s1_0, s1_1) => (if s1_1 < (a1.length : Int) then ((ix a1 s1_1).bind fun x66 => (if s1_1 < (a0.length : Int) then ((ix a0 s1_1).bind fun x105 => f56_j3 s1_0 s1_1 x66 x105) else f56_j3 s1_0 s1_1 x66 [])) else some (.inr s1_0))
noncomputable def f56 (a0 : List (List Item)) (a1 : List (List Item)) : Option (List ByteArray) := ((loopO (f56_s1 a0 a1) ([], 0)).bind fun y107 => ((f102 y107).bind fun x108 => ((f103 x108).bind fun x109 => some x109)))
theorem ok56 (a0 : List (List Item)) (a1 : List (List Item)) (r : (List ByteArray)) (h : f56 a0 a1 = some r) : PC Try.prog 56 [.sl (List.map enc90 a0), .sl (List.map enc90 a1)] (.fr 1 (List.map enc9 r)) := by
  rw [f56] at h
  refine pc_of8 (N := 60) (rs := [.tmp 4]) Try.func56 rfl rfl rfl (Nat.le_of_ble_eq_true rfl) ?_
  refine AW.regL [0, 1] ?_
  generalize hK : AW Try.prog _ _ _ = K
  simp only [go_sem, ↓reduceIte, reduceCtorEq, Nat.reduceAdd, Nat.reduceSub, Nat.reduceMul, Nat.reduceEqDiff, Nat.reduceLT, Nat.reduceLeDiff, Nat.reduceBEq, Int.reduceAdd, Int.reduceSub, Int.reduceLT, Int.reduceLE, Int.reduceEq, Int.reduceToNat]
  subst hK
  refine AW.regL [0, 1, 5] ?_
  generalize hK : AW Try.prog _ _ _ = K
  simp only [go_sem, ↓reduceIte, reduceCtorEq, Nat.reduceAdd, Nat.reduceSub, Nat.reduceMul, Nat.reduceEqDiff, Nat.reduceLT, Nat.reduceLeDiff, Nat.reduceBEq, Int.reduceAdd, Int.reduceSub, Int.reduceLT, Int.reduceLE, Int.reduceEq, Int.reduceToNat]
  subst hK
  refine AW.seq ?_
  refine AW.regL [0, 5, 12, 13, 14] ?_
  generalize hK : AW Try.prog _ _ _ = K
  simp only [go_sem, ↓reduceIte, reduceCtorEq, Nat.reduceAdd, Nat.reduceSub, Nat.reduceMul, Nat.reduceEqDiff, Nat.reduceLT, Nat.reduceLeDiff, Nat.reduceBEq, Int.reduceAdd, Int.reduceSub, Int.reduceLT, Int.reduceLE, Int.reduceEq, Int.reduceToNat]
  subst hK
  refine AW.block ?_
  obtain ⟨y107, hy107, h⟩ := Option.bind_eq_some_iff.1 h
  refine AW.loopO (fun s => ⟨(upd (upd (upd (upd (upd anyF 0 (.sl (List.map enc90 a0))) 5 (.own 8 0 s.1.length)) 12 (.sl (List.map enc90 a1))) 13 (.val (.int .i64 (a1.length : Int)))) 14 (.val (.int .i64 s.2))), hpL [] [some (.row 1 true (List.map enc9 s.1))], 9⟩) (fun z e st' => e = Exit.exit 0 ∧ st' = ⟨(upd anyF 5 (.own 8 0 z.length)), hpL [] [some (.row 1 true (List.map enc9 z))], 9⟩) hy107 ?_ ?_ ?_
  · refine Ent.trans (Ent.nilOwn 5 1 (by decide) rfl) ?_
    refine Ent.can [48] _ _ _ rfl (by first | decide | simp) rfl ?_ ?_ ?_
    · exact (((((RF.any.pv (by first | rfl | simp only [go_sem]) (by first | rfl | simp [upd_ap, hpL_ap, tau, mapT, mapTL, bytesI_len])).po (by decide) (by first | rfl | simp [upd_ap, hpL_ap, tau, mapT, mapTL, bytesI_len])).pv (by first | rfl | simp only [go_sem]) (by first | rfl | simp [upd_ap, hpL_ap, tau, mapT, mapTL, bytesI_len])).pv (by first | rfl | simp only [go_sem]) (by first | rfl | simp [upd_ap, hpL_ap, tau, mapT, mapTL, bytesI_len])).pv (by first | rfl | simp only [go_sem]) (by first | rfl | simp [upd_ap, hpL_ap, tau, mapT, mapTL, bytesI_len]))
    · exact .nil _
    · exact .cons (.eq (by first | rfl | simp only [go_sem]) (by first | rfl | simp [upd_ap, hpL_ap, tau, mapT, mapTL, bytesI_len])) (.nil _)
  · clear h hy107
    rintro ⟨s1_0, s1_1⟩ x h
    rw [f56_s1] at h
    refine AW.regL [0, 5, 12, 13, 14, 15] ?_
    generalize hK : AW Try.prog _ _ _ = K
    simp only [go_sem, ↓reduceIte, reduceCtorEq, Nat.reduceAdd, Nat.reduceSub, Nat.reduceMul, Nat.reduceEqDiff, Nat.reduceLT, Nat.reduceLeDiff, Nat.reduceBEq, Int.reduceAdd, Int.reduceSub, Int.reduceLT, Int.reduceLE, Int.reduceEq, Int.reduceToNat]
    subst hK
    refine AW.seq ?_
    by_cases c65 : s1_1 < (a1.length : Int)
    · rw [if_pos c65] at h
      refine AW.ifT rfl c65 ?_
      refine AW.skip ?_
      refine thenA_n ?_
      refine AW.seq ?_
      refine AW.block ?_
      obtain ⟨x66, hx66, h⟩ := Option.bind_eq_some_iff.1 h
      obtain ⟨hx66a, hx66b⟩ := ix_some.1 hx66
      refine AW.regL [0, 5, 6, 7, 12, 13, 14] ?_
      generalize hK : AW Try.prog _ _ _ = K
      simp only [go_sem, ↓reduceIte, reduceCtorEq, Nat.reduceAdd, Nat.reduceSub, Nat.reduceMul, Nat.reduceEqDiff, Nat.reduceLT, Nat.reduceLeDiff, Nat.reduceBEq, Int.reduceAdd, Int.reduceSub, Int.reduceLT, Int.reduceLE, Int.reduceEq, Int.reduceToNat, eq_true c65, natOf_le hx66a, hx66b]
      subst hK
      refine AW.regL [0, 5, 6, 7, 8, 12, 13, 14] ?_
      generalize hK : AW Try.prog _ _ _ = K
      simp only [go_sem, ↓reduceIte, reduceCtorEq, Nat.reduceAdd, Nat.reduceSub, Nat.reduceMul, Nat.reduceEqDiff, Nat.reduceLT, Nat.reduceLeDiff, Nat.reduceBEq, Int.reduceAdd, Int.reduceSub, Int.reduceLT, Int.reduceLE, Int.reduceEq, Int.reduceToNat, eq_true c65]
      subst hK
      refine AW.join (fun s => ⟨(upd (upd (upd (upd (upd (upd (upd anyF 0 (.sl (List.map enc90 a0))) 5 (.own 8 0 s1_0.length)) 7 (.sl (List.map encItem x66))) 8 (.sl (List.map encItem s))) 12 (.sl (List.map enc90 a1))) 13 (.val (.int .i64 (a1.length : Int)))) 14 (.val (.int .i64 s1_1))), hpL [] [some (.row 1 true (List.map enc9 s1_0))], 9⟩) (fun s => f56_j3 s1_0 s1_1 x66 s = some x) ?_ ?_
      · refine AW.regL [0, 5, 6, 7, 8, 12, 13, 14, 22] ?_
        generalize hK : AW Try.prog _ _ _ = K
        simp only [go_sem, ↓reduceIte, reduceCtorEq, Nat.reduceAdd, Nat.reduceSub, Nat.reduceMul, Nat.reduceEqDiff, Nat.reduceLT, Nat.reduceLeDiff, Nat.reduceBEq, Int.reduceAdd, Int.reduceSub, Int.reduceLT, Int.reduceLE, Int.reduceEq, Int.reduceToNat, eq_true c65]
        subst hK
        by_cases c104 : s1_1 < (a0.length : Int)
        · rw [if_pos c104] at h
          refine AW.ifT rfl c104 ?_
          obtain ⟨x105, hx105, h⟩ := Option.bind_eq_some_iff.1 h
          obtain ⟨hx105a, hx105b⟩ := ix_some.1 hx105
          refine AW.regionL [0, 5, 7, 8, 12, 13, 14] ?_
          generalize hK : thenA _ _ Exit.normal = K
          simp only [go_sem, ↓reduceIte, reduceCtorEq, Nat.reduceAdd, Nat.reduceSub, Nat.reduceMul, Nat.reduceEqDiff, Nat.reduceLT, Nat.reduceLeDiff, Nat.reduceBEq, Int.reduceAdd, Int.reduceSub, Int.reduceLT, Int.reduceLE, Int.reduceEq, Int.reduceToNat, eq_true c65, eq_true c104, natOf_le hx105a, hx105b]
          subst hK
          refine thenA_n ?_
          refine ⟨_, h, ?_⟩
          refine Ent.can [8] _ _ _ rfl (by first | decide | simp) rfl ?_ ?_ ?_
          · exact (((((((RF.any.pv (by first | rfl | simp only [go_sem]) (by first | rfl | simp [upd_ap, hpL_ap, tau, mapT, mapTL, bytesI_len, eq_true c65, eq_true c104])).po (by decide) (by first | rfl | simp [upd_ap, hpL_ap, tau, mapT, mapTL, bytesI_len, eq_true c65, eq_true c104])).pv (by first | rfl | simp only [go_sem]) (by first | rfl | simp [upd_ap, hpL_ap, tau, mapT, mapTL, bytesI_len, eq_true c65, eq_true c104])).pv (by first | rfl | simp only [go_sem]) (by first | rfl | simp [upd_ap, hpL_ap, tau, mapT, mapTL, bytesI_len, eq_true c65, eq_true c104])).pv (by first | rfl | simp only [go_sem]) (by first | rfl | simp [upd_ap, hpL_ap, tau, mapT, mapTL, bytesI_len, eq_true c65, eq_true c104])).pv (by first | rfl | simp only [go_sem]) (by first | rfl | simp [upd_ap, hpL_ap, tau, mapT, mapTL, bytesI_len, eq_true c65, eq_true c104])).pv (by first | rfl | simp only [go_sem]) (by first | rfl | simp [upd_ap, hpL_ap, tau, mapT, mapTL, bytesI_len, eq_true c65, eq_true c104]))
          · exact .nil _
          · exact .cons (.eq (by first | rfl | simp only [go_sem]) (by first | rfl | simp [upd_ap, hpL_ap, tau, mapT, mapTL, bytesI_len, eq_true c65, eq_true c104])) (.nil _)
        · rw [if_neg c104] at h
          refine AW.ifF rfl c104 ?_
          refine AW.skip ?_
          refine thenA_n ?_
          refine ⟨_, h, ?_⟩
          refine Ent.can [8] _ _ _ rfl (by first | decide | simp) rfl ?_ ?_ ?_
          · exact (((((((RF.any.pv (by first | rfl | simp only [go_sem]) (by first | rfl | simp [upd_ap, hpL_ap, tau, mapT, mapTL, bytesI_len, eq_true c65, eq_false c104])).po (by decide) (by first | rfl | simp [upd_ap, hpL_ap, tau, mapT, mapTL, bytesI_len, eq_true c65, eq_false c104])).pv (by first | rfl | simp only [go_sem]) (by first | rfl | simp [upd_ap, hpL_ap, tau, mapT, mapTL, bytesI_len, eq_true c65, eq_false c104])).pn rfl).pv (by first | rfl | simp only [go_sem]) (by first | rfl | simp [upd_ap, hpL_ap, tau, mapT, mapTL, bytesI_len, eq_true c65, eq_false c104])).pv (by first | rfl | simp only [go_sem]) (by first | rfl | simp [upd_ap, hpL_ap, tau, mapT, mapTL, bytesI_len, eq_true c65, eq_false c104])).pv (by first | rfl | simp only [go_sem]) (by first | rfl | simp [upd_ap, hpL_ap, tau, mapT, mapTL, bytesI_len, eq_true c65, eq_false c104]))
          · exact .nil _
          · exact .cons (.eq (by first | rfl | simp only [go_sem]) (by first | rfl | simp [upd_ap, hpL_ap, tau, mapT, mapTL, bytesI_len, eq_true c65, eq_false c104])) (.nil _)
      · clear h
        rintro j3_0 h
        rw [f56_j3] at h
        refine AW.regL [0, 5, 8, 12, 13, 14, 27, 28, 29] ?_
        generalize hK : AW Try.prog _ _ _ = K
        simp only [go_sem, ↓reduceIte, reduceCtorEq, Nat.reduceAdd, Nat.reduceSub, Nat.reduceMul, Nat.reduceEqDiff, Nat.reduceLT, Nat.reduceLeDiff, Nat.reduceBEq, Int.reduceAdd, Int.reduceSub, Int.reduceLT, Int.reduceLE, Int.reduceEq, Int.reduceToNat, eq_true c65]
        subst hK
        refine AW.block ?_
        obtain ⟨y103, hy103, h⟩ := Option.bind_eq_some_iff.1 h
        refine AW.loopO (fun s => ⟨(upd (upd (upd (upd (upd (upd (upd (upd (upd anyF 0 (.sl (List.map enc90 a0))) 5 (.own 8 0 s.1.length)) 8 (.sl (List.map encItem j3_0))) 12 (.sl (List.map enc90 a1))) 13 (.val (.int .i64 (a1.length : Int)))) 14 (.val (.int .i64 s1_1))) 27 (.sl (List.map encItem x66))) 28 (.val (.int .i64 (x66.length : Int)))) 29 (.val (.int .i64 s.2))), hpL [] [some (.row 1 true (List.map enc9 s.1))], 9⟩) (fun z e st' => e = Exit.exit 2 ∧ st' = ⟨(upd (upd (upd (upd (upd anyF 0 (.sl (List.map enc90 a0))) 5 (.own 8 0 z.length)) 12 (.sl (List.map enc90 a1))) 13 (.val (.int .i64 (a1.length : Int)))) 14 (.val (.int .i64 s1_1))), hpL [] [some (.row 1 true (List.map enc9 z))], 9⟩) hy103 ?_ ?_ ?_
        · refine Ent.can [8] _ _ _ rfl (by first | decide | simp) rfl ?_ ?_ ?_
          · exact (((((((((RF.any.pv (by first | rfl | simp only [go_sem]) (by first | rfl | simp [upd_ap, hpL_ap, tau, mapT, mapTL, bytesI_len, eq_true c65])).po (by decide) (by first | rfl | simp [upd_ap, hpL_ap, tau, mapT, mapTL, bytesI_len, eq_true c65])).pv (by first | rfl | simp only [go_sem]) (by first | rfl | simp [upd_ap, hpL_ap, tau, mapT, mapTL, bytesI_len, eq_true c65])).pv (by first | rfl | simp only [go_sem]) (by first | rfl | simp [upd_ap, hpL_ap, tau, mapT, mapTL, bytesI_len, eq_true c65])).pv (by first | rfl | simp only [go_sem]) (by first | rfl | simp [upd_ap, hpL_ap, tau, mapT, mapTL, bytesI_len, eq_true c65])).pv (by first | rfl | simp only [go_sem]) (by first | rfl | simp [upd_ap, hpL_ap, tau, mapT, mapTL, bytesI_len, eq_true c65])).pv (by first | rfl | simp only [go_sem]) (by first | rfl | simp [upd_ap, hpL_ap, tau, mapT, mapTL, bytesI_len, eq_true c65])).pv (by first | rfl | simp only [go_sem]) (by first | rfl | simp [upd_ap, hpL_ap, tau, mapT, mapTL, bytesI_len, eq_true c65])).pv (by first | rfl | simp only [go_sem]) (by first | rfl | simp [upd_ap, hpL_ap, tau, mapT, mapTL, bytesI_len, eq_true c65]))
          · exact .nil _
          · exact .cons (.eq (by first | rfl | simp only [go_sem]) (by first | rfl | simp [upd_ap, hpL_ap, tau, mapT, mapTL, bytesI_len, eq_true c65])) (.nil _)
        · clear h hy103
          rintro ⟨s4_0, s4_1⟩ x h
          rw [f56_s4] at h
          refine AW.regL [0, 5, 8, 12, 13, 14, 27, 28, 29, 30] ?_
          generalize hK : AW Try.prog _ _ _ = K
          simp only [go_sem, ↓reduceIte, reduceCtorEq, Nat.reduceAdd, Nat.reduceSub, Nat.reduceMul, Nat.reduceEqDiff, Nat.reduceLT, Nat.reduceLeDiff, Nat.reduceBEq, Int.reduceAdd, Int.reduceSub, Int.reduceLT, Int.reduceLE, Int.reduceEq, Int.reduceToNat, eq_true c65]
          subst hK
          refine AW.seq ?_
          by_cases c93 : s4_1 < (x66.length : Int)
          · rw [if_pos c93] at h
            refine AW.ifT rfl c93 ?_
            refine AW.skip ?_
            refine thenA_n ?_
            refine AW.seq ?_
            refine AW.block ?_
            obtain ⟨x94, hx94, h⟩ := Option.bind_eq_some_iff.1 h
            obtain ⟨hx94a, hx94b⟩ := ix_some.1 hx94
            refine AW.regL [0, 5, 8, 10, 12, 13, 14, 27, 28, 29] ?_
            generalize hK : AW Try.prog _ _ _ = K
            simp only [go_sem, ↓reduceIte, reduceCtorEq, Nat.reduceAdd, Nat.reduceSub, Nat.reduceMul, Nat.reduceEqDiff, Nat.reduceLT, Nat.reduceLeDiff, Nat.reduceBEq, Int.reduceAdd, Int.reduceSub, Int.reduceLT, Int.reduceLE, Int.reduceEq, Int.reduceToNat, eq_true c65, eq_true c93, natOf_le hx94a, hx94b]
            subst hK
            refine AW.ent (Ent.stillPtr 10 rfl (by first | rfl | simp [upd_ap]) (by first | rfl | simp only [go_sem]) (by simp)) ?_
            obtain ⟨x95, hx95, h⟩ := Option.bind_eq_some_iff.1 h
            refine AW.regL [0, 5, 8, 10, 11, 12, 13, 14, 27, 28, 29] ?_
            generalize hK : AW Try.prog _ _ _ = K
            simp only [go_sem, ↓reduceIte, reduceCtorEq, Nat.reduceAdd, Nat.reduceSub, Nat.reduceMul, Nat.reduceEqDiff, Nat.reduceLT, Nat.reduceLeDiff, Nat.reduceBEq, Int.reduceAdd, Int.reduceSub, Int.reduceLT, Int.reduceLE, Int.reduceEq, Int.reduceToNat, eq_true c65, eq_true c93]
            refine arC.of (ok99_100 j3_0 x94 x95 hx95) Try.call99 ?_
            simp only [go_sem, ↓reduceIte, reduceCtorEq, Nat.reduceAdd, Nat.reduceSub, Nat.reduceMul, Nat.reduceEqDiff, Nat.reduceLT, Nat.reduceLeDiff, Nat.reduceBEq, Int.reduceAdd, Int.reduceSub, Int.reduceLT, Int.reduceLE, Int.reduceEq, Int.reduceToNat, eq_true c65, eq_true c93]
            subst hK
            by_cases c96 : x95 < 0
            · rw [if_pos c96] at h
              refine AW.regdL [0, 5, 8, 10, 12, 13, 14, 27, 28, 29, 48] [[], [0], [0, 1], [0, 1, 2], [0, 1, 2], [0, 1, 2], [0, 1, 2, 5], [0, 1, 2, 3, 4, 5, 6], [0, 1, 2], [0, 1, 2, 8], [0, 1, 2, 3, 4, 5, 6, 7, 8, 9], [0, 1, 2, 3, 4, 5, 6, 7, 8, 9, 10], [0, 1, 2, 3, 4, 5, 6, 7, 8, 9, 10, 11]] [0, 1, 2, 3, 4, 5, 6, 7, 8, 9, 10, 11, 12] noFt (fun _ _ _ h => by simp [noFt] at h) draws (by kernel_rfl) (by kernel_rfl) ?_
              generalize hK : AW Try.prog _ _ _ = K
              simp only [go_sem, ↓reduceIte, reduceCtorEq, Nat.reduceAdd, Nat.reduceSub, Nat.reduceMul, Nat.reduceEqDiff, Nat.reduceLT, Nat.reduceLeDiff, Nat.reduceBEq, Int.reduceAdd, Int.reduceSub, Int.reduceLT, Int.reduceLE, Int.reduceEq, Int.reduceToNat, eq_true c65, eq_true c93, eq_true c96]
              subst hK
              refine AW.ifBT rfl rfl ?_
              obtain ⟨x97, hx97, h⟩ := Option.bind_eq_some_iff.1 h
              obtain ⟨hx97b, hx97e⟩ := appO?_some.1 hx97
              have hx97f : ∀ id o : Nat, appO 1 16 id ([[.val (.string x94.Key)]]) 0 s4_0.length o (some (.row 1 true (List.map enc9 s4_0))) = some ⟨.own id 0 x97.length, [(o, none), (id, some (.row 1 true (List.map enc9 x97)))]⟩ := fun id o => by
                subst hx97e; rw [appO_ok (by simp) (by simpa using hx97b) (by decide)]; first | (simp [enc9]; done) | (simp [enc9]; omega)
              refine AW.regionL [0, 5, 8, 12, 13, 14, 27, 28, 29] ?_
              generalize hK : inBlockA _ _ Exit.normal = K
              simp only [go_sem, ↓reduceIte, reduceCtorEq, Nat.reduceAdd, Nat.reduceSub, Nat.reduceMul, Nat.reduceEqDiff, Nat.reduceLT, Nat.reduceLeDiff, Nat.reduceBEq, Int.reduceAdd, Int.reduceSub, Int.reduceLT, Int.reduceLE, Int.reduceEq, Int.reduceToNat, eq_true c65, eq_true c93, eq_true c96, hx97f]
              subst hK
              refine block_n ?_
              refine thenA_n ?_
              refine AW.regionL [0, 5, 8, 12, 13, 14, 27, 28, 29] ?_
              generalize hK : thenA _ _ Exit.normal = K
              simp only [go_sem, ↓reduceIte, reduceCtorEq, Nat.reduceAdd, Nat.reduceSub, Nat.reduceMul, Nat.reduceEqDiff, Nat.reduceLT, Nat.reduceLeDiff, Nat.reduceBEq, Int.reduceAdd, Int.reduceSub, Int.reduceLT, Int.reduceLE, Int.reduceEq, Int.reduceToNat, eq_true c65, eq_true c93, eq_true c96]
              subst hK
              refine thenA_n ?_
              refine ⟨_, (Option.some.inj h).symm, ?_⟩
              refine Ent.can [217] _ _ _ rfl (by first | decide | simp) rfl ?_ ?_ ?_
              · exact (((((((((RF.any.pv (by first | rfl | simp only [go_sem]) (by first | rfl | simp [upd_ap, hpL_ap, tau, mapT, mapTL, bytesI_len, eq_true c65, eq_true c93, eq_true c96])).po (by decide) (by first | rfl | simp [upd_ap, hpL_ap, tau, mapT, mapTL, bytesI_len, eq_true c65, eq_true c93, eq_true c96])).pv (by first | rfl | simp only [go_sem]) (by first | rfl | simp [upd_ap, hpL_ap, tau, mapT, mapTL, bytesI_len, eq_true c65, eq_true c93, eq_true c96])).pv (by first | rfl | simp only [go_sem]) (by first | rfl | simp [upd_ap, hpL_ap, tau, mapT, mapTL, bytesI_len, eq_true c65, eq_true c93, eq_true c96])).pv (by first | rfl | simp only [go_sem]) (by first | rfl | simp [upd_ap, hpL_ap, tau, mapT, mapTL, bytesI_len, eq_true c65, eq_true c93, eq_true c96])).pv (by first | rfl | simp only [go_sem]) (by first | rfl | simp [upd_ap, hpL_ap, tau, mapT, mapTL, bytesI_len, eq_true c65, eq_true c93, eq_true c96])).pv (by first | rfl | simp only [go_sem]) (by first | rfl | simp [upd_ap, hpL_ap, tau, mapT, mapTL, bytesI_len, eq_true c65, eq_true c93, eq_true c96])).pv (by first | rfl | simp only [go_sem]) (by first | rfl | simp [upd_ap, hpL_ap, tau, mapT, mapTL, bytesI_len, eq_true c65, eq_true c93, eq_true c96])).pv (by first | rfl | simp only [go_sem]) (by first | rfl | simp [upd_ap, hpL_ap, tau, mapT, mapTL, bytesI_len, eq_true c65, eq_true c93, eq_true c96]))
              · exact .nil _
              · exact .cons (.eq (by first | rfl | simp only [go_sem]) (by first | rfl | simp [upd_ap, hpL_ap, tau, mapT, mapTL, bytesI_len, eq_true c65, eq_true c93, eq_true c96])) (.nil _)
            · rw [if_neg c96] at h
              obtain ⟨x98, hx98, h⟩ := Option.bind_eq_some_iff.1 h
              obtain ⟨x99, hx99, h⟩ := Option.bind_eq_some_iff.1 h
              refine AW.regdL [0, 5, 8, 10, 12, 13, 14, 27, 28, 29, 48] [[], [0], [0, 1], [0, 1, 2], [0, 1, 2], [0, 1, 2], [0, 1, 2, 5], [0, 1, 2, 3, 4, 5, 6], [0, 1, 2], [0, 1, 2, 8], [0, 1, 2, 3, 4, 5, 6, 7, 8, 9], [0, 1, 2, 3, 4, 5, 6, 7, 8, 9, 10], [0, 1, 2, 3, 4, 5, 6, 7, 8, 9, 10, 11]] [0, 1, 2, 3, 4, 5, 6, 7, 8, 9, 10, 11, 12] (tab [(101, [.sl (List.map encItem x98), .sl [[.val (.string x94.Key), .sl (List.map encPart x94.Parts), .sl (List.map enc3 x94.Offs)]]], .val (.bool x99))]) (tab_cons (ok101 x98 [x94] x99 hx99) Try.call101 tab_nil) draws (by kernel_rfl) (by kernel_rfl) ?_
              generalize hK : AW Try.prog _ _ _ = K
              simp only [go_sem, ↓reduceIte, reduceCtorEq, Nat.reduceAdd, Nat.reduceSub, Nat.reduceMul, Nat.reduceEqDiff, Nat.reduceLT, Nat.reduceLeDiff, Nat.reduceBEq, Int.reduceAdd, Int.reduceSub, Int.reduceLT, Int.reduceLE, Int.reduceEq, Int.reduceToNat, eq_true c65, eq_true c93, eq_false c96, cut_ss el90 sz153 (ml_encItem _) hx98]
              subst hK
              by_cases c100 : x99 = true
              · rw [if_pos c100] at h
                refine AW.ifBF rfl (by rw [c100]; rfl) ?_
                refine AW.skip ?_
                refine block_n ?_
                refine thenA_n ?_
                refine AW.regionL [0, 5, 8, 12, 13, 14, 27, 28, 29] ?_
                generalize hK : thenA _ _ Exit.normal = K
                simp only [go_sem, ↓reduceIte, reduceCtorEq, Nat.reduceAdd, Nat.reduceSub, Nat.reduceMul, Nat.reduceEqDiff, Nat.reduceLT, Nat.reduceLeDiff, Nat.reduceBEq, Int.reduceAdd, Int.reduceSub, Int.reduceLT, Int.reduceLE, Int.reduceEq, Int.reduceToNat, eq_true c65, eq_true c93, eq_false c96, c100]
                subst hK
                refine thenA_n ?_
                refine ⟨_, (Option.some.inj h).symm, ?_⟩
                refine Ent.can [8] _ _ _ rfl (by first | decide | simp) rfl ?_ ?_ ?_
                · exact (((((((((RF.any.pv (by first | rfl | simp only [go_sem]) (by first | rfl | simp [upd_ap, hpL_ap, tau, mapT, mapTL, bytesI_len, eq_true c65, eq_true c93, eq_false c96, c100])).po (by decide) (by first | rfl | simp [upd_ap, hpL_ap, tau, mapT, mapTL, bytesI_len, eq_true c65, eq_true c93, eq_false c96, c100])).pv (by first | rfl | simp only [go_sem]) (by first | rfl | simp [upd_ap, hpL_ap, tau, mapT, mapTL, bytesI_len, eq_true c65, eq_true c93, eq_false c96, c100])).pv (by first | rfl | simp only [go_sem]) (by first | rfl | simp [upd_ap, hpL_ap, tau, mapT, mapTL, bytesI_len, eq_true c65, eq_true c93, eq_false c96, c100])).pv (by first | rfl | simp only [go_sem]) (by first | rfl | simp [upd_ap, hpL_ap, tau, mapT, mapTL, bytesI_len, eq_true c65, eq_true c93, eq_false c96, c100])).pv (by first | rfl | simp only [go_sem]) (by first | rfl | simp [upd_ap, hpL_ap, tau, mapT, mapTL, bytesI_len, eq_true c65, eq_true c93, eq_false c96, c100])).pv (by first | rfl | simp only [go_sem]) (by first | rfl | simp [upd_ap, hpL_ap, tau, mapT, mapTL, bytesI_len, eq_true c65, eq_true c93, eq_false c96, c100])).pv (by first | rfl | simp only [go_sem]) (by first | rfl | simp [upd_ap, hpL_ap, tau, mapT, mapTL, bytesI_len, eq_true c65, eq_true c93, eq_false c96, c100])).pv (by first | rfl | simp only [go_sem]) (by first | rfl | simp [upd_ap, hpL_ap, tau, mapT, mapTL, bytesI_len, eq_true c65, eq_true c93, eq_false c96, c100]))
                · exact .nil _
                · exact .cons (.eq (by first | rfl | simp only [go_sem]) (by first | rfl | simp [upd_ap, hpL_ap, tau, mapT, mapTL, bytesI_len, eq_true c65, eq_true c93, eq_false c96, c100])) (.nil _)
              · rw [if_neg c100] at h
                rw [Bool.not_eq_true] at c100
                refine AW.ifBT rfl (by rw [c100]; rfl) ?_
                obtain ⟨x101, hx101, h⟩ := Option.bind_eq_some_iff.1 h
                obtain ⟨hx101b, hx101e⟩ := appO?_some.1 hx101
                have hx101f : ∀ id o : Nat, appO 1 16 id ([[.val (.string x94.Key)]]) 0 s4_0.length o (some (.row 1 true (List.map enc9 s4_0))) = some ⟨.own id 0 x101.length, [(o, none), (id, some (.row 1 true (List.map enc9 x101)))]⟩ := fun id o => by
                  subst hx101e; rw [appO_ok (by simp) (by simpa using hx101b) (by decide)]; first | (simp [enc9]; done) | (simp [enc9]; omega)
                refine AW.regionL [0, 5, 8, 12, 13, 14, 27, 28, 29] ?_
                generalize hK : inBlockA _ _ Exit.normal = K
                simp only [go_sem, ↓reduceIte, reduceCtorEq, Nat.reduceAdd, Nat.reduceSub, Nat.reduceMul, Nat.reduceEqDiff, Nat.reduceLT, Nat.reduceLeDiff, Nat.reduceBEq, Int.reduceAdd, Int.reduceSub, Int.reduceLT, Int.reduceLE, Int.reduceEq, Int.reduceToNat, eq_true c65, eq_true c93, eq_false c96, c100, hx101f]
                subst hK
                refine block_n ?_
                refine thenA_n ?_
                refine AW.regionL [0, 5, 8, 12, 13, 14, 27, 28, 29] ?_
                generalize hK : thenA _ _ Exit.normal = K
                simp only [go_sem, ↓reduceIte, reduceCtorEq, Nat.reduceAdd, Nat.reduceSub, Nat.reduceMul, Nat.reduceEqDiff, Nat.reduceLT, Nat.reduceLeDiff, Nat.reduceBEq, Int.reduceAdd, Int.reduceSub, Int.reduceLT, Int.reduceLE, Int.reduceEq, Int.reduceToNat, eq_true c65, eq_true c93, eq_false c96, c100]
                subst hK
                refine thenA_n ?_
                refine ⟨_, (Option.some.inj h).symm, ?_⟩
                refine Ent.can [217] _ _ _ rfl (by first | decide | simp) rfl ?_ ?_ ?_
                · exact (((((((((RF.any.pv (by first | rfl | simp only [go_sem]) (by first | rfl | simp [upd_ap, hpL_ap, tau, mapT, mapTL, bytesI_len, eq_true c65, eq_true c93, eq_false c96, c100])).po (by decide) (by first | rfl | simp [upd_ap, hpL_ap, tau, mapT, mapTL, bytesI_len, eq_true c65, eq_true c93, eq_false c96, c100])).pv (by first | rfl | simp only [go_sem]) (by first | rfl | simp [upd_ap, hpL_ap, tau, mapT, mapTL, bytesI_len, eq_true c65, eq_true c93, eq_false c96, c100])).pv (by first | rfl | simp only [go_sem]) (by first | rfl | simp [upd_ap, hpL_ap, tau, mapT, mapTL, bytesI_len, eq_true c65, eq_true c93, eq_false c96, c100])).pv (by first | rfl | simp only [go_sem]) (by first | rfl | simp [upd_ap, hpL_ap, tau, mapT, mapTL, bytesI_len, eq_true c65, eq_true c93, eq_false c96, c100])).pv (by first | rfl | simp only [go_sem]) (by first | rfl | simp [upd_ap, hpL_ap, tau, mapT, mapTL, bytesI_len, eq_true c65, eq_true c93, eq_false c96, c100])).pv (by first | rfl | simp only [go_sem]) (by first | rfl | simp [upd_ap, hpL_ap, tau, mapT, mapTL, bytesI_len, eq_true c65, eq_true c93, eq_false c96, c100])).pv (by first | rfl | simp only [go_sem]) (by first | rfl | simp [upd_ap, hpL_ap, tau, mapT, mapTL, bytesI_len, eq_true c65, eq_true c93, eq_false c96, c100])).pv (by first | rfl | simp only [go_sem]) (by first | rfl | simp [upd_ap, hpL_ap, tau, mapT, mapTL, bytesI_len, eq_true c65, eq_true c93, eq_false c96, c100]))
                · exact .nil _
                · exact .cons (.eq (by first | rfl | simp only [go_sem]) (by first | rfl | simp [upd_ap, hpL_ap, tau, mapT, mapTL, bytesI_len, eq_true c65, eq_true c93, eq_false c96, c100])) (.nil _)
          · rw [if_neg c93] at h
            refine AW.ifF rfl c93 ?_
            refine AW.exit ?_
            refine thenA_x ?_
            refine thenA_x ?_
            refine ⟨_, (Option.some.inj h).symm, _, ?_, rfl, rfl⟩
            refine Ent.can [8] _ _ _ rfl (by first | decide | simp) rfl ?_ ?_ ?_
            · exact (((((RF.any.pv (by first | rfl | simp only [go_sem]) (by first | rfl | simp [upd_ap, hpL_ap, tau, mapT, mapTL, bytesI_len, eq_true c65, eq_false c93])).po (by decide) (by first | rfl | simp [upd_ap, hpL_ap, tau, mapT, mapTL, bytesI_len, eq_true c65, eq_false c93])).pv (by first | rfl | simp only [go_sem]) (by first | rfl | simp [upd_ap, hpL_ap, tau, mapT, mapTL, bytesI_len, eq_true c65, eq_false c93])).pv (by first | rfl | simp only [go_sem]) (by first | rfl | simp [upd_ap, hpL_ap, tau, mapT, mapTL, bytesI_len, eq_true c65, eq_false c93])).pv (by first | rfl | simp only [go_sem]) (by first | rfl | simp [upd_ap, hpL_ap, tau, mapT, mapTL, bytesI_len, eq_true c65, eq_false c93]))
            · exact .nil _
            · exact .cons (.eq (by first | rfl | simp only [go_sem]) (by first | rfl | simp [upd_ap, hpL_ap, tau, mapT, mapTL, bytesI_len, eq_true c65, eq_false c93])) (.nil _)
        · intro e st' hX
          try dsimp only at h
          try dsimp only at hX
          obtain ⟨rfl, rfl⟩ := hX
          refine ⟨_, Ent.refl, ?_⟩
          refine block_x ?_
          refine block_n ?_
          refine thenA_n ?_
          refine AW.regionL [0, 5, 12, 13, 14] ?_
          generalize hK : thenA _ _ Exit.normal = K
          simp only [go_sem, ↓reduceIte, reduceCtorEq, Nat.reduceAdd, Nat.reduceSub, Nat.reduceMul, Nat.reduceEqDiff, Nat.reduceLT, Nat.reduceLeDiff, Nat.reduceBEq, Int.reduceAdd, Int.reduceSub, Int.reduceLT, Int.reduceLE, Int.reduceEq, Int.reduceToNat, eq_true c65]
          subst hK
          refine thenA_n ?_
          refine ⟨_, (Option.some.inj h).symm, ?_⟩
          refine Ent.can [8] _ _ _ rfl (by first | decide | simp) rfl ?_ ?_ ?_
          · exact (((((RF.any.pv (by first | rfl | simp only [go_sem]) (by first | rfl | simp [upd_ap, hpL_ap, tau, mapT, mapTL, bytesI_len, eq_true c65])).po (by decide) (by first | rfl | simp [upd_ap, hpL_ap, tau, mapT, mapTL, bytesI_len, eq_true c65])).pv (by first | rfl | simp only [go_sem]) (by first | rfl | simp [upd_ap, hpL_ap, tau, mapT, mapTL, bytesI_len, eq_true c65])).pv (by first | rfl | simp only [go_sem]) (by first | rfl | simp [upd_ap, hpL_ap, tau, mapT, mapTL, bytesI_len, eq_true c65])).pv (by first | rfl | simp only [go_sem]) (by first | rfl | simp [upd_ap, hpL_ap, tau, mapT, mapTL, bytesI_len, eq_true c65]))
          · exact .nil _
          · exact .cons (.eq (by first | rfl | simp only [go_sem]) (by first | rfl | simp [upd_ap, hpL_ap, tau, mapT, mapTL, bytesI_len, eq_true c65])) (.nil _)
    · rw [if_neg c65] at h
      refine AW.ifF rfl c65 ?_
      refine AW.exit ?_
      refine thenA_x ?_
      refine thenA_x ?_
      refine ⟨_, (Option.some.inj h).symm, _, ?_, rfl, rfl⟩
      refine Ent.can [8] _ _ _ rfl (by first | decide | simp) rfl ?_ ?_ ?_
      · exact (RF.any.po (by decide) (by first | rfl | simp [upd_ap, hpL_ap, tau, mapT, mapTL, bytesI_len, eq_false c65]))
      · exact .nil _
      · exact .cons (.eq (by first | rfl | simp only [go_sem]) (by first | rfl | simp [upd_ap, hpL_ap, tau, mapT, mapTL, bytesI_len, eq_false c65])) (.nil _)
  · intro e st' hX
    try dsimp only at h
    try dsimp only at hX
    obtain ⟨rfl, rfl⟩ := hX
    refine ⟨_, Ent.refl, ?_⟩
    refine block_x ?_
    refine thenA_n ?_
    obtain ⟨x108, hx108, h⟩ := Option.bind_eq_some_iff.1 h
    have lenhx108 : x108.length = y107.length := len102 hx108
    refine AW.regL [5] ?_
    generalize hK : AW Try.prog _ _ _ = K
    simp only [go_sem, ↓reduceIte, reduceCtorEq, Nat.reduceAdd, Nat.reduceSub, Nat.reduceMul, Nat.reduceEqDiff, Nat.reduceLT, Nat.reduceLeDiff, Nat.reduceBEq, Int.reduceAdd, Int.reduceSub, Int.reduceLT, Int.reduceLE, Int.reduceEq, Int.reduceToNat, lenhx108]
    refine arC.ok (CallOk.ic (us' := _) (ok102 y107 x108 hx108) [8] rfl (by decide) (by simp) (by simp) (by simp) (by simp) (.cons (.eq (by simp only [go_sem]) (by first | rfl | simp [upd_ap, hpL_ap, sg_ap])) (.nil _)) (by simp only [mapTL_cons, mapTL_nil, mapT_ptr, mapT_own, mapT_val, mapT_sl, mapT_agg, mapT_ip, sg_ap, List.getD_cons_zero, List.getD_cons_succ]; exact (.cons (.of (by first | rfl | simp [mapT_own, sg_ap])) .nil)) (by simp only [go_sem, List.length_cons, List.length_nil, Nat.reduceAdd, Nat.reduceLT, decide_true]) (by simp [AObj.isMut]) (by simp [go_sem]) (by simp [go_sem])) Try.call102 ?_
    simp only [go_sem, ↓reduceIte, reduceCtorEq, Nat.reduceAdd, Nat.reduceSub, Nat.reduceMul, Nat.reduceEqDiff, Nat.reduceLT, Nat.reduceLeDiff, Nat.reduceBEq, Int.reduceAdd, Int.reduceSub, Int.reduceLT, Int.reduceLE, Int.reduceEq, Int.reduceToNat, lenhx108]
    subst hK
    obtain ⟨x109, hx109, h⟩ := Option.bind_eq_some_iff.1 h
    refine AW.regL [4] ?_
    generalize hK : AW Try.prog _ _ _ = K
    simp only [go_sem, ↓reduceIte, reduceCtorEq, Nat.reduceAdd, Nat.reduceSub, Nat.reduceMul, Nat.reduceEqDiff, Nat.reduceLT, Nat.reduceLeDiff, Nat.reduceBEq, Int.reduceAdd, Int.reduceSub, Int.reduceLT, Int.reduceLE, Int.reduceEq, Int.reduceToNat, lenhx108]
    refine arC.ok (CallOk.ic (us' := _) (ok103 x108 x109 hx109) [8] rfl (by decide) (by simp) (by simp) (by simp) (by simp) (.cons (.eq (by simp only [go_sem]) (by first | rfl | simp [upd_ap, hpL_ap, sg_ap])) (.nil _)) (by simp only [mapTL_cons, mapTL_nil, mapT_ptr, mapT_own, mapT_val, mapT_sl, mapT_agg, mapT_ip, sg_ap, List.getD_cons_zero, List.getD_cons_succ]; exact (.cons (.of (by first | rfl | simp [mapT_own, sg_ap, lenhx108])) .nil)) (by simp only [go_sem, List.length_cons, List.length_nil, Nat.reduceAdd, Nat.reduceLT, decide_true]) (by simp [AObj.isMut]) (by simp [go_sem]) (by simp [go_sem])) Try.call103 ?_
    simp only [go_sem, ↓reduceIte, reduceCtorEq, Nat.reduceAdd, Nat.reduceSub, Nat.reduceMul, Nat.reduceEqDiff, Nat.reduceLT, Nat.reduceLeDiff, Nat.reduceBEq, Int.reduceAdd, Int.reduceSub, Int.reduceLT, Int.reduceLE, Int.reduceEq, Int.reduceToNat, lenhx108]
    subst hK
    refine AW.ret ?_
    obtain rfl := Option.some.inj h
    (simp only [go_sem, ↓reduceIte, reduceCtorEq, Nat.reduceAdd, Nat.reduceSub, Nat.reduceMul, Nat.reduceEqDiff, Nat.reduceLT, Nat.reduceLeDiff, Nat.reduceBEq, Int.reduceAdd, Int.reduceSub, Int.reduceLT, Int.reduceLE, Int.reduceEq, Int.reduceToNat, lenhx108, finA, resA, resOf_1, resOf_2, sealV_val, sealV_sl, sealV_ip, sealV_agg, sealV_tup, sealV_own, sealL_nil, sealL_cons] <;> try simp)
end Au
end Go.Proofs.Y1
