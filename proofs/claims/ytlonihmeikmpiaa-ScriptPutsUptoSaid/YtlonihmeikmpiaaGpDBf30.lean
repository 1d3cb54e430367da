import Derived.Test.YtlonihmeikmpiaaGpW1
import Derived.Test.YtlonihmeikmpiaaGpDBf80
set_option linter.all false
set_option linter.unusedVariables false
set_option linter.unusedSimpArgs false
set_option linter.all false
set_option maxRecDepth 8000
namespace Go.Proofs.Y1
open Go.Gm
namespace Au
noncomputable def f30_s6 (x151 : Int × (List Int)) : (List Int) × (List Int) × Int → Option (((List Int) × (List Int) × Int) ⊕ ((List Int) × (List Int)))
  | (s6_0, s6_1, s6_2) => (if s6_2 < (x151.1.tmod 4) then ((f80 s6_0).bind fun x161 => ((appO? s6_1 [x161.1]).bind fun x162 => some (.inl (x161.2, x162, IntKind.i64.wrap (s6_2 + 1))))) else some (.inr (s6_0, s6_1)))
noncomputable def f30_s7 (x168 : Int × (List Int)) : (List Int) × (List Int) × Int → Option (((List Int) × (List Int) × Int) ⊕ ((List Int) × (List Int)))
  | (s7_0, s7_1, s7_2) => (if s7_2 < (x168.1.tmod 4) then ((f80 s7_0).bind fun x178 => ((appO? s7_1 [x178.1]).bind fun x179 => some (.inl (x178.2, x179, IntKind.i64.wrap (s7_2 + 1))))) else some (.inr (s7_0, s7_1)))
noncomputable def f30_j9 (s1_1 : List Step) (x132 : Int × (List Int)) (j7_1 : Int) (j8_1 : Int) : (List Int) × Int → Option (((List Int) × (List Step)) ⊕ (List Step))
  | (j9_0, j9_1) => (if (x132.1.tmod 9) = 6 then ((f80 j9_0).bind fun x151 => ((loopO (f30_s6 x151) (x151.2, [], 0)).bind fun y163 => match y163 with | (y164, y165) => ((appO? s1_1 [⟨x132.1.tmod 9, j7_1, j8_1, j9_1, y165⟩]).bind fun x166 => some (.inl (y164, x166))))) else (if (x132.1.tmod 9) = 8 then ((f80 j9_0).bind fun x168 => ((loopO (f30_s7 x168) (x168.2, [], 0)).bind fun y180 => match y180 with | (y181, y182) => ((appO? s1_1 [⟨x132.1.tmod 9, j7_1, j8_1, j9_1, y182⟩]).bind fun x183 => some (.inl (y181, x183))))) else ((appO? s1_1 [⟨x132.1.tmod 9, j7_1, j8_1, j9_1, []⟩]).bind fun x184 => some (.inl (j9_0, x184)))))
noncomputable def f30_j8 (s1_1 : List Step) (x132 : Int × (List Int)) (j7_1 : Int) : (List Int) × Int → Option (((List Int) × (List Step)) ⊕ (List Step))
  | (j8_0, j8_1) => (if (x132.1.tmod 9) = 5 then ((f80 j8_0).bind fun x186 => f30_j9 s1_1 x132 j7_1 j8_1 (x186.2, x186.1)) else f30_j9 s1_1 x132 j7_1 j8_1 (j8_0, 0))
noncomputable def f30_j7 (s1_1 : List Step) (x132 : Int × (List Int)) : (List Int) × Int → Option (((List Int) × (List Step)) ⊕ (List Step))
  | (j7_0, j7_1) => (if 2 ≤ (x132.1.tmod 9) then (if (x132.1.tmod 9) ≤ 5 then ((f80 j7_0).bind fun x189 => f30_j8 s1_1 x132 j7_1 (x189.2, x189.1)) else (if (x132.1.tmod 9) = 8 then ((f80 j7_0).bind fun x191 => f30_j8 s1_1 x132 j7_1 (x191.2, x191.1)) else f30_j8 s1_1 x132 j7_1 (j7_0, 0))) else (if (x132.1.tmod 9) = 8 then ((f80 j7_0).bind fun x193 => f30_j8 s1_1 x132 j7_1 (x193.2, x193.1)) else f30_j8 s1_1 x132 j7_1 (j7_0, 0)))
noncomputable def f30_s1 : (List Int) × (List Step) → Option (((List Int) × (List Step)) ⊕ (List Step))
  | (s1_0, s1_1) => (if 0 < (s1_0.length : Int) then (if ((s1_1.length : Nat) : Int) < 16384 then ((f80 s1_0).bind fun x132 => (if (x132.1.tmod 9) = 1 then ((f80 x132.2).bind fun x195 => f30_j7 s1_1 x132 (x195.2, (x195.1.tmod 8))) else (if (x132.1.tmod 9) = 6 then ((f80 x132.2).bind fun x197 => f30_j7 s1_1 x132 (x197.2, (x197.1.tmod 8))) else (if (x132.1.tmod 9) = 7 then ((f80 x132.2).bind fun x199 => f30_j7 s1_1 x132 (x199.2, (x199.1.tmod 8))) else (if (x132.1.tmod 9) = 8 then ((f80 x132.2).bind fun x201 => f30_j7 s1_1 x132 (x201.2, (x201.1.tmod 8))) else f30_j7 s1_1 x132 (x132.2, 0)))))) else some (.inr s1_1)) else some (.inr s1_1))
noncomputable def f30 (a0 : List Int) : Option (List Step) := ((loopO f30_s1 (a0, [])).bind fun y203 => some y203)
theorem ok30 (a0 : List Int) (r : (List Step)) (h : f30 a0 = some r) : PC Try.prog 30 [.sl (List.map enc5 a0)] (.fr 5 (List.map encStep r)) := by
  rw [f30] at h
  refine pc_of8 (N := 117) (rs := [.tmp 2]) Try.func30 rfl rfl rfl (Nat.le_of_ble_eq_true rfl) ?_
  refine AW.regL [0] ?_
  generalize hK : AW Try.prog _ _ _ = K
  simp only [go_sem, ↓reduceIte, reduceCtorEq, Nat.reduceAdd, Nat.reduceSub, Nat.reduceMul, Nat.reduceEqDiff, Nat.reduceLT, Nat.reduceLeDiff, Nat.reduceBEq, Int.reduceAdd, Int.reduceSub, Int.reduceLT, Int.reduceLE, Int.reduceEq, Int.reduceToNat]
  subst hK
  refine AW.regL [0, 3] ?_
  generalize hK : AW Try.prog _ _ _ = K
  simp only [go_sem, ↓reduceIte, reduceCtorEq, Nat.reduceAdd, Nat.reduceSub, Nat.reduceMul, Nat.reduceEqDiff, Nat.reduceLT, Nat.reduceLeDiff, Nat.reduceBEq, Int.reduceAdd, Int.reduceSub, Int.reduceLT, Int.reduceLE, Int.reduceEq, Int.reduceToNat]
  subst hK
  refine AW.seq ?_
  refine AW.block ?_
  obtain ⟨y203, hy203, h⟩ := Option.bind_eq_some_iff.1 h
  refine AW.loopO (fun s => ⟨(upd (upd anyF 0 (.sl (List.map enc5 s.1))) 3 (.own 8 0 s.2.length)), hpL [] [some (.row 5 true (List.map encStep s.2))], 9⟩) (fun z e st' => e = Exit.exit 0 ∧ st' = ⟨(upd anyF 3 (.own 8 0 z.length)), hpL [] [some (.row 5 true (List.map encStep z))], 9⟩) hy203 ?_ ?_ ?_
  · refine Ent.trans (Ent.nilOwn 3 5 (by decide) rfl) ?_
    refine Ent.can [24] _ _ _ rfl (by first | decide | simp) rfl ?_ ?_ ?_
    · exact ((RF.any.pv (by first | rfl | simp only [go_sem]) (by first | rfl | simp [upd_ap, hpL_ap, tau, mapT, mapTL, bytesI_len])).po (by decide) (by first | rfl | simp [upd_ap, hpL_ap, tau, mapT, mapTL, bytesI_len]))
    · exact .nil _
    · exact .cons (.eq (by first | rfl | simp only [go_sem]) (by first | rfl | simp [upd_ap, hpL_ap, tau, mapT, mapTL, bytesI_len])) (.nil _)
  · clear h hy203
    rintro ⟨s1_0, s1_1⟩ x h
    rw [f30_s1] at h
    refine AW.seq ?_
    by_cases c130 : 0 < (s1_0.length : Int)
    · rw [if_pos c130] at h
      refine AW.regL [0, 3, 17] ?_
      generalize hK : AW Try.prog _ _ _ = K
      simp only [go_sem, ↓reduceIte, reduceCtorEq, Nat.reduceAdd, Nat.reduceSub, Nat.reduceMul, Nat.reduceEqDiff, Nat.reduceLT, Nat.reduceLeDiff, Nat.reduceBEq, Int.reduceAdd, Int.reduceSub, Int.reduceLT, Int.reduceLE, Int.reduceEq, Int.reduceToNat, eq_true c130]
      subst hK
      by_cases c131 : ((s1_1.length : Nat) : Int) < 16384
      · rw [if_pos c131] at h
        refine AW.ifT rfl c131 ?_
        refine AW.skip ?_
        refine thenA_n ?_
        refine AW.block ?_
        obtain ⟨x132, hx132, h⟩ := Option.bind_eq_some_iff.1 h
        refine AW.regL [3, 4, 5] ?_
        generalize hK : AW Try.prog _ _ _ = K
        simp only [go_sem, ↓reduceIte, reduceCtorEq, Nat.reduceAdd, Nat.reduceSub, Nat.reduceMul, Nat.reduceEqDiff, Nat.reduceLT, Nat.reduceLeDiff, Nat.reduceBEq, Int.reduceAdd, Int.reduceSub, Int.reduceLT, Int.reduceLE, Int.reduceEq, Int.reduceToNat, eq_true c130, eq_true c131]
        refine arC.of (ok80 s1_0 x132 hx132) Try.call80 ?_
        simp only [go_sem, ↓reduceIte, reduceCtorEq, Nat.reduceAdd, Nat.reduceSub, Nat.reduceMul, Nat.reduceEqDiff, Nat.reduceLT, Nat.reduceLeDiff, Nat.reduceBEq, Int.reduceAdd, Int.reduceSub, Int.reduceLT, Int.reduceLE, Int.reduceEq, Int.reduceToNat, eq_true c130, eq_true c131]
        subst hK
        refine AW.regL [0, 3, 4] ?_
        generalize hK : AW Try.prog _ _ _ = K
        simp only [go_sem, ↓reduceIte, reduceCtorEq, Nat.reduceAdd, Nat.reduceSub, Nat.reduceMul, Nat.reduceEqDiff, Nat.reduceLT, Nat.reduceLeDiff, Nat.reduceBEq, Int.reduceAdd, Int.reduceSub, Int.reduceLT, Int.reduceLE, Int.reduceEq, Int.reduceToNat, eq_true c130, eq_true c131]
        subst hK
        refine AW.regL [0, 3, 6] ?_
        generalize hK : AW Try.prog _ _ _ = K
        simp only [go_sem, ↓reduceIte, reduceCtorEq, Nat.reduceAdd, Nat.reduceSub, Nat.reduceMul, Nat.reduceEqDiff, Nat.reduceLT, Nat.reduceLeDiff, Nat.reduceBEq, Int.reduceAdd, Int.reduceSub, Int.reduceLT, Int.reduceLE, Int.reduceEq, Int.reduceToNat, eq_true c130, eq_true c131]
        subst hK
        refine AW.join (fun s => ⟨(upd (upd (upd anyF 0 (.sl (List.map enc5 s.1))) 3 (.own 8 0 s1_1.length)) 6 (.ptr 9 0 0)), hpL [] [some (.row 5 true (List.map encStep s1_1)), some (.row 5 true [[.val (.int .i64 (x132.1.tmod 9)), .val (.int .i64 s.2), .val (.int .i64 0), .val (.int .i64 0), .val (.slice none 0 0)]])], 10⟩) (fun s => f30_j7 s1_1 x132 s = some x) ?_ ?_
        · by_cases c194 : (x132.1.tmod 9) = 1
          · rw [if_pos c194] at h
            refine AW.regL [0, 3, 6, 44] ?_
            generalize hK : AW Try.prog _ _ _ = K
            simp only [go_sem, ↓reduceIte, reduceCtorEq, Nat.reduceAdd, Nat.reduceSub, Nat.reduceMul, Nat.reduceEqDiff, Nat.reduceLT, Nat.reduceLeDiff, Nat.reduceBEq, Int.reduceAdd, Int.reduceSub, Int.reduceLT, Int.reduceLE, Int.reduceEq, Int.reduceToNat, eq_true c130, eq_true c131, eq_true c194]
            subst hK
            refine AW.ifBT rfl rfl ?_
            obtain ⟨x195, hx195, h⟩ := Option.bind_eq_some_iff.1 h
            refine AW.regL [0, 3, 4, 6] ?_
            generalize hK : AW Try.prog _ _ _ = K
            simp only [go_sem, ↓reduceIte, reduceCtorEq, Nat.reduceAdd, Nat.reduceSub, Nat.reduceMul, Nat.reduceEqDiff, Nat.reduceLT, Nat.reduceLeDiff, Nat.reduceBEq, Int.reduceAdd, Int.reduceSub, Int.reduceLT, Int.reduceLE, Int.reduceEq, Int.reduceToNat, eq_true c130, eq_true c131, eq_true c194]
            refine arC.of (ok80 x132.2 x195 hx195) Try.call80 ?_
            simp only [go_sem, ↓reduceIte, reduceCtorEq, Nat.reduceAdd, Nat.reduceSub, Nat.reduceMul, Nat.reduceEqDiff, Nat.reduceLT, Nat.reduceLeDiff, Nat.reduceBEq, Int.reduceAdd, Int.reduceSub, Int.reduceLT, Int.reduceLE, Int.reduceEq, Int.reduceToNat, eq_true c130, eq_true c131, eq_true c194]
            subst hK
            refine AW.regionL [0, 3, 6] ?_
            generalize hK : thenA _ _ Exit.normal = K
            simp only [go_sem, ↓reduceIte, reduceCtorEq, Nat.reduceAdd, Nat.reduceSub, Nat.reduceMul, Nat.reduceEqDiff, Nat.reduceLT, Nat.reduceLeDiff, Nat.reduceBEq, Int.reduceAdd, Int.reduceSub, Int.reduceLT, Int.reduceLE, Int.reduceEq, Int.reduceToNat, eq_true c130, eq_true c131, eq_true c194]
            subst hK
            refine thenA_n ?_
            refine ⟨_, h, ?_⟩
            refine Ent.can [8, 169] _ _ _ rfl (by first | decide | simp) rfl ?_ ?_ ?_
            · exact (((RF.any.pv (by first | rfl | simp only [go_sem]) (by first | rfl | simp [upd_ap, hpL_ap, tau, mapT, mapTL, bytesI_len, eq_true c130, eq_true c131, eq_true c194])).po (by decide) (by first | rfl | simp [upd_ap, hpL_ap, tau, mapT, mapTL, bytesI_len, eq_true c130, eq_true c131, eq_true c194])).pp (by decide) (by first | rfl | simp [upd_ap, hpL_ap, tau, mapT, mapTL, bytesI_len, eq_true c130, eq_true c131, eq_true c194]))
            · exact .nil _
            · exact .cons (.eq (by first | rfl | simp only [go_sem]) (by first | rfl | simp [upd_ap, hpL_ap, tau, mapT, mapTL, bytesI_len, eq_true c130, eq_true c131, eq_true c194])) (.cons (.eq (by first | rfl | simp only [go_sem]) (by first | rfl | simp [upd_ap, hpL_ap, tau, mapT, mapTL, bytesI_len, eq_true c130, eq_true c131, eq_true c194])) (.nil _))
          · rw [if_neg c194] at h
            by_cases c196 : (x132.1.tmod 9) = 6
            · rw [if_pos c196] at h
              refine AW.regL [0, 3, 6, 44] ?_
              generalize hK : AW Try.prog _ _ _ = K
              simp only [go_sem, ↓reduceIte, reduceCtorEq, Nat.reduceAdd, Nat.reduceSub, Nat.reduceMul, Nat.reduceEqDiff, Nat.reduceLT, Nat.reduceLeDiff, Nat.reduceBEq, Int.reduceAdd, Int.reduceSub, Int.reduceLT, Int.reduceLE, Int.reduceEq, Int.reduceToNat, eq_true c130, eq_true c131, eq_false c194, eq_true c196]
              subst hK
              refine AW.ifBT rfl rfl ?_
              obtain ⟨x197, hx197, h⟩ := Option.bind_eq_some_iff.1 h
              refine AW.regL [0, 3, 4, 6] ?_
              generalize hK : AW Try.prog _ _ _ = K
              simp only [go_sem, ↓reduceIte, reduceCtorEq, Nat.reduceAdd, Nat.reduceSub, Nat.reduceMul, Nat.reduceEqDiff, Nat.reduceLT, Nat.reduceLeDiff, Nat.reduceBEq, Int.reduceAdd, Int.reduceSub, Int.reduceLT, Int.reduceLE, Int.reduceEq, Int.reduceToNat, eq_true c130, eq_true c131, eq_false c194, eq_true c196]
              refine arC.of (ok80 x132.2 x197 hx197) Try.call80 ?_
              simp only [go_sem, ↓reduceIte, reduceCtorEq, Nat.reduceAdd, Nat.reduceSub, Nat.reduceMul, Nat.reduceEqDiff, Nat.reduceLT, Nat.reduceLeDiff, Nat.reduceBEq, Int.reduceAdd, Int.reduceSub, Int.reduceLT, Int.reduceLE, Int.reduceEq, Int.reduceToNat, eq_true c130, eq_true c131, eq_false c194, eq_true c196]
              subst hK
              refine AW.regionL [0, 3, 6] ?_
              generalize hK : thenA _ _ Exit.normal = K
              simp only [go_sem, ↓reduceIte, reduceCtorEq, Nat.reduceAdd, Nat.reduceSub, Nat.reduceMul, Nat.reduceEqDiff, Nat.reduceLT, Nat.reduceLeDiff, Nat.reduceBEq, Int.reduceAdd, Int.reduceSub, Int.reduceLT, Int.reduceLE, Int.reduceEq, Int.reduceToNat, eq_true c130, eq_true c131, eq_false c194, eq_true c196]
              subst hK
              refine thenA_n ?_
              refine ⟨_, h, ?_⟩
              refine Ent.can [8, 169] _ _ _ rfl (by first | decide | simp) rfl ?_ ?_ ?_
              · exact (((RF.any.pv (by first | rfl | simp only [go_sem]) (by first | rfl | simp [upd_ap, hpL_ap, tau, mapT, mapTL, bytesI_len, eq_true c130, eq_true c131, eq_false c194, eq_true c196])).po (by decide) (by first | rfl | simp [upd_ap, hpL_ap, tau, mapT, mapTL, bytesI_len, eq_true c130, eq_true c131, eq_false c194, eq_true c196])).pp (by decide) (by first | rfl | simp [upd_ap, hpL_ap, tau, mapT, mapTL, bytesI_len, eq_true c130, eq_true c131, eq_false c194, eq_true c196]))
              · exact .nil _
              · exact .cons (.eq (by first | rfl | simp only [go_sem]) (by first | rfl | simp [upd_ap, hpL_ap, tau, mapT, mapTL, bytesI_len, eq_true c130, eq_true c131, eq_false c194, eq_true c196])) (.cons (.eq (by first | rfl | simp only [go_sem]) (by first | rfl | simp [upd_ap, hpL_ap, tau, mapT, mapTL, bytesI_len, eq_true c130, eq_true c131, eq_false c194, eq_true c196])) (.nil _))
            · rw [if_neg c196] at h
              by_cases c198 : (x132.1.tmod 9) = 7
              · rw [if_pos c198] at h
                refine AW.regL [0, 3, 6, 44] ?_
                generalize hK : AW Try.prog _ _ _ = K
                simp only [go_sem, ↓reduceIte, reduceCtorEq, Nat.reduceAdd, Nat.reduceSub, Nat.reduceMul, Nat.reduceEqDiff, Nat.reduceLT, Nat.reduceLeDiff, Nat.reduceBEq, Int.reduceAdd, Int.reduceSub, Int.reduceLT, Int.reduceLE, Int.reduceEq, Int.reduceToNat, eq_true c130, eq_true c131, eq_false c194, eq_false c196, eq_true c198]
                subst hK
                refine AW.ifBT rfl rfl ?_
                obtain ⟨x199, hx199, h⟩ := Option.bind_eq_some_iff.1 h
                refine AW.regL [0, 3, 4, 6] ?_
                generalize hK : AW Try.prog _ _ _ = K
                simp only [go_sem, ↓reduceIte, reduceCtorEq, Nat.reduceAdd, Nat.reduceSub, Nat.reduceMul, Nat.reduceEqDiff, Nat.reduceLT, Nat.reduceLeDiff, Nat.reduceBEq, Int.reduceAdd, Int.reduceSub, Int.reduceLT, Int.reduceLE, Int.reduceEq, Int.reduceToNat, eq_true c130, eq_true c131, eq_false c194, eq_false c196, eq_true c198]
                refine arC.of (ok80 x132.2 x199 hx199) Try.call80 ?_
                simp only [go_sem, ↓reduceIte, reduceCtorEq, Nat.reduceAdd, Nat.reduceSub, Nat.reduceMul, Nat.reduceEqDiff, Nat.reduceLT, Nat.reduceLeDiff, Nat.reduceBEq, Int.reduceAdd, Int.reduceSub, Int.reduceLT, Int.reduceLE, Int.reduceEq, Int.reduceToNat, eq_true c130, eq_true c131, eq_false c194, eq_false c196, eq_true c198]
                subst hK
                refine AW.regionL [0, 3, 6] ?_
                generalize hK : thenA _ _ Exit.normal = K
                simp only [go_sem, ↓reduceIte, reduceCtorEq, Nat.reduceAdd, Nat.reduceSub, Nat.reduceMul, Nat.reduceEqDiff, Nat.reduceLT, Nat.reduceLeDiff, Nat.reduceBEq, Int.reduceAdd, Int.reduceSub, Int.reduceLT, Int.reduceLE, Int.reduceEq, Int.reduceToNat, eq_true c130, eq_true c131, eq_false c194, eq_false c196, eq_true c198]
                subst hK
                refine thenA_n ?_
                refine ⟨_, h, ?_⟩
                refine Ent.can [8, 169] _ _ _ rfl (by first | decide | simp) rfl ?_ ?_ ?_
                · exact (((RF.any.pv (by first | rfl | simp only [go_sem]) (by first | rfl | simp [upd_ap, hpL_ap, tau, mapT, mapTL, bytesI_len, eq_true c130, eq_true c131, eq_false c194, eq_false c196, eq_true c198])).po (by decide) (by first | rfl | simp [upd_ap, hpL_ap, tau, mapT, mapTL, bytesI_len, eq_true c130, eq_true c131, eq_false c194, eq_false c196, eq_true c198])).pp (by decide) (by first | rfl | simp [upd_ap, hpL_ap, tau, mapT, mapTL, bytesI_len, eq_true c130, eq_true c131, eq_false c194, eq_false c196, eq_true c198]))
                · exact .nil _
                · exact .cons (.eq (by first | rfl | simp only [go_sem]) (by first | rfl | simp [upd_ap, hpL_ap, tau, mapT, mapTL, bytesI_len, eq_true c130, eq_true c131, eq_false c194, eq_false c196, eq_true c198])) (.cons (.eq (by first | rfl | simp only [go_sem]) (by first | rfl | simp [upd_ap, hpL_ap, tau, mapT, mapTL, bytesI_len, eq_true c130, eq_true c131, eq_false c194, eq_false c196, eq_true c198])) (.nil _))
              · rw [if_neg c198] at h
                refine AW.regL [0, 3, 6, 44] ?_
                generalize hK : AW Try.prog _ _ _ = K
                simp only [go_sem, ↓reduceIte, reduceCtorEq, Nat.reduceAdd, Nat.reduceSub, Nat.reduceMul, Nat.reduceEqDiff, Nat.reduceLT, Nat.reduceLeDiff, Nat.reduceBEq, Int.reduceAdd, Int.reduceSub, Int.reduceLT, Int.reduceLE, Int.reduceEq, Int.reduceToNat, eq_true c130, eq_true c131, eq_false c194, eq_false c196, eq_false c198]
                subst hK
                by_cases c200 : (x132.1.tmod 9) = 8
                · rw [if_pos c200] at h
                  refine AW.ifT rfl c200 ?_
                  obtain ⟨x201, hx201, h⟩ := Option.bind_eq_some_iff.1 h
                  refine AW.regL [0, 3, 4, 6] ?_
                  generalize hK : AW Try.prog _ _ _ = K
                  simp only [go_sem, ↓reduceIte, reduceCtorEq, Nat.reduceAdd, Nat.reduceSub, Nat.reduceMul, Nat.reduceEqDiff, Nat.reduceLT, Nat.reduceLeDiff, Nat.reduceBEq, Int.reduceAdd, Int.reduceSub, Int.reduceLT, Int.reduceLE, Int.reduceEq, Int.reduceToNat, eq_true c130, eq_true c131, eq_false c194, eq_false c196, eq_false c198, eq_true c200]
                  refine arC.of (ok80 x132.2 x201 hx201) Try.call80 ?_
                  simp only [go_sem, ↓reduceIte, reduceCtorEq, Nat.reduceAdd, Nat.reduceSub, Nat.reduceMul, Nat.reduceEqDiff, Nat.reduceLT, Nat.reduceLeDiff, Nat.reduceBEq, Int.reduceAdd, Int.reduceSub, Int.reduceLT, Int.reduceLE, Int.reduceEq, Int.reduceToNat, eq_true c130, eq_true c131, eq_false c194, eq_false c196, eq_false c198, eq_true c200]
                  subst hK
                  refine AW.regionL [0, 3, 6] ?_
                  generalize hK : thenA _ _ Exit.normal = K
                  simp only [go_sem, ↓reduceIte, reduceCtorEq, Nat.reduceAdd, Nat.reduceSub, Nat.reduceMul, Nat.reduceEqDiff, Nat.reduceLT, Nat.reduceLeDiff, Nat.reduceBEq, Int.reduceAdd, Int.reduceSub, Int.reduceLT, Int.reduceLE, Int.reduceEq, Int.reduceToNat, eq_true c130, eq_true c131, eq_false c194, eq_false c196, eq_false c198, eq_true c200]
                  subst hK
                  refine thenA_n ?_
                  refine ⟨_, h, ?_⟩
                  refine Ent.can [8, 169] _ _ _ rfl (by first | decide | simp) rfl ?_ ?_ ?_
                  · exact (((RF.any.pv (by first | rfl | simp only [go_sem]) (by first | rfl | simp [upd_ap, hpL_ap, tau, mapT, mapTL, bytesI_len, eq_true c130, eq_true c131, eq_false c194, eq_false c196, eq_false c198, eq_true c200])).po (by decide) (by first | rfl | simp [upd_ap, hpL_ap, tau, mapT, mapTL, bytesI_len, eq_true c130, eq_true c131, eq_false c194, eq_false c196, eq_false c198, eq_true c200])).pp (by decide) (by first | rfl | simp [upd_ap, hpL_ap, tau, mapT, mapTL, bytesI_len, eq_true c130, eq_true c131, eq_false c194, eq_false c196, eq_false c198, eq_true c200]))
                  · exact .nil _
                  · exact .cons (.eq (by first | rfl | simp only [go_sem]) (by first | rfl | simp [upd_ap, hpL_ap, tau, mapT, mapTL, bytesI_len, eq_true c130, eq_true c131, eq_false c194, eq_false c196, eq_false c198, eq_true c200])) (.cons (.eq (by first | rfl | simp only [go_sem]) (by first | rfl | simp [upd_ap, hpL_ap, tau, mapT, mapTL, bytesI_len, eq_true c130, eq_true c131, eq_false c194, eq_false c196, eq_false c198, eq_true c200])) (.nil _))
                · rw [if_neg c200] at h
                  refine AW.ifF rfl c200 ?_
                  refine AW.skip ?_
                  refine thenA_n ?_
                  refine ⟨_, h, ?_⟩
                  refine Ent.can [8, 169] _ _ _ rfl (by first | decide | simp) rfl ?_ ?_ ?_
                  · exact (((RF.any.pv (by first | rfl | simp only [go_sem]) (by first | rfl | simp [upd_ap, hpL_ap, tau, mapT, mapTL, bytesI_len, eq_true c130, eq_true c131, eq_false c194, eq_false c196, eq_false c198, eq_false c200])).po (by decide) (by first | rfl | simp [upd_ap, hpL_ap, tau, mapT, mapTL, bytesI_len, eq_true c130, eq_true c131, eq_false c194, eq_false c196, eq_false c198, eq_false c200])).pp (by decide) (by first | rfl | simp [upd_ap, hpL_ap, tau, mapT, mapTL, bytesI_len, eq_true c130, eq_true c131, eq_false c194, eq_false c196, eq_false c198, eq_false c200]))
                  · exact .nil _
                  · exact .cons (.eq (by first | rfl | simp only [go_sem]) (by first | rfl | simp [upd_ap, hpL_ap, tau, mapT, mapTL, bytesI_len, eq_true c130, eq_true c131, eq_false c194, eq_false c196, eq_false c198, eq_false c200])) (.cons (.eq (by first | rfl | simp only [go_sem]) (by first | rfl | simp [upd_ap, hpL_ap, tau, mapT, mapTL, bytesI_len, eq_true c130, eq_true c131, eq_false c194, eq_false c196, eq_false c198, eq_false c200])) (.nil _))
        · clear h
          rintro ⟨j7_0, j7_1⟩ h
          rw [f30_j7] at h
          refine AW.join (fun s => ⟨(upd (upd (upd anyF 0 (.sl (List.map enc5 s.1))) 3 (.own 8 0 s1_1.length)) 6 (.ptr 9 0 0)), hpL [] [some (.row 5 true (List.map encStep s1_1)), some (.row 5 true [[.val (.int .i64 (x132.1.tmod 9)), .val (.int .i64 j7_1), .val (.int .i64 s.2), .val (.int .i64 0), .val (.slice none 0 0)]])], 10⟩) (fun s => f30_j8 s1_1 x132 j7_1 s = some x) ?_ ?_
          · by_cases c187 : 2 ≤ (x132.1.tmod 9)
            · rw [if_pos c187] at h
              by_cases c188 : (x132.1.tmod 9) ≤ 5
              · rw [if_pos c188] at h
                refine AW.regL [0, 3, 6, 65] ?_
                generalize hK : AW Try.prog _ _ _ = K
                simp only [go_sem, ↓reduceIte, reduceCtorEq, Nat.reduceAdd, Nat.reduceSub, Nat.reduceMul, Nat.reduceEqDiff, Nat.reduceLT, Nat.reduceLeDiff, Nat.reduceBEq, Int.reduceAdd, Int.reduceSub, Int.reduceLT, Int.reduceLE, Int.reduceEq, Int.reduceToNat, eq_true c130, eq_true c131, eq_true c187, eq_true c188]
                subst hK
                refine AW.ifBT rfl rfl ?_
                obtain ⟨x189, hx189, h⟩ := Option.bind_eq_some_iff.1 h
                refine AW.regionL [0, 3, 6] ?_
                generalize hK : thenA _ _ Exit.normal = K
                simp only [go_sem, ↓reduceIte, reduceCtorEq, Nat.reduceAdd, Nat.reduceSub, Nat.reduceMul, Nat.reduceEqDiff, Nat.reduceLT, Nat.reduceLeDiff, Nat.reduceBEq, Int.reduceAdd, Int.reduceSub, Int.reduceLT, Int.reduceLE, Int.reduceEq, Int.reduceToNat, eq_true c130, eq_true c131, eq_true c187, eq_true c188]
                refine arC.of (ok80 j7_0 x189 hx189) Try.call80 ?_
                simp only [go_sem, ↓reduceIte, reduceCtorEq, Nat.reduceAdd, Nat.reduceSub, Nat.reduceMul, Nat.reduceEqDiff, Nat.reduceLT, Nat.reduceLeDiff, Nat.reduceBEq, Int.reduceAdd, Int.reduceSub, Int.reduceLT, Int.reduceLE, Int.reduceEq, Int.reduceToNat, eq_true c130, eq_true c131, eq_true c187, eq_true c188]
                subst hK
                refine thenA_n ?_
                refine ⟨_, h, ?_⟩
                refine Ent.can [8, 9] _ _ _ rfl (by first | decide | simp) rfl ?_ ?_ ?_
                · exact (((RF.any.pv (by first | rfl | simp only [go_sem]) (by first | rfl | simp [upd_ap, hpL_ap, tau, mapT, mapTL, bytesI_len, eq_true c130, eq_true c131, eq_true c187, eq_true c188])).po (by decide) (by first | rfl | simp [upd_ap, hpL_ap, tau, mapT, mapTL, bytesI_len, eq_true c130, eq_true c131, eq_true c187, eq_true c188])).pp (by decide) (by first | rfl | simp [upd_ap, hpL_ap, tau, mapT, mapTL, bytesI_len, eq_true c130, eq_true c131, eq_true c187, eq_true c188]))
                · exact .nil _
                · exact .cons (.eq (by first | rfl | simp only [go_sem]) (by first | rfl | simp [upd_ap, hpL_ap, tau, mapT, mapTL, bytesI_len, eq_true c130, eq_true c131, eq_true c187, eq_true c188])) (.cons (.eq (by first | rfl | simp only [go_sem]) (by first | rfl | simp [upd_ap, hpL_ap, tau, mapT, mapTL, bytesI_len, eq_true c130, eq_true c131, eq_true c187, eq_true c188])) (.nil _))
              · rw [if_neg c188] at h
                refine AW.regL [0, 3, 6, 65] ?_
                generalize hK : AW Try.prog _ _ _ = K
                simp only [go_sem, ↓reduceIte, reduceCtorEq, Nat.reduceAdd, Nat.reduceSub, Nat.reduceMul, Nat.reduceEqDiff, Nat.reduceLT, Nat.reduceLeDiff, Nat.reduceBEq, Int.reduceAdd, Int.reduceSub, Int.reduceLT, Int.reduceLE, Int.reduceEq, Int.reduceToNat, eq_true c130, eq_true c131, eq_true c187, eq_false c188]
                subst hK
                by_cases c190 : (x132.1.tmod 9) = 8
                · rw [if_pos c190] at h
                  refine AW.ifT rfl c190 ?_
                  obtain ⟨x191, hx191, h⟩ := Option.bind_eq_some_iff.1 h
                  refine AW.regionL [0, 3, 6] ?_
                  generalize hK : thenA _ _ Exit.normal = K
                  simp only [go_sem, ↓reduceIte, reduceCtorEq, Nat.reduceAdd, Nat.reduceSub, Nat.reduceMul, Nat.reduceEqDiff, Nat.reduceLT, Nat.reduceLeDiff, Nat.reduceBEq, Int.reduceAdd, Int.reduceSub, Int.reduceLT, Int.reduceLE, Int.reduceEq, Int.reduceToNat, eq_true c130, eq_true c131, eq_true c187, eq_false c188, eq_true c190]
                  refine arC.of (ok80 j7_0 x191 hx191) Try.call80 ?_
                  simp only [go_sem, ↓reduceIte, reduceCtorEq, Nat.reduceAdd, Nat.reduceSub, Nat.reduceMul, Nat.reduceEqDiff, Nat.reduceLT, Nat.reduceLeDiff, Nat.reduceBEq, Int.reduceAdd, Int.reduceSub, Int.reduceLT, Int.reduceLE, Int.reduceEq, Int.reduceToNat, eq_true c130, eq_true c131, eq_true c187, eq_false c188, eq_true c190]
                  subst hK
                  refine thenA_n ?_
                  refine ⟨_, h, ?_⟩
                  refine Ent.can [8, 9] _ _ _ rfl (by first | decide | simp) rfl ?_ ?_ ?_
                  · exact (((RF.any.pv (by first | rfl | simp only [go_sem]) (by first | rfl | simp [upd_ap, hpL_ap, tau, mapT, mapTL, bytesI_len, eq_true c130, eq_true c131, eq_true c187, eq_false c188, eq_true c190])).po (by decide) (by first | rfl | simp [upd_ap, hpL_ap, tau, mapT, mapTL, bytesI_len, eq_true c130, eq_true c131, eq_true c187, eq_false c188, eq_true c190])).pp (by decide) (by first | rfl | simp [upd_ap, hpL_ap, tau, mapT, mapTL, bytesI_len, eq_true c130, eq_true c131, eq_true c187, eq_false c188, eq_true c190]))
                  · exact .nil _
                  · exact .cons (.eq (by first | rfl | simp only [go_sem]) (by first | rfl | simp [upd_ap, hpL_ap, tau, mapT, mapTL, bytesI_len, eq_true c130, eq_true c131, eq_true c187, eq_false c188, eq_true c190])) (.cons (.eq (by first | rfl | simp only [go_sem]) (by first | rfl | simp [upd_ap, hpL_ap, tau, mapT, mapTL, bytesI_len, eq_true c130, eq_true c131, eq_true c187, eq_false c188, eq_true c190])) (.nil _))
                · rw [if_neg c190] at h
                  refine AW.ifF rfl c190 ?_
                  refine AW.skip ?_
                  refine thenA_n ?_
                  refine ⟨_, h, ?_⟩
                  refine Ent.can [8, 9] _ _ _ rfl (by first | decide | simp) rfl ?_ ?_ ?_
                  · exact (((RF.any.pv (by first | rfl | simp only [go_sem]) (by first | rfl | simp [upd_ap, hpL_ap, tau, mapT, mapTL, bytesI_len, eq_true c130, eq_true c131, eq_true c187, eq_false c188, eq_false c190])).po (by decide) (by first | rfl | simp [upd_ap, hpL_ap, tau, mapT, mapTL, bytesI_len, eq_true c130, eq_true c131, eq_true c187, eq_false c188, eq_false c190])).pp (by decide) (by first | rfl | simp [upd_ap, hpL_ap, tau, mapT, mapTL, bytesI_len, eq_true c130, eq_true c131, eq_true c187, eq_false c188, eq_false c190]))
                  · exact .nil _
                  · exact .cons (.eq (by first | rfl | simp only [go_sem]) (by first | rfl | simp [upd_ap, hpL_ap, tau, mapT, mapTL, bytesI_len, eq_true c130, eq_true c131, eq_true c187, eq_false c188, eq_false c190])) (.cons (.eq (by first | rfl | simp only [go_sem]) (by first | rfl | simp [upd_ap, hpL_ap, tau, mapT, mapTL, bytesI_len, eq_true c130, eq_true c131, eq_true c187, eq_false c188, eq_false c190])) (.nil _))
            · rw [if_neg c187] at h
              refine AW.regL [0, 3, 6, 65] ?_
              generalize hK : AW Try.prog _ _ _ = K
              simp only [go_sem, ↓reduceIte, reduceCtorEq, Nat.reduceAdd, Nat.reduceSub, Nat.reduceMul, Nat.reduceEqDiff, Nat.reduceLT, Nat.reduceLeDiff, Nat.reduceBEq, Int.reduceAdd, Int.reduceSub, Int.reduceLT, Int.reduceLE, Int.reduceEq, Int.reduceToNat, eq_true c130, eq_true c131, eq_false c187]
              subst hK
              by_cases c192 : (x132.1.tmod 9) = 8
              · rw [if_pos c192] at h
                refine AW.ifT rfl c192 ?_
                obtain ⟨x193, hx193, h⟩ := Option.bind_eq_some_iff.1 h
                refine AW.regionL [0, 3, 6] ?_
                generalize hK : thenA _ _ Exit.normal = K
                simp only [go_sem, ↓reduceIte, reduceCtorEq, Nat.reduceAdd, Nat.reduceSub, Nat.reduceMul, Nat.reduceEqDiff, Nat.reduceLT, Nat.reduceLeDiff, Nat.reduceBEq, Int.reduceAdd, Int.reduceSub, Int.reduceLT, Int.reduceLE, Int.reduceEq, Int.reduceToNat, eq_true c130, eq_true c131, eq_false c187, eq_true c192]
                refine arC.of (ok80 j7_0 x193 hx193) Try.call80 ?_
                simp only [go_sem, ↓reduceIte, reduceCtorEq, Nat.reduceAdd, Nat.reduceSub, Nat.reduceMul, Nat.reduceEqDiff, Nat.reduceLT, Nat.reduceLeDiff, Nat.reduceBEq, Int.reduceAdd, Int.reduceSub, Int.reduceLT, Int.reduceLE, Int.reduceEq, Int.reduceToNat, eq_true c130, eq_true c131, eq_false c187, eq_true c192]
                subst hK
                refine thenA_n ?_
                refine ⟨_, h, ?_⟩
                refine Ent.can [8, 9] _ _ _ rfl (by first | decide | simp) rfl ?_ ?_ ?_
                · exact (((RF.any.pv (by first | rfl | simp only [go_sem]) (by first | rfl | simp [upd_ap, hpL_ap, tau, mapT, mapTL, bytesI_len, eq_true c130, eq_true c131, eq_false c187, eq_true c192])).po (by decide) (by first | rfl | simp [upd_ap, hpL_ap, tau, mapT, mapTL, bytesI_len, eq_true c130, eq_true c131, eq_false c187, eq_true c192])).pp (by decide) (by first | rfl | simp [upd_ap, hpL_ap, tau, mapT, mapTL, bytesI_len, eq_true c130, eq_true c131, eq_false c187, eq_true c192]))
                · exact .nil _
                · exact .cons (.eq (by first | rfl | simp only [go_sem]) (by first | rfl | simp [upd_ap, hpL_ap, tau, mapT, mapTL, bytesI_len, eq_true c130, eq_true c131, eq_false c187, eq_true c192])) (.cons (.eq (by first | rfl | simp only [go_sem]) (by first | rfl | simp [upd_ap, hpL_ap, tau, mapT, mapTL, bytesI_len, eq_true c130, eq_true c131, eq_false c187, eq_true c192])) (.nil _))
              · rw [if_neg c192] at h
                refine AW.ifF rfl c192 ?_
                refine AW.skip ?_
                refine thenA_n ?_
                refine ⟨_, h, ?_⟩
                refine Ent.can [8, 9] _ _ _ rfl (by first | decide | simp) rfl ?_ ?_ ?_
                · exact (((RF.any.pv (by first | rfl | simp only [go_sem]) (by first | rfl | simp [upd_ap, hpL_ap, tau, mapT, mapTL, bytesI_len, eq_true c130, eq_true c131, eq_false c187, eq_false c192])).po (by decide) (by first | rfl | simp [upd_ap, hpL_ap, tau, mapT, mapTL, bytesI_len, eq_true c130, eq_true c131, eq_false c187, eq_false c192])).pp (by decide) (by first | rfl | simp [upd_ap, hpL_ap, tau, mapT, mapTL, bytesI_len, eq_true c130, eq_true c131, eq_false c187, eq_false c192]))
                · exact .nil _
                · exact .cons (.eq (by first | rfl | simp only [go_sem]) (by first | rfl | simp [upd_ap, hpL_ap, tau, mapT, mapTL, bytesI_len, eq_true c130, eq_true c131, eq_false c187, eq_false c192])) (.cons (.eq (by first | rfl | simp only [go_sem]) (by first | rfl | simp [upd_ap, hpL_ap, tau, mapT, mapTL, bytesI_len, eq_true c130, eq_true c131, eq_false c187, eq_false c192])) (.nil _))
          · clear h
            rintro ⟨j8_0, j8_1⟩ h
            rw [f30_j8] at h
            refine AW.join (fun s => ⟨(upd (upd (upd anyF 0 (.sl (List.map enc5 s.1))) 3 (.own 8 0 s1_1.length)) 6 (.ptr 9 0 0)), hpL [] [some (.row 5 true (List.map encStep s1_1)), some (.row 5 true [[.val (.int .i64 (x132.1.tmod 9)), .val (.int .i64 j7_1), .val (.int .i64 j8_1), .val (.int .i64 s.2), .val (.slice none 0 0)]])], 10⟩) (fun s => f30_j9 s1_1 x132 j7_1 j8_1 s = some x) ?_ ?_
            · refine AW.regL [0, 3, 6, 74] ?_
              generalize hK : AW Try.prog _ _ _ = K
              simp only [go_sem, ↓reduceIte, reduceCtorEq, Nat.reduceAdd, Nat.reduceSub, Nat.reduceMul, Nat.reduceEqDiff, Nat.reduceLT, Nat.reduceLeDiff, Nat.reduceBEq, Int.reduceAdd, Int.reduceSub, Int.reduceLT, Int.reduceLE, Int.reduceEq, Int.reduceToNat, eq_true c130, eq_true c131]
              subst hK
              by_cases c185 : (x132.1.tmod 9) = 5
              · rw [if_pos c185] at h
                refine AW.ifT rfl c185 ?_
                obtain ⟨x186, hx186, h⟩ := Option.bind_eq_some_iff.1 h
                refine AW.regionL [0, 3, 6] ?_
                generalize hK : thenA _ _ Exit.normal = K
                simp only [go_sem, ↓reduceIte, reduceCtorEq, Nat.reduceAdd, Nat.reduceSub, Nat.reduceMul, Nat.reduceEqDiff, Nat.reduceLT, Nat.reduceLeDiff, Nat.reduceBEq, Int.reduceAdd, Int.reduceSub, Int.reduceLT, Int.reduceLE, Int.reduceEq, Int.reduceToNat, eq_true c130, eq_true c131, eq_true c185]
                refine arC.of (ok80 j8_0 x186 hx186) Try.call80 ?_
                simp only [go_sem, ↓reduceIte, reduceCtorEq, Nat.reduceAdd, Nat.reduceSub, Nat.reduceMul, Nat.reduceEqDiff, Nat.reduceLT, Nat.reduceLeDiff, Nat.reduceBEq, Int.reduceAdd, Int.reduceSub, Int.reduceLT, Int.reduceLE, Int.reduceEq, Int.reduceToNat, eq_true c130, eq_true c131, eq_true c185]
                subst hK
                refine thenA_n ?_
                refine ⟨_, h, ?_⟩
                refine Ent.can [8, 9] _ _ _ rfl (by first | decide | simp) rfl ?_ ?_ ?_
                · exact (((RF.any.pv (by first | rfl | simp only [go_sem]) (by first | rfl | simp [upd_ap, hpL_ap, tau, mapT, mapTL, bytesI_len, eq_true c130, eq_true c131, eq_true c185])).po (by decide) (by first | rfl | simp [upd_ap, hpL_ap, tau, mapT, mapTL, bytesI_len, eq_true c130, eq_true c131, eq_true c185])).pp (by decide) (by first | rfl | simp [upd_ap, hpL_ap, tau, mapT, mapTL, bytesI_len, eq_true c130, eq_true c131, eq_true c185]))
                · exact .nil _
                · exact .cons (.eq (by first | rfl | simp only [go_sem]) (by first | rfl | simp [upd_ap, hpL_ap, tau, mapT, mapTL, bytesI_len, eq_true c130, eq_true c131, eq_true c185])) (.cons (.eq (by first | rfl | simp only [go_sem]) (by first | rfl | simp [upd_ap, hpL_ap, tau, mapT, mapTL, bytesI_len, eq_true c130, eq_true c131, eq_true c185])) (.nil _))
              · rw [if_neg c185] at h
                refine AW.ifF rfl c185 ?_
                refine AW.skip ?_
                refine thenA_n ?_
                refine ⟨_, h, ?_⟩
                refine Ent.can [8, 9] _ _ _ rfl (by first | decide | simp) rfl ?_ ?_ ?_
                · exact (((RF.any.pv (by first | rfl | simp only [go_sem]) (by first | rfl | simp [upd_ap, hpL_ap, tau, mapT, mapTL, bytesI_len, eq_true c130, eq_true c131, eq_false c185])).po (by decide) (by first | rfl | simp [upd_ap, hpL_ap, tau, mapT, mapTL, bytesI_len, eq_true c130, eq_true c131, eq_false c185])).pp (by decide) (by first | rfl | simp [upd_ap, hpL_ap, tau, mapT, mapTL, bytesI_len, eq_true c130, eq_true c131, eq_false c185]))
                · exact .nil _
                · exact .cons (.eq (by first | rfl | simp only [go_sem]) (by first | rfl | simp [upd_ap, hpL_ap, tau, mapT, mapTL, bytesI_len, eq_true c130, eq_true c131, eq_false c185])) (.cons (.eq (by first | rfl | simp only [go_sem]) (by first | rfl | simp [upd_ap, hpL_ap, tau, mapT, mapTL, bytesI_len, eq_true c130, eq_true c131, eq_false c185])) (.nil _))
            · clear h
              rintro ⟨j9_0, j9_1⟩ h
              rw [f30_j9] at h
              refine AW.seq ?_
              by_cases c150 : (x132.1.tmod 9) = 6
              · rw [if_pos c150] at h
                refine AW.regL [0, 3, 6, 88] ?_
                generalize hK : AW Try.prog _ _ _ = K
                simp only [go_sem, ↓reduceIte, reduceCtorEq, Nat.reduceAdd, Nat.reduceSub, Nat.reduceMul, Nat.reduceEqDiff, Nat.reduceLT, Nat.reduceLeDiff, Nat.reduceBEq, Int.reduceAdd, Int.reduceSub, Int.reduceLT, Int.reduceLE, Int.reduceEq, Int.reduceToNat, eq_true c130, eq_true c131, eq_true c150]
                subst hK
                refine AW.ifBT rfl rfl ?_
                obtain ⟨x151, hx151, h⟩ := Option.bind_eq_some_iff.1 h
                refine AW.regL [0, 3, 4, 6] ?_
                generalize hK : AW Try.prog _ _ _ = K
                simp only [go_sem, ↓reduceIte, reduceCtorEq, Nat.reduceAdd, Nat.reduceSub, Nat.reduceMul, Nat.reduceEqDiff, Nat.reduceLT, Nat.reduceLeDiff, Nat.reduceBEq, Int.reduceAdd, Int.reduceSub, Int.reduceLT, Int.reduceLE, Int.reduceEq, Int.reduceToNat, eq_true c130, eq_true c131, eq_true c150]
                refine arC.of (ok80 j9_0 x151 hx151) Try.call80 ?_
                simp only [go_sem, ↓reduceIte, reduceCtorEq, Nat.reduceAdd, Nat.reduceSub, Nat.reduceMul, Nat.reduceEqDiff, Nat.reduceLT, Nat.reduceLeDiff, Nat.reduceBEq, Int.reduceAdd, Int.reduceSub, Int.reduceLT, Int.reduceLE, Int.reduceEq, Int.reduceToNat, eq_true c130, eq_true c131, eq_true c150]
                subst hK
                refine AW.regL [0, 3, 4, 6, 7] ?_
                generalize hK : AW Try.prog _ _ _ = K
                simp only [go_sem, ↓reduceIte, reduceCtorEq, Nat.reduceAdd, Nat.reduceSub, Nat.reduceMul, Nat.reduceEqDiff, Nat.reduceLT, Nat.reduceLeDiff, Nat.reduceBEq, Int.reduceAdd, Int.reduceSub, Int.reduceLT, Int.reduceLE, Int.reduceEq, Int.reduceToNat, eq_true c130, eq_true c131, eq_true c150]
                subst hK
                refine AW.block ?_
                obtain ⟨y163, hy163, h⟩ := Option.bind_eq_some_iff.1 h
                refine AW.loopO (fun s => ⟨(upd (upd (upd (upd (upd anyF 0 (.sl (List.map enc5 s.1))) 3 (.own 8 0 s1_1.length)) 4 (.val (.int .i64 x151.1))) 6 (.ptr 9 0 0)) 7 (.val (.int .i64 s.2.2))), hpL [] [some (.row 5 true (List.map encStep s1_1)), some (.row 5 true [[.val (.int .i64 (x132.1.tmod 9)), .val (.int .i64 j7_1), .val (.int .i64 j8_1), .val (.int .i64 j9_1), .own 10 0 s.2.1.length]]), some (.row 1 true (List.map enc3 s.2.1))], 11⟩) (fun z e st' => e = Exit.exit 2 ∧ st' = ⟨(upd (upd (upd anyF 0 (.sl (List.map enc5 z.1))) 3 (.own 8 0 s1_1.length)) 6 (.ptr 9 0 0)), hpL [] [some (.row 5 true (List.map encStep s1_1)), some (.row 5 true [[.val (.int .i64 (x132.1.tmod 9)), .val (.int .i64 j7_1), .val (.int .i64 j8_1), .val (.int .i64 j9_1), .own 10 0 z.2.length]]), some (.row 1 true (List.map enc3 z.2))], 11⟩) hy163 ?_ ?_ ?_
                · refine Ent.trans (Ent.nilCell 9 4 1 (by decide) (by first | rfl | simp [upd_ap]) rfl) ?_
                  refine Ent.can [8, 9, 138] _ _ _ rfl (by first | decide | simp) rfl ?_ ?_ ?_
                  · exact (((((RF.any.pv (by first | rfl | simp only [go_sem]) (by first | rfl | simp [upd_ap, hpL_ap, tau, mapT, mapTL, bytesI_len, eq_true c130, eq_true c131, eq_true c150])).po (by decide) (by first | rfl | simp [upd_ap, hpL_ap, tau, mapT, mapTL, bytesI_len, eq_true c130, eq_true c131, eq_true c150])).pv (by first | rfl | simp only [go_sem]) (by first | rfl | simp [upd_ap, hpL_ap, tau, mapT, mapTL, bytesI_len, eq_true c130, eq_true c131, eq_true c150])).pp (by decide) (by first | rfl | simp [upd_ap, hpL_ap, tau, mapT, mapTL, bytesI_len, eq_true c130, eq_true c131, eq_true c150])).pv (by first | rfl | simp only [go_sem]) (by first | rfl | simp [upd_ap, hpL_ap, tau, mapT, mapTL, bytesI_len, eq_true c130, eq_true c131, eq_true c150]))
                  · exact .nil _
                  · exact .cons (.eq (by first | rfl | simp only [go_sem]) (by first | rfl | simp [upd_ap, hpL_ap, tau, mapT, mapTL, bytesI_len, eq_true c130, eq_true c131, eq_true c150])) (.cons (.tok (by simp [tokL, tokLL, inlR]) (by first | rfl | simp [upd_ap, hpL_ap, tau, mapT, mapTL, bytesI_len, eq_true c130, eq_true c131, eq_true c150])) (.cons (.eq (by first | rfl | simp only [go_sem]) (by first | rfl | simp [upd_ap, hpL_ap, tau, mapT, mapTL, bytesI_len, eq_true c130, eq_true c131, eq_true c150])) (.nil _)))
                · clear h hy163
                  rintro ⟨s6_0, s6_1, s6_2⟩ x h
                  rw [f30_s6] at h
                  refine AW.seq ?_
                  refine AW.regL [0, 3, 4, 6, 7, 97] ?_
                  generalize hK : AW Try.prog _ _ _ = K
                  simp only [go_sem, ↓reduceIte, reduceCtorEq, Nat.reduceAdd, Nat.reduceSub, Nat.reduceMul, Nat.reduceEqDiff, Nat.reduceLT, Nat.reduceLeDiff, Nat.reduceBEq, Int.reduceAdd, Int.reduceSub, Int.reduceLT, Int.reduceLE, Int.reduceEq, Int.reduceToNat, eq_true c130, eq_true c131, eq_true c150]
                  subst hK
                  by_cases c160 : s6_2 < (x151.1.tmod 4)
                  · rw [if_pos c160] at h
                    refine AW.ifT rfl c160 ?_
                    refine AW.skip ?_
                    refine thenA_n ?_
                    refine AW.seq ?_
                    refine AW.block ?_
                    obtain ⟨x161, hx161, h⟩ := Option.bind_eq_some_iff.1 h
                    refine AW.regL [3, 4, 6, 7, 8, 9] ?_
                    generalize hK : AW Try.prog _ _ _ = K
                    simp only [go_sem, ↓reduceIte, reduceCtorEq, Nat.reduceAdd, Nat.reduceSub, Nat.reduceMul, Nat.reduceEqDiff, Nat.reduceLT, Nat.reduceLeDiff, Nat.reduceBEq, Int.reduceAdd, Int.reduceSub, Int.reduceLT, Int.reduceLE, Int.reduceEq, Int.reduceToNat, eq_true c130, eq_true c131, eq_true c150, eq_true c160]
                    refine arC.of (ok80 s6_0 x161 hx161) Try.call80 ?_
                    simp only [go_sem, ↓reduceIte, reduceCtorEq, Nat.reduceAdd, Nat.reduceSub, Nat.reduceMul, Nat.reduceEqDiff, Nat.reduceLT, Nat.reduceLeDiff, Nat.reduceBEq, Int.reduceAdd, Int.reduceSub, Int.reduceLT, Int.reduceLE, Int.reduceEq, Int.reduceToNat, eq_true c130, eq_true c131, eq_true c150, eq_true c160]
                    subst hK
                    refine AW.regL [0, 3, 4, 6, 7, 8] ?_
                    generalize hK : AW Try.prog _ _ _ = K
                    simp only [go_sem, ↓reduceIte, reduceCtorEq, Nat.reduceAdd, Nat.reduceSub, Nat.reduceMul, Nat.reduceEqDiff, Nat.reduceLT, Nat.reduceLeDiff, Nat.reduceBEq, Int.reduceAdd, Int.reduceSub, Int.reduceLT, Int.reduceLE, Int.reduceEq, Int.reduceToNat, eq_true c130, eq_true c131, eq_true c150, eq_true c160]
                    subst hK
                    obtain ⟨x162, hx162, h⟩ := Option.bind_eq_some_iff.1 h
                    obtain ⟨hx162b, hx162e⟩ := appO?_some.1 hx162
                    have hx162f : ∀ id o : Nat, appO 1 8 id ([[.val (.int .i64 x161.1)]]) 0 s6_1.length o (some (.row 1 true (List.map enc3 s6_1))) = some ⟨.own id 0 x162.length, [(o, none), (id, some (.row 1 true (List.map enc3 x162)))]⟩ := fun id o => by
                      subst hx162e; rw [appO_ok (by simp) (by simpa using hx162b) (by decide)]; first | (simp [enc3]; done) | (simp [enc3]; omega)
                    refine AW.regionL [0, 3, 4, 6, 7] ?_
                    generalize hK : inBlockA _ _ Exit.normal = K
                    simp only [go_sem, ↓reduceIte, reduceCtorEq, Nat.reduceAdd, Nat.reduceSub, Nat.reduceMul, Nat.reduceEqDiff, Nat.reduceLT, Nat.reduceLeDiff, Nat.reduceBEq, Int.reduceAdd, Int.reduceSub, Int.reduceLT, Int.reduceLE, Int.reduceEq, Int.reduceToNat, eq_true c130, eq_true c131, eq_true c150, eq_true c160, hx162f]
                    subst hK
                    refine block_n ?_
                    refine thenA_n ?_
                    refine AW.regionL [0, 3, 4, 6, 7] ?_
                    generalize hK : thenA _ _ Exit.normal = K
                    simp only [go_sem, ↓reduceIte, reduceCtorEq, Nat.reduceAdd, Nat.reduceSub, Nat.reduceMul, Nat.reduceEqDiff, Nat.reduceLT, Nat.reduceLeDiff, Nat.reduceBEq, Int.reduceAdd, Int.reduceSub, Int.reduceLT, Int.reduceLE, Int.reduceEq, Int.reduceToNat, eq_true c130, eq_true c131, eq_true c150, eq_true c160]
                    subst hK
                    refine thenA_n ?_
                    refine ⟨_, (Option.some.inj h).symm, ?_⟩
                    refine Ent.can [8, 9, 147] _ _ _ rfl (by first | decide | simp) rfl ?_ ?_ ?_
                    · exact (((((RF.any.pv (by first | rfl | simp only [go_sem]) (by first | rfl | simp [upd_ap, hpL_ap, tau, mapT, mapTL, bytesI_len, eq_true c130, eq_true c131, eq_true c150, eq_true c160])).po (by decide) (by first | rfl | simp [upd_ap, hpL_ap, tau, mapT, mapTL, bytesI_len, eq_true c130, eq_true c131, eq_true c150, eq_true c160])).pv (by first | rfl | simp only [go_sem]) (by first | rfl | simp [upd_ap, hpL_ap, tau, mapT, mapTL, bytesI_len, eq_true c130, eq_true c131, eq_true c150, eq_true c160])).pp (by decide) (by first | rfl | simp [upd_ap, hpL_ap, tau, mapT, mapTL, bytesI_len, eq_true c130, eq_true c131, eq_true c150, eq_true c160])).pv (by first | rfl | simp only [go_sem]) (by first | rfl | simp [upd_ap, hpL_ap, tau, mapT, mapTL, bytesI_len, eq_true c130, eq_true c131, eq_true c150, eq_true c160]))
                    · exact .nil _
                    · exact .cons (.eq (by first | rfl | simp only [go_sem]) (by first | rfl | simp [upd_ap, hpL_ap, tau, mapT, mapTL, bytesI_len, eq_true c130, eq_true c131, eq_true c150, eq_true c160])) (.cons (.tok (by simp [tokL, tokLL, inlR]) (by first | rfl | simp [upd_ap, hpL_ap, tau, mapT, mapTL, bytesI_len, eq_true c130, eq_true c131, eq_true c150, eq_true c160])) (.cons (.eq (by first | rfl | simp only [go_sem]) (by first | rfl | simp [upd_ap, hpL_ap, tau, mapT, mapTL, bytesI_len, eq_true c130, eq_true c131, eq_true c150, eq_true c160])) (.nil _)))
                  · rw [if_neg c160] at h
                    refine AW.ifF rfl c160 ?_
                    refine AW.exit ?_
                    refine thenA_x ?_
                    refine thenA_x ?_
                    refine ⟨_, (Option.some.inj h).symm, _, ?_, rfl, rfl⟩
                    refine Ent.can [8, 9, 10] _ _ _ rfl (by first | decide | simp) rfl ?_ ?_ ?_
                    · exact (((RF.any.pv (by first | rfl | simp only [go_sem]) (by first | rfl | simp [upd_ap, hpL_ap, tau, mapT, mapTL, bytesI_len, eq_true c130, eq_true c131, eq_true c150, eq_false c160])).po (by decide) (by first | rfl | simp [upd_ap, hpL_ap, tau, mapT, mapTL, bytesI_len, eq_true c130, eq_true c131, eq_true c150, eq_false c160])).pp (by decide) (by first | rfl | simp [upd_ap, hpL_ap, tau, mapT, mapTL, bytesI_len, eq_true c130, eq_true c131, eq_true c150, eq_false c160]))
                    · exact .nil _
                    · exact .cons (.eq (by first | rfl | simp only [go_sem]) (by first | rfl | simp [upd_ap, hpL_ap, tau, mapT, mapTL, bytesI_len, eq_true c130, eq_true c131, eq_true c150, eq_false c160])) (.cons (.tok (by simp [tokL, tokLL, inlR]) (by first | rfl | simp [upd_ap, hpL_ap, tau, mapT, mapTL, bytesI_len, eq_true c130, eq_true c131, eq_true c150, eq_false c160])) (.cons (.eq (by first | rfl | simp only [go_sem]) (by first | rfl | simp [upd_ap, hpL_ap, tau, mapT, mapTL, bytesI_len, eq_true c130, eq_true c131, eq_true c150, eq_false c160])) (.nil _)))
                · intro e st' hX
                  obtain ⟨y164, y165⟩ := y163
                  try dsimp only at h
                  try dsimp only at hX
                  obtain ⟨rfl, rfl⟩ := hX
                  refine ⟨_, Ent.refl, ?_⟩
                  refine block_x ?_
                  refine thenA_n ?_
                  refine AW.ent (Ent.stillObj (pre := [.val (.int .i64 (x132.1.tmod 9)), .val (.int .i64 j7_1), .val (.int .i64 j8_1), .val (.int .i64 j9_1)]) (post := []) (q := 10) (off := 0) (len := y165.length) 9 rfl (own_sl (sz := 1) (m := true) rfl (by first | rfl | simp [bytesI_len]) (by simp only [go_sem])) (by decide)) ?_
                  obtain ⟨x166, hx166, h⟩ := Option.bind_eq_some_iff.1 h
                  obtain ⟨hx166b, hx166e⟩ := appO?_some.1 hx166
                  have hx166f : ∀ id o : Nat, appO 5 56 id ([[.val (.int .i64 (x132.1.tmod 9)), .val (.int .i64 j7_1), .val (.int .i64 j8_1), .val (.int .i64 j9_1), .sl (List.map enc3 y165)]]) 0 s1_1.length o (some (.row 5 true (List.map encStep s1_1))) = some ⟨.own id 0 x166.length, [(o, none), (id, some (.row 5 true (List.map encStep x166)))]⟩ := fun id o => by
                    subst hx166e; rw [appO_ok (by simp) (by simpa using hx166b) (by decide)]; first | (simp [encStep]; done) | (simp [encStep]; omega)
                  refine AW.regionL [0, 3] ?_
                  generalize hK : inBlockA _ _ Exit.normal = K
                  simp only [go_sem, ↓reduceIte, reduceCtorEq, Nat.reduceAdd, Nat.reduceSub, Nat.reduceMul, Nat.reduceEqDiff, Nat.reduceLT, Nat.reduceLeDiff, Nat.reduceBEq, Int.reduceAdd, Int.reduceSub, Int.reduceLT, Int.reduceLE, Int.reduceEq, Int.reduceToNat, eq_true c130, eq_true c131, eq_true c150, hx166f]
                  subst hK
                  refine block_n ?_
                  refine thenA_n ?_
                  refine ⟨_, (Option.some.inj h).symm, ?_⟩
                  refine Ent.can [35] _ _ _ rfl (by first | decide | simp) rfl ?_ ?_ ?_
                  · exact ((RF.any.pv (by first | rfl | simp only [go_sem]) (by first | rfl | simp [upd_ap, hpL_ap, tau, mapT, mapTL, bytesI_len, eq_true c130, eq_true c131, eq_true c150])).po (by decide) (by first | rfl | simp [upd_ap, hpL_ap, tau, mapT, mapTL, bytesI_len, eq_true c130, eq_true c131, eq_true c150]))
                  · exact .nil _
                  · exact .cons (.eq (by first | rfl | simp only [go_sem]) (by first | rfl | simp [upd_ap, hpL_ap, tau, mapT, mapTL, bytesI_len, eq_true c130, eq_true c131, eq_true c150])) (.nil _)
              · rw [if_neg c150] at h
                refine AW.regL [0, 3, 6, 88] ?_
                generalize hK : AW Try.prog _ _ _ = K
                simp only [go_sem, ↓reduceIte, reduceCtorEq, Nat.reduceAdd, Nat.reduceSub, Nat.reduceMul, Nat.reduceEqDiff, Nat.reduceLT, Nat.reduceLeDiff, Nat.reduceBEq, Int.reduceAdd, Int.reduceSub, Int.reduceLT, Int.reduceLE, Int.reduceEq, Int.reduceToNat, eq_true c130, eq_true c131, eq_false c150]
                subst hK
                by_cases c167 : (x132.1.tmod 9) = 8
                · rw [if_pos c167] at h
                  refine AW.ifT rfl c167 ?_
                  obtain ⟨x168, hx168, h⟩ := Option.bind_eq_some_iff.1 h
                  refine AW.regL [0, 3, 4, 6] ?_
                  generalize hK : AW Try.prog _ _ _ = K
                  simp only [go_sem, ↓reduceIte, reduceCtorEq, Nat.reduceAdd, Nat.reduceSub, Nat.reduceMul, Nat.reduceEqDiff, Nat.reduceLT, Nat.reduceLeDiff, Nat.reduceBEq, Int.reduceAdd, Int.reduceSub, Int.reduceLT, Int.reduceLE, Int.reduceEq, Int.reduceToNat, eq_true c130, eq_true c131, eq_false c150, eq_true c167]
                  refine arC.of (ok80 j9_0 x168 hx168) Try.call80 ?_
                  simp only [go_sem, ↓reduceIte, reduceCtorEq, Nat.reduceAdd, Nat.reduceSub, Nat.reduceMul, Nat.reduceEqDiff, Nat.reduceLT, Nat.reduceLeDiff, Nat.reduceBEq, Int.reduceAdd, Int.reduceSub, Int.reduceLT, Int.reduceLE, Int.reduceEq, Int.reduceToNat, eq_true c130, eq_true c131, eq_false c150, eq_true c167]
                  subst hK
                  refine AW.regL [0, 3, 4, 6, 7] ?_
                  generalize hK : AW Try.prog _ _ _ = K
                  simp only [go_sem, ↓reduceIte, reduceCtorEq, Nat.reduceAdd, Nat.reduceSub, Nat.reduceMul, Nat.reduceEqDiff, Nat.reduceLT, Nat.reduceLeDiff, Nat.reduceBEq, Int.reduceAdd, Int.reduceSub, Int.reduceLT, Int.reduceLE, Int.reduceEq, Int.reduceToNat, eq_true c130, eq_true c131, eq_false c150, eq_true c167]
                  subst hK
                  refine AW.block ?_
                  obtain ⟨y180, hy180, h⟩ := Option.bind_eq_some_iff.1 h
                  refine AW.loopO (fun s => ⟨(upd (upd (upd (upd (upd anyF 0 (.sl (List.map enc5 s.1))) 3 (.own 8 0 s1_1.length)) 4 (.val (.int .i64 x168.1))) 6 (.ptr 9 0 0)) 7 (.val (.int .i64 s.2.2))), hpL [] [some (.row 5 true (List.map encStep s1_1)), some (.row 5 true [[.val (.int .i64 (x132.1.tmod 9)), .val (.int .i64 j7_1), .val (.int .i64 j8_1), .val (.int .i64 j9_1), .own 10 0 s.2.1.length]]), some (.row 1 true (List.map enc3 s.2.1))], 11⟩) (fun z e st' => e = Exit.exit 2 ∧ st' = ⟨(upd (upd (upd anyF 0 (.sl (List.map enc5 z.1))) 3 (.own 8 0 s1_1.length)) 6 (.ptr 9 0 0)), hpL [] [some (.row 5 true (List.map encStep s1_1)), some (.row 5 true [[.val (.int .i64 (x132.1.tmod 9)), .val (.int .i64 j7_1), .val (.int .i64 j8_1), .val (.int .i64 j9_1), .own 10 0 z.2.length]]), some (.row 1 true (List.map enc3 z.2))], 11⟩) hy180 ?_ ?_ ?_
                  · refine Ent.trans (Ent.nilCell 9 4 1 (by decide) (by first | rfl | simp [upd_ap]) rfl) ?_
                    refine Ent.can [8, 9, 138] _ _ _ rfl (by first | decide | simp) rfl ?_ ?_ ?_
                    · exact (((((RF.any.pv (by first | rfl | simp only [go_sem]) (by first | rfl | simp [upd_ap, hpL_ap, tau, mapT, mapTL, bytesI_len, eq_true c130, eq_true c131, eq_false c150, eq_true c167])).po (by decide) (by first | rfl | simp [upd_ap, hpL_ap, tau, mapT, mapTL, bytesI_len, eq_true c130, eq_true c131, eq_false c150, eq_true c167])).pv (by first | rfl | simp only [go_sem]) (by first | rfl | simp [upd_ap, hpL_ap, tau, mapT, mapTL, bytesI_len, eq_true c130, eq_true c131, eq_false c150, eq_true c167])).pp (by decide) (by first | rfl | simp [upd_ap, hpL_ap, tau, mapT, mapTL, bytesI_len, eq_true c130, eq_true c131, eq_false c150, eq_true c167])).pv (by first | rfl | simp only [go_sem]) (by first | rfl | simp [upd_ap, hpL_ap, tau, mapT, mapTL, bytesI_len, eq_true c130, eq_true c131, eq_false c150, eq_true c167]))
                    · exact .nil _
                    · exact .cons (.eq (by first | rfl | simp only [go_sem]) (by first | rfl | simp [upd_ap, hpL_ap, tau, mapT, mapTL, bytesI_len, eq_true c130, eq_true c131, eq_false c150, eq_true c167])) (.cons (.tok (by simp [tokL, tokLL, inlR]) (by first | rfl | simp [upd_ap, hpL_ap, tau, mapT, mapTL, bytesI_len, eq_true c130, eq_true c131, eq_false c150, eq_true c167])) (.cons (.eq (by first | rfl | simp only [go_sem]) (by first | rfl | simp [upd_ap, hpL_ap, tau, mapT, mapTL, bytesI_len, eq_true c130, eq_true c131, eq_false c150, eq_true c167])) (.nil _)))
                  · clear h hy180
                    rintro ⟨s7_0, s7_1, s7_2⟩ x h
                    rw [f30_s7] at h
                    refine AW.seq ?_
                    refine AW.regL [0, 3, 4, 6, 7, 97] ?_
                    generalize hK : AW Try.prog _ _ _ = K
                    simp only [go_sem, ↓reduceIte, reduceCtorEq, Nat.reduceAdd, Nat.reduceSub, Nat.reduceMul, Nat.reduceEqDiff, Nat.reduceLT, Nat.reduceLeDiff, Nat.reduceBEq, Int.reduceAdd, Int.reduceSub, Int.reduceLT, Int.reduceLE, Int.reduceEq, Int.reduceToNat, eq_true c130, eq_true c131, eq_false c150, eq_true c167]
                    subst hK
                    by_cases c177 : s7_2 < (x168.1.tmod 4)
                    · rw [if_pos c177] at h
                      refine AW.ifT rfl c177 ?_
                      refine AW.skip ?_
                      refine thenA_n ?_
                      refine AW.seq ?_
                      refine AW.block ?_
                      obtain ⟨x178, hx178, h⟩ := Option.bind_eq_some_iff.1 h
                      refine AW.regL [3, 4, 6, 7, 8, 9] ?_
                      generalize hK : AW Try.prog _ _ _ = K
                      simp only [go_sem, ↓reduceIte, reduceCtorEq, Nat.reduceAdd, Nat.reduceSub, Nat.reduceMul, Nat.reduceEqDiff, Nat.reduceLT, Nat.reduceLeDiff, Nat.reduceBEq, Int.reduceAdd, Int.reduceSub, Int.reduceLT, Int.reduceLE, Int.reduceEq, Int.reduceToNat, eq_true c130, eq_true c131, eq_false c150, eq_true c167, eq_true c177]
                      refine arC.of (ok80 s7_0 x178 hx178) Try.call80 ?_
                      simp only [go_sem, ↓reduceIte, reduceCtorEq, Nat.reduceAdd, Nat.reduceSub, Nat.reduceMul, Nat.reduceEqDiff, Nat.reduceLT, Nat.reduceLeDiff, Nat.reduceBEq, Int.reduceAdd, Int.reduceSub, Int.reduceLT, Int.reduceLE, Int.reduceEq, Int.reduceToNat, eq_true c130, eq_true c131, eq_false c150, eq_true c167, eq_true c177]
                      subst hK
                      refine AW.regL [0, 3, 4, 6, 7, 8] ?_
                      generalize hK : AW Try.prog _ _ _ = K
                      simp only [go_sem, ↓reduceIte, reduceCtorEq, Nat.reduceAdd, Nat.reduceSub, Nat.reduceMul, Nat.reduceEqDiff, Nat.reduceLT, Nat.reduceLeDiff, Nat.reduceBEq, Int.reduceAdd, Int.reduceSub, Int.reduceLT, Int.reduceLE, Int.reduceEq, Int.reduceToNat, eq_true c130, eq_true c131, eq_false c150, eq_true c167, eq_true c177]
                      subst hK
                      obtain ⟨x179, hx179, h⟩ := Option.bind_eq_some_iff.1 h
                      obtain ⟨hx179b, hx179e⟩ := appO?_some.1 hx179
                      have hx179f : ∀ id o : Nat, appO 1 8 id ([[.val (.int .i64 x178.1)]]) 0 s7_1.length o (some (.row 1 true (List.map enc3 s7_1))) = some ⟨.own id 0 x179.length, [(o, none), (id, some (.row 1 true (List.map enc3 x179)))]⟩ := fun id o => by
                        subst hx179e; rw [appO_ok (by simp) (by simpa using hx179b) (by decide)]; first | (simp [enc3]; done) | (simp [enc3]; omega)
                      refine AW.regionL [0, 3, 4, 6, 7] ?_
                      generalize hK : inBlockA _ _ Exit.normal = K
                      simp only [go_sem, ↓reduceIte, reduceCtorEq, Nat.reduceAdd, Nat.reduceSub, Nat.reduceMul, Nat.reduceEqDiff, Nat.reduceLT, Nat.reduceLeDiff, Nat.reduceBEq, Int.reduceAdd, Int.reduceSub, Int.reduceLT, Int.reduceLE, Int.reduceEq, Int.reduceToNat, eq_true c130, eq_true c131, eq_false c150, eq_true c167, eq_true c177, hx179f]
                      subst hK
                      refine block_n ?_
                      refine thenA_n ?_
                      refine AW.regionL [0, 3, 4, 6, 7] ?_
                      generalize hK : thenA _ _ Exit.normal = K
                      simp only [go_sem, ↓reduceIte, reduceCtorEq, Nat.reduceAdd, Nat.reduceSub, Nat.reduceMul, Nat.reduceEqDiff, Nat.reduceLT, Nat.reduceLeDiff, Nat.reduceBEq, Int.reduceAdd, Int.reduceSub, Int.reduceLT, Int.reduceLE, Int.reduceEq, Int.reduceToNat, eq_true c130, eq_true c131, eq_false c150, eq_true c167, eq_true c177]
                      subst hK
                      refine thenA_n ?_
                      refine ⟨_, (Option.some.inj h).symm, ?_⟩
                      refine Ent.can [8, 9, 147] _ _ _ rfl (by first | decide | simp) rfl ?_ ?_ ?_
                      · exact (((((RF.any.pv (by first | rfl | simp only [go_sem]) (by first | rfl | simp [upd_ap, hpL_ap, tau, mapT, mapTL, bytesI_len, eq_true c130, eq_true c131, eq_false c150, eq_true c167, eq_true c177])).po (by decide) (by first | rfl | simp [upd_ap, hpL_ap, tau, mapT, mapTL, bytesI_len, eq_true c130, eq_true c131, eq_false c150, eq_true c167, eq_true c177])).pv (by first | rfl | simp only [go_sem]) (by first | rfl | simp [upd_ap, hpL_ap, tau, mapT, mapTL, bytesI_len, eq_true c130, eq_true c131, eq_false c150, eq_true c167, eq_true c177])).pp (by decide) (by first | rfl | simp [upd_ap, hpL_ap, tau, mapT, mapTL, bytesI_len, eq_true c130, eq_true c131, eq_false c150, eq_true c167, eq_true c177])).pv (by first | rfl | simp only [go_sem]) (by first | rfl | simp [upd_ap, hpL_ap, tau, mapT, mapTL, bytesI_len, eq_true c130, eq_true c131, eq_false c150, eq_true c167, eq_true c177]))
                      · exact .nil _
                      · exact .cons (.eq (by first | rfl | simp only [go_sem]) (by first | rfl | simp [upd_ap, hpL_ap, tau, mapT, mapTL, bytesI_len, eq_true c130, eq_true c131, eq_false c150, eq_true c167, eq_true c177])) (.cons (.tok (by simp [tokL, tokLL, inlR]) (by first | rfl | simp [upd_ap, hpL_ap, tau, mapT, mapTL, bytesI_len, eq_true c130, eq_true c131, eq_false c150, eq_true c167, eq_true c177])) (.cons (.eq (by first | rfl | simp only [go_sem]) (by first | rfl | simp [upd_ap, hpL_ap, tau, mapT, mapTL, bytesI_len, eq_true c130, eq_true c131, eq_false c150, eq_true c167, eq_true c177])) (.nil _)))
                    · rw [if_neg c177] at h
                      refine AW.ifF rfl c177 ?_
                      refine AW.exit ?_
                      refine thenA_x ?_
                      refine thenA_x ?_
                      refine ⟨_, (Option.some.inj h).symm, _, ?_, rfl, rfl⟩
                      refine Ent.can [8, 9, 10] _ _ _ rfl (by first | decide | simp) rfl ?_ ?_ ?_
                      · exact (((RF.any.pv (by first | rfl | simp only [go_sem]) (by first | rfl | simp [upd_ap, hpL_ap, tau, mapT, mapTL, bytesI_len, eq_true c130, eq_true c131, eq_false c150, eq_true c167, eq_false c177])).po (by decide) (by first | rfl | simp [upd_ap, hpL_ap, tau, mapT, mapTL, bytesI_len, eq_true c130, eq_true c131, eq_false c150, eq_true c167, eq_false c177])).pp (by decide) (by first | rfl | simp [upd_ap, hpL_ap, tau, mapT, mapTL, bytesI_len, eq_true c130, eq_true c131, eq_false c150, eq_true c167, eq_false c177]))
                      · exact .nil _
                      · exact .cons (.eq (by first | rfl | simp only [go_sem]) (by first | rfl | simp [upd_ap, hpL_ap, tau, mapT, mapTL, bytesI_len, eq_true c130, eq_true c131, eq_false c150, eq_true c167, eq_false c177])) (.cons (.tok (by simp [tokL, tokLL, inlR]) (by first | rfl | simp [upd_ap, hpL_ap, tau, mapT, mapTL, bytesI_len, eq_true c130, eq_true c131, eq_false c150, eq_true c167, eq_false c177])) (.cons (.eq (by first | rfl | simp only [go_sem]) (by first | rfl | simp [upd_ap, hpL_ap, tau, mapT, mapTL, bytesI_len, eq_true c130, eq_true c131, eq_false c150, eq_true c167, eq_false c177])) (.nil _)))
                  · intro e st' hX
                    obtain ⟨y181, y182⟩ := y180
                    try dsimp only at h
                    try dsimp only at hX
                    obtain ⟨rfl, rfl⟩ := hX
                    refine ⟨_, Ent.refl, ?_⟩
                    refine block_x ?_
                    refine thenA_n ?_
                    refine AW.ent (Ent.stillObj (pre := [.val (.int .i64 (x132.1.tmod 9)), .val (.int .i64 j7_1), .val (.int .i64 j8_1), .val (.int .i64 j9_1)]) (post := []) (q := 10) (off := 0) (len := y182.length) 9 rfl (own_sl (sz := 1) (m := true) rfl (by first | rfl | simp [bytesI_len]) (by simp only [go_sem])) (by decide)) ?_
                    obtain ⟨x183, hx183, h⟩ := Option.bind_eq_some_iff.1 h
                    obtain ⟨hx183b, hx183e⟩ := appO?_some.1 hx183
                    have hx183f : ∀ id o : Nat, appO 5 56 id ([[.val (.int .i64 (x132.1.tmod 9)), .val (.int .i64 j7_1), .val (.int .i64 j8_1), .val (.int .i64 j9_1), .sl (List.map enc3 y182)]]) 0 s1_1.length o (some (.row 5 true (List.map encStep s1_1))) = some ⟨.own id 0 x183.length, [(o, none), (id, some (.row 5 true (List.map encStep x183)))]⟩ := fun id o => by
                      subst hx183e; rw [appO_ok (by simp) (by simpa using hx183b) (by decide)]; first | (simp [encStep]; done) | (simp [encStep]; omega)
                    refine AW.regionL [0, 3] ?_
                    generalize hK : inBlockA _ _ Exit.normal = K
                    simp only [go_sem, ↓reduceIte, reduceCtorEq, Nat.reduceAdd, Nat.reduceSub, Nat.reduceMul, Nat.reduceEqDiff, Nat.reduceLT, Nat.reduceLeDiff, Nat.reduceBEq, Int.reduceAdd, Int.reduceSub, Int.reduceLT, Int.reduceLE, Int.reduceEq, Int.reduceToNat, eq_true c130, eq_true c131, eq_false c150, eq_true c167, hx183f]
                    subst hK
                    refine block_n ?_
                    refine thenA_n ?_
                    refine ⟨_, (Option.some.inj h).symm, ?_⟩
                    refine Ent.can [35] _ _ _ rfl (by first | decide | simp) rfl ?_ ?_ ?_
                    · exact ((RF.any.pv (by first | rfl | simp only [go_sem]) (by first | rfl | simp [upd_ap, hpL_ap, tau, mapT, mapTL, bytesI_len, eq_true c130, eq_true c131, eq_false c150, eq_true c167])).po (by decide) (by first | rfl | simp [upd_ap, hpL_ap, tau, mapT, mapTL, bytesI_len, eq_true c130, eq_true c131, eq_false c150, eq_true c167]))
                    · exact .nil _
                    · exact .cons (.eq (by first | rfl | simp only [go_sem]) (by first | rfl | simp [upd_ap, hpL_ap, tau, mapT, mapTL, bytesI_len, eq_true c130, eq_true c131, eq_false c150, eq_true c167])) (.nil _)
                · rw [if_neg c167] at h
                  refine AW.ifF rfl c167 ?_
                  refine AW.skip ?_
                  refine thenA_n ?_
                  refine AW.ent (Ent.weakObj 9 rfl rfl (.cons (.of rfl) (.cons (.of rfl) (.cons (.of rfl) (.cons (.of rfl) (.cons Weak.nil WeakL.nil)))))) ?_
                  obtain ⟨x184, hx184, h⟩ := Option.bind_eq_some_iff.1 h
                  obtain ⟨hx184b, hx184e⟩ := appO?_some.1 hx184
                  have hx184f : ∀ id o : Nat, appO 5 56 id ([[.val (.int .i64 (x132.1.tmod 9)), .val (.int .i64 j7_1), .val (.int .i64 j8_1), .val (.int .i64 j9_1), .sl []]]) 0 s1_1.length o (some (.row 5 true (List.map encStep s1_1))) = some ⟨.own id 0 x184.length, [(o, none), (id, some (.row 5 true (List.map encStep x184)))]⟩ := fun id o => by
                    subst hx184e; rw [appO_ok (by simp) (by simpa using hx184b) (by decide)]; first | (simp [encStep]; done) | (simp [encStep]; omega)
                  refine AW.regionL [0, 3] ?_
                  generalize hK : inBlockA _ _ Exit.normal = K
                  simp only [go_sem, ↓reduceIte, reduceCtorEq, Nat.reduceAdd, Nat.reduceSub, Nat.reduceMul, Nat.reduceEqDiff, Nat.reduceLT, Nat.reduceLeDiff, Nat.reduceBEq, Int.reduceAdd, Int.reduceSub, Int.reduceLT, Int.reduceLE, Int.reduceEq, Int.reduceToNat, eq_true c130, eq_true c131, eq_false c150, eq_false c167, hx184f]
                  subst hK
                  refine block_n ?_
                  refine thenA_n ?_
                  refine ⟨_, (Option.some.inj h).symm, ?_⟩
                  refine Ent.can [98] _ _ _ rfl (by first | decide | simp) rfl ?_ ?_ ?_
                  · exact ((RF.any.pv (by first | rfl | simp only [go_sem]) (by first | rfl | simp [upd_ap, hpL_ap, tau, mapT, mapTL, bytesI_len, eq_true c130, eq_true c131, eq_false c150, eq_false c167])).po (by decide) (by first | rfl | simp [upd_ap, hpL_ap, tau, mapT, mapTL, bytesI_len, eq_true c130, eq_true c131, eq_false c150, eq_false c167]))
                  · exact .nil _
                  · exact .cons (.eq (by first | rfl | simp only [go_sem]) (by first | rfl | simp [upd_ap, hpL_ap, tau, mapT, mapTL, bytesI_len, eq_true c130, eq_true c131, eq_false c150, eq_false c167])) (.nil _)
      · rw [if_neg c131] at h
        refine AW.ifF rfl c131 ?_
        refine AW.exit ?_
        refine thenA_x ?_
        refine thenA_x ?_
        refine ⟨_, (Option.some.inj h).symm, _, ?_, rfl, rfl⟩
        refine Ent.can [8] _ _ _ rfl (by first | decide | simp) rfl ?_ ?_ ?_
        · exact (RF.any.po (by decide) (by first | rfl | simp [upd_ap, hpL_ap, tau, mapT, mapTL, bytesI_len, eq_true c130, eq_false c131]))
        · exact .nil _
        · exact .cons (.eq (by first | rfl | simp only [go_sem]) (by first | rfl | simp [upd_ap, hpL_ap, tau, mapT, mapTL, bytesI_len, eq_true c130, eq_false c131])) (.nil _)
    · rw [if_neg c130] at h
      refine AW.regL [0, 3, 17] ?_
      generalize hK : AW Try.prog _ _ _ = K
      simp only [go_sem, ↓reduceIte, reduceCtorEq, Nat.reduceAdd, Nat.reduceSub, Nat.reduceMul, Nat.reduceEqDiff, Nat.reduceLT, Nat.reduceLeDiff, Nat.reduceBEq, Int.reduceAdd, Int.reduceSub, Int.reduceLT, Int.reduceLE, Int.reduceEq, Int.reduceToNat, eq_false c130]
      subst hK
      refine AW.ifBF rfl rfl ?_
      refine AW.exit ?_
      refine thenA_x ?_
      refine thenA_x ?_
      refine ⟨_, (Option.some.inj h).symm, _, ?_, rfl, rfl⟩
      refine Ent.can [8] _ _ _ rfl (by first | decide | simp) rfl ?_ ?_ ?_
      · exact (RF.any.po (by decide) (by first | rfl | simp [upd_ap, hpL_ap, tau, mapT, mapTL, bytesI_len, eq_false c130]))
      · exact .nil _
      · exact .cons (.eq (by first | rfl | simp only [go_sem]) (by first | rfl | simp [upd_ap, hpL_ap, tau, mapT, mapTL, bytesI_len, eq_false c130])) (.nil _)
  · intro e st' hX
    try dsimp only at h
    try dsimp only at hX
    obtain ⟨rfl, rfl⟩ := hX
    refine ⟨_, Ent.refl, ?_⟩
    refine block_x ?_
    refine thenA_n ?_
    refine AW.regL [2] ?_
    generalize hK : AW Try.prog _ _ _ = K
    simp only [go_sem, ↓reduceIte, reduceCtorEq, Nat.reduceAdd, Nat.reduceSub, Nat.reduceMul, Nat.reduceEqDiff, Nat.reduceLT, Nat.reduceLeDiff, Nat.reduceBEq, Int.reduceAdd, Int.reduceSub, Int.reduceLT, Int.reduceLE, Int.reduceEq, Int.reduceToNat]
    subst hK
    refine AW.ret ?_
    obtain rfl := Option.some.inj h
    (simp only [go_sem, ↓reduceIte, reduceCtorEq, Nat.reduceAdd, Nat.reduceSub, Nat.reduceMul, Nat.reduceEqDiff, Nat.reduceLT, Nat.reduceLeDiff, Nat.reduceBEq, Int.reduceAdd, Int.reduceSub, Int.reduceLT, Int.reduceLE, Int.reduceEq, Int.reduceToNat, finA, resA, resOf_1, resOf_2, sealV_val, sealV_sl, sealV_ip, sealV_agg, sealV_tup, sealV_own, sealL_nil, sealL_cons] <;> try simp)
end Au
end Go.Proofs.Y1
