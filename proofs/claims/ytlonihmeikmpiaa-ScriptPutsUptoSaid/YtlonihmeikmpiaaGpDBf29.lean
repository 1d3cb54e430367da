import Derived.Test.YtlonihmeikmpiaaGpW1
import Derived.Test.YtlonihmeikmpiaaGpDBf79
set_option linter.all false
set_option linter.unusedVariables false
set_option linter.unusedSimpArgs false
set_option linter.all false
set_option maxRecDepth 8000
namespace Go.Proofs.Y1
open Go.Gm
namespace Au
noncomputable def f29_s4 (x148 : Int × Tape) : (List Int) × (List Int) × Int → Option (((List Int) × (List Int) × Int) ⊕ ((List Int) × (List Int)))
  | (s4_0, s4_1, s4_2) => (if s4_2 < (x148.1.tmod 4) then ((f79 ⟨s4_0⟩).bind fun x161 => ((appO? s4_1 [x161.1]).bind fun x162 => some (.inl (x161.2.b, x162, IntKind.i64.wrap (s4_2 + 1))))) else some (.inr (s4_0, s4_1)))
noncomputable def f29_j9 (s1_1 : List Step) (x124 : Int × Tape) (j7_1 : Int) (j8_0 : List Int) (j8_1 : Int) : Bool → Option (((List Int) × (List Step)) ⊕ (List Step))
  | j9_0 => (if j9_0 = true then ((f79 ⟨j8_0⟩).bind fun x148 => ((loopO (f29_s4 x148) (x148.2.b, [], 0)).bind fun y163 => match y163 with | (y164, y165) => ((appO? s1_1 [⟨x124.1.tmod 9, j7_1, j8_1, 0, y165⟩]).bind fun x166 => some (.inl (y164, x166))))) else ((appO? s1_1 [⟨x124.1.tmod 9, j7_1, j8_1, 0, []⟩]).bind fun x167 => some (.inl (j8_0, x167))))
noncomputable def f29_j8 (s1_1 : List Step) (x124 : Int × Tape) (j7_1 : Int) : (List Int) × Int → Option (((List Int) × (List Step)) ⊕ (List Step))
  | (j8_0, j8_1) => (if (x124.1.tmod 9) = 5 then ((f79 ⟨j8_0⟩).bind fun x144 => ((appO? s1_1 [⟨x124.1.tmod 9, j7_1, j8_1, x144.1, []⟩]).bind fun x145 => some (.inl (x144.2.b, x145)))) else (if (x124.1.tmod 9) = 6 then f29_j9 s1_1 x124 j7_1 j8_0 j8_1 true else f29_j9 s1_1 x124 j7_1 j8_0 j8_1 (decide ((x124.1.tmod 9) = 8))))
noncomputable def f29_j7 (s1_1 : List Step) (x124 : Int × Tape) : (List Int) × Int → Option (((List Int) × (List Step)) ⊕ (List Step))
  | (j7_0, j7_1) => (if (x124.1.tmod 9) = 2 then ((f79 ⟨j7_0⟩).bind fun x170 => f29_j8 s1_1 x124 j7_1 (x170.2.b, x170.1)) else (if (x124.1.tmod 9) = 3 then ((f79 ⟨j7_0⟩).bind fun x172 => f29_j8 s1_1 x124 j7_1 (x172.2.b, x172.1)) else (if (x124.1.tmod 9) = 4 then ((f79 ⟨j7_0⟩).bind fun x174 => f29_j8 s1_1 x124 j7_1 (x174.2.b, x174.1)) else (if (x124.1.tmod 9) = 5 then ((f79 ⟨j7_0⟩).bind fun x176 => f29_j8 s1_1 x124 j7_1 (x176.2.b, x176.1)) else (if (x124.1.tmod 9) = 8 then ((f79 ⟨j7_0⟩).bind fun x178 => f29_j8 s1_1 x124 j7_1 (x178.2.b, x178.1)) else f29_j8 s1_1 x124 j7_1 (j7_0, 0))))))
noncomputable def f29_s1 : (List Int) × (List Step) → Option (((List Int) × (List Step)) ⊕ (List Step))
  | (s1_0, s1_1) => (if 0 < (s1_0.length : Int) then (if ((s1_1.length : Nat) : Int) < 16384 then ((f79 ⟨s1_0⟩).bind fun x124 => (if (x124.1.tmod 9) = 1 then ((f79 x124.2).bind fun x180 => f29_j7 s1_1 x124 (x180.2.b, (x180.1.tmod 8))) else (if (x124.1.tmod 9) = 6 then ((f79 x124.2).bind fun x182 => f29_j7 s1_1 x124 (x182.2.b, (x182.1.tmod 8))) else (if (x124.1.tmod 9) = 7 then ((f79 x124.2).bind fun x184 => f29_j7 s1_1 x124 (x184.2.b, (x184.1.tmod 8))) else (if (x124.1.tmod 9) = 8 then ((f79 x124.2).bind fun x186 => f29_j7 s1_1 x124 (x186.2.b, (x186.1.tmod 8))) else f29_j7 s1_1 x124 (x124.2.b, 0)))))) else some (.inr s1_1)) else some (.inr s1_1))
noncomputable def f29 (a0 : List Int) : Option (List Step) := ((loopO f29_s1 (a0, [])).bind fun y188 => some y188)
theorem ok29 (a0 : List Int) (r : (List Step)) (h : f29 a0 = some r) : PC Try.prog 29 [.sl (List.map enc5 a0)] (.fr 5 (List.map encStep r)) := by
  rw [f29] at h
  refine pc_of8 (N := 77) (rs := [.tmp 2]) Try.func29 rfl rfl rfl (Nat.le_of_ble_eq_true rfl) ?_
  refine AW.regL [0] ?_
  generalize hK : AW Try.prog _ _ _ = K
  simp only [go_sem, ↓reduceIte, reduceCtorEq, Nat.reduceAdd, Nat.reduceSub, Nat.reduceMul, Nat.reduceEqDiff, Nat.reduceLT, Nat.reduceLeDiff, Nat.reduceBEq, Int.reduceAdd, Int.reduceSub, Int.reduceLT, Int.reduceLE, Int.reduceEq, Int.reduceToNat]
  subst hK
  refine AW.regL [3] ?_
  generalize hK : AW Try.prog _ _ _ = K
  simp only [go_sem, ↓reduceIte, reduceCtorEq, Nat.reduceAdd, Nat.reduceSub, Nat.reduceMul, Nat.reduceEqDiff, Nat.reduceLT, Nat.reduceLeDiff, Nat.reduceBEq, Int.reduceAdd, Int.reduceSub, Int.reduceLT, Int.reduceLE, Int.reduceEq, Int.reduceToNat]
  subst hK
  refine AW.regL [3, 4] ?_
  generalize hK : AW Try.prog _ _ _ = K
  simp only [go_sem, ↓reduceIte, reduceCtorEq, Nat.reduceAdd, Nat.reduceSub, Nat.reduceMul, Nat.reduceEqDiff, Nat.reduceLT, Nat.reduceLeDiff, Nat.reduceBEq, Int.reduceAdd, Int.reduceSub, Int.reduceLT, Int.reduceLE, Int.reduceEq, Int.reduceToNat]
  subst hK
  refine AW.regL [3, 4, 5] ?_
  generalize hK : AW Try.prog _ _ _ = K
  simp only [go_sem, ↓reduceIte, reduceCtorEq, Nat.reduceAdd, Nat.reduceSub, Nat.reduceMul, Nat.reduceEqDiff, Nat.reduceLT, Nat.reduceLeDiff, Nat.reduceBEq, Int.reduceAdd, Int.reduceSub, Int.reduceLT, Int.reduceLE, Int.reduceEq, Int.reduceToNat]
  subst hK
  refine AW.seq ?_
  refine AW.block ?_
  obtain ⟨y188, hy188, h⟩ := Option.bind_eq_some_iff.1 h
  refine AW.loopO (fun s => ⟨(upd (upd (upd anyF 3 (.ptr 8 0 0)) 4 (.clo (.func 79) [.ptr 8 0 0] [])) 5 (.own 9 0 s.2.length)), hpL [] [some (.row 1 true [[.sl (List.map enc5 s.1)]]), some (.row 5 true (List.map encStep s.2))], 10⟩) (fun z e st' => e = Exit.exit 0 ∧ st' = ⟨(upd anyF 5 (.own 8 0 z.length)), hpL [] [some (.row 5 true (List.map encStep z))], 9⟩) hy188 ?_ ?_ ?_
  · refine Ent.trans (Ent.nilOwn 5 5 (by decide) rfl) ?_
    refine Ent.can [32, 80] _ _ _ rfl (by first | decide | simp) rfl ?_ ?_ ?_
    · exact (((RF.any.pp (by decide) (by first | rfl | simp [upd_ap, hpL_ap, tau, mapT, mapTL, bytesI_len])).put (by simp [tokL, tokLL, inlR]) (.of (by first | rfl | simp [upd_ap, hpL_ap, tau, mapT, mapTL, bytesI_len]))).po (by decide) (by first | rfl | simp [upd_ap, hpL_ap, tau, mapT, mapTL, bytesI_len]))
    · exact .nil _
    · exact .cons (.eq (by first | rfl | simp only [go_sem]) (by first | rfl | simp [upd_ap, hpL_ap, tau, mapT, mapTL, bytesI_len])) (.cons (.eq (by first | rfl | simp only [go_sem]) (by first | rfl | simp [upd_ap, hpL_ap, tau, mapT, mapTL, bytesI_len])) (.nil _))
  · clear h hy188
    rintro ⟨s1_0, s1_1⟩ x h
    rw [f29_s1] at h
    refine AW.seq ?_
    by_cases c122 : 0 < (s1_0.length : Int)
    · rw [if_pos c122] at h
      refine AW.regL [3, 4, 5, 22] ?_
      generalize hK : AW Try.prog _ _ _ = K
      simp only [go_sem, ↓reduceIte, reduceCtorEq, Nat.reduceAdd, Nat.reduceSub, Nat.reduceMul, Nat.reduceEqDiff, Nat.reduceLT, Nat.reduceLeDiff, Nat.reduceBEq, Int.reduceAdd, Int.reduceSub, Int.reduceLT, Int.reduceLE, Int.reduceEq, Int.reduceToNat, eq_true c122]
      subst hK
      by_cases c123 : ((s1_1.length : Nat) : Int) < 16384
      · rw [if_pos c123] at h
        refine AW.ifT rfl c123 ?_
        refine AW.skip ?_
        refine thenA_n ?_
        refine AW.block ?_
        obtain ⟨x124, hx124, h⟩ := Option.bind_eq_some_iff.1 h
        refine AW.regL [3, 4, 5, 6] ?_
        generalize hK : AW Try.prog _ _ _ = K
        simp only [go_sem, ↓reduceIte, reduceCtorEq, Nat.reduceAdd, Nat.reduceSub, Nat.reduceMul, Nat.reduceEqDiff, Nat.reduceLT, Nat.reduceLeDiff, Nat.reduceBEq, Int.reduceAdd, Int.reduceSub, Int.reduceLT, Int.reduceLE, Int.reduceEq, Int.reduceToNat, eq_true c122, eq_true c123]
        refine arC.ok (CallOk.ic (us' := _) (ok79 ⟨s1_0⟩ x124 hx124) [8] rfl (by decide) (by simp) (by simp) (by simp) (by simp) (.cons (.eq (by simp only [go_sem]) (by first | rfl | simp [upd_ap, hpL_ap, sg_ap])) (.nil _)) (by simp only [mapTL_cons, mapTL_nil, mapT_ptr, mapT_val, mapT_sl, mapT_agg, mapT_ip, sg_ap, List.getD_cons_zero, List.getD_cons_succ]; exact (.cons (.of rfl) .nil)) (by simp only [go_sem, List.length_cons, List.length_nil, Nat.reduceAdd, Nat.reduceLT, decide_true]) (by simp [AObj.isMut]) (by simp [go_sem]) (by simp [go_sem])) Try.call79 ?_
        simp only [go_sem, ↓reduceIte, reduceCtorEq, Nat.reduceAdd, Nat.reduceSub, Nat.reduceMul, Nat.reduceEqDiff, Nat.reduceLT, Nat.reduceLeDiff, Nat.reduceBEq, Int.reduceAdd, Int.reduceSub, Int.reduceLT, Int.reduceLE, Int.reduceEq, Int.reduceToNat, eq_true c122, eq_true c123]
        subst hK
        refine AW.join (fun s => ⟨(upd (upd (upd (upd anyF 3 (.ptr 8 0 0)) 4 (.clo (.func 79) [.ptr 8 0 0] [])) 5 (.own 9 0 s1_1.length)) 6 (.ptr 10 0 0)), hpL [] [some (.row 1 true [[.sl (List.map enc5 s.1)]]), some (.row 5 true (List.map encStep s1_1)), some (.row 5 true [[.val (.int .i64 (x124.1.tmod 9)), .val (.int .i64 s.2), .val (.int .i64 0), .val (.int .i64 0), .val (.slice none 0 0)]])], 11⟩) (fun s => f29_j7 s1_1 x124 s = some x) ?_ ?_
        · refine AW.regL [3, 4, 5, 6, 28] ?_
          generalize hK : AW Try.prog _ _ _ = K
          simp only [go_sem, ↓reduceIte, reduceCtorEq, Nat.reduceAdd, Nat.reduceSub, Nat.reduceMul, Nat.reduceEqDiff, Nat.reduceLT, Nat.reduceLeDiff, Nat.reduceBEq, Int.reduceAdd, Int.reduceSub, Int.reduceLT, Int.reduceLE, Int.reduceEq, Int.reduceToNat, eq_true c122, eq_true c123]
          subst hK
          refine AW.block ?_
          refine AW.seq ?_
          refine AW.regL [3, 4, 5, 6, 28, 29] ?_
          generalize hK : AW Try.prog _ _ _ = K
          simp only [go_sem, ↓reduceIte, reduceCtorEq, Nat.reduceAdd, Nat.reduceSub, Nat.reduceMul, Nat.reduceEqDiff, Nat.reduceLT, Nat.reduceLeDiff, Nat.reduceBEq, Int.reduceAdd, Int.reduceSub, Int.reduceLT, Int.reduceLE, Int.reduceEq, Int.reduceToNat, eq_true c122, eq_true c123]
          subst hK
          by_cases c179 : (x124.1.tmod 9) = 1
          · rw [if_pos c179] at h
            refine AW.ifT rfl c179 ?_
            refine AW.skip ?_
            refine thenA_n ?_
            refine AW.ifBT (by first | rfl | simp only [go_sem, ↓reduceIte, reduceCtorEq, Nat.reduceAdd, Nat.reduceSub, Nat.reduceMul, Nat.reduceEqDiff, Nat.reduceLT, Nat.reduceLeDiff, Nat.reduceBEq, Int.reduceAdd, Int.reduceSub, Int.reduceLT, Int.reduceLE, Int.reduceEq, Int.reduceToNat, eq_true c122, eq_true c123, eq_true c179]) rfl ?_
            obtain ⟨x180, hx180, h⟩ := Option.bind_eq_some_iff.1 h
            refine AW.regionL [3, 4, 5, 6] ?_
            generalize hK : inBlockA _ _ Exit.normal = K
            simp only [go_sem, ↓reduceIte, reduceCtorEq, Nat.reduceAdd, Nat.reduceSub, Nat.reduceMul, Nat.reduceEqDiff, Nat.reduceLT, Nat.reduceLeDiff, Nat.reduceBEq, Int.reduceAdd, Int.reduceSub, Int.reduceLT, Int.reduceLE, Int.reduceEq, Int.reduceToNat, eq_true c122, eq_true c123, eq_true c179]
            refine arC.ok (CallOk.ic (us' := _) (ok79 x124.2 x180 hx180) [8] rfl (by decide) (by simp) (by simp) (by simp) (by simp) (.cons (.eq (by simp only [go_sem]) (by first | rfl | simp [upd_ap, hpL_ap, sg_ap])) (.nil _)) (by simp only [mapTL_cons, mapTL_nil, mapT_ptr, mapT_val, mapT_sl, mapT_agg, mapT_ip, sg_ap, List.getD_cons_zero, List.getD_cons_succ]; exact (.cons (.of rfl) .nil)) (by simp only [go_sem, List.length_cons, List.length_nil, Nat.reduceAdd, Nat.reduceLT, decide_true]) (by simp [AObj.isMut]) (by simp [go_sem]) (by simp [go_sem])) Try.call79 ?_
            simp only [go_sem, ↓reduceIte, reduceCtorEq, Nat.reduceAdd, Nat.reduceSub, Nat.reduceMul, Nat.reduceEqDiff, Nat.reduceLT, Nat.reduceLeDiff, Nat.reduceBEq, Int.reduceAdd, Int.reduceSub, Int.reduceLT, Int.reduceLE, Int.reduceEq, Int.reduceToNat, eq_true c122, eq_true c123, eq_true c179]
            subst hK
            refine block_n ?_
            refine thenA_n ?_
            refine ⟨_, h, ?_⟩
            refine Ent.can [8, 9, 130] _ _ _ rfl (by first | decide | simp) rfl ?_ ?_ ?_
            · exact ((((RF.any.pp (by decide) (by first | rfl | simp [upd_ap, hpL_ap, tau, mapT, mapTL, bytesI_len, eq_true c122, eq_true c123, eq_true c179])).put (by simp [tokL, tokLL, inlR]) (.of (by first | rfl | simp [upd_ap, hpL_ap, tau, mapT, mapTL, bytesI_len, eq_true c122, eq_true c123, eq_true c179]))).po (by decide) (by first | rfl | simp [upd_ap, hpL_ap, tau, mapT, mapTL, bytesI_len, eq_true c122, eq_true c123, eq_true c179])).pp (by decide) (by first | rfl | simp [upd_ap, hpL_ap, tau, mapT, mapTL, bytesI_len, eq_true c122, eq_true c123, eq_true c179]))
            · exact .nil _
            · exact .cons (.eq (by first | rfl | simp only [go_sem]) (by first | rfl | simp [upd_ap, hpL_ap, tau, mapT, mapTL, bytesI_len, eq_true c122, eq_true c123, eq_true c179])) (.cons (.eq (by first | rfl | simp only [go_sem]) (by first | rfl | simp [upd_ap, hpL_ap, tau, mapT, mapTL, bytesI_len, eq_true c122, eq_true c123, eq_true c179])) (.cons (.eq (by first | rfl | simp only [go_sem]) (by first | rfl | simp [upd_ap, hpL_ap, tau, mapT, mapTL, bytesI_len, eq_true c122, eq_true c123, eq_true c179])) (.nil _)))
          · rw [if_neg c179] at h
            refine AW.ifF rfl c179 ?_
            refine AW.regL [3, 4, 5, 6, 28, 29] ?_
            generalize hK : AW Try.prog _ _ _ = K
            simp only [go_sem, ↓reduceIte, reduceCtorEq, Nat.reduceAdd, Nat.reduceSub, Nat.reduceMul, Nat.reduceEqDiff, Nat.reduceLT, Nat.reduceLeDiff, Nat.reduceBEq, Int.reduceAdd, Int.reduceSub, Int.reduceLT, Int.reduceLE, Int.reduceEq, Int.reduceToNat, eq_true c122, eq_true c123, eq_false c179]
            subst hK
            by_cases c181 : (x124.1.tmod 9) = 6
            · rw [if_pos c181] at h
              refine AW.ifT rfl c181 ?_
              refine AW.skip ?_
              refine thenA_n ?_
              refine AW.ifBT (by first | rfl | simp only [go_sem, ↓reduceIte, reduceCtorEq, Nat.reduceAdd, Nat.reduceSub, Nat.reduceMul, Nat.reduceEqDiff, Nat.reduceLT, Nat.reduceLeDiff, Nat.reduceBEq, Int.reduceAdd, Int.reduceSub, Int.reduceLT, Int.reduceLE, Int.reduceEq, Int.reduceToNat, eq_true c122, eq_true c123, eq_false c179, eq_true c181]) rfl ?_
              obtain ⟨x182, hx182, h⟩ := Option.bind_eq_some_iff.1 h
              refine AW.regionL [3, 4, 5, 6] ?_
              generalize hK : inBlockA _ _ Exit.normal = K
              simp only [go_sem, ↓reduceIte, reduceCtorEq, Nat.reduceAdd, Nat.reduceSub, Nat.reduceMul, Nat.reduceEqDiff, Nat.reduceLT, Nat.reduceLeDiff, Nat.reduceBEq, Int.reduceAdd, Int.reduceSub, Int.reduceLT, Int.reduceLE, Int.reduceEq, Int.reduceToNat, eq_true c122, eq_true c123, eq_false c179, eq_true c181]
              refine arC.ok (CallOk.ic (us' := _) (ok79 x124.2 x182 hx182) [8] rfl (by decide) (by simp) (by simp) (by simp) (by simp) (.cons (.eq (by simp only [go_sem]) (by first | rfl | simp [upd_ap, hpL_ap, sg_ap])) (.nil _)) (by simp only [mapTL_cons, mapTL_nil, mapT_ptr, mapT_val, mapT_sl, mapT_agg, mapT_ip, sg_ap, List.getD_cons_zero, List.getD_cons_succ]; exact (.cons (.of rfl) .nil)) (by simp only [go_sem, List.length_cons, List.length_nil, Nat.reduceAdd, Nat.reduceLT, decide_true]) (by simp [AObj.isMut]) (by simp [go_sem]) (by simp [go_sem])) Try.call79 ?_
              simp only [go_sem, ↓reduceIte, reduceCtorEq, Nat.reduceAdd, Nat.reduceSub, Nat.reduceMul, Nat.reduceEqDiff, Nat.reduceLT, Nat.reduceLeDiff, Nat.reduceBEq, Int.reduceAdd, Int.reduceSub, Int.reduceLT, Int.reduceLE, Int.reduceEq, Int.reduceToNat, eq_true c122, eq_true c123, eq_false c179, eq_true c181]
              subst hK
              refine block_n ?_
              refine thenA_n ?_
              refine ⟨_, h, ?_⟩
              refine Ent.can [8, 9, 130] _ _ _ rfl (by first | decide | simp) rfl ?_ ?_ ?_
              · exact ((((RF.any.pp (by decide) (by first | rfl | simp [upd_ap, hpL_ap, tau, mapT, mapTL, bytesI_len, eq_true c122, eq_true c123, eq_false c179, eq_true c181])).put (by simp [tokL, tokLL, inlR]) (.of (by first | rfl | simp [upd_ap, hpL_ap, tau, mapT, mapTL, bytesI_len, eq_true c122, eq_true c123, eq_false c179, eq_true c181]))).po (by decide) (by first | rfl | simp [upd_ap, hpL_ap, tau, mapT, mapTL, bytesI_len, eq_true c122, eq_true c123, eq_false c179, eq_true c181])).pp (by decide) (by first | rfl | simp [upd_ap, hpL_ap, tau, mapT, mapTL, bytesI_len, eq_true c122, eq_true c123, eq_false c179, eq_true c181]))
              · exact .nil _
              · exact .cons (.eq (by first | rfl | simp only [go_sem]) (by first | rfl | simp [upd_ap, hpL_ap, tau, mapT, mapTL, bytesI_len, eq_true c122, eq_true c123, eq_false c179, eq_true c181])) (.cons (.eq (by first | rfl | simp only [go_sem]) (by first | rfl | simp [upd_ap, hpL_ap, tau, mapT, mapTL, bytesI_len, eq_true c122, eq_true c123, eq_false c179, eq_true c181])) (.cons (.eq (by first | rfl | simp only [go_sem]) (by first | rfl | simp [upd_ap, hpL_ap, tau, mapT, mapTL, bytesI_len, eq_true c122, eq_true c123, eq_false c179, eq_true c181])) (.nil _)))
            · rw [if_neg c181] at h
              refine AW.ifF rfl c181 ?_
              refine AW.regL [3, 4, 5, 6, 28, 29] ?_
              generalize hK : AW Try.prog _ _ _ = K
              simp only [go_sem, ↓reduceIte, reduceCtorEq, Nat.reduceAdd, Nat.reduceSub, Nat.reduceMul, Nat.reduceEqDiff, Nat.reduceLT, Nat.reduceLeDiff, Nat.reduceBEq, Int.reduceAdd, Int.reduceSub, Int.reduceLT, Int.reduceLE, Int.reduceEq, Int.reduceToNat, eq_true c122, eq_true c123, eq_false c179, eq_false c181]
              subst hK
              by_cases c183 : (x124.1.tmod 9) = 7
              · rw [if_pos c183] at h
                refine AW.ifT rfl c183 ?_
                refine AW.skip ?_
                refine thenA_n ?_
                refine AW.ifBT (by first | rfl | simp only [go_sem, ↓reduceIte, reduceCtorEq, Nat.reduceAdd, Nat.reduceSub, Nat.reduceMul, Nat.reduceEqDiff, Nat.reduceLT, Nat.reduceLeDiff, Nat.reduceBEq, Int.reduceAdd, Int.reduceSub, Int.reduceLT, Int.reduceLE, Int.reduceEq, Int.reduceToNat, eq_true c122, eq_true c123, eq_false c179, eq_false c181, eq_true c183]) rfl ?_
                obtain ⟨x184, hx184, h⟩ := Option.bind_eq_some_iff.1 h
                refine AW.regionL [3, 4, 5, 6] ?_
                generalize hK : inBlockA _ _ Exit.normal = K
                simp only [go_sem, ↓reduceIte, reduceCtorEq, Nat.reduceAdd, Nat.reduceSub, Nat.reduceMul, Nat.reduceEqDiff, Nat.reduceLT, Nat.reduceLeDiff, Nat.reduceBEq, Int.reduceAdd, Int.reduceSub, Int.reduceLT, Int.reduceLE, Int.reduceEq, Int.reduceToNat, eq_true c122, eq_true c123, eq_false c179, eq_false c181, eq_true c183]
                refine arC.ok (CallOk.ic (us' := _) (ok79 x124.2 x184 hx184) [8] rfl (by decide) (by simp) (by simp) (by simp) (by simp) (.cons (.eq (by simp only [go_sem]) (by first | rfl | simp [upd_ap, hpL_ap, sg_ap])) (.nil _)) (by simp only [mapTL_cons, mapTL_nil, mapT_ptr, mapT_val, mapT_sl, mapT_agg, mapT_ip, sg_ap, List.getD_cons_zero, List.getD_cons_succ]; exact (.cons (.of rfl) .nil)) (by simp only [go_sem, List.length_cons, List.length_nil, Nat.reduceAdd, Nat.reduceLT, decide_true]) (by simp [AObj.isMut]) (by simp [go_sem]) (by simp [go_sem])) Try.call79 ?_
                simp only [go_sem, ↓reduceIte, reduceCtorEq, Nat.reduceAdd, Nat.reduceSub, Nat.reduceMul, Nat.reduceEqDiff, Nat.reduceLT, Nat.reduceLeDiff, Nat.reduceBEq, Int.reduceAdd, Int.reduceSub, Int.reduceLT, Int.reduceLE, Int.reduceEq, Int.reduceToNat, eq_true c122, eq_true c123, eq_false c179, eq_false c181, eq_true c183]
                subst hK
                refine block_n ?_
                refine thenA_n ?_
                refine ⟨_, h, ?_⟩
                refine Ent.can [8, 9, 130] _ _ _ rfl (by first | decide | simp) rfl ?_ ?_ ?_
                · exact ((((RF.any.pp (by decide) (by first | rfl | simp [upd_ap, hpL_ap, tau, mapT, mapTL, bytesI_len, eq_true c122, eq_true c123, eq_false c179, eq_false c181, eq_true c183])).put (by simp [tokL, tokLL, inlR]) (.of (by first | rfl | simp [upd_ap, hpL_ap, tau, mapT, mapTL, bytesI_len, eq_true c122, eq_true c123, eq_false c179, eq_false c181, eq_true c183]))).po (by decide) (by first | rfl | simp [upd_ap, hpL_ap, tau, mapT, mapTL, bytesI_len, eq_true c122, eq_true c123, eq_false c179, eq_false c181, eq_true c183])).pp (by decide) (by first | rfl | simp [upd_ap, hpL_ap, tau, mapT, mapTL, bytesI_len, eq_true c122, eq_true c123, eq_false c179, eq_false c181, eq_true c183]))
                · exact .nil _
                · exact .cons (.eq (by first | rfl | simp only [go_sem]) (by first | rfl | simp [upd_ap, hpL_ap, tau, mapT, mapTL, bytesI_len, eq_true c122, eq_true c123, eq_false c179, eq_false c181, eq_true c183])) (.cons (.eq (by first | rfl | simp only [go_sem]) (by first | rfl | simp [upd_ap, hpL_ap, tau, mapT, mapTL, bytesI_len, eq_true c122, eq_true c123, eq_false c179, eq_false c181, eq_true c183])) (.cons (.eq (by first | rfl | simp only [go_sem]) (by first | rfl | simp [upd_ap, hpL_ap, tau, mapT, mapTL, bytesI_len, eq_true c122, eq_true c123, eq_false c179, eq_false c181, eq_true c183])) (.nil _)))
              · rw [if_neg c183] at h
                refine AW.ifF rfl c183 ?_
                refine AW.regionL [3, 4, 5, 6, 29] ?_
                generalize hK : thenA _ _ Exit.normal = K
                simp only [go_sem, ↓reduceIte, reduceCtorEq, Nat.reduceAdd, Nat.reduceSub, Nat.reduceMul, Nat.reduceEqDiff, Nat.reduceLT, Nat.reduceLeDiff, Nat.reduceBEq, Int.reduceAdd, Int.reduceSub, Int.reduceLT, Int.reduceLE, Int.reduceEq, Int.reduceToNat, eq_true c122, eq_true c123, eq_false c179, eq_false c181, eq_false c183]
                subst hK
                refine thenA_n ?_
                by_cases c185 : (x124.1.tmod 9) = 8
                · rw [if_pos c185] at h
                  refine AW.ifT rfl c185 ?_
                  obtain ⟨x186, hx186, h⟩ := Option.bind_eq_some_iff.1 h
                  refine AW.regionL [3, 4, 5, 6] ?_
                  generalize hK : inBlockA _ _ Exit.normal = K
                  simp only [go_sem, ↓reduceIte, reduceCtorEq, Nat.reduceAdd, Nat.reduceSub, Nat.reduceMul, Nat.reduceEqDiff, Nat.reduceLT, Nat.reduceLeDiff, Nat.reduceBEq, Int.reduceAdd, Int.reduceSub, Int.reduceLT, Int.reduceLE, Int.reduceEq, Int.reduceToNat, eq_true c122, eq_true c123, eq_false c179, eq_false c181, eq_false c183, eq_true c185]
                  refine arC.ok (CallOk.ic (us' := _) (ok79 x124.2 x186 hx186) [8] rfl (by decide) (by simp) (by simp) (by simp) (by simp) (.cons (.eq (by simp only [go_sem]) (by first | rfl | simp [upd_ap, hpL_ap, sg_ap])) (.nil _)) (by simp only [mapTL_cons, mapTL_nil, mapT_ptr, mapT_val, mapT_sl, mapT_agg, mapT_ip, sg_ap, List.getD_cons_zero, List.getD_cons_succ]; exact (.cons (.of rfl) .nil)) (by simp only [go_sem, List.length_cons, List.length_nil, Nat.reduceAdd, Nat.reduceLT, decide_true]) (by simp [AObj.isMut]) (by simp [go_sem]) (by simp [go_sem])) Try.call79 ?_
                  simp only [go_sem, ↓reduceIte, reduceCtorEq, Nat.reduceAdd, Nat.reduceSub, Nat.reduceMul, Nat.reduceEqDiff, Nat.reduceLT, Nat.reduceLeDiff, Nat.reduceBEq, Int.reduceAdd, Int.reduceSub, Int.reduceLT, Int.reduceLE, Int.reduceEq, Int.reduceToNat, eq_true c122, eq_true c123, eq_false c179, eq_false c181, eq_false c183, eq_true c185]
                  subst hK
                  refine block_n ?_
                  refine thenA_n ?_
                  refine ⟨_, h, ?_⟩
                  refine Ent.can [8, 9, 130] _ _ _ rfl (by first | decide | simp) rfl ?_ ?_ ?_
                  · exact ((((RF.any.pp (by decide) (by first | rfl | simp [upd_ap, hpL_ap, tau, mapT, mapTL, bytesI_len, eq_true c122, eq_true c123, eq_false c179, eq_false c181, eq_false c183, eq_true c185])).put (by simp [tokL, tokLL, inlR]) (.of (by first | rfl | simp [upd_ap, hpL_ap, tau, mapT, mapTL, bytesI_len, eq_true c122, eq_true c123, eq_false c179, eq_false c181, eq_false c183, eq_true c185]))).po (by decide) (by first | rfl | simp [upd_ap, hpL_ap, tau, mapT, mapTL, bytesI_len, eq_true c122, eq_true c123, eq_false c179, eq_false c181, eq_false c183, eq_true c185])).pp (by decide) (by first | rfl | simp [upd_ap, hpL_ap, tau, mapT, mapTL, bytesI_len, eq_true c122, eq_true c123, eq_false c179, eq_false c181, eq_false c183, eq_true c185]))
                  · exact .nil _
                  · exact .cons (.eq (by first | rfl | simp only [go_sem]) (by first | rfl | simp [upd_ap, hpL_ap, tau, mapT, mapTL, bytesI_len, eq_true c122, eq_true c123, eq_false c179, eq_false c181, eq_false c183, eq_true c185])) (.cons (.eq (by first | rfl | simp only [go_sem]) (by first | rfl | simp [upd_ap, hpL_ap, tau, mapT, mapTL, bytesI_len, eq_true c122, eq_true c123, eq_false c179, eq_false c181, eq_false c183, eq_true c185])) (.cons (.eq (by first | rfl | simp only [go_sem]) (by first | rfl | simp [upd_ap, hpL_ap, tau, mapT, mapTL, bytesI_len, eq_true c122, eq_true c123, eq_false c179, eq_false c181, eq_false c183, eq_true c185])) (.nil _)))
                · rw [if_neg c185] at h
                  refine AW.ifF rfl c185 ?_
                  refine AW.skip ?_
                  refine block_n ?_
                  refine thenA_n ?_
                  refine ⟨_, h, ?_⟩
                  refine Ent.can [8, 9, 130] _ _ _ rfl (by first | decide | simp) rfl ?_ ?_ ?_
                  · exact ((((RF.any.pp (by decide) (by first | rfl | simp [upd_ap, hpL_ap, tau, mapT, mapTL, bytesI_len, eq_true c122, eq_true c123, eq_false c179, eq_false c181, eq_false c183, eq_false c185])).put (by simp [tokL, tokLL, inlR]) (.of (by first | rfl | simp [upd_ap, hpL_ap, tau, mapT, mapTL, bytesI_len, eq_true c122, eq_true c123, eq_false c179, eq_false c181, eq_false c183, eq_false c185]))).po (by decide) (by first | rfl | simp [upd_ap, hpL_ap, tau, mapT, mapTL, bytesI_len, eq_true c122, eq_true c123, eq_false c179, eq_false c181, eq_false c183, eq_false c185])).pp (by decide) (by first | rfl | simp [upd_ap, hpL_ap, tau, mapT, mapTL, bytesI_len, eq_true c122, eq_true c123, eq_false c179, eq_false c181, eq_false c183, eq_false c185]))
                  · exact .nil _
                  · exact .cons (.eq (by first | rfl | simp only [go_sem]) (by first | rfl | simp [upd_ap, hpL_ap, tau, mapT, mapTL, bytesI_len, eq_true c122, eq_true c123, eq_false c179, eq_false c181, eq_false c183, eq_false c185])) (.cons (.eq (by first | rfl | simp only [go_sem]) (by first | rfl | simp [upd_ap, hpL_ap, tau, mapT, mapTL, bytesI_len, eq_true c122, eq_true c123, eq_false c179, eq_false c181, eq_false c183, eq_false c185])) (.cons (.eq (by first | rfl | simp only [go_sem]) (by first | rfl | simp [upd_ap, hpL_ap, tau, mapT, mapTL, bytesI_len, eq_true c122, eq_true c123, eq_false c179, eq_false c181, eq_false c183, eq_false c185])) (.nil _)))
        · clear h
          rintro ⟨j7_0, j7_1⟩ h
          rw [f29_j7] at h
          refine AW.join (fun s => ⟨(upd (upd (upd (upd anyF 3 (.ptr 8 0 0)) 4 (.clo (.func 79) [.ptr 8 0 0] [])) 5 (.own 9 0 s1_1.length)) 6 (.ptr 10 0 0)), hpL [] [some (.row 1 true [[.sl (List.map enc5 s.1)]]), some (.row 5 true (List.map encStep s1_1)), some (.row 5 true [[.val (.int .i64 (x124.1.tmod 9)), .val (.int .i64 j7_1), .val (.int .i64 s.2), .val (.int .i64 0), .val (.slice none 0 0)]])], 11⟩) (fun s => f29_j8 s1_1 x124 j7_1 s = some x) ?_ ?_
          · refine AW.regL [3, 4, 5, 6, 39] ?_
            generalize hK : AW Try.prog _ _ _ = K
            simp only [go_sem, ↓reduceIte, reduceCtorEq, Nat.reduceAdd, Nat.reduceSub, Nat.reduceMul, Nat.reduceEqDiff, Nat.reduceLT, Nat.reduceLeDiff, Nat.reduceBEq, Int.reduceAdd, Int.reduceSub, Int.reduceLT, Int.reduceLE, Int.reduceEq, Int.reduceToNat, eq_true c122, eq_true c123]
            subst hK
            refine AW.block ?_
            refine AW.seq ?_
            refine AW.regL [3, 4, 5, 6, 39, 40] ?_
            generalize hK : AW Try.prog _ _ _ = K
            simp only [go_sem, ↓reduceIte, reduceCtorEq, Nat.reduceAdd, Nat.reduceSub, Nat.reduceMul, Nat.reduceEqDiff, Nat.reduceLT, Nat.reduceLeDiff, Nat.reduceBEq, Int.reduceAdd, Int.reduceSub, Int.reduceLT, Int.reduceLE, Int.reduceEq, Int.reduceToNat, eq_true c122, eq_true c123]
            subst hK
            by_cases c169 : (x124.1.tmod 9) = 2
            · rw [if_pos c169] at h
              refine AW.ifT rfl c169 ?_
              refine AW.skip ?_
              refine thenA_n ?_
              refine AW.ifBT (by first | rfl | simp only [go_sem, ↓reduceIte, reduceCtorEq, Nat.reduceAdd, Nat.reduceSub, Nat.reduceMul, Nat.reduceEqDiff, Nat.reduceLT, Nat.reduceLeDiff, Nat.reduceBEq, Int.reduceAdd, Int.reduceSub, Int.reduceLT, Int.reduceLE, Int.reduceEq, Int.reduceToNat, eq_true c122, eq_true c123, eq_true c169]) rfl ?_
              obtain ⟨x170, hx170, h⟩ := Option.bind_eq_some_iff.1 h
              refine AW.regionL [3, 4, 5, 6] ?_
              generalize hK : inBlockA _ _ Exit.normal = K
              simp only [go_sem, ↓reduceIte, reduceCtorEq, Nat.reduceAdd, Nat.reduceSub, Nat.reduceMul, Nat.reduceEqDiff, Nat.reduceLT, Nat.reduceLeDiff, Nat.reduceBEq, Int.reduceAdd, Int.reduceSub, Int.reduceLT, Int.reduceLE, Int.reduceEq, Int.reduceToNat, eq_true c122, eq_true c123, eq_true c169]
              refine arC.ok (CallOk.ic (us' := _) (ok79 ⟨j7_0⟩ x170 hx170) [8] rfl (by decide) (by simp) (by simp) (by simp) (by simp) (.cons (.eq (by simp only [go_sem]) (by first | rfl | simp [upd_ap, hpL_ap, sg_ap])) (.nil _)) (by simp only [mapTL_cons, mapTL_nil, mapT_ptr, mapT_val, mapT_sl, mapT_agg, mapT_ip, sg_ap, List.getD_cons_zero, List.getD_cons_succ]; exact (.cons (.of rfl) .nil)) (by simp only [go_sem, List.length_cons, List.length_nil, Nat.reduceAdd, Nat.reduceLT, decide_true]) (by simp [AObj.isMut]) (by simp [go_sem]) (by simp [go_sem])) Try.call79 ?_
              simp only [go_sem, ↓reduceIte, reduceCtorEq, Nat.reduceAdd, Nat.reduceSub, Nat.reduceMul, Nat.reduceEqDiff, Nat.reduceLT, Nat.reduceLeDiff, Nat.reduceBEq, Int.reduceAdd, Int.reduceSub, Int.reduceLT, Int.reduceLE, Int.reduceEq, Int.reduceToNat, eq_true c122, eq_true c123, eq_true c169]
              subst hK
              refine block_n ?_
              refine thenA_n ?_
              refine ⟨_, h, ?_⟩
              refine Ent.can [8, 9, 10] _ _ _ rfl (by first | decide | simp) rfl ?_ ?_ ?_
              · exact ((((RF.any.pp (by decide) (by first | rfl | simp [upd_ap, hpL_ap, tau, mapT, mapTL, bytesI_len, eq_true c122, eq_true c123, eq_true c169])).put (by simp [tokL, tokLL, inlR]) (.of (by first | rfl | simp [upd_ap, hpL_ap, tau, mapT, mapTL, bytesI_len, eq_true c122, eq_true c123, eq_true c169]))).po (by decide) (by first | rfl | simp [upd_ap, hpL_ap, tau, mapT, mapTL, bytesI_len, eq_true c122, eq_true c123, eq_true c169])).pp (by decide) (by first | rfl | simp [upd_ap, hpL_ap, tau, mapT, mapTL, bytesI_len, eq_true c122, eq_true c123, eq_true c169]))
              · exact .nil _
              · exact .cons (.eq (by first | rfl | simp only [go_sem]) (by first | rfl | simp [upd_ap, hpL_ap, tau, mapT, mapTL, bytesI_len, eq_true c122, eq_true c123, eq_true c169])) (.cons (.eq (by first | rfl | simp only [go_sem]) (by first | rfl | simp [upd_ap, hpL_ap, tau, mapT, mapTL, bytesI_len, eq_true c122, eq_true c123, eq_true c169])) (.cons (.eq (by first | rfl | simp only [go_sem]) (by first | rfl | simp [upd_ap, hpL_ap, tau, mapT, mapTL, bytesI_len, eq_true c122, eq_true c123, eq_true c169])) (.nil _)))
            · rw [if_neg c169] at h
              refine AW.ifF rfl c169 ?_
              refine AW.regL [3, 4, 5, 6, 39, 40] ?_
              generalize hK : AW Try.prog _ _ _ = K
              simp only [go_sem, ↓reduceIte, reduceCtorEq, Nat.reduceAdd, Nat.reduceSub, Nat.reduceMul, Nat.reduceEqDiff, Nat.reduceLT, Nat.reduceLeDiff, Nat.reduceBEq, Int.reduceAdd, Int.reduceSub, Int.reduceLT, Int.reduceLE, Int.reduceEq, Int.reduceToNat, eq_true c122, eq_true c123, eq_false c169]
              subst hK
              by_cases c171 : (x124.1.tmod 9) = 3
              · rw [if_pos c171] at h
                refine AW.ifT rfl c171 ?_
                refine AW.skip ?_
                refine thenA_n ?_
                refine AW.ifBT (by first | rfl | simp only [go_sem, ↓reduceIte, reduceCtorEq, Nat.reduceAdd, Nat.reduceSub, Nat.reduceMul, Nat.reduceEqDiff, Nat.reduceLT, Nat.reduceLeDiff, Nat.reduceBEq, Int.reduceAdd, Int.reduceSub, Int.reduceLT, Int.reduceLE, Int.reduceEq, Int.reduceToNat, eq_true c122, eq_true c123, eq_false c169, eq_true c171]) rfl ?_
                obtain ⟨x172, hx172, h⟩ := Option.bind_eq_some_iff.1 h
                refine AW.regionL [3, 4, 5, 6] ?_
                generalize hK : inBlockA _ _ Exit.normal = K
                simp only [go_sem, ↓reduceIte, reduceCtorEq, Nat.reduceAdd, Nat.reduceSub, Nat.reduceMul, Nat.reduceEqDiff, Nat.reduceLT, Nat.reduceLeDiff, Nat.reduceBEq, Int.reduceAdd, Int.reduceSub, Int.reduceLT, Int.reduceLE, Int.reduceEq, Int.reduceToNat, eq_true c122, eq_true c123, eq_false c169, eq_true c171]
                refine arC.ok (CallOk.ic (us' := _) (ok79 ⟨j7_0⟩ x172 hx172) [8] rfl (by decide) (by simp) (by simp) (by simp) (by simp) (.cons (.eq (by simp only [go_sem]) (by first | rfl | simp [upd_ap, hpL_ap, sg_ap])) (.nil _)) (by simp only [mapTL_cons, mapTL_nil, mapT_ptr, mapT_val, mapT_sl, mapT_agg, mapT_ip, sg_ap, List.getD_cons_zero, List.getD_cons_succ]; exact (.cons (.of rfl) .nil)) (by simp only [go_sem, List.length_cons, List.length_nil, Nat.reduceAdd, Nat.reduceLT, decide_true]) (by simp [AObj.isMut]) (by simp [go_sem]) (by simp [go_sem])) Try.call79 ?_
                simp only [go_sem, ↓reduceIte, reduceCtorEq, Nat.reduceAdd, Nat.reduceSub, Nat.reduceMul, Nat.reduceEqDiff, Nat.reduceLT, Nat.reduceLeDiff, Nat.reduceBEq, Int.reduceAdd, Int.reduceSub, Int.reduceLT, Int.reduceLE, Int.reduceEq, Int.reduceToNat, eq_true c122, eq_true c123, eq_false c169, eq_true c171]
                subst hK
                refine block_n ?_
                refine thenA_n ?_
                refine ⟨_, h, ?_⟩
                refine Ent.can [8, 9, 10] _ _ _ rfl (by first | decide | simp) rfl ?_ ?_ ?_
                · exact ((((RF.any.pp (by decide) (by first | rfl | simp [upd_ap, hpL_ap, tau, mapT, mapTL, bytesI_len, eq_true c122, eq_true c123, eq_false c169, eq_true c171])).put (by simp [tokL, tokLL, inlR]) (.of (by first | rfl | simp [upd_ap, hpL_ap, tau, mapT, mapTL, bytesI_len, eq_true c122, eq_true c123, eq_false c169, eq_true c171]))).po (by decide) (by first | rfl | simp [upd_ap, hpL_ap, tau, mapT, mapTL, bytesI_len, eq_true c122, eq_true c123, eq_false c169, eq_true c171])).pp (by decide) (by first | rfl | simp [upd_ap, hpL_ap, tau, mapT, mapTL, bytesI_len, eq_true c122, eq_true c123, eq_false c169, eq_true c171]))
                · exact .nil _
                · exact .cons (.eq (by first | rfl | simp only [go_sem]) (by first | rfl | simp [upd_ap, hpL_ap, tau, mapT, mapTL, bytesI_len, eq_true c122, eq_true c123, eq_false c169, eq_true c171])) (.cons (.eq (by first | rfl | simp only [go_sem]) (by first | rfl | simp [upd_ap, hpL_ap, tau, mapT, mapTL, bytesI_len, eq_true c122, eq_true c123, eq_false c169, eq_true c171])) (.cons (.eq (by first | rfl | simp only [go_sem]) (by first | rfl | simp [upd_ap, hpL_ap, tau, mapT, mapTL, bytesI_len, eq_true c122, eq_true c123, eq_false c169, eq_true c171])) (.nil _)))
              · rw [if_neg c171] at h
                refine AW.ifF rfl c171 ?_
                refine AW.regL [3, 4, 5, 6, 39, 40] ?_
                generalize hK : AW Try.prog _ _ _ = K
                simp only [go_sem, ↓reduceIte, reduceCtorEq, Nat.reduceAdd, Nat.reduceSub, Nat.reduceMul, Nat.reduceEqDiff, Nat.reduceLT, Nat.reduceLeDiff, Nat.reduceBEq, Int.reduceAdd, Int.reduceSub, Int.reduceLT, Int.reduceLE, Int.reduceEq, Int.reduceToNat, eq_true c122, eq_true c123, eq_false c169, eq_false c171]
                subst hK
                by_cases c173 : (x124.1.tmod 9) = 4
                · rw [if_pos c173] at h
                  refine AW.ifT rfl c173 ?_
                  refine AW.skip ?_
                  refine thenA_n ?_
                  refine AW.ifBT (by first | rfl | simp only [go_sem, ↓reduceIte, reduceCtorEq, Nat.reduceAdd, Nat.reduceSub, Nat.reduceMul, Nat.reduceEqDiff, Nat.reduceLT, Nat.reduceLeDiff, Nat.reduceBEq, Int.reduceAdd, Int.reduceSub, Int.reduceLT, Int.reduceLE, Int.reduceEq, Int.reduceToNat, eq_true c122, eq_true c123, eq_false c169, eq_false c171, eq_true c173]) rfl ?_
                  obtain ⟨x174, hx174, h⟩ := Option.bind_eq_some_iff.1 h
                  refine AW.regionL [3, 4, 5, 6] ?_
                  generalize hK : inBlockA _ _ Exit.normal = K
                  simp only [go_sem, ↓reduceIte, reduceCtorEq, Nat.reduceAdd, Nat.reduceSub, Nat.reduceMul, Nat.reduceEqDiff, Nat.reduceLT, Nat.reduceLeDiff, Nat.reduceBEq, Int.reduceAdd, Int.reduceSub, Int.reduceLT, Int.reduceLE, Int.reduceEq, Int.reduceToNat, eq_true c122, eq_true c123, eq_false c169, eq_false c171, eq_true c173]
                  refine arC.ok (CallOk.ic (us' := _) (ok79 ⟨j7_0⟩ x174 hx174) [8] rfl (by decide) (by simp) (by simp) (by simp) (by simp) (.cons (.eq (by simp only [go_sem]) (by first | rfl | simp [upd_ap, hpL_ap, sg_ap])) (.nil _)) (by simp only [mapTL_cons, mapTL_nil, mapT_ptr, mapT_val, mapT_sl, mapT_agg, mapT_ip, sg_ap, List.getD_cons_zero, List.getD_cons_succ]; exact (.cons (.of rfl) .nil)) (by simp only [go_sem, List.length_cons, List.length_nil, Nat.reduceAdd, Nat.reduceLT, decide_true]) (by simp [AObj.isMut]) (by simp [go_sem]) (by simp [go_sem])) Try.call79 ?_
                  simp only [go_sem, ↓reduceIte, reduceCtorEq, Nat.reduceAdd, Nat.reduceSub, Nat.reduceMul, Nat.reduceEqDiff, Nat.reduceLT, Nat.reduceLeDiff, Nat.reduceBEq, Int.reduceAdd, Int.reduceSub, Int.reduceLT, Int.reduceLE, Int.reduceEq, Int.reduceToNat, eq_true c122, eq_true c123, eq_false c169, eq_false c171, eq_true c173]
                  subst hK
                  refine block_n ?_
                  refine thenA_n ?_
                  refine ⟨_, h, ?_⟩
                  refine Ent.can [8, 9, 10] _ _ _ rfl (by first | decide | simp) rfl ?_ ?_ ?_
                  · exact ((((RF.any.pp (by decide) (by first | rfl | simp [upd_ap, hpL_ap, tau, mapT, mapTL, bytesI_len, eq_true c122, eq_true c123, eq_false c169, eq_false c171, eq_true c173])).put (by simp [tokL, tokLL, inlR]) (.of (by first | rfl | simp [upd_ap, hpL_ap, tau, mapT, mapTL, bytesI_len, eq_true c122, eq_true c123, eq_false c169, eq_false c171, eq_true c173]))).po (by decide) (by first | rfl | simp [upd_ap, hpL_ap, tau, mapT, mapTL, bytesI_len, eq_true c122, eq_true c123, eq_false c169, eq_false c171, eq_true c173])).pp (by decide) (by first | rfl | simp [upd_ap, hpL_ap, tau, mapT, mapTL, bytesI_len, eq_true c122, eq_true c123, eq_false c169, eq_false c171, eq_true c173]))
                  · exact .nil _
                  · exact .cons (.eq (by first | rfl | simp only [go_sem]) (by first | rfl | simp [upd_ap, hpL_ap, tau, mapT, mapTL, bytesI_len, eq_true c122, eq_true c123, eq_false c169, eq_false c171, eq_true c173])) (.cons (.eq (by first | rfl | simp only [go_sem]) (by first | rfl | simp [upd_ap, hpL_ap, tau, mapT, mapTL, bytesI_len, eq_true c122, eq_true c123, eq_false c169, eq_false c171, eq_true c173])) (.cons (.eq (by first | rfl | simp only [go_sem]) (by first | rfl | simp [upd_ap, hpL_ap, tau, mapT, mapTL, bytesI_len, eq_true c122, eq_true c123, eq_false c169, eq_false c171, eq_true c173])) (.nil _)))
                · rw [if_neg c173] at h
                  refine AW.ifF rfl c173 ?_
                  refine AW.regL [3, 4, 5, 6, 39, 40] ?_
                  generalize hK : AW Try.prog _ _ _ = K
                  simp only [go_sem, ↓reduceIte, reduceCtorEq, Nat.reduceAdd, Nat.reduceSub, Nat.reduceMul, Nat.reduceEqDiff, Nat.reduceLT, Nat.reduceLeDiff, Nat.reduceBEq, Int.reduceAdd, Int.reduceSub, Int.reduceLT, Int.reduceLE, Int.reduceEq, Int.reduceToNat, eq_true c122, eq_true c123, eq_false c169, eq_false c171, eq_false c173]
                  subst hK
                  by_cases c175 : (x124.1.tmod 9) = 5
                  · rw [if_pos c175] at h
                    refine AW.ifT rfl c175 ?_
                    refine AW.skip ?_
                    refine thenA_n ?_
                    refine AW.ifBT (by first | rfl | simp only [go_sem, ↓reduceIte, reduceCtorEq, Nat.reduceAdd, Nat.reduceSub, Nat.reduceMul, Nat.reduceEqDiff, Nat.reduceLT, Nat.reduceLeDiff, Nat.reduceBEq, Int.reduceAdd, Int.reduceSub, Int.reduceLT, Int.reduceLE, Int.reduceEq, Int.reduceToNat, eq_true c122, eq_true c123, eq_false c169, eq_false c171, eq_false c173, eq_true c175]) rfl ?_
                    obtain ⟨x176, hx176, h⟩ := Option.bind_eq_some_iff.1 h
                    refine AW.regionL [3, 4, 5, 6] ?_
                    generalize hK : inBlockA _ _ Exit.normal = K
                    simp only [go_sem, ↓reduceIte, reduceCtorEq, Nat.reduceAdd, Nat.reduceSub, Nat.reduceMul, Nat.reduceEqDiff, Nat.reduceLT, Nat.reduceLeDiff, Nat.reduceBEq, Int.reduceAdd, Int.reduceSub, Int.reduceLT, Int.reduceLE, Int.reduceEq, Int.reduceToNat, eq_true c122, eq_true c123, eq_false c169, eq_false c171, eq_false c173, eq_true c175]
                    refine arC.ok (CallOk.ic (us' := _) (ok79 ⟨j7_0⟩ x176 hx176) [8] rfl (by decide) (by simp) (by simp) (by simp) (by simp) (.cons (.eq (by simp only [go_sem]) (by first | rfl | simp [upd_ap, hpL_ap, sg_ap])) (.nil _)) (by simp only [mapTL_cons, mapTL_nil, mapT_ptr, mapT_val, mapT_sl, mapT_agg, mapT_ip, sg_ap, List.getD_cons_zero, List.getD_cons_succ]; exact (.cons (.of rfl) .nil)) (by simp only [go_sem, List.length_cons, List.length_nil, Nat.reduceAdd, Nat.reduceLT, decide_true]) (by simp [AObj.isMut]) (by simp [go_sem]) (by simp [go_sem])) Try.call79 ?_
                    simp only [go_sem, ↓reduceIte, reduceCtorEq, Nat.reduceAdd, Nat.reduceSub, Nat.reduceMul, Nat.reduceEqDiff, Nat.reduceLT, Nat.reduceLeDiff, Nat.reduceBEq, Int.reduceAdd, Int.reduceSub, Int.reduceLT, Int.reduceLE, Int.reduceEq, Int.reduceToNat, eq_true c122, eq_true c123, eq_false c169, eq_false c171, eq_false c173, eq_true c175]
                    subst hK
                    refine block_n ?_
                    refine thenA_n ?_
                    refine ⟨_, h, ?_⟩
                    refine Ent.can [8, 9, 10] _ _ _ rfl (by first | decide | simp) rfl ?_ ?_ ?_
                    · exact ((((RF.any.pp (by decide) (by first | rfl | simp [upd_ap, hpL_ap, tau, mapT, mapTL, bytesI_len, eq_true c122, eq_true c123, eq_false c169, eq_false c171, eq_false c173, eq_true c175])).put (by simp [tokL, tokLL, inlR]) (.of (by first | rfl | simp [upd_ap, hpL_ap, tau, mapT, mapTL, bytesI_len, eq_true c122, eq_true c123, eq_false c169, eq_false c171, eq_false c173, eq_true c175]))).po (by decide) (by first | rfl | simp [upd_ap, hpL_ap, tau, mapT, mapTL, bytesI_len, eq_true c122, eq_true c123, eq_false c169, eq_false c171, eq_false c173, eq_true c175])).pp (by decide) (by first | rfl | simp [upd_ap, hpL_ap, tau, mapT, mapTL, bytesI_len, eq_true c122, eq_true c123, eq_false c169, eq_false c171, eq_false c173, eq_true c175]))
                    · exact .nil _
                    · exact .cons (.eq (by first | rfl | simp only [go_sem]) (by first | rfl | simp [upd_ap, hpL_ap, tau, mapT, mapTL, bytesI_len, eq_true c122, eq_true c123, eq_false c169, eq_false c171, eq_false c173, eq_true c175])) (.cons (.eq (by first | rfl | simp only [go_sem]) (by first | rfl | simp [upd_ap, hpL_ap, tau, mapT, mapTL, bytesI_len, eq_true c122, eq_true c123, eq_false c169, eq_false c171, eq_false c173, eq_true c175])) (.cons (.eq (by first | rfl | simp only [go_sem]) (by first | rfl | simp [upd_ap, hpL_ap, tau, mapT, mapTL, bytesI_len, eq_true c122, eq_true c123, eq_false c169, eq_false c171, eq_false c173, eq_true c175])) (.nil _)))
                  · rw [if_neg c175] at h
                    refine AW.ifF rfl c175 ?_
                    refine AW.regionL [3, 4, 5, 6, 40] ?_
                    generalize hK : thenA _ _ Exit.normal = K
                    simp only [go_sem, ↓reduceIte, reduceCtorEq, Nat.reduceAdd, Nat.reduceSub, Nat.reduceMul, Nat.reduceEqDiff, Nat.reduceLT, Nat.reduceLeDiff, Nat.reduceBEq, Int.reduceAdd, Int.reduceSub, Int.reduceLT, Int.reduceLE, Int.reduceEq, Int.reduceToNat, eq_true c122, eq_true c123, eq_false c169, eq_false c171, eq_false c173, eq_false c175]
                    subst hK
                    refine thenA_n ?_
                    by_cases c177 : (x124.1.tmod 9) = 8
                    · rw [if_pos c177] at h
                      refine AW.ifT rfl c177 ?_
                      obtain ⟨x178, hx178, h⟩ := Option.bind_eq_some_iff.1 h
                      refine AW.regionL [3, 4, 5, 6] ?_
                      generalize hK : inBlockA _ _ Exit.normal = K
                      simp only [go_sem, ↓reduceIte, reduceCtorEq, Nat.reduceAdd, Nat.reduceSub, Nat.reduceMul, Nat.reduceEqDiff, Nat.reduceLT, Nat.reduceLeDiff, Nat.reduceBEq, Int.reduceAdd, Int.reduceSub, Int.reduceLT, Int.reduceLE, Int.reduceEq, Int.reduceToNat, eq_true c122, eq_true c123, eq_false c169, eq_false c171, eq_false c173, eq_false c175, eq_true c177]
                      refine arC.ok (CallOk.ic (us' := _) (ok79 ⟨j7_0⟩ x178 hx178) [8] rfl (by decide) (by simp) (by simp) (by simp) (by simp) (.cons (.eq (by simp only [go_sem]) (by first | rfl | simp [upd_ap, hpL_ap, sg_ap])) (.nil _)) (by simp only [mapTL_cons, mapTL_nil, mapT_ptr, mapT_val, mapT_sl, mapT_agg, mapT_ip, sg_ap, List.getD_cons_zero, List.getD_cons_succ]; exact (.cons (.of rfl) .nil)) (by simp only [go_sem, List.length_cons, List.length_nil, Nat.reduceAdd, Nat.reduceLT, decide_true]) (by simp [AObj.isMut]) (by simp [go_sem]) (by simp [go_sem])) Try.call79 ?_
                      simp only [go_sem, ↓reduceIte, reduceCtorEq, Nat.reduceAdd, Nat.reduceSub, Nat.reduceMul, Nat.reduceEqDiff, Nat.reduceLT, Nat.reduceLeDiff, Nat.reduceBEq, Int.reduceAdd, Int.reduceSub, Int.reduceLT, Int.reduceLE, Int.reduceEq, Int.reduceToNat, eq_true c122, eq_true c123, eq_false c169, eq_false c171, eq_false c173, eq_false c175, eq_true c177]
                      subst hK
                      refine block_n ?_
                      refine thenA_n ?_
                      refine ⟨_, h, ?_⟩
                      refine Ent.can [8, 9, 10] _ _ _ rfl (by first | decide | simp) rfl ?_ ?_ ?_
                      · exact ((((RF.any.pp (by decide) (by first | rfl | simp [upd_ap, hpL_ap, tau, mapT, mapTL, bytesI_len, eq_true c122, eq_true c123, eq_false c169, eq_false c171, eq_false c173, eq_false c175, eq_true c177])).put (by simp [tokL, tokLL, inlR]) (.of (by first | rfl | simp [upd_ap, hpL_ap, tau, mapT, mapTL, bytesI_len, eq_true c122, eq_true c123, eq_false c169, eq_false c171, eq_false c173, eq_false c175, eq_true c177]))).po (by decide) (by first | rfl | simp [upd_ap, hpL_ap, tau, mapT, mapTL, bytesI_len, eq_true c122, eq_true c123, eq_false c169, eq_false c171, eq_false c173, eq_false c175, eq_true c177])).pp (by decide) (by first | rfl | simp [upd_ap, hpL_ap, tau, mapT, mapTL, bytesI_len, eq_true c122, eq_true c123, eq_false c169, eq_false c171, eq_false c173, eq_false c175, eq_true c177]))
                      · exact .nil _
                      · exact .cons (.eq (by first | rfl | simp only [go_sem]) (by first | rfl | simp [upd_ap, hpL_ap, tau, mapT, mapTL, bytesI_len, eq_true c122, eq_true c123, eq_false c169, eq_false c171, eq_false c173, eq_false c175, eq_true c177])) (.cons (.eq (by first | rfl | simp only [go_sem]) (by first | rfl | simp [upd_ap, hpL_ap, tau, mapT, mapTL, bytesI_len, eq_true c122, eq_true c123, eq_false c169, eq_false c171, eq_false c173, eq_false c175, eq_true c177])) (.cons (.eq (by first | rfl | simp only [go_sem]) (by first | rfl | simp [upd_ap, hpL_ap, tau, mapT, mapTL, bytesI_len, eq_true c122, eq_true c123, eq_false c169, eq_false c171, eq_false c173, eq_false c175, eq_true c177])) (.nil _)))
                    · rw [if_neg c177] at h
                      refine AW.ifF rfl c177 ?_
                      refine AW.skip ?_
                      refine block_n ?_
                      refine thenA_n ?_
                      refine ⟨_, h, ?_⟩
                      refine Ent.can [8, 9, 10] _ _ _ rfl (by first | decide | simp) rfl ?_ ?_ ?_
                      · exact ((((RF.any.pp (by decide) (by first | rfl | simp [upd_ap, hpL_ap, tau, mapT, mapTL, bytesI_len, eq_true c122, eq_true c123, eq_false c169, eq_false c171, eq_false c173, eq_false c175, eq_false c177])).put (by simp [tokL, tokLL, inlR]) (.of (by first | rfl | simp [upd_ap, hpL_ap, tau, mapT, mapTL, bytesI_len, eq_true c122, eq_true c123, eq_false c169, eq_false c171, eq_false c173, eq_false c175, eq_false c177]))).po (by decide) (by first | rfl | simp [upd_ap, hpL_ap, tau, mapT, mapTL, bytesI_len, eq_true c122, eq_true c123, eq_false c169, eq_false c171, eq_false c173, eq_false c175, eq_false c177])).pp (by decide) (by first | rfl | simp [upd_ap, hpL_ap, tau, mapT, mapTL, bytesI_len, eq_true c122, eq_true c123, eq_false c169, eq_false c171, eq_false c173, eq_false c175, eq_false c177]))
                      · exact .nil _
                      · exact .cons (.eq (by first | rfl | simp only [go_sem]) (by first | rfl | simp [upd_ap, hpL_ap, tau, mapT, mapTL, bytesI_len, eq_true c122, eq_true c123, eq_false c169, eq_false c171, eq_false c173, eq_false c175, eq_false c177])) (.cons (.eq (by first | rfl | simp only [go_sem]) (by first | rfl | simp [upd_ap, hpL_ap, tau, mapT, mapTL, bytesI_len, eq_true c122, eq_true c123, eq_false c169, eq_false c171, eq_false c173, eq_false c175, eq_false c177])) (.cons (.eq (by first | rfl | simp only [go_sem]) (by first | rfl | simp [upd_ap, hpL_ap, tau, mapT, mapTL, bytesI_len, eq_true c122, eq_true c123, eq_false c169, eq_false c171, eq_false c173, eq_false c175, eq_false c177])) (.nil _)))
          · clear h
            rintro ⟨j8_0, j8_1⟩ h
            rw [f29_j8] at h
            refine AW.seq ?_
            refine AW.regL [3, 4, 5, 6, 50] ?_
            generalize hK : AW Try.prog _ _ _ = K
            simp only [go_sem, ↓reduceIte, reduceCtorEq, Nat.reduceAdd, Nat.reduceSub, Nat.reduceMul, Nat.reduceEqDiff, Nat.reduceLT, Nat.reduceLeDiff, Nat.reduceBEq, Int.reduceAdd, Int.reduceSub, Int.reduceLT, Int.reduceLE, Int.reduceEq, Int.reduceToNat, eq_true c122, eq_true c123]
            subst hK
            refine AW.block ?_
            refine AW.regL [3, 4, 5, 6, 50, 51] ?_
            generalize hK : AW Try.prog _ _ _ = K
            simp only [go_sem, ↓reduceIte, reduceCtorEq, Nat.reduceAdd, Nat.reduceSub, Nat.reduceMul, Nat.reduceEqDiff, Nat.reduceLT, Nat.reduceLeDiff, Nat.reduceBEq, Int.reduceAdd, Int.reduceSub, Int.reduceLT, Int.reduceLE, Int.reduceEq, Int.reduceToNat, eq_true c122, eq_true c123]
            subst hK
            by_cases c143 : (x124.1.tmod 9) = 5
            · rw [if_pos c143] at h
              refine AW.ifT rfl c143 ?_
              obtain ⟨x144, hx144, h⟩ := Option.bind_eq_some_iff.1 h
              refine AW.regionL [3, 4, 5, 6] ?_
              generalize hK : inBlockA _ _ Exit.normal = K
              simp only [go_sem, ↓reduceIte, reduceCtorEq, Nat.reduceAdd, Nat.reduceSub, Nat.reduceMul, Nat.reduceEqDiff, Nat.reduceLT, Nat.reduceLeDiff, Nat.reduceBEq, Int.reduceAdd, Int.reduceSub, Int.reduceLT, Int.reduceLE, Int.reduceEq, Int.reduceToNat, eq_true c122, eq_true c123, eq_true c143]
              refine arC.ok (CallOk.ic (us' := _) (ok79 ⟨j8_0⟩ x144 hx144) [8] rfl (by decide) (by simp) (by simp) (by simp) (by simp) (.cons (.eq (by simp only [go_sem]) (by first | rfl | simp [upd_ap, hpL_ap, sg_ap])) (.nil _)) (by simp only [mapTL_cons, mapTL_nil, mapT_ptr, mapT_val, mapT_sl, mapT_agg, mapT_ip, sg_ap, List.getD_cons_zero, List.getD_cons_succ]; exact (.cons (.of rfl) .nil)) (by simp only [go_sem, List.length_cons, List.length_nil, Nat.reduceAdd, Nat.reduceLT, decide_true]) (by simp [AObj.isMut]) (by simp [go_sem]) (by simp [go_sem])) Try.call79 ?_
              simp only [go_sem, ↓reduceIte, reduceCtorEq, Nat.reduceAdd, Nat.reduceSub, Nat.reduceMul, Nat.reduceEqDiff, Nat.reduceLT, Nat.reduceLeDiff, Nat.reduceBEq, Int.reduceAdd, Int.reduceSub, Int.reduceLT, Int.reduceLE, Int.reduceEq, Int.reduceToNat, eq_true c122, eq_true c123, eq_true c143]
              subst hK
              refine block_n ?_
              refine thenA_n ?_
              refine AW.ent (Ent.weakObj 10 rfl rfl (.cons (.of rfl) (.cons (.of rfl) (.cons (.of rfl) (.cons (.of rfl) (.cons Weak.nil WeakL.nil)))))) ?_
              obtain ⟨x145, hx145, h⟩ := Option.bind_eq_some_iff.1 h
              obtain ⟨hx145b, hx145e⟩ := appO?_some.1 hx145
              have hx145f : ∀ id o : Nat, appO 5 56 id ([[.val (.int .i64 (x124.1.tmod 9)), .val (.int .i64 j7_1), .val (.int .i64 j8_1), .val (.int .i64 x144.1), .sl []]]) 0 s1_1.length o (some (.row 5 true (List.map encStep s1_1))) = some ⟨.own id 0 x145.length, [(o, none), (id, some (.row 5 true (List.map encStep x145)))]⟩ := fun id o => by
                subst hx145e; rw [appO_ok (by simp) (by simpa using hx145b) (by decide)]; first | (simp [encStep]; done) | (simp [encStep]; omega)
              refine AW.regionL [3, 4, 5] ?_
              generalize hK : inBlockA _ _ Exit.normal = K
              simp only [go_sem, ↓reduceIte, reduceCtorEq, Nat.reduceAdd, Nat.reduceSub, Nat.reduceMul, Nat.reduceEqDiff, Nat.reduceLT, Nat.reduceLeDiff, Nat.reduceBEq, Int.reduceAdd, Int.reduceSub, Int.reduceLT, Int.reduceLE, Int.reduceEq, Int.reduceToNat, eq_true c122, eq_true c123, eq_true c143, hx145f]
              subst hK
              refine block_n ?_
              refine thenA_n ?_
              refine ⟨_, (Option.some.inj h).symm, ?_⟩
              refine Ent.can [8, 99] _ _ _ rfl (by first | decide | simp) rfl ?_ ?_ ?_
              · exact (((RF.any.pp (by decide) (by first | rfl | simp [upd_ap, hpL_ap, tau, mapT, mapTL, bytesI_len, eq_true c122, eq_true c123, eq_true c143])).put (by simp [tokL, tokLL, inlR]) (.of (by first | rfl | simp [upd_ap, hpL_ap, tau, mapT, mapTL, bytesI_len, eq_true c122, eq_true c123, eq_true c143]))).po (by decide) (by first | rfl | simp [upd_ap, hpL_ap, tau, mapT, mapTL, bytesI_len, eq_true c122, eq_true c123, eq_true c143]))
              · exact .nil _
              · exact .cons (.eq (by first | rfl | simp only [go_sem]) (by first | rfl | simp [upd_ap, hpL_ap, tau, mapT, mapTL, bytesI_len, eq_true c122, eq_true c123, eq_true c143])) (.cons (.eq (by first | rfl | simp only [go_sem]) (by first | rfl | simp [upd_ap, hpL_ap, tau, mapT, mapTL, bytesI_len, eq_true c122, eq_true c123, eq_true c143])) (.nil _))
            · rw [if_neg c143] at h
              refine AW.ifF rfl c143 ?_
              refine AW.join (fun s => ⟨(upd (upd (upd (upd (upd anyF 3 (.ptr 8 0 0)) 4 (.clo (.func 79) [.ptr 8 0 0] [])) 5 (.own 9 0 s1_1.length)) 6 (.ptr 10 0 0)) 56 (.val (.bool s))), hpL [] [some (.row 1 true [[.sl (List.map enc5 j8_0)]]), some (.row 5 true (List.map encStep s1_1)), some (.row 5 true [[.val (.int .i64 (x124.1.tmod 9)), .val (.int .i64 j7_1), .val (.int .i64 j8_1), .val (.int .i64 0), .val (.slice none 0 0)]])], 11⟩) (fun s => f29_j9 s1_1 x124 j7_1 j8_0 j8_1 s = some x) ?_ ?_
              · refine AW.regL [3, 4, 5, 6, 50, 56] ?_
                generalize hK : AW Try.prog _ _ _ = K
                simp only [go_sem, ↓reduceIte, reduceCtorEq, Nat.reduceAdd, Nat.reduceSub, Nat.reduceMul, Nat.reduceEqDiff, Nat.reduceLT, Nat.reduceLeDiff, Nat.reduceBEq, Int.reduceAdd, Int.reduceSub, Int.reduceLT, Int.reduceLE, Int.reduceEq, Int.reduceToNat, eq_true c122, eq_true c123, eq_false c143]
                subst hK
                by_cases c168 : (x124.1.tmod 9) = 6
                · rw [if_pos c168] at h
                  refine AW.ifT rfl c168 ?_
                  refine AW.skip ?_
                  refine thenA_n ?_
                  refine ⟨_, h, ?_⟩
                  refine Ent.can [8, 9, 10] _ _ _ rfl (by first | decide | simp) rfl ?_ ?_ ?_
                  · exact (((((RF.any.pp (by decide) (by first | rfl | simp [upd_ap, hpL_ap, tau, mapT, mapTL, bytesI_len, eq_true c122, eq_true c123, eq_false c143, eq_true c168])).put (by simp [tokL, tokLL, inlR]) (.of (by first | rfl | simp [upd_ap, hpL_ap, tau, mapT, mapTL, bytesI_len, eq_true c122, eq_true c123, eq_false c143, eq_true c168]))).po (by decide) (by first | rfl | simp [upd_ap, hpL_ap, tau, mapT, mapTL, bytesI_len, eq_true c122, eq_true c123, eq_false c143, eq_true c168])).pp (by decide) (by first | rfl | simp [upd_ap, hpL_ap, tau, mapT, mapTL, bytesI_len, eq_true c122, eq_true c123, eq_false c143, eq_true c168])).pv (by first | rfl | simp only [go_sem]) (by first | rfl | simp [upd_ap, hpL_ap, tau, mapT, mapTL, bytesI_len, eq_true c122, eq_true c123, eq_false c143, eq_true c168]))
                  · exact .nil _
                  · exact .cons (.eq (by first | rfl | simp only [go_sem]) (by first | rfl | simp [upd_ap, hpL_ap, tau, mapT, mapTL, bytesI_len, eq_true c122, eq_true c123, eq_false c143, eq_true c168])) (.cons (.eq (by first | rfl | simp only [go_sem]) (by first | rfl | simp [upd_ap, hpL_ap, tau, mapT, mapTL, bytesI_len, eq_true c122, eq_true c123, eq_false c143, eq_true c168])) (.cons (.eq (by first | rfl | simp only [go_sem]) (by first | rfl | simp [upd_ap, hpL_ap, tau, mapT, mapTL, bytesI_len, eq_true c122, eq_true c123, eq_false c143, eq_true c168])) (.nil _)))
                · rw [if_neg c168] at h
                  refine AW.ifF rfl c168 ?_
                  refine AW.regionL [3, 4, 5, 6, 56] ?_
                  generalize hK : thenA _ _ Exit.normal = K
                  simp only [go_sem, ↓reduceIte, reduceCtorEq, Nat.reduceAdd, Nat.reduceSub, Nat.reduceMul, Nat.reduceEqDiff, Nat.reduceLT, Nat.reduceLeDiff, Nat.reduceBEq, Int.reduceAdd, Int.reduceSub, Int.reduceLT, Int.reduceLE, Int.reduceEq, Int.reduceToNat, eq_true c122, eq_true c123, eq_false c143, eq_false c168]
                  subst hK
                  refine thenA_n ?_
                  refine ⟨_, h, ?_⟩
                  refine Ent.can [8, 9, 10] _ _ _ rfl (by first | decide | simp) rfl ?_ ?_ ?_
                  · exact (((((RF.any.pp (by decide) (by first | rfl | simp [upd_ap, hpL_ap, tau, mapT, mapTL, bytesI_len, eq_true c122, eq_true c123, eq_false c143, eq_false c168])).put (by simp [tokL, tokLL, inlR]) (.of (by first | rfl | simp [upd_ap, hpL_ap, tau, mapT, mapTL, bytesI_len, eq_true c122, eq_true c123, eq_false c143, eq_false c168]))).po (by decide) (by first | rfl | simp [upd_ap, hpL_ap, tau, mapT, mapTL, bytesI_len, eq_true c122, eq_true c123, eq_false c143, eq_false c168])).pp (by decide) (by first | rfl | simp [upd_ap, hpL_ap, tau, mapT, mapTL, bytesI_len, eq_true c122, eq_true c123, eq_false c143, eq_false c168])).pv (by first | rfl | simp only [go_sem]) (by first | rfl | simp [upd_ap, hpL_ap, tau, mapT, mapTL, bytesI_len, eq_true c122, eq_true c123, eq_false c143, eq_false c168]))
                  · exact .nil _
                  · exact .cons (.eq (by first | rfl | simp only [go_sem]) (by first | rfl | simp [upd_ap, hpL_ap, tau, mapT, mapTL, bytesI_len, eq_true c122, eq_true c123, eq_false c143, eq_false c168])) (.cons (.eq (by first | rfl | simp only [go_sem]) (by first | rfl | simp [upd_ap, hpL_ap, tau, mapT, mapTL, bytesI_len, eq_true c122, eq_true c123, eq_false c143, eq_false c168])) (.cons (.eq (by first | rfl | simp only [go_sem]) (by first | rfl | simp [upd_ap, hpL_ap, tau, mapT, mapTL, bytesI_len, eq_true c122, eq_true c123, eq_false c143, eq_false c168])) (.nil _)))
              · clear h
                rintro j9_0 h
                rw [f29_j9] at h
                by_cases c147 : j9_0 = true
                · rw [if_pos c147] at h
                  refine AW.ifBT rfl c147 ?_
                  obtain ⟨x148, hx148, h⟩ := Option.bind_eq_some_iff.1 h
                  refine AW.regL [3, 4, 5, 6, 61, 62] ?_
                  generalize hK : AW Try.prog _ _ _ = K
                  simp only [go_sem, ↓reduceIte, reduceCtorEq, Nat.reduceAdd, Nat.reduceSub, Nat.reduceMul, Nat.reduceEqDiff, Nat.reduceLT, Nat.reduceLeDiff, Nat.reduceBEq, Int.reduceAdd, Int.reduceSub, Int.reduceLT, Int.reduceLE, Int.reduceEq, Int.reduceToNat, eq_true c122, eq_true c123, eq_false c143, c147]
                  refine arC.ok (CallOk.ic (us' := _) (ok79 ⟨j8_0⟩ x148 hx148) [8] rfl (by decide) (by simp) (by simp) (by simp) (by simp) (.cons (.eq (by simp only [go_sem]) (by first | rfl | simp [upd_ap, hpL_ap, sg_ap])) (.nil _)) (by simp only [mapTL_cons, mapTL_nil, mapT_ptr, mapT_val, mapT_sl, mapT_agg, mapT_ip, sg_ap, List.getD_cons_zero, List.getD_cons_succ]; exact (.cons (.of rfl) .nil)) (by simp only [go_sem, List.length_cons, List.length_nil, Nat.reduceAdd, Nat.reduceLT, decide_true]) (by simp [AObj.isMut]) (by simp [go_sem]) (by simp [go_sem])) Try.call79 ?_
                  simp only [go_sem, ↓reduceIte, reduceCtorEq, Nat.reduceAdd, Nat.reduceSub, Nat.reduceMul, Nat.reduceEqDiff, Nat.reduceLT, Nat.reduceLeDiff, Nat.reduceBEq, Int.reduceAdd, Int.reduceSub, Int.reduceLT, Int.reduceLE, Int.reduceEq, Int.reduceToNat, eq_true c122, eq_true c123, eq_false c143, c147]
                  subst hK
                  refine AW.block ?_
                  obtain ⟨y163, hy163, h⟩ := Option.bind_eq_some_iff.1 h
                  refine AW.loopO (fun s => ⟨(upd (upd (upd (upd (upd (upd anyF 3 (.ptr 8 0 0)) 4 (.clo (.func 79) [.ptr 8 0 0] [])) 5 (.own 9 0 s1_1.length)) 6 (.ptr 10 0 0)) 61 (.val (.int .i64 (x148.1.tmod 4)))) 62 (.val (.int .i64 s.2.2))), hpL [] [some (.row 1 true [[.sl (List.map enc5 s.1)]]), some (.row 5 true (List.map encStep s1_1)), some (.row 5 true [[.val (.int .i64 (x124.1.tmod 9)), .val (.int .i64 j7_1), .val (.int .i64 j8_1), .val (.int .i64 0), .own 11 0 s.2.1.length]]), some (.row 1 true (List.map enc3 s.2.1))], 12⟩) (fun z e st' => e = Exit.exit 5 ∧ st' = ⟨(upd (upd (upd (upd anyF 3 (.ptr 8 0 0)) 4 (.clo (.func 79) [.ptr 8 0 0] [])) 5 (.own 9 0 s1_1.length)) 6 (.ptr 10 0 0)), hpL [] [some (.row 1 true [[.sl (List.map enc5 z.1)]]), some (.row 5 true (List.map encStep s1_1)), some (.row 5 true [[.val (.int .i64 (x124.1.tmod 9)), .val (.int .i64 j7_1), .val (.int .i64 j8_1), .val (.int .i64 0), .own 11 0 z.2.length]]), some (.row 1 true (List.map enc3 z.2))], 12⟩) hy163 ?_ ?_ ?_
                  · refine Ent.trans (Ent.nilCell 10 4 1 (by decide) (by first | rfl | simp [upd_ap]) rfl) ?_
                    refine Ent.can [8, 9, 10, 43] _ _ _ rfl (by first | decide | simp) rfl ?_ ?_ ?_
                    · exact ((((((RF.any.pp (by decide) (by first | rfl | simp [upd_ap, hpL_ap, tau, mapT, mapTL, bytesI_len, eq_true c122, eq_true c123, eq_false c143, c147])).put (by simp [tokL, tokLL, inlR]) (.of (by first | rfl | simp [upd_ap, hpL_ap, tau, mapT, mapTL, bytesI_len, eq_true c122, eq_true c123, eq_false c143, c147]))).po (by decide) (by first | rfl | simp [upd_ap, hpL_ap, tau, mapT, mapTL, bytesI_len, eq_true c122, eq_true c123, eq_false c143, c147])).pp (by decide) (by first | rfl | simp [upd_ap, hpL_ap, tau, mapT, mapTL, bytesI_len, eq_true c122, eq_true c123, eq_false c143, c147])).pv (by first | rfl | simp only [go_sem]) (by first | rfl | simp [upd_ap, hpL_ap, tau, mapT, mapTL, bytesI_len, eq_true c122, eq_true c123, eq_false c143, c147])).pv (by first | rfl | simp only [go_sem]) (by first | rfl | simp [upd_ap, hpL_ap, tau, mapT, mapTL, bytesI_len, eq_true c122, eq_true c123, eq_false c143, c147]))
                    · exact .nil _
                    · exact .cons (.eq (by first | rfl | simp only [go_sem]) (by first | rfl | simp [upd_ap, hpL_ap, tau, mapT, mapTL, bytesI_len, eq_true c122, eq_true c123, eq_false c143, c147])) (.cons (.eq (by first | rfl | simp only [go_sem]) (by first | rfl | simp [upd_ap, hpL_ap, tau, mapT, mapTL, bytesI_len, eq_true c122, eq_true c123, eq_false c143, c147])) (.cons (.tok (by simp [tokL, tokLL, inlR]) (by first | rfl | simp [upd_ap, hpL_ap, tau, mapT, mapTL, bytesI_len, eq_true c122, eq_true c123, eq_false c143, c147])) (.cons (.eq (by first | rfl | simp only [go_sem]) (by first | rfl | simp [upd_ap, hpL_ap, tau, mapT, mapTL, bytesI_len, eq_true c122, eq_true c123, eq_false c143, c147])) (.nil _))))
                  · clear h hy163
                    rintro ⟨s4_0, s4_1, s4_2⟩ x h
                    rw [f29_s4] at h
                    refine AW.regL [3, 4, 5, 6, 61, 62, 63] ?_
                    generalize hK : AW Try.prog _ _ _ = K
                    simp only [go_sem, ↓reduceIte, reduceCtorEq, Nat.reduceAdd, Nat.reduceSub, Nat.reduceMul, Nat.reduceEqDiff, Nat.reduceLT, Nat.reduceLeDiff, Nat.reduceBEq, Int.reduceAdd, Int.reduceSub, Int.reduceLT, Int.reduceLE, Int.reduceEq, Int.reduceToNat, eq_true c122, eq_true c123, eq_false c143, c147]
                    subst hK
                    refine AW.seq ?_
                    by_cases c160 : s4_2 < (x148.1.tmod 4)
                    · rw [if_pos c160] at h
                      refine AW.ifT rfl c160 ?_
                      refine AW.skip ?_
                      refine thenA_n ?_
                      refine AW.seq ?_
                      refine AW.block ?_
                      obtain ⟨x161, hx161, h⟩ := Option.bind_eq_some_iff.1 h
                      obtain ⟨x162, hx162, h⟩ := Option.bind_eq_some_iff.1 h
                      obtain ⟨hx162b, hx162e⟩ := appO?_some.1 hx162
                      have hx162f : ∀ id o : Nat, appO 1 8 id ([[.val (.int .i64 x161.1)]]) 0 s4_1.length o (some (.row 1 true (List.map enc3 s4_1))) = some ⟨.own id 0 x162.length, [(o, none), (id, some (.row 1 true (List.map enc3 x162)))]⟩ := fun id o => by
                        subst hx162e; rw [appO_ok (by simp) (by simpa using hx162b) (by decide)]; first | (simp [enc3]; done) | (simp [enc3]; omega)
                      refine AW.drawL [3, 4, 5, 6, 61, 62] [[], [0], [], [2], [2, 3], [0, 1, 2, 3, 4], [0, 1, 2, 3, 4, 5], [0, 1, 2, 3, 4, 5, 6]] [0, 1, 2, 3, 4, 5, 6, 7] noFt (fun _ _ _ h => by simp [noFt] at h) draws (by kernel_rfl) (by kernel_rfl) ?_
                      generalize hK : inBlockA _ _ Exit.normal = K
                      simp only [go_sem, ↓reduceIte, reduceCtorEq, Nat.reduceAdd, Nat.reduceSub, Nat.reduceMul, Nat.reduceEqDiff, Nat.reduceLT, Nat.reduceLeDiff, Nat.reduceBEq, Int.reduceAdd, Int.reduceSub, Int.reduceLT, Int.reduceLE, Int.reduceEq, Int.reduceToNat, eq_true c122, eq_true c123, eq_false c143, c147, eq_true c160, hx162f]
                      refine adN.ic (ok79 ⟨s4_0⟩ x161 hx161) Try.call79 (callV_tmp (by simp only [upd_ap, Nat.reduceEqDiff, if_true, if_false, ↓reduceIte]; rfl)) [8] rfl (by decide) (by simp) (by simp) (by simp) (by simp) (.cons (.eq (by simp only [go_sem]) (by first | rfl | simp [upd_ap, hpL_ap, sg_ap])) (.nil _)) (by simp only [List.nil_append, List.append_nil, List.cons_append, List.map_cons, List.map_nil, evF_tmp, evF_const, upd_ap, Nat.reduceEqDiff, if_true, if_false, ↓reduceIte, mapTL_cons, mapTL_nil, mapT_ptr, mapT_val, mapT_sl, mapT_agg, mapT_ip, sg_ap, List.getD_cons_zero, List.getD_cons_succ]; exact (.cons (.of rfl) .nil)) (by simp only [go_sem, List.length_cons, List.length_nil, Nat.reduceAdd, Nat.reduceLT, decide_true]) (by simp [AObj.isMut]) (by simp [go_sem]) (by simp [go_sem]) ?_
                      simp only [go_sem, ↓reduceIte, reduceCtorEq, Nat.reduceAdd, Nat.reduceSub, Nat.reduceMul, Nat.reduceEqDiff, Nat.reduceLT, Nat.reduceLeDiff, Nat.reduceBEq, Int.reduceAdd, Int.reduceSub, Int.reduceLT, Int.reduceLE, Int.reduceEq, Int.reduceToNat, eq_true c122, eq_true c123, eq_false c143, c147, eq_true c160, hx162f]
                      subst hK
                      refine block_n ?_
                      refine thenA_n ?_
                      refine AW.regionL [3, 4, 5, 6, 61, 62] ?_
                      generalize hK : thenA _ _ Exit.normal = K
                      simp only [go_sem, ↓reduceIte, reduceCtorEq, Nat.reduceAdd, Nat.reduceSub, Nat.reduceMul, Nat.reduceEqDiff, Nat.reduceLT, Nat.reduceLeDiff, Nat.reduceBEq, Int.reduceAdd, Int.reduceSub, Int.reduceLT, Int.reduceLE, Int.reduceEq, Int.reduceToNat, eq_true c122, eq_true c123, eq_false c143, c147, eq_true c160]
                      subst hK
                      refine thenA_n ?_
                      refine ⟨_, (Option.some.inj h).symm, ?_⟩
                      refine Ent.can [8, 9, 10, 60] _ _ _ rfl (by first | decide | simp) rfl ?_ ?_ ?_
                      · exact ((((((RF.any.pp (by decide) (by first | rfl | simp [upd_ap, hpL_ap, tau, mapT, mapTL, bytesI_len, eq_true c122, eq_true c123, eq_false c143, c147, eq_true c160])).put (by simp [tokL, tokLL, inlR]) (.of (by first | rfl | simp [upd_ap, hpL_ap, tau, mapT, mapTL, bytesI_len, eq_true c122, eq_true c123, eq_false c143, c147, eq_true c160]))).po (by decide) (by first | rfl | simp [upd_ap, hpL_ap, tau, mapT, mapTL, bytesI_len, eq_true c122, eq_true c123, eq_false c143, c147, eq_true c160])).pp (by decide) (by first | rfl | simp [upd_ap, hpL_ap, tau, mapT, mapTL, bytesI_len, eq_true c122, eq_true c123, eq_false c143, c147, eq_true c160])).pv (by first | rfl | simp only [go_sem]) (by first | rfl | simp [upd_ap, hpL_ap, tau, mapT, mapTL, bytesI_len, eq_true c122, eq_true c123, eq_false c143, c147, eq_true c160])).pv (by first | rfl | simp only [go_sem]) (by first | rfl | simp [upd_ap, hpL_ap, tau, mapT, mapTL, bytesI_len, eq_true c122, eq_true c123, eq_false c143, c147, eq_true c160]))
                      · exact .nil _
                      · exact .cons (.eq (by first | rfl | simp only [go_sem]) (by first | rfl | simp [upd_ap, hpL_ap, tau, mapT, mapTL, bytesI_len, eq_true c122, eq_true c123, eq_false c143, c147, eq_true c160])) (.cons (.eq (by first | rfl | simp only [go_sem]) (by first | rfl | simp [upd_ap, hpL_ap, tau, mapT, mapTL, bytesI_len, eq_true c122, eq_true c123, eq_false c143, c147, eq_true c160])) (.cons (.tok (by simp [tokL, tokLL, inlR]) (by first | rfl | simp [upd_ap, hpL_ap, tau, mapT, mapTL, bytesI_len, eq_true c122, eq_true c123, eq_false c143, c147, eq_true c160])) (.cons (.eq (by first | rfl | simp only [go_sem]) (by first | rfl | simp [upd_ap, hpL_ap, tau, mapT, mapTL, bytesI_len, eq_true c122, eq_true c123, eq_false c143, c147, eq_true c160])) (.nil _))))
                    · rw [if_neg c160] at h
                      refine AW.ifF rfl c160 ?_
                      refine AW.exit ?_
                      refine thenA_x ?_
                      refine thenA_x ?_
                      refine ⟨_, (Option.some.inj h).symm, _, ?_, rfl, rfl⟩
                      refine Ent.can [8, 9, 10, 11] _ _ _ rfl (by first | decide | simp) rfl ?_ ?_ ?_
                      · exact ((((RF.any.pp (by decide) (by first | rfl | simp [upd_ap, hpL_ap, tau, mapT, mapTL, bytesI_len, eq_true c122, eq_true c123, eq_false c143, c147, eq_false c160])).put (by simp [tokL, tokLL, inlR]) (.of (by first | rfl | simp [upd_ap, hpL_ap, tau, mapT, mapTL, bytesI_len, eq_true c122, eq_true c123, eq_false c143, c147, eq_false c160]))).po (by decide) (by first | rfl | simp [upd_ap, hpL_ap, tau, mapT, mapTL, bytesI_len, eq_true c122, eq_true c123, eq_false c143, c147, eq_false c160])).pp (by decide) (by first | rfl | simp [upd_ap, hpL_ap, tau, mapT, mapTL, bytesI_len, eq_true c122, eq_true c123, eq_false c143, c147, eq_false c160]))
                      · exact .nil _
                      · exact .cons (.eq (by first | rfl | simp only [go_sem]) (by first | rfl | simp [upd_ap, hpL_ap, tau, mapT, mapTL, bytesI_len, eq_true c122, eq_true c123, eq_false c143, c147, eq_false c160])) (.cons (.eq (by first | rfl | simp only [go_sem]) (by first | rfl | simp [upd_ap, hpL_ap, tau, mapT, mapTL, bytesI_len, eq_true c122, eq_true c123, eq_false c143, c147, eq_false c160])) (.cons (.tok (by simp [tokL, tokLL, inlR]) (by first | rfl | simp [upd_ap, hpL_ap, tau, mapT, mapTL, bytesI_len, eq_true c122, eq_true c123, eq_false c143, c147, eq_false c160])) (.cons (.eq (by first | rfl | simp only [go_sem]) (by first | rfl | simp [upd_ap, hpL_ap, tau, mapT, mapTL, bytesI_len, eq_true c122, eq_true c123, eq_false c143, c147, eq_false c160])) (.nil _))))
                  · intro e st' hX
                    obtain ⟨y164, y165⟩ := y163
                    try dsimp only at h
                    try dsimp only at hX
                    obtain ⟨rfl, rfl⟩ := hX
                    refine ⟨_, Ent.refl, ?_⟩
                    refine block_x ?_
                    refine block_n ?_
                    refine thenA_n ?_
                    refine AW.ent (Ent.stillObj (pre := [.val (.int .i64 (x124.1.tmod 9)), .val (.int .i64 j7_1), .val (.int .i64 j8_1), .val (.int .i64 0)]) (post := []) (q := 11) (off := 0) (len := y165.length) 10 rfl (own_sl (sz := 1) (m := true) rfl (by first | rfl | simp [bytesI_len]) (by simp only [go_sem])) (by decide)) ?_
                    obtain ⟨x166, hx166, h⟩ := Option.bind_eq_some_iff.1 h
                    obtain ⟨hx166b, hx166e⟩ := appO?_some.1 hx166
                    have hx166f : ∀ id o : Nat, appO 5 56 id ([[.val (.int .i64 (x124.1.tmod 9)), .val (.int .i64 j7_1), .val (.int .i64 j8_1), .val (.int .i64 0), .sl (List.map enc3 y165)]]) 0 s1_1.length o (some (.row 5 true (List.map encStep s1_1))) = some ⟨.own id 0 x166.length, [(o, none), (id, some (.row 5 true (List.map encStep x166)))]⟩ := fun id o => by
                      subst hx166e; rw [appO_ok (by simp) (by simpa using hx166b) (by decide)]; first | (simp [encStep]; done) | (simp [encStep]; omega)
                    refine AW.regionL [3, 4, 5] ?_
                    generalize hK : inBlockA _ _ Exit.normal = K
                    simp only [go_sem, ↓reduceIte, reduceCtorEq, Nat.reduceAdd, Nat.reduceSub, Nat.reduceMul, Nat.reduceEqDiff, Nat.reduceLT, Nat.reduceLeDiff, Nat.reduceBEq, Int.reduceAdd, Int.reduceSub, Int.reduceLT, Int.reduceLE, Int.reduceEq, Int.reduceToNat, eq_true c122, eq_true c123, eq_false c143, c147, hx166f]
                    subst hK
                    refine block_n ?_
                    refine thenA_n ?_
                    refine ⟨_, (Option.some.inj h).symm, ?_⟩
                    refine Ent.can [8, 36] _ _ _ rfl (by first | decide | simp) rfl ?_ ?_ ?_
                    · exact (((RF.any.pp (by decide) (by first | rfl | simp [upd_ap, hpL_ap, tau, mapT, mapTL, bytesI_len, eq_true c122, eq_true c123, eq_false c143, c147])).put (by simp [tokL, tokLL, inlR]) (.of (by first | rfl | simp [upd_ap, hpL_ap, tau, mapT, mapTL, bytesI_len, eq_true c122, eq_true c123, eq_false c143, c147]))).po (by decide) (by first | rfl | simp [upd_ap, hpL_ap, tau, mapT, mapTL, bytesI_len, eq_true c122, eq_true c123, eq_false c143, c147]))
                    · exact .nil _
                    · exact .cons (.eq (by first | rfl | simp only [go_sem]) (by first | rfl | simp [upd_ap, hpL_ap, tau, mapT, mapTL, bytesI_len, eq_true c122, eq_true c123, eq_false c143, c147])) (.cons (.eq (by first | rfl | simp only [go_sem]) (by first | rfl | simp [upd_ap, hpL_ap, tau, mapT, mapTL, bytesI_len, eq_true c122, eq_true c123, eq_false c143, c147])) (.nil _))
                · rw [if_neg c147] at h
                  rw [Bool.not_eq_true] at c147
                  refine AW.ifBF rfl c147 ?_
                  refine AW.skip ?_
                  refine block_n ?_
                  refine thenA_n ?_
                  refine AW.ent (Ent.weakObj 10 rfl rfl (.cons (.of rfl) (.cons (.of rfl) (.cons (.of rfl) (.cons (.of rfl) (.cons Weak.nil WeakL.nil)))))) ?_
                  obtain ⟨x167, hx167, h⟩ := Option.bind_eq_some_iff.1 h
                  obtain ⟨hx167b, hx167e⟩ := appO?_some.1 hx167
                  have hx167f : ∀ id o : Nat, appO 5 56 id ([[.val (.int .i64 (x124.1.tmod 9)), .val (.int .i64 j7_1), .val (.int .i64 j8_1), .val (.int .i64 0), .sl []]]) 0 s1_1.length o (some (.row 5 true (List.map encStep s1_1))) = some ⟨.own id 0 x167.length, [(o, none), (id, some (.row 5 true (List.map encStep x167)))]⟩ := fun id o => by
                    subst hx167e; rw [appO_ok (by simp) (by simpa using hx167b) (by decide)]; first | (simp [encStep]; done) | (simp [encStep]; omega)
                  refine AW.regionL [3, 4, 5] ?_
                  generalize hK : inBlockA _ _ Exit.normal = K
                  simp only [go_sem, ↓reduceIte, reduceCtorEq, Nat.reduceAdd, Nat.reduceSub, Nat.reduceMul, Nat.reduceEqDiff, Nat.reduceLT, Nat.reduceLeDiff, Nat.reduceBEq, Int.reduceAdd, Int.reduceSub, Int.reduceLT, Int.reduceLE, Int.reduceEq, Int.reduceToNat, eq_true c122, eq_true c123, eq_false c143, c147, hx167f]
                  subst hK
                  refine block_n ?_
                  refine thenA_n ?_
                  refine ⟨_, (Option.some.inj h).symm, ?_⟩
                  refine Ent.can [8, 35] _ _ _ rfl (by first | decide | simp) rfl ?_ ?_ ?_
                  · exact (((RF.any.pp (by decide) (by first | rfl | simp [upd_ap, hpL_ap, tau, mapT, mapTL, bytesI_len, eq_true c122, eq_true c123, eq_false c143, c147])).put (by simp [tokL, tokLL, inlR]) (.of (by first | rfl | simp [upd_ap, hpL_ap, tau, mapT, mapTL, bytesI_len, eq_true c122, eq_true c123, eq_false c143, c147]))).po (by decide) (by first | rfl | simp [upd_ap, hpL_ap, tau, mapT, mapTL, bytesI_len, eq_true c122, eq_true c123, eq_false c143, c147]))
                  · exact .nil _
                  · exact .cons (.eq (by first | rfl | simp only [go_sem]) (by first | rfl | simp [upd_ap, hpL_ap, tau, mapT, mapTL, bytesI_len, eq_true c122, eq_true c123, eq_false c143, c147])) (.cons (.eq (by first | rfl | simp only [go_sem]) (by first | rfl | simp [upd_ap, hpL_ap, tau, mapT, mapTL, bytesI_len, eq_true c122, eq_true c123, eq_false c143, c147])) (.nil _))
      · rw [if_neg c123] at h
        refine AW.ifF rfl c123 ?_
        refine AW.exit ?_
        refine thenA_x ?_
        refine thenA_x ?_
        refine ⟨_, (Option.some.inj h).symm, _, ?_, rfl, rfl⟩
        refine Ent.can [9] _ _ _ rfl (by first | decide | simp) rfl ?_ ?_ ?_
        · exact (RF.any.po (by decide) (by first | rfl | simp [upd_ap, hpL_ap, tau, mapT, mapTL, bytesI_len, eq_true c122, eq_false c123]))
        · exact .nil _
        · exact .cons (.eq (by first | rfl | simp only [go_sem]) (by first | rfl | simp [upd_ap, hpL_ap, tau, mapT, mapTL, bytesI_len, eq_true c122, eq_false c123])) (.nil _)
    · rw [if_neg c122] at h
      refine AW.regL [3, 4, 5, 22] ?_
      generalize hK : AW Try.prog _ _ _ = K
      simp only [go_sem, ↓reduceIte, reduceCtorEq, Nat.reduceAdd, Nat.reduceSub, Nat.reduceMul, Nat.reduceEqDiff, Nat.reduceLT, Nat.reduceLeDiff, Nat.reduceBEq, Int.reduceAdd, Int.reduceSub, Int.reduceLT, Int.reduceLE, Int.reduceEq, Int.reduceToNat, eq_false c122]
      subst hK
      refine AW.ifBF rfl rfl ?_
      refine AW.exit ?_
      refine thenA_x ?_
      refine thenA_x ?_
      refine ⟨_, (Option.some.inj h).symm, _, ?_, rfl, rfl⟩
      refine Ent.can [9] _ _ _ rfl (by first | decide | simp) rfl ?_ ?_ ?_
      · exact (RF.any.po (by decide) (by first | rfl | simp [upd_ap, hpL_ap, tau, mapT, mapTL, bytesI_len, eq_false c122]))
      · exact .nil _
      · exact .cons (.eq (by first | rfl | simp only [go_sem]) (by first | rfl | simp [upd_ap, hpL_ap, tau, mapT, mapTL, bytesI_len, eq_false c122])) (.nil _)
  · intro e st' hX
    try dsimp only at h
    try dsimp only at hX
    obtain ⟨rfl, rfl⟩ := hX
    refine ⟨_, Ent.refl, ?_⟩
    refine block_x ?_
    refine thenA_n ?_
    refine AW.regL [2] ?_
    generalize hK : AW Try.prog _ _ _ = K
    simp only [go_sem, ↓reduceIte, reduceCtorEq, Nat.reduceAdd, Nat.reduceSub, Nat.reduceMul, Nat.reduceEqDiff, Nat.reduceLT, Nat.reduceLeDiff, Nat.reduceBEq, Int.reduceAdd, Int.reduceSub, Int.reduceLT, Int.reduceLE, Int.reduceEq, Int.reduceToNat]
    subst hK
    refine AW.ret ?_
    obtain rfl := Option.some.inj h
    (simp only [go_sem, ↓reduceIte, reduceCtorEq, Nat.reduceAdd, Nat.reduceSub, Nat.reduceMul, Nat.reduceEqDiff, Nat.reduceLT, Nat.reduceLeDiff, Nat.reduceBEq, Int.reduceAdd, Int.reduceSub, Int.reduceLT, Int.reduceLE, Int.reduceEq, Int.reduceToNat, finA, resA, resOf_1, resOf_2, sealV_val, sealV_sl, sealV_ip, sealV_agg, sealV_tup, sealV_own, sealL_nil, sealL_cons] <;> try simp)
end Au
end Go.Proofs.Y1
