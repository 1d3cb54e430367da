import Derived.Test.YtbdncmljibideaaGreatDoorGnUaf
import Derived.Test.YtbdncmljibideaaGreatDoorGnUah
import Derived.Test.YtbdncmljibideaaGreatDoorGnUae
import Derived.RangeFuncFrom
set_option linter.all false
set_option linter.unusedVariables false
set_option linter.unusedSimpArgs false
set_option linter.all false
set_option maxRecDepth 8000
set_option maxHeartbeats 1000000
namespace Go.Proofs.Yt
open Go.Gm
namespace Au
noncomputable def f166_s2 (x1 : Int × Reader) : (List Int) × Int × Int × (List Int) × Int → Option (((List Int) × Int × Int × (List Int) × Int) ⊕ ((List Int) × Int × Int × (List Int)))
  | (s2_0, s2_1, s2_2, s2_3, s2_4) => (if s2_4 < (IntKind.i64.wrap (x1.1.tdiv 2)) then (if s2_2 = 0 then ((f165 ⟨s2_0, s2_1, s2_2⟩).bind fun x39 => ((f176 x39.2 s2_3 x39.1).bind fun x40 => some (.inl (x40.2.b, x40.2.at_, x40.2.e, x40.1, IntKind.i64.wrap (s2_4 + 1))))) else some (.inl (s2_0, s2_1, s2_2, s2_3, IntKind.i64.wrap (s2_4 + 1)))) else some (.inr (s2_0, s2_1, s2_2, s2_3)))
noncomputable def f166_s3 (x1 : Int × Reader) (x46 : Int × Reader) (x47 : Int × Reader) : (List Int) × Int × Int × (List Int) × Int → Option (((List Int) × Int × Int × (List Int) × Int) ⊕ ((List Int) × Int × Int × (List Int)))
  | (s3_0, s3_1, s3_2, s3_3, s3_4) => (if s3_4 < (IntKind.i64.wrap (x1.1.tdiv 2)) then (if s3_2 = 0 then (if s3_4 = 0 then ((f176 ⟨s3_0, s3_1, s3_2⟩ s3_3 x46.1).bind fun x68 => some (.inl (x68.2.b, x68.2.at_, x68.2.e, x68.1, IntKind.i64.wrap (s3_4 + 1)))) else ((f176 ⟨s3_0, s3_1, s3_2⟩ s3_3 x47.1).bind fun x69 => some (.inl (x69.2.b, x69.2.at_, x69.2.e, x69.1, IntKind.i64.wrap (s3_4 + 1))))) else some (.inr (s3_0, s3_1, s3_2, s3_3))) else some (.inr (s3_0, s3_1, s3_2, s3_3)))
noncomputable def f166_j1 (a1 : List Int) (x1 : Int × Reader) : Int → Option ((List Int) × Reader)
  | j1_0 => (if j1_0 = 0 then (if (x1.1.tmod 2) = 0 then ((loopO (f166_s2 x1) (x1.2.b, x1.2.at_, j1_0, a1, 0)).bind fun y41 => match y41 with | (y42, y43, y44, y45) => some (y45, ⟨y42, y43, y44⟩)) else ((f165 ⟨x1.2.b, x1.2.at_, j1_0⟩).bind fun x46 => ((f165 x46.2).bind fun x47 => ((loopO (f166_s3 x1 x46 x47) (x47.2.b, x47.2.at_, x47.2.e, a1, 0)).bind fun y70 => match y70 with | (y71, y72, y73, y74) => some (y74, ⟨y71, y72, y73⟩))))) else some (a1, ⟨x1.2.b, x1.2.at_, j1_0⟩))
noncomputable def f166 (a0 : Reader) (a1 : List Int) : Option ((List Int) × Reader) := ((f165 a0).bind fun x1 => (if 65536 < (IntKind.i64.wrap (x1.1.tdiv 2)) then (if x1.2.e = 0 then f166_j1 a1 x1 9 else f166_j1 a1 x1 x1.2.e) else f166_j1 a1 x1 x1.2.e))
theorem ok166 (a0 : Reader) (a1 : List Int) (r : (List Int) × Reader) (h : f166 a0 a1 = some r) : IC Tryz.prog 166 [some (.row 3 true [[.sl (List.map enc5 a0.b), .val (.int .i64 a0.at_), .val (.int .i64 a0.e)]]), some (.row 1 true (List.map enc3 a1))] [.ptr 0 0 0, .own 1 0 a1.length] (.own 8 0 r.1.length) [some (.row 3 true [[.sl (List.map enc5 r.2.b), .val (.int .i64 r.2.at_), .val (.int .i64 r.2.e)]])] [some (.row 1 true (List.map enc3 r.1))] := by
 rw [f166] at h
 refine ic_of (N := 75) (rs := [.tmp 4]) Tryz.func166 rfl rfl rfl (Nat.le_of_ble_eq_true rfl) ?_
 refine AW.regL [0, 1] ?_
 generalize hK : AW Tryz.prog _ _ _ = K
 simp only [go_sem, ↓reduceIte, reduceCtorEq, Nat.reduceAdd, Nat.reduceSub, Nat.reduceMul, Nat.reduceEqDiff, Nat.reduceLT, Nat.reduceLeDiff, Nat.reduceBEq, Int.reduceAdd, Int.reduceSub, Int.reduceLT, Int.reduceLE, Int.reduceEq, Int.reduceToNat]
 subst hK
 obtain ⟨x1, hx1, h⟩ := Option.bind_eq_some_iff.1 h
 refine AW.regL [0, 1, 5] ?_
 generalize hK : AW Tryz.prog _ _ _ = K
 simp only [go_sem, ↓reduceIte, reduceCtorEq, Nat.reduceAdd, Nat.reduceSub, Nat.reduceMul, Nat.reduceEqDiff, Nat.reduceLT, Nat.reduceLeDiff, Nat.reduceBEq, Int.reduceAdd, Int.reduceSub, Int.reduceLT, Int.reduceLE, Int.reduceEq, Int.reduceToNat]
 refine arC.ok (CallOk.icq (us' := _) (ok165 a0 x1 hx1) [0] (.cons (.eq (by simp only [go_sem]) (by first | rfl | simp [upd_ap, hpL_ap, sg_ap])) (.nil _)) (by simp only [mapTL_cons, mapTL_nil, mapT_ptr, mapT_own, mapT_val, mapT_sl, mapT_agg, mapT_ip, mapT_clo, mapT_ifc, sg_ap, List.getD_cons_zero, List.getD_cons_succ]; exact (.cons (.of rfl) .nil))) Tryz.call165 ?_
 simp only [go_sem, ↓reduceIte, reduceCtorEq, Nat.reduceAdd, Nat.reduceSub, Nat.reduceMul, Nat.reduceEqDiff, Nat.reduceLT, Nat.reduceLeDiff, Nat.reduceBEq, Int.reduceAdd, Int.reduceSub, Int.reduceLT, Int.reduceLE, Int.reduceEq, Int.reduceToNat]
 subst hK
 refine AW.regL [0, 1, 5, 6] ?_
 generalize hK : AW Tryz.prog _ _ _ = K
 simp only [go_sem, ↓reduceIte, reduceCtorEq, Nat.reduceAdd, Nat.reduceSub, Nat.reduceMul, Nat.reduceEqDiff, Nat.reduceLT, Nat.reduceLeDiff, Nat.reduceBEq, Int.reduceAdd, Int.reduceSub, Int.reduceLT, Int.reduceLE, Int.reduceEq, Int.reduceToNat]
 subst hK
 refine AW.join (fun s => ⟨(upd (upd (upd (upd anyF 0 (.ptr 0 0 0)) 1 (.own 8 0 a1.length)) 5 (.val (.int .i64 x1.1))) 6 (.val (.int .i64 (IntKind.i64.wrap (x1.1.tdiv 2))))), hpL [some (.row 3 true [[.sl (List.map enc5 x1.2.b), .val (.int .i64 x1.2.at_), .val (.int .i64 s)]])] [some (.row 1 true (List.map enc3 a1))], 9⟩) (fun s => f166_j1 a1 x1 s = some r) ?_ ?_
 ·by_cases c75 : 65536 < (IntKind.i64.wrap (x1.1.tdiv 2))
  ·rw [if_pos c75] at h
   refine AW.regL [0, 1, 5, 6, 22] ?_
   generalize hK : AW Tryz.prog _ _ _ = K
   simp only [go_sem, ↓reduceIte, reduceCtorEq, Nat.reduceAdd, Nat.reduceSub, Nat.reduceMul, Nat.reduceEqDiff, Nat.reduceLT, Nat.reduceLeDiff, Nat.reduceBEq, Int.reduceAdd, Int.reduceSub, Int.reduceLT, Int.reduceLE, Int.reduceEq, Int.reduceToNat, eq_true c75]
   subst hK
   by_cases c76 : x1.2.e = 0
   ·rw [if_pos c76] at h
    refine AW.ifT rfl c76 ?_
    refine AW.regionL [0, 1, 5, 6] ?_
    generalize hK : thenA _ _ Exit.normal = K
    simp only [go_sem, ↓reduceIte, reduceCtorEq, Nat.reduceAdd, Nat.reduceSub, Nat.reduceMul, Nat.reduceEqDiff, Nat.reduceLT, Nat.reduceLeDiff, Nat.reduceBEq, Int.reduceAdd, Int.reduceSub, Int.reduceLT, Int.reduceLE, Int.reduceEq, Int.reduceToNat, eq_true c75, eq_true c76]
    subst hK
    refine thenA_n ?_
    refine ⟨_, h, ?_⟩
    exact Ent.canq [1] RF.any.qp.qo.qv.qv (.ce (.nil _)) (.ce (.nil _))
   ·rw [if_neg c76] at h
    refine AW.ifF rfl c76 ?_
    refine AW.skip ?_
    refine thenA_n ?_
    refine ⟨_, h, ?_⟩
    exact Ent.canq [1] RF.any.qp.qo.qv.qv (.ce (.nil _)) (.ce (.nil _))
  ·rw [if_neg c75] at h
   refine AW.regL [0, 1, 5, 6, 22] ?_
   generalize hK : AW Tryz.prog _ _ _ = K
   simp only [go_sem, ↓reduceIte, reduceCtorEq, Nat.reduceAdd, Nat.reduceSub, Nat.reduceMul, Nat.reduceEqDiff, Nat.reduceLT, Nat.reduceLeDiff, Nat.reduceBEq, Int.reduceAdd, Int.reduceSub, Int.reduceLT, Int.reduceLE, Int.reduceEq, Int.reduceToNat, eq_false c75]
   subst hK
   refine AW.ifBF rfl rfl ?_
   refine AW.skip ?_
   refine thenA_n ?_
   refine ⟨_, h, ?_⟩
   exact Ent.canq [1] RF.any.qp.qo.qv.qv (.ce (.nil _)) (.ce (.nil _))
 ·clear h
  rintro j1_0 h
  rw [f166_j1] at h
  refine AW.seq ?_
  refine AW.regL [0, 1, 5, 6, 30] ?_
  generalize hK : AW Tryz.prog _ _ _ = K
  simp only [go_sem, ↓reduceIte, reduceCtorEq, Nat.reduceAdd, Nat.reduceSub, Nat.reduceMul, Nat.reduceEqDiff, Nat.reduceLT, Nat.reduceLeDiff, Nat.reduceBEq, Int.reduceAdd, Int.reduceSub, Int.reduceLT, Int.reduceLE, Int.reduceEq, Int.reduceToNat]
  subst hK
  by_cases c5 : j1_0 = 0
  ·rw [if_pos c5] at h
   refine AW.ifF rfl (fun q => q c5) ?_
   refine AW.skip ?_
   refine thenA_n ?_
   refine AW.seq ?_
   refine AW.regL [0, 1, 6, 34] ?_
   generalize hK : AW Tryz.prog _ _ _ = K
   simp only [go_sem, ↓reduceIte, reduceCtorEq, Nat.reduceAdd, Nat.reduceSub, Nat.reduceMul, Nat.reduceEqDiff, Nat.reduceLT, Nat.reduceLeDiff, Nat.reduceBEq, Int.reduceAdd, Int.reduceSub, Int.reduceLT, Int.reduceLE, Int.reduceEq, Int.reduceToNat, eq_true c5]
   subst hK
   by_cases c23 : (x1.1.tmod 2) = 0
   ·rw [if_pos c23] at h
    refine AW.ifT rfl c23 ?_
    refine AW.seq ?_
    refine AW.regL [0, 1, 35, 36] ?_
    generalize hK : AW Tryz.prog _ _ _ = K
    simp only [go_sem, ↓reduceIte, reduceCtorEq, Nat.reduceAdd, Nat.reduceSub, Nat.reduceMul, Nat.reduceEqDiff, Nat.reduceLT, Nat.reduceLeDiff, Nat.reduceBEq, Int.reduceAdd, Int.reduceSub, Int.reduceLT, Int.reduceLE, Int.reduceEq, Int.reduceToNat, eq_true c5, eq_true c23]
    subst hK
    refine AW.block ?_
    obtain ⟨y41, hy41, h⟩ := Option.bind_eq_some_iff.1 h
    refine AW.loopO (fun s => ⟨(upd (upd (upd (upd anyF 0 (.ptr 0 0 0)) 1 (.own 8 0 s.2.2.2.1.length)) 35 (.val (.int .i64 (IntKind.i64.wrap (x1.1.tdiv 2))))) 36 (.val (.int .i64 s.2.2.2.2))), hpL [some (.row 3 true [[.sl (List.map enc5 s.1), .val (.int .i64 s.2.1), .val (.int .i64 s.2.2.1)]])] [some (.row 1 true (List.map enc3 s.2.2.2.1))], 9⟩) (fun z e st' => e = Exit.exit 0 ∧ st' = ⟨(upd anyF 1 (.own 8 0 z.2.2.2.length)), hpL [some (.row 3 true [[.sl (List.map enc5 z.1), .val (.int .i64 z.2.1), .val (.int .i64 z.2.2.1)]])] [some (.row 1 true (List.map enc3 z.2.2.2))], 9⟩) hy41 ?_ ?_ ?_
    ·exact Ent.canq [8] RF.any.qp.qo.qv.qv (.ce (.nil _)) (.ce (.nil _))
    ·clear h hy41
     rintro ⟨s2_0, s2_1, s2_2, s2_3, s2_4⟩ x h
     rw [f166_s2] at h
     refine AW.regL [0, 1, 35, 36, 37] ?_
     generalize hK : AW Tryz.prog _ _ _ = K
     simp only [go_sem, ↓reduceIte, reduceCtorEq, Nat.reduceAdd, Nat.reduceSub, Nat.reduceMul, Nat.reduceEqDiff, Nat.reduceLT, Nat.reduceLeDiff, Nat.reduceBEq, Int.reduceAdd, Int.reduceSub, Int.reduceLT, Int.reduceLE, Int.reduceEq, Int.reduceToNat, eq_true c5, eq_true c23]
     subst hK
     refine AW.seq ?_
     by_cases c37 : s2_4 < (IntKind.i64.wrap (x1.1.tdiv 2))
     ·rw [if_pos c37] at h
      refine AW.ifT rfl c37 ?_
      refine AW.skip ?_
      refine thenA_n ?_
      refine AW.seq ?_
      refine AW.block ?_
      refine AW.regL [0, 1, 35, 36, 42] ?_
      generalize hK : AW Tryz.prog _ _ _ = K
      simp only [go_sem, ↓reduceIte, reduceCtorEq, Nat.reduceAdd, Nat.reduceSub, Nat.reduceMul, Nat.reduceEqDiff, Nat.reduceLT, Nat.reduceLeDiff, Nat.reduceBEq, Int.reduceAdd, Int.reduceSub, Int.reduceLT, Int.reduceLE, Int.reduceEq, Int.reduceToNat, eq_true c5, eq_true c23, eq_true c37]
      subst hK
      by_cases c38 : s2_2 = 0
      ·rw [if_pos c38] at h
       refine AW.ifT rfl c38 ?_
       obtain ⟨x39, hx39, h⟩ := Option.bind_eq_some_iff.1 h
       obtain ⟨x40, hx40, h⟩ := Option.bind_eq_some_iff.1 h
       refine AW.regionL [0, 1, 35, 36] ?_
       generalize hK : inBlockA _ _ Exit.normal = K
       simp only [go_sem, ↓reduceIte, reduceCtorEq, Nat.reduceAdd, Nat.reduceSub, Nat.reduceMul, Nat.reduceEqDiff, Nat.reduceLT, Nat.reduceLeDiff, Nat.reduceBEq, Int.reduceAdd, Int.reduceSub, Int.reduceLT, Int.reduceLE, Int.reduceEq, Int.reduceToNat, eq_true c5, eq_true c23, eq_true c37, eq_true c38]
       refine arC.ok (CallOk.icq (us' := _) (ok165 ⟨s2_0, s2_1, s2_2⟩ x39 hx39) [0] (.cons (.eq (by simp only [go_sem]) (by first | rfl | simp [upd_ap, hpL_ap, sg_ap])) (.nil _)) (by simp only [mapTL_cons, mapTL_nil, mapT_ptr, mapT_own, mapT_val, mapT_sl, mapT_agg, mapT_ip, mapT_clo, mapT_ifc, sg_ap, List.getD_cons_zero, List.getD_cons_succ]; exact (.cons (.of rfl) .nil))) Tryz.call165 ?_
       simp only [go_sem, ↓reduceIte, reduceCtorEq, Nat.reduceAdd, Nat.reduceSub, Nat.reduceMul, Nat.reduceEqDiff, Nat.reduceLT, Nat.reduceLeDiff, Nat.reduceBEq, Int.reduceAdd, Int.reduceSub, Int.reduceLT, Int.reduceLE, Int.reduceEq, Int.reduceToNat, eq_true c5, eq_true c23, eq_true c37, eq_true c38]
       refine arC.ok (CallOk.icq (us' := _) (ok176 x39.2 s2_3 x39.1 x40 hx40) [0, 8] (.cons (.eq (by simp only [go_sem]) (by first | rfl | simp [upd_ap, hpL_ap, sg_ap])) (.cons (.eq (by simp only [go_sem]) (by first | rfl | simp [upd_ap, hpL_ap, sg_ap])) (.nil _))) (by simp only [mapTL_cons, mapTL_nil, mapT_ptr, mapT_own, mapT_val, mapT_sl, mapT_agg, mapT_ip, mapT_clo, mapT_ifc, sg_ap, List.getD_cons_zero, List.getD_cons_succ]; exact (.cons (.of rfl) (.cons (.of (by first | rfl | simp [mapT_own, sg_ap, eq_true c5, eq_true c23, eq_true c37, eq_true c38])) (.cons (.of rfl) .nil))))) Tryz.call176 ?_
       simp only [go_sem, ↓reduceIte, reduceCtorEq, Nat.reduceAdd, Nat.reduceSub, Nat.reduceMul, Nat.reduceEqDiff, Nat.reduceLT, Nat.reduceLeDiff, Nat.reduceBEq, Int.reduceAdd, Int.reduceSub, Int.reduceLT, Int.reduceLE, Int.reduceEq, Int.reduceToNat, eq_true c5, eq_true c23, eq_true c37, eq_true c38]
       subst hK
       refine block_n ?_
       refine thenA_n ?_
       refine AW.regionL [0, 1, 35, 36] ?_
       generalize hK : thenA _ _ Exit.normal = K
       simp only [go_sem, ↓reduceIte, reduceCtorEq, Nat.reduceAdd, Nat.reduceSub, Nat.reduceMul, Nat.reduceEqDiff, Nat.reduceLT, Nat.reduceLeDiff, Nat.reduceBEq, Int.reduceAdd, Int.reduceSub, Int.reduceLT, Int.reduceLE, Int.reduceEq, Int.reduceToNat, eq_true c5, eq_true c23, eq_true c37, eq_true c38]
       subst hK
       refine thenA_n ?_
       refine ⟨_, (Option.some.inj h).symm, ?_⟩
       exact Ent.canq [89] RF.any.qp.qo.qv.qv (.ce (.nil _)) (.ce (.nil _))
      ·rw [if_neg c38] at h
       refine AW.ifF rfl c38 ?_
       refine AW.skip ?_
       refine block_n ?_
       refine thenA_n ?_
       refine AW.regionL [0, 1, 35, 36] ?_
       generalize hK : thenA _ _ Exit.normal = K
       simp only [go_sem, ↓reduceIte, reduceCtorEq, Nat.reduceAdd, Nat.reduceSub, Nat.reduceMul, Nat.reduceEqDiff, Nat.reduceLT, Nat.reduceLeDiff, Nat.reduceBEq, Int.reduceAdd, Int.reduceSub, Int.reduceLT, Int.reduceLE, Int.reduceEq, Int.reduceToNat, eq_true c5, eq_true c23, eq_true c37, eq_false c38]
       subst hK
       refine thenA_n ?_
       refine ⟨_, (Option.some.inj h).symm, ?_⟩
       exact Ent.canq [8] RF.any.qp.qo.qv.qv (.ce (.nil _)) (.ce (.nil _))
     ·rw [if_neg c37] at h
      refine AW.ifF rfl c37 ?_
      refine AW.exit ?_
      refine thenA_x ?_
      refine thenA_x ?_
      refine ⟨_, (Option.some.inj h).symm, _, ?_, rfl, rfl⟩
      exact Ent.canq [8] RF.any.qo (.ce (.nil _)) (.ce (.nil _))
    ·intro e st' hX
     obtain ⟨y42, y43, y44, y45⟩ := y41
     try dsimp only at h
     try dsimp only at hX
     obtain ⟨rfl, rfl⟩ := hX
     refine ⟨_, Ent.refl, ?_⟩
     refine block_x ?_
     refine thenA_n ?_
     refine AW.regL [4] ?_
     generalize hK : AW Tryz.prog _ _ _ = K
     simp only [go_sem, ↓reduceIte, reduceCtorEq, Nat.reduceAdd, Nat.reduceSub, Nat.reduceMul, Nat.reduceEqDiff, Nat.reduceLT, Nat.reduceLeDiff, Nat.reduceBEq, Int.reduceAdd, Int.reduceSub, Int.reduceLT, Int.reduceLE, Int.reduceEq, Int.reduceToNat, eq_true c5, eq_true c23]
     subst hK
     refine AW.ent (st' := ⟨(upd anyF 4 (.own 8 0 y45.length)), hpL [some (.row 3 true [[.sl (List.map enc5 y42), .val (.int .i64 y43), .val (.int .i64 y44)]])] [some (.row 1 true (List.map enc3 y45))], 9⟩) ?_ ?_
     · refine Ent.can [8] _ _ _ rfl (by first | decide | simp) rfl ?_ ?_ ?_
       · exact RF.any.qo
       · exact .ce (.nil _)
       · exact .ce (.nil _)
     refine AW.ret ?_
     refine thenA_r ?_
     obtain rfl := Option.some.inj h
     exact ⟨rfl, rfl, _, rfl, by first | rfl | simp [resOf, upd_ap, bytesI_len]⟩
   ·rw [if_neg c23] at h
    refine AW.ifF rfl c23 ?_
    refine AW.skip ?_
    refine thenA_n ?_
    obtain ⟨x46, hx46, h⟩ := Option.bind_eq_some_iff.1 h
    refine AW.regL [0, 1, 6, 7] ?_
    generalize hK : AW Tryz.prog _ _ _ = K
    simp only [go_sem, ↓reduceIte, reduceCtorEq, Nat.reduceAdd, Nat.reduceSub, Nat.reduceMul, Nat.reduceEqDiff, Nat.reduceLT, Nat.reduceLeDiff, Nat.reduceBEq, Int.reduceAdd, Int.reduceSub, Int.reduceLT, Int.reduceLE, Int.reduceEq, Int.reduceToNat, eq_true c5, eq_false c23]
    refine arC.ok (CallOk.icq (us' := _) (ok165 ⟨x1.2.b, x1.2.at_, j1_0⟩ x46 hx46) [0] (.cons (.eq (by simp only [go_sem]) (by first | rfl | simp [upd_ap, hpL_ap, sg_ap])) (.nil _)) (by simp only [mapTL_cons, mapTL_nil, mapT_ptr, mapT_own, mapT_val, mapT_sl, mapT_agg, mapT_ip, mapT_clo, mapT_ifc, sg_ap, List.getD_cons_zero, List.getD_cons_succ]; exact (.cons (.of rfl) .nil))) Tryz.call165 ?_
    simp only [go_sem, ↓reduceIte, reduceCtorEq, Nat.reduceAdd, Nat.reduceSub, Nat.reduceMul, Nat.reduceEqDiff, Nat.reduceLT, Nat.reduceLeDiff, Nat.reduceBEq, Int.reduceAdd, Int.reduceSub, Int.reduceLT, Int.reduceLE, Int.reduceEq, Int.reduceToNat, eq_true c5, eq_false c23]
    subst hK
    obtain ⟨x47, hx47, h⟩ := Option.bind_eq_some_iff.1 h
    refine AW.regL [0, 1, 6, 7, 8] ?_
    generalize hK : AW Tryz.prog _ _ _ = K
    simp only [go_sem, ↓reduceIte, reduceCtorEq, Nat.reduceAdd, Nat.reduceSub, Nat.reduceMul, Nat.reduceEqDiff, Nat.reduceLT, Nat.reduceLeDiff, Nat.reduceBEq, Int.reduceAdd, Int.reduceSub, Int.reduceLT, Int.reduceLE, Int.reduceEq, Int.reduceToNat, eq_true c5, eq_false c23]
    refine arC.ok (CallOk.icq (us' := _) (ok165 x46.2 x47 hx47) [0] (.cons (.eq (by simp only [go_sem]) (by first | rfl | simp [upd_ap, hpL_ap, sg_ap])) (.nil _)) (by simp only [mapTL_cons, mapTL_nil, mapT_ptr, mapT_own, mapT_val, mapT_sl, mapT_agg, mapT_ip, mapT_clo, mapT_ifc, sg_ap, List.getD_cons_zero, List.getD_cons_succ]; exact (.cons (.of rfl) .nil))) Tryz.call165 ?_
    simp only [go_sem, ↓reduceIte, reduceCtorEq, Nat.reduceAdd, Nat.reduceSub, Nat.reduceMul, Nat.reduceEqDiff, Nat.reduceLT, Nat.reduceLeDiff, Nat.reduceBEq, Int.reduceAdd, Int.reduceSub, Int.reduceLT, Int.reduceLE, Int.reduceEq, Int.reduceToNat, eq_true c5, eq_false c23]
    subst hK
    refine AW.seq ?_
    refine AW.regL [0, 1, 7, 8, 54, 55] ?_
    generalize hK : AW Tryz.prog _ _ _ = K
    simp only [go_sem, ↓reduceIte, reduceCtorEq, Nat.reduceAdd, Nat.reduceSub, Nat.reduceMul, Nat.reduceEqDiff, Nat.reduceLT, Nat.reduceLeDiff, Nat.reduceBEq, Int.reduceAdd, Int.reduceSub, Int.reduceLT, Int.reduceLE, Int.reduceEq, Int.reduceToNat, eq_true c5, eq_false c23]
    subst hK
    refine AW.block ?_
    obtain ⟨y70, hy70, h⟩ := Option.bind_eq_some_iff.1 h
    refine AW.loopO (fun s => ⟨(upd (upd (upd (upd (upd (upd anyF 0 (.ptr 0 0 0)) 1 (.own 8 0 s.2.2.2.1.length)) 7 (.val (.int .i64 x46.1))) 8 (.val (.int .i64 x47.1))) 54 (.val (.int .i64 (IntKind.i64.wrap (x1.1.tdiv 2))))) 55 (.val (.int .i64 s.2.2.2.2))), hpL [some (.row 3 true [[.sl (List.map enc5 s.1), .val (.int .i64 s.2.1), .val (.int .i64 s.2.2.1)]])] [some (.row 1 true (List.map enc3 s.2.2.2.1))], 9⟩) (fun z e st' => e = Exit.exit 2 ∧ st' = ⟨(upd anyF 1 (.own 8 0 z.2.2.2.length)), hpL [some (.row 3 true [[.sl (List.map enc5 z.1), .val (.int .i64 z.2.1), .val (.int .i64 z.2.2.1)]])] [some (.row 1 true (List.map enc3 z.2.2.2))], 9⟩) hy70 ?_ ?_ ?_
    ·exact Ent.canq [8] RF.any.qp.qo.qv.qv.qv.qv (.ce (.nil _)) (.ce (.nil _))
    ·clear h hy70
     rintro ⟨s3_0, s3_1, s3_2, s3_3, s3_4⟩ x h
     rw [f166_s3] at h
     refine AW.regL [0, 1, 7, 8, 54, 55, 56] ?_
     generalize hK : AW Tryz.prog _ _ _ = K
     simp only [go_sem, ↓reduceIte, reduceCtorEq, Nat.reduceAdd, Nat.reduceSub, Nat.reduceMul, Nat.reduceEqDiff, Nat.reduceLT, Nat.reduceLeDiff, Nat.reduceBEq, Int.reduceAdd, Int.reduceSub, Int.reduceLT, Int.reduceLE, Int.reduceEq, Int.reduceToNat, eq_true c5, eq_false c23]
     subst hK
     refine AW.seq ?_
     by_cases c64 : s3_4 < (IntKind.i64.wrap (x1.1.tdiv 2))
     ·rw [if_pos c64] at h
      refine AW.ifT rfl c64 ?_
      refine AW.skip ?_
      refine thenA_n ?_
      refine AW.seq ?_
      refine AW.block ?_
      refine AW.regL [0, 1, 7, 8, 9, 54, 55] ?_
      generalize hK : AW Tryz.prog _ _ _ = K
      simp only [go_sem, ↓reduceIte, reduceCtorEq, Nat.reduceAdd, Nat.reduceSub, Nat.reduceMul, Nat.reduceEqDiff, Nat.reduceLT, Nat.reduceLeDiff, Nat.reduceBEq, Int.reduceAdd, Int.reduceSub, Int.reduceLT, Int.reduceLE, Int.reduceEq, Int.reduceToNat, eq_true c5, eq_false c23, eq_true c64]
      subst hK
      refine AW.seq ?_
      refine AW.regL [0, 1, 7, 8, 9, 54, 55, 62] ?_
      generalize hK : AW Tryz.prog _ _ _ = K
      simp only [go_sem, ↓reduceIte, reduceCtorEq, Nat.reduceAdd, Nat.reduceSub, Nat.reduceMul, Nat.reduceEqDiff, Nat.reduceLT, Nat.reduceLeDiff, Nat.reduceBEq, Int.reduceAdd, Int.reduceSub, Int.reduceLT, Int.reduceLE, Int.reduceEq, Int.reduceToNat, eq_true c5, eq_false c23, eq_true c64]
      subst hK
      by_cases c66 : s3_2 = 0
      ·rw [if_pos c66] at h
       refine AW.ifF rfl (fun q => q c66) ?_
       refine AW.skip ?_
       refine thenA_n ?_
       refine AW.regL [0, 1, 7, 8, 54, 55, 64] ?_
       generalize hK : AW Tryz.prog _ _ _ = K
       simp only [go_sem, ↓reduceIte, reduceCtorEq, Nat.reduceAdd, Nat.reduceSub, Nat.reduceMul, Nat.reduceEqDiff, Nat.reduceLT, Nat.reduceLeDiff, Nat.reduceBEq, Int.reduceAdd, Int.reduceSub, Int.reduceLT, Int.reduceLE, Int.reduceEq, Int.reduceToNat, eq_true c5, eq_false c23, eq_true c64, eq_true c66]
       subst hK
       by_cases c67 : s3_4 = 0
       ·rw [if_pos c67] at h
        refine AW.ifT rfl c67 ?_
        obtain ⟨x68, hx68, h⟩ := Option.bind_eq_some_iff.1 h
        refine AW.regionL [0, 1, 7, 8, 54, 55] ?_
        generalize hK : inBlockA _ _ Exit.normal = K
        simp only [go_sem, ↓reduceIte, reduceCtorEq, Nat.reduceAdd, Nat.reduceSub, Nat.reduceMul, Nat.reduceEqDiff, Nat.reduceLT, Nat.reduceLeDiff, Nat.reduceBEq, Int.reduceAdd, Int.reduceSub, Int.reduceLT, Int.reduceLE, Int.reduceEq, Int.reduceToNat, eq_true c5, eq_false c23, eq_true c64, eq_true c66, eq_true c67]
        refine arC.ok (CallOk.icq (us' := _) (ok176 ⟨s3_0, s3_1, s3_2⟩ s3_3 x46.1 x68 hx68) [0, 8] (.cons (.eq (by simp only [go_sem]) (by first | rfl | simp [upd_ap, hpL_ap, sg_ap])) (.cons (.eq (by simp only [go_sem]) (by first | rfl | simp [upd_ap, hpL_ap, sg_ap])) (.nil _))) (by simp only [mapTL_cons, mapTL_nil, mapT_ptr, mapT_own, mapT_val, mapT_sl, mapT_agg, mapT_ip, mapT_clo, mapT_ifc, sg_ap, List.getD_cons_zero, List.getD_cons_succ]; exact (.cons (.of rfl) (.cons (.of (by first | rfl | simp [mapT_own, sg_ap, eq_true c5, eq_false c23, eq_true c64, eq_true c66, eq_true c67])) (.cons (.of rfl) .nil))))) Tryz.call176 ?_
        simp only [go_sem, ↓reduceIte, reduceCtorEq, Nat.reduceAdd, Nat.reduceSub, Nat.reduceMul, Nat.reduceEqDiff, Nat.reduceLT, Nat.reduceLeDiff, Nat.reduceBEq, Int.reduceAdd, Int.reduceSub, Int.reduceLT, Int.reduceLE, Int.reduceEq, Int.reduceToNat, eq_true c5, eq_false c23, eq_true c64, eq_true c66, eq_true c67]
        subst hK
        refine block_n ?_
        refine thenA_n ?_
        refine AW.regionL [0, 1, 7, 8, 54, 55] ?_
        generalize hK : thenA _ _ Exit.normal = K
        simp only [go_sem, ↓reduceIte, reduceCtorEq, Nat.reduceAdd, Nat.reduceSub, Nat.reduceMul, Nat.reduceEqDiff, Nat.reduceLT, Nat.reduceLeDiff, Nat.reduceBEq, Int.reduceAdd, Int.reduceSub, Int.reduceLT, Int.reduceLE, Int.reduceEq, Int.reduceToNat, eq_true c5, eq_false c23, eq_true c64, eq_true c66, eq_true c67]
        subst hK
        refine thenA_n ?_
        refine ⟨_, (Option.some.inj h).symm, ?_⟩
        exact Ent.canq [113] RF.any.qp.qo.qv.qv.qv.qv (.ce (.nil _)) (.ce (.nil _))
       ·rw [if_neg c67] at h
        refine AW.ifF rfl c67 ?_
        obtain ⟨x69, hx69, h⟩ := Option.bind_eq_some_iff.1 h
        refine AW.regionL [0, 1, 7, 8, 54, 55] ?_
        generalize hK : inBlockA _ _ Exit.normal = K
        simp only [go_sem, ↓reduceIte, reduceCtorEq, Nat.reduceAdd, Nat.reduceSub, Nat.reduceMul, Nat.reduceEqDiff, Nat.reduceLT, Nat.reduceLeDiff, Nat.reduceBEq, Int.reduceAdd, Int.reduceSub, Int.reduceLT, Int.reduceLE, Int.reduceEq, Int.reduceToNat, eq_true c5, eq_false c23, eq_true c64, eq_true c66, eq_false c67]
        refine arC.ok (CallOk.icq (us' := _) (ok176 ⟨s3_0, s3_1, s3_2⟩ s3_3 x47.1 x69 hx69) [0, 8] (.cons (.eq (by simp only [go_sem]) (by first | rfl | simp [upd_ap, hpL_ap, sg_ap])) (.cons (.eq (by simp only [go_sem]) (by first | rfl | simp [upd_ap, hpL_ap, sg_ap])) (.nil _))) (by simp only [mapTL_cons, mapTL_nil, mapT_ptr, mapT_own, mapT_val, mapT_sl, mapT_agg, mapT_ip, mapT_clo, mapT_ifc, sg_ap, List.getD_cons_zero, List.getD_cons_succ]; exact (.cons (.of rfl) (.cons (.of (by first | rfl | simp [mapT_own, sg_ap, eq_true c5, eq_false c23, eq_true c64, eq_true c66, eq_false c67])) (.cons (.of rfl) .nil))))) Tryz.call176 ?_
        simp only [go_sem, ↓reduceIte, reduceCtorEq, Nat.reduceAdd, Nat.reduceSub, Nat.reduceMul, Nat.reduceEqDiff, Nat.reduceLT, Nat.reduceLeDiff, Nat.reduceBEq, Int.reduceAdd, Int.reduceSub, Int.reduceLT, Int.reduceLE, Int.reduceEq, Int.reduceToNat, eq_true c5, eq_false c23, eq_true c64, eq_true c66, eq_false c67]
        subst hK
        refine block_n ?_
        refine thenA_n ?_
        refine AW.regionL [0, 1, 7, 8, 54, 55] ?_
        generalize hK : thenA _ _ Exit.normal = K
        simp only [go_sem, ↓reduceIte, reduceCtorEq, Nat.reduceAdd, Nat.reduceSub, Nat.reduceMul, Nat.reduceEqDiff, Nat.reduceLT, Nat.reduceLeDiff, Nat.reduceBEq, Int.reduceAdd, Int.reduceSub, Int.reduceLT, Int.reduceLE, Int.reduceEq, Int.reduceToNat, eq_true c5, eq_false c23, eq_true c64, eq_true c66, eq_false c67]
        subst hK
        refine thenA_n ?_
        refine ⟨_, (Option.some.inj h).symm, ?_⟩
        exact Ent.canq [113] RF.any.qp.qo.qv.qv.qv.qv (.ce (.nil _)) (.ce (.nil _))
      ·rw [if_neg c66] at h
       refine AW.ifT rfl c66 ?_
       refine AW.exit ?_
       refine thenA_x ?_
       refine block_y rfl ?_
       refine thenA_x ?_
       refine thenA_x ?_
       refine ⟨_, (Option.some.inj h).symm, _, ?_, rfl, rfl⟩
       exact Ent.canq [8] RF.any.qo (.ce (.nil _)) (.ce (.nil _))
     ·rw [if_neg c64] at h
      refine AW.ifF rfl c64 ?_
      refine AW.exit ?_
      refine thenA_x ?_
      refine thenA_x ?_
      refine ⟨_, (Option.some.inj h).symm, _, ?_, rfl, rfl⟩
      exact Ent.canq [8] RF.any.qo (.ce (.nil _)) (.ce (.nil _))
    ·intro e st' hX
     obtain ⟨y71, y72, y73, y74⟩ := y70
     try dsimp only at h
     try dsimp only at hX
     obtain ⟨rfl, rfl⟩ := hX
     refine ⟨_, Ent.refl, ?_⟩
     refine block_x ?_
     refine thenA_n ?_
     refine AW.regL [4] ?_
     generalize hK : AW Tryz.prog _ _ _ = K
     simp only [go_sem, ↓reduceIte, reduceCtorEq, Nat.reduceAdd, Nat.reduceSub, Nat.reduceMul, Nat.reduceEqDiff, Nat.reduceLT, Nat.reduceLeDiff, Nat.reduceBEq, Int.reduceAdd, Int.reduceSub, Int.reduceLT, Int.reduceLE, Int.reduceEq, Int.reduceToNat, eq_true c5, eq_false c23]
     subst hK
     refine AW.ent (st' := ⟨(upd anyF 4 (.own 8 0 y74.length)), hpL [some (.row 3 true [[.sl (List.map enc5 y71), .val (.int .i64 y72), .val (.int .i64 y73)]])] [some (.row 1 true (List.map enc3 y74))], 9⟩) ?_ ?_
     · refine Ent.can [8] _ _ _ rfl (by first | decide | simp) rfl ?_ ?_ ?_
       · exact RF.any.qo
       · exact .ce (.nil _)
       · exact .ce (.nil _)
     refine AW.ret ?_
     obtain rfl := Option.some.inj h
     exact ⟨rfl, rfl, _, rfl, by first | rfl | simp [resOf, upd_ap, bytesI_len]⟩
  ·rw [if_neg c5] at h
   refine AW.ifT rfl c5 ?_
   refine AW.regL [4] ?_
   generalize hK : AW Tryz.prog _ _ _ = K
   simp only [go_sem, ↓reduceIte, reduceCtorEq, Nat.reduceAdd, Nat.reduceSub, Nat.reduceMul, Nat.reduceEqDiff, Nat.reduceLT, Nat.reduceLeDiff, Nat.reduceBEq, Int.reduceAdd, Int.reduceSub, Int.reduceLT, Int.reduceLE, Int.reduceEq, Int.reduceToNat, eq_false c5]
   subst hK
   refine AW.ent (st' := ⟨(upd anyF 4 (.own 8 0 a1.length)), hpL [some (.row 3 true [[.sl (List.map enc5 x1.2.b), .val (.int .i64 x1.2.at_), .val (.int .i64 j1_0)]])] [some (.row 1 true (List.map enc3 a1))], 9⟩) ?_ ?_
   · refine Ent.can [8] _ _ _ rfl (by first | decide | simp) rfl ?_ ?_ ?_
     · exact RF.any.qo
     · exact .ce (.nil _)
     · exact .ce (.nil _)
   refine AW.ret ?_
   refine thenA_r ?_
   obtain rfl := Option.some.inj h
   exact ⟨rfl, rfl, _, rfl, by first | rfl | simp [resOf, upd_ap, bytesI_len]⟩
end Au
end Go.Proofs.Yt

set_option linter.all false
namespace Go.Proofs.Yt
open Go.Gm Go.Proofs
namespace Au
theorem relL_u8 {E : Env} : ∀ {l : List Int} {vs : List Value}, RelL E (l.map enc5).flatten vs → vs = l.map (Value.int .u8)
  | [], vs, h => by cases h; rfl
  | a :: l, vs, h => by
    simp only [List.map_cons, List.flatten_cons, enc5, List.cons_append, List.nil_append] at h
    cases h with
    | cons h1 hs => cases h1; rw [List.map_cons, relL_u8 hs]
noncomputable def f125 (a0 : List Int) (a1 : Int) : Option Int := if 0 < a0.length then some (Lib.indexByte (Lib.bytesOf a0) a1.toNat.toUInt8) else none
theorem ok125 (a0 : List Int) (a1 r : Int) (h : f125 a0 a1 = some r) : PC Tryz.prog 125 [.sl (List.map enc5 a0), .val (.int .u8 a1)] (.val (.int .i64 r)) := by
  unfold f125 at h
  split at h
  rotate_left
  · cases h
  rename_i hl
  obtain rfl := Option.some.inj h
  refine pc_read (u := .sl (List.map enc5 a0)) (us := [.int .u8 a1]) (fun m w x ht hx => ?_) (by simp only [sealV_val])
  generalize hrows : List.map enc5 a0 = rows at hx
  cases hx with
  | sl0 => cases a0 with
    | nil => simp at hl
    | cons a l => cases hrows
  | sl hb hm hr hsz h0 hcap h1 hc hrel =>
    rename_i b o cap sz vs
    subst hrows
    have e := relL_u8 hrel
    subst e
    have hlen : (List.map enc5 a0).length = a0.length := by simp
    rw [hlen]
    refine (Tryz.bytes_IndexByte b o a0.length cap a0 a1 w rfl (fun i hi => ?_)).mono ?_
    · refine hc i _ ?_
      simp [List.getD, hi]
    · rintro e w' ⟨rfl, rfl⟩
      exact ⟨rfl, Nat.le_refl _, fun _ _ => rfl, rfl, rfl, rfl⟩
end Au
end Go.Proofs.Yt

set_option linter.unusedVariables false
set_option linter.unusedSimpArgs false
namespace Go.Gm
theorem Ent.stillRow {N nx sz : Nat} {mu : Bool} {fr : Nat → AV} {hp : AHeap} {pre post : List AV} {R1 R2 : List (List AV)} {x : AV} {q off len : Nat} (t : Nat) (h : hp t = some (.row sz mu (R1 ++ (pre ++ .own q off len :: post) :: R2))) (hx : resV hp (.own q off len) = some x) (hne : t ≠ q) :
    Ent N ⟨fr, hp, nx⟩ ⟨fr, upd (upd hp q none) t (some (.row sz mu (R1 ++ (pre ++ x :: post) :: R2))), nx⟩ := fun P G a w hc => by
  obtain ⟨c1, c2, loc, hM, hr⟩ := conc_iff.1 hc
  clear hc
  let hp' : AHeap := upd (upd hp q none) t (some (.row sz mu (R1 ++ (pre ++ x :: post) :: R2)))
  let loc' := upd loc q none
  have hother : ∀ t', t' ≠ t → t' ≠ q → hp' t' = hp t' := fun t' h1 h2 => by simp only [hp', upd_other _ _ h1, upd_other _ _ h2]
  have hq : hp' q = none := by simp only [hp', upd_other _ _ (Ne.symm hne), upd_same]
  have ht : hp' t = some (.row sz mu (R1 ++ (pre ++ x :: post) :: R2)) := by simp only [hp', upd_same]
  have hmt : ∀ b, mtOf hp' loc' b → mtOf hp loc b := by
    rintro b ⟨t', o', l', h1, h2, h3, h4, h5⟩
    by_cases e2 : t' = q
    · subst e2; rw [hq] at h1; cases h1
    · have h3' : loc t' = some l' := by simpa only [loc', upd_other _ _ e2] using h3
      by_cases e : t' = t
      · subst e; rw [ht] at h1; cases h1; exact ⟨t', _, l', h, h2, h3', h4, h5⟩
      · rw [hother t' e e2] at h1; exact ⟨t', o', l', h1, h2, h3', h4, h5⟩
  have xx : Ext (mkE G.m1 hp (fun t => t < nx) loc w) (mkE G.m1 hp' (fun t => t < nx) loc' w) := mk_ext (fun _ h => h) (fun t' l ha hl => by
    by_cases e : t' = q
    · subst e; simp only [loc', upd_same] at hl; cases hl
    · simpa only [loc', upd_other _ _ e] using hl) (Nat.le_refl _) (fun b _ => hmt b) (fun _ _ _ => rfl)
  have hin : inl x = true := by
    simp only [resV] at hx
    split at hx
    · split at hx
      · rename_i hc; cases hx; simp [inl, hc.2]
      · cases hx
    · cases hx
  have hval : ∀ v, Rel (mkE G.m1 hp (fun t => t < nx) loc w) (.own q off len) v → Rel (mkE G.m1 hp' (fun t => t < nx) loc' w) x v := fun v hv => by
    have hb := res_rel (G := G) hM (m := fun b => G.m1 b ∨ mtOf hp' loc' b) (fun b hb => hb.imp id (hmt b)) hv hx (fun t1 o1 n1 l he hl hlt => by
      cases he
      rintro (hb | ⟨t', o', l', k1, k2, k3, k4, k5⟩)
      · exact hM.fgn q l hl hlt hb
      · by_cases e : t' = q
        · subst e; rw [hq] at k1; cases k1
        · have k3' : loc t' = some l' := by simpa only [loc', upd_other _ _ e] using k3
          exact e (hM.inj _ _ _ _ k3' hl k5 hlt k4))
    have mv : Move (E0 (fun b => G.m1 b ∨ mtOf hp' loc' b) w) (mkE G.m1 hp' (fun t => t < nx) loc' w) :=
      ⟨Nat.le_refl _, fun b _ hn => ⟨fun hm => hn (Or.inr (hm.elim Or.inr Or.inl)), rfl⟩⟩
    exact Rel.move mv hin hb
  refine conc_iff.2 ⟨c1, c2, loc', hM.change xx (fun t' o' ho => ?_) (fun t' ho => ?_) (fun t' l hl => ?_) (fun t1 t2 l1 l2 k1 k2 => ?_) rfl rfl rfl (fun b hb => .inl (hmt b hb)) (fun t' l k1 k2 => ?_), fun d => (hr d).ext xx⟩
  · by_cases e2 : t' = q
    · subst e2; exact absurd ho (by rw [show upd (upd hp t' none) t (some (.row sz mu (R1 ++ (pre ++ x :: post) :: R2))) t' = none from hq]; simp)
    · by_cases e : t' = t
      · subst e
        have ho' : o' = .row sz mu (R1 ++ (pre ++ x :: post) :: R2) := by
          have : hp' t' = some o' := ho
          rw [ht] at this; cases this; rfl
        subst ho'
        obtain ⟨l, hl', g1, g2, g3, g4, g5, g6⟩ := hM.obj t' _ h
        refine .inr ⟨l, by simpa only [loc', upd_other _ _ e2] using hl', g1, g2, fun r hr => ?_, by simpa using g4, g5, fun hpos => ?_⟩
        · have := g3 (pre ++ .own q off len :: post) (by simp)
          rcases List.mem_append.1 hr with hr | hr
          · exact g3 r (List.mem_append_left _ hr)
          · rcases List.mem_cons.1 hr with rfl | hr
            · simpa using this
            · exact g3 r (List.mem_append_right _ (List.mem_cons_of_mem _ hr))
        · obtain ⟨c, e, fz, vs, k1, k2, k3, k4, k5, k6⟩ := g6 hpos
          refine ⟨c, e, fz, vs, k1, k2, ?_, k4, k5, k6⟩
          simp only [List.flatten_append, List.flatten_cons] at k3 ⊢
          obtain ⟨v0, v3, rfl, hv0, hv3⟩ := k3.split
          obtain ⟨v4, v5, rfl, hv4, hv5⟩ := hv3.split
          obtain ⟨v1, v2, rfl, hv1, hv2⟩ := hv4.split
          cases hv2 with
          | cons ho hs => exact (hv0.ext xx).append (((hv1.ext xx).append (.cons (hval _ ho) (hs.ext xx))).append (hv5.ext xx))
      · exact .inl ⟨(hother t' e e2).symm.trans ho, by simp only [loc', upd_other _ _ e2], fun _ _ _ => rfl⟩
  · by_cases e2 : t' = q
    · subst e2; simp only [loc', upd_same]
    · simp only [loc', upd_other _ _ e2]
      by_cases e : t' = t
      · subst e; have : hp' t' = none := ho; rw [ht] at this; cases this
      · exact hM.none_ t' ((hother t' e e2).symm.trans ho)
  · by_cases e2 : t' = q
    · subst e2; simp only [loc', upd_same] at hl; cases hl
    · exact hM.al_ t' l (by simpa only [loc', upd_other _ _ e2] using hl)
  · have g : ∀ t l, loc' t = some l → loc t = some l := fun t l hl => by
      by_cases e2 : t = q
      · subst e2; simp only [loc', upd_same] at hl; cases hl
      · simpa only [loc', upd_other _ _ e2] using hl
    exact hM.inj _ _ _ _ (g _ _ k1) (g _ _ k2)
  · by_cases e2 : t' = q
    · subst e2; simp only [loc', upd_same] at k1; cases k1
    · exact .inl ⟨t', l, by simpa only [loc', upd_other _ _ e2] using k1, k2, rfl⟩
end Go.Gm

set_option linter.unusedVariables false
set_option linter.unusedSimpArgs false
namespace Go.Gm
section
variable {P : Program} {ft : FuncId → List AV → Option AV} {N : Nat} {ops : List Oper} {base : Nat}
structure LeftT (A : List (List Nat)) (ord : List Nat) (ops : List Oper) (last : Nat) (listed : Array Bool) (L : List Ev) : Prop where
  size : listed.size = ops.length
  left : ∀ i, i < ops.length → i ≠ last → listed.getD i true = false → ∃ e ∈ L, e.i = i
  un : ∀ e ∈ L, e.i < ops.length ∧ e.i ≠ last ∧ listed.getD e.i true = false ∧ ops[e.i]? = some e.o
  lastUn : listed.getD last true = false
  sorted : L.Pairwise fun e1 e2 => ord.idxOf e1.i < ord.idxOf e2.i
  pairs : L.Pairwise fun e1 e2 => e1.i ∈ A.getD e2.i [] ∨ Indep ops e1 e2
  closed : ∀ i, listed.getD i false = true → ∀ k ∈ A.getD i [], listed.getD k false = true

end
end Go.Gm

set_option linter.unusedVariables false
set_option linter.unusedSimpArgs false
namespace Go.Gm
structure ExtW (E E' : Env) : Prop where
  al : ∀ t, E.al t → E'.al t
  loc : ∀ t l, E.al t → E'.loc t = some l → E.loc t = some l
  size : E.w.heap.size ≤ E'.w.heap.size
  keep : ∀ b, b < E.w.heap.size → ¬ E.mt b → ¬ E'.mt b ∧ E'.w.heap[b]? = E.w.heap[b]?
mutual
theorem Rel.extW {E E' : Env} (x : ExtW E E') : ∀ {u : AV} {v : Value}, Rel E u v → Rel E' u v
  | _, _, .any v => .any v
  | _, _, .val v => .val v
  | _, _, .agg h => .agg (RelL.extW x h)
  | _, _, .tup h => .tup (RelL.extW x h)
  | _, _, .sl0 a c => .sl0 a c
  | _, _, .sl hb hm hr hsz h0 hcap h1 hc hl =>
    .sl (Nat.lt_of_lt_of_le hb x.size) (x.keep _ hb hm).1 hr hsz h0 hcap h1 (fun k v hk => (cell_of_heap (x.keep _ hb hm).2).trans (hc k v hk)) (RelL.extW x hl)
  | _, _, .own ha h => .own (x.al _ ha) fun l hl => h l (x.loc _ l ha hl)
  | _, _, .ptr ha h => .ptr (x.al _ ha) fun l hl => h l (x.loc _ l ha hl)
  | _, _, .ip hb hm h1 hc hl =>
    .ip (Nat.lt_of_lt_of_le hb x.size) (x.keep _ hb hm).1 h1 (fun k v hk => (cell_of_heap (x.keep _ hb hm).2).trans (hc k v hk)) (RelL.extW x hl)
  | _, _, .clo hf hc => .clo (RelL.extW x hf) (RelL.extW x hc)
  | _, _, .ifc h => .ifc (Rel.extW x h)
  | _, _, .mp ha h => .mp (x.al _ ha) fun l hl => h l (x.loc _ l ha hl)
  | _, _, .im hb hm h he => .im (Nat.lt_of_lt_of_le hb x.size) (x.keep _ hb hm).1 ((x.keep _ hb hm).2.trans h) he
  | _, _, .im0 => .im0
theorem RelL.extW {E E' : Env} (x : ExtW E E') : ∀ {us : List AV} {vs : List Value}, RelL E us vs → RelL E' us vs
  | _, _, .nil => .nil
  | _, _, .cons h hs => .cons (Rel.extW x h) (RelL.extW x hs)
end
theorem ObjAt.extW {E E' : Env} (x : ExtW E E') {l : Loc} (hb : l.st < l.n → E'.w.heap[l.b]? = E.w.heap[l.b]?) : ∀ {o : AObj}, ObjAt E l o → ObjAt E' l o
  | .row sz m rows, ⟨h1, h2, h3, h6, h11, h⟩ => ⟨h1, h2, h3, h6, h11, fun hlt => by
    obtain ⟨c, e, fz, vs, h4, h5, h7, h8, h9, h10⟩ := h hlt
    exact ⟨c, e, fz, vs, (hb hlt).trans h4, h5, h7.extW x, h8, h9, h10⟩⟩
  | .mapo es, ⟨h0, ens, clock, h1, h2⟩ => ⟨h0, ens, clock, (hb h0).trans h1, h2⟩

end Go.Gm

set_option linter.unusedVariables false
set_option linter.unusedSimpArgs false
namespace Go.Gm
mutual
theorem mapT_id : ∀ u : AV, mapT (fun t => t) u = u
  | .own .. => by simp only [mapT]
  | .ptr .. => by simp only [mapT]
  | .mp .. => by simp only [mapT]
  | .agg cs => by simp only [mapT, mapTL_id cs]
  | .tup cs => by simp only [mapT, mapTL_id cs]
  | .clo fn f c => by simp only [mapT, mapTL_id f, mapTL_id c]
  | .ifc ty u => by simp only [mapT, mapT_id u]
  | .val _ => by simp only [mapT]
  | .sl _ => by simp only [mapT]
  | .fr _ _ => by simp only [mapT]
  | .ip _ => by simp only [mapT]
  | .any => by simp only [mapT]
  | .im _ => by simp only [mapT]
theorem mapTL_id : ∀ us : List AV, mapTL (fun t => t) us = us
  | [] => by simp only [mapTL]
  | u :: us => by simp only [mapTL, mapT_id u, mapTL_id us]
end

structure MemB (P : Program) (m1 : Nat → Prop) (hp : AHeap) (al : Nat → Prop) (loc : Nat → Option Loc) (w : World) : Prop where
  obj : ∀ t o, hp t = some o → ∃ l, loc t = some l ∧ ObjAt (mkE m1 hp al loc w) l o
  none_ : ∀ t, hp t = none → loc t = none
  al_ : ∀ t l, loc t = some l → al t
  inj : ∀ t t' l l', loc t = some l → loc t' = some l' → l.st < l.n → l'.st < l'.n → l.b = l'.b → t = t'
  fgn : ∀ t l, loc t = some l → l.st < l.n → ¬ m1 l.b
  m1lt : ∀ b, m1 b → b < w.heap.size
  tab : TabH P (mtOf hp loc) w
structure Hist {P : Program} (G : Ghost P) (hp : AHeap) (al : Nat → Prop) (loc : Nat → Option Loc) (w : World) : Prop where
  os : w.os = G.w0.os
  tape : w.tape = G.w0.tape
  output : w.output = G.w0.output
  size : G.w0.heap.size ≤ w.heap.size
  keep : ∀ b, b < G.w0.heap.size → ¬ G.m0 b → w.heap[b]? = G.w0.heap[b]?
  muts : ∀ b, mtOf hp loc b → b < G.w0.heap.size → G.m0 b
  aln : ∀ t, t < G.n0 → al t
  idn : ∀ t l, t < G.n0 → loc t = some l → G.l0 t = some l
section
variable {P : Program} {G : Ghost P} {m1 m2 : Nat → Prop} {hp hp' : AHeap} {al al' : Nat → Prop} {loc loc' : Nat → Option Loc} {w w' : World}
theorem Mem.base (h : Mem G hp al loc w) : MemB P G.m1 hp al loc w := ⟨h.obj, h.none_, h.al_, h.inj, h.fgn, fun b hb => Nat.lt_of_lt_of_le (G.m1lt b hb) h.size, h.tab⟩
theorem Mem.hist (h : Mem G hp al loc w) : Hist G hp al loc w := ⟨h.os, h.tape, h.output, h.size, h.keep, h.muts, h.aln, h.idn⟩
theorem MemB.with (h : MemB P G.m1 hp al loc w) (k : Hist G hp al loc w) : Mem G hp al loc w :=
  ⟨h.obj, h.none_, h.al_, h.inj, k.os, k.tape, k.output, k.size, k.keep, k.muts, h.fgn, k.aln, k.idn⟩
def MemB.g (h : MemB P m1 hp al loc w) : Ghost P := ⟨w, mtOf hp loc, m1, h.m1lt, 8, loc, Nat.le_refl _, h.tab⟩
theorem MemB.mem (h : MemB P m1 hp al loc w) (h8 : ∀ t, t < 8 → al t) : Mem h.g hp al loc w :=
  ⟨h.obj, h.none_, h.al_, h.inj, rfl, rfl, rfl, Nat.le_refl _, fun _ _ _ => rfl, fun b hb _ => hb, h.fgn, h8, fun t l _ hl => hl⟩
theorem MemB.back (h : MemB P m1 hp al loc w) (h' : Mem h.g hp' al' loc' w') : MemB P m1 hp' al' loc' w' := h'.base
theorem Hist.back (k : Hist G hp al loc w) (h : MemB P m1 hp al loc w) (h' : Mem h.g hp' al' loc' w') : Hist G hp' al' loc' w' :=
  ⟨h'.os.trans k.os, h'.tape.trans k.tape, h'.output.trans k.output, Nat.le_trans k.size h'.size,
   fun b hb hn => (h'.keep b (Nat.lt_of_lt_of_le hb k.size) fun hm => hn (k.muts b hm hb)).trans (k.keep b hb hn),
   fun b hm hb => k.muts b (h'.muts b hm (Nat.lt_of_lt_of_le hb k.size)) hb,
   fun t ht => h'.aln t (Nat.lt_of_lt_of_le ht G.n8), fun t l ht hl => k.idn t l ht (h'.idn t l (Nat.lt_of_lt_of_le ht G.n8) hl)⟩
theorem MemB.stable (h : MemB P m1 hp al loc w) (h' : Mem h.g hp' al' loc' w') {u : AV} {v : Value} (ht : tokL 8 u = true) (hr : Rel (mkE m1 hp al loc w) u v) : Rel (mkE m1 hp' al' loc' w') u v := by
  have := rel_map (τ := fun t => t) (m := 8) (E := mkE m1 hp al loc w) (E' := mkE m1 hp' al' loc' w')
    ⟨h'.size, fun b hb hn => ⟨fun hc => hn (hc.elim (fun k => .inl (h'.muts b k hb)) .inr), h'.keep b hb fun k => hn (.inl k)⟩⟩ h'.aln (fun t l ht hl => h'.idn t l ht hl) ht hr
  rwa [mapT_id] at this
theorem MemB.kept (h : MemB P m1 hp al loc w) (h' : Mem h.g hp' al' loc' w') {b : Nat} (hb : m1 b) : w'.heap[b]? = w.heap[b]? :=
  h'.keep b (h.m1lt b hb) fun ⟨t, o, l, h1, h2, h3, h4, h5⟩ => h.fgn t l h3 h5 (h4 ▸ hb)
theorem MemB.to (h : MemB P m1 hp al loc w) (hsz : w.heap.size ≤ w'.heap.size) (hm : ∀ b, b < w.heap.size → m2 b → m1 b) (hm2 : ∀ b, m2 b → b < w'.heap.size)
    (hk : ∀ b, b < w.heap.size → w'.heap[b]? = w.heap[b]? ∨ (m1 b ∧ ∃ o : Obj, w.heap[b]? = some o ∧ o.isCells = false)) : MemB P m2 hp al loc w' ∧ ExtW (mkE m1 hp al loc w) (mkE m2 hp al loc w') := by
  have hno : ∀ t l, loc t = some l → l.st < l.n → l.b < w.heap.size := fun t l hl hlt => by
    cases ho : hp t with
    | none => rw [h.none_ t ho] at hl; cases hl
    | some o => obtain ⟨l', hl', hob⟩ := h.obj t o ho; rw [hl] at hl'; cases hl'; exact hob.lt hlt
  have x : ExtW (mkE m1 hp al loc w) (mkE m2 hp al loc w') := ⟨fun _ h => h, fun _ _ _ h => h, hsz, fun b hb hn =>
    ⟨fun hc => hn (hc.elim .inl fun k => .inr (hm b hb k)), (hk b hb).elim id fun k => absurd (.inr k.1) hn⟩⟩
  refine ⟨⟨fun t o ho => ?_, h.none_, h.al_, h.inj, fun t l hl hlt hc => h.fgn t l hl hlt (hm _ (hno t l hl hlt) hc), hm2, fun g p hg => ?_⟩, x⟩
  · obtain ⟨l, hl, hob⟩ := h.obj t o ho
    exact ⟨l, hl, hob.extW x fun hlt => (hk _ (hno t l hl hlt)).elim id fun k => absurd k.1 (h.fgn t l hl hlt)⟩
  · obtain ⟨h1, h2, c, t, fz, h3, h4⟩ := h.tab g p hg
    refine ⟨Nat.lt_of_lt_of_le h1 hsz, h2, c, t, fz, ?_, h4⟩
    rcases hk g h1 with k | ⟨_, o, ho, hc⟩
    · exact k.trans h3
    · rw [h3] at ho; cases ho; cases hc
theorem Hist.to (k : Hist G hp al loc w) (hsz : w.heap.size ≤ w'.heap.size) (hk : ∀ b, b < G.w0.heap.size → w'.heap[b]? = w.heap[b]?) (h1 : w'.os = w.os) (h2 : w'.tape = w.tape) (h3 : w'.output = w.output) : Hist G hp al loc w' :=
  ⟨h1.trans k.os, h2.trans k.tape, h3.trans k.output, Nat.le_trans k.size hsz, fun b hb hn => (hk b hb).trans (k.keep b hb hn), k.muts, k.aln, k.idn⟩
theorem MemB.put (h : MemB P m1 hp al loc w) {L : Nat} {o : Obj} (hL : m1 L) (hl : w.heap[L]? = some o) (ho : o.isCells = false) (o' : Obj) :
    MemB P m1 hp al loc (w.putObj L o') ∧ ExtW (mkE m1 hp al loc w) (mkE m1 hp al loc (w.putObj L o')) :=
  h.to (by simp) (fun _ _ h => h) (fun b hb => by simpa using h.m1lt b hb) fun b hb => by
    by_cases e : b = L
    · subst e; exact .inr ⟨hL, o, hl, ho⟩
    · exact .inl (World.putObj_heap_other e)
theorem Hist.put (k : Hist G hp al loc w) {L : Nat} (hL : G.w0.heap.size ≤ L) (o' : Obj) : Hist G hp al loc (w.putObj L o') :=
  k.to (by simp) (fun b hb => World.putObj_heap_other (by omega)) rfl rfl rfl
end

theorem MemB.ren {P : Program} {G : Ghost P} {m1 : Nat → Prop} {nx m : Nat} {hp hp' : AHeap} {loc : Nat → Option Loc} {w : World} (hM : MemB P m1 hp (fun t => t < nx) loc w) (hH : Hist G hp (fun t => t < nx) loc w) (hn0 : G.n0 = 0) (τ : Nat → Nat)
    (hinj : ∀ i j, i < m → j < m → hp' i ≠ none → hp' j ≠ none → τ i = τ j → i = j) (hhp : ∀ t, t < m → ORen τ m (hp (τ t)) (hp' t)) (hno : ∀ t, m ≤ t → hp' t = none) :
    ∃ loc', MemB P m1 hp' (fun t => t < m) loc' w ∧ Hist G hp' (fun t => t < m) loc' w ∧ Ren τ m (mkE m1 hp (fun t => t < nx) loc w) (mkE m1 hp' (fun t => t < m) loc' w) := by
  classical
  let loc' : Nat → Option Loc := fun t => if hp' t = none then none else loc (τ t)
  have hsome : ∀ t l, loc' t = some l → t < m ∧ loc (τ t) = some l ∧ hp' t ≠ none := fun t l hl => by
    simp only [loc'] at hl
    split at hl
    · cases hl
    · rename_i hn
      refine ⟨?_, hl, hn⟩
      by_cases hlt : t < m
      · exact hlt
      · exact absurd (hno t (by omega)) hn
  have hmut : ∀ t o', hp' t = some o' → t < m ∧ ∃ o, hp (τ t) = some o ∧ o.isMut = o'.isMut := fun t o' ho => by
    have hlt : t < m := by
      by_cases hlt : t < m
      · exact hlt
      · rw [hno t (by omega)] at ho; cases ho
    refine ⟨hlt, ?_⟩
    have := hhp t hlt
    rw [ho] at this
    generalize hq : hp (τ t) = q at this
    cases this with
    | inl h => exact ⟨_, rfl, rfl⟩
    | map h => exact ⟨_, rfl, rfl⟩
    | mp => exact ⟨_, rfl, rfl⟩
  have hmt : ∀ b, mtOf hp' loc' b → mtOf hp loc b := by
    rintro b ⟨t, o', l, h1, h2, h3, h4, h5⟩
    obtain ⟨_, o, ho, hm⟩ := hmut t o' h1
    exact ⟨τ t, o, l, ho, by rw [hm]; exact h2, (hsome t l h3).2.1, h4, h5⟩
  have x : Ren τ m (mkE m1 hp (fun t => t < nx) loc w) (mkE m1 hp' (fun t => t < m) loc' w) :=
    ⟨⟨Nat.le_refl _, fun b _ hn => ⟨fun hm => hn (hm.elim (fun h => .inl (hmt b h)) .inr), rfl⟩⟩, fun t ht => ht, fun t l ht hl => (hsome t l hl).2.1⟩
  refine ⟨loc', ⟨fun t o' ho => ?_, fun t ho => by simp only [loc', ho, if_true], fun t l hl => (hsome t l hl).1, fun t1 t2 l1 l2 k1 k2 p1 p2 hb => ?_, fun t l hl => hM.fgn (τ t) l (hsome t l hl).2.1, hM.m1lt, hM.tab.sub hmt⟩,
    ⟨hH.os, hH.tape, hH.output, hH.size, hH.keep, fun b hb => hH.muts b (hmt b hb), fun t ht => by omega, fun t l ht hl => by omega⟩, x⟩
  · have hlt := (hmut t o' ho).1
    have hO := hhp t hlt
    rw [ho] at hO
    generalize hq : hp (τ t) = q at hO
    cases hO with
    | inl hin =>
      obtain ⟨l, hl, g1, g2, g3, g4, g5, g6⟩ := hM.obj (τ t) _ hq
      refine ⟨l, by simp only [loc', ho]; simpa using hl, g1, g2, g3, g4, g5, fun hpos => ?_⟩
      obtain ⟨c, e, fz, vs, k1, k2, k3, k4, k5, k6⟩ := g6 hpos
      exact ⟨c, e, fz, vs, k1, k2, RelL.move x.mv (by rw [← inlR_flatten]; exact hin) k3, k4, k5, k6⟩
    | map hin =>
      rename_i sz mu rows
      obtain ⟨l, hl, g1, g2, g3, g4, g5, g6⟩ := hM.obj (τ t) _ hq
      refine ⟨l, by simp only [loc', ho]; simpa using hl, g1, g2, fun r hr => ?_, by simpa using g4, g5, fun hpos => ?_⟩
      · have := g3 (mapTL τ r) (List.mem_map.2 ⟨r, hr, rfl⟩)
        rwa [mapTL_length] at this
      · obtain ⟨c, e, fz, vs, k1, k2, k3, k4, k5, k6⟩ := g6 hpos
        rw [flat_map] at k3
        exact ⟨c, e, fz, vs, k1, k2, relL_ren x (flat_tok m hin) k3, k4, k5, k6⟩
    | mp =>
      obtain ⟨l, hl, g⟩ := hM.obj (τ t) _ hq
      exact ⟨l, by simp only [loc', ho]; simpa using hl, g⟩
  · have h1 := hsome t1 l1 k1
    have h2 := hsome t2 l2 k2
    exact hinj t1 t2 h1.1 h2.1 h1.2.2 h2.2.2 (hM.inj _ _ _ _ h1.2.1 h2.2.1 p1 p2 hb)
theorem oper_wideN {P : Program} {n : Nat} {o : Oper} {a : Act} {w : World} {K K' R : Act → World → Prop} {Q : Exit → Act → World → Prop} (hk : ∀ a w, K a w → K' a w)
    (h : o.wp P a w K (fun e a w => e = .normal ∧ R a w)) : o.wpIn Fence.wide n P a w K' Q := by
  refine ⟨fun _ _ => trivial, ?_⟩
  have e : o.semAt Fence.wide.round a.eval = execOp a.eval o := rfl
  rw [e]
  unfold Oper.wp at h
  generalize (execOp a.eval o).run P w = r at h ⊢
  cases r with
  | ok x w' =>
    cases x <;> first
      | exact hk _ _ h
      | exact h.elim
      | exact ⟨(fun hh => by cases hh), callsIn_wide.2 (Calls.mono h fun e w' he => by
          cases e with
          | returned v => exact hk _ _ he
          | panicked ch => exact absurd he.1 (by simp)
          | outgrown => obtain ⟨a, w, h, _⟩ := he; cases h)⟩
      | exact ⟨(fun hh => by cases hh), fun c cs _ => by
          obtain ⟨v, w', r, s⟩ := h c cs
          exact ⟨v, w', hk _ _ r, stepsIn_wide.2 s⟩⟩
  | halt x w' =>
    cases x <;> first
      | exact absurd h.1 (by simp)
      | exact h.elim
theorem pre_wide {P : Program} {n : Nat} {ops : Array Oper} {K : Act → World → Prop} {Q : Exit → Act → World → Prop} {rest : List Oper} (hk : ∀ a w, K a w → wpListIn Fence.wide n P ops Q rest a w) :
    ∀ (pre : List Oper) (a : Act) (w : World), wpList P ops (fun e a w => e = .normal ∧ K a w) pre a w → wpListIn Fence.wide n P ops Q (pre ++ rest) a w
  | [], a, w, h => hk a w h.2
  | o :: L, a, w, h => by
    have hl : ¬ LetsOut (fun e (a : Act) (w : World) => e = Exit.normal ∧ K a w) := by rintro ⟨_, _, h, _⟩; cases h
    show wpListIn Fence.wide n P ops Q (o :: (L ++ rest)) a w
    unfold wpList at h
    unfold wpListIn
    split
    · rename_i hw
      rw [if_pos hw] at h
      rcases h with h | h
      · exact oper_wideN (fun a w h => pre_wide hk L a w h) h
      · exact absurd h.2 hl
    · rename_i hw
      rw [if_neg hw] at h
      exact ⟨fun _ _ => trivial, pre_wide hk L _ _ h⟩

structure Host where
  fr : Nat → AV
  L : Nat
  D : Nat
  fn : FuncId
  p : Tmp
  tmps : Array Value
  assign : Code
  body : Code
  m1 : Nat → Prop
def Host.rcd (H : Host) (s : LoopState) (j : Option Code) : Loop := { state := s, pending := j, fn := H.fn, tmps := H.tmps, params := #[H.p], assign := H.assign, body := H.body, defers := H.D }
structure HostOk {P : Program} (G : Ghost P) (H : Host) : Prop where
  mL : H.m1 H.L
  mD : H.m1 H.D
  ne : H.D ≠ H.L
  lL : G.w0.heap.size ≤ H.L
  tok : ∀ d, tokL 8 (H.fr d) = true
  n0 : G.n0 = 0
def ConcH {P : Program} (G : Ghost P) (N : Nat) (H : Host) (st : ASt) (a : Act) (w : World) : Prop :=
  a.defers = [] ∧ a.tmps.size = N ∧ w.heap[H.L]? = some (.loop (H.rcd .ready none)) ∧ w.heap[H.D]? = some (.deferred (some [])) ∧
  ∃ loc, MemB P H.m1 st.hp (fun t => t < st.nx) loc w ∧ Hist G st.hp (fun t => t < st.nx) loc w ∧
    (∀ d, Rel (mkE H.m1 st.hp (fun t => t < st.nx) loc w) (st.fr d) (a.tmps.getD d undef)) ∧ (∀ d, Rel (mkE H.m1 st.hp (fun t => t < st.nx) loc w) (H.fr d) (H.tmps.getD d undef))
def AWH (P : Program) (N : Nat) (H : Host) (c : Code) (Q : Exit → ASt → Prop) (st : ASt) : Prop :=
  ∀ (G : Ghost P) (a : Act) (w : World), HostOk G H → ConcH G N H st a w → c.wp P (fun e a' w' => ∃ st', Q e st' ∧ ConcH G N H st' a' w') a w
section
variable {P : Program} {N : Nat} {H : Host} {Q Q' : Exit → ASt → Prop} {st : ASt} {c x y : Code}
end
end Go.Gm

set_option linter.unusedVariables false
set_option linter.unusedSimpArgs false
namespace Go.Gm
theorem setIn_rel {E : Env} {fr : Nat → AV} {t : Array Value} {p : Tmp} {u : AV} {v : Value} (hp : p < t.size) (h : ∀ d, Rel E (fr d) (t.getD d undef)) (hv : Rel E u v) : ∀ d, Rel E (upd fr p u d) ((t.setIfInBounds p v).getD d undef) := fun d => by
  simp only [upd]
  by_cases e : d = p
  · subst e; simp [hp]; exact hv
  · have := h d
    simp [e, Array.getElem?_setIfInBounds_ne (Ne.symm e)] at this ⊢
    exact this
section
variable {P : Program} {N : Nat} {H : Host} {Q : Exit → ASt → Prop} {st : ASt}
def YK (P : Program) (N : Nat) (H : Host) (ops : List Oper) (oy : Oper) (post : List Oper) (ty tx : Tmp) (dd : Nat) (Q : Exit → ASt → Prop) (s0 : ASt) : Prop :=
  8 ≤ s0.nx ∧ wantedA ops s0.fr oy = some true ∧ s0.fr ty = .val (.func (.yield H.L) #[] #[]) ∧ (∀ d, tokL 8 (s0.fr d) = true) ∧
    AW P H.tmps.size H.assign (fun e s1 => e = .normal ∧ 8 ≤ s1.nx ∧ AW P H.tmps.size H.body (fun e s2 => e = .normal ∧ 8 ≤ s2.nx ∧ arun P N ops post ⟨upd s0.fr dd (.val (.bool true)), s2.hp, s2.nx⟩ (Q .normal)) s1) ⟨upd H.fr H.p (s0.fr tx), s0.hp, s0.nx⟩
theorem tok_any : ∀ d, tokL 8 (anyF d) = true := fun d => by simp [anyF, tokL]
theorem tok_upd {f : Nat → AV} {k : Nat} {v : AV} (h : ∀ d, tokL 8 (f d) = true) (hv : tokL 8 v = true) : ∀ d, tokL 8 (upd f k v d) = true := fun d => by
  simp only [upd]; split
  · exact hv
  · exact h d
theorem AW.toK {K : ASt → Prop} {c : Code} (h : AW P N c (fun e s => e = .normal ∧ ∃ s', Ent N s s' ∧ K s') st) : AW P N c (fun e s => e = .normal ∧ K s) st :=
  h.mono fun e s ⟨he, s', hE, hK⟩ => ⟨s', hE, he, hK⟩
theorem Ent.low {nx nx0 : Nat} {fr fr' : Nat → AV} {hp : AHeap} (h8 : 8 ≤ nx0) (hno : ∀ t, nx0 ≤ t → hp t = none) (hob : ∀ t o, hp t = some o → ∃ sz mu rows, o = .row sz mu rows ∧ rows.all (tokLL nx0) = true)
    (hfr : ∀ d, tokL nx0 (fr' d) = true ∧ (fr' d = .any ∨ Weak (fr d) (fr' d))) : Ent N ⟨fr, hp, nx⟩ ⟨fr', hp, nx0⟩ :=
  Ent.ren (fun t => t) h8 (fun _ _ => rfl) (fun _ _ _ _ _ _ h => h) (fun d => ⟨(hfr d).1, by rw [mapT_id]; exact (hfr d).2⟩) (fun t _ => by
    cases ho : hp t with
    | none => exact .none _
    | some o =>
      obtain ⟨sz, mu, rows, rfl, hr⟩ := hob t o ho
      have := ORen.map (τ := fun t => t) (m := nx0) (sz := sz) (mu := mu) hr
      rwa [show rows.map (mapTL fun t => t) = rows by
        have : mapTL (fun t => t) = id := by funext x; exact mapTL_id x
        rw [this]; simp] at this) hno
end
end Go.Gm

set_option linter.unusedVariables false
set_option linter.unusedSimpArgs false
namespace Go.Gm
theorem results_none {P : Program} {fn : Func} {tmps : Array Value} {w : World} (h : fn.results = #[]) : (results fn tmps).run P w = .ok (.tuple #[]) w := by
  rw [results_eq, h]; simp
section
variable {P : Program} {G : Ghost P} {N : Nat} {st : ASt} {a : Act} {w : World}
end
theorem arun_soundD {P : Program} {N : Nat} {ops : List Oper} {G : Ghost P} {ds : List Deferred} {Q : ASt → Prop} {Q' : Exit → Act → World → Prop} (hQ : ∀ st a w, Q st → a.defers = ds → Conc G N st { a with defers := [] } w → Q' .normal a w) :
    ∀ {rest : List Oper} {st : ASt} {a : Act} {w : World}, a.defers = ds → Conc G N st { a with defers := [] } w → arun P N ops rest st Q → wpList P ops.toArray Q' rest a w
  | [], st, a, w, hd0, hc, h => hQ st a w h hd0 hc
  | o :: rest, st, a, w, hd0, hc, h => by
    unfold arun at h
    split at h
    · exact h.elim
    · rename_i b hw
      have hwant : Region.wanted o (yielded ops.toArray a.tmps) = b := wantedA_eq (a := { a with defers := [] }) hc hw
      obtain ⟨h1, h2, loc, hM, hrel⟩ := hc
      have hev : ∀ x, Rel (mkE G.m1 st.hp (fun t => t < st.nx) loc w) (evF st.fr x) (a.eval x) := rel_eval (a := a) hrel
      cases b with
      | false =>
        simp only [Bool.false_eq_true, if_false] at h
        obtain ⟨hd, h⟩ := h
        show wpList P ops.toArray Q' (o :: rest) a w
        unfold wpList
        rw [hwant]
        refine arun_soundD hQ (st := ⟨putF st.fr o.dst (.val undef), st.hp, st.nx + 8⟩) (by rw [put_defers]; exact hd0) ?_ h
        obtain ⟨hM2, x2⟩ := hM.more (al' := fun t => t < st.nx + 8) (fun t ht => by omega)
        obtain ⟨g1, g2⟩ := rel_put (a := a) (u := .val undef) (v := undef) hd h2 (fun d => (hrel d).ext x2) (.val _)
        exact ⟨rfl, g1, loc, hM2, g2⟩
      | true =>
        simp only [if_true] at h
        have next : ∀ (r : AR) v w' loc', okD N o.dst = true → arun P N ops rest ⟨putF st.fr o.dst r.v, applyEff st.hp r.eff, st.nx + 8⟩ Q → Mem G (applyEff st.hp r.eff) (alR (fun t => t < st.nx) st.nx) loc' w' →
            Ext (mkE G.m1 st.hp (fun t => t < st.nx) loc w) (mkE G.m1 (applyEff st.hp r.eff) (alR (fun t => t < st.nx) st.nx) loc' w') → Rel (mkE G.m1 (applyEff st.hp r.eff) (alR (fun t => t < st.nx) st.nx) loc' w') r.v v →
            wpList P ops.toArray Q' rest (a.put o.dst v) w' := fun r v w' loc' hd hk hM' x hv => by
          refine arun_soundD hQ (by rw [put_defers]; exact hd0) ?_ hk
          obtain ⟨hM2, x2⟩ := hM'.more (al' := fun t => t < st.nx + 8) (fun t ht => by rcases ht with ht | ht <;> omega)
          obtain ⟨g1, g2⟩ := rel_put (a := a) (u := r.v) (v := v) hd h2 (fun d => (hrel d).ext (x.trans x2)) (hv.ext x2)
          exact ⟨rfl, g1, loc', hM2, g2⟩
        show wpList P ops.toArray Q' (o :: rest) a w
        unfold wpList
        rw [hwant]
        refine .inl ?_
        split at h
        · rename_i f us hco
          rcases h with ⟨xs, X, hres, hpc, hent, hlen, hd, hk⟩ | ⟨r, hok, hent, hd, hk⟩
          · exact call_wp hM fresh_nx hev hco hent (CallOk.of_pc hpc hres hlen) fun v w' loc' hM' x hv => next _ v w' loc' hd hk hM' x hv
          · exact call_wp hM fresh_nx hev hco hent hok fun v w' loc' hM' x hv => next _ v w' loc' hd hk hM' x hv
        · split at h
          · rename_i r hr
            exact aop_wp hM fresh_nx (fun _ _ _ h => by simp [noFt] at h) hev hr fun v w' loc' hM' x hv => next r v w' loc' h.1 h.2 hM' x hv
          · exact h.elim
end Go.Gm

set_option linter.unusedVariables false
set_option linter.unusedSimpArgs false
namespace Go.Gm
section
variable {P : Program} {G : Ghost P} {N : Nat} {st st' : ASt} {Q : Exit → Act → World → Prop} {x y : Code} {ops : List Oper} {id : Nat}
def Cont {P : Program} (G : Ghost P) (N : Nat) (y : Code) (Q : Exit → Act → World → Prop) (s : ASt) : Prop := ∀ a w, Conc G N s a w → y.wp P Q a w
theorem Cont.ent (h : Ent N st st') (k : Cont G N y Q st') : Cont G N y Q st := fun a w hc => k a w (h P G a w hc)
theorem Cont.reg (l : List Nat) (h : arun P N ops ops st (fun st' => Cont G N y Q ⟨restr st'.fr l, st'.hp, st'.nx⟩)) : Cont G N (.seq (.region id ops.toArray false) y) Q st := fun a w hc => by
  have := AW.regionL (Q := fun e s => e = .normal ∧ Cont G N y Q s) (id := id) l (by
    have e : (fun st' : ASt => (fun e s => e = Exit.normal ∧ Cont G N y Q s) Exit.normal ⟨restr st'.fr l, st'.hp, st'.nx⟩) = (fun st' => Cont G N y Q ⟨restr st'.fr l, st'.hp, st'.nx⟩) := by funext s; simp
    rw [e]; exact h)
  refine wp_seq (wp_mono (this none G a w hc) ?_)
  rintro e a' w' ⟨s, ⟨rfl, hk⟩, hc'⟩
  exact hk a' w' hc'
theorem Cont.seq (h : Cont G N x (Exit.then (fun a w => y.wp P Q a w) Q) st) : Cont G N (.seq x y) Q st := fun a w hc => wp_seq (h a w hc)
theorem Cont.block {t : Nat} (h : Cont G N x (Exit.inBlock t Q) st) : Cont G N (.block t x) Q st := fun a w hc => wp_block (h a w hc)
theorem Cont.ren (hn0 : G.n0 = 0) (τ : Nat → Nat) (hinj : ∀ i j, i < st'.nx → j < st'.nx → st'.hp i ≠ none → st'.hp j ≠ none → τ i = τ j → i = j) (hhp : ∀ t, t < st'.nx → ORen τ st'.nx (st.hp (τ t)) (st'.hp t)) (hno : ∀ t, st'.nx ≤ t → st'.hp t = none)
    (hfr : ∀ d, tokL st'.nx (st'.fr d) = true ∧ (st'.fr d = .any ∨ Weak (st.fr d) (mapT τ (st'.fr d)))) (k : Cont G N x Q st') : Cont G N x Q st := fun a w hc => by
  obtain ⟨c1, c2, loc, hM, hr⟩ := hc
  obtain ⟨loc', hB', hHi', x⟩ := hM.base.ren hM.hist hn0 τ hinj hhp hno
  refine k a w ⟨c1, c2, loc', hB'.with hHi', fun d => ?_⟩
  obtain ⟨h1, h2⟩ := hfr d
  rcases h2 with h2 | h2
  · rw [h2]; exact .any _
  · exact rel_ren x h1 (h2 _ _ (hr d))
def FinM (G : Ghost P) (rs : List ResultVar) (X : AV) (e : Exit) (a' : Act) (w' : World) : Prop :=
  (e = .normal ∨ e = .ret) ∧ ∃ D s loc, a'.defers = [{ target := .collected D, args := #[] }] ∧ w'.heap[D]? = some (.deferred (some [])) ∧ G.w0.heap.size ≤ D ∧ MemB P (fun b => G.m1 b ∨ b = D ∨ b = D + 1) s.hp (fun t => t < s.nx) loc w' ∧
    Hist G s.hp (fun t => t < s.nx) loc w' ∧ (∀ d, Rel (mkE (fun b => G.m1 b ∨ b = D ∨ b = D + 1) s.hp (fun t => t < s.nx) loc w') (s.fr d) (a'.tmps.getD d undef)) ∧ finA P rs X .ret s
theorem pc_of_marks {f : FuncId} {fn : Func} {c : Code} {us : List AV} {X : AV} {rs : List ResultVar} (hf : P.funcs[f]? = some fn) (hb : fn.body = some c) (hN : fn.ntmps = N) (hrs : fn.results.toList = rs) (hn : us.length ≤ N)
    (h : ∀ G : Ghost P, G.n0 = 0 → Cont G N c (FinM G rs X) ⟨initF us, hpL [] [], 8⟩) : PC P f us X := by
  subst hN; subst hrs
  intro m w vs hm ht hus
  have hM0 : Mem ⟨w, fun _ => False, m, hm, 0, fun _ => none, Nat.zero_le _, ht⟩ (fun _ => none) (fun t => t < 0) (fun _ => none) w :=
    ⟨fun _ _ h => by simp at h, fun _ _ => rfl, fun _ _ h => by simp at h, fun _ _ _ _ h => by simp at h, rfl, rfl, rfl, Nat.le_refl _, fun _ _ _ => rfl, fun b h => by obtain ⟨t, o, l, h, _⟩ := h; simp at h, fun _ _ h => by simp at h, fun t ht => absurd ht (Nat.not_lt_zero t), fun t l ht _ => absurd ht (Nat.not_lt_zero t)⟩
  have hc0 : Conc ⟨w, fun _ => False, m, hm, 0, fun _ => none, Nat.zero_le _, ht⟩ fn.ntmps ⟨initF us, fun _ => none, 0⟩ { tmps := vs.toArray ++ Array.replicate (fn.ntmps - vs.toArray.size) undef, defers := [] } w := by
    refine ⟨rfl, ?_, fun _ => none, hM0, fun d => ?_⟩
    · have := hus.length
      simp; omega
    · have x : Ext (E0 m w) (mkE m (fun _ => none) (fun t => t < 0) (fun _ => none) w) := mk_ext (fun _ h => h.elim) (fun _ _ h => h.elim) (Nat.le_refl _) (fun _ _ h => h) (fun _ _ _ => rfl)
      simp only [initF]
      cases hd : us[d]? with
      | none => exact .any _
      | some u =>
        obtain ⟨v, hv, hr⟩ := hus.get d u hd
        have hlt : d < vs.length := (List.getElem?_eq_some_iff.1 hv).1
        have : ((vs.toArray ++ Array.replicate (fn.ntmps - vs.toArray.size) undef).getD d undef) = v := by
          rw [Array.getD_eq_getD_getElem?, Array.getElem?_append_left (by simpa using hlt)]
          simp [hv]
        simp only [Option.getD_some]
        rw [this]
        exact hr.ext x
  have hst : Ent fn.ntmps ⟨initF us, fun _ => none, 0⟩ ⟨initF us, hpL [] [], 8⟩ := by
    rw [hpL_nil]; exact Ent.st .refl .refl (by omega)
  refine (callsIn_wide (n := 0)).1 (callsIn_of_wp_marks hf hb trivial ((wpIn_wide (n := 0)).2 (wp_mono (h _ rfl _ w (hst P _ _ w hc0)) ?_)) rfl)
  rintro e a' w' ⟨he, D, s, loc, hd, hD, hGD, hB, hH, hr, hfin⟩
  have fin : LeavesInM Fence.wide 0 P fn a'.tmps (fun e w' => ∃ v hp al loc r ts, e = .returned v ∧ Mem ⟨w, fun _ => False, m, hm, 0, fun _ => none, Nat.zero_le _, ht⟩ hp al loc w' ∧ Rel (mkE m hp al loc w') r v ∧ sealV hp r = some (X, ts) ∧ ts.Nodup) a'.defers .returning w' := by
    rw [hd]
    refine ⟨by simp, .inl ⟨D, _, rfl, run_takeDeferred hD, ?_⟩⟩
    obtain ⟨hB2, x2⟩ := hB.put (.inr (.inl rfl)) hD rfl (.deferred none)
    have hH2 := hH.put hGD (.deferred none)
    obtain ⟨hB3, x3⟩ := hB2.to (m2 := m) (w' := w'.putObj D (.deferred none)) (Nat.le_refl _) (fun b _ hm => .inl hm) (fun b hb => hB2.m1lt b (.inl hb)) (fun _ _ => .inl rfl)
    have hM3 := hB3.with (G := ⟨w, fun _ => False, m, hm, 0, fun _ => none, Nat.zero_le _, ht⟩) hH2
    simp only [finA] at hfin
    split at hfin
    · rename_i l hl
      split at hfin
      · rename_i Y ts hs
        obtain ⟨rfl, hnd⟩ := hfin
        obtain ⟨vs', hv, hrl⟩ := results_rel (a := a') hM3 (fun d => ((hr d).extW x2).extW x3) hl
        have hrun : (results fn a'.tmps).run P (w'.putObj D (.deferred none)) = .ok (if h : vs'.toArray.size = 1 then vs'.toArray[0] else .tuple vs'.toArray) (w'.putObj D (.deferred none)) := by
          rw [results_eq, Sem.run_bind]
          have hm : (fn.results.mapM (resItem a'.tmps)).run P (w'.putObj D (.deferred none)) = .ok vs'.toArray (w'.putObj D (.deferred none)) := by
            rw [Array.mapM_eq_mapM_toList, Sem.run_map, hv]; rfl
          rw [hm]; rfl
        exact ⟨_, hrun, _, s.hp, _, loc, resOf l, ts, rfl, hM3, relL_resOf hrl, hs, hnd⟩
      · exact hfin.elim
    · exact hfin.elim
  rcases he with rfl | rfl
  · exact fin
  · exact fin
def RetK (P : Program) (N : Nat) (rs : List ResultVar) (X : AV) (s : ASt) : Prop := ∃ s', Ent N s s' ∧ finA P rs X .ret s'
theorem RetK.fin {s : ASt} {rs : List ResultVar} {X : AV} (h : finA P rs X .ret s) : RetK P N rs X s := ⟨s, Ent.refl, h⟩
theorem tail_wp {D : Nat} {rs : List ResultVar} {X : AV} {loc : Nat → Option Loc} {a : Act} {w : World} (hd : a.defers = [{ target := .collected D, args := #[] }]) (hD : w.heap[D]? = some (.deferred (some []))) (hGD : G.w0.heap.size ≤ D)
    (hB : MemB P (fun b => G.m1 b ∨ b = D ∨ b = D + 1) st.hp (fun t => t < st.nx) loc w) (hH : Hist G st.hp (fun t => t < st.nx) loc w) (hr : ∀ d, Rel (mkE (fun b => G.m1 b ∨ b = D ∨ b = D + 1) st.hp (fun t => t < st.nx) loc w) (st.fr d) (a.tmps.getD d undef))
    (h8 : 8 ≤ st.nx) (hsz : a.tmps.size = N) (l : List Nat) (h : arun P N ops ops st (fun s => RetK P N rs X ⟨restr s.fr l, s.hp, s.nx⟩)) : (Code.seq (.region id ops.toArray false) .ret).wp P (FinM G rs X) a w := by
  have hM := hB.mem (fun t (ht : t < 8) => Nat.lt_of_lt_of_le ht h8)
  refine wp_seq (wp_region_list ?_)
  show wpList P ops.toArray _ ops a w
  refine arun_soundD (fun s a' w' hs hd' hc' => ?_) hd (G := hB.g) ⟨rfl, hsz, loc, hM, hr⟩ h
  obtain ⟨s2, hE, hfin⟩ := hs
  obtain ⟨e1, e2, loc1, hM1, hr1⟩ := hE P _ _ _ (Ent.restr l P _ _ _ hc')
  refine wp_ret ⟨.inr rfl, D, s2, loc1, hd', (hB.kept hM1 (.inr (.inl rfl))).trans hD, hGD, hB.back hM1, hH.back hB hM1, hr1, hfin⟩
end
end Go.Gm

set_option linter.unusedVariables false
set_option linter.unusedSimpArgs false
namespace Go.Gm.Two
open Go.Gm
structure Host where
  fr : Nat → AV
  L : Nat
  D : Nat
  fn : FuncId
  p : Tmp
  p2 : Tmp
  tmps : Array Value
  assign : Code
  body : Code
  m1 : Nat → Prop
def Host.rcd (H : Host) (s : LoopState) (j : Option Code) : Loop := { state := s, pending := j, fn := H.fn, tmps := H.tmps, params := #[H.p, H.p2], assign := H.assign, body := H.body, defers := H.D }
structure HostOk {P : Program} (G : Ghost P) (H : Host) : Prop where
  mL : H.m1 H.L
  mD : H.m1 H.D
  ne : H.D ≠ H.L
  lL : G.w0.heap.size ≤ H.L
  tok : ∀ d, tokL 8 (H.fr d) = true
  n0 : G.n0 = 0
def ConcH {P : Program} (G : Ghost P) (N : Nat) (H : Host) (st : ASt) (a : Act) (w : World) : Prop :=
  a.defers = [] ∧ a.tmps.size = N ∧ w.heap[H.L]? = some (.loop (H.rcd .ready none)) ∧ w.heap[H.D]? = some (.deferred (some [])) ∧
  ∃ loc, MemB P H.m1 st.hp (fun t => t < st.nx) loc w ∧ Hist G st.hp (fun t => t < st.nx) loc w ∧
    (∀ d, Rel (mkE H.m1 st.hp (fun t => t < st.nx) loc w) (st.fr d) (a.tmps.getD d undef)) ∧ (∀ d, Rel (mkE H.m1 st.hp (fun t => t < st.nx) loc w) (H.fr d) (H.tmps.getD d undef))
def AWH (P : Program) (N : Nat) (H : Host) (c : Code) (Q : Exit → ASt → Prop) (st : ASt) : Prop :=
  ∀ (G : Ghost P) (a : Act) (w : World), HostOk G H → ConcH G N H st a w → c.wp P (fun e a' w' => ∃ st', Q e st' ∧ ConcH G N H st' a' w') a w
section
variable {P : Program} {N : Nat} {H : Host} {Q Q' : Exit → ASt → Prop} {st : ASt} {c x y : Code}
theorem ConcH.of {G : Ghost P} {a a' : Act} {w w' : World} {loc : Nat → Option Loc} {st' : ASt} (hok : HostOk G H) (hL : w.heap[H.L]? = some (.loop (H.rcd .ready none))) (hD : w.heap[H.D]? = some (.deferred (some [])))
    (hB : MemB P H.m1 st.hp (fun t => t < st.nx) loc w) (hH : Hist G st.hp (fun t => t < st.nx) loc w) (hf : ∀ d, Rel (mkE H.m1 st.hp (fun t => t < st.nx) loc w) (H.fr d) (H.tmps.getD d undef)) (h : Conc hB.g N st' a' w') : ConcH G N H st' a' w' := by
  obtain ⟨c1, c2, loc', hM', hr'⟩ := h
  exact ⟨c1, c2, (hB.kept hM' hok.mL).trans hL, (hB.kept hM' hok.mD).trans hD, loc', hB.back hM', hH.back hB hM', hr', fun d => hB.stable hM' (hok.tok d) (hf d)⟩
theorem AWH.of (h8 : 8 ≤ st.nx) (h : AW P N c Q st) : AWH P N H c Q st := by
  rintro G a w hok ⟨c1, c2, hL, hD, loc, hB, hH, hr, hf⟩
  have hM := hB.mem (fun t (ht : t < 8) => Nat.lt_of_lt_of_le ht h8)
  refine wp_mono (h none hB.g a w ⟨c1, c2, loc, hM, hr⟩) ?_
  rintro e a' w' ⟨st', hq, hc'⟩
  exact ⟨st', hq, ConcH.of (a := a) hok hL hD hB hH hf hc'⟩
theorem AWH.seq (h : AWH P N H x (thenA (AWH P N H y Q) Q) st) : AWH P N H (.seq x y) Q st := fun G a w hok hc => by
  refine wp_seq (wp_mono (h G a w hok hc) ?_)
  rintro e a' w' ⟨st', hq, hc'⟩
  cases e with
  | normal => exact hq G a' w' hok hc'
  | _ => exact ⟨st', hq, hc'⟩
theorem AWH.cond {o : Operand} {b : Bool} (hc : evF st.fr o = .val (.bool b)) (h : AWH P N H (if b then x else y) Q st) : AWH P N H (.cond o x y) Q st := fun G a w hok hcc => by
  obtain ⟨c1, c2, hL, hD, loc, hB, hH, hr, hf⟩ := hcc
  exact wp_cond (rel_val (hc ▸ rel_eval hr o)) (h G a w hok ⟨c1, c2, hL, hD, loc, hB, hH, hr, hf⟩)
theorem AWH.block {id : Nat} (h : AWH P N H c (inBlockA id Q) st) : AWH P N H (.block id c) Q st := fun G a w hok hc => by
  refine wp_block (wp_mono (h G a w hok hc) ?_)
  rintro e a' w' ⟨st', hq, hc'⟩
  cases e with
  | exit id' =>
    simp only [inBlockA] at hq
    simp only [Exit.inBlock]
    split
    · rename_i hid; rw [if_pos hid] at hq; exact ⟨st', hq, hc'⟩
    · rename_i hid; rw [if_neg hid] at hq; exact ⟨st', hq, hc'⟩
  | _ => exact ⟨st', hq, hc'⟩
theorem AWH.loop (I : Nat → ASt → Prop) (n₀ : Nat) (h0 : I n₀ st)
    (round : ∀ k st, I k st → AWH P N H c (thenA (fun st' => ∃ k', k' < k ∧ I k' st') Q) st) : AWH P N H (.loop c) Q st := fun G a w hok hc => by
  refine wp_loop_ghost (fun n a w => ∃ st, I n st ∧ ConcH G N H st a w) n₀ ⟨st, h0, hc⟩ ?_
  rintro n a w ⟨st, hI, hc⟩
  refine wp_mono (round n st hI G a w hok hc) ?_
  rintro e a' w' ⟨st', hq, hc'⟩
  cases e with
  | normal =>
    obtain ⟨k', hlt, hI'⟩ := hq
    exact ⟨k', hlt, st', hI', hc'⟩
  | _ => exact ⟨st', hq, hc'⟩
end
theorem run_yieldOp {P : Program} {o : Oper} {a : Act} {w : World} {ty tx tx2 : Tmp} {tys : Array TypeId} {L : Nat} (hop : o.op = .call { callee := .value (.tmp ty), args := #[.tmp tx, .tmp tx2], argTypes := tys })
    (hv : a.eval (.tmp ty) = .func (.yield L) #[] #[]) : (execOp a.eval o).run P w = (Instr.yield L #[a.eval (.tmp tx), a.eval (.tmp tx2)]).run P w := by
  obtain ⟨dst, op, t, pos, after, guard⟩ := o
  simp only at hop
  subst hop
  simp [execOp, resolve, Deferred.ofValue, hv, invoke]
section
variable {P : Program} {N : Nat} {H : Host} {Q : Exit → ASt → Prop} {st : ASt}
theorem round_in {G : Ghost P} {a : Act} {w : World} {loc : Nat → Option Loc} {n : Nat} {X X2 : AV} {x x2v : Value} {K : AHeap → Nat → Prop} (hok : HostOk G H) (hc : ConcH G N H st a w) (h8 : 8 ≤ st.nx) (hp : H.p < H.tmps.size) (hp2 : H.p2 < H.tmps.size)
    (htok : ∀ d, tokL 8 (st.fr d) = true) (hx : ∀ (E : Env), (∀ d, Rel E (st.fr d) (a.tmps.getD d undef)) → Rel E X x) (hx2 : ∀ (E : Env), (∀ d, Rel E (st.fr d) (a.tmps.getD d undef)) → Rel E X2 x2v)
    (h : AW P H.tmps.size H.assign (fun e s1 => e = .normal ∧ 8 ≤ s1.nx ∧ AW P H.tmps.size H.body (fun e s2 => e = .normal ∧ K s2.hp s2.nx) s1) ⟨upd (upd H.fr H.p X) H.p2 X2, st.hp, st.nx⟩) :
    RoundIn Fence.wide n P H.L H.fn ((H.tmps.setIfInBounds H.p x).setIfInBounds H.p2 x2v) H.assign H.body w fun e w' => e = .returned (.bool true) ∧ ∃ hp' nx', K hp' nx' ∧ ConcH G N H ⟨st.fr, hp', nx'⟩ a w' := by
  obtain ⟨c1, c2, hL, hD, loc, hB, hH, hr, hf⟩ := hc
  refine roundIn_of_wpIn trivial ?_
  have hM := hB.mem (fun t (ht : t < 8) => Nat.lt_of_lt_of_le ht h8)
  refine wpIn_mono (h (some (H.L, n)) hB.g { tmps := (H.tmps.setIfInBounds H.p x).setIfInBounds H.p2 x2v, defers := [] } w ⟨rfl, by simp, loc, hM, setIn_rel (by simpa using hp2) (setIn_rel hp hf (hx _ hr)) (hx2 _ hr)⟩) ?_
  rintro e a1 w1 ⟨s1, ⟨rfl, h81, hbody⟩, hc1⟩
  obtain ⟨d1, d2, loc1, hM1, hr1⟩ := hc1
  have hB1 := hB.back hM1
  have hH1 := hH.back hB hM1
  have hL1 := (hB.kept hM1 hok.mL).trans hL
  have hD1 := (hB.kept hM1 hok.mD).trans hD
  have hf1 := fun d => hB.stable hM1 (hok.tok d) (hf d)
  have hg1 := fun d => hB.stable hM1 (htok d) (hr d)
  refine ⟨_, run_beginRound hL1 rfl, ?_⟩
  obtain ⟨hB2, x2⟩ := hB1.put hok.mL hL1 rfl (.loop { H.rcd .ready none with state := .busy })
  have hH2 := hH1.put hok.lL (.loop { H.rcd .ready none with state := .busy })
  have hL2 : (w1.putObj H.L (.loop { H.rcd .ready none with state := .busy })).heap[H.L]? = some (.loop { H.rcd .ready none with state := .busy }) := World.putObj_heap_same (Array.getElem?_eq_some_iff.1 hL1).1
  have hD2 : (w1.putObj H.L (.loop { H.rcd .ready none with state := .busy })).heap[H.D]? = some (.deferred (some [])) := (World.putObj_heap_other hok.ne).trans hD1
  have hM2 := hB2.mem (fun t (ht : t < 8) => Nat.lt_of_lt_of_le ht h81)
  refine wpIn_mono (hbody (some (H.L, n)) hB2.g a1 _ ⟨d1, d2, loc1, hM2, fun d => (hr1 d).extW x2⟩) ?_
  rintro e a3 w3 ⟨s3, ⟨rfl, hK⟩, hc3⟩
  obtain ⟨e1, e2, loc3, hM3, hr3⟩ := hc3
  have hB3 := hB2.back hM3
  have hH3 := hH2.back hB2 hM3
  have hL3 := (hB2.kept hM3 hok.mL).trans hL2
  have hD3 := (hB2.kept hM3 hok.mD).trans hD2
  refine ⟨_, _, run_endRound none hL3, ?_⟩
  obtain ⟨hB4, x4⟩ := hB3.put hok.mL hL3 rfl (.loop { { H.rcd .ready none with state := .busy } with state := if (none : Option Code).isNone = true then .ready else .done, pending := none })
  have hH4 := hH3.put hok.lL (.loop { { H.rcd .ready none with state := .busy } with state := if (none : Option Code).isNone = true then .ready else .done, pending := none })
  refine ⟨rfl, s3.hp, s3.nx, hK, c1, c2, World.putObj_heap_same (Array.getElem?_eq_some_iff.1 hL3).1, (World.putObj_heap_other hok.ne).trans hD3, loc3, hB4, hH4, fun d => ?_, fun d => ?_⟩
  · exact (hB2.stable hM3 (htok d) ((hg1 d).extW x2)).extW x4
  · exact (hB2.stable hM3 (hok.tok d) ((hf1 d).extW x2)).extW x4

theorem AWH.regionY {ops pre post : List Oper} {oy : Oper} {id : Nat} {ty tx tx2 : Tmp} {tys : Array TypeId} {dd : Nat} (hops : ops = pre ++ oy :: post)
    (hoy : oy.op = .call { callee := .value (.tmp ty), args := #[.tmp tx, .tmp tx2], argTypes := tys }) (hdst : oy.dst = some dd) (h8 : 8 ≤ st.nx) (hdd : dd < N) (hpt : H.p < H.tmps.size) (hpt2 : H.p2 < H.tmps.size)
    (Kp : ASt → Prop) (hKp : ∀ s0, Kp s0 → 8 ≤ s0.nx ∧ wantedA ops s0.fr oy = some true ∧ s0.fr ty = .val (.func (.yield H.L) #[] #[]) ∧ (∀ d, tokL 8 (s0.fr d) = true) ∧
      AW P H.tmps.size H.assign (fun e s1 => e = .normal ∧ 8 ≤ s1.nx ∧ AW P H.tmps.size H.body (fun e s2 => e = .normal ∧ 8 ≤ s2.nx ∧ arun P N ops post ⟨upd s0.fr dd (.val (.bool true)), s2.hp, s2.nx⟩ (Q .normal)) s1) ⟨upd (upd H.fr H.p (s0.fr tx)) H.p2 (s0.fr tx2), s0.hp, s0.nx⟩)
    (h : arun P N ops pre st Kp) :
    AWH P N H (.region id ops.toArray false) Q st := fun G a w hok hc => by
  obtain ⟨c1, c2, hL, hD, loc, hB, hH, hr, hf⟩ := hc
  have hM := hB.mem (fun t (ht : t < 8) => Nat.lt_of_lt_of_le ht h8)
  refine (wpIn_wide (n := 1)).1 (wpIn_region_list ?_)
  suffices hs : ∀ l, l = pre ++ oy :: post → wpListIn Fence.wide 1 P ops.toArray (fun e a' w' => ∃ st', Q e st' ∧ ConcH G N H st' a' w') l a w by exact hs ops hops
  rintro l rfl
  have hp1 := arun_sound (md := none) (Q' := fun e a' w' => e = .normal ∧ ∃ s0, Kp s0 ∧ Conc hB.g N s0 a' w') (fun s0 a' w' hq hc => ⟨rfl, s0, hq, hc⟩) ⟨c1, c2, loc, hM, hr⟩ h
  refine (pre_wide (rest := oy :: post) ?_ pre a w hp1)
  rintro a1 w1 ⟨s0, hk0, hc1⟩
  obtain ⟨h81, hw, hty, htok, hround⟩ := hKp s0 hk0
  have hcH : ConcH G N H s0 a1 w1 := ConcH.of (a := a) hok hL hD hB hH hf hc1
  have hwant := wantedA_eq hc1 hw
  obtain ⟨d1, d2, hL1, hD1, loc1, hB1, hH1, hr1, hf1⟩ := hcH
  have hvy : a1.eval (.tmp ty) = .func (.yield H.L) #[] #[] := by
    have h := rel_eval hr1 (.tmp ty)
    rw [show evF s0.fr (.tmp ty) = s0.fr ty from rfl, hty] at h
    exact rel_val h
  unfold wpListIn
  rw [if_pos hwant]
  refine ⟨fun _ _ => trivial, ?_⟩
  have e : oy.semAt Fence.wide.round a1.eval = execOp a1.eval oy := rfl
  have hfold : ((H.rcd .ready none).params.zip #[a1.eval (.tmp tx), a1.eval (.tmp tx2)]).foldl (fun tmps (t, a) => tmps.setIfInBounds t a) (H.rcd .ready none).tmps = (H.tmps.setIfInBounds H.p (a1.eval (.tmp tx))).setIfInBounds H.p2 (a1.eval (.tmp tx2)) := by simp [Host.rcd]
  rw [e, run_yieldOp hoy hvy, run_yield hL1 (by rfl), hfold]
  refine ⟨(fun hh => by cases hh), RoundIn.mono (round_in (K := fun hp' nx' => 8 ≤ nx' ∧ arun P N ops post ⟨upd s0.fr dd (.val (.bool true)), hp', nx'⟩ (Q .normal)) (X := s0.fr tx) (x := a1.eval (.tmp tx)) (X2 := s0.fr tx2) (x2v := a1.eval (.tmp tx2)) (loc := loc1) hok ⟨d1, d2, hL1, hD1, loc1, hB1, hH1, hr1, hf1⟩ h81 hpt hpt2 htok (fun E hE => hE tx) (fun E hE => hE tx2) hround) ?_⟩
  rintro e' w2 ⟨rfl, hp', nx', ⟨h82, hpost⟩, hc2⟩
  obtain ⟨k1, k2, hL2, hD2, loc2, hB2, hH2, hr2, hf2⟩ := hc2
  have hM2 := hB2.mem (fun t (ht : t < 8) => Nat.lt_of_lt_of_le ht h82)
  obtain ⟨g1, g2⟩ := rel_put (d := some dd) (u := .val (.bool true)) (v := .bool true) (by simpa [okD] using hdd) k2 hr2 (.val _)
  have hp2 := arun_sound (md := none) (Q' := fun e a' w' => e = .normal ∧ ∃ s0, Q .normal s0 ∧ Conc hB2.g N s0 a' w') (fun s0 a' w' hq hc => ⟨rfl, s0, hq, hc⟩) (a := a1.put (some dd) (.bool true)) (w := w2) (st := ⟨upd s0.fr dd (.val (.bool true)), hp', nx'⟩) ⟨by rw [put_defers]; exact k1, g1, loc2, hM2, g2⟩ hpost
  rw [hdst]
  have hfin := pre_wide (n := 1) (ops := ops.toArray) (rest := []) (Q := fun e a' w' => ∃ st', Q e st' ∧ ConcH G N H st' a' w') (fun a3 w3 hk => ?_) post _ _ hp2
  · simpa using hfin
  · obtain ⟨s3, hq3, hc3⟩ := hk
    exact ⟨s3, hq3, ConcH.of (a := a) hok hL2 hD2 hB2 hH2 hf2 hc3⟩
def YK (P : Program) (N : Nat) (H : Host) (ops : List Oper) (oy : Oper) (post : List Oper) (ty tx tx2 : Tmp) (dd : Nat) (Q : Exit → ASt → Prop) (s0 : ASt) : Prop :=
  8 ≤ s0.nx ∧ wantedA ops s0.fr oy = some true ∧ s0.fr ty = .val (.func (.yield H.L) #[] #[]) ∧ (∀ d, tokL 8 (s0.fr d) = true) ∧
    AW P H.tmps.size H.assign (fun e s1 => e = .normal ∧ 8 ≤ s1.nx ∧ AW P H.tmps.size H.body (fun e s2 => e = .normal ∧ 8 ≤ s2.nx ∧ arun P N ops post ⟨upd s0.fr dd (.val (.bool true)), s2.hp, s2.nx⟩ (Q .normal)) s1) ⟨upd (upd H.fr H.p (s0.fr tx)) H.p2 (s0.fr tx2), s0.hp, s0.nx⟩
theorem AWH.yield (k : Nat) {ops : List Oper} {oy : Oper} {id : Nat} {ty tx tx2 : Tmp} {tys : Array TypeId} {dd : Nat} (hk : ops[k]? = some oy)
    (hoy : oy.op = .call { callee := .value (.tmp ty), args := #[.tmp tx, .tmp tx2], argTypes := tys }) (hdst : oy.dst = some dd) (h8 : 8 ≤ st.nx) (hdd : dd < N) (hpt : H.p < H.tmps.size) (hpt2 : H.p2 < H.tmps.size)
    (h : arun P N ops (ops.take k) st (YK P N H ops oy (ops.drop (k + 1)) ty tx tx2 dd Q)) : AWH P N H (.region id ops.toArray false) Q st := by
  have hlt := (List.getElem?_eq_some_iff.1 hk).1
  have hops : ops = ops.take k ++ oy :: ops.drop (k + 1) := by
    have e : ops[k] = oy := (List.getElem?_eq_some_iff.1 hk).2
    rw [← e, List.getElem_cons_drop, List.take_append_drop]
  exact AWH.regionY hops hoy hdst h8 hdd hpt hpt2 _ (fun _ h => h) h
end
section
variable {P : Program} {G : Ghost P} {N : Nat} {st : ASt} {a : Act} {w : World}
theorem range_wp {g : Operand} {p p2 : Tmp} {assign body : Code} {gf : FuncId} {fg : Func} {cg : Code} {caps : List AV} {K : AHeap → Nat → Prop} {Q : Exit → Act → World → Prop}
    (hc : Conc G N st a w) (hg : evF st.fr g = .clo (.func gf) [] caps) (hgf : P.funcs[gf]? = some fg) (hbg : fg.body = some cg) (eg : Enter P gf) (hres : fg.results = #[]) (hp : p < N)
    (htok : ∀ d, tokL 8 (st.fr d) = true) (h8 : 8 ≤ st.nx) (hlen : caps.length + 1 ≤ fg.ntmps)
    (hn0 : G.n0 = 0) (hbody : ∀ H : Host, H.fr = st.fr → H.assign = assign → H.body = body → H.p = p → H.p2 = p2 → H.tmps.size = N →
      AWH P fg.ntmps H cg (fun e s => (e = .normal ∨ e = .ret) ∧ K s.hp s.nx) ⟨initF (.val (.func (.yield H.L) #[] #[]) :: caps), st.hp, st.nx⟩)
    (hQ : ∀ D hp' nx' loc' w', K hp' nx' → w'.heap[D]? = some (.deferred (some [])) → G.w0.heap.size ≤ D → MemB P (fun b => G.m1 b ∨ b = D ∨ b = D + 1) hp' (fun t => t < nx') loc' w' → Hist G hp' (fun t => t < nx') loc' w' →
      (∀ d, Rel (mkE (fun b => G.m1 b ∨ b = D ∨ b = D + 1) hp' (fun t => t < nx') loc' w') (st.fr d) (a.tmps.getD d undef)) → Q .normal { a with defers := [{ target := .collected D, args := #[] }] ++ a.defers } w') :
    (Code.rangeFunc g #[p, p2] assign body).wp P Q a w := by
  obtain ⟨c1, c2, loc, hM, hr⟩ := hc
  refine (wpIn_wide (n := 2)).1 (wpIn_rangeFunc ?_)
  intro fn _
  have hv := rel_eval hr g
  rw [hg] at hv
  generalize hev : a.eval g = vg at hv
  cases hv with
  | clo hf hcap =>
    rename_i f' lb
    cases hf
    let H : Host := ⟨st.fr, w.heap.size + 1, w.heap.size, fn, p, p2, a.tmps, assign, body, fun b => G.m1 b ∨ b = w.heap.size ∨ b = w.heap.size + 1⟩
    obtain ⟨W1, hW1⟩ : ∃ W1, (w.alloc (.deferred (some []))).alloc (.loop (H.rcd .ready none)) = W1 := ⟨_, rfl⟩
    have hs1 : W1.heap.size = w.heap.size + 2 := by rw [← hW1]; simp
    have hold : ∀ k, k < w.heap.size → W1.heap[k]? = w.heap[k]? := fun k hk => by
      rw [← hW1]; exact (heap_alloc_lt _ _ k (by simp; omega)).trans (heap_alloc_lt _ _ k hk)
    have hL : W1.heap[H.L]? = some (.loop (H.rcd .ready none)) := by
      rw [← hW1]; have := World.alloc_heap_new (w.alloc (.deferred (some []))) (.loop (H.rcd .ready none)); rwa [World.size_alloc] at this
    have hD : W1.heap[H.D]? = some (.deferred (some [])) := by
      rw [← hW1]; exact (heap_alloc_lt _ _ _ (by simp [H])).trans (World.alloc_heap_new w _)
    have ho1 : W1.os = w.os := by rw [← hW1]; rfl
    have ho2 : W1.tape = w.tape := by rw [← hW1]; rfl
    have ho3 : W1.output = w.output := by rw [← hW1]; rfl
    have hB := hM.base
    obtain ⟨hB1, x1⟩ := hB.to (m2 := H.m1) (w' := W1) (by omega) (fun b hb hm => by
      rcases hm with hm | hm | hm
      · exact hm
      · omega
      · omega) (fun b hm => by
      rcases hm with hm | hm | hm
      · have := hB.m1lt b hm; omega
      · omega
      · omega) (fun b hb => .inl (hold b hb))
    have hH1 : Hist G st.hp (fun t => t < st.nx) loc W1 := hM.hist.to (by omega) (fun b hb => hold b (Nat.lt_of_lt_of_le hb hM.size)) ho1 ho2 ho3
    have hok : HostOk G H := ⟨.inr (.inr rfl), .inr (.inl rfl), by simp [H], by have := hM.size; simp only [H]; omega, htok, hn0⟩
    refine ⟨w.heap.size + 1, [{ target := .collected w.heap.size, args := #[] }], W1, { target := .fn (.func gf) lb.toArray, args := #[.func (.yield (w.heap.size + 1)) #[] #[]] }, W1, gf,
      #[.func (.yield (w.heap.size + 1)) #[] #[]] ++ lb.toArray, W1, ?_, ?_, fun _ _ => trivial, ?_, (fun h => by cases h), callsIn_wide.2 ?_⟩
    · rw [← hW1]; exact run_enterLoop_outer _ _ _ _ _
    · simp only [resolve, hev]
      simp [go_sem]
    · have := eg (#[.func (.yield (w.heap.size + 1)) #[] #[]] ++ lb.toArray) W1
      simp only [invoke]; exact this
    · have hll := hcap.length
      refine calls_of_wp hgf hbg (wp_mono (hbody H rfl rfl rfl rfl rfl c2 G _ W1 hok ⟨rfl, ?_, hL, hD, loc, hB1, hH1, fun d => ?_, fun d => (hr d).extW x1⟩) ?_)
      · simp; omega
      · simp only [initF]
        have hrl : RelL (mkE H.m1 st.hp (fun t => t < st.nx) loc W1) (.val (.func (.yield H.L) #[] #[]) :: caps) (.func (.yield H.L) #[] #[] :: lb) := .cons (.val _) (hcap.extW x1)
        cases hd : (AV.val (.func (.yield H.L) #[] #[]) :: caps)[d]? with
        | none => exact .any _
        | some u =>
          obtain ⟨v, hv, hrv⟩ := hrl.get d u hd
          have hlt : d < (Value.func (.yield H.L) #[] #[] :: lb).length := (List.getElem?_eq_some_iff.1 hv).1
          have : ((#[Value.func (.yield (w.heap.size + 1)) #[] #[]] ++ lb.toArray ++ Array.replicate (fg.ntmps - (#[Value.func (.yield (w.heap.size + 1)) #[] #[]] ++ lb.toArray).size) undef).getD d undef) = v := by
            rw [Array.getD_eq_getD_getElem?, Array.getElem?_append_left (by simpa [Nat.add_comm] using hlt)]
            have : (#[Value.func (.yield (w.heap.size + 1)) #[] #[]] ++ lb.toArray) = (Value.func (.yield H.L) #[] #[] :: lb).toArray := by simp [H]
            rw [this]; simp [hv]
          simp only [Option.getD_some]
          rw [this]; exact hrv
      · rintro e a' w' ⟨s, ⟨he, hK⟩, d1, d2, hL2, hD2, loc2, hB2, hH2, hr2, hf2⟩
        have fin : a'.defers = [] ∧ ∃ v, (results fg a'.tmps).run P w' = .ok v w' ∧ rangePost Fence.wide 2 P (w.heap.size + 1) Q { a with defers := [{ target := .collected w.heap.size, args := #[] }] ++ a.defers } (.returned v) w' := by
          refine ⟨d1, _, results_none hres, none, _, run_endLoop hL2 (by simp [Host.rcd]), ?_⟩
          obtain ⟨hB3, x3⟩ := hB2.put hok.mL hL2 rfl (.loop { H.rcd .ready none with state := .exhausted })
          have hH3 := hH2.put hok.lL (.loop { H.rcd .ready none with state := .exhausted })
          exact hQ w.heap.size s.hp s.nx loc2 _ hK ((World.putObj_heap_other hok.ne).trans hD2) hM.size hB3 hH3 (fun d => (hf2 d).extW x3)
        rcases he with rfl | rfl
        · exact fin
        · exact fin
end
end Go.Gm.Two

set_option linter.all false
set_option maxRecDepth 8000
set_option maxHeartbeats 1000000
namespace Go.Proofs.Yt
open Go.Gm Go.Gm.Two
namespace Au
def getRange : Code → Option (Code × Code)
  | .rangeFunc _ _ a b => some (a, b)
  | .seq x y => match getRange x with
    | some r => some r
    | none => getRange y
  | .block _ c => getRange c
  | _ => none
def hpR (l : List Record) : AHeap := hpL [some (.row 1 true [[.own 8 0 l.length]]), some (.row 1 true [[.val (.int .i64 0)]]), some (.row 1 true [[.val (.int .i64 0)]])] [some (.row 2 true (l.map encRecord))]
def frR (b : List Int) : Nat → AV := upd (upd (upd (upd (upd anyF 0 (.sl (b.map enc5))) 2 (.ptr 0 0 0)) 3 (.ptr 1 0 0)) 4 (.ptr 2 0 0)) 11 (.clo (.func 124) [] [.ip [.sl (b.map enc5)]])
theorem round_aw (A B : Code) (hcode : getRange Tryz.f57.body.get! = some (A, B)) (b line : List Int) (at_ : Int) (l : List Record) (h1 : ¬ 65536 < (line.length : Int)) (h2 : ¬ (65536 : Int) ≤ (l.length : Int)) (hadd : appO? l [⟨at_, strOfNums line⟩] = some (l ++ [⟨at_, strOfNums line⟩])) :
    AW Tryz.prog 34 A (fun e s1 => e = .normal ∧ 8 ≤ s1.nx ∧ AW Tryz.prog 34 B (fun e s2 => e = .normal ∧ s2.hp = hpR (l ++ [⟨at_, strOfNums line⟩]) ∧ s2.nx = 9) s1) ⟨upd (upd (frR b) 12 (.val (.int .i64 at_))) 13 (.sl (line.map enc5)), hpR l, 9⟩ := by
 obtain ⟨rfl, rfl⟩ := Prod.mk.inj (Option.some.inj (hcode.symm.trans rfl))
 unfold frR hpR
 refine AW.seq ?_
 refine AW.regionL [0, 2, 3, 4, 5, 13] ?_
 generalize hK : thenA _ _ Exit.normal = K
 simp only [go_sem, ↓reduceIte, reduceCtorEq, Nat.reduceAdd, Nat.reduceSub, Nat.reduceMul, Nat.reduceEqDiff, Nat.reduceLT, Nat.reduceLeDiff]
 subst hK
 refine thenA_n ?_
 refine AW.regionL [0, 2, 3, 4, 5, 6] ?_
 generalize hK : (fun (st' : ASt) => _) = K
 simp only [go_sem, ↓reduceIte, reduceCtorEq, Nat.reduceAdd, Nat.reduceSub, Nat.reduceMul, Nat.reduceEqDiff, Nat.reduceLT, Nat.reduceLeDiff]
 subst hK
 refine ⟨rfl, by simp, ?_⟩
 refine AW.toK (K := fun s => s.hp = hpR (l ++ [⟨at_, strOfNums line⟩]) ∧ s.nx = 9) ?_
 refine AW.block ?_
 refine AW.seq ?_
 refine AW.block ?_
 refine AW.regL [0, 2, 3, 4, 5, 6, 14] ?_
 generalize hK : AW Tryz.prog _ _ _ = K
 simp only [go_sem, ↓reduceIte, reduceCtorEq, Nat.reduceAdd, Nat.reduceSub, Nat.reduceMul, Nat.reduceEqDiff, Nat.reduceLT, Nat.reduceLeDiff, eq_false h1]
 subst hK
 refine AW.ifBF rfl rfl ?_
 refine AW.regL [0, 2, 3, 4, 5, 6, 19] ?_
 generalize hK : AW Tryz.prog _ _ _ = K
 simp only [go_sem, ↓reduceIte, reduceCtorEq, Nat.reduceAdd, Nat.reduceSub, Nat.reduceMul, Nat.reduceEqDiff, Nat.reduceLT, Nat.reduceLeDiff, eq_false h2]
 subst hK
 refine AW.ifBF rfl rfl ?_
 refine AW.skip ?_
 refine block_n ?_
 refine thenA_n ?_
 have hap : appO? l [⟨at_, strOfNums line⟩] = some (l ++ [⟨at_, strOfNums line⟩]) := hadd
 have hf : ∀ id o : Nat, appO 2 24 id ([[.val (.int .i64 at_), .val (.string (strOfNums line))]]) 0 l.length o (some (.row 2 true (List.map encRecord l))) = some ⟨.own id 0 (l ++ [(⟨at_, strOfNums line⟩ : Record)]).length, [(o, none), (id, some (.row 2 true (List.map encRecord (l ++ [⟨at_, strOfNums line⟩]))))]⟩ := fun id o => by
   rw [appO_ok (by simp) (by simpa using (appO?_some.1 hap).1) (by decide)]; simp [encRecord]
 refine AW.regionL [0, 2, 3, 4] ?_
 generalize hK : inBlockA _ _ Exit.normal = K
 simp only [go_sem, ↓reduceIte, reduceCtorEq, Nat.reduceAdd, Nat.reduceSub, Nat.reduceMul, Nat.reduceEqDiff, Nat.reduceLT, Nat.reduceLeDiff, hf, byteNums_map (enc := enc5) (fun _ => rfl)]
 subst hK
 refine block_n ?_
 refine ⟨rfl, ⟨anyF, hpR (l ++ [⟨at_, strOfNums line⟩]), 9⟩, ?_, rfl, rfl⟩
 unfold hpR
 refine Ent.can [137] _ _ _ rfl (by first | decide | simp) rfl RF.any (.cons (.tok (by simp [tokL, tokLL, inlR]) (by simp [upd_ap, hpL_ap, tau, mapT, mapTL])) (.cons (.eq (by simp only [go_sem]) (by simp [upd_ap, hpL_ap, tau])) (.cons (.eq (by simp only [go_sem]) (by simp [upd_ap, hpL_ap, tau])) (.nil _)))) (.cons (.eq (by simp only [go_sem]) (by simp [upd_ap, hpL_ap, tau])) (.nil _))
end Au
end Go.Proofs.Yt

set_option linter.all false
set_option maxRecDepth 8000
set_option maxHeartbeats 1000000
namespace Go.Proofs.Yt
open Go.Gm
namespace Au
def RFl (m : Nat) (fr fr' : Nat → AV) : Prop := ∀ q, tokL m (fr' q) = true ∧ (fr' q = .any ∨ Weak (fr q) (fr' q))
theorem RFl.any {m : Nat} {fr : Nat → AV} : RFl m fr anyF := fun _ => ⟨by simp [anyF, tokL], .inl rfl⟩
theorem RFl.put {m : Nat} {fr fr' : Nat → AV} {q : Nat} {v : AV} (h : RFl m fr fr') (ht : tokL m v = true) (hv : fr q = v) : RFl m fr (upd fr' q v) := fun q' => by
  simp only [upd]; split
  · rename_i e; subst e; exact ⟨ht, .inr (.of hv)⟩
  · exact h q'
theorem low_R {N nx : Nat} {fr fr' : Nat → AV} (l : List Record) (hfr : RFl 9 fr fr') : Ent N ⟨fr, hpR l, nx⟩ ⟨fr', hpR l, 9⟩ := by
  refine Ent.low (by decide) (fun q hq => ?_) (fun q o ho => ?_) hfr
  · simp only [hpR, hpL_ap]
    rw [if_neg (by omega), List.getElem?_eq_none (by simp; omega)]; rfl
  · simp only [hpR, hpL_ap] at ho
    split at ho
    · rename_i h8
      obtain _ | _ | _ | q := q
      · simp at ho; subst ho; exact ⟨_, _, _, rfl, by simp [tokL, tokLL]⟩
      · simp at ho; subst ho; exact ⟨_, _, _, rfl, by simp [tokL, tokLL]⟩
      · simp at ho; subst ho; exact ⟨_, _, _, rfl, by simp [tokL, tokLL]⟩
      · simp at ho
    · rename_i h8
      obtain ⟨j, rfl⟩ : ∃ j, q = j + 8 := ⟨q - 8, by omega⟩
      obtain _ | j := j
      · simp at ho; subst ho; exact ⟨_, _, _, rfl, by simp only [go_sem]⟩
      · simp at ho
noncomputable def lines_s (b : List Int) : Int × List Record → Option ((Int × List Record) ⊕ List Record)
  | (at_, l) => if at_ < (b.length : Int) then (cutO? b at_ (b.length : Int)).bind fun tl => (f125 tl 10).bind fun n0 => (some (if n0 < 0 then IntKind.i64.wrap ((b.length : Int) - at_) else n0)).bind fun n => (cutO? b at_ (IntKind.i64.wrap (at_ + n))).bind fun line => (guardO (¬ 65536 < (line.length : Int) ∧ ¬ (65536 : Int) ≤ (l.length : Int))).bind fun _ => some (.inl (IntKind.i64.wrap (at_ + IntKind.i64.wrap (n + 1)), l ++ [(⟨at_, strOfNums line⟩ : Record)])) else some (.inr l)
def tmR (yv : AV) (b : List Int) (s : Int × List Record) : ASt := ⟨upd (upd (upd anyF 3 (.val (.int .i64 s.1))) 1 (.ip [.sl (b.map enc5)])) 0 yv, hpR s.2, 9⟩
theorem lines_aw (b : List Int) (r : List Record) (hmain : loopO (lines_s b) (0, []) = some r) (H : Two.Host) (hHfr : H.fr = frR b) (hcode : getRange Tryz.f57.body.get! = some (H.assign, H.body)) (hHp : H.p = 12) (hHp2 : H.p2 = 13) (hsz : H.tmps.size = 34) (cg : Code) (hcg : Tryz.f124.body = some cg) :
    Two.AWH Tryz.prog 33 H cg (fun e s => (e = .normal ∨ e = .ret) ∧ s.hp = hpR r ∧ 9 ≤ s.nx) ⟨initF [.val (.func (.yield H.L) #[] #[]), .ip [.sl (b.map enc5)]], hpR [], 9⟩ := by
 obtain rfl := Option.some.inj (hcg.symm.trans (rfl : Tryz.f124.body = some _))
 clear hcg
 generalize hyv : AV.val (.func (.yield H.L) #[] #[]) = yv
 have htyv : ∀ m, tokL m yv = true := fun m => by rw [← hyv]; simp [tokL]
 refine Two.AWH.seq (Two.AWH.of (Nat.le_of_ble_eq_true rfl) ?_)
 refine AW.regionL [0, 1, 3] ?_
 generalize hK : thenA _ _ Exit.normal = K
 simp only [go_sem, ↓reduceIte, reduceCtorEq, Nat.reduceAdd, Nat.reduceSub, Nat.reduceMul, Nat.reduceEqDiff, Nat.reduceLT, Nat.reduceLeDiff]
 subst hK
 refine thenA_n ?_
 obtain ⟨n, hn⟩ := loopO_iff.1 hmain
 refine Two.AWH.block ?_
 refine Two.AWH.loop (fun k st => ∃ s, iterO (lines_s b) k s = some r ∧ ∃ nx, 9 ≤ nx ∧ st = ⟨(tmR yv b s).fr, (tmR yv b s).hp, nx⟩) n ⟨_, hn, 17, by decide, rfl⟩ ?_
 rintro k _ ⟨⟨at_, l⟩, hk, nx, hnx, rfl⟩
 obtain _ | k := k
 · cases hk
 simp only [iterO] at hk
 cases hs : lines_s b (at_, l) with
 | none => rw [hs] at hk; cases hk
 | some x => ?_
 rw [hs] at hk
 rw [lines_s] at hs
 unfold tmR
 dsimp only
 have hn8 : 8 ≤ nx := by omega
 refine Two.AWH.seq (Two.AWH.seq (Two.AWH.of hn8 ?_))
 by_cases c1 : at_ < (b.length : Int)
 ·rw [if_pos c1] at hs
  obtain ⟨tl, htl, hs⟩ := Option.bind_eq_some_iff.1 hs
  obtain ⟨n0, hn0, hs⟩ := Option.bind_eq_some_iff.1 hs
  obtain ⟨n, hnn, hs⟩ := Option.bind_eq_some_iff.1 hs
  obtain ⟨line, hline, hs⟩ := Option.bind_eq_some_iff.1 hs
  obtain ⟨gu, hg, hs⟩ := Option.bind_eq_some_iff.1 hs
  obtain ⟨hg1, hg2⟩ := guardO_some.1 hg
  have hg3 : appO? l [(⟨at_, strOfNums line⟩ : Record)] = some (l ++ [(⟨at_, strOfNums line⟩ : Record)]) := appO?_some.2 ⟨by simp; omega, rfl⟩
  obtain rfl := Option.some.inj hs
  obtain rfl := Option.some.inj hnn
  dsimp only at hk
  refine AW.regionL [0, 1, 3, 8] ?_
  generalize hK : thenA _ _ Exit.normal = K
  simp only [go_sem, ↓reduceIte, reduceCtorEq, Nat.reduceAdd, Nat.reduceSub, Nat.reduceMul, Nat.reduceEqDiff, Nat.reduceLT, Nat.reduceLeDiff, eq_true c1]
  subst hK
  refine thenA_n ?_
  refine Two.AWH.cond (b := true) rfl ?_
  refine Two.AWH.of (by dsimp only; omega) ?_
  refine AW.skip ?_
  refine thenA_n ?_
  refine Two.AWH.block ?_
  refine Two.AWH.seq (Two.AWH.of (by dsimp only; omega) ?_)
  refine AW.regionL [0, 1, 3, 4] ?_
  generalize hK : thenA _ _ Exit.normal = K
  simp only [go_sem, ↓reduceIte, reduceCtorEq, Nat.reduceAdd, Nat.reduceSub, Nat.reduceMul, Nat.reduceEqDiff, Nat.reduceLT, Nat.reduceLeDiff, cut_sn el23 sz5 (ml_enc5 _) htl]
  refine arC.of (ok125 tl 10 n0 hn0) Tryz.call125 ?_
  simp only [go_sem, ↓reduceIte, reduceCtorEq, Nat.reduceAdd, Nat.reduceSub, Nat.reduceMul, Nat.reduceEqDiff, Nat.reduceLT, Nat.reduceLeDiff]
  subst hK
  refine thenA_n ?_
  by_cases c2 : n0 < 0
  ·rw [if_pos c2] at hline hk
   refine Two.AWH.seq (Two.AWH.seq (Two.AWH.of (by dsimp only; omega) ?_))
   refine AW.regionL [0, 1, 3, 4, 14] ?_
   generalize hK : thenA _ _ Exit.normal = K
   simp only [go_sem, ↓reduceIte, reduceCtorEq, Nat.reduceAdd, Nat.reduceSub, Nat.reduceMul, Nat.reduceEqDiff, Nat.reduceLT, Nat.reduceLeDiff, eq_true c2]
   subst hK
   refine thenA_n ?_
   refine Two.AWH.cond (b := true) rfl ?_
   refine Two.AWH.of (by dsimp only; omega) ?_
   refine AW.regionL [0, 1, 3, 4] ?_
   generalize hK : thenA _ _ Exit.normal = K
   simp only [go_sem, ↓reduceIte, reduceCtorEq, Nat.reduceAdd, Nat.reduceSub, Nat.reduceMul, Nat.reduceEqDiff, Nat.reduceLT, Nat.reduceLeDiff]
   subst hK
   refine thenA_n ?_
   refine Two.AWH.seq (Two.AWH.seq (Two.AWH.yield 8 rfl rfl rfl (by dsimp only; omega) (by decide) (by rw [hHp, hsz]; decide) (by rw [hHp2, hsz]; decide) ?_))
   generalize hK : Two.YK _ _ _ _ _ _ _ _ _ _ _ = K
   simp only [go_sem, ↓reduceIte, reduceCtorEq, Nat.reduceAdd, Nat.reduceSub, Nat.reduceMul, Nat.reduceEqDiff, Nat.reduceLT, Nat.reduceLeDiff, cut_ss el23 sz5 (ml_enc5 _) hline]
   subst hK
   refine ⟨by dsimp only; omega, rfl, by simp [upd_ap, hyv], ?_, ?_⟩
   · show ∀ q, tokL 8 (upd _ _ _ q) = true
     repeat' (first | exact tok_any | apply tok_upd)
     all_goals first | exact htyv _ | (simp [tokL, tokLL, inlR, inlL, go_sem]; done)
   rw [hsz, hHfr, hHp, hHp2]
   refine AW.ent (low_R l (fr' := upd (upd (frR b) 12 (.val (.int .i64 at_))) 13 (.sl (line.map enc5))) ?_) ?_
   · exact (((((((RFl.any.put (by simp [tokL, go_sem]) (by simp [upd_ap, frR])).put (by simp [tokL]) (by simp [upd_ap, frR])).put (by simp [tokL]) (by simp [upd_ap, frR])).put (by simp [tokL]) (by simp [upd_ap, frR])).put (by simp [tokL, tokLL, go_sem]) (by simp [upd_ap, frR])).put (by simp [tokL]) (by simp [upd_ap, frR])).put (by simp [tokL, go_sem]) (by simp [upd_ap, frR]))
   refine (round_aw H.assign H.body hcode b line at_ l hg1 hg2 hg3).mono ?_
   rintro e s1 ⟨he, h8, hbody⟩
   refine ⟨s1, Ent.refl, he, h8, hbody.mono ?_⟩
   rintro e s2 ⟨he, hhp, hnx2⟩
   refine ⟨s2, Ent.refl, he, by rw [hnx2]; decide, ?_⟩
   rw [hhp, hnx2]
   clear hhp hnx2 hbody
   generalize hK : thenA _ _ Exit.normal = K
   simp only [go_sem, ↓reduceIte, reduceCtorEq, Nat.reduceAdd, Nat.reduceSub, Nat.reduceMul, Nat.reduceEqDiff, Nat.reduceLT, Nat.reduceLeDiff]
   subst hK
   refine thenA_n ?_
   refine Two.AWH.cond (b := false) rfl ?_
   refine Two.AWH.of (by dsimp only; omega) ?_
   refine AW.skip ?_
   refine thenA_n ?_
   refine Two.AWH.of (by dsimp only; omega) ?_
   refine AW.regionL [0, 1, 3] ?_
   generalize hK : (fun (st' : ASt) => _) = K
   simp only [go_sem, ↓reduceIte, reduceCtorEq, Nat.reduceAdd, Nat.reduceSub, Nat.reduceMul, Nat.reduceEqDiff, Nat.reduceLT, Nat.reduceLeDiff]
   subst hK
   refine block_n ?_
   refine ⟨k, Nat.lt_succ_self k, _, hk, _, ?_, rfl⟩
   first | exact Nat.le_of_ble_eq_true rfl | (dsimp only; omega)
  ·rw [if_neg c2] at hline hk
   refine Two.AWH.seq (Two.AWH.seq (Two.AWH.of (by dsimp only; omega) ?_))
   refine AW.regionL [0, 1, 3, 4, 14] ?_
   generalize hK : thenA _ _ Exit.normal = K
   simp only [go_sem, ↓reduceIte, reduceCtorEq, Nat.reduceAdd, Nat.reduceSub, Nat.reduceMul, Nat.reduceEqDiff, Nat.reduceLT, Nat.reduceLeDiff, eq_false c2]
   subst hK
   refine thenA_n ?_
   refine Two.AWH.cond (b := false) rfl ?_
   refine Two.AWH.of (by dsimp only; omega) ?_
   refine AW.skip ?_
   refine thenA_n ?_
   refine Two.AWH.seq (Two.AWH.seq (Two.AWH.yield 8 rfl rfl rfl (by dsimp only; omega) (by decide) (by rw [hHp, hsz]; decide) (by rw [hHp2, hsz]; decide) ?_))
   generalize hK : Two.YK _ _ _ _ _ _ _ _ _ _ _ = K
   simp only [go_sem, ↓reduceIte, reduceCtorEq, Nat.reduceAdd, Nat.reduceSub, Nat.reduceMul, Nat.reduceEqDiff, Nat.reduceLT, Nat.reduceLeDiff, cut_ss el23 sz5 (ml_enc5 _) hline]
   subst hK
   refine ⟨by dsimp only; omega, rfl, by simp [upd_ap, hyv], ?_, ?_⟩
   · show ∀ q, tokL 8 (upd _ _ _ q) = true
     repeat' (first | exact tok_any | apply tok_upd)
     all_goals first | exact htyv _ | (simp [tokL, tokLL, inlR, inlL, go_sem]; done)
   rw [hsz, hHfr, hHp, hHp2]
   refine AW.ent (low_R l (fr' := upd (upd (frR b) 12 (.val (.int .i64 at_))) 13 (.sl (line.map enc5))) ?_) ?_
   · exact (((((((RFl.any.put (by simp [tokL, go_sem]) (by simp [upd_ap, frR])).put (by simp [tokL]) (by simp [upd_ap, frR])).put (by simp [tokL]) (by simp [upd_ap, frR])).put (by simp [tokL]) (by simp [upd_ap, frR])).put (by simp [tokL, tokLL, go_sem]) (by simp [upd_ap, frR])).put (by simp [tokL]) (by simp [upd_ap, frR])).put (by simp [tokL, go_sem]) (by simp [upd_ap, frR]))
   refine (round_aw H.assign H.body hcode b line at_ l hg1 hg2 hg3).mono ?_
   rintro e s1 ⟨he, h8, hbody⟩
   refine ⟨s1, Ent.refl, he, h8, hbody.mono ?_⟩
   rintro e s2 ⟨he, hhp, hnx2⟩
   refine ⟨s2, Ent.refl, he, by rw [hnx2]; decide, ?_⟩
   rw [hhp, hnx2]
   clear hhp hnx2 hbody
   generalize hK : thenA _ _ Exit.normal = K
   simp only [go_sem, ↓reduceIte, reduceCtorEq, Nat.reduceAdd, Nat.reduceSub, Nat.reduceMul, Nat.reduceEqDiff, Nat.reduceLT, Nat.reduceLeDiff]
   subst hK
   refine thenA_n ?_
   refine Two.AWH.cond (b := false) rfl ?_
   refine Two.AWH.of (by dsimp only; omega) ?_
   refine AW.skip ?_
   refine thenA_n ?_
   refine Two.AWH.of (by dsimp only; omega) ?_
   refine AW.regionL [0, 1, 3] ?_
   generalize hK : (fun (st' : ASt) => _) = K
   simp only [go_sem, ↓reduceIte, reduceCtorEq, Nat.reduceAdd, Nat.reduceSub, Nat.reduceMul, Nat.reduceEqDiff, Nat.reduceLT, Nat.reduceLeDiff]
   subst hK
   refine block_n ?_
   refine ⟨k, Nat.lt_succ_self k, _, hk, _, ?_, rfl⟩
   first | exact Nat.le_of_ble_eq_true rfl | (dsimp only; omega)
 ·rw [if_neg c1] at hs
  obtain rfl := Option.some.inj hs
  obtain rfl := Option.some.inj hk
  refine AW.regionL [0, 1, 3, 8] ?_
  generalize hK : thenA _ _ Exit.normal = K
  simp only [go_sem, ↓reduceIte, reduceCtorEq, Nat.reduceAdd, Nat.reduceSub, Nat.reduceMul, Nat.reduceEqDiff, Nat.reduceLT, Nat.reduceLeDiff, eq_false c1]
  subst hK
  refine thenA_n ?_
  refine Two.AWH.cond (b := false) rfl ?_
  refine Two.AWH.of (by dsimp only; omega) ?_
  refine AW.exit ?_
  refine thenA_x ?_
  refine thenA_x ?_
  refine block_x ?_
  exact ⟨.inl rfl, rfl, by dsimp only; omega⟩
end Au
end Go.Proofs.Yt

set_option linter.all false
set_option maxRecDepth 8000
set_option maxHeartbeats 1000000
namespace Go.Proofs.Yt
open Go.Gm
namespace Au
noncomputable def f98 (a0 : List Int) : Option (List Int) := some a0
theorem ok98 (a0 : List Int) (r : (List Int)) (h : f98 a0 = some r) : PC Tryz.prog 98 [.sl (List.map enc5 a0)] (.clo (.func 124) [] [.ip [.sl (List.map enc5 r)]]) := by
 rw [f98] at h
 refine pc_of8 (N := 4) (rs := [.tmp 2]) Tryz.func98 rfl rfl rfl (Nat.le_of_ble_eq_true rfl) ?_
 refine AW.rX [1] ?_
 refine AW.ent (Ent.stillPtr 1 rfl (by first | rfl | simp [upd_ap]) (by first | rfl | simp only [go_sem]) (by simp)) ?_
 refine AW.rX [2] ?_
 refine AW.ret ?_
 obtain rfl := Option.some.inj h
 (simp only [go_sem, ↓reduceIte, reduceCtorEq, Nat.reduceAdd, Nat.reduceSub, Nat.reduceMul, Nat.reduceEqDiff, Nat.reduceLT, Nat.reduceLeDiff, finA] <;> try simp)
end Au
end Go.Proofs.Yt

set_option linter.all false
set_option maxRecDepth 8000
set_option maxHeartbeats 1000000
namespace Go.Gm
theorem Cont.condF {P : Program} {G : Ghost P} {N : Nat} {y x : Code} {o : Operand} {Q : Exit → Act → World → Prop} {st : ASt} (hv : evF st.fr o = .val (.bool false)) (k : Cont G N y Q st) : Cont G N (.cond o x .skip) (Exit.then (fun a w => y.wp P Q a w) Q) st := fun a w hc => by
  obtain ⟨c1, c2, loc, hM, hr⟩ := id hc
  have hv' : a.eval o = .bool false := rel_val (hv ▸ rel_eval hr o)
  exact wp_cond hv' (show Code.wp P .skip _ a w from wp_skip (k a w hc))
end Go.Gm
namespace Go.Proofs.Yt
open Go.Gm
namespace Au
noncomputable def f57 (a0 : List Int) : Option (List Record × Int × Int) := (guardO (a0.length ≤ 1048576)).bind fun _ => (loopO (lines_s a0) (0, [])).bind fun l => some (l, (a0.length : Int), 0)
theorem ok57 (a0 : List Int) (r : List Record × Int × Int) (h : f57 a0 = some r) : PC Tryz.prog 57 [.sl (List.map enc5 a0)] (.tup [.fr 2 (List.map encRecord r.1), .val (.int .i64 r.2.1), .val (.int .i64 r.2.2)]) := by
 obtain ⟨gu, hg, h⟩ := Option.bind_eq_some_iff.1 h
 have hg := guardO_some.1 hg
 obtain ⟨l, hl, h⟩ := Option.bind_eq_some_iff.1 h
 obtain rfl := Option.some.inj h
 dsimp only
 have c1 : ¬ (1048576 : Int) < (a0.length : Int) := by omega
 refine pc_of_marks (N := 34) (rs := [.cell 2 43, .cell 3 3, .cell 4 35]) Tryz.func57 rfl rfl rfl (Nat.le_of_ble_eq_true rfl) fun G hn0 => ?_
 refine Cont.reg [0, 2, 3, 4] ?_
 generalize hK : Cont G _ _ _ = K
 simp only [go_sem, ↓reduceIte, reduceCtorEq, Nat.reduceAdd, Nat.reduceSub, Nat.reduceMul, Nat.reduceEqDiff, Nat.reduceLT, Nat.reduceLeDiff]
 subst hK
 refine Cont.seq ?_
 refine Cont.reg [0, 2, 3, 4, 9] ?_
 generalize hK : Cont G _ _ _ = K
 simp only [go_sem, ↓reduceIte, reduceCtorEq, Nat.reduceAdd, Nat.reduceSub, Nat.reduceMul, Nat.reduceEqDiff, Nat.reduceLT, Nat.reduceLeDiff, eq_false c1]
 subst hK
 refine Cont.condF rfl ?_
 refine Cont.seq ?_
 refine Cont.reg [0, 2, 3, 4, 11] ?_
 generalize hK : Cont G _ _ _ = K
 simp only [go_sem, ↓reduceIte, reduceCtorEq, Nat.reduceAdd, Nat.reduceSub, Nat.reduceMul, Nat.reduceEqDiff, Nat.reduceLT, Nat.reduceLeDiff]
 refine arC.of (ok98 a0 a0 rfl) Tryz.call98 ?_
 simp only [go_sem, ↓reduceIte, reduceCtorEq, Nat.reduceAdd, Nat.reduceSub, Nat.reduceMul, Nat.reduceEqDiff, Nat.reduceLT, Nat.reduceLeDiff]
 subst hK
 refine Cont.ent (Ent.nilCell 8 0 2 (by decide) (by first | rfl | simp [upd_ap, hpL_ap]) rfl) ?_
 refine Cont.ren (st' := ⟨frR a0, hpR [], 9⟩) hn0 (fun t => if t = 0 then 8 else if t = 1 then 16 else if t = 2 then 24 else if t = 8 then 72 else t) ?_ ?_ ?_ ?_ ?_
 · intro i j (hi : i < 9) (hj : j < 9) hni hnj h
   have key : ∀ q, q < 9 → hpR [] q ≠ none → q = 0 ∨ q = 1 ∨ q = 2 ∨ q = 8 := fun q hq hne => by
     rcases (show q = 0 ∨ q = 1 ∨ q = 2 ∨ q = 8 ∨ (2 < q ∧ q < 8) by omega) with e | e | e | e | e
     · exact .inl e
     · exact .inr (.inl e)
     · exact .inr (.inr (.inl e))
     · exact .inr (.inr (.inr e))
     · refine absurd ?_ hne
       simp only [hpR, hpL_ap]
       rw [if_pos e.2, List.getElem?_eq_none (by simp; omega)]; rfl
   rcases key i hi hni with rfl | rfl | rfl | rfl <;> rcases key j hj hnj with rfl | rfl | rfl | rfl <;> first | rfl | (exfalso; revert h; decide)
 · intro t (ht : t < 9)
   rcases (show t = 0 ∨ t = 1 ∨ t = 2 ∨ t = 8 ∨ (2 < t ∧ t < 8) by omega) with rfl | rfl | rfl | rfl | e
   · exact ORen.tok (by simp [tokL, tokLL, inlR]) (by simp [upd_ap, hpL_ap, mapT, mapTL])
   · exact ORen.eq (by simp only [go_sem]) (by simp [upd_ap, hpL_ap])
   · exact ORen.eq (by simp only [go_sem]) (by simp [upd_ap, hpL_ap])
   · exact ORen.eq (by simp only [go_sem]) (by simp [upd_ap, hpL_ap])
   · have hnone : hpR [] t = none := by
       simp only [hpR, hpL_ap]
       rw [if_pos e.2, List.getElem?_eq_none (by simp; omega)]; rfl
     show ORen _ _ _ (hpR [] t)
     rw [hnone]; exact .none _
 · intro t (ht : 9 ≤ t)
   simp only [hpR, hpL_ap]
   rw [if_neg (by omega), List.getElem?_eq_none (by simp; omega)]; rfl
 · exact ((((RF.any.put (by simp [tokL, go_sem]) (.of (by simp [upd_ap, mapT]))).put (by simp [tokL]) (.of (by simp [upd_ap, mapT]))).put (by simp [tokL]) (.of (by simp [upd_ap, mapT]))).put (by simp [tokL]) (.of (by simp [upd_ap, mapT]))).put (by simp [tokL, tokLL, go_sem]) (.of (by simp [upd_ap, mapT, mapTL]))
 refine Cont.block ?_
 intro a w hc
 have hc0 : a.defers = [] := hc.1
 have hcs : a.tmps.size = 34 := hc.2.1
 refine Two.range_wp (gf := 124) (fg := Tryz.f124) (caps := [.ip [.sl (a0.map enc5)]]) (K := fun hp nx => hp = hpR l ∧ 9 ≤ nx) hc rfl Tryz.func124 rfl Tryz.call124 rfl (by decide) ?_ (Nat.le_of_ble_eq_true rfl) (Nat.le_of_ble_eq_true rfl) hn0 (fun H h1 h2 h3 h4 h5 h6 => ?_) ?_
 · exact tok_upd (tok_upd (tok_upd (tok_upd (tok_upd tok_any (by simp [tokL, go_sem])) (by simp [tokL])) (by simp [tokL])) (by simp [tokL])) (by simp [tokL, tokLL, go_sem])
 · exact lines_aw a0 l hl H h1 (by rw [h2, h3]; rfl) h4 h5 h6 _ rfl
 · rintro D hp' nx' loc' w' ⟨rfl, hnx⟩ hD hGD hB hH hr
   refine tail_wp (N := 34) (st := ⟨frR a0, hpR l, nx'⟩) (by rw [hc0]; rfl) hD hGD hB hH hr (by dsimp only; omega) hcs [2, 3, 4] ?_
   generalize hK : (fun (s : ASt) => _) = K
   show arun Tryz.prog 34 _ _ ⟨frR a0, hpR l, nx'⟩ K
   unfold frR hpR
   simp only [go_sem, ↓reduceIte, reduceCtorEq, Nat.reduceAdd, Nat.reduceSub, Nat.reduceMul, Nat.reduceEqDiff, Nat.reduceLT, Nat.reduceLeDiff]
   subst hK
   refine RetK.fin ?_
   simp only [go_sem, ↓reduceIte, reduceCtorEq, Nat.reduceAdd, Nat.reduceSub, Nat.reduceMul, Nat.reduceEqDiff, Nat.reduceLT, Nat.reduceLeDiff, finA] <;> try simp
end Au
end Go.Proofs.Yt
