import Derived.Test.YtlonihmeikmpiaaDoorGfDN
import Derived.Test.YtlonihmeikmpiaaDoorGfW2
set_option linter.all false
set_option linter.unusedVariables false
set_option linter.unusedSimpArgs false
set_option linter.all false
set_option maxRecDepth 8000
set_option maxHeartbeats 1000000
namespace Go.Proofs.Yd
open Go.Gm
namespace Au
noncomputable def f27_s2 (x5 : Int × Reader) : (List Int) × Int × Int × (List Int) × Int → Option (((List Int) × Int × Int × (List Int) × Int) ⊕ ((List Int) × Int × Int × (List Int)))
  | (s2_0, s2_1, s2_2, s2_3, s2_4) => (if s2_4 < x5.1 then (if s2_2 = 0 then ((f39 ⟨s2_0, s2_1, s2_2⟩).bind fun x39 => ((appO? s2_3 [x39.1]).bind fun x40 => some (.inl (x39.2.b, x39.2.at_, x39.2.e, x40, IntKind.i64.wrap (s2_4 + 1))))) else some (.inr (s2_0, s2_1, s2_2, s2_3))) else some (.inr (s2_0, s2_1, s2_2, s2_3)))
noncomputable def f27_j2 (x1 : Int × Reader) (x2 : Int × Reader) (x3 : Int × Reader) (x4 : Int × Reader) : (List Int) × (List Int) × (List Int) × Int → Option (Note × Int)
  | (j2_0, j2_1, j2_2, j2_3) => (if j2_3 = 0 then some (⟨x1.1, x2.1, x3.1, x4.1, j2_0, j2_1, j2_2⟩, 0) else some (⟨0, 0, 0, 0, [], [], []⟩, j2_3))
noncomputable def f27_j1 (a0 : List Int) (x1 : Int × Reader) (x2 : Int × Reader) (x3 : Int × Reader) (x4 : Int × Reader) (x5 : Int × Reader) : Int → Option (Note × Int)
  | j1_0 => ((loopO (f27_s2 x5) (x5.2.b, x5.2.at_, j1_0, [], 0)).bind fun y41 => match y41 with | (y42, y43, y44, y45) => ((f40 ⟨y42, y43, y44⟩).bind fun x46 => ((f40 x46.2).bind fun x47 => (if x47.2.e = 0 then (if x47.2.at_ < (a0.length : Int) then f27_j2 x1 x2 x3 x4 (y45, x46.1, x47.1, 3) else ((f41 ⟨x1.1, x2.1, x3.1, x4.1, y45, x46.1, x47.1⟩).bind fun x59 => (if x59 = true then f27_j2 x1 x2 x3 x4 (y45, x46.1, x47.1, x47.2.e) else f27_j2 x1 x2 x3 x4 (y45, x46.1, x47.1, 3)))) else f27_j2 x1 x2 x3 x4 (y45, x46.1, x47.1, x47.2.e)))))
noncomputable def f27 (a0 : List Int) : Option (Note × Int) := ((f39 ⟨a0, 0, 0⟩).bind fun x1 => ((f39 x1.2).bind fun x2 => ((f39 x2.2).bind fun x3 => ((f39 x3.2).bind fun x4 => ((f39 x4.2).bind fun x5 => (if 65536 < x5.1 then (if x5.2.e = 0 then f27_j1 a0 x1 x2 x3 x4 x5 3 else f27_j1 a0 x1 x2 x3 x4 x5 x5.2.e) else f27_j1 a0 x1 x2 x3 x4 x5 x5.2.e))))))
theorem ok27 (a0 : List Int) (r : Note × Int) (h : f27 a0 = some r) : PC Tryd.prog 27 [.sl (List.map enc5 a0)] (.tup [.agg (encNote r.1), .val (.int .i64 r.2)]) := by
 rw [f27] at h
 refine pc_of8 (N := 92) (rs := [.cell 2 54, .tmp 3]) Tryd.func27 rfl rfl rfl (Nat.le_of_ble_eq_true rfl) ?_
 refine AW.regL [0, 2] ?_
 generalize hK : AW Tryd.prog _ _ _ = K
 simp only [go_sem, ↓reduceIte, reduceCtorEq, Nat.reduceAdd, Nat.reduceSub, Nat.reduceMul, Nat.reduceEqDiff, Nat.reduceLT, Nat.reduceLeDiff]
 subst hK
 refine AW.regL [0, 2, 4] ?_
 generalize hK : AW Tryd.prog _ _ _ = K
 simp only [go_sem, ↓reduceIte, reduceCtorEq, Nat.reduceAdd, Nat.reduceSub, Nat.reduceMul, Nat.reduceEqDiff, Nat.reduceLT, Nat.reduceLeDiff]
 subst hK
 obtain ⟨x1, hx1, h⟩ := Option.bind_eq_some_iff.1 h
 obtain ⟨x2, hx2, h⟩ := Option.bind_eq_some_iff.1 h
 obtain ⟨x3, hx3, h⟩ := Option.bind_eq_some_iff.1 h
 obtain ⟨x4, hx4, h⟩ := Option.bind_eq_some_iff.1 h
 refine AW.regL [0, 2, 4, 5] ?_
 generalize hK : AW Tryd.prog _ _ _ = K
 simp only [go_sem, ↓reduceIte, reduceCtorEq, Nat.reduceAdd, Nat.reduceSub, Nat.reduceMul, Nat.reduceEqDiff, Nat.reduceLT, Nat.reduceLeDiff]
 refine arC.ok (CallOk.ic (us' := _) (ok39 ⟨a0, 0, 0⟩ x1 hx1) [40] rfl (by decide) (by simp) (by simp) (by simp) (by simp) (.cons (.eq (by simp only [go_sem]) (by first | rfl | simp [upd_ap, hpL_ap, sg_ap])) (.nil _)) (by simp only [mapTL_cons, mapTL_nil, mapT_ptr, mapT_own, mapT_val, mapT_sl, mapT_agg, mapT_ip, sg_ap, List.getD_cons_zero, List.getD_cons_succ]; exact (.cons (.of rfl) .nil)) (by simp only [go_sem, List.length_cons, List.length_nil, Nat.reduceAdd, Nat.reduceLT, decide_true]) (by simp [AObj.isMut]) (by simp [go_sem]) (by simp [go_sem])) Tryd.call39 ?_
 simp only [go_sem, ↓reduceIte, reduceCtorEq, Nat.reduceAdd, Nat.reduceSub, Nat.reduceMul, Nat.reduceEqDiff, Nat.reduceLT, Nat.reduceLeDiff]
 refine arC.ok (CallOk.ic (us' := _) (ok39 x1.2 x2 hx2) [40] rfl (by decide) (by simp) (by simp) (by simp) (by simp) (.cons (.eq (by simp only [go_sem]) (by first | rfl | simp [upd_ap, hpL_ap, sg_ap])) (.nil _)) (by simp only [mapTL_cons, mapTL_nil, mapT_ptr, mapT_own, mapT_val, mapT_sl, mapT_agg, mapT_ip, sg_ap, List.getD_cons_zero, List.getD_cons_succ]; exact (.cons (.of rfl) .nil)) (by simp only [go_sem, List.length_cons, List.length_nil, Nat.reduceAdd, Nat.reduceLT, decide_true]) (by simp [AObj.isMut]) (by simp [go_sem]) (by simp [go_sem])) Tryd.call39 ?_
 simp only [go_sem, ↓reduceIte, reduceCtorEq, Nat.reduceAdd, Nat.reduceSub, Nat.reduceMul, Nat.reduceEqDiff, Nat.reduceLT, Nat.reduceLeDiff]
 refine arC.ok (CallOk.ic (us' := _) (ok39 x2.2 x3 hx3) [40] rfl (by decide) (by simp) (by simp) (by simp) (by simp) (.cons (.eq (by simp only [go_sem]) (by first | rfl | simp [upd_ap, hpL_ap, sg_ap])) (.nil _)) (by simp only [mapTL_cons, mapTL_nil, mapT_ptr, mapT_own, mapT_val, mapT_sl, mapT_agg, mapT_ip, sg_ap, List.getD_cons_zero, List.getD_cons_succ]; exact (.cons (.of rfl) .nil)) (by simp only [go_sem, List.length_cons, List.length_nil, Nat.reduceAdd, Nat.reduceLT, decide_true]) (by simp [AObj.isMut]) (by simp [go_sem]) (by simp [go_sem])) Tryd.call39 ?_
 simp only [go_sem, ↓reduceIte, reduceCtorEq, Nat.reduceAdd, Nat.reduceSub, Nat.reduceMul, Nat.reduceEqDiff, Nat.reduceLT, Nat.reduceLeDiff]
 refine arC.ok (CallOk.ic (us' := _) (ok39 x3.2 x4 hx4) [40] rfl (by decide) (by simp) (by simp) (by simp) (by simp) (.cons (.eq (by simp only [go_sem]) (by first | rfl | simp [upd_ap, hpL_ap, sg_ap])) (.nil _)) (by simp only [mapTL_cons, mapTL_nil, mapT_ptr, mapT_own, mapT_val, mapT_sl, mapT_agg, mapT_ip, sg_ap, List.getD_cons_zero, List.getD_cons_succ]; exact (.cons (.of rfl) .nil)) (by simp only [go_sem, List.length_cons, List.length_nil, Nat.reduceAdd, Nat.reduceLT, decide_true]) (by simp [AObj.isMut]) (by simp [go_sem]) (by simp [go_sem])) Tryd.call39 ?_
 simp only [go_sem, ↓reduceIte, reduceCtorEq, Nat.reduceAdd, Nat.reduceSub, Nat.reduceMul, Nat.reduceEqDiff, Nat.reduceLT, Nat.reduceLeDiff]
 subst hK
 obtain ⟨x5, hx5, h⟩ := Option.bind_eq_some_iff.1 h
 refine AW.regL [0, 2, 4, 5, 6] ?_
 generalize hK : AW Tryd.prog _ _ _ = K
 simp only [go_sem, ↓reduceIte, reduceCtorEq, Nat.reduceAdd, Nat.reduceSub, Nat.reduceMul, Nat.reduceEqDiff, Nat.reduceLT, Nat.reduceLeDiff]
 refine arC.ok (CallOk.ic (us' := _) (ok39 x4.2 x5 hx5) [40] rfl (by decide) (by simp) (by simp) (by simp) (by simp) (.cons (.eq (by simp only [go_sem]) (by first | rfl | simp [upd_ap, hpL_ap, sg_ap])) (.nil _)) (by simp only [mapTL_cons, mapTL_nil, mapT_ptr, mapT_own, mapT_val, mapT_sl, mapT_agg, mapT_ip, sg_ap, List.getD_cons_zero, List.getD_cons_succ]; exact (.cons (.of rfl) .nil)) (by simp only [go_sem, List.length_cons, List.length_nil, Nat.reduceAdd, Nat.reduceLT, decide_true]) (by simp [AObj.isMut]) (by simp [go_sem]) (by simp [go_sem])) Tryd.call39 ?_
 simp only [go_sem, ↓reduceIte, reduceCtorEq, Nat.reduceAdd, Nat.reduceSub, Nat.reduceMul, Nat.reduceEqDiff, Nat.reduceLT, Nat.reduceLeDiff]
 subst hK
 refine AW.join (fun s => ⟨(upd (upd (upd (upd (upd anyF 0 (.sl (List.map enc5 a0))) 2 (.ptr 8 0 0)) 4 (.ptr 9 0 0)) 5 (.ptr 10 0 0)) 6 (.val (.int .i64 x5.1))), hpL [] [some (.row 7 true [[.val (.int .i64 0), .val (.int .i64 0), .val (.int .i64 0), .val (.int .i64 0), .val (.slice none 0 0), .val (.slice none 0 0), .val (.slice none 0 0)]]), some (.row 3 true [[.sl (List.map enc5 x5.2.b), .val (.int .i64 x5.2.at_), .val (.int .i64 s)]]), some (.row 7 true [[.val (.int .i64 x1.1), .val (.int .i64 x2.1), .val (.int .i64 x3.1), .val (.int .i64 x4.1), .val (.slice none 0 0), .val (.slice none 0 0), .val (.slice none 0 0)]])], 11⟩) (fun s => f27_j1 a0 x1 x2 x3 x4 x5 s = some r) ?_ ?_
 ·by_cases c61 : 65536 < x5.1
  ·rw [if_pos c61] at h
   refine AW.regL [0, 2, 4, 5, 6, 30] ?_
   generalize hK : AW Tryd.prog _ _ _ = K
   simp only [go_sem, ↓reduceIte, reduceCtorEq, Nat.reduceAdd, Nat.reduceSub, Nat.reduceMul, Nat.reduceEqDiff, Nat.reduceLT, Nat.reduceLeDiff, eq_true c61]
   subst hK
   by_cases c62 : x5.2.e = 0
   ·rw [if_pos c62] at h
    refine AW.ifT rfl c62 ?_
    refine AW.regionL [0, 2, 4, 5, 6] ?_
    generalize hK : thenA _ _ Exit.normal = K
    simp only [go_sem, ↓reduceIte, reduceCtorEq, Nat.reduceAdd, Nat.reduceSub, Nat.reduceMul, Nat.reduceEqDiff, Nat.reduceLT, Nat.reduceLeDiff, eq_true c61, eq_true c62]
    subst hK
    refine thenA_n ?_
    refine ⟨_, h, ?_⟩
    refine Ent.can [8, 40, 128] _ _ _ rfl (by first | decide | simp) rfl ?_ ?_ ?_
    · exact (((((RF.any.pv (by first | rfl | simp only [go_sem]) (by first | rfl | simp [upd_ap, hpL_ap, tau, mapT, mapTL, bytesI_len, eq_true c61, eq_true c62])).pp (by decide) (by first | rfl | simp [upd_ap, hpL_ap, tau, mapT, mapTL, bytesI_len, eq_true c61, eq_true c62])).pp (by decide) (by first | rfl | simp [upd_ap, hpL_ap, tau, mapT, mapTL, bytesI_len, eq_true c61, eq_true c62])).pp (by decide) (by first | rfl | simp [upd_ap, hpL_ap, tau, mapT, mapTL, bytesI_len, eq_true c61, eq_true c62])).pv (by first | rfl | simp only [go_sem]) (by first | rfl | simp [upd_ap, hpL_ap, tau, mapT, mapTL, bytesI_len, eq_true c61, eq_true c62]))
    · exact .nil _
    · exact .cons (.eq (by first | rfl | simp only [go_sem]) (by first | rfl | simp [upd_ap, hpL_ap, tau, mapT, mapTL, bytesI_len, eq_true c61, eq_true c62])) (.cons (.eq (by first | rfl | simp only [go_sem]) (by first | rfl | simp [upd_ap, hpL_ap, tau, mapT, mapTL, bytesI_len, eq_true c61, eq_true c62])) (.cons (.eq (by first | rfl | simp only [go_sem]) (by first | rfl | simp [upd_ap, hpL_ap, tau, mapT, mapTL, bytesI_len, eq_true c61, eq_true c62])) (.nil _)))
   ·rw [if_neg c62] at h
    refine AW.ifF rfl c62 ?_
    refine AW.skip ?_
    refine thenA_n ?_
    refine ⟨_, h, ?_⟩
    refine Ent.can [8, 40, 128] _ _ _ rfl (by first | decide | simp) rfl ?_ ?_ ?_
    · exact (((((RF.any.pv (by first | rfl | simp only [go_sem]) (by first | rfl | simp [upd_ap, hpL_ap, tau, mapT, mapTL, bytesI_len, eq_true c61, eq_false c62])).pp (by decide) (by first | rfl | simp [upd_ap, hpL_ap, tau, mapT, mapTL, bytesI_len, eq_true c61, eq_false c62])).pp (by decide) (by first | rfl | simp [upd_ap, hpL_ap, tau, mapT, mapTL, bytesI_len, eq_true c61, eq_false c62])).pp (by decide) (by first | rfl | simp [upd_ap, hpL_ap, tau, mapT, mapTL, bytesI_len, eq_true c61, eq_false c62])).pv (by first | rfl | simp only [go_sem]) (by first | rfl | simp [upd_ap, hpL_ap, tau, mapT, mapTL, bytesI_len, eq_true c61, eq_false c62]))
    · exact .nil _
    · exact .cons (.eq (by first | rfl | simp only [go_sem]) (by first | rfl | simp [upd_ap, hpL_ap, tau, mapT, mapTL, bytesI_len, eq_true c61, eq_false c62])) (.cons (.eq (by first | rfl | simp only [go_sem]) (by first | rfl | simp [upd_ap, hpL_ap, tau, mapT, mapTL, bytesI_len, eq_true c61, eq_false c62])) (.cons (.eq (by first | rfl | simp only [go_sem]) (by first | rfl | simp [upd_ap, hpL_ap, tau, mapT, mapTL, bytesI_len, eq_true c61, eq_false c62])) (.nil _)))
  ·rw [if_neg c61] at h
   refine AW.regL [0, 2, 4, 5, 6, 30] ?_
   generalize hK : AW Tryd.prog _ _ _ = K
   simp only [go_sem, ↓reduceIte, reduceCtorEq, Nat.reduceAdd, Nat.reduceSub, Nat.reduceMul, Nat.reduceEqDiff, Nat.reduceLT, Nat.reduceLeDiff, eq_false c61]
   subst hK
   refine AW.ifBF rfl rfl ?_
   refine AW.skip ?_
   refine thenA_n ?_
   refine ⟨_, h, ?_⟩
   refine Ent.can [8, 40, 128] _ _ _ rfl (by first | decide | simp) rfl ?_ ?_ ?_
   · exact (((((RF.any.pv (by first | rfl | simp only [go_sem]) (by first | rfl | simp [upd_ap, hpL_ap, tau, mapT, mapTL, bytesI_len, eq_false c61])).pp (by decide) (by first | rfl | simp [upd_ap, hpL_ap, tau, mapT, mapTL, bytesI_len, eq_false c61])).pp (by decide) (by first | rfl | simp [upd_ap, hpL_ap, tau, mapT, mapTL, bytesI_len, eq_false c61])).pp (by decide) (by first | rfl | simp [upd_ap, hpL_ap, tau, mapT, mapTL, bytesI_len, eq_false c61])).pv (by first | rfl | simp only [go_sem]) (by first | rfl | simp [upd_ap, hpL_ap, tau, mapT, mapTL, bytesI_len, eq_false c61]))
   · exact .nil _
   · exact .cons (.eq (by first | rfl | simp only [go_sem]) (by first | rfl | simp [upd_ap, hpL_ap, tau, mapT, mapTL, bytesI_len, eq_false c61])) (.cons (.eq (by first | rfl | simp only [go_sem]) (by first | rfl | simp [upd_ap, hpL_ap, tau, mapT, mapTL, bytesI_len, eq_false c61])) (.cons (.eq (by first | rfl | simp only [go_sem]) (by first | rfl | simp [upd_ap, hpL_ap, tau, mapT, mapTL, bytesI_len, eq_false c61])) (.nil _)))
 ·clear h
  rintro j1_0 h
  rw [f27_j1] at h
  refine AW.seq ?_
  refine AW.regL [0, 2, 4, 5, 6, 7] ?_
  generalize hK : AW Tryd.prog _ _ _ = K
  simp only [go_sem, ↓reduceIte, reduceCtorEq, Nat.reduceAdd, Nat.reduceSub, Nat.reduceMul, Nat.reduceEqDiff, Nat.reduceLT, Nat.reduceLeDiff]
  subst hK
  refine AW.block ?_
  obtain ⟨y41, hy41, h⟩ := Option.bind_eq_some_iff.1 h
  refine AW.loopO (fun s => ⟨(upd (upd (upd (upd (upd (upd anyF 0 (.sl (List.map enc5 a0))) 2 (.ptr 8 0 0)) 4 (.ptr 9 0 0)) 5 (.ptr 10 0 0)) 6 (.val (.int .i64 x5.1))) 7 (.val (.int .i64 s.2.2.2.2))), hpL [] [some (.row 7 true [[.val (.int .i64 0), .val (.int .i64 0), .val (.int .i64 0), .val (.int .i64 0), .val (.slice none 0 0), .val (.slice none 0 0), .val (.slice none 0 0)]]), some (.row 3 true [[.sl (List.map enc5 s.1), .val (.int .i64 s.2.1), .val (.int .i64 s.2.2.1)]]), some (.row 7 true [[.val (.int .i64 x1.1), .val (.int .i64 x2.1), .val (.int .i64 x3.1), .val (.int .i64 x4.1), .own 11 0 s.2.2.2.1.length, .val (.slice none 0 0), .val (.slice none 0 0)]]), some (.row 1 true (List.map enc3 s.2.2.2.1))], 12⟩) (fun z e st' => e = Exit.exit 0 ∧ st' = ⟨(upd (upd (upd (upd anyF 0 (.sl (List.map enc5 a0))) 2 (.ptr 8 0 0)) 4 (.ptr 9 0 0)) 5 (.ptr 10 0 0)), hpL [] [some (.row 7 true [[.val (.int .i64 0), .val (.int .i64 0), .val (.int .i64 0), .val (.int .i64 0), .val (.slice none 0 0), .val (.slice none 0 0), .val (.slice none 0 0)]]), some (.row 3 true [[.sl (List.map enc5 z.1), .val (.int .i64 z.2.1), .val (.int .i64 z.2.2.1)]]), some (.row 7 true [[.val (.int .i64 x1.1), .val (.int .i64 x2.1), .val (.int .i64 x3.1), .val (.int .i64 x4.1), .own 11 0 z.2.2.2.length, .val (.slice none 0 0), .val (.slice none 0 0)]]), some (.row 1 true (List.map enc3 z.2.2.2))], 12⟩) hy41 ?_ ?_ ?_
  ·refine Ent.trans (Ent.nilCell 10 4 1 (by decide) (by first | rfl | simp [upd_ap]) rfl) ?_
   refine Ent.can [8, 9, 10, 19] _ _ _ rfl (by first | decide | simp) rfl ?_ ?_ ?_
   · exact ((((((RF.any.pv (by first | rfl | simp only [go_sem]) (by first | rfl | simp [upd_ap, hpL_ap, tau, mapT, mapTL, bytesI_len])).pp (by decide) (by first | rfl | simp [upd_ap, hpL_ap, tau, mapT, mapTL, bytesI_len])).pp (by decide) (by first | rfl | simp [upd_ap, hpL_ap, tau, mapT, mapTL, bytesI_len])).pp (by decide) (by first | rfl | simp [upd_ap, hpL_ap, tau, mapT, mapTL, bytesI_len])).pv (by first | rfl | simp only [go_sem]) (by first | rfl | simp [upd_ap, hpL_ap, tau, mapT, mapTL, bytesI_len])).pv (by first | rfl | simp only [go_sem]) (by first | rfl | simp [upd_ap, hpL_ap, tau, mapT, mapTL, bytesI_len]))
   · exact .nil _
   · exact .cons (.eq (by first | rfl | simp only [go_sem]) (by first | rfl | simp [upd_ap, hpL_ap, tau, mapT, mapTL, bytesI_len])) (.cons (.eq (by first | rfl | simp only [go_sem]) (by first | rfl | simp [upd_ap, hpL_ap, tau, mapT, mapTL, bytesI_len])) (.cons (.tok (by simp [tokL, tokLL, inlR]) (by first | rfl | simp [upd_ap, hpL_ap, tau, mapT, mapTL, bytesI_len])) (.cons (.eq (by first | rfl | simp only [go_sem]) (by first | rfl | simp [upd_ap, hpL_ap, tau, mapT, mapTL, bytesI_len])) (.nil _))))
  ·clear h hy41
   rintro ⟨s2_0, s2_1, s2_2, s2_3, s2_4⟩ x h
   rw [f27_s2] at h
   refine AW.seq ?_
   by_cases c37 : s2_4 < x5.1
   ·rw [if_pos c37] at h
    refine AW.regL [0, 2, 4, 5, 6, 7, 43] ?_
    generalize hK : AW Tryd.prog _ _ _ = K
    simp only [go_sem, ↓reduceIte, reduceCtorEq, Nat.reduceAdd, Nat.reduceSub, Nat.reduceMul, Nat.reduceEqDiff, Nat.reduceLT, Nat.reduceLeDiff, eq_true c37]
    subst hK
    by_cases c38 : s2_2 = 0
    ·rw [if_pos c38] at h
     refine AW.ifT rfl c38 ?_
     refine AW.skip ?_
     refine thenA_n ?_
     refine AW.seq ?_
     refine AW.block ?_
     obtain ⟨x39, hx39, h⟩ := Option.bind_eq_some_iff.1 h
     obtain ⟨x40, hx40, h⟩ := Option.bind_eq_some_iff.1 h
     obtain ⟨hx40b, hx40e⟩ := appO?_some.1 hx40
     have hx40f : ∀ id o : Nat, appO 1 8 id ([[.val (.int .i64 x39.1)]]) 0 s2_3.length o (some (.row 1 true (List.map enc3 s2_3))) = some ⟨.own id 0 x40.length, [(o, none), (id, some (.row 1 true (List.map enc3 x40)))]⟩ := fun id o => by
       subst hx40e; rw [appO_ok (by simp) (by simpa using hx40b) (by decide)]; first | (simp [enc3]; done) | (simp [enc3]; omega)
     refine AW.drawL [0, 2, 4, 5, 6, 7] [[], [0], [], [2], [2, 3], [0, 1, 2, 3, 4], [0, 1, 2, 3, 4, 5], [0, 1, 2, 3, 4, 5, 6]] [0, 1, 2, 3, 4, 5, 6, 7] noFt (fun _ _ _ h => by simp [noFt] at h) draws (by kernel_rfl) (by kernel_rfl) ?_
     generalize hK : inBlockA _ _ Exit.normal = K
     simp only [go_sem, ↓reduceIte, reduceCtorEq, Nat.reduceAdd, Nat.reduceSub, Nat.reduceMul, Nat.reduceEqDiff, Nat.reduceLT, Nat.reduceLeDiff, eq_true c37, eq_true c38, hx40f]
     refine adN.ic (ok39 ⟨s2_0, s2_1, s2_2⟩ x39 hx39) Tryd.call39 callV_fn [9] rfl (by decide) (by simp) (by simp) (by simp) (by simp) (.cons (.eq (by simp only [go_sem]) (by first | rfl | simp [upd_ap, hpL_ap, sg_ap])) (.nil _)) (by simp only [List.nil_append, List.append_nil, List.cons_append, List.map_cons, List.map_nil, evF_tmp, evF_const, upd_ap, Nat.reduceEqDiff, if_true, if_false, ↓reduceIte, mapTL_cons, mapTL_nil, mapT_ptr, mapT_own, mapT_val, mapT_sl, mapT_agg, mapT_ip, sg_ap, List.getD_cons_zero, List.getD_cons_succ]; exact (.cons (.of rfl) .nil)) (by simp only [go_sem, List.length_cons, List.length_nil, Nat.reduceAdd, Nat.reduceLT, decide_true]) (by simp [AObj.isMut]) (by simp [go_sem]) (by simp [go_sem]) ?_
     simp only [go_sem, ↓reduceIte, reduceCtorEq, Nat.reduceAdd, Nat.reduceSub, Nat.reduceMul, Nat.reduceEqDiff, Nat.reduceLT, Nat.reduceLeDiff, eq_true c37, eq_true c38, hx40f]
     subst hK
     refine block_n ?_
     refine thenA_n ?_
     refine AW.regionL [0, 2, 4, 5, 6, 7] ?_
     generalize hK : thenA _ _ Exit.normal = K
     simp only [go_sem, ↓reduceIte, reduceCtorEq, Nat.reduceAdd, Nat.reduceSub, Nat.reduceMul, Nat.reduceEqDiff, Nat.reduceLT, Nat.reduceLeDiff, eq_true c37, eq_true c38]
     subst hK
     refine thenA_n ?_
     refine ⟨_, (Option.some.inj h).symm, ?_⟩
     refine Ent.can [8, 9, 10, 132] _ _ _ rfl (by first | decide | simp) rfl ?_ ?_ ?_
     · exact ((((((RF.any.pv (by first | rfl | simp only [go_sem]) (by first | rfl | simp [upd_ap, hpL_ap, tau, mapT, mapTL, bytesI_len, eq_true c37, eq_true c38])).pp (by decide) (by first | rfl | simp [upd_ap, hpL_ap, tau, mapT, mapTL, bytesI_len, eq_true c37, eq_true c38])).pp (by decide) (by first | rfl | simp [upd_ap, hpL_ap, tau, mapT, mapTL, bytesI_len, eq_true c37, eq_true c38])).pp (by decide) (by first | rfl | simp [upd_ap, hpL_ap, tau, mapT, mapTL, bytesI_len, eq_true c37, eq_true c38])).pv (by first | rfl | simp only [go_sem]) (by first | rfl | simp [upd_ap, hpL_ap, tau, mapT, mapTL, bytesI_len, eq_true c37, eq_true c38])).pv (by first | rfl | simp only [go_sem]) (by first | rfl | simp [upd_ap, hpL_ap, tau, mapT, mapTL, bytesI_len, eq_true c37, eq_true c38]))
     · exact .nil _
     · exact .cons (.eq (by first | rfl | simp only [go_sem]) (by first | rfl | simp [upd_ap, hpL_ap, tau, mapT, mapTL, bytesI_len, eq_true c37, eq_true c38])) (.cons (.eq (by first | rfl | simp only [go_sem]) (by first | rfl | simp [upd_ap, hpL_ap, tau, mapT, mapTL, bytesI_len, eq_true c37, eq_true c38])) (.cons (.tok (by simp [tokL, tokLL, inlR]) (by first | rfl | simp [upd_ap, hpL_ap, tau, mapT, mapTL, bytesI_len, eq_true c37, eq_true c38])) (.cons (.eq (by first | rfl | simp only [go_sem]) (by first | rfl | simp [upd_ap, hpL_ap, tau, mapT, mapTL, bytesI_len, eq_true c37, eq_true c38])) (.nil _))))
    ·rw [if_neg c38] at h
     refine AW.ifF rfl c38 ?_
     refine AW.exit ?_
     refine thenA_x ?_
     refine thenA_x ?_
     refine ⟨_, (Option.some.inj h).symm, _, ?_, rfl, rfl⟩
     refine Ent.can [8, 9, 10, 11] _ _ _ rfl (by first | decide | simp) rfl ?_ ?_ ?_
     · exact ((((RF.any.pv (by first | rfl | simp only [go_sem]) (by first | rfl | simp [upd_ap, hpL_ap, tau, mapT, mapTL, bytesI_len, eq_true c37, eq_false c38])).pp (by decide) (by first | rfl | simp [upd_ap, hpL_ap, tau, mapT, mapTL, bytesI_len, eq_true c37, eq_false c38])).pp (by decide) (by first | rfl | simp [upd_ap, hpL_ap, tau, mapT, mapTL, bytesI_len, eq_true c37, eq_false c38])).pp (by decide) (by first | rfl | simp [upd_ap, hpL_ap, tau, mapT, mapTL, bytesI_len, eq_true c37, eq_false c38]))
     · exact .nil _
     · exact .cons (.eq (by first | rfl | simp only [go_sem]) (by first | rfl | simp [upd_ap, hpL_ap, tau, mapT, mapTL, bytesI_len, eq_true c37, eq_false c38])) (.cons (.eq (by first | rfl | simp only [go_sem]) (by first | rfl | simp [upd_ap, hpL_ap, tau, mapT, mapTL, bytesI_len, eq_true c37, eq_false c38])) (.cons (.tok (by simp [tokL, tokLL, inlR]) (by first | rfl | simp [upd_ap, hpL_ap, tau, mapT, mapTL, bytesI_len, eq_true c37, eq_false c38])) (.cons (.eq (by first | rfl | simp only [go_sem]) (by first | rfl | simp [upd_ap, hpL_ap, tau, mapT, mapTL, bytesI_len, eq_true c37, eq_false c38])) (.nil _))))
   ·rw [if_neg c37] at h
    refine AW.regL [0, 2, 4, 5, 6, 7, 43] ?_
    generalize hK : AW Tryd.prog _ _ _ = K
    simp only [go_sem, ↓reduceIte, reduceCtorEq, Nat.reduceAdd, Nat.reduceSub, Nat.reduceMul, Nat.reduceEqDiff, Nat.reduceLT, Nat.reduceLeDiff, eq_false c37]
    subst hK
    refine AW.ifBF rfl rfl ?_
    refine AW.exit ?_
    refine thenA_x ?_
    refine thenA_x ?_
    refine ⟨_, (Option.some.inj h).symm, _, ?_, rfl, rfl⟩
    refine Ent.can [8, 9, 10, 11] _ _ _ rfl (by first | decide | simp) rfl ?_ ?_ ?_
    · exact ((((RF.any.pv (by first | rfl | simp only [go_sem]) (by first | rfl | simp [upd_ap, hpL_ap, tau, mapT, mapTL, bytesI_len, eq_false c37])).pp (by decide) (by first | rfl | simp [upd_ap, hpL_ap, tau, mapT, mapTL, bytesI_len, eq_false c37])).pp (by decide) (by first | rfl | simp [upd_ap, hpL_ap, tau, mapT, mapTL, bytesI_len, eq_false c37])).pp (by decide) (by first | rfl | simp [upd_ap, hpL_ap, tau, mapT, mapTL, bytesI_len, eq_false c37]))
    · exact .nil _
    · exact .cons (.eq (by first | rfl | simp only [go_sem]) (by first | rfl | simp [upd_ap, hpL_ap, tau, mapT, mapTL, bytesI_len, eq_false c37])) (.cons (.eq (by first | rfl | simp only [go_sem]) (by first | rfl | simp [upd_ap, hpL_ap, tau, mapT, mapTL, bytesI_len, eq_false c37])) (.cons (.tok (by simp [tokL, tokLL, inlR]) (by first | rfl | simp [upd_ap, hpL_ap, tau, mapT, mapTL, bytesI_len, eq_false c37])) (.cons (.eq (by first | rfl | simp only [go_sem]) (by first | rfl | simp [upd_ap, hpL_ap, tau, mapT, mapTL, bytesI_len, eq_false c37])) (.nil _))))
  ·intro e st' hX
   obtain ⟨y42, y43, y44, y45⟩ := y41
   try dsimp only at h
   try dsimp only at hX
   obtain ⟨rfl, rfl⟩ := hX
   refine ⟨_, Ent.refl, ?_⟩
   refine block_x ?_
   refine thenA_n ?_
   obtain ⟨x46, hx46, h⟩ := Option.bind_eq_some_iff.1 h
   obtain ⟨x47, hx47, h⟩ := Option.bind_eq_some_iff.1 h
   refine AW.regL [0, 2, 4, 5] ?_
   generalize hK : AW Tryd.prog _ _ _ = K
   simp only [go_sem, ↓reduceIte, reduceCtorEq, Nat.reduceAdd, Nat.reduceSub, Nat.reduceMul, Nat.reduceEqDiff, Nat.reduceLT, Nat.reduceLeDiff]
   refine arC.ok (CallOk.ic (us' := _) (ok40 ⟨y42, y43, y44⟩ x46 hx46) [9] rfl (by decide) (by simp) (by simp) (by simp) (by simp) (.cons (.eq (by simp only [go_sem]) (by first | rfl | simp [upd_ap, hpL_ap, sg_ap])) (.nil _)) (by simp only [mapTL_cons, mapTL_nil, mapT_ptr, mapT_own, mapT_val, mapT_sl, mapT_agg, mapT_ip, sg_ap, List.getD_cons_zero, List.getD_cons_succ]; exact (.cons (.of rfl) .nil)) (by simp only [go_sem, List.length_cons, List.length_nil, Nat.reduceAdd, Nat.reduceLT, decide_true]) (by simp [AObj.isMut]) (by simp [go_sem]) (by simp [go_sem])) Tryd.call40 ?_
   simp only [go_sem, ↓reduceIte, reduceCtorEq, Nat.reduceAdd, Nat.reduceSub, Nat.reduceMul, Nat.reduceEqDiff, Nat.reduceLT, Nat.reduceLeDiff]
   refine arC.ok (CallOk.ic (us' := _) (ok40 x46.2 x47 hx47) [9] rfl (by decide) (by simp) (by simp) (by simp) (by simp) (.cons (.eq (by simp only [go_sem]) (by first | rfl | simp [upd_ap, hpL_ap, sg_ap])) (.nil _)) (by simp only [mapTL_cons, mapTL_nil, mapT_ptr, mapT_own, mapT_val, mapT_sl, mapT_agg, mapT_ip, sg_ap, List.getD_cons_zero, List.getD_cons_succ]; exact (.cons (.of rfl) .nil)) (by simp only [go_sem, List.length_cons, List.length_nil, Nat.reduceAdd, Nat.reduceLT, decide_true]) (by simp [AObj.isMut]) (by simp [go_sem]) (by simp [go_sem])) Tryd.call40 ?_
   simp only [go_sem, ↓reduceIte, reduceCtorEq, Nat.reduceAdd, Nat.reduceSub, Nat.reduceMul, Nat.reduceEqDiff, Nat.reduceLT, Nat.reduceLeDiff]
   subst hK
   refine AW.join (fun s => ⟨(upd (upd (upd anyF 2 (.ptr 8 0 0)) 4 (.ptr 9 0 0)) 5 (.ptr 10 0 0)), hpL [] [some (.row 7 true [[.val (.int .i64 0), .val (.int .i64 0), .val (.int .i64 0), .val (.int .i64 0), .val (.slice none 0 0), .val (.slice none 0 0), .val (.slice none 0 0)]]), some (.row 3 true [[.sl (List.map enc5 x47.2.b), .val (.int .i64 x47.2.at_), .val (.int .i64 s.2.2.2)]]), some (.row 7 true [[.val (.int .i64 x1.1), .val (.int .i64 x2.1), .val (.int .i64 x3.1), .val (.int .i64 x4.1), .sl (List.map enc3 s.1), .sl (List.map enc5 s.2.1), .sl (List.map enc5 s.2.2.1)]])], 11⟩) (fun s => f27_j2 x1 x2 x3 x4 s = some r) ?_ ?_
   ·refine AW.ent (Ent.stillObj (pre := [.val (.int .i64 x1.1), .val (.int .i64 x2.1), .val (.int .i64 x3.1), .val (.int .i64 x4.1)]) (post := [.own 20 0 x46.1.length, .own 36 0 x47.1.length]) (q := 11) (off := 0) (len := y45.length) 10 rfl (own_sl (sz := 1) (m := true) rfl (by first | rfl | simp [bytesI_len]) (by simp only [go_sem])) (by decide)) ?_
    refine AW.ent (Ent.stillObj (pre := [.val (.int .i64 x1.1), .val (.int .i64 x2.1), .val (.int .i64 x3.1), .val (.int .i64 x4.1), .sl (List.map enc3 y45)]) (post := [.own 36 0 x47.1.length]) (q := 20) (off := 0) (len := x46.1.length) 10 rfl (own_sl (sz := 1) (m := true) rfl (by first | rfl | simp [bytesI_len]) (by simp only [go_sem])) (by decide)) ?_
    refine AW.ent (Ent.stillObj (pre := [.val (.int .i64 x1.1), .val (.int .i64 x2.1), .val (.int .i64 x3.1), .val (.int .i64 x4.1), .sl (List.map enc3 y45), .sl (List.map enc5 x46.1)]) (post := []) (q := 36) (off := 0) (len := x47.1.length) 10 rfl (own_sl (sz := 1) (m := true) rfl (by first | rfl | simp [bytesI_len]) (by simp only [go_sem])) (by decide)) ?_
    by_cases c57 : x47.2.e = 0
    ·rw [if_pos c57] at h
     by_cases c58 : x47.2.at_ < (a0.length : Int)
     ·rw [if_pos c58] at h
      refine AW.regL [2, 4, 5, 77] ?_
      generalize hK : AW Tryd.prog _ _ _ = K
      simp only [go_sem, ↓reduceIte, reduceCtorEq, Nat.reduceAdd, Nat.reduceSub, Nat.reduceMul, Nat.reduceEqDiff, Nat.reduceLT, Nat.reduceLeDiff, eq_true c57, eq_true c58]
      subst hK
      refine AW.ifBT rfl rfl ?_
      refine AW.regionL [2, 4, 5] ?_
      generalize hK : thenA _ _ Exit.normal = K
      simp only [go_sem, ↓reduceIte, reduceCtorEq, Nat.reduceAdd, Nat.reduceSub, Nat.reduceMul, Nat.reduceEqDiff, Nat.reduceLT, Nat.reduceLeDiff, eq_true c57, eq_true c58]
      subst hK
      refine thenA_n ?_
      refine ⟨_, h, ?_⟩
      refine Ent.can [8, 9, 10] _ _ _ rfl (by first | decide | simp) rfl ?_ ?_ ?_
      · exact (((RF.any.pp (by decide) (by first | rfl | simp [upd_ap, hpL_ap, tau, mapT, mapTL, bytesI_len, eq_true c57, eq_true c58])).pp (by decide) (by first | rfl | simp [upd_ap, hpL_ap, tau, mapT, mapTL, bytesI_len, eq_true c57, eq_true c58])).pp (by decide) (by first | rfl | simp [upd_ap, hpL_ap, tau, mapT, mapTL, bytesI_len, eq_true c57, eq_true c58]))
      · exact .nil _
      · exact .cons (.eq (by first | rfl | simp only [go_sem]) (by first | rfl | simp [upd_ap, hpL_ap, tau, mapT, mapTL, bytesI_len, eq_true c57, eq_true c58])) (.cons (.eq (by first | rfl | simp only [go_sem]) (by first | rfl | simp [upd_ap, hpL_ap, tau, mapT, mapTL, bytesI_len, eq_true c57, eq_true c58])) (.cons (.eq (by first | rfl | simp only [go_sem]) (by first | rfl | simp [upd_ap, hpL_ap, tau, mapT, mapTL, bytesI_len, eq_true c57, eq_true c58])) (.nil _)))
     ·rw [if_neg c58] at h
      obtain ⟨x59, hx59, h⟩ := Option.bind_eq_some_iff.1 h
      refine AW.regL [2, 4, 5, 77] ?_
      generalize hK : AW Tryd.prog _ _ _ = K
      simp only [go_sem, ↓reduceIte, reduceCtorEq, Nat.reduceAdd, Nat.reduceSub, Nat.reduceMul, Nat.reduceEqDiff, Nat.reduceLT, Nat.reduceLeDiff, eq_true c57, eq_false c58]
      refine arC.of (ok41 ⟨x1.1, x2.1, x3.1, x4.1, y45, x46.1, x47.1⟩ x59 hx59) Tryd.call41 ?_
      simp only [go_sem, ↓reduceIte, reduceCtorEq, Nat.reduceAdd, Nat.reduceSub, Nat.reduceMul, Nat.reduceEqDiff, Nat.reduceLT, Nat.reduceLeDiff, eq_true c57, eq_false c58]
      subst hK
      by_cases c60 : x59 = true
      ·rw [if_pos c60] at h
       refine AW.ifBF rfl (by rw [c60]; rfl) ?_
       refine AW.skip ?_
       refine thenA_n ?_
       refine ⟨_, h, ?_⟩
       refine Ent.can [8, 9, 10] _ _ _ rfl (by first | decide | simp) rfl ?_ ?_ ?_
       · exact (((RF.any.pp (by decide) (by first | rfl | simp [upd_ap, hpL_ap, tau, mapT, mapTL, bytesI_len, eq_true c57, eq_false c58, c60])).pp (by decide) (by first | rfl | simp [upd_ap, hpL_ap, tau, mapT, mapTL, bytesI_len, eq_true c57, eq_false c58, c60])).pp (by decide) (by first | rfl | simp [upd_ap, hpL_ap, tau, mapT, mapTL, bytesI_len, eq_true c57, eq_false c58, c60]))
       · exact .nil _
       · exact .cons (.eq (by first | rfl | simp only [go_sem]) (by first | rfl | simp [upd_ap, hpL_ap, tau, mapT, mapTL, bytesI_len, eq_true c57, eq_false c58, c60])) (.cons (.eq (by first | rfl | simp only [go_sem]) (by first | rfl | simp [upd_ap, hpL_ap, tau, mapT, mapTL, bytesI_len, eq_true c57, eq_false c58, c60])) (.cons (.eq (by first | rfl | simp only [go_sem]) (by first | rfl | simp [upd_ap, hpL_ap, tau, mapT, mapTL, bytesI_len, eq_true c57, eq_false c58, c60])) (.nil _)))
      ·rw [if_neg c60] at h
       rw [Bool.not_eq_true] at c60
       refine AW.ifBT rfl (by rw [c60]; rfl) ?_
       refine AW.regionL [2, 4, 5] ?_
       generalize hK : thenA _ _ Exit.normal = K
       simp only [go_sem, ↓reduceIte, reduceCtorEq, Nat.reduceAdd, Nat.reduceSub, Nat.reduceMul, Nat.reduceEqDiff, Nat.reduceLT, Nat.reduceLeDiff, eq_true c57, eq_false c58, c60]
       subst hK
       refine thenA_n ?_
       refine ⟨_, h, ?_⟩
       refine Ent.can [8, 9, 10] _ _ _ rfl (by first | decide | simp) rfl ?_ ?_ ?_
       · exact (((RF.any.pp (by decide) (by first | rfl | simp [upd_ap, hpL_ap, tau, mapT, mapTL, bytesI_len, eq_true c57, eq_false c58, c60])).pp (by decide) (by first | rfl | simp [upd_ap, hpL_ap, tau, mapT, mapTL, bytesI_len, eq_true c57, eq_false c58, c60])).pp (by decide) (by first | rfl | simp [upd_ap, hpL_ap, tau, mapT, mapTL, bytesI_len, eq_true c57, eq_false c58, c60]))
       · exact .nil _
       · exact .cons (.eq (by first | rfl | simp only [go_sem]) (by first | rfl | simp [upd_ap, hpL_ap, tau, mapT, mapTL, bytesI_len, eq_true c57, eq_false c58, c60])) (.cons (.eq (by first | rfl | simp only [go_sem]) (by first | rfl | simp [upd_ap, hpL_ap, tau, mapT, mapTL, bytesI_len, eq_true c57, eq_false c58, c60])) (.cons (.eq (by first | rfl | simp only [go_sem]) (by first | rfl | simp [upd_ap, hpL_ap, tau, mapT, mapTL, bytesI_len, eq_true c57, eq_false c58, c60])) (.nil _)))
    ·rw [if_neg c57] at h
     refine AW.regL [2, 4, 5, 77] ?_
     generalize hK : AW Tryd.prog _ _ _ = K
     simp only [go_sem, ↓reduceIte, reduceCtorEq, Nat.reduceAdd, Nat.reduceSub, Nat.reduceMul, Nat.reduceEqDiff, Nat.reduceLT, Nat.reduceLeDiff, eq_false c57]
     subst hK
     refine AW.ifBF rfl rfl ?_
     refine AW.skip ?_
     refine thenA_n ?_
     refine ⟨_, h, ?_⟩
     refine Ent.can [8, 9, 10] _ _ _ rfl (by first | decide | simp) rfl ?_ ?_ ?_
     · exact (((RF.any.pp (by decide) (by first | rfl | simp [upd_ap, hpL_ap, tau, mapT, mapTL, bytesI_len, eq_false c57])).pp (by decide) (by first | rfl | simp [upd_ap, hpL_ap, tau, mapT, mapTL, bytesI_len, eq_false c57])).pp (by decide) (by first | rfl | simp [upd_ap, hpL_ap, tau, mapT, mapTL, bytesI_len, eq_false c57]))
     · exact .nil _
     · exact .cons (.eq (by first | rfl | simp only [go_sem]) (by first | rfl | simp [upd_ap, hpL_ap, tau, mapT, mapTL, bytesI_len, eq_false c57])) (.cons (.eq (by first | rfl | simp only [go_sem]) (by first | rfl | simp [upd_ap, hpL_ap, tau, mapT, mapTL, bytesI_len, eq_false c57])) (.cons (.eq (by first | rfl | simp only [go_sem]) (by first | rfl | simp [upd_ap, hpL_ap, tau, mapT, mapTL, bytesI_len, eq_false c57])) (.nil _)))
   ·clear h
    rintro ⟨j2_0, j2_1, j2_2, j2_3⟩ h
    rw [f27_j2] at h
    refine AW.seq ?_
    refine AW.regL [2, 4, 5, 85] ?_
    generalize hK : AW Tryd.prog _ _ _ = K
    simp only [go_sem, ↓reduceIte, reduceCtorEq, Nat.reduceAdd, Nat.reduceSub, Nat.reduceMul, Nat.reduceEqDiff, Nat.reduceLT, Nat.reduceLeDiff]
    subst hK
    by_cases c54 : j2_3 = 0
    ·rw [if_pos c54] at h
     refine AW.ifF rfl (fun q => q c54) ?_
     refine AW.skip ?_
     refine thenA_n ?_
     refine AW.regL [2, 3] ?_
     generalize hK : AW Tryd.prog _ _ _ = K
     simp only [go_sem, ↓reduceIte, reduceCtorEq, Nat.reduceAdd, Nat.reduceSub, Nat.reduceMul, Nat.reduceEqDiff, Nat.reduceLT, Nat.reduceLeDiff, eq_true c54]
     subst hK
     refine AW.ret ?_
     obtain rfl := Option.some.inj h
     (simp only [go_sem, ↓reduceIte, reduceCtorEq, Nat.reduceAdd, Nat.reduceSub, Nat.reduceMul, Nat.reduceEqDiff, Nat.reduceLT, Nat.reduceLeDiff, eq_true c54, finA] <;> try simp)
    ·rw [if_neg c54] at h
     refine AW.ifT rfl c54 ?_
     refine AW.regdL [2, 3] [[], [], [1], [1, 2], [1, 2, 3], [0], [0, 1, 2, 3, 4, 5]] [0, 1, 2, 3, 4, 5, 6] noFt (fun _ _ _ h => by simp [noFt] at h) draws (by kernel_rfl) (by kernel_rfl) ?_
     generalize hK : AW Tryd.prog _ _ _ = K
     simp only [go_sem, ↓reduceIte, reduceCtorEq, Nat.reduceAdd, Nat.reduceSub, Nat.reduceMul, Nat.reduceEqDiff, Nat.reduceLT, Nat.reduceLeDiff, eq_false c54]
     subst hK
     refine AW.ent (Ent.weakObj 8 rfl rfl (.cons (.of rfl) (.cons (.of rfl) (.cons (.of rfl) (.cons (.of rfl) (.cons Weak.nil (.cons Weak.nil (.cons Weak.nil WeakL.nil)))))))) ?_
     refine AW.ret ?_
     refine thenA_r ?_
     obtain rfl := Option.some.inj h
     (simp only [go_sem, ↓reduceIte, reduceCtorEq, Nat.reduceAdd, Nat.reduceSub, Nat.reduceMul, Nat.reduceEqDiff, Nat.reduceLT, Nat.reduceLeDiff, eq_false c54, finA] <;> try simp)
end Au
end Go.Proofs.Yd
