import Derived.Test.YtpdgnhhjaaencaaGmDV
import Derived.Test.YtpdgnhhjaaencaaGmM1
set_option linter.all false
set_option linter.unusedVariables false
set_option linter.unusedSimpArgs false
set_option linter.all false
set_option maxRecDepth 8000
set_option maxHeartbeats 1000000
namespace Go.Proofs.Y5
open Go.Gm
namespace Au
noncomputable def f37_31_s2 (a1 : Int) : (List Item) × Int × Int → Option (((List Item) × Int × Int) ⊕ (Int × (List Item)))
  | (s2_0, s2_1, s2_2) => (if s2_2 ≤ a1 then ((f49_31 s2_0 s2_1 s2_2).bind fun x22 => ((guardO (x22.length = s2_0.length)).bind fun x23 => some (.inl (x22, s2_2, IntKind.i64.wrap (s2_2 + 20))))) else some (.inr (s2_1, s2_0)))
noncomputable def f37_31_s9 (a1 : Int) (s3_1 : Int) : (List Item) × Int × Int → Option (((List Item) × Int × Int) ⊕ (Int × (List Item)))
  | (s9_0, s9_1, s9_2) => (if s9_2 ≤ a1 then ((f50_31 fuel s9_0 s9_1 (IntKind.i64.wrap (s9_1 + s3_1)) s9_2).bind fun x106 => ((guardO (x106.length = s9_0.length)).bind fun x107 => some (.inl (x106, s9_2, IntKind.i64.wrap (s9_2 + (IntKind.i64.wrap (2 * s3_1))))))) else some (.inr (s9_1, s9_0)))
noncomputable def f37_31_s3 (a1 : Int) : (List Item) × Int → Option (((List Item) × Int) ⊕ (List Item))
  | (s3_0, s3_1) => (if s3_1 < a1 then ((loopO (f37_31_s9 a1 s3_1) (s3_0, 0, IntKind.i64.wrap (2 * s3_1))).bind fun y108 => match y108 with | (y109, y110) => (if (IntKind.i64.wrap (y109 + s3_1)) < a1 then ((f50_31 fuel y110 y109 (IntKind.i64.wrap (y109 + s3_1)) a1).bind fun x112 => ((guardO (x112.length = y110.length)).bind fun x113 => some (.inl (x112, IntKind.i64.wrap (s3_1 * 2))))) else some (.inl (y110, IntKind.i64.wrap (s3_1 * 2))))) else some (.inr s3_0))
noncomputable def f37_31 (a0 : List Item) (a1 : Int) : Option (List Item) := ((loopO (f37_31_s2 a1) (a0, 0, 20)).bind fun y24 => match y24 with | (y25, y26) => ((f49_31 y26 y25 a1).bind fun x27 => ((guardO (x27.length = y26.length)).bind fun x28 => ((loopO (f37_31_s3 a1) (x27, 20)).bind fun y115 => some y115))))
theorem ok37_31 (a0 : List Item) (a1 : Int) (r : (List Item)) (h : f37_31 a0 a1 = some r) : IC Try.prog 37 [some (.row 3 true (List.map encItem a0))] [.own 0 0 a0.length, .val (.int .i64 a1), .clo (.func 31) [] []] (.tup []) [some (.row 3 true (List.map encItem r))] [] := by
 rw [f37_31] at h
 refine ic_ofJ (N := 63) (rs := []) Try.func37 rfl rfl rfl (Nat.le_of_ble_eq_true rfl) ?_
 refine AW.regL [0, 1, 2, 6] ?_
 generalize hK : AW Try.prog _ _ _ = K
 simp only [go_sem, ↓reduceIte, reduceCtorEq, Nat.reduceAdd, Nat.reduceSub, Nat.reduceMul, Nat.reduceEqDiff, Nat.reduceLT, Nat.reduceLeDiff]
 subst hK
 refine AW.regL [0, 1, 2, 6, 7, 8] ?_
 generalize hK : AW Try.prog _ _ _ = K
 simp only [go_sem, ↓reduceIte, reduceCtorEq, Nat.reduceAdd, Nat.reduceSub, Nat.reduceMul, Nat.reduceEqDiff, Nat.reduceLT, Nat.reduceLeDiff]
 subst hK
 refine AW.seq ?_
 refine AW.block ?_
 obtain ⟨y24, hy24, h⟩ := Option.bind_eq_some_iff.1 h
 refine AW.loopO (fun s => ⟨(upd (upd (upd (upd (upd (upd anyF 0 (.own 0 0 s.1.length)) 1 (.val (.int .i64 a1))) 2 (.clo (.func 31) [] [])) 6 (.val (.int .i64 20))) 7 (.val (.int .i64 s.2.1))) 8 (.val (.int .i64 s.2.2))), hpL [some (.row 3 true (List.map encItem s.1))] [], 8⟩) (fun z e st' => e = Exit.exit 0 ∧ st' = ⟨(upd (upd (upd (upd (upd anyF 0 (.own 0 0 z.2.length)) 1 (.val (.int .i64 a1))) 2 (.clo (.func 31) [] [])) 6 (.val (.int .i64 20))) 7 (.val (.int .i64 z.1))), hpL [some (.row 3 true (List.map encItem z.2))] [], 8⟩) hy24 ?_ ?_ ?_
 ·refine Ent.can [] _ _ _ rfl (by first | decide | simp) rfl ?_ ?_ ?_
  · exact ((((((RF.any.po (by decide) (by first | rfl | simp [upd_ap, hpL_ap, tau, mapT, mapTL, bytesI_len])).pv (by first | rfl | simp only [go_sem]) (by first | rfl | simp [upd_ap, hpL_ap, tau, mapT, mapTL, bytesI_len])).put (by first | (simp [tokL, tokLL, inlR]; done) | simp [go_sem, tokL, tokLL]) (.of (by first | rfl | simp [upd_ap, hpL_ap, tau, mapT, mapTL, bytesI_len]))).pv (by first | rfl | simp only [go_sem]) (by first | rfl | simp [upd_ap, hpL_ap, tau, mapT, mapTL, bytesI_len])).pv (by first | rfl | simp only [go_sem]) (by first | rfl | simp [upd_ap, hpL_ap, tau, mapT, mapTL, bytesI_len])).pv (by first | rfl | simp only [go_sem]) (by first | rfl | simp [upd_ap, hpL_ap, tau, mapT, mapTL, bytesI_len]))
  · exact .cons (.eq (by first | rfl | simp only [go_sem]) (by first | rfl | simp [upd_ap, hpL_ap, tau, mapT, mapTL, bytesI_len])) (.nil _)
  · exact .nil _
 ·clear h hy24
  rintro ⟨s2_0, s2_1, s2_2⟩ x h
  rw [f37_31_s2] at h
  refine AW.seq ?_
  refine AW.regL [0, 1, 2, 6, 7, 8, 13] ?_
  generalize hK : AW Try.prog _ _ _ = K
  simp only [go_sem, ↓reduceIte, reduceCtorEq, Nat.reduceAdd, Nat.reduceSub, Nat.reduceMul, Nat.reduceEqDiff, Nat.reduceLT, Nat.reduceLeDiff]
  subst hK
  by_cases c21 : s2_2 ≤ a1
  ·rw [if_pos c21] at h
   refine AW.ifT rfl c21 ?_
   refine AW.skip ?_
   refine thenA_n ?_
   refine AW.block ?_
   obtain ⟨x22, hx22, h⟩ := Option.bind_eq_some_iff.1 h
   obtain ⟨x23, hx23, h⟩ := Option.bind_eq_some_iff.1 h
   have lenhx22 : x22.length = s2_0.length := guardO_some.1 hx23
   refine AW.regL [0, 1, 2, 6, 8] ?_
   generalize hK : AW Try.prog _ _ _ = K
   simp only [go_sem, ↓reduceIte, reduceCtorEq, Nat.reduceAdd, Nat.reduceSub, Nat.reduceMul, Nat.reduceEqDiff, Nat.reduceLT, Nat.reduceLeDiff, eq_true c21, lenhx22]
   refine arC.ok (CallOk.ic (us' := _) (ok49_31 s2_0 s2_1 s2_2 x22 hx22) [0] rfl (by decide) (by simp) (by simp) (by simp) (by simp) (.cons (.eq (by simp only [go_sem]) (by first | rfl | simp [upd_ap, hpL_ap, sg_ap])) (.nil _)) (by simp only [mapTL_cons, mapTL_nil, mapT_ptr, mapT_own, mapT_val, mapT_sl, mapT_agg, mapT_ip, mapT_clo, sg_ap, List.getD_cons_zero, List.getD_cons_succ]; exact (.cons (.of (by first | rfl | simp [mapT_own, sg_ap, eq_true c21])) (.cons (.of rfl) (.cons (.of rfl) (.cons (.of rfl) .nil))))) (by simp only [go_sem, List.length_cons, List.length_nil, Nat.reduceAdd, Nat.reduceLT, decide_true]) (by simp [AObj.isMut]) (by simp [go_sem]) (by simp [go_sem])) Try.call49 ?_
   simp only [go_sem, ↓reduceIte, reduceCtorEq, Nat.reduceAdd, Nat.reduceSub, Nat.reduceMul, Nat.reduceEqDiff, Nat.reduceLT, Nat.reduceLeDiff, eq_true c21, lenhx22]
   subst hK
   refine AW.regL [0, 1, 2, 6, 7, 8] ?_
   generalize hK : AW Try.prog _ _ _ = K
   simp only [go_sem, ↓reduceIte, reduceCtorEq, Nat.reduceAdd, Nat.reduceSub, Nat.reduceMul, Nat.reduceEqDiff, Nat.reduceLT, Nat.reduceLeDiff, eq_true c21, lenhx22]
   subst hK
   refine AW.regionL [0, 1, 2, 6, 7, 8] ?_
   generalize hK : inBlockA _ _ Exit.normal = K
   simp only [go_sem, ↓reduceIte, reduceCtorEq, Nat.reduceAdd, Nat.reduceSub, Nat.reduceMul, Nat.reduceEqDiff, Nat.reduceLT, Nat.reduceLeDiff, eq_true c21, lenhx22]
   subst hK
   refine block_n ?_
   refine thenA_n ?_
   refine ⟨_, (Option.some.inj h).symm, ?_⟩
   refine Ent.can [] _ _ _ rfl (by first | decide | simp) rfl ?_ ?_ ?_
   · exact ((((((RF.any.po (by decide) (by first | rfl | simp [upd_ap, hpL_ap, tau, mapT, mapTL, bytesI_len, eq_true c21, lenhx22])).pv (by first | rfl | simp only [go_sem]) (by first | rfl | simp [upd_ap, hpL_ap, tau, mapT, mapTL, bytesI_len, eq_true c21, lenhx22])).put (by first | (simp [tokL, tokLL, inlR]; done) | simp [go_sem, tokL, tokLL]) (.of (by first | rfl | simp [upd_ap, hpL_ap, tau, mapT, mapTL, bytesI_len, eq_true c21, lenhx22]))).pv (by first | rfl | simp only [go_sem]) (by first | rfl | simp [upd_ap, hpL_ap, tau, mapT, mapTL, bytesI_len, eq_true c21, lenhx22])).pv (by first | rfl | simp only [go_sem]) (by first | rfl | simp [upd_ap, hpL_ap, tau, mapT, mapTL, bytesI_len, eq_true c21, lenhx22])).pv (by first | rfl | simp only [go_sem]) (by first | rfl | simp [upd_ap, hpL_ap, tau, mapT, mapTL, bytesI_len, eq_true c21, lenhx22]))
   · exact .cons (.eq (by first | rfl | simp only [go_sem]) (by first | rfl | simp [upd_ap, hpL_ap, tau, mapT, mapTL, bytesI_len, eq_true c21, lenhx22])) (.nil _)
   · exact .nil _
  ·rw [if_neg c21] at h
   refine AW.ifF rfl c21 ?_
   refine AW.exit ?_
   refine thenA_x ?_
   refine thenA_x ?_
   refine ⟨_, (Option.some.inj h).symm, _, ?_, rfl, rfl⟩
   refine Ent.can [] _ _ _ rfl (by first | decide | simp) rfl ?_ ?_ ?_
   · exact (((((RF.any.po (by decide) (by first | rfl | simp [upd_ap, hpL_ap, tau, mapT, mapTL, bytesI_len, eq_false c21])).pv (by first | rfl | simp only [go_sem]) (by first | rfl | simp [upd_ap, hpL_ap, tau, mapT, mapTL, bytesI_len, eq_false c21])).put (by first | (simp [tokL, tokLL, inlR]; done) | simp [go_sem, tokL, tokLL]) (.of (by first | rfl | simp [upd_ap, hpL_ap, tau, mapT, mapTL, bytesI_len, eq_false c21]))).pv (by first | rfl | simp only [go_sem]) (by first | rfl | simp [upd_ap, hpL_ap, tau, mapT, mapTL, bytesI_len, eq_false c21])).pv (by first | rfl | simp only [go_sem]) (by first | rfl | simp [upd_ap, hpL_ap, tau, mapT, mapTL, bytesI_len, eq_false c21]))
   · exact .cons (.eq (by first | rfl | simp only [go_sem]) (by first | rfl | simp [upd_ap, hpL_ap, tau, mapT, mapTL, bytesI_len, eq_false c21])) (.nil _)
   · exact .nil _
 ·intro e st' hX
  obtain ⟨y25, y26⟩ := y24
  try dsimp only at h
  try dsimp only at hX
  obtain ⟨rfl, rfl⟩ := hX
  refine ⟨_, Ent.refl, ?_⟩
  refine block_x ?_
  refine thenA_n ?_
  obtain ⟨x27, hx27, h⟩ := Option.bind_eq_some_iff.1 h
  obtain ⟨x28, hx28, h⟩ := Option.bind_eq_some_iff.1 h
  have lenhx27 : x27.length = y26.length := guardO_some.1 hx28
  refine AW.regL [0, 1, 2, 6] ?_
  generalize hK : AW Try.prog _ _ _ = K
  simp only [go_sem, ↓reduceIte, reduceCtorEq, Nat.reduceAdd, Nat.reduceSub, Nat.reduceMul, Nat.reduceEqDiff, Nat.reduceLT, Nat.reduceLeDiff, lenhx27]
  refine arC.ok (CallOk.ic (us' := _) (ok49_31 y26 y25 a1 x27 hx27) [0] rfl (by decide) (by simp) (by simp) (by simp) (by simp) (.cons (.eq (by simp only [go_sem]) (by first | rfl | simp [upd_ap, hpL_ap, sg_ap])) (.nil _)) (by simp only [mapTL_cons, mapTL_nil, mapT_ptr, mapT_own, mapT_val, mapT_sl, mapT_agg, mapT_ip, mapT_clo, sg_ap, List.getD_cons_zero, List.getD_cons_succ]; exact (.cons (.of (by first | rfl | simp [mapT_own, sg_ap])) (.cons (.of rfl) (.cons (.of rfl) (.cons (.of rfl) .nil))))) (by simp only [go_sem, List.length_cons, List.length_nil, Nat.reduceAdd, Nat.reduceLT, decide_true]) (by simp [AObj.isMut]) (by simp [go_sem]) (by simp [go_sem])) Try.call49 ?_
  simp only [go_sem, ↓reduceIte, reduceCtorEq, Nat.reduceAdd, Nat.reduceSub, Nat.reduceMul, Nat.reduceEqDiff, Nat.reduceLT, Nat.reduceLeDiff, lenhx27]
  subst hK
  refine AW.block ?_
  obtain ⟨y115, hy115, h⟩ := Option.bind_eq_some_iff.1 h
  refine AW.loopO (fun s => ⟨(upd (upd (upd (upd anyF 0 (.own 0 0 s.1.length)) 1 (.val (.int .i64 a1))) 2 (.clo (.func 31) [] [])) 6 (.val (.int .i64 s.2))), hpL [some (.row 3 true (List.map encItem s.1))] [], 8⟩) (fun z e st' => e = Exit.exit 2 ∧ st' = ⟨anyF, hpL [some (.row 3 true (List.map encItem z))] [], 8⟩) hy115 ?_ ?_ ?_
  ·refine Ent.can [] _ _ _ rfl (by first | decide | simp) rfl ?_ ?_ ?_
   · exact ((((RF.any.po (by decide) (by first | rfl | simp [upd_ap, hpL_ap, tau, mapT, mapTL, bytesI_len, lenhx27])).pv (by first | rfl | simp only [go_sem]) (by first | rfl | simp [upd_ap, hpL_ap, tau, mapT, mapTL, bytesI_len, lenhx27])).put (by first | (simp [tokL, tokLL, inlR]; done) | simp [go_sem, tokL, tokLL]) (.of (by first | rfl | simp [upd_ap, hpL_ap, tau, mapT, mapTL, bytesI_len, lenhx27]))).pv (by first | rfl | simp only [go_sem]) (by first | rfl | simp [upd_ap, hpL_ap, tau, mapT, mapTL, bytesI_len, lenhx27]))
   · exact .cons (.eq (by first | rfl | simp only [go_sem]) (by first | rfl | simp [upd_ap, hpL_ap, tau, mapT, mapTL, bytesI_len, lenhx27])) (.nil _)
   · exact .nil _
  ·clear h hy115
   rintro ⟨s3_0, s3_1⟩ x h
   rw [f37_31_s3] at h
   refine AW.seq ?_
   refine AW.regL [0, 1, 2, 6, 30] ?_
   generalize hK : AW Try.prog _ _ _ = K
   simp only [go_sem, ↓reduceIte, reduceCtorEq, Nat.reduceAdd, Nat.reduceSub, Nat.reduceMul, Nat.reduceEqDiff, Nat.reduceLT, Nat.reduceLeDiff, lenhx27]
   subst hK
   by_cases c84 : s3_1 < a1
   ·rw [if_pos c84] at h
    refine AW.ifT rfl c84 ?_
    refine AW.skip ?_
    refine thenA_n ?_
    refine AW.block ?_
    refine AW.regL [0, 1, 2, 6, 7, 8] ?_
    generalize hK : AW Try.prog _ _ _ = K
    simp only [go_sem, ↓reduceIte, reduceCtorEq, Nat.reduceAdd, Nat.reduceSub, Nat.reduceMul, Nat.reduceEqDiff, Nat.reduceLT, Nat.reduceLeDiff, lenhx27, eq_true c84]
    subst hK
    refine AW.seq ?_
    refine AW.block ?_
    obtain ⟨y108, hy108, h⟩ := Option.bind_eq_some_iff.1 h
    refine AW.loopO (fun s => ⟨(upd (upd (upd (upd (upd (upd anyF 0 (.own 0 0 s.1.length)) 1 (.val (.int .i64 a1))) 2 (.clo (.func 31) [] [])) 6 (.val (.int .i64 s3_1))) 7 (.val (.int .i64 s.2.1))) 8 (.val (.int .i64 s.2.2))), hpL [some (.row 3 true (List.map encItem s.1))] [], 8⟩) (fun z e st' => e = Exit.exit 4 ∧ st' = ⟨(upd (upd (upd (upd (upd anyF 0 (.own 0 0 z.2.length)) 1 (.val (.int .i64 a1))) 2 (.clo (.func 31) [] [])) 6 (.val (.int .i64 s3_1))) 7 (.val (.int .i64 z.1))), hpL [some (.row 3 true (List.map encItem z.2))] [], 8⟩) hy108 ?_ ?_ ?_
    ·refine Ent.can [] _ _ _ rfl (by first | decide | simp) rfl ?_ ?_ ?_
     · exact ((((((RF.any.po (by decide) (by first | rfl | simp [upd_ap, hpL_ap, tau, mapT, mapTL, bytesI_len, lenhx27, eq_true c84])).pv (by first | rfl | simp only [go_sem]) (by first | rfl | simp [upd_ap, hpL_ap, tau, mapT, mapTL, bytesI_len, lenhx27, eq_true c84])).put (by first | (simp [tokL, tokLL, inlR]; done) | simp [go_sem, tokL, tokLL]) (.of (by first | rfl | simp [upd_ap, hpL_ap, tau, mapT, mapTL, bytesI_len, lenhx27, eq_true c84]))).pv (by first | rfl | simp only [go_sem]) (by first | rfl | simp [upd_ap, hpL_ap, tau, mapT, mapTL, bytesI_len, lenhx27, eq_true c84])).pv (by first | rfl | simp only [go_sem]) (by first | rfl | simp [upd_ap, hpL_ap, tau, mapT, mapTL, bytesI_len, lenhx27, eq_true c84])).pv (by first | rfl | simp only [go_sem]) (by first | rfl | simp [upd_ap, hpL_ap, tau, mapT, mapTL, bytesI_len, lenhx27, eq_true c84]))
     · exact .cons (.eq (by first | rfl | simp only [go_sem]) (by first | rfl | simp [upd_ap, hpL_ap, tau, mapT, mapTL, bytesI_len, lenhx27, eq_true c84])) (.nil _)
     · exact .nil _
    ·clear h hy108
     rintro ⟨s9_0, s9_1, s9_2⟩ x h
     rw [f37_31_s9] at h
     refine AW.seq ?_
     refine AW.regL [0, 1, 2, 6, 7, 8, 35] ?_
     generalize hK : AW Try.prog _ _ _ = K
     simp only [go_sem, ↓reduceIte, reduceCtorEq, Nat.reduceAdd, Nat.reduceSub, Nat.reduceMul, Nat.reduceEqDiff, Nat.reduceLT, Nat.reduceLeDiff, lenhx27, eq_true c84]
     subst hK
     by_cases c105 : s9_2 ≤ a1
     ·rw [if_pos c105] at h
      refine AW.ifT rfl c105 ?_
      refine AW.skip ?_
      refine thenA_n ?_
      refine AW.block ?_
      obtain ⟨x106, hx106, h⟩ := Option.bind_eq_some_iff.1 h
      obtain ⟨x107, hx107, h⟩ := Option.bind_eq_some_iff.1 h
      have lenhx106 : x106.length = s9_0.length := guardO_some.1 hx107
      refine AW.regL [0, 1, 2, 6, 8] ?_
      generalize hK : AW Try.prog _ _ _ = K
      simp only [go_sem, ↓reduceIte, reduceCtorEq, Nat.reduceAdd, Nat.reduceSub, Nat.reduceMul, Nat.reduceEqDiff, Nat.reduceLT, Nat.reduceLeDiff, lenhx27, eq_true c84, eq_true c105, lenhx106]
      refine arC.ok (CallOk.ic (us' := _) (ok50_31 fuel s9_0 s9_1 (IntKind.i64.wrap (s9_1 + s3_1)) s9_2 x106 hx106) [0] rfl (by decide) (by simp) (by simp) (by simp) (by simp) (.cons (.eq (by simp only [go_sem]) (by first | rfl | simp [upd_ap, hpL_ap, sg_ap])) (.nil _)) (by simp only [mapTL_cons, mapTL_nil, mapT_ptr, mapT_own, mapT_val, mapT_sl, mapT_agg, mapT_ip, mapT_clo, sg_ap, List.getD_cons_zero, List.getD_cons_succ]; exact (.cons (.of (by first | rfl | simp [mapT_own, sg_ap, lenhx27, eq_true c84, eq_true c105])) (.cons (.of rfl) (.cons (.of rfl) (.cons (.of rfl) (.cons (.of rfl) .nil)))))) (by simp only [go_sem, List.length_cons, List.length_nil, Nat.reduceAdd, Nat.reduceLT, decide_true]) (by simp [AObj.isMut]) (by simp [go_sem]) (by simp [go_sem])) Try.call50 ?_
      simp only [go_sem, ↓reduceIte, reduceCtorEq, Nat.reduceAdd, Nat.reduceSub, Nat.reduceMul, Nat.reduceEqDiff, Nat.reduceLT, Nat.reduceLeDiff, lenhx27, eq_true c84, eq_true c105, lenhx106]
      subst hK
      refine AW.regL [0, 1, 2, 6, 7, 8] ?_
      generalize hK : AW Try.prog _ _ _ = K
      simp only [go_sem, ↓reduceIte, reduceCtorEq, Nat.reduceAdd, Nat.reduceSub, Nat.reduceMul, Nat.reduceEqDiff, Nat.reduceLT, Nat.reduceLeDiff, lenhx27, eq_true c84, eq_true c105, lenhx106]
      subst hK
      refine AW.regionL [0, 1, 2, 6, 7, 8] ?_
      generalize hK : inBlockA _ _ Exit.normal = K
      simp only [go_sem, ↓reduceIte, reduceCtorEq, Nat.reduceAdd, Nat.reduceSub, Nat.reduceMul, Nat.reduceEqDiff, Nat.reduceLT, Nat.reduceLeDiff, lenhx27, eq_true c84, eq_true c105, lenhx106]
      subst hK
      refine block_n ?_
      refine thenA_n ?_
      refine ⟨_, (Option.some.inj h).symm, ?_⟩
      refine Ent.can [] _ _ _ rfl (by first | decide | simp) rfl ?_ ?_ ?_
      · exact ((((((RF.any.po (by decide) (by first | rfl | simp [upd_ap, hpL_ap, tau, mapT, mapTL, bytesI_len, lenhx27, eq_true c84, eq_true c105, lenhx106])).pv (by first | rfl | simp only [go_sem]) (by first | rfl | simp [upd_ap, hpL_ap, tau, mapT, mapTL, bytesI_len, lenhx27, eq_true c84, eq_true c105, lenhx106])).put (by first | (simp [tokL, tokLL, inlR]; done) | simp [go_sem, tokL, tokLL]) (.of (by first | rfl | simp [upd_ap, hpL_ap, tau, mapT, mapTL, bytesI_len, lenhx27, eq_true c84, eq_true c105, lenhx106]))).pv (by first | rfl | simp only [go_sem]) (by first | rfl | simp [upd_ap, hpL_ap, tau, mapT, mapTL, bytesI_len, lenhx27, eq_true c84, eq_true c105, lenhx106])).pv (by first | rfl | simp only [go_sem]) (by first | rfl | simp [upd_ap, hpL_ap, tau, mapT, mapTL, bytesI_len, lenhx27, eq_true c84, eq_true c105, lenhx106])).pv (by first | rfl | simp only [go_sem]) (by first | rfl | simp [upd_ap, hpL_ap, tau, mapT, mapTL, bytesI_len, lenhx27, eq_true c84, eq_true c105, lenhx106]))
      · exact .cons (.eq (by first | rfl | simp only [go_sem]) (by first | rfl | simp [upd_ap, hpL_ap, tau, mapT, mapTL, bytesI_len, lenhx27, eq_true c84, eq_true c105, lenhx106])) (.nil _)
      · exact .nil _
     ·rw [if_neg c105] at h
      refine AW.ifF rfl c105 ?_
      refine AW.exit ?_
      refine thenA_x ?_
      refine thenA_x ?_
      refine ⟨_, (Option.some.inj h).symm, _, ?_, rfl, rfl⟩
      refine Ent.can [] _ _ _ rfl (by first | decide | simp) rfl ?_ ?_ ?_
      · exact (((((RF.any.po (by decide) (by first | rfl | simp [upd_ap, hpL_ap, tau, mapT, mapTL, bytesI_len, lenhx27, eq_true c84, eq_false c105])).pv (by first | rfl | simp only [go_sem]) (by first | rfl | simp [upd_ap, hpL_ap, tau, mapT, mapTL, bytesI_len, lenhx27, eq_true c84, eq_false c105])).put (by first | (simp [tokL, tokLL, inlR]; done) | simp [go_sem, tokL, tokLL]) (.of (by first | rfl | simp [upd_ap, hpL_ap, tau, mapT, mapTL, bytesI_len, lenhx27, eq_true c84, eq_false c105]))).pv (by first | rfl | simp only [go_sem]) (by first | rfl | simp [upd_ap, hpL_ap, tau, mapT, mapTL, bytesI_len, lenhx27, eq_true c84, eq_false c105])).pv (by first | rfl | simp only [go_sem]) (by first | rfl | simp [upd_ap, hpL_ap, tau, mapT, mapTL, bytesI_len, lenhx27, eq_true c84, eq_false c105]))
      · exact .cons (.eq (by first | rfl | simp only [go_sem]) (by first | rfl | simp [upd_ap, hpL_ap, tau, mapT, mapTL, bytesI_len, lenhx27, eq_true c84, eq_false c105])) (.nil _)
      · exact .nil _
    ·intro e st' hX
     obtain ⟨y109, y110⟩ := y108
     try dsimp only at h
     try dsimp only at hX
     obtain ⟨rfl, rfl⟩ := hX
     refine ⟨_, Ent.refl, ?_⟩
     refine block_x ?_
     refine thenA_n ?_
     refine AW.seq ?_
     refine AW.regL [0, 1, 2, 6, 7, 9] ?_
     generalize hK : AW Try.prog _ _ _ = K
     simp only [go_sem, ↓reduceIte, reduceCtorEq, Nat.reduceAdd, Nat.reduceSub, Nat.reduceMul, Nat.reduceEqDiff, Nat.reduceLT, Nat.reduceLeDiff, lenhx27, eq_true c84]
     subst hK
     refine AW.regL [0, 1, 2, 6, 7, 9, 54] ?_
     generalize hK : AW Try.prog _ _ _ = K
     simp only [go_sem, ↓reduceIte, reduceCtorEq, Nat.reduceAdd, Nat.reduceSub, Nat.reduceMul, Nat.reduceEqDiff, Nat.reduceLT, Nat.reduceLeDiff, lenhx27, eq_true c84]
     subst hK
     by_cases c111 : (IntKind.i64.wrap (y109 + s3_1)) < a1
     ·rw [if_pos c111] at h
      refine AW.ifT rfl c111 ?_
      obtain ⟨x112, hx112, h⟩ := Option.bind_eq_some_iff.1 h
      obtain ⟨x113, hx113, h⟩ := Option.bind_eq_some_iff.1 h
      have lenhx112 : x112.length = y110.length := guardO_some.1 hx113
      refine AW.regionL [0, 1, 2, 6] ?_
      generalize hK : thenA _ _ Exit.normal = K
      simp only [go_sem, ↓reduceIte, reduceCtorEq, Nat.reduceAdd, Nat.reduceSub, Nat.reduceMul, Nat.reduceEqDiff, Nat.reduceLT, Nat.reduceLeDiff, lenhx27, eq_true c84, eq_true c111, lenhx112]
      refine arC.ok (CallOk.ic (us' := _) (ok50_31 fuel y110 y109 (IntKind.i64.wrap (y109 + s3_1)) a1 x112 hx112) [0] rfl (by decide) (by simp) (by simp) (by simp) (by simp) (.cons (.eq (by simp only [go_sem]) (by first | rfl | simp [upd_ap, hpL_ap, sg_ap])) (.nil _)) (by simp only [mapTL_cons, mapTL_nil, mapT_ptr, mapT_own, mapT_val, mapT_sl, mapT_agg, mapT_ip, mapT_clo, sg_ap, List.getD_cons_zero, List.getD_cons_succ]; exact (.cons (.of (by first | rfl | simp [mapT_own, sg_ap, lenhx27, eq_true c84, eq_true c111])) (.cons (.of rfl) (.cons (.of rfl) (.cons (.of rfl) (.cons (.of rfl) .nil)))))) (by simp only [go_sem, List.length_cons, List.length_nil, Nat.reduceAdd, Nat.reduceLT, decide_true]) (by simp [AObj.isMut]) (by simp [go_sem]) (by simp [go_sem])) Try.call50 ?_
      simp only [go_sem, ↓reduceIte, reduceCtorEq, Nat.reduceAdd, Nat.reduceSub, Nat.reduceMul, Nat.reduceEqDiff, Nat.reduceLT, Nat.reduceLeDiff, lenhx27, eq_true c84, eq_true c111, lenhx112]
      subst hK
      refine thenA_n ?_
      refine AW.regionL [0, 1, 2, 6] ?_
      generalize hK : inBlockA _ _ Exit.normal = K
      simp only [go_sem, ↓reduceIte, reduceCtorEq, Nat.reduceAdd, Nat.reduceSub, Nat.reduceMul, Nat.reduceEqDiff, Nat.reduceLT, Nat.reduceLeDiff, lenhx27, eq_true c84, eq_true c111, lenhx112]
      subst hK
      refine block_n ?_
      refine thenA_n ?_
      refine ⟨_, (Option.some.inj h).symm, ?_⟩
      refine Ent.can [] _ _ _ rfl (by first | decide | simp) rfl ?_ ?_ ?_
      · exact ((((RF.any.po (by decide) (by first | rfl | simp [upd_ap, hpL_ap, tau, mapT, mapTL, bytesI_len, lenhx27, eq_true c84, eq_true c111, lenhx112])).pv (by first | rfl | simp only [go_sem]) (by first | rfl | simp [upd_ap, hpL_ap, tau, mapT, mapTL, bytesI_len, lenhx27, eq_true c84, eq_true c111, lenhx112])).put (by first | (simp [tokL, tokLL, inlR]; done) | simp [go_sem, tokL, tokLL]) (.of (by first | rfl | simp [upd_ap, hpL_ap, tau, mapT, mapTL, bytesI_len, lenhx27, eq_true c84, eq_true c111, lenhx112]))).pv (by first | rfl | simp only [go_sem]) (by first | rfl | simp [upd_ap, hpL_ap, tau, mapT, mapTL, bytesI_len, lenhx27, eq_true c84, eq_true c111, lenhx112]))
      · exact .cons (.eq (by first | rfl | simp only [go_sem]) (by first | rfl | simp [upd_ap, hpL_ap, tau, mapT, mapTL, bytesI_len, lenhx27, eq_true c84, eq_true c111, lenhx112])) (.nil _)
      · exact .nil _
     ·rw [if_neg c111] at h
      refine AW.ifF rfl c111 ?_
      refine AW.skip ?_
      refine thenA_n ?_
      refine AW.regionL [0, 1, 2, 6] ?_
      generalize hK : inBlockA _ _ Exit.normal = K
      simp only [go_sem, ↓reduceIte, reduceCtorEq, Nat.reduceAdd, Nat.reduceSub, Nat.reduceMul, Nat.reduceEqDiff, Nat.reduceLT, Nat.reduceLeDiff, lenhx27, eq_true c84, eq_false c111]
      subst hK
      refine block_n ?_
      refine thenA_n ?_
      refine ⟨_, (Option.some.inj h).symm, ?_⟩
      refine Ent.can [] _ _ _ rfl (by first | decide | simp) rfl ?_ ?_ ?_
      · exact ((((RF.any.po (by decide) (by first | rfl | simp [upd_ap, hpL_ap, tau, mapT, mapTL, bytesI_len, lenhx27, eq_true c84, eq_false c111])).pv (by first | rfl | simp only [go_sem]) (by first | rfl | simp [upd_ap, hpL_ap, tau, mapT, mapTL, bytesI_len, lenhx27, eq_true c84, eq_false c111])).put (by first | (simp [tokL, tokLL, inlR]; done) | simp [go_sem, tokL, tokLL]) (.of (by first | rfl | simp [upd_ap, hpL_ap, tau, mapT, mapTL, bytesI_len, lenhx27, eq_true c84, eq_false c111]))).pv (by first | rfl | simp only [go_sem]) (by first | rfl | simp [upd_ap, hpL_ap, tau, mapT, mapTL, bytesI_len, lenhx27, eq_true c84, eq_false c111]))
      · exact .cons (.eq (by first | rfl | simp only [go_sem]) (by first | rfl | simp [upd_ap, hpL_ap, tau, mapT, mapTL, bytesI_len, lenhx27, eq_true c84, eq_false c111])) (.nil _)
      · exact .nil _
   ·rw [if_neg c84] at h
    refine AW.ifF rfl c84 ?_
    refine AW.exit ?_
    refine thenA_x ?_
    refine thenA_x ?_
    refine ⟨_, (Option.some.inj h).symm, _, ?_, rfl, rfl⟩
    refine Ent.can [] _ _ _ rfl (by first | decide | simp) rfl ?_ ?_ ?_
    · exact RF.any
    · exact .cons (.eq (by first | rfl | simp only [go_sem]) (by first | rfl | simp [upd_ap, hpL_ap, tau, mapT, mapTL, bytesI_len, lenhx27, eq_false c84])) (.nil _)
    · exact .nil _
  ·intro e st' hX
   try dsimp only at h
   try dsimp only at hX
   obtain ⟨rfl, rfl⟩ := hX
   refine ⟨_, Ent.refl, ?_⟩
   refine block_x ?_
   refine ⟨⟨anyF, hpL [some (.row 3 true (List.map encItem y115))] [], 8⟩, ?_, ?_⟩
   · refine Ent.can [] _ _ _ rfl (by first | decide | simp) rfl ?_ ?_ ?_
     · exact RF.any
     · exact .cons (.eq (by first | rfl | simp only [go_sem]) (by first | rfl | simp [upd_ap, hpL_ap, tau, mapT, mapTL, bytesI_len, lenhx27])) (.nil _)
     · exact .nil _
   obtain rfl := Option.some.inj h
   exact ⟨rfl, rfl, _, rfl, by first | rfl | simp [resOf, upd_ap, bytesI_len]⟩
end Au
end Go.Proofs.Y5

set_option linter.all false
set_option maxRecDepth 8000
set_option maxHeartbeats 1000000
namespace Go.Proofs.Y5
open Go.Gm
namespace Au
noncomputable def f30_31 (a0 : List Item) : Option (List Item) := ((f37_31 a0 ((a0.length : Nat) : Int)).bind fun x1 => ((guardO (x1.length = a0.length)).bind fun x2 => some x1))
theorem ok30_31 (a0 : List Item) (r : (List Item)) (h : f30_31 a0 = some r) : IC Try.prog 30 [some (.row 3 true (List.map encItem a0))] [.own 0 0 a0.length, .clo (.func 31) [] []] (.tup []) [some (.row 3 true (List.map encItem r))] [] := by
 rw [f30_31] at h
 refine ic_ofJ (N := 9) (rs := []) Try.func30 rfl rfl rfl (Nat.le_of_ble_eq_true rfl) ?_
 obtain ⟨x1, hx1, h⟩ := Option.bind_eq_some_iff.1 h
 obtain ⟨x2, hx2, h⟩ := Option.bind_eq_some_iff.1 h
 have lenhx1 : x1.length = a0.length := guardO_some.1 hx2
 refine AW.regionL [] ?_
 generalize hK : finJ Try.prog _ _ _ _ _ Exit.normal = K
 simp only [go_sem, ↓reduceIte, reduceCtorEq, Nat.reduceAdd, Nat.reduceSub, Nat.reduceMul, Nat.reduceEqDiff, Nat.reduceLT, Nat.reduceLeDiff, lenhx1]
 refine arC.ok (CallOk.ic (us' := _) (ok37_31 a0 ((a0.length : Nat) : Int) x1 hx1) [0] rfl (by decide) (by simp) (by simp) (by simp) (by simp) (.cons (.eq (by simp only [go_sem]) (by first | rfl | simp [upd_ap, hpL_ap, sg_ap])) (.nil _)) (by simp only [mapTL_cons, mapTL_nil, mapT_ptr, mapT_own, mapT_val, mapT_sl, mapT_agg, mapT_ip, mapT_clo, sg_ap, List.getD_cons_zero, List.getD_cons_succ]; exact (.cons (.of (by first | rfl | simp [mapT_own, sg_ap])) (.cons (.of rfl) (.cons (.of rfl) .nil)))) (by simp only [go_sem, List.length_cons, List.length_nil, Nat.reduceAdd, Nat.reduceLT, decide_true]) (by simp [AObj.isMut]) (by simp [go_sem]) (by simp [go_sem])) Try.call37 ?_
 simp only [go_sem, ↓reduceIte, reduceCtorEq, Nat.reduceAdd, Nat.reduceSub, Nat.reduceMul, Nat.reduceEqDiff, Nat.reduceLT, Nat.reduceLeDiff, lenhx1]
 subst hK
 refine ⟨⟨anyF, hpL [some (.row 3 true (List.map encItem x1))] [], 8⟩, ?_, ?_⟩
 · refine Ent.can [] _ _ _ rfl (by first | decide | simp) rfl ?_ ?_ ?_
   · exact RF.any
   · exact .cons (.eq (by first | rfl | simp only [go_sem]) (by first | rfl | simp [upd_ap, hpL_ap, tau, mapT, mapTL, bytesI_len, lenhx1])) (.nil _)
   · exact .nil _
 obtain rfl := Option.some.inj h
 exact ⟨rfl, rfl, _, rfl, by first | rfl | simp [resOf, upd_ap, bytesI_len]⟩
end Au
end Go.Proofs.Y5
