import Derived.Test.YtlonihmeikmpiaaDoorGfDN
import Derived.Test.YtlonihmeikmpiaaDoorGfW1
set_option linter.all false
set_option linter.unusedVariables false
set_option linter.unusedSimpArgs false
set_option linter.all false
set_option maxRecDepth 8000
set_option maxHeartbeats 1000000
namespace Go.Proofs.Yd
open Go.Gm
namespace Au
noncomputable def f35_s1 (a0 : ByteArray) : ByteArray × Int → Option ((ByteArray × Int) ⊕ ByteArray)
  | (s1_0, s1_1) => (if s1_1 < (a0.size : Int) then ((ix (bl a0) s1_1).bind fun x77 => (if (IntKind.i64.wrap (x77.toNat : Int)) < 32 then ((catO s1_0 ⟨#[92, 120]⟩).bind fun x91 => ((cutSO? ⟨#[48, 49, 50, 51, 52, 53, 54, 55, 56, 57, 97, 98, 99, 100, 101, 102]⟩ (IntKind.i64.wrap ((IntKind.i64.wrap (x77.toNat : Int)).tdiv 16)) (IntKind.i64.wrap ((IntKind.i64.wrap ((IntKind.i64.wrap (x77.toNat : Int)).tdiv 16)) + 1))).bind fun x92 => ((catO x91 x92).bind fun x93 => ((cutSO? ⟨#[48, 49, 50, 51, 52, 53, 54, 55, 56, 57, 97, 98, 99, 100, 101, 102]⟩ ((IntKind.i64.wrap (x77.toNat : Int)).tmod 16) (IntKind.i64.wrap (((IntKind.i64.wrap (x77.toNat : Int)).tmod 16) + 1))).bind fun x94 => ((catO x93 x94).bind fun x95 => some (.inl (x95, IntKind.i64.wrap (s1_1 + 1)))))))) else (if 126 < (IntKind.i64.wrap (x77.toNat : Int)) then ((catO s1_0 ⟨#[92, 120]⟩).bind fun x97 => ((cutSO? ⟨#[48, 49, 50, 51, 52, 53, 54, 55, 56, 57, 97, 98, 99, 100, 101, 102]⟩ (IntKind.i64.wrap ((IntKind.i64.wrap (x77.toNat : Int)).tdiv 16)) (IntKind.i64.wrap ((IntKind.i64.wrap ((IntKind.i64.wrap (x77.toNat : Int)).tdiv 16)) + 1))).bind fun x98 => ((catO x97 x98).bind fun x99 => ((cutSO? ⟨#[48, 49, 50, 51, 52, 53, 54, 55, 56, 57, 97, 98, 99, 100, 101, 102]⟩ ((IntKind.i64.wrap (x77.toNat : Int)).tmod 16) (IntKind.i64.wrap (((IntKind.i64.wrap (x77.toNat : Int)).tmod 16) + 1))).bind fun x100 => ((catO x99 x100).bind fun x101 => some (.inl (x101, IntKind.i64.wrap (s1_1 + 1)))))))) else (if (IntKind.i64.wrap (x77.toNat : Int)) = 34 then ((catO s1_0 ⟨#[92]⟩).bind fun x103 => ((cutSO? a0 s1_1 (IntKind.i64.wrap (s1_1 + 1))).bind fun x104 => ((catO x103 x104).bind fun x105 => some (.inl (x105, IntKind.i64.wrap (s1_1 + 1)))))) else (if (IntKind.i64.wrap (x77.toNat : Int)) = 92 then ((catO s1_0 ⟨#[92]⟩).bind fun x107 => ((cutSO? a0 s1_1 (IntKind.i64.wrap (s1_1 + 1))).bind fun x108 => ((catO x107 x108).bind fun x109 => some (.inl (x109, IntKind.i64.wrap (s1_1 + 1)))))) else ((cutSO? a0 s1_1 (IntKind.i64.wrap (s1_1 + 1))).bind fun x110 => ((catO s1_0 x110).bind fun x111 => some (.inl (x111, IntKind.i64.wrap (s1_1 + 1)))))))))) else some (.inr s1_0))
noncomputable def f35 (a0 : ByteArray) : Option ByteArray := ((loopO (f35_s1 a0) (⟨#[34]⟩, 0)).bind fun y113 => ((catO y113 ⟨#[34]⟩).bind fun x114 => some x114))
theorem ok35 (a0 : ByteArray) (r : ByteArray) (h : f35 a0 = some r) : PC Tryd.prog 35 [.val (.string a0)] (.val (.string r)) := by
 rw [f35] at h
 refine pc_of8 (N := 55) (rs := [.tmp 2]) Tryd.func35 rfl rfl rfl (Nat.le_of_ble_eq_true rfl) ?_
 refine AW.regL [0] ?_
 generalize hK : AW Tryd.prog _ _ _ = K
 simp only [go_sem, ↓reduceIte, reduceCtorEq, Nat.reduceAdd, Nat.reduceSub, Nat.reduceMul, Nat.reduceEqDiff, Nat.reduceLT, Nat.reduceLeDiff, Nat.reduceBEq, Int.reduceAdd, Int.reduceSub, Int.reduceLT, Int.reduceLE, Int.reduceEq, Int.reduceToNat]
 subst hK
 refine AW.regL [0, 3] ?_
 generalize hK : AW Tryd.prog _ _ _ = K
 simp only [go_sem, ↓reduceIte, reduceCtorEq, Nat.reduceAdd, Nat.reduceSub, Nat.reduceMul, Nat.reduceEqDiff, Nat.reduceLT, Nat.reduceLeDiff, Nat.reduceBEq, Int.reduceAdd, Int.reduceSub, Int.reduceLT, Int.reduceLE, Int.reduceEq, Int.reduceToNat]
 subst hK
 refine AW.seq ?_
 refine AW.regL [0, 3, 4] ?_
 generalize hK : AW Tryd.prog _ _ _ = K
 simp only [go_sem, ↓reduceIte, reduceCtorEq, Nat.reduceAdd, Nat.reduceSub, Nat.reduceMul, Nat.reduceEqDiff, Nat.reduceLT, Nat.reduceLeDiff, Nat.reduceBEq, Int.reduceAdd, Int.reduceSub, Int.reduceLT, Int.reduceLE, Int.reduceEq, Int.reduceToNat]
 subst hK
 refine AW.block ?_
 obtain ⟨y113, hy113, h⟩ := Option.bind_eq_some_iff.1 h
 refine AW.loopO (fun s => ⟨(upd (upd (upd anyF 0 (.val (.string a0))) 3 (.val (.string s.1))) 4 (.val (.int .i64 s.2))), hpL [] [], 8⟩) (fun z e st' => e = Exit.exit 0 ∧ st' = ⟨(upd anyF 3 (.val (.string z))), hpL [] [], 8⟩) hy113 ?_ ?_ ?_
 ·refine Ent.can [] _ _ _ rfl (by first | decide | simp) rfl ?_ ?_ ?_
  · exact (((RF.any.pv (by first | rfl | simp only [go_sem]) (by first | rfl | simp [upd_ap, hpL_ap, tau, mapT, mapTL, bytesI_len])).pv (by first | rfl | simp only [go_sem]) (by first | rfl | simp [upd_ap, hpL_ap, tau, mapT, mapTL, bytesI_len])).pv (by first | rfl | simp only [go_sem]) (by first | rfl | simp [upd_ap, hpL_ap, tau, mapT, mapTL, bytesI_len]))
  · exact .nil _
  · exact .nil _
 ·clear h hy113
  rintro ⟨s1_0, s1_1⟩ x h
  rw [f35_s1] at h
  refine AW.seq ?_
  refine AW.regL [0, 3, 4, 9] ?_
  generalize hK : AW Tryd.prog _ _ _ = K
  simp only [go_sem, ↓reduceIte, reduceCtorEq, Nat.reduceAdd, Nat.reduceSub, Nat.reduceMul, Nat.reduceEqDiff, Nat.reduceLT, Nat.reduceLeDiff, Nat.reduceBEq, Int.reduceAdd, Int.reduceSub, Int.reduceLT, Int.reduceLE, Int.reduceEq, Int.reduceToNat]
  subst hK
  by_cases c76 : s1_1 < (a0.size : Int)
  ·rw [if_pos c76] at h
   refine AW.ifT rfl c76 ?_
   refine AW.skip ?_
   refine thenA_n ?_
   refine AW.seq ?_
   refine AW.block ?_
   obtain ⟨x77, hx77, h⟩ := Option.bind_eq_some_iff.1 h
   obtain ⟨hx77a, hx77b⟩ := ix_some.1 hx77
   refine AW.regL [0, 3, 4, 5] ?_
   generalize hK : AW Tryd.prog _ _ _ = K
   simp only [go_sem, ↓reduceIte, reduceCtorEq, Nat.reduceAdd, Nat.reduceSub, Nat.reduceMul, Nat.reduceEqDiff, Nat.reduceLT, Nat.reduceLeDiff, Nat.reduceBEq, Int.reduceAdd, Int.reduceSub, Int.reduceLT, Int.reduceLE, Int.reduceEq, Int.reduceToNat, eq_true c76, idxO_some st9 hx77a hx77b]
   subst hK
   refine AW.seq ?_
   by_cases c90 : (IntKind.i64.wrap (x77.toNat : Int)) < 32
   ·rw [if_pos c90] at h
    refine AW.regL [0, 3, 4, 5, 21] ?_
    generalize hK : AW Tryd.prog _ _ _ = K
    simp only [go_sem, ↓reduceIte, reduceCtorEq, Nat.reduceAdd, Nat.reduceSub, Nat.reduceMul, Nat.reduceEqDiff, Nat.reduceLT, Nat.reduceLeDiff, Nat.reduceBEq, Int.reduceAdd, Int.reduceSub, Int.reduceLT, Int.reduceLE, Int.reduceEq, Int.reduceToNat, eq_true c76, eq_true c90]
    subst hK
    refine AW.ifBT rfl rfl ?_
    obtain ⟨x91, hx91, h⟩ := Option.bind_eq_some_iff.1 h
    obtain ⟨x92, hx92, h⟩ := Option.bind_eq_some_iff.1 h
    obtain ⟨x93, hx93, h⟩ := Option.bind_eq_some_iff.1 h
    obtain ⟨x94, hx94, h⟩ := Option.bind_eq_some_iff.1 h
    obtain ⟨x95, hx95, h⟩ := Option.bind_eq_some_iff.1 h
    refine AW.regdL [0, 3, 4] [[], [0], [], [2], [], [4], [4, 5], [2, 3, 4, 5, 6], [0, 1, 2, 3, 4, 5, 6, 7], [], [9], [], [11], [11, 12], [9, 10, 11, 12, 13], [0, 1, 2, 3, 4, 5, 6, 7, 8, 9, 10, 11, 12, 13, 14], [0, 1, 2, 3, 4, 5, 6, 7, 8, 9, 10, 11, 12, 13, 14, 15]] [0, 1, 2, 3, 4, 5, 6, 7, 8, 9, 10, 11, 12, 13, 14, 15, 16] noFt (fun _ _ _ h => by simp [noFt] at h) draws (by kernel_rfl) (by kernel_rfl) ?_
    generalize hK : AW Tryd.prog _ _ _ = K
    simp only [go_sem, ↓reduceIte, reduceCtorEq, Nat.reduceAdd, Nat.reduceSub, Nat.reduceMul, Nat.reduceEqDiff, Nat.reduceLT, Nat.reduceLeDiff, Nat.reduceBEq, Int.reduceAdd, Int.reduceSub, Int.reduceLT, Int.reduceLE, Int.reduceEq, Int.reduceToNat, eq_true c76, eq_true c90, binV_cat hx91, strCut_ss st9 hx92, binV_cat hx93, strCut_ss st9 hx94, binV_cat hx95]
    subst hK
    refine AW.exit ?_
    refine thenA_x ?_
    refine block_x ?_
    refine thenA_n ?_
    refine AW.regionL [0, 3, 4] ?_
    generalize hK : thenA _ _ Exit.normal = K
    simp only [go_sem, ↓reduceIte, reduceCtorEq, Nat.reduceAdd, Nat.reduceSub, Nat.reduceMul, Nat.reduceEqDiff, Nat.reduceLT, Nat.reduceLeDiff, Nat.reduceBEq, Int.reduceAdd, Int.reduceSub, Int.reduceLT, Int.reduceLE, Int.reduceEq, Int.reduceToNat, eq_true c76, eq_true c90]
    subst hK
    refine thenA_n ?_
    refine ⟨_, (Option.some.inj h).symm, ?_⟩
    refine Ent.can [] _ _ _ rfl (by first | decide | simp) rfl ?_ ?_ ?_
    · exact (((RF.any.pv (by first | rfl | simp only [go_sem]) (by first | rfl | simp [upd_ap, hpL_ap, tau, mapT, mapTL, bytesI_len, eq_true c76, eq_true c90])).pv (by first | rfl | simp only [go_sem]) (by first | rfl | simp [upd_ap, hpL_ap, tau, mapT, mapTL, bytesI_len, eq_true c76, eq_true c90])).pv (by first | rfl | simp only [go_sem]) (by first | rfl | simp [upd_ap, hpL_ap, tau, mapT, mapTL, bytesI_len, eq_true c76, eq_true c90]))
    · exact .nil _
    · exact .nil _
   ·rw [if_neg c90] at h
    refine AW.regL [0, 3, 4, 5, 21] ?_
    generalize hK : AW Tryd.prog _ _ _ = K
    simp only [go_sem, ↓reduceIte, reduceCtorEq, Nat.reduceAdd, Nat.reduceSub, Nat.reduceMul, Nat.reduceEqDiff, Nat.reduceLT, Nat.reduceLeDiff, Nat.reduceBEq, Int.reduceAdd, Int.reduceSub, Int.reduceLT, Int.reduceLE, Int.reduceEq, Int.reduceToNat, eq_true c76, eq_false c90]
    subst hK
    by_cases c96 : 126 < (IntKind.i64.wrap (x77.toNat : Int))
    ·rw [if_pos c96] at h
     refine AW.ifT rfl c96 ?_
     obtain ⟨x97, hx97, h⟩ := Option.bind_eq_some_iff.1 h
     obtain ⟨x98, hx98, h⟩ := Option.bind_eq_some_iff.1 h
     obtain ⟨x99, hx99, h⟩ := Option.bind_eq_some_iff.1 h
     obtain ⟨x100, hx100, h⟩ := Option.bind_eq_some_iff.1 h
     obtain ⟨x101, hx101, h⟩ := Option.bind_eq_some_iff.1 h
     refine AW.regdL [0, 3, 4] [[], [0], [], [2], [], [4], [4, 5], [2, 3, 4, 5, 6], [0, 1, 2, 3, 4, 5, 6, 7], [], [9], [], [11], [11, 12], [9, 10, 11, 12, 13], [0, 1, 2, 3, 4, 5, 6, 7, 8, 9, 10, 11, 12, 13, 14], [0, 1, 2, 3, 4, 5, 6, 7, 8, 9, 10, 11, 12, 13, 14, 15]] [0, 1, 2, 3, 4, 5, 6, 7, 8, 9, 10, 11, 12, 13, 14, 15, 16] noFt (fun _ _ _ h => by simp [noFt] at h) draws (by kernel_rfl) (by kernel_rfl) ?_
     generalize hK : AW Tryd.prog _ _ _ = K
     simp only [go_sem, ↓reduceIte, reduceCtorEq, Nat.reduceAdd, Nat.reduceSub, Nat.reduceMul, Nat.reduceEqDiff, Nat.reduceLT, Nat.reduceLeDiff, Nat.reduceBEq, Int.reduceAdd, Int.reduceSub, Int.reduceLT, Int.reduceLE, Int.reduceEq, Int.reduceToNat, eq_true c76, eq_false c90, eq_true c96, binV_cat hx97, strCut_ss st9 hx98, binV_cat hx99, strCut_ss st9 hx100, binV_cat hx101]
     subst hK
     refine AW.exit ?_
     refine thenA_x ?_
     refine block_x ?_
     refine thenA_n ?_
     refine AW.regionL [0, 3, 4] ?_
     generalize hK : thenA _ _ Exit.normal = K
     simp only [go_sem, ↓reduceIte, reduceCtorEq, Nat.reduceAdd, Nat.reduceSub, Nat.reduceMul, Nat.reduceEqDiff, Nat.reduceLT, Nat.reduceLeDiff, Nat.reduceBEq, Int.reduceAdd, Int.reduceSub, Int.reduceLT, Int.reduceLE, Int.reduceEq, Int.reduceToNat, eq_true c76, eq_false c90, eq_true c96]
     subst hK
     refine thenA_n ?_
     refine ⟨_, (Option.some.inj h).symm, ?_⟩
     refine Ent.can [] _ _ _ rfl (by first | decide | simp) rfl ?_ ?_ ?_
     · exact (((RF.any.pv (by first | rfl | simp only [go_sem]) (by first | rfl | simp [upd_ap, hpL_ap, tau, mapT, mapTL, bytesI_len, eq_true c76, eq_false c90, eq_true c96])).pv (by first | rfl | simp only [go_sem]) (by first | rfl | simp [upd_ap, hpL_ap, tau, mapT, mapTL, bytesI_len, eq_true c76, eq_false c90, eq_true c96])).pv (by first | rfl | simp only [go_sem]) (by first | rfl | simp [upd_ap, hpL_ap, tau, mapT, mapTL, bytesI_len, eq_true c76, eq_false c90, eq_true c96]))
     · exact .nil _
     · exact .nil _
    ·rw [if_neg c96] at h
     refine AW.ifF rfl c96 ?_
     refine AW.skip ?_
     refine thenA_n ?_
     refine AW.seq ?_
     by_cases c102 : (IntKind.i64.wrap (x77.toNat : Int)) = 34
     ·rw [if_pos c102] at h
      refine AW.regL [0, 3, 4, 43] ?_
      generalize hK : AW Tryd.prog _ _ _ = K
      simp only [go_sem, ↓reduceIte, reduceCtorEq, Nat.reduceAdd, Nat.reduceSub, Nat.reduceMul, Nat.reduceEqDiff, Nat.reduceLT, Nat.reduceLeDiff, Nat.reduceBEq, Int.reduceAdd, Int.reduceSub, Int.reduceLT, Int.reduceLE, Int.reduceEq, Int.reduceToNat, eq_true c76, eq_false c90, eq_false c96, eq_true c102]
      subst hK
      refine AW.ifBT rfl rfl ?_
      obtain ⟨x103, hx103, h⟩ := Option.bind_eq_some_iff.1 h
      refine AW.regionL [0, 3, 4] ?_
      generalize hK : thenA _ _ Exit.normal = K
      simp only [go_sem, ↓reduceIte, reduceCtorEq, Nat.reduceAdd, Nat.reduceSub, Nat.reduceMul, Nat.reduceEqDiff, Nat.reduceLT, Nat.reduceLeDiff, Nat.reduceBEq, Int.reduceAdd, Int.reduceSub, Int.reduceLT, Int.reduceLE, Int.reduceEq, Int.reduceToNat, eq_true c76, eq_false c90, eq_false c96, eq_true c102, binV_cat hx103]
      subst hK
      refine thenA_n ?_
      obtain ⟨x104, hx104, h⟩ := Option.bind_eq_some_iff.1 h
      obtain ⟨x105, hx105, h⟩ := Option.bind_eq_some_iff.1 h
      refine AW.regionL [0, 3, 4] ?_
      generalize hK : inBlockA _ _ Exit.normal = K
      simp only [go_sem, ↓reduceIte, reduceCtorEq, Nat.reduceAdd, Nat.reduceSub, Nat.reduceMul, Nat.reduceEqDiff, Nat.reduceLT, Nat.reduceLeDiff, Nat.reduceBEq, Int.reduceAdd, Int.reduceSub, Int.reduceLT, Int.reduceLE, Int.reduceEq, Int.reduceToNat, eq_true c76, eq_false c90, eq_false c96, eq_true c102, strCut_ss st9 hx104, binV_cat hx105]
      subst hK
      refine block_n ?_
      refine thenA_n ?_
      refine AW.regionL [0, 3, 4] ?_
      generalize hK : thenA _ _ Exit.normal = K
      simp only [go_sem, ↓reduceIte, reduceCtorEq, Nat.reduceAdd, Nat.reduceSub, Nat.reduceMul, Nat.reduceEqDiff, Nat.reduceLT, Nat.reduceLeDiff, Nat.reduceBEq, Int.reduceAdd, Int.reduceSub, Int.reduceLT, Int.reduceLE, Int.reduceEq, Int.reduceToNat, eq_true c76, eq_false c90, eq_false c96, eq_true c102]
      subst hK
      refine thenA_n ?_
      refine ⟨_, (Option.some.inj h).symm, ?_⟩
      refine Ent.can [] _ _ _ rfl (by first | decide | simp) rfl ?_ ?_ ?_
      · exact (((RF.any.pv (by first | rfl | simp only [go_sem]) (by first | rfl | simp [upd_ap, hpL_ap, tau, mapT, mapTL, bytesI_len, eq_true c76, eq_false c90, eq_false c96, eq_true c102])).pv (by first | rfl | simp only [go_sem]) (by first | rfl | simp [upd_ap, hpL_ap, tau, mapT, mapTL, bytesI_len, eq_true c76, eq_false c90, eq_false c96, eq_true c102])).pv (by first | rfl | simp only [go_sem]) (by first | rfl | simp [upd_ap, hpL_ap, tau, mapT, mapTL, bytesI_len, eq_true c76, eq_false c90, eq_false c96, eq_true c102]))
      · exact .nil _
      · exact .nil _
     ·rw [if_neg c102] at h
      refine AW.regL [0, 3, 4, 43] ?_
      generalize hK : AW Tryd.prog _ _ _ = K
      simp only [go_sem, ↓reduceIte, reduceCtorEq, Nat.reduceAdd, Nat.reduceSub, Nat.reduceMul, Nat.reduceEqDiff, Nat.reduceLT, Nat.reduceLeDiff, Nat.reduceBEq, Int.reduceAdd, Int.reduceSub, Int.reduceLT, Int.reduceLE, Int.reduceEq, Int.reduceToNat, eq_true c76, eq_false c90, eq_false c96, eq_false c102]
      subst hK
      by_cases c106 : (IntKind.i64.wrap (x77.toNat : Int)) = 92
      ·rw [if_pos c106] at h
       refine AW.ifT rfl c106 ?_
       obtain ⟨x107, hx107, h⟩ := Option.bind_eq_some_iff.1 h
       refine AW.regionL [0, 3, 4] ?_
       generalize hK : thenA _ _ Exit.normal = K
       simp only [go_sem, ↓reduceIte, reduceCtorEq, Nat.reduceAdd, Nat.reduceSub, Nat.reduceMul, Nat.reduceEqDiff, Nat.reduceLT, Nat.reduceLeDiff, Nat.reduceBEq, Int.reduceAdd, Int.reduceSub, Int.reduceLT, Int.reduceLE, Int.reduceEq, Int.reduceToNat, eq_true c76, eq_false c90, eq_false c96, eq_false c102, eq_true c106, binV_cat hx107]
       subst hK
       refine thenA_n ?_
       obtain ⟨x108, hx108, h⟩ := Option.bind_eq_some_iff.1 h
       obtain ⟨x109, hx109, h⟩ := Option.bind_eq_some_iff.1 h
       refine AW.regionL [0, 3, 4] ?_
       generalize hK : inBlockA _ _ Exit.normal = K
       simp only [go_sem, ↓reduceIte, reduceCtorEq, Nat.reduceAdd, Nat.reduceSub, Nat.reduceMul, Nat.reduceEqDiff, Nat.reduceLT, Nat.reduceLeDiff, Nat.reduceBEq, Int.reduceAdd, Int.reduceSub, Int.reduceLT, Int.reduceLE, Int.reduceEq, Int.reduceToNat, eq_true c76, eq_false c90, eq_false c96, eq_false c102, eq_true c106, strCut_ss st9 hx108, binV_cat hx109]
       subst hK
       refine block_n ?_
       refine thenA_n ?_
       refine AW.regionL [0, 3, 4] ?_
       generalize hK : thenA _ _ Exit.normal = K
       simp only [go_sem, ↓reduceIte, reduceCtorEq, Nat.reduceAdd, Nat.reduceSub, Nat.reduceMul, Nat.reduceEqDiff, Nat.reduceLT, Nat.reduceLeDiff, Nat.reduceBEq, Int.reduceAdd, Int.reduceSub, Int.reduceLT, Int.reduceLE, Int.reduceEq, Int.reduceToNat, eq_true c76, eq_false c90, eq_false c96, eq_false c102, eq_true c106]
       subst hK
       refine thenA_n ?_
       refine ⟨_, (Option.some.inj h).symm, ?_⟩
       refine Ent.can [] _ _ _ rfl (by first | decide | simp) rfl ?_ ?_ ?_
       · exact (((RF.any.pv (by first | rfl | simp only [go_sem]) (by first | rfl | simp [upd_ap, hpL_ap, tau, mapT, mapTL, bytesI_len, eq_true c76, eq_false c90, eq_false c96, eq_false c102, eq_true c106])).pv (by first | rfl | simp only [go_sem]) (by first | rfl | simp [upd_ap, hpL_ap, tau, mapT, mapTL, bytesI_len, eq_true c76, eq_false c90, eq_false c96, eq_false c102, eq_true c106])).pv (by first | rfl | simp only [go_sem]) (by first | rfl | simp [upd_ap, hpL_ap, tau, mapT, mapTL, bytesI_len, eq_true c76, eq_false c90, eq_false c96, eq_false c102, eq_true c106]))
       · exact .nil _
       · exact .nil _
      ·rw [if_neg c106] at h
       refine AW.ifF rfl c106 ?_
       refine AW.skip ?_
       refine thenA_n ?_
       obtain ⟨x110, hx110, h⟩ := Option.bind_eq_some_iff.1 h
       obtain ⟨x111, hx111, h⟩ := Option.bind_eq_some_iff.1 h
       refine AW.regionL [0, 3, 4] ?_
       generalize hK : inBlockA _ _ Exit.normal = K
       simp only [go_sem, ↓reduceIte, reduceCtorEq, Nat.reduceAdd, Nat.reduceSub, Nat.reduceMul, Nat.reduceEqDiff, Nat.reduceLT, Nat.reduceLeDiff, Nat.reduceBEq, Int.reduceAdd, Int.reduceSub, Int.reduceLT, Int.reduceLE, Int.reduceEq, Int.reduceToNat, eq_true c76, eq_false c90, eq_false c96, eq_false c102, eq_false c106, strCut_ss st9 hx110, binV_cat hx111]
       subst hK
       refine block_n ?_
       refine thenA_n ?_
       refine AW.regionL [0, 3, 4] ?_
       generalize hK : thenA _ _ Exit.normal = K
       simp only [go_sem, ↓reduceIte, reduceCtorEq, Nat.reduceAdd, Nat.reduceSub, Nat.reduceMul, Nat.reduceEqDiff, Nat.reduceLT, Nat.reduceLeDiff, Nat.reduceBEq, Int.reduceAdd, Int.reduceSub, Int.reduceLT, Int.reduceLE, Int.reduceEq, Int.reduceToNat, eq_true c76, eq_false c90, eq_false c96, eq_false c102, eq_false c106]
       subst hK
       refine thenA_n ?_
       refine ⟨_, (Option.some.inj h).symm, ?_⟩
       refine Ent.can [] _ _ _ rfl (by first | decide | simp) rfl ?_ ?_ ?_
       · exact (((RF.any.pv (by first | rfl | simp only [go_sem]) (by first | rfl | simp [upd_ap, hpL_ap, tau, mapT, mapTL, bytesI_len, eq_true c76, eq_false c90, eq_false c96, eq_false c102, eq_false c106])).pv (by first | rfl | simp only [go_sem]) (by first | rfl | simp [upd_ap, hpL_ap, tau, mapT, mapTL, bytesI_len, eq_true c76, eq_false c90, eq_false c96, eq_false c102, eq_false c106])).pv (by first | rfl | simp only [go_sem]) (by first | rfl | simp [upd_ap, hpL_ap, tau, mapT, mapTL, bytesI_len, eq_true c76, eq_false c90, eq_false c96, eq_false c102, eq_false c106]))
       · exact .nil _
       · exact .nil _
  ·rw [if_neg c76] at h
   refine AW.ifF rfl c76 ?_
   refine AW.exit ?_
   refine thenA_x ?_
   refine thenA_x ?_
   refine ⟨_, (Option.some.inj h).symm, _, ?_, rfl, rfl⟩
   refine Ent.can [] _ _ _ rfl (by first | decide | simp) rfl ?_ ?_ ?_
   · exact (RF.any.pv (by first | rfl | simp only [go_sem]) (by first | rfl | simp [upd_ap, hpL_ap, tau, mapT, mapTL, bytesI_len, eq_false c76]))
   · exact .nil _
   · exact .nil _
 ·intro e st' hX
  try dsimp only at h
  try dsimp only at hX
  obtain ⟨rfl, rfl⟩ := hX
  refine ⟨_, Ent.refl, ?_⟩
  refine block_x ?_
  refine thenA_n ?_
  obtain ⟨x114, hx114, h⟩ := Option.bind_eq_some_iff.1 h
  refine AW.regL [2] ?_
  generalize hK : AW Tryd.prog _ _ _ = K
  simp only [go_sem, ↓reduceIte, reduceCtorEq, Nat.reduceAdd, Nat.reduceSub, Nat.reduceMul, Nat.reduceEqDiff, Nat.reduceLT, Nat.reduceLeDiff, Nat.reduceBEq, Int.reduceAdd, Int.reduceSub, Int.reduceLT, Int.reduceLE, Int.reduceEq, Int.reduceToNat, binV_cat hx114]
  subst hK
  refine AW.ret ?_
  obtain rfl := Option.some.inj h
  (simp only [go_sem, ↓reduceIte, reduceCtorEq, Nat.reduceAdd, Nat.reduceSub, Nat.reduceMul, Nat.reduceEqDiff, Nat.reduceLT, Nat.reduceLeDiff, Nat.reduceBEq, Int.reduceAdd, Int.reduceSub, Int.reduceLT, Int.reduceLE, Int.reduceEq, Int.reduceToNat, finA] <;> try simp)
end Au
end Go.Proofs.Yd

set_option linter.all false
set_option maxRecDepth 8000
set_option maxHeartbeats 1000000
namespace Go.Proofs.Yd
open Go.Gm
namespace Au
noncomputable def f9_s7 (a0 : List Int) (s1_1 : Int) : Int → Option (Int ⊕ Int)
  | s7_0 => (if (IntKind.i64.wrap (s1_1 + s7_0)) < (a0.length : Int) then ((ix a0 (IntKind.i64.wrap (s1_1 + s7_0))).bind fun x124 => ((ix a0 (IntKind.i64.wrap ((IntKind.i64.wrap (s1_1 + s7_0)) - 1))).bind fun x125 => ((ix a0 (IntKind.i64.wrap (s1_1 + 1))).bind fun x126 => ((ix a0 s1_1).bind fun x127 => (if (IntKind.i64.wrap (x124 - x125)) = (IntKind.i64.wrap (x126 - x127)) then some (.inl (IntKind.i64.wrap (s7_0 + 1))) else some (.inr s7_0)))))) else some (.inr s7_0))
noncomputable def f9_j3 (a0 : List Int) (s1_1 : Int) : ByteArray → Option ((ByteArray × Int) ⊕ ByteArray)
  | j3_0 => ((loopO (f9_s7 a0 s1_1) 1).bind fun y130 => (if y130 < 3 then ((ix a0 s1_1).bind fun x132 => ((f23 x132).bind fun x133 => ((catO j3_0 x133).bind fun x134 => some (.inl (x134, IntKind.i64.wrap (s1_1 + 1)))))) else ((ix a0 s1_1).bind fun x135 => ((f23 x135).bind fun x136 => ((catO j3_0 x136).bind fun x137 => ((catO x137 ⟨#[46, 46]⟩).bind fun x138 => ((ix a0 (IntKind.i64.wrap ((IntKind.i64.wrap (s1_1 + y130)) - 1))).bind fun x139 => ((f23 x139).bind fun x140 => ((catO x138 x140).bind fun x141 => ((catO x141 ⟨#[47]⟩).bind fun x142 => ((ix a0 (IntKind.i64.wrap (s1_1 + 1))).bind fun x143 => ((f23 (IntKind.i64.wrap (x143 - x135))).bind fun x144 => ((catO x142 x144).bind fun x145 => some (.inl (x145, IntKind.i64.wrap (s1_1 + y130))))))))))))))))
noncomputable def f9_s1 (a0 : List Int) : ByteArray × Int → Option ((ByteArray × Int) ⊕ ByteArray)
  | (s1_0, s1_1) => (if s1_1 < (a0.length : Int) then (if s1_0 = ⟨#[]⟩ then f9_j3 a0 s1_1 s1_0 else ((catO s1_0 ⟨#[44]⟩).bind fun x147 => f9_j3 a0 s1_1 x147)) else some (.inr s1_0))
noncomputable def f9 (a0 : List Int) : Option ByteArray := ((loopO (f9_s1 a0) (⟨#[]⟩, 0)).bind fun y149 => some y149)
theorem ok9 (a0 : List Int) (r : ByteArray) (h : f9 a0 = some r) : PC Tryd.prog 9 [.sl (List.map enc3 a0)] (.val (.string r)) := by
 rw [f9] at h
 refine pc_of8 (N := 92) (rs := [.tmp 2]) Tryd.func9 rfl rfl rfl (Nat.le_of_ble_eq_true rfl) ?_
 refine AW.regL [0] ?_
 generalize hK : AW Tryd.prog _ _ _ = K
 simp only [go_sem, ↓reduceIte, reduceCtorEq, Nat.reduceAdd, Nat.reduceSub, Nat.reduceMul, Nat.reduceEqDiff, Nat.reduceLT, Nat.reduceLeDiff]
 subst hK
 refine AW.regL [0, 3] ?_
 generalize hK : AW Tryd.prog _ _ _ = K
 simp only [go_sem, ↓reduceIte, reduceCtorEq, Nat.reduceAdd, Nat.reduceSub, Nat.reduceMul, Nat.reduceEqDiff, Nat.reduceLT, Nat.reduceLeDiff]
 subst hK
 refine AW.regL [0, 3, 4] ?_
 generalize hK : AW Tryd.prog _ _ _ = K
 simp only [go_sem, ↓reduceIte, reduceCtorEq, Nat.reduceAdd, Nat.reduceSub, Nat.reduceMul, Nat.reduceEqDiff, Nat.reduceLT, Nat.reduceLeDiff]
 subst hK
 refine AW.seq ?_
 refine AW.block ?_
 obtain ⟨y149, hy149, h⟩ := Option.bind_eq_some_iff.1 h
 refine AW.loopO (fun s => ⟨(upd (upd (upd anyF 0 (.sl (List.map enc3 a0))) 3 (.val (.string s.1))) 4 (.val (.int .i64 s.2))), hpL [] [], 8⟩) (fun z e st' => e = Exit.exit 0 ∧ st' = ⟨(upd anyF 3 (.val (.string z))), hpL [] [], 8⟩) hy149 ?_ ?_ ?_
 ·refine Ent.can [] _ _ _ rfl (by first | decide | simp) rfl ?_ ?_ ?_
  · exact (((RF.any.pv (by first | rfl | simp only [go_sem]) (by first | rfl | simp [upd_ap, hpL_ap, tau, mapT, mapTL, bytesI_len])).pv (by first | rfl | simp only [go_sem]) (by first | rfl | simp [upd_ap, hpL_ap, tau, mapT, mapTL, bytesI_len])).pv (by first | rfl | simp only [go_sem]) (by first | rfl | simp [upd_ap, hpL_ap, tau, mapT, mapTL, bytesI_len]))
  · exact .nil _
  · exact .nil _
 ·clear h hy149
  rintro ⟨s1_0, s1_1⟩ x h
  rw [f9_s1] at h
  refine AW.seq ?_
  refine AW.regL [0, 3, 4, 9] ?_
  generalize hK : AW Tryd.prog _ _ _ = K
  simp only [go_sem, ↓reduceIte, reduceCtorEq, Nat.reduceAdd, Nat.reduceSub, Nat.reduceMul, Nat.reduceEqDiff, Nat.reduceLT, Nat.reduceLeDiff]
  subst hK
  by_cases c96 : s1_1 < (a0.length : Int)
  ·rw [if_pos c96] at h
   refine AW.ifT rfl c96 ?_
   refine AW.skip ?_
   refine thenA_n ?_
   refine AW.block ?_
   refine AW.join (fun s => ⟨(upd (upd (upd anyF 0 (.sl (List.map enc3 a0))) 3 (.val (.string s))) 4 (.val (.int .i64 s1_1))), hpL [] [], 8⟩) (fun s => f9_j3 a0 s1_1 s = some x) ?_ ?_
   ·refine AW.regL [0, 3, 4, 11] ?_
    generalize hK : AW Tryd.prog _ _ _ = K
    simp only [go_sem, ↓reduceIte, reduceCtorEq, Nat.reduceAdd, Nat.reduceSub, Nat.reduceMul, Nat.reduceEqDiff, Nat.reduceLT, Nat.reduceLeDiff, eq_true c96]
    subst hK
    by_cases c146 : s1_0 = ⟨#[]⟩
    ·rw [if_pos c146] at h
     refine AW.ifF rfl (fun q => q c146) ?_
     refine AW.skip ?_
     refine thenA_n ?_
     refine ⟨_, h, ?_⟩
     refine Ent.can [] _ _ _ rfl (by first | decide | simp) rfl ?_ ?_ ?_
     · exact (((RF.any.pv (by first | rfl | simp only [go_sem]) (by first | rfl | simp [upd_ap, hpL_ap, tau, mapT, mapTL, bytesI_len, eq_true c96, eq_true c146])).pv (by first | rfl | simp only [go_sem]) (by first | rfl | simp [upd_ap, hpL_ap, tau, mapT, mapTL, bytesI_len, eq_true c96, eq_true c146])).pv (by first | rfl | simp only [go_sem]) (by first | rfl | simp [upd_ap, hpL_ap, tau, mapT, mapTL, bytesI_len, eq_true c96, eq_true c146]))
     · exact .nil _
     · exact .nil _
    ·rw [if_neg c146] at h
     refine AW.ifT rfl c146 ?_
     obtain ⟨x147, hx147, h⟩ := Option.bind_eq_some_iff.1 h
     refine AW.regionL [0, 3, 4] ?_
     generalize hK : thenA _ _ Exit.normal = K
     simp only [go_sem, ↓reduceIte, reduceCtorEq, Nat.reduceAdd, Nat.reduceSub, Nat.reduceMul, Nat.reduceEqDiff, Nat.reduceLT, Nat.reduceLeDiff, eq_true c96, eq_false c146, binV_cat hx147]
     subst hK
     refine thenA_n ?_
     refine ⟨_, h, ?_⟩
     refine Ent.can [] _ _ _ rfl (by first | decide | simp) rfl ?_ ?_ ?_
     · exact (((RF.any.pv (by first | rfl | simp only [go_sem]) (by first | rfl | simp [upd_ap, hpL_ap, tau, mapT, mapTL, bytesI_len, eq_true c96, eq_false c146])).pv (by first | rfl | simp only [go_sem]) (by first | rfl | simp [upd_ap, hpL_ap, tau, mapT, mapTL, bytesI_len, eq_true c96, eq_false c146])).pv (by first | rfl | simp only [go_sem]) (by first | rfl | simp [upd_ap, hpL_ap, tau, mapT, mapTL, bytesI_len, eq_true c96, eq_false c146]))
     · exact .nil _
     · exact .nil _
   ·clear h
    rintro j3_0 h
    rw [f9_j3] at h
    refine AW.regL [0, 3, 4, 5] ?_
    generalize hK : AW Tryd.prog _ _ _ = K
    simp only [go_sem, ↓reduceIte, reduceCtorEq, Nat.reduceAdd, Nat.reduceSub, Nat.reduceMul, Nat.reduceEqDiff, Nat.reduceLT, Nat.reduceLeDiff, eq_true c96]
    subst hK
    refine AW.seq ?_
    refine AW.block ?_
    obtain ⟨y130, hy130, h⟩ := Option.bind_eq_some_iff.1 h
    refine AW.loopO (fun s => ⟨(upd (upd (upd (upd anyF 0 (.sl (List.map enc3 a0))) 3 (.val (.string j3_0))) 4 (.val (.int .i64 s1_1))) 5 (.val (.int .i64 s))), hpL [] [], 8⟩) (fun z e st' => e = Exit.exit 2 ∧ st' = ⟨(upd (upd (upd (upd anyF 0 (.sl (List.map enc3 a0))) 3 (.val (.string j3_0))) 4 (.val (.int .i64 s1_1))) 5 (.val (.int .i64 z))), hpL [] [], 8⟩) hy130 ?_ ?_ ?_
    ·refine Ent.can [] _ _ _ rfl (by first | decide | simp) rfl ?_ ?_ ?_
     · exact ((((RF.any.pv (by first | rfl | simp only [go_sem]) (by first | rfl | simp [upd_ap, hpL_ap, tau, mapT, mapTL, bytesI_len, eq_true c96])).pv (by first | rfl | simp only [go_sem]) (by first | rfl | simp [upd_ap, hpL_ap, tau, mapT, mapTL, bytesI_len, eq_true c96])).pv (by first | rfl | simp only [go_sem]) (by first | rfl | simp [upd_ap, hpL_ap, tau, mapT, mapTL, bytesI_len, eq_true c96])).pv (by first | rfl | simp only [go_sem]) (by first | rfl | simp [upd_ap, hpL_ap, tau, mapT, mapTL, bytesI_len, eq_true c96]))
     · exact .nil _
     · exact .nil _
    ·clear h hy130
     rintro s7_0 x h
     rw [f9_s7] at h
     refine AW.seq ?_
     by_cases c123 : (IntKind.i64.wrap (s1_1 + s7_0)) < (a0.length : Int)
     ·rw [if_pos c123] at h
      obtain ⟨x124, hx124, h⟩ := Option.bind_eq_some_iff.1 h
      obtain ⟨hx124a, hx124b⟩ := ix_some.1 hx124
      obtain ⟨x125, hx125, h⟩ := Option.bind_eq_some_iff.1 h
      obtain ⟨hx125a, hx125b⟩ := ix_some.1 hx125
      obtain ⟨x126, hx126, h⟩ := Option.bind_eq_some_iff.1 h
      obtain ⟨hx126a, hx126b⟩ := ix_some.1 hx126
      obtain ⟨x127, hx127, h⟩ := Option.bind_eq_some_iff.1 h
      obtain ⟨hx127a, hx127b⟩ := ix_some.1 hx127
      refine AW.regdL [0, 3, 4, 5, 46] [[], [], [0, 1], [], [3], [0, 1, 2, 3, 4], [0, 1, 2, 3, 4, 5], [0, 1, 2, 3, 4, 5, 6], [0, 1, 2, 3, 4, 5, 6], [0, 1, 2, 3, 4, 5, 6], [0, 1, 2, 3, 4, 5, 6, 8, 9], [0, 1, 2, 3, 4, 5, 6, 7, 8, 9, 10], [0, 1, 2, 3, 4, 5, 6, 7, 8, 9, 10, 11], [0, 1, 2, 3, 4, 5, 6], [0, 1, 2, 3, 4, 5, 6], [0, 1, 2, 3, 4, 5, 6], [0, 1, 2, 3, 4, 5, 6, 14, 15], [0, 1, 2, 3, 4, 5, 6, 14, 15, 16], [0, 1, 2, 3, 4, 5, 6, 13, 14, 15, 16, 17], [0, 1, 2, 3, 4, 5, 6, 13, 14, 15, 16, 17, 18], [0, 1, 2, 3, 4, 5, 6, 7, 8, 9, 10, 11, 12, 13, 14, 15, 16, 17, 18, 19], [0, 1, 2, 3, 4, 5, 6], [0, 1, 2, 3, 4, 5, 6], [0, 1, 2, 3, 4, 5, 6, 22], [0, 1, 2, 3, 4, 5, 6, 21, 22, 23], [0, 1, 2, 3, 4, 5, 6, 21, 22, 23, 24], [0, 1, 2, 3, 4, 5, 6], [0, 1, 2, 3, 4, 5, 6], [0, 1, 2, 3, 4, 5, 6, 26, 27], [0, 1, 2, 3, 4, 5, 6, 26, 27, 28], [0, 1, 2, 3, 4, 5, 6, 21, 22, 23, 24, 25, 26, 27, 28, 29], [0, 1, 2, 3, 4, 5, 6, 7, 8, 9, 10, 11, 12, 13, 14, 15, 16, 17, 18, 19, 20, 21, 22, 23, 24, 25, 26, 27, 28, 29, 30], [0, 1, 2, 3, 4, 5, 6, 7, 8, 9, 10, 11, 12, 13, 14, 15, 16, 17, 18, 19, 20, 21, 22, 23, 24, 25, 26, 27, 28, 29, 30, 31]] [0, 1, 2, 3, 4, 5, 6, 7, 8, 9, 10, 11, 12, 13, 14, 15, 16, 17, 18, 19, 20, 21, 22, 23, 24, 25, 26, 27, 28, 29, 30, 31, 32] noFt (fun _ _ _ h => by simp [noFt] at h) draws (by kernel_rfl) (by kernel_rfl) ?_
      generalize hK : AW Tryd.prog _ _ _ = K
      simp only [go_sem, ↓reduceIte, reduceCtorEq, Nat.reduceAdd, Nat.reduceSub, Nat.reduceMul, Nat.reduceEqDiff, Nat.reduceLT, Nat.reduceLeDiff, eq_true c96, eq_true c123, natOf_le hx124a, hx124b, natOf_le hx125a, hx125b, natOf_le hx126a, hx126b, natOf_le hx127a, hx127b]
      subst hK
      by_cases c128 : (IntKind.i64.wrap (x124 - x125)) = (IntKind.i64.wrap (x126 - x127))
      ·rw [if_pos c128] at h
       refine AW.ifT rfl c128 ?_
       refine AW.skip ?_
       refine thenA_n ?_
       refine AW.block ?_
       refine AW.regionL [0, 3, 4, 5] ?_
       generalize hK : inBlockA _ _ Exit.normal = K
       simp only [go_sem, ↓reduceIte, reduceCtorEq, Nat.reduceAdd, Nat.reduceSub, Nat.reduceMul, Nat.reduceEqDiff, Nat.reduceLT, Nat.reduceLeDiff, eq_true c96, eq_true c123, eq_true c128]
       subst hK
       refine block_n ?_
       refine thenA_n ?_
       refine ⟨_, (Option.some.inj h).symm, ?_⟩
       refine Ent.can [] _ _ _ rfl (by first | decide | simp) rfl ?_ ?_ ?_
       · exact ((((RF.any.pv (by first | rfl | simp only [go_sem]) (by first | rfl | simp [upd_ap, hpL_ap, tau, mapT, mapTL, bytesI_len, eq_true c96, eq_true c123, eq_true c128])).pv (by first | rfl | simp only [go_sem]) (by first | rfl | simp [upd_ap, hpL_ap, tau, mapT, mapTL, bytesI_len, eq_true c96, eq_true c123, eq_true c128])).pv (by first | rfl | simp only [go_sem]) (by first | rfl | simp [upd_ap, hpL_ap, tau, mapT, mapTL, bytesI_len, eq_true c96, eq_true c123, eq_true c128])).pv (by first | rfl | simp only [go_sem]) (by first | rfl | simp [upd_ap, hpL_ap, tau, mapT, mapTL, bytesI_len, eq_true c96, eq_true c123, eq_true c128]))
       · exact .nil _
       · exact .nil _
      ·rw [if_neg c128] at h
       refine AW.ifF rfl c128 ?_
       refine AW.exit ?_
       refine thenA_x ?_
       refine thenA_x ?_
       refine ⟨_, (Option.some.inj h).symm, _, ?_, rfl, rfl⟩
       refine Ent.can [] _ _ _ rfl (by first | decide | simp) rfl ?_ ?_ ?_
       · exact ((((RF.any.pv (by first | rfl | simp only [go_sem]) (by first | rfl | simp [upd_ap, hpL_ap, tau, mapT, mapTL, bytesI_len, eq_true c96, eq_true c123, eq_false c128])).pv (by first | rfl | simp only [go_sem]) (by first | rfl | simp [upd_ap, hpL_ap, tau, mapT, mapTL, bytesI_len, eq_true c96, eq_true c123, eq_false c128])).pv (by first | rfl | simp only [go_sem]) (by first | rfl | simp [upd_ap, hpL_ap, tau, mapT, mapTL, bytesI_len, eq_true c96, eq_true c123, eq_false c128])).pv (by first | rfl | simp only [go_sem]) (by first | rfl | simp [upd_ap, hpL_ap, tau, mapT, mapTL, bytesI_len, eq_true c96, eq_true c123, eq_false c128]))
       · exact .nil _
       · exact .nil _
     ·rw [if_neg c123] at h
      refine AW.regdL [0, 3, 4, 5, 46] [[], [], [0, 1], [], [3], [0, 1, 2, 3, 4], [0, 1, 2, 3, 4, 5], [0, 1, 2, 3, 4, 5, 6], [0, 1, 2, 3, 4, 5, 6], [0, 1, 2, 3, 4, 5, 6], [0, 1, 2, 3, 4, 5, 6, 8, 9], [0, 1, 2, 3, 4, 5, 6, 7, 8, 9, 10], [0, 1, 2, 3, 4, 5, 6, 7, 8, 9, 10, 11], [0, 1, 2, 3, 4, 5, 6], [0, 1, 2, 3, 4, 5, 6], [0, 1, 2, 3, 4, 5, 6], [0, 1, 2, 3, 4, 5, 6, 14, 15], [0, 1, 2, 3, 4, 5, 6, 14, 15, 16], [0, 1, 2, 3, 4, 5, 6, 13, 14, 15, 16, 17], [0, 1, 2, 3, 4, 5, 6, 13, 14, 15, 16, 17, 18], [0, 1, 2, 3, 4, 5, 6, 7, 8, 9, 10, 11, 12, 13, 14, 15, 16, 17, 18, 19], [0, 1, 2, 3, 4, 5, 6], [0, 1, 2, 3, 4, 5, 6], [0, 1, 2, 3, 4, 5, 6, 22], [0, 1, 2, 3, 4, 5, 6, 21, 22, 23], [0, 1, 2, 3, 4, 5, 6, 21, 22, 23, 24], [0, 1, 2, 3, 4, 5, 6], [0, 1, 2, 3, 4, 5, 6], [0, 1, 2, 3, 4, 5, 6, 26, 27], [0, 1, 2, 3, 4, 5, 6, 26, 27, 28], [0, 1, 2, 3, 4, 5, 6, 21, 22, 23, 24, 25, 26, 27, 28, 29], [0, 1, 2, 3, 4, 5, 6, 7, 8, 9, 10, 11, 12, 13, 14, 15, 16, 17, 18, 19, 20, 21, 22, 23, 24, 25, 26, 27, 28, 29, 30], [0, 1, 2, 3, 4, 5, 6, 7, 8, 9, 10, 11, 12, 13, 14, 15, 16, 17, 18, 19, 20, 21, 22, 23, 24, 25, 26, 27, 28, 29, 30, 31]] [0, 1, 2, 3, 4, 5, 6, 7, 8, 9, 10, 11, 12, 13, 14, 15, 16, 17, 18, 19, 20, 21, 22, 23, 24, 25, 26, 27, 28, 29, 30, 31, 32] noFt (fun _ _ _ h => by simp [noFt] at h) draws (by kernel_rfl) (by kernel_rfl) ?_
      generalize hK : AW Tryd.prog _ _ _ = K
      simp only [go_sem, ↓reduceIte, reduceCtorEq, Nat.reduceAdd, Nat.reduceSub, Nat.reduceMul, Nat.reduceEqDiff, Nat.reduceLT, Nat.reduceLeDiff, eq_true c96, eq_false c123]
      subst hK
      refine AW.ifBF rfl rfl ?_
      refine AW.exit ?_
      refine thenA_x ?_
      refine thenA_x ?_
      refine ⟨_, (Option.some.inj h).symm, _, ?_, rfl, rfl⟩
      refine Ent.can [] _ _ _ rfl (by first | decide | simp) rfl ?_ ?_ ?_
      · exact ((((RF.any.pv (by first | rfl | simp only [go_sem]) (by first | rfl | simp [upd_ap, hpL_ap, tau, mapT, mapTL, bytesI_len, eq_true c96, eq_false c123])).pv (by first | rfl | simp only [go_sem]) (by first | rfl | simp [upd_ap, hpL_ap, tau, mapT, mapTL, bytesI_len, eq_true c96, eq_false c123])).pv (by first | rfl | simp only [go_sem]) (by first | rfl | simp [upd_ap, hpL_ap, tau, mapT, mapTL, bytesI_len, eq_true c96, eq_false c123])).pv (by first | rfl | simp only [go_sem]) (by first | rfl | simp [upd_ap, hpL_ap, tau, mapT, mapTL, bytesI_len, eq_true c96, eq_false c123]))
      · exact .nil _
      · exact .nil _
    ·intro e st' hX
     try dsimp only at h
     try dsimp only at hX
     obtain ⟨rfl, rfl⟩ := hX
     refine ⟨_, Ent.refl, ?_⟩
     refine block_x ?_
     refine thenA_n ?_
     refine AW.seq ?_
     refine AW.regL [0, 3, 4, 5, 50] ?_
     generalize hK : AW Tryd.prog _ _ _ = K
     simp only [go_sem, ↓reduceIte, reduceCtorEq, Nat.reduceAdd, Nat.reduceSub, Nat.reduceMul, Nat.reduceEqDiff, Nat.reduceLT, Nat.reduceLeDiff, eq_true c96]
     subst hK
     by_cases c131 : y130 < 3
     ·rw [if_pos c131] at h
      refine AW.ifT rfl c131 ?_
      refine AW.regL [0, 3, 4, 5] ?_
      generalize hK : AW Tryd.prog _ _ _ = K
      simp only [go_sem, ↓reduceIte, reduceCtorEq, Nat.reduceAdd, Nat.reduceSub, Nat.reduceMul, Nat.reduceEqDiff, Nat.reduceLT, Nat.reduceLeDiff, eq_true c96, eq_true c131]
      subst hK
      obtain ⟨x132, hx132, h⟩ := Option.bind_eq_some_iff.1 h
      obtain ⟨hx132a, hx132b⟩ := ix_some.1 hx132
      obtain ⟨x133, hx133, h⟩ := Option.bind_eq_some_iff.1 h
      obtain ⟨x134, hx134, h⟩ := Option.bind_eq_some_iff.1 h
      refine AW.regionL [0, 3, 4, 5] ?_
      generalize hK : thenA _ _ Exit.normal = K
      simp only [go_sem, ↓reduceIte, reduceCtorEq, Nat.reduceAdd, Nat.reduceSub, Nat.reduceMul, Nat.reduceEqDiff, Nat.reduceLT, Nat.reduceLeDiff, eq_true c96, eq_true c131, natOf_le hx132a, hx132b, binV_cat hx134]
      refine arC.of (ok23 x132 x133 hx133) Tryd.call23 ?_
      simp only [go_sem, ↓reduceIte, reduceCtorEq, Nat.reduceAdd, Nat.reduceSub, Nat.reduceMul, Nat.reduceEqDiff, Nat.reduceLT, Nat.reduceLeDiff, eq_true c96, eq_true c131, natOf_le hx132a, hx132b, binV_cat hx134]
      subst hK
      refine thenA_n ?_
      refine AW.regionL [0, 3, 4] ?_
      generalize hK : inBlockA _ _ Exit.normal = K
      simp only [go_sem, ↓reduceIte, reduceCtorEq, Nat.reduceAdd, Nat.reduceSub, Nat.reduceMul, Nat.reduceEqDiff, Nat.reduceLT, Nat.reduceLeDiff, eq_true c96, eq_true c131]
      subst hK
      refine block_n ?_
      refine thenA_n ?_
      refine ⟨_, (Option.some.inj h).symm, ?_⟩
      refine Ent.can [] _ _ _ rfl (by first | decide | simp) rfl ?_ ?_ ?_
      · exact (((RF.any.pv (by first | rfl | simp only [go_sem]) (by first | rfl | simp [upd_ap, hpL_ap, tau, mapT, mapTL, bytesI_len, eq_true c96, eq_true c131])).pv (by first | rfl | simp only [go_sem]) (by first | rfl | simp [upd_ap, hpL_ap, tau, mapT, mapTL, bytesI_len, eq_true c96, eq_true c131])).pv (by first | rfl | simp only [go_sem]) (by first | rfl | simp [upd_ap, hpL_ap, tau, mapT, mapTL, bytesI_len, eq_true c96, eq_true c131]))
      · exact .nil _
      · exact .nil _
     ·rw [if_neg c131] at h
      refine AW.ifF rfl c131 ?_
      obtain ⟨x135, hx135, h⟩ := Option.bind_eq_some_iff.1 h
      obtain ⟨hx135a, hx135b⟩ := ix_some.1 hx135
      obtain ⟨x136, hx136, h⟩ := Option.bind_eq_some_iff.1 h
      obtain ⟨x137, hx137, h⟩ := Option.bind_eq_some_iff.1 h
      obtain ⟨x138, hx138, h⟩ := Option.bind_eq_some_iff.1 h
      obtain ⟨x139, hx139, h⟩ := Option.bind_eq_some_iff.1 h
      obtain ⟨hx139a, hx139b⟩ := ix_some.1 hx139
      obtain ⟨x140, hx140, h⟩ := Option.bind_eq_some_iff.1 h
      obtain ⟨x141, hx141, h⟩ := Option.bind_eq_some_iff.1 h
      obtain ⟨x142, hx142, h⟩ := Option.bind_eq_some_iff.1 h
      obtain ⟨x143, hx143, h⟩ := Option.bind_eq_some_iff.1 h
      obtain ⟨hx143a, hx143b⟩ := ix_some.1 hx143
      obtain ⟨x144, hx144, h⟩ := Option.bind_eq_some_iff.1 h
      obtain ⟨x145, hx145, h⟩ := Option.bind_eq_some_iff.1 h
      refine AW.drawL [0, 3, 4, 5] [[], [], [], [1, 2], [1, 2, 3], [1, 2, 3, 4], [0, 1, 2, 3, 4, 5], [0, 1, 2, 3, 4, 5, 6], [], [], [], [9, 10], [9, 10, 11], [8, 9, 10, 11, 12], [8, 9, 10, 11, 12, 13], [1, 2, 3, 4, 5, 8, 9, 10, 11, 12, 13, 14], [0, 1, 2, 3, 4, 5, 6, 7, 8, 9, 10, 11, 12, 13, 14, 15], [0, 1, 2, 3, 4, 5, 6, 7, 8, 9, 10, 11, 12, 13, 14, 15, 16], [], [], [19], [18, 19, 20], [18, 19, 20, 21], [], [], [23, 24], [23, 24, 25], [18, 19, 20, 21, 22, 23, 24, 25, 26], [1, 2, 3, 4, 5, 8, 9, 10, 11, 12, 13, 14, 15, 18, 19, 20, 21, 22, 23, 24, 25, 26, 27], [0, 1, 2, 3, 4, 5, 6, 7, 8, 9, 10, 11, 12, 13, 14, 15, 16, 17, 18, 19, 20, 21, 22, 23, 24, 25, 26, 27, 28], [0, 1, 2, 3, 4, 5, 6, 7, 8, 9, 10, 11, 12, 13, 14, 15, 16, 17, 18, 19, 20, 21, 22, 23, 24, 25, 26, 27, 28, 29]] [0, 1, 2, 3, 4, 5, 6, 7, 8, 9, 10, 11, 12, 13, 14, 15, 16, 17, 18, 19, 20, 21, 22, 23, 24, 25, 26, 27, 28, 29, 30] noFt (fun _ _ _ h => by simp [noFt] at h) draws (by kernel_rfl) (by kernel_rfl) ?_
      generalize hK : thenA _ _ Exit.normal = K
      simp only [go_sem, ↓reduceIte, reduceCtorEq, Nat.reduceAdd, Nat.reduceSub, Nat.reduceMul, Nat.reduceEqDiff, Nat.reduceLT, Nat.reduceLeDiff, eq_true c96, eq_false c131, natOf_le hx135a, hx135b, binV_cat hx137, binV_cat hx138, natOf_le hx139a, hx139b, binV_cat hx141, binV_cat hx142, natOf_le hx143a, hx143b, binV_cat hx145]
      refine adN.pc (ok23 x135 x136 hx136) Tryd.call23 callV_fn (by simp only [go_sem, ↓reduceIte, reduceCtorEq, Nat.reduceAdd, Nat.reduceSub, Nat.reduceMul, Nat.reduceEqDiff, Nat.reduceLT, Nat.reduceLeDiff, eq_true c96, eq_false c131, natOf_le hx135a, hx135b, binV_cat hx137, binV_cat hx138, natOf_le hx139a, hx139b, binV_cat hx141, binV_cat hx142, natOf_le hx143a, hx143b, binV_cat hx145]) (by simp only [go_sem, ↓reduceIte, reduceCtorEq, Nat.reduceAdd, Nat.reduceSub, Nat.reduceMul, Nat.reduceEqDiff, Nat.reduceLT, Nat.reduceLeDiff]) ?_
      simp only [go_sem, ↓reduceIte, reduceCtorEq, Nat.reduceAdd, Nat.reduceSub, Nat.reduceMul, Nat.reduceEqDiff, Nat.reduceLT, Nat.reduceLeDiff, eq_true c96, eq_false c131, natOf_le hx135a, hx135b, binV_cat hx137, binV_cat hx138, natOf_le hx139a, hx139b, binV_cat hx141, binV_cat hx142, natOf_le hx143a, hx143b, binV_cat hx145]
      refine adN.pc (ok23 x139 x140 hx140) Tryd.call23 callV_fn (by simp only [go_sem, ↓reduceIte, reduceCtorEq, Nat.reduceAdd, Nat.reduceSub, Nat.reduceMul, Nat.reduceEqDiff, Nat.reduceLT, Nat.reduceLeDiff, eq_true c96, eq_false c131, natOf_le hx135a, hx135b, binV_cat hx137, binV_cat hx138, natOf_le hx139a, hx139b, binV_cat hx141, binV_cat hx142, natOf_le hx143a, hx143b, binV_cat hx145]) (by simp only [go_sem, ↓reduceIte, reduceCtorEq, Nat.reduceAdd, Nat.reduceSub, Nat.reduceMul, Nat.reduceEqDiff, Nat.reduceLT, Nat.reduceLeDiff]) ?_
      simp only [go_sem, ↓reduceIte, reduceCtorEq, Nat.reduceAdd, Nat.reduceSub, Nat.reduceMul, Nat.reduceEqDiff, Nat.reduceLT, Nat.reduceLeDiff, eq_true c96, eq_false c131, natOf_le hx135a, hx135b, binV_cat hx137, binV_cat hx138, natOf_le hx139a, hx139b, binV_cat hx141, binV_cat hx142, natOf_le hx143a, hx143b, binV_cat hx145]
      refine adN.pc (ok23 (IntKind.i64.wrap (x143 - x135)) x144 hx144) Tryd.call23 callV_fn (by simp only [go_sem, ↓reduceIte, reduceCtorEq, Nat.reduceAdd, Nat.reduceSub, Nat.reduceMul, Nat.reduceEqDiff, Nat.reduceLT, Nat.reduceLeDiff, eq_true c96, eq_false c131, natOf_le hx135a, hx135b, binV_cat hx137, binV_cat hx138, natOf_le hx139a, hx139b, binV_cat hx141, binV_cat hx142, natOf_le hx143a, hx143b, binV_cat hx145]) (by simp only [go_sem, ↓reduceIte, reduceCtorEq, Nat.reduceAdd, Nat.reduceSub, Nat.reduceMul, Nat.reduceEqDiff, Nat.reduceLT, Nat.reduceLeDiff]) ?_
      simp only [go_sem, ↓reduceIte, reduceCtorEq, Nat.reduceAdd, Nat.reduceSub, Nat.reduceMul, Nat.reduceEqDiff, Nat.reduceLT, Nat.reduceLeDiff, eq_true c96, eq_false c131, natOf_le hx135a, hx135b, binV_cat hx137, binV_cat hx138, natOf_le hx139a, hx139b, binV_cat hx141, binV_cat hx142, natOf_le hx143a, hx143b, binV_cat hx145]
      subst hK
      refine thenA_n ?_
      refine AW.regionL [0, 3, 4] ?_
      generalize hK : inBlockA _ _ Exit.normal = K
      simp only [go_sem, ↓reduceIte, reduceCtorEq, Nat.reduceAdd, Nat.reduceSub, Nat.reduceMul, Nat.reduceEqDiff, Nat.reduceLT, Nat.reduceLeDiff, eq_true c96, eq_false c131]
      subst hK
      refine block_n ?_
      refine thenA_n ?_
      refine ⟨_, (Option.some.inj h).symm, ?_⟩
      refine Ent.can [] _ _ _ rfl (by first | decide | simp) rfl ?_ ?_ ?_
      · exact (((RF.any.pv (by first | rfl | simp only [go_sem]) (by first | rfl | simp [upd_ap, hpL_ap, tau, mapT, mapTL, bytesI_len, eq_true c96, eq_false c131])).pv (by first | rfl | simp only [go_sem]) (by first | rfl | simp [upd_ap, hpL_ap, tau, mapT, mapTL, bytesI_len, eq_true c96, eq_false c131])).pv (by first | rfl | simp only [go_sem]) (by first | rfl | simp [upd_ap, hpL_ap, tau, mapT, mapTL, bytesI_len, eq_true c96, eq_false c131]))
      · exact .nil _
      · exact .nil _
  ·rw [if_neg c96] at h
   refine AW.ifF rfl c96 ?_
   refine AW.exit ?_
   refine thenA_x ?_
   refine thenA_x ?_
   refine ⟨_, (Option.some.inj h).symm, _, ?_, rfl, rfl⟩
   refine Ent.can [] _ _ _ rfl (by first | decide | simp) rfl ?_ ?_ ?_
   · exact (RF.any.pv (by first | rfl | simp only [go_sem]) (by first | rfl | simp [upd_ap, hpL_ap, tau, mapT, mapTL, bytesI_len, eq_false c96]))
   · exact .nil _
   · exact .nil _
 ·intro e st' hX
  try dsimp only at h
  try dsimp only at hX
  obtain ⟨rfl, rfl⟩ := hX
  refine ⟨_, Ent.refl, ?_⟩
  refine block_x ?_
  refine thenA_n ?_
  refine AW.regL [2] ?_
  generalize hK : AW Tryd.prog _ _ _ = K
  simp only [go_sem, ↓reduceIte, reduceCtorEq, Nat.reduceAdd, Nat.reduceSub, Nat.reduceMul, Nat.reduceEqDiff, Nat.reduceLT, Nat.reduceLeDiff]
  subst hK
  refine AW.ret ?_
  obtain rfl := Option.some.inj h
  (simp only [go_sem, ↓reduceIte, reduceCtorEq, Nat.reduceAdd, Nat.reduceSub, Nat.reduceMul, Nat.reduceEqDiff, Nat.reduceLT, Nat.reduceLeDiff, finA] <;> try simp)
end Au
end Go.Proofs.Yd

set_option linter.all false
set_option maxRecDepth 8000
set_option maxHeartbeats 1000000
namespace Go.Proofs.Yd
open Go.Gm
namespace Au
noncomputable def f18 (a0 : Int) (a1 : Int) : Option ByteArray := (if a0 = 0 then some ⟨#[114, 117, 110, 110, 105, 110, 103]⟩ else (if a0 = 1 then some ⟨#[100, 111, 110, 101]⟩ else (if a0 = 2 then ((f20 a1).bind fun x4 => ((f22 [⟨#[102, 97, 105, 108, 101, 100]⟩, x4]).bind fun x5 => some x5)) else some ⟨#[63]⟩)))
theorem ok18 (a0 : Int) (a1 : Int) (r : ByteArray) (h : f18 a0 a1 = some r) : PC Tryd.prog 18 [.val (.int .i64 a0), .val (.int .i64 a1)] (.val (.string r)) := by
 rw [f18] at h
 refine pc_of8 (N := 16) (rs := [.tmp 4]) Tryd.func18 rfl rfl rfl (Nat.le_of_ble_eq_true rfl) ?_
 refine AW.regL [0, 1] ?_
 generalize hK : AW Tryd.prog _ _ _ = K
 simp only [go_sem, ↓reduceIte, reduceCtorEq, Nat.reduceAdd, Nat.reduceSub, Nat.reduceMul, Nat.reduceEqDiff, Nat.reduceLT, Nat.reduceLeDiff]
 subst hK
 refine AW.seq ?_
 refine AW.regL [1, 5] ?_
 generalize hK : AW Tryd.prog _ _ _ = K
 simp only [go_sem, ↓reduceIte, reduceCtorEq, Nat.reduceAdd, Nat.reduceSub, Nat.reduceMul, Nat.reduceEqDiff, Nat.reduceLT, Nat.reduceLeDiff]
 subst hK
 refine AW.block ?_
 refine AW.regL [1, 5, 6] ?_
 generalize hK : AW Tryd.prog _ _ _ = K
 simp only [go_sem, ↓reduceIte, reduceCtorEq, Nat.reduceAdd, Nat.reduceSub, Nat.reduceMul, Nat.reduceEqDiff, Nat.reduceLT, Nat.reduceLeDiff]
 subst hK
 by_cases c1 : a0 = 0
 ·rw [if_pos c1] at h
  refine AW.ifT rfl c1 ?_
  refine AW.regL [4] ?_
  generalize hK : AW Tryd.prog _ _ _ = K
  simp only [go_sem, ↓reduceIte, reduceCtorEq, Nat.reduceAdd, Nat.reduceSub, Nat.reduceMul, Nat.reduceEqDiff, Nat.reduceLT, Nat.reduceLeDiff, eq_true c1]
  subst hK
  refine AW.ret ?_
  refine block_r ?_
  refine thenA_r ?_
  obtain rfl := Option.some.inj h
  (simp only [go_sem, ↓reduceIte, reduceCtorEq, Nat.reduceAdd, Nat.reduceSub, Nat.reduceMul, Nat.reduceEqDiff, Nat.reduceLT, Nat.reduceLeDiff, eq_true c1, finA] <;> try simp)
 ·rw [if_neg c1] at h
  refine AW.ifF rfl c1 ?_
  refine AW.regL [1, 5, 8] ?_
  generalize hK : AW Tryd.prog _ _ _ = K
  simp only [go_sem, ↓reduceIte, reduceCtorEq, Nat.reduceAdd, Nat.reduceSub, Nat.reduceMul, Nat.reduceEqDiff, Nat.reduceLT, Nat.reduceLeDiff, eq_false c1]
  subst hK
  by_cases c2 : a0 = 1
  ·rw [if_pos c2] at h
   refine AW.ifT rfl c2 ?_
   refine AW.regL [4] ?_
   generalize hK : AW Tryd.prog _ _ _ = K
   simp only [go_sem, ↓reduceIte, reduceCtorEq, Nat.reduceAdd, Nat.reduceSub, Nat.reduceMul, Nat.reduceEqDiff, Nat.reduceLT, Nat.reduceLeDiff, eq_false c1, eq_true c2]
   subst hK
   refine AW.ret ?_
   refine block_r ?_
   refine thenA_r ?_
   obtain rfl := Option.some.inj h
   (simp only [go_sem, ↓reduceIte, reduceCtorEq, Nat.reduceAdd, Nat.reduceSub, Nat.reduceMul, Nat.reduceEqDiff, Nat.reduceLT, Nat.reduceLeDiff, eq_false c1, eq_true c2, finA] <;> try simp)
  ·rw [if_neg c2] at h
   refine AW.ifF rfl c2 ?_
   refine AW.regL [1, 10] ?_
   generalize hK : AW Tryd.prog _ _ _ = K
   simp only [go_sem, ↓reduceIte, reduceCtorEq, Nat.reduceAdd, Nat.reduceSub, Nat.reduceMul, Nat.reduceEqDiff, Nat.reduceLT, Nat.reduceLeDiff, eq_false c1, eq_false c2]
   subst hK
   by_cases c3 : a0 = 2
   ·rw [if_pos c3] at h
    refine AW.ifT rfl c3 ?_
    obtain ⟨x4, hx4, h⟩ := Option.bind_eq_some_iff.1 h
    obtain ⟨x5, hx5, h⟩ := Option.bind_eq_some_iff.1 h
    refine AW.regL [4] ?_
    generalize hK : AW Tryd.prog _ _ _ = K
    simp only [go_sem, ↓reduceIte, reduceCtorEq, Nat.reduceAdd, Nat.reduceSub, Nat.reduceMul, Nat.reduceEqDiff, Nat.reduceLT, Nat.reduceLeDiff, eq_false c1, eq_false c2, eq_true c3]
    refine arC.of (ok20 a1 x4 hx4) Tryd.call20 ?_
    simp only [go_sem, ↓reduceIte, reduceCtorEq, Nat.reduceAdd, Nat.reduceSub, Nat.reduceMul, Nat.reduceEqDiff, Nat.reduceLT, Nat.reduceLeDiff, eq_false c1, eq_false c2, eq_true c3]
    refine arC.of (ok22 [⟨#[102, 97, 105, 108, 101, 100]⟩, x4] x5 hx5) Tryd.call22 ?_
    simp only [go_sem, ↓reduceIte, reduceCtorEq, Nat.reduceAdd, Nat.reduceSub, Nat.reduceMul, Nat.reduceEqDiff, Nat.reduceLT, Nat.reduceLeDiff, eq_false c1, eq_false c2, eq_true c3]
    subst hK
    refine AW.ret ?_
    refine block_r ?_
    refine thenA_r ?_
    obtain rfl := Option.some.inj h
    (simp only [go_sem, ↓reduceIte, reduceCtorEq, Nat.reduceAdd, Nat.reduceSub, Nat.reduceMul, Nat.reduceEqDiff, Nat.reduceLT, Nat.reduceLeDiff, eq_false c1, eq_false c2, eq_true c3, finA] <;> try simp)
   ·rw [if_neg c3] at h
    refine AW.ifF rfl c3 ?_
    refine AW.skip ?_
    refine block_n ?_
    refine thenA_n ?_
    refine AW.regL [4] ?_
    generalize hK : AW Tryd.prog _ _ _ = K
    simp only [go_sem, ↓reduceIte, reduceCtorEq, Nat.reduceAdd, Nat.reduceSub, Nat.reduceMul, Nat.reduceEqDiff, Nat.reduceLT, Nat.reduceLeDiff, eq_false c1, eq_false c2, eq_false c3]
    subst hK
    refine AW.ret ?_
    obtain rfl := Option.some.inj h
    (simp only [go_sem, ↓reduceIte, reduceCtorEq, Nat.reduceAdd, Nat.reduceSub, Nat.reduceMul, Nat.reduceEqDiff, Nat.reduceLT, Nat.reduceLeDiff, eq_false c1, eq_false c2, eq_false c3, finA] <;> try simp)
end Au
end Go.Proofs.Yd

set_option linter.all false
set_option maxRecDepth 8000
set_option maxHeartbeats 1000000
namespace Go.Proofs.Yd
open Go.Gm
namespace Au
noncomputable def f19 (a0 : Int) (a1 : Int) : Option ByteArray := (if a0 = 0 then some ⟨#[114, 117, 110, 110, 105, 110, 103]⟩ else (if a0 = 1 then some ⟨#[100, 111, 110, 101]⟩ else (if a0 = 2 then ((f23 a1).bind fun x4 => ((catO ⟨#[102, 97, 105, 108, 101, 100, 32]⟩ x4).bind fun x5 => some x5)) else some ⟨#[63]⟩)))
theorem ok19 (a0 : Int) (a1 : Int) (r : ByteArray) (h : f19 a0 a1 = some r) : PC Tryd.prog 19 [.val (.int .i64 a0), .val (.int .i64 a1)] (.val (.string r)) := by
 rw [f19] at h
 refine pc_of8 (N := 15) (rs := [.tmp 4]) Tryd.func19 rfl rfl rfl (Nat.le_of_ble_eq_true rfl) ?_
 refine AW.regL [0, 1] ?_
 generalize hK : AW Tryd.prog _ _ _ = K
 simp only [go_sem, ↓reduceIte, reduceCtorEq, Nat.reduceAdd, Nat.reduceSub, Nat.reduceMul, Nat.reduceEqDiff, Nat.reduceLT, Nat.reduceLeDiff]
 subst hK
 refine AW.seq ?_
 refine AW.regL [1, 5] ?_
 generalize hK : AW Tryd.prog _ _ _ = K
 simp only [go_sem, ↓reduceIte, reduceCtorEq, Nat.reduceAdd, Nat.reduceSub, Nat.reduceMul, Nat.reduceEqDiff, Nat.reduceLT, Nat.reduceLeDiff]
 subst hK
 refine AW.block ?_
 refine AW.regL [1, 5, 6] ?_
 generalize hK : AW Tryd.prog _ _ _ = K
 simp only [go_sem, ↓reduceIte, reduceCtorEq, Nat.reduceAdd, Nat.reduceSub, Nat.reduceMul, Nat.reduceEqDiff, Nat.reduceLT, Nat.reduceLeDiff]
 subst hK
 by_cases c1 : a0 = 0
 ·rw [if_pos c1] at h
  refine AW.ifT rfl c1 ?_
  refine AW.regL [4] ?_
  generalize hK : AW Tryd.prog _ _ _ = K
  simp only [go_sem, ↓reduceIte, reduceCtorEq, Nat.reduceAdd, Nat.reduceSub, Nat.reduceMul, Nat.reduceEqDiff, Nat.reduceLT, Nat.reduceLeDiff, eq_true c1]
  subst hK
  refine AW.ret ?_
  refine block_r ?_
  refine thenA_r ?_
  obtain rfl := Option.some.inj h
  (simp only [go_sem, ↓reduceIte, reduceCtorEq, Nat.reduceAdd, Nat.reduceSub, Nat.reduceMul, Nat.reduceEqDiff, Nat.reduceLT, Nat.reduceLeDiff, eq_true c1, finA] <;> try simp)
 ·rw [if_neg c1] at h
  refine AW.ifF rfl c1 ?_
  refine AW.regL [1, 5, 8] ?_
  generalize hK : AW Tryd.prog _ _ _ = K
  simp only [go_sem, ↓reduceIte, reduceCtorEq, Nat.reduceAdd, Nat.reduceSub, Nat.reduceMul, Nat.reduceEqDiff, Nat.reduceLT, Nat.reduceLeDiff, eq_false c1]
  subst hK
  by_cases c2 : a0 = 1
  ·rw [if_pos c2] at h
   refine AW.ifT rfl c2 ?_
   refine AW.regL [4] ?_
   generalize hK : AW Tryd.prog _ _ _ = K
   simp only [go_sem, ↓reduceIte, reduceCtorEq, Nat.reduceAdd, Nat.reduceSub, Nat.reduceMul, Nat.reduceEqDiff, Nat.reduceLT, Nat.reduceLeDiff, eq_false c1, eq_true c2]
   subst hK
   refine AW.ret ?_
   refine block_r ?_
   refine thenA_r ?_
   obtain rfl := Option.some.inj h
   (simp only [go_sem, ↓reduceIte, reduceCtorEq, Nat.reduceAdd, Nat.reduceSub, Nat.reduceMul, Nat.reduceEqDiff, Nat.reduceLT, Nat.reduceLeDiff, eq_false c1, eq_true c2, finA] <;> try simp)
  ·rw [if_neg c2] at h
   refine AW.ifF rfl c2 ?_
   refine AW.regL [1, 10] ?_
   generalize hK : AW Tryd.prog _ _ _ = K
   simp only [go_sem, ↓reduceIte, reduceCtorEq, Nat.reduceAdd, Nat.reduceSub, Nat.reduceMul, Nat.reduceEqDiff, Nat.reduceLT, Nat.reduceLeDiff, eq_false c1, eq_false c2]
   subst hK
   by_cases c3 : a0 = 2
   ·rw [if_pos c3] at h
    refine AW.ifT rfl c3 ?_
    obtain ⟨x4, hx4, h⟩ := Option.bind_eq_some_iff.1 h
    obtain ⟨x5, hx5, h⟩ := Option.bind_eq_some_iff.1 h
    refine AW.regL [4] ?_
    generalize hK : AW Tryd.prog _ _ _ = K
    simp only [go_sem, ↓reduceIte, reduceCtorEq, Nat.reduceAdd, Nat.reduceSub, Nat.reduceMul, Nat.reduceEqDiff, Nat.reduceLT, Nat.reduceLeDiff, eq_false c1, eq_false c2, eq_true c3, binV_cat hx5]
    refine arC.of (ok23 a1 x4 hx4) Tryd.call23 ?_
    simp only [go_sem, ↓reduceIte, reduceCtorEq, Nat.reduceAdd, Nat.reduceSub, Nat.reduceMul, Nat.reduceEqDiff, Nat.reduceLT, Nat.reduceLeDiff, eq_false c1, eq_false c2, eq_true c3, binV_cat hx5]
    subst hK
    refine AW.ret ?_
    refine block_r ?_
    refine thenA_r ?_
    obtain rfl := Option.some.inj h
    (simp only [go_sem, ↓reduceIte, reduceCtorEq, Nat.reduceAdd, Nat.reduceSub, Nat.reduceMul, Nat.reduceEqDiff, Nat.reduceLT, Nat.reduceLeDiff, eq_false c1, eq_false c2, eq_true c3, finA] <;> try simp)
   ·rw [if_neg c3] at h
    refine AW.ifF rfl c3 ?_
    refine AW.skip ?_
    refine block_n ?_
    refine thenA_n ?_
    refine AW.regL [4] ?_
    generalize hK : AW Tryd.prog _ _ _ = K
    simp only [go_sem, ↓reduceIte, reduceCtorEq, Nat.reduceAdd, Nat.reduceSub, Nat.reduceMul, Nat.reduceEqDiff, Nat.reduceLT, Nat.reduceLeDiff, eq_false c1, eq_false c2, eq_false c3]
    subst hK
    refine AW.ret ?_
    obtain rfl := Option.some.inj h
    (simp only [go_sem, ↓reduceIte, reduceCtorEq, Nat.reduceAdd, Nat.reduceSub, Nat.reduceMul, Nat.reduceEqDiff, Nat.reduceLT, Nat.reduceLeDiff, eq_false c1, eq_false c2, eq_false c3, finA] <;> try simp)
end Au
end Go.Proofs.Yd
