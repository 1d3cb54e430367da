import Derived.Test.YtlonihmeikmpiaaDoorGfDN
import Derived.Test.YtlonihmeikmpiaaDoorGfW1
import Derived.Test.YtlonihmeikmpiaaDoorGfDNf30
set_option linter.all false
set_option linter.unusedVariables false
set_option linter.unusedSimpArgs false
set_option linter.all false
set_option maxRecDepth 8000
set_option maxHeartbeats 1000000
namespace Go.Proofs.Yd
open Go.Gm
namespace Au
noncomputable def f15_s2 (x6 : Note × Int) : ByteArray × Int → Option ((ByteArray × Int) ⊕ ByteArray)
  | (s2_0, s2_1) => (if s2_1 < (x6.1.Where.length : Int) then (if s2_1 = 0 then ((catO s2_0 ⟨#[32, 97, 116, 32]⟩).bind fun x63 => ((ix x6.1.Where s2_1).bind fun x64 => ((f23 x64).bind fun x65 => ((catO x63 x65).bind fun x66 => some (.inl (x66, IntKind.i64.wrap (s2_1 + 1))))))) else ((catO s2_0 ⟨#[44]⟩).bind fun x67 => ((ix x6.1.Where s2_1).bind fun x68 => ((f23 x68).bind fun x69 => ((catO x67 x69).bind fun x70 => some (.inl (x70, IntKind.i64.wrap (s2_1 + 1)))))))) else some (.inr s2_0))
noncomputable def f15 (a0 : Msg) : Option ByteArray := ((f23 a0.From).bind fun x1 => ((catO x1 ⟨#[62]⟩).bind fun x2 => ((f23 a0.To).bind fun x3 => ((catO x2 x3).bind fun x4 => ((catO x4 ⟨#[32]⟩).bind fun x5 => ((f30 a0.Data).bind fun x6 => (if x6.2 = 0 then ((f31 ).bind fun x12 => ((ix x12 x6.1.Kind).bind fun x13 => ((catO x5 x13).bind fun x14 => ((catO x14 ⟨#[32, 116, 97, 115, 107, 32]⟩).bind fun x15 => ((f23 x6.1.Task).bind fun x16 => ((catO x15 x16).bind fun x17 => ((catO x17 ⟨#[32, 116, 114, 121, 32]⟩).bind fun x18 => ((f23 x6.1.Try).bind fun x19 => ((catO x18 x19).bind fun x20 => ((catO x20 ⟨#[32, 112, 97, 114, 116, 32]⟩).bind fun x21 => ((f23 x6.1.Part).bind fun x22 => ((catO x21 x22).bind fun x23 => ((loopO (f15_s2 x6) (x23, 0)).bind fun y72 => (if 0 < (IntKind.i64.wrap ((x6.1.A.length : Int) + (x6.1.B.length : Int))) then ((catO y72 ⟨#[32, 98, 121, 116, 101, 115, 32]⟩).bind fun x74 => ((f23 (IntKind.i64.wrap ((x6.1.A.length : Int) + (x6.1.B.length : Int)))).bind fun x75 => ((catO x74 x75).bind fun x76 => some x76))) else some y72)))))))))))))) else ((catO x5 ⟨#[98, 97, 100, 32]⟩).bind fun x77 => ((f23 x6.2).bind fun x78 => ((catO x77 x78).bind fun x79 => some x79))))))))))
theorem ok15 (a0 : Msg) (r : ByteArray) (h : f15 a0 = some r) : PC Tryd.prog 15 [.agg (encMsg a0)] (.val (.string r)) := by
 rw [f15] at h
 refine pc_of8 (N := 98) (rs := [.tmp 2]) Tryd.func15 rfl rfl rfl (Nat.le_of_ble_eq_true rfl) ?_
 refine AW.regL [1] ?_
 generalize hK : AW Tryd.prog _ _ _ = K
 simp only [go_sem, ↓reduceIte, reduceCtorEq, Nat.reduceAdd, Nat.reduceSub, Nat.reduceMul, Nat.reduceEqDiff, Nat.reduceLT, Nat.reduceLeDiff]
 subst hK
 obtain ⟨x1, hx1, h⟩ := Option.bind_eq_some_iff.1 h
 obtain ⟨x2, hx2, h⟩ := Option.bind_eq_some_iff.1 h
 obtain ⟨x3, hx3, h⟩ := Option.bind_eq_some_iff.1 h
 obtain ⟨x4, hx4, h⟩ := Option.bind_eq_some_iff.1 h
 obtain ⟨x5, hx5, h⟩ := Option.bind_eq_some_iff.1 h
 refine AW.regdL [1, 3] [[], [0], [0, 1], [0, 1, 2], [], [4], [0, 1, 2, 4, 5], [0, 1, 2, 3, 4, 5, 6], [0, 1, 2, 3, 4, 5, 6, 7], [0, 1, 2, 3, 4, 5, 6, 7, 8]] [0, 1, 2, 3, 4, 5, 6, 7, 8, 9] noFt (fun _ _ _ h => by simp [noFt] at h) draws (by kernel_rfl) (by kernel_rfl) ?_
 generalize hK : AW Tryd.prog _ _ _ = K
 simp only [go_sem, ↓reduceIte, reduceCtorEq, Nat.reduceAdd, Nat.reduceSub, Nat.reduceMul, Nat.reduceEqDiff, Nat.reduceLT, Nat.reduceLeDiff, binV_cat hx2, binV_cat hx4, binV_cat hx5]
 refine adN.pc (ok23 a0.From x1 hx1) Tryd.call23 callV_fn (by simp only [go_sem, ↓reduceIte, reduceCtorEq, Nat.reduceAdd, Nat.reduceSub, Nat.reduceMul, Nat.reduceEqDiff, Nat.reduceLT, Nat.reduceLeDiff, binV_cat hx2, binV_cat hx4, binV_cat hx5]) (by simp only [go_sem, ↓reduceIte, reduceCtorEq, Nat.reduceAdd, Nat.reduceSub, Nat.reduceMul, Nat.reduceEqDiff, Nat.reduceLT, Nat.reduceLeDiff]) ?_
 simp only [go_sem, ↓reduceIte, reduceCtorEq, Nat.reduceAdd, Nat.reduceSub, Nat.reduceMul, Nat.reduceEqDiff, Nat.reduceLT, Nat.reduceLeDiff, binV_cat hx2, binV_cat hx4, binV_cat hx5]
 refine adN.pc (ok23 a0.To x3 hx3) Tryd.call23 callV_fn (by simp only [go_sem, ↓reduceIte, reduceCtorEq, Nat.reduceAdd, Nat.reduceSub, Nat.reduceMul, Nat.reduceEqDiff, Nat.reduceLT, Nat.reduceLeDiff, binV_cat hx2, binV_cat hx4, binV_cat hx5]) (by simp only [go_sem, ↓reduceIte, reduceCtorEq, Nat.reduceAdd, Nat.reduceSub, Nat.reduceMul, Nat.reduceEqDiff, Nat.reduceLT, Nat.reduceLeDiff]) ?_
 simp only [go_sem, ↓reduceIte, reduceCtorEq, Nat.reduceAdd, Nat.reduceSub, Nat.reduceMul, Nat.reduceEqDiff, Nat.reduceLT, Nat.reduceLeDiff, binV_cat hx2, binV_cat hx4, binV_cat hx5]
 subst hK
 obtain ⟨x6, hx6, h⟩ := Option.bind_eq_some_iff.1 h
 refine AW.regL [3, 4, 5] ?_
 generalize hK : AW Tryd.prog _ _ _ = K
 simp only [go_sem, ↓reduceIte, reduceCtorEq, Nat.reduceAdd, Nat.reduceSub, Nat.reduceMul, Nat.reduceEqDiff, Nat.reduceLT, Nat.reduceLeDiff]
 refine arC.of (ok30 a0.Data x6 hx6) Tryd.call30 ?_
 simp only [go_sem, ↓reduceIte, reduceCtorEq, Nat.reduceAdd, Nat.reduceSub, Nat.reduceMul, Nat.reduceEqDiff, Nat.reduceLT, Nat.reduceLeDiff]
 subst hK
 refine AW.seq ?_
 refine AW.regL [3, 4, 5, 23] ?_
 generalize hK : AW Tryd.prog _ _ _ = K
 simp only [go_sem, ↓reduceIte, reduceCtorEq, Nat.reduceAdd, Nat.reduceSub, Nat.reduceMul, Nat.reduceEqDiff, Nat.reduceLT, Nat.reduceLeDiff]
 subst hK
 by_cases c11 : x6.2 = 0
 ·rw [if_pos c11] at h
  refine AW.ifF rfl (fun q => q c11) ?_
  refine AW.skip ?_
  refine thenA_n ?_
  obtain ⟨x12, hx12, h⟩ := Option.bind_eq_some_iff.1 h
  obtain ⟨x13, hx13, h⟩ := Option.bind_eq_some_iff.1 h
  obtain ⟨hx13a, hx13b⟩ := ix_some.1 hx13
  obtain ⟨x14, hx14, h⟩ := Option.bind_eq_some_iff.1 h
  obtain ⟨x15, hx15, h⟩ := Option.bind_eq_some_iff.1 h
  obtain ⟨x16, hx16, h⟩ := Option.bind_eq_some_iff.1 h
  obtain ⟨x17, hx17, h⟩ := Option.bind_eq_some_iff.1 h
  obtain ⟨x18, hx18, h⟩ := Option.bind_eq_some_iff.1 h
  obtain ⟨x19, hx19, h⟩ := Option.bind_eq_some_iff.1 h
  obtain ⟨x20, hx20, h⟩ := Option.bind_eq_some_iff.1 h
  obtain ⟨x21, hx21, h⟩ := Option.bind_eq_some_iff.1 h
  obtain ⟨x22, hx22, h⟩ := Option.bind_eq_some_iff.1 h
  obtain ⟨x23, hx23, h⟩ := Option.bind_eq_some_iff.1 h
  refine AW.regdL [3, 4] [[], [], [], [2], [1, 2, 3], [1, 2, 3, 4], [0, 1, 2, 3, 4, 5], [0, 1, 2, 3, 4, 5, 6], [], [8], [1, 8, 9], [0, 1, 2, 3, 4, 5, 6, 7, 8, 9, 10], [0, 1, 2, 3, 4, 5, 6, 7, 8, 9, 10, 11], [], [13], [1, 8, 9, 10, 13, 14], [0, 1, 2, 3, 4, 5, 6, 7, 8, 9, 10, 11, 12, 13, 14, 15], [0, 1, 2, 3, 4, 5, 6, 7, 8, 9, 10, 11, 12, 13, 14, 15, 16], [], [18], [1, 8, 9, 10, 13, 14, 15, 18, 19], [0, 1, 2, 3, 4, 5, 6, 7, 8, 9, 10, 11, 12, 13, 14, 15, 16, 17, 18, 19, 20], [0, 1, 2, 3, 4, 5, 6, 7, 8, 9, 10, 11, 12, 13, 14, 15, 16, 17, 18, 19, 20, 21]] [0, 1, 2, 3, 4, 5, 6, 7, 8, 9, 10, 11, 12, 13, 14, 15, 16, 17, 18, 19, 20, 21, 22] noFt (fun _ _ _ h => by simp [noFt] at h) draws (by kernel_rfl) (by kernel_rfl) ?_
  generalize hK : AW Tryd.prog _ _ _ = K
  simp only [go_sem, ↓reduceIte, reduceCtorEq, Nat.reduceAdd, Nat.reduceSub, Nat.reduceMul, Nat.reduceEqDiff, Nat.reduceLT, Nat.reduceLeDiff, eq_true c11, natOf_le hx13a, hx13b, ix_lt hx13b, binV_cat hx14, binV_cat hx15, binV_cat hx17, binV_cat hx18, binV_cat hx20, binV_cat hx21, binV_cat hx23]
  refine adN.pc (ok31  x12 hx12) Tryd.call31 callV_fn (by simp only [go_sem, ↓reduceIte, reduceCtorEq, Nat.reduceAdd, Nat.reduceSub, Nat.reduceMul, Nat.reduceEqDiff, Nat.reduceLT, Nat.reduceLeDiff, eq_true c11, natOf_le hx13a, hx13b, ix_lt hx13b, binV_cat hx14, binV_cat hx15, binV_cat hx17, binV_cat hx18, binV_cat hx20, binV_cat hx21, binV_cat hx23]) (by simp only [go_sem, ↓reduceIte, reduceCtorEq, Nat.reduceAdd, Nat.reduceSub, Nat.reduceMul, Nat.reduceEqDiff, Nat.reduceLT, Nat.reduceLeDiff]) ?_
  simp only [go_sem, ↓reduceIte, reduceCtorEq, Nat.reduceAdd, Nat.reduceSub, Nat.reduceMul, Nat.reduceEqDiff, Nat.reduceLT, Nat.reduceLeDiff, eq_true c11, natOf_le hx13a, hx13b, ix_lt hx13b, binV_cat hx14, binV_cat hx15, binV_cat hx17, binV_cat hx18, binV_cat hx20, binV_cat hx21, binV_cat hx23]
  refine adN.pc (ok23 x6.1.Task x16 hx16) Tryd.call23 callV_fn (by simp only [go_sem, ↓reduceIte, reduceCtorEq, Nat.reduceAdd, Nat.reduceSub, Nat.reduceMul, Nat.reduceEqDiff, Nat.reduceLT, Nat.reduceLeDiff, eq_true c11, natOf_le hx13a, hx13b, ix_lt hx13b, binV_cat hx14, binV_cat hx15, binV_cat hx17, binV_cat hx18, binV_cat hx20, binV_cat hx21, binV_cat hx23]) (by simp only [go_sem, ↓reduceIte, reduceCtorEq, Nat.reduceAdd, Nat.reduceSub, Nat.reduceMul, Nat.reduceEqDiff, Nat.reduceLT, Nat.reduceLeDiff]) ?_
  simp only [go_sem, ↓reduceIte, reduceCtorEq, Nat.reduceAdd, Nat.reduceSub, Nat.reduceMul, Nat.reduceEqDiff, Nat.reduceLT, Nat.reduceLeDiff, eq_true c11, natOf_le hx13a, hx13b, ix_lt hx13b, binV_cat hx14, binV_cat hx15, binV_cat hx17, binV_cat hx18, binV_cat hx20, binV_cat hx21, binV_cat hx23]
  refine adN.pc (ok23 x6.1.Try x19 hx19) Tryd.call23 callV_fn (by simp only [go_sem, ↓reduceIte, reduceCtorEq, Nat.reduceAdd, Nat.reduceSub, Nat.reduceMul, Nat.reduceEqDiff, Nat.reduceLT, Nat.reduceLeDiff, eq_true c11, natOf_le hx13a, hx13b, ix_lt hx13b, binV_cat hx14, binV_cat hx15, binV_cat hx17, binV_cat hx18, binV_cat hx20, binV_cat hx21, binV_cat hx23]) (by simp only [go_sem, ↓reduceIte, reduceCtorEq, Nat.reduceAdd, Nat.reduceSub, Nat.reduceMul, Nat.reduceEqDiff, Nat.reduceLT, Nat.reduceLeDiff]) ?_
  simp only [go_sem, ↓reduceIte, reduceCtorEq, Nat.reduceAdd, Nat.reduceSub, Nat.reduceMul, Nat.reduceEqDiff, Nat.reduceLT, Nat.reduceLeDiff, eq_true c11, natOf_le hx13a, hx13b, ix_lt hx13b, binV_cat hx14, binV_cat hx15, binV_cat hx17, binV_cat hx18, binV_cat hx20, binV_cat hx21, binV_cat hx23]
  refine adN.pc (ok23 x6.1.Part x22 hx22) Tryd.call23 callV_fn (by simp only [go_sem, ↓reduceIte, reduceCtorEq, Nat.reduceAdd, Nat.reduceSub, Nat.reduceMul, Nat.reduceEqDiff, Nat.reduceLT, Nat.reduceLeDiff, eq_true c11, natOf_le hx13a, hx13b, ix_lt hx13b, binV_cat hx14, binV_cat hx15, binV_cat hx17, binV_cat hx18, binV_cat hx20, binV_cat hx21, binV_cat hx23]) (by simp only [go_sem, ↓reduceIte, reduceCtorEq, Nat.reduceAdd, Nat.reduceSub, Nat.reduceMul, Nat.reduceEqDiff, Nat.reduceLT, Nat.reduceLeDiff]) ?_
  simp only [go_sem, ↓reduceIte, reduceCtorEq, Nat.reduceAdd, Nat.reduceSub, Nat.reduceMul, Nat.reduceEqDiff, Nat.reduceLT, Nat.reduceLeDiff, eq_true c11, natOf_le hx13a, hx13b, ix_lt hx13b, binV_cat hx14, binV_cat hx15, binV_cat hx17, binV_cat hx18, binV_cat hx20, binV_cat hx21, binV_cat hx23]
  subst hK
  refine AW.seq ?_
  refine AW.regL [3, 4, 6] ?_
  generalize hK : AW Tryd.prog _ _ _ = K
  simp only [go_sem, ↓reduceIte, reduceCtorEq, Nat.reduceAdd, Nat.reduceSub, Nat.reduceMul, Nat.reduceEqDiff, Nat.reduceLT, Nat.reduceLeDiff, eq_true c11]
  subst hK
  refine AW.block ?_
  obtain ⟨y72, hy72, h⟩ := Option.bind_eq_some_iff.1 h
  refine AW.loopO (fun s => ⟨(upd (upd (upd anyF 3 (.val (.string s.1))) 4 (.ptr 8 0 0)) 6 (.val (.int .i64 s.2))), hpL [] [some (.row 7 true [[.val (.int .i64 x6.1.Kind), .val (.int .i64 x6.1.Task), .val (.int .i64 x6.1.Try), .val (.int .i64 x6.1.Part), .sl (List.map enc3 x6.1.Where), .sl (List.map enc5 x6.1.A), .sl (List.map enc5 x6.1.B)]])], 9⟩) (fun z e st' => e = Exit.exit 0 ∧ st' = ⟨(upd (upd anyF 3 (.val (.string z))) 4 (.ptr 8 0 0)), hpL [] [some (.row 7 true [[.val (.int .i64 x6.1.Kind), .val (.int .i64 x6.1.Task), .val (.int .i64 x6.1.Try), .val (.int .i64 x6.1.Part), .sl (List.map enc3 x6.1.Where), .sl (List.map enc5 x6.1.A), .sl (List.map enc5 x6.1.B)]])], 9⟩) hy72 ?_ ?_ ?_
  ·refine Ent.can [152] _ _ _ rfl (by first | decide | simp) rfl ?_ ?_ ?_
   · exact (((RF.any.pv (by first | rfl | simp only [go_sem]) (by first | rfl | simp [upd_ap, hpL_ap, tau, mapT, mapTL, bytesI_len, eq_true c11])).pp (by decide) (by first | rfl | simp [upd_ap, hpL_ap, tau, mapT, mapTL, bytesI_len, eq_true c11])).pv (by first | rfl | simp only [go_sem]) (by first | rfl | simp [upd_ap, hpL_ap, tau, mapT, mapTL, bytesI_len, eq_true c11]))
   · exact .nil _
   · exact .cons (.eq (by first | rfl | simp only [go_sem]) (by first | rfl | simp [upd_ap, hpL_ap, tau, mapT, mapTL, bytesI_len, eq_true c11])) (.nil _)
  ·clear h hy72
   rintro ⟨s2_0, s2_1⟩ x h
   rw [f15_s2] at h
   refine AW.seq ?_
   refine AW.regL [3, 4, 6, 55] ?_
   generalize hK : AW Tryd.prog _ _ _ = K
   simp only [go_sem, ↓reduceIte, reduceCtorEq, Nat.reduceAdd, Nat.reduceSub, Nat.reduceMul, Nat.reduceEqDiff, Nat.reduceLT, Nat.reduceLeDiff, eq_true c11]
   subst hK
   by_cases c61 : s2_1 < (x6.1.Where.length : Int)
   ·rw [if_pos c61] at h
    refine AW.ifT rfl c61 ?_
    refine AW.skip ?_
    refine thenA_n ?_
    refine AW.seq ?_
    refine AW.block ?_
    refine AW.regL [3, 4, 6, 59] ?_
    generalize hK : AW Tryd.prog _ _ _ = K
    simp only [go_sem, ↓reduceIte, reduceCtorEq, Nat.reduceAdd, Nat.reduceSub, Nat.reduceMul, Nat.reduceEqDiff, Nat.reduceLT, Nat.reduceLeDiff, eq_true c11, eq_true c61]
    subst hK
    by_cases c62 : s2_1 = 0
    ·rw [if_pos c62] at h
     refine AW.ifT rfl c62 ?_
     obtain ⟨x63, hx63, h⟩ := Option.bind_eq_some_iff.1 h
     obtain ⟨x64, hx64, h⟩ := Option.bind_eq_some_iff.1 h
     obtain ⟨hx64a, hx64b⟩ := ix_some.1 hx64
     obtain ⟨x65, hx65, h⟩ := Option.bind_eq_some_iff.1 h
     obtain ⟨x66, hx66, h⟩ := Option.bind_eq_some_iff.1 h
     refine AW.regionL [3, 4, 6] ?_
     generalize hK : inBlockA _ _ Exit.normal = K
     simp only [go_sem, ↓reduceIte, reduceCtorEq, Nat.reduceAdd, Nat.reduceSub, Nat.reduceMul, Nat.reduceEqDiff, Nat.reduceLT, Nat.reduceLeDiff, eq_true c11, eq_true c61, eq_true c62, binV_cat hx63, natOf_le hx64a, hx64b, binV_cat hx66]
     refine arC.of (ok23 x64 x65 hx65) Tryd.call23 ?_
     simp only [go_sem, ↓reduceIte, reduceCtorEq, Nat.reduceAdd, Nat.reduceSub, Nat.reduceMul, Nat.reduceEqDiff, Nat.reduceLT, Nat.reduceLeDiff, eq_true c11, eq_true c61, eq_true c62, binV_cat hx63, natOf_le hx64a, hx64b, binV_cat hx66]
     subst hK
     refine block_n ?_
     refine thenA_n ?_
     refine AW.regionL [3, 4, 6] ?_
     generalize hK : thenA _ _ Exit.normal = K
     simp only [go_sem, ↓reduceIte, reduceCtorEq, Nat.reduceAdd, Nat.reduceSub, Nat.reduceMul, Nat.reduceEqDiff, Nat.reduceLT, Nat.reduceLeDiff, eq_true c11, eq_true c61, eq_true c62]
     subst hK
     refine thenA_n ?_
     refine ⟨_, (Option.some.inj h).symm, ?_⟩
     refine Ent.can [8] _ _ _ rfl (by first | decide | simp) rfl ?_ ?_ ?_
     · exact (((RF.any.pv (by first | rfl | simp only [go_sem]) (by first | rfl | simp [upd_ap, hpL_ap, tau, mapT, mapTL, bytesI_len, eq_true c11, eq_true c61, eq_true c62])).pp (by decide) (by first | rfl | simp [upd_ap, hpL_ap, tau, mapT, mapTL, bytesI_len, eq_true c11, eq_true c61, eq_true c62])).pv (by first | rfl | simp only [go_sem]) (by first | rfl | simp [upd_ap, hpL_ap, tau, mapT, mapTL, bytesI_len, eq_true c11, eq_true c61, eq_true c62]))
     · exact .nil _
     · exact .cons (.eq (by first | rfl | simp only [go_sem]) (by first | rfl | simp [upd_ap, hpL_ap, tau, mapT, mapTL, bytesI_len, eq_true c11, eq_true c61, eq_true c62])) (.nil _)
    ·rw [if_neg c62] at h
     refine AW.ifF rfl c62 ?_
     obtain ⟨x67, hx67, h⟩ := Option.bind_eq_some_iff.1 h
     obtain ⟨x68, hx68, h⟩ := Option.bind_eq_some_iff.1 h
     obtain ⟨hx68a, hx68b⟩ := ix_some.1 hx68
     obtain ⟨x69, hx69, h⟩ := Option.bind_eq_some_iff.1 h
     obtain ⟨x70, hx70, h⟩ := Option.bind_eq_some_iff.1 h
     refine AW.regionL [3, 4, 6] ?_
     generalize hK : inBlockA _ _ Exit.normal = K
     simp only [go_sem, ↓reduceIte, reduceCtorEq, Nat.reduceAdd, Nat.reduceSub, Nat.reduceMul, Nat.reduceEqDiff, Nat.reduceLT, Nat.reduceLeDiff, eq_true c11, eq_true c61, eq_false c62, binV_cat hx67, natOf_le hx68a, hx68b, binV_cat hx70]
     refine arC.of (ok23 x68 x69 hx69) Tryd.call23 ?_
     simp only [go_sem, ↓reduceIte, reduceCtorEq, Nat.reduceAdd, Nat.reduceSub, Nat.reduceMul, Nat.reduceEqDiff, Nat.reduceLT, Nat.reduceLeDiff, eq_true c11, eq_true c61, eq_false c62, binV_cat hx67, natOf_le hx68a, hx68b, binV_cat hx70]
     subst hK
     refine block_n ?_
     refine thenA_n ?_
     refine AW.regionL [3, 4, 6] ?_
     generalize hK : thenA _ _ Exit.normal = K
     simp only [go_sem, ↓reduceIte, reduceCtorEq, Nat.reduceAdd, Nat.reduceSub, Nat.reduceMul, Nat.reduceEqDiff, Nat.reduceLT, Nat.reduceLeDiff, eq_true c11, eq_true c61, eq_false c62]
     subst hK
     refine thenA_n ?_
     refine ⟨_, (Option.some.inj h).symm, ?_⟩
     refine Ent.can [8] _ _ _ rfl (by first | decide | simp) rfl ?_ ?_ ?_
     · exact (((RF.any.pv (by first | rfl | simp only [go_sem]) (by first | rfl | simp [upd_ap, hpL_ap, tau, mapT, mapTL, bytesI_len, eq_true c11, eq_true c61, eq_false c62])).pp (by decide) (by first | rfl | simp [upd_ap, hpL_ap, tau, mapT, mapTL, bytesI_len, eq_true c11, eq_true c61, eq_false c62])).pv (by first | rfl | simp only [go_sem]) (by first | rfl | simp [upd_ap, hpL_ap, tau, mapT, mapTL, bytesI_len, eq_true c11, eq_true c61, eq_false c62]))
     · exact .nil _
     · exact .cons (.eq (by first | rfl | simp only [go_sem]) (by first | rfl | simp [upd_ap, hpL_ap, tau, mapT, mapTL, bytesI_len, eq_true c11, eq_true c61, eq_false c62])) (.nil _)
   ·rw [if_neg c61] at h
    refine AW.ifF rfl c61 ?_
    refine AW.exit ?_
    refine thenA_x ?_
    refine thenA_x ?_
    refine ⟨_, (Option.some.inj h).symm, _, ?_, rfl, rfl⟩
    refine Ent.can [8] _ _ _ rfl (by first | decide | simp) rfl ?_ ?_ ?_
    · exact ((RF.any.pv (by first | rfl | simp only [go_sem]) (by first | rfl | simp [upd_ap, hpL_ap, tau, mapT, mapTL, bytesI_len, eq_true c11, eq_false c61])).pp (by decide) (by first | rfl | simp [upd_ap, hpL_ap, tau, mapT, mapTL, bytesI_len, eq_true c11, eq_false c61]))
    · exact .nil _
    · exact .cons (.eq (by first | rfl | simp only [go_sem]) (by first | rfl | simp [upd_ap, hpL_ap, tau, mapT, mapTL, bytesI_len, eq_true c11, eq_false c61])) (.nil _)
  ·intro e st' hX
   try dsimp only at h
   try dsimp only at hX
   obtain ⟨rfl, rfl⟩ := hX
   refine ⟨_, Ent.refl, ?_⟩
   refine block_x ?_
   refine thenA_n ?_
   refine AW.seq ?_
   refine AW.regL [3, 4, 85] ?_
   generalize hK : AW Tryd.prog _ _ _ = K
   simp only [go_sem, ↓reduceIte, reduceCtorEq, Nat.reduceAdd, Nat.reduceSub, Nat.reduceMul, Nat.reduceEqDiff, Nat.reduceLT, Nat.reduceLeDiff, eq_true c11]
   subst hK
   by_cases c73 : 0 < (IntKind.i64.wrap ((x6.1.A.length : Int) + (x6.1.B.length : Int)))
   ·rw [if_pos c73] at h
    refine AW.ifT rfl c73 ?_
    obtain ⟨x74, hx74, h⟩ := Option.bind_eq_some_iff.1 h
    obtain ⟨x75, hx75, h⟩ := Option.bind_eq_some_iff.1 h
    obtain ⟨x76, hx76, h⟩ := Option.bind_eq_some_iff.1 h
    refine AW.regionL [3] ?_
    generalize hK : thenA _ _ Exit.normal = K
    simp only [go_sem, ↓reduceIte, reduceCtorEq, Nat.reduceAdd, Nat.reduceSub, Nat.reduceMul, Nat.reduceEqDiff, Nat.reduceLT, Nat.reduceLeDiff, eq_true c11, eq_true c73, binV_cat hx74, binV_cat hx76]
    refine arC.of (ok23 (IntKind.i64.wrap ((x6.1.A.length : Int) + (x6.1.B.length : Int))) x75 hx75) Tryd.call23 ?_
    simp only [go_sem, ↓reduceIte, reduceCtorEq, Nat.reduceAdd, Nat.reduceSub, Nat.reduceMul, Nat.reduceEqDiff, Nat.reduceLT, Nat.reduceLeDiff, eq_true c11, eq_true c73, binV_cat hx74, binV_cat hx76]
    subst hK
    refine thenA_n ?_
    refine AW.regL [2] ?_
    generalize hK : AW Tryd.prog _ _ _ = K
    simp only [go_sem, ↓reduceIte, reduceCtorEq, Nat.reduceAdd, Nat.reduceSub, Nat.reduceMul, Nat.reduceEqDiff, Nat.reduceLT, Nat.reduceLeDiff, eq_true c11, eq_true c73]
    subst hK
    refine AW.ret ?_
    obtain rfl := Option.some.inj h
    (simp only [go_sem, ↓reduceIte, reduceCtorEq, Nat.reduceAdd, Nat.reduceSub, Nat.reduceMul, Nat.reduceEqDiff, Nat.reduceLT, Nat.reduceLeDiff, eq_true c11, eq_true c73, finA] <;> try simp)
   ·rw [if_neg c73] at h
    refine AW.ifF rfl c73 ?_
    refine AW.skip ?_
    refine thenA_n ?_
    refine AW.regL [2] ?_
    generalize hK : AW Tryd.prog _ _ _ = K
    simp only [go_sem, ↓reduceIte, reduceCtorEq, Nat.reduceAdd, Nat.reduceSub, Nat.reduceMul, Nat.reduceEqDiff, Nat.reduceLT, Nat.reduceLeDiff, eq_true c11, eq_false c73]
    subst hK
    refine AW.ret ?_
    obtain rfl := Option.some.inj h
    (simp only [go_sem, ↓reduceIte, reduceCtorEq, Nat.reduceAdd, Nat.reduceSub, Nat.reduceMul, Nat.reduceEqDiff, Nat.reduceLT, Nat.reduceLeDiff, eq_true c11, eq_false c73, finA] <;> try simp)
 ·rw [if_neg c11] at h
  refine AW.ifT rfl c11 ?_
  obtain ⟨x77, hx77, h⟩ := Option.bind_eq_some_iff.1 h
  obtain ⟨x78, hx78, h⟩ := Option.bind_eq_some_iff.1 h
  obtain ⟨x79, hx79, h⟩ := Option.bind_eq_some_iff.1 h
  refine AW.regL [2] ?_
  generalize hK : AW Tryd.prog _ _ _ = K
  simp only [go_sem, ↓reduceIte, reduceCtorEq, Nat.reduceAdd, Nat.reduceSub, Nat.reduceMul, Nat.reduceEqDiff, Nat.reduceLT, Nat.reduceLeDiff, eq_false c11, binV_cat hx77, binV_cat hx79]
  refine arC.of (ok23 x6.2 x78 hx78) Tryd.call23 ?_
  simp only [go_sem, ↓reduceIte, reduceCtorEq, Nat.reduceAdd, Nat.reduceSub, Nat.reduceMul, Nat.reduceEqDiff, Nat.reduceLT, Nat.reduceLeDiff, eq_false c11, binV_cat hx77, binV_cat hx79]
  subst hK
  refine AW.ret ?_
  refine thenA_r ?_
  obtain rfl := Option.some.inj h
  (simp only [go_sem, ↓reduceIte, reduceCtorEq, Nat.reduceAdd, Nat.reduceSub, Nat.reduceMul, Nat.reduceEqDiff, Nat.reduceLT, Nat.reduceLeDiff, eq_false c11, finA] <;> try simp)
end Au
end Go.Proofs.Yd
