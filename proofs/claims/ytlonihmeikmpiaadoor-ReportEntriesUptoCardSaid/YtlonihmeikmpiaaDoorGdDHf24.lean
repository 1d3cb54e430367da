import Derived.Test.YtlonihmeikmpiaaDoorGdDH
set_option linter.all false
set_option linter.unusedVariables false
set_option linter.unusedSimpArgs false
set_option linter.all false
set_option maxRecDepth 8000
set_option maxHeartbeats 1000000
namespace Go.Proofs.Yd
open Go.Gm
namespace Au
noncomputable def f24_s1 (a0 : A32 Int) : ByteArray × Int → Option ((ByteArray × Int) ⊕ ByteArray)
  | (s1_0, s1_1) => (if s1_1 < 32 then ((guardO (0 ≤ s1_1 ∧ s1_1 < 32)).bind fun x14 => ((cutSO? ⟨#[48, 49, 50, 51, 52, 53, 54, 55, 56, 57, 97, 98, 99, 100, 101, 102]⟩ (IntKind.i64.wrap ((IntKind.i64.wrap (A32.get a0 s1_1.toNat)).tdiv 16)) (IntKind.i64.wrap ((IntKind.i64.wrap ((IntKind.i64.wrap (A32.get a0 s1_1.toNat)).tdiv 16)) + 1))).bind fun x15 => ((catO s1_0 x15).bind fun x16 => ((cutSO? ⟨#[48, 49, 50, 51, 52, 53, 54, 55, 56, 57, 97, 98, 99, 100, 101, 102]⟩ ((IntKind.i64.wrap (A32.get a0 s1_1.toNat)).tmod 16) (IntKind.i64.wrap (((IntKind.i64.wrap (A32.get a0 s1_1.toNat)).tmod 16) + 1))).bind fun x17 => ((catO x16 x17).bind fun x18 => some (.inl (x18, IntKind.i64.wrap (s1_1 + 1)))))))) else some (.inr s1_0))
noncomputable def f24 (a0 : A32 Int) : Option ByteArray := ((loopO (f24_s1 a0) (⟨#[]⟩, 0)).bind fun y20 => some y20)
theorem ok24 (a0 : A32 Int) (r : ByteArray) (h : f24 a0 = some r) : PC Tryd.prog 24 [.agg (enc46 a0)] (.val (.string r)) := by
  rw [f24] at h
  refine pc_of8 (N := 33) (rs := [.tmp 2]) Tryd.func24 rfl rfl rfl (Nat.le_of_ble_eq_true rfl) ?_
  refine AW.regL [1] ?_
  generalize hK : AW Tryd.prog _ _ _ = K
  simp only [go_sem, ↓reduceIte, reduceCtorEq, Nat.reduceAdd, Nat.reduceSub, Nat.reduceMul, Nat.reduceEqDiff, Nat.reduceLT, Nat.reduceLeDiff, Nat.reduceBEq, Int.reduceAdd, Int.reduceSub, Int.reduceLT, Int.reduceLE, Int.reduceEq, Int.reduceToNat]
  subst hK
  refine AW.regL [1, 3] ?_
  generalize hK : AW Tryd.prog _ _ _ = K
  simp only [go_sem, ↓reduceIte, reduceCtorEq, Nat.reduceAdd, Nat.reduceSub, Nat.reduceMul, Nat.reduceEqDiff, Nat.reduceLT, Nat.reduceLeDiff, Nat.reduceBEq, Int.reduceAdd, Int.reduceSub, Int.reduceLT, Int.reduceLE, Int.reduceEq, Int.reduceToNat]
  subst hK
  refine AW.seq ?_
  refine AW.regL [1, 3, 4] ?_
  generalize hK : AW Tryd.prog _ _ _ = K
  simp only [go_sem, ↓reduceIte, reduceCtorEq, Nat.reduceAdd, Nat.reduceSub, Nat.reduceMul, Nat.reduceEqDiff, Nat.reduceLT, Nat.reduceLeDiff, Nat.reduceBEq, Int.reduceAdd, Int.reduceSub, Int.reduceLT, Int.reduceLE, Int.reduceEq, Int.reduceToNat]
  subst hK
  refine AW.block ?_
  obtain ⟨y20, hy20, h⟩ := Option.bind_eq_some_iff.1 h
  refine AW.loopO (fun s => ⟨(upd (upd (upd anyF 1 (.ptr 8 0 0)) 3 (.val (.string s.1))) 4 (.val (.int .i64 s.2))), hpL [] [some (.row 32 true [[.val (.int .u8 a0.e0), .val (.int .u8 a0.e1), .val (.int .u8 a0.e2), .val (.int .u8 a0.e3), .val (.int .u8 a0.e4), .val (.int .u8 a0.e5), .val (.int .u8 a0.e6), .val (.int .u8 a0.e7), .val (.int .u8 a0.e8), .val (.int .u8 a0.e9), .val (.int .u8 a0.e10), .val (.int .u8 a0.e11), .val (.int .u8 a0.e12), .val (.int .u8 a0.e13), .val (.int .u8 a0.e14), .val (.int .u8 a0.e15), .val (.int .u8 a0.e16), .val (.int .u8 a0.e17), .val (.int .u8 a0.e18), .val (.int .u8 a0.e19), .val (.int .u8 a0.e20), .val (.int .u8 a0.e21), .val (.int .u8 a0.e22), .val (.int .u8 a0.e23), .val (.int .u8 a0.e24), .val (.int .u8 a0.e25), .val (.int .u8 a0.e26), .val (.int .u8 a0.e27), .val (.int .u8 a0.e28), .val (.int .u8 a0.e29), .val (.int .u8 a0.e30), .val (.int .u8 a0.e31)]])], 9⟩) (fun z e st' => e = Exit.exit 0 ∧ st' = ⟨(upd anyF 3 (.val (.string z))), hpL [] [], 8⟩) hy20 ?_ ?_ ?_
  · refine Ent.can [8] _ _ _ rfl (by first | decide | simp) rfl ?_ ?_ ?_
    · exact (((RF.any.pp (by decide) (by first | rfl | simp [upd_ap, hpL_ap, tau, mapT, mapTL, bytesI_len])).pv (by first | rfl | simp only [go_sem]) (by first | rfl | simp [upd_ap, hpL_ap, tau, mapT, mapTL, bytesI_len])).pv (by first | rfl | simp only [go_sem]) (by first | rfl | simp [upd_ap, hpL_ap, tau, mapT, mapTL, bytesI_len]))
    · exact .nil _
    · exact .cons (.eq (by first | rfl | simp only [go_sem]) (by first | rfl | simp [upd_ap, hpL_ap, tau, mapT, mapTL, bytesI_len])) (.nil _)
  · clear h hy20
    rintro ⟨s1_0, s1_1⟩ x h
    rw [f24_s1] at h
    refine AW.seq ?_
    refine AW.regL [1, 3, 4, 8] ?_
    generalize hK : AW Tryd.prog _ _ _ = K
    simp only [go_sem, ↓reduceIte, reduceCtorEq, Nat.reduceAdd, Nat.reduceSub, Nat.reduceMul, Nat.reduceEqDiff, Nat.reduceLT, Nat.reduceLeDiff, Nat.reduceBEq, Int.reduceAdd, Int.reduceSub, Int.reduceLT, Int.reduceLE, Int.reduceEq, Int.reduceToNat]
    subst hK
    by_cases c13 : s1_1 < 32
    · rw [if_pos c13] at h
      refine AW.ifT rfl c13 ?_
      refine AW.skip ?_
      refine thenA_n ?_
      refine AW.seq ?_
      refine AW.block ?_
      obtain ⟨x14, hx14, h⟩ := Option.bind_eq_some_iff.1 h
      refine AW.regdL [1, 3, 4, 5, 6] [[], [0], [0, 1], [0, 1, 2], [0, 1, 2, 3], [], [5], [5, 6], [5, 6, 7], [5, 6, 7, 8], [0, 1, 2, 3, 4], [0, 1, 2, 3, 4, 5, 6, 7, 8, 9, 10]] [0, 1, 2, 3, 4, 5, 6, 7, 8, 9, 10, 11] noFt (fun _ _ _ h => by simp [noFt] at h) draws (by kernel_rfl) (by kernel_rfl) ?_
      generalize hK : AW Tryd.prog _ _ _ = K
      simp only [go_sem, ↓reduceIte, reduceCtorEq, Nat.reduceAdd, Nat.reduceSub, Nat.reduceMul, Nat.reduceEqDiff, Nat.reduceLT, Nat.reduceLeDiff, Nat.reduceBEq, Int.reduceAdd, Int.reduceSub, Int.reduceLT, Int.reduceLE, Int.reduceEq, Int.reduceToNat, eq_true c13, natOf_gd hx14, idx32 hx14, all32 (p := fun k => List.head? (List.drop (k) ([.val (.int .u8 a0.e0), .val (.int .u8 a0.e1), .val (.int .u8 a0.e2), .val (.int .u8 a0.e3), .val (.int .u8 a0.e4), .val (.int .u8 a0.e5), .val (.int .u8 a0.e6), .val (.int .u8 a0.e7), .val (.int .u8 a0.e8), .val (.int .u8 a0.e9), .val (.int .u8 a0.e10), .val (.int .u8 a0.e11), .val (.int .u8 a0.e12), .val (.int .u8 a0.e13), .val (.int .u8 a0.e14), .val (.int .u8 a0.e15), .val (.int .u8 a0.e16), .val (.int .u8 a0.e17), .val (.int .u8 a0.e18), .val (.int .u8 a0.e19), .val (.int .u8 a0.e20), .val (.int .u8 a0.e21), .val (.int .u8 a0.e22), .val (.int .u8 a0.e23), .val (.int .u8 a0.e24), .val (.int .u8 a0.e25), .val (.int .u8 a0.e26), .val (.int .u8 a0.e27), .val (.int .u8 a0.e28), .val (.int .u8 a0.e29), .val (.int .u8 a0.e30), .val (.int .u8 a0.e31)] : List AV)) = some (.val (.int .u8 (A32.get a0 k)))) rfl rfl rfl rfl rfl rfl rfl rfl rfl rfl rfl rfl rfl rfl rfl rfl rfl rfl rfl rfl rfl rfl rfl rfl rfl rfl rfl rfl rfl rfl rfl rfl (idx32 hx14)]
      subst hK
      obtain ⟨x15, hx15, h⟩ := Option.bind_eq_some_iff.1 h
      obtain ⟨x16, hx16, h⟩ := Option.bind_eq_some_iff.1 h
      obtain ⟨x17, hx17, h⟩ := Option.bind_eq_some_iff.1 h
      obtain ⟨x18, hx18, h⟩ := Option.bind_eq_some_iff.1 h
      refine AW.drawL [1, 3, 4] [[], [], [], [2], [1, 2, 3], [0, 1, 2, 3, 4], [], [], [7], [6, 7, 8], [0, 1, 2, 3, 4, 5, 6, 7, 8, 9], [0, 1, 2, 3, 4, 5, 6, 7, 8, 9, 10]] [0, 1, 2, 3, 4, 5, 6, 7, 8, 9, 10, 11] noFt (fun _ _ _ h => by simp [noFt] at h) draws (by kernel_rfl) (by kernel_rfl) ?_
      generalize hK : inBlockA _ _ Exit.normal = K
      simp only [go_sem, ↓reduceIte, reduceCtorEq, Nat.reduceAdd, Nat.reduceSub, Nat.reduceMul, Nat.reduceEqDiff, Nat.reduceLT, Nat.reduceLeDiff, Nat.reduceBEq, Int.reduceAdd, Int.reduceSub, Int.reduceLT, Int.reduceLE, Int.reduceEq, Int.reduceToNat, eq_true c13, strCut_ss st9 hx15, binV_cat hx16, strCut_ss st9 hx17, binV_cat hx18]
      subst hK
      refine block_n ?_
      refine thenA_n ?_
      refine AW.regionL [1, 3, 4] ?_
      generalize hK : thenA _ _ Exit.normal = K
      simp only [go_sem, ↓reduceIte, reduceCtorEq, Nat.reduceAdd, Nat.reduceSub, Nat.reduceMul, Nat.reduceEqDiff, Nat.reduceLT, Nat.reduceLeDiff, Nat.reduceBEq, Int.reduceAdd, Int.reduceSub, Int.reduceLT, Int.reduceLE, Int.reduceEq, Int.reduceToNat, eq_true c13]
      subst hK
      refine thenA_n ?_
      refine ⟨_, (Option.some.inj h).symm, ?_⟩
      refine Ent.can [8] _ _ _ rfl (by first | decide | simp) rfl ?_ ?_ ?_
      · exact (((RF.any.pp (by decide) (by first | rfl | simp [upd_ap, hpL_ap, tau, mapT, mapTL, bytesI_len, eq_true c13])).pv (by first | rfl | simp only [go_sem]) (by first | rfl | simp [upd_ap, hpL_ap, tau, mapT, mapTL, bytesI_len, eq_true c13])).pv (by first | rfl | simp only [go_sem]) (by first | rfl | simp [upd_ap, hpL_ap, tau, mapT, mapTL, bytesI_len, eq_true c13]))
      · exact .nil _
      · exact .cons (.eq (by first | rfl | simp only [go_sem]) (by first | rfl | simp [upd_ap, hpL_ap, tau, mapT, mapTL, bytesI_len, eq_true c13])) (.nil _)
    · rw [if_neg c13] at h
      refine AW.ifF rfl c13 ?_
      refine AW.exit ?_
      refine thenA_x ?_
      refine thenA_x ?_
      refine ⟨_, (Option.some.inj h).symm, _, ?_, rfl, rfl⟩
      refine Ent.can [] _ _ _ rfl (by first | decide | simp) rfl ?_ ?_ ?_
      · exact (RF.any.pv (by first | rfl | simp only [go_sem]) (by first | rfl | simp [upd_ap, hpL_ap, tau, mapT, mapTL, bytesI_len, eq_false c13]))
      · exact .nil _
      · exact .nil _
  · intro e st' hX
    try dsimp only at h
    try dsimp only at hX
    obtain ⟨rfl, rfl⟩ := hX
    refine ⟨_, Ent.refl, ?_⟩
    refine block_x ?_
    refine thenA_n ?_
    refine AW.regL [2] ?_
    generalize hK : AW Tryd.prog _ _ _ = K
    simp only [go_sem, ↓reduceIte, reduceCtorEq, Nat.reduceAdd, Nat.reduceSub, Nat.reduceMul, Nat.reduceEqDiff, Nat.reduceLT, Nat.reduceLeDiff, Nat.reduceBEq, Int.reduceAdd, Int.reduceSub, Int.reduceLT, Int.reduceLE, Int.reduceEq, Int.reduceToNat]
    subst hK
    refine AW.ret ?_
    obtain rfl := Option.some.inj h
    (simp only [go_sem, ↓reduceIte, reduceCtorEq, Nat.reduceAdd, Nat.reduceSub, Nat.reduceMul, Nat.reduceEqDiff, Nat.reduceLT, Nat.reduceLeDiff, Nat.reduceBEq, Int.reduceAdd, Int.reduceSub, Int.reduceLT, Int.reduceLE, Int.reduceEq, Int.reduceToNat, finA, resA, resOf_1, resOf_2, sealV_val, sealV_sl, sealV_ip, sealV_agg, sealV_tup, sealV_own, sealL_nil, sealL_cons, sealV_clo, resOf_clo] <;> try simp)
end Au
end Go.Proofs.Yd
