import Derived.Test.YtlonihmeikmpiaaGnDB
set_option linter.all false
set_option linter.unusedVariables false
set_option linter.unusedSimpArgs false
set_option linter.all false
set_option maxRecDepth 8000
namespace Go.Proofs.Y1
open Go.Gm
namespace Au
noncomputable def f117_s1 : Int × Int → Option ((Int × Int) ⊕ Int)
  | (s1_0, s1_1) => (if 128 ≤ s1_0 then some (.inl (IntKind.u8.wrap ((IntKind.i64.wrap ((IntKind.i64.wrap s1_0) * 2)).tmod 256), IntKind.i64.wrap (s1_1 + 1))) else some (.inr s1_1))
noncomputable def f117 (a0 : Int) : Option Int := ((loopO f117_s1 (a0, 0)).bind fun y8 => some y8)
theorem ok117 (a0 : Int) (r : Int) (h : f117 a0 = some r) : PC Try.prog 117 [.val (.int .u8 a0)] (.val (.int .i64 r)) := by
  rw [f117] at h
  refine pc_of8 (N := 14) (rs := [.tmp 2]) Try.func117 rfl rfl rfl (Nat.le_of_ble_eq_true rfl) ?_
  refine AW.regL [0] ?_
  generalize hK : AW Try.prog _ _ _ = K
  simp only [go_sem, ↓reduceIte, reduceCtorEq, Nat.reduceAdd, Nat.reduceSub, Nat.reduceMul, Nat.reduceEqDiff, Nat.reduceLT, Nat.reduceLeDiff, Nat.reduceBEq, Int.reduceAdd, Int.reduceSub, Int.reduceLT, Int.reduceLE, Int.reduceEq, Int.reduceToNat]
  subst hK
  refine AW.regL [0, 3] ?_
  generalize hK : AW Try.prog _ _ _ = K
  simp only [go_sem, ↓reduceIte, reduceCtorEq, Nat.reduceAdd, Nat.reduceSub, Nat.reduceMul, Nat.reduceEqDiff, Nat.reduceLT, Nat.reduceLeDiff, Nat.reduceBEq, Int.reduceAdd, Int.reduceSub, Int.reduceLT, Int.reduceLE, Int.reduceEq, Int.reduceToNat]
  subst hK
  refine AW.seq ?_
  refine AW.block ?_
  obtain ⟨y8, hy8, h⟩ := Option.bind_eq_some_iff.1 h
  refine AW.loopO (fun s => ⟨(upd (upd anyF 0 (.val (.int .u8 s.1))) 3 (.val (.int .i64 s.2))), hpL [] [], 8⟩) (fun z e st' => e = Exit.exit 0 ∧ st' = ⟨(upd anyF 3 (.val (.int .i64 z))), hpL [] [], 8⟩) hy8 ?_ ?_ ?_
  · refine Ent.can [] _ _ _ rfl (by first | decide | simp) rfl ?_ ?_ ?_
    · exact ((RF.any.pv (by first | rfl | simp only [go_sem]) (by first | rfl | simp [upd_ap, hpL_ap, tau, mapT, mapTL, bytesI_len])).pv (by first | rfl | simp only [go_sem]) (by first | rfl | simp [upd_ap, hpL_ap, tau, mapT, mapTL, bytesI_len]))
    · exact .nil _
    · exact .nil _
  · clear h hy8
    rintro ⟨s1_0, s1_1⟩ x h
    rw [f117_s1] at h
    refine AW.seq ?_
    refine AW.regL [0, 3, 5] ?_
    generalize hK : AW Try.prog _ _ _ = K
    simp only [go_sem, ↓reduceIte, reduceCtorEq, Nat.reduceAdd, Nat.reduceSub, Nat.reduceMul, Nat.reduceEqDiff, Nat.reduceLT, Nat.reduceLeDiff, Nat.reduceBEq, Int.reduceAdd, Int.reduceSub, Int.reduceLT, Int.reduceLE, Int.reduceEq, Int.reduceToNat]
    subst hK
    by_cases c6 : 128 ≤ s1_0
    · rw [if_pos c6] at h
      refine AW.ifT rfl c6 ?_
      refine AW.skip ?_
      refine thenA_n ?_
      refine AW.block ?_
      refine AW.regL [0, 3] ?_
      generalize hK : AW Try.prog _ _ _ = K
      simp only [go_sem, ↓reduceIte, reduceCtorEq, Nat.reduceAdd, Nat.reduceSub, Nat.reduceMul, Nat.reduceEqDiff, Nat.reduceLT, Nat.reduceLeDiff, Nat.reduceBEq, Int.reduceAdd, Int.reduceSub, Int.reduceLT, Int.reduceLE, Int.reduceEq, Int.reduceToNat, eq_true c6]
      subst hK
      refine AW.regionL [0, 3] ?_
      generalize hK : inBlockA _ _ Exit.normal = K
      simp only [go_sem, ↓reduceIte, reduceCtorEq, Nat.reduceAdd, Nat.reduceSub, Nat.reduceMul, Nat.reduceEqDiff, Nat.reduceLT, Nat.reduceLeDiff, Nat.reduceBEq, Int.reduceAdd, Int.reduceSub, Int.reduceLT, Int.reduceLE, Int.reduceEq, Int.reduceToNat, eq_true c6]
      subst hK
      refine block_n ?_
      refine thenA_n ?_
      refine ⟨_, (Option.some.inj h).symm, ?_⟩
      refine Ent.can [] _ _ _ rfl (by first | decide | simp) rfl ?_ ?_ ?_
      · exact ((RF.any.pv (by first | rfl | simp only [go_sem]) (by first | rfl | simp [upd_ap, hpL_ap, tau, mapT, mapTL, bytesI_len, eq_true c6])).pv (by first | rfl | simp only [go_sem]) (by first | rfl | simp [upd_ap, hpL_ap, tau, mapT, mapTL, bytesI_len, eq_true c6]))
      · exact .nil _
      · exact .nil _
    · rw [if_neg c6] at h
      refine AW.ifF rfl c6 ?_
      refine AW.exit ?_
      refine thenA_x ?_
      refine thenA_x ?_
      refine ⟨_, (Option.some.inj h).symm, _, ?_, rfl, rfl⟩
      refine Ent.can [] _ _ _ rfl (by first | decide | simp) rfl ?_ ?_ ?_
      · exact (RF.any.pv (by first | rfl | simp only [go_sem]) (by first | rfl | simp [upd_ap, hpL_ap, tau, mapT, mapTL, bytesI_len, eq_false c6]))
      · exact .nil _
      · exact .nil _
  · intro e st' hX
    try dsimp only at h
    try dsimp only at hX
    obtain ⟨rfl, rfl⟩ := hX
    refine ⟨_, Ent.refl, ?_⟩
    refine block_x ?_
    refine thenA_n ?_
    refine AW.regL [2] ?_
    generalize hK : AW Try.prog _ _ _ = K
    simp only [go_sem, ↓reduceIte, reduceCtorEq, Nat.reduceAdd, Nat.reduceSub, Nat.reduceMul, Nat.reduceEqDiff, Nat.reduceLT, Nat.reduceLeDiff, Nat.reduceBEq, Int.reduceAdd, Int.reduceSub, Int.reduceLT, Int.reduceLE, Int.reduceEq, Int.reduceToNat]
    subst hK
    refine AW.ret ?_
    obtain rfl := Option.some.inj h
    (simp only [go_sem, ↓reduceIte, reduceCtorEq, Nat.reduceAdd, Nat.reduceSub, Nat.reduceMul, Nat.reduceEqDiff, Nat.reduceLT, Nat.reduceLeDiff, Nat.reduceBEq, Int.reduceAdd, Int.reduceSub, Int.reduceLT, Int.reduceLE, Int.reduceEq, Int.reduceToNat, finA, resA, resOf_1, resOf_2, sealV_val, sealV_sl, sealV_ip, sealV_agg, sealV_tup, sealV_own, sealL_nil, sealL_cons] <;> try simp)
end Au
end Go.Proofs.Y1
