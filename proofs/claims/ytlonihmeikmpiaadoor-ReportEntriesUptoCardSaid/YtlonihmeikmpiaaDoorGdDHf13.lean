import Derived.Test.YtlonihmeikmpiaaDoorGdDH
set_option linter.all false
set_option linter.unusedVariables false
set_option linter.unusedSimpArgs false
set_option linter.all false
set_option maxRecDepth 8000
set_option maxHeartbeats 1000000
namespace Go.Proofs.Yd
open Go.Gm
namespace Au
noncomputable def f13_s1 (a0 : List Int) (a1 : List Int) : Int → Option (Int ⊕ (Bool ⊕ Unit))
  | s1_0 => (if s1_0 < (a0.length : Int) then ((ix a0 s1_0).bind fun x15 => ((ix a1 s1_0).bind fun x16 => (if x15 = x16 then some (.inl (IntKind.i64.wrap (s1_0 + 1))) else some (.inr (.inl false))))) else some (.inr (.inr ())))
noncomputable def f13 (a0 : List Int) (a1 : List Int) : Option Bool := (if (a0.length : Int) = (a1.length : Int) then ((loopO (f13_s1 a0 a1) 0).bind fun y18 => match y18 with | .inl y19 => some y19 | .inr _ => some true) else some false)
theorem ok13 (a0 : List Int) (a1 : List Int) (r : Bool) (h : f13 a0 a1 = some r) : PC Tryd.prog 13 [.sl (List.map enc3 a0), .sl (List.map enc3 a1)] (.val (.bool r)) := by
  rw [f13] at h
  refine pc_of8 (N := 26) (rs := [.tmp 4]) Tryd.func13 rfl rfl rfl (Nat.le_of_ble_eq_true rfl) ?_
  refine AW.regL [0, 1] ?_
  generalize hK : AW Tryd.prog _ _ _ = K
  simp only [go_sem, ↓reduceIte, reduceCtorEq, Nat.reduceAdd, Nat.reduceSub, Nat.reduceMul, Nat.reduceEqDiff, Nat.reduceLT, Nat.reduceLeDiff, Nat.reduceBEq, Int.reduceAdd, Int.reduceSub, Int.reduceLT, Int.reduceLE, Int.reduceEq, Int.reduceToNat]
  subst hK
  refine AW.seq ?_
  refine AW.regL [0, 1, 10] ?_
  generalize hK : AW Tryd.prog _ _ _ = K
  simp only [go_sem, ↓reduceIte, reduceCtorEq, Nat.reduceAdd, Nat.reduceSub, Nat.reduceMul, Nat.reduceEqDiff, Nat.reduceLT, Nat.reduceLeDiff, Nat.reduceBEq, Int.reduceAdd, Int.reduceSub, Int.reduceLT, Int.reduceLE, Int.reduceEq, Int.reduceToNat]
  subst hK
  by_cases c2 : (a0.length : Int) = (a1.length : Int)
  · rw [if_pos c2] at h
    refine AW.ifF rfl (fun q => q c2) ?_
    refine AW.skip ?_
    refine thenA_n ?_
    refine AW.seq ?_
    refine AW.regL [0, 1, 5] ?_
    generalize hK : AW Tryd.prog _ _ _ = K
    simp only [go_sem, ↓reduceIte, reduceCtorEq, Nat.reduceAdd, Nat.reduceSub, Nat.reduceMul, Nat.reduceEqDiff, Nat.reduceLT, Nat.reduceLeDiff, Nat.reduceBEq, Int.reduceAdd, Int.reduceSub, Int.reduceLT, Int.reduceLE, Int.reduceEq, Int.reduceToNat, eq_true c2]
    subst hK
    refine AW.block ?_
    obtain ⟨y18, hy18, h⟩ := Option.bind_eq_some_iff.1 h
    refine AW.loopO (fun s => ⟨(upd (upd (upd anyF 0 (.sl (List.map enc3 a0))) 1 (.sl (List.map enc3 a1))) 5 (.val (.int .i64 s))), hpL [] [], 8⟩) (fun y e st' => match y with | .inl z => e = Exit.ret ∧ finA Tryd.prog [.tmp 4] (.val (.bool z)) .ret st' | .inr z => e = Exit.exit 0 ∧ st' = ⟨anyF, hpL [] [], 8⟩) hy18 ?_ ?_ ?_
    · refine Ent.can [] _ _ _ rfl (by first | decide | simp) rfl ?_ ?_ ?_
      · exact (((RF.any.pv (by first | rfl | simp only [go_sem]) (by first | rfl | simp [upd_ap, hpL_ap, tau, mapT, mapTL, bytesI_len, eq_true c2])).pv (by first | rfl | simp only [go_sem]) (by first | rfl | simp [upd_ap, hpL_ap, tau, mapT, mapTL, bytesI_len, eq_true c2])).pv (by first | rfl | simp only [go_sem]) (by first | rfl | simp [upd_ap, hpL_ap, tau, mapT, mapTL, bytesI_len, eq_true c2]))
      · exact .nil _
      · exact .nil _
    · clear h hy18
      rintro s1_0 x h
      rw [f13_s1] at h
      refine AW.seq ?_
      refine AW.regL [0, 1, 5, 14] ?_
      generalize hK : AW Tryd.prog _ _ _ = K
      simp only [go_sem, ↓reduceIte, reduceCtorEq, Nat.reduceAdd, Nat.reduceSub, Nat.reduceMul, Nat.reduceEqDiff, Nat.reduceLT, Nat.reduceLeDiff, Nat.reduceBEq, Int.reduceAdd, Int.reduceSub, Int.reduceLT, Int.reduceLE, Int.reduceEq, Int.reduceToNat, eq_true c2]
      subst hK
      by_cases c14 : s1_0 < (a0.length : Int)
      · rw [if_pos c14] at h
        refine AW.ifT rfl c14 ?_
        refine AW.skip ?_
        refine thenA_n ?_
        refine AW.seq ?_
        refine AW.block ?_
        obtain ⟨x15, hx15, h⟩ := Option.bind_eq_some_iff.1 h
        obtain ⟨hx15a, hx15b⟩ := ix_some.1 hx15
        obtain ⟨x16, hx16, h⟩ := Option.bind_eq_some_iff.1 h
        obtain ⟨hx16a, hx16b⟩ := ix_some.1 hx16
        refine AW.regdL [0, 1, 5, 25] [[], [], [0, 1], [0, 1, 2], [], [], [4, 5], [4, 5, 6], [0, 1, 2, 3, 4, 5, 6, 7]] [0, 1, 2, 3, 4, 5, 6, 7, 8] noFt (fun _ _ _ h => by simp [noFt] at h) draws (by kernel_rfl) (by kernel_rfl) ?_
        generalize hK : AW Tryd.prog _ _ _ = K
        simp only [go_sem, ↓reduceIte, reduceCtorEq, Nat.reduceAdd, Nat.reduceSub, Nat.reduceMul, Nat.reduceEqDiff, Nat.reduceLT, Nat.reduceLeDiff, Nat.reduceBEq, Int.reduceAdd, Int.reduceSub, Int.reduceLT, Int.reduceLE, Int.reduceEq, Int.reduceToNat, eq_true c2, eq_true c14, natOf_le hx15a, hx15b, natOf_le hx16a, hx16b]
        subst hK
        by_cases c17 : x15 = x16
        · rw [if_pos c17] at h
          refine AW.ifF rfl (fun q => q c17) ?_
          refine AW.skip ?_
          refine block_n ?_
          refine thenA_n ?_
          refine AW.regionL [0, 1, 5] ?_
          generalize hK : thenA _ _ Exit.normal = K
          simp only [go_sem, ↓reduceIte, reduceCtorEq, Nat.reduceAdd, Nat.reduceSub, Nat.reduceMul, Nat.reduceEqDiff, Nat.reduceLT, Nat.reduceLeDiff, Nat.reduceBEq, Int.reduceAdd, Int.reduceSub, Int.reduceLT, Int.reduceLE, Int.reduceEq, Int.reduceToNat, eq_true c2, eq_true c14, eq_true c17]
          subst hK
          refine thenA_n ?_
          refine ⟨_, (Option.some.inj h).symm, ?_⟩
          refine Ent.can [] _ _ _ rfl (by first | decide | simp) rfl ?_ ?_ ?_
          · exact (((RF.any.pv (by first | rfl | simp only [go_sem]) (by first | rfl | simp [upd_ap, hpL_ap, tau, mapT, mapTL, bytesI_len, eq_true c2, eq_true c14, eq_true c17])).pv (by first | rfl | simp only [go_sem]) (by first | rfl | simp [upd_ap, hpL_ap, tau, mapT, mapTL, bytesI_len, eq_true c2, eq_true c14, eq_true c17])).pv (by first | rfl | simp only [go_sem]) (by first | rfl | simp [upd_ap, hpL_ap, tau, mapT, mapTL, bytesI_len, eq_true c2, eq_true c14, eq_true c17]))
          · exact .nil _
          · exact .nil _
        · rw [if_neg c17] at h
          refine AW.ifT rfl c17 ?_
          refine AW.regL [4] ?_
          generalize hK : AW Tryd.prog _ _ _ = K
          simp only [go_sem, ↓reduceIte, reduceCtorEq, Nat.reduceAdd, Nat.reduceSub, Nat.reduceMul, Nat.reduceEqDiff, Nat.reduceLT, Nat.reduceLeDiff, Nat.reduceBEq, Int.reduceAdd, Int.reduceSub, Int.reduceLT, Int.reduceLE, Int.reduceEq, Int.reduceToNat, eq_true c2, eq_true c14, eq_false c17]
          subst hK
          refine AW.ret ?_
          refine block_r ?_
          refine thenA_r ?_
          refine thenA_r ?_
          refine ⟨_, (Option.some.inj h).symm, _, Ent.refl, rfl, ?_⟩
          (simp only [go_sem, ↓reduceIte, reduceCtorEq, Nat.reduceAdd, Nat.reduceSub, Nat.reduceMul, Nat.reduceEqDiff, Nat.reduceLT, Nat.reduceLeDiff, Nat.reduceBEq, Int.reduceAdd, Int.reduceSub, Int.reduceLT, Int.reduceLE, Int.reduceEq, Int.reduceToNat, eq_true c2, eq_true c14, eq_false c17, finA, resA, resOf_1, resOf_2, sealV_val, sealV_sl, sealV_ip, sealV_agg, sealV_tup, sealV_own, sealL_nil, sealL_cons, sealV_clo, resOf_clo] <;> try simp)
      · rw [if_neg c14] at h
        refine AW.ifF rfl c14 ?_
        refine AW.exit ?_
        refine thenA_x ?_
        refine thenA_x ?_
        refine ⟨_, (Option.some.inj h).symm, _, ?_, rfl, rfl⟩
        refine Ent.can [] _ _ _ rfl (by first | decide | simp) rfl ?_ ?_ ?_
        · exact RF.any
        · exact .nil _
        · exact .nil _
    · intro e st' hX
      rcases y18 with y19 | _ <;> dsimp only at h hX
      · obtain ⟨rfl, hf⟩ := hX
        refine ⟨_, Ent.refl, ?_⟩
        refine block_r ?_
        refine thenA_r ?_
        obtain rfl := Option.some.inj h
        exact hf
      · obtain ⟨rfl, rfl⟩ := hX
        refine ⟨_, Ent.refl, ?_⟩
        refine block_x ?_
        refine thenA_n ?_
        refine AW.regL [4] ?_
        generalize hK : AW Tryd.prog _ _ _ = K
        simp only [go_sem, ↓reduceIte, reduceCtorEq, Nat.reduceAdd, Nat.reduceSub, Nat.reduceMul, Nat.reduceEqDiff, Nat.reduceLT, Nat.reduceLeDiff, Nat.reduceBEq, Int.reduceAdd, Int.reduceSub, Int.reduceLT, Int.reduceLE, Int.reduceEq, Int.reduceToNat, eq_true c2]
        subst hK
        refine AW.ret ?_
        obtain rfl := Option.some.inj h
        (simp only [go_sem, ↓reduceIte, reduceCtorEq, Nat.reduceAdd, Nat.reduceSub, Nat.reduceMul, Nat.reduceEqDiff, Nat.reduceLT, Nat.reduceLeDiff, Nat.reduceBEq, Int.reduceAdd, Int.reduceSub, Int.reduceLT, Int.reduceLE, Int.reduceEq, Int.reduceToNat, eq_true c2, finA, resA, resOf_1, resOf_2, sealV_val, sealV_sl, sealV_ip, sealV_agg, sealV_tup, sealV_own, sealL_nil, sealL_cons, sealV_clo, resOf_clo] <;> try simp)
  · rw [if_neg c2] at h
    refine AW.ifT rfl c2 ?_
    refine AW.regL [4] ?_
    generalize hK : AW Tryd.prog _ _ _ = K
    simp only [go_sem, ↓reduceIte, reduceCtorEq, Nat.reduceAdd, Nat.reduceSub, Nat.reduceMul, Nat.reduceEqDiff, Nat.reduceLT, Nat.reduceLeDiff, Nat.reduceBEq, Int.reduceAdd, Int.reduceSub, Int.reduceLT, Int.reduceLE, Int.reduceEq, Int.reduceToNat, eq_false c2]
    subst hK
    refine AW.ret ?_
    refine thenA_r ?_
    obtain rfl := Option.some.inj h
    (simp only [go_sem, ↓reduceIte, reduceCtorEq, Nat.reduceAdd, Nat.reduceSub, Nat.reduceMul, Nat.reduceEqDiff, Nat.reduceLT, Nat.reduceLeDiff, Nat.reduceBEq, Int.reduceAdd, Int.reduceSub, Int.reduceLT, Int.reduceLE, Int.reduceEq, Int.reduceToNat, eq_false c2, finA, resA, resOf_1, resOf_2, sealV_val, sealV_sl, sealV_ip, sealV_agg, sealV_tup, sealV_own, sealL_nil, sealL_cons, sealV_clo, resOf_clo] <;> try simp)
end Au
end Go.Proofs.Yd
