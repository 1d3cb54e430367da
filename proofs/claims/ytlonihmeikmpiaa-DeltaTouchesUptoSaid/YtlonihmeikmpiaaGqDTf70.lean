import Derived.Test.YtlonihmeikmpiaaGqDT
set_option linter.all false
set_option linter.unusedVariables false
set_option linter.unusedSimpArgs false
set_option linter.all false
set_option maxRecDepth 8000
set_option maxHeartbeats 1000000
namespace Go.Proofs.Y1
open Go.Gm
namespace Au
noncomputable def f70_s1 (a0 : ByteArray) (a1 : ByteArray) : Int → Option (Int ⊕ (Bool ⊕ Unit))
  | s1_0 => (if s1_0 < (a0.size : Int) then (if s1_0 < (a1.size : Int) then ((ix (bl a0) s1_0).bind fun x19 => ((ix (bl a1) s1_0).bind fun x20 => (if (x19.toNat : Int) = (x20.toNat : Int) then some (.inl (IntKind.i64.wrap (s1_0 + 1))) else some (.inr (.inl (decide ((x19.toNat : Int) < (x20.toNat : Int)))))))) else some (.inr (.inr ()))) else some (.inr (.inr ())))
noncomputable def f70 (a0 : ByteArray) (a1 : ByteArray) : Option Bool := ((loopO (f70_s1 a0 a1) 0).bind fun y22 => match y22 with | .inl y23 => some y23 | .inr _ => some (decide ((a0.size : Int) < (a1.size : Int))))
theorem ok70 (a0 : ByteArray) (a1 : ByteArray) (r : Bool) (h : f70 a0 a1 = some r) : PC Try.prog 70 [.val (.string a0), .val (.string a1)] (.val (.bool r)) := by
  rw [f70] at h
  refine pc_of8 (N := 37) (rs := [.tmp 4]) Try.func70 rfl rfl rfl (Nat.le_of_ble_eq_true rfl) ?_
  refine AW.regL [0, 1] ?_
  generalize hK : AW Try.prog _ _ _ = K
  simp only [go_sem, ↓reduceIte, reduceCtorEq, Nat.reduceAdd, Nat.reduceSub, Nat.reduceMul, Nat.reduceEqDiff, Nat.reduceLT, Nat.reduceLeDiff, Nat.reduceBEq, Int.reduceAdd, Int.reduceSub, Int.reduceLT, Int.reduceLE, Int.reduceEq, Int.reduceToNat]
  subst hK
  refine AW.seq ?_
  refine AW.regL [0, 1, 5] ?_
  generalize hK : AW Try.prog _ _ _ = K
  simp only [go_sem, ↓reduceIte, reduceCtorEq, Nat.reduceAdd, Nat.reduceSub, Nat.reduceMul, Nat.reduceEqDiff, Nat.reduceLT, Nat.reduceLeDiff, Nat.reduceBEq, Int.reduceAdd, Int.reduceSub, Int.reduceLT, Int.reduceLE, Int.reduceEq, Int.reduceToNat]
  subst hK
  refine AW.block ?_
  obtain ⟨y22, hy22, h⟩ := Option.bind_eq_some_iff.1 h
  refine AW.loopO (fun s => ⟨(upd (upd (upd anyF 0 (.val (.string a0))) 1 (.val (.string a1))) 5 (.val (.int .i64 s))), hpL [] [], 8⟩) (fun y e st' => match y with | .inl z => e = Exit.ret ∧ finA Try.prog [.tmp 4] (.val (.bool z)) .ret st' | .inr z => e = Exit.exit 0 ∧ st' = ⟨(upd (upd anyF 0 (.val (.string a0))) 1 (.val (.string a1))), hpL [] [], 8⟩) hy22 ?_ ?_ ?_
  · refine Ent.can [] _ _ _ rfl (by first | decide | simp) rfl ?_ ?_ ?_
    · exact (((RF.any.pv (by first | rfl | simp only [go_sem]) (by first | rfl | simp [upd_ap, hpL_ap, tau, mapT, mapTL, bytesI_len])).pv (by first | rfl | simp only [go_sem]) (by first | rfl | simp [upd_ap, hpL_ap, tau, mapT, mapTL, bytesI_len])).pv (by first | rfl | simp only [go_sem]) (by first | rfl | simp [upd_ap, hpL_ap, tau, mapT, mapTL, bytesI_len]))
    · exact .nil _
    · exact .nil _
  · clear h hy22
    rintro s1_0 x h
    rw [f70_s1] at h
    refine AW.seq ?_
    by_cases c17 : s1_0 < (a0.size : Int)
    · rw [if_pos c17] at h
      refine AW.regL [0, 1, 5, 15] ?_
      generalize hK : AW Try.prog _ _ _ = K
      simp only [go_sem, ↓reduceIte, reduceCtorEq, Nat.reduceAdd, Nat.reduceSub, Nat.reduceMul, Nat.reduceEqDiff, Nat.reduceLT, Nat.reduceLeDiff, Nat.reduceBEq, Int.reduceAdd, Int.reduceSub, Int.reduceLT, Int.reduceLE, Int.reduceEq, Int.reduceToNat, eq_true c17]
      subst hK
      by_cases c18 : s1_0 < (a1.size : Int)
      · rw [if_pos c18] at h
        refine AW.ifT rfl c18 ?_
        refine AW.skip ?_
        refine thenA_n ?_
        refine AW.seq ?_
        refine AW.block ?_
        obtain ⟨x19, hx19, h⟩ := Option.bind_eq_some_iff.1 h
        obtain ⟨hx19a, hx19b⟩ := ix_some.1 hx19
        obtain ⟨x20, hx20, h⟩ := Option.bind_eq_some_iff.1 h
        obtain ⟨hx20a, hx20b⟩ := ix_some.1 hx20
        refine AW.regdL [0, 1, 5, 24] [[], [], [0, 1], [], [], [3, 4], [0, 1, 2, 3, 4, 5]] [0, 1, 2, 3, 4, 5, 6] noFt (fun _ _ _ h => by simp [noFt] at h) draws (by kernel_rfl) (by kernel_rfl) ?_
        generalize hK : AW Try.prog _ _ _ = K
        simp only [go_sem, ↓reduceIte, reduceCtorEq, Nat.reduceAdd, Nat.reduceSub, Nat.reduceMul, Nat.reduceEqDiff, Nat.reduceLT, Nat.reduceLeDiff, Nat.reduceBEq, Int.reduceAdd, Int.reduceSub, Int.reduceLT, Int.reduceLE, Int.reduceEq, Int.reduceToNat, eq_true c17, eq_true c18, idxO_some st9 hx19a hx19b, idxO_some st9 hx20a hx20b]
        subst hK
        by_cases c21 : (x19.toNat : Int) = (x20.toNat : Int)
        · rw [if_pos c21] at h
          refine AW.ifF rfl (fun q => q c21) ?_
          refine AW.skip ?_
          refine block_n ?_
          refine thenA_n ?_
          refine AW.regionL [0, 1, 5] ?_
          generalize hK : thenA _ _ Exit.normal = K
          simp only [go_sem, ↓reduceIte, reduceCtorEq, Nat.reduceAdd, Nat.reduceSub, Nat.reduceMul, Nat.reduceEqDiff, Nat.reduceLT, Nat.reduceLeDiff, Nat.reduceBEq, Int.reduceAdd, Int.reduceSub, Int.reduceLT, Int.reduceLE, Int.reduceEq, Int.reduceToNat, eq_true c17, eq_true c18, eq_true c21]
          subst hK
          refine thenA_n ?_
          refine ⟨_, (Option.some.inj h).symm, ?_⟩
          refine Ent.can [] _ _ _ rfl (by first | decide | simp) rfl ?_ ?_ ?_
          · exact (((RF.any.pv (by first | rfl | simp only [go_sem]) (by first | rfl | simp [upd_ap, hpL_ap, tau, mapT, mapTL, bytesI_len, eq_true c17, eq_true c18, eq_true c21])).pv (by first | rfl | simp only [go_sem]) (by first | rfl | simp [upd_ap, hpL_ap, tau, mapT, mapTL, bytesI_len, eq_true c17, eq_true c18, eq_true c21])).pv (by first | rfl | simp only [go_sem]) (by first | rfl | simp [upd_ap, hpL_ap, tau, mapT, mapTL, bytesI_len, eq_true c17, eq_true c18, eq_true c21]))
          · exact .nil _
          · exact .nil _
        · rw [if_neg c21] at h
          refine AW.ifT rfl c21 ?_
          refine AW.regdL [4] [[], [], [0, 1], [], [], [3, 4], [0, 1, 2, 3, 4, 5], [0, 1, 2, 3, 4, 5, 6]] [0, 1, 2, 3, 4, 5, 6, 7] noFt (fun _ _ _ h => by simp [noFt] at h) draws (by kernel_rfl) (by kernel_rfl) ?_
          generalize hK : AW Try.prog _ _ _ = K
          simp only [go_sem, ↓reduceIte, reduceCtorEq, Nat.reduceAdd, Nat.reduceSub, Nat.reduceMul, Nat.reduceEqDiff, Nat.reduceLT, Nat.reduceLeDiff, Nat.reduceBEq, Int.reduceAdd, Int.reduceSub, Int.reduceLT, Int.reduceLE, Int.reduceEq, Int.reduceToNat, eq_true c17, eq_true c18, eq_false c21, idxO_some st9 hx19a hx19b, idxO_some st9 hx20a hx20b]
          subst hK
          refine AW.ret ?_
          refine block_r ?_
          refine thenA_r ?_
          refine thenA_r ?_
          refine ⟨_, (Option.some.inj h).symm, _, Ent.refl, rfl, ?_⟩
          (simp only [go_sem, ↓reduceIte, reduceCtorEq, Nat.reduceAdd, Nat.reduceSub, Nat.reduceMul, Nat.reduceEqDiff, Nat.reduceLT, Nat.reduceLeDiff, Nat.reduceBEq, Int.reduceAdd, Int.reduceSub, Int.reduceLT, Int.reduceLE, Int.reduceEq, Int.reduceToNat, eq_true c17, eq_true c18, eq_false c21, finA, resA, resOf_1, resOf_2, sealV_val, sealV_sl, sealV_ip, sealV_agg, sealV_tup, sealV_own, sealL_nil, sealL_cons] <;> try simp)
      · rw [if_neg c18] at h
        refine AW.ifF rfl c18 ?_
        refine AW.exit ?_
        refine thenA_x ?_
        refine thenA_x ?_
        refine ⟨_, (Option.some.inj h).symm, _, ?_, rfl, rfl⟩
        refine Ent.can [] _ _ _ rfl (by first | decide | simp) rfl ?_ ?_ ?_
        · exact ((RF.any.pv (by first | rfl | simp only [go_sem]) (by first | rfl | simp [upd_ap, hpL_ap, tau, mapT, mapTL, bytesI_len, eq_true c17, eq_false c18])).pv (by first | rfl | simp only [go_sem]) (by first | rfl | simp [upd_ap, hpL_ap, tau, mapT, mapTL, bytesI_len, eq_true c17, eq_false c18]))
        · exact .nil _
        · exact .nil _
    · rw [if_neg c17] at h
      refine AW.regL [0, 1, 5, 15] ?_
      generalize hK : AW Try.prog _ _ _ = K
      simp only [go_sem, ↓reduceIte, reduceCtorEq, Nat.reduceAdd, Nat.reduceSub, Nat.reduceMul, Nat.reduceEqDiff, Nat.reduceLT, Nat.reduceLeDiff, Nat.reduceBEq, Int.reduceAdd, Int.reduceSub, Int.reduceLT, Int.reduceLE, Int.reduceEq, Int.reduceToNat, eq_false c17]
      subst hK
      refine AW.ifBF rfl rfl ?_
      refine AW.exit ?_
      refine thenA_x ?_
      refine thenA_x ?_
      refine ⟨_, (Option.some.inj h).symm, _, ?_, rfl, rfl⟩
      refine Ent.can [] _ _ _ rfl (by first | decide | simp) rfl ?_ ?_ ?_
      · exact ((RF.any.pv (by first | rfl | simp only [go_sem]) (by first | rfl | simp [upd_ap, hpL_ap, tau, mapT, mapTL, bytesI_len, eq_false c17])).pv (by first | rfl | simp only [go_sem]) (by first | rfl | simp [upd_ap, hpL_ap, tau, mapT, mapTL, bytesI_len, eq_false c17]))
      · exact .nil _
      · exact .nil _
  · intro e st' hX
    rcases y22 with y23 | _ <;> dsimp only at h hX
    · obtain ⟨rfl, hf⟩ := hX
      refine ⟨_, Ent.refl, ?_⟩
      refine block_r ?_
      refine thenA_r ?_
      obtain rfl := Option.some.inj h
      exact hf
    · obtain ⟨rfl, rfl⟩ := hX
      refine ⟨_, Ent.refl, ?_⟩
      refine block_x ?_
      refine thenA_n ?_
      refine AW.regL [4] ?_
      generalize hK : AW Try.prog _ _ _ = K
      simp only [go_sem, ↓reduceIte, reduceCtorEq, Nat.reduceAdd, Nat.reduceSub, Nat.reduceMul, Nat.reduceEqDiff, Nat.reduceLT, Nat.reduceLeDiff, Nat.reduceBEq, Int.reduceAdd, Int.reduceSub, Int.reduceLT, Int.reduceLE, Int.reduceEq, Int.reduceToNat]
      subst hK
      refine AW.ret ?_
      obtain rfl := Option.some.inj h
      (simp only [go_sem, ↓reduceIte, reduceCtorEq, Nat.reduceAdd, Nat.reduceSub, Nat.reduceMul, Nat.reduceEqDiff, Nat.reduceLT, Nat.reduceLeDiff, Nat.reduceBEq, Int.reduceAdd, Int.reduceSub, Int.reduceLT, Int.reduceLE, Int.reduceEq, Int.reduceToNat, finA, resA, resOf_1, resOf_2, sealV_val, sealV_sl, sealV_ip, sealV_agg, sealV_tup, sealV_own, sealL_nil, sealL_cons] <;> try simp)
end Au
end Go.Proofs.Y1
