import Derived.Test.YtlonihmeikmpiaaGqDT
import Derived.Test.YtlonihmeikmpiaaGqDTf100
set_option linter.all false
set_option linter.unusedVariables false
set_option linter.unusedSimpArgs false
set_option linter.all false
set_option maxRecDepth 8000
set_option maxHeartbeats 1000000
namespace Go.Proofs.Y1
open Go.Gm
namespace Au
noncomputable def f99_100_s1 (a0 : List Item) (c1_0 : Item) : Int → Option (Int ⊕ (Int ⊕ Unit))
  | s1_0 => (if s1_0 < (a0.length : Int) then ((ix a0 s1_0).bind fun x16 => ((f100 x16 c1_0).bind fun x17 => (if x17 = true then some (.inr (.inl s1_0)) else some (.inl (IntKind.i64.wrap (s1_0 + 1)))))) else some (.inr (.inr ())))
noncomputable def f99_100 (a0 : List Item) (c1_0 : Item) : Option Int := ((loopO (f99_100_s1 a0 c1_0) 0).bind fun y19 => match y19 with | .inl y20 => some y20 | .inr _ => some (-1))
theorem ok99_100 (a0 : List Item) (c1_0 : Item) (r : Int) (h : f99_100 a0 c1_0 = some r) : PC Try.prog 99 [.sl (List.map encItem a0), .clo (.func 100) [] [.ip [.val (.string c1_0.Key), .sl (List.map encPart c1_0.Parts), .sl (List.map enc3 c1_0.Offs)]]] (.val (.int .i64 r)) := by
  rw [f99_100] at h
  refine pc_of8 (N := 19) (rs := [.tmp 4]) Try.func99 rfl rfl rfl (Nat.le_of_ble_eq_true rfl) ?_
  refine AW.regL [0, 1] ?_
  generalize hK : AW Try.prog _ _ _ = K
  simp only [go_sem, ↓reduceIte, reduceCtorEq, Nat.reduceAdd, Nat.reduceSub, Nat.reduceMul, Nat.reduceEqDiff, Nat.reduceLT, Nat.reduceLeDiff, Nat.reduceBEq, Int.reduceAdd, Int.reduceSub, Int.reduceLT, Int.reduceLE, Int.reduceEq, Int.reduceToNat]
  subst hK
  refine AW.seq ?_
  refine AW.regL [0, 1, 7, 8] ?_
  generalize hK : AW Try.prog _ _ _ = K
  simp only [go_sem, ↓reduceIte, reduceCtorEq, Nat.reduceAdd, Nat.reduceSub, Nat.reduceMul, Nat.reduceEqDiff, Nat.reduceLT, Nat.reduceLeDiff, Nat.reduceBEq, Int.reduceAdd, Int.reduceSub, Int.reduceLT, Int.reduceLE, Int.reduceEq, Int.reduceToNat]
  subst hK
  refine AW.block ?_
  obtain ⟨y19, hy19, h⟩ := Option.bind_eq_some_iff.1 h
  refine AW.loopO (fun s => ⟨(upd (upd (upd (upd anyF 0 (.sl (List.map encItem a0))) 1 (.clo (.func 100) [] [.ip [.val (.string c1_0.Key), .sl (List.map encPart c1_0.Parts), .sl (List.map enc3 c1_0.Offs)]])) 7 (.val (.int .i64 (a0.length : Int)))) 8 (.val (.int .i64 s))), hpL [] [], 8⟩) (fun y e st' => match y with | .inl z => e = Exit.ret ∧ finA Try.prog [.tmp 4] (.val (.int .i64 z)) .ret st' | .inr z => e = Exit.exit 0 ∧ st' = ⟨anyF, hpL [] [], 8⟩) hy19 ?_ ?_ ?_
  · refine Ent.can [] _ _ _ rfl (by first | decide | simp) rfl ?_ ?_ ?_
    · exact ((((RF.any.pv (by first | rfl | simp only [go_sem]) (by first | rfl | simp [upd_ap, hpL_ap, tau, mapT, mapTL, bytesI_len])).put (by first | (simp [tokL, tokLL, inlR]; done) | simp [go_sem, tokL, tokLL]) (.of (by first | rfl | simp [upd_ap, hpL_ap, tau, mapT, mapTL, bytesI_len]))).pv (by first | rfl | simp only [go_sem]) (by first | rfl | simp [upd_ap, hpL_ap, tau, mapT, mapTL, bytesI_len])).pv (by first | rfl | simp only [go_sem]) (by first | rfl | simp [upd_ap, hpL_ap, tau, mapT, mapTL, bytesI_len]))
    · exact .nil _
    · exact .nil _
  · clear h hy19
    rintro s1_0 x h
    rw [f99_100_s1] at h
    refine AW.regL [0, 1, 7, 8, 9] ?_
    generalize hK : AW Try.prog _ _ _ = K
    simp only [go_sem, ↓reduceIte, reduceCtorEq, Nat.reduceAdd, Nat.reduceSub, Nat.reduceMul, Nat.reduceEqDiff, Nat.reduceLT, Nat.reduceLeDiff, Nat.reduceBEq, Int.reduceAdd, Int.reduceSub, Int.reduceLT, Int.reduceLE, Int.reduceEq, Int.reduceToNat]
    subst hK
    refine AW.seq ?_
    by_cases c15 : s1_0 < (a0.length : Int)
    · rw [if_pos c15] at h
      refine AW.ifT rfl c15 ?_
      refine AW.skip ?_
      refine thenA_n ?_
      refine AW.seq ?_
      refine AW.block ?_
      refine AW.regL [0, 1, 5, 7, 8] ?_
      generalize hK : AW Try.prog _ _ _ = K
      simp only [go_sem, ↓reduceIte, reduceCtorEq, Nat.reduceAdd, Nat.reduceSub, Nat.reduceMul, Nat.reduceEqDiff, Nat.reduceLT, Nat.reduceLeDiff, Nat.reduceBEq, Int.reduceAdd, Int.reduceSub, Int.reduceLT, Int.reduceLE, Int.reduceEq, Int.reduceToNat, eq_true c15]
      subst hK
      obtain ⟨x16, hx16, h⟩ := Option.bind_eq_some_iff.1 h
      obtain ⟨hx16a, hx16b⟩ := ix_some.1 hx16
      obtain ⟨x17, hx17, h⟩ := Option.bind_eq_some_iff.1 h
      refine AW.regL [0, 1, 5, 7, 8, 16] ?_
      generalize hK : AW Try.prog _ _ _ = K
      simp only [go_sem, ↓reduceIte, reduceCtorEq, Nat.reduceAdd, Nat.reduceSub, Nat.reduceMul, Nat.reduceEqDiff, Nat.reduceLT, Nat.reduceLeDiff, Nat.reduceBEq, Int.reduceAdd, Int.reduceSub, Int.reduceLT, Int.reduceLE, Int.reduceEq, Int.reduceToNat, eq_true c15, natOf_le hx16a, hx16b]
      refine arC.of (ok100 x16 c1_0 x17 hx17) Try.call100 ?_
      simp only [go_sem, ↓reduceIte, reduceCtorEq, Nat.reduceAdd, Nat.reduceSub, Nat.reduceMul, Nat.reduceEqDiff, Nat.reduceLT, Nat.reduceLeDiff, Nat.reduceBEq, Int.reduceAdd, Int.reduceSub, Int.reduceLT, Int.reduceLE, Int.reduceEq, Int.reduceToNat, eq_true c15, natOf_le hx16a, hx16b]
      subst hK
      by_cases c18 : x17 = true
      · rw [if_pos c18] at h
        refine AW.ifBT rfl c18 ?_
        refine AW.regL [4] ?_
        generalize hK : AW Try.prog _ _ _ = K
        simp only [go_sem, ↓reduceIte, reduceCtorEq, Nat.reduceAdd, Nat.reduceSub, Nat.reduceMul, Nat.reduceEqDiff, Nat.reduceLT, Nat.reduceLeDiff, Nat.reduceBEq, Int.reduceAdd, Int.reduceSub, Int.reduceLT, Int.reduceLE, Int.reduceEq, Int.reduceToNat, eq_true c15, c18]
        subst hK
        refine AW.ret ?_
        refine block_r ?_
        refine thenA_r ?_
        refine thenA_r ?_
        refine ⟨_, (Option.some.inj h).symm, _, Ent.refl, rfl, ?_⟩
        (simp only [go_sem, ↓reduceIte, reduceCtorEq, Nat.reduceAdd, Nat.reduceSub, Nat.reduceMul, Nat.reduceEqDiff, Nat.reduceLT, Nat.reduceLeDiff, Nat.reduceBEq, Int.reduceAdd, Int.reduceSub, Int.reduceLT, Int.reduceLE, Int.reduceEq, Int.reduceToNat, eq_true c15, c18, finA, resA, resOf_1, resOf_2, sealV_val, sealV_sl, sealV_ip, sealV_agg, sealV_tup, sealV_own, sealL_nil, sealL_cons] <;> try simp)
      · rw [if_neg c18] at h
        rw [Bool.not_eq_true] at c18
        refine AW.ifBF rfl c18 ?_
        refine AW.skip ?_
        refine block_n ?_
        refine thenA_n ?_
        refine AW.regionL [0, 1, 7, 8] ?_
        generalize hK : thenA _ _ Exit.normal = K
        simp only [go_sem, ↓reduceIte, reduceCtorEq, Nat.reduceAdd, Nat.reduceSub, Nat.reduceMul, Nat.reduceEqDiff, Nat.reduceLT, Nat.reduceLeDiff, Nat.reduceBEq, Int.reduceAdd, Int.reduceSub, Int.reduceLT, Int.reduceLE, Int.reduceEq, Int.reduceToNat, eq_true c15, c18]
        subst hK
        refine thenA_n ?_
        refine ⟨_, (Option.some.inj h).symm, ?_⟩
        refine Ent.can [] _ _ _ rfl (by first | decide | simp) rfl ?_ ?_ ?_
        · exact ((((RF.any.pv (by first | rfl | simp only [go_sem]) (by first | rfl | simp [upd_ap, hpL_ap, tau, mapT, mapTL, bytesI_len, eq_true c15, c18])).put (by first | (simp [tokL, tokLL, inlR]; done) | simp [go_sem, tokL, tokLL]) (.of (by first | rfl | simp [upd_ap, hpL_ap, tau, mapT, mapTL, bytesI_len, eq_true c15, c18]))).pv (by first | rfl | simp only [go_sem]) (by first | rfl | simp [upd_ap, hpL_ap, tau, mapT, mapTL, bytesI_len, eq_true c15, c18])).pv (by first | rfl | simp only [go_sem]) (by first | rfl | simp [upd_ap, hpL_ap, tau, mapT, mapTL, bytesI_len, eq_true c15, c18]))
        · exact .nil _
        · exact .nil _
    · rw [if_neg c15] at h
      refine AW.ifF rfl c15 ?_
      refine AW.exit ?_
      refine thenA_x ?_
      refine thenA_x ?_
      refine ⟨_, (Option.some.inj h).symm, _, ?_, rfl, rfl⟩
      refine Ent.can [] _ _ _ rfl (by first | decide | simp) rfl ?_ ?_ ?_
      · exact RF.any
      · exact .nil _
      · exact .nil _
  · intro e st' hX
    rcases y19 with y20 | _ <;> dsimp only at h hX
    · obtain ⟨rfl, hf⟩ := hX
      refine ⟨_, Ent.refl, ?_⟩
      refine block_r ?_
      refine thenA_r ?_
      obtain rfl := Option.some.inj h
      exact hf
    · obtain ⟨rfl, rfl⟩ := hX
      refine ⟨_, Ent.refl, ?_⟩
      refine block_x ?_
      refine thenA_n ?_
      refine AW.regL [4] ?_
      generalize hK : AW Try.prog _ _ _ = K
      simp only [go_sem, ↓reduceIte, reduceCtorEq, Nat.reduceAdd, Nat.reduceSub, Nat.reduceMul, Nat.reduceEqDiff, Nat.reduceLT, Nat.reduceLeDiff, Nat.reduceBEq, Int.reduceAdd, Int.reduceSub, Int.reduceLT, Int.reduceLE, Int.reduceEq, Int.reduceToNat]
      subst hK
      refine AW.ret ?_
      obtain rfl := Option.some.inj h
      (simp only [go_sem, ↓reduceIte, reduceCtorEq, Nat.reduceAdd, Nat.reduceSub, Nat.reduceMul, Nat.reduceEqDiff, Nat.reduceLT, Nat.reduceLeDiff, Nat.reduceBEq, Int.reduceAdd, Int.reduceSub, Int.reduceLT, Int.reduceLE, Int.reduceEq, Int.reduceToNat, finA, resA, resOf_1, resOf_2, sealV_val, sealV_sl, sealV_ip, sealV_agg, sealV_tup, sealV_own, sealL_nil, sealL_cons] <;> try simp)
end Au
end Go.Proofs.Y1
