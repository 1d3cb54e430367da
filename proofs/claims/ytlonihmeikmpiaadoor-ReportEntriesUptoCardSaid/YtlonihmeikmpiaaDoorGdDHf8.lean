import Derived.Test.YtlonihmeikmpiaaDoorGdDH
import Derived.Test.YtlonihmeikmpiaaDoorGdDHf25
import Derived.Test.YtlonihmeikmpiaaDoorGdDHf20
import Derived.Test.YtlonihmeikmpiaaDoorGdDHf26
set_option linter.all false
set_option linter.unusedVariables false
set_option linter.unusedSimpArgs false
set_option linter.all false
set_option maxRecDepth 8000
set_option maxHeartbeats 1000000
namespace Go.Proofs.Yd
open Go.Gm
namespace Au
noncomputable def f8_s1 : (List Int) × (List ByteArray) → Option (((List Int) × (List ByteArray)) ⊕ (List ByteArray))
  | (s1_0, s1_1) => (if 0 < (s1_0.length : Int) then ((f25 s1_0).bind fun x50 => (if x50 < 3 then ((s1_0[0]?).bind fun x57 => ((f20 x57).bind fun x58 => ((appO? s1_1 [x58]).bind fun x59 => ((cutO? s1_0 1 (s1_0.length : Int)).bind fun x60 => some (.inl (x60, x59)))))) else ((s1_0[0]?).bind fun x61 => ((f20 x61).bind fun x62 => ((catO x62 ⟨#[46, 46]⟩).bind fun x63 => ((ix s1_0 (IntKind.i64.wrap (x50 - 1))).bind fun x64 => ((f20 x64).bind fun x65 => ((catO x63 x65).bind fun x66 => ((catO x66 ⟨#[47]⟩).bind fun x67 => ((s1_0[1]?).bind fun x68 => ((f20 (IntKind.i64.wrap (x68 - x61))).bind fun x69 => ((catO x67 x69).bind fun x70 => ((appO? s1_1 [x70]).bind fun x71 => ((cutO? s1_0 x50 (s1_0.length : Int)).bind fun x72 => some (.inl (x72, x71)))))))))))))))) else some (.inr s1_1))
noncomputable def f8 (a0 : List Int) : Option ByteArray := ((loopO f8_s1 (a0, [])).bind fun y74 => ((f26 y74 ⟨#[44]⟩).bind fun x75 => some x75))
theorem ok8 (a0 : List Int) (r : ByteArray) (h : f8 a0 = some r) : PC Tryd.prog 8 [.sl (List.map enc3 a0)] (.val (.string r)) := by
  rw [f8] at h
  refine pc_of8 (N := 51) (rs := [.tmp 2]) Tryd.func8 rfl rfl rfl (Nat.le_of_ble_eq_true rfl) ?_
  refine AW.regL [0] ?_
  generalize hK : AW Tryd.prog _ _ _ = K
  simp only [go_sem, ↓reduceIte, reduceCtorEq, Nat.reduceAdd, Nat.reduceSub, Nat.reduceMul, Nat.reduceEqDiff, Nat.reduceLT, Nat.reduceLeDiff, Nat.reduceBEq, Int.reduceAdd, Int.reduceSub, Int.reduceLT, Int.reduceLE, Int.reduceEq, Int.reduceToNat]
  subst hK
  refine AW.regL [0, 3] ?_
  generalize hK : AW Tryd.prog _ _ _ = K
  simp only [go_sem, ↓reduceIte, reduceCtorEq, Nat.reduceAdd, Nat.reduceSub, Nat.reduceMul, Nat.reduceEqDiff, Nat.reduceLT, Nat.reduceLeDiff, Nat.reduceBEq, Int.reduceAdd, Int.reduceSub, Int.reduceLT, Int.reduceLE, Int.reduceEq, Int.reduceToNat]
  subst hK
  refine AW.seq ?_
  refine AW.block ?_
  obtain ⟨y74, hy74, h⟩ := Option.bind_eq_some_iff.1 h
  refine AW.loopO (fun s => ⟨(upd (upd anyF 0 (.sl (List.map enc3 s.1))) 3 (.own 8 0 s.2.length)), hpL [] [some (.row 1 true (List.map enc9 s.2))], 9⟩) (fun z e st' => e = Exit.exit 0 ∧ st' = ⟨(upd anyF 3 (.own 8 0 z.length)), hpL [] [some (.row 1 true (List.map enc9 z))], 9⟩) hy74 ?_ ?_ ?_
  · refine Ent.trans (Ent.nilOwn 3 1 (by decide) rfl) ?_
    refine Ent.can [24] _ _ _ rfl (by first | decide | simp) rfl ?_ ?_ ?_
    · exact ((RF.any.pv (by first | rfl | simp only [go_sem]) (by first | rfl | simp [upd_ap, hpL_ap, tau, mapT, mapTL, bytesI_len])).po (by decide) (by first | rfl | simp [upd_ap, hpL_ap, tau, mapT, mapTL, bytesI_len]))
    · exact .nil _
    · exact .cons (.eq (by first | rfl | simp only [go_sem]) (by first | rfl | simp [upd_ap, hpL_ap, tau, mapT, mapTL, bytesI_len])) (.nil _)
  · clear h hy74
    rintro ⟨s1_0, s1_1⟩ x h
    rw [f8_s1] at h
    refine AW.seq ?_
    refine AW.regL [0, 3, 7] ?_
    generalize hK : AW Tryd.prog _ _ _ = K
    simp only [go_sem, ↓reduceIte, reduceCtorEq, Nat.reduceAdd, Nat.reduceSub, Nat.reduceMul, Nat.reduceEqDiff, Nat.reduceLT, Nat.reduceLeDiff, Nat.reduceBEq, Int.reduceAdd, Int.reduceSub, Int.reduceLT, Int.reduceLE, Int.reduceEq, Int.reduceToNat]
    subst hK
    by_cases c49 : 0 < (s1_0.length : Int)
    · rw [if_pos c49] at h
      refine AW.ifT rfl c49 ?_
      refine AW.skip ?_
      refine thenA_n ?_
      refine AW.block ?_
      obtain ⟨x50, hx50, h⟩ := Option.bind_eq_some_iff.1 h
      refine AW.regL [0, 3, 4] ?_
      generalize hK : AW Tryd.prog _ _ _ = K
      simp only [go_sem, ↓reduceIte, reduceCtorEq, Nat.reduceAdd, Nat.reduceSub, Nat.reduceMul, Nat.reduceEqDiff, Nat.reduceLT, Nat.reduceLeDiff, Nat.reduceBEq, Int.reduceAdd, Int.reduceSub, Int.reduceLT, Int.reduceLE, Int.reduceEq, Int.reduceToNat, eq_true c49]
      refine arC.of (ok25 s1_0 x50 hx50) Tryd.call25 ?_
      simp only [go_sem, ↓reduceIte, reduceCtorEq, Nat.reduceAdd, Nat.reduceSub, Nat.reduceMul, Nat.reduceEqDiff, Nat.reduceLT, Nat.reduceLeDiff, Nat.reduceBEq, Int.reduceAdd, Int.reduceSub, Int.reduceLT, Int.reduceLE, Int.reduceEq, Int.reduceToNat, eq_true c49]
      subst hK
      refine AW.seq ?_
      refine AW.regL [0, 3, 4, 11] ?_
      generalize hK : AW Tryd.prog _ _ _ = K
      simp only [go_sem, ↓reduceIte, reduceCtorEq, Nat.reduceAdd, Nat.reduceSub, Nat.reduceMul, Nat.reduceEqDiff, Nat.reduceLT, Nat.reduceLeDiff, Nat.reduceBEq, Int.reduceAdd, Int.reduceSub, Int.reduceLT, Int.reduceLE, Int.reduceEq, Int.reduceToNat, eq_true c49]
      subst hK
      by_cases c56 : x50 < 3
      · rw [if_pos c56] at h
        refine AW.ifT rfl c56 ?_
        obtain ⟨x57, hx57, h⟩ := Option.bind_eq_some_iff.1 h
        obtain ⟨x58, hx58, h⟩ := Option.bind_eq_some_iff.1 h
        obtain ⟨x59, hx59, h⟩ := Option.bind_eq_some_iff.1 h
        obtain ⟨hx59b, hx59e⟩ := appO?_some.1 hx59
        have hx59f : ∀ id o : Nat, appO 1 16 id ([[.val (.string x58)]]) 0 s1_1.length o (some (.row 1 true (List.map enc9 s1_1))) = some ⟨.own id 0 x59.length, [(o, none), (id, some (.row 1 true (List.map enc9 x59)))]⟩ := fun id o => by
          subst hx59e; rw [appO_ok (by simp) (by simpa using hx59b) (by decide)]; first | (simp [enc9]; done) | (simp [enc9]; omega)
        refine AW.regL [0, 3] ?_
        generalize hK : AW Tryd.prog _ _ _ = K
        simp only [go_sem, ↓reduceIte, reduceCtorEq, Nat.reduceAdd, Nat.reduceSub, Nat.reduceMul, Nat.reduceEqDiff, Nat.reduceLT, Nat.reduceLeDiff, Nat.reduceBEq, Int.reduceAdd, Int.reduceSub, Int.reduceLT, Int.reduceLE, Int.reduceEq, Int.reduceToNat, eq_true c49, eq_true c56, hx57, hx59f]
        refine arC.of (ok20 x57 x58 hx58) Tryd.call20 ?_
        simp only [go_sem, ↓reduceIte, reduceCtorEq, Nat.reduceAdd, Nat.reduceSub, Nat.reduceMul, Nat.reduceEqDiff, Nat.reduceLT, Nat.reduceLeDiff, Nat.reduceBEq, Int.reduceAdd, Int.reduceSub, Int.reduceLT, Int.reduceLE, Int.reduceEq, Int.reduceToNat, eq_true c49, eq_true c56, hx57, hx59f]
        subst hK
        obtain ⟨x60, hx60, h⟩ := Option.bind_eq_some_iff.1 h
        refine AW.regL [0, 3] ?_
        generalize hK : AW Tryd.prog _ _ _ = K
        simp only [go_sem, ↓reduceIte, reduceCtorEq, Nat.reduceAdd, Nat.reduceSub, Nat.reduceMul, Nat.reduceEqDiff, Nat.reduceLT, Nat.reduceLeDiff, Nat.reduceBEq, Int.reduceAdd, Int.reduceSub, Int.reduceLT, Int.reduceLE, Int.reduceEq, Int.reduceToNat, eq_true c49, eq_true c56, cut_sn el25 sz3 (ml_enc3 _) hx60]
        subst hK
        refine AW.exit ?_
        refine thenA_x ?_
        refine block_x ?_
        refine thenA_n ?_
        refine ⟨_, (Option.some.inj h).symm, ?_⟩
        refine Ent.can [121] _ _ _ rfl (by first | decide | simp) rfl ?_ ?_ ?_
        · exact ((RF.any.pv (by first | rfl | simp only [go_sem]) (by first | rfl | simp [upd_ap, hpL_ap, tau, mapT, mapTL, bytesI_len, eq_true c49, eq_true c56])).po (by decide) (by first | rfl | simp [upd_ap, hpL_ap, tau, mapT, mapTL, bytesI_len, eq_true c49, eq_true c56]))
        · exact .nil _
        · exact .cons (.eq (by first | rfl | simp only [go_sem]) (by first | rfl | simp [upd_ap, hpL_ap, tau, mapT, mapTL, bytesI_len, eq_true c49, eq_true c56])) (.nil _)
      · rw [if_neg c56] at h
        refine AW.ifF rfl c56 ?_
        refine AW.skip ?_
        refine thenA_n ?_
        obtain ⟨x61, hx61, h⟩ := Option.bind_eq_some_iff.1 h
        obtain ⟨x62, hx62, h⟩ := Option.bind_eq_some_iff.1 h
        obtain ⟨x63, hx63, h⟩ := Option.bind_eq_some_iff.1 h
        obtain ⟨x64, hx64, h⟩ := Option.bind_eq_some_iff.1 h
        obtain ⟨hx64a, hx64b⟩ := ix_some.1 hx64
        obtain ⟨x65, hx65, h⟩ := Option.bind_eq_some_iff.1 h
        obtain ⟨x66, hx66, h⟩ := Option.bind_eq_some_iff.1 h
        obtain ⟨x67, hx67, h⟩ := Option.bind_eq_some_iff.1 h
        obtain ⟨x68, hx68, h⟩ := Option.bind_eq_some_iff.1 h
        obtain ⟨x69, hx69, h⟩ := Option.bind_eq_some_iff.1 h
        obtain ⟨x70, hx70, h⟩ := Option.bind_eq_some_iff.1 h
        obtain ⟨x71, hx71, h⟩ := Option.bind_eq_some_iff.1 h
        obtain ⟨hx71b, hx71e⟩ := appO?_some.1 hx71
        have hx71f : ∀ id o : Nat, appO 1 16 id ([[.val (.string x70)]]) 0 s1_1.length o (some (.row 1 true (List.map enc9 s1_1))) = some ⟨.own id 0 x71.length, [(o, none), (id, some (.row 1 true (List.map enc9 x71)))]⟩ := fun id o => by
          subst hx71e; rw [appO_ok (by simp) (by simpa using hx71b) (by decide)]; first | (simp [enc9]; done) | (simp [enc9]; omega)
        refine AW.regdL [0, 3, 4] [[], [], [1], [1, 2], [1, 2, 3], [1, 2, 3, 4], [], [], [7], [6, 7, 8], [6, 7, 8, 9], [1, 2, 3, 4, 6, 7, 8, 9, 10], [1, 2, 3, 4, 5, 6, 7, 8, 9, 10, 11], [1, 2, 3, 4, 5, 6, 7, 8, 9, 10, 11, 12], [], [14], [14, 15], [], [17], [17, 18], [14, 15, 16, 17, 18, 19], [1, 2, 3, 4, 6, 7, 8, 9, 10, 11, 14, 15, 16, 17, 18, 19, 20], [1, 2, 3, 4, 5, 6, 7, 8, 9, 10, 11, 12, 13, 14, 15, 16, 17, 18, 19, 20, 21], [1, 2, 3, 4, 5, 6, 7, 8, 9, 10, 11, 12, 13, 14, 15, 16, 17, 18, 19, 20, 21, 22], [0, 1, 2, 3, 4, 5, 6, 7, 8, 9, 10, 11, 12, 13, 14, 15, 16, 17, 18, 19, 20, 21, 22, 23], [0, 1, 2, 3, 4, 5, 6, 7, 8, 9, 10, 11, 12, 13, 14, 15, 16, 17, 18, 19, 20, 21, 22, 23, 24]] [0, 1, 2, 3, 4, 5, 6, 7, 8, 9, 10, 11, 12, 13, 14, 15, 16, 17, 18, 19, 20, 21, 22, 23, 24, 25] noFt (fun _ _ _ h => by simp [noFt] at h) draws (by kernel_rfl) (by kernel_rfl) ?_
        generalize hK : AW Tryd.prog _ _ _ = K
        simp only [go_sem, ↓reduceIte, reduceCtorEq, Nat.reduceAdd, Nat.reduceSub, Nat.reduceMul, Nat.reduceEqDiff, Nat.reduceLT, Nat.reduceLeDiff, Nat.reduceBEq, Int.reduceAdd, Int.reduceSub, Int.reduceLT, Int.reduceLE, Int.reduceEq, Int.reduceToNat, eq_true c49, eq_false c56, hx61, binV_cat hx63, natOf_le hx64a, hx64b, binV_cat hx66, binV_cat hx67, hx68, binV_cat hx70, hx71f]
        refine adN.pc (ok20 x61 x62 hx62) Tryd.call20 callV_fn (by simp only [go_sem, ↓reduceIte, reduceCtorEq, Nat.reduceAdd, Nat.reduceSub, Nat.reduceMul, Nat.reduceEqDiff, Nat.reduceLT, Nat.reduceLeDiff, Nat.reduceBEq, Int.reduceAdd, Int.reduceSub, Int.reduceLT, Int.reduceLE, Int.reduceEq, Int.reduceToNat, eq_true c49, eq_false c56, hx61, binV_cat hx63, natOf_le hx64a, hx64b, binV_cat hx66, binV_cat hx67, hx68, binV_cat hx70, hx71f]) (by simp only [go_sem, ↓reduceIte, reduceCtorEq, Nat.reduceAdd, Nat.reduceSub, Nat.reduceMul, Nat.reduceEqDiff, Nat.reduceLT, Nat.reduceLeDiff, Nat.reduceBEq, Int.reduceAdd, Int.reduceSub, Int.reduceLT, Int.reduceLE, Int.reduceEq, Int.reduceToNat]) ?_
        simp only [go_sem, ↓reduceIte, reduceCtorEq, Nat.reduceAdd, Nat.reduceSub, Nat.reduceMul, Nat.reduceEqDiff, Nat.reduceLT, Nat.reduceLeDiff, Nat.reduceBEq, Int.reduceAdd, Int.reduceSub, Int.reduceLT, Int.reduceLE, Int.reduceEq, Int.reduceToNat, eq_true c49, eq_false c56, hx61, binV_cat hx63, natOf_le hx64a, hx64b, binV_cat hx66, binV_cat hx67, hx68, binV_cat hx70, hx71f]
        refine adN.pc (ok20 x64 x65 hx65) Tryd.call20 callV_fn (by simp only [go_sem, ↓reduceIte, reduceCtorEq, Nat.reduceAdd, Nat.reduceSub, Nat.reduceMul, Nat.reduceEqDiff, Nat.reduceLT, Nat.reduceLeDiff, Nat.reduceBEq, Int.reduceAdd, Int.reduceSub, Int.reduceLT, Int.reduceLE, Int.reduceEq, Int.reduceToNat, eq_true c49, eq_false c56, hx61, binV_cat hx63, natOf_le hx64a, hx64b, binV_cat hx66, binV_cat hx67, hx68, binV_cat hx70, hx71f]) (by simp only [go_sem, ↓reduceIte, reduceCtorEq, Nat.reduceAdd, Nat.reduceSub, Nat.reduceMul, Nat.reduceEqDiff, Nat.reduceLT, Nat.reduceLeDiff, Nat.reduceBEq, Int.reduceAdd, Int.reduceSub, Int.reduceLT, Int.reduceLE, Int.reduceEq, Int.reduceToNat]) ?_
        simp only [go_sem, ↓reduceIte, reduceCtorEq, Nat.reduceAdd, Nat.reduceSub, Nat.reduceMul, Nat.reduceEqDiff, Nat.reduceLT, Nat.reduceLeDiff, Nat.reduceBEq, Int.reduceAdd, Int.reduceSub, Int.reduceLT, Int.reduceLE, Int.reduceEq, Int.reduceToNat, eq_true c49, eq_false c56, hx61, binV_cat hx63, natOf_le hx64a, hx64b, binV_cat hx66, binV_cat hx67, hx68, binV_cat hx70, hx71f]
        refine adN.pc (ok20 (IntKind.i64.wrap (x68 - x61)) x69 hx69) Tryd.call20 callV_fn (by simp only [go_sem, ↓reduceIte, reduceCtorEq, Nat.reduceAdd, Nat.reduceSub, Nat.reduceMul, Nat.reduceEqDiff, Nat.reduceLT, Nat.reduceLeDiff, Nat.reduceBEq, Int.reduceAdd, Int.reduceSub, Int.reduceLT, Int.reduceLE, Int.reduceEq, Int.reduceToNat, eq_true c49, eq_false c56, hx61, binV_cat hx63, natOf_le hx64a, hx64b, binV_cat hx66, binV_cat hx67, hx68, binV_cat hx70, hx71f]) (by simp only [go_sem, ↓reduceIte, reduceCtorEq, Nat.reduceAdd, Nat.reduceSub, Nat.reduceMul, Nat.reduceEqDiff, Nat.reduceLT, Nat.reduceLeDiff, Nat.reduceBEq, Int.reduceAdd, Int.reduceSub, Int.reduceLT, Int.reduceLE, Int.reduceEq, Int.reduceToNat]) ?_
        simp only [go_sem, ↓reduceIte, reduceCtorEq, Nat.reduceAdd, Nat.reduceSub, Nat.reduceMul, Nat.reduceEqDiff, Nat.reduceLT, Nat.reduceLeDiff, Nat.reduceBEq, Int.reduceAdd, Int.reduceSub, Int.reduceLT, Int.reduceLE, Int.reduceEq, Int.reduceToNat, eq_true c49, eq_false c56, hx61, binV_cat hx63, natOf_le hx64a, hx64b, binV_cat hx66, binV_cat hx67, hx68, binV_cat hx70, hx71f]
        subst hK
        obtain ⟨x72, hx72, h⟩ := Option.bind_eq_some_iff.1 h
        refine AW.regionL [0, 3] ?_
        generalize hK : inBlockA _ _ Exit.normal = K
        simp only [go_sem, ↓reduceIte, reduceCtorEq, Nat.reduceAdd, Nat.reduceSub, Nat.reduceMul, Nat.reduceEqDiff, Nat.reduceLT, Nat.reduceLeDiff, Nat.reduceBEq, Int.reduceAdd, Int.reduceSub, Int.reduceLT, Int.reduceLE, Int.reduceEq, Int.reduceToNat, eq_true c49, eq_false c56, cut_sn el25 sz3 (ml_enc3 _) hx72]
        subst hK
        refine block_n ?_
        refine thenA_n ?_
        refine ⟨_, (Option.some.inj h).symm, ?_⟩
        refine Ent.can [265] _ _ _ rfl (by first | decide | simp) rfl ?_ ?_ ?_
        · exact ((RF.any.pv (by first | rfl | simp only [go_sem]) (by first | rfl | simp [upd_ap, hpL_ap, tau, mapT, mapTL, bytesI_len, eq_true c49, eq_false c56])).po (by decide) (by first | rfl | simp [upd_ap, hpL_ap, tau, mapT, mapTL, bytesI_len, eq_true c49, eq_false c56]))
        · exact .nil _
        · exact .cons (.eq (by first | rfl | simp only [go_sem]) (by first | rfl | simp [upd_ap, hpL_ap, tau, mapT, mapTL, bytesI_len, eq_true c49, eq_false c56])) (.nil _)
    · rw [if_neg c49] at h
      refine AW.ifF rfl c49 ?_
      refine AW.exit ?_
      refine thenA_x ?_
      refine thenA_x ?_
      refine ⟨_, (Option.some.inj h).symm, _, ?_, rfl, rfl⟩
      refine Ent.can [8] _ _ _ rfl (by first | decide | simp) rfl ?_ ?_ ?_
      · exact (RF.any.po (by decide) (by first | rfl | simp [upd_ap, hpL_ap, tau, mapT, mapTL, bytesI_len, eq_false c49]))
      · exact .nil _
      · exact .cons (.eq (by first | rfl | simp only [go_sem]) (by first | rfl | simp [upd_ap, hpL_ap, tau, mapT, mapTL, bytesI_len, eq_false c49])) (.nil _)
  · intro e st' hX
    try dsimp only at h
    try dsimp only at hX
    obtain ⟨rfl, rfl⟩ := hX
    refine ⟨_, Ent.refl, ?_⟩
    refine block_x ?_
    refine thenA_n ?_
    obtain ⟨x75, hx75, h⟩ := Option.bind_eq_some_iff.1 h
    refine AW.regL [2] ?_
    generalize hK : AW Tryd.prog _ _ _ = K
    simp only [go_sem, ↓reduceIte, reduceCtorEq, Nat.reduceAdd, Nat.reduceSub, Nat.reduceMul, Nat.reduceEqDiff, Nat.reduceLT, Nat.reduceLeDiff, Nat.reduceBEq, Int.reduceAdd, Int.reduceSub, Int.reduceLT, Int.reduceLE, Int.reduceEq, Int.reduceToNat]
    refine arC.of (ok26 y74 ⟨#[44]⟩ x75 hx75) Tryd.call26 ?_
    simp only [go_sem, ↓reduceIte, reduceCtorEq, Nat.reduceAdd, Nat.reduceSub, Nat.reduceMul, Nat.reduceEqDiff, Nat.reduceLT, Nat.reduceLeDiff, Nat.reduceBEq, Int.reduceAdd, Int.reduceSub, Int.reduceLT, Int.reduceLE, Int.reduceEq, Int.reduceToNat]
    subst hK
    refine AW.ret ?_
    obtain rfl := Option.some.inj h
    (simp only [go_sem, ↓reduceIte, reduceCtorEq, Nat.reduceAdd, Nat.reduceSub, Nat.reduceMul, Nat.reduceEqDiff, Nat.reduceLT, Nat.reduceLeDiff, Nat.reduceBEq, Int.reduceAdd, Int.reduceSub, Int.reduceLT, Int.reduceLE, Int.reduceEq, Int.reduceToNat, finA, resA, resOf_1, resOf_2, sealV_val, sealV_sl, sealV_ip, sealV_agg, sealV_tup, sealV_own, sealL_nil, sealL_cons, sealV_clo, resOf_clo] <;> try simp)
end Au
end Go.Proofs.Yd
