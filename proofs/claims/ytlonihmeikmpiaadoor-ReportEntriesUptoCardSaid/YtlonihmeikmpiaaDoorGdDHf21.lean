import Derived.Test.YtlonihmeikmpiaaDoorGdDH
set_option linter.all false
set_option linter.unusedVariables false
set_option linter.unusedSimpArgs false
set_option linter.all false
set_option maxRecDepth 8000
set_option maxHeartbeats 1000000
namespace Go.Proofs.Yd
open Go.Gm
namespace Au
noncomputable def f21_s1 (a0 : A32 Int) : (List Int) × Int → Option (((List Int) × Int) ⊕ (List Int))
  | (s1_0, s1_1) => (if s1_1 < 32 then ((guardO (0 ≤ s1_1 ∧ s1_1 < 32)).bind fun x14 => ((ix (bl ⟨#[48, 49, 50, 51, 52, 53, 54, 55, 56, 57, 97, 98, 99, 100, 101, 102]⟩) (shrV .u8 (A32.get a0 s1_1.toNat) 4)).bind fun x15 => ((ix (bl ⟨#[48, 49, 50, 51, 52, 53, 54, 55, 56, 57, 97, 98, 99, 100, 101, 102]⟩) (andV .u8 (A32.get a0 s1_1.toNat) 15)).bind fun x16 => ((appO? s1_0 [(x15.toNat : Int), (x16.toNat : Int)]).bind fun x17 => some (.inl (x17, IntKind.i64.wrap (s1_1 + 1))))))) else some (.inr s1_0))
noncomputable def f21 (a0 : A32 Int) : Option ByteArray := ((loopO (f21_s1 a0) ([], 0)).bind fun y19 => some (strOfNums y19))
theorem ok21 (a0 : A32 Int) (r : ByteArray) (h : f21 a0 = some r) : PC Tryd.prog 21 [.agg (enc46 a0)] (.val (.string r)) := by
  rw [f21] at h
  refine pc_of8 (N := 22) (rs := [.tmp 2]) Tryd.func21 rfl rfl rfl (Nat.le_of_ble_eq_true rfl) ?_
  refine AW.regL [1] ?_
  generalize hK : AW Tryd.prog _ _ _ = K
  simp only [go_sem, ↓reduceIte, reduceCtorEq, Nat.reduceAdd, Nat.reduceSub, Nat.reduceMul, Nat.reduceEqDiff, Nat.reduceLT, Nat.reduceLeDiff, Nat.reduceBEq, Int.reduceAdd, Int.reduceSub, Int.reduceLT, Int.reduceLE, Int.reduceEq, Int.reduceToNat]
  subst hK
  refine AW.regL [1, 3] ?_
  generalize hK : AW Tryd.prog _ _ _ = K
  simp only [go_sem, ↓reduceIte, reduceCtorEq, Nat.reduceAdd, Nat.reduceSub, Nat.reduceMul, Nat.reduceEqDiff, Nat.reduceLT, Nat.reduceLeDiff, Nat.reduceBEq, Int.reduceAdd, Int.reduceSub, Int.reduceLT, Int.reduceLE, Int.reduceEq, Int.reduceToNat]
  subst hK
  refine AW.seq ?_
  refine AW.regL [3, 6, 7] ?_
  generalize hK : AW Tryd.prog _ _ _ = K
  simp only [go_sem, ↓reduceIte, reduceCtorEq, Nat.reduceAdd, Nat.reduceSub, Nat.reduceMul, Nat.reduceEqDiff, Nat.reduceLT, Nat.reduceLeDiff, Nat.reduceBEq, Int.reduceAdd, Int.reduceSub, Int.reduceLT, Int.reduceLE, Int.reduceEq, Int.reduceToNat]
  subst hK
  refine AW.block ?_
  obtain ⟨y19, hy19, h⟩ := Option.bind_eq_some_iff.1 h
  refine AW.loopO (fun s => ⟨(upd (upd (upd anyF 3 (.own 8 0 s.1.length)) 6 (.agg [.val (.int .u8 a0.e0), .val (.int .u8 a0.e1), .val (.int .u8 a0.e2), .val (.int .u8 a0.e3), .val (.int .u8 a0.e4), .val (.int .u8 a0.e5), .val (.int .u8 a0.e6), .val (.int .u8 a0.e7), .val (.int .u8 a0.e8), .val (.int .u8 a0.e9), .val (.int .u8 a0.e10), .val (.int .u8 a0.e11), .val (.int .u8 a0.e12), .val (.int .u8 a0.e13), .val (.int .u8 a0.e14), .val (.int .u8 a0.e15), .val (.int .u8 a0.e16), .val (.int .u8 a0.e17), .val (.int .u8 a0.e18), .val (.int .u8 a0.e19), .val (.int .u8 a0.e20), .val (.int .u8 a0.e21), .val (.int .u8 a0.e22), .val (.int .u8 a0.e23), .val (.int .u8 a0.e24), .val (.int .u8 a0.e25), .val (.int .u8 a0.e26), .val (.int .u8 a0.e27), .val (.int .u8 a0.e28), .val (.int .u8 a0.e29), .val (.int .u8 a0.e30), .val (.int .u8 a0.e31)])) 7 (.val (.int .i64 s.2))), hpL [] [some (.row 1 true (List.map enc5 s.1))], 9⟩) (fun z e st' => e = Exit.exit 0 ∧ st' = ⟨(upd anyF 3 (.own 8 0 z.length)), hpL [] [some (.row 1 true (List.map enc5 z))], 9⟩) hy19 ?_ ?_ ?_
  · refine Ent.trans (Ent.nilOwn 3 1 (by decide) rfl) ?_
    refine Ent.can [48] _ _ _ rfl (by first | decide | simp) rfl ?_ ?_ ?_
    · exact (((RF.any.po (by decide) (by first | rfl | simp [upd_ap, hpL_ap, tau, mapT, mapTL, bytesI_len])).pv (by first | rfl | simp only [go_sem]) (by first | rfl | simp [upd_ap, hpL_ap, tau, mapT, mapTL, bytesI_len])).pv (by first | rfl | simp only [go_sem]) (by first | rfl | simp [upd_ap, hpL_ap, tau, mapT, mapTL, bytesI_len]))
    · exact .nil _
    · exact .cons (.eq (by first | rfl | simp only [go_sem]) (by first | rfl | simp [upd_ap, hpL_ap, tau, mapT, mapTL, bytesI_len])) (.nil _)
  · clear h hy19
    rintro ⟨s1_0, s1_1⟩ x h
    rw [f21_s1] at h
    refine AW.regL [3, 6, 7, 8] ?_
    generalize hK : AW Tryd.prog _ _ _ = K
    simp only [go_sem, ↓reduceIte, reduceCtorEq, Nat.reduceAdd, Nat.reduceSub, Nat.reduceMul, Nat.reduceEqDiff, Nat.reduceLT, Nat.reduceLeDiff, Nat.reduceBEq, Int.reduceAdd, Int.reduceSub, Int.reduceLT, Int.reduceLE, Int.reduceEq, Int.reduceToNat]
    subst hK
    refine AW.seq ?_
    by_cases c13 : s1_1 < 32
    · rw [if_pos c13] at h
      refine AW.ifT rfl c13 ?_
      refine AW.skip ?_
      refine thenA_n ?_
      refine AW.seq ?_
      refine AW.block ?_
      obtain ⟨x14, hx14, h⟩ := Option.bind_eq_some_iff.1 h
      refine AW.regL [3, 5, 6, 7] ?_
      generalize hK : AW Tryd.prog _ _ _ = K
      simp only [go_sem, ↓reduceIte, reduceCtorEq, Nat.reduceAdd, Nat.reduceSub, Nat.reduceMul, Nat.reduceEqDiff, Nat.reduceLT, Nat.reduceLeDiff, Nat.reduceBEq, Int.reduceAdd, Int.reduceSub, Int.reduceLT, Int.reduceLE, Int.reduceEq, Int.reduceToNat, eq_true c13, natOf_gd hx14, idxP_arr (n := 32) (k := .u8) ar47 (by kernel_rfl) sz5 hx14 (all32 (p := fun k => (#[.int .u8 a0.e0, .int .u8 a0.e1, .int .u8 a0.e2, .int .u8 a0.e3, .int .u8 a0.e4, .int .u8 a0.e5, .int .u8 a0.e6, .int .u8 a0.e7, .int .u8 a0.e8, .int .u8 a0.e9, .int .u8 a0.e10, .int .u8 a0.e11, .int .u8 a0.e12, .int .u8 a0.e13, .int .u8 a0.e14, .int .u8 a0.e15, .int .u8 a0.e16, .int .u8 a0.e17, .int .u8 a0.e18, .int .u8 a0.e19, .int .u8 a0.e20, .int .u8 a0.e21, .int .u8 a0.e22, .int .u8 a0.e23, .int .u8 a0.e24, .int .u8 a0.e25, .int .u8 a0.e26, .int .u8 a0.e27, .int .u8 a0.e28, .int .u8 a0.e29, .int .u8 a0.e30, .int .u8 a0.e31] : Array Value)[k]? = some (.int .u8 (A32.get a0 k))) rfl rfl rfl rfl rfl rfl rfl rfl rfl rfl rfl rfl rfl rfl rfl rfl rfl rfl rfl rfl rfl rfl rfl rfl rfl rfl rfl rfl rfl rfl rfl rfl (idx32 hx14))]
      subst hK
      obtain ⟨x15, hx15, h⟩ := Option.bind_eq_some_iff.1 h
      obtain ⟨hx15a, hx15b⟩ := ix_some.1 hx15
      obtain ⟨x16, hx16, h⟩ := Option.bind_eq_some_iff.1 h
      obtain ⟨hx16a, hx16b⟩ := ix_some.1 hx16
      obtain ⟨x17, hx17, h⟩ := Option.bind_eq_some_iff.1 h
      obtain ⟨hx17b, hx17e⟩ := appO?_some.1 hx17
      have hx17f : ∀ id o : Nat, appO 1 1 id ([[.val (.int .u8 (x15.toNat : Int))], [.val (.int .u8 (x16.toNat : Int))]]) 0 s1_0.length o (some (.row 1 true (List.map enc5 s1_0))) = some ⟨.own id 0 x17.length, [(o, none), (id, some (.row 1 true (List.map enc5 x17)))]⟩ := fun id o => by
        subst hx17e; rw [appO_ok (by simp) (by simpa using hx17b) (by decide)]; first | (simp [enc5]; done) | (simp [enc5]; omega)
      refine AW.drawL [3, 6, 7] [[], [], [1], [1, 2], [], [4], [4, 5], [1, 2, 3, 4, 5, 6], [0, 1, 2, 3, 4, 5, 6, 7], [0, 1, 2, 3, 4, 5, 6, 7, 8]] [0, 1, 2, 3, 4, 5, 6, 7, 8, 9] noFt (fun _ _ _ h => by simp [noFt] at h) draws (by kernel_rfl) (by kernel_rfl) ?_
      generalize hK : inBlockA _ _ Exit.normal = K
      simp only [go_sem, ↓reduceIte, reduceCtorEq, Nat.reduceAdd, Nat.reduceSub, Nat.reduceMul, Nat.reduceEqDiff, Nat.reduceLT, Nat.reduceLeDiff, Nat.reduceBEq, Int.reduceAdd, Int.reduceSub, Int.reduceLT, Int.reduceLE, Int.reduceEq, Int.reduceToNat, eq_true c13, idxO_some st9 hx15a hx15b, idxO_some st9 hx16a hx16b, hx17f]
      subst hK
      refine block_n ?_
      refine thenA_n ?_
      refine AW.regionL [3, 6, 7] ?_
      generalize hK : thenA _ _ Exit.normal = K
      simp only [go_sem, ↓reduceIte, reduceCtorEq, Nat.reduceAdd, Nat.reduceSub, Nat.reduceMul, Nat.reduceEqDiff, Nat.reduceLT, Nat.reduceLeDiff, Nat.reduceBEq, Int.reduceAdd, Int.reduceSub, Int.reduceLT, Int.reduceLE, Int.reduceEq, Int.reduceToNat, eq_true c13]
      subst hK
      refine thenA_n ?_
      refine ⟨_, (Option.some.inj h).symm, ?_⟩
      refine Ent.can [97] _ _ _ rfl (by first | decide | simp) rfl ?_ ?_ ?_
      · exact (((RF.any.po (by decide) (by first | rfl | simp [upd_ap, hpL_ap, tau, mapT, mapTL, bytesI_len, eq_true c13])).pv (by first | rfl | simp only [go_sem]) (by first | rfl | simp [upd_ap, hpL_ap, tau, mapT, mapTL, bytesI_len, eq_true c13])).pv (by first | rfl | simp only [go_sem]) (by first | rfl | simp [upd_ap, hpL_ap, tau, mapT, mapTL, bytesI_len, eq_true c13]))
      · exact .nil _
      · exact .cons (.eq (by first | rfl | simp only [go_sem]) (by first | rfl | simp [upd_ap, hpL_ap, tau, mapT, mapTL, bytesI_len, eq_true c13])) (.nil _)
    · rw [if_neg c13] at h
      refine AW.ifF rfl c13 ?_
      refine AW.exit ?_
      refine thenA_x ?_
      refine thenA_x ?_
      refine ⟨_, (Option.some.inj h).symm, _, ?_, rfl, rfl⟩
      refine Ent.can [8] _ _ _ rfl (by first | decide | simp) rfl ?_ ?_ ?_
      · exact (RF.any.po (by decide) (by first | rfl | simp [upd_ap, hpL_ap, tau, mapT, mapTL, bytesI_len, eq_false c13]))
      · exact .nil _
      · exact .cons (.eq (by first | rfl | simp only [go_sem]) (by first | rfl | simp [upd_ap, hpL_ap, tau, mapT, mapTL, bytesI_len, eq_false c13])) (.nil _)
  · intro e st' hX
    try dsimp only at h
    try dsimp only at hX
    obtain ⟨rfl, rfl⟩ := hX
    refine ⟨_, Ent.refl, ?_⟩
    refine block_x ?_
    refine thenA_n ?_
    refine AW.regL [2] ?_
    generalize hK : AW Tryd.prog _ _ _ = K
    simp only [go_sem, ↓reduceIte, reduceCtorEq, Nat.reduceAdd, Nat.reduceSub, Nat.reduceMul, Nat.reduceEqDiff, Nat.reduceLT, Nat.reduceLeDiff, Nat.reduceBEq, Int.reduceAdd, Int.reduceSub, Int.reduceLT, Int.reduceLE, Int.reduceEq, Int.reduceToNat, byteNums_map (enc := enc5) (fun _ => rfl)]
    subst hK
    refine AW.ret ?_
    obtain rfl := Option.some.inj h
    (simp only [go_sem, ↓reduceIte, reduceCtorEq, Nat.reduceAdd, Nat.reduceSub, Nat.reduceMul, Nat.reduceEqDiff, Nat.reduceLT, Nat.reduceLeDiff, Nat.reduceBEq, Int.reduceAdd, Int.reduceSub, Int.reduceLT, Int.reduceLE, Int.reduceEq, Int.reduceToNat, finA, resA, resOf_1, resOf_2, sealV_val, sealV_sl, sealV_ip, sealV_agg, sealV_tup, sealV_own, sealL_nil, sealL_cons, sealV_clo, resOf_clo] <;> try simp)
end Au
end Go.Proofs.Yd
