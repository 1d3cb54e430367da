import Derived.Test.YtlonihmeikmpiaaDoorGfDN
set_option linter.all false
set_option linter.unusedVariables false
set_option linter.unusedSimpArgs false
set_option linter.all false
set_option maxRecDepth 8000
set_option maxHeartbeats 1000000
namespace Go.Proofs.Yd
open Go.Gm
namespace Au
noncomputable def f52_s1 : Int × Int → Option ((Int × Int) ⊕ Int)
  | (s1_0, s1_1) => (if 128 ≤ s1_0 then some (.inl (IntKind.u8.wrap ((IntKind.i64.wrap ((IntKind.i64.wrap s1_0) * 2)).tmod 256), IntKind.i64.wrap (s1_1 + 1))) else some (.inr s1_1))
noncomputable def f52 (a0 : Int) : Option Int := ((loopO f52_s1 (a0, 0)).bind fun y8 => some y8)
theorem ok52 (a0 : Int) (r : Int) (h : f52 a0 = some r) : PC Tryd.prog 52 [.val (.int .u8 a0)] (.val (.int .i64 r)) := by
 rw [f52] at h
 refine pc_of8 (N := 14) (rs := [.tmp 2]) Tryd.func52 rfl rfl rfl (Nat.le_of_ble_eq_true rfl) ?_
 refine AW.regL [0] ?_
 generalize hK : AW Tryd.prog _ _ _ = K
 simp only [go_sem, ↓reduceIte, reduceCtorEq, Nat.reduceAdd, Nat.reduceSub, Nat.reduceMul, Nat.reduceEqDiff, Nat.reduceLT, Nat.reduceLeDiff, Nat.reduceBEq, Int.reduceAdd, Int.reduceSub, Int.reduceLT, Int.reduceLE, Int.reduceEq, Int.reduceToNat]
 subst hK
 refine AW.regL [0, 3] ?_
 generalize hK : AW Tryd.prog _ _ _ = K
 simp only [go_sem, ↓reduceIte, reduceCtorEq, Nat.reduceAdd, Nat.reduceSub, Nat.reduceMul, Nat.reduceEqDiff, Nat.reduceLT, Nat.reduceLeDiff, Nat.reduceBEq, Int.reduceAdd, Int.reduceSub, Int.reduceLT, Int.reduceLE, Int.reduceEq, Int.reduceToNat]
 subst hK
 refine AW.seq ?_
 refine AW.block ?_
 obtain ⟨y8, hy8, h⟩ := Option.bind_eq_some_iff.1 h
 refine AW.loopO (fun s => ⟨(upd (upd anyF 0 (.val (.int .u8 s.1))) 3 (.val (.int .i64 s.2))), hpL [] [], 8⟩) (fun z e st' => e = Exit.exit 0 ∧ st' = ⟨(upd anyF 3 (.val (.int .i64 z))), hpL [] [], 8⟩) hy8 ?_ ?_ ?_
 ·refine Ent.can [] _ _ _ rfl (by first | decide | simp) rfl ?_ ?_ ?_
  · exact ((RF.any.pv (by first | rfl | simp only [go_sem]) (by first | rfl | simp [upd_ap, hpL_ap, tau, mapT, mapTL, bytesI_len])).pv (by first | rfl | simp only [go_sem]) (by first | rfl | simp [upd_ap, hpL_ap, tau, mapT, mapTL, bytesI_len]))
  · exact .nil _
  · exact .nil _
 ·clear h hy8
  rintro ⟨s1_0, s1_1⟩ x h
  rw [f52_s1] at h
  refine AW.seq ?_
  refine AW.regL [0, 3, 5] ?_
  generalize hK : AW Tryd.prog _ _ _ = K
  simp only [go_sem, ↓reduceIte, reduceCtorEq, Nat.reduceAdd, Nat.reduceSub, Nat.reduceMul, Nat.reduceEqDiff, Nat.reduceLT, Nat.reduceLeDiff, Nat.reduceBEq, Int.reduceAdd, Int.reduceSub, Int.reduceLT, Int.reduceLE, Int.reduceEq, Int.reduceToNat]
  subst hK
  by_cases c6 : 128 ≤ s1_0
  ·rw [if_pos c6] at h
   refine AW.ifT rfl c6 ?_
   refine AW.skip ?_
   refine thenA_n ?_
   refine AW.block ?_
   refine AW.regL [0, 3] ?_
   generalize hK : AW Tryd.prog _ _ _ = K
   simp only [go_sem, ↓reduceIte, reduceCtorEq, Nat.reduceAdd, Nat.reduceSub, Nat.reduceMul, Nat.reduceEqDiff, Nat.reduceLT, Nat.reduceLeDiff, Nat.reduceBEq, Int.reduceAdd, Int.reduceSub, Int.reduceLT, Int.reduceLE, Int.reduceEq, Int.reduceToNat, eq_true c6]
   subst hK
   refine AW.regionL [0, 3] ?_
   generalize hK : inBlockA _ _ Exit.normal = K
   simp only [go_sem, ↓reduceIte, reduceCtorEq, Nat.reduceAdd, Nat.reduceSub, Nat.reduceMul, Nat.reduceEqDiff, Nat.reduceLT, Nat.reduceLeDiff, Nat.reduceBEq, Int.reduceAdd, Int.reduceSub, Int.reduceLT, Int.reduceLE, Int.reduceEq, Int.reduceToNat, eq_true c6]
   subst hK
   refine block_n ?_
   refine thenA_n ?_
   refine ⟨_, (Option.some.inj h).symm, ?_⟩
   refine Ent.can [] _ _ _ rfl (by first | decide | simp) rfl ?_ ?_ ?_
   · exact ((RF.any.pv (by first | rfl | simp only [go_sem]) (by first | rfl | simp [upd_ap, hpL_ap, tau, mapT, mapTL, bytesI_len, eq_true c6])).pv (by first | rfl | simp only [go_sem]) (by first | rfl | simp [upd_ap, hpL_ap, tau, mapT, mapTL, bytesI_len, eq_true c6]))
   · exact .nil _
   · exact .nil _
  ·rw [if_neg c6] at h
   refine AW.ifF rfl c6 ?_
   refine AW.exit ?_
   refine thenA_x ?_
   refine thenA_x ?_
   refine ⟨_, (Option.some.inj h).symm, _, ?_, rfl, rfl⟩
   refine Ent.can [] _ _ _ rfl (by first | decide | simp) rfl ?_ ?_ ?_
   · exact (RF.any.pv (by first | rfl | simp only [go_sem]) (by first | rfl | simp [upd_ap, hpL_ap, tau, mapT, mapTL, bytesI_len, eq_false c6]))
   · exact .nil _
   · exact .nil _
 ·intro e st' hX
  try dsimp only at h
  try dsimp only at hX
  obtain ⟨rfl, rfl⟩ := hX
  refine ⟨_, Ent.refl, ?_⟩
  refine block_x ?_
  refine thenA_n ?_
  refine AW.regL [2] ?_
  generalize hK : AW Tryd.prog _ _ _ = K
  simp only [go_sem, ↓reduceIte, reduceCtorEq, Nat.reduceAdd, Nat.reduceSub, Nat.reduceMul, Nat.reduceEqDiff, Nat.reduceLT, Nat.reduceLeDiff, Nat.reduceBEq, Int.reduceAdd, Int.reduceSub, Int.reduceLT, Int.reduceLE, Int.reduceEq, Int.reduceToNat]
  subst hK
  refine AW.ret ?_
  obtain rfl := Option.some.inj h
  (simp only [go_sem, ↓reduceIte, reduceCtorEq, Nat.reduceAdd, Nat.reduceSub, Nat.reduceMul, Nat.reduceEqDiff, Nat.reduceLT, Nat.reduceLeDiff, Nat.reduceBEq, Int.reduceAdd, Int.reduceSub, Int.reduceLT, Int.reduceLE, Int.reduceEq, Int.reduceToNat, finA] <;> try simp)
end Au
end Go.Proofs.Yd

set_option linter.all false
set_option maxRecDepth 8000
set_option maxHeartbeats 1000000
namespace Go.Proofs.Yd
open Go.Gm
namespace Au
noncomputable def f53_s1 (a0 : Int) : Int × Int → Option ((Int × Int) ⊕ Int)
  | (s1_0, s1_1) => (if s1_1 < a0 then some (.inl (IntKind.u64.wrap (2 * s1_0), IntKind.i64.wrap (s1_1 + 1))) else some (.inr s1_0))
noncomputable def f53 (a0 : Int) : Option Int := ((loopO (f53_s1 a0) (1, 0)).bind fun y5 => some y5)
theorem ok53 (a0 : Int) (r : Int) (h : f53 a0 = some r) : PC Tryd.prog 53 [.val (.int .i64 a0)] (.val (.int .u64 r)) := by
 rw [f53] at h
 refine pc_of8 (N := 13) (rs := [.tmp 2]) Tryd.func53 rfl rfl rfl (Nat.le_of_ble_eq_true rfl) ?_
 refine AW.regL [0] ?_
 generalize hK : AW Tryd.prog _ _ _ = K
 simp only [go_sem, ↓reduceIte, reduceCtorEq, Nat.reduceAdd, Nat.reduceSub, Nat.reduceMul, Nat.reduceEqDiff, Nat.reduceLT, Nat.reduceLeDiff]
 subst hK
 refine AW.regL [0, 3] ?_
 generalize hK : AW Tryd.prog _ _ _ = K
 simp only [go_sem, ↓reduceIte, reduceCtorEq, Nat.reduceAdd, Nat.reduceSub, Nat.reduceMul, Nat.reduceEqDiff, Nat.reduceLT, Nat.reduceLeDiff]
 subst hK
 refine AW.seq ?_
 refine AW.regL [0, 3, 4] ?_
 generalize hK : AW Tryd.prog _ _ _ = K
 simp only [go_sem, ↓reduceIte, reduceCtorEq, Nat.reduceAdd, Nat.reduceSub, Nat.reduceMul, Nat.reduceEqDiff, Nat.reduceLT, Nat.reduceLeDiff]
 subst hK
 refine AW.block ?_
 obtain ⟨y5, hy5, h⟩ := Option.bind_eq_some_iff.1 h
 refine AW.loopO (fun s => ⟨(upd (upd (upd anyF 0 (.val (.int .i64 a0))) 3 (.val (.int .u64 s.1))) 4 (.val (.int .i64 s.2))), hpL [] [], 8⟩) (fun z e st' => e = Exit.exit 0 ∧ st' = ⟨(upd anyF 3 (.val (.int .u64 z))), hpL [] [], 8⟩) hy5 ?_ ?_ ?_
 ·refine Ent.can [] _ _ _ rfl (by first | decide | simp) rfl ?_ ?_ ?_
  · exact (((RF.any.pv (by first | rfl | simp only [go_sem]) (by first | rfl | simp [upd_ap, hpL_ap, tau, mapT, mapTL, bytesI_len])).pv (by first | rfl | simp only [go_sem]) (by first | rfl | simp [upd_ap, hpL_ap, tau, mapT, mapTL, bytesI_len])).pv (by first | rfl | simp only [go_sem]) (by first | rfl | simp [upd_ap, hpL_ap, tau, mapT, mapTL, bytesI_len]))
  · exact .nil _
  · exact .nil _
 ·clear h hy5
  rintro ⟨s1_0, s1_1⟩ x h
  rw [f53_s1] at h
  refine AW.seq ?_
  refine AW.regL [0, 3, 4, 7] ?_
  generalize hK : AW Tryd.prog _ _ _ = K
  simp only [go_sem, ↓reduceIte, reduceCtorEq, Nat.reduceAdd, Nat.reduceSub, Nat.reduceMul, Nat.reduceEqDiff, Nat.reduceLT, Nat.reduceLeDiff]
  subst hK
  by_cases c3 : s1_1 < a0
  ·rw [if_pos c3] at h
   refine AW.ifT rfl c3 ?_
   refine AW.skip ?_
   refine thenA_n ?_
   refine AW.seq ?_
   refine AW.block ?_
   refine AW.regionL [0, 3, 4] ?_
   generalize hK : inBlockA _ _ Exit.normal = K
   simp only [go_sem, ↓reduceIte, reduceCtorEq, Nat.reduceAdd, Nat.reduceSub, Nat.reduceMul, Nat.reduceEqDiff, Nat.reduceLT, Nat.reduceLeDiff, eq_true c3]
   subst hK
   refine block_n ?_
   refine thenA_n ?_
   refine AW.regionL [0, 3, 4] ?_
   generalize hK : thenA _ _ Exit.normal = K
   simp only [go_sem, ↓reduceIte, reduceCtorEq, Nat.reduceAdd, Nat.reduceSub, Nat.reduceMul, Nat.reduceEqDiff, Nat.reduceLT, Nat.reduceLeDiff, eq_true c3]
   subst hK
   refine thenA_n ?_
   refine ⟨_, (Option.some.inj h).symm, ?_⟩
   refine Ent.can [] _ _ _ rfl (by first | decide | simp) rfl ?_ ?_ ?_
   · exact (((RF.any.pv (by first | rfl | simp only [go_sem]) (by first | rfl | simp [upd_ap, hpL_ap, tau, mapT, mapTL, bytesI_len, eq_true c3])).pv (by first | rfl | simp only [go_sem]) (by first | rfl | simp [upd_ap, hpL_ap, tau, mapT, mapTL, bytesI_len, eq_true c3])).pv (by first | rfl | simp only [go_sem]) (by first | rfl | simp [upd_ap, hpL_ap, tau, mapT, mapTL, bytesI_len, eq_true c3]))
   · exact .nil _
   · exact .nil _
  ·rw [if_neg c3] at h
   refine AW.ifF rfl c3 ?_
   refine AW.exit ?_
   refine thenA_x ?_
   refine thenA_x ?_
   refine ⟨_, (Option.some.inj h).symm, _, ?_, rfl, rfl⟩
   refine Ent.can [] _ _ _ rfl (by first | decide | simp) rfl ?_ ?_ ?_
   · exact (RF.any.pv (by first | rfl | simp only [go_sem]) (by first | rfl | simp [upd_ap, hpL_ap, tau, mapT, mapTL, bytesI_len, eq_false c3]))
   · exact .nil _
   · exact .nil _
 ·intro e st' hX
  try dsimp only at h
  try dsimp only at hX
  obtain ⟨rfl, rfl⟩ := hX
  refine ⟨_, Ent.refl, ?_⟩
  refine block_x ?_
  refine thenA_n ?_
  refine AW.regL [2] ?_
  generalize hK : AW Tryd.prog _ _ _ = K
  simp only [go_sem, ↓reduceIte, reduceCtorEq, Nat.reduceAdd, Nat.reduceSub, Nat.reduceMul, Nat.reduceEqDiff, Nat.reduceLT, Nat.reduceLeDiff]
  subst hK
  refine AW.ret ?_
  obtain rfl := Option.some.inj h
  (simp only [go_sem, ↓reduceIte, reduceCtorEq, Nat.reduceAdd, Nat.reduceSub, Nat.reduceMul, Nat.reduceEqDiff, Nat.reduceLT, Nat.reduceLeDiff, finA] <;> try simp)
end Au
end Go.Proofs.Yd

set_option linter.all false
set_option maxRecDepth 8000
set_option maxHeartbeats 1000000
namespace Go.Proofs.Yd
open Go.Gm
namespace Au
noncomputable def f54_s1 (a0 : Int) : Int → Option (Int ⊕ (Int ⊕ Unit))
  | s1_0 => (if s1_0 ≤ 8 then ((f53 (IntKind.i64.wrap (7 * s1_0))).bind fun x9 => (if a0 < x9 then some (.inr (.inl s1_0)) else some (.inl (IntKind.i64.wrap (s1_0 + 1))))) else some (.inr (.inr ())))
noncomputable def f54 (a0 : Int) : Option Int := ((loopO (f54_s1 a0) 1).bind fun y11 => match y11 with | .inl y12 => some y12 | .inr _ => some 9)
theorem ok54 (a0 : Int) (r : Int) (h : f54 a0 = some r) : PC Tryd.prog 54 [.val (.int .u64 a0)] (.val (.int .i64 r)) := by
 rw [f54] at h
 refine pc_of8 (N := 14) (rs := [.tmp 2]) Tryd.func54 rfl rfl rfl (Nat.le_of_ble_eq_true rfl) ?_
 refine AW.regL [0] ?_
 generalize hK : AW Tryd.prog _ _ _ = K
 simp only [go_sem, ↓reduceIte, reduceCtorEq, Nat.reduceAdd, Nat.reduceSub, Nat.reduceMul, Nat.reduceEqDiff, Nat.reduceLT, Nat.reduceLeDiff]
 subst hK
 refine AW.seq ?_
 refine AW.regL [0, 3] ?_
 generalize hK : AW Tryd.prog _ _ _ = K
 simp only [go_sem, ↓reduceIte, reduceCtorEq, Nat.reduceAdd, Nat.reduceSub, Nat.reduceMul, Nat.reduceEqDiff, Nat.reduceLT, Nat.reduceLeDiff]
 subst hK
 refine AW.block ?_
 obtain ⟨y11, hy11, h⟩ := Option.bind_eq_some_iff.1 h
 refine AW.loopO (fun s => ⟨(upd (upd anyF 0 (.val (.int .u64 a0))) 3 (.val (.int .i64 s))), hpL [] [], 8⟩) (fun y e st' => match y with | .inl z => e = Exit.ret ∧ finA Tryd.prog [.tmp 2] (.val (.int .i64 z)) .ret st' | .inr z => e = Exit.exit 0 ∧ st' = ⟨anyF, hpL [] [], 8⟩) hy11 ?_ ?_ ?_
 ·refine Ent.can [] _ _ _ rfl (by first | decide | simp) rfl ?_ ?_ ?_
  · exact ((RF.any.pv (by first | rfl | simp only [go_sem]) (by first | rfl | simp [upd_ap, hpL_ap, tau, mapT, mapTL, bytesI_len])).pv (by first | rfl | simp only [go_sem]) (by first | rfl | simp [upd_ap, hpL_ap, tau, mapT, mapTL, bytesI_len]))
  · exact .nil _
  · exact .nil _
 ·clear h hy11
  rintro s1_0 x h
  rw [f54_s1] at h
  refine AW.seq ?_
  refine AW.regL [0, 3, 5] ?_
  generalize hK : AW Tryd.prog _ _ _ = K
  simp only [go_sem, ↓reduceIte, reduceCtorEq, Nat.reduceAdd, Nat.reduceSub, Nat.reduceMul, Nat.reduceEqDiff, Nat.reduceLT, Nat.reduceLeDiff]
  subst hK
  by_cases c8 : s1_0 ≤ 8
  ·rw [if_pos c8] at h
   refine AW.ifT rfl c8 ?_
   refine AW.skip ?_
   refine thenA_n ?_
   refine AW.seq ?_
   refine AW.block ?_
   obtain ⟨x9, hx9, h⟩ := Option.bind_eq_some_iff.1 h
   refine AW.regL [0, 3, 12] ?_
   generalize hK : AW Tryd.prog _ _ _ = K
   simp only [go_sem, ↓reduceIte, reduceCtorEq, Nat.reduceAdd, Nat.reduceSub, Nat.reduceMul, Nat.reduceEqDiff, Nat.reduceLT, Nat.reduceLeDiff, eq_true c8]
   refine arC.of (ok53 (IntKind.i64.wrap (7 * s1_0)) x9 hx9) Tryd.call53 ?_
   simp only [go_sem, ↓reduceIte, reduceCtorEq, Nat.reduceAdd, Nat.reduceSub, Nat.reduceMul, Nat.reduceEqDiff, Nat.reduceLT, Nat.reduceLeDiff, eq_true c8]
   subst hK
   by_cases c10 : a0 < x9
   ·rw [if_pos c10] at h
    refine AW.ifT rfl c10 ?_
    refine AW.regL [2] ?_
    generalize hK : AW Tryd.prog _ _ _ = K
    simp only [go_sem, ↓reduceIte, reduceCtorEq, Nat.reduceAdd, Nat.reduceSub, Nat.reduceMul, Nat.reduceEqDiff, Nat.reduceLT, Nat.reduceLeDiff, eq_true c8, eq_true c10]
    subst hK
    refine AW.ret ?_
    refine block_r ?_
    refine thenA_r ?_
    refine thenA_r ?_
    refine ⟨_, (Option.some.inj h).symm, _, Ent.refl, rfl, ?_⟩
    (simp only [go_sem, ↓reduceIte, reduceCtorEq, Nat.reduceAdd, Nat.reduceSub, Nat.reduceMul, Nat.reduceEqDiff, Nat.reduceLT, Nat.reduceLeDiff, eq_true c8, eq_true c10, finA] <;> try simp)
   ·rw [if_neg c10] at h
    refine AW.ifF rfl c10 ?_
    refine AW.skip ?_
    refine block_n ?_
    refine thenA_n ?_
    refine AW.regionL [0, 3] ?_
    generalize hK : thenA _ _ Exit.normal = K
    simp only [go_sem, ↓reduceIte, reduceCtorEq, Nat.reduceAdd, Nat.reduceSub, Nat.reduceMul, Nat.reduceEqDiff, Nat.reduceLT, Nat.reduceLeDiff, eq_true c8, eq_false c10]
    subst hK
    refine thenA_n ?_
    refine ⟨_, (Option.some.inj h).symm, ?_⟩
    refine Ent.can [] _ _ _ rfl (by first | decide | simp) rfl ?_ ?_ ?_
    · exact ((RF.any.pv (by first | rfl | simp only [go_sem]) (by first | rfl | simp [upd_ap, hpL_ap, tau, mapT, mapTL, bytesI_len, eq_true c8, eq_false c10])).pv (by first | rfl | simp only [go_sem]) (by first | rfl | simp [upd_ap, hpL_ap, tau, mapT, mapTL, bytesI_len, eq_true c8, eq_false c10]))
    · exact .nil _
    · exact .nil _
  ·rw [if_neg c8] at h
   refine AW.ifF rfl c8 ?_
   refine AW.exit ?_
   refine thenA_x ?_
   refine thenA_x ?_
   refine ⟨_, (Option.some.inj h).symm, _, ?_, rfl, rfl⟩
   refine Ent.can [] _ _ _ rfl (by first | decide | simp) rfl ?_ ?_ ?_
   · exact RF.any
   · exact .nil _
   · exact .nil _
 ·intro e st' hX
  rcases y11 with y12 | _ <;> dsimp only at h hX
  ·obtain ⟨rfl, hf⟩ := hX
   refine ⟨_, Ent.refl, ?_⟩
   refine block_r ?_
   refine thenA_r ?_
   obtain rfl := Option.some.inj h
   exact hf
  ·obtain ⟨rfl, rfl⟩ := hX
   refine ⟨_, Ent.refl, ?_⟩
   refine block_x ?_
   refine thenA_n ?_
   refine AW.regL [2] ?_
   generalize hK : AW Tryd.prog _ _ _ = K
   simp only [go_sem, ↓reduceIte, reduceCtorEq, Nat.reduceAdd, Nat.reduceSub, Nat.reduceMul, Nat.reduceEqDiff, Nat.reduceLT, Nat.reduceLeDiff]
   subst hK
   refine AW.ret ?_
   obtain rfl := Option.some.inj h
   (simp only [go_sem, ↓reduceIte, reduceCtorEq, Nat.reduceAdd, Nat.reduceSub, Nat.reduceMul, Nat.reduceEqDiff, Nat.reduceLT, Nat.reduceLeDiff, finA] <;> try simp)
end Au
end Go.Proofs.Yd

set_option linter.all false
set_option maxRecDepth 8000
set_option maxHeartbeats 1000000
namespace Go.Proofs.Yd
open Go.Gm
namespace Au
noncomputable def f42_s2 (a0 : List Int) (a1 : Int) (x8 : Int) : Int × Int → Option ((Int × Int) ⊕ Int)
  | (s2_0, s2_1) => (if s2_1 < (IntKind.i64.wrap (a1 + (IntKind.i64.wrap (x8 + 1)))) then ((ix a0 s2_1).bind fun x30 => some (.inl (IntKind.u64.wrap ((IntKind.u64.wrap (256 * s2_0)) + (IntKind.u64.wrap x30)), IntKind.i64.wrap (s2_1 + 1)))) else some (.inr s2_0))
noncomputable def f42_j1 (a0 : List Int) (a1 : Int) (x8 : Int) : Int → Option (Int × Int × Int)
  | j1_0 => ((loopO (f42_s2 a0 a1 x8) (j1_0, IntKind.i64.wrap (a1 + 1))).bind fun y32 => ((f54 y32).bind fun x33 => (if x33 = (IntKind.i64.wrap (x8 + 1)) then some (y32, IntKind.i64.wrap (a1 + (IntKind.i64.wrap (x8 + 1))), 0) else some (0, 0, 3))))
noncomputable def f42 (a0 : List Int) (a1 : Int) : Option (Int × Int × Int) := (if a1 < 0 then some (0, 0, 8) else (if (a0.length : Int) < a1 then some (0, 0, 8) else (if a1 = (a0.length : Int) then some (0, 0, 2) else ((ix a0 a1).bind fun x7 => ((f52 x7).bind fun x8 => (if (IntKind.i64.wrap ((a0.length : Int) - a1)) < (IntKind.i64.wrap (x8 + 1)) then some (0, 0, 2) else (if (IntKind.i64.wrap (x8 + 1)) ≤ 8 then ((f53 (IntKind.i64.wrap (8 - (IntKind.i64.wrap (x8 + 1))))).bind fun x36 => ((guardO (¬ x36 = 0)).bind fun x37 => f42_j1 a0 a1 x8 ((IntKind.u64.wrap x7).tmod x36))) else f42_j1 a0 a1 x8 0)))))))
theorem ok42 (a0 : List Int) (a1 : Int) (r : Int × Int × Int) (h : f42 a0 a1 = some r) : PC Tryd.prog 42 [.sl (List.map enc5 a0), .val (.int .i64 a1)] (.tup [.val (.int .u64 r.1), .val (.int .i64 r.2.1), .val (.int .i64 r.2.2)]) := by
 rw [f42] at h
 refine pc_of8 (N := 70) (rs := [.tmp 4, .tmp 5, .tmp 6]) Tryd.func42 rfl rfl rfl (Nat.le_of_ble_eq_true rfl) ?_
 refine AW.regL [0, 1] ?_
 generalize hK : AW Tryd.prog _ _ _ = K
 simp only [go_sem, ↓reduceIte, reduceCtorEq, Nat.reduceAdd, Nat.reduceSub, Nat.reduceMul, Nat.reduceEqDiff, Nat.reduceLT, Nat.reduceLeDiff]
 subst hK
 refine AW.seq ?_
 by_cases c3 : a1 < 0
 ·rw [if_pos c3] at h
  refine AW.regL [0, 1, 17] ?_
  generalize hK : AW Tryd.prog _ _ _ = K
  simp only [go_sem, ↓reduceIte, reduceCtorEq, Nat.reduceAdd, Nat.reduceSub, Nat.reduceMul, Nat.reduceEqDiff, Nat.reduceLT, Nat.reduceLeDiff, eq_true c3]
  subst hK
  refine AW.ifBT rfl rfl ?_
  refine AW.regL [4, 5, 6] ?_
  generalize hK : AW Tryd.prog _ _ _ = K
  simp only [go_sem, ↓reduceIte, reduceCtorEq, Nat.reduceAdd, Nat.reduceSub, Nat.reduceMul, Nat.reduceEqDiff, Nat.reduceLT, Nat.reduceLeDiff, eq_true c3]
  subst hK
  refine AW.ret ?_
  refine thenA_r ?_
  obtain rfl := Option.some.inj h
  (simp only [go_sem, ↓reduceIte, reduceCtorEq, Nat.reduceAdd, Nat.reduceSub, Nat.reduceMul, Nat.reduceEqDiff, Nat.reduceLT, Nat.reduceLeDiff, eq_true c3, finA] <;> try simp)
 ·rw [if_neg c3] at h
  refine AW.regL [0, 1, 17] ?_
  generalize hK : AW Tryd.prog _ _ _ = K
  simp only [go_sem, ↓reduceIte, reduceCtorEq, Nat.reduceAdd, Nat.reduceSub, Nat.reduceMul, Nat.reduceEqDiff, Nat.reduceLT, Nat.reduceLeDiff, eq_false c3]
  subst hK
  by_cases c4 : (a0.length : Int) < a1
  ·rw [if_pos c4] at h
   refine AW.ifT rfl c4 ?_
   refine AW.regL [4, 5, 6] ?_
   generalize hK : AW Tryd.prog _ _ _ = K
   simp only [go_sem, ↓reduceIte, reduceCtorEq, Nat.reduceAdd, Nat.reduceSub, Nat.reduceMul, Nat.reduceEqDiff, Nat.reduceLT, Nat.reduceLeDiff, eq_false c3, eq_true c4]
   subst hK
   refine AW.ret ?_
   refine thenA_r ?_
   obtain rfl := Option.some.inj h
   (simp only [go_sem, ↓reduceIte, reduceCtorEq, Nat.reduceAdd, Nat.reduceSub, Nat.reduceMul, Nat.reduceEqDiff, Nat.reduceLT, Nat.reduceLeDiff, eq_false c3, eq_true c4, finA] <;> try simp)
  ·rw [if_neg c4] at h
   refine AW.ifF rfl c4 ?_
   refine AW.skip ?_
   refine thenA_n ?_
   refine AW.seq ?_
   refine AW.regL [0, 1, 21] ?_
   generalize hK : AW Tryd.prog _ _ _ = K
   simp only [go_sem, ↓reduceIte, reduceCtorEq, Nat.reduceAdd, Nat.reduceSub, Nat.reduceMul, Nat.reduceEqDiff, Nat.reduceLT, Nat.reduceLeDiff, eq_false c3, eq_false c4]
   subst hK
   by_cases c6 : a1 = (a0.length : Int)
   ·rw [if_pos c6] at h
    refine AW.ifT rfl c6 ?_
    refine AW.regL [4, 5, 6] ?_
    generalize hK : AW Tryd.prog _ _ _ = K
    simp only [go_sem, ↓reduceIte, reduceCtorEq, Nat.reduceAdd, Nat.reduceSub, Nat.reduceMul, Nat.reduceEqDiff, Nat.reduceLT, Nat.reduceLeDiff, eq_false c3, eq_false c4, eq_true c6]
    subst hK
    refine AW.ret ?_
    refine thenA_r ?_
    obtain rfl := Option.some.inj h
    (simp only [go_sem, ↓reduceIte, reduceCtorEq, Nat.reduceAdd, Nat.reduceSub, Nat.reduceMul, Nat.reduceEqDiff, Nat.reduceLT, Nat.reduceLeDiff, eq_false c3, eq_false c4, eq_true c6, finA] <;> try simp)
   ·rw [if_neg c6] at h
    refine AW.ifF rfl c6 ?_
    refine AW.skip ?_
    refine thenA_n ?_
    obtain ⟨x7, hx7, h⟩ := Option.bind_eq_some_iff.1 h
    obtain ⟨hx7a, hx7b⟩ := ix_some.1 hx7
    obtain ⟨x8, hx8, h⟩ := Option.bind_eq_some_iff.1 h
    refine AW.regL [0, 1, 7] ?_
    generalize hK : AW Tryd.prog _ _ _ = K
    simp only [go_sem, ↓reduceIte, reduceCtorEq, Nat.reduceAdd, Nat.reduceSub, Nat.reduceMul, Nat.reduceEqDiff, Nat.reduceLT, Nat.reduceLeDiff, eq_false c3, eq_false c4, eq_false c6, natOf_le hx7a, hx7b]
    refine arC.of (ok52 x7 x8 hx8) Tryd.call52 ?_
    simp only [go_sem, ↓reduceIte, reduceCtorEq, Nat.reduceAdd, Nat.reduceSub, Nat.reduceMul, Nat.reduceEqDiff, Nat.reduceLT, Nat.reduceLeDiff, eq_false c3, eq_false c4, eq_false c6, natOf_le hx7a, hx7b]
    subst hK
    refine AW.seq ?_
    refine AW.regL [0, 1, 7, 33] ?_
    generalize hK : AW Tryd.prog _ _ _ = K
    simp only [go_sem, ↓reduceIte, reduceCtorEq, Nat.reduceAdd, Nat.reduceSub, Nat.reduceMul, Nat.reduceEqDiff, Nat.reduceLT, Nat.reduceLeDiff, eq_false c3, eq_false c4, eq_false c6]
    subst hK
    by_cases c10 : (IntKind.i64.wrap ((a0.length : Int) - a1)) < (IntKind.i64.wrap (x8 + 1))
    ·rw [if_pos c10] at h
     refine AW.ifT rfl c10 ?_
     refine AW.regL [4, 5, 6] ?_
     generalize hK : AW Tryd.prog _ _ _ = K
     simp only [go_sem, ↓reduceIte, reduceCtorEq, Nat.reduceAdd, Nat.reduceSub, Nat.reduceMul, Nat.reduceEqDiff, Nat.reduceLT, Nat.reduceLeDiff, eq_false c3, eq_false c4, eq_false c6, eq_true c10]
     subst hK
     refine AW.ret ?_
     refine thenA_r ?_
     obtain rfl := Option.some.inj h
     (simp only [go_sem, ↓reduceIte, reduceCtorEq, Nat.reduceAdd, Nat.reduceSub, Nat.reduceMul, Nat.reduceEqDiff, Nat.reduceLT, Nat.reduceLeDiff, eq_false c3, eq_false c4, eq_false c6, eq_true c10, finA] <;> try simp)
    ·rw [if_neg c10] at h
     refine AW.ifF rfl c10 ?_
     refine AW.skip ?_
     refine thenA_n ?_
     refine AW.regL [0, 1, 7, 8] ?_
     generalize hK : AW Tryd.prog _ _ _ = K
     simp only [go_sem, ↓reduceIte, reduceCtorEq, Nat.reduceAdd, Nat.reduceSub, Nat.reduceMul, Nat.reduceEqDiff, Nat.reduceLT, Nat.reduceLeDiff, eq_false c3, eq_false c4, eq_false c6, eq_false c10]
     subst hK
     refine AW.join (fun s => ⟨(upd (upd (upd (upd anyF 0 (.sl (List.map enc5 a0))) 1 (.val (.int .i64 a1))) 7 (.val (.int .i64 (IntKind.i64.wrap (x8 + 1))))) 8 (.val (.int .u64 s))), hpL [] [], 8⟩) (fun s => f42_j1 a0 a1 x8 s = some r) ?_ ?_
     ·refine AW.regL [0, 1, 7, 8, 35] ?_
      generalize hK : AW Tryd.prog _ _ _ = K
      simp only [go_sem, ↓reduceIte, reduceCtorEq, Nat.reduceAdd, Nat.reduceSub, Nat.reduceMul, Nat.reduceEqDiff, Nat.reduceLT, Nat.reduceLeDiff, eq_false c3, eq_false c4, eq_false c6, eq_false c10]
      subst hK
      by_cases c35 : (IntKind.i64.wrap (x8 + 1)) ≤ 8
      ·rw [if_pos c35] at h
       refine AW.ifT rfl c35 ?_
       obtain ⟨x36, hx36, h⟩ := Option.bind_eq_some_iff.1 h
       obtain ⟨x37, hx37, h⟩ := Option.bind_eq_some_iff.1 h
       refine AW.drawL [0, 1, 7, 8] [[], [], [0, 1], [0, 1, 2], [0, 1, 2, 3], [], [5], [5, 6], [0, 1, 2, 3, 4, 5, 6, 7], [0, 1, 2, 3, 4, 5, 6, 7, 8]] [0, 1, 2, 3, 4, 5, 6, 7, 8, 9] (tab [(53, [.val (.int .i64 (IntKind.i64.wrap (8 - (IntKind.i64.wrap (x8 + 1)))))], .val (.int .u64 x36))]) (tab_cons (ok53 (IntKind.i64.wrap (8 - (IntKind.i64.wrap (x8 + 1)))) x36 hx36) Tryd.call53 tab_nil) draws (by kernel_rfl) (by kernel_rfl) ?_
       generalize hK : thenA _ _ Exit.normal = K
       simp only [go_sem, ↓reduceIte, reduceCtorEq, Nat.reduceAdd, Nat.reduceSub, Nat.reduceMul, Nat.reduceEqDiff, Nat.reduceLT, Nat.reduceLeDiff, eq_false c3, eq_false c4, eq_false c6, eq_false c10, eq_true c35, natOf_le hx7a, hx7b, eq_false (guardO_some.1 hx37)]
       subst hK
       refine thenA_n ?_
       refine ⟨_, h, ?_⟩
       refine Ent.can [] _ _ _ rfl (by first | decide | simp) rfl ?_ ?_ ?_
       · exact ((((RF.any.pv (by first | rfl | simp only [go_sem]) (by first | rfl | simp [upd_ap, hpL_ap, tau, mapT, mapTL, bytesI_len, eq_false c3, eq_false c4, eq_false c6, eq_false c10, eq_true c35])).pv (by first | rfl | simp only [go_sem]) (by first | rfl | simp [upd_ap, hpL_ap, tau, mapT, mapTL, bytesI_len, eq_false c3, eq_false c4, eq_false c6, eq_false c10, eq_true c35])).pv (by first | rfl | simp only [go_sem]) (by first | rfl | simp [upd_ap, hpL_ap, tau, mapT, mapTL, bytesI_len, eq_false c3, eq_false c4, eq_false c6, eq_false c10, eq_true c35])).pv (by first | rfl | simp only [go_sem]) (by first | rfl | simp [upd_ap, hpL_ap, tau, mapT, mapTL, bytesI_len, eq_false c3, eq_false c4, eq_false c6, eq_false c10, eq_true c35]))
       · exact .nil _
       · exact .nil _
      ·rw [if_neg c35] at h
       refine AW.ifF rfl c35 ?_
       refine AW.skip ?_
       refine thenA_n ?_
       refine ⟨_, h, ?_⟩
       refine Ent.can [] _ _ _ rfl (by first | decide | simp) rfl ?_ ?_ ?_
       · exact ((((RF.any.pv (by first | rfl | simp only [go_sem]) (by first | rfl | simp [upd_ap, hpL_ap, tau, mapT, mapTL, bytesI_len, eq_false c3, eq_false c4, eq_false c6, eq_false c10, eq_false c35])).pv (by first | rfl | simp only [go_sem]) (by first | rfl | simp [upd_ap, hpL_ap, tau, mapT, mapTL, bytesI_len, eq_false c3, eq_false c4, eq_false c6, eq_false c10, eq_false c35])).pv (by first | rfl | simp only [go_sem]) (by first | rfl | simp [upd_ap, hpL_ap, tau, mapT, mapTL, bytesI_len, eq_false c3, eq_false c4, eq_false c6, eq_false c10, eq_false c35])).pv (by first | rfl | simp only [go_sem]) (by first | rfl | simp [upd_ap, hpL_ap, tau, mapT, mapTL, bytesI_len, eq_false c3, eq_false c4, eq_false c6, eq_false c10, eq_false c35]))
       · exact .nil _
       · exact .nil _
     ·clear h
      rintro j1_0 h
      rw [f42_j1] at h
      refine AW.seq ?_
      refine AW.regL [0, 1, 7, 8, 9] ?_
      generalize hK : AW Tryd.prog _ _ _ = K
      simp only [go_sem, ↓reduceIte, reduceCtorEq, Nat.reduceAdd, Nat.reduceSub, Nat.reduceMul, Nat.reduceEqDiff, Nat.reduceLT, Nat.reduceLeDiff, eq_false c3, eq_false c4, eq_false c6, eq_false c10]
      subst hK
      refine AW.block ?_
      obtain ⟨y32, hy32, h⟩ := Option.bind_eq_some_iff.1 h
      refine AW.loopO (fun s => ⟨(upd (upd (upd (upd (upd anyF 0 (.sl (List.map enc5 a0))) 1 (.val (.int .i64 a1))) 7 (.val (.int .i64 (IntKind.i64.wrap (x8 + 1))))) 8 (.val (.int .u64 s.1))) 9 (.val (.int .i64 s.2))), hpL [] [], 8⟩) (fun z e st' => e = Exit.exit 0 ∧ st' = ⟨(upd (upd (upd anyF 1 (.val (.int .i64 a1))) 7 (.val (.int .i64 (IntKind.i64.wrap (x8 + 1))))) 8 (.val (.int .u64 z))), hpL [] [], 8⟩) hy32 ?_ ?_ ?_
      ·refine Ent.can [] _ _ _ rfl (by first | decide | simp) rfl ?_ ?_ ?_
       · exact (((((RF.any.pv (by first | rfl | simp only [go_sem]) (by first | rfl | simp [upd_ap, hpL_ap, tau, mapT, mapTL, bytesI_len, eq_false c3, eq_false c4, eq_false c6, eq_false c10])).pv (by first | rfl | simp only [go_sem]) (by first | rfl | simp [upd_ap, hpL_ap, tau, mapT, mapTL, bytesI_len, eq_false c3, eq_false c4, eq_false c6, eq_false c10])).pv (by first | rfl | simp only [go_sem]) (by first | rfl | simp [upd_ap, hpL_ap, tau, mapT, mapTL, bytesI_len, eq_false c3, eq_false c4, eq_false c6, eq_false c10])).pv (by first | rfl | simp only [go_sem]) (by first | rfl | simp [upd_ap, hpL_ap, tau, mapT, mapTL, bytesI_len, eq_false c3, eq_false c4, eq_false c6, eq_false c10])).pv (by first | rfl | simp only [go_sem]) (by first | rfl | simp [upd_ap, hpL_ap, tau, mapT, mapTL, bytesI_len, eq_false c3, eq_false c4, eq_false c6, eq_false c10]))
       · exact .nil _
       · exact .nil _
      ·clear h hy32
       rintro ⟨s2_0, s2_1⟩ x h
       rw [f42_s2] at h
       refine AW.seq ?_
       refine AW.regL [0, 1, 7, 8, 9, 51] ?_
       generalize hK : AW Tryd.prog _ _ _ = K
       simp only [go_sem, ↓reduceIte, reduceCtorEq, Nat.reduceAdd, Nat.reduceSub, Nat.reduceMul, Nat.reduceEqDiff, Nat.reduceLT, Nat.reduceLeDiff, eq_false c3, eq_false c4, eq_false c6, eq_false c10]
       subst hK
       by_cases c29 : s2_1 < (IntKind.i64.wrap (a1 + (IntKind.i64.wrap (x8 + 1))))
       ·rw [if_pos c29] at h
        refine AW.ifT rfl c29 ?_
        refine AW.skip ?_
        refine thenA_n ?_
        refine AW.seq ?_
        refine AW.block ?_
        obtain ⟨x30, hx30, h⟩ := Option.bind_eq_some_iff.1 h
        obtain ⟨hx30a, hx30b⟩ := ix_some.1 hx30
        refine AW.regionL [0, 1, 7, 8, 9] ?_
        generalize hK : inBlockA _ _ Exit.normal = K
        simp only [go_sem, ↓reduceIte, reduceCtorEq, Nat.reduceAdd, Nat.reduceSub, Nat.reduceMul, Nat.reduceEqDiff, Nat.reduceLT, Nat.reduceLeDiff, eq_false c3, eq_false c4, eq_false c6, eq_false c10, eq_true c29, natOf_le hx30a, hx30b]
        subst hK
        refine block_n ?_
        refine thenA_n ?_
        refine AW.regionL [0, 1, 7, 8, 9] ?_
        generalize hK : thenA _ _ Exit.normal = K
        simp only [go_sem, ↓reduceIte, reduceCtorEq, Nat.reduceAdd, Nat.reduceSub, Nat.reduceMul, Nat.reduceEqDiff, Nat.reduceLT, Nat.reduceLeDiff, eq_false c3, eq_false c4, eq_false c6, eq_false c10, eq_true c29]
        subst hK
        refine thenA_n ?_
        refine ⟨_, (Option.some.inj h).symm, ?_⟩
        refine Ent.can [] _ _ _ rfl (by first | decide | simp) rfl ?_ ?_ ?_
        · exact (((((RF.any.pv (by first | rfl | simp only [go_sem]) (by first | rfl | simp [upd_ap, hpL_ap, tau, mapT, mapTL, bytesI_len, eq_false c3, eq_false c4, eq_false c6, eq_false c10, eq_true c29])).pv (by first | rfl | simp only [go_sem]) (by first | rfl | simp [upd_ap, hpL_ap, tau, mapT, mapTL, bytesI_len, eq_false c3, eq_false c4, eq_false c6, eq_false c10, eq_true c29])).pv (by first | rfl | simp only [go_sem]) (by first | rfl | simp [upd_ap, hpL_ap, tau, mapT, mapTL, bytesI_len, eq_false c3, eq_false c4, eq_false c6, eq_false c10, eq_true c29])).pv (by first | rfl | simp only [go_sem]) (by first | rfl | simp [upd_ap, hpL_ap, tau, mapT, mapTL, bytesI_len, eq_false c3, eq_false c4, eq_false c6, eq_false c10, eq_true c29])).pv (by first | rfl | simp only [go_sem]) (by first | rfl | simp [upd_ap, hpL_ap, tau, mapT, mapTL, bytesI_len, eq_false c3, eq_false c4, eq_false c6, eq_false c10, eq_true c29]))
        · exact .nil _
        · exact .nil _
       ·rw [if_neg c29] at h
        refine AW.ifF rfl c29 ?_
        refine AW.exit ?_
        refine thenA_x ?_
        refine thenA_x ?_
        refine ⟨_, (Option.some.inj h).symm, _, ?_, rfl, rfl⟩
        refine Ent.can [] _ _ _ rfl (by first | decide | simp) rfl ?_ ?_ ?_
        · exact (((RF.any.pv (by first | rfl | simp only [go_sem]) (by first | rfl | simp [upd_ap, hpL_ap, tau, mapT, mapTL, bytesI_len, eq_false c3, eq_false c4, eq_false c6, eq_false c10, eq_false c29])).pv (by first | rfl | simp only [go_sem]) (by first | rfl | simp [upd_ap, hpL_ap, tau, mapT, mapTL, bytesI_len, eq_false c3, eq_false c4, eq_false c6, eq_false c10, eq_false c29])).pv (by first | rfl | simp only [go_sem]) (by first | rfl | simp [upd_ap, hpL_ap, tau, mapT, mapTL, bytesI_len, eq_false c3, eq_false c4, eq_false c6, eq_false c10, eq_false c29]))
        · exact .nil _
        · exact .nil _
      ·intro e st' hX
       try dsimp only at h
       try dsimp only at hX
       obtain ⟨rfl, rfl⟩ := hX
       refine ⟨_, Ent.refl, ?_⟩
       refine block_x ?_
       refine thenA_n ?_
       refine AW.seq ?_
       obtain ⟨x33, hx33, h⟩ := Option.bind_eq_some_iff.1 h
       refine AW.regL [1, 7, 8, 65] ?_
       generalize hK : AW Tryd.prog _ _ _ = K
       simp only [go_sem, ↓reduceIte, reduceCtorEq, Nat.reduceAdd, Nat.reduceSub, Nat.reduceMul, Nat.reduceEqDiff, Nat.reduceLT, Nat.reduceLeDiff, eq_false c3, eq_false c4, eq_false c6, eq_false c10]
       refine arC.of (ok54 y32 x33 hx33) Tryd.call54 ?_
       simp only [go_sem, ↓reduceIte, reduceCtorEq, Nat.reduceAdd, Nat.reduceSub, Nat.reduceMul, Nat.reduceEqDiff, Nat.reduceLT, Nat.reduceLeDiff, eq_false c3, eq_false c4, eq_false c6, eq_false c10]
       subst hK
       by_cases c34 : x33 = (IntKind.i64.wrap (x8 + 1))
       ·rw [if_pos c34] at h
        refine AW.ifF rfl (fun q => q c34) ?_
        refine AW.skip ?_
        refine thenA_n ?_
        refine AW.regL [4, 5, 6] ?_
        generalize hK : AW Tryd.prog _ _ _ = K
        simp only [go_sem, ↓reduceIte, reduceCtorEq, Nat.reduceAdd, Nat.reduceSub, Nat.reduceMul, Nat.reduceEqDiff, Nat.reduceLT, Nat.reduceLeDiff, eq_false c3, eq_false c4, eq_false c6, eq_false c10, eq_true c34]
        subst hK
        refine AW.ret ?_
        obtain rfl := Option.some.inj h
        (simp only [go_sem, ↓reduceIte, reduceCtorEq, Nat.reduceAdd, Nat.reduceSub, Nat.reduceMul, Nat.reduceEqDiff, Nat.reduceLT, Nat.reduceLeDiff, eq_false c3, eq_false c4, eq_false c6, eq_false c10, eq_true c34, finA] <;> try simp)
       ·rw [if_neg c34] at h
        refine AW.ifT rfl c34 ?_
        refine AW.regL [4, 5, 6] ?_
        generalize hK : AW Tryd.prog _ _ _ = K
        simp only [go_sem, ↓reduceIte, reduceCtorEq, Nat.reduceAdd, Nat.reduceSub, Nat.reduceMul, Nat.reduceEqDiff, Nat.reduceLT, Nat.reduceLeDiff, eq_false c3, eq_false c4, eq_false c6, eq_false c10, eq_false c34]
        subst hK
        refine AW.ret ?_
        refine thenA_r ?_
        obtain rfl := Option.some.inj h
        (simp only [go_sem, ↓reduceIte, reduceCtorEq, Nat.reduceAdd, Nat.reduceSub, Nat.reduceMul, Nat.reduceEqDiff, Nat.reduceLT, Nat.reduceLeDiff, eq_false c3, eq_false c4, eq_false c6, eq_false c10, eq_false c34, finA] <;> try simp)
end Au
end Go.Proofs.Yd

set_option linter.all false
set_option maxRecDepth 8000
set_option maxHeartbeats 1000000
namespace Go.Proofs.Yd
open Go.Gm
namespace Au
noncomputable def f43 (a0 : List Int) (a1 : Int) (a2 : Int) : Option (ByteArray × Int × Int) := ((f42 a0 a1).bind fun x1 => (if x1.2.2 = 0 then (if a2 < 0 then some (⟨#[]⟩, 0, 5) else (if (IntKind.u64.wrap a2) < x1.1 then some (⟨#[]⟩, 0, 5) else (if (IntKind.u64.wrap (IntKind.i64.wrap ((a0.length : Int) - x1.2.1))) < x1.1 then some (⟨#[]⟩, 0, 2) else ((cutO? a0 x1.2.1 (IntKind.i64.wrap (x1.2.1 + (IntKind.i64.wrap x1.1)))).bind fun x10 => some (strOfNums x10, IntKind.i64.wrap (x1.2.1 + (IntKind.i64.wrap x1.1)), 0))))) else some (⟨#[]⟩, 0, x1.2.2)))
theorem ok43 (a0 : List Int) (a1 : Int) (a2 : Int) (r : ByteArray × Int × Int) (h : f43 a0 a1 a2 = some r) : PC Tryd.prog 43 [.sl (List.map enc5 a0), .val (.int .i64 a1), .val (.int .i64 a2)] (.tup [.val (.string r.1), .val (.int .i64 r.2.1), .val (.int .i64 r.2.2)]) := by
 rw [f43] at h
 refine pc_of8 (N := 49) (rs := [.tmp 6, .tmp 7, .tmp 8]) Tryd.func43 rfl rfl rfl (Nat.le_of_ble_eq_true rfl) ?_
 refine AW.regL [0, 1, 2] ?_
 generalize hK : AW Tryd.prog _ _ _ = K
 simp only [go_sem, ↓reduceIte, reduceCtorEq, Nat.reduceAdd, Nat.reduceSub, Nat.reduceMul, Nat.reduceEqDiff, Nat.reduceLT, Nat.reduceLeDiff]
 subst hK
 obtain ⟨x1, hx1, h⟩ := Option.bind_eq_some_iff.1 h
 refine AW.regL [0, 2, 9, 10, 11] ?_
 generalize hK : AW Tryd.prog _ _ _ = K
 simp only [go_sem, ↓reduceIte, reduceCtorEq, Nat.reduceAdd, Nat.reduceSub, Nat.reduceMul, Nat.reduceEqDiff, Nat.reduceLT, Nat.reduceLeDiff]
 refine arC.of (ok42 a0 a1 x1 hx1) Tryd.call42 ?_
 simp only [go_sem, ↓reduceIte, reduceCtorEq, Nat.reduceAdd, Nat.reduceSub, Nat.reduceMul, Nat.reduceEqDiff, Nat.reduceLT, Nat.reduceLeDiff]
 subst hK
 refine AW.seq ?_
 refine AW.regL [0, 2, 9, 10, 11, 20] ?_
 generalize hK : AW Tryd.prog _ _ _ = K
 simp only [go_sem, ↓reduceIte, reduceCtorEq, Nat.reduceAdd, Nat.reduceSub, Nat.reduceMul, Nat.reduceEqDiff, Nat.reduceLT, Nat.reduceLeDiff]
 subst hK
 by_cases c3 : x1.2.2 = 0
 ·rw [if_pos c3] at h
  refine AW.ifF rfl (fun q => q c3) ?_
  refine AW.skip ?_
  refine thenA_n ?_
  refine AW.seq ?_
  by_cases c6 : a2 < 0
  ·rw [if_pos c6] at h
   refine AW.regL [0, 9, 10, 29] ?_
   generalize hK : AW Tryd.prog _ _ _ = K
   simp only [go_sem, ↓reduceIte, reduceCtorEq, Nat.reduceAdd, Nat.reduceSub, Nat.reduceMul, Nat.reduceEqDiff, Nat.reduceLT, Nat.reduceLeDiff, eq_true c3, eq_true c6]
   subst hK
   refine AW.ifBT rfl rfl ?_
   refine AW.regL [6, 7, 8] ?_
   generalize hK : AW Tryd.prog _ _ _ = K
   simp only [go_sem, ↓reduceIte, reduceCtorEq, Nat.reduceAdd, Nat.reduceSub, Nat.reduceMul, Nat.reduceEqDiff, Nat.reduceLT, Nat.reduceLeDiff, eq_true c3, eq_true c6]
   subst hK
   refine AW.ret ?_
   refine thenA_r ?_
   obtain rfl := Option.some.inj h
   (simp only [go_sem, ↓reduceIte, reduceCtorEq, Nat.reduceAdd, Nat.reduceSub, Nat.reduceMul, Nat.reduceEqDiff, Nat.reduceLT, Nat.reduceLeDiff, eq_true c3, eq_true c6, finA] <;> try simp)
  ·rw [if_neg c6] at h
   refine AW.regL [0, 9, 10, 29] ?_
   generalize hK : AW Tryd.prog _ _ _ = K
   simp only [go_sem, ↓reduceIte, reduceCtorEq, Nat.reduceAdd, Nat.reduceSub, Nat.reduceMul, Nat.reduceEqDiff, Nat.reduceLT, Nat.reduceLeDiff, eq_true c3, eq_false c6]
   subst hK
   by_cases c7 : (IntKind.u64.wrap a2) < x1.1
   ·rw [if_pos c7] at h
    refine AW.ifT rfl c7 ?_
    refine AW.regL [6, 7, 8] ?_
    generalize hK : AW Tryd.prog _ _ _ = K
    simp only [go_sem, ↓reduceIte, reduceCtorEq, Nat.reduceAdd, Nat.reduceSub, Nat.reduceMul, Nat.reduceEqDiff, Nat.reduceLT, Nat.reduceLeDiff, eq_true c3, eq_false c6, eq_true c7]
    subst hK
    refine AW.ret ?_
    refine thenA_r ?_
    obtain rfl := Option.some.inj h
    (simp only [go_sem, ↓reduceIte, reduceCtorEq, Nat.reduceAdd, Nat.reduceSub, Nat.reduceMul, Nat.reduceEqDiff, Nat.reduceLT, Nat.reduceLeDiff, eq_true c3, eq_false c6, eq_true c7, finA] <;> try simp)
   ·rw [if_neg c7] at h
    refine AW.ifF rfl c7 ?_
    refine AW.skip ?_
    refine thenA_n ?_
    refine AW.seq ?_
    refine AW.regL [0, 9, 10, 36] ?_
    generalize hK : AW Tryd.prog _ _ _ = K
    simp only [go_sem, ↓reduceIte, reduceCtorEq, Nat.reduceAdd, Nat.reduceSub, Nat.reduceMul, Nat.reduceEqDiff, Nat.reduceLT, Nat.reduceLeDiff, eq_true c3, eq_false c6, eq_false c7]
    subst hK
    by_cases c9 : (IntKind.u64.wrap (IntKind.i64.wrap ((a0.length : Int) - x1.2.1))) < x1.1
    ·rw [if_pos c9] at h
     refine AW.ifT rfl c9 ?_
     refine AW.regL [6, 7, 8] ?_
     generalize hK : AW Tryd.prog _ _ _ = K
     simp only [go_sem, ↓reduceIte, reduceCtorEq, Nat.reduceAdd, Nat.reduceSub, Nat.reduceMul, Nat.reduceEqDiff, Nat.reduceLT, Nat.reduceLeDiff, eq_true c3, eq_false c6, eq_false c7, eq_true c9]
     subst hK
     refine AW.ret ?_
     refine thenA_r ?_
     obtain rfl := Option.some.inj h
     (simp only [go_sem, ↓reduceIte, reduceCtorEq, Nat.reduceAdd, Nat.reduceSub, Nat.reduceMul, Nat.reduceEqDiff, Nat.reduceLT, Nat.reduceLeDiff, eq_true c3, eq_false c6, eq_false c7, eq_true c9, finA] <;> try simp)
    ·rw [if_neg c9] at h
     refine AW.ifF rfl c9 ?_
     refine AW.skip ?_
     refine thenA_n ?_
     obtain ⟨x10, hx10, h⟩ := Option.bind_eq_some_iff.1 h
     refine AW.regL [6, 7, 8] ?_
     generalize hK : AW Tryd.prog _ _ _ = K
     simp only [go_sem, ↓reduceIte, reduceCtorEq, Nat.reduceAdd, Nat.reduceSub, Nat.reduceMul, Nat.reduceEqDiff, Nat.reduceLT, Nat.reduceLeDiff, eq_true c3, eq_false c6, eq_false c7, eq_false c9, cut_ss el34 sz5 (ml_enc5 _) hx10, byteNums_map (enc := enc5) (fun _ => rfl)]
     subst hK
     refine AW.ret ?_
     obtain rfl := Option.some.inj h
     (simp only [go_sem, ↓reduceIte, reduceCtorEq, Nat.reduceAdd, Nat.reduceSub, Nat.reduceMul, Nat.reduceEqDiff, Nat.reduceLT, Nat.reduceLeDiff, eq_true c3, eq_false c6, eq_false c7, eq_false c9, finA] <;> try simp)
 ·rw [if_neg c3] at h
  refine AW.ifT rfl c3 ?_
  refine AW.regL [6, 7, 8] ?_
  generalize hK : AW Tryd.prog _ _ _ = K
  simp only [go_sem, ↓reduceIte, reduceCtorEq, Nat.reduceAdd, Nat.reduceSub, Nat.reduceMul, Nat.reduceEqDiff, Nat.reduceLT, Nat.reduceLeDiff, eq_false c3]
  subst hK
  refine AW.ret ?_
  refine thenA_r ?_
  obtain rfl := Option.some.inj h
  (simp only [go_sem, ↓reduceIte, reduceCtorEq, Nat.reduceAdd, Nat.reduceSub, Nat.reduceMul, Nat.reduceEqDiff, Nat.reduceLT, Nat.reduceLeDiff, eq_false c3, finA] <;> try simp)
end Au
end Go.Proofs.Yd

set_option linter.all false
set_option maxRecDepth 8000
set_option maxHeartbeats 1000000
namespace Go.Proofs.Yd
open Go.Gm
namespace Au
noncomputable def f55 (a0 : Int) : Option Bool := (if 0 ≤ a0 then some (decide (a0 ≤ 1073741824)) else some false)
theorem ok55 (a0 : Int) (r : Bool) (h : f55 a0 = some r) : PC Tryd.prog 55 [.val (.int .i64 a0)] (.val (.bool r)) := by
 rw [f55] at h
 refine pc_of8 (N := 9) (rs := [.tmp 2]) Tryd.func55 rfl rfl rfl (Nat.le_of_ble_eq_true rfl) ?_
 refine AW.regL [0] ?_
 generalize hK : AW Tryd.prog _ _ _ = K
 simp only [go_sem, ↓reduceIte, reduceCtorEq, Nat.reduceAdd, Nat.reduceSub, Nat.reduceMul, Nat.reduceEqDiff, Nat.reduceLT, Nat.reduceLeDiff]
 subst hK
 by_cases c1 : 0 ≤ a0
 ·rw [if_pos c1] at h
  refine AW.regL [2] ?_
  generalize hK : AW Tryd.prog _ _ _ = K
  simp only [go_sem, ↓reduceIte, reduceCtorEq, Nat.reduceAdd, Nat.reduceSub, Nat.reduceMul, Nat.reduceEqDiff, Nat.reduceLT, Nat.reduceLeDiff, eq_true c1]
  subst hK
  refine AW.ret ?_
  obtain rfl := Option.some.inj h
  (simp only [go_sem, ↓reduceIte, reduceCtorEq, Nat.reduceAdd, Nat.reduceSub, Nat.reduceMul, Nat.reduceEqDiff, Nat.reduceLT, Nat.reduceLeDiff, eq_true c1, finA] <;> try simp)
 ·rw [if_neg c1] at h
  refine AW.regL [2] ?_
  generalize hK : AW Tryd.prog _ _ _ = K
  simp only [go_sem, ↓reduceIte, reduceCtorEq, Nat.reduceAdd, Nat.reduceSub, Nat.reduceMul, Nat.reduceEqDiff, Nat.reduceLT, Nat.reduceLeDiff, eq_false c1]
  subst hK
  refine AW.ret ?_
  obtain rfl := Option.some.inj h
  (simp only [go_sem, ↓reduceIte, reduceCtorEq, Nat.reduceAdd, Nat.reduceSub, Nat.reduceMul, Nat.reduceEqDiff, Nat.reduceLT, Nat.reduceLeDiff, eq_false c1, finA] <;> try simp)
end Au
end Go.Proofs.Yd

set_option linter.all false
set_option maxRecDepth 8000
set_option maxHeartbeats 1000000
namespace Go.Proofs.Yd
open Go.Gm
namespace Au
noncomputable def f44_s2 (a0 : Note) : Int → Option (Int ⊕ (Bool ⊕ Unit))
  | s2_0 => (if s2_0 < (a0.Where.length : Int) then ((ix a0.Where s2_0).bind fun x41 => ((f55 x41).bind fun x42 => (if x42 = true then some (.inl (IntKind.i64.wrap (s2_0 + 1))) else some (.inr (.inl false))))) else some (.inr (.inr ())))
noncomputable def f44_j2 (a0 : Note) : Unit → Option Bool
  | _ => (if (a0.B.length : Int) ≤ 1048576 then (if (a0.B.length : Int) = 0 then some true else some (decide (a0.Kind = 8))) else some false)
noncomputable def f44_j1 (a0 : Note) : Unit → Option Bool
  | _ => (if 1048576 < (a0.A.length : Int) then some false else (if 0 < (a0.A.length : Int) then (if a0.Kind = 5 then f44_j2 a0 () else (if a0.Kind = 8 then f44_j2 a0 () else some false)) else f44_j2 a0 ()))
noncomputable def f44 (a0 : Note) : Option Bool := (if a0.Kind < 0 then some false else (if 10 < a0.Kind then some false else ((f55 a0.Task).bind fun x11 => (if x11 = true then ((f55 a0.Try).bind fun x13 => (if x13 = true then ((f55 a0.Part).bind fun x15 => (if x15 = true then ((loopO (f44_s2 a0) 0).bind fun y44 => match y44 with | .inl y45 => some y45 | .inr _ => (if 65536 < (a0.Where.length : Int) then some false else (if 0 < (a0.Where.length : Int) then (if a0.Kind = 3 then f44_j1 a0 () else some false) else f44_j1 a0 ()))) else some false)) else some false)) else some false))))
theorem ok44 (a0 : Note) (r : Bool) (h : f44 a0 = some r) : PC Tryd.prog 44 [.agg (encNote a0)] (.val (.bool r)) := by
 rw [f44] at h
 refine pc_of8 (N := 94) (rs := [.tmp 2]) Tryd.func44 rfl rfl rfl (Nat.le_of_ble_eq_true rfl) ?_
 refine AW.regL [1] ?_
 generalize hK : AW Tryd.prog _ _ _ = K
 simp only [go_sem, ↓reduceIte, reduceCtorEq, Nat.reduceAdd, Nat.reduceSub, Nat.reduceMul, Nat.reduceEqDiff, Nat.reduceLT, Nat.reduceLeDiff]
 subst hK
 refine AW.seq ?_
 by_cases c9 : a0.Kind < 0
 ·rw [if_pos c9] at h
  refine AW.regL [1, 29] ?_
  generalize hK : AW Tryd.prog _ _ _ = K
  simp only [go_sem, ↓reduceIte, reduceCtorEq, Nat.reduceAdd, Nat.reduceSub, Nat.reduceMul, Nat.reduceEqDiff, Nat.reduceLT, Nat.reduceLeDiff, eq_true c9]
  subst hK
  refine AW.ifBT rfl rfl ?_
  refine AW.regL [2] ?_
  generalize hK : AW Tryd.prog _ _ _ = K
  simp only [go_sem, ↓reduceIte, reduceCtorEq, Nat.reduceAdd, Nat.reduceSub, Nat.reduceMul, Nat.reduceEqDiff, Nat.reduceLT, Nat.reduceLeDiff, eq_true c9]
  subst hK
  refine AW.ret ?_
  refine thenA_r ?_
  obtain rfl := Option.some.inj h
  (simp only [go_sem, ↓reduceIte, reduceCtorEq, Nat.reduceAdd, Nat.reduceSub, Nat.reduceMul, Nat.reduceEqDiff, Nat.reduceLT, Nat.reduceLeDiff, eq_true c9, finA] <;> try simp)
 ·rw [if_neg c9] at h
  by_cases c10 : 10 < a0.Kind
  ·rw [if_pos c10] at h
   refine AW.regL [1, 29] ?_
   generalize hK : AW Tryd.prog _ _ _ = K
   simp only [go_sem, ↓reduceIte, reduceCtorEq, Nat.reduceAdd, Nat.reduceSub, Nat.reduceMul, Nat.reduceEqDiff, Nat.reduceLT, Nat.reduceLeDiff, eq_false c9, eq_true c10]
   subst hK
   refine AW.ifBT rfl rfl ?_
   refine AW.regL [2] ?_
   generalize hK : AW Tryd.prog _ _ _ = K
   simp only [go_sem, ↓reduceIte, reduceCtorEq, Nat.reduceAdd, Nat.reduceSub, Nat.reduceMul, Nat.reduceEqDiff, Nat.reduceLT, Nat.reduceLeDiff, eq_false c9, eq_true c10]
   subst hK
   refine AW.ret ?_
   refine thenA_r ?_
   obtain rfl := Option.some.inj h
   (simp only [go_sem, ↓reduceIte, reduceCtorEq, Nat.reduceAdd, Nat.reduceSub, Nat.reduceMul, Nat.reduceEqDiff, Nat.reduceLT, Nat.reduceLeDiff, eq_false c9, eq_true c10, finA] <;> try simp)
  ·rw [if_neg c10] at h
   obtain ⟨x11, hx11, h⟩ := Option.bind_eq_some_iff.1 h
   by_cases c12 : x11 = true
   ·rw [if_pos c12] at h
    obtain ⟨x13, hx13, h⟩ := Option.bind_eq_some_iff.1 h
    by_cases c14 : x13 = true
    ·rw [if_pos c14] at h
     obtain ⟨x15, hx15, h⟩ := Option.bind_eq_some_iff.1 h
     refine AW.regL [1, 29] ?_
     generalize hK : AW Tryd.prog _ _ _ = K
     simp only [go_sem, ↓reduceIte, reduceCtorEq, Nat.reduceAdd, Nat.reduceSub, Nat.reduceMul, Nat.reduceEqDiff, Nat.reduceLT, Nat.reduceLeDiff, eq_false c9, eq_false c10, c12, c14]
     refine arC.of (ok55 a0.Task x11 hx11) Tryd.call55 ?_
     simp only [go_sem, ↓reduceIte, reduceCtorEq, Nat.reduceAdd, Nat.reduceSub, Nat.reduceMul, Nat.reduceEqDiff, Nat.reduceLT, Nat.reduceLeDiff, eq_false c9, eq_false c10, c12, c14]
     refine arC.of (ok55 a0.Try x13 hx13) Tryd.call55 ?_
     simp only [go_sem, ↓reduceIte, reduceCtorEq, Nat.reduceAdd, Nat.reduceSub, Nat.reduceMul, Nat.reduceEqDiff, Nat.reduceLT, Nat.reduceLeDiff, eq_false c9, eq_false c10, c12, c14]
     refine arC.of (ok55 a0.Part x15 hx15) Tryd.call55 ?_
     simp only [go_sem, ↓reduceIte, reduceCtorEq, Nat.reduceAdd, Nat.reduceSub, Nat.reduceMul, Nat.reduceEqDiff, Nat.reduceLT, Nat.reduceLeDiff, eq_false c9, eq_false c10, c12, c14]
     subst hK
     by_cases c16 : x15 = true
     ·rw [if_pos c16] at h
      refine AW.ifBF rfl (by rw [c16]; rfl) ?_
      refine AW.skip ?_
      refine thenA_n ?_
      refine AW.seq ?_
      refine AW.regL [1, 3] ?_
      generalize hK : AW Tryd.prog _ _ _ = K
      simp only [go_sem, ↓reduceIte, reduceCtorEq, Nat.reduceAdd, Nat.reduceSub, Nat.reduceMul, Nat.reduceEqDiff, Nat.reduceLT, Nat.reduceLeDiff, eq_false c9, eq_false c10, c12, c14, c16]
      subst hK
      refine AW.block ?_
      obtain ⟨y44, hy44, h⟩ := Option.bind_eq_some_iff.1 h
      refine AW.loopO (fun s => ⟨(upd (upd anyF 1 (.ptr 8 0 0)) 3 (.val (.int .i64 s))), hpL [] [some (.row 7 true [[.val (.int .i64 a0.Kind), .val (.int .i64 a0.Task), .val (.int .i64 a0.Try), .val (.int .i64 a0.Part), .sl (List.map enc3 a0.Where), .sl (List.map enc5 a0.A), .sl (List.map enc5 a0.B)]])], 9⟩) (fun y e st' => match y with | .inl z => e = Exit.ret ∧ finA Tryd.prog [.tmp 2] (.val (.bool z)) .ret st' | .inr z => e = Exit.exit 0 ∧ st' = ⟨(upd anyF 1 (.ptr 8 0 0)), hpL [] [some (.row 7 true [[.val (.int .i64 a0.Kind), .val (.int .i64 a0.Task), .val (.int .i64 a0.Try), .val (.int .i64 a0.Part), .sl (List.map enc3 a0.Where), .sl (List.map enc5 a0.A), .sl (List.map enc5 a0.B)]])], 9⟩) hy44 ?_ ?_ ?_
      ·refine Ent.can [8] _ _ _ rfl (by first | decide | simp) rfl ?_ ?_ ?_
       · exact ((RF.any.pp (by decide) (by first | rfl | simp [upd_ap, hpL_ap, tau, mapT, mapTL, bytesI_len, eq_false c9, eq_false c10, c12, c14, c16])).pv (by first | rfl | simp only [go_sem]) (by first | rfl | simp [upd_ap, hpL_ap, tau, mapT, mapTL, bytesI_len, eq_false c9, eq_false c10, c12, c14, c16]))
       · exact .nil _
       · exact .cons (.eq (by first | rfl | simp only [go_sem]) (by first | rfl | simp [upd_ap, hpL_ap, tau, mapT, mapTL, bytesI_len, eq_false c9, eq_false c10, c12, c14, c16])) (.nil _)
      ·clear h hy44
       rintro s2_0 x h
       rw [f44_s2] at h
       refine AW.seq ?_
       refine AW.regL [1, 3, 34] ?_
       generalize hK : AW Tryd.prog _ _ _ = K
       simp only [go_sem, ↓reduceIte, reduceCtorEq, Nat.reduceAdd, Nat.reduceSub, Nat.reduceMul, Nat.reduceEqDiff, Nat.reduceLT, Nat.reduceLeDiff, eq_false c9, eq_false c10, c12, c14, c16]
       subst hK
       by_cases c40 : s2_0 < (a0.Where.length : Int)
       ·rw [if_pos c40] at h
        refine AW.ifT rfl c40 ?_
        refine AW.skip ?_
        refine thenA_n ?_
        refine AW.seq ?_
        refine AW.block ?_
        obtain ⟨x41, hx41, h⟩ := Option.bind_eq_some_iff.1 h
        obtain ⟨hx41a, hx41b⟩ := ix_some.1 hx41
        obtain ⟨x42, hx42, h⟩ := Option.bind_eq_some_iff.1 h
        refine AW.regL [1, 3, 43] ?_
        generalize hK : AW Tryd.prog _ _ _ = K
        simp only [go_sem, ↓reduceIte, reduceCtorEq, Nat.reduceAdd, Nat.reduceSub, Nat.reduceMul, Nat.reduceEqDiff, Nat.reduceLT, Nat.reduceLeDiff, eq_false c9, eq_false c10, c12, c14, c16, eq_true c40, natOf_le hx41a, hx41b]
        refine arC.of (ok55 x41 x42 hx42) Tryd.call55 ?_
        simp only [go_sem, ↓reduceIte, reduceCtorEq, Nat.reduceAdd, Nat.reduceSub, Nat.reduceMul, Nat.reduceEqDiff, Nat.reduceLT, Nat.reduceLeDiff, eq_false c9, eq_false c10, c12, c14, c16, eq_true c40, natOf_le hx41a, hx41b]
        subst hK
        by_cases c43 : x42 = true
        ·rw [if_pos c43] at h
         refine AW.ifBF rfl (by rw [c43]; rfl) ?_
         refine AW.skip ?_
         refine block_n ?_
         refine thenA_n ?_
         refine AW.regionL [1, 3] ?_
         generalize hK : thenA _ _ Exit.normal = K
         simp only [go_sem, ↓reduceIte, reduceCtorEq, Nat.reduceAdd, Nat.reduceSub, Nat.reduceMul, Nat.reduceEqDiff, Nat.reduceLT, Nat.reduceLeDiff, eq_false c9, eq_false c10, c12, c14, c16, eq_true c40, c43]
         subst hK
         refine thenA_n ?_
         refine ⟨_, (Option.some.inj h).symm, ?_⟩
         refine Ent.can [8] _ _ _ rfl (by first | decide | simp) rfl ?_ ?_ ?_
         · exact ((RF.any.pp (by decide) (by first | rfl | simp [upd_ap, hpL_ap, tau, mapT, mapTL, bytesI_len, eq_false c9, eq_false c10, c12, c14, c16, eq_true c40, c43])).pv (by first | rfl | simp only [go_sem]) (by first | rfl | simp [upd_ap, hpL_ap, tau, mapT, mapTL, bytesI_len, eq_false c9, eq_false c10, c12, c14, c16, eq_true c40, c43]))
         · exact .nil _
         · exact .cons (.eq (by first | rfl | simp only [go_sem]) (by first | rfl | simp [upd_ap, hpL_ap, tau, mapT, mapTL, bytesI_len, eq_false c9, eq_false c10, c12, c14, c16, eq_true c40, c43])) (.nil _)
        ·rw [if_neg c43] at h
         rw [Bool.not_eq_true] at c43
         refine AW.ifBT rfl (by rw [c43]; rfl) ?_
         refine AW.regL [2] ?_
         generalize hK : AW Tryd.prog _ _ _ = K
         simp only [go_sem, ↓reduceIte, reduceCtorEq, Nat.reduceAdd, Nat.reduceSub, Nat.reduceMul, Nat.reduceEqDiff, Nat.reduceLT, Nat.reduceLeDiff, eq_false c9, eq_false c10, c12, c14, c16, eq_true c40, c43]
         subst hK
         refine AW.ret ?_
         refine block_r ?_
         refine thenA_r ?_
         refine thenA_r ?_
         refine ⟨_, (Option.some.inj h).symm, _, Ent.refl, rfl, ?_⟩
         (simp only [go_sem, ↓reduceIte, reduceCtorEq, Nat.reduceAdd, Nat.reduceSub, Nat.reduceMul, Nat.reduceEqDiff, Nat.reduceLT, Nat.reduceLeDiff, eq_false c9, eq_false c10, c12, c14, c16, eq_true c40, c43, finA] <;> try simp)
       ·rw [if_neg c40] at h
        refine AW.ifF rfl c40 ?_
        refine AW.exit ?_
        refine thenA_x ?_
        refine thenA_x ?_
        refine ⟨_, (Option.some.inj h).symm, _, ?_, rfl, rfl⟩
        refine Ent.can [8] _ _ _ rfl (by first | decide | simp) rfl ?_ ?_ ?_
        · exact (RF.any.pp (by decide) (by first | rfl | simp [upd_ap, hpL_ap, tau, mapT, mapTL, bytesI_len, eq_false c9, eq_false c10, c12, c14, c16, eq_false c40]))
        · exact .nil _
        · exact .cons (.eq (by first | rfl | simp only [go_sem]) (by first | rfl | simp [upd_ap, hpL_ap, tau, mapT, mapTL, bytesI_len, eq_false c9, eq_false c10, c12, c14, c16, eq_false c40])) (.nil _)
      ·intro e st' hX
       rcases y44 with y45 | _ <;> dsimp only at h hX
       ·obtain ⟨rfl, hf⟩ := hX
        refine ⟨_, Ent.refl, ?_⟩
        refine block_r ?_
        refine thenA_r ?_
        obtain rfl := Option.some.inj h
        exact hf
       ·obtain ⟨rfl, rfl⟩ := hX
        refine ⟨_, Ent.refl, ?_⟩
        refine block_x ?_
        refine thenA_n ?_
        refine AW.join (fun s => ⟨(upd anyF 1 (.ptr 8 0 0)), hpL [] [some (.row 7 true [[.val (.int .i64 a0.Kind), .val (.int .i64 a0.Task), .val (.int .i64 a0.Try), .val (.int .i64 a0.Part), .sl (List.map enc3 a0.Where), .sl (List.map enc5 a0.A), .sl (List.map enc5 a0.B)]])], 9⟩) (fun s => f44_j1 a0 s = some r) ?_ ?_
        ·by_cases c59 : 65536 < (a0.Where.length : Int)
         ·rw [if_pos c59] at h
          refine AW.regL [1, 58] ?_
          generalize hK : AW Tryd.prog _ _ _ = K
          simp only [go_sem, ↓reduceIte, reduceCtorEq, Nat.reduceAdd, Nat.reduceSub, Nat.reduceMul, Nat.reduceEqDiff, Nat.reduceLT, Nat.reduceLeDiff, eq_false c9, eq_false c10, c12, c14, c16, eq_true c59]
          subst hK
          refine AW.ifBT rfl rfl ?_
          refine AW.regL [2] ?_
          generalize hK : AW Tryd.prog _ _ _ = K
          simp only [go_sem, ↓reduceIte, reduceCtorEq, Nat.reduceAdd, Nat.reduceSub, Nat.reduceMul, Nat.reduceEqDiff, Nat.reduceLT, Nat.reduceLeDiff, eq_false c9, eq_false c10, c12, c14, c16, eq_true c59]
          subst hK
          refine AW.ret ?_
          refine thenA_r ?_
          obtain rfl := Option.some.inj h
          (simp only [go_sem, ↓reduceIte, reduceCtorEq, Nat.reduceAdd, Nat.reduceSub, Nat.reduceMul, Nat.reduceEqDiff, Nat.reduceLT, Nat.reduceLeDiff, eq_false c9, eq_false c10, c12, c14, c16, eq_true c59, finA] <;> try simp)
         ·rw [if_neg c59] at h
          by_cases c60 : 0 < (a0.Where.length : Int)
          ·rw [if_pos c60] at h
           refine AW.regL [1, 58] ?_
           generalize hK : AW Tryd.prog _ _ _ = K
           simp only [go_sem, ↓reduceIte, reduceCtorEq, Nat.reduceAdd, Nat.reduceSub, Nat.reduceMul, Nat.reduceEqDiff, Nat.reduceLT, Nat.reduceLeDiff, eq_false c9, eq_false c10, c12, c14, c16, eq_false c59, eq_true c60]
           subst hK
           by_cases c61 : a0.Kind = 3
           ·rw [if_pos c61] at h
            refine AW.ifF rfl (fun q => q c61) ?_
            refine AW.skip ?_
            refine thenA_n ?_
            refine ⟨_, h, ?_⟩
            refine Ent.can [8] _ _ _ rfl (by first | decide | simp) rfl ?_ ?_ ?_
            · exact (RF.any.pp (by decide) (by first | rfl | simp [upd_ap, hpL_ap, tau, mapT, mapTL, bytesI_len, eq_false c9, eq_false c10, c12, c14, c16, eq_false c59, eq_true c60, eq_true c61]))
            · exact .nil _
            · exact .cons (.eq (by first | rfl | simp only [go_sem]) (by first | rfl | simp [upd_ap, hpL_ap, tau, mapT, mapTL, bytesI_len, eq_false c9, eq_false c10, c12, c14, c16, eq_false c59, eq_true c60, eq_true c61])) (.nil _)
           ·rw [if_neg c61] at h
            refine AW.ifT rfl c61 ?_
            refine AW.regL [2] ?_
            generalize hK : AW Tryd.prog _ _ _ = K
            simp only [go_sem, ↓reduceIte, reduceCtorEq, Nat.reduceAdd, Nat.reduceSub, Nat.reduceMul, Nat.reduceEqDiff, Nat.reduceLT, Nat.reduceLeDiff, eq_false c9, eq_false c10, c12, c14, c16, eq_false c59, eq_true c60, eq_false c61]
            subst hK
            refine AW.ret ?_
            refine thenA_r ?_
            obtain rfl := Option.some.inj h
            (simp only [go_sem, ↓reduceIte, reduceCtorEq, Nat.reduceAdd, Nat.reduceSub, Nat.reduceMul, Nat.reduceEqDiff, Nat.reduceLT, Nat.reduceLeDiff, eq_false c9, eq_false c10, c12, c14, c16, eq_false c59, eq_true c60, eq_false c61, finA] <;> try simp)
          ·rw [if_neg c60] at h
           refine AW.regL [1, 58] ?_
           generalize hK : AW Tryd.prog _ _ _ = K
           simp only [go_sem, ↓reduceIte, reduceCtorEq, Nat.reduceAdd, Nat.reduceSub, Nat.reduceMul, Nat.reduceEqDiff, Nat.reduceLT, Nat.reduceLeDiff, eq_false c9, eq_false c10, c12, c14, c16, eq_false c59, eq_false c60]
           subst hK
           refine AW.ifBF rfl rfl ?_
           refine AW.skip ?_
           refine thenA_n ?_
           refine ⟨_, h, ?_⟩
           refine Ent.can [8] _ _ _ rfl (by first | decide | simp) rfl ?_ ?_ ?_
           · exact (RF.any.pp (by decide) (by first | rfl | simp [upd_ap, hpL_ap, tau, mapT, mapTL, bytesI_len, eq_false c9, eq_false c10, c12, c14, c16, eq_false c59, eq_false c60]))
           · exact .nil _
           · exact .cons (.eq (by first | rfl | simp only [go_sem]) (by first | rfl | simp [upd_ap, hpL_ap, tau, mapT, mapTL, bytesI_len, eq_false c9, eq_false c10, c12, c14, c16, eq_false c59, eq_false c60])) (.nil _)
        ·clear h
         rintro ⟨⟩ h
         rw [f44_j1] at h
         refine AW.join (fun s => ⟨(upd anyF 1 (.ptr 8 0 0)), hpL [] [some (.row 7 true [[.val (.int .i64 a0.Kind), .val (.int .i64 a0.Task), .val (.int .i64 a0.Try), .val (.int .i64 a0.Part), .sl (List.map enc3 a0.Where), .sl (List.map enc5 a0.A), .sl (List.map enc5 a0.B)]])], 9⟩) (fun s => f44_j2 a0 s = some r) ?_ ?_
         ·by_cases c55 : 1048576 < (a0.A.length : Int)
          ·rw [if_pos c55] at h
           refine AW.regL [1, 78] ?_
           generalize hK : AW Tryd.prog _ _ _ = K
           simp only [go_sem, ↓reduceIte, reduceCtorEq, Nat.reduceAdd, Nat.reduceSub, Nat.reduceMul, Nat.reduceEqDiff, Nat.reduceLT, Nat.reduceLeDiff, eq_false c9, eq_false c10, c12, c14, c16, eq_true c55]
           subst hK
           refine AW.ifBT rfl rfl ?_
           refine AW.regL [2] ?_
           generalize hK : AW Tryd.prog _ _ _ = K
           simp only [go_sem, ↓reduceIte, reduceCtorEq, Nat.reduceAdd, Nat.reduceSub, Nat.reduceMul, Nat.reduceEqDiff, Nat.reduceLT, Nat.reduceLeDiff, eq_false c9, eq_false c10, c12, c14, c16, eq_true c55]
           subst hK
           refine AW.ret ?_
           refine thenA_r ?_
           obtain rfl := Option.some.inj h
           (simp only [go_sem, ↓reduceIte, reduceCtorEq, Nat.reduceAdd, Nat.reduceSub, Nat.reduceMul, Nat.reduceEqDiff, Nat.reduceLT, Nat.reduceLeDiff, eq_false c9, eq_false c10, c12, c14, c16, eq_true c55, finA] <;> try simp)
          ·rw [if_neg c55] at h
           by_cases c56 : 0 < (a0.A.length : Int)
           ·rw [if_pos c56] at h
            by_cases c57 : a0.Kind = 5
            ·rw [if_pos c57] at h
             refine AW.regL [1, 78] ?_
             generalize hK : AW Tryd.prog _ _ _ = K
             simp only [go_sem, ↓reduceIte, reduceCtorEq, Nat.reduceAdd, Nat.reduceSub, Nat.reduceMul, Nat.reduceEqDiff, Nat.reduceLT, Nat.reduceLeDiff, eq_false c9, eq_false c10, c12, c14, c16, eq_false c55, eq_true c56, eq_true c57]
             subst hK
             refine AW.ifBF rfl rfl ?_
             refine AW.skip ?_
             refine thenA_n ?_
             refine ⟨_, h, ?_⟩
             refine Ent.can [8] _ _ _ rfl (by first | decide | simp) rfl ?_ ?_ ?_
             · exact (RF.any.pp (by decide) (by first | rfl | simp [upd_ap, hpL_ap, tau, mapT, mapTL, bytesI_len, eq_false c9, eq_false c10, c12, c14, c16, eq_false c55, eq_true c56, eq_true c57]))
             · exact .nil _
             · exact .cons (.eq (by first | rfl | simp only [go_sem]) (by first | rfl | simp [upd_ap, hpL_ap, tau, mapT, mapTL, bytesI_len, eq_false c9, eq_false c10, c12, c14, c16, eq_false c55, eq_true c56, eq_true c57])) (.nil _)
            ·rw [if_neg c57] at h
             refine AW.regL [1, 78] ?_
             generalize hK : AW Tryd.prog _ _ _ = K
             simp only [go_sem, ↓reduceIte, reduceCtorEq, Nat.reduceAdd, Nat.reduceSub, Nat.reduceMul, Nat.reduceEqDiff, Nat.reduceLT, Nat.reduceLeDiff, eq_false c9, eq_false c10, c12, c14, c16, eq_false c55, eq_true c56, eq_false c57]
             subst hK
             by_cases c58 : a0.Kind = 8
             ·rw [if_pos c58] at h
              refine AW.ifF rfl (fun q => q c58) ?_
              refine AW.skip ?_
              refine thenA_n ?_
              refine ⟨_, h, ?_⟩
              refine Ent.can [8] _ _ _ rfl (by first | decide | simp) rfl ?_ ?_ ?_
              · exact (RF.any.pp (by decide) (by first | rfl | simp [upd_ap, hpL_ap, tau, mapT, mapTL, bytesI_len, eq_false c9, eq_false c10, c12, c14, c16, eq_false c55, eq_true c56, eq_false c57, eq_true c58]))
              · exact .nil _
              · exact .cons (.eq (by first | rfl | simp only [go_sem]) (by first | rfl | simp [upd_ap, hpL_ap, tau, mapT, mapTL, bytesI_len, eq_false c9, eq_false c10, c12, c14, c16, eq_false c55, eq_true c56, eq_false c57, eq_true c58])) (.nil _)
             ·rw [if_neg c58] at h
              refine AW.ifT rfl c58 ?_
              refine AW.regL [2] ?_
              generalize hK : AW Tryd.prog _ _ _ = K
              simp only [go_sem, ↓reduceIte, reduceCtorEq, Nat.reduceAdd, Nat.reduceSub, Nat.reduceMul, Nat.reduceEqDiff, Nat.reduceLT, Nat.reduceLeDiff, eq_false c9, eq_false c10, c12, c14, c16, eq_false c55, eq_true c56, eq_false c57, eq_false c58]
              subst hK
              refine AW.ret ?_
              refine thenA_r ?_
              obtain rfl := Option.some.inj h
              (simp only [go_sem, ↓reduceIte, reduceCtorEq, Nat.reduceAdd, Nat.reduceSub, Nat.reduceMul, Nat.reduceEqDiff, Nat.reduceLT, Nat.reduceLeDiff, eq_false c9, eq_false c10, c12, c14, c16, eq_false c55, eq_true c56, eq_false c57, eq_false c58, finA] <;> try simp)
           ·rw [if_neg c56] at h
            refine AW.regL [1, 78] ?_
            generalize hK : AW Tryd.prog _ _ _ = K
            simp only [go_sem, ↓reduceIte, reduceCtorEq, Nat.reduceAdd, Nat.reduceSub, Nat.reduceMul, Nat.reduceEqDiff, Nat.reduceLT, Nat.reduceLeDiff, eq_false c9, eq_false c10, c12, c14, c16, eq_false c55, eq_false c56]
            subst hK
            refine AW.ifBF rfl rfl ?_
            refine AW.skip ?_
            refine thenA_n ?_
            refine ⟨_, h, ?_⟩
            refine Ent.can [8] _ _ _ rfl (by first | decide | simp) rfl ?_ ?_ ?_
            · exact (RF.any.pp (by decide) (by first | rfl | simp [upd_ap, hpL_ap, tau, mapT, mapTL, bytesI_len, eq_false c9, eq_false c10, c12, c14, c16, eq_false c55, eq_false c56]))
            · exact .nil _
            · exact .cons (.eq (by first | rfl | simp only [go_sem]) (by first | rfl | simp [upd_ap, hpL_ap, tau, mapT, mapTL, bytesI_len, eq_false c9, eq_false c10, c12, c14, c16, eq_false c55, eq_false c56])) (.nil _)
         ·clear h
          rintro ⟨⟩ h
          rw [f44_j2] at h
          by_cases c53 : (a0.B.length : Int) ≤ 1048576
          ·rw [if_pos c53] at h
           by_cases c54 : (a0.B.length : Int) = 0
           ·rw [if_pos c54] at h
            refine AW.regL [2] ?_
            generalize hK : AW Tryd.prog _ _ _ = K
            simp only [go_sem, ↓reduceIte, reduceCtorEq, Nat.reduceAdd, Nat.reduceSub, Nat.reduceMul, Nat.reduceEqDiff, Nat.reduceLT, Nat.reduceLeDiff, eq_false c9, eq_false c10, c12, c14, c16, eq_true c53, eq_true c54]
            subst hK
            refine AW.ret ?_
            obtain rfl := Option.some.inj h
            (simp only [go_sem, ↓reduceIte, reduceCtorEq, Nat.reduceAdd, Nat.reduceSub, Nat.reduceMul, Nat.reduceEqDiff, Nat.reduceLT, Nat.reduceLeDiff, eq_false c9, eq_false c10, c12, c14, c16, eq_true c53, eq_true c54, finA] <;> try simp)
           ·rw [if_neg c54] at h
            refine AW.regL [2] ?_
            generalize hK : AW Tryd.prog _ _ _ = K
            simp only [go_sem, ↓reduceIte, reduceCtorEq, Nat.reduceAdd, Nat.reduceSub, Nat.reduceMul, Nat.reduceEqDiff, Nat.reduceLT, Nat.reduceLeDiff, eq_false c9, eq_false c10, c12, c14, c16, eq_true c53, eq_false c54]
            subst hK
            refine AW.ret ?_
            obtain rfl := Option.some.inj h
            (simp only [go_sem, ↓reduceIte, reduceCtorEq, Nat.reduceAdd, Nat.reduceSub, Nat.reduceMul, Nat.reduceEqDiff, Nat.reduceLT, Nat.reduceLeDiff, eq_false c9, eq_false c10, c12, c14, c16, eq_true c53, eq_false c54, finA] <;> try simp)
          ·rw [if_neg c53] at h
           refine AW.regL [2] ?_
           generalize hK : AW Tryd.prog _ _ _ = K
           simp only [go_sem, ↓reduceIte, reduceCtorEq, Nat.reduceAdd, Nat.reduceSub, Nat.reduceMul, Nat.reduceEqDiff, Nat.reduceLT, Nat.reduceLeDiff, eq_false c9, eq_false c10, c12, c14, c16, eq_false c53]
           subst hK
           refine AW.ret ?_
           obtain rfl := Option.some.inj h
           (simp only [go_sem, ↓reduceIte, reduceCtorEq, Nat.reduceAdd, Nat.reduceSub, Nat.reduceMul, Nat.reduceEqDiff, Nat.reduceLT, Nat.reduceLeDiff, eq_false c9, eq_false c10, c12, c14, c16, eq_false c53, finA] <;> try simp)
     ·rw [if_neg c16] at h
      rw [Bool.not_eq_true] at c16
      refine AW.ifBT rfl (by rw [c16]; rfl) ?_
      refine AW.regL [2] ?_
      generalize hK : AW Tryd.prog _ _ _ = K
      simp only [go_sem, ↓reduceIte, reduceCtorEq, Nat.reduceAdd, Nat.reduceSub, Nat.reduceMul, Nat.reduceEqDiff, Nat.reduceLT, Nat.reduceLeDiff, eq_false c9, eq_false c10, c12, c14, c16]
      subst hK
      refine AW.ret ?_
      refine thenA_r ?_
      obtain rfl := Option.some.inj h
      (simp only [go_sem, ↓reduceIte, reduceCtorEq, Nat.reduceAdd, Nat.reduceSub, Nat.reduceMul, Nat.reduceEqDiff, Nat.reduceLT, Nat.reduceLeDiff, eq_false c9, eq_false c10, c12, c14, c16, finA] <;> try simp)
    ·rw [if_neg c14] at h
     rw [Bool.not_eq_true] at c14
     refine AW.regL [1, 29] ?_
     generalize hK : AW Tryd.prog _ _ _ = K
     simp only [go_sem, ↓reduceIte, reduceCtorEq, Nat.reduceAdd, Nat.reduceSub, Nat.reduceMul, Nat.reduceEqDiff, Nat.reduceLT, Nat.reduceLeDiff, eq_false c9, eq_false c10, c12, c14]
     refine arC.of (ok55 a0.Task x11 hx11) Tryd.call55 ?_
     simp only [go_sem, ↓reduceIte, reduceCtorEq, Nat.reduceAdd, Nat.reduceSub, Nat.reduceMul, Nat.reduceEqDiff, Nat.reduceLT, Nat.reduceLeDiff, eq_false c9, eq_false c10, c12, c14]
     refine arC.of (ok55 a0.Try x13 hx13) Tryd.call55 ?_
     simp only [go_sem, ↓reduceIte, reduceCtorEq, Nat.reduceAdd, Nat.reduceSub, Nat.reduceMul, Nat.reduceEqDiff, Nat.reduceLT, Nat.reduceLeDiff, eq_false c9, eq_false c10, c12, c14]
     subst hK
     refine AW.ifBT rfl rfl ?_
     refine AW.regL [2] ?_
     generalize hK : AW Tryd.prog _ _ _ = K
     simp only [go_sem, ↓reduceIte, reduceCtorEq, Nat.reduceAdd, Nat.reduceSub, Nat.reduceMul, Nat.reduceEqDiff, Nat.reduceLT, Nat.reduceLeDiff, eq_false c9, eq_false c10, c12, c14]
     subst hK
     refine AW.ret ?_
     refine thenA_r ?_
     obtain rfl := Option.some.inj h
     (simp only [go_sem, ↓reduceIte, reduceCtorEq, Nat.reduceAdd, Nat.reduceSub, Nat.reduceMul, Nat.reduceEqDiff, Nat.reduceLT, Nat.reduceLeDiff, eq_false c9, eq_false c10, c12, c14, finA] <;> try simp)
   ·rw [if_neg c12] at h
    rw [Bool.not_eq_true] at c12
    refine AW.regL [1, 29] ?_
    generalize hK : AW Tryd.prog _ _ _ = K
    simp only [go_sem, ↓reduceIte, reduceCtorEq, Nat.reduceAdd, Nat.reduceSub, Nat.reduceMul, Nat.reduceEqDiff, Nat.reduceLT, Nat.reduceLeDiff, eq_false c9, eq_false c10, c12]
    refine arC.of (ok55 a0.Task x11 hx11) Tryd.call55 ?_
    simp only [go_sem, ↓reduceIte, reduceCtorEq, Nat.reduceAdd, Nat.reduceSub, Nat.reduceMul, Nat.reduceEqDiff, Nat.reduceLT, Nat.reduceLeDiff, eq_false c9, eq_false c10, c12]
    subst hK
    refine AW.ifBT rfl rfl ?_
    refine AW.regL [2] ?_
    generalize hK : AW Tryd.prog _ _ _ = K
    simp only [go_sem, ↓reduceIte, reduceCtorEq, Nat.reduceAdd, Nat.reduceSub, Nat.reduceMul, Nat.reduceEqDiff, Nat.reduceLT, Nat.reduceLeDiff, eq_false c9, eq_false c10, c12]
    subst hK
    refine AW.ret ?_
    refine thenA_r ?_
    obtain rfl := Option.some.inj h
    (simp only [go_sem, ↓reduceIte, reduceCtorEq, Nat.reduceAdd, Nat.reduceSub, Nat.reduceMul, Nat.reduceEqDiff, Nat.reduceLT, Nat.reduceLeDiff, eq_false c9, eq_false c10, c12, finA] <;> try simp)
end Au
end Go.Proofs.Yd
