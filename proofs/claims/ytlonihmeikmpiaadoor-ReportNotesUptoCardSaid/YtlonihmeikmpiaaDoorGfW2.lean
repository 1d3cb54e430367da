import Derived.Test.YtlonihmeikmpiaaDoorGfDN
set_option linter.all false
set_option linter.unusedVariables false
set_option linter.unusedSimpArgs false
set_option linter.all false
set_option maxRecDepth 8000
set_option maxHeartbeats 1000000
namespace Go.Proofs.Yd
open Go.Gm
namespace Au
noncomputable def f65 (a0 : Int) : Option Int := ((ix (bl Lib.len8tab) a0).bind fun x1 => some (IntKind.i64.wrap (x1.toNat : Int)))
theorem ok65 (a0 : Int) (r : Int) (h : f65 a0 = some r) : PC Tryd.prog 65 [.val (.int .u8 a0)] (.val (.int .i64 r)) := by
 rw [f65] at h
 refine pc_of8 (N := 6) (rs := [.tmp 2]) Tryd.func65 rfl rfl rfl (Nat.le_of_ble_eq_true rfl) ?_
 refine AW.regL [0] ?_
 generalize hK : AW Tryd.prog _ _ _ = K
 simp only [go_sem, ↓reduceIte, reduceCtorEq, Nat.reduceAdd, Nat.reduceSub, Nat.reduceMul, Nat.reduceEqDiff, Nat.reduceLT, Nat.reduceLeDiff]
 subst hK
 obtain ⟨x1, hx1, h⟩ := Option.bind_eq_some_iff.1 h
 obtain ⟨hx1a, hx1b⟩ := ix_some.1 hx1
 refine AW.regL [2] ?_
 generalize hK : AW Tryd.prog _ _ _ = K
 simp only [go_sem, ↓reduceIte, reduceCtorEq, Nat.reduceAdd, Nat.reduceSub, Nat.reduceMul, Nat.reduceEqDiff, Nat.reduceLT, Nat.reduceLeDiff, idxO_some st9 hx1a hx1b]
 subst hK
 refine AW.ret ?_
 obtain rfl := Option.some.inj h
 (simp only [go_sem, ↓reduceIte, reduceCtorEq, Nat.reduceAdd, Nat.reduceSub, Nat.reduceMul, Nat.reduceEqDiff, Nat.reduceLT, Nat.reduceLeDiff, finA] <;> try simp)
end Au
end Go.Proofs.Yd

set_option linter.all false
set_option maxRecDepth 8000
set_option maxHeartbeats 1000000
namespace Go.Proofs.Yd
open Go.Gm
namespace Au
noncomputable def f59 (a0 : Int) : Option Int := ((f65 a0).bind fun x1 => some (IntKind.i64.wrap (8 - x1)))
theorem ok59 (a0 : Int) (r : Int) (h : f59 a0 = some r) : PC Tryd.prog 59 [.val (.int .u8 a0)] (.val (.int .i64 r)) := by
 rw [f59] at h
 refine pc_of8 (N := 6) (rs := [.tmp 2]) Tryd.func59 rfl rfl rfl (Nat.le_of_ble_eq_true rfl) ?_
 refine AW.regL [0] ?_
 generalize hK : AW Tryd.prog _ _ _ = K
 simp only [go_sem, ↓reduceIte, reduceCtorEq, Nat.reduceAdd, Nat.reduceSub, Nat.reduceMul, Nat.reduceEqDiff, Nat.reduceLT, Nat.reduceLeDiff]
 subst hK
 obtain ⟨x1, hx1, h⟩ := Option.bind_eq_some_iff.1 h
 refine AW.regL [2] ?_
 generalize hK : AW Tryd.prog _ _ _ = K
 simp only [go_sem, ↓reduceIte, reduceCtorEq, Nat.reduceAdd, Nat.reduceSub, Nat.reduceMul, Nat.reduceEqDiff, Nat.reduceLT, Nat.reduceLeDiff]
 refine arC.of (ok65 a0 x1 hx1) Tryd.call65 ?_
 simp only [go_sem, ↓reduceIte, reduceCtorEq, Nat.reduceAdd, Nat.reduceSub, Nat.reduceMul, Nat.reduceEqDiff, Nat.reduceLT, Nat.reduceLeDiff]
 subst hK
 refine AW.ret ?_
 obtain rfl := Option.some.inj h
 (simp only [go_sem, ↓reduceIte, reduceCtorEq, Nat.reduceAdd, Nat.reduceSub, Nat.reduceMul, Nat.reduceEqDiff, Nat.reduceLT, Nat.reduceLeDiff, finA] <;> try simp)
end Au
end Go.Proofs.Yd

set_option linter.all false
set_option maxRecDepth 8000
set_option maxHeartbeats 1000000
namespace Go.Proofs.Yd
open Go.Gm
namespace Au
noncomputable def f60_s1 (a0 : Int) : Int → Option (Int ⊕ (Int ⊕ Unit))
  | s1_0 => (if s1_0 ≤ 8 then ((guardO (0 ≤ (IntKind.i64.wrap (7 * s1_0)))).bind fun x9 => (if (shrV .u64 a0 (IntKind.i64.wrap (7 * s1_0)).toNat) = 0 then some (.inr (.inl s1_0)) else some (.inl (IntKind.i64.wrap (s1_0 + 1))))) else some (.inr (.inr ())))
noncomputable def f60 (a0 : Int) : Option Int := ((loopO (f60_s1 a0) 1).bind fun y11 => match y11 with | .inl y12 => some y12 | .inr _ => some 9)
theorem ok60 (a0 : Int) (r : Int) (h : f60 a0 = some r) : PC Tryd.prog 60 [.val (.int .u64 a0)] (.val (.int .i64 r)) := by
 rw [f60] at h
 refine pc_of8 (N := 14) (rs := [.tmp 2]) Tryd.func60 rfl rfl rfl (Nat.le_of_ble_eq_true rfl) ?_
 refine AW.regL [0] ?_
 generalize hK : AW Tryd.prog _ _ _ = K
 simp only [go_sem, ↓reduceIte, reduceCtorEq, Nat.reduceAdd, Nat.reduceSub, Nat.reduceMul, Nat.reduceEqDiff, Nat.reduceLT, Nat.reduceLeDiff]
 subst hK
 refine AW.seq ?_
 refine AW.regL [0, 3] ?_
 generalize hK : AW Tryd.prog _ _ _ = K
 simp only [go_sem, ↓reduceIte, reduceCtorEq, Nat.reduceAdd, Nat.reduceSub, Nat.reduceMul, Nat.reduceEqDiff, Nat.reduceLT, Nat.reduceLeDiff]
 subst hK
 refine AW.block ?_
 obtain ⟨y11, hy11, h⟩ := Option.bind_eq_some_iff.1 h
 refine AW.loopO (fun s => ⟨(upd (upd anyF 0 (.val (.int .u64 a0))) 3 (.val (.int .i64 s))), hpL [] [], 8⟩) (fun y e st' => match y with | .inl z => e = Exit.ret ∧ finA Tryd.prog [.tmp 2] (.val (.int .i64 z)) .ret st' | .inr z => e = Exit.exit 0 ∧ st' = ⟨anyF, hpL [] [], 8⟩) hy11 ?_ ?_ ?_
 ·refine Ent.can [] _ _ _ rfl (by first | decide | simp) rfl ?_ ?_ ?_
  · exact ((RF.any.pv (by first | rfl | simp only [go_sem]) (by first | rfl | simp [upd_ap, hpL_ap, tau, mapT, mapTL, bytesI_len])).pv (by first | rfl | simp only [go_sem]) (by first | rfl | simp [upd_ap, hpL_ap, tau, mapT, mapTL, bytesI_len]))
  · exact .nil _
  · exact .nil _
 ·clear h hy11
  rintro s1_0 x h
  rw [f60_s1] at h
  refine AW.seq ?_
  refine AW.regL [0, 3, 5] ?_
  generalize hK : AW Tryd.prog _ _ _ = K
  simp only [go_sem, ↓reduceIte, reduceCtorEq, Nat.reduceAdd, Nat.reduceSub, Nat.reduceMul, Nat.reduceEqDiff, Nat.reduceLT, Nat.reduceLeDiff]
  subst hK
  by_cases c8 : s1_0 ≤ 8
  ·rw [if_pos c8] at h
   refine AW.ifT rfl c8 ?_
   refine AW.skip ?_
   refine thenA_n ?_
   refine AW.seq ?_
   refine AW.block ?_
   obtain ⟨x9, hx9, h⟩ := Option.bind_eq_some_iff.1 h
   refine AW.regL [0, 3, 12] ?_
   generalize hK : AW Tryd.prog _ _ _ = K
   simp only [go_sem, ↓reduceIte, reduceCtorEq, Nat.reduceAdd, Nat.reduceSub, Nat.reduceMul, Nat.reduceEqDiff, Nat.reduceLT, Nat.reduceLeDiff, eq_true c8, eq_false (Int.not_lt.2 (guardO_some.1 hx9))]
   subst hK
   by_cases c10 : (shrV .u64 a0 (IntKind.i64.wrap (7 * s1_0)).toNat) = 0
   ·rw [if_pos c10] at h
    refine AW.ifT rfl c10 ?_
    refine AW.regL [2] ?_
    generalize hK : AW Tryd.prog _ _ _ = K
    simp only [go_sem, ↓reduceIte, reduceCtorEq, Nat.reduceAdd, Nat.reduceSub, Nat.reduceMul, Nat.reduceEqDiff, Nat.reduceLT, Nat.reduceLeDiff, eq_true c8, eq_true c10]
    subst hK
    refine AW.ret ?_
    refine block_r ?_
    refine thenA_r ?_
    refine thenA_r ?_
    refine ⟨_, (Option.some.inj h).symm, _, Ent.refl, rfl, ?_⟩
    (simp only [go_sem, ↓reduceIte, reduceCtorEq, Nat.reduceAdd, Nat.reduceSub, Nat.reduceMul, Nat.reduceEqDiff, Nat.reduceLT, Nat.reduceLeDiff, eq_true c8, eq_true c10, finA] <;> try simp)
   ·rw [if_neg c10] at h
    refine AW.ifF rfl c10 ?_
    refine AW.skip ?_
    refine block_n ?_
    refine thenA_n ?_
    refine AW.regionL [0, 3] ?_
    generalize hK : thenA _ _ Exit.normal = K
    simp only [go_sem, ↓reduceIte, reduceCtorEq, Nat.reduceAdd, Nat.reduceSub, Nat.reduceMul, Nat.reduceEqDiff, Nat.reduceLT, Nat.reduceLeDiff, eq_true c8, eq_false c10]
    subst hK
    refine thenA_n ?_
    refine ⟨_, (Option.some.inj h).symm, ?_⟩
    refine Ent.can [] _ _ _ rfl (by first | decide | simp) rfl ?_ ?_ ?_
    · exact ((RF.any.pv (by first | rfl | simp only [go_sem]) (by first | rfl | simp [upd_ap, hpL_ap, tau, mapT, mapTL, bytesI_len, eq_true c8, eq_false c10])).pv (by first | rfl | simp only [go_sem]) (by first | rfl | simp [upd_ap, hpL_ap, tau, mapT, mapTL, bytesI_len, eq_true c8, eq_false c10]))
    · exact .nil _
    · exact .nil _
  ·rw [if_neg c8] at h
   refine AW.ifF rfl c8 ?_
   refine AW.exit ?_
   refine thenA_x ?_
   refine thenA_x ?_
   refine ⟨_, (Option.some.inj h).symm, _, ?_, rfl, rfl⟩
   refine Ent.can [] _ _ _ rfl (by first | decide | simp) rfl ?_ ?_ ?_
   · exact RF.any
   · exact .nil _
   · exact .nil _
 ·intro e st' hX
  rcases y11 with y12 | _ <;> dsimp only at h hX
  ·obtain ⟨rfl, hf⟩ := hX
   refine ⟨_, Ent.refl, ?_⟩
   refine block_r ?_
   refine thenA_r ?_
   obtain rfl := Option.some.inj h
   exact hf
  ·obtain ⟨rfl, rfl⟩ := hX
   refine ⟨_, Ent.refl, ?_⟩
   refine block_x ?_
   refine thenA_n ?_
   refine AW.regL [2] ?_
   generalize hK : AW Tryd.prog _ _ _ = K
   simp only [go_sem, ↓reduceIte, reduceCtorEq, Nat.reduceAdd, Nat.reduceSub, Nat.reduceMul, Nat.reduceEqDiff, Nat.reduceLT, Nat.reduceLeDiff]
   subst hK
   refine AW.ret ?_
   obtain rfl := Option.some.inj h
   (simp only [go_sem, ↓reduceIte, reduceCtorEq, Nat.reduceAdd, Nat.reduceSub, Nat.reduceMul, Nat.reduceEqDiff, Nat.reduceLT, Nat.reduceLeDiff, finA] <;> try simp)
end Au
end Go.Proofs.Yd

set_option linter.all false
set_option maxRecDepth 8000
set_option maxHeartbeats 1000000
namespace Go.Proofs.Yd
open Go.Gm
namespace Au
noncomputable def f49_s2 (x24 : List Int) : Int × Int → Option ((Int × Int) ⊕ Int)
  | (s2_0, s2_1) => (if s2_1 < (x24.length : Int) then ((ix x24 s2_1).bind fun x36 => some (.inl (orV .u64 (shlV .u64 s2_0 8) (IntKind.u64.wrap x36), IntKind.i64.wrap (s2_1 + 1)))) else some (.inr s2_0))
noncomputable def f49_j1 (a0 : List Int) (a1 : Int) (x8 : Int) : Int → Option (Int × Int × Int)
  | j1_0 => ((cutO? a0 (IntKind.i64.wrap (a1 + 1)) (IntKind.i64.wrap (a1 + (IntKind.i64.wrap (1 + x8))))).bind fun x24 => ((loopO (f49_s2 x24) (j1_0, 0)).bind fun y38 => ((f60 y38).bind fun x39 => (if x39 = (IntKind.i64.wrap (1 + x8)) then some (y38, IntKind.i64.wrap (a1 + (IntKind.i64.wrap (1 + x8))), 0) else some (0, 0, 3)))))
noncomputable def f49 (a0 : List Int) (a1 : Int) : Option (Int × Int × Int) := (if a1 < 0 then some (0, 0, 8) else (if (a0.length : Int) < a1 then some (0, 0, 8) else (if a1 = (a0.length : Int) then some (0, 0, 2) else ((ix a0 a1).bind fun x7 => ((f59 (xorV .u8 (allV .u8) x7)).bind fun x8 => (if (IntKind.i64.wrap ((a0.length : Int) - a1)) < (IntKind.i64.wrap (1 + x8)) then some (0, 0, 2) else (if (IntKind.i64.wrap (1 + x8)) < 9 then ((guardO (0 ≤ (IntKind.i64.wrap (1 + x8)))).bind fun x42 => f49_j1 a0 a1 x8 (andV .u64 (IntKind.u64.wrap x7) (shrV .u64 255 (IntKind.i64.wrap (1 + x8)).toNat))) else f49_j1 a0 a1 x8 0)))))))
theorem ok49 (a0 : List Int) (a1 : Int) (r : Int × Int × Int) (h : f49 a0 a1 = some r) : PC Tryd.prog 49 [.sl (List.map enc5 a0), .val (.int .i64 a1)] (.tup [.val (.int .u64 r.1), .val (.int .i64 r.2.1), .val (.int .i64 r.2.2)]) := by
 rw [f49] at h
 refine pc_of8 (N := 71) (rs := [.tmp 4, .tmp 5, .tmp 6]) Tryd.func49 rfl rfl rfl (Nat.le_of_ble_eq_true rfl) ?_
 refine AW.regL [0, 1, 4] ?_
 generalize hK : AW Tryd.prog _ _ _ = K
 simp only [go_sem, ↓reduceIte, reduceCtorEq, Nat.reduceAdd, Nat.reduceSub, Nat.reduceMul, Nat.reduceEqDiff, Nat.reduceLT, Nat.reduceLeDiff, Nat.reduceBEq, Int.reduceAdd, Int.reduceSub, Int.reduceLT, Int.reduceLE, Int.reduceEq, Int.reduceToNat]
 subst hK
 refine AW.seq ?_
 by_cases c3 : a1 < 0
 ·rw [if_pos c3] at h
  refine AW.regL [0, 1, 4, 17] ?_
  generalize hK : AW Tryd.prog _ _ _ = K
  simp only [go_sem, ↓reduceIte, reduceCtorEq, Nat.reduceAdd, Nat.reduceSub, Nat.reduceMul, Nat.reduceEqDiff, Nat.reduceLT, Nat.reduceLeDiff, Nat.reduceBEq, Int.reduceAdd, Int.reduceSub, Int.reduceLT, Int.reduceLE, Int.reduceEq, Int.reduceToNat, eq_true c3]
  subst hK
  refine AW.ifBT rfl rfl ?_
  refine AW.regL [4, 5, 6] ?_
  generalize hK : AW Tryd.prog _ _ _ = K
  simp only [go_sem, ↓reduceIte, reduceCtorEq, Nat.reduceAdd, Nat.reduceSub, Nat.reduceMul, Nat.reduceEqDiff, Nat.reduceLT, Nat.reduceLeDiff, Nat.reduceBEq, Int.reduceAdd, Int.reduceSub, Int.reduceLT, Int.reduceLE, Int.reduceEq, Int.reduceToNat, eq_true c3]
  subst hK
  refine AW.ret ?_
  refine thenA_r ?_
  obtain rfl := Option.some.inj h
  (simp only [go_sem, ↓reduceIte, reduceCtorEq, Nat.reduceAdd, Nat.reduceSub, Nat.reduceMul, Nat.reduceEqDiff, Nat.reduceLT, Nat.reduceLeDiff, Nat.reduceBEq, Int.reduceAdd, Int.reduceSub, Int.reduceLT, Int.reduceLE, Int.reduceEq, Int.reduceToNat, eq_true c3, finA] <;> try simp)
 ·rw [if_neg c3] at h
  refine AW.regL [0, 1, 4, 17] ?_
  generalize hK : AW Tryd.prog _ _ _ = K
  simp only [go_sem, ↓reduceIte, reduceCtorEq, Nat.reduceAdd, Nat.reduceSub, Nat.reduceMul, Nat.reduceEqDiff, Nat.reduceLT, Nat.reduceLeDiff, Nat.reduceBEq, Int.reduceAdd, Int.reduceSub, Int.reduceLT, Int.reduceLE, Int.reduceEq, Int.reduceToNat, eq_false c3]
  subst hK
  by_cases c4 : (a0.length : Int) < a1
  ·rw [if_pos c4] at h
   refine AW.ifT rfl c4 ?_
   refine AW.regL [4, 5, 6] ?_
   generalize hK : AW Tryd.prog _ _ _ = K
   simp only [go_sem, ↓reduceIte, reduceCtorEq, Nat.reduceAdd, Nat.reduceSub, Nat.reduceMul, Nat.reduceEqDiff, Nat.reduceLT, Nat.reduceLeDiff, Nat.reduceBEq, Int.reduceAdd, Int.reduceSub, Int.reduceLT, Int.reduceLE, Int.reduceEq, Int.reduceToNat, eq_false c3, eq_true c4]
   subst hK
   refine AW.ret ?_
   refine thenA_r ?_
   obtain rfl := Option.some.inj h
   (simp only [go_sem, ↓reduceIte, reduceCtorEq, Nat.reduceAdd, Nat.reduceSub, Nat.reduceMul, Nat.reduceEqDiff, Nat.reduceLT, Nat.reduceLeDiff, Nat.reduceBEq, Int.reduceAdd, Int.reduceSub, Int.reduceLT, Int.reduceLE, Int.reduceEq, Int.reduceToNat, eq_false c3, eq_true c4, finA] <;> try simp)
  ·rw [if_neg c4] at h
   refine AW.ifF rfl c4 ?_
   refine AW.skip ?_
   refine thenA_n ?_
   refine AW.seq ?_
   refine AW.regL [0, 1, 4, 21] ?_
   generalize hK : AW Tryd.prog _ _ _ = K
   simp only [go_sem, ↓reduceIte, reduceCtorEq, Nat.reduceAdd, Nat.reduceSub, Nat.reduceMul, Nat.reduceEqDiff, Nat.reduceLT, Nat.reduceLeDiff, Nat.reduceBEq, Int.reduceAdd, Int.reduceSub, Int.reduceLT, Int.reduceLE, Int.reduceEq, Int.reduceToNat, eq_false c3, eq_false c4]
   subst hK
   by_cases c6 : a1 = (a0.length : Int)
   ·rw [if_pos c6] at h
    refine AW.ifT rfl c6 ?_
    refine AW.regL [4, 5, 6] ?_
    generalize hK : AW Tryd.prog _ _ _ = K
    simp only [go_sem, ↓reduceIte, reduceCtorEq, Nat.reduceAdd, Nat.reduceSub, Nat.reduceMul, Nat.reduceEqDiff, Nat.reduceLT, Nat.reduceLeDiff, Nat.reduceBEq, Int.reduceAdd, Int.reduceSub, Int.reduceLT, Int.reduceLE, Int.reduceEq, Int.reduceToNat, eq_false c3, eq_false c4, eq_true c6]
    subst hK
    refine AW.ret ?_
    refine thenA_r ?_
    obtain rfl := Option.some.inj h
    (simp only [go_sem, ↓reduceIte, reduceCtorEq, Nat.reduceAdd, Nat.reduceSub, Nat.reduceMul, Nat.reduceEqDiff, Nat.reduceLT, Nat.reduceLeDiff, Nat.reduceBEq, Int.reduceAdd, Int.reduceSub, Int.reduceLT, Int.reduceLE, Int.reduceEq, Int.reduceToNat, eq_false c3, eq_false c4, eq_true c6, finA] <;> try simp)
   ·rw [if_neg c6] at h
    refine AW.ifF rfl c6 ?_
    refine AW.skip ?_
    refine thenA_n ?_
    obtain ⟨x7, hx7, h⟩ := Option.bind_eq_some_iff.1 h
    obtain ⟨hx7a, hx7b⟩ := ix_some.1 hx7
    obtain ⟨x8, hx8, h⟩ := Option.bind_eq_some_iff.1 h
    refine AW.regL [0, 1, 4, 7] ?_
    generalize hK : AW Tryd.prog _ _ _ = K
    simp only [go_sem, ↓reduceIte, reduceCtorEq, Nat.reduceAdd, Nat.reduceSub, Nat.reduceMul, Nat.reduceEqDiff, Nat.reduceLT, Nat.reduceLeDiff, Nat.reduceBEq, Int.reduceAdd, Int.reduceSub, Int.reduceLT, Int.reduceLE, Int.reduceEq, Int.reduceToNat, eq_false c3, eq_false c4, eq_false c6, natOf_le hx7a, hx7b]
    refine arC.of (ok59 (xorV .u8 (allV .u8) x7) x8 hx8) Tryd.call59 ?_
    simp only [go_sem, ↓reduceIte, reduceCtorEq, Nat.reduceAdd, Nat.reduceSub, Nat.reduceMul, Nat.reduceEqDiff, Nat.reduceLT, Nat.reduceLeDiff, Nat.reduceBEq, Int.reduceAdd, Int.reduceSub, Int.reduceLT, Int.reduceLE, Int.reduceEq, Int.reduceToNat, eq_false c3, eq_false c4, eq_false c6, natOf_le hx7a, hx7b]
    subst hK
    refine AW.seq ?_
    refine AW.regL [0, 1, 4, 7, 34] ?_
    generalize hK : AW Tryd.prog _ _ _ = K
    simp only [go_sem, ↓reduceIte, reduceCtorEq, Nat.reduceAdd, Nat.reduceSub, Nat.reduceMul, Nat.reduceEqDiff, Nat.reduceLT, Nat.reduceLeDiff, Nat.reduceBEq, Int.reduceAdd, Int.reduceSub, Int.reduceLT, Int.reduceLE, Int.reduceEq, Int.reduceToNat, eq_false c3, eq_false c4, eq_false c6]
    subst hK
    by_cases c10 : (IntKind.i64.wrap ((a0.length : Int) - a1)) < (IntKind.i64.wrap (1 + x8))
    ·rw [if_pos c10] at h
     refine AW.ifT rfl c10 ?_
     refine AW.regL [4, 5, 6] ?_
     generalize hK : AW Tryd.prog _ _ _ = K
     simp only [go_sem, ↓reduceIte, reduceCtorEq, Nat.reduceAdd, Nat.reduceSub, Nat.reduceMul, Nat.reduceEqDiff, Nat.reduceLT, Nat.reduceLeDiff, Nat.reduceBEq, Int.reduceAdd, Int.reduceSub, Int.reduceLT, Int.reduceLE, Int.reduceEq, Int.reduceToNat, eq_false c3, eq_false c4, eq_false c6, eq_true c10]
     subst hK
     refine AW.ret ?_
     refine thenA_r ?_
     obtain rfl := Option.some.inj h
     (simp only [go_sem, ↓reduceIte, reduceCtorEq, Nat.reduceAdd, Nat.reduceSub, Nat.reduceMul, Nat.reduceEqDiff, Nat.reduceLT, Nat.reduceLeDiff, Nat.reduceBEq, Int.reduceAdd, Int.reduceSub, Int.reduceLT, Int.reduceLE, Int.reduceEq, Int.reduceToNat, eq_false c3, eq_false c4, eq_false c6, eq_true c10, finA] <;> try simp)
    ·rw [if_neg c10] at h
     refine AW.ifF rfl c10 ?_
     refine AW.skip ?_
     refine thenA_n ?_
     refine AW.join (fun s => ⟨(upd (upd (upd (upd anyF 0 (.sl (List.map enc5 a0))) 1 (.val (.int .i64 a1))) 4 (.val (.int .u64 s))) 7 (.val (.int .i64 (IntKind.i64.wrap (1 + x8))))), hpL [] [], 8⟩) (fun s => f49_j1 a0 a1 x8 s = some r) ?_ ?_
     ·refine AW.regL [0, 1, 4, 7, 36] ?_
      generalize hK : AW Tryd.prog _ _ _ = K
      simp only [go_sem, ↓reduceIte, reduceCtorEq, Nat.reduceAdd, Nat.reduceSub, Nat.reduceMul, Nat.reduceEqDiff, Nat.reduceLT, Nat.reduceLeDiff, Nat.reduceBEq, Int.reduceAdd, Int.reduceSub, Int.reduceLT, Int.reduceLE, Int.reduceEq, Int.reduceToNat, eq_false c3, eq_false c4, eq_false c6, eq_false c10]
      subst hK
      by_cases c41 : (IntKind.i64.wrap (1 + x8)) < 9
      ·rw [if_pos c41] at h
       refine AW.ifT rfl c41 ?_
       obtain ⟨x42, hx42, h⟩ := Option.bind_eq_some_iff.1 h
       refine AW.drawL [0, 1, 4, 7] [[], [], [0, 1], [0, 1, 2], [0, 1, 2, 3], [], [5], [0, 1, 2, 3, 4, 5, 6], [0, 1, 2, 3, 4, 5, 6, 7]] [0, 1, 2, 3, 4, 5, 6, 7, 8] noFt (fun _ _ _ h => by simp [noFt] at h) draws (by kernel_rfl) (by kernel_rfl) ?_
       generalize hK : thenA _ _ Exit.normal = K
       simp only [go_sem, ↓reduceIte, reduceCtorEq, Nat.reduceAdd, Nat.reduceSub, Nat.reduceMul, Nat.reduceEqDiff, Nat.reduceLT, Nat.reduceLeDiff, Nat.reduceBEq, Int.reduceAdd, Int.reduceSub, Int.reduceLT, Int.reduceLE, Int.reduceEq, Int.reduceToNat, eq_false c3, eq_false c4, eq_false c6, eq_false c10, eq_true c41, natOf_le hx7a, hx7b, eq_false (Int.not_lt.2 (guardO_some.1 hx42))]
       subst hK
       refine thenA_n ?_
       refine ⟨_, h, ?_⟩
       refine Ent.can [] _ _ _ rfl (by first | decide | simp) rfl ?_ ?_ ?_
       · exact ((((RF.any.pv (by first | rfl | simp only [go_sem]) (by first | rfl | simp [upd_ap, hpL_ap, tau, mapT, mapTL, bytesI_len, eq_false c3, eq_false c4, eq_false c6, eq_false c10, eq_true c41])).pv (by first | rfl | simp only [go_sem]) (by first | rfl | simp [upd_ap, hpL_ap, tau, mapT, mapTL, bytesI_len, eq_false c3, eq_false c4, eq_false c6, eq_false c10, eq_true c41])).pv (by first | rfl | simp only [go_sem]) (by first | rfl | simp [upd_ap, hpL_ap, tau, mapT, mapTL, bytesI_len, eq_false c3, eq_false c4, eq_false c6, eq_false c10, eq_true c41])).pv (by first | rfl | simp only [go_sem]) (by first | rfl | simp [upd_ap, hpL_ap, tau, mapT, mapTL, bytesI_len, eq_false c3, eq_false c4, eq_false c6, eq_false c10, eq_true c41]))
       · exact .nil _
       · exact .nil _
      ·rw [if_neg c41] at h
       refine AW.ifF rfl c41 ?_
       refine AW.skip ?_
       refine thenA_n ?_
       refine ⟨_, h, ?_⟩
       refine Ent.can [] _ _ _ rfl (by first | decide | simp) rfl ?_ ?_ ?_
       · exact ((((RF.any.pv (by first | rfl | simp only [go_sem]) (by first | rfl | simp [upd_ap, hpL_ap, tau, mapT, mapTL, bytesI_len, eq_false c3, eq_false c4, eq_false c6, eq_false c10, eq_false c41])).pv (by first | rfl | simp only [go_sem]) (by first | rfl | simp [upd_ap, hpL_ap, tau, mapT, mapTL, bytesI_len, eq_false c3, eq_false c4, eq_false c6, eq_false c10, eq_false c41])).pv (by first | rfl | simp only [go_sem]) (by first | rfl | simp [upd_ap, hpL_ap, tau, mapT, mapTL, bytesI_len, eq_false c3, eq_false c4, eq_false c6, eq_false c10, eq_false c41])).pv (by first | rfl | simp only [go_sem]) (by first | rfl | simp [upd_ap, hpL_ap, tau, mapT, mapTL, bytesI_len, eq_false c3, eq_false c4, eq_false c6, eq_false c10, eq_false c41]))
       · exact .nil _
       · exact .nil _
     ·clear h
      rintro j1_0 h
      rw [f49_j1] at h
      refine AW.seq ?_
      obtain ⟨x24, hx24, h⟩ := Option.bind_eq_some_iff.1 h
      refine AW.regL [1, 4, 7, 51, 52, 53] ?_
      generalize hK : AW Tryd.prog _ _ _ = K
      simp only [go_sem, ↓reduceIte, reduceCtorEq, Nat.reduceAdd, Nat.reduceSub, Nat.reduceMul, Nat.reduceEqDiff, Nat.reduceLT, Nat.reduceLeDiff, Nat.reduceBEq, Int.reduceAdd, Int.reduceSub, Int.reduceLT, Int.reduceLE, Int.reduceEq, Int.reduceToNat, eq_false c3, eq_false c4, eq_false c6, eq_false c10, cut_ss el34 sz5 (ml_enc5 _) hx24]
      subst hK
      refine AW.block ?_
      obtain ⟨y38, hy38, h⟩ := Option.bind_eq_some_iff.1 h
      refine AW.loopO (fun s => ⟨(upd (upd (upd (upd (upd (upd anyF 1 (.val (.int .i64 a1))) 4 (.val (.int .u64 s.1))) 7 (.val (.int .i64 (IntKind.i64.wrap (1 + x8))))) 51 (.sl (List.map enc5 x24))) 52 (.val (.int .i64 (x24.length : Int)))) 53 (.val (.int .i64 s.2))), hpL [] [], 8⟩) (fun z e st' => e = Exit.exit 0 ∧ st' = ⟨(upd (upd (upd anyF 1 (.val (.int .i64 a1))) 4 (.val (.int .u64 z))) 7 (.val (.int .i64 (IntKind.i64.wrap (1 + x8))))), hpL [] [], 8⟩) hy38 ?_ ?_ ?_
      ·refine Ent.can [] _ _ _ rfl (by first | decide | simp) rfl ?_ ?_ ?_
       · exact ((((((RF.any.pv (by first | rfl | simp only [go_sem]) (by first | rfl | simp [upd_ap, hpL_ap, tau, mapT, mapTL, bytesI_len, eq_false c3, eq_false c4, eq_false c6, eq_false c10])).pv (by first | rfl | simp only [go_sem]) (by first | rfl | simp [upd_ap, hpL_ap, tau, mapT, mapTL, bytesI_len, eq_false c3, eq_false c4, eq_false c6, eq_false c10])).pv (by first | rfl | simp only [go_sem]) (by first | rfl | simp [upd_ap, hpL_ap, tau, mapT, mapTL, bytesI_len, eq_false c3, eq_false c4, eq_false c6, eq_false c10])).pv (by first | rfl | simp only [go_sem]) (by first | rfl | simp [upd_ap, hpL_ap, tau, mapT, mapTL, bytesI_len, eq_false c3, eq_false c4, eq_false c6, eq_false c10])).pv (by first | rfl | simp only [go_sem]) (by first | rfl | simp [upd_ap, hpL_ap, tau, mapT, mapTL, bytesI_len, eq_false c3, eq_false c4, eq_false c6, eq_false c10])).pv (by first | rfl | simp only [go_sem]) (by first | rfl | simp [upd_ap, hpL_ap, tau, mapT, mapTL, bytesI_len, eq_false c3, eq_false c4, eq_false c6, eq_false c10]))
       · exact .nil _
       · exact .nil _
      ·clear h hy38
       rintro ⟨s2_0, s2_1⟩ x h
       rw [f49_s2] at h
       refine AW.regL [1, 4, 7, 51, 52, 53, 54] ?_
       generalize hK : AW Tryd.prog _ _ _ = K
       simp only [go_sem, ↓reduceIte, reduceCtorEq, Nat.reduceAdd, Nat.reduceSub, Nat.reduceMul, Nat.reduceEqDiff, Nat.reduceLT, Nat.reduceLeDiff, Nat.reduceBEq, Int.reduceAdd, Int.reduceSub, Int.reduceLT, Int.reduceLE, Int.reduceEq, Int.reduceToNat, eq_false c3, eq_false c4, eq_false c6, eq_false c10]
       subst hK
       refine AW.seq ?_
       by_cases c35 : s2_1 < (x24.length : Int)
       ·rw [if_pos c35] at h
        refine AW.ifT rfl c35 ?_
        refine AW.skip ?_
        refine thenA_n ?_
        refine AW.seq ?_
        refine AW.block ?_
        obtain ⟨x36, hx36, h⟩ := Option.bind_eq_some_iff.1 h
        obtain ⟨hx36a, hx36b⟩ := ix_some.1 hx36
        refine AW.regL [1, 4, 7, 9, 51, 52, 53] ?_
        generalize hK : AW Tryd.prog _ _ _ = K
        simp only [go_sem, ↓reduceIte, reduceCtorEq, Nat.reduceAdd, Nat.reduceSub, Nat.reduceMul, Nat.reduceEqDiff, Nat.reduceLT, Nat.reduceLeDiff, Nat.reduceBEq, Int.reduceAdd, Int.reduceSub, Int.reduceLT, Int.reduceLE, Int.reduceEq, Int.reduceToNat, eq_false c3, eq_false c4, eq_false c6, eq_false c10, eq_true c35, natOf_le hx36a, hx36b]
        subst hK
        refine AW.regionL [1, 4, 7, 51, 52, 53] ?_
        generalize hK : inBlockA _ _ Exit.normal = K
        simp only [go_sem, ↓reduceIte, reduceCtorEq, Nat.reduceAdd, Nat.reduceSub, Nat.reduceMul, Nat.reduceEqDiff, Nat.reduceLT, Nat.reduceLeDiff, Nat.reduceBEq, Int.reduceAdd, Int.reduceSub, Int.reduceLT, Int.reduceLE, Int.reduceEq, Int.reduceToNat, eq_false c3, eq_false c4, eq_false c6, eq_false c10, eq_true c35]
        subst hK
        refine block_n ?_
        refine thenA_n ?_
        refine AW.regionL [1, 4, 7, 51, 52, 53] ?_
        generalize hK : thenA _ _ Exit.normal = K
        simp only [go_sem, ↓reduceIte, reduceCtorEq, Nat.reduceAdd, Nat.reduceSub, Nat.reduceMul, Nat.reduceEqDiff, Nat.reduceLT, Nat.reduceLeDiff, Nat.reduceBEq, Int.reduceAdd, Int.reduceSub, Int.reduceLT, Int.reduceLE, Int.reduceEq, Int.reduceToNat, eq_false c3, eq_false c4, eq_false c6, eq_false c10, eq_true c35]
        subst hK
        refine thenA_n ?_
        refine ⟨_, (Option.some.inj h).symm, ?_⟩
        refine Ent.can [] _ _ _ rfl (by first | decide | simp) rfl ?_ ?_ ?_
        · exact ((((((RF.any.pv (by first | rfl | simp only [go_sem]) (by first | rfl | simp [upd_ap, hpL_ap, tau, mapT, mapTL, bytesI_len, eq_false c3, eq_false c4, eq_false c6, eq_false c10, eq_true c35])).pv (by first | rfl | simp only [go_sem]) (by first | rfl | simp [upd_ap, hpL_ap, tau, mapT, mapTL, bytesI_len, eq_false c3, eq_false c4, eq_false c6, eq_false c10, eq_true c35])).pv (by first | rfl | simp only [go_sem]) (by first | rfl | simp [upd_ap, hpL_ap, tau, mapT, mapTL, bytesI_len, eq_false c3, eq_false c4, eq_false c6, eq_false c10, eq_true c35])).pv (by first | rfl | simp only [go_sem]) (by first | rfl | simp [upd_ap, hpL_ap, tau, mapT, mapTL, bytesI_len, eq_false c3, eq_false c4, eq_false c6, eq_false c10, eq_true c35])).pv (by first | rfl | simp only [go_sem]) (by first | rfl | simp [upd_ap, hpL_ap, tau, mapT, mapTL, bytesI_len, eq_false c3, eq_false c4, eq_false c6, eq_false c10, eq_true c35])).pv (by first | rfl | simp only [go_sem]) (by first | rfl | simp [upd_ap, hpL_ap, tau, mapT, mapTL, bytesI_len, eq_false c3, eq_false c4, eq_false c6, eq_false c10, eq_true c35]))
        · exact .nil _
        · exact .nil _
       ·rw [if_neg c35] at h
        refine AW.ifF rfl c35 ?_
        refine AW.exit ?_
        refine thenA_x ?_
        refine thenA_x ?_
        refine ⟨_, (Option.some.inj h).symm, _, ?_, rfl, rfl⟩
        refine Ent.can [] _ _ _ rfl (by first | decide | simp) rfl ?_ ?_ ?_
        · exact (((RF.any.pv (by first | rfl | simp only [go_sem]) (by first | rfl | simp [upd_ap, hpL_ap, tau, mapT, mapTL, bytesI_len, eq_false c3, eq_false c4, eq_false c6, eq_false c10, eq_false c35])).pv (by first | rfl | simp only [go_sem]) (by first | rfl | simp [upd_ap, hpL_ap, tau, mapT, mapTL, bytesI_len, eq_false c3, eq_false c4, eq_false c6, eq_false c10, eq_false c35])).pv (by first | rfl | simp only [go_sem]) (by first | rfl | simp [upd_ap, hpL_ap, tau, mapT, mapTL, bytesI_len, eq_false c3, eq_false c4, eq_false c6, eq_false c10, eq_false c35]))
        · exact .nil _
        · exact .nil _
      ·intro e st' hX
       try dsimp only at h
       try dsimp only at hX
       obtain ⟨rfl, rfl⟩ := hX
       refine ⟨_, Ent.refl, ?_⟩
       refine block_x ?_
       refine thenA_n ?_
       refine AW.seq ?_
       obtain ⟨x39, hx39, h⟩ := Option.bind_eq_some_iff.1 h
       refine AW.regL [1, 4, 7, 66] ?_
       generalize hK : AW Tryd.prog _ _ _ = K
       simp only [go_sem, ↓reduceIte, reduceCtorEq, Nat.reduceAdd, Nat.reduceSub, Nat.reduceMul, Nat.reduceEqDiff, Nat.reduceLT, Nat.reduceLeDiff, Nat.reduceBEq, Int.reduceAdd, Int.reduceSub, Int.reduceLT, Int.reduceLE, Int.reduceEq, Int.reduceToNat, eq_false c3, eq_false c4, eq_false c6, eq_false c10]
       refine arC.of (ok60 y38 x39 hx39) Tryd.call60 ?_
       simp only [go_sem, ↓reduceIte, reduceCtorEq, Nat.reduceAdd, Nat.reduceSub, Nat.reduceMul, Nat.reduceEqDiff, Nat.reduceLT, Nat.reduceLeDiff, Nat.reduceBEq, Int.reduceAdd, Int.reduceSub, Int.reduceLT, Int.reduceLE, Int.reduceEq, Int.reduceToNat, eq_false c3, eq_false c4, eq_false c6, eq_false c10]
       subst hK
       by_cases c40 : x39 = (IntKind.i64.wrap (1 + x8))
       ·rw [if_pos c40] at h
        refine AW.ifF rfl (fun q => q c40) ?_
        refine AW.skip ?_
        refine thenA_n ?_
        refine AW.regL [4, 5, 6] ?_
        generalize hK : AW Tryd.prog _ _ _ = K
        simp only [go_sem, ↓reduceIte, reduceCtorEq, Nat.reduceAdd, Nat.reduceSub, Nat.reduceMul, Nat.reduceEqDiff, Nat.reduceLT, Nat.reduceLeDiff, Nat.reduceBEq, Int.reduceAdd, Int.reduceSub, Int.reduceLT, Int.reduceLE, Int.reduceEq, Int.reduceToNat, eq_false c3, eq_false c4, eq_false c6, eq_false c10, eq_true c40]
        subst hK
        refine AW.ret ?_
        obtain rfl := Option.some.inj h
        (simp only [go_sem, ↓reduceIte, reduceCtorEq, Nat.reduceAdd, Nat.reduceSub, Nat.reduceMul, Nat.reduceEqDiff, Nat.reduceLT, Nat.reduceLeDiff, Nat.reduceBEq, Int.reduceAdd, Int.reduceSub, Int.reduceLT, Int.reduceLE, Int.reduceEq, Int.reduceToNat, eq_false c3, eq_false c4, eq_false c6, eq_false c10, eq_true c40, finA] <;> try simp)
       ·rw [if_neg c40] at h
        refine AW.ifT rfl c40 ?_
        refine AW.regL [4, 5, 6] ?_
        generalize hK : AW Tryd.prog _ _ _ = K
        simp only [go_sem, ↓reduceIte, reduceCtorEq, Nat.reduceAdd, Nat.reduceSub, Nat.reduceMul, Nat.reduceEqDiff, Nat.reduceLT, Nat.reduceLeDiff, Nat.reduceBEq, Int.reduceAdd, Int.reduceSub, Int.reduceLT, Int.reduceLE, Int.reduceEq, Int.reduceToNat, eq_false c3, eq_false c4, eq_false c6, eq_false c10, eq_false c40]
        subst hK
        refine AW.ret ?_
        refine thenA_r ?_
        obtain rfl := Option.some.inj h
        (simp only [go_sem, ↓reduceIte, reduceCtorEq, Nat.reduceAdd, Nat.reduceSub, Nat.reduceMul, Nat.reduceEqDiff, Nat.reduceLT, Nat.reduceLeDiff, Nat.reduceBEq, Int.reduceAdd, Int.reduceSub, Int.reduceLT, Int.reduceLE, Int.reduceEq, Int.reduceToNat, eq_false c3, eq_false c4, eq_false c6, eq_false c10, eq_false c40, finA] <;> try simp)
end Au
end Go.Proofs.Yd

set_option linter.all false
set_option maxRecDepth 8000
set_option maxHeartbeats 1000000
namespace Go.Proofs.Yd
open Go.Gm
namespace Au
noncomputable def f39 (a0 : Reader) : Option (Int × Reader) := (if a0.e = 0 then ((f49 a0.b a0.at_).bind fun x3 => some (IntKind.i64.wrap (minI x3.1 1073741825), ⟨a0.b, x3.2.1, x3.2.2⟩)) else some (0, a0))
theorem ok39 (a0 : Reader) (r : Int × Reader) (h : f39 a0 = some r) : IC Tryd.prog 39 [some (.row 3 true [[.sl (List.map enc5 a0.b), .val (.int .i64 a0.at_), .val (.int .i64 a0.e)]])] [.ptr 0 0 0] (.val (.int .i64 r.1)) [some (.row 3 true [[.sl (List.map enc5 r.2.b), .val (.int .i64 r.2.at_), .val (.int .i64 r.2.e)]])] [] := by
 rw [f39] at h
 refine ic_of (N := 35) (rs := [.tmp 2]) Tryd.func39 rfl rfl rfl (Nat.le_of_ble_eq_true rfl) ?_
 refine AW.regL [0] ?_
 generalize hK : AW Tryd.prog _ _ _ = K
 simp only [go_sem, ↓reduceIte, reduceCtorEq, Nat.reduceAdd, Nat.reduceSub, Nat.reduceMul, Nat.reduceEqDiff, Nat.reduceLT, Nat.reduceLeDiff]
 subst hK
 refine AW.seq ?_
 refine AW.regL [0, 10] ?_
 generalize hK : AW Tryd.prog _ _ _ = K
 simp only [go_sem, ↓reduceIte, reduceCtorEq, Nat.reduceAdd, Nat.reduceSub, Nat.reduceMul, Nat.reduceEqDiff, Nat.reduceLT, Nat.reduceLeDiff]
 subst hK
 by_cases c2 : a0.e = 0
 ·rw [if_pos c2] at h
  refine AW.ifF rfl (fun q => q c2) ?_
  refine AW.skip ?_
  refine thenA_n ?_
  obtain ⟨x3, hx3, h⟩ := Option.bind_eq_some_iff.1 h
  refine AW.regdL [0, 3, 4, 5] [[], [0], [0, 1], [0, 1, 2], [], [4], [4, 5], [4, 5, 6], [0, 1, 2, 3, 4, 5, 6, 7], [0, 1, 2, 3, 4, 5, 6, 7, 8], [0, 1, 2, 3, 4, 5, 6, 7, 8, 9], [0, 1, 2, 3, 4, 5, 6, 7, 8, 9], [0, 1, 2, 3, 4, 5, 6, 7, 8, 9], [0, 1, 2, 3, 4, 5, 6, 7, 8, 9, 10], [0, 1, 2, 3, 4, 5, 6, 7, 8, 9, 10, 11, 13], [0, 1, 2, 3, 4, 5, 6, 7, 8, 9, 10, 11, 12, 13, 14]] [0, 1, 2, 3, 4, 5, 6, 7, 8, 9, 10, 11, 12, 13, 14, 15] (tab [(49, [.sl (List.map enc5 a0.b), .val (.int .i64 a0.at_)], .tup [.val (.int .u64 x3.1), .val (.int .i64 x3.2.1), .val (.int .i64 x3.2.2)])]) (tab_cons (ok49 a0.b a0.at_ x3 hx3) Tryd.call49 tab_nil) draws (by kernel_rfl) (by kernel_rfl) ?_
  generalize hK : AW Tryd.prog _ _ _ = K
  simp only [go_sem, ↓reduceIte, reduceCtorEq, Nat.reduceAdd, Nat.reduceSub, Nat.reduceMul, Nat.reduceEqDiff, Nat.reduceLT, Nat.reduceLeDiff, eq_true c2]
  subst hK
  refine AW.regL [3] ?_
  generalize hK : AW Tryd.prog _ _ _ = K
  simp only [go_sem, ↓reduceIte, reduceCtorEq, Nat.reduceAdd, Nat.reduceSub, Nat.reduceMul, Nat.reduceEqDiff, Nat.reduceLT, Nat.reduceLeDiff, eq_true c2]
  subst hK
  refine AW.regL [2] ?_
  generalize hK : AW Tryd.prog _ _ _ = K
  simp only [go_sem, ↓reduceIte, reduceCtorEq, Nat.reduceAdd, Nat.reduceSub, Nat.reduceMul, Nat.reduceEqDiff, Nat.reduceLT, Nat.reduceLeDiff, eq_true c2]
  subst hK
  refine AW.ent (st' := ⟨(upd anyF 2 (.val (.int .i64 (IntKind.i64.wrap (minI x3.1 1073741825))))), hpL [some (.row 3 true [[.sl (List.map enc5 a0.b), .val (.int .i64 x3.2.1), .val (.int .i64 x3.2.2)]])] [], 8⟩) ?_ ?_
  · refine Ent.can [] _ _ _ rfl (by first | decide | simp) rfl ?_ ?_ ?_
    · exact (RF.any.pv (by first | rfl | simp only [go_sem]) (by first | rfl | simp [upd_ap, hpL_ap, tau, mapT, mapTL, bytesI_len, eq_true c2]))
    · exact .cons (.eq (by first | rfl | simp only [go_sem]) (by first | rfl | simp [upd_ap, hpL_ap, tau, mapT, mapTL, bytesI_len, eq_true c2])) (.nil _)
    · exact .nil _
  refine AW.ret ?_
  obtain rfl := Option.some.inj h
  exact ⟨rfl, rfl, _, rfl, by first | rfl | simp [resOf, upd_ap, bytesI_len]⟩
 ·rw [if_neg c2] at h
  refine AW.ifT rfl c2 ?_
  refine AW.regL [2] ?_
  generalize hK : AW Tryd.prog _ _ _ = K
  simp only [go_sem, ↓reduceIte, reduceCtorEq, Nat.reduceAdd, Nat.reduceSub, Nat.reduceMul, Nat.reduceEqDiff, Nat.reduceLT, Nat.reduceLeDiff, eq_false c2]
  subst hK
  refine AW.ent (st' := ⟨(upd anyF 2 (.val (.int .i64 0))), hpL [some (.row 3 true [[.sl (List.map enc5 a0.b), .val (.int .i64 a0.at_), .val (.int .i64 a0.e)]])] [], 8⟩) ?_ ?_
  · refine Ent.can [] _ _ _ rfl (by first | decide | simp) rfl ?_ ?_ ?_
    · exact (RF.any.pv (by first | rfl | simp only [go_sem]) (by first | rfl | simp [upd_ap, hpL_ap, tau, mapT, mapTL, bytesI_len, eq_false c2]))
    · exact .cons (.eq (by first | rfl | simp only [go_sem]) (by first | rfl | simp [upd_ap, hpL_ap, tau, mapT, mapTL, bytesI_len, eq_false c2])) (.nil _)
    · exact .nil _
  refine AW.ret ?_
  refine thenA_r ?_
  obtain rfl := Option.some.inj h
  exact ⟨rfl, rfl, _, rfl, by first | rfl | simp [resOf, upd_ap, bytesI_len]⟩
end Au
end Go.Proofs.Yd

set_option linter.all false
set_option maxRecDepth 8000
set_option maxHeartbeats 1000000
namespace Go.Proofs.Yd
open Go.Gm
namespace Au
noncomputable def f50 (a0 : List Int) (a1 : Int) (a2 : Int) : Option (ByteArray × Int × Int) := ((f49 a0 a1).bind fun x1 => (if x1.2.2 = 0 then (if a2 < 0 then some (⟨#[]⟩, 0, 5) else (if (IntKind.u64.wrap a2) < x1.1 then some (⟨#[]⟩, 0, 5) else (if (IntKind.u64.wrap (IntKind.i64.wrap ((a0.length : Int) - x1.2.1))) < x1.1 then some (⟨#[]⟩, 0, 2) else ((cutO? a0 x1.2.1 (IntKind.i64.wrap (x1.2.1 + (IntKind.i64.wrap x1.1)))).bind fun x10 => some (strOfNums x10, IntKind.i64.wrap (x1.2.1 + (IntKind.i64.wrap x1.1)), 0))))) else some (⟨#[]⟩, 0, x1.2.2)))
theorem ok50 (a0 : List Int) (a1 : Int) (a2 : Int) (r : ByteArray × Int × Int) (h : f50 a0 a1 a2 = some r) : PC Tryd.prog 50 [.sl (List.map enc5 a0), .val (.int .i64 a1), .val (.int .i64 a2)] (.tup [.val (.string r.1), .val (.int .i64 r.2.1), .val (.int .i64 r.2.2)]) := by
 rw [f50] at h
 refine pc_of8 (N := 50) (rs := [.tmp 6, .tmp 7, .tmp 8]) Tryd.func50 rfl rfl rfl (Nat.le_of_ble_eq_true rfl) ?_
 refine AW.regL [0, 1, 2] ?_
 generalize hK : AW Tryd.prog _ _ _ = K
 simp only [go_sem, ↓reduceIte, reduceCtorEq, Nat.reduceAdd, Nat.reduceSub, Nat.reduceMul, Nat.reduceEqDiff, Nat.reduceLT, Nat.reduceLeDiff]
 subst hK
 obtain ⟨x1, hx1, h⟩ := Option.bind_eq_some_iff.1 h
 refine AW.regL [0, 2, 7, 8, 9] ?_
 generalize hK : AW Tryd.prog _ _ _ = K
 simp only [go_sem, ↓reduceIte, reduceCtorEq, Nat.reduceAdd, Nat.reduceSub, Nat.reduceMul, Nat.reduceEqDiff, Nat.reduceLT, Nat.reduceLeDiff]
 refine arC.of (ok49 a0 a1 x1 hx1) Tryd.call49 ?_
 simp only [go_sem, ↓reduceIte, reduceCtorEq, Nat.reduceAdd, Nat.reduceSub, Nat.reduceMul, Nat.reduceEqDiff, Nat.reduceLT, Nat.reduceLeDiff]
 subst hK
 refine AW.seq ?_
 refine AW.block ?_
 refine AW.regL [0, 2, 7, 8, 9, 17] ?_
 generalize hK : AW Tryd.prog _ _ _ = K
 simp only [go_sem, ↓reduceIte, reduceCtorEq, Nat.reduceAdd, Nat.reduceSub, Nat.reduceMul, Nat.reduceEqDiff, Nat.reduceLT, Nat.reduceLeDiff]
 subst hK
 by_cases c6 : x1.2.2 = 0
 ·rw [if_pos c6] at h
  refine AW.ifF rfl (fun q => q c6) ?_
  by_cases c7 : a2 < 0
  ·rw [if_pos c7] at h
   refine AW.regL [0, 7, 9, 21] ?_
   generalize hK : AW Tryd.prog _ _ _ = K
   simp only [go_sem, ↓reduceIte, reduceCtorEq, Nat.reduceAdd, Nat.reduceSub, Nat.reduceMul, Nat.reduceEqDiff, Nat.reduceLT, Nat.reduceLeDiff, eq_true c6, eq_true c7]
   subst hK
   refine AW.ifBT rfl rfl ?_
   refine AW.regL [6, 7, 8] ?_
   generalize hK : AW Tryd.prog _ _ _ = K
   simp only [go_sem, ↓reduceIte, reduceCtorEq, Nat.reduceAdd, Nat.reduceSub, Nat.reduceMul, Nat.reduceEqDiff, Nat.reduceLT, Nat.reduceLeDiff, eq_true c6, eq_true c7]
   subst hK
   refine AW.ret ?_
   refine block_r ?_
   refine thenA_r ?_
   obtain rfl := Option.some.inj h
   (simp only [go_sem, ↓reduceIte, reduceCtorEq, Nat.reduceAdd, Nat.reduceSub, Nat.reduceMul, Nat.reduceEqDiff, Nat.reduceLT, Nat.reduceLeDiff, eq_true c6, eq_true c7, finA] <;> try simp)
  ·rw [if_neg c7] at h
   refine AW.regL [0, 7, 9, 21] ?_
   generalize hK : AW Tryd.prog _ _ _ = K
   simp only [go_sem, ↓reduceIte, reduceCtorEq, Nat.reduceAdd, Nat.reduceSub, Nat.reduceMul, Nat.reduceEqDiff, Nat.reduceLT, Nat.reduceLeDiff, eq_true c6, eq_false c7]
   subst hK
   by_cases c8 : (IntKind.u64.wrap a2) < x1.1
   ·rw [if_pos c8] at h
    refine AW.ifT rfl c8 ?_
    refine AW.regL [6, 7, 8] ?_
    generalize hK : AW Tryd.prog _ _ _ = K
    simp only [go_sem, ↓reduceIte, reduceCtorEq, Nat.reduceAdd, Nat.reduceSub, Nat.reduceMul, Nat.reduceEqDiff, Nat.reduceLT, Nat.reduceLeDiff, eq_true c6, eq_false c7, eq_true c8]
    subst hK
    refine AW.ret ?_
    refine block_r ?_
    refine thenA_r ?_
    obtain rfl := Option.some.inj h
    (simp only [go_sem, ↓reduceIte, reduceCtorEq, Nat.reduceAdd, Nat.reduceSub, Nat.reduceMul, Nat.reduceEqDiff, Nat.reduceLT, Nat.reduceLeDiff, eq_true c6, eq_false c7, eq_true c8, finA] <;> try simp)
   ·rw [if_neg c8] at h
    refine AW.ifF rfl c8 ?_
    refine AW.regL [0, 7, 9, 30] ?_
    generalize hK : AW Tryd.prog _ _ _ = K
    simp only [go_sem, ↓reduceIte, reduceCtorEq, Nat.reduceAdd, Nat.reduceSub, Nat.reduceMul, Nat.reduceEqDiff, Nat.reduceLT, Nat.reduceLeDiff, eq_true c6, eq_false c7, eq_false c8]
    subst hK
    by_cases c9 : (IntKind.u64.wrap (IntKind.i64.wrap ((a0.length : Int) - x1.2.1))) < x1.1
    ·rw [if_pos c9] at h
     refine AW.ifT rfl c9 ?_
     refine AW.regL [6, 7, 8] ?_
     generalize hK : AW Tryd.prog _ _ _ = K
     simp only [go_sem, ↓reduceIte, reduceCtorEq, Nat.reduceAdd, Nat.reduceSub, Nat.reduceMul, Nat.reduceEqDiff, Nat.reduceLT, Nat.reduceLeDiff, eq_true c6, eq_false c7, eq_false c8, eq_true c9]
     subst hK
     refine AW.ret ?_
     refine block_r ?_
     refine thenA_r ?_
     obtain rfl := Option.some.inj h
     (simp only [go_sem, ↓reduceIte, reduceCtorEq, Nat.reduceAdd, Nat.reduceSub, Nat.reduceMul, Nat.reduceEqDiff, Nat.reduceLT, Nat.reduceLeDiff, eq_true c6, eq_false c7, eq_false c8, eq_true c9, finA] <;> try simp)
    ·rw [if_neg c9] at h
     refine AW.ifF rfl c9 ?_
     refine AW.skip ?_
     refine block_n ?_
     refine thenA_n ?_
     obtain ⟨x10, hx10, h⟩ := Option.bind_eq_some_iff.1 h
     refine AW.regL [6, 7, 8] ?_
     generalize hK : AW Tryd.prog _ _ _ = K
     simp only [go_sem, ↓reduceIte, reduceCtorEq, Nat.reduceAdd, Nat.reduceSub, Nat.reduceMul, Nat.reduceEqDiff, Nat.reduceLT, Nat.reduceLeDiff, eq_true c6, eq_false c7, eq_false c8, eq_false c9, cut_ss el34 sz5 (ml_enc5 _) hx10, byteNums_map (enc := enc5) (fun _ => rfl)]
     subst hK
     refine AW.ret ?_
     obtain rfl := Option.some.inj h
     (simp only [go_sem, ↓reduceIte, reduceCtorEq, Nat.reduceAdd, Nat.reduceSub, Nat.reduceMul, Nat.reduceEqDiff, Nat.reduceLT, Nat.reduceLeDiff, eq_true c6, eq_false c7, eq_false c8, eq_false c9, finA] <;> try simp)
 ·rw [if_neg c6] at h
  refine AW.ifT rfl c6 ?_
  refine AW.regL [6, 7, 8] ?_
  generalize hK : AW Tryd.prog _ _ _ = K
  simp only [go_sem, ↓reduceIte, reduceCtorEq, Nat.reduceAdd, Nat.reduceSub, Nat.reduceMul, Nat.reduceEqDiff, Nat.reduceLT, Nat.reduceLeDiff, eq_false c6]
  subst hK
  refine AW.ret ?_
  refine block_r ?_
  refine thenA_r ?_
  obtain rfl := Option.some.inj h
  (simp only [go_sem, ↓reduceIte, reduceCtorEq, Nat.reduceAdd, Nat.reduceSub, Nat.reduceMul, Nat.reduceEqDiff, Nat.reduceLT, Nat.reduceLeDiff, eq_false c6, finA] <;> try simp)
end Au
end Go.Proofs.Yd

set_option linter.all false
set_option maxRecDepth 8000
set_option maxHeartbeats 1000000
namespace Go.Proofs.Yd
open Go.Gm
namespace Au
noncomputable def f40 (a0 : Reader) : Option ((List Int) × Reader) := (if a0.e = 0 then ((f50 a0.b a0.at_ 1048576).bind fun x3 => some (bytesI x3.1, ⟨a0.b, x3.2.1, x3.2.2⟩)) else some ([], a0))
theorem ok40 (a0 : Reader) (r : (List Int) × Reader) (h : f40 a0 = some r) : IC Tryd.prog 40 [some (.row 3 true [[.sl (List.map enc5 a0.b), .val (.int .i64 a0.at_), .val (.int .i64 a0.e)]])] [.ptr 0 0 0] (.own 8 0 r.1.length) [some (.row 3 true [[.sl (List.map enc5 r.2.b), .val (.int .i64 r.2.at_), .val (.int .i64 r.2.e)]])] [some (.row 1 true (List.map enc5 r.1))] := by
 rw [f40] at h
 refine ic_of (N := 34) (rs := [.tmp 2]) Tryd.func40 rfl rfl rfl (Nat.le_of_ble_eq_true rfl) ?_
 refine AW.regL [0] ?_
 generalize hK : AW Tryd.prog _ _ _ = K
 simp only [go_sem, ↓reduceIte, reduceCtorEq, Nat.reduceAdd, Nat.reduceSub, Nat.reduceMul, Nat.reduceEqDiff, Nat.reduceLT, Nat.reduceLeDiff]
 subst hK
 refine AW.seq ?_
 refine AW.regL [0, 10] ?_
 generalize hK : AW Tryd.prog _ _ _ = K
 simp only [go_sem, ↓reduceIte, reduceCtorEq, Nat.reduceAdd, Nat.reduceSub, Nat.reduceMul, Nat.reduceEqDiff, Nat.reduceLT, Nat.reduceLeDiff]
 subst hK
 by_cases c2 : a0.e = 0
 ·rw [if_pos c2] at h
  refine AW.ifF rfl (fun q => q c2) ?_
  refine AW.skip ?_
  refine thenA_n ?_
  obtain ⟨x3, hx3, h⟩ := Option.bind_eq_some_iff.1 h
  refine AW.regdL [0, 3, 4, 5] [[], [0], [0, 1], [0, 1, 2], [], [4], [4, 5], [4, 5, 6], [0, 1, 2, 3, 4, 5, 6, 7], [0, 1, 2, 3, 4, 5, 6, 7, 8], [0, 1, 2, 3, 4, 5, 6, 7, 8, 9], [0, 1, 2, 3, 4, 5, 6, 7, 8, 9], [0, 1, 2, 3, 4, 5, 6, 7, 8, 9], [0, 1, 2, 3, 4, 5, 6, 7, 8, 9, 10], [0, 1, 2, 3, 4, 5, 6, 7, 8, 9, 10, 11, 13], [0, 1, 2, 3, 4, 5, 6, 7, 8, 9, 10, 11, 12, 13, 14]] [0, 1, 2, 3, 4, 5, 6, 7, 8, 9, 10, 11, 12, 13, 14, 15] (tab [(50, [.sl (List.map enc5 a0.b), .val (.int .i64 a0.at_), .val (.int .i64 1048576)], .tup [.val (.string x3.1), .val (.int .i64 x3.2.1), .val (.int .i64 x3.2.2)])]) (tab_cons (ok50 a0.b a0.at_ 1048576 x3 hx3) Tryd.call50 tab_nil) draws (by kernel_rfl) (by kernel_rfl) ?_
  generalize hK : AW Tryd.prog _ _ _ = K
  simp only [go_sem, ↓reduceIte, reduceCtorEq, Nat.reduceAdd, Nat.reduceSub, Nat.reduceMul, Nat.reduceEqDiff, Nat.reduceLT, Nat.reduceLeDiff, eq_true c2]
  subst hK
  refine AW.regL [3] ?_
  generalize hK : AW Tryd.prog _ _ _ = K
  simp only [go_sem, ↓reduceIte, reduceCtorEq, Nat.reduceAdd, Nat.reduceSub, Nat.reduceMul, Nat.reduceEqDiff, Nat.reduceLT, Nat.reduceLeDiff, eq_true c2]
  subst hK
  refine AW.regL [2] ?_
  generalize hK : AW Tryd.prog _ _ _ = K
  simp only [go_sem, ↓reduceIte, reduceCtorEq, Nat.reduceAdd, Nat.reduceSub, Nat.reduceMul, Nat.reduceEqDiff, Nat.reduceLT, Nat.reduceLeDiff, eq_true c2, bytesRows_map (enc := enc5) (fun _ => rfl)]
  subst hK
  refine AW.ent (st' := ⟨(upd anyF 2 (.own 8 0 x3.1.size)), hpL [some (.row 3 true [[.sl (List.map enc5 a0.b), .val (.int .i64 x3.2.1), .val (.int .i64 x3.2.2)]])] [some (.row 1 true (List.map enc5 (bytesI x3.1)))], 9⟩) ?_ ?_
  · refine Ent.can [272] _ _ _ rfl (by first | decide | simp) rfl ?_ ?_ ?_
    · exact (RF.any.po (by decide) (by first | rfl | simp [upd_ap, hpL_ap, tau, mapT, mapTL, bytesI_len, eq_true c2]))
    · exact .cons (.eq (by first | rfl | simp only [go_sem]) (by first | rfl | simp [upd_ap, hpL_ap, tau, mapT, mapTL, bytesI_len, eq_true c2])) (.nil _)
    · exact .cons (.eq (by first | rfl | simp only [go_sem]) (by first | rfl | simp [upd_ap, hpL_ap, tau, mapT, mapTL, bytesI_len, eq_true c2])) (.nil _)
  refine AW.ret ?_
  obtain rfl := Option.some.inj h
  exact ⟨rfl, rfl, _, rfl, by first | rfl | simp [resOf, upd_ap, bytesI_len]⟩
 ·rw [if_neg c2] at h
  refine AW.ifT rfl c2 ?_
  refine AW.regL [2] ?_
  generalize hK : AW Tryd.prog _ _ _ = K
  simp only [go_sem, ↓reduceIte, reduceCtorEq, Nat.reduceAdd, Nat.reduceSub, Nat.reduceMul, Nat.reduceEqDiff, Nat.reduceLT, Nat.reduceLeDiff, eq_false c2]
  subst hK
  refine AW.ent (Ent.nilOwn 2 1 (by decide) rfl) ?_
  refine AW.ent (st' := ⟨(upd anyF 2 (.own 8 0 0)), hpL [some (.row 3 true [[.sl (List.map enc5 a0.b), .val (.int .i64 a0.at_), .val (.int .i64 a0.e)]])] [some (.row 1 true [])], 9⟩) ?_ ?_
  · refine Ent.can [64] _ _ _ rfl (by first | decide | simp) rfl ?_ ?_ ?_
    · exact (RF.any.po (by decide) (by first | rfl | simp [upd_ap, hpL_ap, tau, mapT, mapTL, bytesI_len, eq_false c2]))
    · exact .cons (.eq (by first | rfl | simp only [go_sem]) (by first | rfl | simp [upd_ap, hpL_ap, tau, mapT, mapTL, bytesI_len, eq_false c2])) (.nil _)
    · exact .cons (.eq (by first | rfl | simp only [go_sem]) (by first | rfl | simp [upd_ap, hpL_ap, tau, mapT, mapTL, bytesI_len, eq_false c2])) (.nil _)
  refine AW.ret ?_
  refine thenA_r ?_
  obtain rfl := Option.some.inj h
  exact ⟨rfl, rfl, _, rfl, by first | rfl | simp [resOf, upd_ap, bytesI_len]⟩
end Au
end Go.Proofs.Yd

set_option linter.all false
set_option maxRecDepth 8000
set_option maxHeartbeats 1000000
namespace Go.Proofs.Yd
open Go.Gm
namespace Au
noncomputable def f51_s1 (a0 : List Int) : Int → Option (Int ⊕ (Bool ⊕ Unit))
  | s1_0 => (if s1_0 < (a0.length : Int) then ((ix a0 s1_0).bind fun x16 => (if x16 < 0 then some (.inr (.inl false)) else (if 1073741824 < x16 then some (.inr (.inl false)) else some (.inl (IntKind.i64.wrap (s1_0 + 1)))))) else some (.inr (.inr ())))
noncomputable def f51 (a0 : List Int) : Option Bool := ((loopO (f51_s1 a0) 0).bind fun y19 => match y19 with | .inl y20 => some y20 | .inr _ => some true)
theorem ok51 (a0 : List Int) (r : Bool) (h : f51 a0 = some r) : PC Tryd.prog 51 [.sl (List.map enc3 a0)] (.val (.bool r)) := by
 rw [f51] at h
 refine pc_of8 (N := 18) (rs := [.tmp 2]) Tryd.func51 rfl rfl rfl (Nat.le_of_ble_eq_true rfl) ?_
 refine AW.regL [0] ?_
 generalize hK : AW Tryd.prog _ _ _ = K
 simp only [go_sem, ↓reduceIte, reduceCtorEq, Nat.reduceAdd, Nat.reduceSub, Nat.reduceMul, Nat.reduceEqDiff, Nat.reduceLT, Nat.reduceLeDiff]
 subst hK
 refine AW.seq ?_
 refine AW.regL [5, 6, 7] ?_
 generalize hK : AW Tryd.prog _ _ _ = K
 simp only [go_sem, ↓reduceIte, reduceCtorEq, Nat.reduceAdd, Nat.reduceSub, Nat.reduceMul, Nat.reduceEqDiff, Nat.reduceLT, Nat.reduceLeDiff]
 subst hK
 refine AW.block ?_
 obtain ⟨y19, hy19, h⟩ := Option.bind_eq_some_iff.1 h
 refine AW.loopO (fun s => ⟨(upd (upd (upd anyF 5 (.sl (List.map enc3 a0))) 6 (.val (.int .i64 (a0.length : Int)))) 7 (.val (.int .i64 s))), hpL [] [], 8⟩) (fun y e st' => match y with | .inl z => e = Exit.ret ∧ finA Tryd.prog [.tmp 2] (.val (.bool z)) .ret st' | .inr z => e = Exit.exit 0 ∧ st' = ⟨anyF, hpL [] [], 8⟩) hy19 ?_ ?_ ?_
 ·refine Ent.can [] _ _ _ rfl (by first | decide | simp) rfl ?_ ?_ ?_
  · exact (((RF.any.pv (by first | rfl | simp only [go_sem]) (by first | rfl | simp [upd_ap, hpL_ap, tau, mapT, mapTL, bytesI_len])).pv (by first | rfl | simp only [go_sem]) (by first | rfl | simp [upd_ap, hpL_ap, tau, mapT, mapTL, bytesI_len])).pv (by first | rfl | simp only [go_sem]) (by first | rfl | simp [upd_ap, hpL_ap, tau, mapT, mapTL, bytesI_len]))
  · exact .nil _
  · exact .nil _
 ·clear h hy19
  rintro s1_0 x h
  rw [f51_s1] at h
  refine AW.regL [5, 6, 7, 8] ?_
  generalize hK : AW Tryd.prog _ _ _ = K
  simp only [go_sem, ↓reduceIte, reduceCtorEq, Nat.reduceAdd, Nat.reduceSub, Nat.reduceMul, Nat.reduceEqDiff, Nat.reduceLT, Nat.reduceLeDiff]
  subst hK
  refine AW.seq ?_
  by_cases c15 : s1_0 < (a0.length : Int)
  ·rw [if_pos c15] at h
   refine AW.ifT rfl c15 ?_
   refine AW.skip ?_
   refine thenA_n ?_
   refine AW.seq ?_
   refine AW.block ?_
   obtain ⟨x16, hx16, h⟩ := Option.bind_eq_some_iff.1 h
   obtain ⟨hx16a, hx16b⟩ := ix_some.1 hx16
   refine AW.regL [4, 5, 6, 7] ?_
   generalize hK : AW Tryd.prog _ _ _ = K
   simp only [go_sem, ↓reduceIte, reduceCtorEq, Nat.reduceAdd, Nat.reduceSub, Nat.reduceMul, Nat.reduceEqDiff, Nat.reduceLT, Nat.reduceLeDiff, eq_true c15, natOf_le hx16a, hx16b]
   subst hK
   by_cases c17 : x16 < 0
   ·rw [if_pos c17] at h
    refine AW.regL [5, 6, 7, 16] ?_
    generalize hK : AW Tryd.prog _ _ _ = K
    simp only [go_sem, ↓reduceIte, reduceCtorEq, Nat.reduceAdd, Nat.reduceSub, Nat.reduceMul, Nat.reduceEqDiff, Nat.reduceLT, Nat.reduceLeDiff, eq_true c15, eq_true c17]
    subst hK
    refine AW.ifBT rfl rfl ?_
    refine AW.regL [2] ?_
    generalize hK : AW Tryd.prog _ _ _ = K
    simp only [go_sem, ↓reduceIte, reduceCtorEq, Nat.reduceAdd, Nat.reduceSub, Nat.reduceMul, Nat.reduceEqDiff, Nat.reduceLT, Nat.reduceLeDiff, eq_true c15, eq_true c17]
    subst hK
    refine AW.ret ?_
    refine block_r ?_
    refine thenA_r ?_
    refine thenA_r ?_
    refine ⟨_, (Option.some.inj h).symm, _, Ent.refl, rfl, ?_⟩
    (simp only [go_sem, ↓reduceIte, reduceCtorEq, Nat.reduceAdd, Nat.reduceSub, Nat.reduceMul, Nat.reduceEqDiff, Nat.reduceLT, Nat.reduceLeDiff, eq_true c15, eq_true c17, finA] <;> try simp)
   ·rw [if_neg c17] at h
    refine AW.regL [5, 6, 7, 16] ?_
    generalize hK : AW Tryd.prog _ _ _ = K
    simp only [go_sem, ↓reduceIte, reduceCtorEq, Nat.reduceAdd, Nat.reduceSub, Nat.reduceMul, Nat.reduceEqDiff, Nat.reduceLT, Nat.reduceLeDiff, eq_true c15, eq_false c17]
    subst hK
    by_cases c18 : 1073741824 < x16
    ·rw [if_pos c18] at h
     refine AW.ifT rfl c18 ?_
     refine AW.regL [2] ?_
     generalize hK : AW Tryd.prog _ _ _ = K
     simp only [go_sem, ↓reduceIte, reduceCtorEq, Nat.reduceAdd, Nat.reduceSub, Nat.reduceMul, Nat.reduceEqDiff, Nat.reduceLT, Nat.reduceLeDiff, eq_true c15, eq_false c17, eq_true c18]
     subst hK
     refine AW.ret ?_
     refine block_r ?_
     refine thenA_r ?_
     refine thenA_r ?_
     refine ⟨_, (Option.some.inj h).symm, _, Ent.refl, rfl, ?_⟩
     (simp only [go_sem, ↓reduceIte, reduceCtorEq, Nat.reduceAdd, Nat.reduceSub, Nat.reduceMul, Nat.reduceEqDiff, Nat.reduceLT, Nat.reduceLeDiff, eq_true c15, eq_false c17, eq_true c18, finA] <;> try simp)
    ·rw [if_neg c18] at h
     refine AW.ifF rfl c18 ?_
     refine AW.skip ?_
     refine block_n ?_
     refine thenA_n ?_
     refine AW.regionL [5, 6, 7] ?_
     generalize hK : thenA _ _ Exit.normal = K
     simp only [go_sem, ↓reduceIte, reduceCtorEq, Nat.reduceAdd, Nat.reduceSub, Nat.reduceMul, Nat.reduceEqDiff, Nat.reduceLT, Nat.reduceLeDiff, eq_true c15, eq_false c17, eq_false c18]
     subst hK
     refine thenA_n ?_
     refine ⟨_, (Option.some.inj h).symm, ?_⟩
     refine Ent.can [] _ _ _ rfl (by first | decide | simp) rfl ?_ ?_ ?_
     · exact (((RF.any.pv (by first | rfl | simp only [go_sem]) (by first | rfl | simp [upd_ap, hpL_ap, tau, mapT, mapTL, bytesI_len, eq_true c15, eq_false c17, eq_false c18])).pv (by first | rfl | simp only [go_sem]) (by first | rfl | simp [upd_ap, hpL_ap, tau, mapT, mapTL, bytesI_len, eq_true c15, eq_false c17, eq_false c18])).pv (by first | rfl | simp only [go_sem]) (by first | rfl | simp [upd_ap, hpL_ap, tau, mapT, mapTL, bytesI_len, eq_true c15, eq_false c17, eq_false c18]))
     · exact .nil _
     · exact .nil _
  ·rw [if_neg c15] at h
   refine AW.ifF rfl c15 ?_
   refine AW.exit ?_
   refine thenA_x ?_
   refine thenA_x ?_
   refine ⟨_, (Option.some.inj h).symm, _, ?_, rfl, rfl⟩
   refine Ent.can [] _ _ _ rfl (by first | decide | simp) rfl ?_ ?_ ?_
   · exact RF.any
   · exact .nil _
   · exact .nil _
 ·intro e st' hX
  rcases y19 with y20 | _ <;> dsimp only at h hX
  ·obtain ⟨rfl, hf⟩ := hX
   refine ⟨_, Ent.refl, ?_⟩
   refine block_r ?_
   refine thenA_r ?_
   obtain rfl := Option.some.inj h
   exact hf
  ·obtain ⟨rfl, rfl⟩ := hX
   refine ⟨_, Ent.refl, ?_⟩
   refine block_x ?_
   refine thenA_n ?_
   refine AW.regL [2] ?_
   generalize hK : AW Tryd.prog _ _ _ = K
   simp only [go_sem, ↓reduceIte, reduceCtorEq, Nat.reduceAdd, Nat.reduceSub, Nat.reduceMul, Nat.reduceEqDiff, Nat.reduceLT, Nat.reduceLeDiff]
   subst hK
   refine AW.ret ?_
   obtain rfl := Option.some.inj h
   (simp only [go_sem, ↓reduceIte, reduceCtorEq, Nat.reduceAdd, Nat.reduceSub, Nat.reduceMul, Nat.reduceEqDiff, Nat.reduceLT, Nat.reduceLeDiff, finA] <;> try simp)
end Au
end Go.Proofs.Yd

set_option linter.all false
set_option maxRecDepth 8000
set_option maxHeartbeats 1000000
namespace Go.Proofs.Yd
open Go.Gm
namespace Au
noncomputable def f41_j1 (a0 : Note) : Int × Int × Int → Option Bool
  | (j1_0, j1_1, j1_2) => (if (a0.Where.length : Int) ≤ j1_0 then (if (a0.A.length : Int) ≤ j1_1 then some (decide ((a0.B.length : Int) ≤ j1_2)) else some false) else some false)
noncomputable def f41 (a0 : Note) : Option Bool := (if a0.Kind < 0 then some false else (if 11 ≤ a0.Kind then some false else ((f51 [a0.Task, a0.Try, a0.Part]).bind fun x9 => (if x9 = true then ((f51 a0.Where).bind fun x11 => (if x11 = true then (if a0.Kind = 3 then f41_j1 a0 (65536, 0, 0) else (if a0.Kind = 8 then f41_j1 a0 (0, 1048576, 1048576) else (if a0.Kind = 5 then f41_j1 a0 (0, 1048576, 0) else f41_j1 a0 (0, 0, 0)))) else some false)) else some false))))
theorem ok41 (a0 : Note) (r : Bool) (h : f41 a0 = some r) : PC Tryd.prog 41 [.agg (encNote a0)] (.val (.bool r)) := by
 rw [f41] at h
 refine pc_of8 (N := 58) (rs := [.tmp 2]) Tryd.func41 rfl rfl rfl (Nat.le_of_ble_eq_true rfl) ?_
 refine AW.regL [1] ?_
 generalize hK : AW Tryd.prog _ _ _ = K
 simp only [go_sem, ↓reduceIte, reduceCtorEq, Nat.reduceAdd, Nat.reduceSub, Nat.reduceMul, Nat.reduceEqDiff, Nat.reduceLT, Nat.reduceLeDiff]
 subst hK
 refine AW.seq ?_
 by_cases c7 : a0.Kind < 0
 ·rw [if_pos c7] at h
  refine AW.regL [1, 30] ?_
  generalize hK : AW Tryd.prog _ _ _ = K
  simp only [go_sem, ↓reduceIte, reduceCtorEq, Nat.reduceAdd, Nat.reduceSub, Nat.reduceMul, Nat.reduceEqDiff, Nat.reduceLT, Nat.reduceLeDiff, eq_true c7]
  subst hK
  refine AW.ifBT rfl rfl ?_
  refine AW.regL [2] ?_
  generalize hK : AW Tryd.prog _ _ _ = K
  simp only [go_sem, ↓reduceIte, reduceCtorEq, Nat.reduceAdd, Nat.reduceSub, Nat.reduceMul, Nat.reduceEqDiff, Nat.reduceLT, Nat.reduceLeDiff, eq_true c7]
  subst hK
  refine AW.ret ?_
  refine thenA_r ?_
  obtain rfl := Option.some.inj h
  (simp only [go_sem, ↓reduceIte, reduceCtorEq, Nat.reduceAdd, Nat.reduceSub, Nat.reduceMul, Nat.reduceEqDiff, Nat.reduceLT, Nat.reduceLeDiff, eq_true c7, finA] <;> try simp)
 ·rw [if_neg c7] at h
  by_cases c8 : 11 ≤ a0.Kind
  ·rw [if_pos c8] at h
   refine AW.regL [1, 30] ?_
   generalize hK : AW Tryd.prog _ _ _ = K
   simp only [go_sem, ↓reduceIte, reduceCtorEq, Nat.reduceAdd, Nat.reduceSub, Nat.reduceMul, Nat.reduceEqDiff, Nat.reduceLT, Nat.reduceLeDiff, eq_false c7, eq_true c8]
   subst hK
   refine AW.ifBT rfl rfl ?_
   refine AW.regL [2] ?_
   generalize hK : AW Tryd.prog _ _ _ = K
   simp only [go_sem, ↓reduceIte, reduceCtorEq, Nat.reduceAdd, Nat.reduceSub, Nat.reduceMul, Nat.reduceEqDiff, Nat.reduceLT, Nat.reduceLeDiff, eq_false c7, eq_true c8]
   subst hK
   refine AW.ret ?_
   refine thenA_r ?_
   obtain rfl := Option.some.inj h
   (simp only [go_sem, ↓reduceIte, reduceCtorEq, Nat.reduceAdd, Nat.reduceSub, Nat.reduceMul, Nat.reduceEqDiff, Nat.reduceLT, Nat.reduceLeDiff, eq_false c7, eq_true c8, finA] <;> try simp)
  ·rw [if_neg c8] at h
   obtain ⟨x9, hx9, h⟩ := Option.bind_eq_some_iff.1 h
   by_cases c10 : x9 = true
   ·rw [if_pos c10] at h
    obtain ⟨x11, hx11, h⟩ := Option.bind_eq_some_iff.1 h
    refine AW.regL [1, 30] ?_
    generalize hK : AW Tryd.prog _ _ _ = K
    simp only [go_sem, ↓reduceIte, reduceCtorEq, Nat.reduceAdd, Nat.reduceSub, Nat.reduceMul, Nat.reduceEqDiff, Nat.reduceLT, Nat.reduceLeDiff, eq_false c7, eq_false c8, c10]
    refine arC.of (ok51 [a0.Task, a0.Try, a0.Part] x9 hx9) Tryd.call51 ?_
    simp only [go_sem, ↓reduceIte, reduceCtorEq, Nat.reduceAdd, Nat.reduceSub, Nat.reduceMul, Nat.reduceEqDiff, Nat.reduceLT, Nat.reduceLeDiff, eq_false c7, eq_false c8, c10]
    refine arC.of (ok51 a0.Where x11 hx11) Tryd.call51 ?_
    simp only [go_sem, ↓reduceIte, reduceCtorEq, Nat.reduceAdd, Nat.reduceSub, Nat.reduceMul, Nat.reduceEqDiff, Nat.reduceLT, Nat.reduceLeDiff, eq_false c7, eq_false c8, c10]
    subst hK
    by_cases c12 : x11 = true
    ·rw [if_pos c12] at h
     refine AW.ifBF rfl (by rw [c12]; rfl) ?_
     refine AW.skip ?_
     refine thenA_n ?_
     refine AW.regL [1, 3, 4, 5] ?_
     generalize hK : AW Tryd.prog _ _ _ = K
     simp only [go_sem, ↓reduceIte, reduceCtorEq, Nat.reduceAdd, Nat.reduceSub, Nat.reduceMul, Nat.reduceEqDiff, Nat.reduceLT, Nat.reduceLeDiff, eq_false c7, eq_false c8, c10, c12]
     subst hK
     refine AW.join (fun s => ⟨(upd (upd (upd (upd anyF 1 (.ptr 8 0 0)) 3 (.val (.int .i64 s.1))) 4 (.val (.int .i64 s.2.1))) 5 (.val (.int .i64 s.2.2))), hpL [] [some (.row 7 true [[.val (.int .i64 a0.Kind), .val (.int .i64 a0.Task), .val (.int .i64 a0.Try), .val (.int .i64 a0.Part), .sl (List.map enc3 a0.Where), .sl (List.map enc5 a0.A), .sl (List.map enc5 a0.B)]])], 9⟩) (fun s => f41_j1 a0 s = some r) ?_ ?_
     ·refine AW.regL [1, 3, 4, 5, 32] ?_
      generalize hK : AW Tryd.prog _ _ _ = K
      simp only [go_sem, ↓reduceIte, reduceCtorEq, Nat.reduceAdd, Nat.reduceSub, Nat.reduceMul, Nat.reduceEqDiff, Nat.reduceLT, Nat.reduceLeDiff, eq_false c7, eq_false c8, c10, c12]
      subst hK
      refine AW.block ?_
      refine AW.seq ?_
      refine AW.block ?_
      refine AW.seq ?_
      refine AW.block ?_
      refine AW.seq ?_
      refine AW.block ?_
      refine AW.seq ?_
      refine AW.seq ?_
      refine AW.regL [1, 3, 4, 5, 32, 33] ?_
      generalize hK : AW Tryd.prog _ _ _ = K
      simp only [go_sem, ↓reduceIte, reduceCtorEq, Nat.reduceAdd, Nat.reduceSub, Nat.reduceMul, Nat.reduceEqDiff, Nat.reduceLT, Nat.reduceLeDiff, eq_false c7, eq_false c8, c10, c12]
      subst hK
      by_cases c18 : a0.Kind = 3
      ·rw [if_pos c18] at h
       refine AW.ifT rfl c18 ?_
       refine AW.exit ?_
       refine thenA_x ?_
       refine thenA_x ?_
       refine block_x ?_
       refine thenA_n ?_
       refine AW.regL [1, 3, 4, 5] ?_
       generalize hK : AW Tryd.prog _ _ _ = K
       simp only [go_sem, ↓reduceIte, reduceCtorEq, Nat.reduceAdd, Nat.reduceSub, Nat.reduceMul, Nat.reduceEqDiff, Nat.reduceLT, Nat.reduceLeDiff, eq_false c7, eq_false c8, c10, c12, eq_true c18]
       subst hK
       refine AW.exit ?_
       refine block_y rfl ?_
       refine thenA_x ?_
       refine block_y rfl ?_
       refine thenA_x ?_
       refine block_x ?_
       refine thenA_n ?_
       refine ⟨_, h, ?_⟩
       refine Ent.can [8] _ _ _ rfl (by first | decide | simp) rfl ?_ ?_ ?_
       · exact ((((RF.any.pp (by decide) (by first | rfl | simp [upd_ap, hpL_ap, tau, mapT, mapTL, bytesI_len, eq_false c7, eq_false c8, c10, c12, eq_true c18])).pv (by first | rfl | simp only [go_sem]) (by first | rfl | simp [upd_ap, hpL_ap, tau, mapT, mapTL, bytesI_len, eq_false c7, eq_false c8, c10, c12, eq_true c18])).pv (by first | rfl | simp only [go_sem]) (by first | rfl | simp [upd_ap, hpL_ap, tau, mapT, mapTL, bytesI_len, eq_false c7, eq_false c8, c10, c12, eq_true c18])).pv (by first | rfl | simp only [go_sem]) (by first | rfl | simp [upd_ap, hpL_ap, tau, mapT, mapTL, bytesI_len, eq_false c7, eq_false c8, c10, c12, eq_true c18]))
       · exact .nil _
       · exact .cons (.eq (by first | rfl | simp only [go_sem]) (by first | rfl | simp [upd_ap, hpL_ap, tau, mapT, mapTL, bytesI_len, eq_false c7, eq_false c8, c10, c12, eq_true c18])) (.nil _)
      ·rw [if_neg c18] at h
       refine AW.ifF rfl c18 ?_
       refine AW.skip ?_
       refine thenA_n ?_
       refine AW.seq ?_
       refine AW.regL [1, 3, 4, 5, 32, 35] ?_
       generalize hK : AW Tryd.prog _ _ _ = K
       simp only [go_sem, ↓reduceIte, reduceCtorEq, Nat.reduceAdd, Nat.reduceSub, Nat.reduceMul, Nat.reduceEqDiff, Nat.reduceLT, Nat.reduceLeDiff, eq_false c7, eq_false c8, c10, c12, eq_false c18]
       subst hK
       by_cases c19 : a0.Kind = 8
       ·rw [if_pos c19] at h
        refine AW.ifT rfl c19 ?_
        refine AW.exit ?_
        refine thenA_x ?_
        refine thenA_x ?_
        refine block_y rfl ?_
        refine thenA_x ?_
        refine block_x ?_
        refine thenA_n ?_
        refine AW.regionL [1, 3, 5] ?_
        generalize hK : inBlockA _ _ Exit.normal = K
        simp only [go_sem, ↓reduceIte, reduceCtorEq, Nat.reduceAdd, Nat.reduceSub, Nat.reduceMul, Nat.reduceEqDiff, Nat.reduceLT, Nat.reduceLeDiff, eq_false c7, eq_false c8, c10, c12, eq_false c18, eq_true c19]
        subst hK
        refine block_n ?_
        refine thenA_n ?_
        refine AW.regL [1, 3, 4, 5] ?_
        generalize hK : AW Tryd.prog _ _ _ = K
        simp only [go_sem, ↓reduceIte, reduceCtorEq, Nat.reduceAdd, Nat.reduceSub, Nat.reduceMul, Nat.reduceEqDiff, Nat.reduceLT, Nat.reduceLeDiff, eq_false c7, eq_false c8, c10, c12, eq_false c18, eq_true c19]
        subst hK
        refine AW.exit ?_
        refine block_x ?_
        refine thenA_n ?_
        refine ⟨_, h, ?_⟩
        refine Ent.can [8] _ _ _ rfl (by first | decide | simp) rfl ?_ ?_ ?_
        · exact ((((RF.any.pp (by decide) (by first | rfl | simp [upd_ap, hpL_ap, tau, mapT, mapTL, bytesI_len, eq_false c7, eq_false c8, c10, c12, eq_false c18, eq_true c19])).pv (by first | rfl | simp only [go_sem]) (by first | rfl | simp [upd_ap, hpL_ap, tau, mapT, mapTL, bytesI_len, eq_false c7, eq_false c8, c10, c12, eq_false c18, eq_true c19])).pv (by first | rfl | simp only [go_sem]) (by first | rfl | simp [upd_ap, hpL_ap, tau, mapT, mapTL, bytesI_len, eq_false c7, eq_false c8, c10, c12, eq_false c18, eq_true c19])).pv (by first | rfl | simp only [go_sem]) (by first | rfl | simp [upd_ap, hpL_ap, tau, mapT, mapTL, bytesI_len, eq_false c7, eq_false c8, c10, c12, eq_false c18, eq_true c19]))
        · exact .nil _
        · exact .cons (.eq (by first | rfl | simp only [go_sem]) (by first | rfl | simp [upd_ap, hpL_ap, tau, mapT, mapTL, bytesI_len, eq_false c7, eq_false c8, c10, c12, eq_false c18, eq_true c19])) (.nil _)
       ·rw [if_neg c19] at h
        refine AW.ifF rfl c19 ?_
        refine AW.skip ?_
        refine thenA_n ?_
        refine AW.regL [1, 3, 4, 5, 37] ?_
        generalize hK : AW Tryd.prog _ _ _ = K
        simp only [go_sem, ↓reduceIte, reduceCtorEq, Nat.reduceAdd, Nat.reduceSub, Nat.reduceMul, Nat.reduceEqDiff, Nat.reduceLT, Nat.reduceLeDiff, eq_false c7, eq_false c8, c10, c12, eq_false c18, eq_false c19]
        subst hK
        by_cases c20 : a0.Kind = 5
        ·rw [if_pos c20] at h
         refine AW.ifT rfl c20 ?_
         refine AW.exit ?_
         refine thenA_x ?_
         refine block_y rfl ?_
         refine thenA_x ?_
         refine block_y rfl ?_
         refine thenA_x ?_
         refine block_x ?_
         refine thenA_n ?_
         refine AW.regL [1, 3, 4, 5] ?_
         generalize hK : AW Tryd.prog _ _ _ = K
         simp only [go_sem, ↓reduceIte, reduceCtorEq, Nat.reduceAdd, Nat.reduceSub, Nat.reduceMul, Nat.reduceEqDiff, Nat.reduceLT, Nat.reduceLeDiff, eq_false c7, eq_false c8, c10, c12, eq_false c18, eq_false c19, eq_true c20]
         subst hK
         refine AW.exit ?_
         refine block_x ?_
         refine thenA_n ?_
         refine ⟨_, h, ?_⟩
         refine Ent.can [8] _ _ _ rfl (by first | decide | simp) rfl ?_ ?_ ?_
         · exact ((((RF.any.pp (by decide) (by first | rfl | simp [upd_ap, hpL_ap, tau, mapT, mapTL, bytesI_len, eq_false c7, eq_false c8, c10, c12, eq_false c18, eq_false c19, eq_true c20])).pv (by first | rfl | simp only [go_sem]) (by first | rfl | simp [upd_ap, hpL_ap, tau, mapT, mapTL, bytesI_len, eq_false c7, eq_false c8, c10, c12, eq_false c18, eq_false c19, eq_true c20])).pv (by first | rfl | simp only [go_sem]) (by first | rfl | simp [upd_ap, hpL_ap, tau, mapT, mapTL, bytesI_len, eq_false c7, eq_false c8, c10, c12, eq_false c18, eq_false c19, eq_true c20])).pv (by first | rfl | simp only [go_sem]) (by first | rfl | simp [upd_ap, hpL_ap, tau, mapT, mapTL, bytesI_len, eq_false c7, eq_false c8, c10, c12, eq_false c18, eq_false c19, eq_true c20]))
         · exact .nil _
         · exact .cons (.eq (by first | rfl | simp only [go_sem]) (by first | rfl | simp [upd_ap, hpL_ap, tau, mapT, mapTL, bytesI_len, eq_false c7, eq_false c8, c10, c12, eq_false c18, eq_false c19, eq_true c20])) (.nil _)
        ·rw [if_neg c20] at h
         refine AW.ifF rfl c20 ?_
         refine AW.skip ?_
         refine thenA_n ?_
         refine AW.exit ?_
         refine block_y rfl ?_
         refine thenA_x ?_
         refine block_y rfl ?_
         refine thenA_x ?_
         refine block_y rfl ?_
         refine thenA_x ?_
         refine block_x ?_
         refine thenA_n ?_
         refine ⟨_, h, ?_⟩
         refine Ent.can [8] _ _ _ rfl (by first | decide | simp) rfl ?_ ?_ ?_
         · exact ((((RF.any.pp (by decide) (by first | rfl | simp [upd_ap, hpL_ap, tau, mapT, mapTL, bytesI_len, eq_false c7, eq_false c8, c10, c12, eq_false c18, eq_false c19, eq_false c20])).pv (by first | rfl | simp only [go_sem]) (by first | rfl | simp [upd_ap, hpL_ap, tau, mapT, mapTL, bytesI_len, eq_false c7, eq_false c8, c10, c12, eq_false c18, eq_false c19, eq_false c20])).pv (by first | rfl | simp only [go_sem]) (by first | rfl | simp [upd_ap, hpL_ap, tau, mapT, mapTL, bytesI_len, eq_false c7, eq_false c8, c10, c12, eq_false c18, eq_false c19, eq_false c20])).pv (by first | rfl | simp only [go_sem]) (by first | rfl | simp [upd_ap, hpL_ap, tau, mapT, mapTL, bytesI_len, eq_false c7, eq_false c8, c10, c12, eq_false c18, eq_false c19, eq_false c20]))
         · exact .nil _
         · exact .cons (.eq (by first | rfl | simp only [go_sem]) (by first | rfl | simp [upd_ap, hpL_ap, tau, mapT, mapTL, bytesI_len, eq_false c7, eq_false c8, c10, c12, eq_false c18, eq_false c19, eq_false c20])) (.nil _)
     ·clear h
      rintro ⟨j1_0, j1_1, j1_2⟩ h
      rw [f41_j1] at h
      by_cases c16 : (a0.Where.length : Int) ≤ j1_0
      ·rw [if_pos c16] at h
       by_cases c17 : (a0.A.length : Int) ≤ j1_1
       ·rw [if_pos c17] at h
        refine AW.regL [2] ?_
        generalize hK : AW Tryd.prog _ _ _ = K
        simp only [go_sem, ↓reduceIte, reduceCtorEq, Nat.reduceAdd, Nat.reduceSub, Nat.reduceMul, Nat.reduceEqDiff, Nat.reduceLT, Nat.reduceLeDiff, eq_false c7, eq_false c8, c10, c12, eq_true c16, eq_true c17]
        subst hK
        refine AW.ret ?_
        obtain rfl := Option.some.inj h
        (simp only [go_sem, ↓reduceIte, reduceCtorEq, Nat.reduceAdd, Nat.reduceSub, Nat.reduceMul, Nat.reduceEqDiff, Nat.reduceLT, Nat.reduceLeDiff, eq_false c7, eq_false c8, c10, c12, eq_true c16, eq_true c17, finA] <;> try simp)
       ·rw [if_neg c17] at h
        refine AW.regL [2] ?_
        generalize hK : AW Tryd.prog _ _ _ = K
        simp only [go_sem, ↓reduceIte, reduceCtorEq, Nat.reduceAdd, Nat.reduceSub, Nat.reduceMul, Nat.reduceEqDiff, Nat.reduceLT, Nat.reduceLeDiff, eq_false c7, eq_false c8, c10, c12, eq_true c16, eq_false c17]
        subst hK
        refine AW.ret ?_
        obtain rfl := Option.some.inj h
        (simp only [go_sem, ↓reduceIte, reduceCtorEq, Nat.reduceAdd, Nat.reduceSub, Nat.reduceMul, Nat.reduceEqDiff, Nat.reduceLT, Nat.reduceLeDiff, eq_false c7, eq_false c8, c10, c12, eq_true c16, eq_false c17, finA] <;> try simp)
      ·rw [if_neg c16] at h
       refine AW.regL [2] ?_
       generalize hK : AW Tryd.prog _ _ _ = K
       simp only [go_sem, ↓reduceIte, reduceCtorEq, Nat.reduceAdd, Nat.reduceSub, Nat.reduceMul, Nat.reduceEqDiff, Nat.reduceLT, Nat.reduceLeDiff, eq_false c7, eq_false c8, c10, c12, eq_false c16]
       subst hK
       refine AW.ret ?_
       obtain rfl := Option.some.inj h
       (simp only [go_sem, ↓reduceIte, reduceCtorEq, Nat.reduceAdd, Nat.reduceSub, Nat.reduceMul, Nat.reduceEqDiff, Nat.reduceLT, Nat.reduceLeDiff, eq_false c7, eq_false c8, c10, c12, eq_false c16, finA] <;> try simp)
    ·rw [if_neg c12] at h
     rw [Bool.not_eq_true] at c12
     refine AW.ifBT rfl (by rw [c12]; rfl) ?_
     refine AW.regL [2] ?_
     generalize hK : AW Tryd.prog _ _ _ = K
     simp only [go_sem, ↓reduceIte, reduceCtorEq, Nat.reduceAdd, Nat.reduceSub, Nat.reduceMul, Nat.reduceEqDiff, Nat.reduceLT, Nat.reduceLeDiff, eq_false c7, eq_false c8, c10, c12]
     subst hK
     refine AW.ret ?_
     refine thenA_r ?_
     obtain rfl := Option.some.inj h
     (simp only [go_sem, ↓reduceIte, reduceCtorEq, Nat.reduceAdd, Nat.reduceSub, Nat.reduceMul, Nat.reduceEqDiff, Nat.reduceLT, Nat.reduceLeDiff, eq_false c7, eq_false c8, c10, c12, finA] <;> try simp)
   ·rw [if_neg c10] at h
    rw [Bool.not_eq_true] at c10
    refine AW.regL [1, 30] ?_
    generalize hK : AW Tryd.prog _ _ _ = K
    simp only [go_sem, ↓reduceIte, reduceCtorEq, Nat.reduceAdd, Nat.reduceSub, Nat.reduceMul, Nat.reduceEqDiff, Nat.reduceLT, Nat.reduceLeDiff, eq_false c7, eq_false c8, c10]
    refine arC.of (ok51 [a0.Task, a0.Try, a0.Part] x9 hx9) Tryd.call51 ?_
    simp only [go_sem, ↓reduceIte, reduceCtorEq, Nat.reduceAdd, Nat.reduceSub, Nat.reduceMul, Nat.reduceEqDiff, Nat.reduceLT, Nat.reduceLeDiff, eq_false c7, eq_false c8, c10]
    subst hK
    refine AW.ifBT rfl rfl ?_
    refine AW.regL [2] ?_
    generalize hK : AW Tryd.prog _ _ _ = K
    simp only [go_sem, ↓reduceIte, reduceCtorEq, Nat.reduceAdd, Nat.reduceSub, Nat.reduceMul, Nat.reduceEqDiff, Nat.reduceLT, Nat.reduceLeDiff, eq_false c7, eq_false c8, c10]
    subst hK
    refine AW.ret ?_
    refine thenA_r ?_
    obtain rfl := Option.some.inj h
    (simp only [go_sem, ↓reduceIte, reduceCtorEq, Nat.reduceAdd, Nat.reduceSub, Nat.reduceMul, Nat.reduceEqDiff, Nat.reduceLT, Nat.reduceLeDiff, eq_false c7, eq_false c8, c10, finA] <;> try simp)
end Au
end Go.Proofs.Yd
