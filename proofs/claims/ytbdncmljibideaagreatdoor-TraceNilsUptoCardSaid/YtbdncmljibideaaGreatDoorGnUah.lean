import Derived.Test.YtbdncmljibideaaGreatDoorGnUaf
import Derived.Test.YtbdncmljibideaaGreatDoorGnUag
set_option linter.all false
set_option linter.unusedVariables false
set_option linter.unusedSimpArgs false
set_option linter.all false
set_option maxRecDepth 8000
set_option maxHeartbeats 1000000
namespace Go.Proofs.Yt
open Go.Gm
namespace Au
noncomputable def f122_s2 (x24 : List Int) : Int × Int → Option ((Int × Int) ⊕ Int)
  | (s2_0, s2_1) => (if s2_1 < (x24.length : Int) then ((ix x24 s2_1).bind fun x36 => some (.inl (orV .u64 (shlV .u64 s2_0 8) (IntKind.u64.wrap x36), IntKind.i64.wrap (s2_1 + 1)))) else some (.inr s2_0))
noncomputable def f122_j1 (a0 : List Int) (a1 : Int) (x8 : Int) : Int → Option (Int × Int × Int)
  | j1_0 => ((cutO? a0 (IntKind.i64.wrap (a1 + 1)) (IntKind.i64.wrap (a1 + (IntKind.i64.wrap (1 + x8))))).bind fun x24 => ((loopO (f122_s2 x24) (j1_0, 0)).bind fun y38 => ((f132 y38).bind fun x39 => (if x39 = (IntKind.i64.wrap (1 + x8)) then some (y38, IntKind.i64.wrap (a1 + (IntKind.i64.wrap (1 + x8))), 0) else some (0, 0, 3)))))
noncomputable def f122 (a0 : List Int) (a1 : Int) : Option (Int × Int × Int) := (if a1 < 0 then some (0, 0, 8) else (if (a0.length : Int) < a1 then some (0, 0, 8) else (if a1 = (a0.length : Int) then some (0, 0, 2) else ((ix a0 a1).bind fun x7 => ((f144 (xorV .u8 (allV .u8) x7)).bind fun x8 => (if (IntKind.i64.wrap ((a0.length : Int) - a1)) < (IntKind.i64.wrap (1 + x8)) then some (0, 0, 2) else (if (IntKind.i64.wrap (1 + x8)) < 9 then ((guardO (0 ≤ (IntKind.i64.wrap (1 + x8)))).bind fun x42 => f122_j1 a0 a1 x8 (andV .u64 (IntKind.u64.wrap x7) (shrV .u64 255 (IntKind.i64.wrap (1 + x8)).toNat))) else f122_j1 a0 a1 x8 0)))))))
theorem ok122 (a0 : List Int) (a1 : Int) (r : Int × Int × Int) (h : f122 a0 a1 = some r) : PC Tryz.prog 122 [.sl (List.map enc5 a0), .val (.int .i64 a1)] (.tup [.val (.int .u64 r.1), .val (.int .i64 r.2.1), .val (.int .i64 r.2.2)]) := by
 rw [f122] at h
 refine pc_of8 (N := 71) (rs := [.tmp 4, .tmp 5, .tmp 6]) Tryz.func122 rfl rfl rfl (Nat.le_of_ble_eq_true rfl) ?_
 refine AW.regL [0, 1, 4] ?_
 generalize hK : AW Tryz.prog _ _ _ = K
 simp only [go_sem, ↓reduceIte, reduceCtorEq, Nat.reduceAdd, Nat.reduceSub, Nat.reduceMul, Nat.reduceEqDiff, Nat.reduceLT, Nat.reduceLeDiff, Nat.reduceBEq, Int.reduceAdd, Int.reduceSub, Int.reduceLT, Int.reduceLE, Int.reduceEq, Int.reduceToNat]
 subst hK
 refine AW.seq ?_
 by_cases c3 : a1 < 0
 ·rw [if_pos c3] at h
  refine AW.regL [0, 1, 4, 17] ?_
  generalize hK : AW Tryz.prog _ _ _ = K
  simp only [go_sem, ↓reduceIte, reduceCtorEq, Nat.reduceAdd, Nat.reduceSub, Nat.reduceMul, Nat.reduceEqDiff, Nat.reduceLT, Nat.reduceLeDiff, Nat.reduceBEq, Int.reduceAdd, Int.reduceSub, Int.reduceLT, Int.reduceLE, Int.reduceEq, Int.reduceToNat, eq_true c3]
  subst hK
  refine AW.ifBT rfl rfl ?_
  refine AW.regL [4, 5, 6] ?_
  generalize hK : AW Tryz.prog _ _ _ = K
  simp only [go_sem, ↓reduceIte, reduceCtorEq, Nat.reduceAdd, Nat.reduceSub, Nat.reduceMul, Nat.reduceEqDiff, Nat.reduceLT, Nat.reduceLeDiff, Nat.reduceBEq, Int.reduceAdd, Int.reduceSub, Int.reduceLT, Int.reduceLE, Int.reduceEq, Int.reduceToNat, eq_true c3]
  subst hK
  refine AW.ret ?_
  refine thenA_r ?_
  obtain rfl := Option.some.inj h
  (simp only [go_sem, ↓reduceIte, reduceCtorEq, Nat.reduceAdd, Nat.reduceSub, Nat.reduceMul, Nat.reduceEqDiff, Nat.reduceLT, Nat.reduceLeDiff, Nat.reduceBEq, Int.reduceAdd, Int.reduceSub, Int.reduceLT, Int.reduceLE, Int.reduceEq, Int.reduceToNat, eq_true c3, finA] <;> try simp)
 ·rw [if_neg c3] at h
  refine AW.regL [0, 1, 4, 17] ?_
  generalize hK : AW Tryz.prog _ _ _ = K
  simp only [go_sem, ↓reduceIte, reduceCtorEq, Nat.reduceAdd, Nat.reduceSub, Nat.reduceMul, Nat.reduceEqDiff, Nat.reduceLT, Nat.reduceLeDiff, Nat.reduceBEq, Int.reduceAdd, Int.reduceSub, Int.reduceLT, Int.reduceLE, Int.reduceEq, Int.reduceToNat, eq_false c3]
  subst hK
  by_cases c4 : (a0.length : Int) < a1
  ·rw [if_pos c4] at h
   refine AW.ifT rfl c4 ?_
   refine AW.regL [4, 5, 6] ?_
   generalize hK : AW Tryz.prog _ _ _ = K
   simp only [go_sem, ↓reduceIte, reduceCtorEq, Nat.reduceAdd, Nat.reduceSub, Nat.reduceMul, Nat.reduceEqDiff, Nat.reduceLT, Nat.reduceLeDiff, Nat.reduceBEq, Int.reduceAdd, Int.reduceSub, Int.reduceLT, Int.reduceLE, Int.reduceEq, Int.reduceToNat, eq_false c3, eq_true c4]
   subst hK
   refine AW.ret ?_
   refine thenA_r ?_
   obtain rfl := Option.some.inj h
   (simp only [go_sem, ↓reduceIte, reduceCtorEq, Nat.reduceAdd, Nat.reduceSub, Nat.reduceMul, Nat.reduceEqDiff, Nat.reduceLT, Nat.reduceLeDiff, Nat.reduceBEq, Int.reduceAdd, Int.reduceSub, Int.reduceLT, Int.reduceLE, Int.reduceEq, Int.reduceToNat, eq_false c3, eq_true c4, finA] <;> try simp)
  ·rw [if_neg c4] at h
   refine AW.ifF rfl c4 ?_
   refine AW.skip ?_
   refine thenA_n ?_
   refine AW.seq ?_
   refine AW.regL [0, 1, 4, 21] ?_
   generalize hK : AW Tryz.prog _ _ _ = K
   simp only [go_sem, ↓reduceIte, reduceCtorEq, Nat.reduceAdd, Nat.reduceSub, Nat.reduceMul, Nat.reduceEqDiff, Nat.reduceLT, Nat.reduceLeDiff, Nat.reduceBEq, Int.reduceAdd, Int.reduceSub, Int.reduceLT, Int.reduceLE, Int.reduceEq, Int.reduceToNat, eq_false c3, eq_false c4]
   subst hK
   by_cases c6 : a1 = (a0.length : Int)
   ·rw [if_pos c6] at h
    refine AW.ifT rfl c6 ?_
    refine AW.regL [4, 5, 6] ?_
    generalize hK : AW Tryz.prog _ _ _ = K
    simp only [go_sem, ↓reduceIte, reduceCtorEq, Nat.reduceAdd, Nat.reduceSub, Nat.reduceMul, Nat.reduceEqDiff, Nat.reduceLT, Nat.reduceLeDiff, Nat.reduceBEq, Int.reduceAdd, Int.reduceSub, Int.reduceLT, Int.reduceLE, Int.reduceEq, Int.reduceToNat, eq_false c3, eq_false c4, eq_true c6]
    subst hK
    refine AW.ret ?_
    refine thenA_r ?_
    obtain rfl := Option.some.inj h
    (simp only [go_sem, ↓reduceIte, reduceCtorEq, Nat.reduceAdd, Nat.reduceSub, Nat.reduceMul, Nat.reduceEqDiff, Nat.reduceLT, Nat.reduceLeDiff, Nat.reduceBEq, Int.reduceAdd, Int.reduceSub, Int.reduceLT, Int.reduceLE, Int.reduceEq, Int.reduceToNat, eq_false c3, eq_false c4, eq_true c6, finA] <;> try simp)
   ·rw [if_neg c6] at h
    refine AW.ifF rfl c6 ?_
    refine AW.skip ?_
    refine thenA_n ?_
    obtain ⟨x7, hx7, h⟩ := Option.bind_eq_some_iff.1 h
    obtain ⟨hx7a, hx7b⟩ := ix_some.1 hx7
    obtain ⟨x8, hx8, h⟩ := Option.bind_eq_some_iff.1 h
    refine AW.regL [0, 1, 4, 7] ?_
    generalize hK : AW Tryz.prog _ _ _ = K
    simp only [go_sem, ↓reduceIte, reduceCtorEq, Nat.reduceAdd, Nat.reduceSub, Nat.reduceMul, Nat.reduceEqDiff, Nat.reduceLT, Nat.reduceLeDiff, Nat.reduceBEq, Int.reduceAdd, Int.reduceSub, Int.reduceLT, Int.reduceLE, Int.reduceEq, Int.reduceToNat, eq_false c3, eq_false c4, eq_false c6, natOf_le hx7a, hx7b]
    refine arC.of (ok144 (xorV .u8 (allV .u8) x7) x8 hx8) Tryz.call144 ?_
    simp only [go_sem, ↓reduceIte, reduceCtorEq, Nat.reduceAdd, Nat.reduceSub, Nat.reduceMul, Nat.reduceEqDiff, Nat.reduceLT, Nat.reduceLeDiff, Nat.reduceBEq, Int.reduceAdd, Int.reduceSub, Int.reduceLT, Int.reduceLE, Int.reduceEq, Int.reduceToNat, eq_false c3, eq_false c4, eq_false c6, natOf_le hx7a, hx7b]
    subst hK
    refine AW.seq ?_
    refine AW.regL [0, 1, 4, 7, 34] ?_
    generalize hK : AW Tryz.prog _ _ _ = K
    simp only [go_sem, ↓reduceIte, reduceCtorEq, Nat.reduceAdd, Nat.reduceSub, Nat.reduceMul, Nat.reduceEqDiff, Nat.reduceLT, Nat.reduceLeDiff, Nat.reduceBEq, Int.reduceAdd, Int.reduceSub, Int.reduceLT, Int.reduceLE, Int.reduceEq, Int.reduceToNat, eq_false c3, eq_false c4, eq_false c6]
    subst hK
    by_cases c10 : (IntKind.i64.wrap ((a0.length : Int) - a1)) < (IntKind.i64.wrap (1 + x8))
    ·rw [if_pos c10] at h
     refine AW.ifT rfl c10 ?_
     refine AW.regL [4, 5, 6] ?_
     generalize hK : AW Tryz.prog _ _ _ = K
     simp only [go_sem, ↓reduceIte, reduceCtorEq, Nat.reduceAdd, Nat.reduceSub, Nat.reduceMul, Nat.reduceEqDiff, Nat.reduceLT, Nat.reduceLeDiff, Nat.reduceBEq, Int.reduceAdd, Int.reduceSub, Int.reduceLT, Int.reduceLE, Int.reduceEq, Int.reduceToNat, eq_false c3, eq_false c4, eq_false c6, eq_true c10]
     subst hK
     refine AW.ret ?_
     refine thenA_r ?_
     obtain rfl := Option.some.inj h
     (simp only [go_sem, ↓reduceIte, reduceCtorEq, Nat.reduceAdd, Nat.reduceSub, Nat.reduceMul, Nat.reduceEqDiff, Nat.reduceLT, Nat.reduceLeDiff, Nat.reduceBEq, Int.reduceAdd, Int.reduceSub, Int.reduceLT, Int.reduceLE, Int.reduceEq, Int.reduceToNat, eq_false c3, eq_false c4, eq_false c6, eq_true c10, finA] <;> try simp)
    ·rw [if_neg c10] at h
     refine AW.ifF rfl c10 ?_
     refine AW.skip ?_
     refine thenA_n ?_
     refine AW.join (fun s => ⟨(upd (upd (upd (upd anyF 0 (.sl (List.map enc5 a0))) 1 (.val (.int .i64 a1))) 4 (.val (.int .u64 s))) 7 (.val (.int .i64 (IntKind.i64.wrap (1 + x8))))), hpL [] [], 8⟩) (fun s => f122_j1 a0 a1 x8 s = some r) ?_ ?_
     ·refine AW.regL [0, 1, 4, 7, 36] ?_
      generalize hK : AW Tryz.prog _ _ _ = K
      simp only [go_sem, ↓reduceIte, reduceCtorEq, Nat.reduceAdd, Nat.reduceSub, Nat.reduceMul, Nat.reduceEqDiff, Nat.reduceLT, Nat.reduceLeDiff, Nat.reduceBEq, Int.reduceAdd, Int.reduceSub, Int.reduceLT, Int.reduceLE, Int.reduceEq, Int.reduceToNat, eq_false c3, eq_false c4, eq_false c6, eq_false c10]
      subst hK
      by_cases c41 : (IntKind.i64.wrap (1 + x8)) < 9
      ·rw [if_pos c41] at h
       refine AW.ifT rfl c41 ?_
       obtain ⟨x42, hx42, h⟩ := Option.bind_eq_some_iff.1 h
       refine AW.drawL [0, 1, 4, 7] [[], [], [0, 1], [0, 1, 2], [0, 1, 2, 3], [], [5], [0, 1, 2, 3, 4, 5, 6], [0, 1, 2, 3, 4, 5, 6, 7]] [0, 1, 2, 3, 4, 5, 6, 7, 8] noFt (fun _ _ _ h => by simp [noFt] at h) draws (by kernel_rfl) (by kernel_rfl) ?_
       generalize hK : thenA _ _ Exit.normal = K
       simp only [go_sem, ↓reduceIte, reduceCtorEq, Nat.reduceAdd, Nat.reduceSub, Nat.reduceMul, Nat.reduceEqDiff, Nat.reduceLT, Nat.reduceLeDiff, Nat.reduceBEq, Int.reduceAdd, Int.reduceSub, Int.reduceLT, Int.reduceLE, Int.reduceEq, Int.reduceToNat, eq_false c3, eq_false c4, eq_false c6, eq_false c10, eq_true c41, natOf_le hx7a, hx7b, eq_false (Int.not_lt.2 (guardO_some.1 hx42))]
       subst hK
       refine thenA_n ?_
       refine ⟨_, h, ?_⟩
       exact Ent.canq [] RF.any.qv.qv.qv.qv (.nil _) (.nil _)
      ·rw [if_neg c41] at h
       refine AW.ifF rfl c41 ?_
       refine AW.skip ?_
       refine thenA_n ?_
       refine ⟨_, h, ?_⟩
       exact Ent.canq [] RF.any.qv.qv.qv.qv (.nil _) (.nil _)
     ·clear h
      rintro j1_0 h
      rw [f122_j1] at h
      refine AW.seq ?_
      obtain ⟨x24, hx24, h⟩ := Option.bind_eq_some_iff.1 h
      refine AW.regL [1, 4, 7, 51, 52, 53] ?_
      generalize hK : AW Tryz.prog _ _ _ = K
      simp only [go_sem, ↓reduceIte, reduceCtorEq, Nat.reduceAdd, Nat.reduceSub, Nat.reduceMul, Nat.reduceEqDiff, Nat.reduceLT, Nat.reduceLeDiff, Nat.reduceBEq, Int.reduceAdd, Int.reduceSub, Int.reduceLT, Int.reduceLE, Int.reduceEq, Int.reduceToNat, eq_false c3, eq_false c4, eq_false c6, eq_false c10, cut_ss el23 sz5 (ml_enc5 _) hx24]
      subst hK
      refine AW.block ?_
      obtain ⟨y38, hy38, h⟩ := Option.bind_eq_some_iff.1 h
      refine AW.loopO (fun s => ⟨(upd (upd (upd (upd (upd (upd anyF 1 (.val (.int .i64 a1))) 4 (.val (.int .u64 s.1))) 7 (.val (.int .i64 (IntKind.i64.wrap (1 + x8))))) 51 (.sl (List.map enc5 x24))) 52 (.val (.int .i64 (x24.length : Int)))) 53 (.val (.int .i64 s.2))), hpL [] [], 8⟩) (fun z e st' => e = Exit.exit 0 ∧ st' = ⟨(upd (upd (upd anyF 1 (.val (.int .i64 a1))) 4 (.val (.int .u64 z))) 7 (.val (.int .i64 (IntKind.i64.wrap (1 + x8))))), hpL [] [], 8⟩) hy38 ?_ ?_ ?_
      ·exact Ent.canq [] RF.any.qv.qv.qv.qv.qv.qv (.nil _) (.nil _)
      ·clear h hy38
       rintro ⟨s2_0, s2_1⟩ x h
       rw [f122_s2] at h
       refine AW.regL [1, 4, 7, 51, 52, 53, 54] ?_
       generalize hK : AW Tryz.prog _ _ _ = K
       simp only [go_sem, ↓reduceIte, reduceCtorEq, Nat.reduceAdd, Nat.reduceSub, Nat.reduceMul, Nat.reduceEqDiff, Nat.reduceLT, Nat.reduceLeDiff, Nat.reduceBEq, Int.reduceAdd, Int.reduceSub, Int.reduceLT, Int.reduceLE, Int.reduceEq, Int.reduceToNat, eq_false c3, eq_false c4, eq_false c6, eq_false c10]
       subst hK
       refine AW.seq ?_
       by_cases c35 : s2_1 < (x24.length : Int)
       ·rw [if_pos c35] at h
        refine AW.ifT rfl c35 ?_
        refine AW.skip ?_
        refine thenA_n ?_
        refine AW.seq ?_
        refine AW.block ?_
        obtain ⟨x36, hx36, h⟩ := Option.bind_eq_some_iff.1 h
        obtain ⟨hx36a, hx36b⟩ := ix_some.1 hx36
        refine AW.regL [1, 4, 7, 9, 51, 52, 53] ?_
        generalize hK : AW Tryz.prog _ _ _ = K
        simp only [go_sem, ↓reduceIte, reduceCtorEq, Nat.reduceAdd, Nat.reduceSub, Nat.reduceMul, Nat.reduceEqDiff, Nat.reduceLT, Nat.reduceLeDiff, Nat.reduceBEq, Int.reduceAdd, Int.reduceSub, Int.reduceLT, Int.reduceLE, Int.reduceEq, Int.reduceToNat, eq_false c3, eq_false c4, eq_false c6, eq_false c10, eq_true c35, natOf_le hx36a, hx36b]
        subst hK
        refine AW.regionL [1, 4, 7, 51, 52, 53] ?_
        generalize hK : inBlockA _ _ Exit.normal = K
        simp only [go_sem, ↓reduceIte, reduceCtorEq, Nat.reduceAdd, Nat.reduceSub, Nat.reduceMul, Nat.reduceEqDiff, Nat.reduceLT, Nat.reduceLeDiff, Nat.reduceBEq, Int.reduceAdd, Int.reduceSub, Int.reduceLT, Int.reduceLE, Int.reduceEq, Int.reduceToNat, eq_false c3, eq_false c4, eq_false c6, eq_false c10, eq_true c35]
        subst hK
        refine block_n ?_
        refine thenA_n ?_
        refine AW.regionL [1, 4, 7, 51, 52, 53] ?_
        generalize hK : thenA _ _ Exit.normal = K
        simp only [go_sem, ↓reduceIte, reduceCtorEq, Nat.reduceAdd, Nat.reduceSub, Nat.reduceMul, Nat.reduceEqDiff, Nat.reduceLT, Nat.reduceLeDiff, Nat.reduceBEq, Int.reduceAdd, Int.reduceSub, Int.reduceLT, Int.reduceLE, Int.reduceEq, Int.reduceToNat, eq_false c3, eq_false c4, eq_false c6, eq_false c10, eq_true c35]
        subst hK
        refine thenA_n ?_
        refine ⟨_, (Option.some.inj h).symm, ?_⟩
        exact Ent.canq [] RF.any.qv.qv.qv.qv.qv.qv (.nil _) (.nil _)
       ·rw [if_neg c35] at h
        refine AW.ifF rfl c35 ?_
        refine AW.exit ?_
        refine thenA_x ?_
        refine thenA_x ?_
        refine ⟨_, (Option.some.inj h).symm, _, ?_, rfl, rfl⟩
        exact Ent.canq [] RF.any.qv.qv.qv (.nil _) (.nil _)
      ·intro e st' hX
       try dsimp only at h
       try dsimp only at hX
       obtain ⟨rfl, rfl⟩ := hX
       refine ⟨_, Ent.refl, ?_⟩
       refine block_x ?_
       refine thenA_n ?_
       refine AW.seq ?_
       obtain ⟨x39, hx39, h⟩ := Option.bind_eq_some_iff.1 h
       refine AW.regL [1, 4, 7, 66] ?_
       generalize hK : AW Tryz.prog _ _ _ = K
       simp only [go_sem, ↓reduceIte, reduceCtorEq, Nat.reduceAdd, Nat.reduceSub, Nat.reduceMul, Nat.reduceEqDiff, Nat.reduceLT, Nat.reduceLeDiff, Nat.reduceBEq, Int.reduceAdd, Int.reduceSub, Int.reduceLT, Int.reduceLE, Int.reduceEq, Int.reduceToNat, eq_false c3, eq_false c4, eq_false c6, eq_false c10]
       refine arC.of (ok132 y38 x39 hx39) Tryz.call132 ?_
       simp only [go_sem, ↓reduceIte, reduceCtorEq, Nat.reduceAdd, Nat.reduceSub, Nat.reduceMul, Nat.reduceEqDiff, Nat.reduceLT, Nat.reduceLeDiff, Nat.reduceBEq, Int.reduceAdd, Int.reduceSub, Int.reduceLT, Int.reduceLE, Int.reduceEq, Int.reduceToNat, eq_false c3, eq_false c4, eq_false c6, eq_false c10]
       subst hK
       by_cases c40 : x39 = (IntKind.i64.wrap (1 + x8))
       ·rw [if_pos c40] at h
        refine AW.ifF rfl (fun q => q c40) ?_
        refine AW.skip ?_
        refine thenA_n ?_
        refine AW.regL [4, 5, 6] ?_
        generalize hK : AW Tryz.prog _ _ _ = K
        simp only [go_sem, ↓reduceIte, reduceCtorEq, Nat.reduceAdd, Nat.reduceSub, Nat.reduceMul, Nat.reduceEqDiff, Nat.reduceLT, Nat.reduceLeDiff, Nat.reduceBEq, Int.reduceAdd, Int.reduceSub, Int.reduceLT, Int.reduceLE, Int.reduceEq, Int.reduceToNat, eq_false c3, eq_false c4, eq_false c6, eq_false c10, eq_true c40]
        subst hK
        refine AW.ret ?_
        obtain rfl := Option.some.inj h
        (simp only [go_sem, ↓reduceIte, reduceCtorEq, Nat.reduceAdd, Nat.reduceSub, Nat.reduceMul, Nat.reduceEqDiff, Nat.reduceLT, Nat.reduceLeDiff, Nat.reduceBEq, Int.reduceAdd, Int.reduceSub, Int.reduceLT, Int.reduceLE, Int.reduceEq, Int.reduceToNat, eq_false c3, eq_false c4, eq_false c6, eq_false c10, eq_true c40, finA] <;> try simp)
       ·rw [if_neg c40] at h
        refine AW.ifT rfl c40 ?_
        refine AW.regL [4, 5, 6] ?_
        generalize hK : AW Tryz.prog _ _ _ = K
        simp only [go_sem, ↓reduceIte, reduceCtorEq, Nat.reduceAdd, Nat.reduceSub, Nat.reduceMul, Nat.reduceEqDiff, Nat.reduceLT, Nat.reduceLeDiff, Nat.reduceBEq, Int.reduceAdd, Int.reduceSub, Int.reduceLT, Int.reduceLE, Int.reduceEq, Int.reduceToNat, eq_false c3, eq_false c4, eq_false c6, eq_false c10, eq_false c40]
        subst hK
        refine AW.ret ?_
        refine thenA_r ?_
        obtain rfl := Option.some.inj h
        (simp only [go_sem, ↓reduceIte, reduceCtorEq, Nat.reduceAdd, Nat.reduceSub, Nat.reduceMul, Nat.reduceEqDiff, Nat.reduceLT, Nat.reduceLeDiff, Nat.reduceBEq, Int.reduceAdd, Int.reduceSub, Int.reduceLT, Int.reduceLE, Int.reduceEq, Int.reduceToNat, eq_false c3, eq_false c4, eq_false c6, eq_false c10, eq_false c40, finA] <;> try simp)
end Au
end Go.Proofs.Yt

set_option linter.all false
set_option maxRecDepth 8000
set_option maxHeartbeats 1000000
namespace Go.Proofs.Yt
open Go.Gm
namespace Au
noncomputable def f180_s1 : Int × Int → Option ((Int × Int) ⊕ Int)
  | (s1_0, s1_1) => (if s1_1 < 8 then some (.inl (xorV .u32 (shrV .u32 s1_0 1) (andV .u32 3988292384 (IntKind.u32.wrap (0 - (andV .u32 s1_0 1)))), IntKind.i64.wrap (s1_1 + 1))) else some (.inr s1_0))
noncomputable def f180 (a0 : Int) (a1 : Int) : Option Int := ((loopO f180_s1 (xorV .u32 a0 (IntKind.u32.wrap a1), 0)).bind fun y8 => some y8)
theorem ok180 (a0 : Int) (a1 : Int) (r : Int) (h : f180 a0 a1 = some r) : PC Tryz.prog 180 [.val (.int .u32 a0), .val (.int .u8 a1)] (.val (.int .u32 r)) := by
 rw [f180] at h
 refine pc_of8 (N := 20) (rs := [.tmp 4]) Tryz.func180 rfl rfl rfl (Nat.le_of_ble_eq_true rfl) ?_
 refine AW.regL [0, 1] ?_
 generalize hK : AW Tryz.prog _ _ _ = K
 simp only [go_sem, ↓reduceIte, reduceCtorEq, Nat.reduceAdd, Nat.reduceSub, Nat.reduceMul, Nat.reduceEqDiff, Nat.reduceLT, Nat.reduceLeDiff, Nat.reduceBEq, Int.reduceAdd, Int.reduceSub, Int.reduceLT, Int.reduceLE, Int.reduceEq, Int.reduceToNat]
 subst hK
 refine AW.regL [0] ?_
 generalize hK : AW Tryz.prog _ _ _ = K
 simp only [go_sem, ↓reduceIte, reduceCtorEq, Nat.reduceAdd, Nat.reduceSub, Nat.reduceMul, Nat.reduceEqDiff, Nat.reduceLT, Nat.reduceLeDiff, Nat.reduceBEq, Int.reduceAdd, Int.reduceSub, Int.reduceLT, Int.reduceLE, Int.reduceEq, Int.reduceToNat]
 subst hK
 refine AW.seq ?_
 refine AW.regL [0, 9] ?_
 generalize hK : AW Tryz.prog _ _ _ = K
 simp only [go_sem, ↓reduceIte, reduceCtorEq, Nat.reduceAdd, Nat.reduceSub, Nat.reduceMul, Nat.reduceEqDiff, Nat.reduceLT, Nat.reduceLeDiff, Nat.reduceBEq, Int.reduceAdd, Int.reduceSub, Int.reduceLT, Int.reduceLE, Int.reduceEq, Int.reduceToNat]
 subst hK
 refine AW.block ?_
 obtain ⟨y8, hy8, h⟩ := Option.bind_eq_some_iff.1 h
 refine AW.loopO (fun s => ⟨(upd (upd anyF 0 (.val (.int .u32 s.1))) 9 (.val (.int .i64 s.2))), hpL [] [], 8⟩) (fun z e st' => e = Exit.exit 0 ∧ st' = ⟨(upd anyF 0 (.val (.int .u32 z))), hpL [] [], 8⟩) hy8 ?_ ?_ ?_
 ·exact Ent.canq [] RF.any.qv.qv (.nil _) (.nil _)
 ·clear h hy8
  rintro ⟨s1_0, s1_1⟩ x h
  rw [f180_s1] at h
  refine AW.regL [0, 9, 10] ?_
  generalize hK : AW Tryz.prog _ _ _ = K
  simp only [go_sem, ↓reduceIte, reduceCtorEq, Nat.reduceAdd, Nat.reduceSub, Nat.reduceMul, Nat.reduceEqDiff, Nat.reduceLT, Nat.reduceLeDiff, Nat.reduceBEq, Int.reduceAdd, Int.reduceSub, Int.reduceLT, Int.reduceLE, Int.reduceEq, Int.reduceToNat]
  subst hK
  refine AW.seq ?_
  by_cases c6 : s1_1 < 8
  ·rw [if_pos c6] at h
   refine AW.ifT rfl c6 ?_
   refine AW.skip ?_
   refine thenA_n ?_
   refine AW.seq ?_
   refine AW.block ?_
   refine AW.regionL [0, 9] ?_
   generalize hK : inBlockA _ _ Exit.normal = K
   simp only [go_sem, ↓reduceIte, reduceCtorEq, Nat.reduceAdd, Nat.reduceSub, Nat.reduceMul, Nat.reduceEqDiff, Nat.reduceLT, Nat.reduceLeDiff, Nat.reduceBEq, Int.reduceAdd, Int.reduceSub, Int.reduceLT, Int.reduceLE, Int.reduceEq, Int.reduceToNat, eq_true c6]
   subst hK
   refine block_n ?_
   refine thenA_n ?_
   refine AW.regionL [0, 9] ?_
   generalize hK : thenA _ _ Exit.normal = K
   simp only [go_sem, ↓reduceIte, reduceCtorEq, Nat.reduceAdd, Nat.reduceSub, Nat.reduceMul, Nat.reduceEqDiff, Nat.reduceLT, Nat.reduceLeDiff, Nat.reduceBEq, Int.reduceAdd, Int.reduceSub, Int.reduceLT, Int.reduceLE, Int.reduceEq, Int.reduceToNat, eq_true c6]
   subst hK
   refine thenA_n ?_
   refine ⟨_, (Option.some.inj h).symm, ?_⟩
   exact Ent.canq [] RF.any.qv.qv (.nil _) (.nil _)
  ·rw [if_neg c6] at h
   refine AW.ifF rfl c6 ?_
   refine AW.exit ?_
   refine thenA_x ?_
   refine thenA_x ?_
   refine ⟨_, (Option.some.inj h).symm, _, ?_, rfl, rfl⟩
   exact Ent.canq [] RF.any.qv (.nil _) (.nil _)
 ·intro e st' hX
  try dsimp only at h
  try dsimp only at hX
  obtain ⟨rfl, rfl⟩ := hX
  refine ⟨_, Ent.refl, ?_⟩
  refine block_x ?_
  refine thenA_n ?_
  refine AW.regL [4] ?_
  generalize hK : AW Tryz.prog _ _ _ = K
  simp only [go_sem, ↓reduceIte, reduceCtorEq, Nat.reduceAdd, Nat.reduceSub, Nat.reduceMul, Nat.reduceEqDiff, Nat.reduceLT, Nat.reduceLeDiff, Nat.reduceBEq, Int.reduceAdd, Int.reduceSub, Int.reduceLT, Int.reduceLE, Int.reduceEq, Int.reduceToNat]
  subst hK
  refine AW.ret ?_
  obtain rfl := Option.some.inj h
  (simp only [go_sem, ↓reduceIte, reduceCtorEq, Nat.reduceAdd, Nat.reduceSub, Nat.reduceMul, Nat.reduceEqDiff, Nat.reduceLT, Nat.reduceLeDiff, Nat.reduceBEq, Int.reduceAdd, Int.reduceSub, Int.reduceLT, Int.reduceLE, Int.reduceEq, Int.reduceToNat, finA] <;> try simp)
end Au
end Go.Proofs.Yt

set_option linter.all false
set_option maxRecDepth 8000
set_option maxHeartbeats 1000000
namespace Go.Proofs.Yt
open Go.Gm
namespace Au
noncomputable def f179 (a0 : Int) (a1 : Int) : Option Int := ((f180 a1 a0).bind fun x1 => some x1)
theorem ok179 (a0 : Int) (a1 : Int) (r : Int) (h : f179 a0 a1 = some r) : IC Tryz.prog 179 [some (.row 1 true [[.val (.int .u32 a1)]])] [.val (.int .u8 a0), .ptr 0 0 0] (.tup []) [some (.row 1 true [[.val (.int .u32 r)]])] [] := by
 rw [f179] at h
 refine ic_ofJ (N := 6) (rs := []) Tryz.func179 rfl rfl rfl (Nat.le_of_ble_eq_true rfl) ?_
 obtain ⟨x1, hx1, h⟩ := Option.bind_eq_some_iff.1 h
 refine AW.regionL [] ?_
 generalize hK : finJ Tryz.prog _ _ _ _ _ Exit.normal = K
 simp only [go_sem, ↓reduceIte, reduceCtorEq, Nat.reduceAdd, Nat.reduceSub, Nat.reduceMul, Nat.reduceEqDiff, Nat.reduceLT, Nat.reduceLeDiff]
 refine arC.of (ok180 a1 a0 x1 hx1) Tryz.call180 ?_
 simp only [go_sem, ↓reduceIte, reduceCtorEq, Nat.reduceAdd, Nat.reduceSub, Nat.reduceMul, Nat.reduceEqDiff, Nat.reduceLT, Nat.reduceLeDiff]
 subst hK
 refine ⟨⟨anyF, hpL [some (.row 1 true [[.val (.int .u32 x1)]])] [], 8⟩, ?_, ?_⟩
 · refine Ent.can [] _ _ _ rfl (by first | decide | simp) rfl ?_ ?_ ?_
   · exact RF.any
   · exact .ce (.nil _)
   · exact .nil _
 obtain rfl := Option.some.inj h
 exact ⟨rfl, rfl, _, rfl, by first | rfl | simp [resOf, upd_ap, bytesI_len]⟩
end Au
end Go.Proofs.Yt

set_option linter.all false
set_option maxRecDepth 8000
set_option maxHeartbeats 1000000
namespace Go.Proofs.Yt
open Go.Gm
namespace Au
noncomputable def f178_s1 (a1 : List Int) : Int × Int → Option ((Int × Int) ⊕ Int)
  | (s1_0, s1_1) => (if s1_1 < (a1.length : Int) then ((ix a1 s1_1).bind fun x14 => ((f179 x14 s1_0).bind fun x15 => some (.inl (x15, IntKind.i64.wrap (s1_1 + 1))))) else some (.inr s1_0))
noncomputable def f178 (a0 : Int) (a1 : List Int) : Option Int := ((loopO (f178_s1 a1) (xorV .u32 (allV .u32) a0, 0)).bind fun y17 => some (xorV .u32 (allV .u32) y17))
theorem ok178 (a0 : Int) (a1 : List Int) (r : Int) (h : f178 a0 a1 = some r) : PC Tryz.prog 178 [.val (.int .u32 a0), .sl (List.map enc5 a1)] (.val (.int .u32 r)) := by
 rw [f178] at h
 refine pc_of8 (N := 24) (rs := [.tmp 4]) Tryz.func178 rfl rfl rfl (Nat.le_of_ble_eq_true rfl) ?_
 refine AW.rX [0, 1] ?_
 refine AW.rX [1, 5] ?_
 refine AW.rX [1, 5, 6] ?_
 refine AW.seq ?_
 refine AW.rX [5, 6, 12, 13, 14] ?_
 refine AW.block ?_
 obtain ⟨y17, hy17, h⟩ := Option.bind_eq_some_iff.1 h
 refine AW.loopO (fun s => ⟨(upd (upd (upd (upd (upd anyF 5 (.ptr 8 0 0)) 6 (.clo (.func 179) [] [.ptr 8 0 0])) 12 (.sl (List.map enc5 a1))) 13 (.val (.int .i64 (a1.length : Int)))) 14 (.val (.int .i64 s.2))), hpL [] [some (.row 1 true [[.val (.int .u32 s.1)]])], 9⟩) (fun z e st' => e = Exit.exit 0 ∧ st' = ⟨(upd anyF 5 (.ptr 8 0 0)), hpL [] [some (.row 1 true [[.val (.int .u32 z)]])], 9⟩) hy17 ?_ ?_ ?_
 ·exact Ent.canq [32] RF.any.qp.qt.qv.qv.qv (.nil _) (.ce (.nil _))
 ·clear h hy17
  rintro ⟨s1_0, s1_1⟩ x h
  rw [f178_s1] at h
  refine AW.rX [5, 6, 12, 13, 14, 15] ?_
  refine AW.seq ?_
  by_cases c13 : s1_1 < (a1.length : Int)
  ·rw [if_pos c13] at h
   refine AW.ifT rfl c13 ?_
   refine AW.skip ?_
   refine thenA_n ?_
   refine AW.seq ?_
   refine AW.block ?_
   obtain ⟨x14, hx14, h⟩ := Option.bind_eq_some_iff.1 h
   obtain ⟨hx14a, hx14b⟩ := ix_some.1 hx14
   refine AW.regL [5, 6, 8, 12, 13, 14] ?_
   generalize hK : AW Tryz.prog _ _ _ = K
   simp only [go_sem, ↓reduceIte, reduceCtorEq, Nat.reduceAdd, Nat.reduceSub, Nat.reduceMul, Nat.reduceEqDiff, Nat.reduceLT, Nat.reduceLeDiff, eq_true c13, natOf_le hx14a, hx14b]
   subst hK
   obtain ⟨x15, hx15, h⟩ := Option.bind_eq_some_iff.1 h
   refine AW.regionL [5, 6, 12, 13, 14] ?_
   generalize hK : inBlockA _ _ Exit.normal = K
   simp only [go_sem, ↓reduceIte, reduceCtorEq, Nat.reduceAdd, Nat.reduceSub, Nat.reduceMul, Nat.reduceEqDiff, Nat.reduceLT, Nat.reduceLeDiff, eq_true c13]
   refine arC.ok (CallOk.icq (us' := _) (ok179 x14 s1_0 x15 hx15) [8] (.cons (.eq (by simp only [go_sem]) (by first | rfl | simp [upd_ap, hpL_ap, sg_ap])) (.nil _)) (by simp only [mapTL_cons, mapTL_nil, mapT_ptr, mapT_own, mapT_val, mapT_sl, mapT_agg, mapT_ip, mapT_clo, mapT_ifc, sg_ap, List.getD_cons_zero, List.getD_cons_succ]; exact (.cons (.of rfl) (.cons (.of rfl) .nil)))) Tryz.call179 ?_
   simp only [go_sem, ↓reduceIte, reduceCtorEq, Nat.reduceAdd, Nat.reduceSub, Nat.reduceMul, Nat.reduceEqDiff, Nat.reduceLT, Nat.reduceLeDiff, eq_true c13]
   subst hK
   refine block_n ?_
   refine thenA_n ?_
   refine AW.rY [5, 6, 12, 13, 14] ?_
   refine thenA_n ?_
   refine ⟨_, (Option.some.inj h).symm, ?_⟩
   exact Ent.canq [8] RF.any.qp.qt.qv.qv.qv (.nil _) (.ce (.nil _))
  ·rw [if_neg c13] at h
   refine AW.ifF rfl c13 ?_
   refine AW.exit ?_
   refine thenA_x ?_
   refine thenA_x ?_
   refine ⟨_, (Option.some.inj h).symm, _, ?_, rfl, rfl⟩
   exact Ent.canq [8] RF.any.qp (.nil _) (.ce (.nil _))
 ·intro e st' hX
  try dsimp only at h
  try dsimp only at hX
  obtain ⟨rfl, rfl⟩ := hX
  refine ⟨_, Ent.refl, ?_⟩
  refine block_x ?_
  refine thenA_n ?_
  refine AW.rX [4] ?_
  refine AW.ret ?_
  obtain rfl := Option.some.inj h
  (simp only [go_sem, ↓reduceIte, reduceCtorEq, Nat.reduceAdd, Nat.reduceSub, Nat.reduceMul, Nat.reduceEqDiff, Nat.reduceLT, Nat.reduceLeDiff, finA] <;> try simp)
end Au
end Go.Proofs.Yt

set_option linter.all false
set_option maxRecDepth 8000
set_option maxHeartbeats 1000000
namespace Go.Proofs.Yt
open Go.Gm
namespace Au
noncomputable def f175 (a0 : List Int) : Option Int := ((f178 0 a0).bind fun x1 => some x1)
theorem ok175 (a0 : List Int) (r : Int) (h : f175 a0 = some r) : PC Tryz.prog 175 [.sl (List.map enc5 a0)] (.val (.int .u32 r)) := by
 rw [f175] at h
 refine pc_of8 (N := 5) (rs := [.tmp 2]) Tryz.func175 rfl rfl rfl (Nat.le_of_ble_eq_true rfl) ?_
 refine AW.rX [0] ?_
 obtain ⟨x1, hx1, h⟩ := Option.bind_eq_some_iff.1 h
 refine AW.regL [2] ?_
 generalize hK : AW Tryz.prog _ _ _ = K
 simp only [go_sem, ↓reduceIte, reduceCtorEq, Nat.reduceAdd, Nat.reduceSub, Nat.reduceMul, Nat.reduceEqDiff, Nat.reduceLT, Nat.reduceLeDiff]
 refine arC.of (ok178 0 a0 x1 hx1) Tryz.call178 ?_
 simp only [go_sem, ↓reduceIte, reduceCtorEq, Nat.reduceAdd, Nat.reduceSub, Nat.reduceMul, Nat.reduceEqDiff, Nat.reduceLT, Nat.reduceLeDiff]
 subst hK
 refine AW.ret ?_
 obtain rfl := Option.some.inj h
 (simp only [go_sem, ↓reduceIte, reduceCtorEq, Nat.reduceAdd, Nat.reduceSub, Nat.reduceMul, Nat.reduceEqDiff, Nat.reduceLT, Nat.reduceLeDiff, finA] <;> try simp)
end Au
end Go.Proofs.Yt

set_option linter.all false
set_option maxRecDepth 8000
set_option maxHeartbeats 1000000
namespace Go.Proofs.Yt
open Go.Gm
namespace Au
noncomputable def f162_s1 (x1 : Int) : (List Int) × Int → Option (((List Int) × Int) ⊕ (List Int))
  | (s1_0, s1_1) => (if s1_1 < 4 then ((guardO (0 ≤ (IntKind.i64.wrap (8 * s1_1)))).bind fun x13 => ((appO? s1_0 [IntKind.u8.wrap (shrV .u32 x1 (IntKind.i64.wrap (8 * s1_1)).toNat)]).bind fun x14 => some (.inl (x14, IntKind.i64.wrap (s1_1 + 1))))) else some (.inr s1_0))
noncomputable def f162 (a0 : List Int) : Option (List Int) := ((f175 a0).bind fun x1 => ((f133 a0).bind fun x2 => ((loopO (f162_s1 x1) (x2, 0)).bind fun y16 => some y16)))
theorem ok162 (a0 : List Int) (r : (List Int)) (h : f162 a0 = some r) : PC Tryz.prog 162 [.sl (List.map enc5 a0)] (.fr 1 (List.map enc5 r)) := by
 rw [f162] at h
 refine pc_of8 (N := 23) (rs := [.tmp 2]) Tryz.func162 rfl rfl rfl (Nat.le_of_ble_eq_true rfl) ?_
 refine AW.rX [0] ?_
 obtain ⟨x1, hx1, h⟩ := Option.bind_eq_some_iff.1 h
 refine AW.regL [0, 3] ?_
 generalize hK : AW Tryz.prog _ _ _ = K
 simp only [go_sem, ↓reduceIte, reduceCtorEq, Nat.reduceAdd, Nat.reduceSub, Nat.reduceMul, Nat.reduceEqDiff, Nat.reduceLT, Nat.reduceLeDiff]
 refine arC.of (ok175 a0 x1 hx1) Tryz.call175 ?_
 simp only [go_sem, ↓reduceIte, reduceCtorEq, Nat.reduceAdd, Nat.reduceSub, Nat.reduceMul, Nat.reduceEqDiff, Nat.reduceLT, Nat.reduceLeDiff]
 subst hK
 obtain ⟨x2, hx2, h⟩ := Option.bind_eq_some_iff.1 h
 refine AW.regL [3, 4] ?_
 generalize hK : AW Tryz.prog _ _ _ = K
 simp only [go_sem, ↓reduceIte, reduceCtorEq, Nat.reduceAdd, Nat.reduceSub, Nat.reduceMul, Nat.reduceEqDiff, Nat.reduceLT, Nat.reduceLeDiff]
 refine arC.of (ok133 a0 x2 hx2) Tryz.call133 ?_
 simp only [go_sem, ↓reduceIte, reduceCtorEq, Nat.reduceAdd, Nat.reduceSub, Nat.reduceMul, Nat.reduceEqDiff, Nat.reduceLT, Nat.reduceLeDiff]
 subst hK
 refine AW.seq ?_
 refine AW.rX [3, 4, 10] ?_
 refine AW.block ?_
 obtain ⟨y16, hy16, h⟩ := Option.bind_eq_some_iff.1 h
 refine AW.loopO (fun s => ⟨(upd (upd (upd anyF 3 (.val (.int .u32 x1))) 4 (.own 8 0 s.1.length)) 10 (.val (.int .i64 s.2))), hpL [] [some (.row 1 true (List.map enc5 s.1))], 9⟩) (fun z e st' => e = Exit.exit 0 ∧ st' = ⟨(upd anyF 4 (.own 8 0 z.length)), hpL [] [some (.row 1 true (List.map enc5 z))], 9⟩) hy16 ?_ ?_ ?_
 ·exact Ent.canq [48] RF.any.qv.qo.qv (.nil _) (.ce (.nil _))
 ·clear h hy16
  rintro ⟨s1_0, s1_1⟩ x h
  rw [f162_s1] at h
  refine AW.rX [3, 4, 10, 11] ?_
  refine AW.seq ?_
  by_cases c12 : s1_1 < 4
  ·rw [if_pos c12] at h
   refine AW.ifT rfl c12 ?_
   refine AW.skip ?_
   refine thenA_n ?_
   refine AW.seq ?_
   refine AW.block ?_
   refine AW.rX [3, 4, 5, 10] ?_
   obtain ⟨x13, hx13, h⟩ := Option.bind_eq_some_iff.1 h
   obtain ⟨x14, hx14, h⟩ := Option.bind_eq_some_iff.1 h
   obtain ⟨hx14b, hx14e⟩ := appO?_some.1 hx14
   have hx14f : ∀ id o : Nat, appO 1 1 id ([[.val (.int .u8 (IntKind.u8.wrap (shrV .u32 x1 (IntKind.i64.wrap (8 * s1_1)).toNat)))]]) 0 s1_0.length o (some (.row 1 true (List.map enc5 s1_0))) = some ⟨.own id 0 x14.length, [(o, none), (id, some (.row 1 true (List.map enc5 x14)))]⟩ := fun id o => by
     subst hx14e; rw [appO_ok (by simp) (by simpa using hx14b) (by decide)]; first | (simp [enc5]; done) | (simp [enc5]; omega)
   refine AW.regionL [3, 4, 10] ?_
   generalize hK : inBlockA _ _ Exit.normal = K
   simp only [go_sem, ↓reduceIte, reduceCtorEq, Nat.reduceAdd, Nat.reduceSub, Nat.reduceMul, Nat.reduceEqDiff, Nat.reduceLT, Nat.reduceLeDiff, eq_true c12, eq_false (Int.not_lt.2 (guardO_some.1 hx13)), hx14f]
   subst hK
   refine block_n ?_
   refine thenA_n ?_
   refine AW.rY [3, 4, 10] ?_
   refine thenA_n ?_
   refine ⟨_, (Option.some.inj h).symm, ?_⟩
   exact Ent.canq [89] RF.any.qv.qo.qv (.nil _) (.ce (.nil _))
  ·rw [if_neg c12] at h
   refine AW.ifF rfl c12 ?_
   refine AW.exit ?_
   refine thenA_x ?_
   refine thenA_x ?_
   refine ⟨_, (Option.some.inj h).symm, _, ?_, rfl, rfl⟩
   exact Ent.canq [8] RF.any.qo (.nil _) (.ce (.nil _))
 ·intro e st' hX
  try dsimp only at h
  try dsimp only at hX
  obtain ⟨rfl, rfl⟩ := hX
  refine ⟨_, Ent.refl, ?_⟩
  refine block_x ?_
  refine thenA_n ?_
  refine AW.rX [2] ?_
  refine AW.ret ?_
  obtain rfl := Option.some.inj h
  (simp only [go_sem, ↓reduceIte, reduceCtorEq, Nat.reduceAdd, Nat.reduceSub, Nat.reduceMul, Nat.reduceEqDiff, Nat.reduceLT, Nat.reduceLeDiff, finA] <;> try simp)
end Au
end Go.Proofs.Yt

set_option linter.all false
set_option maxRecDepth 8000
set_option maxHeartbeats 1000000
namespace Go.Proofs.Yt
open Go.Gm
namespace Au
noncomputable def f161_s1 (a0 : List Int) (a1 : List Int) : Int → Option (Int ⊕ (Bool ⊕ Unit))
  | s1_0 => (if s1_0 < (a0.length : Int) then ((ix a0 s1_0).bind fun x18 => ((ix a1 s1_0).bind fun x19 => (if x18 = x19 then some (.inl (IntKind.i64.wrap (s1_0 + 1))) else some (.inr (.inl false))))) else some (.inr (.inr ())))
noncomputable def f161 (a0 : List Int) (a1 : List Int) : Option Bool := (if (a0.length : Int) = (a1.length : Int) then ((loopO (f161_s1 a0 a1) 0).bind fun y21 => match y21 with | .inl y22 => some y22 | .inr _ => some true) else some false)
theorem ok161 (a0 : List Int) (a1 : List Int) (r : Bool) (h : f161 a0 a1 = some r) : PC Tryz.prog 161 [.sl (List.map enc5 a0), .sl (List.map enc5 a1)] (.val (.bool r)) := by
 rw [f161] at h
 refine pc_of8 (N := 26) (rs := [.tmp 4]) Tryz.func161 rfl rfl rfl (Nat.le_of_ble_eq_true rfl) ?_
 refine AW.rX [0, 1] ?_
 refine AW.seq ?_
 refine AW.rX [0, 1, 10] ?_
 by_cases c2 : (a0.length : Int) = (a1.length : Int)
 ·rw [if_pos c2] at h
  refine AW.ifF rfl (fun q => q c2) ?_
  refine AW.skip ?_
  refine thenA_n ?_
  refine AW.seq ?_
  refine AW.rX [0, 1, 12, 13] ?_
  refine AW.block ?_
  obtain ⟨y21, hy21, h⟩ := Option.bind_eq_some_iff.1 h
  refine AW.loopO (fun s => ⟨(upd (upd (upd (upd anyF 0 (.sl (List.map enc5 a0))) 1 (.sl (List.map enc5 a1))) 12 (.val (.int .i64 (a0.length : Int)))) 13 (.val (.int .i64 s))), hpL [] [], 8⟩) (fun y e st' => match y with | .inl z => e = Exit.ret ∧ finA Tryz.prog [.tmp 4] (.val (.bool z)) .ret st' | .inr z => e = Exit.exit 0 ∧ st' = ⟨anyF, hpL [] [], 8⟩) hy21 ?_ ?_ ?_
  ·exact Ent.canq [] RF.any.qv.qv.qv.qv (.nil _) (.nil _)
  ·clear h hy21
   rintro s1_0 x h
   rw [f161_s1] at h
   refine AW.rX [0, 1, 12, 13, 14] ?_
   refine AW.seq ?_
   by_cases c17 : s1_0 < (a0.length : Int)
   ·rw [if_pos c17] at h
    refine AW.ifT rfl c17 ?_
    refine AW.skip ?_
    refine thenA_n ?_
    refine AW.seq ?_
    refine AW.block ?_
    refine AW.rX [0, 1, 5, 12, 13] ?_
    obtain ⟨x18, hx18, h⟩ := Option.bind_eq_some_iff.1 h
    obtain ⟨hx18a, hx18b⟩ := ix_some.1 hx18
    obtain ⟨x19, hx19, h⟩ := Option.bind_eq_some_iff.1 h
    obtain ⟨hx19a, hx19b⟩ := ix_some.1 hx19
    refine AW.regdL [0, 1, 12, 13, 24] [[], [], [0, 1], [0, 1, 2], [], [], [4, 5], [4, 5, 6], [0, 1, 2, 3, 4, 5, 6, 7]] [0, 1, 2, 3, 4, 5, 6, 7, 8] noFt (fun _ _ _ h => by simp [noFt] at h) draws (by kernel_rfl) (by kernel_rfl) ?_
    generalize hK : AW Tryz.prog _ _ _ = K
    simp only [go_sem, ↓reduceIte, reduceCtorEq, Nat.reduceAdd, Nat.reduceSub, Nat.reduceMul, Nat.reduceEqDiff, Nat.reduceLT, Nat.reduceLeDiff, eq_true c2, eq_true c17, natOf_le hx18a, hx18b, natOf_le hx19a, hx19b]
    subst hK
    by_cases c20 : x18 = x19
    ·rw [if_pos c20] at h
     refine AW.ifF rfl (fun q => q c20) ?_
     refine AW.skip ?_
     refine block_n ?_
     refine thenA_n ?_
     refine AW.rY [0, 1, 12, 13] ?_
     refine thenA_n ?_
     refine ⟨_, (Option.some.inj h).symm, ?_⟩
     exact Ent.canq [] RF.any.qv.qv.qv.qv (.nil _) (.nil _)
    ·rw [if_neg c20] at h
     refine AW.ifT rfl c20 ?_
     refine AW.rX [4] ?_
     refine AW.ret ?_
     refine block_r ?_
     refine thenA_r ?_
     refine thenA_r ?_
     refine ⟨_, (Option.some.inj h).symm, _, Ent.refl, rfl, ?_⟩
     (simp only [go_sem, ↓reduceIte, reduceCtorEq, Nat.reduceAdd, Nat.reduceSub, Nat.reduceMul, Nat.reduceEqDiff, Nat.reduceLT, Nat.reduceLeDiff, eq_true c2, eq_true c17, eq_false c20, finA] <;> try simp)
   ·rw [if_neg c17] at h
    refine AW.ifF rfl c17 ?_
    refine AW.exit ?_
    refine thenA_x ?_
    refine thenA_x ?_
    refine ⟨_, (Option.some.inj h).symm, _, ?_, rfl, rfl⟩
    exact Ent.canq [] RF.any (.nil _) (.nil _)
  ·intro e st' hX
   rcases y21 with y22 | _ <;> dsimp only at h hX
   ·obtain ⟨rfl, hf⟩ := hX
    refine ⟨_, Ent.refl, ?_⟩
    refine block_r ?_
    refine thenA_r ?_
    obtain rfl := Option.some.inj h
    exact hf
   ·obtain ⟨rfl, rfl⟩ := hX
    refine ⟨_, Ent.refl, ?_⟩
    refine block_x ?_
    refine thenA_n ?_
    refine AW.rX [4] ?_
    refine AW.ret ?_
    obtain rfl := Option.some.inj h
    (simp only [go_sem, ↓reduceIte, reduceCtorEq, Nat.reduceAdd, Nat.reduceSub, Nat.reduceMul, Nat.reduceEqDiff, Nat.reduceLT, Nat.reduceLeDiff, eq_true c2, finA] <;> try simp)
 ·rw [if_neg c2] at h
  refine AW.ifT rfl c2 ?_
  refine AW.rX [4] ?_
  refine AW.ret ?_
  refine thenA_r ?_
  obtain rfl := Option.some.inj h
  (simp only [go_sem, ↓reduceIte, reduceCtorEq, Nat.reduceAdd, Nat.reduceSub, Nat.reduceMul, Nat.reduceEqDiff, Nat.reduceLT, Nat.reduceLeDiff, eq_false c2, finA] <;> try simp)
end Au
end Go.Proofs.Yt

set_option linter.all false
set_option maxRecDepth 8000
set_option maxHeartbeats 1000000
namespace Go.Proofs.Yt
open Go.Gm
namespace Au
noncomputable def f139 (a0 : List Int) : Option ((List Int) × Int) := (if (a0.length : Int) < 4 then some ([], 2) else ((cutO? a0 0 (IntKind.i64.wrap ((a0.length : Int) - 4))).bind fun x3 => ((f133 x3).bind fun x4 => ((f162 x4).bind fun x5 => ((f161 x5 a0).bind fun x6 => (if x6 = true then some (x4, 0) else some ([], 4)))))))
theorem ok139 (a0 : List Int) (r : (List Int) × Int) (h : f139 a0 = some r) : PC Tryz.prog 139 [.sl (List.map enc5 a0)] (.tup [.sl (List.map enc5 r.1), .val (.int .i64 r.2)]) := by
 rw [f139] at h
 refine pc_of8 (N := 20) (rs := [.tmp 2, .tmp 3]) Tryz.func139 rfl rfl rfl (Nat.le_of_ble_eq_true rfl) ?_
 refine AW.rX [0] ?_
 refine AW.seq ?_
 refine AW.rX [0, 7] ?_
 by_cases c2 : (a0.length : Int) < 4
 ·rw [if_pos c2] at h
  refine AW.ifT rfl c2 ?_
  refine AW.rX [2, 3] ?_
  refine AW.ent (Ent.w (FrW.put1 (d := 2) Weak.nil)) ?_
  refine AW.ret ?_
  refine thenA_r ?_
  obtain rfl := Option.some.inj h
  (simp only [go_sem, ↓reduceIte, reduceCtorEq, Nat.reduceAdd, Nat.reduceSub, Nat.reduceMul, Nat.reduceEqDiff, Nat.reduceLT, Nat.reduceLeDiff, eq_true c2, finA] <;> try simp)
 ·rw [if_neg c2] at h
  refine AW.ifF rfl c2 ?_
  refine AW.skip ?_
  refine thenA_n ?_
  obtain ⟨x3, hx3, h⟩ := Option.bind_eq_some_iff.1 h
  obtain ⟨x4, hx4, h⟩ := Option.bind_eq_some_iff.1 h
  refine AW.regL [0, 4] ?_
  generalize hK : AW Tryz.prog _ _ _ = K
  simp only [go_sem, ↓reduceIte, reduceCtorEq, Nat.reduceAdd, Nat.reduceSub, Nat.reduceMul, Nat.reduceEqDiff, Nat.reduceLT, Nat.reduceLeDiff, eq_false c2, cut_ns el23 sz5 (ml_enc5 _) hx3]
  refine arC.of (ok133 x3 x4 hx4) Tryz.call133 ?_
  simp only [go_sem, ↓reduceIte, reduceCtorEq, Nat.reduceAdd, Nat.reduceSub, Nat.reduceMul, Nat.reduceEqDiff, Nat.reduceLT, Nat.reduceLeDiff, eq_false c2, cut_ns el23 sz5 (ml_enc5 _) hx3]
  subst hK
  refine AW.seq ?_
  obtain ⟨x5, hx5, h⟩ := Option.bind_eq_some_iff.1 h
  obtain ⟨x6, hx6, h⟩ := Option.bind_eq_some_iff.1 h
  refine AW.regL [4, 18] ?_
  generalize hK : AW Tryz.prog _ _ _ = K
  simp only [go_sem, ↓reduceIte, reduceCtorEq, Nat.reduceAdd, Nat.reduceSub, Nat.reduceMul, Nat.reduceEqDiff, Nat.reduceLT, Nat.reduceLeDiff, eq_false c2]
  refine arC.of (ok162 x4 x5 hx5) Tryz.call162 ?_
  simp only [go_sem, ↓reduceIte, reduceCtorEq, Nat.reduceAdd, Nat.reduceSub, Nat.reduceMul, Nat.reduceEqDiff, Nat.reduceLT, Nat.reduceLeDiff, eq_false c2]
  refine arC.of (ok161 x5 a0 x6 hx6) Tryz.call161 ?_
  simp only [go_sem, ↓reduceIte, reduceCtorEq, Nat.reduceAdd, Nat.reduceSub, Nat.reduceMul, Nat.reduceEqDiff, Nat.reduceLT, Nat.reduceLeDiff, eq_false c2]
  subst hK
  by_cases c7 : x6 = true
  ·rw [if_pos c7] at h
   refine AW.ifBF rfl (by first | (rw [c7]; rfl) | simp_all) ?_
   refine AW.skip ?_
   refine thenA_n ?_
   refine AW.regL [2, 3] ?_
   generalize hK : AW Tryz.prog _ _ _ = K
   simp only [go_sem, ↓reduceIte, reduceCtorEq, Nat.reduceAdd, Nat.reduceSub, Nat.reduceMul, Nat.reduceEqDiff, Nat.reduceLT, Nat.reduceLeDiff, eq_false c2, c7]
   subst hK
   refine AW.ent (Ent.still 2 rfl (own_sl (sz := 1) (m := false) rfl (by first | rfl | (simp [bytesI_len]; done) | (simp [bytesI_len]; omega)) (by simp only [go_sem]))) ?_
   refine AW.ret ?_
   obtain rfl := Option.some.inj h
   (simp only [go_sem, ↓reduceIte, reduceCtorEq, Nat.reduceAdd, Nat.reduceSub, Nat.reduceMul, Nat.reduceEqDiff, Nat.reduceLT, Nat.reduceLeDiff, eq_false c2, c7, finA] <;> try simp)
  ·rw [if_neg c7] at h
   rw [Bool.not_eq_true] at c7
   refine AW.ifBT rfl (by first | (rw [c7]; rfl) | simp_all) ?_
   refine AW.regL [2, 3] ?_
   generalize hK : AW Tryz.prog _ _ _ = K
   simp only [go_sem, ↓reduceIte, reduceCtorEq, Nat.reduceAdd, Nat.reduceSub, Nat.reduceMul, Nat.reduceEqDiff, Nat.reduceLT, Nat.reduceLeDiff, eq_false c2, c7]
   subst hK
   refine AW.ent (Ent.w (FrW.put1 (d := 2) Weak.nil)) ?_
   refine AW.ret ?_
   refine thenA_r ?_
   obtain rfl := Option.some.inj h
   (simp only [go_sem, ↓reduceIte, reduceCtorEq, Nat.reduceAdd, Nat.reduceSub, Nat.reduceMul, Nat.reduceEqDiff, Nat.reduceLT, Nat.reduceLeDiff, eq_false c2, c7, finA] <;> try simp)
end Au
end Go.Proofs.Yt

set_option linter.all false
set_option maxRecDepth 8000
set_option maxHeartbeats 1000000
namespace Go.Proofs.Yt
open Go.Gm
namespace Au
noncomputable def f119 (a0 : List Int) (a1 : Int) : Option ((List Int) × Int × Int) := ((f122 a0 a1).bind fun x1 => (if x1.2.2 = 0 then (if 1048576 < x1.1 then some ([], 0, 5) else (if (IntKind.i64.wrap ((a0.length : Int) - x1.2.1)) < (IntKind.i64.wrap ((IntKind.i64.wrap x1.1) + 4)) then some ([], 0, 2) else ((cutO? a0 a1 (IntKind.i64.wrap ((IntKind.i64.wrap (x1.2.1 + (IntKind.i64.wrap x1.1))) + 4))).bind fun x8 => ((f139 x8).bind fun x9 => (if x9.2 = 0 then ((cutO? a0 x1.2.1 (IntKind.i64.wrap ((IntKind.i64.wrap ((IntKind.i64.wrap (x1.2.1 + (IntKind.i64.wrap x1.1))) + 4)) - 4))).bind fun x11 => ((f133 x11).bind fun x12 => some (x12, IntKind.i64.wrap ((IntKind.i64.wrap (x1.2.1 + (IntKind.i64.wrap x1.1))) + 4), 0))) else some ([], 0, x9.2)))))) else some ([], 0, x1.2.2)))
theorem ok119 (a0 : List Int) (a1 : Int) (r : (List Int) × Int × Int) (h : f119 a0 a1 = some r) : PC Tryz.prog 119 [.sl (List.map enc5 a0), .val (.int .i64 a1)] (.tup [.fr 1 (List.map enc5 r.1), .val (.int .i64 r.2.1), .val (.int .i64 r.2.2)]) := by
 rw [f119] at h
 refine pc_of8 (N := 57) (rs := [.tmp 4, .tmp 5, .tmp 6]) Tryz.func119 rfl rfl rfl (Nat.le_of_ble_eq_true rfl) ?_
 refine AW.rX [0, 1] ?_
 obtain ⟨x1, hx1, h⟩ := Option.bind_eq_some_iff.1 h
 refine AW.regL [0, 1, 6, 7, 8] ?_
 generalize hK : AW Tryz.prog _ _ _ = K
 simp only [go_sem, ↓reduceIte, reduceCtorEq, Nat.reduceAdd, Nat.reduceSub, Nat.reduceMul, Nat.reduceEqDiff, Nat.reduceLT, Nat.reduceLeDiff]
 refine arC.of (ok122 a0 a1 x1 hx1) Tryz.call122 ?_
 simp only [go_sem, ↓reduceIte, reduceCtorEq, Nat.reduceAdd, Nat.reduceSub, Nat.reduceMul, Nat.reduceEqDiff, Nat.reduceLT, Nat.reduceLeDiff]
 subst hK
 refine AW.seq ?_
 refine AW.block ?_
 refine AW.rX [0, 1, 6, 7, 8, 18] ?_
 by_cases c5 : x1.2.2 = 0
 ·rw [if_pos c5] at h
  refine AW.ifF rfl (fun q => q c5) ?_
  refine AW.rX [0, 1, 7, 8, 22] ?_
  by_cases c6 : 1048576 < x1.1
  ·rw [if_pos c6] at h
   refine AW.ifT rfl c6 ?_
   refine AW.rX [4, 5, 6] ?_
   refine AW.ent (Ent.nilOwn 4 1 (by decide) rfl) ?_
   refine AW.ret ?_
   refine block_r ?_
   refine thenA_r ?_
   obtain rfl := Option.some.inj h
   (simp only [go_sem, ↓reduceIte, reduceCtorEq, Nat.reduceAdd, Nat.reduceSub, Nat.reduceMul, Nat.reduceEqDiff, Nat.reduceLT, Nat.reduceLeDiff, eq_true c5, eq_true c6, finA] <;> try simp)
  ·rw [if_neg c6] at h
   refine AW.ifF rfl c6 ?_
   refine AW.rX [0, 1, 7, 8, 25] ?_
   by_cases c7 : (IntKind.i64.wrap ((a0.length : Int) - x1.2.1)) < (IntKind.i64.wrap ((IntKind.i64.wrap x1.1) + 4))
   ·rw [if_pos c7] at h
    refine AW.ifT rfl c7 ?_
    refine AW.rX [4, 5, 6] ?_
    refine AW.ent (Ent.nilOwn 4 1 (by decide) rfl) ?_
    refine AW.ret ?_
    refine block_r ?_
    refine thenA_r ?_
    obtain rfl := Option.some.inj h
    (simp only [go_sem, ↓reduceIte, reduceCtorEq, Nat.reduceAdd, Nat.reduceSub, Nat.reduceMul, Nat.reduceEqDiff, Nat.reduceLT, Nat.reduceLeDiff, eq_true c5, eq_false c6, eq_true c7, finA] <;> try simp)
   ·rw [if_neg c7] at h
    refine AW.ifF rfl c7 ?_
    refine AW.skip ?_
    refine block_n ?_
    refine thenA_n ?_
    refine AW.rX [0, 1, 5, 8] ?_
    refine AW.seq ?_
    obtain ⟨x8, hx8, h⟩ := Option.bind_eq_some_iff.1 h
    obtain ⟨x9, hx9, h⟩ := Option.bind_eq_some_iff.1 h
    refine AW.regL [0, 5, 8, 10] ?_
    generalize hK : AW Tryz.prog _ _ _ = K
    simp only [go_sem, ↓reduceIte, reduceCtorEq, Nat.reduceAdd, Nat.reduceSub, Nat.reduceMul, Nat.reduceEqDiff, Nat.reduceLT, Nat.reduceLeDiff, eq_true c5, eq_false c6, eq_false c7, cut_ss el23 sz5 (ml_enc5 _) hx8]
    refine arC.of (ok139 x8 x9 hx9) Tryz.call139 ?_
    simp only [go_sem, ↓reduceIte, reduceCtorEq, Nat.reduceAdd, Nat.reduceSub, Nat.reduceMul, Nat.reduceEqDiff, Nat.reduceLT, Nat.reduceLeDiff, eq_true c5, eq_false c6, eq_false c7, cut_ss el23 sz5 (ml_enc5 _) hx8]
    subst hK
    refine AW.rX [0, 5, 8, 10, 48] ?_
    by_cases c10 : x9.2 = 0
    ·rw [if_pos c10] at h
     refine AW.ifF rfl (fun q => q c10) ?_
     refine AW.skip ?_
     refine thenA_n ?_
     obtain ⟨x11, hx11, h⟩ := Option.bind_eq_some_iff.1 h
     obtain ⟨x12, hx12, h⟩ := Option.bind_eq_some_iff.1 h
     refine AW.regL [4, 5, 6] ?_
     generalize hK : AW Tryz.prog _ _ _ = K
     simp only [go_sem, ↓reduceIte, reduceCtorEq, Nat.reduceAdd, Nat.reduceSub, Nat.reduceMul, Nat.reduceEqDiff, Nat.reduceLT, Nat.reduceLeDiff, eq_true c5, eq_false c6, eq_false c7, eq_true c10, cut_ss el23 sz5 (ml_enc5 _) hx11]
     refine arC.of (ok133 x11 x12 hx12) Tryz.call133 ?_
     simp only [go_sem, ↓reduceIte, reduceCtorEq, Nat.reduceAdd, Nat.reduceSub, Nat.reduceMul, Nat.reduceEqDiff, Nat.reduceLT, Nat.reduceLeDiff, eq_true c5, eq_false c6, eq_false c7, eq_true c10, cut_ss el23 sz5 (ml_enc5 _) hx11]
     subst hK
     refine AW.ret ?_
     obtain rfl := Option.some.inj h
     (simp only [go_sem, ↓reduceIte, reduceCtorEq, Nat.reduceAdd, Nat.reduceSub, Nat.reduceMul, Nat.reduceEqDiff, Nat.reduceLT, Nat.reduceLeDiff, eq_true c5, eq_false c6, eq_false c7, eq_true c10, finA] <;> try simp)
    ·rw [if_neg c10] at h
     refine AW.ifT rfl c10 ?_
     refine AW.rX [4, 5, 6] ?_
     refine AW.ent (Ent.nilOwn 4 1 (by decide) rfl) ?_
     refine AW.ret ?_
     refine thenA_r ?_
     obtain rfl := Option.some.inj h
     (simp only [go_sem, ↓reduceIte, reduceCtorEq, Nat.reduceAdd, Nat.reduceSub, Nat.reduceMul, Nat.reduceEqDiff, Nat.reduceLT, Nat.reduceLeDiff, eq_true c5, eq_false c6, eq_false c7, eq_false c10, finA] <;> try simp)
 ·rw [if_neg c5] at h
  refine AW.ifT rfl c5 ?_
  refine AW.rX [4, 5, 6] ?_
  refine AW.ent (Ent.nilOwn 4 1 (by decide) rfl) ?_
  refine AW.ret ?_
  refine block_r ?_
  refine thenA_r ?_
  obtain rfl := Option.some.inj h
  (simp only [go_sem, ↓reduceIte, reduceCtorEq, Nat.reduceAdd, Nat.reduceSub, Nat.reduceMul, Nat.reduceEqDiff, Nat.reduceLT, Nat.reduceLeDiff, eq_false c5, finA] <;> try simp)
end Au
end Go.Proofs.Yt

set_option linter.all false
set_option maxRecDepth 8000
set_option maxHeartbeats 1000000
namespace Go.Proofs.Yt
open Go.Gm
namespace Au
noncomputable def f145 (a0 : List Int) (a1 : Int) (a2 : Int) : Option (ByteArray × Int × Int) := ((f122 a0 a1).bind fun x1 => (if x1.2.2 = 0 then (if a2 < 0 then some (⟨#[]⟩, 0, 5) else (if (IntKind.u64.wrap a2) < x1.1 then some (⟨#[]⟩, 0, 5) else (if (IntKind.u64.wrap (IntKind.i64.wrap ((a0.length : Int) - x1.2.1))) < x1.1 then some (⟨#[]⟩, 0, 2) else ((cutO? a0 x1.2.1 (IntKind.i64.wrap (x1.2.1 + (IntKind.i64.wrap x1.1)))).bind fun x10 => some (strOfNums x10, IntKind.i64.wrap (x1.2.1 + (IntKind.i64.wrap x1.1)), 0))))) else some (⟨#[]⟩, 0, x1.2.2)))
theorem ok145 (a0 : List Int) (a1 : Int) (a2 : Int) (r : ByteArray × Int × Int) (h : f145 a0 a1 a2 = some r) : PC Tryz.prog 145 [.sl (List.map enc5 a0), .val (.int .i64 a1), .val (.int .i64 a2)] (.tup [.val (.string r.1), .val (.int .i64 r.2.1), .val (.int .i64 r.2.2)]) := by
 rw [f145] at h
 refine pc_of8 (N := 50) (rs := [.tmp 6, .tmp 7, .tmp 8]) Tryz.func145 rfl rfl rfl (Nat.le_of_ble_eq_true rfl) ?_
 refine AW.rX [0, 1, 2] ?_
 obtain ⟨x1, hx1, h⟩ := Option.bind_eq_some_iff.1 h
 refine AW.regL [0, 2, 7, 8, 9] ?_
 generalize hK : AW Tryz.prog _ _ _ = K
 simp only [go_sem, ↓reduceIte, reduceCtorEq, Nat.reduceAdd, Nat.reduceSub, Nat.reduceMul, Nat.reduceEqDiff, Nat.reduceLT, Nat.reduceLeDiff]
 refine arC.of (ok122 a0 a1 x1 hx1) Tryz.call122 ?_
 simp only [go_sem, ↓reduceIte, reduceCtorEq, Nat.reduceAdd, Nat.reduceSub, Nat.reduceMul, Nat.reduceEqDiff, Nat.reduceLT, Nat.reduceLeDiff]
 subst hK
 refine AW.seq ?_
 refine AW.block ?_
 refine AW.regL [0, 2, 7, 8, 9, 17] ?_
 generalize hK : AW Tryz.prog _ _ _ = K
 simp only [go_sem, ↓reduceIte, reduceCtorEq, Nat.reduceAdd, Nat.reduceSub, Nat.reduceMul, Nat.reduceEqDiff, Nat.reduceLT, Nat.reduceLeDiff]
 subst hK
 by_cases c6 : x1.2.2 = 0
 ·rw [if_pos c6] at h
  refine AW.ifF rfl (fun q => q c6) ?_
  by_cases c7 : a2 < 0
  ·rw [if_pos c7] at h
   refine AW.regL [0, 7, 9, 21] ?_
   generalize hK : AW Tryz.prog _ _ _ = K
   simp only [go_sem, ↓reduceIte, reduceCtorEq, Nat.reduceAdd, Nat.reduceSub, Nat.reduceMul, Nat.reduceEqDiff, Nat.reduceLT, Nat.reduceLeDiff, eq_true c6, eq_true c7]
   subst hK
   refine AW.ifBT rfl rfl ?_
   refine AW.regL [6, 7, 8] ?_
   generalize hK : AW Tryz.prog _ _ _ = K
   simp only [go_sem, ↓reduceIte, reduceCtorEq, Nat.reduceAdd, Nat.reduceSub, Nat.reduceMul, Nat.reduceEqDiff, Nat.reduceLT, Nat.reduceLeDiff, eq_true c6, eq_true c7]
   subst hK
   refine AW.ret ?_
   refine block_r ?_
   refine thenA_r ?_
   obtain rfl := Option.some.inj h
   (simp only [go_sem, ↓reduceIte, reduceCtorEq, Nat.reduceAdd, Nat.reduceSub, Nat.reduceMul, Nat.reduceEqDiff, Nat.reduceLT, Nat.reduceLeDiff, eq_true c6, eq_true c7, finA] <;> try simp)
  ·rw [if_neg c7] at h
   refine AW.regL [0, 7, 9, 21] ?_
   generalize hK : AW Tryz.prog _ _ _ = K
   simp only [go_sem, ↓reduceIte, reduceCtorEq, Nat.reduceAdd, Nat.reduceSub, Nat.reduceMul, Nat.reduceEqDiff, Nat.reduceLT, Nat.reduceLeDiff, eq_true c6, eq_false c7]
   subst hK
   by_cases c8 : (IntKind.u64.wrap a2) < x1.1
   ·rw [if_pos c8] at h
    refine AW.ifT rfl c8 ?_
    refine AW.rX [6, 7, 8] ?_
    refine AW.ret ?_
    refine block_r ?_
    refine thenA_r ?_
    obtain rfl := Option.some.inj h
    (simp only [go_sem, ↓reduceIte, reduceCtorEq, Nat.reduceAdd, Nat.reduceSub, Nat.reduceMul, Nat.reduceEqDiff, Nat.reduceLT, Nat.reduceLeDiff, eq_true c6, eq_false c7, eq_true c8, finA] <;> try simp)
   ·rw [if_neg c8] at h
    refine AW.ifF rfl c8 ?_
    refine AW.rX [0, 7, 9, 30] ?_
    by_cases c9 : (IntKind.u64.wrap (IntKind.i64.wrap ((a0.length : Int) - x1.2.1))) < x1.1
    ·rw [if_pos c9] at h
     refine AW.ifT rfl c9 ?_
     refine AW.rX [6, 7, 8] ?_
     refine AW.ret ?_
     refine block_r ?_
     refine thenA_r ?_
     obtain rfl := Option.some.inj h
     (simp only [go_sem, ↓reduceIte, reduceCtorEq, Nat.reduceAdd, Nat.reduceSub, Nat.reduceMul, Nat.reduceEqDiff, Nat.reduceLT, Nat.reduceLeDiff, eq_true c6, eq_false c7, eq_false c8, eq_true c9, finA] <;> try simp)
    ·rw [if_neg c9] at h
     refine AW.ifF rfl c9 ?_
     refine AW.skip ?_
     refine block_n ?_
     refine thenA_n ?_
     obtain ⟨x10, hx10, h⟩ := Option.bind_eq_some_iff.1 h
     refine AW.regL [6, 7, 8] ?_
     generalize hK : AW Tryz.prog _ _ _ = K
     simp only [go_sem, ↓reduceIte, reduceCtorEq, Nat.reduceAdd, Nat.reduceSub, Nat.reduceMul, Nat.reduceEqDiff, Nat.reduceLT, Nat.reduceLeDiff, eq_true c6, eq_false c7, eq_false c8, eq_false c9, cut_ss el23 sz5 (ml_enc5 _) hx10, byteNums_map (enc := enc5) (fun _ => rfl)]
     subst hK
     refine AW.ret ?_
     obtain rfl := Option.some.inj h
     (simp only [go_sem, ↓reduceIte, reduceCtorEq, Nat.reduceAdd, Nat.reduceSub, Nat.reduceMul, Nat.reduceEqDiff, Nat.reduceLT, Nat.reduceLeDiff, eq_true c6, eq_false c7, eq_false c8, eq_false c9, finA] <;> try simp)
 ·rw [if_neg c6] at h
  refine AW.ifT rfl c6 ?_
  refine AW.rX [6, 7, 8] ?_
  refine AW.ret ?_
  refine block_r ?_
  refine thenA_r ?_
  obtain rfl := Option.some.inj h
  (simp only [go_sem, ↓reduceIte, reduceCtorEq, Nat.reduceAdd, Nat.reduceSub, Nat.reduceMul, Nat.reduceEqDiff, Nat.reduceLT, Nat.reduceLeDiff, eq_false c6, finA] <;> try simp)
end Au
end Go.Proofs.Yt

set_option linter.all false
set_option maxRecDepth 8000
set_option maxHeartbeats 1000000
namespace Go.Proofs.Yt
open Go.Gm
namespace Au
noncomputable def f141 (a0 : List ByteArray) : Option Pair := ((a0[0]?).bind fun x1 => ((a0[1]?).bind fun x2 => some ⟨x1, x2⟩))
theorem ok141 (a0 : List ByteArray) (r : Pair) (h : f141 a0 = some r) : PC Tryz.prog 141 [.sl (List.map enc9 a0)] (.agg (encPair r)) := by
 rw [f141] at h
 refine pc_of8 (N := 10) (rs := [.cell 2 134]) Tryz.func141 rfl rfl rfl (Nat.le_of_ble_eq_true rfl) ?_
 refine AW.rX [0, 2] ?_
 obtain ⟨x1, hx1, h⟩ := Option.bind_eq_some_iff.1 h
 obtain ⟨x2, hx2, h⟩ := Option.bind_eq_some_iff.1 h
 refine AW.regdL [2] [[], [0], [0, 1], [], [3], [3, 4], [0, 1, 2, 3, 4, 5], [0, 1, 2, 3, 4, 5, 6]] [0, 1, 2, 3, 4, 5, 6, 7] noFt (fun _ _ _ h => by simp [noFt] at h) draws (by kernel_rfl) (by kernel_rfl) ?_
 generalize hK : AW Tryz.prog _ _ _ = K
 simp only [go_sem, ↓reduceIte, reduceCtorEq, Nat.reduceAdd, Nat.reduceSub, Nat.reduceMul, Nat.reduceEqDiff, Nat.reduceLT, Nat.reduceLeDiff, hx1, hx2]
 subst hK
 refine AW.ret ?_
 obtain rfl := Option.some.inj h
 (simp only [go_sem, ↓reduceIte, reduceCtorEq, Nat.reduceAdd, Nat.reduceSub, Nat.reduceMul, Nat.reduceEqDiff, Nat.reduceLT, Nat.reduceLeDiff, finA] <;> try simp)
end Au
end Go.Proofs.Yt

set_option linter.all false
set_option maxRecDepth 8000
set_option maxHeartbeats 1000000
namespace Go.Proofs.Yt
open Go.Gm
namespace Au
noncomputable def f140_141_s4 (a0 : List Int) (a2 : Int) : Int × (List ByteArray) × Int → Option ((Int × (List ByteArray) × Int) ⊕ (((List Pair) × Int × Int) ⊕ (Int × (List ByteArray))))
  | (s4_0, s4_1, s4_2) => (if s4_2 < a2 then ((f145 a0 s4_0 65536).bind fun x62 => (if x62.2.2 = 0 then ((appO? s4_1 [x62.1]).bind fun x64 => some (.inl (x62.2.1, x64, IntKind.i64.wrap (s4_2 + 1)))) else some (.inr (.inl ([], 0, x62.2.2))))) else some (.inr (.inr (s4_0, s4_1))))
noncomputable def f140_141_s1 (a0 : List Int) (a2 : Int) (x1 : Int × Int × Int) : Int × (List Pair) × Int → Option ((Int × (List Pair) × Int) ⊕ (((List Pair) × Int × Int) ⊕ (Int × (List Pair))))
  | (s1_0, s1_1, s1_2) => (if s1_2 < x1.1 then ((loopO (f140_141_s4 a0 a2) (s1_0, [], 0)).bind fun y65 => match y65 with | .inl y66 => some (.inr (.inl y66)) | .inr (y67, y68) => ((f141 y68).bind fun x69 => ((appO? s1_1 [x69]).bind fun x70 => some (.inl (y67, x70, IntKind.u64.wrap (s1_2 + 1)))))) else some (.inr (.inr (s1_0, s1_1))))
noncomputable def f140_141_j1 (a0 : List Int) (a2 : Int) (x1 : Int × Int × Int) : Int → Option ((List Pair) × Int × Int)
  | j1_0 => (if j1_0 = 0 then ((loopO (f140_141_s1 a0 a2 x1) (x1.2.1, [], 0)).bind fun y71 => match y71 with | .inl y72 => some y72 | .inr (y73, y74) => some (y74, y73, 0)) else some ([], 0, j1_0))
noncomputable def f140_141 (a0 : List Int) (a1 : Int) (a2 : Int) : Option ((List Pair) × Int × Int) := ((f122 a0 a1).bind fun x1 => (if x1.2.2 = 0 then (if 65536 < x1.1 then f140_141_j1 a0 a2 x1 9 else f140_141_j1 a0 a2 x1 x1.2.2) else f140_141_j1 a0 a2 x1 x1.2.2))
theorem ok140_141 (a0 : List Int) (a1 : Int) (a2 : Int) (r : (List Pair) × Int × Int) (h : f140_141 a0 a1 a2 = some r) : PC Tryz.prog 140 [.sl (List.map enc5 a0), .val (.int .i64 a1), .val (.int .i64 a2), .clo (.func 141) [] []] (.tup [.fr 2 (List.map encPair r.1), .val (.int .i64 r.2.1), .val (.int .i64 r.2.2)]) := by
 rw [f140_141] at h
 refine pc_of8 (N := 63) (rs := [.tmp 8, .tmp 9, .tmp 10]) Tryz.func140 rfl rfl rfl (Nat.le_of_ble_eq_true rfl) ?_
 refine AW.regL [0, 1, 2, 3, 8] ?_
 generalize hK : AW Tryz.prog _ _ _ = K
 simp only [go_sem, ↓reduceIte, reduceCtorEq, Nat.reduceAdd, Nat.reduceSub, Nat.reduceMul, Nat.reduceEqDiff, Nat.reduceLT, Nat.reduceLeDiff]
 subst hK
 obtain ⟨x1, hx1, h⟩ := Option.bind_eq_some_iff.1 h
 refine AW.regL [0, 1, 2, 3, 8, 10, 11] ?_
 generalize hK : AW Tryz.prog _ _ _ = K
 simp only [go_sem, ↓reduceIte, reduceCtorEq, Nat.reduceAdd, Nat.reduceSub, Nat.reduceMul, Nat.reduceEqDiff, Nat.reduceLT, Nat.reduceLeDiff]
 refine arC.of (ok122 a0 a1 x1 hx1) Tryz.call122 ?_
 simp only [go_sem, ↓reduceIte, reduceCtorEq, Nat.reduceAdd, Nat.reduceSub, Nat.reduceMul, Nat.reduceEqDiff, Nat.reduceLT, Nat.reduceLeDiff]
 subst hK
 refine AW.join (fun s => ⟨(upd (upd (upd (upd (upd (upd (upd anyF 0 (.sl (List.map enc5 a0))) 1 (.val (.int .i64 x1.2.1))) 2 (.val (.int .i64 a2))) 3 (.clo (.func 141) [] [])) 8 (.val (.slice none 0 0))) 10 (.val (.int .i64 s))) 11 (.val (.int .u64 x1.1))), hpL [] [], 8⟩) (fun s => f140_141_j1 a0 a2 x1 s = some r) ?_ ?_
 ·by_cases c75 : x1.2.2 = 0
  ·rw [if_pos c75] at h
   refine AW.regL [0, 1, 2, 3, 8, 10, 11, 28] ?_
   generalize hK : AW Tryz.prog _ _ _ = K
   simp only [go_sem, ↓reduceIte, reduceCtorEq, Nat.reduceAdd, Nat.reduceSub, Nat.reduceMul, Nat.reduceEqDiff, Nat.reduceLT, Nat.reduceLeDiff, eq_true c75]
   subst hK
   by_cases c76 : 65536 < x1.1
   ·rw [if_pos c76] at h
    refine AW.ifT rfl c76 ?_
    refine AW.regionL [0, 1, 2, 3, 8, 10, 11] ?_
    generalize hK : thenA _ _ Exit.normal = K
    simp only [go_sem, ↓reduceIte, reduceCtorEq, Nat.reduceAdd, Nat.reduceSub, Nat.reduceMul, Nat.reduceEqDiff, Nat.reduceLT, Nat.reduceLeDiff, eq_true c75, eq_true c76]
    subst hK
    refine thenA_n ?_
    refine ⟨_, h, ?_⟩
    exact Ent.canq [] RF.any.qv.qv.qv.qt.qv.qv.qv (.nil _) (.nil _)
   ·rw [if_neg c76] at h
    refine AW.ifF rfl c76 ?_
    refine AW.skip ?_
    refine thenA_n ?_
    refine ⟨_, h, ?_⟩
    exact Ent.canq [] RF.any.qv.qv.qv.qt.qv.qv.qv (.nil _) (.nil _)
  ·rw [if_neg c75] at h
   refine AW.regL [0, 1, 2, 3, 8, 10, 11, 28] ?_
   generalize hK : AW Tryz.prog _ _ _ = K
   simp only [go_sem, ↓reduceIte, reduceCtorEq, Nat.reduceAdd, Nat.reduceSub, Nat.reduceMul, Nat.reduceEqDiff, Nat.reduceLT, Nat.reduceLeDiff, eq_false c75]
   subst hK
   refine AW.ifBF rfl rfl ?_
   refine AW.skip ?_
   refine thenA_n ?_
   refine ⟨_, h, ?_⟩
   exact Ent.canq [] RF.any.qv.qv.qv.qt.qv.qv.qv (.nil _) (.nil _)
 ·clear h
  rintro j1_0 h
  rw [f140_141_j1] at h
  refine AW.seq ?_
  refine AW.rX [0, 1, 2, 3, 8, 10, 11, 30] ?_
  by_cases c5 : j1_0 = 0
  ·rw [if_pos c5] at h
   refine AW.ifF rfl (fun q => q c5) ?_
   refine AW.skip ?_
   refine thenA_n ?_
   refine AW.seq ?_
   refine AW.rX [0, 1, 2, 3, 8, 32, 33] ?_
   refine AW.block ?_
   obtain ⟨y71, hy71, h⟩ := Option.bind_eq_some_iff.1 h
   refine AW.loopO (fun s => ⟨(upd (upd (upd (upd (upd (upd (upd anyF 0 (.sl (List.map enc5 a0))) 1 (.val (.int .i64 s.1))) 2 (.val (.int .i64 a2))) 3 (.clo (.func 141) [] [])) 8 (.own 8 0 s.2.1.length)) 32 (.val (.int .u64 x1.1))) 33 (.val (.int .u64 s.2.2))), hpL [] [some (.row 2 true (List.map encPair s.2.1))], 9⟩) (fun y e st' => match y with | .inl z => e = Exit.ret ∧ finA Tryz.prog [.tmp 8, .tmp 9, .tmp 10] (.tup [.fr 2 (List.map encPair z.1), .val (.int .i64 z.2.1), .val (.int .i64 z.2.2)]) .ret st' | .inr z => e = Exit.exit 0 ∧ st' = ⟨(upd (upd anyF 1 (.val (.int .i64 z.1))) 8 (.own 8 0 z.2.length)), hpL [] [some (.row 2 true (List.map encPair z.2))], 9⟩) hy71 ?_ ?_ ?_
   ·refine Ent.trans (Ent.nilOwn 8 2 (by decide) rfl) ?_
    exact Ent.canq [40] RF.any.qv.qv.qv.qt.qo.qv.qv (.nil _) (.ce (.nil _))
   ·clear h hy71
    rintro ⟨s1_0, s1_1, s1_2⟩ x h
    rw [f140_141_s1] at h
    refine AW.rX [0, 1, 2, 3, 8, 32, 33, 34] ?_
    refine AW.seq ?_
    by_cases c47 : s1_2 < x1.1
    ·rw [if_pos c47] at h
     refine AW.ifT rfl c47 ?_
     refine AW.skip ?_
     refine thenA_n ?_
     refine AW.seq ?_
     refine AW.block ?_
     refine AW.rX [0, 1, 2, 3, 8, 12, 32, 33] ?_
     refine AW.seq ?_
     refine AW.rX [0, 1, 2, 3, 8, 12, 32, 33, 35, 36] ?_
     refine AW.block ?_
     obtain ⟨y65, hy65, h⟩ := Option.bind_eq_some_iff.1 h
     refine AW.loopO (fun s => ⟨(upd (upd (upd (upd (upd (upd (upd (upd (upd (upd anyF 0 (.sl (List.map enc5 a0))) 1 (.val (.int .i64 s.1))) 2 (.val (.int .i64 a2))) 3 (.clo (.func 141) [] [])) 8 (.own 8 0 s1_1.length)) 12 (.own 9 0 s.2.1.length)) 32 (.val (.int .u64 x1.1))) 33 (.val (.int .u64 s1_2))) 35 (.val (.int .i64 a2))) 36 (.val (.int .i64 s.2.2))), hpL [] [some (.row 2 true (List.map encPair s1_1)), some (.row 1 true (List.map enc9 s.2.1))], 10⟩) (fun y e st' => match y with | .inl z => e = Exit.ret ∧ finA Tryz.prog [.tmp 8, .tmp 9, .tmp 10] (.tup [.fr 2 (List.map encPair z.1), .val (.int .i64 z.2.1), .val (.int .i64 z.2.2)]) .ret st' | .inr z => e = Exit.exit 2 ∧ st' = ⟨(upd (upd (upd (upd (upd (upd (upd (upd anyF 0 (.sl (List.map enc5 a0))) 1 (.val (.int .i64 z.1))) 2 (.val (.int .i64 a2))) 3 (.clo (.func 141) [] [])) 8 (.own 8 0 s1_1.length)) 12 (.own 9 0 z.2.length)) 32 (.val (.int .u64 x1.1))) 33 (.val (.int .u64 s1_2))), hpL [] [some (.row 2 true (List.map encPair s1_1)), some (.row 1 true (List.map enc9 z.2))], 10⟩) hy65 ?_ ?_ ?_
     ·refine Ent.trans (Ent.nilOwn 12 1 (by decide) rfl) ?_
      exact Ent.canq [8, 41] RF.any.qv.qv.qv.qt.qo.qo.qv.qv.qv.qv (.nil _) (.ce (.ce (.nil _)))
     ·clear h hy65
      rintro ⟨s4_0, s4_1, s4_2⟩ x h
      rw [f140_141_s4] at h
      refine AW.rX [0, 1, 2, 3, 8, 12, 32, 33, 35, 36, 37] ?_
      refine AW.seq ?_
      by_cases c61 : s4_2 < a2
      ·rw [if_pos c61] at h
       refine AW.ifT rfl c61 ?_
       refine AW.skip ?_
       refine thenA_n ?_
       refine AW.seq ?_
       refine AW.block ?_
       obtain ⟨x62, hx62, h⟩ := Option.bind_eq_some_iff.1 h
       refine AW.regL [0, 2, 3, 8, 12, 13, 14, 15, 32, 33, 35, 36] ?_
       generalize hK : AW Tryz.prog _ _ _ = K
       simp only [go_sem, ↓reduceIte, reduceCtorEq, Nat.reduceAdd, Nat.reduceSub, Nat.reduceMul, Nat.reduceEqDiff, Nat.reduceLT, Nat.reduceLeDiff, eq_true c5, eq_true c47, eq_true c61]
       refine arC.of (ok145 a0 s4_0 65536 x62 hx62) Tryz.call145 ?_
       simp only [go_sem, ↓reduceIte, reduceCtorEq, Nat.reduceAdd, Nat.reduceSub, Nat.reduceMul, Nat.reduceEqDiff, Nat.reduceLT, Nat.reduceLeDiff, eq_true c5, eq_true c47, eq_true c61]
       subst hK
       refine AW.seq ?_
       refine AW.rX [0, 2, 3, 8, 12, 13, 14, 15, 32, 33, 35, 36, 46] ?_
       by_cases c63 : x62.2.2 = 0
       ·rw [if_pos c63] at h
        refine AW.ifF rfl (fun q => q c63) ?_
        refine AW.skip ?_
        refine thenA_n ?_
        obtain ⟨x64, hx64, h⟩ := Option.bind_eq_some_iff.1 h
        obtain ⟨hx64b, hx64e⟩ := appO?_some.1 hx64
        have hx64f : ∀ id o : Nat, appO 1 16 id ([[.val (.string x62.1)]]) 0 s4_1.length o (some (.row 1 true (List.map enc9 s4_1))) = some ⟨.own id 0 x64.length, [(o, none), (id, some (.row 1 true (List.map enc9 x64)))]⟩ := fun id o => by
          subst hx64e; rw [appO_ok (by simp) (by simpa using hx64b) (by decide)]; first | (simp [enc9]; done) | (simp [enc9]; omega)
        refine AW.regionL [0, 1, 2, 3, 8, 12, 32, 33, 35, 36] ?_
        generalize hK : inBlockA _ _ Exit.normal = K
        simp only [go_sem, ↓reduceIte, reduceCtorEq, Nat.reduceAdd, Nat.reduceSub, Nat.reduceMul, Nat.reduceEqDiff, Nat.reduceLT, Nat.reduceLeDiff, eq_true c5, eq_true c47, eq_true c61, eq_true c63, hx64f]
        subst hK
        refine block_n ?_
        refine thenA_n ?_
        refine AW.rY [0, 1, 2, 3, 8, 12, 32, 33, 35, 36] ?_
        refine thenA_n ?_
        refine ⟨_, (Option.some.inj h).symm, ?_⟩
        exact Ent.canq [8, 138] RF.any.qv.qv.qv.qt.qo.qo.qv.qv.qv.qv (.nil _) (.ce (.ce (.nil _)))
       ·rw [if_neg c63] at h
        refine AW.ifT rfl c63 ?_
        refine AW.rX [8, 9, 10] ?_
        refine AW.ent (Ent.nilOwn 8 2 (by decide) rfl) ?_
        refine AW.ret ?_
        refine thenA_r ?_
        refine block_r ?_
        refine thenA_r ?_
        refine thenA_r ?_
        refine ⟨_, (Option.some.inj h).symm, _, Ent.refl, rfl, ?_⟩
        (simp only [go_sem, ↓reduceIte, reduceCtorEq, Nat.reduceAdd, Nat.reduceSub, Nat.reduceMul, Nat.reduceEqDiff, Nat.reduceLT, Nat.reduceLeDiff, eq_true c5, eq_true c47, eq_true c61, eq_false c63, finA] <;> try simp)
      ·rw [if_neg c61] at h
       refine AW.ifF rfl c61 ?_
       refine AW.exit ?_
       refine thenA_x ?_
       refine thenA_x ?_
       refine ⟨_, (Option.some.inj h).symm, _, ?_, rfl, rfl⟩
       exact Ent.canq [8, 9] RF.any.qv.qv.qv.qt.qo.qo.qv.qv (.nil _) (.ce (.ce (.nil _)))
     ·intro e st' hX
      rcases y65 with y66 | ⟨y67, y68⟩ <;> dsimp only at h hX
      ·obtain ⟨rfl, hf⟩ := hX
       refine ⟨_, Ent.refl, ?_⟩
       refine block_r ?_
       refine thenA_r ?_
       refine block_r ?_
       refine thenA_r ?_
       refine thenA_r ?_
       refine ⟨_, (Option.some.inj h).symm, _, Ent.refl, rfl, ?_⟩
       exact hf
      ·obtain ⟨rfl, rfl⟩ := hX
       refine ⟨_, Ent.refl, ?_⟩
       refine block_x ?_
       refine thenA_n ?_
       obtain ⟨x69, hx69, h⟩ := Option.bind_eq_some_iff.1 h
       obtain ⟨x70, hx70, h⟩ := Option.bind_eq_some_iff.1 h
       obtain ⟨hx70b, hx70e⟩ := appO?_some.1 hx70
       have hx70f : ∀ id o : Nat, appO 2 32 id ([[.val (.string x69.Key), .val (.string x69.Val)]]) 0 s1_1.length o (some (.row 2 true (List.map encPair s1_1))) = some ⟨.own id 0 x70.length, [(o, none), (id, some (.row 2 true (List.map encPair x70)))]⟩ := fun id o => by
         subst hx70e; rw [appO_ok (by simp) (by simpa using hx70b) (by decide)]; first | (simp [encPair]; done) | (simp [encPair]; omega)
       refine AW.regionL [0, 1, 2, 3, 8, 32, 33] ?_
       generalize hK : inBlockA _ _ Exit.normal = K
       simp only [go_sem, ↓reduceIte, reduceCtorEq, Nat.reduceAdd, Nat.reduceSub, Nat.reduceMul, Nat.reduceEqDiff, Nat.reduceLT, Nat.reduceLeDiff, eq_true c5, eq_true c47, hx70f]
       refine arC.of (ok141 y68 x69 hx69) Tryz.call141 ?_
       simp only [go_sem, ↓reduceIte, reduceCtorEq, Nat.reduceAdd, Nat.reduceSub, Nat.reduceMul, Nat.reduceEqDiff, Nat.reduceLT, Nat.reduceLeDiff, eq_true c5, eq_true c47, hx70f]
       subst hK
       refine block_n ?_
       refine thenA_n ?_
       refine AW.rY [0, 1, 2, 3, 8, 32, 33] ?_
       refine thenA_n ?_
       refine ⟨_, (Option.some.inj h).symm, ?_⟩
       exact Ent.canq [50] RF.any.qv.qv.qv.qt.qo.qv.qv (.nil _) (.ce (.nil _))
    ·rw [if_neg c47] at h
     refine AW.ifF rfl c47 ?_
     refine AW.exit ?_
     refine thenA_x ?_
     refine thenA_x ?_
     refine ⟨_, (Option.some.inj h).symm, _, ?_, rfl, rfl⟩
     exact Ent.canq [8] RF.any.qv.qo (.nil _) (.ce (.nil _))
   ·intro e st' hX
    rcases y71 with y72 | ⟨y73, y74⟩ <;> dsimp only at h hX
    ·obtain ⟨rfl, hf⟩ := hX
     refine ⟨_, Ent.refl, ?_⟩
     refine block_r ?_
     refine thenA_r ?_
     obtain rfl := Option.some.inj h
     exact hf
    ·obtain ⟨rfl, rfl⟩ := hX
     refine ⟨_, Ent.refl, ?_⟩
     refine block_x ?_
     refine thenA_n ?_
     refine AW.rX [8, 9, 10] ?_
     refine AW.ret ?_
     obtain rfl := Option.some.inj h
     (simp only [go_sem, ↓reduceIte, reduceCtorEq, Nat.reduceAdd, Nat.reduceSub, Nat.reduceMul, Nat.reduceEqDiff, Nat.reduceLT, Nat.reduceLeDiff, eq_true c5, finA] <;> try simp)
  ·rw [if_neg c5] at h
   refine AW.ifT rfl c5 ?_
   refine AW.rX [8, 9, 10] ?_
   refine AW.ent (Ent.nilOwn 8 2 (by decide) rfl) ?_
   refine AW.ret ?_
   refine thenA_r ?_
   obtain rfl := Option.some.inj h
   (simp only [go_sem, ↓reduceIte, reduceCtorEq, Nat.reduceAdd, Nat.reduceSub, Nat.reduceMul, Nat.reduceEqDiff, Nat.reduceLT, Nat.reduceLeDiff, eq_false c5, finA] <;> try simp)
end Au
end Go.Proofs.Yt

set_option linter.all false
set_option maxRecDepth 8000
set_option maxHeartbeats 1000000
namespace Go.Proofs.Yt
open Go.Gm
namespace Au
noncomputable def f120 (a0 : List Int) (a1 : Int) : Option ((List Pair) × Int × Int) := ((f140_141 a0 a1 2).bind fun x1 => some (x1.1, x1.2.1, x1.2.2))
theorem ok120 (a0 : List Int) (a1 : Int) (r : (List Pair) × Int × Int) (h : f120 a0 a1 = some r) : PC Tryz.prog 120 [.sl (List.map enc5 a0), .val (.int .i64 a1)] (.tup [.fr 2 (List.map encPair r.1), .val (.int .i64 r.2.1), .val (.int .i64 r.2.2)]) := by
 rw [f120] at h
 refine pc_of8 (N := 13) (rs := [.tmp 4, .tmp 5, .tmp 6]) Tryz.func120 rfl rfl rfl (Nat.le_of_ble_eq_true rfl) ?_
 refine AW.rX [0, 1] ?_
 obtain ⟨x1, hx1, h⟩ := Option.bind_eq_some_iff.1 h
 refine AW.regL [4, 5, 6] ?_
 generalize hK : AW Tryz.prog _ _ _ = K
 simp only [go_sem, ↓reduceIte, reduceCtorEq, Nat.reduceAdd, Nat.reduceSub, Nat.reduceMul, Nat.reduceEqDiff, Nat.reduceLT, Nat.reduceLeDiff]
 refine arC.of (PC.norm (us := [.sl (List.map enc5 a0), .val (.int .i64 a1), .val (.int .i64 2), .val (.func (.func 141) #[] #[])]) (ok140_141 a0 a1 2 x1 hx1) (by first | rfl | simp [norm, normL, normR, go_sem])) Tryz.call140 ?_
 simp only [go_sem, ↓reduceIte, reduceCtorEq, Nat.reduceAdd, Nat.reduceSub, Nat.reduceMul, Nat.reduceEqDiff, Nat.reduceLT, Nat.reduceLeDiff]
 subst hK
 refine AW.ret ?_
 obtain rfl := Option.some.inj h
 (simp only [go_sem, ↓reduceIte, reduceCtorEq, Nat.reduceAdd, Nat.reduceSub, Nat.reduceMul, Nat.reduceEqDiff, Nat.reduceLT, Nat.reduceLeDiff, finA] <;> try simp)
end Au
end Go.Proofs.Yt

set_option linter.all false
set_option maxRecDepth 8000
set_option maxHeartbeats 1000000
namespace Go.Proofs.Yt
open Go.Gm
namespace Au
noncomputable def f163_s1 (a0 : List Int) : Int → Option (Int ⊕ (Int ⊕ Unit))
  | s1_0 => (if s1_0 < (a0.length : Int) then ((ix a0 s1_0).bind fun x14 => (if x14 = 0 then some (.inl (IntKind.i64.wrap (s1_0 + 1))) else some (.inr (.inl x14)))) else some (.inr (.inr ())))
noncomputable def f163 (a0 : List Int) : Option Int := ((loopO (f163_s1 a0) 0).bind fun y16 => match y16 with | .inl y17 => some y17 | .inr _ => some 0)
theorem ok163 (a0 : List Int) (r : Int) (h : f163 a0 = some r) : PC Tryz.prog 163 [.sl (List.map enc3 a0)] (.val (.int .i64 r)) := by
 rw [f163] at h
 refine pc_of8 (N := 18) (rs := [.tmp 2]) Tryz.func163 rfl rfl rfl (Nat.le_of_ble_eq_true rfl) ?_
 refine AW.rX [0] ?_
 refine AW.rX [0, 3] ?_
 refine AW.seq ?_
 refine AW.rX [3, 6, 7, 8] ?_
 refine AW.block ?_
 obtain ⟨y16, hy16, h⟩ := Option.bind_eq_some_iff.1 h
 refine AW.loopO (fun s => ⟨(upd (upd (upd (upd anyF 3 (.val (.int .i64 0))) 6 (.sl (List.map enc3 a0))) 7 (.val (.int .i64 (a0.length : Int)))) 8 (.val (.int .i64 s))), hpL [] [], 8⟩) (fun y e st' => match y with | .inl z => e = Exit.ret ∧ finA Tryz.prog [.tmp 2] (.val (.int .i64 z)) .ret st' | .inr z => e = Exit.exit 0 ∧ st' = ⟨(upd anyF 3 (.val (.int .i64 0))), hpL [] [], 8⟩) hy16 ?_ ?_ ?_
 ·exact Ent.canq [] RF.any.qv.qv.qv.qv (.nil _) (.nil _)
 ·clear h hy16
  rintro s1_0 x h
  rw [f163_s1] at h
  refine AW.rX [3, 6, 7, 8, 9] ?_
  refine AW.seq ?_
  by_cases c13 : s1_0 < (a0.length : Int)
  ·rw [if_pos c13] at h
   refine AW.ifT rfl c13 ?_
   refine AW.skip ?_
   refine thenA_n ?_
   refine AW.seq ?_
   refine AW.block ?_
   obtain ⟨x14, hx14, h⟩ := Option.bind_eq_some_iff.1 h
   obtain ⟨hx14a, hx14b⟩ := ix_some.1 hx14
   refine AW.regL [3, 5, 6, 7, 8] ?_
   generalize hK : AW Tryz.prog _ _ _ = K
   simp only [go_sem, ↓reduceIte, reduceCtorEq, Nat.reduceAdd, Nat.reduceSub, Nat.reduceMul, Nat.reduceEqDiff, Nat.reduceLT, Nat.reduceLeDiff, eq_true c13, natOf_le hx14a, hx14b]
   subst hK
   refine AW.rX [3, 5, 6, 7, 8, 14] ?_
   by_cases c15 : x14 = 0
   ·rw [if_pos c15] at h
    refine AW.ifF rfl (fun q => q c15) ?_
    refine AW.skip ?_
    refine block_n ?_
    refine thenA_n ?_
    refine AW.rY [3, 6, 7, 8] ?_
    refine thenA_n ?_
    refine ⟨_, (Option.some.inj h).symm, ?_⟩
    exact Ent.canq [] RF.any.qv.qv.qv.qv (.nil _) (.nil _)
   ·rw [if_neg c15] at h
    refine AW.ifT rfl c15 ?_
    refine AW.rX [2] ?_
    refine AW.ret ?_
    refine block_r ?_
    refine thenA_r ?_
    refine thenA_r ?_
    refine ⟨_, (Option.some.inj h).symm, _, Ent.refl, rfl, ?_⟩
    (simp only [go_sem, ↓reduceIte, reduceCtorEq, Nat.reduceAdd, Nat.reduceSub, Nat.reduceMul, Nat.reduceEqDiff, Nat.reduceLT, Nat.reduceLeDiff, eq_true c13, eq_false c15, finA] <;> try simp)
  ·rw [if_neg c13] at h
   refine AW.ifF rfl c13 ?_
   refine AW.exit ?_
   refine thenA_x ?_
   refine thenA_x ?_
   refine ⟨_, (Option.some.inj h).symm, _, ?_, rfl, rfl⟩
   exact Ent.canq [] RF.any.qv (.nil _) (.nil _)
 ·intro e st' hX
  rcases y16 with y17 | _ <;> dsimp only at h hX
  ·obtain ⟨rfl, hf⟩ := hX
   refine ⟨_, Ent.refl, ?_⟩
   refine block_r ?_
   refine thenA_r ?_
   obtain rfl := Option.some.inj h
   exact hf
  ·obtain ⟨rfl, rfl⟩ := hX
   refine ⟨_, Ent.refl, ?_⟩
   refine block_x ?_
   refine thenA_n ?_
   refine AW.rX [2] ?_
   refine AW.ret ?_
   obtain rfl := Option.some.inj h
   (simp only [go_sem, ↓reduceIte, reduceCtorEq, Nat.reduceAdd, Nat.reduceSub, Nat.reduceMul, Nat.reduceEqDiff, Nat.reduceLT, Nat.reduceLeDiff, finA] <;> try simp)
end Au
end Go.Proofs.Yt

set_option linter.all false
set_option maxRecDepth 8000
set_option maxHeartbeats 1000000
namespace Go.Proofs.Yt
open Go.Gm
namespace Au
noncomputable def f143 (a0 : Pair) (a1 : Pair) : Option Int := ((f76 a0.Key a1.Key).bind fun x1 => ((f76 a0.Val a1.Val).bind fun x2 => ((f163 [x1, x2]).bind fun x3 => some x3)))
theorem ok143 (a0 : Pair) (a1 : Pair) (r : Int) (h : f143 a0 a1 = some r) : PC Tryz.prog 143 [.agg (encPair a0), .agg (encPair a1)] (.val (.int .i64 r)) := by
 rw [f143] at h
 refine pc_of8 (N := 17) (rs := [.tmp 4]) Tryz.func143 rfl rfl rfl (Nat.le_of_ble_eq_true rfl) ?_
 refine AW.rX [2, 3] ?_
 obtain ⟨x1, hx1, h⟩ := Option.bind_eq_some_iff.1 h
 obtain ⟨x2, hx2, h⟩ := Option.bind_eq_some_iff.1 h
 obtain ⟨x3, hx3, h⟩ := Option.bind_eq_some_iff.1 h
 refine AW.regdL [4] [[], [0], [], [2], [0, 1, 2, 3], [], [5], [], [7], [0, 1, 2, 3, 4, 5, 6, 7, 8], [0, 1, 2, 3, 4, 5, 6, 7, 8, 9], [0, 1, 2, 3, 4, 5, 6, 7, 8, 9, 10], [0, 1, 2, 3, 4, 5, 6, 7, 8, 9, 10, 11]] [0, 1, 2, 3, 4, 5, 6, 7, 8, 9, 10, 11, 12] noFt (fun _ _ _ h => by simp [noFt] at h) draws (by kernel_rfl) (by kernel_rfl) ?_
 generalize hK : AW Tryz.prog _ _ _ = K
 simp only [go_sem, ↓reduceIte, reduceCtorEq, Nat.reduceAdd, Nat.reduceSub, Nat.reduceMul, Nat.reduceEqDiff, Nat.reduceLT, Nat.reduceLeDiff]
 refine adN.pc (ok76 a0.Key a1.Key x1 hx1) Tryz.call76 callV_fn (by simp only [go_sem, ↓reduceIte, reduceCtorEq, Nat.reduceAdd, Nat.reduceSub, Nat.reduceMul, Nat.reduceEqDiff, Nat.reduceLT, Nat.reduceLeDiff]) (by simp only [go_sem, ↓reduceIte, reduceCtorEq, Nat.reduceAdd, Nat.reduceSub, Nat.reduceMul, Nat.reduceEqDiff, Nat.reduceLT, Nat.reduceLeDiff]) ?_
 simp only [go_sem, ↓reduceIte, reduceCtorEq, Nat.reduceAdd, Nat.reduceSub, Nat.reduceMul, Nat.reduceEqDiff, Nat.reduceLT, Nat.reduceLeDiff]
 refine adN.pc (ok76 a0.Val a1.Val x2 hx2) Tryz.call76 callV_fn (by simp only [go_sem, ↓reduceIte, reduceCtorEq, Nat.reduceAdd, Nat.reduceSub, Nat.reduceMul, Nat.reduceEqDiff, Nat.reduceLT, Nat.reduceLeDiff]) (by simp only [go_sem, ↓reduceIte, reduceCtorEq, Nat.reduceAdd, Nat.reduceSub, Nat.reduceMul, Nat.reduceEqDiff, Nat.reduceLT, Nat.reduceLeDiff]) ?_
 simp only [go_sem, ↓reduceIte, reduceCtorEq, Nat.reduceAdd, Nat.reduceSub, Nat.reduceMul, Nat.reduceEqDiff, Nat.reduceLT, Nat.reduceLeDiff]
 refine adN.pc (ok163 [x1, x2] x3 hx3) Tryz.call163 callV_fn (by simp only [go_sem, ↓reduceIte, reduceCtorEq, Nat.reduceAdd, Nat.reduceSub, Nat.reduceMul, Nat.reduceEqDiff, Nat.reduceLT, Nat.reduceLeDiff]) (by simp only [go_sem, ↓reduceIte, reduceCtorEq, Nat.reduceAdd, Nat.reduceSub, Nat.reduceMul, Nat.reduceEqDiff, Nat.reduceLT, Nat.reduceLeDiff]) ?_
 simp only [go_sem, ↓reduceIte, reduceCtorEq, Nat.reduceAdd, Nat.reduceSub, Nat.reduceMul, Nat.reduceEqDiff, Nat.reduceLT, Nat.reduceLeDiff]
 subst hK
 refine AW.ret ?_
 obtain rfl := Option.some.inj h
 (simp only [go_sem, ↓reduceIte, reduceCtorEq, Nat.reduceAdd, Nat.reduceSub, Nat.reduceMul, Nat.reduceEqDiff, Nat.reduceLT, Nat.reduceLeDiff, finA] <;> try simp)
end Au
end Go.Proofs.Yt

set_option linter.all false
set_option maxRecDepth 8000
set_option maxHeartbeats 1000000
namespace Go.Proofs.Yt
open Go.Gm
namespace Au
noncomputable def f142_143_s1 (a0 : List Pair) : Int → Option (Int ⊕ (Bool ⊕ Unit))
  | s1_0 => (if 0 < s1_0 then ((ix a0 s1_0).bind fun x15 => ((ix a0 (IntKind.i64.wrap (s1_0 - 1))).bind fun x16 => ((f143 x15 x16).bind fun x17 => (if x17 < 0 then some (.inr (.inl false)) else some (.inl (IntKind.i64.wrap (s1_0 - 1))))))) else some (.inr (.inr ())))
noncomputable def f142_143 (a0 : List Pair) : Option Bool := ((loopO (f142_143_s1 a0) (IntKind.i64.wrap ((a0.length : Int) - 1))).bind fun y19 => match y19 with | .inl y20 => some y20 | .inr _ => some true)
theorem ok142_143 (a0 : List Pair) (r : Bool) (h : f142_143 a0 = some r) : PC Tryz.prog 142 [.sl (List.map encPair a0), .clo (.func 143) [] []] (.val (.bool r)) := by
 rw [f142_143] at h
 refine pc_of8 (N := 25) (rs := [.tmp 4]) Tryz.func142 rfl rfl rfl (Nat.le_of_ble_eq_true rfl) ?_
 refine AW.rX [0, 1] ?_
 refine AW.seq ?_
 refine AW.rX [0, 1, 5] ?_
 refine AW.block ?_
 obtain ⟨y19, hy19, h⟩ := Option.bind_eq_some_iff.1 h
 refine AW.loopO (fun s => ⟨(upd (upd (upd anyF 0 (.sl (List.map encPair a0))) 1 (.clo (.func 143) [] [])) 5 (.val (.int .i64 s))), hpL [] [], 8⟩) (fun y e st' => match y with | .inl z => e = Exit.ret ∧ finA Tryz.prog [.tmp 4] (.val (.bool z)) .ret st' | .inr z => e = Exit.exit 0 ∧ st' = ⟨anyF, hpL [] [], 8⟩) hy19 ?_ ?_ ?_
 ·exact Ent.canq [] RF.any.qv.qt.qv (.nil _) (.nil _)
 ·clear h hy19
  rintro s1_0 x h
  rw [f142_143_s1] at h
  refine AW.seq ?_
  refine AW.rX [0, 1, 5, 10] ?_
  by_cases c14 : 0 < s1_0
  ·rw [if_pos c14] at h
   refine AW.ifT rfl c14 ?_
   refine AW.skip ?_
   refine thenA_n ?_
   refine AW.seq ?_
   refine AW.block ?_
   obtain ⟨x15, hx15, h⟩ := Option.bind_eq_some_iff.1 h
   obtain ⟨hx15a, hx15b⟩ := ix_some.1 hx15
   obtain ⟨x16, hx16, h⟩ := Option.bind_eq_some_iff.1 h
   obtain ⟨hx16a, hx16b⟩ := ix_some.1 hx16
   obtain ⟨x17, hx17, h⟩ := Option.bind_eq_some_iff.1 h
   refine AW.regdL [0, 1, 5, 24] [[], [], [], [1, 2], [1, 2, 3], [], [], [6], [5, 6, 7], [5, 6, 7, 8], [0, 1, 2, 3, 4, 5, 6, 7, 8, 9], [0, 1, 2, 3, 4, 5, 6, 7, 8, 9, 10]] [0, 1, 2, 3, 4, 5, 6, 7, 8, 9, 10, 11] noFt (fun _ _ _ h => by simp [noFt] at h) draws (by kernel_rfl) (by kernel_rfl) ?_
   generalize hK : AW Tryz.prog _ _ _ = K
   simp only [go_sem, ↓reduceIte, reduceCtorEq, Nat.reduceAdd, Nat.reduceSub, Nat.reduceMul, Nat.reduceEqDiff, Nat.reduceLT, Nat.reduceLeDiff, eq_true c14, natOf_le hx15a, hx15b, natOf_le hx16a, hx16b]
   refine adN.pc (ok143 x15 x16 x17 hx17) Tryz.call143 (callV_tmp (by simp only [upd_ap, Nat.reduceEqDiff, if_true, if_false, ↓reduceIte]; rfl)) (by simp only [go_sem, ↓reduceIte, reduceCtorEq, Nat.reduceAdd, Nat.reduceSub, Nat.reduceMul, Nat.reduceEqDiff, Nat.reduceLT, Nat.reduceLeDiff, List.nil_append, List.append_nil, eq_true c14, natOf_le hx15a, hx15b, natOf_le hx16a, hx16b]) (by simp only [go_sem, ↓reduceIte, reduceCtorEq, Nat.reduceAdd, Nat.reduceSub, Nat.reduceMul, Nat.reduceEqDiff, Nat.reduceLT, Nat.reduceLeDiff]) ?_
   simp only [go_sem, ↓reduceIte, reduceCtorEq, Nat.reduceAdd, Nat.reduceSub, Nat.reduceMul, Nat.reduceEqDiff, Nat.reduceLT, Nat.reduceLeDiff, eq_true c14, natOf_le hx15a, hx15b, natOf_le hx16a, hx16b]
   subst hK
   by_cases c18 : x17 < 0
   ·rw [if_pos c18] at h
    refine AW.ifT rfl c18 ?_
    refine AW.rX [4] ?_
    refine AW.ret ?_
    refine block_r ?_
    refine thenA_r ?_
    refine thenA_r ?_
    refine ⟨_, (Option.some.inj h).symm, _, Ent.refl, rfl, ?_⟩
    (simp only [go_sem, ↓reduceIte, reduceCtorEq, Nat.reduceAdd, Nat.reduceSub, Nat.reduceMul, Nat.reduceEqDiff, Nat.reduceLT, Nat.reduceLeDiff, eq_true c14, eq_true c18, finA] <;> try simp)
   ·rw [if_neg c18] at h
    refine AW.ifF rfl c18 ?_
    refine AW.skip ?_
    refine block_n ?_
    refine thenA_n ?_
    refine AW.rY [0, 1, 5] ?_
    refine thenA_n ?_
    refine ⟨_, (Option.some.inj h).symm, ?_⟩
    exact Ent.canq [] RF.any.qv.qt.qv (.nil _) (.nil _)
  ·rw [if_neg c14] at h
   refine AW.ifF rfl c14 ?_
   refine AW.exit ?_
   refine thenA_x ?_
   refine thenA_x ?_
   refine ⟨_, (Option.some.inj h).symm, _, ?_, rfl, rfl⟩
   exact Ent.canq [] RF.any (.nil _) (.nil _)
 ·intro e st' hX
  rcases y19 with y20 | _ <;> dsimp only at h hX
  ·obtain ⟨rfl, hf⟩ := hX
   refine ⟨_, Ent.refl, ?_⟩
   refine block_r ?_
   refine thenA_r ?_
   obtain rfl := Option.some.inj h
   exact hf
  ·obtain ⟨rfl, rfl⟩ := hX
   refine ⟨_, Ent.refl, ?_⟩
   refine block_x ?_
   refine thenA_n ?_
   refine AW.rX [4] ?_
   refine AW.ret ?_
   obtain rfl := Option.some.inj h
   (simp only [go_sem, ↓reduceIte, reduceCtorEq, Nat.reduceAdd, Nat.reduceSub, Nat.reduceMul, Nat.reduceEqDiff, Nat.reduceLT, Nat.reduceLeDiff, finA] <;> try simp)
end Au
end Go.Proofs.Yt

set_option linter.all false
set_option maxRecDepth 8000
set_option maxHeartbeats 1000000
namespace Go.Proofs.Yt
open Go.Gm
namespace Au
noncomputable def f121_s1 (a0 : List Pair) : Int → Option (Int ⊕ (Bool ⊕ Unit))
  | s1_0 => (if s1_0 < (a0.length : Int) then (if 0 < s1_0 then ((ix a0 (IntKind.i64.wrap (s1_0 - 1))).bind fun x15 => ((ix a0 s1_0).bind fun x16 => (if (sLt x15.Key x16.Key) = true then some (.inl (IntKind.i64.wrap (s1_0 + 1))) else some (.inr (.inl false))))) else some (.inl (IntKind.i64.wrap (s1_0 + 1)))) else some (.inr (.inr ())))
noncomputable def f121 (a0 : List Pair) : Option Bool := ((loopO (f121_s1 a0) 0).bind fun y18 => match y18 with | .inl y19 => some y19 | .inr _ => ((f142_143 a0).bind fun x20 => some x20))
theorem ok121 (a0 : List Pair) (r : Bool) (h : f121 a0 = some r) : PC Tryz.prog 121 [.sl (List.map encPair a0)] (.val (.bool r)) := by
 rw [f121] at h
 refine pc_of8 (N := 28) (rs := [.tmp 2]) Tryz.func121 rfl rfl rfl (Nat.le_of_ble_eq_true rfl) ?_
 refine AW.rX [0] ?_
 refine AW.seq ?_
 refine AW.rX [0, 5, 6] ?_
 refine AW.block ?_
 obtain ⟨y18, hy18, h⟩ := Option.bind_eq_some_iff.1 h
 refine AW.loopO (fun s => ⟨(upd (upd (upd anyF 0 (.sl (List.map encPair a0))) 5 (.val (.int .i64 (a0.length : Int)))) 6 (.val (.int .i64 s))), hpL [] [], 8⟩) (fun y e st' => match y with | .inl z => e = Exit.ret ∧ finA Tryz.prog [.tmp 2] (.val (.bool z)) .ret st' | .inr z => e = Exit.exit 0 ∧ st' = ⟨(upd anyF 0 (.sl (List.map encPair a0))), hpL [] [], 8⟩) hy18 ?_ ?_ ?_
 ·exact Ent.canq [] RF.any.qv.qv.qv (.nil _) (.nil _)
 ·clear h hy18
  rintro s1_0 x h
  rw [f121_s1] at h
  refine AW.rX [0, 5, 6, 7] ?_
  refine AW.seq ?_
  by_cases c13 : s1_0 < (a0.length : Int)
  ·rw [if_pos c13] at h
   refine AW.ifT rfl c13 ?_
   refine AW.skip ?_
   refine thenA_n ?_
   refine AW.seq ?_
   refine AW.block ?_
   refine AW.rX [0, 3, 5, 6] ?_
   by_cases c14 : 0 < s1_0
   ·rw [if_pos c14] at h
    obtain ⟨x15, hx15, h⟩ := Option.bind_eq_some_iff.1 h
    obtain ⟨hx15a, hx15b⟩ := ix_some.1 hx15
    obtain ⟨x16, hx16, h⟩ := Option.bind_eq_some_iff.1 h
    obtain ⟨hx16a, hx16b⟩ := ix_some.1 hx16
    refine AW.regdL [0, 5, 6, 24] [[], [0], [0, 1], [0, 1, 2], [0, 1, 2], [0, 1, 2, 4], [0, 1, 2, 3, 4, 5], [0, 1, 2, 3, 4, 5, 6], [0, 1, 2, 3, 4, 5, 6, 7], [0, 1, 2], [0, 1, 2], [0, 1, 2, 9, 10], [0, 1, 2, 9, 10, 11], [0, 1, 2, 9, 10, 11, 12], [0, 1, 2, 3, 4, 5, 6, 7, 8, 9, 10, 11, 12, 13], [0, 1, 2, 3, 4, 5, 6, 7, 8, 9, 10, 11, 12, 13, 14]] [0, 1, 2, 3, 4, 5, 6, 7, 8, 9, 10, 11, 12, 13, 14, 15] noFt (fun _ _ _ h => by simp [noFt] at h) draws (by kernel_rfl) (by kernel_rfl) ?_
    generalize hK : AW Tryz.prog _ _ _ = K
    simp only [go_sem, ↓reduceIte, reduceCtorEq, Nat.reduceAdd, Nat.reduceSub, Nat.reduceMul, Nat.reduceEqDiff, Nat.reduceLT, Nat.reduceLeDiff, eq_true c13, eq_true c14, natOf_le hx15a, hx15b, natOf_le hx16a, hx16b]
    subst hK
    by_cases c17 : (sLt x15.Key x16.Key) = true
    ·rw [if_pos c17] at h
     refine AW.ifBF rfl (by first | (rw [c17]; rfl) | simp_all) ?_
     refine AW.skip ?_
     refine block_n ?_
     refine thenA_n ?_
     refine AW.regionL [0, 5, 6] ?_
     generalize hK : thenA _ _ Exit.normal = K
     simp only [go_sem, ↓reduceIte, reduceCtorEq, Nat.reduceAdd, Nat.reduceSub, Nat.reduceMul, Nat.reduceEqDiff, Nat.reduceLT, Nat.reduceLeDiff, eq_true c13, eq_true c14, c17]
     subst hK
     refine thenA_n ?_
     refine ⟨_, (Option.some.inj h).symm, ?_⟩
     exact Ent.canq [] RF.any.qv.qv.qv (.nil _) (.nil _)
    ·rw [if_neg c17] at h
     rw [Bool.not_eq_true] at c17
     refine AW.ifBT rfl (by first | (rw [c17]; rfl) | simp_all) ?_
     refine AW.regL [2] ?_
     generalize hK : AW Tryz.prog _ _ _ = K
     simp only [go_sem, ↓reduceIte, reduceCtorEq, Nat.reduceAdd, Nat.reduceSub, Nat.reduceMul, Nat.reduceEqDiff, Nat.reduceLT, Nat.reduceLeDiff, eq_true c13, eq_true c14, c17]
     subst hK
     refine AW.ret ?_
     refine block_r ?_
     refine thenA_r ?_
     refine thenA_r ?_
     refine ⟨_, (Option.some.inj h).symm, _, Ent.refl, rfl, ?_⟩
     (simp only [go_sem, ↓reduceIte, reduceCtorEq, Nat.reduceAdd, Nat.reduceSub, Nat.reduceMul, Nat.reduceEqDiff, Nat.reduceLT, Nat.reduceLeDiff, eq_true c13, eq_true c14, c17, finA] <;> try simp)
   ·rw [if_neg c14] at h
    refine AW.regdL [0, 5, 6, 24] [[], [0], [0, 1], [0, 1, 2], [0, 1, 2], [0, 1, 2, 4], [0, 1, 2, 3, 4, 5], [0, 1, 2, 3, 4, 5, 6], [0, 1, 2, 3, 4, 5, 6, 7], [0, 1, 2], [0, 1, 2], [0, 1, 2, 9, 10], [0, 1, 2, 9, 10, 11], [0, 1, 2, 9, 10, 11, 12], [0, 1, 2, 3, 4, 5, 6, 7, 8, 9, 10, 11, 12, 13], [0, 1, 2, 3, 4, 5, 6, 7, 8, 9, 10, 11, 12, 13, 14]] [0, 1, 2, 3, 4, 5, 6, 7, 8, 9, 10, 11, 12, 13, 14, 15] noFt (fun _ _ _ h => by simp [noFt] at h) draws (by kernel_rfl) (by kernel_rfl) ?_
    generalize hK : AW Tryz.prog _ _ _ = K
    simp only [go_sem, ↓reduceIte, reduceCtorEq, Nat.reduceAdd, Nat.reduceSub, Nat.reduceMul, Nat.reduceEqDiff, Nat.reduceLT, Nat.reduceLeDiff, eq_true c13, eq_false c14]
    subst hK
    refine AW.ifBF rfl rfl ?_
    refine AW.skip ?_
    refine block_n ?_
    refine thenA_n ?_
    refine AW.rY [0, 5, 6] ?_
    refine thenA_n ?_
    refine ⟨_, (Option.some.inj h).symm, ?_⟩
    exact Ent.canq [] RF.any.qv.qv.qv (.nil _) (.nil _)
  ·rw [if_neg c13] at h
   refine AW.ifF rfl c13 ?_
   refine AW.exit ?_
   refine thenA_x ?_
   refine thenA_x ?_
   refine ⟨_, (Option.some.inj h).symm, _, ?_, rfl, rfl⟩
   exact Ent.canq [] RF.any.qv (.nil _) (.nil _)
 ·intro e st' hX
  rcases y18 with y19 | _ <;> dsimp only at h hX
  ·obtain ⟨rfl, hf⟩ := hX
   refine ⟨_, Ent.refl, ?_⟩
   refine block_r ?_
   refine thenA_r ?_
   obtain rfl := Option.some.inj h
   exact hf
  ·obtain ⟨rfl, rfl⟩ := hX
   refine ⟨_, Ent.refl, ?_⟩
   refine block_x ?_
   refine thenA_n ?_
   obtain ⟨x20, hx20, h⟩ := Option.bind_eq_some_iff.1 h
   refine AW.regL [2] ?_
   generalize hK : AW Tryz.prog _ _ _ = K
   simp only [go_sem, ↓reduceIte, reduceCtorEq, Nat.reduceAdd, Nat.reduceSub, Nat.reduceMul, Nat.reduceEqDiff, Nat.reduceLT, Nat.reduceLeDiff]
   refine arC.of (PC.norm (us := [.sl (List.map encPair a0), .val (.func (.func 143) #[] #[])]) (ok142_143 a0 x20 hx20) (by first | rfl | simp [norm, normL, normR, go_sem])) Tryz.call142 ?_
   simp only [go_sem, ↓reduceIte, reduceCtorEq, Nat.reduceAdd, Nat.reduceSub, Nat.reduceMul, Nat.reduceEqDiff, Nat.reduceLT, Nat.reduceLeDiff]
   subst hK
   refine AW.ret ?_
   obtain rfl := Option.some.inj h
   (simp only [go_sem, ↓reduceIte, reduceCtorEq, Nat.reduceAdd, Nat.reduceSub, Nat.reduceMul, Nat.reduceEqDiff, Nat.reduceLT, Nat.reduceLeDiff, finA] <;> try simp)
end Au
end Go.Proofs.Yt

set_option linter.all false
set_option maxRecDepth 8000
set_option maxHeartbeats 1000000
namespace Go.Proofs.Yt
open Go.Gm
namespace Au
noncomputable def f165 (a0 : Reader) : Option (Int × Reader) := (if a0.e = 0 then ((f122 a0.b a0.at_).bind fun x3 => some (IntKind.i64.wrap (minI x3.1 1099511627776), ⟨a0.b, x3.2.1, x3.2.2⟩)) else some (0, a0))
theorem ok165 (a0 : Reader) (r : Int × Reader) (h : f165 a0 = some r) : IC Tryz.prog 165 [some (.row 3 true [[.sl (List.map enc5 a0.b), .val (.int .i64 a0.at_), .val (.int .i64 a0.e)]])] [.ptr 0 0 0] (.val (.int .i64 r.1)) [some (.row 3 true [[.sl (List.map enc5 r.2.b), .val (.int .i64 r.2.at_), .val (.int .i64 r.2.e)]])] [] := by
 rw [f165] at h
 refine ic_of (N := 35) (rs := [.tmp 2]) Tryz.func165 rfl rfl rfl (Nat.le_of_ble_eq_true rfl) ?_
 refine AW.rX [0] ?_
 refine AW.seq ?_
 refine AW.rX [0, 10] ?_
 by_cases c2 : a0.e = 0
 ·rw [if_pos c2] at h
  refine AW.ifF rfl (fun q => q c2) ?_
  refine AW.skip ?_
  refine thenA_n ?_
  obtain ⟨x3, hx3, h⟩ := Option.bind_eq_some_iff.1 h
  refine AW.regdL [0, 3, 4, 5] [[], [0], [0, 1], [0, 1, 2], [], [4], [4, 5], [4, 5, 6], [0, 1, 2, 3, 4, 5, 6, 7], [0, 1, 2, 3, 4, 5, 6, 7, 8], [0, 1, 2, 3, 4, 5, 6, 7, 8, 9], [0, 1, 2, 3, 4, 5, 6, 7, 8, 9], [0, 1, 2, 3, 4, 5, 6, 7, 8, 9], [0, 1, 2, 3, 4, 5, 6, 7, 8, 9, 10], [0, 1, 2, 3, 4, 5, 6, 7, 8, 9, 10, 11, 13], [0, 1, 2, 3, 4, 5, 6, 7, 8, 9, 10, 11, 12, 13, 14]] [0, 1, 2, 3, 4, 5, 6, 7, 8, 9, 10, 11, 12, 13, 14, 15] (tab [(122, [.sl (List.map enc5 a0.b), .val (.int .i64 a0.at_)], .tup [.val (.int .u64 x3.1), .val (.int .i64 x3.2.1), .val (.int .i64 x3.2.2)])]) (tab_cons (ok122 a0.b a0.at_ x3 hx3) Tryz.call122 tab_nil) draws (by kernel_rfl) (by kernel_rfl) ?_
  generalize hK : AW Tryz.prog _ _ _ = K
  simp only [go_sem, ↓reduceIte, reduceCtorEq, Nat.reduceAdd, Nat.reduceSub, Nat.reduceMul, Nat.reduceEqDiff, Nat.reduceLT, Nat.reduceLeDiff, eq_true c2]
  subst hK
  refine AW.rX [3] ?_
  refine AW.rX [2] ?_
  refine AW.ent (st' := ⟨(upd anyF 2 (.val (.int .i64 (IntKind.i64.wrap (minI x3.1 1099511627776))))), hpL [some (.row 3 true [[.sl (List.map enc5 a0.b), .val (.int .i64 x3.2.1), .val (.int .i64 x3.2.2)]])] [], 8⟩) ?_ ?_
  · refine Ent.can [] _ _ _ rfl (by first | decide | simp) rfl ?_ ?_ ?_
    · exact RF.any.qv
    · exact .ce (.nil _)
    · exact .nil _
  refine AW.ret ?_
  obtain rfl := Option.some.inj h
  exact ⟨rfl, rfl, _, rfl, by first | rfl | simp [resOf, upd_ap, bytesI_len]⟩
 ·rw [if_neg c2] at h
  refine AW.ifT rfl c2 ?_
  refine AW.rX [2] ?_
  refine AW.ent (st' := ⟨(upd anyF 2 (.val (.int .i64 0))), hpL [some (.row 3 true [[.sl (List.map enc5 a0.b), .val (.int .i64 a0.at_), .val (.int .i64 a0.e)]])] [], 8⟩) ?_ ?_
  · refine Ent.can [] _ _ _ rfl (by first | decide | simp) rfl ?_ ?_ ?_
    · exact RF.any.qv
    · exact .ce (.nil _)
    · exact .nil _
  refine AW.ret ?_
  refine thenA_r ?_
  obtain rfl := Option.some.inj h
  exact ⟨rfl, rfl, _, rfl, by first | rfl | simp [resOf, upd_ap, bytesI_len]⟩
end Au
end Go.Proofs.Yt

set_option linter.all false
set_option maxRecDepth 8000
set_option maxHeartbeats 1000000
namespace Go.Proofs.Yt
open Go.Gm
namespace Au
noncomputable def f176_j2 (a0 : Reader) (a1 : List Int) (a2 : Int) (j1_0 : Int) : Int → Option ((List Int) × Reader)
  | j2_0 => (if j2_0 = 0 then ((appO? a1 [IntKind.i64.wrap ((IntKind.i64.wrap (j1_0 + 1)) + a2)]).bind fun x7 => some (x7, ⟨a0.b, a0.at_, j2_0⟩)) else some (a1, ⟨a0.b, a0.at_, j2_0⟩))
noncomputable def f176_j1 (a0 : Reader) (a1 : List Int) (a2 : Int) : Int → Option ((List Int) × Reader)
  | j1_0 => (if a0.e = 0 then (if 65536 ≤ ((a1.length : Nat) : Int) then f176_j2 a0 a1 a2 j1_0 9 else (if 1048576 < (IntKind.i64.wrap ((IntKind.i64.wrap (j1_0 + 1)) + a2)) then f176_j2 a0 a1 a2 j1_0 9 else f176_j2 a0 a1 a2 j1_0 a0.e)) else f176_j2 a0 a1 a2 j1_0 a0.e)
noncomputable def f176 (a0 : Reader) (a1 : List Int) (a2 : Int) : Option ((List Int) × Reader) := (if 0 < ((a1.length : Nat) : Int) then ((ix a1 (IntKind.i64.wrap (((a1.length : Nat) : Int) - 1))).bind fun x12 => f176_j1 a0 a1 a2 x12) else f176_j1 a0 a1 a2 (-1))
theorem ok176 (a0 : Reader) (a1 : List Int) (a2 : Int) (r : (List Int) × Reader) (h : f176 a0 a1 a2 = some r) : IC Tryz.prog 176 [some (.row 3 true [[.sl (List.map enc5 a0.b), .val (.int .i64 a0.at_), .val (.int .i64 a0.e)]]), some (.row 1 true (List.map enc3 a1))] [.ptr 0 0 0, .own 1 0 a1.length, .val (.int .i64 a2)] (.own 8 0 r.1.length) [some (.row 3 true [[.sl (List.map enc5 r.2.b), .val (.int .i64 r.2.at_), .val (.int .i64 r.2.e)]])] [some (.row 1 true (List.map enc3 r.1))] := by
 rw [f176] at h
 refine ic_of (N := 50) (rs := [.tmp 6]) Tryz.func176 rfl rfl rfl (Nat.le_of_ble_eq_true rfl) ?_
 refine AW.rX [0, 1, 2] ?_
 refine AW.regL [0, 1, 2, 7] ?_
 generalize hK : AW Tryz.prog _ _ _ = K
 simp only [go_sem, ↓reduceIte, reduceCtorEq, Nat.reduceAdd, Nat.reduceSub, Nat.reduceMul, Nat.reduceEqDiff, Nat.reduceLT, Nat.reduceLeDiff]
 subst hK
 refine AW.join (fun s => ⟨(upd (upd (upd (upd anyF 0 (.ptr 0 0 0)) 1 (.own 8 0 a1.length)) 2 (.val (.int .i64 a2))) 7 (.val (.int .i64 s))), hpL [some (.row 3 true [[.sl (List.map enc5 a0.b), .val (.int .i64 a0.at_), .val (.int .i64 a0.e)]])] [some (.row 1 true (List.map enc3 a1))], 9⟩) (fun s => f176_j1 a0 a1 a2 s = some r) ?_ ?_
 ·refine AW.regL [0, 1, 2, 7, 10] ?_
  generalize hK : AW Tryz.prog _ _ _ = K
  simp only [go_sem, ↓reduceIte, reduceCtorEq, Nat.reduceAdd, Nat.reduceSub, Nat.reduceMul, Nat.reduceEqDiff, Nat.reduceLT, Nat.reduceLeDiff]
  subst hK
  by_cases c11 : 0 < ((a1.length : Nat) : Int)
  ·rw [if_pos c11] at h
   refine AW.ifT rfl c11 ?_
   obtain ⟨x12, hx12, h⟩ := Option.bind_eq_some_iff.1 h
   obtain ⟨hx12a, hx12b⟩ := ix_some.1 hx12
   refine AW.regionL [0, 1, 2, 7] ?_
   generalize hK : thenA _ _ Exit.normal = K
   simp only [go_sem, ↓reduceIte, reduceCtorEq, Nat.reduceAdd, Nat.reduceSub, Nat.reduceMul, Nat.reduceEqDiff, Nat.reduceLT, Nat.reduceLeDiff, eq_true c11, natOf_le hx12a, hx12b, ix_lt hx12b]
   subst hK
   refine thenA_n ?_
   refine ⟨_, h, ?_⟩
   exact Ent.canq [1] RF.any.qp.qo.qv.qv (.ce (.nil _)) (.ce (.nil _))
  ·rw [if_neg c11] at h
   refine AW.ifF rfl c11 ?_
   refine AW.skip ?_
   refine thenA_n ?_
   refine ⟨_, h, ?_⟩
   exact Ent.canq [1] RF.any.qp.qo.qv.qv (.ce (.nil _)) (.ce (.nil _))
 ·clear h
  rintro j1_0 h
  rw [f176_j1] at h
  refine AW.join (fun s => ⟨(upd (upd (upd (upd anyF 0 (.ptr 0 0 0)) 1 (.own 8 0 a1.length)) 2 (.val (.int .i64 a2))) 7 (.val (.int .i64 j1_0))), hpL [some (.row 3 true [[.sl (List.map enc5 a0.b), .val (.int .i64 a0.at_), .val (.int .i64 s)]])] [some (.row 1 true (List.map enc3 a1))], 9⟩) (fun s => f176_j2 a0 a1 a2 j1_0 s = some r) ?_ ?_
  ·by_cases c8 : a0.e = 0
   ·rw [if_pos c8] at h
    by_cases c9 : 65536 ≤ ((a1.length : Nat) : Int)
    ·rw [if_pos c9] at h
     refine AW.regL [0, 1, 2, 7, 33] ?_
     generalize hK : AW Tryz.prog _ _ _ = K
     simp only [go_sem, ↓reduceIte, reduceCtorEq, Nat.reduceAdd, Nat.reduceSub, Nat.reduceMul, Nat.reduceEqDiff, Nat.reduceLT, Nat.reduceLeDiff, eq_true c8, eq_true c9]
     subst hK
     refine AW.ifBT rfl rfl ?_
     refine AW.regionL [0, 1, 2, 7] ?_
     generalize hK : thenA _ _ Exit.normal = K
     simp only [go_sem, ↓reduceIte, reduceCtorEq, Nat.reduceAdd, Nat.reduceSub, Nat.reduceMul, Nat.reduceEqDiff, Nat.reduceLT, Nat.reduceLeDiff, eq_true c8, eq_true c9]
     subst hK
     refine thenA_n ?_
     refine ⟨_, h, ?_⟩
     exact Ent.canq [8] RF.any.qp.qo.qv.qv (.ce (.nil _)) (.ce (.nil _))
    ·rw [if_neg c9] at h
     refine AW.regL [0, 1, 2, 7, 33] ?_
     generalize hK : AW Tryz.prog _ _ _ = K
     simp only [go_sem, ↓reduceIte, reduceCtorEq, Nat.reduceAdd, Nat.reduceSub, Nat.reduceMul, Nat.reduceEqDiff, Nat.reduceLT, Nat.reduceLeDiff, eq_true c8, eq_false c9]
     subst hK
     by_cases c10 : 1048576 < (IntKind.i64.wrap ((IntKind.i64.wrap (j1_0 + 1)) + a2))
     ·rw [if_pos c10] at h
      refine AW.ifT rfl c10 ?_
      refine AW.regionL [0, 1, 2, 7] ?_
      generalize hK : thenA _ _ Exit.normal = K
      simp only [go_sem, ↓reduceIte, reduceCtorEq, Nat.reduceAdd, Nat.reduceSub, Nat.reduceMul, Nat.reduceEqDiff, Nat.reduceLT, Nat.reduceLeDiff, eq_true c8, eq_false c9, eq_true c10]
      subst hK
      refine thenA_n ?_
      refine ⟨_, h, ?_⟩
      exact Ent.canq [8] RF.any.qp.qo.qv.qv (.ce (.nil _)) (.ce (.nil _))
     ·rw [if_neg c10] at h
      refine AW.ifF rfl c10 ?_
      refine AW.skip ?_
      refine thenA_n ?_
      refine ⟨_, h, ?_⟩
      exact Ent.canq [8] RF.any.qp.qo.qv.qv (.ce (.nil _)) (.ce (.nil _))
   ·rw [if_neg c8] at h
    refine AW.regL [0, 1, 2, 7, 33] ?_
    generalize hK : AW Tryz.prog _ _ _ = K
    simp only [go_sem, ↓reduceIte, reduceCtorEq, Nat.reduceAdd, Nat.reduceSub, Nat.reduceMul, Nat.reduceEqDiff, Nat.reduceLT, Nat.reduceLeDiff, eq_false c8]
    subst hK
    refine AW.ifBF rfl rfl ?_
    refine AW.skip ?_
    refine thenA_n ?_
    refine ⟨_, h, ?_⟩
    exact Ent.canq [8] RF.any.qp.qo.qv.qv (.ce (.nil _)) (.ce (.nil _))
  ·clear h
   rintro j2_0 h
   rw [f176_j2] at h
   refine AW.seq ?_
   refine AW.rX [1, 2, 7, 41] ?_
   by_cases c6 : j2_0 = 0
   ·rw [if_pos c6] at h
    refine AW.ifF rfl (fun q => q c6) ?_
    refine AW.skip ?_
    refine thenA_n ?_
    obtain ⟨x7, hx7, h⟩ := Option.bind_eq_some_iff.1 h
    obtain ⟨hx7b, hx7e⟩ := appO?_some.1 hx7
    have hx7f : ∀ id o : Nat, appO 1 8 id ([[.val (.int .i64 (IntKind.i64.wrap ((IntKind.i64.wrap (j1_0 + 1)) + a2)))]]) 0 a1.length o (some (.row 1 true (List.map enc3 a1))) = some ⟨.own id 0 x7.length, [(o, none), (id, some (.row 1 true (List.map enc3 x7)))]⟩ := fun id o => by
      subst hx7e; rw [appO_ok (by simp) (by simpa using hx7b) (by decide)]; first | (simp [enc3]; done) | (simp [enc3]; omega)
    refine AW.regL [6] ?_
    generalize hK : AW Tryz.prog _ _ _ = K
    simp only [go_sem, ↓reduceIte, reduceCtorEq, Nat.reduceAdd, Nat.reduceSub, Nat.reduceMul, Nat.reduceEqDiff, Nat.reduceLT, Nat.reduceLeDiff, eq_true c6, hx7f]
    subst hK
    refine AW.ent (st' := ⟨(upd anyF 6 (.own 8 0 x7.length)), hpL [some (.row 3 true [[.sl (List.map enc5 a0.b), .val (.int .i64 a0.at_), .val (.int .i64 j2_0)]])] [some (.row 1 true (List.map enc3 x7))], 9⟩) ?_ ?_
    · refine Ent.can [97] _ _ _ rfl (by first | decide | simp) rfl ?_ ?_ ?_
      · exact RF.any.qo
      · exact .ce (.nil _)
      · exact .ce (.nil _)
    refine AW.ret ?_
    obtain rfl := Option.some.inj h
    exact ⟨rfl, rfl, _, rfl, by first | rfl | simp [resOf, upd_ap, bytesI_len]⟩
   ·rw [if_neg c6] at h
    refine AW.ifT rfl c6 ?_
    refine AW.rX [6] ?_
    refine AW.ent (st' := ⟨(upd anyF 6 (.own 8 0 a1.length)), hpL [some (.row 3 true [[.sl (List.map enc5 a0.b), .val (.int .i64 a0.at_), .val (.int .i64 j2_0)]])] [some (.row 1 true (List.map enc3 a1))], 9⟩) ?_ ?_
    · refine Ent.can [8] _ _ _ rfl (by first | decide | simp) rfl ?_ ?_ ?_
      · exact RF.any.qo
      · exact .ce (.nil _)
      · exact .ce (.nil _)
    refine AW.ret ?_
    refine thenA_r ?_
    obtain rfl := Option.some.inj h
    exact ⟨rfl, rfl, _, rfl, by first | rfl | simp [resOf, upd_ap, bytesI_len]⟩
end Au
end Go.Proofs.Yt
