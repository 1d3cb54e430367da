import Derived.Test.YtbdncmljibideaaGreatDoorGnUaf
set_option linter.all false
set_option linter.unusedVariables false
set_option linter.unusedSimpArgs false
set_option linter.all false
set_option maxRecDepth 8000
set_option maxHeartbeats 1000000
namespace Go.Proofs.Yt
open Go.Gm
namespace Au
noncomputable def f130_75_s5 (a0 : List Res) (a1 : Int) : Int × Int → Option ((Int × Int) ⊕ Int)
  | (s5_0, s5_1) => (if s5_0 < s5_1 then ((ix a0 (IntKind.i64.wrap (shrV .u64 (IntKind.u64.wrap (IntKind.i64.wrap (s5_0 + s5_1))) 1))).bind fun x71 => ((ix a0 a1).bind fun x72 => ((f75 x71 x72).bind fun x73 => (if x73 < 0 then some (.inl (IntKind.i64.wrap ((IntKind.i64.wrap (shrV .u64 (IntKind.u64.wrap (IntKind.i64.wrap (s5_0 + s5_1))) 1)) + 1), s5_1)) else some (.inl (s5_0, IntKind.i64.wrap (shrV .u64 (IntKind.u64.wrap (IntKind.i64.wrap (s5_0 + s5_1))) 1))))))) else some (.inr s5_0))
noncomputable def f130_75_s6 (y76 : Int) : (List Res) × Int → Option (((List Res) × Int) ⊕ (List Res))
  | (s6_0, s6_1) => (if s6_1 < (IntKind.i64.wrap (y76 - 1)) then ((ix s6_0 (IntKind.i64.wrap (s6_1 + 1))).bind fun x89 => ((ix s6_0 s6_1).bind fun x90 => ((ix (s6_0.set s6_1.toNat x89) (IntKind.i64.wrap (s6_1 + 1))).bind fun x91 => some (.inl (((s6_0.set s6_1.toNat x89).set ((IntKind.i64.wrap (s6_1 + 1)).toNat) x90), IntKind.i64.wrap (s6_1 + 1)))))) else some (.inr s6_0))
noncomputable def f130_75_s11 (a0 : List Res) (a2 : Int) : Int × Int → Option ((Int × Int) ⊕ Int)
  | (s11_0, s11_1) => (if s11_1 < s11_0 then ((ix a0 a2).bind fun x164 => ((ix a0 (IntKind.i64.wrap (shrV .u64 (IntKind.u64.wrap (IntKind.i64.wrap (s11_1 + s11_0))) 1))).bind fun x165 => ((f75 x164 x165).bind fun x166 => (if x166 < 0 then some (.inl (IntKind.i64.wrap (shrV .u64 (IntKind.u64.wrap (IntKind.i64.wrap (s11_1 + s11_0))) 1), s11_1)) else some (.inl (s11_0, IntKind.i64.wrap ((IntKind.i64.wrap (shrV .u64 (IntKind.u64.wrap (IntKind.i64.wrap (s11_1 + s11_0))) 1)) + 1))))))) else some (.inr s11_1))
noncomputable def f130_75_s12 (y169 : Int) : (List Res) × Int → Option (((List Res) × Int) ⊕ (List Res))
  | (s12_0, s12_1) => (if y169 < s12_1 then ((ix s12_0 (IntKind.i64.wrap (s12_1 - 1))).bind fun x182 => ((ix s12_0 s12_1).bind fun x183 => ((ix (s12_0.set s12_1.toNat x182) (IntKind.i64.wrap (s12_1 - 1))).bind fun x184 => some (.inl (((s12_0.set s12_1.toNat x182).set ((IntKind.i64.wrap (s12_1 - 1)).toNat) x183), IntKind.i64.wrap (s12_1 - 1)))))) else some (.inr s12_0))
noncomputable def f130_75_s14 (a0 : List Res) (a1 : Int) (a2 : Int) (a3 : Int) : Int × Int → Option ((Int × Int) ⊕ Int)
  | (s14_0, s14_1) => (if s14_1 < s14_0 then ((ix a0 (IntKind.i64.wrap ((IntKind.i64.wrap ((IntKind.i64.wrap ((IntKind.i64.wrap (shrV .u64 (IntKind.u64.wrap (IntKind.i64.wrap (a1 + a3))) 1)) + a2)) - 1)) - (IntKind.i64.wrap (shrV .u64 (IntKind.u64.wrap (IntKind.i64.wrap (s14_1 + s14_0))) 1))))).bind fun x216 => ((ix a0 (IntKind.i64.wrap (shrV .u64 (IntKind.u64.wrap (IntKind.i64.wrap (s14_1 + s14_0))) 1))).bind fun x217 => ((f75 x216 x217).bind fun x218 => (if x218 < 0 then some (.inl (IntKind.i64.wrap (shrV .u64 (IntKind.u64.wrap (IntKind.i64.wrap (s14_1 + s14_0))) 1), s14_1)) else some (.inl (s14_0, IntKind.i64.wrap ((IntKind.i64.wrap (shrV .u64 (IntKind.u64.wrap (IntKind.i64.wrap (s14_1 + s14_0))) 1)) + 1))))))) else some (.inr s14_1))
noncomputable def f130_75_j3 (a1 : Int) (a2 : Int) (a3 : Int) (rec130 : (List Res) → Int → Int → Int → Option (List Res)) (y221 : Int) : (List Res) → Option (List Res)
  | j3_0 => (if (IntKind.i64.wrap (shrV .u64 (IntKind.u64.wrap (IntKind.i64.wrap (a1 + a3))) 1)) < (IntKind.i64.wrap ((IntKind.i64.wrap ((IntKind.i64.wrap (shrV .u64 (IntKind.u64.wrap (IntKind.i64.wrap (a1 + a3))) 1)) + a2)) - y221)) then (if (IntKind.i64.wrap ((IntKind.i64.wrap ((IntKind.i64.wrap (shrV .u64 (IntKind.u64.wrap (IntKind.i64.wrap (a1 + a3))) 1)) + a2)) - y221)) < a3 then ((rec130 j3_0 (IntKind.i64.wrap (shrV .u64 (IntKind.u64.wrap (IntKind.i64.wrap (a1 + a3))) 1)) (IntKind.i64.wrap ((IntKind.i64.wrap ((IntKind.i64.wrap (shrV .u64 (IntKind.u64.wrap (IntKind.i64.wrap (a1 + a3))) 1)) + a2)) - y221)) a3).bind fun x232 => ((guardO (x232.length = j3_0.length)).bind fun x233 => some x232)) else some j3_0) else some j3_0)
noncomputable def f130_75_j2 (a1 : Int) (a2 : Int) (a3 : Int) (rec130 : (List Res) → Int → Int → Int → Option (List Res)) (y221 : Int) : (List Res) → Option (List Res)
  | j2_0 => (if a1 < y221 then (if y221 < (IntKind.i64.wrap (shrV .u64 (IntKind.u64.wrap (IntKind.i64.wrap (a1 + a3))) 1)) then ((rec130 j2_0 a1 y221 (IntKind.i64.wrap (shrV .u64 (IntKind.u64.wrap (IntKind.i64.wrap (a1 + a3))) 1))).bind fun x236 => ((guardO (x236.length = j2_0.length)).bind fun x237 => f130_75_j3 a1 a2 a3 rec130 y221 x236)) else f130_75_j3 a1 a2 a3 rec130 y221 j2_0) else f130_75_j3 a1 a2 a3 rec130 y221 j2_0)
noncomputable def f130_75_j1 (a0 : List Res) (a1 : Int) (a2 : Int) (a3 : Int) (rec130 : (List Res) → Int → Int → Int → Option (List Res)) : Int × Int → Option (List Res)
  | (j1_0, j1_1) => ((loopO (f130_75_s14 a0 a1 a2 a3) (j1_1, j1_0)).bind fun y221 => (if y221 < a2 then (if a2 < (IntKind.i64.wrap ((IntKind.i64.wrap ((IntKind.i64.wrap (shrV .u64 (IntKind.u64.wrap (IntKind.i64.wrap (a1 + a3))) 1)) + a2)) - y221)) then ((f149_75 a0 y221 a2 (IntKind.i64.wrap ((IntKind.i64.wrap ((IntKind.i64.wrap (shrV .u64 (IntKind.u64.wrap (IntKind.i64.wrap (a1 + a3))) 1)) + a2)) - y221))).bind fun x240 => ((guardO (x240.length = a0.length)).bind fun x241 => f130_75_j2 a1 a2 a3 rec130 y221 x240)) else f130_75_j2 a1 a2 a3 rec130 y221 a0) else f130_75_j2 a1 a2 a3 rec130 y221 a0))
noncomputable def f130_75b (rec130 : (List Res) → Int → Int → Int → Option (List Res)) (a0 : List Res) (a1 : Int) (a2 : Int) (a3 : Int) : Option (List Res) := (if (IntKind.i64.wrap (a2 - a1)) = 1 then ((loopO (f130_75_s5 a0 a1) (a2, a3)).bind fun y76 => ((loopO (f130_75_s6 y76) (a0, a1)).bind fun y93 => some y93)) else (if (IntKind.i64.wrap (a3 - a2)) = 1 then ((loopO (f130_75_s11 a0 a2) (a2, a1)).bind fun y169 => ((loopO (f130_75_s12 y169) (a0, a2)).bind fun y186 => some y186)) else (if (IntKind.i64.wrap (shrV .u64 (IntKind.u64.wrap (IntKind.i64.wrap (a1 + a3))) 1)) < a2 then f130_75_j1 a0 a1 a2 a3 rec130 ((IntKind.i64.wrap ((IntKind.i64.wrap ((IntKind.i64.wrap (shrV .u64 (IntKind.u64.wrap (IntKind.i64.wrap (a1 + a3))) 1)) + a2)) - a3)), (IntKind.i64.wrap (shrV .u64 (IntKind.u64.wrap (IntKind.i64.wrap (a1 + a3))) 1))) else f130_75_j1 a0 a1 a2 a3 rec130 (a1, a2))))
theorem ok130_75b (rec130 : (List Res) → Int → Int → Int → Option (List Res)) (hrec130 : ∀ (a0 : List Res) (a1 : Int) (a2 : Int) (a3 : Int) (r : (List Res)), rec130 a0 a1 a2 a3 = some r → IC Tryz.prog 130 [some (.row 3 true (List.map encRes a0))] [.own 0 0 a0.length, .val (.int .i64 a1), .val (.int .i64 a2), .val (.int .i64 a3), .clo (.func 75) [] []] (.tup []) [some (.row 3 true (List.map encRes r))] []) (a0 : List Res) (a1 : Int) (a2 : Int) (a3 : Int) (r : (List Res)) (h : f130_75b rec130 a0 a1 a2 a3 = some r) : IC Tryz.prog 130 [some (.row 3 true (List.map encRes a0))] [.own 0 0 a0.length, .val (.int .i64 a1), .val (.int .i64 a2), .val (.int .i64 a3), .clo (.func 75) [] []] (.tup []) [some (.row 3 true (List.map encRes r))] [] := by
 rw [f130_75b] at h
 refine ic_ofJ (N := 220) (rs := []) Tryz.func130 rfl rfl rfl (Nat.le_of_ble_eq_true rfl) ?_
 refine AW.seq ?_
 refine AW.regL [0, 1, 2, 3, 4, 28] ?_
 generalize hK : AW Tryz.prog _ _ _ = K
 simp only [go_sem, ↓reduceIte, reduceCtorEq, Nat.reduceAdd, Nat.reduceSub, Nat.reduceMul, Nat.reduceEqDiff, Nat.reduceLT, Nat.reduceLeDiff, Nat.reduceBEq, Int.reduceAdd, Int.reduceSub, Int.reduceLT, Int.reduceLE, Int.reduceEq, Int.reduceToNat]
 subst hK
 by_cases c42 : (IntKind.i64.wrap (a2 - a1)) = 1
 ·rw [if_pos c42] at h
  refine AW.ifT rfl c42 ?_
  refine AW.regL [0, 1, 3, 4, 10] ?_
  generalize hK : AW Tryz.prog _ _ _ = K
  simp only [go_sem, ↓reduceIte, reduceCtorEq, Nat.reduceAdd, Nat.reduceSub, Nat.reduceMul, Nat.reduceEqDiff, Nat.reduceLT, Nat.reduceLeDiff, Nat.reduceBEq, Int.reduceAdd, Int.reduceSub, Int.reduceLT, Int.reduceLE, Int.reduceEq, Int.reduceToNat, eq_true c42]
  subst hK
  refine AW.regL [0, 1, 4, 10, 11] ?_
  generalize hK : AW Tryz.prog _ _ _ = K
  simp only [go_sem, ↓reduceIte, reduceCtorEq, Nat.reduceAdd, Nat.reduceSub, Nat.reduceMul, Nat.reduceEqDiff, Nat.reduceLT, Nat.reduceLeDiff, Nat.reduceBEq, Int.reduceAdd, Int.reduceSub, Int.reduceLT, Int.reduceLE, Int.reduceEq, Int.reduceToNat, eq_true c42]
  subst hK
  refine AW.seq ?_
  refine AW.block ?_
  obtain ⟨y76, hy76, h⟩ := Option.bind_eq_some_iff.1 h
  refine AW.loopO (fun s => ⟨(upd (upd (upd (upd (upd anyF 0 (.own 0 0 a0.length)) 1 (.val (.int .i64 a1))) 4 (.clo (.func 75) [] [])) 10 (.val (.int .i64 s.1))) 11 (.val (.int .i64 s.2))), hpL [some (.row 3 true (List.map encRes a0))] [], 8⟩) (fun z e st' => e = Exit.exit 0 ∧ st' = ⟨(upd (upd (upd anyF 0 (.own 0 0 a0.length)) 1 (.val (.int .i64 a1))) 10 (.val (.int .i64 z))), hpL [some (.row 3 true (List.map encRes a0))] [], 8⟩) hy76 ?_ ?_ ?_
  ·exact Ent.canq [] RF.any.qo.qv.qt.qv.qv (.ce (.nil _)) (.nil _)
  ·clear h hy76
   rintro ⟨s5_0, s5_1⟩ x h
   rw [f130_75_s5] at h
   refine AW.seq ?_
   refine AW.regL [0, 1, 4, 10, 11, 33] ?_
   generalize hK : AW Tryz.prog _ _ _ = K
   simp only [go_sem, ↓reduceIte, reduceCtorEq, Nat.reduceAdd, Nat.reduceSub, Nat.reduceMul, Nat.reduceEqDiff, Nat.reduceLT, Nat.reduceLeDiff, Nat.reduceBEq, Int.reduceAdd, Int.reduceSub, Int.reduceLT, Int.reduceLE, Int.reduceEq, Int.reduceToNat, eq_true c42]
   subst hK
   by_cases c70 : s5_0 < s5_1
   ·rw [if_pos c70] at h
    refine AW.ifT rfl c70 ?_
    refine AW.skip ?_
    refine thenA_n ?_
    refine AW.block ?_
    refine AW.regL [0, 1, 4, 10, 11, 12] ?_
    generalize hK : AW Tryz.prog _ _ _ = K
    simp only [go_sem, ↓reduceIte, reduceCtorEq, Nat.reduceAdd, Nat.reduceSub, Nat.reduceMul, Nat.reduceEqDiff, Nat.reduceLT, Nat.reduceLeDiff, Nat.reduceBEq, Int.reduceAdd, Int.reduceSub, Int.reduceLT, Int.reduceLE, Int.reduceEq, Int.reduceToNat, eq_true c42, eq_true c70]
    subst hK
    obtain ⟨x71, hx71, h⟩ := Option.bind_eq_some_iff.1 h
    obtain ⟨hx71a, hx71b⟩ := ix_some.1 hx71
    obtain ⟨x72, hx72, h⟩ := Option.bind_eq_some_iff.1 h
    obtain ⟨hx72a, hx72b⟩ := ix_some.1 hx72
    obtain ⟨x73, hx73, h⟩ := Option.bind_eq_some_iff.1 h
    refine AW.regdL [0, 1, 4, 10, 11, 12, 50] [[], [], [], [1, 2], [1, 2, 3], [], [], [5, 6], [5, 6, 7], [0, 1, 2, 3, 4, 5, 6, 7, 8], [0, 1, 2, 3, 4, 5, 6, 7, 8, 9]] [0, 1, 2, 3, 4, 5, 6, 7, 8, 9, 10] noFt (fun _ _ _ h => by simp [noFt] at h) draws (by kernel_rfl) (by kernel_rfl) ?_
    generalize hK : AW Tryz.prog _ _ _ = K
    simp only [go_sem, ↓reduceIte, reduceCtorEq, Nat.reduceAdd, Nat.reduceSub, Nat.reduceMul, Nat.reduceEqDiff, Nat.reduceLT, Nat.reduceLeDiff, Nat.reduceBEq, Int.reduceAdd, Int.reduceSub, Int.reduceLT, Int.reduceLE, Int.reduceEq, Int.reduceToNat, eq_true c42, eq_true c70, natOf_le hx71a, hx71b, ix_lt hx71b, natOf_le hx72a, hx72b, ix_lt hx72b]
    refine adN.pc (ok75 x71 x72 x73 hx73) Tryz.call75 (callV_tmp (by simp only [upd_ap, Nat.reduceEqDiff, if_true, if_false, ↓reduceIte]; rfl)) (by simp only [go_sem, ↓reduceIte, reduceCtorEq, Nat.reduceAdd, Nat.reduceSub, Nat.reduceMul, Nat.reduceEqDiff, Nat.reduceLT, Nat.reduceLeDiff, Nat.reduceBEq, Int.reduceAdd, Int.reduceSub, Int.reduceLT, Int.reduceLE, Int.reduceEq, Int.reduceToNat, List.nil_append, List.append_nil, eq_true c42, eq_true c70, natOf_le hx71a, hx71b, ix_lt hx71b, natOf_le hx72a, hx72b, ix_lt hx72b]) (by simp only [go_sem, ↓reduceIte, reduceCtorEq, Nat.reduceAdd, Nat.reduceSub, Nat.reduceMul, Nat.reduceEqDiff, Nat.reduceLT, Nat.reduceLeDiff, Nat.reduceBEq, Int.reduceAdd, Int.reduceSub, Int.reduceLT, Int.reduceLE, Int.reduceEq, Int.reduceToNat]) ?_
    simp only [go_sem, ↓reduceIte, reduceCtorEq, Nat.reduceAdd, Nat.reduceSub, Nat.reduceMul, Nat.reduceEqDiff, Nat.reduceLT, Nat.reduceLeDiff, Nat.reduceBEq, Int.reduceAdd, Int.reduceSub, Int.reduceLT, Int.reduceLE, Int.reduceEq, Int.reduceToNat, eq_true c42, eq_true c70, natOf_le hx71a, hx71b, ix_lt hx71b, natOf_le hx72a, hx72b, ix_lt hx72b]
    subst hK
    by_cases c74 : x73 < 0
    ·rw [if_pos c74] at h
     refine AW.ifT rfl c74 ?_
     refine AW.regionL [0, 1, 4, 10, 11] ?_
     generalize hK : inBlockA _ _ Exit.normal = K
     simp only [go_sem, ↓reduceIte, reduceCtorEq, Nat.reduceAdd, Nat.reduceSub, Nat.reduceMul, Nat.reduceEqDiff, Nat.reduceLT, Nat.reduceLeDiff, Nat.reduceBEq, Int.reduceAdd, Int.reduceSub, Int.reduceLT, Int.reduceLE, Int.reduceEq, Int.reduceToNat, eq_true c42, eq_true c70, eq_true c74]
     subst hK
     refine block_n ?_
     refine thenA_n ?_
     refine ⟨_, (Option.some.inj h).symm, ?_⟩
     exact Ent.canq [] RF.any.qo.qv.qt.qv.qv (.ce (.nil _)) (.nil _)
    ·rw [if_neg c74] at h
     refine AW.ifF rfl c74 ?_
     refine AW.regionL [0, 1, 4, 10, 11] ?_
     generalize hK : inBlockA _ _ Exit.normal = K
     simp only [go_sem, ↓reduceIte, reduceCtorEq, Nat.reduceAdd, Nat.reduceSub, Nat.reduceMul, Nat.reduceEqDiff, Nat.reduceLT, Nat.reduceLeDiff, Nat.reduceBEq, Int.reduceAdd, Int.reduceSub, Int.reduceLT, Int.reduceLE, Int.reduceEq, Int.reduceToNat, eq_true c42, eq_true c70, eq_false c74]
     subst hK
     refine block_n ?_
     refine thenA_n ?_
     refine ⟨_, (Option.some.inj h).symm, ?_⟩
     exact Ent.canq [] RF.any.qo.qv.qt.qv.qv (.ce (.nil _)) (.nil _)
   ·rw [if_neg c70] at h
    refine AW.ifF rfl c70 ?_
    refine AW.exit ?_
    refine thenA_x ?_
    refine thenA_x ?_
    refine ⟨_, (Option.some.inj h).symm, _, ?_, rfl, rfl⟩
    exact Ent.canq [] RF.any.qo.qv.qv (.ce (.nil _)) (.nil _)
  ·intro e st' hX
   try dsimp only at h
   try dsimp only at hX
   obtain ⟨rfl, rfl⟩ := hX
   refine ⟨_, Ent.refl, ?_⟩
   refine block_x ?_
   refine thenA_n ?_
   refine AW.seq ?_
   refine AW.regL [0, 10, 13] ?_
   generalize hK : AW Tryz.prog _ _ _ = K
   simp only [go_sem, ↓reduceIte, reduceCtorEq, Nat.reduceAdd, Nat.reduceSub, Nat.reduceMul, Nat.reduceEqDiff, Nat.reduceLT, Nat.reduceLeDiff, Nat.reduceBEq, Int.reduceAdd, Int.reduceSub, Int.reduceLT, Int.reduceLE, Int.reduceEq, Int.reduceToNat, eq_true c42]
   subst hK
   refine AW.block ?_
   obtain ⟨y93, hy93, h⟩ := Option.bind_eq_some_iff.1 h
   refine AW.loopO (fun s => ⟨(upd (upd (upd anyF 0 (.own 0 0 s.1.length)) 10 (.val (.int .i64 y76))) 13 (.val (.int .i64 s.2))), hpL [some (.row 3 true (List.map encRes s.1))] [], 8⟩) (fun z e st' => e = Exit.exit 2 ∧ st' = ⟨anyF, hpL [some (.row 3 true (List.map encRes z))] [], 8⟩) hy93 ?_ ?_ ?_
   ·exact Ent.canq [] RF.any.qo.qv.qv (.ce (.nil _)) (.nil _)
   ·clear h hy93
    rintro ⟨s6_0, s6_1⟩ x h
    rw [f130_75_s6] at h
    refine AW.seq ?_
    refine AW.regL [0, 10, 13, 58] ?_
    generalize hK : AW Tryz.prog _ _ _ = K
    simp only [go_sem, ↓reduceIte, reduceCtorEq, Nat.reduceAdd, Nat.reduceSub, Nat.reduceMul, Nat.reduceEqDiff, Nat.reduceLT, Nat.reduceLeDiff, Nat.reduceBEq, Int.reduceAdd, Int.reduceSub, Int.reduceLT, Int.reduceLE, Int.reduceEq, Int.reduceToNat, eq_true c42]
    subst hK
    by_cases c88 : s6_1 < (IntKind.i64.wrap (y76 - 1))
    ·rw [if_pos c88] at h
     refine AW.ifT rfl c88 ?_
     refine AW.skip ?_
     refine thenA_n ?_
     refine AW.seq ?_
     refine AW.block ?_
     obtain ⟨x89, hx89, h⟩ := Option.bind_eq_some_iff.1 h
     obtain ⟨hx89a, hx89b⟩ := ix_some.1 hx89
     obtain ⟨x90, hx90, h⟩ := Option.bind_eq_some_iff.1 h
     obtain ⟨hx90a, hx90b⟩ := ix_some.1 hx90
     obtain ⟨x91, hx91, h⟩ := Option.bind_eq_some_iff.1 h
     obtain ⟨hx91a, hx91b⟩ := ix_some.1 hx91
     refine AW.drawL [0, 10, 13] [[], [], [], [], [3], [], [], [6], [5, 6, 7], [5, 6, 7, 8], [], [], [10, 11], [10, 11, 12], [0, 1, 5, 6, 7, 8, 9, 10, 11, 12, 13], [0, 1, 5, 6, 7, 8, 9, 10, 11, 12, 13, 14], [0, 1, 2, 3, 4, 5, 6, 7, 8, 9, 10, 11, 12, 13, 14, 15], [0, 1, 2, 3, 4, 5, 6, 7, 8, 9, 10, 11, 12, 13, 14, 15, 16]] [0, 1, 2, 3, 4, 5, 6, 7, 8, 9, 10, 11, 12, 13, 14, 15, 16, 17] noFt (fun _ _ _ h => by simp [noFt] at h) draws (by kernel_rfl) (by kernel_rfl) ?_
     generalize hK : inBlockA _ _ Exit.normal = K
     simp only [go_sem, ↓reduceIte, reduceCtorEq, Nat.reduceAdd, Nat.reduceSub, Nat.reduceMul, Nat.reduceEqDiff, Nat.reduceLT, Nat.reduceLeDiff, Nat.reduceBEq, Int.reduceAdd, Int.reduceSub, Int.reduceLT, Int.reduceLE, Int.reduceEq, Int.reduceToNat, eq_true c42, eq_true c88, natOf_le hx89a, hx89b, ix_lt hx89b, natOf_le hx90a, hx90b, ix_lt hx90b, set_row (enc := encRes) (y := x89) (r := [.val (.string x89.Key), .val (.string x89.Val), .sl (List.map enc3 x89.Offs)]) rfl, natOf_le hx91a, hx91b, ix_lt hx91b, set_row (enc := encRes) (y := x90) (r := [.val (.string x90.Key), .val (.string x90.Val), .sl (List.map enc3 x90.Offs)]) rfl]
     subst hK
     refine block_n ?_
     refine thenA_n ?_
     refine AW.regionL [0, 10, 13] ?_
     generalize hK : thenA _ _ Exit.normal = K
     simp only [go_sem, ↓reduceIte, reduceCtorEq, Nat.reduceAdd, Nat.reduceSub, Nat.reduceMul, Nat.reduceEqDiff, Nat.reduceLT, Nat.reduceLeDiff, Nat.reduceBEq, Int.reduceAdd, Int.reduceSub, Int.reduceLT, Int.reduceLE, Int.reduceEq, Int.reduceToNat, eq_true c42, eq_true c88]
     subst hK
     refine thenA_n ?_
     refine ⟨_, (Option.some.inj h).symm, ?_⟩
     exact Ent.canq [] RF.any.qo.qv.qv (.ce (.nil _)) (.nil _)
    ·rw [if_neg c88] at h
     refine AW.ifF rfl c88 ?_
     refine AW.exit ?_
     refine thenA_x ?_
     refine thenA_x ?_
     refine ⟨_, (Option.some.inj h).symm, _, ?_, rfl, rfl⟩
     exact Ent.canq [] RF.any (.ce (.nil _)) (.nil _)
   ·intro e st' hX
    try dsimp only at h
    try dsimp only at hX
    obtain ⟨rfl, rfl⟩ := hX
    refine ⟨_, Ent.refl, ?_⟩
    refine block_x ?_
    refine thenA_n ?_
    refine AW.ent (st' := ⟨anyF, hpL [some (.row 3 true (List.map encRes y93))] [], 8⟩) ?_ ?_
    · refine Ent.can [] _ _ _ rfl (by first | decide | simp) rfl ?_ ?_ ?_
      · exact RF.any
      · exact .ce (.nil _)
      · exact .nil _
    refine AW.ret ?_
    refine thenA_r ?_
    obtain rfl := Option.some.inj h
    exact ⟨_, Ent.refl, rfl, rfl, _, rfl, by first | rfl | simp [resOf, upd_ap, bytesI_len]⟩
 ·rw [if_neg c42] at h
  refine AW.ifF rfl c42 ?_
  refine AW.skip ?_
  refine thenA_n ?_
  refine AW.seq ?_
  refine AW.regL [0, 1, 2, 3, 4, 80] ?_
  generalize hK : AW Tryz.prog _ _ _ = K
  simp only [go_sem, ↓reduceIte, reduceCtorEq, Nat.reduceAdd, Nat.reduceSub, Nat.reduceMul, Nat.reduceEqDiff, Nat.reduceLT, Nat.reduceLeDiff, Nat.reduceBEq, Int.reduceAdd, Int.reduceSub, Int.reduceLT, Int.reduceLE, Int.reduceEq, Int.reduceToNat, eq_false c42]
  subst hK
  by_cases c135 : (IntKind.i64.wrap (a3 - a2)) = 1
  ·rw [if_pos c135] at h
   refine AW.ifT rfl c135 ?_
   refine AW.regL [0, 2, 4, 14] ?_
   generalize hK : AW Tryz.prog _ _ _ = K
   simp only [go_sem, ↓reduceIte, reduceCtorEq, Nat.reduceAdd, Nat.reduceSub, Nat.reduceMul, Nat.reduceEqDiff, Nat.reduceLT, Nat.reduceLeDiff, Nat.reduceBEq, Int.reduceAdd, Int.reduceSub, Int.reduceLT, Int.reduceLE, Int.reduceEq, Int.reduceToNat, eq_false c42, eq_true c135]
   subst hK
   refine AW.regL [0, 2, 4, 14, 15] ?_
   generalize hK : AW Tryz.prog _ _ _ = K
   simp only [go_sem, ↓reduceIte, reduceCtorEq, Nat.reduceAdd, Nat.reduceSub, Nat.reduceMul, Nat.reduceEqDiff, Nat.reduceLT, Nat.reduceLeDiff, Nat.reduceBEq, Int.reduceAdd, Int.reduceSub, Int.reduceLT, Int.reduceLE, Int.reduceEq, Int.reduceToNat, eq_false c42, eq_true c135]
   subst hK
   refine AW.seq ?_
   refine AW.block ?_
   obtain ⟨y169, hy169, h⟩ := Option.bind_eq_some_iff.1 h
   refine AW.loopO (fun s => ⟨(upd (upd (upd (upd (upd anyF 0 (.own 0 0 a0.length)) 2 (.val (.int .i64 a2))) 4 (.clo (.func 75) [] [])) 14 (.val (.int .i64 s.2))) 15 (.val (.int .i64 s.1))), hpL [some (.row 3 true (List.map encRes a0))] [], 8⟩) (fun z e st' => e = Exit.exit 4 ∧ st' = ⟨(upd (upd (upd anyF 0 (.own 0 0 a0.length)) 2 (.val (.int .i64 a2))) 14 (.val (.int .i64 z))), hpL [some (.row 3 true (List.map encRes a0))] [], 8⟩) hy169 ?_ ?_ ?_
   ·exact Ent.canq [] RF.any.qo.qv.qt.qv.qv (.ce (.nil _)) (.nil _)
   ·clear h hy169
    rintro ⟨s11_0, s11_1⟩ x h
    rw [f130_75_s11] at h
    refine AW.seq ?_
    refine AW.regL [0, 2, 4, 14, 15, 85] ?_
    generalize hK : AW Tryz.prog _ _ _ = K
    simp only [go_sem, ↓reduceIte, reduceCtorEq, Nat.reduceAdd, Nat.reduceSub, Nat.reduceMul, Nat.reduceEqDiff, Nat.reduceLT, Nat.reduceLeDiff, Nat.reduceBEq, Int.reduceAdd, Int.reduceSub, Int.reduceLT, Int.reduceLE, Int.reduceEq, Int.reduceToNat, eq_false c42, eq_true c135]
    subst hK
    by_cases c163 : s11_1 < s11_0
    ·rw [if_pos c163] at h
     refine AW.ifT rfl c163 ?_
     refine AW.skip ?_
     refine thenA_n ?_
     refine AW.block ?_
     refine AW.regL [0, 2, 4, 14, 15, 16] ?_
     generalize hK : AW Tryz.prog _ _ _ = K
     simp only [go_sem, ↓reduceIte, reduceCtorEq, Nat.reduceAdd, Nat.reduceSub, Nat.reduceMul, Nat.reduceEqDiff, Nat.reduceLT, Nat.reduceLeDiff, Nat.reduceBEq, Int.reduceAdd, Int.reduceSub, Int.reduceLT, Int.reduceLE, Int.reduceEq, Int.reduceToNat, eq_false c42, eq_true c135, eq_true c163]
     subst hK
     obtain ⟨x164, hx164, h⟩ := Option.bind_eq_some_iff.1 h
     obtain ⟨hx164a, hx164b⟩ := ix_some.1 hx164
     obtain ⟨x165, hx165, h⟩ := Option.bind_eq_some_iff.1 h
     obtain ⟨hx165a, hx165b⟩ := ix_some.1 hx165
     obtain ⟨x166, hx166, h⟩ := Option.bind_eq_some_iff.1 h
     refine AW.regdL [0, 2, 4, 14, 15, 16, 103] [[], [], [], [1, 2], [1, 2, 3], [], [], [5, 6], [5, 6, 7], [0, 1, 2, 3, 4, 5, 6, 7, 8], [0, 1, 2, 3, 4, 5, 6, 7, 8, 9], [0, 1, 2, 3, 4, 5, 6, 7, 8, 9, 10]] [0, 1, 2, 3, 4, 5, 6, 7, 8, 9, 10, 11] noFt (fun _ _ _ h => by simp [noFt] at h) draws (by kernel_rfl) (by kernel_rfl) ?_
     generalize hK : AW Tryz.prog _ _ _ = K
     simp only [go_sem, ↓reduceIte, reduceCtorEq, Nat.reduceAdd, Nat.reduceSub, Nat.reduceMul, Nat.reduceEqDiff, Nat.reduceLT, Nat.reduceLeDiff, Nat.reduceBEq, Int.reduceAdd, Int.reduceSub, Int.reduceLT, Int.reduceLE, Int.reduceEq, Int.reduceToNat, eq_false c42, eq_true c135, eq_true c163, natOf_le hx164a, hx164b, ix_lt hx164b, natOf_le hx165a, hx165b, ix_lt hx165b]
     refine adN.pc (ok75 x164 x165 x166 hx166) Tryz.call75 (callV_tmp (by simp only [upd_ap, Nat.reduceEqDiff, if_true, if_false, ↓reduceIte]; rfl)) (by simp only [go_sem, ↓reduceIte, reduceCtorEq, Nat.reduceAdd, Nat.reduceSub, Nat.reduceMul, Nat.reduceEqDiff, Nat.reduceLT, Nat.reduceLeDiff, Nat.reduceBEq, Int.reduceAdd, Int.reduceSub, Int.reduceLT, Int.reduceLE, Int.reduceEq, Int.reduceToNat, List.nil_append, List.append_nil, eq_false c42, eq_true c135, eq_true c163, natOf_le hx164a, hx164b, ix_lt hx164b, natOf_le hx165a, hx165b, ix_lt hx165b]) (by simp only [go_sem, ↓reduceIte, reduceCtorEq, Nat.reduceAdd, Nat.reduceSub, Nat.reduceMul, Nat.reduceEqDiff, Nat.reduceLT, Nat.reduceLeDiff, Nat.reduceBEq, Int.reduceAdd, Int.reduceSub, Int.reduceLT, Int.reduceLE, Int.reduceEq, Int.reduceToNat]) ?_
     simp only [go_sem, ↓reduceIte, reduceCtorEq, Nat.reduceAdd, Nat.reduceSub, Nat.reduceMul, Nat.reduceEqDiff, Nat.reduceLT, Nat.reduceLeDiff, Nat.reduceBEq, Int.reduceAdd, Int.reduceSub, Int.reduceLT, Int.reduceLE, Int.reduceEq, Int.reduceToNat, eq_false c42, eq_true c135, eq_true c163, natOf_le hx164a, hx164b, ix_lt hx164b, natOf_le hx165a, hx165b, ix_lt hx165b]
     subst hK
     by_cases c167 : x166 < 0
     ·rw [if_pos c167] at h
      refine AW.ifNF rfl c167 ?_
      refine AW.regionL [0, 2, 4, 14, 15] ?_
      generalize hK : inBlockA _ _ Exit.normal = K
      simp only [go_sem, ↓reduceIte, reduceCtorEq, Nat.reduceAdd, Nat.reduceSub, Nat.reduceMul, Nat.reduceEqDiff, Nat.reduceLT, Nat.reduceLeDiff, Nat.reduceBEq, Int.reduceAdd, Int.reduceSub, Int.reduceLT, Int.reduceLE, Int.reduceEq, Int.reduceToNat, eq_false c42, eq_true c135, eq_true c163, eq_true c167]
      subst hK
      refine block_n ?_
      refine thenA_n ?_
      refine ⟨_, (Option.some.inj h).symm, ?_⟩
      exact Ent.canq [] RF.any.qo.qv.qt.qv.qv (.ce (.nil _)) (.nil _)
     ·rw [if_neg c167] at h
      refine AW.ifNT rfl c167 ?_
      refine AW.regionL [0, 2, 4, 14, 15] ?_
      generalize hK : inBlockA _ _ Exit.normal = K
      simp only [go_sem, ↓reduceIte, reduceCtorEq, Nat.reduceAdd, Nat.reduceSub, Nat.reduceMul, Nat.reduceEqDiff, Nat.reduceLT, Nat.reduceLeDiff, Nat.reduceBEq, Int.reduceAdd, Int.reduceSub, Int.reduceLT, Int.reduceLE, Int.reduceEq, Int.reduceToNat, eq_false c42, eq_true c135, eq_true c163, eq_false c167]
      subst hK
      refine block_n ?_
      refine thenA_n ?_
      refine ⟨_, (Option.some.inj h).symm, ?_⟩
      exact Ent.canq [] RF.any.qo.qv.qt.qv.qv (.ce (.nil _)) (.nil _)
    ·rw [if_neg c163] at h
     refine AW.ifF rfl c163 ?_
     refine AW.exit ?_
     refine thenA_x ?_
     refine thenA_x ?_
     refine ⟨_, (Option.some.inj h).symm, _, ?_, rfl, rfl⟩
     exact Ent.canq [] RF.any.qo.qv.qv (.ce (.nil _)) (.nil _)
   ·intro e st' hX
    try dsimp only at h
    try dsimp only at hX
    obtain ⟨rfl, rfl⟩ := hX
    refine ⟨_, Ent.refl, ?_⟩
    refine block_x ?_
    refine thenA_n ?_
    refine AW.seq ?_
    refine AW.regL [0, 14, 17] ?_
    generalize hK : AW Tryz.prog _ _ _ = K
    simp only [go_sem, ↓reduceIte, reduceCtorEq, Nat.reduceAdd, Nat.reduceSub, Nat.reduceMul, Nat.reduceEqDiff, Nat.reduceLT, Nat.reduceLeDiff, Nat.reduceBEq, Int.reduceAdd, Int.reduceSub, Int.reduceLT, Int.reduceLE, Int.reduceEq, Int.reduceToNat, eq_false c42, eq_true c135]
    subst hK
    refine AW.block ?_
    obtain ⟨y186, hy186, h⟩ := Option.bind_eq_some_iff.1 h
    refine AW.loopO (fun s => ⟨(upd (upd (upd anyF 0 (.own 0 0 s.1.length)) 14 (.val (.int .i64 y169))) 17 (.val (.int .i64 s.2))), hpL [some (.row 3 true (List.map encRes s.1))] [], 8⟩) (fun z e st' => e = Exit.exit 6 ∧ st' = ⟨anyF, hpL [some (.row 3 true (List.map encRes z))] [], 8⟩) hy186 ?_ ?_ ?_
    ·exact Ent.canq [] RF.any.qo.qv.qv (.ce (.nil _)) (.nil _)
    ·clear h hy186
     rintro ⟨s12_0, s12_1⟩ x h
     rw [f130_75_s12] at h
     refine AW.seq ?_
     refine AW.regL [0, 14, 17, 110] ?_
     generalize hK : AW Tryz.prog _ _ _ = K
     simp only [go_sem, ↓reduceIte, reduceCtorEq, Nat.reduceAdd, Nat.reduceSub, Nat.reduceMul, Nat.reduceEqDiff, Nat.reduceLT, Nat.reduceLeDiff, Nat.reduceBEq, Int.reduceAdd, Int.reduceSub, Int.reduceLT, Int.reduceLE, Int.reduceEq, Int.reduceToNat, eq_false c42, eq_true c135]
     subst hK
     by_cases c181 : y169 < s12_1
     ·rw [if_pos c181] at h
      refine AW.ifT rfl c181 ?_
      refine AW.skip ?_
      refine thenA_n ?_
      refine AW.seq ?_
      refine AW.block ?_
      obtain ⟨x182, hx182, h⟩ := Option.bind_eq_some_iff.1 h
      obtain ⟨hx182a, hx182b⟩ := ix_some.1 hx182
      obtain ⟨x183, hx183, h⟩ := Option.bind_eq_some_iff.1 h
      obtain ⟨hx183a, hx183b⟩ := ix_some.1 hx183
      obtain ⟨x184, hx184, h⟩ := Option.bind_eq_some_iff.1 h
      obtain ⟨hx184a, hx184b⟩ := ix_some.1 hx184
      refine AW.drawL [0, 14, 17] [[], [], [], [], [3], [], [], [6], [5, 6, 7], [5, 6, 7, 8], [], [], [10, 11], [10, 11, 12], [0, 1, 5, 6, 7, 8, 9, 10, 11, 12, 13], [0, 1, 5, 6, 7, 8, 9, 10, 11, 12, 13, 14], [0, 1, 2, 3, 4, 5, 6, 7, 8, 9, 10, 11, 12, 13, 14, 15], [0, 1, 2, 3, 4, 5, 6, 7, 8, 9, 10, 11, 12, 13, 14, 15, 16]] [0, 1, 2, 3, 4, 5, 6, 7, 8, 9, 10, 11, 12, 13, 14, 15, 16, 17] noFt (fun _ _ _ h => by simp [noFt] at h) draws (by kernel_rfl) (by kernel_rfl) ?_
      generalize hK : inBlockA _ _ Exit.normal = K
      simp only [go_sem, ↓reduceIte, reduceCtorEq, Nat.reduceAdd, Nat.reduceSub, Nat.reduceMul, Nat.reduceEqDiff, Nat.reduceLT, Nat.reduceLeDiff, Nat.reduceBEq, Int.reduceAdd, Int.reduceSub, Int.reduceLT, Int.reduceLE, Int.reduceEq, Int.reduceToNat, eq_false c42, eq_true c135, eq_true c181, natOf_le hx182a, hx182b, ix_lt hx182b, natOf_le hx183a, hx183b, ix_lt hx183b, set_row (enc := encRes) (y := x182) (r := [.val (.string x182.Key), .val (.string x182.Val), .sl (List.map enc3 x182.Offs)]) rfl, natOf_le hx184a, hx184b, ix_lt hx184b, set_row (enc := encRes) (y := x183) (r := [.val (.string x183.Key), .val (.string x183.Val), .sl (List.map enc3 x183.Offs)]) rfl]
      subst hK
      refine block_n ?_
      refine thenA_n ?_
      refine AW.regionL [0, 14, 17] ?_
      generalize hK : thenA _ _ Exit.normal = K
      simp only [go_sem, ↓reduceIte, reduceCtorEq, Nat.reduceAdd, Nat.reduceSub, Nat.reduceMul, Nat.reduceEqDiff, Nat.reduceLT, Nat.reduceLeDiff, Nat.reduceBEq, Int.reduceAdd, Int.reduceSub, Int.reduceLT, Int.reduceLE, Int.reduceEq, Int.reduceToNat, eq_false c42, eq_true c135, eq_true c181]
      subst hK
      refine thenA_n ?_
      refine ⟨_, (Option.some.inj h).symm, ?_⟩
      exact Ent.canq [] RF.any.qo.qv.qv (.ce (.nil _)) (.nil _)
     ·rw [if_neg c181] at h
      refine AW.ifF rfl c181 ?_
      refine AW.exit ?_
      refine thenA_x ?_
      refine thenA_x ?_
      refine ⟨_, (Option.some.inj h).symm, _, ?_, rfl, rfl⟩
      exact Ent.canq [] RF.any (.ce (.nil _)) (.nil _)
    ·intro e st' hX
     try dsimp only at h
     try dsimp only at hX
     obtain ⟨rfl, rfl⟩ := hX
     refine ⟨_, Ent.refl, ?_⟩
     refine block_x ?_
     refine thenA_n ?_
     refine AW.ent (st' := ⟨anyF, hpL [some (.row 3 true (List.map encRes y186))] [], 8⟩) ?_ ?_
     · refine Ent.can [] _ _ _ rfl (by first | decide | simp) rfl ?_ ?_ ?_
       · exact RF.any
       · exact .ce (.nil _)
       · exact .nil _
     refine AW.ret ?_
     refine thenA_r ?_
     obtain rfl := Option.some.inj h
     exact ⟨_, Ent.refl, rfl, rfl, _, rfl, by first | rfl | simp [resOf, upd_ap, bytesI_len]⟩
  ·rw [if_neg c135] at h
   refine AW.ifF rfl c135 ?_
   refine AW.skip ?_
   refine thenA_n ?_
   refine AW.regL [0, 1, 2, 3, 4, 18] ?_
   generalize hK : AW Tryz.prog _ _ _ = K
   simp only [go_sem, ↓reduceIte, reduceCtorEq, Nat.reduceAdd, Nat.reduceSub, Nat.reduceMul, Nat.reduceEqDiff, Nat.reduceLT, Nat.reduceLeDiff, Nat.reduceBEq, Int.reduceAdd, Int.reduceSub, Int.reduceLT, Int.reduceLE, Int.reduceEq, Int.reduceToNat, eq_false c42, eq_false c135]
   subst hK
   refine AW.regL [0, 1, 2, 3, 4, 18, 19] ?_
   generalize hK : AW Tryz.prog _ _ _ = K
   simp only [go_sem, ↓reduceIte, reduceCtorEq, Nat.reduceAdd, Nat.reduceSub, Nat.reduceMul, Nat.reduceEqDiff, Nat.reduceLT, Nat.reduceLeDiff, Nat.reduceBEq, Int.reduceAdd, Int.reduceSub, Int.reduceLT, Int.reduceLE, Int.reduceEq, Int.reduceToNat, eq_false c42, eq_false c135]
   subst hK
   refine AW.regL [0, 1, 2, 3, 4, 18, 19] ?_
   generalize hK : AW Tryz.prog _ _ _ = K
   simp only [go_sem, ↓reduceIte, reduceCtorEq, Nat.reduceAdd, Nat.reduceSub, Nat.reduceMul, Nat.reduceEqDiff, Nat.reduceLT, Nat.reduceLeDiff, Nat.reduceBEq, Int.reduceAdd, Int.reduceSub, Int.reduceLT, Int.reduceLE, Int.reduceEq, Int.reduceToNat, eq_false c42, eq_false c135]
   subst hK
   refine AW.join (fun s => ⟨(upd (upd (upd (upd (upd (upd (upd (upd (upd anyF 0 (.own 0 0 a0.length)) 1 (.val (.int .i64 a1))) 2 (.val (.int .i64 a2))) 3 (.val (.int .i64 a3))) 4 (.clo (.func 75) [] [])) 18 (.val (.int .i64 (IntKind.i64.wrap (shrV .u64 (IntKind.u64.wrap (IntKind.i64.wrap (a1 + a3))) 1))))) 19 (.val (.int .i64 (IntKind.i64.wrap ((IntKind.i64.wrap (shrV .u64 (IntKind.u64.wrap (IntKind.i64.wrap (a1 + a3))) 1)) + a2))))) 20 (.val (.int .i64 s.1))) 21 (.val (.int .i64 s.2))), hpL [some (.row 3 true (List.map encRes a0))] [], 8⟩) (fun s => f130_75_j1 a0 a1 a2 a3 rec130 s = some r) ?_ ?_
   ·refine AW.regL [0, 1, 2, 3, 4, 18, 19, 140] ?_
    generalize hK : AW Tryz.prog _ _ _ = K
    simp only [go_sem, ↓reduceIte, reduceCtorEq, Nat.reduceAdd, Nat.reduceSub, Nat.reduceMul, Nat.reduceEqDiff, Nat.reduceLT, Nat.reduceLeDiff, Nat.reduceBEq, Int.reduceAdd, Int.reduceSub, Int.reduceLT, Int.reduceLE, Int.reduceEq, Int.reduceToNat, eq_false c42, eq_false c135]
    subst hK
    by_cases c242 : (IntKind.i64.wrap (shrV .u64 (IntKind.u64.wrap (IntKind.i64.wrap (a1 + a3))) 1)) < a2
    ·rw [if_pos c242] at h
     refine AW.ifT rfl c242 ?_
     refine AW.regL [0, 1, 2, 3, 4, 18, 19, 20] ?_
     generalize hK : AW Tryz.prog _ _ _ = K
     simp only [go_sem, ↓reduceIte, reduceCtorEq, Nat.reduceAdd, Nat.reduceSub, Nat.reduceMul, Nat.reduceEqDiff, Nat.reduceLT, Nat.reduceLeDiff, Nat.reduceBEq, Int.reduceAdd, Int.reduceSub, Int.reduceLT, Int.reduceLE, Int.reduceEq, Int.reduceToNat, eq_false c42, eq_false c135, eq_true c242]
     subst hK
     refine AW.regionL [0, 1, 2, 3, 4, 18, 19, 20, 21] ?_
     generalize hK : thenA _ _ Exit.normal = K
     simp only [go_sem, ↓reduceIte, reduceCtorEq, Nat.reduceAdd, Nat.reduceSub, Nat.reduceMul, Nat.reduceEqDiff, Nat.reduceLT, Nat.reduceLeDiff, Nat.reduceBEq, Int.reduceAdd, Int.reduceSub, Int.reduceLT, Int.reduceLE, Int.reduceEq, Int.reduceToNat, eq_false c42, eq_false c135, eq_true c242]
     subst hK
     refine thenA_n ?_
     refine ⟨_, h, ?_⟩
     exact Ent.canq [] RF.any.qo.qv.qv.qv.qt.qv.qv.qv.qv (.ce (.nil _)) (.nil _)
    ·rw [if_neg c242] at h
     refine AW.ifF rfl c242 ?_
     refine AW.regL [0, 1, 2, 3, 4, 18, 19, 20] ?_
     generalize hK : AW Tryz.prog _ _ _ = K
     simp only [go_sem, ↓reduceIte, reduceCtorEq, Nat.reduceAdd, Nat.reduceSub, Nat.reduceMul, Nat.reduceEqDiff, Nat.reduceLT, Nat.reduceLeDiff, Nat.reduceBEq, Int.reduceAdd, Int.reduceSub, Int.reduceLT, Int.reduceLE, Int.reduceEq, Int.reduceToNat, eq_false c42, eq_false c135, eq_false c242]
     subst hK
     refine AW.regionL [0, 1, 2, 3, 4, 18, 19, 20, 21] ?_
     generalize hK : thenA _ _ Exit.normal = K
     simp only [go_sem, ↓reduceIte, reduceCtorEq, Nat.reduceAdd, Nat.reduceSub, Nat.reduceMul, Nat.reduceEqDiff, Nat.reduceLT, Nat.reduceLeDiff, Nat.reduceBEq, Int.reduceAdd, Int.reduceSub, Int.reduceLT, Int.reduceLE, Int.reduceEq, Int.reduceToNat, eq_false c42, eq_false c135, eq_false c242]
     subst hK
     refine thenA_n ?_
     refine ⟨_, h, ?_⟩
     exact Ent.canq [] RF.any.qo.qv.qv.qv.qt.qv.qv.qv.qv (.ce (.nil _)) (.nil _)
   ·clear h
    rintro ⟨j1_0, j1_1⟩ h
    rw [f130_75_j1] at h
    refine AW.regL [0, 1, 2, 3, 4, 18, 19, 20, 21, 22] ?_
    generalize hK : AW Tryz.prog _ _ _ = K
    simp only [go_sem, ↓reduceIte, reduceCtorEq, Nat.reduceAdd, Nat.reduceSub, Nat.reduceMul, Nat.reduceEqDiff, Nat.reduceLT, Nat.reduceLeDiff, Nat.reduceBEq, Int.reduceAdd, Int.reduceSub, Int.reduceLT, Int.reduceLE, Int.reduceEq, Int.reduceToNat, eq_false c42, eq_false c135]
    subst hK
    refine AW.seq ?_
    refine AW.block ?_
    obtain ⟨y221, hy221, h⟩ := Option.bind_eq_some_iff.1 h
    refine AW.loopO (fun s => ⟨(upd (upd (upd (upd (upd (upd (upd (upd (upd (upd anyF 0 (.own 0 0 a0.length)) 1 (.val (.int .i64 a1))) 2 (.val (.int .i64 a2))) 3 (.val (.int .i64 a3))) 4 (.clo (.func 75) [] [])) 18 (.val (.int .i64 (IntKind.i64.wrap (shrV .u64 (IntKind.u64.wrap (IntKind.i64.wrap (a1 + a3))) 1))))) 19 (.val (.int .i64 (IntKind.i64.wrap ((IntKind.i64.wrap (shrV .u64 (IntKind.u64.wrap (IntKind.i64.wrap (a1 + a3))) 1)) + a2))))) 20 (.val (.int .i64 s.2))) 21 (.val (.int .i64 s.1))) 22 (.val (.int .i64 (IntKind.i64.wrap ((IntKind.i64.wrap ((IntKind.i64.wrap (shrV .u64 (IntKind.u64.wrap (IntKind.i64.wrap (a1 + a3))) 1)) + a2)) - 1))))), hpL [some (.row 3 true (List.map encRes a0))] [], 8⟩) (fun z e st' => e = Exit.exit 8 ∧ st' = ⟨(upd (upd (upd (upd (upd (upd (upd (upd anyF 0 (.own 0 0 a0.length)) 1 (.val (.int .i64 a1))) 2 (.val (.int .i64 a2))) 3 (.val (.int .i64 a3))) 4 (.clo (.func 75) [] [])) 18 (.val (.int .i64 (IntKind.i64.wrap (shrV .u64 (IntKind.u64.wrap (IntKind.i64.wrap (a1 + a3))) 1))))) 19 (.val (.int .i64 (IntKind.i64.wrap ((IntKind.i64.wrap (shrV .u64 (IntKind.u64.wrap (IntKind.i64.wrap (a1 + a3))) 1)) + a2))))) 20 (.val (.int .i64 z))), hpL [some (.row 3 true (List.map encRes a0))] [], 8⟩) hy221 ?_ ?_ ?_
    ·exact Ent.canq [] RF.any.qo.qv.qv.qv.qt.qv.qv.qv.qv.qv (.ce (.nil _)) (.nil _)
    ·clear h hy221
     rintro ⟨s14_0, s14_1⟩ x h
     rw [f130_75_s14] at h
     refine AW.seq ?_
     refine AW.regL [0, 1, 2, 3, 4, 18, 19, 20, 21, 22, 151] ?_
     generalize hK : AW Tryz.prog _ _ _ = K
     simp only [go_sem, ↓reduceIte, reduceCtorEq, Nat.reduceAdd, Nat.reduceSub, Nat.reduceMul, Nat.reduceEqDiff, Nat.reduceLT, Nat.reduceLeDiff, Nat.reduceBEq, Int.reduceAdd, Int.reduceSub, Int.reduceLT, Int.reduceLE, Int.reduceEq, Int.reduceToNat, eq_false c42, eq_false c135]
     subst hK
     by_cases c215 : s14_1 < s14_0
     ·rw [if_pos c215] at h
      refine AW.ifT rfl c215 ?_
      refine AW.skip ?_
      refine thenA_n ?_
      refine AW.block ?_
      refine AW.regL [0, 1, 2, 3, 4, 18, 19, 20, 21, 22, 23] ?_
      generalize hK : AW Tryz.prog _ _ _ = K
      simp only [go_sem, ↓reduceIte, reduceCtorEq, Nat.reduceAdd, Nat.reduceSub, Nat.reduceMul, Nat.reduceEqDiff, Nat.reduceLT, Nat.reduceLeDiff, Nat.reduceBEq, Int.reduceAdd, Int.reduceSub, Int.reduceLT, Int.reduceLE, Int.reduceEq, Int.reduceToNat, eq_false c42, eq_false c135, eq_true c215]
      subst hK
      obtain ⟨x216, hx216, h⟩ := Option.bind_eq_some_iff.1 h
      obtain ⟨hx216a, hx216b⟩ := ix_some.1 hx216
      obtain ⟨x217, hx217, h⟩ := Option.bind_eq_some_iff.1 h
      obtain ⟨hx217a, hx217b⟩ := ix_some.1 hx217
      obtain ⟨x218, hx218, h⟩ := Option.bind_eq_some_iff.1 h
      refine AW.regdL [0, 1, 2, 3, 4, 18, 19, 20, 21, 22, 23, 171] [[], [], [], [], [2, 3], [1, 2, 3, 4], [1, 2, 3, 4, 5], [], [], [7, 8], [7, 8, 9], [0, 1, 2, 3, 4, 5, 6, 7, 8, 9, 10], [0, 1, 2, 3, 4, 5, 6, 7, 8, 9, 10, 11], [0, 1, 2, 3, 4, 5, 6, 7, 8, 9, 10, 11, 12]] [0, 1, 2, 3, 4, 5, 6, 7, 8, 9, 10, 11, 12, 13] noFt (fun _ _ _ h => by simp [noFt] at h) draws (by kernel_rfl) (by kernel_rfl) ?_
      generalize hK : AW Tryz.prog _ _ _ = K
      simp only [go_sem, ↓reduceIte, reduceCtorEq, Nat.reduceAdd, Nat.reduceSub, Nat.reduceMul, Nat.reduceEqDiff, Nat.reduceLT, Nat.reduceLeDiff, Nat.reduceBEq, Int.reduceAdd, Int.reduceSub, Int.reduceLT, Int.reduceLE, Int.reduceEq, Int.reduceToNat, eq_false c42, eq_false c135, eq_true c215, natOf_le hx216a, hx216b, ix_lt hx216b, natOf_le hx217a, hx217b, ix_lt hx217b]
      refine adN.pc (ok75 x216 x217 x218 hx218) Tryz.call75 (callV_tmp (by simp only [upd_ap, Nat.reduceEqDiff, if_true, if_false, ↓reduceIte]; rfl)) (by simp only [go_sem, ↓reduceIte, reduceCtorEq, Nat.reduceAdd, Nat.reduceSub, Nat.reduceMul, Nat.reduceEqDiff, Nat.reduceLT, Nat.reduceLeDiff, Nat.reduceBEq, Int.reduceAdd, Int.reduceSub, Int.reduceLT, Int.reduceLE, Int.reduceEq, Int.reduceToNat, List.nil_append, List.append_nil, eq_false c42, eq_false c135, eq_true c215, natOf_le hx216a, hx216b, ix_lt hx216b, natOf_le hx217a, hx217b, ix_lt hx217b]) (by simp only [go_sem, ↓reduceIte, reduceCtorEq, Nat.reduceAdd, Nat.reduceSub, Nat.reduceMul, Nat.reduceEqDiff, Nat.reduceLT, Nat.reduceLeDiff, Nat.reduceBEq, Int.reduceAdd, Int.reduceSub, Int.reduceLT, Int.reduceLE, Int.reduceEq, Int.reduceToNat]) ?_
      simp only [go_sem, ↓reduceIte, reduceCtorEq, Nat.reduceAdd, Nat.reduceSub, Nat.reduceMul, Nat.reduceEqDiff, Nat.reduceLT, Nat.reduceLeDiff, Nat.reduceBEq, Int.reduceAdd, Int.reduceSub, Int.reduceLT, Int.reduceLE, Int.reduceEq, Int.reduceToNat, eq_false c42, eq_false c135, eq_true c215, natOf_le hx216a, hx216b, ix_lt hx216b, natOf_le hx217a, hx217b, ix_lt hx217b]
      subst hK
      by_cases c219 : x218 < 0
      ·rw [if_pos c219] at h
       refine AW.ifNF rfl c219 ?_
       refine AW.regionL [0, 1, 2, 3, 4, 18, 19, 20, 21, 22] ?_
       generalize hK : inBlockA _ _ Exit.normal = K
       simp only [go_sem, ↓reduceIte, reduceCtorEq, Nat.reduceAdd, Nat.reduceSub, Nat.reduceMul, Nat.reduceEqDiff, Nat.reduceLT, Nat.reduceLeDiff, Nat.reduceBEq, Int.reduceAdd, Int.reduceSub, Int.reduceLT, Int.reduceLE, Int.reduceEq, Int.reduceToNat, eq_false c42, eq_false c135, eq_true c215, eq_true c219]
       subst hK
       refine block_n ?_
       refine thenA_n ?_
       refine ⟨_, (Option.some.inj h).symm, ?_⟩
       exact Ent.canq [] RF.any.qo.qv.qv.qv.qt.qv.qv.qv.qv.qv (.ce (.nil _)) (.nil _)
      ·rw [if_neg c219] at h
       refine AW.ifNT rfl c219 ?_
       refine AW.regionL [0, 1, 2, 3, 4, 18, 19, 20, 21, 22] ?_
       generalize hK : inBlockA _ _ Exit.normal = K
       simp only [go_sem, ↓reduceIte, reduceCtorEq, Nat.reduceAdd, Nat.reduceSub, Nat.reduceMul, Nat.reduceEqDiff, Nat.reduceLT, Nat.reduceLeDiff, Nat.reduceBEq, Int.reduceAdd, Int.reduceSub, Int.reduceLT, Int.reduceLE, Int.reduceEq, Int.reduceToNat, eq_false c42, eq_false c135, eq_true c215, eq_false c219]
       subst hK
       refine block_n ?_
       refine thenA_n ?_
       refine ⟨_, (Option.some.inj h).symm, ?_⟩
       exact Ent.canq [] RF.any.qo.qv.qv.qv.qt.qv.qv.qv.qv.qv (.ce (.nil _)) (.nil _)
     ·rw [if_neg c215] at h
      refine AW.ifF rfl c215 ?_
      refine AW.exit ?_
      refine thenA_x ?_
      refine thenA_x ?_
      refine ⟨_, (Option.some.inj h).symm, _, ?_, rfl, rfl⟩
      exact Ent.canq [] RF.any.qo.qv.qv.qv.qt.qv.qv.qv (.ce (.nil _)) (.nil _)
    ·intro e st' hX
     try dsimp only at h
     try dsimp only at hX
     obtain ⟨rfl, rfl⟩ := hX
     refine ⟨_, Ent.refl, ?_⟩
     refine block_x ?_
     refine thenA_n ?_
     refine AW.regL [0, 1, 2, 3, 4, 18, 20, 24] ?_
     generalize hK : AW Tryz.prog _ _ _ = K
     simp only [go_sem, ↓reduceIte, reduceCtorEq, Nat.reduceAdd, Nat.reduceSub, Nat.reduceMul, Nat.reduceEqDiff, Nat.reduceLT, Nat.reduceLeDiff, Nat.reduceBEq, Int.reduceAdd, Int.reduceSub, Int.reduceLT, Int.reduceLE, Int.reduceEq, Int.reduceToNat, eq_false c42, eq_false c135]
     subst hK
     refine AW.join (fun s => ⟨(upd (upd (upd (upd (upd (upd (upd anyF 0 (.own 0 0 s.length)) 1 (.val (.int .i64 a1))) 3 (.val (.int .i64 a3))) 4 (.clo (.func 75) [] [])) 18 (.val (.int .i64 (IntKind.i64.wrap (shrV .u64 (IntKind.u64.wrap (IntKind.i64.wrap (a1 + a3))) 1))))) 20 (.val (.int .i64 y221))) 24 (.val (.int .i64 (IntKind.i64.wrap ((IntKind.i64.wrap ((IntKind.i64.wrap (shrV .u64 (IntKind.u64.wrap (IntKind.i64.wrap (a1 + a3))) 1)) + a2)) - y221))))), hpL [some (.row 3 true (List.map encRes s))] [], 8⟩) (fun s => f130_75_j2 a1 a2 a3 rec130 y221 s = some r) ?_ ?_
     ·by_cases c238 : y221 < a2
      ·rw [if_pos c238] at h
       refine AW.regL [0, 1, 2, 3, 4, 18, 20, 24, 185] ?_
       generalize hK : AW Tryz.prog _ _ _ = K
       simp only [go_sem, ↓reduceIte, reduceCtorEq, Nat.reduceAdd, Nat.reduceSub, Nat.reduceMul, Nat.reduceEqDiff, Nat.reduceLT, Nat.reduceLeDiff, Nat.reduceBEq, Int.reduceAdd, Int.reduceSub, Int.reduceLT, Int.reduceLE, Int.reduceEq, Int.reduceToNat, eq_false c42, eq_false c135, eq_true c238]
       subst hK
       by_cases c239 : a2 < (IntKind.i64.wrap ((IntKind.i64.wrap ((IntKind.i64.wrap (shrV .u64 (IntKind.u64.wrap (IntKind.i64.wrap (a1 + a3))) 1)) + a2)) - y221))
       ·rw [if_pos c239] at h
        refine AW.ifT rfl c239 ?_
        obtain ⟨x240, hx240, h⟩ := Option.bind_eq_some_iff.1 h
        obtain ⟨x241, hx241, h⟩ := Option.bind_eq_some_iff.1 h
        have lenhx240 : x240.length = a0.length := guardO_some.1 hx241
        refine AW.regionL [0, 1, 3, 4, 18, 20, 24] ?_
        generalize hK : thenA _ _ Exit.normal = K
        simp only [go_sem, ↓reduceIte, reduceCtorEq, Nat.reduceAdd, Nat.reduceSub, Nat.reduceMul, Nat.reduceEqDiff, Nat.reduceLT, Nat.reduceLeDiff, Nat.reduceBEq, Int.reduceAdd, Int.reduceSub, Int.reduceLT, Int.reduceLE, Int.reduceEq, Int.reduceToNat, eq_false c42, eq_false c135, eq_true c238, eq_true c239, lenhx240]
        refine arC.ok (CallOk.ic (us' := _) (ok149_75 a0 y221 a2 (IntKind.i64.wrap ((IntKind.i64.wrap ((IntKind.i64.wrap (shrV .u64 (IntKind.u64.wrap (IntKind.i64.wrap (a1 + a3))) 1)) + a2)) - y221)) x240 hx240) [0] rfl (by decide) (by simp) (by simp) (by simp) (by simp) (.cons (.eq (by simp only [go_sem]) (by first | rfl | simp [upd_ap, hpL_ap, sg_ap])) (.nil _)) (by simp only [mapTL_cons, mapTL_nil, mapT_ptr, mapT_own, mapT_val, mapT_sl, mapT_agg, mapT_ip, mapT_clo, mapT_ifc, sg_ap, List.getD_cons_zero, List.getD_cons_succ]; exact (.cons (.of (by first | rfl | simp [mapT_own, sg_ap, eq_false c42, eq_false c135, eq_true c238, eq_true c239])) (.cons (.of rfl) (.cons (.of rfl) (.cons (.of rfl) (.cons (.of rfl) .nil)))))) (by simp only [go_sem, List.length_cons, List.length_nil, Nat.reduceAdd, Nat.reduceLT, decide_true]) (by simp [AObj.isMut]) (by simp [go_sem]) (by simp [go_sem])) Tryz.call149 ?_
        simp only [go_sem, ↓reduceIte, reduceCtorEq, Nat.reduceAdd, Nat.reduceSub, Nat.reduceMul, Nat.reduceEqDiff, Nat.reduceLT, Nat.reduceLeDiff, Nat.reduceBEq, Int.reduceAdd, Int.reduceSub, Int.reduceLT, Int.reduceLE, Int.reduceEq, Int.reduceToNat, eq_false c42, eq_false c135, eq_true c238, eq_true c239, lenhx240]
        subst hK
        refine thenA_n ?_
        refine ⟨_, h, ?_⟩
        exact Ent.canq [] RF.any.qo.qv.qv.qt.qv.qv.qv (.ce (.nil _)) (.nil _)
       ·rw [if_neg c239] at h
        refine AW.ifF rfl c239 ?_
        refine AW.skip ?_
        refine thenA_n ?_
        refine ⟨_, h, ?_⟩
        exact Ent.canq [] RF.any.qo.qv.qv.qt.qv.qv.qv (.ce (.nil _)) (.nil _)
      ·rw [if_neg c238] at h
       refine AW.regL [0, 1, 2, 3, 4, 18, 20, 24, 185] ?_
       generalize hK : AW Tryz.prog _ _ _ = K
       simp only [go_sem, ↓reduceIte, reduceCtorEq, Nat.reduceAdd, Nat.reduceSub, Nat.reduceMul, Nat.reduceEqDiff, Nat.reduceLT, Nat.reduceLeDiff, Nat.reduceBEq, Int.reduceAdd, Int.reduceSub, Int.reduceLT, Int.reduceLE, Int.reduceEq, Int.reduceToNat, eq_false c42, eq_false c135, eq_false c238]
       subst hK
       refine AW.ifBF rfl rfl ?_
       refine AW.skip ?_
       refine thenA_n ?_
       refine ⟨_, h, ?_⟩
       exact Ent.canq [] RF.any.qo.qv.qv.qt.qv.qv.qv (.ce (.nil _)) (.nil _)
     ·clear h
      rintro j2_0 h
      rw [f130_75_j2] at h
      refine AW.join (fun s => ⟨(upd (upd (upd (upd (upd anyF 0 (.own 0 0 s.length)) 3 (.val (.int .i64 a3))) 4 (.clo (.func 75) [] [])) 18 (.val (.int .i64 (IntKind.i64.wrap (shrV .u64 (IntKind.u64.wrap (IntKind.i64.wrap (a1 + a3))) 1))))) 24 (.val (.int .i64 (IntKind.i64.wrap ((IntKind.i64.wrap ((IntKind.i64.wrap (shrV .u64 (IntKind.u64.wrap (IntKind.i64.wrap (a1 + a3))) 1)) + a2)) - y221))))), hpL [some (.row 3 true (List.map encRes s))] [], 8⟩) (fun s => f130_75_j3 a1 a2 a3 rec130 y221 s = some r) ?_ ?_
      ·by_cases c234 : a1 < y221
       ·rw [if_pos c234] at h
        refine AW.regL [0, 1, 3, 4, 18, 20, 24, 199] ?_
        generalize hK : AW Tryz.prog _ _ _ = K
        simp only [go_sem, ↓reduceIte, reduceCtorEq, Nat.reduceAdd, Nat.reduceSub, Nat.reduceMul, Nat.reduceEqDiff, Nat.reduceLT, Nat.reduceLeDiff, Nat.reduceBEq, Int.reduceAdd, Int.reduceSub, Int.reduceLT, Int.reduceLE, Int.reduceEq, Int.reduceToNat, eq_false c42, eq_false c135, eq_true c234]
        subst hK
        by_cases c235 : y221 < (IntKind.i64.wrap (shrV .u64 (IntKind.u64.wrap (IntKind.i64.wrap (a1 + a3))) 1))
        ·rw [if_pos c235] at h
         refine AW.ifT rfl c235 ?_
         obtain ⟨x236, hx236, h⟩ := Option.bind_eq_some_iff.1 h
         obtain ⟨x237, hx237, h⟩ := Option.bind_eq_some_iff.1 h
         have lenhx236 : x236.length = j2_0.length := guardO_some.1 hx237
         refine AW.regionL [0, 3, 4, 18, 24] ?_
         generalize hK : thenA _ _ Exit.normal = K
         simp only [go_sem, ↓reduceIte, reduceCtorEq, Nat.reduceAdd, Nat.reduceSub, Nat.reduceMul, Nat.reduceEqDiff, Nat.reduceLT, Nat.reduceLeDiff, Nat.reduceBEq, Int.reduceAdd, Int.reduceSub, Int.reduceLT, Int.reduceLE, Int.reduceEq, Int.reduceToNat, eq_false c42, eq_false c135, eq_true c234, eq_true c235, lenhx236]
         refine arC.ok (CallOk.icq (us' := _) (hrec130 j2_0 a1 y221 (IntKind.i64.wrap (shrV .u64 (IntKind.u64.wrap (IntKind.i64.wrap (a1 + a3))) 1)) x236 hx236) [0] (.cons (.eq (by simp only [go_sem]) (by first | rfl | simp [upd_ap, hpL_ap, sg_ap])) (.nil _)) (by simp only [mapTL_cons, mapTL_nil, mapT_ptr, mapT_own, mapT_val, mapT_sl, mapT_agg, mapT_ip, mapT_clo, mapT_ifc, sg_ap, List.getD_cons_zero, List.getD_cons_succ]; exact (.cons (.of (by first | rfl | simp [mapT_own, sg_ap, eq_false c42, eq_false c135, eq_true c234, eq_true c235])) (.cons (.of rfl) (.cons (.of rfl) (.cons (.of rfl) (.cons (.of rfl) .nil))))))) Tryz.call130 ?_
         simp only [go_sem, ↓reduceIte, reduceCtorEq, Nat.reduceAdd, Nat.reduceSub, Nat.reduceMul, Nat.reduceEqDiff, Nat.reduceLT, Nat.reduceLeDiff, Nat.reduceBEq, Int.reduceAdd, Int.reduceSub, Int.reduceLT, Int.reduceLE, Int.reduceEq, Int.reduceToNat, eq_false c42, eq_false c135, eq_true c234, eq_true c235, lenhx236]
         subst hK
         refine thenA_n ?_
         refine ⟨_, h, ?_⟩
         exact Ent.canq [] RF.any.qo.qv.qt.qv.qv (.ce (.nil _)) (.nil _)
        ·rw [if_neg c235] at h
         refine AW.ifF rfl c235 ?_
         refine AW.skip ?_
         refine thenA_n ?_
         refine ⟨_, h, ?_⟩
         exact Ent.canq [] RF.any.qo.qv.qt.qv.qv (.ce (.nil _)) (.nil _)
       ·rw [if_neg c234] at h
        refine AW.regL [0, 1, 3, 4, 18, 20, 24, 199] ?_
        generalize hK : AW Tryz.prog _ _ _ = K
        simp only [go_sem, ↓reduceIte, reduceCtorEq, Nat.reduceAdd, Nat.reduceSub, Nat.reduceMul, Nat.reduceEqDiff, Nat.reduceLT, Nat.reduceLeDiff, Nat.reduceBEq, Int.reduceAdd, Int.reduceSub, Int.reduceLT, Int.reduceLE, Int.reduceEq, Int.reduceToNat, eq_false c42, eq_false c135, eq_false c234]
        subst hK
        refine AW.ifBF rfl rfl ?_
        refine AW.skip ?_
        refine thenA_n ?_
        refine ⟨_, h, ?_⟩
        exact Ent.canq [] RF.any.qo.qv.qt.qv.qv (.ce (.nil _)) (.nil _)
      ·clear h
       rintro j3_0 h
       rw [f130_75_j3] at h
       by_cases c230 : (IntKind.i64.wrap (shrV .u64 (IntKind.u64.wrap (IntKind.i64.wrap (a1 + a3))) 1)) < (IntKind.i64.wrap ((IntKind.i64.wrap ((IntKind.i64.wrap (shrV .u64 (IntKind.u64.wrap (IntKind.i64.wrap (a1 + a3))) 1)) + a2)) - y221))
       ·rw [if_pos c230] at h
        refine AW.regL [0, 3, 4, 18, 24, 213] ?_
        generalize hK : AW Tryz.prog _ _ _ = K
        simp only [go_sem, ↓reduceIte, reduceCtorEq, Nat.reduceAdd, Nat.reduceSub, Nat.reduceMul, Nat.reduceEqDiff, Nat.reduceLT, Nat.reduceLeDiff, Nat.reduceBEq, Int.reduceAdd, Int.reduceSub, Int.reduceLT, Int.reduceLE, Int.reduceEq, Int.reduceToNat, eq_false c42, eq_false c135, eq_true c230]
        subst hK
        by_cases c231 : (IntKind.i64.wrap ((IntKind.i64.wrap ((IntKind.i64.wrap (shrV .u64 (IntKind.u64.wrap (IntKind.i64.wrap (a1 + a3))) 1)) + a2)) - y221)) < a3
        ·rw [if_pos c231] at h
         refine AW.ifT rfl c231 ?_
         obtain ⟨x232, hx232, h⟩ := Option.bind_eq_some_iff.1 h
         obtain ⟨x233, hx233, h⟩ := Option.bind_eq_some_iff.1 h
         have lenhx232 : x232.length = j3_0.length := guardO_some.1 hx233
         refine AW.regionL [] ?_
         generalize hK : finJ Tryz.prog _ _ _ _ _ Exit.normal = K
         simp only [go_sem, ↓reduceIte, reduceCtorEq, Nat.reduceAdd, Nat.reduceSub, Nat.reduceMul, Nat.reduceEqDiff, Nat.reduceLT, Nat.reduceLeDiff, Nat.reduceBEq, Int.reduceAdd, Int.reduceSub, Int.reduceLT, Int.reduceLE, Int.reduceEq, Int.reduceToNat, eq_false c42, eq_false c135, eq_true c230, eq_true c231, lenhx232]
         refine arC.ok (CallOk.ic (us' := _) (hrec130 j3_0 (IntKind.i64.wrap (shrV .u64 (IntKind.u64.wrap (IntKind.i64.wrap (a1 + a3))) 1)) (IntKind.i64.wrap ((IntKind.i64.wrap ((IntKind.i64.wrap (shrV .u64 (IntKind.u64.wrap (IntKind.i64.wrap (a1 + a3))) 1)) + a2)) - y221)) a3 x232 hx232) [0] rfl (by decide) (by simp) (by simp) (by simp) (by simp) (.cons (.eq (by simp only [go_sem]) (by first | rfl | simp [upd_ap, hpL_ap, sg_ap])) (.nil _)) (by simp only [mapTL_cons, mapTL_nil, mapT_ptr, mapT_own, mapT_val, mapT_sl, mapT_agg, mapT_ip, mapT_clo, mapT_ifc, sg_ap, List.getD_cons_zero, List.getD_cons_succ]; exact (.cons (.of (by first | rfl | simp [mapT_own, sg_ap, eq_false c42, eq_false c135, eq_true c230, eq_true c231])) (.cons (.of rfl) (.cons (.of rfl) (.cons (.of rfl) (.cons (.of rfl) .nil)))))) (by simp only [go_sem, List.length_cons, List.length_nil, Nat.reduceAdd, Nat.reduceLT, decide_true]) (by simp [AObj.isMut]) (by simp [go_sem]) (by simp [go_sem])) Tryz.call130 ?_
         simp only [go_sem, ↓reduceIte, reduceCtorEq, Nat.reduceAdd, Nat.reduceSub, Nat.reduceMul, Nat.reduceEqDiff, Nat.reduceLT, Nat.reduceLeDiff, Nat.reduceBEq, Int.reduceAdd, Int.reduceSub, Int.reduceLT, Int.reduceLE, Int.reduceEq, Int.reduceToNat, eq_false c42, eq_false c135, eq_true c230, eq_true c231, lenhx232]
         subst hK
         refine ⟨⟨anyF, hpL [some (.row 3 true (List.map encRes x232))] [], 8⟩, ?_, ?_⟩
         · refine Ent.can [] _ _ _ rfl (by first | decide | simp) rfl ?_ ?_ ?_
           · exact RF.any
           · exact .ce (.nil _)
           · exact .nil _
         obtain rfl := Option.some.inj h
         exact ⟨rfl, rfl, _, rfl, by first | rfl | simp [resOf, upd_ap, bytesI_len]⟩
        ·rw [if_neg c231] at h
         refine AW.ifF rfl c231 ?_
         refine AW.skip ?_
         refine ⟨⟨anyF, hpL [some (.row 3 true (List.map encRes j3_0))] [], 8⟩, ?_, ?_⟩
         · refine Ent.can [] _ _ _ rfl (by first | decide | simp) rfl ?_ ?_ ?_
           · exact RF.any
           · exact .ce (.nil _)
           · exact .nil _
         obtain rfl := Option.some.inj h
         exact ⟨rfl, rfl, _, rfl, by first | rfl | simp [resOf, upd_ap, bytesI_len]⟩
       ·rw [if_neg c230] at h
        refine AW.regL [0, 3, 4, 18, 24, 213] ?_
        generalize hK : AW Tryz.prog _ _ _ = K
        simp only [go_sem, ↓reduceIte, reduceCtorEq, Nat.reduceAdd, Nat.reduceSub, Nat.reduceMul, Nat.reduceEqDiff, Nat.reduceLT, Nat.reduceLeDiff, Nat.reduceBEq, Int.reduceAdd, Int.reduceSub, Int.reduceLT, Int.reduceLE, Int.reduceEq, Int.reduceToNat, eq_false c42, eq_false c135, eq_false c230]
        subst hK
        refine AW.ifBF rfl rfl ?_
        refine AW.skip ?_
        refine ⟨⟨anyF, hpL [some (.row 3 true (List.map encRes j3_0))] [], 8⟩, ?_, ?_⟩
        · refine Ent.can [] _ _ _ rfl (by first | decide | simp) rfl ?_ ?_ ?_
          · exact RF.any
          · exact .ce (.nil _)
          · exact .nil _
        obtain rfl := Option.some.inj h
        exact ⟨rfl, rfl, _, rfl, by first | rfl | simp [resOf, upd_ap, bytesI_len]⟩
noncomputable def f130_75 : Nat → (List Res) → Int → Int → Int → Option (List Res)
  | 0 => fun _ _ _ _ => none
  | n + 1 => fun a0 a1 a2 a3 => f130_75b (f130_75 n) a0 a1 a2 a3
theorem ok130_75 : ∀ (n : Nat) (a0 : List Res) (a1 : Int) (a2 : Int) (a3 : Int) (r : (List Res)), f130_75 n a0 a1 a2 a3 = some r → IC Tryz.prog 130 [some (.row 3 true (List.map encRes a0))] [.own 0 0 a0.length, .val (.int .i64 a1), .val (.int .i64 a2), .val (.int .i64 a3), .clo (.func 75) [] []] (.tup []) [some (.row 3 true (List.map encRes r))] []
  | 0, a0, a1, a2, a3, r, h => by cases h
  | n + 1, a0, a1, a2, a3, r, h => ok130_75b (f130_75 n) (ok130_75 n) a0 a1 a2 a3 r h
end Au
end Go.Proofs.Yt

set_option linter.all false
set_option maxRecDepth 8000
set_option maxHeartbeats 1000000
namespace Go.Proofs.Yt
open Go.Gm
namespace Au
noncomputable def f105_75_s2 (a1 : Int) : (List Res) × Int × Int → Option (((List Res) × Int × Int) ⊕ (Int × (List Res)))
  | (s2_0, s2_1, s2_2) => (if s2_2 ≤ a1 then ((f129_75 s2_0 s2_1 s2_2).bind fun x22 => ((guardO (x22.length = s2_0.length)).bind fun x23 => some (.inl (x22, s2_2, IntKind.i64.wrap (s2_2 + 20))))) else some (.inr (s2_1, s2_0)))
noncomputable def f105_75_s9 (a1 : Int) (s3_1 : Int) : (List Res) × Int × Int → Option (((List Res) × Int × Int) ⊕ (Int × (List Res)))
  | (s9_0, s9_1, s9_2) => (if s9_2 ≤ a1 then ((f130_75 fuel s9_0 s9_1 (IntKind.i64.wrap (s9_1 + s3_1)) s9_2).bind fun x106 => ((guardO (x106.length = s9_0.length)).bind fun x107 => some (.inl (x106, s9_2, IntKind.i64.wrap (s9_2 + (IntKind.i64.wrap (2 * s3_1))))))) else some (.inr (s9_1, s9_0)))
noncomputable def f105_75_s3 (a1 : Int) : (List Res) × Int → Option (((List Res) × Int) ⊕ (List Res))
  | (s3_0, s3_1) => (if s3_1 < a1 then ((loopO (f105_75_s9 a1 s3_1) (s3_0, 0, IntKind.i64.wrap (2 * s3_1))).bind fun y108 => match y108 with | (y109, y110) => (if (IntKind.i64.wrap (y109 + s3_1)) < a1 then ((f130_75 fuel y110 y109 (IntKind.i64.wrap (y109 + s3_1)) a1).bind fun x112 => ((guardO (x112.length = y110.length)).bind fun x113 => some (.inl (x112, IntKind.i64.wrap (s3_1 * 2))))) else some (.inl (y110, IntKind.i64.wrap (s3_1 * 2))))) else some (.inr s3_0))
noncomputable def f105_75 (a0 : List Res) (a1 : Int) : Option (List Res) := ((loopO (f105_75_s2 a1) (a0, 0, 20)).bind fun y24 => match y24 with | (y25, y26) => ((f129_75 y26 y25 a1).bind fun x27 => ((guardO (x27.length = y26.length)).bind fun x28 => ((loopO (f105_75_s3 a1) (x27, 20)).bind fun y115 => some y115))))
theorem ok105_75 (a0 : List Res) (a1 : Int) (r : (List Res)) (h : f105_75 a0 a1 = some r) : IC Tryz.prog 105 [some (.row 3 true (List.map encRes a0))] [.own 0 0 a0.length, .val (.int .i64 a1), .clo (.func 75) [] []] (.tup []) [some (.row 3 true (List.map encRes r))] [] := by
 rw [f105_75] at h
 refine ic_ofJ (N := 63) (rs := []) Tryz.func105 rfl rfl rfl (Nat.le_of_ble_eq_true rfl) ?_
 refine AW.rX [0, 1, 2, 6] ?_
 refine AW.rX [0, 1, 2, 6, 7, 8] ?_
 refine AW.seq ?_
 refine AW.block ?_
 obtain ⟨y24, hy24, h⟩ := Option.bind_eq_some_iff.1 h
 refine AW.loopO (fun s => ⟨(upd (upd (upd (upd (upd (upd anyF 0 (.own 0 0 s.1.length)) 1 (.val (.int .i64 a1))) 2 (.clo (.func 75) [] [])) 6 (.val (.int .i64 20))) 7 (.val (.int .i64 s.2.1))) 8 (.val (.int .i64 s.2.2))), hpL [some (.row 3 true (List.map encRes s.1))] [], 8⟩) (fun z e st' => e = Exit.exit 0 ∧ st' = ⟨(upd (upd (upd (upd (upd anyF 0 (.own 0 0 z.2.length)) 1 (.val (.int .i64 a1))) 2 (.clo (.func 75) [] [])) 6 (.val (.int .i64 20))) 7 (.val (.int .i64 z.1))), hpL [some (.row 3 true (List.map encRes z.2))] [], 8⟩) hy24 ?_ ?_ ?_
 ·exact Ent.canq [] RF.any.qo.qv.qt.qv.qv.qv (.ce (.nil _)) (.nil _)
 ·clear h hy24
  rintro ⟨s2_0, s2_1, s2_2⟩ x h
  rw [f105_75_s2] at h
  refine AW.seq ?_
  refine AW.rX [0, 1, 2, 6, 7, 8, 13] ?_
  by_cases c21 : s2_2 ≤ a1
  ·rw [if_pos c21] at h
   refine AW.ifT rfl c21 ?_
   refine AW.skip ?_
   refine thenA_n ?_
   refine AW.block ?_
   obtain ⟨x22, hx22, h⟩ := Option.bind_eq_some_iff.1 h
   obtain ⟨x23, hx23, h⟩ := Option.bind_eq_some_iff.1 h
   have lenhx22 : x22.length = s2_0.length := guardO_some.1 hx23
   refine AW.regL [0, 1, 2, 6, 8] ?_
   generalize hK : AW Tryz.prog _ _ _ = K
   simp only [go_sem, ↓reduceIte, reduceCtorEq, Nat.reduceAdd, Nat.reduceSub, Nat.reduceMul, Nat.reduceEqDiff, Nat.reduceLT, Nat.reduceLeDiff, eq_true c21, lenhx22]
   refine arC.ok (CallOk.icq (us' := _) (ok129_75 s2_0 s2_1 s2_2 x22 hx22) [0] (.cons (.eq (by simp only [go_sem]) (by first | rfl | simp [upd_ap, hpL_ap, sg_ap])) (.nil _)) (by simp only [mapTL_cons, mapTL_nil, mapT_ptr, mapT_own, mapT_val, mapT_sl, mapT_agg, mapT_ip, mapT_clo, mapT_ifc, sg_ap, List.getD_cons_zero, List.getD_cons_succ]; exact (.cons (.of (by first | rfl | simp [mapT_own, sg_ap, eq_true c21])) (.cons (.of rfl) (.cons (.of rfl) (.cons (.of rfl) .nil)))))) Tryz.call129 ?_
   simp only [go_sem, ↓reduceIte, reduceCtorEq, Nat.reduceAdd, Nat.reduceSub, Nat.reduceMul, Nat.reduceEqDiff, Nat.reduceLT, Nat.reduceLeDiff, eq_true c21, lenhx22]
   subst hK
   refine AW.regL [0, 1, 2, 6, 7, 8] ?_
   generalize hK : AW Tryz.prog _ _ _ = K
   simp only [go_sem, ↓reduceIte, reduceCtorEq, Nat.reduceAdd, Nat.reduceSub, Nat.reduceMul, Nat.reduceEqDiff, Nat.reduceLT, Nat.reduceLeDiff, eq_true c21, lenhx22]
   subst hK
   refine AW.regionL [0, 1, 2, 6, 7, 8] ?_
   generalize hK : inBlockA _ _ Exit.normal = K
   simp only [go_sem, ↓reduceIte, reduceCtorEq, Nat.reduceAdd, Nat.reduceSub, Nat.reduceMul, Nat.reduceEqDiff, Nat.reduceLT, Nat.reduceLeDiff, eq_true c21, lenhx22]
   subst hK
   refine block_n ?_
   refine thenA_n ?_
   refine ⟨_, (Option.some.inj h).symm, ?_⟩
   exact Ent.canq [] RF.any.qo.qv.qt.qv.qv.qv (.ce (.nil _)) (.nil _)
  ·rw [if_neg c21] at h
   refine AW.ifF rfl c21 ?_
   refine AW.exit ?_
   refine thenA_x ?_
   refine thenA_x ?_
   refine ⟨_, (Option.some.inj h).symm, _, ?_, rfl, rfl⟩
   exact Ent.canq [] RF.any.qo.qv.qt.qv.qv (.ce (.nil _)) (.nil _)
 ·intro e st' hX
  obtain ⟨y25, y26⟩ := y24
  try dsimp only at h
  try dsimp only at hX
  obtain ⟨rfl, rfl⟩ := hX
  refine ⟨_, Ent.refl, ?_⟩
  refine block_x ?_
  refine thenA_n ?_
  obtain ⟨x27, hx27, h⟩ := Option.bind_eq_some_iff.1 h
  obtain ⟨x28, hx28, h⟩ := Option.bind_eq_some_iff.1 h
  have lenhx27 : x27.length = y26.length := guardO_some.1 hx28
  refine AW.regL [0, 1, 2, 6] ?_
  generalize hK : AW Tryz.prog _ _ _ = K
  simp only [go_sem, ↓reduceIte, reduceCtorEq, Nat.reduceAdd, Nat.reduceSub, Nat.reduceMul, Nat.reduceEqDiff, Nat.reduceLT, Nat.reduceLeDiff, lenhx27]
  refine arC.ok (CallOk.icq (us' := _) (ok129_75 y26 y25 a1 x27 hx27) [0] (.cons (.eq (by simp only [go_sem]) (by first | rfl | simp [upd_ap, hpL_ap, sg_ap])) (.nil _)) (by simp only [mapTL_cons, mapTL_nil, mapT_ptr, mapT_own, mapT_val, mapT_sl, mapT_agg, mapT_ip, mapT_clo, mapT_ifc, sg_ap, List.getD_cons_zero, List.getD_cons_succ]; exact (.cons (.of (by first | rfl | simp [mapT_own, sg_ap])) (.cons (.of rfl) (.cons (.of rfl) (.cons (.of rfl) .nil)))))) Tryz.call129 ?_
  simp only [go_sem, ↓reduceIte, reduceCtorEq, Nat.reduceAdd, Nat.reduceSub, Nat.reduceMul, Nat.reduceEqDiff, Nat.reduceLT, Nat.reduceLeDiff, lenhx27]
  subst hK
  refine AW.block ?_
  obtain ⟨y115, hy115, h⟩ := Option.bind_eq_some_iff.1 h
  refine AW.loopO (fun s => ⟨(upd (upd (upd (upd anyF 0 (.own 0 0 s.1.length)) 1 (.val (.int .i64 a1))) 2 (.clo (.func 75) [] [])) 6 (.val (.int .i64 s.2))), hpL [some (.row 3 true (List.map encRes s.1))] [], 8⟩) (fun z e st' => e = Exit.exit 2 ∧ st' = ⟨anyF, hpL [some (.row 3 true (List.map encRes z))] [], 8⟩) hy115 ?_ ?_ ?_
  ·exact Ent.canq [] RF.any.qo.qv.qt.qv (.ce (.nil _)) (.nil _)
  ·clear h hy115
   rintro ⟨s3_0, s3_1⟩ x h
   rw [f105_75_s3] at h
   refine AW.seq ?_
   refine AW.regL [0, 1, 2, 6, 30] ?_
   generalize hK : AW Tryz.prog _ _ _ = K
   simp only [go_sem, ↓reduceIte, reduceCtorEq, Nat.reduceAdd, Nat.reduceSub, Nat.reduceMul, Nat.reduceEqDiff, Nat.reduceLT, Nat.reduceLeDiff, lenhx27]
   subst hK
   by_cases c84 : s3_1 < a1
   ·rw [if_pos c84] at h
    refine AW.ifT rfl c84 ?_
    refine AW.skip ?_
    refine thenA_n ?_
    refine AW.block ?_
    refine AW.regL [0, 1, 2, 6, 7, 8] ?_
    generalize hK : AW Tryz.prog _ _ _ = K
    simp only [go_sem, ↓reduceIte, reduceCtorEq, Nat.reduceAdd, Nat.reduceSub, Nat.reduceMul, Nat.reduceEqDiff, Nat.reduceLT, Nat.reduceLeDiff, lenhx27, eq_true c84]
    subst hK
    refine AW.seq ?_
    refine AW.block ?_
    obtain ⟨y108, hy108, h⟩ := Option.bind_eq_some_iff.1 h
    refine AW.loopO (fun s => ⟨(upd (upd (upd (upd (upd (upd anyF 0 (.own 0 0 s.1.length)) 1 (.val (.int .i64 a1))) 2 (.clo (.func 75) [] [])) 6 (.val (.int .i64 s3_1))) 7 (.val (.int .i64 s.2.1))) 8 (.val (.int .i64 s.2.2))), hpL [some (.row 3 true (List.map encRes s.1))] [], 8⟩) (fun z e st' => e = Exit.exit 4 ∧ st' = ⟨(upd (upd (upd (upd (upd anyF 0 (.own 0 0 z.2.length)) 1 (.val (.int .i64 a1))) 2 (.clo (.func 75) [] [])) 6 (.val (.int .i64 s3_1))) 7 (.val (.int .i64 z.1))), hpL [some (.row 3 true (List.map encRes z.2))] [], 8⟩) hy108 ?_ ?_ ?_
    ·exact Ent.canq [] RF.any.qo.qv.qt.qv.qv.qv (.ce (.nil _)) (.nil _)
    ·clear h hy108
     rintro ⟨s9_0, s9_1, s9_2⟩ x h
     rw [f105_75_s9] at h
     refine AW.seq ?_
     refine AW.regL [0, 1, 2, 6, 7, 8, 35] ?_
     generalize hK : AW Tryz.prog _ _ _ = K
     simp only [go_sem, ↓reduceIte, reduceCtorEq, Nat.reduceAdd, Nat.reduceSub, Nat.reduceMul, Nat.reduceEqDiff, Nat.reduceLT, Nat.reduceLeDiff, lenhx27, eq_true c84]
     subst hK
     by_cases c105 : s9_2 ≤ a1
     ·rw [if_pos c105] at h
      refine AW.ifT rfl c105 ?_
      refine AW.skip ?_
      refine thenA_n ?_
      refine AW.block ?_
      obtain ⟨x106, hx106, h⟩ := Option.bind_eq_some_iff.1 h
      obtain ⟨x107, hx107, h⟩ := Option.bind_eq_some_iff.1 h
      have lenhx106 : x106.length = s9_0.length := guardO_some.1 hx107
      refine AW.regL [0, 1, 2, 6, 8] ?_
      generalize hK : AW Tryz.prog _ _ _ = K
      simp only [go_sem, ↓reduceIte, reduceCtorEq, Nat.reduceAdd, Nat.reduceSub, Nat.reduceMul, Nat.reduceEqDiff, Nat.reduceLT, Nat.reduceLeDiff, lenhx27, eq_true c84, eq_true c105, lenhx106]
      refine arC.ok (CallOk.icq (us' := _) (ok130_75 fuel s9_0 s9_1 (IntKind.i64.wrap (s9_1 + s3_1)) s9_2 x106 hx106) [0] (.cons (.eq (by simp only [go_sem]) (by first | rfl | simp [upd_ap, hpL_ap, sg_ap])) (.nil _)) (by simp only [mapTL_cons, mapTL_nil, mapT_ptr, mapT_own, mapT_val, mapT_sl, mapT_agg, mapT_ip, mapT_clo, mapT_ifc, sg_ap, List.getD_cons_zero, List.getD_cons_succ]; exact (.cons (.of (by first | rfl | simp [mapT_own, sg_ap, lenhx27, eq_true c84, eq_true c105])) (.cons (.of rfl) (.cons (.of rfl) (.cons (.of rfl) (.cons (.of rfl) .nil))))))) Tryz.call130 ?_
      simp only [go_sem, ↓reduceIte, reduceCtorEq, Nat.reduceAdd, Nat.reduceSub, Nat.reduceMul, Nat.reduceEqDiff, Nat.reduceLT, Nat.reduceLeDiff, lenhx27, eq_true c84, eq_true c105, lenhx106]
      subst hK
      refine AW.regL [0, 1, 2, 6, 7, 8] ?_
      generalize hK : AW Tryz.prog _ _ _ = K
      simp only [go_sem, ↓reduceIte, reduceCtorEq, Nat.reduceAdd, Nat.reduceSub, Nat.reduceMul, Nat.reduceEqDiff, Nat.reduceLT, Nat.reduceLeDiff, lenhx27, eq_true c84, eq_true c105, lenhx106]
      subst hK
      refine AW.regionL [0, 1, 2, 6, 7, 8] ?_
      generalize hK : inBlockA _ _ Exit.normal = K
      simp only [go_sem, ↓reduceIte, reduceCtorEq, Nat.reduceAdd, Nat.reduceSub, Nat.reduceMul, Nat.reduceEqDiff, Nat.reduceLT, Nat.reduceLeDiff, lenhx27, eq_true c84, eq_true c105, lenhx106]
      subst hK
      refine block_n ?_
      refine thenA_n ?_
      refine ⟨_, (Option.some.inj h).symm, ?_⟩
      exact Ent.canq [] RF.any.qo.qv.qt.qv.qv.qv (.ce (.nil _)) (.nil _)
     ·rw [if_neg c105] at h
      refine AW.ifF rfl c105 ?_
      refine AW.exit ?_
      refine thenA_x ?_
      refine thenA_x ?_
      refine ⟨_, (Option.some.inj h).symm, _, ?_, rfl, rfl⟩
      exact Ent.canq [] RF.any.qo.qv.qt.qv.qv (.ce (.nil _)) (.nil _)
    ·intro e st' hX
     obtain ⟨y109, y110⟩ := y108
     try dsimp only at h
     try dsimp only at hX
     obtain ⟨rfl, rfl⟩ := hX
     refine ⟨_, Ent.refl, ?_⟩
     refine block_x ?_
     refine thenA_n ?_
     refine AW.seq ?_
     refine AW.regL [0, 1, 2, 6, 7, 9] ?_
     generalize hK : AW Tryz.prog _ _ _ = K
     simp only [go_sem, ↓reduceIte, reduceCtorEq, Nat.reduceAdd, Nat.reduceSub, Nat.reduceMul, Nat.reduceEqDiff, Nat.reduceLT, Nat.reduceLeDiff, lenhx27, eq_true c84]
     subst hK
     refine AW.regL [0, 1, 2, 6, 7, 9, 54] ?_
     generalize hK : AW Tryz.prog _ _ _ = K
     simp only [go_sem, ↓reduceIte, reduceCtorEq, Nat.reduceAdd, Nat.reduceSub, Nat.reduceMul, Nat.reduceEqDiff, Nat.reduceLT, Nat.reduceLeDiff, lenhx27, eq_true c84]
     subst hK
     by_cases c111 : (IntKind.i64.wrap (y109 + s3_1)) < a1
     ·rw [if_pos c111] at h
      refine AW.ifT rfl c111 ?_
      obtain ⟨x112, hx112, h⟩ := Option.bind_eq_some_iff.1 h
      obtain ⟨x113, hx113, h⟩ := Option.bind_eq_some_iff.1 h
      have lenhx112 : x112.length = y110.length := guardO_some.1 hx113
      refine AW.regionL [0, 1, 2, 6] ?_
      generalize hK : thenA _ _ Exit.normal = K
      simp only [go_sem, ↓reduceIte, reduceCtorEq, Nat.reduceAdd, Nat.reduceSub, Nat.reduceMul, Nat.reduceEqDiff, Nat.reduceLT, Nat.reduceLeDiff, lenhx27, eq_true c84, eq_true c111, lenhx112]
      refine arC.ok (CallOk.icq (us' := _) (ok130_75 fuel y110 y109 (IntKind.i64.wrap (y109 + s3_1)) a1 x112 hx112) [0] (.cons (.eq (by simp only [go_sem]) (by first | rfl | simp [upd_ap, hpL_ap, sg_ap])) (.nil _)) (by simp only [mapTL_cons, mapTL_nil, mapT_ptr, mapT_own, mapT_val, mapT_sl, mapT_agg, mapT_ip, mapT_clo, mapT_ifc, sg_ap, List.getD_cons_zero, List.getD_cons_succ]; exact (.cons (.of (by first | rfl | simp [mapT_own, sg_ap, lenhx27, eq_true c84, eq_true c111])) (.cons (.of rfl) (.cons (.of rfl) (.cons (.of rfl) (.cons (.of rfl) .nil))))))) Tryz.call130 ?_
      simp only [go_sem, ↓reduceIte, reduceCtorEq, Nat.reduceAdd, Nat.reduceSub, Nat.reduceMul, Nat.reduceEqDiff, Nat.reduceLT, Nat.reduceLeDiff, lenhx27, eq_true c84, eq_true c111, lenhx112]
      subst hK
      refine thenA_n ?_
      refine AW.regionL [0, 1, 2, 6] ?_
      generalize hK : inBlockA _ _ Exit.normal = K
      simp only [go_sem, ↓reduceIte, reduceCtorEq, Nat.reduceAdd, Nat.reduceSub, Nat.reduceMul, Nat.reduceEqDiff, Nat.reduceLT, Nat.reduceLeDiff, lenhx27, eq_true c84, eq_true c111, lenhx112]
      subst hK
      refine block_n ?_
      refine thenA_n ?_
      refine ⟨_, (Option.some.inj h).symm, ?_⟩
      exact Ent.canq [] RF.any.qo.qv.qt.qv (.ce (.nil _)) (.nil _)
     ·rw [if_neg c111] at h
      refine AW.ifF rfl c111 ?_
      refine AW.skip ?_
      refine thenA_n ?_
      refine AW.regionL [0, 1, 2, 6] ?_
      generalize hK : inBlockA _ _ Exit.normal = K
      simp only [go_sem, ↓reduceIte, reduceCtorEq, Nat.reduceAdd, Nat.reduceSub, Nat.reduceMul, Nat.reduceEqDiff, Nat.reduceLT, Nat.reduceLeDiff, lenhx27, eq_true c84, eq_false c111]
      subst hK
      refine block_n ?_
      refine thenA_n ?_
      refine ⟨_, (Option.some.inj h).symm, ?_⟩
      exact Ent.canq [] RF.any.qo.qv.qt.qv (.ce (.nil _)) (.nil _)
   ·rw [if_neg c84] at h
    refine AW.ifF rfl c84 ?_
    refine AW.exit ?_
    refine thenA_x ?_
    refine thenA_x ?_
    refine ⟨_, (Option.some.inj h).symm, _, ?_, rfl, rfl⟩
    exact Ent.canq [] RF.any (.ce (.nil _)) (.nil _)
  ·intro e st' hX
   try dsimp only at h
   try dsimp only at hX
   obtain ⟨rfl, rfl⟩ := hX
   refine ⟨_, Ent.refl, ?_⟩
   refine block_x ?_
   refine ⟨⟨anyF, hpL [some (.row 3 true (List.map encRes y115))] [], 8⟩, ?_, ?_⟩
   · refine Ent.can [] _ _ _ rfl (by first | decide | simp) rfl ?_ ?_ ?_
     · exact RF.any
     · exact .ce (.nil _)
     · exact .nil _
   obtain rfl := Option.some.inj h
   exact ⟨rfl, rfl, _, rfl, by first | rfl | simp [resOf, upd_ap, bytesI_len]⟩
end Au
end Go.Proofs.Yt

set_option linter.all false
set_option maxRecDepth 8000
set_option maxHeartbeats 1000000
namespace Go.Proofs.Yt
open Go.Gm
namespace Au
noncomputable def f107_s1 (a0 : List Int) (a1 : Int) : Int → Option (Int ⊕ (Int ⊕ Unit))
  | s1_0 => (if s1_0 < (a0.length : Int) then ((ix a0 s1_0).bind fun x14 => (if a1 = x14 then some (.inr (.inl s1_0)) else some (.inl (IntKind.i64.wrap (s1_0 + 1))))) else some (.inr (.inr ())))
noncomputable def f107 (a0 : List Int) (a1 : Int) : Option Int := ((loopO (f107_s1 a0 a1) 0).bind fun y16 => match y16 with | .inl y17 => some y17 | .inr _ => some (-1))
theorem ok107 (a0 : List Int) (a1 : Int) (r : Int) (h : f107 a0 a1 = some r) : PC Tryz.prog 107 [.sl (List.map enc3 a0), .val (.int .i64 a1)] (.val (.int .i64 r)) := by
 rw [f107] at h
 refine pc_of8 (N := 19) (rs := [.tmp 4]) Tryz.func107 rfl rfl rfl (Nat.le_of_ble_eq_true rfl) ?_
 refine AW.rX [0, 1] ?_
 refine AW.seq ?_
 refine AW.rX [0, 1, 7, 8] ?_
 refine AW.block ?_
 obtain ⟨y16, hy16, h⟩ := Option.bind_eq_some_iff.1 h
 refine AW.loopO (fun s => ⟨(upd (upd (upd (upd anyF 0 (.sl (List.map enc3 a0))) 1 (.val (.int .i64 a1))) 7 (.val (.int .i64 (a0.length : Int)))) 8 (.val (.int .i64 s))), hpL [] [], 8⟩) (fun y e st' => match y with | .inl z => e = Exit.ret ∧ finA Tryz.prog [.tmp 4] (.val (.int .i64 z)) .ret st' | .inr z => e = Exit.exit 0 ∧ st' = ⟨anyF, hpL [] [], 8⟩) hy16 ?_ ?_ ?_
 ·exact Ent.canq [] RF.any.qv.qv.qv.qv (.nil _) (.nil _)
 ·clear h hy16
  rintro s1_0 x h
  rw [f107_s1] at h
  refine AW.rX [0, 1, 7, 8, 9] ?_
  refine AW.seq ?_
  by_cases c13 : s1_0 < (a0.length : Int)
  ·rw [if_pos c13] at h
   refine AW.ifT rfl c13 ?_
   refine AW.skip ?_
   refine thenA_n ?_
   refine AW.seq ?_
   refine AW.block ?_
   refine AW.rX [0, 1, 5, 7, 8] ?_
   obtain ⟨x14, hx14, h⟩ := Option.bind_eq_some_iff.1 h
   obtain ⟨hx14a, hx14b⟩ := ix_some.1 hx14
   refine AW.regL [0, 1, 5, 7, 8, 16] ?_
   generalize hK : AW Tryz.prog _ _ _ = K
   simp only [go_sem, ↓reduceIte, reduceCtorEq, Nat.reduceAdd, Nat.reduceSub, Nat.reduceMul, Nat.reduceEqDiff, Nat.reduceLT, Nat.reduceLeDiff, eq_true c13, natOf_le hx14a, hx14b]
   subst hK
   by_cases c15 : a1 = x14
   ·rw [if_pos c15] at h
    refine AW.ifT rfl c15 ?_
    refine AW.rX [4] ?_
    refine AW.ret ?_
    refine block_r ?_
    refine thenA_r ?_
    refine thenA_r ?_
    refine ⟨_, (Option.some.inj h).symm, _, Ent.refl, rfl, ?_⟩
    (simp only [go_sem, ↓reduceIte, reduceCtorEq, Nat.reduceAdd, Nat.reduceSub, Nat.reduceMul, Nat.reduceEqDiff, Nat.reduceLT, Nat.reduceLeDiff, eq_true c13, eq_true c15, finA] <;> try simp)
   ·rw [if_neg c15] at h
    refine AW.ifF rfl c15 ?_
    refine AW.skip ?_
    refine block_n ?_
    refine thenA_n ?_
    refine AW.rY [0, 1, 7, 8] ?_
    refine thenA_n ?_
    refine ⟨_, (Option.some.inj h).symm, ?_⟩
    exact Ent.canq [] RF.any.qv.qv.qv.qv (.nil _) (.nil _)
  ·rw [if_neg c13] at h
   refine AW.ifF rfl c13 ?_
   refine AW.exit ?_
   refine thenA_x ?_
   refine thenA_x ?_
   refine ⟨_, (Option.some.inj h).symm, _, ?_, rfl, rfl⟩
   exact Ent.canq [] RF.any (.nil _) (.nil _)
 ·intro e st' hX
  rcases y16 with y17 | _ <;> dsimp only at h hX
  ·obtain ⟨rfl, hf⟩ := hX
   refine ⟨_, Ent.refl, ?_⟩
   refine block_r ?_
   refine thenA_r ?_
   obtain rfl := Option.some.inj h
   exact hf
  ·obtain ⟨rfl, rfl⟩ := hX
   refine ⟨_, Ent.refl, ?_⟩
   refine block_x ?_
   refine thenA_n ?_
   refine AW.rX [4] ?_
   refine AW.ret ?_
   obtain rfl := Option.some.inj h
   (simp only [go_sem, ↓reduceIte, reduceCtorEq, Nat.reduceAdd, Nat.reduceSub, Nat.reduceMul, Nat.reduceEqDiff, Nat.reduceLT, Nat.reduceLeDiff, finA] <;> try simp)
end Au
end Go.Proofs.Yt

set_option linter.all false
set_option maxRecDepth 8000
set_option maxHeartbeats 1000000
namespace Go.Proofs.Yt
open Go.Gm
namespace Au
noncomputable def f132_s1 (a0 : Int) : Int → Option (Int ⊕ (Int ⊕ Unit))
  | s1_0 => (if s1_0 ≤ 8 then ((guardO (0 ≤ (IntKind.i64.wrap (7 * s1_0)))).bind fun x9 => (if (shrV .u64 a0 (IntKind.i64.wrap (7 * s1_0)).toNat) = 0 then some (.inr (.inl s1_0)) else some (.inl (IntKind.i64.wrap (s1_0 + 1))))) else some (.inr (.inr ())))
noncomputable def f132 (a0 : Int) : Option Int := ((loopO (f132_s1 a0) 1).bind fun y11 => match y11 with | .inl y12 => some y12 | .inr _ => some 9)
theorem ok132 (a0 : Int) (r : Int) (h : f132 a0 = some r) : PC Tryz.prog 132 [.val (.int .u64 a0)] (.val (.int .i64 r)) := by
 rw [f132] at h
 refine pc_of8 (N := 14) (rs := [.tmp 2]) Tryz.func132 rfl rfl rfl (Nat.le_of_ble_eq_true rfl) ?_
 refine AW.rX [0] ?_
 refine AW.seq ?_
 refine AW.rX [0, 3] ?_
 refine AW.block ?_
 obtain ⟨y11, hy11, h⟩ := Option.bind_eq_some_iff.1 h
 refine AW.loopO (fun s => ⟨(upd (upd anyF 0 (.val (.int .u64 a0))) 3 (.val (.int .i64 s))), hpL [] [], 8⟩) (fun y e st' => match y with | .inl z => e = Exit.ret ∧ finA Tryz.prog [.tmp 2] (.val (.int .i64 z)) .ret st' | .inr z => e = Exit.exit 0 ∧ st' = ⟨anyF, hpL [] [], 8⟩) hy11 ?_ ?_ ?_
 ·exact Ent.canq [] RF.any.qv.qv (.nil _) (.nil _)
 ·clear h hy11
  rintro s1_0 x h
  rw [f132_s1] at h
  refine AW.seq ?_
  refine AW.regL [0, 3, 5] ?_
  generalize hK : AW Tryz.prog _ _ _ = K
  simp only [go_sem, ↓reduceIte, reduceCtorEq, Nat.reduceAdd, Nat.reduceSub, Nat.reduceMul, Nat.reduceEqDiff, Nat.reduceLT, Nat.reduceLeDiff]
  subst hK
  by_cases c8 : s1_0 ≤ 8
  ·rw [if_pos c8] at h
   refine AW.ifT rfl c8 ?_
   refine AW.skip ?_
   refine thenA_n ?_
   refine AW.seq ?_
   refine AW.block ?_
   obtain ⟨x9, hx9, h⟩ := Option.bind_eq_some_iff.1 h
   refine AW.regL [0, 3, 12] ?_
   generalize hK : AW Tryz.prog _ _ _ = K
   simp only [go_sem, ↓reduceIte, reduceCtorEq, Nat.reduceAdd, Nat.reduceSub, Nat.reduceMul, Nat.reduceEqDiff, Nat.reduceLT, Nat.reduceLeDiff, eq_true c8, eq_false (Int.not_lt.2 (guardO_some.1 hx9))]
   subst hK
   by_cases c10 : (shrV .u64 a0 (IntKind.i64.wrap (7 * s1_0)).toNat) = 0
   ·rw [if_pos c10] at h
    refine AW.ifT rfl c10 ?_
    refine AW.rX [2] ?_
    refine AW.ret ?_
    refine block_r ?_
    refine thenA_r ?_
    refine thenA_r ?_
    refine ⟨_, (Option.some.inj h).symm, _, Ent.refl, rfl, ?_⟩
    (simp only [go_sem, ↓reduceIte, reduceCtorEq, Nat.reduceAdd, Nat.reduceSub, Nat.reduceMul, Nat.reduceEqDiff, Nat.reduceLT, Nat.reduceLeDiff, eq_true c8, eq_true c10, finA] <;> try simp)
   ·rw [if_neg c10] at h
    refine AW.ifF rfl c10 ?_
    refine AW.skip ?_
    refine block_n ?_
    refine thenA_n ?_
    refine AW.rY [0, 3] ?_
    refine thenA_n ?_
    refine ⟨_, (Option.some.inj h).symm, ?_⟩
    exact Ent.canq [] RF.any.qv.qv (.nil _) (.nil _)
  ·rw [if_neg c8] at h
   refine AW.ifF rfl c8 ?_
   refine AW.exit ?_
   refine thenA_x ?_
   refine thenA_x ?_
   refine ⟨_, (Option.some.inj h).symm, _, ?_, rfl, rfl⟩
   exact Ent.canq [] RF.any (.nil _) (.nil _)
 ·intro e st' hX
  rcases y11 with y12 | _ <;> dsimp only at h hX
  ·obtain ⟨rfl, hf⟩ := hX
   refine ⟨_, Ent.refl, ?_⟩
   refine block_r ?_
   refine thenA_r ?_
   obtain rfl := Option.some.inj h
   exact hf
  ·obtain ⟨rfl, rfl⟩ := hX
   refine ⟨_, Ent.refl, ?_⟩
   refine block_x ?_
   refine thenA_n ?_
   refine AW.rX [2] ?_
   refine AW.ret ?_
   obtain rfl := Option.some.inj h
   (simp only [go_sem, ↓reduceIte, reduceCtorEq, Nat.reduceAdd, Nat.reduceSub, Nat.reduceMul, Nat.reduceEqDiff, Nat.reduceLT, Nat.reduceLeDiff, finA] <;> try simp)
end Au
end Go.Proofs.Yt

set_option linter.all false
set_option maxRecDepth 8000
set_option maxHeartbeats 1000000
namespace Go.Proofs.Yt
open Go.Gm
namespace Au
noncomputable def f133 (a0 : List Int) : Option (List Int) := appO? [] a0
theorem ok133 (a0 : List Int) (r : List Int) (h : f133 a0 = some r) : PC Tryz.prog 133 [.sl (List.map enc5 a0)] (.fr 1 (List.map enc5 r)) := by
  obtain ⟨hl, hr⟩ := appO?_some.1 h
  rw [List.nil_append] at hr
  subst hr
  have hb : a0.length ≤ 34359738368 := by simpa using hl
  refine pc_of (N := 8) (rs := [.tmp 2]) Tryz.func133 rfl rfl rfl (Nat.le_of_ble_eq_true rfl) ?_
  refine AW.reg ?_
  generalize hK : AW Tryz.prog _ _ _ = K
  simp only [go_sem, ↓reduceIte, reduceCtorEq, Nat.reduceAdd, Nat.reduceSub, Nat.reduceMul, Nat.reduceEqDiff, Nat.reduceLT, Nat.reduceLeDiff]
  subst hK
  refine AW.seq ?_
  refine AW.nilq el23 rfl (by decide) (by decide) (fun bn hbn => ?_)
  refine AW.if rfl (fun hc4 => ?_) (fun hc4 => ?_)
  · have hl0 : a0 = [] := by simpa using hbn (by simpa using hc4)
    subst hl0
    refine AW.reg ?_
    generalize hK : AW Tryz.prog _ _ _ = K
    simp only [go_sem, ↓reduceIte, reduceCtorEq, Nat.reduceAdd, Nat.reduceSub, Nat.reduceMul, Nat.reduceEqDiff, Nat.reduceLT, Nat.reduceLeDiff]
    subst hK
    refine AW.ent (Ent.nilOwn 2 1 (by decide) rfl) ?_
    refine AW.ret ?_
    refine thenA_r ?_
    exact fin_own (.inl rfl) rfl (by simp only [upd_ap, if_true]; rfl) rfl rfl rfl
  · refine AW.skip ?_
    refine thenA_n ?_
    refine AW.reg ?_
    generalize hK : AW Tryz.prog _ _ _ = K
    simp (disch := first | omega | (simp only [List.length_map, List.length_cons, List.length_nil, List.length_append] <;> omega)) only [go_sem, ↓reduceIte, reduceCtorEq, Nat.reduceAdd, Nat.reduceSub, Nat.reduceMul, Nat.reduceEqDiff, Nat.reduceLT, Nat.reduceLeDiff]
    subst hK
    refine AW.ret ?_
    exact fin_own (.inl rfl) rfl (by simp only [upd_ap]; rfl) (by simp) (by simp only [go_sem]) rfl

end Au
end Go.Proofs.Yt

set_option linter.all false
set_option maxRecDepth 8000
set_option maxHeartbeats 1000000
namespace Go.Proofs.Yt
open Go.Gm
namespace Au
noncomputable def f109_s1 (a1 : Int) (j1_1 : Int) (j1_2 : Int) : (List Int) × Int → Option (((List Int) × Int) ⊕ (List Int))
  | (s1_0, s1_1) => (if s1_1 < j1_1 then ((guardO (0 ≤ (IntKind.i64.wrap (8 * (IntKind.i64.wrap ((IntKind.i64.wrap (j1_1 - 1)) - s1_1)))))).bind fun x21 => (if s1_1 = 0 then ((appO? s1_0 [orV .u8 (IntKind.u8.wrap (shrV .u64 a1 (IntKind.i64.wrap (8 * (IntKind.i64.wrap ((IntKind.i64.wrap (j1_1 - 1)) - s1_1)))).toNat)) j1_2]).bind fun x23 => some (.inl (x23, IntKind.i64.wrap (s1_1 + 1)))) else ((appO? s1_0 [IntKind.u8.wrap (shrV .u64 a1 (IntKind.i64.wrap (8 * (IntKind.i64.wrap ((IntKind.i64.wrap (j1_1 - 1)) - s1_1)))).toNat)]).bind fun x24 => some (.inl (x24, IntKind.i64.wrap (s1_1 + 1)))))) else some (.inr s1_0))
noncomputable def f109_j1 (a1 : Int) : (List Int) × Int × Int → Option (List Int)
  | (j1_0, j1_1, j1_2) => ((loopO (f109_s1 a1 j1_1 j1_2) (j1_0, 0)).bind fun y26 => some y26)
noncomputable def f109 (a0 : List Int) (a1 : Int) : Option (List Int) := ((f132 a1).bind fun x1 => ((f133 a0).bind fun x2 => ((guardO (0 ≤ (IntKind.i64.wrap (9 - x1)))).bind fun x3 => (if x1 = 9 then ((appO? x2 [255]).bind fun x28 => f109_j1 a1 (x28, 8, 0)) else f109_j1 a1 (x2, x1, (shlV .u8 255 (IntKind.i64.wrap (9 - x1)).toNat))))))
theorem ok109 (a0 : List Int) (a1 : Int) (r : (List Int)) (h : f109 a0 a1 = some r) : PC Tryz.prog 109 [.sl (List.map enc5 a0), .val (.int .u64 a1)] (.fr 1 (List.map enc5 r)) := by
 rw [f109] at h
 refine pc_of8 (N := 45) (rs := [.tmp 4]) Tryz.func109 rfl rfl rfl (Nat.le_of_ble_eq_true rfl) ?_
 refine AW.regL [0, 1] ?_
 generalize hK : AW Tryz.prog _ _ _ = K
 simp only [go_sem, ↓reduceIte, reduceCtorEq, Nat.reduceAdd, Nat.reduceSub, Nat.reduceMul, Nat.reduceEqDiff, Nat.reduceLT, Nat.reduceLeDiff]
 subst hK
 obtain ⟨x1, hx1, h⟩ := Option.bind_eq_some_iff.1 h
 refine AW.regL [0, 1, 5] ?_
 generalize hK : AW Tryz.prog _ _ _ = K
 simp only [go_sem, ↓reduceIte, reduceCtorEq, Nat.reduceAdd, Nat.reduceSub, Nat.reduceMul, Nat.reduceEqDiff, Nat.reduceLT, Nat.reduceLeDiff]
 refine arC.of (ok132 a1 x1 hx1) Tryz.call132 ?_
 simp only [go_sem, ↓reduceIte, reduceCtorEq, Nat.reduceAdd, Nat.reduceSub, Nat.reduceMul, Nat.reduceEqDiff, Nat.reduceLT, Nat.reduceLeDiff]
 subst hK
 obtain ⟨x2, hx2, h⟩ := Option.bind_eq_some_iff.1 h
 refine AW.regL [1, 5, 6] ?_
 generalize hK : AW Tryz.prog _ _ _ = K
 simp only [go_sem, ↓reduceIte, reduceCtorEq, Nat.reduceAdd, Nat.reduceSub, Nat.reduceMul, Nat.reduceEqDiff, Nat.reduceLT, Nat.reduceLeDiff]
 refine arC.of (ok133 a0 x2 hx2) Tryz.call133 ?_
 simp only [go_sem, ↓reduceIte, reduceCtorEq, Nat.reduceAdd, Nat.reduceSub, Nat.reduceMul, Nat.reduceEqDiff, Nat.reduceLT, Nat.reduceLeDiff]
 subst hK
 obtain ⟨x3, hx3, h⟩ := Option.bind_eq_some_iff.1 h
 refine AW.regL [1, 5, 6, 7] ?_
 generalize hK : AW Tryz.prog _ _ _ = K
 simp only [go_sem, ↓reduceIte, reduceCtorEq, Nat.reduceAdd, Nat.reduceSub, Nat.reduceMul, Nat.reduceEqDiff, Nat.reduceLT, Nat.reduceLeDiff, eq_false (Int.not_lt.2 (guardO_some.1 hx3))]
 subst hK
 refine AW.join (fun s => ⟨(upd (upd (upd (upd anyF 1 (.val (.int .u64 a1))) 5 (.val (.int .i64 s.2.1))) 6 (.own 8 0 s.1.length)) 7 (.val (.int .u8 s.2.2))), hpL [] [some (.row 1 true (List.map enc5 s.1))], 9⟩) (fun s => f109_j1 a1 s = some r) ?_ ?_
 ·refine AW.regL [1, 5, 6, 7, 18] ?_
  generalize hK : AW Tryz.prog _ _ _ = K
  simp only [go_sem, ↓reduceIte, reduceCtorEq, Nat.reduceAdd, Nat.reduceSub, Nat.reduceMul, Nat.reduceEqDiff, Nat.reduceLT, Nat.reduceLeDiff]
  subst hK
  by_cases c27 : x1 = 9
  ·rw [if_pos c27] at h
   refine AW.ifT rfl c27 ?_
   obtain ⟨x28, hx28, h⟩ := Option.bind_eq_some_iff.1 h
   obtain ⟨hx28b, hx28e⟩ := appO?_some.1 hx28
   have hx28f : ∀ id o : Nat, appO 1 1 id ([[.val (.int .u8 255)]]) 0 x2.length o (some (.row 1 true (List.map enc5 x2))) = some ⟨.own id 0 x28.length, [(o, none), (id, some (.row 1 true (List.map enc5 x28)))]⟩ := fun id o => by
     subst hx28e; rw [appO_ok (by simp) (by simpa using hx28b) (by decide)]; first | (simp [enc5]; done) | (simp [enc5]; omega)
   refine AW.regL [1, 6] ?_
   generalize hK : AW Tryz.prog _ _ _ = K
   simp only [go_sem, ↓reduceIte, reduceCtorEq, Nat.reduceAdd, Nat.reduceSub, Nat.reduceMul, Nat.reduceEqDiff, Nat.reduceLT, Nat.reduceLeDiff, eq_true c27, hx28f]
   subst hK
   refine AW.regionL [1, 5, 6, 7] ?_
   generalize hK : thenA _ _ Exit.normal = K
   simp only [go_sem, ↓reduceIte, reduceCtorEq, Nat.reduceAdd, Nat.reduceSub, Nat.reduceMul, Nat.reduceEqDiff, Nat.reduceLT, Nat.reduceLeDiff, eq_true c27]
   subst hK
   refine thenA_n ?_
   refine ⟨_, h, ?_⟩
   exact Ent.canq [128] RF.any.qv.qv.qo.qv (.nil _) (.ce (.nil _))
  ·rw [if_neg c27] at h
   refine AW.ifF rfl c27 ?_
   refine AW.skip ?_
   refine thenA_n ?_
   refine ⟨_, h, ?_⟩
   exact Ent.canq [48] RF.any.qv.qv.qo.qv (.nil _) (.ce (.nil _))
 ·clear h
  rintro ⟨j1_0, j1_1, j1_2⟩ h
  rw [f109_j1] at h
  refine AW.seq ?_
  refine AW.rX [1, 5, 6, 7, 22, 23] ?_
  refine AW.block ?_
  obtain ⟨y26, hy26, h⟩ := Option.bind_eq_some_iff.1 h
  refine AW.loopO (fun s => ⟨(upd (upd (upd (upd (upd (upd anyF 1 (.val (.int .u64 a1))) 5 (.val (.int .i64 j1_1))) 6 (.own 8 0 s.1.length)) 7 (.val (.int .u8 j1_2))) 22 (.val (.int .i64 j1_1))) 23 (.val (.int .i64 s.2))), hpL [] [some (.row 1 true (List.map enc5 s.1))], 9⟩) (fun z e st' => e = Exit.exit 0 ∧ st' = ⟨(upd anyF 6 (.own 8 0 z.length)), hpL [] [some (.row 1 true (List.map enc5 z))], 9⟩) hy26 ?_ ?_ ?_
  ·exact Ent.canq [8] RF.any.qv.qv.qo.qv.qv.qv (.nil _) (.ce (.nil _))
  ·clear h hy26
   rintro ⟨s1_0, s1_1⟩ x h
   rw [f109_s1] at h
   refine AW.rX [1, 5, 6, 7, 22, 23, 24] ?_
   refine AW.seq ?_
   by_cases c20 : s1_1 < j1_1
   ·rw [if_pos c20] at h
    refine AW.ifT rfl c20 ?_
    refine AW.skip ?_
    refine thenA_n ?_
    refine AW.seq ?_
    refine AW.block ?_
    refine AW.regL [1, 5, 6, 7, 8, 22, 23] ?_
    generalize hK : AW Tryz.prog _ _ _ = K
    simp only [go_sem, ↓reduceIte, reduceCtorEq, Nat.reduceAdd, Nat.reduceSub, Nat.reduceMul, Nat.reduceEqDiff, Nat.reduceLT, Nat.reduceLeDiff, eq_true c20]
    subst hK
    obtain ⟨x21, hx21, h⟩ := Option.bind_eq_some_iff.1 h
    refine AW.regL [1, 5, 6, 7, 8, 9, 22, 23] ?_
    generalize hK : AW Tryz.prog _ _ _ = K
    simp only [go_sem, ↓reduceIte, reduceCtorEq, Nat.reduceAdd, Nat.reduceSub, Nat.reduceMul, Nat.reduceEqDiff, Nat.reduceLT, Nat.reduceLeDiff, eq_true c20, eq_false (Int.not_lt.2 (guardO_some.1 hx21))]
    subst hK
    refine AW.seq ?_
    refine AW.regL [1, 5, 6, 7, 9, 22, 23, 35] ?_
    generalize hK : AW Tryz.prog _ _ _ = K
    simp only [go_sem, ↓reduceIte, reduceCtorEq, Nat.reduceAdd, Nat.reduceSub, Nat.reduceMul, Nat.reduceEqDiff, Nat.reduceLT, Nat.reduceLeDiff, eq_true c20]
    subst hK
    by_cases c22 : s1_1 = 0
    ·rw [if_pos c22] at h
     refine AW.ifT rfl c22 ?_
     refine AW.rY [1, 5, 6, 7, 9, 22, 23] ?_
     refine thenA_n ?_
     obtain ⟨x23, hx23, h⟩ := Option.bind_eq_some_iff.1 h
     obtain ⟨hx23b, hx23e⟩ := appO?_some.1 hx23
     have hx23f : ∀ id o : Nat, appO 1 1 id ([[.val (.int .u8 (orV .u8 (IntKind.u8.wrap (shrV .u64 a1 (IntKind.i64.wrap (8 * (IntKind.i64.wrap ((IntKind.i64.wrap (j1_1 - 1)) - s1_1)))).toNat)) j1_2))]]) 0 s1_0.length o (some (.row 1 true (List.map enc5 s1_0))) = some ⟨.own id 0 x23.length, [(o, none), (id, some (.row 1 true (List.map enc5 x23)))]⟩ := fun id o => by
       subst hx23e; rw [appO_ok (by simp) (by simpa using hx23b) (by decide)]; first | (simp [enc5]; done) | (simp [enc5]; omega)
     refine AW.regionL [1, 5, 6, 7, 22, 23] ?_
     generalize hK : inBlockA _ _ Exit.normal = K
     simp only [go_sem, ↓reduceIte, reduceCtorEq, Nat.reduceAdd, Nat.reduceSub, Nat.reduceMul, Nat.reduceEqDiff, Nat.reduceLT, Nat.reduceLeDiff, eq_true c20, eq_true c22, hx23f]
     subst hK
     refine block_n ?_
     refine thenA_n ?_
     refine AW.rY [1, 5, 6, 7, 22, 23] ?_
     refine thenA_n ?_
     refine ⟨_, (Option.some.inj h).symm, ?_⟩
     exact Ent.canq [177] RF.any.qv.qv.qo.qv.qv.qv (.nil _) (.ce (.nil _))
    ·rw [if_neg c22] at h
     refine AW.ifF rfl c22 ?_
     refine AW.skip ?_
     refine thenA_n ?_
     obtain ⟨x24, hx24, h⟩ := Option.bind_eq_some_iff.1 h
     obtain ⟨hx24b, hx24e⟩ := appO?_some.1 hx24
     have hx24f : ∀ id o : Nat, appO 1 1 id ([[.val (.int .u8 (IntKind.u8.wrap (shrV .u64 a1 (IntKind.i64.wrap (8 * (IntKind.i64.wrap ((IntKind.i64.wrap (j1_1 - 1)) - s1_1)))).toNat)))]]) 0 s1_0.length o (some (.row 1 true (List.map enc5 s1_0))) = some ⟨.own id 0 x24.length, [(o, none), (id, some (.row 1 true (List.map enc5 x24)))]⟩ := fun id o => by
       subst hx24e; rw [appO_ok (by simp) (by simpa using hx24b) (by decide)]; first | (simp [enc5]; done) | (simp [enc5]; omega)
     refine AW.regionL [1, 5, 6, 7, 22, 23] ?_
     generalize hK : inBlockA _ _ Exit.normal = K
     simp only [go_sem, ↓reduceIte, reduceCtorEq, Nat.reduceAdd, Nat.reduceSub, Nat.reduceMul, Nat.reduceEqDiff, Nat.reduceLT, Nat.reduceLeDiff, eq_true c20, eq_false c22, hx24f]
     subst hK
     refine block_n ?_
     refine thenA_n ?_
     refine AW.rY [1, 5, 6, 7, 22, 23] ?_
     refine thenA_n ?_
     refine ⟨_, (Option.some.inj h).symm, ?_⟩
     exact Ent.canq [145] RF.any.qv.qv.qo.qv.qv.qv (.nil _) (.ce (.nil _))
   ·rw [if_neg c20] at h
    refine AW.ifF rfl c20 ?_
    refine AW.exit ?_
    refine thenA_x ?_
    refine thenA_x ?_
    refine ⟨_, (Option.some.inj h).symm, _, ?_, rfl, rfl⟩
    exact Ent.canq [8] RF.any.qo (.nil _) (.ce (.nil _))
  ·intro e st' hX
   try dsimp only at h
   try dsimp only at hX
   obtain ⟨rfl, rfl⟩ := hX
   refine ⟨_, Ent.refl, ?_⟩
   refine block_x ?_
   refine thenA_n ?_
   refine AW.rX [4] ?_
   refine AW.ret ?_
   obtain rfl := Option.some.inj h
   (simp only [go_sem, ↓reduceIte, reduceCtorEq, Nat.reduceAdd, Nat.reduceSub, Nat.reduceMul, Nat.reduceEqDiff, Nat.reduceLT, Nat.reduceLeDiff, finA] <;> try simp)
end Au
end Go.Proofs.Yt

set_option linter.all false
set_option maxRecDepth 8000
set_option maxHeartbeats 1000000
namespace Go.Proofs.Yt
open Go.Gm
namespace Au
noncomputable def f108 (a0 : Int) (a1 : List Int) : Option (List Int) := ((f109 a1 (IntKind.u64.wrap a0)).bind fun x1 => some x1)
theorem ok108 (a0 : Int) (a1 : List Int) (r : (List Int)) (h : f108 a0 a1 = some r) : IC Tryz.prog 108 [some (.row 1 true [[.sl (List.map enc5 a1)]])] [.val (.int .i64 a0), .ptr 0 0 0] (.tup []) [some (.row 1 true [[.sl (List.map enc5 r)]])] [] := by
 rw [f108] at h
 refine ic_ofJ (N := 7) (rs := []) Tryz.func108 rfl rfl rfl (Nat.le_of_ble_eq_true rfl) ?_
 obtain ⟨x1, hx1, h⟩ := Option.bind_eq_some_iff.1 h
 refine AW.regionL [] ?_
 generalize hK : finJ Tryz.prog _ _ _ _ _ Exit.normal = K
 simp only [go_sem, ↓reduceIte, reduceCtorEq, Nat.reduceAdd, Nat.reduceSub, Nat.reduceMul, Nat.reduceEqDiff, Nat.reduceLT, Nat.reduceLeDiff]
 refine arC.of (ok109 a1 (IntKind.u64.wrap a0) x1 hx1) Tryz.call109 ?_
 simp only [go_sem, ↓reduceIte, reduceCtorEq, Nat.reduceAdd, Nat.reduceSub, Nat.reduceMul, Nat.reduceEqDiff, Nat.reduceLT, Nat.reduceLeDiff]
 subst hK
 refine ⟨⟨anyF, hpL [some (.row 1 true [[.sl (List.map enc5 x1)]])] [], 8⟩, ?_, ?_⟩
 · refine Ent.trans (Ent.stillObj (pre := []) (post := []) (q := 32) (off := 0) (len := x1.length) 0 rfl (own_sl (sz := 1) (m := true) rfl (by first | rfl | (simp [bytesI_len]; done) | (simp [bytesI_len]; omega)) (by simp only [go_sem])) (by decide)) ?_
   exact Ent.canq [] RF.any (.ce (.nil _)) (.nil _)
 obtain rfl := Option.some.inj h
 exact ⟨rfl, rfl, _, rfl, by first | rfl | simp [resOf, upd_ap, bytesI_len]⟩
end Au
end Go.Proofs.Yt

set_option linter.all false
set_option maxRecDepth 8000
set_option maxHeartbeats 1000000
namespace Go.Proofs.Yt
open Go.Gm
namespace Au
noncomputable def f118_s1 (a0 : Int) : Int × Int → Option ((Int × Int) ⊕ Int)
  | (s1_0, s1_1) => (if s1_1 < a0 then some (.inl (IntKind.u64.wrap (2 * s1_0), IntKind.i64.wrap (s1_1 + 1))) else some (.inr s1_0))
noncomputable def f118 (a0 : Int) : Option Int := ((loopO (f118_s1 a0) (1, 0)).bind fun y5 => some y5)
theorem ok118 (a0 : Int) (r : Int) (h : f118 a0 = some r) : PC Tryz.prog 118 [.val (.int .i64 a0)] (.val (.int .u64 r)) := by
 rw [f118] at h
 refine pc_of8 (N := 13) (rs := [.tmp 2]) Tryz.func118 rfl rfl rfl (Nat.le_of_ble_eq_true rfl) ?_
 refine AW.rX [0] ?_
 refine AW.rX [0, 3] ?_
 refine AW.seq ?_
 refine AW.rX [0, 3, 4] ?_
 refine AW.block ?_
 obtain ⟨y5, hy5, h⟩ := Option.bind_eq_some_iff.1 h
 refine AW.loopO (fun s => ⟨(upd (upd (upd anyF 0 (.val (.int .i64 a0))) 3 (.val (.int .u64 s.1))) 4 (.val (.int .i64 s.2))), hpL [] [], 8⟩) (fun z e st' => e = Exit.exit 0 ∧ st' = ⟨(upd anyF 3 (.val (.int .u64 z))), hpL [] [], 8⟩) hy5 ?_ ?_ ?_
 ·exact Ent.canq [] RF.any.qv.qv.qv (.nil _) (.nil _)
 ·clear h hy5
  rintro ⟨s1_0, s1_1⟩ x h
  rw [f118_s1] at h
  refine AW.seq ?_
  refine AW.rX [0, 3, 4, 7] ?_
  by_cases c3 : s1_1 < a0
  ·rw [if_pos c3] at h
   refine AW.ifT rfl c3 ?_
   refine AW.skip ?_
   refine thenA_n ?_
   refine AW.seq ?_
   refine AW.block ?_
   refine AW.rY [0, 3, 4] ?_
   refine block_n ?_
   refine thenA_n ?_
   refine AW.rY [0, 3, 4] ?_
   refine thenA_n ?_
   refine ⟨_, (Option.some.inj h).symm, ?_⟩
   exact Ent.canq [] RF.any.qv.qv.qv (.nil _) (.nil _)
  ·rw [if_neg c3] at h
   refine AW.ifF rfl c3 ?_
   refine AW.exit ?_
   refine thenA_x ?_
   refine thenA_x ?_
   refine ⟨_, (Option.some.inj h).symm, _, ?_, rfl, rfl⟩
   exact Ent.canq [] RF.any.qv (.nil _) (.nil _)
 ·intro e st' hX
  try dsimp only at h
  try dsimp only at hX
  obtain ⟨rfl, rfl⟩ := hX
  refine ⟨_, Ent.refl, ?_⟩
  refine block_x ?_
  refine thenA_n ?_
  refine AW.rX [2] ?_
  refine AW.ret ?_
  obtain rfl := Option.some.inj h
  (simp only [go_sem, ↓reduceIte, reduceCtorEq, Nat.reduceAdd, Nat.reduceSub, Nat.reduceMul, Nat.reduceEqDiff, Nat.reduceLT, Nat.reduceLeDiff, finA] <;> try simp)
end Au
end Go.Proofs.Yt

set_option linter.all false
set_option maxRecDepth 8000
set_option maxHeartbeats 1000000
namespace Go.Proofs.Yt
open Go.Gm
namespace Au
noncomputable def f117_s1 (a0 : Int) : Int → Option (Int ⊕ (Int ⊕ Unit))
  | s1_0 => (if s1_0 ≤ 8 then ((f118 (IntKind.i64.wrap (7 * s1_0))).bind fun x9 => (if a0 < x9 then some (.inr (.inl s1_0)) else some (.inl (IntKind.i64.wrap (s1_0 + 1))))) else some (.inr (.inr ())))
noncomputable def f117 (a0 : Int) : Option Int := ((loopO (f117_s1 a0) 1).bind fun y11 => match y11 with | .inl y12 => some y12 | .inr _ => some 9)
theorem ok117 (a0 : Int) (r : Int) (h : f117 a0 = some r) : PC Tryz.prog 117 [.val (.int .u64 a0)] (.val (.int .i64 r)) := by
 rw [f117] at h
 refine pc_of8 (N := 14) (rs := [.tmp 2]) Tryz.func117 rfl rfl rfl (Nat.le_of_ble_eq_true rfl) ?_
 refine AW.rX [0] ?_
 refine AW.seq ?_
 refine AW.rX [0, 3] ?_
 refine AW.block ?_
 obtain ⟨y11, hy11, h⟩ := Option.bind_eq_some_iff.1 h
 refine AW.loopO (fun s => ⟨(upd (upd anyF 0 (.val (.int .u64 a0))) 3 (.val (.int .i64 s))), hpL [] [], 8⟩) (fun y e st' => match y with | .inl z => e = Exit.ret ∧ finA Tryz.prog [.tmp 2] (.val (.int .i64 z)) .ret st' | .inr z => e = Exit.exit 0 ∧ st' = ⟨anyF, hpL [] [], 8⟩) hy11 ?_ ?_ ?_
 ·exact Ent.canq [] RF.any.qv.qv (.nil _) (.nil _)
 ·clear h hy11
  rintro s1_0 x h
  rw [f117_s1] at h
  refine AW.seq ?_
  refine AW.rX [0, 3, 5] ?_
  by_cases c8 : s1_0 ≤ 8
  ·rw [if_pos c8] at h
   refine AW.ifT rfl c8 ?_
   refine AW.skip ?_
   refine thenA_n ?_
   refine AW.seq ?_
   refine AW.block ?_
   obtain ⟨x9, hx9, h⟩ := Option.bind_eq_some_iff.1 h
   refine AW.regL [0, 3, 12] ?_
   generalize hK : AW Tryz.prog _ _ _ = K
   simp only [go_sem, ↓reduceIte, reduceCtorEq, Nat.reduceAdd, Nat.reduceSub, Nat.reduceMul, Nat.reduceEqDiff, Nat.reduceLT, Nat.reduceLeDiff, eq_true c8]
   refine arC.of (ok118 (IntKind.i64.wrap (7 * s1_0)) x9 hx9) Tryz.call118 ?_
   simp only [go_sem, ↓reduceIte, reduceCtorEq, Nat.reduceAdd, Nat.reduceSub, Nat.reduceMul, Nat.reduceEqDiff, Nat.reduceLT, Nat.reduceLeDiff, eq_true c8]
   subst hK
   by_cases c10 : a0 < x9
   ·rw [if_pos c10] at h
    refine AW.ifT rfl c10 ?_
    refine AW.rX [2] ?_
    refine AW.ret ?_
    refine block_r ?_
    refine thenA_r ?_
    refine thenA_r ?_
    refine ⟨_, (Option.some.inj h).symm, _, Ent.refl, rfl, ?_⟩
    (simp only [go_sem, ↓reduceIte, reduceCtorEq, Nat.reduceAdd, Nat.reduceSub, Nat.reduceMul, Nat.reduceEqDiff, Nat.reduceLT, Nat.reduceLeDiff, eq_true c8, eq_true c10, finA] <;> try simp)
   ·rw [if_neg c10] at h
    refine AW.ifF rfl c10 ?_
    refine AW.skip ?_
    refine block_n ?_
    refine thenA_n ?_
    refine AW.rY [0, 3] ?_
    refine thenA_n ?_
    refine ⟨_, (Option.some.inj h).symm, ?_⟩
    exact Ent.canq [] RF.any.qv.qv (.nil _) (.nil _)
  ·rw [if_neg c8] at h
   refine AW.ifF rfl c8 ?_
   refine AW.exit ?_
   refine thenA_x ?_
   refine thenA_x ?_
   refine ⟨_, (Option.some.inj h).symm, _, ?_, rfl, rfl⟩
   exact Ent.canq [] RF.any (.nil _) (.nil _)
 ·intro e st' hX
  rcases y11 with y12 | _ <;> dsimp only at h hX
  ·obtain ⟨rfl, hf⟩ := hX
   refine ⟨_, Ent.refl, ?_⟩
   refine block_r ?_
   refine thenA_r ?_
   obtain rfl := Option.some.inj h
   exact hf
  ·obtain ⟨rfl, rfl⟩ := hX
   refine ⟨_, Ent.refl, ?_⟩
   refine block_x ?_
   refine thenA_n ?_
   refine AW.rX [2] ?_
   refine AW.ret ?_
   obtain rfl := Option.some.inj h
   (simp only [go_sem, ↓reduceIte, reduceCtorEq, Nat.reduceAdd, Nat.reduceSub, Nat.reduceMul, Nat.reduceEqDiff, Nat.reduceLT, Nat.reduceLeDiff, finA] <;> try simp)
end Au
end Go.Proofs.Yt

set_option linter.all false
set_option maxRecDepth 8000
set_option maxHeartbeats 1000000
namespace Go.Proofs.Yt
open Go.Gm
namespace Au
noncomputable def f164 (a0 : Int) : Option Int := ((ix (bl Lib.len8tab) a0).bind fun x1 => some (IntKind.i64.wrap (x1.toNat : Int)))
theorem ok164 (a0 : Int) (r : Int) (h : f164 a0 = some r) : PC Tryz.prog 164 [.val (.int .u8 a0)] (.val (.int .i64 r)) := by
 rw [f164] at h
 refine pc_of8 (N := 6) (rs := [.tmp 2]) Tryz.func164 rfl rfl rfl (Nat.le_of_ble_eq_true rfl) ?_
 refine AW.rX [0] ?_
 obtain ⟨x1, hx1, h⟩ := Option.bind_eq_some_iff.1 h
 obtain ⟨hx1a, hx1b⟩ := ix_some.1 hx1
 refine AW.regL [2] ?_
 generalize hK : AW Tryz.prog _ _ _ = K
 simp only [go_sem, ↓reduceIte, reduceCtorEq, Nat.reduceAdd, Nat.reduceSub, Nat.reduceMul, Nat.reduceEqDiff, Nat.reduceLT, Nat.reduceLeDiff, idxO_some st9 hx1a hx1b]
 subst hK
 refine AW.ret ?_
 obtain rfl := Option.some.inj h
 (simp only [go_sem, ↓reduceIte, reduceCtorEq, Nat.reduceAdd, Nat.reduceSub, Nat.reduceMul, Nat.reduceEqDiff, Nat.reduceLT, Nat.reduceLeDiff, finA] <;> try simp)
end Au
end Go.Proofs.Yt

set_option linter.all false
set_option maxRecDepth 8000
set_option maxHeartbeats 1000000
namespace Go.Proofs.Yt
open Go.Gm
namespace Au
noncomputable def f144 (a0 : Int) : Option Int := ((f164 a0).bind fun x1 => some (IntKind.i64.wrap (8 - x1)))
theorem ok144 (a0 : Int) (r : Int) (h : f144 a0 = some r) : PC Tryz.prog 144 [.val (.int .u8 a0)] (.val (.int .i64 r)) := by
 rw [f144] at h
 refine pc_of8 (N := 6) (rs := [.tmp 2]) Tryz.func144 rfl rfl rfl (Nat.le_of_ble_eq_true rfl) ?_
 refine AW.rX [0] ?_
 obtain ⟨x1, hx1, h⟩ := Option.bind_eq_some_iff.1 h
 refine AW.regL [2] ?_
 generalize hK : AW Tryz.prog _ _ _ = K
 simp only [go_sem, ↓reduceIte, reduceCtorEq, Nat.reduceAdd, Nat.reduceSub, Nat.reduceMul, Nat.reduceEqDiff, Nat.reduceLT, Nat.reduceLeDiff]
 refine arC.of (ok164 a0 x1 hx1) Tryz.call164 ?_
 simp only [go_sem, ↓reduceIte, reduceCtorEq, Nat.reduceAdd, Nat.reduceSub, Nat.reduceMul, Nat.reduceEqDiff, Nat.reduceLT, Nat.reduceLeDiff]
 subst hK
 refine AW.ret ?_
 obtain rfl := Option.some.inj h
 (simp only [go_sem, ↓reduceIte, reduceCtorEq, Nat.reduceAdd, Nat.reduceSub, Nat.reduceMul, Nat.reduceEqDiff, Nat.reduceLT, Nat.reduceLeDiff, finA] <;> try simp)
end Au
end Go.Proofs.Yt
