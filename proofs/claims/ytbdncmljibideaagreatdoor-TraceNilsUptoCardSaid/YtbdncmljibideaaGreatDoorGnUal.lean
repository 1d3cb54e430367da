import Derived.Test.YtbdncmljibideaaGreatDoorGnUaf
import Derived.Test.YtbdncmljibideaaGreatDoorGnUah
import Derived.Test.YtbdncmljibideaaGreatDoorGnUak
import Derived.Test.YtbdncmljibideaaGreatDoorGnUaj
import Derived.Test.YtbdncmljibideaaGreatDoorGnUai
set_option linter.all false
set_option linter.unusedVariables false
set_option linter.unusedSimpArgs false
set_option linter.all false
set_option maxRecDepth 8000
set_option maxHeartbeats 1000000
namespace Go.Proofs.Yt
open Go.Gm
namespace Au
noncomputable def f94_95_j1 (x1 : (List Int) × Int × Int) : Int → Option ((List Pair) × Int)
  | j1_0 => (if j1_0 = 0 then ((f95 x1.1).bind fun x5 => some (x5.1, x5.2)) else some ([], j1_0))
noncomputable def f94_95 (a0 : List Int) : Option ((List Pair) × Int) := ((f119 a0 0).bind fun x1 => (if x1.2.2 = 0 then (if x1.2.1 < (a0.length : Int) then f94_95_j1 x1 3 else f94_95_j1 x1 x1.2.2) else f94_95_j1 x1 x1.2.2))
theorem ok94_95 (a0 : List Int) (r : (List Pair) × Int) (h : f94_95 a0 = some r) : PC Tryz.prog 94 [.sl (List.map enc5 a0), .clo (.func 95) [] []] (.tup [.fr 2 (List.map encPair r.1), .val (.int .i64 r.2)]) := by
 rw [f94_95] at h
 refine pc_of8 (N := 33) (rs := [.tmp 4, .tmp 5]) Tryz.func94 rfl rfl rfl (Nat.le_of_ble_eq_true rfl) ?_
 refine AW.rX [0, 1] ?_
 refine AW.regL [0, 1, 6] ?_
 generalize hK : AW Tryz.prog _ _ _ = K
 simp only [go_sem, ↓reduceIte, reduceCtorEq, Nat.reduceAdd, Nat.reduceSub, Nat.reduceMul, Nat.reduceEqDiff, Nat.reduceLT, Nat.reduceLeDiff]
 subst hK
 obtain ⟨x1, hx1, h⟩ := Option.bind_eq_some_iff.1 h
 refine AW.regL [0, 1, 6, 7, 8, 9] ?_
 generalize hK : AW Tryz.prog _ _ _ = K
 simp only [go_sem, ↓reduceIte, reduceCtorEq, Nat.reduceAdd, Nat.reduceSub, Nat.reduceMul, Nat.reduceEqDiff, Nat.reduceLT, Nat.reduceLeDiff]
 refine arC.of (ok119 a0 0 x1 hx1) Tryz.call119 ?_
 simp only [go_sem, ↓reduceIte, reduceCtorEq, Nat.reduceAdd, Nat.reduceSub, Nat.reduceMul, Nat.reduceEqDiff, Nat.reduceLT, Nat.reduceLeDiff]
 subst hK
 refine AW.join (fun s => ⟨(upd (upd (upd (upd anyF 1 (.clo (.func 95) [] [])) 6 (.val (.slice none 0 0))) 7 (.own 8 0 x1.1.length)) 9 (.val (.int .i64 s))), hpL [] [some (.row 1 true (List.map enc5 x1.1))], 9⟩) (fun s => f94_95_j1 x1 s = some r) ?_ ?_
 ·by_cases c6 : x1.2.2 = 0
  ·rw [if_pos c6] at h
   refine AW.regL [1, 6, 7, 9, 23] ?_
   generalize hK : AW Tryz.prog _ _ _ = K
   simp only [go_sem, ↓reduceIte, reduceCtorEq, Nat.reduceAdd, Nat.reduceSub, Nat.reduceMul, Nat.reduceEqDiff, Nat.reduceLT, Nat.reduceLeDiff, eq_true c6]
   subst hK
   by_cases c7 : x1.2.1 < (a0.length : Int)
   ·rw [if_pos c7] at h
    refine AW.ifT rfl c7 ?_
    refine AW.regionL [1, 6, 7, 9] ?_
    generalize hK : thenA _ _ Exit.normal = K
    simp only [go_sem, ↓reduceIte, reduceCtorEq, Nat.reduceAdd, Nat.reduceSub, Nat.reduceMul, Nat.reduceEqDiff, Nat.reduceLT, Nat.reduceLeDiff, eq_true c6, eq_true c7]
    subst hK
    refine thenA_n ?_
    refine ⟨_, h, ?_⟩
    exact Ent.canq [40] RF.any.qt.qv.qo.qv (.nil _) (.ce (.nil _))
   ·rw [if_neg c7] at h
    refine AW.ifF rfl c7 ?_
    refine AW.skip ?_
    refine thenA_n ?_
    refine ⟨_, h, ?_⟩
    exact Ent.canq [40] RF.any.qt.qv.qo.qv (.nil _) (.ce (.nil _))
  ·rw [if_neg c6] at h
   refine AW.regL [1, 6, 7, 9, 23] ?_
   generalize hK : AW Tryz.prog _ _ _ = K
   simp only [go_sem, ↓reduceIte, reduceCtorEq, Nat.reduceAdd, Nat.reduceSub, Nat.reduceMul, Nat.reduceEqDiff, Nat.reduceLT, Nat.reduceLeDiff, eq_false c6]
   subst hK
   refine AW.ifBF rfl rfl ?_
   refine AW.skip ?_
   refine thenA_n ?_
   refine ⟨_, h, ?_⟩
   exact Ent.canq [40] RF.any.qt.qv.qo.qv (.nil _) (.ce (.nil _))
 ·clear h
  rintro j1_0 h
  rw [f94_95_j1] at h
  refine AW.seq ?_
  refine AW.rX [1, 6, 7, 9, 25] ?_
  by_cases c4 : j1_0 = 0
  ·rw [if_pos c4] at h
   refine AW.ifF rfl (fun q => q c4) ?_
   refine AW.skip ?_
   refine thenA_n ?_
   obtain ⟨x5, hx5, h⟩ := Option.bind_eq_some_iff.1 h
   refine AW.regL [4, 5] ?_
   generalize hK : AW Tryz.prog _ _ _ = K
   simp only [go_sem, ↓reduceIte, reduceCtorEq, Nat.reduceAdd, Nat.reduceSub, Nat.reduceMul, Nat.reduceEqDiff, Nat.reduceLT, Nat.reduceLeDiff, eq_true c4]
   refine arC.of (ok95 x1.1 x5 hx5) Tryz.call95 ?_
   simp only [go_sem, ↓reduceIte, reduceCtorEq, Nat.reduceAdd, Nat.reduceSub, Nat.reduceMul, Nat.reduceEqDiff, Nat.reduceLT, Nat.reduceLeDiff, eq_true c4]
   subst hK
   refine AW.ret ?_
   obtain rfl := Option.some.inj h
   (simp only [go_sem, ↓reduceIte, reduceCtorEq, Nat.reduceAdd, Nat.reduceSub, Nat.reduceMul, Nat.reduceEqDiff, Nat.reduceLT, Nat.reduceLeDiff, eq_true c4, finA] <;> try simp)
  ·rw [if_neg c4] at h
   refine AW.ifT rfl c4 ?_
   refine AW.rX [4, 5] ?_
   refine AW.ent (Ent.nilOwn 4 2 (by decide) rfl) ?_
   refine AW.ret ?_
   refine thenA_r ?_
   obtain rfl := Option.some.inj h
   (simp only [go_sem, ↓reduceIte, reduceCtorEq, Nat.reduceAdd, Nat.reduceSub, Nat.reduceMul, Nat.reduceEqDiff, Nat.reduceLT, Nat.reduceLeDiff, eq_false c4, finA] <;> try simp)
end Au
end Go.Proofs.Yt

set_option linter.all false
set_option maxRecDepth 8000
set_option maxHeartbeats 1000000
namespace Go.Proofs.Yt
open Go.Gm
namespace Au
noncomputable def f60 (a0 : Res) : Option ByteArray := some a0.Key
theorem ok60 (a0 : Res) (r : ByteArray) (h : f60 a0 = some r) : PC Tryz.prog 60 [.agg (encRes a0)] (.val (.string r)) := by
 rw [f60] at h
 refine pc_of8 (N := 5) (rs := [.tmp 2]) Tryz.func60 rfl rfl rfl (Nat.le_of_ble_eq_true rfl) ?_
 refine AW.rX [1] ?_
 refine AW.rX [2] ?_
 refine AW.ret ?_
 obtain rfl := Option.some.inj h
 (simp only [go_sem, ↓reduceIte, reduceCtorEq, Nat.reduceAdd, Nat.reduceSub, Nat.reduceMul, Nat.reduceEqDiff, Nat.reduceLT, Nat.reduceLeDiff, finA] <;> try simp)
end Au
end Go.Proofs.Yt

set_option linter.all false
set_option maxRecDepth 8000
set_option maxHeartbeats 1000000
namespace Go.Proofs.Yt
open Go.Gm
namespace Au
noncomputable def f59_60_s1 (a0 : List Res) : Int → Option (Int ⊕ (Bool ⊕ Unit))
  | s1_0 => (if s1_0 < (a0.length : Int) then (if 0 < s1_0 then ((ix a0 (IntKind.i64.wrap (s1_0 - 1))).bind fun x17 => ((f60 x17).bind fun x18 => ((ix a0 s1_0).bind fun x19 => ((f60 x19).bind fun x20 => (if (sLt x18 x20) = true then some (.inl (IntKind.i64.wrap (s1_0 + 1))) else some (.inr (.inl false))))))) else some (.inl (IntKind.i64.wrap (s1_0 + 1)))) else some (.inr (.inr ())))
noncomputable def f59_60 (a0 : List Res) : Option Bool := ((loopO (f59_60_s1 a0) 0).bind fun y22 => match y22 with | .inl y23 => some y23 | .inr _ => some true)
theorem ok59_60 (a0 : List Res) (r : Bool) (h : f59_60 a0 = some r) : PC Tryz.prog 59 [.sl (List.map encRes a0), .clo (.func 60) [] []] (.val (.bool r)) := by
 rw [f59_60] at h
 refine pc_of8 (N := 30) (rs := [.tmp 4]) Tryz.func59 rfl rfl rfl (Nat.le_of_ble_eq_true rfl) ?_
 refine AW.rX [0, 1] ?_
 refine AW.seq ?_
 refine AW.rX [0, 1, 7, 8] ?_
 refine AW.block ?_
 obtain ⟨y22, hy22, h⟩ := Option.bind_eq_some_iff.1 h
 refine AW.loopO (fun s => ⟨(upd (upd (upd (upd anyF 0 (.sl (List.map encRes a0))) 1 (.clo (.func 60) [] [])) 7 (.val (.int .i64 (a0.length : Int)))) 8 (.val (.int .i64 s))), hpL [] [], 8⟩) (fun y e st' => match y with | .inl z => e = Exit.ret ∧ finA Tryz.prog [.tmp 4] (.val (.bool z)) .ret st' | .inr z => e = Exit.exit 0 ∧ st' = ⟨anyF, hpL [] [], 8⟩) hy22 ?_ ?_ ?_
 ·exact Ent.canq [] RF.any.qv.qt.qv.qv (.nil _) (.nil _)
 ·clear h hy22
  rintro s1_0 x h
  rw [f59_60_s1] at h
  refine AW.rX [0, 1, 7, 8, 9] ?_
  refine AW.seq ?_
  by_cases c15 : s1_0 < (a0.length : Int)
  ·rw [if_pos c15] at h
   refine AW.ifT rfl c15 ?_
   refine AW.skip ?_
   refine thenA_n ?_
   refine AW.seq ?_
   refine AW.block ?_
   refine AW.rX [0, 1, 5, 7, 8] ?_
   by_cases c16 : 0 < s1_0
   ·rw [if_pos c16] at h
    obtain ⟨x17, hx17, h⟩ := Option.bind_eq_some_iff.1 h
    obtain ⟨hx17a, hx17b⟩ := ix_some.1 hx17
    obtain ⟨x18, hx18, h⟩ := Option.bind_eq_some_iff.1 h
    obtain ⟨x19, hx19, h⟩ := Option.bind_eq_some_iff.1 h
    obtain ⟨hx19a, hx19b⟩ := ix_some.1 hx19
    obtain ⟨x20, hx20, h⟩ := Option.bind_eq_some_iff.1 h
    refine AW.regdL [0, 1, 7, 8, 28] [[], [0], [0, 1], [0, 1, 2], [0, 1, 2], [0, 1, 2], [0, 1, 2, 5], [0, 1, 2, 4, 5, 6], [0, 1, 2, 4, 5, 6, 7], [0, 1, 2, 3, 4, 5, 6, 7, 8], [0, 1, 2], [0, 1, 2], [0, 1, 2], [0, 1, 2, 11, 12], [0, 1, 2, 11, 12, 13], [0, 1, 2, 3, 4, 5, 6, 7, 8, 9, 10, 11, 12, 13, 14], [0, 1, 2, 3, 4, 5, 6, 7, 8, 9, 10, 11, 12, 13, 14, 15], [0, 1, 2, 3, 4, 5, 6, 7, 8, 9, 10, 11, 12, 13, 14, 15, 16]] [0, 1, 2, 3, 4, 5, 6, 7, 8, 9, 10, 11, 12, 13, 14, 15, 16, 17] noFt (fun _ _ _ h => by simp [noFt] at h) draws (by kernel_rfl) (by kernel_rfl) ?_
    generalize hK : AW Tryz.prog _ _ _ = K
    simp only [go_sem, ↓reduceIte, reduceCtorEq, Nat.reduceAdd, Nat.reduceSub, Nat.reduceMul, Nat.reduceEqDiff, Nat.reduceLT, Nat.reduceLeDiff, eq_true c15, eq_true c16, natOf_le hx17a, hx17b, natOf_le hx19a, hx19b]
    refine adN.pc (ok60 x17 x18 hx18) Tryz.call60 (callV_tmp (by simp only [upd_ap, Nat.reduceEqDiff, if_true, if_false, ↓reduceIte]; rfl)) (by simp only [go_sem, ↓reduceIte, reduceCtorEq, Nat.reduceAdd, Nat.reduceSub, Nat.reduceMul, Nat.reduceEqDiff, Nat.reduceLT, Nat.reduceLeDiff, List.nil_append, List.append_nil, eq_true c15, eq_true c16, natOf_le hx17a, hx17b, natOf_le hx19a, hx19b]) (by simp only [go_sem, ↓reduceIte, reduceCtorEq, Nat.reduceAdd, Nat.reduceSub, Nat.reduceMul, Nat.reduceEqDiff, Nat.reduceLT, Nat.reduceLeDiff]) ?_
    simp only [go_sem, ↓reduceIte, reduceCtorEq, Nat.reduceAdd, Nat.reduceSub, Nat.reduceMul, Nat.reduceEqDiff, Nat.reduceLT, Nat.reduceLeDiff, eq_true c15, eq_true c16, natOf_le hx17a, hx17b, natOf_le hx19a, hx19b]
    refine adN.pc (ok60 x19 x20 hx20) Tryz.call60 (callV_tmp (by simp only [upd_ap, Nat.reduceEqDiff, if_true, if_false, ↓reduceIte]; rfl)) (by simp only [go_sem, ↓reduceIte, reduceCtorEq, Nat.reduceAdd, Nat.reduceSub, Nat.reduceMul, Nat.reduceEqDiff, Nat.reduceLT, Nat.reduceLeDiff, List.nil_append, List.append_nil, eq_true c15, eq_true c16, natOf_le hx17a, hx17b, natOf_le hx19a, hx19b]) (by simp only [go_sem, ↓reduceIte, reduceCtorEq, Nat.reduceAdd, Nat.reduceSub, Nat.reduceMul, Nat.reduceEqDiff, Nat.reduceLT, Nat.reduceLeDiff]) ?_
    simp only [go_sem, ↓reduceIte, reduceCtorEq, Nat.reduceAdd, Nat.reduceSub, Nat.reduceMul, Nat.reduceEqDiff, Nat.reduceLT, Nat.reduceLeDiff, eq_true c15, eq_true c16, natOf_le hx17a, hx17b, natOf_le hx19a, hx19b]
    subst hK
    by_cases c21 : (sLt x18 x20) = true
    ·rw [if_pos c21] at h
     refine AW.ifBF rfl (by first | (rw [c21]; rfl) | simp_all) ?_
     refine AW.skip ?_
     refine block_n ?_
     refine thenA_n ?_
     refine AW.regionL [0, 1, 7, 8] ?_
     generalize hK : thenA _ _ Exit.normal = K
     simp only [go_sem, ↓reduceIte, reduceCtorEq, Nat.reduceAdd, Nat.reduceSub, Nat.reduceMul, Nat.reduceEqDiff, Nat.reduceLT, Nat.reduceLeDiff, eq_true c15, eq_true c16, c21]
     subst hK
     refine thenA_n ?_
     refine ⟨_, (Option.some.inj h).symm, ?_⟩
     exact Ent.canq [] RF.any.qv.qt.qv.qv (.nil _) (.nil _)
    ·rw [if_neg c21] at h
     rw [Bool.not_eq_true] at c21
     refine AW.ifBT rfl (by first | (rw [c21]; rfl) | simp_all) ?_
     refine AW.regL [4] ?_
     generalize hK : AW Tryz.prog _ _ _ = K
     simp only [go_sem, ↓reduceIte, reduceCtorEq, Nat.reduceAdd, Nat.reduceSub, Nat.reduceMul, Nat.reduceEqDiff, Nat.reduceLT, Nat.reduceLeDiff, eq_true c15, eq_true c16, c21]
     subst hK
     refine AW.ret ?_
     refine block_r ?_
     refine thenA_r ?_
     refine thenA_r ?_
     refine ⟨_, (Option.some.inj h).symm, _, Ent.refl, rfl, ?_⟩
     (simp only [go_sem, ↓reduceIte, reduceCtorEq, Nat.reduceAdd, Nat.reduceSub, Nat.reduceMul, Nat.reduceEqDiff, Nat.reduceLT, Nat.reduceLeDiff, eq_true c15, eq_true c16, c21, finA] <;> try simp)
   ·rw [if_neg c16] at h
    refine AW.regdL [0, 1, 7, 8, 28] [[], [0], [0, 1], [0, 1, 2], [0, 1, 2], [0, 1, 2], [0, 1, 2, 5], [0, 1, 2, 4, 5, 6], [0, 1, 2, 4, 5, 6, 7], [0, 1, 2, 3, 4, 5, 6, 7, 8], [0, 1, 2], [0, 1, 2], [0, 1, 2], [0, 1, 2, 11, 12], [0, 1, 2, 11, 12, 13], [0, 1, 2, 3, 4, 5, 6, 7, 8, 9, 10, 11, 12, 13, 14], [0, 1, 2, 3, 4, 5, 6, 7, 8, 9, 10, 11, 12, 13, 14, 15], [0, 1, 2, 3, 4, 5, 6, 7, 8, 9, 10, 11, 12, 13, 14, 15, 16]] [0, 1, 2, 3, 4, 5, 6, 7, 8, 9, 10, 11, 12, 13, 14, 15, 16, 17] noFt (fun _ _ _ h => by simp [noFt] at h) draws (by kernel_rfl) (by kernel_rfl) ?_
    generalize hK : AW Tryz.prog _ _ _ = K
    simp only [go_sem, ↓reduceIte, reduceCtorEq, Nat.reduceAdd, Nat.reduceSub, Nat.reduceMul, Nat.reduceEqDiff, Nat.reduceLT, Nat.reduceLeDiff, eq_true c15, eq_false c16]
    subst hK
    refine AW.ifBF rfl rfl ?_
    refine AW.skip ?_
    refine block_n ?_
    refine thenA_n ?_
    refine AW.rY [0, 1, 7, 8] ?_
    refine thenA_n ?_
    refine ⟨_, (Option.some.inj h).symm, ?_⟩
    exact Ent.canq [] RF.any.qv.qt.qv.qv (.nil _) (.nil _)
  ·rw [if_neg c15] at h
   refine AW.ifF rfl c15 ?_
   refine AW.exit ?_
   refine thenA_x ?_
   refine thenA_x ?_
   refine ⟨_, (Option.some.inj h).symm, _, ?_, rfl, rfl⟩
   exact Ent.canq [] RF.any (.nil _) (.nil _)
 ·intro e st' hX
  rcases y22 with y23 | _ <;> dsimp only at h hX
  ·obtain ⟨rfl, hf⟩ := hX
   refine ⟨_, Ent.refl, ?_⟩
   refine block_r ?_
   refine thenA_r ?_
   obtain rfl := Option.some.inj h
   exact hf
  ·obtain ⟨rfl, rfl⟩ := hX
   refine ⟨_, Ent.refl, ?_⟩
   refine block_x ?_
   refine thenA_n ?_
   refine AW.rX [4] ?_
   refine AW.ret ?_
   obtain rfl := Option.some.inj h
   (simp only [go_sem, ↓reduceIte, reduceCtorEq, Nat.reduceAdd, Nat.reduceSub, Nat.reduceMul, Nat.reduceEqDiff, Nat.reduceLT, Nat.reduceLeDiff, finA] <;> try simp)
end Au
end Go.Proofs.Yt

set_option linter.all false
set_option maxRecDepth 8000
set_option maxHeartbeats 1000000
namespace Go.Proofs.Yt
open Go.Gm
namespace Au
noncomputable def f32_s1 (a0 : List Res) : Int → Option (Int ⊕ (Bool ⊕ Unit))
  | s1_0 => (if s1_0 < (a0.length : Int) then ((ix a0 s1_0).bind fun x18 => (if (x18.Offs.length : Int) = 0 then some (.inr (.inl false)) else ((f58 x18.Offs).bind fun x20 => (if x20 = true then some (.inl (IntKind.i64.wrap (s1_0 + 1))) else some (.inr (.inl false)))))) else some (.inr (.inr ())))
noncomputable def f32 (a0 : List Res) : Option Bool := ((loopO (f32_s1 a0) 0).bind fun y22 => match y22 with | .inl y23 => some y23 | .inr _ => ((f59_60 a0).bind fun x24 => some x24))
theorem ok32 (a0 : List Res) (r : Bool) (h : f32 a0 = some r) : PC Tryz.prog 32 [.sl (List.map encRes a0)] (.val (.bool r)) := by
 rw [f32] at h
 refine pc_of8 (N := 24) (rs := [.tmp 2]) Tryz.func32 rfl rfl rfl (Nat.le_of_ble_eq_true rfl) ?_
 refine AW.rX [0] ?_
 refine AW.seq ?_
 refine AW.rX [0, 5, 6, 7] ?_
 refine AW.block ?_
 obtain ⟨y22, hy22, h⟩ := Option.bind_eq_some_iff.1 h
 refine AW.loopO (fun s => ⟨(upd (upd (upd (upd anyF 0 (.sl (List.map encRes a0))) 5 (.sl (List.map encRes a0))) 6 (.val (.int .i64 (a0.length : Int)))) 7 (.val (.int .i64 s))), hpL [] [], 8⟩) (fun y e st' => match y with | .inl z => e = Exit.ret ∧ finA Tryz.prog [.tmp 2] (.val (.bool z)) .ret st' | .inr z => e = Exit.exit 0 ∧ st' = ⟨(upd anyF 0 (.sl (List.map encRes a0))), hpL [] [], 8⟩) hy22 ?_ ?_ ?_
 ·exact Ent.canq [] RF.any.qv.qv.qv.qv (.nil _) (.nil _)
 ·clear h hy22
  rintro s1_0 x h
  rw [f32_s1] at h
  refine AW.regL [0, 5, 6, 7, 8] ?_
  generalize hK : AW Tryz.prog _ _ _ = K
  simp only [go_sem, ↓reduceIte, reduceCtorEq, Nat.reduceAdd, Nat.reduceSub, Nat.reduceMul, Nat.reduceEqDiff, Nat.reduceLT, Nat.reduceLeDiff]
  subst hK
  refine AW.seq ?_
  by_cases c17 : s1_0 < (a0.length : Int)
  ·rw [if_pos c17] at h
   refine AW.ifT rfl c17 ?_
   refine AW.skip ?_
   refine thenA_n ?_
   refine AW.seq ?_
   refine AW.block ?_
   obtain ⟨x18, hx18, h⟩ := Option.bind_eq_some_iff.1 h
   obtain ⟨hx18a, hx18b⟩ := ix_some.1 hx18
   refine AW.regL [0, 4, 5, 6, 7] ?_
   generalize hK : AW Tryz.prog _ _ _ = K
   simp only [go_sem, ↓reduceIte, reduceCtorEq, Nat.reduceAdd, Nat.reduceSub, Nat.reduceMul, Nat.reduceEqDiff, Nat.reduceLT, Nat.reduceLeDiff, eq_true c17, natOf_le hx18a, hx18b]
   subst hK
   by_cases c19 : (x18.Offs.length : Int) = 0
   ·rw [if_pos c19] at h
    refine AW.regL [0, 5, 6, 7, 20] ?_
    generalize hK : AW Tryz.prog _ _ _ = K
    simp only [go_sem, ↓reduceIte, reduceCtorEq, Nat.reduceAdd, Nat.reduceSub, Nat.reduceMul, Nat.reduceEqDiff, Nat.reduceLT, Nat.reduceLeDiff, eq_true c17, eq_true c19]
    subst hK
    refine AW.ifBT rfl rfl ?_
    refine AW.rX [2] ?_
    refine AW.ret ?_
    refine block_r ?_
    refine thenA_r ?_
    refine thenA_r ?_
    refine ⟨_, (Option.some.inj h).symm, _, Ent.refl, rfl, ?_⟩
    (simp only [go_sem, ↓reduceIte, reduceCtorEq, Nat.reduceAdd, Nat.reduceSub, Nat.reduceMul, Nat.reduceEqDiff, Nat.reduceLT, Nat.reduceLeDiff, eq_true c17, eq_true c19, finA] <;> try simp)
   ·rw [if_neg c19] at h
    obtain ⟨x20, hx20, h⟩ := Option.bind_eq_some_iff.1 h
    refine AW.regL [0, 5, 6, 7, 20] ?_
    generalize hK : AW Tryz.prog _ _ _ = K
    simp only [go_sem, ↓reduceIte, reduceCtorEq, Nat.reduceAdd, Nat.reduceSub, Nat.reduceMul, Nat.reduceEqDiff, Nat.reduceLT, Nat.reduceLeDiff, eq_true c17, eq_false c19]
    refine arC.of (ok58 x18.Offs x20 hx20) Tryz.call58 ?_
    simp only [go_sem, ↓reduceIte, reduceCtorEq, Nat.reduceAdd, Nat.reduceSub, Nat.reduceMul, Nat.reduceEqDiff, Nat.reduceLT, Nat.reduceLeDiff, eq_true c17, eq_false c19]
    subst hK
    by_cases c21 : x20 = true
    ·rw [if_pos c21] at h
     refine AW.ifBF rfl (by first | (rw [c21]; rfl) | simp_all) ?_
     refine AW.skip ?_
     refine block_n ?_
     refine thenA_n ?_
     refine AW.regionL [0, 5, 6, 7] ?_
     generalize hK : thenA _ _ Exit.normal = K
     simp only [go_sem, ↓reduceIte, reduceCtorEq, Nat.reduceAdd, Nat.reduceSub, Nat.reduceMul, Nat.reduceEqDiff, Nat.reduceLT, Nat.reduceLeDiff, eq_true c17, eq_false c19, c21]
     subst hK
     refine thenA_n ?_
     refine ⟨_, (Option.some.inj h).symm, ?_⟩
     exact Ent.canq [] RF.any.qv.qv.qv.qv (.nil _) (.nil _)
    ·rw [if_neg c21] at h
     rw [Bool.not_eq_true] at c21
     refine AW.ifBT rfl (by first | (rw [c21]; rfl) | simp_all) ?_
     refine AW.regL [2] ?_
     generalize hK : AW Tryz.prog _ _ _ = K
     simp only [go_sem, ↓reduceIte, reduceCtorEq, Nat.reduceAdd, Nat.reduceSub, Nat.reduceMul, Nat.reduceEqDiff, Nat.reduceLT, Nat.reduceLeDiff, eq_true c17, eq_false c19, c21]
     subst hK
     refine AW.ret ?_
     refine block_r ?_
     refine thenA_r ?_
     refine thenA_r ?_
     refine ⟨_, (Option.some.inj h).symm, _, Ent.refl, rfl, ?_⟩
     (simp only [go_sem, ↓reduceIte, reduceCtorEq, Nat.reduceAdd, Nat.reduceSub, Nat.reduceMul, Nat.reduceEqDiff, Nat.reduceLT, Nat.reduceLeDiff, eq_true c17, eq_false c19, c21, finA] <;> try simp)
  ·rw [if_neg c17] at h
   refine AW.ifF rfl c17 ?_
   refine AW.exit ?_
   refine thenA_x ?_
   refine thenA_x ?_
   refine ⟨_, (Option.some.inj h).symm, _, ?_, rfl, rfl⟩
   exact Ent.canq [] RF.any.qv (.nil _) (.nil _)
 ·intro e st' hX
  rcases y22 with y23 | _ <;> dsimp only at h hX
  ·obtain ⟨rfl, hf⟩ := hX
   refine ⟨_, Ent.refl, ?_⟩
   refine block_r ?_
   refine thenA_r ?_
   obtain rfl := Option.some.inj h
   exact hf
  ·obtain ⟨rfl, rfl⟩ := hX
   refine ⟨_, Ent.refl, ?_⟩
   refine block_x ?_
   refine thenA_n ?_
   obtain ⟨x24, hx24, h⟩ := Option.bind_eq_some_iff.1 h
   refine AW.regL [2] ?_
   generalize hK : AW Tryz.prog _ _ _ = K
   simp only [go_sem, ↓reduceIte, reduceCtorEq, Nat.reduceAdd, Nat.reduceSub, Nat.reduceMul, Nat.reduceEqDiff, Nat.reduceLT, Nat.reduceLeDiff]
   refine arC.of (PC.norm (us := [.sl (List.map encRes a0), .val (.func (.func 60) #[] #[])]) (ok59_60 a0 x24 hx24) (by first | rfl | simp [norm, normL, normR, go_sem])) Tryz.call59 ?_
   simp only [go_sem, ↓reduceIte, reduceCtorEq, Nat.reduceAdd, Nat.reduceSub, Nat.reduceMul, Nat.reduceEqDiff, Nat.reduceLT, Nat.reduceLeDiff]
   subst hK
   refine AW.ret ?_
   obtain rfl := Option.some.inj h
   (simp only [go_sem, ↓reduceIte, reduceCtorEq, Nat.reduceAdd, Nat.reduceSub, Nat.reduceMul, Nat.reduceEqDiff, Nat.reduceLT, Nat.reduceLeDiff, finA] <;> try simp)
end Au
end Go.Proofs.Yt

set_option linter.all false
set_option maxRecDepth 8000
set_option maxHeartbeats 1000000
namespace Go.Proofs.Yt
open Go.Gm
namespace Au
noncomputable def f97_s2 (a0 : List Int) (x1 : Int × Int × Int) : Int × (List Res) × Int → Option ((Int × (List Res) × Int) ⊕ (((List Res) × Int) ⊕ (Int × (List Res))))
  | (s2_0, s2_1, s2_2) => (if s2_2 < x1.1 then ((f123 a0 s2_0).bind fun x35 => (if x35.2.2 = 0 then ((appO? s2_1 [x35.1]).bind fun x37 => some (.inl (x35.2.1, x37, IntKind.u64.wrap (s2_2 + 1)))) else some (.inr (.inl ([], x35.2.2))))) else some (.inr (.inr (s2_0, s2_1))))
noncomputable def f97 (a0 : List Int) : Option ((List Res) × Int) := ((f122 a0 0).bind fun x1 => (if x1.2.2 = 0 then (if 65536 < x1.1 then some ([], 9) else ((loopO (f97_s2 a0 x1) (x1.2.1, [], 0)).bind fun y38 => match y38 with | .inl y39 => some y39 | .inr (y40, y41) => (if y40 < (a0.length : Int) then some ([], 3) else ((f32 y41).bind fun x43 => (if x43 = true then some (y41, 0) else some ([], 3)))))) else some ([], x1.2.2)))
theorem ok97 (a0 : List Int) (r : (List Res) × Int) (h : f97 a0 = some r) : PC Tryz.prog 97 [.sl (List.map enc5 a0)] (.tup [.fr 3 (List.map encRes r.1), .val (.int .i64 r.2)]) := by
 rw [f97] at h
 refine pc_of8 (N := 53) (rs := [.tmp 2, .tmp 3]) Tryz.func97 rfl rfl rfl (Nat.le_of_ble_eq_true rfl) ?_
 refine AW.rX [0] ?_
 obtain ⟨x1, hx1, h⟩ := Option.bind_eq_some_iff.1 h
 refine AW.regL [0, 4, 5, 6] ?_
 generalize hK : AW Tryz.prog _ _ _ = K
 simp only [go_sem, ↓reduceIte, reduceCtorEq, Nat.reduceAdd, Nat.reduceSub, Nat.reduceMul, Nat.reduceEqDiff, Nat.reduceLT, Nat.reduceLeDiff]
 refine arC.of (ok122 a0 0 x1 hx1) Tryz.call122 ?_
 simp only [go_sem, ↓reduceIte, reduceCtorEq, Nat.reduceAdd, Nat.reduceSub, Nat.reduceMul, Nat.reduceEqDiff, Nat.reduceLT, Nat.reduceLeDiff]
 subst hK
 refine AW.seq ?_
 refine AW.block ?_
 refine AW.rX [0, 4, 5, 6, 17] ?_
 by_cases c4 : x1.2.2 = 0
 ·rw [if_pos c4] at h
  refine AW.ifF rfl (fun q => q c4) ?_
  refine AW.rX [0, 4, 5, 21] ?_
  by_cases c5 : 65536 < x1.1
  ·rw [if_pos c5] at h
   refine AW.ifT rfl c5 ?_
   refine AW.rX [2, 3] ?_
   refine AW.ent (Ent.nilOwn 2 3 (by decide) rfl) ?_
   refine AW.ret ?_
   refine block_r ?_
   refine thenA_r ?_
   obtain rfl := Option.some.inj h
   (simp only [go_sem, ↓reduceIte, reduceCtorEq, Nat.reduceAdd, Nat.reduceSub, Nat.reduceMul, Nat.reduceEqDiff, Nat.reduceLT, Nat.reduceLeDiff, eq_true c4, eq_true c5, finA] <;> try simp)
  ·rw [if_neg c5] at h
   refine AW.ifF rfl c5 ?_
   refine AW.skip ?_
   refine block_n ?_
   refine thenA_n ?_
   refine AW.rX [0, 4, 5, 7] ?_
   refine AW.seq ?_
   refine AW.rX [0, 5, 7, 24, 25] ?_
   refine AW.block ?_
   obtain ⟨y38, hy38, h⟩ := Option.bind_eq_some_iff.1 h
   refine AW.loopO (fun s => ⟨(upd (upd (upd (upd (upd anyF 0 (.sl (List.map enc5 a0))) 5 (.val (.int .i64 s.1))) 7 (.own 8 0 s.2.1.length)) 24 (.val (.int .u64 x1.1))) 25 (.val (.int .u64 s.2.2))), hpL [] [some (.row 3 true (List.map encRes s.2.1))], 9⟩) (fun y e st' => match y with | .inl z => e = Exit.ret ∧ finA Tryz.prog [.tmp 2, .tmp 3] (.tup [.fr 3 (List.map encRes z.1), .val (.int .i64 z.2)]) .ret st' | .inr z => e = Exit.exit 1 ∧ st' = ⟨(upd (upd (upd anyF 0 (.sl (List.map enc5 a0))) 5 (.val (.int .i64 z.1))) 7 (.own 8 0 z.2.length)), hpL [] [some (.row 3 true (List.map encRes z.2))], 9⟩) hy38 ?_ ?_ ?_
   ·refine Ent.trans (Ent.nilOwn 7 3 (by decide) rfl) ?_
    exact Ent.canq [168] RF.any.qv.qv.qo.qv.qv (.nil _) (.ce (.nil _))
   ·clear h hy38
    rintro ⟨s2_0, s2_1, s2_2⟩ x h
    rw [f97_s2] at h
    refine AW.rX [0, 5, 7, 24, 25, 26] ?_
    refine AW.seq ?_
    by_cases c34 : s2_2 < x1.1
    ·rw [if_pos c34] at h
     refine AW.ifT rfl c34 ?_
     refine AW.skip ?_
     refine thenA_n ?_
     refine AW.seq ?_
     refine AW.block ?_
     obtain ⟨x35, hx35, h⟩ := Option.bind_eq_some_iff.1 h
     refine AW.regL [0, 7, 8, 9, 10, 24, 25] ?_
     generalize hK : AW Tryz.prog _ _ _ = K
     simp only [go_sem, ↓reduceIte, reduceCtorEq, Nat.reduceAdd, Nat.reduceSub, Nat.reduceMul, Nat.reduceEqDiff, Nat.reduceLT, Nat.reduceLeDiff, eq_true c4, eq_false c5, eq_true c34]
     refine arC.of (ok123 a0 s2_0 x35 hx35) Tryz.call123 ?_
     simp only [go_sem, ↓reduceIte, reduceCtorEq, Nat.reduceAdd, Nat.reduceSub, Nat.reduceMul, Nat.reduceEqDiff, Nat.reduceLT, Nat.reduceLeDiff, eq_true c4, eq_false c5, eq_true c34]
     subst hK
     refine AW.seq ?_
     refine AW.rX [0, 7, 8, 9, 10, 24, 25, 35] ?_
     by_cases c36 : x35.2.2 = 0
     ·rw [if_pos c36] at h
      refine AW.ifF rfl (fun q => q c36) ?_
      refine AW.skip ?_
      refine thenA_n ?_
      obtain ⟨x37, hx37, h⟩ := Option.bind_eq_some_iff.1 h
      obtain ⟨hx37b, hx37e⟩ := appO?_some.1 hx37
      have hx37f : ∀ id o : Nat, appO 3 56 id ([[.val (.string x35.1.Key), .val (.string x35.1.Val), .sl (List.map enc3 x35.1.Offs)]]) 0 s2_1.length o (some (.row 3 true (List.map encRes s2_1))) = some ⟨.own id 0 x37.length, [(o, none), (id, some (.row 3 true (List.map encRes x37)))]⟩ := fun id o => by
        subst hx37e; rw [appO_ok (by simp) (by simpa using hx37b) (by decide)]; first | (simp [encRes]; done) | (simp [encRes]; omega)
      refine AW.regionL [0, 5, 7, 24, 25] ?_
      generalize hK : inBlockA _ _ Exit.normal = K
      simp only [go_sem, ↓reduceIte, reduceCtorEq, Nat.reduceAdd, Nat.reduceSub, Nat.reduceMul, Nat.reduceEqDiff, Nat.reduceLT, Nat.reduceLeDiff, eq_true c4, eq_false c5, eq_true c34, eq_true c36, hx37f]
      subst hK
      refine block_n ?_
      refine thenA_n ?_
      refine AW.rY [0, 5, 7, 24, 25] ?_
      refine thenA_n ?_
      refine ⟨_, (Option.some.inj h).symm, ?_⟩
      exact Ent.canq [145] RF.any.qv.qv.qo.qv.qv (.nil _) (.ce (.nil _))
     ·rw [if_neg c36] at h
      refine AW.ifT rfl c36 ?_
      refine AW.regL [2, 3] ?_
      generalize hK : AW Tryz.prog _ _ _ = K
      simp only [go_sem, ↓reduceIte, reduceCtorEq, Nat.reduceAdd, Nat.reduceSub, Nat.reduceMul, Nat.reduceEqDiff, Nat.reduceLT, Nat.reduceLeDiff, eq_true c4, eq_false c5, eq_true c34, eq_false c36]
      subst hK
      refine AW.ent (Ent.nilOwn 2 3 (by decide) rfl) ?_
      refine AW.ret ?_
      refine thenA_r ?_
      refine block_r ?_
      refine thenA_r ?_
      refine thenA_r ?_
      refine ⟨_, (Option.some.inj h).symm, _, Ent.refl, rfl, ?_⟩
      (simp only [go_sem, ↓reduceIte, reduceCtorEq, Nat.reduceAdd, Nat.reduceSub, Nat.reduceMul, Nat.reduceEqDiff, Nat.reduceLT, Nat.reduceLeDiff, eq_true c4, eq_false c5, eq_true c34, eq_false c36, finA] <;> try simp)
    ·rw [if_neg c34] at h
     refine AW.ifF rfl c34 ?_
     refine AW.exit ?_
     refine thenA_x ?_
     refine thenA_x ?_
     refine ⟨_, (Option.some.inj h).symm, _, ?_, rfl, rfl⟩
     exact Ent.canq [8] RF.any.qv.qv.qo (.nil _) (.ce (.nil _))
   ·intro e st' hX
    rcases y38 with y39 | ⟨y40, y41⟩ <;> dsimp only at h hX
    ·obtain ⟨rfl, hf⟩ := hX
     refine ⟨_, Ent.refl, ?_⟩
     refine block_r ?_
     refine thenA_r ?_
     obtain rfl := Option.some.inj h
     exact hf
    ·obtain ⟨rfl, rfl⟩ := hX
     refine ⟨_, Ent.refl, ?_⟩
     refine block_x ?_
     refine thenA_n ?_
     refine AW.seq ?_
     by_cases c42 : y40 < (a0.length : Int)
     ·rw [if_pos c42] at h
      refine AW.regL [7, 51] ?_
      generalize hK : AW Tryz.prog _ _ _ = K
      simp only [go_sem, ↓reduceIte, reduceCtorEq, Nat.reduceAdd, Nat.reduceSub, Nat.reduceMul, Nat.reduceEqDiff, Nat.reduceLT, Nat.reduceLeDiff, eq_true c4, eq_false c5, eq_true c42]
      subst hK
      refine AW.ifBT rfl rfl ?_
      refine AW.rX [2, 3] ?_
      refine AW.ent (Ent.nilOwn 2 3 (by decide) rfl) ?_
      refine AW.ret ?_
      refine thenA_r ?_
      obtain rfl := Option.some.inj h
      (simp only [go_sem, ↓reduceIte, reduceCtorEq, Nat.reduceAdd, Nat.reduceSub, Nat.reduceMul, Nat.reduceEqDiff, Nat.reduceLT, Nat.reduceLeDiff, eq_true c4, eq_false c5, eq_true c42, finA] <;> try simp)
     ·rw [if_neg c42] at h
      obtain ⟨x43, hx43, h⟩ := Option.bind_eq_some_iff.1 h
      refine AW.regL [7, 51] ?_
      generalize hK : AW Tryz.prog _ _ _ = K
      simp only [go_sem, ↓reduceIte, reduceCtorEq, Nat.reduceAdd, Nat.reduceSub, Nat.reduceMul, Nat.reduceEqDiff, Nat.reduceLT, Nat.reduceLeDiff, eq_true c4, eq_false c5, eq_false c42]
      refine arC.of (ok32 y41 x43 hx43) Tryz.call32 ?_
      simp only [go_sem, ↓reduceIte, reduceCtorEq, Nat.reduceAdd, Nat.reduceSub, Nat.reduceMul, Nat.reduceEqDiff, Nat.reduceLT, Nat.reduceLeDiff, eq_true c4, eq_false c5, eq_false c42]
      subst hK
      by_cases c44 : x43 = true
      ·rw [if_pos c44] at h
       refine AW.ifBF rfl (by first | (rw [c44]; rfl) | simp_all) ?_
       refine AW.skip ?_
       refine thenA_n ?_
       refine AW.regL [2, 3] ?_
       generalize hK : AW Tryz.prog _ _ _ = K
       simp only [go_sem, ↓reduceIte, reduceCtorEq, Nat.reduceAdd, Nat.reduceSub, Nat.reduceMul, Nat.reduceEqDiff, Nat.reduceLT, Nat.reduceLeDiff, eq_true c4, eq_false c5, eq_false c42, c44]
       subst hK
       refine AW.ret ?_
       obtain rfl := Option.some.inj h
       (simp only [go_sem, ↓reduceIte, reduceCtorEq, Nat.reduceAdd, Nat.reduceSub, Nat.reduceMul, Nat.reduceEqDiff, Nat.reduceLT, Nat.reduceLeDiff, eq_true c4, eq_false c5, eq_false c42, c44, finA] <;> try simp)
      ·rw [if_neg c44] at h
       rw [Bool.not_eq_true] at c44
       refine AW.ifBT rfl (by first | (rw [c44]; rfl) | simp_all) ?_
       refine AW.regL [2, 3] ?_
       generalize hK : AW Tryz.prog _ _ _ = K
       simp only [go_sem, ↓reduceIte, reduceCtorEq, Nat.reduceAdd, Nat.reduceSub, Nat.reduceMul, Nat.reduceEqDiff, Nat.reduceLT, Nat.reduceLeDiff, eq_true c4, eq_false c5, eq_false c42, c44]
       subst hK
       refine AW.ent (Ent.nilOwn 2 3 (by decide) rfl) ?_
       refine AW.ret ?_
       refine thenA_r ?_
       obtain rfl := Option.some.inj h
       (simp only [go_sem, ↓reduceIte, reduceCtorEq, Nat.reduceAdd, Nat.reduceSub, Nat.reduceMul, Nat.reduceEqDiff, Nat.reduceLT, Nat.reduceLeDiff, eq_true c4, eq_false c5, eq_false c42, c44, finA] <;> try simp)
 ·rw [if_neg c4] at h
  refine AW.ifT rfl c4 ?_
  refine AW.rX [2, 3] ?_
  refine AW.ent (Ent.nilOwn 2 3 (by decide) rfl) ?_
  refine AW.ret ?_
  refine block_r ?_
  refine thenA_r ?_
  obtain rfl := Option.some.inj h
  (simp only [go_sem, ↓reduceIte, reduceCtorEq, Nat.reduceAdd, Nat.reduceSub, Nat.reduceMul, Nat.reduceEqDiff, Nat.reduceLT, Nat.reduceLeDiff, eq_false c4, finA] <;> try simp)
end Au
end Go.Proofs.Yt

set_option linter.all false
set_option maxRecDepth 8000
set_option maxHeartbeats 1000000
namespace Go.Proofs.Yt
open Go.Gm
namespace Au
noncomputable def f96_97_j1 (x1 : (List Int) × Int × Int) : Int → Option ((List Res) × Int)
  | j1_0 => (if j1_0 = 0 then ((f97 x1.1).bind fun x5 => some (x5.1, x5.2)) else some ([], j1_0))
noncomputable def f96_97 (a0 : List Int) : Option ((List Res) × Int) := ((f119 a0 0).bind fun x1 => (if x1.2.2 = 0 then (if x1.2.1 < (a0.length : Int) then f96_97_j1 x1 3 else f96_97_j1 x1 x1.2.2) else f96_97_j1 x1 x1.2.2))
theorem ok96_97 (a0 : List Int) (r : (List Res) × Int) (h : f96_97 a0 = some r) : PC Tryz.prog 96 [.sl (List.map enc5 a0), .clo (.func 97) [] []] (.tup [.fr 3 (List.map encRes r.1), .val (.int .i64 r.2)]) := by
 rw [f96_97] at h
 refine pc_of8 (N := 33) (rs := [.tmp 4, .tmp 5]) Tryz.func96 rfl rfl rfl (Nat.le_of_ble_eq_true rfl) ?_
 refine AW.rX [0, 1] ?_
 refine AW.regL [0, 1, 6] ?_
 generalize hK : AW Tryz.prog _ _ _ = K
 simp only [go_sem, ↓reduceIte, reduceCtorEq, Nat.reduceAdd, Nat.reduceSub, Nat.reduceMul, Nat.reduceEqDiff, Nat.reduceLT, Nat.reduceLeDiff]
 subst hK
 obtain ⟨x1, hx1, h⟩ := Option.bind_eq_some_iff.1 h
 refine AW.regL [0, 1, 6, 7, 8, 9] ?_
 generalize hK : AW Tryz.prog _ _ _ = K
 simp only [go_sem, ↓reduceIte, reduceCtorEq, Nat.reduceAdd, Nat.reduceSub, Nat.reduceMul, Nat.reduceEqDiff, Nat.reduceLT, Nat.reduceLeDiff]
 refine arC.of (ok119 a0 0 x1 hx1) Tryz.call119 ?_
 simp only [go_sem, ↓reduceIte, reduceCtorEq, Nat.reduceAdd, Nat.reduceSub, Nat.reduceMul, Nat.reduceEqDiff, Nat.reduceLT, Nat.reduceLeDiff]
 subst hK
 refine AW.join (fun s => ⟨(upd (upd (upd (upd anyF 1 (.clo (.func 97) [] [])) 6 (.val (.slice none 0 0))) 7 (.own 8 0 x1.1.length)) 9 (.val (.int .i64 s))), hpL [] [some (.row 1 true (List.map enc5 x1.1))], 9⟩) (fun s => f96_97_j1 x1 s = some r) ?_ ?_
 ·by_cases c6 : x1.2.2 = 0
  ·rw [if_pos c6] at h
   refine AW.regL [1, 6, 7, 9, 23] ?_
   generalize hK : AW Tryz.prog _ _ _ = K
   simp only [go_sem, ↓reduceIte, reduceCtorEq, Nat.reduceAdd, Nat.reduceSub, Nat.reduceMul, Nat.reduceEqDiff, Nat.reduceLT, Nat.reduceLeDiff, eq_true c6]
   subst hK
   by_cases c7 : x1.2.1 < (a0.length : Int)
   ·rw [if_pos c7] at h
    refine AW.ifT rfl c7 ?_
    refine AW.regionL [1, 6, 7, 9] ?_
    generalize hK : thenA _ _ Exit.normal = K
    simp only [go_sem, ↓reduceIte, reduceCtorEq, Nat.reduceAdd, Nat.reduceSub, Nat.reduceMul, Nat.reduceEqDiff, Nat.reduceLT, Nat.reduceLeDiff, eq_true c6, eq_true c7]
    subst hK
    refine thenA_n ?_
    refine ⟨_, h, ?_⟩
    exact Ent.canq [40] RF.any.qt.qv.qo.qv (.nil _) (.ce (.nil _))
   ·rw [if_neg c7] at h
    refine AW.ifF rfl c7 ?_
    refine AW.skip ?_
    refine thenA_n ?_
    refine ⟨_, h, ?_⟩
    exact Ent.canq [40] RF.any.qt.qv.qo.qv (.nil _) (.ce (.nil _))
  ·rw [if_neg c6] at h
   refine AW.regL [1, 6, 7, 9, 23] ?_
   generalize hK : AW Tryz.prog _ _ _ = K
   simp only [go_sem, ↓reduceIte, reduceCtorEq, Nat.reduceAdd, Nat.reduceSub, Nat.reduceMul, Nat.reduceEqDiff, Nat.reduceLT, Nat.reduceLeDiff, eq_false c6]
   subst hK
   refine AW.ifBF rfl rfl ?_
   refine AW.skip ?_
   refine thenA_n ?_
   refine ⟨_, h, ?_⟩
   exact Ent.canq [40] RF.any.qt.qv.qo.qv (.nil _) (.ce (.nil _))
 ·clear h
  rintro j1_0 h
  rw [f96_97_j1] at h
  refine AW.seq ?_
  refine AW.rX [1, 6, 7, 9, 25] ?_
  by_cases c4 : j1_0 = 0
  ·rw [if_pos c4] at h
   refine AW.ifF rfl (fun q => q c4) ?_
   refine AW.skip ?_
   refine thenA_n ?_
   obtain ⟨x5, hx5, h⟩ := Option.bind_eq_some_iff.1 h
   refine AW.regL [4, 5] ?_
   generalize hK : AW Tryz.prog _ _ _ = K
   simp only [go_sem, ↓reduceIte, reduceCtorEq, Nat.reduceAdd, Nat.reduceSub, Nat.reduceMul, Nat.reduceEqDiff, Nat.reduceLT, Nat.reduceLeDiff, eq_true c4]
   refine arC.of (ok97 x1.1 x5 hx5) Tryz.call97 ?_
   simp only [go_sem, ↓reduceIte, reduceCtorEq, Nat.reduceAdd, Nat.reduceSub, Nat.reduceMul, Nat.reduceEqDiff, Nat.reduceLT, Nat.reduceLeDiff, eq_true c4]
   subst hK
   refine AW.ret ?_
   obtain rfl := Option.some.inj h
   (simp only [go_sem, ↓reduceIte, reduceCtorEq, Nat.reduceAdd, Nat.reduceSub, Nat.reduceMul, Nat.reduceEqDiff, Nat.reduceLT, Nat.reduceLeDiff, eq_true c4, finA] <;> try simp)
  ·rw [if_neg c4] at h
   refine AW.ifT rfl c4 ?_
   refine AW.rX [4, 5] ?_
   refine AW.ent (Ent.nilOwn 4 3 (by decide) rfl) ?_
   refine AW.ret ?_
   refine thenA_r ?_
   obtain rfl := Option.some.inj h
   (simp only [go_sem, ↓reduceIte, reduceCtorEq, Nat.reduceAdd, Nat.reduceSub, Nat.reduceMul, Nat.reduceEqDiff, Nat.reduceLT, Nat.reduceLeDiff, eq_false c4, finA] <;> try simp)
end Au
end Go.Proofs.Yt

set_option linter.all false
set_option maxRecDepth 8000
set_option maxHeartbeats 1000000
namespace Go.Proofs.Yt
open Go.Gm
namespace Au
noncomputable def f56_s1 (x1 : (List Pair) × Int) : (List Res) × Int → Option (((List Res) × Int) ⊕ (((List Res) × Int) ⊕ (List Res)))
  | (s1_0, s1_1) => (if s1_1 < ((x1.1.length : Nat) : Int) then ((ix x1.1 s1_1).bind fun x24 => ((ix s1_0 s1_1).bind fun x25 => (if x25.Key = x24.Key then some (.inl ((s1_0.set s1_1.toNat (⟨x25.Key, x24.Val, x25.Offs⟩ : Res)), IntKind.i64.wrap (s1_1 + 1))) else some (.inr (.inl ([], 3)))))) else some (.inr (.inr s1_0)))
noncomputable def f56 (a0 : List Int) (a1 : List Int) : Option ((List Res) × Int) := ((f94_95 a0).bind fun x1 => (if x1.2 = 0 then ((f96_97 a1).bind fun x4 => (if x4.2 = 0 then (if ((x1.1.length : Nat) : Int) = ((x4.1.length : Nat) : Int) then ((loopO (f56_s1 x1) (x4.1, 0)).bind fun y27 => match y27 with | .inl y28 => some y28 | .inr y29 => some (y29, 0)) else some ([], 3)) else some ([], x4.2))) else some ([], x1.2)))
theorem ok56 (a0 : List Int) (a1 : List Int) (r : (List Res) × Int) (h : f56 a0 a1 = some r) : PC Tryz.prog 56 [.sl (List.map enc5 a0), .sl (List.map enc5 a1)] (.tup [.fr 3 (List.map encRes r.1), .val (.int .i64 r.2)]) := by
 rw [f56] at h
 refine pc_of8 (N := 55) (rs := [.tmp 4, .tmp 5]) Tryz.func56 rfl rfl rfl (Nat.le_of_ble_eq_true rfl) ?_
 refine AW.rX [0, 1] ?_
 obtain ⟨x1, hx1, h⟩ := Option.bind_eq_some_iff.1 h
 refine AW.regL [1, 6, 7] ?_
 generalize hK : AW Tryz.prog _ _ _ = K
 simp only [go_sem, ↓reduceIte, reduceCtorEq, Nat.reduceAdd, Nat.reduceSub, Nat.reduceMul, Nat.reduceEqDiff, Nat.reduceLT, Nat.reduceLeDiff]
 refine arC.of (PC.norm (us := [.sl (List.map enc5 a0), .val (.func (.func 95) #[] #[])]) (ok94_95 a0 x1 hx1) (by first | rfl | simp [norm, normL, normR, go_sem])) Tryz.call94 ?_
 simp only [go_sem, ↓reduceIte, reduceCtorEq, Nat.reduceAdd, Nat.reduceSub, Nat.reduceMul, Nat.reduceEqDiff, Nat.reduceLT, Nat.reduceLeDiff]
 subst hK
 refine AW.seq ?_
 refine AW.rX [1, 6, 7, 17] ?_
 by_cases c3 : x1.2 = 0
 ·rw [if_pos c3] at h
  refine AW.ifF rfl (fun q => q c3) ?_
  refine AW.skip ?_
  refine thenA_n ?_
  obtain ⟨x4, hx4, h⟩ := Option.bind_eq_some_iff.1 h
  refine AW.regL [6, 7, 8] ?_
  generalize hK : AW Tryz.prog _ _ _ = K
  simp only [go_sem, ↓reduceIte, reduceCtorEq, Nat.reduceAdd, Nat.reduceSub, Nat.reduceMul, Nat.reduceEqDiff, Nat.reduceLT, Nat.reduceLeDiff, eq_true c3]
  refine arC.of (PC.norm (us := [.sl (List.map enc5 a1), .val (.func (.func 97) #[] #[])]) (ok96_97 a1 x4 hx4) (by first | rfl | simp [norm, normL, normR, go_sem])) Tryz.call96 ?_
  simp only [go_sem, ↓reduceIte, reduceCtorEq, Nat.reduceAdd, Nat.reduceSub, Nat.reduceMul, Nat.reduceEqDiff, Nat.reduceLT, Nat.reduceLeDiff, eq_true c3]
  subst hK
  refine AW.seq ?_
  refine AW.rX [6, 7, 8, 25] ?_
  by_cases c6 : x4.2 = 0
  ·rw [if_pos c6] at h
   refine AW.ifF rfl (fun q => q c6) ?_
   refine AW.skip ?_
   refine thenA_n ?_
   refine AW.seq ?_
   refine AW.rX [6, 8, 31] ?_
   by_cases c8 : ((x1.1.length : Nat) : Int) = ((x4.1.length : Nat) : Int)
   ·rw [if_pos c8] at h
    refine AW.ifF rfl (fun q => q c8) ?_
    refine AW.skip ?_
    refine thenA_n ?_
    refine AW.seq ?_
    refine AW.rX [8, 32, 33, 34] ?_
    refine AW.block ?_
    obtain ⟨y27, hy27, h⟩ := Option.bind_eq_some_iff.1 h
    refine AW.loopO (fun s => ⟨(upd (upd (upd (upd anyF 8 (.own 8 0 s.1.length)) 32 (.own 9 0 x1.1.length)) 33 (.val (.int .i64 ((x1.1.length : Nat) : Int)))) 34 (.val (.int .i64 s.2))), hpL [] [some (.row 3 true (List.map encRes s.1)), some (.row 2 true (List.map encPair x1.1))], 10⟩) (fun y e st' => match y with | .inl z => e = Exit.ret ∧ finA Tryz.prog [.tmp 4, .tmp 5] (.tup [.fr 3 (List.map encRes z.1), .val (.int .i64 z.2)]) .ret st' | .inr z => e = Exit.exit 0 ∧ st' = ⟨(upd anyF 8 (.own 8 0 z.length)), hpL [] [some (.row 3 true (List.map encRes z))], 9⟩) hy27 ?_ ?_ ?_
    ·exact Ent.canq [104, 32] RF.any.qo.qo.qv.qv (.nil _) (.ce (.ce (.nil _)))
    ·clear h hy27
     rintro ⟨s1_0, s1_1⟩ x h
     rw [f56_s1] at h
     refine AW.rX [8, 32, 33, 34, 35] ?_
     refine AW.seq ?_
     by_cases c23 : s1_1 < ((x1.1.length : Nat) : Int)
     ·rw [if_pos c23] at h
      refine AW.ifT rfl c23 ?_
      refine AW.skip ?_
      refine thenA_n ?_
      refine AW.seq ?_
      refine AW.block ?_
      obtain ⟨x24, hx24, h⟩ := Option.bind_eq_some_iff.1 h
      obtain ⟨hx24a, hx24b⟩ := ix_some.1 hx24
      refine AW.regL [8, 9, 10, 32, 33, 34] ?_
      generalize hK : AW Tryz.prog _ _ _ = K
      simp only [go_sem, ↓reduceIte, reduceCtorEq, Nat.reduceAdd, Nat.reduceSub, Nat.reduceMul, Nat.reduceEqDiff, Nat.reduceLT, Nat.reduceLeDiff, eq_true c3, eq_true c6, eq_true c8, eq_true c23, natOf_le hx24a, hx24b, ix_lt hx24b]
      subst hK
      refine AW.seq ?_
      obtain ⟨x25, hx25, h⟩ := Option.bind_eq_some_iff.1 h
      obtain ⟨hx25a, hx25b⟩ := ix_some.1 hx25
      refine AW.regdL [8, 9, 10, 32, 33, 34, 46] [[], [], [0, 1], [0, 1, 2], [0, 1, 2, 3], [], [5], [0, 1, 2, 3, 4, 5, 6]] [0, 1, 2, 3, 4, 5, 6, 7] noFt (fun _ _ _ h => by simp [noFt] at h) draws (by kernel_rfl) (by kernel_rfl) ?_
      generalize hK : AW Tryz.prog _ _ _ = K
      simp only [go_sem, ↓reduceIte, reduceCtorEq, Nat.reduceAdd, Nat.reduceSub, Nat.reduceMul, Nat.reduceEqDiff, Nat.reduceLT, Nat.reduceLeDiff, eq_true c3, eq_true c6, eq_true c8, eq_true c23, natOf_le hx25a, hx25b, ix_lt hx25b]
      subst hK
      by_cases c26 : x25.Key = x24.Key
      ·rw [if_pos c26] at h
       refine AW.ifF rfl (fun q => q c26) ?_
       refine AW.skip ?_
       refine thenA_n ?_
       refine AW.regionL [8, 32, 33, 34] ?_
       generalize hK : inBlockA _ _ Exit.normal = K
       simp only [go_sem, ↓reduceIte, reduceCtorEq, Nat.reduceAdd, Nat.reduceSub, Nat.reduceMul, Nat.reduceEqDiff, Nat.reduceLT, Nat.reduceLeDiff, eq_true c3, eq_true c6, eq_true c8, eq_true c23, eq_true c26, natOf_le hx25a, hx25b, ix_lt hx25b, set_row (enc := encRes) (y := (⟨x25.Key, x24.Val, x25.Offs⟩ : Res)) (r := [.val (.string x25.Key), .val (.string x24.Val), .sl (List.map enc3 x25.Offs)]) rfl]
       subst hK
       refine block_n ?_
       refine thenA_n ?_
       refine AW.rY [8, 32, 33, 34] ?_
       refine thenA_n ?_
       refine ⟨_, (Option.some.inj h).symm, ?_⟩
       exact Ent.canq [8, 9] RF.any.qo.qo.qv.qv (.nil _) (.ce (.ce (.nil _)))
      ·rw [if_neg c26] at h
       refine AW.ifT rfl c26 ?_
       refine AW.rX [4, 5] ?_
       refine AW.ent (Ent.nilOwn 4 3 (by decide) rfl) ?_
       refine AW.ret ?_
       refine thenA_r ?_
       refine block_r ?_
       refine thenA_r ?_
       refine thenA_r ?_
       refine ⟨_, (Option.some.inj h).symm, _, Ent.refl, rfl, ?_⟩
       (simp only [go_sem, ↓reduceIte, reduceCtorEq, Nat.reduceAdd, Nat.reduceSub, Nat.reduceMul, Nat.reduceEqDiff, Nat.reduceLT, Nat.reduceLeDiff, eq_true c3, eq_true c6, eq_true c8, eq_true c23, eq_false c26, finA] <;> try simp)
     ·rw [if_neg c23] at h
      refine AW.ifF rfl c23 ?_
      refine AW.exit ?_
      refine thenA_x ?_
      refine thenA_x ?_
      refine ⟨_, (Option.some.inj h).symm, _, ?_, rfl, rfl⟩
      exact Ent.canq [8] RF.any.qo (.nil _) (.ce (.nil _))
    ·intro e st' hX
     rcases y27 with y28 | y29 <;> dsimp only at h hX
     ·obtain ⟨rfl, hf⟩ := hX
      refine ⟨_, Ent.refl, ?_⟩
      refine block_r ?_
      refine thenA_r ?_
      obtain rfl := Option.some.inj h
      exact hf
     ·obtain ⟨rfl, rfl⟩ := hX
      refine ⟨_, Ent.refl, ?_⟩
      refine block_x ?_
      refine thenA_n ?_
      refine AW.rX [4, 5] ?_
      refine AW.ret ?_
      obtain rfl := Option.some.inj h
      (simp only [go_sem, ↓reduceIte, reduceCtorEq, Nat.reduceAdd, Nat.reduceSub, Nat.reduceMul, Nat.reduceEqDiff, Nat.reduceLT, Nat.reduceLeDiff, eq_true c3, eq_true c6, eq_true c8, finA] <;> try simp)
   ·rw [if_neg c8] at h
    refine AW.ifT rfl c8 ?_
    refine AW.rX [4, 5] ?_
    refine AW.ent (Ent.nilOwn 4 3 (by decide) rfl) ?_
    refine AW.ret ?_
    refine thenA_r ?_
    obtain rfl := Option.some.inj h
    (simp only [go_sem, ↓reduceIte, reduceCtorEq, Nat.reduceAdd, Nat.reduceSub, Nat.reduceMul, Nat.reduceEqDiff, Nat.reduceLT, Nat.reduceLeDiff, eq_true c3, eq_true c6, eq_false c8, finA] <;> try simp)
  ·rw [if_neg c6] at h
   refine AW.ifT rfl c6 ?_
   refine AW.rX [4, 5] ?_
   refine AW.ent (Ent.nilOwn 4 3 (by decide) rfl) ?_
   refine AW.ret ?_
   refine thenA_r ?_
   obtain rfl := Option.some.inj h
   (simp only [go_sem, ↓reduceIte, reduceCtorEq, Nat.reduceAdd, Nat.reduceSub, Nat.reduceMul, Nat.reduceEqDiff, Nat.reduceLT, Nat.reduceLeDiff, eq_true c3, eq_false c6, finA] <;> try simp)
 ·rw [if_neg c3] at h
  refine AW.ifT rfl c3 ?_
  refine AW.rX [4, 5] ?_
  refine AW.ent (Ent.nilOwn 4 3 (by decide) rfl) ?_
  refine AW.ret ?_
  refine thenA_r ?_
  obtain rfl := Option.some.inj h
  (simp only [go_sem, ↓reduceIte, reduceCtorEq, Nat.reduceAdd, Nat.reduceSub, Nat.reduceMul, Nat.reduceEqDiff, Nat.reduceLT, Nat.reduceLeDiff, eq_false c3, finA] <;> try simp)
end Au
end Go.Proofs.Yt

set_option linter.all false
set_option maxRecDepth 8000
set_option maxHeartbeats 1000000
namespace Go.Proofs.Yt
open Go.Gm
namespace Au
noncomputable def f30_s1 (a0 : List (A2 (List Int))) : (List (List Res)) × Int → Option (((List (List Res)) × Int) ⊕ (((List Res) × Er) ⊕ (List (List Res))))
  | (s1_0, s1_1) => (if s1_1 < (a0.length : Int) then ((ix a0 s1_1).bind fun x19 => ((f56 x19.e0 x19.e1).bind fun x20 => (if x20.2 = 0 then ((appO? s1_0 [x20.1]).bind fun x22 => some (.inl (x22, IntKind.i64.wrap (s1_1 + 1)))) else ((f33 ⟨#[112, 97, 114, 116]⟩ s1_1 x20.2).bind fun x23 => some (.inr (.inl ([], x23))))))) else some (.inr (.inr s1_0)))
noncomputable def f30 (a0 : List (A2 (List Int))) : Option ((List Res) × Er) := ((loopO (f30_s1 a0) ([], 0)).bind fun y24 => match y24 with | .inl y25 => some y25 | .inr y26 => ((f43 y26).bind fun x27 => some (x27, Er.nil)))
theorem ok30 (a0 : List (A2 (List Int))) (r : (List Res) × Er) (h : f30 a0 = some r) : PC Tryz.prog 30 [.sl (List.map enc71 a0)] (.tup [.fr 3 (List.map encRes r.1), .val (erV r.2)]) := by
 rw [f30] at h
 refine pc_of8 (N := 36) (rs := [.tmp 2, .tmp 3]) Tryz.func30 rfl rfl rfl (Nat.le_of_ble_eq_true rfl) ?_
 refine AW.rX [0] ?_
 refine AW.rX [0, 4] ?_
 refine AW.seq ?_
 refine AW.rX [4, 9, 10, 11] ?_
 refine AW.block ?_
 obtain ⟨y24, hy24, h⟩ := Option.bind_eq_some_iff.1 h
 refine AW.loopO (fun s => ⟨(upd (upd (upd (upd anyF 4 (.own 8 0 s.1.length)) 9 (.sl (List.map enc71 a0))) 10 (.val (.int .i64 (a0.length : Int)))) 11 (.val (.int .i64 s.2))), hpL [] [some (.row 1 true (List.map enc31 s.1))], 9⟩) (fun y e st' => match y with | .inl z => e = Exit.ret ∧ finA Tryz.prog [.tmp 2, .tmp 3] (.tup [.fr 3 (List.map encRes z.1), .val (erV z.2)]) .ret st' | .inr z => e = Exit.exit 0 ∧ st' = ⟨(upd anyF 4 (.own 8 0 z.length)), hpL [] [some (.row 1 true (List.map enc31 z))], 9⟩) hy24 ?_ ?_ ?_
 ·refine Ent.trans (Ent.nilOwn 4 1 (by decide) rfl) ?_
  exact Ent.canq [56] RF.any.qo.qv.qv.qv (.nil _) (.ce (.nil _))
 ·clear h hy24
  rintro ⟨s1_0, s1_1⟩ x h
  rw [f30_s1] at h
  refine AW.rX [4, 9, 10, 11, 12] ?_
  refine AW.seq ?_
  by_cases c18 : s1_1 < (a0.length : Int)
  ·rw [if_pos c18] at h
   refine AW.ifT rfl c18 ?_
   refine AW.skip ?_
   refine thenA_n ?_
   refine AW.seq ?_
   refine AW.block ?_
   obtain ⟨x19, hx19, h⟩ := Option.bind_eq_some_iff.1 h
   obtain ⟨hx19a, hx19b⟩ := ix_some.1 hx19
   refine AW.regL [4, 5, 6, 9, 10, 11] ?_
   generalize hK : AW Tryz.prog _ _ _ = K
   simp only [go_sem, ↓reduceIte, reduceCtorEq, Nat.reduceAdd, Nat.reduceSub, Nat.reduceMul, Nat.reduceEqDiff, Nat.reduceLT, Nat.reduceLeDiff, eq_true c18, natOf_le hx19a, hx19b]
   subst hK
   obtain ⟨x20, hx20, h⟩ := Option.bind_eq_some_iff.1 h
   refine AW.regL [4, 5, 7, 8, 9, 10, 11] ?_
   generalize hK : AW Tryz.prog _ _ _ = K
   simp only [go_sem, ↓reduceIte, reduceCtorEq, Nat.reduceAdd, Nat.reduceSub, Nat.reduceMul, Nat.reduceEqDiff, Nat.reduceLT, Nat.reduceLeDiff, eq_true c18]
   refine arC.of (ok56 x19.e0 x19.e1 x20 hx20) Tryz.call56 ?_
   simp only [go_sem, ↓reduceIte, reduceCtorEq, Nat.reduceAdd, Nat.reduceSub, Nat.reduceMul, Nat.reduceEqDiff, Nat.reduceLT, Nat.reduceLeDiff, eq_true c18]
   subst hK
   refine AW.seq ?_
   refine AW.rX [4, 5, 7, 8, 9, 10, 11, 25] ?_
   by_cases c21 : x20.2 = 0
   ·rw [if_pos c21] at h
    refine AW.ifF rfl (fun q => q c21) ?_
    refine AW.skip ?_
    refine thenA_n ?_
    refine AW.ent (Ent.still 7 rfl (own_sl (sz := 3) (m := true) rfl (by first | rfl | simp [bytesI_len, eq_true c18, eq_true c21]) (by simp only [go_sem]))) ?_
    obtain ⟨x22, hx22, h⟩ := Option.bind_eq_some_iff.1 h
    obtain ⟨hx22b, hx22e⟩ := appO?_some.1 hx22
    have hx22f : ∀ id o : Nat, appO 1 24 id ([[.sl (List.map encRes x20.1)]]) 0 s1_0.length o (some (.row 1 true (List.map enc31 s1_0))) = some ⟨.own id 0 x22.length, [(o, none), (id, some (.row 1 true (List.map enc31 x22)))]⟩ := fun id o => by
      subst hx22e; rw [appO_ok (by simp) (by simpa using hx22b) (by decide)]; first | (simp [enc31]; done) | (simp [enc31]; omega)
    refine AW.regionL [4, 9, 10, 11] ?_
    generalize hK : inBlockA _ _ Exit.normal = K
    simp only [go_sem, ↓reduceIte, reduceCtorEq, Nat.reduceAdd, Nat.reduceSub, Nat.reduceMul, Nat.reduceEqDiff, Nat.reduceLT, Nat.reduceLeDiff, eq_true c18, eq_true c21, hx22f]
    subst hK
    refine block_n ?_
    refine thenA_n ?_
    refine AW.rY [4, 9, 10, 11] ?_
    refine thenA_n ?_
    refine ⟨_, (Option.some.inj h).symm, ?_⟩
    exact Ent.canq [185] RF.any.qo.qv.qv.qv (.nil _) (.ce (.nil _))
   ·rw [if_neg c21] at h
    refine AW.ifT rfl c21 ?_
    obtain ⟨x23, hx23, h⟩ := Option.bind_eq_some_iff.1 h
    refine AW.regL [2, 3] ?_
    generalize hK : AW Tryz.prog _ _ _ = K
    simp only [go_sem, ↓reduceIte, reduceCtorEq, Nat.reduceAdd, Nat.reduceSub, Nat.reduceMul, Nat.reduceEqDiff, Nat.reduceLT, Nat.reduceLeDiff, eq_true c18, eq_false c21]
    refine arC.of (ok33 ⟨#[112, 97, 114, 116]⟩ s1_1 x20.2 x23 hx23) Tryz.call33 ?_
    simp only [go_sem, ↓reduceIte, reduceCtorEq, Nat.reduceAdd, Nat.reduceSub, Nat.reduceMul, Nat.reduceEqDiff, Nat.reduceLT, Nat.reduceLeDiff, eq_true c18, eq_false c21]
    subst hK
    refine AW.ent (Ent.nilOwn 2 3 (by decide) rfl) ?_
    refine AW.ret ?_
    refine thenA_r ?_
    refine block_r ?_
    refine thenA_r ?_
    refine thenA_r ?_
    refine ⟨_, (Option.some.inj h).symm, _, Ent.refl, rfl, ?_⟩
    (simp only [go_sem, ↓reduceIte, reduceCtorEq, Nat.reduceAdd, Nat.reduceSub, Nat.reduceMul, Nat.reduceEqDiff, Nat.reduceLT, Nat.reduceLeDiff, eq_true c18, eq_false c21, finA] <;> try simp)
  ·rw [if_neg c18] at h
   refine AW.ifF rfl c18 ?_
   refine AW.exit ?_
   refine thenA_x ?_
   refine thenA_x ?_
   refine ⟨_, (Option.some.inj h).symm, _, ?_, rfl, rfl⟩
   exact Ent.canq [8] RF.any.qo (.nil _) (.ce (.nil _))
 ·intro e st' hX
  rcases y24 with y25 | y26 <;> dsimp only at h hX
  ·obtain ⟨rfl, hf⟩ := hX
   refine ⟨_, Ent.refl, ?_⟩
   refine block_r ?_
   refine thenA_r ?_
   obtain rfl := Option.some.inj h
   exact hf
  ·obtain ⟨rfl, rfl⟩ := hX
   refine ⟨_, Ent.refl, ?_⟩
   refine block_x ?_
   refine thenA_n ?_
   obtain ⟨x27, hx27, h⟩ := Option.bind_eq_some_iff.1 h
   refine AW.regL [2, 3] ?_
   generalize hK : AW Tryz.prog _ _ _ = K
   simp only [go_sem, ↓reduceIte, reduceCtorEq, Nat.reduceAdd, Nat.reduceSub, Nat.reduceMul, Nat.reduceEqDiff, Nat.reduceLT, Nat.reduceLeDiff]
   refine arC.of (ok43 y26 x27 hx27) Tryz.call43 ?_
   simp only [go_sem, ↓reduceIte, reduceCtorEq, Nat.reduceAdd, Nat.reduceSub, Nat.reduceMul, Nat.reduceEqDiff, Nat.reduceLT, Nat.reduceLeDiff]
   subst hK
   refine AW.ret ?_
   obtain rfl := Option.some.inj h
   (simp only [go_sem, ↓reduceIte, reduceCtorEq, Nat.reduceAdd, Nat.reduceSub, Nat.reduceMul, Nat.reduceEqDiff, Nat.reduceLT, Nat.reduceLeDiff, finA] <;> try simp)
end Au
end Go.Proofs.Yt

set_option linter.all false
set_option maxRecDepth 8000
set_option maxHeartbeats 1000000
namespace Go.Proofs.Yt
open Go.Gm
namespace Au
/- by hand: Gm.TRc -/
end Au
end Go.Proofs.Yt

set_option linter.all false
set_option maxRecDepth 8000
set_option maxHeartbeats 1000000
namespace Go.Proofs.Yt
open Go.Gm
namespace Au
noncomputable def f31_s1 (x1 : (List Record) × Int × Int) : (List Int) × Int → Option (((List Int) × Int) ⊕ (List Int))
  | (s1_0, s1_1) => (if s1_1 < ((x1.1.length : Nat) : Int) then ((ix x1.1 s1_1).bind fun x16 => some (.inl ((insM x16.Off s1_0), IntKind.i64.wrap (s1_1 + 1)))) else some (.inr s1_0))
noncomputable def f31 (a0 : List Int) : Option ((List Int) × Er) := ((f57 a0).bind fun x1 => (if x1.2.2 = 0 then ((loopO (f31_s1 x1) ([], 0)).bind fun y18 => some (y18, Er.nil)) else ((f33 ⟨#[105, 110, 112, 117, 116]⟩ 0 x1.2.2).bind fun x19 => some ([], x19))))
theorem ok31 (a0 : List Int) (r : (List Int) × Er) (h : f31 a0 = some r) : PC Tryz.prog 31 [.sl (List.map enc5 a0)] (.tup [.im (List.map encM r.1), .val (erV r.2)]) := by
 rw [f31] at h
 refine pc_of8 (N := 32) (rs := [.tmp 2, .tmp 3]) Tryz.func31 rfl rfl rfl (Nat.le_of_ble_eq_true rfl) ?_
 refine AW.rX [0] ?_
 obtain ⟨x1, hx1, h⟩ := Option.bind_eq_some_iff.1 h
 refine AW.regL [4, 6] ?_
 generalize hK : AW Tryz.prog _ _ _ = K
 simp only [go_sem, ↓reduceIte, reduceCtorEq, Nat.reduceAdd, Nat.reduceSub, Nat.reduceMul, Nat.reduceEqDiff, Nat.reduceLT, Nat.reduceLeDiff]
 refine arC.of (ok57 a0 x1 hx1) Tryz.call57 ?_
 simp only [go_sem, ↓reduceIte, reduceCtorEq, Nat.reduceAdd, Nat.reduceSub, Nat.reduceMul, Nat.reduceEqDiff, Nat.reduceLT, Nat.reduceLeDiff]
 subst hK
 refine AW.seq ?_
 refine AW.rX [4, 6, 17] ?_
 by_cases c4 : x1.2.2 = 0
 ·rw [if_pos c4] at h
  refine AW.ifF rfl (fun q => q c4) ?_
  refine AW.skip ?_
  refine thenA_n ?_
  refine AW.rX [4, 7] ?_
  refine AW.seq ?_
  refine AW.rX [7, 21, 22, 23] ?_
  refine AW.block ?_
  obtain ⟨y18, hy18, h⟩ := Option.bind_eq_some_iff.1 h
  refine AW.loopO (fun s => ⟨(upd (upd (upd (upd anyF 7 (.mp 8)) 21 (.own 9 0 x1.1.length)) 22 (.val (.int .i64 ((x1.1.length : Nat) : Int)))) 23 (.val (.int .i64 s.2))), hpL [] [some (.mapo (List.map encM s.1)), some (.row 2 true (List.map encRecord x1.1))], 10⟩) (fun z e st' => e = Exit.exit 0 ∧ st' = ⟨(upd anyF 7 (.mp 8)), hpL [] [some (.mapo (List.map encM z))], 9⟩) hy18 ?_ ?_ ?_
  ·exact Ent.canq [112, 32] ((((RF.any.put (by simp [tokL]) (.of (by first | rfl | simp [upd_ap, hpL_ap, tau, mapT, mapTL, bytesI_len, eq_true c4]))).qo).qv).qv) (.nil _) (.cons (.mpe (by first | rfl | simp [upd_ap, hpL_ap, tau, mapT, mapTL, bytesI_len, eq_true c4])) (.ce (.nil _)))
  ·clear h hy18
   rintro ⟨s1_0, s1_1⟩ x h
   rw [f31_s1] at h
   refine AW.rX [7, 21, 22, 23, 24] ?_
   refine AW.seq ?_
   by_cases c15 : s1_1 < ((x1.1.length : Nat) : Int)
   ·rw [if_pos c15] at h
    refine AW.ifT rfl c15 ?_
    refine AW.skip ?_
    refine thenA_n ?_
    refine AW.seq ?_
    refine AW.block ?_
    obtain ⟨x16, hx16, h⟩ := Option.bind_eq_some_iff.1 h
    obtain ⟨hx16a, hx16b⟩ := ix_some.1 hx16
    refine AW.regL [7, 9, 21, 22, 23] ?_
    generalize hK : AW Tryz.prog _ _ _ = K
    simp only [go_sem, ↓reduceIte, reduceCtorEq, Nat.reduceAdd, Nat.reduceSub, Nat.reduceMul, Nat.reduceEqDiff, Nat.reduceLT, Nat.reduceLeDiff, eq_true c4, eq_true c15, natOf_le hx16a, hx16b, ix_lt hx16b]
    subst hK
    refine AW.regionL [7, 21, 22, 23] ?_
    generalize hK : inBlockA _ _ Exit.normal = K
    simp only [go_sem, ↓reduceIte, reduceCtorEq, Nat.reduceAdd, Nat.reduceSub, Nat.reduceMul, Nat.reduceEqDiff, Nat.reduceLT, Nat.reduceLeDiff, eq_true c4, eq_true c15, upd_encM mi75, upd_encM0 mi75]
    subst hK
    refine block_n ?_
    refine thenA_n ?_
    refine AW.rY [7, 21, 22, 23] ?_
    refine thenA_n ?_
    refine ⟨_, (Option.some.inj h).symm, ?_⟩
    exact Ent.canq [8, 9] ((((RF.any.put (by simp [tokL]) (.of (by first | rfl | simp [upd_ap, hpL_ap, tau, mapT, mapTL, bytesI_len, eq_true c4, eq_true c15]))).qo).qv).qv) (.nil _) (.cons (.mpe (by first | rfl | simp [upd_ap, hpL_ap, tau, mapT, mapTL, bytesI_len, eq_true c4, eq_true c15])) (.ce (.nil _)))
   ·rw [if_neg c15] at h
    refine AW.ifF rfl c15 ?_
    refine AW.exit ?_
    refine thenA_x ?_
    refine thenA_x ?_
    refine ⟨_, (Option.some.inj h).symm, _, ?_, rfl, rfl⟩
    exact Ent.canq [8] (RF.any.put (by simp [tokL]) (.of (by first | rfl | simp [upd_ap, hpL_ap, tau, mapT, mapTL, bytesI_len, eq_true c4, eq_false c15]))) (.nil _) (.cons (.mpe (by first | rfl | simp [upd_ap, hpL_ap, tau, mapT, mapTL, bytesI_len, eq_true c4, eq_false c15])) (.nil _))
  ·intro e st' hX
   try dsimp only at h
   try dsimp only at hX
   obtain ⟨rfl, rfl⟩ := hX
   refine ⟨_, Ent.refl, ?_⟩
   refine block_x ?_
   refine thenA_n ?_
   refine AW.rX [2, 3] ?_
   refine AW.ent (Ent.stillMap 2 rfl (by first | rfl | simp [upd_ap])) ?_
   refine AW.ret ?_
   obtain rfl := Option.some.inj h
   (simp only [go_sem, ↓reduceIte, reduceCtorEq, Nat.reduceAdd, Nat.reduceSub, Nat.reduceMul, Nat.reduceEqDiff, Nat.reduceLT, Nat.reduceLeDiff, eq_true c4, finA] <;> try simp)
 ·rw [if_neg c4] at h
  refine AW.ifT rfl c4 ?_
  obtain ⟨x19, hx19, h⟩ := Option.bind_eq_some_iff.1 h
  refine AW.regL [2, 3] ?_
  generalize hK : AW Tryz.prog _ _ _ = K
  simp only [go_sem, ↓reduceIte, reduceCtorEq, Nat.reduceAdd, Nat.reduceSub, Nat.reduceMul, Nat.reduceEqDiff, Nat.reduceLT, Nat.reduceLeDiff, eq_false c4]
  refine arC.of (ok33 ⟨#[105, 110, 112, 117, 116]⟩ 0 x1.2.2 x19 hx19) Tryz.call33 ?_
  simp only [go_sem, ↓reduceIte, reduceCtorEq, Nat.reduceAdd, Nat.reduceSub, Nat.reduceMul, Nat.reduceEqDiff, Nat.reduceLT, Nat.reduceLeDiff, eq_false c4]
  subst hK
  refine AW.ent (Ent.w (FrW.put1 (d := 2) Weak.nilM)) ?_
  refine AW.ret ?_
  refine thenA_r ?_
  obtain rfl := Option.some.inj h
  (simp only [go_sem, ↓reduceIte, reduceCtorEq, Nat.reduceAdd, Nat.reduceSub, Nat.reduceMul, Nat.reduceEqDiff, Nat.reduceLT, Nat.reduceLeDiff, eq_false c4, finA] <;> try simp)
end Au
end Go.Proofs.Yt

set_option linter.all false
set_option maxRecDepth 8000
set_option maxHeartbeats 1000000
namespace Go.Proofs.Yt
open Go.Gm
namespace Au
noncomputable def f35 (a0 : Int) (a1 : List Int) : Option Bool := some (!(decide (a0 ∈ a1)))
theorem ok35 (a0 : Int) (a1 : List Int) (r : Bool) (h : f35 a0 a1 = some r) : PC Tryz.prog 35 [.val (.int .i64 a0), .ip [.im (List.map encM a1)]] (.val (.bool r)) := by
 rw [f35] at h
 refine pc_of8 (N := 8) (rs := [.tmp 3]) Tryz.func35 rfl rfl rfl (Nat.le_of_ble_eq_true rfl) ?_
 refine AW.rX [0, 1] ?_
 refine AW.regL [3] ?_
 generalize hK : AW Tryz.prog _ _ _ = K
 simp only [go_sem, ↓reduceIte, reduceCtorEq, Nat.reduceAdd, Nat.reduceSub, Nat.reduceMul, Nat.reduceEqDiff, Nat.reduceLT, Nat.reduceLeDiff, look_encM mi75]
 subst hK
 refine AW.ret ?_
 obtain rfl := Option.some.inj h
 (simp only [go_sem, ↓reduceIte, reduceCtorEq, Nat.reduceAdd, Nat.reduceSub, Nat.reduceMul, Nat.reduceEqDiff, Nat.reduceLT, Nat.reduceLeDiff, finA] <;> try simp)
end Au
end Go.Proofs.Yt

set_option linter.all false
set_option maxRecDepth 8000
set_option maxHeartbeats 1000000
namespace Go.Proofs.Yt
open Go.Gm
namespace Au
noncomputable def f62_35_s1 (a0 : List Int) (c1_0 : List Int) : Int → Option (Int ⊕ (Int ⊕ Unit))
  | s1_0 => (if s1_0 < (a0.length : Int) then ((ix a0 s1_0).bind fun x16 => ((f35 x16 c1_0).bind fun x17 => (if x17 = true then some (.inr (.inl s1_0)) else some (.inl (IntKind.i64.wrap (s1_0 + 1)))))) else some (.inr (.inr ())))
noncomputable def f62_35 (a0 : List Int) (c1_0 : List Int) : Option Int := ((loopO (f62_35_s1 a0 c1_0) 0).bind fun y19 => match y19 with | .inl y20 => some y20 | .inr _ => some (-1))
theorem ok62_35 (a0 : List Int) (c1_0 : List Int) (r : Int) (h : f62_35 a0 c1_0 = some r) : PC Tryz.prog 62 [.sl (List.map enc3 a0), .clo (.func 35) [] [.ip [.im (List.map encM c1_0)]]] (.val (.int .i64 r)) := by
 rw [f62_35] at h
 refine pc_of8 (N := 19) (rs := [.tmp 4]) Tryz.func62 rfl rfl rfl (Nat.le_of_ble_eq_true rfl) ?_
 refine AW.rX [0, 1] ?_
 refine AW.seq ?_
 refine AW.rX [0, 1, 7, 8] ?_
 refine AW.block ?_
 obtain ⟨y19, hy19, h⟩ := Option.bind_eq_some_iff.1 h
 refine AW.loopO (fun s => ⟨(upd (upd (upd (upd anyF 0 (.sl (List.map enc3 a0))) 1 (.clo (.func 35) [] [.ip [.im (List.map encM c1_0)]])) 7 (.val (.int .i64 (a0.length : Int)))) 8 (.val (.int .i64 s))), hpL [] [], 8⟩) (fun y e st' => match y with | .inl z => e = Exit.ret ∧ finA Tryz.prog [.tmp 4] (.val (.int .i64 z)) .ret st' | .inr z => e = Exit.exit 0 ∧ st' = ⟨anyF, hpL [] [], 8⟩) hy19 ?_ ?_ ?_
 ·exact Ent.canq [] RF.any.qv.qt.qv.qv (.nil _) (.nil _)
 ·clear h hy19
  rintro s1_0 x h
  rw [f62_35_s1] at h
  refine AW.rX [0, 1, 7, 8, 9] ?_
  refine AW.seq ?_
  by_cases c15 : s1_0 < (a0.length : Int)
  ·rw [if_pos c15] at h
   refine AW.ifT rfl c15 ?_
   refine AW.skip ?_
   refine thenA_n ?_
   refine AW.seq ?_
   refine AW.block ?_
   refine AW.rX [0, 1, 5, 7, 8] ?_
   obtain ⟨x16, hx16, h⟩ := Option.bind_eq_some_iff.1 h
   obtain ⟨hx16a, hx16b⟩ := ix_some.1 hx16
   obtain ⟨x17, hx17, h⟩ := Option.bind_eq_some_iff.1 h
   refine AW.regL [0, 1, 5, 7, 8, 16] ?_
   generalize hK : AW Tryz.prog _ _ _ = K
   simp only [go_sem, ↓reduceIte, reduceCtorEq, Nat.reduceAdd, Nat.reduceSub, Nat.reduceMul, Nat.reduceEqDiff, Nat.reduceLT, Nat.reduceLeDiff, eq_true c15, natOf_le hx16a, hx16b]
   refine arC.of (ok35 x16 c1_0 x17 hx17) Tryz.call35 ?_
   simp only [go_sem, ↓reduceIte, reduceCtorEq, Nat.reduceAdd, Nat.reduceSub, Nat.reduceMul, Nat.reduceEqDiff, Nat.reduceLT, Nat.reduceLeDiff, eq_true c15, natOf_le hx16a, hx16b]
   subst hK
   by_cases c18 : x17 = true
   ·rw [if_pos c18] at h
    refine AW.ifBT rfl c18 ?_
    refine AW.regL [4] ?_
    generalize hK : AW Tryz.prog _ _ _ = K
    simp only [go_sem, ↓reduceIte, reduceCtorEq, Nat.reduceAdd, Nat.reduceSub, Nat.reduceMul, Nat.reduceEqDiff, Nat.reduceLT, Nat.reduceLeDiff, eq_true c15, c18]
    subst hK
    refine AW.ret ?_
    refine block_r ?_
    refine thenA_r ?_
    refine thenA_r ?_
    refine ⟨_, (Option.some.inj h).symm, _, Ent.refl, rfl, ?_⟩
    (simp only [go_sem, ↓reduceIte, reduceCtorEq, Nat.reduceAdd, Nat.reduceSub, Nat.reduceMul, Nat.reduceEqDiff, Nat.reduceLT, Nat.reduceLeDiff, eq_true c15, c18, finA] <;> try simp)
   ·rw [if_neg c18] at h
    rw [Bool.not_eq_true] at c18
    refine AW.ifBF rfl c18 ?_
    refine AW.skip ?_
    refine block_n ?_
    refine thenA_n ?_
    refine AW.regionL [0, 1, 7, 8] ?_
    generalize hK : thenA _ _ Exit.normal = K
    simp only [go_sem, ↓reduceIte, reduceCtorEq, Nat.reduceAdd, Nat.reduceSub, Nat.reduceMul, Nat.reduceEqDiff, Nat.reduceLT, Nat.reduceLeDiff, eq_true c15, c18]
    subst hK
    refine thenA_n ?_
    refine ⟨_, (Option.some.inj h).symm, ?_⟩
    exact Ent.canq [] RF.any.qv.qt.qv.qv (.nil _) (.nil _)
  ·rw [if_neg c15] at h
   refine AW.ifF rfl c15 ?_
   refine AW.exit ?_
   refine thenA_x ?_
   refine thenA_x ?_
   refine ⟨_, (Option.some.inj h).symm, _, ?_, rfl, rfl⟩
   exact Ent.canq [] RF.any (.nil _) (.nil _)
 ·intro e st' hX
  rcases y19 with y20 | _ <;> dsimp only at h hX
  ·obtain ⟨rfl, hf⟩ := hX
   refine ⟨_, Ent.refl, ?_⟩
   refine block_r ?_
   refine thenA_r ?_
   obtain rfl := Option.some.inj h
   exact hf
  ·obtain ⟨rfl, rfl⟩ := hX
   refine ⟨_, Ent.refl, ?_⟩
   refine block_x ?_
   refine thenA_n ?_
   refine AW.rX [4] ?_
   refine AW.ret ?_
   obtain rfl := Option.some.inj h
   (simp only [go_sem, ↓reduceIte, reduceCtorEq, Nat.reduceAdd, Nat.reduceSub, Nat.reduceMul, Nat.reduceEqDiff, Nat.reduceLT, Nat.reduceLeDiff, finA] <;> try simp)
end Au
end Go.Proofs.Yt

set_option linter.all false
set_option maxRecDepth 8000
set_option maxHeartbeats 1000000
namespace Go.Proofs.Yt
open Go.Gm
namespace Au
noncomputable def f34_35 (a0 : List Int) (c1_0 : List Int) : Option Bool := ((f62_35 a0 c1_0).bind fun x1 => some (decide (0 ≤ x1)))
theorem ok34_35 (a0 : List Int) (c1_0 : List Int) (r : Bool) (h : f34_35 a0 c1_0 = some r) : PC Tryz.prog 34 [.sl (List.map enc3 a0), .clo (.func 35) [] [.ip [.im (List.map encM c1_0)]]] (.val (.bool r)) := by
 rw [f34_35] at h
 refine pc_of8 (N := 9) (rs := [.tmp 4]) Tryz.func34 rfl rfl rfl (Nat.le_of_ble_eq_true rfl) ?_
 refine AW.rX [0, 1] ?_
 obtain ⟨x1, hx1, h⟩ := Option.bind_eq_some_iff.1 h
 refine AW.regL [4] ?_
 generalize hK : AW Tryz.prog _ _ _ = K
 simp only [go_sem, ↓reduceIte, reduceCtorEq, Nat.reduceAdd, Nat.reduceSub, Nat.reduceMul, Nat.reduceEqDiff, Nat.reduceLT, Nat.reduceLeDiff]
 refine arC.of (ok62_35 a0 c1_0 x1 hx1) Tryz.call62 ?_
 simp only [go_sem, ↓reduceIte, reduceCtorEq, Nat.reduceAdd, Nat.reduceSub, Nat.reduceMul, Nat.reduceEqDiff, Nat.reduceLT, Nat.reduceLeDiff]
 subst hK
 refine AW.ret ?_
 obtain rfl := Option.some.inj h
 (simp only [go_sem, ↓reduceIte, reduceCtorEq, Nat.reduceAdd, Nat.reduceSub, Nat.reduceMul, Nat.reduceEqDiff, Nat.reduceLT, Nat.reduceLeDiff, finA] <;> try simp)
end Au
end Go.Proofs.Yt

set_option linter.unusedVariables false
set_option linter.unusedSimpArgs false
namespace Go.Gm
theorem oper_normN {P : Program} {o : Oper} {a : Act} {w : World} {K K' R : Act → World → Prop} {Q : Exit → Act → World → Prop} (hk : ∀ a w, K a w → K' a w)
    (h : o.wp P a w K (fun e a w => e = .normal ∧ R a w)) : o.wp P a w K' Q := by
  unfold Oper.wp at *
  generalize (execOp a.eval o).run P w = r at *
  cases r with
  | ok n w' =>
    cases n <;> simp only [Oper.upon] at h ⊢ <;>
      first
        | exact hk _ _ h
        | exact Calls.mono h (fun e w'' he => by
            cases e with
            | returned v => exact hk _ _ he
            | panicked ch => exact absurd he.1 (by simp)
            | outgrown => obtain ⟨a, w, h, _⟩ := he; cases h)
        | exact Rows.mono h (fun _ _ he => hk _ _ he)
  | halt x w' => cases x <;> simp only [Oper.upon] at h ⊢ <;> first | exact absurd h.1 (by simp) | exact h
theorem oper_normI {F : Fence} {n : Nat} {P : Program} {o : Oper} {a : Act} {w : World} {K K' R : Act → World → Prop} {Q : Exit → Act → World → Prop} (hk : ∀ a w, K a w → K' a w)
    (h : o.wpIn F n P a w K (fun e a w => e = .normal ∧ R a w)) : o.wpIn F n P a w K' Q := by
  unfold Oper.wpIn at *
  refine ⟨h.1, ?_⟩
  have h := h.2
  generalize (o.semAt F.round a.eval).run P w = r at *
  cases r with
  | ok x w' =>
    cases x <;> first
      | exact hk _ _ h
      | exact h.elim
      | exact ⟨h.1, RowsIn.mono h.2 fun _ _ he => hk _ _ he⟩
      | exact ⟨h.1, CallsIn.mono h.2 fun e w' he => match e, he with
          | .returned _, he => hk _ _ he
          | .panicked _, he => absurd he.1 (by simp)
          | .outgrown, he => absurd he.choose_spec.choose_spec.1 (by simp)⟩
      | exact ⟨h.1, RoundIn.mono h.2 fun e w' he => match e, he with
          | .returned _, he => hk _ _ he
          | .panicked _, he => absurd he.1 (by simp)
          | .outgrown, he => absurd he.choose_spec.choose_spec.1 (by simp)⟩
  | halt x w' => cases x <;> first | exact absurd h.1 (by simp) | exact h.elim
theorem wpList_append {P : Program} {ops : Array Oper} {K : Act → World → Prop} {Q : Exit → Act → World → Prop} {rest : List Oper} (hk : ∀ a w, K a w → wpList P ops Q rest a w) :
    ∀ (pre : List Oper) (a : Act) (w : World), wpList P ops (fun e a w => e = .normal ∧ K a w) pre a w → wpList P ops Q (pre ++ rest) a w
  | [], a, w, h => hk a w h.2
  | o :: L, a, w, h => by
    have hl : ¬ LetsOut (fun e (a : Act) (w : World) => e = Exit.normal ∧ K a w) := by rintro ⟨_, _, h, _⟩; cases h
    show wpList P ops Q (o :: (L ++ rest)) a w
    unfold wpList at h ⊢
    split
    · rename_i hw
      rw [if_pos hw] at h
      rcases h with h | h
      · exact .inl (oper_normN (fun a w h => wpList_append hk L a w h) h)
      · exact absurd h.2 hl
    · rename_i hw
      rw [if_neg hw] at h
      exact wpList_append hk L _ _ h
theorem wpListIn_append {F : Fence} {n : Nat} {P : Program} {ops : Array Oper} {K : Act → World → Prop} {Q : Exit → Act → World → Prop} {rest : List Oper} (hk : ∀ a w, K a w → wpListIn F n P ops Q rest a w) :
    ∀ (pre : List Oper) (a : Act) (w : World), wpListIn F n P ops (fun e a w => e = .normal ∧ K a w) pre a w → wpListIn F n P ops Q (pre ++ rest) a w
  | [], a, w, h => hk a w h.2
  | o :: L, a, w, h => by
    show wpListIn F n P ops Q (o :: (L ++ rest)) a w
    unfold wpListIn at h ⊢
    split
    · rename_i hw
      rw [if_pos hw] at h
      exact oper_normI (fun a w h => wpListIn_append hk L a w h) h
    · rename_i hw
      rw [if_neg hw] at h
      exact ⟨h.1, wpListIn_append hk L _ _ h.2⟩
theorem WL.append {md : Option (Nat × Nat)} {P : Program} {ops : Array Oper} {K : Act → World → Prop} {Q : Exit → Act → World → Prop} {pre rest : List Oper} {a : Act} {w : World} (hk : ∀ a w, K a w → WL md P ops Q rest a w)
    (h : WL md P ops (fun e a w => e = .normal ∧ K a w) pre a w) : WL md P ops Q (pre ++ rest) a w := by
  cases md with
  | none => exact wpList_append hk _ _ _ h
  | some x => exact wpListIn_append hk _ _ _ h
theorem AW.regS {P : Program} {N id : Nat} {y : Code} {Q : Exit → ASt → Prop} {st : ASt} {ops : List Oper} (k : Nat) (l : List Nat)
    (h : arun P N ops (ops.take k) st (fun s1 => ∃ s2, Ent N s1 s2 ∧ arun P N ops (ops.drop k) s2 (fun s3 => AW P N y Q ⟨restr s3.fr l, s3.hp, s3.nx⟩))) : AW P N (.seq (.region id ops.toArray false) y) Q st :=
  AW.seq fun md G a w hc => WP.list (by
    show WL md P ops.toArray _ ops a w
    have hs : ∀ L, L = ops.take k ++ ops.drop k → WL md P ops.toArray (fun e a' w' => ∃ st', thenA (AW P N y Q) Q e st' ∧ Conc G N st' a' w') L a w := by
      rintro L rfl
      refine WL.append (K := fun a w => ∃ s1, (∃ s2, Ent N s1 s2 ∧ arun P N ops (ops.drop k) s2 (fun s3 => AW P N y Q ⟨restr s3.fr l, s3.hp, s3.nx⟩)) ∧ Conc G N s1 a w) ?_ (arun_sound (fun s a w hq hc => ⟨rfl, s, hq, hc⟩) hc h)
      rintro a1 w1 ⟨s1, ⟨s2, hE, hr⟩, hc1⟩
      exact arun_sound (fun s a w hq hc => ⟨_, hq, Ent.restr l P G a w hc⟩) (hE P G a1 w1 hc1) hr
    exact hs ops (List.take_append_drop k ops).symm)
end Go.Gm

set_option linter.all false
set_option maxRecDepth 8000
set_option maxHeartbeats 1000000
namespace Go.Proofs.Yt
open Go.Gm
namespace Au
noncomputable def f8_s2 (x1 : (List Res) × Er) (x4 : (List Int) × Er) : Int → Option (Int ⊕ (((Option Trace) × Er) ⊕ Unit))
  | s2_0 => (if s2_0 < ((x1.1.length : Nat) : Int) then ((ix x1.1 s2_0).bind fun x36 => ((f34_35 x36.Offs x4.1).bind fun x37 => (if x37 = true then ((f33 ⟨#[107, 101, 121]⟩ s2_0 320).bind fun x39 => some (.inr (.inl (none, x39)))) else some (.inl (IntKind.i64.wrap (s2_0 + 1)))))) else some (.inr (.inr ())))
noncomputable def f8 (a0 : List (A2 (List Int))) (a1 : List Int) : Option ((Option Trace) × Er) := ((f30 a0).bind fun x1 => (if (Er.isNil x1.2) = true then ((f31 a1).bind fun x4 => (if (Er.isNil x4.2) = true then ((f32 x1.1).bind fun x10 => (if x10 = true then ((loopO (f8_s2 x1 x4) 0).bind fun y40 => match y40 with | .inl y41 => some y41 | .inr _ => some ((some ⟨x1.1, x4.1⟩), Er.nil)) else ((f33 ⟨#[106, 111, 105, 110]⟩ 0 3).bind fun x42 => some (none, x42)))) else some (none, x4.2))) else some (none, x1.2)))
theorem ok8 (a0 : List (A2 (List Int))) (a1 : List Int) (r : (Option Trace) × Er) (h : f8 a0 a1 = some r) : IC Tryz.prog 8 [] [.sl (List.map enc71 a0), .sl (List.map enc5 a1)] (match r.1 with | none => .tup [.val (.pointer none), .val (erV r.2)] | some _ => .tup [.ptr 8 0 0, .val (erV r.2)]) [] (match r.1 with | none => [] | some b => [some (.row 2 true [[.own 9 0 b.l.length, .im (List.map encM b.offs)]]), some (.row 3 true (List.map encRes b.l))]) := by
 rw [f8] at h
 refine ic_of (N := 49) (rs := [.tmp 4, .tmp 5]) Tryz.func8 rfl rfl rfl (Nat.le_of_ble_eq_true rfl) ?_
 refine AW.rX [0, 1] ?_
 obtain ⟨x1, hx1, h⟩ := Option.bind_eq_some_iff.1 h
 refine AW.regL [1, 6, 7] ?_
 generalize hK : AW Tryz.prog _ _ _ = K
 simp only [go_sem, ↓reduceIte, reduceCtorEq, Nat.reduceAdd, Nat.reduceSub, Nat.reduceMul, Nat.reduceEqDiff, Nat.reduceLT, Nat.reduceLeDiff]
 refine arC.of (ok30 a0 x1 hx1) Tryz.call30 ?_
 simp only [go_sem, ↓reduceIte, reduceCtorEq, Nat.reduceAdd, Nat.reduceSub, Nat.reduceMul, Nat.reduceEqDiff, Nat.reduceLT, Nat.reduceLeDiff]
 subst hK
 refine AW.seq ?_
 refine AW.regL [1, 6, 7, 17] ?_
 generalize hK : AW Tryz.prog _ _ _ = K
 simp only [go_sem, ↓reduceIte, reduceCtorEq, Nat.reduceAdd, Nat.reduceSub, Nat.reduceMul, Nat.reduceEqDiff, Nat.reduceLT, Nat.reduceLeDiff, er_neq]
 subst hK
 by_cases c3 : (Er.isNil x1.2) = true
 ·rw [if_pos c3] at h
  refine AW.ifBF rfl (by first | (rw [c3]; rfl) | simp_all) ?_
  refine AW.skip ?_
  refine thenA_n ?_
  obtain ⟨x4, hx4, h⟩ := Option.bind_eq_some_iff.1 h
  refine AW.regL [6, 7, 8] ?_
  generalize hK : AW Tryz.prog _ _ _ = K
  simp only [go_sem, ↓reduceIte, reduceCtorEq, Nat.reduceAdd, Nat.reduceSub, Nat.reduceMul, Nat.reduceEqDiff, Nat.reduceLT, Nat.reduceLeDiff, c3]
  refine arC.of (ok31 a1 x4 hx4) Tryz.call31 ?_
  simp only [go_sem, ↓reduceIte, reduceCtorEq, Nat.reduceAdd, Nat.reduceSub, Nat.reduceMul, Nat.reduceEqDiff, Nat.reduceLT, Nat.reduceLeDiff, c3]
  subst hK
  refine AW.seq ?_
  refine AW.regL [6, 7, 8, 25] ?_
  generalize hK : AW Tryz.prog _ _ _ = K
  simp only [go_sem, ↓reduceIte, reduceCtorEq, Nat.reduceAdd, Nat.reduceSub, Nat.reduceMul, Nat.reduceEqDiff, Nat.reduceLT, Nat.reduceLeDiff, c3, er_neq]
  subst hK
  by_cases c6 : (Er.isNil x4.2) = true
  ·rw [if_pos c6] at h
   refine AW.ifBF rfl (by first | (rw [c6]; rfl) | simp_all) ?_
   refine AW.skip ?_
   refine thenA_n ?_
   refine AW.seq ?_
   obtain ⟨x10, hx10, h⟩ := Option.bind_eq_some_iff.1 h
   refine AW.regL [6, 8, 29] ?_
   generalize hK : AW Tryz.prog _ _ _ = K
   simp only [go_sem, ↓reduceIte, reduceCtorEq, Nat.reduceAdd, Nat.reduceSub, Nat.reduceMul, Nat.reduceEqDiff, Nat.reduceLT, Nat.reduceLeDiff, c3, c6]
   refine arC.of (ok32 x1.1 x10 hx10) Tryz.call32 ?_
   simp only [go_sem, ↓reduceIte, reduceCtorEq, Nat.reduceAdd, Nat.reduceSub, Nat.reduceMul, Nat.reduceEqDiff, Nat.reduceLT, Nat.reduceLeDiff, c3, c6]
   subst hK
   by_cases c11 : x10 = true
   ·rw [if_pos c11] at h
    refine AW.ifBF rfl (by first | (rw [c11]; rfl) | simp_all) ?_
    refine AW.skip ?_
    refine thenA_n ?_
    refine AW.seq ?_
    refine AW.regL [6, 8, 31, 32, 33] ?_
    generalize hK : AW Tryz.prog _ _ _ = K
    simp only [go_sem, ↓reduceIte, reduceCtorEq, Nat.reduceAdd, Nat.reduceSub, Nat.reduceMul, Nat.reduceEqDiff, Nat.reduceLT, Nat.reduceLeDiff, c3, c6, c11]
    subst hK
    refine AW.block ?_
    refine AW.ent (Ent.stillPtr 8 rfl (by first | rfl | simp [upd_ap]) (by first | rfl | simp only [go_sem]) (by simp)) ?_
    obtain ⟨y40, hy40, h⟩ := Option.bind_eq_some_iff.1 h
    refine AW.loopO (fun s => ⟨(upd (upd (upd (upd (upd anyF 6 (.own 8 0 x1.1.length)) 8 (.ip [.im (List.map encM x4.1)])) 31 (.own 8 0 x1.1.length)) 32 (.val (.int .i64 ((x1.1.length : Nat) : Int)))) 33 (.val (.int .i64 s))), hpL [] [some (.row 3 true (List.map encRes x1.1))], 9⟩) (fun y e st' => match y with | .inl z => e = Exit.ret ∧ finI Tryz.prog [.tmp 4, .tmp 5] (match z.1 with | none => .tup [.val (.pointer none), .val (erV z.2)] | some _ => .tup [.ptr 8 0 0, .val (erV z.2)]) [] (match z.1 with | none => [] | some b => [some (.row 2 true [[.own 9 0 b.l.length, .im (List.map encM b.offs)]]), some (.row 3 true (List.map encRes b.l))]) .ret st' | .inr z => e = Exit.exit 0 ∧ st' = ⟨(upd (upd anyF 6 (.own 8 0 x1.1.length)) 8 (.ip [.im (List.map encM x4.1)])), hpL [] [some (.row 3 true (List.map encRes x1.1))], 9⟩) hy40 ?_ ?_ ?_
    ·exact Ent.canq [32] RF.any.qo.qv.qo.qv.qv (.nil _) (.ce (.nil _))
    ·clear h hy40
     rintro s2_0 x h
     rw [f8_s2] at h
     refine AW.regL [6, 8, 31, 32, 33, 34] ?_
     generalize hK : AW Tryz.prog _ _ _ = K
     simp only [go_sem, ↓reduceIte, reduceCtorEq, Nat.reduceAdd, Nat.reduceSub, Nat.reduceMul, Nat.reduceEqDiff, Nat.reduceLT, Nat.reduceLeDiff, c3, c6, c11]
     subst hK
     refine AW.seq ?_
     by_cases c35 : s2_0 < ((x1.1.length : Nat) : Int)
     ·rw [if_pos c35] at h
      refine AW.ifT rfl c35 ?_
      refine AW.skip ?_
      refine thenA_n ?_
      refine AW.seq ?_
      refine AW.block ?_
      obtain ⟨x36, hx36, h⟩ := Option.bind_eq_some_iff.1 h
      obtain ⟨hx36a, hx36b⟩ := ix_some.1 hx36
      refine AW.regL [6, 8, 9, 10, 31, 32, 33] ?_
      generalize hK : AW Tryz.prog _ _ _ = K
      simp only [go_sem, ↓reduceIte, reduceCtorEq, Nat.reduceAdd, Nat.reduceSub, Nat.reduceMul, Nat.reduceEqDiff, Nat.reduceLT, Nat.reduceLeDiff, c3, c6, c11, eq_true c35, natOf_le hx36a, hx36b, ix_lt hx36b]
      subst hK
      obtain ⟨x37, hx37, h⟩ := Option.bind_eq_some_iff.1 h
      refine AW.regL [6, 8, 9, 31, 32, 33, 41] ?_
      generalize hK : AW Tryz.prog _ _ _ = K
      simp only [go_sem, ↓reduceIte, reduceCtorEq, Nat.reduceAdd, Nat.reduceSub, Nat.reduceMul, Nat.reduceEqDiff, Nat.reduceLT, Nat.reduceLeDiff, c3, c6, c11, eq_true c35]
      refine arC.of (ok34_35 x36.Offs x4.1 x37 hx37) Tryz.call34 ?_
      simp only [go_sem, ↓reduceIte, reduceCtorEq, Nat.reduceAdd, Nat.reduceSub, Nat.reduceMul, Nat.reduceEqDiff, Nat.reduceLT, Nat.reduceLeDiff, c3, c6, c11, eq_true c35]
      subst hK
      by_cases c38 : x37 = true
      ·rw [if_pos c38] at h
       refine AW.ifBT rfl c38 ?_
       obtain ⟨x39, hx39, h⟩ := Option.bind_eq_some_iff.1 h
       refine AW.regL [4, 5] ?_
       generalize hK : AW Tryz.prog _ _ _ = K
       simp only [go_sem, ↓reduceIte, reduceCtorEq, Nat.reduceAdd, Nat.reduceSub, Nat.reduceMul, Nat.reduceEqDiff, Nat.reduceLT, Nat.reduceLeDiff, c3, c6, c11, eq_true c35, c38]
       refine arC.of (ok33 ⟨#[107, 101, 121]⟩ s2_0 320 x39 hx39) Tryz.call33 ?_
       simp only [go_sem, ↓reduceIte, reduceCtorEq, Nat.reduceAdd, Nat.reduceSub, Nat.reduceMul, Nat.reduceEqDiff, Nat.reduceLT, Nat.reduceLeDiff, c3, c6, c11, eq_true c35, c38]
       subst hK
       refine AW.ent (st' := ⟨(upd (upd anyF 4 (.val (.pointer none))) 5 (.val (erV x39))), hpL [] [], 8⟩) ?_ ?_
       · refine Ent.can [] _ _ _ rfl (by first | decide | simp) rfl ?_ ?_ ?_
         · exact RF.any.qv.qv
         · exact .nil _
         · exact .nil _
       refine AW.ret ?_
       refine block_r ?_
       refine thenA_r ?_
       refine thenA_r ?_
       refine ⟨_, (Option.some.inj h).symm, _, Ent.refl, rfl, ?_⟩
       exact ⟨rfl, rfl, _, rfl, by first | rfl | simp [resOf, upd_ap, bytesI_len]⟩
      ·rw [if_neg c38] at h
       rw [Bool.not_eq_true] at c38
       refine AW.ifBF rfl c38 ?_
       refine AW.skip ?_
       refine block_n ?_
       refine thenA_n ?_
       refine AW.regionL [6, 8, 31, 32, 33] ?_
       generalize hK : thenA _ _ Exit.normal = K
       simp only [go_sem, ↓reduceIte, reduceCtorEq, Nat.reduceAdd, Nat.reduceSub, Nat.reduceMul, Nat.reduceEqDiff, Nat.reduceLT, Nat.reduceLeDiff, c3, c6, c11, eq_true c35, c38]
       subst hK
       refine thenA_n ?_
       refine ⟨_, (Option.some.inj h).symm, ?_⟩
       exact Ent.canq [8] RF.any.qo.qv.qo.qv.qv (.nil _) (.ce (.nil _))
     ·rw [if_neg c35] at h
      refine AW.ifF rfl c35 ?_
      refine AW.exit ?_
      refine thenA_x ?_
      refine thenA_x ?_
      refine ⟨_, (Option.some.inj h).symm, _, ?_, rfl, rfl⟩
      exact Ent.canq [8] RF.any.qo.qv (.nil _) (.ce (.nil _))
    ·intro e st' hX
     rcases y40 with y41 | _ <;> dsimp only at h hX
     ·obtain ⟨rfl, hf⟩ := hX
      refine ⟨_, Ent.refl, ?_⟩
      refine block_r ?_
      refine thenA_r ?_
      obtain rfl := Option.some.inj h
      exact hf
     ·obtain ⟨rfl, rfl⟩ := hX
      refine ⟨_, Ent.refl, ?_⟩
      refine block_x ?_
      refine thenA_n ?_
      refine AW.regL [4, 5] ?_
      generalize hK : AW Tryz.prog _ _ _ = K
      simp only [go_sem, ↓reduceIte, reduceCtorEq, Nat.reduceAdd, Nat.reduceSub, Nat.reduceMul, Nat.reduceEqDiff, Nat.reduceLT, Nat.reduceLeDiff, c3, c6, c11]
      subst hK
      refine AW.ent (st' := ⟨(upd (upd anyF 4 (.ptr 8 0 0)) 5 (.val (.nilIface))), hpL [] [some (.row 2 true [[.own 9 0 x1.1.length, .im (List.map encM x4.1)]]), some (.row 3 true (List.map encRes x1.1))], 10⟩) ?_ ?_
      · refine Ent.can [33, 8] _ _ _ rfl (by first | decide | simp) rfl ?_ ?_ ?_
        · exact RF.any.qp.qv
        · exact .nil _
        · exact .cons (.tok (by simp [tokL, tokLL, inlR]) (by first | rfl | simp [upd_ap, hpL_ap, tau, mapT, mapTL, bytesI_len, c3, c6, c11])) (.ce (.nil _))
      refine AW.ret ?_
      obtain rfl := Option.some.inj h
      exact ⟨rfl, rfl, _, rfl, by first | rfl | simp [resOf, upd_ap, bytesI_len]⟩
   ·rw [if_neg c11] at h
    rw [Bool.not_eq_true] at c11
    refine AW.ifBT rfl (by first | (rw [c11]; rfl) | simp_all) ?_
    obtain ⟨x42, hx42, h⟩ := Option.bind_eq_some_iff.1 h
    refine AW.regL [4, 5] ?_
    generalize hK : AW Tryz.prog _ _ _ = K
    simp only [go_sem, ↓reduceIte, reduceCtorEq, Nat.reduceAdd, Nat.reduceSub, Nat.reduceMul, Nat.reduceEqDiff, Nat.reduceLT, Nat.reduceLeDiff, c3, c6, c11]
    refine arC.of (ok33 ⟨#[106, 111, 105, 110]⟩ 0 3 x42 hx42) Tryz.call33 ?_
    simp only [go_sem, ↓reduceIte, reduceCtorEq, Nat.reduceAdd, Nat.reduceSub, Nat.reduceMul, Nat.reduceEqDiff, Nat.reduceLT, Nat.reduceLeDiff, c3, c6, c11]
    subst hK
    refine AW.ent (st' := ⟨(upd (upd anyF 4 (.val (.pointer none))) 5 (.val (erV x42))), hpL [] [], 8⟩) ?_ ?_
    · refine Ent.can [] _ _ _ rfl (by first | decide | simp) rfl ?_ ?_ ?_
      · exact RF.any.qv.qv
      · exact .nil _
      · exact .nil _
    refine AW.ret ?_
    refine thenA_r ?_
    obtain rfl := Option.some.inj h
    exact ⟨rfl, rfl, _, rfl, by first | rfl | simp [resOf, upd_ap, bytesI_len]⟩
  ·rw [if_neg c6] at h
   rw [Bool.not_eq_true] at c6
   refine AW.ifBT rfl (by first | (rw [c6]; rfl) | simp_all) ?_
   refine AW.regL [4, 5] ?_
   generalize hK : AW Tryz.prog _ _ _ = K
   simp only [go_sem, ↓reduceIte, reduceCtorEq, Nat.reduceAdd, Nat.reduceSub, Nat.reduceMul, Nat.reduceEqDiff, Nat.reduceLT, Nat.reduceLeDiff, c3, c6]
   subst hK
   refine AW.ent (st' := ⟨(upd (upd anyF 4 (.val (.pointer none))) 5 (.val (erV x4.2))), hpL [] [], 8⟩) ?_ ?_
   · refine Ent.can [] _ _ _ rfl (by first | decide | simp) rfl ?_ ?_ ?_
     · exact RF.any.qv.qv
     · exact .nil _
     · exact .nil _
   refine AW.ret ?_
   refine thenA_r ?_
   obtain rfl := Option.some.inj h
   exact ⟨rfl, rfl, _, rfl, by first | rfl | simp [resOf, upd_ap, bytesI_len]⟩
 ·rw [if_neg c3] at h
  rw [Bool.not_eq_true] at c3
  refine AW.ifBT rfl (by first | (rw [c3]; rfl) | simp_all) ?_
  refine AW.regL [4, 5] ?_
  generalize hK : AW Tryz.prog _ _ _ = K
  simp only [go_sem, ↓reduceIte, reduceCtorEq, Nat.reduceAdd, Nat.reduceSub, Nat.reduceMul, Nat.reduceEqDiff, Nat.reduceLT, Nat.reduceLeDiff, c3]
  subst hK
  refine AW.ent (st' := ⟨(upd (upd anyF 4 (.val (.pointer none))) 5 (.val (erV x1.2))), hpL [] [], 8⟩) ?_ ?_
  · refine Ent.can [] _ _ _ rfl (by first | decide | simp) rfl ?_ ?_ ?_
    · exact RF.any.qv.qv
    · exact .nil _
    · exact .nil _
  refine AW.ret ?_
  refine thenA_r ?_
  obtain rfl := Option.some.inj h
  exact ⟨rfl, rfl, _, rfl, by first | rfl | simp [resOf, upd_ap, bytesI_len]⟩
end Au
end Go.Proofs.Yt

set_option linter.all false
set_option maxRecDepth 8000
set_option maxHeartbeats 1000000
namespace Go.Proofs.Yt
open Go.Gm
namespace Au
noncomputable def f7 : Option Bool := ((f29 [⟨⟨#[120]⟩, ⟨#[50]⟩, [0, 4]⟩, ⟨⟨#[121]⟩, ⟨#[49]⟩, [0]⟩]).bind fun x1 => ((f8 x1 [120, 32, 121, 10, 120, 10]).bind fun x2 => (match x2 with | (none, e3) => (if (Er.isNil e3) = true then some false else some false) | (some b4, e3) => (if (Er.isNil e3) = true then ((f19 b4 4).bind fun x9 => ((f19 x9.2.2 1).bind fun x10 => ((f18 x10.2.2 ⟨#[120]⟩).bind fun x11 => ((f21 x11.1 [0, 4]).bind fun x12 => (if x12 = true then (if (Er.isNil x9.2.1) = true then ((f22 x9.1 [⟨#[120]⟩]).bind fun x15 => (if x15 = true then ((f10 x10.2.1).bind fun x17 => some (decide (x17 = 320))) else some false)) else some false) else some false))))) else some false))))
theorem ok7 (r : Bool) (h : f7 = some r) : PC Tryz.prog 7 [] (.val (.bool r)) := by
 rw [f7] at h
 refine pc_of8 (N := 53) (rs := [.tmp 0]) Tryz.func7 rfl rfl rfl (Nat.le_of_ble_eq_true rfl) ?_
 refine AW.rX [] ?_
 obtain ⟨x1, hx1, h⟩ := Option.bind_eq_some_iff.1 h
 obtain ⟨x2, hx2, h⟩ := Option.bind_eq_some_iff.1 h
 obtain ⟨(_ | b4), e3⟩ := x2
 ·dsimp only at h
  refine AW.regS 5 [1, 2] ?_
  generalize hK : (fun (s1 : ASt) => _) = K
  simp only [go_sem, ↓reduceIte, reduceCtorEq, Nat.reduceAdd, Nat.reduceSub, Nat.reduceMul, Nat.reduceEqDiff, Nat.reduceLT, Nat.reduceLeDiff]
  subst hK
  refine ⟨_, Ent.trans (Ent.stillRow (sz := 3) (mu := true) (R1 := []) (R2 := [[.val (.string ⟨#[121]⟩), .val (.string ⟨#[49]⟩), .own 32 0 1]]) (pre := [.val (.string ⟨#[120]⟩), .val (.string ⟨#[50]⟩)]) (post := []) (q := 16) (off := 0) (len := 2) 48 (by simp [upd_ap, hpL_ap]) (own_sl (sz := 1) (m := true) (by simp [upd_ap, hpL_ap]; rfl) rfl (by simp only [go_sem])) (by decide))
    (Ent.stillRow (sz := 3) (mu := true) (R1 := [[.val (.string ⟨#[120]⟩), .val (.string ⟨#[50]⟩), .sl [[.val (.int .i64 0)], [.val (.int .i64 4)]]]]) (R2 := []) (pre := [.val (.string ⟨#[121]⟩), .val (.string ⟨#[49]⟩)]) (post := []) (q := 32) (off := 0) (len := 1) 48 (by simp [upd_ap, hpL_ap]) (own_sl (sz := 1) (m := true) (by simp [upd_ap, hpL_ap]; rfl) rfl (by simp only [go_sem])) (by decide)), ?_⟩
  generalize hK : AW Tryz.prog _ _ _ = K
  simp only [go_sem, ↓reduceIte, reduceCtorEq, Nat.reduceAdd, Nat.reduceSub, Nat.reduceMul, Nat.reduceEqDiff, Nat.reduceLT, Nat.reduceLeDiff]
  refine arC.of (ok29 [⟨⟨#[120]⟩, ⟨#[50]⟩, [0, 4]⟩, ⟨⟨#[121]⟩, ⟨#[49]⟩, [0]⟩] x1 hx1) Tryz.call29 ?_
  simp only [go_sem, ↓reduceIte, reduceCtorEq, Nat.reduceAdd, Nat.reduceSub, Nat.reduceMul, Nat.reduceEqDiff, Nat.reduceLT, Nat.reduceLeDiff]
  refine arC.ok (CallOk.still (t := 56) (off := 0) (len := x1.length) (own_sl (sz := 2) (m := true) rfl (by first | rfl | (simp [bytesI_len]; done) | (simp [bytesI_len]; omega)) (by simp only [go_sem])) (.own (.keep .nil)) (CallOk.icq (us' := _) (ok8 x1 [120, 32, 121, 10, 120, 10] (none, e3) hx2) [] (.nil _) (by simp only [mapTL_cons, mapTL_nil, mapT_ptr, mapT_own, mapT_val, mapT_sl, mapT_agg, mapT_ip, mapT_clo, mapT_ifc, sg_ap, List.getD_cons_zero, List.getD_cons_succ]; exact (.cons (.of rfl) (.cons (.of rfl) .nil))))) Tryz.call8 ?_
  simp only [go_sem, ↓reduceIte, reduceCtorEq, Nat.reduceAdd, Nat.reduceSub, Nat.reduceMul, Nat.reduceEqDiff, Nat.reduceLT, Nat.reduceLeDiff]
  subst hK
  refine AW.seq ?_
  by_cases c6 : (Er.isNil e3) = true
  ·rw [if_pos c6] at h
   refine AW.regL [1, 24] ?_
   generalize hK : AW Tryz.prog _ _ _ = K
   simp only [go_sem, ↓reduceIte, reduceCtorEq, Nat.reduceAdd, Nat.reduceSub, Nat.reduceMul, Nat.reduceEqDiff, Nat.reduceLT, Nat.reduceLeDiff, er_neq, c6]
   subst hK
   refine AW.ifBT rfl rfl ?_
   refine AW.regL [0] ?_
   generalize hK : AW Tryz.prog _ _ _ = K
   simp only [go_sem, ↓reduceIte, reduceCtorEq, Nat.reduceAdd, Nat.reduceSub, Nat.reduceMul, Nat.reduceEqDiff, Nat.reduceLT, Nat.reduceLeDiff, c6]
   subst hK
   refine AW.ret ?_
   refine thenA_r ?_
   obtain rfl := Option.some.inj h
   (simp only [go_sem, ↓reduceIte, reduceCtorEq, Nat.reduceAdd, Nat.reduceSub, Nat.reduceMul, Nat.reduceEqDiff, Nat.reduceLT, Nat.reduceLeDiff, c6, finA] <;> try simp)
  ·rw [if_neg c6] at h
   rw [Bool.not_eq_true] at c6
   refine AW.regL [1, 24] ?_
   generalize hK : AW Tryz.prog _ _ _ = K
   simp only [go_sem, ↓reduceIte, reduceCtorEq, Nat.reduceAdd, Nat.reduceSub, Nat.reduceMul, Nat.reduceEqDiff, Nat.reduceLT, Nat.reduceLeDiff, er_neq, c6]
   subst hK
   refine AW.ifBT rfl rfl ?_
   refine AW.regL [0] ?_
   generalize hK : AW Tryz.prog _ _ _ = K
   simp only [go_sem, ↓reduceIte, reduceCtorEq, Nat.reduceAdd, Nat.reduceSub, Nat.reduceMul, Nat.reduceEqDiff, Nat.reduceLT, Nat.reduceLeDiff, c6]
   subst hK
   refine AW.ret ?_
   refine thenA_r ?_
   obtain rfl := Option.some.inj h
   (simp only [go_sem, ↓reduceIte, reduceCtorEq, Nat.reduceAdd, Nat.reduceSub, Nat.reduceMul, Nat.reduceEqDiff, Nat.reduceLT, Nat.reduceLeDiff, c6, finA] <;> try simp)
 ·dsimp only at h
  refine AW.regS 5 [1, 2] ?_
  generalize hK : (fun (s1 : ASt) => _) = K
  simp only [go_sem, ↓reduceIte, reduceCtorEq, Nat.reduceAdd, Nat.reduceSub, Nat.reduceMul, Nat.reduceEqDiff, Nat.reduceLT, Nat.reduceLeDiff]
  subst hK
  refine ⟨_, Ent.trans (Ent.stillRow (sz := 3) (mu := true) (R1 := []) (R2 := [[.val (.string ⟨#[121]⟩), .val (.string ⟨#[49]⟩), .own 32 0 1]]) (pre := [.val (.string ⟨#[120]⟩), .val (.string ⟨#[50]⟩)]) (post := []) (q := 16) (off := 0) (len := 2) 48 (by simp [upd_ap, hpL_ap]) (own_sl (sz := 1) (m := true) (by simp [upd_ap, hpL_ap]; rfl) rfl (by simp only [go_sem])) (by decide))
    (Ent.stillRow (sz := 3) (mu := true) (R1 := [[.val (.string ⟨#[120]⟩), .val (.string ⟨#[50]⟩), .sl [[.val (.int .i64 0)], [.val (.int .i64 4)]]]]) (R2 := []) (pre := [.val (.string ⟨#[121]⟩), .val (.string ⟨#[49]⟩)]) (post := []) (q := 32) (off := 0) (len := 1) 48 (by simp [upd_ap, hpL_ap]) (own_sl (sz := 1) (m := true) (by simp [upd_ap, hpL_ap]; rfl) rfl (by simp only [go_sem])) (by decide)), ?_⟩
  generalize hK : AW Tryz.prog _ _ _ = K
  simp only [go_sem, ↓reduceIte, reduceCtorEq, Nat.reduceAdd, Nat.reduceSub, Nat.reduceMul, Nat.reduceEqDiff, Nat.reduceLT, Nat.reduceLeDiff]
  refine arC.of (ok29 [⟨⟨#[120]⟩, ⟨#[50]⟩, [0, 4]⟩, ⟨⟨#[121]⟩, ⟨#[49]⟩, [0]⟩] x1 hx1) Tryz.call29 ?_
  simp only [go_sem, ↓reduceIte, reduceCtorEq, Nat.reduceAdd, Nat.reduceSub, Nat.reduceMul, Nat.reduceEqDiff, Nat.reduceLT, Nat.reduceLeDiff]
  refine arC.ok (CallOk.still (t := 56) (off := 0) (len := x1.length) (own_sl (sz := 2) (m := true) rfl (by first | rfl | (simp [bytesI_len]; done) | (simp [bytesI_len]; omega)) (by simp only [go_sem])) (.own (.keep .nil)) (CallOk.icq (us' := _) (ok8 x1 [120, 32, 121, 10, 120, 10] (some b4, e3) hx2) [] (.nil _) (by simp only [mapTL_cons, mapTL_nil, mapT_ptr, mapT_own, mapT_val, mapT_sl, mapT_agg, mapT_ip, mapT_clo, mapT_ifc, sg_ap, List.getD_cons_zero, List.getD_cons_succ]; exact (.cons (.of rfl) (.cons (.of rfl) .nil))))) Tryz.call8 ?_
  simp only [go_sem, ↓reduceIte, reduceCtorEq, Nat.reduceAdd, Nat.reduceSub, Nat.reduceMul, Nat.reduceEqDiff, Nat.reduceLT, Nat.reduceLeDiff]
  subst hK
  refine AW.seq ?_
  by_cases c8 : (Er.isNil e3) = true
  ·rw [if_pos c8] at h
   refine AW.regL [1, 24] ?_
   generalize hK : AW Tryz.prog _ _ _ = K
   simp only [go_sem, ↓reduceIte, reduceCtorEq, Nat.reduceAdd, Nat.reduceSub, Nat.reduceMul, Nat.reduceEqDiff, Nat.reduceLT, Nat.reduceLeDiff, er_neq, c8]
   subst hK
   refine AW.ifBF rfl rfl ?_
   refine AW.skip ?_
   refine thenA_n ?_
   refine AW.ent (Ent.stillObj (pre := []) (post := [.im (List.map encM b4.offs)]) (q := 81) (off := 0) (len := b4.l.length) 80 rfl (own_sl (sz := 3) (m := true) rfl (by first | rfl | (simp [bytesI_len]; done) | (simp [bytesI_len]; omega)) (by simp only [go_sem])) (by decide)) ?_
   obtain ⟨x9, hx9, h⟩ := Option.bind_eq_some_iff.1 h
   refine AW.regL [1, 3, 4] ?_
   generalize hK : AW Tryz.prog _ _ _ = K
   simp only [go_sem, ↓reduceIte, reduceCtorEq, Nat.reduceAdd, Nat.reduceSub, Nat.reduceMul, Nat.reduceEqDiff, Nat.reduceLT, Nat.reduceLeDiff, c8]
   refine arC.ok (CallOk.icq (us' := _) (ok19 b4 4 x9 hx9) [80] (.cons (.eq (by simp only [go_sem]) (by first | rfl | simp [upd_ap, hpL_ap, sg_ap])) (.nil _)) (by simp only [mapTL_cons, mapTL_nil, mapT_ptr, mapT_own, mapT_val, mapT_sl, mapT_agg, mapT_ip, mapT_clo, mapT_ifc, sg_ap, List.getD_cons_zero, List.getD_cons_succ]; exact (.cons (.of rfl) (.cons (.of rfl) .nil)))) Tryz.call19 ?_
   simp only [go_sem, ↓reduceIte, reduceCtorEq, Nat.reduceAdd, Nat.reduceSub, Nat.reduceMul, Nat.reduceEqDiff, Nat.reduceLT, Nat.reduceLeDiff, c8]
   subst hK
   obtain ⟨x10, hx10, h⟩ := Option.bind_eq_some_iff.1 h
   refine AW.regL [1, 3, 4, 6] ?_
   generalize hK : AW Tryz.prog _ _ _ = K
   simp only [go_sem, ↓reduceIte, reduceCtorEq, Nat.reduceAdd, Nat.reduceSub, Nat.reduceMul, Nat.reduceEqDiff, Nat.reduceLT, Nat.reduceLeDiff, c8]
   refine arC.ok (CallOk.icq (us' := _) (ok19 x9.2.2 1 x10 hx10) [80] (.cons (.eq (by simp only [go_sem]) (by first | rfl | simp [upd_ap, hpL_ap, sg_ap])) (.nil _)) (by simp only [mapTL_cons, mapTL_nil, mapT_ptr, mapT_own, mapT_val, mapT_sl, mapT_agg, mapT_ip, mapT_clo, mapT_ifc, sg_ap, List.getD_cons_zero, List.getD_cons_succ]; exact (.cons (.of rfl) (.cons (.of rfl) .nil)))) Tryz.call19 ?_
   simp only [go_sem, ↓reduceIte, reduceCtorEq, Nat.reduceAdd, Nat.reduceSub, Nat.reduceMul, Nat.reduceEqDiff, Nat.reduceLT, Nat.reduceLeDiff, c8]
   subst hK
   obtain ⟨x11, hx11, h⟩ := Option.bind_eq_some_iff.1 h
   obtain ⟨x12, hx12, h⟩ := Option.bind_eq_some_iff.1 h
   by_cases c13 : x12 = true
   ·rw [if_pos c13] at h
    by_cases c14 : (Er.isNil x9.2.1) = true
    ·rw [if_pos c14] at h
     obtain ⟨x15, hx15, h⟩ := Option.bind_eq_some_iff.1 h
     by_cases c16 : x15 = true
     ·rw [if_pos c16] at h
      obtain ⟨x17, hx17, h⟩ := Option.bind_eq_some_iff.1 h
      refine AW.regL [0] ?_
      generalize hK : AW Tryz.prog _ _ _ = K
      simp only [go_sem, ↓reduceIte, reduceCtorEq, Nat.reduceAdd, Nat.reduceSub, Nat.reduceMul, Nat.reduceEqDiff, Nat.reduceLT, Nat.reduceLeDiff, c8, c13, er_eql, c14, c16]
      refine arC.ok (CallOk.icq (us' := _) (ok18 x10.2.2 ⟨#[120]⟩ x11 hx11) [80] (.cons (.eq (by simp only [go_sem]) (by first | rfl | simp [upd_ap, hpL_ap, sg_ap])) (.nil _)) (by simp only [mapTL_cons, mapTL_nil, mapT_ptr, mapT_own, mapT_val, mapT_sl, mapT_agg, mapT_ip, mapT_clo, mapT_ifc, sg_ap, List.getD_cons_zero, List.getD_cons_succ]; exact (.cons (.of rfl) (.cons (.of rfl) .nil)))) Tryz.call18 ?_
      simp only [go_sem, ↓reduceIte, reduceCtorEq, Nat.reduceAdd, Nat.reduceSub, Nat.reduceMul, Nat.reduceEqDiff, Nat.reduceLT, Nat.reduceLeDiff, c8, c13, er_eql, c14, c16]
      refine arC.of (ok21 x11.1 [0, 4] x12 hx12) Tryz.call21 ?_
      simp only [go_sem, ↓reduceIte, reduceCtorEq, Nat.reduceAdd, Nat.reduceSub, Nat.reduceMul, Nat.reduceEqDiff, Nat.reduceLT, Nat.reduceLeDiff, c8, c13, er_eql, c14, c16]
      refine arC.of (ok22 x9.1 [⟨#[120]⟩] x15 hx15) Tryz.call22 ?_
      simp only [go_sem, ↓reduceIte, reduceCtorEq, Nat.reduceAdd, Nat.reduceSub, Nat.reduceMul, Nat.reduceEqDiff, Nat.reduceLT, Nat.reduceLeDiff, c8, c13, er_eql, c14, c16]
      refine arC.of (ok10 x10.2.1 x17 hx17) Tryz.call10 ?_
      simp only [go_sem, ↓reduceIte, reduceCtorEq, Nat.reduceAdd, Nat.reduceSub, Nat.reduceMul, Nat.reduceEqDiff, Nat.reduceLT, Nat.reduceLeDiff, c8, c13, er_eql, c14, c16]
      subst hK
      refine AW.ret ?_
      obtain rfl := Option.some.inj h
      (simp only [go_sem, ↓reduceIte, reduceCtorEq, Nat.reduceAdd, Nat.reduceSub, Nat.reduceMul, Nat.reduceEqDiff, Nat.reduceLT, Nat.reduceLeDiff, c8, c13, c14, c16, finA] <;> try simp)
     ·rw [if_neg c16] at h
      rw [Bool.not_eq_true] at c16
      refine AW.regL [0] ?_
      generalize hK : AW Tryz.prog _ _ _ = K
      simp only [go_sem, ↓reduceIte, reduceCtorEq, Nat.reduceAdd, Nat.reduceSub, Nat.reduceMul, Nat.reduceEqDiff, Nat.reduceLT, Nat.reduceLeDiff, c8, c13, er_eql, c14, c16]
      refine arC.ok (CallOk.icq (us' := _) (ok18 x10.2.2 ⟨#[120]⟩ x11 hx11) [80] (.cons (.eq (by simp only [go_sem]) (by first | rfl | simp [upd_ap, hpL_ap, sg_ap])) (.nil _)) (by simp only [mapTL_cons, mapTL_nil, mapT_ptr, mapT_own, mapT_val, mapT_sl, mapT_agg, mapT_ip, mapT_clo, mapT_ifc, sg_ap, List.getD_cons_zero, List.getD_cons_succ]; exact (.cons (.of rfl) (.cons (.of rfl) .nil)))) Tryz.call18 ?_
      simp only [go_sem, ↓reduceIte, reduceCtorEq, Nat.reduceAdd, Nat.reduceSub, Nat.reduceMul, Nat.reduceEqDiff, Nat.reduceLT, Nat.reduceLeDiff, c8, c13, er_eql, c14, c16]
      refine arC.of (ok21 x11.1 [0, 4] x12 hx12) Tryz.call21 ?_
      simp only [go_sem, ↓reduceIte, reduceCtorEq, Nat.reduceAdd, Nat.reduceSub, Nat.reduceMul, Nat.reduceEqDiff, Nat.reduceLT, Nat.reduceLeDiff, c8, c13, er_eql, c14, c16]
      refine arC.of (ok22 x9.1 [⟨#[120]⟩] x15 hx15) Tryz.call22 ?_
      simp only [go_sem, ↓reduceIte, reduceCtorEq, Nat.reduceAdd, Nat.reduceSub, Nat.reduceMul, Nat.reduceEqDiff, Nat.reduceLT, Nat.reduceLeDiff, c8, c13, er_eql, c14, c16]
      subst hK
      refine AW.ret ?_
      obtain rfl := Option.some.inj h
      (simp only [go_sem, ↓reduceIte, reduceCtorEq, Nat.reduceAdd, Nat.reduceSub, Nat.reduceMul, Nat.reduceEqDiff, Nat.reduceLT, Nat.reduceLeDiff, c8, c13, c14, c16, finA] <;> try simp)
    ·rw [if_neg c14] at h
     rw [Bool.not_eq_true] at c14
     refine AW.regL [0] ?_
     generalize hK : AW Tryz.prog _ _ _ = K
     simp only [go_sem, ↓reduceIte, reduceCtorEq, Nat.reduceAdd, Nat.reduceSub, Nat.reduceMul, Nat.reduceEqDiff, Nat.reduceLT, Nat.reduceLeDiff, c8, c13, er_eql, c14]
     refine arC.ok (CallOk.icq (us' := _) (ok18 x10.2.2 ⟨#[120]⟩ x11 hx11) [80] (.cons (.eq (by simp only [go_sem]) (by first | rfl | simp [upd_ap, hpL_ap, sg_ap])) (.nil _)) (by simp only [mapTL_cons, mapTL_nil, mapT_ptr, mapT_own, mapT_val, mapT_sl, mapT_agg, mapT_ip, mapT_clo, mapT_ifc, sg_ap, List.getD_cons_zero, List.getD_cons_succ]; exact (.cons (.of rfl) (.cons (.of rfl) .nil)))) Tryz.call18 ?_
     simp only [go_sem, ↓reduceIte, reduceCtorEq, Nat.reduceAdd, Nat.reduceSub, Nat.reduceMul, Nat.reduceEqDiff, Nat.reduceLT, Nat.reduceLeDiff, c8, c13, er_eql, c14]
     refine arC.of (ok21 x11.1 [0, 4] x12 hx12) Tryz.call21 ?_
     simp only [go_sem, ↓reduceIte, reduceCtorEq, Nat.reduceAdd, Nat.reduceSub, Nat.reduceMul, Nat.reduceEqDiff, Nat.reduceLT, Nat.reduceLeDiff, c8, c13, er_eql, c14]
     subst hK
     refine AW.ret ?_
     obtain rfl := Option.some.inj h
     (simp only [go_sem, ↓reduceIte, reduceCtorEq, Nat.reduceAdd, Nat.reduceSub, Nat.reduceMul, Nat.reduceEqDiff, Nat.reduceLT, Nat.reduceLeDiff, c8, c13, c14, finA] <;> try simp)
   ·rw [if_neg c13] at h
    rw [Bool.not_eq_true] at c13
    refine AW.regL [0] ?_
    generalize hK : AW Tryz.prog _ _ _ = K
    simp only [go_sem, ↓reduceIte, reduceCtorEq, Nat.reduceAdd, Nat.reduceSub, Nat.reduceMul, Nat.reduceEqDiff, Nat.reduceLT, Nat.reduceLeDiff, c8, c13]
    refine arC.ok (CallOk.icq (us' := _) (ok18 x10.2.2 ⟨#[120]⟩ x11 hx11) [80] (.cons (.eq (by simp only [go_sem]) (by first | rfl | simp [upd_ap, hpL_ap, sg_ap])) (.nil _)) (by simp only [mapTL_cons, mapTL_nil, mapT_ptr, mapT_own, mapT_val, mapT_sl, mapT_agg, mapT_ip, mapT_clo, mapT_ifc, sg_ap, List.getD_cons_zero, List.getD_cons_succ]; exact (.cons (.of rfl) (.cons (.of rfl) .nil)))) Tryz.call18 ?_
    simp only [go_sem, ↓reduceIte, reduceCtorEq, Nat.reduceAdd, Nat.reduceSub, Nat.reduceMul, Nat.reduceEqDiff, Nat.reduceLT, Nat.reduceLeDiff, c8, c13]
    refine arC.of (ok21 x11.1 [0, 4] x12 hx12) Tryz.call21 ?_
    simp only [go_sem, ↓reduceIte, reduceCtorEq, Nat.reduceAdd, Nat.reduceSub, Nat.reduceMul, Nat.reduceEqDiff, Nat.reduceLT, Nat.reduceLeDiff, c8, c13]
    subst hK
    refine AW.ret ?_
    obtain rfl := Option.some.inj h
    (simp only [go_sem, ↓reduceIte, reduceCtorEq, Nat.reduceAdd, Nat.reduceSub, Nat.reduceMul, Nat.reduceEqDiff, Nat.reduceLT, Nat.reduceLeDiff, c8, c13, finA] <;> try simp)
  ·rw [if_neg c8] at h
   rw [Bool.not_eq_true] at c8
   refine AW.regL [1, 24] ?_
   generalize hK : AW Tryz.prog _ _ _ = K
   simp only [go_sem, ↓reduceIte, reduceCtorEq, Nat.reduceAdd, Nat.reduceSub, Nat.reduceMul, Nat.reduceEqDiff, Nat.reduceLT, Nat.reduceLeDiff, er_neq, c8]
   subst hK
   refine AW.ifBT rfl rfl ?_
   refine AW.regL [0] ?_
   generalize hK : AW Tryz.prog _ _ _ = K
   simp only [go_sem, ↓reduceIte, reduceCtorEq, Nat.reduceAdd, Nat.reduceSub, Nat.reduceMul, Nat.reduceEqDiff, Nat.reduceLT, Nat.reduceLeDiff, c8]
   subst hK
   refine AW.ret ?_
   refine thenA_r ?_
   obtain rfl := Option.some.inj h
   (simp only [go_sem, ↓reduceIte, reduceCtorEq, Nat.reduceAdd, Nat.reduceSub, Nat.reduceMul, Nat.reduceEqDiff, Nat.reduceLT, Nat.reduceLeDiff, c8, finA] <;> try simp)
end Au
end Go.Proofs.Yt
