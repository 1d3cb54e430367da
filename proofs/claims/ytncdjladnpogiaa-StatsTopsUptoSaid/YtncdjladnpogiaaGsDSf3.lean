import Derived.Test.YtncdjladnpogiaaGsDS
import Derived.Test.YtncdjladnpogiaaGsW4
import Derived.Test.YtncdjladnpogiaaGsW5
import Derived.Test.YtncdjladnpogiaaGsW6
import Derived.Test.YtncdjladnpogiaaGsW8
import Derived.Test.YtncdjladnpogiaaGsW9
set_option linter.all false
set_option linter.unusedVariables false
set_option linter.unusedSimpArgs false
set_option linter.all false
set_option maxRecDepth 8000
set_option maxHeartbeats 1000000
namespace Go.Proofs.Y2
open Go.Gm
namespace Au
noncomputable def f3_s2 (a0 : List Res) : Int → Option (Int ⊕ (Bool ⊕ Unit))
  | s2_0 => (if s2_0 < (a0.length : Int) then ((ix a0 s2_0).bind fun x41 => (if 40 < (x41.Offs.length : Int) then ((f5 ).bind fun x43 => some (.inr (.inl x43))) else (if 200 < (IntKind.i64.wrap ((x41.Key.size : Int) + (x41.Val.size : Int))) then ((f5 ).bind fun x45 => some (.inr (.inl x45))) else some (.inl (IntKind.i64.wrap (s2_0 + 1)))))) else some (.inr (.inr ())))
noncomputable def f3 (a0 : List Res) (a1 : Int) (a2 : Int) (a3 : List Int) : Option Bool := (if 40 < (a0.length : Int) then ((f5 ).bind fun x6 => some x6) else (if 300 < (a3.length : Int) then ((f5 ).bind fun x8 => some x8) else ((loopO (f3_s2 a0) 0).bind fun y46 => match y46 with | .inl y47 => some y47 | .inr _ => ((f6 a3).bind fun x48 => ((f8 a0 a1).bind fun x49 => ((f9 a0 a1).bind fun x50 => ((f7 x49 x50).bind fun x51 => (if x51 = true then ((f11 a0 a2).bind fun x53 => ((f12 a0 a2).bind fun x54 => ((f10 x53 x54).bind fun x55 => (if x55 = true then ((f13 a0 x48.1).bind fun x57 => ((f14 a0 x48.1).bind fun x58 => ((f10 x57 x58).bind fun x59 => (if x59 = true then ((f5 ).bind fun x61 => some x61) else some false)))) else some false)))) else some false))))))))
theorem ok3 (a0 : List Res) (a1 : Int) (a2 : Int) (a3 : List Int) (r : Bool) (h : f3 a0 a1 a2 a3 = some r) : PC Try.prog 3 [.sl (List.map encRes a0), .val (.int .i64 a1), .val (.int .i64 a2), .sl (List.map enc5 a3)] (.val (.bool r)) := by
 rw [f3] at h
 refine pc_of8 (N := 86) (rs := [.tmp 8]) Try.func3 rfl rfl rfl (Nat.le_of_ble_eq_true rfl) ?_
 refine AW.regL [0, 1, 2, 3] ?_
 generalize hK : AW Try.prog _ _ _ = K
 simp only [go_sem, ↓reduceIte, reduceCtorEq, Nat.reduceAdd, Nat.reduceSub, Nat.reduceMul, Nat.reduceEqDiff, Nat.reduceLT, Nat.reduceLeDiff]
 subst hK
 refine AW.seq ?_
 by_cases c5 : 40 < (a0.length : Int)
 ·rw [if_pos c5] at h
  refine AW.regL [0, 1, 2, 3, 20] ?_
  generalize hK : AW Try.prog _ _ _ = K
  simp only [go_sem, ↓reduceIte, reduceCtorEq, Nat.reduceAdd, Nat.reduceSub, Nat.reduceMul, Nat.reduceEqDiff, Nat.reduceLT, Nat.reduceLeDiff, eq_true c5]
  subst hK
  refine AW.ifBT rfl rfl ?_
  obtain ⟨x6, hx6, h⟩ := Option.bind_eq_some_iff.1 h
  refine AW.regL [8] ?_
  generalize hK : AW Try.prog _ _ _ = K
  simp only [go_sem, ↓reduceIte, reduceCtorEq, Nat.reduceAdd, Nat.reduceSub, Nat.reduceMul, Nat.reduceEqDiff, Nat.reduceLT, Nat.reduceLeDiff, eq_true c5]
  refine arC.of (ok5  x6 hx6) Try.call5 ?_
  simp only [go_sem, ↓reduceIte, reduceCtorEq, Nat.reduceAdd, Nat.reduceSub, Nat.reduceMul, Nat.reduceEqDiff, Nat.reduceLT, Nat.reduceLeDiff, eq_true c5]
  subst hK
  refine AW.ret ?_
  refine thenA_r ?_
  obtain rfl := Option.some.inj h
  (simp only [go_sem, ↓reduceIte, reduceCtorEq, Nat.reduceAdd, Nat.reduceSub, Nat.reduceMul, Nat.reduceEqDiff, Nat.reduceLT, Nat.reduceLeDiff, eq_true c5, finA] <;> try simp)
 ·rw [if_neg c5] at h
  refine AW.regL [0, 1, 2, 3, 20] ?_
  generalize hK : AW Try.prog _ _ _ = K
  simp only [go_sem, ↓reduceIte, reduceCtorEq, Nat.reduceAdd, Nat.reduceSub, Nat.reduceMul, Nat.reduceEqDiff, Nat.reduceLT, Nat.reduceLeDiff, eq_false c5]
  subst hK
  by_cases c7 : 300 < (a3.length : Int)
  ·rw [if_pos c7] at h
   refine AW.ifT rfl c7 ?_
   obtain ⟨x8, hx8, h⟩ := Option.bind_eq_some_iff.1 h
   refine AW.regL [8] ?_
   generalize hK : AW Try.prog _ _ _ = K
   simp only [go_sem, ↓reduceIte, reduceCtorEq, Nat.reduceAdd, Nat.reduceSub, Nat.reduceMul, Nat.reduceEqDiff, Nat.reduceLT, Nat.reduceLeDiff, eq_false c5, eq_true c7]
   refine arC.of (ok5  x8 hx8) Try.call5 ?_
   simp only [go_sem, ↓reduceIte, reduceCtorEq, Nat.reduceAdd, Nat.reduceSub, Nat.reduceMul, Nat.reduceEqDiff, Nat.reduceLT, Nat.reduceLeDiff, eq_false c5, eq_true c7]
   subst hK
   refine AW.ret ?_
   refine thenA_r ?_
   obtain rfl := Option.some.inj h
   (simp only [go_sem, ↓reduceIte, reduceCtorEq, Nat.reduceAdd, Nat.reduceSub, Nat.reduceMul, Nat.reduceEqDiff, Nat.reduceLT, Nat.reduceLeDiff, eq_false c5, eq_true c7, finA] <;> try simp)
  ·rw [if_neg c7] at h
   refine AW.ifF rfl c7 ?_
   refine AW.skip ?_
   refine thenA_n ?_
   refine AW.seq ?_
   refine AW.regL [0, 1, 2, 3, 9] ?_
   generalize hK : AW Try.prog _ _ _ = K
   simp only [go_sem, ↓reduceIte, reduceCtorEq, Nat.reduceAdd, Nat.reduceSub, Nat.reduceMul, Nat.reduceEqDiff, Nat.reduceLT, Nat.reduceLeDiff, eq_false c5, eq_false c7]
   subst hK
   refine AW.block ?_
   obtain ⟨y46, hy46, h⟩ := Option.bind_eq_some_iff.1 h
   refine AW.loopO (fun s => ⟨(upd (upd (upd (upd (upd anyF 0 (.sl (List.map encRes a0))) 1 (.val (.int .i64 a1))) 2 (.val (.int .i64 a2))) 3 (.sl (List.map enc5 a3))) 9 (.val (.int .i64 s))), hpL [] [], 8⟩) (fun y e st' => match y with | .inl z => e = Exit.ret ∧ finA Try.prog [.tmp 8] (.val (.bool z)) .ret st' | .inr z => e = Exit.exit 0 ∧ st' = ⟨(upd (upd (upd (upd anyF 0 (.sl (List.map encRes a0))) 1 (.val (.int .i64 a1))) 2 (.val (.int .i64 a2))) 3 (.sl (List.map enc5 a3))), hpL [] [], 8⟩) hy46 ?_ ?_ ?_
   ·refine Ent.can [] _ _ _ rfl (by first | decide | simp) rfl ?_ ?_ ?_
    · exact (((((RF.any.pv (by first | rfl | simp only [go_sem]) (by first | rfl | simp [upd_ap, hpL_ap, tau, mapT, mapTL, bytesI_len, eq_false c5, eq_false c7])).pv (by first | rfl | simp only [go_sem]) (by first | rfl | simp [upd_ap, hpL_ap, tau, mapT, mapTL, bytesI_len, eq_false c5, eq_false c7])).pv (by first | rfl | simp only [go_sem]) (by first | rfl | simp [upd_ap, hpL_ap, tau, mapT, mapTL, bytesI_len, eq_false c5, eq_false c7])).pv (by first | rfl | simp only [go_sem]) (by first | rfl | simp [upd_ap, hpL_ap, tau, mapT, mapTL, bytesI_len, eq_false c5, eq_false c7])).pv (by first | rfl | simp only [go_sem]) (by first | rfl | simp [upd_ap, hpL_ap, tau, mapT, mapTL, bytesI_len, eq_false c5, eq_false c7]))
    · exact .nil _
    · exact .nil _
   ·clear h hy46
    rintro s2_0 x h
    rw [f3_s2] at h
    refine AW.seq ?_
    refine AW.regL [0, 1, 2, 3, 9, 25] ?_
    generalize hK : AW Try.prog _ _ _ = K
    simp only [go_sem, ↓reduceIte, reduceCtorEq, Nat.reduceAdd, Nat.reduceSub, Nat.reduceMul, Nat.reduceEqDiff, Nat.reduceLT, Nat.reduceLeDiff, eq_false c5, eq_false c7]
    subst hK
    by_cases c40 : s2_0 < (a0.length : Int)
    ·rw [if_pos c40] at h
     refine AW.ifT rfl c40 ?_
     refine AW.skip ?_
     refine thenA_n ?_
     refine AW.seq ?_
     refine AW.block ?_
     obtain ⟨x41, hx41, h⟩ := Option.bind_eq_some_iff.1 h
     obtain ⟨hx41a, hx41b⟩ := ix_some.1 hx41
     by_cases c42 : 40 < (x41.Offs.length : Int)
     ·rw [if_pos c42] at h
      refine AW.regdL [0, 1, 2, 3, 9, 50] [[], [], [0, 1], [0, 1, 2], [0, 1, 2, 3], [0, 1, 2, 3, 4], [0, 1, 2, 3, 4, 5], [0, 1, 2, 3, 4, 5, 6], [0, 1, 2, 3, 4, 5, 6, 7], [0, 1, 2, 3, 4, 5, 6, 7], [0, 1, 2, 3, 4, 5, 6, 7, 8, 9], [0, 1, 2, 3, 4, 5, 6, 7, 8, 9, 10], [0, 1, 2, 3, 4, 5, 6, 7, 8, 9, 10, 11], [0, 1, 2, 3, 4, 5, 6, 7, 8, 9, 10, 11, 12], [0, 1, 2, 3, 4, 5, 6, 7], [0, 1, 2, 3, 4, 5, 6, 7], [0, 1, 2, 3, 4, 5, 6, 7, 14, 15], [0, 1, 2, 3, 4, 5, 6, 7, 14, 15, 16], [0, 1, 2, 3, 4, 5, 6, 7, 14, 15, 16, 17], [0, 1, 2, 3, 4, 5, 6, 7, 14, 15, 16, 17, 18], [0, 1, 2, 3, 4, 5, 6, 7, 8, 9, 10, 11, 12, 13, 14, 15, 16, 17, 18, 19], [0, 1, 2, 3, 4, 5, 6, 7, 8, 9, 10, 11, 12, 13, 14, 15, 16, 17, 18, 19, 20], [0, 1, 2, 3, 4, 5, 6, 7, 8, 9, 10, 11, 12, 13, 14, 15, 16, 17, 18, 19, 20, 21]] [0, 1, 2, 3, 4, 5, 6, 7, 8, 9, 10, 11, 12, 13, 14, 15, 16, 17, 18, 19, 20, 21, 22] noFt (fun _ _ _ h => by simp [noFt] at h) draws (by kernel_rfl) (by kernel_rfl) ?_
      generalize hK : AW Try.prog _ _ _ = K
      simp only [go_sem, ↓reduceIte, reduceCtorEq, Nat.reduceAdd, Nat.reduceSub, Nat.reduceMul, Nat.reduceEqDiff, Nat.reduceLT, Nat.reduceLeDiff, eq_false c5, eq_false c7, eq_true c40, natOf_le hx41a, hx41b, eq_true c42]
      subst hK
      refine AW.ifBT rfl rfl ?_
      obtain ⟨x43, hx43, h⟩ := Option.bind_eq_some_iff.1 h
      refine AW.regL [8] ?_
      generalize hK : AW Try.prog _ _ _ = K
      simp only [go_sem, ↓reduceIte, reduceCtorEq, Nat.reduceAdd, Nat.reduceSub, Nat.reduceMul, Nat.reduceEqDiff, Nat.reduceLT, Nat.reduceLeDiff, eq_false c5, eq_false c7, eq_true c40, eq_true c42]
      refine arC.of (ok5  x43 hx43) Try.call5 ?_
      simp only [go_sem, ↓reduceIte, reduceCtorEq, Nat.reduceAdd, Nat.reduceSub, Nat.reduceMul, Nat.reduceEqDiff, Nat.reduceLT, Nat.reduceLeDiff, eq_false c5, eq_false c7, eq_true c40, eq_true c42]
      subst hK
      refine AW.ret ?_
      refine block_r ?_
      refine thenA_r ?_
      refine thenA_r ?_
      refine ⟨_, (Option.some.inj h).symm, _, Ent.refl, rfl, ?_⟩
      (simp only [go_sem, ↓reduceIte, reduceCtorEq, Nat.reduceAdd, Nat.reduceSub, Nat.reduceMul, Nat.reduceEqDiff, Nat.reduceLT, Nat.reduceLeDiff, eq_false c5, eq_false c7, eq_true c40, eq_true c42, finA] <;> try simp)
     ·rw [if_neg c42] at h
      refine AW.regdL [0, 1, 2, 3, 9, 50] [[], [], [0, 1], [0, 1, 2], [0, 1, 2, 3], [0, 1, 2, 3, 4], [0, 1, 2, 3, 4, 5], [0, 1, 2, 3, 4, 5, 6], [0, 1, 2, 3, 4, 5, 6, 7], [0, 1, 2, 3, 4, 5, 6, 7], [0, 1, 2, 3, 4, 5, 6, 7, 8, 9], [0, 1, 2, 3, 4, 5, 6, 7, 8, 9, 10], [0, 1, 2, 3, 4, 5, 6, 7, 8, 9, 10, 11], [0, 1, 2, 3, 4, 5, 6, 7, 8, 9, 10, 11, 12], [0, 1, 2, 3, 4, 5, 6, 7], [0, 1, 2, 3, 4, 5, 6, 7], [0, 1, 2, 3, 4, 5, 6, 7, 14, 15], [0, 1, 2, 3, 4, 5, 6, 7, 14, 15, 16], [0, 1, 2, 3, 4, 5, 6, 7, 14, 15, 16, 17], [0, 1, 2, 3, 4, 5, 6, 7, 14, 15, 16, 17, 18], [0, 1, 2, 3, 4, 5, 6, 7, 8, 9, 10, 11, 12, 13, 14, 15, 16, 17, 18, 19], [0, 1, 2, 3, 4, 5, 6, 7, 8, 9, 10, 11, 12, 13, 14, 15, 16, 17, 18, 19, 20], [0, 1, 2, 3, 4, 5, 6, 7, 8, 9, 10, 11, 12, 13, 14, 15, 16, 17, 18, 19, 20, 21]] [0, 1, 2, 3, 4, 5, 6, 7, 8, 9, 10, 11, 12, 13, 14, 15, 16, 17, 18, 19, 20, 21, 22] noFt (fun _ _ _ h => by simp [noFt] at h) draws (by kernel_rfl) (by kernel_rfl) ?_
      generalize hK : AW Try.prog _ _ _ = K
      simp only [go_sem, ↓reduceIte, reduceCtorEq, Nat.reduceAdd, Nat.reduceSub, Nat.reduceMul, Nat.reduceEqDiff, Nat.reduceLT, Nat.reduceLeDiff, eq_false c5, eq_false c7, eq_true c40, natOf_le hx41a, hx41b, eq_false c42]
      subst hK
      by_cases c44 : 200 < (IntKind.i64.wrap ((x41.Key.size : Int) + (x41.Val.size : Int)))
      ·rw [if_pos c44] at h
       refine AW.ifT rfl c44 ?_
       obtain ⟨x45, hx45, h⟩ := Option.bind_eq_some_iff.1 h
       refine AW.regL [8] ?_
       generalize hK : AW Try.prog _ _ _ = K
       simp only [go_sem, ↓reduceIte, reduceCtorEq, Nat.reduceAdd, Nat.reduceSub, Nat.reduceMul, Nat.reduceEqDiff, Nat.reduceLT, Nat.reduceLeDiff, eq_false c5, eq_false c7, eq_true c40, eq_false c42, eq_true c44]
       refine arC.of (ok5  x45 hx45) Try.call5 ?_
       simp only [go_sem, ↓reduceIte, reduceCtorEq, Nat.reduceAdd, Nat.reduceSub, Nat.reduceMul, Nat.reduceEqDiff, Nat.reduceLT, Nat.reduceLeDiff, eq_false c5, eq_false c7, eq_true c40, eq_false c42, eq_true c44]
       subst hK
       refine AW.ret ?_
       refine block_r ?_
       refine thenA_r ?_
       refine thenA_r ?_
       refine ⟨_, (Option.some.inj h).symm, _, Ent.refl, rfl, ?_⟩
       (simp only [go_sem, ↓reduceIte, reduceCtorEq, Nat.reduceAdd, Nat.reduceSub, Nat.reduceMul, Nat.reduceEqDiff, Nat.reduceLT, Nat.reduceLeDiff, eq_false c5, eq_false c7, eq_true c40, eq_false c42, eq_true c44, finA] <;> try simp)
      ·rw [if_neg c44] at h
       refine AW.ifF rfl c44 ?_
       refine AW.skip ?_
       refine block_n ?_
       refine thenA_n ?_
       refine AW.regionL [0, 1, 2, 3, 9] ?_
       generalize hK : thenA _ _ Exit.normal = K
       simp only [go_sem, ↓reduceIte, reduceCtorEq, Nat.reduceAdd, Nat.reduceSub, Nat.reduceMul, Nat.reduceEqDiff, Nat.reduceLT, Nat.reduceLeDiff, eq_false c5, eq_false c7, eq_true c40, eq_false c42, eq_false c44]
       subst hK
       refine thenA_n ?_
       refine ⟨_, (Option.some.inj h).symm, ?_⟩
       refine Ent.can [] _ _ _ rfl (by first | decide | simp) rfl ?_ ?_ ?_
       · exact (((((RF.any.pv (by first | rfl | simp only [go_sem]) (by first | rfl | simp [upd_ap, hpL_ap, tau, mapT, mapTL, bytesI_len, eq_false c5, eq_false c7, eq_true c40, eq_false c42, eq_false c44])).pv (by first | rfl | simp only [go_sem]) (by first | rfl | simp [upd_ap, hpL_ap, tau, mapT, mapTL, bytesI_len, eq_false c5, eq_false c7, eq_true c40, eq_false c42, eq_false c44])).pv (by first | rfl | simp only [go_sem]) (by first | rfl | simp [upd_ap, hpL_ap, tau, mapT, mapTL, bytesI_len, eq_false c5, eq_false c7, eq_true c40, eq_false c42, eq_false c44])).pv (by first | rfl | simp only [go_sem]) (by first | rfl | simp [upd_ap, hpL_ap, tau, mapT, mapTL, bytesI_len, eq_false c5, eq_false c7, eq_true c40, eq_false c42, eq_false c44])).pv (by first | rfl | simp only [go_sem]) (by first | rfl | simp [upd_ap, hpL_ap, tau, mapT, mapTL, bytesI_len, eq_false c5, eq_false c7, eq_true c40, eq_false c42, eq_false c44]))
       · exact .nil _
       · exact .nil _
    ·rw [if_neg c40] at h
     refine AW.ifF rfl c40 ?_
     refine AW.exit ?_
     refine thenA_x ?_
     refine thenA_x ?_
     refine ⟨_, (Option.some.inj h).symm, _, ?_, rfl, rfl⟩
     refine Ent.can [] _ _ _ rfl (by first | decide | simp) rfl ?_ ?_ ?_
     · exact ((((RF.any.pv (by first | rfl | simp only [go_sem]) (by first | rfl | simp [upd_ap, hpL_ap, tau, mapT, mapTL, bytesI_len, eq_false c5, eq_false c7, eq_false c40])).pv (by first | rfl | simp only [go_sem]) (by first | rfl | simp [upd_ap, hpL_ap, tau, mapT, mapTL, bytesI_len, eq_false c5, eq_false c7, eq_false c40])).pv (by first | rfl | simp only [go_sem]) (by first | rfl | simp [upd_ap, hpL_ap, tau, mapT, mapTL, bytesI_len, eq_false c5, eq_false c7, eq_false c40])).pv (by first | rfl | simp only [go_sem]) (by first | rfl | simp [upd_ap, hpL_ap, tau, mapT, mapTL, bytesI_len, eq_false c5, eq_false c7, eq_false c40]))
     · exact .nil _
     · exact .nil _
   ·intro e st' hX
    rcases y46 with y47 | _ <;> dsimp only at h hX
    ·obtain ⟨rfl, hf⟩ := hX
     refine ⟨_, Ent.refl, ?_⟩
     refine block_r ?_
     refine thenA_r ?_
     obtain rfl := Option.some.inj h
     exact hf
    ·obtain ⟨rfl, rfl⟩ := hX
     refine ⟨_, Ent.refl, ?_⟩
     refine block_x ?_
     refine thenA_n ?_
     obtain ⟨x48, hx48, h⟩ := Option.bind_eq_some_iff.1 h
     refine AW.regL [0, 1, 2, 10] ?_
     generalize hK : AW Try.prog _ _ _ = K
     simp only [go_sem, ↓reduceIte, reduceCtorEq, Nat.reduceAdd, Nat.reduceSub, Nat.reduceMul, Nat.reduceEqDiff, Nat.reduceLT, Nat.reduceLeDiff, eq_false c5, eq_false c7]
     refine arC.of (ok6 a3 x48 hx48) Try.call6 ?_
     simp only [go_sem, ↓reduceIte, reduceCtorEq, Nat.reduceAdd, Nat.reduceSub, Nat.reduceMul, Nat.reduceEqDiff, Nat.reduceLT, Nat.reduceLeDiff, eq_false c5, eq_false c7]
     subst hK
     obtain ⟨x49, hx49, h⟩ := Option.bind_eq_some_iff.1 h
     obtain ⟨x50, hx50, h⟩ := Option.bind_eq_some_iff.1 h
     obtain ⟨x51, hx51, h⟩ := Option.bind_eq_some_iff.1 h
     by_cases c52 : x51 = true
     ·rw [if_pos c52] at h
      obtain ⟨x53, hx53, h⟩ := Option.bind_eq_some_iff.1 h
      obtain ⟨x54, hx54, h⟩ := Option.bind_eq_some_iff.1 h
      obtain ⟨x55, hx55, h⟩ := Option.bind_eq_some_iff.1 h
      by_cases c56 : x55 = true
      ·rw [if_pos c56] at h
       obtain ⟨x57, hx57, h⟩ := Option.bind_eq_some_iff.1 h
       obtain ⟨x58, hx58, h⟩ := Option.bind_eq_some_iff.1 h
       obtain ⟨x59, hx59, h⟩ := Option.bind_eq_some_iff.1 h
       by_cases c60 : x59 = true
       ·rw [if_pos c60] at h
        obtain ⟨x61, hx61, h⟩ := Option.bind_eq_some_iff.1 h
        refine AW.regL [8] ?_
        generalize hK : AW Try.prog _ _ _ = K
        simp only [go_sem, ↓reduceIte, reduceCtorEq, Nat.reduceAdd, Nat.reduceSub, Nat.reduceMul, Nat.reduceEqDiff, Nat.reduceLT, Nat.reduceLeDiff, eq_false c5, eq_false c7, c52, c56, c60]
        refine arC.of (ok8 a0 a1 x49 hx49) Try.call8 ?_
        simp only [go_sem, ↓reduceIte, reduceCtorEq, Nat.reduceAdd, Nat.reduceSub, Nat.reduceMul, Nat.reduceEqDiff, Nat.reduceLT, Nat.reduceLeDiff, eq_false c5, eq_false c7, c52, c56, c60]
        refine arC.of (ok9 a0 a1 x50 hx50) Try.call9 ?_
        simp only [go_sem, ↓reduceIte, reduceCtorEq, Nat.reduceAdd, Nat.reduceSub, Nat.reduceMul, Nat.reduceEqDiff, Nat.reduceLT, Nat.reduceLeDiff, eq_false c5, eq_false c7, c52, c56, c60]
        refine arC.of (ok7 x49 x50 x51 hx51) Try.call7 ?_
        simp only [go_sem, ↓reduceIte, reduceCtorEq, Nat.reduceAdd, Nat.reduceSub, Nat.reduceMul, Nat.reduceEqDiff, Nat.reduceLT, Nat.reduceLeDiff, eq_false c5, eq_false c7, c52, c56, c60]
        refine arC.of (ok11 a0 a2 x53 hx53) Try.call11 ?_
        simp only [go_sem, ↓reduceIte, reduceCtorEq, Nat.reduceAdd, Nat.reduceSub, Nat.reduceMul, Nat.reduceEqDiff, Nat.reduceLT, Nat.reduceLeDiff, eq_false c5, eq_false c7, c52, c56, c60]
        refine arC.of (ok12 a0 a2 x54 hx54) Try.call12 ?_
        simp only [go_sem, ↓reduceIte, reduceCtorEq, Nat.reduceAdd, Nat.reduceSub, Nat.reduceMul, Nat.reduceEqDiff, Nat.reduceLT, Nat.reduceLeDiff, eq_false c5, eq_false c7, c52, c56, c60]
        refine arC.of (ok10 x53 x54 x55 hx55) Try.call10 ?_
        simp only [go_sem, ↓reduceIte, reduceCtorEq, Nat.reduceAdd, Nat.reduceSub, Nat.reduceMul, Nat.reduceEqDiff, Nat.reduceLT, Nat.reduceLeDiff, eq_false c5, eq_false c7, c52, c56, c60]
        refine arC.of (ok13 a0 x48.1 x57 hx57) Try.call13 ?_
        simp only [go_sem, ↓reduceIte, reduceCtorEq, Nat.reduceAdd, Nat.reduceSub, Nat.reduceMul, Nat.reduceEqDiff, Nat.reduceLT, Nat.reduceLeDiff, eq_false c5, eq_false c7, c52, c56, c60]
        refine arC.of (ok14 a0 x48.1 x58 hx58) Try.call14 ?_
        simp only [go_sem, ↓reduceIte, reduceCtorEq, Nat.reduceAdd, Nat.reduceSub, Nat.reduceMul, Nat.reduceEqDiff, Nat.reduceLT, Nat.reduceLeDiff, eq_false c5, eq_false c7, c52, c56, c60]
        refine arC.of (ok10 x57 x58 x59 hx59) Try.call10 ?_
        simp only [go_sem, ↓reduceIte, reduceCtorEq, Nat.reduceAdd, Nat.reduceSub, Nat.reduceMul, Nat.reduceEqDiff, Nat.reduceLT, Nat.reduceLeDiff, eq_false c5, eq_false c7, c52, c56, c60]
        refine arC.of (ok5  x61 hx61) Try.call5 ?_
        simp only [go_sem, ↓reduceIte, reduceCtorEq, Nat.reduceAdd, Nat.reduceSub, Nat.reduceMul, Nat.reduceEqDiff, Nat.reduceLT, Nat.reduceLeDiff, eq_false c5, eq_false c7, c52, c56, c60]
        subst hK
        refine AW.ret ?_
        obtain rfl := Option.some.inj h
        (simp only [go_sem, ↓reduceIte, reduceCtorEq, Nat.reduceAdd, Nat.reduceSub, Nat.reduceMul, Nat.reduceEqDiff, Nat.reduceLT, Nat.reduceLeDiff, eq_false c5, eq_false c7, c52, c56, c60, finA] <;> try simp)
       ·rw [if_neg c60] at h
        rw [Bool.not_eq_true] at c60
        refine AW.regL [8] ?_
        generalize hK : AW Try.prog _ _ _ = K
        simp only [go_sem, ↓reduceIte, reduceCtorEq, Nat.reduceAdd, Nat.reduceSub, Nat.reduceMul, Nat.reduceEqDiff, Nat.reduceLT, Nat.reduceLeDiff, eq_false c5, eq_false c7, c52, c56, c60]
        refine arC.of (ok8 a0 a1 x49 hx49) Try.call8 ?_
        simp only [go_sem, ↓reduceIte, reduceCtorEq, Nat.reduceAdd, Nat.reduceSub, Nat.reduceMul, Nat.reduceEqDiff, Nat.reduceLT, Nat.reduceLeDiff, eq_false c5, eq_false c7, c52, c56, c60]
        refine arC.of (ok9 a0 a1 x50 hx50) Try.call9 ?_
        simp only [go_sem, ↓reduceIte, reduceCtorEq, Nat.reduceAdd, Nat.reduceSub, Nat.reduceMul, Nat.reduceEqDiff, Nat.reduceLT, Nat.reduceLeDiff, eq_false c5, eq_false c7, c52, c56, c60]
        refine arC.of (ok7 x49 x50 x51 hx51) Try.call7 ?_
        simp only [go_sem, ↓reduceIte, reduceCtorEq, Nat.reduceAdd, Nat.reduceSub, Nat.reduceMul, Nat.reduceEqDiff, Nat.reduceLT, Nat.reduceLeDiff, eq_false c5, eq_false c7, c52, c56, c60]
        refine arC.of (ok11 a0 a2 x53 hx53) Try.call11 ?_
        simp only [go_sem, ↓reduceIte, reduceCtorEq, Nat.reduceAdd, Nat.reduceSub, Nat.reduceMul, Nat.reduceEqDiff, Nat.reduceLT, Nat.reduceLeDiff, eq_false c5, eq_false c7, c52, c56, c60]
        refine arC.of (ok12 a0 a2 x54 hx54) Try.call12 ?_
        simp only [go_sem, ↓reduceIte, reduceCtorEq, Nat.reduceAdd, Nat.reduceSub, Nat.reduceMul, Nat.reduceEqDiff, Nat.reduceLT, Nat.reduceLeDiff, eq_false c5, eq_false c7, c52, c56, c60]
        refine arC.of (ok10 x53 x54 x55 hx55) Try.call10 ?_
        simp only [go_sem, ↓reduceIte, reduceCtorEq, Nat.reduceAdd, Nat.reduceSub, Nat.reduceMul, Nat.reduceEqDiff, Nat.reduceLT, Nat.reduceLeDiff, eq_false c5, eq_false c7, c52, c56, c60]
        refine arC.of (ok13 a0 x48.1 x57 hx57) Try.call13 ?_
        simp only [go_sem, ↓reduceIte, reduceCtorEq, Nat.reduceAdd, Nat.reduceSub, Nat.reduceMul, Nat.reduceEqDiff, Nat.reduceLT, Nat.reduceLeDiff, eq_false c5, eq_false c7, c52, c56, c60]
        refine arC.of (ok14 a0 x48.1 x58 hx58) Try.call14 ?_
        simp only [go_sem, ↓reduceIte, reduceCtorEq, Nat.reduceAdd, Nat.reduceSub, Nat.reduceMul, Nat.reduceEqDiff, Nat.reduceLT, Nat.reduceLeDiff, eq_false c5, eq_false c7, c52, c56, c60]
        refine arC.of (ok10 x57 x58 x59 hx59) Try.call10 ?_
        simp only [go_sem, ↓reduceIte, reduceCtorEq, Nat.reduceAdd, Nat.reduceSub, Nat.reduceMul, Nat.reduceEqDiff, Nat.reduceLT, Nat.reduceLeDiff, eq_false c5, eq_false c7, c52, c56, c60]
        subst hK
        refine AW.ret ?_
        obtain rfl := Option.some.inj h
        (simp only [go_sem, ↓reduceIte, reduceCtorEq, Nat.reduceAdd, Nat.reduceSub, Nat.reduceMul, Nat.reduceEqDiff, Nat.reduceLT, Nat.reduceLeDiff, eq_false c5, eq_false c7, c52, c56, c60, finA] <;> try simp)
      ·rw [if_neg c56] at h
       rw [Bool.not_eq_true] at c56
       refine AW.regL [8] ?_
       generalize hK : AW Try.prog _ _ _ = K
       simp only [go_sem, ↓reduceIte, reduceCtorEq, Nat.reduceAdd, Nat.reduceSub, Nat.reduceMul, Nat.reduceEqDiff, Nat.reduceLT, Nat.reduceLeDiff, eq_false c5, eq_false c7, c52, c56]
       refine arC.of (ok8 a0 a1 x49 hx49) Try.call8 ?_
       simp only [go_sem, ↓reduceIte, reduceCtorEq, Nat.reduceAdd, Nat.reduceSub, Nat.reduceMul, Nat.reduceEqDiff, Nat.reduceLT, Nat.reduceLeDiff, eq_false c5, eq_false c7, c52, c56]
       refine arC.of (ok9 a0 a1 x50 hx50) Try.call9 ?_
       simp only [go_sem, ↓reduceIte, reduceCtorEq, Nat.reduceAdd, Nat.reduceSub, Nat.reduceMul, Nat.reduceEqDiff, Nat.reduceLT, Nat.reduceLeDiff, eq_false c5, eq_false c7, c52, c56]
       refine arC.of (ok7 x49 x50 x51 hx51) Try.call7 ?_
       simp only [go_sem, ↓reduceIte, reduceCtorEq, Nat.reduceAdd, Nat.reduceSub, Nat.reduceMul, Nat.reduceEqDiff, Nat.reduceLT, Nat.reduceLeDiff, eq_false c5, eq_false c7, c52, c56]
       refine arC.of (ok11 a0 a2 x53 hx53) Try.call11 ?_
       simp only [go_sem, ↓reduceIte, reduceCtorEq, Nat.reduceAdd, Nat.reduceSub, Nat.reduceMul, Nat.reduceEqDiff, Nat.reduceLT, Nat.reduceLeDiff, eq_false c5, eq_false c7, c52, c56]
       refine arC.of (ok12 a0 a2 x54 hx54) Try.call12 ?_
       simp only [go_sem, ↓reduceIte, reduceCtorEq, Nat.reduceAdd, Nat.reduceSub, Nat.reduceMul, Nat.reduceEqDiff, Nat.reduceLT, Nat.reduceLeDiff, eq_false c5, eq_false c7, c52, c56]
       refine arC.of (ok10 x53 x54 x55 hx55) Try.call10 ?_
       simp only [go_sem, ↓reduceIte, reduceCtorEq, Nat.reduceAdd, Nat.reduceSub, Nat.reduceMul, Nat.reduceEqDiff, Nat.reduceLT, Nat.reduceLeDiff, eq_false c5, eq_false c7, c52, c56]
       subst hK
       refine AW.ret ?_
       obtain rfl := Option.some.inj h
       (simp only [go_sem, ↓reduceIte, reduceCtorEq, Nat.reduceAdd, Nat.reduceSub, Nat.reduceMul, Nat.reduceEqDiff, Nat.reduceLT, Nat.reduceLeDiff, eq_false c5, eq_false c7, c52, c56, finA] <;> try simp)
     ·rw [if_neg c52] at h
      rw [Bool.not_eq_true] at c52
      refine AW.regL [8] ?_
      generalize hK : AW Try.prog _ _ _ = K
      simp only [go_sem, ↓reduceIte, reduceCtorEq, Nat.reduceAdd, Nat.reduceSub, Nat.reduceMul, Nat.reduceEqDiff, Nat.reduceLT, Nat.reduceLeDiff, eq_false c5, eq_false c7, c52]
      refine arC.of (ok8 a0 a1 x49 hx49) Try.call8 ?_
      simp only [go_sem, ↓reduceIte, reduceCtorEq, Nat.reduceAdd, Nat.reduceSub, Nat.reduceMul, Nat.reduceEqDiff, Nat.reduceLT, Nat.reduceLeDiff, eq_false c5, eq_false c7, c52]
      refine arC.of (ok9 a0 a1 x50 hx50) Try.call9 ?_
      simp only [go_sem, ↓reduceIte, reduceCtorEq, Nat.reduceAdd, Nat.reduceSub, Nat.reduceMul, Nat.reduceEqDiff, Nat.reduceLT, Nat.reduceLeDiff, eq_false c5, eq_false c7, c52]
      refine arC.of (ok7 x49 x50 x51 hx51) Try.call7 ?_
      simp only [go_sem, ↓reduceIte, reduceCtorEq, Nat.reduceAdd, Nat.reduceSub, Nat.reduceMul, Nat.reduceEqDiff, Nat.reduceLT, Nat.reduceLeDiff, eq_false c5, eq_false c7, c52]
      subst hK
      refine AW.ret ?_
      obtain rfl := Option.some.inj h
      (simp only [go_sem, ↓reduceIte, reduceCtorEq, Nat.reduceAdd, Nat.reduceSub, Nat.reduceMul, Nat.reduceEqDiff, Nat.reduceLT, Nat.reduceLeDiff, eq_false c5, eq_false c7, c52, finA] <;> try simp)
end Au
end Go.Proofs.Y2
