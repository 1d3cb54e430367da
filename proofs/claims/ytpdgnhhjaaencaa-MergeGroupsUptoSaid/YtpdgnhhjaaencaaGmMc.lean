import Derived.Test.YtpdgnhhjaaencaaGmDV
import Derived.Test.YtpdgnhhjaaencaaGmM6
import Derived.Test.YtpdgnhhjaaencaaGmM9
import Derived.Test.YtpdgnhhjaaencaaGmMb
set_option linter.all false
set_option linter.unusedVariables false
set_option linter.unusedSimpArgs false
set_option linter.all false
set_option maxRecDepth 8000
set_option maxHeartbeats 1000000
namespace Go.Proofs.Y5
open Go.Gm
namespace Au
/- by hand: Gm.GR -/
end Au
end Go.Proofs.Y5

set_option linter.all false
set_option maxRecDepth 8000
set_option maxHeartbeats 1000000
namespace Go.Proofs.Y5
open Go.Gm
namespace Au
noncomputable def f4_s4 (x7 : List (List Item)) (s1_1 : Int) : Int → Option (Int ⊕ (Bool ⊕ Unit))
  | s4_0 => ((ix x7 s1_1).bind fun x83 => (if s4_0 < (x83.length : Int) then ((ix x83 s4_0).bind fun x85 => ((x83[0]?).bind fun x86 => (if x85.Key = x86.Key then some (.inl (IntKind.i64.wrap (s4_0 + 1))) else some (.inr (.inl false))))) else some (.inr (.inr ()))))
noncomputable def f4_j2 (x7 : List (List Item)) (s1_0 : List Item) (s1_1 : Int) : Unit → Option (((List Item) × Int) ⊕ (Bool ⊕ (List Item)))
  | _ => ((loopO (f4_s4 x7 s1_1) 0).bind fun y88 => match y88 with | .inl y89 => some (.inr (.inl y89)) | .inr _ => ((ix x7 s1_1).bind fun x90 => ((appO? s1_0 x90).bind fun x91 => some (.inl (x91, IntKind.i64.wrap (s1_1 + 1))))))
noncomputable def f4_s1 (x7 : List (List Item)) : (List Item) × Int → Option (((List Item) × Int) ⊕ (Bool ⊕ (List Item)))
  | (s1_0, s1_1) => (if s1_1 < ((x7.length : Nat) : Int) then ((ix x7 s1_1).bind fun x92 => (if (x92.length : Int) = 0 then some (.inr (.inl false)) else (if 0 < s1_1 then ((ix x7 (IntKind.i64.wrap (s1_1 - 1))).bind fun x95 => ((x95[0]?).bind fun x96 => ((x92[0]?).bind fun x97 => (if x96.Key = x97.Key then some (.inr (.inl false)) else f4_j2 x7 s1_0 s1_1 ())))) else f4_j2 x7 s1_0 s1_1 ()))) else some (.inr (.inr s1_0)))
noncomputable def f4 (a0 : List Item) : Option Bool := ((f5 a0).bind fun x4 => (if x4 = true then ((f7 ).bind fun x6 => some x6) else ((f11 a0).bind fun x7 => ((loopO (f4_s1 x7) ([], 0)).bind fun y99 => match y99 with | .inl y100 => some y100 | .inr y101 => ((f8 y101 a0).bind fun x102 => (if x102 = true then ((f7 ).bind fun x104 => some x104) else some false))))))
theorem ok4 (a0 : List Item) (r : Bool) (h : f4 a0 = some r) : PC Try.prog 4 [.sl (List.map encItem a0)] (.val (.bool r)) := by
 rw [f4] at h
 refine pc_of8 (N := 83) (rs := [.tmp 2]) Try.func4 rfl rfl rfl (Nat.le_of_ble_eq_true rfl) ?_
 refine AW.regL [0] ?_
 generalize hK : AW Try.prog _ _ _ = K
 simp only [go_sem, ↓reduceIte, reduceCtorEq, Nat.reduceAdd, Nat.reduceSub, Nat.reduceMul, Nat.reduceEqDiff, Nat.reduceLT, Nat.reduceLeDiff]
 subst hK
 refine AW.seq ?_
 obtain ⟨x4, hx4, h⟩ := Option.bind_eq_some_iff.1 h
 refine AW.regL [0, 8] ?_
 generalize hK : AW Try.prog _ _ _ = K
 simp only [go_sem, ↓reduceIte, reduceCtorEq, Nat.reduceAdd, Nat.reduceSub, Nat.reduceMul, Nat.reduceEqDiff, Nat.reduceLT, Nat.reduceLeDiff]
 refine arC.of (ok5 a0 x4 hx4) Try.call5 ?_
 simp only [go_sem, ↓reduceIte, reduceCtorEq, Nat.reduceAdd, Nat.reduceSub, Nat.reduceMul, Nat.reduceEqDiff, Nat.reduceLT, Nat.reduceLeDiff]
 subst hK
 by_cases c5 : x4 = true
 ·rw [if_pos c5] at h
  refine AW.ifBT rfl c5 ?_
  obtain ⟨x6, hx6, h⟩ := Option.bind_eq_some_iff.1 h
  refine AW.regL [2] ?_
  generalize hK : AW Try.prog _ _ _ = K
  simp only [go_sem, ↓reduceIte, reduceCtorEq, Nat.reduceAdd, Nat.reduceSub, Nat.reduceMul, Nat.reduceEqDiff, Nat.reduceLT, Nat.reduceLeDiff, c5]
  refine arC.of (ok7  x6 hx6) Try.call7 ?_
  simp only [go_sem, ↓reduceIte, reduceCtorEq, Nat.reduceAdd, Nat.reduceSub, Nat.reduceMul, Nat.reduceEqDiff, Nat.reduceLT, Nat.reduceLeDiff, c5]
  subst hK
  refine AW.ret ?_
  refine thenA_r ?_
  obtain rfl := Option.some.inj h
  (simp only [go_sem, ↓reduceIte, reduceCtorEq, Nat.reduceAdd, Nat.reduceSub, Nat.reduceMul, Nat.reduceEqDiff, Nat.reduceLT, Nat.reduceLeDiff, c5, finA] <;> try simp)
 ·rw [if_neg c5] at h
  rw [Bool.not_eq_true] at c5
  refine AW.ifBF rfl c5 ?_
  refine AW.skip ?_
  refine thenA_n ?_
  obtain ⟨x7, hx7, h⟩ := Option.bind_eq_some_iff.1 h
  refine AW.regL [0, 3] ?_
  generalize hK : AW Try.prog _ _ _ = K
  simp only [go_sem, ↓reduceIte, reduceCtorEq, Nat.reduceAdd, Nat.reduceSub, Nat.reduceMul, Nat.reduceEqDiff, Nat.reduceLT, Nat.reduceLeDiff, c5]
  refine arC.of (ok11 a0 x7 hx7) Try.call11 ?_
  simp only [go_sem, ↓reduceIte, reduceCtorEq, Nat.reduceAdd, Nat.reduceSub, Nat.reduceMul, Nat.reduceEqDiff, Nat.reduceLT, Nat.reduceLeDiff, c5]
  subst hK
  refine AW.regL [0, 3, 4] ?_
  generalize hK : AW Try.prog _ _ _ = K
  simp only [go_sem, ↓reduceIte, reduceCtorEq, Nat.reduceAdd, Nat.reduceSub, Nat.reduceMul, Nat.reduceEqDiff, Nat.reduceLT, Nat.reduceLeDiff, c5]
  subst hK
  refine AW.seq ?_
  refine AW.regL [0, 3, 4, 5] ?_
  generalize hK : AW Try.prog _ _ _ = K
  simp only [go_sem, ↓reduceIte, reduceCtorEq, Nat.reduceAdd, Nat.reduceSub, Nat.reduceMul, Nat.reduceEqDiff, Nat.reduceLT, Nat.reduceLeDiff, c5]
  subst hK
  refine AW.block ?_
  obtain ⟨y99, hy99, h⟩ := Option.bind_eq_some_iff.1 h
  refine AW.loopO (fun s => ⟨(upd (upd (upd (upd anyF 0 (.sl (List.map encItem a0))) 3 (.own 8 0 x7.length)) 4 (.own 9 0 s.1.length)) 5 (.val (.int .i64 s.2))), hpL [] [some (.row 1 true (List.map enc22 x7)), some (.row 3 true (List.map encItem s.1))], 10⟩) (fun y e st' => match y with | .inl z => e = Exit.ret ∧ finA Try.prog [.tmp 2] (.val (.bool z)) .ret st' | .inr z => e = Exit.exit 0 ∧ st' = ⟨(upd (upd anyF 0 (.sl (List.map encItem a0))) 4 (.own 8 0 z.length)), hpL [] [some (.row 3 true (List.map encItem z))], 9⟩) hy99 ?_ ?_ ?_
  ·refine Ent.trans (Ent.nilOwn 4 3 (by decide) rfl) ?_
   refine Ent.can [40, 72] _ _ _ rfl (by first | decide | simp) rfl ?_ ?_ ?_
   · exact ((((RF.any.pv (by first | rfl | simp only [go_sem]) (by first | rfl | simp [upd_ap, hpL_ap, tau, mapT, mapTL, bytesI_len, c5])).po (by decide) (by first | rfl | simp [upd_ap, hpL_ap, tau, mapT, mapTL, bytesI_len, c5])).po (by decide) (by first | rfl | simp [upd_ap, hpL_ap, tau, mapT, mapTL, bytesI_len, c5])).pv (by first | rfl | simp only [go_sem]) (by first | rfl | simp [upd_ap, hpL_ap, tau, mapT, mapTL, bytesI_len, c5]))
   · exact .nil _
   · exact .cons (.eq (by first | rfl | simp only [go_sem]) (by first | rfl | simp [upd_ap, hpL_ap, tau, mapT, mapTL, bytesI_len, c5])) (.cons (.eq (by first | rfl | simp only [go_sem]) (by first | rfl | simp [upd_ap, hpL_ap, tau, mapT, mapTL, bytesI_len, c5])) (.nil _))
  ·clear h hy99
   rintro ⟨s1_0, s1_1⟩ x h
   rw [f4_s1] at h
   refine AW.seq ?_
   refine AW.regL [0, 3, 4, 5, 15] ?_
   generalize hK : AW Try.prog _ _ _ = K
   simp only [go_sem, ↓reduceIte, reduceCtorEq, Nat.reduceAdd, Nat.reduceSub, Nat.reduceMul, Nat.reduceEqDiff, Nat.reduceLT, Nat.reduceLeDiff, c5]
   subst hK
   by_cases c60 : s1_1 < ((x7.length : Nat) : Int)
   ·rw [if_pos c60] at h
    refine AW.ifT rfl c60 ?_
    refine AW.skip ?_
    refine thenA_n ?_
    refine AW.seq ?_
    refine AW.block ?_
    refine AW.join (fun s => ⟨(upd (upd (upd (upd anyF 0 (.sl (List.map encItem a0))) 3 (.own 8 0 x7.length)) 4 (.own 9 0 s1_0.length)) 5 (.val (.int .i64 s1_1))), hpL [] [some (.row 1 true (List.map enc22 x7)), some (.row 3 true (List.map encItem s1_0))], 10⟩) (fun s => f4_j2 x7 s1_0 s1_1 s = some x) ?_ ?_
    ·obtain ⟨x92, hx92, h⟩ := Option.bind_eq_some_iff.1 h
     obtain ⟨hx92a, hx92b⟩ := ix_some.1 hx92
     by_cases c93 : (x92.length : Int) = 0
     ·rw [if_pos c93] at h
      refine AW.regdL [0, 3, 4, 5, 45] [[], [], [0, 1], [0, 1, 2], [0, 1, 2, 3], [0, 1, 2, 3, 4], [0, 1, 2, 3, 4, 5], [0, 1, 2, 3, 4, 5, 6], [0, 1, 2, 3, 4, 5, 6, 7], [0, 1, 2, 3, 4, 5, 6, 7, 8], [0, 1, 2, 3, 4, 5, 6, 7, 8, 9], [0, 1, 2, 3, 4, 5, 6, 7, 8, 9], [0, 1, 2, 3, 4, 5, 6, 7, 8, 9, 11], [0, 1, 2, 3, 4, 5, 6, 7, 8, 9, 10, 11, 12], [0, 1, 2, 3, 4, 5, 6, 7, 8, 9, 10, 11, 12, 13], [0, 1, 2, 3, 4, 5, 6, 7, 8, 9, 10, 11, 12, 13, 14], [0, 1, 2, 3, 4, 5, 6, 7, 8, 9, 10, 11, 12, 13, 14, 15], [0, 1, 2, 3, 4, 5, 6, 7, 8, 9, 10, 11, 12, 13, 14, 15, 16], [0, 1, 2, 3, 4, 5, 6, 7, 8, 9], [0, 1, 2, 3, 4, 5, 6, 7, 8, 9], [0, 1, 2, 3, 4, 5, 6, 7, 8, 9, 18, 19], [0, 1, 2, 3, 4, 5, 6, 7, 8, 9, 18, 19, 20], [0, 1, 2, 3, 4, 5, 6, 7, 8, 9, 18, 19, 20, 21], [0, 1, 2, 3, 4, 5, 6, 7, 8, 9, 18, 19, 20, 21, 22], [0, 1, 2, 3, 4, 5, 6, 7, 8, 9, 18, 19, 20, 21, 22, 23], [0, 1, 2, 3, 4, 5, 6, 7, 8, 9, 10, 11, 12, 13, 14, 15, 16, 17, 18, 19, 20, 21, 22, 23, 24], [0, 1, 2, 3, 4, 5, 6, 7, 8, 9, 10, 11, 12, 13, 14, 15, 16, 17, 18, 19, 20, 21, 22, 23, 24, 25], [0, 1, 2, 3, 4, 5, 6, 7, 8, 9, 10, 11, 12, 13, 14, 15, 16, 17, 18, 19, 20, 21, 22, 23, 24, 25, 26]] [0, 1, 2, 3, 4, 5, 6, 7, 8, 9, 10, 11, 12, 13, 14, 15, 16, 17, 18, 19, 20, 21, 22, 23, 24, 25, 26, 27] noFt (fun _ _ _ h => by simp [noFt] at h) draws (by kernel_rfl) (by kernel_rfl) ?_
      generalize hK : AW Try.prog _ _ _ = K
      simp only [go_sem, ↓reduceIte, reduceCtorEq, Nat.reduceAdd, Nat.reduceSub, Nat.reduceMul, Nat.reduceEqDiff, Nat.reduceLT, Nat.reduceLeDiff, c5, eq_true c60, natOf_le hx92a, hx92b, ix_lt hx92b, eq_true c93]
      subst hK
      refine AW.ifBT rfl rfl ?_
      refine AW.regL [2] ?_
      generalize hK : AW Try.prog _ _ _ = K
      simp only [go_sem, ↓reduceIte, reduceCtorEq, Nat.reduceAdd, Nat.reduceSub, Nat.reduceMul, Nat.reduceEqDiff, Nat.reduceLT, Nat.reduceLeDiff, c5, eq_true c60, eq_true c93]
      subst hK
      refine AW.ret ?_
      refine thenA_r ?_
      refine block_r ?_
      refine thenA_r ?_
      refine thenA_r ?_
      refine ⟨_, (Option.some.inj h).symm, _, Ent.refl, rfl, ?_⟩
      (simp only [go_sem, ↓reduceIte, reduceCtorEq, Nat.reduceAdd, Nat.reduceSub, Nat.reduceMul, Nat.reduceEqDiff, Nat.reduceLT, Nat.reduceLeDiff, c5, eq_true c60, eq_true c93, finA] <;> try simp)
     ·rw [if_neg c93] at h
      by_cases c94 : 0 < s1_1
      ·rw [if_pos c94] at h
       obtain ⟨x95, hx95, h⟩ := Option.bind_eq_some_iff.1 h
       obtain ⟨hx95a, hx95b⟩ := ix_some.1 hx95
       obtain ⟨x96, hx96, h⟩ := Option.bind_eq_some_iff.1 h
       obtain ⟨x97, hx97, h⟩ := Option.bind_eq_some_iff.1 h
       refine AW.regdL [0, 3, 4, 5, 45] [[], [], [0, 1], [0, 1, 2], [0, 1, 2, 3], [0, 1, 2, 3, 4], [0, 1, 2, 3, 4, 5], [0, 1, 2, 3, 4, 5, 6], [0, 1, 2, 3, 4, 5, 6, 7], [0, 1, 2, 3, 4, 5, 6, 7, 8], [0, 1, 2, 3, 4, 5, 6, 7, 8, 9], [0, 1, 2, 3, 4, 5, 6, 7, 8, 9], [0, 1, 2, 3, 4, 5, 6, 7, 8, 9, 11], [0, 1, 2, 3, 4, 5, 6, 7, 8, 9, 10, 11, 12], [0, 1, 2, 3, 4, 5, 6, 7, 8, 9, 10, 11, 12, 13], [0, 1, 2, 3, 4, 5, 6, 7, 8, 9, 10, 11, 12, 13, 14], [0, 1, 2, 3, 4, 5, 6, 7, 8, 9, 10, 11, 12, 13, 14, 15], [0, 1, 2, 3, 4, 5, 6, 7, 8, 9, 10, 11, 12, 13, 14, 15, 16], [0, 1, 2, 3, 4, 5, 6, 7, 8, 9], [0, 1, 2, 3, 4, 5, 6, 7, 8, 9], [0, 1, 2, 3, 4, 5, 6, 7, 8, 9, 18, 19], [0, 1, 2, 3, 4, 5, 6, 7, 8, 9, 18, 19, 20], [0, 1, 2, 3, 4, 5, 6, 7, 8, 9, 18, 19, 20, 21], [0, 1, 2, 3, 4, 5, 6, 7, 8, 9, 18, 19, 20, 21, 22], [0, 1, 2, 3, 4, 5, 6, 7, 8, 9, 18, 19, 20, 21, 22, 23], [0, 1, 2, 3, 4, 5, 6, 7, 8, 9, 10, 11, 12, 13, 14, 15, 16, 17, 18, 19, 20, 21, 22, 23, 24], [0, 1, 2, 3, 4, 5, 6, 7, 8, 9, 10, 11, 12, 13, 14, 15, 16, 17, 18, 19, 20, 21, 22, 23, 24, 25], [0, 1, 2, 3, 4, 5, 6, 7, 8, 9, 10, 11, 12, 13, 14, 15, 16, 17, 18, 19, 20, 21, 22, 23, 24, 25, 26]] [0, 1, 2, 3, 4, 5, 6, 7, 8, 9, 10, 11, 12, 13, 14, 15, 16, 17, 18, 19, 20, 21, 22, 23, 24, 25, 26, 27] noFt (fun _ _ _ h => by simp [noFt] at h) draws (by kernel_rfl) (by kernel_rfl) ?_
       generalize hK : AW Try.prog _ _ _ = K
       simp only [go_sem, ↓reduceIte, reduceCtorEq, Nat.reduceAdd, Nat.reduceSub, Nat.reduceMul, Nat.reduceEqDiff, Nat.reduceLT, Nat.reduceLeDiff, c5, eq_true c60, natOf_le hx92a, hx92b, ix_lt hx92b, eq_false c93, eq_true c94, natOf_le hx95a, hx95b, ix_lt hx95b, hx96, hx97]
       subst hK
       by_cases c98 : x96.Key = x97.Key
       ·rw [if_pos c98] at h
        refine AW.ifT rfl c98 ?_
        refine AW.regL [2] ?_
        generalize hK : AW Try.prog _ _ _ = K
        simp only [go_sem, ↓reduceIte, reduceCtorEq, Nat.reduceAdd, Nat.reduceSub, Nat.reduceMul, Nat.reduceEqDiff, Nat.reduceLT, Nat.reduceLeDiff, c5, eq_true c60, eq_false c93, eq_true c94, eq_true c98]
        subst hK
        refine AW.ret ?_
        refine thenA_r ?_
        refine block_r ?_
        refine thenA_r ?_
        refine thenA_r ?_
        refine ⟨_, (Option.some.inj h).symm, _, Ent.refl, rfl, ?_⟩
        (simp only [go_sem, ↓reduceIte, reduceCtorEq, Nat.reduceAdd, Nat.reduceSub, Nat.reduceMul, Nat.reduceEqDiff, Nat.reduceLT, Nat.reduceLeDiff, c5, eq_true c60, eq_false c93, eq_true c94, eq_true c98, finA] <;> try simp)
       ·rw [if_neg c98] at h
        refine AW.ifF rfl c98 ?_
        refine AW.skip ?_
        refine thenA_n ?_
        refine ⟨_, h, ?_⟩
        refine Ent.can [8, 9] _ _ _ rfl (by first | decide | simp) rfl ?_ ?_ ?_
        · exact ((((RF.any.pv (by first | rfl | simp only [go_sem]) (by first | rfl | simp [upd_ap, hpL_ap, tau, mapT, mapTL, bytesI_len, c5, eq_true c60, eq_false c93, eq_true c94, eq_false c98])).po (by decide) (by first | rfl | simp [upd_ap, hpL_ap, tau, mapT, mapTL, bytesI_len, c5, eq_true c60, eq_false c93, eq_true c94, eq_false c98])).po (by decide) (by first | rfl | simp [upd_ap, hpL_ap, tau, mapT, mapTL, bytesI_len, c5, eq_true c60, eq_false c93, eq_true c94, eq_false c98])).pv (by first | rfl | simp only [go_sem]) (by first | rfl | simp [upd_ap, hpL_ap, tau, mapT, mapTL, bytesI_len, c5, eq_true c60, eq_false c93, eq_true c94, eq_false c98]))
        · exact .nil _
        · exact .cons (.eq (by first | rfl | simp only [go_sem]) (by first | rfl | simp [upd_ap, hpL_ap, tau, mapT, mapTL, bytesI_len, c5, eq_true c60, eq_false c93, eq_true c94, eq_false c98])) (.cons (.eq (by first | rfl | simp only [go_sem]) (by first | rfl | simp [upd_ap, hpL_ap, tau, mapT, mapTL, bytesI_len, c5, eq_true c60, eq_false c93, eq_true c94, eq_false c98])) (.nil _))
      ·rw [if_neg c94] at h
       refine AW.regdL [0, 3, 4, 5, 45] [[], [], [0, 1], [0, 1, 2], [0, 1, 2, 3], [0, 1, 2, 3, 4], [0, 1, 2, 3, 4, 5], [0, 1, 2, 3, 4, 5, 6], [0, 1, 2, 3, 4, 5, 6, 7], [0, 1, 2, 3, 4, 5, 6, 7, 8], [0, 1, 2, 3, 4, 5, 6, 7, 8, 9], [0, 1, 2, 3, 4, 5, 6, 7, 8, 9], [0, 1, 2, 3, 4, 5, 6, 7, 8, 9, 11], [0, 1, 2, 3, 4, 5, 6, 7, 8, 9, 10, 11, 12], [0, 1, 2, 3, 4, 5, 6, 7, 8, 9, 10, 11, 12, 13], [0, 1, 2, 3, 4, 5, 6, 7, 8, 9, 10, 11, 12, 13, 14], [0, 1, 2, 3, 4, 5, 6, 7, 8, 9, 10, 11, 12, 13, 14, 15], [0, 1, 2, 3, 4, 5, 6, 7, 8, 9, 10, 11, 12, 13, 14, 15, 16], [0, 1, 2, 3, 4, 5, 6, 7, 8, 9], [0, 1, 2, 3, 4, 5, 6, 7, 8, 9], [0, 1, 2, 3, 4, 5, 6, 7, 8, 9, 18, 19], [0, 1, 2, 3, 4, 5, 6, 7, 8, 9, 18, 19, 20], [0, 1, 2, 3, 4, 5, 6, 7, 8, 9, 18, 19, 20, 21], [0, 1, 2, 3, 4, 5, 6, 7, 8, 9, 18, 19, 20, 21, 22], [0, 1, 2, 3, 4, 5, 6, 7, 8, 9, 18, 19, 20, 21, 22, 23], [0, 1, 2, 3, 4, 5, 6, 7, 8, 9, 10, 11, 12, 13, 14, 15, 16, 17, 18, 19, 20, 21, 22, 23, 24], [0, 1, 2, 3, 4, 5, 6, 7, 8, 9, 10, 11, 12, 13, 14, 15, 16, 17, 18, 19, 20, 21, 22, 23, 24, 25], [0, 1, 2, 3, 4, 5, 6, 7, 8, 9, 10, 11, 12, 13, 14, 15, 16, 17, 18, 19, 20, 21, 22, 23, 24, 25, 26]] [0, 1, 2, 3, 4, 5, 6, 7, 8, 9, 10, 11, 12, 13, 14, 15, 16, 17, 18, 19, 20, 21, 22, 23, 24, 25, 26, 27] noFt (fun _ _ _ h => by simp [noFt] at h) draws (by kernel_rfl) (by kernel_rfl) ?_
       generalize hK : AW Try.prog _ _ _ = K
       simp only [go_sem, ↓reduceIte, reduceCtorEq, Nat.reduceAdd, Nat.reduceSub, Nat.reduceMul, Nat.reduceEqDiff, Nat.reduceLT, Nat.reduceLeDiff, c5, eq_true c60, natOf_le hx92a, hx92b, ix_lt hx92b, eq_false c93, eq_false c94]
       subst hK
       refine AW.ifBF rfl rfl ?_
       refine AW.skip ?_
       refine thenA_n ?_
       refine ⟨_, h, ?_⟩
       refine Ent.can [8, 9] _ _ _ rfl (by first | decide | simp) rfl ?_ ?_ ?_
       · exact ((((RF.any.pv (by first | rfl | simp only [go_sem]) (by first | rfl | simp [upd_ap, hpL_ap, tau, mapT, mapTL, bytesI_len, c5, eq_true c60, eq_false c93, eq_false c94])).po (by decide) (by first | rfl | simp [upd_ap, hpL_ap, tau, mapT, mapTL, bytesI_len, c5, eq_true c60, eq_false c93, eq_false c94])).po (by decide) (by first | rfl | simp [upd_ap, hpL_ap, tau, mapT, mapTL, bytesI_len, c5, eq_true c60, eq_false c93, eq_false c94])).pv (by first | rfl | simp only [go_sem]) (by first | rfl | simp [upd_ap, hpL_ap, tau, mapT, mapTL, bytesI_len, c5, eq_true c60, eq_false c93, eq_false c94]))
       · exact .nil _
       · exact .cons (.eq (by first | rfl | simp only [go_sem]) (by first | rfl | simp [upd_ap, hpL_ap, tau, mapT, mapTL, bytesI_len, c5, eq_true c60, eq_false c93, eq_false c94])) (.cons (.eq (by first | rfl | simp only [go_sem]) (by first | rfl | simp [upd_ap, hpL_ap, tau, mapT, mapTL, bytesI_len, c5, eq_true c60, eq_false c93, eq_false c94])) (.nil _))
    ·clear h
     rintro ⟨⟩ h
     rw [f4_j2] at h
     refine AW.seq ?_
     refine AW.regL [0, 3, 4, 5, 6] ?_
     generalize hK : AW Try.prog _ _ _ = K
     simp only [go_sem, ↓reduceIte, reduceCtorEq, Nat.reduceAdd, Nat.reduceSub, Nat.reduceMul, Nat.reduceEqDiff, Nat.reduceLT, Nat.reduceLeDiff, c5, eq_true c60]
     subst hK
     refine AW.block ?_
     obtain ⟨y88, hy88, h⟩ := Option.bind_eq_some_iff.1 h
     refine AW.loopO (fun s => ⟨(upd (upd (upd (upd (upd anyF 0 (.sl (List.map encItem a0))) 3 (.own 8 0 x7.length)) 4 (.own 9 0 s1_0.length)) 5 (.val (.int .i64 s1_1))) 6 (.val (.int .i64 s))), hpL [] [some (.row 1 true (List.map enc22 x7)), some (.row 3 true (List.map encItem s1_0))], 10⟩) (fun y e st' => match y with | .inl z => e = Exit.ret ∧ finA Try.prog [.tmp 2] (.val (.bool z)) .ret st' | .inr z => e = Exit.exit 2 ∧ st' = ⟨(upd (upd (upd (upd anyF 0 (.sl (List.map encItem a0))) 3 (.own 8 0 x7.length)) 4 (.own 9 0 s1_0.length)) 5 (.val (.int .i64 s1_1))), hpL [] [some (.row 1 true (List.map enc22 x7)), some (.row 3 true (List.map encItem s1_0))], 10⟩) hy88 ?_ ?_ ?_
     ·refine Ent.can [8, 9] _ _ _ rfl (by first | decide | simp) rfl ?_ ?_ ?_
      · exact (((((RF.any.pv (by first | rfl | simp only [go_sem]) (by first | rfl | simp [upd_ap, hpL_ap, tau, mapT, mapTL, bytesI_len, c5, eq_true c60])).po (by decide) (by first | rfl | simp [upd_ap, hpL_ap, tau, mapT, mapTL, bytesI_len, c5, eq_true c60])).po (by decide) (by first | rfl | simp [upd_ap, hpL_ap, tau, mapT, mapTL, bytesI_len, c5, eq_true c60])).pv (by first | rfl | simp only [go_sem]) (by first | rfl | simp [upd_ap, hpL_ap, tau, mapT, mapTL, bytesI_len, c5, eq_true c60])).pv (by first | rfl | simp only [go_sem]) (by first | rfl | simp [upd_ap, hpL_ap, tau, mapT, mapTL, bytesI_len, c5, eq_true c60]))
      · exact .nil _
      · exact .cons (.eq (by first | rfl | simp only [go_sem]) (by first | rfl | simp [upd_ap, hpL_ap, tau, mapT, mapTL, bytesI_len, c5, eq_true c60])) (.cons (.eq (by first | rfl | simp only [go_sem]) (by first | rfl | simp [upd_ap, hpL_ap, tau, mapT, mapTL, bytesI_len, c5, eq_true c60])) (.nil _))
     ·clear h hy88
      rintro s4_0 x h
      rw [f4_s4] at h
      refine AW.seq ?_
      obtain ⟨x83, hx83, h⟩ := Option.bind_eq_some_iff.1 h
      obtain ⟨hx83a, hx83b⟩ := ix_some.1 hx83
      refine AW.regL [0, 3, 4, 5, 6, 52] ?_
      generalize hK : AW Try.prog _ _ _ = K
      simp only [go_sem, ↓reduceIte, reduceCtorEq, Nat.reduceAdd, Nat.reduceSub, Nat.reduceMul, Nat.reduceEqDiff, Nat.reduceLT, Nat.reduceLeDiff, c5, eq_true c60, natOf_le hx83a, hx83b, ix_lt hx83b]
      subst hK
      by_cases c84 : s4_0 < (x83.length : Int)
      ·rw [if_pos c84] at h
       refine AW.ifT rfl c84 ?_
       refine AW.skip ?_
       refine thenA_n ?_
       refine AW.seq ?_
       refine AW.block ?_
       obtain ⟨x85, hx85, h⟩ := Option.bind_eq_some_iff.1 h
       obtain ⟨hx85a, hx85b⟩ := ix_some.1 hx85
       obtain ⟨x86, hx86, h⟩ := Option.bind_eq_some_iff.1 h
       refine AW.regdL [0, 3, 4, 5, 6, 70] [[], [], [0, 1], [0, 1, 2], [], [0, 1, 2, 3, 4], [0, 1, 2, 3, 4, 5], [0, 1, 2, 3, 4, 5, 6], [], [], [8, 9], [8, 9, 10], [8, 9, 10, 11], [8, 9, 10, 11, 12], [8, 9, 10, 11, 12, 13], [0, 1, 2, 3, 4, 5, 6, 7, 8, 9, 10, 11, 12, 13, 14]] [0, 1, 2, 3, 4, 5, 6, 7, 8, 9, 10, 11, 12, 13, 14, 15] noFt (fun _ _ _ h => by simp [noFt] at h) draws (by kernel_rfl) (by kernel_rfl) ?_
       generalize hK : AW Try.prog _ _ _ = K
       simp only [go_sem, ↓reduceIte, reduceCtorEq, Nat.reduceAdd, Nat.reduceSub, Nat.reduceMul, Nat.reduceEqDiff, Nat.reduceLT, Nat.reduceLeDiff, c5, eq_true c60, eq_true c84, natOf_le hx83a, hx83b, ix_lt hx83b, natOf_le hx85a, hx85b, hx86]
       subst hK
       by_cases c87 : x85.Key = x86.Key
       ·rw [if_pos c87] at h
        refine AW.ifF rfl (fun q => q c87) ?_
        refine AW.skip ?_
        refine block_n ?_
        refine thenA_n ?_
        refine AW.regionL [0, 3, 4, 5, 6] ?_
        generalize hK : thenA _ _ Exit.normal = K
        simp only [go_sem, ↓reduceIte, reduceCtorEq, Nat.reduceAdd, Nat.reduceSub, Nat.reduceMul, Nat.reduceEqDiff, Nat.reduceLT, Nat.reduceLeDiff, c5, eq_true c60, eq_true c84, eq_true c87]
        subst hK
        refine thenA_n ?_
        refine ⟨_, (Option.some.inj h).symm, ?_⟩
        refine Ent.can [8, 9] _ _ _ rfl (by first | decide | simp) rfl ?_ ?_ ?_
        · exact (((((RF.any.pv (by first | rfl | simp only [go_sem]) (by first | rfl | simp [upd_ap, hpL_ap, tau, mapT, mapTL, bytesI_len, c5, eq_true c60, eq_true c84, eq_true c87])).po (by decide) (by first | rfl | simp [upd_ap, hpL_ap, tau, mapT, mapTL, bytesI_len, c5, eq_true c60, eq_true c84, eq_true c87])).po (by decide) (by first | rfl | simp [upd_ap, hpL_ap, tau, mapT, mapTL, bytesI_len, c5, eq_true c60, eq_true c84, eq_true c87])).pv (by first | rfl | simp only [go_sem]) (by first | rfl | simp [upd_ap, hpL_ap, tau, mapT, mapTL, bytesI_len, c5, eq_true c60, eq_true c84, eq_true c87])).pv (by first | rfl | simp only [go_sem]) (by first | rfl | simp [upd_ap, hpL_ap, tau, mapT, mapTL, bytesI_len, c5, eq_true c60, eq_true c84, eq_true c87]))
        · exact .nil _
        · exact .cons (.eq (by first | rfl | simp only [go_sem]) (by first | rfl | simp [upd_ap, hpL_ap, tau, mapT, mapTL, bytesI_len, c5, eq_true c60, eq_true c84, eq_true c87])) (.cons (.eq (by first | rfl | simp only [go_sem]) (by first | rfl | simp [upd_ap, hpL_ap, tau, mapT, mapTL, bytesI_len, c5, eq_true c60, eq_true c84, eq_true c87])) (.nil _))
       ·rw [if_neg c87] at h
        refine AW.ifT rfl c87 ?_
        refine AW.regL [2] ?_
        generalize hK : AW Try.prog _ _ _ = K
        simp only [go_sem, ↓reduceIte, reduceCtorEq, Nat.reduceAdd, Nat.reduceSub, Nat.reduceMul, Nat.reduceEqDiff, Nat.reduceLT, Nat.reduceLeDiff, c5, eq_true c60, eq_true c84, eq_false c87]
        subst hK
        refine AW.ret ?_
        refine block_r ?_
        refine thenA_r ?_
        refine thenA_r ?_
        refine ⟨_, (Option.some.inj h).symm, _, Ent.refl, rfl, ?_⟩
        (simp only [go_sem, ↓reduceIte, reduceCtorEq, Nat.reduceAdd, Nat.reduceSub, Nat.reduceMul, Nat.reduceEqDiff, Nat.reduceLT, Nat.reduceLeDiff, c5, eq_true c60, eq_true c84, eq_false c87, finA] <;> try simp)
      ·rw [if_neg c84] at h
       refine AW.ifF rfl c84 ?_
       refine AW.exit ?_
       refine thenA_x ?_
       refine thenA_x ?_
       refine ⟨_, (Option.some.inj h).symm, _, ?_, rfl, rfl⟩
       refine Ent.can [8, 9] _ _ _ rfl (by first | decide | simp) rfl ?_ ?_ ?_
       · exact ((((RF.any.pv (by first | rfl | simp only [go_sem]) (by first | rfl | simp [upd_ap, hpL_ap, tau, mapT, mapTL, bytesI_len, c5, eq_true c60, eq_false c84])).po (by decide) (by first | rfl | simp [upd_ap, hpL_ap, tau, mapT, mapTL, bytesI_len, c5, eq_true c60, eq_false c84])).po (by decide) (by first | rfl | simp [upd_ap, hpL_ap, tau, mapT, mapTL, bytesI_len, c5, eq_true c60, eq_false c84])).pv (by first | rfl | simp only [go_sem]) (by first | rfl | simp [upd_ap, hpL_ap, tau, mapT, mapTL, bytesI_len, c5, eq_true c60, eq_false c84]))
       · exact .nil _
       · exact .cons (.eq (by first | rfl | simp only [go_sem]) (by first | rfl | simp [upd_ap, hpL_ap, tau, mapT, mapTL, bytesI_len, c5, eq_true c60, eq_false c84])) (.cons (.eq (by first | rfl | simp only [go_sem]) (by first | rfl | simp [upd_ap, hpL_ap, tau, mapT, mapTL, bytesI_len, c5, eq_true c60, eq_false c84])) (.nil _))
     ·intro e st' hX
      rcases y88 with y89 | _ <;> dsimp only at h hX
      ·obtain ⟨rfl, hf⟩ := hX
       refine ⟨_, Ent.refl, ?_⟩
       refine block_r ?_
       refine thenA_r ?_
       refine block_r ?_
       refine thenA_r ?_
       refine thenA_r ?_
       refine ⟨_, (Option.some.inj h).symm, _, Ent.refl, rfl, ?_⟩
       exact hf
      ·obtain ⟨rfl, rfl⟩ := hX
       refine ⟨_, Ent.refl, ?_⟩
       refine block_x ?_
       refine thenA_n ?_
       obtain ⟨x90, hx90, h⟩ := Option.bind_eq_some_iff.1 h
       obtain ⟨hx90a, hx90b⟩ := ix_some.1 hx90
       obtain ⟨x91, hx91, h⟩ := Option.bind_eq_some_iff.1 h
       obtain ⟨hx91b, hx91e⟩ := appO?_some.1 hx91
       have hx91f : ∀ id o : Nat, appO 3 64 id (List.map encItem x90) 0 s1_0.length o (some (.row 3 true (List.map encItem s1_0))) = some ⟨.own id 0 x91.length, [(o, none), (id, some (.row 3 true (List.map encItem x91)))]⟩ := fun id o => by
         subst hx91e; rw [appO_ok (by simp) (by simpa using hx91b) (by decide)]; first | (simp [encItem]; done) | (simp [encItem]; omega)
       refine AW.regionL [0, 3, 4, 5] ?_
       generalize hK : inBlockA _ _ Exit.normal = K
       simp only [go_sem, ↓reduceIte, reduceCtorEq, Nat.reduceAdd, Nat.reduceSub, Nat.reduceMul, Nat.reduceEqDiff, Nat.reduceLT, Nat.reduceLeDiff, c5, eq_true c60, natOf_le hx90a, hx90b, ix_lt hx90b, hx91f]
       subst hK
       refine block_n ?_
       refine thenA_n ?_
       refine AW.regionL [0, 3, 4, 5] ?_
       generalize hK : thenA _ _ Exit.normal = K
       simp only [go_sem, ↓reduceIte, reduceCtorEq, Nat.reduceAdd, Nat.reduceSub, Nat.reduceMul, Nat.reduceEqDiff, Nat.reduceLT, Nat.reduceLeDiff, c5, eq_true c60]
       subst hK
       refine thenA_n ?_
       refine ⟨_, (Option.some.inj h).symm, ?_⟩
       refine Ent.can [8, 50] _ _ _ rfl (by first | decide | simp) rfl ?_ ?_ ?_
       · exact ((((RF.any.pv (by first | rfl | simp only [go_sem]) (by first | rfl | simp [upd_ap, hpL_ap, tau, mapT, mapTL, bytesI_len, c5, eq_true c60])).po (by decide) (by first | rfl | simp [upd_ap, hpL_ap, tau, mapT, mapTL, bytesI_len, c5, eq_true c60])).po (by decide) (by first | rfl | simp [upd_ap, hpL_ap, tau, mapT, mapTL, bytesI_len, c5, eq_true c60])).pv (by first | rfl | simp only [go_sem]) (by first | rfl | simp [upd_ap, hpL_ap, tau, mapT, mapTL, bytesI_len, c5, eq_true c60]))
       · exact .nil _
       · exact .cons (.eq (by first | rfl | simp only [go_sem]) (by first | rfl | simp [upd_ap, hpL_ap, tau, mapT, mapTL, bytesI_len, c5, eq_true c60])) (.cons (.eq (by first | rfl | simp only [go_sem]) (by first | rfl | simp [upd_ap, hpL_ap, tau, mapT, mapTL, bytesI_len, c5, eq_true c60])) (.nil _))
   ·rw [if_neg c60] at h
    refine AW.ifF rfl c60 ?_
    refine AW.exit ?_
    refine thenA_x ?_
    refine thenA_x ?_
    refine ⟨_, (Option.some.inj h).symm, _, ?_, rfl, rfl⟩
    refine Ent.can [9] _ _ _ rfl (by first | decide | simp) rfl ?_ ?_ ?_
    · exact ((RF.any.pv (by first | rfl | simp only [go_sem]) (by first | rfl | simp [upd_ap, hpL_ap, tau, mapT, mapTL, bytesI_len, c5, eq_false c60])).po (by decide) (by first | rfl | simp [upd_ap, hpL_ap, tau, mapT, mapTL, bytesI_len, c5, eq_false c60]))
    · exact .nil _
    · exact .cons (.eq (by first | rfl | simp only [go_sem]) (by first | rfl | simp [upd_ap, hpL_ap, tau, mapT, mapTL, bytesI_len, c5, eq_false c60])) (.nil _)
  ·intro e st' hX
   rcases y99 with y100 | y101 <;> dsimp only at h hX
   ·obtain ⟨rfl, hf⟩ := hX
    refine ⟨_, Ent.refl, ?_⟩
    refine block_r ?_
    refine thenA_r ?_
    obtain rfl := Option.some.inj h
    exact hf
   ·obtain ⟨rfl, rfl⟩ := hX
    refine ⟨_, Ent.refl, ?_⟩
    refine block_x ?_
    refine thenA_n ?_
    obtain ⟨x102, hx102, h⟩ := Option.bind_eq_some_iff.1 h
    by_cases c103 : x102 = true
    ·rw [if_pos c103] at h
     obtain ⟨x104, hx104, h⟩ := Option.bind_eq_some_iff.1 h
     refine AW.regL [2] ?_
     generalize hK : AW Try.prog _ _ _ = K
     simp only [go_sem, ↓reduceIte, reduceCtorEq, Nat.reduceAdd, Nat.reduceSub, Nat.reduceMul, Nat.reduceEqDiff, Nat.reduceLT, Nat.reduceLeDiff, c5, c103]
     refine arC.of (ok8 y101 a0 x102 hx102) Try.call8 ?_
     simp only [go_sem, ↓reduceIte, reduceCtorEq, Nat.reduceAdd, Nat.reduceSub, Nat.reduceMul, Nat.reduceEqDiff, Nat.reduceLT, Nat.reduceLeDiff, c5, c103]
     refine arC.of (ok7  x104 hx104) Try.call7 ?_
     simp only [go_sem, ↓reduceIte, reduceCtorEq, Nat.reduceAdd, Nat.reduceSub, Nat.reduceMul, Nat.reduceEqDiff, Nat.reduceLT, Nat.reduceLeDiff, c5, c103]
     subst hK
     refine AW.ret ?_
     obtain rfl := Option.some.inj h
     (simp only [go_sem, ↓reduceIte, reduceCtorEq, Nat.reduceAdd, Nat.reduceSub, Nat.reduceMul, Nat.reduceEqDiff, Nat.reduceLT, Nat.reduceLeDiff, c5, c103, finA] <;> try simp)
    ·rw [if_neg c103] at h
     rw [Bool.not_eq_true] at c103
     refine AW.regL [2] ?_
     generalize hK : AW Try.prog _ _ _ = K
     simp only [go_sem, ↓reduceIte, reduceCtorEq, Nat.reduceAdd, Nat.reduceSub, Nat.reduceMul, Nat.reduceEqDiff, Nat.reduceLT, Nat.reduceLeDiff, c5, c103]
     refine arC.of (ok8 y101 a0 x102 hx102) Try.call8 ?_
     simp only [go_sem, ↓reduceIte, reduceCtorEq, Nat.reduceAdd, Nat.reduceSub, Nat.reduceMul, Nat.reduceEqDiff, Nat.reduceLT, Nat.reduceLeDiff, c5, c103]
     subst hK
     refine AW.ret ?_
     obtain rfl := Option.some.inj h
     (simp only [go_sem, ↓reduceIte, reduceCtorEq, Nat.reduceAdd, Nat.reduceSub, Nat.reduceMul, Nat.reduceEqDiff, Nat.reduceLT, Nat.reduceLeDiff, c5, c103, finA] <;> try simp)
end Au
end Go.Proofs.Y5

set_option linter.all false
set_option maxRecDepth 8000
set_option maxHeartbeats 1000000
namespace Go.Proofs.Y5
open Go.Gm
namespace Au
structure GOK (gs : List (List Item)) : Prop where
  one : ∀ g ∈ gs, g ≠ [] ∧ ∀ x ∈ g, ∀ y ∈ g, x.Key = y.Key
  two : ∀ (i : Nat) x xs y ys, gs[i]? = some (x :: xs) → gs[i + 1]? = some (y :: ys) → x.Key ≠ y.Key
theorem GOK.snoc {gs : List (List Item)} (h : GOK gs) {y : Item} (hl : ∀ x xs, gs.getLast? = some (x :: xs) → x.Key ≠ y.Key) : GOK (gs ++ [[y]]) where
  one g hg := by
    rcases List.mem_append.1 hg with hg | hg
    · exact h.one g hg
    · simp at hg; subst hg; exact ⟨by simp, by simp⟩
  two i x xs z zs h1 h2 := by
    by_cases c : i + 1 < gs.length
    · rw [List.getElem?_append_left (by omega)] at h1 h2
      exact h.two i x xs z zs h1 h2
    · by_cases c2 : i + 1 = gs.length
      · rw [List.getElem?_append_right (by omega), c2, Nat.sub_self] at h2
        simp at h2
        obtain ⟨rfl, rfl⟩ := h2
        rw [List.getElem?_append_left (by omega)] at h1
        exact hl x xs (by rw [List.getLast?_eq_getElem?, ← h1]; congr 1; omega)
      · rw [List.getElem?_eq_none (by simp; omega)] at h2; cases h2
theorem GOK.grow {gs : List (List Item)} {x : Item} {xs : List Item} {y : Item} (h : GOK (gs ++ [x :: xs])) (hk : x.Key = y.Key) : GOK (gs ++ [x :: xs ++ [y]]) where
  one g hg := by
    rcases List.mem_append.1 hg with hg | hg
    · exact h.one g (List.mem_append_left _ hg)
    · simp at hg; subst hg
      have h1 := (h.one (x :: xs) (by simp)).2
      have hx : ∀ a ∈ x :: (xs ++ [y]), a.Key = x.Key := fun a ha => by
        rw [← List.cons_append] at ha
        rcases List.mem_append.1 ha with ha | ha
        · exact h1 a ha x (by simp)
        · simp at ha; subst ha; exact hk.symm
      exact ⟨by simp, fun a ha b hb => (hx a ha).trans (hx b hb).symm⟩
  two i a ps b bs h1 h2 := by
    by_cases c : i + 1 < gs.length
    · rw [List.getElem?_append_left (by omega)] at h1 h2
      exact h.two i a ps b bs (by rw [List.getElem?_append_left (by omega)]; exact h1) (by rw [List.getElem?_append_left (by omega)]; exact h2)
    · by_cases c2 : i + 1 = gs.length
      · rw [List.getElem?_append_right (by omega), c2, Nat.sub_self] at h2
        simp at h2
        obtain ⟨rfl, rfl⟩ := h2
        rw [List.getElem?_append_left (by omega)] at h1
        exact h.two i a ps x xs (by rw [List.getElem?_append_left (by omega)]; exact h1) (by rw [List.getElem?_append_right (by omega), c2, Nat.sub_self]; rfl)
      · rw [List.getElem?_eq_none (by simp; omega)] at h2; cases h2
theorem groups_eq {l : List Item} (hl : l.length ≤ 1000) (hb : ∀ x ∈ l, Bnd x) : ∃ gs, f11 l = some gs ∧ gs.flatten = l ∧ GOK gs := by
  obtain ⟨r, h1, h2⟩ := loopO_of (step := f11_s l) (I := fun k s => ∃ (i : Nat) (d : List (List Item)) (t : List Item), s = ((i : Int), d, t) ∧ i ≤ l.length ∧ (gout (d, t)).flatten = l.take i ∧ GOK (gout (d, t)) ∧ (d.length + t.length ≤ i) ∧ k = l.length - i)
    (Q := fun r => (gout r).flatten = l ∧ GOK (gout r)) (by
    rintro k _ ⟨i, d, t, rfl, hi, h1, h2, h3, hk⟩
    by_cases c : i < l.length
    · obtain ⟨b1, ⟨b2, _⟩, b3⟩ := hb _ (List.getElem_mem c)
      have e1 : f19 l[i].Parts = some l[i].Parts := by unfold f19; rw [appO_ok' (by simp) (by omega)]; rfl
      have e2 : f20 l[i].Offs = some l[i].Offs := by unfold f20; rw [appO_ok' (by simp) (by omega)]; rfl
      have hst : f11_s l ((i : Int), d, t) = some (.inl (((i + 1 : Nat) : Int), gnext d l[i].Key l[i] t)) := by
        simp only [f11_s, if_pos (show (i : Int) < l.length by omega), ixN c, Option.bind_some, guardO_ok (show d.length + t.length ≤ 1000000 by omega), e1, e2, wrapN (show i ≤ 10000000000 by omega)]
      refine .inl ⟨_, l.length - (i + 1), hst, by omega, i + 1, (gnext d l[i].Key l[i] t).1, (gnext d l[i].Key l[i] t).2, rfl, by omega, ?_⟩
      rw [List.take_succ_eq_append_getElem c]
      cases t with
      | nil =>
        simp only [gout, List.flatten_nil] at h1
        refine ⟨by simp only [gnext, gout]; rw [← h1]; simp, ⟨by simp [gnext, gout], fun j x xs y ys g1 g2 => by simp [gnext, gout] at g2⟩, by simp [gnext], rfl⟩
      | cons x xs =>
        simp only [gout] at h1 h2
        simp only [gnext]
        by_cases c2 : x.Key = l[i].Key
        · rw [if_pos c2]
          refine ⟨?_, ?_, by simp at h3 ⊢; omega, trivial⟩
          · simp only [List.cons_append, gout]; rw [← h1]; simp
          · have := h2.grow c2
            simpa [gout] using this
        · rw [if_neg c2]
          refine ⟨?_, ?_, by simp at h3 ⊢; omega, trivial⟩
          · simp only [gout]; rw [← h1]; simp
          · exact h2.snoc fun a ps ha => by simp at ha; obtain ⟨rfl, rfl⟩ := ha; exact c2
    · refine .inr ⟨(d, t), ?_, ?_, h2⟩
      · simp only [f11_s, if_neg (show ¬ (i : Int) < l.length by omega)]
      · rw [List.take_of_length_le (by omega)] at h1; exact h1) (k := l.length) ⟨0, [], [], rfl, by omega, rfl, ⟨by simp [gout], by simp [gout]⟩, by simp, rfl⟩
  refine ⟨gout r, ?_, h2⟩
  unfold f11
  rw [show ((0 : Int), ([] : List (List Item)), ([] : List Item)) = (((0 : Nat) : Int), [], []) from rfl, h1]; rfl
theorem inner_ok {gs : List (List Item)} (h : GOK gs) {i : Nat} (hi : i < gs.length) (hl : gs[i].length ≤ 1000000) : loopO (f4_s4 gs (i : Int)) 0 = some (.inr ()) := by
  have ho := h.one _ (List.getElem_mem hi)
  obtain ⟨x, xs, hx⟩ : ∃ x xs, gs[i] = x :: xs := by
    cases hg : gs[i] with
    | nil => exact absurd hg ho.1
    | cons x xs => exact ⟨x, xs, rfl⟩
  have k := loopN_done (step := f4_s4 gs (i : Int)) (fun j => (j : Int)) gs[i].length (r := .inr ()) (fun j hj => by
    have e : gs[i][j].Key = x.Key := ho.2 _ (List.getElem_mem hj) x (by rw [hx]; simp)
    have h0 : gs[i][0]? = some x := by rw [hx]; rfl
    simp only [f4_s4, ixN hi, Option.bind_some, if_pos (show (j : Int) < gs[i].length by omega), ixN hj, h0, if_pos e, wrapN (show j ≤ 10000000000 by omega)]) (by simp only [f4_s4, ixN hi, Option.bind_some]; rw [if_neg (by omega)])
  rw [show (0 : Int) = ((0 : Nat) : Int) from rfl, k]
theorem outer_ok {gs : List (List Item)} (h : GOK gs) (hl : gs.flatten.length ≤ 1000000) (hg : gs.length ≤ 1000000) : loopO (f4_s1 gs) ([], 0) = some (.inr gs.flatten) := by
  have hsub : ∀ i, (gs.take i).flatten.length ≤ gs.flatten.length := fun i => by
    have := congrArg (fun l => (List.flatten l).length) (List.take_append_drop i gs)
    simp only [List.flatten_append, List.length_append] at this
    omega
  have hone : ∀ (i : Nat) (hi : i < gs.length), gs[i].length ≤ gs.flatten.length := fun i hi => by
    have h1 := hsub (i + 1)
    rw [List.take_succ_eq_append_getElem hi, List.flatten_append, List.length_append, List.flatten_cons, List.flatten_nil, List.append_nil] at h1
    omega
  have k := loopN_done (step := f4_s1 gs) (fun i => ((gs.take i).flatten, (i : Int))) gs.length (r := .inr gs.flatten) (fun i hi => by
    have hne := (h.one _ (List.getElem_mem hi)).1
    have hlen : ¬ ((gs[i].length : Nat) : Int) = 0 := by
      cases hg : gs[i] with
      | nil => exact absurd hg hne
      | cons => simp; omega
    have h1 := hsub i
    have h2 := hone i hi
    have hj : f4_j2 gs (gs.take i).flatten (i : Int) () = some (.inl ((gs.take (i + 1)).flatten, ((i + 1 : Nat) : Int))) := by
      simp only [f4_j2, inner_ok h hi (by omega), Option.bind_some, ixN hi, appO_ok' (show (gs.take i).flatten.length ≤ 10000000000 by omega) (show gs[i].length ≤ 10000000000 by omega), wrapN (show i ≤ 10000000000 by omega)]
      rw [List.take_succ_eq_append_getElem hi, List.flatten_append, List.flatten_cons, List.flatten_nil, List.append_nil]
    simp only [f4_s1, if_pos (show (i : Int) < ((gs.length : Nat) : Int) by omega), ixN hi, Option.bind_some, if_neg hlen]
    by_cases c : 0 < i
    · obtain ⟨n, rfl⟩ : ∃ n, i = n + 1 := ⟨i - 1, by omega⟩
      have hw : IntKind.i64.wrap (((n + 1 : Nat) : Int) - 1) = (n : Int) := by rw [i64_id (by omega) (by omega)]; omega
      have hn : n < gs.length := by omega
      obtain ⟨x, xs, hx⟩ : ∃ x xs, gs[n] = x :: xs := by
        cases hg : gs[n] with
        | nil => exact absurd hg (h.one _ (List.getElem_mem hn)).1
        | cons x xs => exact ⟨x, xs, rfl⟩
      obtain ⟨y, ys, hy⟩ : ∃ y ys, gs[n + 1] = y :: ys := by
        cases hg : gs[n + 1] with
        | nil => exact absurd hg hne
        | cons x xs => exact ⟨x, xs, rfl⟩
      have hd : ¬ x.Key = y.Key := h.two n x xs y ys (by rw [List.getElem?_eq_getElem hn, hx]) (by rw [List.getElem?_eq_getElem hi, hy])
      rw [if_pos (by omega), hw, ixN hn, Option.bind_some, hx, hy]
      simp only [List.getElem?_cons_zero, Option.bind_some, if_neg hd]
      exact hj
    · rw [if_neg (by omega)]; exact hj) (by simp only [f4_s1]; rw [if_neg (by omega), List.take_of_length_le (Nat.le_refl _)])
  simpa using k
theorem groups_len {gs : List (List Item)} (h : ∀ g ∈ gs, g ≠ []) : gs.length ≤ gs.flatten.length := by
  induction gs with
  | nil => simp
  | cons g gs ih =>
    have := ih fun g hg => h g (List.mem_cons_of_mem _ hg)
    have hg := List.length_pos_iff.2 (h g List.mem_cons_self)
    rw [List.flatten_cons, List.length_append, List.length_cons]; omega
theorem law4 {l : List Item} (hb : ∀ x ∈ l, Bnd x) : f4 l = some true := by
  unfold f4
  rcases much_eq hb with h | ⟨h, hl, hs⟩
  · rw [h, Option.bind_some, if_pos rfl, live_ok]; rfl
  · obtain ⟨gs, g1, g2, g3⟩ := groups_eq (by omega) hb
    have hgl := groups_len fun g hg => (g3.one g hg).1
    rw [g2] at hgl
    rw [h, Option.bind_some, if_neg (by simp), g1, Option.bind_some, outer_ok g3 (by rw [g2]; omega) (by omega), g2]
    simp only [Option.bind_some, same_items (show l.length ≤ 1000000 by omega) (fun x hx => (hb x hx).sz), if_true, live_ok]
end Au
end Go.Proofs.Y5
