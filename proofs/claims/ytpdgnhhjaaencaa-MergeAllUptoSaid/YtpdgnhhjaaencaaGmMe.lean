import Derived.Test.YtpdgnhhjaaencaaGmDV
import Derived.Test.YtpdgnhhjaaencaaGmM9
import Derived.Test.YtpdgnhhjaaencaaGmMb
import Derived.Test.YtpdgnhhjaaencaaGmDVf10
import Derived.Test.YtpdgnhhjaaencaaGmMd
set_option linter.all false
set_option linter.unusedVariables false
set_option linter.unusedSimpArgs false
set_option linter.all false
set_option maxRecDepth 8000
set_option maxHeartbeats 1000000
namespace Go.Proofs.Y5
open Go.Gm
namespace Au
noncomputable def f6_s4 (a0 : List Item) (s1_0 : Int) : Int → Option (Int ⊕ (Bool ⊕ Unit))
  | s4_0 => ((ix a0 s1_0).bind fun x55 => (if s4_0 < (x55.Offs.length : Int) then ((ix x55.Offs (IntKind.i64.wrap (s4_0 - 1))).bind fun x57 => ((ix x55.Offs s4_0).bind fun x58 => (if x58 ≤ x57 then some (.inr (.inl false)) else some (.inl (IntKind.i64.wrap (s4_0 + 1)))))) else some (.inr (.inr ()))))
noncomputable def f6_s1 (a0 : List Item) : Int → Option (Int ⊕ (Bool ⊕ Unit))
  | s1_0 => (if s1_0 < (a0.length : Int) then ((loopO (f6_s4 a0 s1_0) 1).bind fun y60 => match y60 with | .inl y61 => some (.inr (.inl y61)) | .inr _ => some (.inl (IntKind.i64.wrap (s1_0 + 1)))) else some (.inr (.inr ())))
noncomputable def f6 (a0 : List Item) : Option Bool := ((loopO (f6_s1 a0) 0).bind fun y62 => match y62 with | .inl y63 => some y63 | .inr _ => some true)
theorem ok6 (a0 : List Item) (r : Bool) (h : f6 a0 = some r) : PC Try.prog 6 [.sl (List.map encItem a0)] (.val (.bool r)) := by
 rw [f6] at h
 refine pc_of8 (N := 39) (rs := [.tmp 2]) Try.func6 rfl rfl rfl (Nat.le_of_ble_eq_true rfl) ?_
 refine AW.regL [0] ?_
 generalize hK : AW Try.prog _ _ _ = K
 simp only [go_sem, ↓reduceIte, reduceCtorEq, Nat.reduceAdd, Nat.reduceSub, Nat.reduceMul, Nat.reduceEqDiff, Nat.reduceLT, Nat.reduceLeDiff]
 subst hK
 refine AW.seq ?_
 refine AW.regL [0, 3] ?_
 generalize hK : AW Try.prog _ _ _ = K
 simp only [go_sem, ↓reduceIte, reduceCtorEq, Nat.reduceAdd, Nat.reduceSub, Nat.reduceMul, Nat.reduceEqDiff, Nat.reduceLT, Nat.reduceLeDiff]
 subst hK
 refine AW.block ?_
 obtain ⟨y62, hy62, h⟩ := Option.bind_eq_some_iff.1 h
 refine AW.loopO (fun s => ⟨(upd (upd anyF 0 (.sl (List.map encItem a0))) 3 (.val (.int .i64 s))), hpL [] [], 8⟩) (fun y e st' => match y with | .inl z => e = Exit.ret ∧ finA Try.prog [.tmp 2] (.val (.bool z)) .ret st' | .inr z => e = Exit.exit 0 ∧ st' = ⟨anyF, hpL [] [], 8⟩) hy62 ?_ ?_ ?_
 ·refine Ent.can [] _ _ _ rfl (by first | decide | simp) rfl ?_ ?_ ?_
  · exact ((RF.any.pv (by first | rfl | simp only [go_sem]) (by first | rfl | simp [upd_ap, hpL_ap, tau, mapT, mapTL, bytesI_len])).pv (by first | rfl | simp only [go_sem]) (by first | rfl | simp [upd_ap, hpL_ap, tau, mapT, mapTL, bytesI_len]))
  · exact .nil _
  · exact .nil _
 ·clear h hy62
  rintro s1_0 x h
  rw [f6_s1] at h
  refine AW.seq ?_
  refine AW.regL [0, 3, 8] ?_
  generalize hK : AW Try.prog _ _ _ = K
  simp only [go_sem, ↓reduceIte, reduceCtorEq, Nat.reduceAdd, Nat.reduceSub, Nat.reduceMul, Nat.reduceEqDiff, Nat.reduceLT, Nat.reduceLeDiff]
  subst hK
  by_cases c38 : s1_0 < (a0.length : Int)
  ·rw [if_pos c38] at h
   refine AW.ifT rfl c38 ?_
   refine AW.skip ?_
   refine thenA_n ?_
   refine AW.seq ?_
   refine AW.block ?_
   refine AW.regL [0, 3, 4] ?_
   generalize hK : AW Try.prog _ _ _ = K
   simp only [go_sem, ↓reduceIte, reduceCtorEq, Nat.reduceAdd, Nat.reduceSub, Nat.reduceMul, Nat.reduceEqDiff, Nat.reduceLT, Nat.reduceLeDiff, eq_true c38]
   subst hK
   refine AW.block ?_
   obtain ⟨y60, hy60, h⟩ := Option.bind_eq_some_iff.1 h
   refine AW.loopO (fun s => ⟨(upd (upd (upd anyF 0 (.sl (List.map encItem a0))) 3 (.val (.int .i64 s1_0))) 4 (.val (.int .i64 s))), hpL [] [], 8⟩) (fun y e st' => match y with | .inl z => e = Exit.ret ∧ finA Try.prog [.tmp 2] (.val (.bool z)) .ret st' | .inr z => e = Exit.exit 2 ∧ st' = ⟨(upd (upd anyF 0 (.sl (List.map encItem a0))) 3 (.val (.int .i64 s1_0))), hpL [] [], 8⟩) hy60 ?_ ?_ ?_
   ·refine Ent.can [] _ _ _ rfl (by first | decide | simp) rfl ?_ ?_ ?_
    · exact (((RF.any.pv (by first | rfl | simp only [go_sem]) (by first | rfl | simp [upd_ap, hpL_ap, tau, mapT, mapTL, bytesI_len, eq_true c38])).pv (by first | rfl | simp only [go_sem]) (by first | rfl | simp [upd_ap, hpL_ap, tau, mapT, mapTL, bytesI_len, eq_true c38])).pv (by first | rfl | simp only [go_sem]) (by first | rfl | simp [upd_ap, hpL_ap, tau, mapT, mapTL, bytesI_len, eq_true c38]))
    · exact .nil _
    · exact .nil _
   ·clear h hy60
    rintro s4_0 x h
    rw [f6_s4] at h
    refine AW.seq ?_
    obtain ⟨x55, hx55, h⟩ := Option.bind_eq_some_iff.1 h
    obtain ⟨hx55a, hx55b⟩ := ix_some.1 hx55
    refine AW.regL [0, 3, 4, 18] ?_
    generalize hK : AW Try.prog _ _ _ = K
    simp only [go_sem, ↓reduceIte, reduceCtorEq, Nat.reduceAdd, Nat.reduceSub, Nat.reduceMul, Nat.reduceEqDiff, Nat.reduceLT, Nat.reduceLeDiff, eq_true c38, natOf_le hx55a, hx55b]
    subst hK
    by_cases c56 : s4_0 < (x55.Offs.length : Int)
    ·rw [if_pos c56] at h
     refine AW.ifT rfl c56 ?_
     refine AW.skip ?_
     refine thenA_n ?_
     refine AW.seq ?_
     refine AW.block ?_
     obtain ⟨x57, hx57, h⟩ := Option.bind_eq_some_iff.1 h
     obtain ⟨hx57a, hx57b⟩ := ix_some.1 hx57
     obtain ⟨x58, hx58, h⟩ := Option.bind_eq_some_iff.1 h
     obtain ⟨hx58a, hx58b⟩ := ix_some.1 hx58
     refine AW.regdL [0, 3, 4, 38] [[], [], [0, 1], [0, 1, 2], [0, 1, 2, 3], [], [5], [0, 1, 2, 3, 4, 5, 6], [0, 1, 2, 3, 4, 5, 6, 7], [], [], [9, 10], [9, 10, 11], [9, 10, 11, 12], [], [9, 10, 11, 12, 13, 14], [9, 10, 11, 12, 13, 14, 15], [0, 1, 2, 3, 4, 5, 6, 7, 8, 9, 10, 11, 12, 13, 14, 15, 16]] [0, 1, 2, 3, 4, 5, 6, 7, 8, 9, 10, 11, 12, 13, 14, 15, 16, 17] noFt (fun _ _ _ h => by simp [noFt] at h) draws (by kernel_rfl) (by kernel_rfl) ?_
     generalize hK : AW Try.prog _ _ _ = K
     simp only [go_sem, ↓reduceIte, reduceCtorEq, Nat.reduceAdd, Nat.reduceSub, Nat.reduceMul, Nat.reduceEqDiff, Nat.reduceLT, Nat.reduceLeDiff, eq_true c38, eq_true c56, natOf_le hx55a, hx55b, natOf_le hx57a, hx57b, natOf_le hx58a, hx58b]
     subst hK
     by_cases c59 : x58 ≤ x57
     ·rw [if_pos c59] at h
      refine AW.ifT rfl c59 ?_
      refine AW.regL [2] ?_
      generalize hK : AW Try.prog _ _ _ = K
      simp only [go_sem, ↓reduceIte, reduceCtorEq, Nat.reduceAdd, Nat.reduceSub, Nat.reduceMul, Nat.reduceEqDiff, Nat.reduceLT, Nat.reduceLeDiff, eq_true c38, eq_true c56, eq_true c59]
      subst hK
      refine AW.ret ?_
      refine block_r ?_
      refine thenA_r ?_
      refine thenA_r ?_
      refine ⟨_, (Option.some.inj h).symm, _, Ent.refl, rfl, ?_⟩
      (simp only [go_sem, ↓reduceIte, reduceCtorEq, Nat.reduceAdd, Nat.reduceSub, Nat.reduceMul, Nat.reduceEqDiff, Nat.reduceLT, Nat.reduceLeDiff, eq_true c38, eq_true c56, eq_true c59, finA] <;> try simp)
     ·rw [if_neg c59] at h
      refine AW.ifF rfl c59 ?_
      refine AW.skip ?_
      refine block_n ?_
      refine thenA_n ?_
      refine AW.regionL [0, 3, 4] ?_
      generalize hK : thenA _ _ Exit.normal = K
      simp only [go_sem, ↓reduceIte, reduceCtorEq, Nat.reduceAdd, Nat.reduceSub, Nat.reduceMul, Nat.reduceEqDiff, Nat.reduceLT, Nat.reduceLeDiff, eq_true c38, eq_true c56, eq_false c59]
      subst hK
      refine thenA_n ?_
      refine ⟨_, (Option.some.inj h).symm, ?_⟩
      refine Ent.can [] _ _ _ rfl (by first | decide | simp) rfl ?_ ?_ ?_
      · exact (((RF.any.pv (by first | rfl | simp only [go_sem]) (by first | rfl | simp [upd_ap, hpL_ap, tau, mapT, mapTL, bytesI_len, eq_true c38, eq_true c56, eq_false c59])).pv (by first | rfl | simp only [go_sem]) (by first | rfl | simp [upd_ap, hpL_ap, tau, mapT, mapTL, bytesI_len, eq_true c38, eq_true c56, eq_false c59])).pv (by first | rfl | simp only [go_sem]) (by first | rfl | simp [upd_ap, hpL_ap, tau, mapT, mapTL, bytesI_len, eq_true c38, eq_true c56, eq_false c59]))
      · exact .nil _
      · exact .nil _
    ·rw [if_neg c56] at h
     refine AW.ifF rfl c56 ?_
     refine AW.exit ?_
     refine thenA_x ?_
     refine thenA_x ?_
     refine ⟨_, (Option.some.inj h).symm, _, ?_, rfl, rfl⟩
     refine Ent.can [] _ _ _ rfl (by first | decide | simp) rfl ?_ ?_ ?_
     · exact ((RF.any.pv (by first | rfl | simp only [go_sem]) (by first | rfl | simp [upd_ap, hpL_ap, tau, mapT, mapTL, bytesI_len, eq_true c38, eq_false c56])).pv (by first | rfl | simp only [go_sem]) (by first | rfl | simp [upd_ap, hpL_ap, tau, mapT, mapTL, bytesI_len, eq_true c38, eq_false c56]))
     · exact .nil _
     · exact .nil _
   ·intro e st' hX
    rcases y60 with y61 | _ <;> dsimp only at h hX
    ·obtain ⟨rfl, hf⟩ := hX
     refine ⟨_, Ent.refl, ?_⟩
     refine block_r ?_
     refine block_r ?_
     refine thenA_r ?_
     refine thenA_r ?_
     refine ⟨_, (Option.some.inj h).symm, _, Ent.refl, rfl, ?_⟩
     exact hf
    ·obtain ⟨rfl, rfl⟩ := hX
     refine ⟨_, Ent.refl, ?_⟩
     refine block_x ?_
     refine block_n ?_
     refine thenA_n ?_
     refine AW.regionL [0, 3] ?_
     generalize hK : thenA _ _ Exit.normal = K
     simp only [go_sem, ↓reduceIte, reduceCtorEq, Nat.reduceAdd, Nat.reduceSub, Nat.reduceMul, Nat.reduceEqDiff, Nat.reduceLT, Nat.reduceLeDiff, eq_true c38]
     subst hK
     refine thenA_n ?_
     refine ⟨_, (Option.some.inj h).symm, ?_⟩
     refine Ent.can [] _ _ _ rfl (by first | decide | simp) rfl ?_ ?_ ?_
     · exact ((RF.any.pv (by first | rfl | simp only [go_sem]) (by first | rfl | simp [upd_ap, hpL_ap, tau, mapT, mapTL, bytesI_len, eq_true c38])).pv (by first | rfl | simp only [go_sem]) (by first | rfl | simp [upd_ap, hpL_ap, tau, mapT, mapTL, bytesI_len, eq_true c38]))
     · exact .nil _
     · exact .nil _
  ·rw [if_neg c38] at h
   refine AW.ifF rfl c38 ?_
   refine AW.exit ?_
   refine thenA_x ?_
   refine thenA_x ?_
   refine ⟨_, (Option.some.inj h).symm, _, ?_, rfl, rfl⟩
   refine Ent.can [] _ _ _ rfl (by first | decide | simp) rfl ?_ ?_ ?_
   · exact RF.any
   · exact .nil _
   · exact .nil _
 ·intro e st' hX
  rcases y62 with y63 | _ <;> dsimp only at h hX
  ·obtain ⟨rfl, hf⟩ := hX
   refine ⟨_, Ent.refl, ?_⟩
   refine block_r ?_
   refine thenA_r ?_
   obtain rfl := Option.some.inj h
   exact hf
  ·obtain ⟨rfl, rfl⟩ := hX
   refine ⟨_, Ent.refl, ?_⟩
   refine block_x ?_
   refine thenA_n ?_
   refine AW.regL [2] ?_
   generalize hK : AW Try.prog _ _ _ = K
   simp only [go_sem, ↓reduceIte, reduceCtorEq, Nat.reduceAdd, Nat.reduceSub, Nat.reduceMul, Nat.reduceEqDiff, Nat.reduceLT, Nat.reduceLeDiff]
   subst hK
   refine AW.ret ?_
   obtain rfl := Option.some.inj h
   (simp only [go_sem, ↓reduceIte, reduceCtorEq, Nat.reduceAdd, Nat.reduceSub, Nat.reduceMul, Nat.reduceEqDiff, Nat.reduceLT, Nat.reduceLeDiff, finA] <;> try simp)
end Au
end Go.Proofs.Y5

set_option linter.all false
set_option maxRecDepth 8000
set_option maxHeartbeats 1000000
namespace Go.Proofs.Y5
open Go.Gm
namespace Au
noncomputable def f3 (a0 : List Item) (a1 : List Item) (a2 : List Item) : Option Bool := ((f5 a0).bind fun x19 => (if x19 = true then ((f7 ).bind fun x21 => some x21) else ((f5 a1).bind fun x22 => (if x22 = true then ((f7 ).bind fun x24 => some x24) else ((f5 a2).bind fun x25 => (if x25 = true then ((f7 ).bind fun x27 => some x27) else ((f6 a0).bind fun x28 => (if x28 = true then ((f6 a1).bind fun x30 => (if x30 = true then ((f6 a2).bind fun x32 => (if x32 = true then ((f9 [a0, a1, a2]).bind fun x34 => ((f10 [a0, a1, a2]).bind fun x35 => ((f8 x34 x35).bind fun x36 => (if x36 = true then ((f7 ).bind fun x38 => some x38) else some false)))) else ((f7 ).bind fun x39 => some x39))) else ((f7 ).bind fun x40 => some x40))) else ((f7 ).bind fun x41 => some x41)))))))))
theorem ok3 (a0 : List Item) (a1 : List Item) (a2 : List Item) (r : Bool) (h : f3 a0 a1 a2 = some r) : PC Try.prog 3 [.sl (List.map encItem a0), .sl (List.map encItem a1), .sl (List.map encItem a2)] (.val (.bool r)) := by
 rw [f3] at h
 refine pc_of8 (N := 46) (rs := [.tmp 6]) Try.func3 rfl rfl rfl (Nat.le_of_ble_eq_true rfl) ?_
 refine AW.regL [0, 1, 2] ?_
 generalize hK : AW Try.prog _ _ _ = K
 simp only [go_sem, ↓reduceIte, reduceCtorEq, Nat.reduceAdd, Nat.reduceSub, Nat.reduceMul, Nat.reduceEqDiff, Nat.reduceLT, Nat.reduceLeDiff]
 subst hK
 refine AW.seq ?_
 obtain ⟨x19, hx19, h⟩ := Option.bind_eq_some_iff.1 h
 by_cases c20 : x19 = true
 ·rw [if_pos c20] at h
  refine AW.regL [0, 1, 2, 32] ?_
  generalize hK : AW Try.prog _ _ _ = K
  simp only [go_sem, ↓reduceIte, reduceCtorEq, Nat.reduceAdd, Nat.reduceSub, Nat.reduceMul, Nat.reduceEqDiff, Nat.reduceLT, Nat.reduceLeDiff, c20]
  refine arC.of (ok5 a0 x19 hx19) Try.call5 ?_
  simp only [go_sem, ↓reduceIte, reduceCtorEq, Nat.reduceAdd, Nat.reduceSub, Nat.reduceMul, Nat.reduceEqDiff, Nat.reduceLT, Nat.reduceLeDiff, c20]
  subst hK
  refine AW.ifBT rfl rfl ?_
  obtain ⟨x21, hx21, h⟩ := Option.bind_eq_some_iff.1 h
  refine AW.regL [6] ?_
  generalize hK : AW Try.prog _ _ _ = K
  simp only [go_sem, ↓reduceIte, reduceCtorEq, Nat.reduceAdd, Nat.reduceSub, Nat.reduceMul, Nat.reduceEqDiff, Nat.reduceLT, Nat.reduceLeDiff, c20]
  refine arC.of (ok7  x21 hx21) Try.call7 ?_
  simp only [go_sem, ↓reduceIte, reduceCtorEq, Nat.reduceAdd, Nat.reduceSub, Nat.reduceMul, Nat.reduceEqDiff, Nat.reduceLT, Nat.reduceLeDiff, c20]
  subst hK
  refine AW.ret ?_
  refine thenA_r ?_
  obtain rfl := Option.some.inj h
  (simp only [go_sem, ↓reduceIte, reduceCtorEq, Nat.reduceAdd, Nat.reduceSub, Nat.reduceMul, Nat.reduceEqDiff, Nat.reduceLT, Nat.reduceLeDiff, c20, finA] <;> try simp)
 ·rw [if_neg c20] at h
  rw [Bool.not_eq_true] at c20
  obtain ⟨x22, hx22, h⟩ := Option.bind_eq_some_iff.1 h
  by_cases c23 : x22 = true
  ·rw [if_pos c23] at h
   refine AW.regL [0, 1, 2, 32] ?_
   generalize hK : AW Try.prog _ _ _ = K
   simp only [go_sem, ↓reduceIte, reduceCtorEq, Nat.reduceAdd, Nat.reduceSub, Nat.reduceMul, Nat.reduceEqDiff, Nat.reduceLT, Nat.reduceLeDiff, c20, c23]
   refine arC.of (ok5 a0 x19 hx19) Try.call5 ?_
   simp only [go_sem, ↓reduceIte, reduceCtorEq, Nat.reduceAdd, Nat.reduceSub, Nat.reduceMul, Nat.reduceEqDiff, Nat.reduceLT, Nat.reduceLeDiff, c20, c23]
   refine arC.of (ok5 a1 x22 hx22) Try.call5 ?_
   simp only [go_sem, ↓reduceIte, reduceCtorEq, Nat.reduceAdd, Nat.reduceSub, Nat.reduceMul, Nat.reduceEqDiff, Nat.reduceLT, Nat.reduceLeDiff, c20, c23]
   subst hK
   refine AW.ifBT rfl rfl ?_
   obtain ⟨x24, hx24, h⟩ := Option.bind_eq_some_iff.1 h
   refine AW.regL [6] ?_
   generalize hK : AW Try.prog _ _ _ = K
   simp only [go_sem, ↓reduceIte, reduceCtorEq, Nat.reduceAdd, Nat.reduceSub, Nat.reduceMul, Nat.reduceEqDiff, Nat.reduceLT, Nat.reduceLeDiff, c20, c23]
   refine arC.of (ok7  x24 hx24) Try.call7 ?_
   simp only [go_sem, ↓reduceIte, reduceCtorEq, Nat.reduceAdd, Nat.reduceSub, Nat.reduceMul, Nat.reduceEqDiff, Nat.reduceLT, Nat.reduceLeDiff, c20, c23]
   subst hK
   refine AW.ret ?_
   refine thenA_r ?_
   obtain rfl := Option.some.inj h
   (simp only [go_sem, ↓reduceIte, reduceCtorEq, Nat.reduceAdd, Nat.reduceSub, Nat.reduceMul, Nat.reduceEqDiff, Nat.reduceLT, Nat.reduceLeDiff, c20, c23, finA] <;> try simp)
  ·rw [if_neg c23] at h
   rw [Bool.not_eq_true] at c23
   obtain ⟨x25, hx25, h⟩ := Option.bind_eq_some_iff.1 h
   by_cases c26 : x25 = true
   ·rw [if_pos c26] at h
    refine AW.regL [0, 1, 2, 32] ?_
    generalize hK : AW Try.prog _ _ _ = K
    simp only [go_sem, ↓reduceIte, reduceCtorEq, Nat.reduceAdd, Nat.reduceSub, Nat.reduceMul, Nat.reduceEqDiff, Nat.reduceLT, Nat.reduceLeDiff, c20, c23, c26]
    refine arC.of (ok5 a0 x19 hx19) Try.call5 ?_
    simp only [go_sem, ↓reduceIte, reduceCtorEq, Nat.reduceAdd, Nat.reduceSub, Nat.reduceMul, Nat.reduceEqDiff, Nat.reduceLT, Nat.reduceLeDiff, c20, c23, c26]
    refine arC.of (ok5 a1 x22 hx22) Try.call5 ?_
    simp only [go_sem, ↓reduceIte, reduceCtorEq, Nat.reduceAdd, Nat.reduceSub, Nat.reduceMul, Nat.reduceEqDiff, Nat.reduceLT, Nat.reduceLeDiff, c20, c23, c26]
    refine arC.of (ok5 a2 x25 hx25) Try.call5 ?_
    simp only [go_sem, ↓reduceIte, reduceCtorEq, Nat.reduceAdd, Nat.reduceSub, Nat.reduceMul, Nat.reduceEqDiff, Nat.reduceLT, Nat.reduceLeDiff, c20, c23, c26]
    subst hK
    refine AW.ifBT rfl rfl ?_
    obtain ⟨x27, hx27, h⟩ := Option.bind_eq_some_iff.1 h
    refine AW.regL [6] ?_
    generalize hK : AW Try.prog _ _ _ = K
    simp only [go_sem, ↓reduceIte, reduceCtorEq, Nat.reduceAdd, Nat.reduceSub, Nat.reduceMul, Nat.reduceEqDiff, Nat.reduceLT, Nat.reduceLeDiff, c20, c23, c26]
    refine arC.of (ok7  x27 hx27) Try.call7 ?_
    simp only [go_sem, ↓reduceIte, reduceCtorEq, Nat.reduceAdd, Nat.reduceSub, Nat.reduceMul, Nat.reduceEqDiff, Nat.reduceLT, Nat.reduceLeDiff, c20, c23, c26]
    subst hK
    refine AW.ret ?_
    refine thenA_r ?_
    obtain rfl := Option.some.inj h
    (simp only [go_sem, ↓reduceIte, reduceCtorEq, Nat.reduceAdd, Nat.reduceSub, Nat.reduceMul, Nat.reduceEqDiff, Nat.reduceLT, Nat.reduceLeDiff, c20, c23, c26, finA] <;> try simp)
   ·rw [if_neg c26] at h
    rw [Bool.not_eq_true] at c26
    obtain ⟨x28, hx28, h⟩ := Option.bind_eq_some_iff.1 h
    by_cases c29 : x28 = true
    ·rw [if_pos c29] at h
     obtain ⟨x30, hx30, h⟩ := Option.bind_eq_some_iff.1 h
     by_cases c31 : x30 = true
     ·rw [if_pos c31] at h
      obtain ⟨x32, hx32, h⟩ := Option.bind_eq_some_iff.1 h
      refine AW.regL [0, 1, 2, 32] ?_
      generalize hK : AW Try.prog _ _ _ = K
      simp only [go_sem, ↓reduceIte, reduceCtorEq, Nat.reduceAdd, Nat.reduceSub, Nat.reduceMul, Nat.reduceEqDiff, Nat.reduceLT, Nat.reduceLeDiff, c20, c23, c26, c29, c31]
      refine arC.of (ok5 a0 x19 hx19) Try.call5 ?_
      simp only [go_sem, ↓reduceIte, reduceCtorEq, Nat.reduceAdd, Nat.reduceSub, Nat.reduceMul, Nat.reduceEqDiff, Nat.reduceLT, Nat.reduceLeDiff, c20, c23, c26, c29, c31]
      refine arC.of (ok5 a1 x22 hx22) Try.call5 ?_
      simp only [go_sem, ↓reduceIte, reduceCtorEq, Nat.reduceAdd, Nat.reduceSub, Nat.reduceMul, Nat.reduceEqDiff, Nat.reduceLT, Nat.reduceLeDiff, c20, c23, c26, c29, c31]
      refine arC.of (ok5 a2 x25 hx25) Try.call5 ?_
      simp only [go_sem, ↓reduceIte, reduceCtorEq, Nat.reduceAdd, Nat.reduceSub, Nat.reduceMul, Nat.reduceEqDiff, Nat.reduceLT, Nat.reduceLeDiff, c20, c23, c26, c29, c31]
      refine arC.of (ok6 a0 x28 hx28) Try.call6 ?_
      simp only [go_sem, ↓reduceIte, reduceCtorEq, Nat.reduceAdd, Nat.reduceSub, Nat.reduceMul, Nat.reduceEqDiff, Nat.reduceLT, Nat.reduceLeDiff, c20, c23, c26, c29, c31]
      refine arC.of (ok6 a1 x30 hx30) Try.call6 ?_
      simp only [go_sem, ↓reduceIte, reduceCtorEq, Nat.reduceAdd, Nat.reduceSub, Nat.reduceMul, Nat.reduceEqDiff, Nat.reduceLT, Nat.reduceLeDiff, c20, c23, c26, c29, c31]
      refine arC.of (ok6 a2 x32 hx32) Try.call6 ?_
      simp only [go_sem, ↓reduceIte, reduceCtorEq, Nat.reduceAdd, Nat.reduceSub, Nat.reduceMul, Nat.reduceEqDiff, Nat.reduceLT, Nat.reduceLeDiff, c20, c23, c26, c29, c31]
      subst hK
      by_cases c33 : x32 = true
      ·rw [if_pos c33] at h
       refine AW.ifBF rfl (by first | (rw [c33]; rfl) | simp_all) ?_
       refine AW.skip ?_
       refine thenA_n ?_
       refine AW.regL [7] ?_
       generalize hK : AW Try.prog _ _ _ = K
       simp only [go_sem, ↓reduceIte, reduceCtorEq, Nat.reduceAdd, Nat.reduceSub, Nat.reduceMul, Nat.reduceEqDiff, Nat.reduceLT, Nat.reduceLeDiff, c20, c23, c26, c29, c31, c33]
       subst hK
       obtain ⟨x34, hx34, h⟩ := Option.bind_eq_some_iff.1 h
       obtain ⟨x35, hx35, h⟩ := Option.bind_eq_some_iff.1 h
       obtain ⟨x36, hx36, h⟩ := Option.bind_eq_some_iff.1 h
       by_cases c37 : x36 = true
       ·rw [if_pos c37] at h
        obtain ⟨x38, hx38, h⟩ := Option.bind_eq_some_iff.1 h
        refine AW.regL [6] ?_
        generalize hK : AW Try.prog _ _ _ = K
        simp only [go_sem, ↓reduceIte, reduceCtorEq, Nat.reduceAdd, Nat.reduceSub, Nat.reduceMul, Nat.reduceEqDiff, Nat.reduceLT, Nat.reduceLeDiff, c20, c23, c26, c29, c31, c33, c37]
        refine arC.of (ok9 [a0, a1, a2] x34 hx34) Try.call9 ?_
        simp only [go_sem, ↓reduceIte, reduceCtorEq, Nat.reduceAdd, Nat.reduceSub, Nat.reduceMul, Nat.reduceEqDiff, Nat.reduceLT, Nat.reduceLeDiff, c20, c23, c26, c29, c31, c33, c37]
        refine arC.of (ok10 [a0, a1, a2] x35 hx35) Try.call10 ?_
        simp only [go_sem, ↓reduceIte, reduceCtorEq, Nat.reduceAdd, Nat.reduceSub, Nat.reduceMul, Nat.reduceEqDiff, Nat.reduceLT, Nat.reduceLeDiff, c20, c23, c26, c29, c31, c33, c37]
        refine arC.of (ok8 x34 x35 x36 hx36) Try.call8 ?_
        simp only [go_sem, ↓reduceIte, reduceCtorEq, Nat.reduceAdd, Nat.reduceSub, Nat.reduceMul, Nat.reduceEqDiff, Nat.reduceLT, Nat.reduceLeDiff, c20, c23, c26, c29, c31, c33, c37]
        refine arC.of (ok7  x38 hx38) Try.call7 ?_
        simp only [go_sem, ↓reduceIte, reduceCtorEq, Nat.reduceAdd, Nat.reduceSub, Nat.reduceMul, Nat.reduceEqDiff, Nat.reduceLT, Nat.reduceLeDiff, c20, c23, c26, c29, c31, c33, c37]
        subst hK
        refine AW.ret ?_
        obtain rfl := Option.some.inj h
        (simp only [go_sem, ↓reduceIte, reduceCtorEq, Nat.reduceAdd, Nat.reduceSub, Nat.reduceMul, Nat.reduceEqDiff, Nat.reduceLT, Nat.reduceLeDiff, c20, c23, c26, c29, c31, c33, c37, finA] <;> try simp)
       ·rw [if_neg c37] at h
        rw [Bool.not_eq_true] at c37
        refine AW.regL [6] ?_
        generalize hK : AW Try.prog _ _ _ = K
        simp only [go_sem, ↓reduceIte, reduceCtorEq, Nat.reduceAdd, Nat.reduceSub, Nat.reduceMul, Nat.reduceEqDiff, Nat.reduceLT, Nat.reduceLeDiff, c20, c23, c26, c29, c31, c33, c37]
        refine arC.of (ok9 [a0, a1, a2] x34 hx34) Try.call9 ?_
        simp only [go_sem, ↓reduceIte, reduceCtorEq, Nat.reduceAdd, Nat.reduceSub, Nat.reduceMul, Nat.reduceEqDiff, Nat.reduceLT, Nat.reduceLeDiff, c20, c23, c26, c29, c31, c33, c37]
        refine arC.of (ok10 [a0, a1, a2] x35 hx35) Try.call10 ?_
        simp only [go_sem, ↓reduceIte, reduceCtorEq, Nat.reduceAdd, Nat.reduceSub, Nat.reduceMul, Nat.reduceEqDiff, Nat.reduceLT, Nat.reduceLeDiff, c20, c23, c26, c29, c31, c33, c37]
        refine arC.of (ok8 x34 x35 x36 hx36) Try.call8 ?_
        simp only [go_sem, ↓reduceIte, reduceCtorEq, Nat.reduceAdd, Nat.reduceSub, Nat.reduceMul, Nat.reduceEqDiff, Nat.reduceLT, Nat.reduceLeDiff, c20, c23, c26, c29, c31, c33, c37]
        subst hK
        refine AW.ret ?_
        obtain rfl := Option.some.inj h
        (simp only [go_sem, ↓reduceIte, reduceCtorEq, Nat.reduceAdd, Nat.reduceSub, Nat.reduceMul, Nat.reduceEqDiff, Nat.reduceLT, Nat.reduceLeDiff, c20, c23, c26, c29, c31, c33, c37, finA] <;> try simp)
      ·rw [if_neg c33] at h
       rw [Bool.not_eq_true] at c33
       refine AW.ifBT rfl (by first | (rw [c33]; rfl) | simp_all) ?_
       obtain ⟨x39, hx39, h⟩ := Option.bind_eq_some_iff.1 h
       refine AW.regL [6] ?_
       generalize hK : AW Try.prog _ _ _ = K
       simp only [go_sem, ↓reduceIte, reduceCtorEq, Nat.reduceAdd, Nat.reduceSub, Nat.reduceMul, Nat.reduceEqDiff, Nat.reduceLT, Nat.reduceLeDiff, c20, c23, c26, c29, c31, c33]
       refine arC.of (ok7  x39 hx39) Try.call7 ?_
       simp only [go_sem, ↓reduceIte, reduceCtorEq, Nat.reduceAdd, Nat.reduceSub, Nat.reduceMul, Nat.reduceEqDiff, Nat.reduceLT, Nat.reduceLeDiff, c20, c23, c26, c29, c31, c33]
       subst hK
       refine AW.ret ?_
       refine thenA_r ?_
       obtain rfl := Option.some.inj h
       (simp only [go_sem, ↓reduceIte, reduceCtorEq, Nat.reduceAdd, Nat.reduceSub, Nat.reduceMul, Nat.reduceEqDiff, Nat.reduceLT, Nat.reduceLeDiff, c20, c23, c26, c29, c31, c33, finA] <;> try simp)
     ·rw [if_neg c31] at h
      rw [Bool.not_eq_true] at c31
      refine AW.regL [0, 1, 2, 32] ?_
      generalize hK : AW Try.prog _ _ _ = K
      simp only [go_sem, ↓reduceIte, reduceCtorEq, Nat.reduceAdd, Nat.reduceSub, Nat.reduceMul, Nat.reduceEqDiff, Nat.reduceLT, Nat.reduceLeDiff, c20, c23, c26, c29, c31]
      refine arC.of (ok5 a0 x19 hx19) Try.call5 ?_
      simp only [go_sem, ↓reduceIte, reduceCtorEq, Nat.reduceAdd, Nat.reduceSub, Nat.reduceMul, Nat.reduceEqDiff, Nat.reduceLT, Nat.reduceLeDiff, c20, c23, c26, c29, c31]
      refine arC.of (ok5 a1 x22 hx22) Try.call5 ?_
      simp only [go_sem, ↓reduceIte, reduceCtorEq, Nat.reduceAdd, Nat.reduceSub, Nat.reduceMul, Nat.reduceEqDiff, Nat.reduceLT, Nat.reduceLeDiff, c20, c23, c26, c29, c31]
      refine arC.of (ok5 a2 x25 hx25) Try.call5 ?_
      simp only [go_sem, ↓reduceIte, reduceCtorEq, Nat.reduceAdd, Nat.reduceSub, Nat.reduceMul, Nat.reduceEqDiff, Nat.reduceLT, Nat.reduceLeDiff, c20, c23, c26, c29, c31]
      refine arC.of (ok6 a0 x28 hx28) Try.call6 ?_
      simp only [go_sem, ↓reduceIte, reduceCtorEq, Nat.reduceAdd, Nat.reduceSub, Nat.reduceMul, Nat.reduceEqDiff, Nat.reduceLT, Nat.reduceLeDiff, c20, c23, c26, c29, c31]
      refine arC.of (ok6 a1 x30 hx30) Try.call6 ?_
      simp only [go_sem, ↓reduceIte, reduceCtorEq, Nat.reduceAdd, Nat.reduceSub, Nat.reduceMul, Nat.reduceEqDiff, Nat.reduceLT, Nat.reduceLeDiff, c20, c23, c26, c29, c31]
      subst hK
      refine AW.ifBT rfl rfl ?_
      obtain ⟨x40, hx40, h⟩ := Option.bind_eq_some_iff.1 h
      refine AW.regL [6] ?_
      generalize hK : AW Try.prog _ _ _ = K
      simp only [go_sem, ↓reduceIte, reduceCtorEq, Nat.reduceAdd, Nat.reduceSub, Nat.reduceMul, Nat.reduceEqDiff, Nat.reduceLT, Nat.reduceLeDiff, c20, c23, c26, c29, c31]
      refine arC.of (ok7  x40 hx40) Try.call7 ?_
      simp only [go_sem, ↓reduceIte, reduceCtorEq, Nat.reduceAdd, Nat.reduceSub, Nat.reduceMul, Nat.reduceEqDiff, Nat.reduceLT, Nat.reduceLeDiff, c20, c23, c26, c29, c31]
      subst hK
      refine AW.ret ?_
      refine thenA_r ?_
      obtain rfl := Option.some.inj h
      (simp only [go_sem, ↓reduceIte, reduceCtorEq, Nat.reduceAdd, Nat.reduceSub, Nat.reduceMul, Nat.reduceEqDiff, Nat.reduceLT, Nat.reduceLeDiff, c20, c23, c26, c29, c31, finA] <;> try simp)
    ·rw [if_neg c29] at h
     rw [Bool.not_eq_true] at c29
     refine AW.regL [0, 1, 2, 32] ?_
     generalize hK : AW Try.prog _ _ _ = K
     simp only [go_sem, ↓reduceIte, reduceCtorEq, Nat.reduceAdd, Nat.reduceSub, Nat.reduceMul, Nat.reduceEqDiff, Nat.reduceLT, Nat.reduceLeDiff, c20, c23, c26, c29]
     refine arC.of (ok5 a0 x19 hx19) Try.call5 ?_
     simp only [go_sem, ↓reduceIte, reduceCtorEq, Nat.reduceAdd, Nat.reduceSub, Nat.reduceMul, Nat.reduceEqDiff, Nat.reduceLT, Nat.reduceLeDiff, c20, c23, c26, c29]
     refine arC.of (ok5 a1 x22 hx22) Try.call5 ?_
     simp only [go_sem, ↓reduceIte, reduceCtorEq, Nat.reduceAdd, Nat.reduceSub, Nat.reduceMul, Nat.reduceEqDiff, Nat.reduceLT, Nat.reduceLeDiff, c20, c23, c26, c29]
     refine arC.of (ok5 a2 x25 hx25) Try.call5 ?_
     simp only [go_sem, ↓reduceIte, reduceCtorEq, Nat.reduceAdd, Nat.reduceSub, Nat.reduceMul, Nat.reduceEqDiff, Nat.reduceLT, Nat.reduceLeDiff, c20, c23, c26, c29]
     refine arC.of (ok6 a0 x28 hx28) Try.call6 ?_
     simp only [go_sem, ↓reduceIte, reduceCtorEq, Nat.reduceAdd, Nat.reduceSub, Nat.reduceMul, Nat.reduceEqDiff, Nat.reduceLT, Nat.reduceLeDiff, c20, c23, c26, c29]
     subst hK
     refine AW.ifBT rfl rfl ?_
     obtain ⟨x41, hx41, h⟩ := Option.bind_eq_some_iff.1 h
     refine AW.regL [6] ?_
     generalize hK : AW Try.prog _ _ _ = K
     simp only [go_sem, ↓reduceIte, reduceCtorEq, Nat.reduceAdd, Nat.reduceSub, Nat.reduceMul, Nat.reduceEqDiff, Nat.reduceLT, Nat.reduceLeDiff, c20, c23, c26, c29]
     refine arC.of (ok7  x41 hx41) Try.call7 ?_
     simp only [go_sem, ↓reduceIte, reduceCtorEq, Nat.reduceAdd, Nat.reduceSub, Nat.reduceMul, Nat.reduceEqDiff, Nat.reduceLT, Nat.reduceLeDiff, c20, c23, c26, c29]
     subst hK
     refine AW.ret ?_
     refine thenA_r ?_
     obtain rfl := Option.some.inj h
     (simp only [go_sem, ↓reduceIte, reduceCtorEq, Nat.reduceAdd, Nat.reduceSub, Nat.reduceMul, Nat.reduceEqDiff, Nat.reduceLT, Nat.reduceLeDiff, c20, c23, c26, c29, finA] <;> try simp)
end Au
end Go.Proofs.Y5

set_option linter.all false
set_option maxRecDepth 8000
set_option maxHeartbeats 1000000
namespace Go.Proofs.Y5
open Go.Gm
namespace Au
theorem ris_adj {l : List Int} (h : ∀ i, (hi : i + 1 < l.length) → l[i] < l[i + 1]) : Ris l := by
  induction l with
  | nil => exact List.Pairwise.nil
  | cons a l ih =>
    have ht : Ris l := ih fun i hi => h (i + 1) (by simpa using hi)
    refine List.pairwise_cons.2 ⟨fun z hz => ?_, ht⟩
    cases l with
    | nil => cases hz
    | cons b l =>
      have hab : a < b := h 0 (by simp)
      rcases List.mem_cons.1 hz with rfl | hz
      · exact hab
      · have := (List.pairwise_cons.1 ht).1 z hz; omega
theorem right_one {l : List Item} {i : Nat} (hi : i < l.length) (hl : l[i].Offs.length ≤ 2000000) : loopO (f6_s4 l (i : Int)) 1 = some (.inl false) ∨ (loopO (f6_s4 l (i : Int)) 1 = some (.inr ()) ∧ Ris l[i].Offs) := by
  have key : ∃ r, loopO (f6_s4 l (i : Int)) ((1 : Nat) : Int) = some r ∧ (r = .inl false ∨ (r = .inr () ∧ Ris l[i].Offs)) := by
    refine loopO_of (step := f6_s4 l (i : Int)) (I := fun k s => ∃ j : Nat, s = (j : Int) ∧ 1 ≤ j ∧ (∀ q, (hq : q + 1 < l[i].Offs.length) → q + 1 < j → l[i].Offs[q] < l[i].Offs[q + 1]) ∧ k = l[i].Offs.length + 1 - j) ?_ (k := l[i].Offs.length) ⟨1, rfl, by omega, fun q hq h => by omega, by omega⟩
    rintro k _ ⟨j, rfl, hj, ha, hk⟩
    by_cases c : j < l[i].Offs.length
    · obtain ⟨n, rfl⟩ : ∃ n, j = n + 1 := ⟨j - 1, by omega⟩
      have hw : IntKind.i64.wrap (((n + 1 : Nat) : Int) - 1) = (n : Int) := by rw [i64_id (by omega) (by omega)]; omega
      have hn : n < l[i].Offs.length := by omega
      have hst : f6_s4 l (i : Int) ((n + 1 : Nat) : Int) = if l[i].Offs[n + 1] ≤ l[i].Offs[n] then some (.inr (.inl false)) else some (.inl ((n + 1 + 1 : Nat) : Int)) := by
        simp only [f6_s4, ixN hi, Option.bind_some, if_pos (show ((n + 1 : Nat) : Int) < (l[i].Offs.length : Int) by omega), hw, ixN hn, ixN c, wrapN (show n + 1 ≤ 10000000000 by omega)]
      by_cases c2 : l[i].Offs[n + 1] ≤ l[i].Offs[n]
      · exact .inr ⟨_, by rw [hst, if_pos c2], .inl rfl⟩
      · refine .inl ⟨_, l[i].Offs.length + 1 - (n + 1 + 1), by rw [hst, if_neg c2], by omega, n + 1 + 1, rfl, by omega, fun q hq h => ?_, rfl⟩
        by_cases e : q = n
        · subst e; omega
        · exact ha q hq (by omega)
    · refine .inr ⟨.inr (), ?_, .inr ⟨rfl, ris_adj fun q hq => ha q hq (by omega)⟩⟩
      simp only [f6_s4, ixN hi, Option.bind_some, if_neg (show ¬ (j : Int) < (l[i].Offs.length : Int) by omega)]
  obtain ⟨r, h1, h2⟩ := key
  rcases h2 with rfl | ⟨rfl, h2⟩
  · exact .inl h1
  · exact .inr ⟨h1, h2⟩
theorem right_eq {l : List Item} (hl : l.length ≤ 1000) (hb : ∀ x ∈ l, x.Offs.length ≤ 2000000) : f6 l = some false ∨ (f6 l = some true ∧ ∀ x ∈ l, Ris x.Offs) := by
  have key : ∃ r, loopO (f6_s1 l) ((0 : Nat) : Int) = some r ∧ (r = .inl false ∨ (r = .inr () ∧ ∀ x ∈ l, Ris x.Offs)) := by
    refine loopO_of (step := f6_s1 l) (I := fun k s => ∃ i : Nat, s = (i : Int) ∧ i ≤ l.length ∧ (∀ x ∈ l.take i, Ris x.Offs) ∧ k = l.length - i) ?_ (k := l.length) ⟨0, rfl, by omega, by simp, rfl⟩
    rintro k _ ⟨i, rfl, hi, ha, hk⟩
    by_cases c : i < l.length
    · rcases right_one c (hb _ (List.getElem_mem c)) with h | ⟨h, hr⟩
      · refine .inr ⟨.inl false, ?_, .inl rfl⟩
        simp only [f6_s1, if_pos (show (i : Int) < (l.length : Int) by omega), h, Option.bind_some]
      · refine .inl ⟨((i + 1 : Nat) : Int), l.length - (i + 1), ?_, by omega, i + 1, rfl, by omega, fun x hx => ?_, rfl⟩
        · simp only [f6_s1, if_pos (show (i : Int) < (l.length : Int) by omega), h, Option.bind_some, wrapN (show i ≤ 10000000000 by omega)]
        · rw [List.take_succ_eq_append_getElem c] at hx
          rcases List.mem_append.1 hx with hx | hx
          · exact ha x hx
          · simp at hx; rw [hx]; exact hr
    · refine .inr ⟨.inr (), ?_, .inr ⟨rfl, ?_⟩⟩
      · simp only [f6_s1, if_neg (show ¬ (i : Int) < (l.length : Int) by omega)]
      · rw [List.take_of_length_le (by omega)] at ha; exact ha
  obtain ⟨r, h1, h2⟩ := key
  unfold f6
  rw [show (0 : Int) = ((0 : Nat) : Int) from rfl, h1]
  rcases h2 with rfl | ⟨rfl, h2⟩
  · exact .inl rfl
  · exact .inr ⟨rfl, h2⟩
theorem law_main {a b c : List Item} (ha : a.length ≤ 60) (hb : b.length ≤ 60) (hc : c.length ≤ 60) (oa : ∀ x ∈ a, Ok x ∧ Ris x.Offs) (ob : ∀ x ∈ b, Ok x ∧ Ris x.Offs) (oc : ∀ x ∈ c, Ok x ∧ Ris x.Offs) :
    ∃ r, f9 [a, b, c] = some r ∧ f10 [a, b, c] = some r ∧ f8 r r = some true := by
  have hfl : [a, b, c].flatten = a ++ (b ++ c) := by simp
  have hol : ∀ x ∈ [a, b, c].flatten, Ok x ∧ Ris x.Offs := fun x hx => by
    rw [hfl] at hx
    rcases List.mem_append.1 hx with hx | hx
    · exact oa x hx
    · rcases List.mem_append.1 hx with hx | hx
      · exact ob x hx
      · exact oc x hx
  have hn : [a, b, c].flatten.length ≤ 200 := by rw [hfl, List.length_append, List.length_append]; omega
  have hll : ∀ l ∈ [a, b, c], l.length ≤ 60 := fun l hl => by
    simp at hl; rcases hl with rfl | rfl | rfl <;> assumption
  obtain ⟨M, d, t, h1, h2, h3, h4, h5, h6⟩ := all_eq (L := [a, b, c]) (by simp) (fun l hl => by have := hll l hl; omega) hn (fun x hx => (hol x hx).1)
  obtain ⟨out, k1, k2⟩ := ref_eq (L := [a, b, c]) (by simp) (fun l hl => by have := hll l hl; omega) hn hol
  obtain ⟨r1, _⟩ := fold_rep M.length M rfl h3
  rw [← h2] at r1
  have hrep := r1.sf h4
  have he : aout d t = out := hrep.uniq k2
  refine ⟨out, by rw [h1, he], k1, ?_⟩
  have hbk := k2.bk fun x hx => (hol x hx).1
  have hlen : out.length ≤ 1000000 := by
    rw [← he]
    have := h6.1
    simp only at this
    cases t with
    | none => simp [aout]
    | some y => simp [aout]; omega
  refine same_items hlen fun y hy => ?_
  obtain ⟨⟨b1, b2, b3, b4⟩, _⟩ := hbk y hy
  exact ⟨by omega, ⟨by omega, fun p hp => by have := b4 p hp; omega⟩, by omega⟩
theorem law3 {a b c : List Item} (ha : ∀ x ∈ a, Bnd x) (hb : ∀ x ∈ b, Bnd x) (hc : ∀ x ∈ c, Bnd x) : f3 a b c = some true := by
  unfold f3
  rcases much_eq ha with h | ⟨h, la, sa⟩
  · simp only [h, Option.bind_some, if_true, live_ok]
  rcases much_eq hb with k | ⟨k, lb, sb⟩
  · simp only [h, k, Option.bind_some, if_true, live_ok, Bool.false_eq_true, if_false]
  rcases much_eq hc with g | ⟨g, lc, sc⟩
  · simp only [h, k, g, Option.bind_some, if_true, live_ok, Bool.false_eq_true, if_false]
  rcases right_eq (l := a) (by omega) (fun x hx => (ha x hx).2.2) with ra | ⟨ra, qa⟩
  · simp only [h, k, g, ra, Option.bind_some, if_true, live_ok, Bool.false_eq_true, if_false]
  rcases right_eq (l := b) (by omega) (fun x hx => (hb x hx).2.2) with rb | ⟨rb, qb⟩
  · simp only [h, k, g, ra, rb, Option.bind_some, if_true, live_ok, Bool.false_eq_true, if_false]
  rcases right_eq (l := c) (by omega) (fun x hx => (hc x hx).2.2) with rc | ⟨rc, qc⟩
  · simp only [h, k, g, ra, rb, rc, Option.bind_some, if_true, live_ok, Bool.false_eq_true, if_false]
  obtain ⟨r, e1, e2, e3⟩ := law_main la lb lc (fun x hx => ⟨⟨sa x hx, ha x hx⟩, qa x hx⟩) (fun x hx => ⟨⟨sb x hx, hb x hx⟩, qb x hx⟩) (fun x hx => ⟨⟨sc x hx, hc x hx⟩, qc x hx⟩)
  simp only [h, k, g, ra, rb, rc, e1, e2, e3, Option.bind_some, if_true, live_ok, Bool.false_eq_true, if_false]
end Au
end Go.Proofs.Y5
