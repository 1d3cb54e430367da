import Derived.Test.YtncdjladnpogiaaGsDS
import Derived.Test.YtncdjladnpogiaaGsW7
set_option linter.all false
set_option linter.unusedVariables false
set_option linter.unusedSimpArgs false
set_option linter.all false
set_option maxRecDepth 8000
set_option maxHeartbeats 1000000
namespace Go.Proofs.Y2
open Go.Gm
namespace Au
noncomputable def f11_s1 (a0 : List Res) (a1 : Int) : (List Int) × Int → Option (((List Int) × Int) ⊕ (List Int))
  | (s1_0, s1_1) => (if s1_1 < (a0.length : Int) then ((ix a0 s1_1).bind fun x19 => ((f23 x19.Key (minI a1 8)).bind fun x20 => ((ix s1_0 x20).bind fun x21 => some (.inl ((s1_0.set x20.toNat (IntKind.i64.wrap (x21 + 1))), IntKind.i64.wrap (s1_1 + 1)))))) else some (.inr s1_0))
noncomputable def f11 (a0 : List Res) (a1 : Int) : Option (List Int) := (if a1 < 1 then some [] else ((mkO (minI a1 8) (0 : Int)).bind fun x3 => ((loopO (f11_s1 a0 a1) (x3, 0)).bind fun y23 => some y23)))
theorem ok11 (a0 : List Res) (a1 : Int) (r : (List Int)) (h : f11 a0 a1 = some r) : PC Try.prog 11 [.sl (List.map encRes a0), .val (.int .i64 a1)] (.fr 1 (List.map enc3 r)) := by
 rw [f11] at h
 refine pc_of8 (N := 31) (rs := [.tmp 4]) Try.func11 rfl rfl rfl (Nat.le_of_ble_eq_true rfl) ?_
 refine AW.regL [0, 1] ?_
 generalize hK : AW Try.prog _ _ _ = K
 simp only [go_sem, ↓reduceIte, reduceCtorEq, Nat.reduceAdd, Nat.reduceSub, Nat.reduceMul, Nat.reduceEqDiff, Nat.reduceLT, Nat.reduceLeDiff]
 subst hK
 refine AW.seq ?_
 refine AW.regL [0, 1, 9] ?_
 generalize hK : AW Try.prog _ _ _ = K
 simp only [go_sem, ↓reduceIte, reduceCtorEq, Nat.reduceAdd, Nat.reduceSub, Nat.reduceMul, Nat.reduceEqDiff, Nat.reduceLT, Nat.reduceLeDiff]
 subst hK
 by_cases c2 : a1 < 1
 ·rw [if_pos c2] at h
  refine AW.ifT rfl c2 ?_
  refine AW.regL [4] ?_
  generalize hK : AW Try.prog _ _ _ = K
  simp only [go_sem, ↓reduceIte, reduceCtorEq, Nat.reduceAdd, Nat.reduceSub, Nat.reduceMul, Nat.reduceEqDiff, Nat.reduceLT, Nat.reduceLeDiff, eq_true c2]
  subst hK
  refine AW.ent (Ent.nilOwn 4 1 (by decide) rfl) ?_
  refine AW.ret ?_
  refine thenA_r ?_
  obtain rfl := Option.some.inj h
  (simp only [go_sem, ↓reduceIte, reduceCtorEq, Nat.reduceAdd, Nat.reduceSub, Nat.reduceMul, Nat.reduceEqDiff, Nat.reduceLT, Nat.reduceLeDiff, eq_true c2, finA] <;> try simp)
 ·rw [if_neg c2] at h
  refine AW.ifF rfl c2 ?_
  refine AW.skip ?_
  refine thenA_n ?_
  refine AW.regL [0, 1] ?_
  generalize hK : AW Try.prog _ _ _ = K
  simp only [go_sem, ↓reduceIte, reduceCtorEq, Nat.reduceAdd, Nat.reduceSub, Nat.reduceMul, Nat.reduceEqDiff, Nat.reduceLT, Nat.reduceLeDiff, eq_false c2]
  subst hK
  obtain ⟨x3, hx3, h⟩ := Option.bind_eq_some_iff.1 h
  refine AW.regL [0, 1, 5] ?_
  generalize hK : AW Try.prog _ _ _ = K
  simp only [go_sem, ↓reduceIte, reduceCtorEq, Nat.reduceAdd, Nat.reduceSub, Nat.reduceMul, Nat.reduceEqDiff, Nat.reduceLT, Nat.reduceLeDiff, eq_false c2, make_ok mk25 (enc := enc3) rfl (by decide) hx3]
  subst hK
  refine AW.seq ?_
  refine AW.regL [1, 5, 14, 15, 16] ?_
  generalize hK : AW Try.prog _ _ _ = K
  simp only [go_sem, ↓reduceIte, reduceCtorEq, Nat.reduceAdd, Nat.reduceSub, Nat.reduceMul, Nat.reduceEqDiff, Nat.reduceLT, Nat.reduceLeDiff, eq_false c2]
  subst hK
  refine AW.block ?_
  obtain ⟨y23, hy23, h⟩ := Option.bind_eq_some_iff.1 h
  refine AW.loopO (fun s => ⟨(upd (upd (upd (upd (upd anyF 1 (.val (.int .i64 (minI a1 8)))) 5 (.own 8 0 s.1.length)) 14 (.sl (List.map encRes a0))) 15 (.val (.int .i64 (a0.length : Int)))) 16 (.val (.int .i64 s.2))), hpL [] [some (.row 1 true (List.map enc3 s.1))], 9⟩) (fun z e st' => e = Exit.exit 0 ∧ st' = ⟨(upd anyF 5 (.own 8 0 z.length)), hpL [] [some (.row 1 true (List.map enc3 z))], 9⟩) hy23 ?_ ?_ ?_
  ·refine Ent.can [64] _ _ _ rfl (by first | decide | simp) rfl ?_ ?_ ?_
   · exact (((((RF.any.pv (by first | rfl | simp only [go_sem]) (by first | rfl | simp [upd_ap, hpL_ap, tau, mapT, mapTL, bytesI_len, eq_false c2])).po (by decide) (by first | rfl | simp [upd_ap, hpL_ap, tau, mapT, mapTL, bytesI_len, eq_false c2])).pv (by first | rfl | simp only [go_sem]) (by first | rfl | simp [upd_ap, hpL_ap, tau, mapT, mapTL, bytesI_len, eq_false c2])).pv (by first | rfl | simp only [go_sem]) (by first | rfl | simp [upd_ap, hpL_ap, tau, mapT, mapTL, bytesI_len, eq_false c2])).pv (by first | rfl | simp only [go_sem]) (by first | rfl | simp [upd_ap, hpL_ap, tau, mapT, mapTL, bytesI_len, eq_false c2]))
   · exact .nil _
   · exact .cons (.eq (by first | rfl | simp only [go_sem]) (by first | rfl | simp [upd_ap, hpL_ap, tau, mapT, mapTL, bytesI_len, eq_false c2])) (.nil _)
  ·clear h hy23
   rintro ⟨s1_0, s1_1⟩ x h
   rw [f11_s1] at h
   refine AW.regL [1, 5, 14, 15, 16, 17] ?_
   generalize hK : AW Try.prog _ _ _ = K
   simp only [go_sem, ↓reduceIte, reduceCtorEq, Nat.reduceAdd, Nat.reduceSub, Nat.reduceMul, Nat.reduceEqDiff, Nat.reduceLT, Nat.reduceLeDiff, eq_false c2]
   subst hK
   refine AW.seq ?_
   by_cases c18 : s1_1 < (a0.length : Int)
   ·rw [if_pos c18] at h
    refine AW.ifT rfl c18 ?_
    refine AW.skip ?_
    refine thenA_n ?_
    refine AW.seq ?_
    refine AW.block ?_
    obtain ⟨x19, hx19, h⟩ := Option.bind_eq_some_iff.1 h
    obtain ⟨hx19a, hx19b⟩ := ix_some.1 hx19
    refine AW.regL [1, 5, 7, 14, 15, 16] ?_
    generalize hK : AW Try.prog _ _ _ = K
    simp only [go_sem, ↓reduceIte, reduceCtorEq, Nat.reduceAdd, Nat.reduceSub, Nat.reduceMul, Nat.reduceEqDiff, Nat.reduceLT, Nat.reduceLeDiff, eq_false c2, eq_true c18, natOf_le hx19a, hx19b]
    subst hK
    obtain ⟨x20, hx20, h⟩ := Option.bind_eq_some_iff.1 h
    obtain ⟨x21, hx21, h⟩ := Option.bind_eq_some_iff.1 h
    obtain ⟨hx21a, hx21b⟩ := ix_some.1 hx21
    refine AW.regionL [1, 5, 14, 15, 16] ?_
    generalize hK : inBlockA _ _ Exit.normal = K
    simp only [go_sem, ↓reduceIte, reduceCtorEq, Nat.reduceAdd, Nat.reduceSub, Nat.reduceMul, Nat.reduceEqDiff, Nat.reduceLT, Nat.reduceLeDiff, eq_false c2, eq_true c18, natOf_le hx21a, hx21b, ix_lt hx21b, set_enc (enc := enc3) (fun _ => rfl)]
    refine arC.of (ok23 x19.Key (minI a1 8) x20 hx20) Try.call23 ?_
    simp only [go_sem, ↓reduceIte, reduceCtorEq, Nat.reduceAdd, Nat.reduceSub, Nat.reduceMul, Nat.reduceEqDiff, Nat.reduceLT, Nat.reduceLeDiff, eq_false c2, eq_true c18, natOf_le hx21a, hx21b, ix_lt hx21b, set_enc (enc := enc3) (fun _ => rfl)]
    subst hK
    refine block_n ?_
    refine thenA_n ?_
    refine AW.regionL [1, 5, 14, 15, 16] ?_
    generalize hK : thenA _ _ Exit.normal = K
    simp only [go_sem, ↓reduceIte, reduceCtorEq, Nat.reduceAdd, Nat.reduceSub, Nat.reduceMul, Nat.reduceEqDiff, Nat.reduceLT, Nat.reduceLeDiff, eq_false c2, eq_true c18]
    subst hK
    refine thenA_n ?_
    refine ⟨_, (Option.some.inj h).symm, ?_⟩
    refine Ent.can [8] _ _ _ rfl (by first | decide | simp) rfl ?_ ?_ ?_
    · exact (((((RF.any.pv (by first | rfl | simp only [go_sem]) (by first | rfl | simp [upd_ap, hpL_ap, tau, mapT, mapTL, bytesI_len, eq_false c2, eq_true c18])).po (by decide) (by first | rfl | simp [upd_ap, hpL_ap, tau, mapT, mapTL, bytesI_len, eq_false c2, eq_true c18])).pv (by first | rfl | simp only [go_sem]) (by first | rfl | simp [upd_ap, hpL_ap, tau, mapT, mapTL, bytesI_len, eq_false c2, eq_true c18])).pv (by first | rfl | simp only [go_sem]) (by first | rfl | simp [upd_ap, hpL_ap, tau, mapT, mapTL, bytesI_len, eq_false c2, eq_true c18])).pv (by first | rfl | simp only [go_sem]) (by first | rfl | simp [upd_ap, hpL_ap, tau, mapT, mapTL, bytesI_len, eq_false c2, eq_true c18]))
    · exact .nil _
    · exact .cons (.eq (by first | rfl | simp only [go_sem]) (by first | rfl | simp [upd_ap, hpL_ap, tau, mapT, mapTL, bytesI_len, eq_false c2, eq_true c18])) (.nil _)
   ·rw [if_neg c18] at h
    refine AW.ifF rfl c18 ?_
    refine AW.exit ?_
    refine thenA_x ?_
    refine thenA_x ?_
    refine ⟨_, (Option.some.inj h).symm, _, ?_, rfl, rfl⟩
    refine Ent.can [8] _ _ _ rfl (by first | decide | simp) rfl ?_ ?_ ?_
    · exact (RF.any.po (by decide) (by first | rfl | simp [upd_ap, hpL_ap, tau, mapT, mapTL, bytesI_len, eq_false c2, eq_false c18]))
    · exact .nil _
    · exact .cons (.eq (by first | rfl | simp only [go_sem]) (by first | rfl | simp [upd_ap, hpL_ap, tau, mapT, mapTL, bytesI_len, eq_false c2, eq_false c18])) (.nil _)
  ·intro e st' hX
   try dsimp only at h
   try dsimp only at hX
   obtain ⟨rfl, rfl⟩ := hX
   refine ⟨_, Ent.refl, ?_⟩
   refine block_x ?_
   refine thenA_n ?_
   refine AW.regL [4] ?_
   generalize hK : AW Try.prog _ _ _ = K
   simp only [go_sem, ↓reduceIte, reduceCtorEq, Nat.reduceAdd, Nat.reduceSub, Nat.reduceMul, Nat.reduceEqDiff, Nat.reduceLT, Nat.reduceLeDiff, eq_false c2]
   subst hK
   refine AW.ret ?_
   obtain rfl := Option.some.inj h
   (simp only [go_sem, ↓reduceIte, reduceCtorEq, Nat.reduceAdd, Nat.reduceSub, Nat.reduceMul, Nat.reduceEqDiff, Nat.reduceLT, Nat.reduceLeDiff, eq_false c2, finA] <;> try simp)
end Au
end Go.Proofs.Y2

set_option linter.all false
set_option maxRecDepth 8000
set_option maxHeartbeats 1000000
namespace Go.Proofs.Y2
open Go.Gm
namespace Au
noncomputable def f12_s1 (a0 : List Res) (j1_0 : Int) : (List Int) × Int → Option (((List Int) × Int) ⊕ (List Int))
  | (s1_0, s1_1) => (if s1_1 < (a0.length : Int) then ((ix a0 s1_1).bind fun x17 => ((f24 x17.Key j1_0).bind fun x18 => ((ix s1_0 x18).bind fun x19 => some (.inl ((s1_0.set x18.toNat (IntKind.i64.wrap (x19 + 1))), IntKind.i64.wrap (s1_1 + 1)))))) else some (.inr s1_0))
noncomputable def f12_j1 (a0 : List Res) : Int → Option (List Int)
  | j1_0 => ((mkO j1_0 (0 : Int)).bind fun x4 => ((loopO (f12_s1 a0 j1_0) (x4, 0)).bind fun y21 => some y21))
noncomputable def f12 (a0 : List Res) (a1 : Int) : Option (List Int) := (if a1 < 1 then some [] else (if 8 < a1 then f12_j1 a0 8 else f12_j1 a0 a1))
theorem ok12 (a0 : List Res) (a1 : Int) (r : (List Int)) (h : f12 a0 a1 = some r) : PC Try.prog 12 [.sl (List.map encRes a0), .val (.int .i64 a1)] (.fr 1 (List.map enc3 r)) := by
 rw [f12] at h
 refine pc_of8 (N := 32) (rs := [.tmp 4]) Try.func12 rfl rfl rfl (Nat.le_of_ble_eq_true rfl) ?_
 refine AW.regL [0, 1] ?_
 generalize hK : AW Try.prog _ _ _ = K
 simp only [go_sem, ↓reduceIte, reduceCtorEq, Nat.reduceAdd, Nat.reduceSub, Nat.reduceMul, Nat.reduceEqDiff, Nat.reduceLT, Nat.reduceLeDiff]
 subst hK
 refine AW.seq ?_
 refine AW.regL [0, 1, 8] ?_
 generalize hK : AW Try.prog _ _ _ = K
 simp only [go_sem, ↓reduceIte, reduceCtorEq, Nat.reduceAdd, Nat.reduceSub, Nat.reduceMul, Nat.reduceEqDiff, Nat.reduceLT, Nat.reduceLeDiff]
 subst hK
 by_cases c2 : a1 < 1
 ·rw [if_pos c2] at h
  refine AW.ifT rfl c2 ?_
  refine AW.regL [4] ?_
  generalize hK : AW Try.prog _ _ _ = K
  simp only [go_sem, ↓reduceIte, reduceCtorEq, Nat.reduceAdd, Nat.reduceSub, Nat.reduceMul, Nat.reduceEqDiff, Nat.reduceLT, Nat.reduceLeDiff, eq_true c2]
  subst hK
  refine AW.ent (Ent.nilOwn 4 1 (by decide) rfl) ?_
  refine AW.ret ?_
  refine thenA_r ?_
  obtain rfl := Option.some.inj h
  (simp only [go_sem, ↓reduceIte, reduceCtorEq, Nat.reduceAdd, Nat.reduceSub, Nat.reduceMul, Nat.reduceEqDiff, Nat.reduceLT, Nat.reduceLeDiff, eq_true c2, finA] <;> try simp)
 ·rw [if_neg c2] at h
  refine AW.ifF rfl c2 ?_
  refine AW.skip ?_
  refine thenA_n ?_
  refine AW.join (fun s => ⟨(upd (upd anyF 0 (.sl (List.map encRes a0))) 1 (.val (.int .i64 s))), hpL [] [], 8⟩) (fun s => f12_j1 a0 s = some r) ?_ ?_
  ·refine AW.regL [0, 1, 10] ?_
   generalize hK : AW Try.prog _ _ _ = K
   simp only [go_sem, ↓reduceIte, reduceCtorEq, Nat.reduceAdd, Nat.reduceSub, Nat.reduceMul, Nat.reduceEqDiff, Nat.reduceLT, Nat.reduceLeDiff, eq_false c2]
   subst hK
   by_cases c22 : 8 < a1
   ·rw [if_pos c22] at h
    refine AW.ifT rfl c22 ?_
    refine AW.regionL [0, 1] ?_
    generalize hK : thenA _ _ Exit.normal = K
    simp only [go_sem, ↓reduceIte, reduceCtorEq, Nat.reduceAdd, Nat.reduceSub, Nat.reduceMul, Nat.reduceEqDiff, Nat.reduceLT, Nat.reduceLeDiff, eq_false c2, eq_true c22]
    subst hK
    refine thenA_n ?_
    refine ⟨_, h, ?_⟩
    refine Ent.can [] _ _ _ rfl (by first | decide | simp) rfl ?_ ?_ ?_
    · exact ((RF.any.pv (by first | rfl | simp only [go_sem]) (by first | rfl | simp [upd_ap, hpL_ap, tau, mapT, mapTL, bytesI_len, eq_false c2, eq_true c22])).pv (by first | rfl | simp only [go_sem]) (by first | rfl | simp [upd_ap, hpL_ap, tau, mapT, mapTL, bytesI_len, eq_false c2, eq_true c22]))
    · exact .nil _
    · exact .nil _
   ·rw [if_neg c22] at h
    refine AW.ifF rfl c22 ?_
    refine AW.skip ?_
    refine thenA_n ?_
    refine ⟨_, h, ?_⟩
    refine Ent.can [] _ _ _ rfl (by first | decide | simp) rfl ?_ ?_ ?_
    · exact ((RF.any.pv (by first | rfl | simp only [go_sem]) (by first | rfl | simp [upd_ap, hpL_ap, tau, mapT, mapTL, bytesI_len, eq_false c2, eq_false c22])).pv (by first | rfl | simp only [go_sem]) (by first | rfl | simp [upd_ap, hpL_ap, tau, mapT, mapTL, bytesI_len, eq_false c2, eq_false c22]))
    · exact .nil _
    · exact .nil _
  ·clear h
   rintro j1_0 h
   rw [f12_j1] at h
   obtain ⟨x4, hx4, h⟩ := Option.bind_eq_some_iff.1 h
   refine AW.regL [0, 1, 5] ?_
   generalize hK : AW Try.prog _ _ _ = K
   simp only [go_sem, ↓reduceIte, reduceCtorEq, Nat.reduceAdd, Nat.reduceSub, Nat.reduceMul, Nat.reduceEqDiff, Nat.reduceLT, Nat.reduceLeDiff, eq_false c2, make_ok mk25 (enc := enc3) rfl (by decide) hx4]
   subst hK
   refine AW.seq ?_
   refine AW.regL [0, 1, 5, 6] ?_
   generalize hK : AW Try.prog _ _ _ = K
   simp only [go_sem, ↓reduceIte, reduceCtorEq, Nat.reduceAdd, Nat.reduceSub, Nat.reduceMul, Nat.reduceEqDiff, Nat.reduceLT, Nat.reduceLeDiff, eq_false c2]
   subst hK
   refine AW.block ?_
   obtain ⟨y21, hy21, h⟩ := Option.bind_eq_some_iff.1 h
   refine AW.loopO (fun s => ⟨(upd (upd (upd (upd anyF 0 (.sl (List.map encRes a0))) 1 (.val (.int .i64 j1_0))) 5 (.own 8 0 s.1.length)) 6 (.val (.int .i64 s.2))), hpL [] [some (.row 1 true (List.map enc3 s.1))], 9⟩) (fun z e st' => e = Exit.exit 0 ∧ st' = ⟨(upd anyF 5 (.own 8 0 z.length)), hpL [] [some (.row 1 true (List.map enc3 z))], 9⟩) hy21 ?_ ?_ ?_
   ·refine Ent.can [16] _ _ _ rfl (by first | decide | simp) rfl ?_ ?_ ?_
    · exact ((((RF.any.pv (by first | rfl | simp only [go_sem]) (by first | rfl | simp [upd_ap, hpL_ap, tau, mapT, mapTL, bytesI_len, eq_false c2])).pv (by first | rfl | simp only [go_sem]) (by first | rfl | simp [upd_ap, hpL_ap, tau, mapT, mapTL, bytesI_len, eq_false c2])).po (by decide) (by first | rfl | simp [upd_ap, hpL_ap, tau, mapT, mapTL, bytesI_len, eq_false c2])).pv (by first | rfl | simp only [go_sem]) (by first | rfl | simp [upd_ap, hpL_ap, tau, mapT, mapTL, bytesI_len, eq_false c2]))
    · exact .nil _
    · exact .cons (.eq (by first | rfl | simp only [go_sem]) (by first | rfl | simp [upd_ap, hpL_ap, tau, mapT, mapTL, bytesI_len, eq_false c2])) (.nil _)
   ·clear h hy21
    rintro ⟨s1_0, s1_1⟩ x h
    rw [f12_s1] at h
    refine AW.seq ?_
    refine AW.regL [0, 1, 5, 6, 16] ?_
    generalize hK : AW Try.prog _ _ _ = K
    simp only [go_sem, ↓reduceIte, reduceCtorEq, Nat.reduceAdd, Nat.reduceSub, Nat.reduceMul, Nat.reduceEqDiff, Nat.reduceLT, Nat.reduceLeDiff, eq_false c2]
    subst hK
    by_cases c16 : s1_1 < (a0.length : Int)
    ·rw [if_pos c16] at h
     refine AW.ifT rfl c16 ?_
     refine AW.skip ?_
     refine thenA_n ?_
     refine AW.seq ?_
     refine AW.block ?_
     obtain ⟨x17, hx17, h⟩ := Option.bind_eq_some_iff.1 h
     obtain ⟨hx17a, hx17b⟩ := ix_some.1 hx17
     obtain ⟨x18, hx18, h⟩ := Option.bind_eq_some_iff.1 h
     obtain ⟨x19, hx19, h⟩ := Option.bind_eq_some_iff.1 h
     obtain ⟨hx19a, hx19b⟩ := ix_some.1 hx19
     refine AW.regionL [0, 1, 5, 6] ?_
     generalize hK : inBlockA _ _ Exit.normal = K
     simp only [go_sem, ↓reduceIte, reduceCtorEq, Nat.reduceAdd, Nat.reduceSub, Nat.reduceMul, Nat.reduceEqDiff, Nat.reduceLT, Nat.reduceLeDiff, eq_false c2, eq_true c16, natOf_le hx17a, hx17b, natOf_le hx19a, hx19b, ix_lt hx19b, set_enc (enc := enc3) (fun _ => rfl)]
     refine arC.of (ok24 x17.Key j1_0 x18 hx18) Try.call24 ?_
     simp only [go_sem, ↓reduceIte, reduceCtorEq, Nat.reduceAdd, Nat.reduceSub, Nat.reduceMul, Nat.reduceEqDiff, Nat.reduceLT, Nat.reduceLeDiff, eq_false c2, eq_true c16, natOf_le hx17a, hx17b, natOf_le hx19a, hx19b, ix_lt hx19b, set_enc (enc := enc3) (fun _ => rfl)]
     subst hK
     refine block_n ?_
     refine thenA_n ?_
     refine AW.regionL [0, 1, 5, 6] ?_
     generalize hK : thenA _ _ Exit.normal = K
     simp only [go_sem, ↓reduceIte, reduceCtorEq, Nat.reduceAdd, Nat.reduceSub, Nat.reduceMul, Nat.reduceEqDiff, Nat.reduceLT, Nat.reduceLeDiff, eq_false c2, eq_true c16]
     subst hK
     refine thenA_n ?_
     refine ⟨_, (Option.some.inj h).symm, ?_⟩
     refine Ent.can [8] _ _ _ rfl (by first | decide | simp) rfl ?_ ?_ ?_
     · exact ((((RF.any.pv (by first | rfl | simp only [go_sem]) (by first | rfl | simp [upd_ap, hpL_ap, tau, mapT, mapTL, bytesI_len, eq_false c2, eq_true c16])).pv (by first | rfl | simp only [go_sem]) (by first | rfl | simp [upd_ap, hpL_ap, tau, mapT, mapTL, bytesI_len, eq_false c2, eq_true c16])).po (by decide) (by first | rfl | simp [upd_ap, hpL_ap, tau, mapT, mapTL, bytesI_len, eq_false c2, eq_true c16])).pv (by first | rfl | simp only [go_sem]) (by first | rfl | simp [upd_ap, hpL_ap, tau, mapT, mapTL, bytesI_len, eq_false c2, eq_true c16]))
     · exact .nil _
     · exact .cons (.eq (by first | rfl | simp only [go_sem]) (by first | rfl | simp [upd_ap, hpL_ap, tau, mapT, mapTL, bytesI_len, eq_false c2, eq_true c16])) (.nil _)
    ·rw [if_neg c16] at h
     refine AW.ifF rfl c16 ?_
     refine AW.exit ?_
     refine thenA_x ?_
     refine thenA_x ?_
     refine ⟨_, (Option.some.inj h).symm, _, ?_, rfl, rfl⟩
     refine Ent.can [8] _ _ _ rfl (by first | decide | simp) rfl ?_ ?_ ?_
     · exact (RF.any.po (by decide) (by first | rfl | simp [upd_ap, hpL_ap, tau, mapT, mapTL, bytesI_len, eq_false c2, eq_false c16]))
     · exact .nil _
     · exact .cons (.eq (by first | rfl | simp only [go_sem]) (by first | rfl | simp [upd_ap, hpL_ap, tau, mapT, mapTL, bytesI_len, eq_false c2, eq_false c16])) (.nil _)
   ·intro e st' hX
    try dsimp only at h
    try dsimp only at hX
    obtain ⟨rfl, rfl⟩ := hX
    refine ⟨_, Ent.refl, ?_⟩
    refine block_x ?_
    refine thenA_n ?_
    refine AW.regL [4] ?_
    generalize hK : AW Try.prog _ _ _ = K
    simp only [go_sem, ↓reduceIte, reduceCtorEq, Nat.reduceAdd, Nat.reduceSub, Nat.reduceMul, Nat.reduceEqDiff, Nat.reduceLT, Nat.reduceLeDiff, eq_false c2]
    subst hK
    refine AW.ret ?_
    obtain rfl := Option.some.inj h
    (simp only [go_sem, ↓reduceIte, reduceCtorEq, Nat.reduceAdd, Nat.reduceSub, Nat.reduceMul, Nat.reduceEqDiff, Nat.reduceLT, Nat.reduceLeDiff, eq_false c2, finA] <;> try simp)
end Au
end Go.Proofs.Y2
