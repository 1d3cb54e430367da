import Derived.Test.YtncdjladnpogiaaGsDS
import Derived.Test.YtncdjladnpogiaaGsW3
import Derived.Test.YtncdjladnpogiaaGsW5
set_option linter.all false
set_option linter.unusedVariables false
set_option linter.unusedSimpArgs false
set_option linter.all false
set_option maxRecDepth 8000
set_option maxHeartbeats 1000000
namespace Go.Proofs.Y2
open Go.Gm
namespace Au
noncomputable def f8_s2 (a0 : List Res) : (List Ranked) × Int → Option (((List Ranked) × Int) ⊕ (List Ranked))
  | (s2_0, s2_1) => (if s2_1 < (a0.length : Int) then ((ix a0 s2_1).bind fun x24 => ((appO? s2_0 [⟨x24⟩]).bind fun x25 => some (.inl (x25, IntKind.i64.wrap (s2_1 + 1))))) else some (.inr s2_0))
noncomputable def f8_s3 (x30 : List Ranked) : (List Res) × Int → Option (((List Res) × Int) ⊕ (List Res))
  | (s3_0, s3_1) => (if s3_1 < (x30.length : Int) then ((ix x30 s3_1).bind fun x45 => ((f22 x45.r.Offs).bind fun x46 => ((appO? s3_0 [⟨x45.r.Key, x45.r.Val, x46⟩]).bind fun x47 => some (.inl (x47, IntKind.i64.wrap (s3_1 + 1)))))) else some (.inr s3_0))
noncomputable def f8 (a0 : List Res) (a1 : Int) : Option (List Res) := ((loopO (f8_s2 a0) ([], 0)).bind fun y27 => ((f20_21 y27).bind fun x28 => ((guardO (x28.length = y27.length)).bind fun x29 => ((cutO? x28 0 (minI (maxI a1 0) (x28.length : Int))).bind fun x30 => ((loopO (f8_s3 x30) ([], 0)).bind fun y49 => some y49)))))
theorem ok8 (a0 : List Res) (a1 : Int) (r : (List Res)) (h : f8 a0 a1 = some r) : PC Try.prog 8 [.sl (List.map encRes a0), .val (.int .i64 a1)] (.fr 3 (List.map encRes r)) := by
 rw [f8] at h
 refine pc_of8 (N := 50) (rs := [.tmp 4]) Try.func8 rfl rfl rfl (Nat.le_of_ble_eq_true rfl) ?_
 refine AW.regL [0, 1] ?_
 generalize hK : AW Try.prog _ _ _ = K
 simp only [go_sem, ↓reduceIte, reduceCtorEq, Nat.reduceAdd, Nat.reduceSub, Nat.reduceMul, Nat.reduceEqDiff, Nat.reduceLT, Nat.reduceLeDiff]
 subst hK
 refine AW.regL [0, 1, 5] ?_
 generalize hK : AW Try.prog _ _ _ = K
 simp only [go_sem, ↓reduceIte, reduceCtorEq, Nat.reduceAdd, Nat.reduceSub, Nat.reduceMul, Nat.reduceEqDiff, Nat.reduceLT, Nat.reduceLeDiff]
 subst hK
 refine AW.seq ?_
 refine AW.regL [1, 5, 11, 12, 13] ?_
 generalize hK : AW Try.prog _ _ _ = K
 simp only [go_sem, ↓reduceIte, reduceCtorEq, Nat.reduceAdd, Nat.reduceSub, Nat.reduceMul, Nat.reduceEqDiff, Nat.reduceLT, Nat.reduceLeDiff]
 subst hK
 refine AW.block ?_
 obtain ⟨y27, hy27, h⟩ := Option.bind_eq_some_iff.1 h
 refine AW.loopO (fun s => ⟨(upd (upd (upd (upd (upd anyF 1 (.val (.int .i64 a1))) 5 (.own 8 0 s.1.length)) 11 (.sl (List.map encRes a0))) 12 (.val (.int .i64 (a0.length : Int)))) 13 (.val (.int .i64 s.2))), hpL [] [some (.row 3 true (List.map encRanked s.1))], 9⟩) (fun z e st' => e = Exit.exit 0 ∧ st' = ⟨(upd (upd anyF 1 (.val (.int .i64 a1))) 5 (.own 8 0 z.length)), hpL [] [some (.row 3 true (List.map encRanked z))], 9⟩) hy27 ?_ ?_ ?_
 ·refine Ent.trans (Ent.nilOwn 5 3 (by decide) rfl) ?_
  refine Ent.can [48] _ _ _ rfl (by first | decide | simp) rfl ?_ ?_ ?_
  · exact (((((RF.any.pv (by first | rfl | simp only [go_sem]) (by first | rfl | simp [upd_ap, hpL_ap, tau, mapT, mapTL, bytesI_len])).po (by decide) (by first | rfl | simp [upd_ap, hpL_ap, tau, mapT, mapTL, bytesI_len])).pv (by first | rfl | simp only [go_sem]) (by first | rfl | simp [upd_ap, hpL_ap, tau, mapT, mapTL, bytesI_len])).pv (by first | rfl | simp only [go_sem]) (by first | rfl | simp [upd_ap, hpL_ap, tau, mapT, mapTL, bytesI_len])).pv (by first | rfl | simp only [go_sem]) (by first | rfl | simp [upd_ap, hpL_ap, tau, mapT, mapTL, bytesI_len]))
  · exact .nil _
  · exact .cons (.eq (by first | rfl | simp only [go_sem]) (by first | rfl | simp [upd_ap, hpL_ap, tau, mapT, mapTL, bytesI_len])) (.nil _)
 ·clear h hy27
  rintro ⟨s2_0, s2_1⟩ x h
  rw [f8_s2] at h
  refine AW.regL [1, 5, 11, 12, 13, 14] ?_
  generalize hK : AW Try.prog _ _ _ = K
  simp only [go_sem, ↓reduceIte, reduceCtorEq, Nat.reduceAdd, Nat.reduceSub, Nat.reduceMul, Nat.reduceEqDiff, Nat.reduceLT, Nat.reduceLeDiff]
  subst hK
  refine AW.seq ?_
  by_cases c23 : s2_1 < (a0.length : Int)
  ·rw [if_pos c23] at h
   refine AW.ifT rfl c23 ?_
   refine AW.skip ?_
   refine thenA_n ?_
   refine AW.seq ?_
   refine AW.block ?_
   obtain ⟨x24, hx24, h⟩ := Option.bind_eq_some_iff.1 h
   obtain ⟨hx24a, hx24b⟩ := ix_some.1 hx24
   refine AW.regL [1, 5, 7, 11, 12, 13] ?_
   generalize hK : AW Try.prog _ _ _ = K
   simp only [go_sem, ↓reduceIte, reduceCtorEq, Nat.reduceAdd, Nat.reduceSub, Nat.reduceMul, Nat.reduceEqDiff, Nat.reduceLT, Nat.reduceLeDiff, eq_true c23, natOf_le hx24a, hx24b]
   subst hK
   obtain ⟨x25, hx25, h⟩ := Option.bind_eq_some_iff.1 h
   obtain ⟨hx25b, hx25e⟩ := appO?_some.1 hx25
   have hx25f : ∀ id o : Nat, appO 3 56 id ([[.val (.string x24.Key), .val (.string x24.Val), .sl (List.map enc3 x24.Offs)]]) 0 s2_0.length o (some (.row 3 true (List.map encRanked s2_0))) = some ⟨.own id 0 x25.length, [(o, none), (id, some (.row 3 true (List.map encRanked x25)))]⟩ := fun id o => by
     subst hx25e; rw [appO_ok (by simp) (by simpa using hx25b) (by decide)]; first | (simp [encRanked]; done) | (simp [encRanked]; omega)
   refine AW.regionL [1, 5, 11, 12, 13] ?_
   generalize hK : inBlockA _ _ Exit.normal = K
   simp only [go_sem, ↓reduceIte, reduceCtorEq, Nat.reduceAdd, Nat.reduceSub, Nat.reduceMul, Nat.reduceEqDiff, Nat.reduceLT, Nat.reduceLeDiff, eq_true c23, hx25f]
   subst hK
   refine block_n ?_
   refine thenA_n ?_
   refine AW.regionL [1, 5, 11, 12, 13] ?_
   generalize hK : thenA _ _ Exit.normal = K
   simp only [go_sem, ↓reduceIte, reduceCtorEq, Nat.reduceAdd, Nat.reduceSub, Nat.reduceMul, Nat.reduceEqDiff, Nat.reduceLT, Nat.reduceLeDiff, eq_true c23]
   subst hK
   refine thenA_n ?_
   refine ⟨_, (Option.some.inj h).symm, ?_⟩
   refine Ent.can [81] _ _ _ rfl (by first | decide | simp) rfl ?_ ?_ ?_
   · exact (((((RF.any.pv (by first | rfl | simp only [go_sem]) (by first | rfl | simp [upd_ap, hpL_ap, tau, mapT, mapTL, bytesI_len, eq_true c23])).po (by decide) (by first | rfl | simp [upd_ap, hpL_ap, tau, mapT, mapTL, bytesI_len, eq_true c23])).pv (by first | rfl | simp only [go_sem]) (by first | rfl | simp [upd_ap, hpL_ap, tau, mapT, mapTL, bytesI_len, eq_true c23])).pv (by first | rfl | simp only [go_sem]) (by first | rfl | simp [upd_ap, hpL_ap, tau, mapT, mapTL, bytesI_len, eq_true c23])).pv (by first | rfl | simp only [go_sem]) (by first | rfl | simp [upd_ap, hpL_ap, tau, mapT, mapTL, bytesI_len, eq_true c23]))
   · exact .nil _
   · exact .cons (.eq (by first | rfl | simp only [go_sem]) (by first | rfl | simp [upd_ap, hpL_ap, tau, mapT, mapTL, bytesI_len, eq_true c23])) (.nil _)
  ·rw [if_neg c23] at h
   refine AW.ifF rfl c23 ?_
   refine AW.exit ?_
   refine thenA_x ?_
   refine thenA_x ?_
   refine ⟨_, (Option.some.inj h).symm, _, ?_, rfl, rfl⟩
   refine Ent.can [8] _ _ _ rfl (by first | decide | simp) rfl ?_ ?_ ?_
   · exact ((RF.any.pv (by first | rfl | simp only [go_sem]) (by first | rfl | simp [upd_ap, hpL_ap, tau, mapT, mapTL, bytesI_len, eq_false c23])).po (by decide) (by first | rfl | simp [upd_ap, hpL_ap, tau, mapT, mapTL, bytesI_len, eq_false c23]))
   · exact .nil _
   · exact .cons (.eq (by first | rfl | simp only [go_sem]) (by first | rfl | simp [upd_ap, hpL_ap, tau, mapT, mapTL, bytesI_len, eq_false c23])) (.nil _)
 ·intro e st' hX
  try dsimp only at h
  try dsimp only at hX
  obtain ⟨rfl, rfl⟩ := hX
  refine ⟨_, Ent.refl, ?_⟩
  refine block_x ?_
  refine thenA_n ?_
  obtain ⟨x28, hx28, h⟩ := Option.bind_eq_some_iff.1 h
  obtain ⟨x29, hx29, h⟩ := Option.bind_eq_some_iff.1 h
  have lenhx28 : x28.length = y27.length := guardO_some.1 hx29
  refine AW.regL [1, 5] ?_
  generalize hK : AW Try.prog _ _ _ = K
  simp only [go_sem, ↓reduceIte, reduceCtorEq, Nat.reduceAdd, Nat.reduceSub, Nat.reduceMul, Nat.reduceEqDiff, Nat.reduceLT, Nat.reduceLeDiff, lenhx28]
  refine arC.ok (CallOk.ic (us' := _) (ok20_21 y27 x28 hx28) [8] rfl (by decide) (by simp) (by simp) (by simp) (by simp) (.cons (.eq (by simp only [go_sem]) (by first | rfl | simp [upd_ap, hpL_ap, sg_ap])) (.nil _)) (by simp only [mapTL_cons, mapTL_nil, mapT_ptr, mapT_own, mapT_val, mapT_sl, mapT_agg, mapT_ip, mapT_clo, sg_ap, List.getD_cons_zero, List.getD_cons_succ]; exact (.cons (.of (by first | rfl | simp [mapT_own, sg_ap])) (.cons Weak.fnclo .nil))) (by simp only [go_sem, List.length_cons, List.length_nil, Nat.reduceAdd, Nat.reduceLT, decide_true]) (by simp [AObj.isMut]) (by simp [go_sem]) (by simp [go_sem])) Try.call20 ?_
  simp only [go_sem, ↓reduceIte, reduceCtorEq, Nat.reduceAdd, Nat.reduceSub, Nat.reduceMul, Nat.reduceEqDiff, Nat.reduceLT, Nat.reduceLeDiff, lenhx28]
  subst hK
  refine AW.regL [1, 5, 8] ?_
  generalize hK : AW Try.prog _ _ _ = K
  simp only [go_sem, ↓reduceIte, reduceCtorEq, Nat.reduceAdd, Nat.reduceSub, Nat.reduceMul, Nat.reduceEqDiff, Nat.reduceLT, Nat.reduceLeDiff, lenhx28]
  subst hK
  refine AW.seq ?_
  refine AW.ent (Ent.still 5 rfl (own_sl (sz := 3) (m := true) rfl (by first | rfl | simp [bytesI_len, lenhx28]) (by simp only [go_sem]))) ?_
  obtain ⟨x30, hx30, h⟩ := Option.bind_eq_some_iff.1 h
  refine AW.regL [8, 31, 32, 33] ?_
  generalize hK : AW Try.prog _ _ _ = K
  simp only [go_sem, ↓reduceIte, reduceCtorEq, Nat.reduceAdd, Nat.reduceSub, Nat.reduceMul, Nat.reduceEqDiff, Nat.reduceLT, Nat.reduceLeDiff, cut_ns el48 sz50 (ml_encRanked _) hx30]
  subst hK
  refine AW.block ?_
  obtain ⟨y49, hy49, h⟩ := Option.bind_eq_some_iff.1 h
  refine AW.loopO (fun s => ⟨(upd (upd (upd (upd anyF 8 (.own 8 0 s.1.length)) 31 (.sl (List.map encRanked x30))) 32 (.val (.int .i64 (x30.length : Int)))) 33 (.val (.int .i64 s.2))), hpL [] [some (.row 3 true (List.map encRes s.1))], 9⟩) (fun z e st' => e = Exit.exit 2 ∧ st' = ⟨(upd anyF 8 (.own 8 0 z.length)), hpL [] [some (.row 3 true (List.map encRes z))], 9⟩) hy49 ?_ ?_ ?_
  ·refine Ent.trans (Ent.nilOwn 8 3 (by decide) rfl) ?_
   refine Ent.can [105] _ _ _ rfl (by first | decide | simp) rfl ?_ ?_ ?_
   · exact ((((RF.any.po (by decide) (by first | rfl | simp [upd_ap, hpL_ap, tau, mapT, mapTL, bytesI_len])).pv (by first | rfl | simp only [go_sem]) (by first | rfl | simp [upd_ap, hpL_ap, tau, mapT, mapTL, bytesI_len])).pv (by first | rfl | simp only [go_sem]) (by first | rfl | simp [upd_ap, hpL_ap, tau, mapT, mapTL, bytesI_len])).pv (by first | rfl | simp only [go_sem]) (by first | rfl | simp [upd_ap, hpL_ap, tau, mapT, mapTL, bytesI_len]))
   · exact .nil _
   · exact .cons (.eq (by first | rfl | simp only [go_sem]) (by first | rfl | simp [upd_ap, hpL_ap, tau, mapT, mapTL, bytesI_len])) (.nil _)
  ·clear h hy49
   rintro ⟨s3_0, s3_1⟩ x h
   rw [f8_s3] at h
   refine AW.regL [8, 31, 32, 33, 34] ?_
   generalize hK : AW Try.prog _ _ _ = K
   simp only [go_sem, ↓reduceIte, reduceCtorEq, Nat.reduceAdd, Nat.reduceSub, Nat.reduceMul, Nat.reduceEqDiff, Nat.reduceLT, Nat.reduceLeDiff]
   subst hK
   refine AW.seq ?_
   by_cases c44 : s3_1 < (x30.length : Int)
   ·rw [if_pos c44] at h
    refine AW.ifT rfl c44 ?_
    refine AW.skip ?_
    refine thenA_n ?_
    refine AW.seq ?_
    refine AW.block ?_
    obtain ⟨x45, hx45, h⟩ := Option.bind_eq_some_iff.1 h
    obtain ⟨hx45a, hx45b⟩ := ix_some.1 hx45
    refine AW.regL [8, 10, 31, 32, 33] ?_
    generalize hK : AW Try.prog _ _ _ = K
    simp only [go_sem, ↓reduceIte, reduceCtorEq, Nat.reduceAdd, Nat.reduceSub, Nat.reduceMul, Nat.reduceEqDiff, Nat.reduceLT, Nat.reduceLeDiff, eq_true c44, natOf_le hx45a, hx45b]
    subst hK
    obtain ⟨x46, hx46, h⟩ := Option.bind_eq_some_iff.1 h
    refine AW.regL [8, 10, 31, 32, 33] ?_
    generalize hK : AW Try.prog _ _ _ = K
    simp only [go_sem, ↓reduceIte, reduceCtorEq, Nat.reduceAdd, Nat.reduceSub, Nat.reduceMul, Nat.reduceEqDiff, Nat.reduceLT, Nat.reduceLeDiff, eq_true c44]
    refine arC.of (ok22 x45.r.Offs x46 hx46) Try.call22 ?_
    simp only [go_sem, ↓reduceIte, reduceCtorEq, Nat.reduceAdd, Nat.reduceSub, Nat.reduceMul, Nat.reduceEqDiff, Nat.reduceLT, Nat.reduceLeDiff, eq_true c44]
    subst hK
    refine AW.ent (Ent.stillObj (pre := [.val (.string x45.r.Key), .val (.string x45.r.Val)]) (post := []) (q := 73) (off := 0) (len := x46.length) 33 rfl (own_sl (sz := 1) (m := true) rfl (by first | rfl | simp [bytesI_len]) (by simp only [go_sem])) (by decide)) ?_
    obtain ⟨x47, hx47, h⟩ := Option.bind_eq_some_iff.1 h
    obtain ⟨hx47b, hx47e⟩ := appO?_some.1 hx47
    have hx47f : ∀ id o : Nat, appO 3 56 id ([[.val (.string x45.r.Key), .val (.string x45.r.Val), .sl (List.map enc3 x46)]]) 0 s3_0.length o (some (.row 3 true (List.map encRes s3_0))) = some ⟨.own id 0 x47.length, [(o, none), (id, some (.row 3 true (List.map encRes x47)))]⟩ := fun id o => by
      subst hx47e; rw [appO_ok (by simp) (by simpa using hx47b) (by decide)]; first | (simp [encRes]; done) | (simp [encRes]; omega)
    refine AW.regionL [8, 31, 32, 33] ?_
    generalize hK : inBlockA _ _ Exit.normal = K
    simp only [go_sem, ↓reduceIte, reduceCtorEq, Nat.reduceAdd, Nat.reduceSub, Nat.reduceMul, Nat.reduceEqDiff, Nat.reduceLT, Nat.reduceLeDiff, eq_true c44, hx47f]
    subst hK
    refine block_n ?_
    refine thenA_n ?_
    refine AW.regionL [8, 31, 32, 33] ?_
    generalize hK : thenA _ _ Exit.normal = K
    simp only [go_sem, ↓reduceIte, reduceCtorEq, Nat.reduceAdd, Nat.reduceSub, Nat.reduceMul, Nat.reduceEqDiff, Nat.reduceLT, Nat.reduceLeDiff, eq_true c44]
    subst hK
    refine thenA_n ?_
    refine ⟨_, (Option.some.inj h).symm, ?_⟩
    refine Ent.can [137] _ _ _ rfl (by first | decide | simp) rfl ?_ ?_ ?_
    · exact ((((RF.any.po (by decide) (by first | rfl | simp [upd_ap, hpL_ap, tau, mapT, mapTL, bytesI_len, eq_true c44])).pv (by first | rfl | simp only [go_sem]) (by first | rfl | simp [upd_ap, hpL_ap, tau, mapT, mapTL, bytesI_len, eq_true c44])).pv (by first | rfl | simp only [go_sem]) (by first | rfl | simp [upd_ap, hpL_ap, tau, mapT, mapTL, bytesI_len, eq_true c44])).pv (by first | rfl | simp only [go_sem]) (by first | rfl | simp [upd_ap, hpL_ap, tau, mapT, mapTL, bytesI_len, eq_true c44]))
    · exact .nil _
    · exact .cons (.eq (by first | rfl | simp only [go_sem]) (by first | rfl | simp [upd_ap, hpL_ap, tau, mapT, mapTL, bytesI_len, eq_true c44])) (.nil _)
   ·rw [if_neg c44] at h
    refine AW.ifF rfl c44 ?_
    refine AW.exit ?_
    refine thenA_x ?_
    refine thenA_x ?_
    refine ⟨_, (Option.some.inj h).symm, _, ?_, rfl, rfl⟩
    refine Ent.can [8] _ _ _ rfl (by first | decide | simp) rfl ?_ ?_ ?_
    · exact (RF.any.po (by decide) (by first | rfl | simp [upd_ap, hpL_ap, tau, mapT, mapTL, bytesI_len, eq_false c44]))
    · exact .nil _
    · exact .cons (.eq (by first | rfl | simp only [go_sem]) (by first | rfl | simp [upd_ap, hpL_ap, tau, mapT, mapTL, bytesI_len, eq_false c44])) (.nil _)
  ·intro e st' hX
   try dsimp only at h
   try dsimp only at hX
   obtain ⟨rfl, rfl⟩ := hX
   refine ⟨_, Ent.refl, ?_⟩
   refine block_x ?_
   refine thenA_n ?_
   refine AW.regL [4] ?_
   generalize hK : AW Try.prog _ _ _ = K
   simp only [go_sem, ↓reduceIte, reduceCtorEq, Nat.reduceAdd, Nat.reduceSub, Nat.reduceMul, Nat.reduceEqDiff, Nat.reduceLT, Nat.reduceLeDiff]
   subst hK
   refine AW.ret ?_
   obtain rfl := Option.some.inj h
   (simp only [go_sem, ↓reduceIte, reduceCtorEq, Nat.reduceAdd, Nat.reduceSub, Nat.reduceMul, Nat.reduceEqDiff, Nat.reduceLT, Nat.reduceLeDiff, finA] <;> try simp)
end Au
end Go.Proofs.Y2

set_option linter.all false
set_option maxRecDepth 8000
set_option maxHeartbeats 1000000
namespace Go.Proofs.Y2
open Go.Gm
namespace Au
noncomputable def f9_s7 (a0 : List Res) (s1_0 : List Bool) : Int × Int → Option ((Int × Int) ⊕ Int)
  | (s7_0, s7_1) => (if s7_0 < (a0.length : Int) then ((ix s1_0 s7_0).bind fun x99 => (if x99 = true then some (.inl (IntKind.i64.wrap (s7_0 + 1), s7_1)) else (if s7_1 < 0 then some (.inl (IntKind.i64.wrap (s7_0 + 1), s7_0)) else ((ix a0 s7_0).bind fun x102 => ((ix a0 s7_1).bind fun x103 => (if (x103.Offs.length : Int) < (x102.Offs.length : Int) then some (.inl (IntKind.i64.wrap (s7_0 + 1), s7_0)) else some (.inl (IntKind.i64.wrap (s7_0 + 1), s7_1)))))))) else some (.inr s7_1))
noncomputable def f9_s1 (a0 : List Res) (a1 : Int) : (List Bool) × (List Res) → Option (((List Bool) × (List Res)) ⊕ (List Res))
  | (s1_0, s1_1) => (if ((s1_1.length : Nat) : Int) < a1 then (if ((s1_1.length : Nat) : Int) < (a0.length : Int) then ((loopO (f9_s7 a0 s1_0) (0, (-1))).bind fun y106 => ((ix s1_0 y106).bind fun x107 => ((ix a0 y106).bind fun x108 => ((appO? s1_1 [x108]).bind fun x109 => some (.inl ((s1_0.set y106.toNat true), x109)))))) else some (.inr s1_1)) else some (.inr s1_1))
noncomputable def f9 (a0 : List Res) (a1 : Int) : Option (List Res) := ((mkO (a0.length : Int) false).bind fun x1 => ((loopO (f9_s1 a0 a1) (x1, [])).bind fun y111 => some y111))
theorem ok9 (a0 : List Res) (a1 : Int) (r : (List Res)) (h : f9 a0 a1 = some r) : PC Try.prog 9 [.sl (List.map encRes a0), .val (.int .i64 a1)] (.fr 3 (List.map encRes r)) := by
 rw [f9] at h
 refine pc_of8 (N := 65) (rs := [.tmp 4]) Try.func9 rfl rfl rfl (Nat.le_of_ble_eq_true rfl) ?_
 refine AW.regL [0, 1] ?_
 generalize hK : AW Try.prog _ _ _ = K
 simp only [go_sem, ↓reduceIte, reduceCtorEq, Nat.reduceAdd, Nat.reduceSub, Nat.reduceMul, Nat.reduceEqDiff, Nat.reduceLT, Nat.reduceLeDiff]
 subst hK
 obtain ⟨x1, hx1, h⟩ := Option.bind_eq_some_iff.1 h
 refine AW.regL [0, 1, 5] ?_
 generalize hK : AW Try.prog _ _ _ = K
 simp only [go_sem, ↓reduceIte, reduceCtorEq, Nat.reduceAdd, Nat.reduceSub, Nat.reduceMul, Nat.reduceEqDiff, Nat.reduceLT, Nat.reduceLeDiff, make_ok mk55 (enc := enc4) rfl (by decide) hx1]
 subst hK
 refine AW.regL [0, 1, 5, 6] ?_
 generalize hK : AW Try.prog _ _ _ = K
 simp only [go_sem, ↓reduceIte, reduceCtorEq, Nat.reduceAdd, Nat.reduceSub, Nat.reduceMul, Nat.reduceEqDiff, Nat.reduceLT, Nat.reduceLeDiff]
 subst hK
 refine AW.seq ?_
 refine AW.block ?_
 obtain ⟨y111, hy111, h⟩ := Option.bind_eq_some_iff.1 h
 refine AW.loopO (fun s => ⟨(upd (upd (upd (upd anyF 0 (.sl (List.map encRes a0))) 1 (.val (.int .i64 a1))) 5 (.own 8 0 s.1.length)) 6 (.own 9 0 s.2.length)), hpL [] [some (.row 1 true (List.map enc4 s.1)), some (.row 3 true (List.map encRes s.2))], 10⟩) (fun z e st' => e = Exit.exit 0 ∧ st' = ⟨(upd anyF 6 (.own 8 0 z.length)), hpL [] [some (.row 3 true (List.map encRes z))], 9⟩) hy111 ?_ ?_ ?_
 ·refine Ent.trans (Ent.nilOwn 6 3 (by decide) rfl) ?_
  refine Ent.can [32, 56] _ _ _ rfl (by first | decide | simp) rfl ?_ ?_ ?_
  · exact ((((RF.any.pv (by first | rfl | simp only [go_sem]) (by first | rfl | simp [upd_ap, hpL_ap, tau, mapT, mapTL, bytesI_len])).pv (by first | rfl | simp only [go_sem]) (by first | rfl | simp [upd_ap, hpL_ap, tau, mapT, mapTL, bytesI_len])).po (by decide) (by first | rfl | simp [upd_ap, hpL_ap, tau, mapT, mapTL, bytesI_len])).po (by decide) (by first | rfl | simp [upd_ap, hpL_ap, tau, mapT, mapTL, bytesI_len]))
  · exact .nil _
  · exact .cons (.eq (by first | rfl | simp only [go_sem]) (by first | rfl | simp [upd_ap, hpL_ap, tau, mapT, mapTL, bytesI_len])) (.cons (.eq (by first | rfl | simp only [go_sem]) (by first | rfl | simp [upd_ap, hpL_ap, tau, mapT, mapTL, bytesI_len])) (.nil _))
 ·clear h hy111
  rintro ⟨s1_0, s1_1⟩ x h
  rw [f9_s1] at h
  refine AW.seq ?_
  by_cases c69 : ((s1_1.length : Nat) : Int) < a1
  ·rw [if_pos c69] at h
   refine AW.regL [0, 1, 5, 6, 22] ?_
   generalize hK : AW Try.prog _ _ _ = K
   simp only [go_sem, ↓reduceIte, reduceCtorEq, Nat.reduceAdd, Nat.reduceSub, Nat.reduceMul, Nat.reduceEqDiff, Nat.reduceLT, Nat.reduceLeDiff, eq_true c69]
   subst hK
   by_cases c70 : ((s1_1.length : Nat) : Int) < (a0.length : Int)
   ·rw [if_pos c70] at h
    refine AW.ifT rfl c70 ?_
    refine AW.skip ?_
    refine thenA_n ?_
    refine AW.block ?_
    refine AW.regL [0, 1, 5, 6, 7] ?_
    generalize hK : AW Try.prog _ _ _ = K
    simp only [go_sem, ↓reduceIte, reduceCtorEq, Nat.reduceAdd, Nat.reduceSub, Nat.reduceMul, Nat.reduceEqDiff, Nat.reduceLT, Nat.reduceLeDiff, eq_true c69, eq_true c70]
    subst hK
    refine AW.seq ?_
    refine AW.regL [0, 1, 5, 6, 7, 8] ?_
    generalize hK : AW Try.prog _ _ _ = K
    simp only [go_sem, ↓reduceIte, reduceCtorEq, Nat.reduceAdd, Nat.reduceSub, Nat.reduceMul, Nat.reduceEqDiff, Nat.reduceLT, Nat.reduceLeDiff, eq_true c69, eq_true c70]
    subst hK
    refine AW.block ?_
    obtain ⟨y106, hy106, h⟩ := Option.bind_eq_some_iff.1 h
    refine AW.loopO (fun s => ⟨(upd (upd (upd (upd (upd (upd anyF 0 (.sl (List.map encRes a0))) 1 (.val (.int .i64 a1))) 5 (.own 8 0 s1_0.length)) 6 (.own 9 0 s1_1.length)) 7 (.val (.int .i64 s.2))) 8 (.val (.int .i64 s.1))), hpL [] [some (.row 1 true (List.map enc4 s1_0)), some (.row 3 true (List.map encRes s1_1))], 10⟩) (fun z e st' => e = Exit.exit 2 ∧ st' = ⟨(upd (upd (upd (upd (upd anyF 0 (.sl (List.map encRes a0))) 1 (.val (.int .i64 a1))) 5 (.own 8 0 s1_0.length)) 6 (.own 9 0 s1_1.length)) 7 (.val (.int .i64 z))), hpL [] [some (.row 1 true (List.map enc4 s1_0)), some (.row 3 true (List.map encRes s1_1))], 10⟩) hy106 ?_ ?_ ?_
    ·refine Ent.can [8, 9] _ _ _ rfl (by first | decide | simp) rfl ?_ ?_ ?_
     · exact ((((((RF.any.pv (by first | rfl | simp only [go_sem]) (by first | rfl | simp [upd_ap, hpL_ap, tau, mapT, mapTL, bytesI_len, eq_true c69, eq_true c70])).pv (by first | rfl | simp only [go_sem]) (by first | rfl | simp [upd_ap, hpL_ap, tau, mapT, mapTL, bytesI_len, eq_true c69, eq_true c70])).po (by decide) (by first | rfl | simp [upd_ap, hpL_ap, tau, mapT, mapTL, bytesI_len, eq_true c69, eq_true c70])).po (by decide) (by first | rfl | simp [upd_ap, hpL_ap, tau, mapT, mapTL, bytesI_len, eq_true c69, eq_true c70])).pv (by first | rfl | simp only [go_sem]) (by first | rfl | simp [upd_ap, hpL_ap, tau, mapT, mapTL, bytesI_len, eq_true c69, eq_true c70])).pv (by first | rfl | simp only [go_sem]) (by first | rfl | simp [upd_ap, hpL_ap, tau, mapT, mapTL, bytesI_len, eq_true c69, eq_true c70]))
     · exact .nil _
     · exact .cons (.eq (by first | rfl | simp only [go_sem]) (by first | rfl | simp [upd_ap, hpL_ap, tau, mapT, mapTL, bytesI_len, eq_true c69, eq_true c70])) (.cons (.eq (by first | rfl | simp only [go_sem]) (by first | rfl | simp [upd_ap, hpL_ap, tau, mapT, mapTL, bytesI_len, eq_true c69, eq_true c70])) (.nil _))
    ·clear h hy106
     rintro ⟨s7_0, s7_1⟩ x h
     rw [f9_s7] at h
     refine AW.seq ?_
     refine AW.regL [0, 1, 5, 6, 7, 8, 26] ?_
     generalize hK : AW Try.prog _ _ _ = K
     simp only [go_sem, ↓reduceIte, reduceCtorEq, Nat.reduceAdd, Nat.reduceSub, Nat.reduceMul, Nat.reduceEqDiff, Nat.reduceLT, Nat.reduceLeDiff, eq_true c69, eq_true c70]
     subst hK
     by_cases c98 : s7_0 < (a0.length : Int)
     ·rw [if_pos c98] at h
      refine AW.ifT rfl c98 ?_
      refine AW.skip ?_
      refine thenA_n ?_
      refine AW.seq ?_
      refine AW.block ?_
      obtain ⟨x99, hx99, h⟩ := Option.bind_eq_some_iff.1 h
      obtain ⟨hx99a, hx99b⟩ := ix_some.1 hx99
      by_cases c100 : x99 = true
      ·rw [if_pos c100] at h
       refine AW.regdL [0, 1, 5, 6, 7, 8, 52] [[], [], [0, 1], [0, 1, 2], [0, 1, 2, 3], [0, 1, 2, 3, 4], [0, 1, 2, 3, 4, 5], [0, 1, 2, 3, 4, 5, 6], [0, 1, 2, 3, 4, 5, 6, 7], [0, 1, 2, 3, 4, 5, 6, 7, 8], [0, 1, 2, 3, 4, 5, 6, 7, 8], [0, 1, 2, 3, 4, 5, 6, 7, 8, 9, 10], [0, 1, 2, 3, 4, 5, 6, 7, 8, 9, 10, 11], [0, 1, 2, 3, 4, 5, 6, 7, 8, 9, 10, 11, 12], [0, 1, 2, 3, 4, 5, 6, 7, 8, 9, 10, 11, 12, 13], [0, 1, 2, 3, 4, 5, 6, 7, 8], [0, 1, 2, 3, 4, 5, 6, 7, 8], [0, 1, 2, 3, 4, 5, 6, 7, 8, 15, 16], [0, 1, 2, 3, 4, 5, 6, 7, 8, 15, 16, 17], [0, 1, 2, 3, 4, 5, 6, 7, 8, 15, 16, 17, 18], [0, 1, 2, 3, 4, 5, 6, 7, 8, 15, 16, 17, 18, 19], [0, 1, 2, 3, 4, 5, 6, 7, 8, 9, 10, 11, 12, 13, 14, 15, 16, 17, 18, 19, 20], [0, 1, 2, 3, 4, 5, 6, 7, 8, 9, 10, 11, 12, 13, 14, 15, 16, 17, 18, 19, 20, 21], [0, 1, 2, 3, 4, 5, 6, 7, 8, 9, 10, 11, 12, 13, 14, 15, 16, 17, 18, 19, 20, 21, 22]] [0, 1, 2, 3, 4, 5, 6, 7, 8, 9, 10, 11, 12, 13, 14, 15, 16, 17, 18, 19, 20, 21, 22, 23] noFt (fun _ _ _ h => by simp [noFt] at h) draws (by kernel_rfl) (by kernel_rfl) ?_
       generalize hK : AW Try.prog _ _ _ = K
       simp only [go_sem, ↓reduceIte, reduceCtorEq, Nat.reduceAdd, Nat.reduceSub, Nat.reduceMul, Nat.reduceEqDiff, Nat.reduceLT, Nat.reduceLeDiff, eq_true c69, eq_true c70, eq_true c98, natOf_le hx99a, hx99b, ix_lt hx99b, c100]
       subst hK
       refine AW.ifBF rfl rfl ?_
       refine AW.skip ?_
       refine block_n ?_
       refine thenA_n ?_
       refine AW.regionL [0, 1, 5, 6, 7, 8] ?_
       generalize hK : thenA _ _ Exit.normal = K
       simp only [go_sem, ↓reduceIte, reduceCtorEq, Nat.reduceAdd, Nat.reduceSub, Nat.reduceMul, Nat.reduceEqDiff, Nat.reduceLT, Nat.reduceLeDiff, eq_true c69, eq_true c70, eq_true c98, c100]
       subst hK
       refine thenA_n ?_
       refine ⟨_, (Option.some.inj h).symm, ?_⟩
       refine Ent.can [8, 9] _ _ _ rfl (by first | decide | simp) rfl ?_ ?_ ?_
       · exact ((((((RF.any.pv (by first | rfl | simp only [go_sem]) (by first | rfl | simp [upd_ap, hpL_ap, tau, mapT, mapTL, bytesI_len, eq_true c69, eq_true c70, eq_true c98, c100])).pv (by first | rfl | simp only [go_sem]) (by first | rfl | simp [upd_ap, hpL_ap, tau, mapT, mapTL, bytesI_len, eq_true c69, eq_true c70, eq_true c98, c100])).po (by decide) (by first | rfl | simp [upd_ap, hpL_ap, tau, mapT, mapTL, bytesI_len, eq_true c69, eq_true c70, eq_true c98, c100])).po (by decide) (by first | rfl | simp [upd_ap, hpL_ap, tau, mapT, mapTL, bytesI_len, eq_true c69, eq_true c70, eq_true c98, c100])).pv (by first | rfl | simp only [go_sem]) (by first | rfl | simp [upd_ap, hpL_ap, tau, mapT, mapTL, bytesI_len, eq_true c69, eq_true c70, eq_true c98, c100])).pv (by first | rfl | simp only [go_sem]) (by first | rfl | simp [upd_ap, hpL_ap, tau, mapT, mapTL, bytesI_len, eq_true c69, eq_true c70, eq_true c98, c100]))
       · exact .nil _
       · exact .cons (.eq (by first | rfl | simp only [go_sem]) (by first | rfl | simp [upd_ap, hpL_ap, tau, mapT, mapTL, bytesI_len, eq_true c69, eq_true c70, eq_true c98, c100])) (.cons (.eq (by first | rfl | simp only [go_sem]) (by first | rfl | simp [upd_ap, hpL_ap, tau, mapT, mapTL, bytesI_len, eq_true c69, eq_true c70, eq_true c98, c100])) (.nil _))
      ·rw [if_neg c100] at h
       rw [Bool.not_eq_true] at c100
       by_cases c101 : s7_1 < 0
       ·rw [if_pos c101] at h
        refine AW.regdL [0, 1, 5, 6, 7, 8, 52] [[], [], [0, 1], [0, 1, 2], [0, 1, 2, 3], [0, 1, 2, 3, 4], [0, 1, 2, 3, 4, 5], [0, 1, 2, 3, 4, 5, 6], [0, 1, 2, 3, 4, 5, 6, 7], [0, 1, 2, 3, 4, 5, 6, 7, 8], [0, 1, 2, 3, 4, 5, 6, 7, 8], [0, 1, 2, 3, 4, 5, 6, 7, 8, 9, 10], [0, 1, 2, 3, 4, 5, 6, 7, 8, 9, 10, 11], [0, 1, 2, 3, 4, 5, 6, 7, 8, 9, 10, 11, 12], [0, 1, 2, 3, 4, 5, 6, 7, 8, 9, 10, 11, 12, 13], [0, 1, 2, 3, 4, 5, 6, 7, 8], [0, 1, 2, 3, 4, 5, 6, 7, 8], [0, 1, 2, 3, 4, 5, 6, 7, 8, 15, 16], [0, 1, 2, 3, 4, 5, 6, 7, 8, 15, 16, 17], [0, 1, 2, 3, 4, 5, 6, 7, 8, 15, 16, 17, 18], [0, 1, 2, 3, 4, 5, 6, 7, 8, 15, 16, 17, 18, 19], [0, 1, 2, 3, 4, 5, 6, 7, 8, 9, 10, 11, 12, 13, 14, 15, 16, 17, 18, 19, 20], [0, 1, 2, 3, 4, 5, 6, 7, 8, 9, 10, 11, 12, 13, 14, 15, 16, 17, 18, 19, 20, 21], [0, 1, 2, 3, 4, 5, 6, 7, 8, 9, 10, 11, 12, 13, 14, 15, 16, 17, 18, 19, 20, 21, 22]] [0, 1, 2, 3, 4, 5, 6, 7, 8, 9, 10, 11, 12, 13, 14, 15, 16, 17, 18, 19, 20, 21, 22, 23] noFt (fun _ _ _ h => by simp [noFt] at h) draws (by kernel_rfl) (by kernel_rfl) ?_
        generalize hK : AW Try.prog _ _ _ = K
        simp only [go_sem, ↓reduceIte, reduceCtorEq, Nat.reduceAdd, Nat.reduceSub, Nat.reduceMul, Nat.reduceEqDiff, Nat.reduceLT, Nat.reduceLeDiff, eq_true c69, eq_true c70, eq_true c98, natOf_le hx99a, hx99b, ix_lt hx99b, c100, eq_true c101]
        subst hK
        refine AW.ifBT rfl rfl ?_
        refine AW.regionL [0, 1, 5, 6, 7, 8] ?_
        generalize hK : inBlockA _ _ Exit.normal = K
        simp only [go_sem, ↓reduceIte, reduceCtorEq, Nat.reduceAdd, Nat.reduceSub, Nat.reduceMul, Nat.reduceEqDiff, Nat.reduceLT, Nat.reduceLeDiff, eq_true c69, eq_true c70, eq_true c98, c100, eq_true c101]
        subst hK
        refine block_n ?_
        refine thenA_n ?_
        refine AW.regionL [0, 1, 5, 6, 7, 8] ?_
        generalize hK : thenA _ _ Exit.normal = K
        simp only [go_sem, ↓reduceIte, reduceCtorEq, Nat.reduceAdd, Nat.reduceSub, Nat.reduceMul, Nat.reduceEqDiff, Nat.reduceLT, Nat.reduceLeDiff, eq_true c69, eq_true c70, eq_true c98, c100, eq_true c101]
        subst hK
        refine thenA_n ?_
        refine ⟨_, (Option.some.inj h).symm, ?_⟩
        refine Ent.can [8, 9] _ _ _ rfl (by first | decide | simp) rfl ?_ ?_ ?_
        · exact ((((((RF.any.pv (by first | rfl | simp only [go_sem]) (by first | rfl | simp [upd_ap, hpL_ap, tau, mapT, mapTL, bytesI_len, eq_true c69, eq_true c70, eq_true c98, c100, eq_true c101])).pv (by first | rfl | simp only [go_sem]) (by first | rfl | simp [upd_ap, hpL_ap, tau, mapT, mapTL, bytesI_len, eq_true c69, eq_true c70, eq_true c98, c100, eq_true c101])).po (by decide) (by first | rfl | simp [upd_ap, hpL_ap, tau, mapT, mapTL, bytesI_len, eq_true c69, eq_true c70, eq_true c98, c100, eq_true c101])).po (by decide) (by first | rfl | simp [upd_ap, hpL_ap, tau, mapT, mapTL, bytesI_len, eq_true c69, eq_true c70, eq_true c98, c100, eq_true c101])).pv (by first | rfl | simp only [go_sem]) (by first | rfl | simp [upd_ap, hpL_ap, tau, mapT, mapTL, bytesI_len, eq_true c69, eq_true c70, eq_true c98, c100, eq_true c101])).pv (by first | rfl | simp only [go_sem]) (by first | rfl | simp [upd_ap, hpL_ap, tau, mapT, mapTL, bytesI_len, eq_true c69, eq_true c70, eq_true c98, c100, eq_true c101]))
        · exact .nil _
        · exact .cons (.eq (by first | rfl | simp only [go_sem]) (by first | rfl | simp [upd_ap, hpL_ap, tau, mapT, mapTL, bytesI_len, eq_true c69, eq_true c70, eq_true c98, c100, eq_true c101])) (.cons (.eq (by first | rfl | simp only [go_sem]) (by first | rfl | simp [upd_ap, hpL_ap, tau, mapT, mapTL, bytesI_len, eq_true c69, eq_true c70, eq_true c98, c100, eq_true c101])) (.nil _))
       ·rw [if_neg c101] at h
        obtain ⟨x102, hx102, h⟩ := Option.bind_eq_some_iff.1 h
        obtain ⟨hx102a, hx102b⟩ := ix_some.1 hx102
        obtain ⟨x103, hx103, h⟩ := Option.bind_eq_some_iff.1 h
        obtain ⟨hx103a, hx103b⟩ := ix_some.1 hx103
        refine AW.regdL [0, 1, 5, 6, 7, 8, 52] [[], [], [0, 1], [0, 1, 2], [0, 1, 2, 3], [0, 1, 2, 3, 4], [0, 1, 2, 3, 4, 5], [0, 1, 2, 3, 4, 5, 6], [0, 1, 2, 3, 4, 5, 6, 7], [0, 1, 2, 3, 4, 5, 6, 7, 8], [0, 1, 2, 3, 4, 5, 6, 7, 8], [0, 1, 2, 3, 4, 5, 6, 7, 8, 9, 10], [0, 1, 2, 3, 4, 5, 6, 7, 8, 9, 10, 11], [0, 1, 2, 3, 4, 5, 6, 7, 8, 9, 10, 11, 12], [0, 1, 2, 3, 4, 5, 6, 7, 8, 9, 10, 11, 12, 13], [0, 1, 2, 3, 4, 5, 6, 7, 8], [0, 1, 2, 3, 4, 5, 6, 7, 8], [0, 1, 2, 3, 4, 5, 6, 7, 8, 15, 16], [0, 1, 2, 3, 4, 5, 6, 7, 8, 15, 16, 17], [0, 1, 2, 3, 4, 5, 6, 7, 8, 15, 16, 17, 18], [0, 1, 2, 3, 4, 5, 6, 7, 8, 15, 16, 17, 18, 19], [0, 1, 2, 3, 4, 5, 6, 7, 8, 9, 10, 11, 12, 13, 14, 15, 16, 17, 18, 19, 20], [0, 1, 2, 3, 4, 5, 6, 7, 8, 9, 10, 11, 12, 13, 14, 15, 16, 17, 18, 19, 20, 21], [0, 1, 2, 3, 4, 5, 6, 7, 8, 9, 10, 11, 12, 13, 14, 15, 16, 17, 18, 19, 20, 21, 22]] [0, 1, 2, 3, 4, 5, 6, 7, 8, 9, 10, 11, 12, 13, 14, 15, 16, 17, 18, 19, 20, 21, 22, 23] noFt (fun _ _ _ h => by simp [noFt] at h) draws (by kernel_rfl) (by kernel_rfl) ?_
        generalize hK : AW Try.prog _ _ _ = K
        simp only [go_sem, ↓reduceIte, reduceCtorEq, Nat.reduceAdd, Nat.reduceSub, Nat.reduceMul, Nat.reduceEqDiff, Nat.reduceLT, Nat.reduceLeDiff, eq_true c69, eq_true c70, eq_true c98, natOf_le hx99a, hx99b, ix_lt hx99b, c100, eq_false c101, natOf_le hx102a, hx102b, natOf_le hx103a, hx103b]
        subst hK
        by_cases c104 : (x103.Offs.length : Int) < (x102.Offs.length : Int)
        ·rw [if_pos c104] at h
         refine AW.ifT rfl c104 ?_
         refine AW.regionL [0, 1, 5, 6, 7, 8] ?_
         generalize hK : inBlockA _ _ Exit.normal = K
         simp only [go_sem, ↓reduceIte, reduceCtorEq, Nat.reduceAdd, Nat.reduceSub, Nat.reduceMul, Nat.reduceEqDiff, Nat.reduceLT, Nat.reduceLeDiff, eq_true c69, eq_true c70, eq_true c98, c100, eq_false c101, eq_true c104]
         subst hK
         refine block_n ?_
         refine thenA_n ?_
         refine AW.regionL [0, 1, 5, 6, 7, 8] ?_
         generalize hK : thenA _ _ Exit.normal = K
         simp only [go_sem, ↓reduceIte, reduceCtorEq, Nat.reduceAdd, Nat.reduceSub, Nat.reduceMul, Nat.reduceEqDiff, Nat.reduceLT, Nat.reduceLeDiff, eq_true c69, eq_true c70, eq_true c98, c100, eq_false c101, eq_true c104]
         subst hK
         refine thenA_n ?_
         refine ⟨_, (Option.some.inj h).symm, ?_⟩
         refine Ent.can [8, 9] _ _ _ rfl (by first | decide | simp) rfl ?_ ?_ ?_
         · exact ((((((RF.any.pv (by first | rfl | simp only [go_sem]) (by first | rfl | simp [upd_ap, hpL_ap, tau, mapT, mapTL, bytesI_len, eq_true c69, eq_true c70, eq_true c98, c100, eq_false c101, eq_true c104])).pv (by first | rfl | simp only [go_sem]) (by first | rfl | simp [upd_ap, hpL_ap, tau, mapT, mapTL, bytesI_len, eq_true c69, eq_true c70, eq_true c98, c100, eq_false c101, eq_true c104])).po (by decide) (by first | rfl | simp [upd_ap, hpL_ap, tau, mapT, mapTL, bytesI_len, eq_true c69, eq_true c70, eq_true c98, c100, eq_false c101, eq_true c104])).po (by decide) (by first | rfl | simp [upd_ap, hpL_ap, tau, mapT, mapTL, bytesI_len, eq_true c69, eq_true c70, eq_true c98, c100, eq_false c101, eq_true c104])).pv (by first | rfl | simp only [go_sem]) (by first | rfl | simp [upd_ap, hpL_ap, tau, mapT, mapTL, bytesI_len, eq_true c69, eq_true c70, eq_true c98, c100, eq_false c101, eq_true c104])).pv (by first | rfl | simp only [go_sem]) (by first | rfl | simp [upd_ap, hpL_ap, tau, mapT, mapTL, bytesI_len, eq_true c69, eq_true c70, eq_true c98, c100, eq_false c101, eq_true c104]))
         · exact .nil _
         · exact .cons (.eq (by first | rfl | simp only [go_sem]) (by first | rfl | simp [upd_ap, hpL_ap, tau, mapT, mapTL, bytesI_len, eq_true c69, eq_true c70, eq_true c98, c100, eq_false c101, eq_true c104])) (.cons (.eq (by first | rfl | simp only [go_sem]) (by first | rfl | simp [upd_ap, hpL_ap, tau, mapT, mapTL, bytesI_len, eq_true c69, eq_true c70, eq_true c98, c100, eq_false c101, eq_true c104])) (.nil _))
        ·rw [if_neg c104] at h
         refine AW.ifF rfl c104 ?_
         refine AW.skip ?_
         refine block_n ?_
         refine thenA_n ?_
         refine AW.regionL [0, 1, 5, 6, 7, 8] ?_
         generalize hK : thenA _ _ Exit.normal = K
         simp only [go_sem, ↓reduceIte, reduceCtorEq, Nat.reduceAdd, Nat.reduceSub, Nat.reduceMul, Nat.reduceEqDiff, Nat.reduceLT, Nat.reduceLeDiff, eq_true c69, eq_true c70, eq_true c98, c100, eq_false c101, eq_false c104]
         subst hK
         refine thenA_n ?_
         refine ⟨_, (Option.some.inj h).symm, ?_⟩
         refine Ent.can [8, 9] _ _ _ rfl (by first | decide | simp) rfl ?_ ?_ ?_
         · exact ((((((RF.any.pv (by first | rfl | simp only [go_sem]) (by first | rfl | simp [upd_ap, hpL_ap, tau, mapT, mapTL, bytesI_len, eq_true c69, eq_true c70, eq_true c98, c100, eq_false c101, eq_false c104])).pv (by first | rfl | simp only [go_sem]) (by first | rfl | simp [upd_ap, hpL_ap, tau, mapT, mapTL, bytesI_len, eq_true c69, eq_true c70, eq_true c98, c100, eq_false c101, eq_false c104])).po (by decide) (by first | rfl | simp [upd_ap, hpL_ap, tau, mapT, mapTL, bytesI_len, eq_true c69, eq_true c70, eq_true c98, c100, eq_false c101, eq_false c104])).po (by decide) (by first | rfl | simp [upd_ap, hpL_ap, tau, mapT, mapTL, bytesI_len, eq_true c69, eq_true c70, eq_true c98, c100, eq_false c101, eq_false c104])).pv (by first | rfl | simp only [go_sem]) (by first | rfl | simp [upd_ap, hpL_ap, tau, mapT, mapTL, bytesI_len, eq_true c69, eq_true c70, eq_true c98, c100, eq_false c101, eq_false c104])).pv (by first | rfl | simp only [go_sem]) (by first | rfl | simp [upd_ap, hpL_ap, tau, mapT, mapTL, bytesI_len, eq_true c69, eq_true c70, eq_true c98, c100, eq_false c101, eq_false c104]))
         · exact .nil _
         · exact .cons (.eq (by first | rfl | simp only [go_sem]) (by first | rfl | simp [upd_ap, hpL_ap, tau, mapT, mapTL, bytesI_len, eq_true c69, eq_true c70, eq_true c98, c100, eq_false c101, eq_false c104])) (.cons (.eq (by first | rfl | simp only [go_sem]) (by first | rfl | simp [upd_ap, hpL_ap, tau, mapT, mapTL, bytesI_len, eq_true c69, eq_true c70, eq_true c98, c100, eq_false c101, eq_false c104])) (.nil _))
     ·rw [if_neg c98] at h
      refine AW.ifF rfl c98 ?_
      refine AW.exit ?_
      refine thenA_x ?_
      refine thenA_x ?_
      refine ⟨_, (Option.some.inj h).symm, _, ?_, rfl, rfl⟩
      refine Ent.can [8, 9] _ _ _ rfl (by first | decide | simp) rfl ?_ ?_ ?_
      · exact (((((RF.any.pv (by first | rfl | simp only [go_sem]) (by first | rfl | simp [upd_ap, hpL_ap, tau, mapT, mapTL, bytesI_len, eq_true c69, eq_true c70, eq_false c98])).pv (by first | rfl | simp only [go_sem]) (by first | rfl | simp [upd_ap, hpL_ap, tau, mapT, mapTL, bytesI_len, eq_true c69, eq_true c70, eq_false c98])).po (by decide) (by first | rfl | simp [upd_ap, hpL_ap, tau, mapT, mapTL, bytesI_len, eq_true c69, eq_true c70, eq_false c98])).po (by decide) (by first | rfl | simp [upd_ap, hpL_ap, tau, mapT, mapTL, bytesI_len, eq_true c69, eq_true c70, eq_false c98])).pv (by first | rfl | simp only [go_sem]) (by first | rfl | simp [upd_ap, hpL_ap, tau, mapT, mapTL, bytesI_len, eq_true c69, eq_true c70, eq_false c98]))
      · exact .nil _
      · exact .cons (.eq (by first | rfl | simp only [go_sem]) (by first | rfl | simp [upd_ap, hpL_ap, tau, mapT, mapTL, bytesI_len, eq_true c69, eq_true c70, eq_false c98])) (.cons (.eq (by first | rfl | simp only [go_sem]) (by first | rfl | simp [upd_ap, hpL_ap, tau, mapT, mapTL, bytesI_len, eq_true c69, eq_true c70, eq_false c98])) (.nil _))
    ·intro e st' hX
     try dsimp only at h
     try dsimp only at hX
     obtain ⟨rfl, rfl⟩ := hX
     refine ⟨_, Ent.refl, ?_⟩
     refine block_x ?_
     refine thenA_n ?_
     obtain ⟨x107, hx107, h⟩ := Option.bind_eq_some_iff.1 h
     obtain ⟨hx107a, hx107b⟩ := ix_some.1 hx107
     refine AW.regL [0, 1, 5, 6, 7] ?_
     generalize hK : AW Try.prog _ _ _ = K
     simp only [go_sem, ↓reduceIte, reduceCtorEq, Nat.reduceAdd, Nat.reduceSub, Nat.reduceMul, Nat.reduceEqDiff, Nat.reduceLT, Nat.reduceLeDiff, eq_true c69, eq_true c70, natOf_le hx107a, hx107b, ix_lt hx107b, set_row (enc := enc4) (y := true) (r := [.val (.bool true)]) rfl]
     subst hK
     obtain ⟨x108, hx108, h⟩ := Option.bind_eq_some_iff.1 h
     obtain ⟨hx108a, hx108b⟩ := ix_some.1 hx108
     obtain ⟨x109, hx109, h⟩ := Option.bind_eq_some_iff.1 h
     obtain ⟨hx109b, hx109e⟩ := appO?_some.1 hx109
     have hx109f : ∀ id o : Nat, appO 3 56 id ([[.val (.string x108.Key), .val (.string x108.Val), .sl (List.map enc3 x108.Offs)]]) 0 s1_1.length o (some (.row 3 true (List.map encRes s1_1))) = some ⟨.own id 0 x109.length, [(o, none), (id, some (.row 3 true (List.map encRes x109)))]⟩ := fun id o => by
       subst hx109e; rw [appO_ok (by simp) (by simpa using hx109b) (by decide)]; first | (simp [encRes]; done) | (simp [encRes]; omega)
     refine AW.regionL [0, 1, 5, 6] ?_
     generalize hK : inBlockA _ _ Exit.normal = K
     simp only [go_sem, ↓reduceIte, reduceCtorEq, Nat.reduceAdd, Nat.reduceSub, Nat.reduceMul, Nat.reduceEqDiff, Nat.reduceLT, Nat.reduceLeDiff, eq_true c69, eq_true c70, natOf_le hx108a, hx108b, hx109f]
     subst hK
     refine block_n ?_
     refine thenA_n ?_
     refine ⟨_, (Option.some.inj h).symm, ?_⟩
     refine Ent.can [8, 90] _ _ _ rfl (by first | decide | simp) rfl ?_ ?_ ?_
     · exact ((((RF.any.pv (by first | rfl | simp only [go_sem]) (by first | rfl | simp [upd_ap, hpL_ap, tau, mapT, mapTL, bytesI_len, eq_true c69, eq_true c70])).pv (by first | rfl | simp only [go_sem]) (by first | rfl | simp [upd_ap, hpL_ap, tau, mapT, mapTL, bytesI_len, eq_true c69, eq_true c70])).po (by decide) (by first | rfl | simp [upd_ap, hpL_ap, tau, mapT, mapTL, bytesI_len, eq_true c69, eq_true c70])).po (by decide) (by first | rfl | simp [upd_ap, hpL_ap, tau, mapT, mapTL, bytesI_len, eq_true c69, eq_true c70]))
     · exact .nil _
     · exact .cons (.eq (by first | rfl | simp only [go_sem]) (by first | rfl | simp [upd_ap, hpL_ap, tau, mapT, mapTL, bytesI_len, eq_true c69, eq_true c70])) (.cons (.eq (by first | rfl | simp only [go_sem]) (by first | rfl | simp [upd_ap, hpL_ap, tau, mapT, mapTL, bytesI_len, eq_true c69, eq_true c70])) (.nil _))
   ·rw [if_neg c70] at h
    refine AW.ifF rfl c70 ?_
    refine AW.exit ?_
    refine thenA_x ?_
    refine thenA_x ?_
    refine ⟨_, (Option.some.inj h).symm, _, ?_, rfl, rfl⟩
    refine Ent.can [9] _ _ _ rfl (by first | decide | simp) rfl ?_ ?_ ?_
    · exact (RF.any.po (by decide) (by first | rfl | simp [upd_ap, hpL_ap, tau, mapT, mapTL, bytesI_len, eq_true c69, eq_false c70]))
    · exact .nil _
    · exact .cons (.eq (by first | rfl | simp only [go_sem]) (by first | rfl | simp [upd_ap, hpL_ap, tau, mapT, mapTL, bytesI_len, eq_true c69, eq_false c70])) (.nil _)
  ·rw [if_neg c69] at h
   refine AW.regL [0, 1, 5, 6, 22] ?_
   generalize hK : AW Try.prog _ _ _ = K
   simp only [go_sem, ↓reduceIte, reduceCtorEq, Nat.reduceAdd, Nat.reduceSub, Nat.reduceMul, Nat.reduceEqDiff, Nat.reduceLT, Nat.reduceLeDiff, eq_false c69]
   subst hK
   refine AW.ifBF rfl rfl ?_
   refine AW.exit ?_
   refine thenA_x ?_
   refine thenA_x ?_
   refine ⟨_, (Option.some.inj h).symm, _, ?_, rfl, rfl⟩
   refine Ent.can [9] _ _ _ rfl (by first | decide | simp) rfl ?_ ?_ ?_
   · exact (RF.any.po (by decide) (by first | rfl | simp [upd_ap, hpL_ap, tau, mapT, mapTL, bytesI_len, eq_false c69]))
   · exact .nil _
   · exact .cons (.eq (by first | rfl | simp only [go_sem]) (by first | rfl | simp [upd_ap, hpL_ap, tau, mapT, mapTL, bytesI_len, eq_false c69])) (.nil _)
 ·intro e st' hX
  try dsimp only at h
  try dsimp only at hX
  obtain ⟨rfl, rfl⟩ := hX
  refine ⟨_, Ent.refl, ?_⟩
  refine block_x ?_
  refine thenA_n ?_
  refine AW.regL [4] ?_
  generalize hK : AW Try.prog _ _ _ = K
  simp only [go_sem, ↓reduceIte, reduceCtorEq, Nat.reduceAdd, Nat.reduceSub, Nat.reduceMul, Nat.reduceEqDiff, Nat.reduceLT, Nat.reduceLeDiff]
  subst hK
  refine AW.ret ?_
  obtain rfl := Option.some.inj h
  (simp only [go_sem, ↓reduceIte, reduceCtorEq, Nat.reduceAdd, Nat.reduceSub, Nat.reduceMul, Nat.reduceEqDiff, Nat.reduceLT, Nat.reduceLeDiff, finA] <;> try simp)
end Au
end Go.Proofs.Y2
