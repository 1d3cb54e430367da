import Derived.Test.YtpdgnhhjaaencaaGmDV
import Derived.Test.YtpdgnhhjaaencaaGmSG5
import Derived.Test.YtpdgnhhjaaencaaGmLi
import Derived.Test.YtpdgnhhjaaencaaGmSH5
set_option linter.all false
set_option linter.unusedVariables false
set_option linter.unusedSimpArgs false
set_option linter.all false
set_option maxRecDepth 8000
set_option maxHeartbeats 1000000
namespace Go.Proofs.Y5
open Go.Gm
namespace Au
noncomputable def f32 (a0 : List Int) (a1 : Int) : Option (List Int) := if 0 ≤ a1 ∧ a1 ≤ 1000000 then some [] else none
theorem ok32 (a0 : List Int) (a1 : Int) (r : List Int) (h : f32 a0 a1 = some r) : PC Try.prog 32 [.val (.slice none 0 0), .val (.int .i64 a1)] (.fr 1 (List.map enc3 r)) := by
  unfold f32 at h
  split at h
  rotate_left
  · cases h
  rename_i hl
  obtain rfl := Option.some.inj h
  obtain ⟨n, rfl⟩ := Int.eq_ofNat_of_zero_le hl.1
  refine pc_own (ety := 3) (l := []) (fun _ => rfl) fun m w vs hm hv => ?_
  have e := relL_vals_eq (us := [.slice none 0 0, .int .i64 n]) hv
  subst e
  exact Try.grow_new n (by omega) w
end Au
end Go.Proofs.Y5

set_option linter.all false
set_option maxRecDepth 8000
set_option maxHeartbeats 1000000
namespace Go.Proofs.Y5
open Go.Gm
namespace Au
noncomputable def f24_s2 (a0 : List (List Int)) : Int × Int → Option ((Int × Int) ⊕ Int)
  | (s2_0, s2_1) => (if s2_1 < (a0.length : Int) then ((ix a0 s2_1).bind fun x26 => (if (IntKind.i64.wrap (s2_0 + (x26.length : Int))) < 0 then none else some (.inl (IntKind.i64.wrap (s2_0 + (x26.length : Int)), IntKind.i64.wrap (s2_1 + 1))))) else some (.inr s2_0))
noncomputable def f24_s3 (a0 : List (List Int)) : (List Int) × Int → Option (((List Int) × Int) ⊕ (List Int))
  | (s3_0, s3_1) => (if s3_1 < (a0.length : Int) then ((ix a0 s3_1).bind fun x44 => ((appO? s3_0 x44).bind fun x45 => some (.inl (x45, IntKind.i64.wrap (s3_1 + 1))))) else some (.inr s3_0))
noncomputable def f24 (a0 : List (List Int)) : Option (List Int) := ((loopO (f24_s2 a0) (0, 0)).bind fun y29 => ((f32 [] y29).bind fun x30 => ((loopO (f24_s3 a0) (x30, 0)).bind fun y47 => some y47)))
theorem ok24 (a0 : List (List Int)) (r : (List Int)) (h : f24 a0 = some r) : PC Try.prog 24 [.sl (List.map enc31 a0)] (.fr 1 (List.map enc3 r)) := by
 rw [f24] at h
 refine pc_of8 (N := 36) (rs := [.tmp 2]) Try.func24 rfl rfl rfl (Nat.le_of_ble_eq_true rfl) ?_
 refine AW.regL [0] ?_
 generalize hK : AW Try.prog _ _ _ = K
 simp only [go_sem, ↓reduceIte, reduceCtorEq, Nat.reduceAdd, Nat.reduceSub, Nat.reduceMul, Nat.reduceEqDiff, Nat.reduceLT, Nat.reduceLeDiff]
 subst hK
 refine AW.regL [0, 3] ?_
 generalize hK : AW Try.prog _ _ _ = K
 simp only [go_sem, ↓reduceIte, reduceCtorEq, Nat.reduceAdd, Nat.reduceSub, Nat.reduceMul, Nat.reduceEqDiff, Nat.reduceLT, Nat.reduceLeDiff]
 subst hK
 refine AW.seq ?_
 refine AW.regL [0, 3, 9, 10, 11] ?_
 generalize hK : AW Try.prog _ _ _ = K
 simp only [go_sem, ↓reduceIte, reduceCtorEq, Nat.reduceAdd, Nat.reduceSub, Nat.reduceMul, Nat.reduceEqDiff, Nat.reduceLT, Nat.reduceLeDiff]
 subst hK
 refine AW.block ?_
 obtain ⟨y29, hy29, h⟩ := Option.bind_eq_some_iff.1 h
 refine AW.loopO (fun s => ⟨(upd (upd (upd (upd (upd anyF 0 (.sl (List.map enc31 a0))) 3 (.val (.int .i64 s.1))) 9 (.sl (List.map enc31 a0))) 10 (.val (.int .i64 (a0.length : Int)))) 11 (.val (.int .i64 s.2))), hpL [] [], 8⟩) (fun z e st' => e = Exit.exit 0 ∧ st' = ⟨(upd (upd anyF 0 (.sl (List.map enc31 a0))) 3 (.val (.int .i64 z))), hpL [] [], 8⟩) hy29 ?_ ?_ ?_
 ·refine Ent.can [] _ _ _ rfl (by first | decide | simp) rfl ?_ ?_ ?_
  · exact (((((RF.any.pv (by first | rfl | simp only [go_sem]) (by first | rfl | simp [upd_ap, hpL_ap, tau, mapT, mapTL, bytesI_len])).pv (by first | rfl | simp only [go_sem]) (by first | rfl | simp [upd_ap, hpL_ap, tau, mapT, mapTL, bytesI_len])).pv (by first | rfl | simp only [go_sem]) (by first | rfl | simp [upd_ap, hpL_ap, tau, mapT, mapTL, bytesI_len])).pv (by first | rfl | simp only [go_sem]) (by first | rfl | simp [upd_ap, hpL_ap, tau, mapT, mapTL, bytesI_len])).pv (by first | rfl | simp only [go_sem]) (by first | rfl | simp [upd_ap, hpL_ap, tau, mapT, mapTL, bytesI_len]))
  · exact .nil _
  · exact .nil _
 ·clear h hy29
  rintro ⟨s2_0, s2_1⟩ x h
  rw [f24_s2] at h
  refine AW.regL [0, 3, 9, 10, 11, 12] ?_
  generalize hK : AW Try.prog _ _ _ = K
  simp only [go_sem, ↓reduceIte, reduceCtorEq, Nat.reduceAdd, Nat.reduceSub, Nat.reduceMul, Nat.reduceEqDiff, Nat.reduceLT, Nat.reduceLeDiff]
  subst hK
  refine AW.seq ?_
  by_cases c25 : s2_1 < (a0.length : Int)
  ·rw [if_pos c25] at h
   refine AW.ifT rfl c25 ?_
   refine AW.skip ?_
   refine thenA_n ?_
   refine AW.seq ?_
   refine AW.block ?_
   obtain ⟨x26, hx26, h⟩ := Option.bind_eq_some_iff.1 h
   obtain ⟨hx26a, hx26b⟩ := ix_some.1 hx26
   refine AW.regL [0, 3, 5, 9, 10, 11] ?_
   generalize hK : AW Try.prog _ _ _ = K
   simp only [go_sem, ↓reduceIte, reduceCtorEq, Nat.reduceAdd, Nat.reduceSub, Nat.reduceMul, Nat.reduceEqDiff, Nat.reduceLT, Nat.reduceLeDiff, eq_true c25, natOf_le hx26a, hx26b]
   subst hK
   refine AW.regL [0, 3, 9, 10, 11] ?_
   generalize hK : AW Try.prog _ _ _ = K
   simp only [go_sem, ↓reduceIte, reduceCtorEq, Nat.reduceAdd, Nat.reduceSub, Nat.reduceMul, Nat.reduceEqDiff, Nat.reduceLT, Nat.reduceLeDiff, eq_true c25]
   subst hK
   refine AW.regL [0, 3, 9, 10, 11, 20] ?_
   generalize hK : AW Try.prog _ _ _ = K
   simp only [go_sem, ↓reduceIte, reduceCtorEq, Nat.reduceAdd, Nat.reduceSub, Nat.reduceMul, Nat.reduceEqDiff, Nat.reduceLT, Nat.reduceLeDiff, eq_true c25]
   subst hK
   by_cases c27 : (IntKind.i64.wrap (s2_0 + (x26.length : Int))) < 0
   ·rw [if_pos c27] at h
    refine AW.ifT rfl c27 ?_
    cases h
   ·rw [if_neg c27] at h
    refine AW.ifF rfl c27 ?_
    refine AW.skip ?_
    refine block_n ?_
    refine thenA_n ?_
    refine AW.regionL [0, 3, 9, 10, 11] ?_
    generalize hK : thenA _ _ Exit.normal = K
    simp only [go_sem, ↓reduceIte, reduceCtorEq, Nat.reduceAdd, Nat.reduceSub, Nat.reduceMul, Nat.reduceEqDiff, Nat.reduceLT, Nat.reduceLeDiff, eq_true c25, eq_false c27]
    subst hK
    refine thenA_n ?_
    refine ⟨_, (Option.some.inj h).symm, ?_⟩
    refine Ent.can [] _ _ _ rfl (by first | decide | simp) rfl ?_ ?_ ?_
    · exact (((((RF.any.pv (by first | rfl | simp only [go_sem]) (by first | rfl | simp [upd_ap, hpL_ap, tau, mapT, mapTL, bytesI_len, eq_true c25, eq_false c27])).pv (by first | rfl | simp only [go_sem]) (by first | rfl | simp [upd_ap, hpL_ap, tau, mapT, mapTL, bytesI_len, eq_true c25, eq_false c27])).pv (by first | rfl | simp only [go_sem]) (by first | rfl | simp [upd_ap, hpL_ap, tau, mapT, mapTL, bytesI_len, eq_true c25, eq_false c27])).pv (by first | rfl | simp only [go_sem]) (by first | rfl | simp [upd_ap, hpL_ap, tau, mapT, mapTL, bytesI_len, eq_true c25, eq_false c27])).pv (by first | rfl | simp only [go_sem]) (by first | rfl | simp [upd_ap, hpL_ap, tau, mapT, mapTL, bytesI_len, eq_true c25, eq_false c27]))
    · exact .nil _
    · exact .nil _
  ·rw [if_neg c25] at h
   refine AW.ifF rfl c25 ?_
   refine AW.exit ?_
   refine thenA_x ?_
   refine thenA_x ?_
   refine ⟨_, (Option.some.inj h).symm, _, ?_, rfl, rfl⟩
   refine Ent.can [] _ _ _ rfl (by first | decide | simp) rfl ?_ ?_ ?_
   · exact ((RF.any.pv (by first | rfl | simp only [go_sem]) (by first | rfl | simp [upd_ap, hpL_ap, tau, mapT, mapTL, bytesI_len, eq_false c25])).pv (by first | rfl | simp only [go_sem]) (by first | rfl | simp [upd_ap, hpL_ap, tau, mapT, mapTL, bytesI_len, eq_false c25]))
   · exact .nil _
   · exact .nil _
 ·intro e st' hX
  try dsimp only at h
  try dsimp only at hX
  obtain ⟨rfl, rfl⟩ := hX
  refine ⟨_, Ent.refl, ?_⟩
  refine block_x ?_
  refine thenA_n ?_
  obtain ⟨x30, hx30, h⟩ := Option.bind_eq_some_iff.1 h
  refine AW.regL [0, 6] ?_
  generalize hK : AW Try.prog _ _ _ = K
  simp only [go_sem, ↓reduceIte, reduceCtorEq, Nat.reduceAdd, Nat.reduceSub, Nat.reduceMul, Nat.reduceEqDiff, Nat.reduceLT, Nat.reduceLeDiff]
  refine arC.ok (CallOk.of_vals (us0 := [.slice none 0 0, .int .i64 y29]) (ok32 [] y29 x30 hx30) (by first | decide | simp [go_sem])) Try.call32 ?_
  simp only [go_sem, ↓reduceIte, reduceCtorEq, Nat.reduceAdd, Nat.reduceSub, Nat.reduceMul, Nat.reduceEqDiff, Nat.reduceLT, Nat.reduceLeDiff]
  subst hK
  refine AW.seq ?_
  refine AW.regL [6, 25, 26, 27] ?_
  generalize hK : AW Try.prog _ _ _ = K
  simp only [go_sem, ↓reduceIte, reduceCtorEq, Nat.reduceAdd, Nat.reduceSub, Nat.reduceMul, Nat.reduceEqDiff, Nat.reduceLT, Nat.reduceLeDiff]
  subst hK
  refine AW.block ?_
  obtain ⟨y47, hy47, h⟩ := Option.bind_eq_some_iff.1 h
  refine AW.loopO (fun s => ⟨(upd (upd (upd (upd anyF 6 (.own 8 0 s.1.length)) 25 (.sl (List.map enc31 a0))) 26 (.val (.int .i64 (a0.length : Int)))) 27 (.val (.int .i64 s.2))), hpL [] [some (.row 1 true (List.map enc3 s.1))], 9⟩) (fun z e st' => e = Exit.exit 2 ∧ st' = ⟨(upd anyF 6 (.own 8 0 z.length)), hpL [] [some (.row 1 true (List.map enc3 z))], 9⟩) hy47 ?_ ?_ ?_
  ·refine Ent.can [16] _ _ _ rfl (by first | decide | simp) rfl ?_ ?_ ?_
   · exact ((((RF.any.po (by decide) (by first | rfl | simp [upd_ap, hpL_ap, tau, mapT, mapTL, bytesI_len])).pv (by first | rfl | simp only [go_sem]) (by first | rfl | simp [upd_ap, hpL_ap, tau, mapT, mapTL, bytesI_len])).pv (by first | rfl | simp only [go_sem]) (by first | rfl | simp [upd_ap, hpL_ap, tau, mapT, mapTL, bytesI_len])).pv (by first | rfl | simp only [go_sem]) (by first | rfl | simp [upd_ap, hpL_ap, tau, mapT, mapTL, bytesI_len]))
   · exact .nil _
   · exact .cons (.eq (by first | rfl | simp only [go_sem]) (by first | rfl | simp [upd_ap, hpL_ap, tau, mapT, mapTL, bytesI_len])) (.nil _)
  ·clear h hy47
   rintro ⟨s3_0, s3_1⟩ x h
   rw [f24_s3] at h
   refine AW.regL [6, 25, 26, 27, 28] ?_
   generalize hK : AW Try.prog _ _ _ = K
   simp only [go_sem, ↓reduceIte, reduceCtorEq, Nat.reduceAdd, Nat.reduceSub, Nat.reduceMul, Nat.reduceEqDiff, Nat.reduceLT, Nat.reduceLeDiff]
   subst hK
   refine AW.seq ?_
   by_cases c43 : s3_1 < (a0.length : Int)
   ·rw [if_pos c43] at h
    refine AW.ifT rfl c43 ?_
    refine AW.skip ?_
    refine thenA_n ?_
    refine AW.seq ?_
    refine AW.block ?_
    obtain ⟨x44, hx44, h⟩ := Option.bind_eq_some_iff.1 h
    obtain ⟨hx44a, hx44b⟩ := ix_some.1 hx44
    refine AW.regL [6, 8, 25, 26, 27] ?_
    generalize hK : AW Try.prog _ _ _ = K
    simp only [go_sem, ↓reduceIte, reduceCtorEq, Nat.reduceAdd, Nat.reduceSub, Nat.reduceMul, Nat.reduceEqDiff, Nat.reduceLT, Nat.reduceLeDiff, eq_true c43, natOf_le hx44a, hx44b]
    subst hK
    obtain ⟨x45, hx45, h⟩ := Option.bind_eq_some_iff.1 h
    obtain ⟨hx45b, hx45e⟩ := appO?_some.1 hx45
    have hx45f : ∀ id o : Nat, appO 1 8 id (List.map enc3 x44) 0 s3_0.length o (some (.row 1 true (List.map enc3 s3_0))) = some ⟨.own id 0 x45.length, [(o, none), (id, some (.row 1 true (List.map enc3 x45)))]⟩ := fun id o => by
      subst hx45e; rw [appO_ok (by simp) (by simpa using hx45b) (by decide)]; first | (simp [enc3]; done) | (simp [enc3]; omega)
    refine AW.regionL [6, 25, 26, 27] ?_
    generalize hK : inBlockA _ _ Exit.normal = K
    simp only [go_sem, ↓reduceIte, reduceCtorEq, Nat.reduceAdd, Nat.reduceSub, Nat.reduceMul, Nat.reduceEqDiff, Nat.reduceLT, Nat.reduceLeDiff, eq_true c43, hx45f]
    subst hK
    refine block_n ?_
    refine thenA_n ?_
    refine AW.regionL [6, 25, 26, 27] ?_
    generalize hK : thenA _ _ Exit.normal = K
    simp only [go_sem, ↓reduceIte, reduceCtorEq, Nat.reduceAdd, Nat.reduceSub, Nat.reduceMul, Nat.reduceEqDiff, Nat.reduceLT, Nat.reduceLeDiff, eq_true c43]
    subst hK
    refine thenA_n ?_
    refine ⟨_, (Option.some.inj h).symm, ?_⟩
    refine Ent.can [57] _ _ _ rfl (by first | decide | simp) rfl ?_ ?_ ?_
    · exact ((((RF.any.po (by decide) (by first | rfl | simp [upd_ap, hpL_ap, tau, mapT, mapTL, bytesI_len, eq_true c43])).pv (by first | rfl | simp only [go_sem]) (by first | rfl | simp [upd_ap, hpL_ap, tau, mapT, mapTL, bytesI_len, eq_true c43])).pv (by first | rfl | simp only [go_sem]) (by first | rfl | simp [upd_ap, hpL_ap, tau, mapT, mapTL, bytesI_len, eq_true c43])).pv (by first | rfl | simp only [go_sem]) (by first | rfl | simp [upd_ap, hpL_ap, tau, mapT, mapTL, bytesI_len, eq_true c43]))
    · exact .nil _
    · exact .cons (.eq (by first | rfl | simp only [go_sem]) (by first | rfl | simp [upd_ap, hpL_ap, tau, mapT, mapTL, bytesI_len, eq_true c43])) (.nil _)
   ·rw [if_neg c43] at h
    refine AW.ifF rfl c43 ?_
    refine AW.exit ?_
    refine thenA_x ?_
    refine thenA_x ?_
    refine ⟨_, (Option.some.inj h).symm, _, ?_, rfl, rfl⟩
    refine Ent.can [8] _ _ _ rfl (by first | decide | simp) rfl ?_ ?_ ?_
    · exact (RF.any.po (by decide) (by first | rfl | simp [upd_ap, hpL_ap, tau, mapT, mapTL, bytesI_len, eq_false c43]))
    · exact .nil _
    · exact .cons (.eq (by first | rfl | simp only [go_sem]) (by first | rfl | simp [upd_ap, hpL_ap, tau, mapT, mapTL, bytesI_len, eq_false c43])) (.nil _)
  ·intro e st' hX
   try dsimp only at h
   try dsimp only at hX
   obtain ⟨rfl, rfl⟩ := hX
   refine ⟨_, Ent.refl, ?_⟩
   refine block_x ?_
   refine thenA_n ?_
   refine AW.regL [2] ?_
   generalize hK : AW Try.prog _ _ _ = K
   simp only [go_sem, ↓reduceIte, reduceCtorEq, Nat.reduceAdd, Nat.reduceSub, Nat.reduceMul, Nat.reduceEqDiff, Nat.reduceLT, Nat.reduceLeDiff]
   subst hK
   refine AW.ret ?_
   obtain rfl := Option.some.inj h
   (simp only [go_sem, ↓reduceIte, reduceCtorEq, Nat.reduceAdd, Nat.reduceSub, Nat.reduceMul, Nat.reduceEqDiff, Nat.reduceLT, Nat.reduceLeDiff, finA] <;> try simp)
end Au
end Go.Proofs.Y5

set_option linter.all false
set_option maxRecDepth 8000
set_option maxHeartbeats 1000000
namespace Go.Proofs.Y5
open Go.Gm
namespace Au
noncomputable def f25 (a0 : List Int) : Option (List Int) := if a0.length < 4611686018427387904 then some (sortI a0) else none
theorem len25 {a r : List Int} (h : f25 a = some r) : r.length = a.length := by
  unfold f25 at h
  split at h
  · rw [← Option.some.inj h]; exact sortI_len a
  · cases h
theorem ok25 (a0 : List Int) (r : List Int) (h : f25 a0 = some r) : IC Try.prog 25 [some (.row 1 true (List.map enc3 a0))] [.own 0 0 a0.length] (.tup []) [some (.row 1 true (List.map enc3 r))] [] := by
  unfold f25 at h
  split at h
  rotate_left
  · cases h
  rename_i hl
  obtain rfl := Option.some.inj h
  exact ic_sortI (fun _ => rfl) 25 (fun blk off cap l w hH hb hs => Try.slices_Sort_int blk off cap l w hH hb hs) (fun p cap w => Try.slices_Sort_int_none p cap w) a0 hl
end Au
end Go.Proofs.Y5

set_option linter.all false
set_option maxRecDepth 8000
set_option maxHeartbeats 1000000
namespace Go.Proofs.Y5
open Go.Gm
namespace Au
noncomputable def f26 (a0 : List Int) : Option (List Int) := if a0.length < 4611686018427387904 then some (compI a0) else none
theorem ok26 (a0 : List Int) (r : List Int) (h : f26 a0 = some r) : IC Try.prog 26 [some (.row 1 true (List.map enc3 a0))] [.own 0 0 a0.length] (.own 0 0 r.length) [some (.row 1 true (List.map enc3 r))] [] := by
  unfold f26 at h
  split at h
  rotate_left
  · cases h
  rename_i hl
  obtain rfl := Option.some.inj h
  exact ic_compI (fun _ => rfl) 26 (fun blk off cap l w hH hs hc => Try.slices_Compact_int blk off cap l w hH hs hc) (fun a cap w => Try.slices_Compact_int_empty a cap w) a0 hl
end Au
end Go.Proofs.Y5

set_option linter.all false
set_option maxRecDepth 8000
set_option maxHeartbeats 1000000
namespace Go.Proofs.Y5
open Go.Gm
namespace Au
noncomputable def f16 (a0 : List Int) (a1 : List Int) : Option (List Int) := ((f24 [a0, a1]).bind fun x1 => ((f25 x1).bind fun x2 => ((f26 x2).bind fun x3 => some x3)))
theorem ok16 (a0 : List Int) (a1 : List Int) (r : (List Int)) (h : f16 a0 a1 = some r) : PC Try.prog 16 [.sl (List.map enc3 a0), .sl (List.map enc3 a1)] (.fr 1 (List.map enc3 r)) := by
 rw [f16] at h
 refine pc_of8 (N := 14) (rs := [.tmp 4]) Try.func16 rfl rfl rfl (Nat.le_of_ble_eq_true rfl) ?_
 refine AW.regL [0, 1] ?_
 generalize hK : AW Try.prog _ _ _ = K
 simp only [go_sem, ↓reduceIte, reduceCtorEq, Nat.reduceAdd, Nat.reduceSub, Nat.reduceMul, Nat.reduceEqDiff, Nat.reduceLT, Nat.reduceLeDiff]
 subst hK
 obtain ⟨x1, hx1, h⟩ := Option.bind_eq_some_iff.1 h
 refine AW.regL [5] ?_
 generalize hK : AW Try.prog _ _ _ = K
 simp only [go_sem, ↓reduceIte, reduceCtorEq, Nat.reduceAdd, Nat.reduceSub, Nat.reduceMul, Nat.reduceEqDiff, Nat.reduceLT, Nat.reduceLeDiff]
 refine arC.of (ok24 [a0, a1] x1 hx1) Try.call24 ?_
 simp only [go_sem, ↓reduceIte, reduceCtorEq, Nat.reduceAdd, Nat.reduceSub, Nat.reduceMul, Nat.reduceEqDiff, Nat.reduceLT, Nat.reduceLeDiff]
 subst hK
 obtain ⟨x2, hx2, h⟩ := Option.bind_eq_some_iff.1 h
 have lenhx2 : x2.length = x1.length := len25 hx2
 refine AW.regL [5] ?_
 generalize hK : AW Try.prog _ _ _ = K
 simp only [go_sem, ↓reduceIte, reduceCtorEq, Nat.reduceAdd, Nat.reduceSub, Nat.reduceMul, Nat.reduceEqDiff, Nat.reduceLT, Nat.reduceLeDiff, lenhx2]
 refine arC.ok (CallOk.ic (us' := _) (ok25 x1 x2 hx2) [40] rfl (by decide) (by simp) (by simp) (by simp) (by simp) (.cons (.eq (by simp only [go_sem]) (by first | rfl | simp [upd_ap, hpL_ap, sg_ap])) (.nil _)) (by simp only [mapTL_cons, mapTL_nil, mapT_ptr, mapT_own, mapT_val, mapT_sl, mapT_agg, mapT_ip, mapT_clo, sg_ap, List.getD_cons_zero, List.getD_cons_succ]; exact (.cons (.of (by first | rfl | simp [mapT_own, sg_ap])) .nil)) (by simp only [go_sem, List.length_cons, List.length_nil, Nat.reduceAdd, Nat.reduceLT, decide_true]) (by simp [AObj.isMut]) (by simp [go_sem]) (by simp [go_sem])) Try.call25 ?_
 simp only [go_sem, ↓reduceIte, reduceCtorEq, Nat.reduceAdd, Nat.reduceSub, Nat.reduceMul, Nat.reduceEqDiff, Nat.reduceLT, Nat.reduceLeDiff, lenhx2]
 subst hK
 obtain ⟨x3, hx3, h⟩ := Option.bind_eq_some_iff.1 h
 refine AW.regL [4] ?_
 generalize hK : AW Try.prog _ _ _ = K
 simp only [go_sem, ↓reduceIte, reduceCtorEq, Nat.reduceAdd, Nat.reduceSub, Nat.reduceMul, Nat.reduceEqDiff, Nat.reduceLT, Nat.reduceLeDiff, lenhx2]
 refine arC.ok (CallOk.ic (us' := _) (ok26 x2 x3 hx3) [40] rfl (by decide) (by simp) (by simp) (by simp) (by simp) (.cons (.eq (by simp only [go_sem]) (by first | rfl | simp [upd_ap, hpL_ap, sg_ap])) (.nil _)) (by simp only [mapTL_cons, mapTL_nil, mapT_ptr, mapT_own, mapT_val, mapT_sl, mapT_agg, mapT_ip, mapT_clo, sg_ap, List.getD_cons_zero, List.getD_cons_succ]; exact (.cons (.of (by first | rfl | simp [mapT_own, sg_ap, lenhx2])) .nil)) (by simp only [go_sem, List.length_cons, List.length_nil, Nat.reduceAdd, Nat.reduceLT, decide_true]) (by simp [AObj.isMut]) (by simp [go_sem]) (by simp [go_sem])) Try.call26 ?_
 simp only [go_sem, ↓reduceIte, reduceCtorEq, Nat.reduceAdd, Nat.reduceSub, Nat.reduceMul, Nat.reduceEqDiff, Nat.reduceLT, Nat.reduceLeDiff, lenhx2]
 subst hK
 refine AW.ret ?_
 obtain rfl := Option.some.inj h
 (simp only [go_sem, ↓reduceIte, reduceCtorEq, Nat.reduceAdd, Nat.reduceSub, Nat.reduceMul, Nat.reduceEqDiff, Nat.reduceLT, Nat.reduceLeDiff, lenhx2, finA] <;> try simp) <;> try omega
end Au
end Go.Proofs.Y5
