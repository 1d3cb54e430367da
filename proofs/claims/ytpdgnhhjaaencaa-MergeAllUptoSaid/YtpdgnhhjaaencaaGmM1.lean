import Derived.Test.YtpdgnhhjaaencaaGmDV
set_option linter.all false
set_option linter.unusedVariables false
set_option linter.unusedSimpArgs false
set_option linter.all false
set_option maxRecDepth 8000
set_option maxHeartbeats 1000000
namespace Go.Proofs.Y5
open Go.Gm
namespace Au
noncomputable def f31 (a0 : Item) (a1 : Item) : Option Int := (if (sLt a0.Key a1.Key) = true then some (-1) else (if (sLt a0.Key a1.Key || decide (a0.Key = a1.Key)) = true then some 0 else some 1))
theorem ok31 (a0 : Item) (a1 : Item) (r : Int) (h : f31 a0 a1 = some r) : PC Try.prog 31 [.agg (encItem a0), .agg (encItem a1)] (.val (.int .i64 r)) := by
 rw [f31] at h
 refine pc_of8 (N := 15) (rs := [.tmp 4]) Try.func31 rfl rfl rfl (Nat.le_of_ble_eq_true rfl) ?_
 refine AW.regL [2, 3] ?_
 generalize hK : AW Try.prog _ _ _ = K
 simp only [go_sem, ↓reduceIte, reduceCtorEq, Nat.reduceAdd, Nat.reduceSub, Nat.reduceMul, Nat.reduceEqDiff, Nat.reduceLT, Nat.reduceLeDiff]
 subst hK
 refine AW.seq ?_
 refine AW.regL [2, 3, 9] ?_
 generalize hK : AW Try.prog _ _ _ = K
 simp only [go_sem, ↓reduceIte, reduceCtorEq, Nat.reduceAdd, Nat.reduceSub, Nat.reduceMul, Nat.reduceEqDiff, Nat.reduceLT, Nat.reduceLeDiff]
 subst hK
 by_cases c2 : (sLt a0.Key a1.Key) = true
 ·rw [if_pos c2] at h
  refine AW.ifBT rfl c2 ?_
  refine AW.regL [4] ?_
  generalize hK : AW Try.prog _ _ _ = K
  simp only [go_sem, ↓reduceIte, reduceCtorEq, Nat.reduceAdd, Nat.reduceSub, Nat.reduceMul, Nat.reduceEqDiff, Nat.reduceLT, Nat.reduceLeDiff, c2]
  subst hK
  refine AW.ret ?_
  refine thenA_r ?_
  obtain rfl := Option.some.inj h
  (simp only [go_sem, ↓reduceIte, reduceCtorEq, Nat.reduceAdd, Nat.reduceSub, Nat.reduceMul, Nat.reduceEqDiff, Nat.reduceLT, Nat.reduceLeDiff, c2, finA] <;> try simp)
 ·rw [if_neg c2] at h
  rw [Bool.not_eq_true] at c2
  refine AW.ifBF rfl c2 ?_
  refine AW.skip ?_
  refine thenA_n ?_
  refine AW.seq ?_
  refine AW.regL [14] ?_
  generalize hK : AW Try.prog _ _ _ = K
  simp only [go_sem, ↓reduceIte, reduceCtorEq, Nat.reduceAdd, Nat.reduceSub, Nat.reduceMul, Nat.reduceEqDiff, Nat.reduceLT, Nat.reduceLeDiff, c2]
  subst hK
  by_cases c3 : (sLt a0.Key a1.Key || decide (a0.Key = a1.Key)) = true
  ·rw [if_pos c3] at h
   refine AW.ifBF rfl (by first | (rw [c3]; rfl) | simp_all) ?_
   refine AW.skip ?_
   refine thenA_n ?_
   refine AW.regL [4] ?_
   generalize hK : AW Try.prog _ _ _ = K
   simp only [go_sem, ↓reduceIte, reduceCtorEq, Nat.reduceAdd, Nat.reduceSub, Nat.reduceMul, Nat.reduceEqDiff, Nat.reduceLT, Nat.reduceLeDiff, c2, c3]
   subst hK
   refine AW.ret ?_
   obtain rfl := Option.some.inj h
   (simp only [go_sem, ↓reduceIte, reduceCtorEq, Nat.reduceAdd, Nat.reduceSub, Nat.reduceMul, Nat.reduceEqDiff, Nat.reduceLT, Nat.reduceLeDiff, c2, c3, finA] <;> try simp)
  ·rw [if_neg c3] at h
   rw [Bool.not_eq_true] at c3
   refine AW.ifBT rfl (by first | (rw [c3]; rfl) | simp_all) ?_
   refine AW.regL [4] ?_
   generalize hK : AW Try.prog _ _ _ = K
   simp only [go_sem, ↓reduceIte, reduceCtorEq, Nat.reduceAdd, Nat.reduceSub, Nat.reduceMul, Nat.reduceEqDiff, Nat.reduceLT, Nat.reduceLeDiff, c2, c3]
   subst hK
   refine AW.ret ?_
   refine thenA_r ?_
   obtain rfl := Option.some.inj h
   (simp only [go_sem, ↓reduceIte, reduceCtorEq, Nat.reduceAdd, Nat.reduceSub, Nat.reduceMul, Nat.reduceEqDiff, Nat.reduceLT, Nat.reduceLeDiff, c2, c3, finA] <;> try simp)
end Au
end Go.Proofs.Y5

set_option linter.all false
set_option maxRecDepth 8000
set_option maxHeartbeats 1000000
namespace Go.Proofs.Y5
open Go.Gm
namespace Au
noncomputable def f49_31_s4 (a1 : Int) : (List Item) × Int → Option (((List Item) × Int) ⊕ (List Item))
  | (s4_0, s4_1) => (if a1 < s4_1 then ((ix s4_0 s4_1).bind fun x83 => ((ix s4_0 (IntKind.i64.wrap (s4_1 - 1))).bind fun x84 => ((f31 x83 x84).bind fun x85 => (if x85 < 0 then ((ix (s4_0.set s4_1.toNat x84) (IntKind.i64.wrap (s4_1 - 1))).bind fun x87 => some (.inl (((s4_0.set s4_1.toNat x84).set ((IntKind.i64.wrap (s4_1 - 1)).toNat) x83), IntKind.i64.wrap (s4_1 - 1)))) else some (.inr s4_0))))) else some (.inr s4_0))
noncomputable def f49_31_s1 (a1 : Int) (a2 : Int) : (List Item) × Int → Option (((List Item) × Int) ⊕ (List Item))
  | (s1_0, s1_1) => (if s1_1 < a2 then ((loopO (f49_31_s4 a1) (s1_0, s1_1)).bind fun y89 => some (.inl (y89, IntKind.i64.wrap (s1_1 + 1)))) else some (.inr s1_0))
noncomputable def f49_31 (a0 : List Item) (a1 : Int) (a2 : Int) : Option (List Item) := ((loopO (f49_31_s1 a1 a2) (a0, IntKind.i64.wrap (a1 + 1))).bind fun y91 => some y91)
theorem ok49_31 (a0 : List Item) (a1 : Int) (a2 : Int) (r : (List Item)) (h : f49_31 a0 a1 a2 = some r) : IC Try.prog 49 [some (.row 3 true (List.map encItem a0))] [.own 0 0 a0.length, .val (.int .i64 a1), .val (.int .i64 a2), .clo (.func 31) [] []] (.tup []) [some (.row 3 true (List.map encItem r))] [] := by
 rw [f49_31] at h
 refine ic_ofJ (N := 53) (rs := []) Try.func49 rfl rfl rfl (Nat.le_of_ble_eq_true rfl) ?_
 refine AW.regL [0, 1, 2, 3, 8] ?_
 generalize hK : AW Try.prog _ _ _ = K
 simp only [go_sem, ↓reduceIte, reduceCtorEq, Nat.reduceAdd, Nat.reduceSub, Nat.reduceMul, Nat.reduceEqDiff, Nat.reduceLT, Nat.reduceLeDiff]
 subst hK
 refine AW.block ?_
 obtain ⟨y91, hy91, h⟩ := Option.bind_eq_some_iff.1 h
 refine AW.loopO (fun s => ⟨(upd (upd (upd (upd (upd anyF 0 (.own 0 0 s.1.length)) 1 (.val (.int .i64 a1))) 2 (.val (.int .i64 a2))) 3 (.clo (.func 31) [] [])) 8 (.val (.int .i64 s.2))), hpL [some (.row 3 true (List.map encItem s.1))] [], 8⟩) (fun z e st' => e = Exit.exit 0 ∧ st' = ⟨anyF, hpL [some (.row 3 true (List.map encItem z))] [], 8⟩) hy91 ?_ ?_ ?_
 ·refine Ent.can [] _ _ _ rfl (by first | decide | simp) rfl ?_ ?_ ?_
  · exact (((((RF.any.po (by decide) (by first | rfl | simp [upd_ap, hpL_ap, tau, mapT, mapTL, bytesI_len])).pv (by first | rfl | simp only [go_sem]) (by first | rfl | simp [upd_ap, hpL_ap, tau, mapT, mapTL, bytesI_len])).pv (by first | rfl | simp only [go_sem]) (by first | rfl | simp [upd_ap, hpL_ap, tau, mapT, mapTL, bytesI_len])).put (by first | (simp [tokL, tokLL, inlR]; done) | simp [go_sem, tokL, tokLL]) (.of (by first | rfl | simp [upd_ap, hpL_ap, tau, mapT, mapTL, bytesI_len]))).pv (by first | rfl | simp only [go_sem]) (by first | rfl | simp [upd_ap, hpL_ap, tau, mapT, mapTL, bytesI_len]))
  · exact .cons (.eq (by first | rfl | simp only [go_sem]) (by first | rfl | simp [upd_ap, hpL_ap, tau, mapT, mapTL, bytesI_len])) (.nil _)
  · exact .nil _
 ·clear h hy91
  rintro ⟨s1_0, s1_1⟩ x h
  rw [f49_31_s1] at h
  refine AW.seq ?_
  refine AW.regL [0, 1, 2, 3, 8, 14] ?_
  generalize hK : AW Try.prog _ _ _ = K
  simp only [go_sem, ↓reduceIte, reduceCtorEq, Nat.reduceAdd, Nat.reduceSub, Nat.reduceMul, Nat.reduceEqDiff, Nat.reduceLT, Nat.reduceLeDiff]
  subst hK
  by_cases c54 : s1_1 < a2
  ·rw [if_pos c54] at h
   refine AW.ifT rfl c54 ?_
   refine AW.skip ?_
   refine thenA_n ?_
   refine AW.seq ?_
   refine AW.block ?_
   refine AW.regL [0, 1, 2, 3, 8, 9] ?_
   generalize hK : AW Try.prog _ _ _ = K
   simp only [go_sem, ↓reduceIte, reduceCtorEq, Nat.reduceAdd, Nat.reduceSub, Nat.reduceMul, Nat.reduceEqDiff, Nat.reduceLT, Nat.reduceLeDiff, eq_true c54]
   subst hK
   refine AW.block ?_
   obtain ⟨y89, hy89, h⟩ := Option.bind_eq_some_iff.1 h
   refine AW.loopO (fun s => ⟨(upd (upd (upd (upd (upd (upd anyF 0 (.own 0 0 s.1.length)) 1 (.val (.int .i64 a1))) 2 (.val (.int .i64 a2))) 3 (.clo (.func 31) [] [])) 8 (.val (.int .i64 s1_1))) 9 (.val (.int .i64 s.2))), hpL [some (.row 3 true (List.map encItem s.1))] [], 8⟩) (fun z e st' => e = Exit.exit 2 ∧ st' = ⟨(upd (upd (upd (upd (upd anyF 0 (.own 0 0 z.length)) 1 (.val (.int .i64 a1))) 2 (.val (.int .i64 a2))) 3 (.clo (.func 31) [] [])) 8 (.val (.int .i64 s1_1))), hpL [some (.row 3 true (List.map encItem z))] [], 8⟩) hy89 ?_ ?_ ?_
   ·refine Ent.can [] _ _ _ rfl (by first | decide | simp) rfl ?_ ?_ ?_
    · exact ((((((RF.any.po (by decide) (by first | rfl | simp [upd_ap, hpL_ap, tau, mapT, mapTL, bytesI_len, eq_true c54])).pv (by first | rfl | simp only [go_sem]) (by first | rfl | simp [upd_ap, hpL_ap, tau, mapT, mapTL, bytesI_len, eq_true c54])).pv (by first | rfl | simp only [go_sem]) (by first | rfl | simp [upd_ap, hpL_ap, tau, mapT, mapTL, bytesI_len, eq_true c54])).put (by first | (simp [tokL, tokLL, inlR]; done) | simp [go_sem, tokL, tokLL]) (.of (by first | rfl | simp [upd_ap, hpL_ap, tau, mapT, mapTL, bytesI_len, eq_true c54]))).pv (by first | rfl | simp only [go_sem]) (by first | rfl | simp [upd_ap, hpL_ap, tau, mapT, mapTL, bytesI_len, eq_true c54])).pv (by first | rfl | simp only [go_sem]) (by first | rfl | simp [upd_ap, hpL_ap, tau, mapT, mapTL, bytesI_len, eq_true c54]))
    · exact .cons (.eq (by first | rfl | simp only [go_sem]) (by first | rfl | simp [upd_ap, hpL_ap, tau, mapT, mapTL, bytesI_len, eq_true c54])) (.nil _)
    · exact .nil _
   ·clear h hy89
    rintro ⟨s4_0, s4_1⟩ x h
    rw [f49_31_s4] at h
    refine AW.seq ?_
    by_cases c82 : a1 < s4_1
    ·rw [if_pos c82] at h
     obtain ⟨x83, hx83, h⟩ := Option.bind_eq_some_iff.1 h
     obtain ⟨hx83a, hx83b⟩ := ix_some.1 hx83
     obtain ⟨x84, hx84, h⟩ := Option.bind_eq_some_iff.1 h
     obtain ⟨hx84a, hx84b⟩ := ix_some.1 hx84
     obtain ⟨x85, hx85, h⟩ := Option.bind_eq_some_iff.1 h
     refine AW.regdL [0, 1, 2, 3, 8, 9, 34] [[], [], [0, 1], [0, 1, 2], [0, 1, 2, 3], [0, 1, 2, 3], [0, 1, 2, 3], [0, 1, 2, 3, 5, 6], [0, 1, 2, 3, 5, 6, 7], [0, 1, 2, 3], [0, 1, 2, 3], [0, 1, 2, 3, 10], [0, 1, 2, 3, 9, 10, 11], [0, 1, 2, 3, 9, 10, 11, 12], [0, 1, 2, 3, 4, 5, 6, 7, 8, 9, 10, 11, 12, 13], [0, 1, 2, 3, 4, 5, 6, 7, 8, 9, 10, 11, 12, 13, 14], [0, 1, 2, 3, 4, 5, 6, 7, 8, 9, 10, 11, 12, 13, 14, 15]] [0, 1, 2, 3, 4, 5, 6, 7, 8, 9, 10, 11, 12, 13, 14, 15, 16] noFt (fun _ _ _ h => by simp [noFt] at h) draws (by kernel_rfl) (by kernel_rfl) ?_
     generalize hK : AW Try.prog _ _ _ = K
     simp only [go_sem, ↓reduceIte, reduceCtorEq, Nat.reduceAdd, Nat.reduceSub, Nat.reduceMul, Nat.reduceEqDiff, Nat.reduceLT, Nat.reduceLeDiff, eq_true c54, eq_true c82, natOf_le hx83a, hx83b, ix_lt hx83b, natOf_le hx84a, hx84b, ix_lt hx84b]
     refine adN.pc (ok31 x83 x84 x85 hx85) Try.call31 (callV_tmp (by simp only [upd_ap, Nat.reduceEqDiff, if_true, if_false, ↓reduceIte]; rfl)) (by simp only [go_sem, ↓reduceIte, reduceCtorEq, Nat.reduceAdd, Nat.reduceSub, Nat.reduceMul, Nat.reduceEqDiff, Nat.reduceLT, Nat.reduceLeDiff, List.nil_append, List.append_nil, eq_true c54, eq_true c82, natOf_le hx83a, hx83b, ix_lt hx83b, natOf_le hx84a, hx84b, ix_lt hx84b]) (by simp only [go_sem, ↓reduceIte, reduceCtorEq, Nat.reduceAdd, Nat.reduceSub, Nat.reduceMul, Nat.reduceEqDiff, Nat.reduceLT, Nat.reduceLeDiff]) ?_
     simp only [go_sem, ↓reduceIte, reduceCtorEq, Nat.reduceAdd, Nat.reduceSub, Nat.reduceMul, Nat.reduceEqDiff, Nat.reduceLT, Nat.reduceLeDiff, eq_true c54, eq_true c82, natOf_le hx83a, hx83b, ix_lt hx83b, natOf_le hx84a, hx84b, ix_lt hx84b]
     subst hK
     by_cases c86 : x85 < 0
     ·rw [if_pos c86] at h
      refine AW.ifT rfl c86 ?_
      refine AW.skip ?_
      refine thenA_n ?_
      refine AW.seq ?_
      refine AW.block ?_
      obtain ⟨x87, hx87, h⟩ := Option.bind_eq_some_iff.1 h
      obtain ⟨hx87a, hx87b⟩ := ix_some.1 hx87
      refine AW.drawL [0, 1, 2, 3, 8, 9] [[], [], [], [], [3], [], [], [6], [5, 6, 7], [5, 6, 7, 8], [], [], [10, 11], [10, 11, 12], [0, 1, 5, 6, 7, 8, 9, 10, 11, 12, 13], [0, 1, 5, 6, 7, 8, 9, 10, 11, 12, 13, 14], [0, 1, 2, 3, 4, 5, 6, 7, 8, 9, 10, 11, 12, 13, 14, 15], [0, 1, 2, 3, 4, 5, 6, 7, 8, 9, 10, 11, 12, 13, 14, 15, 16]] [0, 1, 2, 3, 4, 5, 6, 7, 8, 9, 10, 11, 12, 13, 14, 15, 16, 17] noFt (fun _ _ _ h => by simp [noFt] at h) draws (by kernel_rfl) (by kernel_rfl) ?_
      generalize hK : inBlockA _ _ Exit.normal = K
      simp only [go_sem, ↓reduceIte, reduceCtorEq, Nat.reduceAdd, Nat.reduceSub, Nat.reduceMul, Nat.reduceEqDiff, Nat.reduceLT, Nat.reduceLeDiff, eq_true c54, eq_true c82, eq_true c86, natOf_le hx84a, hx84b, ix_lt hx84b, natOf_le hx83a, hx83b, ix_lt hx83b, set_row (enc := encItem) (y := x84) (r := [.val (.string x84.Key), .sl (List.map encPart x84.Parts), .sl (List.map enc3 x84.Offs)]) rfl, natOf_le hx87a, hx87b, ix_lt hx87b, set_row (enc := encItem) (y := x83) (r := [.val (.string x83.Key), .sl (List.map encPart x83.Parts), .sl (List.map enc3 x83.Offs)]) rfl]
      subst hK
      refine block_n ?_
      refine thenA_n ?_
      refine AW.regionL [0, 1, 2, 3, 8, 9] ?_
      generalize hK : thenA _ _ Exit.normal = K
      simp only [go_sem, ↓reduceIte, reduceCtorEq, Nat.reduceAdd, Nat.reduceSub, Nat.reduceMul, Nat.reduceEqDiff, Nat.reduceLT, Nat.reduceLeDiff, eq_true c54, eq_true c82, eq_true c86]
      subst hK
      refine thenA_n ?_
      refine ⟨_, (Option.some.inj h).symm, ?_⟩
      refine Ent.can [] _ _ _ rfl (by first | decide | simp) rfl ?_ ?_ ?_
      · exact ((((((RF.any.po (by decide) (by first | rfl | simp [upd_ap, hpL_ap, tau, mapT, mapTL, bytesI_len, eq_true c54, eq_true c82, eq_true c86])).pv (by first | rfl | simp only [go_sem]) (by first | rfl | simp [upd_ap, hpL_ap, tau, mapT, mapTL, bytesI_len, eq_true c54, eq_true c82, eq_true c86])).pv (by first | rfl | simp only [go_sem]) (by first | rfl | simp [upd_ap, hpL_ap, tau, mapT, mapTL, bytesI_len, eq_true c54, eq_true c82, eq_true c86])).put (by first | (simp [tokL, tokLL, inlR]; done) | simp [go_sem, tokL, tokLL]) (.of (by first | rfl | simp [upd_ap, hpL_ap, tau, mapT, mapTL, bytesI_len, eq_true c54, eq_true c82, eq_true c86]))).pv (by first | rfl | simp only [go_sem]) (by first | rfl | simp [upd_ap, hpL_ap, tau, mapT, mapTL, bytesI_len, eq_true c54, eq_true c82, eq_true c86])).pv (by first | rfl | simp only [go_sem]) (by first | rfl | simp [upd_ap, hpL_ap, tau, mapT, mapTL, bytesI_len, eq_true c54, eq_true c82, eq_true c86]))
      · exact .cons (.eq (by first | rfl | simp only [go_sem]) (by first | rfl | simp [upd_ap, hpL_ap, tau, mapT, mapTL, bytesI_len, eq_true c54, eq_true c82, eq_true c86])) (.nil _)
      · exact .nil _
     ·rw [if_neg c86] at h
      refine AW.ifF rfl c86 ?_
      refine AW.exit ?_
      refine thenA_x ?_
      refine thenA_x ?_
      refine ⟨_, (Option.some.inj h).symm, _, ?_, rfl, rfl⟩
      refine Ent.can [] _ _ _ rfl (by first | decide | simp) rfl ?_ ?_ ?_
      · exact (((((RF.any.po (by decide) (by first | rfl | simp [upd_ap, hpL_ap, tau, mapT, mapTL, bytesI_len, eq_true c54, eq_true c82, eq_false c86])).pv (by first | rfl | simp only [go_sem]) (by first | rfl | simp [upd_ap, hpL_ap, tau, mapT, mapTL, bytesI_len, eq_true c54, eq_true c82, eq_false c86])).pv (by first | rfl | simp only [go_sem]) (by first | rfl | simp [upd_ap, hpL_ap, tau, mapT, mapTL, bytesI_len, eq_true c54, eq_true c82, eq_false c86])).put (by first | (simp [tokL, tokLL, inlR]; done) | simp [go_sem, tokL, tokLL]) (.of (by first | rfl | simp [upd_ap, hpL_ap, tau, mapT, mapTL, bytesI_len, eq_true c54, eq_true c82, eq_false c86]))).pv (by first | rfl | simp only [go_sem]) (by first | rfl | simp [upd_ap, hpL_ap, tau, mapT, mapTL, bytesI_len, eq_true c54, eq_true c82, eq_false c86]))
      · exact .cons (.eq (by first | rfl | simp only [go_sem]) (by first | rfl | simp [upd_ap, hpL_ap, tau, mapT, mapTL, bytesI_len, eq_true c54, eq_true c82, eq_false c86])) (.nil _)
      · exact .nil _
    ·rw [if_neg c82] at h
     refine AW.regdL [0, 1, 2, 3, 8, 9, 34] [[], [], [0, 1], [0, 1, 2], [0, 1, 2, 3], [0, 1, 2, 3], [0, 1, 2, 3], [0, 1, 2, 3, 5, 6], [0, 1, 2, 3, 5, 6, 7], [0, 1, 2, 3], [0, 1, 2, 3], [0, 1, 2, 3, 10], [0, 1, 2, 3, 9, 10, 11], [0, 1, 2, 3, 9, 10, 11, 12], [0, 1, 2, 3, 4, 5, 6, 7, 8, 9, 10, 11, 12, 13], [0, 1, 2, 3, 4, 5, 6, 7, 8, 9, 10, 11, 12, 13, 14], [0, 1, 2, 3, 4, 5, 6, 7, 8, 9, 10, 11, 12, 13, 14, 15]] [0, 1, 2, 3, 4, 5, 6, 7, 8, 9, 10, 11, 12, 13, 14, 15, 16] noFt (fun _ _ _ h => by simp [noFt] at h) draws (by kernel_rfl) (by kernel_rfl) ?_
     generalize hK : AW Try.prog _ _ _ = K
     simp only [go_sem, ↓reduceIte, reduceCtorEq, Nat.reduceAdd, Nat.reduceSub, Nat.reduceMul, Nat.reduceEqDiff, Nat.reduceLT, Nat.reduceLeDiff, eq_true c54, eq_false c82]
     subst hK
     refine AW.ifBF rfl rfl ?_
     refine AW.exit ?_
     refine thenA_x ?_
     refine thenA_x ?_
     refine ⟨_, (Option.some.inj h).symm, _, ?_, rfl, rfl⟩
     refine Ent.can [] _ _ _ rfl (by first | decide | simp) rfl ?_ ?_ ?_
     · exact (((((RF.any.po (by decide) (by first | rfl | simp [upd_ap, hpL_ap, tau, mapT, mapTL, bytesI_len, eq_true c54, eq_false c82])).pv (by first | rfl | simp only [go_sem]) (by first | rfl | simp [upd_ap, hpL_ap, tau, mapT, mapTL, bytesI_len, eq_true c54, eq_false c82])).pv (by first | rfl | simp only [go_sem]) (by first | rfl | simp [upd_ap, hpL_ap, tau, mapT, mapTL, bytesI_len, eq_true c54, eq_false c82])).put (by first | (simp [tokL, tokLL, inlR]; done) | simp [go_sem, tokL, tokLL]) (.of (by first | rfl | simp [upd_ap, hpL_ap, tau, mapT, mapTL, bytesI_len, eq_true c54, eq_false c82]))).pv (by first | rfl | simp only [go_sem]) (by first | rfl | simp [upd_ap, hpL_ap, tau, mapT, mapTL, bytesI_len, eq_true c54, eq_false c82]))
     · exact .cons (.eq (by first | rfl | simp only [go_sem]) (by first | rfl | simp [upd_ap, hpL_ap, tau, mapT, mapTL, bytesI_len, eq_true c54, eq_false c82])) (.nil _)
     · exact .nil _
   ·intro e st' hX
    try dsimp only at h
    try dsimp only at hX
    obtain ⟨rfl, rfl⟩ := hX
    refine ⟨_, Ent.refl, ?_⟩
    refine block_x ?_
    refine block_n ?_
    refine thenA_n ?_
    refine AW.regionL [0, 1, 2, 3, 8] ?_
    generalize hK : thenA _ _ Exit.normal = K
    simp only [go_sem, ↓reduceIte, reduceCtorEq, Nat.reduceAdd, Nat.reduceSub, Nat.reduceMul, Nat.reduceEqDiff, Nat.reduceLT, Nat.reduceLeDiff, eq_true c54]
    subst hK
    refine thenA_n ?_
    refine ⟨_, (Option.some.inj h).symm, ?_⟩
    refine Ent.can [] _ _ _ rfl (by first | decide | simp) rfl ?_ ?_ ?_
    · exact (((((RF.any.po (by decide) (by first | rfl | simp [upd_ap, hpL_ap, tau, mapT, mapTL, bytesI_len, eq_true c54])).pv (by first | rfl | simp only [go_sem]) (by first | rfl | simp [upd_ap, hpL_ap, tau, mapT, mapTL, bytesI_len, eq_true c54])).pv (by first | rfl | simp only [go_sem]) (by first | rfl | simp [upd_ap, hpL_ap, tau, mapT, mapTL, bytesI_len, eq_true c54])).put (by first | (simp [tokL, tokLL, inlR]; done) | simp [go_sem, tokL, tokLL]) (.of (by first | rfl | simp [upd_ap, hpL_ap, tau, mapT, mapTL, bytesI_len, eq_true c54]))).pv (by first | rfl | simp only [go_sem]) (by first | rfl | simp [upd_ap, hpL_ap, tau, mapT, mapTL, bytesI_len, eq_true c54]))
    · exact .cons (.eq (by first | rfl | simp only [go_sem]) (by first | rfl | simp [upd_ap, hpL_ap, tau, mapT, mapTL, bytesI_len, eq_true c54])) (.nil _)
    · exact .nil _
  ·rw [if_neg c54] at h
   refine AW.ifF rfl c54 ?_
   refine AW.exit ?_
   refine thenA_x ?_
   refine thenA_x ?_
   refine ⟨_, (Option.some.inj h).symm, _, ?_, rfl, rfl⟩
   refine Ent.can [] _ _ _ rfl (by first | decide | simp) rfl ?_ ?_ ?_
   · exact RF.any
   · exact .cons (.eq (by first | rfl | simp only [go_sem]) (by first | rfl | simp [upd_ap, hpL_ap, tau, mapT, mapTL, bytesI_len, eq_false c54])) (.nil _)
   · exact .nil _
 ·intro e st' hX
  try dsimp only at h
  try dsimp only at hX
  obtain ⟨rfl, rfl⟩ := hX
  refine ⟨_, Ent.refl, ?_⟩
  refine block_x ?_
  refine ⟨⟨anyF, hpL [some (.row 3 true (List.map encItem y91))] [], 8⟩, ?_, ?_⟩
  · refine Ent.can [] _ _ _ rfl (by first | decide | simp) rfl ?_ ?_ ?_
    · exact RF.any
    · exact .cons (.eq (by first | rfl | simp only [go_sem]) (by first | rfl | simp [upd_ap, hpL_ap, tau, mapT, mapTL, bytesI_len])) (.nil _)
    · exact .nil _
  obtain rfl := Option.some.inj h
  exact ⟨rfl, rfl, _, rfl, by first | rfl | simp [resOf, upd_ap, bytesI_len]⟩
end Au
end Go.Proofs.Y5

set_option linter.all false
set_option maxRecDepth 8000
set_option maxHeartbeats 1000000
namespace Go.Proofs.Y5
open Go.Gm
namespace Au
noncomputable def f59_31_s1 (a1 : Int) (a2 : Int) (a3 : Int) : (List Item) × Int → Option (((List Item) × Int) ⊕ (List Item))
  | (s1_0, s1_1) => (if s1_1 < a3 then ((ix s1_0 (IntKind.i64.wrap (a2 + s1_1))).bind fun x13 => ((ix s1_0 (IntKind.i64.wrap (a1 + s1_1))).bind fun x14 => ((ix (s1_0.set ((IntKind.i64.wrap (a1 + s1_1)).toNat) x13) (IntKind.i64.wrap (a2 + s1_1))).bind fun x15 => some (.inl (((s1_0.set ((IntKind.i64.wrap (a1 + s1_1)).toNat) x13).set ((IntKind.i64.wrap (a2 + s1_1)).toNat) x14), IntKind.i64.wrap (s1_1 + 1)))))) else some (.inr s1_0))
noncomputable def f59_31 (a0 : List Item) (a1 : Int) (a2 : Int) (a3 : Int) : Option (List Item) := ((loopO (f59_31_s1 a1 a2 a3) (a0, 0)).bind fun y17 => some y17)
theorem ok59_31 (a0 : List Item) (a1 : Int) (a2 : Int) (a3 : Int) (r : (List Item)) (h : f59_31 a0 a1 a2 a3 = some r) : IC Try.prog 59 [some (.row 3 true (List.map encItem a0))] [.own 0 0 a0.length, .val (.int .i64 a1), .val (.int .i64 a2), .val (.int .i64 a3), .clo (.func 31) [] []] (.tup []) [some (.row 3 true (List.map encItem r))] [] := by
 rw [f59_31] at h
 refine ic_ofJ (N := 38) (rs := []) Try.func59 rfl rfl rfl (Nat.le_of_ble_eq_true rfl) ?_
 refine AW.regL [0, 1, 2, 3, 10] ?_
 generalize hK : AW Try.prog _ _ _ = K
 simp only [go_sem, ↓reduceIte, reduceCtorEq, Nat.reduceAdd, Nat.reduceSub, Nat.reduceMul, Nat.reduceEqDiff, Nat.reduceLT, Nat.reduceLeDiff]
 subst hK
 refine AW.block ?_
 obtain ⟨y17, hy17, h⟩ := Option.bind_eq_some_iff.1 h
 refine AW.loopO (fun s => ⟨(upd (upd (upd (upd (upd anyF 0 (.own 0 0 s.1.length)) 1 (.val (.int .i64 a1))) 2 (.val (.int .i64 a2))) 3 (.val (.int .i64 a3))) 10 (.val (.int .i64 s.2))), hpL [some (.row 3 true (List.map encItem s.1))] [], 8⟩) (fun z e st' => e = Exit.exit 0 ∧ st' = ⟨anyF, hpL [some (.row 3 true (List.map encItem z))] [], 8⟩) hy17 ?_ ?_ ?_
 ·refine Ent.can [] _ _ _ rfl (by first | decide | simp) rfl ?_ ?_ ?_
  · exact (((((RF.any.po (by decide) (by first | rfl | simp [upd_ap, hpL_ap, tau, mapT, mapTL, bytesI_len])).pv (by first | rfl | simp only [go_sem]) (by first | rfl | simp [upd_ap, hpL_ap, tau, mapT, mapTL, bytesI_len])).pv (by first | rfl | simp only [go_sem]) (by first | rfl | simp [upd_ap, hpL_ap, tau, mapT, mapTL, bytesI_len])).pv (by first | rfl | simp only [go_sem]) (by first | rfl | simp [upd_ap, hpL_ap, tau, mapT, mapTL, bytesI_len])).pv (by first | rfl | simp only [go_sem]) (by first | rfl | simp [upd_ap, hpL_ap, tau, mapT, mapTL, bytesI_len]))
  · exact .cons (.eq (by first | rfl | simp only [go_sem]) (by first | rfl | simp [upd_ap, hpL_ap, tau, mapT, mapTL, bytesI_len])) (.nil _)
  · exact .nil _
 ·clear h hy17
  rintro ⟨s1_0, s1_1⟩ x h
  rw [f59_31_s1] at h
  refine AW.seq ?_
  refine AW.regL [0, 1, 2, 3, 10, 13] ?_
  generalize hK : AW Try.prog _ _ _ = K
  simp only [go_sem, ↓reduceIte, reduceCtorEq, Nat.reduceAdd, Nat.reduceSub, Nat.reduceMul, Nat.reduceEqDiff, Nat.reduceLT, Nat.reduceLeDiff]
  subst hK
  by_cases c12 : s1_1 < a3
  ·rw [if_pos c12] at h
   refine AW.ifT rfl c12 ?_
   refine AW.skip ?_
   refine thenA_n ?_
   refine AW.seq ?_
   refine AW.block ?_
   obtain ⟨x13, hx13, h⟩ := Option.bind_eq_some_iff.1 h
   obtain ⟨hx13a, hx13b⟩ := ix_some.1 hx13
   obtain ⟨x14, hx14, h⟩ := Option.bind_eq_some_iff.1 h
   obtain ⟨hx14a, hx14b⟩ := ix_some.1 hx14
   obtain ⟨x15, hx15, h⟩ := Option.bind_eq_some_iff.1 h
   obtain ⟨hx15a, hx15b⟩ := ix_some.1 hx15
   refine AW.drawL [0, 1, 2, 3, 10] [[], [], [], [1, 2], [], [], [], [5, 6], [], [], [], [9, 10], [8, 9, 10, 11], [8, 9, 10, 11, 12], [], [], [], [15, 16], [14, 15, 16, 17], [14, 15, 16, 17, 18], [0, 1, 2, 3, 8, 9, 10, 11, 12, 13, 14, 15, 16, 17, 18, 19], [0, 1, 2, 3, 8, 9, 10, 11, 12, 13, 14, 15, 16, 17, 18, 19, 20], [0, 1, 2, 3, 4, 5, 6, 7, 8, 9, 10, 11, 12, 13, 14, 15, 16, 17, 18, 19, 20, 21], [0, 1, 2, 3, 4, 5, 6, 7, 8, 9, 10, 11, 12, 13, 14, 15, 16, 17, 18, 19, 20, 21, 22]] [0, 1, 2, 3, 4, 5, 6, 7, 8, 9, 10, 11, 12, 13, 14, 15, 16, 17, 18, 19, 20, 21, 22, 23] noFt (fun _ _ _ h => by simp [noFt] at h) draws (by kernel_rfl) (by kernel_rfl) ?_
   generalize hK : inBlockA _ _ Exit.normal = K
   simp only [go_sem, ↓reduceIte, reduceCtorEq, Nat.reduceAdd, Nat.reduceSub, Nat.reduceMul, Nat.reduceEqDiff, Nat.reduceLT, Nat.reduceLeDiff, eq_true c12, natOf_le hx13a, hx13b, ix_lt hx13b, natOf_le hx14a, hx14b, ix_lt hx14b, set_row (enc := encItem) (y := x13) (r := [.val (.string x13.Key), .sl (List.map encPart x13.Parts), .sl (List.map enc3 x13.Offs)]) rfl, natOf_le hx15a, hx15b, ix_lt hx15b, set_row (enc := encItem) (y := x14) (r := [.val (.string x14.Key), .sl (List.map encPart x14.Parts), .sl (List.map enc3 x14.Offs)]) rfl]
   subst hK
   refine block_n ?_
   refine thenA_n ?_
   refine AW.regionL [0, 1, 2, 3, 10] ?_
   generalize hK : thenA _ _ Exit.normal = K
   simp only [go_sem, ↓reduceIte, reduceCtorEq, Nat.reduceAdd, Nat.reduceSub, Nat.reduceMul, Nat.reduceEqDiff, Nat.reduceLT, Nat.reduceLeDiff, eq_true c12]
   subst hK
   refine thenA_n ?_
   refine ⟨_, (Option.some.inj h).symm, ?_⟩
   refine Ent.can [] _ _ _ rfl (by first | decide | simp) rfl ?_ ?_ ?_
   · exact (((((RF.any.po (by decide) (by first | rfl | simp [upd_ap, hpL_ap, tau, mapT, mapTL, bytesI_len, eq_true c12])).pv (by first | rfl | simp only [go_sem]) (by first | rfl | simp [upd_ap, hpL_ap, tau, mapT, mapTL, bytesI_len, eq_true c12])).pv (by first | rfl | simp only [go_sem]) (by first | rfl | simp [upd_ap, hpL_ap, tau, mapT, mapTL, bytesI_len, eq_true c12])).pv (by first | rfl | simp only [go_sem]) (by first | rfl | simp [upd_ap, hpL_ap, tau, mapT, mapTL, bytesI_len, eq_true c12])).pv (by first | rfl | simp only [go_sem]) (by first | rfl | simp [upd_ap, hpL_ap, tau, mapT, mapTL, bytesI_len, eq_true c12]))
   · exact .cons (.eq (by first | rfl | simp only [go_sem]) (by first | rfl | simp [upd_ap, hpL_ap, tau, mapT, mapTL, bytesI_len, eq_true c12])) (.nil _)
   · exact .nil _
  ·rw [if_neg c12] at h
   refine AW.ifF rfl c12 ?_
   refine AW.exit ?_
   refine thenA_x ?_
   refine thenA_x ?_
   refine ⟨_, (Option.some.inj h).symm, _, ?_, rfl, rfl⟩
   refine Ent.can [] _ _ _ rfl (by first | decide | simp) rfl ?_ ?_ ?_
   · exact RF.any
   · exact .cons (.eq (by first | rfl | simp only [go_sem]) (by first | rfl | simp [upd_ap, hpL_ap, tau, mapT, mapTL, bytesI_len, eq_false c12])) (.nil _)
   · exact .nil _
 ·intro e st' hX
  try dsimp only at h
  try dsimp only at hX
  obtain ⟨rfl, rfl⟩ := hX
  refine ⟨_, Ent.refl, ?_⟩
  refine block_x ?_
  refine ⟨⟨anyF, hpL [some (.row 3 true (List.map encItem y17))] [], 8⟩, ?_, ?_⟩
  · refine Ent.can [] _ _ _ rfl (by first | decide | simp) rfl ?_ ?_ ?_
    · exact RF.any
    · exact .cons (.eq (by first | rfl | simp only [go_sem]) (by first | rfl | simp [upd_ap, hpL_ap, tau, mapT, mapTL, bytesI_len])) (.nil _)
    · exact .nil _
  obtain rfl := Option.some.inj h
  exact ⟨rfl, rfl, _, rfl, by first | rfl | simp [resOf, upd_ap, bytesI_len]⟩
end Au
end Go.Proofs.Y5

set_option linter.all false
set_option maxRecDepth 8000
set_option maxHeartbeats 1000000
namespace Go.Proofs.Y5
open Go.Gm
namespace Au
noncomputable def f57_31_s1 (a2 : Int) : (List Item) × Int × Int → Option (((List Item) × Int × Int) ⊕ (Int × (List Item)))
  | (s1_0, s1_1, s1_2) => (if s1_1 = s1_2 then some (.inr (s1_1, s1_0)) else (if s1_2 < s1_1 then ((f59_31 s1_0 (IntKind.i64.wrap (a2 - s1_1)) a2 s1_2).bind fun x18 => ((guardO (x18.length = s1_0.length)).bind fun x19 => some (.inl (x18, IntKind.i64.wrap (s1_1 - s1_2), s1_2)))) else ((f59_31 s1_0 (IntKind.i64.wrap (a2 - s1_1)) (IntKind.i64.wrap ((IntKind.i64.wrap (a2 + s1_2)) - s1_1)) s1_1).bind fun x20 => ((guardO (x20.length = s1_0.length)).bind fun x21 => some (.inl (x20, s1_1, IntKind.i64.wrap (s1_2 - s1_1)))))))
noncomputable def f57_31 (a0 : List Item) (a1 : Int) (a2 : Int) (a3 : Int) : Option (List Item) := ((loopO (f57_31_s1 a2) (a0, IntKind.i64.wrap (a2 - a1), IntKind.i64.wrap (a3 - a2))).bind fun y22 => match y22 with | (y23, y24) => ((f59_31 y24 (IntKind.i64.wrap (a2 - y23)) a2 y23).bind fun x25 => ((guardO (x25.length = y24.length)).bind fun x26 => some x25)))
theorem ok57_31 (a0 : List Item) (a1 : Int) (a2 : Int) (a3 : Int) (r : (List Item)) (h : f57_31 a0 a1 a2 a3 = some r) : IC Try.prog 57 [some (.row 3 true (List.map encItem a0))] [.own 0 0 a0.length, .val (.int .i64 a1), .val (.int .i64 a2), .val (.int .i64 a3), .clo (.func 31) [] []] (.tup []) [some (.row 3 true (List.map encItem r))] [] := by
 rw [f57_31] at h
 refine ic_ofJ (N := 58) (rs := []) Try.func57 rfl rfl rfl (Nat.le_of_ble_eq_true rfl) ?_
 refine AW.regL [0, 2, 3, 4, 10] ?_
 generalize hK : AW Try.prog _ _ _ = K
 simp only [go_sem, ↓reduceIte, reduceCtorEq, Nat.reduceAdd, Nat.reduceSub, Nat.reduceMul, Nat.reduceEqDiff, Nat.reduceLT, Nat.reduceLeDiff]
 subst hK
 refine AW.regL [0, 2, 4, 10, 11] ?_
 generalize hK : AW Try.prog _ _ _ = K
 simp only [go_sem, ↓reduceIte, reduceCtorEq, Nat.reduceAdd, Nat.reduceSub, Nat.reduceMul, Nat.reduceEqDiff, Nat.reduceLT, Nat.reduceLeDiff]
 subst hK
 refine AW.seq ?_
 refine AW.block ?_
 obtain ⟨y22, hy22, h⟩ := Option.bind_eq_some_iff.1 h
 refine AW.loopO (fun s => ⟨(upd (upd (upd (upd (upd anyF 0 (.own 0 0 s.1.length)) 2 (.val (.int .i64 a2))) 4 (.clo (.func 31) [] [])) 10 (.val (.int .i64 s.2.1))) 11 (.val (.int .i64 s.2.2))), hpL [some (.row 3 true (List.map encItem s.1))] [], 8⟩) (fun z e st' => e = Exit.exit 0 ∧ st' = ⟨(upd (upd (upd (upd anyF 0 (.own 0 0 z.2.length)) 2 (.val (.int .i64 a2))) 4 (.clo (.func 31) [] [])) 10 (.val (.int .i64 z.1))), hpL [some (.row 3 true (List.map encItem z.2))] [], 8⟩) hy22 ?_ ?_ ?_
 ·refine Ent.can [] _ _ _ rfl (by first | decide | simp) rfl ?_ ?_ ?_
  · exact (((((RF.any.po (by decide) (by first | rfl | simp [upd_ap, hpL_ap, tau, mapT, mapTL, bytesI_len])).pv (by first | rfl | simp only [go_sem]) (by first | rfl | simp [upd_ap, hpL_ap, tau, mapT, mapTL, bytesI_len])).put (by first | (simp [tokL, tokLL, inlR]; done) | simp [go_sem, tokL, tokLL]) (.of (by first | rfl | simp [upd_ap, hpL_ap, tau, mapT, mapTL, bytesI_len]))).pv (by first | rfl | simp only [go_sem]) (by first | rfl | simp [upd_ap, hpL_ap, tau, mapT, mapTL, bytesI_len])).pv (by first | rfl | simp only [go_sem]) (by first | rfl | simp [upd_ap, hpL_ap, tau, mapT, mapTL, bytesI_len]))
  · exact .cons (.eq (by first | rfl | simp only [go_sem]) (by first | rfl | simp [upd_ap, hpL_ap, tau, mapT, mapTL, bytesI_len])) (.nil _)
  · exact .nil _
 ·clear h hy22
  rintro ⟨s1_0, s1_1, s1_2⟩ x h
  rw [f57_31_s1] at h
  refine AW.seq ?_
  refine AW.regL [0, 2, 4, 10, 11, 20] ?_
  generalize hK : AW Try.prog _ _ _ = K
  simp only [go_sem, ↓reduceIte, reduceCtorEq, Nat.reduceAdd, Nat.reduceSub, Nat.reduceMul, Nat.reduceEqDiff, Nat.reduceLT, Nat.reduceLeDiff]
  subst hK
  by_cases c16 : s1_1 = s1_2
  ·rw [if_pos c16] at h
   refine AW.ifF rfl (fun q => q c16) ?_
   refine AW.exit ?_
   refine thenA_x ?_
   refine thenA_x ?_
   refine ⟨_, (Option.some.inj h).symm, _, ?_, rfl, rfl⟩
   refine Ent.can [] _ _ _ rfl (by first | decide | simp) rfl ?_ ?_ ?_
   · exact ((((RF.any.po (by decide) (by first | rfl | simp [upd_ap, hpL_ap, tau, mapT, mapTL, bytesI_len, eq_true c16])).pv (by first | rfl | simp only [go_sem]) (by first | rfl | simp [upd_ap, hpL_ap, tau, mapT, mapTL, bytesI_len, eq_true c16])).put (by first | (simp [tokL, tokLL, inlR]; done) | simp [go_sem, tokL, tokLL]) (.of (by first | rfl | simp [upd_ap, hpL_ap, tau, mapT, mapTL, bytesI_len, eq_true c16]))).pv (by first | rfl | simp only [go_sem]) (by first | rfl | simp [upd_ap, hpL_ap, tau, mapT, mapTL, bytesI_len, eq_true c16]))
   · exact .cons (.eq (by first | rfl | simp only [go_sem]) (by first | rfl | simp [upd_ap, hpL_ap, tau, mapT, mapTL, bytesI_len, eq_true c16])) (.nil _)
   · exact .nil _
  ·rw [if_neg c16] at h
   refine AW.ifT rfl c16 ?_
   refine AW.skip ?_
   refine thenA_n ?_
   refine AW.block ?_
   refine AW.regL [0, 2, 4, 10, 11, 23] ?_
   generalize hK : AW Try.prog _ _ _ = K
   simp only [go_sem, ↓reduceIte, reduceCtorEq, Nat.reduceAdd, Nat.reduceSub, Nat.reduceMul, Nat.reduceEqDiff, Nat.reduceLT, Nat.reduceLeDiff, eq_false c16]
   subst hK
   by_cases c17 : s1_2 < s1_1
   ·rw [if_pos c17] at h
    refine AW.ifT rfl c17 ?_
    obtain ⟨x18, hx18, h⟩ := Option.bind_eq_some_iff.1 h
    obtain ⟨x19, hx19, h⟩ := Option.bind_eq_some_iff.1 h
    have lenhx18 : x18.length = s1_0.length := guardO_some.1 hx19
    refine AW.regL [0, 2, 4, 10, 11] ?_
    generalize hK : AW Try.prog _ _ _ = K
    simp only [go_sem, ↓reduceIte, reduceCtorEq, Nat.reduceAdd, Nat.reduceSub, Nat.reduceMul, Nat.reduceEqDiff, Nat.reduceLT, Nat.reduceLeDiff, eq_false c16, eq_true c17, lenhx18]
    refine arC.ok (CallOk.ic (us' := _) (ok59_31 s1_0 (IntKind.i64.wrap (a2 - s1_1)) a2 s1_2 x18 hx18) [0] rfl (by decide) (by simp) (by simp) (by simp) (by simp) (.cons (.eq (by simp only [go_sem]) (by first | rfl | simp [upd_ap, hpL_ap, sg_ap])) (.nil _)) (by simp only [mapTL_cons, mapTL_nil, mapT_ptr, mapT_own, mapT_val, mapT_sl, mapT_agg, mapT_ip, mapT_clo, sg_ap, List.getD_cons_zero, List.getD_cons_succ]; exact (.cons (.of (by first | rfl | simp [mapT_own, sg_ap, eq_false c16, eq_true c17])) (.cons (.of rfl) (.cons (.of rfl) (.cons (.of rfl) (.cons (.of rfl) .nil)))))) (by simp only [go_sem, List.length_cons, List.length_nil, Nat.reduceAdd, Nat.reduceLT, decide_true]) (by simp [AObj.isMut]) (by simp [go_sem]) (by simp [go_sem])) Try.call59 ?_
    simp only [go_sem, ↓reduceIte, reduceCtorEq, Nat.reduceAdd, Nat.reduceSub, Nat.reduceMul, Nat.reduceEqDiff, Nat.reduceLT, Nat.reduceLeDiff, eq_false c16, eq_true c17, lenhx18]
    subst hK
    refine AW.regionL [0, 2, 4, 10, 11] ?_
    generalize hK : inBlockA _ _ Exit.normal = K
    simp only [go_sem, ↓reduceIte, reduceCtorEq, Nat.reduceAdd, Nat.reduceSub, Nat.reduceMul, Nat.reduceEqDiff, Nat.reduceLT, Nat.reduceLeDiff, eq_false c16, eq_true c17, lenhx18]
    subst hK
    refine block_n ?_
    refine thenA_n ?_
    refine ⟨_, (Option.some.inj h).symm, ?_⟩
    refine Ent.can [] _ _ _ rfl (by first | decide | simp) rfl ?_ ?_ ?_
    · exact (((((RF.any.po (by decide) (by first | rfl | simp [upd_ap, hpL_ap, tau, mapT, mapTL, bytesI_len, eq_false c16, eq_true c17, lenhx18])).pv (by first | rfl | simp only [go_sem]) (by first | rfl | simp [upd_ap, hpL_ap, tau, mapT, mapTL, bytesI_len, eq_false c16, eq_true c17, lenhx18])).put (by first | (simp [tokL, tokLL, inlR]; done) | simp [go_sem, tokL, tokLL]) (.of (by first | rfl | simp [upd_ap, hpL_ap, tau, mapT, mapTL, bytesI_len, eq_false c16, eq_true c17, lenhx18]))).pv (by first | rfl | simp only [go_sem]) (by first | rfl | simp [upd_ap, hpL_ap, tau, mapT, mapTL, bytesI_len, eq_false c16, eq_true c17, lenhx18])).pv (by first | rfl | simp only [go_sem]) (by first | rfl | simp [upd_ap, hpL_ap, tau, mapT, mapTL, bytesI_len, eq_false c16, eq_true c17, lenhx18]))
    · exact .cons (.eq (by first | rfl | simp only [go_sem]) (by first | rfl | simp [upd_ap, hpL_ap, tau, mapT, mapTL, bytesI_len, eq_false c16, eq_true c17, lenhx18])) (.nil _)
    · exact .nil _
   ·rw [if_neg c17] at h
    refine AW.ifF rfl c17 ?_
    obtain ⟨x20, hx20, h⟩ := Option.bind_eq_some_iff.1 h
    obtain ⟨x21, hx21, h⟩ := Option.bind_eq_some_iff.1 h
    have lenhx20 : x20.length = s1_0.length := guardO_some.1 hx21
    refine AW.regL [0, 2, 4, 10, 11] ?_
    generalize hK : AW Try.prog _ _ _ = K
    simp only [go_sem, ↓reduceIte, reduceCtorEq, Nat.reduceAdd, Nat.reduceSub, Nat.reduceMul, Nat.reduceEqDiff, Nat.reduceLT, Nat.reduceLeDiff, eq_false c16, eq_false c17, lenhx20]
    refine arC.ok (CallOk.ic (us' := _) (ok59_31 s1_0 (IntKind.i64.wrap (a2 - s1_1)) (IntKind.i64.wrap ((IntKind.i64.wrap (a2 + s1_2)) - s1_1)) s1_1 x20 hx20) [0] rfl (by decide) (by simp) (by simp) (by simp) (by simp) (.cons (.eq (by simp only [go_sem]) (by first | rfl | simp [upd_ap, hpL_ap, sg_ap])) (.nil _)) (by simp only [mapTL_cons, mapTL_nil, mapT_ptr, mapT_own, mapT_val, mapT_sl, mapT_agg, mapT_ip, mapT_clo, sg_ap, List.getD_cons_zero, List.getD_cons_succ]; exact (.cons (.of (by first | rfl | simp [mapT_own, sg_ap, eq_false c16, eq_false c17])) (.cons (.of rfl) (.cons (.of rfl) (.cons (.of rfl) (.cons (.of rfl) .nil)))))) (by simp only [go_sem, List.length_cons, List.length_nil, Nat.reduceAdd, Nat.reduceLT, decide_true]) (by simp [AObj.isMut]) (by simp [go_sem]) (by simp [go_sem])) Try.call59 ?_
    simp only [go_sem, ↓reduceIte, reduceCtorEq, Nat.reduceAdd, Nat.reduceSub, Nat.reduceMul, Nat.reduceEqDiff, Nat.reduceLT, Nat.reduceLeDiff, eq_false c16, eq_false c17, lenhx20]
    subst hK
    refine AW.regionL [0, 2, 4, 10, 11] ?_
    generalize hK : inBlockA _ _ Exit.normal = K
    simp only [go_sem, ↓reduceIte, reduceCtorEq, Nat.reduceAdd, Nat.reduceSub, Nat.reduceMul, Nat.reduceEqDiff, Nat.reduceLT, Nat.reduceLeDiff, eq_false c16, eq_false c17, lenhx20]
    subst hK
    refine block_n ?_
    refine thenA_n ?_
    refine ⟨_, (Option.some.inj h).symm, ?_⟩
    refine Ent.can [] _ _ _ rfl (by first | decide | simp) rfl ?_ ?_ ?_
    · exact (((((RF.any.po (by decide) (by first | rfl | simp [upd_ap, hpL_ap, tau, mapT, mapTL, bytesI_len, eq_false c16, eq_false c17, lenhx20])).pv (by first | rfl | simp only [go_sem]) (by first | rfl | simp [upd_ap, hpL_ap, tau, mapT, mapTL, bytesI_len, eq_false c16, eq_false c17, lenhx20])).put (by first | (simp [tokL, tokLL, inlR]; done) | simp [go_sem, tokL, tokLL]) (.of (by first | rfl | simp [upd_ap, hpL_ap, tau, mapT, mapTL, bytesI_len, eq_false c16, eq_false c17, lenhx20]))).pv (by first | rfl | simp only [go_sem]) (by first | rfl | simp [upd_ap, hpL_ap, tau, mapT, mapTL, bytesI_len, eq_false c16, eq_false c17, lenhx20])).pv (by first | rfl | simp only [go_sem]) (by first | rfl | simp [upd_ap, hpL_ap, tau, mapT, mapTL, bytesI_len, eq_false c16, eq_false c17, lenhx20]))
    · exact .cons (.eq (by first | rfl | simp only [go_sem]) (by first | rfl | simp [upd_ap, hpL_ap, tau, mapT, mapTL, bytesI_len, eq_false c16, eq_false c17, lenhx20])) (.nil _)
    · exact .nil _
 ·intro e st' hX
  obtain ⟨y23, y24⟩ := y22
  try dsimp only at h
  try dsimp only at hX
  obtain ⟨rfl, rfl⟩ := hX
  refine ⟨_, Ent.refl, ?_⟩
  refine block_x ?_
  refine thenA_n ?_
  obtain ⟨x25, hx25, h⟩ := Option.bind_eq_some_iff.1 h
  obtain ⟨x26, hx26, h⟩ := Option.bind_eq_some_iff.1 h
  have lenhx25 : x25.length = y24.length := guardO_some.1 hx26
  refine AW.regionL [] ?_
  generalize hK : finJ Try.prog _ _ _ _ _ Exit.normal = K
  simp only [go_sem, ↓reduceIte, reduceCtorEq, Nat.reduceAdd, Nat.reduceSub, Nat.reduceMul, Nat.reduceEqDiff, Nat.reduceLT, Nat.reduceLeDiff, lenhx25]
  refine arC.ok (CallOk.ic (us' := _) (ok59_31 y24 (IntKind.i64.wrap (a2 - y23)) a2 y23 x25 hx25) [0] rfl (by decide) (by simp) (by simp) (by simp) (by simp) (.cons (.eq (by simp only [go_sem]) (by first | rfl | simp [upd_ap, hpL_ap, sg_ap])) (.nil _)) (by simp only [mapTL_cons, mapTL_nil, mapT_ptr, mapT_own, mapT_val, mapT_sl, mapT_agg, mapT_ip, mapT_clo, sg_ap, List.getD_cons_zero, List.getD_cons_succ]; exact (.cons (.of (by first | rfl | simp [mapT_own, sg_ap])) (.cons (.of rfl) (.cons (.of rfl) (.cons (.of rfl) (.cons (.of rfl) .nil)))))) (by simp only [go_sem, List.length_cons, List.length_nil, Nat.reduceAdd, Nat.reduceLT, decide_true]) (by simp [AObj.isMut]) (by simp [go_sem]) (by simp [go_sem])) Try.call59 ?_
  simp only [go_sem, ↓reduceIte, reduceCtorEq, Nat.reduceAdd, Nat.reduceSub, Nat.reduceMul, Nat.reduceEqDiff, Nat.reduceLT, Nat.reduceLeDiff, lenhx25]
  subst hK
  refine ⟨⟨anyF, hpL [some (.row 3 true (List.map encItem x25))] [], 8⟩, ?_, ?_⟩
  · refine Ent.can [] _ _ _ rfl (by first | decide | simp) rfl ?_ ?_ ?_
    · exact RF.any
    · exact .cons (.eq (by first | rfl | simp only [go_sem]) (by first | rfl | simp [upd_ap, hpL_ap, tau, mapT, mapTL, bytesI_len, lenhx25])) (.nil _)
    · exact .nil _
  obtain rfl := Option.some.inj h
  exact ⟨rfl, rfl, _, rfl, by first | rfl | simp [resOf, upd_ap, bytesI_len]⟩
end Au
end Go.Proofs.Y5

set_option linter.all false
set_option maxRecDepth 8000
set_option maxHeartbeats 1000000
namespace Go.Proofs.Y5
open Go.Gm
namespace Au
noncomputable def f50_31_s5 (a0 : List Item) (a1 : Int) : Int × Int → Option ((Int × Int) ⊕ Int)
  | (s5_0, s5_1) => (if s5_0 < s5_1 then ((ix a0 (IntKind.i64.wrap (shrV .u64 (IntKind.u64.wrap (IntKind.i64.wrap (s5_0 + s5_1))) 1))).bind fun x71 => ((ix a0 a1).bind fun x72 => ((f31 x71 x72).bind fun x73 => (if x73 < 0 then some (.inl (IntKind.i64.wrap ((IntKind.i64.wrap (shrV .u64 (IntKind.u64.wrap (IntKind.i64.wrap (s5_0 + s5_1))) 1)) + 1), s5_1)) else some (.inl (s5_0, IntKind.i64.wrap (shrV .u64 (IntKind.u64.wrap (IntKind.i64.wrap (s5_0 + s5_1))) 1))))))) else some (.inr s5_0))
noncomputable def f50_31_s6 (y76 : Int) : (List Item) × Int → Option (((List Item) × Int) ⊕ (List Item))
  | (s6_0, s6_1) => (if s6_1 < (IntKind.i64.wrap (y76 - 1)) then ((ix s6_0 (IntKind.i64.wrap (s6_1 + 1))).bind fun x89 => ((ix s6_0 s6_1).bind fun x90 => ((ix (s6_0.set s6_1.toNat x89) (IntKind.i64.wrap (s6_1 + 1))).bind fun x91 => some (.inl (((s6_0.set s6_1.toNat x89).set ((IntKind.i64.wrap (s6_1 + 1)).toNat) x90), IntKind.i64.wrap (s6_1 + 1)))))) else some (.inr s6_0))
noncomputable def f50_31_s11 (a0 : List Item) (a2 : Int) : Int × Int → Option ((Int × Int) ⊕ Int)
  | (s11_0, s11_1) => (if s11_1 < s11_0 then ((ix a0 a2).bind fun x164 => ((ix a0 (IntKind.i64.wrap (shrV .u64 (IntKind.u64.wrap (IntKind.i64.wrap (s11_1 + s11_0))) 1))).bind fun x165 => ((f31 x164 x165).bind fun x166 => (if x166 < 0 then some (.inl (IntKind.i64.wrap (shrV .u64 (IntKind.u64.wrap (IntKind.i64.wrap (s11_1 + s11_0))) 1), s11_1)) else some (.inl (s11_0, IntKind.i64.wrap ((IntKind.i64.wrap (shrV .u64 (IntKind.u64.wrap (IntKind.i64.wrap (s11_1 + s11_0))) 1)) + 1))))))) else some (.inr s11_1))
noncomputable def f50_31_s12 (y169 : Int) : (List Item) × Int → Option (((List Item) × Int) ⊕ (List Item))
  | (s12_0, s12_1) => (if y169 < s12_1 then ((ix s12_0 (IntKind.i64.wrap (s12_1 - 1))).bind fun x182 => ((ix s12_0 s12_1).bind fun x183 => ((ix (s12_0.set s12_1.toNat x182) (IntKind.i64.wrap (s12_1 - 1))).bind fun x184 => some (.inl (((s12_0.set s12_1.toNat x182).set ((IntKind.i64.wrap (s12_1 - 1)).toNat) x183), IntKind.i64.wrap (s12_1 - 1)))))) else some (.inr s12_0))
noncomputable def f50_31_s14 (a0 : List Item) (a1 : Int) (a2 : Int) (a3 : Int) : Int × Int → Option ((Int × Int) ⊕ Int)
  | (s14_0, s14_1) => (if s14_1 < s14_0 then ((ix a0 (IntKind.i64.wrap ((IntKind.i64.wrap ((IntKind.i64.wrap ((IntKind.i64.wrap (shrV .u64 (IntKind.u64.wrap (IntKind.i64.wrap (a1 + a3))) 1)) + a2)) - 1)) - (IntKind.i64.wrap (shrV .u64 (IntKind.u64.wrap (IntKind.i64.wrap (s14_1 + s14_0))) 1))))).bind fun x216 => ((ix a0 (IntKind.i64.wrap (shrV .u64 (IntKind.u64.wrap (IntKind.i64.wrap (s14_1 + s14_0))) 1))).bind fun x217 => ((f31 x216 x217).bind fun x218 => (if x218 < 0 then some (.inl (IntKind.i64.wrap (shrV .u64 (IntKind.u64.wrap (IntKind.i64.wrap (s14_1 + s14_0))) 1), s14_1)) else some (.inl (s14_0, IntKind.i64.wrap ((IntKind.i64.wrap (shrV .u64 (IntKind.u64.wrap (IntKind.i64.wrap (s14_1 + s14_0))) 1)) + 1))))))) else some (.inr s14_1))
noncomputable def f50_31_j3 (a1 : Int) (a2 : Int) (a3 : Int) (rec50 : (List Item) → Int → Int → Int → Option (List Item)) (y221 : Int) : (List Item) → Option (List Item)
  | j3_0 => (if (IntKind.i64.wrap (shrV .u64 (IntKind.u64.wrap (IntKind.i64.wrap (a1 + a3))) 1)) < (IntKind.i64.wrap ((IntKind.i64.wrap ((IntKind.i64.wrap (shrV .u64 (IntKind.u64.wrap (IntKind.i64.wrap (a1 + a3))) 1)) + a2)) - y221)) then (if (IntKind.i64.wrap ((IntKind.i64.wrap ((IntKind.i64.wrap (shrV .u64 (IntKind.u64.wrap (IntKind.i64.wrap (a1 + a3))) 1)) + a2)) - y221)) < a3 then ((rec50 j3_0 (IntKind.i64.wrap (shrV .u64 (IntKind.u64.wrap (IntKind.i64.wrap (a1 + a3))) 1)) (IntKind.i64.wrap ((IntKind.i64.wrap ((IntKind.i64.wrap (shrV .u64 (IntKind.u64.wrap (IntKind.i64.wrap (a1 + a3))) 1)) + a2)) - y221)) a3).bind fun x232 => ((guardO (x232.length = j3_0.length)).bind fun x233 => some x232)) else some j3_0) else some j3_0)
noncomputable def f50_31_j2 (a1 : Int) (a2 : Int) (a3 : Int) (rec50 : (List Item) → Int → Int → Int → Option (List Item)) (y221 : Int) : (List Item) → Option (List Item)
  | j2_0 => (if a1 < y221 then (if y221 < (IntKind.i64.wrap (shrV .u64 (IntKind.u64.wrap (IntKind.i64.wrap (a1 + a3))) 1)) then ((rec50 j2_0 a1 y221 (IntKind.i64.wrap (shrV .u64 (IntKind.u64.wrap (IntKind.i64.wrap (a1 + a3))) 1))).bind fun x236 => ((guardO (x236.length = j2_0.length)).bind fun x237 => f50_31_j3 a1 a2 a3 rec50 y221 x236)) else f50_31_j3 a1 a2 a3 rec50 y221 j2_0) else f50_31_j3 a1 a2 a3 rec50 y221 j2_0)
noncomputable def f50_31_j1 (a0 : List Item) (a1 : Int) (a2 : Int) (a3 : Int) (rec50 : (List Item) → Int → Int → Int → Option (List Item)) : Int × Int → Option (List Item)
  | (j1_0, j1_1) => ((loopO (f50_31_s14 a0 a1 a2 a3) (j1_1, j1_0)).bind fun y221 => (if y221 < a2 then (if a2 < (IntKind.i64.wrap ((IntKind.i64.wrap ((IntKind.i64.wrap (shrV .u64 (IntKind.u64.wrap (IntKind.i64.wrap (a1 + a3))) 1)) + a2)) - y221)) then ((f57_31 a0 y221 a2 (IntKind.i64.wrap ((IntKind.i64.wrap ((IntKind.i64.wrap (shrV .u64 (IntKind.u64.wrap (IntKind.i64.wrap (a1 + a3))) 1)) + a2)) - y221))).bind fun x240 => ((guardO (x240.length = a0.length)).bind fun x241 => f50_31_j2 a1 a2 a3 rec50 y221 x240)) else f50_31_j2 a1 a2 a3 rec50 y221 a0) else f50_31_j2 a1 a2 a3 rec50 y221 a0))
noncomputable def f50_31b (rec50 : (List Item) → Int → Int → Int → Option (List Item)) (a0 : List Item) (a1 : Int) (a2 : Int) (a3 : Int) : Option (List Item) := (if (IntKind.i64.wrap (a2 - a1)) = 1 then ((loopO (f50_31_s5 a0 a1) (a2, a3)).bind fun y76 => ((loopO (f50_31_s6 y76) (a0, a1)).bind fun y93 => some y93)) else (if (IntKind.i64.wrap (a3 - a2)) = 1 then ((loopO (f50_31_s11 a0 a2) (a2, a1)).bind fun y169 => ((loopO (f50_31_s12 y169) (a0, a2)).bind fun y186 => some y186)) else (if (IntKind.i64.wrap (shrV .u64 (IntKind.u64.wrap (IntKind.i64.wrap (a1 + a3))) 1)) < a2 then f50_31_j1 a0 a1 a2 a3 rec50 ((IntKind.i64.wrap ((IntKind.i64.wrap ((IntKind.i64.wrap (shrV .u64 (IntKind.u64.wrap (IntKind.i64.wrap (a1 + a3))) 1)) + a2)) - a3)), (IntKind.i64.wrap (shrV .u64 (IntKind.u64.wrap (IntKind.i64.wrap (a1 + a3))) 1))) else f50_31_j1 a0 a1 a2 a3 rec50 (a1, a2))))
theorem ok50_31b (rec50 : (List Item) → Int → Int → Int → Option (List Item)) (hrec50 : ∀ (a0 : List Item) (a1 : Int) (a2 : Int) (a3 : Int) (r : (List Item)), rec50 a0 a1 a2 a3 = some r → IC Try.prog 50 [some (.row 3 true (List.map encItem a0))] [.own 0 0 a0.length, .val (.int .i64 a1), .val (.int .i64 a2), .val (.int .i64 a3), .clo (.func 31) [] []] (.tup []) [some (.row 3 true (List.map encItem r))] []) (a0 : List Item) (a1 : Int) (a2 : Int) (a3 : Int) (r : (List Item)) (h : f50_31b rec50 a0 a1 a2 a3 = some r) : IC Try.prog 50 [some (.row 3 true (List.map encItem a0))] [.own 0 0 a0.length, .val (.int .i64 a1), .val (.int .i64 a2), .val (.int .i64 a3), .clo (.func 31) [] []] (.tup []) [some (.row 3 true (List.map encItem r))] [] := by
 rw [f50_31b] at h
 refine ic_ofJ (N := 220) (rs := []) Try.func50 rfl rfl rfl (Nat.le_of_ble_eq_true rfl) ?_
 refine AW.seq ?_
 refine AW.regL [0, 1, 2, 3, 4, 28] ?_
 generalize hK : AW Try.prog _ _ _ = K
 simp only [go_sem, ↓reduceIte, reduceCtorEq, Nat.reduceAdd, Nat.reduceSub, Nat.reduceMul, Nat.reduceEqDiff, Nat.reduceLT, Nat.reduceLeDiff, Nat.reduceBEq, Int.reduceAdd, Int.reduceSub, Int.reduceLT, Int.reduceLE, Int.reduceEq, Int.reduceToNat]
 subst hK
 by_cases c42 : (IntKind.i64.wrap (a2 - a1)) = 1
 ·rw [if_pos c42] at h
  refine AW.ifT rfl c42 ?_
  refine AW.regL [0, 1, 3, 4, 10] ?_
  generalize hK : AW Try.prog _ _ _ = K
  simp only [go_sem, ↓reduceIte, reduceCtorEq, Nat.reduceAdd, Nat.reduceSub, Nat.reduceMul, Nat.reduceEqDiff, Nat.reduceLT, Nat.reduceLeDiff, Nat.reduceBEq, Int.reduceAdd, Int.reduceSub, Int.reduceLT, Int.reduceLE, Int.reduceEq, Int.reduceToNat, eq_true c42]
  subst hK
  refine AW.regL [0, 1, 4, 10, 11] ?_
  generalize hK : AW Try.prog _ _ _ = K
  simp only [go_sem, ↓reduceIte, reduceCtorEq, Nat.reduceAdd, Nat.reduceSub, Nat.reduceMul, Nat.reduceEqDiff, Nat.reduceLT, Nat.reduceLeDiff, Nat.reduceBEq, Int.reduceAdd, Int.reduceSub, Int.reduceLT, Int.reduceLE, Int.reduceEq, Int.reduceToNat, eq_true c42]
  subst hK
  refine AW.seq ?_
  refine AW.block ?_
  obtain ⟨y76, hy76, h⟩ := Option.bind_eq_some_iff.1 h
  refine AW.loopO (fun s => ⟨(upd (upd (upd (upd (upd anyF 0 (.own 0 0 a0.length)) 1 (.val (.int .i64 a1))) 4 (.clo (.func 31) [] [])) 10 (.val (.int .i64 s.1))) 11 (.val (.int .i64 s.2))), hpL [some (.row 3 true (List.map encItem a0))] [], 8⟩) (fun z e st' => e = Exit.exit 0 ∧ st' = ⟨(upd (upd (upd anyF 0 (.own 0 0 a0.length)) 1 (.val (.int .i64 a1))) 10 (.val (.int .i64 z))), hpL [some (.row 3 true (List.map encItem a0))] [], 8⟩) hy76 ?_ ?_ ?_
  ·refine Ent.can [] _ _ _ rfl (by first | decide | simp) rfl ?_ ?_ ?_
   · exact (((((RF.any.po (by decide) (by first | rfl | simp [upd_ap, hpL_ap, tau, mapT, mapTL, bytesI_len, eq_true c42])).pv (by first | rfl | simp only [go_sem]) (by first | rfl | simp [upd_ap, hpL_ap, tau, mapT, mapTL, bytesI_len, eq_true c42])).put (by first | (simp [tokL, tokLL, inlR]; done) | simp [go_sem, tokL, tokLL]) (.of (by first | rfl | simp [upd_ap, hpL_ap, tau, mapT, mapTL, bytesI_len, eq_true c42]))).pv (by first | rfl | simp only [go_sem]) (by first | rfl | simp [upd_ap, hpL_ap, tau, mapT, mapTL, bytesI_len, eq_true c42])).pv (by first | rfl | simp only [go_sem]) (by first | rfl | simp [upd_ap, hpL_ap, tau, mapT, mapTL, bytesI_len, eq_true c42]))
   · exact .cons (.eq (by first | rfl | simp only [go_sem]) (by first | rfl | simp [upd_ap, hpL_ap, tau, mapT, mapTL, bytesI_len, eq_true c42])) (.nil _)
   · exact .nil _
  ·clear h hy76
   rintro ⟨s5_0, s5_1⟩ x h
   rw [f50_31_s5] at h
   refine AW.seq ?_
   refine AW.regL [0, 1, 4, 10, 11, 33] ?_
   generalize hK : AW Try.prog _ _ _ = K
   simp only [go_sem, ↓reduceIte, reduceCtorEq, Nat.reduceAdd, Nat.reduceSub, Nat.reduceMul, Nat.reduceEqDiff, Nat.reduceLT, Nat.reduceLeDiff, Nat.reduceBEq, Int.reduceAdd, Int.reduceSub, Int.reduceLT, Int.reduceLE, Int.reduceEq, Int.reduceToNat, eq_true c42]
   subst hK
   by_cases c70 : s5_0 < s5_1
   ·rw [if_pos c70] at h
    refine AW.ifT rfl c70 ?_
    refine AW.skip ?_
    refine thenA_n ?_
    refine AW.block ?_
    refine AW.regL [0, 1, 4, 10, 11, 12] ?_
    generalize hK : AW Try.prog _ _ _ = K
    simp only [go_sem, ↓reduceIte, reduceCtorEq, Nat.reduceAdd, Nat.reduceSub, Nat.reduceMul, Nat.reduceEqDiff, Nat.reduceLT, Nat.reduceLeDiff, Nat.reduceBEq, Int.reduceAdd, Int.reduceSub, Int.reduceLT, Int.reduceLE, Int.reduceEq, Int.reduceToNat, eq_true c42, eq_true c70]
    subst hK
    obtain ⟨x71, hx71, h⟩ := Option.bind_eq_some_iff.1 h
    obtain ⟨hx71a, hx71b⟩ := ix_some.1 hx71
    obtain ⟨x72, hx72, h⟩ := Option.bind_eq_some_iff.1 h
    obtain ⟨hx72a, hx72b⟩ := ix_some.1 hx72
    obtain ⟨x73, hx73, h⟩ := Option.bind_eq_some_iff.1 h
    refine AW.regdL [0, 1, 4, 10, 11, 12, 50] [[], [], [], [1, 2], [1, 2, 3], [], [], [5, 6], [5, 6, 7], [0, 1, 2, 3, 4, 5, 6, 7, 8], [0, 1, 2, 3, 4, 5, 6, 7, 8, 9]] [0, 1, 2, 3, 4, 5, 6, 7, 8, 9, 10] noFt (fun _ _ _ h => by simp [noFt] at h) draws (by kernel_rfl) (by kernel_rfl) ?_
    generalize hK : AW Try.prog _ _ _ = K
    simp only [go_sem, ↓reduceIte, reduceCtorEq, Nat.reduceAdd, Nat.reduceSub, Nat.reduceMul, Nat.reduceEqDiff, Nat.reduceLT, Nat.reduceLeDiff, Nat.reduceBEq, Int.reduceAdd, Int.reduceSub, Int.reduceLT, Int.reduceLE, Int.reduceEq, Int.reduceToNat, eq_true c42, eq_true c70, natOf_le hx71a, hx71b, ix_lt hx71b, natOf_le hx72a, hx72b, ix_lt hx72b]
    refine adN.pc (ok31 x71 x72 x73 hx73) Try.call31 (callV_tmp (by simp only [upd_ap, Nat.reduceEqDiff, if_true, if_false, ↓reduceIte]; rfl)) (by simp only [go_sem, ↓reduceIte, reduceCtorEq, Nat.reduceAdd, Nat.reduceSub, Nat.reduceMul, Nat.reduceEqDiff, Nat.reduceLT, Nat.reduceLeDiff, Nat.reduceBEq, Int.reduceAdd, Int.reduceSub, Int.reduceLT, Int.reduceLE, Int.reduceEq, Int.reduceToNat, List.nil_append, List.append_nil, eq_true c42, eq_true c70, natOf_le hx71a, hx71b, ix_lt hx71b, natOf_le hx72a, hx72b, ix_lt hx72b]) (by simp only [go_sem, ↓reduceIte, reduceCtorEq, Nat.reduceAdd, Nat.reduceSub, Nat.reduceMul, Nat.reduceEqDiff, Nat.reduceLT, Nat.reduceLeDiff, Nat.reduceBEq, Int.reduceAdd, Int.reduceSub, Int.reduceLT, Int.reduceLE, Int.reduceEq, Int.reduceToNat]) ?_
    simp only [go_sem, ↓reduceIte, reduceCtorEq, Nat.reduceAdd, Nat.reduceSub, Nat.reduceMul, Nat.reduceEqDiff, Nat.reduceLT, Nat.reduceLeDiff, Nat.reduceBEq, Int.reduceAdd, Int.reduceSub, Int.reduceLT, Int.reduceLE, Int.reduceEq, Int.reduceToNat, eq_true c42, eq_true c70, natOf_le hx71a, hx71b, ix_lt hx71b, natOf_le hx72a, hx72b, ix_lt hx72b]
    subst hK
    by_cases c74 : x73 < 0
    ·rw [if_pos c74] at h
     refine AW.ifT rfl c74 ?_
     refine AW.regionL [0, 1, 4, 10, 11] ?_
     generalize hK : inBlockA _ _ Exit.normal = K
     simp only [go_sem, ↓reduceIte, reduceCtorEq, Nat.reduceAdd, Nat.reduceSub, Nat.reduceMul, Nat.reduceEqDiff, Nat.reduceLT, Nat.reduceLeDiff, Nat.reduceBEq, Int.reduceAdd, Int.reduceSub, Int.reduceLT, Int.reduceLE, Int.reduceEq, Int.reduceToNat, eq_true c42, eq_true c70, eq_true c74]
     subst hK
     refine block_n ?_
     refine thenA_n ?_
     refine ⟨_, (Option.some.inj h).symm, ?_⟩
     refine Ent.can [] _ _ _ rfl (by first | decide | simp) rfl ?_ ?_ ?_
     · exact (((((RF.any.po (by decide) (by first | rfl | simp [upd_ap, hpL_ap, tau, mapT, mapTL, bytesI_len, eq_true c42, eq_true c70, eq_true c74])).pv (by first | rfl | simp only [go_sem]) (by first | rfl | simp [upd_ap, hpL_ap, tau, mapT, mapTL, bytesI_len, eq_true c42, eq_true c70, eq_true c74])).put (by first | (simp [tokL, tokLL, inlR]; done) | simp [go_sem, tokL, tokLL]) (.of (by first | rfl | simp [upd_ap, hpL_ap, tau, mapT, mapTL, bytesI_len, eq_true c42, eq_true c70, eq_true c74]))).pv (by first | rfl | simp only [go_sem]) (by first | rfl | simp [upd_ap, hpL_ap, tau, mapT, mapTL, bytesI_len, eq_true c42, eq_true c70, eq_true c74])).pv (by first | rfl | simp only [go_sem]) (by first | rfl | simp [upd_ap, hpL_ap, tau, mapT, mapTL, bytesI_len, eq_true c42, eq_true c70, eq_true c74]))
     · exact .cons (.eq (by first | rfl | simp only [go_sem]) (by first | rfl | simp [upd_ap, hpL_ap, tau, mapT, mapTL, bytesI_len, eq_true c42, eq_true c70, eq_true c74])) (.nil _)
     · exact .nil _
    ·rw [if_neg c74] at h
     refine AW.ifF rfl c74 ?_
     refine AW.regionL [0, 1, 4, 10, 11] ?_
     generalize hK : inBlockA _ _ Exit.normal = K
     simp only [go_sem, ↓reduceIte, reduceCtorEq, Nat.reduceAdd, Nat.reduceSub, Nat.reduceMul, Nat.reduceEqDiff, Nat.reduceLT, Nat.reduceLeDiff, Nat.reduceBEq, Int.reduceAdd, Int.reduceSub, Int.reduceLT, Int.reduceLE, Int.reduceEq, Int.reduceToNat, eq_true c42, eq_true c70, eq_false c74]
     subst hK
     refine block_n ?_
     refine thenA_n ?_
     refine ⟨_, (Option.some.inj h).symm, ?_⟩
     refine Ent.can [] _ _ _ rfl (by first | decide | simp) rfl ?_ ?_ ?_
     · exact (((((RF.any.po (by decide) (by first | rfl | simp [upd_ap, hpL_ap, tau, mapT, mapTL, bytesI_len, eq_true c42, eq_true c70, eq_false c74])).pv (by first | rfl | simp only [go_sem]) (by first | rfl | simp [upd_ap, hpL_ap, tau, mapT, mapTL, bytesI_len, eq_true c42, eq_true c70, eq_false c74])).put (by first | (simp [tokL, tokLL, inlR]; done) | simp [go_sem, tokL, tokLL]) (.of (by first | rfl | simp [upd_ap, hpL_ap, tau, mapT, mapTL, bytesI_len, eq_true c42, eq_true c70, eq_false c74]))).pv (by first | rfl | simp only [go_sem]) (by first | rfl | simp [upd_ap, hpL_ap, tau, mapT, mapTL, bytesI_len, eq_true c42, eq_true c70, eq_false c74])).pv (by first | rfl | simp only [go_sem]) (by first | rfl | simp [upd_ap, hpL_ap, tau, mapT, mapTL, bytesI_len, eq_true c42, eq_true c70, eq_false c74]))
     · exact .cons (.eq (by first | rfl | simp only [go_sem]) (by first | rfl | simp [upd_ap, hpL_ap, tau, mapT, mapTL, bytesI_len, eq_true c42, eq_true c70, eq_false c74])) (.nil _)
     · exact .nil _
   ·rw [if_neg c70] at h
    refine AW.ifF rfl c70 ?_
    refine AW.exit ?_
    refine thenA_x ?_
    refine thenA_x ?_
    refine ⟨_, (Option.some.inj h).symm, _, ?_, rfl, rfl⟩
    refine Ent.can [] _ _ _ rfl (by first | decide | simp) rfl ?_ ?_ ?_
    · exact (((RF.any.po (by decide) (by first | rfl | simp [upd_ap, hpL_ap, tau, mapT, mapTL, bytesI_len, eq_true c42, eq_false c70])).pv (by first | rfl | simp only [go_sem]) (by first | rfl | simp [upd_ap, hpL_ap, tau, mapT, mapTL, bytesI_len, eq_true c42, eq_false c70])).pv (by first | rfl | simp only [go_sem]) (by first | rfl | simp [upd_ap, hpL_ap, tau, mapT, mapTL, bytesI_len, eq_true c42, eq_false c70]))
    · exact .cons (.eq (by first | rfl | simp only [go_sem]) (by first | rfl | simp [upd_ap, hpL_ap, tau, mapT, mapTL, bytesI_len, eq_true c42, eq_false c70])) (.nil _)
    · exact .nil _
  ·intro e st' hX
   try dsimp only at h
   try dsimp only at hX
   obtain ⟨rfl, rfl⟩ := hX
   refine ⟨_, Ent.refl, ?_⟩
   refine block_x ?_
   refine thenA_n ?_
   refine AW.seq ?_
   refine AW.regL [0, 10, 13] ?_
   generalize hK : AW Try.prog _ _ _ = K
   simp only [go_sem, ↓reduceIte, reduceCtorEq, Nat.reduceAdd, Nat.reduceSub, Nat.reduceMul, Nat.reduceEqDiff, Nat.reduceLT, Nat.reduceLeDiff, Nat.reduceBEq, Int.reduceAdd, Int.reduceSub, Int.reduceLT, Int.reduceLE, Int.reduceEq, Int.reduceToNat, eq_true c42]
   subst hK
   refine AW.block ?_
   obtain ⟨y93, hy93, h⟩ := Option.bind_eq_some_iff.1 h
   refine AW.loopO (fun s => ⟨(upd (upd (upd anyF 0 (.own 0 0 s.1.length)) 10 (.val (.int .i64 y76))) 13 (.val (.int .i64 s.2))), hpL [some (.row 3 true (List.map encItem s.1))] [], 8⟩) (fun z e st' => e = Exit.exit 2 ∧ st' = ⟨anyF, hpL [some (.row 3 true (List.map encItem z))] [], 8⟩) hy93 ?_ ?_ ?_
   ·refine Ent.can [] _ _ _ rfl (by first | decide | simp) rfl ?_ ?_ ?_
    · exact (((RF.any.po (by decide) (by first | rfl | simp [upd_ap, hpL_ap, tau, mapT, mapTL, bytesI_len, eq_true c42])).pv (by first | rfl | simp only [go_sem]) (by first | rfl | simp [upd_ap, hpL_ap, tau, mapT, mapTL, bytesI_len, eq_true c42])).pv (by first | rfl | simp only [go_sem]) (by first | rfl | simp [upd_ap, hpL_ap, tau, mapT, mapTL, bytesI_len, eq_true c42]))
    · exact .cons (.eq (by first | rfl | simp only [go_sem]) (by first | rfl | simp [upd_ap, hpL_ap, tau, mapT, mapTL, bytesI_len, eq_true c42])) (.nil _)
    · exact .nil _
   ·clear h hy93
    rintro ⟨s6_0, s6_1⟩ x h
    rw [f50_31_s6] at h
    refine AW.seq ?_
    refine AW.regL [0, 10, 13, 58] ?_
    generalize hK : AW Try.prog _ _ _ = K
    simp only [go_sem, ↓reduceIte, reduceCtorEq, Nat.reduceAdd, Nat.reduceSub, Nat.reduceMul, Nat.reduceEqDiff, Nat.reduceLT, Nat.reduceLeDiff, Nat.reduceBEq, Int.reduceAdd, Int.reduceSub, Int.reduceLT, Int.reduceLE, Int.reduceEq, Int.reduceToNat, eq_true c42]
    subst hK
    by_cases c88 : s6_1 < (IntKind.i64.wrap (y76 - 1))
    ·rw [if_pos c88] at h
     refine AW.ifT rfl c88 ?_
     refine AW.skip ?_
     refine thenA_n ?_
     refine AW.seq ?_
     refine AW.block ?_
     obtain ⟨x89, hx89, h⟩ := Option.bind_eq_some_iff.1 h
     obtain ⟨hx89a, hx89b⟩ := ix_some.1 hx89
     obtain ⟨x90, hx90, h⟩ := Option.bind_eq_some_iff.1 h
     obtain ⟨hx90a, hx90b⟩ := ix_some.1 hx90
     obtain ⟨x91, hx91, h⟩ := Option.bind_eq_some_iff.1 h
     obtain ⟨hx91a, hx91b⟩ := ix_some.1 hx91
     refine AW.drawL [0, 10, 13] [[], [], [], [], [3], [], [], [6], [5, 6, 7], [5, 6, 7, 8], [], [], [10, 11], [10, 11, 12], [0, 1, 5, 6, 7, 8, 9, 10, 11, 12, 13], [0, 1, 5, 6, 7, 8, 9, 10, 11, 12, 13, 14], [0, 1, 2, 3, 4, 5, 6, 7, 8, 9, 10, 11, 12, 13, 14, 15], [0, 1, 2, 3, 4, 5, 6, 7, 8, 9, 10, 11, 12, 13, 14, 15, 16]] [0, 1, 2, 3, 4, 5, 6, 7, 8, 9, 10, 11, 12, 13, 14, 15, 16, 17] noFt (fun _ _ _ h => by simp [noFt] at h) draws (by kernel_rfl) (by kernel_rfl) ?_
     generalize hK : inBlockA _ _ Exit.normal = K
     simp only [go_sem, ↓reduceIte, reduceCtorEq, Nat.reduceAdd, Nat.reduceSub, Nat.reduceMul, Nat.reduceEqDiff, Nat.reduceLT, Nat.reduceLeDiff, Nat.reduceBEq, Int.reduceAdd, Int.reduceSub, Int.reduceLT, Int.reduceLE, Int.reduceEq, Int.reduceToNat, eq_true c42, eq_true c88, natOf_le hx89a, hx89b, ix_lt hx89b, natOf_le hx90a, hx90b, ix_lt hx90b, set_row (enc := encItem) (y := x89) (r := [.val (.string x89.Key), .sl (List.map encPart x89.Parts), .sl (List.map enc3 x89.Offs)]) rfl, natOf_le hx91a, hx91b, ix_lt hx91b, set_row (enc := encItem) (y := x90) (r := [.val (.string x90.Key), .sl (List.map encPart x90.Parts), .sl (List.map enc3 x90.Offs)]) rfl]
     subst hK
     refine block_n ?_
     refine thenA_n ?_
     refine AW.regionL [0, 10, 13] ?_
     generalize hK : thenA _ _ Exit.normal = K
     simp only [go_sem, ↓reduceIte, reduceCtorEq, Nat.reduceAdd, Nat.reduceSub, Nat.reduceMul, Nat.reduceEqDiff, Nat.reduceLT, Nat.reduceLeDiff, Nat.reduceBEq, Int.reduceAdd, Int.reduceSub, Int.reduceLT, Int.reduceLE, Int.reduceEq, Int.reduceToNat, eq_true c42, eq_true c88]
     subst hK
     refine thenA_n ?_
     refine ⟨_, (Option.some.inj h).symm, ?_⟩
     refine Ent.can [] _ _ _ rfl (by first | decide | simp) rfl ?_ ?_ ?_
     · exact (((RF.any.po (by decide) (by first | rfl | simp [upd_ap, hpL_ap, tau, mapT, mapTL, bytesI_len, eq_true c42, eq_true c88])).pv (by first | rfl | simp only [go_sem]) (by first | rfl | simp [upd_ap, hpL_ap, tau, mapT, mapTL, bytesI_len, eq_true c42, eq_true c88])).pv (by first | rfl | simp only [go_sem]) (by first | rfl | simp [upd_ap, hpL_ap, tau, mapT, mapTL, bytesI_len, eq_true c42, eq_true c88]))
     · exact .cons (.eq (by first | rfl | simp only [go_sem]) (by first | rfl | simp [upd_ap, hpL_ap, tau, mapT, mapTL, bytesI_len, eq_true c42, eq_true c88])) (.nil _)
     · exact .nil _
    ·rw [if_neg c88] at h
     refine AW.ifF rfl c88 ?_
     refine AW.exit ?_
     refine thenA_x ?_
     refine thenA_x ?_
     refine ⟨_, (Option.some.inj h).symm, _, ?_, rfl, rfl⟩
     refine Ent.can [] _ _ _ rfl (by first | decide | simp) rfl ?_ ?_ ?_
     · exact RF.any
     · exact .cons (.eq (by first | rfl | simp only [go_sem]) (by first | rfl | simp [upd_ap, hpL_ap, tau, mapT, mapTL, bytesI_len, eq_true c42, eq_false c88])) (.nil _)
     · exact .nil _
   ·intro e st' hX
    try dsimp only at h
    try dsimp only at hX
    obtain ⟨rfl, rfl⟩ := hX
    refine ⟨_, Ent.refl, ?_⟩
    refine block_x ?_
    refine thenA_n ?_
    refine AW.ent (st' := ⟨anyF, hpL [some (.row 3 true (List.map encItem y93))] [], 8⟩) ?_ ?_
    · refine Ent.can [] _ _ _ rfl (by first | decide | simp) rfl ?_ ?_ ?_
      · exact RF.any
      · exact .cons (.eq (by first | rfl | simp only [go_sem]) (by first | rfl | simp [upd_ap, hpL_ap, tau, mapT, mapTL, bytesI_len, eq_true c42])) (.nil _)
      · exact .nil _
    refine AW.ret ?_
    refine thenA_r ?_
    obtain rfl := Option.some.inj h
    exact ⟨_, Ent.refl, rfl, rfl, _, rfl, by first | rfl | simp [resOf, upd_ap, bytesI_len]⟩
 ·rw [if_neg c42] at h
  refine AW.ifF rfl c42 ?_
  refine AW.skip ?_
  refine thenA_n ?_
  refine AW.seq ?_
  refine AW.regL [0, 1, 2, 3, 4, 80] ?_
  generalize hK : AW Try.prog _ _ _ = K
  simp only [go_sem, ↓reduceIte, reduceCtorEq, Nat.reduceAdd, Nat.reduceSub, Nat.reduceMul, Nat.reduceEqDiff, Nat.reduceLT, Nat.reduceLeDiff, Nat.reduceBEq, Int.reduceAdd, Int.reduceSub, Int.reduceLT, Int.reduceLE, Int.reduceEq, Int.reduceToNat, eq_false c42]
  subst hK
  by_cases c135 : (IntKind.i64.wrap (a3 - a2)) = 1
  ·rw [if_pos c135] at h
   refine AW.ifT rfl c135 ?_
   refine AW.regL [0, 2, 4, 14] ?_
   generalize hK : AW Try.prog _ _ _ = K
   simp only [go_sem, ↓reduceIte, reduceCtorEq, Nat.reduceAdd, Nat.reduceSub, Nat.reduceMul, Nat.reduceEqDiff, Nat.reduceLT, Nat.reduceLeDiff, Nat.reduceBEq, Int.reduceAdd, Int.reduceSub, Int.reduceLT, Int.reduceLE, Int.reduceEq, Int.reduceToNat, eq_false c42, eq_true c135]
   subst hK
   refine AW.regL [0, 2, 4, 14, 15] ?_
   generalize hK : AW Try.prog _ _ _ = K
   simp only [go_sem, ↓reduceIte, reduceCtorEq, Nat.reduceAdd, Nat.reduceSub, Nat.reduceMul, Nat.reduceEqDiff, Nat.reduceLT, Nat.reduceLeDiff, Nat.reduceBEq, Int.reduceAdd, Int.reduceSub, Int.reduceLT, Int.reduceLE, Int.reduceEq, Int.reduceToNat, eq_false c42, eq_true c135]
   subst hK
   refine AW.seq ?_
   refine AW.block ?_
   obtain ⟨y169, hy169, h⟩ := Option.bind_eq_some_iff.1 h
   refine AW.loopO (fun s => ⟨(upd (upd (upd (upd (upd anyF 0 (.own 0 0 a0.length)) 2 (.val (.int .i64 a2))) 4 (.clo (.func 31) [] [])) 14 (.val (.int .i64 s.2))) 15 (.val (.int .i64 s.1))), hpL [some (.row 3 true (List.map encItem a0))] [], 8⟩) (fun z e st' => e = Exit.exit 4 ∧ st' = ⟨(upd (upd (upd anyF 0 (.own 0 0 a0.length)) 2 (.val (.int .i64 a2))) 14 (.val (.int .i64 z))), hpL [some (.row 3 true (List.map encItem a0))] [], 8⟩) hy169 ?_ ?_ ?_
   ·refine Ent.can [] _ _ _ rfl (by first | decide | simp) rfl ?_ ?_ ?_
    · exact (((((RF.any.po (by decide) (by first | rfl | simp [upd_ap, hpL_ap, tau, mapT, mapTL, bytesI_len, eq_false c42, eq_true c135])).pv (by first | rfl | simp only [go_sem]) (by first | rfl | simp [upd_ap, hpL_ap, tau, mapT, mapTL, bytesI_len, eq_false c42, eq_true c135])).put (by first | (simp [tokL, tokLL, inlR]; done) | simp [go_sem, tokL, tokLL]) (.of (by first | rfl | simp [upd_ap, hpL_ap, tau, mapT, mapTL, bytesI_len, eq_false c42, eq_true c135]))).pv (by first | rfl | simp only [go_sem]) (by first | rfl | simp [upd_ap, hpL_ap, tau, mapT, mapTL, bytesI_len, eq_false c42, eq_true c135])).pv (by first | rfl | simp only [go_sem]) (by first | rfl | simp [upd_ap, hpL_ap, tau, mapT, mapTL, bytesI_len, eq_false c42, eq_true c135]))
    · exact .cons (.eq (by first | rfl | simp only [go_sem]) (by first | rfl | simp [upd_ap, hpL_ap, tau, mapT, mapTL, bytesI_len, eq_false c42, eq_true c135])) (.nil _)
    · exact .nil _
   ·clear h hy169
    rintro ⟨s11_0, s11_1⟩ x h
    rw [f50_31_s11] at h
    refine AW.seq ?_
    refine AW.regL [0, 2, 4, 14, 15, 85] ?_
    generalize hK : AW Try.prog _ _ _ = K
    simp only [go_sem, ↓reduceIte, reduceCtorEq, Nat.reduceAdd, Nat.reduceSub, Nat.reduceMul, Nat.reduceEqDiff, Nat.reduceLT, Nat.reduceLeDiff, Nat.reduceBEq, Int.reduceAdd, Int.reduceSub, Int.reduceLT, Int.reduceLE, Int.reduceEq, Int.reduceToNat, eq_false c42, eq_true c135]
    subst hK
    by_cases c163 : s11_1 < s11_0
    ·rw [if_pos c163] at h
     refine AW.ifT rfl c163 ?_
     refine AW.skip ?_
     refine thenA_n ?_
     refine AW.block ?_
     refine AW.regL [0, 2, 4, 14, 15, 16] ?_
     generalize hK : AW Try.prog _ _ _ = K
     simp only [go_sem, ↓reduceIte, reduceCtorEq, Nat.reduceAdd, Nat.reduceSub, Nat.reduceMul, Nat.reduceEqDiff, Nat.reduceLT, Nat.reduceLeDiff, Nat.reduceBEq, Int.reduceAdd, Int.reduceSub, Int.reduceLT, Int.reduceLE, Int.reduceEq, Int.reduceToNat, eq_false c42, eq_true c135, eq_true c163]
     subst hK
     obtain ⟨x164, hx164, h⟩ := Option.bind_eq_some_iff.1 h
     obtain ⟨hx164a, hx164b⟩ := ix_some.1 hx164
     obtain ⟨x165, hx165, h⟩ := Option.bind_eq_some_iff.1 h
     obtain ⟨hx165a, hx165b⟩ := ix_some.1 hx165
     obtain ⟨x166, hx166, h⟩ := Option.bind_eq_some_iff.1 h
     refine AW.regdL [0, 2, 4, 14, 15, 16, 103] [[], [], [], [1, 2], [1, 2, 3], [], [], [5, 6], [5, 6, 7], [0, 1, 2, 3, 4, 5, 6, 7, 8], [0, 1, 2, 3, 4, 5, 6, 7, 8, 9], [0, 1, 2, 3, 4, 5, 6, 7, 8, 9, 10]] [0, 1, 2, 3, 4, 5, 6, 7, 8, 9, 10, 11] noFt (fun _ _ _ h => by simp [noFt] at h) draws (by kernel_rfl) (by kernel_rfl) ?_
     generalize hK : AW Try.prog _ _ _ = K
     simp only [go_sem, ↓reduceIte, reduceCtorEq, Nat.reduceAdd, Nat.reduceSub, Nat.reduceMul, Nat.reduceEqDiff, Nat.reduceLT, Nat.reduceLeDiff, Nat.reduceBEq, Int.reduceAdd, Int.reduceSub, Int.reduceLT, Int.reduceLE, Int.reduceEq, Int.reduceToNat, eq_false c42, eq_true c135, eq_true c163, natOf_le hx164a, hx164b, ix_lt hx164b, natOf_le hx165a, hx165b, ix_lt hx165b]
     refine adN.pc (ok31 x164 x165 x166 hx166) Try.call31 (callV_tmp (by simp only [upd_ap, Nat.reduceEqDiff, if_true, if_false, ↓reduceIte]; rfl)) (by simp only [go_sem, ↓reduceIte, reduceCtorEq, Nat.reduceAdd, Nat.reduceSub, Nat.reduceMul, Nat.reduceEqDiff, Nat.reduceLT, Nat.reduceLeDiff, Nat.reduceBEq, Int.reduceAdd, Int.reduceSub, Int.reduceLT, Int.reduceLE, Int.reduceEq, Int.reduceToNat, List.nil_append, List.append_nil, eq_false c42, eq_true c135, eq_true c163, natOf_le hx164a, hx164b, ix_lt hx164b, natOf_le hx165a, hx165b, ix_lt hx165b]) (by simp only [go_sem, ↓reduceIte, reduceCtorEq, Nat.reduceAdd, Nat.reduceSub, Nat.reduceMul, Nat.reduceEqDiff, Nat.reduceLT, Nat.reduceLeDiff, Nat.reduceBEq, Int.reduceAdd, Int.reduceSub, Int.reduceLT, Int.reduceLE, Int.reduceEq, Int.reduceToNat]) ?_
     simp only [go_sem, ↓reduceIte, reduceCtorEq, Nat.reduceAdd, Nat.reduceSub, Nat.reduceMul, Nat.reduceEqDiff, Nat.reduceLT, Nat.reduceLeDiff, Nat.reduceBEq, Int.reduceAdd, Int.reduceSub, Int.reduceLT, Int.reduceLE, Int.reduceEq, Int.reduceToNat, eq_false c42, eq_true c135, eq_true c163, natOf_le hx164a, hx164b, ix_lt hx164b, natOf_le hx165a, hx165b, ix_lt hx165b]
     subst hK
     by_cases c167 : x166 < 0
     ·rw [if_pos c167] at h
      refine AW.ifNF rfl c167 ?_
      refine AW.regionL [0, 2, 4, 14, 15] ?_
      generalize hK : inBlockA _ _ Exit.normal = K
      simp only [go_sem, ↓reduceIte, reduceCtorEq, Nat.reduceAdd, Nat.reduceSub, Nat.reduceMul, Nat.reduceEqDiff, Nat.reduceLT, Nat.reduceLeDiff, Nat.reduceBEq, Int.reduceAdd, Int.reduceSub, Int.reduceLT, Int.reduceLE, Int.reduceEq, Int.reduceToNat, eq_false c42, eq_true c135, eq_true c163, eq_true c167]
      subst hK
      refine block_n ?_
      refine thenA_n ?_
      refine ⟨_, (Option.some.inj h).symm, ?_⟩
      refine Ent.can [] _ _ _ rfl (by first | decide | simp) rfl ?_ ?_ ?_
      · exact (((((RF.any.po (by decide) (by first | rfl | simp [upd_ap, hpL_ap, tau, mapT, mapTL, bytesI_len, eq_false c42, eq_true c135, eq_true c163, eq_true c167])).pv (by first | rfl | simp only [go_sem]) (by first | rfl | simp [upd_ap, hpL_ap, tau, mapT, mapTL, bytesI_len, eq_false c42, eq_true c135, eq_true c163, eq_true c167])).put (by first | (simp [tokL, tokLL, inlR]; done) | simp [go_sem, tokL, tokLL]) (.of (by first | rfl | simp [upd_ap, hpL_ap, tau, mapT, mapTL, bytesI_len, eq_false c42, eq_true c135, eq_true c163, eq_true c167]))).pv (by first | rfl | simp only [go_sem]) (by first | rfl | simp [upd_ap, hpL_ap, tau, mapT, mapTL, bytesI_len, eq_false c42, eq_true c135, eq_true c163, eq_true c167])).pv (by first | rfl | simp only [go_sem]) (by first | rfl | simp [upd_ap, hpL_ap, tau, mapT, mapTL, bytesI_len, eq_false c42, eq_true c135, eq_true c163, eq_true c167]))
      · exact .cons (.eq (by first | rfl | simp only [go_sem]) (by first | rfl | simp [upd_ap, hpL_ap, tau, mapT, mapTL, bytesI_len, eq_false c42, eq_true c135, eq_true c163, eq_true c167])) (.nil _)
      · exact .nil _
     ·rw [if_neg c167] at h
      refine AW.ifNT rfl c167 ?_
      refine AW.regionL [0, 2, 4, 14, 15] ?_
      generalize hK : inBlockA _ _ Exit.normal = K
      simp only [go_sem, ↓reduceIte, reduceCtorEq, Nat.reduceAdd, Nat.reduceSub, Nat.reduceMul, Nat.reduceEqDiff, Nat.reduceLT, Nat.reduceLeDiff, Nat.reduceBEq, Int.reduceAdd, Int.reduceSub, Int.reduceLT, Int.reduceLE, Int.reduceEq, Int.reduceToNat, eq_false c42, eq_true c135, eq_true c163, eq_false c167]
      subst hK
      refine block_n ?_
      refine thenA_n ?_
      refine ⟨_, (Option.some.inj h).symm, ?_⟩
      refine Ent.can [] _ _ _ rfl (by first | decide | simp) rfl ?_ ?_ ?_
      · exact (((((RF.any.po (by decide) (by first | rfl | simp [upd_ap, hpL_ap, tau, mapT, mapTL, bytesI_len, eq_false c42, eq_true c135, eq_true c163, eq_false c167])).pv (by first | rfl | simp only [go_sem]) (by first | rfl | simp [upd_ap, hpL_ap, tau, mapT, mapTL, bytesI_len, eq_false c42, eq_true c135, eq_true c163, eq_false c167])).put (by first | (simp [tokL, tokLL, inlR]; done) | simp [go_sem, tokL, tokLL]) (.of (by first | rfl | simp [upd_ap, hpL_ap, tau, mapT, mapTL, bytesI_len, eq_false c42, eq_true c135, eq_true c163, eq_false c167]))).pv (by first | rfl | simp only [go_sem]) (by first | rfl | simp [upd_ap, hpL_ap, tau, mapT, mapTL, bytesI_len, eq_false c42, eq_true c135, eq_true c163, eq_false c167])).pv (by first | rfl | simp only [go_sem]) (by first | rfl | simp [upd_ap, hpL_ap, tau, mapT, mapTL, bytesI_len, eq_false c42, eq_true c135, eq_true c163, eq_false c167]))
      · exact .cons (.eq (by first | rfl | simp only [go_sem]) (by first | rfl | simp [upd_ap, hpL_ap, tau, mapT, mapTL, bytesI_len, eq_false c42, eq_true c135, eq_true c163, eq_false c167])) (.nil _)
      · exact .nil _
    ·rw [if_neg c163] at h
     refine AW.ifF rfl c163 ?_
     refine AW.exit ?_
     refine thenA_x ?_
     refine thenA_x ?_
     refine ⟨_, (Option.some.inj h).symm, _, ?_, rfl, rfl⟩
     refine Ent.can [] _ _ _ rfl (by first | decide | simp) rfl ?_ ?_ ?_
     · exact (((RF.any.po (by decide) (by first | rfl | simp [upd_ap, hpL_ap, tau, mapT, mapTL, bytesI_len, eq_false c42, eq_true c135, eq_false c163])).pv (by first | rfl | simp only [go_sem]) (by first | rfl | simp [upd_ap, hpL_ap, tau, mapT, mapTL, bytesI_len, eq_false c42, eq_true c135, eq_false c163])).pv (by first | rfl | simp only [go_sem]) (by first | rfl | simp [upd_ap, hpL_ap, tau, mapT, mapTL, bytesI_len, eq_false c42, eq_true c135, eq_false c163]))
     · exact .cons (.eq (by first | rfl | simp only [go_sem]) (by first | rfl | simp [upd_ap, hpL_ap, tau, mapT, mapTL, bytesI_len, eq_false c42, eq_true c135, eq_false c163])) (.nil _)
     · exact .nil _
   ·intro e st' hX
    try dsimp only at h
    try dsimp only at hX
    obtain ⟨rfl, rfl⟩ := hX
    refine ⟨_, Ent.refl, ?_⟩
    refine block_x ?_
    refine thenA_n ?_
    refine AW.seq ?_
    refine AW.regL [0, 14, 17] ?_
    generalize hK : AW Try.prog _ _ _ = K
    simp only [go_sem, ↓reduceIte, reduceCtorEq, Nat.reduceAdd, Nat.reduceSub, Nat.reduceMul, Nat.reduceEqDiff, Nat.reduceLT, Nat.reduceLeDiff, Nat.reduceBEq, Int.reduceAdd, Int.reduceSub, Int.reduceLT, Int.reduceLE, Int.reduceEq, Int.reduceToNat, eq_false c42, eq_true c135]
    subst hK
    refine AW.block ?_
    obtain ⟨y186, hy186, h⟩ := Option.bind_eq_some_iff.1 h
    refine AW.loopO (fun s => ⟨(upd (upd (upd anyF 0 (.own 0 0 s.1.length)) 14 (.val (.int .i64 y169))) 17 (.val (.int .i64 s.2))), hpL [some (.row 3 true (List.map encItem s.1))] [], 8⟩) (fun z e st' => e = Exit.exit 6 ∧ st' = ⟨anyF, hpL [some (.row 3 true (List.map encItem z))] [], 8⟩) hy186 ?_ ?_ ?_
    ·refine Ent.can [] _ _ _ rfl (by first | decide | simp) rfl ?_ ?_ ?_
     · exact (((RF.any.po (by decide) (by first | rfl | simp [upd_ap, hpL_ap, tau, mapT, mapTL, bytesI_len, eq_false c42, eq_true c135])).pv (by first | rfl | simp only [go_sem]) (by first | rfl | simp [upd_ap, hpL_ap, tau, mapT, mapTL, bytesI_len, eq_false c42, eq_true c135])).pv (by first | rfl | simp only [go_sem]) (by first | rfl | simp [upd_ap, hpL_ap, tau, mapT, mapTL, bytesI_len, eq_false c42, eq_true c135]))
     · exact .cons (.eq (by first | rfl | simp only [go_sem]) (by first | rfl | simp [upd_ap, hpL_ap, tau, mapT, mapTL, bytesI_len, eq_false c42, eq_true c135])) (.nil _)
     · exact .nil _
    ·clear h hy186
     rintro ⟨s12_0, s12_1⟩ x h
     rw [f50_31_s12] at h
     refine AW.seq ?_
     refine AW.regL [0, 14, 17, 110] ?_
     generalize hK : AW Try.prog _ _ _ = K
     simp only [go_sem, ↓reduceIte, reduceCtorEq, Nat.reduceAdd, Nat.reduceSub, Nat.reduceMul, Nat.reduceEqDiff, Nat.reduceLT, Nat.reduceLeDiff, Nat.reduceBEq, Int.reduceAdd, Int.reduceSub, Int.reduceLT, Int.reduceLE, Int.reduceEq, Int.reduceToNat, eq_false c42, eq_true c135]
     subst hK
     by_cases c181 : y169 < s12_1
     ·rw [if_pos c181] at h
      refine AW.ifT rfl c181 ?_
      refine AW.skip ?_
      refine thenA_n ?_
      refine AW.seq ?_
      refine AW.block ?_
      obtain ⟨x182, hx182, h⟩ := Option.bind_eq_some_iff.1 h
      obtain ⟨hx182a, hx182b⟩ := ix_some.1 hx182
      obtain ⟨x183, hx183, h⟩ := Option.bind_eq_some_iff.1 h
      obtain ⟨hx183a, hx183b⟩ := ix_some.1 hx183
      obtain ⟨x184, hx184, h⟩ := Option.bind_eq_some_iff.1 h
      obtain ⟨hx184a, hx184b⟩ := ix_some.1 hx184
      refine AW.drawL [0, 14, 17] [[], [], [], [], [3], [], [], [6], [5, 6, 7], [5, 6, 7, 8], [], [], [10, 11], [10, 11, 12], [0, 1, 5, 6, 7, 8, 9, 10, 11, 12, 13], [0, 1, 5, 6, 7, 8, 9, 10, 11, 12, 13, 14], [0, 1, 2, 3, 4, 5, 6, 7, 8, 9, 10, 11, 12, 13, 14, 15], [0, 1, 2, 3, 4, 5, 6, 7, 8, 9, 10, 11, 12, 13, 14, 15, 16]] [0, 1, 2, 3, 4, 5, 6, 7, 8, 9, 10, 11, 12, 13, 14, 15, 16, 17] noFt (fun _ _ _ h => by simp [noFt] at h) draws (by kernel_rfl) (by kernel_rfl) ?_
      generalize hK : inBlockA _ _ Exit.normal = K
      simp only [go_sem, ↓reduceIte, reduceCtorEq, Nat.reduceAdd, Nat.reduceSub, Nat.reduceMul, Nat.reduceEqDiff, Nat.reduceLT, Nat.reduceLeDiff, Nat.reduceBEq, Int.reduceAdd, Int.reduceSub, Int.reduceLT, Int.reduceLE, Int.reduceEq, Int.reduceToNat, eq_false c42, eq_true c135, eq_true c181, natOf_le hx182a, hx182b, ix_lt hx182b, natOf_le hx183a, hx183b, ix_lt hx183b, set_row (enc := encItem) (y := x182) (r := [.val (.string x182.Key), .sl (List.map encPart x182.Parts), .sl (List.map enc3 x182.Offs)]) rfl, natOf_le hx184a, hx184b, ix_lt hx184b, set_row (enc := encItem) (y := x183) (r := [.val (.string x183.Key), .sl (List.map encPart x183.Parts), .sl (List.map enc3 x183.Offs)]) rfl]
      subst hK
      refine block_n ?_
      refine thenA_n ?_
      refine AW.regionL [0, 14, 17] ?_
      generalize hK : thenA _ _ Exit.normal = K
      simp only [go_sem, ↓reduceIte, reduceCtorEq, Nat.reduceAdd, Nat.reduceSub, Nat.reduceMul, Nat.reduceEqDiff, Nat.reduceLT, Nat.reduceLeDiff, Nat.reduceBEq, Int.reduceAdd, Int.reduceSub, Int.reduceLT, Int.reduceLE, Int.reduceEq, Int.reduceToNat, eq_false c42, eq_true c135, eq_true c181]
      subst hK
      refine thenA_n ?_
      refine ⟨_, (Option.some.inj h).symm, ?_⟩
      refine Ent.can [] _ _ _ rfl (by first | decide | simp) rfl ?_ ?_ ?_
      · exact (((RF.any.po (by decide) (by first | rfl | simp [upd_ap, hpL_ap, tau, mapT, mapTL, bytesI_len, eq_false c42, eq_true c135, eq_true c181])).pv (by first | rfl | simp only [go_sem]) (by first | rfl | simp [upd_ap, hpL_ap, tau, mapT, mapTL, bytesI_len, eq_false c42, eq_true c135, eq_true c181])).pv (by first | rfl | simp only [go_sem]) (by first | rfl | simp [upd_ap, hpL_ap, tau, mapT, mapTL, bytesI_len, eq_false c42, eq_true c135, eq_true c181]))
      · exact .cons (.eq (by first | rfl | simp only [go_sem]) (by first | rfl | simp [upd_ap, hpL_ap, tau, mapT, mapTL, bytesI_len, eq_false c42, eq_true c135, eq_true c181])) (.nil _)
      · exact .nil _
     ·rw [if_neg c181] at h
      refine AW.ifF rfl c181 ?_
      refine AW.exit ?_
      refine thenA_x ?_
      refine thenA_x ?_
      refine ⟨_, (Option.some.inj h).symm, _, ?_, rfl, rfl⟩
      refine Ent.can [] _ _ _ rfl (by first | decide | simp) rfl ?_ ?_ ?_
      · exact RF.any
      · exact .cons (.eq (by first | rfl | simp only [go_sem]) (by first | rfl | simp [upd_ap, hpL_ap, tau, mapT, mapTL, bytesI_len, eq_false c42, eq_true c135, eq_false c181])) (.nil _)
      · exact .nil _
    ·intro e st' hX
     try dsimp only at h
     try dsimp only at hX
     obtain ⟨rfl, rfl⟩ := hX
     refine ⟨_, Ent.refl, ?_⟩
     refine block_x ?_
     refine thenA_n ?_
     refine AW.ent (st' := ⟨anyF, hpL [some (.row 3 true (List.map encItem y186))] [], 8⟩) ?_ ?_
     · refine Ent.can [] _ _ _ rfl (by first | decide | simp) rfl ?_ ?_ ?_
       · exact RF.any
       · exact .cons (.eq (by first | rfl | simp only [go_sem]) (by first | rfl | simp [upd_ap, hpL_ap, tau, mapT, mapTL, bytesI_len, eq_false c42, eq_true c135])) (.nil _)
       · exact .nil _
     refine AW.ret ?_
     refine thenA_r ?_
     obtain rfl := Option.some.inj h
     exact ⟨_, Ent.refl, rfl, rfl, _, rfl, by first | rfl | simp [resOf, upd_ap, bytesI_len]⟩
  ·rw [if_neg c135] at h
   refine AW.ifF rfl c135 ?_
   refine AW.skip ?_
   refine thenA_n ?_
   refine AW.regL [0, 1, 2, 3, 4, 18] ?_
   generalize hK : AW Try.prog _ _ _ = K
   simp only [go_sem, ↓reduceIte, reduceCtorEq, Nat.reduceAdd, Nat.reduceSub, Nat.reduceMul, Nat.reduceEqDiff, Nat.reduceLT, Nat.reduceLeDiff, Nat.reduceBEq, Int.reduceAdd, Int.reduceSub, Int.reduceLT, Int.reduceLE, Int.reduceEq, Int.reduceToNat, eq_false c42, eq_false c135]
   subst hK
   refine AW.regL [0, 1, 2, 3, 4, 18, 19] ?_
   generalize hK : AW Try.prog _ _ _ = K
   simp only [go_sem, ↓reduceIte, reduceCtorEq, Nat.reduceAdd, Nat.reduceSub, Nat.reduceMul, Nat.reduceEqDiff, Nat.reduceLT, Nat.reduceLeDiff, Nat.reduceBEq, Int.reduceAdd, Int.reduceSub, Int.reduceLT, Int.reduceLE, Int.reduceEq, Int.reduceToNat, eq_false c42, eq_false c135]
   subst hK
   refine AW.regL [0, 1, 2, 3, 4, 18, 19] ?_
   generalize hK : AW Try.prog _ _ _ = K
   simp only [go_sem, ↓reduceIte, reduceCtorEq, Nat.reduceAdd, Nat.reduceSub, Nat.reduceMul, Nat.reduceEqDiff, Nat.reduceLT, Nat.reduceLeDiff, Nat.reduceBEq, Int.reduceAdd, Int.reduceSub, Int.reduceLT, Int.reduceLE, Int.reduceEq, Int.reduceToNat, eq_false c42, eq_false c135]
   subst hK
   refine AW.join (fun s => ⟨(upd (upd (upd (upd (upd (upd (upd (upd (upd anyF 0 (.own 0 0 a0.length)) 1 (.val (.int .i64 a1))) 2 (.val (.int .i64 a2))) 3 (.val (.int .i64 a3))) 4 (.clo (.func 31) [] [])) 18 (.val (.int .i64 (IntKind.i64.wrap (shrV .u64 (IntKind.u64.wrap (IntKind.i64.wrap (a1 + a3))) 1))))) 19 (.val (.int .i64 (IntKind.i64.wrap ((IntKind.i64.wrap (shrV .u64 (IntKind.u64.wrap (IntKind.i64.wrap (a1 + a3))) 1)) + a2))))) 20 (.val (.int .i64 s.1))) 21 (.val (.int .i64 s.2))), hpL [some (.row 3 true (List.map encItem a0))] [], 8⟩) (fun s => f50_31_j1 a0 a1 a2 a3 rec50 s = some r) ?_ ?_
   ·refine AW.regL [0, 1, 2, 3, 4, 18, 19, 140] ?_
    generalize hK : AW Try.prog _ _ _ = K
    simp only [go_sem, ↓reduceIte, reduceCtorEq, Nat.reduceAdd, Nat.reduceSub, Nat.reduceMul, Nat.reduceEqDiff, Nat.reduceLT, Nat.reduceLeDiff, Nat.reduceBEq, Int.reduceAdd, Int.reduceSub, Int.reduceLT, Int.reduceLE, Int.reduceEq, Int.reduceToNat, eq_false c42, eq_false c135]
    subst hK
    by_cases c242 : (IntKind.i64.wrap (shrV .u64 (IntKind.u64.wrap (IntKind.i64.wrap (a1 + a3))) 1)) < a2
    ·rw [if_pos c242] at h
     refine AW.ifT rfl c242 ?_
     refine AW.regL [0, 1, 2, 3, 4, 18, 19, 20] ?_
     generalize hK : AW Try.prog _ _ _ = K
     simp only [go_sem, ↓reduceIte, reduceCtorEq, Nat.reduceAdd, Nat.reduceSub, Nat.reduceMul, Nat.reduceEqDiff, Nat.reduceLT, Nat.reduceLeDiff, Nat.reduceBEq, Int.reduceAdd, Int.reduceSub, Int.reduceLT, Int.reduceLE, Int.reduceEq, Int.reduceToNat, eq_false c42, eq_false c135, eq_true c242]
     subst hK
     refine AW.regionL [0, 1, 2, 3, 4, 18, 19, 20, 21] ?_
     generalize hK : thenA _ _ Exit.normal = K
     simp only [go_sem, ↓reduceIte, reduceCtorEq, Nat.reduceAdd, Nat.reduceSub, Nat.reduceMul, Nat.reduceEqDiff, Nat.reduceLT, Nat.reduceLeDiff, Nat.reduceBEq, Int.reduceAdd, Int.reduceSub, Int.reduceLT, Int.reduceLE, Int.reduceEq, Int.reduceToNat, eq_false c42, eq_false c135, eq_true c242]
     subst hK
     refine thenA_n ?_
     refine ⟨_, h, ?_⟩
     refine Ent.can [] _ _ _ rfl (by first | decide | simp) rfl ?_ ?_ ?_
     · exact (((((((((RF.any.po (by decide) (by first | rfl | simp [upd_ap, hpL_ap, tau, mapT, mapTL, bytesI_len, eq_false c42, eq_false c135, eq_true c242])).pv (by first | rfl | simp only [go_sem]) (by first | rfl | simp [upd_ap, hpL_ap, tau, mapT, mapTL, bytesI_len, eq_false c42, eq_false c135, eq_true c242])).pv (by first | rfl | simp only [go_sem]) (by first | rfl | simp [upd_ap, hpL_ap, tau, mapT, mapTL, bytesI_len, eq_false c42, eq_false c135, eq_true c242])).pv (by first | rfl | simp only [go_sem]) (by first | rfl | simp [upd_ap, hpL_ap, tau, mapT, mapTL, bytesI_len, eq_false c42, eq_false c135, eq_true c242])).put (by first | (simp [tokL, tokLL, inlR]; done) | simp [go_sem, tokL, tokLL]) (.of (by first | rfl | simp [upd_ap, hpL_ap, tau, mapT, mapTL, bytesI_len, eq_false c42, eq_false c135, eq_true c242]))).pv (by first | rfl | simp only [go_sem]) (by first | rfl | simp [upd_ap, hpL_ap, tau, mapT, mapTL, bytesI_len, eq_false c42, eq_false c135, eq_true c242])).pv (by first | rfl | simp only [go_sem]) (by first | rfl | simp [upd_ap, hpL_ap, tau, mapT, mapTL, bytesI_len, eq_false c42, eq_false c135, eq_true c242])).pv (by first | rfl | simp only [go_sem]) (by first | rfl | simp [upd_ap, hpL_ap, tau, mapT, mapTL, bytesI_len, eq_false c42, eq_false c135, eq_true c242])).pv (by first | rfl | simp only [go_sem]) (by first | rfl | simp [upd_ap, hpL_ap, tau, mapT, mapTL, bytesI_len, eq_false c42, eq_false c135, eq_true c242]))
     · exact .cons (.eq (by first | rfl | simp only [go_sem]) (by first | rfl | simp [upd_ap, hpL_ap, tau, mapT, mapTL, bytesI_len, eq_false c42, eq_false c135, eq_true c242])) (.nil _)
     · exact .nil _
    ·rw [if_neg c242] at h
     refine AW.ifF rfl c242 ?_
     refine AW.regL [0, 1, 2, 3, 4, 18, 19, 20] ?_
     generalize hK : AW Try.prog _ _ _ = K
     simp only [go_sem, ↓reduceIte, reduceCtorEq, Nat.reduceAdd, Nat.reduceSub, Nat.reduceMul, Nat.reduceEqDiff, Nat.reduceLT, Nat.reduceLeDiff, Nat.reduceBEq, Int.reduceAdd, Int.reduceSub, Int.reduceLT, Int.reduceLE, Int.reduceEq, Int.reduceToNat, eq_false c42, eq_false c135, eq_false c242]
     subst hK
     refine AW.regionL [0, 1, 2, 3, 4, 18, 19, 20, 21] ?_
     generalize hK : thenA _ _ Exit.normal = K
     simp only [go_sem, ↓reduceIte, reduceCtorEq, Nat.reduceAdd, Nat.reduceSub, Nat.reduceMul, Nat.reduceEqDiff, Nat.reduceLT, Nat.reduceLeDiff, Nat.reduceBEq, Int.reduceAdd, Int.reduceSub, Int.reduceLT, Int.reduceLE, Int.reduceEq, Int.reduceToNat, eq_false c42, eq_false c135, eq_false c242]
     subst hK
     refine thenA_n ?_
     refine ⟨_, h, ?_⟩
     refine Ent.can [] _ _ _ rfl (by first | decide | simp) rfl ?_ ?_ ?_
     · exact (((((((((RF.any.po (by decide) (by first | rfl | simp [upd_ap, hpL_ap, tau, mapT, mapTL, bytesI_len, eq_false c42, eq_false c135, eq_false c242])).pv (by first | rfl | simp only [go_sem]) (by first | rfl | simp [upd_ap, hpL_ap, tau, mapT, mapTL, bytesI_len, eq_false c42, eq_false c135, eq_false c242])).pv (by first | rfl | simp only [go_sem]) (by first | rfl | simp [upd_ap, hpL_ap, tau, mapT, mapTL, bytesI_len, eq_false c42, eq_false c135, eq_false c242])).pv (by first | rfl | simp only [go_sem]) (by first | rfl | simp [upd_ap, hpL_ap, tau, mapT, mapTL, bytesI_len, eq_false c42, eq_false c135, eq_false c242])).put (by first | (simp [tokL, tokLL, inlR]; done) | simp [go_sem, tokL, tokLL]) (.of (by first | rfl | simp [upd_ap, hpL_ap, tau, mapT, mapTL, bytesI_len, eq_false c42, eq_false c135, eq_false c242]))).pv (by first | rfl | simp only [go_sem]) (by first | rfl | simp [upd_ap, hpL_ap, tau, mapT, mapTL, bytesI_len, eq_false c42, eq_false c135, eq_false c242])).pv (by first | rfl | simp only [go_sem]) (by first | rfl | simp [upd_ap, hpL_ap, tau, mapT, mapTL, bytesI_len, eq_false c42, eq_false c135, eq_false c242])).pv (by first | rfl | simp only [go_sem]) (by first | rfl | simp [upd_ap, hpL_ap, tau, mapT, mapTL, bytesI_len, eq_false c42, eq_false c135, eq_false c242])).pv (by first | rfl | simp only [go_sem]) (by first | rfl | simp [upd_ap, hpL_ap, tau, mapT, mapTL, bytesI_len, eq_false c42, eq_false c135, eq_false c242]))
     · exact .cons (.eq (by first | rfl | simp only [go_sem]) (by first | rfl | simp [upd_ap, hpL_ap, tau, mapT, mapTL, bytesI_len, eq_false c42, eq_false c135, eq_false c242])) (.nil _)
     · exact .nil _
   ·clear h
    rintro ⟨j1_0, j1_1⟩ h
    rw [f50_31_j1] at h
    refine AW.regL [0, 1, 2, 3, 4, 18, 19, 20, 21, 22] ?_
    generalize hK : AW Try.prog _ _ _ = K
    simp only [go_sem, ↓reduceIte, reduceCtorEq, Nat.reduceAdd, Nat.reduceSub, Nat.reduceMul, Nat.reduceEqDiff, Nat.reduceLT, Nat.reduceLeDiff, Nat.reduceBEq, Int.reduceAdd, Int.reduceSub, Int.reduceLT, Int.reduceLE, Int.reduceEq, Int.reduceToNat, eq_false c42, eq_false c135]
    subst hK
    refine AW.seq ?_
    refine AW.block ?_
    obtain ⟨y221, hy221, h⟩ := Option.bind_eq_some_iff.1 h
    refine AW.loopO (fun s => ⟨(upd (upd (upd (upd (upd (upd (upd (upd (upd (upd anyF 0 (.own 0 0 a0.length)) 1 (.val (.int .i64 a1))) 2 (.val (.int .i64 a2))) 3 (.val (.int .i64 a3))) 4 (.clo (.func 31) [] [])) 18 (.val (.int .i64 (IntKind.i64.wrap (shrV .u64 (IntKind.u64.wrap (IntKind.i64.wrap (a1 + a3))) 1))))) 19 (.val (.int .i64 (IntKind.i64.wrap ((IntKind.i64.wrap (shrV .u64 (IntKind.u64.wrap (IntKind.i64.wrap (a1 + a3))) 1)) + a2))))) 20 (.val (.int .i64 s.2))) 21 (.val (.int .i64 s.1))) 22 (.val (.int .i64 (IntKind.i64.wrap ((IntKind.i64.wrap ((IntKind.i64.wrap (shrV .u64 (IntKind.u64.wrap (IntKind.i64.wrap (a1 + a3))) 1)) + a2)) - 1))))), hpL [some (.row 3 true (List.map encItem a0))] [], 8⟩) (fun z e st' => e = Exit.exit 8 ∧ st' = ⟨(upd (upd (upd (upd (upd (upd (upd (upd anyF 0 (.own 0 0 a0.length)) 1 (.val (.int .i64 a1))) 2 (.val (.int .i64 a2))) 3 (.val (.int .i64 a3))) 4 (.clo (.func 31) [] [])) 18 (.val (.int .i64 (IntKind.i64.wrap (shrV .u64 (IntKind.u64.wrap (IntKind.i64.wrap (a1 + a3))) 1))))) 19 (.val (.int .i64 (IntKind.i64.wrap ((IntKind.i64.wrap (shrV .u64 (IntKind.u64.wrap (IntKind.i64.wrap (a1 + a3))) 1)) + a2))))) 20 (.val (.int .i64 z))), hpL [some (.row 3 true (List.map encItem a0))] [], 8⟩) hy221 ?_ ?_ ?_
    ·refine Ent.can [] _ _ _ rfl (by first | decide | simp) rfl ?_ ?_ ?_
     · exact ((((((((((RF.any.po (by decide) (by first | rfl | simp [upd_ap, hpL_ap, tau, mapT, mapTL, bytesI_len, eq_false c42, eq_false c135])).pv (by first | rfl | simp only [go_sem]) (by first | rfl | simp [upd_ap, hpL_ap, tau, mapT, mapTL, bytesI_len, eq_false c42, eq_false c135])).pv (by first | rfl | simp only [go_sem]) (by first | rfl | simp [upd_ap, hpL_ap, tau, mapT, mapTL, bytesI_len, eq_false c42, eq_false c135])).pv (by first | rfl | simp only [go_sem]) (by first | rfl | simp [upd_ap, hpL_ap, tau, mapT, mapTL, bytesI_len, eq_false c42, eq_false c135])).put (by first | (simp [tokL, tokLL, inlR]; done) | simp [go_sem, tokL, tokLL]) (.of (by first | rfl | simp [upd_ap, hpL_ap, tau, mapT, mapTL, bytesI_len, eq_false c42, eq_false c135]))).pv (by first | rfl | simp only [go_sem]) (by first | rfl | simp [upd_ap, hpL_ap, tau, mapT, mapTL, bytesI_len, eq_false c42, eq_false c135])).pv (by first | rfl | simp only [go_sem]) (by first | rfl | simp [upd_ap, hpL_ap, tau, mapT, mapTL, bytesI_len, eq_false c42, eq_false c135])).pv (by first | rfl | simp only [go_sem]) (by first | rfl | simp [upd_ap, hpL_ap, tau, mapT, mapTL, bytesI_len, eq_false c42, eq_false c135])).pv (by first | rfl | simp only [go_sem]) (by first | rfl | simp [upd_ap, hpL_ap, tau, mapT, mapTL, bytesI_len, eq_false c42, eq_false c135])).pv (by first | rfl | simp only [go_sem]) (by first | rfl | simp [upd_ap, hpL_ap, tau, mapT, mapTL, bytesI_len, eq_false c42, eq_false c135]))
     · exact .cons (.eq (by first | rfl | simp only [go_sem]) (by first | rfl | simp [upd_ap, hpL_ap, tau, mapT, mapTL, bytesI_len, eq_false c42, eq_false c135])) (.nil _)
     · exact .nil _
    ·clear h hy221
     rintro ⟨s14_0, s14_1⟩ x h
     rw [f50_31_s14] at h
     refine AW.seq ?_
     refine AW.regL [0, 1, 2, 3, 4, 18, 19, 20, 21, 22, 151] ?_
     generalize hK : AW Try.prog _ _ _ = K
     simp only [go_sem, ↓reduceIte, reduceCtorEq, Nat.reduceAdd, Nat.reduceSub, Nat.reduceMul, Nat.reduceEqDiff, Nat.reduceLT, Nat.reduceLeDiff, Nat.reduceBEq, Int.reduceAdd, Int.reduceSub, Int.reduceLT, Int.reduceLE, Int.reduceEq, Int.reduceToNat, eq_false c42, eq_false c135]
     subst hK
     by_cases c215 : s14_1 < s14_0
     ·rw [if_pos c215] at h
      refine AW.ifT rfl c215 ?_
      refine AW.skip ?_
      refine thenA_n ?_
      refine AW.block ?_
      refine AW.regL [0, 1, 2, 3, 4, 18, 19, 20, 21, 22, 23] ?_
      generalize hK : AW Try.prog _ _ _ = K
      simp only [go_sem, ↓reduceIte, reduceCtorEq, Nat.reduceAdd, Nat.reduceSub, Nat.reduceMul, Nat.reduceEqDiff, Nat.reduceLT, Nat.reduceLeDiff, Nat.reduceBEq, Int.reduceAdd, Int.reduceSub, Int.reduceLT, Int.reduceLE, Int.reduceEq, Int.reduceToNat, eq_false c42, eq_false c135, eq_true c215]
      subst hK
      obtain ⟨x216, hx216, h⟩ := Option.bind_eq_some_iff.1 h
      obtain ⟨hx216a, hx216b⟩ := ix_some.1 hx216
      obtain ⟨x217, hx217, h⟩ := Option.bind_eq_some_iff.1 h
      obtain ⟨hx217a, hx217b⟩ := ix_some.1 hx217
      obtain ⟨x218, hx218, h⟩ := Option.bind_eq_some_iff.1 h
      refine AW.regdL [0, 1, 2, 3, 4, 18, 19, 20, 21, 22, 23, 171] [[], [], [], [], [2, 3], [1, 2, 3, 4], [1, 2, 3, 4, 5], [], [], [7, 8], [7, 8, 9], [0, 1, 2, 3, 4, 5, 6, 7, 8, 9, 10], [0, 1, 2, 3, 4, 5, 6, 7, 8, 9, 10, 11], [0, 1, 2, 3, 4, 5, 6, 7, 8, 9, 10, 11, 12]] [0, 1, 2, 3, 4, 5, 6, 7, 8, 9, 10, 11, 12, 13] noFt (fun _ _ _ h => by simp [noFt] at h) draws (by kernel_rfl) (by kernel_rfl) ?_
      generalize hK : AW Try.prog _ _ _ = K
      simp only [go_sem, ↓reduceIte, reduceCtorEq, Nat.reduceAdd, Nat.reduceSub, Nat.reduceMul, Nat.reduceEqDiff, Nat.reduceLT, Nat.reduceLeDiff, Nat.reduceBEq, Int.reduceAdd, Int.reduceSub, Int.reduceLT, Int.reduceLE, Int.reduceEq, Int.reduceToNat, eq_false c42, eq_false c135, eq_true c215, natOf_le hx216a, hx216b, ix_lt hx216b, natOf_le hx217a, hx217b, ix_lt hx217b]
      refine adN.pc (ok31 x216 x217 x218 hx218) Try.call31 (callV_tmp (by simp only [upd_ap, Nat.reduceEqDiff, if_true, if_false, ↓reduceIte]; rfl)) (by simp only [go_sem, ↓reduceIte, reduceCtorEq, Nat.reduceAdd, Nat.reduceSub, Nat.reduceMul, Nat.reduceEqDiff, Nat.reduceLT, Nat.reduceLeDiff, Nat.reduceBEq, Int.reduceAdd, Int.reduceSub, Int.reduceLT, Int.reduceLE, Int.reduceEq, Int.reduceToNat, List.nil_append, List.append_nil, eq_false c42, eq_false c135, eq_true c215, natOf_le hx216a, hx216b, ix_lt hx216b, natOf_le hx217a, hx217b, ix_lt hx217b]) (by simp only [go_sem, ↓reduceIte, reduceCtorEq, Nat.reduceAdd, Nat.reduceSub, Nat.reduceMul, Nat.reduceEqDiff, Nat.reduceLT, Nat.reduceLeDiff, Nat.reduceBEq, Int.reduceAdd, Int.reduceSub, Int.reduceLT, Int.reduceLE, Int.reduceEq, Int.reduceToNat]) ?_
      simp only [go_sem, ↓reduceIte, reduceCtorEq, Nat.reduceAdd, Nat.reduceSub, Nat.reduceMul, Nat.reduceEqDiff, Nat.reduceLT, Nat.reduceLeDiff, Nat.reduceBEq, Int.reduceAdd, Int.reduceSub, Int.reduceLT, Int.reduceLE, Int.reduceEq, Int.reduceToNat, eq_false c42, eq_false c135, eq_true c215, natOf_le hx216a, hx216b, ix_lt hx216b, natOf_le hx217a, hx217b, ix_lt hx217b]
      subst hK
      by_cases c219 : x218 < 0
      ·rw [if_pos c219] at h
       refine AW.ifNF rfl c219 ?_
       refine AW.regionL [0, 1, 2, 3, 4, 18, 19, 20, 21, 22] ?_
       generalize hK : inBlockA _ _ Exit.normal = K
       simp only [go_sem, ↓reduceIte, reduceCtorEq, Nat.reduceAdd, Nat.reduceSub, Nat.reduceMul, Nat.reduceEqDiff, Nat.reduceLT, Nat.reduceLeDiff, Nat.reduceBEq, Int.reduceAdd, Int.reduceSub, Int.reduceLT, Int.reduceLE, Int.reduceEq, Int.reduceToNat, eq_false c42, eq_false c135, eq_true c215, eq_true c219]
       subst hK
       refine block_n ?_
       refine thenA_n ?_
       refine ⟨_, (Option.some.inj h).symm, ?_⟩
       refine Ent.can [] _ _ _ rfl (by first | decide | simp) rfl ?_ ?_ ?_
       · exact ((((((((((RF.any.po (by decide) (by first | rfl | simp [upd_ap, hpL_ap, tau, mapT, mapTL, bytesI_len, eq_false c42, eq_false c135, eq_true c215, eq_true c219])).pv (by first | rfl | simp only [go_sem]) (by first | rfl | simp [upd_ap, hpL_ap, tau, mapT, mapTL, bytesI_len, eq_false c42, eq_false c135, eq_true c215, eq_true c219])).pv (by first | rfl | simp only [go_sem]) (by first | rfl | simp [upd_ap, hpL_ap, tau, mapT, mapTL, bytesI_len, eq_false c42, eq_false c135, eq_true c215, eq_true c219])).pv (by first | rfl | simp only [go_sem]) (by first | rfl | simp [upd_ap, hpL_ap, tau, mapT, mapTL, bytesI_len, eq_false c42, eq_false c135, eq_true c215, eq_true c219])).put (by first | (simp [tokL, tokLL, inlR]; done) | simp [go_sem, tokL, tokLL]) (.of (by first | rfl | simp [upd_ap, hpL_ap, tau, mapT, mapTL, bytesI_len, eq_false c42, eq_false c135, eq_true c215, eq_true c219]))).pv (by first | rfl | simp only [go_sem]) (by first | rfl | simp [upd_ap, hpL_ap, tau, mapT, mapTL, bytesI_len, eq_false c42, eq_false c135, eq_true c215, eq_true c219])).pv (by first | rfl | simp only [go_sem]) (by first | rfl | simp [upd_ap, hpL_ap, tau, mapT, mapTL, bytesI_len, eq_false c42, eq_false c135, eq_true c215, eq_true c219])).pv (by first | rfl | simp only [go_sem]) (by first | rfl | simp [upd_ap, hpL_ap, tau, mapT, mapTL, bytesI_len, eq_false c42, eq_false c135, eq_true c215, eq_true c219])).pv (by first | rfl | simp only [go_sem]) (by first | rfl | simp [upd_ap, hpL_ap, tau, mapT, mapTL, bytesI_len, eq_false c42, eq_false c135, eq_true c215, eq_true c219])).pv (by first | rfl | simp only [go_sem]) (by first | rfl | simp [upd_ap, hpL_ap, tau, mapT, mapTL, bytesI_len, eq_false c42, eq_false c135, eq_true c215, eq_true c219]))
       · exact .cons (.eq (by first | rfl | simp only [go_sem]) (by first | rfl | simp [upd_ap, hpL_ap, tau, mapT, mapTL, bytesI_len, eq_false c42, eq_false c135, eq_true c215, eq_true c219])) (.nil _)
       · exact .nil _
      ·rw [if_neg c219] at h
       refine AW.ifNT rfl c219 ?_
       refine AW.regionL [0, 1, 2, 3, 4, 18, 19, 20, 21, 22] ?_
       generalize hK : inBlockA _ _ Exit.normal = K
       simp only [go_sem, ↓reduceIte, reduceCtorEq, Nat.reduceAdd, Nat.reduceSub, Nat.reduceMul, Nat.reduceEqDiff, Nat.reduceLT, Nat.reduceLeDiff, Nat.reduceBEq, Int.reduceAdd, Int.reduceSub, Int.reduceLT, Int.reduceLE, Int.reduceEq, Int.reduceToNat, eq_false c42, eq_false c135, eq_true c215, eq_false c219]
       subst hK
       refine block_n ?_
       refine thenA_n ?_
       refine ⟨_, (Option.some.inj h).symm, ?_⟩
       refine Ent.can [] _ _ _ rfl (by first | decide | simp) rfl ?_ ?_ ?_
       · exact ((((((((((RF.any.po (by decide) (by first | rfl | simp [upd_ap, hpL_ap, tau, mapT, mapTL, bytesI_len, eq_false c42, eq_false c135, eq_true c215, eq_false c219])).pv (by first | rfl | simp only [go_sem]) (by first | rfl | simp [upd_ap, hpL_ap, tau, mapT, mapTL, bytesI_len, eq_false c42, eq_false c135, eq_true c215, eq_false c219])).pv (by first | rfl | simp only [go_sem]) (by first | rfl | simp [upd_ap, hpL_ap, tau, mapT, mapTL, bytesI_len, eq_false c42, eq_false c135, eq_true c215, eq_false c219])).pv (by first | rfl | simp only [go_sem]) (by first | rfl | simp [upd_ap, hpL_ap, tau, mapT, mapTL, bytesI_len, eq_false c42, eq_false c135, eq_true c215, eq_false c219])).put (by first | (simp [tokL, tokLL, inlR]; done) | simp [go_sem, tokL, tokLL]) (.of (by first | rfl | simp [upd_ap, hpL_ap, tau, mapT, mapTL, bytesI_len, eq_false c42, eq_false c135, eq_true c215, eq_false c219]))).pv (by first | rfl | simp only [go_sem]) (by first | rfl | simp [upd_ap, hpL_ap, tau, mapT, mapTL, bytesI_len, eq_false c42, eq_false c135, eq_true c215, eq_false c219])).pv (by first | rfl | simp only [go_sem]) (by first | rfl | simp [upd_ap, hpL_ap, tau, mapT, mapTL, bytesI_len, eq_false c42, eq_false c135, eq_true c215, eq_false c219])).pv (by first | rfl | simp only [go_sem]) (by first | rfl | simp [upd_ap, hpL_ap, tau, mapT, mapTL, bytesI_len, eq_false c42, eq_false c135, eq_true c215, eq_false c219])).pv (by first | rfl | simp only [go_sem]) (by first | rfl | simp [upd_ap, hpL_ap, tau, mapT, mapTL, bytesI_len, eq_false c42, eq_false c135, eq_true c215, eq_false c219])).pv (by first | rfl | simp only [go_sem]) (by first | rfl | simp [upd_ap, hpL_ap, tau, mapT, mapTL, bytesI_len, eq_false c42, eq_false c135, eq_true c215, eq_false c219]))
       · exact .cons (.eq (by first | rfl | simp only [go_sem]) (by first | rfl | simp [upd_ap, hpL_ap, tau, mapT, mapTL, bytesI_len, eq_false c42, eq_false c135, eq_true c215, eq_false c219])) (.nil _)
       · exact .nil _
     ·rw [if_neg c215] at h
      refine AW.ifF rfl c215 ?_
      refine AW.exit ?_
      refine thenA_x ?_
      refine thenA_x ?_
      refine ⟨_, (Option.some.inj h).symm, _, ?_, rfl, rfl⟩
      refine Ent.can [] _ _ _ rfl (by first | decide | simp) rfl ?_ ?_ ?_
      · exact ((((((((RF.any.po (by decide) (by first | rfl | simp [upd_ap, hpL_ap, tau, mapT, mapTL, bytesI_len, eq_false c42, eq_false c135, eq_false c215])).pv (by first | rfl | simp only [go_sem]) (by first | rfl | simp [upd_ap, hpL_ap, tau, mapT, mapTL, bytesI_len, eq_false c42, eq_false c135, eq_false c215])).pv (by first | rfl | simp only [go_sem]) (by first | rfl | simp [upd_ap, hpL_ap, tau, mapT, mapTL, bytesI_len, eq_false c42, eq_false c135, eq_false c215])).pv (by first | rfl | simp only [go_sem]) (by first | rfl | simp [upd_ap, hpL_ap, tau, mapT, mapTL, bytesI_len, eq_false c42, eq_false c135, eq_false c215])).put (by first | (simp [tokL, tokLL, inlR]; done) | simp [go_sem, tokL, tokLL]) (.of (by first | rfl | simp [upd_ap, hpL_ap, tau, mapT, mapTL, bytesI_len, eq_false c42, eq_false c135, eq_false c215]))).pv (by first | rfl | simp only [go_sem]) (by first | rfl | simp [upd_ap, hpL_ap, tau, mapT, mapTL, bytesI_len, eq_false c42, eq_false c135, eq_false c215])).pv (by first | rfl | simp only [go_sem]) (by first | rfl | simp [upd_ap, hpL_ap, tau, mapT, mapTL, bytesI_len, eq_false c42, eq_false c135, eq_false c215])).pv (by first | rfl | simp only [go_sem]) (by first | rfl | simp [upd_ap, hpL_ap, tau, mapT, mapTL, bytesI_len, eq_false c42, eq_false c135, eq_false c215]))
      · exact .cons (.eq (by first | rfl | simp only [go_sem]) (by first | rfl | simp [upd_ap, hpL_ap, tau, mapT, mapTL, bytesI_len, eq_false c42, eq_false c135, eq_false c215])) (.nil _)
      · exact .nil _
    ·intro e st' hX
     try dsimp only at h
     try dsimp only at hX
     obtain ⟨rfl, rfl⟩ := hX
     refine ⟨_, Ent.refl, ?_⟩
     refine block_x ?_
     refine thenA_n ?_
     refine AW.regL [0, 1, 2, 3, 4, 18, 20, 24] ?_
     generalize hK : AW Try.prog _ _ _ = K
     simp only [go_sem, ↓reduceIte, reduceCtorEq, Nat.reduceAdd, Nat.reduceSub, Nat.reduceMul, Nat.reduceEqDiff, Nat.reduceLT, Nat.reduceLeDiff, Nat.reduceBEq, Int.reduceAdd, Int.reduceSub, Int.reduceLT, Int.reduceLE, Int.reduceEq, Int.reduceToNat, eq_false c42, eq_false c135]
     subst hK
     refine AW.join (fun s => ⟨(upd (upd (upd (upd (upd (upd (upd anyF 0 (.own 0 0 s.length)) 1 (.val (.int .i64 a1))) 3 (.val (.int .i64 a3))) 4 (.clo (.func 31) [] [])) 18 (.val (.int .i64 (IntKind.i64.wrap (shrV .u64 (IntKind.u64.wrap (IntKind.i64.wrap (a1 + a3))) 1))))) 20 (.val (.int .i64 y221))) 24 (.val (.int .i64 (IntKind.i64.wrap ((IntKind.i64.wrap ((IntKind.i64.wrap (shrV .u64 (IntKind.u64.wrap (IntKind.i64.wrap (a1 + a3))) 1)) + a2)) - y221))))), hpL [some (.row 3 true (List.map encItem s))] [], 8⟩) (fun s => f50_31_j2 a1 a2 a3 rec50 y221 s = some r) ?_ ?_
     ·by_cases c238 : y221 < a2
      ·rw [if_pos c238] at h
       refine AW.regL [0, 1, 2, 3, 4, 18, 20, 24, 185] ?_
       generalize hK : AW Try.prog _ _ _ = K
       simp only [go_sem, ↓reduceIte, reduceCtorEq, Nat.reduceAdd, Nat.reduceSub, Nat.reduceMul, Nat.reduceEqDiff, Nat.reduceLT, Nat.reduceLeDiff, Nat.reduceBEq, Int.reduceAdd, Int.reduceSub, Int.reduceLT, Int.reduceLE, Int.reduceEq, Int.reduceToNat, eq_false c42, eq_false c135, eq_true c238]
       subst hK
       by_cases c239 : a2 < (IntKind.i64.wrap ((IntKind.i64.wrap ((IntKind.i64.wrap (shrV .u64 (IntKind.u64.wrap (IntKind.i64.wrap (a1 + a3))) 1)) + a2)) - y221))
       ·rw [if_pos c239] at h
        refine AW.ifT rfl c239 ?_
        obtain ⟨x240, hx240, h⟩ := Option.bind_eq_some_iff.1 h
        obtain ⟨x241, hx241, h⟩ := Option.bind_eq_some_iff.1 h
        have lenhx240 : x240.length = a0.length := guardO_some.1 hx241
        refine AW.regionL [0, 1, 3, 4, 18, 20, 24] ?_
        generalize hK : thenA _ _ Exit.normal = K
        simp only [go_sem, ↓reduceIte, reduceCtorEq, Nat.reduceAdd, Nat.reduceSub, Nat.reduceMul, Nat.reduceEqDiff, Nat.reduceLT, Nat.reduceLeDiff, Nat.reduceBEq, Int.reduceAdd, Int.reduceSub, Int.reduceLT, Int.reduceLE, Int.reduceEq, Int.reduceToNat, eq_false c42, eq_false c135, eq_true c238, eq_true c239, lenhx240]
        refine arC.ok (CallOk.ic (us' := _) (ok57_31 a0 y221 a2 (IntKind.i64.wrap ((IntKind.i64.wrap ((IntKind.i64.wrap (shrV .u64 (IntKind.u64.wrap (IntKind.i64.wrap (a1 + a3))) 1)) + a2)) - y221)) x240 hx240) [0] rfl (by decide) (by simp) (by simp) (by simp) (by simp) (.cons (.eq (by simp only [go_sem]) (by first | rfl | simp [upd_ap, hpL_ap, sg_ap])) (.nil _)) (by simp only [mapTL_cons, mapTL_nil, mapT_ptr, mapT_own, mapT_val, mapT_sl, mapT_agg, mapT_ip, mapT_clo, sg_ap, List.getD_cons_zero, List.getD_cons_succ]; exact (.cons (.of (by first | rfl | simp [mapT_own, sg_ap, eq_false c42, eq_false c135, eq_true c238, eq_true c239])) (.cons (.of rfl) (.cons (.of rfl) (.cons (.of rfl) (.cons (.of rfl) .nil)))))) (by simp only [go_sem, List.length_cons, List.length_nil, Nat.reduceAdd, Nat.reduceLT, decide_true]) (by simp [AObj.isMut]) (by simp [go_sem]) (by simp [go_sem])) Try.call57 ?_
        simp only [go_sem, ↓reduceIte, reduceCtorEq, Nat.reduceAdd, Nat.reduceSub, Nat.reduceMul, Nat.reduceEqDiff, Nat.reduceLT, Nat.reduceLeDiff, Nat.reduceBEq, Int.reduceAdd, Int.reduceSub, Int.reduceLT, Int.reduceLE, Int.reduceEq, Int.reduceToNat, eq_false c42, eq_false c135, eq_true c238, eq_true c239, lenhx240]
        subst hK
        refine thenA_n ?_
        refine ⟨_, h, ?_⟩
        refine Ent.can [] _ _ _ rfl (by first | decide | simp) rfl ?_ ?_ ?_
        · exact (((((((RF.any.po (by decide) (by first | rfl | simp [upd_ap, hpL_ap, tau, mapT, mapTL, bytesI_len, eq_false c42, eq_false c135, eq_true c238, eq_true c239, lenhx240])).pv (by first | rfl | simp only [go_sem]) (by first | rfl | simp [upd_ap, hpL_ap, tau, mapT, mapTL, bytesI_len, eq_false c42, eq_false c135, eq_true c238, eq_true c239, lenhx240])).pv (by first | rfl | simp only [go_sem]) (by first | rfl | simp [upd_ap, hpL_ap, tau, mapT, mapTL, bytesI_len, eq_false c42, eq_false c135, eq_true c238, eq_true c239, lenhx240])).put (by first | (simp [tokL, tokLL, inlR]; done) | simp [go_sem, tokL, tokLL]) (.of (by first | rfl | simp [upd_ap, hpL_ap, tau, mapT, mapTL, bytesI_len, eq_false c42, eq_false c135, eq_true c238, eq_true c239, lenhx240]))).pv (by first | rfl | simp only [go_sem]) (by first | rfl | simp [upd_ap, hpL_ap, tau, mapT, mapTL, bytesI_len, eq_false c42, eq_false c135, eq_true c238, eq_true c239, lenhx240])).pv (by first | rfl | simp only [go_sem]) (by first | rfl | simp [upd_ap, hpL_ap, tau, mapT, mapTL, bytesI_len, eq_false c42, eq_false c135, eq_true c238, eq_true c239, lenhx240])).pv (by first | rfl | simp only [go_sem]) (by first | rfl | simp [upd_ap, hpL_ap, tau, mapT, mapTL, bytesI_len, eq_false c42, eq_false c135, eq_true c238, eq_true c239, lenhx240]))
        · exact .cons (.eq (by first | rfl | simp only [go_sem]) (by first | rfl | simp [upd_ap, hpL_ap, tau, mapT, mapTL, bytesI_len, eq_false c42, eq_false c135, eq_true c238, eq_true c239, lenhx240])) (.nil _)
        · exact .nil _
       ·rw [if_neg c239] at h
        refine AW.ifF rfl c239 ?_
        refine AW.skip ?_
        refine thenA_n ?_
        refine ⟨_, h, ?_⟩
        refine Ent.can [] _ _ _ rfl (by first | decide | simp) rfl ?_ ?_ ?_
        · exact (((((((RF.any.po (by decide) (by first | rfl | simp [upd_ap, hpL_ap, tau, mapT, mapTL, bytesI_len, eq_false c42, eq_false c135, eq_true c238, eq_false c239])).pv (by first | rfl | simp only [go_sem]) (by first | rfl | simp [upd_ap, hpL_ap, tau, mapT, mapTL, bytesI_len, eq_false c42, eq_false c135, eq_true c238, eq_false c239])).pv (by first | rfl | simp only [go_sem]) (by first | rfl | simp [upd_ap, hpL_ap, tau, mapT, mapTL, bytesI_len, eq_false c42, eq_false c135, eq_true c238, eq_false c239])).put (by first | (simp [tokL, tokLL, inlR]; done) | simp [go_sem, tokL, tokLL]) (.of (by first | rfl | simp [upd_ap, hpL_ap, tau, mapT, mapTL, bytesI_len, eq_false c42, eq_false c135, eq_true c238, eq_false c239]))).pv (by first | rfl | simp only [go_sem]) (by first | rfl | simp [upd_ap, hpL_ap, tau, mapT, mapTL, bytesI_len, eq_false c42, eq_false c135, eq_true c238, eq_false c239])).pv (by first | rfl | simp only [go_sem]) (by first | rfl | simp [upd_ap, hpL_ap, tau, mapT, mapTL, bytesI_len, eq_false c42, eq_false c135, eq_true c238, eq_false c239])).pv (by first | rfl | simp only [go_sem]) (by first | rfl | simp [upd_ap, hpL_ap, tau, mapT, mapTL, bytesI_len, eq_false c42, eq_false c135, eq_true c238, eq_false c239]))
        · exact .cons (.eq (by first | rfl | simp only [go_sem]) (by first | rfl | simp [upd_ap, hpL_ap, tau, mapT, mapTL, bytesI_len, eq_false c42, eq_false c135, eq_true c238, eq_false c239])) (.nil _)
        · exact .nil _
      ·rw [if_neg c238] at h
       refine AW.regL [0, 1, 2, 3, 4, 18, 20, 24, 185] ?_
       generalize hK : AW Try.prog _ _ _ = K
       simp only [go_sem, ↓reduceIte, reduceCtorEq, Nat.reduceAdd, Nat.reduceSub, Nat.reduceMul, Nat.reduceEqDiff, Nat.reduceLT, Nat.reduceLeDiff, Nat.reduceBEq, Int.reduceAdd, Int.reduceSub, Int.reduceLT, Int.reduceLE, Int.reduceEq, Int.reduceToNat, eq_false c42, eq_false c135, eq_false c238]
       subst hK
       refine AW.ifBF rfl rfl ?_
       refine AW.skip ?_
       refine thenA_n ?_
       refine ⟨_, h, ?_⟩
       refine Ent.can [] _ _ _ rfl (by first | decide | simp) rfl ?_ ?_ ?_
       · exact (((((((RF.any.po (by decide) (by first | rfl | simp [upd_ap, hpL_ap, tau, mapT, mapTL, bytesI_len, eq_false c42, eq_false c135, eq_false c238])).pv (by first | rfl | simp only [go_sem]) (by first | rfl | simp [upd_ap, hpL_ap, tau, mapT, mapTL, bytesI_len, eq_false c42, eq_false c135, eq_false c238])).pv (by first | rfl | simp only [go_sem]) (by first | rfl | simp [upd_ap, hpL_ap, tau, mapT, mapTL, bytesI_len, eq_false c42, eq_false c135, eq_false c238])).put (by first | (simp [tokL, tokLL, inlR]; done) | simp [go_sem, tokL, tokLL]) (.of (by first | rfl | simp [upd_ap, hpL_ap, tau, mapT, mapTL, bytesI_len, eq_false c42, eq_false c135, eq_false c238]))).pv (by first | rfl | simp only [go_sem]) (by first | rfl | simp [upd_ap, hpL_ap, tau, mapT, mapTL, bytesI_len, eq_false c42, eq_false c135, eq_false c238])).pv (by first | rfl | simp only [go_sem]) (by first | rfl | simp [upd_ap, hpL_ap, tau, mapT, mapTL, bytesI_len, eq_false c42, eq_false c135, eq_false c238])).pv (by first | rfl | simp only [go_sem]) (by first | rfl | simp [upd_ap, hpL_ap, tau, mapT, mapTL, bytesI_len, eq_false c42, eq_false c135, eq_false c238]))
       · exact .cons (.eq (by first | rfl | simp only [go_sem]) (by first | rfl | simp [upd_ap, hpL_ap, tau, mapT, mapTL, bytesI_len, eq_false c42, eq_false c135, eq_false c238])) (.nil _)
       · exact .nil _
     ·clear h
      rintro j2_0 h
      rw [f50_31_j2] at h
      refine AW.join (fun s => ⟨(upd (upd (upd (upd (upd anyF 0 (.own 0 0 s.length)) 3 (.val (.int .i64 a3))) 4 (.clo (.func 31) [] [])) 18 (.val (.int .i64 (IntKind.i64.wrap (shrV .u64 (IntKind.u64.wrap (IntKind.i64.wrap (a1 + a3))) 1))))) 24 (.val (.int .i64 (IntKind.i64.wrap ((IntKind.i64.wrap ((IntKind.i64.wrap (shrV .u64 (IntKind.u64.wrap (IntKind.i64.wrap (a1 + a3))) 1)) + a2)) - y221))))), hpL [some (.row 3 true (List.map encItem s))] [], 8⟩) (fun s => f50_31_j3 a1 a2 a3 rec50 y221 s = some r) ?_ ?_
      ·by_cases c234 : a1 < y221
       ·rw [if_pos c234] at h
        refine AW.regL [0, 1, 3, 4, 18, 20, 24, 199] ?_
        generalize hK : AW Try.prog _ _ _ = K
        simp only [go_sem, ↓reduceIte, reduceCtorEq, Nat.reduceAdd, Nat.reduceSub, Nat.reduceMul, Nat.reduceEqDiff, Nat.reduceLT, Nat.reduceLeDiff, Nat.reduceBEq, Int.reduceAdd, Int.reduceSub, Int.reduceLT, Int.reduceLE, Int.reduceEq, Int.reduceToNat, eq_false c42, eq_false c135, eq_true c234]
        subst hK
        by_cases c235 : y221 < (IntKind.i64.wrap (shrV .u64 (IntKind.u64.wrap (IntKind.i64.wrap (a1 + a3))) 1))
        ·rw [if_pos c235] at h
         refine AW.ifT rfl c235 ?_
         obtain ⟨x236, hx236, h⟩ := Option.bind_eq_some_iff.1 h
         obtain ⟨x237, hx237, h⟩ := Option.bind_eq_some_iff.1 h
         have lenhx236 : x236.length = j2_0.length := guardO_some.1 hx237
         refine AW.regionL [0, 3, 4, 18, 24] ?_
         generalize hK : thenA _ _ Exit.normal = K
         simp only [go_sem, ↓reduceIte, reduceCtorEq, Nat.reduceAdd, Nat.reduceSub, Nat.reduceMul, Nat.reduceEqDiff, Nat.reduceLT, Nat.reduceLeDiff, Nat.reduceBEq, Int.reduceAdd, Int.reduceSub, Int.reduceLT, Int.reduceLE, Int.reduceEq, Int.reduceToNat, eq_false c42, eq_false c135, eq_true c234, eq_true c235, lenhx236]
         refine arC.ok (CallOk.ic (us' := _) (hrec50 j2_0 a1 y221 (IntKind.i64.wrap (shrV .u64 (IntKind.u64.wrap (IntKind.i64.wrap (a1 + a3))) 1)) x236 hx236) [0] rfl (by decide) (by simp) (by simp) (by simp) (by simp) (.cons (.eq (by simp only [go_sem]) (by first | rfl | simp [upd_ap, hpL_ap, sg_ap])) (.nil _)) (by simp only [mapTL_cons, mapTL_nil, mapT_ptr, mapT_own, mapT_val, mapT_sl, mapT_agg, mapT_ip, mapT_clo, sg_ap, List.getD_cons_zero, List.getD_cons_succ]; exact (.cons (.of (by first | rfl | simp [mapT_own, sg_ap, eq_false c42, eq_false c135, eq_true c234, eq_true c235])) (.cons (.of rfl) (.cons (.of rfl) (.cons (.of rfl) (.cons (.of rfl) .nil)))))) (by simp only [go_sem, List.length_cons, List.length_nil, Nat.reduceAdd, Nat.reduceLT, decide_true]) (by simp [AObj.isMut]) (by simp [go_sem]) (by simp [go_sem])) Try.call50 ?_
         simp only [go_sem, ↓reduceIte, reduceCtorEq, Nat.reduceAdd, Nat.reduceSub, Nat.reduceMul, Nat.reduceEqDiff, Nat.reduceLT, Nat.reduceLeDiff, Nat.reduceBEq, Int.reduceAdd, Int.reduceSub, Int.reduceLT, Int.reduceLE, Int.reduceEq, Int.reduceToNat, eq_false c42, eq_false c135, eq_true c234, eq_true c235, lenhx236]
         subst hK
         refine thenA_n ?_
         refine ⟨_, h, ?_⟩
         refine Ent.can [] _ _ _ rfl (by first | decide | simp) rfl ?_ ?_ ?_
         · exact (((((RF.any.po (by decide) (by first | rfl | simp [upd_ap, hpL_ap, tau, mapT, mapTL, bytesI_len, eq_false c42, eq_false c135, eq_true c234, eq_true c235, lenhx236])).pv (by first | rfl | simp only [go_sem]) (by first | rfl | simp [upd_ap, hpL_ap, tau, mapT, mapTL, bytesI_len, eq_false c42, eq_false c135, eq_true c234, eq_true c235, lenhx236])).put (by first | (simp [tokL, tokLL, inlR]; done) | simp [go_sem, tokL, tokLL]) (.of (by first | rfl | simp [upd_ap, hpL_ap, tau, mapT, mapTL, bytesI_len, eq_false c42, eq_false c135, eq_true c234, eq_true c235, lenhx236]))).pv (by first | rfl | simp only [go_sem]) (by first | rfl | simp [upd_ap, hpL_ap, tau, mapT, mapTL, bytesI_len, eq_false c42, eq_false c135, eq_true c234, eq_true c235, lenhx236])).pv (by first | rfl | simp only [go_sem]) (by first | rfl | simp [upd_ap, hpL_ap, tau, mapT, mapTL, bytesI_len, eq_false c42, eq_false c135, eq_true c234, eq_true c235, lenhx236]))
         · exact .cons (.eq (by first | rfl | simp only [go_sem]) (by first | rfl | simp [upd_ap, hpL_ap, tau, mapT, mapTL, bytesI_len, eq_false c42, eq_false c135, eq_true c234, eq_true c235, lenhx236])) (.nil _)
         · exact .nil _
        ·rw [if_neg c235] at h
         refine AW.ifF rfl c235 ?_
         refine AW.skip ?_
         refine thenA_n ?_
         refine ⟨_, h, ?_⟩
         refine Ent.can [] _ _ _ rfl (by first | decide | simp) rfl ?_ ?_ ?_
         · exact (((((RF.any.po (by decide) (by first | rfl | simp [upd_ap, hpL_ap, tau, mapT, mapTL, bytesI_len, eq_false c42, eq_false c135, eq_true c234, eq_false c235])).pv (by first | rfl | simp only [go_sem]) (by first | rfl | simp [upd_ap, hpL_ap, tau, mapT, mapTL, bytesI_len, eq_false c42, eq_false c135, eq_true c234, eq_false c235])).put (by first | (simp [tokL, tokLL, inlR]; done) | simp [go_sem, tokL, tokLL]) (.of (by first | rfl | simp [upd_ap, hpL_ap, tau, mapT, mapTL, bytesI_len, eq_false c42, eq_false c135, eq_true c234, eq_false c235]))).pv (by first | rfl | simp only [go_sem]) (by first | rfl | simp [upd_ap, hpL_ap, tau, mapT, mapTL, bytesI_len, eq_false c42, eq_false c135, eq_true c234, eq_false c235])).pv (by first | rfl | simp only [go_sem]) (by first | rfl | simp [upd_ap, hpL_ap, tau, mapT, mapTL, bytesI_len, eq_false c42, eq_false c135, eq_true c234, eq_false c235]))
         · exact .cons (.eq (by first | rfl | simp only [go_sem]) (by first | rfl | simp [upd_ap, hpL_ap, tau, mapT, mapTL, bytesI_len, eq_false c42, eq_false c135, eq_true c234, eq_false c235])) (.nil _)
         · exact .nil _
       ·rw [if_neg c234] at h
        refine AW.regL [0, 1, 3, 4, 18, 20, 24, 199] ?_
        generalize hK : AW Try.prog _ _ _ = K
        simp only [go_sem, ↓reduceIte, reduceCtorEq, Nat.reduceAdd, Nat.reduceSub, Nat.reduceMul, Nat.reduceEqDiff, Nat.reduceLT, Nat.reduceLeDiff, Nat.reduceBEq, Int.reduceAdd, Int.reduceSub, Int.reduceLT, Int.reduceLE, Int.reduceEq, Int.reduceToNat, eq_false c42, eq_false c135, eq_false c234]
        subst hK
        refine AW.ifBF rfl rfl ?_
        refine AW.skip ?_
        refine thenA_n ?_
        refine ⟨_, h, ?_⟩
        refine Ent.can [] _ _ _ rfl (by first | decide | simp) rfl ?_ ?_ ?_
        · exact (((((RF.any.po (by decide) (by first | rfl | simp [upd_ap, hpL_ap, tau, mapT, mapTL, bytesI_len, eq_false c42, eq_false c135, eq_false c234])).pv (by first | rfl | simp only [go_sem]) (by first | rfl | simp [upd_ap, hpL_ap, tau, mapT, mapTL, bytesI_len, eq_false c42, eq_false c135, eq_false c234])).put (by first | (simp [tokL, tokLL, inlR]; done) | simp [go_sem, tokL, tokLL]) (.of (by first | rfl | simp [upd_ap, hpL_ap, tau, mapT, mapTL, bytesI_len, eq_false c42, eq_false c135, eq_false c234]))).pv (by first | rfl | simp only [go_sem]) (by first | rfl | simp [upd_ap, hpL_ap, tau, mapT, mapTL, bytesI_len, eq_false c42, eq_false c135, eq_false c234])).pv (by first | rfl | simp only [go_sem]) (by first | rfl | simp [upd_ap, hpL_ap, tau, mapT, mapTL, bytesI_len, eq_false c42, eq_false c135, eq_false c234]))
        · exact .cons (.eq (by first | rfl | simp only [go_sem]) (by first | rfl | simp [upd_ap, hpL_ap, tau, mapT, mapTL, bytesI_len, eq_false c42, eq_false c135, eq_false c234])) (.nil _)
        · exact .nil _
      ·clear h
       rintro j3_0 h
       rw [f50_31_j3] at h
       by_cases c230 : (IntKind.i64.wrap (shrV .u64 (IntKind.u64.wrap (IntKind.i64.wrap (a1 + a3))) 1)) < (IntKind.i64.wrap ((IntKind.i64.wrap ((IntKind.i64.wrap (shrV .u64 (IntKind.u64.wrap (IntKind.i64.wrap (a1 + a3))) 1)) + a2)) - y221))
       ·rw [if_pos c230] at h
        refine AW.regL [0, 3, 4, 18, 24, 213] ?_
        generalize hK : AW Try.prog _ _ _ = K
        simp only [go_sem, ↓reduceIte, reduceCtorEq, Nat.reduceAdd, Nat.reduceSub, Nat.reduceMul, Nat.reduceEqDiff, Nat.reduceLT, Nat.reduceLeDiff, Nat.reduceBEq, Int.reduceAdd, Int.reduceSub, Int.reduceLT, Int.reduceLE, Int.reduceEq, Int.reduceToNat, eq_false c42, eq_false c135, eq_true c230]
        subst hK
        by_cases c231 : (IntKind.i64.wrap ((IntKind.i64.wrap ((IntKind.i64.wrap (shrV .u64 (IntKind.u64.wrap (IntKind.i64.wrap (a1 + a3))) 1)) + a2)) - y221)) < a3
        ·rw [if_pos c231] at h
         refine AW.ifT rfl c231 ?_
         obtain ⟨x232, hx232, h⟩ := Option.bind_eq_some_iff.1 h
         obtain ⟨x233, hx233, h⟩ := Option.bind_eq_some_iff.1 h
         have lenhx232 : x232.length = j3_0.length := guardO_some.1 hx233
         refine AW.regionL [] ?_
         generalize hK : finJ Try.prog _ _ _ _ _ Exit.normal = K
         simp only [go_sem, ↓reduceIte, reduceCtorEq, Nat.reduceAdd, Nat.reduceSub, Nat.reduceMul, Nat.reduceEqDiff, Nat.reduceLT, Nat.reduceLeDiff, Nat.reduceBEq, Int.reduceAdd, Int.reduceSub, Int.reduceLT, Int.reduceLE, Int.reduceEq, Int.reduceToNat, eq_false c42, eq_false c135, eq_true c230, eq_true c231, lenhx232]
         refine arC.ok (CallOk.ic (us' := _) (hrec50 j3_0 (IntKind.i64.wrap (shrV .u64 (IntKind.u64.wrap (IntKind.i64.wrap (a1 + a3))) 1)) (IntKind.i64.wrap ((IntKind.i64.wrap ((IntKind.i64.wrap (shrV .u64 (IntKind.u64.wrap (IntKind.i64.wrap (a1 + a3))) 1)) + a2)) - y221)) a3 x232 hx232) [0] rfl (by decide) (by simp) (by simp) (by simp) (by simp) (.cons (.eq (by simp only [go_sem]) (by first | rfl | simp [upd_ap, hpL_ap, sg_ap])) (.nil _)) (by simp only [mapTL_cons, mapTL_nil, mapT_ptr, mapT_own, mapT_val, mapT_sl, mapT_agg, mapT_ip, mapT_clo, sg_ap, List.getD_cons_zero, List.getD_cons_succ]; exact (.cons (.of (by first | rfl | simp [mapT_own, sg_ap, eq_false c42, eq_false c135, eq_true c230, eq_true c231])) (.cons (.of rfl) (.cons (.of rfl) (.cons (.of rfl) (.cons (.of rfl) .nil)))))) (by simp only [go_sem, List.length_cons, List.length_nil, Nat.reduceAdd, Nat.reduceLT, decide_true]) (by simp [AObj.isMut]) (by simp [go_sem]) (by simp [go_sem])) Try.call50 ?_
         simp only [go_sem, ↓reduceIte, reduceCtorEq, Nat.reduceAdd, Nat.reduceSub, Nat.reduceMul, Nat.reduceEqDiff, Nat.reduceLT, Nat.reduceLeDiff, Nat.reduceBEq, Int.reduceAdd, Int.reduceSub, Int.reduceLT, Int.reduceLE, Int.reduceEq, Int.reduceToNat, eq_false c42, eq_false c135, eq_true c230, eq_true c231, lenhx232]
         subst hK
         refine ⟨⟨anyF, hpL [some (.row 3 true (List.map encItem x232))] [], 8⟩, ?_, ?_⟩
         · refine Ent.can [] _ _ _ rfl (by first | decide | simp) rfl ?_ ?_ ?_
           · exact RF.any
           · exact .cons (.eq (by first | rfl | simp only [go_sem]) (by first | rfl | simp [upd_ap, hpL_ap, tau, mapT, mapTL, bytesI_len, eq_false c42, eq_false c135, eq_true c230, eq_true c231, lenhx232])) (.nil _)
           · exact .nil _
         obtain rfl := Option.some.inj h
         exact ⟨rfl, rfl, _, rfl, by first | rfl | simp [resOf, upd_ap, bytesI_len]⟩
        ·rw [if_neg c231] at h
         refine AW.ifF rfl c231 ?_
         refine AW.skip ?_
         refine ⟨⟨anyF, hpL [some (.row 3 true (List.map encItem j3_0))] [], 8⟩, ?_, ?_⟩
         · refine Ent.can [] _ _ _ rfl (by first | decide | simp) rfl ?_ ?_ ?_
           · exact RF.any
           · exact .cons (.eq (by first | rfl | simp only [go_sem]) (by first | rfl | simp [upd_ap, hpL_ap, tau, mapT, mapTL, bytesI_len, eq_false c42, eq_false c135, eq_true c230, eq_false c231])) (.nil _)
           · exact .nil _
         obtain rfl := Option.some.inj h
         exact ⟨rfl, rfl, _, rfl, by first | rfl | simp [resOf, upd_ap, bytesI_len]⟩
       ·rw [if_neg c230] at h
        refine AW.regL [0, 3, 4, 18, 24, 213] ?_
        generalize hK : AW Try.prog _ _ _ = K
        simp only [go_sem, ↓reduceIte, reduceCtorEq, Nat.reduceAdd, Nat.reduceSub, Nat.reduceMul, Nat.reduceEqDiff, Nat.reduceLT, Nat.reduceLeDiff, Nat.reduceBEq, Int.reduceAdd, Int.reduceSub, Int.reduceLT, Int.reduceLE, Int.reduceEq, Int.reduceToNat, eq_false c42, eq_false c135, eq_false c230]
        subst hK
        refine AW.ifBF rfl rfl ?_
        refine AW.skip ?_
        refine ⟨⟨anyF, hpL [some (.row 3 true (List.map encItem j3_0))] [], 8⟩, ?_, ?_⟩
        · refine Ent.can [] _ _ _ rfl (by first | decide | simp) rfl ?_ ?_ ?_
          · exact RF.any
          · exact .cons (.eq (by first | rfl | simp only [go_sem]) (by first | rfl | simp [upd_ap, hpL_ap, tau, mapT, mapTL, bytesI_len, eq_false c42, eq_false c135, eq_false c230])) (.nil _)
          · exact .nil _
        obtain rfl := Option.some.inj h
        exact ⟨rfl, rfl, _, rfl, by first | rfl | simp [resOf, upd_ap, bytesI_len]⟩
noncomputable def f50_31 : Nat → (List Item) → Int → Int → Int → Option (List Item)
  | 0 => fun _ _ _ _ => none
  | n + 1 => fun a0 a1 a2 a3 => f50_31b (f50_31 n) a0 a1 a2 a3
theorem ok50_31 : ∀ (n : Nat) (a0 : List Item) (a1 : Int) (a2 : Int) (a3 : Int) (r : (List Item)), f50_31 n a0 a1 a2 a3 = some r → IC Try.prog 50 [some (.row 3 true (List.map encItem a0))] [.own 0 0 a0.length, .val (.int .i64 a1), .val (.int .i64 a2), .val (.int .i64 a3), .clo (.func 31) [] []] (.tup []) [some (.row 3 true (List.map encItem r))] []
  | 0, a0, a1, a2, a3, r, h => by cases h
  | n + 1, a0, a1, a2, a3, r, h => ok50_31b (f50_31 n) (ok50_31 n) a0 a1 a2 a3 r h
end Au
end Go.Proofs.Y5
