import Derived.Test.YtncdjladnpogiaaGsDS
set_option linter.all false
set_option linter.unusedVariables false
set_option linter.unusedSimpArgs false
set_option linter.all false
set_option maxRecDepth 8000
set_option maxHeartbeats 1000000
namespace Go.Proofs.Y2
open Go.Gm
namespace Au
noncomputable def f46 (a0 : Int) : Option Bool := some (!(decide (a0 = a0)))
theorem ok46 (a0 : Int) (r : Bool) (h : f46 a0 = some r) : PC Try.prog 46 [.val (.int .i64 a0)] (.val (.bool r)) := by
 rw [f46] at h
 refine pc_of8 (N := 6) (rs := [.tmp 2]) Try.func46 rfl rfl rfl (Nat.le_of_ble_eq_true rfl) ?_
 refine AW.regL [0] ?_
 generalize hK : AW Try.prog _ _ _ = K
 simp only [go_sem, ↓reduceIte, reduceCtorEq, Nat.reduceAdd, Nat.reduceSub, Nat.reduceMul, Nat.reduceEqDiff, Nat.reduceLT, Nat.reduceLeDiff]
 subst hK
 refine AW.regL [2] ?_
 generalize hK : AW Try.prog _ _ _ = K
 simp only [go_sem, ↓reduceIte, reduceCtorEq, Nat.reduceAdd, Nat.reduceSub, Nat.reduceMul, Nat.reduceEqDiff, Nat.reduceLT, Nat.reduceLeDiff]
 subst hK
 refine AW.ret ?_
 obtain rfl := Option.some.inj h
 (simp only [go_sem, ↓reduceIte, reduceCtorEq, Nat.reduceAdd, Nat.reduceSub, Nat.reduceMul, Nat.reduceEqDiff, Nat.reduceLT, Nat.reduceLeDiff, finA] <;> try simp)
end Au
end Go.Proofs.Y2

set_option linter.all false
set_option maxRecDepth 8000
set_option maxHeartbeats 1000000
namespace Go.Proofs.Y2
open Go.Gm
namespace Au
noncomputable def f34 (a0 : Int) (a1 : Int) : Option Int := ((f46 a0).bind fun x1 => ((f46 a1).bind fun x2 => (if x1 = true then (if x2 = true then some 0 else some (-1)) else (if x2 = true then some 1 else (if a0 < a1 then some (-1) else (if a1 < a0 then some 1 else some 0))))))
theorem ok34 (a0 : Int) (a1 : Int) (r : Int) (h : f34 a0 a1 = some r) : PC Try.prog 34 [.val (.int .i64 a0), .val (.int .i64 a1)] (.val (.int .i64 r)) := by
 rw [f34] at h
 refine pc_of8 (N := 20) (rs := [.tmp 4]) Try.func34 rfl rfl rfl (Nat.le_of_ble_eq_true rfl) ?_
 refine AW.regL [0, 1] ?_
 generalize hK : AW Try.prog _ _ _ = K
 simp only [go_sem, ↓reduceIte, reduceCtorEq, Nat.reduceAdd, Nat.reduceSub, Nat.reduceMul, Nat.reduceEqDiff, Nat.reduceLT, Nat.reduceLeDiff]
 subst hK
 obtain ⟨x1, hx1, h⟩ := Option.bind_eq_some_iff.1 h
 refine AW.regL [0, 1, 5] ?_
 generalize hK : AW Try.prog _ _ _ = K
 simp only [go_sem, ↓reduceIte, reduceCtorEq, Nat.reduceAdd, Nat.reduceSub, Nat.reduceMul, Nat.reduceEqDiff, Nat.reduceLT, Nat.reduceLeDiff]
 refine arC.of (ok46 a0 x1 hx1) Try.call46 ?_
 simp only [go_sem, ↓reduceIte, reduceCtorEq, Nat.reduceAdd, Nat.reduceSub, Nat.reduceMul, Nat.reduceEqDiff, Nat.reduceLT, Nat.reduceLeDiff]
 subst hK
 obtain ⟨x2, hx2, h⟩ := Option.bind_eq_some_iff.1 h
 refine AW.regL [0, 1, 5, 6] ?_
 generalize hK : AW Try.prog _ _ _ = K
 simp only [go_sem, ↓reduceIte, reduceCtorEq, Nat.reduceAdd, Nat.reduceSub, Nat.reduceMul, Nat.reduceEqDiff, Nat.reduceLT, Nat.reduceLeDiff]
 refine arC.of (ok46 a1 x2 hx2) Try.call46 ?_
 simp only [go_sem, ↓reduceIte, reduceCtorEq, Nat.reduceAdd, Nat.reduceSub, Nat.reduceMul, Nat.reduceEqDiff, Nat.reduceLT, Nat.reduceLeDiff]
 subst hK
 refine AW.seq ?_
 refine AW.regL [0, 1, 6, 11] ?_
 generalize hK : AW Try.prog _ _ _ = K
 simp only [go_sem, ↓reduceIte, reduceCtorEq, Nat.reduceAdd, Nat.reduceSub, Nat.reduceMul, Nat.reduceEqDiff, Nat.reduceLT, Nat.reduceLeDiff]
 subst hK
 by_cases c5 : x1 = true
 ·rw [if_pos c5] at h
  refine AW.ifBT rfl c5 ?_
  refine AW.seq ?_
  refine AW.regL [12] ?_
  generalize hK : AW Try.prog _ _ _ = K
  simp only [go_sem, ↓reduceIte, reduceCtorEq, Nat.reduceAdd, Nat.reduceSub, Nat.reduceMul, Nat.reduceEqDiff, Nat.reduceLT, Nat.reduceLeDiff, c5]
  subst hK
  by_cases c6 : x2 = true
  ·rw [if_pos c6] at h
   refine AW.ifBT rfl c6 ?_
   refine AW.regL [4] ?_
   generalize hK : AW Try.prog _ _ _ = K
   simp only [go_sem, ↓reduceIte, reduceCtorEq, Nat.reduceAdd, Nat.reduceSub, Nat.reduceMul, Nat.reduceEqDiff, Nat.reduceLT, Nat.reduceLeDiff, c5, c6]
   subst hK
   refine AW.ret ?_
   refine thenA_r ?_
   refine thenA_r ?_
   obtain rfl := Option.some.inj h
   (simp only [go_sem, ↓reduceIte, reduceCtorEq, Nat.reduceAdd, Nat.reduceSub, Nat.reduceMul, Nat.reduceEqDiff, Nat.reduceLT, Nat.reduceLeDiff, c5, c6, finA] <;> try simp)
  ·rw [if_neg c6] at h
   rw [Bool.not_eq_true] at c6
   refine AW.ifBF rfl c6 ?_
   refine AW.skip ?_
   refine thenA_n ?_
   refine AW.regL [4] ?_
   generalize hK : AW Try.prog _ _ _ = K
   simp only [go_sem, ↓reduceIte, reduceCtorEq, Nat.reduceAdd, Nat.reduceSub, Nat.reduceMul, Nat.reduceEqDiff, Nat.reduceLT, Nat.reduceLeDiff, c5, c6]
   subst hK
   refine AW.ret ?_
   refine thenA_r ?_
   obtain rfl := Option.some.inj h
   (simp only [go_sem, ↓reduceIte, reduceCtorEq, Nat.reduceAdd, Nat.reduceSub, Nat.reduceMul, Nat.reduceEqDiff, Nat.reduceLT, Nat.reduceLeDiff, c5, c6, finA] <;> try simp)
 ·rw [if_neg c5] at h
  rw [Bool.not_eq_true] at c5
  refine AW.ifBF rfl c5 ?_
  refine AW.skip ?_
  refine thenA_n ?_
  refine AW.seq ?_
  refine AW.regL [0, 1, 13] ?_
  generalize hK : AW Try.prog _ _ _ = K
  simp only [go_sem, ↓reduceIte, reduceCtorEq, Nat.reduceAdd, Nat.reduceSub, Nat.reduceMul, Nat.reduceEqDiff, Nat.reduceLT, Nat.reduceLeDiff, c5]
  subst hK
  by_cases c8 : x2 = true
  ·rw [if_pos c8] at h
   refine AW.ifBT rfl c8 ?_
   refine AW.regL [4] ?_
   generalize hK : AW Try.prog _ _ _ = K
   simp only [go_sem, ↓reduceIte, reduceCtorEq, Nat.reduceAdd, Nat.reduceSub, Nat.reduceMul, Nat.reduceEqDiff, Nat.reduceLT, Nat.reduceLeDiff, c5, c8]
   subst hK
   refine AW.ret ?_
   refine thenA_r ?_
   obtain rfl := Option.some.inj h
   (simp only [go_sem, ↓reduceIte, reduceCtorEq, Nat.reduceAdd, Nat.reduceSub, Nat.reduceMul, Nat.reduceEqDiff, Nat.reduceLT, Nat.reduceLeDiff, c5, c8, finA] <;> try simp)
  ·rw [if_neg c8] at h
   rw [Bool.not_eq_true] at c8
   refine AW.ifBF rfl c8 ?_
   refine AW.skip ?_
   refine thenA_n ?_
   refine AW.seq ?_
   refine AW.regL [0, 1, 16] ?_
   generalize hK : AW Try.prog _ _ _ = K
   simp only [go_sem, ↓reduceIte, reduceCtorEq, Nat.reduceAdd, Nat.reduceSub, Nat.reduceMul, Nat.reduceEqDiff, Nat.reduceLT, Nat.reduceLeDiff, c5, c8]
   subst hK
   by_cases c9 : a0 < a1
   ·rw [if_pos c9] at h
    refine AW.ifT rfl c9 ?_
    refine AW.regL [4] ?_
    generalize hK : AW Try.prog _ _ _ = K
    simp only [go_sem, ↓reduceIte, reduceCtorEq, Nat.reduceAdd, Nat.reduceSub, Nat.reduceMul, Nat.reduceEqDiff, Nat.reduceLT, Nat.reduceLeDiff, c5, c8, eq_true c9]
    subst hK
    refine AW.ret ?_
    refine thenA_r ?_
    obtain rfl := Option.some.inj h
    (simp only [go_sem, ↓reduceIte, reduceCtorEq, Nat.reduceAdd, Nat.reduceSub, Nat.reduceMul, Nat.reduceEqDiff, Nat.reduceLT, Nat.reduceLeDiff, c5, c8, eq_true c9, finA] <;> try simp)
   ·rw [if_neg c9] at h
    refine AW.ifF rfl c9 ?_
    refine AW.skip ?_
    refine thenA_n ?_
    refine AW.seq ?_
    refine AW.regL [19] ?_
    generalize hK : AW Try.prog _ _ _ = K
    simp only [go_sem, ↓reduceIte, reduceCtorEq, Nat.reduceAdd, Nat.reduceSub, Nat.reduceMul, Nat.reduceEqDiff, Nat.reduceLT, Nat.reduceLeDiff, c5, c8, eq_false c9]
    subst hK
    by_cases c10 : a1 < a0
    ·rw [if_pos c10] at h
     refine AW.ifT rfl c10 ?_
     refine AW.regL [4] ?_
     generalize hK : AW Try.prog _ _ _ = K
     simp only [go_sem, ↓reduceIte, reduceCtorEq, Nat.reduceAdd, Nat.reduceSub, Nat.reduceMul, Nat.reduceEqDiff, Nat.reduceLT, Nat.reduceLeDiff, c5, c8, eq_false c9, eq_true c10]
     subst hK
     refine AW.ret ?_
     refine thenA_r ?_
     obtain rfl := Option.some.inj h
     (simp only [go_sem, ↓reduceIte, reduceCtorEq, Nat.reduceAdd, Nat.reduceSub, Nat.reduceMul, Nat.reduceEqDiff, Nat.reduceLT, Nat.reduceLeDiff, c5, c8, eq_false c9, eq_true c10, finA] <;> try simp)
    ·rw [if_neg c10] at h
     refine AW.ifF rfl c10 ?_
     refine AW.skip ?_
     refine thenA_n ?_
     refine AW.regL [4] ?_
     generalize hK : AW Try.prog _ _ _ = K
     simp only [go_sem, ↓reduceIte, reduceCtorEq, Nat.reduceAdd, Nat.reduceSub, Nat.reduceMul, Nat.reduceEqDiff, Nat.reduceLT, Nat.reduceLeDiff, c5, c8, eq_false c9, eq_false c10]
     subst hK
     refine AW.ret ?_
     obtain rfl := Option.some.inj h
     (simp only [go_sem, ↓reduceIte, reduceCtorEq, Nat.reduceAdd, Nat.reduceSub, Nat.reduceMul, Nat.reduceEqDiff, Nat.reduceLT, Nat.reduceLeDiff, c5, c8, eq_false c9, eq_false c10, finA] <;> try simp)
end Au
end Go.Proofs.Y2

set_option linter.all false
set_option maxRecDepth 8000
set_option maxHeartbeats 1000000
namespace Go.Proofs.Y2
open Go.Gm
namespace Au
noncomputable def f21 (a0 : Ranked) (a1 : Ranked) : Option Int := ((f34 (a1.r.Offs.length : Int) (a0.r.Offs.length : Int)).bind fun x1 => some x1)
theorem ok21 (a0 : Ranked) (a1 : Ranked) (r : Int) (h : f21 a0 a1 = some r) : PC Try.prog 21 [.agg (encRanked a0), .agg (encRanked a1)] (.val (.int .i64 r)) := by
 rw [f21] at h
 refine pc_of8 (N := 14) (rs := [.tmp 4]) Try.func21 rfl rfl rfl (Nat.le_of_ble_eq_true rfl) ?_
 refine AW.regL [2, 3] ?_
 generalize hK : AW Try.prog _ _ _ = K
 simp only [go_sem, ↓reduceIte, reduceCtorEq, Nat.reduceAdd, Nat.reduceSub, Nat.reduceMul, Nat.reduceEqDiff, Nat.reduceLT, Nat.reduceLeDiff]
 subst hK
 obtain ⟨x1, hx1, h⟩ := Option.bind_eq_some_iff.1 h
 refine AW.regL [4] ?_
 generalize hK : AW Try.prog _ _ _ = K
 simp only [go_sem, ↓reduceIte, reduceCtorEq, Nat.reduceAdd, Nat.reduceSub, Nat.reduceMul, Nat.reduceEqDiff, Nat.reduceLT, Nat.reduceLeDiff]
 refine arC.of (ok34 (a1.r.Offs.length : Int) (a0.r.Offs.length : Int) x1 hx1) Try.call34 ?_
 simp only [go_sem, ↓reduceIte, reduceCtorEq, Nat.reduceAdd, Nat.reduceSub, Nat.reduceMul, Nat.reduceEqDiff, Nat.reduceLT, Nat.reduceLeDiff]
 subst hK
 refine AW.ret ?_
 obtain rfl := Option.some.inj h
 (simp only [go_sem, ↓reduceIte, reduceCtorEq, Nat.reduceAdd, Nat.reduceSub, Nat.reduceMul, Nat.reduceEqDiff, Nat.reduceLT, Nat.reduceLeDiff, finA] <;> try simp)
end Au
end Go.Proofs.Y2

set_option linter.all false
set_option maxRecDepth 8000
set_option maxHeartbeats 1000000
namespace Go.Proofs.Y2
open Go.Gm
namespace Au
noncomputable def f44_21_s4 (a1 : Int) : (List Ranked) × Int → Option (((List Ranked) × Int) ⊕ (List Ranked))
  | (s4_0, s4_1) => (if a1 < s4_1 then ((ix s4_0 s4_1).bind fun x83 => ((ix s4_0 (IntKind.i64.wrap (s4_1 - 1))).bind fun x84 => ((f21 x83 x84).bind fun x85 => (if x85 < 0 then ((ix (s4_0.set s4_1.toNat x84) (IntKind.i64.wrap (s4_1 - 1))).bind fun x87 => some (.inl (((s4_0.set s4_1.toNat x84).set ((IntKind.i64.wrap (s4_1 - 1)).toNat) x83), IntKind.i64.wrap (s4_1 - 1)))) else some (.inr s4_0))))) else some (.inr s4_0))
noncomputable def f44_21_s1 (a1 : Int) (a2 : Int) : (List Ranked) × Int → Option (((List Ranked) × Int) ⊕ (List Ranked))
  | (s1_0, s1_1) => (if s1_1 < a2 then ((loopO (f44_21_s4 a1) (s1_0, s1_1)).bind fun y89 => some (.inl (y89, IntKind.i64.wrap (s1_1 + 1)))) else some (.inr s1_0))
noncomputable def f44_21 (a0 : List Ranked) (a1 : Int) (a2 : Int) : Option (List Ranked) := ((loopO (f44_21_s1 a1 a2) (a0, IntKind.i64.wrap (a1 + 1))).bind fun y91 => some y91)
theorem ok44_21 (a0 : List Ranked) (a1 : Int) (a2 : Int) (r : (List Ranked)) (h : f44_21 a0 a1 a2 = some r) : IC Try.prog 44 [some (.row 3 true (List.map encRanked a0))] [.own 0 0 a0.length, .val (.int .i64 a1), .val (.int .i64 a2), .clo (.func 21) [] []] (.tup []) [some (.row 3 true (List.map encRanked r))] [] := by
 rw [f44_21] at h
 refine ic_ofJ (N := 53) (rs := []) Try.func44 rfl rfl rfl (Nat.le_of_ble_eq_true rfl) ?_
 refine AW.regL [0, 1, 2, 3, 8] ?_
 generalize hK : AW Try.prog _ _ _ = K
 simp only [go_sem, ↓reduceIte, reduceCtorEq, Nat.reduceAdd, Nat.reduceSub, Nat.reduceMul, Nat.reduceEqDiff, Nat.reduceLT, Nat.reduceLeDiff]
 subst hK
 refine AW.block ?_
 obtain ⟨y91, hy91, h⟩ := Option.bind_eq_some_iff.1 h
 refine AW.loopO (fun s => ⟨(upd (upd (upd (upd (upd anyF 0 (.own 0 0 s.1.length)) 1 (.val (.int .i64 a1))) 2 (.val (.int .i64 a2))) 3 (.clo (.func 21) [] [])) 8 (.val (.int .i64 s.2))), hpL [some (.row 3 true (List.map encRanked s.1))] [], 8⟩) (fun z e st' => e = Exit.exit 0 ∧ st' = ⟨anyF, hpL [some (.row 3 true (List.map encRanked z))] [], 8⟩) hy91 ?_ ?_ ?_
 ·refine Ent.can [] _ _ _ rfl (by first | decide | simp) rfl ?_ ?_ ?_
  · exact (((((RF.any.po (by decide) (by first | rfl | simp [upd_ap, hpL_ap, tau, mapT, mapTL, bytesI_len])).pv (by first | rfl | simp only [go_sem]) (by first | rfl | simp [upd_ap, hpL_ap, tau, mapT, mapTL, bytesI_len])).pv (by first | rfl | simp only [go_sem]) (by first | rfl | simp [upd_ap, hpL_ap, tau, mapT, mapTL, bytesI_len])).put (by first | (simp [tokL, tokLL, inlR]; done) | simp [go_sem, tokL, tokLL]) (.of (by first | rfl | simp [upd_ap, hpL_ap, tau, mapT, mapTL, bytesI_len]))).pv (by first | rfl | simp only [go_sem]) (by first | rfl | simp [upd_ap, hpL_ap, tau, mapT, mapTL, bytesI_len]))
  · exact .cons (.eq (by first | rfl | simp only [go_sem]) (by first | rfl | simp [upd_ap, hpL_ap, tau, mapT, mapTL, bytesI_len])) (.nil _)
  · exact .nil _
 ·clear h hy91
  rintro ⟨s1_0, s1_1⟩ x h
  rw [f44_21_s1] at h
  refine AW.seq ?_
  refine AW.regL [0, 1, 2, 3, 8, 14] ?_
  generalize hK : AW Try.prog _ _ _ = K
  simp only [go_sem, ↓reduceIte, reduceCtorEq, Nat.reduceAdd, Nat.reduceSub, Nat.reduceMul, Nat.reduceEqDiff, Nat.reduceLT, Nat.reduceLeDiff]
  subst hK
  by_cases c54 : s1_1 < a2
  ·rw [if_pos c54] at h
   refine AW.ifT rfl c54 ?_
   refine AW.skip ?_
   refine thenA_n ?_
   refine AW.seq ?_
   refine AW.block ?_
   refine AW.regL [0, 1, 2, 3, 8, 9] ?_
   generalize hK : AW Try.prog _ _ _ = K
   simp only [go_sem, ↓reduceIte, reduceCtorEq, Nat.reduceAdd, Nat.reduceSub, Nat.reduceMul, Nat.reduceEqDiff, Nat.reduceLT, Nat.reduceLeDiff, eq_true c54]
   subst hK
   refine AW.block ?_
   obtain ⟨y89, hy89, h⟩ := Option.bind_eq_some_iff.1 h
   refine AW.loopO (fun s => ⟨(upd (upd (upd (upd (upd (upd anyF 0 (.own 0 0 s.1.length)) 1 (.val (.int .i64 a1))) 2 (.val (.int .i64 a2))) 3 (.clo (.func 21) [] [])) 8 (.val (.int .i64 s1_1))) 9 (.val (.int .i64 s.2))), hpL [some (.row 3 true (List.map encRanked s.1))] [], 8⟩) (fun z e st' => e = Exit.exit 2 ∧ st' = ⟨(upd (upd (upd (upd (upd anyF 0 (.own 0 0 z.length)) 1 (.val (.int .i64 a1))) 2 (.val (.int .i64 a2))) 3 (.clo (.func 21) [] [])) 8 (.val (.int .i64 s1_1))), hpL [some (.row 3 true (List.map encRanked z))] [], 8⟩) hy89 ?_ ?_ ?_
   ·refine Ent.can [] _ _ _ rfl (by first | decide | simp) rfl ?_ ?_ ?_
    · exact ((((((RF.any.po (by decide) (by first | rfl | simp [upd_ap, hpL_ap, tau, mapT, mapTL, bytesI_len, eq_true c54])).pv (by first | rfl | simp only [go_sem]) (by first | rfl | simp [upd_ap, hpL_ap, tau, mapT, mapTL, bytesI_len, eq_true c54])).pv (by first | rfl | simp only [go_sem]) (by first | rfl | simp [upd_ap, hpL_ap, tau, mapT, mapTL, bytesI_len, eq_true c54])).put (by first | (simp [tokL, tokLL, inlR]; done) | simp [go_sem, tokL, tokLL]) (.of (by first | rfl | simp [upd_ap, hpL_ap, tau, mapT, mapTL, bytesI_len, eq_true c54]))).pv (by first | rfl | simp only [go_sem]) (by first | rfl | simp [upd_ap, hpL_ap, tau, mapT, mapTL, bytesI_len, eq_true c54])).pv (by first | rfl | simp only [go_sem]) (by first | rfl | simp [upd_ap, hpL_ap, tau, mapT, mapTL, bytesI_len, eq_true c54]))
    · exact .cons (.eq (by first | rfl | simp only [go_sem]) (by first | rfl | simp [upd_ap, hpL_ap, tau, mapT, mapTL, bytesI_len, eq_true c54])) (.nil _)
    · exact .nil _
   ·clear h hy89
    rintro ⟨s4_0, s4_1⟩ x h
    rw [f44_21_s4] at h
    refine AW.seq ?_
    by_cases c82 : a1 < s4_1
    ·rw [if_pos c82] at h
     obtain ⟨x83, hx83, h⟩ := Option.bind_eq_some_iff.1 h
     obtain ⟨hx83a, hx83b⟩ := ix_some.1 hx83
     obtain ⟨x84, hx84, h⟩ := Option.bind_eq_some_iff.1 h
     obtain ⟨hx84a, hx84b⟩ := ix_some.1 hx84
     obtain ⟨x85, hx85, h⟩ := Option.bind_eq_some_iff.1 h
     refine AW.regdL [0, 1, 2, 3, 8, 9, 34] [[], [], [0, 1], [0, 1, 2], [0, 1, 2, 3], [0, 1, 2, 3], [0, 1, 2, 3], [0, 1, 2, 3, 5, 6], [0, 1, 2, 3, 5, 6, 7], [0, 1, 2, 3], [0, 1, 2, 3], [0, 1, 2, 3, 10], [0, 1, 2, 3, 9, 10, 11], [0, 1, 2, 3, 9, 10, 11, 12], [0, 1, 2, 3, 4, 5, 6, 7, 8, 9, 10, 11, 12, 13], [0, 1, 2, 3, 4, 5, 6, 7, 8, 9, 10, 11, 12, 13, 14], [0, 1, 2, 3, 4, 5, 6, 7, 8, 9, 10, 11, 12, 13, 14, 15]] [0, 1, 2, 3, 4, 5, 6, 7, 8, 9, 10, 11, 12, 13, 14, 15, 16] noFt (fun _ _ _ h => by simp [noFt] at h) draws (by kernel_rfl) (by kernel_rfl) ?_
     generalize hK : AW Try.prog _ _ _ = K
     simp only [go_sem, ↓reduceIte, reduceCtorEq, Nat.reduceAdd, Nat.reduceSub, Nat.reduceMul, Nat.reduceEqDiff, Nat.reduceLT, Nat.reduceLeDiff, eq_true c54, eq_true c82, natOf_le hx83a, hx83b, ix_lt hx83b, natOf_le hx84a, hx84b, ix_lt hx84b]
     refine adN.pc (ok21 x83 x84 x85 hx85) Try.call21 (callV_tmp (by simp only [upd_ap, Nat.reduceEqDiff, if_true, if_false, ↓reduceIte]; rfl)) (by simp only [go_sem, ↓reduceIte, reduceCtorEq, Nat.reduceAdd, Nat.reduceSub, Nat.reduceMul, Nat.reduceEqDiff, Nat.reduceLT, Nat.reduceLeDiff, List.nil_append, List.append_nil, eq_true c54, eq_true c82, natOf_le hx83a, hx83b, ix_lt hx83b, natOf_le hx84a, hx84b, ix_lt hx84b]) (by simp only [go_sem, ↓reduceIte, reduceCtorEq, Nat.reduceAdd, Nat.reduceSub, Nat.reduceMul, Nat.reduceEqDiff, Nat.reduceLT, Nat.reduceLeDiff]) ?_
     simp only [go_sem, ↓reduceIte, reduceCtorEq, Nat.reduceAdd, Nat.reduceSub, Nat.reduceMul, Nat.reduceEqDiff, Nat.reduceLT, Nat.reduceLeDiff, eq_true c54, eq_true c82, natOf_le hx83a, hx83b, ix_lt hx83b, natOf_le hx84a, hx84b, ix_lt hx84b]
     subst hK
     by_cases c86 : x85 < 0
     ·rw [if_pos c86] at h
      refine AW.ifT rfl c86 ?_
      refine AW.skip ?_
      refine thenA_n ?_
      refine AW.seq ?_
      refine AW.block ?_
      obtain ⟨x87, hx87, h⟩ := Option.bind_eq_some_iff.1 h
      obtain ⟨hx87a, hx87b⟩ := ix_some.1 hx87
      refine AW.drawL [0, 1, 2, 3, 8, 9] [[], [], [], [], [3], [], [], [6], [5, 6, 7], [5, 6, 7, 8], [], [], [10, 11], [10, 11, 12], [0, 1, 5, 6, 7, 8, 9, 10, 11, 12, 13], [0, 1, 5, 6, 7, 8, 9, 10, 11, 12, 13, 14], [0, 1, 2, 3, 4, 5, 6, 7, 8, 9, 10, 11, 12, 13, 14, 15], [0, 1, 2, 3, 4, 5, 6, 7, 8, 9, 10, 11, 12, 13, 14, 15, 16]] [0, 1, 2, 3, 4, 5, 6, 7, 8, 9, 10, 11, 12, 13, 14, 15, 16, 17] noFt (fun _ _ _ h => by simp [noFt] at h) draws (by kernel_rfl) (by kernel_rfl) ?_
      generalize hK : inBlockA _ _ Exit.normal = K
      simp only [go_sem, ↓reduceIte, reduceCtorEq, Nat.reduceAdd, Nat.reduceSub, Nat.reduceMul, Nat.reduceEqDiff, Nat.reduceLT, Nat.reduceLeDiff, eq_true c54, eq_true c82, eq_true c86, natOf_le hx84a, hx84b, ix_lt hx84b, natOf_le hx83a, hx83b, ix_lt hx83b, set_row (enc := encRanked) (y := x84) (r := [.val (.string x84.r.Key), .val (.string x84.r.Val), .sl (List.map enc3 x84.r.Offs)]) rfl, natOf_le hx87a, hx87b, ix_lt hx87b, set_row (enc := encRanked) (y := x83) (r := [.val (.string x83.r.Key), .val (.string x83.r.Val), .sl (List.map enc3 x83.r.Offs)]) rfl]
      subst hK
      refine block_n ?_
      refine thenA_n ?_
      refine AW.regionL [0, 1, 2, 3, 8, 9] ?_
      generalize hK : thenA _ _ Exit.normal = K
      simp only [go_sem, ↓reduceIte, reduceCtorEq, Nat.reduceAdd, Nat.reduceSub, Nat.reduceMul, Nat.reduceEqDiff, Nat.reduceLT, Nat.reduceLeDiff, eq_true c54, eq_true c82, eq_true c86]
      subst hK
      refine thenA_n ?_
      refine ⟨_, (Option.some.inj h).symm, ?_⟩
      refine Ent.can [] _ _ _ rfl (by first | decide | simp) rfl ?_ ?_ ?_
      · exact ((((((RF.any.po (by decide) (by first | rfl | simp [upd_ap, hpL_ap, tau, mapT, mapTL, bytesI_len, eq_true c54, eq_true c82, eq_true c86])).pv (by first | rfl | simp only [go_sem]) (by first | rfl | simp [upd_ap, hpL_ap, tau, mapT, mapTL, bytesI_len, eq_true c54, eq_true c82, eq_true c86])).pv (by first | rfl | simp only [go_sem]) (by first | rfl | simp [upd_ap, hpL_ap, tau, mapT, mapTL, bytesI_len, eq_true c54, eq_true c82, eq_true c86])).put (by first | (simp [tokL, tokLL, inlR]; done) | simp [go_sem, tokL, tokLL]) (.of (by first | rfl | simp [upd_ap, hpL_ap, tau, mapT, mapTL, bytesI_len, eq_true c54, eq_true c82, eq_true c86]))).pv (by first | rfl | simp only [go_sem]) (by first | rfl | simp [upd_ap, hpL_ap, tau, mapT, mapTL, bytesI_len, eq_true c54, eq_true c82, eq_true c86])).pv (by first | rfl | simp only [go_sem]) (by first | rfl | simp [upd_ap, hpL_ap, tau, mapT, mapTL, bytesI_len, eq_true c54, eq_true c82, eq_true c86]))
      · exact .cons (.eq (by first | rfl | simp only [go_sem]) (by first | rfl | simp [upd_ap, hpL_ap, tau, mapT, mapTL, bytesI_len, eq_true c54, eq_true c82, eq_true c86])) (.nil _)
      · exact .nil _
     ·rw [if_neg c86] at h
      refine AW.ifF rfl c86 ?_
      refine AW.exit ?_
      refine thenA_x ?_
      refine thenA_x ?_
      refine ⟨_, (Option.some.inj h).symm, _, ?_, rfl, rfl⟩
      refine Ent.can [] _ _ _ rfl (by first | decide | simp) rfl ?_ ?_ ?_
      · exact (((((RF.any.po (by decide) (by first | rfl | simp [upd_ap, hpL_ap, tau, mapT, mapTL, bytesI_len, eq_true c54, eq_true c82, eq_false c86])).pv (by first | rfl | simp only [go_sem]) (by first | rfl | simp [upd_ap, hpL_ap, tau, mapT, mapTL, bytesI_len, eq_true c54, eq_true c82, eq_false c86])).pv (by first | rfl | simp only [go_sem]) (by first | rfl | simp [upd_ap, hpL_ap, tau, mapT, mapTL, bytesI_len, eq_true c54, eq_true c82, eq_false c86])).put (by first | (simp [tokL, tokLL, inlR]; done) | simp [go_sem, tokL, tokLL]) (.of (by first | rfl | simp [upd_ap, hpL_ap, tau, mapT, mapTL, bytesI_len, eq_true c54, eq_true c82, eq_false c86]))).pv (by first | rfl | simp only [go_sem]) (by first | rfl | simp [upd_ap, hpL_ap, tau, mapT, mapTL, bytesI_len, eq_true c54, eq_true c82, eq_false c86]))
      · exact .cons (.eq (by first | rfl | simp only [go_sem]) (by first | rfl | simp [upd_ap, hpL_ap, tau, mapT, mapTL, bytesI_len, eq_true c54, eq_true c82, eq_false c86])) (.nil _)
      · exact .nil _
    ·rw [if_neg c82] at h
     refine AW.regdL [0, 1, 2, 3, 8, 9, 34] [[], [], [0, 1], [0, 1, 2], [0, 1, 2, 3], [0, 1, 2, 3], [0, 1, 2, 3], [0, 1, 2, 3, 5, 6], [0, 1, 2, 3, 5, 6, 7], [0, 1, 2, 3], [0, 1, 2, 3], [0, 1, 2, 3, 10], [0, 1, 2, 3, 9, 10, 11], [0, 1, 2, 3, 9, 10, 11, 12], [0, 1, 2, 3, 4, 5, 6, 7, 8, 9, 10, 11, 12, 13], [0, 1, 2, 3, 4, 5, 6, 7, 8, 9, 10, 11, 12, 13, 14], [0, 1, 2, 3, 4, 5, 6, 7, 8, 9, 10, 11, 12, 13, 14, 15]] [0, 1, 2, 3, 4, 5, 6, 7, 8, 9, 10, 11, 12, 13, 14, 15, 16] noFt (fun _ _ _ h => by simp [noFt] at h) draws (by kernel_rfl) (by kernel_rfl) ?_
     generalize hK : AW Try.prog _ _ _ = K
     simp only [go_sem, ↓reduceIte, reduceCtorEq, Nat.reduceAdd, Nat.reduceSub, Nat.reduceMul, Nat.reduceEqDiff, Nat.reduceLT, Nat.reduceLeDiff, eq_true c54, eq_false c82]
     subst hK
     refine AW.ifBF rfl rfl ?_
     refine AW.exit ?_
     refine thenA_x ?_
     refine thenA_x ?_
     refine ⟨_, (Option.some.inj h).symm, _, ?_, rfl, rfl⟩
     refine Ent.can [] _ _ _ rfl (by first | decide | simp) rfl ?_ ?_ ?_
     · exact (((((RF.any.po (by decide) (by first | rfl | simp [upd_ap, hpL_ap, tau, mapT, mapTL, bytesI_len, eq_true c54, eq_false c82])).pv (by first | rfl | simp only [go_sem]) (by first | rfl | simp [upd_ap, hpL_ap, tau, mapT, mapTL, bytesI_len, eq_true c54, eq_false c82])).pv (by first | rfl | simp only [go_sem]) (by first | rfl | simp [upd_ap, hpL_ap, tau, mapT, mapTL, bytesI_len, eq_true c54, eq_false c82])).put (by first | (simp [tokL, tokLL, inlR]; done) | simp [go_sem, tokL, tokLL]) (.of (by first | rfl | simp [upd_ap, hpL_ap, tau, mapT, mapTL, bytesI_len, eq_true c54, eq_false c82]))).pv (by first | rfl | simp only [go_sem]) (by first | rfl | simp [upd_ap, hpL_ap, tau, mapT, mapTL, bytesI_len, eq_true c54, eq_false c82]))
     · exact .cons (.eq (by first | rfl | simp only [go_sem]) (by first | rfl | simp [upd_ap, hpL_ap, tau, mapT, mapTL, bytesI_len, eq_true c54, eq_false c82])) (.nil _)
     · exact .nil _
   ·intro e st' hX
    try dsimp only at h
    try dsimp only at hX
    obtain ⟨rfl, rfl⟩ := hX
    refine ⟨_, Ent.refl, ?_⟩
    refine block_x ?_
    refine block_n ?_
    refine thenA_n ?_
    refine AW.regionL [0, 1, 2, 3, 8] ?_
    generalize hK : thenA _ _ Exit.normal = K
    simp only [go_sem, ↓reduceIte, reduceCtorEq, Nat.reduceAdd, Nat.reduceSub, Nat.reduceMul, Nat.reduceEqDiff, Nat.reduceLT, Nat.reduceLeDiff, eq_true c54]
    subst hK
    refine thenA_n ?_
    refine ⟨_, (Option.some.inj h).symm, ?_⟩
    refine Ent.can [] _ _ _ rfl (by first | decide | simp) rfl ?_ ?_ ?_
    · exact (((((RF.any.po (by decide) (by first | rfl | simp [upd_ap, hpL_ap, tau, mapT, mapTL, bytesI_len, eq_true c54])).pv (by first | rfl | simp only [go_sem]) (by first | rfl | simp [upd_ap, hpL_ap, tau, mapT, mapTL, bytesI_len, eq_true c54])).pv (by first | rfl | simp only [go_sem]) (by first | rfl | simp [upd_ap, hpL_ap, tau, mapT, mapTL, bytesI_len, eq_true c54])).put (by first | (simp [tokL, tokLL, inlR]; done) | simp [go_sem, tokL, tokLL]) (.of (by first | rfl | simp [upd_ap, hpL_ap, tau, mapT, mapTL, bytesI_len, eq_true c54]))).pv (by first | rfl | simp only [go_sem]) (by first | rfl | simp [upd_ap, hpL_ap, tau, mapT, mapTL, bytesI_len, eq_true c54]))
    · exact .cons (.eq (by first | rfl | simp only [go_sem]) (by first | rfl | simp [upd_ap, hpL_ap, tau, mapT, mapTL, bytesI_len, eq_true c54])) (.nil _)
    · exact .nil _
  ·rw [if_neg c54] at h
   refine AW.ifF rfl c54 ?_
   refine AW.exit ?_
   refine thenA_x ?_
   refine thenA_x ?_
   refine ⟨_, (Option.some.inj h).symm, _, ?_, rfl, rfl⟩
   refine Ent.can [] _ _ _ rfl (by first | decide | simp) rfl ?_ ?_ ?_
   · exact RF.any
   · exact .cons (.eq (by first | rfl | simp only [go_sem]) (by first | rfl | simp [upd_ap, hpL_ap, tau, mapT, mapTL, bytesI_len, eq_false c54])) (.nil _)
   · exact .nil _
 ·intro e st' hX
  try dsimp only at h
  try dsimp only at hX
  obtain ⟨rfl, rfl⟩ := hX
  refine ⟨_, Ent.refl, ?_⟩
  refine block_x ?_
  refine ⟨⟨anyF, hpL [some (.row 3 true (List.map encRanked y91))] [], 8⟩, ?_, ?_⟩
  · refine Ent.can [] _ _ _ rfl (by first | decide | simp) rfl ?_ ?_ ?_
    · exact RF.any
    · exact .cons (.eq (by first | rfl | simp only [go_sem]) (by first | rfl | simp [upd_ap, hpL_ap, tau, mapT, mapTL, bytesI_len])) (.nil _)
    · exact .nil _
  obtain rfl := Option.some.inj h
  exact ⟨rfl, rfl, _, rfl, by first | rfl | simp [resOf, upd_ap, bytesI_len]⟩
end Au
end Go.Proofs.Y2

set_option linter.all false
set_option maxRecDepth 8000
set_option maxHeartbeats 1000000
namespace Go.Proofs.Y2
open Go.Gm
namespace Au
noncomputable def f78_21_s1 (a1 : Int) (a2 : Int) (a3 : Int) : (List Ranked) × Int → Option (((List Ranked) × Int) ⊕ (List Ranked))
  | (s1_0, s1_1) => (if s1_1 < a3 then ((ix s1_0 (IntKind.i64.wrap (a2 + s1_1))).bind fun x13 => ((ix s1_0 (IntKind.i64.wrap (a1 + s1_1))).bind fun x14 => ((ix (s1_0.set ((IntKind.i64.wrap (a1 + s1_1)).toNat) x13) (IntKind.i64.wrap (a2 + s1_1))).bind fun x15 => some (.inl (((s1_0.set ((IntKind.i64.wrap (a1 + s1_1)).toNat) x13).set ((IntKind.i64.wrap (a2 + s1_1)).toNat) x14), IntKind.i64.wrap (s1_1 + 1)))))) else some (.inr s1_0))
noncomputable def f78_21 (a0 : List Ranked) (a1 : Int) (a2 : Int) (a3 : Int) : Option (List Ranked) := ((loopO (f78_21_s1 a1 a2 a3) (a0, 0)).bind fun y17 => some y17)
theorem ok78_21 (a0 : List Ranked) (a1 : Int) (a2 : Int) (a3 : Int) (r : (List Ranked)) (h : f78_21 a0 a1 a2 a3 = some r) : IC Try.prog 78 [some (.row 3 true (List.map encRanked a0))] [.own 0 0 a0.length, .val (.int .i64 a1), .val (.int .i64 a2), .val (.int .i64 a3), .clo (.func 21) [] []] (.tup []) [some (.row 3 true (List.map encRanked r))] [] := by
 rw [f78_21] at h
 refine ic_ofJ (N := 38) (rs := []) Try.func78 rfl rfl rfl (Nat.le_of_ble_eq_true rfl) ?_
 refine AW.regL [0, 1, 2, 3, 10] ?_
 generalize hK : AW Try.prog _ _ _ = K
 simp only [go_sem, ↓reduceIte, reduceCtorEq, Nat.reduceAdd, Nat.reduceSub, Nat.reduceMul, Nat.reduceEqDiff, Nat.reduceLT, Nat.reduceLeDiff]
 subst hK
 refine AW.block ?_
 obtain ⟨y17, hy17, h⟩ := Option.bind_eq_some_iff.1 h
 refine AW.loopO (fun s => ⟨(upd (upd (upd (upd (upd anyF 0 (.own 0 0 s.1.length)) 1 (.val (.int .i64 a1))) 2 (.val (.int .i64 a2))) 3 (.val (.int .i64 a3))) 10 (.val (.int .i64 s.2))), hpL [some (.row 3 true (List.map encRanked s.1))] [], 8⟩) (fun z e st' => e = Exit.exit 0 ∧ st' = ⟨anyF, hpL [some (.row 3 true (List.map encRanked z))] [], 8⟩) hy17 ?_ ?_ ?_
 ·refine Ent.can [] _ _ _ rfl (by first | decide | simp) rfl ?_ ?_ ?_
  · exact (((((RF.any.po (by decide) (by first | rfl | simp [upd_ap, hpL_ap, tau, mapT, mapTL, bytesI_len])).pv (by first | rfl | simp only [go_sem]) (by first | rfl | simp [upd_ap, hpL_ap, tau, mapT, mapTL, bytesI_len])).pv (by first | rfl | simp only [go_sem]) (by first | rfl | simp [upd_ap, hpL_ap, tau, mapT, mapTL, bytesI_len])).pv (by first | rfl | simp only [go_sem]) (by first | rfl | simp [upd_ap, hpL_ap, tau, mapT, mapTL, bytesI_len])).pv (by first | rfl | simp only [go_sem]) (by first | rfl | simp [upd_ap, hpL_ap, tau, mapT, mapTL, bytesI_len]))
  · exact .cons (.eq (by first | rfl | simp only [go_sem]) (by first | rfl | simp [upd_ap, hpL_ap, tau, mapT, mapTL, bytesI_len])) (.nil _)
  · exact .nil _
 ·clear h hy17
  rintro ⟨s1_0, s1_1⟩ x h
  rw [f78_21_s1] at h
  refine AW.seq ?_
  refine AW.regL [0, 1, 2, 3, 10, 13] ?_
  generalize hK : AW Try.prog _ _ _ = K
  simp only [go_sem, ↓reduceIte, reduceCtorEq, Nat.reduceAdd, Nat.reduceSub, Nat.reduceMul, Nat.reduceEqDiff, Nat.reduceLT, Nat.reduceLeDiff]
  subst hK
  by_cases c12 : s1_1 < a3
  ·rw [if_pos c12] at h
   refine AW.ifT rfl c12 ?_
   refine AW.skip ?_
   refine thenA_n ?_
   refine AW.seq ?_
   refine AW.block ?_
   obtain ⟨x13, hx13, h⟩ := Option.bind_eq_some_iff.1 h
   obtain ⟨hx13a, hx13b⟩ := ix_some.1 hx13
   obtain ⟨x14, hx14, h⟩ := Option.bind_eq_some_iff.1 h
   obtain ⟨hx14a, hx14b⟩ := ix_some.1 hx14
   obtain ⟨x15, hx15, h⟩ := Option.bind_eq_some_iff.1 h
   obtain ⟨hx15a, hx15b⟩ := ix_some.1 hx15
   refine AW.drawL [0, 1, 2, 3, 10] [[], [], [], [1, 2], [], [], [], [5, 6], [], [], [], [9, 10], [8, 9, 10, 11], [8, 9, 10, 11, 12], [], [], [], [15, 16], [14, 15, 16, 17], [14, 15, 16, 17, 18], [0, 1, 2, 3, 8, 9, 10, 11, 12, 13, 14, 15, 16, 17, 18, 19], [0, 1, 2, 3, 8, 9, 10, 11, 12, 13, 14, 15, 16, 17, 18, 19, 20], [0, 1, 2, 3, 4, 5, 6, 7, 8, 9, 10, 11, 12, 13, 14, 15, 16, 17, 18, 19, 20, 21], [0, 1, 2, 3, 4, 5, 6, 7, 8, 9, 10, 11, 12, 13, 14, 15, 16, 17, 18, 19, 20, 21, 22]] [0, 1, 2, 3, 4, 5, 6, 7, 8, 9, 10, 11, 12, 13, 14, 15, 16, 17, 18, 19, 20, 21, 22, 23] noFt (fun _ _ _ h => by simp [noFt] at h) draws (by kernel_rfl) (by kernel_rfl) ?_
   generalize hK : inBlockA _ _ Exit.normal = K
   simp only [go_sem, ↓reduceIte, reduceCtorEq, Nat.reduceAdd, Nat.reduceSub, Nat.reduceMul, Nat.reduceEqDiff, Nat.reduceLT, Nat.reduceLeDiff, eq_true c12, natOf_le hx13a, hx13b, ix_lt hx13b, natOf_le hx14a, hx14b, ix_lt hx14b, set_row (enc := encRanked) (y := x13) (r := [.val (.string x13.r.Key), .val (.string x13.r.Val), .sl (List.map enc3 x13.r.Offs)]) rfl, natOf_le hx15a, hx15b, ix_lt hx15b, set_row (enc := encRanked) (y := x14) (r := [.val (.string x14.r.Key), .val (.string x14.r.Val), .sl (List.map enc3 x14.r.Offs)]) rfl]
   subst hK
   refine block_n ?_
   refine thenA_n ?_
   refine AW.regionL [0, 1, 2, 3, 10] ?_
   generalize hK : thenA _ _ Exit.normal = K
   simp only [go_sem, ↓reduceIte, reduceCtorEq, Nat.reduceAdd, Nat.reduceSub, Nat.reduceMul, Nat.reduceEqDiff, Nat.reduceLT, Nat.reduceLeDiff, eq_true c12]
   subst hK
   refine thenA_n ?_
   refine ⟨_, (Option.some.inj h).symm, ?_⟩
   refine Ent.can [] _ _ _ rfl (by first | decide | simp) rfl ?_ ?_ ?_
   · exact (((((RF.any.po (by decide) (by first | rfl | simp [upd_ap, hpL_ap, tau, mapT, mapTL, bytesI_len, eq_true c12])).pv (by first | rfl | simp only [go_sem]) (by first | rfl | simp [upd_ap, hpL_ap, tau, mapT, mapTL, bytesI_len, eq_true c12])).pv (by first | rfl | simp only [go_sem]) (by first | rfl | simp [upd_ap, hpL_ap, tau, mapT, mapTL, bytesI_len, eq_true c12])).pv (by first | rfl | simp only [go_sem]) (by first | rfl | simp [upd_ap, hpL_ap, tau, mapT, mapTL, bytesI_len, eq_true c12])).pv (by first | rfl | simp only [go_sem]) (by first | rfl | simp [upd_ap, hpL_ap, tau, mapT, mapTL, bytesI_len, eq_true c12]))
   · exact .cons (.eq (by first | rfl | simp only [go_sem]) (by first | rfl | simp [upd_ap, hpL_ap, tau, mapT, mapTL, bytesI_len, eq_true c12])) (.nil _)
   · exact .nil _
  ·rw [if_neg c12] at h
   refine AW.ifF rfl c12 ?_
   refine AW.exit ?_
   refine thenA_x ?_
   refine thenA_x ?_
   refine ⟨_, (Option.some.inj h).symm, _, ?_, rfl, rfl⟩
   refine Ent.can [] _ _ _ rfl (by first | decide | simp) rfl ?_ ?_ ?_
   · exact RF.any
   · exact .cons (.eq (by first | rfl | simp only [go_sem]) (by first | rfl | simp [upd_ap, hpL_ap, tau, mapT, mapTL, bytesI_len, eq_false c12])) (.nil _)
   · exact .nil _
 ·intro e st' hX
  try dsimp only at h
  try dsimp only at hX
  obtain ⟨rfl, rfl⟩ := hX
  refine ⟨_, Ent.refl, ?_⟩
  refine block_x ?_
  refine ⟨⟨anyF, hpL [some (.row 3 true (List.map encRanked y17))] [], 8⟩, ?_, ?_⟩
  · refine Ent.can [] _ _ _ rfl (by first | decide | simp) rfl ?_ ?_ ?_
    · exact RF.any
    · exact .cons (.eq (by first | rfl | simp only [go_sem]) (by first | rfl | simp [upd_ap, hpL_ap, tau, mapT, mapTL, bytesI_len])) (.nil _)
    · exact .nil _
  obtain rfl := Option.some.inj h
  exact ⟨rfl, rfl, _, rfl, by first | rfl | simp [resOf, upd_ap, bytesI_len]⟩
end Au
end Go.Proofs.Y2

set_option linter.all false
set_option maxRecDepth 8000
set_option maxHeartbeats 1000000
namespace Go.Proofs.Y2
open Go.Gm
namespace Au
noncomputable def f58_21_s1 (a2 : Int) : (List Ranked) × Int × Int → Option (((List Ranked) × Int × Int) ⊕ (Int × (List Ranked)))
  | (s1_0, s1_1, s1_2) => (if s1_1 = s1_2 then some (.inr (s1_1, s1_0)) else (if s1_2 < s1_1 then ((f78_21 s1_0 (IntKind.i64.wrap (a2 - s1_1)) a2 s1_2).bind fun x18 => ((guardO (x18.length = s1_0.length)).bind fun x19 => some (.inl (x18, IntKind.i64.wrap (s1_1 - s1_2), s1_2)))) else ((f78_21 s1_0 (IntKind.i64.wrap (a2 - s1_1)) (IntKind.i64.wrap ((IntKind.i64.wrap (a2 + s1_2)) - s1_1)) s1_1).bind fun x20 => ((guardO (x20.length = s1_0.length)).bind fun x21 => some (.inl (x20, s1_1, IntKind.i64.wrap (s1_2 - s1_1)))))))
noncomputable def f58_21 (a0 : List Ranked) (a1 : Int) (a2 : Int) (a3 : Int) : Option (List Ranked) := ((loopO (f58_21_s1 a2) (a0, IntKind.i64.wrap (a2 - a1), IntKind.i64.wrap (a3 - a2))).bind fun y22 => match y22 with | (y23, y24) => ((f78_21 y24 (IntKind.i64.wrap (a2 - y23)) a2 y23).bind fun x25 => ((guardO (x25.length = y24.length)).bind fun x26 => some x25)))
theorem ok58_21 (a0 : List Ranked) (a1 : Int) (a2 : Int) (a3 : Int) (r : (List Ranked)) (h : f58_21 a0 a1 a2 a3 = some r) : IC Try.prog 58 [some (.row 3 true (List.map encRanked a0))] [.own 0 0 a0.length, .val (.int .i64 a1), .val (.int .i64 a2), .val (.int .i64 a3), .clo (.func 21) [] []] (.tup []) [some (.row 3 true (List.map encRanked r))] [] := by
 rw [f58_21] at h
 refine ic_ofJ (N := 58) (rs := []) Try.func58 rfl rfl rfl (Nat.le_of_ble_eq_true rfl) ?_
 refine AW.regL [0, 2, 3, 4, 10] ?_
 generalize hK : AW Try.prog _ _ _ = K
 simp only [go_sem, ↓reduceIte, reduceCtorEq, Nat.reduceAdd, Nat.reduceSub, Nat.reduceMul, Nat.reduceEqDiff, Nat.reduceLT, Nat.reduceLeDiff]
 subst hK
 refine AW.regL [0, 2, 4, 10, 11] ?_
 generalize hK : AW Try.prog _ _ _ = K
 simp only [go_sem, ↓reduceIte, reduceCtorEq, Nat.reduceAdd, Nat.reduceSub, Nat.reduceMul, Nat.reduceEqDiff, Nat.reduceLT, Nat.reduceLeDiff]
 subst hK
 refine AW.seq ?_
 refine AW.block ?_
 obtain ⟨y22, hy22, h⟩ := Option.bind_eq_some_iff.1 h
 refine AW.loopO (fun s => ⟨(upd (upd (upd (upd (upd anyF 0 (.own 0 0 s.1.length)) 2 (.val (.int .i64 a2))) 4 (.clo (.func 21) [] [])) 10 (.val (.int .i64 s.2.1))) 11 (.val (.int .i64 s.2.2))), hpL [some (.row 3 true (List.map encRanked s.1))] [], 8⟩) (fun z e st' => e = Exit.exit 0 ∧ st' = ⟨(upd (upd (upd (upd anyF 0 (.own 0 0 z.2.length)) 2 (.val (.int .i64 a2))) 4 (.clo (.func 21) [] [])) 10 (.val (.int .i64 z.1))), hpL [some (.row 3 true (List.map encRanked z.2))] [], 8⟩) hy22 ?_ ?_ ?_
 ·refine Ent.can [] _ _ _ rfl (by first | decide | simp) rfl ?_ ?_ ?_
  · exact (((((RF.any.po (by decide) (by first | rfl | simp [upd_ap, hpL_ap, tau, mapT, mapTL, bytesI_len])).pv (by first | rfl | simp only [go_sem]) (by first | rfl | simp [upd_ap, hpL_ap, tau, mapT, mapTL, bytesI_len])).put (by first | (simp [tokL, tokLL, inlR]; done) | simp [go_sem, tokL, tokLL]) (.of (by first | rfl | simp [upd_ap, hpL_ap, tau, mapT, mapTL, bytesI_len]))).pv (by first | rfl | simp only [go_sem]) (by first | rfl | simp [upd_ap, hpL_ap, tau, mapT, mapTL, bytesI_len])).pv (by first | rfl | simp only [go_sem]) (by first | rfl | simp [upd_ap, hpL_ap, tau, mapT, mapTL, bytesI_len]))
  · exact .cons (.eq (by first | rfl | simp only [go_sem]) (by first | rfl | simp [upd_ap, hpL_ap, tau, mapT, mapTL, bytesI_len])) (.nil _)
  · exact .nil _
 ·clear h hy22
  rintro ⟨s1_0, s1_1, s1_2⟩ x h
  rw [f58_21_s1] at h
  refine AW.seq ?_
  refine AW.regL [0, 2, 4, 10, 11, 20] ?_
  generalize hK : AW Try.prog _ _ _ = K
  simp only [go_sem, ↓reduceIte, reduceCtorEq, Nat.reduceAdd, Nat.reduceSub, Nat.reduceMul, Nat.reduceEqDiff, Nat.reduceLT, Nat.reduceLeDiff]
  subst hK
  by_cases c16 : s1_1 = s1_2
  ·rw [if_pos c16] at h
   refine AW.ifF rfl (fun q => q c16) ?_
   refine AW.exit ?_
   refine thenA_x ?_
   refine thenA_x ?_
   refine ⟨_, (Option.some.inj h).symm, _, ?_, rfl, rfl⟩
   refine Ent.can [] _ _ _ rfl (by first | decide | simp) rfl ?_ ?_ ?_
   · exact ((((RF.any.po (by decide) (by first | rfl | simp [upd_ap, hpL_ap, tau, mapT, mapTL, bytesI_len, eq_true c16])).pv (by first | rfl | simp only [go_sem]) (by first | rfl | simp [upd_ap, hpL_ap, tau, mapT, mapTL, bytesI_len, eq_true c16])).put (by first | (simp [tokL, tokLL, inlR]; done) | simp [go_sem, tokL, tokLL]) (.of (by first | rfl | simp [upd_ap, hpL_ap, tau, mapT, mapTL, bytesI_len, eq_true c16]))).pv (by first | rfl | simp only [go_sem]) (by first | rfl | simp [upd_ap, hpL_ap, tau, mapT, mapTL, bytesI_len, eq_true c16]))
   · exact .cons (.eq (by first | rfl | simp only [go_sem]) (by first | rfl | simp [upd_ap, hpL_ap, tau, mapT, mapTL, bytesI_len, eq_true c16])) (.nil _)
   · exact .nil _
  ·rw [if_neg c16] at h
   refine AW.ifT rfl c16 ?_
   refine AW.skip ?_
   refine thenA_n ?_
   refine AW.block ?_
   refine AW.regL [0, 2, 4, 10, 11, 23] ?_
   generalize hK : AW Try.prog _ _ _ = K
   simp only [go_sem, ↓reduceIte, reduceCtorEq, Nat.reduceAdd, Nat.reduceSub, Nat.reduceMul, Nat.reduceEqDiff, Nat.reduceLT, Nat.reduceLeDiff, eq_false c16]
   subst hK
   by_cases c17 : s1_2 < s1_1
   ·rw [if_pos c17] at h
    refine AW.ifT rfl c17 ?_
    obtain ⟨x18, hx18, h⟩ := Option.bind_eq_some_iff.1 h
    obtain ⟨x19, hx19, h⟩ := Option.bind_eq_some_iff.1 h
    have lenhx18 : x18.length = s1_0.length := guardO_some.1 hx19
    refine AW.regL [0, 2, 4, 10, 11] ?_
    generalize hK : AW Try.prog _ _ _ = K
    simp only [go_sem, ↓reduceIte, reduceCtorEq, Nat.reduceAdd, Nat.reduceSub, Nat.reduceMul, Nat.reduceEqDiff, Nat.reduceLT, Nat.reduceLeDiff, eq_false c16, eq_true c17, lenhx18]
    refine arC.ok (CallOk.ic (us' := _) (ok78_21 s1_0 (IntKind.i64.wrap (a2 - s1_1)) a2 s1_2 x18 hx18) [0] rfl (by decide) (by simp) (by simp) (by simp) (by simp) (.cons (.eq (by simp only [go_sem]) (by first | rfl | simp [upd_ap, hpL_ap, sg_ap])) (.nil _)) (by simp only [mapTL_cons, mapTL_nil, mapT_ptr, mapT_own, mapT_val, mapT_sl, mapT_agg, mapT_ip, mapT_clo, sg_ap, List.getD_cons_zero, List.getD_cons_succ]; exact (.cons (.of (by first | rfl | simp [mapT_own, sg_ap, eq_false c16, eq_true c17])) (.cons (.of rfl) (.cons (.of rfl) (.cons (.of rfl) (.cons (.of rfl) .nil)))))) (by simp only [go_sem, List.length_cons, List.length_nil, Nat.reduceAdd, Nat.reduceLT, decide_true]) (by simp [AObj.isMut]) (by simp [go_sem]) (by simp [go_sem])) Try.call78 ?_
    simp only [go_sem, ↓reduceIte, reduceCtorEq, Nat.reduceAdd, Nat.reduceSub, Nat.reduceMul, Nat.reduceEqDiff, Nat.reduceLT, Nat.reduceLeDiff, eq_false c16, eq_true c17, lenhx18]
    subst hK
    refine AW.regionL [0, 2, 4, 10, 11] ?_
    generalize hK : inBlockA _ _ Exit.normal = K
    simp only [go_sem, ↓reduceIte, reduceCtorEq, Nat.reduceAdd, Nat.reduceSub, Nat.reduceMul, Nat.reduceEqDiff, Nat.reduceLT, Nat.reduceLeDiff, eq_false c16, eq_true c17, lenhx18]
    subst hK
    refine block_n ?_
    refine thenA_n ?_
    refine ⟨_, (Option.some.inj h).symm, ?_⟩
    refine Ent.can [] _ _ _ rfl (by first | decide | simp) rfl ?_ ?_ ?_
    · exact (((((RF.any.po (by decide) (by first | rfl | simp [upd_ap, hpL_ap, tau, mapT, mapTL, bytesI_len, eq_false c16, eq_true c17, lenhx18])).pv (by first | rfl | simp only [go_sem]) (by first | rfl | simp [upd_ap, hpL_ap, tau, mapT, mapTL, bytesI_len, eq_false c16, eq_true c17, lenhx18])).put (by first | (simp [tokL, tokLL, inlR]; done) | simp [go_sem, tokL, tokLL]) (.of (by first | rfl | simp [upd_ap, hpL_ap, tau, mapT, mapTL, bytesI_len, eq_false c16, eq_true c17, lenhx18]))).pv (by first | rfl | simp only [go_sem]) (by first | rfl | simp [upd_ap, hpL_ap, tau, mapT, mapTL, bytesI_len, eq_false c16, eq_true c17, lenhx18])).pv (by first | rfl | simp only [go_sem]) (by first | rfl | simp [upd_ap, hpL_ap, tau, mapT, mapTL, bytesI_len, eq_false c16, eq_true c17, lenhx18]))
    · exact .cons (.eq (by first | rfl | simp only [go_sem]) (by first | rfl | simp [upd_ap, hpL_ap, tau, mapT, mapTL, bytesI_len, eq_false c16, eq_true c17, lenhx18])) (.nil _)
    · exact .nil _
   ·rw [if_neg c17] at h
    refine AW.ifF rfl c17 ?_
    obtain ⟨x20, hx20, h⟩ := Option.bind_eq_some_iff.1 h
    obtain ⟨x21, hx21, h⟩ := Option.bind_eq_some_iff.1 h
    have lenhx20 : x20.length = s1_0.length := guardO_some.1 hx21
    refine AW.regL [0, 2, 4, 10, 11] ?_
    generalize hK : AW Try.prog _ _ _ = K
    simp only [go_sem, ↓reduceIte, reduceCtorEq, Nat.reduceAdd, Nat.reduceSub, Nat.reduceMul, Nat.reduceEqDiff, Nat.reduceLT, Nat.reduceLeDiff, eq_false c16, eq_false c17, lenhx20]
    refine arC.ok (CallOk.ic (us' := _) (ok78_21 s1_0 (IntKind.i64.wrap (a2 - s1_1)) (IntKind.i64.wrap ((IntKind.i64.wrap (a2 + s1_2)) - s1_1)) s1_1 x20 hx20) [0] rfl (by decide) (by simp) (by simp) (by simp) (by simp) (.cons (.eq (by simp only [go_sem]) (by first | rfl | simp [upd_ap, hpL_ap, sg_ap])) (.nil _)) (by simp only [mapTL_cons, mapTL_nil, mapT_ptr, mapT_own, mapT_val, mapT_sl, mapT_agg, mapT_ip, mapT_clo, sg_ap, List.getD_cons_zero, List.getD_cons_succ]; exact (.cons (.of (by first | rfl | simp [mapT_own, sg_ap, eq_false c16, eq_false c17])) (.cons (.of rfl) (.cons (.of rfl) (.cons (.of rfl) (.cons (.of rfl) .nil)))))) (by simp only [go_sem, List.length_cons, List.length_nil, Nat.reduceAdd, Nat.reduceLT, decide_true]) (by simp [AObj.isMut]) (by simp [go_sem]) (by simp [go_sem])) Try.call78 ?_
    simp only [go_sem, ↓reduceIte, reduceCtorEq, Nat.reduceAdd, Nat.reduceSub, Nat.reduceMul, Nat.reduceEqDiff, Nat.reduceLT, Nat.reduceLeDiff, eq_false c16, eq_false c17, lenhx20]
    subst hK
    refine AW.regionL [0, 2, 4, 10, 11] ?_
    generalize hK : inBlockA _ _ Exit.normal = K
    simp only [go_sem, ↓reduceIte, reduceCtorEq, Nat.reduceAdd, Nat.reduceSub, Nat.reduceMul, Nat.reduceEqDiff, Nat.reduceLT, Nat.reduceLeDiff, eq_false c16, eq_false c17, lenhx20]
    subst hK
    refine block_n ?_
    refine thenA_n ?_
    refine ⟨_, (Option.some.inj h).symm, ?_⟩
    refine Ent.can [] _ _ _ rfl (by first | decide | simp) rfl ?_ ?_ ?_
    · exact (((((RF.any.po (by decide) (by first | rfl | simp [upd_ap, hpL_ap, tau, mapT, mapTL, bytesI_len, eq_false c16, eq_false c17, lenhx20])).pv (by first | rfl | simp only [go_sem]) (by first | rfl | simp [upd_ap, hpL_ap, tau, mapT, mapTL, bytesI_len, eq_false c16, eq_false c17, lenhx20])).put (by first | (simp [tokL, tokLL, inlR]; done) | simp [go_sem, tokL, tokLL]) (.of (by first | rfl | simp [upd_ap, hpL_ap, tau, mapT, mapTL, bytesI_len, eq_false c16, eq_false c17, lenhx20]))).pv (by first | rfl | simp only [go_sem]) (by first | rfl | simp [upd_ap, hpL_ap, tau, mapT, mapTL, bytesI_len, eq_false c16, eq_false c17, lenhx20])).pv (by first | rfl | simp only [go_sem]) (by first | rfl | simp [upd_ap, hpL_ap, tau, mapT, mapTL, bytesI_len, eq_false c16, eq_false c17, lenhx20]))
    · exact .cons (.eq (by first | rfl | simp only [go_sem]) (by first | rfl | simp [upd_ap, hpL_ap, tau, mapT, mapTL, bytesI_len, eq_false c16, eq_false c17, lenhx20])) (.nil _)
    · exact .nil _
 ·intro e st' hX
  obtain ⟨y23, y24⟩ := y22
  try dsimp only at h
  try dsimp only at hX
  obtain ⟨rfl, rfl⟩ := hX
  refine ⟨_, Ent.refl, ?_⟩
  refine block_x ?_
  refine thenA_n ?_
  obtain ⟨x25, hx25, h⟩ := Option.bind_eq_some_iff.1 h
  obtain ⟨x26, hx26, h⟩ := Option.bind_eq_some_iff.1 h
  have lenhx25 : x25.length = y24.length := guardO_some.1 hx26
  refine AW.regionL [] ?_
  generalize hK : finJ Try.prog _ _ _ _ _ Exit.normal = K
  simp only [go_sem, ↓reduceIte, reduceCtorEq, Nat.reduceAdd, Nat.reduceSub, Nat.reduceMul, Nat.reduceEqDiff, Nat.reduceLT, Nat.reduceLeDiff, lenhx25]
  refine arC.ok (CallOk.ic (us' := _) (ok78_21 y24 (IntKind.i64.wrap (a2 - y23)) a2 y23 x25 hx25) [0] rfl (by decide) (by simp) (by simp) (by simp) (by simp) (.cons (.eq (by simp only [go_sem]) (by first | rfl | simp [upd_ap, hpL_ap, sg_ap])) (.nil _)) (by simp only [mapTL_cons, mapTL_nil, mapT_ptr, mapT_own, mapT_val, mapT_sl, mapT_agg, mapT_ip, mapT_clo, sg_ap, List.getD_cons_zero, List.getD_cons_succ]; exact (.cons (.of (by first | rfl | simp [mapT_own, sg_ap])) (.cons (.of rfl) (.cons (.of rfl) (.cons (.of rfl) (.cons (.of rfl) .nil)))))) (by simp only [go_sem, List.length_cons, List.length_nil, Nat.reduceAdd, Nat.reduceLT, decide_true]) (by simp [AObj.isMut]) (by simp [go_sem]) (by simp [go_sem])) Try.call78 ?_
  simp only [go_sem, ↓reduceIte, reduceCtorEq, Nat.reduceAdd, Nat.reduceSub, Nat.reduceMul, Nat.reduceEqDiff, Nat.reduceLT, Nat.reduceLeDiff, lenhx25]
  subst hK
  refine ⟨⟨anyF, hpL [some (.row 3 true (List.map encRanked x25))] [], 8⟩, ?_, ?_⟩
  · refine Ent.can [] _ _ _ rfl (by first | decide | simp) rfl ?_ ?_ ?_
    · exact RF.any
    · exact .cons (.eq (by first | rfl | simp only [go_sem]) (by first | rfl | simp [upd_ap, hpL_ap, tau, mapT, mapTL, bytesI_len, lenhx25])) (.nil _)
    · exact .nil _
  obtain rfl := Option.some.inj h
  exact ⟨rfl, rfl, _, rfl, by first | rfl | simp [resOf, upd_ap, bytesI_len]⟩
end Au
end Go.Proofs.Y2
