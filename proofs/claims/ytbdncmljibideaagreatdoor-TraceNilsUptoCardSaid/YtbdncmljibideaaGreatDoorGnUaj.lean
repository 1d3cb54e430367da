import Derived.Test.YtbdncmljibideaaGreatDoorGnUaf
import Derived.Test.YtbdncmljibideaaGreatDoorGnUai
import Derived.Test.YtbdncmljibideaaGreatDoorGnUag
import Derived.Test.YtbdncmljibideaaGreatDoorGnUah
set_option linter.all false
set_option linter.unusedVariables false
set_option linter.unusedSimpArgs false
set_option linter.all false
set_option maxRecDepth 8000
set_option maxHeartbeats 1000000
namespace Go.Proofs.Yt
open Go.Gm
namespace Au
noncomputable def f135_s1 (a0 : List Int) (x8 : Int) (x9 : Int) : Int → Option (Int ⊕ Int)
  | s1_0 => (if s1_0 < (a0.length : Int) then ((ix a0 s1_0).bind fun x20 => ((ix a0 (IntKind.i64.wrap (s1_0 - 1))).bind fun x21 => (if (IntKind.i64.wrap (x20 - x21)) = (IntKind.i64.wrap (x8 - x9)) then some (.inl (IntKind.i64.wrap (s1_0 + 1))) else some (.inr s1_0)))) else some (.inr s1_0))
noncomputable def f135 (a0 : List Int) : Option Int := (if (a0.length : Int) < 3 then some 0 else ((a0[2]?).bind fun x7 => ((a0[1]?).bind fun x8 => ((a0[0]?).bind fun x9 => (if (IntKind.i64.wrap (x7 - x8)) = (IntKind.i64.wrap (x8 - x9)) then ((loopO (f135_s1 a0 x8 x9) 3).bind fun y24 => some y24) else some 0)))))
theorem ok135 (a0 : List Int) (r : Int) (h : f135 a0 = some r) : PC Tryz.prog 135 [.sl (List.map enc3 a0)] (.val (.int .i64 r)) := by
 rw [f135] at h
 refine pc_of8 (N := 51) (rs := [.tmp 2]) Tryz.func135 rfl rfl rfl (Nat.le_of_ble_eq_true rfl) ?_
 refine AW.rX [0] ?_
 refine AW.seq ?_
 by_cases c6 : (a0.length : Int) < 3
 ·rw [if_pos c6] at h
  refine AW.regdL [0, 23] [[], [0], [0, 1], [0, 1, 2], [0, 1, 2, 3], [0, 1, 2, 3, 4], [0, 1, 2, 3, 4, 5], [0, 1, 2, 3], [0, 1, 2, 3, 7], [0, 1, 2, 3, 7, 8], [0, 1, 2, 3, 4, 5, 6, 7, 8, 9], [0, 1, 2, 3], [0, 1, 2, 3, 11], [0, 1, 2, 3, 11, 12], [0, 1, 2, 3], [0, 1, 2, 3, 14], [0, 1, 2, 3, 14, 15], [0, 1, 2, 3, 11, 12, 13, 14, 15, 16], [0, 1, 2, 3, 4, 5, 6, 7, 8, 9, 10, 11, 12, 13, 14, 15, 16, 17], [0, 1, 2, 3, 4, 5, 6, 7, 8, 9, 10, 11, 12, 13, 14, 15, 16, 17, 18]] [0, 1, 2, 3, 4, 5, 6, 7, 8, 9, 10, 11, 12, 13, 14, 15, 16, 17, 18, 19] noFt (fun _ _ _ h => by simp [noFt] at h) draws (by kernel_rfl) (by kernel_rfl) ?_
  generalize hK : AW Tryz.prog _ _ _ = K
  simp only [go_sem, ↓reduceIte, reduceCtorEq, Nat.reduceAdd, Nat.reduceSub, Nat.reduceMul, Nat.reduceEqDiff, Nat.reduceLT, Nat.reduceLeDiff, eq_true c6]
  subst hK
  refine AW.ifBT rfl rfl ?_
  refine AW.rX [2] ?_
  refine AW.ret ?_
  refine thenA_r ?_
  obtain rfl := Option.some.inj h
  (simp only [go_sem, ↓reduceIte, reduceCtorEq, Nat.reduceAdd, Nat.reduceSub, Nat.reduceMul, Nat.reduceEqDiff, Nat.reduceLT, Nat.reduceLeDiff, eq_true c6, finA] <;> try simp)
 ·rw [if_neg c6] at h
  obtain ⟨x7, hx7, h⟩ := Option.bind_eq_some_iff.1 h
  obtain ⟨x8, hx8, h⟩ := Option.bind_eq_some_iff.1 h
  obtain ⟨x9, hx9, h⟩ := Option.bind_eq_some_iff.1 h
  refine AW.regdL [0, 23] [[], [0], [0, 1], [0, 1, 2], [0, 1, 2, 3], [0, 1, 2, 3, 4], [0, 1, 2, 3, 4, 5], [0, 1, 2, 3], [0, 1, 2, 3, 7], [0, 1, 2, 3, 7, 8], [0, 1, 2, 3, 4, 5, 6, 7, 8, 9], [0, 1, 2, 3], [0, 1, 2, 3, 11], [0, 1, 2, 3, 11, 12], [0, 1, 2, 3], [0, 1, 2, 3, 14], [0, 1, 2, 3, 14, 15], [0, 1, 2, 3, 11, 12, 13, 14, 15, 16], [0, 1, 2, 3, 4, 5, 6, 7, 8, 9, 10, 11, 12, 13, 14, 15, 16, 17], [0, 1, 2, 3, 4, 5, 6, 7, 8, 9, 10, 11, 12, 13, 14, 15, 16, 17, 18]] [0, 1, 2, 3, 4, 5, 6, 7, 8, 9, 10, 11, 12, 13, 14, 15, 16, 17, 18, 19] noFt (fun _ _ _ h => by simp [noFt] at h) draws (by kernel_rfl) (by kernel_rfl) ?_
  generalize hK : AW Tryz.prog _ _ _ = K
  simp only [go_sem, ↓reduceIte, reduceCtorEq, Nat.reduceAdd, Nat.reduceSub, Nat.reduceMul, Nat.reduceEqDiff, Nat.reduceLT, Nat.reduceLeDiff, eq_false c6, hx7, hx8, hx9]
  subst hK
  by_cases c10 : (IntKind.i64.wrap (x7 - x8)) = (IntKind.i64.wrap (x8 - x9))
  ·rw [if_pos c10] at h
   refine AW.ifF rfl (fun q => q c10) ?_
   refine AW.skip ?_
   refine thenA_n ?_
   refine AW.rX [0, 3] ?_
   refine AW.seq ?_
   refine AW.block ?_
   obtain ⟨y24, hy24, h⟩ := Option.bind_eq_some_iff.1 h
   refine AW.loopO (fun s => ⟨(upd (upd anyF 0 (.sl (List.map enc3 a0))) 3 (.val (.int .i64 s))), hpL [] [], 8⟩) (fun z e st' => e = Exit.exit 0 ∧ st' = ⟨(upd anyF 3 (.val (.int .i64 z))), hpL [] [], 8⟩) hy24 ?_ ?_ ?_
   ·exact Ent.canq [] RF.any.qv.qv (.nil _) (.nil _)
   ·clear h hy24
    rintro s1_0 x h
    rw [f135_s1] at h
    refine AW.seq ?_
    by_cases c19 : s1_0 < (a0.length : Int)
    ·rw [if_pos c19] at h
     obtain ⟨x20, hx20, h⟩ := Option.bind_eq_some_iff.1 h
     obtain ⟨hx20a, hx20b⟩ := ix_some.1 hx20
     obtain ⟨x21, hx21, h⟩ := Option.bind_eq_some_iff.1 h
     obtain ⟨hx21a, hx21b⟩ := ix_some.1 hx21
     refine AW.regdL [0, 3, 47] [[], [], [1], [0, 1, 2], [0, 1, 2, 3], [0, 1, 2, 3, 4], [0, 1, 2, 3, 4], [0, 1, 2, 3, 4, 5, 6], [0, 1, 2, 3, 4, 5, 6, 7], [0, 1, 2, 3, 4], [0, 1, 2, 3, 4], [0, 1, 2, 3, 4, 10], [0, 1, 2, 3, 4, 9, 10, 11], [0, 1, 2, 3, 4, 9, 10, 11, 12], [0, 1, 2, 3, 4, 5, 6, 7, 8, 9, 10, 11, 12, 13], [0, 1, 2, 3, 4], [0, 1, 2, 3, 4, 15], [0, 1, 2, 3, 4, 15, 16], [0, 1, 2, 3, 4], [0, 1, 2, 3, 4, 18], [0, 1, 2, 3, 4, 18, 19], [0, 1, 2, 3, 4, 15, 16, 17, 18, 19, 20], [0, 1, 2, 3, 4, 5, 6, 7, 8, 9, 10, 11, 12, 13, 14, 15, 16, 17, 18, 19, 20, 21], [0, 1, 2, 3, 4, 5, 6, 7, 8, 9, 10, 11, 12, 13, 14, 15, 16, 17, 18, 19, 20, 21, 22]] [0, 1, 2, 3, 4, 5, 6, 7, 8, 9, 10, 11, 12, 13, 14, 15, 16, 17, 18, 19, 20, 21, 22, 23] noFt (fun _ _ _ h => by simp [noFt] at h) draws (by kernel_rfl) (by kernel_rfl) ?_
     generalize hK : AW Tryz.prog _ _ _ = K
     simp only [go_sem, ↓reduceIte, reduceCtorEq, Nat.reduceAdd, Nat.reduceSub, Nat.reduceMul, Nat.reduceEqDiff, Nat.reduceLT, Nat.reduceLeDiff, eq_false c6, eq_true c10, eq_true c19, natOf_le hx20a, hx20b, natOf_le hx21a, hx21b, hx8, hx9]
     subst hK
     by_cases c22 : (IntKind.i64.wrap (x20 - x21)) = (IntKind.i64.wrap (x8 - x9))
     ·rw [if_pos c22] at h
      refine AW.ifT rfl c22 ?_
      refine AW.skip ?_
      refine thenA_n ?_
      refine AW.block ?_
      refine AW.rY [0, 3] ?_
      refine block_n ?_
      refine thenA_n ?_
      refine ⟨_, (Option.some.inj h).symm, ?_⟩
      exact Ent.canq [] RF.any.qv.qv (.nil _) (.nil _)
     ·rw [if_neg c22] at h
      refine AW.ifF rfl c22 ?_
      refine AW.exit ?_
      refine thenA_x ?_
      refine thenA_x ?_
      refine ⟨_, (Option.some.inj h).symm, _, ?_, rfl, rfl⟩
      exact Ent.canq [] RF.any.qv (.nil _) (.nil _)
    ·rw [if_neg c19] at h
     refine AW.regdL [0, 3, 47] [[], [], [1], [0, 1, 2], [0, 1, 2, 3], [0, 1, 2, 3, 4], [0, 1, 2, 3, 4], [0, 1, 2, 3, 4, 5, 6], [0, 1, 2, 3, 4, 5, 6, 7], [0, 1, 2, 3, 4], [0, 1, 2, 3, 4], [0, 1, 2, 3, 4, 10], [0, 1, 2, 3, 4, 9, 10, 11], [0, 1, 2, 3, 4, 9, 10, 11, 12], [0, 1, 2, 3, 4, 5, 6, 7, 8, 9, 10, 11, 12, 13], [0, 1, 2, 3, 4], [0, 1, 2, 3, 4, 15], [0, 1, 2, 3, 4, 15, 16], [0, 1, 2, 3, 4], [0, 1, 2, 3, 4, 18], [0, 1, 2, 3, 4, 18, 19], [0, 1, 2, 3, 4, 15, 16, 17, 18, 19, 20], [0, 1, 2, 3, 4, 5, 6, 7, 8, 9, 10, 11, 12, 13, 14, 15, 16, 17, 18, 19, 20, 21], [0, 1, 2, 3, 4, 5, 6, 7, 8, 9, 10, 11, 12, 13, 14, 15, 16, 17, 18, 19, 20, 21, 22]] [0, 1, 2, 3, 4, 5, 6, 7, 8, 9, 10, 11, 12, 13, 14, 15, 16, 17, 18, 19, 20, 21, 22, 23] noFt (fun _ _ _ h => by simp [noFt] at h) draws (by kernel_rfl) (by kernel_rfl) ?_
     generalize hK : AW Tryz.prog _ _ _ = K
     simp only [go_sem, ↓reduceIte, reduceCtorEq, Nat.reduceAdd, Nat.reduceSub, Nat.reduceMul, Nat.reduceEqDiff, Nat.reduceLT, Nat.reduceLeDiff, eq_false c6, eq_true c10, eq_false c19]
     subst hK
     refine AW.ifBF rfl rfl ?_
     refine AW.exit ?_
     refine thenA_x ?_
     refine thenA_x ?_
     refine ⟨_, (Option.some.inj h).symm, _, ?_, rfl, rfl⟩
     exact Ent.canq [] RF.any.qv (.nil _) (.nil _)
   ·intro e st' hX
    try dsimp only at h
    try dsimp only at hX
    obtain ⟨rfl, rfl⟩ := hX
    refine ⟨_, Ent.refl, ?_⟩
    refine block_x ?_
    refine thenA_n ?_
    refine AW.rX [2] ?_
    refine AW.ret ?_
    obtain rfl := Option.some.inj h
    (simp only [go_sem, ↓reduceIte, reduceCtorEq, Nat.reduceAdd, Nat.reduceSub, Nat.reduceMul, Nat.reduceEqDiff, Nat.reduceLT, Nat.reduceLeDiff, eq_false c6, eq_true c10, finA] <;> try simp)
  ·rw [if_neg c10] at h
   refine AW.ifT rfl c10 ?_
   refine AW.rX [2] ?_
   refine AW.ret ?_
   refine thenA_r ?_
   obtain rfl := Option.some.inj h
   (simp only [go_sem, ↓reduceIte, reduceCtorEq, Nat.reduceAdd, Nat.reduceSub, Nat.reduceMul, Nat.reduceEqDiff, Nat.reduceLT, Nat.reduceLeDiff, eq_false c6, eq_false c10, finA] <;> try simp)
end Au
end Go.Proofs.Yt

set_option linter.all false
set_option maxRecDepth 8000
set_option maxHeartbeats 1000000
namespace Go.Proofs.Yt
open Go.Gm Go.Gm.Two
namespace Au
def hpP (b : List Int) (many last : Int) (l : List Int) : AHeap := hpL [some (.row 1 true [[.sl (List.map enc5 b)]]), some (.row 1 true [[.clo (.func 108) [] [.ptr 0 0 0]]]), some (.row 1 true [[.val (.int .i64 many)]]), some (.row 1 true [[.val (.int .i64 last)]]), some (.row 1 true [[.sl (List.map enc3 l)]])] []
def frP : Nat → AV := upd (upd (upd (upd (upd anyF 4 (.ptr 0 0 0)) 5 (.ptr 1 0 0)) 6 (.ptr 2 0 0)) 7 (.ptr 3 0 0)) 17 (.clo (.func 134) [] [.ptr 4 0 0])
noncomputable def put_s (run : List Int) : Int × List Int × Int → Option ((Int × List Int × Int) ⊕ (List Int × Int))
  | (i, b, last) => if i < (run.length : Int) then (ix run i).bind fun n => (f108 (IntKind.i64.wrap (IntKind.i64.wrap (n - last) - 1)) b).bind fun b1 => some (.inl (IntKind.i64.wrap (i + 1), b1, n)) else some (.inr (b, last))
noncomputable def put_a (run : List Int) (b : List Int) (last : Int) : Option (List Int) := (f108 (IntKind.i64.wrap (IntKind.i64.wrap (2 * (run.length : Int)) + 1)) b).bind fun b1 => (run[0]?).bind fun r0 => (f108 (IntKind.i64.wrap (IntKind.i64.wrap (r0 - last) - 1)) b1).bind fun b2 => (run[1]?).bind fun r1 => f108 (IntKind.i64.wrap (IntKind.i64.wrap (r1 - r0) - 1)) b2
noncomputable def put_b (run : List Int) (b : List Int) (last : Int) : Option (List Int × Int) := (f108 (IntKind.i64.wrap (2 * (run.length : Int))) b).bind fun b1 => loopO (put_s run) (0, b1, last)
noncomputable def put_r (run : List Int) (is : Bool) (b : List Int) (many last : Int) : Option (List Int × Int × Int) :=
  (if is = true then put_a run b last else (put_b run b last).bind fun q => some q.1).bind fun b' => (ix run (IntKind.i64.wrap ((run.length : Int) - 1))).bind fun z => some (b', IntKind.i64.wrap (many + 1), z)
theorem put_aw (A B : Code) (hcode : getRange Tryz.f80.body.get! = some (A, B)) (run : List Int) (is : Bool) (b : List Int) (many last : Int) (l : List Int) (r : List Int × Int × Int) (h : put_r run is b many last = some r) :
    AW Tryz.prog 77 A (fun e s1 => e = .normal ∧ 8 ≤ s1.nx ∧ AW Tryz.prog 77 B (fun e s2 => e = .normal ∧ s2.hp = hpP r.1 r.2.1 r.2.2 l ∧ s2.nx = 8) s1) ⟨upd (upd frP 18 (.sl (List.map enc3 run))) 19 (.val (.bool is)), hpP b many last l, 8⟩ := by
 obtain ⟨rfl, rfl⟩ := Prod.mk.inj (Option.some.inj (hcode.symm.trans rfl))
 unfold frP hpP
 rw [put_r] at h
 obtain ⟨b', hb', h⟩ := Option.bind_eq_some_iff.1 h
 obtain ⟨z, hz, h⟩ := Option.bind_eq_some_iff.1 h
 obtain ⟨hza, hzb⟩ := ix_some.1 hz
 obtain rfl := Option.some.inj h
 dsimp only
 refine AW.seq ?_
 refine AW.regionL [4, 5, 6, 7, 8, 19] ?_
 generalize hK : thenA _ _ Exit.normal = K
 simp only [go_sem, ↓reduceIte, reduceCtorEq, Nat.reduceAdd, Nat.reduceSub, Nat.reduceMul, Nat.reduceEqDiff, Nat.reduceLT, Nat.reduceLeDiff]
 subst hK
 refine thenA_n ?_
 refine AW.regionL [4, 5, 6, 7, 8, 9] ?_
 generalize hK : (fun (st' : ASt) => _) = K
 simp only [go_sem, ↓reduceIte, reduceCtorEq, Nat.reduceAdd, Nat.reduceSub, Nat.reduceMul, Nat.reduceEqDiff, Nat.reduceLT, Nat.reduceLeDiff]
 subst hK
 refine ⟨rfl, by simp, ?_⟩
 refine AW.toK (K := fun s => s.hp = hpP b' (IntKind.i64.wrap (many + 1)) z l ∧ s.nx = 8) ?_
 refine AW.block ?_
 refine AW.regL [4, 5, 6, 7, 8, 9] ?_
 generalize hK : AW Tryz.prog _ _ _ = K
 simp only [go_sem, ↓reduceIte, reduceCtorEq, Nat.reduceAdd, Nat.reduceSub, Nat.reduceMul, Nat.reduceEqDiff, Nat.reduceLT, Nat.reduceLeDiff]
 subst hK
 refine AW.seq ?_
 cases is with
 | true =>
  rw [if_pos rfl] at hb'
  obtain ⟨b1, hb1, hb'⟩ := Option.bind_eq_some_iff.1 hb'
  obtain ⟨r0, hr0, hb'⟩ := Option.bind_eq_some_iff.1 hb'
  obtain ⟨b2, hb2, hb'⟩ := Option.bind_eq_some_iff.1 hb'
  obtain ⟨r1, hr1, hb3⟩ := Option.bind_eq_some_iff.1 hb'
  refine AW.regL [4, 5, 6, 7, 8, 22] ?_
  generalize hK : AW Tryz.prog _ _ _ = K
  simp only [go_sem, ↓reduceIte, reduceCtorEq, Nat.reduceAdd, Nat.reduceSub, Nat.reduceMul, Nat.reduceEqDiff, Nat.reduceLT, Nat.reduceLeDiff]
  subst hK
  refine AW.ifBT rfl rfl ?_
  refine AW.regL [4, 5, 6, 7, 8] ?_
  generalize hK : AW Tryz.prog _ _ _ = K
  simp only [go_sem, ↓reduceIte, reduceCtorEq, Nat.reduceAdd, Nat.reduceSub, Nat.reduceMul, Nat.reduceEqDiff, Nat.reduceLT, Nat.reduceLeDiff]
  refine arC.ok (CallOk.ic (us' := _) (ok108 _ b b1 hb1) [0] rfl (by decide) (by simp) (by simp) (by simp) (by simp) (.cons (.eq (by simp only [go_sem]) (by first | rfl | simp [upd_ap, hpL_ap, sg_ap])) (.nil _)) (by simp only [mapTL_cons, mapTL_nil, mapT_ptr, mapT_own, mapT_val, mapT_sl, mapT_agg, mapT_ip, mapT_clo, mapT_ifc, sg_ap, List.getD_cons_zero, List.getD_cons_succ]; exact (.cons (.of rfl) (.cons (.of rfl) .nil))) (by simp only [go_sem, List.length_cons, List.length_nil, Nat.reduceAdd, Nat.reduceLT, decide_true]) (by simp [AObj.isMut]) (by simp [go_sem]) (by simp [go_sem])) Tryz.call108 ?_
  simp only [go_sem, ↓reduceIte, reduceCtorEq, Nat.reduceAdd, Nat.reduceSub, Nat.reduceMul, Nat.reduceEqDiff, Nat.reduceLT, Nat.reduceLeDiff]
  subst hK
  refine AW.regdL [4, 5, 6, 7, 8] [[], [], [1], [1, 2], [], [1, 2, 3, 4], [1, 2, 3, 4, 5], [0, 1, 2, 3, 4, 5, 6]] [0, 1, 2, 3, 4, 5, 6, 7] noFt (fun _ _ _ h => by simp [noFt] at h) draws (by kernel_rfl) (by kernel_rfl) ?_
  generalize hK : AW Tryz.prog _ _ _ = K
  simp only [go_sem, ↓reduceIte, reduceCtorEq, Nat.reduceAdd, Nat.reduceSub, Nat.reduceMul, Nat.reduceEqDiff, Nat.reduceLT, Nat.reduceLeDiff, hr0]
  refine adN.ic (ok108 _ b1 b2 hb2) Tryz.call108 (callV_tmp (by simp only [upd_ap, Nat.reduceEqDiff, if_true, if_false, ↓reduceIte]; rfl)) [0] rfl (by decide) (by simp) (by simp) (by simp) (by simp) (.cons (.eq (by simp only [go_sem]) (by first | rfl | simp [upd_ap, hpL_ap, sg_ap])) (.nil _)) (by simp only [List.nil_append, List.append_nil, List.cons_append, List.map_cons, List.map_nil, evF_tmp, evF_const, upd_ap, Nat.reduceEqDiff, if_true, if_false, ↓reduceIte, mapTL_cons, mapTL_nil, mapT_ptr, mapT_own, mapT_val, mapT_sl, mapT_agg, mapT_ip, mapT_clo, mapT_ifc, sg_ap, List.getD_cons_zero, List.getD_cons_succ]; exact (.cons (.of rfl) (.cons (.of rfl) .nil))) (by simp only [go_sem, List.length_cons, List.length_nil, Nat.reduceAdd, Nat.reduceLT, decide_true]) (by simp [AObj.isMut]) (by simp [go_sem]) (by simp [go_sem]) ?_
  simp only [go_sem, ↓reduceIte, reduceCtorEq, Nat.reduceAdd, Nat.reduceSub, Nat.reduceMul, Nat.reduceEqDiff, Nat.reduceLT, Nat.reduceLeDiff, hr0]
  subst hK
  refine AW.drawL [4, 5, 6, 7, 8] [[], [], [1], [1, 2], [], [4], [4, 5], [1, 2, 3, 4, 5, 6], [1, 2, 3, 4, 5, 6, 7], [0, 1, 2, 3, 4, 5, 6, 7, 8]] [0, 1, 2, 3, 4, 5, 6, 7, 8, 9] noFt (fun _ _ _ h => by simp [noFt] at h) draws (by kernel_rfl) (by kernel_rfl) ?_
  generalize hK : thenA _ _ Exit.normal = K
  simp only [go_sem, ↓reduceIte, reduceCtorEq, Nat.reduceAdd, Nat.reduceSub, Nat.reduceMul, Nat.reduceEqDiff, Nat.reduceLT, Nat.reduceLeDiff, hr0, hr1]
  refine adN.ic (ok108 _ b2 b' hb3) Tryz.call108 (callV_tmp (by simp only [upd_ap, Nat.reduceEqDiff, if_true, if_false, ↓reduceIte]; rfl)) [0] rfl (by decide) (by simp) (by simp) (by simp) (by simp) (.cons (.eq (by simp only [go_sem]) (by first | rfl | simp [upd_ap, hpL_ap, sg_ap])) (.nil _)) (by simp only [List.nil_append, List.append_nil, List.cons_append, List.map_cons, List.map_nil, evF_tmp, evF_const, upd_ap, Nat.reduceEqDiff, if_true, if_false, ↓reduceIte, mapTL_cons, mapTL_nil, mapT_ptr, mapT_own, mapT_val, mapT_sl, mapT_agg, mapT_ip, mapT_clo, mapT_ifc, sg_ap, List.getD_cons_zero, List.getD_cons_succ]; exact (.cons (.of rfl) (.cons (.of rfl) .nil))) (by simp only [go_sem, List.length_cons, List.length_nil, Nat.reduceAdd, Nat.reduceLT, decide_true]) (by simp [AObj.isMut]) (by simp [go_sem]) (by simp [go_sem]) ?_
  simp only [go_sem, ↓reduceIte, reduceCtorEq, Nat.reduceAdd, Nat.reduceSub, Nat.reduceMul, Nat.reduceEqDiff, Nat.reduceLT, Nat.reduceLeDiff, hr0, hr1]
  subst hK
  refine thenA_n ?_
  refine AW.regionL [] ?_
  generalize hK : inBlockA _ _ Exit.normal = K
  simp only [go_sem, ↓reduceIte, reduceCtorEq, Nat.reduceAdd, Nat.reduceSub, Nat.reduceMul, Nat.reduceEqDiff, Nat.reduceLT, Nat.reduceLeDiff, natOf_le hza, hzb]
  subst hK
  refine block_n ?_
  refine ⟨rfl, ⟨anyF, hpP b' (IntKind.i64.wrap (many + 1)) z l, 8⟩, ?_, rfl, rfl⟩
  unfold hpP
  exact Ent.can [] _ _ _ rfl (by first | decide | simp) rfl RF.any (.cons (.eq (by simp only [go_sem]) (by first | rfl | simp [upd_ap, hpL_ap, tau, mapT, mapTL, hpP])) (.cons (.tok (by simp [tokL, tokLL, inlR]) (by first | rfl | simp [upd_ap, hpL_ap, tau, mapT, mapTL, hpP])) (.cons (.eq (by simp only [go_sem]) (by first | rfl | simp [upd_ap, hpL_ap, tau, mapT, mapTL, hpP])) (.cons (.eq (by simp only [go_sem]) (by first | rfl | simp [upd_ap, hpL_ap, tau, mapT, mapTL, hpP])) (.cons (.eq (by simp only [go_sem]) (by first | rfl | simp [upd_ap, hpL_ap, tau, mapT, mapTL, hpP])) (.nil _)))))) (.nil _)
 | false =>
  rw [if_neg (by decide)] at hb'
  obtain ⟨q, hq, hb'⟩ := Option.bind_eq_some_iff.1 hb'
  obtain rfl := Option.some.inj hb'
  obtain ⟨b1, hb1, hq⟩ := Option.bind_eq_some_iff.1 hq
  refine AW.regL [4, 5, 6, 7, 8, 22] ?_
  generalize hK : AW Tryz.prog _ _ _ = K
  simp only [go_sem, ↓reduceIte, reduceCtorEq, Nat.reduceAdd, Nat.reduceSub, Nat.reduceMul, Nat.reduceEqDiff, Nat.reduceLT, Nat.reduceLeDiff]
  subst hK
  refine AW.ifBF rfl rfl ?_
  refine AW.regL [4, 5, 6, 7, 8] ?_
  generalize hK : AW Tryz.prog _ _ _ = K
  simp only [go_sem, ↓reduceIte, reduceCtorEq, Nat.reduceAdd, Nat.reduceSub, Nat.reduceMul, Nat.reduceEqDiff, Nat.reduceLT, Nat.reduceLeDiff]
  refine arC.ok (CallOk.ic (us' := _) (ok108 _ b b1 hb1) [0] rfl (by decide) (by simp) (by simp) (by simp) (by simp) (.cons (.eq (by simp only [go_sem]) (by first | rfl | simp [upd_ap, hpL_ap, sg_ap])) (.nil _)) (by simp only [mapTL_cons, mapTL_nil, mapT_ptr, mapT_own, mapT_val, mapT_sl, mapT_agg, mapT_ip, mapT_clo, mapT_ifc, sg_ap, List.getD_cons_zero, List.getD_cons_succ]; exact (.cons (.of rfl) (.cons (.of rfl) .nil))) (by simp only [go_sem, List.length_cons, List.length_nil, Nat.reduceAdd, Nat.reduceLT, decide_true]) (by simp [AObj.isMut]) (by simp [go_sem]) (by simp [go_sem])) Tryz.call108 ?_
  simp only [go_sem, ↓reduceIte, reduceCtorEq, Nat.reduceAdd, Nat.reduceSub, Nat.reduceMul, Nat.reduceEqDiff, Nat.reduceLT, Nat.reduceLeDiff]
  subst hK
  refine AW.regL [4, 5, 6, 7, 8, 52, 53, 54] ?_
  generalize hK : AW Tryz.prog _ _ _ = K
  simp only [go_sem, ↓reduceIte, reduceCtorEq, Nat.reduceAdd, Nat.reduceSub, Nat.reduceMul, Nat.reduceEqDiff, Nat.reduceLT, Nat.reduceLeDiff]
  subst hK
  refine AW.block ?_
  refine AW.loopO (fun s => ⟨upd (upd (upd (upd (upd (upd (upd (upd anyF 4 (.ptr 0 0 0)) 5 (.ptr 1 0 0)) 6 (.ptr 2 0 0)) 7 (.ptr 3 0 0)) 8 (.sl (List.map enc3 run))) 52 (.sl (List.map enc3 run))) 53 (.val (.int .i64 (run.length : Int)))) 54 (.val (.int .i64 s.1)), hpP s.2.1 (IntKind.i64.wrap (many + 1)) s.2.2 l, 8⟩) (fun z e st' => e = Exit.exit 2 ∧ st' = ⟨upd (upd (upd (upd (upd anyF 4 (.ptr 0 0 0)) 5 (.ptr 1 0 0)) 6 (.ptr 2 0 0)) 7 (.ptr 3 0 0)) 8 (.sl (List.map enc3 run)), hpP z.1 (IntKind.i64.wrap (many + 1)) z.2 l, 8⟩) hq ?_ ?_ ?_
  · unfold hpP
    exact Ent.can [] _ _ _ rfl (by first | decide | simp) rfl ((((((((RF.any.pp (by decide) (by first | rfl | simp [upd_ap, hpL_ap, tau, mapT, mapTL, hpP])).pp (by decide) (by first | rfl | simp [upd_ap, hpL_ap, tau, mapT, mapTL, hpP])).pp (by decide) (by first | rfl | simp [upd_ap, hpL_ap, tau, mapT, mapTL, hpP])).pp (by decide) (by first | rfl | simp [upd_ap, hpL_ap, tau, mapT, mapTL, hpP])).pv (by first | rfl | simp only [go_sem]) (by first | rfl | simp [upd_ap, hpL_ap, tau, mapT, mapTL, hpP])).pv (by first | rfl | simp only [go_sem]) (by first | rfl | simp [upd_ap, hpL_ap, tau, mapT, mapTL, hpP])).pv (by first | rfl | simp only [go_sem]) (by first | rfl | simp [upd_ap, hpL_ap, tau, mapT, mapTL, hpP])).pv (by first | rfl | simp only [go_sem]) (by first | rfl | simp [upd_ap, hpL_ap, tau, mapT, mapTL, hpP])) (.cons (.eq (by simp only [go_sem]) (by first | rfl | simp [upd_ap, hpL_ap, tau, mapT, mapTL, hpP])) (.cons (.tok (by simp [tokL, tokLL, inlR]) (by first | rfl | simp [upd_ap, hpL_ap, tau, mapT, mapTL, hpP])) (.cons (.eq (by simp only [go_sem]) (by first | rfl | simp [upd_ap, hpL_ap, tau, mapT, mapTL, hpP])) (.cons (.eq (by simp only [go_sem]) (by first | rfl | simp [upd_ap, hpL_ap, tau, mapT, mapTL, hpP])) (.cons (.eq (by simp only [go_sem]) (by first | rfl | simp [upd_ap, hpL_ap, tau, mapT, mapTL, hpP])) (.nil _)))))) (.nil _)
  · clear hq hz hza hzb
    rintro ⟨i, bb, la⟩ x h
    rw [put_s] at h
    unfold hpP
    refine AW.regL [4, 5, 6, 7, 8, 52, 53, 54, 55] ?_
    generalize hK : AW Tryz.prog _ _ _ = K
    simp only [go_sem, ↓reduceIte, reduceCtorEq, Nat.reduceAdd, Nat.reduceSub, Nat.reduceMul, Nat.reduceEqDiff, Nat.reduceLT, Nat.reduceLeDiff]
    subst hK
    refine AW.seq ?_
    by_cases c : i < (run.length : Int)
    · rw [if_pos c] at h
      obtain ⟨n, hn, h⟩ := Option.bind_eq_some_iff.1 h
      obtain ⟨hna, hnb⟩ := ix_some.1 hn
      obtain ⟨bn, hbn, h⟩ := Option.bind_eq_some_iff.1 h
      refine AW.ifT rfl c ?_
      refine AW.skip ?_
      refine thenA_n ?_
      refine AW.seq ?_
      refine AW.block ?_
      refine AW.regL [4, 5, 6, 7, 8, 11, 52, 53, 54] ?_
      generalize hK : AW Tryz.prog _ _ _ = K
      simp only [go_sem, ↓reduceIte, reduceCtorEq, Nat.reduceAdd, Nat.reduceSub, Nat.reduceMul, Nat.reduceEqDiff, Nat.reduceLT, Nat.reduceLeDiff, eq_true c, natOf_le hna, hnb]
      subst hK
      refine AW.regL [4, 5, 6, 7, 8, 11, 52, 53, 54] ?_
      generalize hK : AW Tryz.prog _ _ _ = K
      simp only [go_sem, ↓reduceIte, reduceCtorEq, Nat.reduceAdd, Nat.reduceSub, Nat.reduceMul, Nat.reduceEqDiff, Nat.reduceLT, Nat.reduceLeDiff, eq_true c]
      refine arC.ok (CallOk.ic (us' := _) (ok108 _ bb bn hbn) [0] rfl (by decide) (by simp) (by simp) (by simp) (by simp) (.cons (.eq (by simp only [go_sem]) (by first | rfl | simp [upd_ap, hpL_ap, sg_ap])) (.nil _)) (by simp only [mapTL_cons, mapTL_nil, mapT_ptr, mapT_own, mapT_val, mapT_sl, mapT_agg, mapT_ip, mapT_clo, mapT_ifc, sg_ap, List.getD_cons_zero, List.getD_cons_succ]; exact (.cons (.of rfl) (.cons (.of rfl) .nil))) (by simp only [go_sem, List.length_cons, List.length_nil, Nat.reduceAdd, Nat.reduceLT, decide_true]) (by simp [AObj.isMut]) (by simp [go_sem]) (by simp [go_sem])) Tryz.call108 ?_
      simp only [go_sem, ↓reduceIte, reduceCtorEq, Nat.reduceAdd, Nat.reduceSub, Nat.reduceMul, Nat.reduceEqDiff, Nat.reduceLT, Nat.reduceLeDiff, eq_true c]
      subst hK
      refine AW.regionL [4, 5, 6, 7, 8, 52, 53, 54] ?_
      generalize hK : inBlockA _ _ Exit.normal = K
      simp only [go_sem, ↓reduceIte, reduceCtorEq, Nat.reduceAdd, Nat.reduceSub, Nat.reduceMul, Nat.reduceEqDiff, Nat.reduceLT, Nat.reduceLeDiff, eq_true c]
      subst hK
      refine block_n ?_
      refine thenA_n ?_
      refine AW.regionL [4, 5, 6, 7, 8, 52, 53, 54] ?_
      generalize hK : thenA _ _ Exit.normal = K
      simp only [go_sem, ↓reduceIte, reduceCtorEq, Nat.reduceAdd, Nat.reduceSub, Nat.reduceMul, Nat.reduceEqDiff, Nat.reduceLT, Nat.reduceLeDiff, eq_true c]
      subst hK
      refine thenA_n ?_
      refine ⟨_, (Option.some.inj h).symm, ?_⟩
      exact Ent.can [] _ _ _ rfl (by first | decide | simp) rfl ((((((((RF.any.pp (by decide) (by first | rfl | simp [upd_ap, hpL_ap, tau, mapT, mapTL, hpP])).pp (by decide) (by first | rfl | simp [upd_ap, hpL_ap, tau, mapT, mapTL, hpP])).pp (by decide) (by first | rfl | simp [upd_ap, hpL_ap, tau, mapT, mapTL, hpP])).pp (by decide) (by first | rfl | simp [upd_ap, hpL_ap, tau, mapT, mapTL, hpP])).pv (by first | rfl | simp only [go_sem]) (by first | rfl | simp [upd_ap, hpL_ap, tau, mapT, mapTL, hpP])).pv (by first | rfl | simp only [go_sem]) (by first | rfl | simp [upd_ap, hpL_ap, tau, mapT, mapTL, hpP])).pv (by first | rfl | simp only [go_sem]) (by first | rfl | simp [upd_ap, hpL_ap, tau, mapT, mapTL, hpP])).pv (by first | rfl | simp only [go_sem]) (by first | rfl | simp [upd_ap, hpL_ap, tau, mapT, mapTL, hpP])) (.cons (.eq (by simp only [go_sem]) (by first | rfl | simp [upd_ap, hpL_ap, tau, mapT, mapTL, hpP])) (.cons (.tok (by simp [tokL, tokLL, inlR]) (by first | rfl | simp [upd_ap, hpL_ap, tau, mapT, mapTL, hpP])) (.cons (.eq (by simp only [go_sem]) (by first | rfl | simp [upd_ap, hpL_ap, tau, mapT, mapTL, hpP])) (.cons (.eq (by simp only [go_sem]) (by first | rfl | simp [upd_ap, hpL_ap, tau, mapT, mapTL, hpP])) (.cons (.eq (by simp only [go_sem]) (by first | rfl | simp [upd_ap, hpL_ap, tau, mapT, mapTL, hpP])) (.nil _)))))) (.nil _)
    · rw [if_neg c] at h
      refine AW.ifF rfl c ?_
      refine AW.exit ?_
      refine thenA_x ?_
      refine thenA_x ?_
      refine ⟨_, (Option.some.inj h).symm, _, ?_, rfl, rfl⟩
      exact Ent.can [] _ _ _ rfl (by first | decide | simp) rfl (((((RF.any.pp (by decide) (by first | rfl | simp [upd_ap, hpL_ap, tau, mapT, mapTL, hpP])).pp (by decide) (by first | rfl | simp [upd_ap, hpL_ap, tau, mapT, mapTL, hpP])).pp (by decide) (by first | rfl | simp [upd_ap, hpL_ap, tau, mapT, mapTL, hpP])).pp (by decide) (by first | rfl | simp [upd_ap, hpL_ap, tau, mapT, mapTL, hpP])).pv (by first | rfl | simp only [go_sem]) (by first | rfl | simp [upd_ap, hpL_ap, tau, mapT, mapTL, hpP])) (.cons (.eq (by simp only [go_sem]) (by first | rfl | simp [upd_ap, hpL_ap, tau, mapT, mapTL, hpP])) (.cons (.tok (by simp [tokL, tokLL, inlR]) (by first | rfl | simp [upd_ap, hpL_ap, tau, mapT, mapTL, hpP])) (.cons (.eq (by simp only [go_sem]) (by first | rfl | simp [upd_ap, hpL_ap, tau, mapT, mapTL, hpP])) (.cons (.eq (by simp only [go_sem]) (by first | rfl | simp [upd_ap, hpL_ap, tau, mapT, mapTL, hpP])) (.cons (.eq (by simp only [go_sem]) (by first | rfl | simp [upd_ap, hpL_ap, tau, mapT, mapTL, hpP])) (.nil _)))))) (.nil _)
  · rintro e st' ⟨rfl, rfl⟩
    refine ⟨_, Ent.refl, ?_⟩
    refine block_x ?_
    unfold hpP
    refine thenA_n ?_
    refine AW.regionL [] ?_
    generalize hK : inBlockA _ _ Exit.normal = K
    simp only [go_sem, ↓reduceIte, reduceCtorEq, Nat.reduceAdd, Nat.reduceSub, Nat.reduceMul, Nat.reduceEqDiff, Nat.reduceLT, Nat.reduceLeDiff, natOf_le hza, hzb]
    subst hK
    refine block_n ?_
    refine ⟨rfl, ⟨anyF, hpP q.1 (IntKind.i64.wrap (many + 1)) z l, 8⟩, ?_, rfl, rfl⟩
    unfold hpP
    exact Ent.can [] _ _ _ rfl (by first | decide | simp) rfl RF.any (.cons (.eq (by simp only [go_sem]) (by first | rfl | simp [upd_ap, hpL_ap, tau, mapT, mapTL, hpP])) (.cons (.tok (by simp [tokL, tokLL, inlR]) (by first | rfl | simp [upd_ap, hpL_ap, tau, mapT, mapTL, hpP])) (.cons (.eq (by simp only [go_sem]) (by first | rfl | simp [upd_ap, hpL_ap, tau, mapT, mapTL, hpP])) (.cons (.eq (by simp only [go_sem]) (by first | rfl | simp [upd_ap, hpL_ap, tau, mapT, mapTL, hpP])) (.cons (.eq (by simp only [go_sem]) (by first | rfl | simp [upd_ap, hpL_ap, tau, mapT, mapTL, hpP])) (.nil _)))))) (.nil _)
end Au
end Go.Proofs.Yt

set_option linter.all false
set_option maxRecDepth 8000
set_option maxHeartbeats 1000000
namespace Go.Proofs.Yt
open Go.Gm
namespace Au
theorem low_P {N nx : Nat} {fr fr' : Nat → AV} (b : List Int) (many last : Int) (l : List Int) (hfr : RFl 8 fr fr') : Ent N ⟨fr, hpP b many last l, nx⟩ ⟨fr', hpP b many last l, 8⟩ := by
  refine Ent.low (by decide) (fun q hq => ?_) (fun q o ho => ?_) hfr
  · simp only [hpP, hpL_ap]
    rw [if_neg (by omega), List.getElem?_eq_none (by simp)]; rfl
  · simp only [hpP, hpL_ap] at ho
    split at ho
    · obtain _ | _ | _ | _ | _ | q := q
      · simp at ho; subst ho; exact ⟨_, _, _, rfl, by simp [tokL, tokLL, go_sem]⟩
      · simp at ho; subst ho; exact ⟨_, _, _, rfl, by simp [tokL, tokLL]⟩
      · simp at ho; subst ho; exact ⟨_, _, _, rfl, by simp [tokL, tokLL]⟩
      · simp at ho; subst ho; exact ⟨_, _, _, rfl, by simp [tokL, tokLL]⟩
      · simp at ho; subst ho; exact ⟨_, _, _, rfl, by simp [tokL, tokLL, go_sem]⟩
      · simp at ho
    · simp at ho
noncomputable def cut_s (l : List Int) (is : Bool) (n : Int) : Option (Int ⊕ Int) :=
  if n = 0 then some (.inl (IntKind.i64.wrap (n + 1))) else if is = true then some (.inr n) else if n < (l.length : Int) then (cutO? l n (l.length : Int)).bind fun tl => (f135 tl).bind fun e => if e = 0 then some (.inl (IntKind.i64.wrap (n + 1))) else some (.inr n) else some (.inr n)
noncomputable def cuts_s : List Int × List Int × Int × Int → Option ((List Int × List Int × Int × Int) ⊕ (List Int × Int × Int × List Int))
  | (l, b, many, last) => if 0 < (l.length : Int) then (f135 l).bind fun n0 => (loopO (cut_s l (decide (0 < n0))) n0).bind fun n => (cutO? l 0 n).bind fun run => (put_r run (decide (0 < n0)) b many last).bind fun r => (cutO? l n (l.length : Int)).bind fun tl => some (.inl (tl, r.1, r.2.1, r.2.2)) else some (.inr (b, many, last, l))
def tmP (yv : AV) (s : List Int × List Int × Int × Int) : ASt := ⟨upd (upd anyF 0 yv) 1 (.ptr 4 0 0), hpP s.2.1 s.2.2.1 s.2.2.2 s.1, 8⟩
theorem cuts_aw (a0 : List Int) (r : List Int × Int × Int × List Int) (hmain : loopO cuts_s (a0, [], 0, -1) = some r) (H : Two.Host) (hHfr : H.fr = frP) (hcode : getRange Tryz.f80.body.get! = some (H.assign, H.body)) (hHp : H.p = 18) (hHp2 : H.p2 = 19) (hsz : H.tmps.size = 77) (cg : Code) (hcg : Tryz.f134.body = some cg) :
    Two.AWH Tryz.prog 43 H cg (fun e s => (e = .normal ∨ e = .ret) ∧ s.hp = hpP r.1 r.2.1 r.2.2.1 r.2.2.2 ∧ 8 ≤ s.nx) ⟨initF [.val (.func (.yield H.L) #[] #[]), .ptr 4 0 0], hpP [] 0 (-1) a0, 8⟩ := by
 obtain rfl := Option.some.inj (hcg.symm.trans (rfl : Tryz.f134.body = some _))
 clear hcg
 generalize hyv : AV.val (.func (.yield H.L) #[] #[]) = yv
 have htyv : ∀ m, tokL m yv = true := fun m => by rw [← hyv]; simp [tokL]
 have hmyv : ∀ τ : Nat → Nat, mapT τ yv = yv := fun τ => by rw [← hyv]; simp only [mapT]
 obtain ⟨n, hn⟩ := loopO_iff.1 hmain
 refine Two.AWH.block ?_
 refine Two.AWH.loop (fun k st => ∃ s, iterO cuts_s k s = some r ∧ ∃ fr nx, fr 0 = yv ∧ fr 1 = .ptr 4 0 0 ∧ 8 ≤ nx ∧ st = ⟨fr, (tmP yv s).hp, nx⟩) n ⟨_, hn, _, 8, by simp [initF], by simp [initF], by decide, rfl⟩ ?_
 rintro k _ ⟨⟨l, b, many, last⟩, hk, fr0, nx, hfr0, hfr1, hnx, rfl⟩
 obtain _ | k := k
 · cases hk
 simp only [iterO] at hk
 cases hs : cuts_s (l, b, many, last) with
 | none => rw [hs] at hk; cases hk
 | some x => ?_
 rw [hs] at hk
 rw [cuts_s] at hs
 unfold tmP
 dsimp only
 refine Two.AWH.seq (Two.AWH.seq (Two.AWH.of hnx ?_))
 refine AW.ent (low_P b many last l (fr' := upd (upd anyF 0 yv) 1 (.ptr 4 0 0)) ?_) ?_
 · exact (RFl.any.put (htyv _) hfr0).put (by simp [tokL]) hfr1
 clear hfr0 hfr1 hnx
 unfold hpP
 by_cases c1 : 0 < (l.length : Int)
 · rw [if_pos c1] at hs
   obtain ⟨n0, hn0, hs⟩ := Option.bind_eq_some_iff.1 hs
   obtain ⟨n, hnn, hs⟩ := Option.bind_eq_some_iff.1 hs
   obtain ⟨run, hrun, hs⟩ := Option.bind_eq_some_iff.1 hs
   obtain ⟨rr, hrr, hs⟩ := Option.bind_eq_some_iff.1 hs
   obtain ⟨tl, htl, hs⟩ := Option.bind_eq_some_iff.1 hs
   obtain rfl := Option.some.inj hs
   dsimp only at hk
   refine AW.regionL [0, 1, 7] ?_
   generalize hK : thenA _ _ Exit.normal = K
   simp only [go_sem, ↓reduceIte, reduceCtorEq, Nat.reduceAdd, Nat.reduceSub, Nat.reduceMul, Nat.reduceEqDiff, Nat.reduceLT, Nat.reduceLeDiff, eq_true c1]
   subst hK
   refine thenA_n ?_
   refine Two.AWH.cond (b := true) rfl ?_
   refine Two.AWH.of (by dsimp only; omega) ?_
   refine AW.skip ?_
   refine thenA_n ?_
   refine Two.AWH.block ?_
   refine Two.AWH.seq (Two.AWH.of (by dsimp only; omega) ?_)
   refine AW.regionL [0, 1, 3] ?_
   generalize hK : thenA _ _ Exit.normal = K
   simp only [go_sem, ↓reduceIte, reduceCtorEq, Nat.reduceAdd, Nat.reduceSub, Nat.reduceMul, Nat.reduceEqDiff, Nat.reduceLT, Nat.reduceLeDiff, eq_true c1]
   refine arC.of (ok135 l n0 hn0) Tryz.call135 ?_
   simp only [go_sem, ↓reduceIte, reduceCtorEq, Nat.reduceAdd, Nat.reduceSub, Nat.reduceMul, Nat.reduceEqDiff, Nat.reduceLT, Nat.reduceLeDiff, eq_true c1]
   subst hK
   refine thenA_n ?_
   refine Two.AWH.seq (Two.AWH.of (by dsimp only; omega) ?_)
   refine AW.regionL [0, 1, 3, 4] ?_
   generalize hK : thenA _ _ Exit.normal = K
   simp only [go_sem, ↓reduceIte, reduceCtorEq, Nat.reduceAdd, Nat.reduceSub, Nat.reduceMul, Nat.reduceEqDiff, Nat.reduceLT, Nat.reduceLeDiff, eq_true c1]
   subst hK
   refine thenA_n ?_
   generalize hisd : decide (0 < n0) = is at hnn hrr
   refine Two.AWH.seq (Two.AWH.of (by dsimp only; omega) ?_)
   refine AW.mono (Q := fun e st' => e = .normal ∧ st' = ⟨upd (upd (upd (upd anyF 0 yv) 1 (.ptr 4 0 0)) 3 (.val (.int .i64 n))) 4 (.val (.bool is)), hpP b many last l, 8⟩) ?_ ?_
   rotate_left
   · rintro e st' ⟨rfl, rfl⟩
     refine ⟨_, Ent.refl, ?_⟩
     refine thenA_n ?_
     refine Two.AWH.seq (Two.AWH.seq (Two.AWH.yield 5 rfl rfl rfl (by dsimp only; omega) (by decide) (by rw [hHp, hsz]; decide) (by rw [hHp2, hsz]; decide) ?_))
     unfold hpP
     generalize hK : Two.YK _ _ _ _ _ _ _ _ _ _ _ = K
     simp only [go_sem, ↓reduceIte, reduceCtorEq, Nat.reduceAdd, Nat.reduceSub, Nat.reduceMul, Nat.reduceEqDiff, Nat.reduceLT, Nat.reduceLeDiff, cut_ns el48 sz3 (ml_enc3 _) hrun]
     subst hK
     refine ⟨by dsimp only; omega, rfl, by simp [upd_ap, hyv], ?_, ?_⟩
     · show ∀ q, tokL 8 (upd _ _ _ q) = true
       repeat' (first | exact tok_any | apply tok_upd)
       all_goals first | exact htyv _ | (simp [tokL, tokLL, inlR, inlL, go_sem]; done)
     rw [hsz, hHfr, hHp, hHp2]
     refine AW.ent (st' := ⟨upd (upd frP 18 (.sl (List.map enc3 run))) 19 (.val (.bool is)), hpP b many last l, 8⟩) (low_P b many last l ?_) ?_
     · exact (((((((RFl.any.put (by simp [tokL]) (by simp [upd_ap, frP])).put (by simp [tokL]) (by simp [upd_ap, frP])).put (by simp [tokL]) (by simp [upd_ap, frP])).put (by simp [tokL]) (by simp [upd_ap, frP])).put (by simp [tokL, tokLL]) (by simp [upd_ap, frP])).put (by simp [tokL, go_sem]) (by simp [upd_ap, frP])).put (by simp [tokL]) (by simp [upd_ap, frP]))
     refine (put_aw H.assign H.body hcode run is b many last l rr hrr).mono ?_
     rintro e s1 ⟨he, h8, hbody⟩
     refine ⟨s1, Ent.refl, he, h8, hbody.mono ?_⟩
     rintro e s2 ⟨he, hhp, hnx2⟩
     refine ⟨s2, Ent.refl, he, by rw [hnx2]; decide, ?_⟩
     rw [hhp, hnx2]
     clear hhp hnx2 hbody
     unfold hpP
     generalize hK : thenA _ _ Exit.normal = K
     simp only [go_sem, ↓reduceIte, reduceCtorEq, Nat.reduceAdd, Nat.reduceSub, Nat.reduceMul, Nat.reduceEqDiff, Nat.reduceLT, Nat.reduceLeDiff]
     subst hK
     refine thenA_n ?_
     refine Two.AWH.cond (b := false) rfl ?_
     refine Two.AWH.of (by dsimp only; omega) ?_
     refine AW.skip ?_
     refine thenA_n ?_
     refine Two.AWH.of (by dsimp only; omega) ?_
     refine AW.mono (Q := fun e st' => e = .normal ∧ st' = ⟨upd (upd anyF 0 yv) 1 (.ptr 4 0 0), hpP rr.1 rr.2.1 rr.2.2 tl, 8⟩) ?_ ?_
     rotate_left
     · rintro e st' ⟨rfl, rfl⟩
       refine ⟨_, Ent.refl, ?_⟩
       refine block_n ?_
       exact ⟨k, Nat.lt_succ_self k, _, hk, _, 8, by simp [upd_ap], by simp [upd_ap], Nat.le_refl _, rfl⟩
     refine AW.toK (K := fun st' => st' = ⟨upd (upd anyF 0 yv) 1 (.ptr 4 0 0), hpP rr.1 rr.2.1 rr.2.2 tl, 8⟩) ?_
     refine AW.regionL [0, 1] ?_
     generalize hK : (fun (st' : ASt) => _) = K
     simp only [go_sem, ↓reduceIte, reduceCtorEq, Nat.reduceAdd, Nat.reduceSub, Nat.reduceMul, Nat.reduceEqDiff, Nat.reduceLT, Nat.reduceLeDiff, cut_sn el48 sz3 (ml_enc3 _) htl]
     subst hK
     refine ⟨rfl, _, ?_, rfl⟩
     exact Ent.can [] _ _ _ rfl (by first | decide | simp) rfl ((RF.any.put (htyv _) (.of (by simp [restr_cons, restr_nil, upd_ap, hmyv]))).pp (by decide) (by first | rfl | simp [upd_ap, hpL_ap, tau, mapT, mapTL, hpP])) (.cons (.eq (by simp only [go_sem]) (by first | rfl | simp [upd_ap, hpL_ap, tau, mapT, mapTL, hpP])) (.cons (.tok (by simp [tokL, tokLL, inlR]) (by first | rfl | simp [upd_ap, hpL_ap, tau, mapT, mapTL, hpP])) (.cons (.eq (by simp only [go_sem]) (by first | rfl | simp [upd_ap, hpL_ap, tau, mapT, mapTL, hpP])) (.cons (.eq (by simp only [go_sem]) (by first | rfl | simp [upd_ap, hpL_ap, tau, mapT, mapTL, hpP])) (.cons (.eq (by simp only [go_sem]) (by first | rfl | simp [upd_ap, hpL_ap, tau, mapT, mapTL, hpP])) (.nil _)))))) (.nil _)
   refine AW.toK (K := fun st' => st' = ⟨upd (upd (upd (upd anyF 0 yv) 1 (.ptr 4 0 0)) 3 (.val (.int .i64 n))) 4 (.val (.bool is)), hpP b many last l, 8⟩) ?_
   refine AW.block ?_
   refine AW.loopO (fun s => ⟨upd (upd (upd (upd anyF 0 yv) 1 (.ptr 4 0 0)) 3 (.val (.int .i64 s))) 4 (.val (.bool is)), hpP b many last l, 8⟩) (fun z e st' => e = Exit.exit 2 ∧ st' = ⟨upd (upd (upd (upd anyF 0 yv) 1 (.ptr 4 0 0)) 3 (.val (.int .i64 z))) 4 (.val (.bool is)), hpP b many last l, 8⟩) hnn ?_ ?_ ?_
   · unfold hpP
     subst hisd
     exact Ent.can [] _ _ _ rfl (by first | decide | simp) rfl ((((RF.any.put (htyv _) (.of (by simp [restr_cons, restr_nil, upd_ap, hmyv]))).pp (by decide) (by first | rfl | simp [upd_ap, hpL_ap, tau, mapT, mapTL, hpP])).pv (by first | rfl | simp only [go_sem]) (by first | rfl | simp [upd_ap, hpL_ap, tau, mapT, mapTL, hpP])).pv (by first | rfl | simp only [go_sem]) (by first | rfl | simp [upd_ap, hpL_ap, tau, mapT, mapTL, hpP])) (.cons (.eq (by simp only [go_sem]) (by first | rfl | simp [upd_ap, hpL_ap, tau, mapT, mapTL, hpP])) (.cons (.tok (by simp [tokL, tokLL, inlR]) (by first | rfl | simp [upd_ap, hpL_ap, tau, mapT, mapTL, hpP])) (.cons (.eq (by simp only [go_sem]) (by first | rfl | simp [upd_ap, hpL_ap, tau, mapT, mapTL, hpP])) (.cons (.eq (by simp only [go_sem]) (by first | rfl | simp [upd_ap, hpL_ap, tau, mapT, mapTL, hpP])) (.cons (.eq (by simp only [go_sem]) (by first | rfl | simp [upd_ap, hpL_ap, tau, mapT, mapTL, hpP])) (.nil _)))))) (.nil _)
   · clear hnn hrun hrr htl hk
     rintro s x h
     rw [cut_s] at h
     unfold hpP
     by_cases c2 : s = 0
     · rw [if_pos c2] at h
       refine AW.seq (AW.seq ?_)
       refine AW.regionL [0, 1, 3, 4, 30] ?_
       generalize hK : thenA _ _ Exit.normal = K
       simp only [go_sem, ↓reduceIte, reduceCtorEq, Nat.reduceAdd, Nat.reduceSub, Nat.reduceMul, Nat.reduceEqDiff, Nat.reduceLT, Nat.reduceLeDiff, eq_true c2]
       subst hK
       refine thenA_n ?_
       refine AW.ifBT rfl rfl ?_
       refine AW.skip ?_
       refine thenA_n ?_
       refine AW.block ?_
       refine AW.regionL [0, 1, 3, 4] ?_
       generalize hK : inBlockA _ _ Exit.normal = K
       simp only [go_sem, ↓reduceIte, reduceCtorEq, Nat.reduceAdd, Nat.reduceSub, Nat.reduceMul, Nat.reduceEqDiff, Nat.reduceLT, Nat.reduceLeDiff, eq_true c2]
       subst hK
       refine block_n ?_
       refine thenA_n ?_
       refine ⟨_, (Option.some.inj h).symm, ?_⟩
       exact Ent.can [] _ _ _ rfl (by first | decide | simp) rfl ((((RF.any.put (htyv _) (.of (by simp [restr_cons, restr_nil, upd_ap, hmyv]))).pp (by decide) (by first | rfl | simp [upd_ap, hpL_ap, tau, mapT, mapTL, hpP])).pv (by first | rfl | simp only [go_sem]) (by first | rfl | simp [upd_ap, hpL_ap, tau, mapT, mapTL, hpP])).pv (by first | rfl | simp only [go_sem]) (by first | rfl | simp [upd_ap, hpL_ap, tau, mapT, mapTL, hpP])) (.cons (.eq (by simp only [go_sem]) (by first | rfl | simp [upd_ap, hpL_ap, tau, mapT, mapTL, hpP])) (.cons (.tok (by simp [tokL, tokLL, inlR]) (by first | rfl | simp [upd_ap, hpL_ap, tau, mapT, mapTL, hpP])) (.cons (.eq (by simp only [go_sem]) (by first | rfl | simp [upd_ap, hpL_ap, tau, mapT, mapTL, hpP])) (.cons (.eq (by simp only [go_sem]) (by first | rfl | simp [upd_ap, hpL_ap, tau, mapT, mapTL, hpP])) (.cons (.eq (by simp only [go_sem]) (by first | rfl | simp [upd_ap, hpL_ap, tau, mapT, mapTL, hpP])) (.nil _)))))) (.nil _)
     · rw [if_neg c2] at h
       cases is with
       | true =>
         rw [if_pos rfl] at h
         refine AW.seq (AW.seq ?_)
         refine AW.regionL [0, 1, 3, 4, 30] ?_
         generalize hK : thenA _ _ Exit.normal = K
         simp only [go_sem, ↓reduceIte, reduceCtorEq, Nat.reduceAdd, Nat.reduceSub, Nat.reduceMul, Nat.reduceEqDiff, Nat.reduceLT, Nat.reduceLeDiff, eq_false c2]
         subst hK
         refine thenA_n ?_
         refine AW.ifBF rfl rfl ?_
         refine AW.exit ?_
         refine thenA_x ?_
         refine thenA_x ?_
         refine ⟨_, (Option.some.inj h).symm, _, ?_, rfl, rfl⟩
         exact Ent.can [] _ _ _ rfl (by first | decide | simp) rfl ((((RF.any.put (htyv _) (.of (by simp [restr_cons, restr_nil, upd_ap, hmyv]))).pp (by decide) (by first | rfl | simp [upd_ap, hpL_ap, tau, mapT, mapTL, hpP])).pv (by first | rfl | simp only [go_sem]) (by first | rfl | simp [upd_ap, hpL_ap, tau, mapT, mapTL, hpP])).pv (by first | rfl | simp only [go_sem]) (by first | rfl | simp [upd_ap, hpL_ap, tau, mapT, mapTL, hpP])) (.cons (.eq (by simp only [go_sem]) (by first | rfl | simp [upd_ap, hpL_ap, tau, mapT, mapTL, hpP])) (.cons (.tok (by simp [tokL, tokLL, inlR]) (by first | rfl | simp [upd_ap, hpL_ap, tau, mapT, mapTL, hpP])) (.cons (.eq (by simp only [go_sem]) (by first | rfl | simp [upd_ap, hpL_ap, tau, mapT, mapTL, hpP])) (.cons (.eq (by simp only [go_sem]) (by first | rfl | simp [upd_ap, hpL_ap, tau, mapT, mapTL, hpP])) (.cons (.eq (by simp only [go_sem]) (by first | rfl | simp [upd_ap, hpL_ap, tau, mapT, mapTL, hpP])) (.nil _)))))) (.nil _)
       | false =>
         rw [if_neg (by decide)] at h
         by_cases c3 : s < (l.length : Int)
         · rw [if_pos c3] at h
           obtain ⟨tl2, htl2, h⟩ := Option.bind_eq_some_iff.1 h
           obtain ⟨e2, he2, h⟩ := Option.bind_eq_some_iff.1 h
           by_cases c4 : e2 = 0
           · rw [if_pos c4] at h
             refine AW.seq (AW.seq ?_)
             refine AW.regionL [0, 1, 3, 4, 30] ?_
             generalize hK : thenA _ _ Exit.normal = K
             simp only [go_sem, ↓reduceIte, reduceCtorEq, Nat.reduceAdd, Nat.reduceSub, Nat.reduceMul, Nat.reduceEqDiff, Nat.reduceLT, Nat.reduceLeDiff, eq_false c2, eq_true c3, eq_true c4, cut_sn el48 sz3 (ml_enc3 _) htl2]
             refine arC.of (ok135 tl2 e2 he2) Tryz.call135 ?_
             simp only [go_sem, ↓reduceIte, reduceCtorEq, Nat.reduceAdd, Nat.reduceSub, Nat.reduceMul, Nat.reduceEqDiff, Nat.reduceLT, Nat.reduceLeDiff, eq_false c2, eq_true c3, eq_true c4, cut_sn el48 sz3 (ml_enc3 _) htl2]
             subst hK
             refine thenA_n ?_
             refine AW.ifBT rfl rfl ?_
             refine AW.skip ?_
             refine thenA_n ?_
             refine AW.block ?_
             refine AW.regionL [0, 1, 3, 4] ?_
             generalize hK : inBlockA _ _ Exit.normal = K
             simp only [go_sem, ↓reduceIte, reduceCtorEq, Nat.reduceAdd, Nat.reduceSub, Nat.reduceMul, Nat.reduceEqDiff, Nat.reduceLT, Nat.reduceLeDiff, eq_true c3]
             subst hK
             refine block_n ?_
             refine thenA_n ?_
             refine ⟨_, (Option.some.inj h).symm, ?_⟩
             exact Ent.can [] _ _ _ rfl (by first | decide | simp) rfl ((((RF.any.put (htyv _) (.of (by simp [restr_cons, restr_nil, upd_ap, hmyv]))).pp (by decide) (by first | rfl | simp [upd_ap, hpL_ap, tau, mapT, mapTL, hpP])).pv (by first | rfl | simp only [go_sem]) (by first | rfl | simp [upd_ap, hpL_ap, tau, mapT, mapTL, hpP])).pv (by first | rfl | simp only [go_sem]) (by first | rfl | simp [upd_ap, hpL_ap, tau, mapT, mapTL, hpP])) (.cons (.eq (by simp only [go_sem]) (by first | rfl | simp [upd_ap, hpL_ap, tau, mapT, mapTL, hpP])) (.cons (.tok (by simp [tokL, tokLL, inlR]) (by first | rfl | simp [upd_ap, hpL_ap, tau, mapT, mapTL, hpP])) (.cons (.eq (by simp only [go_sem]) (by first | rfl | simp [upd_ap, hpL_ap, tau, mapT, mapTL, hpP])) (.cons (.eq (by simp only [go_sem]) (by first | rfl | simp [upd_ap, hpL_ap, tau, mapT, mapTL, hpP])) (.cons (.eq (by simp only [go_sem]) (by first | rfl | simp [upd_ap, hpL_ap, tau, mapT, mapTL, hpP])) (.nil _)))))) (.nil _)
           · rw [if_neg c4] at h
             refine AW.seq (AW.seq ?_)
             refine AW.regionL [0, 1, 3, 4, 30] ?_
             generalize hK : thenA _ _ Exit.normal = K
             simp only [go_sem, ↓reduceIte, reduceCtorEq, Nat.reduceAdd, Nat.reduceSub, Nat.reduceMul, Nat.reduceEqDiff, Nat.reduceLT, Nat.reduceLeDiff, eq_false c2, eq_true c3, eq_false c4, cut_sn el48 sz3 (ml_enc3 _) htl2]
             refine arC.of (ok135 tl2 e2 he2) Tryz.call135 ?_
             simp only [go_sem, ↓reduceIte, reduceCtorEq, Nat.reduceAdd, Nat.reduceSub, Nat.reduceMul, Nat.reduceEqDiff, Nat.reduceLT, Nat.reduceLeDiff, eq_false c2, eq_true c3, eq_false c4, cut_sn el48 sz3 (ml_enc3 _) htl2]
             subst hK
             refine thenA_n ?_
             refine AW.ifBF rfl rfl ?_
             refine AW.exit ?_
             refine thenA_x ?_
             refine thenA_x ?_
             refine ⟨_, (Option.some.inj h).symm, _, ?_, rfl, rfl⟩
             exact Ent.can [] _ _ _ rfl (by first | decide | simp) rfl ((((RF.any.put (htyv _) (.of (by simp [restr_cons, restr_nil, upd_ap, hmyv]))).pp (by decide) (by first | rfl | simp [upd_ap, hpL_ap, tau, mapT, mapTL, hpP])).pv (by first | rfl | simp only [go_sem]) (by first | rfl | simp [upd_ap, hpL_ap, tau, mapT, mapTL, hpP])).pv (by first | rfl | simp only [go_sem]) (by first | rfl | simp [upd_ap, hpL_ap, tau, mapT, mapTL, hpP])) (.cons (.eq (by simp only [go_sem]) (by first | rfl | simp [upd_ap, hpL_ap, tau, mapT, mapTL, hpP])) (.cons (.tok (by simp [tokL, tokLL, inlR]) (by first | rfl | simp [upd_ap, hpL_ap, tau, mapT, mapTL, hpP])) (.cons (.eq (by simp only [go_sem]) (by first | rfl | simp [upd_ap, hpL_ap, tau, mapT, mapTL, hpP])) (.cons (.eq (by simp only [go_sem]) (by first | rfl | simp [upd_ap, hpL_ap, tau, mapT, mapTL, hpP])) (.cons (.eq (by simp only [go_sem]) (by first | rfl | simp [upd_ap, hpL_ap, tau, mapT, mapTL, hpP])) (.nil _)))))) (.nil _)
         · rw [if_neg c3] at h
           refine AW.seq (AW.seq ?_)
           refine AW.regionL [0, 1, 3, 4, 30] ?_
           generalize hK : thenA _ _ Exit.normal = K
           simp only [go_sem, ↓reduceIte, reduceCtorEq, Nat.reduceAdd, Nat.reduceSub, Nat.reduceMul, Nat.reduceEqDiff, Nat.reduceLT, Nat.reduceLeDiff, eq_false c2, eq_false c3]
           subst hK
           refine thenA_n ?_
           refine AW.ifBF rfl rfl ?_
           refine AW.exit ?_
           refine thenA_x ?_
           refine thenA_x ?_
           refine ⟨_, (Option.some.inj h).symm, _, ?_, rfl, rfl⟩
           exact Ent.can [] _ _ _ rfl (by first | decide | simp) rfl ((((RF.any.put (htyv _) (.of (by simp [restr_cons, restr_nil, upd_ap, hmyv]))).pp (by decide) (by first | rfl | simp [upd_ap, hpL_ap, tau, mapT, mapTL, hpP])).pv (by first | rfl | simp only [go_sem]) (by first | rfl | simp [upd_ap, hpL_ap, tau, mapT, mapTL, hpP])).pv (by first | rfl | simp only [go_sem]) (by first | rfl | simp [upd_ap, hpL_ap, tau, mapT, mapTL, hpP])) (.cons (.eq (by simp only [go_sem]) (by first | rfl | simp [upd_ap, hpL_ap, tau, mapT, mapTL, hpP])) (.cons (.tok (by simp [tokL, tokLL, inlR]) (by first | rfl | simp [upd_ap, hpL_ap, tau, mapT, mapTL, hpP])) (.cons (.eq (by simp only [go_sem]) (by first | rfl | simp [upd_ap, hpL_ap, tau, mapT, mapTL, hpP])) (.cons (.eq (by simp only [go_sem]) (by first | rfl | simp [upd_ap, hpL_ap, tau, mapT, mapTL, hpP])) (.cons (.eq (by simp only [go_sem]) (by first | rfl | simp [upd_ap, hpL_ap, tau, mapT, mapTL, hpP])) (.nil _)))))) (.nil _)
   · rintro e st' ⟨rfl, rfl⟩
     refine ⟨_, Ent.refl, ?_⟩
     refine block_x ?_
     exact ⟨rfl, _, Ent.refl, rfl⟩
 · rw [if_neg c1] at hs
   obtain rfl := Option.some.inj hs
   obtain rfl := Option.some.inj hk
   refine AW.regionL [0, 1, 7] ?_
   generalize hK : thenA _ _ Exit.normal = K
   simp only [go_sem, ↓reduceIte, reduceCtorEq, Nat.reduceAdd, Nat.reduceSub, Nat.reduceMul, Nat.reduceEqDiff, Nat.reduceLT, Nat.reduceLeDiff, eq_false c1]
   subst hK
   refine thenA_n ?_
   refine Two.AWH.cond (b := false) rfl ?_
   refine Two.AWH.of (by dsimp only; omega) ?_
   refine AW.exit ?_
   refine thenA_x ?_
   refine thenA_x ?_
   refine block_x ?_
   exact ⟨.inl rfl, rfl, by dsimp only; omega⟩
end Au
end Go.Proofs.Yt

set_option linter.all false
set_option maxRecDepth 8000
set_option maxHeartbeats 1000000
namespace Go.Proofs.Yt
open Go.Gm
namespace Au
noncomputable def f58_s1 (a0 : List Int) : Int → Option (Int ⊕ (Bool ⊕ Unit))
  | s1_0 => (if s1_0 < (a0.length : Int) then ((ix a0 s1_0).bind fun x21 => (if x21 < 0 then some (.inr (.inl false)) else (if 1048576 < x21 then some (.inr (.inl false)) else (if 0 < s1_0 then ((ix a0 (IntKind.i64.wrap (s1_0 - 1))).bind fun x25 => (if x21 ≤ x25 then some (.inr (.inl false)) else some (.inl (IntKind.i64.wrap (s1_0 + 1))))) else some (.inl (IntKind.i64.wrap (s1_0 + 1))))))) else some (.inr (.inr ())))
noncomputable def f58 (a0 : List Int) : Option Bool := (if 65536 < (a0.length : Int) then some false else ((loopO (f58_s1 a0) 0).bind fun y27 => match y27 with | .inl y28 => some y28 | .inr _ => some true))
theorem ok58 (a0 : List Int) (r : Bool) (h : f58 a0 = some r) : PC Tryz.prog 58 [.sl (List.map enc3 a0)] (.val (.bool r)) := by
 rw [f58] at h
 refine pc_of8 (N := 35) (rs := [.tmp 2]) Tryz.func58 rfl rfl rfl (Nat.le_of_ble_eq_true rfl) ?_
 refine AW.rX [0] ?_
 refine AW.seq ?_
 refine AW.rX [0, 7] ?_
 by_cases c2 : 65536 < (a0.length : Int)
 ·rw [if_pos c2] at h
  refine AW.ifT rfl c2 ?_
  refine AW.rX [2] ?_
  refine AW.ret ?_
  refine thenA_r ?_
  obtain rfl := Option.some.inj h
  (simp only [go_sem, ↓reduceIte, reduceCtorEq, Nat.reduceAdd, Nat.reduceSub, Nat.reduceMul, Nat.reduceEqDiff, Nat.reduceLT, Nat.reduceLeDiff, eq_true c2, finA] <;> try simp)
 ·rw [if_neg c2] at h
  refine AW.ifF rfl c2 ?_
  refine AW.skip ?_
  refine thenA_n ?_
  refine AW.seq ?_
  refine AW.rX [0, 8, 9, 10] ?_
  refine AW.block ?_
  obtain ⟨y27, hy27, h⟩ := Option.bind_eq_some_iff.1 h
  refine AW.loopO (fun s => ⟨(upd (upd (upd (upd anyF 0 (.sl (List.map enc3 a0))) 8 (.sl (List.map enc3 a0))) 9 (.val (.int .i64 (a0.length : Int)))) 10 (.val (.int .i64 s))), hpL [] [], 8⟩) (fun y e st' => match y with | .inl z => e = Exit.ret ∧ finA Tryz.prog [.tmp 2] (.val (.bool z)) .ret st' | .inr z => e = Exit.exit 0 ∧ st' = ⟨anyF, hpL [] [], 8⟩) hy27 ?_ ?_ ?_
  ·exact Ent.canq [] RF.any.qv.qv.qv.qv (.nil _) (.nil _)
  ·clear h hy27
   rintro s1_0 x h
   rw [f58_s1] at h
   refine AW.regL [0, 8, 9, 10, 11] ?_
   generalize hK : AW Tryz.prog _ _ _ = K
   simp only [go_sem, ↓reduceIte, reduceCtorEq, Nat.reduceAdd, Nat.reduceSub, Nat.reduceMul, Nat.reduceEqDiff, Nat.reduceLT, Nat.reduceLeDiff, eq_false c2]
   subst hK
   refine AW.seq ?_
   by_cases c20 : s1_0 < (a0.length : Int)
   ·rw [if_pos c20] at h
    refine AW.ifT rfl c20 ?_
    refine AW.skip ?_
    refine thenA_n ?_
    refine AW.seq ?_
    refine AW.block ?_
    obtain ⟨x21, hx21, h⟩ := Option.bind_eq_some_iff.1 h
    obtain ⟨hx21a, hx21b⟩ := ix_some.1 hx21
    refine AW.regL [0, 3, 4, 8, 9, 10] ?_
    generalize hK : AW Tryz.prog _ _ _ = K
    simp only [go_sem, ↓reduceIte, reduceCtorEq, Nat.reduceAdd, Nat.reduceSub, Nat.reduceMul, Nat.reduceEqDiff, Nat.reduceLT, Nat.reduceLeDiff, eq_false c2, eq_true c20, natOf_le hx21a, hx21b]
    subst hK
    by_cases c22 : x21 < 0
    ·rw [if_pos c22] at h
     refine AW.regL [0, 8, 9, 10, 33] ?_
     generalize hK : AW Tryz.prog _ _ _ = K
     simp only [go_sem, ↓reduceIte, reduceCtorEq, Nat.reduceAdd, Nat.reduceSub, Nat.reduceMul, Nat.reduceEqDiff, Nat.reduceLT, Nat.reduceLeDiff, eq_false c2, eq_true c20, eq_true c22]
     subst hK
     refine AW.ifBT rfl rfl ?_
     refine AW.regL [2] ?_
     generalize hK : AW Tryz.prog _ _ _ = K
     simp only [go_sem, ↓reduceIte, reduceCtorEq, Nat.reduceAdd, Nat.reduceSub, Nat.reduceMul, Nat.reduceEqDiff, Nat.reduceLT, Nat.reduceLeDiff, eq_false c2, eq_true c20, eq_true c22]
     subst hK
     refine AW.ret ?_
     refine block_r ?_
     refine thenA_r ?_
     refine thenA_r ?_
     refine ⟨_, (Option.some.inj h).symm, _, Ent.refl, rfl, ?_⟩
     (simp only [go_sem, ↓reduceIte, reduceCtorEq, Nat.reduceAdd, Nat.reduceSub, Nat.reduceMul, Nat.reduceEqDiff, Nat.reduceLT, Nat.reduceLeDiff, eq_false c2, eq_true c20, eq_true c22, finA] <;> try simp)
    ·rw [if_neg c22] at h
     by_cases c23 : 1048576 < x21
     ·rw [if_pos c23] at h
      refine AW.regL [0, 8, 9, 10, 33] ?_
      generalize hK : AW Tryz.prog _ _ _ = K
      simp only [go_sem, ↓reduceIte, reduceCtorEq, Nat.reduceAdd, Nat.reduceSub, Nat.reduceMul, Nat.reduceEqDiff, Nat.reduceLT, Nat.reduceLeDiff, eq_false c2, eq_true c20, eq_false c22, eq_true c23]
      subst hK
      refine AW.ifBT rfl rfl ?_
      refine AW.rX [2] ?_
      refine AW.ret ?_
      refine block_r ?_
      refine thenA_r ?_
      refine thenA_r ?_
      refine ⟨_, (Option.some.inj h).symm, _, Ent.refl, rfl, ?_⟩
      (simp only [go_sem, ↓reduceIte, reduceCtorEq, Nat.reduceAdd, Nat.reduceSub, Nat.reduceMul, Nat.reduceEqDiff, Nat.reduceLT, Nat.reduceLeDiff, eq_false c2, eq_true c20, eq_false c22, eq_true c23, finA] <;> try simp)
     ·rw [if_neg c23] at h
      by_cases c24 : 0 < s1_0
      ·rw [if_pos c24] at h
       obtain ⟨x25, hx25, h⟩ := Option.bind_eq_some_iff.1 h
       obtain ⟨hx25a, hx25b⟩ := ix_some.1 hx25
       refine AW.regL [0, 8, 9, 10, 33] ?_
       generalize hK : AW Tryz.prog _ _ _ = K
       simp only [go_sem, ↓reduceIte, reduceCtorEq, Nat.reduceAdd, Nat.reduceSub, Nat.reduceMul, Nat.reduceEqDiff, Nat.reduceLT, Nat.reduceLeDiff, eq_false c2, eq_true c20, eq_false c22, eq_false c23, eq_true c24, natOf_le hx25a, hx25b]
       subst hK
       by_cases c26 : x21 ≤ x25
       ·rw [if_pos c26] at h
        refine AW.ifT rfl c26 ?_
        refine AW.rX [2] ?_
        refine AW.ret ?_
        refine block_r ?_
        refine thenA_r ?_
        refine thenA_r ?_
        refine ⟨_, (Option.some.inj h).symm, _, Ent.refl, rfl, ?_⟩
        (simp only [go_sem, ↓reduceIte, reduceCtorEq, Nat.reduceAdd, Nat.reduceSub, Nat.reduceMul, Nat.reduceEqDiff, Nat.reduceLT, Nat.reduceLeDiff, eq_false c2, eq_true c20, eq_false c22, eq_false c23, eq_true c24, eq_true c26, finA] <;> try simp)
       ·rw [if_neg c26] at h
        refine AW.ifF rfl c26 ?_
        refine AW.skip ?_
        refine block_n ?_
        refine thenA_n ?_
        refine AW.regionL [0, 8, 9, 10] ?_
        generalize hK : thenA _ _ Exit.normal = K
        simp only [go_sem, ↓reduceIte, reduceCtorEq, Nat.reduceAdd, Nat.reduceSub, Nat.reduceMul, Nat.reduceEqDiff, Nat.reduceLT, Nat.reduceLeDiff, eq_false c2, eq_true c20, eq_false c22, eq_false c23, eq_true c24, eq_false c26]
        subst hK
        refine thenA_n ?_
        refine ⟨_, (Option.some.inj h).symm, ?_⟩
        exact Ent.canq [] RF.any.qv.qv.qv.qv (.nil _) (.nil _)
      ·rw [if_neg c24] at h
       refine AW.regL [0, 8, 9, 10, 33] ?_
       generalize hK : AW Tryz.prog _ _ _ = K
       simp only [go_sem, ↓reduceIte, reduceCtorEq, Nat.reduceAdd, Nat.reduceSub, Nat.reduceMul, Nat.reduceEqDiff, Nat.reduceLT, Nat.reduceLeDiff, eq_false c2, eq_true c20, eq_false c22, eq_false c23, eq_false c24]
       subst hK
       refine AW.ifBF rfl rfl ?_
       refine AW.skip ?_
       refine block_n ?_
       refine thenA_n ?_
       refine AW.rY [0, 8, 9, 10] ?_
       refine thenA_n ?_
       refine ⟨_, (Option.some.inj h).symm, ?_⟩
       exact Ent.canq [] RF.any.qv.qv.qv.qv (.nil _) (.nil _)
   ·rw [if_neg c20] at h
    refine AW.ifF rfl c20 ?_
    refine AW.exit ?_
    refine thenA_x ?_
    refine thenA_x ?_
    refine ⟨_, (Option.some.inj h).symm, _, ?_, rfl, rfl⟩
    exact Ent.canq [] RF.any (.nil _) (.nil _)
  ·intro e st' hX
   rcases y27 with y28 | _ <;> dsimp only at h hX
   ·obtain ⟨rfl, hf⟩ := hX
    refine ⟨_, Ent.refl, ?_⟩
    refine block_r ?_
    refine thenA_r ?_
    obtain rfl := Option.some.inj h
    exact hf
   ·obtain ⟨rfl, rfl⟩ := hX
    refine ⟨_, Ent.refl, ?_⟩
    refine block_x ?_
    refine thenA_n ?_
    refine AW.rX [2] ?_
    refine AW.ret ?_
    obtain rfl := Option.some.inj h
    (simp only [go_sem, ↓reduceIte, reduceCtorEq, Nat.reduceAdd, Nat.reduceSub, Nat.reduceMul, Nat.reduceEqDiff, Nat.reduceLT, Nat.reduceLeDiff, eq_false c2, finA] <;> try simp)
end Au
end Go.Proofs.Yt

set_option linter.unusedVariables false
set_option linter.unusedSimpArgs false
namespace Go.Gm
def Act.app (ds : List Deferred) (a : Act) : Act := { a with defers := a.defers ++ ds }
theorem app_put {ds : List Deferred} {a : Act} {d : Option Tmp} {v : Value} : (Act.app ds a).put d v = Act.app ds (a.put d v) := by cases d <;> rfl
theorem app_eval {ds : List Deferred} {a : Act} : (Act.app ds a).eval = a.eval := by funext o; cases o <;> rfl
theorem oper_app {P : Program} {ds : List Deferred} {o : Oper} {a : Act} {w : World} {K K' : Act → World → Prop} {Q Q' : Exit → Act → World → Prop} (hQ : ∀ e a w, Q e a w → e = .normal) (hk : ∀ a w, K a w → K' (Act.app ds a) w)
    (h : o.wp P a w K Q) : o.wp P (Act.app ds a) w K' Q' := by
  unfold Oper.wp at h ⊢
  rw [app_eval]
  generalize (execOp a.eval o).run P w = r at h ⊢
  cases r with
  | ok x w' =>
    cases x with
    | value v => rw [Oper.upon_value] at h ⊢; rw [app_put]; exact hk _ _ h
    | skip => rw [Oper.upon_skip] at h ⊢; rw [app_put]; exact hk _ _ h
    | «defer» d =>
      rw [Oper.upon_defer] at h ⊢
      have e : ({ Act.app ds a with defers := d :: (Act.app ds a).defers } : Act) = Act.app ds { a with defers := d :: a.defers } := rfl
      rw [e, app_put]; exact hk _ _ h
    | enter f args =>
      rw [Oper.upon_enter] at h ⊢
      refine Calls.mono h fun e w' he => ?_
      cases e with
      | returned v => simp only at he ⊢; rw [app_put]; exact hk _ _ he
      | panicked ch => exact absurd (hQ _ _ _ he) (by simp)
      | outgrown => obtain ⟨a, w, h⟩ := he; exact absurd (hQ _ _ _ h) (by simp)
    | row row args =>
      rw [Oper.upon_row] at h ⊢
      intro c cs
      obtain ⟨v, w', r, s⟩ := h c cs
      exact ⟨v, w', by dsimp only; rw [app_put]; exact hk _ _ r, s⟩
    | _ => exact h.elim
  | halt x w' =>
    cases x with
    | panic v => exact absurd (hQ _ _ _ h) (by simp)
    | _ => exact h.elim
theorem op_app {P : Program} {ds : List Deferred} {ops : Array Oper} {Q Q' : Exit → Act → World → Prop} (hQ : ∀ e a w, Q e a w → e = .normal) {i : Nat} {K K' : Act → World → Prop} (hk : ∀ a w, K a w → K' (Act.app ds a) w) {a : Act} {w : World} (h : wpOp P ops Q i K a w) : wpOp P ops Q' i K' (Act.app ds a) w := by
  unfold wpOp at h ⊢
  split
  · rename_i ho
    simp only [ho] at h
    exact hk _ _ h
  · rename_i o ho
    simp only [ho] at h
    have ht : (Act.app ds a).tmps = a.tmps := rfl
    rw [ht]
    split
    · rename_i hw
      rw [if_pos hw] at h
      rcases h with h | h
      · exact .inl (oper_app hQ hk h)
      · obtain ⟨_, a, w, h⟩ := h
        exact absurd (hQ _ _ _ h) (by simp)
    · rename_i hw
      rw [if_neg hw] at h
      rw [app_put]
      exact hk _ _ h
theorem any_app {P : Program} {ds : List Deferred} {ops : Array Oper} {Q Q' : Exit → Act → World → Prop} {md : Region.Mode} (hQ : ∀ e a w, Q e a w → e = .normal) (hk : ∀ a w, Q .normal a w → Q' .normal (Act.app ds a) w) : ∀ (k : Nat) (listed : Array Bool) (a : Act) (w : World), wpAny P md ops Q k listed a w → wpAny P md ops Q' k listed (Act.app ds a) w
  | 0, listed, a, w, h => ⟨h.1, hk _ _ h.2⟩
  | k + 1, listed, a, w, h => ⟨fun e => hk _ _ (h.1 e), fun i hi => op_app hQ (fun a w h => any_app hQ hk k _ a w h) (h.2 i hi)⟩
section
variable {P : Program} {ft : FuncId → List AV → Option AV} {N : Nat} {G : Ghost P} {ops : List Oper}
theorem draw_any {st : ASt} {Q : ASt → Prop} (A : List (List Nat)) (ord : List Nat) (ft : FuncId → List AV → Option AV) (hft : FtOk P ft) (hs : statB A ord ops = true) (hp : pairB A ord ops = true) {a : Act} {w : World} (hc : Conc G N st a w)
    (h : adrun P ft N ops A st.nx (pick ops ord) st.fr st.hp [] fun fr hp => Q ⟨fr, hp, st.nx + 8 * ops.length⟩) : wpAny P .any ops.toArray (fun e a' w' => e = .normal ∧ ∃ st', Q st' ∧ Conc G N st' a' w') ops.toArray.size (Array.replicate ops.toArray.size false) a { w with drawn := w.drawn + 1 } := by
  have hperm : permB ord ops.length = true := by unfold statB at hs; simp only [Bool.and_eq_true] at hs; exact hs.1
  simp only [permB, Bool.and_eq_true, decide_eq_true_eq, List.all_eq_true] at hperm
  obtain ⟨⟨⟨ho1, ho2⟩, ho3⟩, ho4⟩ := hperm
  obtain ⟨hpm1, hpm2⟩ := pick_map (ops := ops) ord ho3
  obtain ⟨L, q1, q2, q3, q4, _, q6⟩ := adrun_events _ _ _ _ h hpm2
  rw [hpm1] at q3
  obtain ⟨c1, c2, loc, hM, hrel⟩ := hc
  have hMd := hM.world (w' := { w with drawn := w.drawn + 1 }) rfl rfl rfl rfl
  have xd : Ext (mkE G.m1 st.hp (fun t => t < st.nx) loc w) (mkE G.m1 st.hp (fun t => t < st.nx) loc { w with drawn := w.drawn + 1 }) := Ext.world rfl
  have hlen : L.length = ops.length := by have := congrArg List.length q3; simp at this; omega
  have hord : ∀ k (hk : k < L.length), ord[k]? = some L[k].i := fun k hk => by
    rw [← q3]; simp [hk]
  have hrk : ∀ k (hk : k < L.length), ord.idxOf L[k].i = k := fun k hk => by
    have h1 : k < ord.length := by omega
    have h2 : ord[k] = L[k].i := by have := hord k hk; rw [List.getElem?_eq_getElem h1] at this; exact Option.some.inj this
    rw [← h2]; exact ho2.idxOf_getElem k h1
  have hfalse : ∀ i, (Array.replicate ops.toArray.size false).getD i false = false := fun i => by
    by_cases hi : i < ops.length <;> simp [hi]
  obtain ⟨hM2, x2⟩ := hMd.more (al' := alD st.nx (Array.replicate ops.toArray.size false)) (fun t ht => .inl ht)
  have hsz : ops.toArray.size = ops.length := by simp
  rw [show ops.toArray.size = ops.length from hsz]
  refine any_sound (G := G) (A := A) (ord := ord) hft hs ops.length L (Array.replicate ops.length false) st.fr st.hp a { w with drawn := w.drawn + 1 } hlen ?_ q2 ?_ ?_
  · refine ⟨by simp, fun i hi _ => ?_, fun e he => ?_, ?_, ?_, fun i hi => ?_⟩
    · have : i ∈ ord := by
        simpa using ho4 i (by simpa using hi)
      rw [← q3] at this
      obtain ⟨e, he, rfl⟩ := List.mem_map.1 this
      exact ⟨e, he, rfl⟩
    · obtain ⟨k, hk, rfl⟩ := List.getElem_of_mem he
      have hlt : L[k].i < ops.length := (List.getElem?_eq_some_iff.1 (q4 _ he)).1
      exact ⟨hlt, by simp [hlt], q4 _ he⟩
    · rw [List.pairwise_iff_getElem]
      intro i j hi hj hij
      rw [hrk i hi, hrk j hj]; exact hij
    · rw [List.pairwise_iff_getElem]
      intro i j hi hj hij
      have h6 := (List.pairwise_iff_getElem.1 q6) i j hi hj hij
      have h7 := pairB_at hp hij (hord i hi) (hord j hj) (q4 _ (List.getElem_mem hi)) (q4 _ (List.getElem_mem hj))
      rcases h7 with h7 | h7
      · exact .inl h7
      · rcases h6 with h6 | ⟨a1, a2, a3⟩
        · exact .inl h6
        · obtain ⟨s1, s2, s3⟩ := Oper.apart_spec h7
          exact .inr ⟨s1, s2, s3, a1, a2, a3⟩
    · rw [← hsz, hfalse] at hi; cases hi
  · rw [← hsz]
    exact ⟨c1, c2, loc, hM2, fun d => ((hrel d).ext xd).ext x2⟩
  · rintro listed a' w' ⟨d1, d2, loc', hM', hrel'⟩ hls
    obtain ⟨hM3, x3⟩ := hM'.more (al' := fun t => t < st.nx + 8 * ops.length) (fun t ht => by
      rcases ht with ht | ⟨i, hi, h1, h2⟩
      · omega
      · have : i < ops.length := by
          rw [← hls]
          by_cases hlt : i < listed.size
          · exact hlt
          · simp [hlt] at hi
        omega)
    exact ⟨rfl, _, q1, d1, d2, loc', hM3, fun d => (hrel' d).ext x3⟩
end
theorem tail_draw {P : Program} {G : Ghost P} {N id : Nat} {ops : List Oper} {st : ASt} {D : Nat} {rs : List ResultVar} {X : AV} {loc : Nat → Option Loc} {a : Act} {w : World} (hd : a.defers = [{ target := .collected D, args := #[] }]) (hD : w.heap[D]? = some (.deferred (some []))) (hGD : G.w0.heap.size ≤ D)
    (hB : MemB P (fun b => G.m1 b ∨ b = D ∨ b = D + 1) st.hp (fun t => t < st.nx) loc w) (hH : Hist G st.hp (fun t => t < st.nx) loc w) (hr : ∀ d, Rel (mkE (fun b => G.m1 b ∨ b = D ∨ b = D + 1) st.hp (fun t => t < st.nx) loc w) (st.fr d) (a.tmps.getD d undef))
    (h8 : 8 ≤ st.nx) (hsz : a.tmps.size = N) (l : List Nat) (A : List (List Nat)) (ord : List Nat) (ft : FuncId → List AV → Option AV) (hft : FtOk P ft) (hm : P.follows .mixedOrders = true) (hs : statB A ord ops = true) (hp : pairB A ord ops = true)
    (h : adrun P ft N ops A st.nx (pick ops ord) st.fr st.hp [] fun fr hp => RetK P N rs X ⟨restr fr l, hp, st.nx + 8 * ops.length⟩) : (Code.seq (.region id ops.toArray true) .ret).wp P (FinM G rs X) a w := by
  have hM := hB.mem (fun t (ht : t < 8) => Nat.lt_of_lt_of_le ht h8)
  refine wp_seq (wp_region_any hm ?_)
  have hc : Conc hB.g N st { a with defers := [] } w := ⟨rfl, hsz, loc, hM, hr⟩
  have ha : a = Act.app [{ target := .collected D, args := #[] }] { a with defers := [] } := by simp only [Act.app, List.nil_append]; rw [← hd]
  have h1 := draw_any (Q := fun s => RetK P N rs X ⟨restr s.fr l, s.hp, s.nx⟩) A ord ft hft hs hp hc h
  rw [ha]
  refine any_app (fun e a w h => h.1) ?_ _ _ _ _ h1
  rintro a' w' ⟨-, s, hs, hc'⟩
  obtain ⟨s2, hE, hfin⟩ := hs
  have hd' : a'.defers = [] := hc'.1
  obtain ⟨e1, e2, loc1, hM1, hr1⟩ := hE P _ _ _ (Ent.restr l P _ _ _ hc')
  refine wp_ret ⟨.inr rfl, D, s2, loc1, ?_, (hB.kept hM1 (.inr (.inl rfl))).trans hD, hGD, hB.back hM1, hH.back hB hM1, hr1, hfin⟩
  simp only [Act.app, hd', List.nil_append]
end Go.Gm

set_option linter.all false
set_option maxRecDepth 8000
set_option maxHeartbeats 1000000
namespace Go.Gm
theorem oneAV_clo {hp : AHeap} (g : Fn) (f c : List AV) : oneAV hp (.clo g f c) = true := by simp only [oneAV]
theorem cellsOf_clo (g : Fn) (f c : List AV) : cellsOf (.clo g f c) = [.clo g f c] := rfl
end Go.Gm
namespace Go.Proofs.Yt
open Go.Gm
namespace Au
theorem ic110 (l : List Int) : IC Tryz.prog 110 [] [.sl (List.map enc3 l)] (.clo (.func 134) [] [.ptr 8 0 0]) [] [some (.row 1 true [[.sl (List.map enc3 l)]])] := by
 refine ic_ofJ (N := 4) (rs := [.tmp 2]) Tryz.func110 rfl rfl rfl (Nat.le_of_ble_eq_true rfl) ?_
 refine AW.regL [1] ?_
 generalize hK : AW Tryz.prog _ _ _ = K
 simp only [go_sem, ↓reduceIte, reduceCtorEq, Nat.reduceAdd, Nat.reduceSub, Nat.reduceMul, Nat.reduceEqDiff, Nat.reduceLT, Nat.reduceLeDiff]
 subst hK
 refine AW.regL [2] ?_
 generalize hK : AW Tryz.prog _ _ _ = K
 simp only [go_sem, ↓reduceIte, reduceCtorEq, Nat.reduceAdd, Nat.reduceSub, Nat.reduceMul, Nat.reduceEqDiff, Nat.reduceLT, Nat.reduceLeDiff]
 subst hK
 refine AW.ret ?_
 refine ⟨⟨upd anyF 2 (.clo (.func 134) [] [.ptr 8 0 0]), hpL [] [some (.row 1 true [[.sl (List.map enc3 l)]])], 9⟩, ?_, ?_⟩
 · refine Ent.can [8] _ _ _ rfl (by first | decide | simp) rfl ?_ (.nil _) (.cons (.eq (by simp only [go_sem]) (by first | rfl | simp [upd_ap, hpL_ap, tau])) (.nil _))
   exact RF.any.put (by simp [tokL, tokLL]) (.of (by simp [upd_ap, tau, mapT, mapTL]))
 exact ⟨rfl, rfl, _, rfl, by first | rfl | simp [resOf, upd_ap]⟩
noncomputable def f80 (a0 : List Int) : Option (List Int × Int) := (f58 a0).bind fun ok => (guardO (ok = true)).bind fun _ => (loopO cuts_s (a0, [], 0, -1)).bind fun r => (f109 [] (IntKind.u64.wrap r.2.1)).bind fun h => (appO? h r.1).bind fun o => some (o, 0)
theorem ok80 (a0 : List Int) (r : List Int × Int) (h : f80 a0 = some r) : PC Tryz.prog 80 [.sl (List.map enc3 a0)] (.tup [.fr 1 (List.map enc5 r.1), .val (.int .i64 r.2)]) := by
 obtain ⟨ok, hok, h⟩ := Option.bind_eq_some_iff.1 h
 obtain ⟨gu, hg, h2⟩ := Option.bind_eq_some_iff.1 h
 clear h
 have hg2 : ok = true := guardO_some.1 hg
 rw [hg2] at hok
 clear hg hg2
 obtain ⟨q, hq, h⟩ := Option.bind_eq_some_iff.1 h2
 obtain ⟨hd, hhd, h⟩ := Option.bind_eq_some_iff.1 h
 obtain ⟨o, ho, h⟩ := Option.bind_eq_some_iff.1 h
 obtain rfl := Option.some.inj h
 dsimp only
 refine pc_of_marks (N := 77) (rs := [.tmp 2, .tmp 3]) Tryz.func80 rfl rfl rfl (Nat.le_of_ble_eq_true rfl) fun G hn0 => ?_
 refine Cont.reg [0] ?_
 generalize hK : Cont G _ _ _ = K
 simp only [go_sem, ↓reduceIte, reduceCtorEq, Nat.reduceAdd, Nat.reduceSub, Nat.reduceMul, Nat.reduceEqDiff, Nat.reduceLT, Nat.reduceLeDiff]
 subst hK
 refine Cont.seq ?_
 refine Cont.reg [0, 14] ?_
 generalize hK : Cont G _ _ _ = K
 simp only [go_sem, ↓reduceIte, reduceCtorEq, Nat.reduceAdd, Nat.reduceSub, Nat.reduceMul, Nat.reduceEqDiff, Nat.reduceLT, Nat.reduceLeDiff]
 refine arC.of (ok58 a0 true hok) Tryz.call58 ?_
 simp only [go_sem, ↓reduceIte, reduceCtorEq, Nat.reduceAdd, Nat.reduceSub, Nat.reduceMul, Nat.reduceEqDiff, Nat.reduceLT, Nat.reduceLeDiff]
 subst hK
 refine Cont.condF rfl ?_
 refine Cont.reg [0, 4] ?_
 generalize hK : Cont G _ _ _ = K
 simp only [go_sem, ↓reduceIte, reduceCtorEq, Nat.reduceAdd, Nat.reduceSub, Nat.reduceMul, Nat.reduceEqDiff, Nat.reduceLT, Nat.reduceLeDiff]
 subst hK
 refine Cont.reg [0, 4, 5] ?_
 generalize hK : Cont G _ _ _ = K
 simp only [go_sem, ↓reduceIte, reduceCtorEq, Nat.reduceAdd, Nat.reduceSub, Nat.reduceMul, Nat.reduceEqDiff, Nat.reduceLT, Nat.reduceLeDiff, oneAV_clo, cellsOf_clo]
 subst hK
 refine Cont.reg [0, 4, 5, 6, 7] ?_
 generalize hK : Cont G _ _ _ = K
 simp only [go_sem, ↓reduceIte, reduceCtorEq, Nat.reduceAdd, Nat.reduceSub, Nat.reduceMul, Nat.reduceEqDiff, Nat.reduceLT, Nat.reduceLeDiff]
 subst hK
 refine Cont.seq ?_
 refine Cont.reg [4, 5, 6, 7, 17] ?_
 generalize hK : Cont G _ _ _ = K
 simp only [go_sem, ↓reduceIte, reduceCtorEq, Nat.reduceAdd, Nat.reduceSub, Nat.reduceMul, Nat.reduceEqDiff, Nat.reduceLT, Nat.reduceLeDiff]
 refine arC.ok (CallOk.ic (us' := _) (ic110 a0) [] rfl (by decide) (by simp) (by simp) (by simp) (by simp) (.nil _) (by simp only [mapTL_cons, mapTL_nil, mapT_sl]; exact (.cons (.of rfl) .nil)) (by simp only [go_sem]) (by simp [AObj.isMut]) (by simp [go_sem]) (by simp [tokL, tokLL])) Tryz.call110 ?_
 simp only [go_sem, ↓reduceIte, reduceCtorEq, Nat.reduceAdd, Nat.reduceSub, Nat.reduceMul, Nat.reduceEqDiff, Nat.reduceLT, Nat.reduceLeDiff]
 subst hK
 simp only [mapT_clo, mapT_ptr, mapTL_cons, mapTL_nil, rho, List.length_nil, Nat.not_lt_zero, if_false, Nat.reduceLT, Nat.reduceSub, Nat.reduceAdd]
 refine Cont.ent (Ent.weakObj (cs' := [.sl (List.map enc5 [])]) 48 (by simp [upd_ap]; rfl) rfl (.cons Weak.nil .nil)) ?_
 refine Cont.ren (st' := ⟨frP, hpP [] 0 (-1) a0, 8⟩) hn0 (fun t => if t = 0 then 48 else if t = 1 then 64 else if t = 2 then 80 else if t = 3 then 88 else if t = 4 then 120 else t) ?_ ?_ ?_ ?_ ?_
 · intro i j (hi : i < 8) (hj : j < 8) hni hnj h
   have key : ∀ q, q < 8 → hpP [] 0 (-1) a0 q ≠ none → q < 5 := fun q hq hne => by
     rcases (show q < 5 ∨ (4 < q ∧ q < 8) by omega) with e | e
     · exact e
     · refine absurd ?_ hne
       simp only [hpP, hpL_ap]
       rw [if_pos e.2, List.getElem?_eq_none (by simp; omega)]; rfl
   have h1 := key i hi hni
   have h2 := key j hj hnj
   rcases (show i = 0 ∨ i = 1 ∨ i = 2 ∨ i = 3 ∨ i = 4 by omega) with rfl | rfl | rfl | rfl | rfl <;> rcases (show j = 0 ∨ j = 1 ∨ j = 2 ∨ j = 3 ∨ j = 4 by omega) with rfl | rfl | rfl | rfl | rfl <;> first | rfl | (exfalso; revert h; decide)
 · intro t (ht : t < 8)
   rcases (show t = 0 ∨ t = 1 ∨ t = 2 ∨ t = 3 ∨ t = 4 ∨ (4 < t ∧ t < 8) by omega) with rfl | rfl | rfl | rfl | rfl | e
   · exact ORen.eq (by simp only [go_sem]) (by simp [upd_ap, hpL_ap])
   · exact ORen.tok (by simp [tokL, tokLL, inlR]) (by simp [upd_ap, hpL_ap, mapT, mapTL])
   · exact ORen.eq (by simp only [go_sem]) (by simp [upd_ap, hpL_ap])
   · exact ORen.eq (by simp only [go_sem]) (by simp [upd_ap, hpL_ap])
   · exact ORen.eq (by simp only [go_sem]) (by simp [upd_ap, hpL_ap])
   · have hnone : hpP [] 0 (-1) a0 t = none := by
       simp only [hpP, hpL_ap]
       rw [if_pos e.2, List.getElem?_eq_none (by simp; omega)]; rfl
     show ORen _ _ _ (hpP [] 0 (-1) a0 t)
     rw [hnone]; exact .none _
 · intro t (ht : 8 ≤ t)
   simp only [hpP, hpL_ap]
   rw [if_neg (by omega), List.getElem?_eq_none (by simp)]; rfl
 · exact (((((RF.any.put (by simp [tokL]) (.of (by simp [restr_cons, restr_nil, upd_ap, mapT]))).put (by simp [tokL]) (.of (by simp [restr_cons, restr_nil, upd_ap, mapT]))).put (by simp [tokL]) (.of (by simp [restr_cons, restr_nil, upd_ap, mapT]))).put (by simp [tokL]) (.of (by simp [restr_cons, restr_nil, upd_ap, mapT]))).put (by simp [tokL, tokLL]) (.of (by simp [restr_cons, restr_nil, upd_ap, mapT, mapTL])))
 refine Cont.block ?_
 intro a w hc
 have hc0 : a.defers = [] := hc.1
 have hcs : a.tmps.size = 77 := hc.2.1
 refine Two.range_wp (gf := 134) (fg := Tryz.f134) (caps := [.ptr 4 0 0]) (K := fun hp nx => hp = hpP q.1 q.2.1 q.2.2.1 q.2.2.2 ∧ 8 ≤ nx) hc rfl Tryz.func134 rfl Tryz.call134 rfl (by decide) ?_ (Nat.le_of_ble_eq_true rfl) (Nat.le_of_ble_eq_true rfl) hn0 (fun H h1 h2 h3 h4 h5 h6 => ?_) ?_
 · exact tok_upd (tok_upd (tok_upd (tok_upd (tok_upd tok_any (by simp [tokL])) (by simp [tokL])) (by simp [tokL])) (by simp [tokL])) (by simp [tokL, tokLL])
 · exact cuts_aw a0 q hq H h1 (by rw [h2, h3]; rfl) h4 h5 h6 _ rfl
 · rintro D hp' nx' loc' w' ⟨rfl, hnx⟩ hD hGD hB hH hr
   obtain ⟨hob, hoe⟩ := appO?_some.1 ho
   have hf : ∀ id z : Nat, appO 1 1 id (List.map enc5 q.1) 0 hd.length z (some (.row 1 true (List.map enc5 hd))) = some ⟨.own id 0 o.length, [(z, none), (id, some (.row 1 true (List.map enc5 o)))]⟩ := fun id z => by
     subst hoe; rw [appO_ok (by simp) (by simpa using hob) (by decide)]; simp
   refine tail_draw (N := 77) (st := ⟨frP, hpP q.1 q.2.1 q.2.2.1 q.2.2.2, nx'⟩) (by rw [hc0]; rfl) hD hGD hB hH hr (by dsimp only; omega) hcs [2, 3] [[], [0], [0, 1], [], [0, 1, 2, 3], [0, 1, 2, 3, 4], [0, 1, 2, 3, 4, 5]] [0, 1, 2, 3, 4, 5, 6] noFt (fun _ _ _ h => by simp [noFt] at h) draws (by kernel_rfl) (by kernel_rfl) ?_
   generalize hK : (fun (fr : Nat → AV) (hp : AHeap) => _) = K
   unfold frP hpP
   simp only [go_sem, ↓reduceIte, reduceCtorEq, Nat.reduceAdd, Nat.reduceSub, Nat.reduceMul, Nat.reduceEqDiff, Nat.reduceLT, Nat.reduceLeDiff, hf]
   refine adN.pc (ok109 [] _ hd hhd) Tryz.call109 callV_fn (by simp only [go_sem, ↓reduceIte, reduceCtorEq, Nat.reduceAdd, Nat.reduceSub, Nat.reduceMul, Nat.reduceEqDiff, Nat.reduceLT, Nat.reduceLeDiff, List.nil_append, List.append_nil]) (by simp only [go_sem, ↓reduceIte, reduceCtorEq, Nat.reduceAdd, Nat.reduceSub, Nat.reduceMul, Nat.reduceEqDiff, Nat.reduceLT, Nat.reduceLeDiff]) ?_
   simp only [go_sem, ↓reduceIte, reduceCtorEq, Nat.reduceAdd, Nat.reduceSub, Nat.reduceMul, Nat.reduceEqDiff, Nat.reduceLT, Nat.reduceLeDiff, hf]
   subst hK
   refine RetK.fin ?_
   simp only [go_sem, ↓reduceIte, reduceCtorEq, Nat.reduceAdd, Nat.reduceSub, Nat.reduceMul, Nat.reduceEqDiff, Nat.reduceLT, Nat.reduceLeDiff, finA] <;> try simp
end Au
end Go.Proofs.Yt

set_option linter.all false
set_option maxRecDepth 8000
set_option maxHeartbeats 1000000
namespace Go.Proofs.Yt
open Go.Gm
namespace Au
/- by hand: Gm.TU -/
end Au
end Go.Proofs.Yt

set_option linter.all false
set_option maxRecDepth 8000
set_option maxHeartbeats 1000000
namespace Go.Proofs.Yt
open Go.Gm
namespace Au
noncomputable def f167 (a0 : List Int) (a1 : List Int) : Option Bool := some (decide ((strOfNums a0) = (strOfNums a1)))
theorem ok167 (a0 : List Int) (a1 : List Int) (r : Bool) (h : f167 a0 a1 = some r) : PC Tryz.prog 167 [.sl (List.map enc5 a0), .sl (List.map enc5 a1)] (.val (.bool r)) := by
 rw [f167] at h
 refine pc_of8 (N := 10) (rs := [.tmp 4]) Tryz.func167 rfl rfl rfl (Nat.le_of_ble_eq_true rfl) ?_
 refine AW.rX [0, 1] ?_
 refine AW.regL [4] ?_
 generalize hK : AW Tryz.prog _ _ _ = K
 simp only [go_sem, ↓reduceIte, reduceCtorEq, Nat.reduceAdd, Nat.reduceSub, Nat.reduceMul, Nat.reduceEqDiff, Nat.reduceLT, Nat.reduceLeDiff, byteNums_map (enc := enc5) (fun _ => rfl)]
 subst hK
 refine AW.ret ?_
 obtain rfl := Option.some.inj h
 (simp only [go_sem, ↓reduceIte, reduceCtorEq, Nat.reduceAdd, Nat.reduceSub, Nat.reduceMul, Nat.reduceEqDiff, Nat.reduceLT, Nat.reduceLeDiff, finA] <;> try simp)
end Au
end Go.Proofs.Yt

set_option linter.all false
set_option maxRecDepth 8000
set_option maxHeartbeats 1000000
namespace Go.Proofs.Yt
open Go.Gm
namespace Au
noncomputable def f146_s2 (x1 : Int × Reader) : (List Int) × Int × Int × (List Int) × Int → Option (((List Int) × Int × Int × (List Int) × Int) ⊕ ((List Int) × Int × Int × (List Int)))
  | (s2_0, s2_1, s2_2, s2_3, s2_4) => (if s2_4 < x1.1 then (if s2_2 = 0 then ((f166 ⟨s2_0, s2_1, s2_2⟩ s2_3).bind fun x21 => some (.inl (x21.2.b, x21.2.at_, x21.2.e, x21.1, IntKind.i64.wrap (s2_4 + 1)))) else some (.inr (s2_0, s2_1, s2_2, s2_3))) else some (.inr (s2_0, s2_1, s2_2, s2_3)))
noncomputable def f146_j1 (a0 : List Int) (y26 : List Int) : Int → Option ((List Int) × Int)
  | j1_0 => (if j1_0 = 0 then ((f80 y26).bind fun x31 => (if x31.2 = 0 then ((f167 a0 x31.1).bind fun x33 => (if x33 = true then some (y26, 0) else some ([], 3))) else some ([], 3))) else some ([], j1_0))
noncomputable def f146 (a0 : List Int) : Option ((List Int) × Int) := ((f165 ⟨a0, 0, 0⟩).bind fun x1 => ((loopO (f146_s2 x1) (x1.2.b, x1.2.at_, x1.2.e, [], 0)).bind fun y22 => match y22 with | (y23, y24, y25, y26) => (if y25 = 0 then (if y24 < (a0.length : Int) then f146_j1 a0 y26 3 else f146_j1 a0 y26 y25) else f146_j1 a0 y26 y25)))
theorem ok146 (a0 : List Int) (r : (List Int) × Int) (h : f146 a0 = some r) : PC Tryz.prog 146 [.sl (List.map enc5 a0)] (.tup [.sl (List.map enc3 r.1), .val (.int .i64 r.2)]) := by
 rw [f146] at h
 refine pc_of8 (N := 70) (rs := [.tmp 2, .tmp 3]) Tryz.func146 rfl rfl rfl (Nat.le_of_ble_eq_true rfl) ?_
 refine AW.rX [0] ?_
 refine AW.rX [0, 4] ?_
 refine AW.regL [0, 4, 5] ?_
 generalize hK : AW Tryz.prog _ _ _ = K
 simp only [go_sem, ↓reduceIte, reduceCtorEq, Nat.reduceAdd, Nat.reduceSub, Nat.reduceMul, Nat.reduceEqDiff, Nat.reduceLT, Nat.reduceLeDiff]
 subst hK
 obtain ⟨x1, hx1, h⟩ := Option.bind_eq_some_iff.1 h
 refine AW.regL [0, 4, 5, 6] ?_
 generalize hK : AW Tryz.prog _ _ _ = K
 simp only [go_sem, ↓reduceIte, reduceCtorEq, Nat.reduceAdd, Nat.reduceSub, Nat.reduceMul, Nat.reduceEqDiff, Nat.reduceLT, Nat.reduceLeDiff]
 refine arC.ok (CallOk.icq (us' := _) (ok165 ⟨a0, 0, 0⟩ x1 hx1) [40] (.cons (.eq (by simp only [go_sem]) (by first | rfl | simp [upd_ap, hpL_ap, sg_ap])) (.nil _)) (by simp only [mapTL_cons, mapTL_nil, mapT_ptr, mapT_own, mapT_val, mapT_sl, mapT_agg, mapT_ip, mapT_clo, mapT_ifc, sg_ap, List.getD_cons_zero, List.getD_cons_succ]; exact (.cons (.of rfl) .nil))) Tryz.call165 ?_
 simp only [go_sem, ↓reduceIte, reduceCtorEq, Nat.reduceAdd, Nat.reduceSub, Nat.reduceMul, Nat.reduceEqDiff, Nat.reduceLT, Nat.reduceLeDiff]
 subst hK
 refine AW.seq ?_
 refine AW.regL [0, 4, 5, 6, 7] ?_
 generalize hK : AW Tryz.prog _ _ _ = K
 simp only [go_sem, ↓reduceIte, reduceCtorEq, Nat.reduceAdd, Nat.reduceSub, Nat.reduceMul, Nat.reduceEqDiff, Nat.reduceLT, Nat.reduceLeDiff]
 subst hK
 refine AW.block ?_
 obtain ⟨y22, hy22, h⟩ := Option.bind_eq_some_iff.1 h
 refine AW.loopO (fun s => ⟨(upd (upd (upd (upd (upd anyF 0 (.sl (List.map enc5 a0))) 4 (.ptr 8 0 0)) 5 (.own 9 0 s.2.2.2.1.length)) 6 (.val (.int .i64 x1.1))) 7 (.val (.int .i64 s.2.2.2.2))), hpL [] [some (.row 3 true [[.sl (List.map enc5 s.1), .val (.int .i64 s.2.1), .val (.int .i64 s.2.2.1)]]), some (.row 1 true (List.map enc3 s.2.2.2.1))], 10⟩) (fun z e st' => e = Exit.exit 0 ∧ st' = ⟨(upd (upd (upd anyF 0 (.sl (List.map enc5 a0))) 4 (.ptr 8 0 0)) 5 (.own 9 0 z.2.2.2.length)), hpL [] [some (.row 3 true [[.sl (List.map enc5 z.1), .val (.int .i64 z.2.1), .val (.int .i64 z.2.2.1)]]), some (.row 1 true (List.map enc3 z.2.2.2))], 10⟩) hy22 ?_ ?_ ?_
 ·refine Ent.trans (Ent.nilOwn 5 1 (by decide) rfl) ?_
  exact Ent.canq [40, 96] RF.any.qv.qp.qo.qv.qv (.nil _) (.ce (.ce (.nil _)))
 ·clear h hy22
  rintro ⟨s2_0, s2_1, s2_2, s2_3, s2_4⟩ x h
  rw [f146_s2] at h
  refine AW.seq ?_
  by_cases c19 : s2_4 < x1.1
  ·rw [if_pos c19] at h
   refine AW.regL [0, 4, 5, 6, 7, 24] ?_
   generalize hK : AW Tryz.prog _ _ _ = K
   simp only [go_sem, ↓reduceIte, reduceCtorEq, Nat.reduceAdd, Nat.reduceSub, Nat.reduceMul, Nat.reduceEqDiff, Nat.reduceLT, Nat.reduceLeDiff, eq_true c19]
   subst hK
   by_cases c20 : s2_2 = 0
   ·rw [if_pos c20] at h
    refine AW.ifT rfl c20 ?_
    refine AW.skip ?_
    refine thenA_n ?_
    refine AW.seq ?_
    refine AW.block ?_
    obtain ⟨x21, hx21, h⟩ := Option.bind_eq_some_iff.1 h
    refine AW.regionL [0, 4, 5, 6, 7] ?_
    generalize hK : inBlockA _ _ Exit.normal = K
    simp only [go_sem, ↓reduceIte, reduceCtorEq, Nat.reduceAdd, Nat.reduceSub, Nat.reduceMul, Nat.reduceEqDiff, Nat.reduceLT, Nat.reduceLeDiff, eq_true c19, eq_true c20]
    refine arC.ok (CallOk.icq (us' := _) (ok166 ⟨s2_0, s2_1, s2_2⟩ s2_3 x21 hx21) [8, 9] (.cons (.eq (by simp only [go_sem]) (by first | rfl | simp [upd_ap, hpL_ap, sg_ap])) (.cons (.eq (by simp only [go_sem]) (by first | rfl | simp [upd_ap, hpL_ap, sg_ap])) (.nil _))) (by simp only [mapTL_cons, mapTL_nil, mapT_ptr, mapT_own, mapT_val, mapT_sl, mapT_agg, mapT_ip, mapT_clo, mapT_ifc, sg_ap, List.getD_cons_zero, List.getD_cons_succ]; exact (.cons (.of rfl) (.cons (.of (by first | rfl | simp [mapT_own, sg_ap, eq_true c19, eq_true c20])) .nil)))) Tryz.call166 ?_
    simp only [go_sem, ↓reduceIte, reduceCtorEq, Nat.reduceAdd, Nat.reduceSub, Nat.reduceMul, Nat.reduceEqDiff, Nat.reduceLT, Nat.reduceLeDiff, eq_true c19, eq_true c20]
    subst hK
    refine block_n ?_
    refine thenA_n ?_
    refine AW.regionL [0, 4, 5, 6, 7] ?_
    generalize hK : thenA _ _ Exit.normal = K
    simp only [go_sem, ↓reduceIte, reduceCtorEq, Nat.reduceAdd, Nat.reduceSub, Nat.reduceMul, Nat.reduceEqDiff, Nat.reduceLT, Nat.reduceLeDiff, eq_true c19, eq_true c20]
    subst hK
    refine thenA_n ?_
    refine ⟨_, (Option.some.inj h).symm, ?_⟩
    exact Ent.canq [8, 106] RF.any.qv.qp.qo.qv.qv (.nil _) (.ce (.ce (.nil _)))
   ·rw [if_neg c20] at h
    refine AW.ifF rfl c20 ?_
    refine AW.exit ?_
    refine thenA_x ?_
    refine thenA_x ?_
    refine ⟨_, (Option.some.inj h).symm, _, ?_, rfl, rfl⟩
    exact Ent.canq [8, 9] RF.any.qv.qp.qo (.nil _) (.ce (.ce (.nil _)))
  ·rw [if_neg c19] at h
   refine AW.regL [0, 4, 5, 6, 7, 24] ?_
   generalize hK : AW Tryz.prog _ _ _ = K
   simp only [go_sem, ↓reduceIte, reduceCtorEq, Nat.reduceAdd, Nat.reduceSub, Nat.reduceMul, Nat.reduceEqDiff, Nat.reduceLT, Nat.reduceLeDiff, eq_false c19]
   subst hK
   refine AW.ifBF rfl rfl ?_
   refine AW.exit ?_
   refine thenA_x ?_
   refine thenA_x ?_
   refine ⟨_, (Option.some.inj h).symm, _, ?_, rfl, rfl⟩
   exact Ent.canq [8, 9] RF.any.qv.qp.qo (.nil _) (.ce (.ce (.nil _)))
 ·intro e st' hX
  obtain ⟨y23, y24, y25, y26⟩ := y22
  try dsimp only at h
  try dsimp only at hX
  obtain ⟨rfl, rfl⟩ := hX
  refine ⟨_, Ent.refl, ?_⟩
  refine block_x ?_
  refine thenA_n ?_
  refine AW.join (fun s => ⟨(upd (upd (upd anyF 0 (.sl (List.map enc5 a0))) 4 (.ptr 8 0 0)) 5 (.own 9 0 y26.length)), hpL [] [some (.row 3 true [[.sl (List.map enc5 y23), .val (.int .i64 y24), .val (.int .i64 s)]]), some (.row 1 true (List.map enc3 y26))], 10⟩) (fun s => f146_j1 a0 y26 s = some r) ?_ ?_
  ·by_cases c35 : y25 = 0
   ·rw [if_pos c35] at h
    refine AW.regL [0, 4, 5, 43] ?_
    generalize hK : AW Tryz.prog _ _ _ = K
    simp only [go_sem, ↓reduceIte, reduceCtorEq, Nat.reduceAdd, Nat.reduceSub, Nat.reduceMul, Nat.reduceEqDiff, Nat.reduceLT, Nat.reduceLeDiff, eq_true c35]
    subst hK
    by_cases c36 : y24 < (a0.length : Int)
    ·rw [if_pos c36] at h
     refine AW.ifT rfl c36 ?_
     refine AW.regionL [0, 4, 5] ?_
     generalize hK : thenA _ _ Exit.normal = K
     simp only [go_sem, ↓reduceIte, reduceCtorEq, Nat.reduceAdd, Nat.reduceSub, Nat.reduceMul, Nat.reduceEqDiff, Nat.reduceLT, Nat.reduceLeDiff, eq_true c35, eq_true c36]
     subst hK
     refine thenA_n ?_
     refine ⟨_, h, ?_⟩
     exact Ent.canq [8, 9] RF.any.qv.qp.qo (.nil _) (.ce (.ce (.nil _)))
    ·rw [if_neg c36] at h
     refine AW.ifF rfl c36 ?_
     refine AW.skip ?_
     refine thenA_n ?_
     refine ⟨_, h, ?_⟩
     exact Ent.canq [8, 9] RF.any.qv.qp.qo (.nil _) (.ce (.ce (.nil _)))
   ·rw [if_neg c35] at h
    refine AW.regL [0, 4, 5, 43] ?_
    generalize hK : AW Tryz.prog _ _ _ = K
    simp only [go_sem, ↓reduceIte, reduceCtorEq, Nat.reduceAdd, Nat.reduceSub, Nat.reduceMul, Nat.reduceEqDiff, Nat.reduceLT, Nat.reduceLeDiff, eq_false c35]
    subst hK
    refine AW.ifBF rfl rfl ?_
    refine AW.skip ?_
    refine thenA_n ?_
    refine ⟨_, h, ?_⟩
    exact Ent.canq [8, 9] RF.any.qv.qp.qo (.nil _) (.ce (.ce (.nil _)))
  ·clear h
   rintro j1_0 h
   rw [f146_j1] at h
   refine AW.seq ?_
   refine AW.regL [0, 4, 5, 51] ?_
   generalize hK : AW Tryz.prog _ _ _ = K
   simp only [go_sem, ↓reduceIte, reduceCtorEq, Nat.reduceAdd, Nat.reduceSub, Nat.reduceMul, Nat.reduceEqDiff, Nat.reduceLT, Nat.reduceLeDiff]
   subst hK
   by_cases c30 : j1_0 = 0
   ·rw [if_pos c30] at h
    refine AW.ifF rfl (fun q => q c30) ?_
    refine AW.skip ?_
    refine thenA_n ?_
    refine AW.seq ?_
    obtain ⟨x31, hx31, h⟩ := Option.bind_eq_some_iff.1 h
    refine AW.regL [0, 5, 8, 9] ?_
    generalize hK : AW Tryz.prog _ _ _ = K
    simp only [go_sem, ↓reduceIte, reduceCtorEq, Nat.reduceAdd, Nat.reduceSub, Nat.reduceMul, Nat.reduceEqDiff, Nat.reduceLT, Nat.reduceLeDiff, eq_true c30]
    refine arC.of (ok80 y26 x31 hx31) Tryz.call80 ?_
    simp only [go_sem, ↓reduceIte, reduceCtorEq, Nat.reduceAdd, Nat.reduceSub, Nat.reduceMul, Nat.reduceEqDiff, Nat.reduceLT, Nat.reduceLeDiff, eq_true c30]
    subst hK
    by_cases c32 : x31.2 = 0
    ·rw [if_pos c32] at h
     obtain ⟨x33, hx33, h⟩ := Option.bind_eq_some_iff.1 h
     refine AW.regL [5, 68] ?_
     generalize hK : AW Tryz.prog _ _ _ = K
     simp only [go_sem, ↓reduceIte, reduceCtorEq, Nat.reduceAdd, Nat.reduceSub, Nat.reduceMul, Nat.reduceEqDiff, Nat.reduceLT, Nat.reduceLeDiff, eq_true c30, eq_true c32]
     refine arC.of (ok167 a0 x31.1 x33 hx33) Tryz.call167 ?_
     simp only [go_sem, ↓reduceIte, reduceCtorEq, Nat.reduceAdd, Nat.reduceSub, Nat.reduceMul, Nat.reduceEqDiff, Nat.reduceLT, Nat.reduceLeDiff, eq_true c30, eq_true c32]
     subst hK
     by_cases c34 : x33 = true
     ·rw [if_pos c34] at h
      refine AW.ifBF rfl (by first | (rw [c34]; rfl) | simp_all) ?_
      refine AW.skip ?_
      refine thenA_n ?_
      refine AW.regL [2, 3] ?_
      generalize hK : AW Tryz.prog _ _ _ = K
      simp only [go_sem, ↓reduceIte, reduceCtorEq, Nat.reduceAdd, Nat.reduceSub, Nat.reduceMul, Nat.reduceEqDiff, Nat.reduceLT, Nat.reduceLeDiff, eq_true c30, eq_true c32, c34]
      subst hK
      refine AW.ent (Ent.still 2 rfl (own_sl (sz := 1) (m := false) rfl (by first | rfl | (simp [bytesI_len]; done) | (simp [bytesI_len]; omega)) (by simp only [go_sem]))) ?_
      refine AW.ret ?_
      obtain rfl := Option.some.inj h
      (simp only [go_sem, ↓reduceIte, reduceCtorEq, Nat.reduceAdd, Nat.reduceSub, Nat.reduceMul, Nat.reduceEqDiff, Nat.reduceLT, Nat.reduceLeDiff, eq_true c30, eq_true c32, c34, finA] <;> try simp)
     ·rw [if_neg c34] at h
      rw [Bool.not_eq_true] at c34
      refine AW.ifBT rfl (by first | (rw [c34]; rfl) | simp_all) ?_
      refine AW.regL [2, 3] ?_
      generalize hK : AW Tryz.prog _ _ _ = K
      simp only [go_sem, ↓reduceIte, reduceCtorEq, Nat.reduceAdd, Nat.reduceSub, Nat.reduceMul, Nat.reduceEqDiff, Nat.reduceLT, Nat.reduceLeDiff, eq_true c30, eq_true c32, c34]
      subst hK
      refine AW.ent (Ent.w (FrW.put1 (d := 2) Weak.nil)) ?_
      refine AW.ret ?_
      refine thenA_r ?_
      obtain rfl := Option.some.inj h
      (simp only [go_sem, ↓reduceIte, reduceCtorEq, Nat.reduceAdd, Nat.reduceSub, Nat.reduceMul, Nat.reduceEqDiff, Nat.reduceLT, Nat.reduceLeDiff, eq_true c30, eq_true c32, c34, finA] <;> try simp)
    ·rw [if_neg c32] at h
     refine AW.regL [5, 68] ?_
     generalize hK : AW Tryz.prog _ _ _ = K
     simp only [go_sem, ↓reduceIte, reduceCtorEq, Nat.reduceAdd, Nat.reduceSub, Nat.reduceMul, Nat.reduceEqDiff, Nat.reduceLT, Nat.reduceLeDiff, eq_true c30, eq_false c32]
     subst hK
     refine AW.ifBT rfl rfl ?_
     refine AW.rX [2, 3] ?_
     refine AW.ent (Ent.w (FrW.put1 (d := 2) Weak.nil)) ?_
     refine AW.ret ?_
     refine thenA_r ?_
     obtain rfl := Option.some.inj h
     (simp only [go_sem, ↓reduceIte, reduceCtorEq, Nat.reduceAdd, Nat.reduceSub, Nat.reduceMul, Nat.reduceEqDiff, Nat.reduceLT, Nat.reduceLeDiff, eq_true c30, eq_false c32, finA] <;> try simp)
   ·rw [if_neg c30] at h
    refine AW.ifT rfl c30 ?_
    refine AW.regdL [2, 3] [[], [0], [0, 1], [0, 1, 2], [], [0, 1, 2, 3, 4]] [0, 1, 2, 3, 4, 5] noFt (fun _ _ _ h => by simp [noFt] at h) draws (by kernel_rfl) (by kernel_rfl) ?_
    generalize hK : AW Tryz.prog _ _ _ = K
    simp only [go_sem, ↓reduceIte, reduceCtorEq, Nat.reduceAdd, Nat.reduceSub, Nat.reduceMul, Nat.reduceEqDiff, Nat.reduceLT, Nat.reduceLeDiff, eq_false c30]
    subst hK
    refine AW.ent (Ent.w (FrW.put1 (d := 2) Weak.nil)) ?_
    refine AW.ret ?_
    refine thenA_r ?_
    obtain rfl := Option.some.inj h
    (simp only [go_sem, ↓reduceIte, reduceCtorEq, Nat.reduceAdd, Nat.reduceSub, Nat.reduceMul, Nat.reduceEqDiff, Nat.reduceLT, Nat.reduceLeDiff, eq_false c30, finA] <;> try simp)
end Au
end Go.Proofs.Yt

set_option linter.all false
set_option maxRecDepth 8000
set_option maxHeartbeats 1000000
namespace Go.Proofs.Yt
open Go.Gm
namespace Au
noncomputable def f123 (a0 : List Int) (a1 : Int) : Option (Res × Int × Int) := ((f145 a0 a1 65536).bind fun x1 => (if x1.2.2 = 0 then ((f145 a0 x1.2.1 65536).bind fun x4 => (if x4.2.2 = 0 then ((f146 (bytesI x4.1)).bind fun x7 => some (⟨x1.1, ⟨#[]⟩, x7.1⟩, x4.2.1, x7.2)) else some (⟨⟨#[]⟩, ⟨#[]⟩, []⟩, 0, x4.2.2))) else some (⟨⟨#[]⟩, ⟨#[]⟩, []⟩, 0, x1.2.2)))
theorem ok123 (a0 : List Int) (a1 : Int) (r : Res × Int × Int) (h : f123 a0 a1 = some r) : PC Tryz.prog 123 [.sl (List.map enc5 a0), .val (.int .i64 a1)] (.tup [.agg (encRes r.1), .val (.int .i64 r.2.1), .val (.int .i64 r.2.2)]) := by
 rw [f123] at h
 refine pc_of8 (N := 43) (rs := [.cell 4 50, .tmp 5, .tmp 6]) Tryz.func123 rfl rfl rfl (Nat.le_of_ble_eq_true rfl) ?_
 refine AW.rX [0, 1, 4] ?_
 obtain ⟨x1, hx1, h⟩ := Option.bind_eq_some_iff.1 h
 refine AW.regL [0, 4, 5, 6, 7] ?_
 generalize hK : AW Tryz.prog _ _ _ = K
 simp only [go_sem, ↓reduceIte, reduceCtorEq, Nat.reduceAdd, Nat.reduceSub, Nat.reduceMul, Nat.reduceEqDiff, Nat.reduceLT, Nat.reduceLeDiff]
 refine arC.of (ok145 a0 a1 65536 x1 hx1) Tryz.call145 ?_
 simp only [go_sem, ↓reduceIte, reduceCtorEq, Nat.reduceAdd, Nat.reduceSub, Nat.reduceMul, Nat.reduceEqDiff, Nat.reduceLT, Nat.reduceLeDiff]
 subst hK
 refine AW.seq ?_
 refine AW.rX [0, 4, 5, 6, 7, 18] ?_
 by_cases c3 : x1.2.2 = 0
 ·rw [if_pos c3] at h
  refine AW.ifF rfl (fun q => q c3) ?_
  refine AW.skip ?_
  refine thenA_n ?_
  obtain ⟨x4, hx4, h⟩ := Option.bind_eq_some_iff.1 h
  refine AW.regL [4, 5, 6, 7, 8] ?_
  generalize hK : AW Tryz.prog _ _ _ = K
  simp only [go_sem, ↓reduceIte, reduceCtorEq, Nat.reduceAdd, Nat.reduceSub, Nat.reduceMul, Nat.reduceEqDiff, Nat.reduceLT, Nat.reduceLeDiff, eq_true c3]
  refine arC.of (ok145 a0 x1.2.1 65536 x4 hx4) Tryz.call145 ?_
  simp only [go_sem, ↓reduceIte, reduceCtorEq, Nat.reduceAdd, Nat.reduceSub, Nat.reduceMul, Nat.reduceEqDiff, Nat.reduceLT, Nat.reduceLeDiff, eq_true c3]
  subst hK
  refine AW.seq ?_
  refine AW.rX [4, 5, 6, 7, 8, 29] ?_
  by_cases c6 : x4.2.2 = 0
  ·rw [if_pos c6] at h
   refine AW.ifF rfl (fun q => q c6) ?_
   refine AW.skip ?_
   refine thenA_n ?_
   obtain ⟨x7, hx7, h⟩ := Option.bind_eq_some_iff.1 h
   refine AW.regL [4, 5, 6, 7, 9] ?_
   generalize hK : AW Tryz.prog _ _ _ = K
   simp only [go_sem, ↓reduceIte, reduceCtorEq, Nat.reduceAdd, Nat.reduceSub, Nat.reduceMul, Nat.reduceEqDiff, Nat.reduceLT, Nat.reduceLeDiff, eq_true c3, eq_true c6, bytesRows_map (enc := enc5) (fun _ => rfl)]
   refine arC.of (ok146 (bytesI x4.1) x7 hx7) Tryz.call146 ?_
   simp only [go_sem, ↓reduceIte, reduceCtorEq, Nat.reduceAdd, Nat.reduceSub, Nat.reduceMul, Nat.reduceEqDiff, Nat.reduceLT, Nat.reduceLeDiff, eq_true c3, eq_true c6, bytesRows_map (enc := enc5) (fun _ => rfl)]
   subst hK
   refine AW.rX [4, 5, 6] ?_
   refine AW.ret ?_
   obtain rfl := Option.some.inj h
   (simp only [go_sem, ↓reduceIte, reduceCtorEq, Nat.reduceAdd, Nat.reduceSub, Nat.reduceMul, Nat.reduceEqDiff, Nat.reduceLT, Nat.reduceLeDiff, eq_true c3, eq_true c6, finA] <;> try simp)
  ·rw [if_neg c6] at h
   refine AW.ifT rfl c6 ?_
   refine AW.rX [4, 5, 6] ?_
   refine AW.ent (Ent.weakObj 8 rfl rfl (.cons (.of rfl) (.cons (.of rfl) (.cons Weak.nil WeakL.nil)))) ?_
   refine AW.ret ?_
   refine thenA_r ?_
   obtain rfl := Option.some.inj h
   (simp only [go_sem, ↓reduceIte, reduceCtorEq, Nat.reduceAdd, Nat.reduceSub, Nat.reduceMul, Nat.reduceEqDiff, Nat.reduceLT, Nat.reduceLeDiff, eq_true c3, eq_false c6, finA] <;> try simp)
 ·rw [if_neg c3] at h
  refine AW.ifT rfl c3 ?_
  refine AW.rX [4, 5, 6] ?_
  refine AW.ent (Ent.weakObj 8 rfl rfl (.cons (.of rfl) (.cons (.of rfl) (.cons Weak.nil WeakL.nil)))) ?_
  refine AW.ret ?_
  refine thenA_r ?_
  obtain rfl := Option.some.inj h
  (simp only [go_sem, ↓reduceIte, reduceCtorEq, Nat.reduceAdd, Nat.reduceSub, Nat.reduceMul, Nat.reduceEqDiff, Nat.reduceLT, Nat.reduceLeDiff, eq_false c3, finA] <;> try simp)
end Au
end Go.Proofs.Yt

set_option linter.all false
set_option maxRecDepth 8000
set_option maxHeartbeats 1000000
namespace Go.Proofs.Yt
open Go.Gm
namespace Au
noncomputable def f73 (a0 : List Int) : Option (List Int) := appO? [] a0
theorem ok73f (a0 : List Int) (r : List Int) (h : f73 a0 = some r) : PC Tryz.prog 73 [.sl (List.map enc3 a0)] (.fr 1 (List.map enc3 r)) := by
  obtain ⟨hl, hr⟩ := appO?_some.1 h
  rw [List.nil_append] at hr
  subst hr
  have hb : a0.length ≤ 34359738368 := by simpa using hl
  refine pc_of (N := 8) (rs := [.tmp 2]) Tryz.func73 rfl rfl rfl (Nat.le_of_ble_eq_true rfl) ?_
  refine AW.reg ?_
  generalize hK : AW Tryz.prog _ _ _ = K
  simp only [go_sem, ↓reduceIte, reduceCtorEq, Nat.reduceAdd, Nat.reduceSub, Nat.reduceMul, Nat.reduceEqDiff, Nat.reduceLT, Nat.reduceLeDiff]
  subst hK
  refine AW.seq ?_
  refine AW.nilq el48 rfl (by decide) (by decide) (fun bn hbn => ?_)
  refine AW.if rfl (fun hc4 => ?_) (fun hc4 => ?_)
  · have hl0 : a0 = [] := by simpa using hbn (by simpa using hc4)
    subst hl0
    refine AW.reg ?_
    generalize hK : AW Tryz.prog _ _ _ = K
    simp only [go_sem, ↓reduceIte, reduceCtorEq, Nat.reduceAdd, Nat.reduceSub, Nat.reduceMul, Nat.reduceEqDiff, Nat.reduceLT, Nat.reduceLeDiff]
    subst hK
    refine AW.ent (Ent.nilOwn 2 1 (by decide) rfl) ?_
    refine AW.ret ?_
    refine thenA_r ?_
    exact fin_own (.inl rfl) rfl (by simp only [upd_ap, if_true]; rfl) rfl rfl rfl
  · refine AW.skip ?_
    refine thenA_n ?_
    refine AW.reg ?_
    generalize hK : AW Tryz.prog _ _ _ = K
    simp (disch := first | omega | (simp only [List.length_map, List.length_cons, List.length_nil, List.length_append] <;> omega)) only [go_sem, ↓reduceIte, reduceCtorEq, Nat.reduceAdd, Nat.reduceSub, Nat.reduceMul, Nat.reduceEqDiff, Nat.reduceLT, Nat.reduceLeDiff]
    subst hK
    refine AW.ret ?_
    exact fin_own (.inl rfl) rfl (by simp only [upd_ap]; rfl) (by simp) (by simp only [go_sem]) rfl

theorem ok73 (a0 : List Int) (r : List Int) (h : f73 a0 = some r) : PC Tryz.prog 73 [.sl (List.map enc3 a0)] (.sl (List.map enc3 r)) := PC.fr_sl (ok73f a0 r h)
end Au
end Go.Proofs.Yt

set_option linter.all false
set_option maxRecDepth 8000
set_option maxHeartbeats 1000000
namespace Go.Proofs.Yt
open Go.Gm
namespace Au
noncomputable def f45_s1 (a0 : List Res) (a1 : ByteArray) : Int → Option (Int ⊕ ((Res × Bool) ⊕ Unit))
  | s1_0 => (if s1_0 < (a0.length : Int) then ((ix a0 s1_0).bind fun x16 => (if x16.Key = a1 then ((f73 x16.Offs).bind fun x18 => some (.inr (.inl (⟨x16.Key, x16.Val, x18⟩, true)))) else some (.inl (IntKind.i64.wrap (s1_0 + 1))))) else some (.inr (.inr ())))
noncomputable def f45 (a0 : List Res) (a1 : ByteArray) : Option (Res × Bool) := ((loopO (f45_s1 a0 a1) 0).bind fun y19 => match y19 with | .inl y20 => some y20 | .inr _ => some (⟨⟨#[]⟩, ⟨#[]⟩, []⟩, false))
theorem ok45 (a0 : List Res) (a1 : ByteArray) (r : Res × Bool) (h : f45 a0 a1 = some r) : PC Tryz.prog 45 [.sl (List.map encRes a0), .val (.string a1)] (.tup [.agg (encRes r.1), .val (.bool r.2)]) := by
 rw [f45] at h
 refine pc_of8 (N := 25) (rs := [.cell 4 50, .tmp 5]) Tryz.func45 rfl rfl rfl (Nat.le_of_ble_eq_true rfl) ?_
 refine AW.rX [0, 1, 4] ?_
 refine AW.seq ?_
 refine AW.rX [1, 4, 8, 9, 10] ?_
 refine AW.block ?_
 obtain ⟨y19, hy19, h⟩ := Option.bind_eq_some_iff.1 h
 refine AW.loopO (fun s => ⟨(upd (upd (upd (upd (upd anyF 1 (.val (.string a1))) 4 (.ptr 8 0 0)) 8 (.sl (List.map encRes a0))) 9 (.val (.int .i64 (a0.length : Int)))) 10 (.val (.int .i64 s))), hpL [] [some (.row 3 true [[.val (.string ⟨#[]⟩), .val (.string ⟨#[]⟩), .val (.slice none 0 0)]])], 9⟩) (fun y e st' => match y with | .inl z => e = Exit.ret ∧ finA Tryz.prog [.cell 4 50, .tmp 5] (.tup [.agg (encRes z.1), .val (.bool z.2)]) .ret st' | .inr z => e = Exit.exit 0 ∧ st' = ⟨(upd anyF 4 (.ptr 8 0 0)), hpL [] [some (.row 3 true [[.val (.string ⟨#[]⟩), .val (.string ⟨#[]⟩), .val (.slice none 0 0)]])], 9⟩) hy19 ?_ ?_ ?_
 ·exact Ent.canq [8] RF.any.qv.qp.qv.qv.qv (.nil _) (.ce (.nil _))
 ·clear h hy19
  rintro s1_0 x h
  rw [f45_s1] at h
  refine AW.rX [1, 4, 8, 9, 10, 11] ?_
  refine AW.seq ?_
  by_cases c15 : s1_0 < (a0.length : Int)
  ·rw [if_pos c15] at h
   refine AW.ifT rfl c15 ?_
   refine AW.skip ?_
   refine thenA_n ?_
   refine AW.seq ?_
   refine AW.block ?_
   obtain ⟨x16, hx16, h⟩ := Option.bind_eq_some_iff.1 h
   obtain ⟨hx16a, hx16b⟩ := ix_some.1 hx16
   refine AW.regL [1, 4, 7, 8, 9, 10] ?_
   generalize hK : AW Tryz.prog _ _ _ = K
   simp only [go_sem, ↓reduceIte, reduceCtorEq, Nat.reduceAdd, Nat.reduceSub, Nat.reduceMul, Nat.reduceEqDiff, Nat.reduceLT, Nat.reduceLeDiff, eq_true c15, natOf_le hx16a, hx16b]
   subst hK
   refine AW.rX [1, 4, 7, 8, 9, 10, 17] ?_
   by_cases c17 : x16.Key = a1
   ·rw [if_pos c17] at h
    refine AW.ifT rfl c17 ?_
    obtain ⟨x18, hx18, h⟩ := Option.bind_eq_some_iff.1 h
    refine AW.regL [4, 7] ?_
    generalize hK : AW Tryz.prog _ _ _ = K
    simp only [go_sem, ↓reduceIte, reduceCtorEq, Nat.reduceAdd, Nat.reduceSub, Nat.reduceMul, Nat.reduceEqDiff, Nat.reduceLT, Nat.reduceLeDiff, eq_true c15, eq_true c17]
    refine arC.of (ok73 x16.Offs x18 hx18) Tryz.call73 ?_
    simp only [go_sem, ↓reduceIte, reduceCtorEq, Nat.reduceAdd, Nat.reduceSub, Nat.reduceMul, Nat.reduceEqDiff, Nat.reduceLT, Nat.reduceLeDiff, eq_true c15, eq_true c17]
    subst hK
    refine AW.rX [4, 5] ?_
    refine AW.ret ?_
    refine block_r ?_
    refine thenA_r ?_
    refine thenA_r ?_
    refine ⟨_, (Option.some.inj h).symm, _, Ent.refl, rfl, ?_⟩
    (simp only [go_sem, ↓reduceIte, reduceCtorEq, Nat.reduceAdd, Nat.reduceSub, Nat.reduceMul, Nat.reduceEqDiff, Nat.reduceLT, Nat.reduceLeDiff, eq_true c15, eq_true c17, finA] <;> try simp)
   ·rw [if_neg c17] at h
    refine AW.ifF rfl c17 ?_
    refine AW.skip ?_
    refine block_n ?_
    refine thenA_n ?_
    refine AW.rY [1, 4, 8, 9, 10] ?_
    refine thenA_n ?_
    refine ⟨_, (Option.some.inj h).symm, ?_⟩
    exact Ent.canq [8] RF.any.qv.qp.qv.qv.qv (.nil _) (.ce (.nil _))
  ·rw [if_neg c15] at h
   refine AW.ifF rfl c15 ?_
   refine AW.exit ?_
   refine thenA_x ?_
   refine thenA_x ?_
   refine ⟨_, (Option.some.inj h).symm, _, ?_, rfl, rfl⟩
   exact Ent.canq [8] RF.any.qp (.nil _) (.ce (.nil _))
 ·intro e st' hX
  rcases y19 with y20 | _ <;> dsimp only at h hX
  ·obtain ⟨rfl, hf⟩ := hX
   refine ⟨_, Ent.refl, ?_⟩
   refine block_r ?_
   refine thenA_r ?_
   obtain rfl := Option.some.inj h
   exact hf
  ·obtain ⟨rfl, rfl⟩ := hX
   refine ⟨_, Ent.refl, ?_⟩
   refine block_x ?_
   refine thenA_n ?_
   refine AW.rX [4, 5] ?_
   refine AW.ent (Ent.weakObj 8 rfl rfl (.cons (.of rfl) (.cons (.of rfl) (.cons Weak.nil WeakL.nil)))) ?_
   refine AW.ret ?_
   obtain rfl := Option.some.inj h
   (simp only [go_sem, ↓reduceIte, reduceCtorEq, Nat.reduceAdd, Nat.reduceSub, Nat.reduceMul, Nat.reduceEqDiff, Nat.reduceLT, Nat.reduceLeDiff, finA] <;> try simp)
end Au
end Go.Proofs.Yt

set_option linter.all false
set_option maxRecDepth 8000
set_option maxHeartbeats 1000000
namespace Go.Proofs.Yt
open Go.Gm
namespace Au
noncomputable def f46 (a0 : List Res) (a1 : ByteArray) : Option (List Int) := ((f45 a0 a1).bind fun x1 => some x1.1.Offs)
theorem ok46 (a0 : List Res) (a1 : ByteArray) (r : (List Int)) (h : f46 a0 a1 = some r) : PC Tryz.prog 46 [.sl (List.map encRes a0), .val (.string a1)] (.sl (List.map enc3 r)) := by
 rw [f46] at h
 refine pc_of8 (N := 15) (rs := [.tmp 4]) Tryz.func46 rfl rfl rfl (Nat.le_of_ble_eq_true rfl) ?_
 refine AW.rX [0, 1] ?_
 obtain ⟨x1, hx1, h⟩ := Option.bind_eq_some_iff.1 h
 refine AW.regL [5] ?_
 generalize hK : AW Tryz.prog _ _ _ = K
 simp only [go_sem, ↓reduceIte, reduceCtorEq, Nat.reduceAdd, Nat.reduceSub, Nat.reduceMul, Nat.reduceEqDiff, Nat.reduceLT, Nat.reduceLeDiff]
 refine arC.of (ok45 a0 a1 x1 hx1) Tryz.call45 ?_
 simp only [go_sem, ↓reduceIte, reduceCtorEq, Nat.reduceAdd, Nat.reduceSub, Nat.reduceMul, Nat.reduceEqDiff, Nat.reduceLT, Nat.reduceLeDiff]
 subst hK
 refine AW.rX [4] ?_
 refine AW.ret ?_
 obtain rfl := Option.some.inj h
 (simp only [go_sem, ↓reduceIte, reduceCtorEq, Nat.reduceAdd, Nat.reduceSub, Nat.reduceMul, Nat.reduceEqDiff, Nat.reduceLT, Nat.reduceLeDiff, finA] <;> try simp)
end Au
end Go.Proofs.Yt

set_option linter.all false
set_option maxRecDepth 8000
set_option maxHeartbeats 1000000
namespace Go.Proofs.Yt
open Go.Gm
namespace Au
noncomputable def f18 (a0 : Trace) (a1 : ByteArray) : Option ((List Int) × Trace) := ((f46 a0.l a1).bind fun x1 => some (x1, a0))
theorem ok18 (a0 : Trace) (a1 : ByteArray) (r : (List Int) × Trace) (h : f18 a0 a1 = some r) : IC Tryz.prog 18 [some (.row 2 true [[.sl (List.map encRes a0.l), .im (List.map encM a0.offs)]])] [.ptr 0 0 0, .val (.string a1)] (.sl (List.map enc3 r.1)) [some (.row 2 true [[.sl (List.map encRes r.2.l), .im (List.map encM r.2.offs)]])] [] := by
 rw [f18] at h
 refine ic_of (N := 13) (rs := [.tmp 4]) Tryz.func18 rfl rfl rfl (Nat.le_of_ble_eq_true rfl) ?_
 refine AW.rX [0, 1] ?_
 refine AW.seq ?_
 refine AW.rX [0, 1, 6] ?_
 refine AW.ifBF rfl rfl ?_
 refine AW.skip ?_
 refine thenA_n ?_
 obtain ⟨x1, hx1, h⟩ := Option.bind_eq_some_iff.1 h
 refine AW.regL [4] ?_
 generalize hK : AW Tryz.prog _ _ _ = K
 simp only [go_sem, ↓reduceIte, reduceCtorEq, Nat.reduceAdd, Nat.reduceSub, Nat.reduceMul, Nat.reduceEqDiff, Nat.reduceLT, Nat.reduceLeDiff]
 refine arC.of (ok46 a0.l a1 x1 hx1) Tryz.call46 ?_
 simp only [go_sem, ↓reduceIte, reduceCtorEq, Nat.reduceAdd, Nat.reduceSub, Nat.reduceMul, Nat.reduceEqDiff, Nat.reduceLT, Nat.reduceLeDiff]
 subst hK
 refine AW.ent (st' := ⟨(upd anyF 4 (.sl (List.map enc3 x1))), hpL [some (.row 2 true [[.sl (List.map encRes a0.l), .im (List.map encM a0.offs)]])] [], 8⟩) ?_ ?_
 · refine Ent.can [] _ _ _ rfl (by first | decide | simp) rfl ?_ ?_ ?_
   · exact RF.any.qv
   · exact .ce (.nil _)
   · exact .nil _
 refine AW.ret ?_
 obtain rfl := Option.some.inj h
 exact ⟨rfl, rfl, _, rfl, by first | rfl | simp [resOf, upd_ap, bytesI_len]⟩
end Au
end Go.Proofs.Yt

set_option linter.all false
set_option maxRecDepth 8000
set_option maxHeartbeats 1000000
namespace Go.Proofs.Yt
open Go.Gm
namespace Au
noncomputable def f44 (a0 : Int) : Option Er := (if a0 = 0 then some Er.nil else some (Er.no a0))
theorem ok44 (a0 : Int) (r : Er) (h : f44 a0 = some r) : PC Tryz.prog 44 [.val (.int .i64 a0)] (.val (erV r)) := by
 rw [f44] at h
 refine pc_of8 (N := 7) (rs := [.tmp 2]) Tryz.func44 rfl rfl rfl (Nat.le_of_ble_eq_true rfl) ?_
 refine AW.rX [0] ?_
 refine AW.seq ?_
 refine AW.rX [0, 4] ?_
 by_cases c1 : a0 = 0
 ·rw [if_pos c1] at h
  refine AW.ifT rfl c1 ?_
  refine AW.rX [2] ?_
  refine AW.ret ?_
  refine thenA_r ?_
  obtain rfl := Option.some.inj h
  (simp only [go_sem, ↓reduceIte, reduceCtorEq, Nat.reduceAdd, Nat.reduceSub, Nat.reduceMul, Nat.reduceEqDiff, Nat.reduceLT, Nat.reduceLeDiff, eq_true c1, finA] <;> try simp)
 ·rw [if_neg c1] at h
  refine AW.ifF rfl c1 ?_
  refine AW.skip ?_
  refine thenA_n ?_
  refine AW.rX [2] ?_
  refine AW.ret ?_
  obtain rfl := Option.some.inj h
  (simp only [go_sem, ↓reduceIte, reduceCtorEq, Nat.reduceAdd, Nat.reduceSub, Nat.reduceMul, Nat.reduceEqDiff, Nat.reduceLT, Nat.reduceLeDiff, eq_false c1, finA] <;> try simp)
end Au
end Go.Proofs.Yt

set_option linter.all false
set_option maxRecDepth 8000
set_option maxHeartbeats 1000000
namespace Go.Proofs.Yt
open Go.Gm
namespace Au
noncomputable def f77 (a0 : List Int) (a1 : Int) : Option Bool := ((f107 a0 a1).bind fun x1 => some (decide (0 ≤ x1)))
theorem ok77 (a0 : List Int) (a1 : Int) (r : Bool) (h : f77 a0 a1 = some r) : PC Tryz.prog 77 [.sl (List.map enc3 a0), .val (.int .i64 a1)] (.val (.bool r)) := by
 rw [f77] at h
 refine pc_of8 (N := 9) (rs := [.tmp 4]) Tryz.func77 rfl rfl rfl (Nat.le_of_ble_eq_true rfl) ?_
 refine AW.rX [0, 1] ?_
 obtain ⟨x1, hx1, h⟩ := Option.bind_eq_some_iff.1 h
 refine AW.regL [4] ?_
 generalize hK : AW Tryz.prog _ _ _ = K
 simp only [go_sem, ↓reduceIte, reduceCtorEq, Nat.reduceAdd, Nat.reduceSub, Nat.reduceMul, Nat.reduceEqDiff, Nat.reduceLT, Nat.reduceLeDiff]
 refine arC.of (ok107 a0 a1 x1 hx1) Tryz.call107 ?_
 simp only [go_sem, ↓reduceIte, reduceCtorEq, Nat.reduceAdd, Nat.reduceSub, Nat.reduceMul, Nat.reduceEqDiff, Nat.reduceLT, Nat.reduceLeDiff]
 subst hK
 refine AW.ret ?_
 obtain rfl := Option.some.inj h
 (simp only [go_sem, ↓reduceIte, reduceCtorEq, Nat.reduceAdd, Nat.reduceSub, Nat.reduceMul, Nat.reduceEqDiff, Nat.reduceLT, Nat.reduceLeDiff, finA] <;> try simp)
end Au
end Go.Proofs.Yt
