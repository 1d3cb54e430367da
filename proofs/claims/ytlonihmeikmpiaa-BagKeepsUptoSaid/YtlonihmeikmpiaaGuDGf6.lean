import Derived.Test.YtlonihmeikmpiaaGuW1
import Derived.Test.YtlonihmeikmpiaaGuW2
import Derived.Test.YtlonihmeikmpiaaGuW3
set_option linter.all false
set_option linter.unusedVariables false
set_option linter.unusedSimpArgs false
set_option linter.all false
set_option maxRecDepth 8000
set_option maxHeartbeats 1000000
namespace Go.Proofs.Y1
open Go.Gm
namespace Au
noncomputable def f6_s7 (s4_15 : List Msg) (x147 : Msg × Bool × Bag) : Bool × Int → Option ((Bool × Int) ⊕ Bool)
  | (s7_0, s7_1) => (if s7_1 < ((s4_15.length : Nat) : Int) then (if s7_0 = true then some (.inl (true, IntKind.i64.wrap (s7_1 + 1))) else ((ix s4_15 s7_1).bind fun x161 => ((f36 [x147.1] [x161]).bind fun x162 => some (.inl (x162, IntKind.i64.wrap (s7_1 + 1)))))) else some (.inr s7_0))
noncomputable def f6_s4 (a0 : List Act) : Int × Int × Bool × Bool × Bool × Bool × Bool × Bool × Bool × Bool × (List Msg) × Int × Int × Int × Int × (List Msg) × Int → Option ((Int × Int × Bool × Bool × Bool × Bool × Bool × Bool × Bool × Bool × (List Msg) × Int × Int × Int × Int × (List Msg) × Int) ⊕ (Bool ⊕ (Int × Int × Int × Bool × Bool × Bool × Bool × Bool × Bool × Bool × Bool × Int × Int × Int × (List Msg))))
  | (s4_0, s4_1, s4_2, s4_3, s4_4, s4_5, s4_6, s4_7, s4_8, s4_9, s4_10, s4_11, s4_12, s4_13, s4_14, s4_15, s4_16) => (if s4_14 < (a0.length : Int) then ((ix a0 s4_14).bind fun x145 => (if x145.Do = 0 then ((f35 ⟨s4_0, s4_1, ⟨s4_2, s4_3, s4_4, s4_5, s4_6, s4_7, s4_8, s4_9⟩, s4_10, s4_11, s4_12, s4_13⟩ x145.I).bind fun x147 => ((loopO (f6_s7 s4_15 x147) (!x147.2.1, 0)).bind fun y164 => (if y164 = true then some (.inl (x147.2.2.nodes, x147.2.2.most, x147.2.2.down.e0, x147.2.2.down.e1, x147.2.2.down.e2, x147.2.2.down.e3, x147.2.2.down.e4, x147.2.2.down.e5, x147.2.2.down.e6, x147.2.2.down.e7, x147.2.2.l, x147.2.2.sent, x147.2.2.taken, x147.2.2.lost, IntKind.i64.wrap (s4_14 + 1), s4_15, s4_16)) else some (.inr (.inl false))))) else (if x145.Do = 1 then ((f37 ⟨s4_0, s4_1, ⟨s4_2, s4_3, s4_4, s4_5, s4_6, s4_7, s4_8, s4_9⟩, s4_10, s4_11, s4_12, s4_13⟩ x145.I).bind fun x167 => some (.inl (x167.2.nodes, x167.2.most, x167.2.down.e0, x167.2.down.e1, x167.2.down.e2, x167.2.down.e3, x167.2.down.e4, x167.2.down.e5, x167.2.down.e6, x167.2.down.e7, x167.2.l, x167.2.sent, x167.2.taken, x167.2.lost, IntKind.i64.wrap (s4_14 + 1), s4_15, s4_16))) else (if x145.Do = 2 then ((f38 ⟨s4_0, s4_1, ⟨s4_2, s4_3, s4_4, s4_5, s4_6, s4_7, s4_8, s4_9⟩, s4_10, s4_11, s4_12, s4_13⟩ x145.I).bind fun x169 => some (.inl (x169.2.nodes, x169.2.most, x169.2.down.e0, x169.2.down.e1, x169.2.down.e2, x169.2.down.e3, x169.2.down.e4, x169.2.down.e5, x169.2.down.e6, x169.2.down.e7, x169.2.l, x169.2.sent, x169.2.taken, x169.2.lost, IntKind.i64.wrap (s4_14 + 1), s4_15, s4_16))) else (if x145.Do = 3 then ((f39 ⟨s4_0, s4_1, ⟨s4_2, s4_3, s4_4, s4_5, s4_6, s4_7, s4_8, s4_9⟩, s4_10, s4_11, s4_12, s4_13⟩ x145.I x145.J).bind fun x171 => some (.inl (x171.2.nodes, x171.2.most, x171.2.down.e0, x171.2.down.e1, x171.2.down.e2, x171.2.down.e3, x171.2.down.e4, x171.2.down.e5, x171.2.down.e6, x171.2.down.e7, x171.2.l, x171.2.sent, x171.2.taken, x171.2.lost, IntKind.i64.wrap (s4_14 + 1), s4_15, s4_16))) else (if x145.Do = 4 then ((f40 ⟨s4_0, s4_1, ⟨s4_2, s4_3, s4_4, s4_5, s4_6, s4_7, s4_8, s4_9⟩, s4_10, s4_11, s4_12, s4_13⟩ x145.I x145.J x145.B).bind fun x173 => ((f34 x173.1).bind fun x174 => (if x174 = 0 then ((appO? s4_15 [⟨x145.I, x145.J, x145.B⟩]).bind fun x176 => (if x174 = 9 then some (.inl (x173.2.nodes, x173.2.most, x173.2.down.e0, x173.2.down.e1, x173.2.down.e2, x173.2.down.e3, x173.2.down.e4, x173.2.down.e5, x173.2.down.e6, x173.2.down.e7, x173.2.l, x173.2.sent, x173.2.taken, x173.2.lost, IntKind.i64.wrap (s4_14 + 1), x176, IntKind.i64.wrap (s4_16 + 1))) else some (.inl (x173.2.nodes, x173.2.most, x173.2.down.e0, x173.2.down.e1, x173.2.down.e2, x173.2.down.e3, x173.2.down.e4, x173.2.down.e5, x173.2.down.e6, x173.2.down.e7, x173.2.l, x173.2.sent, x173.2.taken, x173.2.lost, IntKind.i64.wrap (s4_14 + 1), x176, s4_16)))) else (if x174 = 9 then some (.inl (x173.2.nodes, x173.2.most, x173.2.down.e0, x173.2.down.e1, x173.2.down.e2, x173.2.down.e3, x173.2.down.e4, x173.2.down.e5, x173.2.down.e6, x173.2.down.e7, x173.2.l, x173.2.sent, x173.2.taken, x173.2.lost, IntKind.i64.wrap (s4_14 + 1), s4_15, IntKind.i64.wrap (s4_16 + 1))) else some (.inl (x173.2.nodes, x173.2.most, x173.2.down.e0, x173.2.down.e1, x173.2.down.e2, x173.2.down.e3, x173.2.down.e4, x173.2.down.e5, x173.2.down.e6, x173.2.down.e7, x173.2.l, x173.2.sent, x173.2.taken, x173.2.lost, IntKind.i64.wrap (s4_14 + 1), s4_15, s4_16)))))) else (if x145.Do = 5 then ((f41 ⟨s4_0, s4_1, ⟨s4_2, s4_3, s4_4, s4_5, s4_6, s4_7, s4_8, s4_9⟩, s4_10, s4_11, s4_12, s4_13⟩ x145.I x145.Up).bind fun x180 => some (.inl (x180.2.nodes, x180.2.most, x180.2.down.e0, x180.2.down.e1, x180.2.down.e2, x180.2.down.e3, x180.2.down.e4, x180.2.down.e5, x180.2.down.e6, x180.2.down.e7, x180.2.l, x180.2.sent, x180.2.taken, x180.2.lost, IntKind.i64.wrap (s4_14 + 1), s4_15, s4_16))) else some (.inl (s4_0, s4_1, s4_2, s4_3, s4_4, s4_5, s4_6, s4_7, s4_8, s4_9, s4_10, s4_11, s4_12, s4_13, IntKind.i64.wrap (s4_14 + 1), s4_15, s4_16))))))))) else some (.inr (.inr (s4_16, s4_0, s4_1, s4_2, s4_3, s4_4, s4_5, s4_6, s4_7, s4_8, s4_9, s4_11, s4_12, s4_13, s4_10))))
noncomputable def f6 (a0 : List Act) : Option Bool := ((f31 a0).bind fun x4 => (if x4 = true then ((f32 ).bind fun x6 => some x6) else ((f33 3 20).bind fun x7 => (match x7 with | (none, e8) => ((f34 e8).bind fun x12 => (if x12 = 0 then some false else some false)) | (some b9, e8) => ((f34 e8).bind fun x16 => (if x16 = 0 then ((loopO (f6_s4 a0) (b9.nodes, b9.most, b9.down.e0, b9.down.e1, b9.down.e2, b9.down.e3, b9.down.e4, b9.down.e5, b9.down.e6, b9.down.e7, b9.l, b9.sent, b9.taken, b9.lost, 0, [], 0)).bind fun y181 => match y181 with | .inl y182 => some y182 | .inr (y183, y184, y185, y186, y187, y188, y189, y190, y191, y192, y193, y194, y195, y196, y197) => ((f42 ⟨y184, y185, ⟨y186, y187, y188, y189, y190, y191, y192, y193⟩, y197, y194, y195, y196⟩).bind fun x198 => ((f43 x198.2.2.2).bind fun x199 => (if x198.1 = (IntKind.i64.wrap ((IntKind.i64.wrap ((IntKind.i64.wrap (x199.1 + x198.2.1)) + x198.2.2.1)) - y183)) then ((f32 ).bind fun x201 => some x201) else some false)))) else some false))))))
theorem ok6 (a0 : List Act) (r : Bool) (h : f6 a0 = some r) : PC Try.prog 6 [.sl (List.map encAct a0)] (.val (.bool r)) := by
  rw [f6] at h
  refine pc_of8 (N := 148) (rs := [.tmp 2]) Try.func6 rfl rfl rfl (Nat.le_of_ble_eq_true rfl) ?_
  refine AW.regL [0] ?_
  generalize hK : AW Try.prog _ _ _ = K
  simp only [go_sem, ↓reduceIte, reduceCtorEq, Nat.reduceAdd, Nat.reduceSub, Nat.reduceMul, Nat.reduceEqDiff, Nat.reduceLT, Nat.reduceLeDiff, Nat.reduceBEq, Int.reduceAdd, Int.reduceSub, Int.reduceLT, Int.reduceLE, Int.reduceEq, Int.reduceToNat]
  subst hK
  refine AW.seq ?_
  obtain ⟨x4, hx4, h⟩ := Option.bind_eq_some_iff.1 h
  refine AW.regL [0, 18] ?_
  generalize hK : AW Try.prog _ _ _ = K
  simp only [go_sem, ↓reduceIte, reduceCtorEq, Nat.reduceAdd, Nat.reduceSub, Nat.reduceMul, Nat.reduceEqDiff, Nat.reduceLT, Nat.reduceLeDiff, Nat.reduceBEq, Int.reduceAdd, Int.reduceSub, Int.reduceLT, Int.reduceLE, Int.reduceEq, Int.reduceToNat]
  refine arC.of (ok31 a0 x4 hx4) Try.call31 ?_
  simp only [go_sem, ↓reduceIte, reduceCtorEq, Nat.reduceAdd, Nat.reduceSub, Nat.reduceMul, Nat.reduceEqDiff, Nat.reduceLT, Nat.reduceLeDiff, Nat.reduceBEq, Int.reduceAdd, Int.reduceSub, Int.reduceLT, Int.reduceLE, Int.reduceEq, Int.reduceToNat]
  subst hK
  by_cases c5 : x4 = true
  · rw [if_pos c5] at h
    refine AW.ifBT rfl c5 ?_
    obtain ⟨x6, hx6, h⟩ := Option.bind_eq_some_iff.1 h
    refine AW.regL [2] ?_
    generalize hK : AW Try.prog _ _ _ = K
    simp only [go_sem, ↓reduceIte, reduceCtorEq, Nat.reduceAdd, Nat.reduceSub, Nat.reduceMul, Nat.reduceEqDiff, Nat.reduceLT, Nat.reduceLeDiff, Nat.reduceBEq, Int.reduceAdd, Int.reduceSub, Int.reduceLT, Int.reduceLE, Int.reduceEq, Int.reduceToNat, c5]
    refine arC.of (ok32  x6 hx6) Try.call32 ?_
    simp only [go_sem, ↓reduceIte, reduceCtorEq, Nat.reduceAdd, Nat.reduceSub, Nat.reduceMul, Nat.reduceEqDiff, Nat.reduceLT, Nat.reduceLeDiff, Nat.reduceBEq, Int.reduceAdd, Int.reduceSub, Int.reduceLT, Int.reduceLE, Int.reduceEq, Int.reduceToNat, c5]
    subst hK
    refine AW.ret ?_
    refine thenA_r ?_
    obtain rfl := Option.some.inj h
    (simp only [go_sem, ↓reduceIte, reduceCtorEq, Nat.reduceAdd, Nat.reduceSub, Nat.reduceMul, Nat.reduceEqDiff, Nat.reduceLT, Nat.reduceLeDiff, Nat.reduceBEq, Int.reduceAdd, Int.reduceSub, Int.reduceLT, Int.reduceLE, Int.reduceEq, Int.reduceToNat, c5, finA, resA, resOf_1, resOf_2, sealV_val, sealV_sl, sealV_ip, sealV_agg, sealV_tup, sealV_own, sealL_nil, sealL_cons, sealV_clo, resOf_clo] <;> try simp)
  · rw [if_neg c5] at h
    rw [Bool.not_eq_true] at c5
    refine AW.ifBF rfl c5 ?_
    refine AW.skip ?_
    refine thenA_n ?_
    obtain ⟨x7, hx7, h⟩ := Option.bind_eq_some_iff.1 h
    obtain ⟨(_ | b9), e8⟩ := x7
    · dsimp only at h
      refine AW.regL [0, 3, 4] ?_
      generalize hK : AW Try.prog _ _ _ = K
      simp only [go_sem, ↓reduceIte, reduceCtorEq, Nat.reduceAdd, Nat.reduceSub, Nat.reduceMul, Nat.reduceEqDiff, Nat.reduceLT, Nat.reduceLeDiff, Nat.reduceBEq, Int.reduceAdd, Int.reduceSub, Int.reduceLT, Int.reduceLE, Int.reduceEq, Int.reduceToNat, c5]
      refine arC.ok (CallOk.ic (us' := _) (ok33 3 20 (none, e8) hx7) [] rfl (by decide) (by simp) (by simp) (by simp) (by simp) (.nil _) (by simp only [mapTL_cons, mapTL_nil, mapT_ptr, mapT_own, mapT_val, mapT_sl, mapT_agg, mapT_ip, sg_ap, List.getD_cons_zero, List.getD_cons_succ]; exact (.cons (.of rfl) (.cons (.of rfl) .nil))) (by simp only [go_sem, List.length_cons, List.length_nil, Nat.reduceAdd, Nat.reduceLT, decide_true]) (by simp [AObj.isMut]) (by simp [go_sem]) (by simp [go_sem])) Try.call33 ?_
      simp only [go_sem, ↓reduceIte, reduceCtorEq, Nat.reduceAdd, Nat.reduceSub, Nat.reduceMul, Nat.reduceEqDiff, Nat.reduceLT, Nat.reduceLeDiff, Nat.reduceBEq, Int.reduceAdd, Int.reduceSub, Int.reduceLT, Int.reduceLE, Int.reduceEq, Int.reduceToNat, c5]
      subst hK
      refine AW.seq ?_
      obtain ⟨x12, hx12, h⟩ := Option.bind_eq_some_iff.1 h
      by_cases c13 : x12 = 0
      · rw [if_pos c13] at h
        refine AW.regL [0, 3, 30] ?_
        generalize hK : AW Try.prog _ _ _ = K
        simp only [go_sem, ↓reduceIte, reduceCtorEq, Nat.reduceAdd, Nat.reduceSub, Nat.reduceMul, Nat.reduceEqDiff, Nat.reduceLT, Nat.reduceLeDiff, Nat.reduceBEq, Int.reduceAdd, Int.reduceSub, Int.reduceLT, Int.reduceLE, Int.reduceEq, Int.reduceToNat, c5, eq_true c13]
        refine arC.of (ok34 e8 x12 hx12) Try.call34 ?_
        simp only [go_sem, ↓reduceIte, reduceCtorEq, Nat.reduceAdd, Nat.reduceSub, Nat.reduceMul, Nat.reduceEqDiff, Nat.reduceLT, Nat.reduceLeDiff, Nat.reduceBEq, Int.reduceAdd, Int.reduceSub, Int.reduceLT, Int.reduceLE, Int.reduceEq, Int.reduceToNat, c5, eq_true c13]
        subst hK
        refine AW.ifBT rfl rfl ?_
        refine AW.regL [2] ?_
        generalize hK : AW Try.prog _ _ _ = K
        simp only [go_sem, ↓reduceIte, reduceCtorEq, Nat.reduceAdd, Nat.reduceSub, Nat.reduceMul, Nat.reduceEqDiff, Nat.reduceLT, Nat.reduceLeDiff, Nat.reduceBEq, Int.reduceAdd, Int.reduceSub, Int.reduceLT, Int.reduceLE, Int.reduceEq, Int.reduceToNat, c5, eq_true c13]
        subst hK
        refine AW.ret ?_
        refine thenA_r ?_
        obtain rfl := Option.some.inj h
        (simp only [go_sem, ↓reduceIte, reduceCtorEq, Nat.reduceAdd, Nat.reduceSub, Nat.reduceMul, Nat.reduceEqDiff, Nat.reduceLT, Nat.reduceLeDiff, Nat.reduceBEq, Int.reduceAdd, Int.reduceSub, Int.reduceLT, Int.reduceLE, Int.reduceEq, Int.reduceToNat, c5, eq_true c13, finA, resA, resOf_1, resOf_2, sealV_val, sealV_sl, sealV_ip, sealV_agg, sealV_tup, sealV_own, sealL_nil, sealL_cons, sealV_clo, resOf_clo] <;> try simp)
      · rw [if_neg c13] at h
        refine AW.regL [0, 3, 30] ?_
        generalize hK : AW Try.prog _ _ _ = K
        simp only [go_sem, ↓reduceIte, reduceCtorEq, Nat.reduceAdd, Nat.reduceSub, Nat.reduceMul, Nat.reduceEqDiff, Nat.reduceLT, Nat.reduceLeDiff, Nat.reduceBEq, Int.reduceAdd, Int.reduceSub, Int.reduceLT, Int.reduceLE, Int.reduceEq, Int.reduceToNat, c5, eq_false c13]
        refine arC.of (ok34 e8 x12 hx12) Try.call34 ?_
        simp only [go_sem, ↓reduceIte, reduceCtorEq, Nat.reduceAdd, Nat.reduceSub, Nat.reduceMul, Nat.reduceEqDiff, Nat.reduceLT, Nat.reduceLeDiff, Nat.reduceBEq, Int.reduceAdd, Int.reduceSub, Int.reduceLT, Int.reduceLE, Int.reduceEq, Int.reduceToNat, c5, eq_false c13]
        subst hK
        refine AW.ifBT rfl rfl ?_
        refine AW.regL [2] ?_
        generalize hK : AW Try.prog _ _ _ = K
        simp only [go_sem, ↓reduceIte, reduceCtorEq, Nat.reduceAdd, Nat.reduceSub, Nat.reduceMul, Nat.reduceEqDiff, Nat.reduceLT, Nat.reduceLeDiff, Nat.reduceBEq, Int.reduceAdd, Int.reduceSub, Int.reduceLT, Int.reduceLE, Int.reduceEq, Int.reduceToNat, c5, eq_false c13]
        subst hK
        refine AW.ret ?_
        refine thenA_r ?_
        obtain rfl := Option.some.inj h
        (simp only [go_sem, ↓reduceIte, reduceCtorEq, Nat.reduceAdd, Nat.reduceSub, Nat.reduceMul, Nat.reduceEqDiff, Nat.reduceLT, Nat.reduceLeDiff, Nat.reduceBEq, Int.reduceAdd, Int.reduceSub, Int.reduceLT, Int.reduceLE, Int.reduceEq, Int.reduceToNat, c5, eq_false c13, finA, resA, resOf_1, resOf_2, sealV_val, sealV_sl, sealV_ip, sealV_agg, sealV_tup, sealV_own, sealL_nil, sealL_cons, sealV_clo, resOf_clo] <;> try simp)
    · dsimp only at h
      refine AW.regL [0, 3, 4] ?_
      generalize hK : AW Try.prog _ _ _ = K
      simp only [go_sem, ↓reduceIte, reduceCtorEq, Nat.reduceAdd, Nat.reduceSub, Nat.reduceMul, Nat.reduceEqDiff, Nat.reduceLT, Nat.reduceLeDiff, Nat.reduceBEq, Int.reduceAdd, Int.reduceSub, Int.reduceLT, Int.reduceLE, Int.reduceEq, Int.reduceToNat, c5]
      refine arC.ok (CallOk.ic (us' := _) (ok33 3 20 (some b9, e8) hx7) [] rfl (by decide) (by simp) (by simp) (by simp) (by simp) (.nil _) (by simp only [mapTL_cons, mapTL_nil, mapT_ptr, mapT_own, mapT_val, mapT_sl, mapT_agg, mapT_ip, sg_ap, List.getD_cons_zero, List.getD_cons_succ]; exact (.cons (.of rfl) (.cons (.of rfl) .nil))) (by simp only [go_sem, List.length_cons, List.length_nil, Nat.reduceAdd, Nat.reduceLT, decide_true]) (by simp [AObj.isMut]) (by simp [go_sem]) (by simp [go_sem])) Try.call33 ?_
      simp only [go_sem, ↓reduceIte, reduceCtorEq, Nat.reduceAdd, Nat.reduceSub, Nat.reduceMul, Nat.reduceEqDiff, Nat.reduceLT, Nat.reduceLeDiff, Nat.reduceBEq, Int.reduceAdd, Int.reduceSub, Int.reduceLT, Int.reduceLE, Int.reduceEq, Int.reduceToNat, c5]
      subst hK
      refine AW.seq ?_
      obtain ⟨x16, hx16, h⟩ := Option.bind_eq_some_iff.1 h
      by_cases c17 : x16 = 0
      · rw [if_pos c17] at h
        refine AW.regL [0, 3, 30] ?_
        generalize hK : AW Try.prog _ _ _ = K
        simp only [go_sem, ↓reduceIte, reduceCtorEq, Nat.reduceAdd, Nat.reduceSub, Nat.reduceMul, Nat.reduceEqDiff, Nat.reduceLT, Nat.reduceLeDiff, Nat.reduceBEq, Int.reduceAdd, Int.reduceSub, Int.reduceLT, Int.reduceLE, Int.reduceEq, Int.reduceToNat, c5, eq_true c17]
        refine arC.of (ok34 e8 x16 hx16) Try.call34 ?_
        simp only [go_sem, ↓reduceIte, reduceCtorEq, Nat.reduceAdd, Nat.reduceSub, Nat.reduceMul, Nat.reduceEqDiff, Nat.reduceLT, Nat.reduceLeDiff, Nat.reduceBEq, Int.reduceAdd, Int.reduceSub, Int.reduceLT, Int.reduceLE, Int.reduceEq, Int.reduceToNat, c5, eq_true c17]
        subst hK
        refine AW.ifBF rfl rfl ?_
        refine AW.skip ?_
        refine thenA_n ?_
        refine AW.regL [0, 3, 5] ?_
        generalize hK : AW Try.prog _ _ _ = K
        simp only [go_sem, ↓reduceIte, reduceCtorEq, Nat.reduceAdd, Nat.reduceSub, Nat.reduceMul, Nat.reduceEqDiff, Nat.reduceLT, Nat.reduceLeDiff, Nat.reduceBEq, Int.reduceAdd, Int.reduceSub, Int.reduceLT, Int.reduceLE, Int.reduceEq, Int.reduceToNat, c5, eq_true c17]
        subst hK
        refine AW.regL [0, 3, 5, 6] ?_
        generalize hK : AW Try.prog _ _ _ = K
        simp only [go_sem, ↓reduceIte, reduceCtorEq, Nat.reduceAdd, Nat.reduceSub, Nat.reduceMul, Nat.reduceEqDiff, Nat.reduceLT, Nat.reduceLeDiff, Nat.reduceBEq, Int.reduceAdd, Int.reduceSub, Int.reduceLT, Int.reduceLE, Int.reduceEq, Int.reduceToNat, c5, eq_true c17]
        subst hK
        refine AW.seq ?_
        refine AW.regL [0, 3, 5, 6, 7] ?_
        generalize hK : AW Try.prog _ _ _ = K
        simp only [go_sem, ↓reduceIte, reduceCtorEq, Nat.reduceAdd, Nat.reduceSub, Nat.reduceMul, Nat.reduceEqDiff, Nat.reduceLT, Nat.reduceLeDiff, Nat.reduceBEq, Int.reduceAdd, Int.reduceSub, Int.reduceLT, Int.reduceLE, Int.reduceEq, Int.reduceToNat, c5, eq_true c17]
        subst hK
        refine AW.block ?_
        obtain ⟨y181, hy181, h⟩ := Option.bind_eq_some_iff.1 h
        refine AW.loopO (fun s => ⟨(upd (upd (upd (upd (upd anyF 0 (.sl (List.map encAct a0))) 3 (.ptr 8 0 0)) 5 (.own 10 0 s.2.2.2.2.2.2.2.2.2.2.2.2.2.2.2.1.length)) 6 (.val (.int .i64 s.2.2.2.2.2.2.2.2.2.2.2.2.2.2.2.2))) 7 (.val (.int .i64 s.2.2.2.2.2.2.2.2.2.2.2.2.2.2.1))), hpL [] [some (.row 14 true [[.val (.int .i64 s.1), .val (.int .i64 s.2.1), .val (.bool s.2.2.1), .val (.bool s.2.2.2.1), .val (.bool s.2.2.2.2.1), .val (.bool s.2.2.2.2.2.1), .val (.bool s.2.2.2.2.2.2.1), .val (.bool s.2.2.2.2.2.2.2.1), .val (.bool s.2.2.2.2.2.2.2.2.1), .val (.bool s.2.2.2.2.2.2.2.2.2.1), .own 9 0 s.2.2.2.2.2.2.2.2.2.2.1.length, .val (.int .i64 s.2.2.2.2.2.2.2.2.2.2.2.1), .val (.int .i64 s.2.2.2.2.2.2.2.2.2.2.2.2.1), .val (.int .i64 s.2.2.2.2.2.2.2.2.2.2.2.2.2.1)]]), some (.row 3 true (List.map encMsg s.2.2.2.2.2.2.2.2.2.2.1)), some (.row 3 true (List.map encMsg s.2.2.2.2.2.2.2.2.2.2.2.2.2.2.2.1))], 11⟩) (fun y e st' => match y with | .inl z => e = Exit.ret ∧ finA Try.prog [.tmp 2] (.val (.bool z)) .ret st' | .inr z => e = Exit.exit 0 ∧ st' = ⟨(upd (upd anyF 3 (.ptr 8 0 0)) 6 (.val (.int .i64 z.1))), hpL [] [some (.row 14 true [[.val (.int .i64 z.2.1), .val (.int .i64 z.2.2.1), .val (.bool z.2.2.2.1), .val (.bool z.2.2.2.2.1), .val (.bool z.2.2.2.2.2.1), .val (.bool z.2.2.2.2.2.2.1), .val (.bool z.2.2.2.2.2.2.2.1), .val (.bool z.2.2.2.2.2.2.2.2.1), .val (.bool z.2.2.2.2.2.2.2.2.2.1), .val (.bool z.2.2.2.2.2.2.2.2.2.2.1), .own 9 0 z.2.2.2.2.2.2.2.2.2.2.2.2.2.2.length, .val (.int .i64 z.2.2.2.2.2.2.2.2.2.2.2.1), .val (.int .i64 z.2.2.2.2.2.2.2.2.2.2.2.2.1), .val (.int .i64 z.2.2.2.2.2.2.2.2.2.2.2.2.2.1)]]), some (.row 3 true (List.map encMsg z.2.2.2.2.2.2.2.2.2.2.2.2.2.2))], 10⟩) hy181 ?_ ?_ ?_
        · refine Ent.trans (Ent.nilOwn 5 3 (by decide) rfl) ?_
          refine Ent.can [32, 33, 160] _ _ _ rfl (by first | decide | simp) rfl ?_ ?_ ?_
          · exact (((((RF.any.pv (by first | rfl | simp only [go_sem]) (by first | rfl | simp [upd_ap, hpL_ap, tau, mapT, mapTL, bytesI_len, c5, eq_true c17])).pp (by decide) (by first | rfl | simp [upd_ap, hpL_ap, tau, mapT, mapTL, bytesI_len, c5, eq_true c17])).po (by decide) (by first | rfl | simp [upd_ap, hpL_ap, tau, mapT, mapTL, bytesI_len, c5, eq_true c17])).pv (by first | rfl | simp only [go_sem]) (by first | rfl | simp [upd_ap, hpL_ap, tau, mapT, mapTL, bytesI_len, c5, eq_true c17])).pv (by first | rfl | simp only [go_sem]) (by first | rfl | simp [upd_ap, hpL_ap, tau, mapT, mapTL, bytesI_len, c5, eq_true c17]))
          · exact .nil _
          · exact .cons (.tok (by simp [tokL, tokLL, inlR]) (by first | rfl | simp [upd_ap, hpL_ap, tau, mapT, mapTL, bytesI_len, c5, eq_true c17])) (.cons (.eq (by first | rfl | simp only [go_sem]) (by first | rfl | simp [upd_ap, hpL_ap, tau, mapT, mapTL, bytesI_len, c5, eq_true c17])) (.cons (.eq (by first | rfl | simp only [go_sem]) (by first | rfl | simp [upd_ap, hpL_ap, tau, mapT, mapTL, bytesI_len, c5, eq_true c17])) (.nil _)))
        · clear h hy181
          rintro ⟨s4_0, s4_1, s4_2, s4_3, s4_4, s4_5, s4_6, s4_7, s4_8, s4_9, s4_10, s4_11, s4_12, s4_13, s4_14, s4_15, s4_16⟩ x h
          rw [f6_s4] at h
          refine AW.seq ?_
          refine AW.regL [0, 3, 5, 6, 7, 34] ?_
          generalize hK : AW Try.prog _ _ _ = K
          simp only [go_sem, ↓reduceIte, reduceCtorEq, Nat.reduceAdd, Nat.reduceSub, Nat.reduceMul, Nat.reduceEqDiff, Nat.reduceLT, Nat.reduceLeDiff, Nat.reduceBEq, Int.reduceAdd, Int.reduceSub, Int.reduceLT, Int.reduceLE, Int.reduceEq, Int.reduceToNat, c5, eq_true c17]
          subst hK
          by_cases c144 : s4_14 < (a0.length : Int)
          · rw [if_pos c144] at h
            refine AW.ifT rfl c144 ?_
            refine AW.skip ?_
            refine thenA_n ?_
            refine AW.seq ?_
            refine AW.block ?_
            obtain ⟨x145, hx145, h⟩ := Option.bind_eq_some_iff.1 h
            obtain ⟨hx145a, hx145b⟩ := ix_some.1 hx145
            refine AW.regL [0, 3, 5, 6, 7, 8] ?_
            generalize hK : AW Try.prog _ _ _ = K
            simp only [go_sem, ↓reduceIte, reduceCtorEq, Nat.reduceAdd, Nat.reduceSub, Nat.reduceMul, Nat.reduceEqDiff, Nat.reduceLT, Nat.reduceLeDiff, Nat.reduceBEq, Int.reduceAdd, Int.reduceSub, Int.reduceLT, Int.reduceLE, Int.reduceEq, Int.reduceToNat, c5, eq_true c17, eq_true c144, natOf_le hx145a, hx145b]
            subst hK
            refine AW.regL [0, 3, 5, 6, 7, 8, 42] ?_
            generalize hK : AW Try.prog _ _ _ = K
            simp only [go_sem, ↓reduceIte, reduceCtorEq, Nat.reduceAdd, Nat.reduceSub, Nat.reduceMul, Nat.reduceEqDiff, Nat.reduceLT, Nat.reduceLeDiff, Nat.reduceBEq, Int.reduceAdd, Int.reduceSub, Int.reduceLT, Int.reduceLE, Int.reduceEq, Int.reduceToNat, c5, eq_true c17, eq_true c144]
            subst hK
            refine AW.block ?_
            refine AW.regL [0, 3, 5, 6, 7, 8, 42, 43] ?_
            generalize hK : AW Try.prog _ _ _ = K
            simp only [go_sem, ↓reduceIte, reduceCtorEq, Nat.reduceAdd, Nat.reduceSub, Nat.reduceMul, Nat.reduceEqDiff, Nat.reduceLT, Nat.reduceLeDiff, Nat.reduceBEq, Int.reduceAdd, Int.reduceSub, Int.reduceLT, Int.reduceLE, Int.reduceEq, Int.reduceToNat, c5, eq_true c17, eq_true c144]
            subst hK
            by_cases c146 : x145.Do = 0
            · rw [if_pos c146] at h
              refine AW.ifT rfl c146 ?_
              obtain ⟨x147, hx147, h⟩ := Option.bind_eq_some_iff.1 h
              refine AW.regL [0, 3, 5, 6, 7, 9, 10] ?_
              generalize hK : AW Try.prog _ _ _ = K
              simp only [go_sem, ↓reduceIte, reduceCtorEq, Nat.reduceAdd, Nat.reduceSub, Nat.reduceMul, Nat.reduceEqDiff, Nat.reduceLT, Nat.reduceLeDiff, Nat.reduceBEq, Int.reduceAdd, Int.reduceSub, Int.reduceLT, Int.reduceLE, Int.reduceEq, Int.reduceToNat, c5, eq_true c17, eq_true c144, eq_true c146]
              refine arC.ok (CallOk.ic (us' := _) (ok35 ⟨s4_0, s4_1, ⟨s4_2, s4_3, s4_4, s4_5, s4_6, s4_7, s4_8, s4_9⟩, s4_10, s4_11, s4_12, s4_13⟩ x145.I x147 hx147) [8, 9] rfl (by decide) (by simp) (by simp) (by simp) (by simp) (.cons (.tok (by simp [tokL, tokLL, inlR]) (by first | rfl | simp [upd_ap, hpL_ap, sg_ap, mapT, mapTL])) (.cons (.eq (by simp only [go_sem]) (by first | rfl | simp [upd_ap, hpL_ap, sg_ap])) (.nil _))) (by simp only [mapTL_cons, mapTL_nil, mapT_ptr, mapT_own, mapT_val, mapT_sl, mapT_agg, mapT_ip, sg_ap, List.getD_cons_zero, List.getD_cons_succ]; exact (.cons (.of rfl) (.cons (.of rfl) .nil))) (by simp only [go_sem, List.length_cons, List.length_nil, Nat.reduceAdd, Nat.reduceLT, decide_true]) (by simp [AObj.isMut]) (by simp [go_sem]) (by simp [go_sem])) Try.call35 ?_
              simp only [go_sem, ↓reduceIte, reduceCtorEq, Nat.reduceAdd, Nat.reduceSub, Nat.reduceMul, Nat.reduceEqDiff, Nat.reduceLT, Nat.reduceLeDiff, Nat.reduceBEq, Int.reduceAdd, Int.reduceSub, Int.reduceLT, Int.reduceLE, Int.reduceEq, Int.reduceToNat, c5, eq_true c17, eq_true c144, eq_true c146]
              subst hK
              refine AW.regL [0, 3, 5, 6, 7, 9, 11] ?_
              generalize hK : AW Try.prog _ _ _ = K
              simp only [go_sem, ↓reduceIte, reduceCtorEq, Nat.reduceAdd, Nat.reduceSub, Nat.reduceMul, Nat.reduceEqDiff, Nat.reduceLT, Nat.reduceLeDiff, Nat.reduceBEq, Int.reduceAdd, Int.reduceSub, Int.reduceLT, Int.reduceLE, Int.reduceEq, Int.reduceToNat, c5, eq_true c17, eq_true c144, eq_true c146]
              subst hK
              refine AW.seq ?_
              refine AW.regL [0, 3, 5, 6, 7, 9, 11, 12] ?_
              generalize hK : AW Try.prog _ _ _ = K
              simp only [go_sem, ↓reduceIte, reduceCtorEq, Nat.reduceAdd, Nat.reduceSub, Nat.reduceMul, Nat.reduceEqDiff, Nat.reduceLT, Nat.reduceLeDiff, Nat.reduceBEq, Int.reduceAdd, Int.reduceSub, Int.reduceLT, Int.reduceLE, Int.reduceEq, Int.reduceToNat, c5, eq_true c17, eq_true c144, eq_true c146]
              subst hK
              refine AW.block ?_
              obtain ⟨y164, hy164, h⟩ := Option.bind_eq_some_iff.1 h
              refine AW.loopO (fun s => ⟨(upd (upd (upd (upd (upd (upd (upd (upd anyF 0 (.sl (List.map encAct a0))) 3 (.ptr 8 0 0)) 5 (.own 10 0 s4_15.length)) 6 (.val (.int .i64 s4_16))) 7 (.val (.int .i64 s4_14))) 9 (.ptr 11 0 0)) 11 (.val (.bool s.1))) 12 (.val (.int .i64 s.2))), hpL [] [some (.row 14 true [[.val (.int .i64 x147.2.2.nodes), .val (.int .i64 x147.2.2.most), .val (.bool x147.2.2.down.e0), .val (.bool x147.2.2.down.e1), .val (.bool x147.2.2.down.e2), .val (.bool x147.2.2.down.e3), .val (.bool x147.2.2.down.e4), .val (.bool x147.2.2.down.e5), .val (.bool x147.2.2.down.e6), .val (.bool x147.2.2.down.e7), .own 9 0 x147.2.2.l.length, .val (.int .i64 x147.2.2.sent), .val (.int .i64 x147.2.2.taken), .val (.int .i64 x147.2.2.lost)]]), some (.row 3 true (List.map encMsg x147.2.2.l)), some (.row 3 true (List.map encMsg s4_15)), some (.row 3 true [[.val (.int .i64 x147.1.From), .val (.int .i64 x147.1.To), .sl (List.map enc5 x147.1.Data)]])], 12⟩) (fun z e st' => e = Exit.exit 3 ∧ st' = ⟨(upd (upd (upd (upd (upd (upd anyF 0 (.sl (List.map encAct a0))) 3 (.ptr 8 0 0)) 5 (.own 10 0 s4_15.length)) 6 (.val (.int .i64 s4_16))) 7 (.val (.int .i64 s4_14))) 11 (.val (.bool z))), hpL [] [some (.row 14 true [[.val (.int .i64 x147.2.2.nodes), .val (.int .i64 x147.2.2.most), .val (.bool x147.2.2.down.e0), .val (.bool x147.2.2.down.e1), .val (.bool x147.2.2.down.e2), .val (.bool x147.2.2.down.e3), .val (.bool x147.2.2.down.e4), .val (.bool x147.2.2.down.e5), .val (.bool x147.2.2.down.e6), .val (.bool x147.2.2.down.e7), .own 9 0 x147.2.2.l.length, .val (.int .i64 x147.2.2.sent), .val (.int .i64 x147.2.2.taken), .val (.int .i64 x147.2.2.lost)]]), some (.row 3 true (List.map encMsg x147.2.2.l)), some (.row 3 true (List.map encMsg s4_15))], 11⟩) hy164 ?_ ?_ ?_
              · refine Ent.can [8, 9, 10, 179] _ _ _ rfl (by first | decide | simp) rfl ?_ ?_ ?_
                · exact ((((((((RF.any.pv (by first | rfl | simp only [go_sem]) (by first | rfl | simp [upd_ap, hpL_ap, tau, mapT, mapTL, bytesI_len, c5, eq_true c17, eq_true c144, eq_true c146])).pp (by decide) (by first | rfl | simp [upd_ap, hpL_ap, tau, mapT, mapTL, bytesI_len, c5, eq_true c17, eq_true c144, eq_true c146])).po (by decide) (by first | rfl | simp [upd_ap, hpL_ap, tau, mapT, mapTL, bytesI_len, c5, eq_true c17, eq_true c144, eq_true c146])).pv (by first | rfl | simp only [go_sem]) (by first | rfl | simp [upd_ap, hpL_ap, tau, mapT, mapTL, bytesI_len, c5, eq_true c17, eq_true c144, eq_true c146])).pv (by first | rfl | simp only [go_sem]) (by first | rfl | simp [upd_ap, hpL_ap, tau, mapT, mapTL, bytesI_len, c5, eq_true c17, eq_true c144, eq_true c146])).pp (by decide) (by first | rfl | simp [upd_ap, hpL_ap, tau, mapT, mapTL, bytesI_len, c5, eq_true c17, eq_true c144, eq_true c146])).pv (by first | rfl | simp only [go_sem]) (by first | rfl | simp [upd_ap, hpL_ap, tau, mapT, mapTL, bytesI_len, c5, eq_true c17, eq_true c144, eq_true c146])).pv (by first | rfl | simp only [go_sem]) (by first | rfl | simp [upd_ap, hpL_ap, tau, mapT, mapTL, bytesI_len, c5, eq_true c17, eq_true c144, eq_true c146]))
                · exact .nil _
                · exact .cons (.tok (by simp [tokL, tokLL, inlR]) (by first | rfl | simp [upd_ap, hpL_ap, tau, mapT, mapTL, bytesI_len, c5, eq_true c17, eq_true c144, eq_true c146])) (.cons (.eq (by first | rfl | simp only [go_sem]) (by first | rfl | simp [upd_ap, hpL_ap, tau, mapT, mapTL, bytesI_len, c5, eq_true c17, eq_true c144, eq_true c146])) (.cons (.eq (by first | rfl | simp only [go_sem]) (by first | rfl | simp [upd_ap, hpL_ap, tau, mapT, mapTL, bytesI_len, c5, eq_true c17, eq_true c144, eq_true c146])) (.cons (.eq (by first | rfl | simp only [go_sem]) (by first | rfl | simp [upd_ap, hpL_ap, tau, mapT, mapTL, bytesI_len, c5, eq_true c17, eq_true c144, eq_true c146])) (.nil _))))
              · clear h hy164
                rintro ⟨s7_0, s7_1⟩ x h
                rw [f6_s7] at h
                refine AW.seq ?_
                refine AW.regL [0, 3, 5, 6, 7, 9, 11, 12, 57] ?_
                generalize hK : AW Try.prog _ _ _ = K
                simp only [go_sem, ↓reduceIte, reduceCtorEq, Nat.reduceAdd, Nat.reduceSub, Nat.reduceMul, Nat.reduceEqDiff, Nat.reduceLT, Nat.reduceLeDiff, Nat.reduceBEq, Int.reduceAdd, Int.reduceSub, Int.reduceLT, Int.reduceLE, Int.reduceEq, Int.reduceToNat, c5, eq_true c17, eq_true c144, eq_true c146]
                subst hK
                by_cases c159 : s7_1 < ((s4_15.length : Nat) : Int)
                · rw [if_pos c159] at h
                  refine AW.ifT rfl c159 ?_
                  refine AW.skip ?_
                  refine thenA_n ?_
                  refine AW.seq ?_
                  refine AW.block ?_
                  by_cases c160 : s7_0 = true
                  · rw [if_pos c160] at h
                    refine AW.drawL [0, 3, 5, 6, 7, 9, 11, 12] [[], [0], [0, 1], [0, 1, 2], [0, 1], [0, 1], [0, 1, 4, 5], [0, 1, 4, 5, 6], [0, 1, 4, 5, 6, 7], [0, 1, 2, 3, 4, 5, 6, 7, 8], [0, 1, 2, 3, 4, 5, 6, 7, 8, 9], [0, 1, 2, 3, 4, 5, 6, 7, 8, 9, 10]] [0, 1, 2, 3, 4, 5, 6, 7, 8, 9, 10, 11] noFt (fun _ _ _ h => by simp [noFt] at h) draws (by kernel_rfl) (by kernel_rfl) ?_
                    generalize hK : inBlockA _ _ Exit.normal = K
                    simp only [go_sem, ↓reduceIte, reduceCtorEq, Nat.reduceAdd, Nat.reduceSub, Nat.reduceMul, Nat.reduceEqDiff, Nat.reduceLT, Nat.reduceLeDiff, Nat.reduceBEq, Int.reduceAdd, Int.reduceSub, Int.reduceLT, Int.reduceLE, Int.reduceEq, Int.reduceToNat, c5, eq_true c17, eq_true c144, eq_true c146, eq_true c159, c160]
                    subst hK
                    refine block_n ?_
                    refine thenA_n ?_
                    refine AW.regionL [0, 3, 5, 6, 7, 9, 11, 12] ?_
                    generalize hK : thenA _ _ Exit.normal = K
                    simp only [go_sem, ↓reduceIte, reduceCtorEq, Nat.reduceAdd, Nat.reduceSub, Nat.reduceMul, Nat.reduceEqDiff, Nat.reduceLT, Nat.reduceLeDiff, Nat.reduceBEq, Int.reduceAdd, Int.reduceSub, Int.reduceLT, Int.reduceLE, Int.reduceEq, Int.reduceToNat, c5, eq_true c17, eq_true c144, eq_true c146, eq_true c159, c160]
                    subst hK
                    refine thenA_n ?_
                    refine ⟨_, (Option.some.inj h).symm, ?_⟩
                    refine Ent.can [8, 9, 10, 11] _ _ _ rfl (by first | decide | simp) rfl ?_ ?_ ?_
                    · exact ((((((((RF.any.pv (by first | rfl | simp only [go_sem]) (by first | rfl | simp [upd_ap, hpL_ap, tau, mapT, mapTL, bytesI_len, c5, eq_true c17, eq_true c144, eq_true c146, eq_true c159, c160])).pp (by decide) (by first | rfl | simp [upd_ap, hpL_ap, tau, mapT, mapTL, bytesI_len, c5, eq_true c17, eq_true c144, eq_true c146, eq_true c159, c160])).po (by decide) (by first | rfl | simp [upd_ap, hpL_ap, tau, mapT, mapTL, bytesI_len, c5, eq_true c17, eq_true c144, eq_true c146, eq_true c159, c160])).pv (by first | rfl | simp only [go_sem]) (by first | rfl | simp [upd_ap, hpL_ap, tau, mapT, mapTL, bytesI_len, c5, eq_true c17, eq_true c144, eq_true c146, eq_true c159, c160])).pv (by first | rfl | simp only [go_sem]) (by first | rfl | simp [upd_ap, hpL_ap, tau, mapT, mapTL, bytesI_len, c5, eq_true c17, eq_true c144, eq_true c146, eq_true c159, c160])).pp (by decide) (by first | rfl | simp [upd_ap, hpL_ap, tau, mapT, mapTL, bytesI_len, c5, eq_true c17, eq_true c144, eq_true c146, eq_true c159, c160])).pv (by first | rfl | simp only [go_sem]) (by first | rfl | simp [upd_ap, hpL_ap, tau, mapT, mapTL, bytesI_len, c5, eq_true c17, eq_true c144, eq_true c146, eq_true c159, c160])).pv (by first | rfl | simp only [go_sem]) (by first | rfl | simp [upd_ap, hpL_ap, tau, mapT, mapTL, bytesI_len, c5, eq_true c17, eq_true c144, eq_true c146, eq_true c159, c160]))
                    · exact .nil _
                    · exact .cons (.tok (by simp [tokL, tokLL, inlR]) (by first | rfl | simp [upd_ap, hpL_ap, tau, mapT, mapTL, bytesI_len, c5, eq_true c17, eq_true c144, eq_true c146, eq_true c159, c160])) (.cons (.eq (by first | rfl | simp only [go_sem]) (by first | rfl | simp [upd_ap, hpL_ap, tau, mapT, mapTL, bytesI_len, c5, eq_true c17, eq_true c144, eq_true c146, eq_true c159, c160])) (.cons (.eq (by first | rfl | simp only [go_sem]) (by first | rfl | simp [upd_ap, hpL_ap, tau, mapT, mapTL, bytesI_len, c5, eq_true c17, eq_true c144, eq_true c146, eq_true c159, c160])) (.cons (.eq (by first | rfl | simp only [go_sem]) (by first | rfl | simp [upd_ap, hpL_ap, tau, mapT, mapTL, bytesI_len, c5, eq_true c17, eq_true c144, eq_true c146, eq_true c159, c160])) (.nil _))))
                  · rw [if_neg c160] at h
                    rw [Bool.not_eq_true] at c160
                    obtain ⟨x161, hx161, h⟩ := Option.bind_eq_some_iff.1 h
                    obtain ⟨hx161a, hx161b⟩ := ix_some.1 hx161
                    obtain ⟨x162, hx162, h⟩ := Option.bind_eq_some_iff.1 h
                    refine AW.drawL [0, 3, 5, 6, 7, 9, 11, 12] [[], [0], [0, 1], [0, 1, 2], [0, 1], [0, 1], [0, 1, 4, 5], [0, 1, 4, 5, 6], [0, 1, 4, 5, 6, 7], [0, 1, 2, 3, 4, 5, 6, 7, 8], [0, 1, 2, 3, 4, 5, 6, 7, 8, 9], [0, 1, 2, 3, 4, 5, 6, 7, 8, 9, 10]] [0, 1, 2, 3, 4, 5, 6, 7, 8, 9, 10, 11] (tab [(36, [.sl [[.val (.int .i64 x147.1.From), .val (.int .i64 x147.1.To), .sl (List.map enc5 x147.1.Data)]], .sl [[.val (.int .i64 x161.From), .val (.int .i64 x161.To), .sl (List.map enc5 x161.Data)]]], .val (.bool x162))]) (tab_cons (ok36 [x147.1] [x161] x162 hx162) Try.call36 tab_nil) draws (by kernel_rfl) (by kernel_rfl) ?_
                    generalize hK : inBlockA _ _ Exit.normal = K
                    simp only [go_sem, ↓reduceIte, reduceCtorEq, Nat.reduceAdd, Nat.reduceSub, Nat.reduceMul, Nat.reduceEqDiff, Nat.reduceLT, Nat.reduceLeDiff, Nat.reduceBEq, Int.reduceAdd, Int.reduceSub, Int.reduceLT, Int.reduceLE, Int.reduceEq, Int.reduceToNat, c5, eq_true c17, eq_true c144, eq_true c146, eq_true c159, c160, natOf_le hx161a, hx161b, ix_lt hx161b]
                    subst hK
                    refine block_n ?_
                    refine thenA_n ?_
                    refine AW.regionL [0, 3, 5, 6, 7, 9, 11, 12] ?_
                    generalize hK : thenA _ _ Exit.normal = K
                    simp only [go_sem, ↓reduceIte, reduceCtorEq, Nat.reduceAdd, Nat.reduceSub, Nat.reduceMul, Nat.reduceEqDiff, Nat.reduceLT, Nat.reduceLeDiff, Nat.reduceBEq, Int.reduceAdd, Int.reduceSub, Int.reduceLT, Int.reduceLE, Int.reduceEq, Int.reduceToNat, c5, eq_true c17, eq_true c144, eq_true c146, eq_true c159, c160]
                    subst hK
                    refine thenA_n ?_
                    refine ⟨_, (Option.some.inj h).symm, ?_⟩
                    refine Ent.can [8, 9, 10, 11] _ _ _ rfl (by first | decide | simp) rfl ?_ ?_ ?_
                    · exact ((((((((RF.any.pv (by first | rfl | simp only [go_sem]) (by first | rfl | simp [upd_ap, hpL_ap, tau, mapT, mapTL, bytesI_len, c5, eq_true c17, eq_true c144, eq_true c146, eq_true c159, c160])).pp (by decide) (by first | rfl | simp [upd_ap, hpL_ap, tau, mapT, mapTL, bytesI_len, c5, eq_true c17, eq_true c144, eq_true c146, eq_true c159, c160])).po (by decide) (by first | rfl | simp [upd_ap, hpL_ap, tau, mapT, mapTL, bytesI_len, c5, eq_true c17, eq_true c144, eq_true c146, eq_true c159, c160])).pv (by first | rfl | simp only [go_sem]) (by first | rfl | simp [upd_ap, hpL_ap, tau, mapT, mapTL, bytesI_len, c5, eq_true c17, eq_true c144, eq_true c146, eq_true c159, c160])).pv (by first | rfl | simp only [go_sem]) (by first | rfl | simp [upd_ap, hpL_ap, tau, mapT, mapTL, bytesI_len, c5, eq_true c17, eq_true c144, eq_true c146, eq_true c159, c160])).pp (by decide) (by first | rfl | simp [upd_ap, hpL_ap, tau, mapT, mapTL, bytesI_len, c5, eq_true c17, eq_true c144, eq_true c146, eq_true c159, c160])).pv (by first | rfl | simp only [go_sem]) (by first | rfl | simp [upd_ap, hpL_ap, tau, mapT, mapTL, bytesI_len, c5, eq_true c17, eq_true c144, eq_true c146, eq_true c159, c160])).pv (by first | rfl | simp only [go_sem]) (by first | rfl | simp [upd_ap, hpL_ap, tau, mapT, mapTL, bytesI_len, c5, eq_true c17, eq_true c144, eq_true c146, eq_true c159, c160]))
                    · exact .nil _
                    · exact .cons (.tok (by simp [tokL, tokLL, inlR]) (by first | rfl | simp [upd_ap, hpL_ap, tau, mapT, mapTL, bytesI_len, c5, eq_true c17, eq_true c144, eq_true c146, eq_true c159, c160])) (.cons (.eq (by first | rfl | simp only [go_sem]) (by first | rfl | simp [upd_ap, hpL_ap, tau, mapT, mapTL, bytesI_len, c5, eq_true c17, eq_true c144, eq_true c146, eq_true c159, c160])) (.cons (.eq (by first | rfl | simp only [go_sem]) (by first | rfl | simp [upd_ap, hpL_ap, tau, mapT, mapTL, bytesI_len, c5, eq_true c17, eq_true c144, eq_true c146, eq_true c159, c160])) (.cons (.eq (by first | rfl | simp only [go_sem]) (by first | rfl | simp [upd_ap, hpL_ap, tau, mapT, mapTL, bytesI_len, c5, eq_true c17, eq_true c144, eq_true c146, eq_true c159, c160])) (.nil _))))
                · rw [if_neg c159] at h
                  refine AW.ifF rfl c159 ?_
                  refine AW.exit ?_
                  refine thenA_x ?_
                  refine thenA_x ?_
                  refine ⟨_, (Option.some.inj h).symm, _, ?_, rfl, rfl⟩
                  refine Ent.can [8, 9, 10] _ _ _ rfl (by first | decide | simp) rfl ?_ ?_ ?_
                  · exact ((((((RF.any.pv (by first | rfl | simp only [go_sem]) (by first | rfl | simp [upd_ap, hpL_ap, tau, mapT, mapTL, bytesI_len, c5, eq_true c17, eq_true c144, eq_true c146, eq_false c159])).pp (by decide) (by first | rfl | simp [upd_ap, hpL_ap, tau, mapT, mapTL, bytesI_len, c5, eq_true c17, eq_true c144, eq_true c146, eq_false c159])).po (by decide) (by first | rfl | simp [upd_ap, hpL_ap, tau, mapT, mapTL, bytesI_len, c5, eq_true c17, eq_true c144, eq_true c146, eq_false c159])).pv (by first | rfl | simp only [go_sem]) (by first | rfl | simp [upd_ap, hpL_ap, tau, mapT, mapTL, bytesI_len, c5, eq_true c17, eq_true c144, eq_true c146, eq_false c159])).pv (by first | rfl | simp only [go_sem]) (by first | rfl | simp [upd_ap, hpL_ap, tau, mapT, mapTL, bytesI_len, c5, eq_true c17, eq_true c144, eq_true c146, eq_false c159])).pv (by first | rfl | simp only [go_sem]) (by first | rfl | simp [upd_ap, hpL_ap, tau, mapT, mapTL, bytesI_len, c5, eq_true c17, eq_true c144, eq_true c146, eq_false c159]))
                  · exact .nil _
                  · exact .cons (.tok (by simp [tokL, tokLL, inlR]) (by first | rfl | simp [upd_ap, hpL_ap, tau, mapT, mapTL, bytesI_len, c5, eq_true c17, eq_true c144, eq_true c146, eq_false c159])) (.cons (.eq (by first | rfl | simp only [go_sem]) (by first | rfl | simp [upd_ap, hpL_ap, tau, mapT, mapTL, bytesI_len, c5, eq_true c17, eq_true c144, eq_true c146, eq_false c159])) (.cons (.eq (by first | rfl | simp only [go_sem]) (by first | rfl | simp [upd_ap, hpL_ap, tau, mapT, mapTL, bytesI_len, c5, eq_true c17, eq_true c144, eq_true c146, eq_false c159])) (.nil _)))
              · intro e st' hX
                try dsimp only at h
                try dsimp only at hX
                obtain ⟨rfl, rfl⟩ := hX
                refine ⟨_, Ent.refl, ?_⟩
                refine block_x ?_
                refine thenA_n ?_
                refine AW.regL [0, 3, 5, 6, 7, 72] ?_
                generalize hK : AW Try.prog _ _ _ = K
                simp only [go_sem, ↓reduceIte, reduceCtorEq, Nat.reduceAdd, Nat.reduceSub, Nat.reduceMul, Nat.reduceEqDiff, Nat.reduceLT, Nat.reduceLeDiff, Nat.reduceBEq, Int.reduceAdd, Int.reduceSub, Int.reduceLT, Int.reduceLE, Int.reduceEq, Int.reduceToNat, c5, eq_true c17, eq_true c144, eq_true c146]
                subst hK
                by_cases c165 : y164 = true
                · rw [if_pos c165] at h
                  refine AW.ifBF rfl (by rw [c165]; rfl) ?_
                  refine AW.skip ?_
                  refine block_n ?_
                  refine block_n ?_
                  refine thenA_n ?_
                  refine AW.regionL [0, 3, 5, 6, 7] ?_
                  generalize hK : thenA _ _ Exit.normal = K
                  simp only [go_sem, ↓reduceIte, reduceCtorEq, Nat.reduceAdd, Nat.reduceSub, Nat.reduceMul, Nat.reduceEqDiff, Nat.reduceLT, Nat.reduceLeDiff, Nat.reduceBEq, Int.reduceAdd, Int.reduceSub, Int.reduceLT, Int.reduceLE, Int.reduceEq, Int.reduceToNat, c5, eq_true c17, eq_true c144, eq_true c146, c165]
                  subst hK
                  refine thenA_n ?_
                  refine ⟨_, (Option.some.inj h).symm, ?_⟩
                  refine Ent.can [8, 9, 10] _ _ _ rfl (by first | decide | simp) rfl ?_ ?_ ?_
                  · exact (((((RF.any.pv (by first | rfl | simp only [go_sem]) (by first | rfl | simp [upd_ap, hpL_ap, tau, mapT, mapTL, bytesI_len, c5, eq_true c17, eq_true c144, eq_true c146, c165])).pp (by decide) (by first | rfl | simp [upd_ap, hpL_ap, tau, mapT, mapTL, bytesI_len, c5, eq_true c17, eq_true c144, eq_true c146, c165])).po (by decide) (by first | rfl | simp [upd_ap, hpL_ap, tau, mapT, mapTL, bytesI_len, c5, eq_true c17, eq_true c144, eq_true c146, c165])).pv (by first | rfl | simp only [go_sem]) (by first | rfl | simp [upd_ap, hpL_ap, tau, mapT, mapTL, bytesI_len, c5, eq_true c17, eq_true c144, eq_true c146, c165])).pv (by first | rfl | simp only [go_sem]) (by first | rfl | simp [upd_ap, hpL_ap, tau, mapT, mapTL, bytesI_len, c5, eq_true c17, eq_true c144, eq_true c146, c165]))
                  · exact .nil _
                  · exact .cons (.tok (by simp [tokL, tokLL, inlR]) (by first | rfl | simp [upd_ap, hpL_ap, tau, mapT, mapTL, bytesI_len, c5, eq_true c17, eq_true c144, eq_true c146, c165])) (.cons (.eq (by first | rfl | simp only [go_sem]) (by first | rfl | simp [upd_ap, hpL_ap, tau, mapT, mapTL, bytesI_len, c5, eq_true c17, eq_true c144, eq_true c146, c165])) (.cons (.eq (by first | rfl | simp only [go_sem]) (by first | rfl | simp [upd_ap, hpL_ap, tau, mapT, mapTL, bytesI_len, c5, eq_true c17, eq_true c144, eq_true c146, c165])) (.nil _)))
                · rw [if_neg c165] at h
                  rw [Bool.not_eq_true] at c165
                  refine AW.ifBT rfl (by rw [c165]; rfl) ?_
                  refine AW.regL [2] ?_
                  generalize hK : AW Try.prog _ _ _ = K
                  simp only [go_sem, ↓reduceIte, reduceCtorEq, Nat.reduceAdd, Nat.reduceSub, Nat.reduceMul, Nat.reduceEqDiff, Nat.reduceLT, Nat.reduceLeDiff, Nat.reduceBEq, Int.reduceAdd, Int.reduceSub, Int.reduceLT, Int.reduceLE, Int.reduceEq, Int.reduceToNat, c5, eq_true c17, eq_true c144, eq_true c146, c165]
                  subst hK
                  refine AW.ret ?_
                  refine block_r ?_
                  refine block_r ?_
                  refine thenA_r ?_
                  refine thenA_r ?_
                  refine ⟨_, (Option.some.inj h).symm, _, Ent.refl, rfl, ?_⟩
                  (simp only [go_sem, ↓reduceIte, reduceCtorEq, Nat.reduceAdd, Nat.reduceSub, Nat.reduceMul, Nat.reduceEqDiff, Nat.reduceLT, Nat.reduceLeDiff, Nat.reduceBEq, Int.reduceAdd, Int.reduceSub, Int.reduceLT, Int.reduceLE, Int.reduceEq, Int.reduceToNat, c5, eq_true c17, eq_true c144, eq_true c146, c165, finA, resA, resOf_1, resOf_2, sealV_val, sealV_sl, sealV_ip, sealV_agg, sealV_tup, sealV_own, sealL_nil, sealL_cons, sealV_clo, resOf_clo] <;> try simp)
            · rw [if_neg c146] at h
              refine AW.ifF rfl c146 ?_
              refine AW.regL [0, 3, 5, 6, 7, 8, 42, 73] ?_
              generalize hK : AW Try.prog _ _ _ = K
              simp only [go_sem, ↓reduceIte, reduceCtorEq, Nat.reduceAdd, Nat.reduceSub, Nat.reduceMul, Nat.reduceEqDiff, Nat.reduceLT, Nat.reduceLeDiff, Nat.reduceBEq, Int.reduceAdd, Int.reduceSub, Int.reduceLT, Int.reduceLE, Int.reduceEq, Int.reduceToNat, c5, eq_true c17, eq_true c144, eq_false c146]
              subst hK
              by_cases c166 : x145.Do = 1
              · rw [if_pos c166] at h
                refine AW.ifT rfl c166 ?_
                obtain ⟨x167, hx167, h⟩ := Option.bind_eq_some_iff.1 h
                refine AW.regionL [0, 3, 5, 6, 7] ?_
                generalize hK : inBlockA _ _ Exit.normal = K
                simp only [go_sem, ↓reduceIte, reduceCtorEq, Nat.reduceAdd, Nat.reduceSub, Nat.reduceMul, Nat.reduceEqDiff, Nat.reduceLT, Nat.reduceLeDiff, Nat.reduceBEq, Int.reduceAdd, Int.reduceSub, Int.reduceLT, Int.reduceLE, Int.reduceEq, Int.reduceToNat, c5, eq_true c17, eq_true c144, eq_false c146, eq_true c166]
                refine arC.ok (CallOk.ic (us' := _) (ok37 ⟨s4_0, s4_1, ⟨s4_2, s4_3, s4_4, s4_5, s4_6, s4_7, s4_8, s4_9⟩, s4_10, s4_11, s4_12, s4_13⟩ x145.I x167 hx167) [8, 9] rfl (by decide) (by simp) (by simp) (by simp) (by simp) (.cons (.tok (by simp [tokL, tokLL, inlR]) (by first | rfl | simp [upd_ap, hpL_ap, sg_ap, mapT, mapTL])) (.cons (.eq (by simp only [go_sem]) (by first | rfl | simp [upd_ap, hpL_ap, sg_ap])) (.nil _))) (by simp only [mapTL_cons, mapTL_nil, mapT_ptr, mapT_own, mapT_val, mapT_sl, mapT_agg, mapT_ip, sg_ap, List.getD_cons_zero, List.getD_cons_succ]; exact (.cons (.of rfl) (.cons (.of rfl) .nil))) (by simp only [go_sem, List.length_cons, List.length_nil, Nat.reduceAdd, Nat.reduceLT, decide_true]) (by simp [AObj.isMut]) (by simp [go_sem]) (by simp [go_sem])) Try.call37 ?_
                simp only [go_sem, ↓reduceIte, reduceCtorEq, Nat.reduceAdd, Nat.reduceSub, Nat.reduceMul, Nat.reduceEqDiff, Nat.reduceLT, Nat.reduceLeDiff, Nat.reduceBEq, Int.reduceAdd, Int.reduceSub, Int.reduceLT, Int.reduceLE, Int.reduceEq, Int.reduceToNat, c5, eq_true c17, eq_true c144, eq_false c146, eq_true c166]
                subst hK
                refine block_n ?_
                refine block_n ?_
                refine thenA_n ?_
                refine AW.regionL [0, 3, 5, 6, 7] ?_
                generalize hK : thenA _ _ Exit.normal = K
                simp only [go_sem, ↓reduceIte, reduceCtorEq, Nat.reduceAdd, Nat.reduceSub, Nat.reduceMul, Nat.reduceEqDiff, Nat.reduceLT, Nat.reduceLeDiff, Nat.reduceBEq, Int.reduceAdd, Int.reduceSub, Int.reduceLT, Int.reduceLE, Int.reduceEq, Int.reduceToNat, c5, eq_true c17, eq_true c144, eq_false c146, eq_true c166]
                subst hK
                refine thenA_n ?_
                refine ⟨_, (Option.some.inj h).symm, ?_⟩
                refine Ent.can [8, 9, 10] _ _ _ rfl (by first | decide | simp) rfl ?_ ?_ ?_
                · exact (((((RF.any.pv (by first | rfl | simp only [go_sem]) (by first | rfl | simp [upd_ap, hpL_ap, tau, mapT, mapTL, bytesI_len, c5, eq_true c17, eq_true c144, eq_false c146, eq_true c166])).pp (by decide) (by first | rfl | simp [upd_ap, hpL_ap, tau, mapT, mapTL, bytesI_len, c5, eq_true c17, eq_true c144, eq_false c146, eq_true c166])).po (by decide) (by first | rfl | simp [upd_ap, hpL_ap, tau, mapT, mapTL, bytesI_len, c5, eq_true c17, eq_true c144, eq_false c146, eq_true c166])).pv (by first | rfl | simp only [go_sem]) (by first | rfl | simp [upd_ap, hpL_ap, tau, mapT, mapTL, bytesI_len, c5, eq_true c17, eq_true c144, eq_false c146, eq_true c166])).pv (by first | rfl | simp only [go_sem]) (by first | rfl | simp [upd_ap, hpL_ap, tau, mapT, mapTL, bytesI_len, c5, eq_true c17, eq_true c144, eq_false c146, eq_true c166]))
                · exact .nil _
                · exact .cons (.tok (by simp [tokL, tokLL, inlR]) (by first | rfl | simp [upd_ap, hpL_ap, tau, mapT, mapTL, bytesI_len, c5, eq_true c17, eq_true c144, eq_false c146, eq_true c166])) (.cons (.eq (by first | rfl | simp only [go_sem]) (by first | rfl | simp [upd_ap, hpL_ap, tau, mapT, mapTL, bytesI_len, c5, eq_true c17, eq_true c144, eq_false c146, eq_true c166])) (.cons (.eq (by first | rfl | simp only [go_sem]) (by first | rfl | simp [upd_ap, hpL_ap, tau, mapT, mapTL, bytesI_len, c5, eq_true c17, eq_true c144, eq_false c146, eq_true c166])) (.nil _)))
              · rw [if_neg c166] at h
                refine AW.ifF rfl c166 ?_
                refine AW.regL [0, 3, 5, 6, 7, 8, 42, 79] ?_
                generalize hK : AW Try.prog _ _ _ = K
                simp only [go_sem, ↓reduceIte, reduceCtorEq, Nat.reduceAdd, Nat.reduceSub, Nat.reduceMul, Nat.reduceEqDiff, Nat.reduceLT, Nat.reduceLeDiff, Nat.reduceBEq, Int.reduceAdd, Int.reduceSub, Int.reduceLT, Int.reduceLE, Int.reduceEq, Int.reduceToNat, c5, eq_true c17, eq_true c144, eq_false c146, eq_false c166]
                subst hK
                by_cases c168 : x145.Do = 2
                · rw [if_pos c168] at h
                  refine AW.ifT rfl c168 ?_
                  obtain ⟨x169, hx169, h⟩ := Option.bind_eq_some_iff.1 h
                  refine AW.regionL [0, 3, 5, 6, 7] ?_
                  generalize hK : inBlockA _ _ Exit.normal = K
                  simp only [go_sem, ↓reduceIte, reduceCtorEq, Nat.reduceAdd, Nat.reduceSub, Nat.reduceMul, Nat.reduceEqDiff, Nat.reduceLT, Nat.reduceLeDiff, Nat.reduceBEq, Int.reduceAdd, Int.reduceSub, Int.reduceLT, Int.reduceLE, Int.reduceEq, Int.reduceToNat, c5, eq_true c17, eq_true c144, eq_false c146, eq_false c166, eq_true c168]
                  refine arC.ok (CallOk.ic (us' := _) (ok38 ⟨s4_0, s4_1, ⟨s4_2, s4_3, s4_4, s4_5, s4_6, s4_7, s4_8, s4_9⟩, s4_10, s4_11, s4_12, s4_13⟩ x145.I x169 hx169) [8, 9] rfl (by decide) (by simp) (by simp) (by simp) (by simp) (.cons (.tok (by simp [tokL, tokLL, inlR]) (by first | rfl | simp [upd_ap, hpL_ap, sg_ap, mapT, mapTL])) (.cons (.eq (by simp only [go_sem]) (by first | rfl | simp [upd_ap, hpL_ap, sg_ap])) (.nil _))) (by simp only [mapTL_cons, mapTL_nil, mapT_ptr, mapT_own, mapT_val, mapT_sl, mapT_agg, mapT_ip, sg_ap, List.getD_cons_zero, List.getD_cons_succ]; exact (.cons (.of rfl) (.cons (.of rfl) .nil))) (by simp only [go_sem, List.length_cons, List.length_nil, Nat.reduceAdd, Nat.reduceLT, decide_true]) (by simp [AObj.isMut]) (by simp [go_sem]) (by simp [go_sem])) Try.call38 ?_
                  simp only [go_sem, ↓reduceIte, reduceCtorEq, Nat.reduceAdd, Nat.reduceSub, Nat.reduceMul, Nat.reduceEqDiff, Nat.reduceLT, Nat.reduceLeDiff, Nat.reduceBEq, Int.reduceAdd, Int.reduceSub, Int.reduceLT, Int.reduceLE, Int.reduceEq, Int.reduceToNat, c5, eq_true c17, eq_true c144, eq_false c146, eq_false c166, eq_true c168]
                  subst hK
                  refine block_n ?_
                  refine block_n ?_
                  refine thenA_n ?_
                  refine AW.regionL [0, 3, 5, 6, 7] ?_
                  generalize hK : thenA _ _ Exit.normal = K
                  simp only [go_sem, ↓reduceIte, reduceCtorEq, Nat.reduceAdd, Nat.reduceSub, Nat.reduceMul, Nat.reduceEqDiff, Nat.reduceLT, Nat.reduceLeDiff, Nat.reduceBEq, Int.reduceAdd, Int.reduceSub, Int.reduceLT, Int.reduceLE, Int.reduceEq, Int.reduceToNat, c5, eq_true c17, eq_true c144, eq_false c146, eq_false c166, eq_true c168]
                  subst hK
                  refine thenA_n ?_
                  refine ⟨_, (Option.some.inj h).symm, ?_⟩
                  refine Ent.can [8, 179, 10] _ _ _ rfl (by first | decide | simp) rfl ?_ ?_ ?_
                  · exact (((((RF.any.pv (by first | rfl | simp only [go_sem]) (by first | rfl | simp [upd_ap, hpL_ap, tau, mapT, mapTL, bytesI_len, c5, eq_true c17, eq_true c144, eq_false c146, eq_false c166, eq_true c168])).pp (by decide) (by first | rfl | simp [upd_ap, hpL_ap, tau, mapT, mapTL, bytesI_len, c5, eq_true c17, eq_true c144, eq_false c146, eq_false c166, eq_true c168])).po (by decide) (by first | rfl | simp [upd_ap, hpL_ap, tau, mapT, mapTL, bytesI_len, c5, eq_true c17, eq_true c144, eq_false c146, eq_false c166, eq_true c168])).pv (by first | rfl | simp only [go_sem]) (by first | rfl | simp [upd_ap, hpL_ap, tau, mapT, mapTL, bytesI_len, c5, eq_true c17, eq_true c144, eq_false c146, eq_false c166, eq_true c168])).pv (by first | rfl | simp only [go_sem]) (by first | rfl | simp [upd_ap, hpL_ap, tau, mapT, mapTL, bytesI_len, c5, eq_true c17, eq_true c144, eq_false c146, eq_false c166, eq_true c168]))
                  · exact .nil _
                  · exact .cons (.tok (by simp [tokL, tokLL, inlR]) (by first | rfl | simp [upd_ap, hpL_ap, tau, mapT, mapTL, bytesI_len, c5, eq_true c17, eq_true c144, eq_false c146, eq_false c166, eq_true c168])) (.cons (.eq (by first | rfl | simp only [go_sem]) (by first | rfl | simp [upd_ap, hpL_ap, tau, mapT, mapTL, bytesI_len, c5, eq_true c17, eq_true c144, eq_false c146, eq_false c166, eq_true c168])) (.cons (.eq (by first | rfl | simp only [go_sem]) (by first | rfl | simp [upd_ap, hpL_ap, tau, mapT, mapTL, bytesI_len, c5, eq_true c17, eq_true c144, eq_false c146, eq_false c166, eq_true c168])) (.nil _)))
                · rw [if_neg c168] at h
                  refine AW.ifF rfl c168 ?_
                  refine AW.regL [0, 3, 5, 6, 7, 8, 42, 85] ?_
                  generalize hK : AW Try.prog _ _ _ = K
                  simp only [go_sem, ↓reduceIte, reduceCtorEq, Nat.reduceAdd, Nat.reduceSub, Nat.reduceMul, Nat.reduceEqDiff, Nat.reduceLT, Nat.reduceLeDiff, Nat.reduceBEq, Int.reduceAdd, Int.reduceSub, Int.reduceLT, Int.reduceLE, Int.reduceEq, Int.reduceToNat, c5, eq_true c17, eq_true c144, eq_false c146, eq_false c166, eq_false c168]
                  subst hK
                  by_cases c170 : x145.Do = 3
                  · rw [if_pos c170] at h
                    refine AW.ifT rfl c170 ?_
                    obtain ⟨x171, hx171, h⟩ := Option.bind_eq_some_iff.1 h
                    refine AW.regionL [0, 3, 5, 6, 7] ?_
                    generalize hK : inBlockA _ _ Exit.normal = K
                    simp only [go_sem, ↓reduceIte, reduceCtorEq, Nat.reduceAdd, Nat.reduceSub, Nat.reduceMul, Nat.reduceEqDiff, Nat.reduceLT, Nat.reduceLeDiff, Nat.reduceBEq, Int.reduceAdd, Int.reduceSub, Int.reduceLT, Int.reduceLE, Int.reduceEq, Int.reduceToNat, c5, eq_true c17, eq_true c144, eq_false c146, eq_false c166, eq_false c168, eq_true c170]
                    refine arC.ok (CallOk.ic (us' := _) (ok39 ⟨s4_0, s4_1, ⟨s4_2, s4_3, s4_4, s4_5, s4_6, s4_7, s4_8, s4_9⟩, s4_10, s4_11, s4_12, s4_13⟩ x145.I x145.J x171 hx171) [8, 9] rfl (by decide) (by simp) (by simp) (by simp) (by simp) (.cons (.tok (by simp [tokL, tokLL, inlR]) (by first | rfl | simp [upd_ap, hpL_ap, sg_ap, mapT, mapTL])) (.cons (.eq (by simp only [go_sem]) (by first | rfl | simp [upd_ap, hpL_ap, sg_ap])) (.nil _))) (by simp only [mapTL_cons, mapTL_nil, mapT_ptr, mapT_own, mapT_val, mapT_sl, mapT_agg, mapT_ip, sg_ap, List.getD_cons_zero, List.getD_cons_succ]; exact (.cons (.of rfl) (.cons (.of rfl) (.cons (.of rfl) .nil)))) (by simp only [go_sem, List.length_cons, List.length_nil, Nat.reduceAdd, Nat.reduceLT, decide_true]) (by simp [AObj.isMut]) (by simp [go_sem]) (by simp [go_sem])) Try.call39 ?_
                    simp only [go_sem, ↓reduceIte, reduceCtorEq, Nat.reduceAdd, Nat.reduceSub, Nat.reduceMul, Nat.reduceEqDiff, Nat.reduceLT, Nat.reduceLeDiff, Nat.reduceBEq, Int.reduceAdd, Int.reduceSub, Int.reduceLT, Int.reduceLE, Int.reduceEq, Int.reduceToNat, c5, eq_true c17, eq_true c144, eq_false c146, eq_false c166, eq_false c168, eq_true c170]
                    subst hK
                    refine block_n ?_
                    refine block_n ?_
                    refine thenA_n ?_
                    refine AW.regionL [0, 3, 5, 6, 7] ?_
                    generalize hK : thenA _ _ Exit.normal = K
                    simp only [go_sem, ↓reduceIte, reduceCtorEq, Nat.reduceAdd, Nat.reduceSub, Nat.reduceMul, Nat.reduceEqDiff, Nat.reduceLT, Nat.reduceLeDiff, Nat.reduceBEq, Int.reduceAdd, Int.reduceSub, Int.reduceLT, Int.reduceLE, Int.reduceEq, Int.reduceToNat, c5, eq_true c17, eq_true c144, eq_false c146, eq_false c166, eq_false c168, eq_true c170]
                    subst hK
                    refine thenA_n ?_
                    refine ⟨_, (Option.some.inj h).symm, ?_⟩
                    refine Ent.can [8, 9, 10] _ _ _ rfl (by first | decide | simp) rfl ?_ ?_ ?_
                    · exact (((((RF.any.pv (by first | rfl | simp only [go_sem]) (by first | rfl | simp [upd_ap, hpL_ap, tau, mapT, mapTL, bytesI_len, c5, eq_true c17, eq_true c144, eq_false c146, eq_false c166, eq_false c168, eq_true c170])).pp (by decide) (by first | rfl | simp [upd_ap, hpL_ap, tau, mapT, mapTL, bytesI_len, c5, eq_true c17, eq_true c144, eq_false c146, eq_false c166, eq_false c168, eq_true c170])).po (by decide) (by first | rfl | simp [upd_ap, hpL_ap, tau, mapT, mapTL, bytesI_len, c5, eq_true c17, eq_true c144, eq_false c146, eq_false c166, eq_false c168, eq_true c170])).pv (by first | rfl | simp only [go_sem]) (by first | rfl | simp [upd_ap, hpL_ap, tau, mapT, mapTL, bytesI_len, c5, eq_true c17, eq_true c144, eq_false c146, eq_false c166, eq_false c168, eq_true c170])).pv (by first | rfl | simp only [go_sem]) (by first | rfl | simp [upd_ap, hpL_ap, tau, mapT, mapTL, bytesI_len, c5, eq_true c17, eq_true c144, eq_false c146, eq_false c166, eq_false c168, eq_true c170]))
                    · exact .nil _
                    · exact .cons (.tok (by simp [tokL, tokLL, inlR]) (by first | rfl | simp [upd_ap, hpL_ap, tau, mapT, mapTL, bytesI_len, c5, eq_true c17, eq_true c144, eq_false c146, eq_false c166, eq_false c168, eq_true c170])) (.cons (.eq (by first | rfl | simp only [go_sem]) (by first | rfl | simp [upd_ap, hpL_ap, tau, mapT, mapTL, bytesI_len, c5, eq_true c17, eq_true c144, eq_false c146, eq_false c166, eq_false c168, eq_true c170])) (.cons (.eq (by first | rfl | simp only [go_sem]) (by first | rfl | simp [upd_ap, hpL_ap, tau, mapT, mapTL, bytesI_len, c5, eq_true c17, eq_true c144, eq_false c146, eq_false c166, eq_false c168, eq_true c170])) (.nil _)))
                  · rw [if_neg c170] at h
                    refine AW.ifF rfl c170 ?_
                    refine AW.regL [0, 3, 5, 6, 7, 8, 42, 93] ?_
                    generalize hK : AW Try.prog _ _ _ = K
                    simp only [go_sem, ↓reduceIte, reduceCtorEq, Nat.reduceAdd, Nat.reduceSub, Nat.reduceMul, Nat.reduceEqDiff, Nat.reduceLT, Nat.reduceLeDiff, Nat.reduceBEq, Int.reduceAdd, Int.reduceSub, Int.reduceLT, Int.reduceLE, Int.reduceEq, Int.reduceToNat, c5, eq_true c17, eq_true c144, eq_false c146, eq_false c166, eq_false c168, eq_false c170]
                    subst hK
                    by_cases c172 : x145.Do = 4
                    · rw [if_pos c172] at h
                      refine AW.ifT rfl c172 ?_
                      obtain ⟨x173, hx173, h⟩ := Option.bind_eq_some_iff.1 h
                      refine AW.regL [0, 3, 5, 6, 7, 8, 13] ?_
                      generalize hK : AW Try.prog _ _ _ = K
                      simp only [go_sem, ↓reduceIte, reduceCtorEq, Nat.reduceAdd, Nat.reduceSub, Nat.reduceMul, Nat.reduceEqDiff, Nat.reduceLT, Nat.reduceLeDiff, Nat.reduceBEq, Int.reduceAdd, Int.reduceSub, Int.reduceLT, Int.reduceLE, Int.reduceEq, Int.reduceToNat, c5, eq_true c17, eq_true c144, eq_false c146, eq_false c166, eq_false c168, eq_false c170, eq_true c172]
                      refine arC.ok (CallOk.ic (us' := _) (ok40 ⟨s4_0, s4_1, ⟨s4_2, s4_3, s4_4, s4_5, s4_6, s4_7, s4_8, s4_9⟩, s4_10, s4_11, s4_12, s4_13⟩ x145.I x145.J x145.B x173 hx173) [8, 9] rfl (by decide) (by simp) (by simp) (by simp) (by simp) (.cons (.tok (by simp [tokL, tokLL, inlR]) (by first | rfl | simp [upd_ap, hpL_ap, sg_ap, mapT, mapTL])) (.cons (.eq (by simp only [go_sem]) (by first | rfl | simp [upd_ap, hpL_ap, sg_ap])) (.nil _))) (by simp only [mapTL_cons, mapTL_nil, mapT_ptr, mapT_own, mapT_val, mapT_sl, mapT_agg, mapT_ip, sg_ap, List.getD_cons_zero, List.getD_cons_succ]; exact (.cons (.of rfl) (.cons (.of rfl) (.cons (.of rfl) (.cons (.of rfl) .nil))))) (by simp only [go_sem, List.length_cons, List.length_nil, Nat.reduceAdd, Nat.reduceLT, decide_true]) (by simp [AObj.isMut]) (by simp [go_sem]) (by simp [go_sem])) Try.call40 ?_
                      simp only [go_sem, ↓reduceIte, reduceCtorEq, Nat.reduceAdd, Nat.reduceSub, Nat.reduceMul, Nat.reduceEqDiff, Nat.reduceLT, Nat.reduceLeDiff, Nat.reduceBEq, Int.reduceAdd, Int.reduceSub, Int.reduceLT, Int.reduceLE, Int.reduceEq, Int.reduceToNat, c5, eq_true c17, eq_true c144, eq_false c146, eq_false c166, eq_false c168, eq_false c170, eq_true c172]
                      subst hK
                      refine AW.seq ?_
                      obtain ⟨x174, hx174, h⟩ := Option.bind_eq_some_iff.1 h
                      refine AW.regL [0, 3, 5, 6, 7, 8, 13, 105] ?_
                      generalize hK : AW Try.prog _ _ _ = K
                      simp only [go_sem, ↓reduceIte, reduceCtorEq, Nat.reduceAdd, Nat.reduceSub, Nat.reduceMul, Nat.reduceEqDiff, Nat.reduceLT, Nat.reduceLeDiff, Nat.reduceBEq, Int.reduceAdd, Int.reduceSub, Int.reduceLT, Int.reduceLE, Int.reduceEq, Int.reduceToNat, c5, eq_true c17, eq_true c144, eq_false c146, eq_false c166, eq_false c168, eq_false c170, eq_true c172]
                      refine arC.of (ok34 x173.1 x174 hx174) Try.call34 ?_
                      simp only [go_sem, ↓reduceIte, reduceCtorEq, Nat.reduceAdd, Nat.reduceSub, Nat.reduceMul, Nat.reduceEqDiff, Nat.reduceLT, Nat.reduceLeDiff, Nat.reduceBEq, Int.reduceAdd, Int.reduceSub, Int.reduceLT, Int.reduceLE, Int.reduceEq, Int.reduceToNat, c5, eq_true c17, eq_true c144, eq_false c146, eq_false c166, eq_false c168, eq_false c170, eq_true c172]
                      subst hK
                      by_cases c175 : x174 = 0
                      · rw [if_pos c175] at h
                        refine AW.ifT rfl c175 ?_
                        obtain ⟨x176, hx176, h⟩ := Option.bind_eq_some_iff.1 h
                        obtain ⟨hx176b, hx176e⟩ := appO?_some.1 hx176
                        have hx176f : ∀ id o : Nat, appO 3 40 id ([[.val (.int .i64 x145.I), .val (.int .i64 x145.J), .sl (List.map enc5 x145.B)]]) 0 s4_15.length o (some (.row 3 true (List.map encMsg s4_15))) = some ⟨.own id 0 x176.length, [(o, none), (id, some (.row 3 true (List.map encMsg x176)))]⟩ := fun id o => by
                          subst hx176e; rw [appO_ok (by simp) (by simpa using hx176b) (by decide)]; first | (simp [encMsg]; done) | (simp [encMsg]; omega)
                        refine AW.regionL [0, 3, 5, 6, 7, 13] ?_
                        generalize hK : thenA _ _ Exit.normal = K
                        simp only [go_sem, ↓reduceIte, reduceCtorEq, Nat.reduceAdd, Nat.reduceSub, Nat.reduceMul, Nat.reduceEqDiff, Nat.reduceLT, Nat.reduceLeDiff, Nat.reduceBEq, Int.reduceAdd, Int.reduceSub, Int.reduceLT, Int.reduceLE, Int.reduceEq, Int.reduceToNat, c5, eq_true c17, eq_true c144, eq_false c146, eq_false c166, eq_false c168, eq_false c170, eq_true c172, eq_true c175, hx176f]
                        subst hK
                        refine thenA_n ?_
                        refine AW.regL [0, 3, 5, 6, 7, 118] ?_
                        generalize hK : AW Try.prog _ _ _ = K
                        simp only [go_sem, ↓reduceIte, reduceCtorEq, Nat.reduceAdd, Nat.reduceSub, Nat.reduceMul, Nat.reduceEqDiff, Nat.reduceLT, Nat.reduceLeDiff, Nat.reduceBEq, Int.reduceAdd, Int.reduceSub, Int.reduceLT, Int.reduceLE, Int.reduceEq, Int.reduceToNat, c5, eq_true c17, eq_true c144, eq_false c146, eq_false c166, eq_false c168, eq_false c170, eq_true c172, eq_true c175]
                        refine arC.of (ok34 x173.1 x174 hx174) Try.call34 ?_
                        simp only [go_sem, ↓reduceIte, reduceCtorEq, Nat.reduceAdd, Nat.reduceSub, Nat.reduceMul, Nat.reduceEqDiff, Nat.reduceLT, Nat.reduceLeDiff, Nat.reduceBEq, Int.reduceAdd, Int.reduceSub, Int.reduceLT, Int.reduceLE, Int.reduceEq, Int.reduceToNat, c5, eq_true c17, eq_true c144, eq_false c146, eq_false c166, eq_false c168, eq_false c170, eq_true c172, eq_true c175]
                        subst hK
                        by_cases c177 : x174 = 9
                        · rw [if_pos c177] at h
                          refine AW.ifT rfl c177 ?_
                          refine AW.regionL [0, 3, 5, 6, 7] ?_
                          generalize hK : inBlockA _ _ Exit.normal = K
                          simp only [go_sem, ↓reduceIte, reduceCtorEq, Nat.reduceAdd, Nat.reduceSub, Nat.reduceMul, Nat.reduceEqDiff, Nat.reduceLT, Nat.reduceLeDiff, Nat.reduceBEq, Int.reduceAdd, Int.reduceSub, Int.reduceLT, Int.reduceLE, Int.reduceEq, Int.reduceToNat, c5, eq_true c17, eq_true c144, eq_false c146, eq_false c166, eq_false c168, eq_false c170, eq_true c172, eq_true c175, eq_true c177]
                          subst hK
                          refine block_n ?_
                          refine block_n ?_
                          refine thenA_n ?_
                          refine AW.regionL [0, 3, 5, 6, 7] ?_
                          generalize hK : thenA _ _ Exit.normal = K
                          simp only [go_sem, ↓reduceIte, reduceCtorEq, Nat.reduceAdd, Nat.reduceSub, Nat.reduceMul, Nat.reduceEqDiff, Nat.reduceLT, Nat.reduceLeDiff, Nat.reduceBEq, Int.reduceAdd, Int.reduceSub, Int.reduceLT, Int.reduceLE, Int.reduceEq, Int.reduceToNat, c5, eq_true c17, eq_true c144, eq_false c146, eq_false c166, eq_false c168, eq_false c170, eq_true c172, eq_true c175, eq_true c177]
                          subst hK
                          refine thenA_n ?_
                          refine ⟨_, (Option.some.inj h).symm, ?_⟩
                          refine Ent.can [8, 243, 355] _ _ _ rfl (by first | decide | simp) rfl ?_ ?_ ?_
                          · exact (((((RF.any.pv (by first | rfl | simp only [go_sem]) (by first | rfl | simp [upd_ap, hpL_ap, tau, mapT, mapTL, bytesI_len, c5, eq_true c17, eq_true c144, eq_false c146, eq_false c166, eq_false c168, eq_false c170, eq_true c172, eq_true c175, eq_true c177])).pp (by decide) (by first | rfl | simp [upd_ap, hpL_ap, tau, mapT, mapTL, bytesI_len, c5, eq_true c17, eq_true c144, eq_false c146, eq_false c166, eq_false c168, eq_false c170, eq_true c172, eq_true c175, eq_true c177])).po (by decide) (by first | rfl | simp [upd_ap, hpL_ap, tau, mapT, mapTL, bytesI_len, c5, eq_true c17, eq_true c144, eq_false c146, eq_false c166, eq_false c168, eq_false c170, eq_true c172, eq_true c175, eq_true c177])).pv (by first | rfl | simp only [go_sem]) (by first | rfl | simp [upd_ap, hpL_ap, tau, mapT, mapTL, bytesI_len, c5, eq_true c17, eq_true c144, eq_false c146, eq_false c166, eq_false c168, eq_false c170, eq_true c172, eq_true c175, eq_true c177])).pv (by first | rfl | simp only [go_sem]) (by first | rfl | simp [upd_ap, hpL_ap, tau, mapT, mapTL, bytesI_len, c5, eq_true c17, eq_true c144, eq_false c146, eq_false c166, eq_false c168, eq_false c170, eq_true c172, eq_true c175, eq_true c177]))
                          · exact .nil _
                          · exact .cons (.tok (by simp [tokL, tokLL, inlR]) (by first | rfl | simp [upd_ap, hpL_ap, tau, mapT, mapTL, bytesI_len, c5, eq_true c17, eq_true c144, eq_false c146, eq_false c166, eq_false c168, eq_false c170, eq_true c172, eq_true c175, eq_true c177])) (.cons (.eq (by first | rfl | simp only [go_sem]) (by first | rfl | simp [upd_ap, hpL_ap, tau, mapT, mapTL, bytesI_len, c5, eq_true c17, eq_true c144, eq_false c146, eq_false c166, eq_false c168, eq_false c170, eq_true c172, eq_true c175, eq_true c177])) (.cons (.eq (by first | rfl | simp only [go_sem]) (by first | rfl | simp [upd_ap, hpL_ap, tau, mapT, mapTL, bytesI_len, c5, eq_true c17, eq_true c144, eq_false c146, eq_false c166, eq_false c168, eq_false c170, eq_true c172, eq_true c175, eq_true c177])) (.nil _)))
                        · rw [if_neg c177] at h
                          refine AW.ifF rfl c177 ?_
                          refine AW.skip ?_
                          refine block_n ?_
                          refine block_n ?_
                          refine thenA_n ?_
                          refine AW.regionL [0, 3, 5, 6, 7] ?_
                          generalize hK : thenA _ _ Exit.normal = K
                          simp only [go_sem, ↓reduceIte, reduceCtorEq, Nat.reduceAdd, Nat.reduceSub, Nat.reduceMul, Nat.reduceEqDiff, Nat.reduceLT, Nat.reduceLeDiff, Nat.reduceBEq, Int.reduceAdd, Int.reduceSub, Int.reduceLT, Int.reduceLE, Int.reduceEq, Int.reduceToNat, c5, eq_true c17, eq_true c144, eq_false c146, eq_false c166, eq_false c168, eq_false c170, eq_true c172, eq_true c175, eq_false c177]
                          subst hK
                          refine thenA_n ?_
                          refine ⟨_, (Option.some.inj h).symm, ?_⟩
                          refine Ent.can [8, 243, 355] _ _ _ rfl (by first | decide | simp) rfl ?_ ?_ ?_
                          · exact (((((RF.any.pv (by first | rfl | simp only [go_sem]) (by first | rfl | simp [upd_ap, hpL_ap, tau, mapT, mapTL, bytesI_len, c5, eq_true c17, eq_true c144, eq_false c146, eq_false c166, eq_false c168, eq_false c170, eq_true c172, eq_true c175, eq_false c177])).pp (by decide) (by first | rfl | simp [upd_ap, hpL_ap, tau, mapT, mapTL, bytesI_len, c5, eq_true c17, eq_true c144, eq_false c146, eq_false c166, eq_false c168, eq_false c170, eq_true c172, eq_true c175, eq_false c177])).po (by decide) (by first | rfl | simp [upd_ap, hpL_ap, tau, mapT, mapTL, bytesI_len, c5, eq_true c17, eq_true c144, eq_false c146, eq_false c166, eq_false c168, eq_false c170, eq_true c172, eq_true c175, eq_false c177])).pv (by first | rfl | simp only [go_sem]) (by first | rfl | simp [upd_ap, hpL_ap, tau, mapT, mapTL, bytesI_len, c5, eq_true c17, eq_true c144, eq_false c146, eq_false c166, eq_false c168, eq_false c170, eq_true c172, eq_true c175, eq_false c177])).pv (by first | rfl | simp only [go_sem]) (by first | rfl | simp [upd_ap, hpL_ap, tau, mapT, mapTL, bytesI_len, c5, eq_true c17, eq_true c144, eq_false c146, eq_false c166, eq_false c168, eq_false c170, eq_true c172, eq_true c175, eq_false c177]))
                          · exact .nil _
                          · exact .cons (.tok (by simp [tokL, tokLL, inlR]) (by first | rfl | simp [upd_ap, hpL_ap, tau, mapT, mapTL, bytesI_len, c5, eq_true c17, eq_true c144, eq_false c146, eq_false c166, eq_false c168, eq_false c170, eq_true c172, eq_true c175, eq_false c177])) (.cons (.eq (by first | rfl | simp only [go_sem]) (by first | rfl | simp [upd_ap, hpL_ap, tau, mapT, mapTL, bytesI_len, c5, eq_true c17, eq_true c144, eq_false c146, eq_false c166, eq_false c168, eq_false c170, eq_true c172, eq_true c175, eq_false c177])) (.cons (.eq (by first | rfl | simp only [go_sem]) (by first | rfl | simp [upd_ap, hpL_ap, tau, mapT, mapTL, bytesI_len, c5, eq_true c17, eq_true c144, eq_false c146, eq_false c166, eq_false c168, eq_false c170, eq_true c172, eq_true c175, eq_false c177])) (.nil _)))
                      · rw [if_neg c175] at h
                        refine AW.ifF rfl c175 ?_
                        refine AW.skip ?_
                        refine thenA_n ?_
                        refine AW.regL [0, 3, 5, 6, 7, 118] ?_
                        generalize hK : AW Try.prog _ _ _ = K
                        simp only [go_sem, ↓reduceIte, reduceCtorEq, Nat.reduceAdd, Nat.reduceSub, Nat.reduceMul, Nat.reduceEqDiff, Nat.reduceLT, Nat.reduceLeDiff, Nat.reduceBEq, Int.reduceAdd, Int.reduceSub, Int.reduceLT, Int.reduceLE, Int.reduceEq, Int.reduceToNat, c5, eq_true c17, eq_true c144, eq_false c146, eq_false c166, eq_false c168, eq_false c170, eq_true c172, eq_false c175]
                        refine arC.of (ok34 x173.1 x174 hx174) Try.call34 ?_
                        simp only [go_sem, ↓reduceIte, reduceCtorEq, Nat.reduceAdd, Nat.reduceSub, Nat.reduceMul, Nat.reduceEqDiff, Nat.reduceLT, Nat.reduceLeDiff, Nat.reduceBEq, Int.reduceAdd, Int.reduceSub, Int.reduceLT, Int.reduceLE, Int.reduceEq, Int.reduceToNat, c5, eq_true c17, eq_true c144, eq_false c146, eq_false c166, eq_false c168, eq_false c170, eq_true c172, eq_false c175]
                        subst hK
                        by_cases c178 : x174 = 9
                        · rw [if_pos c178] at h
                          refine AW.ifT rfl c178 ?_
                          refine AW.regionL [0, 3, 5, 6, 7] ?_
                          generalize hK : inBlockA _ _ Exit.normal = K
                          simp only [go_sem, ↓reduceIte, reduceCtorEq, Nat.reduceAdd, Nat.reduceSub, Nat.reduceMul, Nat.reduceEqDiff, Nat.reduceLT, Nat.reduceLeDiff, Nat.reduceBEq, Int.reduceAdd, Int.reduceSub, Int.reduceLT, Int.reduceLE, Int.reduceEq, Int.reduceToNat, c5, eq_true c17, eq_true c144, eq_false c146, eq_false c166, eq_false c168, eq_false c170, eq_true c172, eq_false c175, eq_true c178]
                          subst hK
                          refine block_n ?_
                          refine block_n ?_
                          refine thenA_n ?_
                          refine AW.regionL [0, 3, 5, 6, 7] ?_
                          generalize hK : thenA _ _ Exit.normal = K
                          simp only [go_sem, ↓reduceIte, reduceCtorEq, Nat.reduceAdd, Nat.reduceSub, Nat.reduceMul, Nat.reduceEqDiff, Nat.reduceLT, Nat.reduceLeDiff, Nat.reduceBEq, Int.reduceAdd, Int.reduceSub, Int.reduceLT, Int.reduceLE, Int.reduceEq, Int.reduceToNat, c5, eq_true c17, eq_true c144, eq_false c146, eq_false c166, eq_false c168, eq_false c170, eq_true c172, eq_false c175, eq_true c178]
                          subst hK
                          refine thenA_n ?_
                          refine ⟨_, (Option.some.inj h).symm, ?_⟩
                          refine Ent.can [8, 243, 10] _ _ _ rfl (by first | decide | simp) rfl ?_ ?_ ?_
                          · exact (((((RF.any.pv (by first | rfl | simp only [go_sem]) (by first | rfl | simp [upd_ap, hpL_ap, tau, mapT, mapTL, bytesI_len, c5, eq_true c17, eq_true c144, eq_false c146, eq_false c166, eq_false c168, eq_false c170, eq_true c172, eq_false c175, eq_true c178])).pp (by decide) (by first | rfl | simp [upd_ap, hpL_ap, tau, mapT, mapTL, bytesI_len, c5, eq_true c17, eq_true c144, eq_false c146, eq_false c166, eq_false c168, eq_false c170, eq_true c172, eq_false c175, eq_true c178])).po (by decide) (by first | rfl | simp [upd_ap, hpL_ap, tau, mapT, mapTL, bytesI_len, c5, eq_true c17, eq_true c144, eq_false c146, eq_false c166, eq_false c168, eq_false c170, eq_true c172, eq_false c175, eq_true c178])).pv (by first | rfl | simp only [go_sem]) (by first | rfl | simp [upd_ap, hpL_ap, tau, mapT, mapTL, bytesI_len, c5, eq_true c17, eq_true c144, eq_false c146, eq_false c166, eq_false c168, eq_false c170, eq_true c172, eq_false c175, eq_true c178])).pv (by first | rfl | simp only [go_sem]) (by first | rfl | simp [upd_ap, hpL_ap, tau, mapT, mapTL, bytesI_len, c5, eq_true c17, eq_true c144, eq_false c146, eq_false c166, eq_false c168, eq_false c170, eq_true c172, eq_false c175, eq_true c178]))
                          · exact .nil _
                          · exact .cons (.tok (by simp [tokL, tokLL, inlR]) (by first | rfl | simp [upd_ap, hpL_ap, tau, mapT, mapTL, bytesI_len, c5, eq_true c17, eq_true c144, eq_false c146, eq_false c166, eq_false c168, eq_false c170, eq_true c172, eq_false c175, eq_true c178])) (.cons (.eq (by first | rfl | simp only [go_sem]) (by first | rfl | simp [upd_ap, hpL_ap, tau, mapT, mapTL, bytesI_len, c5, eq_true c17, eq_true c144, eq_false c146, eq_false c166, eq_false c168, eq_false c170, eq_true c172, eq_false c175, eq_true c178])) (.cons (.eq (by first | rfl | simp only [go_sem]) (by first | rfl | simp [upd_ap, hpL_ap, tau, mapT, mapTL, bytesI_len, c5, eq_true c17, eq_true c144, eq_false c146, eq_false c166, eq_false c168, eq_false c170, eq_true c172, eq_false c175, eq_true c178])) (.nil _)))
                        · rw [if_neg c178] at h
                          refine AW.ifF rfl c178 ?_
                          refine AW.skip ?_
                          refine block_n ?_
                          refine block_n ?_
                          refine thenA_n ?_
                          refine AW.regionL [0, 3, 5, 6, 7] ?_
                          generalize hK : thenA _ _ Exit.normal = K
                          simp only [go_sem, ↓reduceIte, reduceCtorEq, Nat.reduceAdd, Nat.reduceSub, Nat.reduceMul, Nat.reduceEqDiff, Nat.reduceLT, Nat.reduceLeDiff, Nat.reduceBEq, Int.reduceAdd, Int.reduceSub, Int.reduceLT, Int.reduceLE, Int.reduceEq, Int.reduceToNat, c5, eq_true c17, eq_true c144, eq_false c146, eq_false c166, eq_false c168, eq_false c170, eq_true c172, eq_false c175, eq_false c178]
                          subst hK
                          refine thenA_n ?_
                          refine ⟨_, (Option.some.inj h).symm, ?_⟩
                          refine Ent.can [8, 243, 10] _ _ _ rfl (by first | decide | simp) rfl ?_ ?_ ?_
                          · exact (((((RF.any.pv (by first | rfl | simp only [go_sem]) (by first | rfl | simp [upd_ap, hpL_ap, tau, mapT, mapTL, bytesI_len, c5, eq_true c17, eq_true c144, eq_false c146, eq_false c166, eq_false c168, eq_false c170, eq_true c172, eq_false c175, eq_false c178])).pp (by decide) (by first | rfl | simp [upd_ap, hpL_ap, tau, mapT, mapTL, bytesI_len, c5, eq_true c17, eq_true c144, eq_false c146, eq_false c166, eq_false c168, eq_false c170, eq_true c172, eq_false c175, eq_false c178])).po (by decide) (by first | rfl | simp [upd_ap, hpL_ap, tau, mapT, mapTL, bytesI_len, c5, eq_true c17, eq_true c144, eq_false c146, eq_false c166, eq_false c168, eq_false c170, eq_true c172, eq_false c175, eq_false c178])).pv (by first | rfl | simp only [go_sem]) (by first | rfl | simp [upd_ap, hpL_ap, tau, mapT, mapTL, bytesI_len, c5, eq_true c17, eq_true c144, eq_false c146, eq_false c166, eq_false c168, eq_false c170, eq_true c172, eq_false c175, eq_false c178])).pv (by first | rfl | simp only [go_sem]) (by first | rfl | simp [upd_ap, hpL_ap, tau, mapT, mapTL, bytesI_len, c5, eq_true c17, eq_true c144, eq_false c146, eq_false c166, eq_false c168, eq_false c170, eq_true c172, eq_false c175, eq_false c178]))
                          · exact .nil _
                          · exact .cons (.tok (by simp [tokL, tokLL, inlR]) (by first | rfl | simp [upd_ap, hpL_ap, tau, mapT, mapTL, bytesI_len, c5, eq_true c17, eq_true c144, eq_false c146, eq_false c166, eq_false c168, eq_false c170, eq_true c172, eq_false c175, eq_false c178])) (.cons (.eq (by first | rfl | simp only [go_sem]) (by first | rfl | simp [upd_ap, hpL_ap, tau, mapT, mapTL, bytesI_len, c5, eq_true c17, eq_true c144, eq_false c146, eq_false c166, eq_false c168, eq_false c170, eq_true c172, eq_false c175, eq_false c178])) (.cons (.eq (by first | rfl | simp only [go_sem]) (by first | rfl | simp [upd_ap, hpL_ap, tau, mapT, mapTL, bytesI_len, c5, eq_true c17, eq_true c144, eq_false c146, eq_false c166, eq_false c168, eq_false c170, eq_true c172, eq_false c175, eq_false c178])) (.nil _)))
                    · rw [if_neg c172] at h
                      refine AW.ifF rfl c172 ?_
                      refine AW.regL [0, 3, 5, 6, 7, 8, 121] ?_
                      generalize hK : AW Try.prog _ _ _ = K
                      simp only [go_sem, ↓reduceIte, reduceCtorEq, Nat.reduceAdd, Nat.reduceSub, Nat.reduceMul, Nat.reduceEqDiff, Nat.reduceLT, Nat.reduceLeDiff, Nat.reduceBEq, Int.reduceAdd, Int.reduceSub, Int.reduceLT, Int.reduceLE, Int.reduceEq, Int.reduceToNat, c5, eq_true c17, eq_true c144, eq_false c146, eq_false c166, eq_false c168, eq_false c170, eq_false c172]
                      subst hK
                      by_cases c179 : x145.Do = 5
                      · rw [if_pos c179] at h
                        refine AW.ifT rfl c179 ?_
                        obtain ⟨x180, hx180, h⟩ := Option.bind_eq_some_iff.1 h
                        refine AW.regionL [0, 3, 5, 6, 7] ?_
                        generalize hK : inBlockA _ _ Exit.normal = K
                        simp only [go_sem, ↓reduceIte, reduceCtorEq, Nat.reduceAdd, Nat.reduceSub, Nat.reduceMul, Nat.reduceEqDiff, Nat.reduceLT, Nat.reduceLeDiff, Nat.reduceBEq, Int.reduceAdd, Int.reduceSub, Int.reduceLT, Int.reduceLE, Int.reduceEq, Int.reduceToNat, c5, eq_true c17, eq_true c144, eq_false c146, eq_false c166, eq_false c168, eq_false c170, eq_false c172, eq_true c179]
                        refine arC.ok (CallOk.ic (us' := _) (ok41 ⟨s4_0, s4_1, ⟨s4_2, s4_3, s4_4, s4_5, s4_6, s4_7, s4_8, s4_9⟩, s4_10, s4_11, s4_12, s4_13⟩ x145.I x145.Up x180 hx180) [8, 9] rfl (by decide) (by simp) (by simp) (by simp) (by simp) (.cons (.tok (by simp [tokL, tokLL, inlR]) (by first | rfl | simp [upd_ap, hpL_ap, sg_ap, mapT, mapTL])) (.cons (.eq (by simp only [go_sem]) (by first | rfl | simp [upd_ap, hpL_ap, sg_ap])) (.nil _))) (by simp only [mapTL_cons, mapTL_nil, mapT_ptr, mapT_own, mapT_val, mapT_sl, mapT_agg, mapT_ip, sg_ap, List.getD_cons_zero, List.getD_cons_succ]; exact (.cons (.of rfl) (.cons (.of rfl) (.cons (.of rfl) .nil)))) (by simp only [go_sem, List.length_cons, List.length_nil, Nat.reduceAdd, Nat.reduceLT, decide_true]) (by simp [AObj.isMut]) (by simp [go_sem]) (by simp [go_sem])) Try.call41 ?_
                        simp only [go_sem, ↓reduceIte, reduceCtorEq, Nat.reduceAdd, Nat.reduceSub, Nat.reduceMul, Nat.reduceEqDiff, Nat.reduceLT, Nat.reduceLeDiff, Nat.reduceBEq, Int.reduceAdd, Int.reduceSub, Int.reduceLT, Int.reduceLE, Int.reduceEq, Int.reduceToNat, c5, eq_true c17, eq_true c144, eq_false c146, eq_false c166, eq_false c168, eq_false c170, eq_false c172, eq_true c179]
                        subst hK
                        refine block_n ?_
                        refine block_n ?_
                        refine thenA_n ?_
                        refine AW.regionL [0, 3, 5, 6, 7] ?_
                        generalize hK : thenA _ _ Exit.normal = K
                        simp only [go_sem, ↓reduceIte, reduceCtorEq, Nat.reduceAdd, Nat.reduceSub, Nat.reduceMul, Nat.reduceEqDiff, Nat.reduceLT, Nat.reduceLeDiff, Nat.reduceBEq, Int.reduceAdd, Int.reduceSub, Int.reduceLT, Int.reduceLE, Int.reduceEq, Int.reduceToNat, c5, eq_true c17, eq_true c144, eq_false c146, eq_false c166, eq_false c168, eq_false c170, eq_false c172, eq_true c179]
                        subst hK
                        refine thenA_n ?_
                        refine ⟨_, (Option.some.inj h).symm, ?_⟩
                        refine Ent.can [8, 9, 10] _ _ _ rfl (by first | decide | simp) rfl ?_ ?_ ?_
                        · exact (((((RF.any.pv (by first | rfl | simp only [go_sem]) (by first | rfl | simp [upd_ap, hpL_ap, tau, mapT, mapTL, bytesI_len, c5, eq_true c17, eq_true c144, eq_false c146, eq_false c166, eq_false c168, eq_false c170, eq_false c172, eq_true c179])).pp (by decide) (by first | rfl | simp [upd_ap, hpL_ap, tau, mapT, mapTL, bytesI_len, c5, eq_true c17, eq_true c144, eq_false c146, eq_false c166, eq_false c168, eq_false c170, eq_false c172, eq_true c179])).po (by decide) (by first | rfl | simp [upd_ap, hpL_ap, tau, mapT, mapTL, bytesI_len, c5, eq_true c17, eq_true c144, eq_false c146, eq_false c166, eq_false c168, eq_false c170, eq_false c172, eq_true c179])).pv (by first | rfl | simp only [go_sem]) (by first | rfl | simp [upd_ap, hpL_ap, tau, mapT, mapTL, bytesI_len, c5, eq_true c17, eq_true c144, eq_false c146, eq_false c166, eq_false c168, eq_false c170, eq_false c172, eq_true c179])).pv (by first | rfl | simp only [go_sem]) (by first | rfl | simp [upd_ap, hpL_ap, tau, mapT, mapTL, bytesI_len, c5, eq_true c17, eq_true c144, eq_false c146, eq_false c166, eq_false c168, eq_false c170, eq_false c172, eq_true c179]))
                        · exact .nil _
                        · exact .cons (.tok (by simp [tokL, tokLL, inlR]) (by first | rfl | simp [upd_ap, hpL_ap, tau, mapT, mapTL, bytesI_len, c5, eq_true c17, eq_true c144, eq_false c146, eq_false c166, eq_false c168, eq_false c170, eq_false c172, eq_true c179])) (.cons (.eq (by first | rfl | simp only [go_sem]) (by first | rfl | simp [upd_ap, hpL_ap, tau, mapT, mapTL, bytesI_len, c5, eq_true c17, eq_true c144, eq_false c146, eq_false c166, eq_false c168, eq_false c170, eq_false c172, eq_true c179])) (.cons (.eq (by first | rfl | simp only [go_sem]) (by first | rfl | simp [upd_ap, hpL_ap, tau, mapT, mapTL, bytesI_len, c5, eq_true c17, eq_true c144, eq_false c146, eq_false c166, eq_false c168, eq_false c170, eq_false c172, eq_true c179])) (.nil _)))
                      · rw [if_neg c179] at h
                        refine AW.ifF rfl c179 ?_
                        refine AW.skip ?_
                        refine block_n ?_
                        refine block_n ?_
                        refine thenA_n ?_
                        refine AW.regionL [0, 3, 5, 6, 7] ?_
                        generalize hK : thenA _ _ Exit.normal = K
                        simp only [go_sem, ↓reduceIte, reduceCtorEq, Nat.reduceAdd, Nat.reduceSub, Nat.reduceMul, Nat.reduceEqDiff, Nat.reduceLT, Nat.reduceLeDiff, Nat.reduceBEq, Int.reduceAdd, Int.reduceSub, Int.reduceLT, Int.reduceLE, Int.reduceEq, Int.reduceToNat, c5, eq_true c17, eq_true c144, eq_false c146, eq_false c166, eq_false c168, eq_false c170, eq_false c172, eq_false c179]
                        subst hK
                        refine thenA_n ?_
                        refine ⟨_, (Option.some.inj h).symm, ?_⟩
                        refine Ent.can [8, 9, 10] _ _ _ rfl (by first | decide | simp) rfl ?_ ?_ ?_
                        · exact (((((RF.any.pv (by first | rfl | simp only [go_sem]) (by first | rfl | simp [upd_ap, hpL_ap, tau, mapT, mapTL, bytesI_len, c5, eq_true c17, eq_true c144, eq_false c146, eq_false c166, eq_false c168, eq_false c170, eq_false c172, eq_false c179])).pp (by decide) (by first | rfl | simp [upd_ap, hpL_ap, tau, mapT, mapTL, bytesI_len, c5, eq_true c17, eq_true c144, eq_false c146, eq_false c166, eq_false c168, eq_false c170, eq_false c172, eq_false c179])).po (by decide) (by first | rfl | simp [upd_ap, hpL_ap, tau, mapT, mapTL, bytesI_len, c5, eq_true c17, eq_true c144, eq_false c146, eq_false c166, eq_false c168, eq_false c170, eq_false c172, eq_false c179])).pv (by first | rfl | simp only [go_sem]) (by first | rfl | simp [upd_ap, hpL_ap, tau, mapT, mapTL, bytesI_len, c5, eq_true c17, eq_true c144, eq_false c146, eq_false c166, eq_false c168, eq_false c170, eq_false c172, eq_false c179])).pv (by first | rfl | simp only [go_sem]) (by first | rfl | simp [upd_ap, hpL_ap, tau, mapT, mapTL, bytesI_len, c5, eq_true c17, eq_true c144, eq_false c146, eq_false c166, eq_false c168, eq_false c170, eq_false c172, eq_false c179]))
                        · exact .nil _
                        · exact .cons (.tok (by simp [tokL, tokLL, inlR]) (by first | rfl | simp [upd_ap, hpL_ap, tau, mapT, mapTL, bytesI_len, c5, eq_true c17, eq_true c144, eq_false c146, eq_false c166, eq_false c168, eq_false c170, eq_false c172, eq_false c179])) (.cons (.eq (by first | rfl | simp only [go_sem]) (by first | rfl | simp [upd_ap, hpL_ap, tau, mapT, mapTL, bytesI_len, c5, eq_true c17, eq_true c144, eq_false c146, eq_false c166, eq_false c168, eq_false c170, eq_false c172, eq_false c179])) (.cons (.eq (by first | rfl | simp only [go_sem]) (by first | rfl | simp [upd_ap, hpL_ap, tau, mapT, mapTL, bytesI_len, c5, eq_true c17, eq_true c144, eq_false c146, eq_false c166, eq_false c168, eq_false c170, eq_false c172, eq_false c179])) (.nil _)))
          · rw [if_neg c144] at h
            refine AW.ifF rfl c144 ?_
            refine AW.exit ?_
            refine thenA_x ?_
            refine thenA_x ?_
            refine ⟨_, (Option.some.inj h).symm, _, ?_, rfl, rfl⟩
            refine Ent.can [8, 9] _ _ _ rfl (by first | decide | simp) rfl ?_ ?_ ?_
            · exact ((RF.any.pp (by decide) (by first | rfl | simp [upd_ap, hpL_ap, tau, mapT, mapTL, bytesI_len, c5, eq_true c17, eq_false c144])).pv (by first | rfl | simp only [go_sem]) (by first | rfl | simp [upd_ap, hpL_ap, tau, mapT, mapTL, bytesI_len, c5, eq_true c17, eq_false c144]))
            · exact .nil _
            · exact .cons (.tok (by simp [tokL, tokLL, inlR]) (by first | rfl | simp [upd_ap, hpL_ap, tau, mapT, mapTL, bytesI_len, c5, eq_true c17, eq_false c144])) (.cons (.eq (by first | rfl | simp only [go_sem]) (by first | rfl | simp [upd_ap, hpL_ap, tau, mapT, mapTL, bytesI_len, c5, eq_true c17, eq_false c144])) (.nil _))
        · intro e st' hX
          rcases y181 with y182 | ⟨y183, y184, y185, y186, y187, y188, y189, y190, y191, y192, y193, y194, y195, y196, y197⟩ <;> dsimp only at h hX
          · obtain ⟨rfl, hf⟩ := hX
            refine ⟨_, Ent.refl, ?_⟩
            refine block_r ?_
            refine thenA_r ?_
            obtain rfl := Option.some.inj h
            exact hf
          · obtain ⟨rfl, rfl⟩ := hX
            refine ⟨_, Ent.refl, ?_⟩
            refine block_x ?_
            refine thenA_n ?_
            obtain ⟨x198, hx198, h⟩ := Option.bind_eq_some_iff.1 h
            refine AW.regL [3, 6, 14, 15, 16] ?_
            generalize hK : AW Try.prog _ _ _ = K
            simp only [go_sem, ↓reduceIte, reduceCtorEq, Nat.reduceAdd, Nat.reduceSub, Nat.reduceMul, Nat.reduceEqDiff, Nat.reduceLT, Nat.reduceLeDiff, Nat.reduceBEq, Int.reduceAdd, Int.reduceSub, Int.reduceLT, Int.reduceLE, Int.reduceEq, Int.reduceToNat, c5, eq_true c17]
            refine arC.ok (CallOk.ic (us' := _) (ok42 ⟨y184, y185, ⟨y186, y187, y188, y189, y190, y191, y192, y193⟩, y197, y194, y195, y196⟩ x198 hx198) [8, 9] rfl (by decide) (by simp) (by simp) (by simp) (by simp) (.cons (.tok (by simp [tokL, tokLL, inlR]) (by first | rfl | simp [upd_ap, hpL_ap, sg_ap, mapT, mapTL])) (.cons (.eq (by simp only [go_sem]) (by first | rfl | simp [upd_ap, hpL_ap, sg_ap])) (.nil _))) (by simp only [mapTL_cons, mapTL_nil, mapT_ptr, mapT_own, mapT_val, mapT_sl, mapT_agg, mapT_ip, sg_ap, List.getD_cons_zero, List.getD_cons_succ]; exact (.cons (.of rfl) .nil)) (by simp only [go_sem, List.length_cons, List.length_nil, Nat.reduceAdd, Nat.reduceLT, decide_true]) (by simp [AObj.isMut]) (by simp [go_sem]) (by simp [go_sem])) Try.call42 ?_
            simp only [go_sem, ↓reduceIte, reduceCtorEq, Nat.reduceAdd, Nat.reduceSub, Nat.reduceMul, Nat.reduceEqDiff, Nat.reduceLT, Nat.reduceLeDiff, Nat.reduceBEq, Int.reduceAdd, Int.reduceSub, Int.reduceLT, Int.reduceLE, Int.reduceEq, Int.reduceToNat, c5, eq_true c17]
            subst hK
            obtain ⟨x199, hx199, h⟩ := Option.bind_eq_some_iff.1 h
            by_cases c200 : x198.1 = (IntKind.i64.wrap ((IntKind.i64.wrap ((IntKind.i64.wrap (x199.1 + x198.2.1)) + x198.2.2.1)) - y183))
            · rw [if_pos c200] at h
              obtain ⟨x201, hx201, h⟩ := Option.bind_eq_some_iff.1 h
              refine AW.regL [2] ?_
              generalize hK : AW Try.prog _ _ _ = K
              simp only [go_sem, ↓reduceIte, reduceCtorEq, Nat.reduceAdd, Nat.reduceSub, Nat.reduceMul, Nat.reduceEqDiff, Nat.reduceLT, Nat.reduceLeDiff, Nat.reduceBEq, Int.reduceAdd, Int.reduceSub, Int.reduceLT, Int.reduceLE, Int.reduceEq, Int.reduceToNat, c5, eq_true c17, eq_true c200]
              refine arC.ok (CallOk.ic (us' := _) (ok43 x198.2.2.2 x199 hx199) [8, 9] rfl (by decide) (by simp) (by simp) (by simp) (by simp) (.cons (.tok (by simp [tokL, tokLL, inlR]) (by first | rfl | simp [upd_ap, hpL_ap, sg_ap, mapT, mapTL])) (.cons (.eq (by simp only [go_sem]) (by first | rfl | simp [upd_ap, hpL_ap, sg_ap])) (.nil _))) (by simp only [mapTL_cons, mapTL_nil, mapT_ptr, mapT_own, mapT_val, mapT_sl, mapT_agg, mapT_ip, sg_ap, List.getD_cons_zero, List.getD_cons_succ]; exact (.cons (.of rfl) .nil)) (by simp only [go_sem, List.length_cons, List.length_nil, Nat.reduceAdd, Nat.reduceLT, decide_true]) (by simp [AObj.isMut]) (by simp [go_sem]) (by simp [go_sem])) Try.call43 ?_
              simp only [go_sem, ↓reduceIte, reduceCtorEq, Nat.reduceAdd, Nat.reduceSub, Nat.reduceMul, Nat.reduceEqDiff, Nat.reduceLT, Nat.reduceLeDiff, Nat.reduceBEq, Int.reduceAdd, Int.reduceSub, Int.reduceLT, Int.reduceLE, Int.reduceEq, Int.reduceToNat, c5, eq_true c17, eq_true c200]
              refine arC.of (ok32  x201 hx201) Try.call32 ?_
              simp only [go_sem, ↓reduceIte, reduceCtorEq, Nat.reduceAdd, Nat.reduceSub, Nat.reduceMul, Nat.reduceEqDiff, Nat.reduceLT, Nat.reduceLeDiff, Nat.reduceBEq, Int.reduceAdd, Int.reduceSub, Int.reduceLT, Int.reduceLE, Int.reduceEq, Int.reduceToNat, c5, eq_true c17, eq_true c200]
              subst hK
              refine AW.ret ?_
              obtain rfl := Option.some.inj h
              (simp only [go_sem, ↓reduceIte, reduceCtorEq, Nat.reduceAdd, Nat.reduceSub, Nat.reduceMul, Nat.reduceEqDiff, Nat.reduceLT, Nat.reduceLeDiff, Nat.reduceBEq, Int.reduceAdd, Int.reduceSub, Int.reduceLT, Int.reduceLE, Int.reduceEq, Int.reduceToNat, c5, eq_true c17, eq_true c200, finA, resA, resOf_1, resOf_2, sealV_val, sealV_sl, sealV_ip, sealV_agg, sealV_tup, sealV_own, sealL_nil, sealL_cons, sealV_clo, resOf_clo] <;> try simp)
            · rw [if_neg c200] at h
              refine AW.regL [2] ?_
              generalize hK : AW Try.prog _ _ _ = K
              simp only [go_sem, ↓reduceIte, reduceCtorEq, Nat.reduceAdd, Nat.reduceSub, Nat.reduceMul, Nat.reduceEqDiff, Nat.reduceLT, Nat.reduceLeDiff, Nat.reduceBEq, Int.reduceAdd, Int.reduceSub, Int.reduceLT, Int.reduceLE, Int.reduceEq, Int.reduceToNat, c5, eq_true c17, eq_false c200]
              refine arC.ok (CallOk.ic (us' := _) (ok43 x198.2.2.2 x199 hx199) [8, 9] rfl (by decide) (by simp) (by simp) (by simp) (by simp) (.cons (.tok (by simp [tokL, tokLL, inlR]) (by first | rfl | simp [upd_ap, hpL_ap, sg_ap, mapT, mapTL])) (.cons (.eq (by simp only [go_sem]) (by first | rfl | simp [upd_ap, hpL_ap, sg_ap])) (.nil _))) (by simp only [mapTL_cons, mapTL_nil, mapT_ptr, mapT_own, mapT_val, mapT_sl, mapT_agg, mapT_ip, sg_ap, List.getD_cons_zero, List.getD_cons_succ]; exact (.cons (.of rfl) .nil)) (by simp only [go_sem, List.length_cons, List.length_nil, Nat.reduceAdd, Nat.reduceLT, decide_true]) (by simp [AObj.isMut]) (by simp [go_sem]) (by simp [go_sem])) Try.call43 ?_
              simp only [go_sem, ↓reduceIte, reduceCtorEq, Nat.reduceAdd, Nat.reduceSub, Nat.reduceMul, Nat.reduceEqDiff, Nat.reduceLT, Nat.reduceLeDiff, Nat.reduceBEq, Int.reduceAdd, Int.reduceSub, Int.reduceLT, Int.reduceLE, Int.reduceEq, Int.reduceToNat, c5, eq_true c17, eq_false c200]
              subst hK
              refine AW.ret ?_
              obtain rfl := Option.some.inj h
              (simp only [go_sem, ↓reduceIte, reduceCtorEq, Nat.reduceAdd, Nat.reduceSub, Nat.reduceMul, Nat.reduceEqDiff, Nat.reduceLT, Nat.reduceLeDiff, Nat.reduceBEq, Int.reduceAdd, Int.reduceSub, Int.reduceLT, Int.reduceLE, Int.reduceEq, Int.reduceToNat, c5, eq_true c17, eq_false c200, finA, resA, resOf_1, resOf_2, sealV_val, sealV_sl, sealV_ip, sealV_agg, sealV_tup, sealV_own, sealL_nil, sealL_cons, sealV_clo, resOf_clo] <;> try simp)
      · rw [if_neg c17] at h
        refine AW.regL [0, 3, 30] ?_
        generalize hK : AW Try.prog _ _ _ = K
        simp only [go_sem, ↓reduceIte, reduceCtorEq, Nat.reduceAdd, Nat.reduceSub, Nat.reduceMul, Nat.reduceEqDiff, Nat.reduceLT, Nat.reduceLeDiff, Nat.reduceBEq, Int.reduceAdd, Int.reduceSub, Int.reduceLT, Int.reduceLE, Int.reduceEq, Int.reduceToNat, c5, eq_false c17]
        refine arC.of (ok34 e8 x16 hx16) Try.call34 ?_
        simp only [go_sem, ↓reduceIte, reduceCtorEq, Nat.reduceAdd, Nat.reduceSub, Nat.reduceMul, Nat.reduceEqDiff, Nat.reduceLT, Nat.reduceLeDiff, Nat.reduceBEq, Int.reduceAdd, Int.reduceSub, Int.reduceLT, Int.reduceLE, Int.reduceEq, Int.reduceToNat, c5, eq_false c17]
        subst hK
        refine AW.ifBT rfl rfl ?_
        refine AW.regL [2] ?_
        generalize hK : AW Try.prog _ _ _ = K
        simp only [go_sem, ↓reduceIte, reduceCtorEq, Nat.reduceAdd, Nat.reduceSub, Nat.reduceMul, Nat.reduceEqDiff, Nat.reduceLT, Nat.reduceLeDiff, Nat.reduceBEq, Int.reduceAdd, Int.reduceSub, Int.reduceLT, Int.reduceLE, Int.reduceEq, Int.reduceToNat, c5, eq_false c17]
        subst hK
        refine AW.ret ?_
        refine thenA_r ?_
        obtain rfl := Option.some.inj h
        (simp only [go_sem, ↓reduceIte, reduceCtorEq, Nat.reduceAdd, Nat.reduceSub, Nat.reduceMul, Nat.reduceEqDiff, Nat.reduceLT, Nat.reduceLeDiff, Nat.reduceBEq, Int.reduceAdd, Int.reduceSub, Int.reduceLT, Int.reduceLE, Int.reduceEq, Int.reduceToNat, c5, eq_false c17, finA, resA, resOf_1, resOf_2, sealV_val, sealV_sl, sealV_ip, sealV_agg, sealV_tup, sealV_own, sealL_nil, sealL_cons, sealV_clo, resOf_clo] <;> try simp)
end Au
end Go.Proofs.Y1
