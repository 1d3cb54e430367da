import Derived.Test.YtlonihmeikmpiaaGuW1
set_option linter.all false
set_option linter.unusedVariables false
set_option linter.unusedSimpArgs false
set_option linter.all false
set_option maxRecDepth 8000
set_option maxHeartbeats 1000000
namespace Go.Proofs.Y1
open Go.Gm
namespace Au
noncomputable def f95 (a0 : Bag81) (a1 : Int) (a2 : Int) (a3 : List Int) : Option (Bag81 × Int) := (if a1 < 0 then some (a0, 1) else (if a0.Nodes ≤ a1 then some (a0, 1) else (if a2 < 0 then some (a0, 1) else (if a0.Nodes ≤ a2 then some (a0, 1) else ((guardO (0 ≤ a1 ∧ a1 < 8)).bind fun x11 => (if (A8.get a0.Down a1.toNat) = true then some (a0, 6) else (if a0.Most ≤ (a0.L.length : Int) then some (⟨a0.Nodes, a0.Most, a0.Down, a0.L, ⟨a0.N.e0, a0.N.e1, IntKind.i64.wrap (a0.N.e2 + 1)⟩⟩, 9) else ((appO? ([] : List Msg) a0.L).bind fun x15 => ((appO? x15 [⟨a1, a2, a3⟩]).bind fun x16 => some (⟨a0.Nodes, a0.Most, a0.Down, x16, ⟨IntKind.i64.wrap (a0.N.e0 + 1), a0.N.e1, a0.N.e2⟩⟩, 0))))))))))
theorem ok95 (a0 : Bag81) (a1 : Int) (a2 : Int) (a3 : List Int) (r : Bag81 × Int) (h : f95 a0 a1 a2 a3 = some r) : PC Try.prog 95 [.agg (encBag81 a0), .val (.int .i64 a1), .val (.int .i64 a2), .sl (List.map enc5 a3)] (.tup [.agg (encBag81 r.1), .val (.int .i64 r.2)]) := by
  rw [f95] at h
  refine pc_of8 (N := 65) (rs := [.cell 8 82, .tmp 9]) Try.func95 rfl rfl rfl (Nat.le_of_ble_eq_true rfl) ?_
  refine AW.regL [1, 2, 3, 4, 8] ?_
  generalize hK : AW Try.prog _ _ _ = K
  simp only [go_sem, ↓reduceIte, reduceCtorEq, Nat.reduceAdd, Nat.reduceSub, Nat.reduceMul, Nat.reduceEqDiff, Nat.reduceLT, Nat.reduceLeDiff, Nat.reduceBEq, Int.reduceAdd, Int.reduceSub, Int.reduceLT, Int.reduceLE, Int.reduceEq, Int.reduceToNat]
  subst hK
  refine AW.seq ?_
  by_cases c5 : a1 < 0
  · rw [if_pos c5] at h
    refine AW.regL [1, 2, 3, 4, 8, 27] ?_
    generalize hK : AW Try.prog _ _ _ = K
    simp only [go_sem, ↓reduceIte, reduceCtorEq, Nat.reduceAdd, Nat.reduceSub, Nat.reduceMul, Nat.reduceEqDiff, Nat.reduceLT, Nat.reduceLeDiff, Nat.reduceBEq, Int.reduceAdd, Int.reduceSub, Int.reduceLT, Int.reduceLE, Int.reduceEq, Int.reduceToNat, eq_true c5]
    subst hK
    refine AW.ifBT rfl rfl ?_
    refine AW.regL [8, 9] ?_
    generalize hK : AW Try.prog _ _ _ = K
    simp only [go_sem, ↓reduceIte, reduceCtorEq, Nat.reduceAdd, Nat.reduceSub, Nat.reduceMul, Nat.reduceEqDiff, Nat.reduceLT, Nat.reduceLeDiff, Nat.reduceBEq, Int.reduceAdd, Int.reduceSub, Int.reduceLT, Int.reduceLE, Int.reduceEq, Int.reduceToNat, eq_true c5]
    subst hK
    refine AW.ret ?_
    refine thenA_r ?_
    obtain rfl := Option.some.inj h
    (simp only [go_sem, ↓reduceIte, reduceCtorEq, Nat.reduceAdd, Nat.reduceSub, Nat.reduceMul, Nat.reduceEqDiff, Nat.reduceLT, Nat.reduceLeDiff, Nat.reduceBEq, Int.reduceAdd, Int.reduceSub, Int.reduceLT, Int.reduceLE, Int.reduceEq, Int.reduceToNat, eq_true c5, finA, resA, resOf_1, resOf_2, sealV_val, sealV_sl, sealV_ip, sealV_agg, sealV_tup, sealV_own, sealL_nil, sealL_cons, sealV_clo, resOf_clo] <;> try simp)
  · rw [if_neg c5] at h
    by_cases c6 : a0.Nodes ≤ a1
    · rw [if_pos c6] at h
      refine AW.regL [1, 2, 3, 4, 8, 27] ?_
      generalize hK : AW Try.prog _ _ _ = K
      simp only [go_sem, ↓reduceIte, reduceCtorEq, Nat.reduceAdd, Nat.reduceSub, Nat.reduceMul, Nat.reduceEqDiff, Nat.reduceLT, Nat.reduceLeDiff, Nat.reduceBEq, Int.reduceAdd, Int.reduceSub, Int.reduceLT, Int.reduceLE, Int.reduceEq, Int.reduceToNat, eq_false c5, eq_true c6]
      subst hK
      refine AW.ifBT rfl rfl ?_
      refine AW.regL [8, 9] ?_
      generalize hK : AW Try.prog _ _ _ = K
      simp only [go_sem, ↓reduceIte, reduceCtorEq, Nat.reduceAdd, Nat.reduceSub, Nat.reduceMul, Nat.reduceEqDiff, Nat.reduceLT, Nat.reduceLeDiff, Nat.reduceBEq, Int.reduceAdd, Int.reduceSub, Int.reduceLT, Int.reduceLE, Int.reduceEq, Int.reduceToNat, eq_false c5, eq_true c6]
      subst hK
      refine AW.ret ?_
      refine thenA_r ?_
      obtain rfl := Option.some.inj h
      (simp only [go_sem, ↓reduceIte, reduceCtorEq, Nat.reduceAdd, Nat.reduceSub, Nat.reduceMul, Nat.reduceEqDiff, Nat.reduceLT, Nat.reduceLeDiff, Nat.reduceBEq, Int.reduceAdd, Int.reduceSub, Int.reduceLT, Int.reduceLE, Int.reduceEq, Int.reduceToNat, eq_false c5, eq_true c6, finA, resA, resOf_1, resOf_2, sealV_val, sealV_sl, sealV_ip, sealV_agg, sealV_tup, sealV_own, sealL_nil, sealL_cons, sealV_clo, resOf_clo] <;> try simp)
    · rw [if_neg c6] at h
      by_cases c7 : a2 < 0
      · rw [if_pos c7] at h
        refine AW.regL [1, 2, 3, 4, 8, 27] ?_
        generalize hK : AW Try.prog _ _ _ = K
        simp only [go_sem, ↓reduceIte, reduceCtorEq, Nat.reduceAdd, Nat.reduceSub, Nat.reduceMul, Nat.reduceEqDiff, Nat.reduceLT, Nat.reduceLeDiff, Nat.reduceBEq, Int.reduceAdd, Int.reduceSub, Int.reduceLT, Int.reduceLE, Int.reduceEq, Int.reduceToNat, eq_false c5, eq_false c6, eq_true c7]
        subst hK
        refine AW.ifBT rfl rfl ?_
        refine AW.regL [8, 9] ?_
        generalize hK : AW Try.prog _ _ _ = K
        simp only [go_sem, ↓reduceIte, reduceCtorEq, Nat.reduceAdd, Nat.reduceSub, Nat.reduceMul, Nat.reduceEqDiff, Nat.reduceLT, Nat.reduceLeDiff, Nat.reduceBEq, Int.reduceAdd, Int.reduceSub, Int.reduceLT, Int.reduceLE, Int.reduceEq, Int.reduceToNat, eq_false c5, eq_false c6, eq_true c7]
        subst hK
        refine AW.ret ?_
        refine thenA_r ?_
        obtain rfl := Option.some.inj h
        (simp only [go_sem, ↓reduceIte, reduceCtorEq, Nat.reduceAdd, Nat.reduceSub, Nat.reduceMul, Nat.reduceEqDiff, Nat.reduceLT, Nat.reduceLeDiff, Nat.reduceBEq, Int.reduceAdd, Int.reduceSub, Int.reduceLT, Int.reduceLE, Int.reduceEq, Int.reduceToNat, eq_false c5, eq_false c6, eq_true c7, finA, resA, resOf_1, resOf_2, sealV_val, sealV_sl, sealV_ip, sealV_agg, sealV_tup, sealV_own, sealL_nil, sealL_cons, sealV_clo, resOf_clo] <;> try simp)
      · rw [if_neg c7] at h
        refine AW.regL [1, 2, 3, 4, 8, 27] ?_
        generalize hK : AW Try.prog _ _ _ = K
        simp only [go_sem, ↓reduceIte, reduceCtorEq, Nat.reduceAdd, Nat.reduceSub, Nat.reduceMul, Nat.reduceEqDiff, Nat.reduceLT, Nat.reduceLeDiff, Nat.reduceBEq, Int.reduceAdd, Int.reduceSub, Int.reduceLT, Int.reduceLE, Int.reduceEq, Int.reduceToNat, eq_false c5, eq_false c6, eq_false c7]
        subst hK
        by_cases c8 : a0.Nodes ≤ a2
        · rw [if_pos c8] at h
          refine AW.ifT rfl c8 ?_
          refine AW.regL [8, 9] ?_
          generalize hK : AW Try.prog _ _ _ = K
          simp only [go_sem, ↓reduceIte, reduceCtorEq, Nat.reduceAdd, Nat.reduceSub, Nat.reduceMul, Nat.reduceEqDiff, Nat.reduceLT, Nat.reduceLeDiff, Nat.reduceBEq, Int.reduceAdd, Int.reduceSub, Int.reduceLT, Int.reduceLE, Int.reduceEq, Int.reduceToNat, eq_false c5, eq_false c6, eq_false c7, eq_true c8]
          subst hK
          refine AW.ret ?_
          refine thenA_r ?_
          obtain rfl := Option.some.inj h
          (simp only [go_sem, ↓reduceIte, reduceCtorEq, Nat.reduceAdd, Nat.reduceSub, Nat.reduceMul, Nat.reduceEqDiff, Nat.reduceLT, Nat.reduceLeDiff, Nat.reduceBEq, Int.reduceAdd, Int.reduceSub, Int.reduceLT, Int.reduceLE, Int.reduceEq, Int.reduceToNat, eq_false c5, eq_false c6, eq_false c7, eq_true c8, finA, resA, resOf_1, resOf_2, sealV_val, sealV_sl, sealV_ip, sealV_agg, sealV_tup, sealV_own, sealL_nil, sealL_cons, sealV_clo, resOf_clo] <;> try simp)
        · rw [if_neg c8] at h
          refine AW.ifF rfl c8 ?_
          refine AW.skip ?_
          refine thenA_n ?_
          refine AW.seq ?_
          obtain ⟨x11, hx11, h⟩ := Option.bind_eq_some_iff.1 h
          refine AW.regL [1, 2, 3, 4, 8, 32] ?_
          generalize hK : AW Try.prog _ _ _ = K
          simp only [go_sem, ↓reduceIte, reduceCtorEq, Nat.reduceAdd, Nat.reduceSub, Nat.reduceMul, Nat.reduceEqDiff, Nat.reduceLT, Nat.reduceLeDiff, Nat.reduceBEq, Int.reduceAdd, Int.reduceSub, Int.reduceLT, Int.reduceLE, Int.reduceEq, Int.reduceToNat, eq_false c5, eq_false c6, eq_false c7, eq_false c8, natOf_gd hx11, idx8 hx11, all8 (p := fun k => List.head? (List.drop (2 + k) ([.val (.int .i64 a0.Nodes), .val (.int .i64 a0.Most), .val (.bool a0.Down.e0), .val (.bool a0.Down.e1), .val (.bool a0.Down.e2), .val (.bool a0.Down.e3), .val (.bool a0.Down.e4), .val (.bool a0.Down.e5), .val (.bool a0.Down.e6), .val (.bool a0.Down.e7), .sl (List.map encMsg a0.L), .val (.int .i64 a0.N.e0), .val (.int .i64 a0.N.e1), .val (.int .i64 a0.N.e2)] : List AV)) = some (.val (.bool (A8.get a0.Down k)))) rfl rfl rfl rfl rfl rfl rfl rfl (idx8 hx11)]
          subst hK
          by_cases c12 : (A8.get a0.Down a1.toNat) = true
          · rw [if_pos c12] at h
            refine AW.ifBT rfl c12 ?_
            refine AW.regL [8, 9] ?_
            generalize hK : AW Try.prog _ _ _ = K
            simp only [go_sem, ↓reduceIte, reduceCtorEq, Nat.reduceAdd, Nat.reduceSub, Nat.reduceMul, Nat.reduceEqDiff, Nat.reduceLT, Nat.reduceLeDiff, Nat.reduceBEq, Int.reduceAdd, Int.reduceSub, Int.reduceLT, Int.reduceLE, Int.reduceEq, Int.reduceToNat, eq_false c5, eq_false c6, eq_false c7, eq_false c8, c12]
            subst hK
            refine AW.ret ?_
            refine thenA_r ?_
            obtain rfl := Option.some.inj h
            (simp only [go_sem, ↓reduceIte, reduceCtorEq, Nat.reduceAdd, Nat.reduceSub, Nat.reduceMul, Nat.reduceEqDiff, Nat.reduceLT, Nat.reduceLeDiff, Nat.reduceBEq, Int.reduceAdd, Int.reduceSub, Int.reduceLT, Int.reduceLE, Int.reduceEq, Int.reduceToNat, eq_false c5, eq_false c6, eq_false c7, eq_false c8, c12, finA, resA, resOf_1, resOf_2, sealV_val, sealV_sl, sealV_ip, sealV_agg, sealV_tup, sealV_own, sealL_nil, sealL_cons, sealV_clo, resOf_clo] <;> try simp)
          · rw [if_neg c12] at h
            rw [Bool.not_eq_true] at c12
            refine AW.ifBF rfl c12 ?_
            refine AW.skip ?_
            refine thenA_n ?_
            refine AW.seq ?_
            refine AW.regL [1, 2, 3, 4, 8, 39] ?_
            generalize hK : AW Try.prog _ _ _ = K
            simp only [go_sem, ↓reduceIte, reduceCtorEq, Nat.reduceAdd, Nat.reduceSub, Nat.reduceMul, Nat.reduceEqDiff, Nat.reduceLT, Nat.reduceLeDiff, Nat.reduceBEq, Int.reduceAdd, Int.reduceSub, Int.reduceLT, Int.reduceLE, Int.reduceEq, Int.reduceToNat, eq_false c5, eq_false c6, eq_false c7, eq_false c8, c12]
            subst hK
            by_cases c14 : a0.Most ≤ (a0.L.length : Int)
            · rw [if_pos c14] at h
              refine AW.ifT rfl c14 ?_
              refine AW.regL [4, 8] ?_
              generalize hK : AW Try.prog _ _ _ = K
              simp only [go_sem, ↓reduceIte, reduceCtorEq, Nat.reduceAdd, Nat.reduceSub, Nat.reduceMul, Nat.reduceEqDiff, Nat.reduceLT, Nat.reduceLeDiff, Nat.reduceBEq, Int.reduceAdd, Int.reduceSub, Int.reduceLT, Int.reduceLE, Int.reduceEq, Int.reduceToNat, eq_false c5, eq_false c6, eq_false c7, eq_false c8, c12, eq_true c14]
              subst hK
              refine AW.regL [8, 9] ?_
              generalize hK : AW Try.prog _ _ _ = K
              simp only [go_sem, ↓reduceIte, reduceCtorEq, Nat.reduceAdd, Nat.reduceSub, Nat.reduceMul, Nat.reduceEqDiff, Nat.reduceLT, Nat.reduceLeDiff, Nat.reduceBEq, Int.reduceAdd, Int.reduceSub, Int.reduceLT, Int.reduceLE, Int.reduceEq, Int.reduceToNat, eq_false c5, eq_false c6, eq_false c7, eq_false c8, c12, eq_true c14]
              subst hK
              refine AW.ret ?_
              refine thenA_r ?_
              obtain rfl := Option.some.inj h
              (simp only [go_sem, ↓reduceIte, reduceCtorEq, Nat.reduceAdd, Nat.reduceSub, Nat.reduceMul, Nat.reduceEqDiff, Nat.reduceLT, Nat.reduceLeDiff, Nat.reduceBEq, Int.reduceAdd, Int.reduceSub, Int.reduceLT, Int.reduceLE, Int.reduceEq, Int.reduceToNat, eq_false c5, eq_false c6, eq_false c7, eq_false c8, c12, eq_true c14, finA, resA, resOf_1, resOf_2, sealV_val, sealV_sl, sealV_ip, sealV_agg, sealV_tup, sealV_own, sealL_nil, sealL_cons, sealV_clo, resOf_clo] <;> try simp)
            · rw [if_neg c14] at h
              refine AW.ifF rfl c14 ?_
              refine AW.skip ?_
              refine thenA_n ?_
              obtain ⟨x15, hx15, h⟩ := Option.bind_eq_some_iff.1 h
              obtain ⟨hx15b, hx15e⟩ := appO?_some.1 hx15
              have hx15f : ∀ id o : Nat, appO 3 40 id (List.map encMsg a0.L) 0 0 o (some (.row 3 true (([] : List (List AV))))) = some ⟨.own id 0 x15.length, [(o, none), (id, some (.row 3 true (List.map encMsg x15)))]⟩ := fun id o => by
                subst hx15e; rw [appO_ok (by simp) (by simpa using hx15b) (by decide)]; first | (simp [encMsg]; done) | (simp [encMsg]; omega)
              obtain ⟨x16, hx16, h⟩ := Option.bind_eq_some_iff.1 h
              obtain ⟨hx16b, hx16e⟩ := appO?_some.1 hx16
              have hx16f : ∀ id o : Nat, appO 3 40 id ([[.val (.int .i64 a1), .val (.int .i64 a2), .sl (List.map enc5 a3)]]) 0 x15.length o (some (.row 3 true (List.map encMsg x15))) = some ⟨.own id 0 x16.length, [(o, none), (id, some (.row 3 true (List.map encMsg x16)))]⟩ := fun id o => by
                subst hx16e; rw [appO_ok (by simp) (by simpa using hx16b) (by decide)]; first | (simp [encMsg]; done) | (simp [encMsg]; omega)
              refine AW.regL [4, 8] ?_
              generalize hK : AW Try.prog _ _ _ = K
              simp only [go_sem, ↓reduceIte, reduceCtorEq, Nat.reduceAdd, Nat.reduceSub, Nat.reduceMul, Nat.reduceEqDiff, Nat.reduceLT, Nat.reduceLeDiff, Nat.reduceBEq, Int.reduceAdd, Int.reduceSub, Int.reduceLT, Int.reduceLE, Int.reduceEq, Int.reduceToNat, eq_false c5, eq_false c6, eq_false c7, eq_false c8, c12, eq_false c14, hx15f, hx16f]
              subst hK
              refine AW.regL [4, 8] ?_
              generalize hK : AW Try.prog _ _ _ = K
              simp only [go_sem, ↓reduceIte, reduceCtorEq, Nat.reduceAdd, Nat.reduceSub, Nat.reduceMul, Nat.reduceEqDiff, Nat.reduceLT, Nat.reduceLeDiff, Nat.reduceBEq, Int.reduceAdd, Int.reduceSub, Int.reduceLT, Int.reduceLE, Int.reduceEq, Int.reduceToNat, eq_false c5, eq_false c6, eq_false c7, eq_false c8, c12, eq_false c14]
              subst hK
              refine AW.regL [8, 9] ?_
              generalize hK : AW Try.prog _ _ _ = K
              simp only [go_sem, ↓reduceIte, reduceCtorEq, Nat.reduceAdd, Nat.reduceSub, Nat.reduceMul, Nat.reduceEqDiff, Nat.reduceLT, Nat.reduceLeDiff, Nat.reduceBEq, Int.reduceAdd, Int.reduceSub, Int.reduceLT, Int.reduceLE, Int.reduceEq, Int.reduceToNat, eq_false c5, eq_false c6, eq_false c7, eq_false c8, c12, eq_false c14]
              subst hK
              refine AW.ent (Ent.stillObj (pre := [.val (.int .i64 a0.Nodes), .val (.int .i64 a0.Most), .val (.bool a0.Down.e0), .val (.bool a0.Down.e1), .val (.bool a0.Down.e2), .val (.bool a0.Down.e3), .val (.bool a0.Down.e4), .val (.bool a0.Down.e5), .val (.bool a0.Down.e6), .val (.bool a0.Down.e7)]) (post := [.val (.int .i64 (IntKind.i64.wrap (a0.N.e0 + 1))), .val (.int .i64 a0.N.e1), .val (.int .i64 a0.N.e2)]) (q := 328) (off := 0) (len := x16.length) 16 rfl (own_sl (sz := 3) (m := true) rfl (by first | rfl | simp [bytesI_len]) (by simp only [go_sem])) (by decide)) ?_
              refine AW.ret ?_
              obtain rfl := Option.some.inj h
              (simp only [go_sem, ↓reduceIte, reduceCtorEq, Nat.reduceAdd, Nat.reduceSub, Nat.reduceMul, Nat.reduceEqDiff, Nat.reduceLT, Nat.reduceLeDiff, Nat.reduceBEq, Int.reduceAdd, Int.reduceSub, Int.reduceLT, Int.reduceLE, Int.reduceEq, Int.reduceToNat, eq_false c5, eq_false c6, eq_false c7, eq_false c8, c12, eq_false c14, finA, resA, resOf_1, resOf_2, sealV_val, sealV_sl, sealV_ip, sealV_agg, sealV_tup, sealV_own, sealL_nil, sealL_cons, sealV_clo, resOf_clo] <;> try simp)
end Au
end Go.Proofs.Y1

set_option linter.all false
set_option maxRecDepth 8000
set_option maxHeartbeats 1000000
namespace Go.Proofs.Y1
open Go.Gm
namespace Au
noncomputable def f127 (a0 : Bag81) (a1 : Int) : Option Bag81 := ((cutO? a0.L 0 a1).bind fun x1 => ((appO? ([] : List Msg) x1).bind fun x2 => ((cutO? a0.L (IntKind.i64.wrap (a1 + 1)) (a0.L.length : Int)).bind fun x3 => ((appO? x2 x3).bind fun x4 => some ⟨a0.Nodes, a0.Most, a0.Down, x4, a0.N⟩))))
theorem ok127 (a0 : Bag81) (a1 : Int) (r : Bag81) (h : f127 a0 a1 = some r) : PC Try.prog 127 [.agg (encBag81 a0), .val (.int .i64 a1)] (.agg (encBag81 r)) := by
  rw [f127] at h
  refine pc_of8 (N := 19) (rs := [.cell 4 82]) Try.func127 rfl rfl rfl (Nat.le_of_ble_eq_true rfl) ?_
  refine AW.regL [1, 2, 4] ?_
  generalize hK : AW Try.prog _ _ _ = K
  simp only [go_sem, ↓reduceIte, reduceCtorEq, Nat.reduceAdd, Nat.reduceSub, Nat.reduceMul, Nat.reduceEqDiff, Nat.reduceLT, Nat.reduceLeDiff, Nat.reduceBEq, Int.reduceAdd, Int.reduceSub, Int.reduceLT, Int.reduceLE, Int.reduceEq, Int.reduceToNat]
  subst hK
  obtain ⟨x1, hx1, h⟩ := Option.bind_eq_some_iff.1 h
  obtain ⟨x2, hx2, h⟩ := Option.bind_eq_some_iff.1 h
  obtain ⟨hx2b, hx2e⟩ := appO?_some.1 hx2
  have hx2f : ∀ id o : Nat, appO 3 40 id (List.map encMsg x1) 0 0 o (some (.row 3 true (([] : List (List AV))))) = some ⟨.own id 0 x2.length, [(o, none), (id, some (.row 3 true (List.map encMsg x2)))]⟩ := fun id o => by
    subst hx2e; rw [appO_ok (by simp) (by simpa using hx2b) (by decide)]; first | (simp [encMsg]; done) | (simp [encMsg]; omega)
  obtain ⟨x3, hx3, h⟩ := Option.bind_eq_some_iff.1 h
  obtain ⟨x4, hx4, h⟩ := Option.bind_eq_some_iff.1 h
  obtain ⟨hx4b, hx4e⟩ := appO?_some.1 hx4
  have hx4f : ∀ id o : Nat, appO 3 40 id (List.map encMsg x3) 0 x2.length o (some (.row 3 true (List.map encMsg x2))) = some ⟨.own id 0 x4.length, [(o, none), (id, some (.row 3 true (List.map encMsg x4)))]⟩ := fun id o => by
    subst hx4e; rw [appO_ok (by simp) (by simpa using hx4b) (by decide)]; first | (simp [encMsg]; done) | (simp [encMsg]; omega)
  refine AW.regdL [2, 4] [[], [], [1], [], [1, 2, 3], [0, 1, 2, 3, 4], [], [6], [], [8], [6, 7, 8, 9], [0, 1, 2, 3, 4, 5, 6, 7, 8, 9, 10], [0, 1, 2, 3, 4, 5, 6, 7, 8, 9, 10, 11], [0, 1, 2, 3, 4, 5, 6, 7, 8, 9, 10, 11, 12]] [0, 1, 2, 3, 4, 5, 6, 7, 8, 9, 10, 11, 12, 13] noFt (fun _ _ _ h => by simp [noFt] at h) draws (by kernel_rfl) (by kernel_rfl) ?_
  generalize hK : AW Try.prog _ _ _ = K
  simp only [go_sem, ↓reduceIte, reduceCtorEq, Nat.reduceAdd, Nat.reduceSub, Nat.reduceMul, Nat.reduceEqDiff, Nat.reduceLT, Nat.reduceLeDiff, Nat.reduceBEq, Int.reduceAdd, Int.reduceSub, Int.reduceLT, Int.reduceLE, Int.reduceEq, Int.reduceToNat, cut_ns el60 sz64 (ml_encMsg _) hx1, hx2f, cut_sn el60 sz64 (ml_encMsg _) hx3, hx4f]
  subst hK
  refine AW.regL [4] ?_
  generalize hK : AW Try.prog _ _ _ = K
  simp only [go_sem, ↓reduceIte, reduceCtorEq, Nat.reduceAdd, Nat.reduceSub, Nat.reduceMul, Nat.reduceEqDiff, Nat.reduceLT, Nat.reduceLeDiff, Nat.reduceBEq, Int.reduceAdd, Int.reduceSub, Int.reduceLT, Int.reduceLE, Int.reduceEq, Int.reduceToNat]
  subst hK
  refine AW.ent (Ent.stillObj (pre := [.val (.int .i64 a0.Nodes), .val (.int .i64 a0.Most), .val (.bool a0.Down.e0), .val (.bool a0.Down.e1), .val (.bool a0.Down.e2), .val (.bool a0.Down.e3), .val (.bool a0.Down.e4), .val (.bool a0.Down.e5), .val (.bool a0.Down.e6), .val (.bool a0.Down.e7)]) (post := [.val (.int .i64 a0.N.e0), .val (.int .i64 a0.N.e1), .val (.int .i64 a0.N.e2)]) (q := 112) (off := 0) (len := x4.length) 16 rfl (own_sl (sz := 3) (m := true) rfl (by first | rfl | simp [bytesI_len]) (by simp only [go_sem])) (by decide)) ?_
  refine AW.ret ?_
  obtain rfl := Option.some.inj h
  (simp only [go_sem, ↓reduceIte, reduceCtorEq, Nat.reduceAdd, Nat.reduceSub, Nat.reduceMul, Nat.reduceEqDiff, Nat.reduceLT, Nat.reduceLeDiff, Nat.reduceBEq, Int.reduceAdd, Int.reduceSub, Int.reduceLT, Int.reduceLE, Int.reduceEq, Int.reduceToNat, finA, resA, resOf_1, resOf_2, sealV_val, sealV_sl, sealV_ip, sealV_agg, sealV_tup, sealV_own, sealL_nil, sealL_cons, sealV_clo, resOf_clo] <;> try simp)
end Au
end Go.Proofs.Y1

set_option linter.all false
set_option maxRecDepth 8000
set_option maxHeartbeats 1000000
namespace Go.Proofs.Y1
open Go.Gm
namespace Au
noncomputable def f96 (a0 : Bag81) (a1 : Int) (a2 : Int) (a3 : Int) : Option (Bag81 × Msg × Bool) := (if a2 < 0 then some (a0, ⟨0, 0, []⟩, false) else (if (a0.L.length : Int) ≤ a2 then some (a0, ⟨0, 0, []⟩, false) else ((ix a0.L a2).bind fun x5 => (if a1 = 0 then ((f127 a0 a2).bind fun x20 => ((guardO (0 ≤ x5.To ∧ x5.To < 8)).bind fun x23 => (if (A8.get x20.Down x5.To.toNat) = true then some (⟨x20.Nodes, x20.Most, x20.Down, x20.L, ⟨x20.N.e0, x20.N.e1, IntKind.i64.wrap (x20.N.e2 + 1)⟩⟩, ⟨0, 0, []⟩, false) else some (⟨x20.Nodes, x20.Most, x20.Down, x20.L, ⟨x20.N.e0, IntKind.i64.wrap (x20.N.e1 + 1), x20.N.e2⟩⟩, x5, true)))) else (if a1 = 1 then ((f127 a0 a2).bind fun x26 => some (⟨x26.Nodes, x26.Most, x26.Down, x26.L, ⟨x26.N.e0, x26.N.e1, IntKind.i64.wrap (x26.N.e2 + 1)⟩⟩, ⟨0, 0, []⟩, true)) else (if a1 = 2 then (if a0.Most ≤ (a0.L.length : Int) then some (a0, ⟨0, 0, []⟩, false) else ((appO? ([] : List Msg) a0.L).bind fun x30 => ((appO? x30 [x5]).bind fun x31 => some (⟨a0.Nodes, a0.Most, a0.Down, x31, ⟨IntKind.i64.wrap (a0.N.e0 + 1), a0.N.e1, a0.N.e2⟩⟩, ⟨0, 0, []⟩, true)))) else (if a3 < 0 then some (a0, ⟨0, 0, []⟩, false) else (if (a0.L.length : Int) ≤ a3 then some (a0, ⟨0, 0, []⟩, false) else ((f127 a0 a2).bind fun x36 => ((cutO? x36.L 0 a3).bind fun x37 => ((appO? ([] : List Msg) x37).bind fun x38 => ((appO? x38 [x5]).bind fun x39 => ((cutO? x36.L a3 (x36.L.length : Int)).bind fun x40 => ((appO? x39 x40).bind fun x41 => some (⟨x36.Nodes, x36.Most, x36.Down, x41, x36.N⟩, ⟨0, 0, []⟩, true)))))))))))))))
theorem ok96 (a0 : Bag81) (a1 : Int) (a2 : Int) (a3 : Int) (r : Bag81 × Msg × Bool) (h : f96 a0 a1 a2 a3 = some r) : PC Try.prog 96 [.agg (encBag81 a0), .val (.int .i64 a1), .val (.int .i64 a2), .val (.int .i64 a3)] (.tup [.agg (encBag81 r.1), .agg (encMsg r.2.1), .val (.bool r.2.2)]) := by
  rw [f96] at h
  refine pc_of8 (N := 128) (rs := [.cell 8 82, .cell 9 64, .tmp 10]) Try.func96 rfl rfl rfl (Nat.le_of_ble_eq_true rfl) ?_
  refine AW.regL [1, 2, 3, 4, 8, 9] ?_
  generalize hK : AW Try.prog _ _ _ = K
  simp only [go_sem, ↓reduceIte, reduceCtorEq, Nat.reduceAdd, Nat.reduceSub, Nat.reduceMul, Nat.reduceEqDiff, Nat.reduceLT, Nat.reduceLeDiff, Nat.reduceBEq, Int.reduceAdd, Int.reduceSub, Int.reduceLT, Int.reduceLE, Int.reduceEq, Int.reduceToNat]
  subst hK
  refine AW.seq ?_
  by_cases c3 : a2 < 0
  · rw [if_pos c3] at h
    refine AW.regL [1, 2, 3, 4, 8, 9, 21] ?_
    generalize hK : AW Try.prog _ _ _ = K
    simp only [go_sem, ↓reduceIte, reduceCtorEq, Nat.reduceAdd, Nat.reduceSub, Nat.reduceMul, Nat.reduceEqDiff, Nat.reduceLT, Nat.reduceLeDiff, Nat.reduceBEq, Int.reduceAdd, Int.reduceSub, Int.reduceLT, Int.reduceLE, Int.reduceEq, Int.reduceToNat, eq_true c3]
    subst hK
    refine AW.ifBT rfl rfl ?_
    refine AW.regL [8, 9, 10] ?_
    generalize hK : AW Try.prog _ _ _ = K
    simp only [go_sem, ↓reduceIte, reduceCtorEq, Nat.reduceAdd, Nat.reduceSub, Nat.reduceMul, Nat.reduceEqDiff, Nat.reduceLT, Nat.reduceLeDiff, Nat.reduceBEq, Int.reduceAdd, Int.reduceSub, Int.reduceLT, Int.reduceLE, Int.reduceEq, Int.reduceToNat, eq_true c3]
    subst hK
    refine AW.ent (Ent.weakObj 24 rfl rfl (.cons (.of rfl) (.cons (.of rfl) (.cons Weak.nil WeakL.nil)))) ?_
    refine AW.ret ?_
    refine thenA_r ?_
    obtain rfl := Option.some.inj h
    (simp only [go_sem, ↓reduceIte, reduceCtorEq, Nat.reduceAdd, Nat.reduceSub, Nat.reduceMul, Nat.reduceEqDiff, Nat.reduceLT, Nat.reduceLeDiff, Nat.reduceBEq, Int.reduceAdd, Int.reduceSub, Int.reduceLT, Int.reduceLE, Int.reduceEq, Int.reduceToNat, eq_true c3, finA, resA, resOf_1, resOf_2, sealV_val, sealV_sl, sealV_ip, sealV_agg, sealV_tup, sealV_own, sealL_nil, sealL_cons, sealV_clo, resOf_clo] <;> try simp)
  · rw [if_neg c3] at h
    refine AW.regL [1, 2, 3, 4, 8, 9, 21] ?_
    generalize hK : AW Try.prog _ _ _ = K
    simp only [go_sem, ↓reduceIte, reduceCtorEq, Nat.reduceAdd, Nat.reduceSub, Nat.reduceMul, Nat.reduceEqDiff, Nat.reduceLT, Nat.reduceLeDiff, Nat.reduceBEq, Int.reduceAdd, Int.reduceSub, Int.reduceLT, Int.reduceLE, Int.reduceEq, Int.reduceToNat, eq_false c3]
    subst hK
    by_cases c4 : (a0.L.length : Int) ≤ a2
    · rw [if_pos c4] at h
      refine AW.ifT rfl c4 ?_
      refine AW.regL [8, 9, 10] ?_
      generalize hK : AW Try.prog _ _ _ = K
      simp only [go_sem, ↓reduceIte, reduceCtorEq, Nat.reduceAdd, Nat.reduceSub, Nat.reduceMul, Nat.reduceEqDiff, Nat.reduceLT, Nat.reduceLeDiff, Nat.reduceBEq, Int.reduceAdd, Int.reduceSub, Int.reduceLT, Int.reduceLE, Int.reduceEq, Int.reduceToNat, eq_false c3, eq_true c4]
      subst hK
      refine AW.ent (Ent.weakObj 24 rfl rfl (.cons (.of rfl) (.cons (.of rfl) (.cons Weak.nil WeakL.nil)))) ?_
      refine AW.ret ?_
      refine thenA_r ?_
      obtain rfl := Option.some.inj h
      (simp only [go_sem, ↓reduceIte, reduceCtorEq, Nat.reduceAdd, Nat.reduceSub, Nat.reduceMul, Nat.reduceEqDiff, Nat.reduceLT, Nat.reduceLeDiff, Nat.reduceBEq, Int.reduceAdd, Int.reduceSub, Int.reduceLT, Int.reduceLE, Int.reduceEq, Int.reduceToNat, eq_false c3, eq_true c4, finA, resA, resOf_1, resOf_2, sealV_val, sealV_sl, sealV_ip, sealV_agg, sealV_tup, sealV_own, sealL_nil, sealL_cons, sealV_clo, resOf_clo] <;> try simp)
    · rw [if_neg c4] at h
      refine AW.ifF rfl c4 ?_
      refine AW.skip ?_
      refine thenA_n ?_
      obtain ⟨x5, hx5, h⟩ := Option.bind_eq_some_iff.1 h
      obtain ⟨hx5a, hx5b⟩ := ix_some.1 hx5
      refine AW.regL [1, 2, 3, 4, 8, 9, 11] ?_
      generalize hK : AW Try.prog _ _ _ = K
      simp only [go_sem, ↓reduceIte, reduceCtorEq, Nat.reduceAdd, Nat.reduceSub, Nat.reduceMul, Nat.reduceEqDiff, Nat.reduceLT, Nat.reduceLeDiff, Nat.reduceBEq, Int.reduceAdd, Int.reduceSub, Int.reduceLT, Int.reduceLE, Int.reduceEq, Int.reduceToNat, eq_false c3, eq_false c4, natOf_le hx5a, hx5b]
      subst hK
      refine AW.seq ?_
      refine AW.regL [2, 3, 4, 8, 9, 11, 29] ?_
      generalize hK : AW Try.prog _ _ _ = K
      simp only [go_sem, ↓reduceIte, reduceCtorEq, Nat.reduceAdd, Nat.reduceSub, Nat.reduceMul, Nat.reduceEqDiff, Nat.reduceLT, Nat.reduceLeDiff, Nat.reduceBEq, Int.reduceAdd, Int.reduceSub, Int.reduceLT, Int.reduceLE, Int.reduceEq, Int.reduceToNat, eq_false c3, eq_false c4]
      subst hK
      refine AW.block ?_
      refine AW.regL [2, 3, 4, 8, 9, 11, 29, 30] ?_
      generalize hK : AW Try.prog _ _ _ = K
      simp only [go_sem, ↓reduceIte, reduceCtorEq, Nat.reduceAdd, Nat.reduceSub, Nat.reduceMul, Nat.reduceEqDiff, Nat.reduceLT, Nat.reduceLeDiff, Nat.reduceBEq, Int.reduceAdd, Int.reduceSub, Int.reduceLT, Int.reduceLE, Int.reduceEq, Int.reduceToNat, eq_false c3, eq_false c4]
      subst hK
      by_cases c19 : a1 = 0
      · rw [if_pos c19] at h
        refine AW.ifT rfl c19 ?_
        obtain ⟨x20, hx20, h⟩ := Option.bind_eq_some_iff.1 h
        refine AW.regL [4, 8, 9, 11] ?_
        generalize hK : AW Try.prog _ _ _ = K
        simp only [go_sem, ↓reduceIte, reduceCtorEq, Nat.reduceAdd, Nat.reduceSub, Nat.reduceMul, Nat.reduceEqDiff, Nat.reduceLT, Nat.reduceLeDiff, Nat.reduceBEq, Int.reduceAdd, Int.reduceSub, Int.reduceLT, Int.reduceLE, Int.reduceEq, Int.reduceToNat, eq_false c3, eq_false c4, eq_true c19]
        refine arC.of (ok127 a0 a2 x20 hx20) Try.call127 ?_
        simp only [go_sem, ↓reduceIte, reduceCtorEq, Nat.reduceAdd, Nat.reduceSub, Nat.reduceMul, Nat.reduceEqDiff, Nat.reduceLT, Nat.reduceLeDiff, Nat.reduceBEq, Int.reduceAdd, Int.reduceSub, Int.reduceLT, Int.reduceLE, Int.reduceEq, Int.reduceToNat, eq_false c3, eq_false c4, eq_true c19]
        subst hK
        refine AW.seq ?_
        obtain ⟨x23, hx23, h⟩ := Option.bind_eq_some_iff.1 h
        refine AW.regL [4, 8, 9, 11, 39] ?_
        generalize hK : AW Try.prog _ _ _ = K
        simp only [go_sem, ↓reduceIte, reduceCtorEq, Nat.reduceAdd, Nat.reduceSub, Nat.reduceMul, Nat.reduceEqDiff, Nat.reduceLT, Nat.reduceLeDiff, Nat.reduceBEq, Int.reduceAdd, Int.reduceSub, Int.reduceLT, Int.reduceLE, Int.reduceEq, Int.reduceToNat, eq_false c3, eq_false c4, eq_true c19, natOf_gd hx23, idx8 hx23, all8 (p := fun k => List.head? (List.drop (2 + k) ([.val (.int .i64 x20.Nodes), .val (.int .i64 x20.Most), .val (.bool x20.Down.e0), .val (.bool x20.Down.e1), .val (.bool x20.Down.e2), .val (.bool x20.Down.e3), .val (.bool x20.Down.e4), .val (.bool x20.Down.e5), .val (.bool x20.Down.e6), .val (.bool x20.Down.e7), .sl (List.map encMsg x20.L), .val (.int .i64 x20.N.e0), .val (.int .i64 x20.N.e1), .val (.int .i64 x20.N.e2)] : List AV)) = some (.val (.bool (A8.get x20.Down k)))) rfl rfl rfl rfl rfl rfl rfl rfl (idx8 hx23)]
        subst hK
        by_cases c24 : (A8.get x20.Down x5.To.toNat) = true
        · rw [if_pos c24] at h
          refine AW.ifBT rfl c24 ?_
          refine AW.regL [4, 8, 9] ?_
          generalize hK : AW Try.prog _ _ _ = K
          simp only [go_sem, ↓reduceIte, reduceCtorEq, Nat.reduceAdd, Nat.reduceSub, Nat.reduceMul, Nat.reduceEqDiff, Nat.reduceLT, Nat.reduceLeDiff, Nat.reduceBEq, Int.reduceAdd, Int.reduceSub, Int.reduceLT, Int.reduceLE, Int.reduceEq, Int.reduceToNat, eq_false c3, eq_false c4, eq_true c19, c24]
          subst hK
          refine AW.regL [8, 9, 10] ?_
          generalize hK : AW Try.prog _ _ _ = K
          simp only [go_sem, ↓reduceIte, reduceCtorEq, Nat.reduceAdd, Nat.reduceSub, Nat.reduceMul, Nat.reduceEqDiff, Nat.reduceLT, Nat.reduceLeDiff, Nat.reduceBEq, Int.reduceAdd, Int.reduceSub, Int.reduceLT, Int.reduceLE, Int.reduceEq, Int.reduceToNat, eq_false c3, eq_false c4, eq_true c19, c24]
          subst hK
          refine AW.ent (Ent.weakObj 24 rfl rfl (.cons (.of rfl) (.cons (.of rfl) (.cons Weak.nil WeakL.nil)))) ?_
          refine AW.ret ?_
          refine thenA_r ?_
          refine block_r ?_
          refine thenA_r ?_
          obtain rfl := Option.some.inj h
          (simp only [go_sem, ↓reduceIte, reduceCtorEq, Nat.reduceAdd, Nat.reduceSub, Nat.reduceMul, Nat.reduceEqDiff, Nat.reduceLT, Nat.reduceLeDiff, Nat.reduceBEq, Int.reduceAdd, Int.reduceSub, Int.reduceLT, Int.reduceLE, Int.reduceEq, Int.reduceToNat, eq_false c3, eq_false c4, eq_true c19, c24, finA, resA, resOf_1, resOf_2, sealV_val, sealV_sl, sealV_ip, sealV_agg, sealV_tup, sealV_own, sealL_nil, sealL_cons, sealV_clo, resOf_clo] <;> try simp)
        · rw [if_neg c24] at h
          rw [Bool.not_eq_true] at c24
          refine AW.ifBF rfl c24 ?_
          refine AW.skip ?_
          refine thenA_n ?_
          refine AW.regL [4, 8, 9, 11] ?_
          generalize hK : AW Try.prog _ _ _ = K
          simp only [go_sem, ↓reduceIte, reduceCtorEq, Nat.reduceAdd, Nat.reduceSub, Nat.reduceMul, Nat.reduceEqDiff, Nat.reduceLT, Nat.reduceLeDiff, Nat.reduceBEq, Int.reduceAdd, Int.reduceSub, Int.reduceLT, Int.reduceLE, Int.reduceEq, Int.reduceToNat, eq_false c3, eq_false c4, eq_true c19, c24]
          subst hK
          refine AW.regdL [8, 9, 10] [[], [], [0], [0, 1, 2], [0, 1, 2, 3]] [0, 1, 2, 3, 4] noFt (fun _ _ _ h => by simp [noFt] at h) draws (by kernel_rfl) (by kernel_rfl) ?_
          generalize hK : AW Try.prog _ _ _ = K
          simp only [go_sem, ↓reduceIte, reduceCtorEq, Nat.reduceAdd, Nat.reduceSub, Nat.reduceMul, Nat.reduceEqDiff, Nat.reduceLT, Nat.reduceLeDiff, Nat.reduceBEq, Int.reduceAdd, Int.reduceSub, Int.reduceLT, Int.reduceLE, Int.reduceEq, Int.reduceToNat, eq_false c3, eq_false c4, eq_true c19, c24]
          subst hK
          refine AW.ret ?_
          refine block_r ?_
          refine thenA_r ?_
          obtain rfl := Option.some.inj h
          (simp only [go_sem, ↓reduceIte, reduceCtorEq, Nat.reduceAdd, Nat.reduceSub, Nat.reduceMul, Nat.reduceEqDiff, Nat.reduceLT, Nat.reduceLeDiff, Nat.reduceBEq, Int.reduceAdd, Int.reduceSub, Int.reduceLT, Int.reduceLE, Int.reduceEq, Int.reduceToNat, eq_false c3, eq_false c4, eq_true c19, c24, finA, resA, resOf_1, resOf_2, sealV_val, sealV_sl, sealV_ip, sealV_agg, sealV_tup, sealV_own, sealL_nil, sealL_cons, sealV_clo, resOf_clo] <;> try simp)
      · rw [if_neg c19] at h
        refine AW.ifF rfl c19 ?_
        refine AW.regL [2, 3, 4, 8, 9, 11, 29, 56] ?_
        generalize hK : AW Try.prog _ _ _ = K
        simp only [go_sem, ↓reduceIte, reduceCtorEq, Nat.reduceAdd, Nat.reduceSub, Nat.reduceMul, Nat.reduceEqDiff, Nat.reduceLT, Nat.reduceLeDiff, Nat.reduceBEq, Int.reduceAdd, Int.reduceSub, Int.reduceLT, Int.reduceLE, Int.reduceEq, Int.reduceToNat, eq_false c3, eq_false c4, eq_false c19]
        subst hK
        by_cases c25 : a1 = 1
        · rw [if_pos c25] at h
          refine AW.ifT rfl c25 ?_
          obtain ⟨x26, hx26, h⟩ := Option.bind_eq_some_iff.1 h
          refine AW.regL [4, 8, 9] ?_
          generalize hK : AW Try.prog _ _ _ = K
          simp only [go_sem, ↓reduceIte, reduceCtorEq, Nat.reduceAdd, Nat.reduceSub, Nat.reduceMul, Nat.reduceEqDiff, Nat.reduceLT, Nat.reduceLeDiff, Nat.reduceBEq, Int.reduceAdd, Int.reduceSub, Int.reduceLT, Int.reduceLE, Int.reduceEq, Int.reduceToNat, eq_false c3, eq_false c4, eq_false c19, eq_true c25]
          refine arC.of (ok127 a0 a2 x26 hx26) Try.call127 ?_
          simp only [go_sem, ↓reduceIte, reduceCtorEq, Nat.reduceAdd, Nat.reduceSub, Nat.reduceMul, Nat.reduceEqDiff, Nat.reduceLT, Nat.reduceLeDiff, Nat.reduceBEq, Int.reduceAdd, Int.reduceSub, Int.reduceLT, Int.reduceLE, Int.reduceEq, Int.reduceToNat, eq_false c3, eq_false c4, eq_false c19, eq_true c25]
          subst hK
          refine AW.regL [4, 8, 9] ?_
          generalize hK : AW Try.prog _ _ _ = K
          simp only [go_sem, ↓reduceIte, reduceCtorEq, Nat.reduceAdd, Nat.reduceSub, Nat.reduceMul, Nat.reduceEqDiff, Nat.reduceLT, Nat.reduceLeDiff, Nat.reduceBEq, Int.reduceAdd, Int.reduceSub, Int.reduceLT, Int.reduceLE, Int.reduceEq, Int.reduceToNat, eq_false c3, eq_false c4, eq_false c19, eq_true c25]
          subst hK
          refine AW.regL [8, 9, 10] ?_
          generalize hK : AW Try.prog _ _ _ = K
          simp only [go_sem, ↓reduceIte, reduceCtorEq, Nat.reduceAdd, Nat.reduceSub, Nat.reduceMul, Nat.reduceEqDiff, Nat.reduceLT, Nat.reduceLeDiff, Nat.reduceBEq, Int.reduceAdd, Int.reduceSub, Int.reduceLT, Int.reduceLE, Int.reduceEq, Int.reduceToNat, eq_false c3, eq_false c4, eq_false c19, eq_true c25]
          subst hK
          refine AW.ent (Ent.weakObj 24 rfl rfl (.cons (.of rfl) (.cons (.of rfl) (.cons Weak.nil WeakL.nil)))) ?_
          refine AW.ret ?_
          refine block_r ?_
          refine thenA_r ?_
          obtain rfl := Option.some.inj h
          (simp only [go_sem, ↓reduceIte, reduceCtorEq, Nat.reduceAdd, Nat.reduceSub, Nat.reduceMul, Nat.reduceEqDiff, Nat.reduceLT, Nat.reduceLeDiff, Nat.reduceBEq, Int.reduceAdd, Int.reduceSub, Int.reduceLT, Int.reduceLE, Int.reduceEq, Int.reduceToNat, eq_false c3, eq_false c4, eq_false c19, eq_true c25, finA, resA, resOf_1, resOf_2, sealV_val, sealV_sl, sealV_ip, sealV_agg, sealV_tup, sealV_own, sealL_nil, sealL_cons, sealV_clo, resOf_clo] <;> try simp)
        · rw [if_neg c25] at h
          refine AW.ifF rfl c25 ?_
          refine AW.regL [2, 3, 4, 8, 9, 11, 69] ?_
          generalize hK : AW Try.prog _ _ _ = K
          simp only [go_sem, ↓reduceIte, reduceCtorEq, Nat.reduceAdd, Nat.reduceSub, Nat.reduceMul, Nat.reduceEqDiff, Nat.reduceLT, Nat.reduceLeDiff, Nat.reduceBEq, Int.reduceAdd, Int.reduceSub, Int.reduceLT, Int.reduceLE, Int.reduceEq, Int.reduceToNat, eq_false c3, eq_false c4, eq_false c19, eq_false c25]
          subst hK
          by_cases c27 : a1 = 2
          · rw [if_pos c27] at h
            refine AW.ifT rfl c27 ?_
            refine AW.seq ?_
            refine AW.regL [4, 8, 9, 11, 76] ?_
            generalize hK : AW Try.prog _ _ _ = K
            simp only [go_sem, ↓reduceIte, reduceCtorEq, Nat.reduceAdd, Nat.reduceSub, Nat.reduceMul, Nat.reduceEqDiff, Nat.reduceLT, Nat.reduceLeDiff, Nat.reduceBEq, Int.reduceAdd, Int.reduceSub, Int.reduceLT, Int.reduceLE, Int.reduceEq, Int.reduceToNat, eq_false c3, eq_false c4, eq_false c19, eq_false c25, eq_true c27]
            subst hK
            by_cases c29 : a0.Most ≤ (a0.L.length : Int)
            · rw [if_pos c29] at h
              refine AW.ifT rfl c29 ?_
              refine AW.regL [8, 9, 10] ?_
              generalize hK : AW Try.prog _ _ _ = K
              simp only [go_sem, ↓reduceIte, reduceCtorEq, Nat.reduceAdd, Nat.reduceSub, Nat.reduceMul, Nat.reduceEqDiff, Nat.reduceLT, Nat.reduceLeDiff, Nat.reduceBEq, Int.reduceAdd, Int.reduceSub, Int.reduceLT, Int.reduceLE, Int.reduceEq, Int.reduceToNat, eq_false c3, eq_false c4, eq_false c19, eq_false c25, eq_true c27, eq_true c29]
              subst hK
              refine AW.ent (Ent.weakObj 24 rfl rfl (.cons (.of rfl) (.cons (.of rfl) (.cons Weak.nil WeakL.nil)))) ?_
              refine AW.ret ?_
              refine thenA_r ?_
              refine block_r ?_
              refine thenA_r ?_
              obtain rfl := Option.some.inj h
              (simp only [go_sem, ↓reduceIte, reduceCtorEq, Nat.reduceAdd, Nat.reduceSub, Nat.reduceMul, Nat.reduceEqDiff, Nat.reduceLT, Nat.reduceLeDiff, Nat.reduceBEq, Int.reduceAdd, Int.reduceSub, Int.reduceLT, Int.reduceLE, Int.reduceEq, Int.reduceToNat, eq_false c3, eq_false c4, eq_false c19, eq_false c25, eq_true c27, eq_true c29, finA, resA, resOf_1, resOf_2, sealV_val, sealV_sl, sealV_ip, sealV_agg, sealV_tup, sealV_own, sealL_nil, sealL_cons, sealV_clo, resOf_clo] <;> try simp)
            · rw [if_neg c29] at h
              refine AW.ifF rfl c29 ?_
              refine AW.skip ?_
              refine thenA_n ?_
              obtain ⟨x30, hx30, h⟩ := Option.bind_eq_some_iff.1 h
              obtain ⟨hx30b, hx30e⟩ := appO?_some.1 hx30
              have hx30f : ∀ id o : Nat, appO 3 40 id (List.map encMsg a0.L) 0 0 o (some (.row 3 true (([] : List (List AV))))) = some ⟨.own id 0 x30.length, [(o, none), (id, some (.row 3 true (List.map encMsg x30)))]⟩ := fun id o => by
                subst hx30e; rw [appO_ok (by simp) (by simpa using hx30b) (by decide)]; first | (simp [encMsg]; done) | (simp [encMsg]; omega)
              obtain ⟨x31, hx31, h⟩ := Option.bind_eq_some_iff.1 h
              obtain ⟨hx31b, hx31e⟩ := appO?_some.1 hx31
              have hx31f : ∀ id o : Nat, appO 3 40 id ([[.val (.int .i64 x5.From), .val (.int .i64 x5.To), .sl (List.map enc5 x5.Data)]]) 0 x30.length o (some (.row 3 true (List.map encMsg x30))) = some ⟨.own id 0 x31.length, [(o, none), (id, some (.row 3 true (List.map encMsg x31)))]⟩ := fun id o => by
                subst hx31e; rw [appO_ok (by simp) (by simpa using hx31b) (by decide)]; first | (simp [encMsg]; done) | (simp [encMsg]; omega)
              refine AW.regdL [4, 8, 9] [[], [], [1], [0, 1, 2], [], [4], [0, 1, 2, 3, 4, 5], [0, 1, 2, 3, 4, 5, 6], [0, 1, 2, 3, 4, 5, 6, 7]] [0, 1, 2, 3, 4, 5, 6, 7, 8] noFt (fun _ _ _ h => by simp [noFt] at h) draws (by kernel_rfl) (by kernel_rfl) ?_
              generalize hK : AW Try.prog _ _ _ = K
              simp only [go_sem, ↓reduceIte, reduceCtorEq, Nat.reduceAdd, Nat.reduceSub, Nat.reduceMul, Nat.reduceEqDiff, Nat.reduceLT, Nat.reduceLeDiff, Nat.reduceBEq, Int.reduceAdd, Int.reduceSub, Int.reduceLT, Int.reduceLE, Int.reduceEq, Int.reduceToNat, eq_false c3, eq_false c4, eq_false c19, eq_false c25, eq_true c27, eq_false c29, hx30f, hx31f]
              subst hK
              refine AW.regL [4, 8, 9] ?_
              generalize hK : AW Try.prog _ _ _ = K
              simp only [go_sem, ↓reduceIte, reduceCtorEq, Nat.reduceAdd, Nat.reduceSub, Nat.reduceMul, Nat.reduceEqDiff, Nat.reduceLT, Nat.reduceLeDiff, Nat.reduceBEq, Int.reduceAdd, Int.reduceSub, Int.reduceLT, Int.reduceLE, Int.reduceEq, Int.reduceToNat, eq_false c3, eq_false c4, eq_false c19, eq_false c25, eq_true c27, eq_false c29]
              subst hK
              refine AW.regL [8, 9, 10] ?_
              generalize hK : AW Try.prog _ _ _ = K
              simp only [go_sem, ↓reduceIte, reduceCtorEq, Nat.reduceAdd, Nat.reduceSub, Nat.reduceMul, Nat.reduceEqDiff, Nat.reduceLT, Nat.reduceLeDiff, Nat.reduceBEq, Int.reduceAdd, Int.reduceSub, Int.reduceLT, Int.reduceLE, Int.reduceEq, Int.reduceToNat, eq_false c3, eq_false c4, eq_false c19, eq_false c25, eq_true c27, eq_false c29]
              subst hK
              refine AW.ent (Ent.stillObj (pre := [.val (.int .i64 a0.Nodes), .val (.int .i64 a0.Most), .val (.bool a0.Down.e0), .val (.bool a0.Down.e1), .val (.bool a0.Down.e2), .val (.bool a0.Down.e3), .val (.bool a0.Down.e4), .val (.bool a0.Down.e5), .val (.bool a0.Down.e6), .val (.bool a0.Down.e7)]) (post := [.val (.int .i64 (IntKind.i64.wrap (a0.N.e0 + 1))), .val (.int .i64 a0.N.e1), .val (.int .i64 a0.N.e2)]) (q := 320) (off := 0) (len := x31.length) 16 rfl (own_sl (sz := 3) (m := true) rfl (by first | rfl | simp [bytesI_len]) (by simp only [go_sem])) (by decide)) ?_
              refine AW.ent (Ent.weakObj 24 rfl rfl (.cons (.of rfl) (.cons (.of rfl) (.cons Weak.nil WeakL.nil)))) ?_
              refine AW.ret ?_
              refine block_r ?_
              refine thenA_r ?_
              obtain rfl := Option.some.inj h
              (simp only [go_sem, ↓reduceIte, reduceCtorEq, Nat.reduceAdd, Nat.reduceSub, Nat.reduceMul, Nat.reduceEqDiff, Nat.reduceLT, Nat.reduceLeDiff, Nat.reduceBEq, Int.reduceAdd, Int.reduceSub, Int.reduceLT, Int.reduceLE, Int.reduceEq, Int.reduceToNat, eq_false c3, eq_false c4, eq_false c19, eq_false c25, eq_true c27, eq_false c29, finA, resA, resOf_1, resOf_2, sealV_val, sealV_sl, sealV_ip, sealV_agg, sealV_tup, sealV_own, sealL_nil, sealL_cons, sealV_clo, resOf_clo] <;> try simp)
          · rw [if_neg c27] at h
            refine AW.ifF rfl c27 ?_
            refine AW.skip ?_
            refine block_n ?_
            refine thenA_n ?_
            refine AW.seq ?_
            by_cases c34 : a3 < 0
            · rw [if_pos c34] at h
              refine AW.regL [2, 3, 4, 8, 9, 11, 103] ?_
              generalize hK : AW Try.prog _ _ _ = K
              simp only [go_sem, ↓reduceIte, reduceCtorEq, Nat.reduceAdd, Nat.reduceSub, Nat.reduceMul, Nat.reduceEqDiff, Nat.reduceLT, Nat.reduceLeDiff, Nat.reduceBEq, Int.reduceAdd, Int.reduceSub, Int.reduceLT, Int.reduceLE, Int.reduceEq, Int.reduceToNat, eq_false c3, eq_false c4, eq_false c19, eq_false c25, eq_false c27, eq_true c34]
              subst hK
              refine AW.ifBT rfl rfl ?_
              refine AW.regL [8, 9, 10] ?_
              generalize hK : AW Try.prog _ _ _ = K
              simp only [go_sem, ↓reduceIte, reduceCtorEq, Nat.reduceAdd, Nat.reduceSub, Nat.reduceMul, Nat.reduceEqDiff, Nat.reduceLT, Nat.reduceLeDiff, Nat.reduceBEq, Int.reduceAdd, Int.reduceSub, Int.reduceLT, Int.reduceLE, Int.reduceEq, Int.reduceToNat, eq_false c3, eq_false c4, eq_false c19, eq_false c25, eq_false c27, eq_true c34]
              subst hK
              refine AW.ent (Ent.weakObj 24 rfl rfl (.cons (.of rfl) (.cons (.of rfl) (.cons Weak.nil WeakL.nil)))) ?_
              refine AW.ret ?_
              refine thenA_r ?_
              obtain rfl := Option.some.inj h
              (simp only [go_sem, ↓reduceIte, reduceCtorEq, Nat.reduceAdd, Nat.reduceSub, Nat.reduceMul, Nat.reduceEqDiff, Nat.reduceLT, Nat.reduceLeDiff, Nat.reduceBEq, Int.reduceAdd, Int.reduceSub, Int.reduceLT, Int.reduceLE, Int.reduceEq, Int.reduceToNat, eq_false c3, eq_false c4, eq_false c19, eq_false c25, eq_false c27, eq_true c34, finA, resA, resOf_1, resOf_2, sealV_val, sealV_sl, sealV_ip, sealV_agg, sealV_tup, sealV_own, sealL_nil, sealL_cons, sealV_clo, resOf_clo] <;> try simp)
            · rw [if_neg c34] at h
              refine AW.regL [2, 3, 4, 8, 9, 11, 103] ?_
              generalize hK : AW Try.prog _ _ _ = K
              simp only [go_sem, ↓reduceIte, reduceCtorEq, Nat.reduceAdd, Nat.reduceSub, Nat.reduceMul, Nat.reduceEqDiff, Nat.reduceLT, Nat.reduceLeDiff, Nat.reduceBEq, Int.reduceAdd, Int.reduceSub, Int.reduceLT, Int.reduceLE, Int.reduceEq, Int.reduceToNat, eq_false c3, eq_false c4, eq_false c19, eq_false c25, eq_false c27, eq_false c34]
              subst hK
              by_cases c35 : (a0.L.length : Int) ≤ a3
              · rw [if_pos c35] at h
                refine AW.ifT rfl c35 ?_
                refine AW.regL [8, 9, 10] ?_
                generalize hK : AW Try.prog _ _ _ = K
                simp only [go_sem, ↓reduceIte, reduceCtorEq, Nat.reduceAdd, Nat.reduceSub, Nat.reduceMul, Nat.reduceEqDiff, Nat.reduceLT, Nat.reduceLeDiff, Nat.reduceBEq, Int.reduceAdd, Int.reduceSub, Int.reduceLT, Int.reduceLE, Int.reduceEq, Int.reduceToNat, eq_false c3, eq_false c4, eq_false c19, eq_false c25, eq_false c27, eq_false c34, eq_true c35]
                subst hK
                refine AW.ent (Ent.weakObj 24 rfl rfl (.cons (.of rfl) (.cons (.of rfl) (.cons Weak.nil WeakL.nil)))) ?_
                refine AW.ret ?_
                refine thenA_r ?_
                obtain rfl := Option.some.inj h
                (simp only [go_sem, ↓reduceIte, reduceCtorEq, Nat.reduceAdd, Nat.reduceSub, Nat.reduceMul, Nat.reduceEqDiff, Nat.reduceLT, Nat.reduceLeDiff, Nat.reduceBEq, Int.reduceAdd, Int.reduceSub, Int.reduceLT, Int.reduceLE, Int.reduceEq, Int.reduceToNat, eq_false c3, eq_false c4, eq_false c19, eq_false c25, eq_false c27, eq_false c34, eq_true c35, finA, resA, resOf_1, resOf_2, sealV_val, sealV_sl, sealV_ip, sealV_agg, sealV_tup, sealV_own, sealL_nil, sealL_cons, sealV_clo, resOf_clo] <;> try simp)
              · rw [if_neg c35] at h
                refine AW.ifF rfl c35 ?_
                refine AW.skip ?_
                refine thenA_n ?_
                obtain ⟨x36, hx36, h⟩ := Option.bind_eq_some_iff.1 h
                refine AW.regL [3, 4, 8, 9, 11] ?_
                generalize hK : AW Try.prog _ _ _ = K
                simp only [go_sem, ↓reduceIte, reduceCtorEq, Nat.reduceAdd, Nat.reduceSub, Nat.reduceMul, Nat.reduceEqDiff, Nat.reduceLT, Nat.reduceLeDiff, Nat.reduceBEq, Int.reduceAdd, Int.reduceSub, Int.reduceLT, Int.reduceLE, Int.reduceEq, Int.reduceToNat, eq_false c3, eq_false c4, eq_false c19, eq_false c25, eq_false c27, eq_false c34, eq_false c35]
                refine arC.of (ok127 a0 a2 x36 hx36) Try.call127 ?_
                simp only [go_sem, ↓reduceIte, reduceCtorEq, Nat.reduceAdd, Nat.reduceSub, Nat.reduceMul, Nat.reduceEqDiff, Nat.reduceLT, Nat.reduceLeDiff, Nat.reduceBEq, Int.reduceAdd, Int.reduceSub, Int.reduceLT, Int.reduceLE, Int.reduceEq, Int.reduceToNat, eq_false c3, eq_false c4, eq_false c19, eq_false c25, eq_false c27, eq_false c34, eq_false c35]
                subst hK
                obtain ⟨x37, hx37, h⟩ := Option.bind_eq_some_iff.1 h
                obtain ⟨x38, hx38, h⟩ := Option.bind_eq_some_iff.1 h
                obtain ⟨hx38b, hx38e⟩ := appO?_some.1 hx38
                have hx38f : ∀ id o : Nat, appO 3 40 id (List.map encMsg x37) 0 0 o (some (.row 3 true (([] : List (List AV))))) = some ⟨.own id 0 x38.length, [(o, none), (id, some (.row 3 true (List.map encMsg x38)))]⟩ := fun id o => by
                  subst hx38e; rw [appO_ok (by simp) (by simpa using hx38b) (by decide)]; first | (simp [encMsg]; done) | (simp [encMsg]; omega)
                refine AW.regL [3, 4, 8, 9, 11, 12] ?_
                generalize hK : AW Try.prog _ _ _ = K
                simp only [go_sem, ↓reduceIte, reduceCtorEq, Nat.reduceAdd, Nat.reduceSub, Nat.reduceMul, Nat.reduceEqDiff, Nat.reduceLT, Nat.reduceLeDiff, Nat.reduceBEq, Int.reduceAdd, Int.reduceSub, Int.reduceLT, Int.reduceLE, Int.reduceEq, Int.reduceToNat, eq_false c3, eq_false c4, eq_false c19, eq_false c25, eq_false c27, eq_false c34, eq_false c35, cut_ns el60 sz64 (ml_encMsg _) hx37, hx38f]
                subst hK
                obtain ⟨x39, hx39, h⟩ := Option.bind_eq_some_iff.1 h
                obtain ⟨hx39b, hx39e⟩ := appO?_some.1 hx39
                have hx39f : ∀ id o : Nat, appO 3 40 id ([[.val (.int .i64 x5.From), .val (.int .i64 x5.To), .sl (List.map enc5 x5.Data)]]) 0 x38.length o (some (.row 3 true (List.map encMsg x38))) = some ⟨.own id 0 x39.length, [(o, none), (id, some (.row 3 true (List.map encMsg x39)))]⟩ := fun id o => by
                  subst hx39e; rw [appO_ok (by simp) (by simpa using hx39b) (by decide)]; first | (simp [encMsg]; done) | (simp [encMsg]; omega)
                refine AW.regL [3, 4, 8, 9, 12] ?_
                generalize hK : AW Try.prog _ _ _ = K
                simp only [go_sem, ↓reduceIte, reduceCtorEq, Nat.reduceAdd, Nat.reduceSub, Nat.reduceMul, Nat.reduceEqDiff, Nat.reduceLT, Nat.reduceLeDiff, Nat.reduceBEq, Int.reduceAdd, Int.reduceSub, Int.reduceLT, Int.reduceLE, Int.reduceEq, Int.reduceToNat, eq_false c3, eq_false c4, eq_false c19, eq_false c25, eq_false c27, eq_false c34, eq_false c35, hx39f]
                subst hK
                obtain ⟨x40, hx40, h⟩ := Option.bind_eq_some_iff.1 h
                obtain ⟨x41, hx41, h⟩ := Option.bind_eq_some_iff.1 h
                obtain ⟨hx41b, hx41e⟩ := appO?_some.1 hx41
                have hx41f : ∀ id o : Nat, appO 3 40 id (List.map encMsg x40) 0 x39.length o (some (.row 3 true (List.map encMsg x39))) = some ⟨.own id 0 x41.length, [(o, none), (id, some (.row 3 true (List.map encMsg x41)))]⟩ := fun id o => by
                  subst hx41e; rw [appO_ok (by simp) (by simpa using hx41b) (by decide)]; first | (simp [encMsg]; done) | (simp [encMsg]; omega)
                refine AW.regL [4, 8, 9] ?_
                generalize hK : AW Try.prog _ _ _ = K
                simp only [go_sem, ↓reduceIte, reduceCtorEq, Nat.reduceAdd, Nat.reduceSub, Nat.reduceMul, Nat.reduceEqDiff, Nat.reduceLT, Nat.reduceLeDiff, Nat.reduceBEq, Int.reduceAdd, Int.reduceSub, Int.reduceLT, Int.reduceLE, Int.reduceEq, Int.reduceToNat, eq_false c3, eq_false c4, eq_false c19, eq_false c25, eq_false c27, eq_false c34, eq_false c35, cut_sn el60 sz64 (ml_encMsg _) hx40, hx41f]
                subst hK
                refine AW.regL [8, 9, 10] ?_
                generalize hK : AW Try.prog _ _ _ = K
                simp only [go_sem, ↓reduceIte, reduceCtorEq, Nat.reduceAdd, Nat.reduceSub, Nat.reduceMul, Nat.reduceEqDiff, Nat.reduceLT, Nat.reduceLeDiff, Nat.reduceBEq, Int.reduceAdd, Int.reduceSub, Int.reduceLT, Int.reduceLE, Int.reduceEq, Int.reduceToNat, eq_false c3, eq_false c4, eq_false c19, eq_false c25, eq_false c27, eq_false c34, eq_false c35]
                subst hK
                refine AW.ent (Ent.stillObj (pre := [.val (.int .i64 x36.Nodes), .val (.int .i64 x36.Most), .val (.bool x36.Down.e0), .val (.bool x36.Down.e1), .val (.bool x36.Down.e2), .val (.bool x36.Down.e3), .val (.bool x36.Down.e4), .val (.bool x36.Down.e5), .val (.bool x36.Down.e6), .val (.bool x36.Down.e7)]) (post := [.val (.int .i64 x36.N.e0), .val (.int .i64 x36.N.e1), .val (.int .i64 x36.N.e2)]) (q := 464) (off := 0) (len := x41.length) 16 rfl (own_sl (sz := 3) (m := true) rfl (by first | rfl | simp [bytesI_len]) (by simp only [go_sem])) (by decide)) ?_
                refine AW.ent (Ent.weakObj 24 rfl rfl (.cons (.of rfl) (.cons (.of rfl) (.cons Weak.nil WeakL.nil)))) ?_
                refine AW.ret ?_
                obtain rfl := Option.some.inj h
                (simp only [go_sem, ↓reduceIte, reduceCtorEq, Nat.reduceAdd, Nat.reduceSub, Nat.reduceMul, Nat.reduceEqDiff, Nat.reduceLT, Nat.reduceLeDiff, Nat.reduceBEq, Int.reduceAdd, Int.reduceSub, Int.reduceLT, Int.reduceLE, Int.reduceEq, Int.reduceToNat, eq_false c3, eq_false c4, eq_false c19, eq_false c25, eq_false c27, eq_false c34, eq_false c35, finA, resA, resOf_1, resOf_2, sealV_val, sealV_sl, sealV_ip, sealV_agg, sealV_tup, sealV_own, sealL_nil, sealL_cons, sealV_clo, resOf_clo] <;> try simp)
end Au
end Go.Proofs.Y1

set_option linter.all false
set_option maxRecDepth 8000
set_option maxHeartbeats 1000000
namespace Go.Proofs.Y1
open Go.Gm
namespace Au
noncomputable def f49_s1 (a0 : Bag) : (List Msg) × Int → Option (((List Msg) × Int) ⊕ (List Msg))
  | (s1_0, s1_1) => (if s1_1 < ((a0.l.length : Nat) : Int) then ((ix a0.l s1_1).bind fun x15 => ((f83 x15).bind fun x16 => ((appO? s1_0 [x16]).bind fun x17 => some (.inl (x17, IntKind.i64.wrap (s1_1 + 1)))))) else some (.inr s1_0))
noncomputable def f49 (a0 : Bag) : Option ((List Msg) × Bag) := ((loopO (f49_s1 a0) ([], 0)).bind fun y19 => some (y19, a0))
theorem ok49 (a0 : Bag) (r : (List Msg) × Bag) (h : f49 a0 = some r) : IC Try.prog 49 [some (.row 14 true [[.val (.int .i64 a0.nodes), .val (.int .i64 a0.most), .val (.bool a0.down.e0), .val (.bool a0.down.e1), .val (.bool a0.down.e2), .val (.bool a0.down.e3), .val (.bool a0.down.e4), .val (.bool a0.down.e5), .val (.bool a0.down.e6), .val (.bool a0.down.e7), .own 1 0 a0.l.length, .val (.int .i64 a0.sent), .val (.int .i64 a0.taken), .val (.int .i64 a0.lost)]]), some (.row 3 true (List.map encMsg a0.l))] [.ptr 0 0 0] (.own 8 0 r.1.length) [some (.row 14 true [[.val (.int .i64 r.2.nodes), .val (.int .i64 r.2.most), .val (.bool r.2.down.e0), .val (.bool r.2.down.e1), .val (.bool r.2.down.e2), .val (.bool r.2.down.e3), .val (.bool r.2.down.e4), .val (.bool r.2.down.e5), .val (.bool r.2.down.e6), .val (.bool r.2.down.e7), .own 1 0 r.2.l.length, .val (.int .i64 r.2.sent), .val (.int .i64 r.2.taken), .val (.int .i64 r.2.lost)]]), some (.row 3 true (List.map encMsg r.2.l))] [some (.row 3 true (List.map encMsg r.1))] := by
  rw [f49] at h
  refine ic_of (N := 24) (rs := [.tmp 2]) Try.func49 rfl rfl rfl (Nat.le_of_ble_eq_true rfl) ?_
  refine AW.regL [0] ?_
  generalize hK : AW Try.prog _ _ _ = K
  simp only [go_sem, ↓reduceIte, reduceCtorEq, Nat.reduceAdd, Nat.reduceSub, Nat.reduceMul, Nat.reduceEqDiff, Nat.reduceLT, Nat.reduceLeDiff, Nat.reduceBEq, Int.reduceAdd, Int.reduceSub, Int.reduceLT, Int.reduceLE, Int.reduceEq, Int.reduceToNat]
  subst hK
  refine AW.seq ?_
  refine AW.regL [0, 7] ?_
  generalize hK : AW Try.prog _ _ _ = K
  simp only [go_sem, ↓reduceIte, reduceCtorEq, Nat.reduceAdd, Nat.reduceSub, Nat.reduceMul, Nat.reduceEqDiff, Nat.reduceLT, Nat.reduceLeDiff, Nat.reduceBEq, Int.reduceAdd, Int.reduceSub, Int.reduceLT, Int.reduceLE, Int.reduceEq, Int.reduceToNat]
  subst hK
  refine AW.ifBF rfl rfl ?_
  refine AW.skip ?_
  refine thenA_n ?_
  refine AW.regL [0, 3] ?_
  generalize hK : AW Try.prog _ _ _ = K
  simp only [go_sem, ↓reduceIte, reduceCtorEq, Nat.reduceAdd, Nat.reduceSub, Nat.reduceMul, Nat.reduceEqDiff, Nat.reduceLT, Nat.reduceLeDiff, Nat.reduceBEq, Int.reduceAdd, Int.reduceSub, Int.reduceLT, Int.reduceLE, Int.reduceEq, Int.reduceToNat]
  subst hK
  refine AW.seq ?_
  refine AW.regL [3, 11, 12, 13] ?_
  generalize hK : AW Try.prog _ _ _ = K
  simp only [go_sem, ↓reduceIte, reduceCtorEq, Nat.reduceAdd, Nat.reduceSub, Nat.reduceMul, Nat.reduceEqDiff, Nat.reduceLT, Nat.reduceLeDiff, Nat.reduceBEq, Int.reduceAdd, Int.reduceSub, Int.reduceLT, Int.reduceLE, Int.reduceEq, Int.reduceToNat]
  subst hK
  refine AW.block ?_
  obtain ⟨y19, hy19, h⟩ := Option.bind_eq_some_iff.1 h
  refine AW.loopO (fun s => ⟨(upd (upd (upd (upd anyF 3 (.own 8 0 s.1.length)) 11 (.own 1 0 a0.l.length)) 12 (.val (.int .i64 ((a0.l.length : Nat) : Int)))) 13 (.val (.int .i64 s.2))), hpL [some (.row 14 true [[.val (.int .i64 a0.nodes), .val (.int .i64 a0.most), .val (.bool a0.down.e0), .val (.bool a0.down.e1), .val (.bool a0.down.e2), .val (.bool a0.down.e3), .val (.bool a0.down.e4), .val (.bool a0.down.e5), .val (.bool a0.down.e6), .val (.bool a0.down.e7), .own 1 0 a0.l.length, .val (.int .i64 a0.sent), .val (.int .i64 a0.taken), .val (.int .i64 a0.lost)]]), some (.row 3 true (List.map encMsg a0.l))] [some (.row 3 true (List.map encMsg s.1))], 9⟩) (fun z e st' => e = Exit.exit 0 ∧ st' = ⟨(upd anyF 3 (.own 8 0 z.length)), hpL [some (.row 14 true [[.val (.int .i64 a0.nodes), .val (.int .i64 a0.most), .val (.bool a0.down.e0), .val (.bool a0.down.e1), .val (.bool a0.down.e2), .val (.bool a0.down.e3), .val (.bool a0.down.e4), .val (.bool a0.down.e5), .val (.bool a0.down.e6), .val (.bool a0.down.e7), .own 1 0 a0.l.length, .val (.int .i64 a0.sent), .val (.int .i64 a0.taken), .val (.int .i64 a0.lost)]]), some (.row 3 true (List.map encMsg a0.l))] [some (.row 3 true (List.map encMsg z))], 9⟩) hy19 ?_ ?_ ?_
  · refine Ent.trans (Ent.nilOwn 3 3 (by decide) rfl) ?_
    refine Ent.can [88] _ _ _ rfl (by first | decide | simp) rfl ?_ ?_ ?_
    · exact ((((RF.any.po (by decide) (by first | rfl | simp [upd_ap, hpL_ap, tau, mapT, mapTL, bytesI_len])).po (by decide) (by first | rfl | simp [upd_ap, hpL_ap, tau, mapT, mapTL, bytesI_len])).pv (by first | rfl | simp only [go_sem]) (by first | rfl | simp [upd_ap, hpL_ap, tau, mapT, mapTL, bytesI_len])).pv (by first | rfl | simp only [go_sem]) (by first | rfl | simp [upd_ap, hpL_ap, tau, mapT, mapTL, bytesI_len]))
    · exact .cons (.tok (by simp [tokL, tokLL, inlR]) (by first | rfl | simp [upd_ap, hpL_ap, tau, mapT, mapTL, bytesI_len])) (.cons (.eq (by first | rfl | simp only [go_sem]) (by first | rfl | simp [upd_ap, hpL_ap, tau, mapT, mapTL, bytesI_len])) (.nil _))
    · exact .cons (.eq (by first | rfl | simp only [go_sem]) (by first | rfl | simp [upd_ap, hpL_ap, tau, mapT, mapTL, bytesI_len])) (.nil _)
  · clear h hy19
    rintro ⟨s1_0, s1_1⟩ x h
    rw [f49_s1] at h
    refine AW.regL [3, 11, 12, 13, 14] ?_
    generalize hK : AW Try.prog _ _ _ = K
    simp only [go_sem, ↓reduceIte, reduceCtorEq, Nat.reduceAdd, Nat.reduceSub, Nat.reduceMul, Nat.reduceEqDiff, Nat.reduceLT, Nat.reduceLeDiff, Nat.reduceBEq, Int.reduceAdd, Int.reduceSub, Int.reduceLT, Int.reduceLE, Int.reduceEq, Int.reduceToNat]
    subst hK
    refine AW.seq ?_
    by_cases c14 : s1_1 < ((a0.l.length : Nat) : Int)
    · rw [if_pos c14] at h
      refine AW.ifT rfl c14 ?_
      refine AW.skip ?_
      refine thenA_n ?_
      refine AW.seq ?_
      refine AW.block ?_
      obtain ⟨x15, hx15, h⟩ := Option.bind_eq_some_iff.1 h
      obtain ⟨hx15a, hx15b⟩ := ix_some.1 hx15
      refine AW.regL [3, 5, 11, 12, 13] ?_
      generalize hK : AW Try.prog _ _ _ = K
      simp only [go_sem, ↓reduceIte, reduceCtorEq, Nat.reduceAdd, Nat.reduceSub, Nat.reduceMul, Nat.reduceEqDiff, Nat.reduceLT, Nat.reduceLeDiff, Nat.reduceBEq, Int.reduceAdd, Int.reduceSub, Int.reduceLT, Int.reduceLE, Int.reduceEq, Int.reduceToNat, eq_true c14, natOf_le hx15a, hx15b, ix_lt hx15b]
      subst hK
      obtain ⟨x16, hx16, h⟩ := Option.bind_eq_some_iff.1 h
      obtain ⟨x17, hx17, h⟩ := Option.bind_eq_some_iff.1 h
      obtain ⟨hx17b, hx17e⟩ := appO?_some.1 hx17
      have hx17f : ∀ id o : Nat, appO 3 40 id ([[.val (.int .i64 x16.From), .val (.int .i64 x16.To), .sl (List.map enc5 x16.Data)]]) 0 s1_0.length o (some (.row 3 true (List.map encMsg s1_0))) = some ⟨.own id 0 x17.length, [(o, none), (id, some (.row 3 true (List.map encMsg x17)))]⟩ := fun id o => by
        subst hx17e; rw [appO_ok (by simp) (by simpa using hx17b) (by decide)]; first | (simp [encMsg]; done) | (simp [encMsg]; omega)
      refine AW.regionL [3, 11, 12, 13] ?_
      generalize hK : inBlockA _ _ Exit.normal = K
      simp only [go_sem, ↓reduceIte, reduceCtorEq, Nat.reduceAdd, Nat.reduceSub, Nat.reduceMul, Nat.reduceEqDiff, Nat.reduceLT, Nat.reduceLeDiff, Nat.reduceBEq, Int.reduceAdd, Int.reduceSub, Int.reduceLT, Int.reduceLE, Int.reduceEq, Int.reduceToNat, eq_true c14, hx17f]
      refine arC.of (ok83 x15 x16 hx16) Try.call83 ?_
      simp only [go_sem, ↓reduceIte, reduceCtorEq, Nat.reduceAdd, Nat.reduceSub, Nat.reduceMul, Nat.reduceEqDiff, Nat.reduceLT, Nat.reduceLeDiff, Nat.reduceBEq, Int.reduceAdd, Int.reduceSub, Int.reduceLT, Int.reduceLE, Int.reduceEq, Int.reduceToNat, eq_true c14, hx17f]
      subst hK
      refine block_n ?_
      refine thenA_n ?_
      refine AW.regionL [3, 11, 12, 13] ?_
      generalize hK : thenA _ _ Exit.normal = K
      simp only [go_sem, ↓reduceIte, reduceCtorEq, Nat.reduceAdd, Nat.reduceSub, Nat.reduceMul, Nat.reduceEqDiff, Nat.reduceLT, Nat.reduceLeDiff, Nat.reduceBEq, Int.reduceAdd, Int.reduceSub, Int.reduceLT, Int.reduceLE, Int.reduceEq, Int.reduceToNat, eq_true c14]
      subst hK
      refine thenA_n ?_
      refine ⟨_, (Option.some.inj h).symm, ?_⟩
      refine Ent.can [81] _ _ _ rfl (by first | decide | simp) rfl ?_ ?_ ?_
      · exact ((((RF.any.po (by decide) (by first | rfl | simp [upd_ap, hpL_ap, tau, mapT, mapTL, bytesI_len, eq_true c14])).po (by decide) (by first | rfl | simp [upd_ap, hpL_ap, tau, mapT, mapTL, bytesI_len, eq_true c14])).pv (by first | rfl | simp only [go_sem]) (by first | rfl | simp [upd_ap, hpL_ap, tau, mapT, mapTL, bytesI_len, eq_true c14])).pv (by first | rfl | simp only [go_sem]) (by first | rfl | simp [upd_ap, hpL_ap, tau, mapT, mapTL, bytesI_len, eq_true c14]))
      · exact .cons (.tok (by simp [tokL, tokLL, inlR]) (by first | rfl | simp [upd_ap, hpL_ap, tau, mapT, mapTL, bytesI_len, eq_true c14])) (.cons (.eq (by first | rfl | simp only [go_sem]) (by first | rfl | simp [upd_ap, hpL_ap, tau, mapT, mapTL, bytesI_len, eq_true c14])) (.nil _))
      · exact .cons (.eq (by first | rfl | simp only [go_sem]) (by first | rfl | simp [upd_ap, hpL_ap, tau, mapT, mapTL, bytesI_len, eq_true c14])) (.nil _)
    · rw [if_neg c14] at h
      refine AW.ifF rfl c14 ?_
      refine AW.exit ?_
      refine thenA_x ?_
      refine thenA_x ?_
      refine ⟨_, (Option.some.inj h).symm, _, ?_, rfl, rfl⟩
      refine Ent.can [8] _ _ _ rfl (by first | decide | simp) rfl ?_ ?_ ?_
      · exact (RF.any.po (by decide) (by first | rfl | simp [upd_ap, hpL_ap, tau, mapT, mapTL, bytesI_len, eq_false c14]))
      · exact .cons (.tok (by simp [tokL, tokLL, inlR]) (by first | rfl | simp [upd_ap, hpL_ap, tau, mapT, mapTL, bytesI_len, eq_false c14])) (.cons (.eq (by first | rfl | simp only [go_sem]) (by first | rfl | simp [upd_ap, hpL_ap, tau, mapT, mapTL, bytesI_len, eq_false c14])) (.nil _))
      · exact .cons (.eq (by first | rfl | simp only [go_sem]) (by first | rfl | simp [upd_ap, hpL_ap, tau, mapT, mapTL, bytesI_len, eq_false c14])) (.nil _)
  · intro e st' hX
    try dsimp only at h
    try dsimp only at hX
    obtain ⟨rfl, rfl⟩ := hX
    refine ⟨_, Ent.refl, ?_⟩
    refine block_x ?_
    refine thenA_n ?_
    refine AW.regL [2] ?_
    generalize hK : AW Try.prog _ _ _ = K
    simp only [go_sem, ↓reduceIte, reduceCtorEq, Nat.reduceAdd, Nat.reduceSub, Nat.reduceMul, Nat.reduceEqDiff, Nat.reduceLT, Nat.reduceLeDiff, Nat.reduceBEq, Int.reduceAdd, Int.reduceSub, Int.reduceLT, Int.reduceLE, Int.reduceEq, Int.reduceToNat]
    subst hK
    refine AW.ent (st' := ⟨(upd anyF 2 (.own 8 0 y19.length)), hpL [some (.row 14 true [[.val (.int .i64 a0.nodes), .val (.int .i64 a0.most), .val (.bool a0.down.e0), .val (.bool a0.down.e1), .val (.bool a0.down.e2), .val (.bool a0.down.e3), .val (.bool a0.down.e4), .val (.bool a0.down.e5), .val (.bool a0.down.e6), .val (.bool a0.down.e7), .own 1 0 a0.l.length, .val (.int .i64 a0.sent), .val (.int .i64 a0.taken), .val (.int .i64 a0.lost)]]), some (.row 3 true (List.map encMsg a0.l))] [some (.row 3 true (List.map encMsg y19))], 9⟩) ?_ ?_
    · refine Ent.can [8] _ _ _ rfl (by first | decide | simp) rfl ?_ ?_ ?_
      · exact (RF.any.po (by decide) (by first | rfl | simp [upd_ap, hpL_ap, tau, mapT, mapTL, bytesI_len]))
      · exact .cons (.tok (by simp [tokL, tokLL, inlR]) (by first | rfl | simp [upd_ap, hpL_ap, tau, mapT, mapTL, bytesI_len])) (.cons (.eq (by first | rfl | simp only [go_sem]) (by first | rfl | simp [upd_ap, hpL_ap, tau, mapT, mapTL, bytesI_len])) (.nil _))
      · exact .cons (.eq (by first | rfl | simp only [go_sem]) (by first | rfl | simp [upd_ap, hpL_ap, tau, mapT, mapTL, bytesI_len])) (.nil _)
    refine AW.ret ?_
    obtain rfl := Option.some.inj h
    exact ⟨rfl, rfl, _, rfl, by first | rfl | simp [resOf, upd_ap, bytesI_len]⟩
end Au
end Go.Proofs.Y1
