import Derived.Test.YtlonihmeikmpiaaGqDT
set_option linter.all false
set_option linter.unusedVariables false
set_option linter.unusedSimpArgs false
set_option linter.all false
set_option maxRecDepth 8000
set_option maxHeartbeats 1000000
namespace Go.Proofs.Y1
open Go.Gm
namespace Au
noncomputable def f54_s4 (x35 : Item) : Int × Int → Option ((Int × Int) ⊕ Int)
  | (s4_0, s4_1) => (if s4_1 < (x35.Parts.length : Int) then (if s4_1 < 300 then ((ix x35.Parts s4_1).bind fun x48 => some (.inl (IntKind.i64.wrap (s4_0 + (x48.Acc.Text.size : Int)), IntKind.i64.wrap (s4_1 + 1)))) else some (.inr s4_0)) else some (.inr s4_0))
noncomputable def f54_s1 (a0 : List Item) : Int × Int → Option ((Int × Int) ⊕ (Bool ⊕ Unit))
  | (s1_0, s1_1) => (if s1_1 < (a0.length : Int) then (if s1_1 < 60 then ((ix a0 s1_1).bind fun x35 => ((loopO (f54_s4 x35) (IntKind.i64.wrap ((IntKind.i64.wrap ((IntKind.i64.wrap (s1_0 + (x35.Key.size : Int))) + (IntKind.i64.wrap (4 * (x35.Offs.length : Int))))) + (IntKind.i64.wrap (4 * (x35.Parts.length : Int)))), 0)).bind fun y50 => (if 1500 < y50 then some (.inr (.inl true)) else some (.inl (y50, IntKind.i64.wrap (s1_1 + 1)))))) else some (.inr (.inr ()))) else some (.inr (.inr ())))
noncomputable def f54 (a0 : List Item) : Option Bool := ((loopO (f54_s1 a0) (0, 0)).bind fun y52 => match y52 with | .inl y53 => some y53 | .inr _ => some (decide (60 < (a0.length : Int))))
theorem ok54 (a0 : List Item) (r : Bool) (h : f54 a0 = some r) : PC Try.prog 54 [.sl (List.map encItem a0)] (.val (.bool r)) := by
  rw [f54] at h
  refine pc_of8 (N := 72) (rs := [.tmp 2]) Try.func54 rfl rfl rfl (Nat.le_of_ble_eq_true rfl) ?_
  refine AW.regL [0] ?_
  generalize hK : AW Try.prog _ _ _ = K
  simp only [go_sem, ↓reduceIte, reduceCtorEq, Nat.reduceAdd, Nat.reduceSub, Nat.reduceMul, Nat.reduceEqDiff, Nat.reduceLT, Nat.reduceLeDiff, Nat.reduceBEq, Int.reduceAdd, Int.reduceSub, Int.reduceLT, Int.reduceLE, Int.reduceEq, Int.reduceToNat]
  subst hK
  refine AW.regL [0, 3] ?_
  generalize hK : AW Try.prog _ _ _ = K
  simp only [go_sem, ↓reduceIte, reduceCtorEq, Nat.reduceAdd, Nat.reduceSub, Nat.reduceMul, Nat.reduceEqDiff, Nat.reduceLT, Nat.reduceLeDiff, Nat.reduceBEq, Int.reduceAdd, Int.reduceSub, Int.reduceLT, Int.reduceLE, Int.reduceEq, Int.reduceToNat]
  subst hK
  refine AW.seq ?_
  refine AW.regL [0, 3, 4] ?_
  generalize hK : AW Try.prog _ _ _ = K
  simp only [go_sem, ↓reduceIte, reduceCtorEq, Nat.reduceAdd, Nat.reduceSub, Nat.reduceMul, Nat.reduceEqDiff, Nat.reduceLT, Nat.reduceLeDiff, Nat.reduceBEq, Int.reduceAdd, Int.reduceSub, Int.reduceLT, Int.reduceLE, Int.reduceEq, Int.reduceToNat]
  subst hK
  refine AW.block ?_
  obtain ⟨y52, hy52, h⟩ := Option.bind_eq_some_iff.1 h
  refine AW.loopO (fun s => ⟨(upd (upd (upd anyF 0 (.sl (List.map encItem a0))) 3 (.val (.int .i64 s.1))) 4 (.val (.int .i64 s.2))), hpL [] [], 8⟩) (fun y e st' => match y with | .inl z => e = Exit.ret ∧ finA Try.prog [.tmp 2] (.val (.bool z)) .ret st' | .inr z => e = Exit.exit 0 ∧ st' = ⟨(upd anyF 0 (.sl (List.map encItem a0))), hpL [] [], 8⟩) hy52 ?_ ?_ ?_
  · refine Ent.can [] _ _ _ rfl (by first | decide | simp) rfl ?_ ?_ ?_
    · exact (((RF.any.pv (by first | rfl | simp only [go_sem]) (by first | rfl | simp [upd_ap, hpL_ap, tau, mapT, mapTL, bytesI_len])).pv (by first | rfl | simp only [go_sem]) (by first | rfl | simp [upd_ap, hpL_ap, tau, mapT, mapTL, bytesI_len])).pv (by first | rfl | simp only [go_sem]) (by first | rfl | simp [upd_ap, hpL_ap, tau, mapT, mapTL, bytesI_len]))
    · exact .nil _
    · exact .nil _
  · clear h hy52
    rintro ⟨s1_0, s1_1⟩ x h
    rw [f54_s1] at h
    refine AW.seq ?_
    by_cases c33 : s1_1 < (a0.length : Int)
    · rw [if_pos c33] at h
      refine AW.regL [0, 3, 4, 13] ?_
      generalize hK : AW Try.prog _ _ _ = K
      simp only [go_sem, ↓reduceIte, reduceCtorEq, Nat.reduceAdd, Nat.reduceSub, Nat.reduceMul, Nat.reduceEqDiff, Nat.reduceLT, Nat.reduceLeDiff, Nat.reduceBEq, Int.reduceAdd, Int.reduceSub, Int.reduceLT, Int.reduceLE, Int.reduceEq, Int.reduceToNat, eq_true c33]
      subst hK
      by_cases c34 : s1_1 < 60
      · rw [if_pos c34] at h
        refine AW.ifT rfl c34 ?_
        refine AW.skip ?_
        refine thenA_n ?_
        refine AW.seq ?_
        refine AW.block ?_
        obtain ⟨x35, hx35, h⟩ := Option.bind_eq_some_iff.1 h
        obtain ⟨hx35a, hx35b⟩ := ix_some.1 hx35
        refine AW.regdL [0, 3, 4] [[], [], [], [1, 2], [1, 2, 3], [1, 2, 3, 4], [1, 2, 3, 4, 5], [0, 1, 2, 3, 4, 5, 6], [], [], [8, 9], [8, 9, 10], [8, 9, 10, 11], [8, 9, 10, 11, 12], [8, 9, 10, 11, 12, 13], [0, 1, 2, 3, 4, 5, 6, 7, 8, 9, 10, 11, 12, 13, 14], [], [], [16, 17], [16, 17, 18], [16, 17, 18, 19], [16, 17, 18, 19, 20], [16, 17, 18, 19, 20, 21], [0, 1, 2, 3, 4, 5, 6, 7, 8, 9, 10, 11, 12, 13, 14, 15, 16, 17, 18, 19, 20, 21, 22], [0, 1, 2, 3, 4, 5, 6, 7, 8, 9, 10, 11, 12, 13, 14, 15, 16, 17, 18, 19, 20, 21, 22, 23]] [0, 1, 2, 3, 4, 5, 6, 7, 8, 9, 10, 11, 12, 13, 14, 15, 16, 17, 18, 19, 20, 21, 22, 23, 24] noFt (fun _ _ _ h => by simp [noFt] at h) draws (by kernel_rfl) (by kernel_rfl) ?_
        generalize hK : AW Try.prog _ _ _ = K
        simp only [go_sem, ↓reduceIte, reduceCtorEq, Nat.reduceAdd, Nat.reduceSub, Nat.reduceMul, Nat.reduceEqDiff, Nat.reduceLT, Nat.reduceLeDiff, Nat.reduceBEq, Int.reduceAdd, Int.reduceSub, Int.reduceLT, Int.reduceLE, Int.reduceEq, Int.reduceToNat, eq_true c33, eq_true c34, natOf_le hx35a, hx35b]
        subst hK
        refine AW.seq ?_
        refine AW.regL [0, 3, 4, 5] ?_
        generalize hK : AW Try.prog _ _ _ = K
        simp only [go_sem, ↓reduceIte, reduceCtorEq, Nat.reduceAdd, Nat.reduceSub, Nat.reduceMul, Nat.reduceEqDiff, Nat.reduceLT, Nat.reduceLeDiff, Nat.reduceBEq, Int.reduceAdd, Int.reduceSub, Int.reduceLT, Int.reduceLE, Int.reduceEq, Int.reduceToNat, eq_true c33, eq_true c34]
        subst hK
        refine AW.block ?_
        obtain ⟨y50, hy50, h⟩ := Option.bind_eq_some_iff.1 h
        refine AW.loopO (fun s => ⟨(upd (upd (upd (upd anyF 0 (.sl (List.map encItem a0))) 3 (.val (.int .i64 s.1))) 4 (.val (.int .i64 s1_1))) 5 (.val (.int .i64 s.2))), hpL [] [], 8⟩) (fun z e st' => e = Exit.exit 2 ∧ st' = ⟨(upd (upd (upd anyF 0 (.sl (List.map encItem a0))) 3 (.val (.int .i64 z))) 4 (.val (.int .i64 s1_1))), hpL [] [], 8⟩) hy50 ?_ ?_ ?_
        · refine Ent.can [] _ _ _ rfl (by first | decide | simp) rfl ?_ ?_ ?_
          · exact ((((RF.any.pv (by first | rfl | simp only [go_sem]) (by first | rfl | simp [upd_ap, hpL_ap, tau, mapT, mapTL, bytesI_len, eq_true c33, eq_true c34])).pv (by first | rfl | simp only [go_sem]) (by first | rfl | simp [upd_ap, hpL_ap, tau, mapT, mapTL, bytesI_len, eq_true c33, eq_true c34])).pv (by first | rfl | simp only [go_sem]) (by first | rfl | simp [upd_ap, hpL_ap, tau, mapT, mapTL, bytesI_len, eq_true c33, eq_true c34])).pv (by first | rfl | simp only [go_sem]) (by first | rfl | simp [upd_ap, hpL_ap, tau, mapT, mapTL, bytesI_len, eq_true c33, eq_true c34]))
          · exact .nil _
          · exact .nil _
        · clear h hy50
          rintro ⟨s4_0, s4_1⟩ x h
          rw [f54_s4] at h
          refine AW.seq ?_
          by_cases c46 : s4_1 < (x35.Parts.length : Int)
          · rw [if_pos c46] at h
            refine AW.regL [0, 3, 4, 5, 51] ?_
            generalize hK : AW Try.prog _ _ _ = K
            simp only [go_sem, ↓reduceIte, reduceCtorEq, Nat.reduceAdd, Nat.reduceSub, Nat.reduceMul, Nat.reduceEqDiff, Nat.reduceLT, Nat.reduceLeDiff, Nat.reduceBEq, Int.reduceAdd, Int.reduceSub, Int.reduceLT, Int.reduceLE, Int.reduceEq, Int.reduceToNat, eq_true c33, eq_true c34, natOf_le hx35a, hx35b, eq_true c46]
            subst hK
            by_cases c47 : s4_1 < 300
            · rw [if_pos c47] at h
              refine AW.ifT rfl c47 ?_
              refine AW.skip ?_
              refine thenA_n ?_
              refine AW.seq ?_
              refine AW.block ?_
              obtain ⟨x48, hx48, h⟩ := Option.bind_eq_some_iff.1 h
              obtain ⟨hx48a, hx48b⟩ := ix_some.1 hx48
              refine AW.regionL [0, 3, 4, 5] ?_
              generalize hK : inBlockA _ _ Exit.normal = K
              simp only [go_sem, ↓reduceIte, reduceCtorEq, Nat.reduceAdd, Nat.reduceSub, Nat.reduceMul, Nat.reduceEqDiff, Nat.reduceLT, Nat.reduceLeDiff, Nat.reduceBEq, Int.reduceAdd, Int.reduceSub, Int.reduceLT, Int.reduceLE, Int.reduceEq, Int.reduceToNat, eq_true c33, eq_true c34, eq_true c46, eq_true c47, natOf_le hx35a, hx35b, natOf_le hx48a, hx48b]
              subst hK
              refine block_n ?_
              refine thenA_n ?_
              refine AW.regionL [0, 3, 4, 5] ?_
              generalize hK : thenA _ _ Exit.normal = K
              simp only [go_sem, ↓reduceIte, reduceCtorEq, Nat.reduceAdd, Nat.reduceSub, Nat.reduceMul, Nat.reduceEqDiff, Nat.reduceLT, Nat.reduceLeDiff, Nat.reduceBEq, Int.reduceAdd, Int.reduceSub, Int.reduceLT, Int.reduceLE, Int.reduceEq, Int.reduceToNat, eq_true c33, eq_true c34, eq_true c46, eq_true c47]
              subst hK
              refine thenA_n ?_
              refine ⟨_, (Option.some.inj h).symm, ?_⟩
              refine Ent.can [] _ _ _ rfl (by first | decide | simp) rfl ?_ ?_ ?_
              · exact ((((RF.any.pv (by first | rfl | simp only [go_sem]) (by first | rfl | simp [upd_ap, hpL_ap, tau, mapT, mapTL, bytesI_len, eq_true c33, eq_true c34, eq_true c46, eq_true c47])).pv (by first | rfl | simp only [go_sem]) (by first | rfl | simp [upd_ap, hpL_ap, tau, mapT, mapTL, bytesI_len, eq_true c33, eq_true c34, eq_true c46, eq_true c47])).pv (by first | rfl | simp only [go_sem]) (by first | rfl | simp [upd_ap, hpL_ap, tau, mapT, mapTL, bytesI_len, eq_true c33, eq_true c34, eq_true c46, eq_true c47])).pv (by first | rfl | simp only [go_sem]) (by first | rfl | simp [upd_ap, hpL_ap, tau, mapT, mapTL, bytesI_len, eq_true c33, eq_true c34, eq_true c46, eq_true c47]))
              · exact .nil _
              · exact .nil _
            · rw [if_neg c47] at h
              refine AW.ifF rfl c47 ?_
              refine AW.exit ?_
              refine thenA_x ?_
              refine thenA_x ?_
              refine ⟨_, (Option.some.inj h).symm, _, ?_, rfl, rfl⟩
              refine Ent.can [] _ _ _ rfl (by first | decide | simp) rfl ?_ ?_ ?_
              · exact (((RF.any.pv (by first | rfl | simp only [go_sem]) (by first | rfl | simp [upd_ap, hpL_ap, tau, mapT, mapTL, bytesI_len, eq_true c33, eq_true c34, eq_true c46, eq_false c47])).pv (by first | rfl | simp only [go_sem]) (by first | rfl | simp [upd_ap, hpL_ap, tau, mapT, mapTL, bytesI_len, eq_true c33, eq_true c34, eq_true c46, eq_false c47])).pv (by first | rfl | simp only [go_sem]) (by first | rfl | simp [upd_ap, hpL_ap, tau, mapT, mapTL, bytesI_len, eq_true c33, eq_true c34, eq_true c46, eq_false c47]))
              · exact .nil _
              · exact .nil _
          · rw [if_neg c46] at h
            refine AW.regL [0, 3, 4, 5, 51] ?_
            generalize hK : AW Try.prog _ _ _ = K
            simp only [go_sem, ↓reduceIte, reduceCtorEq, Nat.reduceAdd, Nat.reduceSub, Nat.reduceMul, Nat.reduceEqDiff, Nat.reduceLT, Nat.reduceLeDiff, Nat.reduceBEq, Int.reduceAdd, Int.reduceSub, Int.reduceLT, Int.reduceLE, Int.reduceEq, Int.reduceToNat, eq_true c33, eq_true c34, natOf_le hx35a, hx35b, eq_false c46]
            subst hK
            refine AW.ifBF rfl rfl ?_
            refine AW.exit ?_
            refine thenA_x ?_
            refine thenA_x ?_
            refine ⟨_, (Option.some.inj h).symm, _, ?_, rfl, rfl⟩
            refine Ent.can [] _ _ _ rfl (by first | decide | simp) rfl ?_ ?_ ?_
            · exact (((RF.any.pv (by first | rfl | simp only [go_sem]) (by first | rfl | simp [upd_ap, hpL_ap, tau, mapT, mapTL, bytesI_len, eq_true c33, eq_true c34, eq_false c46])).pv (by first | rfl | simp only [go_sem]) (by first | rfl | simp [upd_ap, hpL_ap, tau, mapT, mapTL, bytesI_len, eq_true c33, eq_true c34, eq_false c46])).pv (by first | rfl | simp only [go_sem]) (by first | rfl | simp [upd_ap, hpL_ap, tau, mapT, mapTL, bytesI_len, eq_true c33, eq_true c34, eq_false c46]))
            · exact .nil _
            · exact .nil _
        · intro e st' hX
          try dsimp only at h
          try dsimp only at hX
          obtain ⟨rfl, rfl⟩ := hX
          refine ⟨_, Ent.refl, ?_⟩
          refine block_x ?_
          refine thenA_n ?_
          refine AW.regL [0, 3, 4, 68] ?_
          generalize hK : AW Try.prog _ _ _ = K
          simp only [go_sem, ↓reduceIte, reduceCtorEq, Nat.reduceAdd, Nat.reduceSub, Nat.reduceMul, Nat.reduceEqDiff, Nat.reduceLT, Nat.reduceLeDiff, Nat.reduceBEq, Int.reduceAdd, Int.reduceSub, Int.reduceLT, Int.reduceLE, Int.reduceEq, Int.reduceToNat, eq_true c33, eq_true c34]
          subst hK
          by_cases c51 : 1500 < y50
          · rw [if_pos c51] at h
            refine AW.ifT rfl c51 ?_
            refine AW.regL [2] ?_
            generalize hK : AW Try.prog _ _ _ = K
            simp only [go_sem, ↓reduceIte, reduceCtorEq, Nat.reduceAdd, Nat.reduceSub, Nat.reduceMul, Nat.reduceEqDiff, Nat.reduceLT, Nat.reduceLeDiff, Nat.reduceBEq, Int.reduceAdd, Int.reduceSub, Int.reduceLT, Int.reduceLE, Int.reduceEq, Int.reduceToNat, eq_true c33, eq_true c34, eq_true c51]
            subst hK
            refine AW.ret ?_
            refine block_r ?_
            refine thenA_r ?_
            refine thenA_r ?_
            refine ⟨_, (Option.some.inj h).symm, _, Ent.refl, rfl, ?_⟩
            (simp only [go_sem, ↓reduceIte, reduceCtorEq, Nat.reduceAdd, Nat.reduceSub, Nat.reduceMul, Nat.reduceEqDiff, Nat.reduceLT, Nat.reduceLeDiff, Nat.reduceBEq, Int.reduceAdd, Int.reduceSub, Int.reduceLT, Int.reduceLE, Int.reduceEq, Int.reduceToNat, eq_true c33, eq_true c34, eq_true c51, finA, resA, resOf_1, resOf_2, sealV_val, sealV_sl, sealV_ip, sealV_agg, sealV_tup, sealV_own, sealL_nil, sealL_cons] <;> try simp)
          · rw [if_neg c51] at h
            refine AW.ifF rfl c51 ?_
            refine AW.skip ?_
            refine block_n ?_
            refine thenA_n ?_
            refine AW.regionL [0, 3, 4] ?_
            generalize hK : thenA _ _ Exit.normal = K
            simp only [go_sem, ↓reduceIte, reduceCtorEq, Nat.reduceAdd, Nat.reduceSub, Nat.reduceMul, Nat.reduceEqDiff, Nat.reduceLT, Nat.reduceLeDiff, Nat.reduceBEq, Int.reduceAdd, Int.reduceSub, Int.reduceLT, Int.reduceLE, Int.reduceEq, Int.reduceToNat, eq_true c33, eq_true c34, eq_false c51]
            subst hK
            refine thenA_n ?_
            refine ⟨_, (Option.some.inj h).symm, ?_⟩
            refine Ent.can [] _ _ _ rfl (by first | decide | simp) rfl ?_ ?_ ?_
            · exact (((RF.any.pv (by first | rfl | simp only [go_sem]) (by first | rfl | simp [upd_ap, hpL_ap, tau, mapT, mapTL, bytesI_len, eq_true c33, eq_true c34, eq_false c51])).pv (by first | rfl | simp only [go_sem]) (by first | rfl | simp [upd_ap, hpL_ap, tau, mapT, mapTL, bytesI_len, eq_true c33, eq_true c34, eq_false c51])).pv (by first | rfl | simp only [go_sem]) (by first | rfl | simp [upd_ap, hpL_ap, tau, mapT, mapTL, bytesI_len, eq_true c33, eq_true c34, eq_false c51]))
            · exact .nil _
            · exact .nil _
      · rw [if_neg c34] at h
        refine AW.ifF rfl c34 ?_
        refine AW.exit ?_
        refine thenA_x ?_
        refine thenA_x ?_
        refine ⟨_, (Option.some.inj h).symm, _, ?_, rfl, rfl⟩
        refine Ent.can [] _ _ _ rfl (by first | decide | simp) rfl ?_ ?_ ?_
        · exact (RF.any.pv (by first | rfl | simp only [go_sem]) (by first | rfl | simp [upd_ap, hpL_ap, tau, mapT, mapTL, bytesI_len, eq_true c33, eq_false c34]))
        · exact .nil _
        · exact .nil _
    · rw [if_neg c33] at h
      refine AW.regL [0, 3, 4, 13] ?_
      generalize hK : AW Try.prog _ _ _ = K
      simp only [go_sem, ↓reduceIte, reduceCtorEq, Nat.reduceAdd, Nat.reduceSub, Nat.reduceMul, Nat.reduceEqDiff, Nat.reduceLT, Nat.reduceLeDiff, Nat.reduceBEq, Int.reduceAdd, Int.reduceSub, Int.reduceLT, Int.reduceLE, Int.reduceEq, Int.reduceToNat, eq_false c33]
      subst hK
      refine AW.ifBF rfl rfl ?_
      refine AW.exit ?_
      refine thenA_x ?_
      refine thenA_x ?_
      refine ⟨_, (Option.some.inj h).symm, _, ?_, rfl, rfl⟩
      refine Ent.can [] _ _ _ rfl (by first | decide | simp) rfl ?_ ?_ ?_
      · exact (RF.any.pv (by first | rfl | simp only [go_sem]) (by first | rfl | simp [upd_ap, hpL_ap, tau, mapT, mapTL, bytesI_len, eq_false c33]))
      · exact .nil _
      · exact .nil _
  · intro e st' hX
    rcases y52 with y53 | _ <;> dsimp only at h hX
    · obtain ⟨rfl, hf⟩ := hX
      refine ⟨_, Ent.refl, ?_⟩
      refine block_r ?_
      refine thenA_r ?_
      obtain rfl := Option.some.inj h
      exact hf
    · obtain ⟨rfl, rfl⟩ := hX
      refine ⟨_, Ent.refl, ?_⟩
      refine block_x ?_
      refine thenA_n ?_
      refine AW.regL [2] ?_
      generalize hK : AW Try.prog _ _ _ = K
      simp only [go_sem, ↓reduceIte, reduceCtorEq, Nat.reduceAdd, Nat.reduceSub, Nat.reduceMul, Nat.reduceEqDiff, Nat.reduceLT, Nat.reduceLeDiff, Nat.reduceBEq, Int.reduceAdd, Int.reduceSub, Int.reduceLT, Int.reduceLE, Int.reduceEq, Int.reduceToNat]
      subst hK
      refine AW.ret ?_
      obtain rfl := Option.some.inj h
      (simp only [go_sem, ↓reduceIte, reduceCtorEq, Nat.reduceAdd, Nat.reduceSub, Nat.reduceMul, Nat.reduceEqDiff, Nat.reduceLT, Nat.reduceLeDiff, Nat.reduceBEq, Int.reduceAdd, Int.reduceSub, Int.reduceLT, Int.reduceLE, Int.reduceEq, Int.reduceToNat, finA, resA, resOf_1, resOf_2, sealV_val, sealV_sl, sealV_ip, sealV_agg, sealV_tup, sealV_own, sealL_nil, sealL_cons] <;> try simp)
end Au
end Go.Proofs.Y1
