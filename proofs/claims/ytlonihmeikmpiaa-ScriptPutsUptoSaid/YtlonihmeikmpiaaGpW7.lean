import Derived.Test.YtlonihmeikmpiaaGpW1
import Derived.Test.YtlonihmeikmpiaaGpW3
import Derived.Test.YtlonihmeikmpiaaGpW6
set_option linter.all false
set_option linter.unusedVariables false
set_option linter.unusedSimpArgs false
set_option linter.all false
set_option maxRecDepth 8000
namespace Go.Proofs.Y1
open Go.Gm
namespace Au
noncomputable def f45_s1 (a0 : Run) : (List Int) × Int → Option (((List Int) × Int) ⊕ (((List Int) × Int) ⊕ (List Int)))
  | (s1_0, s1_1) => (if s1_1 < (a0.Steps.length : Int) then ((ix a0.Steps s1_1).bind fun x32 => (if 65536 < (x32.Keep.length : Int) then some (.inr (.inl ([], 9))) else ((f88 [] [x32.Do, x32.Node, x32.I, x32.J]).bind fun x35 => ((f87 x35 (IntKind.u64.wrap (x32.Keep.length : Int))).bind fun x36 => ((f88 x36 x32.Keep).bind fun x37 => ((appO? s1_0 x37).bind fun x38 => some (.inl (x38, IntKind.i64.wrap (s1_1 + 1))))))))) else some (.inr (.inr s1_0)))
noncomputable def f45 (a0 : Run) : Option ((List Int) × Int) := (if 1048576 < (maxI (a0.Text.length : Int) (a0.Input.length : Int)) then some ([], 5) else (if 16384 < (a0.Steps.length : Int) then some ([], 9) else ((f86 [] (strOfNums a0.Text)).bind fun x5 => ((f86 x5 (strOfNums a0.Input)).bind fun x6 => ((f88 x6 [a0.Cfg.Workers, a0.Cfg.Per, a0.Cfg.Timeout, a0.Cfg.Tries, a0.Cfg.Room]).bind fun x7 => ((f87 x7 (IntKind.u64.wrap (a0.Steps.length : Int))).bind fun x8 => ((loopO (f45_s1 a0) (x8, 0)).bind fun y39 => match y39 with | .inl y40 => some y40 | .inr y41 => some (y41, 0))))))))
theorem ok45 (a0 : Run) (r : (List Int) × Int) (h : f45 a0 = some r) : PC Try.prog 45 [.agg (encRun a0)] (.tup [.fr 1 (List.map enc5 r.1), .val (.int .i64 r.2)]) := by
  rw [f45] at h
  refine pc_of8 (N := 85) (rs := [.tmp 2, .tmp 3]) Try.func45 rfl rfl rfl (Nat.le_of_ble_eq_true rfl) ?_
  refine AW.regL [1] ?_
  generalize hK : AW Try.prog _ _ _ = K
  simp only [go_sem, ↓reduceIte, reduceCtorEq, Nat.reduceAdd, Nat.reduceSub, Nat.reduceMul, Nat.reduceEqDiff, Nat.reduceLT, Nat.reduceLeDiff, Nat.reduceBEq, Int.reduceAdd, Int.reduceSub, Int.reduceLT, Int.reduceLE, Int.reduceEq, Int.reduceToNat]
  subst hK
  refine AW.seq ?_
  refine AW.block ?_
  refine AW.regL [1, 9] ?_
  generalize hK : AW Try.prog _ _ _ = K
  simp only [go_sem, ↓reduceIte, reduceCtorEq, Nat.reduceAdd, Nat.reduceSub, Nat.reduceMul, Nat.reduceEqDiff, Nat.reduceLT, Nat.reduceLeDiff, Nat.reduceBEq, Int.reduceAdd, Int.reduceSub, Int.reduceLT, Int.reduceLE, Int.reduceEq, Int.reduceToNat]
  subst hK
  by_cases c3 : 1048576 < (maxI (a0.Text.length : Int) (a0.Input.length : Int))
  · rw [if_pos c3] at h
    refine AW.ifT rfl c3 ?_
    refine AW.regL [2, 3] ?_
    generalize hK : AW Try.prog _ _ _ = K
    simp only [go_sem, ↓reduceIte, reduceCtorEq, Nat.reduceAdd, Nat.reduceSub, Nat.reduceMul, Nat.reduceEqDiff, Nat.reduceLT, Nat.reduceLeDiff, Nat.reduceBEq, Int.reduceAdd, Int.reduceSub, Int.reduceLT, Int.reduceLE, Int.reduceEq, Int.reduceToNat, eq_true c3]
    subst hK
    refine AW.ent (Ent.nilOwn 2 1 (by decide) rfl) ?_
    refine AW.ret ?_
    refine block_r ?_
    refine thenA_r ?_
    obtain rfl := Option.some.inj h
    (simp only [go_sem, ↓reduceIte, reduceCtorEq, Nat.reduceAdd, Nat.reduceSub, Nat.reduceMul, Nat.reduceEqDiff, Nat.reduceLT, Nat.reduceLeDiff, Nat.reduceBEq, Int.reduceAdd, Int.reduceSub, Int.reduceLT, Int.reduceLE, Int.reduceEq, Int.reduceToNat, eq_true c3, finA, resA, resOf_1, resOf_2, sealV_val, sealV_sl, sealV_ip, sealV_agg, sealV_tup, sealV_own, sealL_nil, sealL_cons] <;> try simp)
  · rw [if_neg c3] at h
    refine AW.ifF rfl c3 ?_
    refine AW.regL [1, 18] ?_
    generalize hK : AW Try.prog _ _ _ = K
    simp only [go_sem, ↓reduceIte, reduceCtorEq, Nat.reduceAdd, Nat.reduceSub, Nat.reduceMul, Nat.reduceEqDiff, Nat.reduceLT, Nat.reduceLeDiff, Nat.reduceBEq, Int.reduceAdd, Int.reduceSub, Int.reduceLT, Int.reduceLE, Int.reduceEq, Int.reduceToNat, eq_false c3]
    subst hK
    by_cases c4 : 16384 < (a0.Steps.length : Int)
    · rw [if_pos c4] at h
      refine AW.ifT rfl c4 ?_
      refine AW.regL [2, 3] ?_
      generalize hK : AW Try.prog _ _ _ = K
      simp only [go_sem, ↓reduceIte, reduceCtorEq, Nat.reduceAdd, Nat.reduceSub, Nat.reduceMul, Nat.reduceEqDiff, Nat.reduceLT, Nat.reduceLeDiff, Nat.reduceBEq, Int.reduceAdd, Int.reduceSub, Int.reduceLT, Int.reduceLE, Int.reduceEq, Int.reduceToNat, eq_false c3, eq_true c4]
      subst hK
      refine AW.ent (Ent.nilOwn 2 1 (by decide) rfl) ?_
      refine AW.ret ?_
      refine block_r ?_
      refine thenA_r ?_
      obtain rfl := Option.some.inj h
      (simp only [go_sem, ↓reduceIte, reduceCtorEq, Nat.reduceAdd, Nat.reduceSub, Nat.reduceMul, Nat.reduceEqDiff, Nat.reduceLT, Nat.reduceLeDiff, Nat.reduceBEq, Int.reduceAdd, Int.reduceSub, Int.reduceLT, Int.reduceLE, Int.reduceEq, Int.reduceToNat, eq_false c3, eq_true c4, finA, resA, resOf_1, resOf_2, sealV_val, sealV_sl, sealV_ip, sealV_agg, sealV_tup, sealV_own, sealL_nil, sealL_cons] <;> try simp)
    · rw [if_neg c4] at h
      refine AW.ifF rfl c4 ?_
      refine AW.skip ?_
      refine block_n ?_
      refine thenA_n ?_
      obtain ⟨x5, hx5, h⟩ := Option.bind_eq_some_iff.1 h
      obtain ⟨x6, hx6, h⟩ := Option.bind_eq_some_iff.1 h
      refine AW.regdL [1, 4] [[], [0], [0, 1], [0, 1, 2], [], [4], [4, 5], [0, 1, 2, 3, 4, 5, 6], [0, 1, 2, 3, 4, 5, 6, 7]] [0, 1, 2, 3, 4, 5, 6, 7, 8] noFt (fun _ _ _ h => by simp [noFt] at h) draws (by kernel_rfl) (by kernel_rfl) ?_
      generalize hK : AW Try.prog _ _ _ = K
      simp only [go_sem, ↓reduceIte, reduceCtorEq, Nat.reduceAdd, Nat.reduceSub, Nat.reduceMul, Nat.reduceEqDiff, Nat.reduceLT, Nat.reduceLeDiff, Nat.reduceBEq, Int.reduceAdd, Int.reduceSub, Int.reduceLT, Int.reduceLE, Int.reduceEq, Int.reduceToNat, eq_false c3, eq_false c4, byteNums_map (enc := enc5) (fun _ => rfl)]
      refine adN.pc (ok86 [] (strOfNums a0.Text) x5 hx5) Try.call86 callV_fn (by simp only [go_sem, ↓reduceIte, reduceCtorEq, Nat.reduceAdd, Nat.reduceSub, Nat.reduceMul, Nat.reduceEqDiff, Nat.reduceLT, Nat.reduceLeDiff, Nat.reduceBEq, Int.reduceAdd, Int.reduceSub, Int.reduceLT, Int.reduceLE, Int.reduceEq, Int.reduceToNat, eq_false c3, eq_false c4, byteNums_map (enc := enc5) (fun _ => rfl)]) (by simp only [go_sem, ↓reduceIte, reduceCtorEq, Nat.reduceAdd, Nat.reduceSub, Nat.reduceMul, Nat.reduceEqDiff, Nat.reduceLT, Nat.reduceLeDiff, Nat.reduceBEq, Int.reduceAdd, Int.reduceSub, Int.reduceLT, Int.reduceLE, Int.reduceEq, Int.reduceToNat]) ?_
      simp only [go_sem, ↓reduceIte, reduceCtorEq, Nat.reduceAdd, Nat.reduceSub, Nat.reduceMul, Nat.reduceEqDiff, Nat.reduceLT, Nat.reduceLeDiff, Nat.reduceBEq, Int.reduceAdd, Int.reduceSub, Int.reduceLT, Int.reduceLE, Int.reduceEq, Int.reduceToNat, eq_false c3, eq_false c4, byteNums_map (enc := enc5) (fun _ => rfl)]
      refine adN.pc (ok86 x5 (strOfNums a0.Input) x6 hx6) Try.call86 callV_fn (by simp only [go_sem, ↓reduceIte, reduceCtorEq, Nat.reduceAdd, Nat.reduceSub, Nat.reduceMul, Nat.reduceEqDiff, Nat.reduceLT, Nat.reduceLeDiff, Nat.reduceBEq, Int.reduceAdd, Int.reduceSub, Int.reduceLT, Int.reduceLE, Int.reduceEq, Int.reduceToNat, eq_false c3, eq_false c4, byteNums_map (enc := enc5) (fun _ => rfl)]) (by simp only [go_sem, ↓reduceIte, reduceCtorEq, Nat.reduceAdd, Nat.reduceSub, Nat.reduceMul, Nat.reduceEqDiff, Nat.reduceLT, Nat.reduceLeDiff, Nat.reduceBEq, Int.reduceAdd, Int.reduceSub, Int.reduceLT, Int.reduceLE, Int.reduceEq, Int.reduceToNat]) ?_
      simp only [go_sem, ↓reduceIte, reduceCtorEq, Nat.reduceAdd, Nat.reduceSub, Nat.reduceMul, Nat.reduceEqDiff, Nat.reduceLT, Nat.reduceLeDiff, Nat.reduceBEq, Int.reduceAdd, Int.reduceSub, Int.reduceLT, Int.reduceLE, Int.reduceEq, Int.reduceToNat, eq_false c3, eq_false c4, byteNums_map (enc := enc5) (fun _ => rfl)]
      subst hK
      refine AW.regL [1, 4, 5] ?_
      generalize hK : AW Try.prog _ _ _ = K
      simp only [go_sem, ↓reduceIte, reduceCtorEq, Nat.reduceAdd, Nat.reduceSub, Nat.reduceMul, Nat.reduceEqDiff, Nat.reduceLT, Nat.reduceLeDiff, Nat.reduceBEq, Int.reduceAdd, Int.reduceSub, Int.reduceLT, Int.reduceLE, Int.reduceEq, Int.reduceToNat, eq_false c3, eq_false c4]
      subst hK
      obtain ⟨x7, hx7, h⟩ := Option.bind_eq_some_iff.1 h
      obtain ⟨x8, hx8, h⟩ := Option.bind_eq_some_iff.1 h
      refine AW.regdL [1, 4] [[], [], [1], [], [3], [], [5], [], [7], [], [9], [1, 2, 3, 4, 5, 6, 7, 8, 9, 10], [0, 1, 2, 3, 4, 5, 6, 7, 8, 9, 10, 11], [], [13], [13, 14], [13, 14, 15], [0, 1, 2, 3, 4, 5, 6, 7, 8, 9, 10, 11, 12, 13, 14, 15, 16], [0, 1, 2, 3, 4, 5, 6, 7, 8, 9, 10, 11, 12, 13, 14, 15, 16, 17]] [0, 1, 2, 3, 4, 5, 6, 7, 8, 9, 10, 11, 12, 13, 14, 15, 16, 17, 18] noFt (fun _ _ _ h => by simp [noFt] at h) draws (by kernel_rfl) (by kernel_rfl) ?_
      generalize hK : AW Try.prog _ _ _ = K
      simp only [go_sem, ↓reduceIte, reduceCtorEq, Nat.reduceAdd, Nat.reduceSub, Nat.reduceMul, Nat.reduceEqDiff, Nat.reduceLT, Nat.reduceLeDiff, Nat.reduceBEq, Int.reduceAdd, Int.reduceSub, Int.reduceLT, Int.reduceLE, Int.reduceEq, Int.reduceToNat, eq_false c3, eq_false c4]
      refine adN.pc (ok88 x6 [a0.Cfg.Workers, a0.Cfg.Per, a0.Cfg.Timeout, a0.Cfg.Tries, a0.Cfg.Room] x7 hx7) Try.call88 callV_fn (by simp only [go_sem, ↓reduceIte, reduceCtorEq, Nat.reduceAdd, Nat.reduceSub, Nat.reduceMul, Nat.reduceEqDiff, Nat.reduceLT, Nat.reduceLeDiff, Nat.reduceBEq, Int.reduceAdd, Int.reduceSub, Int.reduceLT, Int.reduceLE, Int.reduceEq, Int.reduceToNat, eq_false c3, eq_false c4]) (by simp only [go_sem, ↓reduceIte, reduceCtorEq, Nat.reduceAdd, Nat.reduceSub, Nat.reduceMul, Nat.reduceEqDiff, Nat.reduceLT, Nat.reduceLeDiff, Nat.reduceBEq, Int.reduceAdd, Int.reduceSub, Int.reduceLT, Int.reduceLE, Int.reduceEq, Int.reduceToNat]) ?_
      simp only [go_sem, ↓reduceIte, reduceCtorEq, Nat.reduceAdd, Nat.reduceSub, Nat.reduceMul, Nat.reduceEqDiff, Nat.reduceLT, Nat.reduceLeDiff, Nat.reduceBEq, Int.reduceAdd, Int.reduceSub, Int.reduceLT, Int.reduceLE, Int.reduceEq, Int.reduceToNat, eq_false c3, eq_false c4]
      refine adN.pc (ok87 x7 (IntKind.u64.wrap (a0.Steps.length : Int)) x8 hx8) Try.call87 callV_fn (by simp only [go_sem, ↓reduceIte, reduceCtorEq, Nat.reduceAdd, Nat.reduceSub, Nat.reduceMul, Nat.reduceEqDiff, Nat.reduceLT, Nat.reduceLeDiff, Nat.reduceBEq, Int.reduceAdd, Int.reduceSub, Int.reduceLT, Int.reduceLE, Int.reduceEq, Int.reduceToNat, eq_false c3, eq_false c4]) (by simp only [go_sem, ↓reduceIte, reduceCtorEq, Nat.reduceAdd, Nat.reduceSub, Nat.reduceMul, Nat.reduceEqDiff, Nat.reduceLT, Nat.reduceLeDiff, Nat.reduceBEq, Int.reduceAdd, Int.reduceSub, Int.reduceLT, Int.reduceLE, Int.reduceEq, Int.reduceToNat]) ?_
      simp only [go_sem, ↓reduceIte, reduceCtorEq, Nat.reduceAdd, Nat.reduceSub, Nat.reduceMul, Nat.reduceEqDiff, Nat.reduceLT, Nat.reduceLeDiff, Nat.reduceBEq, Int.reduceAdd, Int.reduceSub, Int.reduceLT, Int.reduceLE, Int.reduceEq, Int.reduceToNat, eq_false c3, eq_false c4]
      subst hK
      refine AW.seq ?_
      refine AW.regL [4, 52, 53, 54] ?_
      generalize hK : AW Try.prog _ _ _ = K
      simp only [go_sem, ↓reduceIte, reduceCtorEq, Nat.reduceAdd, Nat.reduceSub, Nat.reduceMul, Nat.reduceEqDiff, Nat.reduceLT, Nat.reduceLeDiff, Nat.reduceBEq, Int.reduceAdd, Int.reduceSub, Int.reduceLT, Int.reduceLE, Int.reduceEq, Int.reduceToNat, eq_false c3, eq_false c4]
      subst hK
      refine AW.block ?_
      obtain ⟨y39, hy39, h⟩ := Option.bind_eq_some_iff.1 h
      refine AW.loopO (fun s => ⟨(upd (upd (upd (upd anyF 4 (.own 8 0 s.1.length)) 52 (.sl (List.map encStep a0.Steps))) 53 (.val (.int .i64 (a0.Steps.length : Int)))) 54 (.val (.int .i64 s.2))), hpL [] [some (.row 1 true (List.map enc5 s.1))], 9⟩) (fun y e st' => match y with | .inl z => e = Exit.ret ∧ finA Try.prog [.tmp 2, .tmp 3] (.tup [.fr 1 (List.map enc5 z.1), .val (.int .i64 z.2)]) .ret st' | .inr z => e = Exit.exit 1 ∧ st' = ⟨(upd anyF 4 (.own 8 0 z.length)), hpL [] [some (.row 1 true (List.map enc5 z))], 9⟩) hy39 ?_ ?_ ?_
      · refine Ent.can [384] _ _ _ rfl (by first | decide | simp) rfl ?_ ?_ ?_
        · exact ((((RF.any.po (by decide) (by first | rfl | simp [upd_ap, hpL_ap, tau, mapT, mapTL, bytesI_len, eq_false c3, eq_false c4])).pv (by first | rfl | simp only [go_sem]) (by first | rfl | simp [upd_ap, hpL_ap, tau, mapT, mapTL, bytesI_len, eq_false c3, eq_false c4])).pv (by first | rfl | simp only [go_sem]) (by first | rfl | simp [upd_ap, hpL_ap, tau, mapT, mapTL, bytesI_len, eq_false c3, eq_false c4])).pv (by first | rfl | simp only [go_sem]) (by first | rfl | simp [upd_ap, hpL_ap, tau, mapT, mapTL, bytesI_len, eq_false c3, eq_false c4]))
        · exact .nil _
        · exact .cons (.eq (by first | rfl | simp only [go_sem]) (by first | rfl | simp [upd_ap, hpL_ap, tau, mapT, mapTL, bytesI_len, eq_false c3, eq_false c4])) (.nil _)
      · clear h hy39
        rintro ⟨s1_0, s1_1⟩ x h
        rw [f45_s1] at h
        refine AW.regL [4, 52, 53, 54, 55] ?_
        generalize hK : AW Try.prog _ _ _ = K
        simp only [go_sem, ↓reduceIte, reduceCtorEq, Nat.reduceAdd, Nat.reduceSub, Nat.reduceMul, Nat.reduceEqDiff, Nat.reduceLT, Nat.reduceLeDiff, Nat.reduceBEq, Int.reduceAdd, Int.reduceSub, Int.reduceLT, Int.reduceLE, Int.reduceEq, Int.reduceToNat, eq_false c3, eq_false c4]
        subst hK
        refine AW.seq ?_
        by_cases c31 : s1_1 < (a0.Steps.length : Int)
        · rw [if_pos c31] at h
          refine AW.ifT rfl c31 ?_
          refine AW.skip ?_
          refine thenA_n ?_
          refine AW.seq ?_
          refine AW.block ?_
          obtain ⟨x32, hx32, h⟩ := Option.bind_eq_some_iff.1 h
          obtain ⟨hx32a, hx32b⟩ := ix_some.1 hx32
          refine AW.regL [4, 7, 52, 53, 54] ?_
          generalize hK : AW Try.prog _ _ _ = K
          simp only [go_sem, ↓reduceIte, reduceCtorEq, Nat.reduceAdd, Nat.reduceSub, Nat.reduceMul, Nat.reduceEqDiff, Nat.reduceLT, Nat.reduceLeDiff, Nat.reduceBEq, Int.reduceAdd, Int.reduceSub, Int.reduceLT, Int.reduceLE, Int.reduceEq, Int.reduceToNat, eq_false c3, eq_false c4, eq_true c31, natOf_le hx32a, hx32b]
          subst hK
          refine AW.seq ?_
          refine AW.regL [4, 7, 52, 53, 54, 61] ?_
          generalize hK : AW Try.prog _ _ _ = K
          simp only [go_sem, ↓reduceIte, reduceCtorEq, Nat.reduceAdd, Nat.reduceSub, Nat.reduceMul, Nat.reduceEqDiff, Nat.reduceLT, Nat.reduceLeDiff, Nat.reduceBEq, Int.reduceAdd, Int.reduceSub, Int.reduceLT, Int.reduceLE, Int.reduceEq, Int.reduceToNat, eq_false c3, eq_false c4, eq_true c31]
          subst hK
          by_cases c34 : 65536 < (x32.Keep.length : Int)
          · rw [if_pos c34] at h
            refine AW.ifT rfl c34 ?_
            refine AW.regL [2, 3] ?_
            generalize hK : AW Try.prog _ _ _ = K
            simp only [go_sem, ↓reduceIte, reduceCtorEq, Nat.reduceAdd, Nat.reduceSub, Nat.reduceMul, Nat.reduceEqDiff, Nat.reduceLT, Nat.reduceLeDiff, Nat.reduceBEq, Int.reduceAdd, Int.reduceSub, Int.reduceLT, Int.reduceLE, Int.reduceEq, Int.reduceToNat, eq_false c3, eq_false c4, eq_true c31, eq_true c34]
            subst hK
            refine AW.ent (Ent.nilOwn 2 1 (by decide) rfl) ?_
            refine AW.ret ?_
            refine thenA_r ?_
            refine block_r ?_
            refine thenA_r ?_
            refine thenA_r ?_
            refine ⟨_, (Option.some.inj h).symm, _, Ent.refl, rfl, ?_⟩
            (simp only [go_sem, ↓reduceIte, reduceCtorEq, Nat.reduceAdd, Nat.reduceSub, Nat.reduceMul, Nat.reduceEqDiff, Nat.reduceLT, Nat.reduceLeDiff, Nat.reduceBEq, Int.reduceAdd, Int.reduceSub, Int.reduceLT, Int.reduceLE, Int.reduceEq, Int.reduceToNat, eq_false c3, eq_false c4, eq_true c31, eq_true c34, finA, resA, resOf_1, resOf_2, sealV_val, sealV_sl, sealV_ip, sealV_agg, sealV_tup, sealV_own, sealL_nil, sealL_cons] <;> try simp)
          · rw [if_neg c34] at h
            refine AW.ifF rfl c34 ?_
            refine AW.skip ?_
            refine thenA_n ?_
            obtain ⟨x35, hx35, h⟩ := Option.bind_eq_some_iff.1 h
            obtain ⟨x36, hx36, h⟩ := Option.bind_eq_some_iff.1 h
            refine AW.regdL [4, 7, 8, 52, 53, 54] [[], [0], [], [2], [], [4], [], [6], [0, 1, 2, 3, 4, 5, 6, 7], [0, 1, 2, 3, 4, 5, 6, 7, 8], [], [10], [10, 11], [10, 11, 12], [0, 1, 2, 3, 4, 5, 6, 7, 8, 9, 10, 11, 12, 13], [0, 1, 2, 3, 4, 5, 6, 7, 8, 9, 10, 11, 12, 13, 14]] [0, 1, 2, 3, 4, 5, 6, 7, 8, 9, 10, 11, 12, 13, 14, 15] noFt (fun _ _ _ h => by simp [noFt] at h) draws (by kernel_rfl) (by kernel_rfl) ?_
            generalize hK : AW Try.prog _ _ _ = K
            simp only [go_sem, ↓reduceIte, reduceCtorEq, Nat.reduceAdd, Nat.reduceSub, Nat.reduceMul, Nat.reduceEqDiff, Nat.reduceLT, Nat.reduceLeDiff, Nat.reduceBEq, Int.reduceAdd, Int.reduceSub, Int.reduceLT, Int.reduceLE, Int.reduceEq, Int.reduceToNat, eq_false c3, eq_false c4, eq_true c31, eq_false c34]
            refine adN.pc (ok88 [] [x32.Do, x32.Node, x32.I, x32.J] x35 hx35) Try.call88 callV_fn (by simp only [go_sem, ↓reduceIte, reduceCtorEq, Nat.reduceAdd, Nat.reduceSub, Nat.reduceMul, Nat.reduceEqDiff, Nat.reduceLT, Nat.reduceLeDiff, Nat.reduceBEq, Int.reduceAdd, Int.reduceSub, Int.reduceLT, Int.reduceLE, Int.reduceEq, Int.reduceToNat, eq_false c3, eq_false c4, eq_true c31, eq_false c34]) (by simp only [go_sem, ↓reduceIte, reduceCtorEq, Nat.reduceAdd, Nat.reduceSub, Nat.reduceMul, Nat.reduceEqDiff, Nat.reduceLT, Nat.reduceLeDiff, Nat.reduceBEq, Int.reduceAdd, Int.reduceSub, Int.reduceLT, Int.reduceLE, Int.reduceEq, Int.reduceToNat]) ?_
            simp only [go_sem, ↓reduceIte, reduceCtorEq, Nat.reduceAdd, Nat.reduceSub, Nat.reduceMul, Nat.reduceEqDiff, Nat.reduceLT, Nat.reduceLeDiff, Nat.reduceBEq, Int.reduceAdd, Int.reduceSub, Int.reduceLT, Int.reduceLE, Int.reduceEq, Int.reduceToNat, eq_false c3, eq_false c4, eq_true c31, eq_false c34]
            refine adN.pc (ok87 x35 (IntKind.u64.wrap (x32.Keep.length : Int)) x36 hx36) Try.call87 callV_fn (by simp only [go_sem, ↓reduceIte, reduceCtorEq, Nat.reduceAdd, Nat.reduceSub, Nat.reduceMul, Nat.reduceEqDiff, Nat.reduceLT, Nat.reduceLeDiff, Nat.reduceBEq, Int.reduceAdd, Int.reduceSub, Int.reduceLT, Int.reduceLE, Int.reduceEq, Int.reduceToNat, eq_false c3, eq_false c4, eq_true c31, eq_false c34]) (by simp only [go_sem, ↓reduceIte, reduceCtorEq, Nat.reduceAdd, Nat.reduceSub, Nat.reduceMul, Nat.reduceEqDiff, Nat.reduceLT, Nat.reduceLeDiff, Nat.reduceBEq, Int.reduceAdd, Int.reduceSub, Int.reduceLT, Int.reduceLE, Int.reduceEq, Int.reduceToNat]) ?_
            simp only [go_sem, ↓reduceIte, reduceCtorEq, Nat.reduceAdd, Nat.reduceSub, Nat.reduceMul, Nat.reduceEqDiff, Nat.reduceLT, Nat.reduceLeDiff, Nat.reduceBEq, Int.reduceAdd, Int.reduceSub, Int.reduceLT, Int.reduceLE, Int.reduceEq, Int.reduceToNat, eq_false c3, eq_false c4, eq_true c31, eq_false c34]
            subst hK
            obtain ⟨x37, hx37, h⟩ := Option.bind_eq_some_iff.1 h
            obtain ⟨x38, hx38, h⟩ := Option.bind_eq_some_iff.1 h
            obtain ⟨hx38b, hx38e⟩ := appO?_some.1 hx38
            have hx38f : ∀ id o : Nat, appO 1 1 id (List.map enc5 x37) 0 s1_0.length o (some (.row 1 true (List.map enc5 s1_0))) = some ⟨.own id 0 x38.length, [(o, none), (id, some (.row 1 true (List.map enc5 x38)))]⟩ := fun id o => by
              subst hx38e; rw [appO_ok (by simp) (by simpa using hx38b) (by decide)]; first | (simp [enc5]; done) | (simp [enc5]; omega)
            refine AW.regionL [4, 52, 53, 54] ?_
            generalize hK : inBlockA _ _ Exit.normal = K
            simp only [go_sem, ↓reduceIte, reduceCtorEq, Nat.reduceAdd, Nat.reduceSub, Nat.reduceMul, Nat.reduceEqDiff, Nat.reduceLT, Nat.reduceLeDiff, Nat.reduceBEq, Int.reduceAdd, Int.reduceSub, Int.reduceLT, Int.reduceLE, Int.reduceEq, Int.reduceToNat, eq_false c3, eq_false c4, eq_true c31, eq_false c34, hx38f]
            refine arC.of (ok88 x36 x32.Keep x37 hx37) Try.call88 ?_
            simp only [go_sem, ↓reduceIte, reduceCtorEq, Nat.reduceAdd, Nat.reduceSub, Nat.reduceMul, Nat.reduceEqDiff, Nat.reduceLT, Nat.reduceLeDiff, Nat.reduceBEq, Int.reduceAdd, Int.reduceSub, Int.reduceLT, Int.reduceLE, Int.reduceEq, Int.reduceToNat, eq_false c3, eq_false c4, eq_true c31, eq_false c34, hx38f]
            subst hK
            refine block_n ?_
            refine thenA_n ?_
            refine AW.regionL [4, 52, 53, 54] ?_
            generalize hK : thenA _ _ Exit.normal = K
            simp only [go_sem, ↓reduceIte, reduceCtorEq, Nat.reduceAdd, Nat.reduceSub, Nat.reduceMul, Nat.reduceEqDiff, Nat.reduceLT, Nat.reduceLeDiff, Nat.reduceBEq, Int.reduceAdd, Int.reduceSub, Int.reduceLT, Int.reduceLE, Int.reduceEq, Int.reduceToNat, eq_false c3, eq_false c4, eq_true c31, eq_false c34]
            subst hK
            refine thenA_n ?_
            refine ⟨_, (Option.some.inj h).symm, ?_⟩
            refine Ent.can [249] _ _ _ rfl (by first | decide | simp) rfl ?_ ?_ ?_
            · exact ((((RF.any.po (by decide) (by first | rfl | simp [upd_ap, hpL_ap, tau, mapT, mapTL, bytesI_len, eq_false c3, eq_false c4, eq_true c31, eq_false c34])).pv (by first | rfl | simp only [go_sem]) (by first | rfl | simp [upd_ap, hpL_ap, tau, mapT, mapTL, bytesI_len, eq_false c3, eq_false c4, eq_true c31, eq_false c34])).pv (by first | rfl | simp only [go_sem]) (by first | rfl | simp [upd_ap, hpL_ap, tau, mapT, mapTL, bytesI_len, eq_false c3, eq_false c4, eq_true c31, eq_false c34])).pv (by first | rfl | simp only [go_sem]) (by first | rfl | simp [upd_ap, hpL_ap, tau, mapT, mapTL, bytesI_len, eq_false c3, eq_false c4, eq_true c31, eq_false c34]))
            · exact .nil _
            · exact .cons (.eq (by first | rfl | simp only [go_sem]) (by first | rfl | simp [upd_ap, hpL_ap, tau, mapT, mapTL, bytesI_len, eq_false c3, eq_false c4, eq_true c31, eq_false c34])) (.nil _)
        · rw [if_neg c31] at h
          refine AW.ifF rfl c31 ?_
          refine AW.exit ?_
          refine thenA_x ?_
          refine thenA_x ?_
          refine ⟨_, (Option.some.inj h).symm, _, ?_, rfl, rfl⟩
          refine Ent.can [8] _ _ _ rfl (by first | decide | simp) rfl ?_ ?_ ?_
          · exact (RF.any.po (by decide) (by first | rfl | simp [upd_ap, hpL_ap, tau, mapT, mapTL, bytesI_len, eq_false c3, eq_false c4, eq_false c31]))
          · exact .nil _
          · exact .cons (.eq (by first | rfl | simp only [go_sem]) (by first | rfl | simp [upd_ap, hpL_ap, tau, mapT, mapTL, bytesI_len, eq_false c3, eq_false c4, eq_false c31])) (.nil _)
      · intro e st' hX
        rcases y39 with y40 | y41 <;> dsimp only at h hX
        · obtain ⟨rfl, hf⟩ := hX
          refine ⟨_, Ent.refl, ?_⟩
          refine block_r ?_
          refine thenA_r ?_
          obtain rfl := Option.some.inj h
          exact hf
        · obtain ⟨rfl, rfl⟩ := hX
          refine ⟨_, Ent.refl, ?_⟩
          refine block_x ?_
          refine thenA_n ?_
          refine AW.regL [2, 3] ?_
          generalize hK : AW Try.prog _ _ _ = K
          simp only [go_sem, ↓reduceIte, reduceCtorEq, Nat.reduceAdd, Nat.reduceSub, Nat.reduceMul, Nat.reduceEqDiff, Nat.reduceLT, Nat.reduceLeDiff, Nat.reduceBEq, Int.reduceAdd, Int.reduceSub, Int.reduceLT, Int.reduceLE, Int.reduceEq, Int.reduceToNat, eq_false c3, eq_false c4]
          subst hK
          refine AW.ret ?_
          obtain rfl := Option.some.inj h
          (simp only [go_sem, ↓reduceIte, reduceCtorEq, Nat.reduceAdd, Nat.reduceSub, Nat.reduceMul, Nat.reduceEqDiff, Nat.reduceLT, Nat.reduceLeDiff, Nat.reduceBEq, Int.reduceAdd, Int.reduceSub, Int.reduceLT, Int.reduceLE, Int.reduceEq, Int.reduceToNat, eq_false c3, eq_false c4, finA, resA, resOf_1, resOf_2, sealV_val, sealV_sl, sealV_ip, sealV_agg, sealV_tup, sealV_own, sealL_nil, sealL_cons] <;> try simp)
end Au
end Go.Proofs.Y1

set_option linter.all false
set_option maxRecDepth 8000
namespace Go.Proofs.Y1
open Go.Gm
namespace Au
noncomputable def f46_s1 (a0 : Run) : (List Int) × Int → Option (((List Int) × Int) ⊕ (List Int))
  | (s1_0, s1_1) => (if s1_1 < (a0.Steps.length : Int) then ((ix a0.Steps s1_1).bind fun x28 => ((f90 [x28.Do, x28.Node, x28.I, x28.J]).bind fun x29 => ((appO? s1_0 x29).bind fun x30 => ((f91 (IntKind.u64.wrap (x28.Keep.length : Int))).bind fun x31 => ((appO? x30 x31).bind fun x32 => ((f90 x28.Keep).bind fun x33 => ((appO? x32 x33).bind fun x34 => some (.inl (x34, IntKind.i64.wrap (s1_1 + 1)))))))))) else some (.inr s1_0))
noncomputable def f46 (a0 : Run) : Option (List Int) := ((f89 (strOfNums a0.Text)).bind fun x1 => ((f89 (strOfNums a0.Input)).bind fun x2 => ((appO? x1 x2).bind fun x3 => ((f90 [a0.Cfg.Workers, a0.Cfg.Per, a0.Cfg.Timeout, a0.Cfg.Tries, a0.Cfg.Room]).bind fun x4 => ((appO? x3 x4).bind fun x5 => ((f91 (IntKind.u64.wrap (a0.Steps.length : Int))).bind fun x6 => ((appO? x5 x6).bind fun x7 => ((loopO (f46_s1 a0) (x7, 0)).bind fun y36 => some y36))))))))
theorem ok46 (a0 : Run) (r : (List Int)) (h : f46 a0 = some r) : PC Try.prog 46 [.agg (encRun a0)] (.fr 1 (List.map enc5 r)) := by
  rw [f46] at h
  refine pc_of8 (N := 73) (rs := [.tmp 2]) Try.func46 rfl rfl rfl (Nat.le_of_ble_eq_true rfl) ?_
  refine AW.regL [1] ?_
  generalize hK : AW Try.prog _ _ _ = K
  simp only [go_sem, ↓reduceIte, reduceCtorEq, Nat.reduceAdd, Nat.reduceSub, Nat.reduceMul, Nat.reduceEqDiff, Nat.reduceLT, Nat.reduceLeDiff, Nat.reduceBEq, Int.reduceAdd, Int.reduceSub, Int.reduceLT, Int.reduceLE, Int.reduceEq, Int.reduceToNat]
  subst hK
  refine AW.regL [1, 3] ?_
  generalize hK : AW Try.prog _ _ _ = K
  simp only [go_sem, ↓reduceIte, reduceCtorEq, Nat.reduceAdd, Nat.reduceSub, Nat.reduceMul, Nat.reduceEqDiff, Nat.reduceLT, Nat.reduceLeDiff, Nat.reduceBEq, Int.reduceAdd, Int.reduceSub, Int.reduceLT, Int.reduceLE, Int.reduceEq, Int.reduceToNat]
  subst hK
  obtain ⟨x1, hx1, h⟩ := Option.bind_eq_some_iff.1 h
  obtain ⟨x2, hx2, h⟩ := Option.bind_eq_some_iff.1 h
  obtain ⟨x3, hx3, h⟩ := Option.bind_eq_some_iff.1 h
  obtain ⟨hx3b, hx3e⟩ := appO?_some.1 hx3
  have hx3f : ∀ id o : Nat, appO 1 1 id (List.map enc5 x2) 0 x1.length o (some (.row 1 true (List.map enc5 x1))) = some ⟨.own id 0 x3.length, [(o, none), (id, some (.row 1 true (List.map enc5 x3)))]⟩ := fun id o => by
    subst hx3e; rw [appO_ok (by simp) (by simpa using hx3b) (by decide)]; first | (simp [enc5]; done) | (simp [enc5]; omega)
  obtain ⟨x4, hx4, h⟩ := Option.bind_eq_some_iff.1 h
  obtain ⟨x5, hx5, h⟩ := Option.bind_eq_some_iff.1 h
  obtain ⟨hx5b, hx5e⟩ := appO?_some.1 hx5
  have hx5f : ∀ id o : Nat, appO 1 1 id (List.map enc5 x4) 0 x3.length o (some (.row 1 true (List.map enc5 x3))) = some ⟨.own id 0 x5.length, [(o, none), (id, some (.row 1 true (List.map enc5 x5)))]⟩ := fun id o => by
    subst hx5e; rw [appO_ok (by simp) (by simpa using hx5b) (by decide)]; first | (simp [enc5]; done) | (simp [enc5]; omega)
  refine AW.regdL [1, 4] [[], [0], [0, 1], [0, 1, 2], [], [4], [4, 5], [0, 1, 2, 3, 4, 5, 6], [0, 1, 2, 3, 4, 5, 6, 7], [], [9], [], [11], [], [13], [], [15], [], [17], [9, 10, 11, 12, 13, 14, 15, 16, 17, 18], [0, 1, 2, 3, 4, 5, 6, 7, 8, 9, 10, 11, 12, 13, 14, 15, 16, 17, 18, 19], [0, 1, 2, 3, 4, 5, 6, 7, 8, 9, 10, 11, 12, 13, 14, 15, 16, 17, 18, 19, 20], [0, 1, 2, 3, 4, 5, 6, 7, 8, 9, 10, 11, 12, 13, 14, 15, 16, 17, 18, 19, 20, 21]] [0, 1, 2, 3, 4, 5, 6, 7, 8, 9, 10, 11, 12, 13, 14, 15, 16, 17, 18, 19, 20, 21, 22] noFt (fun _ _ _ h => by simp [noFt] at h) draws (by kernel_rfl) (by kernel_rfl) ?_
  generalize hK : AW Try.prog _ _ _ = K
  simp only [go_sem, ↓reduceIte, reduceCtorEq, Nat.reduceAdd, Nat.reduceSub, Nat.reduceMul, Nat.reduceEqDiff, Nat.reduceLT, Nat.reduceLeDiff, Nat.reduceBEq, Int.reduceAdd, Int.reduceSub, Int.reduceLT, Int.reduceLE, Int.reduceEq, Int.reduceToNat, byteNums_map (enc := enc5) (fun _ => rfl), hx3f, hx5f]
  refine adN.pc (ok89 (strOfNums a0.Text) x1 hx1) Try.call89 callV_fn (by simp only [go_sem, ↓reduceIte, reduceCtorEq, Nat.reduceAdd, Nat.reduceSub, Nat.reduceMul, Nat.reduceEqDiff, Nat.reduceLT, Nat.reduceLeDiff, Nat.reduceBEq, Int.reduceAdd, Int.reduceSub, Int.reduceLT, Int.reduceLE, Int.reduceEq, Int.reduceToNat, byteNums_map (enc := enc5) (fun _ => rfl), hx3f, hx5f]) (by simp only [go_sem, ↓reduceIte, reduceCtorEq, Nat.reduceAdd, Nat.reduceSub, Nat.reduceMul, Nat.reduceEqDiff, Nat.reduceLT, Nat.reduceLeDiff, Nat.reduceBEq, Int.reduceAdd, Int.reduceSub, Int.reduceLT, Int.reduceLE, Int.reduceEq, Int.reduceToNat]) ?_
  simp only [go_sem, ↓reduceIte, reduceCtorEq, Nat.reduceAdd, Nat.reduceSub, Nat.reduceMul, Nat.reduceEqDiff, Nat.reduceLT, Nat.reduceLeDiff, Nat.reduceBEq, Int.reduceAdd, Int.reduceSub, Int.reduceLT, Int.reduceLE, Int.reduceEq, Int.reduceToNat, byteNums_map (enc := enc5) (fun _ => rfl), hx3f, hx5f]
  refine adN.pc (ok89 (strOfNums a0.Input) x2 hx2) Try.call89 callV_fn (by simp only [go_sem, ↓reduceIte, reduceCtorEq, Nat.reduceAdd, Nat.reduceSub, Nat.reduceMul, Nat.reduceEqDiff, Nat.reduceLT, Nat.reduceLeDiff, Nat.reduceBEq, Int.reduceAdd, Int.reduceSub, Int.reduceLT, Int.reduceLE, Int.reduceEq, Int.reduceToNat, byteNums_map (enc := enc5) (fun _ => rfl), hx3f, hx5f]) (by simp only [go_sem, ↓reduceIte, reduceCtorEq, Nat.reduceAdd, Nat.reduceSub, Nat.reduceMul, Nat.reduceEqDiff, Nat.reduceLT, Nat.reduceLeDiff, Nat.reduceBEq, Int.reduceAdd, Int.reduceSub, Int.reduceLT, Int.reduceLE, Int.reduceEq, Int.reduceToNat]) ?_
  simp only [go_sem, ↓reduceIte, reduceCtorEq, Nat.reduceAdd, Nat.reduceSub, Nat.reduceMul, Nat.reduceEqDiff, Nat.reduceLT, Nat.reduceLeDiff, Nat.reduceBEq, Int.reduceAdd, Int.reduceSub, Int.reduceLT, Int.reduceLE, Int.reduceEq, Int.reduceToNat, byteNums_map (enc := enc5) (fun _ => rfl), hx3f, hx5f]
  refine adN.pc (ok90 [a0.Cfg.Workers, a0.Cfg.Per, a0.Cfg.Timeout, a0.Cfg.Tries, a0.Cfg.Room] x4 hx4) Try.call90 callV_fn (by simp only [go_sem, ↓reduceIte, reduceCtorEq, Nat.reduceAdd, Nat.reduceSub, Nat.reduceMul, Nat.reduceEqDiff, Nat.reduceLT, Nat.reduceLeDiff, Nat.reduceBEq, Int.reduceAdd, Int.reduceSub, Int.reduceLT, Int.reduceLE, Int.reduceEq, Int.reduceToNat, byteNums_map (enc := enc5) (fun _ => rfl), hx3f, hx5f]) (by simp only [go_sem, ↓reduceIte, reduceCtorEq, Nat.reduceAdd, Nat.reduceSub, Nat.reduceMul, Nat.reduceEqDiff, Nat.reduceLT, Nat.reduceLeDiff, Nat.reduceBEq, Int.reduceAdd, Int.reduceSub, Int.reduceLT, Int.reduceLE, Int.reduceEq, Int.reduceToNat]) ?_
  simp only [go_sem, ↓reduceIte, reduceCtorEq, Nat.reduceAdd, Nat.reduceSub, Nat.reduceMul, Nat.reduceEqDiff, Nat.reduceLT, Nat.reduceLeDiff, Nat.reduceBEq, Int.reduceAdd, Int.reduceSub, Int.reduceLT, Int.reduceLE, Int.reduceEq, Int.reduceToNat, byteNums_map (enc := enc5) (fun _ => rfl), hx3f, hx5f]
  subst hK
  obtain ⟨x6, hx6, h⟩ := Option.bind_eq_some_iff.1 h
  obtain ⟨x7, hx7, h⟩ := Option.bind_eq_some_iff.1 h
  obtain ⟨hx7b, hx7e⟩ := appO?_some.1 hx7
  have hx7f : ∀ id o : Nat, appO 1 1 id (List.map enc5 x6) 0 x5.length o (some (.row 1 true (List.map enc5 x5))) = some ⟨.own id 0 x7.length, [(o, none), (id, some (.row 1 true (List.map enc5 x7)))]⟩ := fun id o => by
    subst hx7e; rw [appO_ok (by simp) (by simpa using hx7b) (by decide)]; first | (simp [enc5]; done) | (simp [enc5]; omega)
  refine AW.regL [1, 4] ?_
  generalize hK : AW Try.prog _ _ _ = K
  simp only [go_sem, ↓reduceIte, reduceCtorEq, Nat.reduceAdd, Nat.reduceSub, Nat.reduceMul, Nat.reduceEqDiff, Nat.reduceLT, Nat.reduceLeDiff, Nat.reduceBEq, Int.reduceAdd, Int.reduceSub, Int.reduceLT, Int.reduceLE, Int.reduceEq, Int.reduceToNat, hx7f]
  refine arC.of (ok91 (IntKind.u64.wrap (a0.Steps.length : Int)) x6 hx6) Try.call91 ?_
  simp only [go_sem, ↓reduceIte, reduceCtorEq, Nat.reduceAdd, Nat.reduceSub, Nat.reduceMul, Nat.reduceEqDiff, Nat.reduceLT, Nat.reduceLeDiff, Nat.reduceBEq, Int.reduceAdd, Int.reduceSub, Int.reduceLT, Int.reduceLE, Int.reduceEq, Int.reduceToNat, hx7f]
  subst hK
  refine AW.seq ?_
  refine AW.regL [1, 4, 5] ?_
  generalize hK : AW Try.prog _ _ _ = K
  simp only [go_sem, ↓reduceIte, reduceCtorEq, Nat.reduceAdd, Nat.reduceSub, Nat.reduceMul, Nat.reduceEqDiff, Nat.reduceLT, Nat.reduceLeDiff, Nat.reduceBEq, Int.reduceAdd, Int.reduceSub, Int.reduceLT, Int.reduceLE, Int.reduceEq, Int.reduceToNat]
  subst hK
  refine AW.block ?_
  obtain ⟨y36, hy36, h⟩ := Option.bind_eq_some_iff.1 h
  refine AW.loopO (fun s => ⟨(upd (upd (upd anyF 1 (.ptr 8 0 0)) 4 (.own 9 0 s.1.length)) 5 (.val (.int .i64 s.2))), hpL [] [some (.row 8 true [[.sl (List.map enc5 a0.Text), .sl (List.map enc5 a0.Input), .val (.int .i64 a0.Cfg.Workers), .val (.int .i64 a0.Cfg.Per), .val (.int .i64 a0.Cfg.Timeout), .val (.int .i64 a0.Cfg.Tries), .val (.int .i64 a0.Cfg.Room), .sl (List.map encStep a0.Steps)]]), some (.row 1 true (List.map enc5 s.1))], 10⟩) (fun z e st' => e = Exit.exit 0 ∧ st' = ⟨(upd anyF 4 (.own 8 0 z.length)), hpL [] [some (.row 1 true (List.map enc5 z))], 9⟩) hy36 ?_ ?_ ?_
  · refine Ent.can [8, 288] _ _ _ rfl (by first | decide | simp) rfl ?_ ?_ ?_
    · exact (((RF.any.pp (by decide) (by first | rfl | simp [upd_ap, hpL_ap, tau, mapT, mapTL, bytesI_len])).po (by decide) (by first | rfl | simp [upd_ap, hpL_ap, tau, mapT, mapTL, bytesI_len])).pv (by first | rfl | simp only [go_sem]) (by first | rfl | simp [upd_ap, hpL_ap, tau, mapT, mapTL, bytesI_len]))
    · exact .nil _
    · exact .cons (.eq (by first | rfl | simp only [go_sem]) (by first | rfl | simp [upd_ap, hpL_ap, tau, mapT, mapTL, bytesI_len])) (.cons (.eq (by first | rfl | simp only [go_sem]) (by first | rfl | simp [upd_ap, hpL_ap, tau, mapT, mapTL, bytesI_len])) (.nil _))
  · clear h hy36
    rintro ⟨s1_0, s1_1⟩ x h
    rw [f46_s1] at h
    refine AW.seq ?_
    refine AW.regL [1, 4, 5, 42] ?_
    generalize hK : AW Try.prog _ _ _ = K
    simp only [go_sem, ↓reduceIte, reduceCtorEq, Nat.reduceAdd, Nat.reduceSub, Nat.reduceMul, Nat.reduceEqDiff, Nat.reduceLT, Nat.reduceLeDiff, Nat.reduceBEq, Int.reduceAdd, Int.reduceSub, Int.reduceLT, Int.reduceLE, Int.reduceEq, Int.reduceToNat]
    subst hK
    by_cases c27 : s1_1 < (a0.Steps.length : Int)
    · rw [if_pos c27] at h
      refine AW.ifT rfl c27 ?_
      refine AW.skip ?_
      refine thenA_n ?_
      refine AW.seq ?_
      refine AW.block ?_
      obtain ⟨x28, hx28, h⟩ := Option.bind_eq_some_iff.1 h
      obtain ⟨hx28a, hx28b⟩ := ix_some.1 hx28
      refine AW.regL [1, 4, 5, 6] ?_
      generalize hK : AW Try.prog _ _ _ = K
      simp only [go_sem, ↓reduceIte, reduceCtorEq, Nat.reduceAdd, Nat.reduceSub, Nat.reduceMul, Nat.reduceEqDiff, Nat.reduceLT, Nat.reduceLeDiff, Nat.reduceBEq, Int.reduceAdd, Int.reduceSub, Int.reduceLT, Int.reduceLE, Int.reduceEq, Int.reduceToNat, eq_true c27, natOf_le hx28a, hx28b]
      subst hK
      obtain ⟨x29, hx29, h⟩ := Option.bind_eq_some_iff.1 h
      obtain ⟨x30, hx30, h⟩ := Option.bind_eq_some_iff.1 h
      obtain ⟨hx30b, hx30e⟩ := appO?_some.1 hx30
      have hx30f : ∀ id o : Nat, appO 1 1 id (List.map enc5 x29) 0 s1_0.length o (some (.row 1 true (List.map enc5 s1_0))) = some ⟨.own id 0 x30.length, [(o, none), (id, some (.row 1 true (List.map enc5 x30)))]⟩ := fun id o => by
        subst hx30e; rw [appO_ok (by simp) (by simpa using hx30b) (by decide)]; first | (simp [enc5]; done) | (simp [enc5]; omega)
      obtain ⟨x31, hx31, h⟩ := Option.bind_eq_some_iff.1 h
      obtain ⟨x32, hx32, h⟩ := Option.bind_eq_some_iff.1 h
      obtain ⟨hx32b, hx32e⟩ := appO?_some.1 hx32
      have hx32f : ∀ id o : Nat, appO 1 1 id (List.map enc5 x31) 0 x30.length o (some (.row 1 true (List.map enc5 x30))) = some ⟨.own id 0 x32.length, [(o, none), (id, some (.row 1 true (List.map enc5 x32)))]⟩ := fun id o => by
        subst hx32e; rw [appO_ok (by simp) (by simpa using hx32b) (by decide)]; first | (simp [enc5]; done) | (simp [enc5]; omega)
      obtain ⟨x33, hx33, h⟩ := Option.bind_eq_some_iff.1 h
      obtain ⟨x34, hx34, h⟩ := Option.bind_eq_some_iff.1 h
      obtain ⟨hx34b, hx34e⟩ := appO?_some.1 hx34
      have hx34f : ∀ id o : Nat, appO 1 1 id (List.map enc5 x33) 0 x32.length o (some (.row 1 true (List.map enc5 x32))) = some ⟨.own id 0 x34.length, [(o, none), (id, some (.row 1 true (List.map enc5 x34)))]⟩ := fun id o => by
        subst hx34e; rw [appO_ok (by simp) (by simpa using hx34b) (by decide)]; first | (simp [enc5]; done) | (simp [enc5]; omega)
      refine AW.drawL [1, 4, 5] [[], [], [1], [], [3], [], [5], [], [7], [1, 2, 3, 4, 5, 6, 7, 8], [1, 2, 3, 4, 5, 6, 7, 8, 9], [0, 1, 2, 3, 4, 5, 6, 7, 8, 9, 10], [], [12], [12, 13], [12, 13, 14], [0, 1, 2, 3, 4, 5, 6, 7, 8, 9, 10, 11, 12, 13, 14, 15], [0, 1, 2, 3, 4, 5, 6, 7, 8, 9, 10, 11, 12, 13, 14, 15, 16], [], [18], [0, 1, 2, 3, 4, 5, 6, 7, 8, 9, 10, 11, 12, 13, 14, 15, 16, 17, 18, 19], [0, 1, 2, 3, 4, 5, 6, 7, 8, 9, 10, 11, 12, 13, 14, 15, 16, 17, 18, 19, 20], [0, 1, 2, 3, 4, 5, 6, 7, 8, 9, 10, 11, 12, 13, 14, 15, 16, 17, 18, 19, 20, 21]] [0, 1, 2, 3, 4, 5, 6, 7, 8, 9, 10, 11, 12, 13, 14, 15, 16, 17, 18, 19, 20, 21, 22] noFt (fun _ _ _ h => by simp [noFt] at h) draws (by kernel_rfl) (by kernel_rfl) ?_
      generalize hK : inBlockA _ _ Exit.normal = K
      simp only [go_sem, ↓reduceIte, reduceCtorEq, Nat.reduceAdd, Nat.reduceSub, Nat.reduceMul, Nat.reduceEqDiff, Nat.reduceLT, Nat.reduceLeDiff, Nat.reduceBEq, Int.reduceAdd, Int.reduceSub, Int.reduceLT, Int.reduceLE, Int.reduceEq, Int.reduceToNat, eq_true c27, hx30f, hx32f, hx34f]
      refine adN.pc (ok90 [x28.Do, x28.Node, x28.I, x28.J] x29 hx29) Try.call90 callV_fn (by simp only [go_sem, ↓reduceIte, reduceCtorEq, Nat.reduceAdd, Nat.reduceSub, Nat.reduceMul, Nat.reduceEqDiff, Nat.reduceLT, Nat.reduceLeDiff, Nat.reduceBEq, Int.reduceAdd, Int.reduceSub, Int.reduceLT, Int.reduceLE, Int.reduceEq, Int.reduceToNat, eq_true c27, hx30f, hx32f, hx34f]) (by simp only [go_sem, ↓reduceIte, reduceCtorEq, Nat.reduceAdd, Nat.reduceSub, Nat.reduceMul, Nat.reduceEqDiff, Nat.reduceLT, Nat.reduceLeDiff, Nat.reduceBEq, Int.reduceAdd, Int.reduceSub, Int.reduceLT, Int.reduceLE, Int.reduceEq, Int.reduceToNat]) ?_
      simp only [go_sem, ↓reduceIte, reduceCtorEq, Nat.reduceAdd, Nat.reduceSub, Nat.reduceMul, Nat.reduceEqDiff, Nat.reduceLT, Nat.reduceLeDiff, Nat.reduceBEq, Int.reduceAdd, Int.reduceSub, Int.reduceLT, Int.reduceLE, Int.reduceEq, Int.reduceToNat, eq_true c27, hx30f, hx32f, hx34f]
      refine adN.pc (ok91 (IntKind.u64.wrap (x28.Keep.length : Int)) x31 hx31) Try.call91 callV_fn (by simp only [go_sem, ↓reduceIte, reduceCtorEq, Nat.reduceAdd, Nat.reduceSub, Nat.reduceMul, Nat.reduceEqDiff, Nat.reduceLT, Nat.reduceLeDiff, Nat.reduceBEq, Int.reduceAdd, Int.reduceSub, Int.reduceLT, Int.reduceLE, Int.reduceEq, Int.reduceToNat, eq_true c27, hx30f, hx32f, hx34f]) (by simp only [go_sem, ↓reduceIte, reduceCtorEq, Nat.reduceAdd, Nat.reduceSub, Nat.reduceMul, Nat.reduceEqDiff, Nat.reduceLT, Nat.reduceLeDiff, Nat.reduceBEq, Int.reduceAdd, Int.reduceSub, Int.reduceLT, Int.reduceLE, Int.reduceEq, Int.reduceToNat]) ?_
      simp only [go_sem, ↓reduceIte, reduceCtorEq, Nat.reduceAdd, Nat.reduceSub, Nat.reduceMul, Nat.reduceEqDiff, Nat.reduceLT, Nat.reduceLeDiff, Nat.reduceBEq, Int.reduceAdd, Int.reduceSub, Int.reduceLT, Int.reduceLE, Int.reduceEq, Int.reduceToNat, eq_true c27, hx30f, hx32f, hx34f]
      refine adN.pc (ok90 x28.Keep x33 hx33) Try.call90 callV_fn (by simp only [go_sem, ↓reduceIte, reduceCtorEq, Nat.reduceAdd, Nat.reduceSub, Nat.reduceMul, Nat.reduceEqDiff, Nat.reduceLT, Nat.reduceLeDiff, Nat.reduceBEq, Int.reduceAdd, Int.reduceSub, Int.reduceLT, Int.reduceLE, Int.reduceEq, Int.reduceToNat, eq_true c27, hx30f, hx32f, hx34f]) (by simp only [go_sem, ↓reduceIte, reduceCtorEq, Nat.reduceAdd, Nat.reduceSub, Nat.reduceMul, Nat.reduceEqDiff, Nat.reduceLT, Nat.reduceLeDiff, Nat.reduceBEq, Int.reduceAdd, Int.reduceSub, Int.reduceLT, Int.reduceLE, Int.reduceEq, Int.reduceToNat]) ?_
      simp only [go_sem, ↓reduceIte, reduceCtorEq, Nat.reduceAdd, Nat.reduceSub, Nat.reduceMul, Nat.reduceEqDiff, Nat.reduceLT, Nat.reduceLeDiff, Nat.reduceBEq, Int.reduceAdd, Int.reduceSub, Int.reduceLT, Int.reduceLE, Int.reduceEq, Int.reduceToNat, eq_true c27, hx30f, hx32f, hx34f]
      subst hK
      refine block_n ?_
      refine thenA_n ?_
      refine AW.regionL [1, 4, 5] ?_
      generalize hK : thenA _ _ Exit.normal = K
      simp only [go_sem, ↓reduceIte, reduceCtorEq, Nat.reduceAdd, Nat.reduceSub, Nat.reduceMul, Nat.reduceEqDiff, Nat.reduceLT, Nat.reduceLeDiff, Nat.reduceBEq, Int.reduceAdd, Int.reduceSub, Int.reduceLT, Int.reduceLE, Int.reduceEq, Int.reduceToNat, eq_true c27]
      subst hK
      refine thenA_n ?_
      refine ⟨_, (Option.some.inj h).symm, ?_⟩
      refine Ent.can [8, 274] _ _ _ rfl (by first | decide | simp) rfl ?_ ?_ ?_
      · exact (((RF.any.pp (by decide) (by first | rfl | simp [upd_ap, hpL_ap, tau, mapT, mapTL, bytesI_len, eq_true c27])).po (by decide) (by first | rfl | simp [upd_ap, hpL_ap, tau, mapT, mapTL, bytesI_len, eq_true c27])).pv (by first | rfl | simp only [go_sem]) (by first | rfl | simp [upd_ap, hpL_ap, tau, mapT, mapTL, bytesI_len, eq_true c27]))
      · exact .nil _
      · exact .cons (.eq (by first | rfl | simp only [go_sem]) (by first | rfl | simp [upd_ap, hpL_ap, tau, mapT, mapTL, bytesI_len, eq_true c27])) (.cons (.eq (by first | rfl | simp only [go_sem]) (by first | rfl | simp [upd_ap, hpL_ap, tau, mapT, mapTL, bytesI_len, eq_true c27])) (.nil _))
    · rw [if_neg c27] at h
      refine AW.ifF rfl c27 ?_
      refine AW.exit ?_
      refine thenA_x ?_
      refine thenA_x ?_
      refine ⟨_, (Option.some.inj h).symm, _, ?_, rfl, rfl⟩
      refine Ent.can [9] _ _ _ rfl (by first | decide | simp) rfl ?_ ?_ ?_
      · exact (RF.any.po (by decide) (by first | rfl | simp [upd_ap, hpL_ap, tau, mapT, mapTL, bytesI_len, eq_false c27]))
      · exact .nil _
      · exact .cons (.eq (by first | rfl | simp only [go_sem]) (by first | rfl | simp [upd_ap, hpL_ap, tau, mapT, mapTL, bytesI_len, eq_false c27])) (.nil _)
  · intro e st' hX
    try dsimp only at h
    try dsimp only at hX
    obtain ⟨rfl, rfl⟩ := hX
    refine ⟨_, Ent.refl, ?_⟩
    refine block_x ?_
    refine thenA_n ?_
    refine AW.regL [2] ?_
    generalize hK : AW Try.prog _ _ _ = K
    simp only [go_sem, ↓reduceIte, reduceCtorEq, Nat.reduceAdd, Nat.reduceSub, Nat.reduceMul, Nat.reduceEqDiff, Nat.reduceLT, Nat.reduceLeDiff, Nat.reduceBEq, Int.reduceAdd, Int.reduceSub, Int.reduceLT, Int.reduceLE, Int.reduceEq, Int.reduceToNat]
    subst hK
    refine AW.ret ?_
    obtain rfl := Option.some.inj h
    (simp only [go_sem, ↓reduceIte, reduceCtorEq, Nat.reduceAdd, Nat.reduceSub, Nat.reduceMul, Nat.reduceEqDiff, Nat.reduceLT, Nat.reduceLeDiff, Nat.reduceBEq, Int.reduceAdd, Int.reduceSub, Int.reduceLT, Int.reduceLE, Int.reduceEq, Int.reduceToNat, finA, resA, resOf_1, resOf_2, sealV_val, sealV_sl, sealV_ip, sealV_agg, sealV_tup, sealV_own, sealL_nil, sealL_cons] <;> try simp)
end Au
end Go.Proofs.Y1
