import Derived.Test.YtlonihmeikmpiaaGpW1
import Derived.Test.YtlonihmeikmpiaaGpW2
import Derived.Test.YtlonihmeikmpiaaGpW5
set_option linter.all false
set_option linter.unusedVariables false
set_option linter.unusedSimpArgs false
set_option linter.all false
set_option maxRecDepth 8000
namespace Go.Proofs.Y1
open Go.Gm
namespace Au
noncomputable def f25_s2 (a0 : List Int) (x15 : Int × Int × Int) : (List Step) × Int × Int → Option (((List Step) × Int × Int) ⊕ ((Run × Int) ⊕ (Int × (List Step))))
  | (s2_0, s2_1, s2_2) => (if s2_2 < (IntKind.i64.wrap x15.1) then ((f78 a0 s2_1).bind fun x48 => (if x48.2.2 = 0 then ((appO? s2_0 [x48.1]).bind fun x51 => some (.inl (x51, x48.2.1, IntKind.i64.wrap (s2_2 + 1)))) else some (.inr (.inl (⟨[], [], ⟨0, 0, 0, 0, 0⟩, []⟩, x48.2.2))))) else some (.inr (.inr (s2_1, s2_0))))
noncomputable def f25 (a0 : List Int) : Option (Run × Int) := ((f75 a0 0 1048576).bind fun x1 => (if x1.2.2 = 0 then ((f75 a0 x1.2.1 1048576).bind fun x4 => (if x4.2.2 = 0 then ((f76 a0 x4.2.1 5).bind fun x7 => (if x7.2.2 = 0 then ((x7.1[0]?).bind fun x10 => ((x7.1[1]?).bind fun x11 => ((x7.1[2]?).bind fun x12 => ((x7.1[3]?).bind fun x13 => ((x7.1[4]?).bind fun x14 => ((f77 a0 x7.2.1).bind fun x15 => (if x15.2.2 = 0 then (if 16384 < x15.1 then some (⟨[], [], ⟨0, 0, 0, 0, 0⟩, []⟩, 9) else ((loopO (f25_s2 a0 x15) ([], x15.2.1, 0)).bind fun y52 => match y52 with | .inl y53 => some y53 | .inr (y54, y55) => (if y54 < (a0.length : Int) then some (⟨[], [], ⟨0, 0, 0, 0, 0⟩, []⟩, 3) else some (⟨bytesI x1.1, bytesI x4.1, ⟨x10, x11, x12, x13, x14⟩, y55⟩, 0)))) else some (⟨[], [], ⟨0, 0, 0, 0, 0⟩, []⟩, x15.2.2)))))))) else some (⟨[], [], ⟨0, 0, 0, 0, 0⟩, []⟩, x7.2.2))) else some (⟨[], [], ⟨0, 0, 0, 0, 0⟩, []⟩, x4.2.2))) else some (⟨[], [], ⟨0, 0, 0, 0, 0⟩, []⟩, x1.2.2)))
theorem ok25 (a0 : List Int) (r : Run × Int) (h : f25 a0 = some r) : PC Try.prog 25 [.sl (List.map enc5 a0)] (.tup [.agg (encRun r.1), .val (.int .i64 r.2)]) := by
  rw [f25] at h
  refine pc_of8 (N := 118) (rs := [.cell 2 46, .tmp 3]) Try.func25 rfl rfl rfl (Nat.le_of_ble_eq_true rfl) ?_
  refine AW.regL [0, 2] ?_
  generalize hK : AW Try.prog _ _ _ = K
  simp only [go_sem, ↓reduceIte, reduceCtorEq, Nat.reduceAdd, Nat.reduceSub, Nat.reduceMul, Nat.reduceEqDiff, Nat.reduceLT, Nat.reduceLeDiff, Nat.reduceBEq, Int.reduceAdd, Int.reduceSub, Int.reduceLT, Int.reduceLE, Int.reduceEq, Int.reduceToNat]
  subst hK
  obtain ⟨x1, hx1, h⟩ := Option.bind_eq_some_iff.1 h
  refine AW.regL [0, 2, 4, 5, 6] ?_
  generalize hK : AW Try.prog _ _ _ = K
  simp only [go_sem, ↓reduceIte, reduceCtorEq, Nat.reduceAdd, Nat.reduceSub, Nat.reduceMul, Nat.reduceEqDiff, Nat.reduceLT, Nat.reduceLeDiff, Nat.reduceBEq, Int.reduceAdd, Int.reduceSub, Int.reduceLT, Int.reduceLE, Int.reduceEq, Int.reduceToNat]
  refine arC.of (ok75 a0 0 1048576 x1 hx1) Try.call75 ?_
  simp only [go_sem, ↓reduceIte, reduceCtorEq, Nat.reduceAdd, Nat.reduceSub, Nat.reduceMul, Nat.reduceEqDiff, Nat.reduceLT, Nat.reduceLeDiff, Nat.reduceBEq, Int.reduceAdd, Int.reduceSub, Int.reduceLT, Int.reduceLE, Int.reduceEq, Int.reduceToNat]
  subst hK
  refine AW.seq ?_
  refine AW.regL [0, 2, 4, 5, 6, 28] ?_
  generalize hK : AW Try.prog _ _ _ = K
  simp only [go_sem, ↓reduceIte, reduceCtorEq, Nat.reduceAdd, Nat.reduceSub, Nat.reduceMul, Nat.reduceEqDiff, Nat.reduceLT, Nat.reduceLeDiff, Nat.reduceBEq, Int.reduceAdd, Int.reduceSub, Int.reduceLT, Int.reduceLE, Int.reduceEq, Int.reduceToNat]
  subst hK
  by_cases c3 : x1.2.2 = 0
  · rw [if_pos c3] at h
    refine AW.ifF rfl (fun q => q c3) ?_
    refine AW.skip ?_
    refine thenA_n ?_
    obtain ⟨x4, hx4, h⟩ := Option.bind_eq_some_iff.1 h
    refine AW.regL [0, 2, 4, 7, 8, 9] ?_
    generalize hK : AW Try.prog _ _ _ = K
    simp only [go_sem, ↓reduceIte, reduceCtorEq, Nat.reduceAdd, Nat.reduceSub, Nat.reduceMul, Nat.reduceEqDiff, Nat.reduceLT, Nat.reduceLeDiff, Nat.reduceBEq, Int.reduceAdd, Int.reduceSub, Int.reduceLT, Int.reduceLE, Int.reduceEq, Int.reduceToNat, eq_true c3]
    refine arC.of (ok75 a0 x1.2.1 1048576 x4 hx4) Try.call75 ?_
    simp only [go_sem, ↓reduceIte, reduceCtorEq, Nat.reduceAdd, Nat.reduceSub, Nat.reduceMul, Nat.reduceEqDiff, Nat.reduceLT, Nat.reduceLeDiff, Nat.reduceBEq, Int.reduceAdd, Int.reduceSub, Int.reduceLT, Int.reduceLE, Int.reduceEq, Int.reduceToNat, eq_true c3]
    subst hK
    refine AW.seq ?_
    refine AW.regL [0, 2, 4, 7, 8, 9, 39] ?_
    generalize hK : AW Try.prog _ _ _ = K
    simp only [go_sem, ↓reduceIte, reduceCtorEq, Nat.reduceAdd, Nat.reduceSub, Nat.reduceMul, Nat.reduceEqDiff, Nat.reduceLT, Nat.reduceLeDiff, Nat.reduceBEq, Int.reduceAdd, Int.reduceSub, Int.reduceLT, Int.reduceLE, Int.reduceEq, Int.reduceToNat, eq_true c3]
    subst hK
    by_cases c6 : x4.2.2 = 0
    · rw [if_pos c6] at h
      refine AW.ifF rfl (fun q => q c6) ?_
      refine AW.skip ?_
      refine thenA_n ?_
      obtain ⟨x7, hx7, h⟩ := Option.bind_eq_some_iff.1 h
      refine AW.regL [0, 2, 4, 7, 10, 11, 12] ?_
      generalize hK : AW Try.prog _ _ _ = K
      simp only [go_sem, ↓reduceIte, reduceCtorEq, Nat.reduceAdd, Nat.reduceSub, Nat.reduceMul, Nat.reduceEqDiff, Nat.reduceLT, Nat.reduceLeDiff, Nat.reduceBEq, Int.reduceAdd, Int.reduceSub, Int.reduceLT, Int.reduceLE, Int.reduceEq, Int.reduceToNat, eq_true c3, eq_true c6]
      refine arC.of (ok76 a0 x4.2.1 5 x7 hx7) Try.call76 ?_
      simp only [go_sem, ↓reduceIte, reduceCtorEq, Nat.reduceAdd, Nat.reduceSub, Nat.reduceMul, Nat.reduceEqDiff, Nat.reduceLT, Nat.reduceLeDiff, Nat.reduceBEq, Int.reduceAdd, Int.reduceSub, Int.reduceLT, Int.reduceLE, Int.reduceEq, Int.reduceToNat, eq_true c3, eq_true c6]
      subst hK
      refine AW.seq ?_
      refine AW.regL [0, 2, 4, 7, 10, 11, 12, 50] ?_
      generalize hK : AW Try.prog _ _ _ = K
      simp only [go_sem, ↓reduceIte, reduceCtorEq, Nat.reduceAdd, Nat.reduceSub, Nat.reduceMul, Nat.reduceEqDiff, Nat.reduceLT, Nat.reduceLeDiff, Nat.reduceBEq, Int.reduceAdd, Int.reduceSub, Int.reduceLT, Int.reduceLE, Int.reduceEq, Int.reduceToNat, eq_true c3, eq_true c6]
      subst hK
      by_cases c9 : x7.2.2 = 0
      · rw [if_pos c9] at h
        refine AW.ifF rfl (fun q => q c9) ?_
        refine AW.skip ?_
        refine thenA_n ?_
        obtain ⟨x10, hx10, h⟩ := Option.bind_eq_some_iff.1 h
        obtain ⟨x11, hx11, h⟩ := Option.bind_eq_some_iff.1 h
        obtain ⟨x12, hx12, h⟩ := Option.bind_eq_some_iff.1 h
        obtain ⟨x13, hx13, h⟩ := Option.bind_eq_some_iff.1 h
        obtain ⟨x14, hx14, h⟩ := Option.bind_eq_some_iff.1 h
        refine AW.regdL [0, 2, 11, 13] [[], [0], [], [2], [], [4], [4, 5], [], [7], [7, 8], [], [10], [10, 11], [], [13], [13, 14], [], [16], [16, 17], [4, 5, 6, 7, 8, 9, 10, 11, 12, 13, 14, 15, 16, 17, 18], [0, 1, 2, 3, 4, 5, 6, 7, 8, 9, 10, 11, 12, 13, 14, 15, 16, 17, 18, 19], [], [0, 1, 2, 3, 4, 5, 6, 7, 8, 9, 10, 11, 12, 13, 14, 15, 16, 17, 18, 19, 20, 21]] [0, 1, 2, 3, 4, 5, 6, 7, 8, 9, 10, 11, 12, 13, 14, 15, 16, 17, 18, 19, 20, 21, 22] noFt (fun _ _ _ h => by simp [noFt] at h) draws (by kernel_rfl) (by kernel_rfl) ?_
        generalize hK : AW Try.prog _ _ _ = K
        simp only [go_sem, ↓reduceIte, reduceCtorEq, Nat.reduceAdd, Nat.reduceSub, Nat.reduceMul, Nat.reduceEqDiff, Nat.reduceLT, Nat.reduceLeDiff, Nat.reduceBEq, Int.reduceAdd, Int.reduceSub, Int.reduceLT, Int.reduceLE, Int.reduceEq, Int.reduceToNat, eq_true c3, eq_true c6, eq_true c9, bytesRows_map (enc := enc5) (fun _ => rfl), hx10, ix_lt hx10, hx11, ix_lt hx11, hx12, ix_lt hx12, hx13, ix_lt hx13, hx14, ix_lt hx14]
        subst hK
        obtain ⟨x15, hx15, h⟩ := Option.bind_eq_some_iff.1 h
        refine AW.regL [0, 2, 13, 14, 15, 16] ?_
        generalize hK : AW Try.prog _ _ _ = K
        simp only [go_sem, ↓reduceIte, reduceCtorEq, Nat.reduceAdd, Nat.reduceSub, Nat.reduceMul, Nat.reduceEqDiff, Nat.reduceLT, Nat.reduceLeDiff, Nat.reduceBEq, Int.reduceAdd, Int.reduceSub, Int.reduceLT, Int.reduceLE, Int.reduceEq, Int.reduceToNat, eq_true c3, eq_true c6, eq_true c9]
        refine arC.of (ok77 a0 x7.2.1 x15 hx15) Try.call77 ?_
        simp only [go_sem, ↓reduceIte, reduceCtorEq, Nat.reduceAdd, Nat.reduceSub, Nat.reduceMul, Nat.reduceEqDiff, Nat.reduceLT, Nat.reduceLeDiff, Nat.reduceBEq, Int.reduceAdd, Int.reduceSub, Int.reduceLT, Int.reduceLE, Int.reduceEq, Int.reduceToNat, eq_true c3, eq_true c6, eq_true c9]
        subst hK
        refine AW.seq ?_
        refine AW.regL [0, 2, 13, 14, 15, 16, 82] ?_
        generalize hK : AW Try.prog _ _ _ = K
        simp only [go_sem, ↓reduceIte, reduceCtorEq, Nat.reduceAdd, Nat.reduceSub, Nat.reduceMul, Nat.reduceEqDiff, Nat.reduceLT, Nat.reduceLeDiff, Nat.reduceBEq, Int.reduceAdd, Int.reduceSub, Int.reduceLT, Int.reduceLE, Int.reduceEq, Int.reduceToNat, eq_true c3, eq_true c6, eq_true c9]
        subst hK
        by_cases c17 : x15.2.2 = 0
        · rw [if_pos c17] at h
          refine AW.ifF rfl (fun q => q c17) ?_
          refine AW.skip ?_
          refine thenA_n ?_
          refine AW.seq ?_
          refine AW.regL [0, 2, 13, 14, 15, 86] ?_
          generalize hK : AW Try.prog _ _ _ = K
          simp only [go_sem, ↓reduceIte, reduceCtorEq, Nat.reduceAdd, Nat.reduceSub, Nat.reduceMul, Nat.reduceEqDiff, Nat.reduceLT, Nat.reduceLeDiff, Nat.reduceBEq, Int.reduceAdd, Int.reduceSub, Int.reduceLT, Int.reduceLE, Int.reduceEq, Int.reduceToNat, eq_true c3, eq_true c6, eq_true c9, eq_true c17]
          subst hK
          by_cases c19 : 16384 < x15.1
          · rw [if_pos c19] at h
            refine AW.ifT rfl c19 ?_
            refine AW.regL [2, 3] ?_
            generalize hK : AW Try.prog _ _ _ = K
            simp only [go_sem, ↓reduceIte, reduceCtorEq, Nat.reduceAdd, Nat.reduceSub, Nat.reduceMul, Nat.reduceEqDiff, Nat.reduceLT, Nat.reduceLeDiff, Nat.reduceBEq, Int.reduceAdd, Int.reduceSub, Int.reduceLT, Int.reduceLE, Int.reduceEq, Int.reduceToNat, eq_true c3, eq_true c6, eq_true c9, eq_true c17, eq_true c19]
            subst hK
            refine AW.ent (Ent.weakObj 8 rfl rfl (.cons Weak.nil (.cons Weak.nil (.cons (.of rfl) (.cons (.of rfl) (.cons (.of rfl) (.cons (.of rfl) (.cons (.of rfl) (.cons Weak.nil WeakL.nil))))))))) ?_
            refine AW.ret ?_
            refine thenA_r ?_
            obtain rfl := Option.some.inj h
            (simp only [go_sem, ↓reduceIte, reduceCtorEq, Nat.reduceAdd, Nat.reduceSub, Nat.reduceMul, Nat.reduceEqDiff, Nat.reduceLT, Nat.reduceLeDiff, Nat.reduceBEq, Int.reduceAdd, Int.reduceSub, Int.reduceLT, Int.reduceLE, Int.reduceEq, Int.reduceToNat, eq_true c3, eq_true c6, eq_true c9, eq_true c17, eq_true c19, finA, resA, resOf_1, resOf_2, sealV_val, sealV_sl, sealV_ip, sealV_agg, sealV_tup, sealV_own, sealL_nil, sealL_cons] <;> try simp)
          · rw [if_neg c19] at h
            refine AW.ifF rfl c19 ?_
            refine AW.skip ?_
            refine thenA_n ?_
            refine AW.seq ?_
            refine AW.regL [0, 2, 13, 14, 15, 17] ?_
            generalize hK : AW Try.prog _ _ _ = K
            simp only [go_sem, ↓reduceIte, reduceCtorEq, Nat.reduceAdd, Nat.reduceSub, Nat.reduceMul, Nat.reduceEqDiff, Nat.reduceLT, Nat.reduceLeDiff, Nat.reduceBEq, Int.reduceAdd, Int.reduceSub, Int.reduceLT, Int.reduceLE, Int.reduceEq, Int.reduceToNat, eq_true c3, eq_true c6, eq_true c9, eq_true c17, eq_false c19]
            subst hK
            refine AW.block ?_
            obtain ⟨y52, hy52, h⟩ := Option.bind_eq_some_iff.1 h
            refine AW.loopO (fun s => ⟨(upd (upd (upd (upd (upd (upd anyF 0 (.sl (List.map enc5 a0))) 2 (.ptr 8 0 0)) 13 (.ptr 9 0 0)) 14 (.val (.int .u64 x15.1))) 15 (.val (.int .i64 s.2.1))) 17 (.val (.int .i64 s.2.2))), hpL [] [some (.row 8 true [[.val (.slice none 0 0), .val (.slice none 0 0), .val (.int .i64 0), .val (.int .i64 0), .val (.int .i64 0), .val (.int .i64 0), .val (.int .i64 0), .val (.slice none 0 0)]]), some (.row 8 true [[.own 10 0 x1.1.size, .own 11 0 x4.1.size, .val (.int .i64 x10), .val (.int .i64 x11), .val (.int .i64 x12), .val (.int .i64 x13), .val (.int .i64 x14), .own 12 0 s.1.length]]), some (.row 1 true (List.map enc5 (bytesI x1.1))), some (.row 1 true (List.map enc5 (bytesI x4.1))), some (.row 5 true (List.map encStep s.1))], 13⟩) (fun y e st' => match y with | .inl z => e = Exit.ret ∧ finA Try.prog [.cell 2 46, .tmp 3] (.tup [.agg (encRun z.1), .val (.int .i64 z.2)]) .ret st' | .inr z => e = Exit.exit 0 ∧ st' = ⟨(upd (upd (upd (upd anyF 0 (.sl (List.map enc5 a0))) 2 (.ptr 8 0 0)) 13 (.ptr 9 0 0)) 15 (.val (.int .i64 z.1))), hpL [] [some (.row 8 true [[.val (.slice none 0 0), .val (.slice none 0 0), .val (.int .i64 0), .val (.int .i64 0), .val (.int .i64 0), .val (.int .i64 0), .val (.int .i64 0), .val (.slice none 0 0)]]), some (.row 8 true [[.own 10 0 x1.1.size, .own 11 0 x4.1.size, .val (.int .i64 x10), .val (.int .i64 x11), .val (.int .i64 x12), .val (.int .i64 x13), .val (.int .i64 x14), .own 12 0 z.2.length]]), some (.row 1 true (List.map enc5 (bytesI x1.1))), some (.row 1 true (List.map enc5 (bytesI x4.1))), some (.row 5 true (List.map encStep z.2))], 13⟩) hy52 ?_ ?_ ?_
            · refine Ent.trans (Ent.nilCell 472 7 5 (by decide) (by first | rfl | simp [upd_ap]) rfl) ?_
              refine Ent.can [8, 472, 312, 328, 608] _ _ _ rfl (by first | decide | simp) rfl ?_ ?_ ?_
              · exact ((((((RF.any.pv (by first | rfl | simp only [go_sem]) (by first | rfl | simp [upd_ap, hpL_ap, tau, mapT, mapTL, bytesI_len, eq_true c3, eq_true c6, eq_true c9, eq_true c17, eq_false c19])).pp (by decide) (by first | rfl | simp [upd_ap, hpL_ap, tau, mapT, mapTL, bytesI_len, eq_true c3, eq_true c6, eq_true c9, eq_true c17, eq_false c19])).pp (by decide) (by first | rfl | simp [upd_ap, hpL_ap, tau, mapT, mapTL, bytesI_len, eq_true c3, eq_true c6, eq_true c9, eq_true c17, eq_false c19])).pv (by first | rfl | simp only [go_sem]) (by first | rfl | simp [upd_ap, hpL_ap, tau, mapT, mapTL, bytesI_len, eq_true c3, eq_true c6, eq_true c9, eq_true c17, eq_false c19])).pv (by first | rfl | simp only [go_sem]) (by first | rfl | simp [upd_ap, hpL_ap, tau, mapT, mapTL, bytesI_len, eq_true c3, eq_true c6, eq_true c9, eq_true c17, eq_false c19])).pv (by first | rfl | simp only [go_sem]) (by first | rfl | simp [upd_ap, hpL_ap, tau, mapT, mapTL, bytesI_len, eq_true c3, eq_true c6, eq_true c9, eq_true c17, eq_false c19]))
              · exact .nil _
              · exact .cons (.eq (by first | rfl | simp only [go_sem]) (by first | rfl | simp [upd_ap, hpL_ap, tau, mapT, mapTL, bytesI_len, eq_true c3, eq_true c6, eq_true c9, eq_true c17, eq_false c19])) (.cons (.tok (by simp [tokL, tokLL, inlR]) (by first | rfl | simp [upd_ap, hpL_ap, tau, mapT, mapTL, bytesI_len, eq_true c3, eq_true c6, eq_true c9, eq_true c17, eq_false c19])) (.cons (.eq (by first | rfl | simp only [go_sem]) (by first | rfl | simp [upd_ap, hpL_ap, tau, mapT, mapTL, bytesI_len, eq_true c3, eq_true c6, eq_true c9, eq_true c17, eq_false c19])) (.cons (.eq (by first | rfl | simp only [go_sem]) (by first | rfl | simp [upd_ap, hpL_ap, tau, mapT, mapTL, bytesI_len, eq_true c3, eq_true c6, eq_true c9, eq_true c17, eq_false c19])) (.cons (.eq (by first | rfl | simp only [go_sem]) (by first | rfl | simp [upd_ap, hpL_ap, tau, mapT, mapTL, bytesI_len, eq_true c3, eq_true c6, eq_true c9, eq_true c17, eq_false c19])) (.nil _)))))
            · clear h hy52
              rintro ⟨s2_0, s2_1, s2_2⟩ x h
              rw [f25_s2] at h
              refine AW.seq ?_
              refine AW.regL [0, 2, 13, 14, 15, 17, 91] ?_
              generalize hK : AW Try.prog _ _ _ = K
              simp only [go_sem, ↓reduceIte, reduceCtorEq, Nat.reduceAdd, Nat.reduceSub, Nat.reduceMul, Nat.reduceEqDiff, Nat.reduceLT, Nat.reduceLeDiff, Nat.reduceBEq, Int.reduceAdd, Int.reduceSub, Int.reduceLT, Int.reduceLE, Int.reduceEq, Int.reduceToNat, eq_true c3, eq_true c6, eq_true c9, eq_true c17, eq_false c19]
              subst hK
              by_cases c47 : s2_2 < (IntKind.i64.wrap x15.1)
              · rw [if_pos c47] at h
                refine AW.ifT rfl c47 ?_
                refine AW.skip ?_
                refine thenA_n ?_
                refine AW.seq ?_
                refine AW.block ?_
                obtain ⟨x48, hx48, h⟩ := Option.bind_eq_some_iff.1 h
                refine AW.regL [0, 2, 13, 14, 17, 18, 19, 20] ?_
                generalize hK : AW Try.prog _ _ _ = K
                simp only [go_sem, ↓reduceIte, reduceCtorEq, Nat.reduceAdd, Nat.reduceSub, Nat.reduceMul, Nat.reduceEqDiff, Nat.reduceLT, Nat.reduceLeDiff, Nat.reduceBEq, Int.reduceAdd, Int.reduceSub, Int.reduceLT, Int.reduceLE, Int.reduceEq, Int.reduceToNat, eq_true c3, eq_true c6, eq_true c9, eq_true c17, eq_false c19, eq_true c47]
                refine arC.of (ok78 a0 s2_1 x48 hx48) Try.call78 ?_
                simp only [go_sem, ↓reduceIte, reduceCtorEq, Nat.reduceAdd, Nat.reduceSub, Nat.reduceMul, Nat.reduceEqDiff, Nat.reduceLT, Nat.reduceLeDiff, Nat.reduceBEq, Int.reduceAdd, Int.reduceSub, Int.reduceLT, Int.reduceLE, Int.reduceEq, Int.reduceToNat, eq_true c3, eq_true c6, eq_true c9, eq_true c17, eq_false c19, eq_true c47]
                subst hK
                refine AW.seq ?_
                refine AW.regL [0, 2, 13, 14, 17, 18, 19, 20, 102] ?_
                generalize hK : AW Try.prog _ _ _ = K
                simp only [go_sem, ↓reduceIte, reduceCtorEq, Nat.reduceAdd, Nat.reduceSub, Nat.reduceMul, Nat.reduceEqDiff, Nat.reduceLT, Nat.reduceLeDiff, Nat.reduceBEq, Int.reduceAdd, Int.reduceSub, Int.reduceLT, Int.reduceLE, Int.reduceEq, Int.reduceToNat, eq_true c3, eq_true c6, eq_true c9, eq_true c17, eq_false c19, eq_true c47]
                subst hK
                by_cases c50 : x48.2.2 = 0
                · rw [if_pos c50] at h
                  refine AW.ifF rfl (fun q => q c50) ?_
                  refine AW.skip ?_
                  refine thenA_n ?_
                  obtain ⟨x51, hx51, h⟩ := Option.bind_eq_some_iff.1 h
                  obtain ⟨hx51b, hx51e⟩ := appO?_some.1 hx51
                  have hx51f : ∀ id o : Nat, appO 5 56 id ([[.val (.int .i64 x48.1.Do), .val (.int .i64 x48.1.Node), .val (.int .i64 x48.1.I), .val (.int .i64 x48.1.J), .sl (List.map enc3 x48.1.Keep)]]) 0 s2_0.length o (some (.row 5 true (List.map encStep s2_0))) = some ⟨.own id 0 x51.length, [(o, none), (id, some (.row 5 true (List.map encStep x51)))]⟩ := fun id o => by
                    subst hx51e; rw [appO_ok (by simp) (by simpa using hx51b) (by decide)]; first | (simp [encStep]; done) | (simp [encStep]; omega)
                  refine AW.regL [0, 2, 13, 14, 17, 19] ?_
                  generalize hK : AW Try.prog _ _ _ = K
                  simp only [go_sem, ↓reduceIte, reduceCtorEq, Nat.reduceAdd, Nat.reduceSub, Nat.reduceMul, Nat.reduceEqDiff, Nat.reduceLT, Nat.reduceLeDiff, Nat.reduceBEq, Int.reduceAdd, Int.reduceSub, Int.reduceLT, Int.reduceLE, Int.reduceEq, Int.reduceToNat, eq_true c3, eq_true c6, eq_true c9, eq_true c17, eq_false c19, eq_true c47, eq_true c50, hx51f]
                  subst hK
                  refine AW.regionL [0, 2, 13, 14, 15, 17] ?_
                  generalize hK : inBlockA _ _ Exit.normal = K
                  simp only [go_sem, ↓reduceIte, reduceCtorEq, Nat.reduceAdd, Nat.reduceSub, Nat.reduceMul, Nat.reduceEqDiff, Nat.reduceLT, Nat.reduceLeDiff, Nat.reduceBEq, Int.reduceAdd, Int.reduceSub, Int.reduceLT, Int.reduceLE, Int.reduceEq, Int.reduceToNat, eq_true c3, eq_true c6, eq_true c9, eq_true c17, eq_false c19, eq_true c47, eq_true c50]
                  subst hK
                  refine block_n ?_
                  refine thenA_n ?_
                  refine AW.regionL [0, 2, 13, 14, 15, 17] ?_
                  generalize hK : thenA _ _ Exit.normal = K
                  simp only [go_sem, ↓reduceIte, reduceCtorEq, Nat.reduceAdd, Nat.reduceSub, Nat.reduceMul, Nat.reduceEqDiff, Nat.reduceLT, Nat.reduceLeDiff, Nat.reduceBEq, Int.reduceAdd, Int.reduceSub, Int.reduceLT, Int.reduceLE, Int.reduceEq, Int.reduceToNat, eq_true c3, eq_true c6, eq_true c9, eq_true c17, eq_false c19, eq_true c47, eq_true c50]
                  subst hK
                  refine thenA_n ?_
                  refine ⟨_, (Option.some.inj h).symm, ?_⟩
                  refine Ent.can [8, 9, 10, 11, 181] _ _ _ rfl (by first | decide | simp) rfl ?_ ?_ ?_
                  · exact ((((((RF.any.pv (by first | rfl | simp only [go_sem]) (by first | rfl | simp [upd_ap, hpL_ap, tau, mapT, mapTL, bytesI_len, eq_true c3, eq_true c6, eq_true c9, eq_true c17, eq_false c19, eq_true c47, eq_true c50])).pp (by decide) (by first | rfl | simp [upd_ap, hpL_ap, tau, mapT, mapTL, bytesI_len, eq_true c3, eq_true c6, eq_true c9, eq_true c17, eq_false c19, eq_true c47, eq_true c50])).pp (by decide) (by first | rfl | simp [upd_ap, hpL_ap, tau, mapT, mapTL, bytesI_len, eq_true c3, eq_true c6, eq_true c9, eq_true c17, eq_false c19, eq_true c47, eq_true c50])).pv (by first | rfl | simp only [go_sem]) (by first | rfl | simp [upd_ap, hpL_ap, tau, mapT, mapTL, bytesI_len, eq_true c3, eq_true c6, eq_true c9, eq_true c17, eq_false c19, eq_true c47, eq_true c50])).pv (by first | rfl | simp only [go_sem]) (by first | rfl | simp [upd_ap, hpL_ap, tau, mapT, mapTL, bytesI_len, eq_true c3, eq_true c6, eq_true c9, eq_true c17, eq_false c19, eq_true c47, eq_true c50])).pv (by first | rfl | simp only [go_sem]) (by first | rfl | simp [upd_ap, hpL_ap, tau, mapT, mapTL, bytesI_len, eq_true c3, eq_true c6, eq_true c9, eq_true c17, eq_false c19, eq_true c47, eq_true c50]))
                  · exact .nil _
                  · exact .cons (.eq (by first | rfl | simp only [go_sem]) (by first | rfl | simp [upd_ap, hpL_ap, tau, mapT, mapTL, bytesI_len, eq_true c3, eq_true c6, eq_true c9, eq_true c17, eq_false c19, eq_true c47, eq_true c50])) (.cons (.tok (by simp [tokL, tokLL, inlR]) (by first | rfl | simp [upd_ap, hpL_ap, tau, mapT, mapTL, bytesI_len, eq_true c3, eq_true c6, eq_true c9, eq_true c17, eq_false c19, eq_true c47, eq_true c50])) (.cons (.eq (by first | rfl | simp only [go_sem]) (by first | rfl | simp [upd_ap, hpL_ap, tau, mapT, mapTL, bytesI_len, eq_true c3, eq_true c6, eq_true c9, eq_true c17, eq_false c19, eq_true c47, eq_true c50])) (.cons (.eq (by first | rfl | simp only [go_sem]) (by first | rfl | simp [upd_ap, hpL_ap, tau, mapT, mapTL, bytesI_len, eq_true c3, eq_true c6, eq_true c9, eq_true c17, eq_false c19, eq_true c47, eq_true c50])) (.cons (.eq (by first | rfl | simp only [go_sem]) (by first | rfl | simp [upd_ap, hpL_ap, tau, mapT, mapTL, bytesI_len, eq_true c3, eq_true c6, eq_true c9, eq_true c17, eq_false c19, eq_true c47, eq_true c50])) (.nil _)))))
                · rw [if_neg c50] at h
                  refine AW.ifT rfl c50 ?_
                  refine AW.regL [2, 3] ?_
                  generalize hK : AW Try.prog _ _ _ = K
                  simp only [go_sem, ↓reduceIte, reduceCtorEq, Nat.reduceAdd, Nat.reduceSub, Nat.reduceMul, Nat.reduceEqDiff, Nat.reduceLT, Nat.reduceLeDiff, Nat.reduceBEq, Int.reduceAdd, Int.reduceSub, Int.reduceLT, Int.reduceLE, Int.reduceEq, Int.reduceToNat, eq_true c3, eq_true c6, eq_true c9, eq_true c17, eq_false c19, eq_true c47, eq_false c50]
                  subst hK
                  refine AW.ent (Ent.weakObj 8 rfl rfl (.cons Weak.nil (.cons Weak.nil (.cons (.of rfl) (.cons (.of rfl) (.cons (.of rfl) (.cons (.of rfl) (.cons (.of rfl) (.cons Weak.nil WeakL.nil))))))))) ?_
                  refine AW.ret ?_
                  refine thenA_r ?_
                  refine block_r ?_
                  refine thenA_r ?_
                  refine thenA_r ?_
                  refine ⟨_, (Option.some.inj h).symm, _, Ent.refl, rfl, ?_⟩
                  (simp only [go_sem, ↓reduceIte, reduceCtorEq, Nat.reduceAdd, Nat.reduceSub, Nat.reduceMul, Nat.reduceEqDiff, Nat.reduceLT, Nat.reduceLeDiff, Nat.reduceBEq, Int.reduceAdd, Int.reduceSub, Int.reduceLT, Int.reduceLE, Int.reduceEq, Int.reduceToNat, eq_true c3, eq_true c6, eq_true c9, eq_true c17, eq_false c19, eq_true c47, eq_false c50, finA, resA, resOf_1, resOf_2, sealV_val, sealV_sl, sealV_ip, sealV_agg, sealV_tup, sealV_own, sealL_nil, sealL_cons] <;> try simp)
              · rw [if_neg c47] at h
                refine AW.ifF rfl c47 ?_
                refine AW.exit ?_
                refine thenA_x ?_
                refine thenA_x ?_
                refine ⟨_, (Option.some.inj h).symm, _, ?_, rfl, rfl⟩
                refine Ent.can [8, 9, 10, 11, 12] _ _ _ rfl (by first | decide | simp) rfl ?_ ?_ ?_
                · exact ((((RF.any.pv (by first | rfl | simp only [go_sem]) (by first | rfl | simp [upd_ap, hpL_ap, tau, mapT, mapTL, bytesI_len, eq_true c3, eq_true c6, eq_true c9, eq_true c17, eq_false c19, eq_false c47])).pp (by decide) (by first | rfl | simp [upd_ap, hpL_ap, tau, mapT, mapTL, bytesI_len, eq_true c3, eq_true c6, eq_true c9, eq_true c17, eq_false c19, eq_false c47])).pp (by decide) (by first | rfl | simp [upd_ap, hpL_ap, tau, mapT, mapTL, bytesI_len, eq_true c3, eq_true c6, eq_true c9, eq_true c17, eq_false c19, eq_false c47])).pv (by first | rfl | simp only [go_sem]) (by first | rfl | simp [upd_ap, hpL_ap, tau, mapT, mapTL, bytesI_len, eq_true c3, eq_true c6, eq_true c9, eq_true c17, eq_false c19, eq_false c47]))
                · exact .nil _
                · exact .cons (.eq (by first | rfl | simp only [go_sem]) (by first | rfl | simp [upd_ap, hpL_ap, tau, mapT, mapTL, bytesI_len, eq_true c3, eq_true c6, eq_true c9, eq_true c17, eq_false c19, eq_false c47])) (.cons (.tok (by simp [tokL, tokLL, inlR]) (by first | rfl | simp [upd_ap, hpL_ap, tau, mapT, mapTL, bytesI_len, eq_true c3, eq_true c6, eq_true c9, eq_true c17, eq_false c19, eq_false c47])) (.cons (.eq (by first | rfl | simp only [go_sem]) (by first | rfl | simp [upd_ap, hpL_ap, tau, mapT, mapTL, bytesI_len, eq_true c3, eq_true c6, eq_true c9, eq_true c17, eq_false c19, eq_false c47])) (.cons (.eq (by first | rfl | simp only [go_sem]) (by first | rfl | simp [upd_ap, hpL_ap, tau, mapT, mapTL, bytesI_len, eq_true c3, eq_true c6, eq_true c9, eq_true c17, eq_false c19, eq_false c47])) (.cons (.eq (by first | rfl | simp only [go_sem]) (by first | rfl | simp [upd_ap, hpL_ap, tau, mapT, mapTL, bytesI_len, eq_true c3, eq_true c6, eq_true c9, eq_true c17, eq_false c19, eq_false c47])) (.nil _)))))
            · intro e st' hX
              rcases y52 with y53 | ⟨y54, y55⟩ <;> dsimp only at h hX
              · obtain ⟨rfl, hf⟩ := hX
                refine ⟨_, Ent.refl, ?_⟩
                refine block_r ?_
                refine thenA_r ?_
                obtain rfl := Option.some.inj h
                exact hf
              · obtain ⟨rfl, rfl⟩ := hX
                refine ⟨_, Ent.refl, ?_⟩
                refine block_x ?_
                refine thenA_n ?_
                refine AW.seq ?_
                refine AW.regL [2, 13, 115] ?_
                generalize hK : AW Try.prog _ _ _ = K
                simp only [go_sem, ↓reduceIte, reduceCtorEq, Nat.reduceAdd, Nat.reduceSub, Nat.reduceMul, Nat.reduceEqDiff, Nat.reduceLT, Nat.reduceLeDiff, Nat.reduceBEq, Int.reduceAdd, Int.reduceSub, Int.reduceLT, Int.reduceLE, Int.reduceEq, Int.reduceToNat, eq_true c3, eq_true c6, eq_true c9, eq_true c17, eq_false c19]
                subst hK
                by_cases c56 : y54 < (a0.length : Int)
                · rw [if_pos c56] at h
                  refine AW.ifT rfl c56 ?_
                  refine AW.regL [2, 3] ?_
                  generalize hK : AW Try.prog _ _ _ = K
                  simp only [go_sem, ↓reduceIte, reduceCtorEq, Nat.reduceAdd, Nat.reduceSub, Nat.reduceMul, Nat.reduceEqDiff, Nat.reduceLT, Nat.reduceLeDiff, Nat.reduceBEq, Int.reduceAdd, Int.reduceSub, Int.reduceLT, Int.reduceLE, Int.reduceEq, Int.reduceToNat, eq_true c3, eq_true c6, eq_true c9, eq_true c17, eq_false c19, eq_true c56]
                  subst hK
                  refine AW.ent (Ent.weakObj 8 rfl rfl (.cons Weak.nil (.cons Weak.nil (.cons (.of rfl) (.cons (.of rfl) (.cons (.of rfl) (.cons (.of rfl) (.cons (.of rfl) (.cons Weak.nil WeakL.nil))))))))) ?_
                  refine AW.ret ?_
                  refine thenA_r ?_
                  obtain rfl := Option.some.inj h
                  (simp only [go_sem, ↓reduceIte, reduceCtorEq, Nat.reduceAdd, Nat.reduceSub, Nat.reduceMul, Nat.reduceEqDiff, Nat.reduceLT, Nat.reduceLeDiff, Nat.reduceBEq, Int.reduceAdd, Int.reduceSub, Int.reduceLT, Int.reduceLE, Int.reduceEq, Int.reduceToNat, eq_true c3, eq_true c6, eq_true c9, eq_true c17, eq_false c19, eq_true c56, finA, resA, resOf_1, resOf_2, sealV_val, sealV_sl, sealV_ip, sealV_agg, sealV_tup, sealV_own, sealL_nil, sealL_cons] <;> try simp)
                · rw [if_neg c56] at h
                  refine AW.ifF rfl c56 ?_
                  refine AW.skip ?_
                  refine thenA_n ?_
                  refine AW.regL [2, 3] ?_
                  generalize hK : AW Try.prog _ _ _ = K
                  simp only [go_sem, ↓reduceIte, reduceCtorEq, Nat.reduceAdd, Nat.reduceSub, Nat.reduceMul, Nat.reduceEqDiff, Nat.reduceLT, Nat.reduceLeDiff, Nat.reduceBEq, Int.reduceAdd, Int.reduceSub, Int.reduceLT, Int.reduceLE, Int.reduceEq, Int.reduceToNat, eq_true c3, eq_true c6, eq_true c9, eq_true c17, eq_false c19, eq_false c56]
                  subst hK
                  refine AW.ent (Ent.stillObj (pre := []) (post := [.own 11 0 x4.1.size, .val (.int .i64 x10), .val (.int .i64 x11), .val (.int .i64 x12), .val (.int .i64 x13), .val (.int .i64 x14), .own 12 0 y55.length]) (q := 10) (off := 0) (len := x1.1.size) 8 rfl (own_sl (sz := 1) (m := true) rfl (by first | rfl | simp [bytesI_len]) (by simp only [go_sem])) (by decide)) ?_
                  refine AW.ent (Ent.stillObj (pre := [.sl (List.map enc5 (bytesI x1.1))]) (post := [.val (.int .i64 x10), .val (.int .i64 x11), .val (.int .i64 x12), .val (.int .i64 x13), .val (.int .i64 x14), .own 12 0 y55.length]) (q := 11) (off := 0) (len := x4.1.size) 8 rfl (own_sl (sz := 1) (m := true) rfl (by first | rfl | simp [bytesI_len]) (by simp only [go_sem])) (by decide)) ?_
                  refine AW.ent (Ent.stillObj (pre := [.sl (List.map enc5 (bytesI x1.1)), .sl (List.map enc5 (bytesI x4.1)), .val (.int .i64 x10), .val (.int .i64 x11), .val (.int .i64 x12), .val (.int .i64 x13), .val (.int .i64 x14)]) (post := []) (q := 12) (off := 0) (len := y55.length) 8 rfl (own_sl (sz := 5) (m := true) rfl (by first | rfl | simp [bytesI_len]) (by simp only [go_sem])) (by decide)) ?_
                  refine AW.ret ?_
                  obtain rfl := Option.some.inj h
                  (simp only [go_sem, ↓reduceIte, reduceCtorEq, Nat.reduceAdd, Nat.reduceSub, Nat.reduceMul, Nat.reduceEqDiff, Nat.reduceLT, Nat.reduceLeDiff, Nat.reduceBEq, Int.reduceAdd, Int.reduceSub, Int.reduceLT, Int.reduceLE, Int.reduceEq, Int.reduceToNat, eq_true c3, eq_true c6, eq_true c9, eq_true c17, eq_false c19, eq_false c56, finA, resA, resOf_1, resOf_2, sealV_val, sealV_sl, sealV_ip, sealV_agg, sealV_tup, sealV_own, sealL_nil, sealL_cons] <;> try simp)
        · rw [if_neg c17] at h
          refine AW.ifT rfl c17 ?_
          refine AW.regL [2, 3] ?_
          generalize hK : AW Try.prog _ _ _ = K
          simp only [go_sem, ↓reduceIte, reduceCtorEq, Nat.reduceAdd, Nat.reduceSub, Nat.reduceMul, Nat.reduceEqDiff, Nat.reduceLT, Nat.reduceLeDiff, Nat.reduceBEq, Int.reduceAdd, Int.reduceSub, Int.reduceLT, Int.reduceLE, Int.reduceEq, Int.reduceToNat, eq_true c3, eq_true c6, eq_true c9, eq_false c17]
          subst hK
          refine AW.ent (Ent.weakObj 8 rfl rfl (.cons Weak.nil (.cons Weak.nil (.cons (.of rfl) (.cons (.of rfl) (.cons (.of rfl) (.cons (.of rfl) (.cons (.of rfl) (.cons Weak.nil WeakL.nil))))))))) ?_
          refine AW.ret ?_
          refine thenA_r ?_
          obtain rfl := Option.some.inj h
          (simp only [go_sem, ↓reduceIte, reduceCtorEq, Nat.reduceAdd, Nat.reduceSub, Nat.reduceMul, Nat.reduceEqDiff, Nat.reduceLT, Nat.reduceLeDiff, Nat.reduceBEq, Int.reduceAdd, Int.reduceSub, Int.reduceLT, Int.reduceLE, Int.reduceEq, Int.reduceToNat, eq_true c3, eq_true c6, eq_true c9, eq_false c17, finA, resA, resOf_1, resOf_2, sealV_val, sealV_sl, sealV_ip, sealV_agg, sealV_tup, sealV_own, sealL_nil, sealL_cons] <;> try simp)
      · rw [if_neg c9] at h
        refine AW.ifT rfl c9 ?_
        refine AW.regL [2, 3] ?_
        generalize hK : AW Try.prog _ _ _ = K
        simp only [go_sem, ↓reduceIte, reduceCtorEq, Nat.reduceAdd, Nat.reduceSub, Nat.reduceMul, Nat.reduceEqDiff, Nat.reduceLT, Nat.reduceLeDiff, Nat.reduceBEq, Int.reduceAdd, Int.reduceSub, Int.reduceLT, Int.reduceLE, Int.reduceEq, Int.reduceToNat, eq_true c3, eq_true c6, eq_false c9]
        subst hK
        refine AW.ent (Ent.weakObj 8 rfl rfl (.cons Weak.nil (.cons Weak.nil (.cons (.of rfl) (.cons (.of rfl) (.cons (.of rfl) (.cons (.of rfl) (.cons (.of rfl) (.cons Weak.nil WeakL.nil))))))))) ?_
        refine AW.ret ?_
        refine thenA_r ?_
        obtain rfl := Option.some.inj h
        (simp only [go_sem, ↓reduceIte, reduceCtorEq, Nat.reduceAdd, Nat.reduceSub, Nat.reduceMul, Nat.reduceEqDiff, Nat.reduceLT, Nat.reduceLeDiff, Nat.reduceBEq, Int.reduceAdd, Int.reduceSub, Int.reduceLT, Int.reduceLE, Int.reduceEq, Int.reduceToNat, eq_true c3, eq_true c6, eq_false c9, finA, resA, resOf_1, resOf_2, sealV_val, sealV_sl, sealV_ip, sealV_agg, sealV_tup, sealV_own, sealL_nil, sealL_cons] <;> try simp)
    · rw [if_neg c6] at h
      refine AW.ifT rfl c6 ?_
      refine AW.regL [2, 3] ?_
      generalize hK : AW Try.prog _ _ _ = K
      simp only [go_sem, ↓reduceIte, reduceCtorEq, Nat.reduceAdd, Nat.reduceSub, Nat.reduceMul, Nat.reduceEqDiff, Nat.reduceLT, Nat.reduceLeDiff, Nat.reduceBEq, Int.reduceAdd, Int.reduceSub, Int.reduceLT, Int.reduceLE, Int.reduceEq, Int.reduceToNat, eq_true c3, eq_false c6]
      subst hK
      refine AW.ent (Ent.weakObj 8 rfl rfl (.cons Weak.nil (.cons Weak.nil (.cons (.of rfl) (.cons (.of rfl) (.cons (.of rfl) (.cons (.of rfl) (.cons (.of rfl) (.cons Weak.nil WeakL.nil))))))))) ?_
      refine AW.ret ?_
      refine thenA_r ?_
      obtain rfl := Option.some.inj h
      (simp only [go_sem, ↓reduceIte, reduceCtorEq, Nat.reduceAdd, Nat.reduceSub, Nat.reduceMul, Nat.reduceEqDiff, Nat.reduceLT, Nat.reduceLeDiff, Nat.reduceBEq, Int.reduceAdd, Int.reduceSub, Int.reduceLT, Int.reduceLE, Int.reduceEq, Int.reduceToNat, eq_true c3, eq_false c6, finA, resA, resOf_1, resOf_2, sealV_val, sealV_sl, sealV_ip, sealV_agg, sealV_tup, sealV_own, sealL_nil, sealL_cons] <;> try simp)
  · rw [if_neg c3] at h
    refine AW.ifT rfl c3 ?_
    refine AW.regL [2, 3] ?_
    generalize hK : AW Try.prog _ _ _ = K
    simp only [go_sem, ↓reduceIte, reduceCtorEq, Nat.reduceAdd, Nat.reduceSub, Nat.reduceMul, Nat.reduceEqDiff, Nat.reduceLT, Nat.reduceLeDiff, Nat.reduceBEq, Int.reduceAdd, Int.reduceSub, Int.reduceLT, Int.reduceLE, Int.reduceEq, Int.reduceToNat, eq_false c3]
    subst hK
    refine AW.ent (Ent.weakObj 8 rfl rfl (.cons Weak.nil (.cons Weak.nil (.cons (.of rfl) (.cons (.of rfl) (.cons (.of rfl) (.cons (.of rfl) (.cons (.of rfl) (.cons Weak.nil WeakL.nil))))))))) ?_
    refine AW.ret ?_
    refine thenA_r ?_
    obtain rfl := Option.some.inj h
    (simp only [go_sem, ↓reduceIte, reduceCtorEq, Nat.reduceAdd, Nat.reduceSub, Nat.reduceMul, Nat.reduceEqDiff, Nat.reduceLT, Nat.reduceLeDiff, Nat.reduceBEq, Int.reduceAdd, Int.reduceSub, Int.reduceLT, Int.reduceLE, Int.reduceEq, Int.reduceToNat, eq_false c3, finA, resA, resOf_1, resOf_2, sealV_val, sealV_sl, sealV_ip, sealV_agg, sealV_tup, sealV_own, sealL_nil, sealL_cons] <;> try simp)
end Au
end Go.Proofs.Y1
