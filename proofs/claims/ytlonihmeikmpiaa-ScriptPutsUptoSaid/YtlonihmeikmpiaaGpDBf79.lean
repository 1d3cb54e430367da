import Derived.Test.YtlonihmeikmpiaaGpW1
set_option linter.all false
set_option linter.unusedVariables false
set_option linter.unusedSimpArgs false
set_option linter.all false
set_option maxRecDepth 8000
namespace Go.Proofs.Y1
open Go.Gm
namespace Au
noncomputable def f79 (a0 : Tape) : Option (Int × Tape) := (if (a0.b.length : Int) = 0 then some (0, a0) else ((a0.b[0]?).bind fun x3 => ((cutO? a0.b 1 (a0.b.length : Int)).bind fun x4 => some (IntKind.i64.wrap x3, ⟨x4⟩))))
theorem ok79 (a0 : Tape) (r : Int × Tape) (h : f79 a0 = some r) : IC Try.prog 79 [some (.row 1 true [[.sl (List.map enc5 a0.b)]])] [.ptr 0 0 0] (.val (.int .i64 r.1)) [some (.row 1 true [[.sl (List.map enc5 r.2.b)]])] [] := by
  rw [f79] at h
  refine ic_of (N := 26) (rs := [.tmp 2]) Try.func79 rfl rfl rfl (Nat.le_of_ble_eq_true rfl) ?_
  refine AW.regL [0] ?_
  generalize hK : AW Try.prog _ _ _ = K
  simp only [go_sem, ↓reduceIte, reduceCtorEq, Nat.reduceAdd, Nat.reduceSub, Nat.reduceMul, Nat.reduceEqDiff, Nat.reduceLT, Nat.reduceLeDiff, Nat.reduceBEq, Int.reduceAdd, Int.reduceSub, Int.reduceLT, Int.reduceLE, Int.reduceEq, Int.reduceToNat]
  subst hK
  refine AW.seq ?_
  refine AW.regL [0, 9] ?_
  generalize hK : AW Try.prog _ _ _ = K
  simp only [go_sem, ↓reduceIte, reduceCtorEq, Nat.reduceAdd, Nat.reduceSub, Nat.reduceMul, Nat.reduceEqDiff, Nat.reduceLT, Nat.reduceLeDiff, Nat.reduceBEq, Int.reduceAdd, Int.reduceSub, Int.reduceLT, Int.reduceLE, Int.reduceEq, Int.reduceToNat]
  subst hK
  by_cases c2 : (a0.b.length : Int) = 0
  · rw [if_pos c2] at h
    refine AW.ifT rfl c2 ?_
    refine AW.regL [2] ?_
    generalize hK : AW Try.prog _ _ _ = K
    simp only [go_sem, ↓reduceIte, reduceCtorEq, Nat.reduceAdd, Nat.reduceSub, Nat.reduceMul, Nat.reduceEqDiff, Nat.reduceLT, Nat.reduceLeDiff, Nat.reduceBEq, Int.reduceAdd, Int.reduceSub, Int.reduceLT, Int.reduceLE, Int.reduceEq, Int.reduceToNat, eq_true c2]
    subst hK
    refine AW.ent (st' := ⟨(upd anyF 2 (.val (.int .i64 0))), hpL [some (.row 1 true [[.sl (List.map enc5 a0.b)]])] [], 8⟩) ?_ ?_
    · refine Ent.can [] _ _ _ rfl (by first | decide | simp) rfl ?_ ?_ ?_
      · exact (RF.any.pv (by first | rfl | simp only [go_sem]) (by first | rfl | simp [upd_ap, hpL_ap, tau, mapT, mapTL, bytesI_len, eq_true c2]))
      · exact .cons (.eq (by first | rfl | simp only [go_sem]) (by first | rfl | simp [upd_ap, hpL_ap, tau, mapT, mapTL, bytesI_len, eq_true c2])) (.nil _)
      · exact .nil _
    refine AW.ret ?_
    refine thenA_r ?_
    obtain rfl := Option.some.inj h
    exact ⟨rfl, rfl, _, rfl, by first | rfl | simp [resOf, upd_ap, bytesI_len]⟩
  · rw [if_neg c2] at h
    refine AW.ifF rfl c2 ?_
    refine AW.skip ?_
    refine thenA_n ?_
    obtain ⟨x3, hx3, h⟩ := Option.bind_eq_some_iff.1 h
    refine AW.regL [0, 3] ?_
    generalize hK : AW Try.prog _ _ _ = K
    simp only [go_sem, ↓reduceIte, reduceCtorEq, Nat.reduceAdd, Nat.reduceSub, Nat.reduceMul, Nat.reduceEqDiff, Nat.reduceLT, Nat.reduceLeDiff, Nat.reduceBEq, Int.reduceAdd, Int.reduceSub, Int.reduceLT, Int.reduceLE, Int.reduceEq, Int.reduceToNat, eq_false c2, hx3]
    subst hK
    obtain ⟨x4, hx4, h⟩ := Option.bind_eq_some_iff.1 h
    refine AW.regL [3] ?_
    generalize hK : AW Try.prog _ _ _ = K
    simp only [go_sem, ↓reduceIte, reduceCtorEq, Nat.reduceAdd, Nat.reduceSub, Nat.reduceMul, Nat.reduceEqDiff, Nat.reduceLT, Nat.reduceLeDiff, Nat.reduceBEq, Int.reduceAdd, Int.reduceSub, Int.reduceLT, Int.reduceLE, Int.reduceEq, Int.reduceToNat, eq_false c2, cut_sn el41 sz5 (ml_enc5 _) hx4]
    subst hK
    refine AW.regL [2] ?_
    generalize hK : AW Try.prog _ _ _ = K
    simp only [go_sem, ↓reduceIte, reduceCtorEq, Nat.reduceAdd, Nat.reduceSub, Nat.reduceMul, Nat.reduceEqDiff, Nat.reduceLT, Nat.reduceLeDiff, Nat.reduceBEq, Int.reduceAdd, Int.reduceSub, Int.reduceLT, Int.reduceLE, Int.reduceEq, Int.reduceToNat, eq_false c2]
    subst hK
    refine AW.ent (st' := ⟨(upd anyF 2 (.val (.int .i64 (IntKind.i64.wrap x3)))), hpL [some (.row 1 true [[.sl (List.map enc5 x4)]])] [], 8⟩) ?_ ?_
    · refine Ent.can [] _ _ _ rfl (by first | decide | simp) rfl ?_ ?_ ?_
      · exact (RF.any.pv (by first | rfl | simp only [go_sem]) (by first | rfl | simp [upd_ap, hpL_ap, tau, mapT, mapTL, bytesI_len, eq_false c2]))
      · exact .cons (.eq (by first | rfl | simp only [go_sem]) (by first | rfl | simp [upd_ap, hpL_ap, tau, mapT, mapTL, bytesI_len, eq_false c2])) (.nil _)
      · exact .nil _
    refine AW.ret ?_
    obtain rfl := Option.some.inj h
    exact ⟨rfl, rfl, _, rfl, by first | rfl | simp [resOf, upd_ap, bytesI_len]⟩
end Au
end Go.Proofs.Y1
