import Derived.Test.YtlonihmeikmpiaaGnDB
import Derived.Test.YtlonihmeikmpiaaGnDBf114
set_option linter.all false
set_option linter.unusedVariables false
set_option linter.unusedSimpArgs false
set_option linter.all false
set_option maxRecDepth 8000
namespace Go.Proofs.Y1
open Go.Gm
namespace Au
noncomputable def f73 (a0 : Reader) : Option ((List Int) × Reader) := (if a0.e = 0 then ((f114 a0.b a0.at_ 1048576).bind fun x3 => some (bytesI x3.1, ⟨a0.b, x3.2.1, x3.2.2⟩)) else some ([], a0))
theorem ok73 (a0 : Reader) (r : (List Int) × Reader) (h : f73 a0 = some r) : IC Try.prog 73 [some (.row 3 true [[.sl (List.map enc5 a0.b), .val (.int .i64 a0.at_), .val (.int .i64 a0.e)]])] [.ptr 0 0 0] (.own 8 0 r.1.length) [some (.row 3 true [[.sl (List.map enc5 r.2.b), .val (.int .i64 r.2.at_), .val (.int .i64 r.2.e)]])] [some (.row 1 true (List.map enc5 r.1))] := by
  rw [f73] at h
  refine ic_of (N := 34) (rs := [.tmp 2]) Try.func73 rfl rfl rfl (Nat.le_of_ble_eq_true rfl) ?_
  refine AW.regL [0] ?_
  generalize hK : AW Try.prog _ _ _ = K
  simp only [go_sem, ↓reduceIte, reduceCtorEq, Nat.reduceAdd, Nat.reduceSub, Nat.reduceMul, Nat.reduceEqDiff, Nat.reduceLT, Nat.reduceLeDiff, Nat.reduceBEq, Int.reduceAdd, Int.reduceSub, Int.reduceLT, Int.reduceLE, Int.reduceEq, Int.reduceToNat]
  subst hK
  refine AW.seq ?_
  refine AW.regL [0, 10] ?_
  generalize hK : AW Try.prog _ _ _ = K
  simp only [go_sem, ↓reduceIte, reduceCtorEq, Nat.reduceAdd, Nat.reduceSub, Nat.reduceMul, Nat.reduceEqDiff, Nat.reduceLT, Nat.reduceLeDiff, Nat.reduceBEq, Int.reduceAdd, Int.reduceSub, Int.reduceLT, Int.reduceLE, Int.reduceEq, Int.reduceToNat]
  subst hK
  by_cases c2 : a0.e = 0
  · rw [if_pos c2] at h
    refine AW.ifF rfl (fun q => q c2) ?_
    refine AW.skip ?_
    refine thenA_n ?_
    obtain ⟨x3, hx3, h⟩ := Option.bind_eq_some_iff.1 h
    refine AW.regdL [0, 3, 4, 5] [[], [0], [0, 1], [0, 1, 2], [], [4], [4, 5], [4, 5, 6], [0, 1, 2, 3, 4, 5, 6, 7], [0, 1, 2, 3, 4, 5, 6, 7, 8], [0, 1, 2, 3, 4, 5, 6, 7, 8, 9], [0, 1, 2, 3, 4, 5, 6, 7, 8, 9], [0, 1, 2, 3, 4, 5, 6, 7, 8, 9], [0, 1, 2, 3, 4, 5, 6, 7, 8, 9, 10], [0, 1, 2, 3, 4, 5, 6, 7, 8, 9, 10, 11, 13], [0, 1, 2, 3, 4, 5, 6, 7, 8, 9, 10, 11, 12, 13, 14]] [0, 1, 2, 3, 4, 5, 6, 7, 8, 9, 10, 11, 12, 13, 14, 15] (tab [(114, [.sl (List.map enc5 a0.b), .val (.int .i64 a0.at_), .val (.int .i64 1048576)], .tup [.val (.string x3.1), .val (.int .i64 x3.2.1), .val (.int .i64 x3.2.2)])]) (tab_cons (ok114 a0.b a0.at_ 1048576 x3 hx3) Try.call114 tab_nil) draws (by kernel_rfl) (by kernel_rfl) ?_
    generalize hK : AW Try.prog _ _ _ = K
    simp only [go_sem, ↓reduceIte, reduceCtorEq, Nat.reduceAdd, Nat.reduceSub, Nat.reduceMul, Nat.reduceEqDiff, Nat.reduceLT, Nat.reduceLeDiff, Nat.reduceBEq, Int.reduceAdd, Int.reduceSub, Int.reduceLT, Int.reduceLE, Int.reduceEq, Int.reduceToNat, eq_true c2]
    subst hK
    refine AW.regL [3] ?_
    generalize hK : AW Try.prog _ _ _ = K
    simp only [go_sem, ↓reduceIte, reduceCtorEq, Nat.reduceAdd, Nat.reduceSub, Nat.reduceMul, Nat.reduceEqDiff, Nat.reduceLT, Nat.reduceLeDiff, Nat.reduceBEq, Int.reduceAdd, Int.reduceSub, Int.reduceLT, Int.reduceLE, Int.reduceEq, Int.reduceToNat, eq_true c2]
    subst hK
    refine AW.regL [2] ?_
    generalize hK : AW Try.prog _ _ _ = K
    simp only [go_sem, ↓reduceIte, reduceCtorEq, Nat.reduceAdd, Nat.reduceSub, Nat.reduceMul, Nat.reduceEqDiff, Nat.reduceLT, Nat.reduceLeDiff, Nat.reduceBEq, Int.reduceAdd, Int.reduceSub, Int.reduceLT, Int.reduceLE, Int.reduceEq, Int.reduceToNat, eq_true c2, bytesRows_map (enc := enc5) (fun _ => rfl)]
    subst hK
    refine AW.ent (st' := ⟨(upd anyF 2 (.own 8 0 x3.1.size)), hpL [some (.row 3 true [[.sl (List.map enc5 a0.b), .val (.int .i64 x3.2.1), .val (.int .i64 x3.2.2)]])] [some (.row 1 true (List.map enc5 (bytesI x3.1)))], 9⟩) ?_ ?_
    · refine Ent.can [272] _ _ _ rfl (by first | decide | simp) rfl ?_ ?_ ?_
      · exact (RF.any.po (by decide) (by first | rfl | simp [upd_ap, hpL_ap, tau, mapT, mapTL, bytesI_len, eq_true c2]))
      · exact .cons (.eq (by first | rfl | simp only [go_sem]) (by first | rfl | simp [upd_ap, hpL_ap, tau, mapT, mapTL, bytesI_len, eq_true c2])) (.nil _)
      · exact .cons (.eq (by first | rfl | simp only [go_sem]) (by first | rfl | simp [upd_ap, hpL_ap, tau, mapT, mapTL, bytesI_len, eq_true c2])) (.nil _)
    refine AW.ret ?_
    obtain rfl := Option.some.inj h
    exact ⟨rfl, rfl, _, rfl, by first | rfl | simp [resOf, upd_ap, bytesI_len]⟩
  · rw [if_neg c2] at h
    refine AW.ifT rfl c2 ?_
    refine AW.regL [2] ?_
    generalize hK : AW Try.prog _ _ _ = K
    simp only [go_sem, ↓reduceIte, reduceCtorEq, Nat.reduceAdd, Nat.reduceSub, Nat.reduceMul, Nat.reduceEqDiff, Nat.reduceLT, Nat.reduceLeDiff, Nat.reduceBEq, Int.reduceAdd, Int.reduceSub, Int.reduceLT, Int.reduceLE, Int.reduceEq, Int.reduceToNat, eq_false c2]
    subst hK
    refine AW.ent (Ent.nilOwn 2 1 (by decide) rfl) ?_
    refine AW.ent (st' := ⟨(upd anyF 2 (.own 8 0 0)), hpL [some (.row 3 true [[.sl (List.map enc5 a0.b), .val (.int .i64 a0.at_), .val (.int .i64 a0.e)]])] [some (.row 1 true [])], 9⟩) ?_ ?_
    · refine Ent.can [64] _ _ _ rfl (by first | decide | simp) rfl ?_ ?_ ?_
      · exact (RF.any.po (by decide) (by first | rfl | simp [upd_ap, hpL_ap, tau, mapT, mapTL, bytesI_len, eq_false c2]))
      · exact .cons (.eq (by first | rfl | simp only [go_sem]) (by first | rfl | simp [upd_ap, hpL_ap, tau, mapT, mapTL, bytesI_len, eq_false c2])) (.nil _)
      · exact .cons (.eq (by first | rfl | simp only [go_sem]) (by first | rfl | simp [upd_ap, hpL_ap, tau, mapT, mapTL, bytesI_len, eq_false c2])) (.nil _)
    refine AW.ret ?_
    refine thenA_r ?_
    obtain rfl := Option.some.inj h
    exact ⟨rfl, rfl, _, rfl, by first | rfl | simp [resOf, upd_ap, bytesI_len]⟩
end Au
end Go.Proofs.Y1
