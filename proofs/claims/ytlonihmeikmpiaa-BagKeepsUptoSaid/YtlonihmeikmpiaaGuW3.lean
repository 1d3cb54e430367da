import Derived.Test.YtlonihmeikmpiaaGuW1
set_option linter.all false
set_option linter.unusedVariables false
set_option linter.unusedSimpArgs false
set_option linter.all false
set_option maxRecDepth 8000
set_option maxHeartbeats 1000000
namespace Go.Proofs.Y1
open Go.Gm
namespace Au
noncomputable def f37 (a0 : Bag) (a1 : Int) : Option (Bool × Bag) := ((f81 a0 a1).bind fun x3 => (if x3.1 = true then ((f82 x3.2 a1).bind fun x5 => some (true, ⟨x5.2.nodes, x5.2.most, x5.2.down, x5.2.l, x5.2.sent, x5.2.taken, IntKind.i64.wrap (x5.2.lost + 1)⟩)) else some (false, x3.2)))
theorem ok37 (a0 : Bag) (a1 : Int) (r : Bool × Bag) (h : f37 a0 a1 = some r) : IC Try.prog 37 [some (.row 14 true [[.val (.int .i64 a0.nodes), .val (.int .i64 a0.most), .val (.bool a0.down.e0), .val (.bool a0.down.e1), .val (.bool a0.down.e2), .val (.bool a0.down.e3), .val (.bool a0.down.e4), .val (.bool a0.down.e5), .val (.bool a0.down.e6), .val (.bool a0.down.e7), .own 1 0 a0.l.length, .val (.int .i64 a0.sent), .val (.int .i64 a0.taken), .val (.int .i64 a0.lost)]]), some (.row 3 true (List.map encMsg a0.l))] [.ptr 0 0 0, .val (.int .i64 a1)] (.val (.bool r.1)) [some (.row 14 true [[.val (.int .i64 r.2.nodes), .val (.int .i64 r.2.most), .val (.bool r.2.down.e0), .val (.bool r.2.down.e1), .val (.bool r.2.down.e2), .val (.bool r.2.down.e3), .val (.bool r.2.down.e4), .val (.bool r.2.down.e5), .val (.bool r.2.down.e6), .val (.bool r.2.down.e7), .own 1 0 r.2.l.length, .val (.int .i64 r.2.sent), .val (.int .i64 r.2.taken), .val (.int .i64 r.2.lost)]]), some (.row 3 true (List.map encMsg r.2.l))] [] := by
  rw [f37] at h
  refine ic_of (N := 19) (rs := [.tmp 4]) Try.func37 rfl rfl rfl (Nat.le_of_ble_eq_true rfl) ?_
  refine AW.regL [0, 1] ?_
  generalize hK : AW Try.prog _ _ _ = K
  simp only [go_sem, ↓reduceIte, reduceCtorEq, Nat.reduceAdd, Nat.reduceSub, Nat.reduceMul, Nat.reduceEqDiff, Nat.reduceLT, Nat.reduceLeDiff, Nat.reduceBEq, Int.reduceAdd, Int.reduceSub, Int.reduceLT, Int.reduceLE, Int.reduceEq, Int.reduceToNat]
  subst hK
  refine AW.seq ?_
  obtain ⟨x3, hx3, h⟩ := Option.bind_eq_some_iff.1 h
  refine AW.regL [0, 1, 8] ?_
  generalize hK : AW Try.prog _ _ _ = K
  simp only [go_sem, ↓reduceIte, reduceCtorEq, Nat.reduceAdd, Nat.reduceSub, Nat.reduceMul, Nat.reduceEqDiff, Nat.reduceLT, Nat.reduceLeDiff, Nat.reduceBEq, Int.reduceAdd, Int.reduceSub, Int.reduceLT, Int.reduceLE, Int.reduceEq, Int.reduceToNat]
  refine arC.ok (CallOk.ic (us' := _) (ok81 a0 a1 x3 hx3) [0, 1] rfl (by decide) (by simp) (by simp) (by simp) (by simp) (.cons (.tok (by simp [tokL, tokLL, inlR]) (by first | rfl | simp [upd_ap, hpL_ap, sg_ap, mapT, mapTL])) (.cons (.eq (by simp only [go_sem]) (by first | rfl | simp [upd_ap, hpL_ap, sg_ap])) (.nil _))) (by simp only [mapTL_cons, mapTL_nil, mapT_ptr, mapT_own, mapT_val, mapT_sl, mapT_agg, mapT_ip, sg_ap, List.getD_cons_zero, List.getD_cons_succ]; exact (.cons (.of rfl) (.cons (.of rfl) .nil))) (by simp only [go_sem, List.length_cons, List.length_nil, Nat.reduceAdd, Nat.reduceLT, decide_true]) (by simp [AObj.isMut]) (by simp [go_sem]) (by simp [go_sem])) Try.call81 ?_
  simp only [go_sem, ↓reduceIte, reduceCtorEq, Nat.reduceAdd, Nat.reduceSub, Nat.reduceMul, Nat.reduceEqDiff, Nat.reduceLT, Nat.reduceLeDiff, Nat.reduceBEq, Int.reduceAdd, Int.reduceSub, Int.reduceLT, Int.reduceLE, Int.reduceEq, Int.reduceToNat]
  subst hK
  by_cases c4 : x3.1 = true
  · rw [if_pos c4] at h
    refine AW.ifBF rfl (by rw [c4]; rfl) ?_
    refine AW.skip ?_
    refine thenA_n ?_
    obtain ⟨x5, hx5, h⟩ := Option.bind_eq_some_iff.1 h
    refine AW.regL [0] ?_
    generalize hK : AW Try.prog _ _ _ = K
    simp only [go_sem, ↓reduceIte, reduceCtorEq, Nat.reduceAdd, Nat.reduceSub, Nat.reduceMul, Nat.reduceEqDiff, Nat.reduceLT, Nat.reduceLeDiff, Nat.reduceBEq, Int.reduceAdd, Int.reduceSub, Int.reduceLT, Int.reduceLE, Int.reduceEq, Int.reduceToNat, c4]
    refine arC.ok (CallOk.ic (us' := _) (ok82 x3.2 a1 x5 hx5) [0, 1] rfl (by decide) (by simp) (by simp) (by simp) (by simp) (.cons (.tok (by simp [tokL, tokLL, inlR]) (by first | rfl | simp [upd_ap, hpL_ap, sg_ap, mapT, mapTL])) (.cons (.eq (by simp only [go_sem]) (by first | rfl | simp [upd_ap, hpL_ap, sg_ap])) (.nil _))) (by simp only [mapTL_cons, mapTL_nil, mapT_ptr, mapT_own, mapT_val, mapT_sl, mapT_agg, mapT_ip, sg_ap, List.getD_cons_zero, List.getD_cons_succ]; exact (.cons (.of rfl) (.cons (.of rfl) .nil))) (by simp only [go_sem, List.length_cons, List.length_nil, Nat.reduceAdd, Nat.reduceLT, decide_true]) (by simp [AObj.isMut]) (by simp [go_sem]) (by simp [go_sem])) Try.call82 ?_
    simp only [go_sem, ↓reduceIte, reduceCtorEq, Nat.reduceAdd, Nat.reduceSub, Nat.reduceMul, Nat.reduceEqDiff, Nat.reduceLT, Nat.reduceLeDiff, Nat.reduceBEq, Int.reduceAdd, Int.reduceSub, Int.reduceLT, Int.reduceLE, Int.reduceEq, Int.reduceToNat, c4]
    subst hK
    refine AW.regL [] ?_
    generalize hK : AW Try.prog _ _ _ = K
    simp only [go_sem, ↓reduceIte, reduceCtorEq, Nat.reduceAdd, Nat.reduceSub, Nat.reduceMul, Nat.reduceEqDiff, Nat.reduceLT, Nat.reduceLeDiff, Nat.reduceBEq, Int.reduceAdd, Int.reduceSub, Int.reduceLT, Int.reduceLE, Int.reduceEq, Int.reduceToNat, c4]
    subst hK
    refine AW.regL [4] ?_
    generalize hK : AW Try.prog _ _ _ = K
    simp only [go_sem, ↓reduceIte, reduceCtorEq, Nat.reduceAdd, Nat.reduceSub, Nat.reduceMul, Nat.reduceEqDiff, Nat.reduceLT, Nat.reduceLeDiff, Nat.reduceBEq, Int.reduceAdd, Int.reduceSub, Int.reduceLT, Int.reduceLE, Int.reduceEq, Int.reduceToNat, c4]
    subst hK
    refine AW.ent (Ent.trim 1 (by first | rfl | simp [upd_ap, hpL_ap])) ?_
    refine AW.ent (st' := ⟨(upd anyF 4 (.val (.bool true))), hpL [some (.row 14 true [[.val (.int .i64 x5.2.nodes), .val (.int .i64 x5.2.most), .val (.bool x5.2.down.e0), .val (.bool x5.2.down.e1), .val (.bool x5.2.down.e2), .val (.bool x5.2.down.e3), .val (.bool x5.2.down.e4), .val (.bool x5.2.down.e5), .val (.bool x5.2.down.e6), .val (.bool x5.2.down.e7), .own 1 0 x5.2.l.length, .val (.int .i64 x5.2.sent), .val (.int .i64 x5.2.taken), .val (.int .i64 (IntKind.i64.wrap (x5.2.lost + 1)))]]), some (.row 3 true (List.map encMsg x5.2.l))] [], 8⟩) ?_ ?_
    · refine Ent.can [] _ _ _ rfl (by first | decide | simp) rfl ?_ ?_ ?_
      · exact (RF.any.pv (by first | rfl | simp only [go_sem]) (by first | rfl | simp [upd_ap, hpL_ap, tau, mapT, mapTL, bytesI_len, c4]))
      · exact .cons (.tok (by simp [tokL, tokLL, inlR]) (by first | rfl | simp [upd_ap, hpL_ap, tau, mapT, mapTL, bytesI_len, c4])) (.cons (.eq (by first | rfl | simp only [go_sem]) (by first | rfl | simp [upd_ap, hpL_ap, tau, mapT, mapTL, bytesI_len, c4])) (.nil _))
      · exact .nil _
    refine AW.ret ?_
    obtain rfl := Option.some.inj h
    exact ⟨rfl, rfl, _, rfl, by first | rfl | simp [resOf, upd_ap, bytesI_len]⟩
  · rw [if_neg c4] at h
    rw [Bool.not_eq_true] at c4
    refine AW.ifBT rfl (by rw [c4]; rfl) ?_
    refine AW.regL [4] ?_
    generalize hK : AW Try.prog _ _ _ = K
    simp only [go_sem, ↓reduceIte, reduceCtorEq, Nat.reduceAdd, Nat.reduceSub, Nat.reduceMul, Nat.reduceEqDiff, Nat.reduceLT, Nat.reduceLeDiff, Nat.reduceBEq, Int.reduceAdd, Int.reduceSub, Int.reduceLT, Int.reduceLE, Int.reduceEq, Int.reduceToNat, c4]
    subst hK
    refine AW.ent (st' := ⟨(upd anyF 4 (.val (.bool false))), hpL [some (.row 14 true [[.val (.int .i64 x3.2.nodes), .val (.int .i64 x3.2.most), .val (.bool x3.2.down.e0), .val (.bool x3.2.down.e1), .val (.bool x3.2.down.e2), .val (.bool x3.2.down.e3), .val (.bool x3.2.down.e4), .val (.bool x3.2.down.e5), .val (.bool x3.2.down.e6), .val (.bool x3.2.down.e7), .own 1 0 x3.2.l.length, .val (.int .i64 x3.2.sent), .val (.int .i64 x3.2.taken), .val (.int .i64 x3.2.lost)]]), some (.row 3 true (List.map encMsg x3.2.l))] [], 8⟩) ?_ ?_
    · refine Ent.can [] _ _ _ rfl (by first | decide | simp) rfl ?_ ?_ ?_
      · exact (RF.any.pv (by first | rfl | simp only [go_sem]) (by first | rfl | simp [upd_ap, hpL_ap, tau, mapT, mapTL, bytesI_len, c4]))
      · exact .cons (.tok (by simp [tokL, tokLL, inlR]) (by first | rfl | simp [upd_ap, hpL_ap, tau, mapT, mapTL, bytesI_len, c4])) (.cons (.eq (by first | rfl | simp only [go_sem]) (by first | rfl | simp [upd_ap, hpL_ap, tau, mapT, mapTL, bytesI_len, c4])) (.nil _))
      · exact .nil _
    refine AW.ret ?_
    refine thenA_r ?_
    obtain rfl := Option.some.inj h
    exact ⟨rfl, rfl, _, rfl, by first | rfl | simp [resOf, upd_ap, bytesI_len]⟩
end Au
end Go.Proofs.Y1

set_option linter.all false
set_option maxRecDepth 8000
set_option maxHeartbeats 1000000
namespace Go.Proofs.Y1
open Go.Gm
namespace Au
noncomputable def f39 (a0 : Bag) (a1 : Int) (a2 : Int) : Option (Bool × Bag) := ((f81 a0 a1).bind fun x5 => (if x5.1 = true then ((f81 x5.2 a2).bind fun x7 => (if x7.1 = true then ((f82 x7.2 a1).bind fun x9 => ((f84 x9.2.l a2 x9.1).bind fun x10 => some (true, ⟨x9.2.nodes, x9.2.most, x9.2.down, x10, x9.2.sent, x9.2.taken, x9.2.lost⟩))) else some (false, x7.2))) else some (false, x5.2)))
theorem ok39 (a0 : Bag) (a1 : Int) (a2 : Int) (r : Bool × Bag) (h : f39 a0 a1 a2 = some r) : IC Try.prog 39 [some (.row 14 true [[.val (.int .i64 a0.nodes), .val (.int .i64 a0.most), .val (.bool a0.down.e0), .val (.bool a0.down.e1), .val (.bool a0.down.e2), .val (.bool a0.down.e3), .val (.bool a0.down.e4), .val (.bool a0.down.e5), .val (.bool a0.down.e6), .val (.bool a0.down.e7), .own 1 0 a0.l.length, .val (.int .i64 a0.sent), .val (.int .i64 a0.taken), .val (.int .i64 a0.lost)]]), some (.row 3 true (List.map encMsg a0.l))] [.ptr 0 0 0, .val (.int .i64 a1), .val (.int .i64 a2)] (.val (.bool r.1)) [some (.row 14 true [[.val (.int .i64 r.2.nodes), .val (.int .i64 r.2.most), .val (.bool r.2.down.e0), .val (.bool r.2.down.e1), .val (.bool r.2.down.e2), .val (.bool r.2.down.e3), .val (.bool r.2.down.e4), .val (.bool r.2.down.e5), .val (.bool r.2.down.e6), .val (.bool r.2.down.e7), .own 1 0 r.2.l.length, .val (.int .i64 r.2.sent), .val (.int .i64 r.2.taken), .val (.int .i64 r.2.lost)]]), some (.row 3 true (List.map encMsg r.2.l))] [] := by
  rw [f39] at h
  refine ic_of (N := 32) (rs := [.tmp 6]) Try.func39 rfl rfl rfl (Nat.le_of_ble_eq_true rfl) ?_
  refine AW.regL [0, 1, 2] ?_
  generalize hK : AW Try.prog _ _ _ = K
  simp only [go_sem, ↓reduceIte, reduceCtorEq, Nat.reduceAdd, Nat.reduceSub, Nat.reduceMul, Nat.reduceEqDiff, Nat.reduceLT, Nat.reduceLeDiff, Nat.reduceBEq, Int.reduceAdd, Int.reduceSub, Int.reduceLT, Int.reduceLE, Int.reduceEq, Int.reduceToNat]
  subst hK
  refine AW.seq ?_
  obtain ⟨x5, hx5, h⟩ := Option.bind_eq_some_iff.1 h
  by_cases c6 : x5.1 = true
  · rw [if_pos c6] at h
    obtain ⟨x7, hx7, h⟩ := Option.bind_eq_some_iff.1 h
    refine AW.regL [0, 1, 2, 17] ?_
    generalize hK : AW Try.prog _ _ _ = K
    simp only [go_sem, ↓reduceIte, reduceCtorEq, Nat.reduceAdd, Nat.reduceSub, Nat.reduceMul, Nat.reduceEqDiff, Nat.reduceLT, Nat.reduceLeDiff, Nat.reduceBEq, Int.reduceAdd, Int.reduceSub, Int.reduceLT, Int.reduceLE, Int.reduceEq, Int.reduceToNat, c6]
    refine arC.ok (CallOk.ic (us' := _) (ok81 a0 a1 x5 hx5) [0, 1] rfl (by decide) (by simp) (by simp) (by simp) (by simp) (.cons (.tok (by simp [tokL, tokLL, inlR]) (by first | rfl | simp [upd_ap, hpL_ap, sg_ap, mapT, mapTL])) (.cons (.eq (by simp only [go_sem]) (by first | rfl | simp [upd_ap, hpL_ap, sg_ap])) (.nil _))) (by simp only [mapTL_cons, mapTL_nil, mapT_ptr, mapT_own, mapT_val, mapT_sl, mapT_agg, mapT_ip, sg_ap, List.getD_cons_zero, List.getD_cons_succ]; exact (.cons (.of rfl) (.cons (.of rfl) .nil))) (by simp only [go_sem, List.length_cons, List.length_nil, Nat.reduceAdd, Nat.reduceLT, decide_true]) (by simp [AObj.isMut]) (by simp [go_sem]) (by simp [go_sem])) Try.call81 ?_
    simp only [go_sem, ↓reduceIte, reduceCtorEq, Nat.reduceAdd, Nat.reduceSub, Nat.reduceMul, Nat.reduceEqDiff, Nat.reduceLT, Nat.reduceLeDiff, Nat.reduceBEq, Int.reduceAdd, Int.reduceSub, Int.reduceLT, Int.reduceLE, Int.reduceEq, Int.reduceToNat, c6]
    refine arC.ok (CallOk.ic (us' := _) (ok81 x5.2 a2 x7 hx7) [0, 1] rfl (by decide) (by simp) (by simp) (by simp) (by simp) (.cons (.tok (by simp [tokL, tokLL, inlR]) (by first | rfl | simp [upd_ap, hpL_ap, sg_ap, mapT, mapTL])) (.cons (.eq (by simp only [go_sem]) (by first | rfl | simp [upd_ap, hpL_ap, sg_ap])) (.nil _))) (by simp only [mapTL_cons, mapTL_nil, mapT_ptr, mapT_own, mapT_val, mapT_sl, mapT_agg, mapT_ip, sg_ap, List.getD_cons_zero, List.getD_cons_succ]; exact (.cons (.of rfl) (.cons (.of rfl) .nil))) (by simp only [go_sem, List.length_cons, List.length_nil, Nat.reduceAdd, Nat.reduceLT, decide_true]) (by simp [AObj.isMut]) (by simp [go_sem]) (by simp [go_sem])) Try.call81 ?_
    simp only [go_sem, ↓reduceIte, reduceCtorEq, Nat.reduceAdd, Nat.reduceSub, Nat.reduceMul, Nat.reduceEqDiff, Nat.reduceLT, Nat.reduceLeDiff, Nat.reduceBEq, Int.reduceAdd, Int.reduceSub, Int.reduceLT, Int.reduceLE, Int.reduceEq, Int.reduceToNat, c6]
    subst hK
    by_cases c8 : x7.1 = true
    · rw [if_pos c8] at h
      refine AW.ifBF rfl (by rw [c8]; rfl) ?_
      refine AW.skip ?_
      refine thenA_n ?_
      obtain ⟨x9, hx9, h⟩ := Option.bind_eq_some_iff.1 h
      refine AW.regL [0, 2, 7] ?_
      generalize hK : AW Try.prog _ _ _ = K
      simp only [go_sem, ↓reduceIte, reduceCtorEq, Nat.reduceAdd, Nat.reduceSub, Nat.reduceMul, Nat.reduceEqDiff, Nat.reduceLT, Nat.reduceLeDiff, Nat.reduceBEq, Int.reduceAdd, Int.reduceSub, Int.reduceLT, Int.reduceLE, Int.reduceEq, Int.reduceToNat, c6, c8]
      refine arC.ok (CallOk.ic (us' := _) (ok82 x7.2 a1 x9 hx9) [0, 1] rfl (by decide) (by simp) (by simp) (by simp) (by simp) (.cons (.tok (by simp [tokL, tokLL, inlR]) (by first | rfl | simp [upd_ap, hpL_ap, sg_ap, mapT, mapTL])) (.cons (.eq (by simp only [go_sem]) (by first | rfl | simp [upd_ap, hpL_ap, sg_ap])) (.nil _))) (by simp only [mapTL_cons, mapTL_nil, mapT_ptr, mapT_own, mapT_val, mapT_sl, mapT_agg, mapT_ip, sg_ap, List.getD_cons_zero, List.getD_cons_succ]; exact (.cons (.of rfl) (.cons (.of rfl) .nil))) (by simp only [go_sem, List.length_cons, List.length_nil, Nat.reduceAdd, Nat.reduceLT, decide_true]) (by simp [AObj.isMut]) (by simp [go_sem]) (by simp [go_sem])) Try.call82 ?_
      simp only [go_sem, ↓reduceIte, reduceCtorEq, Nat.reduceAdd, Nat.reduceSub, Nat.reduceMul, Nat.reduceEqDiff, Nat.reduceLT, Nat.reduceLeDiff, Nat.reduceBEq, Int.reduceAdd, Int.reduceSub, Int.reduceLT, Int.reduceLE, Int.reduceEq, Int.reduceToNat, c6, c8]
      subst hK
      obtain ⟨x10, hx10, h⟩ := Option.bind_eq_some_iff.1 h
      refine AW.regdL [] [[], [], [1], [1, 2], [1, 2, 3], [], [], [6], [1, 2, 3, 4, 5, 6, 7], [0, 1, 2, 3, 4, 5, 6, 7, 8], [0, 1, 2, 3, 4, 5, 6, 7, 8, 9], [0, 1, 2, 3, 4, 5, 6, 7, 8, 9, 10]] [0, 1, 2, 3, 4, 5, 6, 7, 8, 9, 10, 11] noFt (fun _ _ _ h => by simp [noFt] at h) draws (by kernel_rfl) (by kernel_rfl) ?_
      generalize hK : AW Try.prog _ _ _ = K
      simp only [go_sem, ↓reduceIte, reduceCtorEq, Nat.reduceAdd, Nat.reduceSub, Nat.reduceMul, Nat.reduceEqDiff, Nat.reduceLT, Nat.reduceLeDiff, Nat.reduceBEq, Int.reduceAdd, Int.reduceSub, Int.reduceLT, Int.reduceLE, Int.reduceEq, Int.reduceToNat, c6, c8]
      refine adN.ic (ok84 x9.2.l a2 x9.1 x10 hx10) Try.call84 callV_fn [1, 192] rfl (by decide) (by simp) (by simp) (by simp) (by simp) (.cons (.eq (by simp only [go_sem]) (by first | rfl | simp [upd_ap, hpL_ap, sg_ap])) (.cons (.eq (by simp only [go_sem]) (by first | rfl | simp [upd_ap, hpL_ap, sg_ap])) (.nil _))) (by simp only [List.nil_append, List.append_nil, List.cons_append, List.map_cons, List.map_nil, evF_tmp, evF_const, upd_ap, Nat.reduceEqDiff, if_true, if_false, ↓reduceIte, mapTL_cons, mapTL_nil, mapT_ptr, mapT_own, mapT_val, mapT_sl, mapT_agg, mapT_ip, sg_ap, List.getD_cons_zero, List.getD_cons_succ]; exact (.cons (.of (by first | rfl | simp [mapT_own, sg_ap, c6, c8])) (.cons (.of rfl) (.cons (.of (by first | rfl | simp [mapT_own, sg_ap, c6, c8])) .nil)))) (by simp only [go_sem, List.length_cons, List.length_nil, Nat.reduceAdd, Nat.reduceLT, decide_true]) (by simp [AObj.isMut]) (by simp [go_sem]) (by simp [go_sem]) ?_
      simp only [go_sem, ↓reduceIte, reduceCtorEq, Nat.reduceAdd, Nat.reduceSub, Nat.reduceMul, Nat.reduceEqDiff, Nat.reduceLT, Nat.reduceLeDiff, Nat.reduceBEq, Int.reduceAdd, Int.reduceSub, Int.reduceLT, Int.reduceLE, Int.reduceEq, Int.reduceToNat, c6, c8]
      subst hK
      refine AW.regL [6] ?_
      generalize hK : AW Try.prog _ _ _ = K
      simp only [go_sem, ↓reduceIte, reduceCtorEq, Nat.reduceAdd, Nat.reduceSub, Nat.reduceMul, Nat.reduceEqDiff, Nat.reduceLT, Nat.reduceLeDiff, Nat.reduceBEq, Int.reduceAdd, Int.reduceSub, Int.reduceLT, Int.reduceLE, Int.reduceEq, Int.reduceToNat, c6, c8]
      subst hK
      refine AW.ent (st' := ⟨(upd anyF 6 (.val (.bool true))), hpL [some (.row 14 true [[.val (.int .i64 x9.2.nodes), .val (.int .i64 x9.2.most), .val (.bool x9.2.down.e0), .val (.bool x9.2.down.e1), .val (.bool x9.2.down.e2), .val (.bool x9.2.down.e3), .val (.bool x9.2.down.e4), .val (.bool x9.2.down.e5), .val (.bool x9.2.down.e6), .val (.bool x9.2.down.e7), .own 1 0 x10.length, .val (.int .i64 x9.2.sent), .val (.int .i64 x9.2.taken), .val (.int .i64 x9.2.lost)]]), some (.row 3 true (List.map encMsg x10))] [], 8⟩) ?_ ?_
      · refine Ent.can [] _ _ _ rfl (by first | decide | simp) rfl ?_ ?_ ?_
        · exact (RF.any.pv (by first | rfl | simp only [go_sem]) (by first | rfl | simp [upd_ap, hpL_ap, tau, mapT, mapTL, bytesI_len, c6, c8]))
        · exact .cons (.tok (by simp [tokL, tokLL, inlR]) (by first | rfl | simp [upd_ap, hpL_ap, tau, mapT, mapTL, bytesI_len, c6, c8])) (.cons (.eq (by first | rfl | simp only [go_sem]) (by first | rfl | simp [upd_ap, hpL_ap, tau, mapT, mapTL, bytesI_len, c6, c8])) (.nil _))
        · exact .nil _
      refine AW.ret ?_
      obtain rfl := Option.some.inj h
      exact ⟨rfl, rfl, _, rfl, by first | rfl | simp [resOf, upd_ap, bytesI_len]⟩
    · rw [if_neg c8] at h
      rw [Bool.not_eq_true] at c8
      refine AW.ifBT rfl (by rw [c8]; rfl) ?_
      refine AW.regL [6] ?_
      generalize hK : AW Try.prog _ _ _ = K
      simp only [go_sem, ↓reduceIte, reduceCtorEq, Nat.reduceAdd, Nat.reduceSub, Nat.reduceMul, Nat.reduceEqDiff, Nat.reduceLT, Nat.reduceLeDiff, Nat.reduceBEq, Int.reduceAdd, Int.reduceSub, Int.reduceLT, Int.reduceLE, Int.reduceEq, Int.reduceToNat, c6, c8]
      subst hK
      refine AW.ent (st' := ⟨(upd anyF 6 (.val (.bool false))), hpL [some (.row 14 true [[.val (.int .i64 x7.2.nodes), .val (.int .i64 x7.2.most), .val (.bool x7.2.down.e0), .val (.bool x7.2.down.e1), .val (.bool x7.2.down.e2), .val (.bool x7.2.down.e3), .val (.bool x7.2.down.e4), .val (.bool x7.2.down.e5), .val (.bool x7.2.down.e6), .val (.bool x7.2.down.e7), .own 1 0 x7.2.l.length, .val (.int .i64 x7.2.sent), .val (.int .i64 x7.2.taken), .val (.int .i64 x7.2.lost)]]), some (.row 3 true (List.map encMsg x7.2.l))] [], 8⟩) ?_ ?_
      · refine Ent.can [] _ _ _ rfl (by first | decide | simp) rfl ?_ ?_ ?_
        · exact (RF.any.pv (by first | rfl | simp only [go_sem]) (by first | rfl | simp [upd_ap, hpL_ap, tau, mapT, mapTL, bytesI_len, c6, c8]))
        · exact .cons (.tok (by simp [tokL, tokLL, inlR]) (by first | rfl | simp [upd_ap, hpL_ap, tau, mapT, mapTL, bytesI_len, c6, c8])) (.cons (.eq (by first | rfl | simp only [go_sem]) (by first | rfl | simp [upd_ap, hpL_ap, tau, mapT, mapTL, bytesI_len, c6, c8])) (.nil _))
        · exact .nil _
      refine AW.ret ?_
      refine thenA_r ?_
      obtain rfl := Option.some.inj h
      exact ⟨rfl, rfl, _, rfl, by first | rfl | simp [resOf, upd_ap, bytesI_len]⟩
  · rw [if_neg c6] at h
    rw [Bool.not_eq_true] at c6
    refine AW.regL [0, 1, 2, 17] ?_
    generalize hK : AW Try.prog _ _ _ = K
    simp only [go_sem, ↓reduceIte, reduceCtorEq, Nat.reduceAdd, Nat.reduceSub, Nat.reduceMul, Nat.reduceEqDiff, Nat.reduceLT, Nat.reduceLeDiff, Nat.reduceBEq, Int.reduceAdd, Int.reduceSub, Int.reduceLT, Int.reduceLE, Int.reduceEq, Int.reduceToNat, c6]
    refine arC.ok (CallOk.ic (us' := _) (ok81 a0 a1 x5 hx5) [0, 1] rfl (by decide) (by simp) (by simp) (by simp) (by simp) (.cons (.tok (by simp [tokL, tokLL, inlR]) (by first | rfl | simp [upd_ap, hpL_ap, sg_ap, mapT, mapTL])) (.cons (.eq (by simp only [go_sem]) (by first | rfl | simp [upd_ap, hpL_ap, sg_ap])) (.nil _))) (by simp only [mapTL_cons, mapTL_nil, mapT_ptr, mapT_own, mapT_val, mapT_sl, mapT_agg, mapT_ip, sg_ap, List.getD_cons_zero, List.getD_cons_succ]; exact (.cons (.of rfl) (.cons (.of rfl) .nil))) (by simp only [go_sem, List.length_cons, List.length_nil, Nat.reduceAdd, Nat.reduceLT, decide_true]) (by simp [AObj.isMut]) (by simp [go_sem]) (by simp [go_sem])) Try.call81 ?_
    simp only [go_sem, ↓reduceIte, reduceCtorEq, Nat.reduceAdd, Nat.reduceSub, Nat.reduceMul, Nat.reduceEqDiff, Nat.reduceLT, Nat.reduceLeDiff, Nat.reduceBEq, Int.reduceAdd, Int.reduceSub, Int.reduceLT, Int.reduceLE, Int.reduceEq, Int.reduceToNat, c6]
    subst hK
    refine AW.ifBT rfl rfl ?_
    refine AW.regL [6] ?_
    generalize hK : AW Try.prog _ _ _ = K
    simp only [go_sem, ↓reduceIte, reduceCtorEq, Nat.reduceAdd, Nat.reduceSub, Nat.reduceMul, Nat.reduceEqDiff, Nat.reduceLT, Nat.reduceLeDiff, Nat.reduceBEq, Int.reduceAdd, Int.reduceSub, Int.reduceLT, Int.reduceLE, Int.reduceEq, Int.reduceToNat, c6]
    subst hK
    refine AW.ent (st' := ⟨(upd anyF 6 (.val (.bool false))), hpL [some (.row 14 true [[.val (.int .i64 x5.2.nodes), .val (.int .i64 x5.2.most), .val (.bool x5.2.down.e0), .val (.bool x5.2.down.e1), .val (.bool x5.2.down.e2), .val (.bool x5.2.down.e3), .val (.bool x5.2.down.e4), .val (.bool x5.2.down.e5), .val (.bool x5.2.down.e6), .val (.bool x5.2.down.e7), .own 1 0 x5.2.l.length, .val (.int .i64 x5.2.sent), .val (.int .i64 x5.2.taken), .val (.int .i64 x5.2.lost)]]), some (.row 3 true (List.map encMsg x5.2.l))] [], 8⟩) ?_ ?_
    · refine Ent.can [] _ _ _ rfl (by first | decide | simp) rfl ?_ ?_ ?_
      · exact (RF.any.pv (by first | rfl | simp only [go_sem]) (by first | rfl | simp [upd_ap, hpL_ap, tau, mapT, mapTL, bytesI_len, c6]))
      · exact .cons (.tok (by simp [tokL, tokLL, inlR]) (by first | rfl | simp [upd_ap, hpL_ap, tau, mapT, mapTL, bytesI_len, c6])) (.cons (.eq (by first | rfl | simp only [go_sem]) (by first | rfl | simp [upd_ap, hpL_ap, tau, mapT, mapTL, bytesI_len, c6])) (.nil _))
      · exact .nil _
    refine AW.ret ?_
    refine thenA_r ?_
    obtain rfl := Option.some.inj h
    exact ⟨rfl, rfl, _, rfl, by first | rfl | simp [resOf, upd_ap, bytesI_len]⟩
end Au
end Go.Proofs.Y1

set_option linter.all false
set_option maxRecDepth 8000
set_option maxHeartbeats 1000000
namespace Go.Proofs.Y1
open Go.Gm
namespace Au
noncomputable def f41 (a0 : Bag) (a1 : Int) (a2 : Bool) : Option (Int × Bag) := ((f85 a0 a1).bind fun x3 => (if x3.1 = true then ((guardO (0 ≤ a1 ∧ a1 < 8)).bind fun x5 => some (0, ⟨x3.2.nodes, x3.2.most, (A8.set x3.2.down a1.toNat !a2), x3.2.l, x3.2.sent, x3.2.taken, x3.2.lost⟩)) else some (1, x3.2)))
theorem ok41 (a0 : Bag) (a1 : Int) (a2 : Bool) (r : Int × Bag) (h : f41 a0 a1 a2 = some r) : IC Try.prog 41 [some (.row 14 true [[.val (.int .i64 a0.nodes), .val (.int .i64 a0.most), .val (.bool a0.down.e0), .val (.bool a0.down.e1), .val (.bool a0.down.e2), .val (.bool a0.down.e3), .val (.bool a0.down.e4), .val (.bool a0.down.e5), .val (.bool a0.down.e6), .val (.bool a0.down.e7), .own 1 0 a0.l.length, .val (.int .i64 a0.sent), .val (.int .i64 a0.taken), .val (.int .i64 a0.lost)]]), some (.row 3 true (List.map encMsg a0.l))] [.ptr 0 0 0, .val (.int .i64 a1), .val (.bool a2)] (.val (.int .i64 r.1)) [some (.row 14 true [[.val (.int .i64 r.2.nodes), .val (.int .i64 r.2.most), .val (.bool r.2.down.e0), .val (.bool r.2.down.e1), .val (.bool r.2.down.e2), .val (.bool r.2.down.e3), .val (.bool r.2.down.e4), .val (.bool r.2.down.e5), .val (.bool r.2.down.e6), .val (.bool r.2.down.e7), .own 1 0 r.2.l.length, .val (.int .i64 r.2.sent), .val (.int .i64 r.2.taken), .val (.int .i64 r.2.lost)]]), some (.row 3 true (List.map encMsg r.2.l))] [] := by
  rw [f41] at h
  refine ic_of (N := 22) (rs := [.tmp 6]) Try.func41 rfl rfl rfl (Nat.le_of_ble_eq_true rfl) ?_
  refine AW.regL [0, 1, 2] ?_
  generalize hK : AW Try.prog _ _ _ = K
  simp only [go_sem, ↓reduceIte, reduceCtorEq, Nat.reduceAdd, Nat.reduceSub, Nat.reduceMul, Nat.reduceEqDiff, Nat.reduceLT, Nat.reduceLeDiff, Nat.reduceBEq, Int.reduceAdd, Int.reduceSub, Int.reduceLT, Int.reduceLE, Int.reduceEq, Int.reduceToNat]
  subst hK
  refine AW.seq ?_
  refine AW.block ?_
  refine AW.regL [0, 1, 2, 7] ?_
  generalize hK : AW Try.prog _ _ _ = K
  simp only [go_sem, ↓reduceIte, reduceCtorEq, Nat.reduceAdd, Nat.reduceSub, Nat.reduceMul, Nat.reduceEqDiff, Nat.reduceLT, Nat.reduceLeDiff, Nat.reduceBEq, Int.reduceAdd, Int.reduceSub, Int.reduceLT, Int.reduceLE, Int.reduceEq, Int.reduceToNat]
  subst hK
  refine AW.ifBF rfl rfl ?_
  obtain ⟨x3, hx3, h⟩ := Option.bind_eq_some_iff.1 h
  refine AW.regL [0, 1, 2, 10] ?_
  generalize hK : AW Try.prog _ _ _ = K
  simp only [go_sem, ↓reduceIte, reduceCtorEq, Nat.reduceAdd, Nat.reduceSub, Nat.reduceMul, Nat.reduceEqDiff, Nat.reduceLT, Nat.reduceLeDiff, Nat.reduceBEq, Int.reduceAdd, Int.reduceSub, Int.reduceLT, Int.reduceLE, Int.reduceEq, Int.reduceToNat]
  refine arC.ok (CallOk.ic (us' := _) (ok85 a0 a1 x3 hx3) [0, 1] rfl (by decide) (by simp) (by simp) (by simp) (by simp) (.cons (.tok (by simp [tokL, tokLL, inlR]) (by first | rfl | simp [upd_ap, hpL_ap, sg_ap, mapT, mapTL])) (.cons (.eq (by simp only [go_sem]) (by first | rfl | simp [upd_ap, hpL_ap, sg_ap])) (.nil _))) (by simp only [mapTL_cons, mapTL_nil, mapT_ptr, mapT_own, mapT_val, mapT_sl, mapT_agg, mapT_ip, sg_ap, List.getD_cons_zero, List.getD_cons_succ]; exact (.cons (.of rfl) (.cons (.of rfl) .nil))) (by simp only [go_sem, List.length_cons, List.length_nil, Nat.reduceAdd, Nat.reduceLT, decide_true]) (by simp [AObj.isMut]) (by simp [go_sem]) (by simp [go_sem])) Try.call85 ?_
  simp only [go_sem, ↓reduceIte, reduceCtorEq, Nat.reduceAdd, Nat.reduceSub, Nat.reduceMul, Nat.reduceEqDiff, Nat.reduceLT, Nat.reduceLeDiff, Nat.reduceBEq, Int.reduceAdd, Int.reduceSub, Int.reduceLT, Int.reduceLE, Int.reduceEq, Int.reduceToNat]
  subst hK
  by_cases c4 : x3.1 = true
  · rw [if_pos c4] at h
    refine AW.ifBF rfl (by rw [c4]; rfl) ?_
    refine AW.skip ?_
    refine block_n ?_
    refine thenA_n ?_
    obtain ⟨x5, hx5, h⟩ := Option.bind_eq_some_iff.1 h
    refine AW.regL [] ?_
    generalize hK : AW Try.prog _ _ _ = K
    simp only [go_sem, ↓reduceIte, reduceCtorEq, Nat.reduceAdd, Nat.reduceSub, Nat.reduceMul, Nat.reduceEqDiff, Nat.reduceLT, Nat.reduceLeDiff, Nat.reduceBEq, Int.reduceAdd, Int.reduceSub, Int.reduceLT, Int.reduceLE, Int.reduceEq, Int.reduceToNat, c4, natOf_gd hx5, idx8 hx5, all8 (p := fun k => List.take (2 + k) ([.val (.int .i64 x3.2.nodes), .val (.int .i64 x3.2.most), .val (.bool x3.2.down.e0), .val (.bool x3.2.down.e1), .val (.bool x3.2.down.e2), .val (.bool x3.2.down.e3), .val (.bool x3.2.down.e4), .val (.bool x3.2.down.e5), .val (.bool x3.2.down.e6), .val (.bool x3.2.down.e7), .own 1 0 x3.2.l.length, .val (.int .i64 x3.2.sent), .val (.int .i64 x3.2.taken), .val (.int .i64 x3.2.lost)] : List AV) ++ .val (.bool (!a2)) :: List.drop (2 + k) ([.val (.int .i64 x3.2.most), .val (.bool x3.2.down.e0), .val (.bool x3.2.down.e1), .val (.bool x3.2.down.e2), .val (.bool x3.2.down.e3), .val (.bool x3.2.down.e4), .val (.bool x3.2.down.e5), .val (.bool x3.2.down.e6), .val (.bool x3.2.down.e7), .own 1 0 x3.2.l.length, .val (.int .i64 x3.2.sent), .val (.int .i64 x3.2.taken), .val (.int .i64 x3.2.lost)] : List AV) = ([.val (.int .i64 x3.2.nodes), .val (.int .i64 x3.2.most), .val (.bool ((A8.set x3.2.down k !a2).e0)), .val (.bool ((A8.set x3.2.down k !a2).e1)), .val (.bool ((A8.set x3.2.down k !a2).e2)), .val (.bool ((A8.set x3.2.down k !a2).e3)), .val (.bool ((A8.set x3.2.down k !a2).e4)), .val (.bool ((A8.set x3.2.down k !a2).e5)), .val (.bool ((A8.set x3.2.down k !a2).e6)), .val (.bool ((A8.set x3.2.down k !a2).e7)), .own 1 0 x3.2.l.length, .val (.int .i64 x3.2.sent), .val (.int .i64 x3.2.taken), .val (.int .i64 x3.2.lost)] : List AV)) rfl rfl rfl rfl rfl rfl rfl rfl (idx8 hx5), all8 (p := fun k => (2 + k + 1 ≤ 14) = True) (by simp) (by simp) (by simp) (by simp) (by simp) (by simp) (by simp) (by simp) (idx8 hx5)]
    subst hK
    refine AW.regL [6] ?_
    generalize hK : AW Try.prog _ _ _ = K
    simp only [go_sem, ↓reduceIte, reduceCtorEq, Nat.reduceAdd, Nat.reduceSub, Nat.reduceMul, Nat.reduceEqDiff, Nat.reduceLT, Nat.reduceLeDiff, Nat.reduceBEq, Int.reduceAdd, Int.reduceSub, Int.reduceLT, Int.reduceLE, Int.reduceEq, Int.reduceToNat, c4]
    subst hK
    refine AW.ent (st' := ⟨(upd anyF 6 (.val (.int .i64 0))), hpL [some (.row 14 true [[.val (.int .i64 x3.2.nodes), .val (.int .i64 x3.2.most), .val (.bool ((A8.set x3.2.down a1.toNat !a2).e0)), .val (.bool ((A8.set x3.2.down a1.toNat !a2).e1)), .val (.bool ((A8.set x3.2.down a1.toNat !a2).e2)), .val (.bool ((A8.set x3.2.down a1.toNat !a2).e3)), .val (.bool ((A8.set x3.2.down a1.toNat !a2).e4)), .val (.bool ((A8.set x3.2.down a1.toNat !a2).e5)), .val (.bool ((A8.set x3.2.down a1.toNat !a2).e6)), .val (.bool ((A8.set x3.2.down a1.toNat !a2).e7)), .own 1 0 x3.2.l.length, .val (.int .i64 x3.2.sent), .val (.int .i64 x3.2.taken), .val (.int .i64 x3.2.lost)]]), some (.row 3 true (List.map encMsg x3.2.l))] [], 8⟩) ?_ ?_
    · refine Ent.can [] _ _ _ rfl (by first | decide | simp) rfl ?_ ?_ ?_
      · exact (RF.any.pv (by first | rfl | simp only [go_sem]) (by first | rfl | simp [upd_ap, hpL_ap, tau, mapT, mapTL, bytesI_len, c4]))
      · exact .cons (.tok (by simp [tokL, tokLL, inlR]) (by first | rfl | simp [upd_ap, hpL_ap, tau, mapT, mapTL, bytesI_len, c4])) (.cons (.eq (by first | rfl | simp only [go_sem]) (by first | rfl | simp [upd_ap, hpL_ap, tau, mapT, mapTL, bytesI_len, c4])) (.nil _))
      · exact .nil _
    refine AW.ret ?_
    obtain rfl := Option.some.inj h
    exact ⟨rfl, rfl, _, rfl, by first | rfl | simp [resOf, upd_ap, bytesI_len]⟩
  · rw [if_neg c4] at h
    rw [Bool.not_eq_true] at c4
    refine AW.ifBT rfl (by rw [c4]; rfl) ?_
    refine AW.regL [6] ?_
    generalize hK : AW Try.prog _ _ _ = K
    simp only [go_sem, ↓reduceIte, reduceCtorEq, Nat.reduceAdd, Nat.reduceSub, Nat.reduceMul, Nat.reduceEqDiff, Nat.reduceLT, Nat.reduceLeDiff, Nat.reduceBEq, Int.reduceAdd, Int.reduceSub, Int.reduceLT, Int.reduceLE, Int.reduceEq, Int.reduceToNat, c4]
    subst hK
    refine AW.ent (st' := ⟨(upd anyF 6 (.val (.int .i64 1))), hpL [some (.row 14 true [[.val (.int .i64 x3.2.nodes), .val (.int .i64 x3.2.most), .val (.bool x3.2.down.e0), .val (.bool x3.2.down.e1), .val (.bool x3.2.down.e2), .val (.bool x3.2.down.e3), .val (.bool x3.2.down.e4), .val (.bool x3.2.down.e5), .val (.bool x3.2.down.e6), .val (.bool x3.2.down.e7), .own 1 0 x3.2.l.length, .val (.int .i64 x3.2.sent), .val (.int .i64 x3.2.taken), .val (.int .i64 x3.2.lost)]]), some (.row 3 true (List.map encMsg x3.2.l))] [], 8⟩) ?_ ?_
    · refine Ent.can [] _ _ _ rfl (by first | decide | simp) rfl ?_ ?_ ?_
      · exact (RF.any.pv (by first | rfl | simp only [go_sem]) (by first | rfl | simp [upd_ap, hpL_ap, tau, mapT, mapTL, bytesI_len, c4]))
      · exact .cons (.tok (by simp [tokL, tokLL, inlR]) (by first | rfl | simp [upd_ap, hpL_ap, tau, mapT, mapTL, bytesI_len, c4])) (.cons (.eq (by first | rfl | simp only [go_sem]) (by first | rfl | simp [upd_ap, hpL_ap, tau, mapT, mapTL, bytesI_len, c4])) (.nil _))
      · exact .nil _
    refine AW.ret ?_
    refine block_r ?_
    refine thenA_r ?_
    obtain rfl := Option.some.inj h
    exact ⟨rfl, rfl, _, rfl, by first | rfl | simp [resOf, upd_ap, bytesI_len]⟩
end Au
end Go.Proofs.Y1
