import Derived.Test.YtlonihmeikmpiaaGuW1
import Derived.Test.YtlonihmeikmpiaaGuW2
import Derived.Test.YtlonihmeikmpiaaGuW3
import Derived.Test.YtlonihmeikmpiaaGuW5
set_option linter.all false
set_option linter.unusedVariables false
set_option linter.unusedSimpArgs false
set_option linter.all false
set_option maxRecDepth 8000
set_option maxHeartbeats 1000000
namespace Go.Proofs.Y1
open Go.Gm
namespace Au
noncomputable def f48_j1 (a1 : Bag81) (a2 : Act) : Bool × Int × Int × Bool × Bool × Bool × Bool × Bool × Bool × Bool × Bool × Int × Int × Int × (List Msg) × Int × Int × (List Int) → Option (Bag81 × Bool × Bag)
  | (j1_0, j1_1, j1_2, j1_3, j1_4, j1_5, j1_6, j1_7, j1_8, j1_9, j1_10, j1_11, j1_12, j1_13, j1_14, j1_15, j1_16, j1_17) => ((f96 a1 a2.Do a2.I a2.J).bind fun x41 => (if j1_0 = x41.2.2 then ((f36 [⟨j1_15, j1_16, j1_17⟩] [x41.2.1]).bind fun x43 => some (x41.1, x43, ⟨j1_1, j1_2, ⟨j1_3, j1_4, j1_5, j1_6, j1_7, j1_8, j1_9, j1_10⟩, j1_14, j1_11, j1_12, j1_13⟩)) else some (x41.1, false, ⟨j1_1, j1_2, ⟨j1_3, j1_4, j1_5, j1_6, j1_7, j1_8, j1_9, j1_10⟩, j1_14, j1_11, j1_12, j1_13⟩)))
noncomputable def f48 (a0 : Bag) (a1 : Bag81) (a2 : Act) : Option (Bag81 × Bool × Bag) := (if a2.Do = 4 then ((f40 a0 a2.I a2.J a2.B).bind fun x18 => ((f95 a1 a2.I a2.J a2.B).bind fun x19 => ((f34 x18.1).bind fun x20 => some (x19.1, decide (x20 = x19.2), x18.2)))) else (if a2.Do = 5 then ((f41 a0 a2.I a2.Up).bind fun x22 => (if a2.I < 0 then ((f34 x22.1).bind fun x28 => some (a1, decide (x28 = 1), x22.2)) else (if a1.Nodes ≤ a2.I then ((f34 x22.1).bind fun x30 => some (a1, decide (x30 = 1), x22.2)) else ((guardO (0 ≤ a2.I ∧ a2.I < 8)).bind fun x31 => ((f34 x22.1).bind fun x32 => some (⟨a1.Nodes, a1.Most, (A8.set a1.Down a2.I.toNat !a2.Up), a1.L, a1.N⟩, decide (x32 = 0), x22.2)))))) else (if a2.Do = 0 then ((f35 a0 a2.I).bind fun x45 => f48_j1 a1 a2 (x45.2.1, x45.2.2.nodes, x45.2.2.most, x45.2.2.down.e0, x45.2.2.down.e1, x45.2.2.down.e2, x45.2.2.down.e3, x45.2.2.down.e4, x45.2.2.down.e5, x45.2.2.down.e6, x45.2.2.down.e7, x45.2.2.sent, x45.2.2.taken, x45.2.2.lost, x45.2.2.l, x45.1.From, x45.1.To, x45.1.Data)) else (if a2.Do = 1 then ((f37 a0 a2.I).bind fun x47 => f48_j1 a1 a2 (x47.1, x47.2.nodes, x47.2.most, x47.2.down.e0, x47.2.down.e1, x47.2.down.e2, x47.2.down.e3, x47.2.down.e4, x47.2.down.e5, x47.2.down.e6, x47.2.down.e7, x47.2.sent, x47.2.taken, x47.2.lost, x47.2.l, 0, 0, [])) else (if a2.Do = 2 then ((f38 a0 a2.I).bind fun x49 => f48_j1 a1 a2 (x49.1, x49.2.nodes, x49.2.most, x49.2.down.e0, x49.2.down.e1, x49.2.down.e2, x49.2.down.e3, x49.2.down.e4, x49.2.down.e5, x49.2.down.e6, x49.2.down.e7, x49.2.sent, x49.2.taken, x49.2.lost, x49.2.l, 0, 0, [])) else (if a2.Do = 3 then ((f39 a0 a2.I a2.J).bind fun x51 => f48_j1 a1 a2 (x51.1, x51.2.nodes, x51.2.most, x51.2.down.e0, x51.2.down.e1, x51.2.down.e2, x51.2.down.e3, x51.2.down.e4, x51.2.down.e5, x51.2.down.e6, x51.2.down.e7, x51.2.sent, x51.2.taken, x51.2.lost, x51.2.l, 0, 0, [])) else some (a1, true, a0)))))))
theorem ok48 (a0 : Bag) (a1 : Bag81) (a2 : Act) (r : Bag81 × Bool × Bag) (h : f48 a0 a1 a2 = some r) : IC Try.prog 48 [some (.row 14 true [[.val (.int .i64 a0.nodes), .val (.int .i64 a0.most), .val (.bool a0.down.e0), .val (.bool a0.down.e1), .val (.bool a0.down.e2), .val (.bool a0.down.e3), .val (.bool a0.down.e4), .val (.bool a0.down.e5), .val (.bool a0.down.e6), .val (.bool a0.down.e7), .own 1 0 a0.l.length, .val (.int .i64 a0.sent), .val (.int .i64 a0.taken), .val (.int .i64 a0.lost)]]), some (.row 3 true (List.map encMsg a0.l))] [.ptr 0 0 0, .agg (encBag81 a1), .agg (encAct a2)] (.tup [.agg (encBag81 r.1), .val (.bool r.2.1)]) [some (.row 14 true [[.val (.int .i64 r.2.2.nodes), .val (.int .i64 r.2.2.most), .val (.bool r.2.2.down.e0), .val (.bool r.2.2.down.e1), .val (.bool r.2.2.down.e2), .val (.bool r.2.2.down.e3), .val (.bool r.2.2.down.e4), .val (.bool r.2.2.down.e5), .val (.bool r.2.2.down.e6), .val (.bool r.2.2.down.e7), .own 8 0 r.2.2.l.length, .val (.int .i64 r.2.2.sent), .val (.int .i64 r.2.2.taken), .val (.int .i64 r.2.2.lost)]])] [some (.row 3 true (List.map encMsg r.2.2.l)), some (.row 14 true [encBag81 r.1])] := by
  rw [f48] at h
  refine ic_of (N := 133) (rs := [.cell 6 82, .tmp 7]) Try.func48 rfl rfl rfl (Nat.le_of_ble_eq_true rfl) ?_
  refine AW.regL [0, 4, 5, 6] ?_
  generalize hK : AW Try.prog _ _ _ = K
  simp only [go_sem, ↓reduceIte, reduceCtorEq, Nat.reduceAdd, Nat.reduceSub, Nat.reduceMul, Nat.reduceEqDiff, Nat.reduceLT, Nat.reduceLeDiff, Nat.reduceBEq, Int.reduceAdd, Int.reduceSub, Int.reduceLT, Int.reduceLE, Int.reduceEq, Int.reduceToNat]
  subst hK
  refine AW.seq ?_
  refine AW.regL [0, 4, 5, 6, 18] ?_
  generalize hK : AW Try.prog _ _ _ = K
  simp only [go_sem, ↓reduceIte, reduceCtorEq, Nat.reduceAdd, Nat.reduceSub, Nat.reduceMul, Nat.reduceEqDiff, Nat.reduceLT, Nat.reduceLeDiff, Nat.reduceBEq, Int.reduceAdd, Int.reduceSub, Int.reduceLT, Int.reduceLE, Int.reduceEq, Int.reduceToNat]
  subst hK
  refine AW.block ?_
  refine AW.regL [0, 4, 5, 6, 18, 19] ?_
  generalize hK : AW Try.prog _ _ _ = K
  simp only [go_sem, ↓reduceIte, reduceCtorEq, Nat.reduceAdd, Nat.reduceSub, Nat.reduceMul, Nat.reduceEqDiff, Nat.reduceLT, Nat.reduceLeDiff, Nat.reduceBEq, Int.reduceAdd, Int.reduceSub, Int.reduceLT, Int.reduceLE, Int.reduceEq, Int.reduceToNat]
  subst hK
  by_cases c17 : a2.Do = 4
  · rw [if_pos c17] at h
    refine AW.ifT rfl c17 ?_
    obtain ⟨x18, hx18, h⟩ := Option.bind_eq_some_iff.1 h
    refine AW.regL [4, 5, 6, 8] ?_
    generalize hK : AW Try.prog _ _ _ = K
    simp only [go_sem, ↓reduceIte, reduceCtorEq, Nat.reduceAdd, Nat.reduceSub, Nat.reduceMul, Nat.reduceEqDiff, Nat.reduceLT, Nat.reduceLeDiff, Nat.reduceBEq, Int.reduceAdd, Int.reduceSub, Int.reduceLT, Int.reduceLE, Int.reduceEq, Int.reduceToNat, eq_true c17]
    refine arC.ok (CallOk.ic (us' := _) (ok40 a0 a2.I a2.J a2.B x18 hx18) [0, 1] rfl (by decide) (by simp) (by simp) (by simp) (by simp) (.cons (.tok (by simp [tokL, tokLL, inlR]) (by first | rfl | simp [upd_ap, hpL_ap, sg_ap, mapT, mapTL])) (.cons (.eq (by simp only [go_sem]) (by first | rfl | simp [upd_ap, hpL_ap, sg_ap])) (.nil _))) (by simp only [mapTL_cons, mapTL_nil, mapT_ptr, mapT_own, mapT_val, mapT_sl, mapT_agg, mapT_ip, sg_ap, List.getD_cons_zero, List.getD_cons_succ]; exact (.cons (.of rfl) (.cons (.of rfl) (.cons (.of rfl) (.cons (.of rfl) .nil))))) (by simp only [go_sem, List.length_cons, List.length_nil, Nat.reduceAdd, Nat.reduceLT, decide_true]) (by simp [AObj.isMut]) (by simp [go_sem]) (by simp [go_sem])) Try.call40 ?_
    simp only [go_sem, ↓reduceIte, reduceCtorEq, Nat.reduceAdd, Nat.reduceSub, Nat.reduceMul, Nat.reduceEqDiff, Nat.reduceLT, Nat.reduceLeDiff, Nat.reduceBEq, Int.reduceAdd, Int.reduceSub, Int.reduceLT, Int.reduceLE, Int.reduceEq, Int.reduceToNat, eq_true c17]
    subst hK
    obtain ⟨x19, hx19, h⟩ := Option.bind_eq_some_iff.1 h
    refine AW.regL [6, 8, 9, 10] ?_
    generalize hK : AW Try.prog _ _ _ = K
    simp only [go_sem, ↓reduceIte, reduceCtorEq, Nat.reduceAdd, Nat.reduceSub, Nat.reduceMul, Nat.reduceEqDiff, Nat.reduceLT, Nat.reduceLeDiff, Nat.reduceBEq, Int.reduceAdd, Int.reduceSub, Int.reduceLT, Int.reduceLE, Int.reduceEq, Int.reduceToNat, eq_true c17]
    refine arC.of (ok95 a1 a2.I a2.J a2.B x19 hx19) Try.call95 ?_
    simp only [go_sem, ↓reduceIte, reduceCtorEq, Nat.reduceAdd, Nat.reduceSub, Nat.reduceMul, Nat.reduceEqDiff, Nat.reduceLT, Nat.reduceLeDiff, Nat.reduceBEq, Int.reduceAdd, Int.reduceSub, Int.reduceLT, Int.reduceLE, Int.reduceEq, Int.reduceToNat, eq_true c17]
    subst hK
    obtain ⟨x20, hx20, h⟩ := Option.bind_eq_some_iff.1 h
    refine AW.regdL [6, 7] [[], [], [1], [], [1, 2, 3], [0, 1, 2], [0, 1, 2, 3, 4, 5]] [0, 1, 2, 3, 4, 5, 6] (tab [(34, [.val (.int .i64 x18.1)], .val (.int .i64 x20))]) (tab_cons (ok34 x18.1 x20 hx20) Try.call34 tab_nil) draws (by kernel_rfl) (by kernel_rfl) ?_
    generalize hK : AW Try.prog _ _ _ = K
    simp only [go_sem, ↓reduceIte, reduceCtorEq, Nat.reduceAdd, Nat.reduceSub, Nat.reduceMul, Nat.reduceEqDiff, Nat.reduceLT, Nat.reduceLeDiff, Nat.reduceBEq, Int.reduceAdd, Int.reduceSub, Int.reduceLT, Int.reduceLE, Int.reduceEq, Int.reduceToNat, eq_true c17]
    subst hK
    refine AW.ent (st' := ⟨(upd (upd anyF 6 (.ptr 9 0 0)) 7 (.val (.bool (decide (x20 = x19.2))))), hpL [some (.row 14 true [[.val (.int .i64 x18.2.nodes), .val (.int .i64 x18.2.most), .val (.bool x18.2.down.e0), .val (.bool x18.2.down.e1), .val (.bool x18.2.down.e2), .val (.bool x18.2.down.e3), .val (.bool x18.2.down.e4), .val (.bool x18.2.down.e5), .val (.bool x18.2.down.e6), .val (.bool x18.2.down.e7), .own 8 0 x18.2.l.length, .val (.int .i64 x18.2.sent), .val (.int .i64 x18.2.taken), .val (.int .i64 x18.2.lost)]])] [some (.row 3 true (List.map encMsg x18.2.l)), some (.row 14 true [[.val (.int .i64 x19.1.Nodes), .val (.int .i64 x19.1.Most), .val (.bool x19.1.Down.e0), .val (.bool x19.1.Down.e1), .val (.bool x19.1.Down.e2), .val (.bool x19.1.Down.e3), .val (.bool x19.1.Down.e4), .val (.bool x19.1.Down.e5), .val (.bool x19.1.Down.e6), .val (.bool x19.1.Down.e7), .sl (List.map encMsg x19.1.L), .val (.int .i64 x19.1.N.e0), .val (.int .i64 x19.1.N.e1), .val (.int .i64 x19.1.N.e2)]])], 10⟩) ?_ ?_
    · refine Ent.can [128, 24] _ _ _ rfl (by first | decide | simp) rfl ?_ ?_ ?_
      · exact ((RF.any.pp (by decide) (by first | rfl | simp [upd_ap, hpL_ap, tau, mapT, mapTL, bytesI_len, eq_true c17])).pv (by first | rfl | simp only [go_sem]) (by first | rfl | simp [upd_ap, hpL_ap, tau, mapT, mapTL, bytesI_len, eq_true c17]))
      · exact .cons (.tok (by simp [tokL, tokLL, inlR]) (by first | rfl | simp [upd_ap, hpL_ap, tau, mapT, mapTL, bytesI_len, eq_true c17])) (.nil _)
      · exact .cons (.eq (by first | rfl | simp only [go_sem]) (by first | rfl | simp [upd_ap, hpL_ap, tau, mapT, mapTL, bytesI_len, eq_true c17])) (.cons (.eq (by first | rfl | simp only [go_sem]) (by first | rfl | simp [upd_ap, hpL_ap, tau, mapT, mapTL, bytesI_len, eq_true c17])) (.nil _))
    refine AW.ret ?_
    refine block_r ?_
    refine thenA_r ?_
    obtain rfl := Option.some.inj h
    exact ⟨rfl, rfl, _, rfl, by first | rfl | simp [resOf, upd_ap, bytesI_len]⟩
  · rw [if_neg c17] at h
    refine AW.ifF rfl c17 ?_
    refine AW.regL [0, 4, 5, 6, 45] ?_
    generalize hK : AW Try.prog _ _ _ = K
    simp only [go_sem, ↓reduceIte, reduceCtorEq, Nat.reduceAdd, Nat.reduceSub, Nat.reduceMul, Nat.reduceEqDiff, Nat.reduceLT, Nat.reduceLeDiff, Nat.reduceBEq, Int.reduceAdd, Int.reduceSub, Int.reduceLT, Int.reduceLE, Int.reduceEq, Int.reduceToNat, eq_false c17]
    subst hK
    by_cases c21 : a2.Do = 5
    · rw [if_pos c21] at h
      refine AW.ifT rfl c21 ?_
      obtain ⟨x22, hx22, h⟩ := Option.bind_eq_some_iff.1 h
      refine AW.regL [4, 5, 6, 11] ?_
      generalize hK : AW Try.prog _ _ _ = K
      simp only [go_sem, ↓reduceIte, reduceCtorEq, Nat.reduceAdd, Nat.reduceSub, Nat.reduceMul, Nat.reduceEqDiff, Nat.reduceLT, Nat.reduceLeDiff, Nat.reduceBEq, Int.reduceAdd, Int.reduceSub, Int.reduceLT, Int.reduceLE, Int.reduceEq, Int.reduceToNat, eq_false c17, eq_true c21]
      refine arC.ok (CallOk.ic (us' := _) (ok41 a0 a2.I a2.Up x22 hx22) [0, 1] rfl (by decide) (by simp) (by simp) (by simp) (by simp) (.cons (.tok (by simp [tokL, tokLL, inlR]) (by first | rfl | simp [upd_ap, hpL_ap, sg_ap, mapT, mapTL])) (.cons (.eq (by simp only [go_sem]) (by first | rfl | simp [upd_ap, hpL_ap, sg_ap])) (.nil _))) (by simp only [mapTL_cons, mapTL_nil, mapT_ptr, mapT_own, mapT_val, mapT_sl, mapT_agg, mapT_ip, sg_ap, List.getD_cons_zero, List.getD_cons_succ]; exact (.cons (.of rfl) (.cons (.of rfl) (.cons (.of rfl) .nil)))) (by simp only [go_sem, List.length_cons, List.length_nil, Nat.reduceAdd, Nat.reduceLT, decide_true]) (by simp [AObj.isMut]) (by simp [go_sem]) (by simp [go_sem])) Try.call41 ?_
      simp only [go_sem, ↓reduceIte, reduceCtorEq, Nat.reduceAdd, Nat.reduceSub, Nat.reduceMul, Nat.reduceEqDiff, Nat.reduceLT, Nat.reduceLeDiff, Nat.reduceBEq, Int.reduceAdd, Int.reduceSub, Int.reduceLT, Int.reduceLE, Int.reduceEq, Int.reduceToNat, eq_false c17, eq_true c21]
      subst hK
      refine AW.seq ?_
      by_cases c27 : a2.I < 0
      · rw [if_pos c27] at h
        refine AW.regL [4, 5, 6, 11, 62] ?_
        generalize hK : AW Try.prog _ _ _ = K
        simp only [go_sem, ↓reduceIte, reduceCtorEq, Nat.reduceAdd, Nat.reduceSub, Nat.reduceMul, Nat.reduceEqDiff, Nat.reduceLT, Nat.reduceLeDiff, Nat.reduceBEq, Int.reduceAdd, Int.reduceSub, Int.reduceLT, Int.reduceLE, Int.reduceEq, Int.reduceToNat, eq_false c17, eq_true c21, eq_true c27]
        subst hK
        refine AW.ifBT rfl rfl ?_
        obtain ⟨x28, hx28, h⟩ := Option.bind_eq_some_iff.1 h
        refine AW.regdL [6, 7] [[], [], [1], [1, 2], [0, 1, 2], [0, 1, 2, 3, 4]] [0, 1, 2, 3, 4, 5] (tab [(34, [.val (.int .i64 x22.1)], .val (.int .i64 x28))]) (tab_cons (ok34 x22.1 x28 hx28) Try.call34 tab_nil) draws (by kernel_rfl) (by kernel_rfl) ?_
        generalize hK : AW Try.prog _ _ _ = K
        simp only [go_sem, ↓reduceIte, reduceCtorEq, Nat.reduceAdd, Nat.reduceSub, Nat.reduceMul, Nat.reduceEqDiff, Nat.reduceLT, Nat.reduceLeDiff, Nat.reduceBEq, Int.reduceAdd, Int.reduceSub, Int.reduceLT, Int.reduceLE, Int.reduceEq, Int.reduceToNat, eq_false c17, eq_true c21, eq_true c27]
        subst hK
        refine AW.ent (st' := ⟨(upd (upd anyF 6 (.ptr 9 0 0)) 7 (.val (.bool (decide (x28 = 1))))), hpL [some (.row 14 true [[.val (.int .i64 x22.2.nodes), .val (.int .i64 x22.2.most), .val (.bool x22.2.down.e0), .val (.bool x22.2.down.e1), .val (.bool x22.2.down.e2), .val (.bool x22.2.down.e3), .val (.bool x22.2.down.e4), .val (.bool x22.2.down.e5), .val (.bool x22.2.down.e6), .val (.bool x22.2.down.e7), .own 8 0 x22.2.l.length, .val (.int .i64 x22.2.sent), .val (.int .i64 x22.2.taken), .val (.int .i64 x22.2.lost)]])] [some (.row 3 true (List.map encMsg x22.2.l)), some (.row 14 true [[.val (.int .i64 a1.Nodes), .val (.int .i64 a1.Most), .val (.bool a1.Down.e0), .val (.bool a1.Down.e1), .val (.bool a1.Down.e2), .val (.bool a1.Down.e3), .val (.bool a1.Down.e4), .val (.bool a1.Down.e5), .val (.bool a1.Down.e6), .val (.bool a1.Down.e7), .sl (List.map encMsg a1.L), .val (.int .i64 a1.N.e0), .val (.int .i64 a1.N.e1), .val (.int .i64 a1.N.e2)]])], 10⟩) ?_ ?_
        · refine Ent.can [1, 24] _ _ _ rfl (by first | decide | simp) rfl ?_ ?_ ?_
          · exact ((RF.any.pp (by decide) (by first | rfl | simp [upd_ap, hpL_ap, tau, mapT, mapTL, bytesI_len, eq_false c17, eq_true c21, eq_true c27])).pv (by first | rfl | simp only [go_sem]) (by first | rfl | simp [upd_ap, hpL_ap, tau, mapT, mapTL, bytesI_len, eq_false c17, eq_true c21, eq_true c27]))
          · exact .cons (.tok (by simp [tokL, tokLL, inlR]) (by first | rfl | simp [upd_ap, hpL_ap, tau, mapT, mapTL, bytesI_len, eq_false c17, eq_true c21, eq_true c27])) (.nil _)
          · exact .cons (.eq (by first | rfl | simp only [go_sem]) (by first | rfl | simp [upd_ap, hpL_ap, tau, mapT, mapTL, bytesI_len, eq_false c17, eq_true c21, eq_true c27])) (.cons (.eq (by first | rfl | simp only [go_sem]) (by first | rfl | simp [upd_ap, hpL_ap, tau, mapT, mapTL, bytesI_len, eq_false c17, eq_true c21, eq_true c27])) (.nil _))
        refine AW.ret ?_
        refine thenA_r ?_
        refine block_r ?_
        refine thenA_r ?_
        obtain rfl := Option.some.inj h
        exact ⟨rfl, rfl, _, rfl, by first | rfl | simp [resOf, upd_ap, bytesI_len]⟩
      · rw [if_neg c27] at h
        refine AW.regL [4, 5, 6, 11, 62] ?_
        generalize hK : AW Try.prog _ _ _ = K
        simp only [go_sem, ↓reduceIte, reduceCtorEq, Nat.reduceAdd, Nat.reduceSub, Nat.reduceMul, Nat.reduceEqDiff, Nat.reduceLT, Nat.reduceLeDiff, Nat.reduceBEq, Int.reduceAdd, Int.reduceSub, Int.reduceLT, Int.reduceLE, Int.reduceEq, Int.reduceToNat, eq_false c17, eq_true c21, eq_false c27]
        subst hK
        by_cases c29 : a1.Nodes ≤ a2.I
        · rw [if_pos c29] at h
          refine AW.ifT rfl c29 ?_
          obtain ⟨x30, hx30, h⟩ := Option.bind_eq_some_iff.1 h
          refine AW.regdL [6, 7] [[], [], [1], [1, 2], [0, 1, 2], [0, 1, 2, 3, 4]] [0, 1, 2, 3, 4, 5] (tab [(34, [.val (.int .i64 x22.1)], .val (.int .i64 x30))]) (tab_cons (ok34 x22.1 x30 hx30) Try.call34 tab_nil) draws (by kernel_rfl) (by kernel_rfl) ?_
          generalize hK : AW Try.prog _ _ _ = K
          simp only [go_sem, ↓reduceIte, reduceCtorEq, Nat.reduceAdd, Nat.reduceSub, Nat.reduceMul, Nat.reduceEqDiff, Nat.reduceLT, Nat.reduceLeDiff, Nat.reduceBEq, Int.reduceAdd, Int.reduceSub, Int.reduceLT, Int.reduceLE, Int.reduceEq, Int.reduceToNat, eq_false c17, eq_true c21, eq_false c27, eq_true c29]
          subst hK
          refine AW.ent (st' := ⟨(upd (upd anyF 6 (.ptr 9 0 0)) 7 (.val (.bool (decide (x30 = 1))))), hpL [some (.row 14 true [[.val (.int .i64 x22.2.nodes), .val (.int .i64 x22.2.most), .val (.bool x22.2.down.e0), .val (.bool x22.2.down.e1), .val (.bool x22.2.down.e2), .val (.bool x22.2.down.e3), .val (.bool x22.2.down.e4), .val (.bool x22.2.down.e5), .val (.bool x22.2.down.e6), .val (.bool x22.2.down.e7), .own 8 0 x22.2.l.length, .val (.int .i64 x22.2.sent), .val (.int .i64 x22.2.taken), .val (.int .i64 x22.2.lost)]])] [some (.row 3 true (List.map encMsg x22.2.l)), some (.row 14 true [[.val (.int .i64 a1.Nodes), .val (.int .i64 a1.Most), .val (.bool a1.Down.e0), .val (.bool a1.Down.e1), .val (.bool a1.Down.e2), .val (.bool a1.Down.e3), .val (.bool a1.Down.e4), .val (.bool a1.Down.e5), .val (.bool a1.Down.e6), .val (.bool a1.Down.e7), .sl (List.map encMsg a1.L), .val (.int .i64 a1.N.e0), .val (.int .i64 a1.N.e1), .val (.int .i64 a1.N.e2)]])], 10⟩) ?_ ?_
          · refine Ent.can [1, 24] _ _ _ rfl (by first | decide | simp) rfl ?_ ?_ ?_
            · exact ((RF.any.pp (by decide) (by first | rfl | simp [upd_ap, hpL_ap, tau, mapT, mapTL, bytesI_len, eq_false c17, eq_true c21, eq_false c27, eq_true c29])).pv (by first | rfl | simp only [go_sem]) (by first | rfl | simp [upd_ap, hpL_ap, tau, mapT, mapTL, bytesI_len, eq_false c17, eq_true c21, eq_false c27, eq_true c29]))
            · exact .cons (.tok (by simp [tokL, tokLL, inlR]) (by first | rfl | simp [upd_ap, hpL_ap, tau, mapT, mapTL, bytesI_len, eq_false c17, eq_true c21, eq_false c27, eq_true c29])) (.nil _)
            · exact .cons (.eq (by first | rfl | simp only [go_sem]) (by first | rfl | simp [upd_ap, hpL_ap, tau, mapT, mapTL, bytesI_len, eq_false c17, eq_true c21, eq_false c27, eq_true c29])) (.cons (.eq (by first | rfl | simp only [go_sem]) (by first | rfl | simp [upd_ap, hpL_ap, tau, mapT, mapTL, bytesI_len, eq_false c17, eq_true c21, eq_false c27, eq_true c29])) (.nil _))
          refine AW.ret ?_
          refine thenA_r ?_
          refine block_r ?_
          refine thenA_r ?_
          obtain rfl := Option.some.inj h
          exact ⟨rfl, rfl, _, rfl, by first | rfl | simp [resOf, upd_ap, bytesI_len]⟩
        · rw [if_neg c29] at h
          refine AW.ifF rfl c29 ?_
          refine AW.skip ?_
          refine thenA_n ?_
          obtain ⟨x31, hx31, h⟩ := Option.bind_eq_some_iff.1 h
          refine AW.regL [4, 6, 11] ?_
          generalize hK : AW Try.prog _ _ _ = K
          simp only [go_sem, ↓reduceIte, reduceCtorEq, Nat.reduceAdd, Nat.reduceSub, Nat.reduceMul, Nat.reduceEqDiff, Nat.reduceLT, Nat.reduceLeDiff, Nat.reduceBEq, Int.reduceAdd, Int.reduceSub, Int.reduceLT, Int.reduceLE, Int.reduceEq, Int.reduceToNat, eq_false c17, eq_true c21, eq_false c27, eq_false c29, natOf_gd hx31, idx8 hx31, all8 (p := fun k => List.take (2 + k) ([.val (.int .i64 a1.Nodes), .val (.int .i64 a1.Most), .val (.bool a1.Down.e0), .val (.bool a1.Down.e1), .val (.bool a1.Down.e2), .val (.bool a1.Down.e3), .val (.bool a1.Down.e4), .val (.bool a1.Down.e5), .val (.bool a1.Down.e6), .val (.bool a1.Down.e7), .sl (List.map encMsg a1.L), .val (.int .i64 a1.N.e0), .val (.int .i64 a1.N.e1), .val (.int .i64 a1.N.e2)] : List AV) ++ .val (.bool (!a2.Up)) :: List.drop (2 + k) ([.val (.int .i64 a1.Most), .val (.bool a1.Down.e0), .val (.bool a1.Down.e1), .val (.bool a1.Down.e2), .val (.bool a1.Down.e3), .val (.bool a1.Down.e4), .val (.bool a1.Down.e5), .val (.bool a1.Down.e6), .val (.bool a1.Down.e7), .sl (List.map encMsg a1.L), .val (.int .i64 a1.N.e0), .val (.int .i64 a1.N.e1), .val (.int .i64 a1.N.e2)] : List AV) = ([.val (.int .i64 a1.Nodes), .val (.int .i64 a1.Most), .val (.bool ((A8.set a1.Down k !a2.Up).e0)), .val (.bool ((A8.set a1.Down k !a2.Up).e1)), .val (.bool ((A8.set a1.Down k !a2.Up).e2)), .val (.bool ((A8.set a1.Down k !a2.Up).e3)), .val (.bool ((A8.set a1.Down k !a2.Up).e4)), .val (.bool ((A8.set a1.Down k !a2.Up).e5)), .val (.bool ((A8.set a1.Down k !a2.Up).e6)), .val (.bool ((A8.set a1.Down k !a2.Up).e7)), .sl (List.map encMsg a1.L), .val (.int .i64 a1.N.e0), .val (.int .i64 a1.N.e1), .val (.int .i64 a1.N.e2)] : List AV)) rfl rfl rfl rfl rfl rfl rfl rfl (idx8 hx31), all8 (p := fun k => (2 + k + 1 ≤ 14) = True) (by simp) (by simp) (by simp) (by simp) (by simp) (by simp) (by simp) (by simp) (idx8 hx31)]
          subst hK
          obtain ⟨x32, hx32, h⟩ := Option.bind_eq_some_iff.1 h
          refine AW.regdL [6, 7] [[], [], [1], [1, 2], [0, 1, 2], [0, 1, 2, 3, 4]] [0, 1, 2, 3, 4, 5] (tab [(34, [.val (.int .i64 x22.1)], .val (.int .i64 x32))]) (tab_cons (ok34 x22.1 x32 hx32) Try.call34 tab_nil) draws (by kernel_rfl) (by kernel_rfl) ?_
          generalize hK : AW Try.prog _ _ _ = K
          simp only [go_sem, ↓reduceIte, reduceCtorEq, Nat.reduceAdd, Nat.reduceSub, Nat.reduceMul, Nat.reduceEqDiff, Nat.reduceLT, Nat.reduceLeDiff, Nat.reduceBEq, Int.reduceAdd, Int.reduceSub, Int.reduceLT, Int.reduceLE, Int.reduceEq, Int.reduceToNat, eq_false c17, eq_true c21, eq_false c27, eq_false c29]
          subst hK
          refine AW.ent (st' := ⟨(upd (upd anyF 6 (.ptr 9 0 0)) 7 (.val (.bool (decide (x32 = 0))))), hpL [some (.row 14 true [[.val (.int .i64 x22.2.nodes), .val (.int .i64 x22.2.most), .val (.bool x22.2.down.e0), .val (.bool x22.2.down.e1), .val (.bool x22.2.down.e2), .val (.bool x22.2.down.e3), .val (.bool x22.2.down.e4), .val (.bool x22.2.down.e5), .val (.bool x22.2.down.e6), .val (.bool x22.2.down.e7), .own 8 0 x22.2.l.length, .val (.int .i64 x22.2.sent), .val (.int .i64 x22.2.taken), .val (.int .i64 x22.2.lost)]])] [some (.row 3 true (List.map encMsg x22.2.l)), some (.row 14 true [[.val (.int .i64 a1.Nodes), .val (.int .i64 a1.Most), .val (.bool ((A8.set a1.Down a2.I.toNat !a2.Up).e0)), .val (.bool ((A8.set a1.Down a2.I.toNat !a2.Up).e1)), .val (.bool ((A8.set a1.Down a2.I.toNat !a2.Up).e2)), .val (.bool ((A8.set a1.Down a2.I.toNat !a2.Up).e3)), .val (.bool ((A8.set a1.Down a2.I.toNat !a2.Up).e4)), .val (.bool ((A8.set a1.Down a2.I.toNat !a2.Up).e5)), .val (.bool ((A8.set a1.Down a2.I.toNat !a2.Up).e6)), .val (.bool ((A8.set a1.Down a2.I.toNat !a2.Up).e7)), .sl (List.map encMsg a1.L), .val (.int .i64 a1.N.e0), .val (.int .i64 a1.N.e1), .val (.int .i64 a1.N.e2)]])], 10⟩) ?_ ?_
          · refine Ent.can [1, 24] _ _ _ rfl (by first | decide | simp) rfl ?_ ?_ ?_
            · exact ((RF.any.pp (by decide) (by first | rfl | simp [upd_ap, hpL_ap, tau, mapT, mapTL, bytesI_len, eq_false c17, eq_true c21, eq_false c27, eq_false c29])).pv (by first | rfl | simp only [go_sem]) (by first | rfl | simp [upd_ap, hpL_ap, tau, mapT, mapTL, bytesI_len, eq_false c17, eq_true c21, eq_false c27, eq_false c29]))
            · exact .cons (.tok (by simp [tokL, tokLL, inlR]) (by first | rfl | simp [upd_ap, hpL_ap, tau, mapT, mapTL, bytesI_len, eq_false c17, eq_true c21, eq_false c27, eq_false c29])) (.nil _)
            · exact .cons (.eq (by first | rfl | simp only [go_sem]) (by first | rfl | simp [upd_ap, hpL_ap, tau, mapT, mapTL, bytesI_len, eq_false c17, eq_true c21, eq_false c27, eq_false c29])) (.cons (.eq (by first | rfl | simp only [go_sem]) (by first | rfl | simp [upd_ap, hpL_ap, tau, mapT, mapTL, bytesI_len, eq_false c17, eq_true c21, eq_false c27, eq_false c29])) (.nil _))
          refine AW.ret ?_
          refine block_r ?_
          refine thenA_r ?_
          obtain rfl := Option.some.inj h
          exact ⟨rfl, rfl, _, rfl, by first | rfl | simp [resOf, upd_ap, bytesI_len]⟩
    · rw [if_neg c21] at h
      refine AW.ifF rfl c21 ?_
      refine AW.skip ?_
      refine block_n ?_
      refine thenA_n ?_
      refine AW.regL [0, 4, 5, 6, 12] ?_
      generalize hK : AW Try.prog _ _ _ = K
      simp only [go_sem, ↓reduceIte, reduceCtorEq, Nat.reduceAdd, Nat.reduceSub, Nat.reduceMul, Nat.reduceEqDiff, Nat.reduceLT, Nat.reduceLeDiff, Nat.reduceBEq, Int.reduceAdd, Int.reduceSub, Int.reduceLT, Int.reduceLE, Int.reduceEq, Int.reduceToNat, eq_false c17, eq_false c21]
      subst hK
      refine AW.regL [0, 4, 5, 6, 12] ?_
      generalize hK : AW Try.prog _ _ _ = K
      simp only [go_sem, ↓reduceIte, reduceCtorEq, Nat.reduceAdd, Nat.reduceSub, Nat.reduceMul, Nat.reduceEqDiff, Nat.reduceLT, Nat.reduceLeDiff, Nat.reduceBEq, Int.reduceAdd, Int.reduceSub, Int.reduceLT, Int.reduceLE, Int.reduceEq, Int.reduceToNat, eq_false c17, eq_false c21]
      subst hK
      refine AW.join (fun s => ⟨(upd (upd (upd (upd (upd anyF 4 (.ptr 9 0 0)) 5 (.ptr 10 0 0)) 6 (.ptr 11 0 0)) 12 (.ptr 12 0 0)) 13 (.val (.bool s.1))), hpL [some (.row 14 true [[.val (.int .i64 s.2.1), .val (.int .i64 s.2.2.1), .val (.bool s.2.2.2.1), .val (.bool s.2.2.2.2.1), .val (.bool s.2.2.2.2.2.1), .val (.bool s.2.2.2.2.2.2.1), .val (.bool s.2.2.2.2.2.2.2.1), .val (.bool s.2.2.2.2.2.2.2.2.1), .val (.bool s.2.2.2.2.2.2.2.2.2.1), .val (.bool s.2.2.2.2.2.2.2.2.2.2.1), .own 8 0 s.2.2.2.2.2.2.2.2.2.2.2.2.2.2.1.length, .val (.int .i64 s.2.2.2.2.2.2.2.2.2.2.2.1), .val (.int .i64 s.2.2.2.2.2.2.2.2.2.2.2.2.1), .val (.int .i64 s.2.2.2.2.2.2.2.2.2.2.2.2.2.1)]])] [some (.row 3 true (List.map encMsg s.2.2.2.2.2.2.2.2.2.2.2.2.2.2.1)), some (.row 14 true [[.val (.int .i64 a1.Nodes), .val (.int .i64 a1.Most), .val (.bool a1.Down.e0), .val (.bool a1.Down.e1), .val (.bool a1.Down.e2), .val (.bool a1.Down.e3), .val (.bool a1.Down.e4), .val (.bool a1.Down.e5), .val (.bool a1.Down.e6), .val (.bool a1.Down.e7), .sl (List.map encMsg a1.L), .val (.int .i64 a1.N.e0), .val (.int .i64 a1.N.e1), .val (.int .i64 a1.N.e2)]]), some (.row 5 true [[.val (.int .i64 a2.Do), .val (.int .i64 a2.I), .val (.int .i64 a2.J), .val (.bool a2.Up), .sl (List.map enc5 a2.B)]]), some (.row 14 true [[.val (.int .i64 0), .val (.int .i64 0), .val (.bool false), .val (.bool false), .val (.bool false), .val (.bool false), .val (.bool false), .val (.bool false), .val (.bool false), .val (.bool false), .val (.slice none 0 0), .val (.int .i64 0), .val (.int .i64 0), .val (.int .i64 0)]]), some (.row 3 true [[.val (.int .i64 s.2.2.2.2.2.2.2.2.2.2.2.2.2.2.2.1), .val (.int .i64 s.2.2.2.2.2.2.2.2.2.2.2.2.2.2.2.2.1), .sl (List.map enc5 s.2.2.2.2.2.2.2.2.2.2.2.2.2.2.2.2.2)]])], 13⟩) (fun s => f48_j1 a1 a2 s = some r) ?_ ?_
      · refine AW.regL [0, 4, 5, 6, 12, 79] ?_
        generalize hK : AW Try.prog _ _ _ = K
        simp only [go_sem, ↓reduceIte, reduceCtorEq, Nat.reduceAdd, Nat.reduceSub, Nat.reduceMul, Nat.reduceEqDiff, Nat.reduceLT, Nat.reduceLeDiff, Nat.reduceBEq, Int.reduceAdd, Int.reduceSub, Int.reduceLT, Int.reduceLE, Int.reduceEq, Int.reduceToNat, eq_false c17, eq_false c21]
        subst hK
        refine AW.block ?_
        refine AW.regL [0, 4, 5, 6, 12, 79, 81] ?_
        generalize hK : AW Try.prog _ _ _ = K
        simp only [go_sem, ↓reduceIte, reduceCtorEq, Nat.reduceAdd, Nat.reduceSub, Nat.reduceMul, Nat.reduceEqDiff, Nat.reduceLT, Nat.reduceLeDiff, Nat.reduceBEq, Int.reduceAdd, Int.reduceSub, Int.reduceLT, Int.reduceLE, Int.reduceEq, Int.reduceToNat, eq_false c17, eq_false c21]
        subst hK
        by_cases c44 : a2.Do = 0
        · rw [if_pos c44] at h
          refine AW.ifT rfl c44 ?_
          obtain ⟨x45, hx45, h⟩ := Option.bind_eq_some_iff.1 h
          refine AW.regionL [4, 5, 6, 12, 13] ?_
          generalize hK : inBlockA _ _ Exit.normal = K
          simp only [go_sem, ↓reduceIte, reduceCtorEq, Nat.reduceAdd, Nat.reduceSub, Nat.reduceMul, Nat.reduceEqDiff, Nat.reduceLT, Nat.reduceLeDiff, Nat.reduceBEq, Int.reduceAdd, Int.reduceSub, Int.reduceLT, Int.reduceLE, Int.reduceEq, Int.reduceToNat, eq_false c17, eq_false c21, eq_true c44]
          refine arC.ok (CallOk.ic (us' := _) (ok35 a0 a2.I x45 hx45) [0, 1] rfl (by decide) (by simp) (by simp) (by simp) (by simp) (.cons (.tok (by simp [tokL, tokLL, inlR]) (by first | rfl | simp [upd_ap, hpL_ap, sg_ap, mapT, mapTL])) (.cons (.eq (by simp only [go_sem]) (by first | rfl | simp [upd_ap, hpL_ap, sg_ap])) (.nil _))) (by simp only [mapTL_cons, mapTL_nil, mapT_ptr, mapT_own, mapT_val, mapT_sl, mapT_agg, mapT_ip, sg_ap, List.getD_cons_zero, List.getD_cons_succ]; exact (.cons (.of rfl) (.cons (.of rfl) .nil))) (by simp only [go_sem, List.length_cons, List.length_nil, Nat.reduceAdd, Nat.reduceLT, decide_true]) (by simp [AObj.isMut]) (by simp [go_sem]) (by simp [go_sem])) Try.call35 ?_
          simp only [go_sem, ↓reduceIte, reduceCtorEq, Nat.reduceAdd, Nat.reduceSub, Nat.reduceMul, Nat.reduceEqDiff, Nat.reduceLT, Nat.reduceLeDiff, Nat.reduceBEq, Int.reduceAdd, Int.reduceSub, Int.reduceLT, Int.reduceLE, Int.reduceEq, Int.reduceToNat, eq_false c17, eq_false c21, eq_true c44]
          subst hK
          refine block_n ?_
          refine thenA_n ?_
          refine ⟨_, h, ?_⟩
          refine Ent.can [1, 8, 16, 24, 88] _ _ _ rfl (by first | decide | simp) rfl ?_ ?_ ?_
          · exact (((((RF.any.pp (by decide) (by first | rfl | simp [upd_ap, hpL_ap, tau, mapT, mapTL, bytesI_len, eq_false c17, eq_false c21, eq_true c44])).pp (by decide) (by first | rfl | simp [upd_ap, hpL_ap, tau, mapT, mapTL, bytesI_len, eq_false c17, eq_false c21, eq_true c44])).pp (by decide) (by first | rfl | simp [upd_ap, hpL_ap, tau, mapT, mapTL, bytesI_len, eq_false c17, eq_false c21, eq_true c44])).pp (by decide) (by first | rfl | simp [upd_ap, hpL_ap, tau, mapT, mapTL, bytesI_len, eq_false c17, eq_false c21, eq_true c44])).pv (by first | rfl | simp only [go_sem]) (by first | rfl | simp [upd_ap, hpL_ap, tau, mapT, mapTL, bytesI_len, eq_false c17, eq_false c21, eq_true c44]))
          · exact .cons (.tok (by simp [tokL, tokLL, inlR]) (by first | rfl | simp [upd_ap, hpL_ap, tau, mapT, mapTL, bytesI_len, eq_false c17, eq_false c21, eq_true c44])) (.nil _)
          · exact .cons (.eq (by first | rfl | simp only [go_sem]) (by first | rfl | simp [upd_ap, hpL_ap, tau, mapT, mapTL, bytesI_len, eq_false c17, eq_false c21, eq_true c44])) (.cons (.eq (by first | rfl | simp only [go_sem]) (by first | rfl | simp [upd_ap, hpL_ap, tau, mapT, mapTL, bytesI_len, eq_false c17, eq_false c21, eq_true c44])) (.cons (.eq (by first | rfl | simp only [go_sem]) (by first | rfl | simp [upd_ap, hpL_ap, tau, mapT, mapTL, bytesI_len, eq_false c17, eq_false c21, eq_true c44])) (.cons (.eq (by first | rfl | simp only [go_sem]) (by first | rfl | simp [upd_ap, hpL_ap, tau, mapT, mapTL, bytesI_len, eq_false c17, eq_false c21, eq_true c44])) (.cons (.eq (by first | rfl | simp only [go_sem]) (by first | rfl | simp [upd_ap, hpL_ap, tau, mapT, mapTL, bytesI_len, eq_false c17, eq_false c21, eq_true c44])) (.nil _)))))
        · rw [if_neg c44] at h
          refine AW.ifF rfl c44 ?_
          refine AW.regL [0, 4, 5, 6, 12, 79, 90] ?_
          generalize hK : AW Try.prog _ _ _ = K
          simp only [go_sem, ↓reduceIte, reduceCtorEq, Nat.reduceAdd, Nat.reduceSub, Nat.reduceMul, Nat.reduceEqDiff, Nat.reduceLT, Nat.reduceLeDiff, Nat.reduceBEq, Int.reduceAdd, Int.reduceSub, Int.reduceLT, Int.reduceLE, Int.reduceEq, Int.reduceToNat, eq_false c17, eq_false c21, eq_false c44]
          subst hK
          by_cases c46 : a2.Do = 1
          · rw [if_pos c46] at h
            refine AW.ifT rfl c46 ?_
            obtain ⟨x47, hx47, h⟩ := Option.bind_eq_some_iff.1 h
            refine AW.regionL [4, 5, 6, 12, 13] ?_
            generalize hK : inBlockA _ _ Exit.normal = K
            simp only [go_sem, ↓reduceIte, reduceCtorEq, Nat.reduceAdd, Nat.reduceSub, Nat.reduceMul, Nat.reduceEqDiff, Nat.reduceLT, Nat.reduceLeDiff, Nat.reduceBEq, Int.reduceAdd, Int.reduceSub, Int.reduceLT, Int.reduceLE, Int.reduceEq, Int.reduceToNat, eq_false c17, eq_false c21, eq_false c44, eq_true c46]
            refine arC.ok (CallOk.ic (us' := _) (ok37 a0 a2.I x47 hx47) [0, 1] rfl (by decide) (by simp) (by simp) (by simp) (by simp) (.cons (.tok (by simp [tokL, tokLL, inlR]) (by first | rfl | simp [upd_ap, hpL_ap, sg_ap, mapT, mapTL])) (.cons (.eq (by simp only [go_sem]) (by first | rfl | simp [upd_ap, hpL_ap, sg_ap])) (.nil _))) (by simp only [mapTL_cons, mapTL_nil, mapT_ptr, mapT_own, mapT_val, mapT_sl, mapT_agg, mapT_ip, sg_ap, List.getD_cons_zero, List.getD_cons_succ]; exact (.cons (.of rfl) (.cons (.of rfl) .nil))) (by simp only [go_sem, List.length_cons, List.length_nil, Nat.reduceAdd, Nat.reduceLT, decide_true]) (by simp [AObj.isMut]) (by simp [go_sem]) (by simp [go_sem])) Try.call37 ?_
            simp only [go_sem, ↓reduceIte, reduceCtorEq, Nat.reduceAdd, Nat.reduceSub, Nat.reduceMul, Nat.reduceEqDiff, Nat.reduceLT, Nat.reduceLeDiff, Nat.reduceBEq, Int.reduceAdd, Int.reduceSub, Int.reduceLT, Int.reduceLE, Int.reduceEq, Int.reduceToNat, eq_false c17, eq_false c21, eq_false c44, eq_true c46]
            subst hK
            refine block_n ?_
            refine thenA_n ?_
            refine ⟨_, h, ?_⟩
            refine Ent.trans (Ent.weakObj 88 rfl rfl (.cons (.of rfl) (.cons (.of rfl) (.cons Weak.nil WeakL.nil)))) ?_
            refine Ent.can [1, 8, 16, 24, 88] _ _ _ rfl (by first | decide | simp) rfl ?_ ?_ ?_
            · exact (((((RF.any.pp (by decide) (by first | rfl | simp [upd_ap, hpL_ap, tau, mapT, mapTL, bytesI_len, eq_false c17, eq_false c21, eq_false c44, eq_true c46])).pp (by decide) (by first | rfl | simp [upd_ap, hpL_ap, tau, mapT, mapTL, bytesI_len, eq_false c17, eq_false c21, eq_false c44, eq_true c46])).pp (by decide) (by first | rfl | simp [upd_ap, hpL_ap, tau, mapT, mapTL, bytesI_len, eq_false c17, eq_false c21, eq_false c44, eq_true c46])).pp (by decide) (by first | rfl | simp [upd_ap, hpL_ap, tau, mapT, mapTL, bytesI_len, eq_false c17, eq_false c21, eq_false c44, eq_true c46])).pv (by first | rfl | simp only [go_sem]) (by first | rfl | simp [upd_ap, hpL_ap, tau, mapT, mapTL, bytesI_len, eq_false c17, eq_false c21, eq_false c44, eq_true c46]))
            · exact .cons (.tok (by simp [tokL, tokLL, inlR]) (by first | rfl | simp [upd_ap, hpL_ap, tau, mapT, mapTL, bytesI_len, eq_false c17, eq_false c21, eq_false c44, eq_true c46])) (.nil _)
            · exact .cons (.eq (by first | rfl | simp only [go_sem]) (by first | rfl | simp [upd_ap, hpL_ap, tau, mapT, mapTL, bytesI_len, eq_false c17, eq_false c21, eq_false c44, eq_true c46])) (.cons (.eq (by first | rfl | simp only [go_sem]) (by first | rfl | simp [upd_ap, hpL_ap, tau, mapT, mapTL, bytesI_len, eq_false c17, eq_false c21, eq_false c44, eq_true c46])) (.cons (.eq (by first | rfl | simp only [go_sem]) (by first | rfl | simp [upd_ap, hpL_ap, tau, mapT, mapTL, bytesI_len, eq_false c17, eq_false c21, eq_false c44, eq_true c46])) (.cons (.eq (by first | rfl | simp only [go_sem]) (by first | rfl | simp [upd_ap, hpL_ap, tau, mapT, mapTL, bytesI_len, eq_false c17, eq_false c21, eq_false c44, eq_true c46])) (.cons (.eq (by first | rfl | simp only [go_sem]) (by first | rfl | simp [upd_ap, hpL_ap, tau, mapT, mapTL, bytesI_len, eq_false c17, eq_false c21, eq_false c44, eq_true c46])) (.nil _)))))
          · rw [if_neg c46] at h
            refine AW.ifF rfl c46 ?_
            refine AW.regL [0, 4, 5, 6, 12, 79, 96] ?_
            generalize hK : AW Try.prog _ _ _ = K
            simp only [go_sem, ↓reduceIte, reduceCtorEq, Nat.reduceAdd, Nat.reduceSub, Nat.reduceMul, Nat.reduceEqDiff, Nat.reduceLT, Nat.reduceLeDiff, Nat.reduceBEq, Int.reduceAdd, Int.reduceSub, Int.reduceLT, Int.reduceLE, Int.reduceEq, Int.reduceToNat, eq_false c17, eq_false c21, eq_false c44, eq_false c46]
            subst hK
            by_cases c48 : a2.Do = 2
            · rw [if_pos c48] at h
              refine AW.ifT rfl c48 ?_
              obtain ⟨x49, hx49, h⟩ := Option.bind_eq_some_iff.1 h
              refine AW.regionL [4, 5, 6, 12, 13] ?_
              generalize hK : inBlockA _ _ Exit.normal = K
              simp only [go_sem, ↓reduceIte, reduceCtorEq, Nat.reduceAdd, Nat.reduceSub, Nat.reduceMul, Nat.reduceEqDiff, Nat.reduceLT, Nat.reduceLeDiff, Nat.reduceBEq, Int.reduceAdd, Int.reduceSub, Int.reduceLT, Int.reduceLE, Int.reduceEq, Int.reduceToNat, eq_false c17, eq_false c21, eq_false c44, eq_false c46, eq_true c48]
              refine arC.ok (CallOk.ic (us' := _) (ok38 a0 a2.I x49 hx49) [0, 1] rfl (by decide) (by simp) (by simp) (by simp) (by simp) (.cons (.tok (by simp [tokL, tokLL, inlR]) (by first | rfl | simp [upd_ap, hpL_ap, sg_ap, mapT, mapTL])) (.cons (.eq (by simp only [go_sem]) (by first | rfl | simp [upd_ap, hpL_ap, sg_ap])) (.nil _))) (by simp only [mapTL_cons, mapTL_nil, mapT_ptr, mapT_own, mapT_val, mapT_sl, mapT_agg, mapT_ip, sg_ap, List.getD_cons_zero, List.getD_cons_succ]; exact (.cons (.of rfl) (.cons (.of rfl) .nil))) (by simp only [go_sem, List.length_cons, List.length_nil, Nat.reduceAdd, Nat.reduceLT, decide_true]) (by simp [AObj.isMut]) (by simp [go_sem]) (by simp [go_sem])) Try.call38 ?_
              simp only [go_sem, ↓reduceIte, reduceCtorEq, Nat.reduceAdd, Nat.reduceSub, Nat.reduceMul, Nat.reduceEqDiff, Nat.reduceLT, Nat.reduceLeDiff, Nat.reduceBEq, Int.reduceAdd, Int.reduceSub, Int.reduceLT, Int.reduceLE, Int.reduceEq, Int.reduceToNat, eq_false c17, eq_false c21, eq_false c44, eq_false c46, eq_true c48]
              subst hK
              refine block_n ?_
              refine thenA_n ?_
              refine ⟨_, h, ?_⟩
              refine Ent.trans (Ent.weakObj 88 rfl rfl (.cons (.of rfl) (.cons (.of rfl) (.cons Weak.nil WeakL.nil)))) ?_
              refine Ent.can [192, 8, 16, 24, 88] _ _ _ rfl (by first | decide | simp) rfl ?_ ?_ ?_
              · exact (((((RF.any.pp (by decide) (by first | rfl | simp [upd_ap, hpL_ap, tau, mapT, mapTL, bytesI_len, eq_false c17, eq_false c21, eq_false c44, eq_false c46, eq_true c48])).pp (by decide) (by first | rfl | simp [upd_ap, hpL_ap, tau, mapT, mapTL, bytesI_len, eq_false c17, eq_false c21, eq_false c44, eq_false c46, eq_true c48])).pp (by decide) (by first | rfl | simp [upd_ap, hpL_ap, tau, mapT, mapTL, bytesI_len, eq_false c17, eq_false c21, eq_false c44, eq_false c46, eq_true c48])).pp (by decide) (by first | rfl | simp [upd_ap, hpL_ap, tau, mapT, mapTL, bytesI_len, eq_false c17, eq_false c21, eq_false c44, eq_false c46, eq_true c48])).pv (by first | rfl | simp only [go_sem]) (by first | rfl | simp [upd_ap, hpL_ap, tau, mapT, mapTL, bytesI_len, eq_false c17, eq_false c21, eq_false c44, eq_false c46, eq_true c48]))
              · exact .cons (.tok (by simp [tokL, tokLL, inlR]) (by first | rfl | simp [upd_ap, hpL_ap, tau, mapT, mapTL, bytesI_len, eq_false c17, eq_false c21, eq_false c44, eq_false c46, eq_true c48])) (.nil _)
              · exact .cons (.eq (by first | rfl | simp only [go_sem]) (by first | rfl | simp [upd_ap, hpL_ap, tau, mapT, mapTL, bytesI_len, eq_false c17, eq_false c21, eq_false c44, eq_false c46, eq_true c48])) (.cons (.eq (by first | rfl | simp only [go_sem]) (by first | rfl | simp [upd_ap, hpL_ap, tau, mapT, mapTL, bytesI_len, eq_false c17, eq_false c21, eq_false c44, eq_false c46, eq_true c48])) (.cons (.eq (by first | rfl | simp only [go_sem]) (by first | rfl | simp [upd_ap, hpL_ap, tau, mapT, mapTL, bytesI_len, eq_false c17, eq_false c21, eq_false c44, eq_false c46, eq_true c48])) (.cons (.eq (by first | rfl | simp only [go_sem]) (by first | rfl | simp [upd_ap, hpL_ap, tau, mapT, mapTL, bytesI_len, eq_false c17, eq_false c21, eq_false c44, eq_false c46, eq_true c48])) (.cons (.eq (by first | rfl | simp only [go_sem]) (by first | rfl | simp [upd_ap, hpL_ap, tau, mapT, mapTL, bytesI_len, eq_false c17, eq_false c21, eq_false c44, eq_false c46, eq_true c48])) (.nil _)))))
            · rw [if_neg c48] at h
              refine AW.ifF rfl c48 ?_
              refine AW.regL [0, 4, 5, 6, 12, 102] ?_
              generalize hK : AW Try.prog _ _ _ = K
              simp only [go_sem, ↓reduceIte, reduceCtorEq, Nat.reduceAdd, Nat.reduceSub, Nat.reduceMul, Nat.reduceEqDiff, Nat.reduceLT, Nat.reduceLeDiff, Nat.reduceBEq, Int.reduceAdd, Int.reduceSub, Int.reduceLT, Int.reduceLE, Int.reduceEq, Int.reduceToNat, eq_false c17, eq_false c21, eq_false c44, eq_false c46, eq_false c48]
              subst hK
              by_cases c50 : a2.Do = 3
              · rw [if_pos c50] at h
                refine AW.ifT rfl c50 ?_
                obtain ⟨x51, hx51, h⟩ := Option.bind_eq_some_iff.1 h
                refine AW.regionL [4, 5, 6, 12, 13] ?_
                generalize hK : inBlockA _ _ Exit.normal = K
                simp only [go_sem, ↓reduceIte, reduceCtorEq, Nat.reduceAdd, Nat.reduceSub, Nat.reduceMul, Nat.reduceEqDiff, Nat.reduceLT, Nat.reduceLeDiff, Nat.reduceBEq, Int.reduceAdd, Int.reduceSub, Int.reduceLT, Int.reduceLE, Int.reduceEq, Int.reduceToNat, eq_false c17, eq_false c21, eq_false c44, eq_false c46, eq_false c48, eq_true c50]
                refine arC.ok (CallOk.ic (us' := _) (ok39 a0 a2.I a2.J x51 hx51) [0, 1] rfl (by decide) (by simp) (by simp) (by simp) (by simp) (.cons (.tok (by simp [tokL, tokLL, inlR]) (by first | rfl | simp [upd_ap, hpL_ap, sg_ap, mapT, mapTL])) (.cons (.eq (by simp only [go_sem]) (by first | rfl | simp [upd_ap, hpL_ap, sg_ap])) (.nil _))) (by simp only [mapTL_cons, mapTL_nil, mapT_ptr, mapT_own, mapT_val, mapT_sl, mapT_agg, mapT_ip, sg_ap, List.getD_cons_zero, List.getD_cons_succ]; exact (.cons (.of rfl) (.cons (.of rfl) (.cons (.of rfl) .nil)))) (by simp only [go_sem, List.length_cons, List.length_nil, Nat.reduceAdd, Nat.reduceLT, decide_true]) (by simp [AObj.isMut]) (by simp [go_sem]) (by simp [go_sem])) Try.call39 ?_
                simp only [go_sem, ↓reduceIte, reduceCtorEq, Nat.reduceAdd, Nat.reduceSub, Nat.reduceMul, Nat.reduceEqDiff, Nat.reduceLT, Nat.reduceLeDiff, Nat.reduceBEq, Int.reduceAdd, Int.reduceSub, Int.reduceLT, Int.reduceLE, Int.reduceEq, Int.reduceToNat, eq_false c17, eq_false c21, eq_false c44, eq_false c46, eq_false c48, eq_true c50]
                subst hK
                refine block_n ?_
                refine thenA_n ?_
                refine ⟨_, h, ?_⟩
                refine Ent.trans (Ent.weakObj 88 rfl rfl (.cons (.of rfl) (.cons (.of rfl) (.cons Weak.nil WeakL.nil)))) ?_
                refine Ent.can [1, 8, 16, 24, 88] _ _ _ rfl (by first | decide | simp) rfl ?_ ?_ ?_
                · exact (((((RF.any.pp (by decide) (by first | rfl | simp [upd_ap, hpL_ap, tau, mapT, mapTL, bytesI_len, eq_false c17, eq_false c21, eq_false c44, eq_false c46, eq_false c48, eq_true c50])).pp (by decide) (by first | rfl | simp [upd_ap, hpL_ap, tau, mapT, mapTL, bytesI_len, eq_false c17, eq_false c21, eq_false c44, eq_false c46, eq_false c48, eq_true c50])).pp (by decide) (by first | rfl | simp [upd_ap, hpL_ap, tau, mapT, mapTL, bytesI_len, eq_false c17, eq_false c21, eq_false c44, eq_false c46, eq_false c48, eq_true c50])).pp (by decide) (by first | rfl | simp [upd_ap, hpL_ap, tau, mapT, mapTL, bytesI_len, eq_false c17, eq_false c21, eq_false c44, eq_false c46, eq_false c48, eq_true c50])).pv (by first | rfl | simp only [go_sem]) (by first | rfl | simp [upd_ap, hpL_ap, tau, mapT, mapTL, bytesI_len, eq_false c17, eq_false c21, eq_false c44, eq_false c46, eq_false c48, eq_true c50]))
                · exact .cons (.tok (by simp [tokL, tokLL, inlR]) (by first | rfl | simp [upd_ap, hpL_ap, tau, mapT, mapTL, bytesI_len, eq_false c17, eq_false c21, eq_false c44, eq_false c46, eq_false c48, eq_true c50])) (.nil _)
                · exact .cons (.eq (by first | rfl | simp only [go_sem]) (by first | rfl | simp [upd_ap, hpL_ap, tau, mapT, mapTL, bytesI_len, eq_false c17, eq_false c21, eq_false c44, eq_false c46, eq_false c48, eq_true c50])) (.cons (.eq (by first | rfl | simp only [go_sem]) (by first | rfl | simp [upd_ap, hpL_ap, tau, mapT, mapTL, bytesI_len, eq_false c17, eq_false c21, eq_false c44, eq_false c46, eq_false c48, eq_true c50])) (.cons (.eq (by first | rfl | simp only [go_sem]) (by first | rfl | simp [upd_ap, hpL_ap, tau, mapT, mapTL, bytesI_len, eq_false c17, eq_false c21, eq_false c44, eq_false c46, eq_false c48, eq_true c50])) (.cons (.eq (by first | rfl | simp only [go_sem]) (by first | rfl | simp [upd_ap, hpL_ap, tau, mapT, mapTL, bytesI_len, eq_false c17, eq_false c21, eq_false c44, eq_false c46, eq_false c48, eq_true c50])) (.cons (.eq (by first | rfl | simp only [go_sem]) (by first | rfl | simp [upd_ap, hpL_ap, tau, mapT, mapTL, bytesI_len, eq_false c17, eq_false c21, eq_false c44, eq_false c46, eq_false c48, eq_true c50])) (.nil _)))))
              · rw [if_neg c50] at h
                refine AW.ifF rfl c50 ?_
                refine AW.regL [6, 7] ?_
                generalize hK : AW Try.prog _ _ _ = K
                simp only [go_sem, ↓reduceIte, reduceCtorEq, Nat.reduceAdd, Nat.reduceSub, Nat.reduceMul, Nat.reduceEqDiff, Nat.reduceLT, Nat.reduceLeDiff, Nat.reduceBEq, Int.reduceAdd, Int.reduceSub, Int.reduceLT, Int.reduceLE, Int.reduceEq, Int.reduceToNat, eq_false c17, eq_false c21, eq_false c44, eq_false c46, eq_false c48, eq_false c50]
                subst hK
                refine AW.ent (st' := ⟨(upd (upd anyF 6 (.ptr 9 0 0)) 7 (.val (.bool true))), hpL [some (.row 14 true [[.val (.int .i64 a0.nodes), .val (.int .i64 a0.most), .val (.bool a0.down.e0), .val (.bool a0.down.e1), .val (.bool a0.down.e2), .val (.bool a0.down.e3), .val (.bool a0.down.e4), .val (.bool a0.down.e5), .val (.bool a0.down.e6), .val (.bool a0.down.e7), .own 8 0 a0.l.length, .val (.int .i64 a0.sent), .val (.int .i64 a0.taken), .val (.int .i64 a0.lost)]])] [some (.row 3 true (List.map encMsg a0.l)), some (.row 14 true [[.val (.int .i64 a1.Nodes), .val (.int .i64 a1.Most), .val (.bool a1.Down.e0), .val (.bool a1.Down.e1), .val (.bool a1.Down.e2), .val (.bool a1.Down.e3), .val (.bool a1.Down.e4), .val (.bool a1.Down.e5), .val (.bool a1.Down.e6), .val (.bool a1.Down.e7), .sl (List.map encMsg a1.L), .val (.int .i64 a1.N.e0), .val (.int .i64 a1.N.e1), .val (.int .i64 a1.N.e2)]])], 10⟩) ?_ ?_
                · refine Ent.can [1, 24] _ _ _ rfl (by first | decide | simp) rfl ?_ ?_ ?_
                  · exact ((RF.any.pp (by decide) (by first | rfl | simp [upd_ap, hpL_ap, tau, mapT, mapTL, bytesI_len, eq_false c17, eq_false c21, eq_false c44, eq_false c46, eq_false c48, eq_false c50])).pv (by first | rfl | simp only [go_sem]) (by first | rfl | simp [upd_ap, hpL_ap, tau, mapT, mapTL, bytesI_len, eq_false c17, eq_false c21, eq_false c44, eq_false c46, eq_false c48, eq_false c50]))
                  · exact .cons (.tok (by simp [tokL, tokLL, inlR]) (by first | rfl | simp [upd_ap, hpL_ap, tau, mapT, mapTL, bytesI_len, eq_false c17, eq_false c21, eq_false c44, eq_false c46, eq_false c48, eq_false c50])) (.nil _)
                  · exact .cons (.eq (by first | rfl | simp only [go_sem]) (by first | rfl | simp [upd_ap, hpL_ap, tau, mapT, mapTL, bytesI_len, eq_false c17, eq_false c21, eq_false c44, eq_false c46, eq_false c48, eq_false c50])) (.cons (.eq (by first | rfl | simp only [go_sem]) (by first | rfl | simp [upd_ap, hpL_ap, tau, mapT, mapTL, bytesI_len, eq_false c17, eq_false c21, eq_false c44, eq_false c46, eq_false c48, eq_false c50])) (.nil _))
                refine AW.ret ?_
                refine block_r ?_
                refine thenA_r ?_
                obtain rfl := Option.some.inj h
                exact ⟨rfl, rfl, _, rfl, by first | rfl | simp [resOf, upd_ap, bytesI_len]⟩
      · clear h
        rintro ⟨j1_0, j1_1, j1_2, j1_3, j1_4, j1_5, j1_6, j1_7, j1_8, j1_9, j1_10, j1_11, j1_12, j1_13, j1_14, j1_15, j1_16, j1_17⟩ h
        rw [f48_j1] at h
        obtain ⟨x41, hx41, h⟩ := Option.bind_eq_some_iff.1 h
        refine AW.regL [6, 12, 13, 14, 15, 16] ?_
        generalize hK : AW Try.prog _ _ _ = K
        simp only [go_sem, ↓reduceIte, reduceCtorEq, Nat.reduceAdd, Nat.reduceSub, Nat.reduceMul, Nat.reduceEqDiff, Nat.reduceLT, Nat.reduceLeDiff, Nat.reduceBEq, Int.reduceAdd, Int.reduceSub, Int.reduceLT, Int.reduceLE, Int.reduceEq, Int.reduceToNat, eq_false c17, eq_false c21]
        refine arC.of (ok96 a1 a2.Do a2.I a2.J x41 hx41) Try.call96 ?_
        simp only [go_sem, ↓reduceIte, reduceCtorEq, Nat.reduceAdd, Nat.reduceSub, Nat.reduceMul, Nat.reduceEqDiff, Nat.reduceLT, Nat.reduceLeDiff, Nat.reduceBEq, Int.reduceAdd, Int.reduceSub, Int.reduceLT, Int.reduceLE, Int.reduceEq, Int.reduceToNat, eq_false c17, eq_false c21]
        subst hK
        by_cases c42 : j1_0 = x41.2.2
        · rw [if_pos c42] at h
          obtain ⟨x43, hx43, h⟩ := Option.bind_eq_some_iff.1 h
          refine AW.regdL [6, 7] [[], [], [], [1, 2], [1, 2, 3], [1, 2, 3, 4], [1, 2, 3, 4, 5], [1, 2, 3, 4], [1, 2, 3, 4, 7], [1, 2, 3, 4, 5, 6, 7, 8], [1, 2, 3, 4, 5, 6, 7, 8, 9], [0, 1, 2, 3, 4, 5, 6, 7, 8, 9], [0, 1, 2, 3, 4, 5, 6, 7, 8, 9, 10, 11]] [0, 1, 2, 3, 4, 5, 6, 7, 8, 9, 10, 11, 12] (tab [(36, [.sl [[.val (.int .i64 j1_15), .val (.int .i64 j1_16), .sl (List.map enc5 j1_17)]], .sl [[.val (.int .i64 x41.2.1.From), .val (.int .i64 x41.2.1.To), .sl (List.map enc5 x41.2.1.Data)]]], .val (.bool x43))]) (tab_cons (ok36 [⟨j1_15, j1_16, j1_17⟩] [x41.2.1] x43 hx43) Try.call36 tab_nil) draws (by kernel_rfl) (by kernel_rfl) ?_
          generalize hK : AW Try.prog _ _ _ = K
          simp only [go_sem, ↓reduceIte, reduceCtorEq, Nat.reduceAdd, Nat.reduceSub, Nat.reduceMul, Nat.reduceEqDiff, Nat.reduceLT, Nat.reduceLeDiff, Nat.reduceBEq, Int.reduceAdd, Int.reduceSub, Int.reduceLT, Int.reduceLE, Int.reduceEq, Int.reduceToNat, eq_false c17, eq_false c21, be4, eq_true c42]
          subst hK
          refine AW.ent (st' := ⟨(upd (upd anyF 6 (.ptr 9 0 0)) 7 (.val (.bool x43))), hpL [some (.row 14 true [[.val (.int .i64 j1_1), .val (.int .i64 j1_2), .val (.bool j1_3), .val (.bool j1_4), .val (.bool j1_5), .val (.bool j1_6), .val (.bool j1_7), .val (.bool j1_8), .val (.bool j1_9), .val (.bool j1_10), .own 8 0 j1_14.length, .val (.int .i64 j1_11), .val (.int .i64 j1_12), .val (.int .i64 j1_13)]])] [some (.row 3 true (List.map encMsg j1_14)), some (.row 14 true [[.val (.int .i64 x41.1.Nodes), .val (.int .i64 x41.1.Most), .val (.bool x41.1.Down.e0), .val (.bool x41.1.Down.e1), .val (.bool x41.1.Down.e2), .val (.bool x41.1.Down.e3), .val (.bool x41.1.Down.e4), .val (.bool x41.1.Down.e5), .val (.bool x41.1.Down.e6), .val (.bool x41.1.Down.e7), .sl (List.map encMsg x41.1.L), .val (.int .i64 x41.1.N.e0), .val (.int .i64 x41.1.N.e1), .val (.int .i64 x41.1.N.e2)]])], 10⟩) ?_ ?_
          · refine Ent.can [8, 11] _ _ _ rfl (by first | decide | simp) rfl ?_ ?_ ?_
            · exact ((RF.any.pp (by decide) (by first | rfl | simp [upd_ap, hpL_ap, tau, mapT, mapTL, bytesI_len, eq_false c17, eq_false c21, eq_true c42])).pv (by first | rfl | simp only [go_sem]) (by first | rfl | simp [upd_ap, hpL_ap, tau, mapT, mapTL, bytesI_len, eq_false c17, eq_false c21, eq_true c42]))
            · exact .cons (.tok (by simp [tokL, tokLL, inlR]) (by first | rfl | simp [upd_ap, hpL_ap, tau, mapT, mapTL, bytesI_len, eq_false c17, eq_false c21, eq_true c42])) (.nil _)
            · exact .cons (.eq (by first | rfl | simp only [go_sem]) (by first | rfl | simp [upd_ap, hpL_ap, tau, mapT, mapTL, bytesI_len, eq_false c17, eq_false c21, eq_true c42])) (.cons (.eq (by first | rfl | simp only [go_sem]) (by first | rfl | simp [upd_ap, hpL_ap, tau, mapT, mapTL, bytesI_len, eq_false c17, eq_false c21, eq_true c42])) (.nil _))
          refine AW.ret ?_
          obtain rfl := Option.some.inj h
          exact ⟨rfl, rfl, _, rfl, by first | rfl | simp [resOf, upd_ap, bytesI_len]⟩
        · rw [if_neg c42] at h
          refine AW.regdL [6, 7] [[], [], [], [1, 2], [1, 2, 3], [1, 2, 3, 4], [1, 2, 3, 4, 5], [1, 2, 3, 4], [1, 2, 3, 4, 7], [1, 2, 3, 4, 5, 6, 7, 8], [1, 2, 3, 4, 5, 6, 7, 8, 9], [0, 1, 2, 3, 4, 5, 6, 7, 8, 9], [0, 1, 2, 3, 4, 5, 6, 7, 8, 9, 10, 11]] [0, 1, 2, 3, 4, 5, 6, 7, 8, 9, 10, 11, 12] noFt (fun _ _ _ h => by simp [noFt] at h) draws (by kernel_rfl) (by kernel_rfl) ?_
          generalize hK : AW Try.prog _ _ _ = K
          simp only [go_sem, ↓reduceIte, reduceCtorEq, Nat.reduceAdd, Nat.reduceSub, Nat.reduceMul, Nat.reduceEqDiff, Nat.reduceLT, Nat.reduceLeDiff, Nat.reduceBEq, Int.reduceAdd, Int.reduceSub, Int.reduceLT, Int.reduceLE, Int.reduceEq, Int.reduceToNat, eq_false c17, eq_false c21, be4, eq_false c42]
          subst hK
          refine AW.ent (st' := ⟨(upd (upd anyF 6 (.ptr 9 0 0)) 7 (.val (.bool false))), hpL [some (.row 14 true [[.val (.int .i64 j1_1), .val (.int .i64 j1_2), .val (.bool j1_3), .val (.bool j1_4), .val (.bool j1_5), .val (.bool j1_6), .val (.bool j1_7), .val (.bool j1_8), .val (.bool j1_9), .val (.bool j1_10), .own 8 0 j1_14.length, .val (.int .i64 j1_11), .val (.int .i64 j1_12), .val (.int .i64 j1_13)]])] [some (.row 3 true (List.map encMsg j1_14)), some (.row 14 true [[.val (.int .i64 x41.1.Nodes), .val (.int .i64 x41.1.Most), .val (.bool x41.1.Down.e0), .val (.bool x41.1.Down.e1), .val (.bool x41.1.Down.e2), .val (.bool x41.1.Down.e3), .val (.bool x41.1.Down.e4), .val (.bool x41.1.Down.e5), .val (.bool x41.1.Down.e6), .val (.bool x41.1.Down.e7), .sl (List.map encMsg x41.1.L), .val (.int .i64 x41.1.N.e0), .val (.int .i64 x41.1.N.e1), .val (.int .i64 x41.1.N.e2)]])], 10⟩) ?_ ?_
          · refine Ent.can [8, 11] _ _ _ rfl (by first | decide | simp) rfl ?_ ?_ ?_
            · exact ((RF.any.pp (by decide) (by first | rfl | simp [upd_ap, hpL_ap, tau, mapT, mapTL, bytesI_len, eq_false c17, eq_false c21, eq_false c42])).pv (by first | rfl | simp only [go_sem]) (by first | rfl | simp [upd_ap, hpL_ap, tau, mapT, mapTL, bytesI_len, eq_false c17, eq_false c21, eq_false c42]))
            · exact .cons (.tok (by simp [tokL, tokLL, inlR]) (by first | rfl | simp [upd_ap, hpL_ap, tau, mapT, mapTL, bytesI_len, eq_false c17, eq_false c21, eq_false c42])) (.nil _)
            · exact .cons (.eq (by first | rfl | simp only [go_sem]) (by first | rfl | simp [upd_ap, hpL_ap, tau, mapT, mapTL, bytesI_len, eq_false c17, eq_false c21, eq_false c42])) (.cons (.eq (by first | rfl | simp only [go_sem]) (by first | rfl | simp [upd_ap, hpL_ap, tau, mapT, mapTL, bytesI_len, eq_false c17, eq_false c21, eq_false c42])) (.nil _))
          refine AW.ret ?_
          obtain rfl := Option.some.inj h
          exact ⟨rfl, rfl, _, rfl, by first | rfl | simp [resOf, upd_ap, bytesI_len]⟩
end Au
end Go.Proofs.Y1
