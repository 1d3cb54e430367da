import Derived.Test.YtlonihmeikmpiaaGuW1
set_option linter.all false
set_option linter.unusedVariables false
set_option linter.unusedSimpArgs false
set_option linter.all false
set_option maxRecDepth 8000
set_option maxHeartbeats 1000000
namespace Go.Proofs.Y1
open Go.Gm
namespace Au
noncomputable def f40 (a0 : Bag) (a1 : Int) (a2 : Int) (a3 : List Int) : Option (Int × Bag) := ((f85 a0 a1).bind fun x8 => (if x8.1 = true then ((f85 x8.2 a2).bind fun x10 => (if x10.1 = true then ((guardO (0 ≤ a1 ∧ a1 < 8)).bind fun x12 => (if (A8.get x10.2.down a1.toNat) = true then some (6, x10.2) else (if x10.2.most ≤ ((x10.2.l.length : Nat) : Int) then some (9, ⟨x10.2.nodes, x10.2.most, x10.2.down, x10.2.l, x10.2.sent, x10.2.taken, IntKind.i64.wrap (x10.2.lost + 1)⟩) else ((f83 ⟨a1, a2, a3⟩).bind fun x15 => ((appO? x10.2.l [x15]).bind fun x16 => some (0, ⟨x10.2.nodes, x10.2.most, x10.2.down, x16, IntKind.i64.wrap (x10.2.sent + 1), x10.2.taken, x10.2.lost⟩)))))) else some (1, x10.2))) else some (1, x8.2)))
theorem ok40 (a0 : Bag) (a1 : Int) (a2 : Int) (a3 : List Int) (r : Int × Bag) (h : f40 a0 a1 a2 a3 = some r) : IC Try.prog 40 [some (.row 14 true [[.val (.int .i64 a0.nodes), .val (.int .i64 a0.most), .val (.bool a0.down.e0), .val (.bool a0.down.e1), .val (.bool a0.down.e2), .val (.bool a0.down.e3), .val (.bool a0.down.e4), .val (.bool a0.down.e5), .val (.bool a0.down.e6), .val (.bool a0.down.e7), .own 1 0 a0.l.length, .val (.int .i64 a0.sent), .val (.int .i64 a0.taken), .val (.int .i64 a0.lost)]]), some (.row 3 true (List.map encMsg a0.l))] [.ptr 0 0 0, .val (.int .i64 a1), .val (.int .i64 a2), .sl (List.map enc5 a3)] (.val (.int .i64 r.1)) [some (.row 14 true [[.val (.int .i64 r.2.nodes), .val (.int .i64 r.2.most), .val (.bool r.2.down.e0), .val (.bool r.2.down.e1), .val (.bool r.2.down.e2), .val (.bool r.2.down.e3), .val (.bool r.2.down.e4), .val (.bool r.2.down.e5), .val (.bool r.2.down.e6), .val (.bool r.2.down.e7), .own 8 0 r.2.l.length, .val (.int .i64 r.2.sent), .val (.int .i64 r.2.taken), .val (.int .i64 r.2.lost)]])] [some (.row 3 true (List.map encMsg r.2.l))] := by
  rw [f40] at h
  refine ic_of (N := 69) (rs := [.tmp 8]) Try.func40 rfl rfl rfl (Nat.le_of_ble_eq_true rfl) ?_
  refine AW.regL [0, 1, 2, 3] ?_
  generalize hK : AW Try.prog _ _ _ = K
  simp only [go_sem, ↓reduceIte, reduceCtorEq, Nat.reduceAdd, Nat.reduceSub, Nat.reduceMul, Nat.reduceEqDiff, Nat.reduceLT, Nat.reduceLeDiff, Nat.reduceBEq, Int.reduceAdd, Int.reduceSub, Int.reduceLT, Int.reduceLE, Int.reduceEq, Int.reduceToNat]
  subst hK
  refine AW.seq ?_
  refine AW.block ?_
  refine AW.regL [0, 1, 2, 3, 9] ?_
  generalize hK : AW Try.prog _ _ _ = K
  simp only [go_sem, ↓reduceIte, reduceCtorEq, Nat.reduceAdd, Nat.reduceSub, Nat.reduceMul, Nat.reduceEqDiff, Nat.reduceLT, Nat.reduceLeDiff, Nat.reduceBEq, Int.reduceAdd, Int.reduceSub, Int.reduceLT, Int.reduceLE, Int.reduceEq, Int.reduceToNat]
  subst hK
  refine AW.ifBF rfl rfl ?_
  obtain ⟨x8, hx8, h⟩ := Option.bind_eq_some_iff.1 h
  by_cases c9 : x8.1 = true
  · rw [if_pos c9] at h
    obtain ⟨x10, hx10, h⟩ := Option.bind_eq_some_iff.1 h
    refine AW.regL [0, 1, 2, 3, 12] ?_
    generalize hK : AW Try.prog _ _ _ = K
    simp only [go_sem, ↓reduceIte, reduceCtorEq, Nat.reduceAdd, Nat.reduceSub, Nat.reduceMul, Nat.reduceEqDiff, Nat.reduceLT, Nat.reduceLeDiff, Nat.reduceBEq, Int.reduceAdd, Int.reduceSub, Int.reduceLT, Int.reduceLE, Int.reduceEq, Int.reduceToNat, c9]
    refine arC.ok (CallOk.ic (us' := _) (ok85 a0 a1 x8 hx8) [0, 1] rfl (by decide) (by simp) (by simp) (by simp) (by simp) (.cons (.tok (by simp [tokL, tokLL, inlR]) (by first | rfl | simp [upd_ap, hpL_ap, sg_ap, mapT, mapTL])) (.cons (.eq (by simp only [go_sem]) (by first | rfl | simp [upd_ap, hpL_ap, sg_ap])) (.nil _))) (by simp only [mapTL_cons, mapTL_nil, mapT_ptr, mapT_own, mapT_val, mapT_sl, mapT_agg, mapT_ip, sg_ap, List.getD_cons_zero, List.getD_cons_succ]; exact (.cons (.of rfl) (.cons (.of rfl) .nil))) (by simp only [go_sem, List.length_cons, List.length_nil, Nat.reduceAdd, Nat.reduceLT, decide_true]) (by simp [AObj.isMut]) (by simp [go_sem]) (by simp [go_sem])) Try.call85 ?_
    simp only [go_sem, ↓reduceIte, reduceCtorEq, Nat.reduceAdd, Nat.reduceSub, Nat.reduceMul, Nat.reduceEqDiff, Nat.reduceLT, Nat.reduceLeDiff, Nat.reduceBEq, Int.reduceAdd, Int.reduceSub, Int.reduceLT, Int.reduceLE, Int.reduceEq, Int.reduceToNat, c9]
    refine arC.ok (CallOk.ic (us' := _) (ok85 x8.2 a2 x10 hx10) [0, 1] rfl (by decide) (by simp) (by simp) (by simp) (by simp) (.cons (.tok (by simp [tokL, tokLL, inlR]) (by first | rfl | simp [upd_ap, hpL_ap, sg_ap, mapT, mapTL])) (.cons (.eq (by simp only [go_sem]) (by first | rfl | simp [upd_ap, hpL_ap, sg_ap])) (.nil _))) (by simp only [mapTL_cons, mapTL_nil, mapT_ptr, mapT_own, mapT_val, mapT_sl, mapT_agg, mapT_ip, sg_ap, List.getD_cons_zero, List.getD_cons_succ]; exact (.cons (.of rfl) (.cons (.of rfl) .nil))) (by simp only [go_sem, List.length_cons, List.length_nil, Nat.reduceAdd, Nat.reduceLT, decide_true]) (by simp [AObj.isMut]) (by simp [go_sem]) (by simp [go_sem])) Try.call85 ?_
    simp only [go_sem, ↓reduceIte, reduceCtorEq, Nat.reduceAdd, Nat.reduceSub, Nat.reduceMul, Nat.reduceEqDiff, Nat.reduceLT, Nat.reduceLeDiff, Nat.reduceBEq, Int.reduceAdd, Int.reduceSub, Int.reduceLT, Int.reduceLE, Int.reduceEq, Int.reduceToNat, c9]
    subst hK
    by_cases c11 : x10.1 = true
    · rw [if_pos c11] at h
      refine AW.ifBF rfl (by rw [c11]; rfl) ?_
      obtain ⟨x12, hx12, h⟩ := Option.bind_eq_some_iff.1 h
      refine AW.regL [0, 1, 2, 3, 23] ?_
      generalize hK : AW Try.prog _ _ _ = K
      simp only [go_sem, ↓reduceIte, reduceCtorEq, Nat.reduceAdd, Nat.reduceSub, Nat.reduceMul, Nat.reduceEqDiff, Nat.reduceLT, Nat.reduceLeDiff, Nat.reduceBEq, Int.reduceAdd, Int.reduceSub, Int.reduceLT, Int.reduceLE, Int.reduceEq, Int.reduceToNat, c9, c11, natOf_gd hx12, idx8 hx12, all8 (p := fun k => List.head? (List.drop (2 + k) ([.val (.int .i64 x10.2.nodes), .val (.int .i64 x10.2.most), .val (.bool x10.2.down.e0), .val (.bool x10.2.down.e1), .val (.bool x10.2.down.e2), .val (.bool x10.2.down.e3), .val (.bool x10.2.down.e4), .val (.bool x10.2.down.e5), .val (.bool x10.2.down.e6), .val (.bool x10.2.down.e7), .own 1 0 x10.2.l.length, .val (.int .i64 x10.2.sent), .val (.int .i64 x10.2.taken), .val (.int .i64 x10.2.lost)] : List AV)) = some (.val (.bool (A8.get x10.2.down k)))) rfl rfl rfl rfl rfl rfl rfl rfl (idx8 hx12)]
      subst hK
      by_cases c13 : (A8.get x10.2.down a1.toNat) = true
      · rw [if_pos c13] at h
        refine AW.ifBT rfl c13 ?_
        refine AW.regL [8] ?_
        generalize hK : AW Try.prog _ _ _ = K
        simp only [go_sem, ↓reduceIte, reduceCtorEq, Nat.reduceAdd, Nat.reduceSub, Nat.reduceMul, Nat.reduceEqDiff, Nat.reduceLT, Nat.reduceLeDiff, Nat.reduceBEq, Int.reduceAdd, Int.reduceSub, Int.reduceLT, Int.reduceLE, Int.reduceEq, Int.reduceToNat, c9, c11, c13]
        subst hK
        refine AW.ent (st' := ⟨(upd anyF 8 (.val (.int .i64 6))), hpL [some (.row 14 true [[.val (.int .i64 x10.2.nodes), .val (.int .i64 x10.2.most), .val (.bool x10.2.down.e0), .val (.bool x10.2.down.e1), .val (.bool x10.2.down.e2), .val (.bool x10.2.down.e3), .val (.bool x10.2.down.e4), .val (.bool x10.2.down.e5), .val (.bool x10.2.down.e6), .val (.bool x10.2.down.e7), .own 8 0 x10.2.l.length, .val (.int .i64 x10.2.sent), .val (.int .i64 x10.2.taken), .val (.int .i64 x10.2.lost)]])] [some (.row 3 true (List.map encMsg x10.2.l))], 9⟩) ?_ ?_
        · refine Ent.can [1] _ _ _ rfl (by first | decide | simp) rfl ?_ ?_ ?_
          · exact (RF.any.pv (by first | rfl | simp only [go_sem]) (by first | rfl | simp [upd_ap, hpL_ap, tau, mapT, mapTL, bytesI_len, c9, c11, c13]))
          · exact .cons (.tok (by simp [tokL, tokLL, inlR]) (by first | rfl | simp [upd_ap, hpL_ap, tau, mapT, mapTL, bytesI_len, c9, c11, c13])) (.nil _)
          · exact .cons (.eq (by first | rfl | simp only [go_sem]) (by first | rfl | simp [upd_ap, hpL_ap, tau, mapT, mapTL, bytesI_len, c9, c11, c13])) (.nil _)
        refine AW.ret ?_
        refine block_r ?_
        refine thenA_r ?_
        obtain rfl := Option.some.inj h
        exact ⟨rfl, rfl, _, rfl, by first | rfl | simp [resOf, upd_ap, bytesI_len]⟩
      · rw [if_neg c13] at h
        rw [Bool.not_eq_true] at c13
        refine AW.ifBF rfl c13 ?_
        refine AW.regdL [0, 1, 2, 3, 30] [[], [0], [0, 1], [0, 1, 2], [0, 1, 2, 3], [], [5], [5, 6], [5, 6, 7], [0, 1, 2, 3, 4, 5, 6, 7, 8], [0, 1, 2, 3, 4, 5, 6, 7, 8, 9]] [0, 1, 2, 3, 4, 5, 6, 7, 8, 9, 10] noFt (fun _ _ _ h => by simp [noFt] at h) draws (by kernel_rfl) (by kernel_rfl) ?_
        generalize hK : AW Try.prog _ _ _ = K
        simp only [go_sem, ↓reduceIte, reduceCtorEq, Nat.reduceAdd, Nat.reduceSub, Nat.reduceMul, Nat.reduceEqDiff, Nat.reduceLT, Nat.reduceLeDiff, Nat.reduceBEq, Int.reduceAdd, Int.reduceSub, Int.reduceLT, Int.reduceLE, Int.reduceEq, Int.reduceToNat, c9, c11, c13]
        subst hK
        by_cases c14 : x10.2.most ≤ ((x10.2.l.length : Nat) : Int)
        · rw [if_pos c14] at h
          refine AW.ifT rfl c14 ?_
          refine AW.regL [] ?_
          generalize hK : AW Try.prog _ _ _ = K
          simp only [go_sem, ↓reduceIte, reduceCtorEq, Nat.reduceAdd, Nat.reduceSub, Nat.reduceMul, Nat.reduceEqDiff, Nat.reduceLT, Nat.reduceLeDiff, Nat.reduceBEq, Int.reduceAdd, Int.reduceSub, Int.reduceLT, Int.reduceLE, Int.reduceEq, Int.reduceToNat, c9, c11, c13, eq_true c14]
          subst hK
          refine AW.regL [8] ?_
          generalize hK : AW Try.prog _ _ _ = K
          simp only [go_sem, ↓reduceIte, reduceCtorEq, Nat.reduceAdd, Nat.reduceSub, Nat.reduceMul, Nat.reduceEqDiff, Nat.reduceLT, Nat.reduceLeDiff, Nat.reduceBEq, Int.reduceAdd, Int.reduceSub, Int.reduceLT, Int.reduceLE, Int.reduceEq, Int.reduceToNat, c9, c11, c13, eq_true c14]
          subst hK
          refine AW.ent (st' := ⟨(upd anyF 8 (.val (.int .i64 9))), hpL [some (.row 14 true [[.val (.int .i64 x10.2.nodes), .val (.int .i64 x10.2.most), .val (.bool x10.2.down.e0), .val (.bool x10.2.down.e1), .val (.bool x10.2.down.e2), .val (.bool x10.2.down.e3), .val (.bool x10.2.down.e4), .val (.bool x10.2.down.e5), .val (.bool x10.2.down.e6), .val (.bool x10.2.down.e7), .own 8 0 x10.2.l.length, .val (.int .i64 x10.2.sent), .val (.int .i64 x10.2.taken), .val (.int .i64 (IntKind.i64.wrap (x10.2.lost + 1)))]])] [some (.row 3 true (List.map encMsg x10.2.l))], 9⟩) ?_ ?_
          · refine Ent.can [1] _ _ _ rfl (by first | decide | simp) rfl ?_ ?_ ?_
            · exact (RF.any.pv (by first | rfl | simp only [go_sem]) (by first | rfl | simp [upd_ap, hpL_ap, tau, mapT, mapTL, bytesI_len, c9, c11, c13, eq_true c14]))
            · exact .cons (.tok (by simp [tokL, tokLL, inlR]) (by first | rfl | simp [upd_ap, hpL_ap, tau, mapT, mapTL, bytesI_len, c9, c11, c13, eq_true c14])) (.nil _)
            · exact .cons (.eq (by first | rfl | simp only [go_sem]) (by first | rfl | simp [upd_ap, hpL_ap, tau, mapT, mapTL, bytesI_len, c9, c11, c13, eq_true c14])) (.nil _)
          refine AW.ret ?_
          refine block_r ?_
          refine thenA_r ?_
          obtain rfl := Option.some.inj h
          exact ⟨rfl, rfl, _, rfl, by first | rfl | simp [resOf, upd_ap, bytesI_len]⟩
        · rw [if_neg c14] at h
          refine AW.ifF rfl c14 ?_
          refine AW.skip ?_
          refine block_n ?_
          refine thenA_n ?_
          obtain ⟨x15, hx15, h⟩ := Option.bind_eq_some_iff.1 h
          obtain ⟨x16, hx16, h⟩ := Option.bind_eq_some_iff.1 h
          obtain ⟨hx16b, hx16e⟩ := appO?_some.1 hx16
          have hx16f : ∀ id o : Nat, appO 3 40 id ([[.val (.int .i64 x15.From), .val (.int .i64 x15.To), .sl (List.map enc5 x15.Data)]]) 0 x10.2.l.length o (some (.row 3 true (List.map encMsg x10.2.l))) = some ⟨.own id 0 x16.length, [(o, none), (id, some (.row 3 true (List.map encMsg x16)))]⟩ := fun id o => by
            subst hx16e; rw [appO_ok (by simp) (by simpa using hx16b) (by decide)]; first | (simp [encMsg]; done) | (simp [encMsg]; omega)
          refine AW.regdL [0] [[], [], [1], [1, 2], [1, 2, 3], [], [], [], [5, 6, 7], [5, 6, 7, 8], [5, 6, 7, 8, 9], [1, 2, 3, 4, 5, 6, 7, 8, 9, 10], [0, 1, 2, 3, 4, 5, 6, 7, 8, 9, 10, 11], [0, 1, 2, 3, 4, 5, 6, 7, 8, 9, 10, 11, 12], [0, 1, 2, 3, 4, 5, 6, 7, 8, 9, 10, 11, 12, 13]] [0, 1, 2, 3, 4, 5, 6, 7, 8, 9, 10, 11, 12, 13, 14] (tab [(83, [.agg [.val (.int .i64 a1), .val (.int .i64 a2), .sl (List.map enc5 a3)]], .agg [.val (.int .i64 x15.From), .val (.int .i64 x15.To), .sl (List.map enc5 x15.Data)])]) (tab_cons (ok83 ⟨a1, a2, a3⟩ x15 hx15) Try.call83 tab_nil) draws (by kernel_rfl) (by kernel_rfl) ?_
          generalize hK : AW Try.prog _ _ _ = K
          simp only [go_sem, ↓reduceIte, reduceCtorEq, Nat.reduceAdd, Nat.reduceSub, Nat.reduceMul, Nat.reduceEqDiff, Nat.reduceLT, Nat.reduceLeDiff, Nat.reduceBEq, Int.reduceAdd, Int.reduceSub, Int.reduceLT, Int.reduceLE, Int.reduceEq, Int.reduceToNat, c9, c11, c13, eq_false c14, hx16f]
          subst hK
          refine AW.regL [] ?_
          generalize hK : AW Try.prog _ _ _ = K
          simp only [go_sem, ↓reduceIte, reduceCtorEq, Nat.reduceAdd, Nat.reduceSub, Nat.reduceMul, Nat.reduceEqDiff, Nat.reduceLT, Nat.reduceLeDiff, Nat.reduceBEq, Int.reduceAdd, Int.reduceSub, Int.reduceLT, Int.reduceLE, Int.reduceEq, Int.reduceToNat, c9, c11, c13, eq_false c14]
          subst hK
          refine AW.regL [8] ?_
          generalize hK : AW Try.prog _ _ _ = K
          simp only [go_sem, ↓reduceIte, reduceCtorEq, Nat.reduceAdd, Nat.reduceSub, Nat.reduceMul, Nat.reduceEqDiff, Nat.reduceLT, Nat.reduceLeDiff, Nat.reduceBEq, Int.reduceAdd, Int.reduceSub, Int.reduceLT, Int.reduceLE, Int.reduceEq, Int.reduceToNat, c9, c11, c13, eq_false c14]
          subst hK
          refine AW.ent (st' := ⟨(upd anyF 8 (.val (.int .i64 0))), hpL [some (.row 14 true [[.val (.int .i64 x10.2.nodes), .val (.int .i64 x10.2.most), .val (.bool x10.2.down.e0), .val (.bool x10.2.down.e1), .val (.bool x10.2.down.e2), .val (.bool x10.2.down.e3), .val (.bool x10.2.down.e4), .val (.bool x10.2.down.e5), .val (.bool x10.2.down.e6), .val (.bool x10.2.down.e7), .own 8 0 x16.length, .val (.int .i64 (IntKind.i64.wrap (x10.2.sent + 1))), .val (.int .i64 x10.2.taken), .val (.int .i64 x10.2.lost)]])] [some (.row 3 true (List.map encMsg x16))], 9⟩) ?_ ?_
          · refine Ent.can [360] _ _ _ rfl (by first | decide | simp) rfl ?_ ?_ ?_
            · exact (RF.any.pv (by first | rfl | simp only [go_sem]) (by first | rfl | simp [upd_ap, hpL_ap, tau, mapT, mapTL, bytesI_len, c9, c11, c13, eq_false c14]))
            · exact .cons (.tok (by simp [tokL, tokLL, inlR]) (by first | rfl | simp [upd_ap, hpL_ap, tau, mapT, mapTL, bytesI_len, c9, c11, c13, eq_false c14])) (.nil _)
            · exact .cons (.eq (by first | rfl | simp only [go_sem]) (by first | rfl | simp [upd_ap, hpL_ap, tau, mapT, mapTL, bytesI_len, c9, c11, c13, eq_false c14])) (.nil _)
          refine AW.ret ?_
          obtain rfl := Option.some.inj h
          exact ⟨rfl, rfl, _, rfl, by first | rfl | simp [resOf, upd_ap, bytesI_len]⟩
    · rw [if_neg c11] at h
      rw [Bool.not_eq_true] at c11
      refine AW.ifBT rfl (by rw [c11]; rfl) ?_
      refine AW.regL [8] ?_
      generalize hK : AW Try.prog _ _ _ = K
      simp only [go_sem, ↓reduceIte, reduceCtorEq, Nat.reduceAdd, Nat.reduceSub, Nat.reduceMul, Nat.reduceEqDiff, Nat.reduceLT, Nat.reduceLeDiff, Nat.reduceBEq, Int.reduceAdd, Int.reduceSub, Int.reduceLT, Int.reduceLE, Int.reduceEq, Int.reduceToNat, c9, c11]
      subst hK
      refine AW.ent (st' := ⟨(upd anyF 8 (.val (.int .i64 1))), hpL [some (.row 14 true [[.val (.int .i64 x10.2.nodes), .val (.int .i64 x10.2.most), .val (.bool x10.2.down.e0), .val (.bool x10.2.down.e1), .val (.bool x10.2.down.e2), .val (.bool x10.2.down.e3), .val (.bool x10.2.down.e4), .val (.bool x10.2.down.e5), .val (.bool x10.2.down.e6), .val (.bool x10.2.down.e7), .own 8 0 x10.2.l.length, .val (.int .i64 x10.2.sent), .val (.int .i64 x10.2.taken), .val (.int .i64 x10.2.lost)]])] [some (.row 3 true (List.map encMsg x10.2.l))], 9⟩) ?_ ?_
      · refine Ent.can [1] _ _ _ rfl (by first | decide | simp) rfl ?_ ?_ ?_
        · exact (RF.any.pv (by first | rfl | simp only [go_sem]) (by first | rfl | simp [upd_ap, hpL_ap, tau, mapT, mapTL, bytesI_len, c9, c11]))
        · exact .cons (.tok (by simp [tokL, tokLL, inlR]) (by first | rfl | simp [upd_ap, hpL_ap, tau, mapT, mapTL, bytesI_len, c9, c11])) (.nil _)
        · exact .cons (.eq (by first | rfl | simp only [go_sem]) (by first | rfl | simp [upd_ap, hpL_ap, tau, mapT, mapTL, bytesI_len, c9, c11])) (.nil _)
      refine AW.ret ?_
      refine block_r ?_
      refine thenA_r ?_
      obtain rfl := Option.some.inj h
      exact ⟨rfl, rfl, _, rfl, by first | rfl | simp [resOf, upd_ap, bytesI_len]⟩
  · rw [if_neg c9] at h
    rw [Bool.not_eq_true] at c9
    refine AW.regL [0, 1, 2, 3, 12] ?_
    generalize hK : AW Try.prog _ _ _ = K
    simp only [go_sem, ↓reduceIte, reduceCtorEq, Nat.reduceAdd, Nat.reduceSub, Nat.reduceMul, Nat.reduceEqDiff, Nat.reduceLT, Nat.reduceLeDiff, Nat.reduceBEq, Int.reduceAdd, Int.reduceSub, Int.reduceLT, Int.reduceLE, Int.reduceEq, Int.reduceToNat, c9]
    refine arC.ok (CallOk.ic (us' := _) (ok85 a0 a1 x8 hx8) [0, 1] rfl (by decide) (by simp) (by simp) (by simp) (by simp) (.cons (.tok (by simp [tokL, tokLL, inlR]) (by first | rfl | simp [upd_ap, hpL_ap, sg_ap, mapT, mapTL])) (.cons (.eq (by simp only [go_sem]) (by first | rfl | simp [upd_ap, hpL_ap, sg_ap])) (.nil _))) (by simp only [mapTL_cons, mapTL_nil, mapT_ptr, mapT_own, mapT_val, mapT_sl, mapT_agg, mapT_ip, sg_ap, List.getD_cons_zero, List.getD_cons_succ]; exact (.cons (.of rfl) (.cons (.of rfl) .nil))) (by simp only [go_sem, List.length_cons, List.length_nil, Nat.reduceAdd, Nat.reduceLT, decide_true]) (by simp [AObj.isMut]) (by simp [go_sem]) (by simp [go_sem])) Try.call85 ?_
    simp only [go_sem, ↓reduceIte, reduceCtorEq, Nat.reduceAdd, Nat.reduceSub, Nat.reduceMul, Nat.reduceEqDiff, Nat.reduceLT, Nat.reduceLeDiff, Nat.reduceBEq, Int.reduceAdd, Int.reduceSub, Int.reduceLT, Int.reduceLE, Int.reduceEq, Int.reduceToNat, c9]
    subst hK
    refine AW.ifBT rfl rfl ?_
    refine AW.regL [8] ?_
    generalize hK : AW Try.prog _ _ _ = K
    simp only [go_sem, ↓reduceIte, reduceCtorEq, Nat.reduceAdd, Nat.reduceSub, Nat.reduceMul, Nat.reduceEqDiff, Nat.reduceLT, Nat.reduceLeDiff, Nat.reduceBEq, Int.reduceAdd, Int.reduceSub, Int.reduceLT, Int.reduceLE, Int.reduceEq, Int.reduceToNat, c9]
    subst hK
    refine AW.ent (st' := ⟨(upd anyF 8 (.val (.int .i64 1))), hpL [some (.row 14 true [[.val (.int .i64 x8.2.nodes), .val (.int .i64 x8.2.most), .val (.bool x8.2.down.e0), .val (.bool x8.2.down.e1), .val (.bool x8.2.down.e2), .val (.bool x8.2.down.e3), .val (.bool x8.2.down.e4), .val (.bool x8.2.down.e5), .val (.bool x8.2.down.e6), .val (.bool x8.2.down.e7), .own 8 0 x8.2.l.length, .val (.int .i64 x8.2.sent), .val (.int .i64 x8.2.taken), .val (.int .i64 x8.2.lost)]])] [some (.row 3 true (List.map encMsg x8.2.l))], 9⟩) ?_ ?_
    · refine Ent.can [1] _ _ _ rfl (by first | decide | simp) rfl ?_ ?_ ?_
      · exact (RF.any.pv (by first | rfl | simp only [go_sem]) (by first | rfl | simp [upd_ap, hpL_ap, tau, mapT, mapTL, bytesI_len, c9]))
      · exact .cons (.tok (by simp [tokL, tokLL, inlR]) (by first | rfl | simp [upd_ap, hpL_ap, tau, mapT, mapTL, bytesI_len, c9])) (.nil _)
      · exact .cons (.eq (by first | rfl | simp only [go_sem]) (by first | rfl | simp [upd_ap, hpL_ap, tau, mapT, mapTL, bytesI_len, c9])) (.nil _)
    refine AW.ret ?_
    refine block_r ?_
    refine thenA_r ?_
    obtain rfl := Option.some.inj h
    exact ⟨rfl, rfl, _, rfl, by first | rfl | simp [resOf, upd_ap, bytesI_len]⟩
end Au
end Go.Proofs.Y1

set_option linter.all false
set_option maxRecDepth 8000
set_option maxHeartbeats 1000000
namespace Go.Proofs.Y1
open Go.Gm
namespace Au
noncomputable def f38 (a0 : Bag) (a1 : Int) : Option (Bool × Bag) := ((f81 a0 a1).bind fun x4 => (if x4.1 = true then (if x4.2.most ≤ ((x4.2.l.length : Nat) : Int) then some (false, x4.2) else ((ix x4.2.l a1).bind fun x7 => ((f83 x7).bind fun x8 => ((appO? x4.2.l [x8]).bind fun x9 => some (true, ⟨x4.2.nodes, x4.2.most, x4.2.down, x9, IntKind.i64.wrap (x4.2.sent + 1), x4.2.taken, x4.2.lost⟩))))) else some (false, x4.2)))
theorem ok38 (a0 : Bag) (a1 : Int) (r : Bool × Bag) (h : f38 a0 a1 = some r) : IC Try.prog 38 [some (.row 14 true [[.val (.int .i64 a0.nodes), .val (.int .i64 a0.most), .val (.bool a0.down.e0), .val (.bool a0.down.e1), .val (.bool a0.down.e2), .val (.bool a0.down.e3), .val (.bool a0.down.e4), .val (.bool a0.down.e5), .val (.bool a0.down.e6), .val (.bool a0.down.e7), .own 1 0 a0.l.length, .val (.int .i64 a0.sent), .val (.int .i64 a0.taken), .val (.int .i64 a0.lost)]]), some (.row 3 true (List.map encMsg a0.l))] [.ptr 0 0 0, .val (.int .i64 a1)] (.val (.bool r.1)) [some (.row 14 true [[.val (.int .i64 r.2.nodes), .val (.int .i64 r.2.most), .val (.bool r.2.down.e0), .val (.bool r.2.down.e1), .val (.bool r.2.down.e2), .val (.bool r.2.down.e3), .val (.bool r.2.down.e4), .val (.bool r.2.down.e5), .val (.bool r.2.down.e6), .val (.bool r.2.down.e7), .own 8 0 r.2.l.length, .val (.int .i64 r.2.sent), .val (.int .i64 r.2.taken), .val (.int .i64 r.2.lost)]])] [some (.row 3 true (List.map encMsg r.2.l))] := by
  rw [f38] at h
  refine ic_of (N := 45) (rs := [.tmp 4]) Try.func38 rfl rfl rfl (Nat.le_of_ble_eq_true rfl) ?_
  refine AW.regL [0, 1] ?_
  generalize hK : AW Try.prog _ _ _ = K
  simp only [go_sem, ↓reduceIte, reduceCtorEq, Nat.reduceAdd, Nat.reduceSub, Nat.reduceMul, Nat.reduceEqDiff, Nat.reduceLT, Nat.reduceLeDiff, Nat.reduceBEq, Int.reduceAdd, Int.reduceSub, Int.reduceLT, Int.reduceLE, Int.reduceEq, Int.reduceToNat]
  subst hK
  refine AW.seq ?_
  obtain ⟨x4, hx4, h⟩ := Option.bind_eq_some_iff.1 h
  by_cases c5 : x4.1 = true
  · rw [if_pos c5] at h
    refine AW.regdL [0, 1, 20] [[], [], [0, 1], [0, 1, 2], [0, 1, 2, 3], [0, 1, 2, 3, 4], [0, 1, 2, 3, 4, 5], [0, 1, 2, 3, 4, 5, 6], [0, 1, 2, 3, 4, 5, 6, 7], [0, 1, 2, 3, 4, 5, 6, 7, 8], [0, 1, 2, 3, 4], [0, 1, 2, 3, 4, 10], [0, 1, 2, 3, 4, 10, 11], [0, 1, 2, 3, 4, 10, 11, 12], [0, 1, 2, 3, 4, 5, 6, 7, 8, 9, 10, 11, 12, 13], [0, 1, 2, 3, 4, 5, 6, 7, 8, 9, 10, 11, 12, 13, 14]] [0, 1, 2, 3, 4, 5, 6, 7, 8, 9, 10, 11, 12, 13, 14, 15] noFt (fun _ _ _ h => by simp [noFt] at h) draws (by kernel_rfl) (by kernel_rfl) ?_
    generalize hK : AW Try.prog _ _ _ = K
    simp only [go_sem, ↓reduceIte, reduceCtorEq, Nat.reduceAdd, Nat.reduceSub, Nat.reduceMul, Nat.reduceEqDiff, Nat.reduceLT, Nat.reduceLeDiff, Nat.reduceBEq, Int.reduceAdd, Int.reduceSub, Int.reduceLT, Int.reduceLE, Int.reduceEq, Int.reduceToNat, c5]
    refine adN.ic (ok81 a0 a1 x4 hx4) Try.call81 callV_fn [0, 1] rfl (by decide) (by simp) (by simp) (by simp) (by simp) (.cons (.tok (by simp [tokL, tokLL, inlR]) (by first | rfl | simp [upd_ap, hpL_ap, sg_ap, mapT, mapTL])) (.cons (.eq (by simp only [go_sem]) (by first | rfl | simp [upd_ap, hpL_ap, sg_ap])) (.nil _))) (by simp only [List.nil_append, List.append_nil, List.cons_append, List.map_cons, List.map_nil, evF_tmp, evF_const, upd_ap, Nat.reduceEqDiff, if_true, if_false, ↓reduceIte, mapTL_cons, mapTL_nil, mapT_ptr, mapT_own, mapT_val, mapT_sl, mapT_agg, mapT_ip, sg_ap, List.getD_cons_zero, List.getD_cons_succ]; exact (.cons (.of rfl) (.cons (.of rfl) .nil))) (by simp only [go_sem, List.length_cons, List.length_nil, Nat.reduceAdd, Nat.reduceLT, decide_true]) (by simp [AObj.isMut]) (by simp [go_sem]) (by simp [go_sem]) ?_
    simp only [go_sem, ↓reduceIte, reduceCtorEq, Nat.reduceAdd, Nat.reduceSub, Nat.reduceMul, Nat.reduceEqDiff, Nat.reduceLT, Nat.reduceLeDiff, Nat.reduceBEq, Int.reduceAdd, Int.reduceSub, Int.reduceLT, Int.reduceLE, Int.reduceEq, Int.reduceToNat, c5]
    subst hK
    by_cases c6 : x4.2.most ≤ ((x4.2.l.length : Nat) : Int)
    · rw [if_pos c6] at h
      refine AW.ifT rfl c6 ?_
      refine AW.regL [4] ?_
      generalize hK : AW Try.prog _ _ _ = K
      simp only [go_sem, ↓reduceIte, reduceCtorEq, Nat.reduceAdd, Nat.reduceSub, Nat.reduceMul, Nat.reduceEqDiff, Nat.reduceLT, Nat.reduceLeDiff, Nat.reduceBEq, Int.reduceAdd, Int.reduceSub, Int.reduceLT, Int.reduceLE, Int.reduceEq, Int.reduceToNat, c5, eq_true c6]
      subst hK
      refine AW.ent (st' := ⟨(upd anyF 4 (.val (.bool false))), hpL [some (.row 14 true [[.val (.int .i64 x4.2.nodes), .val (.int .i64 x4.2.most), .val (.bool x4.2.down.e0), .val (.bool x4.2.down.e1), .val (.bool x4.2.down.e2), .val (.bool x4.2.down.e3), .val (.bool x4.2.down.e4), .val (.bool x4.2.down.e5), .val (.bool x4.2.down.e6), .val (.bool x4.2.down.e7), .own 8 0 x4.2.l.length, .val (.int .i64 x4.2.sent), .val (.int .i64 x4.2.taken), .val (.int .i64 x4.2.lost)]])] [some (.row 3 true (List.map encMsg x4.2.l))], 9⟩) ?_ ?_
      · refine Ent.can [1] _ _ _ rfl (by first | decide | simp) rfl ?_ ?_ ?_
        · exact (RF.any.pv (by first | rfl | simp only [go_sem]) (by first | rfl | simp [upd_ap, hpL_ap, tau, mapT, mapTL, bytesI_len, c5, eq_true c6]))
        · exact .cons (.tok (by simp [tokL, tokLL, inlR]) (by first | rfl | simp [upd_ap, hpL_ap, tau, mapT, mapTL, bytesI_len, c5, eq_true c6])) (.nil _)
        · exact .cons (.eq (by first | rfl | simp only [go_sem]) (by first | rfl | simp [upd_ap, hpL_ap, tau, mapT, mapTL, bytesI_len, c5, eq_true c6])) (.nil _)
      refine AW.ret ?_
      refine thenA_r ?_
      obtain rfl := Option.some.inj h
      exact ⟨rfl, rfl, _, rfl, by first | rfl | simp [resOf, upd_ap, bytesI_len]⟩
    · rw [if_neg c6] at h
      refine AW.ifF rfl c6 ?_
      refine AW.skip ?_
      refine thenA_n ?_
      obtain ⟨x7, hx7, h⟩ := Option.bind_eq_some_iff.1 h
      obtain ⟨hx7a, hx7b⟩ := ix_some.1 hx7
      obtain ⟨x8, hx8, h⟩ := Option.bind_eq_some_iff.1 h
      obtain ⟨x9, hx9, h⟩ := Option.bind_eq_some_iff.1 h
      obtain ⟨hx9b, hx9e⟩ := appO?_some.1 hx9
      have hx9f : ∀ id o : Nat, appO 3 40 id ([[.val (.int .i64 x8.From), .val (.int .i64 x8.To), .sl (List.map enc5 x8.Data)]]) 0 x4.2.l.length o (some (.row 3 true (List.map encMsg x4.2.l))) = some ⟨.own id 0 x9.length, [(o, none), (id, some (.row 3 true (List.map encMsg x9)))]⟩ := fun id o => by
        subst hx9e; rw [appO_ok (by simp) (by simpa using hx9b) (by decide)]; first | (simp [encMsg]; done) | (simp [encMsg]; omega)
      refine AW.regdL [0] [[], [], [1], [1, 2], [1, 2, 3], [], [5], [5, 6], [5, 6, 7], [], [5, 6, 7, 8, 9], [5, 6, 7, 8, 9, 10], [5, 6, 7, 8, 9, 10, 11], [5, 6, 7, 8, 9, 10, 11, 12], [1, 2, 3, 4, 5, 6, 7, 8, 9, 10, 11, 12, 13], [0, 1, 2, 3, 4, 5, 6, 7, 8, 9, 10, 11, 12, 13, 14], [0, 1, 2, 3, 4, 5, 6, 7, 8, 9, 10, 11, 12, 13, 14, 15], [0, 1, 2, 3, 4, 5, 6, 7, 8, 9, 10, 11, 12, 13, 14, 15, 16]] [0, 1, 2, 3, 4, 5, 6, 7, 8, 9, 10, 11, 12, 13, 14, 15, 16, 17] (tab [(83, [.agg [.val (.int .i64 x7.From), .val (.int .i64 x7.To), .sl (List.map enc5 x7.Data)]], .agg [.val (.int .i64 x8.From), .val (.int .i64 x8.To), .sl (List.map enc5 x8.Data)])]) (tab_cons (ok83 x7 x8 hx8) Try.call83 tab_nil) draws (by kernel_rfl) (by kernel_rfl) ?_
      generalize hK : AW Try.prog _ _ _ = K
      simp only [go_sem, ↓reduceIte, reduceCtorEq, Nat.reduceAdd, Nat.reduceSub, Nat.reduceMul, Nat.reduceEqDiff, Nat.reduceLT, Nat.reduceLeDiff, Nat.reduceBEq, Int.reduceAdd, Int.reduceSub, Int.reduceLT, Int.reduceLE, Int.reduceEq, Int.reduceToNat, c5, eq_false c6, natOf_le hx7a, hx7b, ix_lt hx7b, hx9f]
      subst hK
      refine AW.regL [] ?_
      generalize hK : AW Try.prog _ _ _ = K
      simp only [go_sem, ↓reduceIte, reduceCtorEq, Nat.reduceAdd, Nat.reduceSub, Nat.reduceMul, Nat.reduceEqDiff, Nat.reduceLT, Nat.reduceLeDiff, Nat.reduceBEq, Int.reduceAdd, Int.reduceSub, Int.reduceLT, Int.reduceLE, Int.reduceEq, Int.reduceToNat, c5, eq_false c6]
      subst hK
      refine AW.regL [4] ?_
      generalize hK : AW Try.prog _ _ _ = K
      simp only [go_sem, ↓reduceIte, reduceCtorEq, Nat.reduceAdd, Nat.reduceSub, Nat.reduceMul, Nat.reduceEqDiff, Nat.reduceLT, Nat.reduceLeDiff, Nat.reduceBEq, Int.reduceAdd, Int.reduceSub, Int.reduceLT, Int.reduceLE, Int.reduceEq, Int.reduceToNat, c5, eq_false c6]
      subst hK
      refine AW.ent (st' := ⟨(upd anyF 4 (.val (.bool true))), hpL [some (.row 14 true [[.val (.int .i64 x4.2.nodes), .val (.int .i64 x4.2.most), .val (.bool x4.2.down.e0), .val (.bool x4.2.down.e1), .val (.bool x4.2.down.e2), .val (.bool x4.2.down.e3), .val (.bool x4.2.down.e4), .val (.bool x4.2.down.e5), .val (.bool x4.2.down.e6), .val (.bool x4.2.down.e7), .own 8 0 x9.length, .val (.int .i64 (IntKind.i64.wrap (x4.2.sent + 1))), .val (.int .i64 x4.2.taken), .val (.int .i64 x4.2.lost)]])] [some (.row 3 true (List.map encMsg x9))], 9⟩) ?_ ?_
      · refine Ent.can [256] _ _ _ rfl (by first | decide | simp) rfl ?_ ?_ ?_
        · exact (RF.any.pv (by first | rfl | simp only [go_sem]) (by first | rfl | simp [upd_ap, hpL_ap, tau, mapT, mapTL, bytesI_len, c5, eq_false c6]))
        · exact .cons (.tok (by simp [tokL, tokLL, inlR]) (by first | rfl | simp [upd_ap, hpL_ap, tau, mapT, mapTL, bytesI_len, c5, eq_false c6])) (.nil _)
        · exact .cons (.eq (by first | rfl | simp only [go_sem]) (by first | rfl | simp [upd_ap, hpL_ap, tau, mapT, mapTL, bytesI_len, c5, eq_false c6])) (.nil _)
      refine AW.ret ?_
      obtain rfl := Option.some.inj h
      exact ⟨rfl, rfl, _, rfl, by first | rfl | simp [resOf, upd_ap, bytesI_len]⟩
  · rw [if_neg c5] at h
    rw [Bool.not_eq_true] at c5
    refine AW.regdL [0, 1, 20] [[], [], [0, 1], [0, 1, 2], [0, 1, 2, 3], [0, 1, 2, 3, 4], [0, 1, 2, 3, 4, 5], [0, 1, 2, 3, 4, 5, 6], [0, 1, 2, 3, 4, 5, 6, 7], [0, 1, 2, 3, 4, 5, 6, 7, 8], [0, 1, 2, 3, 4], [0, 1, 2, 3, 4, 10], [0, 1, 2, 3, 4, 10, 11], [0, 1, 2, 3, 4, 10, 11, 12], [0, 1, 2, 3, 4, 5, 6, 7, 8, 9, 10, 11, 12, 13], [0, 1, 2, 3, 4, 5, 6, 7, 8, 9, 10, 11, 12, 13, 14]] [0, 1, 2, 3, 4, 5, 6, 7, 8, 9, 10, 11, 12, 13, 14, 15] noFt (fun _ _ _ h => by simp [noFt] at h) draws (by kernel_rfl) (by kernel_rfl) ?_
    generalize hK : AW Try.prog _ _ _ = K
    simp only [go_sem, ↓reduceIte, reduceCtorEq, Nat.reduceAdd, Nat.reduceSub, Nat.reduceMul, Nat.reduceEqDiff, Nat.reduceLT, Nat.reduceLeDiff, Nat.reduceBEq, Int.reduceAdd, Int.reduceSub, Int.reduceLT, Int.reduceLE, Int.reduceEq, Int.reduceToNat, c5]
    refine adN.ic (ok81 a0 a1 x4 hx4) Try.call81 callV_fn [0, 1] rfl (by decide) (by simp) (by simp) (by simp) (by simp) (.cons (.tok (by simp [tokL, tokLL, inlR]) (by first | rfl | simp [upd_ap, hpL_ap, sg_ap, mapT, mapTL])) (.cons (.eq (by simp only [go_sem]) (by first | rfl | simp [upd_ap, hpL_ap, sg_ap])) (.nil _))) (by simp only [List.nil_append, List.append_nil, List.cons_append, List.map_cons, List.map_nil, evF_tmp, evF_const, upd_ap, Nat.reduceEqDiff, if_true, if_false, ↓reduceIte, mapTL_cons, mapTL_nil, mapT_ptr, mapT_own, mapT_val, mapT_sl, mapT_agg, mapT_ip, sg_ap, List.getD_cons_zero, List.getD_cons_succ]; exact (.cons (.of rfl) (.cons (.of rfl) .nil))) (by simp only [go_sem, List.length_cons, List.length_nil, Nat.reduceAdd, Nat.reduceLT, decide_true]) (by simp [AObj.isMut]) (by simp [go_sem]) (by simp [go_sem]) ?_
    simp only [go_sem, ↓reduceIte, reduceCtorEq, Nat.reduceAdd, Nat.reduceSub, Nat.reduceMul, Nat.reduceEqDiff, Nat.reduceLT, Nat.reduceLeDiff, Nat.reduceBEq, Int.reduceAdd, Int.reduceSub, Int.reduceLT, Int.reduceLE, Int.reduceEq, Int.reduceToNat, c5]
    subst hK
    refine AW.ifBT rfl rfl ?_
    refine AW.regL [4] ?_
    generalize hK : AW Try.prog _ _ _ = K
    simp only [go_sem, ↓reduceIte, reduceCtorEq, Nat.reduceAdd, Nat.reduceSub, Nat.reduceMul, Nat.reduceEqDiff, Nat.reduceLT, Nat.reduceLeDiff, Nat.reduceBEq, Int.reduceAdd, Int.reduceSub, Int.reduceLT, Int.reduceLE, Int.reduceEq, Int.reduceToNat, c5]
    subst hK
    refine AW.ent (st' := ⟨(upd anyF 4 (.val (.bool false))), hpL [some (.row 14 true [[.val (.int .i64 x4.2.nodes), .val (.int .i64 x4.2.most), .val (.bool x4.2.down.e0), .val (.bool x4.2.down.e1), .val (.bool x4.2.down.e2), .val (.bool x4.2.down.e3), .val (.bool x4.2.down.e4), .val (.bool x4.2.down.e5), .val (.bool x4.2.down.e6), .val (.bool x4.2.down.e7), .own 8 0 x4.2.l.length, .val (.int .i64 x4.2.sent), .val (.int .i64 x4.2.taken), .val (.int .i64 x4.2.lost)]])] [some (.row 3 true (List.map encMsg x4.2.l))], 9⟩) ?_ ?_
    · refine Ent.can [1] _ _ _ rfl (by first | decide | simp) rfl ?_ ?_ ?_
      · exact (RF.any.pv (by first | rfl | simp only [go_sem]) (by first | rfl | simp [upd_ap, hpL_ap, tau, mapT, mapTL, bytesI_len, c5]))
      · exact .cons (.tok (by simp [tokL, tokLL, inlR]) (by first | rfl | simp [upd_ap, hpL_ap, tau, mapT, mapTL, bytesI_len, c5])) (.nil _)
      · exact .cons (.eq (by first | rfl | simp only [go_sem]) (by first | rfl | simp [upd_ap, hpL_ap, tau, mapT, mapTL, bytesI_len, c5])) (.nil _)
    refine AW.ret ?_
    refine thenA_r ?_
    obtain rfl := Option.some.inj h
    exact ⟨rfl, rfl, _, rfl, by first | rfl | simp [resOf, upd_ap, bytesI_len]⟩
end Au
end Go.Proofs.Y1

set_option linter.all false
set_option maxRecDepth 8000
set_option maxHeartbeats 1000000
namespace Go.Proofs.Y1
open Go.Gm
namespace Au
noncomputable def f50 (a0 : Bag) (a1 : Int) : Option (Bool × Bag) := ((f85 a0 a1).bind fun x1 => (if x1.1 = true then ((guardO (0 ≤ a1 ∧ a1 < 8)).bind fun x3 => some (!(A8.get x1.2.down a1.toNat), x1.2)) else some (false, x1.2)))
theorem ok50 (a0 : Bag) (a1 : Int) (r : Bool × Bag) (h : f50 a0 a1 = some r) : IC Try.prog 50 [some (.row 14 true [[.val (.int .i64 a0.nodes), .val (.int .i64 a0.most), .val (.bool a0.down.e0), .val (.bool a0.down.e1), .val (.bool a0.down.e2), .val (.bool a0.down.e3), .val (.bool a0.down.e4), .val (.bool a0.down.e5), .val (.bool a0.down.e6), .val (.bool a0.down.e7), .own 1 0 a0.l.length, .val (.int .i64 a0.sent), .val (.int .i64 a0.taken), .val (.int .i64 a0.lost)]]), some (.row 3 true (List.map encMsg a0.l))] [.ptr 0 0 0, .val (.int .i64 a1)] (.val (.bool r.1)) [some (.row 14 true [[.val (.int .i64 r.2.nodes), .val (.int .i64 r.2.most), .val (.bool r.2.down.e0), .val (.bool r.2.down.e1), .val (.bool r.2.down.e2), .val (.bool r.2.down.e3), .val (.bool r.2.down.e4), .val (.bool r.2.down.e5), .val (.bool r.2.down.e6), .val (.bool r.2.down.e7), .own 1 0 r.2.l.length, .val (.int .i64 r.2.sent), .val (.int .i64 r.2.taken), .val (.int .i64 r.2.lost)]]), some (.row 3 true (List.map encMsg r.2.l))] [] := by
  rw [f50] at h
  refine ic_of (N := 21) (rs := [.tmp 4]) Try.func50 rfl rfl rfl (Nat.le_of_ble_eq_true rfl) ?_
  refine AW.regL [0, 1] ?_
  generalize hK : AW Try.prog _ _ _ = K
  simp only [go_sem, ↓reduceIte, reduceCtorEq, Nat.reduceAdd, Nat.reduceSub, Nat.reduceMul, Nat.reduceEqDiff, Nat.reduceLT, Nat.reduceLeDiff, Nat.reduceBEq, Int.reduceAdd, Int.reduceSub, Int.reduceLT, Int.reduceLE, Int.reduceEq, Int.reduceToNat]
  subst hK
  obtain ⟨x1, hx1, h⟩ := Option.bind_eq_some_iff.1 h
  by_cases c2 : x1.1 = true
  · rw [if_pos c2] at h
    obtain ⟨x3, hx3, h⟩ := Option.bind_eq_some_iff.1 h
    refine AW.regL [4] ?_
    generalize hK : AW Try.prog _ _ _ = K
    simp only [go_sem, ↓reduceIte, reduceCtorEq, Nat.reduceAdd, Nat.reduceSub, Nat.reduceMul, Nat.reduceEqDiff, Nat.reduceLT, Nat.reduceLeDiff, Nat.reduceBEq, Int.reduceAdd, Int.reduceSub, Int.reduceLT, Int.reduceLE, Int.reduceEq, Int.reduceToNat, c2, natOf_gd hx3, idx8 hx3, all8 (p := fun k => List.head? (List.drop (2 + k) ([.val (.int .i64 x1.2.nodes), .val (.int .i64 x1.2.most), .val (.bool x1.2.down.e0), .val (.bool x1.2.down.e1), .val (.bool x1.2.down.e2), .val (.bool x1.2.down.e3), .val (.bool x1.2.down.e4), .val (.bool x1.2.down.e5), .val (.bool x1.2.down.e6), .val (.bool x1.2.down.e7), .own 1 0 x1.2.l.length, .val (.int .i64 x1.2.sent), .val (.int .i64 x1.2.taken), .val (.int .i64 x1.2.lost)] : List AV)) = some (.val (.bool (A8.get x1.2.down k)))) rfl rfl rfl rfl rfl rfl rfl rfl (idx8 hx3)]
    refine arC.ok (CallOk.ic (us' := _) (ok85 a0 a1 x1 hx1) [0, 1] rfl (by decide) (by simp) (by simp) (by simp) (by simp) (.cons (.tok (by simp [tokL, tokLL, inlR]) (by first | rfl | simp [upd_ap, hpL_ap, sg_ap, mapT, mapTL])) (.cons (.eq (by simp only [go_sem]) (by first | rfl | simp [upd_ap, hpL_ap, sg_ap])) (.nil _))) (by simp only [mapTL_cons, mapTL_nil, mapT_ptr, mapT_own, mapT_val, mapT_sl, mapT_agg, mapT_ip, sg_ap, List.getD_cons_zero, List.getD_cons_succ]; exact (.cons (.of rfl) (.cons (.of rfl) .nil))) (by simp only [go_sem, List.length_cons, List.length_nil, Nat.reduceAdd, Nat.reduceLT, decide_true]) (by simp [AObj.isMut]) (by simp [go_sem]) (by simp [go_sem])) Try.call85 ?_
    simp only [go_sem, ↓reduceIte, reduceCtorEq, Nat.reduceAdd, Nat.reduceSub, Nat.reduceMul, Nat.reduceEqDiff, Nat.reduceLT, Nat.reduceLeDiff, Nat.reduceBEq, Int.reduceAdd, Int.reduceSub, Int.reduceLT, Int.reduceLE, Int.reduceEq, Int.reduceToNat, c2, natOf_gd hx3, idx8 hx3, all8 (p := fun k => List.head? (List.drop (2 + k) ([.val (.int .i64 x1.2.nodes), .val (.int .i64 x1.2.most), .val (.bool x1.2.down.e0), .val (.bool x1.2.down.e1), .val (.bool x1.2.down.e2), .val (.bool x1.2.down.e3), .val (.bool x1.2.down.e4), .val (.bool x1.2.down.e5), .val (.bool x1.2.down.e6), .val (.bool x1.2.down.e7), .own 1 0 x1.2.l.length, .val (.int .i64 x1.2.sent), .val (.int .i64 x1.2.taken), .val (.int .i64 x1.2.lost)] : List AV)) = some (.val (.bool (A8.get x1.2.down k)))) rfl rfl rfl rfl rfl rfl rfl rfl (idx8 hx3)]
    subst hK
    refine AW.ent (st' := ⟨(upd anyF 4 (.val (.bool (!(A8.get x1.2.down a1.toNat))))), hpL [some (.row 14 true [[.val (.int .i64 x1.2.nodes), .val (.int .i64 x1.2.most), .val (.bool x1.2.down.e0), .val (.bool x1.2.down.e1), .val (.bool x1.2.down.e2), .val (.bool x1.2.down.e3), .val (.bool x1.2.down.e4), .val (.bool x1.2.down.e5), .val (.bool x1.2.down.e6), .val (.bool x1.2.down.e7), .own 1 0 x1.2.l.length, .val (.int .i64 x1.2.sent), .val (.int .i64 x1.2.taken), .val (.int .i64 x1.2.lost)]]), some (.row 3 true (List.map encMsg x1.2.l))] [], 8⟩) ?_ ?_
    · refine Ent.can [] _ _ _ rfl (by first | decide | simp) rfl ?_ ?_ ?_
      · exact (RF.any.pv (by first | rfl | simp only [go_sem]) (by first | rfl | simp [upd_ap, hpL_ap, tau, mapT, mapTL, bytesI_len, c2]))
      · exact .cons (.tok (by simp [tokL, tokLL, inlR]) (by first | rfl | simp [upd_ap, hpL_ap, tau, mapT, mapTL, bytesI_len, c2])) (.cons (.eq (by first | rfl | simp only [go_sem]) (by first | rfl | simp [upd_ap, hpL_ap, tau, mapT, mapTL, bytesI_len, c2])) (.nil _))
      · exact .nil _
    refine AW.ret ?_
    obtain rfl := Option.some.inj h
    exact ⟨rfl, rfl, _, rfl, by first | rfl | simp [resOf, upd_ap, bytesI_len]⟩
  · rw [if_neg c2] at h
    rw [Bool.not_eq_true] at c2
    refine AW.regL [4] ?_
    generalize hK : AW Try.prog _ _ _ = K
    simp only [go_sem, ↓reduceIte, reduceCtorEq, Nat.reduceAdd, Nat.reduceSub, Nat.reduceMul, Nat.reduceEqDiff, Nat.reduceLT, Nat.reduceLeDiff, Nat.reduceBEq, Int.reduceAdd, Int.reduceSub, Int.reduceLT, Int.reduceLE, Int.reduceEq, Int.reduceToNat, c2]
    refine arC.ok (CallOk.ic (us' := _) (ok85 a0 a1 x1 hx1) [0, 1] rfl (by decide) (by simp) (by simp) (by simp) (by simp) (.cons (.tok (by simp [tokL, tokLL, inlR]) (by first | rfl | simp [upd_ap, hpL_ap, sg_ap, mapT, mapTL])) (.cons (.eq (by simp only [go_sem]) (by first | rfl | simp [upd_ap, hpL_ap, sg_ap])) (.nil _))) (by simp only [mapTL_cons, mapTL_nil, mapT_ptr, mapT_own, mapT_val, mapT_sl, mapT_agg, mapT_ip, sg_ap, List.getD_cons_zero, List.getD_cons_succ]; exact (.cons (.of rfl) (.cons (.of rfl) .nil))) (by simp only [go_sem, List.length_cons, List.length_nil, Nat.reduceAdd, Nat.reduceLT, decide_true]) (by simp [AObj.isMut]) (by simp [go_sem]) (by simp [go_sem])) Try.call85 ?_
    simp only [go_sem, ↓reduceIte, reduceCtorEq, Nat.reduceAdd, Nat.reduceSub, Nat.reduceMul, Nat.reduceEqDiff, Nat.reduceLT, Nat.reduceLeDiff, Nat.reduceBEq, Int.reduceAdd, Int.reduceSub, Int.reduceLT, Int.reduceLE, Int.reduceEq, Int.reduceToNat, c2]
    subst hK
    refine AW.ent (st' := ⟨(upd anyF 4 (.val (.bool false))), hpL [some (.row 14 true [[.val (.int .i64 x1.2.nodes), .val (.int .i64 x1.2.most), .val (.bool x1.2.down.e0), .val (.bool x1.2.down.e1), .val (.bool x1.2.down.e2), .val (.bool x1.2.down.e3), .val (.bool x1.2.down.e4), .val (.bool x1.2.down.e5), .val (.bool x1.2.down.e6), .val (.bool x1.2.down.e7), .own 1 0 x1.2.l.length, .val (.int .i64 x1.2.sent), .val (.int .i64 x1.2.taken), .val (.int .i64 x1.2.lost)]]), some (.row 3 true (List.map encMsg x1.2.l))] [], 8⟩) ?_ ?_
    · refine Ent.can [] _ _ _ rfl (by first | decide | simp) rfl ?_ ?_ ?_
      · exact (RF.any.pv (by first | rfl | simp only [go_sem]) (by first | rfl | simp [upd_ap, hpL_ap, tau, mapT, mapTL, bytesI_len, c2]))
      · exact .cons (.tok (by simp [tokL, tokLL, inlR]) (by first | rfl | simp [upd_ap, hpL_ap, tau, mapT, mapTL, bytesI_len, c2])) (.cons (.eq (by first | rfl | simp only [go_sem]) (by first | rfl | simp [upd_ap, hpL_ap, tau, mapT, mapTL, bytesI_len, c2])) (.nil _))
      · exact .nil _
    refine AW.ret ?_
    obtain rfl := Option.some.inj h
    exact ⟨rfl, rfl, _, rfl, by first | rfl | simp [resOf, upd_ap, bytesI_len]⟩
end Au
end Go.Proofs.Y1

set_option linter.all false
set_option maxRecDepth 8000
set_option maxHeartbeats 1000000
namespace Go.Proofs.Y1
open Go.Gm
namespace Au
noncomputable def f35 (a0 : Bag) (a1 : Int) : Option (Msg × Bool × Bag) := ((f81 a0 a1).bind fun x3 => (if x3.1 = true then ((f82 x3.2 a1).bind fun x5 => ((f50 x5.2 x5.1.To).bind fun x8 => (if x8.1 = true then some (x5.1, true, ⟨x8.2.nodes, x8.2.most, x8.2.down, x8.2.l, x8.2.sent, IntKind.i64.wrap (x8.2.taken + 1), x8.2.lost⟩) else some (⟨0, 0, []⟩, false, ⟨x8.2.nodes, x8.2.most, x8.2.down, x8.2.l, x8.2.sent, x8.2.taken, IntKind.i64.wrap (x8.2.lost + 1)⟩)))) else some (⟨0, 0, []⟩, false, x3.2)))
theorem ok35 (a0 : Bag) (a1 : Int) (r : Msg × Bool × Bag) (h : f35 a0 a1 = some r) : IC Try.prog 35 [some (.row 14 true [[.val (.int .i64 a0.nodes), .val (.int .i64 a0.most), .val (.bool a0.down.e0), .val (.bool a0.down.e1), .val (.bool a0.down.e2), .val (.bool a0.down.e3), .val (.bool a0.down.e4), .val (.bool a0.down.e5), .val (.bool a0.down.e6), .val (.bool a0.down.e7), .own 1 0 a0.l.length, .val (.int .i64 a0.sent), .val (.int .i64 a0.taken), .val (.int .i64 a0.lost)]]), some (.row 3 true (List.map encMsg a0.l))] [.ptr 0 0 0, .val (.int .i64 a1)] (.tup [.agg (encMsg r.1), .val (.bool r.2.1)]) [some (.row 14 true [[.val (.int .i64 r.2.2.nodes), .val (.int .i64 r.2.2.most), .val (.bool r.2.2.down.e0), .val (.bool r.2.2.down.e1), .val (.bool r.2.2.down.e2), .val (.bool r.2.2.down.e3), .val (.bool r.2.2.down.e4), .val (.bool r.2.2.down.e5), .val (.bool r.2.2.down.e6), .val (.bool r.2.2.down.e7), .own 1 0 r.2.2.l.length, .val (.int .i64 r.2.2.sent), .val (.int .i64 r.2.2.taken), .val (.int .i64 r.2.2.lost)]]), some (.row 3 true (List.map encMsg r.2.2.l))] [some (.row 3 true [encMsg r.1])] := by
  rw [f35] at h
  refine ic_of (N := 36) (rs := [.cell 4 64, .tmp 5]) Try.func35 rfl rfl rfl (Nat.le_of_ble_eq_true rfl) ?_
  refine AW.regL [0, 1, 4] ?_
  generalize hK : AW Try.prog _ _ _ = K
  simp only [go_sem, ↓reduceIte, reduceCtorEq, Nat.reduceAdd, Nat.reduceSub, Nat.reduceMul, Nat.reduceEqDiff, Nat.reduceLT, Nat.reduceLeDiff, Nat.reduceBEq, Int.reduceAdd, Int.reduceSub, Int.reduceLT, Int.reduceLE, Int.reduceEq, Int.reduceToNat]
  subst hK
  refine AW.seq ?_
  obtain ⟨x3, hx3, h⟩ := Option.bind_eq_some_iff.1 h
  refine AW.regL [0, 1, 4, 10] ?_
  generalize hK : AW Try.prog _ _ _ = K
  simp only [go_sem, ↓reduceIte, reduceCtorEq, Nat.reduceAdd, Nat.reduceSub, Nat.reduceMul, Nat.reduceEqDiff, Nat.reduceLT, Nat.reduceLeDiff, Nat.reduceBEq, Int.reduceAdd, Int.reduceSub, Int.reduceLT, Int.reduceLE, Int.reduceEq, Int.reduceToNat]
  refine arC.ok (CallOk.ic (us' := _) (ok81 a0 a1 x3 hx3) [0, 1] rfl (by decide) (by simp) (by simp) (by simp) (by simp) (.cons (.tok (by simp [tokL, tokLL, inlR]) (by first | rfl | simp [upd_ap, hpL_ap, sg_ap, mapT, mapTL])) (.cons (.eq (by simp only [go_sem]) (by first | rfl | simp [upd_ap, hpL_ap, sg_ap])) (.nil _))) (by simp only [mapTL_cons, mapTL_nil, mapT_ptr, mapT_own, mapT_val, mapT_sl, mapT_agg, mapT_ip, sg_ap, List.getD_cons_zero, List.getD_cons_succ]; exact (.cons (.of rfl) (.cons (.of rfl) .nil))) (by simp only [go_sem, List.length_cons, List.length_nil, Nat.reduceAdd, Nat.reduceLT, decide_true]) (by simp [AObj.isMut]) (by simp [go_sem]) (by simp [go_sem])) Try.call81 ?_
  simp only [go_sem, ↓reduceIte, reduceCtorEq, Nat.reduceAdd, Nat.reduceSub, Nat.reduceMul, Nat.reduceEqDiff, Nat.reduceLT, Nat.reduceLeDiff, Nat.reduceBEq, Int.reduceAdd, Int.reduceSub, Int.reduceLT, Int.reduceLE, Int.reduceEq, Int.reduceToNat]
  subst hK
  by_cases c4 : x3.1 = true
  · rw [if_pos c4] at h
    refine AW.ifBF rfl (by rw [c4]; rfl) ?_
    refine AW.skip ?_
    refine thenA_n ?_
    obtain ⟨x5, hx5, h⟩ := Option.bind_eq_some_iff.1 h
    refine AW.regL [0, 4, 6] ?_
    generalize hK : AW Try.prog _ _ _ = K
    simp only [go_sem, ↓reduceIte, reduceCtorEq, Nat.reduceAdd, Nat.reduceSub, Nat.reduceMul, Nat.reduceEqDiff, Nat.reduceLT, Nat.reduceLeDiff, Nat.reduceBEq, Int.reduceAdd, Int.reduceSub, Int.reduceLT, Int.reduceLE, Int.reduceEq, Int.reduceToNat, c4]
    refine arC.ok (CallOk.ic (us' := _) (ok82 x3.2 a1 x5 hx5) [0, 1] rfl (by decide) (by simp) (by simp) (by simp) (by simp) (.cons (.tok (by simp [tokL, tokLL, inlR]) (by first | rfl | simp [upd_ap, hpL_ap, sg_ap, mapT, mapTL])) (.cons (.eq (by simp only [go_sem]) (by first | rfl | simp [upd_ap, hpL_ap, sg_ap])) (.nil _))) (by simp only [mapTL_cons, mapTL_nil, mapT_ptr, mapT_own, mapT_val, mapT_sl, mapT_agg, mapT_ip, sg_ap, List.getD_cons_zero, List.getD_cons_succ]; exact (.cons (.of rfl) (.cons (.of rfl) .nil))) (by simp only [go_sem, List.length_cons, List.length_nil, Nat.reduceAdd, Nat.reduceLT, decide_true]) (by simp [AObj.isMut]) (by simp [go_sem]) (by simp [go_sem])) Try.call82 ?_
    simp only [go_sem, ↓reduceIte, reduceCtorEq, Nat.reduceAdd, Nat.reduceSub, Nat.reduceMul, Nat.reduceEqDiff, Nat.reduceLT, Nat.reduceLeDiff, Nat.reduceBEq, Int.reduceAdd, Int.reduceSub, Int.reduceLT, Int.reduceLE, Int.reduceEq, Int.reduceToNat, c4]
    subst hK
    refine AW.seq ?_
    refine AW.ent (Ent.trim 1 (by first | rfl | simp [upd_ap, hpL_ap])) ?_
    obtain ⟨x8, hx8, h⟩ := Option.bind_eq_some_iff.1 h
    refine AW.regL [0, 4, 6, 19] ?_
    generalize hK : AW Try.prog _ _ _ = K
    simp only [go_sem, ↓reduceIte, reduceCtorEq, Nat.reduceAdd, Nat.reduceSub, Nat.reduceMul, Nat.reduceEqDiff, Nat.reduceLT, Nat.reduceLeDiff, Nat.reduceBEq, Int.reduceAdd, Int.reduceSub, Int.reduceLT, Int.reduceLE, Int.reduceEq, Int.reduceToNat, c4]
    refine arC.ok (CallOk.ic (us' := _) (ok50 x5.2 x5.1.To x8 hx8) [0, 1] rfl (by decide) (by simp) (by simp) (by simp) (by simp) (.cons (.tok (by simp [tokL, tokLL, inlR]) (by first | rfl | simp [upd_ap, hpL_ap, sg_ap, mapT, mapTL])) (.cons (.eq (by simp only [go_sem]) (by first | rfl | simp [upd_ap, hpL_ap, sg_ap])) (.nil _))) (by simp only [mapTL_cons, mapTL_nil, mapT_ptr, mapT_own, mapT_val, mapT_sl, mapT_agg, mapT_ip, sg_ap, List.getD_cons_zero, List.getD_cons_succ]; exact (.cons (.of rfl) (.cons (.of rfl) .nil))) (by simp only [go_sem, List.length_cons, List.length_nil, Nat.reduceAdd, Nat.reduceLT, decide_true]) (by simp [AObj.isMut]) (by simp [go_sem]) (by simp [go_sem])) Try.call50 ?_
    simp only [go_sem, ↓reduceIte, reduceCtorEq, Nat.reduceAdd, Nat.reduceSub, Nat.reduceMul, Nat.reduceEqDiff, Nat.reduceLT, Nat.reduceLeDiff, Nat.reduceBEq, Int.reduceAdd, Int.reduceSub, Int.reduceLT, Int.reduceLE, Int.reduceEq, Int.reduceToNat, c4]
    subst hK
    by_cases c9 : x8.1 = true
    · rw [if_pos c9] at h
      refine AW.ifBF rfl (by rw [c9]; rfl) ?_
      refine AW.skip ?_
      refine thenA_n ?_
      refine AW.regL [4, 6] ?_
      generalize hK : AW Try.prog _ _ _ = K
      simp only [go_sem, ↓reduceIte, reduceCtorEq, Nat.reduceAdd, Nat.reduceSub, Nat.reduceMul, Nat.reduceEqDiff, Nat.reduceLT, Nat.reduceLeDiff, Nat.reduceBEq, Int.reduceAdd, Int.reduceSub, Int.reduceLT, Int.reduceLE, Int.reduceEq, Int.reduceToNat, c4, c9]
      subst hK
      refine AW.regL [4, 5] ?_
      generalize hK : AW Try.prog _ _ _ = K
      simp only [go_sem, ↓reduceIte, reduceCtorEq, Nat.reduceAdd, Nat.reduceSub, Nat.reduceMul, Nat.reduceEqDiff, Nat.reduceLT, Nat.reduceLeDiff, Nat.reduceBEq, Int.reduceAdd, Int.reduceSub, Int.reduceLT, Int.reduceLE, Int.reduceEq, Int.reduceToNat, c4, c9]
      subst hK
      refine AW.ent (st' := ⟨(upd (upd anyF 4 (.ptr 8 0 0)) 5 (.val (.bool true))), hpL [some (.row 14 true [[.val (.int .i64 x8.2.nodes), .val (.int .i64 x8.2.most), .val (.bool x8.2.down.e0), .val (.bool x8.2.down.e1), .val (.bool x8.2.down.e2), .val (.bool x8.2.down.e3), .val (.bool x8.2.down.e4), .val (.bool x8.2.down.e5), .val (.bool x8.2.down.e6), .val (.bool x8.2.down.e7), .own 1 0 x8.2.l.length, .val (.int .i64 x8.2.sent), .val (.int .i64 (IntKind.i64.wrap (x8.2.taken + 1))), .val (.int .i64 x8.2.lost)]]), some (.row 3 true (List.map encMsg x8.2.l))] [some (.row 3 true [[.val (.int .i64 x5.1.From), .val (.int .i64 x5.1.To), .sl (List.map enc5 x5.1.Data)]])], 9⟩) ?_ ?_
      · refine Ent.can [8] _ _ _ rfl (by first | decide | simp) rfl ?_ ?_ ?_
        · exact ((RF.any.pp (by decide) (by first | rfl | simp [upd_ap, hpL_ap, tau, mapT, mapTL, bytesI_len, c4, c9])).pv (by first | rfl | simp only [go_sem]) (by first | rfl | simp [upd_ap, hpL_ap, tau, mapT, mapTL, bytesI_len, c4, c9]))
        · exact .cons (.tok (by simp [tokL, tokLL, inlR]) (by first | rfl | simp [upd_ap, hpL_ap, tau, mapT, mapTL, bytesI_len, c4, c9])) (.cons (.eq (by first | rfl | simp only [go_sem]) (by first | rfl | simp [upd_ap, hpL_ap, tau, mapT, mapTL, bytesI_len, c4, c9])) (.nil _))
        · exact .cons (.eq (by first | rfl | simp only [go_sem]) (by first | rfl | simp [upd_ap, hpL_ap, tau, mapT, mapTL, bytesI_len, c4, c9])) (.nil _)
      refine AW.ret ?_
      obtain rfl := Option.some.inj h
      exact ⟨rfl, rfl, _, rfl, by first | rfl | simp [resOf, upd_ap, bytesI_len]⟩
    · rw [if_neg c9] at h
      rw [Bool.not_eq_true] at c9
      refine AW.ifBT rfl (by rw [c9]; rfl) ?_
      refine AW.regL [4] ?_
      generalize hK : AW Try.prog _ _ _ = K
      simp only [go_sem, ↓reduceIte, reduceCtorEq, Nat.reduceAdd, Nat.reduceSub, Nat.reduceMul, Nat.reduceEqDiff, Nat.reduceLT, Nat.reduceLeDiff, Nat.reduceBEq, Int.reduceAdd, Int.reduceSub, Int.reduceLT, Int.reduceLE, Int.reduceEq, Int.reduceToNat, c4, c9]
      subst hK
      refine AW.regL [4, 5] ?_
      generalize hK : AW Try.prog _ _ _ = K
      simp only [go_sem, ↓reduceIte, reduceCtorEq, Nat.reduceAdd, Nat.reduceSub, Nat.reduceMul, Nat.reduceEqDiff, Nat.reduceLT, Nat.reduceLeDiff, Nat.reduceBEq, Int.reduceAdd, Int.reduceSub, Int.reduceLT, Int.reduceLE, Int.reduceEq, Int.reduceToNat, c4, c9]
      subst hK
      refine AW.ent (Ent.weakObj 8 rfl rfl (.cons (.of rfl) (.cons (.of rfl) (.cons Weak.nil WeakL.nil)))) ?_
      refine AW.ent (st' := ⟨(upd (upd anyF 4 (.ptr 8 0 0)) 5 (.val (.bool false))), hpL [some (.row 14 true [[.val (.int .i64 x8.2.nodes), .val (.int .i64 x8.2.most), .val (.bool x8.2.down.e0), .val (.bool x8.2.down.e1), .val (.bool x8.2.down.e2), .val (.bool x8.2.down.e3), .val (.bool x8.2.down.e4), .val (.bool x8.2.down.e5), .val (.bool x8.2.down.e6), .val (.bool x8.2.down.e7), .own 1 0 x8.2.l.length, .val (.int .i64 x8.2.sent), .val (.int .i64 x8.2.taken), .val (.int .i64 (IntKind.i64.wrap (x8.2.lost + 1)))]]), some (.row 3 true (List.map encMsg x8.2.l))] [some (.row 3 true [[.val (.int .i64 0), .val (.int .i64 0), .sl []]])], 9⟩) ?_ ?_
      · refine Ent.can [8] _ _ _ rfl (by first | decide | simp) rfl ?_ ?_ ?_
        · exact ((RF.any.pp (by decide) (by first | rfl | simp [upd_ap, hpL_ap, tau, mapT, mapTL, bytesI_len, c4, c9])).pv (by first | rfl | simp only [go_sem]) (by first | rfl | simp [upd_ap, hpL_ap, tau, mapT, mapTL, bytesI_len, c4, c9]))
        · exact .cons (.tok (by simp [tokL, tokLL, inlR]) (by first | rfl | simp [upd_ap, hpL_ap, tau, mapT, mapTL, bytesI_len, c4, c9])) (.cons (.eq (by first | rfl | simp only [go_sem]) (by first | rfl | simp [upd_ap, hpL_ap, tau, mapT, mapTL, bytesI_len, c4, c9])) (.nil _))
        · exact .cons (.eq (by first | rfl | simp only [go_sem]) (by first | rfl | simp [upd_ap, hpL_ap, tau, mapT, mapTL, bytesI_len, c4, c9])) (.nil _)
      refine AW.ret ?_
      refine thenA_r ?_
      obtain rfl := Option.some.inj h
      exact ⟨rfl, rfl, _, rfl, by first | rfl | simp [resOf, upd_ap, bytesI_len]⟩
  · rw [if_neg c4] at h
    rw [Bool.not_eq_true] at c4
    refine AW.ifBT rfl (by rw [c4]; rfl) ?_
    refine AW.regL [4, 5] ?_
    generalize hK : AW Try.prog _ _ _ = K
    simp only [go_sem, ↓reduceIte, reduceCtorEq, Nat.reduceAdd, Nat.reduceSub, Nat.reduceMul, Nat.reduceEqDiff, Nat.reduceLT, Nat.reduceLeDiff, Nat.reduceBEq, Int.reduceAdd, Int.reduceSub, Int.reduceLT, Int.reduceLE, Int.reduceEq, Int.reduceToNat, c4]
    subst hK
    refine AW.ent (Ent.weakObj 8 rfl rfl (.cons (.of rfl) (.cons (.of rfl) (.cons Weak.nil WeakL.nil)))) ?_
    refine AW.ent (st' := ⟨(upd (upd anyF 4 (.ptr 8 0 0)) 5 (.val (.bool false))), hpL [some (.row 14 true [[.val (.int .i64 x3.2.nodes), .val (.int .i64 x3.2.most), .val (.bool x3.2.down.e0), .val (.bool x3.2.down.e1), .val (.bool x3.2.down.e2), .val (.bool x3.2.down.e3), .val (.bool x3.2.down.e4), .val (.bool x3.2.down.e5), .val (.bool x3.2.down.e6), .val (.bool x3.2.down.e7), .own 1 0 x3.2.l.length, .val (.int .i64 x3.2.sent), .val (.int .i64 x3.2.taken), .val (.int .i64 x3.2.lost)]]), some (.row 3 true (List.map encMsg x3.2.l))] [some (.row 3 true [[.val (.int .i64 0), .val (.int .i64 0), .sl []]])], 9⟩) ?_ ?_
    · refine Ent.can [8] _ _ _ rfl (by first | decide | simp) rfl ?_ ?_ ?_
      · exact ((RF.any.pp (by decide) (by first | rfl | simp [upd_ap, hpL_ap, tau, mapT, mapTL, bytesI_len, c4])).pv (by first | rfl | simp only [go_sem]) (by first | rfl | simp [upd_ap, hpL_ap, tau, mapT, mapTL, bytesI_len, c4]))
      · exact .cons (.tok (by simp [tokL, tokLL, inlR]) (by first | rfl | simp [upd_ap, hpL_ap, tau, mapT, mapTL, bytesI_len, c4])) (.cons (.eq (by first | rfl | simp only [go_sem]) (by first | rfl | simp [upd_ap, hpL_ap, tau, mapT, mapTL, bytesI_len, c4])) (.nil _))
      · exact .cons (.eq (by first | rfl | simp only [go_sem]) (by first | rfl | simp [upd_ap, hpL_ap, tau, mapT, mapTL, bytesI_len, c4])) (.nil _)
    refine AW.ret ?_
    refine thenA_r ?_
    obtain rfl := Option.some.inj h
    exact ⟨rfl, rfl, _, rfl, by first | rfl | simp [resOf, upd_ap, bytesI_len]⟩
end Au
end Go.Proofs.Y1

set_option linter.all false
set_option maxRecDepth 8000
set_option maxHeartbeats 1000000
namespace Go.Proofs.Y1
open Go.Gm
namespace Au
noncomputable def f32 : Option Bool := ((f33 2 9).bind fun x1 => (match x1 with | (none, e2) => ((f34 e2).bind fun x6 => (if x6 = 0 then some false else some false)) | (some b3, e2) => ((f34 e2).bind fun x10 => (if x10 = 0 then ((f40 b3 0 1 [5]).bind fun x12 => ((f38 x12.2 0).bind fun x13 => ((f43 x13.2).bind fun x14 => ((f35 x14.2 1).bind fun x15 => ((f34 x12.1).bind fun x16 => (if x16 = 0 then (if x13.1 = true then (if x14.1 = 2 then (if x15.2.1 = true then (if x15.1.From = 0 then (if x15.1.To = 1 then some (decide ((strOfNums x15.1.Data) = ⟨#[5]⟩)) else some false) else some false) else some false) else some false) else some false) else some false)))))) else some false))))
theorem ok32 (r : Bool) (h : f32 = some r) : PC Try.prog 32 [] (.val (.bool r)) := by
  rw [f32] at h
  refine pc_of8 (N := 60) (rs := [.tmp 0]) Try.func32 rfl rfl rfl (Nat.le_of_ble_eq_true rfl) ?_
  refine AW.regL [] ?_
  generalize hK : AW Try.prog _ _ _ = K
  simp only [go_sem, ↓reduceIte, reduceCtorEq, Nat.reduceAdd, Nat.reduceSub, Nat.reduceMul, Nat.reduceEqDiff, Nat.reduceLT, Nat.reduceLeDiff, Nat.reduceBEq, Int.reduceAdd, Int.reduceSub, Int.reduceLT, Int.reduceLE, Int.reduceEq, Int.reduceToNat]
  subst hK
  obtain ⟨x1, hx1, h⟩ := Option.bind_eq_some_iff.1 h
  obtain ⟨(_ | b3), e2⟩ := x1
  · dsimp only at h
    refine AW.regL [1, 2] ?_
    generalize hK : AW Try.prog _ _ _ = K
    simp only [go_sem, ↓reduceIte, reduceCtorEq, Nat.reduceAdd, Nat.reduceSub, Nat.reduceMul, Nat.reduceEqDiff, Nat.reduceLT, Nat.reduceLeDiff, Nat.reduceBEq, Int.reduceAdd, Int.reduceSub, Int.reduceLT, Int.reduceLE, Int.reduceEq, Int.reduceToNat]
    refine arC.ok (CallOk.ic (us' := _) (ok33 2 9 (none, e2) hx1) [] rfl (by decide) (by simp) (by simp) (by simp) (by simp) (.nil _) (by simp only [mapTL_cons, mapTL_nil, mapT_ptr, mapT_own, mapT_val, mapT_sl, mapT_agg, mapT_ip, sg_ap, List.getD_cons_zero, List.getD_cons_succ]; exact (.cons (.of rfl) (.cons (.of rfl) .nil))) (by simp only [go_sem, List.length_cons, List.length_nil, Nat.reduceAdd, Nat.reduceLT, decide_true]) (by simp [AObj.isMut]) (by simp [go_sem]) (by simp [go_sem])) Try.call33 ?_
    simp only [go_sem, ↓reduceIte, reduceCtorEq, Nat.reduceAdd, Nat.reduceSub, Nat.reduceMul, Nat.reduceEqDiff, Nat.reduceLT, Nat.reduceLeDiff, Nat.reduceBEq, Int.reduceAdd, Int.reduceSub, Int.reduceLT, Int.reduceLE, Int.reduceEq, Int.reduceToNat]
    subst hK
    refine AW.seq ?_
    obtain ⟨x6, hx6, h⟩ := Option.bind_eq_some_iff.1 h
    by_cases c7 : x6 = 0
    · rw [if_pos c7] at h
      refine AW.regL [1, 18] ?_
      generalize hK : AW Try.prog _ _ _ = K
      simp only [go_sem, ↓reduceIte, reduceCtorEq, Nat.reduceAdd, Nat.reduceSub, Nat.reduceMul, Nat.reduceEqDiff, Nat.reduceLT, Nat.reduceLeDiff, Nat.reduceBEq, Int.reduceAdd, Int.reduceSub, Int.reduceLT, Int.reduceLE, Int.reduceEq, Int.reduceToNat, eq_true c7]
      refine arC.of (ok34 e2 x6 hx6) Try.call34 ?_
      simp only [go_sem, ↓reduceIte, reduceCtorEq, Nat.reduceAdd, Nat.reduceSub, Nat.reduceMul, Nat.reduceEqDiff, Nat.reduceLT, Nat.reduceLeDiff, Nat.reduceBEq, Int.reduceAdd, Int.reduceSub, Int.reduceLT, Int.reduceLE, Int.reduceEq, Int.reduceToNat, eq_true c7]
      subst hK
      refine AW.ifBT rfl rfl ?_
      refine AW.regL [0] ?_
      generalize hK : AW Try.prog _ _ _ = K
      simp only [go_sem, ↓reduceIte, reduceCtorEq, Nat.reduceAdd, Nat.reduceSub, Nat.reduceMul, Nat.reduceEqDiff, Nat.reduceLT, Nat.reduceLeDiff, Nat.reduceBEq, Int.reduceAdd, Int.reduceSub, Int.reduceLT, Int.reduceLE, Int.reduceEq, Int.reduceToNat, eq_true c7]
      subst hK
      refine AW.ret ?_
      refine thenA_r ?_
      obtain rfl := Option.some.inj h
      (simp only [go_sem, ↓reduceIte, reduceCtorEq, Nat.reduceAdd, Nat.reduceSub, Nat.reduceMul, Nat.reduceEqDiff, Nat.reduceLT, Nat.reduceLeDiff, Nat.reduceBEq, Int.reduceAdd, Int.reduceSub, Int.reduceLT, Int.reduceLE, Int.reduceEq, Int.reduceToNat, eq_true c7, finA, resA, resOf_1, resOf_2, sealV_val, sealV_sl, sealV_ip, sealV_agg, sealV_tup, sealV_own, sealL_nil, sealL_cons, sealV_clo, resOf_clo] <;> try simp)
    · rw [if_neg c7] at h
      refine AW.regL [1, 18] ?_
      generalize hK : AW Try.prog _ _ _ = K
      simp only [go_sem, ↓reduceIte, reduceCtorEq, Nat.reduceAdd, Nat.reduceSub, Nat.reduceMul, Nat.reduceEqDiff, Nat.reduceLT, Nat.reduceLeDiff, Nat.reduceBEq, Int.reduceAdd, Int.reduceSub, Int.reduceLT, Int.reduceLE, Int.reduceEq, Int.reduceToNat, eq_false c7]
      refine arC.of (ok34 e2 x6 hx6) Try.call34 ?_
      simp only [go_sem, ↓reduceIte, reduceCtorEq, Nat.reduceAdd, Nat.reduceSub, Nat.reduceMul, Nat.reduceEqDiff, Nat.reduceLT, Nat.reduceLeDiff, Nat.reduceBEq, Int.reduceAdd, Int.reduceSub, Int.reduceLT, Int.reduceLE, Int.reduceEq, Int.reduceToNat, eq_false c7]
      subst hK
      refine AW.ifBT rfl rfl ?_
      refine AW.regL [0] ?_
      generalize hK : AW Try.prog _ _ _ = K
      simp only [go_sem, ↓reduceIte, reduceCtorEq, Nat.reduceAdd, Nat.reduceSub, Nat.reduceMul, Nat.reduceEqDiff, Nat.reduceLT, Nat.reduceLeDiff, Nat.reduceBEq, Int.reduceAdd, Int.reduceSub, Int.reduceLT, Int.reduceLE, Int.reduceEq, Int.reduceToNat, eq_false c7]
      subst hK
      refine AW.ret ?_
      refine thenA_r ?_
      obtain rfl := Option.some.inj h
      (simp only [go_sem, ↓reduceIte, reduceCtorEq, Nat.reduceAdd, Nat.reduceSub, Nat.reduceMul, Nat.reduceEqDiff, Nat.reduceLT, Nat.reduceLeDiff, Nat.reduceBEq, Int.reduceAdd, Int.reduceSub, Int.reduceLT, Int.reduceLE, Int.reduceEq, Int.reduceToNat, eq_false c7, finA, resA, resOf_1, resOf_2, sealV_val, sealV_sl, sealV_ip, sealV_agg, sealV_tup, sealV_own, sealL_nil, sealL_cons, sealV_clo, resOf_clo] <;> try simp)
  · dsimp only at h
    refine AW.regL [1, 2] ?_
    generalize hK : AW Try.prog _ _ _ = K
    simp only [go_sem, ↓reduceIte, reduceCtorEq, Nat.reduceAdd, Nat.reduceSub, Nat.reduceMul, Nat.reduceEqDiff, Nat.reduceLT, Nat.reduceLeDiff, Nat.reduceBEq, Int.reduceAdd, Int.reduceSub, Int.reduceLT, Int.reduceLE, Int.reduceEq, Int.reduceToNat]
    refine arC.ok (CallOk.ic (us' := _) (ok33 2 9 (some b3, e2) hx1) [] rfl (by decide) (by simp) (by simp) (by simp) (by simp) (.nil _) (by simp only [mapTL_cons, mapTL_nil, mapT_ptr, mapT_own, mapT_val, mapT_sl, mapT_agg, mapT_ip, sg_ap, List.getD_cons_zero, List.getD_cons_succ]; exact (.cons (.of rfl) (.cons (.of rfl) .nil))) (by simp only [go_sem, List.length_cons, List.length_nil, Nat.reduceAdd, Nat.reduceLT, decide_true]) (by simp [AObj.isMut]) (by simp [go_sem]) (by simp [go_sem])) Try.call33 ?_
    simp only [go_sem, ↓reduceIte, reduceCtorEq, Nat.reduceAdd, Nat.reduceSub, Nat.reduceMul, Nat.reduceEqDiff, Nat.reduceLT, Nat.reduceLeDiff, Nat.reduceBEq, Int.reduceAdd, Int.reduceSub, Int.reduceLT, Int.reduceLE, Int.reduceEq, Int.reduceToNat]
    subst hK
    refine AW.seq ?_
    obtain ⟨x10, hx10, h⟩ := Option.bind_eq_some_iff.1 h
    by_cases c11 : x10 = 0
    · rw [if_pos c11] at h
      refine AW.regL [1, 18] ?_
      generalize hK : AW Try.prog _ _ _ = K
      simp only [go_sem, ↓reduceIte, reduceCtorEq, Nat.reduceAdd, Nat.reduceSub, Nat.reduceMul, Nat.reduceEqDiff, Nat.reduceLT, Nat.reduceLeDiff, Nat.reduceBEq, Int.reduceAdd, Int.reduceSub, Int.reduceLT, Int.reduceLE, Int.reduceEq, Int.reduceToNat, eq_true c11]
      refine arC.of (ok34 e2 x10 hx10) Try.call34 ?_
      simp only [go_sem, ↓reduceIte, reduceCtorEq, Nat.reduceAdd, Nat.reduceSub, Nat.reduceMul, Nat.reduceEqDiff, Nat.reduceLT, Nat.reduceLeDiff, Nat.reduceBEq, Int.reduceAdd, Int.reduceSub, Int.reduceLT, Int.reduceLE, Int.reduceEq, Int.reduceToNat, eq_true c11]
      subst hK
      refine AW.ifBF rfl rfl ?_
      refine AW.skip ?_
      refine thenA_n ?_
      obtain ⟨x12, hx12, h⟩ := Option.bind_eq_some_iff.1 h
      refine AW.regL [1, 3] ?_
      generalize hK : AW Try.prog _ _ _ = K
      simp only [go_sem, ↓reduceIte, reduceCtorEq, Nat.reduceAdd, Nat.reduceSub, Nat.reduceMul, Nat.reduceEqDiff, Nat.reduceLT, Nat.reduceLeDiff, Nat.reduceBEq, Int.reduceAdd, Int.reduceSub, Int.reduceLT, Int.reduceLE, Int.reduceEq, Int.reduceToNat, eq_true c11]
      refine arC.ok (CallOk.still (t := 128) (off := 0) (len := 1) (own_sl (sz := 1) (m := true) rfl (by first | rfl | simp [bytesI_len]) (by simp only [go_sem])) (.keep (.keep (.keep (.own .nil)))) (CallOk.ic (us' := _) (ok40 b3 0 1 [5] x12 hx12) [16, 17] rfl (by decide) (by simp) (by simp) (by simp) (by simp) (.cons (.tok (by simp [tokL, tokLL, inlR]) (by first | rfl | simp [upd_ap, hpL_ap, sg_ap, mapT, mapTL])) (.cons (.eq (by simp only [go_sem]) (by first | rfl | simp [upd_ap, hpL_ap, sg_ap])) (.nil _))) (by simp only [mapTL_cons, mapTL_nil, mapT_ptr, mapT_own, mapT_val, mapT_sl, mapT_agg, mapT_ip, sg_ap, List.getD_cons_zero, List.getD_cons_succ]; exact (.cons (.of rfl) (.cons (.of rfl) (.cons (.of rfl) (.cons (.of rfl) .nil))))) (by simp only [go_sem, List.length_cons, List.length_nil, Nat.reduceAdd, Nat.reduceLT, decide_true]) (by simp [AObj.isMut]) (by simp [go_sem]) (by simp [go_sem]))) Try.call40 ?_
      simp only [go_sem, ↓reduceIte, reduceCtorEq, Nat.reduceAdd, Nat.reduceSub, Nat.reduceMul, Nat.reduceEqDiff, Nat.reduceLT, Nat.reduceLeDiff, Nat.reduceBEq, Int.reduceAdd, Int.reduceSub, Int.reduceLT, Int.reduceLE, Int.reduceEq, Int.reduceToNat, eq_true c11]
      subst hK
      obtain ⟨x13, hx13, h⟩ := Option.bind_eq_some_iff.1 h
      refine AW.regL [1, 3, 4] ?_
      generalize hK : AW Try.prog _ _ _ = K
      simp only [go_sem, ↓reduceIte, reduceCtorEq, Nat.reduceAdd, Nat.reduceSub, Nat.reduceMul, Nat.reduceEqDiff, Nat.reduceLT, Nat.reduceLeDiff, Nat.reduceBEq, Int.reduceAdd, Int.reduceSub, Int.reduceLT, Int.reduceLE, Int.reduceEq, Int.reduceToNat, eq_true c11]
      refine arC.ok (CallOk.ic (us' := _) (ok38 x12.2 0 x13 hx13) [16, 136] rfl (by decide) (by simp) (by simp) (by simp) (by simp) (.cons (.tok (by simp [tokL, tokLL, inlR]) (by first | rfl | simp [upd_ap, hpL_ap, sg_ap, mapT, mapTL])) (.cons (.eq (by simp only [go_sem]) (by first | rfl | simp [upd_ap, hpL_ap, sg_ap])) (.nil _))) (by simp only [mapTL_cons, mapTL_nil, mapT_ptr, mapT_own, mapT_val, mapT_sl, mapT_agg, mapT_ip, sg_ap, List.getD_cons_zero, List.getD_cons_succ]; exact (.cons (.of rfl) (.cons (.of rfl) .nil))) (by simp only [go_sem, List.length_cons, List.length_nil, Nat.reduceAdd, Nat.reduceLT, decide_true]) (by simp [AObj.isMut]) (by simp [go_sem]) (by simp [go_sem])) Try.call38 ?_
      simp only [go_sem, ↓reduceIte, reduceCtorEq, Nat.reduceAdd, Nat.reduceSub, Nat.reduceMul, Nat.reduceEqDiff, Nat.reduceLT, Nat.reduceLeDiff, Nat.reduceBEq, Int.reduceAdd, Int.reduceSub, Int.reduceLT, Int.reduceLE, Int.reduceEq, Int.reduceToNat, eq_true c11]
      subst hK
      obtain ⟨x14, hx14, h⟩ := Option.bind_eq_some_iff.1 h
      refine AW.regL [1, 3, 4, 5] ?_
      generalize hK : AW Try.prog _ _ _ = K
      simp only [go_sem, ↓reduceIte, reduceCtorEq, Nat.reduceAdd, Nat.reduceSub, Nat.reduceMul, Nat.reduceEqDiff, Nat.reduceLT, Nat.reduceLeDiff, Nat.reduceBEq, Int.reduceAdd, Int.reduceSub, Int.reduceLT, Int.reduceLE, Int.reduceEq, Int.reduceToNat, eq_true c11]
      refine arC.ok (CallOk.ic (us' := _) (ok43 x13.2 x14 hx14) [16, 160] rfl (by decide) (by simp) (by simp) (by simp) (by simp) (.cons (.tok (by simp [tokL, tokLL, inlR]) (by first | rfl | simp [upd_ap, hpL_ap, sg_ap, mapT, mapTL])) (.cons (.eq (by simp only [go_sem]) (by first | rfl | simp [upd_ap, hpL_ap, sg_ap])) (.nil _))) (by simp only [mapTL_cons, mapTL_nil, mapT_ptr, mapT_own, mapT_val, mapT_sl, mapT_agg, mapT_ip, sg_ap, List.getD_cons_zero, List.getD_cons_succ]; exact (.cons (.of rfl) .nil)) (by simp only [go_sem, List.length_cons, List.length_nil, Nat.reduceAdd, Nat.reduceLT, decide_true]) (by simp [AObj.isMut]) (by simp [go_sem]) (by simp [go_sem])) Try.call43 ?_
      simp only [go_sem, ↓reduceIte, reduceCtorEq, Nat.reduceAdd, Nat.reduceSub, Nat.reduceMul, Nat.reduceEqDiff, Nat.reduceLT, Nat.reduceLeDiff, Nat.reduceBEq, Int.reduceAdd, Int.reduceSub, Int.reduceLT, Int.reduceLE, Int.reduceEq, Int.reduceToNat, eq_true c11]
      subst hK
      obtain ⟨x15, hx15, h⟩ := Option.bind_eq_some_iff.1 h
      refine AW.regL [3, 4, 5, 6, 7] ?_
      generalize hK : AW Try.prog _ _ _ = K
      simp only [go_sem, ↓reduceIte, reduceCtorEq, Nat.reduceAdd, Nat.reduceSub, Nat.reduceMul, Nat.reduceEqDiff, Nat.reduceLT, Nat.reduceLeDiff, Nat.reduceBEq, Int.reduceAdd, Int.reduceSub, Int.reduceLT, Int.reduceLE, Int.reduceEq, Int.reduceToNat, eq_true c11]
      refine arC.ok (CallOk.ic (us' := _) (ok35 x14.2 1 x15 hx15) [16, 160] rfl (by decide) (by simp) (by simp) (by simp) (by simp) (.cons (.tok (by simp [tokL, tokLL, inlR]) (by first | rfl | simp [upd_ap, hpL_ap, sg_ap, mapT, mapTL])) (.cons (.eq (by simp only [go_sem]) (by first | rfl | simp [upd_ap, hpL_ap, sg_ap])) (.nil _))) (by simp only [mapTL_cons, mapTL_nil, mapT_ptr, mapT_own, mapT_val, mapT_sl, mapT_agg, mapT_ip, sg_ap, List.getD_cons_zero, List.getD_cons_succ]; exact (.cons (.of rfl) (.cons (.of rfl) .nil))) (by simp only [go_sem, List.length_cons, List.length_nil, Nat.reduceAdd, Nat.reduceLT, decide_true]) (by simp [AObj.isMut]) (by simp [go_sem]) (by simp [go_sem])) Try.call35 ?_
      simp only [go_sem, ↓reduceIte, reduceCtorEq, Nat.reduceAdd, Nat.reduceSub, Nat.reduceMul, Nat.reduceEqDiff, Nat.reduceLT, Nat.reduceLeDiff, Nat.reduceBEq, Int.reduceAdd, Int.reduceSub, Int.reduceLT, Int.reduceLE, Int.reduceEq, Int.reduceToNat, eq_true c11]
      subst hK
      obtain ⟨x16, hx16, h⟩ := Option.bind_eq_some_iff.1 h
      by_cases c17 : x16 = 0
      · rw [if_pos c17] at h
        by_cases c18 : x13.1 = true
        · rw [if_pos c18] at h
          by_cases c19 : x14.1 = 2
          · rw [if_pos c19] at h
            by_cases c20 : x15.2.1 = true
            · rw [if_pos c20] at h
              by_cases c21 : x15.1.From = 0
              · rw [if_pos c21] at h
                by_cases c22 : x15.1.To = 1
                · rw [if_pos c22] at h
                  refine AW.regL [0] ?_
                  generalize hK : AW Try.prog _ _ _ = K
                  simp only [go_sem, ↓reduceIte, reduceCtorEq, Nat.reduceAdd, Nat.reduceSub, Nat.reduceMul, Nat.reduceEqDiff, Nat.reduceLT, Nat.reduceLeDiff, Nat.reduceBEq, Int.reduceAdd, Int.reduceSub, Int.reduceLT, Int.reduceLE, Int.reduceEq, Int.reduceToNat, eq_true c11, eq_true c17, c18, eq_true c19, c20, eq_true c21, eq_true c22, byteNums_map (enc := enc5) (fun _ => rfl)]
                  refine arC.of (ok34 x12.1 x16 hx16) Try.call34 ?_
                  simp only [go_sem, ↓reduceIte, reduceCtorEq, Nat.reduceAdd, Nat.reduceSub, Nat.reduceMul, Nat.reduceEqDiff, Nat.reduceLT, Nat.reduceLeDiff, Nat.reduceBEq, Int.reduceAdd, Int.reduceSub, Int.reduceLT, Int.reduceLE, Int.reduceEq, Int.reduceToNat, eq_true c11, eq_true c17, c18, eq_true c19, c20, eq_true c21, eq_true c22, byteNums_map (enc := enc5) (fun _ => rfl)]
                  subst hK
                  refine AW.ret ?_
                  obtain rfl := Option.some.inj h
                  (simp only [go_sem, ↓reduceIte, reduceCtorEq, Nat.reduceAdd, Nat.reduceSub, Nat.reduceMul, Nat.reduceEqDiff, Nat.reduceLT, Nat.reduceLeDiff, Nat.reduceBEq, Int.reduceAdd, Int.reduceSub, Int.reduceLT, Int.reduceLE, Int.reduceEq, Int.reduceToNat, eq_true c11, eq_true c17, c18, eq_true c19, c20, eq_true c21, eq_true c22, finA, resA, resOf_1, resOf_2, sealV_val, sealV_sl, sealV_ip, sealV_agg, sealV_tup, sealV_own, sealL_nil, sealL_cons, sealV_clo, resOf_clo] <;> try simp)
                · rw [if_neg c22] at h
                  refine AW.regL [0] ?_
                  generalize hK : AW Try.prog _ _ _ = K
                  simp only [go_sem, ↓reduceIte, reduceCtorEq, Nat.reduceAdd, Nat.reduceSub, Nat.reduceMul, Nat.reduceEqDiff, Nat.reduceLT, Nat.reduceLeDiff, Nat.reduceBEq, Int.reduceAdd, Int.reduceSub, Int.reduceLT, Int.reduceLE, Int.reduceEq, Int.reduceToNat, eq_true c11, eq_true c17, c18, eq_true c19, c20, eq_true c21, eq_false c22]
                  refine arC.of (ok34 x12.1 x16 hx16) Try.call34 ?_
                  simp only [go_sem, ↓reduceIte, reduceCtorEq, Nat.reduceAdd, Nat.reduceSub, Nat.reduceMul, Nat.reduceEqDiff, Nat.reduceLT, Nat.reduceLeDiff, Nat.reduceBEq, Int.reduceAdd, Int.reduceSub, Int.reduceLT, Int.reduceLE, Int.reduceEq, Int.reduceToNat, eq_true c11, eq_true c17, c18, eq_true c19, c20, eq_true c21, eq_false c22]
                  subst hK
                  refine AW.ret ?_
                  obtain rfl := Option.some.inj h
                  (simp only [go_sem, ↓reduceIte, reduceCtorEq, Nat.reduceAdd, Nat.reduceSub, Nat.reduceMul, Nat.reduceEqDiff, Nat.reduceLT, Nat.reduceLeDiff, Nat.reduceBEq, Int.reduceAdd, Int.reduceSub, Int.reduceLT, Int.reduceLE, Int.reduceEq, Int.reduceToNat, eq_true c11, eq_true c17, c18, eq_true c19, c20, eq_true c21, eq_false c22, finA, resA, resOf_1, resOf_2, sealV_val, sealV_sl, sealV_ip, sealV_agg, sealV_tup, sealV_own, sealL_nil, sealL_cons, sealV_clo, resOf_clo] <;> try simp)
              · rw [if_neg c21] at h
                refine AW.regL [0] ?_
                generalize hK : AW Try.prog _ _ _ = K
                simp only [go_sem, ↓reduceIte, reduceCtorEq, Nat.reduceAdd, Nat.reduceSub, Nat.reduceMul, Nat.reduceEqDiff, Nat.reduceLT, Nat.reduceLeDiff, Nat.reduceBEq, Int.reduceAdd, Int.reduceSub, Int.reduceLT, Int.reduceLE, Int.reduceEq, Int.reduceToNat, eq_true c11, eq_true c17, c18, eq_true c19, c20, eq_false c21]
                refine arC.of (ok34 x12.1 x16 hx16) Try.call34 ?_
                simp only [go_sem, ↓reduceIte, reduceCtorEq, Nat.reduceAdd, Nat.reduceSub, Nat.reduceMul, Nat.reduceEqDiff, Nat.reduceLT, Nat.reduceLeDiff, Nat.reduceBEq, Int.reduceAdd, Int.reduceSub, Int.reduceLT, Int.reduceLE, Int.reduceEq, Int.reduceToNat, eq_true c11, eq_true c17, c18, eq_true c19, c20, eq_false c21]
                subst hK
                refine AW.ret ?_
                obtain rfl := Option.some.inj h
                (simp only [go_sem, ↓reduceIte, reduceCtorEq, Nat.reduceAdd, Nat.reduceSub, Nat.reduceMul, Nat.reduceEqDiff, Nat.reduceLT, Nat.reduceLeDiff, Nat.reduceBEq, Int.reduceAdd, Int.reduceSub, Int.reduceLT, Int.reduceLE, Int.reduceEq, Int.reduceToNat, eq_true c11, eq_true c17, c18, eq_true c19, c20, eq_false c21, finA, resA, resOf_1, resOf_2, sealV_val, sealV_sl, sealV_ip, sealV_agg, sealV_tup, sealV_own, sealL_nil, sealL_cons, sealV_clo, resOf_clo] <;> try simp)
            · rw [if_neg c20] at h
              rw [Bool.not_eq_true] at c20
              refine AW.regL [0] ?_
              generalize hK : AW Try.prog _ _ _ = K
              simp only [go_sem, ↓reduceIte, reduceCtorEq, Nat.reduceAdd, Nat.reduceSub, Nat.reduceMul, Nat.reduceEqDiff, Nat.reduceLT, Nat.reduceLeDiff, Nat.reduceBEq, Int.reduceAdd, Int.reduceSub, Int.reduceLT, Int.reduceLE, Int.reduceEq, Int.reduceToNat, eq_true c11, eq_true c17, c18, eq_true c19, c20]
              refine arC.of (ok34 x12.1 x16 hx16) Try.call34 ?_
              simp only [go_sem, ↓reduceIte, reduceCtorEq, Nat.reduceAdd, Nat.reduceSub, Nat.reduceMul, Nat.reduceEqDiff, Nat.reduceLT, Nat.reduceLeDiff, Nat.reduceBEq, Int.reduceAdd, Int.reduceSub, Int.reduceLT, Int.reduceLE, Int.reduceEq, Int.reduceToNat, eq_true c11, eq_true c17, c18, eq_true c19, c20]
              subst hK
              refine AW.ret ?_
              obtain rfl := Option.some.inj h
              (simp only [go_sem, ↓reduceIte, reduceCtorEq, Nat.reduceAdd, Nat.reduceSub, Nat.reduceMul, Nat.reduceEqDiff, Nat.reduceLT, Nat.reduceLeDiff, Nat.reduceBEq, Int.reduceAdd, Int.reduceSub, Int.reduceLT, Int.reduceLE, Int.reduceEq, Int.reduceToNat, eq_true c11, eq_true c17, c18, eq_true c19, c20, finA, resA, resOf_1, resOf_2, sealV_val, sealV_sl, sealV_ip, sealV_agg, sealV_tup, sealV_own, sealL_nil, sealL_cons, sealV_clo, resOf_clo] <;> try simp)
          · rw [if_neg c19] at h
            refine AW.regL [0] ?_
            generalize hK : AW Try.prog _ _ _ = K
            simp only [go_sem, ↓reduceIte, reduceCtorEq, Nat.reduceAdd, Nat.reduceSub, Nat.reduceMul, Nat.reduceEqDiff, Nat.reduceLT, Nat.reduceLeDiff, Nat.reduceBEq, Int.reduceAdd, Int.reduceSub, Int.reduceLT, Int.reduceLE, Int.reduceEq, Int.reduceToNat, eq_true c11, eq_true c17, c18, eq_false c19]
            refine arC.of (ok34 x12.1 x16 hx16) Try.call34 ?_
            simp only [go_sem, ↓reduceIte, reduceCtorEq, Nat.reduceAdd, Nat.reduceSub, Nat.reduceMul, Nat.reduceEqDiff, Nat.reduceLT, Nat.reduceLeDiff, Nat.reduceBEq, Int.reduceAdd, Int.reduceSub, Int.reduceLT, Int.reduceLE, Int.reduceEq, Int.reduceToNat, eq_true c11, eq_true c17, c18, eq_false c19]
            subst hK
            refine AW.ret ?_
            obtain rfl := Option.some.inj h
            (simp only [go_sem, ↓reduceIte, reduceCtorEq, Nat.reduceAdd, Nat.reduceSub, Nat.reduceMul, Nat.reduceEqDiff, Nat.reduceLT, Nat.reduceLeDiff, Nat.reduceBEq, Int.reduceAdd, Int.reduceSub, Int.reduceLT, Int.reduceLE, Int.reduceEq, Int.reduceToNat, eq_true c11, eq_true c17, c18, eq_false c19, finA, resA, resOf_1, resOf_2, sealV_val, sealV_sl, sealV_ip, sealV_agg, sealV_tup, sealV_own, sealL_nil, sealL_cons, sealV_clo, resOf_clo] <;> try simp)
        · rw [if_neg c18] at h
          rw [Bool.not_eq_true] at c18
          refine AW.regL [0] ?_
          generalize hK : AW Try.prog _ _ _ = K
          simp only [go_sem, ↓reduceIte, reduceCtorEq, Nat.reduceAdd, Nat.reduceSub, Nat.reduceMul, Nat.reduceEqDiff, Nat.reduceLT, Nat.reduceLeDiff, Nat.reduceBEq, Int.reduceAdd, Int.reduceSub, Int.reduceLT, Int.reduceLE, Int.reduceEq, Int.reduceToNat, eq_true c11, eq_true c17, c18]
          refine arC.of (ok34 x12.1 x16 hx16) Try.call34 ?_
          simp only [go_sem, ↓reduceIte, reduceCtorEq, Nat.reduceAdd, Nat.reduceSub, Nat.reduceMul, Nat.reduceEqDiff, Nat.reduceLT, Nat.reduceLeDiff, Nat.reduceBEq, Int.reduceAdd, Int.reduceSub, Int.reduceLT, Int.reduceLE, Int.reduceEq, Int.reduceToNat, eq_true c11, eq_true c17, c18]
          subst hK
          refine AW.ret ?_
          obtain rfl := Option.some.inj h
          (simp only [go_sem, ↓reduceIte, reduceCtorEq, Nat.reduceAdd, Nat.reduceSub, Nat.reduceMul, Nat.reduceEqDiff, Nat.reduceLT, Nat.reduceLeDiff, Nat.reduceBEq, Int.reduceAdd, Int.reduceSub, Int.reduceLT, Int.reduceLE, Int.reduceEq, Int.reduceToNat, eq_true c11, eq_true c17, c18, finA, resA, resOf_1, resOf_2, sealV_val, sealV_sl, sealV_ip, sealV_agg, sealV_tup, sealV_own, sealL_nil, sealL_cons, sealV_clo, resOf_clo] <;> try simp)
      · rw [if_neg c17] at h
        refine AW.regL [0] ?_
        generalize hK : AW Try.prog _ _ _ = K
        simp only [go_sem, ↓reduceIte, reduceCtorEq, Nat.reduceAdd, Nat.reduceSub, Nat.reduceMul, Nat.reduceEqDiff, Nat.reduceLT, Nat.reduceLeDiff, Nat.reduceBEq, Int.reduceAdd, Int.reduceSub, Int.reduceLT, Int.reduceLE, Int.reduceEq, Int.reduceToNat, eq_true c11, eq_false c17]
        refine arC.of (ok34 x12.1 x16 hx16) Try.call34 ?_
        simp only [go_sem, ↓reduceIte, reduceCtorEq, Nat.reduceAdd, Nat.reduceSub, Nat.reduceMul, Nat.reduceEqDiff, Nat.reduceLT, Nat.reduceLeDiff, Nat.reduceBEq, Int.reduceAdd, Int.reduceSub, Int.reduceLT, Int.reduceLE, Int.reduceEq, Int.reduceToNat, eq_true c11, eq_false c17]
        subst hK
        refine AW.ret ?_
        obtain rfl := Option.some.inj h
        (simp only [go_sem, ↓reduceIte, reduceCtorEq, Nat.reduceAdd, Nat.reduceSub, Nat.reduceMul, Nat.reduceEqDiff, Nat.reduceLT, Nat.reduceLeDiff, Nat.reduceBEq, Int.reduceAdd, Int.reduceSub, Int.reduceLT, Int.reduceLE, Int.reduceEq, Int.reduceToNat, eq_true c11, eq_false c17, finA, resA, resOf_1, resOf_2, sealV_val, sealV_sl, sealV_ip, sealV_agg, sealV_tup, sealV_own, sealL_nil, sealL_cons, sealV_clo, resOf_clo] <;> try simp)
    · rw [if_neg c11] at h
      refine AW.regL [1, 18] ?_
      generalize hK : AW Try.prog _ _ _ = K
      simp only [go_sem, ↓reduceIte, reduceCtorEq, Nat.reduceAdd, Nat.reduceSub, Nat.reduceMul, Nat.reduceEqDiff, Nat.reduceLT, Nat.reduceLeDiff, Nat.reduceBEq, Int.reduceAdd, Int.reduceSub, Int.reduceLT, Int.reduceLE, Int.reduceEq, Int.reduceToNat, eq_false c11]
      refine arC.of (ok34 e2 x10 hx10) Try.call34 ?_
      simp only [go_sem, ↓reduceIte, reduceCtorEq, Nat.reduceAdd, Nat.reduceSub, Nat.reduceMul, Nat.reduceEqDiff, Nat.reduceLT, Nat.reduceLeDiff, Nat.reduceBEq, Int.reduceAdd, Int.reduceSub, Int.reduceLT, Int.reduceLE, Int.reduceEq, Int.reduceToNat, eq_false c11]
      subst hK
      refine AW.ifBT rfl rfl ?_
      refine AW.regL [0] ?_
      generalize hK : AW Try.prog _ _ _ = K
      simp only [go_sem, ↓reduceIte, reduceCtorEq, Nat.reduceAdd, Nat.reduceSub, Nat.reduceMul, Nat.reduceEqDiff, Nat.reduceLT, Nat.reduceLeDiff, Nat.reduceBEq, Int.reduceAdd, Int.reduceSub, Int.reduceLT, Int.reduceLE, Int.reduceEq, Int.reduceToNat, eq_false c11]
      subst hK
      refine AW.ret ?_
      refine thenA_r ?_
      obtain rfl := Option.some.inj h
      (simp only [go_sem, ↓reduceIte, reduceCtorEq, Nat.reduceAdd, Nat.reduceSub, Nat.reduceMul, Nat.reduceEqDiff, Nat.reduceLT, Nat.reduceLeDiff, Nat.reduceBEq, Int.reduceAdd, Int.reduceSub, Int.reduceLT, Int.reduceLE, Int.reduceEq, Int.reduceToNat, eq_false c11, finA, resA, resOf_1, resOf_2, sealV_val, sealV_sl, sealV_ip, sealV_agg, sealV_tup, sealV_own, sealL_nil, sealL_cons, sealV_clo, resOf_clo] <;> try simp)
end Au
end Go.Proofs.Y1
