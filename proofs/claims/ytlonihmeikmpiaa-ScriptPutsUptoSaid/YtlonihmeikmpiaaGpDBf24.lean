import Derived.Test.YtlonihmeikmpiaaGpW1
import Derived.Test.YtlonihmeikmpiaaGpW4
set_option linter.all false
set_option linter.unusedVariables false
set_option linter.unusedSimpArgs false
set_option linter.all false
set_option maxRecDepth 8000
namespace Go.Proofs.Y1
open Go.Gm
namespace Au
noncomputable def f24_s7 : (List Int) × Int × Int × (List Int) × Int → Option (((List Int) × Int × Int × (List Int) × Int) ⊕ ((List Int) × Int × Int × (List Int)))
  | (s7_0, s7_1, s7_2, s7_3, s7_4) => (if 0 < s7_4 then (if s7_2 = 0 then ((f72 ⟨s7_0, s7_1, s7_2⟩).bind fun x141 => ((appO? s7_3 [x141.1]).bind fun x142 => some (.inl (x141.2.b, x141.2.at_, x141.2.e, x142, IntKind.i64.wrap (s7_4 - 1))))) else some (.inr (s7_0, s7_1, s7_2, s7_3))) else some (.inr (s7_0, s7_1, s7_2, s7_3)))
noncomputable def f24_s4 : (List Int) × Int × Int × (List Step) × Int → Option (((List Int) × Int × Int × (List Step) × Int) ⊕ ((List Int) × Int × Int × (List Step)))
  | (s4_0, s4_1, s4_2, s4_3, s4_4) => (if 0 < s4_4 then (if s4_2 = 0 then ((f72 ⟨s4_0, s4_1, s4_2⟩).bind fun x121 => ((f72 x121.2).bind fun x122 => ((f72 x122.2).bind fun x123 => ((f72 x123.2).bind fun x124 => ((f74 x124.2 65536).bind fun x125 => ((loopO f24_s7 (x125.2.b, x125.2.at_, x125.2.e, [], x125.1)).bind fun y143 => match y143 with | (y144, y145, y146, y147) => ((appO? s4_3 [⟨x121.1, x122.1, x123.1, x124.1, y147⟩]).bind fun x148 => some (.inl (y144, y145, y146, x148, IntKind.i64.wrap (s4_4 - 1)))))))))) else some (.inr (s4_0, s4_1, s4_2, s4_3))) else some (.inr (s4_0, s4_1, s4_2, s4_3)))
noncomputable def f24_j1 (x1 : (List Int) × Reader) (x2 : (List Int) × Reader) (x3 : Int × Reader) (x4 : Int × Reader) (x5 : Int × Reader) (x6 : Int × Reader) (x7 : Int × Reader) (y153 : List Step) : Int → Option (Run × Int)
  | j1_0 => (if j1_0 = 0 then some (⟨x1.1, x2.1, ⟨x3.1, x4.1, x5.1, x6.1, x7.1⟩, y153⟩, 0) else some (⟨[], [], ⟨0, 0, 0, 0, 0⟩, []⟩, j1_0))
noncomputable def f24 (a0 : List Int) : Option (Run × Int) := ((f73 ⟨a0, 0, 0⟩).bind fun x1 => ((f73 x1.2).bind fun x2 => ((f72 x2.2).bind fun x3 => ((f72 x3.2).bind fun x4 => ((f72 x4.2).bind fun x5 => ((f72 x5.2).bind fun x6 => ((f72 x6.2).bind fun x7 => ((f74 x7.2 16384).bind fun x65 => ((loopO f24_s4 (x65.2.b, x65.2.at_, x65.2.e, [], x65.1)).bind fun y149 => match y149 with | (y150, y151, y152, y153) => (if y152 = 0 then (if y151 < (a0.length : Int) then f24_j1 x1 x2 x3 x4 x5 x6 x7 y153 3 else f24_j1 x1 x2 x3 x4 x5 x6 x7 y153 y152) else f24_j1 x1 x2 x3 x4 x5 x6 x7 y153 y152))))))))))
theorem ok24 (a0 : List Int) (r : Run × Int) (h : f24 a0 = some r) : PC Try.prog 24 [.sl (List.map enc5 a0)] (.tup [.agg (encRun r.1), .val (.int .i64 r.2)]) := by
  rw [f24] at h
  refine pc_of8 (N := 108) (rs := [.cell 2 46, .tmp 3]) Try.func24 rfl rfl rfl (Nat.le_of_ble_eq_true rfl) ?_
  refine AW.regL [0, 2] ?_
  generalize hK : AW Try.prog _ _ _ = K
  simp only [go_sem, ↓reduceIte, reduceCtorEq, Nat.reduceAdd, Nat.reduceSub, Nat.reduceMul, Nat.reduceEqDiff, Nat.reduceLT, Nat.reduceLeDiff, Nat.reduceBEq, Int.reduceAdd, Int.reduceSub, Int.reduceLT, Int.reduceLE, Int.reduceEq, Int.reduceToNat]
  subst hK
  refine AW.regL [0, 2, 4] ?_
  generalize hK : AW Try.prog _ _ _ = K
  simp only [go_sem, ↓reduceIte, reduceCtorEq, Nat.reduceAdd, Nat.reduceSub, Nat.reduceMul, Nat.reduceEqDiff, Nat.reduceLT, Nat.reduceLeDiff, Nat.reduceBEq, Int.reduceAdd, Int.reduceSub, Int.reduceLT, Int.reduceLE, Int.reduceEq, Int.reduceToNat]
  subst hK
  refine AW.regL [0, 2, 4, 5] ?_
  generalize hK : AW Try.prog _ _ _ = K
  simp only [go_sem, ↓reduceIte, reduceCtorEq, Nat.reduceAdd, Nat.reduceSub, Nat.reduceMul, Nat.reduceEqDiff, Nat.reduceLT, Nat.reduceLeDiff, Nat.reduceBEq, Int.reduceAdd, Int.reduceSub, Int.reduceLT, Int.reduceLE, Int.reduceEq, Int.reduceToNat]
  subst hK
  obtain ⟨x1, hx1, h⟩ := Option.bind_eq_some_iff.1 h
  obtain ⟨x2, hx2, h⟩ := Option.bind_eq_some_iff.1 h
  refine AW.regL [0, 2, 4, 5, 6] ?_
  generalize hK : AW Try.prog _ _ _ = K
  simp only [go_sem, ↓reduceIte, reduceCtorEq, Nat.reduceAdd, Nat.reduceSub, Nat.reduceMul, Nat.reduceEqDiff, Nat.reduceLT, Nat.reduceLeDiff, Nat.reduceBEq, Int.reduceAdd, Int.reduceSub, Int.reduceLT, Int.reduceLE, Int.reduceEq, Int.reduceToNat]
  refine arC.ok (CallOk.ic (us' := _) (ok73 ⟨a0, 0, 0⟩ x1 hx1) [40] rfl (by decide) (by simp) (by simp) (by simp) (by simp) (.cons (.eq (by simp only [go_sem]) (by first | rfl | simp [upd_ap, hpL_ap, sg_ap])) (.nil _)) (by simp only [mapTL_cons, mapTL_nil, mapT_ptr, mapT_val, mapT_sl, mapT_agg, mapT_ip, sg_ap, List.getD_cons_zero, List.getD_cons_succ]; exact (.cons (.of rfl) .nil)) (by simp only [go_sem, List.length_cons, List.length_nil, Nat.reduceAdd, Nat.reduceLT, decide_true]) (by simp [AObj.isMut]) (by simp [go_sem]) (by simp [go_sem])) Try.call73 ?_
  simp only [go_sem, ↓reduceIte, reduceCtorEq, Nat.reduceAdd, Nat.reduceSub, Nat.reduceMul, Nat.reduceEqDiff, Nat.reduceLT, Nat.reduceLeDiff, Nat.reduceBEq, Int.reduceAdd, Int.reduceSub, Int.reduceLT, Int.reduceLE, Int.reduceEq, Int.reduceToNat]
  refine arC.ok (CallOk.ic (us' := _) (ok73 x1.2 x2 hx2) [40] rfl (by decide) (by simp) (by simp) (by simp) (by simp) (.cons (.eq (by simp only [go_sem]) (by first | rfl | simp [upd_ap, hpL_ap, sg_ap])) (.nil _)) (by simp only [mapTL_cons, mapTL_nil, mapT_ptr, mapT_val, mapT_sl, mapT_agg, mapT_ip, sg_ap, List.getD_cons_zero, List.getD_cons_succ]; exact (.cons (.of rfl) .nil)) (by simp only [go_sem, List.length_cons, List.length_nil, Nat.reduceAdd, Nat.reduceLT, decide_true]) (by simp [AObj.isMut]) (by simp [go_sem]) (by simp [go_sem])) Try.call73 ?_
  simp only [go_sem, ↓reduceIte, reduceCtorEq, Nat.reduceAdd, Nat.reduceSub, Nat.reduceMul, Nat.reduceEqDiff, Nat.reduceLT, Nat.reduceLeDiff, Nat.reduceBEq, Int.reduceAdd, Int.reduceSub, Int.reduceLT, Int.reduceLE, Int.reduceEq, Int.reduceToNat]
  subst hK
  obtain ⟨x3, hx3, h⟩ := Option.bind_eq_some_iff.1 h
  obtain ⟨x4, hx4, h⟩ := Option.bind_eq_some_iff.1 h
  obtain ⟨x5, hx5, h⟩ := Option.bind_eq_some_iff.1 h
  obtain ⟨x6, hx6, h⟩ := Option.bind_eq_some_iff.1 h
  obtain ⟨x7, hx7, h⟩ := Option.bind_eq_some_iff.1 h
  refine AW.regL [0, 2, 4, 5, 6] ?_
  generalize hK : AW Try.prog _ _ _ = K
  simp only [go_sem, ↓reduceIte, reduceCtorEq, Nat.reduceAdd, Nat.reduceSub, Nat.reduceMul, Nat.reduceEqDiff, Nat.reduceLT, Nat.reduceLeDiff, Nat.reduceBEq, Int.reduceAdd, Int.reduceSub, Int.reduceLT, Int.reduceLE, Int.reduceEq, Int.reduceToNat]
  refine arC.ok (CallOk.ic (us' := _) (ok72 x2.2 x3 hx3) [40] rfl (by decide) (by simp) (by simp) (by simp) (by simp) (.cons (.eq (by simp only [go_sem]) (by first | rfl | simp [upd_ap, hpL_ap, sg_ap])) (.nil _)) (by simp only [mapTL_cons, mapTL_nil, mapT_ptr, mapT_val, mapT_sl, mapT_agg, mapT_ip, sg_ap, List.getD_cons_zero, List.getD_cons_succ]; exact (.cons (.of rfl) .nil)) (by simp only [go_sem, List.length_cons, List.length_nil, Nat.reduceAdd, Nat.reduceLT, decide_true]) (by simp [AObj.isMut]) (by simp [go_sem]) (by simp [go_sem])) Try.call72 ?_
  simp only [go_sem, ↓reduceIte, reduceCtorEq, Nat.reduceAdd, Nat.reduceSub, Nat.reduceMul, Nat.reduceEqDiff, Nat.reduceLT, Nat.reduceLeDiff, Nat.reduceBEq, Int.reduceAdd, Int.reduceSub, Int.reduceLT, Int.reduceLE, Int.reduceEq, Int.reduceToNat]
  refine arC.ok (CallOk.ic (us' := _) (ok72 x3.2 x4 hx4) [40] rfl (by decide) (by simp) (by simp) (by simp) (by simp) (.cons (.eq (by simp only [go_sem]) (by first | rfl | simp [upd_ap, hpL_ap, sg_ap])) (.nil _)) (by simp only [mapTL_cons, mapTL_nil, mapT_ptr, mapT_val, mapT_sl, mapT_agg, mapT_ip, sg_ap, List.getD_cons_zero, List.getD_cons_succ]; exact (.cons (.of rfl) .nil)) (by simp only [go_sem, List.length_cons, List.length_nil, Nat.reduceAdd, Nat.reduceLT, decide_true]) (by simp [AObj.isMut]) (by simp [go_sem]) (by simp [go_sem])) Try.call72 ?_
  simp only [go_sem, ↓reduceIte, reduceCtorEq, Nat.reduceAdd, Nat.reduceSub, Nat.reduceMul, Nat.reduceEqDiff, Nat.reduceLT, Nat.reduceLeDiff, Nat.reduceBEq, Int.reduceAdd, Int.reduceSub, Int.reduceLT, Int.reduceLE, Int.reduceEq, Int.reduceToNat]
  refine arC.ok (CallOk.ic (us' := _) (ok72 x4.2 x5 hx5) [40] rfl (by decide) (by simp) (by simp) (by simp) (by simp) (.cons (.eq (by simp only [go_sem]) (by first | rfl | simp [upd_ap, hpL_ap, sg_ap])) (.nil _)) (by simp only [mapTL_cons, mapTL_nil, mapT_ptr, mapT_val, mapT_sl, mapT_agg, mapT_ip, sg_ap, List.getD_cons_zero, List.getD_cons_succ]; exact (.cons (.of rfl) .nil)) (by simp only [go_sem, List.length_cons, List.length_nil, Nat.reduceAdd, Nat.reduceLT, decide_true]) (by simp [AObj.isMut]) (by simp [go_sem]) (by simp [go_sem])) Try.call72 ?_
  simp only [go_sem, ↓reduceIte, reduceCtorEq, Nat.reduceAdd, Nat.reduceSub, Nat.reduceMul, Nat.reduceEqDiff, Nat.reduceLT, Nat.reduceLeDiff, Nat.reduceBEq, Int.reduceAdd, Int.reduceSub, Int.reduceLT, Int.reduceLE, Int.reduceEq, Int.reduceToNat]
  refine arC.ok (CallOk.ic (us' := _) (ok72 x5.2 x6 hx6) [40] rfl (by decide) (by simp) (by simp) (by simp) (by simp) (.cons (.eq (by simp only [go_sem]) (by first | rfl | simp [upd_ap, hpL_ap, sg_ap])) (.nil _)) (by simp only [mapTL_cons, mapTL_nil, mapT_ptr, mapT_val, mapT_sl, mapT_agg, mapT_ip, sg_ap, List.getD_cons_zero, List.getD_cons_succ]; exact (.cons (.of rfl) .nil)) (by simp only [go_sem, List.length_cons, List.length_nil, Nat.reduceAdd, Nat.reduceLT, decide_true]) (by simp [AObj.isMut]) (by simp [go_sem]) (by simp [go_sem])) Try.call72 ?_
  simp only [go_sem, ↓reduceIte, reduceCtorEq, Nat.reduceAdd, Nat.reduceSub, Nat.reduceMul, Nat.reduceEqDiff, Nat.reduceLT, Nat.reduceLeDiff, Nat.reduceBEq, Int.reduceAdd, Int.reduceSub, Int.reduceLT, Int.reduceLE, Int.reduceEq, Int.reduceToNat]
  refine arC.ok (CallOk.ic (us' := _) (ok72 x6.2 x7 hx7) [40] rfl (by decide) (by simp) (by simp) (by simp) (by simp) (.cons (.eq (by simp only [go_sem]) (by first | rfl | simp [upd_ap, hpL_ap, sg_ap])) (.nil _)) (by simp only [mapTL_cons, mapTL_nil, mapT_ptr, mapT_val, mapT_sl, mapT_agg, mapT_ip, sg_ap, List.getD_cons_zero, List.getD_cons_succ]; exact (.cons (.of rfl) .nil)) (by simp only [go_sem, List.length_cons, List.length_nil, Nat.reduceAdd, Nat.reduceLT, decide_true]) (by simp [AObj.isMut]) (by simp [go_sem]) (by simp [go_sem])) Try.call72 ?_
  simp only [go_sem, ↓reduceIte, reduceCtorEq, Nat.reduceAdd, Nat.reduceSub, Nat.reduceMul, Nat.reduceEqDiff, Nat.reduceLT, Nat.reduceLeDiff, Nat.reduceBEq, Int.reduceAdd, Int.reduceSub, Int.reduceLT, Int.reduceLE, Int.reduceEq, Int.reduceToNat]
  subst hK
  refine AW.seq ?_
  obtain ⟨x65, hx65, h⟩ := Option.bind_eq_some_iff.1 h
  refine AW.regL [0, 2, 4, 5, 6, 7] ?_
  generalize hK : AW Try.prog _ _ _ = K
  simp only [go_sem, ↓reduceIte, reduceCtorEq, Nat.reduceAdd, Nat.reduceSub, Nat.reduceMul, Nat.reduceEqDiff, Nat.reduceLT, Nat.reduceLeDiff, Nat.reduceBEq, Int.reduceAdd, Int.reduceSub, Int.reduceLT, Int.reduceLE, Int.reduceEq, Int.reduceToNat]
  refine arC.ok (CallOk.ic (us' := _) (ok74 x7.2 16384 x65 hx65) [40] rfl (by decide) (by simp) (by simp) (by simp) (by simp) (.cons (.eq (by simp only [go_sem]) (by first | rfl | simp [upd_ap, hpL_ap, sg_ap])) (.nil _)) (by simp only [mapTL_cons, mapTL_nil, mapT_ptr, mapT_val, mapT_sl, mapT_agg, mapT_ip, sg_ap, List.getD_cons_zero, List.getD_cons_succ]; exact (.cons (.of rfl) (.cons (.of rfl) .nil))) (by simp only [go_sem, List.length_cons, List.length_nil, Nat.reduceAdd, Nat.reduceLT, decide_true]) (by simp [AObj.isMut]) (by simp [go_sem]) (by simp [go_sem])) Try.call74 ?_
  simp only [go_sem, ↓reduceIte, reduceCtorEq, Nat.reduceAdd, Nat.reduceSub, Nat.reduceMul, Nat.reduceEqDiff, Nat.reduceLT, Nat.reduceLeDiff, Nat.reduceBEq, Int.reduceAdd, Int.reduceSub, Int.reduceLT, Int.reduceLE, Int.reduceEq, Int.reduceToNat]
  subst hK
  refine AW.block ?_
  obtain ⟨y149, hy149, h⟩ := Option.bind_eq_some_iff.1 h
  refine AW.loopO (fun s => ⟨(upd (upd (upd (upd (upd (upd anyF 0 (.sl (List.map enc5 a0))) 2 (.ptr 8 0 0)) 4 (.ptr 9 0 0)) 5 (.clo (.func 72) [.ptr 9 0 0] [])) 6 (.ptr 10 0 0)) 7 (.val (.int .i64 s.2.2.2.2))), hpL [] [some (.row 8 true [[.val (.slice none 0 0), .val (.slice none 0 0), .val (.int .i64 0), .val (.int .i64 0), .val (.int .i64 0), .val (.int .i64 0), .val (.int .i64 0), .val (.slice none 0 0)]]), some (.row 3 true [[.sl (List.map enc5 s.1), .val (.int .i64 s.2.1), .val (.int .i64 s.2.2.1)]]), some (.row 8 true [[.own 11 0 x1.1.length, .own 12 0 x2.1.length, .val (.int .i64 x3.1), .val (.int .i64 x4.1), .val (.int .i64 x5.1), .val (.int .i64 x6.1), .val (.int .i64 x7.1), .own 13 0 s.2.2.2.1.length]]), some (.row 1 true (List.map enc5 x1.1)), some (.row 1 true (List.map enc5 x2.1)), some (.row 5 true (List.map encStep s.2.2.2.1))], 14⟩) (fun z e st' => e = Exit.exit 0 ∧ st' = ⟨(upd (upd (upd (upd anyF 0 (.sl (List.map enc5 a0))) 2 (.ptr 8 0 0)) 4 (.ptr 9 0 0)) 6 (.ptr 10 0 0)), hpL [] [some (.row 8 true [[.val (.slice none 0 0), .val (.slice none 0 0), .val (.int .i64 0), .val (.int .i64 0), .val (.int .i64 0), .val (.int .i64 0), .val (.int .i64 0), .val (.slice none 0 0)]]), some (.row 3 true [[.sl (List.map enc5 z.1), .val (.int .i64 z.2.1), .val (.int .i64 z.2.2.1)]]), some (.row 8 true [[.own 11 0 x1.1.length, .own 12 0 x2.1.length, .val (.int .i64 x3.1), .val (.int .i64 x4.1), .val (.int .i64 x5.1), .val (.int .i64 x6.1), .val (.int .i64 x7.1), .own 13 0 z.2.2.2.length]]), some (.row 1 true (List.map enc5 x1.1)), some (.row 1 true (List.map enc5 x2.1)), some (.row 5 true (List.map encStep z.2.2.2))], 14⟩) hy149 ?_ ?_ ?_
  · refine Ent.trans (Ent.nilCell 120 7 5 (by decide) (by first | rfl | simp [upd_ap]) rfl) ?_
    refine Ent.can [8, 40, 120, 88, 104, 264] _ _ _ rfl (by first | decide | simp) rfl ?_ ?_ ?_
    · exact ((((((RF.any.pv (by first | rfl | simp only [go_sem]) (by first | rfl | simp [upd_ap, hpL_ap, tau, mapT, mapTL, bytesI_len])).pp (by decide) (by first | rfl | simp [upd_ap, hpL_ap, tau, mapT, mapTL, bytesI_len])).pp (by decide) (by first | rfl | simp [upd_ap, hpL_ap, tau, mapT, mapTL, bytesI_len])).put (by simp [tokL, tokLL, inlR]) (.of (by first | rfl | simp [upd_ap, hpL_ap, tau, mapT, mapTL, bytesI_len]))).pp (by decide) (by first | rfl | simp [upd_ap, hpL_ap, tau, mapT, mapTL, bytesI_len])).pv (by first | rfl | simp only [go_sem]) (by first | rfl | simp [upd_ap, hpL_ap, tau, mapT, mapTL, bytesI_len]))
    · exact .nil _
    · exact .cons (.eq (by first | rfl | simp only [go_sem]) (by first | rfl | simp [upd_ap, hpL_ap, tau, mapT, mapTL, bytesI_len])) (.cons (.eq (by first | rfl | simp only [go_sem]) (by first | rfl | simp [upd_ap, hpL_ap, tau, mapT, mapTL, bytesI_len])) (.cons (.tok (by simp [tokL, tokLL, inlR]) (by first | rfl | simp [upd_ap, hpL_ap, tau, mapT, mapTL, bytesI_len])) (.cons (.eq (by first | rfl | simp only [go_sem]) (by first | rfl | simp [upd_ap, hpL_ap, tau, mapT, mapTL, bytesI_len])) (.cons (.eq (by first | rfl | simp only [go_sem]) (by first | rfl | simp [upd_ap, hpL_ap, tau, mapT, mapTL, bytesI_len])) (.cons (.eq (by first | rfl | simp only [go_sem]) (by first | rfl | simp [upd_ap, hpL_ap, tau, mapT, mapTL, bytesI_len])) (.nil _))))))
  · clear h hy149
    rintro ⟨s4_0, s4_1, s4_2, s4_3, s4_4⟩ x h
    rw [f24_s4] at h
    refine AW.seq ?_
    by_cases c119 : 0 < s4_4
    · rw [if_pos c119] at h
      refine AW.regL [0, 2, 4, 5, 6, 7, 42] ?_
      generalize hK : AW Try.prog _ _ _ = K
      simp only [go_sem, ↓reduceIte, reduceCtorEq, Nat.reduceAdd, Nat.reduceSub, Nat.reduceMul, Nat.reduceEqDiff, Nat.reduceLT, Nat.reduceLeDiff, Nat.reduceBEq, Int.reduceAdd, Int.reduceSub, Int.reduceLT, Int.reduceLE, Int.reduceEq, Int.reduceToNat, eq_true c119]
      subst hK
      by_cases c120 : s4_2 = 0
      · rw [if_pos c120] at h
        refine AW.ifT rfl c120 ?_
        refine AW.skip ?_
        refine thenA_n ?_
        refine AW.seq ?_
        refine AW.block ?_
        obtain ⟨x121, hx121, h⟩ := Option.bind_eq_some_iff.1 h
        obtain ⟨x122, hx122, h⟩ := Option.bind_eq_some_iff.1 h
        obtain ⟨x123, hx123, h⟩ := Option.bind_eq_some_iff.1 h
        obtain ⟨x124, hx124, h⟩ := Option.bind_eq_some_iff.1 h
        refine AW.regL [0, 2, 4, 5, 6, 7, 8] ?_
        generalize hK : AW Try.prog _ _ _ = K
        simp only [go_sem, ↓reduceIte, reduceCtorEq, Nat.reduceAdd, Nat.reduceSub, Nat.reduceMul, Nat.reduceEqDiff, Nat.reduceLT, Nat.reduceLeDiff, Nat.reduceBEq, Int.reduceAdd, Int.reduceSub, Int.reduceLT, Int.reduceLE, Int.reduceEq, Int.reduceToNat, eq_true c119, eq_true c120]
        refine arC.ok (CallOk.ic (us' := _) (ok72 ⟨s4_0, s4_1, s4_2⟩ x121 hx121) [9] rfl (by decide) (by simp) (by simp) (by simp) (by simp) (.cons (.eq (by simp only [go_sem]) (by first | rfl | simp [upd_ap, hpL_ap, sg_ap])) (.nil _)) (by simp only [mapTL_cons, mapTL_nil, mapT_ptr, mapT_val, mapT_sl, mapT_agg, mapT_ip, sg_ap, List.getD_cons_zero, List.getD_cons_succ]; exact (.cons (.of rfl) .nil)) (by simp only [go_sem, List.length_cons, List.length_nil, Nat.reduceAdd, Nat.reduceLT, decide_true]) (by simp [AObj.isMut]) (by simp [go_sem]) (by simp [go_sem])) Try.call72 ?_
        simp only [go_sem, ↓reduceIte, reduceCtorEq, Nat.reduceAdd, Nat.reduceSub, Nat.reduceMul, Nat.reduceEqDiff, Nat.reduceLT, Nat.reduceLeDiff, Nat.reduceBEq, Int.reduceAdd, Int.reduceSub, Int.reduceLT, Int.reduceLE, Int.reduceEq, Int.reduceToNat, eq_true c119, eq_true c120]
        refine arC.ok (CallOk.ic (us' := _) (ok72 x121.2 x122 hx122) [9] rfl (by decide) (by simp) (by simp) (by simp) (by simp) (.cons (.eq (by simp only [go_sem]) (by first | rfl | simp [upd_ap, hpL_ap, sg_ap])) (.nil _)) (by simp only [mapTL_cons, mapTL_nil, mapT_ptr, mapT_val, mapT_sl, mapT_agg, mapT_ip, sg_ap, List.getD_cons_zero, List.getD_cons_succ]; exact (.cons (.of rfl) .nil)) (by simp only [go_sem, List.length_cons, List.length_nil, Nat.reduceAdd, Nat.reduceLT, decide_true]) (by simp [AObj.isMut]) (by simp [go_sem]) (by simp [go_sem])) Try.call72 ?_
        simp only [go_sem, ↓reduceIte, reduceCtorEq, Nat.reduceAdd, Nat.reduceSub, Nat.reduceMul, Nat.reduceEqDiff, Nat.reduceLT, Nat.reduceLeDiff, Nat.reduceBEq, Int.reduceAdd, Int.reduceSub, Int.reduceLT, Int.reduceLE, Int.reduceEq, Int.reduceToNat, eq_true c119, eq_true c120]
        refine arC.ok (CallOk.ic (us' := _) (ok72 x122.2 x123 hx123) [9] rfl (by decide) (by simp) (by simp) (by simp) (by simp) (.cons (.eq (by simp only [go_sem]) (by first | rfl | simp [upd_ap, hpL_ap, sg_ap])) (.nil _)) (by simp only [mapTL_cons, mapTL_nil, mapT_ptr, mapT_val, mapT_sl, mapT_agg, mapT_ip, sg_ap, List.getD_cons_zero, List.getD_cons_succ]; exact (.cons (.of rfl) .nil)) (by simp only [go_sem, List.length_cons, List.length_nil, Nat.reduceAdd, Nat.reduceLT, decide_true]) (by simp [AObj.isMut]) (by simp [go_sem]) (by simp [go_sem])) Try.call72 ?_
        simp only [go_sem, ↓reduceIte, reduceCtorEq, Nat.reduceAdd, Nat.reduceSub, Nat.reduceMul, Nat.reduceEqDiff, Nat.reduceLT, Nat.reduceLeDiff, Nat.reduceBEq, Int.reduceAdd, Int.reduceSub, Int.reduceLT, Int.reduceLE, Int.reduceEq, Int.reduceToNat, eq_true c119, eq_true c120]
        refine arC.ok (CallOk.ic (us' := _) (ok72 x123.2 x124 hx124) [9] rfl (by decide) (by simp) (by simp) (by simp) (by simp) (.cons (.eq (by simp only [go_sem]) (by first | rfl | simp [upd_ap, hpL_ap, sg_ap])) (.nil _)) (by simp only [mapTL_cons, mapTL_nil, mapT_ptr, mapT_val, mapT_sl, mapT_agg, mapT_ip, sg_ap, List.getD_cons_zero, List.getD_cons_succ]; exact (.cons (.of rfl) .nil)) (by simp only [go_sem, List.length_cons, List.length_nil, Nat.reduceAdd, Nat.reduceLT, decide_true]) (by simp [AObj.isMut]) (by simp [go_sem]) (by simp [go_sem])) Try.call72 ?_
        simp only [go_sem, ↓reduceIte, reduceCtorEq, Nat.reduceAdd, Nat.reduceSub, Nat.reduceMul, Nat.reduceEqDiff, Nat.reduceLT, Nat.reduceLeDiff, Nat.reduceBEq, Int.reduceAdd, Int.reduceSub, Int.reduceLT, Int.reduceLE, Int.reduceEq, Int.reduceToNat, eq_true c119, eq_true c120]
        subst hK
        refine AW.seq ?_
        obtain ⟨x125, hx125, h⟩ := Option.bind_eq_some_iff.1 h
        refine AW.regL [0, 2, 4, 5, 6, 7, 8, 9] ?_
        generalize hK : AW Try.prog _ _ _ = K
        simp only [go_sem, ↓reduceIte, reduceCtorEq, Nat.reduceAdd, Nat.reduceSub, Nat.reduceMul, Nat.reduceEqDiff, Nat.reduceLT, Nat.reduceLeDiff, Nat.reduceBEq, Int.reduceAdd, Int.reduceSub, Int.reduceLT, Int.reduceLE, Int.reduceEq, Int.reduceToNat, eq_true c119, eq_true c120]
        refine arC.ok (CallOk.ic (us' := _) (ok74 x124.2 65536 x125 hx125) [9] rfl (by decide) (by simp) (by simp) (by simp) (by simp) (.cons (.eq (by simp only [go_sem]) (by first | rfl | simp [upd_ap, hpL_ap, sg_ap])) (.nil _)) (by simp only [mapTL_cons, mapTL_nil, mapT_ptr, mapT_val, mapT_sl, mapT_agg, mapT_ip, sg_ap, List.getD_cons_zero, List.getD_cons_succ]; exact (.cons (.of rfl) (.cons (.of rfl) .nil))) (by simp only [go_sem, List.length_cons, List.length_nil, Nat.reduceAdd, Nat.reduceLT, decide_true]) (by simp [AObj.isMut]) (by simp [go_sem]) (by simp [go_sem])) Try.call74 ?_
        simp only [go_sem, ↓reduceIte, reduceCtorEq, Nat.reduceAdd, Nat.reduceSub, Nat.reduceMul, Nat.reduceEqDiff, Nat.reduceLT, Nat.reduceLeDiff, Nat.reduceBEq, Int.reduceAdd, Int.reduceSub, Int.reduceLT, Int.reduceLE, Int.reduceEq, Int.reduceToNat, eq_true c119, eq_true c120]
        subst hK
        refine AW.block ?_
        obtain ⟨y143, hy143, h⟩ := Option.bind_eq_some_iff.1 h
        refine AW.loopO (fun s => ⟨(upd (upd (upd (upd (upd (upd (upd (upd anyF 0 (.sl (List.map enc5 a0))) 2 (.ptr 8 0 0)) 4 (.ptr 9 0 0)) 5 (.clo (.func 72) [.ptr 9 0 0] [])) 6 (.ptr 10 0 0)) 7 (.val (.int .i64 s4_4))) 8 (.ptr 14 0 0)) 9 (.val (.int .i64 s.2.2.2.2))), hpL [] [some (.row 8 true [[.val (.slice none 0 0), .val (.slice none 0 0), .val (.int .i64 0), .val (.int .i64 0), .val (.int .i64 0), .val (.int .i64 0), .val (.int .i64 0), .val (.slice none 0 0)]]), some (.row 3 true [[.sl (List.map enc5 s.1), .val (.int .i64 s.2.1), .val (.int .i64 s.2.2.1)]]), some (.row 8 true [[.own 11 0 x1.1.length, .own 12 0 x2.1.length, .val (.int .i64 x3.1), .val (.int .i64 x4.1), .val (.int .i64 x5.1), .val (.int .i64 x6.1), .val (.int .i64 x7.1), .own 13 0 s4_3.length]]), some (.row 1 true (List.map enc5 x1.1)), some (.row 1 true (List.map enc5 x2.1)), some (.row 5 true (List.map encStep s4_3)), some (.row 5 true [[.val (.int .i64 x121.1), .val (.int .i64 x122.1), .val (.int .i64 x123.1), .val (.int .i64 x124.1), .own 15 0 s.2.2.2.1.length]]), some (.row 1 true (List.map enc3 s.2.2.2.1))], 16⟩) (fun z e st' => e = Exit.exit 2 ∧ st' = ⟨(upd (upd (upd (upd (upd (upd (upd anyF 0 (.sl (List.map enc5 a0))) 2 (.ptr 8 0 0)) 4 (.ptr 9 0 0)) 5 (.clo (.func 72) [.ptr 9 0 0] [])) 6 (.ptr 10 0 0)) 7 (.val (.int .i64 s4_4))) 8 (.ptr 14 0 0)), hpL [] [some (.row 8 true [[.val (.slice none 0 0), .val (.slice none 0 0), .val (.int .i64 0), .val (.int .i64 0), .val (.int .i64 0), .val (.int .i64 0), .val (.int .i64 0), .val (.slice none 0 0)]]), some (.row 3 true [[.sl (List.map enc5 z.1), .val (.int .i64 z.2.1), .val (.int .i64 z.2.2.1)]]), some (.row 8 true [[.own 11 0 x1.1.length, .own 12 0 x2.1.length, .val (.int .i64 x3.1), .val (.int .i64 x4.1), .val (.int .i64 x5.1), .val (.int .i64 x6.1), .val (.int .i64 x7.1), .own 13 0 s4_3.length]]), some (.row 1 true (List.map enc5 x1.1)), some (.row 1 true (List.map enc5 x2.1)), some (.row 5 true (List.map encStep s4_3)), some (.row 5 true [[.val (.int .i64 x121.1), .val (.int .i64 x122.1), .val (.int .i64 x123.1), .val (.int .i64 x124.1), .own 15 0 z.2.2.2.length]]), some (.row 1 true (List.map enc3 z.2.2.2))], 16⟩) hy143 ?_ ?_ ?_
        · refine Ent.trans (Ent.nilCell 158 4 1 (by decide) (by first | rfl | simp [upd_ap]) rfl) ?_
          refine Ent.can [8, 9, 10, 11, 12, 13, 158, 198] _ _ _ rfl (by first | decide | simp) rfl ?_ ?_ ?_
          · exact ((((((((RF.any.pv (by first | rfl | simp only [go_sem]) (by first | rfl | simp [upd_ap, hpL_ap, tau, mapT, mapTL, bytesI_len, eq_true c119, eq_true c120])).pp (by decide) (by first | rfl | simp [upd_ap, hpL_ap, tau, mapT, mapTL, bytesI_len, eq_true c119, eq_true c120])).pp (by decide) (by first | rfl | simp [upd_ap, hpL_ap, tau, mapT, mapTL, bytesI_len, eq_true c119, eq_true c120])).put (by simp [tokL, tokLL, inlR]) (.of (by first | rfl | simp [upd_ap, hpL_ap, tau, mapT, mapTL, bytesI_len, eq_true c119, eq_true c120]))).pp (by decide) (by first | rfl | simp [upd_ap, hpL_ap, tau, mapT, mapTL, bytesI_len, eq_true c119, eq_true c120])).pv (by first | rfl | simp only [go_sem]) (by first | rfl | simp [upd_ap, hpL_ap, tau, mapT, mapTL, bytesI_len, eq_true c119, eq_true c120])).pp (by decide) (by first | rfl | simp [upd_ap, hpL_ap, tau, mapT, mapTL, bytesI_len, eq_true c119, eq_true c120])).pv (by first | rfl | simp only [go_sem]) (by first | rfl | simp [upd_ap, hpL_ap, tau, mapT, mapTL, bytesI_len, eq_true c119, eq_true c120]))
          · exact .nil _
          · exact .cons (.eq (by first | rfl | simp only [go_sem]) (by first | rfl | simp [upd_ap, hpL_ap, tau, mapT, mapTL, bytesI_len, eq_true c119, eq_true c120])) (.cons (.eq (by first | rfl | simp only [go_sem]) (by first | rfl | simp [upd_ap, hpL_ap, tau, mapT, mapTL, bytesI_len, eq_true c119, eq_true c120])) (.cons (.tok (by simp [tokL, tokLL, inlR]) (by first | rfl | simp [upd_ap, hpL_ap, tau, mapT, mapTL, bytesI_len, eq_true c119, eq_true c120])) (.cons (.eq (by first | rfl | simp only [go_sem]) (by first | rfl | simp [upd_ap, hpL_ap, tau, mapT, mapTL, bytesI_len, eq_true c119, eq_true c120])) (.cons (.eq (by first | rfl | simp only [go_sem]) (by first | rfl | simp [upd_ap, hpL_ap, tau, mapT, mapTL, bytesI_len, eq_true c119, eq_true c120])) (.cons (.eq (by first | rfl | simp only [go_sem]) (by first | rfl | simp [upd_ap, hpL_ap, tau, mapT, mapTL, bytesI_len, eq_true c119, eq_true c120])) (.cons (.tok (by simp [tokL, tokLL, inlR]) (by first | rfl | simp [upd_ap, hpL_ap, tau, mapT, mapTL, bytesI_len, eq_true c119, eq_true c120])) (.cons (.eq (by first | rfl | simp only [go_sem]) (by first | rfl | simp [upd_ap, hpL_ap, tau, mapT, mapTL, bytesI_len, eq_true c119, eq_true c120])) (.nil _))))))))
        · clear h hy143
          rintro ⟨s7_0, s7_1, s7_2, s7_3, s7_4⟩ x h
          rw [f24_s7] at h
          refine AW.seq ?_
          by_cases c139 : 0 < s7_4
          · rw [if_pos c139] at h
            refine AW.regL [0, 2, 4, 5, 6, 7, 8, 9, 64] ?_
            generalize hK : AW Try.prog _ _ _ = K
            simp only [go_sem, ↓reduceIte, reduceCtorEq, Nat.reduceAdd, Nat.reduceSub, Nat.reduceMul, Nat.reduceEqDiff, Nat.reduceLT, Nat.reduceLeDiff, Nat.reduceBEq, Int.reduceAdd, Int.reduceSub, Int.reduceLT, Int.reduceLE, Int.reduceEq, Int.reduceToNat, eq_true c119, eq_true c120, eq_true c139]
            subst hK
            by_cases c140 : s7_2 = 0
            · rw [if_pos c140] at h
              refine AW.ifT rfl c140 ?_
              refine AW.skip ?_
              refine thenA_n ?_
              refine AW.seq ?_
              refine AW.block ?_
              obtain ⟨x141, hx141, h⟩ := Option.bind_eq_some_iff.1 h
              obtain ⟨x142, hx142, h⟩ := Option.bind_eq_some_iff.1 h
              obtain ⟨hx142b, hx142e⟩ := appO?_some.1 hx142
              have hx142f : ∀ id o : Nat, appO 1 8 id ([[.val (.int .i64 x141.1)]]) 0 s7_3.length o (some (.row 1 true (List.map enc3 s7_3))) = some ⟨.own id 0 x142.length, [(o, none), (id, some (.row 1 true (List.map enc3 x142)))]⟩ := fun id o => by
                subst hx142e; rw [appO_ok (by simp) (by simpa using hx142b) (by decide)]; first | (simp [enc3]; done) | (simp [enc3]; omega)
              refine AW.drawL [0, 2, 4, 5, 6, 7, 8, 9] [[], [0], [], [2], [2, 3], [0, 1, 2, 3, 4], [0, 1, 2, 3, 4, 5], [0, 1, 2, 3, 4, 5, 6]] [0, 1, 2, 3, 4, 5, 6, 7] noFt (fun _ _ _ h => by simp [noFt] at h) draws (by kernel_rfl) (by kernel_rfl) ?_
              generalize hK : inBlockA _ _ Exit.normal = K
              simp only [go_sem, ↓reduceIte, reduceCtorEq, Nat.reduceAdd, Nat.reduceSub, Nat.reduceMul, Nat.reduceEqDiff, Nat.reduceLT, Nat.reduceLeDiff, Nat.reduceBEq, Int.reduceAdd, Int.reduceSub, Int.reduceLT, Int.reduceLE, Int.reduceEq, Int.reduceToNat, eq_true c119, eq_true c120, eq_true c139, eq_true c140, hx142f]
              refine adN.ic (ok72 ⟨s7_0, s7_1, s7_2⟩ x141 hx141) Try.call72 (callV_tmp (by simp only [upd_ap, Nat.reduceEqDiff, if_true, if_false, ↓reduceIte]; rfl)) [9] rfl (by decide) (by simp) (by simp) (by simp) (by simp) (.cons (.eq (by simp only [go_sem]) (by first | rfl | simp [upd_ap, hpL_ap, sg_ap])) (.nil _)) (by simp only [List.nil_append, List.append_nil, List.cons_append, List.map_cons, List.map_nil, evF_tmp, evF_const, upd_ap, Nat.reduceEqDiff, if_true, if_false, ↓reduceIte, mapTL_cons, mapTL_nil, mapT_ptr, mapT_val, mapT_sl, mapT_agg, mapT_ip, sg_ap, List.getD_cons_zero, List.getD_cons_succ]; exact (.cons (.of rfl) .nil)) (by simp only [go_sem, List.length_cons, List.length_nil, Nat.reduceAdd, Nat.reduceLT, decide_true]) (by simp [AObj.isMut]) (by simp [go_sem]) (by simp [go_sem]) ?_
              simp only [go_sem, ↓reduceIte, reduceCtorEq, Nat.reduceAdd, Nat.reduceSub, Nat.reduceMul, Nat.reduceEqDiff, Nat.reduceLT, Nat.reduceLeDiff, Nat.reduceBEq, Int.reduceAdd, Int.reduceSub, Int.reduceLT, Int.reduceLE, Int.reduceEq, Int.reduceToNat, eq_true c119, eq_true c120, eq_true c139, eq_true c140, hx142f]
              subst hK
              refine block_n ?_
              refine thenA_n ?_
              refine AW.regionL [0, 2, 4, 5, 6, 7, 8, 9] ?_
              generalize hK : thenA _ _ Exit.normal = K
              simp only [go_sem, ↓reduceIte, reduceCtorEq, Nat.reduceAdd, Nat.reduceSub, Nat.reduceMul, Nat.reduceEqDiff, Nat.reduceLT, Nat.reduceLeDiff, Nat.reduceBEq, Int.reduceAdd, Int.reduceSub, Int.reduceLT, Int.reduceLE, Int.reduceEq, Int.reduceToNat, eq_true c119, eq_true c120, eq_true c139, eq_true c140]
              subst hK
              refine thenA_n ?_
              refine ⟨_, (Option.some.inj h).symm, ?_⟩
              refine Ent.can [8, 9, 10, 11, 12, 13, 14, 128] _ _ _ rfl (by first | decide | simp) rfl ?_ ?_ ?_
              · exact ((((((((RF.any.pv (by first | rfl | simp only [go_sem]) (by first | rfl | simp [upd_ap, hpL_ap, tau, mapT, mapTL, bytesI_len, eq_true c119, eq_true c120, eq_true c139, eq_true c140])).pp (by decide) (by first | rfl | simp [upd_ap, hpL_ap, tau, mapT, mapTL, bytesI_len, eq_true c119, eq_true c120, eq_true c139, eq_true c140])).pp (by decide) (by first | rfl | simp [upd_ap, hpL_ap, tau, mapT, mapTL, bytesI_len, eq_true c119, eq_true c120, eq_true c139, eq_true c140])).put (by simp [tokL, tokLL, inlR]) (.of (by first | rfl | simp [upd_ap, hpL_ap, tau, mapT, mapTL, bytesI_len, eq_true c119, eq_true c120, eq_true c139, eq_true c140]))).pp (by decide) (by first | rfl | simp [upd_ap, hpL_ap, tau, mapT, mapTL, bytesI_len, eq_true c119, eq_true c120, eq_true c139, eq_true c140])).pv (by first | rfl | simp only [go_sem]) (by first | rfl | simp [upd_ap, hpL_ap, tau, mapT, mapTL, bytesI_len, eq_true c119, eq_true c120, eq_true c139, eq_true c140])).pp (by decide) (by first | rfl | simp [upd_ap, hpL_ap, tau, mapT, mapTL, bytesI_len, eq_true c119, eq_true c120, eq_true c139, eq_true c140])).pv (by first | rfl | simp only [go_sem]) (by first | rfl | simp [upd_ap, hpL_ap, tau, mapT, mapTL, bytesI_len, eq_true c119, eq_true c120, eq_true c139, eq_true c140]))
              · exact .nil _
              · exact .cons (.eq (by first | rfl | simp only [go_sem]) (by first | rfl | simp [upd_ap, hpL_ap, tau, mapT, mapTL, bytesI_len, eq_true c119, eq_true c120, eq_true c139, eq_true c140])) (.cons (.eq (by first | rfl | simp only [go_sem]) (by first | rfl | simp [upd_ap, hpL_ap, tau, mapT, mapTL, bytesI_len, eq_true c119, eq_true c120, eq_true c139, eq_true c140])) (.cons (.tok (by simp [tokL, tokLL, inlR]) (by first | rfl | simp [upd_ap, hpL_ap, tau, mapT, mapTL, bytesI_len, eq_true c119, eq_true c120, eq_true c139, eq_true c140])) (.cons (.eq (by first | rfl | simp only [go_sem]) (by first | rfl | simp [upd_ap, hpL_ap, tau, mapT, mapTL, bytesI_len, eq_true c119, eq_true c120, eq_true c139, eq_true c140])) (.cons (.eq (by first | rfl | simp only [go_sem]) (by first | rfl | simp [upd_ap, hpL_ap, tau, mapT, mapTL, bytesI_len, eq_true c119, eq_true c120, eq_true c139, eq_true c140])) (.cons (.eq (by first | rfl | simp only [go_sem]) (by first | rfl | simp [upd_ap, hpL_ap, tau, mapT, mapTL, bytesI_len, eq_true c119, eq_true c120, eq_true c139, eq_true c140])) (.cons (.tok (by simp [tokL, tokLL, inlR]) (by first | rfl | simp [upd_ap, hpL_ap, tau, mapT, mapTL, bytesI_len, eq_true c119, eq_true c120, eq_true c139, eq_true c140])) (.cons (.eq (by first | rfl | simp only [go_sem]) (by first | rfl | simp [upd_ap, hpL_ap, tau, mapT, mapTL, bytesI_len, eq_true c119, eq_true c120, eq_true c139, eq_true c140])) (.nil _))))))))
            · rw [if_neg c140] at h
              refine AW.ifF rfl c140 ?_
              refine AW.exit ?_
              refine thenA_x ?_
              refine thenA_x ?_
              refine ⟨_, (Option.some.inj h).symm, _, ?_, rfl, rfl⟩
              refine Ent.can [8, 9, 10, 11, 12, 13, 14, 15] _ _ _ rfl (by first | decide | simp) rfl ?_ ?_ ?_
              · exact (((((((RF.any.pv (by first | rfl | simp only [go_sem]) (by first | rfl | simp [upd_ap, hpL_ap, tau, mapT, mapTL, bytesI_len, eq_true c119, eq_true c120, eq_true c139, eq_false c140])).pp (by decide) (by first | rfl | simp [upd_ap, hpL_ap, tau, mapT, mapTL, bytesI_len, eq_true c119, eq_true c120, eq_true c139, eq_false c140])).pp (by decide) (by first | rfl | simp [upd_ap, hpL_ap, tau, mapT, mapTL, bytesI_len, eq_true c119, eq_true c120, eq_true c139, eq_false c140])).put (by simp [tokL, tokLL, inlR]) (.of (by first | rfl | simp [upd_ap, hpL_ap, tau, mapT, mapTL, bytesI_len, eq_true c119, eq_true c120, eq_true c139, eq_false c140]))).pp (by decide) (by first | rfl | simp [upd_ap, hpL_ap, tau, mapT, mapTL, bytesI_len, eq_true c119, eq_true c120, eq_true c139, eq_false c140])).pv (by first | rfl | simp only [go_sem]) (by first | rfl | simp [upd_ap, hpL_ap, tau, mapT, mapTL, bytesI_len, eq_true c119, eq_true c120, eq_true c139, eq_false c140])).pp (by decide) (by first | rfl | simp [upd_ap, hpL_ap, tau, mapT, mapTL, bytesI_len, eq_true c119, eq_true c120, eq_true c139, eq_false c140]))
              · exact .nil _
              · exact .cons (.eq (by first | rfl | simp only [go_sem]) (by first | rfl | simp [upd_ap, hpL_ap, tau, mapT, mapTL, bytesI_len, eq_true c119, eq_true c120, eq_true c139, eq_false c140])) (.cons (.eq (by first | rfl | simp only [go_sem]) (by first | rfl | simp [upd_ap, hpL_ap, tau, mapT, mapTL, bytesI_len, eq_true c119, eq_true c120, eq_true c139, eq_false c140])) (.cons (.tok (by simp [tokL, tokLL, inlR]) (by first | rfl | simp [upd_ap, hpL_ap, tau, mapT, mapTL, bytesI_len, eq_true c119, eq_true c120, eq_true c139, eq_false c140])) (.cons (.eq (by first | rfl | simp only [go_sem]) (by first | rfl | simp [upd_ap, hpL_ap, tau, mapT, mapTL, bytesI_len, eq_true c119, eq_true c120, eq_true c139, eq_false c140])) (.cons (.eq (by first | rfl | simp only [go_sem]) (by first | rfl | simp [upd_ap, hpL_ap, tau, mapT, mapTL, bytesI_len, eq_true c119, eq_true c120, eq_true c139, eq_false c140])) (.cons (.eq (by first | rfl | simp only [go_sem]) (by first | rfl | simp [upd_ap, hpL_ap, tau, mapT, mapTL, bytesI_len, eq_true c119, eq_true c120, eq_true c139, eq_false c140])) (.cons (.tok (by simp [tokL, tokLL, inlR]) (by first | rfl | simp [upd_ap, hpL_ap, tau, mapT, mapTL, bytesI_len, eq_true c119, eq_true c120, eq_true c139, eq_false c140])) (.cons (.eq (by first | rfl | simp only [go_sem]) (by first | rfl | simp [upd_ap, hpL_ap, tau, mapT, mapTL, bytesI_len, eq_true c119, eq_true c120, eq_true c139, eq_false c140])) (.nil _))))))))
          · rw [if_neg c139] at h
            refine AW.regL [0, 2, 4, 5, 6, 7, 8, 9, 64] ?_
            generalize hK : AW Try.prog _ _ _ = K
            simp only [go_sem, ↓reduceIte, reduceCtorEq, Nat.reduceAdd, Nat.reduceSub, Nat.reduceMul, Nat.reduceEqDiff, Nat.reduceLT, Nat.reduceLeDiff, Nat.reduceBEq, Int.reduceAdd, Int.reduceSub, Int.reduceLT, Int.reduceLE, Int.reduceEq, Int.reduceToNat, eq_true c119, eq_true c120, eq_false c139]
            subst hK
            refine AW.ifBF rfl rfl ?_
            refine AW.exit ?_
            refine thenA_x ?_
            refine thenA_x ?_
            refine ⟨_, (Option.some.inj h).symm, _, ?_, rfl, rfl⟩
            refine Ent.can [8, 9, 10, 11, 12, 13, 14, 15] _ _ _ rfl (by first | decide | simp) rfl ?_ ?_ ?_
            · exact (((((((RF.any.pv (by first | rfl | simp only [go_sem]) (by first | rfl | simp [upd_ap, hpL_ap, tau, mapT, mapTL, bytesI_len, eq_true c119, eq_true c120, eq_false c139])).pp (by decide) (by first | rfl | simp [upd_ap, hpL_ap, tau, mapT, mapTL, bytesI_len, eq_true c119, eq_true c120, eq_false c139])).pp (by decide) (by first | rfl | simp [upd_ap, hpL_ap, tau, mapT, mapTL, bytesI_len, eq_true c119, eq_true c120, eq_false c139])).put (by simp [tokL, tokLL, inlR]) (.of (by first | rfl | simp [upd_ap, hpL_ap, tau, mapT, mapTL, bytesI_len, eq_true c119, eq_true c120, eq_false c139]))).pp (by decide) (by first | rfl | simp [upd_ap, hpL_ap, tau, mapT, mapTL, bytesI_len, eq_true c119, eq_true c120, eq_false c139])).pv (by first | rfl | simp only [go_sem]) (by first | rfl | simp [upd_ap, hpL_ap, tau, mapT, mapTL, bytesI_len, eq_true c119, eq_true c120, eq_false c139])).pp (by decide) (by first | rfl | simp [upd_ap, hpL_ap, tau, mapT, mapTL, bytesI_len, eq_true c119, eq_true c120, eq_false c139]))
            · exact .nil _
            · exact .cons (.eq (by first | rfl | simp only [go_sem]) (by first | rfl | simp [upd_ap, hpL_ap, tau, mapT, mapTL, bytesI_len, eq_true c119, eq_true c120, eq_false c139])) (.cons (.eq (by first | rfl | simp only [go_sem]) (by first | rfl | simp [upd_ap, hpL_ap, tau, mapT, mapTL, bytesI_len, eq_true c119, eq_true c120, eq_false c139])) (.cons (.tok (by simp [tokL, tokLL, inlR]) (by first | rfl | simp [upd_ap, hpL_ap, tau, mapT, mapTL, bytesI_len, eq_true c119, eq_true c120, eq_false c139])) (.cons (.eq (by first | rfl | simp only [go_sem]) (by first | rfl | simp [upd_ap, hpL_ap, tau, mapT, mapTL, bytesI_len, eq_true c119, eq_true c120, eq_false c139])) (.cons (.eq (by first | rfl | simp only [go_sem]) (by first | rfl | simp [upd_ap, hpL_ap, tau, mapT, mapTL, bytesI_len, eq_true c119, eq_true c120, eq_false c139])) (.cons (.eq (by first | rfl | simp only [go_sem]) (by first | rfl | simp [upd_ap, hpL_ap, tau, mapT, mapTL, bytesI_len, eq_true c119, eq_true c120, eq_false c139])) (.cons (.tok (by simp [tokL, tokLL, inlR]) (by first | rfl | simp [upd_ap, hpL_ap, tau, mapT, mapTL, bytesI_len, eq_true c119, eq_true c120, eq_false c139])) (.cons (.eq (by first | rfl | simp only [go_sem]) (by first | rfl | simp [upd_ap, hpL_ap, tau, mapT, mapTL, bytesI_len, eq_true c119, eq_true c120, eq_false c139])) (.nil _))))))))
        · intro e st' hX
          obtain ⟨y144, y145, y146, y147⟩ := y143
          try dsimp only at h
          try dsimp only at hX
          obtain ⟨rfl, rfl⟩ := hX
          refine ⟨_, Ent.refl, ?_⟩
          refine block_x ?_
          refine thenA_n ?_
          refine AW.ent (Ent.stillObj (pre := [.val (.int .i64 x121.1), .val (.int .i64 x122.1), .val (.int .i64 x123.1), .val (.int .i64 x124.1)]) (post := []) (q := 15) (off := 0) (len := y147.length) 14 rfl (own_sl (sz := 1) (m := true) rfl (by first | rfl | simp [bytesI_len]) (by simp only [go_sem])) (by decide)) ?_
          obtain ⟨x148, hx148, h⟩ := Option.bind_eq_some_iff.1 h
          obtain ⟨hx148b, hx148e⟩ := appO?_some.1 hx148
          have hx148f : ∀ id o : Nat, appO 5 56 id ([[.val (.int .i64 x121.1), .val (.int .i64 x122.1), .val (.int .i64 x123.1), .val (.int .i64 x124.1), .sl (List.map enc3 y147)]]) 0 s4_3.length o (some (.row 5 true (List.map encStep s4_3))) = some ⟨.own id 0 x148.length, [(o, none), (id, some (.row 5 true (List.map encStep x148)))]⟩ := fun id o => by
            subst hx148e; rw [appO_ok (by simp) (by simpa using hx148b) (by decide)]; first | (simp [encStep]; done) | (simp [encStep]; omega)
          refine AW.regionL [0, 2, 4, 5, 6, 7] ?_
          generalize hK : inBlockA _ _ Exit.normal = K
          simp only [go_sem, ↓reduceIte, reduceCtorEq, Nat.reduceAdd, Nat.reduceSub, Nat.reduceMul, Nat.reduceEqDiff, Nat.reduceLT, Nat.reduceLeDiff, Nat.reduceBEq, Int.reduceAdd, Int.reduceSub, Int.reduceLT, Int.reduceLE, Int.reduceEq, Int.reduceToNat, eq_true c119, eq_true c120, hx148f]
          subst hK
          refine block_n ?_
          refine thenA_n ?_
          refine AW.regionL [0, 2, 4, 5, 6, 7] ?_
          generalize hK : thenA _ _ Exit.normal = K
          simp only [go_sem, ↓reduceIte, reduceCtorEq, Nat.reduceAdd, Nat.reduceSub, Nat.reduceMul, Nat.reduceEqDiff, Nat.reduceLT, Nat.reduceLeDiff, Nat.reduceBEq, Int.reduceAdd, Int.reduceSub, Int.reduceLT, Int.reduceLE, Int.reduceEq, Int.reduceToNat, eq_true c119, eq_true c120]
          subst hK
          refine thenA_n ?_
          refine ⟨_, (Option.some.inj h).symm, ?_⟩
          refine Ent.can [8, 9, 10, 11, 12, 48] _ _ _ rfl (by first | decide | simp) rfl ?_ ?_ ?_
          · exact ((((((RF.any.pv (by first | rfl | simp only [go_sem]) (by first | rfl | simp [upd_ap, hpL_ap, tau, mapT, mapTL, bytesI_len, eq_true c119, eq_true c120])).pp (by decide) (by first | rfl | simp [upd_ap, hpL_ap, tau, mapT, mapTL, bytesI_len, eq_true c119, eq_true c120])).pp (by decide) (by first | rfl | simp [upd_ap, hpL_ap, tau, mapT, mapTL, bytesI_len, eq_true c119, eq_true c120])).put (by simp [tokL, tokLL, inlR]) (.of (by first | rfl | simp [upd_ap, hpL_ap, tau, mapT, mapTL, bytesI_len, eq_true c119, eq_true c120]))).pp (by decide) (by first | rfl | simp [upd_ap, hpL_ap, tau, mapT, mapTL, bytesI_len, eq_true c119, eq_true c120])).pv (by first | rfl | simp only [go_sem]) (by first | rfl | simp [upd_ap, hpL_ap, tau, mapT, mapTL, bytesI_len, eq_true c119, eq_true c120]))
          · exact .nil _
          · exact .cons (.eq (by first | rfl | simp only [go_sem]) (by first | rfl | simp [upd_ap, hpL_ap, tau, mapT, mapTL, bytesI_len, eq_true c119, eq_true c120])) (.cons (.eq (by first | rfl | simp only [go_sem]) (by first | rfl | simp [upd_ap, hpL_ap, tau, mapT, mapTL, bytesI_len, eq_true c119, eq_true c120])) (.cons (.tok (by simp [tokL, tokLL, inlR]) (by first | rfl | simp [upd_ap, hpL_ap, tau, mapT, mapTL, bytesI_len, eq_true c119, eq_true c120])) (.cons (.eq (by first | rfl | simp only [go_sem]) (by first | rfl | simp [upd_ap, hpL_ap, tau, mapT, mapTL, bytesI_len, eq_true c119, eq_true c120])) (.cons (.eq (by first | rfl | simp only [go_sem]) (by first | rfl | simp [upd_ap, hpL_ap, tau, mapT, mapTL, bytesI_len, eq_true c119, eq_true c120])) (.cons (.eq (by first | rfl | simp only [go_sem]) (by first | rfl | simp [upd_ap, hpL_ap, tau, mapT, mapTL, bytesI_len, eq_true c119, eq_true c120])) (.nil _))))))
      · rw [if_neg c120] at h
        refine AW.ifF rfl c120 ?_
        refine AW.exit ?_
        refine thenA_x ?_
        refine thenA_x ?_
        refine ⟨_, (Option.some.inj h).symm, _, ?_, rfl, rfl⟩
        refine Ent.can [8, 9, 10, 11, 12, 13] _ _ _ rfl (by first | decide | simp) rfl ?_ ?_ ?_
        · exact ((((RF.any.pv (by first | rfl | simp only [go_sem]) (by first | rfl | simp [upd_ap, hpL_ap, tau, mapT, mapTL, bytesI_len, eq_true c119, eq_false c120])).pp (by decide) (by first | rfl | simp [upd_ap, hpL_ap, tau, mapT, mapTL, bytesI_len, eq_true c119, eq_false c120])).pp (by decide) (by first | rfl | simp [upd_ap, hpL_ap, tau, mapT, mapTL, bytesI_len, eq_true c119, eq_false c120])).pp (by decide) (by first | rfl | simp [upd_ap, hpL_ap, tau, mapT, mapTL, bytesI_len, eq_true c119, eq_false c120]))
        · exact .nil _
        · exact .cons (.eq (by first | rfl | simp only [go_sem]) (by first | rfl | simp [upd_ap, hpL_ap, tau, mapT, mapTL, bytesI_len, eq_true c119, eq_false c120])) (.cons (.eq (by first | rfl | simp only [go_sem]) (by first | rfl | simp [upd_ap, hpL_ap, tau, mapT, mapTL, bytesI_len, eq_true c119, eq_false c120])) (.cons (.tok (by simp [tokL, tokLL, inlR]) (by first | rfl | simp [upd_ap, hpL_ap, tau, mapT, mapTL, bytesI_len, eq_true c119, eq_false c120])) (.cons (.eq (by first | rfl | simp only [go_sem]) (by first | rfl | simp [upd_ap, hpL_ap, tau, mapT, mapTL, bytesI_len, eq_true c119, eq_false c120])) (.cons (.eq (by first | rfl | simp only [go_sem]) (by first | rfl | simp [upd_ap, hpL_ap, tau, mapT, mapTL, bytesI_len, eq_true c119, eq_false c120])) (.cons (.eq (by first | rfl | simp only [go_sem]) (by first | rfl | simp [upd_ap, hpL_ap, tau, mapT, mapTL, bytesI_len, eq_true c119, eq_false c120])) (.nil _))))))
    · rw [if_neg c119] at h
      refine AW.regL [0, 2, 4, 5, 6, 7, 42] ?_
      generalize hK : AW Try.prog _ _ _ = K
      simp only [go_sem, ↓reduceIte, reduceCtorEq, Nat.reduceAdd, Nat.reduceSub, Nat.reduceMul, Nat.reduceEqDiff, Nat.reduceLT, Nat.reduceLeDiff, Nat.reduceBEq, Int.reduceAdd, Int.reduceSub, Int.reduceLT, Int.reduceLE, Int.reduceEq, Int.reduceToNat, eq_false c119]
      subst hK
      refine AW.ifBF rfl rfl ?_
      refine AW.exit ?_
      refine thenA_x ?_
      refine thenA_x ?_
      refine ⟨_, (Option.some.inj h).symm, _, ?_, rfl, rfl⟩
      refine Ent.can [8, 9, 10, 11, 12, 13] _ _ _ rfl (by first | decide | simp) rfl ?_ ?_ ?_
      · exact ((((RF.any.pv (by first | rfl | simp only [go_sem]) (by first | rfl | simp [upd_ap, hpL_ap, tau, mapT, mapTL, bytesI_len, eq_false c119])).pp (by decide) (by first | rfl | simp [upd_ap, hpL_ap, tau, mapT, mapTL, bytesI_len, eq_false c119])).pp (by decide) (by first | rfl | simp [upd_ap, hpL_ap, tau, mapT, mapTL, bytesI_len, eq_false c119])).pp (by decide) (by first | rfl | simp [upd_ap, hpL_ap, tau, mapT, mapTL, bytesI_len, eq_false c119]))
      · exact .nil _
      · exact .cons (.eq (by first | rfl | simp only [go_sem]) (by first | rfl | simp [upd_ap, hpL_ap, tau, mapT, mapTL, bytesI_len, eq_false c119])) (.cons (.eq (by first | rfl | simp only [go_sem]) (by first | rfl | simp [upd_ap, hpL_ap, tau, mapT, mapTL, bytesI_len, eq_false c119])) (.cons (.tok (by simp [tokL, tokLL, inlR]) (by first | rfl | simp [upd_ap, hpL_ap, tau, mapT, mapTL, bytesI_len, eq_false c119])) (.cons (.eq (by first | rfl | simp only [go_sem]) (by first | rfl | simp [upd_ap, hpL_ap, tau, mapT, mapTL, bytesI_len, eq_false c119])) (.cons (.eq (by first | rfl | simp only [go_sem]) (by first | rfl | simp [upd_ap, hpL_ap, tau, mapT, mapTL, bytesI_len, eq_false c119])) (.cons (.eq (by first | rfl | simp only [go_sem]) (by first | rfl | simp [upd_ap, hpL_ap, tau, mapT, mapTL, bytesI_len, eq_false c119])) (.nil _))))))
  · intro e st' hX
    obtain ⟨y150, y151, y152, y153⟩ := y149
    try dsimp only at h
    try dsimp only at hX
    obtain ⟨rfl, rfl⟩ := hX
    refine ⟨_, Ent.refl, ?_⟩
    refine block_x ?_
    refine thenA_n ?_
    refine AW.join (fun s => ⟨(upd (upd (upd anyF 2 (.ptr 8 0 0)) 4 (.ptr 9 0 0)) 6 (.ptr 10 0 0)), hpL [] [some (.row 8 true [[.val (.slice none 0 0), .val (.slice none 0 0), .val (.int .i64 0), .val (.int .i64 0), .val (.int .i64 0), .val (.int .i64 0), .val (.int .i64 0), .val (.slice none 0 0)]]), some (.row 3 true [[.sl (List.map enc5 y150), .val (.int .i64 y151), .val (.int .i64 s)]]), some (.row 8 true [[.own 11 0 x1.1.length, .own 12 0 x2.1.length, .val (.int .i64 x3.1), .val (.int .i64 x4.1), .val (.int .i64 x5.1), .val (.int .i64 x6.1), .val (.int .i64 x7.1), .own 13 0 y153.length]]), some (.row 1 true (List.map enc5 x1.1)), some (.row 1 true (List.map enc5 x2.1)), some (.row 5 true (List.map encStep y153))], 14⟩) (fun s => f24_j1 x1 x2 x3 x4 x5 x6 x7 y153 s = some r) ?_ ?_
    · by_cases c157 : y152 = 0
      · rw [if_pos c157] at h
        refine AW.regL [2, 4, 6, 93] ?_
        generalize hK : AW Try.prog _ _ _ = K
        simp only [go_sem, ↓reduceIte, reduceCtorEq, Nat.reduceAdd, Nat.reduceSub, Nat.reduceMul, Nat.reduceEqDiff, Nat.reduceLT, Nat.reduceLeDiff, Nat.reduceBEq, Int.reduceAdd, Int.reduceSub, Int.reduceLT, Int.reduceLE, Int.reduceEq, Int.reduceToNat, eq_true c157]
        subst hK
        by_cases c158 : y151 < (a0.length : Int)
        · rw [if_pos c158] at h
          refine AW.ifT rfl c158 ?_
          refine AW.regionL [2, 4, 6] ?_
          generalize hK : thenA _ _ Exit.normal = K
          simp only [go_sem, ↓reduceIte, reduceCtorEq, Nat.reduceAdd, Nat.reduceSub, Nat.reduceMul, Nat.reduceEqDiff, Nat.reduceLT, Nat.reduceLeDiff, Nat.reduceBEq, Int.reduceAdd, Int.reduceSub, Int.reduceLT, Int.reduceLE, Int.reduceEq, Int.reduceToNat, eq_true c157, eq_true c158]
          subst hK
          refine thenA_n ?_
          refine ⟨_, h, ?_⟩
          refine Ent.can [8, 9, 10, 11, 12, 13] _ _ _ rfl (by first | decide | simp) rfl ?_ ?_ ?_
          · exact (((RF.any.pp (by decide) (by first | rfl | simp [upd_ap, hpL_ap, tau, mapT, mapTL, bytesI_len, eq_true c157, eq_true c158])).pp (by decide) (by first | rfl | simp [upd_ap, hpL_ap, tau, mapT, mapTL, bytesI_len, eq_true c157, eq_true c158])).pp (by decide) (by first | rfl | simp [upd_ap, hpL_ap, tau, mapT, mapTL, bytesI_len, eq_true c157, eq_true c158]))
          · exact .nil _
          · exact .cons (.eq (by first | rfl | simp only [go_sem]) (by first | rfl | simp [upd_ap, hpL_ap, tau, mapT, mapTL, bytesI_len, eq_true c157, eq_true c158])) (.cons (.eq (by first | rfl | simp only [go_sem]) (by first | rfl | simp [upd_ap, hpL_ap, tau, mapT, mapTL, bytesI_len, eq_true c157, eq_true c158])) (.cons (.tok (by simp [tokL, tokLL, inlR]) (by first | rfl | simp [upd_ap, hpL_ap, tau, mapT, mapTL, bytesI_len, eq_true c157, eq_true c158])) (.cons (.eq (by first | rfl | simp only [go_sem]) (by first | rfl | simp [upd_ap, hpL_ap, tau, mapT, mapTL, bytesI_len, eq_true c157, eq_true c158])) (.cons (.eq (by first | rfl | simp only [go_sem]) (by first | rfl | simp [upd_ap, hpL_ap, tau, mapT, mapTL, bytesI_len, eq_true c157, eq_true c158])) (.cons (.eq (by first | rfl | simp only [go_sem]) (by first | rfl | simp [upd_ap, hpL_ap, tau, mapT, mapTL, bytesI_len, eq_true c157, eq_true c158])) (.nil _))))))
        · rw [if_neg c158] at h
          refine AW.ifF rfl c158 ?_
          refine AW.skip ?_
          refine thenA_n ?_
          refine ⟨_, h, ?_⟩
          refine Ent.can [8, 9, 10, 11, 12, 13] _ _ _ rfl (by first | decide | simp) rfl ?_ ?_ ?_
          · exact (((RF.any.pp (by decide) (by first | rfl | simp [upd_ap, hpL_ap, tau, mapT, mapTL, bytesI_len, eq_true c157, eq_false c158])).pp (by decide) (by first | rfl | simp [upd_ap, hpL_ap, tau, mapT, mapTL, bytesI_len, eq_true c157, eq_false c158])).pp (by decide) (by first | rfl | simp [upd_ap, hpL_ap, tau, mapT, mapTL, bytesI_len, eq_true c157, eq_false c158]))
          · exact .nil _
          · exact .cons (.eq (by first | rfl | simp only [go_sem]) (by first | rfl | simp [upd_ap, hpL_ap, tau, mapT, mapTL, bytesI_len, eq_true c157, eq_false c158])) (.cons (.eq (by first | rfl | simp only [go_sem]) (by first | rfl | simp [upd_ap, hpL_ap, tau, mapT, mapTL, bytesI_len, eq_true c157, eq_false c158])) (.cons (.tok (by simp [tokL, tokLL, inlR]) (by first | rfl | simp [upd_ap, hpL_ap, tau, mapT, mapTL, bytesI_len, eq_true c157, eq_false c158])) (.cons (.eq (by first | rfl | simp only [go_sem]) (by first | rfl | simp [upd_ap, hpL_ap, tau, mapT, mapTL, bytesI_len, eq_true c157, eq_false c158])) (.cons (.eq (by first | rfl | simp only [go_sem]) (by first | rfl | simp [upd_ap, hpL_ap, tau, mapT, mapTL, bytesI_len, eq_true c157, eq_false c158])) (.cons (.eq (by first | rfl | simp only [go_sem]) (by first | rfl | simp [upd_ap, hpL_ap, tau, mapT, mapTL, bytesI_len, eq_true c157, eq_false c158])) (.nil _))))))
      · rw [if_neg c157] at h
        refine AW.regL [2, 4, 6, 93] ?_
        generalize hK : AW Try.prog _ _ _ = K
        simp only [go_sem, ↓reduceIte, reduceCtorEq, Nat.reduceAdd, Nat.reduceSub, Nat.reduceMul, Nat.reduceEqDiff, Nat.reduceLT, Nat.reduceLeDiff, Nat.reduceBEq, Int.reduceAdd, Int.reduceSub, Int.reduceLT, Int.reduceLE, Int.reduceEq, Int.reduceToNat, eq_false c157]
        subst hK
        refine AW.ifBF rfl rfl ?_
        refine AW.skip ?_
        refine thenA_n ?_
        refine ⟨_, h, ?_⟩
        refine Ent.can [8, 9, 10, 11, 12, 13] _ _ _ rfl (by first | decide | simp) rfl ?_ ?_ ?_
        · exact (((RF.any.pp (by decide) (by first | rfl | simp [upd_ap, hpL_ap, tau, mapT, mapTL, bytesI_len, eq_false c157])).pp (by decide) (by first | rfl | simp [upd_ap, hpL_ap, tau, mapT, mapTL, bytesI_len, eq_false c157])).pp (by decide) (by first | rfl | simp [upd_ap, hpL_ap, tau, mapT, mapTL, bytesI_len, eq_false c157]))
        · exact .nil _
        · exact .cons (.eq (by first | rfl | simp only [go_sem]) (by first | rfl | simp [upd_ap, hpL_ap, tau, mapT, mapTL, bytesI_len, eq_false c157])) (.cons (.eq (by first | rfl | simp only [go_sem]) (by first | rfl | simp [upd_ap, hpL_ap, tau, mapT, mapTL, bytesI_len, eq_false c157])) (.cons (.tok (by simp [tokL, tokLL, inlR]) (by first | rfl | simp [upd_ap, hpL_ap, tau, mapT, mapTL, bytesI_len, eq_false c157])) (.cons (.eq (by first | rfl | simp only [go_sem]) (by first | rfl | simp [upd_ap, hpL_ap, tau, mapT, mapTL, bytesI_len, eq_false c157])) (.cons (.eq (by first | rfl | simp only [go_sem]) (by first | rfl | simp [upd_ap, hpL_ap, tau, mapT, mapTL, bytesI_len, eq_false c157])) (.cons (.eq (by first | rfl | simp only [go_sem]) (by first | rfl | simp [upd_ap, hpL_ap, tau, mapT, mapTL, bytesI_len, eq_false c157])) (.nil _))))))
    · clear h
      rintro j1_0 h
      rw [f24_j1] at h
      refine AW.seq ?_
      refine AW.regL [2, 4, 6, 101] ?_
      generalize hK : AW Try.prog _ _ _ = K
      simp only [go_sem, ↓reduceIte, reduceCtorEq, Nat.reduceAdd, Nat.reduceSub, Nat.reduceMul, Nat.reduceEqDiff, Nat.reduceLT, Nat.reduceLeDiff, Nat.reduceBEq, Int.reduceAdd, Int.reduceSub, Int.reduceLT, Int.reduceLE, Int.reduceEq, Int.reduceToNat]
      subst hK
      by_cases c156 : j1_0 = 0
      · rw [if_pos c156] at h
        refine AW.ifF rfl (fun q => q c156) ?_
        refine AW.skip ?_
        refine thenA_n ?_
        refine AW.regL [2, 3] ?_
        generalize hK : AW Try.prog _ _ _ = K
        simp only [go_sem, ↓reduceIte, reduceCtorEq, Nat.reduceAdd, Nat.reduceSub, Nat.reduceMul, Nat.reduceEqDiff, Nat.reduceLT, Nat.reduceLeDiff, Nat.reduceBEq, Int.reduceAdd, Int.reduceSub, Int.reduceLT, Int.reduceLE, Int.reduceEq, Int.reduceToNat, eq_true c156]
        subst hK
        refine AW.ent (Ent.stillObj (pre := []) (post := [.own 12 0 x2.1.length, .val (.int .i64 x3.1), .val (.int .i64 x4.1), .val (.int .i64 x5.1), .val (.int .i64 x6.1), .val (.int .i64 x7.1), .own 13 0 y153.length]) (q := 11) (off := 0) (len := x1.1.length) 8 rfl (own_sl (sz := 1) (m := true) rfl (by first | rfl | simp [bytesI_len]) (by simp only [go_sem])) (by decide)) ?_
        refine AW.ent (Ent.stillObj (pre := [.sl (List.map enc5 x1.1)]) (post := [.val (.int .i64 x3.1), .val (.int .i64 x4.1), .val (.int .i64 x5.1), .val (.int .i64 x6.1), .val (.int .i64 x7.1), .own 13 0 y153.length]) (q := 12) (off := 0) (len := x2.1.length) 8 rfl (own_sl (sz := 1) (m := true) rfl (by first | rfl | simp [bytesI_len]) (by simp only [go_sem])) (by decide)) ?_
        refine AW.ent (Ent.stillObj (pre := [.sl (List.map enc5 x1.1), .sl (List.map enc5 x2.1), .val (.int .i64 x3.1), .val (.int .i64 x4.1), .val (.int .i64 x5.1), .val (.int .i64 x6.1), .val (.int .i64 x7.1)]) (post := []) (q := 13) (off := 0) (len := y153.length) 8 rfl (own_sl (sz := 5) (m := true) rfl (by first | rfl | simp [bytesI_len]) (by simp only [go_sem])) (by decide)) ?_
        refine AW.ret ?_
        obtain rfl := Option.some.inj h
        (simp only [go_sem, ↓reduceIte, reduceCtorEq, Nat.reduceAdd, Nat.reduceSub, Nat.reduceMul, Nat.reduceEqDiff, Nat.reduceLT, Nat.reduceLeDiff, Nat.reduceBEq, Int.reduceAdd, Int.reduceSub, Int.reduceLT, Int.reduceLE, Int.reduceEq, Int.reduceToNat, eq_true c156, finA, resA, resOf_1, resOf_2, sealV_val, sealV_sl, sealV_ip, sealV_agg, sealV_tup, sealV_own, sealL_nil, sealL_cons] <;> try simp)
      · rw [if_neg c156] at h
        refine AW.ifT rfl c156 ?_
        refine AW.regdL [2, 3] [[], [], [1], [1, 2], [1, 2, 3], [0], [0, 1, 2, 3, 4, 5]] [0, 1, 2, 3, 4, 5, 6] noFt (fun _ _ _ h => by simp [noFt] at h) draws (by kernel_rfl) (by kernel_rfl) ?_
        generalize hK : AW Try.prog _ _ _ = K
        simp only [go_sem, ↓reduceIte, reduceCtorEq, Nat.reduceAdd, Nat.reduceSub, Nat.reduceMul, Nat.reduceEqDiff, Nat.reduceLT, Nat.reduceLeDiff, Nat.reduceBEq, Int.reduceAdd, Int.reduceSub, Int.reduceLT, Int.reduceLE, Int.reduceEq, Int.reduceToNat, eq_false c156]
        subst hK
        refine AW.ent (Ent.weakObj 8 rfl rfl (.cons Weak.nil (.cons Weak.nil (.cons (.of rfl) (.cons (.of rfl) (.cons (.of rfl) (.cons (.of rfl) (.cons (.of rfl) (.cons Weak.nil WeakL.nil))))))))) ?_
        refine AW.ret ?_
        refine thenA_r ?_
        obtain rfl := Option.some.inj h
        (simp only [go_sem, ↓reduceIte, reduceCtorEq, Nat.reduceAdd, Nat.reduceSub, Nat.reduceMul, Nat.reduceEqDiff, Nat.reduceLT, Nat.reduceLeDiff, Nat.reduceBEq, Int.reduceAdd, Int.reduceSub, Int.reduceLT, Int.reduceLE, Int.reduceEq, Int.reduceToNat, eq_false c156, finA, resA, resOf_1, resOf_2, sealV_val, sealV_sl, sealV_ip, sealV_agg, sealV_tup, sealV_own, sealL_nil, sealL_cons] <;> try simp)
end Au
end Go.Proofs.Y1
