import Derived.Test.YtlonihmeikmpiaaGpW1
set_option linter.all false
set_option linter.unusedVariables false
set_option linter.unusedSimpArgs false
set_option linter.all false
set_option maxRecDepth 8000
namespace Go.Proofs.Y1
open Go.Gm
namespace Au
noncomputable def f121 (a0 : List Int) : Option (List Int) := appO? [] a0
theorem ok121 (a0 : List Int) (r : List Int) (h : f121 a0 = some r) : PC Try.prog 121 [.sl (List.map enc5 a0)] (.fr 1 (List.map enc5 r)) := by
  obtain ⟨hl, hr⟩ := appO?_some.1 h
  rw [List.nil_append] at hr
  subst hr
  have hb : a0.length ≤ 34359738368 := by simpa using hl
  refine pc_of (N := 8) (rs := [.tmp 2]) Try.func121 rfl rfl rfl (Nat.le_of_ble_eq_true rfl) ?_
  refine AW.reg ?_
  generalize hK : AW Try.prog _ _ _ = K
  simp only [go_sem, ↓reduceIte, reduceCtorEq, Nat.reduceAdd, Nat.reduceSub, Nat.reduceMul, Nat.reduceEqDiff, Nat.reduceLT, Nat.reduceLeDiff, Nat.reduceBEq, Int.reduceAdd, Int.reduceSub, Int.reduceLT, Int.reduceLE, Int.reduceEq, Int.reduceToNat]
  subst hK
  refine AW.seq ?_
  refine AW.nilq el41 rfl (by decide) (by decide) (fun bn hbn => ?_)
  refine AW.if rfl (fun hc4 => ?_) (fun hc4 => ?_)
  · have hl0 : a0 = [] := by simpa using hbn (by simpa using hc4)
    subst hl0
    refine AW.reg ?_
    generalize hK : AW Try.prog _ _ _ = K
    simp only [go_sem, ↓reduceIte, reduceCtorEq, Nat.reduceAdd, Nat.reduceSub, Nat.reduceMul, Nat.reduceEqDiff, Nat.reduceLT, Nat.reduceLeDiff, Nat.reduceBEq, Int.reduceAdd, Int.reduceSub, Int.reduceLT, Int.reduceLE, Int.reduceEq, Int.reduceToNat]
    subst hK
    refine AW.ent (Ent.nilOwn 2 1 (by decide) rfl) ?_
    refine AW.ret ?_
    refine thenA_r ?_
    exact fin_own (.inl rfl) rfl (by simp only [upd_ap, if_true]; rfl) rfl rfl rfl
  · refine AW.skip ?_
    refine thenA_n ?_
    refine AW.reg ?_
    generalize hK : AW Try.prog _ _ _ = K
    simp (disch := first | omega | (simp only [List.length_map, List.length_cons, List.length_nil, List.length_append] <;> omega)) only [go_sem, ↓reduceIte, reduceCtorEq, Nat.reduceAdd, Nat.reduceSub, Nat.reduceMul, Nat.reduceEqDiff, Nat.reduceLT, Nat.reduceLeDiff, Nat.reduceBEq, Int.reduceAdd, Int.reduceSub, Int.reduceLT, Int.reduceLE, Int.reduceEq, Int.reduceToNat]
    subst hK
    refine AW.ret ?_
    exact fin_own (.inl rfl) rfl (by simp only [upd_ap]; rfl) (by simp) (by simp only [go_sem]) rfl

end Au
end Go.Proofs.Y1

set_option linter.all false
set_option maxRecDepth 8000
namespace Go.Proofs.Y1
open Go.Gm
namespace Au
noncomputable def f87_s1 (a1 : Int) (j1_1 : Int) (j1_2 : Int) : (List Int) × Int → Option (((List Int) × Int) ⊕ (List Int))
  | (s1_0, s1_1) => (if s1_1 < j1_1 then ((guardO (0 ≤ (IntKind.i64.wrap (8 * (IntKind.i64.wrap ((IntKind.i64.wrap (j1_1 - 1)) - s1_1)))))).bind fun x21 => (if s1_1 = 0 then ((appO? s1_0 [orV .u8 (IntKind.u8.wrap (shrV .u64 a1 (IntKind.i64.wrap (8 * (IntKind.i64.wrap ((IntKind.i64.wrap (j1_1 - 1)) - s1_1)))).toNat)) j1_2]).bind fun x23 => some (.inl (x23, IntKind.i64.wrap (s1_1 + 1)))) else ((appO? s1_0 [IntKind.u8.wrap (shrV .u64 a1 (IntKind.i64.wrap (8 * (IntKind.i64.wrap ((IntKind.i64.wrap (j1_1 - 1)) - s1_1)))).toNat)]).bind fun x24 => some (.inl (x24, IntKind.i64.wrap (s1_1 + 1)))))) else some (.inr s1_0))
noncomputable def f87_j1 (a1 : Int) : (List Int) × Int × Int → Option (List Int)
  | (j1_0, j1_1, j1_2) => ((loopO (f87_s1 a1 j1_1 j1_2) (j1_0, 0)).bind fun y26 => some y26)
noncomputable def f87 (a0 : List Int) (a1 : Int) : Option (List Int) := ((f124 a1).bind fun x1 => ((f121 a0).bind fun x2 => ((guardO (0 ≤ (IntKind.i64.wrap (9 - x1)))).bind fun x3 => (if x1 = 9 then ((appO? x2 [255]).bind fun x28 => f87_j1 a1 (x28, 8, 0)) else f87_j1 a1 (x2, x1, (shlV .u8 255 (IntKind.i64.wrap (9 - x1)).toNat))))))
theorem ok87 (a0 : List Int) (a1 : Int) (r : (List Int)) (h : f87 a0 a1 = some r) : PC Try.prog 87 [.sl (List.map enc5 a0), .val (.int .u64 a1)] (.fr 1 (List.map enc5 r)) := by
  rw [f87] at h
  refine pc_of8 (N := 45) (rs := [.tmp 4]) Try.func87 rfl rfl rfl (Nat.le_of_ble_eq_true rfl) ?_
  refine AW.regL [0, 1] ?_
  generalize hK : AW Try.prog _ _ _ = K
  simp only [go_sem, ↓reduceIte, reduceCtorEq, Nat.reduceAdd, Nat.reduceSub, Nat.reduceMul, Nat.reduceEqDiff, Nat.reduceLT, Nat.reduceLeDiff, Nat.reduceBEq, Int.reduceAdd, Int.reduceSub, Int.reduceLT, Int.reduceLE, Int.reduceEq, Int.reduceToNat]
  subst hK
  obtain ⟨x1, hx1, h⟩ := Option.bind_eq_some_iff.1 h
  refine AW.regL [0, 1, 5] ?_
  generalize hK : AW Try.prog _ _ _ = K
  simp only [go_sem, ↓reduceIte, reduceCtorEq, Nat.reduceAdd, Nat.reduceSub, Nat.reduceMul, Nat.reduceEqDiff, Nat.reduceLT, Nat.reduceLeDiff, Nat.reduceBEq, Int.reduceAdd, Int.reduceSub, Int.reduceLT, Int.reduceLE, Int.reduceEq, Int.reduceToNat]
  refine arC.of (ok124 a1 x1 hx1) Try.call124 ?_
  simp only [go_sem, ↓reduceIte, reduceCtorEq, Nat.reduceAdd, Nat.reduceSub, Nat.reduceMul, Nat.reduceEqDiff, Nat.reduceLT, Nat.reduceLeDiff, Nat.reduceBEq, Int.reduceAdd, Int.reduceSub, Int.reduceLT, Int.reduceLE, Int.reduceEq, Int.reduceToNat]
  subst hK
  obtain ⟨x2, hx2, h⟩ := Option.bind_eq_some_iff.1 h
  refine AW.regL [1, 5, 6] ?_
  generalize hK : AW Try.prog _ _ _ = K
  simp only [go_sem, ↓reduceIte, reduceCtorEq, Nat.reduceAdd, Nat.reduceSub, Nat.reduceMul, Nat.reduceEqDiff, Nat.reduceLT, Nat.reduceLeDiff, Nat.reduceBEq, Int.reduceAdd, Int.reduceSub, Int.reduceLT, Int.reduceLE, Int.reduceEq, Int.reduceToNat]
  refine arC.of (ok121 a0 x2 hx2) Try.call121 ?_
  simp only [go_sem, ↓reduceIte, reduceCtorEq, Nat.reduceAdd, Nat.reduceSub, Nat.reduceMul, Nat.reduceEqDiff, Nat.reduceLT, Nat.reduceLeDiff, Nat.reduceBEq, Int.reduceAdd, Int.reduceSub, Int.reduceLT, Int.reduceLE, Int.reduceEq, Int.reduceToNat]
  subst hK
  obtain ⟨x3, hx3, h⟩ := Option.bind_eq_some_iff.1 h
  refine AW.regL [1, 5, 6, 7] ?_
  generalize hK : AW Try.prog _ _ _ = K
  simp only [go_sem, ↓reduceIte, reduceCtorEq, Nat.reduceAdd, Nat.reduceSub, Nat.reduceMul, Nat.reduceEqDiff, Nat.reduceLT, Nat.reduceLeDiff, Nat.reduceBEq, Int.reduceAdd, Int.reduceSub, Int.reduceLT, Int.reduceLE, Int.reduceEq, Int.reduceToNat, eq_false (Int.not_lt.2 (guardO_some.1 hx3))]
  subst hK
  refine AW.join (fun s => ⟨(upd (upd (upd (upd anyF 1 (.val (.int .u64 a1))) 5 (.val (.int .i64 s.2.1))) 6 (.own 8 0 s.1.length)) 7 (.val (.int .u8 s.2.2))), hpL [] [some (.row 1 true (List.map enc5 s.1))], 9⟩) (fun s => f87_j1 a1 s = some r) ?_ ?_
  · refine AW.regL [1, 5, 6, 7, 18] ?_
    generalize hK : AW Try.prog _ _ _ = K
    simp only [go_sem, ↓reduceIte, reduceCtorEq, Nat.reduceAdd, Nat.reduceSub, Nat.reduceMul, Nat.reduceEqDiff, Nat.reduceLT, Nat.reduceLeDiff, Nat.reduceBEq, Int.reduceAdd, Int.reduceSub, Int.reduceLT, Int.reduceLE, Int.reduceEq, Int.reduceToNat]
    subst hK
    by_cases c27 : x1 = 9
    · rw [if_pos c27] at h
      refine AW.ifT rfl c27 ?_
      obtain ⟨x28, hx28, h⟩ := Option.bind_eq_some_iff.1 h
      obtain ⟨hx28b, hx28e⟩ := appO?_some.1 hx28
      have hx28f : ∀ id o : Nat, appO 1 1 id ([[.val (.int .u8 255)]]) 0 x2.length o (some (.row 1 true (List.map enc5 x2))) = some ⟨.own id 0 x28.length, [(o, none), (id, some (.row 1 true (List.map enc5 x28)))]⟩ := fun id o => by
        subst hx28e; rw [appO_ok (by simp) (by simpa using hx28b) (by decide)]; first | (simp [enc5]; done) | (simp [enc5]; omega)
      refine AW.regL [1, 6] ?_
      generalize hK : AW Try.prog _ _ _ = K
      simp only [go_sem, ↓reduceIte, reduceCtorEq, Nat.reduceAdd, Nat.reduceSub, Nat.reduceMul, Nat.reduceEqDiff, Nat.reduceLT, Nat.reduceLeDiff, Nat.reduceBEq, Int.reduceAdd, Int.reduceSub, Int.reduceLT, Int.reduceLE, Int.reduceEq, Int.reduceToNat, eq_true c27, hx28f]
      subst hK
      refine AW.regionL [1, 5, 6, 7] ?_
      generalize hK : thenA _ _ Exit.normal = K
      simp only [go_sem, ↓reduceIte, reduceCtorEq, Nat.reduceAdd, Nat.reduceSub, Nat.reduceMul, Nat.reduceEqDiff, Nat.reduceLT, Nat.reduceLeDiff, Nat.reduceBEq, Int.reduceAdd, Int.reduceSub, Int.reduceLT, Int.reduceLE, Int.reduceEq, Int.reduceToNat, eq_true c27]
      subst hK
      refine thenA_n ?_
      refine ⟨_, h, ?_⟩
      refine Ent.can [128] _ _ _ rfl (by first | decide | simp) rfl ?_ ?_ ?_
      · exact ((((RF.any.pv (by first | rfl | simp only [go_sem]) (by first | rfl | simp [upd_ap, hpL_ap, tau, mapT, mapTL, bytesI_len, eq_true c27])).pv (by first | rfl | simp only [go_sem]) (by first | rfl | simp [upd_ap, hpL_ap, tau, mapT, mapTL, bytesI_len, eq_true c27])).po (by decide) (by first | rfl | simp [upd_ap, hpL_ap, tau, mapT, mapTL, bytesI_len, eq_true c27])).pv (by first | rfl | simp only [go_sem]) (by first | rfl | simp [upd_ap, hpL_ap, tau, mapT, mapTL, bytesI_len, eq_true c27]))
      · exact .nil _
      · exact .cons (.eq (by first | rfl | simp only [go_sem]) (by first | rfl | simp [upd_ap, hpL_ap, tau, mapT, mapTL, bytesI_len, eq_true c27])) (.nil _)
    · rw [if_neg c27] at h
      refine AW.ifF rfl c27 ?_
      refine AW.skip ?_
      refine thenA_n ?_
      refine ⟨_, h, ?_⟩
      refine Ent.can [48] _ _ _ rfl (by first | decide | simp) rfl ?_ ?_ ?_
      · exact ((((RF.any.pv (by first | rfl | simp only [go_sem]) (by first | rfl | simp [upd_ap, hpL_ap, tau, mapT, mapTL, bytesI_len, eq_false c27])).pv (by first | rfl | simp only [go_sem]) (by first | rfl | simp [upd_ap, hpL_ap, tau, mapT, mapTL, bytesI_len, eq_false c27])).po (by decide) (by first | rfl | simp [upd_ap, hpL_ap, tau, mapT, mapTL, bytesI_len, eq_false c27])).pv (by first | rfl | simp only [go_sem]) (by first | rfl | simp [upd_ap, hpL_ap, tau, mapT, mapTL, bytesI_len, eq_false c27]))
      · exact .nil _
      · exact .cons (.eq (by first | rfl | simp only [go_sem]) (by first | rfl | simp [upd_ap, hpL_ap, tau, mapT, mapTL, bytesI_len, eq_false c27])) (.nil _)
  · clear h
    rintro ⟨j1_0, j1_1, j1_2⟩ h
    rw [f87_j1] at h
    refine AW.seq ?_
    refine AW.regL [1, 5, 6, 7, 22, 23] ?_
    generalize hK : AW Try.prog _ _ _ = K
    simp only [go_sem, ↓reduceIte, reduceCtorEq, Nat.reduceAdd, Nat.reduceSub, Nat.reduceMul, Nat.reduceEqDiff, Nat.reduceLT, Nat.reduceLeDiff, Nat.reduceBEq, Int.reduceAdd, Int.reduceSub, Int.reduceLT, Int.reduceLE, Int.reduceEq, Int.reduceToNat]
    subst hK
    refine AW.block ?_
    obtain ⟨y26, hy26, h⟩ := Option.bind_eq_some_iff.1 h
    refine AW.loopO (fun s => ⟨(upd (upd (upd (upd (upd (upd anyF 1 (.val (.int .u64 a1))) 5 (.val (.int .i64 j1_1))) 6 (.own 8 0 s.1.length)) 7 (.val (.int .u8 j1_2))) 22 (.val (.int .i64 j1_1))) 23 (.val (.int .i64 s.2))), hpL [] [some (.row 1 true (List.map enc5 s.1))], 9⟩) (fun z e st' => e = Exit.exit 0 ∧ st' = ⟨(upd anyF 6 (.own 8 0 z.length)), hpL [] [some (.row 1 true (List.map enc5 z))], 9⟩) hy26 ?_ ?_ ?_
    · refine Ent.can [8] _ _ _ rfl (by first | decide | simp) rfl ?_ ?_ ?_
      · exact ((((((RF.any.pv (by first | rfl | simp only [go_sem]) (by first | rfl | simp [upd_ap, hpL_ap, tau, mapT, mapTL, bytesI_len])).pv (by first | rfl | simp only [go_sem]) (by first | rfl | simp [upd_ap, hpL_ap, tau, mapT, mapTL, bytesI_len])).po (by decide) (by first | rfl | simp [upd_ap, hpL_ap, tau, mapT, mapTL, bytesI_len])).pv (by first | rfl | simp only [go_sem]) (by first | rfl | simp [upd_ap, hpL_ap, tau, mapT, mapTL, bytesI_len])).pv (by first | rfl | simp only [go_sem]) (by first | rfl | simp [upd_ap, hpL_ap, tau, mapT, mapTL, bytesI_len])).pv (by first | rfl | simp only [go_sem]) (by first | rfl | simp [upd_ap, hpL_ap, tau, mapT, mapTL, bytesI_len]))
      · exact .nil _
      · exact .cons (.eq (by first | rfl | simp only [go_sem]) (by first | rfl | simp [upd_ap, hpL_ap, tau, mapT, mapTL, bytesI_len])) (.nil _)
    · clear h hy26
      rintro ⟨s1_0, s1_1⟩ x h
      rw [f87_s1] at h
      refine AW.regL [1, 5, 6, 7, 22, 23, 24] ?_
      generalize hK : AW Try.prog _ _ _ = K
      simp only [go_sem, ↓reduceIte, reduceCtorEq, Nat.reduceAdd, Nat.reduceSub, Nat.reduceMul, Nat.reduceEqDiff, Nat.reduceLT, Nat.reduceLeDiff, Nat.reduceBEq, Int.reduceAdd, Int.reduceSub, Int.reduceLT, Int.reduceLE, Int.reduceEq, Int.reduceToNat]
      subst hK
      refine AW.seq ?_
      by_cases c20 : s1_1 < j1_1
      · rw [if_pos c20] at h
        refine AW.ifT rfl c20 ?_
        refine AW.skip ?_
        refine thenA_n ?_
        refine AW.seq ?_
        refine AW.block ?_
        refine AW.regL [1, 5, 6, 7, 8, 22, 23] ?_
        generalize hK : AW Try.prog _ _ _ = K
        simp only [go_sem, ↓reduceIte, reduceCtorEq, Nat.reduceAdd, Nat.reduceSub, Nat.reduceMul, Nat.reduceEqDiff, Nat.reduceLT, Nat.reduceLeDiff, Nat.reduceBEq, Int.reduceAdd, Int.reduceSub, Int.reduceLT, Int.reduceLE, Int.reduceEq, Int.reduceToNat, eq_true c20]
        subst hK
        obtain ⟨x21, hx21, h⟩ := Option.bind_eq_some_iff.1 h
        refine AW.regL [1, 5, 6, 7, 8, 9, 22, 23] ?_
        generalize hK : AW Try.prog _ _ _ = K
        simp only [go_sem, ↓reduceIte, reduceCtorEq, Nat.reduceAdd, Nat.reduceSub, Nat.reduceMul, Nat.reduceEqDiff, Nat.reduceLT, Nat.reduceLeDiff, Nat.reduceBEq, Int.reduceAdd, Int.reduceSub, Int.reduceLT, Int.reduceLE, Int.reduceEq, Int.reduceToNat, eq_true c20, eq_false (Int.not_lt.2 (guardO_some.1 hx21))]
        subst hK
        refine AW.seq ?_
        refine AW.regL [1, 5, 6, 7, 9, 22, 23, 35] ?_
        generalize hK : AW Try.prog _ _ _ = K
        simp only [go_sem, ↓reduceIte, reduceCtorEq, Nat.reduceAdd, Nat.reduceSub, Nat.reduceMul, Nat.reduceEqDiff, Nat.reduceLT, Nat.reduceLeDiff, Nat.reduceBEq, Int.reduceAdd, Int.reduceSub, Int.reduceLT, Int.reduceLE, Int.reduceEq, Int.reduceToNat, eq_true c20]
        subst hK
        by_cases c22 : s1_1 = 0
        · rw [if_pos c22] at h
          refine AW.ifT rfl c22 ?_
          refine AW.regionL [1, 5, 6, 7, 9, 22, 23] ?_
          generalize hK : thenA _ _ Exit.normal = K
          simp only [go_sem, ↓reduceIte, reduceCtorEq, Nat.reduceAdd, Nat.reduceSub, Nat.reduceMul, Nat.reduceEqDiff, Nat.reduceLT, Nat.reduceLeDiff, Nat.reduceBEq, Int.reduceAdd, Int.reduceSub, Int.reduceLT, Int.reduceLE, Int.reduceEq, Int.reduceToNat, eq_true c20, eq_true c22]
          subst hK
          refine thenA_n ?_
          obtain ⟨x23, hx23, h⟩ := Option.bind_eq_some_iff.1 h
          obtain ⟨hx23b, hx23e⟩ := appO?_some.1 hx23
          have hx23f : ∀ id o : Nat, appO 1 1 id ([[.val (.int .u8 (orV .u8 (IntKind.u8.wrap (shrV .u64 a1 (IntKind.i64.wrap (8 * (IntKind.i64.wrap ((IntKind.i64.wrap (j1_1 - 1)) - s1_1)))).toNat)) j1_2))]]) 0 s1_0.length o (some (.row 1 true (List.map enc5 s1_0))) = some ⟨.own id 0 x23.length, [(o, none), (id, some (.row 1 true (List.map enc5 x23)))]⟩ := fun id o => by
            subst hx23e; rw [appO_ok (by simp) (by simpa using hx23b) (by decide)]; first | (simp [enc5]; done) | (simp [enc5]; omega)
          refine AW.regionL [1, 5, 6, 7, 22, 23] ?_
          generalize hK : inBlockA _ _ Exit.normal = K
          simp only [go_sem, ↓reduceIte, reduceCtorEq, Nat.reduceAdd, Nat.reduceSub, Nat.reduceMul, Nat.reduceEqDiff, Nat.reduceLT, Nat.reduceLeDiff, Nat.reduceBEq, Int.reduceAdd, Int.reduceSub, Int.reduceLT, Int.reduceLE, Int.reduceEq, Int.reduceToNat, eq_true c20, eq_true c22, hx23f]
          subst hK
          refine block_n ?_
          refine thenA_n ?_
          refine AW.regionL [1, 5, 6, 7, 22, 23] ?_
          generalize hK : thenA _ _ Exit.normal = K
          simp only [go_sem, ↓reduceIte, reduceCtorEq, Nat.reduceAdd, Nat.reduceSub, Nat.reduceMul, Nat.reduceEqDiff, Nat.reduceLT, Nat.reduceLeDiff, Nat.reduceBEq, Int.reduceAdd, Int.reduceSub, Int.reduceLT, Int.reduceLE, Int.reduceEq, Int.reduceToNat, eq_true c20, eq_true c22]
          subst hK
          refine thenA_n ?_
          refine ⟨_, (Option.some.inj h).symm, ?_⟩
          refine Ent.can [177] _ _ _ rfl (by first | decide | simp) rfl ?_ ?_ ?_
          · exact ((((((RF.any.pv (by first | rfl | simp only [go_sem]) (by first | rfl | simp [upd_ap, hpL_ap, tau, mapT, mapTL, bytesI_len, eq_true c20, eq_true c22])).pv (by first | rfl | simp only [go_sem]) (by first | rfl | simp [upd_ap, hpL_ap, tau, mapT, mapTL, bytesI_len, eq_true c20, eq_true c22])).po (by decide) (by first | rfl | simp [upd_ap, hpL_ap, tau, mapT, mapTL, bytesI_len, eq_true c20, eq_true c22])).pv (by first | rfl | simp only [go_sem]) (by first | rfl | simp [upd_ap, hpL_ap, tau, mapT, mapTL, bytesI_len, eq_true c20, eq_true c22])).pv (by first | rfl | simp only [go_sem]) (by first | rfl | simp [upd_ap, hpL_ap, tau, mapT, mapTL, bytesI_len, eq_true c20, eq_true c22])).pv (by first | rfl | simp only [go_sem]) (by first | rfl | simp [upd_ap, hpL_ap, tau, mapT, mapTL, bytesI_len, eq_true c20, eq_true c22]))
          · exact .nil _
          · exact .cons (.eq (by first | rfl | simp only [go_sem]) (by first | rfl | simp [upd_ap, hpL_ap, tau, mapT, mapTL, bytesI_len, eq_true c20, eq_true c22])) (.nil _)
        · rw [if_neg c22] at h
          refine AW.ifF rfl c22 ?_
          refine AW.skip ?_
          refine thenA_n ?_
          obtain ⟨x24, hx24, h⟩ := Option.bind_eq_some_iff.1 h
          obtain ⟨hx24b, hx24e⟩ := appO?_some.1 hx24
          have hx24f : ∀ id o : Nat, appO 1 1 id ([[.val (.int .u8 (IntKind.u8.wrap (shrV .u64 a1 (IntKind.i64.wrap (8 * (IntKind.i64.wrap ((IntKind.i64.wrap (j1_1 - 1)) - s1_1)))).toNat)))]]) 0 s1_0.length o (some (.row 1 true (List.map enc5 s1_0))) = some ⟨.own id 0 x24.length, [(o, none), (id, some (.row 1 true (List.map enc5 x24)))]⟩ := fun id o => by
            subst hx24e; rw [appO_ok (by simp) (by simpa using hx24b) (by decide)]; first | (simp [enc5]; done) | (simp [enc5]; omega)
          refine AW.regionL [1, 5, 6, 7, 22, 23] ?_
          generalize hK : inBlockA _ _ Exit.normal = K
          simp only [go_sem, ↓reduceIte, reduceCtorEq, Nat.reduceAdd, Nat.reduceSub, Nat.reduceMul, Nat.reduceEqDiff, Nat.reduceLT, Nat.reduceLeDiff, Nat.reduceBEq, Int.reduceAdd, Int.reduceSub, Int.reduceLT, Int.reduceLE, Int.reduceEq, Int.reduceToNat, eq_true c20, eq_false c22, hx24f]
          subst hK
          refine block_n ?_
          refine thenA_n ?_
          refine AW.regionL [1, 5, 6, 7, 22, 23] ?_
          generalize hK : thenA _ _ Exit.normal = K
          simp only [go_sem, ↓reduceIte, reduceCtorEq, Nat.reduceAdd, Nat.reduceSub, Nat.reduceMul, Nat.reduceEqDiff, Nat.reduceLT, Nat.reduceLeDiff, Nat.reduceBEq, Int.reduceAdd, Int.reduceSub, Int.reduceLT, Int.reduceLE, Int.reduceEq, Int.reduceToNat, eq_true c20, eq_false c22]
          subst hK
          refine thenA_n ?_
          refine ⟨_, (Option.some.inj h).symm, ?_⟩
          refine Ent.can [145] _ _ _ rfl (by first | decide | simp) rfl ?_ ?_ ?_
          · exact ((((((RF.any.pv (by first | rfl | simp only [go_sem]) (by first | rfl | simp [upd_ap, hpL_ap, tau, mapT, mapTL, bytesI_len, eq_true c20, eq_false c22])).pv (by first | rfl | simp only [go_sem]) (by first | rfl | simp [upd_ap, hpL_ap, tau, mapT, mapTL, bytesI_len, eq_true c20, eq_false c22])).po (by decide) (by first | rfl | simp [upd_ap, hpL_ap, tau, mapT, mapTL, bytesI_len, eq_true c20, eq_false c22])).pv (by first | rfl | simp only [go_sem]) (by first | rfl | simp [upd_ap, hpL_ap, tau, mapT, mapTL, bytesI_len, eq_true c20, eq_false c22])).pv (by first | rfl | simp only [go_sem]) (by first | rfl | simp [upd_ap, hpL_ap, tau, mapT, mapTL, bytesI_len, eq_true c20, eq_false c22])).pv (by first | rfl | simp only [go_sem]) (by first | rfl | simp [upd_ap, hpL_ap, tau, mapT, mapTL, bytesI_len, eq_true c20, eq_false c22]))
          · exact .nil _
          · exact .cons (.eq (by first | rfl | simp only [go_sem]) (by first | rfl | simp [upd_ap, hpL_ap, tau, mapT, mapTL, bytesI_len, eq_true c20, eq_false c22])) (.nil _)
      · rw [if_neg c20] at h
        refine AW.ifF rfl c20 ?_
        refine AW.exit ?_
        refine thenA_x ?_
        refine thenA_x ?_
        refine ⟨_, (Option.some.inj h).symm, _, ?_, rfl, rfl⟩
        refine Ent.can [8] _ _ _ rfl (by first | decide | simp) rfl ?_ ?_ ?_
        · exact (RF.any.po (by decide) (by first | rfl | simp [upd_ap, hpL_ap, tau, mapT, mapTL, bytesI_len, eq_false c20]))
        · exact .nil _
        · exact .cons (.eq (by first | rfl | simp only [go_sem]) (by first | rfl | simp [upd_ap, hpL_ap, tau, mapT, mapTL, bytesI_len, eq_false c20])) (.nil _)
    · intro e st' hX
      try dsimp only at h
      try dsimp only at hX
      obtain ⟨rfl, rfl⟩ := hX
      refine ⟨_, Ent.refl, ?_⟩
      refine block_x ?_
      refine thenA_n ?_
      refine AW.regL [4] ?_
      generalize hK : AW Try.prog _ _ _ = K
      simp only [go_sem, ↓reduceIte, reduceCtorEq, Nat.reduceAdd, Nat.reduceSub, Nat.reduceMul, Nat.reduceEqDiff, Nat.reduceLT, Nat.reduceLeDiff, Nat.reduceBEq, Int.reduceAdd, Int.reduceSub, Int.reduceLT, Int.reduceLE, Int.reduceEq, Int.reduceToNat]
      subst hK
      refine AW.ret ?_
      obtain rfl := Option.some.inj h
      (simp only [go_sem, ↓reduceIte, reduceCtorEq, Nat.reduceAdd, Nat.reduceSub, Nat.reduceMul, Nat.reduceEqDiff, Nat.reduceLT, Nat.reduceLeDiff, Nat.reduceBEq, Int.reduceAdd, Int.reduceSub, Int.reduceLT, Int.reduceLE, Int.reduceEq, Int.reduceToNat, finA, resA, resOf_1, resOf_2, sealV_val, sealV_sl, sealV_ip, sealV_agg, sealV_tup, sealV_own, sealL_nil, sealL_cons] <;> try simp)
end Au
end Go.Proofs.Y1

set_option linter.all false
set_option maxRecDepth 8000
namespace Go.Proofs.Y1
open Go.Gm
namespace Au
noncomputable def f91_s2 : Int × (List Int) × Int → Option ((Int × (List Int) × Int) ⊕ (List Int))
  | (s2_0, s2_1, s2_2) => (if 0 ≤ s2_2 then ((ix s2_1 s2_2).bind fun x21 => some (.inl (IntKind.u64.wrap (s2_0.tdiv 256), (s2_1.set s2_2.toNat (IntKind.u8.wrap (s2_0.tmod 256))), IntKind.i64.wrap (s2_2 - 1)))) else some (.inr s2_1))
noncomputable def f91_j1 (a0 : Int) (x1 : Int) : Int × Int → Option (List Int)
  | (j1_0, j1_1) => ((mkO j1_0 (0 : Int)).bind fun x4 => ((loopO f91_s2 (a0, x4, IntKind.i64.wrap (j1_0 - 1))).bind fun y23 => (if x1 = 9 then ((appO? [255] y23).bind fun x27 => some x27) else ((y23[0]?).bind fun x28 => some (y23.set 0 (IntKind.u8.wrap (IntKind.i64.wrap (j1_1 + (IntKind.i64.wrap x28)))))))))
noncomputable def f91 (a0 : Int) : Option (List Int) := ((f119 a0).bind fun x1 => ((f118 (IntKind.i64.wrap (9 - x1))).bind fun x2 => (if x1 = 9 then f91_j1 a0 x1 (8, 0) else f91_j1 a0 x1 (x1, (IntKind.i64.wrap (256 - (IntKind.i64.wrap x2)))))))
theorem ok91 (a0 : Int) (r : (List Int)) (h : f91 a0 = some r) : PC Try.prog 91 [.val (.int .u64 a0)] (.fr 1 (List.map enc5 r)) := by
  rw [f91] at h
  refine pc_of8 (N := 49) (rs := [.tmp 2]) Try.func91 rfl rfl rfl (Nat.le_of_ble_eq_true rfl) ?_
  refine AW.regL [0] ?_
  generalize hK : AW Try.prog _ _ _ = K
  simp only [go_sem, ↓reduceIte, reduceCtorEq, Nat.reduceAdd, Nat.reduceSub, Nat.reduceMul, Nat.reduceEqDiff, Nat.reduceLT, Nat.reduceLeDiff, Nat.reduceBEq, Int.reduceAdd, Int.reduceSub, Int.reduceLT, Int.reduceLE, Int.reduceEq, Int.reduceToNat]
  subst hK
  obtain ⟨x1, hx1, h⟩ := Option.bind_eq_some_iff.1 h
  refine AW.regL [0, 3] ?_
  generalize hK : AW Try.prog _ _ _ = K
  simp only [go_sem, ↓reduceIte, reduceCtorEq, Nat.reduceAdd, Nat.reduceSub, Nat.reduceMul, Nat.reduceEqDiff, Nat.reduceLT, Nat.reduceLeDiff, Nat.reduceBEq, Int.reduceAdd, Int.reduceSub, Int.reduceLT, Int.reduceLE, Int.reduceEq, Int.reduceToNat]
  refine arC.of (ok119 a0 x1 hx1) Try.call119 ?_
  simp only [go_sem, ↓reduceIte, reduceCtorEq, Nat.reduceAdd, Nat.reduceSub, Nat.reduceMul, Nat.reduceEqDiff, Nat.reduceLT, Nat.reduceLeDiff, Nat.reduceBEq, Int.reduceAdd, Int.reduceSub, Int.reduceLT, Int.reduceLE, Int.reduceEq, Int.reduceToNat]
  subst hK
  refine AW.regL [0, 3, 4] ?_
  generalize hK : AW Try.prog _ _ _ = K
  simp only [go_sem, ↓reduceIte, reduceCtorEq, Nat.reduceAdd, Nat.reduceSub, Nat.reduceMul, Nat.reduceEqDiff, Nat.reduceLT, Nat.reduceLeDiff, Nat.reduceBEq, Int.reduceAdd, Int.reduceSub, Int.reduceLT, Int.reduceLE, Int.reduceEq, Int.reduceToNat]
  subst hK
  obtain ⟨x2, hx2, h⟩ := Option.bind_eq_some_iff.1 h
  refine AW.regL [0, 3, 4, 5] ?_
  generalize hK : AW Try.prog _ _ _ = K
  simp only [go_sem, ↓reduceIte, reduceCtorEq, Nat.reduceAdd, Nat.reduceSub, Nat.reduceMul, Nat.reduceEqDiff, Nat.reduceLT, Nat.reduceLeDiff, Nat.reduceBEq, Int.reduceAdd, Int.reduceSub, Int.reduceLT, Int.reduceLE, Int.reduceEq, Int.reduceToNat]
  refine arC.of (ok118 (IntKind.i64.wrap (9 - x1)) x2 hx2) Try.call118 ?_
  simp only [go_sem, ↓reduceIte, reduceCtorEq, Nat.reduceAdd, Nat.reduceSub, Nat.reduceMul, Nat.reduceEqDiff, Nat.reduceLT, Nat.reduceLeDiff, Nat.reduceBEq, Int.reduceAdd, Int.reduceSub, Int.reduceLT, Int.reduceLE, Int.reduceEq, Int.reduceToNat]
  subst hK
  refine AW.join (fun s => ⟨(upd (upd (upd (upd anyF 0 (.val (.int .u64 a0))) 3 (.val (.int .i64 x1))) 4 (.val (.int .i64 s.1))) 5 (.val (.int .i64 s.2))), hpL [] [], 8⟩) (fun s => f91_j1 a0 x1 s = some r) ?_ ?_
  · refine AW.regL [0, 3, 4, 5, 17] ?_
    generalize hK : AW Try.prog _ _ _ = K
    simp only [go_sem, ↓reduceIte, reduceCtorEq, Nat.reduceAdd, Nat.reduceSub, Nat.reduceMul, Nat.reduceEqDiff, Nat.reduceLT, Nat.reduceLeDiff, Nat.reduceBEq, Int.reduceAdd, Int.reduceSub, Int.reduceLT, Int.reduceLE, Int.reduceEq, Int.reduceToNat]
    subst hK
    by_cases c29 : x1 = 9
    · rw [if_pos c29] at h
      refine AW.ifT rfl c29 ?_
      refine AW.regionL [0, 3, 4, 5] ?_
      generalize hK : thenA _ _ Exit.normal = K
      simp only [go_sem, ↓reduceIte, reduceCtorEq, Nat.reduceAdd, Nat.reduceSub, Nat.reduceMul, Nat.reduceEqDiff, Nat.reduceLT, Nat.reduceLeDiff, Nat.reduceBEq, Int.reduceAdd, Int.reduceSub, Int.reduceLT, Int.reduceLE, Int.reduceEq, Int.reduceToNat, eq_true c29]
      subst hK
      refine thenA_n ?_
      refine ⟨_, h, ?_⟩
      refine Ent.can [] _ _ _ rfl (by first | decide | simp) rfl ?_ ?_ ?_
      · exact ((((RF.any.pv (by first | rfl | simp only [go_sem]) (by first | rfl | simp [upd_ap, hpL_ap, tau, mapT, mapTL, bytesI_len, eq_true c29])).pv (by first | rfl | simp only [go_sem]) (by first | rfl | simp [upd_ap, hpL_ap, tau, mapT, mapTL, bytesI_len, eq_true c29])).pv (by first | rfl | simp only [go_sem]) (by first | rfl | simp [upd_ap, hpL_ap, tau, mapT, mapTL, bytesI_len, eq_true c29])).pv (by first | rfl | simp only [go_sem]) (by first | rfl | simp [upd_ap, hpL_ap, tau, mapT, mapTL, bytesI_len, eq_true c29]))
      · exact .nil _
      · exact .nil _
    · rw [if_neg c29] at h
      refine AW.ifF rfl c29 ?_
      refine AW.skip ?_
      refine thenA_n ?_
      refine ⟨_, h, ?_⟩
      refine Ent.can [] _ _ _ rfl (by first | decide | simp) rfl ?_ ?_ ?_
      · exact ((((RF.any.pv (by first | rfl | simp only [go_sem]) (by first | rfl | simp [upd_ap, hpL_ap, tau, mapT, mapTL, bytesI_len, eq_false c29])).pv (by first | rfl | simp only [go_sem]) (by first | rfl | simp [upd_ap, hpL_ap, tau, mapT, mapTL, bytesI_len, eq_false c29])).pv (by first | rfl | simp only [go_sem]) (by first | rfl | simp [upd_ap, hpL_ap, tau, mapT, mapTL, bytesI_len, eq_false c29])).pv (by first | rfl | simp only [go_sem]) (by first | rfl | simp [upd_ap, hpL_ap, tau, mapT, mapTL, bytesI_len, eq_false c29]))
      · exact .nil _
      · exact .nil _
  · clear h
    rintro ⟨j1_0, j1_1⟩ h
    rw [f91_j1] at h
    obtain ⟨x4, hx4, h⟩ := Option.bind_eq_some_iff.1 h
    refine AW.regL [0, 3, 4, 5, 6] ?_
    generalize hK : AW Try.prog _ _ _ = K
    simp only [go_sem, ↓reduceIte, reduceCtorEq, Nat.reduceAdd, Nat.reduceSub, Nat.reduceMul, Nat.reduceEqDiff, Nat.reduceLT, Nat.reduceLeDiff, Nat.reduceBEq, Int.reduceAdd, Int.reduceSub, Int.reduceLT, Int.reduceLE, Int.reduceEq, Int.reduceToNat, make_ok mk41 (enc := enc5) rfl (by decide) hx4]
    subst hK
    refine AW.seq ?_
    refine AW.regL [0, 3, 5, 6, 7] ?_
    generalize hK : AW Try.prog _ _ _ = K
    simp only [go_sem, ↓reduceIte, reduceCtorEq, Nat.reduceAdd, Nat.reduceSub, Nat.reduceMul, Nat.reduceEqDiff, Nat.reduceLT, Nat.reduceLeDiff, Nat.reduceBEq, Int.reduceAdd, Int.reduceSub, Int.reduceLT, Int.reduceLE, Int.reduceEq, Int.reduceToNat]
    subst hK
    refine AW.block ?_
    obtain ⟨y23, hy23, h⟩ := Option.bind_eq_some_iff.1 h
    refine AW.loopO (fun s => ⟨(upd (upd (upd (upd (upd anyF 0 (.val (.int .u64 s.1))) 3 (.val (.int .i64 x1))) 5 (.val (.int .i64 j1_1))) 6 (.own 8 0 s.2.1.length)) 7 (.val (.int .i64 s.2.2))), hpL [] [some (.row 1 true (List.map enc5 s.2.1))], 9⟩) (fun z e st' => e = Exit.exit 0 ∧ st' = ⟨(upd (upd (upd anyF 3 (.val (.int .i64 x1))) 5 (.val (.int .i64 j1_1))) 6 (.own 8 0 z.length)), hpL [] [some (.row 1 true (List.map enc5 z))], 9⟩) hy23 ?_ ?_ ?_
    · refine Ent.can [16] _ _ _ rfl (by first | decide | simp) rfl ?_ ?_ ?_
      · exact (((((RF.any.pv (by first | rfl | simp only [go_sem]) (by first | rfl | simp [upd_ap, hpL_ap, tau, mapT, mapTL, bytesI_len])).pv (by first | rfl | simp only [go_sem]) (by first | rfl | simp [upd_ap, hpL_ap, tau, mapT, mapTL, bytesI_len])).pv (by first | rfl | simp only [go_sem]) (by first | rfl | simp [upd_ap, hpL_ap, tau, mapT, mapTL, bytesI_len])).po (by decide) (by first | rfl | simp [upd_ap, hpL_ap, tau, mapT, mapTL, bytesI_len])).pv (by first | rfl | simp only [go_sem]) (by first | rfl | simp [upd_ap, hpL_ap, tau, mapT, mapTL, bytesI_len]))
      · exact .nil _
      · exact .cons (.eq (by first | rfl | simp only [go_sem]) (by first | rfl | simp [upd_ap, hpL_ap, tau, mapT, mapTL, bytesI_len])) (.nil _)
    · clear h hy23
      rintro ⟨s2_0, s2_1, s2_2⟩ x h
      rw [f91_s2] at h
      refine AW.seq ?_
      refine AW.regL [0, 3, 5, 6, 7, 23] ?_
      generalize hK : AW Try.prog _ _ _ = K
      simp only [go_sem, ↓reduceIte, reduceCtorEq, Nat.reduceAdd, Nat.reduceSub, Nat.reduceMul, Nat.reduceEqDiff, Nat.reduceLT, Nat.reduceLeDiff, Nat.reduceBEq, Int.reduceAdd, Int.reduceSub, Int.reduceLT, Int.reduceLE, Int.reduceEq, Int.reduceToNat]
      subst hK
      by_cases c20 : 0 ≤ s2_2
      · rw [if_pos c20] at h
        refine AW.ifT rfl c20 ?_
        refine AW.skip ?_
        refine thenA_n ?_
        refine AW.seq ?_
        refine AW.block ?_
        obtain ⟨x21, hx21, h⟩ := Option.bind_eq_some_iff.1 h
        obtain ⟨hx21a, hx21b⟩ := ix_some.1 hx21
        refine AW.regL [0, 3, 5, 6, 7] ?_
        generalize hK : AW Try.prog _ _ _ = K
        simp only [go_sem, ↓reduceIte, reduceCtorEq, Nat.reduceAdd, Nat.reduceSub, Nat.reduceMul, Nat.reduceEqDiff, Nat.reduceLT, Nat.reduceLeDiff, Nat.reduceBEq, Int.reduceAdd, Int.reduceSub, Int.reduceLT, Int.reduceLE, Int.reduceEq, Int.reduceToNat, eq_true c20, natOf_le hx21a, hx21b, ix_lt hx21b, set_enc (enc := enc5) (fun _ => rfl)]
        subst hK
        refine AW.regionL [0, 3, 5, 6, 7] ?_
        generalize hK : inBlockA _ _ Exit.normal = K
        simp only [go_sem, ↓reduceIte, reduceCtorEq, Nat.reduceAdd, Nat.reduceSub, Nat.reduceMul, Nat.reduceEqDiff, Nat.reduceLT, Nat.reduceLeDiff, Nat.reduceBEq, Int.reduceAdd, Int.reduceSub, Int.reduceLT, Int.reduceLE, Int.reduceEq, Int.reduceToNat, eq_true c20]
        subst hK
        refine block_n ?_
        refine thenA_n ?_
        refine AW.regionL [0, 3, 5, 6, 7] ?_
        generalize hK : thenA _ _ Exit.normal = K
        simp only [go_sem, ↓reduceIte, reduceCtorEq, Nat.reduceAdd, Nat.reduceSub, Nat.reduceMul, Nat.reduceEqDiff, Nat.reduceLT, Nat.reduceLeDiff, Nat.reduceBEq, Int.reduceAdd, Int.reduceSub, Int.reduceLT, Int.reduceLE, Int.reduceEq, Int.reduceToNat, eq_true c20]
        subst hK
        refine thenA_n ?_
        refine ⟨_, (Option.some.inj h).symm, ?_⟩
        refine Ent.can [8] _ _ _ rfl (by first | decide | simp) rfl ?_ ?_ ?_
        · exact (((((RF.any.pv (by first | rfl | simp only [go_sem]) (by first | rfl | simp [upd_ap, hpL_ap, tau, mapT, mapTL, bytesI_len, eq_true c20])).pv (by first | rfl | simp only [go_sem]) (by first | rfl | simp [upd_ap, hpL_ap, tau, mapT, mapTL, bytesI_len, eq_true c20])).pv (by first | rfl | simp only [go_sem]) (by first | rfl | simp [upd_ap, hpL_ap, tau, mapT, mapTL, bytesI_len, eq_true c20])).po (by decide) (by first | rfl | simp [upd_ap, hpL_ap, tau, mapT, mapTL, bytesI_len, eq_true c20])).pv (by first | rfl | simp only [go_sem]) (by first | rfl | simp [upd_ap, hpL_ap, tau, mapT, mapTL, bytesI_len, eq_true c20]))
        · exact .nil _
        · exact .cons (.eq (by first | rfl | simp only [go_sem]) (by first | rfl | simp [upd_ap, hpL_ap, tau, mapT, mapTL, bytesI_len, eq_true c20])) (.nil _)
      · rw [if_neg c20] at h
        refine AW.ifF rfl c20 ?_
        refine AW.exit ?_
        refine thenA_x ?_
        refine thenA_x ?_
        refine ⟨_, (Option.some.inj h).symm, _, ?_, rfl, rfl⟩
        refine Ent.can [8] _ _ _ rfl (by first | decide | simp) rfl ?_ ?_ ?_
        · exact (((RF.any.pv (by first | rfl | simp only [go_sem]) (by first | rfl | simp [upd_ap, hpL_ap, tau, mapT, mapTL, bytesI_len, eq_false c20])).pv (by first | rfl | simp only [go_sem]) (by first | rfl | simp [upd_ap, hpL_ap, tau, mapT, mapTL, bytesI_len, eq_false c20])).po (by decide) (by first | rfl | simp [upd_ap, hpL_ap, tau, mapT, mapTL, bytesI_len, eq_false c20]))
        · exact .nil _
        · exact .cons (.eq (by first | rfl | simp only [go_sem]) (by first | rfl | simp [upd_ap, hpL_ap, tau, mapT, mapTL, bytesI_len, eq_false c20])) (.nil _)
    · intro e st' hX
      try dsimp only at h
      try dsimp only at hX
      obtain ⟨rfl, rfl⟩ := hX
      refine ⟨_, Ent.refl, ?_⟩
      refine block_x ?_
      refine thenA_n ?_
      refine AW.seq ?_
      refine AW.regL [5, 6, 35] ?_
      generalize hK : AW Try.prog _ _ _ = K
      simp only [go_sem, ↓reduceIte, reduceCtorEq, Nat.reduceAdd, Nat.reduceSub, Nat.reduceMul, Nat.reduceEqDiff, Nat.reduceLT, Nat.reduceLeDiff, Nat.reduceBEq, Int.reduceAdd, Int.reduceSub, Int.reduceLT, Int.reduceLE, Int.reduceEq, Int.reduceToNat]
      subst hK
      by_cases c26 : x1 = 9
      · rw [if_pos c26] at h
        refine AW.ifT rfl c26 ?_
        obtain ⟨x27, hx27, h⟩ := Option.bind_eq_some_iff.1 h
        obtain ⟨hx27b, hx27e⟩ := appO?_some.1 hx27
        have hx27f : ∀ id o : Nat, appO 1 1 id (List.map enc5 y23) 0 1 o (some (.row 1 true ([[.val (.int .u8 255)]]))) = some ⟨.own id 0 x27.length, [(o, none), (id, some (.row 1 true (List.map enc5 x27)))]⟩ := fun id o => by
          subst hx27e; rw [appO_ok (by simp) (by simpa using hx27b) (by decide)]; first | (simp [enc5]; done) | (simp [enc5]; omega)
        refine AW.regL [2] ?_
        generalize hK : AW Try.prog _ _ _ = K
        simp only [go_sem, ↓reduceIte, reduceCtorEq, Nat.reduceAdd, Nat.reduceSub, Nat.reduceMul, Nat.reduceEqDiff, Nat.reduceLT, Nat.reduceLeDiff, Nat.reduceBEq, Int.reduceAdd, Int.reduceSub, Int.reduceLT, Int.reduceLE, Int.reduceEq, Int.reduceToNat, eq_true c26, hx27f]
        subst hK
        refine AW.ret ?_
        refine thenA_r ?_
        obtain rfl := Option.some.inj h
        (simp only [go_sem, ↓reduceIte, reduceCtorEq, Nat.reduceAdd, Nat.reduceSub, Nat.reduceMul, Nat.reduceEqDiff, Nat.reduceLT, Nat.reduceLeDiff, Nat.reduceBEq, Int.reduceAdd, Int.reduceSub, Int.reduceLT, Int.reduceLE, Int.reduceEq, Int.reduceToNat, eq_true c26, finA, resA, resOf_1, resOf_2, sealV_val, sealV_sl, sealV_ip, sealV_agg, sealV_tup, sealV_own, sealL_nil, sealL_cons] <;> try simp)
      · rw [if_neg c26] at h
        refine AW.ifF rfl c26 ?_
        refine AW.skip ?_
        refine thenA_n ?_
        obtain ⟨x28, hx28, h⟩ := Option.bind_eq_some_iff.1 h
        refine AW.regL [6] ?_
        generalize hK : AW Try.prog _ _ _ = K
        simp only [go_sem, ↓reduceIte, reduceCtorEq, Nat.reduceAdd, Nat.reduceSub, Nat.reduceMul, Nat.reduceEqDiff, Nat.reduceLT, Nat.reduceLeDiff, Nat.reduceBEq, Int.reduceAdd, Int.reduceSub, Int.reduceLT, Int.reduceLE, Int.reduceEq, Int.reduceToNat, eq_false c26, hx28, ix_lt hx28, set_enc (enc := enc5) (fun _ => rfl)]
        subst hK
        refine AW.regL [2] ?_
        generalize hK : AW Try.prog _ _ _ = K
        simp only [go_sem, ↓reduceIte, reduceCtorEq, Nat.reduceAdd, Nat.reduceSub, Nat.reduceMul, Nat.reduceEqDiff, Nat.reduceLT, Nat.reduceLeDiff, Nat.reduceBEq, Int.reduceAdd, Int.reduceSub, Int.reduceLT, Int.reduceLE, Int.reduceEq, Int.reduceToNat, eq_false c26]
        subst hK
        refine AW.ret ?_
        obtain rfl := Option.some.inj h
        (simp only [go_sem, ↓reduceIte, reduceCtorEq, Nat.reduceAdd, Nat.reduceSub, Nat.reduceMul, Nat.reduceEqDiff, Nat.reduceLT, Nat.reduceLeDiff, Nat.reduceBEq, Int.reduceAdd, Int.reduceSub, Int.reduceLT, Int.reduceLE, Int.reduceEq, Int.reduceToNat, eq_false c26, finA, resA, resOf_1, resOf_2, sealV_val, sealV_sl, sealV_ip, sealV_agg, sealV_tup, sealV_own, sealL_nil, sealL_cons] <;> try simp)
end Au
end Go.Proofs.Y1
