import Derived.Test.YtlonihmeikmpiaaGmY2A
set_option linter.all false
set_option linter.unusedVariables false
set_option linter.unusedSimpArgs false
set_option linter.all false
set_option maxRecDepth 8000
namespace Go.Proofs.Y1
open Go.Gm
noncomputable def f68_s1 (a0 : List Res) (a1 : ByteArray) : Int → Option (Int ⊕ ((Res × Bool) ⊕ Unit))
  | s1_0 => (if s1_0 < (a0.length : Int) then ((ix a0 s1_0).bind fun x8 => (if x8.key = a1 then some (.inr (.inl (x8, true))) else some (.inl (IntKind.i64.wrap (s1_0 + 1))))) else some (.inr (.inr ())))
noncomputable def f68 (a0 : List Res) (a1 : ByteArray) : Option (Res × Bool) := ((loopO (f68_s1 a0 a1) 0).bind fun y10 => match y10 with | .inl y11 => some y11 | .inr _ => some (⟨⟨#[]⟩, ⟨#[]⟩, []⟩, false))
theorem ok68 (a0 : List Res) (a1 : ByteArray) (r : Res × Bool) (h : f68 a0 a1 = some r) : PC Try.prog 68 [.sl (List.map encRes a0), .val (.string a1)] (.tup [.agg (encRes r.1), .val (.bool r.2)]) := by
  rw [f68] at h
  refine pc_of8 (N := 25) (rs := [.cell 4 35, .tmp 5]) Try.func68 rfl rfl rfl (Nat.le_of_ble_eq_true rfl) ?_
  refine AW.regL [0, 1, 4] ?_
  generalize hK : AW Try.prog _ _ _ = K
  simp only [go_sem, ↓reduceIte, reduceCtorEq, Nat.reduceAdd, Nat.reduceSub, Nat.reduceMul, Nat.reduceEqDiff, Nat.reduceLT, Nat.reduceLeDiff, Nat.reduceBEq, Int.reduceAdd, Int.reduceSub, Int.reduceLT, Int.reduceLE, Int.reduceEq, Int.reduceToNat]
  subst hK
  refine AW.seq ?_
  refine AW.regL [0, 1, 4, 6] ?_
  generalize hK : AW Try.prog _ _ _ = K
  simp only [go_sem, ↓reduceIte, reduceCtorEq, Nat.reduceAdd, Nat.reduceSub, Nat.reduceMul, Nat.reduceEqDiff, Nat.reduceLT, Nat.reduceLeDiff, Nat.reduceBEq, Int.reduceAdd, Int.reduceSub, Int.reduceLT, Int.reduceLE, Int.reduceEq, Int.reduceToNat]
  subst hK
  refine AW.block ?_
  obtain ⟨y10, hy10, h⟩ := Option.bind_eq_some_iff.1 h
  refine AW.loopO (fun s => ⟨(upd (upd (upd (upd anyF 0 (.sl (List.map encRes a0))) 1 (.val (.string a1))) 4 (.ptr 8 0 0)) 6 (.val (.int .i64 s))), hpL [] [some (.row 3 true [[.val (.string ⟨#[]⟩), .val (.string ⟨#[]⟩), .val (.slice none 0 0)]])], 9⟩) (fun y e st' => match y with | .inl z => e = Exit.ret ∧ finA Try.prog [.cell 4 35, .tmp 5] (.tup [.agg (encRes z.1), .val (.bool z.2)]) .ret st' | .inr z => e = Exit.exit 0 ∧ st' = ⟨(upd anyF 4 (.ptr 8 0 0)), hpL [] [some (.row 3 true [[.val (.string ⟨#[]⟩), .val (.string ⟨#[]⟩), .val (.slice none 0 0)]])], 9⟩) hy10 ?_ ?_ ?_
  · refine Ent.can [8] [] _ _ rfl (by decide) rfl ?_ (.nil _) ?_
    · exact ((((RF.any.pv (by first | rfl | simp only [go_sem]) (by first | rfl | simp [upd_ap, tau, mapT, mapTL])).pv (by first | rfl | simp only [go_sem]) (by first | rfl | simp [upd_ap, tau, mapT, mapTL])).pp (by decide) (by first | rfl | simp [upd_ap, tau, mapT, mapTL])).pv (by first | rfl | simp only [go_sem]) (by first | rfl | simp [upd_ap, tau, mapT, mapTL]))
    · exact .cons (.eq (by first | rfl | simp only [go_sem]) (by first | rfl | simp [upd_ap, tau, mapT, mapTL])) (.nil _)
  · clear h hy10
    rintro s1_0 x h
    rw [f68_s1] at h
    refine AW.seq ?_
    refine AW.regL [0, 1, 4, 6, 10] ?_
    generalize hK : AW Try.prog _ _ _ = K
    simp only [go_sem, ↓reduceIte, reduceCtorEq, Nat.reduceAdd, Nat.reduceSub, Nat.reduceMul, Nat.reduceEqDiff, Nat.reduceLT, Nat.reduceLeDiff, Nat.reduceBEq, Int.reduceAdd, Int.reduceSub, Int.reduceLT, Int.reduceLE, Int.reduceEq, Int.reduceToNat]
    subst hK
    by_cases c7 : s1_0 < (a0.length : Int)
    · rw [if_pos c7] at h
      refine AW.ifT rfl c7 ?_
      refine AW.skip ?_
      refine thenA_n ?_
      refine AW.seq ?_
      refine AW.block ?_
      obtain ⟨x8, hx8, h⟩ := Option.bind_eq_some_iff.1 h
      obtain ⟨hx8a, hx8b⟩ := ix_some.1 hx8
      refine AW.regL [0, 1, 4, 6, 19] ?_
      generalize hK : AW Try.prog _ _ _ = K
      simp only [go_sem, ↓reduceIte, reduceCtorEq, Nat.reduceAdd, Nat.reduceSub, Nat.reduceMul, Nat.reduceEqDiff, Nat.reduceLT, Nat.reduceLeDiff, Nat.reduceBEq, Int.reduceAdd, Int.reduceSub, Int.reduceLT, Int.reduceLE, Int.reduceEq, Int.reduceToNat, eq_true c7, natOf_le hx8a, hx8b]
      subst hK
      by_cases c9 : x8.key = a1
      · rw [if_pos c9] at h
        refine AW.ifT rfl c9 ?_
        refine AW.regL [4, 5] ?_
        generalize hK : AW Try.prog _ _ _ = K
        simp only [go_sem, ↓reduceIte, reduceCtorEq, Nat.reduceAdd, Nat.reduceSub, Nat.reduceMul, Nat.reduceEqDiff, Nat.reduceLT, Nat.reduceLeDiff, Nat.reduceBEq, Int.reduceAdd, Int.reduceSub, Int.reduceLT, Int.reduceLE, Int.reduceEq, Int.reduceToNat, eq_true c7, eq_true c9, natOf_le hx8a, hx8b]
        subst hK
        refine AW.ret ?_
        refine block_r ?_
        refine thenA_r ?_
        refine thenA_r ?_
        refine ⟨_, (Option.some.inj h).symm, _, Ent.refl, rfl, ?_⟩
        (simp only [go_sem, ↓reduceIte, reduceCtorEq, Nat.reduceAdd, Nat.reduceSub, Nat.reduceMul, Nat.reduceEqDiff, Nat.reduceLT, Nat.reduceLeDiff, Nat.reduceBEq, Int.reduceAdd, Int.reduceSub, Int.reduceLT, Int.reduceLE, Int.reduceEq, Int.reduceToNat, eq_true c7, eq_true c9, finA, resA, resOf_1, resOf_2, sealV_val, sealV_sl, sealV_ip, sealV_agg, sealV_tup, sealV_own, sealL_nil, sealL_cons] <;> try simp)
      · rw [if_neg c9] at h
        refine AW.ifF rfl c9 ?_
        refine AW.skip ?_
        refine block_n ?_
        refine thenA_n ?_
        refine AW.regionL [0, 1, 4, 6] ?_
        generalize hK : thenA _ _ Exit.normal = K
        simp only [go_sem, ↓reduceIte, reduceCtorEq, Nat.reduceAdd, Nat.reduceSub, Nat.reduceMul, Nat.reduceEqDiff, Nat.reduceLT, Nat.reduceLeDiff, Nat.reduceBEq, Int.reduceAdd, Int.reduceSub, Int.reduceLT, Int.reduceLE, Int.reduceEq, Int.reduceToNat, eq_true c7, eq_false c9]
        subst hK
        refine thenA_n ?_
        refine ⟨_, (Option.some.inj h).symm, ?_⟩
        refine Ent.can [8] [] _ _ rfl (by decide) rfl ?_ (.nil _) ?_
        · exact ((((RF.any.pv (by first | rfl | simp only [go_sem]) (by first | rfl | simp [upd_ap, tau, mapT, mapTL, eq_true c7, eq_false c9])).pv (by first | rfl | simp only [go_sem]) (by first | rfl | simp [upd_ap, tau, mapT, mapTL, eq_true c7, eq_false c9])).pp (by decide) (by first | rfl | simp [upd_ap, tau, mapT, mapTL, eq_true c7, eq_false c9])).pv (by first | rfl | simp only [go_sem]) (by first | rfl | simp [upd_ap, tau, mapT, mapTL, eq_true c7, eq_false c9]))
        · exact .cons (.eq (by first | rfl | simp only [go_sem]) (by first | rfl | simp [upd_ap, tau, mapT, mapTL, eq_true c7, eq_false c9])) (.nil _)
    · rw [if_neg c7] at h
      refine AW.ifF rfl c7 ?_
      refine AW.exit ?_
      refine thenA_x ?_
      refine thenA_x ?_
      refine ⟨_, (Option.some.inj h).symm, _, ?_, rfl, rfl⟩
      refine Ent.can [8] [] _ _ rfl (by decide) rfl ?_ (.nil _) ?_
      · exact (RF.any.pp (by decide) (by first | rfl | simp [upd_ap, tau, mapT, mapTL, eq_false c7]))
      · exact .cons (.eq (by first | rfl | simp only [go_sem]) (by first | rfl | simp [upd_ap, tau, mapT, mapTL, eq_false c7])) (.nil _)
  · intro e st' hX
    rcases y10 with y11 | _ <;> dsimp only at h hX
    · obtain ⟨rfl, hf⟩ := hX
      refine ⟨_, Ent.refl, ?_⟩
      refine block_r ?_
      refine thenA_r ?_
      obtain rfl := Option.some.inj h
      exact hf
    · obtain ⟨rfl, rfl⟩ := hX
      refine ⟨_, Ent.refl, ?_⟩
      refine block_x ?_
      refine thenA_n ?_
      refine AW.regL [4, 5] ?_
      generalize hK : AW Try.prog _ _ _ = K
      simp only [go_sem, ↓reduceIte, reduceCtorEq, Nat.reduceAdd, Nat.reduceSub, Nat.reduceMul, Nat.reduceEqDiff, Nat.reduceLT, Nat.reduceLeDiff, Nat.reduceBEq, Int.reduceAdd, Int.reduceSub, Int.reduceLT, Int.reduceLE, Int.reduceEq, Int.reduceToNat]
      subst hK
      refine AW.ent (Ent.weakObj 8 rfl rfl (.cons (.of rfl) (.cons (.of rfl) (.cons Weak.nil WeakL.nil)))) ?_
      refine AW.ret ?_
      obtain rfl := Option.some.inj h
      (simp only [go_sem, ↓reduceIte, reduceCtorEq, Nat.reduceAdd, Nat.reduceSub, Nat.reduceMul, Nat.reduceEqDiff, Nat.reduceLT, Nat.reduceLeDiff, Nat.reduceBEq, Int.reduceAdd, Int.reduceSub, Int.reduceLT, Int.reduceLE, Int.reduceEq, Int.reduceToNat, finA, resA, resOf_1, resOf_2, sealV_val, sealV_sl, sealV_ip, sealV_agg, sealV_tup, sealV_own, sealL_nil, sealL_cons] <;> try simp)
noncomputable def f22_s1 (a1 : List Change) : Int → Option (Int ⊕ (((List Res) × Int) ⊕ Unit))
  | s1_0 => (if s1_0 < (a1.length : Int) then ((ix a1 s1_0).bind fun x16 => (if x16.kind < 0 then some (.inr (.inl ([], 3))) else (if 3 < x16.kind then some (.inr (.inl ([], 3))) else (if 0 < s1_0 then ((ix a1 (IntKind.i64.wrap (s1_0 - 1))).bind fun x20 => ((x70 x20.res.key x16.res.key).bind fun x21 => (if x21 = true then some (.inl (IntKind.i64.wrap (s1_0 + 1))) else some (.inr (.inl ([], 3)))))) else some (.inl (IntKind.i64.wrap (s1_0 + 1))))))) else some (.inr (.inr ())))
noncomputable def f22_s7 (s2_0 : List Res) (x147 : Change) : Bool × Int × (List Res) → Option ((Bool × Int × (List Res)) ⊕ (Bool × (List Res)))
  | (s7_0, s7_1, s7_2) => (if s7_1 < ((s2_0.length : Nat) : Int) then (if s7_0 = true then ((ix s2_0 s7_1).bind fun x175 => (if x175.key = x147.res.key then some (.inl (true, IntKind.i64.wrap (s7_1 + 1), s7_2)) else ((appO? s7_2 [x175]).bind fun x177 => some (.inl (true, IntKind.i64.wrap (s7_1 + 1), x177))))) else ((ix s2_0 s7_1).bind fun x178 => ((x70 x178.key x147.res.key).bind fun x179 => (if x179 = true then (if x178.key = x147.res.key then some (.inl (false, IntKind.i64.wrap (s7_1 + 1), s7_2)) else ((appO? s7_2 [x178]).bind fun x182 => some (.inl (false, IntKind.i64.wrap (s7_1 + 1), x182)))) else ((appO? s7_2 [x147.res]).bind fun x183 => (if x178.key = x147.res.key then some (.inl (true, IntKind.i64.wrap (s7_1 + 1), x183)) else ((appO? x183 [x178]).bind fun x185 => some (.inl (true, IntKind.i64.wrap (s7_1 + 1), x185))))))))) else some (.inr (s7_0, s7_2)))
noncomputable def f22_s8 (s2_0 : List Res) (x147 : Change) : Bool × Int × (List Res) → Option ((Bool × Int × (List Res)) ⊕ (Bool × (List Res)))
  | (s8_0, s8_1, s8_2) => (if s8_1 < ((s2_0.length : Nat) : Int) then (if s8_0 = true then ((ix s2_0 s8_1).bind fun x216 => (if x216.key = x147.res.key then some (.inl (true, IntKind.i64.wrap (s8_1 + 1), s8_2)) else ((appO? s8_2 [x216]).bind fun x218 => some (.inl (true, IntKind.i64.wrap (s8_1 + 1), x218))))) else ((ix s2_0 s8_1).bind fun x219 => ((x70 x219.key x147.res.key).bind fun x220 => (if x220 = true then (if x219.key = x147.res.key then some (.inl (false, IntKind.i64.wrap (s8_1 + 1), s8_2)) else ((appO? s8_2 [x219]).bind fun x223 => some (.inl (false, IntKind.i64.wrap (s8_1 + 1), x223)))) else ((appO? s8_2 [x147.res]).bind fun x224 => (if x219.key = x147.res.key then some (.inl (true, IntKind.i64.wrap (s8_1 + 1), x224)) else ((appO? x224 [x219]).bind fun x226 => some (.inl (true, IntKind.i64.wrap (s8_1 + 1), x226))))))))) else some (.inr (s8_0, s8_2)))
noncomputable def f22_s2 (a0 : List Res) (a1 : List Change) : (List Res) × Int → Option (((List Res) × Int) ⊕ (((List Res) × Int) ⊕ (List Res)))
  | (s2_0, s2_1) => (if s2_1 < (a1.length : Int) then ((ix a1 s2_1).bind fun x147 => ((f68 a0 x147.res.key).bind fun x148 => (if x147.kind = 1 then (if x148.2 = true then some (.inr (.inl ([], 3))) else ((loopO (f22_s7 s2_0 x147) (decide (x147.kind = 0), 0, [])).bind fun y186 => match y186 with | (y187, y188) => (if y187 = true then some (.inl (y188, IntKind.i64.wrap (s2_1 + 1))) else ((appO? y188 [x147.res]).bind fun x190 => some (.inl (x190, IntKind.i64.wrap (s2_1 + 1))))))) else (if x148.2 = true then ((loopO (f22_s8 s2_0 x147) (decide (x147.kind = 0), 0, [])).bind fun y227 => match y227 with | (y228, y229) => (if y228 = true then some (.inl (y229, IntKind.i64.wrap (s2_1 + 1))) else ((appO? y229 [x147.res]).bind fun x231 => some (.inl (x231, IntKind.i64.wrap (s2_1 + 1)))))) else some (.inr (.inl ([], 6))))))) else some (.inr (.inr s2_0)))
noncomputable def f22 (a0 : List Res) (a1 : List Change) : Option ((List Res) × Int) := ((x18 a0).bind fun x1 => (if x1 = true then ((loopO (f22_s1 a1) 0).bind fun y23 => match y23 with | .inl y24 => some y24 | .inr _ => ((appO? ([] : List Res) a0).bind fun x25 => ((loopO (f22_s2 a0 a1) (x25, 0)).bind fun y232 => match y232 with | .inl y233 => some y233 | .inr y234 => some (y234, 0)))) else some ([], 3)))
theorem ok22 (a0 : List Res) (a1 : List Change) (r : (List Res) × Int) (h : f22 a0 a1 = some r) : PC Try.prog 22 [.sl (List.map encRes a0), .sl (List.map encCh a1)] (.tup [.fr 3 (List.map encRes r.1), .val (.int .i64 r.2)]) := by
  rw [f22] at h
  refine pc_of8 (N := 157) (rs := [.tmp 4, .tmp 5]) Try.func22 rfl rfl rfl (Nat.le_of_ble_eq_true rfl) ?_
  refine AW.regL [0, 1] ?_
  generalize hK : AW Try.prog _ _ _ = K
  simp only [go_sem, ↓reduceIte, reduceCtorEq, Nat.reduceAdd, Nat.reduceSub, Nat.reduceMul, Nat.reduceEqDiff, Nat.reduceLT, Nat.reduceLeDiff, Nat.reduceBEq, Int.reduceAdd, Int.reduceSub, Int.reduceLT, Int.reduceLE, Int.reduceEq, Int.reduceToNat]
  subst hK
  refine AW.seq ?_
  obtain ⟨x1, hx1, h⟩ := Option.bind_eq_some_iff.1 h
  refine AW.regL [0, 1, 17] ?_
  generalize hK : AW Try.prog _ _ _ = K
  simp only [go_sem, ↓reduceIte, reduceCtorEq, Nat.reduceAdd, Nat.reduceSub, Nat.reduceMul, Nat.reduceEqDiff, Nat.reduceLT, Nat.reduceLeDiff, Nat.reduceBEq, Int.reduceAdd, Int.reduceSub, Int.reduceLT, Int.reduceLE, Int.reduceEq, Int.reduceToNat]
  refine arC.of (xok18 a0 x1 hx1) Try.call18 ?_
  simp only [go_sem, ↓reduceIte, reduceCtorEq, Nat.reduceAdd, Nat.reduceSub, Nat.reduceMul, Nat.reduceEqDiff, Nat.reduceLT, Nat.reduceLeDiff, Nat.reduceBEq, Int.reduceAdd, Int.reduceSub, Int.reduceLT, Int.reduceLE, Int.reduceEq, Int.reduceToNat]
  subst hK
  by_cases c2 : x1 = true
  · rw [if_pos c2] at h
    refine AW.ifBF rfl (by rw [c2]; rfl) ?_
    refine AW.skip ?_
    refine thenA_n ?_
    refine AW.seq ?_
    refine AW.regL [0, 1, 6] ?_
    generalize hK : AW Try.prog _ _ _ = K
    simp only [go_sem, ↓reduceIte, reduceCtorEq, Nat.reduceAdd, Nat.reduceSub, Nat.reduceMul, Nat.reduceEqDiff, Nat.reduceLT, Nat.reduceLeDiff, Nat.reduceBEq, Int.reduceAdd, Int.reduceSub, Int.reduceLT, Int.reduceLE, Int.reduceEq, Int.reduceToNat, c2]
    subst hK
    refine AW.block ?_
    obtain ⟨y23, hy23, h⟩ := Option.bind_eq_some_iff.1 h
    refine AW.loopO (fun s => ⟨(upd (upd (upd anyF 0 (.sl (List.map encRes a0))) 1 (.sl (List.map encCh a1))) 6 (.val (.int .i64 s))), hpL [] [], 8⟩) (fun y e st' => match y with | .inl z => e = Exit.ret ∧ finA Try.prog [.tmp 4, .tmp 5] (.tup [.fr 3 (List.map encRes z.1), .val (.int .i64 z.2)]) .ret st' | .inr z => e = Exit.exit 0 ∧ st' = ⟨(upd (upd anyF 0 (.sl (List.map encRes a0))) 1 (.sl (List.map encCh a1))), hpL [] [], 8⟩) hy23 ?_ ?_ ?_
    · refine Ent.can [] [] _ _ rfl (by decide) rfl ?_ (.nil _) ?_
      · exact (((RF.any.pv (by first | rfl | simp only [go_sem]) (by first | rfl | simp [upd_ap, tau, mapT, mapTL, c2])).pv (by first | rfl | simp only [go_sem]) (by first | rfl | simp [upd_ap, tau, mapT, mapTL, c2])).pv (by first | rfl | simp only [go_sem]) (by first | rfl | simp [upd_ap, tau, mapT, mapTL, c2]))
      · exact .nil _
    · clear h hy23
      rintro s1_0 x h
      rw [f22_s1] at h
      refine AW.seq ?_
      refine AW.regL [0, 1, 6, 21] ?_
      generalize hK : AW Try.prog _ _ _ = K
      simp only [go_sem, ↓reduceIte, reduceCtorEq, Nat.reduceAdd, Nat.reduceSub, Nat.reduceMul, Nat.reduceEqDiff, Nat.reduceLT, Nat.reduceLeDiff, Nat.reduceBEq, Int.reduceAdd, Int.reduceSub, Int.reduceLT, Int.reduceLE, Int.reduceEq, Int.reduceToNat, c2]
      subst hK
      by_cases c15 : s1_0 < (a1.length : Int)
      · rw [if_pos c15] at h
        refine AW.ifT rfl c15 ?_
        refine AW.skip ?_
        refine thenA_n ?_
        refine AW.seq ?_
        refine AW.block ?_
        obtain ⟨x16, hx16, h⟩ := Option.bind_eq_some_iff.1 h
        obtain ⟨hx16a, hx16b⟩ := ix_some.1 hx16
        by_cases c17 : x16.kind < 0
        · rw [if_pos c17] at h
          refine AW.regdL [0, 1, 6, 58] [[], [], [0, 1], [0, 1, 2], [0, 1, 2, 3], [0, 1, 2, 3, 4], [0, 1, 2, 3, 4, 5], [0, 1, 2, 3, 4, 5, 6], [0, 1, 2, 3, 4, 5, 6], [0, 1, 2, 3, 4, 5, 6, 7, 8], [0, 1, 2, 3, 4, 5, 6, 7, 8, 9], [0, 1, 2, 3, 4, 5, 6, 7, 8, 9, 10], [0, 1, 2, 3, 4, 5, 6, 7, 8, 9, 10, 11], [0, 1, 2, 3, 4, 5, 6, 7, 8, 9, 10, 11, 12], [0, 1, 2, 3, 4, 5, 6, 7, 8, 9, 10, 11, 12, 13], [0, 1, 2, 3, 4, 5, 6, 7, 8, 9, 10, 11, 12, 13, 14], [0, 1, 2, 3, 4, 5, 6, 7, 8, 9, 10, 11, 12, 13, 14, 15], [0, 1, 2, 3, 4, 5, 6, 7, 8, 9, 10, 11, 12, 13, 14, 15, 16], [0, 1, 2, 3, 4, 5, 6, 7, 8, 9, 10, 11, 12, 13, 14, 15, 16, 17], [0, 1, 2, 3, 4, 5, 6, 7, 8, 9, 10, 11, 12, 13, 14, 15, 16, 17], [0, 1, 2, 3, 4, 5, 6, 7, 8, 9, 10, 11, 12, 13, 14, 15, 16, 17, 19], [0, 1, 2, 3, 4, 5, 6, 7, 8, 9, 10, 11, 12, 13, 14, 15, 16, 17, 18, 19, 20], [0, 1, 2, 3, 4, 5, 6, 7, 8, 9, 10, 11, 12, 13, 14, 15, 16, 17, 18, 19, 20, 21], [0, 1, 2, 3, 4, 5, 6, 7, 8, 9, 10, 11, 12, 13, 14, 15, 16, 17, 18, 19, 20, 21, 22], [0, 1, 2, 3, 4, 5, 6, 7, 8, 9, 10, 11, 12, 13, 14, 15, 16, 17, 18, 19, 20, 21, 22, 23], [0, 1, 2, 3, 4, 5, 6, 7, 8, 9, 10, 11, 12, 13, 14, 15, 16, 17], [0, 1, 2, 3, 4, 5, 6, 7, 8, 9, 10, 11, 12, 13, 14, 15, 16, 17], [0, 1, 2, 3, 4, 5, 6, 7, 8, 9, 10, 11, 12, 13, 14, 15, 16, 17, 25, 26], [0, 1, 2, 3, 4, 5, 6, 7, 8, 9, 10, 11, 12, 13, 14, 15, 16, 17, 25, 26, 27], [0, 1, 2, 3, 4, 5, 6, 7, 8, 9, 10, 11, 12, 13, 14, 15, 16, 17, 25, 26, 27, 28], [0, 1, 2, 3, 4, 5, 6, 7, 8, 9, 10, 11, 12, 13, 14, 15, 16, 17, 25, 26, 27, 28, 29], [0, 1, 2, 3, 4, 5, 6, 7, 8, 9, 10, 11, 12, 13, 14, 15, 16, 17, 18, 19, 20, 21, 22, 23, 24, 25, 26, 27, 28, 29, 30], [0, 1, 2, 3, 4, 5, 6, 7, 8, 9, 10, 11, 12, 13, 14, 15, 16, 17, 18, 19, 20, 21, 22, 23, 24, 25, 26, 27, 28, 29, 30, 31], [0, 1, 2, 3, 4, 5, 6, 7, 8, 9, 10, 11, 12, 13, 14, 15, 16, 17, 18, 19, 20, 21, 22, 23, 24, 25, 26, 27, 28, 29, 30, 31, 32], [0, 1, 2, 3, 4, 5, 6, 7, 8, 9, 10, 11, 12, 13, 14, 15, 16, 17, 18, 19, 20, 21, 22, 23, 24, 25, 26, 27, 28, 29, 30, 31, 32, 33]] [0, 1, 2, 3, 4, 5, 6, 7, 8, 9, 10, 11, 12, 13, 14, 15, 16, 17, 18, 19, 20, 21, 22, 23, 24, 25, 26, 27, 28, 29, 30, 31, 32, 33, 34] noFt (fun _ _ _ h => by simp [noFt] at h) draws (by kernel_rfl) (by kernel_rfl) ?_
          generalize hK : AW Try.prog _ _ _ = K
          simp only [go_sem, ↓reduceIte, reduceCtorEq, Nat.reduceAdd, Nat.reduceSub, Nat.reduceMul, Nat.reduceEqDiff, Nat.reduceLT, Nat.reduceLeDiff, Nat.reduceBEq, Int.reduceAdd, Int.reduceSub, Int.reduceLT, Int.reduceLE, Int.reduceEq, Int.reduceToNat, c2, eq_true c15, natOf_le hx16a, hx16b, eq_true c17]
          subst hK
          refine AW.ifBT rfl rfl ?_
          refine AW.regL [4, 5] ?_
          generalize hK : AW Try.prog _ _ _ = K
          simp only [go_sem, ↓reduceIte, reduceCtorEq, Nat.reduceAdd, Nat.reduceSub, Nat.reduceMul, Nat.reduceEqDiff, Nat.reduceLT, Nat.reduceLeDiff, Nat.reduceBEq, Int.reduceAdd, Int.reduceSub, Int.reduceLT, Int.reduceLE, Int.reduceEq, Int.reduceToNat, c2, eq_true c15, eq_true c17]
          subst hK
          refine AW.ent (Ent.nilOwn 4 3 (by decide) rfl) ?_
          refine AW.ret ?_
          refine block_r ?_
          refine thenA_r ?_
          refine thenA_r ?_
          refine ⟨_, (Option.some.inj h).symm, _, Ent.refl, rfl, ?_⟩
          (simp only [go_sem, ↓reduceIte, reduceCtorEq, Nat.reduceAdd, Nat.reduceSub, Nat.reduceMul, Nat.reduceEqDiff, Nat.reduceLT, Nat.reduceLeDiff, Nat.reduceBEq, Int.reduceAdd, Int.reduceSub, Int.reduceLT, Int.reduceLE, Int.reduceEq, Int.reduceToNat, c2, eq_true c15, eq_true c17, finA, resA, resOf_1, resOf_2, sealV_val, sealV_sl, sealV_ip, sealV_agg, sealV_tup, sealV_own, sealL_nil, sealL_cons] <;> try simp)
        · rw [if_neg c17] at h
          by_cases c18 : 3 < x16.kind
          · rw [if_pos c18] at h
            refine AW.regdL [0, 1, 6, 58] [[], [], [0, 1], [0, 1, 2], [0, 1, 2, 3], [0, 1, 2, 3, 4], [0, 1, 2, 3, 4, 5], [0, 1, 2, 3, 4, 5, 6], [0, 1, 2, 3, 4, 5, 6], [0, 1, 2, 3, 4, 5, 6, 7, 8], [0, 1, 2, 3, 4, 5, 6, 7, 8, 9], [0, 1, 2, 3, 4, 5, 6, 7, 8, 9, 10], [0, 1, 2, 3, 4, 5, 6, 7, 8, 9, 10, 11], [0, 1, 2, 3, 4, 5, 6, 7, 8, 9, 10, 11, 12], [0, 1, 2, 3, 4, 5, 6, 7, 8, 9, 10, 11, 12, 13], [0, 1, 2, 3, 4, 5, 6, 7, 8, 9, 10, 11, 12, 13, 14], [0, 1, 2, 3, 4, 5, 6, 7, 8, 9, 10, 11, 12, 13, 14, 15], [0, 1, 2, 3, 4, 5, 6, 7, 8, 9, 10, 11, 12, 13, 14, 15, 16], [0, 1, 2, 3, 4, 5, 6, 7, 8, 9, 10, 11, 12, 13, 14, 15, 16, 17], [0, 1, 2, 3, 4, 5, 6, 7, 8, 9, 10, 11, 12, 13, 14, 15, 16, 17], [0, 1, 2, 3, 4, 5, 6, 7, 8, 9, 10, 11, 12, 13, 14, 15, 16, 17, 19], [0, 1, 2, 3, 4, 5, 6, 7, 8, 9, 10, 11, 12, 13, 14, 15, 16, 17, 18, 19, 20], [0, 1, 2, 3, 4, 5, 6, 7, 8, 9, 10, 11, 12, 13, 14, 15, 16, 17, 18, 19, 20, 21], [0, 1, 2, 3, 4, 5, 6, 7, 8, 9, 10, 11, 12, 13, 14, 15, 16, 17, 18, 19, 20, 21, 22], [0, 1, 2, 3, 4, 5, 6, 7, 8, 9, 10, 11, 12, 13, 14, 15, 16, 17, 18, 19, 20, 21, 22, 23], [0, 1, 2, 3, 4, 5, 6, 7, 8, 9, 10, 11, 12, 13, 14, 15, 16, 17], [0, 1, 2, 3, 4, 5, 6, 7, 8, 9, 10, 11, 12, 13, 14, 15, 16, 17], [0, 1, 2, 3, 4, 5, 6, 7, 8, 9, 10, 11, 12, 13, 14, 15, 16, 17, 25, 26], [0, 1, 2, 3, 4, 5, 6, 7, 8, 9, 10, 11, 12, 13, 14, 15, 16, 17, 25, 26, 27], [0, 1, 2, 3, 4, 5, 6, 7, 8, 9, 10, 11, 12, 13, 14, 15, 16, 17, 25, 26, 27, 28], [0, 1, 2, 3, 4, 5, 6, 7, 8, 9, 10, 11, 12, 13, 14, 15, 16, 17, 25, 26, 27, 28, 29], [0, 1, 2, 3, 4, 5, 6, 7, 8, 9, 10, 11, 12, 13, 14, 15, 16, 17, 18, 19, 20, 21, 22, 23, 24, 25, 26, 27, 28, 29, 30], [0, 1, 2, 3, 4, 5, 6, 7, 8, 9, 10, 11, 12, 13, 14, 15, 16, 17, 18, 19, 20, 21, 22, 23, 24, 25, 26, 27, 28, 29, 30, 31], [0, 1, 2, 3, 4, 5, 6, 7, 8, 9, 10, 11, 12, 13, 14, 15, 16, 17, 18, 19, 20, 21, 22, 23, 24, 25, 26, 27, 28, 29, 30, 31, 32], [0, 1, 2, 3, 4, 5, 6, 7, 8, 9, 10, 11, 12, 13, 14, 15, 16, 17, 18, 19, 20, 21, 22, 23, 24, 25, 26, 27, 28, 29, 30, 31, 32, 33]] [0, 1, 2, 3, 4, 5, 6, 7, 8, 9, 10, 11, 12, 13, 14, 15, 16, 17, 18, 19, 20, 21, 22, 23, 24, 25, 26, 27, 28, 29, 30, 31, 32, 33, 34] noFt (fun _ _ _ h => by simp [noFt] at h) draws (by kernel_rfl) (by kernel_rfl) ?_
            generalize hK : AW Try.prog _ _ _ = K
            simp only [go_sem, ↓reduceIte, reduceCtorEq, Nat.reduceAdd, Nat.reduceSub, Nat.reduceMul, Nat.reduceEqDiff, Nat.reduceLT, Nat.reduceLeDiff, Nat.reduceBEq, Int.reduceAdd, Int.reduceSub, Int.reduceLT, Int.reduceLE, Int.reduceEq, Int.reduceToNat, c2, eq_true c15, natOf_le hx16a, hx16b, eq_false c17, eq_true c18]
            subst hK
            refine AW.ifBT rfl rfl ?_
            refine AW.regL [4, 5] ?_
            generalize hK : AW Try.prog _ _ _ = K
            simp only [go_sem, ↓reduceIte, reduceCtorEq, Nat.reduceAdd, Nat.reduceSub, Nat.reduceMul, Nat.reduceEqDiff, Nat.reduceLT, Nat.reduceLeDiff, Nat.reduceBEq, Int.reduceAdd, Int.reduceSub, Int.reduceLT, Int.reduceLE, Int.reduceEq, Int.reduceToNat, c2, eq_true c15, eq_false c17, eq_true c18]
            subst hK
            refine AW.ent (Ent.nilOwn 4 3 (by decide) rfl) ?_
            refine AW.ret ?_
            refine block_r ?_
            refine thenA_r ?_
            refine thenA_r ?_
            refine ⟨_, (Option.some.inj h).symm, _, Ent.refl, rfl, ?_⟩
            (simp only [go_sem, ↓reduceIte, reduceCtorEq, Nat.reduceAdd, Nat.reduceSub, Nat.reduceMul, Nat.reduceEqDiff, Nat.reduceLT, Nat.reduceLeDiff, Nat.reduceBEq, Int.reduceAdd, Int.reduceSub, Int.reduceLT, Int.reduceLE, Int.reduceEq, Int.reduceToNat, c2, eq_true c15, eq_false c17, eq_true c18, finA, resA, resOf_1, resOf_2, sealV_val, sealV_sl, sealV_ip, sealV_agg, sealV_tup, sealV_own, sealL_nil, sealL_cons] <;> try simp)
          · rw [if_neg c18] at h
            by_cases c19 : 0 < s1_0
            · rw [if_pos c19] at h
              obtain ⟨x20, hx20, h⟩ := Option.bind_eq_some_iff.1 h
              obtain ⟨hx20a, hx20b⟩ := ix_some.1 hx20
              obtain ⟨x21, hx21, h⟩ := Option.bind_eq_some_iff.1 h
              refine AW.regdL [0, 1, 6, 58] [[], [], [0, 1], [0, 1, 2], [0, 1, 2, 3], [0, 1, 2, 3, 4], [0, 1, 2, 3, 4, 5], [0, 1, 2, 3, 4, 5, 6], [0, 1, 2, 3, 4, 5, 6], [0, 1, 2, 3, 4, 5, 6, 7, 8], [0, 1, 2, 3, 4, 5, 6, 7, 8, 9], [0, 1, 2, 3, 4, 5, 6, 7, 8, 9, 10], [0, 1, 2, 3, 4, 5, 6, 7, 8, 9, 10, 11], [0, 1, 2, 3, 4, 5, 6, 7, 8, 9, 10, 11, 12], [0, 1, 2, 3, 4, 5, 6, 7, 8, 9, 10, 11, 12, 13], [0, 1, 2, 3, 4, 5, 6, 7, 8, 9, 10, 11, 12, 13, 14], [0, 1, 2, 3, 4, 5, 6, 7, 8, 9, 10, 11, 12, 13, 14, 15], [0, 1, 2, 3, 4, 5, 6, 7, 8, 9, 10, 11, 12, 13, 14, 15, 16], [0, 1, 2, 3, 4, 5, 6, 7, 8, 9, 10, 11, 12, 13, 14, 15, 16, 17], [0, 1, 2, 3, 4, 5, 6, 7, 8, 9, 10, 11, 12, 13, 14, 15, 16, 17], [0, 1, 2, 3, 4, 5, 6, 7, 8, 9, 10, 11, 12, 13, 14, 15, 16, 17, 19], [0, 1, 2, 3, 4, 5, 6, 7, 8, 9, 10, 11, 12, 13, 14, 15, 16, 17, 18, 19, 20], [0, 1, 2, 3, 4, 5, 6, 7, 8, 9, 10, 11, 12, 13, 14, 15, 16, 17, 18, 19, 20, 21], [0, 1, 2, 3, 4, 5, 6, 7, 8, 9, 10, 11, 12, 13, 14, 15, 16, 17, 18, 19, 20, 21, 22], [0, 1, 2, 3, 4, 5, 6, 7, 8, 9, 10, 11, 12, 13, 14, 15, 16, 17, 18, 19, 20, 21, 22, 23], [0, 1, 2, 3, 4, 5, 6, 7, 8, 9, 10, 11, 12, 13, 14, 15, 16, 17], [0, 1, 2, 3, 4, 5, 6, 7, 8, 9, 10, 11, 12, 13, 14, 15, 16, 17], [0, 1, 2, 3, 4, 5, 6, 7, 8, 9, 10, 11, 12, 13, 14, 15, 16, 17, 25, 26], [0, 1, 2, 3, 4, 5, 6, 7, 8, 9, 10, 11, 12, 13, 14, 15, 16, 17, 25, 26, 27], [0, 1, 2, 3, 4, 5, 6, 7, 8, 9, 10, 11, 12, 13, 14, 15, 16, 17, 25, 26, 27, 28], [0, 1, 2, 3, 4, 5, 6, 7, 8, 9, 10, 11, 12, 13, 14, 15, 16, 17, 25, 26, 27, 28, 29], [0, 1, 2, 3, 4, 5, 6, 7, 8, 9, 10, 11, 12, 13, 14, 15, 16, 17, 18, 19, 20, 21, 22, 23, 24, 25, 26, 27, 28, 29, 30], [0, 1, 2, 3, 4, 5, 6, 7, 8, 9, 10, 11, 12, 13, 14, 15, 16, 17, 18, 19, 20, 21, 22, 23, 24, 25, 26, 27, 28, 29, 30, 31], [0, 1, 2, 3, 4, 5, 6, 7, 8, 9, 10, 11, 12, 13, 14, 15, 16, 17, 18, 19, 20, 21, 22, 23, 24, 25, 26, 27, 28, 29, 30, 31, 32], [0, 1, 2, 3, 4, 5, 6, 7, 8, 9, 10, 11, 12, 13, 14, 15, 16, 17, 18, 19, 20, 21, 22, 23, 24, 25, 26, 27, 28, 29, 30, 31, 32, 33]] [0, 1, 2, 3, 4, 5, 6, 7, 8, 9, 10, 11, 12, 13, 14, 15, 16, 17, 18, 19, 20, 21, 22, 23, 24, 25, 26, 27, 28, 29, 30, 31, 32, 33, 34] (tab [(70, [.val (.string x20.res.key), .val (.string x16.res.key)], .val (.bool x21))]) (tab_cons (xok70 x20.res.key x16.res.key x21 hx21) Try.call70 tab_nil) draws (by kernel_rfl) (by kernel_rfl) ?_
              generalize hK : AW Try.prog _ _ _ = K
              simp only [go_sem, ↓reduceIte, reduceCtorEq, Nat.reduceAdd, Nat.reduceSub, Nat.reduceMul, Nat.reduceEqDiff, Nat.reduceLT, Nat.reduceLeDiff, Nat.reduceBEq, Int.reduceAdd, Int.reduceSub, Int.reduceLT, Int.reduceLE, Int.reduceEq, Int.reduceToNat, c2, eq_true c15, natOf_le hx16a, hx16b, eq_false c17, eq_false c18, eq_true c19, natOf_le hx20a, hx20b]
              subst hK
              by_cases c22 : x21 = true
              · rw [if_pos c22] at h
                refine AW.ifBF rfl (by rw [c22]; rfl) ?_
                refine AW.skip ?_
                refine block_n ?_
                refine thenA_n ?_
                refine AW.regionL [0, 1, 6] ?_
                generalize hK : thenA _ _ Exit.normal = K
                simp only [go_sem, ↓reduceIte, reduceCtorEq, Nat.reduceAdd, Nat.reduceSub, Nat.reduceMul, Nat.reduceEqDiff, Nat.reduceLT, Nat.reduceLeDiff, Nat.reduceBEq, Int.reduceAdd, Int.reduceSub, Int.reduceLT, Int.reduceLE, Int.reduceEq, Int.reduceToNat, c2, eq_true c15, eq_false c17, eq_false c18, eq_true c19, c22]
                subst hK
                refine thenA_n ?_
                refine ⟨_, (Option.some.inj h).symm, ?_⟩
                refine Ent.can [] [] _ _ rfl (by decide) rfl ?_ (.nil _) ?_
                · exact (((RF.any.pv (by first | rfl | simp only [go_sem]) (by first | rfl | simp [upd_ap, tau, mapT, mapTL, c2, eq_true c15, eq_false c17, eq_false c18, eq_true c19, c22])).pv (by first | rfl | simp only [go_sem]) (by first | rfl | simp [upd_ap, tau, mapT, mapTL, c2, eq_true c15, eq_false c17, eq_false c18, eq_true c19, c22])).pv (by first | rfl | simp only [go_sem]) (by first | rfl | simp [upd_ap, tau, mapT, mapTL, c2, eq_true c15, eq_false c17, eq_false c18, eq_true c19, c22]))
                · exact .nil _
              · rw [if_neg c22] at h
                rw [Bool.not_eq_true] at c22
                refine AW.ifBT rfl (by rw [c22]; rfl) ?_
                refine AW.regL [4, 5] ?_
                generalize hK : AW Try.prog _ _ _ = K
                simp only [go_sem, ↓reduceIte, reduceCtorEq, Nat.reduceAdd, Nat.reduceSub, Nat.reduceMul, Nat.reduceEqDiff, Nat.reduceLT, Nat.reduceLeDiff, Nat.reduceBEq, Int.reduceAdd, Int.reduceSub, Int.reduceLT, Int.reduceLE, Int.reduceEq, Int.reduceToNat, c2, eq_true c15, eq_false c17, eq_false c18, eq_true c19, c22]
                subst hK
                refine AW.ent (Ent.nilOwn 4 3 (by decide) rfl) ?_
                refine AW.ret ?_
                refine block_r ?_
                refine thenA_r ?_
                refine thenA_r ?_
                refine ⟨_, (Option.some.inj h).symm, _, Ent.refl, rfl, ?_⟩
                (simp only [go_sem, ↓reduceIte, reduceCtorEq, Nat.reduceAdd, Nat.reduceSub, Nat.reduceMul, Nat.reduceEqDiff, Nat.reduceLT, Nat.reduceLeDiff, Nat.reduceBEq, Int.reduceAdd, Int.reduceSub, Int.reduceLT, Int.reduceLE, Int.reduceEq, Int.reduceToNat, c2, eq_true c15, eq_false c17, eq_false c18, eq_true c19, c22, finA, resA, resOf_1, resOf_2, sealV_val, sealV_sl, sealV_ip, sealV_agg, sealV_tup, sealV_own, sealL_nil, sealL_cons] <;> try simp)
            · rw [if_neg c19] at h
              refine AW.regdL [0, 1, 6, 58] [[], [], [0, 1], [0, 1, 2], [0, 1, 2, 3], [0, 1, 2, 3, 4], [0, 1, 2, 3, 4, 5], [0, 1, 2, 3, 4, 5, 6], [0, 1, 2, 3, 4, 5, 6], [0, 1, 2, 3, 4, 5, 6, 7, 8], [0, 1, 2, 3, 4, 5, 6, 7, 8, 9], [0, 1, 2, 3, 4, 5, 6, 7, 8, 9, 10], [0, 1, 2, 3, 4, 5, 6, 7, 8, 9, 10, 11], [0, 1, 2, 3, 4, 5, 6, 7, 8, 9, 10, 11, 12], [0, 1, 2, 3, 4, 5, 6, 7, 8, 9, 10, 11, 12, 13], [0, 1, 2, 3, 4, 5, 6, 7, 8, 9, 10, 11, 12, 13, 14], [0, 1, 2, 3, 4, 5, 6, 7, 8, 9, 10, 11, 12, 13, 14, 15], [0, 1, 2, 3, 4, 5, 6, 7, 8, 9, 10, 11, 12, 13, 14, 15, 16], [0, 1, 2, 3, 4, 5, 6, 7, 8, 9, 10, 11, 12, 13, 14, 15, 16, 17], [0, 1, 2, 3, 4, 5, 6, 7, 8, 9, 10, 11, 12, 13, 14, 15, 16, 17], [0, 1, 2, 3, 4, 5, 6, 7, 8, 9, 10, 11, 12, 13, 14, 15, 16, 17, 19], [0, 1, 2, 3, 4, 5, 6, 7, 8, 9, 10, 11, 12, 13, 14, 15, 16, 17, 18, 19, 20], [0, 1, 2, 3, 4, 5, 6, 7, 8, 9, 10, 11, 12, 13, 14, 15, 16, 17, 18, 19, 20, 21], [0, 1, 2, 3, 4, 5, 6, 7, 8, 9, 10, 11, 12, 13, 14, 15, 16, 17, 18, 19, 20, 21, 22], [0, 1, 2, 3, 4, 5, 6, 7, 8, 9, 10, 11, 12, 13, 14, 15, 16, 17, 18, 19, 20, 21, 22, 23], [0, 1, 2, 3, 4, 5, 6, 7, 8, 9, 10, 11, 12, 13, 14, 15, 16, 17], [0, 1, 2, 3, 4, 5, 6, 7, 8, 9, 10, 11, 12, 13, 14, 15, 16, 17], [0, 1, 2, 3, 4, 5, 6, 7, 8, 9, 10, 11, 12, 13, 14, 15, 16, 17, 25, 26], [0, 1, 2, 3, 4, 5, 6, 7, 8, 9, 10, 11, 12, 13, 14, 15, 16, 17, 25, 26, 27], [0, 1, 2, 3, 4, 5, 6, 7, 8, 9, 10, 11, 12, 13, 14, 15, 16, 17, 25, 26, 27, 28], [0, 1, 2, 3, 4, 5, 6, 7, 8, 9, 10, 11, 12, 13, 14, 15, 16, 17, 25, 26, 27, 28, 29], [0, 1, 2, 3, 4, 5, 6, 7, 8, 9, 10, 11, 12, 13, 14, 15, 16, 17, 18, 19, 20, 21, 22, 23, 24, 25, 26, 27, 28, 29, 30], [0, 1, 2, 3, 4, 5, 6, 7, 8, 9, 10, 11, 12, 13, 14, 15, 16, 17, 18, 19, 20, 21, 22, 23, 24, 25, 26, 27, 28, 29, 30, 31], [0, 1, 2, 3, 4, 5, 6, 7, 8, 9, 10, 11, 12, 13, 14, 15, 16, 17, 18, 19, 20, 21, 22, 23, 24, 25, 26, 27, 28, 29, 30, 31, 32], [0, 1, 2, 3, 4, 5, 6, 7, 8, 9, 10, 11, 12, 13, 14, 15, 16, 17, 18, 19, 20, 21, 22, 23, 24, 25, 26, 27, 28, 29, 30, 31, 32, 33]] [0, 1, 2, 3, 4, 5, 6, 7, 8, 9, 10, 11, 12, 13, 14, 15, 16, 17, 18, 19, 20, 21, 22, 23, 24, 25, 26, 27, 28, 29, 30, 31, 32, 33, 34] noFt (fun _ _ _ h => by simp [noFt] at h) draws (by kernel_rfl) (by kernel_rfl) ?_
              generalize hK : AW Try.prog _ _ _ = K
              simp only [go_sem, ↓reduceIte, reduceCtorEq, Nat.reduceAdd, Nat.reduceSub, Nat.reduceMul, Nat.reduceEqDiff, Nat.reduceLT, Nat.reduceLeDiff, Nat.reduceBEq, Int.reduceAdd, Int.reduceSub, Int.reduceLT, Int.reduceLE, Int.reduceEq, Int.reduceToNat, c2, eq_true c15, natOf_le hx16a, hx16b, eq_false c17, eq_false c18, eq_false c19]
              subst hK
              refine AW.ifBF rfl rfl ?_
              refine AW.skip ?_
              refine block_n ?_
              refine thenA_n ?_
              refine AW.regionL [0, 1, 6] ?_
              generalize hK : thenA _ _ Exit.normal = K
              simp only [go_sem, ↓reduceIte, reduceCtorEq, Nat.reduceAdd, Nat.reduceSub, Nat.reduceMul, Nat.reduceEqDiff, Nat.reduceLT, Nat.reduceLeDiff, Nat.reduceBEq, Int.reduceAdd, Int.reduceSub, Int.reduceLT, Int.reduceLE, Int.reduceEq, Int.reduceToNat, c2, eq_true c15, eq_false c17, eq_false c18, eq_false c19]
              subst hK
              refine thenA_n ?_
              refine ⟨_, (Option.some.inj h).symm, ?_⟩
              refine Ent.can [] [] _ _ rfl (by decide) rfl ?_ (.nil _) ?_
              · exact (((RF.any.pv (by first | rfl | simp only [go_sem]) (by first | rfl | simp [upd_ap, tau, mapT, mapTL, c2, eq_true c15, eq_false c17, eq_false c18, eq_false c19])).pv (by first | rfl | simp only [go_sem]) (by first | rfl | simp [upd_ap, tau, mapT, mapTL, c2, eq_true c15, eq_false c17, eq_false c18, eq_false c19])).pv (by first | rfl | simp only [go_sem]) (by first | rfl | simp [upd_ap, tau, mapT, mapTL, c2, eq_true c15, eq_false c17, eq_false c18, eq_false c19]))
              · exact .nil _
      · rw [if_neg c15] at h
        refine AW.ifF rfl c15 ?_
        refine AW.exit ?_
        refine thenA_x ?_
        refine thenA_x ?_
        refine ⟨_, (Option.some.inj h).symm, _, ?_, rfl, rfl⟩
        refine Ent.can [] [] _ _ rfl (by decide) rfl ?_ (.nil _) ?_
        · exact ((RF.any.pv (by first | rfl | simp only [go_sem]) (by first | rfl | simp [upd_ap, tau, mapT, mapTL, c2, eq_false c15])).pv (by first | rfl | simp only [go_sem]) (by first | rfl | simp [upd_ap, tau, mapT, mapTL, c2, eq_false c15]))
        · exact .nil _
    · intro e st' hX
      rcases y23 with y24 | _ <;> dsimp only at h hX
      · obtain ⟨rfl, hf⟩ := hX
        refine ⟨_, Ent.refl, ?_⟩
        refine block_r ?_
        refine thenA_r ?_
        obtain rfl := Option.some.inj h
        exact hf
      · obtain ⟨rfl, rfl⟩ := hX
        refine ⟨_, Ent.refl, ?_⟩
        refine block_x ?_
        refine thenA_n ?_
        obtain ⟨x25, hx25, h⟩ := Option.bind_eq_some_iff.1 h
        obtain ⟨hx25b, hx25e⟩ := appO?_some.1 hx25
        have hx25f : ∀ id o : Nat, appO 3 56 id (List.map encRes a0) 0 0 o (some (.row 3 true (([] : List (List AV))))) = some ⟨.own id 0 x25.length, [(o, none), (id, some (.row 3 true (List.map encRes x25)))]⟩ := fun id o => by
          subst hx25e; rw [appO_ok (by simp) (by simpa using hx25b) (by decide)]; simp [encRes, encI]
        refine AW.regL [0, 1, 7] ?_
        generalize hK : AW Try.prog _ _ _ = K
        simp only [go_sem, ↓reduceIte, reduceCtorEq, Nat.reduceAdd, Nat.reduceSub, Nat.reduceMul, Nat.reduceEqDiff, Nat.reduceLT, Nat.reduceLeDiff, Nat.reduceBEq, Int.reduceAdd, Int.reduceSub, Int.reduceLT, Int.reduceLE, Int.reduceEq, Int.reduceToNat, c2, hx25f]
        subst hK
        refine AW.seq ?_
        refine AW.regL [0, 1, 7, 8] ?_
        generalize hK : AW Try.prog _ _ _ = K
        simp only [go_sem, ↓reduceIte, reduceCtorEq, Nat.reduceAdd, Nat.reduceSub, Nat.reduceMul, Nat.reduceEqDiff, Nat.reduceLT, Nat.reduceLeDiff, Nat.reduceBEq, Int.reduceAdd, Int.reduceSub, Int.reduceLT, Int.reduceLE, Int.reduceEq, Int.reduceToNat, c2]
        subst hK
        refine AW.block ?_
        obtain ⟨y232, hy232, h⟩ := Option.bind_eq_some_iff.1 h
        refine AW.loopO (fun s => ⟨(upd (upd (upd (upd anyF 0 (.sl (List.map encRes a0))) 1 (.sl (List.map encCh a1))) 7 (.own 8 0 s.1.length)) 8 (.val (.int .i64 s.2))), hpL [] [some (.row 3 true (List.map encRes s.1))], 9⟩) (fun y e st' => match y with | .inl z => e = Exit.ret ∧ finA Try.prog [.tmp 4, .tmp 5] (.tup [.fr 3 (List.map encRes z.1), .val (.int .i64 z.2)]) .ret st' | .inr z => e = Exit.exit 2 ∧ st' = ⟨(upd anyF 7 (.own 8 0 z.length)), hpL [] [some (.row 3 true (List.map encRes z))], 9⟩) hy232 ?_ ?_ ?_
        · refine Ent.can [24] [] _ _ rfl (by decide) rfl ?_ (.nil _) ?_
          · exact ((((RF.any.pv (by first | rfl | simp only [go_sem]) (by first | rfl | simp [upd_ap, tau, mapT, mapTL, c2])).pv (by first | rfl | simp only [go_sem]) (by first | rfl | simp [upd_ap, tau, mapT, mapTL, c2])).po (by decide) (by first | rfl | simp [upd_ap, tau, mapT, mapTL, c2])).pv (by first | rfl | simp only [go_sem]) (by first | rfl | simp [upd_ap, tau, mapT, mapTL, c2]))
          · exact .cons (.eq (by first | rfl | simp only [go_sem]) (by first | rfl | simp [upd_ap, tau, mapT, mapTL, c2])) (.nil _)
        · clear h hy232
          rintro ⟨s2_0, s2_1⟩ x h
          rw [f22_s2] at h
          refine AW.seq ?_
          refine AW.regL [0, 1, 7, 8, 65] ?_
          generalize hK : AW Try.prog _ _ _ = K
          simp only [go_sem, ↓reduceIte, reduceCtorEq, Nat.reduceAdd, Nat.reduceSub, Nat.reduceMul, Nat.reduceEqDiff, Nat.reduceLT, Nat.reduceLeDiff, Nat.reduceBEq, Int.reduceAdd, Int.reduceSub, Int.reduceLT, Int.reduceLE, Int.reduceEq, Int.reduceToNat, c2]
          subst hK
          by_cases c146 : s2_1 < (a1.length : Int)
          · rw [if_pos c146] at h
            refine AW.ifT rfl c146 ?_
            refine AW.skip ?_
            refine thenA_n ?_
            refine AW.seq ?_
            refine AW.block ?_
            obtain ⟨x147, hx147, h⟩ := Option.bind_eq_some_iff.1 h
            obtain ⟨hx147a, hx147b⟩ := ix_some.1 hx147
            refine AW.regL [0, 1, 7, 8, 9] ?_
            generalize hK : AW Try.prog _ _ _ = K
            simp only [go_sem, ↓reduceIte, reduceCtorEq, Nat.reduceAdd, Nat.reduceSub, Nat.reduceMul, Nat.reduceEqDiff, Nat.reduceLT, Nat.reduceLeDiff, Nat.reduceBEq, Int.reduceAdd, Int.reduceSub, Int.reduceLT, Int.reduceLE, Int.reduceEq, Int.reduceToNat, c2, eq_true c146, natOf_le hx147a, hx147b]
            subst hK
            obtain ⟨x148, hx148, h⟩ := Option.bind_eq_some_iff.1 h
            refine AW.regL [0, 1, 7, 8, 9, 11] ?_
            generalize hK : AW Try.prog _ _ _ = K
            simp only [go_sem, ↓reduceIte, reduceCtorEq, Nat.reduceAdd, Nat.reduceSub, Nat.reduceMul, Nat.reduceEqDiff, Nat.reduceLT, Nat.reduceLeDiff, Nat.reduceBEq, Int.reduceAdd, Int.reduceSub, Int.reduceLT, Int.reduceLE, Int.reduceEq, Int.reduceToNat, c2, eq_true c146]
            refine arC.of (ok68 a0 x147.res.key x148 hx148) Try.call68 ?_
            simp only [go_sem, ↓reduceIte, reduceCtorEq, Nat.reduceAdd, Nat.reduceSub, Nat.reduceMul, Nat.reduceEqDiff, Nat.reduceLT, Nat.reduceLeDiff, Nat.reduceBEq, Int.reduceAdd, Int.reduceSub, Int.reduceLT, Int.reduceLE, Int.reduceEq, Int.reduceToNat, c2, eq_true c146]
            subst hK
            refine AW.seq ?_
            by_cases c149 : x147.kind = 1
            · rw [if_pos c149] at h
              refine AW.regL [0, 1, 7, 8, 9, 11, 88] ?_
              generalize hK : AW Try.prog _ _ _ = K
              simp only [go_sem, ↓reduceIte, reduceCtorEq, Nat.reduceAdd, Nat.reduceSub, Nat.reduceMul, Nat.reduceEqDiff, Nat.reduceLT, Nat.reduceLeDiff, Nat.reduceBEq, Int.reduceAdd, Int.reduceSub, Int.reduceLT, Int.reduceLE, Int.reduceEq, Int.reduceToNat, c2, eq_true c146, natOf_le hx147a, hx147b, eq_true c149]
              subst hK
              by_cases c150 : x148.2 = true
              · rw [if_pos c150] at h
                refine AW.ifBT rfl c150 ?_
                refine AW.regL [4, 5] ?_
                generalize hK : AW Try.prog _ _ _ = K
                simp only [go_sem, ↓reduceIte, reduceCtorEq, Nat.reduceAdd, Nat.reduceSub, Nat.reduceMul, Nat.reduceEqDiff, Nat.reduceLT, Nat.reduceLeDiff, Nat.reduceBEq, Int.reduceAdd, Int.reduceSub, Int.reduceLT, Int.reduceLE, Int.reduceEq, Int.reduceToNat, c2, eq_true c146, eq_true c149, c150]
                subst hK
                refine AW.ent (Ent.nilOwn 4 3 (by decide) rfl) ?_
                refine AW.ret ?_
                refine thenA_r ?_
                refine block_r ?_
                refine thenA_r ?_
                refine thenA_r ?_
                refine ⟨_, (Option.some.inj h).symm, _, Ent.refl, rfl, ?_⟩
                (simp only [go_sem, ↓reduceIte, reduceCtorEq, Nat.reduceAdd, Nat.reduceSub, Nat.reduceMul, Nat.reduceEqDiff, Nat.reduceLT, Nat.reduceLeDiff, Nat.reduceBEq, Int.reduceAdd, Int.reduceSub, Int.reduceLT, Int.reduceLE, Int.reduceEq, Int.reduceToNat, c2, eq_true c146, eq_true c149, c150, finA, resA, resOf_1, resOf_2, sealV_val, sealV_sl, sealV_ip, sealV_agg, sealV_tup, sealV_own, sealL_nil, sealL_cons] <;> try simp)
              · rw [if_neg c150] at h
                rw [Bool.not_eq_true] at c150
                refine AW.ifBF rfl c150 ?_
                refine AW.skip ?_
                refine thenA_n ?_
                refine AW.seq ?_
                refine AW.regL [0, 1, 7, 8, 9, 98] ?_
                generalize hK : AW Try.prog _ _ _ = K
                simp only [go_sem, ↓reduceIte, reduceCtorEq, Nat.reduceAdd, Nat.reduceSub, Nat.reduceMul, Nat.reduceEqDiff, Nat.reduceLT, Nat.reduceLeDiff, Nat.reduceBEq, Int.reduceAdd, Int.reduceSub, Int.reduceLT, Int.reduceLE, Int.reduceEq, Int.reduceToNat, c2, eq_true c146, eq_true c149, c150, natOf_le hx147a, hx147b]
                subst hK
                refine AW.ifBF rfl rfl ?_
                refine AW.skip ?_
                refine thenA_n ?_
                refine AW.regL [0, 1, 7, 8, 9, 12] ?_
                generalize hK : AW Try.prog _ _ _ = K
                simp only [go_sem, ↓reduceIte, reduceCtorEq, Nat.reduceAdd, Nat.reduceSub, Nat.reduceMul, Nat.reduceEqDiff, Nat.reduceLT, Nat.reduceLeDiff, Nat.reduceBEq, Int.reduceAdd, Int.reduceSub, Int.reduceLT, Int.reduceLE, Int.reduceEq, Int.reduceToNat, c2, eq_true c146, eq_true c149, c150]
                subst hK
                refine AW.regL [0, 1, 7, 8, 9, 12, 13] ?_
                generalize hK : AW Try.prog _ _ _ = K
                simp only [go_sem, ↓reduceIte, reduceCtorEq, Nat.reduceAdd, Nat.reduceSub, Nat.reduceMul, Nat.reduceEqDiff, Nat.reduceLT, Nat.reduceLeDiff, Nat.reduceBEq, Int.reduceAdd, Int.reduceSub, Int.reduceLT, Int.reduceLE, Int.reduceEq, Int.reduceToNat, c2, eq_true c146, eq_true c149, c150, natOf_le hx147a, hx147b]
                subst hK
                refine AW.seq ?_
                refine AW.regL [0, 1, 7, 8, 9, 12, 13, 14] ?_
                generalize hK : AW Try.prog _ _ _ = K
                simp only [go_sem, ↓reduceIte, reduceCtorEq, Nat.reduceAdd, Nat.reduceSub, Nat.reduceMul, Nat.reduceEqDiff, Nat.reduceLT, Nat.reduceLeDiff, Nat.reduceBEq, Int.reduceAdd, Int.reduceSub, Int.reduceLT, Int.reduceLE, Int.reduceEq, Int.reduceToNat, c2, eq_true c146, eq_true c149, c150]
                subst hK
                refine AW.block ?_
                obtain ⟨y186, hy186, h⟩ := Option.bind_eq_some_iff.1 h
                refine AW.loopO (fun s => ⟨(upd (upd (upd (upd (upd (upd (upd (upd anyF 0 (.sl (List.map encRes a0))) 1 (.sl (List.map encCh a1))) 7 (.own 8 0 s2_0.length)) 8 (.val (.int .i64 s2_1))) 9 (.val (.string x147.res.key))) 12 (.own 9 0 s.2.2.length)) 13 (.val (.bool s.1))) 14 (.val (.int .i64 s.2.1))), hpL [] [some (.row 3 true (List.map encRes s2_0)), some (.row 3 true (List.map encRes s.2.2))], 10⟩) (fun z e st' => e = Exit.exit 4 ∧ st' = ⟨(upd (upd (upd (upd (upd anyF 0 (.sl (List.map encRes a0))) 1 (.sl (List.map encCh a1))) 8 (.val (.int .i64 s2_1))) 12 (.own 8 0 z.2.length)) 13 (.val (.bool z.1))), hpL [] [some (.row 3 true (List.map encRes z.2))], 9⟩) hy186 ?_ ?_ ?_
                · refine Ent.trans (Ent.nilOwn 12 3 (by decide) rfl) ?_
                  refine Ent.can [8, 393] [] _ _ rfl (by decide) rfl ?_ (.nil _) ?_
                  · exact ((((((((RF.any.pv (by first | rfl | simp only [go_sem]) (by first | rfl | simp [upd_ap, tau, mapT, mapTL, c2, eq_true c146, eq_true c149, c150])).pv (by first | rfl | simp only [go_sem]) (by first | rfl | simp [upd_ap, tau, mapT, mapTL, c2, eq_true c146, eq_true c149, c150])).po (by decide) (by first | rfl | simp [upd_ap, tau, mapT, mapTL, c2, eq_true c146, eq_true c149, c150])).pv (by first | rfl | simp only [go_sem]) (by first | rfl | simp [upd_ap, tau, mapT, mapTL, c2, eq_true c146, eq_true c149, c150])).pv (by first | rfl | simp only [go_sem]) (by first | rfl | simp [upd_ap, tau, mapT, mapTL, c2, eq_true c146, eq_true c149, c150])).po (by decide) (by first | rfl | simp [upd_ap, tau, mapT, mapTL, c2, eq_true c146, eq_true c149, c150])).pv (by first | rfl | simp only [go_sem]) (by first | rfl | simp [upd_ap, tau, mapT, mapTL, c2, eq_true c146, eq_true c149, c150])).pv (by first | rfl | simp only [go_sem]) (by first | rfl | simp [upd_ap, tau, mapT, mapTL, c2, eq_true c146, eq_true c149, c150]))
                  · exact .cons (.eq (by first | rfl | simp only [go_sem]) (by first | rfl | simp [upd_ap, tau, mapT, mapTL, c2, eq_true c146, eq_true c149, c150])) (.cons (.eq (by first | rfl | simp only [go_sem]) (by first | rfl | simp [upd_ap, tau, mapT, mapTL, c2, eq_true c146, eq_true c149, c150])) (.nil _))
                · clear h hy186
                  rintro ⟨s7_0, s7_1, s7_2⟩ x h
                  rw [f22_s7] at h
                  refine AW.seq ?_
                  refine AW.regL [0, 1, 7, 8, 9, 12, 13, 14, 108] ?_
                  generalize hK : AW Try.prog _ _ _ = K
                  simp only [go_sem, ↓reduceIte, reduceCtorEq, Nat.reduceAdd, Nat.reduceSub, Nat.reduceMul, Nat.reduceEqDiff, Nat.reduceLT, Nat.reduceLeDiff, Nat.reduceBEq, Int.reduceAdd, Int.reduceSub, Int.reduceLT, Int.reduceLE, Int.reduceEq, Int.reduceToNat, c2, eq_true c146, eq_true c149, c150]
                  subst hK
                  by_cases c173 : s7_1 < ((s2_0.length : Nat) : Int)
                  · rw [if_pos c173] at h
                    refine AW.ifT rfl c173 ?_
                    refine AW.skip ?_
                    refine thenA_n ?_
                    refine AW.seq ?_
                    refine AW.block ?_
                    refine AW.seq ?_
                    by_cases c174 : s7_0 = true
                    · rw [if_pos c174] at h
                      refine AW.regL [0, 1, 7, 8, 9, 12, 13, 14, 122] ?_
                      generalize hK : AW Try.prog _ _ _ = K
                      simp only [go_sem, ↓reduceIte, reduceCtorEq, Nat.reduceAdd, Nat.reduceSub, Nat.reduceMul, Nat.reduceEqDiff, Nat.reduceLT, Nat.reduceLeDiff, Nat.reduceBEq, Int.reduceAdd, Int.reduceSub, Int.reduceLT, Int.reduceLE, Int.reduceEq, Int.reduceToNat, c2, eq_true c146, eq_true c149, c150, eq_true c173, c174]
                      subst hK
                      refine AW.ifBF rfl rfl ?_
                      refine AW.skip ?_
                      refine thenA_n ?_
                      obtain ⟨x175, hx175, h⟩ := Option.bind_eq_some_iff.1 h
                      obtain ⟨hx175a, hx175b⟩ := ix_some.1 hx175
                      refine AW.regL [0, 1, 7, 8, 9, 12, 13, 14, 137] ?_
                      generalize hK : AW Try.prog _ _ _ = K
                      simp only [go_sem, ↓reduceIte, reduceCtorEq, Nat.reduceAdd, Nat.reduceSub, Nat.reduceMul, Nat.reduceEqDiff, Nat.reduceLT, Nat.reduceLeDiff, Nat.reduceBEq, Int.reduceAdd, Int.reduceSub, Int.reduceLT, Int.reduceLE, Int.reduceEq, Int.reduceToNat, c2, eq_true c146, eq_true c149, c150, eq_true c173, c174, natOf_le hx175a, hx175b, ix_lt hx175b]
                      subst hK
                      by_cases c176 : x175.key = x147.res.key
                      · rw [if_pos c176] at h
                        refine AW.ifF rfl (fun q => q c176) ?_
                        refine AW.skip ?_
                        refine block_n ?_
                        refine thenA_n ?_
                        refine AW.regionL [0, 1, 7, 8, 9, 12, 13, 14] ?_
                        generalize hK : thenA _ _ Exit.normal = K
                        simp only [go_sem, ↓reduceIte, reduceCtorEq, Nat.reduceAdd, Nat.reduceSub, Nat.reduceMul, Nat.reduceEqDiff, Nat.reduceLT, Nat.reduceLeDiff, Nat.reduceBEq, Int.reduceAdd, Int.reduceSub, Int.reduceLT, Int.reduceLE, Int.reduceEq, Int.reduceToNat, c2, eq_true c146, eq_true c149, c150, eq_true c173, c174, eq_true c176]
                        subst hK
                        refine thenA_n ?_
                        refine ⟨_, (Option.some.inj h).symm, ?_⟩
                        refine Ent.can [8, 9] [] _ _ rfl (by decide) rfl ?_ (.nil _) ?_
                        · exact ((((((((RF.any.pv (by first | rfl | simp only [go_sem]) (by first | rfl | simp [upd_ap, tau, mapT, mapTL, c2, eq_true c146, eq_true c149, c150, eq_true c173, c174, eq_true c176])).pv (by first | rfl | simp only [go_sem]) (by first | rfl | simp [upd_ap, tau, mapT, mapTL, c2, eq_true c146, eq_true c149, c150, eq_true c173, c174, eq_true c176])).po (by decide) (by first | rfl | simp [upd_ap, tau, mapT, mapTL, c2, eq_true c146, eq_true c149, c150, eq_true c173, c174, eq_true c176])).pv (by first | rfl | simp only [go_sem]) (by first | rfl | simp [upd_ap, tau, mapT, mapTL, c2, eq_true c146, eq_true c149, c150, eq_true c173, c174, eq_true c176])).pv (by first | rfl | simp only [go_sem]) (by first | rfl | simp [upd_ap, tau, mapT, mapTL, c2, eq_true c146, eq_true c149, c150, eq_true c173, c174, eq_true c176])).po (by decide) (by first | rfl | simp [upd_ap, tau, mapT, mapTL, c2, eq_true c146, eq_true c149, c150, eq_true c173, c174, eq_true c176])).pv (by first | rfl | simp only [go_sem]) (by first | rfl | simp [upd_ap, tau, mapT, mapTL, c2, eq_true c146, eq_true c149, c150, eq_true c173, c174, eq_true c176])).pv (by first | rfl | simp only [go_sem]) (by first | rfl | simp [upd_ap, tau, mapT, mapTL, c2, eq_true c146, eq_true c149, c150, eq_true c173, c174, eq_true c176]))
                        · exact .cons (.eq (by first | rfl | simp only [go_sem]) (by first | rfl | simp [upd_ap, tau, mapT, mapTL, c2, eq_true c146, eq_true c149, c150, eq_true c173, c174, eq_true c176])) (.cons (.eq (by first | rfl | simp only [go_sem]) (by first | rfl | simp [upd_ap, tau, mapT, mapTL, c2, eq_true c146, eq_true c149, c150, eq_true c173, c174, eq_true c176])) (.nil _))
                      · rw [if_neg c176] at h
                        refine AW.ifT rfl c176 ?_
                        obtain ⟨x177, hx177, h⟩ := Option.bind_eq_some_iff.1 h
                        obtain ⟨hx177b, hx177e⟩ := appO?_some.1 hx177
                        have hx177f : ∀ id o : Nat, appO 3 56 id ([[.val (.string x175.key), .val (.string x175.val), .sl (List.map encInt x175.offs)]]) 0 s7_2.length o (some (.row 3 true (List.map encRes s7_2))) = some ⟨.own id 0 x177.length, [(o, none), (id, some (.row 3 true (List.map encRes x177)))]⟩ := fun id o => by
                          subst hx177e; rw [appO_ok (by simp) (by simpa using hx177b) (by decide)]; simp [encRes, encI]
                        refine AW.regionL [0, 1, 7, 8, 9, 12, 13, 14] ?_
                        generalize hK : inBlockA _ _ Exit.normal = K
                        simp only [go_sem, ↓reduceIte, reduceCtorEq, Nat.reduceAdd, Nat.reduceSub, Nat.reduceMul, Nat.reduceEqDiff, Nat.reduceLT, Nat.reduceLeDiff, Nat.reduceBEq, Int.reduceAdd, Int.reduceSub, Int.reduceLT, Int.reduceLE, Int.reduceEq, Int.reduceToNat, c2, eq_true c146, eq_true c149, c150, eq_true c173, c174, eq_false c176, natOf_le hx175a, hx175b, ix_lt hx175b, hx177f]
                        subst hK
                        refine block_n ?_
                        refine thenA_n ?_
                        refine AW.regionL [0, 1, 7, 8, 9, 12, 13, 14] ?_
                        generalize hK : thenA _ _ Exit.normal = K
                        simp only [go_sem, ↓reduceIte, reduceCtorEq, Nat.reduceAdd, Nat.reduceSub, Nat.reduceMul, Nat.reduceEqDiff, Nat.reduceLT, Nat.reduceLeDiff, Nat.reduceBEq, Int.reduceAdd, Int.reduceSub, Int.reduceLT, Int.reduceLE, Int.reduceEq, Int.reduceToNat, c2, eq_true c146, eq_true c149, c150, eq_true c173, c174, eq_false c176]
                        subst hK
                        refine thenA_n ?_
                        refine ⟨_, (Option.some.inj h).symm, ?_⟩
                        refine Ent.can [8, 242] [] _ _ rfl (by decide) rfl ?_ (.nil _) ?_
                        · exact ((((((((RF.any.pv (by first | rfl | simp only [go_sem]) (by first | rfl | simp [upd_ap, tau, mapT, mapTL, c2, eq_true c146, eq_true c149, c150, eq_true c173, c174, eq_false c176])).pv (by first | rfl | simp only [go_sem]) (by first | rfl | simp [upd_ap, tau, mapT, mapTL, c2, eq_true c146, eq_true c149, c150, eq_true c173, c174, eq_false c176])).po (by decide) (by first | rfl | simp [upd_ap, tau, mapT, mapTL, c2, eq_true c146, eq_true c149, c150, eq_true c173, c174, eq_false c176])).pv (by first | rfl | simp only [go_sem]) (by first | rfl | simp [upd_ap, tau, mapT, mapTL, c2, eq_true c146, eq_true c149, c150, eq_true c173, c174, eq_false c176])).pv (by first | rfl | simp only [go_sem]) (by first | rfl | simp [upd_ap, tau, mapT, mapTL, c2, eq_true c146, eq_true c149, c150, eq_true c173, c174, eq_false c176])).po (by decide) (by first | rfl | simp [upd_ap, tau, mapT, mapTL, c2, eq_true c146, eq_true c149, c150, eq_true c173, c174, eq_false c176])).pv (by first | rfl | simp only [go_sem]) (by first | rfl | simp [upd_ap, tau, mapT, mapTL, c2, eq_true c146, eq_true c149, c150, eq_true c173, c174, eq_false c176])).pv (by first | rfl | simp only [go_sem]) (by first | rfl | simp [upd_ap, tau, mapT, mapTL, c2, eq_true c146, eq_true c149, c150, eq_true c173, c174, eq_false c176]))
                        · exact .cons (.eq (by first | rfl | simp only [go_sem]) (by first | rfl | simp [upd_ap, tau, mapT, mapTL, c2, eq_true c146, eq_true c149, c150, eq_true c173, c174, eq_false c176])) (.cons (.eq (by first | rfl | simp only [go_sem]) (by first | rfl | simp [upd_ap, tau, mapT, mapTL, c2, eq_true c146, eq_true c149, c150, eq_true c173, c174, eq_false c176])) (.nil _))
                    · rw [if_neg c174] at h
                      rw [Bool.not_eq_true] at c174
                      obtain ⟨x178, hx178, h⟩ := Option.bind_eq_some_iff.1 h
                      obtain ⟨hx178a, hx178b⟩ := ix_some.1 hx178
                      obtain ⟨x179, hx179, h⟩ := Option.bind_eq_some_iff.1 h
                      refine AW.regL [0, 1, 7, 8, 9, 12, 13, 14, 122] ?_
                      generalize hK : AW Try.prog _ _ _ = K
                      simp only [go_sem, ↓reduceIte, reduceCtorEq, Nat.reduceAdd, Nat.reduceSub, Nat.reduceMul, Nat.reduceEqDiff, Nat.reduceLT, Nat.reduceLeDiff, Nat.reduceBEq, Int.reduceAdd, Int.reduceSub, Int.reduceLT, Int.reduceLE, Int.reduceEq, Int.reduceToNat, c2, eq_true c146, eq_true c149, c150, eq_true c173, c174, natOf_le hx178a, hx178b, ix_lt hx178b]
                      refine arC.of (xok70 x178.key x147.res.key x179 hx179) Try.call70 ?_
                      simp only [go_sem, ↓reduceIte, reduceCtorEq, Nat.reduceAdd, Nat.reduceSub, Nat.reduceMul, Nat.reduceEqDiff, Nat.reduceLT, Nat.reduceLeDiff, Nat.reduceBEq, Int.reduceAdd, Int.reduceSub, Int.reduceLT, Int.reduceLE, Int.reduceEq, Int.reduceToNat, c2, eq_true c146, eq_true c149, c150, eq_true c173, c174, natOf_le hx178a, hx178b, ix_lt hx178b]
                      subst hK
                      by_cases c180 : x179 = true
                      · rw [if_pos c180] at h
                        refine AW.ifBF rfl (by rw [c180]; rfl) ?_
                        refine AW.skip ?_
                        refine thenA_n ?_
                        refine AW.regL [0, 1, 7, 8, 9, 12, 13, 14, 137] ?_
                        generalize hK : AW Try.prog _ _ _ = K
                        simp only [go_sem, ↓reduceIte, reduceCtorEq, Nat.reduceAdd, Nat.reduceSub, Nat.reduceMul, Nat.reduceEqDiff, Nat.reduceLT, Nat.reduceLeDiff, Nat.reduceBEq, Int.reduceAdd, Int.reduceSub, Int.reduceLT, Int.reduceLE, Int.reduceEq, Int.reduceToNat, c2, eq_true c146, eq_true c149, c150, eq_true c173, c174, c180, natOf_le hx178a, hx178b, ix_lt hx178b]
                        subst hK
                        by_cases c181 : x178.key = x147.res.key
                        · rw [if_pos c181] at h
                          refine AW.ifF rfl (fun q => q c181) ?_
                          refine AW.skip ?_
                          refine block_n ?_
                          refine thenA_n ?_
                          refine AW.regionL [0, 1, 7, 8, 9, 12, 13, 14] ?_
                          generalize hK : thenA _ _ Exit.normal = K
                          simp only [go_sem, ↓reduceIte, reduceCtorEq, Nat.reduceAdd, Nat.reduceSub, Nat.reduceMul, Nat.reduceEqDiff, Nat.reduceLT, Nat.reduceLeDiff, Nat.reduceBEq, Int.reduceAdd, Int.reduceSub, Int.reduceLT, Int.reduceLE, Int.reduceEq, Int.reduceToNat, c2, eq_true c146, eq_true c149, c150, eq_true c173, c174, c180, eq_true c181]
                          subst hK
                          refine thenA_n ?_
                          refine ⟨_, (Option.some.inj h).symm, ?_⟩
                          refine Ent.can [8, 9] [] _ _ rfl (by decide) rfl ?_ (.nil _) ?_
                          · exact ((((((((RF.any.pv (by first | rfl | simp only [go_sem]) (by first | rfl | simp [upd_ap, tau, mapT, mapTL, c2, eq_true c146, eq_true c149, c150, eq_true c173, c174, c180, eq_true c181])).pv (by first | rfl | simp only [go_sem]) (by first | rfl | simp [upd_ap, tau, mapT, mapTL, c2, eq_true c146, eq_true c149, c150, eq_true c173, c174, c180, eq_true c181])).po (by decide) (by first | rfl | simp [upd_ap, tau, mapT, mapTL, c2, eq_true c146, eq_true c149, c150, eq_true c173, c174, c180, eq_true c181])).pv (by first | rfl | simp only [go_sem]) (by first | rfl | simp [upd_ap, tau, mapT, mapTL, c2, eq_true c146, eq_true c149, c150, eq_true c173, c174, c180, eq_true c181])).pv (by first | rfl | simp only [go_sem]) (by first | rfl | simp [upd_ap, tau, mapT, mapTL, c2, eq_true c146, eq_true c149, c150, eq_true c173, c174, c180, eq_true c181])).po (by decide) (by first | rfl | simp [upd_ap, tau, mapT, mapTL, c2, eq_true c146, eq_true c149, c150, eq_true c173, c174, c180, eq_true c181])).pv (by first | rfl | simp only [go_sem]) (by first | rfl | simp [upd_ap, tau, mapT, mapTL, c2, eq_true c146, eq_true c149, c150, eq_true c173, c174, c180, eq_true c181])).pv (by first | rfl | simp only [go_sem]) (by first | rfl | simp [upd_ap, tau, mapT, mapTL, c2, eq_true c146, eq_true c149, c150, eq_true c173, c174, c180, eq_true c181]))
                          · exact .cons (.eq (by first | rfl | simp only [go_sem]) (by first | rfl | simp [upd_ap, tau, mapT, mapTL, c2, eq_true c146, eq_true c149, c150, eq_true c173, c174, c180, eq_true c181])) (.cons (.eq (by first | rfl | simp only [go_sem]) (by first | rfl | simp [upd_ap, tau, mapT, mapTL, c2, eq_true c146, eq_true c149, c150, eq_true c173, c174, c180, eq_true c181])) (.nil _))
                        · rw [if_neg c181] at h
                          refine AW.ifT rfl c181 ?_
                          obtain ⟨x182, hx182, h⟩ := Option.bind_eq_some_iff.1 h
                          obtain ⟨hx182b, hx182e⟩ := appO?_some.1 hx182
                          have hx182f : ∀ id o : Nat, appO 3 56 id ([[.val (.string x178.key), .val (.string x178.val), .sl (List.map encInt x178.offs)]]) 0 s7_2.length o (some (.row 3 true (List.map encRes s7_2))) = some ⟨.own id 0 x182.length, [(o, none), (id, some (.row 3 true (List.map encRes x182)))]⟩ := fun id o => by
                            subst hx182e; rw [appO_ok (by simp) (by simpa using hx182b) (by decide)]; simp [encRes, encI]
                          refine AW.regionL [0, 1, 7, 8, 9, 12, 13, 14] ?_
                          generalize hK : inBlockA _ _ Exit.normal = K
                          simp only [go_sem, ↓reduceIte, reduceCtorEq, Nat.reduceAdd, Nat.reduceSub, Nat.reduceMul, Nat.reduceEqDiff, Nat.reduceLT, Nat.reduceLeDiff, Nat.reduceBEq, Int.reduceAdd, Int.reduceSub, Int.reduceLT, Int.reduceLE, Int.reduceEq, Int.reduceToNat, c2, eq_true c146, eq_true c149, c150, eq_true c173, c174, c180, eq_false c181, natOf_le hx178a, hx178b, ix_lt hx178b, hx182f]
                          subst hK
                          refine block_n ?_
                          refine thenA_n ?_
                          refine AW.regionL [0, 1, 7, 8, 9, 12, 13, 14] ?_
                          generalize hK : thenA _ _ Exit.normal = K
                          simp only [go_sem, ↓reduceIte, reduceCtorEq, Nat.reduceAdd, Nat.reduceSub, Nat.reduceMul, Nat.reduceEqDiff, Nat.reduceLT, Nat.reduceLeDiff, Nat.reduceBEq, Int.reduceAdd, Int.reduceSub, Int.reduceLT, Int.reduceLE, Int.reduceEq, Int.reduceToNat, c2, eq_true c146, eq_true c149, c150, eq_true c173, c174, c180, eq_false c181]
                          subst hK
                          refine thenA_n ?_
                          refine ⟨_, (Option.some.inj h).symm, ?_⟩
                          refine Ent.can [8, 242] [] _ _ rfl (by decide) rfl ?_ (.nil _) ?_
                          · exact ((((((((RF.any.pv (by first | rfl | simp only [go_sem]) (by first | rfl | simp [upd_ap, tau, mapT, mapTL, c2, eq_true c146, eq_true c149, c150, eq_true c173, c174, c180, eq_false c181])).pv (by first | rfl | simp only [go_sem]) (by first | rfl | simp [upd_ap, tau, mapT, mapTL, c2, eq_true c146, eq_true c149, c150, eq_true c173, c174, c180, eq_false c181])).po (by decide) (by first | rfl | simp [upd_ap, tau, mapT, mapTL, c2, eq_true c146, eq_true c149, c150, eq_true c173, c174, c180, eq_false c181])).pv (by first | rfl | simp only [go_sem]) (by first | rfl | simp [upd_ap, tau, mapT, mapTL, c2, eq_true c146, eq_true c149, c150, eq_true c173, c174, c180, eq_false c181])).pv (by first | rfl | simp only [go_sem]) (by first | rfl | simp [upd_ap, tau, mapT, mapTL, c2, eq_true c146, eq_true c149, c150, eq_true c173, c174, c180, eq_false c181])).po (by decide) (by first | rfl | simp [upd_ap, tau, mapT, mapTL, c2, eq_true c146, eq_true c149, c150, eq_true c173, c174, c180, eq_false c181])).pv (by first | rfl | simp only [go_sem]) (by first | rfl | simp [upd_ap, tau, mapT, mapTL, c2, eq_true c146, eq_true c149, c150, eq_true c173, c174, c180, eq_false c181])).pv (by first | rfl | simp only [go_sem]) (by first | rfl | simp [upd_ap, tau, mapT, mapTL, c2, eq_true c146, eq_true c149, c150, eq_true c173, c174, c180, eq_false c181]))
                          · exact .cons (.eq (by first | rfl | simp only [go_sem]) (by first | rfl | simp [upd_ap, tau, mapT, mapTL, c2, eq_true c146, eq_true c149, c150, eq_true c173, c174, c180, eq_false c181])) (.cons (.eq (by first | rfl | simp only [go_sem]) (by first | rfl | simp [upd_ap, tau, mapT, mapTL, c2, eq_true c146, eq_true c149, c150, eq_true c173, c174, c180, eq_false c181])) (.nil _))
                      · rw [if_neg c180] at h
                        rw [Bool.not_eq_true] at c180
                        refine AW.ifBT rfl (by rw [c180]; rfl) ?_
                        obtain ⟨x183, hx183, h⟩ := Option.bind_eq_some_iff.1 h
                        obtain ⟨hx183b, hx183e⟩ := appO?_some.1 hx183
                        have hx183f : ∀ id o : Nat, appO 3 56 id ([[.val (.string x147.res.key), .val (.string x147.res.val), .sl (List.map encInt x147.res.offs)]]) 0 s7_2.length o (some (.row 3 true (List.map encRes s7_2))) = some ⟨.own id 0 x183.length, [(o, none), (id, some (.row 3 true (List.map encRes x183)))]⟩ := fun id o => by
                          subst hx183e; rw [appO_ok (by simp) (by simpa using hx183b) (by decide)]; simp [encRes, encI]
                        refine AW.regL [0, 1, 7, 8, 9, 12, 14] ?_
                        generalize hK : AW Try.prog _ _ _ = K
                        simp only [go_sem, ↓reduceIte, reduceCtorEq, Nat.reduceAdd, Nat.reduceSub, Nat.reduceMul, Nat.reduceEqDiff, Nat.reduceLT, Nat.reduceLeDiff, Nat.reduceBEq, Int.reduceAdd, Int.reduceSub, Int.reduceLT, Int.reduceLE, Int.reduceEq, Int.reduceToNat, c2, eq_true c146, eq_true c149, c150, eq_true c173, c174, c180, natOf_le hx147a, hx147b, hx183f]
                        subst hK
                        refine AW.regionL [0, 1, 7, 8, 9, 12, 13, 14] ?_
                        generalize hK : thenA _ _ Exit.normal = K
                        simp only [go_sem, ↓reduceIte, reduceCtorEq, Nat.reduceAdd, Nat.reduceSub, Nat.reduceMul, Nat.reduceEqDiff, Nat.reduceLT, Nat.reduceLeDiff, Nat.reduceBEq, Int.reduceAdd, Int.reduceSub, Int.reduceLT, Int.reduceLE, Int.reduceEq, Int.reduceToNat, c2, eq_true c146, eq_true c149, c150, eq_true c173, c174, c180]
                        subst hK
                        refine thenA_n ?_
                        refine AW.regL [0, 1, 7, 8, 9, 12, 13, 14, 137] ?_
                        generalize hK : AW Try.prog _ _ _ = K
                        simp only [go_sem, ↓reduceIte, reduceCtorEq, Nat.reduceAdd, Nat.reduceSub, Nat.reduceMul, Nat.reduceEqDiff, Nat.reduceLT, Nat.reduceLeDiff, Nat.reduceBEq, Int.reduceAdd, Int.reduceSub, Int.reduceLT, Int.reduceLE, Int.reduceEq, Int.reduceToNat, c2, eq_true c146, eq_true c149, c150, eq_true c173, c174, c180, natOf_le hx178a, hx178b, ix_lt hx178b]
                        subst hK
                        by_cases c184 : x178.key = x147.res.key
                        · rw [if_pos c184] at h
                          refine AW.ifF rfl (fun q => q c184) ?_
                          refine AW.skip ?_
                          refine block_n ?_
                          refine thenA_n ?_
                          refine AW.regionL [0, 1, 7, 8, 9, 12, 13, 14] ?_
                          generalize hK : thenA _ _ Exit.normal = K
                          simp only [go_sem, ↓reduceIte, reduceCtorEq, Nat.reduceAdd, Nat.reduceSub, Nat.reduceMul, Nat.reduceEqDiff, Nat.reduceLT, Nat.reduceLeDiff, Nat.reduceBEq, Int.reduceAdd, Int.reduceSub, Int.reduceLT, Int.reduceLE, Int.reduceEq, Int.reduceToNat, c2, eq_true c146, eq_true c149, c150, eq_true c173, c174, c180, eq_true c184]
                          subst hK
                          refine thenA_n ?_
                          refine ⟨_, (Option.some.inj h).symm, ?_⟩
                          refine Ent.can [8, 194] [] _ _ rfl (by decide) rfl ?_ (.nil _) ?_
                          · exact ((((((((RF.any.pv (by first | rfl | simp only [go_sem]) (by first | rfl | simp [upd_ap, tau, mapT, mapTL, c2, eq_true c146, eq_true c149, c150, eq_true c173, c174, c180, eq_true c184])).pv (by first | rfl | simp only [go_sem]) (by first | rfl | simp [upd_ap, tau, mapT, mapTL, c2, eq_true c146, eq_true c149, c150, eq_true c173, c174, c180, eq_true c184])).po (by decide) (by first | rfl | simp [upd_ap, tau, mapT, mapTL, c2, eq_true c146, eq_true c149, c150, eq_true c173, c174, c180, eq_true c184])).pv (by first | rfl | simp only [go_sem]) (by first | rfl | simp [upd_ap, tau, mapT, mapTL, c2, eq_true c146, eq_true c149, c150, eq_true c173, c174, c180, eq_true c184])).pv (by first | rfl | simp only [go_sem]) (by first | rfl | simp [upd_ap, tau, mapT, mapTL, c2, eq_true c146, eq_true c149, c150, eq_true c173, c174, c180, eq_true c184])).po (by decide) (by first | rfl | simp [upd_ap, tau, mapT, mapTL, c2, eq_true c146, eq_true c149, c150, eq_true c173, c174, c180, eq_true c184])).pv (by first | rfl | simp only [go_sem]) (by first | rfl | simp [upd_ap, tau, mapT, mapTL, c2, eq_true c146, eq_true c149, c150, eq_true c173, c174, c180, eq_true c184])).pv (by first | rfl | simp only [go_sem]) (by first | rfl | simp [upd_ap, tau, mapT, mapTL, c2, eq_true c146, eq_true c149, c150, eq_true c173, c174, c180, eq_true c184]))
                          · exact .cons (.eq (by first | rfl | simp only [go_sem]) (by first | rfl | simp [upd_ap, tau, mapT, mapTL, c2, eq_true c146, eq_true c149, c150, eq_true c173, c174, c180, eq_true c184])) (.cons (.eq (by first | rfl | simp only [go_sem]) (by first | rfl | simp [upd_ap, tau, mapT, mapTL, c2, eq_true c146, eq_true c149, c150, eq_true c173, c174, c180, eq_true c184])) (.nil _))
                        · rw [if_neg c184] at h
                          refine AW.ifT rfl c184 ?_
                          obtain ⟨x185, hx185, h⟩ := Option.bind_eq_some_iff.1 h
                          obtain ⟨hx185b, hx185e⟩ := appO?_some.1 hx185
                          have hx185f : ∀ id o : Nat, appO 3 56 id ([[.val (.string x178.key), .val (.string x178.val), .sl (List.map encInt x178.offs)]]) 0 x183.length o (some (.row 3 true (List.map encRes x183))) = some ⟨.own id 0 x185.length, [(o, none), (id, some (.row 3 true (List.map encRes x185)))]⟩ := fun id o => by
                            subst hx185e; rw [appO_ok (by simp) (by simpa using hx185b) (by decide)]; simp [encRes, encI]
                          refine AW.regionL [0, 1, 7, 8, 9, 12, 13, 14] ?_
                          generalize hK : inBlockA _ _ Exit.normal = K
                          simp only [go_sem, ↓reduceIte, reduceCtorEq, Nat.reduceAdd, Nat.reduceSub, Nat.reduceMul, Nat.reduceEqDiff, Nat.reduceLT, Nat.reduceLeDiff, Nat.reduceBEq, Int.reduceAdd, Int.reduceSub, Int.reduceLT, Int.reduceLE, Int.reduceEq, Int.reduceToNat, c2, eq_true c146, eq_true c149, c150, eq_true c173, c174, c180, eq_false c184, natOf_le hx178a, hx178b, ix_lt hx178b, hx185f]
                          subst hK
                          refine block_n ?_
                          refine thenA_n ?_
                          refine AW.regionL [0, 1, 7, 8, 9, 12, 13, 14] ?_
                          generalize hK : thenA _ _ Exit.normal = K
                          simp only [go_sem, ↓reduceIte, reduceCtorEq, Nat.reduceAdd, Nat.reduceSub, Nat.reduceMul, Nat.reduceEqDiff, Nat.reduceLT, Nat.reduceLeDiff, Nat.reduceBEq, Int.reduceAdd, Int.reduceSub, Int.reduceLT, Int.reduceLE, Int.reduceEq, Int.reduceToNat, c2, eq_true c146, eq_true c149, c150, eq_true c173, c174, c180, eq_false c184]
                          subst hK
                          refine thenA_n ?_
                          refine ⟨_, (Option.some.inj h).symm, ?_⟩
                          refine Ent.can [8, 322] [] _ _ rfl (by decide) rfl ?_ (.nil _) ?_
                          · exact ((((((((RF.any.pv (by first | rfl | simp only [go_sem]) (by first | rfl | simp [upd_ap, tau, mapT, mapTL, c2, eq_true c146, eq_true c149, c150, eq_true c173, c174, c180, eq_false c184])).pv (by first | rfl | simp only [go_sem]) (by first | rfl | simp [upd_ap, tau, mapT, mapTL, c2, eq_true c146, eq_true c149, c150, eq_true c173, c174, c180, eq_false c184])).po (by decide) (by first | rfl | simp [upd_ap, tau, mapT, mapTL, c2, eq_true c146, eq_true c149, c150, eq_true c173, c174, c180, eq_false c184])).pv (by first | rfl | simp only [go_sem]) (by first | rfl | simp [upd_ap, tau, mapT, mapTL, c2, eq_true c146, eq_true c149, c150, eq_true c173, c174, c180, eq_false c184])).pv (by first | rfl | simp only [go_sem]) (by first | rfl | simp [upd_ap, tau, mapT, mapTL, c2, eq_true c146, eq_true c149, c150, eq_true c173, c174, c180, eq_false c184])).po (by decide) (by first | rfl | simp [upd_ap, tau, mapT, mapTL, c2, eq_true c146, eq_true c149, c150, eq_true c173, c174, c180, eq_false c184])).pv (by first | rfl | simp only [go_sem]) (by first | rfl | simp [upd_ap, tau, mapT, mapTL, c2, eq_true c146, eq_true c149, c150, eq_true c173, c174, c180, eq_false c184])).pv (by first | rfl | simp only [go_sem]) (by first | rfl | simp [upd_ap, tau, mapT, mapTL, c2, eq_true c146, eq_true c149, c150, eq_true c173, c174, c180, eq_false c184]))
                          · exact .cons (.eq (by first | rfl | simp only [go_sem]) (by first | rfl | simp [upd_ap, tau, mapT, mapTL, c2, eq_true c146, eq_true c149, c150, eq_true c173, c174, c180, eq_false c184])) (.cons (.eq (by first | rfl | simp only [go_sem]) (by first | rfl | simp [upd_ap, tau, mapT, mapTL, c2, eq_true c146, eq_true c149, c150, eq_true c173, c174, c180, eq_false c184])) (.nil _))
                  · rw [if_neg c173] at h
                    refine AW.ifF rfl c173 ?_
                    refine AW.exit ?_
                    refine thenA_x ?_
                    refine thenA_x ?_
                    refine ⟨_, (Option.some.inj h).symm, _, ?_, rfl, rfl⟩
                    refine Ent.can [9] [] _ _ rfl (by decide) rfl ?_ (.nil _) ?_
                    · exact (((((RF.any.pv (by first | rfl | simp only [go_sem]) (by first | rfl | simp [upd_ap, tau, mapT, mapTL, c2, eq_true c146, eq_true c149, c150, eq_false c173])).pv (by first | rfl | simp only [go_sem]) (by first | rfl | simp [upd_ap, tau, mapT, mapTL, c2, eq_true c146, eq_true c149, c150, eq_false c173])).pv (by first | rfl | simp only [go_sem]) (by first | rfl | simp [upd_ap, tau, mapT, mapTL, c2, eq_true c146, eq_true c149, c150, eq_false c173])).po (by decide) (by first | rfl | simp [upd_ap, tau, mapT, mapTL, c2, eq_true c146, eq_true c149, c150, eq_false c173])).pv (by first | rfl | simp only [go_sem]) (by first | rfl | simp [upd_ap, tau, mapT, mapTL, c2, eq_true c146, eq_true c149, c150, eq_false c173]))
                    · exact .cons (.eq (by first | rfl | simp only [go_sem]) (by first | rfl | simp [upd_ap, tau, mapT, mapTL, c2, eq_true c146, eq_true c149, c150, eq_false c173])) (.nil _)
                · intro e st' hX
                  obtain ⟨y187, y188⟩ := y186
                  try dsimp only at h
                  try dsimp only at hX
                  obtain ⟨rfl, rfl⟩ := hX
                  refine ⟨_, Ent.refl, ?_⟩
                  refine block_x ?_
                  refine thenA_n ?_
                  refine AW.seq ?_
                  refine AW.regL [0, 1, 8, 12, 146] ?_
                  generalize hK : AW Try.prog _ _ _ = K
                  simp only [go_sem, ↓reduceIte, reduceCtorEq, Nat.reduceAdd, Nat.reduceSub, Nat.reduceMul, Nat.reduceEqDiff, Nat.reduceLT, Nat.reduceLeDiff, Nat.reduceBEq, Int.reduceAdd, Int.reduceSub, Int.reduceLT, Int.reduceLE, Int.reduceEq, Int.reduceToNat, c2, eq_true c146, eq_true c149, c150]
                  subst hK
                  by_cases c189 : y187 = true
                  · rw [if_pos c189] at h
                    refine AW.ifBF rfl (by rw [c189]; rfl) ?_
                    refine AW.skip ?_
                    refine thenA_n ?_
                    refine AW.regionL [0, 1, 7, 8] ?_
                    generalize hK : inBlockA _ _ Exit.normal = K
                    simp only [go_sem, ↓reduceIte, reduceCtorEq, Nat.reduceAdd, Nat.reduceSub, Nat.reduceMul, Nat.reduceEqDiff, Nat.reduceLT, Nat.reduceLeDiff, Nat.reduceBEq, Int.reduceAdd, Int.reduceSub, Int.reduceLT, Int.reduceLE, Int.reduceEq, Int.reduceToNat, c2, eq_true c146, eq_true c149, c150, c189]
                    subst hK
                    refine block_n ?_
                    refine thenA_n ?_
                    refine AW.regionL [0, 1, 7, 8] ?_
                    generalize hK : thenA _ _ Exit.normal = K
                    simp only [go_sem, ↓reduceIte, reduceCtorEq, Nat.reduceAdd, Nat.reduceSub, Nat.reduceMul, Nat.reduceEqDiff, Nat.reduceLT, Nat.reduceLeDiff, Nat.reduceBEq, Int.reduceAdd, Int.reduceSub, Int.reduceLT, Int.reduceLE, Int.reduceEq, Int.reduceToNat, c2, eq_true c146, eq_true c149, c150, c189]
                    subst hK
                    refine thenA_n ?_
                    refine ⟨_, (Option.some.inj h).symm, ?_⟩
                    refine Ent.can [8] [] _ _ rfl (by decide) rfl ?_ (.nil _) ?_
                    · exact ((((RF.any.pv (by first | rfl | simp only [go_sem]) (by first | rfl | simp [upd_ap, tau, mapT, mapTL, c2, eq_true c146, eq_true c149, c150, c189])).pv (by first | rfl | simp only [go_sem]) (by first | rfl | simp [upd_ap, tau, mapT, mapTL, c2, eq_true c146, eq_true c149, c150, c189])).po (by decide) (by first | rfl | simp [upd_ap, tau, mapT, mapTL, c2, eq_true c146, eq_true c149, c150, c189])).pv (by first | rfl | simp only [go_sem]) (by first | rfl | simp [upd_ap, tau, mapT, mapTL, c2, eq_true c146, eq_true c149, c150, c189]))
                    · exact .cons (.eq (by first | rfl | simp only [go_sem]) (by first | rfl | simp [upd_ap, tau, mapT, mapTL, c2, eq_true c146, eq_true c149, c150, c189])) (.nil _)
                  · rw [if_neg c189] at h
                    rw [Bool.not_eq_true] at c189
                    refine AW.ifBT rfl (by rw [c189]; rfl) ?_
                    obtain ⟨x190, hx190, h⟩ := Option.bind_eq_some_iff.1 h
                    obtain ⟨hx190b, hx190e⟩ := appO?_some.1 hx190
                    have hx190f : ∀ id o : Nat, appO 3 56 id ([[.val (.string x147.res.key), .val (.string x147.res.val), .sl (List.map encInt x147.res.offs)]]) 0 y188.length o (some (.row 3 true (List.map encRes y188))) = some ⟨.own id 0 x190.length, [(o, none), (id, some (.row 3 true (List.map encRes x190)))]⟩ := fun id o => by
                      subst hx190e; rw [appO_ok (by simp) (by simpa using hx190b) (by decide)]; simp [encRes, encI]
                    refine AW.regionL [0, 1, 8, 12] ?_
                    generalize hK : thenA _ _ Exit.normal = K
                    simp only [go_sem, ↓reduceIte, reduceCtorEq, Nat.reduceAdd, Nat.reduceSub, Nat.reduceMul, Nat.reduceEqDiff, Nat.reduceLT, Nat.reduceLeDiff, Nat.reduceBEq, Int.reduceAdd, Int.reduceSub, Int.reduceLT, Int.reduceLE, Int.reduceEq, Int.reduceToNat, c2, eq_true c146, eq_true c149, c150, c189, natOf_le hx147a, hx147b, hx190f]
                    subst hK
                    refine thenA_n ?_
                    refine AW.regionL [0, 1, 7, 8] ?_
                    generalize hK : inBlockA _ _ Exit.normal = K
                    simp only [go_sem, ↓reduceIte, reduceCtorEq, Nat.reduceAdd, Nat.reduceSub, Nat.reduceMul, Nat.reduceEqDiff, Nat.reduceLT, Nat.reduceLeDiff, Nat.reduceBEq, Int.reduceAdd, Int.reduceSub, Int.reduceLT, Int.reduceLE, Int.reduceEq, Int.reduceToNat, c2, eq_true c146, eq_true c149, c150, c189]
                    subst hK
                    refine block_n ?_
                    refine thenA_n ?_
                    refine AW.regionL [0, 1, 7, 8] ?_
                    generalize hK : thenA _ _ Exit.normal = K
                    simp only [go_sem, ↓reduceIte, reduceCtorEq, Nat.reduceAdd, Nat.reduceSub, Nat.reduceMul, Nat.reduceEqDiff, Nat.reduceLT, Nat.reduceLeDiff, Nat.reduceBEq, Int.reduceAdd, Int.reduceSub, Int.reduceLT, Int.reduceLE, Int.reduceEq, Int.reduceToNat, c2, eq_true c146, eq_true c149, c150, c189]
                    subst hK
                    refine thenA_n ?_
                    refine ⟨_, (Option.some.inj h).symm, ?_⟩
                    refine Ent.can [81] [] _ _ rfl (by decide) rfl ?_ (.nil _) ?_
                    · exact ((((RF.any.pv (by first | rfl | simp only [go_sem]) (by first | rfl | simp [upd_ap, tau, mapT, mapTL, c2, eq_true c146, eq_true c149, c150, c189])).pv (by first | rfl | simp only [go_sem]) (by first | rfl | simp [upd_ap, tau, mapT, mapTL, c2, eq_true c146, eq_true c149, c150, c189])).po (by decide) (by first | rfl | simp [upd_ap, tau, mapT, mapTL, c2, eq_true c146, eq_true c149, c150, c189])).pv (by first | rfl | simp only [go_sem]) (by first | rfl | simp [upd_ap, tau, mapT, mapTL, c2, eq_true c146, eq_true c149, c150, c189]))
                    · exact .cons (.eq (by first | rfl | simp only [go_sem]) (by first | rfl | simp [upd_ap, tau, mapT, mapTL, c2, eq_true c146, eq_true c149, c150, c189])) (.nil _)
            · rw [if_neg c149] at h
              refine AW.regL [0, 1, 7, 8, 9, 11, 88] ?_
              generalize hK : AW Try.prog _ _ _ = K
              simp only [go_sem, ↓reduceIte, reduceCtorEq, Nat.reduceAdd, Nat.reduceSub, Nat.reduceMul, Nat.reduceEqDiff, Nat.reduceLT, Nat.reduceLeDiff, Nat.reduceBEq, Int.reduceAdd, Int.reduceSub, Int.reduceLT, Int.reduceLE, Int.reduceEq, Int.reduceToNat, c2, eq_true c146, natOf_le hx147a, hx147b, eq_false c149]
              subst hK
              refine AW.ifBF rfl rfl ?_
              refine AW.skip ?_
              refine thenA_n ?_
              refine AW.seq ?_
              refine AW.regL [0, 1, 7, 8, 9, 98] ?_
              generalize hK : AW Try.prog _ _ _ = K
              simp only [go_sem, ↓reduceIte, reduceCtorEq, Nat.reduceAdd, Nat.reduceSub, Nat.reduceMul, Nat.reduceEqDiff, Nat.reduceLT, Nat.reduceLeDiff, Nat.reduceBEq, Int.reduceAdd, Int.reduceSub, Int.reduceLT, Int.reduceLE, Int.reduceEq, Int.reduceToNat, c2, eq_true c146, eq_false c149, natOf_le hx147a, hx147b]
              subst hK
              by_cases c191 : x148.2 = true
              · rw [if_pos c191] at h
                refine AW.ifBF rfl (by rw [c191]; rfl) ?_
                refine AW.skip ?_
                refine thenA_n ?_
                refine AW.regL [0, 1, 7, 8, 9, 12] ?_
                generalize hK : AW Try.prog _ _ _ = K
                simp only [go_sem, ↓reduceIte, reduceCtorEq, Nat.reduceAdd, Nat.reduceSub, Nat.reduceMul, Nat.reduceEqDiff, Nat.reduceLT, Nat.reduceLeDiff, Nat.reduceBEq, Int.reduceAdd, Int.reduceSub, Int.reduceLT, Int.reduceLE, Int.reduceEq, Int.reduceToNat, c2, eq_true c146, eq_false c149, c191]
                subst hK
                refine AW.regL [0, 1, 7, 8, 9, 12, 13] ?_
                generalize hK : AW Try.prog _ _ _ = K
                simp only [go_sem, ↓reduceIte, reduceCtorEq, Nat.reduceAdd, Nat.reduceSub, Nat.reduceMul, Nat.reduceEqDiff, Nat.reduceLT, Nat.reduceLeDiff, Nat.reduceBEq, Int.reduceAdd, Int.reduceSub, Int.reduceLT, Int.reduceLE, Int.reduceEq, Int.reduceToNat, c2, eq_true c146, eq_false c149, c191, natOf_le hx147a, hx147b]
                subst hK
                refine AW.seq ?_
                refine AW.regL [0, 1, 7, 8, 9, 12, 13, 14] ?_
                generalize hK : AW Try.prog _ _ _ = K
                simp only [go_sem, ↓reduceIte, reduceCtorEq, Nat.reduceAdd, Nat.reduceSub, Nat.reduceMul, Nat.reduceEqDiff, Nat.reduceLT, Nat.reduceLeDiff, Nat.reduceBEq, Int.reduceAdd, Int.reduceSub, Int.reduceLT, Int.reduceLE, Int.reduceEq, Int.reduceToNat, c2, eq_true c146, eq_false c149, c191]
                subst hK
                refine AW.block ?_
                obtain ⟨y227, hy227, h⟩ := Option.bind_eq_some_iff.1 h
                refine AW.loopO (fun s => ⟨(upd (upd (upd (upd (upd (upd (upd (upd anyF 0 (.sl (List.map encRes a0))) 1 (.sl (List.map encCh a1))) 7 (.own 8 0 s2_0.length)) 8 (.val (.int .i64 s2_1))) 9 (.val (.string x147.res.key))) 12 (.own 9 0 s.2.2.length)) 13 (.val (.bool s.1))) 14 (.val (.int .i64 s.2.1))), hpL [] [some (.row 3 true (List.map encRes s2_0)), some (.row 3 true (List.map encRes s.2.2))], 10⟩) (fun z e st' => e = Exit.exit 4 ∧ st' = ⟨(upd (upd (upd (upd (upd anyF 0 (.sl (List.map encRes a0))) 1 (.sl (List.map encCh a1))) 8 (.val (.int .i64 s2_1))) 12 (.own 8 0 z.2.length)) 13 (.val (.bool z.1))), hpL [] [some (.row 3 true (List.map encRes z.2))], 9⟩) hy227 ?_ ?_ ?_
                · refine Ent.trans (Ent.nilOwn 12 3 (by decide) rfl) ?_
                  refine Ent.can [8, 393] [] _ _ rfl (by decide) rfl ?_ (.nil _) ?_
                  · exact ((((((((RF.any.pv (by first | rfl | simp only [go_sem]) (by first | rfl | simp [upd_ap, tau, mapT, mapTL, c2, eq_true c146, eq_false c149, c191])).pv (by first | rfl | simp only [go_sem]) (by first | rfl | simp [upd_ap, tau, mapT, mapTL, c2, eq_true c146, eq_false c149, c191])).po (by decide) (by first | rfl | simp [upd_ap, tau, mapT, mapTL, c2, eq_true c146, eq_false c149, c191])).pv (by first | rfl | simp only [go_sem]) (by first | rfl | simp [upd_ap, tau, mapT, mapTL, c2, eq_true c146, eq_false c149, c191])).pv (by first | rfl | simp only [go_sem]) (by first | rfl | simp [upd_ap, tau, mapT, mapTL, c2, eq_true c146, eq_false c149, c191])).po (by decide) (by first | rfl | simp [upd_ap, tau, mapT, mapTL, c2, eq_true c146, eq_false c149, c191])).pv (by first | rfl | simp only [go_sem]) (by first | rfl | simp [upd_ap, tau, mapT, mapTL, c2, eq_true c146, eq_false c149, c191])).pv (by first | rfl | simp only [go_sem]) (by first | rfl | simp [upd_ap, tau, mapT, mapTL, c2, eq_true c146, eq_false c149, c191]))
                  · exact .cons (.eq (by first | rfl | simp only [go_sem]) (by first | rfl | simp [upd_ap, tau, mapT, mapTL, c2, eq_true c146, eq_false c149, c191])) (.cons (.eq (by first | rfl | simp only [go_sem]) (by first | rfl | simp [upd_ap, tau, mapT, mapTL, c2, eq_true c146, eq_false c149, c191])) (.nil _))
                · clear h hy227
                  rintro ⟨s8_0, s8_1, s8_2⟩ x h
                  rw [f22_s8] at h
                  refine AW.seq ?_
                  refine AW.regL [0, 1, 7, 8, 9, 12, 13, 14, 108] ?_
                  generalize hK : AW Try.prog _ _ _ = K
                  simp only [go_sem, ↓reduceIte, reduceCtorEq, Nat.reduceAdd, Nat.reduceSub, Nat.reduceMul, Nat.reduceEqDiff, Nat.reduceLT, Nat.reduceLeDiff, Nat.reduceBEq, Int.reduceAdd, Int.reduceSub, Int.reduceLT, Int.reduceLE, Int.reduceEq, Int.reduceToNat, c2, eq_true c146, eq_false c149, c191]
                  subst hK
                  by_cases c214 : s8_1 < ((s2_0.length : Nat) : Int)
                  · rw [if_pos c214] at h
                    refine AW.ifT rfl c214 ?_
                    refine AW.skip ?_
                    refine thenA_n ?_
                    refine AW.seq ?_
                    refine AW.block ?_
                    refine AW.seq ?_
                    by_cases c215 : s8_0 = true
                    · rw [if_pos c215] at h
                      refine AW.regL [0, 1, 7, 8, 9, 12, 13, 14, 122] ?_
                      generalize hK : AW Try.prog _ _ _ = K
                      simp only [go_sem, ↓reduceIte, reduceCtorEq, Nat.reduceAdd, Nat.reduceSub, Nat.reduceMul, Nat.reduceEqDiff, Nat.reduceLT, Nat.reduceLeDiff, Nat.reduceBEq, Int.reduceAdd, Int.reduceSub, Int.reduceLT, Int.reduceLE, Int.reduceEq, Int.reduceToNat, c2, eq_true c146, eq_false c149, c191, eq_true c214, c215]
                      subst hK
                      refine AW.ifBF rfl rfl ?_
                      refine AW.skip ?_
                      refine thenA_n ?_
                      obtain ⟨x216, hx216, h⟩ := Option.bind_eq_some_iff.1 h
                      obtain ⟨hx216a, hx216b⟩ := ix_some.1 hx216
                      refine AW.regL [0, 1, 7, 8, 9, 12, 13, 14, 137] ?_
                      generalize hK : AW Try.prog _ _ _ = K
                      simp only [go_sem, ↓reduceIte, reduceCtorEq, Nat.reduceAdd, Nat.reduceSub, Nat.reduceMul, Nat.reduceEqDiff, Nat.reduceLT, Nat.reduceLeDiff, Nat.reduceBEq, Int.reduceAdd, Int.reduceSub, Int.reduceLT, Int.reduceLE, Int.reduceEq, Int.reduceToNat, c2, eq_true c146, eq_false c149, c191, eq_true c214, c215, natOf_le hx216a, hx216b, ix_lt hx216b]
                      subst hK
                      by_cases c217 : x216.key = x147.res.key
                      · rw [if_pos c217] at h
                        refine AW.ifF rfl (fun q => q c217) ?_
                        refine AW.skip ?_
                        refine block_n ?_
                        refine thenA_n ?_
                        refine AW.regionL [0, 1, 7, 8, 9, 12, 13, 14] ?_
                        generalize hK : thenA _ _ Exit.normal = K
                        simp only [go_sem, ↓reduceIte, reduceCtorEq, Nat.reduceAdd, Nat.reduceSub, Nat.reduceMul, Nat.reduceEqDiff, Nat.reduceLT, Nat.reduceLeDiff, Nat.reduceBEq, Int.reduceAdd, Int.reduceSub, Int.reduceLT, Int.reduceLE, Int.reduceEq, Int.reduceToNat, c2, eq_true c146, eq_false c149, c191, eq_true c214, c215, eq_true c217]
                        subst hK
                        refine thenA_n ?_
                        refine ⟨_, (Option.some.inj h).symm, ?_⟩
                        refine Ent.can [8, 9] [] _ _ rfl (by decide) rfl ?_ (.nil _) ?_
                        · exact ((((((((RF.any.pv (by first | rfl | simp only [go_sem]) (by first | rfl | simp [upd_ap, tau, mapT, mapTL, c2, eq_true c146, eq_false c149, c191, eq_true c214, c215, eq_true c217])).pv (by first | rfl | simp only [go_sem]) (by first | rfl | simp [upd_ap, tau, mapT, mapTL, c2, eq_true c146, eq_false c149, c191, eq_true c214, c215, eq_true c217])).po (by decide) (by first | rfl | simp [upd_ap, tau, mapT, mapTL, c2, eq_true c146, eq_false c149, c191, eq_true c214, c215, eq_true c217])).pv (by first | rfl | simp only [go_sem]) (by first | rfl | simp [upd_ap, tau, mapT, mapTL, c2, eq_true c146, eq_false c149, c191, eq_true c214, c215, eq_true c217])).pv (by first | rfl | simp only [go_sem]) (by first | rfl | simp [upd_ap, tau, mapT, mapTL, c2, eq_true c146, eq_false c149, c191, eq_true c214, c215, eq_true c217])).po (by decide) (by first | rfl | simp [upd_ap, tau, mapT, mapTL, c2, eq_true c146, eq_false c149, c191, eq_true c214, c215, eq_true c217])).pv (by first | rfl | simp only [go_sem]) (by first | rfl | simp [upd_ap, tau, mapT, mapTL, c2, eq_true c146, eq_false c149, c191, eq_true c214, c215, eq_true c217])).pv (by first | rfl | simp only [go_sem]) (by first | rfl | simp [upd_ap, tau, mapT, mapTL, c2, eq_true c146, eq_false c149, c191, eq_true c214, c215, eq_true c217]))
                        · exact .cons (.eq (by first | rfl | simp only [go_sem]) (by first | rfl | simp [upd_ap, tau, mapT, mapTL, c2, eq_true c146, eq_false c149, c191, eq_true c214, c215, eq_true c217])) (.cons (.eq (by first | rfl | simp only [go_sem]) (by first | rfl | simp [upd_ap, tau, mapT, mapTL, c2, eq_true c146, eq_false c149, c191, eq_true c214, c215, eq_true c217])) (.nil _))
                      · rw [if_neg c217] at h
                        refine AW.ifT rfl c217 ?_
                        obtain ⟨x218, hx218, h⟩ := Option.bind_eq_some_iff.1 h
                        obtain ⟨hx218b, hx218e⟩ := appO?_some.1 hx218
                        have hx218f : ∀ id o : Nat, appO 3 56 id ([[.val (.string x216.key), .val (.string x216.val), .sl (List.map encInt x216.offs)]]) 0 s8_2.length o (some (.row 3 true (List.map encRes s8_2))) = some ⟨.own id 0 x218.length, [(o, none), (id, some (.row 3 true (List.map encRes x218)))]⟩ := fun id o => by
                          subst hx218e; rw [appO_ok (by simp) (by simpa using hx218b) (by decide)]; simp [encRes, encI]
                        refine AW.regionL [0, 1, 7, 8, 9, 12, 13, 14] ?_
                        generalize hK : inBlockA _ _ Exit.normal = K
                        simp only [go_sem, ↓reduceIte, reduceCtorEq, Nat.reduceAdd, Nat.reduceSub, Nat.reduceMul, Nat.reduceEqDiff, Nat.reduceLT, Nat.reduceLeDiff, Nat.reduceBEq, Int.reduceAdd, Int.reduceSub, Int.reduceLT, Int.reduceLE, Int.reduceEq, Int.reduceToNat, c2, eq_true c146, eq_false c149, c191, eq_true c214, c215, eq_false c217, natOf_le hx216a, hx216b, ix_lt hx216b, hx218f]
                        subst hK
                        refine block_n ?_
                        refine thenA_n ?_
                        refine AW.regionL [0, 1, 7, 8, 9, 12, 13, 14] ?_
                        generalize hK : thenA _ _ Exit.normal = K
                        simp only [go_sem, ↓reduceIte, reduceCtorEq, Nat.reduceAdd, Nat.reduceSub, Nat.reduceMul, Nat.reduceEqDiff, Nat.reduceLT, Nat.reduceLeDiff, Nat.reduceBEq, Int.reduceAdd, Int.reduceSub, Int.reduceLT, Int.reduceLE, Int.reduceEq, Int.reduceToNat, c2, eq_true c146, eq_false c149, c191, eq_true c214, c215, eq_false c217]
                        subst hK
                        refine thenA_n ?_
                        refine ⟨_, (Option.some.inj h).symm, ?_⟩
                        refine Ent.can [8, 242] [] _ _ rfl (by decide) rfl ?_ (.nil _) ?_
                        · exact ((((((((RF.any.pv (by first | rfl | simp only [go_sem]) (by first | rfl | simp [upd_ap, tau, mapT, mapTL, c2, eq_true c146, eq_false c149, c191, eq_true c214, c215, eq_false c217])).pv (by first | rfl | simp only [go_sem]) (by first | rfl | simp [upd_ap, tau, mapT, mapTL, c2, eq_true c146, eq_false c149, c191, eq_true c214, c215, eq_false c217])).po (by decide) (by first | rfl | simp [upd_ap, tau, mapT, mapTL, c2, eq_true c146, eq_false c149, c191, eq_true c214, c215, eq_false c217])).pv (by first | rfl | simp only [go_sem]) (by first | rfl | simp [upd_ap, tau, mapT, mapTL, c2, eq_true c146, eq_false c149, c191, eq_true c214, c215, eq_false c217])).pv (by first | rfl | simp only [go_sem]) (by first | rfl | simp [upd_ap, tau, mapT, mapTL, c2, eq_true c146, eq_false c149, c191, eq_true c214, c215, eq_false c217])).po (by decide) (by first | rfl | simp [upd_ap, tau, mapT, mapTL, c2, eq_true c146, eq_false c149, c191, eq_true c214, c215, eq_false c217])).pv (by first | rfl | simp only [go_sem]) (by first | rfl | simp [upd_ap, tau, mapT, mapTL, c2, eq_true c146, eq_false c149, c191, eq_true c214, c215, eq_false c217])).pv (by first | rfl | simp only [go_sem]) (by first | rfl | simp [upd_ap, tau, mapT, mapTL, c2, eq_true c146, eq_false c149, c191, eq_true c214, c215, eq_false c217]))
                        · exact .cons (.eq (by first | rfl | simp only [go_sem]) (by first | rfl | simp [upd_ap, tau, mapT, mapTL, c2, eq_true c146, eq_false c149, c191, eq_true c214, c215, eq_false c217])) (.cons (.eq (by first | rfl | simp only [go_sem]) (by first | rfl | simp [upd_ap, tau, mapT, mapTL, c2, eq_true c146, eq_false c149, c191, eq_true c214, c215, eq_false c217])) (.nil _))
                    · rw [if_neg c215] at h
                      rw [Bool.not_eq_true] at c215
                      obtain ⟨x219, hx219, h⟩ := Option.bind_eq_some_iff.1 h
                      obtain ⟨hx219a, hx219b⟩ := ix_some.1 hx219
                      obtain ⟨x220, hx220, h⟩ := Option.bind_eq_some_iff.1 h
                      refine AW.regL [0, 1, 7, 8, 9, 12, 13, 14, 122] ?_
                      generalize hK : AW Try.prog _ _ _ = K
                      simp only [go_sem, ↓reduceIte, reduceCtorEq, Nat.reduceAdd, Nat.reduceSub, Nat.reduceMul, Nat.reduceEqDiff, Nat.reduceLT, Nat.reduceLeDiff, Nat.reduceBEq, Int.reduceAdd, Int.reduceSub, Int.reduceLT, Int.reduceLE, Int.reduceEq, Int.reduceToNat, c2, eq_true c146, eq_false c149, c191, eq_true c214, c215, natOf_le hx219a, hx219b, ix_lt hx219b]
                      refine arC.of (xok70 x219.key x147.res.key x220 hx220) Try.call70 ?_
                      simp only [go_sem, ↓reduceIte, reduceCtorEq, Nat.reduceAdd, Nat.reduceSub, Nat.reduceMul, Nat.reduceEqDiff, Nat.reduceLT, Nat.reduceLeDiff, Nat.reduceBEq, Int.reduceAdd, Int.reduceSub, Int.reduceLT, Int.reduceLE, Int.reduceEq, Int.reduceToNat, c2, eq_true c146, eq_false c149, c191, eq_true c214, c215, natOf_le hx219a, hx219b, ix_lt hx219b]
                      subst hK
                      by_cases c221 : x220 = true
                      · rw [if_pos c221] at h
                        refine AW.ifBF rfl (by rw [c221]; rfl) ?_
                        refine AW.skip ?_
                        refine thenA_n ?_
                        refine AW.regL [0, 1, 7, 8, 9, 12, 13, 14, 137] ?_
                        generalize hK : AW Try.prog _ _ _ = K
                        simp only [go_sem, ↓reduceIte, reduceCtorEq, Nat.reduceAdd, Nat.reduceSub, Nat.reduceMul, Nat.reduceEqDiff, Nat.reduceLT, Nat.reduceLeDiff, Nat.reduceBEq, Int.reduceAdd, Int.reduceSub, Int.reduceLT, Int.reduceLE, Int.reduceEq, Int.reduceToNat, c2, eq_true c146, eq_false c149, c191, eq_true c214, c215, c221, natOf_le hx219a, hx219b, ix_lt hx219b]
                        subst hK
                        by_cases c222 : x219.key = x147.res.key
                        · rw [if_pos c222] at h
                          refine AW.ifF rfl (fun q => q c222) ?_
                          refine AW.skip ?_
                          refine block_n ?_
                          refine thenA_n ?_
                          refine AW.regionL [0, 1, 7, 8, 9, 12, 13, 14] ?_
                          generalize hK : thenA _ _ Exit.normal = K
                          simp only [go_sem, ↓reduceIte, reduceCtorEq, Nat.reduceAdd, Nat.reduceSub, Nat.reduceMul, Nat.reduceEqDiff, Nat.reduceLT, Nat.reduceLeDiff, Nat.reduceBEq, Int.reduceAdd, Int.reduceSub, Int.reduceLT, Int.reduceLE, Int.reduceEq, Int.reduceToNat, c2, eq_true c146, eq_false c149, c191, eq_true c214, c215, c221, eq_true c222]
                          subst hK
                          refine thenA_n ?_
                          refine ⟨_, (Option.some.inj h).symm, ?_⟩
                          refine Ent.can [8, 9] [] _ _ rfl (by decide) rfl ?_ (.nil _) ?_
                          · exact ((((((((RF.any.pv (by first | rfl | simp only [go_sem]) (by first | rfl | simp [upd_ap, tau, mapT, mapTL, c2, eq_true c146, eq_false c149, c191, eq_true c214, c215, c221, eq_true c222])).pv (by first | rfl | simp only [go_sem]) (by first | rfl | simp [upd_ap, tau, mapT, mapTL, c2, eq_true c146, eq_false c149, c191, eq_true c214, c215, c221, eq_true c222])).po (by decide) (by first | rfl | simp [upd_ap, tau, mapT, mapTL, c2, eq_true c146, eq_false c149, c191, eq_true c214, c215, c221, eq_true c222])).pv (by first | rfl | simp only [go_sem]) (by first | rfl | simp [upd_ap, tau, mapT, mapTL, c2, eq_true c146, eq_false c149, c191, eq_true c214, c215, c221, eq_true c222])).pv (by first | rfl | simp only [go_sem]) (by first | rfl | simp [upd_ap, tau, mapT, mapTL, c2, eq_true c146, eq_false c149, c191, eq_true c214, c215, c221, eq_true c222])).po (by decide) (by first | rfl | simp [upd_ap, tau, mapT, mapTL, c2, eq_true c146, eq_false c149, c191, eq_true c214, c215, c221, eq_true c222])).pv (by first | rfl | simp only [go_sem]) (by first | rfl | simp [upd_ap, tau, mapT, mapTL, c2, eq_true c146, eq_false c149, c191, eq_true c214, c215, c221, eq_true c222])).pv (by first | rfl | simp only [go_sem]) (by first | rfl | simp [upd_ap, tau, mapT, mapTL, c2, eq_true c146, eq_false c149, c191, eq_true c214, c215, c221, eq_true c222]))
                          · exact .cons (.eq (by first | rfl | simp only [go_sem]) (by first | rfl | simp [upd_ap, tau, mapT, mapTL, c2, eq_true c146, eq_false c149, c191, eq_true c214, c215, c221, eq_true c222])) (.cons (.eq (by first | rfl | simp only [go_sem]) (by first | rfl | simp [upd_ap, tau, mapT, mapTL, c2, eq_true c146, eq_false c149, c191, eq_true c214, c215, c221, eq_true c222])) (.nil _))
                        · rw [if_neg c222] at h
                          refine AW.ifT rfl c222 ?_
                          obtain ⟨x223, hx223, h⟩ := Option.bind_eq_some_iff.1 h
                          obtain ⟨hx223b, hx223e⟩ := appO?_some.1 hx223
                          have hx223f : ∀ id o : Nat, appO 3 56 id ([[.val (.string x219.key), .val (.string x219.val), .sl (List.map encInt x219.offs)]]) 0 s8_2.length o (some (.row 3 true (List.map encRes s8_2))) = some ⟨.own id 0 x223.length, [(o, none), (id, some (.row 3 true (List.map encRes x223)))]⟩ := fun id o => by
                            subst hx223e; rw [appO_ok (by simp) (by simpa using hx223b) (by decide)]; simp [encRes, encI]
                          refine AW.regionL [0, 1, 7, 8, 9, 12, 13, 14] ?_
                          generalize hK : inBlockA _ _ Exit.normal = K
                          simp only [go_sem, ↓reduceIte, reduceCtorEq, Nat.reduceAdd, Nat.reduceSub, Nat.reduceMul, Nat.reduceEqDiff, Nat.reduceLT, Nat.reduceLeDiff, Nat.reduceBEq, Int.reduceAdd, Int.reduceSub, Int.reduceLT, Int.reduceLE, Int.reduceEq, Int.reduceToNat, c2, eq_true c146, eq_false c149, c191, eq_true c214, c215, c221, eq_false c222, natOf_le hx219a, hx219b, ix_lt hx219b, hx223f]
                          subst hK
                          refine block_n ?_
                          refine thenA_n ?_
                          refine AW.regionL [0, 1, 7, 8, 9, 12, 13, 14] ?_
                          generalize hK : thenA _ _ Exit.normal = K
                          simp only [go_sem, ↓reduceIte, reduceCtorEq, Nat.reduceAdd, Nat.reduceSub, Nat.reduceMul, Nat.reduceEqDiff, Nat.reduceLT, Nat.reduceLeDiff, Nat.reduceBEq, Int.reduceAdd, Int.reduceSub, Int.reduceLT, Int.reduceLE, Int.reduceEq, Int.reduceToNat, c2, eq_true c146, eq_false c149, c191, eq_true c214, c215, c221, eq_false c222]
                          subst hK
                          refine thenA_n ?_
                          refine ⟨_, (Option.some.inj h).symm, ?_⟩
                          refine Ent.can [8, 242] [] _ _ rfl (by decide) rfl ?_ (.nil _) ?_
                          · exact ((((((((RF.any.pv (by first | rfl | simp only [go_sem]) (by first | rfl | simp [upd_ap, tau, mapT, mapTL, c2, eq_true c146, eq_false c149, c191, eq_true c214, c215, c221, eq_false c222])).pv (by first | rfl | simp only [go_sem]) (by first | rfl | simp [upd_ap, tau, mapT, mapTL, c2, eq_true c146, eq_false c149, c191, eq_true c214, c215, c221, eq_false c222])).po (by decide) (by first | rfl | simp [upd_ap, tau, mapT, mapTL, c2, eq_true c146, eq_false c149, c191, eq_true c214, c215, c221, eq_false c222])).pv (by first | rfl | simp only [go_sem]) (by first | rfl | simp [upd_ap, tau, mapT, mapTL, c2, eq_true c146, eq_false c149, c191, eq_true c214, c215, c221, eq_false c222])).pv (by first | rfl | simp only [go_sem]) (by first | rfl | simp [upd_ap, tau, mapT, mapTL, c2, eq_true c146, eq_false c149, c191, eq_true c214, c215, c221, eq_false c222])).po (by decide) (by first | rfl | simp [upd_ap, tau, mapT, mapTL, c2, eq_true c146, eq_false c149, c191, eq_true c214, c215, c221, eq_false c222])).pv (by first | rfl | simp only [go_sem]) (by first | rfl | simp [upd_ap, tau, mapT, mapTL, c2, eq_true c146, eq_false c149, c191, eq_true c214, c215, c221, eq_false c222])).pv (by first | rfl | simp only [go_sem]) (by first | rfl | simp [upd_ap, tau, mapT, mapTL, c2, eq_true c146, eq_false c149, c191, eq_true c214, c215, c221, eq_false c222]))
                          · exact .cons (.eq (by first | rfl | simp only [go_sem]) (by first | rfl | simp [upd_ap, tau, mapT, mapTL, c2, eq_true c146, eq_false c149, c191, eq_true c214, c215, c221, eq_false c222])) (.cons (.eq (by first | rfl | simp only [go_sem]) (by first | rfl | simp [upd_ap, tau, mapT, mapTL, c2, eq_true c146, eq_false c149, c191, eq_true c214, c215, c221, eq_false c222])) (.nil _))
                      · rw [if_neg c221] at h
                        rw [Bool.not_eq_true] at c221
                        refine AW.ifBT rfl (by rw [c221]; rfl) ?_
                        obtain ⟨x224, hx224, h⟩ := Option.bind_eq_some_iff.1 h
                        obtain ⟨hx224b, hx224e⟩ := appO?_some.1 hx224
                        have hx224f : ∀ id o : Nat, appO 3 56 id ([[.val (.string x147.res.key), .val (.string x147.res.val), .sl (List.map encInt x147.res.offs)]]) 0 s8_2.length o (some (.row 3 true (List.map encRes s8_2))) = some ⟨.own id 0 x224.length, [(o, none), (id, some (.row 3 true (List.map encRes x224)))]⟩ := fun id o => by
                          subst hx224e; rw [appO_ok (by simp) (by simpa using hx224b) (by decide)]; simp [encRes, encI]
                        refine AW.regL [0, 1, 7, 8, 9, 12, 14] ?_
                        generalize hK : AW Try.prog _ _ _ = K
                        simp only [go_sem, ↓reduceIte, reduceCtorEq, Nat.reduceAdd, Nat.reduceSub, Nat.reduceMul, Nat.reduceEqDiff, Nat.reduceLT, Nat.reduceLeDiff, Nat.reduceBEq, Int.reduceAdd, Int.reduceSub, Int.reduceLT, Int.reduceLE, Int.reduceEq, Int.reduceToNat, c2, eq_true c146, eq_false c149, c191, eq_true c214, c215, c221, natOf_le hx147a, hx147b, hx224f]
                        subst hK
                        refine AW.regionL [0, 1, 7, 8, 9, 12, 13, 14] ?_
                        generalize hK : thenA _ _ Exit.normal = K
                        simp only [go_sem, ↓reduceIte, reduceCtorEq, Nat.reduceAdd, Nat.reduceSub, Nat.reduceMul, Nat.reduceEqDiff, Nat.reduceLT, Nat.reduceLeDiff, Nat.reduceBEq, Int.reduceAdd, Int.reduceSub, Int.reduceLT, Int.reduceLE, Int.reduceEq, Int.reduceToNat, c2, eq_true c146, eq_false c149, c191, eq_true c214, c215, c221]
                        subst hK
                        refine thenA_n ?_
                        refine AW.regL [0, 1, 7, 8, 9, 12, 13, 14, 137] ?_
                        generalize hK : AW Try.prog _ _ _ = K
                        simp only [go_sem, ↓reduceIte, reduceCtorEq, Nat.reduceAdd, Nat.reduceSub, Nat.reduceMul, Nat.reduceEqDiff, Nat.reduceLT, Nat.reduceLeDiff, Nat.reduceBEq, Int.reduceAdd, Int.reduceSub, Int.reduceLT, Int.reduceLE, Int.reduceEq, Int.reduceToNat, c2, eq_true c146, eq_false c149, c191, eq_true c214, c215, c221, natOf_le hx219a, hx219b, ix_lt hx219b]
                        subst hK
                        by_cases c225 : x219.key = x147.res.key
                        · rw [if_pos c225] at h
                          refine AW.ifF rfl (fun q => q c225) ?_
                          refine AW.skip ?_
                          refine block_n ?_
                          refine thenA_n ?_
                          refine AW.regionL [0, 1, 7, 8, 9, 12, 13, 14] ?_
                          generalize hK : thenA _ _ Exit.normal = K
                          simp only [go_sem, ↓reduceIte, reduceCtorEq, Nat.reduceAdd, Nat.reduceSub, Nat.reduceMul, Nat.reduceEqDiff, Nat.reduceLT, Nat.reduceLeDiff, Nat.reduceBEq, Int.reduceAdd, Int.reduceSub, Int.reduceLT, Int.reduceLE, Int.reduceEq, Int.reduceToNat, c2, eq_true c146, eq_false c149, c191, eq_true c214, c215, c221, eq_true c225]
                          subst hK
                          refine thenA_n ?_
                          refine ⟨_, (Option.some.inj h).symm, ?_⟩
                          refine Ent.can [8, 194] [] _ _ rfl (by decide) rfl ?_ (.nil _) ?_
                          · exact ((((((((RF.any.pv (by first | rfl | simp only [go_sem]) (by first | rfl | simp [upd_ap, tau, mapT, mapTL, c2, eq_true c146, eq_false c149, c191, eq_true c214, c215, c221, eq_true c225])).pv (by first | rfl | simp only [go_sem]) (by first | rfl | simp [upd_ap, tau, mapT, mapTL, c2, eq_true c146, eq_false c149, c191, eq_true c214, c215, c221, eq_true c225])).po (by decide) (by first | rfl | simp [upd_ap, tau, mapT, mapTL, c2, eq_true c146, eq_false c149, c191, eq_true c214, c215, c221, eq_true c225])).pv (by first | rfl | simp only [go_sem]) (by first | rfl | simp [upd_ap, tau, mapT, mapTL, c2, eq_true c146, eq_false c149, c191, eq_true c214, c215, c221, eq_true c225])).pv (by first | rfl | simp only [go_sem]) (by first | rfl | simp [upd_ap, tau, mapT, mapTL, c2, eq_true c146, eq_false c149, c191, eq_true c214, c215, c221, eq_true c225])).po (by decide) (by first | rfl | simp [upd_ap, tau, mapT, mapTL, c2, eq_true c146, eq_false c149, c191, eq_true c214, c215, c221, eq_true c225])).pv (by first | rfl | simp only [go_sem]) (by first | rfl | simp [upd_ap, tau, mapT, mapTL, c2, eq_true c146, eq_false c149, c191, eq_true c214, c215, c221, eq_true c225])).pv (by first | rfl | simp only [go_sem]) (by first | rfl | simp [upd_ap, tau, mapT, mapTL, c2, eq_true c146, eq_false c149, c191, eq_true c214, c215, c221, eq_true c225]))
                          · exact .cons (.eq (by first | rfl | simp only [go_sem]) (by first | rfl | simp [upd_ap, tau, mapT, mapTL, c2, eq_true c146, eq_false c149, c191, eq_true c214, c215, c221, eq_true c225])) (.cons (.eq (by first | rfl | simp only [go_sem]) (by first | rfl | simp [upd_ap, tau, mapT, mapTL, c2, eq_true c146, eq_false c149, c191, eq_true c214, c215, c221, eq_true c225])) (.nil _))
                        · rw [if_neg c225] at h
                          refine AW.ifT rfl c225 ?_
                          obtain ⟨x226, hx226, h⟩ := Option.bind_eq_some_iff.1 h
                          obtain ⟨hx226b, hx226e⟩ := appO?_some.1 hx226
                          have hx226f : ∀ id o : Nat, appO 3 56 id ([[.val (.string x219.key), .val (.string x219.val), .sl (List.map encInt x219.offs)]]) 0 x224.length o (some (.row 3 true (List.map encRes x224))) = some ⟨.own id 0 x226.length, [(o, none), (id, some (.row 3 true (List.map encRes x226)))]⟩ := fun id o => by
                            subst hx226e; rw [appO_ok (by simp) (by simpa using hx226b) (by decide)]; simp [encRes, encI]
                          refine AW.regionL [0, 1, 7, 8, 9, 12, 13, 14] ?_
                          generalize hK : inBlockA _ _ Exit.normal = K
                          simp only [go_sem, ↓reduceIte, reduceCtorEq, Nat.reduceAdd, Nat.reduceSub, Nat.reduceMul, Nat.reduceEqDiff, Nat.reduceLT, Nat.reduceLeDiff, Nat.reduceBEq, Int.reduceAdd, Int.reduceSub, Int.reduceLT, Int.reduceLE, Int.reduceEq, Int.reduceToNat, c2, eq_true c146, eq_false c149, c191, eq_true c214, c215, c221, eq_false c225, natOf_le hx219a, hx219b, ix_lt hx219b, hx226f]
                          subst hK
                          refine block_n ?_
                          refine thenA_n ?_
                          refine AW.regionL [0, 1, 7, 8, 9, 12, 13, 14] ?_
                          generalize hK : thenA _ _ Exit.normal = K
                          simp only [go_sem, ↓reduceIte, reduceCtorEq, Nat.reduceAdd, Nat.reduceSub, Nat.reduceMul, Nat.reduceEqDiff, Nat.reduceLT, Nat.reduceLeDiff, Nat.reduceBEq, Int.reduceAdd, Int.reduceSub, Int.reduceLT, Int.reduceLE, Int.reduceEq, Int.reduceToNat, c2, eq_true c146, eq_false c149, c191, eq_true c214, c215, c221, eq_false c225]
                          subst hK
                          refine thenA_n ?_
                          refine ⟨_, (Option.some.inj h).symm, ?_⟩
                          refine Ent.can [8, 322] [] _ _ rfl (by decide) rfl ?_ (.nil _) ?_
                          · exact ((((((((RF.any.pv (by first | rfl | simp only [go_sem]) (by first | rfl | simp [upd_ap, tau, mapT, mapTL, c2, eq_true c146, eq_false c149, c191, eq_true c214, c215, c221, eq_false c225])).pv (by first | rfl | simp only [go_sem]) (by first | rfl | simp [upd_ap, tau, mapT, mapTL, c2, eq_true c146, eq_false c149, c191, eq_true c214, c215, c221, eq_false c225])).po (by decide) (by first | rfl | simp [upd_ap, tau, mapT, mapTL, c2, eq_true c146, eq_false c149, c191, eq_true c214, c215, c221, eq_false c225])).pv (by first | rfl | simp only [go_sem]) (by first | rfl | simp [upd_ap, tau, mapT, mapTL, c2, eq_true c146, eq_false c149, c191, eq_true c214, c215, c221, eq_false c225])).pv (by first | rfl | simp only [go_sem]) (by first | rfl | simp [upd_ap, tau, mapT, mapTL, c2, eq_true c146, eq_false c149, c191, eq_true c214, c215, c221, eq_false c225])).po (by decide) (by first | rfl | simp [upd_ap, tau, mapT, mapTL, c2, eq_true c146, eq_false c149, c191, eq_true c214, c215, c221, eq_false c225])).pv (by first | rfl | simp only [go_sem]) (by first | rfl | simp [upd_ap, tau, mapT, mapTL, c2, eq_true c146, eq_false c149, c191, eq_true c214, c215, c221, eq_false c225])).pv (by first | rfl | simp only [go_sem]) (by first | rfl | simp [upd_ap, tau, mapT, mapTL, c2, eq_true c146, eq_false c149, c191, eq_true c214, c215, c221, eq_false c225]))
                          · exact .cons (.eq (by first | rfl | simp only [go_sem]) (by first | rfl | simp [upd_ap, tau, mapT, mapTL, c2, eq_true c146, eq_false c149, c191, eq_true c214, c215, c221, eq_false c225])) (.cons (.eq (by first | rfl | simp only [go_sem]) (by first | rfl | simp [upd_ap, tau, mapT, mapTL, c2, eq_true c146, eq_false c149, c191, eq_true c214, c215, c221, eq_false c225])) (.nil _))
                  · rw [if_neg c214] at h
                    refine AW.ifF rfl c214 ?_
                    refine AW.exit ?_
                    refine thenA_x ?_
                    refine thenA_x ?_
                    refine ⟨_, (Option.some.inj h).symm, _, ?_, rfl, rfl⟩
                    refine Ent.can [9] [] _ _ rfl (by decide) rfl ?_ (.nil _) ?_
                    · exact (((((RF.any.pv (by first | rfl | simp only [go_sem]) (by first | rfl | simp [upd_ap, tau, mapT, mapTL, c2, eq_true c146, eq_false c149, c191, eq_false c214])).pv (by first | rfl | simp only [go_sem]) (by first | rfl | simp [upd_ap, tau, mapT, mapTL, c2, eq_true c146, eq_false c149, c191, eq_false c214])).pv (by first | rfl | simp only [go_sem]) (by first | rfl | simp [upd_ap, tau, mapT, mapTL, c2, eq_true c146, eq_false c149, c191, eq_false c214])).po (by decide) (by first | rfl | simp [upd_ap, tau, mapT, mapTL, c2, eq_true c146, eq_false c149, c191, eq_false c214])).pv (by first | rfl | simp only [go_sem]) (by first | rfl | simp [upd_ap, tau, mapT, mapTL, c2, eq_true c146, eq_false c149, c191, eq_false c214]))
                    · exact .cons (.eq (by first | rfl | simp only [go_sem]) (by first | rfl | simp [upd_ap, tau, mapT, mapTL, c2, eq_true c146, eq_false c149, c191, eq_false c214])) (.nil _)
                · intro e st' hX
                  obtain ⟨y228, y229⟩ := y227
                  try dsimp only at h
                  try dsimp only at hX
                  obtain ⟨rfl, rfl⟩ := hX
                  refine ⟨_, Ent.refl, ?_⟩
                  refine block_x ?_
                  refine thenA_n ?_
                  refine AW.seq ?_
                  refine AW.regL [0, 1, 8, 12, 146] ?_
                  generalize hK : AW Try.prog _ _ _ = K
                  simp only [go_sem, ↓reduceIte, reduceCtorEq, Nat.reduceAdd, Nat.reduceSub, Nat.reduceMul, Nat.reduceEqDiff, Nat.reduceLT, Nat.reduceLeDiff, Nat.reduceBEq, Int.reduceAdd, Int.reduceSub, Int.reduceLT, Int.reduceLE, Int.reduceEq, Int.reduceToNat, c2, eq_true c146, eq_false c149, c191]
                  subst hK
                  by_cases c230 : y228 = true
                  · rw [if_pos c230] at h
                    refine AW.ifBF rfl (by rw [c230]; rfl) ?_
                    refine AW.skip ?_
                    refine thenA_n ?_
                    refine AW.regionL [0, 1, 7, 8] ?_
                    generalize hK : inBlockA _ _ Exit.normal = K
                    simp only [go_sem, ↓reduceIte, reduceCtorEq, Nat.reduceAdd, Nat.reduceSub, Nat.reduceMul, Nat.reduceEqDiff, Nat.reduceLT, Nat.reduceLeDiff, Nat.reduceBEq, Int.reduceAdd, Int.reduceSub, Int.reduceLT, Int.reduceLE, Int.reduceEq, Int.reduceToNat, c2, eq_true c146, eq_false c149, c191, c230]
                    subst hK
                    refine block_n ?_
                    refine thenA_n ?_
                    refine AW.regionL [0, 1, 7, 8] ?_
                    generalize hK : thenA _ _ Exit.normal = K
                    simp only [go_sem, ↓reduceIte, reduceCtorEq, Nat.reduceAdd, Nat.reduceSub, Nat.reduceMul, Nat.reduceEqDiff, Nat.reduceLT, Nat.reduceLeDiff, Nat.reduceBEq, Int.reduceAdd, Int.reduceSub, Int.reduceLT, Int.reduceLE, Int.reduceEq, Int.reduceToNat, c2, eq_true c146, eq_false c149, c191, c230]
                    subst hK
                    refine thenA_n ?_
                    refine ⟨_, (Option.some.inj h).symm, ?_⟩
                    refine Ent.can [8] [] _ _ rfl (by decide) rfl ?_ (.nil _) ?_
                    · exact ((((RF.any.pv (by first | rfl | simp only [go_sem]) (by first | rfl | simp [upd_ap, tau, mapT, mapTL, c2, eq_true c146, eq_false c149, c191, c230])).pv (by first | rfl | simp only [go_sem]) (by first | rfl | simp [upd_ap, tau, mapT, mapTL, c2, eq_true c146, eq_false c149, c191, c230])).po (by decide) (by first | rfl | simp [upd_ap, tau, mapT, mapTL, c2, eq_true c146, eq_false c149, c191, c230])).pv (by first | rfl | simp only [go_sem]) (by first | rfl | simp [upd_ap, tau, mapT, mapTL, c2, eq_true c146, eq_false c149, c191, c230]))
                    · exact .cons (.eq (by first | rfl | simp only [go_sem]) (by first | rfl | simp [upd_ap, tau, mapT, mapTL, c2, eq_true c146, eq_false c149, c191, c230])) (.nil _)
                  · rw [if_neg c230] at h
                    rw [Bool.not_eq_true] at c230
                    refine AW.ifBT rfl (by rw [c230]; rfl) ?_
                    obtain ⟨x231, hx231, h⟩ := Option.bind_eq_some_iff.1 h
                    obtain ⟨hx231b, hx231e⟩ := appO?_some.1 hx231
                    have hx231f : ∀ id o : Nat, appO 3 56 id ([[.val (.string x147.res.key), .val (.string x147.res.val), .sl (List.map encInt x147.res.offs)]]) 0 y229.length o (some (.row 3 true (List.map encRes y229))) = some ⟨.own id 0 x231.length, [(o, none), (id, some (.row 3 true (List.map encRes x231)))]⟩ := fun id o => by
                      subst hx231e; rw [appO_ok (by simp) (by simpa using hx231b) (by decide)]; simp [encRes, encI]
                    refine AW.regionL [0, 1, 8, 12] ?_
                    generalize hK : thenA _ _ Exit.normal = K
                    simp only [go_sem, ↓reduceIte, reduceCtorEq, Nat.reduceAdd, Nat.reduceSub, Nat.reduceMul, Nat.reduceEqDiff, Nat.reduceLT, Nat.reduceLeDiff, Nat.reduceBEq, Int.reduceAdd, Int.reduceSub, Int.reduceLT, Int.reduceLE, Int.reduceEq, Int.reduceToNat, c2, eq_true c146, eq_false c149, c191, c230, natOf_le hx147a, hx147b, hx231f]
                    subst hK
                    refine thenA_n ?_
                    refine AW.regionL [0, 1, 7, 8] ?_
                    generalize hK : inBlockA _ _ Exit.normal = K
                    simp only [go_sem, ↓reduceIte, reduceCtorEq, Nat.reduceAdd, Nat.reduceSub, Nat.reduceMul, Nat.reduceEqDiff, Nat.reduceLT, Nat.reduceLeDiff, Nat.reduceBEq, Int.reduceAdd, Int.reduceSub, Int.reduceLT, Int.reduceLE, Int.reduceEq, Int.reduceToNat, c2, eq_true c146, eq_false c149, c191, c230]
                    subst hK
                    refine block_n ?_
                    refine thenA_n ?_
                    refine AW.regionL [0, 1, 7, 8] ?_
                    generalize hK : thenA _ _ Exit.normal = K
                    simp only [go_sem, ↓reduceIte, reduceCtorEq, Nat.reduceAdd, Nat.reduceSub, Nat.reduceMul, Nat.reduceEqDiff, Nat.reduceLT, Nat.reduceLeDiff, Nat.reduceBEq, Int.reduceAdd, Int.reduceSub, Int.reduceLT, Int.reduceLE, Int.reduceEq, Int.reduceToNat, c2, eq_true c146, eq_false c149, c191, c230]
                    subst hK
                    refine thenA_n ?_
                    refine ⟨_, (Option.some.inj h).symm, ?_⟩
                    refine Ent.can [81] [] _ _ rfl (by decide) rfl ?_ (.nil _) ?_
                    · exact ((((RF.any.pv (by first | rfl | simp only [go_sem]) (by first | rfl | simp [upd_ap, tau, mapT, mapTL, c2, eq_true c146, eq_false c149, c191, c230])).pv (by first | rfl | simp only [go_sem]) (by first | rfl | simp [upd_ap, tau, mapT, mapTL, c2, eq_true c146, eq_false c149, c191, c230])).po (by decide) (by first | rfl | simp [upd_ap, tau, mapT, mapTL, c2, eq_true c146, eq_false c149, c191, c230])).pv (by first | rfl | simp only [go_sem]) (by first | rfl | simp [upd_ap, tau, mapT, mapTL, c2, eq_true c146, eq_false c149, c191, c230]))
                    · exact .cons (.eq (by first | rfl | simp only [go_sem]) (by first | rfl | simp [upd_ap, tau, mapT, mapTL, c2, eq_true c146, eq_false c149, c191, c230])) (.nil _)
              · rw [if_neg c191] at h
                rw [Bool.not_eq_true] at c191
                refine AW.ifBT rfl (by rw [c191]; rfl) ?_
                refine AW.regL [4, 5] ?_
                generalize hK : AW Try.prog _ _ _ = K
                simp only [go_sem, ↓reduceIte, reduceCtorEq, Nat.reduceAdd, Nat.reduceSub, Nat.reduceMul, Nat.reduceEqDiff, Nat.reduceLT, Nat.reduceLeDiff, Nat.reduceBEq, Int.reduceAdd, Int.reduceSub, Int.reduceLT, Int.reduceLE, Int.reduceEq, Int.reduceToNat, c2, eq_true c146, eq_false c149, c191]
                subst hK
                refine AW.ent (Ent.nilOwn 4 3 (by decide) rfl) ?_
                refine AW.ret ?_
                refine thenA_r ?_
                refine block_r ?_
                refine thenA_r ?_
                refine thenA_r ?_
                refine ⟨_, (Option.some.inj h).symm, _, Ent.refl, rfl, ?_⟩
                (simp only [go_sem, ↓reduceIte, reduceCtorEq, Nat.reduceAdd, Nat.reduceSub, Nat.reduceMul, Nat.reduceEqDiff, Nat.reduceLT, Nat.reduceLeDiff, Nat.reduceBEq, Int.reduceAdd, Int.reduceSub, Int.reduceLT, Int.reduceLE, Int.reduceEq, Int.reduceToNat, c2, eq_true c146, eq_false c149, c191, finA, resA, resOf_1, resOf_2, sealV_val, sealV_sl, sealV_ip, sealV_agg, sealV_tup, sealV_own, sealL_nil, sealL_cons] <;> try simp)
          · rw [if_neg c146] at h
            refine AW.ifF rfl c146 ?_
            refine AW.exit ?_
            refine thenA_x ?_
            refine thenA_x ?_
            refine ⟨_, (Option.some.inj h).symm, _, ?_, rfl, rfl⟩
            refine Ent.can [8] [] _ _ rfl (by decide) rfl ?_ (.nil _) ?_
            · exact (RF.any.po (by decide) (by first | rfl | simp [upd_ap, tau, mapT, mapTL, c2, eq_false c146]))
            · exact .cons (.eq (by first | rfl | simp only [go_sem]) (by first | rfl | simp [upd_ap, tau, mapT, mapTL, c2, eq_false c146])) (.nil _)
        · intro e st' hX
          rcases y232 with y233 | y234 <;> dsimp only at h hX
          · obtain ⟨rfl, hf⟩ := hX
            refine ⟨_, Ent.refl, ?_⟩
            refine block_r ?_
            refine thenA_r ?_
            obtain rfl := Option.some.inj h
            exact hf
          · obtain ⟨rfl, rfl⟩ := hX
            refine ⟨_, Ent.refl, ?_⟩
            refine block_x ?_
            refine thenA_n ?_
            refine AW.regL [4, 5] ?_
            generalize hK : AW Try.prog _ _ _ = K
            simp only [go_sem, ↓reduceIte, reduceCtorEq, Nat.reduceAdd, Nat.reduceSub, Nat.reduceMul, Nat.reduceEqDiff, Nat.reduceLT, Nat.reduceLeDiff, Nat.reduceBEq, Int.reduceAdd, Int.reduceSub, Int.reduceLT, Int.reduceLE, Int.reduceEq, Int.reduceToNat, c2]
            subst hK
            refine AW.ret ?_
            obtain rfl := Option.some.inj h
            (simp only [go_sem, ↓reduceIte, reduceCtorEq, Nat.reduceAdd, Nat.reduceSub, Nat.reduceMul, Nat.reduceEqDiff, Nat.reduceLT, Nat.reduceLeDiff, Nat.reduceBEq, Int.reduceAdd, Int.reduceSub, Int.reduceLT, Int.reduceLE, Int.reduceEq, Int.reduceToNat, c2, finA, resA, resOf_1, resOf_2, sealV_val, sealV_sl, sealV_ip, sealV_agg, sealV_tup, sealV_own, sealL_nil, sealL_cons] <;> try simp)
  · rw [if_neg c2] at h
    rw [Bool.not_eq_true] at c2
    refine AW.ifBT rfl (by rw [c2]; rfl) ?_
    refine AW.regL [4, 5] ?_
    generalize hK : AW Try.prog _ _ _ = K
    simp only [go_sem, ↓reduceIte, reduceCtorEq, Nat.reduceAdd, Nat.reduceSub, Nat.reduceMul, Nat.reduceEqDiff, Nat.reduceLT, Nat.reduceLeDiff, Nat.reduceBEq, Int.reduceAdd, Int.reduceSub, Int.reduceLT, Int.reduceLE, Int.reduceEq, Int.reduceToNat, c2]
    subst hK
    refine AW.ent (Ent.nilOwn 4 3 (by decide) rfl) ?_
    refine AW.ret ?_
    refine thenA_r ?_
    obtain rfl := Option.some.inj h
    (simp only [go_sem, ↓reduceIte, reduceCtorEq, Nat.reduceAdd, Nat.reduceSub, Nat.reduceMul, Nat.reduceEqDiff, Nat.reduceLT, Nat.reduceLeDiff, Nat.reduceBEq, Int.reduceAdd, Int.reduceSub, Int.reduceLT, Int.reduceLE, Int.reduceEq, Int.reduceToNat, c2, finA, resA, resOf_1, resOf_2, sealV_val, sealV_sl, sealV_ip, sealV_agg, sealV_tup, sealV_own, sealL_nil, sealL_cons] <;> try simp)
noncomputable def f4_s1 (a1 : List Change) : Int → Option (Int ⊕ (Bool ⊕ Unit))
  | s1_0 => (if s1_0 < (a1.length : Int) then ((ix a1 s1_0).bind fun x19 => (if 100 < (IntKind.i64.wrap ((x19.res.key.size : Int) + (x19.res.val.size : Int))) then ((x14 ).bind fun x21 => some (.inr (.inl x21))) else (if 30 < (x19.res.offs.length : Int) then ((x14 ).bind fun x23 => some (.inr (.inl x23))) else some (.inl (IntKind.i64.wrap (s1_0 + 1)))))) else some (.inr (.inr ())))
noncomputable def f4 (a0 : List Res) (a1 : List Change) : Option Bool := ((x13 a0).bind fun x1 => (if x1 = true then ((x14 ).bind fun x3 => some x3) else (if 30 < (a1.length : Int) then ((x14 ).bind fun x5 => some x5) else ((loopO (f4_s1 a1) 0).bind fun y24 => match y24 with | .inl y25 => some y25 | .inr _ => ((x19 a0 a1).bind fun x26 => ((f22 a0 a1).bind fun x27 => ((x21 x26.1 x27.1).bind fun x28 => (if x28 = true then ((x20 x26.2).bind fun x30 => (if x30 = x27.2 then ((x14 ).bind fun x32 => some x32) else some false)) else some false))))))))
theorem ok4 (a0 : List Res) (a1 : List Change) (r : Bool) (h : f4 a0 a1 = some r) : PC Try.prog 4 [.sl (List.map encRes a0), .sl (List.map encCh a1)] (.val (.bool r)) := by
  rw [f4] at h
  refine pc_of8 (N := 75) (rs := [.tmp 4]) Try.func4 rfl rfl rfl (Nat.le_of_ble_eq_true rfl) ?_
  refine AW.regL [0, 1] ?_
  generalize hK : AW Try.prog _ _ _ = K
  simp only [go_sem, ↓reduceIte, reduceCtorEq, Nat.reduceAdd, Nat.reduceSub, Nat.reduceMul, Nat.reduceEqDiff, Nat.reduceLT, Nat.reduceLeDiff, Nat.reduceBEq, Int.reduceAdd, Int.reduceSub, Int.reduceLT, Int.reduceLE, Int.reduceEq, Int.reduceToNat]
  subst hK
  refine AW.seq ?_
  obtain ⟨x1, hx1, h⟩ := Option.bind_eq_some_iff.1 h
  by_cases c2 : x1 = true
  · rw [if_pos c2] at h
    refine AW.regL [0, 1, 16] ?_
    generalize hK : AW Try.prog _ _ _ = K
    simp only [go_sem, ↓reduceIte, reduceCtorEq, Nat.reduceAdd, Nat.reduceSub, Nat.reduceMul, Nat.reduceEqDiff, Nat.reduceLT, Nat.reduceLeDiff, Nat.reduceBEq, Int.reduceAdd, Int.reduceSub, Int.reduceLT, Int.reduceLE, Int.reduceEq, Int.reduceToNat, c2]
    refine arC.of (xok13 a0 x1 hx1) Try.call13 ?_
    simp only [go_sem, ↓reduceIte, reduceCtorEq, Nat.reduceAdd, Nat.reduceSub, Nat.reduceMul, Nat.reduceEqDiff, Nat.reduceLT, Nat.reduceLeDiff, Nat.reduceBEq, Int.reduceAdd, Int.reduceSub, Int.reduceLT, Int.reduceLE, Int.reduceEq, Int.reduceToNat, c2]
    subst hK
    refine AW.ifBT rfl rfl ?_
    obtain ⟨x3, hx3, h⟩ := Option.bind_eq_some_iff.1 h
    refine AW.regL [4] ?_
    generalize hK : AW Try.prog _ _ _ = K
    simp only [go_sem, ↓reduceIte, reduceCtorEq, Nat.reduceAdd, Nat.reduceSub, Nat.reduceMul, Nat.reduceEqDiff, Nat.reduceLT, Nat.reduceLeDiff, Nat.reduceBEq, Int.reduceAdd, Int.reduceSub, Int.reduceLT, Int.reduceLE, Int.reduceEq, Int.reduceToNat, c2]
    refine arC.of (xok14  x3 hx3) Try.call14 ?_
    simp only [go_sem, ↓reduceIte, reduceCtorEq, Nat.reduceAdd, Nat.reduceSub, Nat.reduceMul, Nat.reduceEqDiff, Nat.reduceLT, Nat.reduceLeDiff, Nat.reduceBEq, Int.reduceAdd, Int.reduceSub, Int.reduceLT, Int.reduceLE, Int.reduceEq, Int.reduceToNat, c2]
    subst hK
    refine AW.ret ?_
    refine thenA_r ?_
    obtain rfl := Option.some.inj h
    (simp only [go_sem, ↓reduceIte, reduceCtorEq, Nat.reduceAdd, Nat.reduceSub, Nat.reduceMul, Nat.reduceEqDiff, Nat.reduceLT, Nat.reduceLeDiff, Nat.reduceBEq, Int.reduceAdd, Int.reduceSub, Int.reduceLT, Int.reduceLE, Int.reduceEq, Int.reduceToNat, c2, finA, resA, resOf_1, resOf_2, sealV_val, sealV_sl, sealV_ip, sealV_agg, sealV_tup, sealV_own, sealL_nil, sealL_cons] <;> try simp)
  · rw [if_neg c2] at h
    rw [Bool.not_eq_true] at c2
    refine AW.regL [0, 1, 16] ?_
    generalize hK : AW Try.prog _ _ _ = K
    simp only [go_sem, ↓reduceIte, reduceCtorEq, Nat.reduceAdd, Nat.reduceSub, Nat.reduceMul, Nat.reduceEqDiff, Nat.reduceLT, Nat.reduceLeDiff, Nat.reduceBEq, Int.reduceAdd, Int.reduceSub, Int.reduceLT, Int.reduceLE, Int.reduceEq, Int.reduceToNat, c2]
    refine arC.of (xok13 a0 x1 hx1) Try.call13 ?_
    simp only [go_sem, ↓reduceIte, reduceCtorEq, Nat.reduceAdd, Nat.reduceSub, Nat.reduceMul, Nat.reduceEqDiff, Nat.reduceLT, Nat.reduceLeDiff, Nat.reduceBEq, Int.reduceAdd, Int.reduceSub, Int.reduceLT, Int.reduceLE, Int.reduceEq, Int.reduceToNat, c2]
    subst hK
    by_cases c4 : 30 < (a1.length : Int)
    · rw [if_pos c4] at h
      refine AW.ifT rfl c4 ?_
      obtain ⟨x5, hx5, h⟩ := Option.bind_eq_some_iff.1 h
      refine AW.regL [4] ?_
      generalize hK : AW Try.prog _ _ _ = K
      simp only [go_sem, ↓reduceIte, reduceCtorEq, Nat.reduceAdd, Nat.reduceSub, Nat.reduceMul, Nat.reduceEqDiff, Nat.reduceLT, Nat.reduceLeDiff, Nat.reduceBEq, Int.reduceAdd, Int.reduceSub, Int.reduceLT, Int.reduceLE, Int.reduceEq, Int.reduceToNat, c2, eq_true c4]
      refine arC.of (xok14  x5 hx5) Try.call14 ?_
      simp only [go_sem, ↓reduceIte, reduceCtorEq, Nat.reduceAdd, Nat.reduceSub, Nat.reduceMul, Nat.reduceEqDiff, Nat.reduceLT, Nat.reduceLeDiff, Nat.reduceBEq, Int.reduceAdd, Int.reduceSub, Int.reduceLT, Int.reduceLE, Int.reduceEq, Int.reduceToNat, c2, eq_true c4]
      subst hK
      refine AW.ret ?_
      refine thenA_r ?_
      obtain rfl := Option.some.inj h
      (simp only [go_sem, ↓reduceIte, reduceCtorEq, Nat.reduceAdd, Nat.reduceSub, Nat.reduceMul, Nat.reduceEqDiff, Nat.reduceLT, Nat.reduceLeDiff, Nat.reduceBEq, Int.reduceAdd, Int.reduceSub, Int.reduceLT, Int.reduceLE, Int.reduceEq, Int.reduceToNat, c2, eq_true c4, finA, resA, resOf_1, resOf_2, sealV_val, sealV_sl, sealV_ip, sealV_agg, sealV_tup, sealV_own, sealL_nil, sealL_cons] <;> try simp)
    · rw [if_neg c4] at h
      refine AW.ifF rfl c4 ?_
      refine AW.skip ?_
      refine thenA_n ?_
      refine AW.seq ?_
      refine AW.regL [0, 1, 5] ?_
      generalize hK : AW Try.prog _ _ _ = K
      simp only [go_sem, ↓reduceIte, reduceCtorEq, Nat.reduceAdd, Nat.reduceSub, Nat.reduceMul, Nat.reduceEqDiff, Nat.reduceLT, Nat.reduceLeDiff, Nat.reduceBEq, Int.reduceAdd, Int.reduceSub, Int.reduceLT, Int.reduceLE, Int.reduceEq, Int.reduceToNat, c2, eq_false c4]
      subst hK
      refine AW.block ?_
      obtain ⟨y24, hy24, h⟩ := Option.bind_eq_some_iff.1 h
      refine AW.loopO (fun s => ⟨(upd (upd (upd anyF 0 (.sl (List.map encRes a0))) 1 (.sl (List.map encCh a1))) 5 (.val (.int .i64 s))), hpL [] [], 8⟩) (fun y e st' => match y with | .inl z => e = Exit.ret ∧ finA Try.prog [.tmp 4] (.val (.bool z)) .ret st' | .inr z => e = Exit.exit 0 ∧ st' = ⟨(upd (upd anyF 0 (.sl (List.map encRes a0))) 1 (.sl (List.map encCh a1))), hpL [] [], 8⟩) hy24 ?_ ?_ ?_
      · refine Ent.can [] [] _ _ rfl (by decide) rfl ?_ (.nil _) ?_
        · exact (((RF.any.pv (by first | rfl | simp only [go_sem]) (by first | rfl | simp [upd_ap, tau, mapT, mapTL, c2, eq_false c4])).pv (by first | rfl | simp only [go_sem]) (by first | rfl | simp [upd_ap, tau, mapT, mapTL, c2, eq_false c4])).pv (by first | rfl | simp only [go_sem]) (by first | rfl | simp [upd_ap, tau, mapT, mapTL, c2, eq_false c4]))
        · exact .nil _
      · clear h hy24
        rintro s1_0 x h
        rw [f4_s1] at h
        refine AW.seq ?_
        refine AW.regL [0, 1, 5, 21] ?_
        generalize hK : AW Try.prog _ _ _ = K
        simp only [go_sem, ↓reduceIte, reduceCtorEq, Nat.reduceAdd, Nat.reduceSub, Nat.reduceMul, Nat.reduceEqDiff, Nat.reduceLT, Nat.reduceLeDiff, Nat.reduceBEq, Int.reduceAdd, Int.reduceSub, Int.reduceLT, Int.reduceLE, Int.reduceEq, Int.reduceToNat, c2, eq_false c4]
        subst hK
        by_cases c18 : s1_0 < (a1.length : Int)
        · rw [if_pos c18] at h
          refine AW.ifT rfl c18 ?_
          refine AW.skip ?_
          refine thenA_n ?_
          refine AW.seq ?_
          refine AW.block ?_
          obtain ⟨x19, hx19, h⟩ := Option.bind_eq_some_iff.1 h
          obtain ⟨hx19a, hx19b⟩ := ix_some.1 hx19
          by_cases c20 : 100 < (IntKind.i64.wrap ((x19.res.key.size : Int) + (x19.res.val.size : Int)))
          · rw [if_pos c20] at h
            refine AW.regdL [0, 1, 5, 49] [[], [], [0, 1], [0, 1, 2], [0, 1, 2, 3], [0, 1, 2, 3, 4], [0, 1, 2, 3, 4, 5], [], [], [7, 8], [7, 8, 9], [7, 8, 9, 10], [7, 8, 9, 10, 11], [7, 8, 9, 10, 11, 12], [0, 1, 2, 3, 4, 5, 6, 7, 8, 9, 10, 11, 12, 13], [0, 1, 2, 3, 4, 5, 6, 7, 8, 9, 10, 11, 12, 13, 14], [0, 1, 2, 3, 4, 5, 6, 7, 8, 9, 10, 11, 12, 13, 14, 15], [0, 1, 2, 3, 4, 5, 6, 7, 8, 9, 10, 11, 12, 13, 14, 15, 16], [0, 1, 2, 3, 4, 5, 6, 7, 8, 9, 10, 11, 12, 13, 14, 15, 16], [0, 1, 2, 3, 4, 5, 6, 7, 8, 9, 10, 11, 12, 13, 14, 15, 16, 17, 18], [0, 1, 2, 3, 4, 5, 6, 7, 8, 9, 10, 11, 12, 13, 14, 15, 16, 17, 18, 19], [0, 1, 2, 3, 4, 5, 6, 7, 8, 9, 10, 11, 12, 13, 14, 15, 16, 17, 18, 19, 20], [0, 1, 2, 3, 4, 5, 6, 7, 8, 9, 10, 11, 12, 13, 14, 15, 16, 17, 18, 19, 20, 21], [0, 1, 2, 3, 4, 5, 6, 7, 8, 9, 10, 11, 12, 13, 14, 15, 16, 17, 18, 19, 20, 21, 22], [0, 1, 2, 3, 4, 5, 6, 7, 8, 9, 10, 11, 12, 13, 14, 15, 16, 17, 18, 19, 20, 21, 22, 23], [0, 1, 2, 3, 4, 5, 6, 7, 8, 9, 10, 11, 12, 13, 14, 15, 16, 17, 18, 19, 20, 21, 22, 23, 24]] [0, 1, 2, 3, 4, 5, 6, 7, 8, 9, 10, 11, 12, 13, 14, 15, 16, 17, 18, 19, 20, 21, 22, 23, 24, 25] noFt (fun _ _ _ h => by simp [noFt] at h) draws (by kernel_rfl) (by kernel_rfl) ?_
            generalize hK : AW Try.prog _ _ _ = K
            simp only [go_sem, ↓reduceIte, reduceCtorEq, Nat.reduceAdd, Nat.reduceSub, Nat.reduceMul, Nat.reduceEqDiff, Nat.reduceLT, Nat.reduceLeDiff, Nat.reduceBEq, Int.reduceAdd, Int.reduceSub, Int.reduceLT, Int.reduceLE, Int.reduceEq, Int.reduceToNat, c2, eq_false c4, eq_true c18, natOf_le hx19a, hx19b, eq_true c20]
            subst hK
            refine AW.ifBT rfl rfl ?_
            obtain ⟨x21, hx21, h⟩ := Option.bind_eq_some_iff.1 h
            refine AW.regL [4] ?_
            generalize hK : AW Try.prog _ _ _ = K
            simp only [go_sem, ↓reduceIte, reduceCtorEq, Nat.reduceAdd, Nat.reduceSub, Nat.reduceMul, Nat.reduceEqDiff, Nat.reduceLT, Nat.reduceLeDiff, Nat.reduceBEq, Int.reduceAdd, Int.reduceSub, Int.reduceLT, Int.reduceLE, Int.reduceEq, Int.reduceToNat, c2, eq_false c4, eq_true c18, eq_true c20]
            refine arC.of (xok14  x21 hx21) Try.call14 ?_
            simp only [go_sem, ↓reduceIte, reduceCtorEq, Nat.reduceAdd, Nat.reduceSub, Nat.reduceMul, Nat.reduceEqDiff, Nat.reduceLT, Nat.reduceLeDiff, Nat.reduceBEq, Int.reduceAdd, Int.reduceSub, Int.reduceLT, Int.reduceLE, Int.reduceEq, Int.reduceToNat, c2, eq_false c4, eq_true c18, eq_true c20]
            subst hK
            refine AW.ret ?_
            refine block_r ?_
            refine thenA_r ?_
            refine thenA_r ?_
            refine ⟨_, (Option.some.inj h).symm, _, Ent.refl, rfl, ?_⟩
            (simp only [go_sem, ↓reduceIte, reduceCtorEq, Nat.reduceAdd, Nat.reduceSub, Nat.reduceMul, Nat.reduceEqDiff, Nat.reduceLT, Nat.reduceLeDiff, Nat.reduceBEq, Int.reduceAdd, Int.reduceSub, Int.reduceLT, Int.reduceLE, Int.reduceEq, Int.reduceToNat, c2, eq_false c4, eq_true c18, eq_true c20, finA, resA, resOf_1, resOf_2, sealV_val, sealV_sl, sealV_ip, sealV_agg, sealV_tup, sealV_own, sealL_nil, sealL_cons] <;> try simp)
          · rw [if_neg c20] at h
            refine AW.regdL [0, 1, 5, 49] [[], [], [0, 1], [0, 1, 2], [0, 1, 2, 3], [0, 1, 2, 3, 4], [0, 1, 2, 3, 4, 5], [], [], [7, 8], [7, 8, 9], [7, 8, 9, 10], [7, 8, 9, 10, 11], [7, 8, 9, 10, 11, 12], [0, 1, 2, 3, 4, 5, 6, 7, 8, 9, 10, 11, 12, 13], [0, 1, 2, 3, 4, 5, 6, 7, 8, 9, 10, 11, 12, 13, 14], [0, 1, 2, 3, 4, 5, 6, 7, 8, 9, 10, 11, 12, 13, 14, 15], [0, 1, 2, 3, 4, 5, 6, 7, 8, 9, 10, 11, 12, 13, 14, 15, 16], [0, 1, 2, 3, 4, 5, 6, 7, 8, 9, 10, 11, 12, 13, 14, 15, 16], [0, 1, 2, 3, 4, 5, 6, 7, 8, 9, 10, 11, 12, 13, 14, 15, 16, 17, 18], [0, 1, 2, 3, 4, 5, 6, 7, 8, 9, 10, 11, 12, 13, 14, 15, 16, 17, 18, 19], [0, 1, 2, 3, 4, 5, 6, 7, 8, 9, 10, 11, 12, 13, 14, 15, 16, 17, 18, 19, 20], [0, 1, 2, 3, 4, 5, 6, 7, 8, 9, 10, 11, 12, 13, 14, 15, 16, 17, 18, 19, 20, 21], [0, 1, 2, 3, 4, 5, 6, 7, 8, 9, 10, 11, 12, 13, 14, 15, 16, 17, 18, 19, 20, 21, 22], [0, 1, 2, 3, 4, 5, 6, 7, 8, 9, 10, 11, 12, 13, 14, 15, 16, 17, 18, 19, 20, 21, 22, 23], [0, 1, 2, 3, 4, 5, 6, 7, 8, 9, 10, 11, 12, 13, 14, 15, 16, 17, 18, 19, 20, 21, 22, 23, 24]] [0, 1, 2, 3, 4, 5, 6, 7, 8, 9, 10, 11, 12, 13, 14, 15, 16, 17, 18, 19, 20, 21, 22, 23, 24, 25] noFt (fun _ _ _ h => by simp [noFt] at h) draws (by kernel_rfl) (by kernel_rfl) ?_
            generalize hK : AW Try.prog _ _ _ = K
            simp only [go_sem, ↓reduceIte, reduceCtorEq, Nat.reduceAdd, Nat.reduceSub, Nat.reduceMul, Nat.reduceEqDiff, Nat.reduceLT, Nat.reduceLeDiff, Nat.reduceBEq, Int.reduceAdd, Int.reduceSub, Int.reduceLT, Int.reduceLE, Int.reduceEq, Int.reduceToNat, c2, eq_false c4, eq_true c18, natOf_le hx19a, hx19b, eq_false c20]
            subst hK
            by_cases c22 : 30 < (x19.res.offs.length : Int)
            · rw [if_pos c22] at h
              refine AW.ifT rfl c22 ?_
              obtain ⟨x23, hx23, h⟩ := Option.bind_eq_some_iff.1 h
              refine AW.regL [4] ?_
              generalize hK : AW Try.prog _ _ _ = K
              simp only [go_sem, ↓reduceIte, reduceCtorEq, Nat.reduceAdd, Nat.reduceSub, Nat.reduceMul, Nat.reduceEqDiff, Nat.reduceLT, Nat.reduceLeDiff, Nat.reduceBEq, Int.reduceAdd, Int.reduceSub, Int.reduceLT, Int.reduceLE, Int.reduceEq, Int.reduceToNat, c2, eq_false c4, eq_true c18, eq_false c20, eq_true c22]
              refine arC.of (xok14  x23 hx23) Try.call14 ?_
              simp only [go_sem, ↓reduceIte, reduceCtorEq, Nat.reduceAdd, Nat.reduceSub, Nat.reduceMul, Nat.reduceEqDiff, Nat.reduceLT, Nat.reduceLeDiff, Nat.reduceBEq, Int.reduceAdd, Int.reduceSub, Int.reduceLT, Int.reduceLE, Int.reduceEq, Int.reduceToNat, c2, eq_false c4, eq_true c18, eq_false c20, eq_true c22]
              subst hK
              refine AW.ret ?_
              refine block_r ?_
              refine thenA_r ?_
              refine thenA_r ?_
              refine ⟨_, (Option.some.inj h).symm, _, Ent.refl, rfl, ?_⟩
              (simp only [go_sem, ↓reduceIte, reduceCtorEq, Nat.reduceAdd, Nat.reduceSub, Nat.reduceMul, Nat.reduceEqDiff, Nat.reduceLT, Nat.reduceLeDiff, Nat.reduceBEq, Int.reduceAdd, Int.reduceSub, Int.reduceLT, Int.reduceLE, Int.reduceEq, Int.reduceToNat, c2, eq_false c4, eq_true c18, eq_false c20, eq_true c22, finA, resA, resOf_1, resOf_2, sealV_val, sealV_sl, sealV_ip, sealV_agg, sealV_tup, sealV_own, sealL_nil, sealL_cons] <;> try simp)
            · rw [if_neg c22] at h
              refine AW.ifF rfl c22 ?_
              refine AW.skip ?_
              refine block_n ?_
              refine thenA_n ?_
              refine AW.regionL [0, 1, 5] ?_
              generalize hK : thenA _ _ Exit.normal = K
              simp only [go_sem, ↓reduceIte, reduceCtorEq, Nat.reduceAdd, Nat.reduceSub, Nat.reduceMul, Nat.reduceEqDiff, Nat.reduceLT, Nat.reduceLeDiff, Nat.reduceBEq, Int.reduceAdd, Int.reduceSub, Int.reduceLT, Int.reduceLE, Int.reduceEq, Int.reduceToNat, c2, eq_false c4, eq_true c18, eq_false c20, eq_false c22]
              subst hK
              refine thenA_n ?_
              refine ⟨_, (Option.some.inj h).symm, ?_⟩
              refine Ent.can [] [] _ _ rfl (by decide) rfl ?_ (.nil _) ?_
              · exact (((RF.any.pv (by first | rfl | simp only [go_sem]) (by first | rfl | simp [upd_ap, tau, mapT, mapTL, c2, eq_false c4, eq_true c18, eq_false c20, eq_false c22])).pv (by first | rfl | simp only [go_sem]) (by first | rfl | simp [upd_ap, tau, mapT, mapTL, c2, eq_false c4, eq_true c18, eq_false c20, eq_false c22])).pv (by first | rfl | simp only [go_sem]) (by first | rfl | simp [upd_ap, tau, mapT, mapTL, c2, eq_false c4, eq_true c18, eq_false c20, eq_false c22]))
              · exact .nil _
        · rw [if_neg c18] at h
          refine AW.ifF rfl c18 ?_
          refine AW.exit ?_
          refine thenA_x ?_
          refine thenA_x ?_
          refine ⟨_, (Option.some.inj h).symm, _, ?_, rfl, rfl⟩
          refine Ent.can [] [] _ _ rfl (by decide) rfl ?_ (.nil _) ?_
          · exact ((RF.any.pv (by first | rfl | simp only [go_sem]) (by first | rfl | simp [upd_ap, tau, mapT, mapTL, c2, eq_false c4, eq_false c18])).pv (by first | rfl | simp only [go_sem]) (by first | rfl | simp [upd_ap, tau, mapT, mapTL, c2, eq_false c4, eq_false c18]))
          · exact .nil _
      · intro e st' hX
        rcases y24 with y25 | _ <;> dsimp only at h hX
        · obtain ⟨rfl, hf⟩ := hX
          refine ⟨_, Ent.refl, ?_⟩
          refine block_r ?_
          refine thenA_r ?_
          obtain rfl := Option.some.inj h
          exact hf
        · obtain ⟨rfl, rfl⟩ := hX
          refine ⟨_, Ent.refl, ?_⟩
          refine block_x ?_
          refine thenA_n ?_
          obtain ⟨x26, hx26, h⟩ := Option.bind_eq_some_iff.1 h
          refine AW.regL [0, 1, 6, 7] ?_
          generalize hK : AW Try.prog _ _ _ = K
          simp only [go_sem, ↓reduceIte, reduceCtorEq, Nat.reduceAdd, Nat.reduceSub, Nat.reduceMul, Nat.reduceEqDiff, Nat.reduceLT, Nat.reduceLeDiff, Nat.reduceBEq, Int.reduceAdd, Int.reduceSub, Int.reduceLT, Int.reduceLE, Int.reduceEq, Int.reduceToNat, c2, eq_false c4]
          refine arC.of (xok19 a0 a1 x26 hx26) Try.call19 ?_
          simp only [go_sem, ↓reduceIte, reduceCtorEq, Nat.reduceAdd, Nat.reduceSub, Nat.reduceMul, Nat.reduceEqDiff, Nat.reduceLT, Nat.reduceLeDiff, Nat.reduceBEq, Int.reduceAdd, Int.reduceSub, Int.reduceLT, Int.reduceLE, Int.reduceEq, Int.reduceToNat, c2, eq_false c4]
          subst hK
          obtain ⟨x27, hx27, h⟩ := Option.bind_eq_some_iff.1 h
          refine AW.regL [6, 7, 8, 9] ?_
          generalize hK : AW Try.prog _ _ _ = K
          simp only [go_sem, ↓reduceIte, reduceCtorEq, Nat.reduceAdd, Nat.reduceSub, Nat.reduceMul, Nat.reduceEqDiff, Nat.reduceLT, Nat.reduceLeDiff, Nat.reduceBEq, Int.reduceAdd, Int.reduceSub, Int.reduceLT, Int.reduceLE, Int.reduceEq, Int.reduceToNat, c2, eq_false c4]
          refine arC.of (ok22 a0 a1 x27 hx27) Try.call22 ?_
          simp only [go_sem, ↓reduceIte, reduceCtorEq, Nat.reduceAdd, Nat.reduceSub, Nat.reduceMul, Nat.reduceEqDiff, Nat.reduceLT, Nat.reduceLeDiff, Nat.reduceBEq, Int.reduceAdd, Int.reduceSub, Int.reduceLT, Int.reduceLE, Int.reduceEq, Int.reduceToNat, c2, eq_false c4]
          subst hK
          obtain ⟨x28, hx28, h⟩ := Option.bind_eq_some_iff.1 h
          by_cases c29 : x28 = true
          · rw [if_pos c29] at h
            obtain ⟨x30, hx30, h⟩ := Option.bind_eq_some_iff.1 h
            by_cases c31 : x30 = x27.2
            · rw [if_pos c31] at h
              obtain ⟨x32, hx32, h⟩ := Option.bind_eq_some_iff.1 h
              refine AW.regL [4] ?_
              generalize hK : AW Try.prog _ _ _ = K
              simp only [go_sem, ↓reduceIte, reduceCtorEq, Nat.reduceAdd, Nat.reduceSub, Nat.reduceMul, Nat.reduceEqDiff, Nat.reduceLT, Nat.reduceLeDiff, Nat.reduceBEq, Int.reduceAdd, Int.reduceSub, Int.reduceLT, Int.reduceLE, Int.reduceEq, Int.reduceToNat, c2, eq_false c4, c29, eq_true c31]
              refine arC.of (xok21 x26.1 x27.1 x28 hx28) Try.call21 ?_
              simp only [go_sem, ↓reduceIte, reduceCtorEq, Nat.reduceAdd, Nat.reduceSub, Nat.reduceMul, Nat.reduceEqDiff, Nat.reduceLT, Nat.reduceLeDiff, Nat.reduceBEq, Int.reduceAdd, Int.reduceSub, Int.reduceLT, Int.reduceLE, Int.reduceEq, Int.reduceToNat, c2, eq_false c4, c29, eq_true c31]
              refine arC.of (xok20 x26.2 x30 hx30) Try.call20 ?_
              simp only [go_sem, ↓reduceIte, reduceCtorEq, Nat.reduceAdd, Nat.reduceSub, Nat.reduceMul, Nat.reduceEqDiff, Nat.reduceLT, Nat.reduceLeDiff, Nat.reduceBEq, Int.reduceAdd, Int.reduceSub, Int.reduceLT, Int.reduceLE, Int.reduceEq, Int.reduceToNat, c2, eq_false c4, c29, eq_true c31]
              refine arC.of (xok14  x32 hx32) Try.call14 ?_
              simp only [go_sem, ↓reduceIte, reduceCtorEq, Nat.reduceAdd, Nat.reduceSub, Nat.reduceMul, Nat.reduceEqDiff, Nat.reduceLT, Nat.reduceLeDiff, Nat.reduceBEq, Int.reduceAdd, Int.reduceSub, Int.reduceLT, Int.reduceLE, Int.reduceEq, Int.reduceToNat, c2, eq_false c4, c29, eq_true c31]
              subst hK
              refine AW.ret ?_
              obtain rfl := Option.some.inj h
              (simp only [go_sem, ↓reduceIte, reduceCtorEq, Nat.reduceAdd, Nat.reduceSub, Nat.reduceMul, Nat.reduceEqDiff, Nat.reduceLT, Nat.reduceLeDiff, Nat.reduceBEq, Int.reduceAdd, Int.reduceSub, Int.reduceLT, Int.reduceLE, Int.reduceEq, Int.reduceToNat, c2, eq_false c4, c29, eq_true c31, finA, resA, resOf_1, resOf_2, sealV_val, sealV_sl, sealV_ip, sealV_agg, sealV_tup, sealV_own, sealL_nil, sealL_cons] <;> try simp)
            · rw [if_neg c31] at h
              refine AW.regL [4] ?_
              generalize hK : AW Try.prog _ _ _ = K
              simp only [go_sem, ↓reduceIte, reduceCtorEq, Nat.reduceAdd, Nat.reduceSub, Nat.reduceMul, Nat.reduceEqDiff, Nat.reduceLT, Nat.reduceLeDiff, Nat.reduceBEq, Int.reduceAdd, Int.reduceSub, Int.reduceLT, Int.reduceLE, Int.reduceEq, Int.reduceToNat, c2, eq_false c4, c29, eq_false c31]
              refine arC.of (xok21 x26.1 x27.1 x28 hx28) Try.call21 ?_
              simp only [go_sem, ↓reduceIte, reduceCtorEq, Nat.reduceAdd, Nat.reduceSub, Nat.reduceMul, Nat.reduceEqDiff, Nat.reduceLT, Nat.reduceLeDiff, Nat.reduceBEq, Int.reduceAdd, Int.reduceSub, Int.reduceLT, Int.reduceLE, Int.reduceEq, Int.reduceToNat, c2, eq_false c4, c29, eq_false c31]
              refine arC.of (xok20 x26.2 x30 hx30) Try.call20 ?_
              simp only [go_sem, ↓reduceIte, reduceCtorEq, Nat.reduceAdd, Nat.reduceSub, Nat.reduceMul, Nat.reduceEqDiff, Nat.reduceLT, Nat.reduceLeDiff, Nat.reduceBEq, Int.reduceAdd, Int.reduceSub, Int.reduceLT, Int.reduceLE, Int.reduceEq, Int.reduceToNat, c2, eq_false c4, c29, eq_false c31]
              subst hK
              refine AW.ret ?_
              obtain rfl := Option.some.inj h
              (simp only [go_sem, ↓reduceIte, reduceCtorEq, Nat.reduceAdd, Nat.reduceSub, Nat.reduceMul, Nat.reduceEqDiff, Nat.reduceLT, Nat.reduceLeDiff, Nat.reduceBEq, Int.reduceAdd, Int.reduceSub, Int.reduceLT, Int.reduceLE, Int.reduceEq, Int.reduceToNat, c2, eq_false c4, c29, eq_false c31, finA, resA, resOf_1, resOf_2, sealV_val, sealV_sl, sealV_ip, sealV_agg, sealV_tup, sealV_own, sealL_nil, sealL_cons] <;> try simp)
          · rw [if_neg c29] at h
            rw [Bool.not_eq_true] at c29
            refine AW.regL [4] ?_
            generalize hK : AW Try.prog _ _ _ = K
            simp only [go_sem, ↓reduceIte, reduceCtorEq, Nat.reduceAdd, Nat.reduceSub, Nat.reduceMul, Nat.reduceEqDiff, Nat.reduceLT, Nat.reduceLeDiff, Nat.reduceBEq, Int.reduceAdd, Int.reduceSub, Int.reduceLT, Int.reduceLE, Int.reduceEq, Int.reduceToNat, c2, eq_false c4, c29]
            refine arC.of (xok21 x26.1 x27.1 x28 hx28) Try.call21 ?_
            simp only [go_sem, ↓reduceIte, reduceCtorEq, Nat.reduceAdd, Nat.reduceSub, Nat.reduceMul, Nat.reduceEqDiff, Nat.reduceLT, Nat.reduceLeDiff, Nat.reduceBEq, Int.reduceAdd, Int.reduceSub, Int.reduceLT, Int.reduceLE, Int.reduceEq, Int.reduceToNat, c2, eq_false c4, c29]
            subst hK
            refine AW.ret ?_
            obtain rfl := Option.some.inj h
            (simp only [go_sem, ↓reduceIte, reduceCtorEq, Nat.reduceAdd, Nat.reduceSub, Nat.reduceMul, Nat.reduceEqDiff, Nat.reduceLT, Nat.reduceLeDiff, Nat.reduceBEq, Int.reduceAdd, Int.reduceSub, Int.reduceLT, Int.reduceLE, Int.reduceEq, Int.reduceToNat, c2, eq_false c4, c29, finA, resA, resOf_1, resOf_2, sealV_val, sealV_sl, sealV_ip, sealV_agg, sealV_tup, sealV_own, sealL_nil, sealL_cons] <;> try simp)
end Go.Proofs.Y1
