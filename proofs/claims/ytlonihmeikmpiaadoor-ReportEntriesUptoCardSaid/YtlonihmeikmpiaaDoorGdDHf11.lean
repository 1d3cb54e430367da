import Derived.Test.YtlonihmeikmpiaaDoorGdDH
set_option linter.all false
set_option linter.unusedVariables false
set_option linter.unusedSimpArgs false
set_option linter.all false
set_option maxRecDepth 8000
set_option maxHeartbeats 1000000
namespace Go.Proofs.Yd
open Go.Gm
namespace Au
noncomputable def f11_s1 (a0 : Entry) (a1 : Entry) : Int → Option (Int ⊕ (Bool ⊕ Unit))
  | s1_0 => (if s1_0 < (a0.Sums.length : Int) then ((ix a0.Sums s1_0).bind fun x23 => ((ix a1.Sums s1_0).bind fun x24 => (if ((List.range' 0 32).all fun i => decide (A32.get x23 i = A32.get x24 i)) = true then some (.inl (IntKind.i64.wrap (s1_0 + 1))) else some (.inr (.inl false))))) else some (.inr (.inr ())))
noncomputable def f11 (a0 : Entry) (a1 : Entry) : Option Bool := (if a0.Kind = a1.Kind then (if a0.A = a1.A then (if a0.B = a1.B then (if a0.C = a1.C then (if (a0.Sums.length : Int) = (a1.Sums.length : Int) then ((loopO (f11_s1 a0 a1) 0).bind fun y26 => match y26 with | .inl y27 => some y27 | .inr _ => some true) else some false) else some false) else some false) else some false) else some false)
theorem ok11 (a0 : Entry) (a1 : Entry) (r : Bool) (h : f11 a0 a1 = some r) : PC Tryd.prog 11 [.agg (encEntry a0), .agg (encEntry a1)] (.val (.bool r)) := by
  rw [f11] at h
  refine pc_of8 (N := 59) (rs := [.tmp 4]) Tryd.func11 rfl rfl rfl (Nat.le_of_ble_eq_true rfl) ?_
  refine AW.regL [2, 3] ?_
  generalize hK : AW Tryd.prog _ _ _ = K
  simp only [go_sem, ↓reduceIte, reduceCtorEq, Nat.reduceAdd, Nat.reduceSub, Nat.reduceMul, Nat.reduceEqDiff, Nat.reduceLT, Nat.reduceLeDiff, Nat.reduceBEq, Int.reduceAdd, Int.reduceSub, Int.reduceLT, Int.reduceLE, Int.reduceEq, Int.reduceToNat]
  subst hK
  refine AW.seq ?_
  by_cases c6 : a0.Kind = a1.Kind
  · rw [if_pos c6] at h
    by_cases c7 : a0.A = a1.A
    · rw [if_pos c7] at h
      by_cases c8 : a0.B = a1.B
      · rw [if_pos c8] at h
        by_cases c9 : a0.C = a1.C
        · rw [if_pos c9] at h
          refine AW.regL [2, 3, 40] ?_
          generalize hK : AW Tryd.prog _ _ _ = K
          simp only [go_sem, ↓reduceIte, reduceCtorEq, Nat.reduceAdd, Nat.reduceSub, Nat.reduceMul, Nat.reduceEqDiff, Nat.reduceLT, Nat.reduceLeDiff, Nat.reduceBEq, Int.reduceAdd, Int.reduceSub, Int.reduceLT, Int.reduceLE, Int.reduceEq, Int.reduceToNat, eq_true c6, eq_true c7, eq_true c8, eq_true c9]
          subst hK
          by_cases c10 : (a0.Sums.length : Int) = (a1.Sums.length : Int)
          · rw [if_pos c10] at h
            refine AW.ifF rfl (fun q => q c10) ?_
            refine AW.skip ?_
            refine thenA_n ?_
            refine AW.seq ?_
            refine AW.regL [2, 3, 5] ?_
            generalize hK : AW Tryd.prog _ _ _ = K
            simp only [go_sem, ↓reduceIte, reduceCtorEq, Nat.reduceAdd, Nat.reduceSub, Nat.reduceMul, Nat.reduceEqDiff, Nat.reduceLT, Nat.reduceLeDiff, Nat.reduceBEq, Int.reduceAdd, Int.reduceSub, Int.reduceLT, Int.reduceLE, Int.reduceEq, Int.reduceToNat, eq_true c6, eq_true c7, eq_true c8, eq_true c9, eq_true c10]
            subst hK
            refine AW.block ?_
            obtain ⟨y26, hy26, h⟩ := Option.bind_eq_some_iff.1 h
            refine AW.loopO (fun s => ⟨(upd (upd (upd anyF 2 (.ptr 8 0 0)) 3 (.ptr 9 0 0)) 5 (.val (.int .i64 s))), hpL [] [some (.row 5 true [[.val (.int .i64 a0.Kind), .val (.int .i64 a0.A), .val (.int .i64 a0.B), .val (.int .i64 a0.C), .sl (List.map enc46 a0.Sums)]]), some (.row 5 true [[.val (.int .i64 a1.Kind), .val (.int .i64 a1.A), .val (.int .i64 a1.B), .val (.int .i64 a1.C), .sl (List.map enc46 a1.Sums)]])], 10⟩) (fun y e st' => match y with | .inl z => e = Exit.ret ∧ finA Tryd.prog [.tmp 4] (.val (.bool z)) .ret st' | .inr z => e = Exit.exit 0 ∧ st' = ⟨anyF, hpL [] [], 8⟩) hy26 ?_ ?_ ?_
            · refine Ent.can [8, 16] _ _ _ rfl (by first | decide | simp) rfl ?_ ?_ ?_
              · exact (((RF.any.pp (by decide) (by first | rfl | simp [upd_ap, hpL_ap, tau, mapT, mapTL, bytesI_len, eq_true c6, eq_true c7, eq_true c8, eq_true c9, eq_true c10])).pp (by decide) (by first | rfl | simp [upd_ap, hpL_ap, tau, mapT, mapTL, bytesI_len, eq_true c6, eq_true c7, eq_true c8, eq_true c9, eq_true c10])).pv (by first | rfl | simp only [go_sem]) (by first | rfl | simp [upd_ap, hpL_ap, tau, mapT, mapTL, bytesI_len, eq_true c6, eq_true c7, eq_true c8, eq_true c9, eq_true c10]))
              · exact .nil _
              · exact .cons (.eq (by first | rfl | simp only [go_sem]) (by first | rfl | simp [upd_ap, hpL_ap, tau, mapT, mapTL, bytesI_len, eq_true c6, eq_true c7, eq_true c8, eq_true c9, eq_true c10])) (.cons (.eq (by first | rfl | simp only [go_sem]) (by first | rfl | simp [upd_ap, hpL_ap, tau, mapT, mapTL, bytesI_len, eq_true c6, eq_true c7, eq_true c8, eq_true c9, eq_true c10])) (.nil _))
            · clear h hy26
              rintro s1_0 x h
              rw [f11_s1] at h
              refine AW.seq ?_
              refine AW.regL [2, 3, 5, 45] ?_
              generalize hK : AW Tryd.prog _ _ _ = K
              simp only [go_sem, ↓reduceIte, reduceCtorEq, Nat.reduceAdd, Nat.reduceSub, Nat.reduceMul, Nat.reduceEqDiff, Nat.reduceLT, Nat.reduceLeDiff, Nat.reduceBEq, Int.reduceAdd, Int.reduceSub, Int.reduceLT, Int.reduceLE, Int.reduceEq, Int.reduceToNat, eq_true c6, eq_true c7, eq_true c8, eq_true c9, eq_true c10]
              subst hK
              by_cases c22 : s1_0 < (a0.Sums.length : Int)
              · rw [if_pos c22] at h
                refine AW.ifT rfl c22 ?_
                refine AW.skip ?_
                refine thenA_n ?_
                refine AW.seq ?_
                refine AW.block ?_
                obtain ⟨x23, hx23, h⟩ := Option.bind_eq_some_iff.1 h
                obtain ⟨hx23a, hx23b⟩ := ix_some.1 hx23
                obtain ⟨x24, hx24, h⟩ := Option.bind_eq_some_iff.1 h
                obtain ⟨hx24a, hx24b⟩ := ix_some.1 hx24
                refine AW.regdL [2, 3, 5, 58] [[], [0], [], [0, 1, 2], [0, 1, 2, 3], [], [5], [], [5, 6, 7], [5, 6, 7, 8], [0, 1, 2, 3, 4, 5, 6, 7, 8, 9]] [0, 1, 2, 3, 4, 5, 6, 7, 8, 9, 10] noFt (fun _ _ _ h => by simp [noFt] at h) draws (by kernel_rfl) (by kernel_rfl) ?_
                generalize hK : AW Tryd.prog _ _ _ = K
                simp only [go_sem, ↓reduceIte, reduceCtorEq, Nat.reduceAdd, Nat.reduceSub, Nat.reduceMul, Nat.reduceEqDiff, Nat.reduceLT, Nat.reduceLeDiff, Nat.reduceBEq, Int.reduceAdd, Int.reduceSub, Int.reduceLT, Int.reduceLE, Int.reduceEq, Int.reduceToNat, eq_true c6, eq_true c7, eq_true c8, eq_true c9, eq_true c10, eq_true c22, natOf_le hx23a, hx23b, natOf_le hx24a, hx24b, binV_narr (xs := #[.int .u8 x23.e0, .int .u8 x23.e1, .int .u8 x23.e2, .int .u8 x23.e3, .int .u8 x23.e4, .int .u8 x23.e5, .int .u8 x23.e6, .int .u8 x23.e7, .int .u8 x23.e8, .int .u8 x23.e9, .int .u8 x23.e10, .int .u8 x23.e11, .int .u8 x23.e12, .int .u8 x23.e13, .int .u8 x23.e14, .int .u8 x23.e15, .int .u8 x23.e16, .int .u8 x23.e17, .int .u8 x23.e18, .int .u8 x23.e19, .int .u8 x23.e20, .int .u8 x23.e21, .int .u8 x23.e22, .int .u8 x23.e23, .int .u8 x23.e24, .int .u8 x23.e25, .int .u8 x23.e26, .int .u8 x23.e27, .int .u8 x23.e28, .int .u8 x23.e29, .int .u8 x23.e30, .int .u8 x23.e31]) (ys := #[.int .u8 x24.e0, .int .u8 x24.e1, .int .u8 x24.e2, .int .u8 x24.e3, .int .u8 x24.e4, .int .u8 x24.e5, .int .u8 x24.e6, .int .u8 x24.e7, .int .u8 x24.e8, .int .u8 x24.e9, .int .u8 x24.e10, .int .u8 x24.e11, .int .u8 x24.e12, .int .u8 x24.e13, .int .u8 x24.e14, .int .u8 x24.e15, .int .u8 x24.e16, .int .u8 x24.e17, .int .u8 x24.e18, .int .u8 x24.e19, .int .u8 x24.e20, .int .u8 x24.e21, .int .u8 x24.e22, .int .u8 x24.e23, .int .u8 x24.e24, .int .u8 x24.e25, .int .u8 x24.e26, .int .u8 x24.e27, .int .u8 x24.e28, .int .u8 x24.e29, .int .u8 x24.e30, .int .u8 x24.e31]) (a := A32.get x23) (b := A32.get x24) ar47 (by kernel_rfl) sz5 (by kernel_rfl) (fun i hi => all32 (p := fun i => (#[.int .u8 x23.e0, .int .u8 x23.e1, .int .u8 x23.e2, .int .u8 x23.e3, .int .u8 x23.e4, .int .u8 x23.e5, .int .u8 x23.e6, .int .u8 x23.e7, .int .u8 x23.e8, .int .u8 x23.e9, .int .u8 x23.e10, .int .u8 x23.e11, .int .u8 x23.e12, .int .u8 x23.e13, .int .u8 x23.e14, .int .u8 x23.e15, .int .u8 x23.e16, .int .u8 x23.e17, .int .u8 x23.e18, .int .u8 x23.e19, .int .u8 x23.e20, .int .u8 x23.e21, .int .u8 x23.e22, .int .u8 x23.e23, .int .u8 x23.e24, .int .u8 x23.e25, .int .u8 x23.e26, .int .u8 x23.e27, .int .u8 x23.e28, .int .u8 x23.e29, .int .u8 x23.e30, .int .u8 x23.e31] : Array Value)[i]? = some (.int .u8 (A32.get x23 i)) ∧ (#[.int .u8 x24.e0, .int .u8 x24.e1, .int .u8 x24.e2, .int .u8 x24.e3, .int .u8 x24.e4, .int .u8 x24.e5, .int .u8 x24.e6, .int .u8 x24.e7, .int .u8 x24.e8, .int .u8 x24.e9, .int .u8 x24.e10, .int .u8 x24.e11, .int .u8 x24.e12, .int .u8 x24.e13, .int .u8 x24.e14, .int .u8 x24.e15, .int .u8 x24.e16, .int .u8 x24.e17, .int .u8 x24.e18, .int .u8 x24.e19, .int .u8 x24.e20, .int .u8 x24.e21, .int .u8 x24.e22, .int .u8 x24.e23, .int .u8 x24.e24, .int .u8 x24.e25, .int .u8 x24.e26, .int .u8 x24.e27, .int .u8 x24.e28, .int .u8 x24.e29, .int .u8 x24.e30, .int .u8 x24.e31] : Array Value)[i]? = some (.int .u8 (A32.get x24 i))) ⟨rfl, rfl⟩ ⟨rfl, rfl⟩ ⟨rfl, rfl⟩ ⟨rfl, rfl⟩ ⟨rfl, rfl⟩ ⟨rfl, rfl⟩ ⟨rfl, rfl⟩ ⟨rfl, rfl⟩ ⟨rfl, rfl⟩ ⟨rfl, rfl⟩ ⟨rfl, rfl⟩ ⟨rfl, rfl⟩ ⟨rfl, rfl⟩ ⟨rfl, rfl⟩ ⟨rfl, rfl⟩ ⟨rfl, rfl⟩ ⟨rfl, rfl⟩ ⟨rfl, rfl⟩ ⟨rfl, rfl⟩ ⟨rfl, rfl⟩ ⟨rfl, rfl⟩ ⟨rfl, rfl⟩ ⟨rfl, rfl⟩ ⟨rfl, rfl⟩ ⟨rfl, rfl⟩ ⟨rfl, rfl⟩ ⟨rfl, rfl⟩ ⟨rfl, rfl⟩ ⟨rfl, rfl⟩ ⟨rfl, rfl⟩ ⟨rfl, rfl⟩ ⟨rfl, rfl⟩ hi)]
                subst hK
                by_cases c25 : ((List.range' 0 32).all fun i => decide (A32.get x23 i = A32.get x24 i)) = true
                · rw [if_pos c25] at h
                  refine AW.ifBF rfl (by rw [c25]; rfl) ?_
                  refine AW.skip ?_
                  refine block_n ?_
                  refine thenA_n ?_
                  refine AW.regionL [2, 3, 5] ?_
                  generalize hK : thenA _ _ Exit.normal = K
                  simp only [go_sem, ↓reduceIte, reduceCtorEq, Nat.reduceAdd, Nat.reduceSub, Nat.reduceMul, Nat.reduceEqDiff, Nat.reduceLT, Nat.reduceLeDiff, Nat.reduceBEq, Int.reduceAdd, Int.reduceSub, Int.reduceLT, Int.reduceLE, Int.reduceEq, Int.reduceToNat, eq_true c6, eq_true c7, eq_true c8, eq_true c9, eq_true c10, eq_true c22, c25]
                  subst hK
                  refine thenA_n ?_
                  refine ⟨_, (Option.some.inj h).symm, ?_⟩
                  refine Ent.can [8, 9] _ _ _ rfl (by first | decide | simp) rfl ?_ ?_ ?_
                  · exact (((RF.any.pp (by decide) (by first | rfl | simp [upd_ap, hpL_ap, tau, mapT, mapTL, bytesI_len, eq_true c6, eq_true c7, eq_true c8, eq_true c9, eq_true c10, eq_true c22, c25])).pp (by decide) (by first | rfl | simp [upd_ap, hpL_ap, tau, mapT, mapTL, bytesI_len, eq_true c6, eq_true c7, eq_true c8, eq_true c9, eq_true c10, eq_true c22, c25])).pv (by first | rfl | simp only [go_sem]) (by first | rfl | simp [upd_ap, hpL_ap, tau, mapT, mapTL, bytesI_len, eq_true c6, eq_true c7, eq_true c8, eq_true c9, eq_true c10, eq_true c22, c25]))
                  · exact .nil _
                  · exact .cons (.eq (by first | rfl | simp only [go_sem]) (by first | rfl | simp [upd_ap, hpL_ap, tau, mapT, mapTL, bytesI_len, eq_true c6, eq_true c7, eq_true c8, eq_true c9, eq_true c10, eq_true c22, c25])) (.cons (.eq (by first | rfl | simp only [go_sem]) (by first | rfl | simp [upd_ap, hpL_ap, tau, mapT, mapTL, bytesI_len, eq_true c6, eq_true c7, eq_true c8, eq_true c9, eq_true c10, eq_true c22, c25])) (.nil _))
                · rw [if_neg c25] at h
                  rw [Bool.not_eq_true] at c25
                  refine AW.ifBT rfl (by rw [c25]; rfl) ?_
                  refine AW.regL [4] ?_
                  generalize hK : AW Tryd.prog _ _ _ = K
                  simp only [go_sem, ↓reduceIte, reduceCtorEq, Nat.reduceAdd, Nat.reduceSub, Nat.reduceMul, Nat.reduceEqDiff, Nat.reduceLT, Nat.reduceLeDiff, Nat.reduceBEq, Int.reduceAdd, Int.reduceSub, Int.reduceLT, Int.reduceLE, Int.reduceEq, Int.reduceToNat, eq_true c6, eq_true c7, eq_true c8, eq_true c9, eq_true c10, eq_true c22, c25]
                  subst hK
                  refine AW.ret ?_
                  refine block_r ?_
                  refine thenA_r ?_
                  refine thenA_r ?_
                  refine ⟨_, (Option.some.inj h).symm, _, Ent.refl, rfl, ?_⟩
                  (simp only [go_sem, ↓reduceIte, reduceCtorEq, Nat.reduceAdd, Nat.reduceSub, Nat.reduceMul, Nat.reduceEqDiff, Nat.reduceLT, Nat.reduceLeDiff, Nat.reduceBEq, Int.reduceAdd, Int.reduceSub, Int.reduceLT, Int.reduceLE, Int.reduceEq, Int.reduceToNat, eq_true c6, eq_true c7, eq_true c8, eq_true c9, eq_true c10, eq_true c22, c25, finA, resA, resOf_1, resOf_2, sealV_val, sealV_sl, sealV_ip, sealV_agg, sealV_tup, sealV_own, sealL_nil, sealL_cons, sealV_clo, resOf_clo] <;> try simp)
              · rw [if_neg c22] at h
                refine AW.ifF rfl c22 ?_
                refine AW.exit ?_
                refine thenA_x ?_
                refine thenA_x ?_
                refine ⟨_, (Option.some.inj h).symm, _, ?_, rfl, rfl⟩
                refine Ent.can [] _ _ _ rfl (by first | decide | simp) rfl ?_ ?_ ?_
                · exact RF.any
                · exact .nil _
                · exact .nil _
            · intro e st' hX
              rcases y26 with y27 | _ <;> dsimp only at h hX
              · obtain ⟨rfl, hf⟩ := hX
                refine ⟨_, Ent.refl, ?_⟩
                refine block_r ?_
                refine thenA_r ?_
                obtain rfl := Option.some.inj h
                exact hf
              · obtain ⟨rfl, rfl⟩ := hX
                refine ⟨_, Ent.refl, ?_⟩
                refine block_x ?_
                refine thenA_n ?_
                refine AW.regL [4] ?_
                generalize hK : AW Tryd.prog _ _ _ = K
                simp only [go_sem, ↓reduceIte, reduceCtorEq, Nat.reduceAdd, Nat.reduceSub, Nat.reduceMul, Nat.reduceEqDiff, Nat.reduceLT, Nat.reduceLeDiff, Nat.reduceBEq, Int.reduceAdd, Int.reduceSub, Int.reduceLT, Int.reduceLE, Int.reduceEq, Int.reduceToNat, eq_true c6, eq_true c7, eq_true c8, eq_true c9, eq_true c10]
                subst hK
                refine AW.ret ?_
                obtain rfl := Option.some.inj h
                (simp only [go_sem, ↓reduceIte, reduceCtorEq, Nat.reduceAdd, Nat.reduceSub, Nat.reduceMul, Nat.reduceEqDiff, Nat.reduceLT, Nat.reduceLeDiff, Nat.reduceBEq, Int.reduceAdd, Int.reduceSub, Int.reduceLT, Int.reduceLE, Int.reduceEq, Int.reduceToNat, eq_true c6, eq_true c7, eq_true c8, eq_true c9, eq_true c10, finA, resA, resOf_1, resOf_2, sealV_val, sealV_sl, sealV_ip, sealV_agg, sealV_tup, sealV_own, sealL_nil, sealL_cons, sealV_clo, resOf_clo] <;> try simp)
          · rw [if_neg c10] at h
            refine AW.ifT rfl c10 ?_
            refine AW.regL [4] ?_
            generalize hK : AW Tryd.prog _ _ _ = K
            simp only [go_sem, ↓reduceIte, reduceCtorEq, Nat.reduceAdd, Nat.reduceSub, Nat.reduceMul, Nat.reduceEqDiff, Nat.reduceLT, Nat.reduceLeDiff, Nat.reduceBEq, Int.reduceAdd, Int.reduceSub, Int.reduceLT, Int.reduceLE, Int.reduceEq, Int.reduceToNat, eq_true c6, eq_true c7, eq_true c8, eq_true c9, eq_false c10]
            subst hK
            refine AW.ret ?_
            refine thenA_r ?_
            obtain rfl := Option.some.inj h
            (simp only [go_sem, ↓reduceIte, reduceCtorEq, Nat.reduceAdd, Nat.reduceSub, Nat.reduceMul, Nat.reduceEqDiff, Nat.reduceLT, Nat.reduceLeDiff, Nat.reduceBEq, Int.reduceAdd, Int.reduceSub, Int.reduceLT, Int.reduceLE, Int.reduceEq, Int.reduceToNat, eq_true c6, eq_true c7, eq_true c8, eq_true c9, eq_false c10, finA, resA, resOf_1, resOf_2, sealV_val, sealV_sl, sealV_ip, sealV_agg, sealV_tup, sealV_own, sealL_nil, sealL_cons, sealV_clo, resOf_clo] <;> try simp)
        · rw [if_neg c9] at h
          refine AW.regL [2, 3, 40] ?_
          generalize hK : AW Tryd.prog _ _ _ = K
          simp only [go_sem, ↓reduceIte, reduceCtorEq, Nat.reduceAdd, Nat.reduceSub, Nat.reduceMul, Nat.reduceEqDiff, Nat.reduceLT, Nat.reduceLeDiff, Nat.reduceBEq, Int.reduceAdd, Int.reduceSub, Int.reduceLT, Int.reduceLE, Int.reduceEq, Int.reduceToNat, eq_true c6, eq_true c7, eq_true c8, eq_false c9]
          subst hK
          refine AW.ifBT rfl rfl ?_
          refine AW.regL [4] ?_
          generalize hK : AW Tryd.prog _ _ _ = K
          simp only [go_sem, ↓reduceIte, reduceCtorEq, Nat.reduceAdd, Nat.reduceSub, Nat.reduceMul, Nat.reduceEqDiff, Nat.reduceLT, Nat.reduceLeDiff, Nat.reduceBEq, Int.reduceAdd, Int.reduceSub, Int.reduceLT, Int.reduceLE, Int.reduceEq, Int.reduceToNat, eq_true c6, eq_true c7, eq_true c8, eq_false c9]
          subst hK
          refine AW.ret ?_
          refine thenA_r ?_
          obtain rfl := Option.some.inj h
          (simp only [go_sem, ↓reduceIte, reduceCtorEq, Nat.reduceAdd, Nat.reduceSub, Nat.reduceMul, Nat.reduceEqDiff, Nat.reduceLT, Nat.reduceLeDiff, Nat.reduceBEq, Int.reduceAdd, Int.reduceSub, Int.reduceLT, Int.reduceLE, Int.reduceEq, Int.reduceToNat, eq_true c6, eq_true c7, eq_true c8, eq_false c9, finA, resA, resOf_1, resOf_2, sealV_val, sealV_sl, sealV_ip, sealV_agg, sealV_tup, sealV_own, sealL_nil, sealL_cons, sealV_clo, resOf_clo] <;> try simp)
      · rw [if_neg c8] at h
        refine AW.regL [2, 3, 40] ?_
        generalize hK : AW Tryd.prog _ _ _ = K
        simp only [go_sem, ↓reduceIte, reduceCtorEq, Nat.reduceAdd, Nat.reduceSub, Nat.reduceMul, Nat.reduceEqDiff, Nat.reduceLT, Nat.reduceLeDiff, Nat.reduceBEq, Int.reduceAdd, Int.reduceSub, Int.reduceLT, Int.reduceLE, Int.reduceEq, Int.reduceToNat, eq_true c6, eq_true c7, eq_false c8]
        subst hK
        refine AW.ifBT rfl rfl ?_
        refine AW.regL [4] ?_
        generalize hK : AW Tryd.prog _ _ _ = K
        simp only [go_sem, ↓reduceIte, reduceCtorEq, Nat.reduceAdd, Nat.reduceSub, Nat.reduceMul, Nat.reduceEqDiff, Nat.reduceLT, Nat.reduceLeDiff, Nat.reduceBEq, Int.reduceAdd, Int.reduceSub, Int.reduceLT, Int.reduceLE, Int.reduceEq, Int.reduceToNat, eq_true c6, eq_true c7, eq_false c8]
        subst hK
        refine AW.ret ?_
        refine thenA_r ?_
        obtain rfl := Option.some.inj h
        (simp only [go_sem, ↓reduceIte, reduceCtorEq, Nat.reduceAdd, Nat.reduceSub, Nat.reduceMul, Nat.reduceEqDiff, Nat.reduceLT, Nat.reduceLeDiff, Nat.reduceBEq, Int.reduceAdd, Int.reduceSub, Int.reduceLT, Int.reduceLE, Int.reduceEq, Int.reduceToNat, eq_true c6, eq_true c7, eq_false c8, finA, resA, resOf_1, resOf_2, sealV_val, sealV_sl, sealV_ip, sealV_agg, sealV_tup, sealV_own, sealL_nil, sealL_cons, sealV_clo, resOf_clo] <;> try simp)
    · rw [if_neg c7] at h
      refine AW.regL [2, 3, 40] ?_
      generalize hK : AW Tryd.prog _ _ _ = K
      simp only [go_sem, ↓reduceIte, reduceCtorEq, Nat.reduceAdd, Nat.reduceSub, Nat.reduceMul, Nat.reduceEqDiff, Nat.reduceLT, Nat.reduceLeDiff, Nat.reduceBEq, Int.reduceAdd, Int.reduceSub, Int.reduceLT, Int.reduceLE, Int.reduceEq, Int.reduceToNat, eq_true c6, eq_false c7]
      subst hK
      refine AW.ifBT rfl rfl ?_
      refine AW.regL [4] ?_
      generalize hK : AW Tryd.prog _ _ _ = K
      simp only [go_sem, ↓reduceIte, reduceCtorEq, Nat.reduceAdd, Nat.reduceSub, Nat.reduceMul, Nat.reduceEqDiff, Nat.reduceLT, Nat.reduceLeDiff, Nat.reduceBEq, Int.reduceAdd, Int.reduceSub, Int.reduceLT, Int.reduceLE, Int.reduceEq, Int.reduceToNat, eq_true c6, eq_false c7]
      subst hK
      refine AW.ret ?_
      refine thenA_r ?_
      obtain rfl := Option.some.inj h
      (simp only [go_sem, ↓reduceIte, reduceCtorEq, Nat.reduceAdd, Nat.reduceSub, Nat.reduceMul, Nat.reduceEqDiff, Nat.reduceLT, Nat.reduceLeDiff, Nat.reduceBEq, Int.reduceAdd, Int.reduceSub, Int.reduceLT, Int.reduceLE, Int.reduceEq, Int.reduceToNat, eq_true c6, eq_false c7, finA, resA, resOf_1, resOf_2, sealV_val, sealV_sl, sealV_ip, sealV_agg, sealV_tup, sealV_own, sealL_nil, sealL_cons, sealV_clo, resOf_clo] <;> try simp)
  · rw [if_neg c6] at h
    refine AW.regL [2, 3, 40] ?_
    generalize hK : AW Tryd.prog _ _ _ = K
    simp only [go_sem, ↓reduceIte, reduceCtorEq, Nat.reduceAdd, Nat.reduceSub, Nat.reduceMul, Nat.reduceEqDiff, Nat.reduceLT, Nat.reduceLeDiff, Nat.reduceBEq, Int.reduceAdd, Int.reduceSub, Int.reduceLT, Int.reduceLE, Int.reduceEq, Int.reduceToNat, eq_false c6]
    subst hK
    refine AW.ifBT rfl rfl ?_
    refine AW.regL [4] ?_
    generalize hK : AW Tryd.prog _ _ _ = K
    simp only [go_sem, ↓reduceIte, reduceCtorEq, Nat.reduceAdd, Nat.reduceSub, Nat.reduceMul, Nat.reduceEqDiff, Nat.reduceLT, Nat.reduceLeDiff, Nat.reduceBEq, Int.reduceAdd, Int.reduceSub, Int.reduceLT, Int.reduceLE, Int.reduceEq, Int.reduceToNat, eq_false c6]
    subst hK
    refine AW.ret ?_
    refine thenA_r ?_
    obtain rfl := Option.some.inj h
    (simp only [go_sem, ↓reduceIte, reduceCtorEq, Nat.reduceAdd, Nat.reduceSub, Nat.reduceMul, Nat.reduceEqDiff, Nat.reduceLT, Nat.reduceLeDiff, Nat.reduceBEq, Int.reduceAdd, Int.reduceSub, Int.reduceLT, Int.reduceLE, Int.reduceEq, Int.reduceToNat, eq_false c6, finA, resA, resOf_1, resOf_2, sealV_val, sealV_sl, sealV_ip, sealV_agg, sealV_tup, sealV_own, sealL_nil, sealL_cons, sealV_clo, resOf_clo] <;> try simp)
end Au
end Go.Proofs.Yd
