import Derived.Test.YtlonihmeikmpiaaGqDT
import Derived.Test.YtlonihmeikmpiaaGqDTf64
import Derived.Test.YtlonihmeikmpiaaGqDTf65
import Derived.Test.YtlonihmeikmpiaaGqDTf66
set_option linter.all false
set_option linter.unusedVariables false
set_option linter.unusedSimpArgs false
set_option linter.all false
set_option maxRecDepth 8000
set_option maxHeartbeats 1000000
namespace Go.Proofs.Y1
open Go.Gm
namespace Au
noncomputable def f15_j6 (s1_0 : List Res) (s1_1 : List Res) (s1_2 : List Change) : Unit → Option (((List Res) × (List Res) × (List Change)) ⊕ (List Change))
  | _ => ((s1_0[0]?).bind fun x181 => ((s1_1[0]?).bind fun x182 => ((f66 x181 x182).bind fun x183 => (if x183.2 = true then ((f65 x182).bind fun x185 => ((appO? s1_2 [⟨x183.1, x185⟩]).bind fun x186 => ((cutO? s1_0 1 (s1_0.length : Int)).bind fun x187 => ((cutO? s1_1 1 (s1_1.length : Int)).bind fun x188 => some (.inl (x187, x188, x186)))))) else ((cutO? s1_0 1 (s1_0.length : Int)).bind fun x189 => ((cutO? s1_1 1 (s1_1.length : Int)).bind fun x190 => some (.inl (x189, x190, s1_2))))))))
noncomputable def f15_j5 (s1_0 : List Res) (s1_1 : List Res) (s1_2 : List Change) : Unit → Option (((List Res) × (List Res) × (List Change)) ⊕ (List Change))
  | _ => (if (s1_1.length : Int) = 0 then ((s1_0[0]?).bind fun x192 => ((f65 x192).bind fun x193 => ((appO? s1_2 [⟨0, x193⟩]).bind fun x194 => ((cutO? s1_0 1 (s1_0.length : Int)).bind fun x195 => some (.inl (x195, s1_1, x194)))))) else (if 0 < (s1_0.length : Int) then ((s1_0[0]?).bind fun x197 => ((s1_1[0]?).bind fun x198 => (if (sLt x197.Key x198.Key) = true then ((f65 x197).bind fun x200 => ((appO? s1_2 [⟨0, x200⟩]).bind fun x201 => ((cutO? s1_0 1 (s1_0.length : Int)).bind fun x202 => some (.inl (x202, s1_1, x201))))) else (if (s1_0.length : Int) = 0 then ((f65 x198).bind fun x204 => ((appO? s1_2 [⟨1, x204⟩]).bind fun x205 => ((cutO? s1_1 1 (s1_1.length : Int)).bind fun x206 => some (.inl (s1_0, x206, x205))))) else (if (sLt x198.Key x197.Key) = true then ((f65 x198).bind fun x208 => ((appO? s1_2 [⟨1, x208⟩]).bind fun x209 => ((cutO? s1_1 1 (s1_1.length : Int)).bind fun x210 => some (.inl (s1_0, x210, x209))))) else f15_j6 s1_0 s1_1 s1_2 ()))))) else (if (s1_0.length : Int) = 0 then ((s1_1[0]?).bind fun x212 => ((f65 x212).bind fun x213 => ((appO? s1_2 [⟨1, x213⟩]).bind fun x214 => ((cutO? s1_1 1 (s1_1.length : Int)).bind fun x215 => some (.inl (s1_0, x215, x214)))))) else ((s1_1[0]?).bind fun x216 => ((s1_0[0]?).bind fun x217 => (if (sLt x216.Key x217.Key) = true then ((f65 x216).bind fun x219 => ((appO? s1_2 [⟨1, x219⟩]).bind fun x220 => ((cutO? s1_1 1 (s1_1.length : Int)).bind fun x221 => some (.inl (s1_0, x221, x220))))) else f15_j6 s1_0 s1_1 s1_2 ()))))))
noncomputable def f15_s1 : (List Res) × (List Res) × (List Change) → Option (((List Res) × (List Res) × (List Change)) ⊕ (List Change))
  | (s1_0, s1_1, s1_2) => (if 0 < (s1_0.length : Int) then f15_j5 s1_0 s1_1 s1_2 () else (if 0 < (s1_1.length : Int) then f15_j5 s1_0 s1_1 s1_2 () else some (.inr s1_2)))
noncomputable def f15 (a0 : List Res) (a1 : List Res) : Option (List Change) := ((f64 a0).bind fun x5 => (if x5 = true then ((f64 a1).bind fun x7 => (if x7 = true then ((loopO f15_s1 (a0, a1, [])).bind fun y225 => some y225) else some [])) else some []))
theorem ok15 (a0 : List Res) (a1 : List Res) (r : (List Change)) (h : f15 a0 a1 = some r) : PC Try.prog 15 [.sl (List.map encRes a0), .sl (List.map encRes a1)] (.fr 4 (List.map encChange r)) := by
  rw [f15] at h
  refine pc_of8 (N := 104) (rs := [.tmp 4]) Try.func15 rfl rfl rfl (Nat.le_of_ble_eq_true rfl) ?_
  refine AW.regL [0, 1] ?_
  generalize hK : AW Try.prog _ _ _ = K
  simp only [go_sem, ↓reduceIte, reduceCtorEq, Nat.reduceAdd, Nat.reduceSub, Nat.reduceMul, Nat.reduceEqDiff, Nat.reduceLT, Nat.reduceLeDiff, Nat.reduceBEq, Int.reduceAdd, Int.reduceSub, Int.reduceLT, Int.reduceLE, Int.reduceEq, Int.reduceToNat]
  subst hK
  refine AW.scope ?_
  refine AW.seq ?_
  obtain ⟨x5, hx5, h⟩ := Option.bind_eq_some_iff.1 h
  by_cases c6 : x5 = true
  · rw [if_pos c6] at h
    obtain ⟨x7, hx7, h⟩ := Option.bind_eq_some_iff.1 h
    refine AW.regL [0, 1, 15] ?_
    generalize hK : AW Try.prog _ _ _ = K
    simp only [go_sem, ↓reduceIte, reduceCtorEq, Nat.reduceAdd, Nat.reduceSub, Nat.reduceMul, Nat.reduceEqDiff, Nat.reduceLT, Nat.reduceLeDiff, Nat.reduceBEq, Int.reduceAdd, Int.reduceSub, Int.reduceLT, Int.reduceLE, Int.reduceEq, Int.reduceToNat, c6]
    refine arC.of (ok64 a0 x5 hx5) Try.call64 ?_
    simp only [go_sem, ↓reduceIte, reduceCtorEq, Nat.reduceAdd, Nat.reduceSub, Nat.reduceMul, Nat.reduceEqDiff, Nat.reduceLT, Nat.reduceLeDiff, Nat.reduceBEq, Int.reduceAdd, Int.reduceSub, Int.reduceLT, Int.reduceLE, Int.reduceEq, Int.reduceToNat, c6]
    refine arC.of (ok64 a1 x7 hx7) Try.call64 ?_
    simp only [go_sem, ↓reduceIte, reduceCtorEq, Nat.reduceAdd, Nat.reduceSub, Nat.reduceMul, Nat.reduceEqDiff, Nat.reduceLT, Nat.reduceLeDiff, Nat.reduceBEq, Int.reduceAdd, Int.reduceSub, Int.reduceLT, Int.reduceLE, Int.reduceEq, Int.reduceToNat, c6]
    subst hK
    by_cases c8 : x7 = true
    · rw [if_pos c8] at h
      refine AW.ifBF rfl (by rw [c8]; rfl) ?_
      refine AW.skip ?_
      refine thenA_n ?_
      refine AW.regL [0, 1, 5] ?_
      generalize hK : AW Try.prog _ _ _ = K
      simp only [go_sem, ↓reduceIte, reduceCtorEq, Nat.reduceAdd, Nat.reduceSub, Nat.reduceMul, Nat.reduceEqDiff, Nat.reduceLT, Nat.reduceLeDiff, Nat.reduceBEq, Int.reduceAdd, Int.reduceSub, Int.reduceLT, Int.reduceLE, Int.reduceEq, Int.reduceToNat, c6, c8]
      subst hK
      refine AW.seq ?_
      refine AW.label ?_
      refine thenA_n ?_
      refine AW.seq ?_
      refine AW.block ?_
      obtain ⟨y225, hy225, h⟩ := Option.bind_eq_some_iff.1 h
      refine AW.loopO (fun s => ⟨(upd (upd (upd anyF 0 (.sl (List.map encRes s.1))) 1 (.sl (List.map encRes s.2.1))) 5 (.own 8 0 s.2.2.length)), hpL [] [some (.row 4 true (List.map encChange s.2.2))], 9⟩) (fun z e st' => e = Exit.exit 0 ∧ st' = ⟨(upd anyF 5 (.own 8 0 z.length)), hpL [] [some (.row 4 true (List.map encChange z))], 9⟩) hy225 ?_ ?_ ?_
      · refine Ent.trans (Ent.nilOwn 5 4 (by decide) rfl) ?_
        refine Ent.can [88] _ _ _ rfl (by first | decide | simp) rfl ?_ ?_ ?_
        · exact (((RF.any.pv (by first | rfl | simp only [go_sem]) (by first | rfl | simp [upd_ap, hpL_ap, tau, mapT, mapTL, bytesI_len, c6, c8])).pv (by first | rfl | simp only [go_sem]) (by first | rfl | simp [upd_ap, hpL_ap, tau, mapT, mapTL, bytesI_len, c6, c8])).po (by decide) (by first | rfl | simp [upd_ap, hpL_ap, tau, mapT, mapTL, bytesI_len, c6, c8]))
        · exact .nil _
        · exact .cons (.eq (by first | rfl | simp only [go_sem]) (by first | rfl | simp [upd_ap, hpL_ap, tau, mapT, mapTL, bytesI_len, c6, c8])) (.nil _)
      · clear h hy225
        rintro ⟨s1_0, s1_1, s1_2⟩ x h
        rw [f15_s1] at h
        refine AW.join (fun s => ⟨(upd (upd (upd anyF 0 (.sl (List.map encRes s1_0))) 1 (.sl (List.map encRes s1_1))) 5 (.own 8 0 s1_2.length)), hpL [] [some (.row 4 true (List.map encChange s1_2))], 9⟩) (fun s => f15_j5 s1_0 s1_1 s1_2 s = some x) ?_ ?_
        · by_cases c222 : 0 < (s1_0.length : Int)
          · rw [if_pos c222] at h
            refine AW.regL [0, 1, 5, 23] ?_
            generalize hK : AW Try.prog _ _ _ = K
            simp only [go_sem, ↓reduceIte, reduceCtorEq, Nat.reduceAdd, Nat.reduceSub, Nat.reduceMul, Nat.reduceEqDiff, Nat.reduceLT, Nat.reduceLeDiff, Nat.reduceBEq, Int.reduceAdd, Int.reduceSub, Int.reduceLT, Int.reduceLE, Int.reduceEq, Int.reduceToNat, c6, c8, eq_true c222]
            subst hK
            refine AW.ifBT rfl rfl ?_
            refine AW.skip ?_
            refine thenA_n ?_
            refine ⟨_, h, ?_⟩
            refine Ent.can [8] _ _ _ rfl (by first | decide | simp) rfl ?_ ?_ ?_
            · exact (((RF.any.pv (by first | rfl | simp only [go_sem]) (by first | rfl | simp [upd_ap, hpL_ap, tau, mapT, mapTL, bytesI_len, c6, c8, eq_true c222])).pv (by first | rfl | simp only [go_sem]) (by first | rfl | simp [upd_ap, hpL_ap, tau, mapT, mapTL, bytesI_len, c6, c8, eq_true c222])).po (by decide) (by first | rfl | simp [upd_ap, hpL_ap, tau, mapT, mapTL, bytesI_len, c6, c8, eq_true c222]))
            · exact .nil _
            · exact .cons (.eq (by first | rfl | simp only [go_sem]) (by first | rfl | simp [upd_ap, hpL_ap, tau, mapT, mapTL, bytesI_len, c6, c8, eq_true c222])) (.nil _)
          · rw [if_neg c222] at h
            refine AW.regL [0, 1, 5, 23] ?_
            generalize hK : AW Try.prog _ _ _ = K
            simp only [go_sem, ↓reduceIte, reduceCtorEq, Nat.reduceAdd, Nat.reduceSub, Nat.reduceMul, Nat.reduceEqDiff, Nat.reduceLT, Nat.reduceLeDiff, Nat.reduceBEq, Int.reduceAdd, Int.reduceSub, Int.reduceLT, Int.reduceLE, Int.reduceEq, Int.reduceToNat, c6, c8, eq_false c222]
            subst hK
            by_cases c223 : 0 < (s1_1.length : Int)
            · rw [if_pos c223] at h
              refine AW.ifT rfl c223 ?_
              refine AW.skip ?_
              refine thenA_n ?_
              refine ⟨_, h, ?_⟩
              refine Ent.can [8] _ _ _ rfl (by first | decide | simp) rfl ?_ ?_ ?_
              · exact (((RF.any.pv (by first | rfl | simp only [go_sem]) (by first | rfl | simp [upd_ap, hpL_ap, tau, mapT, mapTL, bytesI_len, c6, c8, eq_false c222, eq_true c223])).pv (by first | rfl | simp only [go_sem]) (by first | rfl | simp [upd_ap, hpL_ap, tau, mapT, mapTL, bytesI_len, c6, c8, eq_false c222, eq_true c223])).po (by decide) (by first | rfl | simp [upd_ap, hpL_ap, tau, mapT, mapTL, bytesI_len, c6, c8, eq_false c222, eq_true c223]))
              · exact .nil _
              · exact .cons (.eq (by first | rfl | simp only [go_sem]) (by first | rfl | simp [upd_ap, hpL_ap, tau, mapT, mapTL, bytesI_len, c6, c8, eq_false c222, eq_true c223])) (.nil _)
            · rw [if_neg c223] at h
              refine AW.ifF rfl c223 ?_
              refine AW.exit ?_
              refine thenA_x ?_
              refine thenA_x ?_
              refine ⟨_, (Option.some.inj h).symm, _, ?_, rfl, rfl⟩
              refine Ent.can [8] _ _ _ rfl (by first | decide | simp) rfl ?_ ?_ ?_
              · exact (RF.any.po (by decide) (by first | rfl | simp [upd_ap, hpL_ap, tau, mapT, mapTL, bytesI_len, c6, c8, eq_false c222, eq_false c223]))
              · exact .nil _
              · exact .cons (.eq (by first | rfl | simp only [go_sem]) (by first | rfl | simp [upd_ap, hpL_ap, tau, mapT, mapTL, bytesI_len, c6, c8, eq_false c222, eq_false c223])) (.nil _)
        · clear h
          rintro ⟨⟩ h
          rw [f15_j5] at h
          refine AW.block ?_
          refine AW.join (fun s => ⟨(upd (upd (upd anyF 0 (.sl (List.map encRes s1_0))) 1 (.sl (List.map encRes s1_1))) 5 (.own 8 0 s1_2.length)), hpL [] [some (.row 4 true (List.map encChange s1_2))], 9⟩) (fun s => f15_j6 s1_0 s1_1 s1_2 s = some x) ?_ ?_
          · refine AW.block ?_
            by_cases c191 : (s1_1.length : Int) = 0
            · rw [if_pos c191] at h
              refine AW.regdL [0, 1, 5, 24] [[], [0], [0, 1], [0, 1, 2], [0, 1, 2, 3], [0, 1, 2, 3, 4], [0, 1, 2, 3, 4, 5], [0, 1, 2, 3, 4, 5, 6], [0, 1, 2, 3, 4, 5, 6, 7], [0, 1, 2, 3, 4, 5, 6, 7, 8], [0, 1, 2, 3, 4, 5, 6, 7, 8, 9], [0, 1, 2, 3, 4, 5, 6, 7, 8, 9, 10], [0, 1, 2, 3, 4, 5, 6, 7], [0, 1, 2, 3, 4, 5, 6, 7, 12], [0, 1, 2, 3, 4, 5, 6, 7, 12, 13], [0, 1, 2, 3, 4, 5, 6, 7, 12, 13, 14], [0, 1, 2, 3, 4, 5, 6, 7, 8, 9, 10, 11, 12, 13, 14, 15], [0, 1, 2, 3, 4, 5, 6, 7, 8, 9, 10, 11, 12, 13, 14, 15, 16], [0, 1, 2, 3, 4, 5, 6, 7, 8, 9, 10, 11, 12, 13, 14, 15, 16, 17], [0, 1, 2, 3, 4, 5, 6, 7, 8, 9, 10, 11, 12, 13, 14, 15, 16, 17, 18]] [0, 1, 2, 3, 4, 5, 6, 7, 8, 9, 10, 11, 12, 13, 14, 15, 16, 17, 18, 19] noFt (fun _ _ _ h => by simp [noFt] at h) draws (by kernel_rfl) (by kernel_rfl) ?_
              generalize hK : AW Try.prog _ _ _ = K
              simp only [go_sem, ↓reduceIte, reduceCtorEq, Nat.reduceAdd, Nat.reduceSub, Nat.reduceMul, Nat.reduceEqDiff, Nat.reduceLT, Nat.reduceLeDiff, Nat.reduceBEq, Int.reduceAdd, Int.reduceSub, Int.reduceLT, Int.reduceLE, Int.reduceEq, Int.reduceToNat, c6, c8, eq_true c191]
              subst hK
              refine AW.ifBT rfl rfl ?_
              obtain ⟨x192, hx192, h⟩ := Option.bind_eq_some_iff.1 h
              obtain ⟨x193, hx193, h⟩ := Option.bind_eq_some_iff.1 h
              obtain ⟨x194, hx194, h⟩ := Option.bind_eq_some_iff.1 h
              obtain ⟨hx194b, hx194e⟩ := appO?_some.1 hx194
              have hx194f : ∀ id o : Nat, appO 4 64 id ([[.val (.int .i64 0), .val (.string x193.Key), .val (.string x193.Val), .sl (List.map enc3 x193.Offs)]]) 0 s1_2.length o (some (.row 4 true (List.map encChange s1_2))) = some ⟨.own id 0 x194.length, [(o, none), (id, some (.row 4 true (List.map encChange x194)))]⟩ := fun id o => by
                subst hx194e; rw [appO_ok (by simp) (by simpa using hx194b) (by decide)]; first | (simp [encChange]; done) | (simp [encChange]; omega)
              refine AW.regL [0, 1, 5] ?_
              generalize hK : AW Try.prog _ _ _ = K
              simp only [go_sem, ↓reduceIte, reduceCtorEq, Nat.reduceAdd, Nat.reduceSub, Nat.reduceMul, Nat.reduceEqDiff, Nat.reduceLT, Nat.reduceLeDiff, Nat.reduceBEq, Int.reduceAdd, Int.reduceSub, Int.reduceLT, Int.reduceLE, Int.reduceEq, Int.reduceToNat, c6, c8, eq_true c191, hx192, hx194f]
              refine arC.of (ok65 x192 x193 hx193) Try.call65 ?_
              simp only [go_sem, ↓reduceIte, reduceCtorEq, Nat.reduceAdd, Nat.reduceSub, Nat.reduceMul, Nat.reduceEqDiff, Nat.reduceLT, Nat.reduceLeDiff, Nat.reduceBEq, Int.reduceAdd, Int.reduceSub, Int.reduceLT, Int.reduceLE, Int.reduceEq, Int.reduceToNat, c6, c8, eq_true c191, hx192, hx194f]
              subst hK
              obtain ⟨x195, hx195, h⟩ := Option.bind_eq_some_iff.1 h
              refine AW.regL [0, 1, 5] ?_
              generalize hK : AW Try.prog _ _ _ = K
              simp only [go_sem, ↓reduceIte, reduceCtorEq, Nat.reduceAdd, Nat.reduceSub, Nat.reduceMul, Nat.reduceEqDiff, Nat.reduceLT, Nat.reduceLeDiff, Nat.reduceBEq, Int.reduceAdd, Int.reduceSub, Int.reduceLT, Int.reduceLE, Int.reduceEq, Int.reduceToNat, c6, c8, eq_true c191, cut_sn el22 sz35 (ml_encRes _) hx195]
              subst hK
              refine AW.exit ?_
              refine block_y rfl ?_
              refine thenA_x ?_
              refine block_x ?_
              refine thenA_n ?_
              refine ⟨_, (Option.some.inj h).symm, ?_⟩
              refine Ent.can [225] _ _ _ rfl (by first | decide | simp) rfl ?_ ?_ ?_
              · exact (((RF.any.pv (by first | rfl | simp only [go_sem]) (by first | rfl | simp [upd_ap, hpL_ap, tau, mapT, mapTL, bytesI_len, c6, c8, eq_true c191])).pv (by first | rfl | simp only [go_sem]) (by first | rfl | simp [upd_ap, hpL_ap, tau, mapT, mapTL, bytesI_len, c6, c8, eq_true c191])).po (by decide) (by first | rfl | simp [upd_ap, hpL_ap, tau, mapT, mapTL, bytesI_len, c6, c8, eq_true c191]))
              · exact .nil _
              · exact .cons (.eq (by first | rfl | simp only [go_sem]) (by first | rfl | simp [upd_ap, hpL_ap, tau, mapT, mapTL, bytesI_len, c6, c8, eq_true c191])) (.nil _)
            · rw [if_neg c191] at h
              by_cases c196 : 0 < (s1_0.length : Int)
              · rw [if_pos c196] at h
                obtain ⟨x197, hx197, h⟩ := Option.bind_eq_some_iff.1 h
                obtain ⟨x198, hx198, h⟩ := Option.bind_eq_some_iff.1 h
                refine AW.regdL [0, 1, 5, 24] [[], [0], [0, 1], [0, 1, 2], [0, 1, 2, 3], [0, 1, 2, 3, 4], [0, 1, 2, 3, 4, 5], [0, 1, 2, 3, 4, 5, 6], [0, 1, 2, 3, 4, 5, 6, 7], [0, 1, 2, 3, 4, 5, 6, 7, 8], [0, 1, 2, 3, 4, 5, 6, 7, 8, 9], [0, 1, 2, 3, 4, 5, 6, 7, 8, 9, 10], [0, 1, 2, 3, 4, 5, 6, 7], [0, 1, 2, 3, 4, 5, 6, 7, 12], [0, 1, 2, 3, 4, 5, 6, 7, 12, 13], [0, 1, 2, 3, 4, 5, 6, 7, 12, 13, 14], [0, 1, 2, 3, 4, 5, 6, 7, 8, 9, 10, 11, 12, 13, 14, 15], [0, 1, 2, 3, 4, 5, 6, 7, 8, 9, 10, 11, 12, 13, 14, 15, 16], [0, 1, 2, 3, 4, 5, 6, 7, 8, 9, 10, 11, 12, 13, 14, 15, 16, 17], [0, 1, 2, 3, 4, 5, 6, 7, 8, 9, 10, 11, 12, 13, 14, 15, 16, 17, 18]] [0, 1, 2, 3, 4, 5, 6, 7, 8, 9, 10, 11, 12, 13, 14, 15, 16, 17, 18, 19] noFt (fun _ _ _ h => by simp [noFt] at h) draws (by kernel_rfl) (by kernel_rfl) ?_
                generalize hK : AW Try.prog _ _ _ = K
                simp only [go_sem, ↓reduceIte, reduceCtorEq, Nat.reduceAdd, Nat.reduceSub, Nat.reduceMul, Nat.reduceEqDiff, Nat.reduceLT, Nat.reduceLeDiff, Nat.reduceBEq, Int.reduceAdd, Int.reduceSub, Int.reduceLT, Int.reduceLE, Int.reduceEq, Int.reduceToNat, c6, c8, eq_false c191, eq_true c196, hx197, hx198]
                subst hK
                by_cases c199 : (sLt x197.Key x198.Key) = true
                · rw [if_pos c199] at h
                  refine AW.ifBT rfl c199 ?_
                  obtain ⟨x200, hx200, h⟩ := Option.bind_eq_some_iff.1 h
                  obtain ⟨x201, hx201, h⟩ := Option.bind_eq_some_iff.1 h
                  obtain ⟨hx201b, hx201e⟩ := appO?_some.1 hx201
                  have hx201f : ∀ id o : Nat, appO 4 64 id ([[.val (.int .i64 0), .val (.string x200.Key), .val (.string x200.Val), .sl (List.map enc3 x200.Offs)]]) 0 s1_2.length o (some (.row 4 true (List.map encChange s1_2))) = some ⟨.own id 0 x201.length, [(o, none), (id, some (.row 4 true (List.map encChange x201)))]⟩ := fun id o => by
                    subst hx201e; rw [appO_ok (by simp) (by simpa using hx201b) (by decide)]; first | (simp [encChange]; done) | (simp [encChange]; omega)
                  refine AW.regL [0, 1, 5] ?_
                  generalize hK : AW Try.prog _ _ _ = K
                  simp only [go_sem, ↓reduceIte, reduceCtorEq, Nat.reduceAdd, Nat.reduceSub, Nat.reduceMul, Nat.reduceEqDiff, Nat.reduceLT, Nat.reduceLeDiff, Nat.reduceBEq, Int.reduceAdd, Int.reduceSub, Int.reduceLT, Int.reduceLE, Int.reduceEq, Int.reduceToNat, c6, c8, eq_false c191, eq_true c196, c199, hx197, hx201f]
                  refine arC.of (ok65 x197 x200 hx200) Try.call65 ?_
                  simp only [go_sem, ↓reduceIte, reduceCtorEq, Nat.reduceAdd, Nat.reduceSub, Nat.reduceMul, Nat.reduceEqDiff, Nat.reduceLT, Nat.reduceLeDiff, Nat.reduceBEq, Int.reduceAdd, Int.reduceSub, Int.reduceLT, Int.reduceLE, Int.reduceEq, Int.reduceToNat, c6, c8, eq_false c191, eq_true c196, c199, hx197, hx201f]
                  subst hK
                  obtain ⟨x202, hx202, h⟩ := Option.bind_eq_some_iff.1 h
                  refine AW.regL [0, 1, 5] ?_
                  generalize hK : AW Try.prog _ _ _ = K
                  simp only [go_sem, ↓reduceIte, reduceCtorEq, Nat.reduceAdd, Nat.reduceSub, Nat.reduceMul, Nat.reduceEqDiff, Nat.reduceLT, Nat.reduceLeDiff, Nat.reduceBEq, Int.reduceAdd, Int.reduceSub, Int.reduceLT, Int.reduceLE, Int.reduceEq, Int.reduceToNat, c6, c8, eq_false c191, eq_true c196, c199, cut_sn el22 sz35 (ml_encRes _) hx202]
                  subst hK
                  refine AW.exit ?_
                  refine block_y rfl ?_
                  refine thenA_x ?_
                  refine block_x ?_
                  refine thenA_n ?_
                  refine ⟨_, (Option.some.inj h).symm, ?_⟩
                  refine Ent.can [225] _ _ _ rfl (by first | decide | simp) rfl ?_ ?_ ?_
                  · exact (((RF.any.pv (by first | rfl | simp only [go_sem]) (by first | rfl | simp [upd_ap, hpL_ap, tau, mapT, mapTL, bytesI_len, c6, c8, eq_false c191, eq_true c196, c199])).pv (by first | rfl | simp only [go_sem]) (by first | rfl | simp [upd_ap, hpL_ap, tau, mapT, mapTL, bytesI_len, c6, c8, eq_false c191, eq_true c196, c199])).po (by decide) (by first | rfl | simp [upd_ap, hpL_ap, tau, mapT, mapTL, bytesI_len, c6, c8, eq_false c191, eq_true c196, c199]))
                  · exact .nil _
                  · exact .cons (.eq (by first | rfl | simp only [go_sem]) (by first | rfl | simp [upd_ap, hpL_ap, tau, mapT, mapTL, bytesI_len, c6, c8, eq_false c191, eq_true c196, c199])) (.nil _)
                · rw [if_neg c199] at h
                  rw [Bool.not_eq_true] at c199
                  refine AW.ifBF rfl c199 ?_
                  by_cases c203 : (s1_0.length : Int) = 0
                  · rw [if_pos c203] at h
                    refine AW.regdL [0, 1, 5, 54] [[], [0], [0, 1], [0, 1, 2], [0, 1, 2, 3], [0, 1, 2, 3, 4], [0, 1, 2, 3, 4, 5], [0, 1, 2, 3, 4, 5, 6], [0, 1, 2, 3], [0, 1, 2, 3, 8], [0, 1, 2, 3, 8, 9], [0, 1, 2, 3, 8, 9, 10], [0, 1, 2, 3, 4, 5, 6, 7, 8, 9, 10, 11], [0, 1, 2, 3, 4, 5, 6, 7, 8, 9, 10, 11, 12], [0, 1, 2, 3, 4, 5, 6, 7, 8, 9, 10, 11, 12, 13]] [0, 1, 2, 3, 4, 5, 6, 7, 8, 9, 10, 11, 12, 13, 14] noFt (fun _ _ _ h => by simp [noFt] at h) draws (by kernel_rfl) (by kernel_rfl) ?_
                    generalize hK : AW Try.prog _ _ _ = K
                    simp only [go_sem, ↓reduceIte, reduceCtorEq, Nat.reduceAdd, Nat.reduceSub, Nat.reduceMul, Nat.reduceEqDiff, Nat.reduceLT, Nat.reduceLeDiff, Nat.reduceBEq, Int.reduceAdd, Int.reduceSub, Int.reduceLT, Int.reduceLE, Int.reduceEq, Int.reduceToNat, c6, c8, eq_false c191, eq_true c196, c199, eq_true c203]
                    subst hK
                    refine AW.ifBT rfl rfl ?_
                    obtain ⟨x204, hx204, h⟩ := Option.bind_eq_some_iff.1 h
                    obtain ⟨x205, hx205, h⟩ := Option.bind_eq_some_iff.1 h
                    obtain ⟨hx205b, hx205e⟩ := appO?_some.1 hx205
                    have hx205f : ∀ id o : Nat, appO 4 64 id ([[.val (.int .i64 1), .val (.string x204.Key), .val (.string x204.Val), .sl (List.map enc3 x204.Offs)]]) 0 s1_2.length o (some (.row 4 true (List.map encChange s1_2))) = some ⟨.own id 0 x205.length, [(o, none), (id, some (.row 4 true (List.map encChange x205)))]⟩ := fun id o => by
                      subst hx205e; rw [appO_ok (by simp) (by simpa using hx205b) (by decide)]; first | (simp [encChange]; done) | (simp [encChange]; omega)
                    refine AW.regL [0, 1, 5] ?_
                    generalize hK : AW Try.prog _ _ _ = K
                    simp only [go_sem, ↓reduceIte, reduceCtorEq, Nat.reduceAdd, Nat.reduceSub, Nat.reduceMul, Nat.reduceEqDiff, Nat.reduceLT, Nat.reduceLeDiff, Nat.reduceBEq, Int.reduceAdd, Int.reduceSub, Int.reduceLT, Int.reduceLE, Int.reduceEq, Int.reduceToNat, c6, c8, eq_false c191, eq_true c196, c199, eq_true c203, hx198, hx205f]
                    refine arC.of (ok65 x198 x204 hx204) Try.call65 ?_
                    simp only [go_sem, ↓reduceIte, reduceCtorEq, Nat.reduceAdd, Nat.reduceSub, Nat.reduceMul, Nat.reduceEqDiff, Nat.reduceLT, Nat.reduceLeDiff, Nat.reduceBEq, Int.reduceAdd, Int.reduceSub, Int.reduceLT, Int.reduceLE, Int.reduceEq, Int.reduceToNat, c6, c8, eq_false c191, eq_true c196, c199, eq_true c203, hx198, hx205f]
                    subst hK
                    obtain ⟨x206, hx206, h⟩ := Option.bind_eq_some_iff.1 h
                    refine AW.regL [0, 1, 5] ?_
                    generalize hK : AW Try.prog _ _ _ = K
                    simp only [go_sem, ↓reduceIte, reduceCtorEq, Nat.reduceAdd, Nat.reduceSub, Nat.reduceMul, Nat.reduceEqDiff, Nat.reduceLT, Nat.reduceLeDiff, Nat.reduceBEq, Int.reduceAdd, Int.reduceSub, Int.reduceLT, Int.reduceLE, Int.reduceEq, Int.reduceToNat, c6, c8, eq_false c191, eq_true c196, c199, eq_true c203, cut_sn el22 sz35 (ml_encRes _) hx206]
                    subst hK
                    refine AW.exit ?_
                    refine block_y rfl ?_
                    refine thenA_x ?_
                    refine block_x ?_
                    refine thenA_n ?_
                    refine ⟨_, (Option.some.inj h).symm, ?_⟩
                    refine Ent.can [345] _ _ _ rfl (by first | decide | simp) rfl ?_ ?_ ?_
                    · exact (((RF.any.pv (by first | rfl | simp only [go_sem]) (by first | rfl | simp [upd_ap, hpL_ap, tau, mapT, mapTL, bytesI_len, c6, c8, eq_false c191, eq_true c196, c199, eq_true c203])).pv (by first | rfl | simp only [go_sem]) (by first | rfl | simp [upd_ap, hpL_ap, tau, mapT, mapTL, bytesI_len, c6, c8, eq_false c191, eq_true c196, c199, eq_true c203])).po (by decide) (by first | rfl | simp [upd_ap, hpL_ap, tau, mapT, mapTL, bytesI_len, c6, c8, eq_false c191, eq_true c196, c199, eq_true c203]))
                    · exact .nil _
                    · exact .cons (.eq (by first | rfl | simp only [go_sem]) (by first | rfl | simp [upd_ap, hpL_ap, tau, mapT, mapTL, bytesI_len, c6, c8, eq_false c191, eq_true c196, c199, eq_true c203])) (.nil _)
                  · rw [if_neg c203] at h
                    refine AW.regdL [0, 1, 5, 54] [[], [0], [0, 1], [0, 1, 2], [0, 1, 2, 3], [0, 1, 2, 3, 4], [0, 1, 2, 3, 4, 5], [0, 1, 2, 3, 4, 5, 6], [0, 1, 2, 3], [0, 1, 2, 3, 8], [0, 1, 2, 3, 8, 9], [0, 1, 2, 3, 8, 9, 10], [0, 1, 2, 3, 4, 5, 6, 7, 8, 9, 10, 11], [0, 1, 2, 3, 4, 5, 6, 7, 8, 9, 10, 11, 12], [0, 1, 2, 3, 4, 5, 6, 7, 8, 9, 10, 11, 12, 13]] [0, 1, 2, 3, 4, 5, 6, 7, 8, 9, 10, 11, 12, 13, 14] noFt (fun _ _ _ h => by simp [noFt] at h) draws (by kernel_rfl) (by kernel_rfl) ?_
                    generalize hK : AW Try.prog _ _ _ = K
                    simp only [go_sem, ↓reduceIte, reduceCtorEq, Nat.reduceAdd, Nat.reduceSub, Nat.reduceMul, Nat.reduceEqDiff, Nat.reduceLT, Nat.reduceLeDiff, Nat.reduceBEq, Int.reduceAdd, Int.reduceSub, Int.reduceLT, Int.reduceLE, Int.reduceEq, Int.reduceToNat, c6, c8, eq_false c191, eq_true c196, c199, eq_false c203, hx198, hx197]
                    subst hK
                    by_cases c207 : (sLt x198.Key x197.Key) = true
                    · rw [if_pos c207] at h
                      refine AW.ifBT rfl c207 ?_
                      obtain ⟨x208, hx208, h⟩ := Option.bind_eq_some_iff.1 h
                      obtain ⟨x209, hx209, h⟩ := Option.bind_eq_some_iff.1 h
                      obtain ⟨hx209b, hx209e⟩ := appO?_some.1 hx209
                      have hx209f : ∀ id o : Nat, appO 4 64 id ([[.val (.int .i64 1), .val (.string x208.Key), .val (.string x208.Val), .sl (List.map enc3 x208.Offs)]]) 0 s1_2.length o (some (.row 4 true (List.map encChange s1_2))) = some ⟨.own id 0 x209.length, [(o, none), (id, some (.row 4 true (List.map encChange x209)))]⟩ := fun id o => by
                        subst hx209e; rw [appO_ok (by simp) (by simpa using hx209b) (by decide)]; first | (simp [encChange]; done) | (simp [encChange]; omega)
                      refine AW.regL [0, 1, 5] ?_
                      generalize hK : AW Try.prog _ _ _ = K
                      simp only [go_sem, ↓reduceIte, reduceCtorEq, Nat.reduceAdd, Nat.reduceSub, Nat.reduceMul, Nat.reduceEqDiff, Nat.reduceLT, Nat.reduceLeDiff, Nat.reduceBEq, Int.reduceAdd, Int.reduceSub, Int.reduceLT, Int.reduceLE, Int.reduceEq, Int.reduceToNat, c6, c8, eq_false c191, eq_true c196, c199, eq_false c203, c207, hx198, hx209f]
                      refine arC.of (ok65 x198 x208 hx208) Try.call65 ?_
                      simp only [go_sem, ↓reduceIte, reduceCtorEq, Nat.reduceAdd, Nat.reduceSub, Nat.reduceMul, Nat.reduceEqDiff, Nat.reduceLT, Nat.reduceLeDiff, Nat.reduceBEq, Int.reduceAdd, Int.reduceSub, Int.reduceLT, Int.reduceLE, Int.reduceEq, Int.reduceToNat, c6, c8, eq_false c191, eq_true c196, c199, eq_false c203, c207, hx198, hx209f]
                      subst hK
                      obtain ⟨x210, hx210, h⟩ := Option.bind_eq_some_iff.1 h
                      refine AW.regL [0, 1, 5] ?_
                      generalize hK : AW Try.prog _ _ _ = K
                      simp only [go_sem, ↓reduceIte, reduceCtorEq, Nat.reduceAdd, Nat.reduceSub, Nat.reduceMul, Nat.reduceEqDiff, Nat.reduceLT, Nat.reduceLeDiff, Nat.reduceBEq, Int.reduceAdd, Int.reduceSub, Int.reduceLT, Int.reduceLE, Int.reduceEq, Int.reduceToNat, c6, c8, eq_false c191, eq_true c196, c199, eq_false c203, c207, cut_sn el22 sz35 (ml_encRes _) hx210]
                      subst hK
                      refine AW.exit ?_
                      refine block_y rfl ?_
                      refine thenA_x ?_
                      refine block_x ?_
                      refine thenA_n ?_
                      refine ⟨_, (Option.some.inj h).symm, ?_⟩
                      refine Ent.can [345] _ _ _ rfl (by first | decide | simp) rfl ?_ ?_ ?_
                      · exact (((RF.any.pv (by first | rfl | simp only [go_sem]) (by first | rfl | simp [upd_ap, hpL_ap, tau, mapT, mapTL, bytesI_len, c6, c8, eq_false c191, eq_true c196, c199, eq_false c203, c207])).pv (by first | rfl | simp only [go_sem]) (by first | rfl | simp [upd_ap, hpL_ap, tau, mapT, mapTL, bytesI_len, c6, c8, eq_false c191, eq_true c196, c199, eq_false c203, c207])).po (by decide) (by first | rfl | simp [upd_ap, hpL_ap, tau, mapT, mapTL, bytesI_len, c6, c8, eq_false c191, eq_true c196, c199, eq_false c203, c207]))
                      · exact .nil _
                      · exact .cons (.eq (by first | rfl | simp only [go_sem]) (by first | rfl | simp [upd_ap, hpL_ap, tau, mapT, mapTL, bytesI_len, c6, c8, eq_false c191, eq_true c196, c199, eq_false c203, c207])) (.nil _)
                    · rw [if_neg c207] at h
                      rw [Bool.not_eq_true] at c207
                      refine AW.ifBF rfl c207 ?_
                      refine AW.skip ?_
                      refine block_n ?_
                      refine thenA_n ?_
                      refine ⟨_, h, ?_⟩
                      refine Ent.can [8] _ _ _ rfl (by first | decide | simp) rfl ?_ ?_ ?_
                      · exact (((RF.any.pv (by first | rfl | simp only [go_sem]) (by first | rfl | simp [upd_ap, hpL_ap, tau, mapT, mapTL, bytesI_len, c6, c8, eq_false c191, eq_true c196, c199, eq_false c203, c207])).pv (by first | rfl | simp only [go_sem]) (by first | rfl | simp [upd_ap, hpL_ap, tau, mapT, mapTL, bytesI_len, c6, c8, eq_false c191, eq_true c196, c199, eq_false c203, c207])).po (by decide) (by first | rfl | simp [upd_ap, hpL_ap, tau, mapT, mapTL, bytesI_len, c6, c8, eq_false c191, eq_true c196, c199, eq_false c203, c207]))
                      · exact .nil _
                      · exact .cons (.eq (by first | rfl | simp only [go_sem]) (by first | rfl | simp [upd_ap, hpL_ap, tau, mapT, mapTL, bytesI_len, c6, c8, eq_false c191, eq_true c196, c199, eq_false c203, c207])) (.nil _)
              · rw [if_neg c196] at h
                refine AW.regdL [0, 1, 5, 24] [[], [0], [0, 1], [0, 1, 2], [0, 1, 2, 3], [0, 1, 2, 3, 4], [0, 1, 2, 3, 4, 5], [0, 1, 2, 3, 4, 5, 6], [0, 1, 2, 3, 4, 5, 6, 7], [0, 1, 2, 3, 4, 5, 6, 7, 8], [0, 1, 2, 3, 4, 5, 6, 7, 8, 9], [0, 1, 2, 3, 4, 5, 6, 7, 8, 9, 10], [0, 1, 2, 3, 4, 5, 6, 7], [0, 1, 2, 3, 4, 5, 6, 7, 12], [0, 1, 2, 3, 4, 5, 6, 7, 12, 13], [0, 1, 2, 3, 4, 5, 6, 7, 12, 13, 14], [0, 1, 2, 3, 4, 5, 6, 7, 8, 9, 10, 11, 12, 13, 14, 15], [0, 1, 2, 3, 4, 5, 6, 7, 8, 9, 10, 11, 12, 13, 14, 15, 16], [0, 1, 2, 3, 4, 5, 6, 7, 8, 9, 10, 11, 12, 13, 14, 15, 16, 17], [0, 1, 2, 3, 4, 5, 6, 7, 8, 9, 10, 11, 12, 13, 14, 15, 16, 17, 18]] [0, 1, 2, 3, 4, 5, 6, 7, 8, 9, 10, 11, 12, 13, 14, 15, 16, 17, 18, 19] noFt (fun _ _ _ h => by simp [noFt] at h) draws (by kernel_rfl) (by kernel_rfl) ?_
                generalize hK : AW Try.prog _ _ _ = K
                simp only [go_sem, ↓reduceIte, reduceCtorEq, Nat.reduceAdd, Nat.reduceSub, Nat.reduceMul, Nat.reduceEqDiff, Nat.reduceLT, Nat.reduceLeDiff, Nat.reduceBEq, Int.reduceAdd, Int.reduceSub, Int.reduceLT, Int.reduceLE, Int.reduceEq, Int.reduceToNat, c6, c8, eq_false c191, eq_false c196]
                subst hK
                refine AW.ifBF rfl rfl ?_
                by_cases c211 : (s1_0.length : Int) = 0
                · rw [if_pos c211] at h
                  refine AW.regdL [0, 1, 5, 54] [[], [0], [0, 1], [0, 1, 2], [0, 1, 2, 3], [0, 1, 2, 3, 4], [0, 1, 2, 3, 4, 5], [0, 1, 2, 3, 4, 5, 6], [0, 1, 2, 3], [0, 1, 2, 3, 8], [0, 1, 2, 3, 8, 9], [0, 1, 2, 3, 8, 9, 10], [0, 1, 2, 3, 4, 5, 6, 7, 8, 9, 10, 11], [0, 1, 2, 3, 4, 5, 6, 7, 8, 9, 10, 11, 12], [0, 1, 2, 3, 4, 5, 6, 7, 8, 9, 10, 11, 12, 13]] [0, 1, 2, 3, 4, 5, 6, 7, 8, 9, 10, 11, 12, 13, 14] noFt (fun _ _ _ h => by simp [noFt] at h) draws (by kernel_rfl) (by kernel_rfl) ?_
                  generalize hK : AW Try.prog _ _ _ = K
                  simp only [go_sem, ↓reduceIte, reduceCtorEq, Nat.reduceAdd, Nat.reduceSub, Nat.reduceMul, Nat.reduceEqDiff, Nat.reduceLT, Nat.reduceLeDiff, Nat.reduceBEq, Int.reduceAdd, Int.reduceSub, Int.reduceLT, Int.reduceLE, Int.reduceEq, Int.reduceToNat, c6, c8, eq_false c191, eq_false c196, eq_true c211]
                  subst hK
                  refine AW.ifBT rfl rfl ?_
                  obtain ⟨x212, hx212, h⟩ := Option.bind_eq_some_iff.1 h
                  obtain ⟨x213, hx213, h⟩ := Option.bind_eq_some_iff.1 h
                  obtain ⟨x214, hx214, h⟩ := Option.bind_eq_some_iff.1 h
                  obtain ⟨hx214b, hx214e⟩ := appO?_some.1 hx214
                  have hx214f : ∀ id o : Nat, appO 4 64 id ([[.val (.int .i64 1), .val (.string x213.Key), .val (.string x213.Val), .sl (List.map enc3 x213.Offs)]]) 0 s1_2.length o (some (.row 4 true (List.map encChange s1_2))) = some ⟨.own id 0 x214.length, [(o, none), (id, some (.row 4 true (List.map encChange x214)))]⟩ := fun id o => by
                    subst hx214e; rw [appO_ok (by simp) (by simpa using hx214b) (by decide)]; first | (simp [encChange]; done) | (simp [encChange]; omega)
                  refine AW.regL [0, 1, 5] ?_
                  generalize hK : AW Try.prog _ _ _ = K
                  simp only [go_sem, ↓reduceIte, reduceCtorEq, Nat.reduceAdd, Nat.reduceSub, Nat.reduceMul, Nat.reduceEqDiff, Nat.reduceLT, Nat.reduceLeDiff, Nat.reduceBEq, Int.reduceAdd, Int.reduceSub, Int.reduceLT, Int.reduceLE, Int.reduceEq, Int.reduceToNat, c6, c8, eq_false c191, eq_false c196, eq_true c211, hx212, hx214f]
                  refine arC.of (ok65 x212 x213 hx213) Try.call65 ?_
                  simp only [go_sem, ↓reduceIte, reduceCtorEq, Nat.reduceAdd, Nat.reduceSub, Nat.reduceMul, Nat.reduceEqDiff, Nat.reduceLT, Nat.reduceLeDiff, Nat.reduceBEq, Int.reduceAdd, Int.reduceSub, Int.reduceLT, Int.reduceLE, Int.reduceEq, Int.reduceToNat, c6, c8, eq_false c191, eq_false c196, eq_true c211, hx212, hx214f]
                  subst hK
                  obtain ⟨x215, hx215, h⟩ := Option.bind_eq_some_iff.1 h
                  refine AW.regL [0, 1, 5] ?_
                  generalize hK : AW Try.prog _ _ _ = K
                  simp only [go_sem, ↓reduceIte, reduceCtorEq, Nat.reduceAdd, Nat.reduceSub, Nat.reduceMul, Nat.reduceEqDiff, Nat.reduceLT, Nat.reduceLeDiff, Nat.reduceBEq, Int.reduceAdd, Int.reduceSub, Int.reduceLT, Int.reduceLE, Int.reduceEq, Int.reduceToNat, c6, c8, eq_false c191, eq_false c196, eq_true c211, cut_sn el22 sz35 (ml_encRes _) hx215]
                  subst hK
                  refine AW.exit ?_
                  refine block_y rfl ?_
                  refine thenA_x ?_
                  refine block_x ?_
                  refine thenA_n ?_
                  refine ⟨_, (Option.some.inj h).symm, ?_⟩
                  refine Ent.can [345] _ _ _ rfl (by first | decide | simp) rfl ?_ ?_ ?_
                  · exact (((RF.any.pv (by first | rfl | simp only [go_sem]) (by first | rfl | simp [upd_ap, hpL_ap, tau, mapT, mapTL, bytesI_len, c6, c8, eq_false c191, eq_false c196, eq_true c211])).pv (by first | rfl | simp only [go_sem]) (by first | rfl | simp [upd_ap, hpL_ap, tau, mapT, mapTL, bytesI_len, c6, c8, eq_false c191, eq_false c196, eq_true c211])).po (by decide) (by first | rfl | simp [upd_ap, hpL_ap, tau, mapT, mapTL, bytesI_len, c6, c8, eq_false c191, eq_false c196, eq_true c211]))
                  · exact .nil _
                  · exact .cons (.eq (by first | rfl | simp only [go_sem]) (by first | rfl | simp [upd_ap, hpL_ap, tau, mapT, mapTL, bytesI_len, c6, c8, eq_false c191, eq_false c196, eq_true c211])) (.nil _)
                · rw [if_neg c211] at h
                  obtain ⟨x216, hx216, h⟩ := Option.bind_eq_some_iff.1 h
                  obtain ⟨x217, hx217, h⟩ := Option.bind_eq_some_iff.1 h
                  refine AW.regdL [0, 1, 5, 54] [[], [0], [0, 1], [0, 1, 2], [0, 1, 2, 3], [0, 1, 2, 3, 4], [0, 1, 2, 3, 4, 5], [0, 1, 2, 3, 4, 5, 6], [0, 1, 2, 3], [0, 1, 2, 3, 8], [0, 1, 2, 3, 8, 9], [0, 1, 2, 3, 8, 9, 10], [0, 1, 2, 3, 4, 5, 6, 7, 8, 9, 10, 11], [0, 1, 2, 3, 4, 5, 6, 7, 8, 9, 10, 11, 12], [0, 1, 2, 3, 4, 5, 6, 7, 8, 9, 10, 11, 12, 13]] [0, 1, 2, 3, 4, 5, 6, 7, 8, 9, 10, 11, 12, 13, 14] noFt (fun _ _ _ h => by simp [noFt] at h) draws (by kernel_rfl) (by kernel_rfl) ?_
                  generalize hK : AW Try.prog _ _ _ = K
                  simp only [go_sem, ↓reduceIte, reduceCtorEq, Nat.reduceAdd, Nat.reduceSub, Nat.reduceMul, Nat.reduceEqDiff, Nat.reduceLT, Nat.reduceLeDiff, Nat.reduceBEq, Int.reduceAdd, Int.reduceSub, Int.reduceLT, Int.reduceLE, Int.reduceEq, Int.reduceToNat, c6, c8, eq_false c191, eq_false c196, eq_false c211, hx216, hx217]
                  subst hK
                  by_cases c218 : (sLt x216.Key x217.Key) = true
                  · rw [if_pos c218] at h
                    refine AW.ifBT rfl c218 ?_
                    obtain ⟨x219, hx219, h⟩ := Option.bind_eq_some_iff.1 h
                    obtain ⟨x220, hx220, h⟩ := Option.bind_eq_some_iff.1 h
                    obtain ⟨hx220b, hx220e⟩ := appO?_some.1 hx220
                    have hx220f : ∀ id o : Nat, appO 4 64 id ([[.val (.int .i64 1), .val (.string x219.Key), .val (.string x219.Val), .sl (List.map enc3 x219.Offs)]]) 0 s1_2.length o (some (.row 4 true (List.map encChange s1_2))) = some ⟨.own id 0 x220.length, [(o, none), (id, some (.row 4 true (List.map encChange x220)))]⟩ := fun id o => by
                      subst hx220e; rw [appO_ok (by simp) (by simpa using hx220b) (by decide)]; first | (simp [encChange]; done) | (simp [encChange]; omega)
                    refine AW.regL [0, 1, 5] ?_
                    generalize hK : AW Try.prog _ _ _ = K
                    simp only [go_sem, ↓reduceIte, reduceCtorEq, Nat.reduceAdd, Nat.reduceSub, Nat.reduceMul, Nat.reduceEqDiff, Nat.reduceLT, Nat.reduceLeDiff, Nat.reduceBEq, Int.reduceAdd, Int.reduceSub, Int.reduceLT, Int.reduceLE, Int.reduceEq, Int.reduceToNat, c6, c8, eq_false c191, eq_false c196, eq_false c211, c218, hx216, hx220f]
                    refine arC.of (ok65 x216 x219 hx219) Try.call65 ?_
                    simp only [go_sem, ↓reduceIte, reduceCtorEq, Nat.reduceAdd, Nat.reduceSub, Nat.reduceMul, Nat.reduceEqDiff, Nat.reduceLT, Nat.reduceLeDiff, Nat.reduceBEq, Int.reduceAdd, Int.reduceSub, Int.reduceLT, Int.reduceLE, Int.reduceEq, Int.reduceToNat, c6, c8, eq_false c191, eq_false c196, eq_false c211, c218, hx216, hx220f]
                    subst hK
                    obtain ⟨x221, hx221, h⟩ := Option.bind_eq_some_iff.1 h
                    refine AW.regL [0, 1, 5] ?_
                    generalize hK : AW Try.prog _ _ _ = K
                    simp only [go_sem, ↓reduceIte, reduceCtorEq, Nat.reduceAdd, Nat.reduceSub, Nat.reduceMul, Nat.reduceEqDiff, Nat.reduceLT, Nat.reduceLeDiff, Nat.reduceBEq, Int.reduceAdd, Int.reduceSub, Int.reduceLT, Int.reduceLE, Int.reduceEq, Int.reduceToNat, c6, c8, eq_false c191, eq_false c196, eq_false c211, c218, cut_sn el22 sz35 (ml_encRes _) hx221]
                    subst hK
                    refine AW.exit ?_
                    refine block_y rfl ?_
                    refine thenA_x ?_
                    refine block_x ?_
                    refine thenA_n ?_
                    refine ⟨_, (Option.some.inj h).symm, ?_⟩
                    refine Ent.can [345] _ _ _ rfl (by first | decide | simp) rfl ?_ ?_ ?_
                    · exact (((RF.any.pv (by first | rfl | simp only [go_sem]) (by first | rfl | simp [upd_ap, hpL_ap, tau, mapT, mapTL, bytesI_len, c6, c8, eq_false c191, eq_false c196, eq_false c211, c218])).pv (by first | rfl | simp only [go_sem]) (by first | rfl | simp [upd_ap, hpL_ap, tau, mapT, mapTL, bytesI_len, c6, c8, eq_false c191, eq_false c196, eq_false c211, c218])).po (by decide) (by first | rfl | simp [upd_ap, hpL_ap, tau, mapT, mapTL, bytesI_len, c6, c8, eq_false c191, eq_false c196, eq_false c211, c218]))
                    · exact .nil _
                    · exact .cons (.eq (by first | rfl | simp only [go_sem]) (by first | rfl | simp [upd_ap, hpL_ap, tau, mapT, mapTL, bytesI_len, c6, c8, eq_false c191, eq_false c196, eq_false c211, c218])) (.nil _)
                  · rw [if_neg c218] at h
                    rw [Bool.not_eq_true] at c218
                    refine AW.ifBF rfl c218 ?_
                    refine AW.skip ?_
                    refine block_n ?_
                    refine thenA_n ?_
                    refine ⟨_, h, ?_⟩
                    refine Ent.can [8] _ _ _ rfl (by first | decide | simp) rfl ?_ ?_ ?_
                    · exact (((RF.any.pv (by first | rfl | simp only [go_sem]) (by first | rfl | simp [upd_ap, hpL_ap, tau, mapT, mapTL, bytesI_len, c6, c8, eq_false c191, eq_false c196, eq_false c211, c218])).pv (by first | rfl | simp only [go_sem]) (by first | rfl | simp [upd_ap, hpL_ap, tau, mapT, mapTL, bytesI_len, c6, c8, eq_false c191, eq_false c196, eq_false c211, c218])).po (by decide) (by first | rfl | simp [upd_ap, hpL_ap, tau, mapT, mapTL, bytesI_len, c6, c8, eq_false c191, eq_false c196, eq_false c211, c218]))
                    · exact .nil _
                    · exact .cons (.eq (by first | rfl | simp only [go_sem]) (by first | rfl | simp [upd_ap, hpL_ap, tau, mapT, mapTL, bytesI_len, c6, c8, eq_false c191, eq_false c196, eq_false c211, c218])) (.nil _)
          · clear h
            rintro ⟨⟩ h
            rw [f15_j6] at h
            refine AW.seq ?_
            obtain ⟨x181, hx181, h⟩ := Option.bind_eq_some_iff.1 h
            obtain ⟨x182, hx182, h⟩ := Option.bind_eq_some_iff.1 h
            obtain ⟨x183, hx183, h⟩ := Option.bind_eq_some_iff.1 h
            refine AW.regdL [0, 1, 5, 6, 7] [[], [0], [0, 1], [], [3], [3, 4], [0, 1, 2, 3, 4, 5], [0, 1, 2, 3, 4, 5, 6], [0, 1, 2, 3, 4, 5, 6, 7], [0, 1, 2, 3, 4, 5, 6, 7], [0, 1, 2, 3, 4, 5, 6, 7, 8], [0, 1, 2, 3, 4, 5, 6, 7, 8, 9, 10]] [0, 1, 2, 3, 4, 5, 6, 7, 8, 9, 10, 11] (tab [(66, [.agg [.val (.string x181.Key), .val (.string x181.Val), .sl (List.map enc3 x181.Offs)], .agg [.val (.string x182.Key), .val (.string x182.Val), .sl (List.map enc3 x182.Offs)]], .tup [.val (.int .i64 x183.1), .val (.bool x183.2)])]) (tab_cons (ok66 x181 x182 x183 hx183) Try.call66 tab_nil) draws (by kernel_rfl) (by kernel_rfl) ?_
            generalize hK : AW Try.prog _ _ _ = K
            simp only [go_sem, ↓reduceIte, reduceCtorEq, Nat.reduceAdd, Nat.reduceSub, Nat.reduceMul, Nat.reduceEqDiff, Nat.reduceLT, Nat.reduceLeDiff, Nat.reduceBEq, Int.reduceAdd, Int.reduceSub, Int.reduceLT, Int.reduceLE, Int.reduceEq, Int.reduceToNat, c6, c8, hx181, hx182]
            subst hK
            refine AW.regL [0, 1, 5, 6, 89] ?_
            generalize hK : AW Try.prog _ _ _ = K
            simp only [go_sem, ↓reduceIte, reduceCtorEq, Nat.reduceAdd, Nat.reduceSub, Nat.reduceMul, Nat.reduceEqDiff, Nat.reduceLT, Nat.reduceLeDiff, Nat.reduceBEq, Int.reduceAdd, Int.reduceSub, Int.reduceLT, Int.reduceLE, Int.reduceEq, Int.reduceToNat, c6, c8]
            subst hK
            by_cases c184 : x183.2 = true
            · rw [if_pos c184] at h
              refine AW.ifBT rfl c184 ?_
              obtain ⟨x185, hx185, h⟩ := Option.bind_eq_some_iff.1 h
              obtain ⟨x186, hx186, h⟩ := Option.bind_eq_some_iff.1 h
              obtain ⟨hx186b, hx186e⟩ := appO?_some.1 hx186
              have hx186f : ∀ id o : Nat, appO 4 64 id ([[.val (.int .i64 x183.1), .val (.string x185.Key), .val (.string x185.Val), .sl (List.map enc3 x185.Offs)]]) 0 s1_2.length o (some (.row 4 true (List.map encChange s1_2))) = some ⟨.own id 0 x186.length, [(o, none), (id, some (.row 4 true (List.map encChange x186)))]⟩ := fun id o => by
                subst hx186e; rw [appO_ok (by simp) (by simpa using hx186b) (by decide)]; first | (simp [encChange]; done) | (simp [encChange]; omega)
              refine AW.regionL [0, 1, 5] ?_
              generalize hK : thenA _ _ Exit.normal = K
              simp only [go_sem, ↓reduceIte, reduceCtorEq, Nat.reduceAdd, Nat.reduceSub, Nat.reduceMul, Nat.reduceEqDiff, Nat.reduceLT, Nat.reduceLeDiff, Nat.reduceBEq, Int.reduceAdd, Int.reduceSub, Int.reduceLT, Int.reduceLE, Int.reduceEq, Int.reduceToNat, c6, c8, c184, hx182, hx186f]
              refine arC.of (ok65 x182 x185 hx185) Try.call65 ?_
              simp only [go_sem, ↓reduceIte, reduceCtorEq, Nat.reduceAdd, Nat.reduceSub, Nat.reduceMul, Nat.reduceEqDiff, Nat.reduceLT, Nat.reduceLeDiff, Nat.reduceBEq, Int.reduceAdd, Int.reduceSub, Int.reduceLT, Int.reduceLE, Int.reduceEq, Int.reduceToNat, c6, c8, c184, hx182, hx186f]
              subst hK
              refine thenA_n ?_
              obtain ⟨x187, hx187, h⟩ := Option.bind_eq_some_iff.1 h
              obtain ⟨x188, hx188, h⟩ := Option.bind_eq_some_iff.1 h
              refine AW.drawL [0, 1, 5] [[], [0], [], [2], [0, 1], [0, 1, 2, 3, 4]] [0, 1, 2, 3, 4, 5] noFt (fun _ _ _ h => by simp [noFt] at h) draws (by kernel_rfl) (by kernel_rfl) ?_
              generalize hK : inBlockA _ _ Exit.normal = K
              simp only [go_sem, ↓reduceIte, reduceCtorEq, Nat.reduceAdd, Nat.reduceSub, Nat.reduceMul, Nat.reduceEqDiff, Nat.reduceLT, Nat.reduceLeDiff, Nat.reduceBEq, Int.reduceAdd, Int.reduceSub, Int.reduceLT, Int.reduceLE, Int.reduceEq, Int.reduceToNat, c6, c8, c184, cut_sn el22 sz35 (ml_encRes _) hx187, cut_sn el22 sz35 (ml_encRes _) hx188]
              subst hK
              refine block_n ?_
              refine thenA_n ?_
              refine ⟨_, (Option.some.inj h).symm, ?_⟩
              refine Ent.can [177] _ _ _ rfl (by first | decide | simp) rfl ?_ ?_ ?_
              · exact (((RF.any.pv (by first | rfl | simp only [go_sem]) (by first | rfl | simp [upd_ap, hpL_ap, tau, mapT, mapTL, bytesI_len, c6, c8, c184])).pv (by first | rfl | simp only [go_sem]) (by first | rfl | simp [upd_ap, hpL_ap, tau, mapT, mapTL, bytesI_len, c6, c8, c184])).po (by decide) (by first | rfl | simp [upd_ap, hpL_ap, tau, mapT, mapTL, bytesI_len, c6, c8, c184]))
              · exact .nil _
              · exact .cons (.eq (by first | rfl | simp only [go_sem]) (by first | rfl | simp [upd_ap, hpL_ap, tau, mapT, mapTL, bytesI_len, c6, c8, c184])) (.nil _)
            · rw [if_neg c184] at h
              rw [Bool.not_eq_true] at c184
              refine AW.ifBF rfl c184 ?_
              refine AW.skip ?_
              refine thenA_n ?_
              obtain ⟨x189, hx189, h⟩ := Option.bind_eq_some_iff.1 h
              obtain ⟨x190, hx190, h⟩ := Option.bind_eq_some_iff.1 h
              refine AW.drawL [0, 1, 5] [[], [0], [], [2], [0, 1], [0, 1, 2, 3, 4]] [0, 1, 2, 3, 4, 5] noFt (fun _ _ _ h => by simp [noFt] at h) draws (by kernel_rfl) (by kernel_rfl) ?_
              generalize hK : inBlockA _ _ Exit.normal = K
              simp only [go_sem, ↓reduceIte, reduceCtorEq, Nat.reduceAdd, Nat.reduceSub, Nat.reduceMul, Nat.reduceEqDiff, Nat.reduceLT, Nat.reduceLeDiff, Nat.reduceBEq, Int.reduceAdd, Int.reduceSub, Int.reduceLT, Int.reduceLE, Int.reduceEq, Int.reduceToNat, c6, c8, c184, cut_sn el22 sz35 (ml_encRes _) hx189, cut_sn el22 sz35 (ml_encRes _) hx190]
              subst hK
              refine block_n ?_
              refine thenA_n ?_
              refine ⟨_, (Option.some.inj h).symm, ?_⟩
              refine Ent.can [8] _ _ _ rfl (by first | decide | simp) rfl ?_ ?_ ?_
              · exact (((RF.any.pv (by first | rfl | simp only [go_sem]) (by first | rfl | simp [upd_ap, hpL_ap, tau, mapT, mapTL, bytesI_len, c6, c8, c184])).pv (by first | rfl | simp only [go_sem]) (by first | rfl | simp [upd_ap, hpL_ap, tau, mapT, mapTL, bytesI_len, c6, c8, c184])).po (by decide) (by first | rfl | simp [upd_ap, hpL_ap, tau, mapT, mapTL, bytesI_len, c6, c8, c184]))
              · exact .nil _
              · exact .cons (.eq (by first | rfl | simp only [go_sem]) (by first | rfl | simp [upd_ap, hpL_ap, tau, mapT, mapTL, bytesI_len, c6, c8, c184])) (.nil _)
      · intro e st' hX
        try dsimp only at h
        try dsimp only at hX
        obtain ⟨rfl, rfl⟩ := hX
        refine ⟨_, Ent.refl, ?_⟩
        refine block_x ?_
        refine thenA_n ?_
        refine AW.regL [4] ?_
        generalize hK : AW Try.prog _ _ _ = K
        simp only [go_sem, ↓reduceIte, reduceCtorEq, Nat.reduceAdd, Nat.reduceSub, Nat.reduceMul, Nat.reduceEqDiff, Nat.reduceLT, Nat.reduceLeDiff, Nat.reduceBEq, Int.reduceAdd, Int.reduceSub, Int.reduceLT, Int.reduceLE, Int.reduceEq, Int.reduceToNat, c6, c8]
        subst hK
        refine AW.ret ?_
        refine scope_r ?_
        obtain rfl := Option.some.inj h
        (simp only [go_sem, ↓reduceIte, reduceCtorEq, Nat.reduceAdd, Nat.reduceSub, Nat.reduceMul, Nat.reduceEqDiff, Nat.reduceLT, Nat.reduceLeDiff, Nat.reduceBEq, Int.reduceAdd, Int.reduceSub, Int.reduceLT, Int.reduceLE, Int.reduceEq, Int.reduceToNat, c6, c8, finA, resA, resOf_1, resOf_2, sealV_val, sealV_sl, sealV_ip, sealV_agg, sealV_tup, sealV_own, sealL_nil, sealL_cons] <;> try simp)
    · rw [if_neg c8] at h
      rw [Bool.not_eq_true] at c8
      refine AW.ifBT rfl (by rw [c8]; rfl) ?_
      refine AW.regL [4] ?_
      generalize hK : AW Try.prog _ _ _ = K
      simp only [go_sem, ↓reduceIte, reduceCtorEq, Nat.reduceAdd, Nat.reduceSub, Nat.reduceMul, Nat.reduceEqDiff, Nat.reduceLT, Nat.reduceLeDiff, Nat.reduceBEq, Int.reduceAdd, Int.reduceSub, Int.reduceLT, Int.reduceLE, Int.reduceEq, Int.reduceToNat, c6, c8]
      subst hK
      refine AW.ent (Ent.nilOwn 4 4 (by decide) rfl) ?_
      refine AW.ret ?_
      refine thenA_r ?_
      refine scope_r ?_
      obtain rfl := Option.some.inj h
      (simp only [go_sem, ↓reduceIte, reduceCtorEq, Nat.reduceAdd, Nat.reduceSub, Nat.reduceMul, Nat.reduceEqDiff, Nat.reduceLT, Nat.reduceLeDiff, Nat.reduceBEq, Int.reduceAdd, Int.reduceSub, Int.reduceLT, Int.reduceLE, Int.reduceEq, Int.reduceToNat, c6, c8, finA, resA, resOf_1, resOf_2, sealV_val, sealV_sl, sealV_ip, sealV_agg, sealV_tup, sealV_own, sealL_nil, sealL_cons] <;> try simp)
  · rw [if_neg c6] at h
    rw [Bool.not_eq_true] at c6
    refine AW.regL [0, 1, 15] ?_
    generalize hK : AW Try.prog _ _ _ = K
    simp only [go_sem, ↓reduceIte, reduceCtorEq, Nat.reduceAdd, Nat.reduceSub, Nat.reduceMul, Nat.reduceEqDiff, Nat.reduceLT, Nat.reduceLeDiff, Nat.reduceBEq, Int.reduceAdd, Int.reduceSub, Int.reduceLT, Int.reduceLE, Int.reduceEq, Int.reduceToNat, c6]
    refine arC.of (ok64 a0 x5 hx5) Try.call64 ?_
    simp only [go_sem, ↓reduceIte, reduceCtorEq, Nat.reduceAdd, Nat.reduceSub, Nat.reduceMul, Nat.reduceEqDiff, Nat.reduceLT, Nat.reduceLeDiff, Nat.reduceBEq, Int.reduceAdd, Int.reduceSub, Int.reduceLT, Int.reduceLE, Int.reduceEq, Int.reduceToNat, c6]
    subst hK
    refine AW.ifBT rfl rfl ?_
    refine AW.regL [4] ?_
    generalize hK : AW Try.prog _ _ _ = K
    simp only [go_sem, ↓reduceIte, reduceCtorEq, Nat.reduceAdd, Nat.reduceSub, Nat.reduceMul, Nat.reduceEqDiff, Nat.reduceLT, Nat.reduceLeDiff, Nat.reduceBEq, Int.reduceAdd, Int.reduceSub, Int.reduceLT, Int.reduceLE, Int.reduceEq, Int.reduceToNat, c6]
    subst hK
    refine AW.ent (Ent.nilOwn 4 4 (by decide) rfl) ?_
    refine AW.ret ?_
    refine thenA_r ?_
    refine scope_r ?_
    obtain rfl := Option.some.inj h
    (simp only [go_sem, ↓reduceIte, reduceCtorEq, Nat.reduceAdd, Nat.reduceSub, Nat.reduceMul, Nat.reduceEqDiff, Nat.reduceLT, Nat.reduceLeDiff, Nat.reduceBEq, Int.reduceAdd, Int.reduceSub, Int.reduceLT, Int.reduceLE, Int.reduceEq, Int.reduceToNat, c6, finA, resA, resOf_1, resOf_2, sealV_val, sealV_sl, sealV_ip, sealV_agg, sealV_tup, sealV_own, sealL_nil, sealL_cons] <;> try simp)
end Au
end Go.Proofs.Y1
