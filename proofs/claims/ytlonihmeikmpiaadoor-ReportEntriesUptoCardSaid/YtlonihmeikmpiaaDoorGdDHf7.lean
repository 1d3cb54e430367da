import Derived.Test.YtlonihmeikmpiaaDoorGdDH
import Derived.Test.YtlonihmeikmpiaaDoorGdDHf23
import Derived.Test.YtlonihmeikmpiaaDoorGdDHf24
set_option linter.all false
set_option linter.unusedVariables false
set_option linter.unusedSimpArgs false
set_option linter.all false
set_option maxRecDepth 8000
set_option maxHeartbeats 1000000
namespace Go.Proofs.Yd
open Go.Gm
namespace Au
noncomputable def f7_s1 (a0 : Entry) : ByteArray × Int → Option ((ByteArray × Int) ⊕ ByteArray)
  | (s1_0, s1_1) => (if s1_1 < (a0.Sums.length : Int) then ((catO s1_0 ⟨#[32]⟩).bind fun x29 => ((ix a0.Sums s1_1).bind fun x30 => ((f24 x30).bind fun x31 => ((cutSO? x31 0 8).bind fun x32 => ((catO x29 x32).bind fun x33 => some (.inl (x33, IntKind.i64.wrap (s1_1 + 1)))))))) else some (.inr s1_0))
noncomputable def f7_j1 (a0 : Entry) : ByteArray → Option ByteArray
  | j1_0 => ((catO j1_0 ⟨#[32]⟩).bind fun x4 => ((f23 a0.A).bind fun x5 => ((catO x4 x5).bind fun x6 => ((catO x6 ⟨#[32]⟩).bind fun x7 => ((f23 a0.B).bind fun x8 => ((catO x7 x8).bind fun x9 => ((catO x9 ⟨#[32]⟩).bind fun x10 => ((f23 a0.C).bind fun x11 => ((catO x10 x11).bind fun x12 => ((loopO (f7_s1 a0) (x12, 0)).bind fun y35 => some y35))))))))))
noncomputable def f7 (a0 : Entry) : Option ByteArray := (if 0 ≤ a0.Kind then (if a0.Kind < 6 then ((ix ([⟨#[98, 101, 103, 105, 110]⟩, ⟨#[97, 115, 115, 105, 103, 110]⟩, ⟨#[109, 97, 112, 112, 101, 100]⟩, ⟨#[99, 111, 109, 109, 105, 116]⟩, ⟨#[100, 111, 110, 101]⟩, ⟨#[102, 97, 105, 108, 101, 100]⟩] : List ByteArray) a0.Kind).bind fun x38 => f7_j1 a0 x38) else f7_j1 a0 ⟨#[63]⟩) else f7_j1 a0 ⟨#[63]⟩)
theorem ok7 (a0 : Entry) (r : ByteArray) (h : f7 a0 = some r) : PC Tryd.prog 7 [.agg (encEntry a0)] (.val (.string r)) := by
  rw [f7] at h
  refine pc_of8 (N := 52) (rs := [.tmp 2]) Tryd.func7 rfl rfl rfl (Nat.le_of_ble_eq_true rfl) ?_
  refine AW.regL [1] ?_
  generalize hK : AW Tryd.prog _ _ _ = K
  simp only [go_sem, ↓reduceIte, reduceCtorEq, Nat.reduceAdd, Nat.reduceSub, Nat.reduceMul, Nat.reduceEqDiff, Nat.reduceLT, Nat.reduceLeDiff, Nat.reduceBEq, Int.reduceAdd, Int.reduceSub, Int.reduceLT, Int.reduceLE, Int.reduceEq, Int.reduceToNat]
  subst hK
  refine AW.regL [1, 3] ?_
  generalize hK : AW Tryd.prog _ _ _ = K
  simp only [go_sem, ↓reduceIte, reduceCtorEq, Nat.reduceAdd, Nat.reduceSub, Nat.reduceMul, Nat.reduceEqDiff, Nat.reduceLT, Nat.reduceLeDiff, Nat.reduceBEq, Int.reduceAdd, Int.reduceSub, Int.reduceLT, Int.reduceLE, Int.reduceEq, Int.reduceToNat]
  subst hK
  refine AW.join (fun s => ⟨(upd (upd anyF 1 (.ptr 8 0 0)) 3 (.val (.string s))), hpL [] [some (.row 5 true [[.val (.int .i64 a0.Kind), .val (.int .i64 a0.A), .val (.int .i64 a0.B), .val (.int .i64 a0.C), .sl (List.map enc46 a0.Sums)]])], 9⟩) (fun s => f7_j1 a0 s = some r) ?_ ?_
  · by_cases c36 : 0 ≤ a0.Kind
    · rw [if_pos c36] at h
      refine AW.regL [1, 3, 12] ?_
      generalize hK : AW Tryd.prog _ _ _ = K
      simp only [go_sem, ↓reduceIte, reduceCtorEq, Nat.reduceAdd, Nat.reduceSub, Nat.reduceMul, Nat.reduceEqDiff, Nat.reduceLT, Nat.reduceLeDiff, Nat.reduceBEq, Int.reduceAdd, Int.reduceSub, Int.reduceLT, Int.reduceLE, Int.reduceEq, Int.reduceToNat, eq_true c36]
      subst hK
      by_cases c37 : a0.Kind < 6
      · rw [if_pos c37] at h
        refine AW.ifT rfl c37 ?_
        obtain ⟨x38, hx38, h⟩ := Option.bind_eq_some_iff.1 h
        obtain ⟨hx38a, hx38b⟩ := ix_some.1 hx38
        have hx38l : a0.Kind.toNat < 6 := (List.getElem?_eq_some_iff.1 hx38b).1
        have hx38m : ([[.val (.string ⟨#[98, 101, 103, 105, 110]⟩)], [.val (.string ⟨#[97, 115, 115, 105, 103, 110]⟩)], [.val (.string ⟨#[109, 97, 112, 112, 101, 100]⟩)], [.val (.string ⟨#[99, 111, 109, 109, 105, 116]⟩)], [.val (.string ⟨#[100, 111, 110, 101]⟩)], [.val (.string ⟨#[102, 97, 105, 108, 101, 100]⟩)]] : List (List AV))[a0.Kind.toNat]? = some (enc9 x38) := map_ix (enc := enc9) (l := [⟨#[98, 101, 103, 105, 110]⟩, ⟨#[97, 115, 115, 105, 103, 110]⟩, ⟨#[109, 97, 112, 112, 101, 100]⟩, ⟨#[99, 111, 109, 109, 105, 116]⟩, ⟨#[100, 111, 110, 101]⟩, ⟨#[102, 97, 105, 108, 101, 100]⟩]) hx38b
        refine AW.regionL [1, 3] ?_
        generalize hK : thenA _ _ Exit.normal = K
        simp only [go_sem, ↓reduceIte, reduceCtorEq, Nat.reduceAdd, Nat.reduceSub, Nat.reduceMul, Nat.reduceEqDiff, Nat.reduceLT, Nat.reduceLeDiff, Nat.reduceBEq, Int.reduceAdd, Int.reduceSub, Int.reduceLT, Int.reduceLE, Int.reduceEq, Int.reduceToNat, eq_true c36, eq_true c37, natOf_le hx38a, hx38m, eq_true hx38l]
        subst hK
        refine thenA_n ?_
        refine ⟨_, h, ?_⟩
        refine Ent.can [8] _ _ _ rfl (by first | decide | simp) rfl ?_ ?_ ?_
        · exact ((RF.any.pp (by decide) (by first | rfl | simp [upd_ap, hpL_ap, tau, mapT, mapTL, bytesI_len, eq_true c36, eq_true c37])).pv (by first | rfl | simp only [go_sem]) (by first | rfl | simp [upd_ap, hpL_ap, tau, mapT, mapTL, bytesI_len, eq_true c36, eq_true c37]))
        · exact .nil _
        · exact .cons (.eq (by first | rfl | simp only [go_sem]) (by first | rfl | simp [upd_ap, hpL_ap, tau, mapT, mapTL, bytesI_len, eq_true c36, eq_true c37])) (.nil _)
      · rw [if_neg c37] at h
        refine AW.ifF rfl c37 ?_
        refine AW.skip ?_
        refine thenA_n ?_
        refine ⟨_, h, ?_⟩
        refine Ent.can [8] _ _ _ rfl (by first | decide | simp) rfl ?_ ?_ ?_
        · exact ((RF.any.pp (by decide) (by first | rfl | simp [upd_ap, hpL_ap, tau, mapT, mapTL, bytesI_len, eq_true c36, eq_false c37])).pv (by first | rfl | simp only [go_sem]) (by first | rfl | simp [upd_ap, hpL_ap, tau, mapT, mapTL, bytesI_len, eq_true c36, eq_false c37]))
        · exact .nil _
        · exact .cons (.eq (by first | rfl | simp only [go_sem]) (by first | rfl | simp [upd_ap, hpL_ap, tau, mapT, mapTL, bytesI_len, eq_true c36, eq_false c37])) (.nil _)
    · rw [if_neg c36] at h
      refine AW.regL [1, 3, 12] ?_
      generalize hK : AW Tryd.prog _ _ _ = K
      simp only [go_sem, ↓reduceIte, reduceCtorEq, Nat.reduceAdd, Nat.reduceSub, Nat.reduceMul, Nat.reduceEqDiff, Nat.reduceLT, Nat.reduceLeDiff, Nat.reduceBEq, Int.reduceAdd, Int.reduceSub, Int.reduceLT, Int.reduceLE, Int.reduceEq, Int.reduceToNat, eq_false c36]
      subst hK
      refine AW.ifBF rfl rfl ?_
      refine AW.skip ?_
      refine thenA_n ?_
      refine ⟨_, h, ?_⟩
      refine Ent.can [8] _ _ _ rfl (by first | decide | simp) rfl ?_ ?_ ?_
      · exact ((RF.any.pp (by decide) (by first | rfl | simp [upd_ap, hpL_ap, tau, mapT, mapTL, bytesI_len, eq_false c36])).pv (by first | rfl | simp only [go_sem]) (by first | rfl | simp [upd_ap, hpL_ap, tau, mapT, mapTL, bytesI_len, eq_false c36]))
      · exact .nil _
      · exact .cons (.eq (by first | rfl | simp only [go_sem]) (by first | rfl | simp [upd_ap, hpL_ap, tau, mapT, mapTL, bytesI_len, eq_false c36])) (.nil _)
  · clear h
    rintro j1_0 h
    rw [f7_j1] at h
    obtain ⟨x4, hx4, h⟩ := Option.bind_eq_some_iff.1 h
    obtain ⟨x5, hx5, h⟩ := Option.bind_eq_some_iff.1 h
    obtain ⟨x6, hx6, h⟩ := Option.bind_eq_some_iff.1 h
    obtain ⟨x7, hx7, h⟩ := Option.bind_eq_some_iff.1 h
    obtain ⟨x8, hx8, h⟩ := Option.bind_eq_some_iff.1 h
    obtain ⟨x9, hx9, h⟩ := Option.bind_eq_some_iff.1 h
    obtain ⟨x10, hx10, h⟩ := Option.bind_eq_some_iff.1 h
    obtain ⟨x11, hx11, h⟩ := Option.bind_eq_some_iff.1 h
    obtain ⟨x12, hx12, h⟩ := Option.bind_eq_some_iff.1 h
    refine AW.regdL [1, 3] [[], [0], [], [2], [2, 3], [0, 1, 2, 3, 4], [0, 1, 2, 3, 4, 5], [], [7], [2, 3, 4, 7, 8], [0, 1, 2, 3, 4, 5, 6, 7, 8, 9], [0, 1, 2, 3, 4, 5, 6, 7, 8, 9, 10], [], [12], [2, 3, 4, 7, 8, 9, 12, 13], [0, 1, 2, 3, 4, 5, 6, 7, 8, 9, 10, 11, 12, 13, 14], [0, 1, 2, 3, 4, 5, 6, 7, 8, 9, 10, 11, 12, 13, 14, 15]] [0, 1, 2, 3, 4, 5, 6, 7, 8, 9, 10, 11, 12, 13, 14, 15, 16] noFt (fun _ _ _ h => by simp [noFt] at h) draws (by kernel_rfl) (by kernel_rfl) ?_
    generalize hK : AW Tryd.prog _ _ _ = K
    simp only [go_sem, ↓reduceIte, reduceCtorEq, Nat.reduceAdd, Nat.reduceSub, Nat.reduceMul, Nat.reduceEqDiff, Nat.reduceLT, Nat.reduceLeDiff, Nat.reduceBEq, Int.reduceAdd, Int.reduceSub, Int.reduceLT, Int.reduceLE, Int.reduceEq, Int.reduceToNat, binV_cat hx4, binV_cat hx6, binV_cat hx7, binV_cat hx9, binV_cat hx10, binV_cat hx12]
    refine adN.pc (ok23 a0.A x5 hx5) Tryd.call23 callV_fn (by simp only [go_sem, ↓reduceIte, reduceCtorEq, Nat.reduceAdd, Nat.reduceSub, Nat.reduceMul, Nat.reduceEqDiff, Nat.reduceLT, Nat.reduceLeDiff, Nat.reduceBEq, Int.reduceAdd, Int.reduceSub, Int.reduceLT, Int.reduceLE, Int.reduceEq, Int.reduceToNat, binV_cat hx4, binV_cat hx6, binV_cat hx7, binV_cat hx9, binV_cat hx10, binV_cat hx12]) (by simp only [go_sem, ↓reduceIte, reduceCtorEq, Nat.reduceAdd, Nat.reduceSub, Nat.reduceMul, Nat.reduceEqDiff, Nat.reduceLT, Nat.reduceLeDiff, Nat.reduceBEq, Int.reduceAdd, Int.reduceSub, Int.reduceLT, Int.reduceLE, Int.reduceEq, Int.reduceToNat]) ?_
    simp only [go_sem, ↓reduceIte, reduceCtorEq, Nat.reduceAdd, Nat.reduceSub, Nat.reduceMul, Nat.reduceEqDiff, Nat.reduceLT, Nat.reduceLeDiff, Nat.reduceBEq, Int.reduceAdd, Int.reduceSub, Int.reduceLT, Int.reduceLE, Int.reduceEq, Int.reduceToNat, binV_cat hx4, binV_cat hx6, binV_cat hx7, binV_cat hx9, binV_cat hx10, binV_cat hx12]
    refine adN.pc (ok23 a0.B x8 hx8) Tryd.call23 callV_fn (by simp only [go_sem, ↓reduceIte, reduceCtorEq, Nat.reduceAdd, Nat.reduceSub, Nat.reduceMul, Nat.reduceEqDiff, Nat.reduceLT, Nat.reduceLeDiff, Nat.reduceBEq, Int.reduceAdd, Int.reduceSub, Int.reduceLT, Int.reduceLE, Int.reduceEq, Int.reduceToNat, binV_cat hx4, binV_cat hx6, binV_cat hx7, binV_cat hx9, binV_cat hx10, binV_cat hx12]) (by simp only [go_sem, ↓reduceIte, reduceCtorEq, Nat.reduceAdd, Nat.reduceSub, Nat.reduceMul, Nat.reduceEqDiff, Nat.reduceLT, Nat.reduceLeDiff, Nat.reduceBEq, Int.reduceAdd, Int.reduceSub, Int.reduceLT, Int.reduceLE, Int.reduceEq, Int.reduceToNat]) ?_
    simp only [go_sem, ↓reduceIte, reduceCtorEq, Nat.reduceAdd, Nat.reduceSub, Nat.reduceMul, Nat.reduceEqDiff, Nat.reduceLT, Nat.reduceLeDiff, Nat.reduceBEq, Int.reduceAdd, Int.reduceSub, Int.reduceLT, Int.reduceLE, Int.reduceEq, Int.reduceToNat, binV_cat hx4, binV_cat hx6, binV_cat hx7, binV_cat hx9, binV_cat hx10, binV_cat hx12]
    refine adN.pc (ok23 a0.C x11 hx11) Tryd.call23 callV_fn (by simp only [go_sem, ↓reduceIte, reduceCtorEq, Nat.reduceAdd, Nat.reduceSub, Nat.reduceMul, Nat.reduceEqDiff, Nat.reduceLT, Nat.reduceLeDiff, Nat.reduceBEq, Int.reduceAdd, Int.reduceSub, Int.reduceLT, Int.reduceLE, Int.reduceEq, Int.reduceToNat, binV_cat hx4, binV_cat hx6, binV_cat hx7, binV_cat hx9, binV_cat hx10, binV_cat hx12]) (by simp only [go_sem, ↓reduceIte, reduceCtorEq, Nat.reduceAdd, Nat.reduceSub, Nat.reduceMul, Nat.reduceEqDiff, Nat.reduceLT, Nat.reduceLeDiff, Nat.reduceBEq, Int.reduceAdd, Int.reduceSub, Int.reduceLT, Int.reduceLE, Int.reduceEq, Int.reduceToNat]) ?_
    simp only [go_sem, ↓reduceIte, reduceCtorEq, Nat.reduceAdd, Nat.reduceSub, Nat.reduceMul, Nat.reduceEqDiff, Nat.reduceLT, Nat.reduceLeDiff, Nat.reduceBEq, Int.reduceAdd, Int.reduceSub, Int.reduceLT, Int.reduceLE, Int.reduceEq, Int.reduceToNat, binV_cat hx4, binV_cat hx6, binV_cat hx7, binV_cat hx9, binV_cat hx10, binV_cat hx12]
    subst hK
    refine AW.seq ?_
    refine AW.regL [1, 3, 4] ?_
    generalize hK : AW Tryd.prog _ _ _ = K
    simp only [go_sem, ↓reduceIte, reduceCtorEq, Nat.reduceAdd, Nat.reduceSub, Nat.reduceMul, Nat.reduceEqDiff, Nat.reduceLT, Nat.reduceLeDiff, Nat.reduceBEq, Int.reduceAdd, Int.reduceSub, Int.reduceLT, Int.reduceLE, Int.reduceEq, Int.reduceToNat]
    subst hK
    refine AW.block ?_
    obtain ⟨y35, hy35, h⟩ := Option.bind_eq_some_iff.1 h
    refine AW.loopO (fun s => ⟨(upd (upd (upd anyF 1 (.ptr 8 0 0)) 3 (.val (.string s.1))) 4 (.val (.int .i64 s.2))), hpL [] [some (.row 5 true [[.val (.int .i64 a0.Kind), .val (.int .i64 a0.A), .val (.int .i64 a0.B), .val (.int .i64 a0.C), .sl (List.map enc46 a0.Sums)]])], 9⟩) (fun z e st' => e = Exit.exit 0 ∧ st' = ⟨(upd anyF 3 (.val (.string z))), hpL [] [], 8⟩) hy35 ?_ ?_ ?_
    · refine Ent.can [8] _ _ _ rfl (by first | decide | simp) rfl ?_ ?_ ?_
      · exact (((RF.any.pp (by decide) (by first | rfl | simp [upd_ap, hpL_ap, tau, mapT, mapTL, bytesI_len])).pv (by first | rfl | simp only [go_sem]) (by first | rfl | simp [upd_ap, hpL_ap, tau, mapT, mapTL, bytesI_len])).pv (by first | rfl | simp only [go_sem]) (by first | rfl | simp [upd_ap, hpL_ap, tau, mapT, mapTL, bytesI_len]))
      · exact .nil _
      · exact .cons (.eq (by first | rfl | simp only [go_sem]) (by first | rfl | simp [upd_ap, hpL_ap, tau, mapT, mapTL, bytesI_len])) (.nil _)
    · clear h hy35
      rintro ⟨s1_0, s1_1⟩ x h
      rw [f7_s1] at h
      refine AW.seq ?_
      refine AW.regL [1, 3, 4, 38] ?_
      generalize hK : AW Tryd.prog _ _ _ = K
      simp only [go_sem, ↓reduceIte, reduceCtorEq, Nat.reduceAdd, Nat.reduceSub, Nat.reduceMul, Nat.reduceEqDiff, Nat.reduceLT, Nat.reduceLeDiff, Nat.reduceBEq, Int.reduceAdd, Int.reduceSub, Int.reduceLT, Int.reduceLE, Int.reduceEq, Int.reduceToNat]
      subst hK
      by_cases c28 : s1_1 < (a0.Sums.length : Int)
      · rw [if_pos c28] at h
        refine AW.ifT rfl c28 ?_
        refine AW.skip ?_
        refine thenA_n ?_
        refine AW.seq ?_
        refine AW.block ?_
        obtain ⟨x29, hx29, h⟩ := Option.bind_eq_some_iff.1 h
        obtain ⟨x30, hx30, h⟩ := Option.bind_eq_some_iff.1 h
        obtain ⟨hx30a, hx30b⟩ := ix_some.1 hx30
        obtain ⟨x31, hx31, h⟩ := Option.bind_eq_some_iff.1 h
        obtain ⟨x32, hx32, h⟩ := Option.bind_eq_some_iff.1 h
        obtain ⟨x33, hx33, h⟩ := Option.bind_eq_some_iff.1 h
        refine AW.regionL [1, 3, 4] ?_
        generalize hK : inBlockA _ _ Exit.normal = K
        simp only [go_sem, ↓reduceIte, reduceCtorEq, Nat.reduceAdd, Nat.reduceSub, Nat.reduceMul, Nat.reduceEqDiff, Nat.reduceLT, Nat.reduceLeDiff, Nat.reduceBEq, Int.reduceAdd, Int.reduceSub, Int.reduceLT, Int.reduceLE, Int.reduceEq, Int.reduceToNat, eq_true c28, binV_cat hx29, natOf_le hx30a, hx30b, strCut_ns st9 hx32, binV_cat hx33]
        refine arC.of (ok24 x30 x31 hx31) Tryd.call24 ?_
        simp only [go_sem, ↓reduceIte, reduceCtorEq, Nat.reduceAdd, Nat.reduceSub, Nat.reduceMul, Nat.reduceEqDiff, Nat.reduceLT, Nat.reduceLeDiff, Nat.reduceBEq, Int.reduceAdd, Int.reduceSub, Int.reduceLT, Int.reduceLE, Int.reduceEq, Int.reduceToNat, eq_true c28, binV_cat hx29, natOf_le hx30a, hx30b, strCut_ns st9 hx32, binV_cat hx33]
        subst hK
        refine block_n ?_
        refine thenA_n ?_
        refine AW.regionL [1, 3, 4] ?_
        generalize hK : thenA _ _ Exit.normal = K
        simp only [go_sem, ↓reduceIte, reduceCtorEq, Nat.reduceAdd, Nat.reduceSub, Nat.reduceMul, Nat.reduceEqDiff, Nat.reduceLT, Nat.reduceLeDiff, Nat.reduceBEq, Int.reduceAdd, Int.reduceSub, Int.reduceLT, Int.reduceLE, Int.reduceEq, Int.reduceToNat, eq_true c28]
        subst hK
        refine thenA_n ?_
        refine ⟨_, (Option.some.inj h).symm, ?_⟩
        refine Ent.can [8] _ _ _ rfl (by first | decide | simp) rfl ?_ ?_ ?_
        · exact (((RF.any.pp (by decide) (by first | rfl | simp [upd_ap, hpL_ap, tau, mapT, mapTL, bytesI_len, eq_true c28])).pv (by first | rfl | simp only [go_sem]) (by first | rfl | simp [upd_ap, hpL_ap, tau, mapT, mapTL, bytesI_len, eq_true c28])).pv (by first | rfl | simp only [go_sem]) (by first | rfl | simp [upd_ap, hpL_ap, tau, mapT, mapTL, bytesI_len, eq_true c28]))
        · exact .nil _
        · exact .cons (.eq (by first | rfl | simp only [go_sem]) (by first | rfl | simp [upd_ap, hpL_ap, tau, mapT, mapTL, bytesI_len, eq_true c28])) (.nil _)
      · rw [if_neg c28] at h
        refine AW.ifF rfl c28 ?_
        refine AW.exit ?_
        refine thenA_x ?_
        refine thenA_x ?_
        refine ⟨_, (Option.some.inj h).symm, _, ?_, rfl, rfl⟩
        refine Ent.can [] _ _ _ rfl (by first | decide | simp) rfl ?_ ?_ ?_
        · exact (RF.any.pv (by first | rfl | simp only [go_sem]) (by first | rfl | simp [upd_ap, hpL_ap, tau, mapT, mapTL, bytesI_len, eq_false c28]))
        · exact .nil _
        · exact .nil _
    · intro e st' hX
      try dsimp only at h
      try dsimp only at hX
      obtain ⟨rfl, rfl⟩ := hX
      refine ⟨_, Ent.refl, ?_⟩
      refine block_x ?_
      refine thenA_n ?_
      refine AW.regL [2] ?_
      generalize hK : AW Tryd.prog _ _ _ = K
      simp only [go_sem, ↓reduceIte, reduceCtorEq, Nat.reduceAdd, Nat.reduceSub, Nat.reduceMul, Nat.reduceEqDiff, Nat.reduceLT, Nat.reduceLeDiff, Nat.reduceBEq, Int.reduceAdd, Int.reduceSub, Int.reduceLT, Int.reduceLE, Int.reduceEq, Int.reduceToNat]
      subst hK
      refine AW.ret ?_
      obtain rfl := Option.some.inj h
      (simp only [go_sem, ↓reduceIte, reduceCtorEq, Nat.reduceAdd, Nat.reduceSub, Nat.reduceMul, Nat.reduceEqDiff, Nat.reduceLT, Nat.reduceLeDiff, Nat.reduceBEq, Int.reduceAdd, Int.reduceSub, Int.reduceLT, Int.reduceLE, Int.reduceEq, Int.reduceToNat, finA, resA, resOf_1, resOf_2, sealV_val, sealV_sl, sealV_ip, sealV_agg, sealV_tup, sealV_own, sealL_nil, sealL_cons, sealV_clo, resOf_clo] <;> try simp)
end Au
end Go.Proofs.Yd
