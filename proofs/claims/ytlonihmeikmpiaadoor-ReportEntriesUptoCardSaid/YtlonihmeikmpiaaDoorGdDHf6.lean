import Derived.Test.YtlonihmeikmpiaaDoorGdDH
import Derived.Test.YtlonihmeikmpiaaDoorGdDHf20
import Derived.Test.YtlonihmeikmpiaaDoorGdDHf21
import Derived.Test.YtlonihmeikmpiaaDoorGdDHf22
set_option linter.all false
set_option linter.unusedVariables false
set_option linter.unusedSimpArgs false
set_option linter.all false
set_option maxRecDepth 8000
set_option maxHeartbeats 1000000
namespace Go.Proofs.Yd
open Go.Gm
namespace Au
noncomputable def f6_s1 (a0 : Entry) : (List ByteArray) × Int → Option (((List ByteArray) × Int) ⊕ (List ByteArray))
  | (s1_0, s1_1) => (if s1_1 < (a0.Sums.length : Int) then ((ix a0.Sums s1_1).bind fun x24 => ((f21 x24).bind fun x25 => ((cutSO? x25 0 8).bind fun x26 => ((appO? s1_0 [x26]).bind fun x27 => some (.inl (x27, IntKind.i64.wrap (s1_1 + 1))))))) else some (.inr s1_0))
noncomputable def f6_j1 (a0 : Entry) : ByteArray → Option ByteArray
  | j1_0 => ((f20 a0.A).bind fun x4 => ((f20 a0.B).bind fun x5 => ((f20 a0.C).bind fun x6 => ((loopO (f6_s1 a0) ([j1_0, x4, x5, x6], 0)).bind fun y29 => ((f22 y29).bind fun x30 => some x30)))))
noncomputable def f6 (a0 : Entry) : Option ByteArray := (if 0 ≤ a0.Kind then (if a0.Kind < 6 then ((ix ([⟨#[98, 101, 103, 105, 110]⟩, ⟨#[97, 115, 115, 105, 103, 110]⟩, ⟨#[109, 97, 112, 112, 101, 100]⟩, ⟨#[99, 111, 109, 109, 105, 116]⟩, ⟨#[100, 111, 110, 101]⟩, ⟨#[102, 97, 105, 108, 101, 100]⟩] : List ByteArray) a0.Kind).bind fun x33 => f6_j1 a0 x33) else f6_j1 a0 ⟨#[63]⟩) else f6_j1 a0 ⟨#[63]⟩)
theorem ok6 (a0 : Entry) (r : ByteArray) (h : f6 a0 = some r) : PC Tryd.prog 6 [.agg (encEntry a0)] (.val (.string r)) := by
  rw [f6] at h
  refine pc_of8 (N := 47) (rs := [.tmp 2]) Tryd.func6 rfl rfl rfl (Nat.le_of_ble_eq_true rfl) ?_
  refine AW.regL [1] ?_
  generalize hK : AW Tryd.prog _ _ _ = K
  simp only [go_sem, ↓reduceIte, reduceCtorEq, Nat.reduceAdd, Nat.reduceSub, Nat.reduceMul, Nat.reduceEqDiff, Nat.reduceLT, Nat.reduceLeDiff, Nat.reduceBEq, Int.reduceAdd, Int.reduceSub, Int.reduceLT, Int.reduceLE, Int.reduceEq, Int.reduceToNat]
  subst hK
  refine AW.regL [1, 3] ?_
  generalize hK : AW Tryd.prog _ _ _ = K
  simp only [go_sem, ↓reduceIte, reduceCtorEq, Nat.reduceAdd, Nat.reduceSub, Nat.reduceMul, Nat.reduceEqDiff, Nat.reduceLT, Nat.reduceLeDiff, Nat.reduceBEq, Int.reduceAdd, Int.reduceSub, Int.reduceLT, Int.reduceLE, Int.reduceEq, Int.reduceToNat]
  subst hK
  refine AW.join (fun s => ⟨(upd (upd anyF 1 (.ptr 8 0 0)) 3 (.val (.string s))), hpL [] [some (.row 5 true [[.val (.int .i64 a0.Kind), .val (.int .i64 a0.A), .val (.int .i64 a0.B), .val (.int .i64 a0.C), .sl (List.map enc46 a0.Sums)]])], 9⟩) (fun s => f6_j1 a0 s = some r) ?_ ?_
  · by_cases c31 : 0 ≤ a0.Kind
    · rw [if_pos c31] at h
      refine AW.regL [1, 3, 14] ?_
      generalize hK : AW Tryd.prog _ _ _ = K
      simp only [go_sem, ↓reduceIte, reduceCtorEq, Nat.reduceAdd, Nat.reduceSub, Nat.reduceMul, Nat.reduceEqDiff, Nat.reduceLT, Nat.reduceLeDiff, Nat.reduceBEq, Int.reduceAdd, Int.reduceSub, Int.reduceLT, Int.reduceLE, Int.reduceEq, Int.reduceToNat, eq_true c31]
      subst hK
      by_cases c32 : a0.Kind < 6
      · rw [if_pos c32] at h
        refine AW.ifT rfl c32 ?_
        obtain ⟨x33, hx33, h⟩ := Option.bind_eq_some_iff.1 h
        obtain ⟨hx33a, hx33b⟩ := ix_some.1 hx33
        have hx33l : a0.Kind.toNat < 6 := (List.getElem?_eq_some_iff.1 hx33b).1
        have hx33m : ([[.val (.string ⟨#[98, 101, 103, 105, 110]⟩)], [.val (.string ⟨#[97, 115, 115, 105, 103, 110]⟩)], [.val (.string ⟨#[109, 97, 112, 112, 101, 100]⟩)], [.val (.string ⟨#[99, 111, 109, 109, 105, 116]⟩)], [.val (.string ⟨#[100, 111, 110, 101]⟩)], [.val (.string ⟨#[102, 97, 105, 108, 101, 100]⟩)]] : List (List AV))[a0.Kind.toNat]? = some (enc9 x33) := map_ix (enc := enc9) (l := [⟨#[98, 101, 103, 105, 110]⟩, ⟨#[97, 115, 115, 105, 103, 110]⟩, ⟨#[109, 97, 112, 112, 101, 100]⟩, ⟨#[99, 111, 109, 109, 105, 116]⟩, ⟨#[100, 111, 110, 101]⟩, ⟨#[102, 97, 105, 108, 101, 100]⟩]) hx33b
        refine AW.regionL [1, 3] ?_
        generalize hK : thenA _ _ Exit.normal = K
        simp only [go_sem, ↓reduceIte, reduceCtorEq, Nat.reduceAdd, Nat.reduceSub, Nat.reduceMul, Nat.reduceEqDiff, Nat.reduceLT, Nat.reduceLeDiff, Nat.reduceBEq, Int.reduceAdd, Int.reduceSub, Int.reduceLT, Int.reduceLE, Int.reduceEq, Int.reduceToNat, eq_true c31, eq_true c32, natOf_le hx33a, hx33m, eq_true hx33l]
        subst hK
        refine thenA_n ?_
        refine ⟨_, h, ?_⟩
        refine Ent.can [8] _ _ _ rfl (by first | decide | simp) rfl ?_ ?_ ?_
        · exact ((RF.any.pp (by decide) (by first | rfl | simp [upd_ap, hpL_ap, tau, mapT, mapTL, bytesI_len, eq_true c31, eq_true c32])).pv (by first | rfl | simp only [go_sem]) (by first | rfl | simp [upd_ap, hpL_ap, tau, mapT, mapTL, bytesI_len, eq_true c31, eq_true c32]))
        · exact .nil _
        · exact .cons (.eq (by first | rfl | simp only [go_sem]) (by first | rfl | simp [upd_ap, hpL_ap, tau, mapT, mapTL, bytesI_len, eq_true c31, eq_true c32])) (.nil _)
      · rw [if_neg c32] at h
        refine AW.ifF rfl c32 ?_
        refine AW.skip ?_
        refine thenA_n ?_
        refine ⟨_, h, ?_⟩
        refine Ent.can [8] _ _ _ rfl (by first | decide | simp) rfl ?_ ?_ ?_
        · exact ((RF.any.pp (by decide) (by first | rfl | simp [upd_ap, hpL_ap, tau, mapT, mapTL, bytesI_len, eq_true c31, eq_false c32])).pv (by first | rfl | simp only [go_sem]) (by first | rfl | simp [upd_ap, hpL_ap, tau, mapT, mapTL, bytesI_len, eq_true c31, eq_false c32]))
        · exact .nil _
        · exact .cons (.eq (by first | rfl | simp only [go_sem]) (by first | rfl | simp [upd_ap, hpL_ap, tau, mapT, mapTL, bytesI_len, eq_true c31, eq_false c32])) (.nil _)
    · rw [if_neg c31] at h
      refine AW.regL [1, 3, 14] ?_
      generalize hK : AW Tryd.prog _ _ _ = K
      simp only [go_sem, ↓reduceIte, reduceCtorEq, Nat.reduceAdd, Nat.reduceSub, Nat.reduceMul, Nat.reduceEqDiff, Nat.reduceLT, Nat.reduceLeDiff, Nat.reduceBEq, Int.reduceAdd, Int.reduceSub, Int.reduceLT, Int.reduceLE, Int.reduceEq, Int.reduceToNat, eq_false c31]
      subst hK
      refine AW.ifBF rfl rfl ?_
      refine AW.skip ?_
      refine thenA_n ?_
      refine ⟨_, h, ?_⟩
      refine Ent.can [8] _ _ _ rfl (by first | decide | simp) rfl ?_ ?_ ?_
      · exact ((RF.any.pp (by decide) (by first | rfl | simp [upd_ap, hpL_ap, tau, mapT, mapTL, bytesI_len, eq_false c31])).pv (by first | rfl | simp only [go_sem]) (by first | rfl | simp [upd_ap, hpL_ap, tau, mapT, mapTL, bytesI_len, eq_false c31]))
      · exact .nil _
      · exact .cons (.eq (by first | rfl | simp only [go_sem]) (by first | rfl | simp [upd_ap, hpL_ap, tau, mapT, mapTL, bytesI_len, eq_false c31])) (.nil _)
  · clear h
    rintro j1_0 h
    rw [f6_j1] at h
    obtain ⟨x4, hx4, h⟩ := Option.bind_eq_some_iff.1 h
    obtain ⟨x5, hx5, h⟩ := Option.bind_eq_some_iff.1 h
    obtain ⟨x6, hx6, h⟩ := Option.bind_eq_some_iff.1 h
    refine AW.regdL [1, 4] [[], [], [1], [1, 2], [], [4], [1, 2, 3, 4, 5], [], [7], [1, 2, 3, 4, 5, 6, 7, 8], [0, 1, 2, 3, 4, 5, 6, 7, 8, 9], [0, 1, 2, 3, 4, 5, 6, 7, 8, 9, 10]] [0, 1, 2, 3, 4, 5, 6, 7, 8, 9, 10, 11] noFt (fun _ _ _ h => by simp [noFt] at h) draws (by kernel_rfl) (by kernel_rfl) ?_
    generalize hK : AW Tryd.prog _ _ _ = K
    simp only [go_sem, ↓reduceIte, reduceCtorEq, Nat.reduceAdd, Nat.reduceSub, Nat.reduceMul, Nat.reduceEqDiff, Nat.reduceLT, Nat.reduceLeDiff, Nat.reduceBEq, Int.reduceAdd, Int.reduceSub, Int.reduceLT, Int.reduceLE, Int.reduceEq, Int.reduceToNat]
    refine adN.pc (ok20 a0.A x4 hx4) Tryd.call20 callV_fn (by simp only [go_sem, ↓reduceIte, reduceCtorEq, Nat.reduceAdd, Nat.reduceSub, Nat.reduceMul, Nat.reduceEqDiff, Nat.reduceLT, Nat.reduceLeDiff, Nat.reduceBEq, Int.reduceAdd, Int.reduceSub, Int.reduceLT, Int.reduceLE, Int.reduceEq, Int.reduceToNat]) (by simp only [go_sem, ↓reduceIte, reduceCtorEq, Nat.reduceAdd, Nat.reduceSub, Nat.reduceMul, Nat.reduceEqDiff, Nat.reduceLT, Nat.reduceLeDiff, Nat.reduceBEq, Int.reduceAdd, Int.reduceSub, Int.reduceLT, Int.reduceLE, Int.reduceEq, Int.reduceToNat]) ?_
    simp only [go_sem, ↓reduceIte, reduceCtorEq, Nat.reduceAdd, Nat.reduceSub, Nat.reduceMul, Nat.reduceEqDiff, Nat.reduceLT, Nat.reduceLeDiff, Nat.reduceBEq, Int.reduceAdd, Int.reduceSub, Int.reduceLT, Int.reduceLE, Int.reduceEq, Int.reduceToNat]
    refine adN.pc (ok20 a0.B x5 hx5) Tryd.call20 callV_fn (by simp only [go_sem, ↓reduceIte, reduceCtorEq, Nat.reduceAdd, Nat.reduceSub, Nat.reduceMul, Nat.reduceEqDiff, Nat.reduceLT, Nat.reduceLeDiff, Nat.reduceBEq, Int.reduceAdd, Int.reduceSub, Int.reduceLT, Int.reduceLE, Int.reduceEq, Int.reduceToNat]) (by simp only [go_sem, ↓reduceIte, reduceCtorEq, Nat.reduceAdd, Nat.reduceSub, Nat.reduceMul, Nat.reduceEqDiff, Nat.reduceLT, Nat.reduceLeDiff, Nat.reduceBEq, Int.reduceAdd, Int.reduceSub, Int.reduceLT, Int.reduceLE, Int.reduceEq, Int.reduceToNat]) ?_
    simp only [go_sem, ↓reduceIte, reduceCtorEq, Nat.reduceAdd, Nat.reduceSub, Nat.reduceMul, Nat.reduceEqDiff, Nat.reduceLT, Nat.reduceLeDiff, Nat.reduceBEq, Int.reduceAdd, Int.reduceSub, Int.reduceLT, Int.reduceLE, Int.reduceEq, Int.reduceToNat]
    refine adN.pc (ok20 a0.C x6 hx6) Tryd.call20 callV_fn (by simp only [go_sem, ↓reduceIte, reduceCtorEq, Nat.reduceAdd, Nat.reduceSub, Nat.reduceMul, Nat.reduceEqDiff, Nat.reduceLT, Nat.reduceLeDiff, Nat.reduceBEq, Int.reduceAdd, Int.reduceSub, Int.reduceLT, Int.reduceLE, Int.reduceEq, Int.reduceToNat]) (by simp only [go_sem, ↓reduceIte, reduceCtorEq, Nat.reduceAdd, Nat.reduceSub, Nat.reduceMul, Nat.reduceEqDiff, Nat.reduceLT, Nat.reduceLeDiff, Nat.reduceBEq, Int.reduceAdd, Int.reduceSub, Int.reduceLT, Int.reduceLE, Int.reduceEq, Int.reduceToNat]) ?_
    simp only [go_sem, ↓reduceIte, reduceCtorEq, Nat.reduceAdd, Nat.reduceSub, Nat.reduceMul, Nat.reduceEqDiff, Nat.reduceLT, Nat.reduceLeDiff, Nat.reduceBEq, Int.reduceAdd, Int.reduceSub, Int.reduceLT, Int.reduceLE, Int.reduceEq, Int.reduceToNat]
    subst hK
    refine AW.seq ?_
    refine AW.regL [4, 32, 33, 34] ?_
    generalize hK : AW Tryd.prog _ _ _ = K
    simp only [go_sem, ↓reduceIte, reduceCtorEq, Nat.reduceAdd, Nat.reduceSub, Nat.reduceMul, Nat.reduceEqDiff, Nat.reduceLT, Nat.reduceLeDiff, Nat.reduceBEq, Int.reduceAdd, Int.reduceSub, Int.reduceLT, Int.reduceLE, Int.reduceEq, Int.reduceToNat]
    subst hK
    refine AW.block ?_
    obtain ⟨y29, hy29, h⟩ := Option.bind_eq_some_iff.1 h
    refine AW.loopO (fun s => ⟨(upd (upd (upd (upd anyF 4 (.own 8 0 s.1.length)) 32 (.sl (List.map enc46 a0.Sums))) 33 (.val (.int .i64 (a0.Sums.length : Int)))) 34 (.val (.int .i64 s.2))), hpL [] [some (.row 1 true (List.map enc9 s.1))], 9⟩) (fun z e st' => e = Exit.exit 0 ∧ st' = ⟨(upd anyF 4 (.own 8 0 z.length)), hpL [] [some (.row 1 true (List.map enc9 z))], 9⟩) hy29 ?_ ?_ ?_
    · refine Ent.can [89] _ _ _ rfl (by first | decide | simp) rfl ?_ ?_ ?_
      · exact ((((RF.any.po (by decide) (by first | rfl | simp [upd_ap, hpL_ap, tau, mapT, mapTL, bytesI_len])).pv (by first | rfl | simp only [go_sem]) (by first | rfl | simp [upd_ap, hpL_ap, tau, mapT, mapTL, bytesI_len])).pv (by first | rfl | simp only [go_sem]) (by first | rfl | simp [upd_ap, hpL_ap, tau, mapT, mapTL, bytesI_len])).pv (by first | rfl | simp only [go_sem]) (by first | rfl | simp [upd_ap, hpL_ap, tau, mapT, mapTL, bytesI_len]))
      · exact .nil _
      · exact .cons (.eq (by first | rfl | simp only [go_sem]) (by first | rfl | simp [upd_ap, hpL_ap, tau, mapT, mapTL, bytesI_len])) (.nil _)
    · clear h hy29
      rintro ⟨s1_0, s1_1⟩ x h
      rw [f6_s1] at h
      refine AW.regL [4, 32, 33, 34, 35] ?_
      generalize hK : AW Tryd.prog _ _ _ = K
      simp only [go_sem, ↓reduceIte, reduceCtorEq, Nat.reduceAdd, Nat.reduceSub, Nat.reduceMul, Nat.reduceEqDiff, Nat.reduceLT, Nat.reduceLeDiff, Nat.reduceBEq, Int.reduceAdd, Int.reduceSub, Int.reduceLT, Int.reduceLE, Int.reduceEq, Int.reduceToNat]
      subst hK
      refine AW.seq ?_
      by_cases c23 : s1_1 < (a0.Sums.length : Int)
      · rw [if_pos c23] at h
        refine AW.ifT rfl c23 ?_
        refine AW.skip ?_
        refine thenA_n ?_
        refine AW.seq ?_
        refine AW.block ?_
        obtain ⟨x24, hx24, h⟩ := Option.bind_eq_some_iff.1 h
        obtain ⟨hx24a, hx24b⟩ := ix_some.1 hx24
        refine AW.regL [4, 6, 32, 33, 34] ?_
        generalize hK : AW Tryd.prog _ _ _ = K
        simp only [go_sem, ↓reduceIte, reduceCtorEq, Nat.reduceAdd, Nat.reduceSub, Nat.reduceMul, Nat.reduceEqDiff, Nat.reduceLT, Nat.reduceLeDiff, Nat.reduceBEq, Int.reduceAdd, Int.reduceSub, Int.reduceLT, Int.reduceLE, Int.reduceEq, Int.reduceToNat, eq_true c23, natOf_le hx24a, hx24b]
        subst hK
        obtain ⟨x25, hx25, h⟩ := Option.bind_eq_some_iff.1 h
        obtain ⟨x26, hx26, h⟩ := Option.bind_eq_some_iff.1 h
        obtain ⟨x27, hx27, h⟩ := Option.bind_eq_some_iff.1 h
        obtain ⟨hx27b, hx27e⟩ := appO?_some.1 hx27
        have hx27f : ∀ id o : Nat, appO 1 16 id ([[.val (.string x26)]]) 0 s1_0.length o (some (.row 1 true (List.map enc9 s1_0))) = some ⟨.own id 0 x27.length, [(o, none), (id, some (.row 1 true (List.map enc9 x27)))]⟩ := fun id o => by
          subst hx27e; rw [appO_ok (by simp) (by simpa using hx27b) (by decide)]; first | (simp [enc9]; done) | (simp [enc9]; omega)
        refine AW.regionL [4, 32, 33, 34] ?_
        generalize hK : inBlockA _ _ Exit.normal = K
        simp only [go_sem, ↓reduceIte, reduceCtorEq, Nat.reduceAdd, Nat.reduceSub, Nat.reduceMul, Nat.reduceEqDiff, Nat.reduceLT, Nat.reduceLeDiff, Nat.reduceBEq, Int.reduceAdd, Int.reduceSub, Int.reduceLT, Int.reduceLE, Int.reduceEq, Int.reduceToNat, eq_true c23, strCut_ns st9 hx26, hx27f]
        refine arC.of (ok21 x24 x25 hx25) Tryd.call21 ?_
        simp only [go_sem, ↓reduceIte, reduceCtorEq, Nat.reduceAdd, Nat.reduceSub, Nat.reduceMul, Nat.reduceEqDiff, Nat.reduceLT, Nat.reduceLeDiff, Nat.reduceBEq, Int.reduceAdd, Int.reduceSub, Int.reduceLT, Int.reduceLE, Int.reduceEq, Int.reduceToNat, eq_true c23, strCut_ns st9 hx26, hx27f]
        subst hK
        refine block_n ?_
        refine thenA_n ?_
        refine AW.regionL [4, 32, 33, 34] ?_
        generalize hK : thenA _ _ Exit.normal = K
        simp only [go_sem, ↓reduceIte, reduceCtorEq, Nat.reduceAdd, Nat.reduceSub, Nat.reduceMul, Nat.reduceEqDiff, Nat.reduceLT, Nat.reduceLeDiff, Nat.reduceBEq, Int.reduceAdd, Int.reduceSub, Int.reduceLT, Int.reduceLE, Int.reduceEq, Int.reduceToNat, eq_true c23]
        subst hK
        refine thenA_n ?_
        refine ⟨_, (Option.some.inj h).symm, ?_⟩
        refine Ent.can [89] _ _ _ rfl (by first | decide | simp) rfl ?_ ?_ ?_
        · exact ((((RF.any.po (by decide) (by first | rfl | simp [upd_ap, hpL_ap, tau, mapT, mapTL, bytesI_len, eq_true c23])).pv (by first | rfl | simp only [go_sem]) (by first | rfl | simp [upd_ap, hpL_ap, tau, mapT, mapTL, bytesI_len, eq_true c23])).pv (by first | rfl | simp only [go_sem]) (by first | rfl | simp [upd_ap, hpL_ap, tau, mapT, mapTL, bytesI_len, eq_true c23])).pv (by first | rfl | simp only [go_sem]) (by first | rfl | simp [upd_ap, hpL_ap, tau, mapT, mapTL, bytesI_len, eq_true c23]))
        · exact .nil _
        · exact .cons (.eq (by first | rfl | simp only [go_sem]) (by first | rfl | simp [upd_ap, hpL_ap, tau, mapT, mapTL, bytesI_len, eq_true c23])) (.nil _)
      · rw [if_neg c23] at h
        refine AW.ifF rfl c23 ?_
        refine AW.exit ?_
        refine thenA_x ?_
        refine thenA_x ?_
        refine ⟨_, (Option.some.inj h).symm, _, ?_, rfl, rfl⟩
        refine Ent.can [8] _ _ _ rfl (by first | decide | simp) rfl ?_ ?_ ?_
        · exact (RF.any.po (by decide) (by first | rfl | simp [upd_ap, hpL_ap, tau, mapT, mapTL, bytesI_len, eq_false c23]))
        · exact .nil _
        · exact .cons (.eq (by first | rfl | simp only [go_sem]) (by first | rfl | simp [upd_ap, hpL_ap, tau, mapT, mapTL, bytesI_len, eq_false c23])) (.nil _)
    · intro e st' hX
      try dsimp only at h
      try dsimp only at hX
      obtain ⟨rfl, rfl⟩ := hX
      refine ⟨_, Ent.refl, ?_⟩
      refine block_x ?_
      refine thenA_n ?_
      obtain ⟨x30, hx30, h⟩ := Option.bind_eq_some_iff.1 h
      refine AW.regL [2] ?_
      generalize hK : AW Tryd.prog _ _ _ = K
      simp only [go_sem, ↓reduceIte, reduceCtorEq, Nat.reduceAdd, Nat.reduceSub, Nat.reduceMul, Nat.reduceEqDiff, Nat.reduceLT, Nat.reduceLeDiff, Nat.reduceBEq, Int.reduceAdd, Int.reduceSub, Int.reduceLT, Int.reduceLE, Int.reduceEq, Int.reduceToNat]
      refine arC.of (ok22 y29 x30 hx30) Tryd.call22 ?_
      simp only [go_sem, ↓reduceIte, reduceCtorEq, Nat.reduceAdd, Nat.reduceSub, Nat.reduceMul, Nat.reduceEqDiff, Nat.reduceLT, Nat.reduceLeDiff, Nat.reduceBEq, Int.reduceAdd, Int.reduceSub, Int.reduceLT, Int.reduceLE, Int.reduceEq, Int.reduceToNat]
      subst hK
      refine AW.ret ?_
      obtain rfl := Option.some.inj h
      (simp only [go_sem, ↓reduceIte, reduceCtorEq, Nat.reduceAdd, Nat.reduceSub, Nat.reduceMul, Nat.reduceEqDiff, Nat.reduceLT, Nat.reduceLeDiff, Nat.reduceBEq, Int.reduceAdd, Int.reduceSub, Int.reduceLT, Int.reduceLE, Int.reduceEq, Int.reduceToNat, finA, resA, resOf_1, resOf_2, sealV_val, sealV_sl, sealV_ip, sealV_agg, sealV_tup, sealV_own, sealL_nil, sealL_cons, sealV_clo, resOf_clo] <;> try simp)
end Au
end Go.Proofs.Yd
