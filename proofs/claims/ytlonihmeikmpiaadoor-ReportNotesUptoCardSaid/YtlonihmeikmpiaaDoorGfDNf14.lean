import Derived.Test.YtlonihmeikmpiaaDoorGfDN
import Derived.Test.YtlonihmeikmpiaaDoorGfW1
import Derived.Test.YtlonihmeikmpiaaDoorGfDNf27
set_option linter.all false
set_option linter.unusedVariables false
set_option linter.unusedSimpArgs false
set_option linter.all false
set_option maxRecDepth 8000
set_option maxHeartbeats 1000000
namespace Go.Proofs.Yd
open Go.Gm
namespace Au
noncomputable def f14_j1 (x5 : Note × Int) : (List ByteArray) → Option ByteArray
  | j1_0 => (if 0 < (IntKind.i64.wrap ((x5.1.A.length : Int) + (x5.1.B.length : Int))) then ((f20 (IntKind.i64.wrap ((x5.1.A.length : Int) + (x5.1.B.length : Int)))).bind fun x17 => ((appO? j1_0 [⟨#[98, 121, 116, 101, 115]⟩, x17]).bind fun x18 => ((f22 x18).bind fun x19 => some x19))) else ((f22 j1_0).bind fun x20 => some x20))
noncomputable def f14 (a0 : Msg) : Option ByteArray := ((f20 a0.From).bind fun x1 => ((catO x1 ⟨#[62]⟩).bind fun x2 => ((f20 a0.To).bind fun x3 => ((catO x2 x3).bind fun x4 => ((f27 a0.Data).bind fun x5 => (if x5.2 = 0 then ((f28 x5.1.Kind).bind fun x10 => ((f20 x5.1.Task).bind fun x11 => ((f20 x5.1.Try).bind fun x12 => ((f20 x5.1.Part).bind fun x13 => (if 0 < (x5.1.Where.length : Int) then ((f29 x5.1.Where).bind fun x22 => f14_j1 x5 [x4, x10, ⟨#[116, 97, 115, 107]⟩, x11, ⟨#[116, 114, 121]⟩, x12, ⟨#[112, 97, 114, 116]⟩, x13, ⟨#[97, 116]⟩, x22]) else f14_j1 x5 [x4, x10, ⟨#[116, 97, 115, 107]⟩, x11, ⟨#[116, 114, 121]⟩, x12, ⟨#[112, 97, 114, 116]⟩, x13]))))) else ((f20 x5.2).bind fun x23 => ((f22 [x4, ⟨#[98, 97, 100]⟩, x23]).bind fun x24 => some x24))))))))
theorem ok14 (a0 : Msg) (r : ByteArray) (h : f14 a0 = some r) : PC Tryd.prog 14 [.agg (encMsg a0)] (.val (.string r)) := by
 rw [f14] at h
 refine pc_of8 (N := 69) (rs := [.tmp 2]) Tryd.func14 rfl rfl rfl (Nat.le_of_ble_eq_true rfl) ?_
 refine AW.regL [1] ?_
 generalize hK : AW Tryd.prog _ _ _ = K
 simp only [go_sem, ↓reduceIte, reduceCtorEq, Nat.reduceAdd, Nat.reduceSub, Nat.reduceMul, Nat.reduceEqDiff, Nat.reduceLT, Nat.reduceLeDiff]
 subst hK
 obtain ⟨x1, hx1, h⟩ := Option.bind_eq_some_iff.1 h
 obtain ⟨x2, hx2, h⟩ := Option.bind_eq_some_iff.1 h
 obtain ⟨x3, hx3, h⟩ := Option.bind_eq_some_iff.1 h
 obtain ⟨x4, hx4, h⟩ := Option.bind_eq_some_iff.1 h
 refine AW.regdL [1, 3] [[], [0], [0, 1], [0, 1, 2], [], [4], [0, 1, 2, 4, 5], [0, 1, 2, 3, 4, 5, 6], [0, 1, 2, 3, 4, 5, 6, 7]] [0, 1, 2, 3, 4, 5, 6, 7, 8] noFt (fun _ _ _ h => by simp [noFt] at h) draws (by kernel_rfl) (by kernel_rfl) ?_
 generalize hK : AW Tryd.prog _ _ _ = K
 simp only [go_sem, ↓reduceIte, reduceCtorEq, Nat.reduceAdd, Nat.reduceSub, Nat.reduceMul, Nat.reduceEqDiff, Nat.reduceLT, Nat.reduceLeDiff, binV_cat hx2, binV_cat hx4]
 refine adN.pc (ok20 a0.From x1 hx1) Tryd.call20 callV_fn (by simp only [go_sem, ↓reduceIte, reduceCtorEq, Nat.reduceAdd, Nat.reduceSub, Nat.reduceMul, Nat.reduceEqDiff, Nat.reduceLT, Nat.reduceLeDiff, binV_cat hx2, binV_cat hx4]) (by simp only [go_sem, ↓reduceIte, reduceCtorEq, Nat.reduceAdd, Nat.reduceSub, Nat.reduceMul, Nat.reduceEqDiff, Nat.reduceLT, Nat.reduceLeDiff]) ?_
 simp only [go_sem, ↓reduceIte, reduceCtorEq, Nat.reduceAdd, Nat.reduceSub, Nat.reduceMul, Nat.reduceEqDiff, Nat.reduceLT, Nat.reduceLeDiff, binV_cat hx2, binV_cat hx4]
 refine adN.pc (ok20 a0.To x3 hx3) Tryd.call20 callV_fn (by simp only [go_sem, ↓reduceIte, reduceCtorEq, Nat.reduceAdd, Nat.reduceSub, Nat.reduceMul, Nat.reduceEqDiff, Nat.reduceLT, Nat.reduceLeDiff, binV_cat hx2, binV_cat hx4]) (by simp only [go_sem, ↓reduceIte, reduceCtorEq, Nat.reduceAdd, Nat.reduceSub, Nat.reduceMul, Nat.reduceEqDiff, Nat.reduceLT, Nat.reduceLeDiff]) ?_
 simp only [go_sem, ↓reduceIte, reduceCtorEq, Nat.reduceAdd, Nat.reduceSub, Nat.reduceMul, Nat.reduceEqDiff, Nat.reduceLT, Nat.reduceLeDiff, binV_cat hx2, binV_cat hx4]
 subst hK
 obtain ⟨x5, hx5, h⟩ := Option.bind_eq_some_iff.1 h
 refine AW.regL [3, 4, 5] ?_
 generalize hK : AW Tryd.prog _ _ _ = K
 simp only [go_sem, ↓reduceIte, reduceCtorEq, Nat.reduceAdd, Nat.reduceSub, Nat.reduceMul, Nat.reduceEqDiff, Nat.reduceLT, Nat.reduceLeDiff]
 refine arC.of (ok27 a0.Data x5 hx5) Tryd.call27 ?_
 simp only [go_sem, ↓reduceIte, reduceCtorEq, Nat.reduceAdd, Nat.reduceSub, Nat.reduceMul, Nat.reduceEqDiff, Nat.reduceLT, Nat.reduceLeDiff]
 subst hK
 refine AW.seq ?_
 refine AW.regL [3, 4, 5, 23] ?_
 generalize hK : AW Tryd.prog _ _ _ = K
 simp only [go_sem, ↓reduceIte, reduceCtorEq, Nat.reduceAdd, Nat.reduceSub, Nat.reduceMul, Nat.reduceEqDiff, Nat.reduceLT, Nat.reduceLeDiff]
 subst hK
 by_cases c9 : x5.2 = 0
 ·rw [if_pos c9] at h
  refine AW.ifF rfl (fun q => q c9) ?_
  refine AW.skip ?_
  refine thenA_n ?_
  obtain ⟨x10, hx10, h⟩ := Option.bind_eq_some_iff.1 h
  obtain ⟨x11, hx11, h⟩ := Option.bind_eq_some_iff.1 h
  obtain ⟨x12, hx12, h⟩ := Option.bind_eq_some_iff.1 h
  obtain ⟨x13, hx13, h⟩ := Option.bind_eq_some_iff.1 h
  refine AW.regdL [4, 6] [[], [], [1], [1, 2], [], [4], [1, 2, 3, 4, 5], [], [7], [1, 2, 3, 4, 5, 6, 7, 8], [], [10], [1, 2, 3, 4, 5, 6, 7, 8, 9, 10, 11], [0, 1, 2, 3, 4, 5, 6, 7, 8, 9, 10, 11, 12], [0, 1, 2, 3, 4, 5, 6, 7, 8, 9, 10, 11, 12, 13]] [0, 1, 2, 3, 4, 5, 6, 7, 8, 9, 10, 11, 12, 13, 14] noFt (fun _ _ _ h => by simp [noFt] at h) draws (by kernel_rfl) (by kernel_rfl) ?_
  generalize hK : AW Tryd.prog _ _ _ = K
  simp only [go_sem, ↓reduceIte, reduceCtorEq, Nat.reduceAdd, Nat.reduceSub, Nat.reduceMul, Nat.reduceEqDiff, Nat.reduceLT, Nat.reduceLeDiff, eq_true c9]
  refine adN.pc (ok28 x5.1.Kind x10 hx10) Tryd.call28 callV_fn (by simp only [go_sem, ↓reduceIte, reduceCtorEq, Nat.reduceAdd, Nat.reduceSub, Nat.reduceMul, Nat.reduceEqDiff, Nat.reduceLT, Nat.reduceLeDiff, eq_true c9]) (by simp only [go_sem, ↓reduceIte, reduceCtorEq, Nat.reduceAdd, Nat.reduceSub, Nat.reduceMul, Nat.reduceEqDiff, Nat.reduceLT, Nat.reduceLeDiff]) ?_
  simp only [go_sem, ↓reduceIte, reduceCtorEq, Nat.reduceAdd, Nat.reduceSub, Nat.reduceMul, Nat.reduceEqDiff, Nat.reduceLT, Nat.reduceLeDiff, eq_true c9]
  refine adN.pc (ok20 x5.1.Task x11 hx11) Tryd.call20 callV_fn (by simp only [go_sem, ↓reduceIte, reduceCtorEq, Nat.reduceAdd, Nat.reduceSub, Nat.reduceMul, Nat.reduceEqDiff, Nat.reduceLT, Nat.reduceLeDiff, eq_true c9]) (by simp only [go_sem, ↓reduceIte, reduceCtorEq, Nat.reduceAdd, Nat.reduceSub, Nat.reduceMul, Nat.reduceEqDiff, Nat.reduceLT, Nat.reduceLeDiff]) ?_
  simp only [go_sem, ↓reduceIte, reduceCtorEq, Nat.reduceAdd, Nat.reduceSub, Nat.reduceMul, Nat.reduceEqDiff, Nat.reduceLT, Nat.reduceLeDiff, eq_true c9]
  refine adN.pc (ok20 x5.1.Try x12 hx12) Tryd.call20 callV_fn (by simp only [go_sem, ↓reduceIte, reduceCtorEq, Nat.reduceAdd, Nat.reduceSub, Nat.reduceMul, Nat.reduceEqDiff, Nat.reduceLT, Nat.reduceLeDiff, eq_true c9]) (by simp only [go_sem, ↓reduceIte, reduceCtorEq, Nat.reduceAdd, Nat.reduceSub, Nat.reduceMul, Nat.reduceEqDiff, Nat.reduceLT, Nat.reduceLeDiff]) ?_
  simp only [go_sem, ↓reduceIte, reduceCtorEq, Nat.reduceAdd, Nat.reduceSub, Nat.reduceMul, Nat.reduceEqDiff, Nat.reduceLT, Nat.reduceLeDiff, eq_true c9]
  refine adN.pc (ok20 x5.1.Part x13 hx13) Tryd.call20 callV_fn (by simp only [go_sem, ↓reduceIte, reduceCtorEq, Nat.reduceAdd, Nat.reduceSub, Nat.reduceMul, Nat.reduceEqDiff, Nat.reduceLT, Nat.reduceLeDiff, eq_true c9]) (by simp only [go_sem, ↓reduceIte, reduceCtorEq, Nat.reduceAdd, Nat.reduceSub, Nat.reduceMul, Nat.reduceEqDiff, Nat.reduceLT, Nat.reduceLeDiff]) ?_
  simp only [go_sem, ↓reduceIte, reduceCtorEq, Nat.reduceAdd, Nat.reduceSub, Nat.reduceMul, Nat.reduceEqDiff, Nat.reduceLT, Nat.reduceLeDiff, eq_true c9]
  subst hK
  refine AW.join (fun s => ⟨(upd (upd anyF 4 (.ptr 8 0 0)) 6 (.own 9 0 s.length)), hpL [] [some (.row 7 true [[.val (.int .i64 x5.1.Kind), .val (.int .i64 x5.1.Task), .val (.int .i64 x5.1.Try), .val (.int .i64 x5.1.Part), .sl (List.map enc3 x5.1.Where), .sl (List.map enc5 x5.1.A), .sl (List.map enc5 x5.1.B)]]), some (.row 1 true (List.map enc9 s))], 10⟩) (fun s => f14_j1 x5 s = some r) ?_ ?_
  ·refine AW.regL [4, 6, 46] ?_
   generalize hK : AW Tryd.prog _ _ _ = K
   simp only [go_sem, ↓reduceIte, reduceCtorEq, Nat.reduceAdd, Nat.reduceSub, Nat.reduceMul, Nat.reduceEqDiff, Nat.reduceLT, Nat.reduceLeDiff, eq_true c9]
   subst hK
   by_cases c21 : 0 < (x5.1.Where.length : Int)
   ·rw [if_pos c21] at h
    refine AW.ifT rfl c21 ?_
    obtain ⟨x22, hx22, h⟩ := Option.bind_eq_some_iff.1 h
    refine AW.regionL [4, 6] ?_
    generalize hK : thenA _ _ Exit.normal = K
    simp only [go_sem, ↓reduceIte, reduceCtorEq, Nat.reduceAdd, Nat.reduceSub, Nat.reduceMul, Nat.reduceEqDiff, Nat.reduceLT, Nat.reduceLeDiff, eq_true c9, eq_true c21]
    refine arC.of (ok29 x5.1.Where x22 hx22) Tryd.call29 ?_
    simp only [go_sem, ↓reduceIte, reduceCtorEq, Nat.reduceAdd, Nat.reduceSub, Nat.reduceMul, Nat.reduceEqDiff, Nat.reduceLT, Nat.reduceLeDiff, eq_true c9, eq_true c21]
    subst hK
    refine thenA_n ?_
    refine ⟨_, h, ?_⟩
    refine Ent.can [144, 376] _ _ _ rfl (by first | decide | simp) rfl ?_ ?_ ?_
    · exact ((RF.any.pp (by decide) (by first | rfl | simp [upd_ap, hpL_ap, tau, mapT, mapTL, bytesI_len, eq_true c9, eq_true c21])).po (by decide) (by first | rfl | simp [upd_ap, hpL_ap, tau, mapT, mapTL, bytesI_len, eq_true c9, eq_true c21]))
    · exact .nil _
    · exact .cons (.eq (by first | rfl | simp only [go_sem]) (by first | rfl | simp [upd_ap, hpL_ap, tau, mapT, mapTL, bytesI_len, eq_true c9, eq_true c21])) (.cons (.eq (by first | rfl | simp only [go_sem]) (by first | rfl | simp [upd_ap, hpL_ap, tau, mapT, mapTL, bytesI_len, eq_true c9, eq_true c21])) (.nil _))
   ·rw [if_neg c21] at h
    refine AW.ifF rfl c21 ?_
    refine AW.skip ?_
    refine thenA_n ?_
    refine ⟨_, h, ?_⟩
    refine Ent.can [144, 288] _ _ _ rfl (by first | decide | simp) rfl ?_ ?_ ?_
    · exact ((RF.any.pp (by decide) (by first | rfl | simp [upd_ap, hpL_ap, tau, mapT, mapTL, bytesI_len, eq_true c9, eq_false c21])).po (by decide) (by first | rfl | simp [upd_ap, hpL_ap, tau, mapT, mapTL, bytesI_len, eq_true c9, eq_false c21]))
    · exact .nil _
    · exact .cons (.eq (by first | rfl | simp only [go_sem]) (by first | rfl | simp [upd_ap, hpL_ap, tau, mapT, mapTL, bytesI_len, eq_true c9, eq_false c21])) (.cons (.eq (by first | rfl | simp only [go_sem]) (by first | rfl | simp [upd_ap, hpL_ap, tau, mapT, mapTL, bytesI_len, eq_true c9, eq_false c21])) (.nil _))
  ·clear h
   rintro j1_0 h
   rw [f14_j1] at h
   refine AW.seq ?_
   refine AW.regL [6, 7] ?_
   generalize hK : AW Tryd.prog _ _ _ = K
   simp only [go_sem, ↓reduceIte, reduceCtorEq, Nat.reduceAdd, Nat.reduceSub, Nat.reduceMul, Nat.reduceEqDiff, Nat.reduceLT, Nat.reduceLeDiff, eq_true c9]
   subst hK
   refine AW.regL [6, 7, 61] ?_
   generalize hK : AW Tryd.prog _ _ _ = K
   simp only [go_sem, ↓reduceIte, reduceCtorEq, Nat.reduceAdd, Nat.reduceSub, Nat.reduceMul, Nat.reduceEqDiff, Nat.reduceLT, Nat.reduceLeDiff, eq_true c9]
   subst hK
   by_cases c16 : 0 < (IntKind.i64.wrap ((x5.1.A.length : Int) + (x5.1.B.length : Int)))
   ·rw [if_pos c16] at h
    refine AW.ifT rfl c16 ?_
    obtain ⟨x17, hx17, h⟩ := Option.bind_eq_some_iff.1 h
    obtain ⟨x18, hx18, h⟩ := Option.bind_eq_some_iff.1 h
    obtain ⟨hx18b, hx18e⟩ := appO?_some.1 hx18
    have hx18f : ∀ id o : Nat, appO 1 16 id ([[.val (.string ⟨#[98, 121, 116, 101, 115]⟩)], [.val (.string x17)]]) 0 j1_0.length o (some (.row 1 true (List.map enc9 j1_0))) = some ⟨.own id 0 x18.length, [(o, none), (id, some (.row 1 true (List.map enc9 x18)))]⟩ := fun id o => by
      subst hx18e; rw [appO_ok (by simp) (by simpa using hx18b) (by decide)]; first | (simp [enc9]; done) | (simp [enc9]; omega)
    refine AW.regionL [6] ?_
    generalize hK : thenA _ _ Exit.normal = K
    simp only [go_sem, ↓reduceIte, reduceCtorEq, Nat.reduceAdd, Nat.reduceSub, Nat.reduceMul, Nat.reduceEqDiff, Nat.reduceLT, Nat.reduceLeDiff, eq_true c9, eq_true c16, hx18f]
    refine arC.of (ok20 (IntKind.i64.wrap ((x5.1.A.length : Int) + (x5.1.B.length : Int))) x17 hx17) Tryd.call20 ?_
    simp only [go_sem, ↓reduceIte, reduceCtorEq, Nat.reduceAdd, Nat.reduceSub, Nat.reduceMul, Nat.reduceEqDiff, Nat.reduceLT, Nat.reduceLeDiff, eq_true c9, eq_true c16, hx18f]
    subst hK
    refine thenA_n ?_
    obtain ⟨x19, hx19, h⟩ := Option.bind_eq_some_iff.1 h
    refine AW.regL [2] ?_
    generalize hK : AW Tryd.prog _ _ _ = K
    simp only [go_sem, ↓reduceIte, reduceCtorEq, Nat.reduceAdd, Nat.reduceSub, Nat.reduceMul, Nat.reduceEqDiff, Nat.reduceLT, Nat.reduceLeDiff, eq_true c9, eq_true c16]
    refine arC.of (ok22 x18 x19 hx19) Tryd.call22 ?_
    simp only [go_sem, ↓reduceIte, reduceCtorEq, Nat.reduceAdd, Nat.reduceSub, Nat.reduceMul, Nat.reduceEqDiff, Nat.reduceLT, Nat.reduceLeDiff, eq_true c9, eq_true c16]
    subst hK
    refine AW.ret ?_
    obtain rfl := Option.some.inj h
    (simp only [go_sem, ↓reduceIte, reduceCtorEq, Nat.reduceAdd, Nat.reduceSub, Nat.reduceMul, Nat.reduceEqDiff, Nat.reduceLT, Nat.reduceLeDiff, eq_true c9, eq_true c16, finA] <;> try simp)
   ·rw [if_neg c16] at h
    refine AW.ifF rfl c16 ?_
    refine AW.skip ?_
    refine thenA_n ?_
    obtain ⟨x20, hx20, h⟩ := Option.bind_eq_some_iff.1 h
    refine AW.regL [2] ?_
    generalize hK : AW Tryd.prog _ _ _ = K
    simp only [go_sem, ↓reduceIte, reduceCtorEq, Nat.reduceAdd, Nat.reduceSub, Nat.reduceMul, Nat.reduceEqDiff, Nat.reduceLT, Nat.reduceLeDiff, eq_true c9, eq_false c16]
    refine arC.of (ok22 j1_0 x20 hx20) Tryd.call22 ?_
    simp only [go_sem, ↓reduceIte, reduceCtorEq, Nat.reduceAdd, Nat.reduceSub, Nat.reduceMul, Nat.reduceEqDiff, Nat.reduceLT, Nat.reduceLeDiff, eq_true c9, eq_false c16]
    subst hK
    refine AW.ret ?_
    obtain rfl := Option.some.inj h
    (simp only [go_sem, ↓reduceIte, reduceCtorEq, Nat.reduceAdd, Nat.reduceSub, Nat.reduceMul, Nat.reduceEqDiff, Nat.reduceLT, Nat.reduceLeDiff, eq_true c9, eq_false c16, finA] <;> try simp)
 ·rw [if_neg c9] at h
  refine AW.ifT rfl c9 ?_
  obtain ⟨x23, hx23, h⟩ := Option.bind_eq_some_iff.1 h
  obtain ⟨x24, hx24, h⟩ := Option.bind_eq_some_iff.1 h
  refine AW.regL [2] ?_
  generalize hK : AW Tryd.prog _ _ _ = K
  simp only [go_sem, ↓reduceIte, reduceCtorEq, Nat.reduceAdd, Nat.reduceSub, Nat.reduceMul, Nat.reduceEqDiff, Nat.reduceLT, Nat.reduceLeDiff, eq_false c9]
  refine arC.of (ok20 x5.2 x23 hx23) Tryd.call20 ?_
  simp only [go_sem, ↓reduceIte, reduceCtorEq, Nat.reduceAdd, Nat.reduceSub, Nat.reduceMul, Nat.reduceEqDiff, Nat.reduceLT, Nat.reduceLeDiff, eq_false c9]
  refine arC.of (ok22 [x4, ⟨#[98, 97, 100]⟩, x23] x24 hx24) Tryd.call22 ?_
  simp only [go_sem, ↓reduceIte, reduceCtorEq, Nat.reduceAdd, Nat.reduceSub, Nat.reduceMul, Nat.reduceEqDiff, Nat.reduceLT, Nat.reduceLeDiff, eq_false c9]
  subst hK
  refine AW.ret ?_
  refine thenA_r ?_
  obtain rfl := Option.some.inj h
  (simp only [go_sem, ↓reduceIte, reduceCtorEq, Nat.reduceAdd, Nat.reduceSub, Nat.reduceMul, Nat.reduceEqDiff, Nat.reduceLT, Nat.reduceLeDiff, eq_false c9, finA] <;> try simp)
end Au
end Go.Proofs.Yd
