import Derived.Test.YtlonihmeikmpiaaDoorGfDN
import Derived.Test.YtlonihmeikmpiaaDoorGfLT
import Derived.Test.YtlonihmeikmpiaaDoorGfSHd2
set_option linter.all false
set_option linter.unusedVariables false
set_option linter.unusedSimpArgs false
set_option linter.all false
set_option maxRecDepth 8000
set_option maxHeartbeats 1000000
namespace Go.Proofs.Yd
open Go.Gm
namespace Au
noncomputable def f25_s1 (a0 : List Int) : Int → Option (Int ⊕ Int)
  | s1_0 => (if 2 ≤ s1_0 then (if s1_0 < (a0.length : Int) then ((ix a0 s1_0).bind fun x17 => ((ix a0 (IntKind.i64.wrap (s1_0 - 1))).bind fun x18 => ((a0[1]?).bind fun x19 => ((a0[0]?).bind fun x20 => (if (IntKind.i64.wrap (x17 - x18)) = (IntKind.i64.wrap (x19 - x20)) then some (.inl (IntKind.i64.wrap (s1_0 + 1))) else some (.inr s1_0)))))) else some (.inr s1_0)) else some (.inr s1_0))
noncomputable def f25 (a0 : List Int) : Option Int := ((loopO (f25_s1 a0) (minI (a0.length : Int) 2)).bind fun y23 => some y23)
theorem ok25 (a0 : List Int) (r : Int) (h : f25 a0 = some r) : PC Tryd.prog 25 [.sl (List.map enc3 a0)] (.val (.int .i64 r)) := by
 rw [f25] at h
 refine pc_of8 (N := 38) (rs := [.tmp 2]) Tryd.func25 rfl rfl rfl (Nat.le_of_ble_eq_true rfl) ?_
 refine AW.regL [0] ?_
 generalize hK : AW Tryd.prog _ _ _ = K
 simp only [go_sem, ↓reduceIte, reduceCtorEq, Nat.reduceAdd, Nat.reduceSub, Nat.reduceMul, Nat.reduceEqDiff, Nat.reduceLT, Nat.reduceLeDiff]
 subst hK
 refine AW.regL [0, 3] ?_
 generalize hK : AW Tryd.prog _ _ _ = K
 simp only [go_sem, ↓reduceIte, reduceCtorEq, Nat.reduceAdd, Nat.reduceSub, Nat.reduceMul, Nat.reduceEqDiff, Nat.reduceLT, Nat.reduceLeDiff]
 subst hK
 refine AW.seq ?_
 refine AW.block ?_
 obtain ⟨y23, hy23, h⟩ := Option.bind_eq_some_iff.1 h
 refine AW.loopO (fun s => ⟨(upd (upd anyF 0 (.sl (List.map enc3 a0))) 3 (.val (.int .i64 s))), hpL [] [], 8⟩) (fun z e st' => e = Exit.exit 0 ∧ st' = ⟨(upd anyF 3 (.val (.int .i64 z))), hpL [] [], 8⟩) hy23 ?_ ?_ ?_
 ·refine Ent.can [] _ _ _ rfl (by first | decide | simp) rfl ?_ ?_ ?_
  · exact ((RF.any.pv (by first | rfl | simp only [go_sem]) (by first | rfl | simp [upd_ap, hpL_ap, tau, mapT, mapTL, bytesI_len])).pv (by first | rfl | simp only [go_sem]) (by first | rfl | simp [upd_ap, hpL_ap, tau, mapT, mapTL, bytesI_len]))
  · exact .nil _
  · exact .nil _
 ·clear h hy23
  rintro s1_0 x h
  rw [f25_s1] at h
  refine AW.seq ?_
  by_cases c15 : 2 ≤ s1_0
  ·rw [if_pos c15] at h
   by_cases c16 : s1_0 < (a0.length : Int)
   ·rw [if_pos c16] at h
    obtain ⟨x17, hx17, h⟩ := Option.bind_eq_some_iff.1 h
    obtain ⟨hx17a, hx17b⟩ := ix_some.1 hx17
    obtain ⟨x18, hx18, h⟩ := Option.bind_eq_some_iff.1 h
    obtain ⟨hx18a, hx18b⟩ := ix_some.1 hx18
    obtain ⟨x19, hx19, h⟩ := Option.bind_eq_some_iff.1 h
    obtain ⟨x20, hx20, h⟩ := Option.bind_eq_some_iff.1 h
    refine AW.regdL [0, 3, 34] [[], [0], [0, 1], [0, 1, 2], [0, 1, 2], [0, 1, 2, 4], [0, 1, 2, 3, 4, 5], [0, 1, 2, 3, 4, 5, 6], [0, 1, 2, 3, 4, 5, 6, 7], [0, 1, 2, 3, 4, 5, 6, 7, 8], [0, 1, 2, 3, 4, 5, 6, 7, 8], [0, 1, 2, 3, 4, 5, 6, 7, 8, 9, 10], [0, 1, 2, 3, 4, 5, 6, 7, 8, 9, 10, 11], [0, 1, 2, 3, 4, 5, 6, 7, 8], [0, 1, 2, 3, 4, 5, 6, 7, 8], [0, 1, 2, 3, 4, 5, 6, 7, 8, 14], [0, 1, 2, 3, 4, 5, 6, 7, 8, 13, 14, 15], [0, 1, 2, 3, 4, 5, 6, 7, 8, 13, 14, 15, 16], [0, 1, 2, 3, 4, 5, 6, 7, 8, 9, 10, 11, 12, 13, 14, 15, 16, 17], [0, 1, 2, 3, 4, 5, 6, 7, 8], [0, 1, 2, 3, 4, 5, 6, 7, 8, 19], [0, 1, 2, 3, 4, 5, 6, 7, 8, 19, 20], [0, 1, 2, 3, 4, 5, 6, 7, 8], [0, 1, 2, 3, 4, 5, 6, 7, 8, 22], [0, 1, 2, 3, 4, 5, 6, 7, 8, 22, 23], [0, 1, 2, 3, 4, 5, 6, 7, 8, 19, 20, 21, 22, 23, 24], [0, 1, 2, 3, 4, 5, 6, 7, 8, 9, 10, 11, 12, 13, 14, 15, 16, 17, 18, 19, 20, 21, 22, 23, 24, 25], [0, 1, 2, 3, 4, 5, 6, 7, 8, 9, 10, 11, 12, 13, 14, 15, 16, 17, 18, 19, 20, 21, 22, 23, 24, 25, 26]] [0, 1, 2, 3, 4, 5, 6, 7, 8, 9, 10, 11, 12, 13, 14, 15, 16, 17, 18, 19, 20, 21, 22, 23, 24, 25, 26, 27] noFt (fun _ _ _ h => by simp [noFt] at h) draws (by kernel_rfl) (by kernel_rfl) ?_
    generalize hK : AW Tryd.prog _ _ _ = K
    simp only [go_sem, ↓reduceIte, reduceCtorEq, Nat.reduceAdd, Nat.reduceSub, Nat.reduceMul, Nat.reduceEqDiff, Nat.reduceLT, Nat.reduceLeDiff, eq_true c15, eq_true c16, natOf_le hx17a, hx17b, natOf_le hx18a, hx18b, hx19, hx20]
    subst hK
    by_cases c21 : (IntKind.i64.wrap (x17 - x18)) = (IntKind.i64.wrap (x19 - x20))
    ·rw [if_pos c21] at h
     refine AW.ifT rfl c21 ?_
     refine AW.skip ?_
     refine thenA_n ?_
     refine AW.block ?_
     refine AW.regionL [0, 3] ?_
     generalize hK : inBlockA _ _ Exit.normal = K
     simp only [go_sem, ↓reduceIte, reduceCtorEq, Nat.reduceAdd, Nat.reduceSub, Nat.reduceMul, Nat.reduceEqDiff, Nat.reduceLT, Nat.reduceLeDiff, eq_true c15, eq_true c16, eq_true c21]
     subst hK
     refine block_n ?_
     refine thenA_n ?_
     refine ⟨_, (Option.some.inj h).symm, ?_⟩
     refine Ent.can [] _ _ _ rfl (by first | decide | simp) rfl ?_ ?_ ?_
     · exact ((RF.any.pv (by first | rfl | simp only [go_sem]) (by first | rfl | simp [upd_ap, hpL_ap, tau, mapT, mapTL, bytesI_len, eq_true c15, eq_true c16, eq_true c21])).pv (by first | rfl | simp only [go_sem]) (by first | rfl | simp [upd_ap, hpL_ap, tau, mapT, mapTL, bytesI_len, eq_true c15, eq_true c16, eq_true c21]))
     · exact .nil _
     · exact .nil _
    ·rw [if_neg c21] at h
     refine AW.ifF rfl c21 ?_
     refine AW.exit ?_
     refine thenA_x ?_
     refine thenA_x ?_
     refine ⟨_, (Option.some.inj h).symm, _, ?_, rfl, rfl⟩
     refine Ent.can [] _ _ _ rfl (by first | decide | simp) rfl ?_ ?_ ?_
     · exact (RF.any.pv (by first | rfl | simp only [go_sem]) (by first | rfl | simp [upd_ap, hpL_ap, tau, mapT, mapTL, bytesI_len, eq_true c15, eq_true c16, eq_false c21]))
     · exact .nil _
     · exact .nil _
   ·rw [if_neg c16] at h
    refine AW.regdL [0, 3, 34] [[], [0], [0, 1], [0, 1, 2], [0, 1, 2], [0, 1, 2, 4], [0, 1, 2, 3, 4, 5], [0, 1, 2, 3, 4, 5, 6], [0, 1, 2, 3, 4, 5, 6, 7], [0, 1, 2, 3, 4, 5, 6, 7, 8], [0, 1, 2, 3, 4, 5, 6, 7, 8], [0, 1, 2, 3, 4, 5, 6, 7, 8, 9, 10], [0, 1, 2, 3, 4, 5, 6, 7, 8, 9, 10, 11], [0, 1, 2, 3, 4, 5, 6, 7, 8], [0, 1, 2, 3, 4, 5, 6, 7, 8], [0, 1, 2, 3, 4, 5, 6, 7, 8, 14], [0, 1, 2, 3, 4, 5, 6, 7, 8, 13, 14, 15], [0, 1, 2, 3, 4, 5, 6, 7, 8, 13, 14, 15, 16], [0, 1, 2, 3, 4, 5, 6, 7, 8, 9, 10, 11, 12, 13, 14, 15, 16, 17], [0, 1, 2, 3, 4, 5, 6, 7, 8], [0, 1, 2, 3, 4, 5, 6, 7, 8, 19], [0, 1, 2, 3, 4, 5, 6, 7, 8, 19, 20], [0, 1, 2, 3, 4, 5, 6, 7, 8], [0, 1, 2, 3, 4, 5, 6, 7, 8, 22], [0, 1, 2, 3, 4, 5, 6, 7, 8, 22, 23], [0, 1, 2, 3, 4, 5, 6, 7, 8, 19, 20, 21, 22, 23, 24], [0, 1, 2, 3, 4, 5, 6, 7, 8, 9, 10, 11, 12, 13, 14, 15, 16, 17, 18, 19, 20, 21, 22, 23, 24, 25], [0, 1, 2, 3, 4, 5, 6, 7, 8, 9, 10, 11, 12, 13, 14, 15, 16, 17, 18, 19, 20, 21, 22, 23, 24, 25, 26]] [0, 1, 2, 3, 4, 5, 6, 7, 8, 9, 10, 11, 12, 13, 14, 15, 16, 17, 18, 19, 20, 21, 22, 23, 24, 25, 26, 27] noFt (fun _ _ _ h => by simp [noFt] at h) draws (by kernel_rfl) (by kernel_rfl) ?_
    generalize hK : AW Tryd.prog _ _ _ = K
    simp only [go_sem, ↓reduceIte, reduceCtorEq, Nat.reduceAdd, Nat.reduceSub, Nat.reduceMul, Nat.reduceEqDiff, Nat.reduceLT, Nat.reduceLeDiff, eq_true c15, eq_false c16]
    subst hK
    refine AW.ifBF rfl rfl ?_
    refine AW.exit ?_
    refine thenA_x ?_
    refine thenA_x ?_
    refine ⟨_, (Option.some.inj h).symm, _, ?_, rfl, rfl⟩
    refine Ent.can [] _ _ _ rfl (by first | decide | simp) rfl ?_ ?_ ?_
    · exact (RF.any.pv (by first | rfl | simp only [go_sem]) (by first | rfl | simp [upd_ap, hpL_ap, tau, mapT, mapTL, bytesI_len, eq_true c15, eq_false c16]))
    · exact .nil _
    · exact .nil _
  ·rw [if_neg c15] at h
   refine AW.regdL [0, 3, 34] [[], [0], [0, 1], [0, 1, 2], [0, 1, 2], [0, 1, 2, 4], [0, 1, 2, 3, 4, 5], [0, 1, 2, 3, 4, 5, 6], [0, 1, 2, 3, 4, 5, 6, 7], [0, 1, 2, 3, 4, 5, 6, 7, 8], [0, 1, 2, 3, 4, 5, 6, 7, 8], [0, 1, 2, 3, 4, 5, 6, 7, 8, 9, 10], [0, 1, 2, 3, 4, 5, 6, 7, 8, 9, 10, 11], [0, 1, 2, 3, 4, 5, 6, 7, 8], [0, 1, 2, 3, 4, 5, 6, 7, 8], [0, 1, 2, 3, 4, 5, 6, 7, 8, 14], [0, 1, 2, 3, 4, 5, 6, 7, 8, 13, 14, 15], [0, 1, 2, 3, 4, 5, 6, 7, 8, 13, 14, 15, 16], [0, 1, 2, 3, 4, 5, 6, 7, 8, 9, 10, 11, 12, 13, 14, 15, 16, 17], [0, 1, 2, 3, 4, 5, 6, 7, 8], [0, 1, 2, 3, 4, 5, 6, 7, 8, 19], [0, 1, 2, 3, 4, 5, 6, 7, 8, 19, 20], [0, 1, 2, 3, 4, 5, 6, 7, 8], [0, 1, 2, 3, 4, 5, 6, 7, 8, 22], [0, 1, 2, 3, 4, 5, 6, 7, 8, 22, 23], [0, 1, 2, 3, 4, 5, 6, 7, 8, 19, 20, 21, 22, 23, 24], [0, 1, 2, 3, 4, 5, 6, 7, 8, 9, 10, 11, 12, 13, 14, 15, 16, 17, 18, 19, 20, 21, 22, 23, 24, 25], [0, 1, 2, 3, 4, 5, 6, 7, 8, 9, 10, 11, 12, 13, 14, 15, 16, 17, 18, 19, 20, 21, 22, 23, 24, 25, 26]] [0, 1, 2, 3, 4, 5, 6, 7, 8, 9, 10, 11, 12, 13, 14, 15, 16, 17, 18, 19, 20, 21, 22, 23, 24, 25, 26, 27] noFt (fun _ _ _ h => by simp [noFt] at h) draws (by kernel_rfl) (by kernel_rfl) ?_
   generalize hK : AW Tryd.prog _ _ _ = K
   simp only [go_sem, ↓reduceIte, reduceCtorEq, Nat.reduceAdd, Nat.reduceSub, Nat.reduceMul, Nat.reduceEqDiff, Nat.reduceLT, Nat.reduceLeDiff, eq_false c15]
   subst hK
   refine AW.ifBF rfl rfl ?_
   refine AW.exit ?_
   refine thenA_x ?_
   refine thenA_x ?_
   refine ⟨_, (Option.some.inj h).symm, _, ?_, rfl, rfl⟩
   refine Ent.can [] _ _ _ rfl (by first | decide | simp) rfl ?_ ?_ ?_
   · exact (RF.any.pv (by first | rfl | simp only [go_sem]) (by first | rfl | simp [upd_ap, hpL_ap, tau, mapT, mapTL, bytesI_len, eq_false c15]))
   · exact .nil _
   · exact .nil _
 ·intro e st' hX
  try dsimp only at h
  try dsimp only at hX
  obtain ⟨rfl, rfl⟩ := hX
  refine ⟨_, Ent.refl, ?_⟩
  refine block_x ?_
  refine thenA_n ?_
  refine AW.regL [2] ?_
  generalize hK : AW Tryd.prog _ _ _ = K
  simp only [go_sem, ↓reduceIte, reduceCtorEq, Nat.reduceAdd, Nat.reduceSub, Nat.reduceMul, Nat.reduceEqDiff, Nat.reduceLT, Nat.reduceLeDiff]
  subst hK
  refine AW.ret ?_
  obtain rfl := Option.some.inj h
  (simp only [go_sem, ↓reduceIte, reduceCtorEq, Nat.reduceAdd, Nat.reduceSub, Nat.reduceMul, Nat.reduceEqDiff, Nat.reduceLT, Nat.reduceLeDiff, finA] <;> try simp)
end Au
end Go.Proofs.Yd

set_option linter.all false
set_option maxRecDepth 8000
set_option maxHeartbeats 1000000
namespace Go.Proofs.Yd
open Go.Gm
namespace Au
noncomputable def f36 (a0 : Int) : Option ByteArray := if -9223372036854775808 ≤ a0 ∧ a0 ≤ 9223372036854775807 then some (itoaS a0) else none
theorem ok36 (a0 : Int) (r : ByteArray) (h : f36 a0 = some r) : PC Tryd.prog 36 [.val (.int .i64 a0)] (.val (.string r)) := by
  unfold f36 at h
  split at h
  rotate_left
  · cases h
  rename_i hl
  obtain rfl := Option.some.inj h
  exact pc_itoa 36 (g := 1) (by kernel_rfl) hl.1 hl.2 (fun w ht => Tryd.strconv_Itoa a0 hl.1 hl.2 w ht)
end Au
end Go.Proofs.Yd

set_option linter.all false
set_option maxRecDepth 8000
set_option maxHeartbeats 1000000
namespace Go.Proofs.Yd
open Go.Gm
namespace Au
noncomputable def f20 (a0 : Int) : Option ByteArray := ((f36 a0).bind fun x1 => some x1)
theorem ok20 (a0 : Int) (r : ByteArray) (h : f20 a0 = some r) : PC Tryd.prog 20 [.val (.int .i64 a0)] (.val (.string r)) := by
 rw [f20] at h
 refine pc_of8 (N := 5) (rs := [.tmp 2]) Tryd.func20 rfl rfl rfl (Nat.le_of_ble_eq_true rfl) ?_
 refine AW.regL [0] ?_
 generalize hK : AW Tryd.prog _ _ _ = K
 simp only [go_sem, ↓reduceIte, reduceCtorEq, Nat.reduceAdd, Nat.reduceSub, Nat.reduceMul, Nat.reduceEqDiff, Nat.reduceLT, Nat.reduceLeDiff]
 subst hK
 obtain ⟨x1, hx1, h⟩ := Option.bind_eq_some_iff.1 h
 refine AW.regL [2] ?_
 generalize hK : AW Tryd.prog _ _ _ = K
 simp only [go_sem, ↓reduceIte, reduceCtorEq, Nat.reduceAdd, Nat.reduceSub, Nat.reduceMul, Nat.reduceEqDiff, Nat.reduceLT, Nat.reduceLeDiff]
 refine arC.of (ok36 a0 x1 hx1) Tryd.call36 ?_
 simp only [go_sem, ↓reduceIte, reduceCtorEq, Nat.reduceAdd, Nat.reduceSub, Nat.reduceMul, Nat.reduceEqDiff, Nat.reduceLT, Nat.reduceLeDiff]
 subst hK
 refine AW.ret ?_
 obtain rfl := Option.some.inj h
 (simp only [go_sem, ↓reduceIte, reduceCtorEq, Nat.reduceAdd, Nat.reduceSub, Nat.reduceMul, Nat.reduceEqDiff, Nat.reduceLT, Nat.reduceLeDiff, finA] <;> try simp)
end Au
end Go.Proofs.Yd

set_option linter.all false
set_option maxRecDepth 8000
set_option maxHeartbeats 1000000
namespace Go.Proofs.Yd
open Go.Gm
namespace Au
noncomputable def f26 (a0 : List ByteArray) (a1 : ByteArray) : Option ByteArray := if a0.length ≤ 140737488355328 ∧ (joinS a0 a1).size ≤ 140737488355328 then some (joinS a0 a1) else none
theorem ok26 (a0 : List ByteArray) (a1 r : ByteArray) (h : f26 a0 a1 = some r) : PC Tryd.prog 26 [.sl (List.map enc9 a0), .val (.string a1)] (.val (.string r)) := by
  unfold f26 at h
  split at h
  rotate_left
  · cases h
  rename_i hl
  obtain rfl := Option.some.inj h
  exact pc_join (fun _ => rfl) 26 a0 a1 hl.1 hl.2 (fun bk o c xs sep w h1 h2 h3 h4 h5 => Tryd.strings_Join bk o c xs sep w h1 h2 h3 h4 h5) (fun a c sep w => Tryd.strings_Join_none a c sep w)
end Au
end Go.Proofs.Yd

set_option linter.all false
set_option maxRecDepth 8000
set_option maxHeartbeats 1000000
namespace Go.Proofs.Yd
open Go.Gm
namespace Au
noncomputable def f8_s1 : (List Int) × (List ByteArray) → Option (((List Int) × (List ByteArray)) ⊕ (List ByteArray))
  | (s1_0, s1_1) => (if 0 < (s1_0.length : Int) then ((f25 s1_0).bind fun x50 => (if x50 < 3 then ((s1_0[0]?).bind fun x57 => ((f20 x57).bind fun x58 => ((appO? s1_1 [x58]).bind fun x59 => ((cutO? s1_0 1 (s1_0.length : Int)).bind fun x60 => some (.inl (x60, x59)))))) else ((s1_0[0]?).bind fun x61 => ((f20 x61).bind fun x62 => ((catO x62 ⟨#[46, 46]⟩).bind fun x63 => ((ix s1_0 (IntKind.i64.wrap (x50 - 1))).bind fun x64 => ((f20 x64).bind fun x65 => ((catO x63 x65).bind fun x66 => ((catO x66 ⟨#[47]⟩).bind fun x67 => ((s1_0[1]?).bind fun x68 => ((f20 (IntKind.i64.wrap (x68 - x61))).bind fun x69 => ((catO x67 x69).bind fun x70 => ((appO? s1_1 [x70]).bind fun x71 => ((cutO? s1_0 x50 (s1_0.length : Int)).bind fun x72 => some (.inl (x72, x71)))))))))))))))) else some (.inr s1_1))
noncomputable def f8 (a0 : List Int) : Option ByteArray := ((loopO f8_s1 (a0, [])).bind fun y74 => ((f26 y74 ⟨#[44]⟩).bind fun x75 => some x75))
theorem ok8 (a0 : List Int) (r : ByteArray) (h : f8 a0 = some r) : PC Tryd.prog 8 [.sl (List.map enc3 a0)] (.val (.string r)) := by
 rw [f8] at h
 refine pc_of8 (N := 51) (rs := [.tmp 2]) Tryd.func8 rfl rfl rfl (Nat.le_of_ble_eq_true rfl) ?_
 refine AW.regL [0] ?_
 generalize hK : AW Tryd.prog _ _ _ = K
 simp only [go_sem, ↓reduceIte, reduceCtorEq, Nat.reduceAdd, Nat.reduceSub, Nat.reduceMul, Nat.reduceEqDiff, Nat.reduceLT, Nat.reduceLeDiff]
 subst hK
 refine AW.regL [0, 3] ?_
 generalize hK : AW Tryd.prog _ _ _ = K
 simp only [go_sem, ↓reduceIte, reduceCtorEq, Nat.reduceAdd, Nat.reduceSub, Nat.reduceMul, Nat.reduceEqDiff, Nat.reduceLT, Nat.reduceLeDiff]
 subst hK
 refine AW.seq ?_
 refine AW.block ?_
 obtain ⟨y74, hy74, h⟩ := Option.bind_eq_some_iff.1 h
 refine AW.loopO (fun s => ⟨(upd (upd anyF 0 (.sl (List.map enc3 s.1))) 3 (.own 8 0 s.2.length)), hpL [] [some (.row 1 true (List.map enc9 s.2))], 9⟩) (fun z e st' => e = Exit.exit 0 ∧ st' = ⟨(upd anyF 3 (.own 8 0 z.length)), hpL [] [some (.row 1 true (List.map enc9 z))], 9⟩) hy74 ?_ ?_ ?_
 ·refine Ent.trans (Ent.nilOwn 3 1 (by decide) rfl) ?_
  refine Ent.can [24] _ _ _ rfl (by first | decide | simp) rfl ?_ ?_ ?_
  · exact ((RF.any.pv (by first | rfl | simp only [go_sem]) (by first | rfl | simp [upd_ap, hpL_ap, tau, mapT, mapTL, bytesI_len])).po (by decide) (by first | rfl | simp [upd_ap, hpL_ap, tau, mapT, mapTL, bytesI_len]))
  · exact .nil _
  · exact .cons (.eq (by first | rfl | simp only [go_sem]) (by first | rfl | simp [upd_ap, hpL_ap, tau, mapT, mapTL, bytesI_len])) (.nil _)
 ·clear h hy74
  rintro ⟨s1_0, s1_1⟩ x h
  rw [f8_s1] at h
  refine AW.seq ?_
  refine AW.regL [0, 3, 7] ?_
  generalize hK : AW Tryd.prog _ _ _ = K
  simp only [go_sem, ↓reduceIte, reduceCtorEq, Nat.reduceAdd, Nat.reduceSub, Nat.reduceMul, Nat.reduceEqDiff, Nat.reduceLT, Nat.reduceLeDiff]
  subst hK
  by_cases c49 : 0 < (s1_0.length : Int)
  ·rw [if_pos c49] at h
   refine AW.ifT rfl c49 ?_
   refine AW.skip ?_
   refine thenA_n ?_
   refine AW.block ?_
   obtain ⟨x50, hx50, h⟩ := Option.bind_eq_some_iff.1 h
   refine AW.regL [0, 3, 4] ?_
   generalize hK : AW Tryd.prog _ _ _ = K
   simp only [go_sem, ↓reduceIte, reduceCtorEq, Nat.reduceAdd, Nat.reduceSub, Nat.reduceMul, Nat.reduceEqDiff, Nat.reduceLT, Nat.reduceLeDiff, eq_true c49]
   refine arC.of (ok25 s1_0 x50 hx50) Tryd.call25 ?_
   simp only [go_sem, ↓reduceIte, reduceCtorEq, Nat.reduceAdd, Nat.reduceSub, Nat.reduceMul, Nat.reduceEqDiff, Nat.reduceLT, Nat.reduceLeDiff, eq_true c49]
   subst hK
   refine AW.seq ?_
   refine AW.regL [0, 3, 4, 11] ?_
   generalize hK : AW Tryd.prog _ _ _ = K
   simp only [go_sem, ↓reduceIte, reduceCtorEq, Nat.reduceAdd, Nat.reduceSub, Nat.reduceMul, Nat.reduceEqDiff, Nat.reduceLT, Nat.reduceLeDiff, eq_true c49]
   subst hK
   by_cases c56 : x50 < 3
   ·rw [if_pos c56] at h
    refine AW.ifT rfl c56 ?_
    obtain ⟨x57, hx57, h⟩ := Option.bind_eq_some_iff.1 h
    obtain ⟨x58, hx58, h⟩ := Option.bind_eq_some_iff.1 h
    obtain ⟨x59, hx59, h⟩ := Option.bind_eq_some_iff.1 h
    obtain ⟨hx59b, hx59e⟩ := appO?_some.1 hx59
    have hx59f : ∀ id o : Nat, appO 1 16 id ([[.val (.string x58)]]) 0 s1_1.length o (some (.row 1 true (List.map enc9 s1_1))) = some ⟨.own id 0 x59.length, [(o, none), (id, some (.row 1 true (List.map enc9 x59)))]⟩ := fun id o => by
      subst hx59e; rw [appO_ok (by simp) (by simpa using hx59b) (by decide)]; first | (simp [enc9]; done) | (simp [enc9]; omega)
    refine AW.regL [0, 3] ?_
    generalize hK : AW Tryd.prog _ _ _ = K
    simp only [go_sem, ↓reduceIte, reduceCtorEq, Nat.reduceAdd, Nat.reduceSub, Nat.reduceMul, Nat.reduceEqDiff, Nat.reduceLT, Nat.reduceLeDiff, eq_true c49, eq_true c56, hx57, hx59f]
    refine arC.of (ok20 x57 x58 hx58) Tryd.call20 ?_
    simp only [go_sem, ↓reduceIte, reduceCtorEq, Nat.reduceAdd, Nat.reduceSub, Nat.reduceMul, Nat.reduceEqDiff, Nat.reduceLT, Nat.reduceLeDiff, eq_true c49, eq_true c56, hx57, hx59f]
    subst hK
    obtain ⟨x60, hx60, h⟩ := Option.bind_eq_some_iff.1 h
    refine AW.regL [0, 3] ?_
    generalize hK : AW Tryd.prog _ _ _ = K
    simp only [go_sem, ↓reduceIte, reduceCtorEq, Nat.reduceAdd, Nat.reduceSub, Nat.reduceMul, Nat.reduceEqDiff, Nat.reduceLT, Nat.reduceLeDiff, eq_true c49, eq_true c56, cut_sn el25 sz3 (ml_enc3 _) hx60]
    subst hK
    refine AW.exit ?_
    refine thenA_x ?_
    refine block_x ?_
    refine thenA_n ?_
    refine ⟨_, (Option.some.inj h).symm, ?_⟩
    refine Ent.can [121] _ _ _ rfl (by first | decide | simp) rfl ?_ ?_ ?_
    · exact ((RF.any.pv (by first | rfl | simp only [go_sem]) (by first | rfl | simp [upd_ap, hpL_ap, tau, mapT, mapTL, bytesI_len, eq_true c49, eq_true c56])).po (by decide) (by first | rfl | simp [upd_ap, hpL_ap, tau, mapT, mapTL, bytesI_len, eq_true c49, eq_true c56]))
    · exact .nil _
    · exact .cons (.eq (by first | rfl | simp only [go_sem]) (by first | rfl | simp [upd_ap, hpL_ap, tau, mapT, mapTL, bytesI_len, eq_true c49, eq_true c56])) (.nil _)
   ·rw [if_neg c56] at h
    refine AW.ifF rfl c56 ?_
    refine AW.skip ?_
    refine thenA_n ?_
    obtain ⟨x61, hx61, h⟩ := Option.bind_eq_some_iff.1 h
    obtain ⟨x62, hx62, h⟩ := Option.bind_eq_some_iff.1 h
    obtain ⟨x63, hx63, h⟩ := Option.bind_eq_some_iff.1 h
    obtain ⟨x64, hx64, h⟩ := Option.bind_eq_some_iff.1 h
    obtain ⟨hx64a, hx64b⟩ := ix_some.1 hx64
    obtain ⟨x65, hx65, h⟩ := Option.bind_eq_some_iff.1 h
    obtain ⟨x66, hx66, h⟩ := Option.bind_eq_some_iff.1 h
    obtain ⟨x67, hx67, h⟩ := Option.bind_eq_some_iff.1 h
    obtain ⟨x68, hx68, h⟩ := Option.bind_eq_some_iff.1 h
    obtain ⟨x69, hx69, h⟩ := Option.bind_eq_some_iff.1 h
    obtain ⟨x70, hx70, h⟩ := Option.bind_eq_some_iff.1 h
    obtain ⟨x71, hx71, h⟩ := Option.bind_eq_some_iff.1 h
    obtain ⟨hx71b, hx71e⟩ := appO?_some.1 hx71
    have hx71f : ∀ id o : Nat, appO 1 16 id ([[.val (.string x70)]]) 0 s1_1.length o (some (.row 1 true (List.map enc9 s1_1))) = some ⟨.own id 0 x71.length, [(o, none), (id, some (.row 1 true (List.map enc9 x71)))]⟩ := fun id o => by
      subst hx71e; rw [appO_ok (by simp) (by simpa using hx71b) (by decide)]; first | (simp [enc9]; done) | (simp [enc9]; omega)
    refine AW.regdL [0, 3, 4] [[], [], [1], [1, 2], [1, 2, 3], [1, 2, 3, 4], [], [], [7], [6, 7, 8], [6, 7, 8, 9], [1, 2, 3, 4, 6, 7, 8, 9, 10], [1, 2, 3, 4, 5, 6, 7, 8, 9, 10, 11], [1, 2, 3, 4, 5, 6, 7, 8, 9, 10, 11, 12], [], [14], [14, 15], [], [17], [17, 18], [14, 15, 16, 17, 18, 19], [1, 2, 3, 4, 6, 7, 8, 9, 10, 11, 14, 15, 16, 17, 18, 19, 20], [1, 2, 3, 4, 5, 6, 7, 8, 9, 10, 11, 12, 13, 14, 15, 16, 17, 18, 19, 20, 21], [1, 2, 3, 4, 5, 6, 7, 8, 9, 10, 11, 12, 13, 14, 15, 16, 17, 18, 19, 20, 21, 22], [0, 1, 2, 3, 4, 5, 6, 7, 8, 9, 10, 11, 12, 13, 14, 15, 16, 17, 18, 19, 20, 21, 22, 23], [0, 1, 2, 3, 4, 5, 6, 7, 8, 9, 10, 11, 12, 13, 14, 15, 16, 17, 18, 19, 20, 21, 22, 23, 24]] [0, 1, 2, 3, 4, 5, 6, 7, 8, 9, 10, 11, 12, 13, 14, 15, 16, 17, 18, 19, 20, 21, 22, 23, 24, 25] noFt (fun _ _ _ h => by simp [noFt] at h) draws (by kernel_rfl) (by kernel_rfl) ?_
    generalize hK : AW Tryd.prog _ _ _ = K
    simp only [go_sem, ↓reduceIte, reduceCtorEq, Nat.reduceAdd, Nat.reduceSub, Nat.reduceMul, Nat.reduceEqDiff, Nat.reduceLT, Nat.reduceLeDiff, eq_true c49, eq_false c56, hx61, binV_cat hx63, natOf_le hx64a, hx64b, binV_cat hx66, binV_cat hx67, hx68, binV_cat hx70, hx71f]
    refine adN.pc (ok20 x61 x62 hx62) Tryd.call20 callV_fn (by simp only [go_sem, ↓reduceIte, reduceCtorEq, Nat.reduceAdd, Nat.reduceSub, Nat.reduceMul, Nat.reduceEqDiff, Nat.reduceLT, Nat.reduceLeDiff, eq_true c49, eq_false c56, hx61, binV_cat hx63, natOf_le hx64a, hx64b, binV_cat hx66, binV_cat hx67, hx68, binV_cat hx70, hx71f]) (by simp only [go_sem, ↓reduceIte, reduceCtorEq, Nat.reduceAdd, Nat.reduceSub, Nat.reduceMul, Nat.reduceEqDiff, Nat.reduceLT, Nat.reduceLeDiff]) ?_
    simp only [go_sem, ↓reduceIte, reduceCtorEq, Nat.reduceAdd, Nat.reduceSub, Nat.reduceMul, Nat.reduceEqDiff, Nat.reduceLT, Nat.reduceLeDiff, eq_true c49, eq_false c56, hx61, binV_cat hx63, natOf_le hx64a, hx64b, binV_cat hx66, binV_cat hx67, hx68, binV_cat hx70, hx71f]
    refine adN.pc (ok20 x64 x65 hx65) Tryd.call20 callV_fn (by simp only [go_sem, ↓reduceIte, reduceCtorEq, Nat.reduceAdd, Nat.reduceSub, Nat.reduceMul, Nat.reduceEqDiff, Nat.reduceLT, Nat.reduceLeDiff, eq_true c49, eq_false c56, hx61, binV_cat hx63, natOf_le hx64a, hx64b, binV_cat hx66, binV_cat hx67, hx68, binV_cat hx70, hx71f]) (by simp only [go_sem, ↓reduceIte, reduceCtorEq, Nat.reduceAdd, Nat.reduceSub, Nat.reduceMul, Nat.reduceEqDiff, Nat.reduceLT, Nat.reduceLeDiff]) ?_
    simp only [go_sem, ↓reduceIte, reduceCtorEq, Nat.reduceAdd, Nat.reduceSub, Nat.reduceMul, Nat.reduceEqDiff, Nat.reduceLT, Nat.reduceLeDiff, eq_true c49, eq_false c56, hx61, binV_cat hx63, natOf_le hx64a, hx64b, binV_cat hx66, binV_cat hx67, hx68, binV_cat hx70, hx71f]
    refine adN.pc (ok20 (IntKind.i64.wrap (x68 - x61)) x69 hx69) Tryd.call20 callV_fn (by simp only [go_sem, ↓reduceIte, reduceCtorEq, Nat.reduceAdd, Nat.reduceSub, Nat.reduceMul, Nat.reduceEqDiff, Nat.reduceLT, Nat.reduceLeDiff, eq_true c49, eq_false c56, hx61, binV_cat hx63, natOf_le hx64a, hx64b, binV_cat hx66, binV_cat hx67, hx68, binV_cat hx70, hx71f]) (by simp only [go_sem, ↓reduceIte, reduceCtorEq, Nat.reduceAdd, Nat.reduceSub, Nat.reduceMul, Nat.reduceEqDiff, Nat.reduceLT, Nat.reduceLeDiff]) ?_
    simp only [go_sem, ↓reduceIte, reduceCtorEq, Nat.reduceAdd, Nat.reduceSub, Nat.reduceMul, Nat.reduceEqDiff, Nat.reduceLT, Nat.reduceLeDiff, eq_true c49, eq_false c56, hx61, binV_cat hx63, natOf_le hx64a, hx64b, binV_cat hx66, binV_cat hx67, hx68, binV_cat hx70, hx71f]
    subst hK
    obtain ⟨x72, hx72, h⟩ := Option.bind_eq_some_iff.1 h
    refine AW.regionL [0, 3] ?_
    generalize hK : inBlockA _ _ Exit.normal = K
    simp only [go_sem, ↓reduceIte, reduceCtorEq, Nat.reduceAdd, Nat.reduceSub, Nat.reduceMul, Nat.reduceEqDiff, Nat.reduceLT, Nat.reduceLeDiff, eq_true c49, eq_false c56, cut_sn el25 sz3 (ml_enc3 _) hx72]
    subst hK
    refine block_n ?_
    refine thenA_n ?_
    refine ⟨_, (Option.some.inj h).symm, ?_⟩
    refine Ent.can [265] _ _ _ rfl (by first | decide | simp) rfl ?_ ?_ ?_
    · exact ((RF.any.pv (by first | rfl | simp only [go_sem]) (by first | rfl | simp [upd_ap, hpL_ap, tau, mapT, mapTL, bytesI_len, eq_true c49, eq_false c56])).po (by decide) (by first | rfl | simp [upd_ap, hpL_ap, tau, mapT, mapTL, bytesI_len, eq_true c49, eq_false c56]))
    · exact .nil _
    · exact .cons (.eq (by first | rfl | simp only [go_sem]) (by first | rfl | simp [upd_ap, hpL_ap, tau, mapT, mapTL, bytesI_len, eq_true c49, eq_false c56])) (.nil _)
  ·rw [if_neg c49] at h
   refine AW.ifF rfl c49 ?_
   refine AW.exit ?_
   refine thenA_x ?_
   refine thenA_x ?_
   refine ⟨_, (Option.some.inj h).symm, _, ?_, rfl, rfl⟩
   refine Ent.can [8] _ _ _ rfl (by first | decide | simp) rfl ?_ ?_ ?_
   · exact (RF.any.po (by decide) (by first | rfl | simp [upd_ap, hpL_ap, tau, mapT, mapTL, bytesI_len, eq_false c49]))
   · exact .nil _
   · exact .cons (.eq (by first | rfl | simp only [go_sem]) (by first | rfl | simp [upd_ap, hpL_ap, tau, mapT, mapTL, bytesI_len, eq_false c49])) (.nil _)
 ·intro e st' hX
  try dsimp only at h
  try dsimp only at hX
  obtain ⟨rfl, rfl⟩ := hX
  refine ⟨_, Ent.refl, ?_⟩
  refine block_x ?_
  refine thenA_n ?_
  obtain ⟨x75, hx75, h⟩ := Option.bind_eq_some_iff.1 h
  refine AW.regL [2] ?_
  generalize hK : AW Tryd.prog _ _ _ = K
  simp only [go_sem, ↓reduceIte, reduceCtorEq, Nat.reduceAdd, Nat.reduceSub, Nat.reduceMul, Nat.reduceEqDiff, Nat.reduceLT, Nat.reduceLeDiff]
  refine arC.of (ok26 y74 ⟨#[44]⟩ x75 hx75) Tryd.call26 ?_
  simp only [go_sem, ↓reduceIte, reduceCtorEq, Nat.reduceAdd, Nat.reduceSub, Nat.reduceMul, Nat.reduceEqDiff, Nat.reduceLT, Nat.reduceLeDiff]
  subst hK
  refine AW.ret ?_
  obtain rfl := Option.some.inj h
  (simp only [go_sem, ↓reduceIte, reduceCtorEq, Nat.reduceAdd, Nat.reduceSub, Nat.reduceMul, Nat.reduceEqDiff, Nat.reduceLT, Nat.reduceLeDiff, finA] <;> try simp)
end Au
end Go.Proofs.Yd

set_option linter.all false
set_option maxRecDepth 8000
set_option maxHeartbeats 1000000
namespace Go.Proofs.Yd
open Go.Gm
namespace Au
noncomputable def f5 : Option Bool := ((f8 [0, 4, 8, 9, 20]).bind fun x1 => some (decide (x1 = ⟨#[48, 46, 46, 56, 47, 52, 44, 57, 44, 50, 48]⟩)))
theorem ok5 (r : Bool) (h : f5 = some r) : PC Tryd.prog 5 [] (.val (.bool r)) := by
 rw [f5] at h
 refine pc_of8 (N := 4) (rs := [.tmp 0]) Tryd.func5 rfl rfl rfl (Nat.le_of_ble_eq_true rfl) ?_
 refine AW.regL [] ?_
 generalize hK : AW Tryd.prog _ _ _ = K
 simp only [go_sem, ↓reduceIte, reduceCtorEq, Nat.reduceAdd, Nat.reduceSub, Nat.reduceMul, Nat.reduceEqDiff, Nat.reduceLT, Nat.reduceLeDiff]
 subst hK
 obtain ⟨x1, hx1, h⟩ := Option.bind_eq_some_iff.1 h
 refine AW.regL [0] ?_
 generalize hK : AW Tryd.prog _ _ _ = K
 simp only [go_sem, ↓reduceIte, reduceCtorEq, Nat.reduceAdd, Nat.reduceSub, Nat.reduceMul, Nat.reduceEqDiff, Nat.reduceLT, Nat.reduceLeDiff]
 refine arC.of (ok8 [0, 4, 8, 9, 20] x1 hx1) Tryd.call8 ?_
 simp only [go_sem, ↓reduceIte, reduceCtorEq, Nat.reduceAdd, Nat.reduceSub, Nat.reduceMul, Nat.reduceEqDiff, Nat.reduceLT, Nat.reduceLeDiff]
 subst hK
 refine AW.ret ?_
 obtain rfl := Option.some.inj h
 (simp only [go_sem, ↓reduceIte, reduceCtorEq, Nat.reduceAdd, Nat.reduceSub, Nat.reduceMul, Nat.reduceEqDiff, Nat.reduceLT, Nat.reduceLeDiff, finA] <;> try simp)
end Au
end Go.Proofs.Yd

set_option linter.all false
set_option maxRecDepth 8000
set_option maxHeartbeats 1000000
namespace Go.Proofs.Yd
open Go.Gm
namespace Au
noncomputable def f22 (a0 : List ByteArray) : Option ByteArray := ((f26 a0 ⟨#[32]⟩).bind fun x1 => some x1)
theorem ok22 (a0 : List ByteArray) (r : ByteArray) (h : f22 a0 = some r) : PC Tryd.prog 22 [.sl (List.map enc9 a0)] (.val (.string r)) := by
 rw [f22] at h
 refine pc_of8 (N := 5) (rs := [.tmp 2]) Tryd.func22 rfl rfl rfl (Nat.le_of_ble_eq_true rfl) ?_
 refine AW.regL [0] ?_
 generalize hK : AW Tryd.prog _ _ _ = K
 simp only [go_sem, ↓reduceIte, reduceCtorEq, Nat.reduceAdd, Nat.reduceSub, Nat.reduceMul, Nat.reduceEqDiff, Nat.reduceLT, Nat.reduceLeDiff]
 subst hK
 obtain ⟨x1, hx1, h⟩ := Option.bind_eq_some_iff.1 h
 refine AW.regL [2] ?_
 generalize hK : AW Tryd.prog _ _ _ = K
 simp only [go_sem, ↓reduceIte, reduceCtorEq, Nat.reduceAdd, Nat.reduceSub, Nat.reduceMul, Nat.reduceEqDiff, Nat.reduceLT, Nat.reduceLeDiff]
 refine arC.of (ok26 a0 ⟨#[32]⟩ x1 hx1) Tryd.call26 ?_
 simp only [go_sem, ↓reduceIte, reduceCtorEq, Nat.reduceAdd, Nat.reduceSub, Nat.reduceMul, Nat.reduceEqDiff, Nat.reduceLT, Nat.reduceLeDiff]
 subst hK
 refine AW.ret ?_
 obtain rfl := Option.some.inj h
 (simp only [go_sem, ↓reduceIte, reduceCtorEq, Nat.reduceAdd, Nat.reduceSub, Nat.reduceMul, Nat.reduceEqDiff, Nat.reduceLT, Nat.reduceLeDiff, finA] <;> try simp)
end Au
end Go.Proofs.Yd

set_option linter.all false
set_option maxRecDepth 8000
set_option maxHeartbeats 1000000
namespace Go.Proofs.Yd
open Go.Gm
namespace Au
noncomputable def f28 (a0 : Int) : Option ByteArray := (if a0 < 0 then some ⟨#[63]⟩ else (if 11 ≤ a0 then some ⟨#[63]⟩ else ((ix ([⟨#[98, 101, 97, 116]⟩, ⟨#[109, 97, 112]⟩, ⟨#[109, 97, 112, 112, 101, 100]⟩, ⟨#[114, 101, 100, 117, 99, 101]⟩, ⟨#[102, 101, 116, 99, 104]⟩, ⟨#[100, 97, 116, 97]⟩, ⟨#[108, 111, 115, 116]⟩, ⟨#[103, 111, 110, 101]⟩, ⟨#[99, 111, 109, 109, 105, 116]⟩, ⟨#[116, 97, 107, 101, 110]⟩, ⟨#[102, 97, 105, 108]⟩] : List ByteArray) a0).bind fun x3 => some x3)))
theorem ok28 (a0 : Int) (r : ByteArray) (h : f28 a0 = some r) : PC Tryd.prog 28 [.val (.int .i64 a0)] (.val (.string r)) := by
 rw [f28] at h
 refine pc_of8 (N := 13) (rs := [.tmp 2]) Tryd.func28 rfl rfl rfl (Nat.le_of_ble_eq_true rfl) ?_
 refine AW.regL [0] ?_
 generalize hK : AW Tryd.prog _ _ _ = K
 simp only [go_sem, ↓reduceIte, reduceCtorEq, Nat.reduceAdd, Nat.reduceSub, Nat.reduceMul, Nat.reduceEqDiff, Nat.reduceLT, Nat.reduceLeDiff]
 subst hK
 refine AW.seq ?_
 by_cases c1 : a0 < 0
 ·rw [if_pos c1] at h
  refine AW.regL [0, 8] ?_
  generalize hK : AW Tryd.prog _ _ _ = K
  simp only [go_sem, ↓reduceIte, reduceCtorEq, Nat.reduceAdd, Nat.reduceSub, Nat.reduceMul, Nat.reduceEqDiff, Nat.reduceLT, Nat.reduceLeDiff, eq_true c1]
  subst hK
  refine AW.ifBT rfl rfl ?_
  refine AW.regL [2] ?_
  generalize hK : AW Tryd.prog _ _ _ = K
  simp only [go_sem, ↓reduceIte, reduceCtorEq, Nat.reduceAdd, Nat.reduceSub, Nat.reduceMul, Nat.reduceEqDiff, Nat.reduceLT, Nat.reduceLeDiff, eq_true c1]
  subst hK
  refine AW.ret ?_
  refine thenA_r ?_
  obtain rfl := Option.some.inj h
  (simp only [go_sem, ↓reduceIte, reduceCtorEq, Nat.reduceAdd, Nat.reduceSub, Nat.reduceMul, Nat.reduceEqDiff, Nat.reduceLT, Nat.reduceLeDiff, eq_true c1, finA] <;> try simp)
 ·rw [if_neg c1] at h
  refine AW.regL [0, 8] ?_
  generalize hK : AW Tryd.prog _ _ _ = K
  simp only [go_sem, ↓reduceIte, reduceCtorEq, Nat.reduceAdd, Nat.reduceSub, Nat.reduceMul, Nat.reduceEqDiff, Nat.reduceLT, Nat.reduceLeDiff, eq_false c1]
  subst hK
  by_cases c2 : 11 ≤ a0
  ·rw [if_pos c2] at h
   refine AW.ifT rfl c2 ?_
   refine AW.regL [2] ?_
   generalize hK : AW Tryd.prog _ _ _ = K
   simp only [go_sem, ↓reduceIte, reduceCtorEq, Nat.reduceAdd, Nat.reduceSub, Nat.reduceMul, Nat.reduceEqDiff, Nat.reduceLT, Nat.reduceLeDiff, eq_false c1, eq_true c2]
   subst hK
   refine AW.ret ?_
   refine thenA_r ?_
   obtain rfl := Option.some.inj h
   (simp only [go_sem, ↓reduceIte, reduceCtorEq, Nat.reduceAdd, Nat.reduceSub, Nat.reduceMul, Nat.reduceEqDiff, Nat.reduceLT, Nat.reduceLeDiff, eq_false c1, eq_true c2, finA] <;> try simp)
  ·rw [if_neg c2] at h
   refine AW.ifF rfl c2 ?_
   refine AW.skip ?_
   refine thenA_n ?_
   obtain ⟨x3, hx3, h⟩ := Option.bind_eq_some_iff.1 h
   obtain ⟨hx3a, hx3b⟩ := ix_some.1 hx3
   have hx3l : a0.toNat < 11 := (List.getElem?_eq_some_iff.1 hx3b).1
   have hx3m : ([[.val (.string ⟨#[98, 101, 97, 116]⟩)], [.val (.string ⟨#[109, 97, 112]⟩)], [.val (.string ⟨#[109, 97, 112, 112, 101, 100]⟩)], [.val (.string ⟨#[114, 101, 100, 117, 99, 101]⟩)], [.val (.string ⟨#[102, 101, 116, 99, 104]⟩)], [.val (.string ⟨#[100, 97, 116, 97]⟩)], [.val (.string ⟨#[108, 111, 115, 116]⟩)], [.val (.string ⟨#[103, 111, 110, 101]⟩)], [.val (.string ⟨#[99, 111, 109, 109, 105, 116]⟩)], [.val (.string ⟨#[116, 97, 107, 101, 110]⟩)], [.val (.string ⟨#[102, 97, 105, 108]⟩)]] : List (List AV))[a0.toNat]? = some (enc9 x3) := map_ix (enc := enc9) (l := [⟨#[98, 101, 97, 116]⟩, ⟨#[109, 97, 112]⟩, ⟨#[109, 97, 112, 112, 101, 100]⟩, ⟨#[114, 101, 100, 117, 99, 101]⟩, ⟨#[102, 101, 116, 99, 104]⟩, ⟨#[100, 97, 116, 97]⟩, ⟨#[108, 111, 115, 116]⟩, ⟨#[103, 111, 110, 101]⟩, ⟨#[99, 111, 109, 109, 105, 116]⟩, ⟨#[116, 97, 107, 101, 110]⟩, ⟨#[102, 97, 105, 108]⟩]) hx3b
   refine AW.regL [2] ?_
   generalize hK : AW Tryd.prog _ _ _ = K
   simp only [go_sem, ↓reduceIte, reduceCtorEq, Nat.reduceAdd, Nat.reduceSub, Nat.reduceMul, Nat.reduceEqDiff, Nat.reduceLT, Nat.reduceLeDiff, eq_false c1, eq_false c2, natOf_le hx3a, hx3m, eq_true hx3l]
   subst hK
   refine AW.ret ?_
   obtain rfl := Option.some.inj h
   (simp only [go_sem, ↓reduceIte, reduceCtorEq, Nat.reduceAdd, Nat.reduceSub, Nat.reduceMul, Nat.reduceEqDiff, Nat.reduceLT, Nat.reduceLeDiff, eq_false c1, eq_false c2, finA] <;> try simp)
end Au
end Go.Proofs.Yd

set_option linter.all false
set_option maxRecDepth 8000
set_option maxHeartbeats 1000000
namespace Go.Proofs.Yd
open Go.Gm
namespace Au
noncomputable def f29_s1 (a0 : List Int) : (List ByteArray) × Int → Option (((List ByteArray) × Int) ⊕ (List ByteArray))
  | (s1_0, s1_1) => (if s1_1 < (a0.length : Int) then ((ix a0 s1_1).bind fun x15 => ((f20 x15).bind fun x16 => ((appO? s1_0 [x16]).bind fun x17 => some (.inl (x17, IntKind.i64.wrap (s1_1 + 1)))))) else some (.inr s1_0))
noncomputable def f29 (a0 : List Int) : Option ByteArray := ((loopO (f29_s1 a0) ([], 0)).bind fun y19 => ((f26 y19 ⟨#[44]⟩).bind fun x20 => some x20))
theorem ok29 (a0 : List Int) (r : ByteArray) (h : f29 a0 = some r) : PC Tryd.prog 29 [.sl (List.map enc3 a0)] (.val (.string r)) := by
 rw [f29] at h
 refine pc_of8 (N := 20) (rs := [.tmp 2]) Tryd.func29 rfl rfl rfl (Nat.le_of_ble_eq_true rfl) ?_
 refine AW.regL [0] ?_
 generalize hK : AW Tryd.prog _ _ _ = K
 simp only [go_sem, ↓reduceIte, reduceCtorEq, Nat.reduceAdd, Nat.reduceSub, Nat.reduceMul, Nat.reduceEqDiff, Nat.reduceLT, Nat.reduceLeDiff]
 subst hK
 refine AW.regL [0, 3] ?_
 generalize hK : AW Tryd.prog _ _ _ = K
 simp only [go_sem, ↓reduceIte, reduceCtorEq, Nat.reduceAdd, Nat.reduceSub, Nat.reduceMul, Nat.reduceEqDiff, Nat.reduceLT, Nat.reduceLeDiff]
 subst hK
 refine AW.seq ?_
 refine AW.regL [3, 6, 7, 8] ?_
 generalize hK : AW Tryd.prog _ _ _ = K
 simp only [go_sem, ↓reduceIte, reduceCtorEq, Nat.reduceAdd, Nat.reduceSub, Nat.reduceMul, Nat.reduceEqDiff, Nat.reduceLT, Nat.reduceLeDiff]
 subst hK
 refine AW.block ?_
 obtain ⟨y19, hy19, h⟩ := Option.bind_eq_some_iff.1 h
 refine AW.loopO (fun s => ⟨(upd (upd (upd (upd anyF 3 (.own 8 0 s.1.length)) 6 (.sl (List.map enc3 a0))) 7 (.val (.int .i64 (a0.length : Int)))) 8 (.val (.int .i64 s.2))), hpL [] [some (.row 1 true (List.map enc9 s.1))], 9⟩) (fun z e st' => e = Exit.exit 0 ∧ st' = ⟨(upd anyF 3 (.own 8 0 z.length)), hpL [] [some (.row 1 true (List.map enc9 z))], 9⟩) hy19 ?_ ?_ ?_
 ·refine Ent.trans (Ent.nilOwn 3 1 (by decide) rfl) ?_
  refine Ent.can [48] _ _ _ rfl (by first | decide | simp) rfl ?_ ?_ ?_
  · exact ((((RF.any.po (by decide) (by first | rfl | simp [upd_ap, hpL_ap, tau, mapT, mapTL, bytesI_len])).pv (by first | rfl | simp only [go_sem]) (by first | rfl | simp [upd_ap, hpL_ap, tau, mapT, mapTL, bytesI_len])).pv (by first | rfl | simp only [go_sem]) (by first | rfl | simp [upd_ap, hpL_ap, tau, mapT, mapTL, bytesI_len])).pv (by first | rfl | simp only [go_sem]) (by first | rfl | simp [upd_ap, hpL_ap, tau, mapT, mapTL, bytesI_len]))
  · exact .nil _
  · exact .cons (.eq (by first | rfl | simp only [go_sem]) (by first | rfl | simp [upd_ap, hpL_ap, tau, mapT, mapTL, bytesI_len])) (.nil _)
 ·clear h hy19
  rintro ⟨s1_0, s1_1⟩ x h
  rw [f29_s1] at h
  refine AW.regL [3, 6, 7, 8, 9] ?_
  generalize hK : AW Tryd.prog _ _ _ = K
  simp only [go_sem, ↓reduceIte, reduceCtorEq, Nat.reduceAdd, Nat.reduceSub, Nat.reduceMul, Nat.reduceEqDiff, Nat.reduceLT, Nat.reduceLeDiff]
  subst hK
  refine AW.seq ?_
  by_cases c14 : s1_1 < (a0.length : Int)
  ·rw [if_pos c14] at h
   refine AW.ifT rfl c14 ?_
   refine AW.skip ?_
   refine thenA_n ?_
   refine AW.seq ?_
   refine AW.block ?_
   obtain ⟨x15, hx15, h⟩ := Option.bind_eq_some_iff.1 h
   obtain ⟨hx15a, hx15b⟩ := ix_some.1 hx15
   refine AW.regL [3, 5, 6, 7, 8] ?_
   generalize hK : AW Tryd.prog _ _ _ = K
   simp only [go_sem, ↓reduceIte, reduceCtorEq, Nat.reduceAdd, Nat.reduceSub, Nat.reduceMul, Nat.reduceEqDiff, Nat.reduceLT, Nat.reduceLeDiff, eq_true c14, natOf_le hx15a, hx15b]
   subst hK
   obtain ⟨x16, hx16, h⟩ := Option.bind_eq_some_iff.1 h
   obtain ⟨x17, hx17, h⟩ := Option.bind_eq_some_iff.1 h
   obtain ⟨hx17b, hx17e⟩ := appO?_some.1 hx17
   have hx17f : ∀ id o : Nat, appO 1 16 id ([[.val (.string x16)]]) 0 s1_0.length o (some (.row 1 true (List.map enc9 s1_0))) = some ⟨.own id 0 x17.length, [(o, none), (id, some (.row 1 true (List.map enc9 x17)))]⟩ := fun id o => by
     subst hx17e; rw [appO_ok (by simp) (by simpa using hx17b) (by decide)]; first | (simp [enc9]; done) | (simp [enc9]; omega)
   refine AW.regionL [3, 6, 7, 8] ?_
   generalize hK : inBlockA _ _ Exit.normal = K
   simp only [go_sem, ↓reduceIte, reduceCtorEq, Nat.reduceAdd, Nat.reduceSub, Nat.reduceMul, Nat.reduceEqDiff, Nat.reduceLT, Nat.reduceLeDiff, eq_true c14, hx17f]
   refine arC.of (ok20 x15 x16 hx16) Tryd.call20 ?_
   simp only [go_sem, ↓reduceIte, reduceCtorEq, Nat.reduceAdd, Nat.reduceSub, Nat.reduceMul, Nat.reduceEqDiff, Nat.reduceLT, Nat.reduceLeDiff, eq_true c14, hx17f]
   subst hK
   refine block_n ?_
   refine thenA_n ?_
   refine AW.regionL [3, 6, 7, 8] ?_
   generalize hK : thenA _ _ Exit.normal = K
   simp only [go_sem, ↓reduceIte, reduceCtorEq, Nat.reduceAdd, Nat.reduceSub, Nat.reduceMul, Nat.reduceEqDiff, Nat.reduceLT, Nat.reduceLeDiff, eq_true c14]
   subst hK
   refine thenA_n ?_
   refine ⟨_, (Option.some.inj h).symm, ?_⟩
   refine Ent.can [73] _ _ _ rfl (by first | decide | simp) rfl ?_ ?_ ?_
   · exact ((((RF.any.po (by decide) (by first | rfl | simp [upd_ap, hpL_ap, tau, mapT, mapTL, bytesI_len, eq_true c14])).pv (by first | rfl | simp only [go_sem]) (by first | rfl | simp [upd_ap, hpL_ap, tau, mapT, mapTL, bytesI_len, eq_true c14])).pv (by first | rfl | simp only [go_sem]) (by first | rfl | simp [upd_ap, hpL_ap, tau, mapT, mapTL, bytesI_len, eq_true c14])).pv (by first | rfl | simp only [go_sem]) (by first | rfl | simp [upd_ap, hpL_ap, tau, mapT, mapTL, bytesI_len, eq_true c14]))
   · exact .nil _
   · exact .cons (.eq (by first | rfl | simp only [go_sem]) (by first | rfl | simp [upd_ap, hpL_ap, tau, mapT, mapTL, bytesI_len, eq_true c14])) (.nil _)
  ·rw [if_neg c14] at h
   refine AW.ifF rfl c14 ?_
   refine AW.exit ?_
   refine thenA_x ?_
   refine thenA_x ?_
   refine ⟨_, (Option.some.inj h).symm, _, ?_, rfl, rfl⟩
   refine Ent.can [8] _ _ _ rfl (by first | decide | simp) rfl ?_ ?_ ?_
   · exact (RF.any.po (by decide) (by first | rfl | simp [upd_ap, hpL_ap, tau, mapT, mapTL, bytesI_len, eq_false c14]))
   · exact .nil _
   · exact .cons (.eq (by first | rfl | simp only [go_sem]) (by first | rfl | simp [upd_ap, hpL_ap, tau, mapT, mapTL, bytesI_len, eq_false c14])) (.nil _)
 ·intro e st' hX
  try dsimp only at h
  try dsimp only at hX
  obtain ⟨rfl, rfl⟩ := hX
  refine ⟨_, Ent.refl, ?_⟩
  refine block_x ?_
  refine thenA_n ?_
  obtain ⟨x20, hx20, h⟩ := Option.bind_eq_some_iff.1 h
  refine AW.regL [2] ?_
  generalize hK : AW Tryd.prog _ _ _ = K
  simp only [go_sem, ↓reduceIte, reduceCtorEq, Nat.reduceAdd, Nat.reduceSub, Nat.reduceMul, Nat.reduceEqDiff, Nat.reduceLT, Nat.reduceLeDiff]
  refine arC.of (ok26 y19 ⟨#[44]⟩ x20 hx20) Tryd.call26 ?_
  simp only [go_sem, ↓reduceIte, reduceCtorEq, Nat.reduceAdd, Nat.reduceSub, Nat.reduceMul, Nat.reduceEqDiff, Nat.reduceLT, Nat.reduceLeDiff]
  subst hK
  refine AW.ret ?_
  obtain rfl := Option.some.inj h
  (simp only [go_sem, ↓reduceIte, reduceCtorEq, Nat.reduceAdd, Nat.reduceSub, Nat.reduceMul, Nat.reduceEqDiff, Nat.reduceLT, Nat.reduceLeDiff, finA] <;> try simp)
end Au
end Go.Proofs.Yd

set_option linter.all false
set_option maxRecDepth 8000
set_option maxHeartbeats 1000000
namespace Go.Proofs.Yd
open Go.Gm
namespace Au
noncomputable def f37_j5 (s2_0 : ByteArray) (s2_1 : Int) : Unit → Option ((ByteArray × Int) ⊕ ByteArray)
  | _ => (if (s2_1.tmod 10) < 0 then ((cutSO? ⟨#[48, 49, 50, 51, 52, 53, 54, 55, 56, 57]⟩ (IntKind.i64.wrap (0 - (s2_1.tmod 10))) (IntKind.i64.wrap ((IntKind.i64.wrap (0 - (s2_1.tmod 10))) + 1))).bind fun x42 => ((catO x42 s2_0).bind fun x43 => some (.inl (x43, IntKind.i64.wrap (s2_1.tdiv 10))))) else ((cutSO? ⟨#[48, 49, 50, 51, 52, 53, 54, 55, 56, 57]⟩ (s2_1.tmod 10) (IntKind.i64.wrap ((s2_1.tmod 10) + 1))).bind fun x44 => ((catO x44 s2_0).bind fun x45 => some (.inl (x45, IntKind.i64.wrap (s2_1.tdiv 10))))))
noncomputable def f37_s2 : ByteArray × Int → Option ((ByteArray × Int) ⊕ ByteArray)
  | (s2_0, s2_1) => (if s2_1 = 0 then (if s2_0 = ⟨#[]⟩ then f37_j5 s2_0 s2_1 () else some (.inr s2_0)) else f37_j5 s2_0 s2_1 ())
noncomputable def f37 (a0 : Int) : Option ByteArray := ((loopO f37_s2 (⟨#[]⟩, a0)).bind fun y49 => (if a0 < 0 then ((catO ⟨#[45]⟩ y49).bind fun x51 => some x51) else some y49))
theorem ok37 (a0 : Int) (r : ByteArray) (h : f37 a0 = some r) : PC Tryd.prog 37 [.val (.int .i64 a0)] (.val (.string r)) := by
 rw [f37] at h
 refine pc_of8 (N := 32) (rs := [.tmp 2]) Tryd.func37 rfl rfl rfl (Nat.le_of_ble_eq_true rfl) ?_
 refine AW.regL [0] ?_
 generalize hK : AW Tryd.prog _ _ _ = K
 simp only [go_sem, ↓reduceIte, reduceCtorEq, Nat.reduceAdd, Nat.reduceSub, Nat.reduceMul, Nat.reduceEqDiff, Nat.reduceLT, Nat.reduceLeDiff, Nat.reduceBEq, Int.reduceAdd, Int.reduceSub, Int.reduceLT, Int.reduceLE, Int.reduceEq, Int.reduceToNat]
 subst hK
 refine AW.regL [0, 3] ?_
 generalize hK : AW Tryd.prog _ _ _ = K
 simp only [go_sem, ↓reduceIte, reduceCtorEq, Nat.reduceAdd, Nat.reduceSub, Nat.reduceMul, Nat.reduceEqDiff, Nat.reduceLT, Nat.reduceLeDiff, Nat.reduceBEq, Int.reduceAdd, Int.reduceSub, Int.reduceLT, Int.reduceLE, Int.reduceEq, Int.reduceToNat]
 subst hK
 refine AW.seq ?_
 refine AW.regL [0, 3, 4] ?_
 generalize hK : AW Tryd.prog _ _ _ = K
 simp only [go_sem, ↓reduceIte, reduceCtorEq, Nat.reduceAdd, Nat.reduceSub, Nat.reduceMul, Nat.reduceEqDiff, Nat.reduceLT, Nat.reduceLeDiff, Nat.reduceBEq, Int.reduceAdd, Int.reduceSub, Int.reduceLT, Int.reduceLE, Int.reduceEq, Int.reduceToNat]
 subst hK
 refine AW.block ?_
 obtain ⟨y49, hy49, h⟩ := Option.bind_eq_some_iff.1 h
 refine AW.loopO (fun s => ⟨(upd (upd (upd anyF 0 (.val (.int .i64 a0))) 3 (.val (.string s.1))) 4 (.val (.int .i64 s.2))), hpL [] [], 8⟩) (fun z e st' => e = Exit.exit 0 ∧ st' = ⟨(upd (upd anyF 0 (.val (.int .i64 a0))) 3 (.val (.string z))), hpL [] [], 8⟩) hy49 ?_ ?_ ?_
 ·refine Ent.can [] _ _ _ rfl (by first | decide | simp) rfl ?_ ?_ ?_
  · exact (((RF.any.pv (by first | rfl | simp only [go_sem]) (by first | rfl | simp [upd_ap, hpL_ap, tau, mapT, mapTL, bytesI_len])).pv (by first | rfl | simp only [go_sem]) (by first | rfl | simp [upd_ap, hpL_ap, tau, mapT, mapTL, bytesI_len])).pv (by first | rfl | simp only [go_sem]) (by first | rfl | simp [upd_ap, hpL_ap, tau, mapT, mapTL, bytesI_len]))
  · exact .nil _
  · exact .nil _
 ·clear h hy49
  rintro ⟨s2_0, s2_1⟩ x h
  rw [f37_s2] at h
  refine AW.join (fun s => ⟨(upd (upd (upd anyF 0 (.val (.int .i64 a0))) 3 (.val (.string s2_0))) 4 (.val (.int .i64 s2_1))), hpL [] [], 8⟩) (fun s => f37_j5 s2_0 s2_1 s = some x) ?_ ?_
  ·by_cases c46 : s2_1 = 0
   ·rw [if_pos c46] at h
    refine AW.regL [0, 3, 4, 12] ?_
    generalize hK : AW Tryd.prog _ _ _ = K
    simp only [go_sem, ↓reduceIte, reduceCtorEq, Nat.reduceAdd, Nat.reduceSub, Nat.reduceMul, Nat.reduceEqDiff, Nat.reduceLT, Nat.reduceLeDiff, Nat.reduceBEq, Int.reduceAdd, Int.reduceSub, Int.reduceLT, Int.reduceLE, Int.reduceEq, Int.reduceToNat, eq_true c46]
    subst hK
    by_cases c47 : s2_0 = ⟨#[]⟩
    ·rw [if_pos c47] at h
     refine AW.ifT rfl c47 ?_
     refine AW.skip ?_
     refine thenA_n ?_
     refine ⟨_, h, ?_⟩
     refine Ent.can [] _ _ _ rfl (by first | decide | simp) rfl ?_ ?_ ?_
     · exact (((RF.any.pv (by first | rfl | simp only [go_sem]) (by first | rfl | simp [upd_ap, hpL_ap, tau, mapT, mapTL, bytesI_len, eq_true c46, eq_true c47])).pv (by first | rfl | simp only [go_sem]) (by first | rfl | simp [upd_ap, hpL_ap, tau, mapT, mapTL, bytesI_len, eq_true c46, eq_true c47])).pv (by first | rfl | simp only [go_sem]) (by first | rfl | simp [upd_ap, hpL_ap, tau, mapT, mapTL, bytesI_len, eq_true c46, eq_true c47]))
     · exact .nil _
     · exact .nil _
    ·rw [if_neg c47] at h
     refine AW.ifF rfl c47 ?_
     refine AW.exit ?_
     refine thenA_x ?_
     refine thenA_x ?_
     refine ⟨_, (Option.some.inj h).symm, _, ?_, rfl, rfl⟩
     refine Ent.can [] _ _ _ rfl (by first | decide | simp) rfl ?_ ?_ ?_
     · exact ((RF.any.pv (by first | rfl | simp only [go_sem]) (by first | rfl | simp [upd_ap, hpL_ap, tau, mapT, mapTL, bytesI_len, eq_true c46, eq_false c47])).pv (by first | rfl | simp only [go_sem]) (by first | rfl | simp [upd_ap, hpL_ap, tau, mapT, mapTL, bytesI_len, eq_true c46, eq_false c47]))
     · exact .nil _
     · exact .nil _
   ·rw [if_neg c46] at h
    refine AW.regL [0, 3, 4, 12] ?_
    generalize hK : AW Tryd.prog _ _ _ = K
    simp only [go_sem, ↓reduceIte, reduceCtorEq, Nat.reduceAdd, Nat.reduceSub, Nat.reduceMul, Nat.reduceEqDiff, Nat.reduceLT, Nat.reduceLeDiff, Nat.reduceBEq, Int.reduceAdd, Int.reduceSub, Int.reduceLT, Int.reduceLE, Int.reduceEq, Int.reduceToNat, eq_false c46]
    subst hK
    refine AW.ifBT rfl rfl ?_
    refine AW.skip ?_
    refine thenA_n ?_
    refine ⟨_, h, ?_⟩
    refine Ent.can [] _ _ _ rfl (by first | decide | simp) rfl ?_ ?_ ?_
    · exact (((RF.any.pv (by first | rfl | simp only [go_sem]) (by first | rfl | simp [upd_ap, hpL_ap, tau, mapT, mapTL, bytesI_len, eq_false c46])).pv (by first | rfl | simp only [go_sem]) (by first | rfl | simp [upd_ap, hpL_ap, tau, mapT, mapTL, bytesI_len, eq_false c46])).pv (by first | rfl | simp only [go_sem]) (by first | rfl | simp [upd_ap, hpL_ap, tau, mapT, mapTL, bytesI_len, eq_false c46]))
    · exact .nil _
    · exact .nil _
  ·clear h
   rintro ⟨⟩ h
   rw [f37_j5] at h
   refine AW.seq ?_
   refine AW.block ?_
   refine AW.regL [0, 3, 4, 5] ?_
   generalize hK : AW Tryd.prog _ _ _ = K
   simp only [go_sem, ↓reduceIte, reduceCtorEq, Nat.reduceAdd, Nat.reduceSub, Nat.reduceMul, Nat.reduceEqDiff, Nat.reduceLT, Nat.reduceLeDiff, Nat.reduceBEq, Int.reduceAdd, Int.reduceSub, Int.reduceLT, Int.reduceLE, Int.reduceEq, Int.reduceToNat]
   subst hK
   refine AW.seq ?_
   refine AW.regL [0, 3, 4, 5, 18] ?_
   generalize hK : AW Tryd.prog _ _ _ = K
   simp only [go_sem, ↓reduceIte, reduceCtorEq, Nat.reduceAdd, Nat.reduceSub, Nat.reduceMul, Nat.reduceEqDiff, Nat.reduceLT, Nat.reduceLeDiff, Nat.reduceBEq, Int.reduceAdd, Int.reduceSub, Int.reduceLT, Int.reduceLE, Int.reduceEq, Int.reduceToNat]
   subst hK
   by_cases c41 : (s2_1.tmod 10) < 0
   ·rw [if_pos c41] at h
    refine AW.ifT rfl c41 ?_
    refine AW.regionL [0, 3, 4, 5] ?_
    generalize hK : thenA _ _ Exit.normal = K
    simp only [go_sem, ↓reduceIte, reduceCtorEq, Nat.reduceAdd, Nat.reduceSub, Nat.reduceMul, Nat.reduceEqDiff, Nat.reduceLT, Nat.reduceLeDiff, Nat.reduceBEq, Int.reduceAdd, Int.reduceSub, Int.reduceLT, Int.reduceLE, Int.reduceEq, Int.reduceToNat, eq_true c41]
    subst hK
    refine thenA_n ?_
    obtain ⟨x42, hx42, h⟩ := Option.bind_eq_some_iff.1 h
    obtain ⟨x43, hx43, h⟩ := Option.bind_eq_some_iff.1 h
    refine AW.regionL [0, 3, 4] ?_
    generalize hK : inBlockA _ _ Exit.normal = K
    simp only [go_sem, ↓reduceIte, reduceCtorEq, Nat.reduceAdd, Nat.reduceSub, Nat.reduceMul, Nat.reduceEqDiff, Nat.reduceLT, Nat.reduceLeDiff, Nat.reduceBEq, Int.reduceAdd, Int.reduceSub, Int.reduceLT, Int.reduceLE, Int.reduceEq, Int.reduceToNat, eq_true c41, strCut_ss st9 hx42, binV_cat hx43]
    subst hK
    refine block_n ?_
    refine thenA_n ?_
    refine AW.regionL [0, 3, 4] ?_
    generalize hK : thenA _ _ Exit.normal = K
    simp only [go_sem, ↓reduceIte, reduceCtorEq, Nat.reduceAdd, Nat.reduceSub, Nat.reduceMul, Nat.reduceEqDiff, Nat.reduceLT, Nat.reduceLeDiff, Nat.reduceBEq, Int.reduceAdd, Int.reduceSub, Int.reduceLT, Int.reduceLE, Int.reduceEq, Int.reduceToNat, eq_true c41]
    subst hK
    refine thenA_n ?_
    refine ⟨_, (Option.some.inj h).symm, ?_⟩
    refine Ent.can [] _ _ _ rfl (by first | decide | simp) rfl ?_ ?_ ?_
    · exact (((RF.any.pv (by first | rfl | simp only [go_sem]) (by first | rfl | simp [upd_ap, hpL_ap, tau, mapT, mapTL, bytesI_len, eq_true c41])).pv (by first | rfl | simp only [go_sem]) (by first | rfl | simp [upd_ap, hpL_ap, tau, mapT, mapTL, bytesI_len, eq_true c41])).pv (by first | rfl | simp only [go_sem]) (by first | rfl | simp [upd_ap, hpL_ap, tau, mapT, mapTL, bytesI_len, eq_true c41]))
    · exact .nil _
    · exact .nil _
   ·rw [if_neg c41] at h
    refine AW.ifF rfl c41 ?_
    refine AW.skip ?_
    refine thenA_n ?_
    obtain ⟨x44, hx44, h⟩ := Option.bind_eq_some_iff.1 h
    obtain ⟨x45, hx45, h⟩ := Option.bind_eq_some_iff.1 h
    refine AW.regionL [0, 3, 4] ?_
    generalize hK : inBlockA _ _ Exit.normal = K
    simp only [go_sem, ↓reduceIte, reduceCtorEq, Nat.reduceAdd, Nat.reduceSub, Nat.reduceMul, Nat.reduceEqDiff, Nat.reduceLT, Nat.reduceLeDiff, Nat.reduceBEq, Int.reduceAdd, Int.reduceSub, Int.reduceLT, Int.reduceLE, Int.reduceEq, Int.reduceToNat, eq_false c41, strCut_ss st9 hx44, binV_cat hx45]
    subst hK
    refine block_n ?_
    refine thenA_n ?_
    refine AW.regionL [0, 3, 4] ?_
    generalize hK : thenA _ _ Exit.normal = K
    simp only [go_sem, ↓reduceIte, reduceCtorEq, Nat.reduceAdd, Nat.reduceSub, Nat.reduceMul, Nat.reduceEqDiff, Nat.reduceLT, Nat.reduceLeDiff, Nat.reduceBEq, Int.reduceAdd, Int.reduceSub, Int.reduceLT, Int.reduceLE, Int.reduceEq, Int.reduceToNat, eq_false c41]
    subst hK
    refine thenA_n ?_
    refine ⟨_, (Option.some.inj h).symm, ?_⟩
    refine Ent.can [] _ _ _ rfl (by first | decide | simp) rfl ?_ ?_ ?_
    · exact (((RF.any.pv (by first | rfl | simp only [go_sem]) (by first | rfl | simp [upd_ap, hpL_ap, tau, mapT, mapTL, bytesI_len, eq_false c41])).pv (by first | rfl | simp only [go_sem]) (by first | rfl | simp [upd_ap, hpL_ap, tau, mapT, mapTL, bytesI_len, eq_false c41])).pv (by first | rfl | simp only [go_sem]) (by first | rfl | simp [upd_ap, hpL_ap, tau, mapT, mapTL, bytesI_len, eq_false c41]))
    · exact .nil _
    · exact .nil _
 ·intro e st' hX
  try dsimp only at h
  try dsimp only at hX
  obtain ⟨rfl, rfl⟩ := hX
  refine ⟨_, Ent.refl, ?_⟩
  refine block_x ?_
  refine thenA_n ?_
  refine AW.seq ?_
  refine AW.regL [3, 28] ?_
  generalize hK : AW Tryd.prog _ _ _ = K
  simp only [go_sem, ↓reduceIte, reduceCtorEq, Nat.reduceAdd, Nat.reduceSub, Nat.reduceMul, Nat.reduceEqDiff, Nat.reduceLT, Nat.reduceLeDiff, Nat.reduceBEq, Int.reduceAdd, Int.reduceSub, Int.reduceLT, Int.reduceLE, Int.reduceEq, Int.reduceToNat]
  subst hK
  by_cases c50 : a0 < 0
  ·rw [if_pos c50] at h
   refine AW.ifT rfl c50 ?_
   obtain ⟨x51, hx51, h⟩ := Option.bind_eq_some_iff.1 h
   refine AW.regL [2] ?_
   generalize hK : AW Tryd.prog _ _ _ = K
   simp only [go_sem, ↓reduceIte, reduceCtorEq, Nat.reduceAdd, Nat.reduceSub, Nat.reduceMul, Nat.reduceEqDiff, Nat.reduceLT, Nat.reduceLeDiff, Nat.reduceBEq, Int.reduceAdd, Int.reduceSub, Int.reduceLT, Int.reduceLE, Int.reduceEq, Int.reduceToNat, eq_true c50, binV_cat hx51]
   subst hK
   refine AW.ret ?_
   refine thenA_r ?_
   obtain rfl := Option.some.inj h
   (simp only [go_sem, ↓reduceIte, reduceCtorEq, Nat.reduceAdd, Nat.reduceSub, Nat.reduceMul, Nat.reduceEqDiff, Nat.reduceLT, Nat.reduceLeDiff, Nat.reduceBEq, Int.reduceAdd, Int.reduceSub, Int.reduceLT, Int.reduceLE, Int.reduceEq, Int.reduceToNat, eq_true c50, finA] <;> try simp)
  ·rw [if_neg c50] at h
   refine AW.ifF rfl c50 ?_
   refine AW.skip ?_
   refine thenA_n ?_
   refine AW.regL [2] ?_
   generalize hK : AW Tryd.prog _ _ _ = K
   simp only [go_sem, ↓reduceIte, reduceCtorEq, Nat.reduceAdd, Nat.reduceSub, Nat.reduceMul, Nat.reduceEqDiff, Nat.reduceLT, Nat.reduceLeDiff, Nat.reduceBEq, Int.reduceAdd, Int.reduceSub, Int.reduceLT, Int.reduceLE, Int.reduceEq, Int.reduceToNat, eq_false c50]
   subst hK
   refine AW.ret ?_
   obtain rfl := Option.some.inj h
   (simp only [go_sem, ↓reduceIte, reduceCtorEq, Nat.reduceAdd, Nat.reduceSub, Nat.reduceMul, Nat.reduceEqDiff, Nat.reduceLT, Nat.reduceLeDiff, Nat.reduceBEq, Int.reduceAdd, Int.reduceSub, Int.reduceLT, Int.reduceLE, Int.reduceEq, Int.reduceToNat, eq_false c50, finA] <;> try simp)
end Au
end Go.Proofs.Yd

set_option linter.all false
set_option maxRecDepth 8000
set_option maxHeartbeats 1000000
namespace Go.Proofs.Yd
open Go.Gm
namespace Au
noncomputable def f23 (a0 : Int) : Option ByteArray := ((f37 a0).bind fun x1 => some x1)
theorem ok23 (a0 : Int) (r : ByteArray) (h : f23 a0 = some r) : PC Tryd.prog 23 [.val (.int .i64 a0)] (.val (.string r)) := by
 rw [f23] at h
 refine pc_of8 (N := 5) (rs := [.tmp 2]) Tryd.func23 rfl rfl rfl (Nat.le_of_ble_eq_true rfl) ?_
 refine AW.regL [0] ?_
 generalize hK : AW Tryd.prog _ _ _ = K
 simp only [go_sem, ↓reduceIte, reduceCtorEq, Nat.reduceAdd, Nat.reduceSub, Nat.reduceMul, Nat.reduceEqDiff, Nat.reduceLT, Nat.reduceLeDiff]
 subst hK
 obtain ⟨x1, hx1, h⟩ := Option.bind_eq_some_iff.1 h
 refine AW.regL [2] ?_
 generalize hK : AW Tryd.prog _ _ _ = K
 simp only [go_sem, ↓reduceIte, reduceCtorEq, Nat.reduceAdd, Nat.reduceSub, Nat.reduceMul, Nat.reduceEqDiff, Nat.reduceLT, Nat.reduceLeDiff]
 refine arC.of (ok37 a0 x1 hx1) Tryd.call37 ?_
 simp only [go_sem, ↓reduceIte, reduceCtorEq, Nat.reduceAdd, Nat.reduceSub, Nat.reduceMul, Nat.reduceEqDiff, Nat.reduceLT, Nat.reduceLeDiff]
 subst hK
 refine AW.ret ?_
 obtain rfl := Option.some.inj h
 (simp only [go_sem, ↓reduceIte, reduceCtorEq, Nat.reduceAdd, Nat.reduceSub, Nat.reduceMul, Nat.reduceEqDiff, Nat.reduceLT, Nat.reduceLeDiff, finA] <;> try simp)
end Au
end Go.Proofs.Yd

set_option linter.all false
set_option maxRecDepth 8000
set_option maxHeartbeats 1000000
namespace Go.Proofs.Yd
open Go.Gm
namespace Au
noncomputable def f31 : Option (List ByteArray) := some [⟨#[98, 101, 97, 116]⟩, ⟨#[109, 97, 112]⟩, ⟨#[109, 97, 112, 112, 101, 100]⟩, ⟨#[114, 101, 100, 117, 99, 101]⟩, ⟨#[102, 101, 116, 99, 104]⟩, ⟨#[100, 97, 116, 97]⟩, ⟨#[108, 111, 115, 116]⟩, ⟨#[103, 111, 110, 101]⟩, ⟨#[99, 111, 109, 109, 105, 116]⟩, ⟨#[116, 97, 107, 101, 110]⟩, ⟨#[102, 97, 105, 108]⟩]
theorem ok31 (r : (List ByteArray)) (h : f31 = some r) : PC Tryd.prog 31 [] (.fr 1 (List.map enc9 r)) := by
 rw [f31] at h
 refine pc_of8 (N := 2) (rs := [.tmp 0]) Tryd.func31 rfl rfl rfl (Nat.le_of_ble_eq_true rfl) ?_
 refine AW.regL [] ?_
 generalize hK : AW Tryd.prog _ _ _ = K
 simp only [go_sem, ↓reduceIte, reduceCtorEq, Nat.reduceAdd, Nat.reduceSub, Nat.reduceMul, Nat.reduceEqDiff, Nat.reduceLT, Nat.reduceLeDiff]
 subst hK
 refine AW.regL [0] ?_
 generalize hK : AW Tryd.prog _ _ _ = K
 simp only [go_sem, ↓reduceIte, reduceCtorEq, Nat.reduceAdd, Nat.reduceSub, Nat.reduceMul, Nat.reduceEqDiff, Nat.reduceLT, Nat.reduceLeDiff]
 subst hK
 refine AW.ret ?_
 obtain rfl := Option.some.inj h
 (simp only [go_sem, ↓reduceIte, reduceCtorEq, Nat.reduceAdd, Nat.reduceSub, Nat.reduceMul, Nat.reduceEqDiff, Nat.reduceLT, Nat.reduceLeDiff, finA] <;> try simp)
end Au
end Go.Proofs.Yd
