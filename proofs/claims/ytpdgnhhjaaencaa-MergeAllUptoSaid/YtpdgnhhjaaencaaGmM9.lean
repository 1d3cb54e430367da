import Derived.Test.YtpdgnhhjaaencaaGmDV
set_option linter.all false
set_option linter.unusedVariables false
set_option linter.unusedSimpArgs false
set_option linter.all false
set_option maxRecDepth 8000
set_option maxHeartbeats 1000000
namespace Go.Proofs.Y5
open Go.Gm
namespace Au
noncomputable def f13_s1 (a0 : List Int) (a1 : List Int) : Int → Option (Int ⊕ (Bool ⊕ Unit))
  | s1_0 => (if s1_0 < (a0.length : Int) then ((ix a0 s1_0).bind fun x15 => ((ix a1 s1_0).bind fun x16 => (if x15 = x16 then some (.inl (IntKind.i64.wrap (s1_0 + 1))) else some (.inr (.inl false))))) else some (.inr (.inr ())))
noncomputable def f13 (a0 : List Int) (a1 : List Int) : Option Bool := (if (a0.length : Int) = (a1.length : Int) then ((loopO (f13_s1 a0 a1) 0).bind fun y18 => match y18 with | .inl y19 => some y19 | .inr _ => some true) else some false)
theorem ok13 (a0 : List Int) (a1 : List Int) (r : Bool) (h : f13 a0 a1 = some r) : PC Try.prog 13 [.sl (List.map enc3 a0), .sl (List.map enc3 a1)] (.val (.bool r)) := by
 rw [f13] at h
 refine pc_of8 (N := 26) (rs := [.tmp 4]) Try.func13 rfl rfl rfl (Nat.le_of_ble_eq_true rfl) ?_
 refine AW.regL [0, 1] ?_
 generalize hK : AW Try.prog _ _ _ = K
 simp only [go_sem, ↓reduceIte, reduceCtorEq, Nat.reduceAdd, Nat.reduceSub, Nat.reduceMul, Nat.reduceEqDiff, Nat.reduceLT, Nat.reduceLeDiff]
 subst hK
 refine AW.seq ?_
 refine AW.regL [0, 1, 10] ?_
 generalize hK : AW Try.prog _ _ _ = K
 simp only [go_sem, ↓reduceIte, reduceCtorEq, Nat.reduceAdd, Nat.reduceSub, Nat.reduceMul, Nat.reduceEqDiff, Nat.reduceLT, Nat.reduceLeDiff]
 subst hK
 by_cases c2 : (a0.length : Int) = (a1.length : Int)
 ·rw [if_pos c2] at h
  refine AW.ifF rfl (fun q => q c2) ?_
  refine AW.skip ?_
  refine thenA_n ?_
  refine AW.seq ?_
  refine AW.regL [0, 1, 5] ?_
  generalize hK : AW Try.prog _ _ _ = K
  simp only [go_sem, ↓reduceIte, reduceCtorEq, Nat.reduceAdd, Nat.reduceSub, Nat.reduceMul, Nat.reduceEqDiff, Nat.reduceLT, Nat.reduceLeDiff, eq_true c2]
  subst hK
  refine AW.block ?_
  obtain ⟨y18, hy18, h⟩ := Option.bind_eq_some_iff.1 h
  refine AW.loopO (fun s => ⟨(upd (upd (upd anyF 0 (.sl (List.map enc3 a0))) 1 (.sl (List.map enc3 a1))) 5 (.val (.int .i64 s))), hpL [] [], 8⟩) (fun y e st' => match y with | .inl z => e = Exit.ret ∧ finA Try.prog [.tmp 4] (.val (.bool z)) .ret st' | .inr z => e = Exit.exit 0 ∧ st' = ⟨anyF, hpL [] [], 8⟩) hy18 ?_ ?_ ?_
  ·refine Ent.can [] _ _ _ rfl (by first | decide | simp) rfl ?_ ?_ ?_
   · exact (((RF.any.pv (by first | rfl | simp only [go_sem]) (by first | rfl | simp [upd_ap, hpL_ap, tau, mapT, mapTL, bytesI_len, eq_true c2])).pv (by first | rfl | simp only [go_sem]) (by first | rfl | simp [upd_ap, hpL_ap, tau, mapT, mapTL, bytesI_len, eq_true c2])).pv (by first | rfl | simp only [go_sem]) (by first | rfl | simp [upd_ap, hpL_ap, tau, mapT, mapTL, bytesI_len, eq_true c2]))
   · exact .nil _
   · exact .nil _
  ·clear h hy18
   rintro s1_0 x h
   rw [f13_s1] at h
   refine AW.seq ?_
   refine AW.regL [0, 1, 5, 14] ?_
   generalize hK : AW Try.prog _ _ _ = K
   simp only [go_sem, ↓reduceIte, reduceCtorEq, Nat.reduceAdd, Nat.reduceSub, Nat.reduceMul, Nat.reduceEqDiff, Nat.reduceLT, Nat.reduceLeDiff, eq_true c2]
   subst hK
   by_cases c14 : s1_0 < (a0.length : Int)
   ·rw [if_pos c14] at h
    refine AW.ifT rfl c14 ?_
    refine AW.skip ?_
    refine thenA_n ?_
    refine AW.seq ?_
    refine AW.block ?_
    obtain ⟨x15, hx15, h⟩ := Option.bind_eq_some_iff.1 h
    obtain ⟨hx15a, hx15b⟩ := ix_some.1 hx15
    obtain ⟨x16, hx16, h⟩ := Option.bind_eq_some_iff.1 h
    obtain ⟨hx16a, hx16b⟩ := ix_some.1 hx16
    refine AW.regdL [0, 1, 5, 25] [[], [], [0, 1], [0, 1, 2], [], [], [4, 5], [4, 5, 6], [0, 1, 2, 3, 4, 5, 6, 7]] [0, 1, 2, 3, 4, 5, 6, 7, 8] noFt (fun _ _ _ h => by simp [noFt] at h) draws (by kernel_rfl) (by kernel_rfl) ?_
    generalize hK : AW Try.prog _ _ _ = K
    simp only [go_sem, ↓reduceIte, reduceCtorEq, Nat.reduceAdd, Nat.reduceSub, Nat.reduceMul, Nat.reduceEqDiff, Nat.reduceLT, Nat.reduceLeDiff, eq_true c2, eq_true c14, natOf_le hx15a, hx15b, natOf_le hx16a, hx16b]
    subst hK
    by_cases c17 : x15 = x16
    ·rw [if_pos c17] at h
     refine AW.ifF rfl (fun q => q c17) ?_
     refine AW.skip ?_
     refine block_n ?_
     refine thenA_n ?_
     refine AW.regionL [0, 1, 5] ?_
     generalize hK : thenA _ _ Exit.normal = K
     simp only [go_sem, ↓reduceIte, reduceCtorEq, Nat.reduceAdd, Nat.reduceSub, Nat.reduceMul, Nat.reduceEqDiff, Nat.reduceLT, Nat.reduceLeDiff, eq_true c2, eq_true c14, eq_true c17]
     subst hK
     refine thenA_n ?_
     refine ⟨_, (Option.some.inj h).symm, ?_⟩
     refine Ent.can [] _ _ _ rfl (by first | decide | simp) rfl ?_ ?_ ?_
     · exact (((RF.any.pv (by first | rfl | simp only [go_sem]) (by first | rfl | simp [upd_ap, hpL_ap, tau, mapT, mapTL, bytesI_len, eq_true c2, eq_true c14, eq_true c17])).pv (by first | rfl | simp only [go_sem]) (by first | rfl | simp [upd_ap, hpL_ap, tau, mapT, mapTL, bytesI_len, eq_true c2, eq_true c14, eq_true c17])).pv (by first | rfl | simp only [go_sem]) (by first | rfl | simp [upd_ap, hpL_ap, tau, mapT, mapTL, bytesI_len, eq_true c2, eq_true c14, eq_true c17]))
     · exact .nil _
     · exact .nil _
    ·rw [if_neg c17] at h
     refine AW.ifT rfl c17 ?_
     refine AW.regL [4] ?_
     generalize hK : AW Try.prog _ _ _ = K
     simp only [go_sem, ↓reduceIte, reduceCtorEq, Nat.reduceAdd, Nat.reduceSub, Nat.reduceMul, Nat.reduceEqDiff, Nat.reduceLT, Nat.reduceLeDiff, eq_true c2, eq_true c14, eq_false c17]
     subst hK
     refine AW.ret ?_
     refine block_r ?_
     refine thenA_r ?_
     refine thenA_r ?_
     refine ⟨_, (Option.some.inj h).symm, _, Ent.refl, rfl, ?_⟩
     (simp only [go_sem, ↓reduceIte, reduceCtorEq, Nat.reduceAdd, Nat.reduceSub, Nat.reduceMul, Nat.reduceEqDiff, Nat.reduceLT, Nat.reduceLeDiff, eq_true c2, eq_true c14, eq_false c17, finA] <;> try simp)
   ·rw [if_neg c14] at h
    refine AW.ifF rfl c14 ?_
    refine AW.exit ?_
    refine thenA_x ?_
    refine thenA_x ?_
    refine ⟨_, (Option.some.inj h).symm, _, ?_, rfl, rfl⟩
    refine Ent.can [] _ _ _ rfl (by first | decide | simp) rfl ?_ ?_ ?_
    · exact RF.any
    · exact .nil _
    · exact .nil _
  ·intro e st' hX
   rcases y18 with y19 | _ <;> dsimp only at h hX
   ·obtain ⟨rfl, hf⟩ := hX
    refine ⟨_, Ent.refl, ?_⟩
    refine block_r ?_
    refine thenA_r ?_
    obtain rfl := Option.some.inj h
    exact hf
   ·obtain ⟨rfl, rfl⟩ := hX
    refine ⟨_, Ent.refl, ?_⟩
    refine block_x ?_
    refine thenA_n ?_
    refine AW.regL [4] ?_
    generalize hK : AW Try.prog _ _ _ = K
    simp only [go_sem, ↓reduceIte, reduceCtorEq, Nat.reduceAdd, Nat.reduceSub, Nat.reduceMul, Nat.reduceEqDiff, Nat.reduceLT, Nat.reduceLeDiff, eq_true c2]
    subst hK
    refine AW.ret ?_
    obtain rfl := Option.some.inj h
    (simp only [go_sem, ↓reduceIte, reduceCtorEq, Nat.reduceAdd, Nat.reduceSub, Nat.reduceMul, Nat.reduceEqDiff, Nat.reduceLT, Nat.reduceLeDiff, eq_true c2, finA] <;> try simp)
 ·rw [if_neg c2] at h
  refine AW.ifT rfl c2 ?_
  refine AW.regL [4] ?_
  generalize hK : AW Try.prog _ _ _ = K
  simp only [go_sem, ↓reduceIte, reduceCtorEq, Nat.reduceAdd, Nat.reduceSub, Nat.reduceMul, Nat.reduceEqDiff, Nat.reduceLT, Nat.reduceLeDiff, eq_false c2]
  subst hK
  refine AW.ret ?_
  refine thenA_r ?_
  obtain rfl := Option.some.inj h
  (simp only [go_sem, ↓reduceIte, reduceCtorEq, Nat.reduceAdd, Nat.reduceSub, Nat.reduceMul, Nat.reduceEqDiff, Nat.reduceLT, Nat.reduceLeDiff, eq_false c2, finA] <;> try simp)
end Au
end Go.Proofs.Y5

set_option linter.all false
set_option maxRecDepth 8000
set_option maxHeartbeats 1000000
namespace Go.Proofs.Y5
open Go.Gm
namespace Au
noncomputable def f17_s1 (a0 : ByteArray) (a1 : ByteArray) : Int → Option (Int ⊕ (Bool ⊕ Unit))
  | s1_0 => (if s1_0 < (a0.size : Int) then (if s1_0 < (a1.size : Int) then ((ix (bl a0) s1_0).bind fun x19 => ((ix (bl a1) s1_0).bind fun x20 => (if (x19.toNat : Int) = (x20.toNat : Int) then some (.inl (IntKind.i64.wrap (s1_0 + 1))) else some (.inr (.inl (decide ((x19.toNat : Int) < (x20.toNat : Int)))))))) else some (.inr (.inr ()))) else some (.inr (.inr ())))
noncomputable def f17 (a0 : ByteArray) (a1 : ByteArray) : Option Bool := ((loopO (f17_s1 a0 a1) 0).bind fun y22 => match y22 with | .inl y23 => some y23 | .inr _ => some (decide ((a0.size : Int) < (a1.size : Int))))
theorem ok17 (a0 : ByteArray) (a1 : ByteArray) (r : Bool) (h : f17 a0 a1 = some r) : PC Try.prog 17 [.val (.string a0), .val (.string a1)] (.val (.bool r)) := by
 rw [f17] at h
 refine pc_of8 (N := 37) (rs := [.tmp 4]) Try.func17 rfl rfl rfl (Nat.le_of_ble_eq_true rfl) ?_
 refine AW.regL [0, 1] ?_
 generalize hK : AW Try.prog _ _ _ = K
 simp only [go_sem, ↓reduceIte, reduceCtorEq, Nat.reduceAdd, Nat.reduceSub, Nat.reduceMul, Nat.reduceEqDiff, Nat.reduceLT, Nat.reduceLeDiff]
 subst hK
 refine AW.seq ?_
 refine AW.regL [0, 1, 5] ?_
 generalize hK : AW Try.prog _ _ _ = K
 simp only [go_sem, ↓reduceIte, reduceCtorEq, Nat.reduceAdd, Nat.reduceSub, Nat.reduceMul, Nat.reduceEqDiff, Nat.reduceLT, Nat.reduceLeDiff]
 subst hK
 refine AW.block ?_
 obtain ⟨y22, hy22, h⟩ := Option.bind_eq_some_iff.1 h
 refine AW.loopO (fun s => ⟨(upd (upd (upd anyF 0 (.val (.string a0))) 1 (.val (.string a1))) 5 (.val (.int .i64 s))), hpL [] [], 8⟩) (fun y e st' => match y with | .inl z => e = Exit.ret ∧ finA Try.prog [.tmp 4] (.val (.bool z)) .ret st' | .inr z => e = Exit.exit 0 ∧ st' = ⟨(upd (upd anyF 0 (.val (.string a0))) 1 (.val (.string a1))), hpL [] [], 8⟩) hy22 ?_ ?_ ?_
 ·refine Ent.can [] _ _ _ rfl (by first | decide | simp) rfl ?_ ?_ ?_
  · exact (((RF.any.pv (by first | rfl | simp only [go_sem]) (by first | rfl | simp [upd_ap, hpL_ap, tau, mapT, mapTL, bytesI_len])).pv (by first | rfl | simp only [go_sem]) (by first | rfl | simp [upd_ap, hpL_ap, tau, mapT, mapTL, bytesI_len])).pv (by first | rfl | simp only [go_sem]) (by first | rfl | simp [upd_ap, hpL_ap, tau, mapT, mapTL, bytesI_len]))
  · exact .nil _
  · exact .nil _
 ·clear h hy22
  rintro s1_0 x h
  rw [f17_s1] at h
  refine AW.seq ?_
  by_cases c17 : s1_0 < (a0.size : Int)
  ·rw [if_pos c17] at h
   refine AW.regL [0, 1, 5, 15] ?_
   generalize hK : AW Try.prog _ _ _ = K
   simp only [go_sem, ↓reduceIte, reduceCtorEq, Nat.reduceAdd, Nat.reduceSub, Nat.reduceMul, Nat.reduceEqDiff, Nat.reduceLT, Nat.reduceLeDiff, eq_true c17]
   subst hK
   by_cases c18 : s1_0 < (a1.size : Int)
   ·rw [if_pos c18] at h
    refine AW.ifT rfl c18 ?_
    refine AW.skip ?_
    refine thenA_n ?_
    refine AW.seq ?_
    refine AW.block ?_
    obtain ⟨x19, hx19, h⟩ := Option.bind_eq_some_iff.1 h
    obtain ⟨hx19a, hx19b⟩ := ix_some.1 hx19
    obtain ⟨x20, hx20, h⟩ := Option.bind_eq_some_iff.1 h
    obtain ⟨hx20a, hx20b⟩ := ix_some.1 hx20
    refine AW.regdL [0, 1, 5, 24] [[], [], [0, 1], [], [], [3, 4], [0, 1, 2, 3, 4, 5]] [0, 1, 2, 3, 4, 5, 6] noFt (fun _ _ _ h => by simp [noFt] at h) draws (by kernel_rfl) (by kernel_rfl) ?_
    generalize hK : AW Try.prog _ _ _ = K
    simp only [go_sem, ↓reduceIte, reduceCtorEq, Nat.reduceAdd, Nat.reduceSub, Nat.reduceMul, Nat.reduceEqDiff, Nat.reduceLT, Nat.reduceLeDiff, eq_true c17, eq_true c18, idxO_some st9 hx19a hx19b, idxO_some st9 hx20a hx20b]
    subst hK
    by_cases c21 : (x19.toNat : Int) = (x20.toNat : Int)
    ·rw [if_pos c21] at h
     refine AW.ifF rfl (fun q => q c21) ?_
     refine AW.skip ?_
     refine block_n ?_
     refine thenA_n ?_
     refine AW.regionL [0, 1, 5] ?_
     generalize hK : thenA _ _ Exit.normal = K
     simp only [go_sem, ↓reduceIte, reduceCtorEq, Nat.reduceAdd, Nat.reduceSub, Nat.reduceMul, Nat.reduceEqDiff, Nat.reduceLT, Nat.reduceLeDiff, eq_true c17, eq_true c18, eq_true c21]
     subst hK
     refine thenA_n ?_
     refine ⟨_, (Option.some.inj h).symm, ?_⟩
     refine Ent.can [] _ _ _ rfl (by first | decide | simp) rfl ?_ ?_ ?_
     · exact (((RF.any.pv (by first | rfl | simp only [go_sem]) (by first | rfl | simp [upd_ap, hpL_ap, tau, mapT, mapTL, bytesI_len, eq_true c17, eq_true c18, eq_true c21])).pv (by first | rfl | simp only [go_sem]) (by first | rfl | simp [upd_ap, hpL_ap, tau, mapT, mapTL, bytesI_len, eq_true c17, eq_true c18, eq_true c21])).pv (by first | rfl | simp only [go_sem]) (by first | rfl | simp [upd_ap, hpL_ap, tau, mapT, mapTL, bytesI_len, eq_true c17, eq_true c18, eq_true c21]))
     · exact .nil _
     · exact .nil _
    ·rw [if_neg c21] at h
     refine AW.ifT rfl c21 ?_
     refine AW.regdL [4] [[], [], [0, 1], [], [], [3, 4], [0, 1, 2, 3, 4, 5], [0, 1, 2, 3, 4, 5, 6]] [0, 1, 2, 3, 4, 5, 6, 7] noFt (fun _ _ _ h => by simp [noFt] at h) draws (by kernel_rfl) (by kernel_rfl) ?_
     generalize hK : AW Try.prog _ _ _ = K
     simp only [go_sem, ↓reduceIte, reduceCtorEq, Nat.reduceAdd, Nat.reduceSub, Nat.reduceMul, Nat.reduceEqDiff, Nat.reduceLT, Nat.reduceLeDiff, eq_true c17, eq_true c18, eq_false c21, idxO_some st9 hx19a hx19b, idxO_some st9 hx20a hx20b]
     subst hK
     refine AW.ret ?_
     refine block_r ?_
     refine thenA_r ?_
     refine thenA_r ?_
     refine ⟨_, (Option.some.inj h).symm, _, Ent.refl, rfl, ?_⟩
     (simp only [go_sem, ↓reduceIte, reduceCtorEq, Nat.reduceAdd, Nat.reduceSub, Nat.reduceMul, Nat.reduceEqDiff, Nat.reduceLT, Nat.reduceLeDiff, eq_true c17, eq_true c18, eq_false c21, finA] <;> try simp)
   ·rw [if_neg c18] at h
    refine AW.ifF rfl c18 ?_
    refine AW.exit ?_
    refine thenA_x ?_
    refine thenA_x ?_
    refine ⟨_, (Option.some.inj h).symm, _, ?_, rfl, rfl⟩
    refine Ent.can [] _ _ _ rfl (by first | decide | simp) rfl ?_ ?_ ?_
    · exact ((RF.any.pv (by first | rfl | simp only [go_sem]) (by first | rfl | simp [upd_ap, hpL_ap, tau, mapT, mapTL, bytesI_len, eq_true c17, eq_false c18])).pv (by first | rfl | simp only [go_sem]) (by first | rfl | simp [upd_ap, hpL_ap, tau, mapT, mapTL, bytesI_len, eq_true c17, eq_false c18]))
    · exact .nil _
    · exact .nil _
  ·rw [if_neg c17] at h
   refine AW.regL [0, 1, 5, 15] ?_
   generalize hK : AW Try.prog _ _ _ = K
   simp only [go_sem, ↓reduceIte, reduceCtorEq, Nat.reduceAdd, Nat.reduceSub, Nat.reduceMul, Nat.reduceEqDiff, Nat.reduceLT, Nat.reduceLeDiff, eq_false c17]
   subst hK
   refine AW.ifBF rfl rfl ?_
   refine AW.exit ?_
   refine thenA_x ?_
   refine thenA_x ?_
   refine ⟨_, (Option.some.inj h).symm, _, ?_, rfl, rfl⟩
   refine Ent.can [] _ _ _ rfl (by first | decide | simp) rfl ?_ ?_ ?_
   · exact ((RF.any.pv (by first | rfl | simp only [go_sem]) (by first | rfl | simp [upd_ap, hpL_ap, tau, mapT, mapTL, bytesI_len, eq_false c17])).pv (by first | rfl | simp only [go_sem]) (by first | rfl | simp [upd_ap, hpL_ap, tau, mapT, mapTL, bytesI_len, eq_false c17]))
   · exact .nil _
   · exact .nil _
 ·intro e st' hX
  rcases y22 with y23 | _ <;> dsimp only at h hX
  ·obtain ⟨rfl, hf⟩ := hX
   refine ⟨_, Ent.refl, ?_⟩
   refine block_r ?_
   refine thenA_r ?_
   obtain rfl := Option.some.inj h
   exact hf
  ·obtain ⟨rfl, rfl⟩ := hX
   refine ⟨_, Ent.refl, ?_⟩
   refine block_x ?_
   refine thenA_n ?_
   refine AW.regL [4] ?_
   generalize hK : AW Try.prog _ _ _ = K
   simp only [go_sem, ↓reduceIte, reduceCtorEq, Nat.reduceAdd, Nat.reduceSub, Nat.reduceMul, Nat.reduceEqDiff, Nat.reduceLT, Nat.reduceLeDiff]
   subst hK
   refine AW.ret ?_
   obtain rfl := Option.some.inj h
   (simp only [go_sem, ↓reduceIte, reduceCtorEq, Nat.reduceAdd, Nat.reduceSub, Nat.reduceMul, Nat.reduceEqDiff, Nat.reduceLT, Nat.reduceLeDiff, finA] <;> try simp)
end Au
end Go.Proofs.Y5

set_option linter.all false
set_option maxRecDepth 8000
set_option maxHeartbeats 1000000
namespace Go.Proofs.Y5
open Go.Gm
namespace Au
noncomputable def f27_j1 (a0 : Val) (a1 : Val) : Unit → Option Int
  | _ => (if a0.Kind = 0 then some (-1) else (if a1.Kind = 0 then some 1 else ((f17 a0.Text a1.Text).bind fun x12 => (if x12 = true then some (-1) else (if a0.Text = a1.Text then some 0 else some 1)))))
noncomputable def f27 (a0 : Val) (a1 : Val) : Option Int := (if a0.Kind = 0 then (if a1.Kind = 0 then (if a0.Int < a1.Int then some (-1) else (if a1.Int < a0.Int then some 1 else some 0)) else f27_j1 a0 a1 ()) else f27_j1 a0 a1 ())
theorem ok27 (a0 : Val) (a1 : Val) (r : Int) (h : f27 a0 a1 = some r) : PC Try.prog 27 [.agg (encVal a0), .agg (encVal a1)] (.val (.int .i64 r)) := by
 rw [f27] at h
 refine pc_of8 (N := 39) (rs := [.tmp 4]) Try.func27 rfl rfl rfl (Nat.le_of_ble_eq_true rfl) ?_
 refine AW.regL [2, 3] ?_
 generalize hK : AW Try.prog _ _ _ = K
 simp only [go_sem, ↓reduceIte, reduceCtorEq, Nat.reduceAdd, Nat.reduceSub, Nat.reduceMul, Nat.reduceEqDiff, Nat.reduceLT, Nat.reduceLeDiff]
 subst hK
 refine AW.join (fun s => ⟨(upd (upd anyF 2 (.ptr 8 0 0)) 3 (.ptr 9 0 0)), hpL [] [some (.row 3 true [[.val (.int .u8 a0.Kind), .val (.int .i64 a0.Int), .val (.string a0.Text)]]), some (.row 3 true [[.val (.int .u8 a1.Kind), .val (.int .i64 a1.Int), .val (.string a1.Text)]])], 10⟩) (fun s => f27_j1 a0 a1 s = some r) ?_ ?_
 ·by_cases c15 : a0.Kind = 0
  ·rw [if_pos c15] at h
   refine AW.regL [2, 3, 12] ?_
   generalize hK : AW Try.prog _ _ _ = K
   simp only [go_sem, ↓reduceIte, reduceCtorEq, Nat.reduceAdd, Nat.reduceSub, Nat.reduceMul, Nat.reduceEqDiff, Nat.reduceLT, Nat.reduceLeDiff, eq_true c15]
   subst hK
   by_cases c16 : a1.Kind = 0
   ·rw [if_pos c16] at h
    refine AW.ifT rfl c16 ?_
    refine AW.seq ?_
    refine AW.regL [2, 3, 17] ?_
    generalize hK : AW Try.prog _ _ _ = K
    simp only [go_sem, ↓reduceIte, reduceCtorEq, Nat.reduceAdd, Nat.reduceSub, Nat.reduceMul, Nat.reduceEqDiff, Nat.reduceLT, Nat.reduceLeDiff, eq_true c15, eq_true c16]
    subst hK
    by_cases c18 : a0.Int < a1.Int
    ·rw [if_pos c18] at h
     refine AW.ifT rfl c18 ?_
     refine AW.regL [4] ?_
     generalize hK : AW Try.prog _ _ _ = K
     simp only [go_sem, ↓reduceIte, reduceCtorEq, Nat.reduceAdd, Nat.reduceSub, Nat.reduceMul, Nat.reduceEqDiff, Nat.reduceLT, Nat.reduceLeDiff, eq_true c15, eq_true c16, eq_true c18]
     subst hK
     refine AW.ret ?_
     refine thenA_r ?_
     refine thenA_r ?_
     obtain rfl := Option.some.inj h
     (simp only [go_sem, ↓reduceIte, reduceCtorEq, Nat.reduceAdd, Nat.reduceSub, Nat.reduceMul, Nat.reduceEqDiff, Nat.reduceLT, Nat.reduceLeDiff, eq_true c15, eq_true c16, eq_true c18, finA] <;> try simp)
    ·rw [if_neg c18] at h
     refine AW.ifF rfl c18 ?_
     refine AW.skip ?_
     refine thenA_n ?_
     refine AW.seq ?_
     refine AW.regL [22] ?_
     generalize hK : AW Try.prog _ _ _ = K
     simp only [go_sem, ↓reduceIte, reduceCtorEq, Nat.reduceAdd, Nat.reduceSub, Nat.reduceMul, Nat.reduceEqDiff, Nat.reduceLT, Nat.reduceLeDiff, eq_true c15, eq_true c16, eq_false c18]
     subst hK
     by_cases c19 : a1.Int < a0.Int
     ·rw [if_pos c19] at h
      refine AW.ifT rfl c19 ?_
      refine AW.regL [4] ?_
      generalize hK : AW Try.prog _ _ _ = K
      simp only [go_sem, ↓reduceIte, reduceCtorEq, Nat.reduceAdd, Nat.reduceSub, Nat.reduceMul, Nat.reduceEqDiff, Nat.reduceLT, Nat.reduceLeDiff, eq_true c15, eq_true c16, eq_false c18, eq_true c19]
      subst hK
      refine AW.ret ?_
      refine thenA_r ?_
      refine thenA_r ?_
      obtain rfl := Option.some.inj h
      (simp only [go_sem, ↓reduceIte, reduceCtorEq, Nat.reduceAdd, Nat.reduceSub, Nat.reduceMul, Nat.reduceEqDiff, Nat.reduceLT, Nat.reduceLeDiff, eq_true c15, eq_true c16, eq_false c18, eq_true c19, finA] <;> try simp)
     ·rw [if_neg c19] at h
      refine AW.ifF rfl c19 ?_
      refine AW.skip ?_
      refine thenA_n ?_
      refine AW.regL [4] ?_
      generalize hK : AW Try.prog _ _ _ = K
      simp only [go_sem, ↓reduceIte, reduceCtorEq, Nat.reduceAdd, Nat.reduceSub, Nat.reduceMul, Nat.reduceEqDiff, Nat.reduceLT, Nat.reduceLeDiff, eq_true c15, eq_true c16, eq_false c18, eq_false c19]
      subst hK
      refine AW.ret ?_
      refine thenA_r ?_
      obtain rfl := Option.some.inj h
      (simp only [go_sem, ↓reduceIte, reduceCtorEq, Nat.reduceAdd, Nat.reduceSub, Nat.reduceMul, Nat.reduceEqDiff, Nat.reduceLT, Nat.reduceLeDiff, eq_true c15, eq_true c16, eq_false c18, eq_false c19, finA] <;> try simp)
   ·rw [if_neg c16] at h
    refine AW.ifF rfl c16 ?_
    refine AW.skip ?_
    refine thenA_n ?_
    refine ⟨_, h, ?_⟩
    refine Ent.can [8, 16] _ _ _ rfl (by first | decide | simp) rfl ?_ ?_ ?_
    · exact ((RF.any.pp (by decide) (by first | rfl | simp [upd_ap, hpL_ap, tau, mapT, mapTL, bytesI_len, eq_true c15, eq_false c16])).pp (by decide) (by first | rfl | simp [upd_ap, hpL_ap, tau, mapT, mapTL, bytesI_len, eq_true c15, eq_false c16]))
    · exact .nil _
    · exact .cons (.eq (by first | rfl | simp only [go_sem]) (by first | rfl | simp [upd_ap, hpL_ap, tau, mapT, mapTL, bytesI_len, eq_true c15, eq_false c16])) (.cons (.eq (by first | rfl | simp only [go_sem]) (by first | rfl | simp [upd_ap, hpL_ap, tau, mapT, mapTL, bytesI_len, eq_true c15, eq_false c16])) (.nil _))
  ·rw [if_neg c15] at h
   refine AW.regL [2, 3, 12] ?_
   generalize hK : AW Try.prog _ _ _ = K
   simp only [go_sem, ↓reduceIte, reduceCtorEq, Nat.reduceAdd, Nat.reduceSub, Nat.reduceMul, Nat.reduceEqDiff, Nat.reduceLT, Nat.reduceLeDiff, eq_false c15]
   subst hK
   refine AW.ifBF rfl rfl ?_
   refine AW.skip ?_
   refine thenA_n ?_
   refine ⟨_, h, ?_⟩
   refine Ent.can [8, 16] _ _ _ rfl (by first | decide | simp) rfl ?_ ?_ ?_
   · exact ((RF.any.pp (by decide) (by first | rfl | simp [upd_ap, hpL_ap, tau, mapT, mapTL, bytesI_len, eq_false c15])).pp (by decide) (by first | rfl | simp [upd_ap, hpL_ap, tau, mapT, mapTL, bytesI_len, eq_false c15]))
   · exact .nil _
   · exact .cons (.eq (by first | rfl | simp only [go_sem]) (by first | rfl | simp [upd_ap, hpL_ap, tau, mapT, mapTL, bytesI_len, eq_false c15])) (.cons (.eq (by first | rfl | simp only [go_sem]) (by first | rfl | simp [upd_ap, hpL_ap, tau, mapT, mapTL, bytesI_len, eq_false c15])) (.nil _))
 ·clear h
  rintro ⟨⟩ h
  rw [f27_j1] at h
  refine AW.seq ?_
  refine AW.regL [2, 3, 25] ?_
  generalize hK : AW Try.prog _ _ _ = K
  simp only [go_sem, ↓reduceIte, reduceCtorEq, Nat.reduceAdd, Nat.reduceSub, Nat.reduceMul, Nat.reduceEqDiff, Nat.reduceLT, Nat.reduceLeDiff]
  subst hK
  by_cases c7 : a0.Kind = 0
  ·rw [if_pos c7] at h
   refine AW.ifT rfl c7 ?_
   refine AW.regL [4] ?_
   generalize hK : AW Try.prog _ _ _ = K
   simp only [go_sem, ↓reduceIte, reduceCtorEq, Nat.reduceAdd, Nat.reduceSub, Nat.reduceMul, Nat.reduceEqDiff, Nat.reduceLT, Nat.reduceLeDiff, eq_true c7]
   subst hK
   refine AW.ret ?_
   refine thenA_r ?_
   obtain rfl := Option.some.inj h
   (simp only [go_sem, ↓reduceIte, reduceCtorEq, Nat.reduceAdd, Nat.reduceSub, Nat.reduceMul, Nat.reduceEqDiff, Nat.reduceLT, Nat.reduceLeDiff, eq_true c7, finA] <;> try simp)
  ·rw [if_neg c7] at h
   refine AW.ifF rfl c7 ?_
   refine AW.skip ?_
   refine thenA_n ?_
   refine AW.seq ?_
   refine AW.regL [2, 3, 28] ?_
   generalize hK : AW Try.prog _ _ _ = K
   simp only [go_sem, ↓reduceIte, reduceCtorEq, Nat.reduceAdd, Nat.reduceSub, Nat.reduceMul, Nat.reduceEqDiff, Nat.reduceLT, Nat.reduceLeDiff, eq_false c7]
   subst hK
   by_cases c9 : a1.Kind = 0
   ·rw [if_pos c9] at h
    refine AW.ifT rfl c9 ?_
    refine AW.regL [4] ?_
    generalize hK : AW Try.prog _ _ _ = K
    simp only [go_sem, ↓reduceIte, reduceCtorEq, Nat.reduceAdd, Nat.reduceSub, Nat.reduceMul, Nat.reduceEqDiff, Nat.reduceLT, Nat.reduceLeDiff, eq_false c7, eq_true c9]
    subst hK
    refine AW.ret ?_
    refine thenA_r ?_
    obtain rfl := Option.some.inj h
    (simp only [go_sem, ↓reduceIte, reduceCtorEq, Nat.reduceAdd, Nat.reduceSub, Nat.reduceMul, Nat.reduceEqDiff, Nat.reduceLT, Nat.reduceLeDiff, eq_false c7, eq_true c9, finA] <;> try simp)
   ·rw [if_neg c9] at h
    refine AW.ifF rfl c9 ?_
    refine AW.skip ?_
    refine thenA_n ?_
    refine AW.seq ?_
    obtain ⟨x12, hx12, h⟩ := Option.bind_eq_some_iff.1 h
    refine AW.regL [2, 3, 33] ?_
    generalize hK : AW Try.prog _ _ _ = K
    simp only [go_sem, ↓reduceIte, reduceCtorEq, Nat.reduceAdd, Nat.reduceSub, Nat.reduceMul, Nat.reduceEqDiff, Nat.reduceLT, Nat.reduceLeDiff, eq_false c7, eq_false c9]
    refine arC.of (ok17 a0.Text a1.Text x12 hx12) Try.call17 ?_
    simp only [go_sem, ↓reduceIte, reduceCtorEq, Nat.reduceAdd, Nat.reduceSub, Nat.reduceMul, Nat.reduceEqDiff, Nat.reduceLT, Nat.reduceLeDiff, eq_false c7, eq_false c9]
    subst hK
    by_cases c13 : x12 = true
    ·rw [if_pos c13] at h
     refine AW.ifBT rfl c13 ?_
     refine AW.regL [4] ?_
     generalize hK : AW Try.prog _ _ _ = K
     simp only [go_sem, ↓reduceIte, reduceCtorEq, Nat.reduceAdd, Nat.reduceSub, Nat.reduceMul, Nat.reduceEqDiff, Nat.reduceLT, Nat.reduceLeDiff, eq_false c7, eq_false c9, c13]
     subst hK
     refine AW.ret ?_
     refine thenA_r ?_
     obtain rfl := Option.some.inj h
     (simp only [go_sem, ↓reduceIte, reduceCtorEq, Nat.reduceAdd, Nat.reduceSub, Nat.reduceMul, Nat.reduceEqDiff, Nat.reduceLT, Nat.reduceLeDiff, eq_false c7, eq_false c9, c13, finA] <;> try simp)
    ·rw [if_neg c13] at h
     rw [Bool.not_eq_true] at c13
     refine AW.ifBF rfl c13 ?_
     refine AW.skip ?_
     refine thenA_n ?_
     refine AW.seq ?_
     refine AW.regL [38] ?_
     generalize hK : AW Try.prog _ _ _ = K
     simp only [go_sem, ↓reduceIte, reduceCtorEq, Nat.reduceAdd, Nat.reduceSub, Nat.reduceMul, Nat.reduceEqDiff, Nat.reduceLT, Nat.reduceLeDiff, eq_false c7, eq_false c9, c13]
     subst hK
     by_cases c14 : a0.Text = a1.Text
     ·rw [if_pos c14] at h
      refine AW.ifT rfl c14 ?_
      refine AW.regL [4] ?_
      generalize hK : AW Try.prog _ _ _ = K
      simp only [go_sem, ↓reduceIte, reduceCtorEq, Nat.reduceAdd, Nat.reduceSub, Nat.reduceMul, Nat.reduceEqDiff, Nat.reduceLT, Nat.reduceLeDiff, eq_false c7, eq_false c9, c13, eq_true c14]
      subst hK
      refine AW.ret ?_
      refine thenA_r ?_
      obtain rfl := Option.some.inj h
      (simp only [go_sem, ↓reduceIte, reduceCtorEq, Nat.reduceAdd, Nat.reduceSub, Nat.reduceMul, Nat.reduceEqDiff, Nat.reduceLT, Nat.reduceLeDiff, eq_false c7, eq_false c9, c13, eq_true c14, finA] <;> try simp)
     ·rw [if_neg c14] at h
      refine AW.ifF rfl c14 ?_
      refine AW.skip ?_
      refine thenA_n ?_
      refine AW.regL [4] ?_
      generalize hK : AW Try.prog _ _ _ = K
      simp only [go_sem, ↓reduceIte, reduceCtorEq, Nat.reduceAdd, Nat.reduceSub, Nat.reduceMul, Nat.reduceEqDiff, Nat.reduceLT, Nat.reduceLeDiff, eq_false c7, eq_false c9, c13, eq_false c14]
      subst hK
      refine AW.ret ?_
      obtain rfl := Option.some.inj h
      (simp only [go_sem, ↓reduceIte, reduceCtorEq, Nat.reduceAdd, Nat.reduceSub, Nat.reduceMul, Nat.reduceEqDiff, Nat.reduceLT, Nat.reduceLeDiff, eq_false c7, eq_false c9, c13, eq_false c14, finA] <;> try simp)
end Au
end Go.Proofs.Y5

set_option linter.all false
set_option maxRecDepth 8000
set_option maxHeartbeats 1000000
namespace Go.Proofs.Y5
open Go.Gm
namespace Au
noncomputable def f21 (a0 : Val) (a1 : Val) : Option Bool := ((f27 a0 a1).bind fun x1 => some (decide (x1 = 0)))
theorem ok21 (a0 : Val) (a1 : Val) (r : Bool) (h : f21 a0 a1 = some r) : PC Try.prog 21 [.agg (encVal a0), .agg (encVal a1)] (.val (.bool r)) := by
 rw [f21] at h
 refine pc_of8 (N := 9) (rs := [.tmp 4]) Try.func21 rfl rfl rfl (Nat.le_of_ble_eq_true rfl) ?_
 refine AW.regL [2, 3] ?_
 generalize hK : AW Try.prog _ _ _ = K
 simp only [go_sem, ↓reduceIte, reduceCtorEq, Nat.reduceAdd, Nat.reduceSub, Nat.reduceMul, Nat.reduceEqDiff, Nat.reduceLT, Nat.reduceLeDiff]
 subst hK
 obtain ⟨x1, hx1, h⟩ := Option.bind_eq_some_iff.1 h
 refine AW.regL [4] ?_
 generalize hK : AW Try.prog _ _ _ = K
 simp only [go_sem, ↓reduceIte, reduceCtorEq, Nat.reduceAdd, Nat.reduceSub, Nat.reduceMul, Nat.reduceEqDiff, Nat.reduceLT, Nat.reduceLeDiff]
 refine arC.of (ok27 a0 a1 x1 hx1) Try.call27 ?_
 simp only [go_sem, ↓reduceIte, reduceCtorEq, Nat.reduceAdd, Nat.reduceSub, Nat.reduceMul, Nat.reduceEqDiff, Nat.reduceLT, Nat.reduceLeDiff]
 subst hK
 refine AW.ret ?_
 obtain rfl := Option.some.inj h
 (simp only [go_sem, ↓reduceIte, reduceCtorEq, Nat.reduceAdd, Nat.reduceSub, Nat.reduceMul, Nat.reduceEqDiff, Nat.reduceLT, Nat.reduceLeDiff, finA] <;> try simp)
end Au
end Go.Proofs.Y5

set_option linter.all false
set_option maxRecDepth 8000
set_option maxHeartbeats 1000000
namespace Go.Proofs.Y5
open Go.Gm
namespace Au
noncomputable def f14 (a0 : Part) (a1 : Part) : Option Bool := (if a0.N = a1.N then ((f21 a0.Acc a1.Acc).bind fun x2 => some x2) else some false)
theorem ok14 (a0 : Part) (a1 : Part) (r : Bool) (h : f14 a0 a1 = some r) : PC Try.prog 14 [.agg (encPart a0), .agg (encPart a1)] (.val (.bool r)) := by
 rw [f14] at h
 refine pc_of8 (N := 17) (rs := [.tmp 4]) Try.func14 rfl rfl rfl (Nat.le_of_ble_eq_true rfl) ?_
 refine AW.regL [2, 3] ?_
 generalize hK : AW Try.prog _ _ _ = K
 simp only [go_sem, ↓reduceIte, reduceCtorEq, Nat.reduceAdd, Nat.reduceSub, Nat.reduceMul, Nat.reduceEqDiff, Nat.reduceLT, Nat.reduceLeDiff]
 subst hK
 by_cases c1 : a0.N = a1.N
 ·rw [if_pos c1] at h
  obtain ⟨x2, hx2, h⟩ := Option.bind_eq_some_iff.1 h
  refine AW.regL [4] ?_
  generalize hK : AW Try.prog _ _ _ = K
  simp only [go_sem, ↓reduceIte, reduceCtorEq, Nat.reduceAdd, Nat.reduceSub, Nat.reduceMul, Nat.reduceEqDiff, Nat.reduceLT, Nat.reduceLeDiff, eq_true c1]
  refine arC.of (ok21 a0.Acc a1.Acc x2 hx2) Try.call21 ?_
  simp only [go_sem, ↓reduceIte, reduceCtorEq, Nat.reduceAdd, Nat.reduceSub, Nat.reduceMul, Nat.reduceEqDiff, Nat.reduceLT, Nat.reduceLeDiff, eq_true c1]
  subst hK
  refine AW.ret ?_
  obtain rfl := Option.some.inj h
  (simp only [go_sem, ↓reduceIte, reduceCtorEq, Nat.reduceAdd, Nat.reduceSub, Nat.reduceMul, Nat.reduceEqDiff, Nat.reduceLT, Nat.reduceLeDiff, eq_true c1, finA] <;> try simp)
 ·rw [if_neg c1] at h
  refine AW.regL [4] ?_
  generalize hK : AW Try.prog _ _ _ = K
  simp only [go_sem, ↓reduceIte, reduceCtorEq, Nat.reduceAdd, Nat.reduceSub, Nat.reduceMul, Nat.reduceEqDiff, Nat.reduceLT, Nat.reduceLeDiff, eq_false c1]
  subst hK
  refine AW.ret ?_
  obtain rfl := Option.some.inj h
  (simp only [go_sem, ↓reduceIte, reduceCtorEq, Nat.reduceAdd, Nat.reduceSub, Nat.reduceMul, Nat.reduceEqDiff, Nat.reduceLT, Nat.reduceLeDiff, eq_false c1, finA] <;> try simp)
end Au
end Go.Proofs.Y5

set_option linter.all false
set_option maxRecDepth 8000
set_option maxHeartbeats 1000000
namespace Go.Proofs.Y5
open Go.Gm
namespace Au
noncomputable def f8_s4 (x67 : Item) (x68 : Item) : Int → Option (Int ⊕ (Bool ⊕ Unit))
  | s4_0 => (if s4_0 < (x67.Parts.length : Int) then ((ix x67.Parts s4_0).bind fun x87 => ((ix x68.Parts s4_0).bind fun x88 => ((f14 x87 x88).bind fun x89 => (if x89 = true then some (.inl (IntKind.i64.wrap (s4_0 + 1))) else some (.inr (.inl false)))))) else some (.inr (.inr ())))
noncomputable def f8_s1 (a0 : List Item) (a1 : List Item) : Int → Option (Int ⊕ (Bool ⊕ Unit))
  | s1_0 => (if s1_0 < (a0.length : Int) then ((ix a0 s1_0).bind fun x67 => ((ix a1 s1_0).bind fun x68 => (if x67.Key = x68.Key then (if (x67.Parts.length : Int) = (x68.Parts.length : Int) then ((f13 x67.Offs x68.Offs).bind fun x71 => (if x71 = true then ((loopO (f8_s4 x67 x68) 0).bind fun y91 => match y91 with | .inl y92 => some (.inr (.inl y92)) | .inr _ => some (.inl (IntKind.i64.wrap (s1_0 + 1)))) else some (.inr (.inl false)))) else some (.inr (.inl false))) else some (.inr (.inl false))))) else some (.inr (.inr ())))
noncomputable def f8 (a0 : List Item) (a1 : List Item) : Option Bool := (if (a0.length : Int) = (a1.length : Int) then ((loopO (f8_s1 a0 a1) 0).bind fun y93 => match y93 with | .inl y94 => some y94 | .inr _ => some true) else some false)
theorem ok8 (a0 : List Item) (a1 : List Item) (r : Bool) (h : f8 a0 a1 = some r) : PC Try.prog 8 [.sl (List.map encItem a0), .sl (List.map encItem a1)] (.val (.bool r)) := by
 rw [f8] at h
 refine pc_of8 (N := 86) (rs := [.tmp 4]) Try.func8 rfl rfl rfl (Nat.le_of_ble_eq_true rfl) ?_
 refine AW.regL [0, 1] ?_
 generalize hK : AW Try.prog _ _ _ = K
 simp only [go_sem, ↓reduceIte, reduceCtorEq, Nat.reduceAdd, Nat.reduceSub, Nat.reduceMul, Nat.reduceEqDiff, Nat.reduceLT, Nat.reduceLeDiff]
 subst hK
 refine AW.seq ?_
 refine AW.regL [0, 1, 11] ?_
 generalize hK : AW Try.prog _ _ _ = K
 simp only [go_sem, ↓reduceIte, reduceCtorEq, Nat.reduceAdd, Nat.reduceSub, Nat.reduceMul, Nat.reduceEqDiff, Nat.reduceLT, Nat.reduceLeDiff]
 subst hK
 by_cases c2 : (a0.length : Int) = (a1.length : Int)
 ·rw [if_pos c2] at h
  refine AW.ifF rfl (fun q => q c2) ?_
  refine AW.skip ?_
  refine thenA_n ?_
  refine AW.seq ?_
  refine AW.regL [0, 1, 5] ?_
  generalize hK : AW Try.prog _ _ _ = K
  simp only [go_sem, ↓reduceIte, reduceCtorEq, Nat.reduceAdd, Nat.reduceSub, Nat.reduceMul, Nat.reduceEqDiff, Nat.reduceLT, Nat.reduceLeDiff, eq_true c2]
  subst hK
  refine AW.block ?_
  obtain ⟨y93, hy93, h⟩ := Option.bind_eq_some_iff.1 h
  refine AW.loopO (fun s => ⟨(upd (upd (upd anyF 0 (.sl (List.map encItem a0))) 1 (.sl (List.map encItem a1))) 5 (.val (.int .i64 s))), hpL [] [], 8⟩) (fun y e st' => match y with | .inl z => e = Exit.ret ∧ finA Try.prog [.tmp 4] (.val (.bool z)) .ret st' | .inr z => e = Exit.exit 0 ∧ st' = ⟨anyF, hpL [] [], 8⟩) hy93 ?_ ?_ ?_
  ·refine Ent.can [] _ _ _ rfl (by first | decide | simp) rfl ?_ ?_ ?_
   · exact (((RF.any.pv (by first | rfl | simp only [go_sem]) (by first | rfl | simp [upd_ap, hpL_ap, tau, mapT, mapTL, bytesI_len, eq_true c2])).pv (by first | rfl | simp only [go_sem]) (by first | rfl | simp [upd_ap, hpL_ap, tau, mapT, mapTL, bytesI_len, eq_true c2])).pv (by first | rfl | simp only [go_sem]) (by first | rfl | simp [upd_ap, hpL_ap, tau, mapT, mapTL, bytesI_len, eq_true c2]))
   · exact .nil _
   · exact .nil _
  ·clear h hy93
   rintro s1_0 x h
   rw [f8_s1] at h
   refine AW.seq ?_
   refine AW.regL [0, 1, 5, 15] ?_
   generalize hK : AW Try.prog _ _ _ = K
   simp only [go_sem, ↓reduceIte, reduceCtorEq, Nat.reduceAdd, Nat.reduceSub, Nat.reduceMul, Nat.reduceEqDiff, Nat.reduceLT, Nat.reduceLeDiff, eq_true c2]
   subst hK
   by_cases c60 : s1_0 < (a0.length : Int)
   ·rw [if_pos c60] at h
    refine AW.ifT rfl c60 ?_
    refine AW.skip ?_
    refine thenA_n ?_
    refine AW.seq ?_
    refine AW.block ?_
    refine AW.seq ?_
    obtain ⟨x67, hx67, h⟩ := Option.bind_eq_some_iff.1 h
    obtain ⟨hx67a, hx67b⟩ := ix_some.1 hx67
    obtain ⟨x68, hx68, h⟩ := Option.bind_eq_some_iff.1 h
    obtain ⟨hx68a, hx68b⟩ := ix_some.1 hx68
    by_cases c69 : x67.Key = x68.Key
    ·rw [if_pos c69] at h
     by_cases c70 : (x67.Parts.length : Int) = (x68.Parts.length : Int)
     ·rw [if_pos c70] at h
      obtain ⟨x71, hx71, h⟩ := Option.bind_eq_some_iff.1 h
      refine AW.regdL [0, 1, 5, 57] [[], [], [0, 1], [0, 1, 2], [0, 1, 2, 3], [], [], [5, 6], [5, 6, 7], [5, 6, 7, 8], [0, 1, 2, 3, 4, 5, 6, 7, 8, 9], [0, 1, 2, 3, 4, 5, 6, 7, 8, 9, 10], [0, 1, 2, 3, 4, 5, 6, 7, 8, 9, 10, 11], [0, 1, 2, 3, 4, 5, 6, 7, 8, 9, 10, 11], [0, 1, 2, 3, 4, 5, 6, 7, 8, 9, 10, 11, 12, 13], [0, 1, 2, 3, 4, 5, 6, 7, 8, 9, 10, 11, 12, 13, 14], [0, 1, 2, 3, 4, 5, 6, 7, 8, 9, 10, 11, 12, 13, 14, 15], [0, 1, 2, 3, 4, 5, 6, 7, 8, 9, 10, 11, 12, 13, 14, 15, 16], [0, 1, 2, 3, 4, 5, 6, 7, 8, 9, 10, 11], [0, 1, 2, 3, 4, 5, 6, 7, 8, 9, 10, 11], [0, 1, 2, 3, 4, 5, 6, 7, 8, 9, 10, 11, 18, 19], [0, 1, 2, 3, 4, 5, 6, 7, 8, 9, 10, 11, 18, 19, 20], [0, 1, 2, 3, 4, 5, 6, 7, 8, 9, 10, 11, 18, 19, 20, 21], [0, 1, 2, 3, 4, 5, 6, 7, 8, 9, 10, 11, 18, 19, 20, 21, 22], [0, 1, 2, 3, 4, 5, 6, 7, 8, 9, 10, 11, 12, 13, 14, 15, 16, 17, 18, 19, 20, 21, 22, 23], [0, 1, 2, 3, 4, 5, 6, 7, 8, 9, 10, 11, 12, 13, 14, 15, 16, 17, 18, 19, 20, 21, 22, 23, 24], [0, 1, 2, 3, 4, 5, 6, 7, 8, 9, 10, 11, 12, 13, 14, 15, 16, 17, 18, 19, 20, 21, 22, 23, 24, 25], [0, 1, 2, 3, 4, 5, 6, 7, 8, 9, 10, 11, 12, 13, 14, 15, 16, 17, 18, 19, 20, 21, 22, 23, 24, 25, 26], [0, 1, 2, 3, 4, 5, 6, 7, 8, 9, 10, 11, 12, 13, 14, 15, 16, 17, 18, 19, 20, 21, 22, 23, 24, 25, 26], [0, 1, 2, 3, 4, 5, 6, 7, 8, 9, 10, 11, 12, 13, 14, 15, 16, 17, 18, 19, 20, 21, 22, 23, 24, 25, 26, 27, 28], [0, 1, 2, 3, 4, 5, 6, 7, 8, 9, 10, 11, 12, 13, 14, 15, 16, 17, 18, 19, 20, 21, 22, 23, 24, 25, 26, 27, 28, 29], [0, 1, 2, 3, 4, 5, 6, 7, 8, 9, 10, 11, 12, 13, 14, 15, 16, 17, 18, 19, 20, 21, 22, 23, 24, 25, 26, 27, 28, 29, 30], [0, 1, 2, 3, 4, 5, 6, 7, 8, 9, 10, 11, 12, 13, 14, 15, 16, 17, 18, 19, 20, 21, 22, 23, 24, 25, 26], [0, 1, 2, 3, 4, 5, 6, 7, 8, 9, 10, 11, 12, 13, 14, 15, 16, 17, 18, 19, 20, 21, 22, 23, 24, 25, 26], [0, 1, 2, 3, 4, 5, 6, 7, 8, 9, 10, 11, 12, 13, 14, 15, 16, 17, 18, 19, 20, 21, 22, 23, 24, 25, 26, 32, 33], [0, 1, 2, 3, 4, 5, 6, 7, 8, 9, 10, 11, 12, 13, 14, 15, 16, 17, 18, 19, 20, 21, 22, 23, 24, 25, 26, 32, 33, 34], [0, 1, 2, 3, 4, 5, 6, 7, 8, 9, 10, 11, 12, 13, 14, 15, 16, 17, 18, 19, 20, 21, 22, 23, 24, 25, 26, 32, 33, 34, 35], [0, 1, 2, 3, 4, 5, 6, 7, 8, 9, 10, 11, 12, 13, 14, 15, 16, 17, 18, 19, 20, 21, 22, 23, 24, 25, 26, 27, 28, 29, 30, 31, 32, 33, 34, 35, 36], [0, 1, 2, 3, 4, 5, 6, 7, 8, 9, 10, 11, 12, 13, 14, 15, 16, 17, 18, 19, 20, 21, 22, 23, 24, 25, 26, 27, 28, 29, 30, 31, 32, 33, 34, 35, 36, 37], [0, 1, 2, 3, 4, 5, 6, 7, 8, 9, 10, 11, 12, 13, 14, 15, 16, 17, 18, 19, 20, 21, 22, 23, 24, 25, 26, 27, 28, 29, 30, 31, 32, 33, 34, 35, 36, 37, 38]] [0, 1, 2, 3, 4, 5, 6, 7, 8, 9, 10, 11, 12, 13, 14, 15, 16, 17, 18, 19, 20, 21, 22, 23, 24, 25, 26, 27, 28, 29, 30, 31, 32, 33, 34, 35, 36, 37, 38, 39] (tab [(13, [.sl (List.map enc3 x67.Offs), .sl (List.map enc3 x68.Offs)], .val (.bool x71))]) (tab_cons (ok13 x67.Offs x68.Offs x71 hx71) Try.call13 tab_nil) draws (by kernel_rfl) (by kernel_rfl) ?_
      generalize hK : AW Try.prog _ _ _ = K
      simp only [go_sem, ↓reduceIte, reduceCtorEq, Nat.reduceAdd, Nat.reduceSub, Nat.reduceMul, Nat.reduceEqDiff, Nat.reduceLT, Nat.reduceLeDiff, eq_true c2, eq_true c60, natOf_le hx67a, hx67b, natOf_le hx68a, hx68b, eq_true c69, eq_true c70]
      subst hK
      by_cases c72 : x71 = true
      ·rw [if_pos c72] at h
       refine AW.ifBF rfl (by first | (rw [c72]; rfl) | simp_all) ?_
       refine AW.skip ?_
       refine thenA_n ?_
       refine AW.regL [0, 1, 5, 6] ?_
       generalize hK : AW Try.prog _ _ _ = K
       simp only [go_sem, ↓reduceIte, reduceCtorEq, Nat.reduceAdd, Nat.reduceSub, Nat.reduceMul, Nat.reduceEqDiff, Nat.reduceLT, Nat.reduceLeDiff, eq_true c2, eq_true c60, eq_true c69, eq_true c70, c72]
       subst hK
       refine AW.block ?_
       obtain ⟨y91, hy91, h⟩ := Option.bind_eq_some_iff.1 h
       refine AW.loopO (fun s => ⟨(upd (upd (upd (upd anyF 0 (.sl (List.map encItem a0))) 1 (.sl (List.map encItem a1))) 5 (.val (.int .i64 s1_0))) 6 (.val (.int .i64 s))), hpL [] [], 8⟩) (fun y e st' => match y with | .inl z => e = Exit.ret ∧ finA Try.prog [.tmp 4] (.val (.bool z)) .ret st' | .inr z => e = Exit.exit 2 ∧ st' = ⟨(upd (upd (upd anyF 0 (.sl (List.map encItem a0))) 1 (.sl (List.map encItem a1))) 5 (.val (.int .i64 s1_0))), hpL [] [], 8⟩) hy91 ?_ ?_ ?_
       ·refine Ent.can [] _ _ _ rfl (by first | decide | simp) rfl ?_ ?_ ?_
        · exact ((((RF.any.pv (by first | rfl | simp only [go_sem]) (by first | rfl | simp [upd_ap, hpL_ap, tau, mapT, mapTL, bytesI_len, eq_true c2, eq_true c60, eq_true c69, eq_true c70, c72])).pv (by first | rfl | simp only [go_sem]) (by first | rfl | simp [upd_ap, hpL_ap, tau, mapT, mapTL, bytesI_len, eq_true c2, eq_true c60, eq_true c69, eq_true c70, c72])).pv (by first | rfl | simp only [go_sem]) (by first | rfl | simp [upd_ap, hpL_ap, tau, mapT, mapTL, bytesI_len, eq_true c2, eq_true c60, eq_true c69, eq_true c70, c72])).pv (by first | rfl | simp only [go_sem]) (by first | rfl | simp [upd_ap, hpL_ap, tau, mapT, mapTL, bytesI_len, eq_true c2, eq_true c60, eq_true c69, eq_true c70, c72]))
        · exact .nil _
        · exact .nil _
       ·clear h hy91
        rintro s4_0 x h
        rw [f8_s4] at h
        refine AW.seq ?_
        refine AW.regL [0, 1, 5, 6, 65] ?_
        generalize hK : AW Try.prog _ _ _ = K
        simp only [go_sem, ↓reduceIte, reduceCtorEq, Nat.reduceAdd, Nat.reduceSub, Nat.reduceMul, Nat.reduceEqDiff, Nat.reduceLT, Nat.reduceLeDiff, eq_true c2, eq_true c60, eq_true c69, eq_true c70, c72, natOf_le hx67a, hx67b]
        subst hK
        by_cases c86 : s4_0 < (x67.Parts.length : Int)
        ·rw [if_pos c86] at h
         refine AW.ifT rfl c86 ?_
         refine AW.skip ?_
         refine thenA_n ?_
         refine AW.seq ?_
         refine AW.block ?_
         obtain ⟨x87, hx87, h⟩ := Option.bind_eq_some_iff.1 h
         obtain ⟨hx87a, hx87b⟩ := ix_some.1 hx87
         obtain ⟨x88, hx88, h⟩ := Option.bind_eq_some_iff.1 h
         obtain ⟨hx88a, hx88b⟩ := ix_some.1 hx88
         obtain ⟨x89, hx89, h⟩ := Option.bind_eq_some_iff.1 h
         refine AW.regdL [0, 1, 5, 6, 85] [[], [], [0, 1], [0, 1, 2], [0, 1, 2, 3], [], [0, 1, 2, 3, 4, 5], [0, 1, 2, 3, 4, 5, 6], [], [], [8, 9], [8, 9, 10], [8, 9, 10, 11], [], [8, 9, 10, 11, 12, 13], [8, 9, 10, 11, 12, 13, 14], [0, 1, 2, 3, 4, 5, 6, 7, 8, 9, 10, 11, 12, 13, 14, 15], [0, 1, 2, 3, 4, 5, 6, 7, 8, 9, 10, 11, 12, 13, 14, 15, 16]] [0, 1, 2, 3, 4, 5, 6, 7, 8, 9, 10, 11, 12, 13, 14, 15, 16, 17] (tab [(14, [.agg [.val (.int .u8 x87.Acc.Kind), .val (.int .i64 x87.Acc.Int), .val (.string x87.Acc.Text), .val (.int .i64 x87.N)], .agg [.val (.int .u8 x88.Acc.Kind), .val (.int .i64 x88.Acc.Int), .val (.string x88.Acc.Text), .val (.int .i64 x88.N)]], .val (.bool x89))]) (tab_cons (ok14 x87 x88 x89 hx89) Try.call14 tab_nil) draws (by kernel_rfl) (by kernel_rfl) ?_
         generalize hK : AW Try.prog _ _ _ = K
         simp only [go_sem, ↓reduceIte, reduceCtorEq, Nat.reduceAdd, Nat.reduceSub, Nat.reduceMul, Nat.reduceEqDiff, Nat.reduceLT, Nat.reduceLeDiff, eq_true c2, eq_true c60, eq_true c69, eq_true c70, c72, eq_true c86, natOf_le hx67a, hx67b, natOf_le hx87a, hx87b, natOf_le hx68a, hx68b, natOf_le hx88a, hx88b]
         subst hK
         by_cases c90 : x89 = true
         ·rw [if_pos c90] at h
          refine AW.ifBF rfl (by first | (rw [c90]; rfl) | simp_all) ?_
          refine AW.skip ?_
          refine block_n ?_
          refine thenA_n ?_
          refine AW.regionL [0, 1, 5, 6] ?_
          generalize hK : thenA _ _ Exit.normal = K
          simp only [go_sem, ↓reduceIte, reduceCtorEq, Nat.reduceAdd, Nat.reduceSub, Nat.reduceMul, Nat.reduceEqDiff, Nat.reduceLT, Nat.reduceLeDiff, eq_true c2, eq_true c60, eq_true c69, eq_true c70, c72, eq_true c86, c90]
          subst hK
          refine thenA_n ?_
          refine ⟨_, (Option.some.inj h).symm, ?_⟩
          refine Ent.can [] _ _ _ rfl (by first | decide | simp) rfl ?_ ?_ ?_
          · exact ((((RF.any.pv (by first | rfl | simp only [go_sem]) (by first | rfl | simp [upd_ap, hpL_ap, tau, mapT, mapTL, bytesI_len, eq_true c2, eq_true c60, eq_true c69, eq_true c70, c72, eq_true c86, c90])).pv (by first | rfl | simp only [go_sem]) (by first | rfl | simp [upd_ap, hpL_ap, tau, mapT, mapTL, bytesI_len, eq_true c2, eq_true c60, eq_true c69, eq_true c70, c72, eq_true c86, c90])).pv (by first | rfl | simp only [go_sem]) (by first | rfl | simp [upd_ap, hpL_ap, tau, mapT, mapTL, bytesI_len, eq_true c2, eq_true c60, eq_true c69, eq_true c70, c72, eq_true c86, c90])).pv (by first | rfl | simp only [go_sem]) (by first | rfl | simp [upd_ap, hpL_ap, tau, mapT, mapTL, bytesI_len, eq_true c2, eq_true c60, eq_true c69, eq_true c70, c72, eq_true c86, c90]))
          · exact .nil _
          · exact .nil _
         ·rw [if_neg c90] at h
          rw [Bool.not_eq_true] at c90
          refine AW.ifBT rfl (by first | (rw [c90]; rfl) | simp_all) ?_
          refine AW.regL [4] ?_
          generalize hK : AW Try.prog _ _ _ = K
          simp only [go_sem, ↓reduceIte, reduceCtorEq, Nat.reduceAdd, Nat.reduceSub, Nat.reduceMul, Nat.reduceEqDiff, Nat.reduceLT, Nat.reduceLeDiff, eq_true c2, eq_true c60, eq_true c69, eq_true c70, c72, eq_true c86, c90]
          subst hK
          refine AW.ret ?_
          refine block_r ?_
          refine thenA_r ?_
          refine thenA_r ?_
          refine ⟨_, (Option.some.inj h).symm, _, Ent.refl, rfl, ?_⟩
          (simp only [go_sem, ↓reduceIte, reduceCtorEq, Nat.reduceAdd, Nat.reduceSub, Nat.reduceMul, Nat.reduceEqDiff, Nat.reduceLT, Nat.reduceLeDiff, eq_true c2, eq_true c60, eq_true c69, eq_true c70, c72, eq_true c86, c90, finA] <;> try simp)
        ·rw [if_neg c86] at h
         refine AW.ifF rfl c86 ?_
         refine AW.exit ?_
         refine thenA_x ?_
         refine thenA_x ?_
         refine ⟨_, (Option.some.inj h).symm, _, ?_, rfl, rfl⟩
         refine Ent.can [] _ _ _ rfl (by first | decide | simp) rfl ?_ ?_ ?_
         · exact (((RF.any.pv (by first | rfl | simp only [go_sem]) (by first | rfl | simp [upd_ap, hpL_ap, tau, mapT, mapTL, bytesI_len, eq_true c2, eq_true c60, eq_true c69, eq_true c70, c72, eq_false c86])).pv (by first | rfl | simp only [go_sem]) (by first | rfl | simp [upd_ap, hpL_ap, tau, mapT, mapTL, bytesI_len, eq_true c2, eq_true c60, eq_true c69, eq_true c70, c72, eq_false c86])).pv (by first | rfl | simp only [go_sem]) (by first | rfl | simp [upd_ap, hpL_ap, tau, mapT, mapTL, bytesI_len, eq_true c2, eq_true c60, eq_true c69, eq_true c70, c72, eq_false c86]))
         · exact .nil _
         · exact .nil _
       ·intro e st' hX
        rcases y91 with y92 | _ <;> dsimp only at h hX
        ·obtain ⟨rfl, hf⟩ := hX
         refine ⟨_, Ent.refl, ?_⟩
         refine block_r ?_
         refine block_r ?_
         refine thenA_r ?_
         refine thenA_r ?_
         refine ⟨_, (Option.some.inj h).symm, _, Ent.refl, rfl, ?_⟩
         exact hf
        ·obtain ⟨rfl, rfl⟩ := hX
         refine ⟨_, Ent.refl, ?_⟩
         refine block_x ?_
         refine block_n ?_
         refine thenA_n ?_
         refine AW.regionL [0, 1, 5] ?_
         generalize hK : thenA _ _ Exit.normal = K
         simp only [go_sem, ↓reduceIte, reduceCtorEq, Nat.reduceAdd, Nat.reduceSub, Nat.reduceMul, Nat.reduceEqDiff, Nat.reduceLT, Nat.reduceLeDiff, eq_true c2, eq_true c60, eq_true c69, eq_true c70, c72]
         subst hK
         refine thenA_n ?_
         refine ⟨_, (Option.some.inj h).symm, ?_⟩
         refine Ent.can [] _ _ _ rfl (by first | decide | simp) rfl ?_ ?_ ?_
         · exact (((RF.any.pv (by first | rfl | simp only [go_sem]) (by first | rfl | simp [upd_ap, hpL_ap, tau, mapT, mapTL, bytesI_len, eq_true c2, eq_true c60, eq_true c69, eq_true c70, c72])).pv (by first | rfl | simp only [go_sem]) (by first | rfl | simp [upd_ap, hpL_ap, tau, mapT, mapTL, bytesI_len, eq_true c2, eq_true c60, eq_true c69, eq_true c70, c72])).pv (by first | rfl | simp only [go_sem]) (by first | rfl | simp [upd_ap, hpL_ap, tau, mapT, mapTL, bytesI_len, eq_true c2, eq_true c60, eq_true c69, eq_true c70, c72]))
         · exact .nil _
         · exact .nil _
      ·rw [if_neg c72] at h
       rw [Bool.not_eq_true] at c72
       refine AW.ifBT rfl (by first | (rw [c72]; rfl) | simp_all) ?_
       refine AW.regL [4] ?_
       generalize hK : AW Try.prog _ _ _ = K
       simp only [go_sem, ↓reduceIte, reduceCtorEq, Nat.reduceAdd, Nat.reduceSub, Nat.reduceMul, Nat.reduceEqDiff, Nat.reduceLT, Nat.reduceLeDiff, eq_true c2, eq_true c60, eq_true c69, eq_true c70, c72]
       subst hK
       refine AW.ret ?_
       refine thenA_r ?_
       refine block_r ?_
       refine thenA_r ?_
       refine thenA_r ?_
       refine ⟨_, (Option.some.inj h).symm, _, Ent.refl, rfl, ?_⟩
       (simp only [go_sem, ↓reduceIte, reduceCtorEq, Nat.reduceAdd, Nat.reduceSub, Nat.reduceMul, Nat.reduceEqDiff, Nat.reduceLT, Nat.reduceLeDiff, eq_true c2, eq_true c60, eq_true c69, eq_true c70, c72, finA] <;> try simp)
     ·rw [if_neg c70] at h
      refine AW.regdL [0, 1, 5, 57] [[], [], [0, 1], [0, 1, 2], [0, 1, 2, 3], [], [], [5, 6], [5, 6, 7], [5, 6, 7, 8], [0, 1, 2, 3, 4, 5, 6, 7, 8, 9], [0, 1, 2, 3, 4, 5, 6, 7, 8, 9, 10], [0, 1, 2, 3, 4, 5, 6, 7, 8, 9, 10, 11], [0, 1, 2, 3, 4, 5, 6, 7, 8, 9, 10, 11], [0, 1, 2, 3, 4, 5, 6, 7, 8, 9, 10, 11, 12, 13], [0, 1, 2, 3, 4, 5, 6, 7, 8, 9, 10, 11, 12, 13, 14], [0, 1, 2, 3, 4, 5, 6, 7, 8, 9, 10, 11, 12, 13, 14, 15], [0, 1, 2, 3, 4, 5, 6, 7, 8, 9, 10, 11, 12, 13, 14, 15, 16], [0, 1, 2, 3, 4, 5, 6, 7, 8, 9, 10, 11], [0, 1, 2, 3, 4, 5, 6, 7, 8, 9, 10, 11], [0, 1, 2, 3, 4, 5, 6, 7, 8, 9, 10, 11, 18, 19], [0, 1, 2, 3, 4, 5, 6, 7, 8, 9, 10, 11, 18, 19, 20], [0, 1, 2, 3, 4, 5, 6, 7, 8, 9, 10, 11, 18, 19, 20, 21], [0, 1, 2, 3, 4, 5, 6, 7, 8, 9, 10, 11, 18, 19, 20, 21, 22], [0, 1, 2, 3, 4, 5, 6, 7, 8, 9, 10, 11, 12, 13, 14, 15, 16, 17, 18, 19, 20, 21, 22, 23], [0, 1, 2, 3, 4, 5, 6, 7, 8, 9, 10, 11, 12, 13, 14, 15, 16, 17, 18, 19, 20, 21, 22, 23, 24], [0, 1, 2, 3, 4, 5, 6, 7, 8, 9, 10, 11, 12, 13, 14, 15, 16, 17, 18, 19, 20, 21, 22, 23, 24, 25], [0, 1, 2, 3, 4, 5, 6, 7, 8, 9, 10, 11, 12, 13, 14, 15, 16, 17, 18, 19, 20, 21, 22, 23, 24, 25, 26], [0, 1, 2, 3, 4, 5, 6, 7, 8, 9, 10, 11, 12, 13, 14, 15, 16, 17, 18, 19, 20, 21, 22, 23, 24, 25, 26], [0, 1, 2, 3, 4, 5, 6, 7, 8, 9, 10, 11, 12, 13, 14, 15, 16, 17, 18, 19, 20, 21, 22, 23, 24, 25, 26, 27, 28], [0, 1, 2, 3, 4, 5, 6, 7, 8, 9, 10, 11, 12, 13, 14, 15, 16, 17, 18, 19, 20, 21, 22, 23, 24, 25, 26, 27, 28, 29], [0, 1, 2, 3, 4, 5, 6, 7, 8, 9, 10, 11, 12, 13, 14, 15, 16, 17, 18, 19, 20, 21, 22, 23, 24, 25, 26, 27, 28, 29, 30], [0, 1, 2, 3, 4, 5, 6, 7, 8, 9, 10, 11, 12, 13, 14, 15, 16, 17, 18, 19, 20, 21, 22, 23, 24, 25, 26], [0, 1, 2, 3, 4, 5, 6, 7, 8, 9, 10, 11, 12, 13, 14, 15, 16, 17, 18, 19, 20, 21, 22, 23, 24, 25, 26], [0, 1, 2, 3, 4, 5, 6, 7, 8, 9, 10, 11, 12, 13, 14, 15, 16, 17, 18, 19, 20, 21, 22, 23, 24, 25, 26, 32, 33], [0, 1, 2, 3, 4, 5, 6, 7, 8, 9, 10, 11, 12, 13, 14, 15, 16, 17, 18, 19, 20, 21, 22, 23, 24, 25, 26, 32, 33, 34], [0, 1, 2, 3, 4, 5, 6, 7, 8, 9, 10, 11, 12, 13, 14, 15, 16, 17, 18, 19, 20, 21, 22, 23, 24, 25, 26, 32, 33, 34, 35], [0, 1, 2, 3, 4, 5, 6, 7, 8, 9, 10, 11, 12, 13, 14, 15, 16, 17, 18, 19, 20, 21, 22, 23, 24, 25, 26, 27, 28, 29, 30, 31, 32, 33, 34, 35, 36], [0, 1, 2, 3, 4, 5, 6, 7, 8, 9, 10, 11, 12, 13, 14, 15, 16, 17, 18, 19, 20, 21, 22, 23, 24, 25, 26, 27, 28, 29, 30, 31, 32, 33, 34, 35, 36, 37], [0, 1, 2, 3, 4, 5, 6, 7, 8, 9, 10, 11, 12, 13, 14, 15, 16, 17, 18, 19, 20, 21, 22, 23, 24, 25, 26, 27, 28, 29, 30, 31, 32, 33, 34, 35, 36, 37, 38]] [0, 1, 2, 3, 4, 5, 6, 7, 8, 9, 10, 11, 12, 13, 14, 15, 16, 17, 18, 19, 20, 21, 22, 23, 24, 25, 26, 27, 28, 29, 30, 31, 32, 33, 34, 35, 36, 37, 38, 39] noFt (fun _ _ _ h => by simp [noFt] at h) draws (by kernel_rfl) (by kernel_rfl) ?_
      generalize hK : AW Try.prog _ _ _ = K
      simp only [go_sem, ↓reduceIte, reduceCtorEq, Nat.reduceAdd, Nat.reduceSub, Nat.reduceMul, Nat.reduceEqDiff, Nat.reduceLT, Nat.reduceLeDiff, eq_true c2, eq_true c60, natOf_le hx67a, hx67b, natOf_le hx68a, hx68b, eq_true c69, eq_false c70]
      subst hK
      refine AW.ifBT rfl rfl ?_
      refine AW.regL [4] ?_
      generalize hK : AW Try.prog _ _ _ = K
      simp only [go_sem, ↓reduceIte, reduceCtorEq, Nat.reduceAdd, Nat.reduceSub, Nat.reduceMul, Nat.reduceEqDiff, Nat.reduceLT, Nat.reduceLeDiff, eq_true c2, eq_true c60, eq_true c69, eq_false c70]
      subst hK
      refine AW.ret ?_
      refine thenA_r ?_
      refine block_r ?_
      refine thenA_r ?_
      refine thenA_r ?_
      refine ⟨_, (Option.some.inj h).symm, _, Ent.refl, rfl, ?_⟩
      (simp only [go_sem, ↓reduceIte, reduceCtorEq, Nat.reduceAdd, Nat.reduceSub, Nat.reduceMul, Nat.reduceEqDiff, Nat.reduceLT, Nat.reduceLeDiff, eq_true c2, eq_true c60, eq_true c69, eq_false c70, finA] <;> try simp)
    ·rw [if_neg c69] at h
     refine AW.regdL [0, 1, 5, 57] [[], [], [0, 1], [0, 1, 2], [0, 1, 2, 3], [], [], [5, 6], [5, 6, 7], [5, 6, 7, 8], [0, 1, 2, 3, 4, 5, 6, 7, 8, 9], [0, 1, 2, 3, 4, 5, 6, 7, 8, 9, 10], [0, 1, 2, 3, 4, 5, 6, 7, 8, 9, 10, 11], [0, 1, 2, 3, 4, 5, 6, 7, 8, 9, 10, 11], [0, 1, 2, 3, 4, 5, 6, 7, 8, 9, 10, 11, 12, 13], [0, 1, 2, 3, 4, 5, 6, 7, 8, 9, 10, 11, 12, 13, 14], [0, 1, 2, 3, 4, 5, 6, 7, 8, 9, 10, 11, 12, 13, 14, 15], [0, 1, 2, 3, 4, 5, 6, 7, 8, 9, 10, 11, 12, 13, 14, 15, 16], [0, 1, 2, 3, 4, 5, 6, 7, 8, 9, 10, 11], [0, 1, 2, 3, 4, 5, 6, 7, 8, 9, 10, 11], [0, 1, 2, 3, 4, 5, 6, 7, 8, 9, 10, 11, 18, 19], [0, 1, 2, 3, 4, 5, 6, 7, 8, 9, 10, 11, 18, 19, 20], [0, 1, 2, 3, 4, 5, 6, 7, 8, 9, 10, 11, 18, 19, 20, 21], [0, 1, 2, 3, 4, 5, 6, 7, 8, 9, 10, 11, 18, 19, 20, 21, 22], [0, 1, 2, 3, 4, 5, 6, 7, 8, 9, 10, 11, 12, 13, 14, 15, 16, 17, 18, 19, 20, 21, 22, 23], [0, 1, 2, 3, 4, 5, 6, 7, 8, 9, 10, 11, 12, 13, 14, 15, 16, 17, 18, 19, 20, 21, 22, 23, 24], [0, 1, 2, 3, 4, 5, 6, 7, 8, 9, 10, 11, 12, 13, 14, 15, 16, 17, 18, 19, 20, 21, 22, 23, 24, 25], [0, 1, 2, 3, 4, 5, 6, 7, 8, 9, 10, 11, 12, 13, 14, 15, 16, 17, 18, 19, 20, 21, 22, 23, 24, 25, 26], [0, 1, 2, 3, 4, 5, 6, 7, 8, 9, 10, 11, 12, 13, 14, 15, 16, 17, 18, 19, 20, 21, 22, 23, 24, 25, 26], [0, 1, 2, 3, 4, 5, 6, 7, 8, 9, 10, 11, 12, 13, 14, 15, 16, 17, 18, 19, 20, 21, 22, 23, 24, 25, 26, 27, 28], [0, 1, 2, 3, 4, 5, 6, 7, 8, 9, 10, 11, 12, 13, 14, 15, 16, 17, 18, 19, 20, 21, 22, 23, 24, 25, 26, 27, 28, 29], [0, 1, 2, 3, 4, 5, 6, 7, 8, 9, 10, 11, 12, 13, 14, 15, 16, 17, 18, 19, 20, 21, 22, 23, 24, 25, 26, 27, 28, 29, 30], [0, 1, 2, 3, 4, 5, 6, 7, 8, 9, 10, 11, 12, 13, 14, 15, 16, 17, 18, 19, 20, 21, 22, 23, 24, 25, 26], [0, 1, 2, 3, 4, 5, 6, 7, 8, 9, 10, 11, 12, 13, 14, 15, 16, 17, 18, 19, 20, 21, 22, 23, 24, 25, 26], [0, 1, 2, 3, 4, 5, 6, 7, 8, 9, 10, 11, 12, 13, 14, 15, 16, 17, 18, 19, 20, 21, 22, 23, 24, 25, 26, 32, 33], [0, 1, 2, 3, 4, 5, 6, 7, 8, 9, 10, 11, 12, 13, 14, 15, 16, 17, 18, 19, 20, 21, 22, 23, 24, 25, 26, 32, 33, 34], [0, 1, 2, 3, 4, 5, 6, 7, 8, 9, 10, 11, 12, 13, 14, 15, 16, 17, 18, 19, 20, 21, 22, 23, 24, 25, 26, 32, 33, 34, 35], [0, 1, 2, 3, 4, 5, 6, 7, 8, 9, 10, 11, 12, 13, 14, 15, 16, 17, 18, 19, 20, 21, 22, 23, 24, 25, 26, 27, 28, 29, 30, 31, 32, 33, 34, 35, 36], [0, 1, 2, 3, 4, 5, 6, 7, 8, 9, 10, 11, 12, 13, 14, 15, 16, 17, 18, 19, 20, 21, 22, 23, 24, 25, 26, 27, 28, 29, 30, 31, 32, 33, 34, 35, 36, 37], [0, 1, 2, 3, 4, 5, 6, 7, 8, 9, 10, 11, 12, 13, 14, 15, 16, 17, 18, 19, 20, 21, 22, 23, 24, 25, 26, 27, 28, 29, 30, 31, 32, 33, 34, 35, 36, 37, 38]] [0, 1, 2, 3, 4, 5, 6, 7, 8, 9, 10, 11, 12, 13, 14, 15, 16, 17, 18, 19, 20, 21, 22, 23, 24, 25, 26, 27, 28, 29, 30, 31, 32, 33, 34, 35, 36, 37, 38, 39] noFt (fun _ _ _ h => by simp [noFt] at h) draws (by kernel_rfl) (by kernel_rfl) ?_
     generalize hK : AW Try.prog _ _ _ = K
     simp only [go_sem, ↓reduceIte, reduceCtorEq, Nat.reduceAdd, Nat.reduceSub, Nat.reduceMul, Nat.reduceEqDiff, Nat.reduceLT, Nat.reduceLeDiff, eq_true c2, eq_true c60, natOf_le hx67a, hx67b, natOf_le hx68a, hx68b, eq_false c69]
     subst hK
     refine AW.ifBT rfl rfl ?_
     refine AW.regL [4] ?_
     generalize hK : AW Try.prog _ _ _ = K
     simp only [go_sem, ↓reduceIte, reduceCtorEq, Nat.reduceAdd, Nat.reduceSub, Nat.reduceMul, Nat.reduceEqDiff, Nat.reduceLT, Nat.reduceLeDiff, eq_true c2, eq_true c60, eq_false c69]
     subst hK
     refine AW.ret ?_
     refine thenA_r ?_
     refine block_r ?_
     refine thenA_r ?_
     refine thenA_r ?_
     refine ⟨_, (Option.some.inj h).symm, _, Ent.refl, rfl, ?_⟩
     (simp only [go_sem, ↓reduceIte, reduceCtorEq, Nat.reduceAdd, Nat.reduceSub, Nat.reduceMul, Nat.reduceEqDiff, Nat.reduceLT, Nat.reduceLeDiff, eq_true c2, eq_true c60, eq_false c69, finA] <;> try simp)
   ·rw [if_neg c60] at h
    refine AW.ifF rfl c60 ?_
    refine AW.exit ?_
    refine thenA_x ?_
    refine thenA_x ?_
    refine ⟨_, (Option.some.inj h).symm, _, ?_, rfl, rfl⟩
    refine Ent.can [] _ _ _ rfl (by first | decide | simp) rfl ?_ ?_ ?_
    · exact RF.any
    · exact .nil _
    · exact .nil _
  ·intro e st' hX
   rcases y93 with y94 | _ <;> dsimp only at h hX
   ·obtain ⟨rfl, hf⟩ := hX
    refine ⟨_, Ent.refl, ?_⟩
    refine block_r ?_
    refine thenA_r ?_
    obtain rfl := Option.some.inj h
    exact hf
   ·obtain ⟨rfl, rfl⟩ := hX
    refine ⟨_, Ent.refl, ?_⟩
    refine block_x ?_
    refine thenA_n ?_
    refine AW.regL [4] ?_
    generalize hK : AW Try.prog _ _ _ = K
    simp only [go_sem, ↓reduceIte, reduceCtorEq, Nat.reduceAdd, Nat.reduceSub, Nat.reduceMul, Nat.reduceEqDiff, Nat.reduceLT, Nat.reduceLeDiff, eq_true c2]
    subst hK
    refine AW.ret ?_
    obtain rfl := Option.some.inj h
    (simp only [go_sem, ↓reduceIte, reduceCtorEq, Nat.reduceAdd, Nat.reduceSub, Nat.reduceMul, Nat.reduceEqDiff, Nat.reduceLT, Nat.reduceLeDiff, eq_true c2, finA] <;> try simp)
 ·rw [if_neg c2] at h
  refine AW.ifT rfl c2 ?_
  refine AW.regL [4] ?_
  generalize hK : AW Try.prog _ _ _ = K
  simp only [go_sem, ↓reduceIte, reduceCtorEq, Nat.reduceAdd, Nat.reduceSub, Nat.reduceMul, Nat.reduceEqDiff, Nat.reduceLT, Nat.reduceLeDiff, eq_false c2]
  subst hK
  refine AW.ret ?_
  refine thenA_r ?_
  obtain rfl := Option.some.inj h
  (simp only [go_sem, ↓reduceIte, reduceCtorEq, Nat.reduceAdd, Nat.reduceSub, Nat.reduceMul, Nat.reduceEqDiff, Nat.reduceLT, Nat.reduceLeDiff, eq_false c2, finA] <;> try simp)
end Au
end Go.Proofs.Y5

set_option linter.all false
set_option maxRecDepth 8000
set_option maxHeartbeats 1000000
namespace Go.Proofs.Y5
open Go.Gm
namespace Au
noncomputable def f5_s4 (x35 : Item) : Int × Int → Option ((Int × Int) ⊕ Int)
  | (s4_0, s4_1) => (if s4_1 < (x35.Parts.length : Int) then (if s4_1 < 300 then ((ix x35.Parts s4_1).bind fun x48 => some (.inl (IntKind.i64.wrap (s4_0 + (x48.Acc.Text.size : Int)), IntKind.i64.wrap (s4_1 + 1)))) else some (.inr s4_0)) else some (.inr s4_0))
noncomputable def f5_s1 (a0 : List Item) : Int × Int → Option ((Int × Int) ⊕ (Bool ⊕ Unit))
  | (s1_0, s1_1) => (if s1_1 < (a0.length : Int) then (if s1_1 < 60 then ((ix a0 s1_1).bind fun x35 => ((loopO (f5_s4 x35) (IntKind.i64.wrap ((IntKind.i64.wrap ((IntKind.i64.wrap (s1_0 + (x35.Key.size : Int))) + (IntKind.i64.wrap (4 * (x35.Offs.length : Int))))) + (IntKind.i64.wrap (4 * (x35.Parts.length : Int)))), 0)).bind fun y50 => (if 1500 < y50 then some (.inr (.inl true)) else some (.inl (y50, IntKind.i64.wrap (s1_1 + 1)))))) else some (.inr (.inr ()))) else some (.inr (.inr ())))
noncomputable def f5 (a0 : List Item) : Option Bool := ((loopO (f5_s1 a0) (0, 0)).bind fun y52 => match y52 with | .inl y53 => some y53 | .inr _ => some (decide (60 < (a0.length : Int))))
theorem ok5 (a0 : List Item) (r : Bool) (h : f5 a0 = some r) : PC Try.prog 5 [.sl (List.map encItem a0)] (.val (.bool r)) := by
 rw [f5] at h
 refine pc_of8 (N := 72) (rs := [.tmp 2]) Try.func5 rfl rfl rfl (Nat.le_of_ble_eq_true rfl) ?_
 refine AW.regL [0] ?_
 generalize hK : AW Try.prog _ _ _ = K
 simp only [go_sem, ↓reduceIte, reduceCtorEq, Nat.reduceAdd, Nat.reduceSub, Nat.reduceMul, Nat.reduceEqDiff, Nat.reduceLT, Nat.reduceLeDiff]
 subst hK
 refine AW.regL [0, 3] ?_
 generalize hK : AW Try.prog _ _ _ = K
 simp only [go_sem, ↓reduceIte, reduceCtorEq, Nat.reduceAdd, Nat.reduceSub, Nat.reduceMul, Nat.reduceEqDiff, Nat.reduceLT, Nat.reduceLeDiff]
 subst hK
 refine AW.seq ?_
 refine AW.regL [0, 3, 4] ?_
 generalize hK : AW Try.prog _ _ _ = K
 simp only [go_sem, ↓reduceIte, reduceCtorEq, Nat.reduceAdd, Nat.reduceSub, Nat.reduceMul, Nat.reduceEqDiff, Nat.reduceLT, Nat.reduceLeDiff]
 subst hK
 refine AW.block ?_
 obtain ⟨y52, hy52, h⟩ := Option.bind_eq_some_iff.1 h
 refine AW.loopO (fun s => ⟨(upd (upd (upd anyF 0 (.sl (List.map encItem a0))) 3 (.val (.int .i64 s.1))) 4 (.val (.int .i64 s.2))), hpL [] [], 8⟩) (fun y e st' => match y with | .inl z => e = Exit.ret ∧ finA Try.prog [.tmp 2] (.val (.bool z)) .ret st' | .inr z => e = Exit.exit 0 ∧ st' = ⟨(upd anyF 0 (.sl (List.map encItem a0))), hpL [] [], 8⟩) hy52 ?_ ?_ ?_
 ·refine Ent.can [] _ _ _ rfl (by first | decide | simp) rfl ?_ ?_ ?_
  · exact (((RF.any.pv (by first | rfl | simp only [go_sem]) (by first | rfl | simp [upd_ap, hpL_ap, tau, mapT, mapTL, bytesI_len])).pv (by first | rfl | simp only [go_sem]) (by first | rfl | simp [upd_ap, hpL_ap, tau, mapT, mapTL, bytesI_len])).pv (by first | rfl | simp only [go_sem]) (by first | rfl | simp [upd_ap, hpL_ap, tau, mapT, mapTL, bytesI_len]))
  · exact .nil _
  · exact .nil _
 ·clear h hy52
  rintro ⟨s1_0, s1_1⟩ x h
  rw [f5_s1] at h
  refine AW.seq ?_
  by_cases c33 : s1_1 < (a0.length : Int)
  ·rw [if_pos c33] at h
   refine AW.regL [0, 3, 4, 13] ?_
   generalize hK : AW Try.prog _ _ _ = K
   simp only [go_sem, ↓reduceIte, reduceCtorEq, Nat.reduceAdd, Nat.reduceSub, Nat.reduceMul, Nat.reduceEqDiff, Nat.reduceLT, Nat.reduceLeDiff, eq_true c33]
   subst hK
   by_cases c34 : s1_1 < 60
   ·rw [if_pos c34] at h
    refine AW.ifT rfl c34 ?_
    refine AW.skip ?_
    refine thenA_n ?_
    refine AW.seq ?_
    refine AW.block ?_
    obtain ⟨x35, hx35, h⟩ := Option.bind_eq_some_iff.1 h
    obtain ⟨hx35a, hx35b⟩ := ix_some.1 hx35
    refine AW.regdL [0, 3, 4] [[], [], [], [1, 2], [1, 2, 3], [1, 2, 3, 4], [1, 2, 3, 4, 5], [0, 1, 2, 3, 4, 5, 6], [], [], [8, 9], [8, 9, 10], [8, 9, 10, 11], [8, 9, 10, 11, 12], [8, 9, 10, 11, 12, 13], [0, 1, 2, 3, 4, 5, 6, 7, 8, 9, 10, 11, 12, 13, 14], [], [], [16, 17], [16, 17, 18], [16, 17, 18, 19], [16, 17, 18, 19, 20], [16, 17, 18, 19, 20, 21], [0, 1, 2, 3, 4, 5, 6, 7, 8, 9, 10, 11, 12, 13, 14, 15, 16, 17, 18, 19, 20, 21, 22], [0, 1, 2, 3, 4, 5, 6, 7, 8, 9, 10, 11, 12, 13, 14, 15, 16, 17, 18, 19, 20, 21, 22, 23]] [0, 1, 2, 3, 4, 5, 6, 7, 8, 9, 10, 11, 12, 13, 14, 15, 16, 17, 18, 19, 20, 21, 22, 23, 24] noFt (fun _ _ _ h => by simp [noFt] at h) draws (by kernel_rfl) (by kernel_rfl) ?_
    generalize hK : AW Try.prog _ _ _ = K
    simp only [go_sem, ↓reduceIte, reduceCtorEq, Nat.reduceAdd, Nat.reduceSub, Nat.reduceMul, Nat.reduceEqDiff, Nat.reduceLT, Nat.reduceLeDiff, eq_true c33, eq_true c34, natOf_le hx35a, hx35b]
    subst hK
    refine AW.seq ?_
    refine AW.regL [0, 3, 4, 5] ?_
    generalize hK : AW Try.prog _ _ _ = K
    simp only [go_sem, ↓reduceIte, reduceCtorEq, Nat.reduceAdd, Nat.reduceSub, Nat.reduceMul, Nat.reduceEqDiff, Nat.reduceLT, Nat.reduceLeDiff, eq_true c33, eq_true c34]
    subst hK
    refine AW.block ?_
    obtain ⟨y50, hy50, h⟩ := Option.bind_eq_some_iff.1 h
    refine AW.loopO (fun s => ⟨(upd (upd (upd (upd anyF 0 (.sl (List.map encItem a0))) 3 (.val (.int .i64 s.1))) 4 (.val (.int .i64 s1_1))) 5 (.val (.int .i64 s.2))), hpL [] [], 8⟩) (fun z e st' => e = Exit.exit 2 ∧ st' = ⟨(upd (upd (upd anyF 0 (.sl (List.map encItem a0))) 3 (.val (.int .i64 z))) 4 (.val (.int .i64 s1_1))), hpL [] [], 8⟩) hy50 ?_ ?_ ?_
    ·refine Ent.can [] _ _ _ rfl (by first | decide | simp) rfl ?_ ?_ ?_
     · exact ((((RF.any.pv (by first | rfl | simp only [go_sem]) (by first | rfl | simp [upd_ap, hpL_ap, tau, mapT, mapTL, bytesI_len, eq_true c33, eq_true c34])).pv (by first | rfl | simp only [go_sem]) (by first | rfl | simp [upd_ap, hpL_ap, tau, mapT, mapTL, bytesI_len, eq_true c33, eq_true c34])).pv (by first | rfl | simp only [go_sem]) (by first | rfl | simp [upd_ap, hpL_ap, tau, mapT, mapTL, bytesI_len, eq_true c33, eq_true c34])).pv (by first | rfl | simp only [go_sem]) (by first | rfl | simp [upd_ap, hpL_ap, tau, mapT, mapTL, bytesI_len, eq_true c33, eq_true c34]))
     · exact .nil _
     · exact .nil _
    ·clear h hy50
     rintro ⟨s4_0, s4_1⟩ x h
     rw [f5_s4] at h
     refine AW.seq ?_
     by_cases c46 : s4_1 < (x35.Parts.length : Int)
     ·rw [if_pos c46] at h
      refine AW.regL [0, 3, 4, 5, 51] ?_
      generalize hK : AW Try.prog _ _ _ = K
      simp only [go_sem, ↓reduceIte, reduceCtorEq, Nat.reduceAdd, Nat.reduceSub, Nat.reduceMul, Nat.reduceEqDiff, Nat.reduceLT, Nat.reduceLeDiff, eq_true c33, eq_true c34, natOf_le hx35a, hx35b, eq_true c46]
      subst hK
      by_cases c47 : s4_1 < 300
      ·rw [if_pos c47] at h
       refine AW.ifT rfl c47 ?_
       refine AW.skip ?_
       refine thenA_n ?_
       refine AW.seq ?_
       refine AW.block ?_
       obtain ⟨x48, hx48, h⟩ := Option.bind_eq_some_iff.1 h
       obtain ⟨hx48a, hx48b⟩ := ix_some.1 hx48
       refine AW.regionL [0, 3, 4, 5] ?_
       generalize hK : inBlockA _ _ Exit.normal = K
       simp only [go_sem, ↓reduceIte, reduceCtorEq, Nat.reduceAdd, Nat.reduceSub, Nat.reduceMul, Nat.reduceEqDiff, Nat.reduceLT, Nat.reduceLeDiff, eq_true c33, eq_true c34, eq_true c46, eq_true c47, natOf_le hx35a, hx35b, natOf_le hx48a, hx48b]
       subst hK
       refine block_n ?_
       refine thenA_n ?_
       refine AW.regionL [0, 3, 4, 5] ?_
       generalize hK : thenA _ _ Exit.normal = K
       simp only [go_sem, ↓reduceIte, reduceCtorEq, Nat.reduceAdd, Nat.reduceSub, Nat.reduceMul, Nat.reduceEqDiff, Nat.reduceLT, Nat.reduceLeDiff, eq_true c33, eq_true c34, eq_true c46, eq_true c47]
       subst hK
       refine thenA_n ?_
       refine ⟨_, (Option.some.inj h).symm, ?_⟩
       refine Ent.can [] _ _ _ rfl (by first | decide | simp) rfl ?_ ?_ ?_
       · exact ((((RF.any.pv (by first | rfl | simp only [go_sem]) (by first | rfl | simp [upd_ap, hpL_ap, tau, mapT, mapTL, bytesI_len, eq_true c33, eq_true c34, eq_true c46, eq_true c47])).pv (by first | rfl | simp only [go_sem]) (by first | rfl | simp [upd_ap, hpL_ap, tau, mapT, mapTL, bytesI_len, eq_true c33, eq_true c34, eq_true c46, eq_true c47])).pv (by first | rfl | simp only [go_sem]) (by first | rfl | simp [upd_ap, hpL_ap, tau, mapT, mapTL, bytesI_len, eq_true c33, eq_true c34, eq_true c46, eq_true c47])).pv (by first | rfl | simp only [go_sem]) (by first | rfl | simp [upd_ap, hpL_ap, tau, mapT, mapTL, bytesI_len, eq_true c33, eq_true c34, eq_true c46, eq_true c47]))
       · exact .nil _
       · exact .nil _
      ·rw [if_neg c47] at h
       refine AW.ifF rfl c47 ?_
       refine AW.exit ?_
       refine thenA_x ?_
       refine thenA_x ?_
       refine ⟨_, (Option.some.inj h).symm, _, ?_, rfl, rfl⟩
       refine Ent.can [] _ _ _ rfl (by first | decide | simp) rfl ?_ ?_ ?_
       · exact (((RF.any.pv (by first | rfl | simp only [go_sem]) (by first | rfl | simp [upd_ap, hpL_ap, tau, mapT, mapTL, bytesI_len, eq_true c33, eq_true c34, eq_true c46, eq_false c47])).pv (by first | rfl | simp only [go_sem]) (by first | rfl | simp [upd_ap, hpL_ap, tau, mapT, mapTL, bytesI_len, eq_true c33, eq_true c34, eq_true c46, eq_false c47])).pv (by first | rfl | simp only [go_sem]) (by first | rfl | simp [upd_ap, hpL_ap, tau, mapT, mapTL, bytesI_len, eq_true c33, eq_true c34, eq_true c46, eq_false c47]))
       · exact .nil _
       · exact .nil _
     ·rw [if_neg c46] at h
      refine AW.regL [0, 3, 4, 5, 51] ?_
      generalize hK : AW Try.prog _ _ _ = K
      simp only [go_sem, ↓reduceIte, reduceCtorEq, Nat.reduceAdd, Nat.reduceSub, Nat.reduceMul, Nat.reduceEqDiff, Nat.reduceLT, Nat.reduceLeDiff, eq_true c33, eq_true c34, natOf_le hx35a, hx35b, eq_false c46]
      subst hK
      refine AW.ifBF rfl rfl ?_
      refine AW.exit ?_
      refine thenA_x ?_
      refine thenA_x ?_
      refine ⟨_, (Option.some.inj h).symm, _, ?_, rfl, rfl⟩
      refine Ent.can [] _ _ _ rfl (by first | decide | simp) rfl ?_ ?_ ?_
      · exact (((RF.any.pv (by first | rfl | simp only [go_sem]) (by first | rfl | simp [upd_ap, hpL_ap, tau, mapT, mapTL, bytesI_len, eq_true c33, eq_true c34, eq_false c46])).pv (by first | rfl | simp only [go_sem]) (by first | rfl | simp [upd_ap, hpL_ap, tau, mapT, mapTL, bytesI_len, eq_true c33, eq_true c34, eq_false c46])).pv (by first | rfl | simp only [go_sem]) (by first | rfl | simp [upd_ap, hpL_ap, tau, mapT, mapTL, bytesI_len, eq_true c33, eq_true c34, eq_false c46]))
      · exact .nil _
      · exact .nil _
    ·intro e st' hX
     try dsimp only at h
     try dsimp only at hX
     obtain ⟨rfl, rfl⟩ := hX
     refine ⟨_, Ent.refl, ?_⟩
     refine block_x ?_
     refine thenA_n ?_
     refine AW.regL [0, 3, 4, 68] ?_
     generalize hK : AW Try.prog _ _ _ = K
     simp only [go_sem, ↓reduceIte, reduceCtorEq, Nat.reduceAdd, Nat.reduceSub, Nat.reduceMul, Nat.reduceEqDiff, Nat.reduceLT, Nat.reduceLeDiff, eq_true c33, eq_true c34]
     subst hK
     by_cases c51 : 1500 < y50
     ·rw [if_pos c51] at h
      refine AW.ifT rfl c51 ?_
      refine AW.regL [2] ?_
      generalize hK : AW Try.prog _ _ _ = K
      simp only [go_sem, ↓reduceIte, reduceCtorEq, Nat.reduceAdd, Nat.reduceSub, Nat.reduceMul, Nat.reduceEqDiff, Nat.reduceLT, Nat.reduceLeDiff, eq_true c33, eq_true c34, eq_true c51]
      subst hK
      refine AW.ret ?_
      refine block_r ?_
      refine thenA_r ?_
      refine thenA_r ?_
      refine ⟨_, (Option.some.inj h).symm, _, Ent.refl, rfl, ?_⟩
      (simp only [go_sem, ↓reduceIte, reduceCtorEq, Nat.reduceAdd, Nat.reduceSub, Nat.reduceMul, Nat.reduceEqDiff, Nat.reduceLT, Nat.reduceLeDiff, eq_true c33, eq_true c34, eq_true c51, finA] <;> try simp)
     ·rw [if_neg c51] at h
      refine AW.ifF rfl c51 ?_
      refine AW.skip ?_
      refine block_n ?_
      refine thenA_n ?_
      refine AW.regionL [0, 3, 4] ?_
      generalize hK : thenA _ _ Exit.normal = K
      simp only [go_sem, ↓reduceIte, reduceCtorEq, Nat.reduceAdd, Nat.reduceSub, Nat.reduceMul, Nat.reduceEqDiff, Nat.reduceLT, Nat.reduceLeDiff, eq_true c33, eq_true c34, eq_false c51]
      subst hK
      refine thenA_n ?_
      refine ⟨_, (Option.some.inj h).symm, ?_⟩
      refine Ent.can [] _ _ _ rfl (by first | decide | simp) rfl ?_ ?_ ?_
      · exact (((RF.any.pv (by first | rfl | simp only [go_sem]) (by first | rfl | simp [upd_ap, hpL_ap, tau, mapT, mapTL, bytesI_len, eq_true c33, eq_true c34, eq_false c51])).pv (by first | rfl | simp only [go_sem]) (by first | rfl | simp [upd_ap, hpL_ap, tau, mapT, mapTL, bytesI_len, eq_true c33, eq_true c34, eq_false c51])).pv (by first | rfl | simp only [go_sem]) (by first | rfl | simp [upd_ap, hpL_ap, tau, mapT, mapTL, bytesI_len, eq_true c33, eq_true c34, eq_false c51]))
      · exact .nil _
      · exact .nil _
   ·rw [if_neg c34] at h
    refine AW.ifF rfl c34 ?_
    refine AW.exit ?_
    refine thenA_x ?_
    refine thenA_x ?_
    refine ⟨_, (Option.some.inj h).symm, _, ?_, rfl, rfl⟩
    refine Ent.can [] _ _ _ rfl (by first | decide | simp) rfl ?_ ?_ ?_
    · exact (RF.any.pv (by first | rfl | simp only [go_sem]) (by first | rfl | simp [upd_ap, hpL_ap, tau, mapT, mapTL, bytesI_len, eq_true c33, eq_false c34]))
    · exact .nil _
    · exact .nil _
  ·rw [if_neg c33] at h
   refine AW.regL [0, 3, 4, 13] ?_
   generalize hK : AW Try.prog _ _ _ = K
   simp only [go_sem, ↓reduceIte, reduceCtorEq, Nat.reduceAdd, Nat.reduceSub, Nat.reduceMul, Nat.reduceEqDiff, Nat.reduceLT, Nat.reduceLeDiff, eq_false c33]
   subst hK
   refine AW.ifBF rfl rfl ?_
   refine AW.exit ?_
   refine thenA_x ?_
   refine thenA_x ?_
   refine ⟨_, (Option.some.inj h).symm, _, ?_, rfl, rfl⟩
   refine Ent.can [] _ _ _ rfl (by first | decide | simp) rfl ?_ ?_ ?_
   · exact (RF.any.pv (by first | rfl | simp only [go_sem]) (by first | rfl | simp [upd_ap, hpL_ap, tau, mapT, mapTL, bytesI_len, eq_false c33]))
   · exact .nil _
   · exact .nil _
 ·intro e st' hX
  rcases y52 with y53 | _ <;> dsimp only at h hX
  ·obtain ⟨rfl, hf⟩ := hX
   refine ⟨_, Ent.refl, ?_⟩
   refine block_r ?_
   refine thenA_r ?_
   obtain rfl := Option.some.inj h
   exact hf
  ·obtain ⟨rfl, rfl⟩ := hX
   refine ⟨_, Ent.refl, ?_⟩
   refine block_x ?_
   refine thenA_n ?_
   refine AW.regL [2] ?_
   generalize hK : AW Try.prog _ _ _ = K
   simp only [go_sem, ↓reduceIte, reduceCtorEq, Nat.reduceAdd, Nat.reduceSub, Nat.reduceMul, Nat.reduceEqDiff, Nat.reduceLT, Nat.reduceLeDiff]
   subst hK
   refine AW.ret ?_
   obtain rfl := Option.some.inj h
   (simp only [go_sem, ↓reduceIte, reduceCtorEq, Nat.reduceAdd, Nat.reduceSub, Nat.reduceMul, Nat.reduceEqDiff, Nat.reduceLT, Nat.reduceLeDiff, finA] <;> try simp)
end Au
end Go.Proofs.Y5
