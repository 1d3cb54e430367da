import Derived.Test.YtbdncmljibideaaGreatDoorGnUaf
import Derived.Test.YtbdncmljibideaaGreatDoorGnUaj
import Derived.Test.YtbdncmljibideaaGreatDoorGnUag
import Derived.Test.YtbdncmljibideaaGreatDoorGnUah
set_option linter.all false
set_option linter.unusedVariables false
set_option linter.unusedSimpArgs false
set_option linter.all false
set_option maxRecDepth 8000
set_option maxHeartbeats 1000000
namespace Go.Proofs.Yt
open Go.Gm
namespace Au
noncomputable def f47_s1 (a0 : List Res) (a1 : Int) : (List ByteArray) × Int → Option (((List ByteArray) × Int) ⊕ (List ByteArray))
  | (s1_0, s1_1) => (if s1_1 < (a0.length : Int) then ((ix a0 s1_1).bind fun x17 => ((f77 x17.Offs a1).bind fun x18 => (if x18 = true then ((appO? s1_0 [x17.Key]).bind fun x20 => some (.inl (x20, IntKind.i64.wrap (s1_1 + 1)))) else some (.inl (s1_0, IntKind.i64.wrap (s1_1 + 1)))))) else some (.inr s1_0))
noncomputable def f47 (a0 : List Res) (a1 : Int) : Option (List ByteArray) := ((loopO (f47_s1 a0 a1) ([], 0)).bind fun y22 => some y22)
theorem ok47 (a0 : List Res) (a1 : Int) (r : (List ByteArray)) (h : f47 a0 a1 = some r) : PC Tryz.prog 47 [.sl (List.map encRes a0), .val (.int .i64 a1)] (.fr 1 (List.map enc9 r)) := by
 rw [f47] at h
 refine pc_of8 (N := 25) (rs := [.tmp 4]) Tryz.func47 rfl rfl rfl (Nat.le_of_ble_eq_true rfl) ?_
 refine AW.rX [0, 1] ?_
 refine AW.rX [0, 1, 5] ?_
 refine AW.seq ?_
 refine AW.rX [1, 5, 8, 9, 10] ?_
 refine AW.block ?_
 obtain ⟨y22, hy22, h⟩ := Option.bind_eq_some_iff.1 h
 refine AW.loopO (fun s => ⟨(upd (upd (upd (upd (upd anyF 1 (.val (.int .i64 a1))) 5 (.own 8 0 s.1.length)) 8 (.sl (List.map encRes a0))) 9 (.val (.int .i64 (a0.length : Int)))) 10 (.val (.int .i64 s.2))), hpL [] [some (.row 1 true (List.map enc9 s.1))], 9⟩) (fun z e st' => e = Exit.exit 0 ∧ st' = ⟨(upd anyF 5 (.own 8 0 z.length)), hpL [] [some (.row 1 true (List.map enc9 z))], 9⟩) hy22 ?_ ?_ ?_
 ·refine Ent.trans (Ent.nilOwn 5 1 (by decide) rfl) ?_
  exact Ent.canq [48] RF.any.qv.qo.qv.qv.qv (.nil _) (.ce (.nil _))
 ·clear h hy22
  rintro ⟨s1_0, s1_1⟩ x h
  rw [f47_s1] at h
  refine AW.rX [1, 5, 8, 9, 10, 11] ?_
  refine AW.seq ?_
  by_cases c16 : s1_1 < (a0.length : Int)
  ·rw [if_pos c16] at h
   refine AW.ifT rfl c16 ?_
   refine AW.skip ?_
   refine thenA_n ?_
   refine AW.seq ?_
   refine AW.block ?_
   obtain ⟨x17, hx17, h⟩ := Option.bind_eq_some_iff.1 h
   obtain ⟨hx17a, hx17b⟩ := ix_some.1 hx17
   refine AW.regL [1, 5, 7, 8, 9, 10] ?_
   generalize hK : AW Tryz.prog _ _ _ = K
   simp only [go_sem, ↓reduceIte, reduceCtorEq, Nat.reduceAdd, Nat.reduceSub, Nat.reduceMul, Nat.reduceEqDiff, Nat.reduceLT, Nat.reduceLeDiff, eq_true c16, natOf_le hx17a, hx17b]
   subst hK
   obtain ⟨x18, hx18, h⟩ := Option.bind_eq_some_iff.1 h
   refine AW.regL [1, 5, 7, 8, 9, 10, 17] ?_
   generalize hK : AW Tryz.prog _ _ _ = K
   simp only [go_sem, ↓reduceIte, reduceCtorEq, Nat.reduceAdd, Nat.reduceSub, Nat.reduceMul, Nat.reduceEqDiff, Nat.reduceLT, Nat.reduceLeDiff, eq_true c16]
   refine arC.of (ok77 x17.Offs a1 x18 hx18) Tryz.call77 ?_
   simp only [go_sem, ↓reduceIte, reduceCtorEq, Nat.reduceAdd, Nat.reduceSub, Nat.reduceMul, Nat.reduceEqDiff, Nat.reduceLT, Nat.reduceLeDiff, eq_true c16]
   subst hK
   by_cases c19 : x18 = true
   ·rw [if_pos c19] at h
    refine AW.ifBT rfl c19 ?_
    obtain ⟨x20, hx20, h⟩ := Option.bind_eq_some_iff.1 h
    obtain ⟨hx20b, hx20e⟩ := appO?_some.1 hx20
    have hx20f : ∀ id o : Nat, appO 1 16 id ([[.val (.string x17.Key)]]) 0 s1_0.length o (some (.row 1 true (List.map enc9 s1_0))) = some ⟨.own id 0 x20.length, [(o, none), (id, some (.row 1 true (List.map enc9 x20)))]⟩ := fun id o => by
      subst hx20e; rw [appO_ok (by simp) (by simpa using hx20b) (by decide)]; first | (simp [enc9]; done) | (simp [enc9]; omega)
    refine AW.regionL [1, 5, 8, 9, 10] ?_
    generalize hK : inBlockA _ _ Exit.normal = K
    simp only [go_sem, ↓reduceIte, reduceCtorEq, Nat.reduceAdd, Nat.reduceSub, Nat.reduceMul, Nat.reduceEqDiff, Nat.reduceLT, Nat.reduceLeDiff, eq_true c16, c19, hx20f]
    subst hK
    refine block_n ?_
    refine thenA_n ?_
    refine AW.regionL [1, 5, 8, 9, 10] ?_
    generalize hK : thenA _ _ Exit.normal = K
    simp only [go_sem, ↓reduceIte, reduceCtorEq, Nat.reduceAdd, Nat.reduceSub, Nat.reduceMul, Nat.reduceEqDiff, Nat.reduceLT, Nat.reduceLeDiff, eq_true c16, c19]
    subst hK
    refine thenA_n ?_
    refine ⟨_, (Option.some.inj h).symm, ?_⟩
    exact Ent.canq [113] RF.any.qv.qo.qv.qv.qv (.nil _) (.ce (.nil _))
   ·rw [if_neg c19] at h
    rw [Bool.not_eq_true] at c19
    refine AW.ifBF rfl c19 ?_
    refine AW.skip ?_
    refine block_n ?_
    refine thenA_n ?_
    refine AW.regionL [1, 5, 8, 9, 10] ?_
    generalize hK : thenA _ _ Exit.normal = K
    simp only [go_sem, ↓reduceIte, reduceCtorEq, Nat.reduceAdd, Nat.reduceSub, Nat.reduceMul, Nat.reduceEqDiff, Nat.reduceLT, Nat.reduceLeDiff, eq_true c16, c19]
    subst hK
    refine thenA_n ?_
    refine ⟨_, (Option.some.inj h).symm, ?_⟩
    exact Ent.canq [8] RF.any.qv.qo.qv.qv.qv (.nil _) (.ce (.nil _))
  ·rw [if_neg c16] at h
   refine AW.ifF rfl c16 ?_
   refine AW.exit ?_
   refine thenA_x ?_
   refine thenA_x ?_
   refine ⟨_, (Option.some.inj h).symm, _, ?_, rfl, rfl⟩
   exact Ent.canq [8] RF.any.qo (.nil _) (.ce (.nil _))
 ·intro e st' hX
  try dsimp only at h
  try dsimp only at hX
  obtain ⟨rfl, rfl⟩ := hX
  refine ⟨_, Ent.refl, ?_⟩
  refine block_x ?_
  refine thenA_n ?_
  refine AW.rX [4] ?_
  refine AW.ret ?_
  obtain rfl := Option.some.inj h
  (simp only [go_sem, ↓reduceIte, reduceCtorEq, Nat.reduceAdd, Nat.reduceSub, Nat.reduceMul, Nat.reduceEqDiff, Nat.reduceLT, Nat.reduceLeDiff, finA] <;> try simp)
end Au
end Go.Proofs.Yt

set_option linter.all false
set_option maxRecDepth 8000
set_option maxHeartbeats 1000000
namespace Go.Proofs.Yt
open Go.Gm
namespace Au
noncomputable def f19 (a0 : Trace) (a1 : Int) : Option ((List ByteArray) × Er × Trace) := (if a1 ∈ a0.offs then ((f47 a0.l a1).bind fun x2 => some (x2, Er.nil, a0)) else ((f44 320).bind fun x3 => some ([], x3, a0)))
theorem ok19 (a0 : Trace) (a1 : Int) (r : (List ByteArray) × Er × Trace) (h : f19 a0 a1 = some r) : IC Tryz.prog 19 [some (.row 2 true [[.sl (List.map encRes a0.l), .im (List.map encM a0.offs)]])] [.ptr 0 0 0, .val (.int .i64 a1)] (.tup [.own 8 0 r.1.length, .val (erV r.2.1)]) [some (.row 2 true [[.sl (List.map encRes r.2.2.l), .im (List.map encM r.2.2.offs)]])] [some (.row 1 true (List.map enc9 r.1))] := by
 rw [f19] at h
 refine ic_of (N := 23) (rs := [.tmp 4, .tmp 5]) Tryz.func19 rfl rfl rfl (Nat.le_of_ble_eq_true rfl) ?_
 refine AW.rX [0, 1] ?_
 refine AW.seq ?_
 refine AW.rX [0, 1, 7] ?_
 refine AW.ifBF rfl rfl ?_
 refine AW.skip ?_
 refine thenA_n ?_
 refine AW.seq ?_
 refine AW.regL [0, 1, 15] ?_
 generalize hK : AW Tryz.prog _ _ _ = K
 simp only [go_sem, ↓reduceIte, reduceCtorEq, Nat.reduceAdd, Nat.reduceSub, Nat.reduceMul, Nat.reduceEqDiff, Nat.reduceLT, Nat.reduceLeDiff, look_encM mi75]
 subst hK
 by_cases c1 : a1 ∈ a0.offs
 ·rw [if_pos c1] at h
  refine AW.ifNF rfl c1 ?_
  refine AW.skip ?_
  refine thenA_n ?_
  obtain ⟨x2, hx2, h⟩ := Option.bind_eq_some_iff.1 h
  refine AW.regL [4, 5] ?_
  generalize hK : AW Tryz.prog _ _ _ = K
  simp only [go_sem, ↓reduceIte, reduceCtorEq, Nat.reduceAdd, Nat.reduceSub, Nat.reduceMul, Nat.reduceEqDiff, Nat.reduceLT, Nat.reduceLeDiff, eq_true c1]
  refine arC.of (ok47 a0.l a1 x2 hx2) Tryz.call47 ?_
  simp only [go_sem, ↓reduceIte, reduceCtorEq, Nat.reduceAdd, Nat.reduceSub, Nat.reduceMul, Nat.reduceEqDiff, Nat.reduceLT, Nat.reduceLeDiff, eq_true c1]
  subst hK
  refine AW.ent (st' := ⟨(upd (upd anyF 4 (.own 8 0 x2.length)) 5 (.val (.nilIface))), hpL [some (.row 2 true [[.sl (List.map encRes a0.l), .im (List.map encM a0.offs)]])] [some (.row 1 true (List.map enc9 x2))], 9⟩) ?_ ?_
  · refine Ent.can [136] _ _ _ rfl (by first | decide | simp) rfl ?_ ?_ ?_
    · exact RF.any.qo.qv
    · exact .ce (.nil _)
    · exact .ce (.nil _)
  refine AW.ret ?_
  obtain rfl := Option.some.inj h
  exact ⟨rfl, rfl, _, rfl, by first | rfl | simp [resOf, upd_ap, bytesI_len]⟩
 ·rw [if_neg c1] at h
  refine AW.ifNT rfl c1 ?_
  obtain ⟨x3, hx3, h⟩ := Option.bind_eq_some_iff.1 h
  refine AW.regL [4, 5] ?_
  generalize hK : AW Tryz.prog _ _ _ = K
  simp only [go_sem, ↓reduceIte, reduceCtorEq, Nat.reduceAdd, Nat.reduceSub, Nat.reduceMul, Nat.reduceEqDiff, Nat.reduceLT, Nat.reduceLeDiff, eq_false c1]
  refine arC.of (ok44 320 x3 hx3) Tryz.call44 ?_
  simp only [go_sem, ↓reduceIte, reduceCtorEq, Nat.reduceAdd, Nat.reduceSub, Nat.reduceMul, Nat.reduceEqDiff, Nat.reduceLT, Nat.reduceLeDiff, eq_false c1]
  subst hK
  refine AW.ent (Ent.nilOwn 4 1 (by decide) rfl) ?_
  refine AW.ent (st' := ⟨(upd (upd anyF 4 (.own 8 0 0)) 5 (.val (erV x3))), hpL [some (.row 2 true [[.sl (List.map encRes a0.l), .im (List.map encM a0.offs)]])] [some (.row 1 true [])], 9⟩) ?_ ?_
  · refine Ent.can [120] _ _ _ rfl (by first | decide | simp) rfl ?_ ?_ ?_
    · exact RF.any.qo.qv
    · exact .ce (.nil _)
    · exact .ce (.nil _)
  refine AW.ret ?_
  refine thenA_r ?_
  obtain rfl := Option.some.inj h
  exact ⟨rfl, rfl, _, rfl, by first | rfl | simp [resOf, upd_ap, bytesI_len]⟩
end Au
end Go.Proofs.Yt

set_option linter.all false
set_option maxRecDepth 8000
set_option maxHeartbeats 1000000
namespace Go.Proofs.Yt
open Go.Gm
namespace Au
noncomputable def f21_s1 (a0 : List Int) (a1 : List Int) : Int → Option (Int ⊕ (Bool ⊕ Unit))
  | s1_0 => (if s1_0 < (a0.length : Int) then ((ix a0 s1_0).bind fun x15 => ((ix a1 s1_0).bind fun x16 => (if x15 = x16 then some (.inl (IntKind.i64.wrap (s1_0 + 1))) else some (.inr (.inl false))))) else some (.inr (.inr ())))
noncomputable def f21 (a0 : List Int) (a1 : List Int) : Option Bool := (if (a0.length : Int) = (a1.length : Int) then ((loopO (f21_s1 a0 a1) 0).bind fun y18 => match y18 with | .inl y19 => some y19 | .inr _ => some true) else some false)
theorem ok21 (a0 : List Int) (a1 : List Int) (r : Bool) (h : f21 a0 a1 = some r) : PC Tryz.prog 21 [.sl (List.map enc3 a0), .sl (List.map enc3 a1)] (.val (.bool r)) := by
 rw [f21] at h
 refine pc_of8 (N := 26) (rs := [.tmp 4]) Tryz.func21 rfl rfl rfl (Nat.le_of_ble_eq_true rfl) ?_
 refine AW.rX [0, 1] ?_
 refine AW.seq ?_
 refine AW.rX [0, 1, 10] ?_
 by_cases c2 : (a0.length : Int) = (a1.length : Int)
 ·rw [if_pos c2] at h
  refine AW.ifF rfl (fun q => q c2) ?_
  refine AW.skip ?_
  refine thenA_n ?_
  refine AW.seq ?_
  refine AW.rX [0, 1, 5] ?_
  refine AW.block ?_
  obtain ⟨y18, hy18, h⟩ := Option.bind_eq_some_iff.1 h
  refine AW.loopO (fun s => ⟨(upd (upd (upd anyF 0 (.sl (List.map enc3 a0))) 1 (.sl (List.map enc3 a1))) 5 (.val (.int .i64 s))), hpL [] [], 8⟩) (fun y e st' => match y with | .inl z => e = Exit.ret ∧ finA Tryz.prog [.tmp 4] (.val (.bool z)) .ret st' | .inr z => e = Exit.exit 0 ∧ st' = ⟨anyF, hpL [] [], 8⟩) hy18 ?_ ?_ ?_
  ·exact Ent.canq [] RF.any.qv.qv.qv (.nil _) (.nil _)
  ·clear h hy18
   rintro s1_0 x h
   rw [f21_s1] at h
   refine AW.seq ?_
   refine AW.rX [0, 1, 5, 14] ?_
   by_cases c14 : s1_0 < (a0.length : Int)
   ·rw [if_pos c14] at h
    refine AW.ifT rfl c14 ?_
    refine AW.skip ?_
    refine thenA_n ?_
    refine AW.seq ?_
    refine AW.block ?_
    obtain ⟨x15, hx15, h⟩ := Option.bind_eq_some_iff.1 h
    obtain ⟨hx15a, hx15b⟩ := ix_some.1 hx15
    obtain ⟨x16, hx16, h⟩ := Option.bind_eq_some_iff.1 h
    obtain ⟨hx16a, hx16b⟩ := ix_some.1 hx16
    refine AW.regdL [0, 1, 5, 25] [[], [], [0, 1], [0, 1, 2], [], [], [4, 5], [4, 5, 6], [0, 1, 2, 3, 4, 5, 6, 7]] [0, 1, 2, 3, 4, 5, 6, 7, 8] noFt (fun _ _ _ h => by simp [noFt] at h) draws (by kernel_rfl) (by kernel_rfl) ?_
    generalize hK : AW Tryz.prog _ _ _ = K
    simp only [go_sem, ↓reduceIte, reduceCtorEq, Nat.reduceAdd, Nat.reduceSub, Nat.reduceMul, Nat.reduceEqDiff, Nat.reduceLT, Nat.reduceLeDiff, eq_true c2, eq_true c14, natOf_le hx15a, hx15b, natOf_le hx16a, hx16b]
    subst hK
    by_cases c17 : x15 = x16
    ·rw [if_pos c17] at h
     refine AW.ifF rfl (fun q => q c17) ?_
     refine AW.skip ?_
     refine block_n ?_
     refine thenA_n ?_
     refine AW.rY [0, 1, 5] ?_
     refine thenA_n ?_
     refine ⟨_, (Option.some.inj h).symm, ?_⟩
     exact Ent.canq [] RF.any.qv.qv.qv (.nil _) (.nil _)
    ·rw [if_neg c17] at h
     refine AW.ifT rfl c17 ?_
     refine AW.rX [4] ?_
     refine AW.ret ?_
     refine block_r ?_
     refine thenA_r ?_
     refine thenA_r ?_
     refine ⟨_, (Option.some.inj h).symm, _, Ent.refl, rfl, ?_⟩
     (simp only [go_sem, ↓reduceIte, reduceCtorEq, Nat.reduceAdd, Nat.reduceSub, Nat.reduceMul, Nat.reduceEqDiff, Nat.reduceLT, Nat.reduceLeDiff, eq_true c2, eq_true c14, eq_false c17, finA] <;> try simp)
   ·rw [if_neg c14] at h
    refine AW.ifF rfl c14 ?_
    refine AW.exit ?_
    refine thenA_x ?_
    refine thenA_x ?_
    refine ⟨_, (Option.some.inj h).symm, _, ?_, rfl, rfl⟩
    exact Ent.canq [] RF.any (.nil _) (.nil _)
  ·intro e st' hX
   rcases y18 with y19 | _ <;> dsimp only at h hX
   ·obtain ⟨rfl, hf⟩ := hX
    refine ⟨_, Ent.refl, ?_⟩
    refine block_r ?_
    refine thenA_r ?_
    obtain rfl := Option.some.inj h
    exact hf
   ·obtain ⟨rfl, rfl⟩ := hX
    refine ⟨_, Ent.refl, ?_⟩
    refine block_x ?_
    refine thenA_n ?_
    refine AW.rX [4] ?_
    refine AW.ret ?_
    obtain rfl := Option.some.inj h
    (simp only [go_sem, ↓reduceIte, reduceCtorEq, Nat.reduceAdd, Nat.reduceSub, Nat.reduceMul, Nat.reduceEqDiff, Nat.reduceLT, Nat.reduceLeDiff, eq_true c2, finA] <;> try simp)
 ·rw [if_neg c2] at h
  refine AW.ifT rfl c2 ?_
  refine AW.rX [4] ?_
  refine AW.ret ?_
  refine thenA_r ?_
  obtain rfl := Option.some.inj h
  (simp only [go_sem, ↓reduceIte, reduceCtorEq, Nat.reduceAdd, Nat.reduceSub, Nat.reduceMul, Nat.reduceEqDiff, Nat.reduceLT, Nat.reduceLeDiff, eq_false c2, finA] <;> try simp)
end Au
end Go.Proofs.Yt

set_option linter.all false
set_option maxRecDepth 8000
set_option maxHeartbeats 1000000
namespace Go.Proofs.Yt
open Go.Gm
namespace Au
noncomputable def f22_s1 (a0 : List ByteArray) (a1 : List ByteArray) : Int → Option (Int ⊕ (Bool ⊕ Unit))
  | s1_0 => (if s1_0 < (a0.length : Int) then ((ix a0 s1_0).bind fun x15 => ((ix a1 s1_0).bind fun x16 => (if x15 = x16 then some (.inl (IntKind.i64.wrap (s1_0 + 1))) else some (.inr (.inl false))))) else some (.inr (.inr ())))
noncomputable def f22 (a0 : List ByteArray) (a1 : List ByteArray) : Option Bool := (if (a0.length : Int) = (a1.length : Int) then ((loopO (f22_s1 a0 a1) 0).bind fun y18 => match y18 with | .inl y19 => some y19 | .inr _ => some true) else some false)
theorem ok22 (a0 : List ByteArray) (a1 : List ByteArray) (r : Bool) (h : f22 a0 a1 = some r) : PC Tryz.prog 22 [.sl (List.map enc9 a0), .sl (List.map enc9 a1)] (.val (.bool r)) := by
 rw [f22] at h
 refine pc_of8 (N := 26) (rs := [.tmp 4]) Tryz.func22 rfl rfl rfl (Nat.le_of_ble_eq_true rfl) ?_
 refine AW.rX [0, 1] ?_
 refine AW.seq ?_
 refine AW.rX [0, 1, 10] ?_
 by_cases c2 : (a0.length : Int) = (a1.length : Int)
 ·rw [if_pos c2] at h
  refine AW.ifF rfl (fun q => q c2) ?_
  refine AW.skip ?_
  refine thenA_n ?_
  refine AW.seq ?_
  refine AW.rX [0, 1, 5] ?_
  refine AW.block ?_
  obtain ⟨y18, hy18, h⟩ := Option.bind_eq_some_iff.1 h
  refine AW.loopO (fun s => ⟨(upd (upd (upd anyF 0 (.sl (List.map enc9 a0))) 1 (.sl (List.map enc9 a1))) 5 (.val (.int .i64 s))), hpL [] [], 8⟩) (fun y e st' => match y with | .inl z => e = Exit.ret ∧ finA Tryz.prog [.tmp 4] (.val (.bool z)) .ret st' | .inr z => e = Exit.exit 0 ∧ st' = ⟨anyF, hpL [] [], 8⟩) hy18 ?_ ?_ ?_
  ·exact Ent.canq [] RF.any.qv.qv.qv (.nil _) (.nil _)
  ·clear h hy18
   rintro s1_0 x h
   rw [f22_s1] at h
   refine AW.seq ?_
   refine AW.rX [0, 1, 5, 14] ?_
   by_cases c14 : s1_0 < (a0.length : Int)
   ·rw [if_pos c14] at h
    refine AW.ifT rfl c14 ?_
    refine AW.skip ?_
    refine thenA_n ?_
    refine AW.seq ?_
    refine AW.block ?_
    obtain ⟨x15, hx15, h⟩ := Option.bind_eq_some_iff.1 h
    obtain ⟨hx15a, hx15b⟩ := ix_some.1 hx15
    obtain ⟨x16, hx16, h⟩ := Option.bind_eq_some_iff.1 h
    obtain ⟨hx16a, hx16b⟩ := ix_some.1 hx16
    refine AW.regdL [0, 1, 5, 25] [[], [], [0, 1], [0, 1, 2], [], [], [4, 5], [4, 5, 6], [0, 1, 2, 3, 4, 5, 6, 7]] [0, 1, 2, 3, 4, 5, 6, 7, 8] noFt (fun _ _ _ h => by simp [noFt] at h) draws (by kernel_rfl) (by kernel_rfl) ?_
    generalize hK : AW Tryz.prog _ _ _ = K
    simp only [go_sem, ↓reduceIte, reduceCtorEq, Nat.reduceAdd, Nat.reduceSub, Nat.reduceMul, Nat.reduceEqDiff, Nat.reduceLT, Nat.reduceLeDiff, eq_true c2, eq_true c14, natOf_le hx15a, hx15b, natOf_le hx16a, hx16b]
    subst hK
    by_cases c17 : x15 = x16
    ·rw [if_pos c17] at h
     refine AW.ifF rfl (fun q => q c17) ?_
     refine AW.skip ?_
     refine block_n ?_
     refine thenA_n ?_
     refine AW.rY [0, 1, 5] ?_
     refine thenA_n ?_
     refine ⟨_, (Option.some.inj h).symm, ?_⟩
     exact Ent.canq [] RF.any.qv.qv.qv (.nil _) (.nil _)
    ·rw [if_neg c17] at h
     refine AW.ifT rfl c17 ?_
     refine AW.rX [4] ?_
     refine AW.ret ?_
     refine block_r ?_
     refine thenA_r ?_
     refine thenA_r ?_
     refine ⟨_, (Option.some.inj h).symm, _, Ent.refl, rfl, ?_⟩
     (simp only [go_sem, ↓reduceIte, reduceCtorEq, Nat.reduceAdd, Nat.reduceSub, Nat.reduceMul, Nat.reduceEqDiff, Nat.reduceLT, Nat.reduceLeDiff, eq_true c2, eq_true c14, eq_false c17, finA] <;> try simp)
   ·rw [if_neg c14] at h
    refine AW.ifF rfl c14 ?_
    refine AW.exit ?_
    refine thenA_x ?_
    refine thenA_x ?_
    refine ⟨_, (Option.some.inj h).symm, _, ?_, rfl, rfl⟩
    exact Ent.canq [] RF.any (.nil _) (.nil _)
  ·intro e st' hX
   rcases y18 with y19 | _ <;> dsimp only at h hX
   ·obtain ⟨rfl, hf⟩ := hX
    refine ⟨_, Ent.refl, ?_⟩
    refine block_r ?_
    refine thenA_r ?_
    obtain rfl := Option.some.inj h
    exact hf
   ·obtain ⟨rfl, rfl⟩ := hX
    refine ⟨_, Ent.refl, ?_⟩
    refine block_x ?_
    refine thenA_n ?_
    refine AW.rX [4] ?_
    refine AW.ret ?_
    obtain rfl := Option.some.inj h
    (simp only [go_sem, ↓reduceIte, reduceCtorEq, Nat.reduceAdd, Nat.reduceSub, Nat.reduceMul, Nat.reduceEqDiff, Nat.reduceLT, Nat.reduceLeDiff, eq_true c2, finA] <;> try simp)
 ·rw [if_neg c2] at h
  refine AW.ifT rfl c2 ?_
  refine AW.rX [4] ?_
  refine AW.ret ?_
  refine thenA_r ?_
  obtain rfl := Option.some.inj h
  (simp only [go_sem, ↓reduceIte, reduceCtorEq, Nat.reduceAdd, Nat.reduceSub, Nat.reduceMul, Nat.reduceEqDiff, Nat.reduceLT, Nat.reduceLeDiff, eq_false c2, finA] <;> try simp)
end Au
end Go.Proofs.Yt

set_option linter.all false
set_option maxRecDepth 8000
set_option maxHeartbeats 1000000
namespace Go.Proofs.Yt
open Go.Gm
namespace Au
noncomputable def f92_s1 (a0 : List Res) : (List Pair) × Int → Option (((List Pair) × Int) ⊕ (List Pair))
  | (s1_0, s1_1) => (if s1_1 < (a0.length : Int) then ((ix a0 s1_1).bind fun x10 => ((appO? s1_0 [⟨x10.Key, x10.Val⟩]).bind fun x11 => some (.inl (x11, IntKind.i64.wrap (s1_1 + 1))))) else some (.inr s1_0))
noncomputable def f92 (a0 : List Res) : Option (List Pair) := ((loopO (f92_s1 a0) ([], 0)).bind fun y13 => some y13)
theorem ok92 (a0 : List Res) (r : (List Pair)) (h : f92 a0 = some r) : PC Tryz.prog 92 [.sl (List.map encRes a0)] (.fr 2 (List.map encPair r)) := by
 rw [f92] at h
 refine pc_of8 (N := 26) (rs := [.tmp 2]) Tryz.func92 rfl rfl rfl (Nat.le_of_ble_eq_true rfl) ?_
 refine AW.rX [0] ?_
 refine AW.rX [0, 3] ?_
 refine AW.seq ?_
 refine AW.rX [0, 3, 4] ?_
 refine AW.block ?_
 obtain ⟨y13, hy13, h⟩ := Option.bind_eq_some_iff.1 h
 refine AW.loopO (fun s => ⟨(upd (upd (upd anyF 0 (.sl (List.map encRes a0))) 3 (.own 8 0 s.1.length)) 4 (.val (.int .i64 s.2))), hpL [] [some (.row 2 true (List.map encPair s.1))], 9⟩) (fun z e st' => e = Exit.exit 0 ∧ st' = ⟨(upd anyF 3 (.own 8 0 z.length)), hpL [] [some (.row 2 true (List.map encPair z))], 9⟩) hy13 ?_ ?_ ?_
 ·refine Ent.trans (Ent.nilOwn 3 2 (by decide) rfl) ?_
  exact Ent.canq [32] RF.any.qv.qo.qv (.nil _) (.ce (.nil _))
 ·clear h hy13
  rintro ⟨s1_0, s1_1⟩ x h
  rw [f92_s1] at h
  refine AW.seq ?_
  refine AW.rX [0, 3, 4, 8] ?_
  by_cases c9 : s1_1 < (a0.length : Int)
  ·rw [if_pos c9] at h
   refine AW.ifT rfl c9 ?_
   refine AW.skip ?_
   refine thenA_n ?_
   refine AW.seq ?_
   refine AW.block ?_
   obtain ⟨x10, hx10, h⟩ := Option.bind_eq_some_iff.1 h
   obtain ⟨hx10a, hx10b⟩ := ix_some.1 hx10
   obtain ⟨x11, hx11, h⟩ := Option.bind_eq_some_iff.1 h
   obtain ⟨hx11b, hx11e⟩ := appO?_some.1 hx11
   have hx11f : ∀ id o : Nat, appO 2 32 id ([[.val (.string x10.Key), .val (.string x10.Val)]]) 0 s1_0.length o (some (.row 2 true (List.map encPair s1_0))) = some ⟨.own id 0 x11.length, [(o, none), (id, some (.row 2 true (List.map encPair x11)))]⟩ := fun id o => by
     subst hx11e; rw [appO_ok (by simp) (by simpa using hx11b) (by decide)]; first | (simp [encPair]; done) | (simp [encPair]; omega)
   refine AW.drawL [0, 3, 4] [[], [], [], [1, 2], [1, 2, 3], [1, 2, 3, 4], [], [], [6, 7], [6, 7, 8], [6, 7, 8, 9], [1, 2, 3, 4, 5, 6, 7, 8, 9, 10], [1, 2, 3, 4, 5, 6, 7, 8, 9, 10, 11], [0, 1, 2, 3, 4, 5, 6, 7, 8, 9, 10, 11, 12], [0, 1, 2, 3, 4, 5, 6, 7, 8, 9, 10, 11, 12, 13]] [0, 1, 2, 3, 4, 5, 6, 7, 8, 9, 10, 11, 12, 13, 14] noFt (fun _ _ _ h => by simp [noFt] at h) draws (by kernel_rfl) (by kernel_rfl) ?_
   generalize hK : inBlockA _ _ Exit.normal = K
   simp only [go_sem, ↓reduceIte, reduceCtorEq, Nat.reduceAdd, Nat.reduceSub, Nat.reduceMul, Nat.reduceEqDiff, Nat.reduceLT, Nat.reduceLeDiff, eq_true c9, natOf_le hx10a, hx10b, hx11f]
   subst hK
   refine block_n ?_
   refine thenA_n ?_
   refine AW.rY [0, 3, 4] ?_
   refine thenA_n ?_
   refine ⟨_, (Option.some.inj h).symm, ?_⟩
   exact Ent.canq [145] RF.any.qv.qo.qv (.nil _) (.ce (.nil _))
  ·rw [if_neg c9] at h
   refine AW.ifF rfl c9 ?_
   refine AW.exit ?_
   refine thenA_x ?_
   refine thenA_x ?_
   refine ⟨_, (Option.some.inj h).symm, _, ?_, rfl, rfl⟩
   exact Ent.canq [8] RF.any.qo (.nil _) (.ce (.nil _))
 ·intro e st' hX
  try dsimp only at h
  try dsimp only at hX
  obtain ⟨rfl, rfl⟩ := hX
  refine ⟨_, Ent.refl, ?_⟩
  refine block_x ?_
  refine thenA_n ?_
  refine AW.rX [2] ?_
  refine AW.ret ?_
  obtain rfl := Option.some.inj h
  (simp only [go_sem, ↓reduceIte, reduceCtorEq, Nat.reduceAdd, Nat.reduceSub, Nat.reduceMul, Nat.reduceEqDiff, Nat.reduceLT, Nat.reduceLeDiff, finA] <;> try simp)
end Au
end Go.Proofs.Yt

set_option linter.all false
set_option maxRecDepth 8000
set_option maxHeartbeats 1000000
namespace Go.Proofs.Yt
open Go.Gm
namespace Au
noncomputable def f88_s2 : Int × (List Int) × Int → Option ((Int × (List Int) × Int) ⊕ (List Int))
  | (s2_0, s2_1, s2_2) => (if 0 ≤ s2_2 then ((ix s2_1 s2_2).bind fun x21 => some (.inl (IntKind.u64.wrap (s2_0.tdiv 256), (s2_1.set s2_2.toNat (IntKind.u8.wrap (s2_0.tmod 256))), IntKind.i64.wrap (s2_2 - 1)))) else some (.inr s2_1))
noncomputable def f88_j1 (a0 : Int) (x1 : Int) : Int × Int → Option (List Int)
  | (j1_0, j1_1) => ((mkO j1_0 (0 : Int)).bind fun x4 => ((loopO f88_s2 (a0, x4, IntKind.i64.wrap (j1_0 - 1))).bind fun y23 => (if x1 = 9 then ((appO? [255] y23).bind fun x27 => some x27) else ((y23[0]?).bind fun x28 => some (y23.set 0 (IntKind.u8.wrap (IntKind.i64.wrap (j1_1 + (IntKind.i64.wrap x28)))))))))
noncomputable def f88 (a0 : Int) : Option (List Int) := ((f117 a0).bind fun x1 => ((f118 (IntKind.i64.wrap (9 - x1))).bind fun x2 => (if x1 = 9 then f88_j1 a0 x1 (8, 0) else f88_j1 a0 x1 (x1, (IntKind.i64.wrap (256 - (IntKind.i64.wrap x2)))))))
theorem ok88 (a0 : Int) (r : (List Int)) (h : f88 a0 = some r) : PC Tryz.prog 88 [.val (.int .u64 a0)] (.fr 1 (List.map enc5 r)) := by
 rw [f88] at h
 refine pc_of8 (N := 49) (rs := [.tmp 2]) Tryz.func88 rfl rfl rfl (Nat.le_of_ble_eq_true rfl) ?_
 refine AW.regL [0] ?_
 generalize hK : AW Tryz.prog _ _ _ = K
 simp only [go_sem, ↓reduceIte, reduceCtorEq, Nat.reduceAdd, Nat.reduceSub, Nat.reduceMul, Nat.reduceEqDiff, Nat.reduceLT, Nat.reduceLeDiff, Nat.reduceBEq, Int.reduceAdd, Int.reduceSub, Int.reduceLT, Int.reduceLE, Int.reduceEq, Int.reduceToNat]
 subst hK
 obtain ⟨x1, hx1, h⟩ := Option.bind_eq_some_iff.1 h
 refine AW.regL [0, 3] ?_
 generalize hK : AW Tryz.prog _ _ _ = K
 simp only [go_sem, ↓reduceIte, reduceCtorEq, Nat.reduceAdd, Nat.reduceSub, Nat.reduceMul, Nat.reduceEqDiff, Nat.reduceLT, Nat.reduceLeDiff, Nat.reduceBEq, Int.reduceAdd, Int.reduceSub, Int.reduceLT, Int.reduceLE, Int.reduceEq, Int.reduceToNat]
 refine arC.of (ok117 a0 x1 hx1) Tryz.call117 ?_
 simp only [go_sem, ↓reduceIte, reduceCtorEq, Nat.reduceAdd, Nat.reduceSub, Nat.reduceMul, Nat.reduceEqDiff, Nat.reduceLT, Nat.reduceLeDiff, Nat.reduceBEq, Int.reduceAdd, Int.reduceSub, Int.reduceLT, Int.reduceLE, Int.reduceEq, Int.reduceToNat]
 subst hK
 refine AW.regL [0, 3, 4] ?_
 generalize hK : AW Tryz.prog _ _ _ = K
 simp only [go_sem, ↓reduceIte, reduceCtorEq, Nat.reduceAdd, Nat.reduceSub, Nat.reduceMul, Nat.reduceEqDiff, Nat.reduceLT, Nat.reduceLeDiff, Nat.reduceBEq, Int.reduceAdd, Int.reduceSub, Int.reduceLT, Int.reduceLE, Int.reduceEq, Int.reduceToNat]
 subst hK
 obtain ⟨x2, hx2, h⟩ := Option.bind_eq_some_iff.1 h
 refine AW.regL [0, 3, 4, 5] ?_
 generalize hK : AW Tryz.prog _ _ _ = K
 simp only [go_sem, ↓reduceIte, reduceCtorEq, Nat.reduceAdd, Nat.reduceSub, Nat.reduceMul, Nat.reduceEqDiff, Nat.reduceLT, Nat.reduceLeDiff, Nat.reduceBEq, Int.reduceAdd, Int.reduceSub, Int.reduceLT, Int.reduceLE, Int.reduceEq, Int.reduceToNat]
 refine arC.of (ok118 (IntKind.i64.wrap (9 - x1)) x2 hx2) Tryz.call118 ?_
 simp only [go_sem, ↓reduceIte, reduceCtorEq, Nat.reduceAdd, Nat.reduceSub, Nat.reduceMul, Nat.reduceEqDiff, Nat.reduceLT, Nat.reduceLeDiff, Nat.reduceBEq, Int.reduceAdd, Int.reduceSub, Int.reduceLT, Int.reduceLE, Int.reduceEq, Int.reduceToNat]
 subst hK
 refine AW.join (fun s => ⟨(upd (upd (upd (upd anyF 0 (.val (.int .u64 a0))) 3 (.val (.int .i64 x1))) 4 (.val (.int .i64 s.1))) 5 (.val (.int .i64 s.2))), hpL [] [], 8⟩) (fun s => f88_j1 a0 x1 s = some r) ?_ ?_
 ·refine AW.regL [0, 3, 4, 5, 17] ?_
  generalize hK : AW Tryz.prog _ _ _ = K
  simp only [go_sem, ↓reduceIte, reduceCtorEq, Nat.reduceAdd, Nat.reduceSub, Nat.reduceMul, Nat.reduceEqDiff, Nat.reduceLT, Nat.reduceLeDiff, Nat.reduceBEq, Int.reduceAdd, Int.reduceSub, Int.reduceLT, Int.reduceLE, Int.reduceEq, Int.reduceToNat]
  subst hK
  by_cases c29 : x1 = 9
  ·rw [if_pos c29] at h
   refine AW.ifT rfl c29 ?_
   refine AW.regionL [0, 3, 4, 5] ?_
   generalize hK : thenA _ _ Exit.normal = K
   simp only [go_sem, ↓reduceIte, reduceCtorEq, Nat.reduceAdd, Nat.reduceSub, Nat.reduceMul, Nat.reduceEqDiff, Nat.reduceLT, Nat.reduceLeDiff, Nat.reduceBEq, Int.reduceAdd, Int.reduceSub, Int.reduceLT, Int.reduceLE, Int.reduceEq, Int.reduceToNat, eq_true c29]
   subst hK
   refine thenA_n ?_
   refine ⟨_, h, ?_⟩
   exact Ent.canq [] RF.any.qv.qv.qv.qv (.nil _) (.nil _)
  ·rw [if_neg c29] at h
   refine AW.ifF rfl c29 ?_
   refine AW.skip ?_
   refine thenA_n ?_
   refine ⟨_, h, ?_⟩
   exact Ent.canq [] RF.any.qv.qv.qv.qv (.nil _) (.nil _)
 ·clear h
  rintro ⟨j1_0, j1_1⟩ h
  rw [f88_j1] at h
  obtain ⟨x4, hx4, h⟩ := Option.bind_eq_some_iff.1 h
  refine AW.regL [0, 3, 4, 5, 6] ?_
  generalize hK : AW Tryz.prog _ _ _ = K
  simp only [go_sem, ↓reduceIte, reduceCtorEq, Nat.reduceAdd, Nat.reduceSub, Nat.reduceMul, Nat.reduceEqDiff, Nat.reduceLT, Nat.reduceLeDiff, Nat.reduceBEq, Int.reduceAdd, Int.reduceSub, Int.reduceLT, Int.reduceLE, Int.reduceEq, Int.reduceToNat, make_ok mk23 (enc := enc5) rfl (by decide) hx4]
  subst hK
  refine AW.seq ?_
  refine AW.regL [0, 3, 5, 6, 7] ?_
  generalize hK : AW Tryz.prog _ _ _ = K
  simp only [go_sem, ↓reduceIte, reduceCtorEq, Nat.reduceAdd, Nat.reduceSub, Nat.reduceMul, Nat.reduceEqDiff, Nat.reduceLT, Nat.reduceLeDiff, Nat.reduceBEq, Int.reduceAdd, Int.reduceSub, Int.reduceLT, Int.reduceLE, Int.reduceEq, Int.reduceToNat]
  subst hK
  refine AW.block ?_
  obtain ⟨y23, hy23, h⟩ := Option.bind_eq_some_iff.1 h
  refine AW.loopO (fun s => ⟨(upd (upd (upd (upd (upd anyF 0 (.val (.int .u64 s.1))) 3 (.val (.int .i64 x1))) 5 (.val (.int .i64 j1_1))) 6 (.own 8 0 s.2.1.length)) 7 (.val (.int .i64 s.2.2))), hpL [] [some (.row 1 true (List.map enc5 s.2.1))], 9⟩) (fun z e st' => e = Exit.exit 0 ∧ st' = ⟨(upd (upd (upd anyF 3 (.val (.int .i64 x1))) 5 (.val (.int .i64 j1_1))) 6 (.own 8 0 z.length)), hpL [] [some (.row 1 true (List.map enc5 z))], 9⟩) hy23 ?_ ?_ ?_
  ·exact Ent.canq [16] RF.any.qv.qv.qv.qo.qv (.nil _) (.ce (.nil _))
  ·clear h hy23
   rintro ⟨s2_0, s2_1, s2_2⟩ x h
   rw [f88_s2] at h
   refine AW.seq ?_
   refine AW.regL [0, 3, 5, 6, 7, 23] ?_
   generalize hK : AW Tryz.prog _ _ _ = K
   simp only [go_sem, ↓reduceIte, reduceCtorEq, Nat.reduceAdd, Nat.reduceSub, Nat.reduceMul, Nat.reduceEqDiff, Nat.reduceLT, Nat.reduceLeDiff, Nat.reduceBEq, Int.reduceAdd, Int.reduceSub, Int.reduceLT, Int.reduceLE, Int.reduceEq, Int.reduceToNat]
   subst hK
   by_cases c20 : 0 ≤ s2_2
   ·rw [if_pos c20] at h
    refine AW.ifT rfl c20 ?_
    refine AW.skip ?_
    refine thenA_n ?_
    refine AW.seq ?_
    refine AW.block ?_
    obtain ⟨x21, hx21, h⟩ := Option.bind_eq_some_iff.1 h
    obtain ⟨hx21a, hx21b⟩ := ix_some.1 hx21
    refine AW.regL [0, 3, 5, 6, 7] ?_
    generalize hK : AW Tryz.prog _ _ _ = K
    simp only [go_sem, ↓reduceIte, reduceCtorEq, Nat.reduceAdd, Nat.reduceSub, Nat.reduceMul, Nat.reduceEqDiff, Nat.reduceLT, Nat.reduceLeDiff, Nat.reduceBEq, Int.reduceAdd, Int.reduceSub, Int.reduceLT, Int.reduceLE, Int.reduceEq, Int.reduceToNat, eq_true c20, natOf_le hx21a, hx21b, ix_lt hx21b, set_enc (enc := enc5) (fun _ => rfl)]
    subst hK
    refine AW.regionL [0, 3, 5, 6, 7] ?_
    generalize hK : inBlockA _ _ Exit.normal = K
    simp only [go_sem, ↓reduceIte, reduceCtorEq, Nat.reduceAdd, Nat.reduceSub, Nat.reduceMul, Nat.reduceEqDiff, Nat.reduceLT, Nat.reduceLeDiff, Nat.reduceBEq, Int.reduceAdd, Int.reduceSub, Int.reduceLT, Int.reduceLE, Int.reduceEq, Int.reduceToNat, eq_true c20]
    subst hK
    refine block_n ?_
    refine thenA_n ?_
    refine AW.regionL [0, 3, 5, 6, 7] ?_
    generalize hK : thenA _ _ Exit.normal = K
    simp only [go_sem, ↓reduceIte, reduceCtorEq, Nat.reduceAdd, Nat.reduceSub, Nat.reduceMul, Nat.reduceEqDiff, Nat.reduceLT, Nat.reduceLeDiff, Nat.reduceBEq, Int.reduceAdd, Int.reduceSub, Int.reduceLT, Int.reduceLE, Int.reduceEq, Int.reduceToNat, eq_true c20]
    subst hK
    refine thenA_n ?_
    refine ⟨_, (Option.some.inj h).symm, ?_⟩
    exact Ent.canq [8] RF.any.qv.qv.qv.qo.qv (.nil _) (.ce (.nil _))
   ·rw [if_neg c20] at h
    refine AW.ifF rfl c20 ?_
    refine AW.exit ?_
    refine thenA_x ?_
    refine thenA_x ?_
    refine ⟨_, (Option.some.inj h).symm, _, ?_, rfl, rfl⟩
    exact Ent.canq [8] RF.any.qv.qv.qo (.nil _) (.ce (.nil _))
  ·intro e st' hX
   try dsimp only at h
   try dsimp only at hX
   obtain ⟨rfl, rfl⟩ := hX
   refine ⟨_, Ent.refl, ?_⟩
   refine block_x ?_
   refine thenA_n ?_
   refine AW.seq ?_
   refine AW.regL [5, 6, 35] ?_
   generalize hK : AW Tryz.prog _ _ _ = K
   simp only [go_sem, ↓reduceIte, reduceCtorEq, Nat.reduceAdd, Nat.reduceSub, Nat.reduceMul, Nat.reduceEqDiff, Nat.reduceLT, Nat.reduceLeDiff, Nat.reduceBEq, Int.reduceAdd, Int.reduceSub, Int.reduceLT, Int.reduceLE, Int.reduceEq, Int.reduceToNat]
   subst hK
   by_cases c26 : x1 = 9
   ·rw [if_pos c26] at h
    refine AW.ifT rfl c26 ?_
    obtain ⟨x27, hx27, h⟩ := Option.bind_eq_some_iff.1 h
    obtain ⟨hx27b, hx27e⟩ := appO?_some.1 hx27
    have hx27f : ∀ id o : Nat, appO 1 1 id (List.map enc5 y23) 0 1 o (some (.row 1 true ([[.val (.int .u8 255)]]))) = some ⟨.own id 0 x27.length, [(o, none), (id, some (.row 1 true (List.map enc5 x27)))]⟩ := fun id o => by
      subst hx27e; rw [appO_ok (by simp) (by simpa using hx27b) (by decide)]; first | (simp [enc5]; done) | (simp [enc5]; omega)
    refine AW.regL [2] ?_
    generalize hK : AW Tryz.prog _ _ _ = K
    simp only [go_sem, ↓reduceIte, reduceCtorEq, Nat.reduceAdd, Nat.reduceSub, Nat.reduceMul, Nat.reduceEqDiff, Nat.reduceLT, Nat.reduceLeDiff, Nat.reduceBEq, Int.reduceAdd, Int.reduceSub, Int.reduceLT, Int.reduceLE, Int.reduceEq, Int.reduceToNat, eq_true c26, hx27f]
    subst hK
    refine AW.ret ?_
    refine thenA_r ?_
    obtain rfl := Option.some.inj h
    (simp only [go_sem, ↓reduceIte, reduceCtorEq, Nat.reduceAdd, Nat.reduceSub, Nat.reduceMul, Nat.reduceEqDiff, Nat.reduceLT, Nat.reduceLeDiff, Nat.reduceBEq, Int.reduceAdd, Int.reduceSub, Int.reduceLT, Int.reduceLE, Int.reduceEq, Int.reduceToNat, eq_true c26, finA] <;> try simp)
   ·rw [if_neg c26] at h
    refine AW.ifF rfl c26 ?_
    refine AW.skip ?_
    refine thenA_n ?_
    obtain ⟨x28, hx28, h⟩ := Option.bind_eq_some_iff.1 h
    refine AW.regL [6] ?_
    generalize hK : AW Tryz.prog _ _ _ = K
    simp only [go_sem, ↓reduceIte, reduceCtorEq, Nat.reduceAdd, Nat.reduceSub, Nat.reduceMul, Nat.reduceEqDiff, Nat.reduceLT, Nat.reduceLeDiff, Nat.reduceBEq, Int.reduceAdd, Int.reduceSub, Int.reduceLT, Int.reduceLE, Int.reduceEq, Int.reduceToNat, eq_false c26, hx28, ix_lt hx28, set_enc (enc := enc5) (fun _ => rfl)]
    subst hK
    refine AW.regL [2] ?_
    generalize hK : AW Tryz.prog _ _ _ = K
    simp only [go_sem, ↓reduceIte, reduceCtorEq, Nat.reduceAdd, Nat.reduceSub, Nat.reduceMul, Nat.reduceEqDiff, Nat.reduceLT, Nat.reduceLeDiff, Nat.reduceBEq, Int.reduceAdd, Int.reduceSub, Int.reduceLT, Int.reduceLE, Int.reduceEq, Int.reduceToNat, eq_false c26]
    subst hK
    refine AW.ret ?_
    obtain rfl := Option.some.inj h
    (simp only [go_sem, ↓reduceIte, reduceCtorEq, Nat.reduceAdd, Nat.reduceSub, Nat.reduceMul, Nat.reduceEqDiff, Nat.reduceLT, Nat.reduceLeDiff, Nat.reduceBEq, Int.reduceAdd, Int.reduceSub, Int.reduceLT, Int.reduceLE, Int.reduceEq, Int.reduceToNat, eq_false c26, finA] <;> try simp)
end Au
end Go.Proofs.Yt

set_option linter.all false
set_option maxRecDepth 8000
set_option maxHeartbeats 1000000
namespace Go.Proofs.Yt
open Go.Gm
namespace Au
noncomputable def f51 (a0 : ByteArray) : Option (List Int) := ((f88 (IntKind.u64.wrap (a0.size : Int))).bind fun x1 => ((appO? x1 (bytesI a0)).bind fun x2 => some x2))
theorem ok51 (a0 : ByteArray) (r : (List Int)) (h : f51 a0 = some r) : PC Tryz.prog 51 [.val (.string a0)] (.fr 1 (List.map enc5 r)) := by
 rw [f51] at h
 refine pc_of8 (N := 9) (rs := [.tmp 2]) Tryz.func51 rfl rfl rfl (Nat.le_of_ble_eq_true rfl) ?_
 refine AW.rX [0] ?_
 obtain ⟨x1, hx1, h⟩ := Option.bind_eq_some_iff.1 h
 obtain ⟨x2, hx2, h⟩ := Option.bind_eq_some_iff.1 h
 obtain ⟨hx2b, hx2e⟩ := appO?_some.1 hx2
 have hx2f : ∀ id o : Nat, appO 1 1 id (List.map enc5 (bytesI a0)) 0 x1.length o (some (.row 1 true (List.map enc5 x1))) = some ⟨.own id 0 x2.length, [(o, none), (id, some (.row 1 true (List.map enc5 x2)))]⟩ := fun id o => by
   subst hx2e; rw [appO_ok (by simp) (by simpa using hx2b) (by decide)]; first | (simp [enc5]; done) | (simp [enc5]; omega)
 refine AW.regL [2] ?_
 generalize hK : AW Tryz.prog _ _ _ = K
 simp only [go_sem, ↓reduceIte, reduceCtorEq, Nat.reduceAdd, Nat.reduceSub, Nat.reduceMul, Nat.reduceEqDiff, Nat.reduceLT, Nat.reduceLeDiff, bytesRows_map (enc := enc5) (fun _ => rfl), hx2f]
 refine arC.of (ok88 (IntKind.u64.wrap (a0.size : Int)) x1 hx1) Tryz.call88 ?_
 simp only [go_sem, ↓reduceIte, reduceCtorEq, Nat.reduceAdd, Nat.reduceSub, Nat.reduceMul, Nat.reduceEqDiff, Nat.reduceLT, Nat.reduceLeDiff, bytesRows_map (enc := enc5) (fun _ => rfl), hx2f]
 subst hK
 refine AW.ret ?_
 obtain rfl := Option.some.inj h
 (simp only [go_sem, ↓reduceIte, reduceCtorEq, Nat.reduceAdd, Nat.reduceSub, Nat.reduceMul, Nat.reduceEqDiff, Nat.reduceLT, Nat.reduceLeDiff, finA] <;> try simp)
end Au
end Go.Proofs.Yt

set_option linter.all false
set_option maxRecDepth 8000
set_option maxHeartbeats 1000000
namespace Go.Proofs.Yt
open Go.Gm
namespace Au
noncomputable def f91_s1 (a0 : List Pair) : (List Int) × Int → Option (((List Int) × Int) ⊕ (List Int))
  | (s1_0, s1_1) => (if s1_1 < (a0.length : Int) then ((ix a0 s1_1).bind fun x18 => ((f51 x18.Key).bind fun x19 => ((appO? s1_0 x19).bind fun x20 => ((f51 x18.Val).bind fun x21 => ((appO? x20 x21).bind fun x22 => some (.inl (x22, IntKind.i64.wrap (s1_1 + 1)))))))) else some (.inr s1_0))
noncomputable def f91 (a0 : List Pair) : Option (List Int) := ((f88 (IntKind.u64.wrap (a0.length : Int))).bind fun x1 => ((loopO (f91_s1 a0) (x1, 0)).bind fun y24 => some y24))
theorem ok91 (a0 : List Pair) (r : (List Int)) (h : f91 a0 = some r) : PC Tryz.prog 91 [.sl (List.map encPair a0)] (.fr 1 (List.map enc5 r)) := by
 rw [f91] at h
 refine pc_of8 (N := 31) (rs := [.tmp 2]) Tryz.func91 rfl rfl rfl (Nat.le_of_ble_eq_true rfl) ?_
 refine AW.rX [0] ?_
 obtain ⟨x1, hx1, h⟩ := Option.bind_eq_some_iff.1 h
 refine AW.regL [0, 3] ?_
 generalize hK : AW Tryz.prog _ _ _ = K
 simp only [go_sem, ↓reduceIte, reduceCtorEq, Nat.reduceAdd, Nat.reduceSub, Nat.reduceMul, Nat.reduceEqDiff, Nat.reduceLT, Nat.reduceLeDiff]
 refine arC.of (ok88 (IntKind.u64.wrap (a0.length : Int)) x1 hx1) Tryz.call88 ?_
 simp only [go_sem, ↓reduceIte, reduceCtorEq, Nat.reduceAdd, Nat.reduceSub, Nat.reduceMul, Nat.reduceEqDiff, Nat.reduceLT, Nat.reduceLeDiff]
 subst hK
 refine AW.seq ?_
 refine AW.rX [0, 3, 4] ?_
 refine AW.block ?_
 obtain ⟨y24, hy24, h⟩ := Option.bind_eq_some_iff.1 h
 refine AW.loopO (fun s => ⟨(upd (upd (upd anyF 0 (.sl (List.map encPair a0))) 3 (.own 8 0 s.1.length)) 4 (.val (.int .i64 s.2))), hpL [] [some (.row 1 true (List.map enc5 s.1))], 9⟩) (fun z e st' => e = Exit.exit 0 ∧ st' = ⟨(upd anyF 3 (.own 8 0 z.length)), hpL [] [some (.row 1 true (List.map enc5 z))], 9⟩) hy24 ?_ ?_ ?_
 ·exact Ent.canq [40] RF.any.qv.qo.qv (.nil _) (.ce (.nil _))
 ·clear h hy24
  rintro ⟨s1_0, s1_1⟩ x h
  rw [f91_s1] at h
  refine AW.seq ?_
  refine AW.rX [0, 3, 4, 12] ?_
  by_cases c17 : s1_1 < (a0.length : Int)
  ·rw [if_pos c17] at h
   refine AW.ifT rfl c17 ?_
   refine AW.skip ?_
   refine thenA_n ?_
   refine AW.seq ?_
   refine AW.block ?_
   obtain ⟨x18, hx18, h⟩ := Option.bind_eq_some_iff.1 h
   obtain ⟨hx18a, hx18b⟩ := ix_some.1 hx18
   obtain ⟨x19, hx19, h⟩ := Option.bind_eq_some_iff.1 h
   obtain ⟨x20, hx20, h⟩ := Option.bind_eq_some_iff.1 h
   obtain ⟨hx20b, hx20e⟩ := appO?_some.1 hx20
   have hx20f : ∀ id o : Nat, appO 1 1 id (List.map enc5 x19) 0 s1_0.length o (some (.row 1 true (List.map enc5 s1_0))) = some ⟨.own id 0 x20.length, [(o, none), (id, some (.row 1 true (List.map enc5 x20)))]⟩ := fun id o => by
     subst hx20e; rw [appO_ok (by simp) (by simpa using hx20b) (by decide)]; first | (simp [enc5]; done) | (simp [enc5]; omega)
   obtain ⟨x21, hx21, h⟩ := Option.bind_eq_some_iff.1 h
   obtain ⟨x22, hx22, h⟩ := Option.bind_eq_some_iff.1 h
   obtain ⟨hx22b, hx22e⟩ := appO?_some.1 hx22
   have hx22f : ∀ id o : Nat, appO 1 1 id (List.map enc5 x21) 0 x20.length o (some (.row 1 true (List.map enc5 x20))) = some ⟨.own id 0 x22.length, [(o, none), (id, some (.row 1 true (List.map enc5 x22)))]⟩ := fun id o => by
     subst hx22e; rw [appO_ok (by simp) (by simpa using hx22b) (by decide)]; first | (simp [enc5]; done) | (simp [enc5]; omega)
   refine AW.drawL [0, 3, 4] [[], [], [], [1, 2], [1, 2, 3], [1, 2, 3, 4], [1, 2, 3, 4, 5], [0, 1, 2, 3, 4, 5, 6], [], [], [8, 9], [8, 9, 10], [8, 9, 10, 11], [0, 1, 2, 3, 4, 5, 6, 7, 8, 9, 10, 11, 12], [0, 1, 2, 3, 4, 5, 6, 7, 8, 9, 10, 11, 12, 13], [0, 1, 2, 3, 4, 5, 6, 7, 8, 9, 10, 11, 12, 13, 14]] [0, 1, 2, 3, 4, 5, 6, 7, 8, 9, 10, 11, 12, 13, 14, 15] noFt (fun _ _ _ h => by simp [noFt] at h) draws (by kernel_rfl) (by kernel_rfl) ?_
   generalize hK : inBlockA _ _ Exit.normal = K
   simp only [go_sem, ↓reduceIte, reduceCtorEq, Nat.reduceAdd, Nat.reduceSub, Nat.reduceMul, Nat.reduceEqDiff, Nat.reduceLT, Nat.reduceLeDiff, eq_true c17, natOf_le hx18a, hx18b, hx20f, hx22f]
   refine adN.pc (ok51 x18.Key x19 hx19) Tryz.call51 callV_fn (by simp only [go_sem, ↓reduceIte, reduceCtorEq, Nat.reduceAdd, Nat.reduceSub, Nat.reduceMul, Nat.reduceEqDiff, Nat.reduceLT, Nat.reduceLeDiff, eq_true c17, natOf_le hx18a, hx18b, hx20f, hx22f]) (by simp only [go_sem, ↓reduceIte, reduceCtorEq, Nat.reduceAdd, Nat.reduceSub, Nat.reduceMul, Nat.reduceEqDiff, Nat.reduceLT, Nat.reduceLeDiff]) ?_
   simp only [go_sem, ↓reduceIte, reduceCtorEq, Nat.reduceAdd, Nat.reduceSub, Nat.reduceMul, Nat.reduceEqDiff, Nat.reduceLT, Nat.reduceLeDiff, eq_true c17, natOf_le hx18a, hx18b, hx20f, hx22f]
   refine adN.pc (ok51 x18.Val x21 hx21) Tryz.call51 callV_fn (by simp only [go_sem, ↓reduceIte, reduceCtorEq, Nat.reduceAdd, Nat.reduceSub, Nat.reduceMul, Nat.reduceEqDiff, Nat.reduceLT, Nat.reduceLeDiff, eq_true c17, natOf_le hx18a, hx18b, hx20f, hx22f]) (by simp only [go_sem, ↓reduceIte, reduceCtorEq, Nat.reduceAdd, Nat.reduceSub, Nat.reduceMul, Nat.reduceEqDiff, Nat.reduceLT, Nat.reduceLeDiff]) ?_
   simp only [go_sem, ↓reduceIte, reduceCtorEq, Nat.reduceAdd, Nat.reduceSub, Nat.reduceMul, Nat.reduceEqDiff, Nat.reduceLT, Nat.reduceLeDiff, eq_true c17, natOf_le hx18a, hx18b, hx20f, hx22f]
   subst hK
   refine block_n ?_
   refine thenA_n ?_
   refine AW.rY [0, 3, 4] ?_
   refine thenA_n ?_
   refine ⟨_, (Option.some.inj h).symm, ?_⟩
   exact Ent.canq [153] RF.any.qv.qo.qv (.nil _) (.ce (.nil _))
  ·rw [if_neg c17] at h
   refine AW.ifF rfl c17 ?_
   refine AW.exit ?_
   refine thenA_x ?_
   refine thenA_x ?_
   refine ⟨_, (Option.some.inj h).symm, _, ?_, rfl, rfl⟩
   exact Ent.canq [8] RF.any.qo (.nil _) (.ce (.nil _))
 ·intro e st' hX
  try dsimp only at h
  try dsimp only at hX
  obtain ⟨rfl, rfl⟩ := hX
  refine ⟨_, Ent.refl, ?_⟩
  refine block_x ?_
  refine thenA_n ?_
  refine AW.rX [2] ?_
  refine AW.ret ?_
  obtain rfl := Option.some.inj h
  (simp only [go_sem, ↓reduceIte, reduceCtorEq, Nat.reduceAdd, Nat.reduceSub, Nat.reduceMul, Nat.reduceEqDiff, Nat.reduceLT, Nat.reduceLeDiff, finA] <;> try simp)
end Au
end Go.Proofs.Yt

set_option linter.all false
set_option maxRecDepth 8000
set_option maxHeartbeats 1000000
namespace Go.Proofs.Yt
open Go.Gm
namespace Au
noncomputable def f90 (a0 : List Int) : Option (List Int) := ((f88 (IntKind.u64.wrap (a0.length : Int))).bind fun x1 => ((appO? x1 a0).bind fun x2 => ((f100 x2).bind fun x3 => some x3)))
theorem ok90 (a0 : List Int) (r : (List Int)) (h : f90 a0 = some r) : PC Tryz.prog 90 [.sl (List.map enc5 a0)] (.fr 1 (List.map enc5 r)) := by
 rw [f90] at h
 refine pc_of8 (N := 10) (rs := [.tmp 2]) Tryz.func90 rfl rfl rfl (Nat.le_of_ble_eq_true rfl) ?_
 refine AW.rX [0] ?_
 obtain ⟨x1, hx1, h⟩ := Option.bind_eq_some_iff.1 h
 obtain ⟨x2, hx2, h⟩ := Option.bind_eq_some_iff.1 h
 obtain ⟨hx2b, hx2e⟩ := appO?_some.1 hx2
 have hx2f : ∀ id o : Nat, appO 1 1 id (List.map enc5 a0) 0 x1.length o (some (.row 1 true (List.map enc5 x1))) = some ⟨.own id 0 x2.length, [(o, none), (id, some (.row 1 true (List.map enc5 x2)))]⟩ := fun id o => by
   subst hx2e; rw [appO_ok (by simp) (by simpa using hx2b) (by decide)]; first | (simp [enc5]; done) | (simp [enc5]; omega)
 obtain ⟨x3, hx3, h⟩ := Option.bind_eq_some_iff.1 h
 refine AW.regL [2] ?_
 generalize hK : AW Tryz.prog _ _ _ = K
 simp only [go_sem, ↓reduceIte, reduceCtorEq, Nat.reduceAdd, Nat.reduceSub, Nat.reduceMul, Nat.reduceEqDiff, Nat.reduceLT, Nat.reduceLeDiff, hx2f]
 refine arC.of (ok88 (IntKind.u64.wrap (a0.length : Int)) x1 hx1) Tryz.call88 ?_
 simp only [go_sem, ↓reduceIte, reduceCtorEq, Nat.reduceAdd, Nat.reduceSub, Nat.reduceMul, Nat.reduceEqDiff, Nat.reduceLT, Nat.reduceLeDiff, hx2f]
 refine arC.of (ok100 x2 x3 hx3) Tryz.call100 ?_
 simp only [go_sem, ↓reduceIte, reduceCtorEq, Nat.reduceAdd, Nat.reduceSub, Nat.reduceMul, Nat.reduceEqDiff, Nat.reduceLT, Nat.reduceLeDiff, hx2f]
 subst hK
 refine AW.ret ?_
 obtain rfl := Option.some.inj h
 (simp only [go_sem, ↓reduceIte, reduceCtorEq, Nat.reduceAdd, Nat.reduceSub, Nat.reduceMul, Nat.reduceEqDiff, Nat.reduceLT, Nat.reduceLeDiff, finA] <;> try simp)
end Au
end Go.Proofs.Yt

set_option linter.all false
set_option maxRecDepth 8000
set_option maxHeartbeats 1000000
namespace Go.Proofs.Yt
open Go.Gm
namespace Au
noncomputable def f89_s2 (a0 : List Int) (a1 : Int) : Int → Option (Int ⊕ Int)
  | s2_0 => (if (IntKind.i64.wrap (a1 + s2_0)) < (a0.length : Int) then ((ix a0 (IntKind.i64.wrap (a1 + s2_0))).bind fun x28 => ((ix a0 (IntKind.i64.wrap ((IntKind.i64.wrap (a1 + s2_0)) - 1))).bind fun x29 => ((ix a0 (IntKind.i64.wrap (a1 + 1))).bind fun x30 => ((ix a0 a1).bind fun x31 => (if (IntKind.i64.wrap (x28 - x29)) = (IntKind.i64.wrap (x30 - x31)) then some (.inl (IntKind.i64.wrap (s2_0 + 1))) else some (.inr s2_0)))))) else some (.inr s2_0))
noncomputable def f89 (a0 : List Int) (a1 : Int) : Option Int := ((loopO (f89_s2 a0 a1) 2).bind fun y34 => (if y34 < 3 then some 0 else (if (a0.length : Int) ≤ (IntKind.i64.wrap (a1 + 2)) then some 0 else some y34)))
theorem ok89 (a0 : List Int) (a1 : Int) (r : Int) (h : f89 a0 a1 = some r) : PC Tryz.prog 89 [.sl (List.map enc3 a0), .val (.int .i64 a1)] (.val (.int .i64 r)) := by
 rw [f89] at h
 refine pc_of8 (N := 51) (rs := [.tmp 4]) Tryz.func89 rfl rfl rfl (Nat.le_of_ble_eq_true rfl) ?_
 refine AW.rX [0, 1] ?_
 refine AW.rX [0, 1, 5] ?_
 refine AW.seq ?_
 refine AW.block ?_
 obtain ⟨y34, hy34, h⟩ := Option.bind_eq_some_iff.1 h
 refine AW.loopO (fun s => ⟨(upd (upd (upd anyF 0 (.sl (List.map enc3 a0))) 1 (.val (.int .i64 a1))) 5 (.val (.int .i64 s))), hpL [] [], 8⟩) (fun z e st' => e = Exit.exit 0 ∧ st' = ⟨(upd (upd (upd anyF 0 (.sl (List.map enc3 a0))) 1 (.val (.int .i64 a1))) 5 (.val (.int .i64 z))), hpL [] [], 8⟩) hy34 ?_ ?_ ?_
 ·exact Ent.canq [] RF.any.qv.qv.qv (.nil _) (.nil _)
 ·clear h hy34
  rintro s2_0 x h
  rw [f89_s2] at h
  refine AW.seq ?_
  by_cases c27 : (IntKind.i64.wrap (a1 + s2_0)) < (a0.length : Int)
  ·rw [if_pos c27] at h
   obtain ⟨x28, hx28, h⟩ := Option.bind_eq_some_iff.1 h
   obtain ⟨hx28a, hx28b⟩ := ix_some.1 hx28
   obtain ⟨x29, hx29, h⟩ := Option.bind_eq_some_iff.1 h
   obtain ⟨hx29a, hx29b⟩ := ix_some.1 hx29
   obtain ⟨x30, hx30, h⟩ := Option.bind_eq_some_iff.1 h
   obtain ⟨hx30a, hx30b⟩ := ix_some.1 hx30
   obtain ⟨x31, hx31, h⟩ := Option.bind_eq_some_iff.1 h
   obtain ⟨hx31a, hx31b⟩ := ix_some.1 hx31
   refine AW.regdL [0, 1, 5, 38] [[], [], [0, 1], [], [3], [0, 1, 2, 3, 4], [0, 1, 2, 3, 4, 5], [0, 1, 2, 3, 4, 5, 6], [0, 1, 2, 3, 4, 5, 6], [0, 1, 2, 3, 4, 5, 6], [0, 1, 2, 3, 4, 5, 6, 8, 9], [0, 1, 2, 3, 4, 5, 6, 7, 8, 9, 10], [0, 1, 2, 3, 4, 5, 6, 7, 8, 9, 10, 11], [0, 1, 2, 3, 4, 5, 6], [0, 1, 2, 3, 4, 5, 6], [0, 1, 2, 3, 4, 5, 6], [0, 1, 2, 3, 4, 5, 6, 14, 15], [0, 1, 2, 3, 4, 5, 6, 14, 15, 16], [0, 1, 2, 3, 4, 5, 6, 13, 14, 15, 16, 17], [0, 1, 2, 3, 4, 5, 6, 13, 14, 15, 16, 17, 18], [0, 1, 2, 3, 4, 5, 6, 7, 8, 9, 10, 11, 12, 13, 14, 15, 16, 17, 18, 19], [0, 1, 2, 3, 4, 5, 6], [0, 1, 2, 3, 4, 5, 6], [0, 1, 2, 3, 4, 5, 6, 22], [0, 1, 2, 3, 4, 5, 6, 21, 22, 23], [0, 1, 2, 3, 4, 5, 6, 21, 22, 23, 24], [0, 1, 2, 3, 4, 5, 6], [0, 1, 2, 3, 4, 5, 6], [0, 1, 2, 3, 4, 5, 6, 26, 27], [0, 1, 2, 3, 4, 5, 6, 26, 27, 28], [0, 1, 2, 3, 4, 5, 6, 21, 22, 23, 24, 25, 26, 27, 28, 29], [0, 1, 2, 3, 4, 5, 6, 7, 8, 9, 10, 11, 12, 13, 14, 15, 16, 17, 18, 19, 20, 21, 22, 23, 24, 25, 26, 27, 28, 29, 30], [0, 1, 2, 3, 4, 5, 6, 7, 8, 9, 10, 11, 12, 13, 14, 15, 16, 17, 18, 19, 20, 21, 22, 23, 24, 25, 26, 27, 28, 29, 30, 31]] [0, 1, 2, 3, 4, 5, 6, 7, 8, 9, 10, 11, 12, 13, 14, 15, 16, 17, 18, 19, 20, 21, 22, 23, 24, 25, 26, 27, 28, 29, 30, 31, 32] noFt (fun _ _ _ h => by simp [noFt] at h) draws (by kernel_rfl) (by kernel_rfl) ?_
   generalize hK : AW Tryz.prog _ _ _ = K
   simp only [go_sem, ↓reduceIte, reduceCtorEq, Nat.reduceAdd, Nat.reduceSub, Nat.reduceMul, Nat.reduceEqDiff, Nat.reduceLT, Nat.reduceLeDiff, eq_true c27, natOf_le hx28a, hx28b, natOf_le hx29a, hx29b, natOf_le hx30a, hx30b, natOf_le hx31a, hx31b]
   subst hK
   by_cases c32 : (IntKind.i64.wrap (x28 - x29)) = (IntKind.i64.wrap (x30 - x31))
   ·rw [if_pos c32] at h
    refine AW.ifT rfl c32 ?_
    refine AW.skip ?_
    refine thenA_n ?_
    refine AW.block ?_
    refine AW.regionL [0, 1, 5] ?_
    generalize hK : inBlockA _ _ Exit.normal = K
    simp only [go_sem, ↓reduceIte, reduceCtorEq, Nat.reduceAdd, Nat.reduceSub, Nat.reduceMul, Nat.reduceEqDiff, Nat.reduceLT, Nat.reduceLeDiff, eq_true c27, eq_true c32]
    subst hK
    refine block_n ?_
    refine thenA_n ?_
    refine ⟨_, (Option.some.inj h).symm, ?_⟩
    exact Ent.canq [] RF.any.qv.qv.qv (.nil _) (.nil _)
   ·rw [if_neg c32] at h
    refine AW.ifF rfl c32 ?_
    refine AW.exit ?_
    refine thenA_x ?_
    refine thenA_x ?_
    refine ⟨_, (Option.some.inj h).symm, _, ?_, rfl, rfl⟩
    exact Ent.canq [] RF.any.qv.qv.qv (.nil _) (.nil _)
  ·rw [if_neg c27] at h
   refine AW.regdL [0, 1, 5, 38] [[], [], [0, 1], [], [3], [0, 1, 2, 3, 4], [0, 1, 2, 3, 4, 5], [0, 1, 2, 3, 4, 5, 6], [0, 1, 2, 3, 4, 5, 6], [0, 1, 2, 3, 4, 5, 6], [0, 1, 2, 3, 4, 5, 6, 8, 9], [0, 1, 2, 3, 4, 5, 6, 7, 8, 9, 10], [0, 1, 2, 3, 4, 5, 6, 7, 8, 9, 10, 11], [0, 1, 2, 3, 4, 5, 6], [0, 1, 2, 3, 4, 5, 6], [0, 1, 2, 3, 4, 5, 6], [0, 1, 2, 3, 4, 5, 6, 14, 15], [0, 1, 2, 3, 4, 5, 6, 14, 15, 16], [0, 1, 2, 3, 4, 5, 6, 13, 14, 15, 16, 17], [0, 1, 2, 3, 4, 5, 6, 13, 14, 15, 16, 17, 18], [0, 1, 2, 3, 4, 5, 6, 7, 8, 9, 10, 11, 12, 13, 14, 15, 16, 17, 18, 19], [0, 1, 2, 3, 4, 5, 6], [0, 1, 2, 3, 4, 5, 6], [0, 1, 2, 3, 4, 5, 6, 22], [0, 1, 2, 3, 4, 5, 6, 21, 22, 23], [0, 1, 2, 3, 4, 5, 6, 21, 22, 23, 24], [0, 1, 2, 3, 4, 5, 6], [0, 1, 2, 3, 4, 5, 6], [0, 1, 2, 3, 4, 5, 6, 26, 27], [0, 1, 2, 3, 4, 5, 6, 26, 27, 28], [0, 1, 2, 3, 4, 5, 6, 21, 22, 23, 24, 25, 26, 27, 28, 29], [0, 1, 2, 3, 4, 5, 6, 7, 8, 9, 10, 11, 12, 13, 14, 15, 16, 17, 18, 19, 20, 21, 22, 23, 24, 25, 26, 27, 28, 29, 30], [0, 1, 2, 3, 4, 5, 6, 7, 8, 9, 10, 11, 12, 13, 14, 15, 16, 17, 18, 19, 20, 21, 22, 23, 24, 25, 26, 27, 28, 29, 30, 31]] [0, 1, 2, 3, 4, 5, 6, 7, 8, 9, 10, 11, 12, 13, 14, 15, 16, 17, 18, 19, 20, 21, 22, 23, 24, 25, 26, 27, 28, 29, 30, 31, 32] noFt (fun _ _ _ h => by simp [noFt] at h) draws (by kernel_rfl) (by kernel_rfl) ?_
   generalize hK : AW Tryz.prog _ _ _ = K
   simp only [go_sem, ↓reduceIte, reduceCtorEq, Nat.reduceAdd, Nat.reduceSub, Nat.reduceMul, Nat.reduceEqDiff, Nat.reduceLT, Nat.reduceLeDiff, eq_false c27]
   subst hK
   refine AW.ifBF rfl rfl ?_
   refine AW.exit ?_
   refine thenA_x ?_
   refine thenA_x ?_
   refine ⟨_, (Option.some.inj h).symm, _, ?_, rfl, rfl⟩
   exact Ent.canq [] RF.any.qv.qv.qv (.nil _) (.nil _)
 ·intro e st' hX
  try dsimp only at h
  try dsimp only at hX
  obtain ⟨rfl, rfl⟩ := hX
  refine ⟨_, Ent.refl, ?_⟩
  refine block_x ?_
  refine thenA_n ?_
  refine AW.seq ?_
  by_cases c35 : y34 < 3
  ·rw [if_pos c35] at h
   refine AW.regL [5, 49] ?_
   generalize hK : AW Tryz.prog _ _ _ = K
   simp only [go_sem, ↓reduceIte, reduceCtorEq, Nat.reduceAdd, Nat.reduceSub, Nat.reduceMul, Nat.reduceEqDiff, Nat.reduceLT, Nat.reduceLeDiff, eq_true c35]
   subst hK
   refine AW.ifBT rfl rfl ?_
   refine AW.regL [4] ?_
   generalize hK : AW Tryz.prog _ _ _ = K
   simp only [go_sem, ↓reduceIte, reduceCtorEq, Nat.reduceAdd, Nat.reduceSub, Nat.reduceMul, Nat.reduceEqDiff, Nat.reduceLT, Nat.reduceLeDiff, eq_true c35]
   subst hK
   refine AW.ret ?_
   refine thenA_r ?_
   obtain rfl := Option.some.inj h
   (simp only [go_sem, ↓reduceIte, reduceCtorEq, Nat.reduceAdd, Nat.reduceSub, Nat.reduceMul, Nat.reduceEqDiff, Nat.reduceLT, Nat.reduceLeDiff, eq_true c35, finA] <;> try simp)
  ·rw [if_neg c35] at h
   refine AW.regL [5, 49] ?_
   generalize hK : AW Tryz.prog _ _ _ = K
   simp only [go_sem, ↓reduceIte, reduceCtorEq, Nat.reduceAdd, Nat.reduceSub, Nat.reduceMul, Nat.reduceEqDiff, Nat.reduceLT, Nat.reduceLeDiff, eq_false c35]
   subst hK
   by_cases c36 : (a0.length : Int) ≤ (IntKind.i64.wrap (a1 + 2))
   ·rw [if_pos c36] at h
    refine AW.ifT rfl c36 ?_
    refine AW.rX [4] ?_
    refine AW.ret ?_
    refine thenA_r ?_
    obtain rfl := Option.some.inj h
    (simp only [go_sem, ↓reduceIte, reduceCtorEq, Nat.reduceAdd, Nat.reduceSub, Nat.reduceMul, Nat.reduceEqDiff, Nat.reduceLT, Nat.reduceLeDiff, eq_false c35, eq_true c36, finA] <;> try simp)
   ·rw [if_neg c36] at h
    refine AW.ifF rfl c36 ?_
    refine AW.skip ?_
    refine thenA_n ?_
    refine AW.rX [4] ?_
    refine AW.ret ?_
    obtain rfl := Option.some.inj h
    (simp only [go_sem, ↓reduceIte, reduceCtorEq, Nat.reduceAdd, Nat.reduceSub, Nat.reduceMul, Nat.reduceEqDiff, Nat.reduceLT, Nat.reduceLeDiff, eq_false c35, eq_false c36, finA] <;> try simp)
end Au
end Go.Proofs.Yt

set_option linter.all false
set_option maxRecDepth 8000
set_option maxHeartbeats 1000000
namespace Go.Proofs.Yt
open Go.Gm
namespace Au
noncomputable def f52_s18 (a0 : List Int) (s1_3 : Int) : Int → Option (Int ⊕ Int)
  | s18_0 => (if (IntKind.i64.wrap (s1_3 + s18_0)) < (a0.length : Int) then ((f89 a0 (IntKind.i64.wrap (s1_3 + s18_0))).bind fun x232 => (if x232 = 0 then some (.inl (IntKind.i64.wrap (s18_0 + 1))) else some (.inr s18_0))) else some (.inr s18_0))
noncomputable def f52_s19 (a0 : List Int) (s1_3 : Int) (y235 : Int) : (List Int) × Int × Int → Option (((List Int) × Int × Int) ⊕ (List Int))
  | (s19_0, s19_1, s19_2) => (if s19_2 < (IntKind.i64.wrap (s1_3 + y235)) then ((ix a0 s19_2).bind fun x250 => ((f88 (IntKind.u64.wrap (IntKind.i64.wrap ((IntKind.i64.wrap (x250 - s19_1)) - 1)))).bind fun x251 => ((appO? s19_0 x251).bind fun x252 => some (.inl (x252, x250, IntKind.i64.wrap (s19_2 + 1)))))) else some (.inr s19_0))
noncomputable def f52_j3 (a0 : List Int) (s1_1 : Int) (s1_3 : Int) : (List Int) × Int → Option (((List Int) × Int × Int × Int) ⊕ (Int × (List Int)))
  | (j3_0, j3_1) => ((ix a0 (IntKind.i64.wrap ((IntKind.i64.wrap (s1_3 + j3_1)) - 1))).bind fun x207 => some (.inl (j3_0, IntKind.i64.wrap (s1_1 + 1), x207, IntKind.i64.wrap (s1_3 + j3_1))))
noncomputable def f52_s1 (a0 : List Int) : (List Int) × Int × Int × Int → Option (((List Int) × Int × Int × Int) ⊕ (Int × (List Int)))
  | (s1_0, s1_1, s1_2, s1_3) => (if s1_3 < (a0.length : Int) then ((f89 a0 s1_3).bind fun x167 => (if 0 < x167 then ((f88 (IntKind.u64.wrap (IntKind.i64.wrap ((IntKind.i64.wrap (2 * x167)) + 1)))).bind fun x209 => ((appO? s1_0 x209).bind fun x210 => ((ix a0 s1_3).bind fun x211 => ((f88 (IntKind.u64.wrap (IntKind.i64.wrap ((IntKind.i64.wrap (x211 - s1_2)) - 1)))).bind fun x212 => ((appO? x210 x212).bind fun x213 => ((ix a0 (IntKind.i64.wrap (s1_3 + 1))).bind fun x214 => ((f88 (IntKind.u64.wrap (IntKind.i64.wrap ((IntKind.i64.wrap (x214 - x211)) - 1)))).bind fun x215 => ((appO? x213 x215).bind fun x216 => f52_j3 a0 s1_1 s1_3 (x216, x167))))))))) else ((loopO (f52_s18 a0 s1_3) 1).bind fun y235 => ((f88 (IntKind.u64.wrap (IntKind.i64.wrap (2 * y235)))).bind fun x236 => ((appO? s1_0 x236).bind fun x237 => ((loopO (f52_s19 a0 s1_3 y235) (x237, s1_2, s1_3)).bind fun y254 => f52_j3 a0 s1_1 s1_3 (y254, y235))))))) else some (.inr (s1_1, s1_0)))
noncomputable def f52 (a0 : List Int) : Option (List Int) := ((loopO (f52_s1 a0) ([], 0, (-1), 0)).bind fun y255 => match y255 with | (y256, y257) => ((f88 (IntKind.u64.wrap y256)).bind fun x258 => ((appO? x258 y257).bind fun x259 => some x259)))
theorem ok52 (a0 : List Int) (r : (List Int)) (h : f52 a0 = some r) : PC Tryz.prog 52 [.sl (List.map enc3 a0)] (.fr 1 (List.map enc5 r)) := by
 rw [f52] at h
 refine pc_of8 (N := 111) (rs := [.tmp 2]) Tryz.func52 rfl rfl rfl (Nat.le_of_ble_eq_true rfl) ?_
 refine AW.rX [0] ?_
 refine AW.rX [0, 3] ?_
 refine AW.rX [0, 3, 4, 5, 6] ?_
 refine AW.seq ?_
 refine AW.block ?_
 obtain ⟨y255, hy255, h⟩ := Option.bind_eq_some_iff.1 h
 refine AW.loopO (fun s => ⟨(upd (upd (upd (upd (upd anyF 0 (.sl (List.map enc3 a0))) 3 (.own 8 0 s.1.length)) 4 (.val (.int .i64 s.2.1))) 5 (.val (.int .i64 s.2.2.1))) 6 (.val (.int .i64 s.2.2.2))), hpL [] [some (.row 1 true (List.map enc5 s.1))], 9⟩) (fun z e st' => e = Exit.exit 0 ∧ st' = ⟨(upd (upd anyF 3 (.own 8 0 z.2.length)) 4 (.val (.int .i64 z.1))), hpL [] [some (.row 1 true (List.map enc5 z.2))], 9⟩) hy255 ?_ ?_ ?_
 ·refine Ent.trans (Ent.nilOwn 3 1 (by decide) rfl) ?_
  exact Ent.canq [48] RF.any.qv.qo.qv.qv.qv (.nil _) (.ce (.nil _))
 ·clear h hy255
  rintro ⟨s1_0, s1_1, s1_2, s1_3⟩ x h
  rw [f52_s1] at h
  refine AW.seq ?_
  refine AW.rX [0, 3, 4, 5, 6, 13] ?_
  by_cases c166 : s1_3 < (a0.length : Int)
  ·rw [if_pos c166] at h
   refine AW.ifT rfl c166 ?_
   refine AW.skip ?_
   refine thenA_n ?_
   refine AW.block ?_
   refine AW.rX [0, 3, 4, 5, 6] ?_
   obtain ⟨x167, hx167, h⟩ := Option.bind_eq_some_iff.1 h
   refine AW.regL [0, 3, 4, 5, 6, 7] ?_
   generalize hK : AW Tryz.prog _ _ _ = K
   simp only [go_sem, ↓reduceIte, reduceCtorEq, Nat.reduceAdd, Nat.reduceSub, Nat.reduceMul, Nat.reduceEqDiff, Nat.reduceLT, Nat.reduceLeDiff, eq_true c166]
   refine arC.of (ok89 a0 s1_3 x167 hx167) Tryz.call89 ?_
   simp only [go_sem, ↓reduceIte, reduceCtorEq, Nat.reduceAdd, Nat.reduceSub, Nat.reduceMul, Nat.reduceEqDiff, Nat.reduceLT, Nat.reduceLeDiff, eq_true c166]
   subst hK
   refine AW.join (fun s => ⟨(upd (upd (upd (upd (upd anyF 0 (.sl (List.map enc3 a0))) 3 (.own 8 0 s.1.length)) 4 (.val (.int .i64 (IntKind.i64.wrap (s1_1 + 1))))) 6 (.val (.int .i64 s1_3))) 7 (.val (.int .i64 s.2))), hpL [] [some (.row 1 true (List.map enc5 s.1))], 9⟩) (fun s => f52_j3 a0 s1_1 s1_3 s = some x) ?_ ?_
   ·refine AW.regL [0, 3, 4, 5, 6, 7, 20] ?_
    generalize hK : AW Tryz.prog _ _ _ = K
    simp only [go_sem, ↓reduceIte, reduceCtorEq, Nat.reduceAdd, Nat.reduceSub, Nat.reduceMul, Nat.reduceEqDiff, Nat.reduceLT, Nat.reduceLeDiff, eq_true c166]
    subst hK
    by_cases c208 : 0 < x167
    ·rw [if_pos c208] at h
     refine AW.ifT rfl c208 ?_
     obtain ⟨x209, hx209, h⟩ := Option.bind_eq_some_iff.1 h
     obtain ⟨x210, hx210, h⟩ := Option.bind_eq_some_iff.1 h
     obtain ⟨hx210b, hx210e⟩ := appO?_some.1 hx210
     have hx210f : ∀ id o : Nat, appO 1 1 id (List.map enc5 x209) 0 s1_0.length o (some (.row 1 true (List.map enc5 s1_0))) = some ⟨.own id 0 x210.length, [(o, none), (id, some (.row 1 true (List.map enc5 x210)))]⟩ := fun id o => by
       subst hx210e; rw [appO_ok (by simp) (by simpa using hx210b) (by decide)]; first | (simp [enc5]; done) | (simp [enc5]; omega)
     obtain ⟨x211, hx211, h⟩ := Option.bind_eq_some_iff.1 h
     obtain ⟨hx211a, hx211b⟩ := ix_some.1 hx211
     obtain ⟨x212, hx212, h⟩ := Option.bind_eq_some_iff.1 h
     obtain ⟨x213, hx213, h⟩ := Option.bind_eq_some_iff.1 h
     obtain ⟨hx213b, hx213e⟩ := appO?_some.1 hx213
     have hx213f : ∀ id o : Nat, appO 1 1 id (List.map enc5 x212) 0 x210.length o (some (.row 1 true (List.map enc5 x210))) = some ⟨.own id 0 x213.length, [(o, none), (id, some (.row 1 true (List.map enc5 x213)))]⟩ := fun id o => by
       subst hx213e; rw [appO_ok (by simp) (by simpa using hx213b) (by decide)]; first | (simp [enc5]; done) | (simp [enc5]; omega)
     obtain ⟨x214, hx214, h⟩ := Option.bind_eq_some_iff.1 h
     obtain ⟨hx214a, hx214b⟩ := ix_some.1 hx214
     obtain ⟨x215, hx215, h⟩ := Option.bind_eq_some_iff.1 h
     obtain ⟨x216, hx216, h⟩ := Option.bind_eq_some_iff.1 h
     obtain ⟨hx216b, hx216e⟩ := appO?_some.1 hx216
     have hx216f : ∀ id o : Nat, appO 1 1 id (List.map enc5 x215) 0 x213.length o (some (.row 1 true (List.map enc5 x213))) = some ⟨.own id 0 x216.length, [(o, none), (id, some (.row 1 true (List.map enc5 x216)))]⟩ := fun id o => by
       subst hx216e; rw [appO_ok (by simp) (by simpa using hx216b) (by decide)]; first | (simp [enc5]; done) | (simp [enc5]; omega)
     refine AW.drawL [0, 3, 4, 6, 7] [[], [], [1], [1, 2], [1, 2, 3], [1, 2, 3, 4], [0, 1, 2, 3, 4, 5], [], [], [7, 8], [7, 8, 9], [], [7, 8, 9, 10, 11], [7, 8, 9, 10, 11, 12], [7, 8, 9, 10, 11, 12, 13], [0, 1, 2, 3, 4, 5, 6, 7, 8, 9, 10, 11, 12, 13, 14], [0, 1, 2, 3, 4, 5, 6, 7, 8, 9, 10, 11, 12, 13, 14, 15], [], [], [18], [17, 18, 19], [17, 18, 19, 20], [], [], [22, 23], [22, 23, 24], [17, 18, 19, 20, 21, 22, 23, 24, 25], [17, 18, 19, 20, 21, 22, 23, 24, 25, 26], [17, 18, 19, 20, 21, 22, 23, 24, 25, 26, 27], [0, 1, 2, 3, 4, 5, 6, 7, 8, 9, 10, 11, 12, 13, 14, 15, 16, 17, 18, 19, 20, 21, 22, 23, 24, 25, 26, 27, 28], [0, 1, 2, 3, 4, 5, 6, 7, 8, 9, 10, 11, 12, 13, 14, 15, 16, 17, 18, 19, 20, 21, 22, 23, 24, 25, 26, 27, 28, 29], [0, 1, 2, 3, 4, 5, 6, 7, 8, 9, 10, 11, 12, 13, 14, 15, 16, 17, 18, 19, 20, 21, 22, 23, 24, 25, 26, 27, 28, 29, 30]] [0, 1, 2, 3, 4, 5, 6, 7, 8, 9, 10, 11, 12, 13, 14, 15, 16, 17, 18, 19, 20, 21, 22, 23, 24, 25, 26, 27, 28, 29, 30, 31] noFt (fun _ _ _ h => by simp [noFt] at h) draws (by kernel_rfl) (by kernel_rfl) ?_
     generalize hK : thenA _ _ Exit.normal = K
     simp only [go_sem, ↓reduceIte, reduceCtorEq, Nat.reduceAdd, Nat.reduceSub, Nat.reduceMul, Nat.reduceEqDiff, Nat.reduceLT, Nat.reduceLeDiff, eq_true c166, eq_true c208, hx210f, natOf_le hx211a, hx211b, hx213f, natOf_le hx214a, hx214b, hx216f]
     refine adN.pc (ok88 (IntKind.u64.wrap (IntKind.i64.wrap ((IntKind.i64.wrap (2 * x167)) + 1))) x209 hx209) Tryz.call88 callV_fn (by simp only [go_sem, ↓reduceIte, reduceCtorEq, Nat.reduceAdd, Nat.reduceSub, Nat.reduceMul, Nat.reduceEqDiff, Nat.reduceLT, Nat.reduceLeDiff, eq_true c166, eq_true c208, hx210f, natOf_le hx211a, hx211b, hx213f, natOf_le hx214a, hx214b, hx216f]) (by simp only [go_sem, ↓reduceIte, reduceCtorEq, Nat.reduceAdd, Nat.reduceSub, Nat.reduceMul, Nat.reduceEqDiff, Nat.reduceLT, Nat.reduceLeDiff]) ?_
     simp only [go_sem, ↓reduceIte, reduceCtorEq, Nat.reduceAdd, Nat.reduceSub, Nat.reduceMul, Nat.reduceEqDiff, Nat.reduceLT, Nat.reduceLeDiff, eq_true c166, eq_true c208, hx210f, natOf_le hx211a, hx211b, hx213f, natOf_le hx214a, hx214b, hx216f]
     refine adN.pc (ok88 (IntKind.u64.wrap (IntKind.i64.wrap ((IntKind.i64.wrap (x211 - s1_2)) - 1))) x212 hx212) Tryz.call88 callV_fn (by simp only [go_sem, ↓reduceIte, reduceCtorEq, Nat.reduceAdd, Nat.reduceSub, Nat.reduceMul, Nat.reduceEqDiff, Nat.reduceLT, Nat.reduceLeDiff, eq_true c166, eq_true c208, hx210f, natOf_le hx211a, hx211b, hx213f, natOf_le hx214a, hx214b, hx216f]) (by simp only [go_sem, ↓reduceIte, reduceCtorEq, Nat.reduceAdd, Nat.reduceSub, Nat.reduceMul, Nat.reduceEqDiff, Nat.reduceLT, Nat.reduceLeDiff]) ?_
     simp only [go_sem, ↓reduceIte, reduceCtorEq, Nat.reduceAdd, Nat.reduceSub, Nat.reduceMul, Nat.reduceEqDiff, Nat.reduceLT, Nat.reduceLeDiff, eq_true c166, eq_true c208, hx210f, natOf_le hx211a, hx211b, hx213f, natOf_le hx214a, hx214b, hx216f]
     refine adN.pc (ok88 (IntKind.u64.wrap (IntKind.i64.wrap ((IntKind.i64.wrap (x214 - x211)) - 1))) x215 hx215) Tryz.call88 callV_fn (by simp only [go_sem, ↓reduceIte, reduceCtorEq, Nat.reduceAdd, Nat.reduceSub, Nat.reduceMul, Nat.reduceEqDiff, Nat.reduceLT, Nat.reduceLeDiff, eq_true c166, eq_true c208, hx210f, natOf_le hx211a, hx211b, hx213f, natOf_le hx214a, hx214b, hx216f]) (by simp only [go_sem, ↓reduceIte, reduceCtorEq, Nat.reduceAdd, Nat.reduceSub, Nat.reduceMul, Nat.reduceEqDiff, Nat.reduceLT, Nat.reduceLeDiff]) ?_
     simp only [go_sem, ↓reduceIte, reduceCtorEq, Nat.reduceAdd, Nat.reduceSub, Nat.reduceMul, Nat.reduceEqDiff, Nat.reduceLT, Nat.reduceLeDiff, eq_true c166, eq_true c208, hx210f, natOf_le hx211a, hx211b, hx213f, natOf_le hx214a, hx214b, hx216f]
     subst hK
     refine thenA_n ?_
     refine ⟨_, h, ?_⟩
     exact Ent.canq [353] RF.any.qv.qo.qv.qv.qv (.nil _) (.ce (.nil _))
    ·rw [if_neg c208] at h
     refine AW.ifF rfl c208 ?_
     refine AW.rX [0, 3, 4, 5, 6, 7] ?_
     refine AW.seq ?_
     refine AW.block ?_
     obtain ⟨y235, hy235, h⟩ := Option.bind_eq_some_iff.1 h
     refine AW.loopO (fun s => ⟨(upd (upd (upd (upd (upd (upd anyF 0 (.sl (List.map enc3 a0))) 3 (.own 8 0 s1_0.length)) 4 (.val (.int .i64 (IntKind.i64.wrap (s1_1 + 1))))) 5 (.val (.int .i64 s1_2))) 6 (.val (.int .i64 s1_3))) 7 (.val (.int .i64 s))), hpL [] [some (.row 1 true (List.map enc5 s1_0))], 9⟩) (fun z e st' => e = Exit.exit 2 ∧ st' = ⟨(upd (upd (upd (upd (upd (upd anyF 0 (.sl (List.map enc3 a0))) 3 (.own 8 0 s1_0.length)) 4 (.val (.int .i64 (IntKind.i64.wrap (s1_1 + 1))))) 5 (.val (.int .i64 s1_2))) 6 (.val (.int .i64 s1_3))) 7 (.val (.int .i64 z))), hpL [] [some (.row 1 true (List.map enc5 s1_0))], 9⟩) hy235 ?_ ?_ ?_
     ·exact Ent.canq [8] RF.any.qv.qo.qv.qv.qv.qv (.nil _) (.ce (.nil _))
     ·clear h hy235
      rintro s18_0 x h
      rw [f52_s18] at h
      refine AW.seq ?_
      by_cases c231 : (IntKind.i64.wrap (s1_3 + s18_0)) < (a0.length : Int)
      ·rw [if_pos c231] at h
       obtain ⟨x232, hx232, h⟩ := Option.bind_eq_some_iff.1 h
       refine AW.regL [0, 3, 4, 5, 6, 7, 65] ?_
       generalize hK : AW Tryz.prog _ _ _ = K
       simp only [go_sem, ↓reduceIte, reduceCtorEq, Nat.reduceAdd, Nat.reduceSub, Nat.reduceMul, Nat.reduceEqDiff, Nat.reduceLT, Nat.reduceLeDiff, eq_true c166, eq_false c208, eq_true c231]
       refine arC.of (ok89 a0 (IntKind.i64.wrap (s1_3 + s18_0)) x232 hx232) Tryz.call89 ?_
       simp only [go_sem, ↓reduceIte, reduceCtorEq, Nat.reduceAdd, Nat.reduceSub, Nat.reduceMul, Nat.reduceEqDiff, Nat.reduceLT, Nat.reduceLeDiff, eq_true c166, eq_false c208, eq_true c231]
       subst hK
       by_cases c233 : x232 = 0
       ·rw [if_pos c233] at h
        refine AW.ifT rfl c233 ?_
        refine AW.skip ?_
        refine thenA_n ?_
        refine AW.block ?_
        refine AW.regionL [0, 3, 4, 5, 6, 7] ?_
        generalize hK : inBlockA _ _ Exit.normal = K
        simp only [go_sem, ↓reduceIte, reduceCtorEq, Nat.reduceAdd, Nat.reduceSub, Nat.reduceMul, Nat.reduceEqDiff, Nat.reduceLT, Nat.reduceLeDiff, eq_true c166, eq_false c208, eq_true c231, eq_true c233]
        subst hK
        refine block_n ?_
        refine thenA_n ?_
        refine ⟨_, (Option.some.inj h).symm, ?_⟩
        exact Ent.canq [8] RF.any.qv.qo.qv.qv.qv.qv (.nil _) (.ce (.nil _))
       ·rw [if_neg c233] at h
        refine AW.ifF rfl c233 ?_
        refine AW.exit ?_
        refine thenA_x ?_
        refine thenA_x ?_
        refine ⟨_, (Option.some.inj h).symm, _, ?_, rfl, rfl⟩
        exact Ent.canq [8] RF.any.qv.qo.qv.qv.qv.qv (.nil _) (.ce (.nil _))
      ·rw [if_neg c231] at h
       refine AW.regL [0, 3, 4, 5, 6, 7, 65] ?_
       generalize hK : AW Tryz.prog _ _ _ = K
       simp only [go_sem, ↓reduceIte, reduceCtorEq, Nat.reduceAdd, Nat.reduceSub, Nat.reduceMul, Nat.reduceEqDiff, Nat.reduceLT, Nat.reduceLeDiff, eq_true c166, eq_false c208, eq_false c231]
       subst hK
       refine AW.ifBF rfl rfl ?_
       refine AW.exit ?_
       refine thenA_x ?_
       refine thenA_x ?_
       refine ⟨_, (Option.some.inj h).symm, _, ?_, rfl, rfl⟩
       exact Ent.canq [8] RF.any.qv.qo.qv.qv.qv.qv (.nil _) (.ce (.nil _))
     ·intro e st' hX
      try dsimp only at h
      try dsimp only at hX
      obtain ⟨rfl, rfl⟩ := hX
      refine ⟨_, Ent.refl, ?_⟩
      refine block_x ?_
      refine thenA_n ?_
      obtain ⟨x236, hx236, h⟩ := Option.bind_eq_some_iff.1 h
      obtain ⟨x237, hx237, h⟩ := Option.bind_eq_some_iff.1 h
      obtain ⟨hx237b, hx237e⟩ := appO?_some.1 hx237
      have hx237f : ∀ id o : Nat, appO 1 1 id (List.map enc5 x236) 0 s1_0.length o (some (.row 1 true (List.map enc5 s1_0))) = some ⟨.own id 0 x237.length, [(o, none), (id, some (.row 1 true (List.map enc5 x237)))]⟩ := fun id o => by
        subst hx237e; rw [appO_ok (by simp) (by simpa using hx237b) (by decide)]; first | (simp [enc5]; done) | (simp [enc5]; omega)
      refine AW.regL [0, 3, 4, 5, 6, 7] ?_
      generalize hK : AW Tryz.prog _ _ _ = K
      simp only [go_sem, ↓reduceIte, reduceCtorEq, Nat.reduceAdd, Nat.reduceSub, Nat.reduceMul, Nat.reduceEqDiff, Nat.reduceLT, Nat.reduceLeDiff, eq_true c166, eq_false c208, hx237f]
      refine arC.of (ok88 (IntKind.u64.wrap (IntKind.i64.wrap (2 * y235))) x236 hx236) Tryz.call88 ?_
      simp only [go_sem, ↓reduceIte, reduceCtorEq, Nat.reduceAdd, Nat.reduceSub, Nat.reduceMul, Nat.reduceEqDiff, Nat.reduceLT, Nat.reduceLeDiff, eq_true c166, eq_false c208, hx237f]
      subst hK
      refine AW.rX [0, 3, 4, 6, 7, 8] ?_
      refine AW.rX [0, 3, 4, 6, 7, 8, 9] ?_
      refine AW.block ?_
      obtain ⟨y254, hy254, h⟩ := Option.bind_eq_some_iff.1 h
      refine AW.loopO (fun s => ⟨(upd (upd (upd (upd (upd (upd (upd anyF 0 (.sl (List.map enc3 a0))) 3 (.own 8 0 s.1.length)) 4 (.val (.int .i64 (IntKind.i64.wrap (s1_1 + 1))))) 6 (.val (.int .i64 s1_3))) 7 (.val (.int .i64 y235))) 8 (.val (.int .i64 s.2.1))) 9 (.val (.int .i64 s.2.2))), hpL [] [some (.row 1 true (List.map enc5 s.1))], 9⟩) (fun z e st' => e = Exit.exit 4 ∧ st' = ⟨(upd (upd (upd (upd (upd anyF 0 (.sl (List.map enc3 a0))) 3 (.own 8 0 z.length)) 4 (.val (.int .i64 (IntKind.i64.wrap (s1_1 + 1))))) 6 (.val (.int .i64 s1_3))) 7 (.val (.int .i64 y235))), hpL [] [some (.row 1 true (List.map enc5 z))], 9⟩) hy254 ?_ ?_ ?_
      ·exact Ent.canq [49] RF.any.qv.qo.qv.qv.qv.qv.qv (.nil _) (.ce (.nil _))
      ·clear h hy254
       rintro ⟨s19_0, s19_1, s19_2⟩ x h
       rw [f52_s19] at h
       refine AW.seq ?_
       refine AW.rX [0, 3, 4, 6, 7, 8, 9, 80] ?_
       by_cases c249 : s19_2 < (IntKind.i64.wrap (s1_3 + y235))
       ·rw [if_pos c249] at h
        refine AW.ifT rfl c249 ?_
        refine AW.skip ?_
        refine thenA_n ?_
        refine AW.seq ?_
        refine AW.block ?_
        obtain ⟨x250, hx250, h⟩ := Option.bind_eq_some_iff.1 h
        obtain ⟨hx250a, hx250b⟩ := ix_some.1 hx250
        obtain ⟨x251, hx251, h⟩ := Option.bind_eq_some_iff.1 h
        obtain ⟨x252, hx252, h⟩ := Option.bind_eq_some_iff.1 h
        obtain ⟨hx252b, hx252e⟩ := appO?_some.1 hx252
        have hx252f : ∀ id o : Nat, appO 1 1 id (List.map enc5 x251) 0 s19_0.length o (some (.row 1 true (List.map enc5 s19_0))) = some ⟨.own id 0 x252.length, [(o, none), (id, some (.row 1 true (List.map enc5 x252)))]⟩ := fun id o => by
          subst hx252e; rw [appO_ok (by simp) (by simpa using hx252b) (by decide)]; first | (simp [enc5]; done) | (simp [enc5]; omega)
        refine AW.regL [0, 3, 4, 6, 7, 9] ?_
        generalize hK : AW Tryz.prog _ _ _ = K
        simp only [go_sem, ↓reduceIte, reduceCtorEq, Nat.reduceAdd, Nat.reduceSub, Nat.reduceMul, Nat.reduceEqDiff, Nat.reduceLT, Nat.reduceLeDiff, eq_true c166, eq_false c208, eq_true c249, natOf_le hx250a, hx250b, hx252f]
        refine arC.of (ok88 (IntKind.u64.wrap (IntKind.i64.wrap ((IntKind.i64.wrap (x250 - s19_1)) - 1))) x251 hx251) Tryz.call88 ?_
        simp only [go_sem, ↓reduceIte, reduceCtorEq, Nat.reduceAdd, Nat.reduceSub, Nat.reduceMul, Nat.reduceEqDiff, Nat.reduceLT, Nat.reduceLeDiff, eq_true c166, eq_false c208, eq_true c249, natOf_le hx250a, hx250b, hx252f]
        subst hK
        refine AW.regionL [0, 3, 4, 6, 7, 8, 9] ?_
        generalize hK : inBlockA _ _ Exit.normal = K
        simp only [go_sem, ↓reduceIte, reduceCtorEq, Nat.reduceAdd, Nat.reduceSub, Nat.reduceMul, Nat.reduceEqDiff, Nat.reduceLT, Nat.reduceLeDiff, eq_true c166, eq_false c208, eq_true c249, natOf_le hx250a, hx250b]
        subst hK
        refine block_n ?_
        refine thenA_n ?_
        refine AW.rY [0, 3, 4, 6, 7, 8, 9] ?_
        refine thenA_n ?_
        refine ⟨_, (Option.some.inj h).symm, ?_⟩
        exact Ent.canq [129] RF.any.qv.qo.qv.qv.qv.qv.qv (.nil _) (.ce (.nil _))
       ·rw [if_neg c249] at h
        refine AW.ifF rfl c249 ?_
        refine AW.exit ?_
        refine thenA_x ?_
        refine thenA_x ?_
        refine ⟨_, (Option.some.inj h).symm, _, ?_, rfl, rfl⟩
        exact Ent.canq [8] RF.any.qv.qo.qv.qv.qv (.nil _) (.ce (.nil _))
      ·intro e st' hX
       try dsimp only at h
       try dsimp only at hX
       obtain ⟨rfl, rfl⟩ := hX
       refine ⟨_, Ent.refl, ?_⟩
       refine block_x ?_
       refine thenA_n ?_
       refine ⟨_, h, ?_⟩
       exact Ent.canq [8] RF.any.qv.qo.qv.qv.qv (.nil _) (.ce (.nil _))
   ·clear h
    rintro ⟨j3_0, j3_1⟩ h
    rw [f52_j3] at h
    refine AW.rX [0, 3, 4, 6] ?_
    obtain ⟨x207, hx207, h⟩ := Option.bind_eq_some_iff.1 h
    obtain ⟨hx207a, hx207b⟩ := ix_some.1 hx207
    refine AW.regionL [0, 3, 4, 5, 6] ?_
    generalize hK : inBlockA _ _ Exit.normal = K
    simp only [go_sem, ↓reduceIte, reduceCtorEq, Nat.reduceAdd, Nat.reduceSub, Nat.reduceMul, Nat.reduceEqDiff, Nat.reduceLT, Nat.reduceLeDiff, eq_true c166, natOf_le hx207a, hx207b]
    subst hK
    refine block_n ?_
    refine thenA_n ?_
    refine ⟨_, (Option.some.inj h).symm, ?_⟩
    exact Ent.canq [8] RF.any.qv.qo.qv.qv.qv (.nil _) (.ce (.nil _))
  ·rw [if_neg c166] at h
   refine AW.ifF rfl c166 ?_
   refine AW.exit ?_
   refine thenA_x ?_
   refine thenA_x ?_
   refine ⟨_, (Option.some.inj h).symm, _, ?_, rfl, rfl⟩
   exact Ent.canq [8] RF.any.qo.qv (.nil _) (.ce (.nil _))
 ·intro e st' hX
  obtain ⟨y256, y257⟩ := y255
  try dsimp only at h
  try dsimp only at hX
  obtain ⟨rfl, rfl⟩ := hX
  refine ⟨_, Ent.refl, ?_⟩
  refine block_x ?_
  refine thenA_n ?_
  obtain ⟨x258, hx258, h⟩ := Option.bind_eq_some_iff.1 h
  obtain ⟨x259, hx259, h⟩ := Option.bind_eq_some_iff.1 h
  obtain ⟨hx259b, hx259e⟩ := appO?_some.1 hx259
  have hx259f : ∀ id o : Nat, appO 1 1 id (List.map enc5 y257) 0 x258.length o (some (.row 1 true (List.map enc5 x258))) = some ⟨.own id 0 x259.length, [(o, none), (id, some (.row 1 true (List.map enc5 x259)))]⟩ := fun id o => by
    subst hx259e; rw [appO_ok (by simp) (by simpa using hx259b) (by decide)]; first | (simp [enc5]; done) | (simp [enc5]; omega)
  refine AW.regL [2] ?_
  generalize hK : AW Tryz.prog _ _ _ = K
  simp only [go_sem, ↓reduceIte, reduceCtorEq, Nat.reduceAdd, Nat.reduceSub, Nat.reduceMul, Nat.reduceEqDiff, Nat.reduceLT, Nat.reduceLeDiff, hx259f]
  refine arC.of (ok88 (IntKind.u64.wrap y256) x258 hx258) Tryz.call88 ?_
  simp only [go_sem, ↓reduceIte, reduceCtorEq, Nat.reduceAdd, Nat.reduceSub, Nat.reduceMul, Nat.reduceEqDiff, Nat.reduceLT, Nat.reduceLeDiff, hx259f]
  subst hK
  refine AW.ret ?_
  obtain rfl := Option.some.inj h
  (simp only [go_sem, ↓reduceIte, reduceCtorEq, Nat.reduceAdd, Nat.reduceSub, Nat.reduceMul, Nat.reduceEqDiff, Nat.reduceLT, Nat.reduceLeDiff, finA] <;> try simp)
end Au
end Go.Proofs.Yt

set_option linter.all false
set_option maxRecDepth 8000
set_option maxHeartbeats 1000000
namespace Go.Proofs.Yt
open Go.Gm
namespace Au
noncomputable def f93_s1 (a0 : List Res) : (List Int) × Int → Option (((List Int) × Int) ⊕ (List Int))
  | (s1_0, s1_1) => (if s1_1 < (a0.length : Int) then ((ix a0 s1_1).bind fun x20 => ((f51 x20.Key).bind fun x21 => ((appO? s1_0 x21).bind fun x22 => ((f52 x20.Offs).bind fun x23 => ((f51 (strOfNums x23)).bind fun x24 => ((appO? x22 x24).bind fun x25 => some (.inl (x25, IntKind.i64.wrap (s1_1 + 1))))))))) else some (.inr s1_0))
noncomputable def f93 (a0 : List Res) : Option (List Int) := ((f88 (IntKind.u64.wrap (a0.length : Int))).bind fun x1 => ((loopO (f93_s1 a0) (x1, 0)).bind fun y27 => some y27))
theorem ok93 (a0 : List Res) (r : (List Int)) (h : f93 a0 = some r) : PC Tryz.prog 93 [.sl (List.map encRes a0)] (.fr 1 (List.map enc5 r)) := by
 rw [f93] at h
 refine pc_of8 (N := 33) (rs := [.tmp 2]) Tryz.func93 rfl rfl rfl (Nat.le_of_ble_eq_true rfl) ?_
 refine AW.rX [0] ?_
 obtain ⟨x1, hx1, h⟩ := Option.bind_eq_some_iff.1 h
 refine AW.regL [0, 3] ?_
 generalize hK : AW Tryz.prog _ _ _ = K
 simp only [go_sem, ↓reduceIte, reduceCtorEq, Nat.reduceAdd, Nat.reduceSub, Nat.reduceMul, Nat.reduceEqDiff, Nat.reduceLT, Nat.reduceLeDiff]
 refine arC.of (ok88 (IntKind.u64.wrap (a0.length : Int)) x1 hx1) Tryz.call88 ?_
 simp only [go_sem, ↓reduceIte, reduceCtorEq, Nat.reduceAdd, Nat.reduceSub, Nat.reduceMul, Nat.reduceEqDiff, Nat.reduceLT, Nat.reduceLeDiff]
 subst hK
 refine AW.seq ?_
 refine AW.rX [0, 3, 4] ?_
 refine AW.block ?_
 obtain ⟨y27, hy27, h⟩ := Option.bind_eq_some_iff.1 h
 refine AW.loopO (fun s => ⟨(upd (upd (upd anyF 0 (.sl (List.map encRes a0))) 3 (.own 8 0 s.1.length)) 4 (.val (.int .i64 s.2))), hpL [] [some (.row 1 true (List.map enc5 s.1))], 9⟩) (fun z e st' => e = Exit.exit 0 ∧ st' = ⟨(upd anyF 3 (.own 8 0 z.length)), hpL [] [some (.row 1 true (List.map enc5 z))], 9⟩) hy27 ?_ ?_ ?_
 ·exact Ent.canq [40] RF.any.qv.qo.qv (.nil _) (.ce (.nil _))
 ·clear h hy27
  rintro ⟨s1_0, s1_1⟩ x h
  rw [f93_s1] at h
  refine AW.seq ?_
  refine AW.rX [0, 3, 4, 12] ?_
  by_cases c19 : s1_1 < (a0.length : Int)
  ·rw [if_pos c19] at h
   refine AW.ifT rfl c19 ?_
   refine AW.skip ?_
   refine thenA_n ?_
   refine AW.seq ?_
   refine AW.block ?_
   obtain ⟨x20, hx20, h⟩ := Option.bind_eq_some_iff.1 h
   obtain ⟨hx20a, hx20b⟩ := ix_some.1 hx20
   obtain ⟨x21, hx21, h⟩ := Option.bind_eq_some_iff.1 h
   obtain ⟨x22, hx22, h⟩ := Option.bind_eq_some_iff.1 h
   obtain ⟨hx22b, hx22e⟩ := appO?_some.1 hx22
   have hx22f : ∀ id o : Nat, appO 1 1 id (List.map enc5 x21) 0 s1_0.length o (some (.row 1 true (List.map enc5 s1_0))) = some ⟨.own id 0 x22.length, [(o, none), (id, some (.row 1 true (List.map enc5 x22)))]⟩ := fun id o => by
     subst hx22e; rw [appO_ok (by simp) (by simpa using hx22b) (by decide)]; first | (simp [enc5]; done) | (simp [enc5]; omega)
   obtain ⟨x23, hx23, h⟩ := Option.bind_eq_some_iff.1 h
   obtain ⟨x24, hx24, h⟩ := Option.bind_eq_some_iff.1 h
   obtain ⟨x25, hx25, h⟩ := Option.bind_eq_some_iff.1 h
   obtain ⟨hx25b, hx25e⟩ := appO?_some.1 hx25
   have hx25f : ∀ id o : Nat, appO 1 1 id (List.map enc5 x24) 0 x22.length o (some (.row 1 true (List.map enc5 x22))) = some ⟨.own id 0 x25.length, [(o, none), (id, some (.row 1 true (List.map enc5 x25)))]⟩ := fun id o => by
     subst hx25e; rw [appO_ok (by simp) (by simpa using hx25b) (by decide)]; first | (simp [enc5]; done) | (simp [enc5]; omega)
   refine AW.drawL [0, 3, 4] [[], [], [], [1, 2], [1, 2, 3], [1, 2, 3, 4], [1, 2, 3, 4, 5], [0, 1, 2, 3, 4, 5, 6], [], [], [8, 9], [8, 9, 10], [8, 9, 10, 11], [0, 1, 2, 3, 4, 5, 6, 7, 8, 9, 10, 11, 12], [0, 1, 2, 3, 4, 5, 6, 7, 8, 9, 10, 11, 12, 13], [0, 1, 2, 3, 4, 5, 6, 7, 8, 9, 10, 11, 12, 13, 14], [0, 1, 2, 3, 4, 5, 6, 7, 8, 9, 10, 11, 12, 13, 14, 15], [0, 1, 2, 3, 4, 5, 6, 7, 8, 9, 10, 11, 12, 13, 14, 15, 16]] [0, 1, 2, 3, 4, 5, 6, 7, 8, 9, 10, 11, 12, 13, 14, 15, 16, 17] noFt (fun _ _ _ h => by simp [noFt] at h) draws (by kernel_rfl) (by kernel_rfl) ?_
   generalize hK : inBlockA _ _ Exit.normal = K
   simp only [go_sem, ↓reduceIte, reduceCtorEq, Nat.reduceAdd, Nat.reduceSub, Nat.reduceMul, Nat.reduceEqDiff, Nat.reduceLT, Nat.reduceLeDiff, eq_true c19, natOf_le hx20a, hx20b, hx22f, byteNums_map (enc := enc5) (fun _ => rfl), hx25f]
   refine adN.pc (ok51 x20.Key x21 hx21) Tryz.call51 callV_fn (by simp only [go_sem, ↓reduceIte, reduceCtorEq, Nat.reduceAdd, Nat.reduceSub, Nat.reduceMul, Nat.reduceEqDiff, Nat.reduceLT, Nat.reduceLeDiff, eq_true c19, natOf_le hx20a, hx20b, hx22f, byteNums_map (enc := enc5) (fun _ => rfl), hx25f]) (by simp only [go_sem, ↓reduceIte, reduceCtorEq, Nat.reduceAdd, Nat.reduceSub, Nat.reduceMul, Nat.reduceEqDiff, Nat.reduceLT, Nat.reduceLeDiff]) ?_
   simp only [go_sem, ↓reduceIte, reduceCtorEq, Nat.reduceAdd, Nat.reduceSub, Nat.reduceMul, Nat.reduceEqDiff, Nat.reduceLT, Nat.reduceLeDiff, eq_true c19, natOf_le hx20a, hx20b, hx22f, byteNums_map (enc := enc5) (fun _ => rfl), hx25f]
   refine adN.pc (ok52 x20.Offs x23 hx23) Tryz.call52 callV_fn (by simp only [go_sem, ↓reduceIte, reduceCtorEq, Nat.reduceAdd, Nat.reduceSub, Nat.reduceMul, Nat.reduceEqDiff, Nat.reduceLT, Nat.reduceLeDiff, eq_true c19, natOf_le hx20a, hx20b, hx22f, byteNums_map (enc := enc5) (fun _ => rfl), hx25f]) (by simp only [go_sem, ↓reduceIte, reduceCtorEq, Nat.reduceAdd, Nat.reduceSub, Nat.reduceMul, Nat.reduceEqDiff, Nat.reduceLT, Nat.reduceLeDiff]) ?_
   simp only [go_sem, ↓reduceIte, reduceCtorEq, Nat.reduceAdd, Nat.reduceSub, Nat.reduceMul, Nat.reduceEqDiff, Nat.reduceLT, Nat.reduceLeDiff, eq_true c19, natOf_le hx20a, hx20b, hx22f, byteNums_map (enc := enc5) (fun _ => rfl), hx25f]
   refine adN.pc (ok51 (strOfNums x23) x24 hx24) Tryz.call51 callV_fn (by simp only [go_sem, ↓reduceIte, reduceCtorEq, Nat.reduceAdd, Nat.reduceSub, Nat.reduceMul, Nat.reduceEqDiff, Nat.reduceLT, Nat.reduceLeDiff, eq_true c19, natOf_le hx20a, hx20b, hx22f, byteNums_map (enc := enc5) (fun _ => rfl), hx25f]) (by simp only [go_sem, ↓reduceIte, reduceCtorEq, Nat.reduceAdd, Nat.reduceSub, Nat.reduceMul, Nat.reduceEqDiff, Nat.reduceLT, Nat.reduceLeDiff]) ?_
   simp only [go_sem, ↓reduceIte, reduceCtorEq, Nat.reduceAdd, Nat.reduceSub, Nat.reduceMul, Nat.reduceEqDiff, Nat.reduceLT, Nat.reduceLeDiff, eq_true c19, natOf_le hx20a, hx20b, hx22f, byteNums_map (enc := enc5) (fun _ => rfl), hx25f]
   subst hK
   refine block_n ?_
   refine thenA_n ?_
   refine AW.rY [0, 3, 4] ?_
   refine thenA_n ?_
   refine ⟨_, (Option.some.inj h).symm, ?_⟩
   exact Ent.canq [169] RF.any.qv.qo.qv (.nil _) (.ce (.nil _))
  ·rw [if_neg c19] at h
   refine AW.ifF rfl c19 ?_
   refine AW.exit ?_
   refine thenA_x ?_
   refine thenA_x ?_
   refine ⟨_, (Option.some.inj h).symm, _, ?_, rfl, rfl⟩
   exact Ent.canq [8] RF.any.qo (.nil _) (.ce (.nil _))
 ·intro e st' hX
  try dsimp only at h
  try dsimp only at hX
  obtain ⟨rfl, rfl⟩ := hX
  refine ⟨_, Ent.refl, ?_⟩
  refine block_x ?_
  refine thenA_n ?_
  refine AW.rX [2] ?_
  refine AW.ret ?_
  obtain rfl := Option.some.inj h
  (simp only [go_sem, ↓reduceIte, reduceCtorEq, Nat.reduceAdd, Nat.reduceSub, Nat.reduceMul, Nat.reduceEqDiff, Nat.reduceLT, Nat.reduceLeDiff, finA] <;> try simp)
end Au
end Go.Proofs.Yt

set_option linter.all false
set_option maxRecDepth 8000
set_option maxHeartbeats 1000000
namespace Go.Proofs.Yt
open Go.Gm
namespace Au
noncomputable def f55 (a0 : List Res) : Option ((List Int) × (List Int)) := ((f92 a0).bind fun x1 => ((f91 x1).bind fun x2 => ((f90 x2).bind fun x3 => ((f93 a0).bind fun x4 => ((f90 x4).bind fun x5 => some (x3, x5))))))
theorem ok55 (a0 : List Res) (r : (List Int) × (List Int)) (h : f55 a0 = some r) : PC Tryz.prog 55 [.sl (List.map encRes a0)] (.tup [.fr 1 (List.map enc5 r.1), .fr 1 (List.map enc5 r.2)]) := by
 rw [f55] at h
 refine pc_of8 (N := 11) (rs := [.tmp 2, .tmp 3]) Tryz.func55 rfl rfl rfl (Nat.le_of_ble_eq_true rfl) ?_
 refine AW.rX [0] ?_
 obtain ⟨x1, hx1, h⟩ := Option.bind_eq_some_iff.1 h
 obtain ⟨x2, hx2, h⟩ := Option.bind_eq_some_iff.1 h
 obtain ⟨x3, hx3, h⟩ := Option.bind_eq_some_iff.1 h
 obtain ⟨x4, hx4, h⟩ := Option.bind_eq_some_iff.1 h
 obtain ⟨x5, hx5, h⟩ := Option.bind_eq_some_iff.1 h
 refine AW.regL [2, 3] ?_
 generalize hK : AW Tryz.prog _ _ _ = K
 simp only [go_sem, ↓reduceIte, reduceCtorEq, Nat.reduceAdd, Nat.reduceSub, Nat.reduceMul, Nat.reduceEqDiff, Nat.reduceLT, Nat.reduceLeDiff]
 refine arC.of (ok92 a0 x1 hx1) Tryz.call92 ?_
 simp only [go_sem, ↓reduceIte, reduceCtorEq, Nat.reduceAdd, Nat.reduceSub, Nat.reduceMul, Nat.reduceEqDiff, Nat.reduceLT, Nat.reduceLeDiff]
 refine arC.of (ok91 x1 x2 hx2) Tryz.call91 ?_
 simp only [go_sem, ↓reduceIte, reduceCtorEq, Nat.reduceAdd, Nat.reduceSub, Nat.reduceMul, Nat.reduceEqDiff, Nat.reduceLT, Nat.reduceLeDiff]
 refine arC.of (ok90 x2 x3 hx3) Tryz.call90 ?_
 simp only [go_sem, ↓reduceIte, reduceCtorEq, Nat.reduceAdd, Nat.reduceSub, Nat.reduceMul, Nat.reduceEqDiff, Nat.reduceLT, Nat.reduceLeDiff]
 refine arC.of (ok93 a0 x4 hx4) Tryz.call93 ?_
 simp only [go_sem, ↓reduceIte, reduceCtorEq, Nat.reduceAdd, Nat.reduceSub, Nat.reduceMul, Nat.reduceEqDiff, Nat.reduceLT, Nat.reduceLeDiff]
 refine arC.of (ok90 x4 x5 hx5) Tryz.call90 ?_
 simp only [go_sem, ↓reduceIte, reduceCtorEq, Nat.reduceAdd, Nat.reduceSub, Nat.reduceMul, Nat.reduceEqDiff, Nat.reduceLT, Nat.reduceLeDiff]
 subst hK
 refine AW.ret ?_
 obtain rfl := Option.some.inj h
 (simp only [go_sem, ↓reduceIte, reduceCtorEq, Nat.reduceAdd, Nat.reduceSub, Nat.reduceMul, Nat.reduceEqDiff, Nat.reduceLT, Nat.reduceLeDiff, finA] <;> try simp)
end Au
end Go.Proofs.Yt

set_option linter.all false
set_option maxRecDepth 8000
set_option maxHeartbeats 1000000
namespace Go.Proofs.Yt
open Go.Gm
namespace Au
noncomputable def f29 (a0 : List Res) : Option (List (A2 (List Int))) := ((f55 a0).bind fun x1 => some [⟨x1.1, x1.2⟩])
theorem ok29 (a0 : List Res) (r : (List (A2 (List Int)))) (h : f29 a0 = some r) : PC Tryz.prog 29 [.sl (List.map encRes a0)] (.fr 2 (List.map enc71 r)) := by
 rw [f29] at h
 refine pc_of8 (N := 14) (rs := [.tmp 2]) Tryz.func29 rfl rfl rfl (Nat.le_of_ble_eq_true rfl) ?_
 refine AW.rX [0] ?_
 obtain ⟨x1, hx1, h⟩ := Option.bind_eq_some_iff.1 h
 refine AW.regL [3, 4] ?_
 generalize hK : AW Tryz.prog _ _ _ = K
 simp only [go_sem, ↓reduceIte, reduceCtorEq, Nat.reduceAdd, Nat.reduceSub, Nat.reduceMul, Nat.reduceEqDiff, Nat.reduceLT, Nat.reduceLeDiff]
 refine arC.of (ok55 a0 x1 hx1) Tryz.call55 ?_
 simp only [go_sem, ↓reduceIte, reduceCtorEq, Nat.reduceAdd, Nat.reduceSub, Nat.reduceMul, Nat.reduceEqDiff, Nat.reduceLT, Nat.reduceLeDiff]
 subst hK
 refine AW.ent (Ent.still 3 rfl (own_sl (sz := 1) (m := true) rfl (by first | rfl | simp [bytesI_len]) (by simp only [go_sem]))) ?_
 refine AW.ent (Ent.still 4 rfl (own_sl (sz := 1) (m := true) rfl (by first | rfl | simp [bytesI_len]) (by simp only [go_sem]))) ?_
 refine AW.rX [2] ?_
 refine AW.ret ?_
 obtain rfl := Option.some.inj h
 (simp only [go_sem, ↓reduceIte, reduceCtorEq, Nat.reduceAdd, Nat.reduceSub, Nat.reduceMul, Nat.reduceEqDiff, Nat.reduceLT, Nat.reduceLeDiff, finA] <;> try simp)
end Au
end Go.Proofs.Yt

set_option linter.all false
set_option maxRecDepth 8000
set_option maxHeartbeats 1000000
namespace Go.Proofs.Yt
open Go.Gm
namespace Au
noncomputable def f61 (a0 : ByteArray) (a1 : Int) (a2 : Er) : Option Er := (if (Er.isNil a2) = true then some Er.nil else some (Er.slip a0 a1 a2))
theorem ok61 (a0 : ByteArray) (a1 : Int) (a2 : Er) (r : Er) (h : f61 a0 a1 a2 = some r) : PC Tryz.prog 61 [.val (.string a0), .val (.int .i64 a1), .val (erV a2)] (.val (erV r)) := by
 rw [f61] at h
 refine pc_of8 (N := 14) (rs := [.tmp 6]) Tryz.func61 rfl rfl rfl (Nat.le_of_ble_eq_true rfl) ?_
 refine AW.rX [0, 1, 2] ?_
 refine AW.seq ?_
 refine AW.regL [0, 1, 2, 8] ?_
 generalize hK : AW Tryz.prog _ _ _ = K
 simp only [go_sem, ↓reduceIte, reduceCtorEq, Nat.reduceAdd, Nat.reduceSub, Nat.reduceMul, Nat.reduceEqDiff, Nat.reduceLT, Nat.reduceLeDiff, er_eql]
 subst hK
 by_cases c1 : (Er.isNil a2) = true
 ·rw [if_pos c1] at h
  refine AW.ifBT rfl c1 ?_
  refine AW.regL [6] ?_
  generalize hK : AW Tryz.prog _ _ _ = K
  simp only [go_sem, ↓reduceIte, reduceCtorEq, Nat.reduceAdd, Nat.reduceSub, Nat.reduceMul, Nat.reduceEqDiff, Nat.reduceLT, Nat.reduceLeDiff, c1]
  subst hK
  refine AW.ret ?_
  refine thenA_r ?_
  obtain rfl := Option.some.inj h
  (simp only [go_sem, ↓reduceIte, reduceCtorEq, Nat.reduceAdd, Nat.reduceSub, Nat.reduceMul, Nat.reduceEqDiff, Nat.reduceLT, Nat.reduceLeDiff, c1, finA] <;> try simp)
 ·rw [if_neg c1] at h
  rw [Bool.not_eq_true] at c1
  refine AW.ifBF rfl c1 ?_
  refine AW.skip ?_
  refine thenA_n ?_
  refine AW.regL [6] ?_
  generalize hK : AW Tryz.prog _ _ _ = K
  simp only [go_sem, ↓reduceIte, reduceCtorEq, Nat.reduceAdd, Nat.reduceSub, Nat.reduceMul, Nat.reduceEqDiff, Nat.reduceLT, Nat.reduceLeDiff, c1]
  subst hK
  refine AW.ret ?_
  obtain rfl := Option.some.inj h
  (simp only [go_sem, ↓reduceIte, reduceCtorEq, Nat.reduceAdd, Nat.reduceSub, Nat.reduceMul, Nat.reduceEqDiff, Nat.reduceLT, Nat.reduceLeDiff, c1, finA] <;> try simp)
end Au
end Go.Proofs.Yt

set_option linter.all false
set_option maxRecDepth 8000
set_option maxHeartbeats 1000000
namespace Go.Proofs.Yt
open Go.Gm
namespace Au
noncomputable def f33 (a0 : ByteArray) (a1 : Int) (a2 : Int) : Option Er := ((f44 a2).bind fun x1 => ((f61 a0 a1 x1).bind fun x2 => some x2))
theorem ok33 (a0 : ByteArray) (a1 : Int) (a2 : Int) (r : Er) (h : f33 a0 a1 a2 = some r) : PC Tryz.prog 33 [.val (.string a0), .val (.int .i64 a1), .val (.int .i64 a2)] (.val (erV r)) := by
 rw [f33] at h
 refine pc_of8 (N := 12) (rs := [.tmp 6]) Tryz.func33 rfl rfl rfl (Nat.le_of_ble_eq_true rfl) ?_
 refine AW.rX [0, 1, 2] ?_
 obtain ⟨x1, hx1, h⟩ := Option.bind_eq_some_iff.1 h
 obtain ⟨x2, hx2, h⟩ := Option.bind_eq_some_iff.1 h
 refine AW.regL [6] ?_
 generalize hK : AW Tryz.prog _ _ _ = K
 simp only [go_sem, ↓reduceIte, reduceCtorEq, Nat.reduceAdd, Nat.reduceSub, Nat.reduceMul, Nat.reduceEqDiff, Nat.reduceLT, Nat.reduceLeDiff]
 refine arC.of (ok44 a2 x1 hx1) Tryz.call44 ?_
 simp only [go_sem, ↓reduceIte, reduceCtorEq, Nat.reduceAdd, Nat.reduceSub, Nat.reduceMul, Nat.reduceEqDiff, Nat.reduceLT, Nat.reduceLeDiff]
 refine arC.of (ok61 a0 a1 x1 x2 hx2) Tryz.call61 ?_
 simp only [go_sem, ↓reduceIte, reduceCtorEq, Nat.reduceAdd, Nat.reduceSub, Nat.reduceMul, Nat.reduceEqDiff, Nat.reduceLT, Nat.reduceLeDiff]
 subst hK
 refine AW.ret ?_
 obtain rfl := Option.some.inj h
 (simp only [go_sem, ↓reduceIte, reduceCtorEq, Nat.reduceAdd, Nat.reduceSub, Nat.reduceMul, Nat.reduceEqDiff, Nat.reduceLT, Nat.reduceLeDiff, finA] <;> try simp)
end Au
end Go.Proofs.Yt

set_option linter.all false
set_option maxRecDepth 8000
set_option maxHeartbeats 1000000
namespace Go.Proofs.Yt
open Go.Gm
namespace Au
noncomputable def f72_s2 (a0 : List (List Res)) : Int × Int → Option ((Int × Int) ⊕ Int)
  | (s2_0, s2_1) => (if s2_1 < (a0.length : Int) then ((ix a0 s2_1).bind fun x26 => (if (IntKind.i64.wrap (s2_0 + (x26.length : Int))) < 0 then none else some (.inl (IntKind.i64.wrap (s2_0 + (x26.length : Int)), IntKind.i64.wrap (s2_1 + 1))))) else some (.inr s2_0))
noncomputable def f72_s3 (a0 : List (List Res)) : (List Res) × Int → Option (((List Res) × Int) ⊕ (List Res))
  | (s3_0, s3_1) => (if s3_1 < (a0.length : Int) then ((ix a0 s3_1).bind fun x44 => ((appO? s3_0 x44).bind fun x45 => some (.inl (x45, IntKind.i64.wrap (s3_1 + 1))))) else some (.inr s3_0))
noncomputable def f72 (a0 : List (List Res)) : Option (List Res) := ((loopO (f72_s2 a0) (0, 0)).bind fun y29 => ((f104 [] y29).bind fun x30 => ((loopO (f72_s3 a0) (x30, 0)).bind fun y47 => some y47)))
theorem ok72 (a0 : List (List Res)) (r : (List Res)) (h : f72 a0 = some r) : PC Tryz.prog 72 [.sl (List.map enc31 a0)] (.fr 3 (List.map encRes r)) := by
 rw [f72] at h
 refine pc_of8 (N := 36) (rs := [.tmp 2]) Tryz.func72 rfl rfl rfl (Nat.le_of_ble_eq_true rfl) ?_
 refine AW.rX [0] ?_
 refine AW.rX [0, 3] ?_
 refine AW.seq ?_
 refine AW.rX [0, 3, 9, 10, 11] ?_
 refine AW.block ?_
 obtain ⟨y29, hy29, h⟩ := Option.bind_eq_some_iff.1 h
 refine AW.loopO (fun s => ⟨(upd (upd (upd (upd (upd anyF 0 (.sl (List.map enc31 a0))) 3 (.val (.int .i64 s.1))) 9 (.sl (List.map enc31 a0))) 10 (.val (.int .i64 (a0.length : Int)))) 11 (.val (.int .i64 s.2))), hpL [] [], 8⟩) (fun z e st' => e = Exit.exit 0 ∧ st' = ⟨(upd (upd anyF 0 (.sl (List.map enc31 a0))) 3 (.val (.int .i64 z))), hpL [] [], 8⟩) hy29 ?_ ?_ ?_
 ·exact Ent.canq [] RF.any.qv.qv.qv.qv.qv (.nil _) (.nil _)
 ·clear h hy29
  rintro ⟨s2_0, s2_1⟩ x h
  rw [f72_s2] at h
  refine AW.rX [0, 3, 9, 10, 11, 12] ?_
  refine AW.seq ?_
  by_cases c25 : s2_1 < (a0.length : Int)
  ·rw [if_pos c25] at h
   refine AW.ifT rfl c25 ?_
   refine AW.skip ?_
   refine thenA_n ?_
   refine AW.seq ?_
   refine AW.block ?_
   obtain ⟨x26, hx26, h⟩ := Option.bind_eq_some_iff.1 h
   obtain ⟨hx26a, hx26b⟩ := ix_some.1 hx26
   refine AW.regL [0, 3, 5, 9, 10, 11] ?_
   generalize hK : AW Tryz.prog _ _ _ = K
   simp only [go_sem, ↓reduceIte, reduceCtorEq, Nat.reduceAdd, Nat.reduceSub, Nat.reduceMul, Nat.reduceEqDiff, Nat.reduceLT, Nat.reduceLeDiff, eq_true c25, natOf_le hx26a, hx26b]
   subst hK
   refine AW.rX [0, 3, 9, 10, 11] ?_
   refine AW.rX [0, 3, 9, 10, 11, 20] ?_
   by_cases c27 : (IntKind.i64.wrap (s2_0 + (x26.length : Int))) < 0
   ·rw [if_pos c27] at h
    refine AW.ifT rfl c27 ?_
    cases h
   ·rw [if_neg c27] at h
    refine AW.ifF rfl c27 ?_
    refine AW.skip ?_
    refine block_n ?_
    refine thenA_n ?_
    refine AW.rY [0, 3, 9, 10, 11] ?_
    refine thenA_n ?_
    refine ⟨_, (Option.some.inj h).symm, ?_⟩
    exact Ent.canq [] RF.any.qv.qv.qv.qv.qv (.nil _) (.nil _)
  ·rw [if_neg c25] at h
   refine AW.ifF rfl c25 ?_
   refine AW.exit ?_
   refine thenA_x ?_
   refine thenA_x ?_
   refine ⟨_, (Option.some.inj h).symm, _, ?_, rfl, rfl⟩
   exact Ent.canq [] RF.any.qv.qv (.nil _) (.nil _)
 ·intro e st' hX
  try dsimp only at h
  try dsimp only at hX
  obtain ⟨rfl, rfl⟩ := hX
  refine ⟨_, Ent.refl, ?_⟩
  refine block_x ?_
  refine thenA_n ?_
  obtain ⟨x30, hx30, h⟩ := Option.bind_eq_some_iff.1 h
  refine AW.regL [0, 6] ?_
  generalize hK : AW Tryz.prog _ _ _ = K
  simp only [go_sem, ↓reduceIte, reduceCtorEq, Nat.reduceAdd, Nat.reduceSub, Nat.reduceMul, Nat.reduceEqDiff, Nat.reduceLT, Nat.reduceLeDiff]
  refine arC.ok (CallOk.of_vals (us0 := [.slice none 0 0, .int .i64 y29]) (ok104 [] y29 x30 hx30) (by first | decide | simp [go_sem])) Tryz.call104 ?_
  simp only [go_sem, ↓reduceIte, reduceCtorEq, Nat.reduceAdd, Nat.reduceSub, Nat.reduceMul, Nat.reduceEqDiff, Nat.reduceLT, Nat.reduceLeDiff]
  subst hK
  refine AW.seq ?_
  refine AW.rX [6, 25, 26, 27] ?_
  refine AW.block ?_
  obtain ⟨y47, hy47, h⟩ := Option.bind_eq_some_iff.1 h
  refine AW.loopO (fun s => ⟨(upd (upd (upd (upd anyF 6 (.own 8 0 s.1.length)) 25 (.sl (List.map enc31 a0))) 26 (.val (.int .i64 (a0.length : Int)))) 27 (.val (.int .i64 s.2))), hpL [] [some (.row 3 true (List.map encRes s.1))], 9⟩) (fun z e st' => e = Exit.exit 2 ∧ st' = ⟨(upd anyF 6 (.own 8 0 z.length)), hpL [] [some (.row 3 true (List.map encRes z))], 9⟩) hy47 ?_ ?_ ?_
  ·exact Ent.canq [16] RF.any.qo.qv.qv.qv (.nil _) (.ce (.nil _))
  ·clear h hy47
   rintro ⟨s3_0, s3_1⟩ x h
   rw [f72_s3] at h
   refine AW.rX [6, 25, 26, 27, 28] ?_
   refine AW.seq ?_
   by_cases c43 : s3_1 < (a0.length : Int)
   ·rw [if_pos c43] at h
    refine AW.ifT rfl c43 ?_
    refine AW.skip ?_
    refine thenA_n ?_
    refine AW.seq ?_
    refine AW.block ?_
    obtain ⟨x44, hx44, h⟩ := Option.bind_eq_some_iff.1 h
    obtain ⟨hx44a, hx44b⟩ := ix_some.1 hx44
    refine AW.regL [6, 8, 25, 26, 27] ?_
    generalize hK : AW Tryz.prog _ _ _ = K
    simp only [go_sem, ↓reduceIte, reduceCtorEq, Nat.reduceAdd, Nat.reduceSub, Nat.reduceMul, Nat.reduceEqDiff, Nat.reduceLT, Nat.reduceLeDiff, eq_true c43, natOf_le hx44a, hx44b]
    subst hK
    obtain ⟨x45, hx45, h⟩ := Option.bind_eq_some_iff.1 h
    obtain ⟨hx45b, hx45e⟩ := appO?_some.1 hx45
    have hx45f : ∀ id o : Nat, appO 3 56 id (List.map encRes x44) 0 s3_0.length o (some (.row 3 true (List.map encRes s3_0))) = some ⟨.own id 0 x45.length, [(o, none), (id, some (.row 3 true (List.map encRes x45)))]⟩ := fun id o => by
      subst hx45e; rw [appO_ok (by simp) (by simpa using hx45b) (by decide)]; first | (simp [encRes]; done) | (simp [encRes]; omega)
    refine AW.regionL [6, 25, 26, 27] ?_
    generalize hK : inBlockA _ _ Exit.normal = K
    simp only [go_sem, ↓reduceIte, reduceCtorEq, Nat.reduceAdd, Nat.reduceSub, Nat.reduceMul, Nat.reduceEqDiff, Nat.reduceLT, Nat.reduceLeDiff, eq_true c43, hx45f]
    subst hK
    refine block_n ?_
    refine thenA_n ?_
    refine AW.rY [6, 25, 26, 27] ?_
    refine thenA_n ?_
    refine ⟨_, (Option.some.inj h).symm, ?_⟩
    exact Ent.canq [57] RF.any.qo.qv.qv.qv (.nil _) (.ce (.nil _))
   ·rw [if_neg c43] at h
    refine AW.ifF rfl c43 ?_
    refine AW.exit ?_
    refine thenA_x ?_
    refine thenA_x ?_
    refine ⟨_, (Option.some.inj h).symm, _, ?_, rfl, rfl⟩
    exact Ent.canq [8] RF.any.qo (.nil _) (.ce (.nil _))
  ·intro e st' hX
   try dsimp only at h
   try dsimp only at hX
   obtain ⟨rfl, rfl⟩ := hX
   refine ⟨_, Ent.refl, ?_⟩
   refine block_x ?_
   refine thenA_n ?_
   refine AW.rX [2] ?_
   refine AW.ret ?_
   obtain rfl := Option.some.inj h
   (simp only [go_sem, ↓reduceIte, reduceCtorEq, Nat.reduceAdd, Nat.reduceSub, Nat.reduceMul, Nat.reduceEqDiff, Nat.reduceLT, Nat.reduceLeDiff, finA] <;> try simp)
end Au
end Go.Proofs.Yt

set_option linter.all false
set_option maxRecDepth 8000
set_option maxHeartbeats 1000000
namespace Go.Proofs.Yt
open Go.Gm
namespace Au
noncomputable def f74_75 (a0 : List Res) : Option (List Res) := ((f105_75 a0 ((a0.length : Nat) : Int)).bind fun x1 => ((guardO (x1.length = a0.length)).bind fun x2 => some x1))
theorem ok74_75 (a0 : List Res) (r : (List Res)) (h : f74_75 a0 = some r) : IC Tryz.prog 74 [some (.row 3 true (List.map encRes a0))] [.own 0 0 a0.length, .clo (.func 75) [] []] (.tup []) [some (.row 3 true (List.map encRes r))] [] := by
 rw [f74_75] at h
 refine ic_ofJ (N := 9) (rs := []) Tryz.func74 rfl rfl rfl (Nat.le_of_ble_eq_true rfl) ?_
 obtain ⟨x1, hx1, h⟩ := Option.bind_eq_some_iff.1 h
 obtain ⟨x2, hx2, h⟩ := Option.bind_eq_some_iff.1 h
 have lenhx1 : x1.length = a0.length := guardO_some.1 hx2
 refine AW.regionL [] ?_
 generalize hK : finJ Tryz.prog _ _ _ _ _ Exit.normal = K
 simp only [go_sem, ↓reduceIte, reduceCtorEq, Nat.reduceAdd, Nat.reduceSub, Nat.reduceMul, Nat.reduceEqDiff, Nat.reduceLT, Nat.reduceLeDiff, lenhx1]
 refine arC.ok (CallOk.icq (us' := _) (ok105_75 a0 ((a0.length : Nat) : Int) x1 hx1) [0] (.cons (.eq (by simp only [go_sem]) (by first | rfl | simp [upd_ap, hpL_ap, sg_ap])) (.nil _)) (by simp only [mapTL_cons, mapTL_nil, mapT_ptr, mapT_own, mapT_val, mapT_sl, mapT_agg, mapT_ip, mapT_clo, mapT_ifc, sg_ap, List.getD_cons_zero, List.getD_cons_succ]; exact (.cons (.of (by first | rfl | simp [mapT_own, sg_ap])) (.cons (.of rfl) (.cons (.of rfl) .nil))))) Tryz.call105 ?_
 simp only [go_sem, ↓reduceIte, reduceCtorEq, Nat.reduceAdd, Nat.reduceSub, Nat.reduceMul, Nat.reduceEqDiff, Nat.reduceLT, Nat.reduceLeDiff, lenhx1]
 subst hK
 refine ⟨⟨anyF, hpL [some (.row 3 true (List.map encRes x1))] [], 8⟩, ?_, ?_⟩
 · refine Ent.can [] _ _ _ rfl (by first | decide | simp) rfl ?_ ?_ ?_
   · exact RF.any
   · exact .ce (.nil _)
   · exact .nil _
 obtain rfl := Option.some.inj h
 exact ⟨rfl, rfl, _, rfl, by first | rfl | simp [resOf, upd_ap, bytesI_len]⟩
end Au
end Go.Proofs.Yt

set_option linter.all false
set_option maxRecDepth 8000
set_option maxHeartbeats 1000000
namespace Go.Proofs.Yt
open Go.Gm
namespace Au
noncomputable def f43_s1 (x1 : (List Res)) : (List Res) × Int → Option (((List Res) × Int) ⊕ (List Res))
  | (s1_0, s1_1) => (if s1_1 < ((x1.length : Nat) : Int) then ((ix s1_0 s1_1).bind fun x15 => ((f73 x15.Offs).bind fun x16 => some (.inl ((s1_0.set s1_1.toNat (⟨x15.Key, x15.Val, x16⟩ : Res)), IntKind.i64.wrap (s1_1 + 1))))) else some (.inr s1_0))
noncomputable def f43 (a0 : List (List Res)) : Option (List Res) := ((f72 a0).bind fun x1 => ((loopO (f43_s1 x1) (x1, 0)).bind fun y18 => ((f74_75 y18).bind fun x19 => ((guardO (x19.length = y18.length)).bind fun x20 => some x19))))
theorem ok43 (a0 : List (List Res)) (r : (List Res)) (h : f43 a0 = some r) : PC Tryz.prog 43 [.sl (List.map enc31 a0)] (.fr 3 (List.map encRes r)) := by
 rw [f43] at h
 refine pc_of8 (N := 26) (rs := [.tmp 2]) Tryz.func43 rfl rfl rfl (Nat.le_of_ble_eq_true rfl) ?_
 refine AW.rX [0] ?_
 obtain ⟨x1, hx1, h⟩ := Option.bind_eq_some_iff.1 h
 refine AW.regL [3] ?_
 generalize hK : AW Tryz.prog _ _ _ = K
 simp only [go_sem, ↓reduceIte, reduceCtorEq, Nat.reduceAdd, Nat.reduceSub, Nat.reduceMul, Nat.reduceEqDiff, Nat.reduceLT, Nat.reduceLeDiff]
 refine arC.of (ok72 a0 x1 hx1) Tryz.call72 ?_
 simp only [go_sem, ↓reduceIte, reduceCtorEq, Nat.reduceAdd, Nat.reduceSub, Nat.reduceMul, Nat.reduceEqDiff, Nat.reduceLT, Nat.reduceLeDiff]
 subst hK
 refine AW.seq ?_
 refine AW.rX [3, 8, 9] ?_
 refine AW.block ?_
 obtain ⟨y18, hy18, h⟩ := Option.bind_eq_some_iff.1 h
 refine AW.loopO (fun s => ⟨(upd (upd (upd anyF 3 (.own 8 0 s.1.length)) 8 (.val (.int .i64 ((x1.length : Nat) : Int)))) 9 (.val (.int .i64 s.2))), hpL [] [some (.row 3 true (List.map encRes s.1))], 9⟩) (fun z e st' => e = Exit.exit 0 ∧ st' = ⟨(upd anyF 3 (.own 8 0 z.length)), hpL [] [some (.row 3 true (List.map encRes z))], 9⟩) hy18 ?_ ?_ ?_
 ·exact Ent.canq [24] RF.any.qo.qv.qv (.nil _) (.ce (.nil _))
 ·clear h hy18
  rintro ⟨s1_0, s1_1⟩ x h
  rw [f43_s1] at h
  refine AW.rX [3, 8, 9, 10] ?_
  refine AW.seq ?_
  by_cases c14 : s1_1 < ((x1.length : Nat) : Int)
  ·rw [if_pos c14] at h
   refine AW.ifT rfl c14 ?_
   refine AW.skip ?_
   refine thenA_n ?_
   refine AW.seq ?_
   refine AW.block ?_
   refine AW.rX [3, 4, 8, 9] ?_
   obtain ⟨x15, hx15, h⟩ := Option.bind_eq_some_iff.1 h
   obtain ⟨hx15a, hx15b⟩ := ix_some.1 hx15
   obtain ⟨x16, hx16, h⟩ := Option.bind_eq_some_iff.1 h
   refine AW.regionL [3, 8, 9] ?_
   generalize hK : inBlockA _ _ Exit.normal = K
   simp only [go_sem, ↓reduceIte, reduceCtorEq, Nat.reduceAdd, Nat.reduceSub, Nat.reduceMul, Nat.reduceEqDiff, Nat.reduceLT, Nat.reduceLeDiff, eq_true c14, natOf_le hx15a, hx15b, ix_lt hx15b, set_row (enc := encRes) (y := (⟨x15.Key, x15.Val, x16⟩ : Res)) (r := [.val (.string x15.Key), .val (.string x15.Val), .sl (List.map enc3 x16)]) rfl]
   refine arC.of (ok73 x15.Offs x16 hx16) Tryz.call73 ?_
   simp only [go_sem, ↓reduceIte, reduceCtorEq, Nat.reduceAdd, Nat.reduceSub, Nat.reduceMul, Nat.reduceEqDiff, Nat.reduceLT, Nat.reduceLeDiff, eq_true c14, natOf_le hx15a, hx15b, ix_lt hx15b, set_row (enc := encRes) (y := (⟨x15.Key, x15.Val, x16⟩ : Res)) (r := [.val (.string x15.Key), .val (.string x15.Val), .sl (List.map enc3 x16)]) rfl]
   subst hK
   refine block_n ?_
   refine thenA_n ?_
   refine AW.rY [3, 8, 9] ?_
   refine thenA_n ?_
   refine ⟨_, (Option.some.inj h).symm, ?_⟩
   exact Ent.canq [8] RF.any.qo.qv.qv (.nil _) (.ce (.nil _))
  ·rw [if_neg c14] at h
   refine AW.ifF rfl c14 ?_
   refine AW.exit ?_
   refine thenA_x ?_
   refine thenA_x ?_
   refine ⟨_, (Option.some.inj h).symm, _, ?_, rfl, rfl⟩
   exact Ent.canq [8] RF.any.qo (.nil _) (.ce (.nil _))
 ·intro e st' hX
  try dsimp only at h
  try dsimp only at hX
  obtain ⟨rfl, rfl⟩ := hX
  refine ⟨_, Ent.refl, ?_⟩
  refine block_x ?_
  refine thenA_n ?_
  obtain ⟨x19, hx19, h⟩ := Option.bind_eq_some_iff.1 h
  obtain ⟨x20, hx20, h⟩ := Option.bind_eq_some_iff.1 h
  have lenhx19 : x19.length = y18.length := guardO_some.1 hx20
  refine AW.regL [3] ?_
  generalize hK : AW Tryz.prog _ _ _ = K
  simp only [go_sem, ↓reduceIte, reduceCtorEq, Nat.reduceAdd, Nat.reduceSub, Nat.reduceMul, Nat.reduceEqDiff, Nat.reduceLT, Nat.reduceLeDiff, lenhx19]
  refine arC.ok (CallOk.icq (us' := _) (ok74_75 y18 x19 hx19) [8] (.cons (.eq (by simp only [go_sem]) (by first | rfl | simp [upd_ap, hpL_ap, sg_ap])) (.nil _)) (by simp only [mapTL_cons, mapTL_nil, mapT_ptr, mapT_own, mapT_val, mapT_sl, mapT_agg, mapT_ip, mapT_clo, mapT_ifc, sg_ap, List.getD_cons_zero, List.getD_cons_succ]; exact (.cons (.of (by first | rfl | simp [mapT_own, sg_ap])) (.cons Weak.fnclo .nil)))) Tryz.call74 ?_
  simp only [go_sem, ↓reduceIte, reduceCtorEq, Nat.reduceAdd, Nat.reduceSub, Nat.reduceMul, Nat.reduceEqDiff, Nat.reduceLT, Nat.reduceLeDiff, lenhx19]
  subst hK
  refine AW.regL [2] ?_
  generalize hK : AW Tryz.prog _ _ _ = K
  simp only [go_sem, ↓reduceIte, reduceCtorEq, Nat.reduceAdd, Nat.reduceSub, Nat.reduceMul, Nat.reduceEqDiff, Nat.reduceLT, Nat.reduceLeDiff, lenhx19]
  subst hK
  refine AW.ret ?_
  obtain rfl := Option.some.inj h
  (simp only [go_sem, ↓reduceIte, reduceCtorEq, Nat.reduceAdd, Nat.reduceSub, Nat.reduceMul, Nat.reduceEqDiff, Nat.reduceLT, Nat.reduceLeDiff, lenhx19, finA] <;> try simp) <;> try omega
end Au
end Go.Proofs.Yt

set_option linter.all false
set_option maxRecDepth 8000
set_option maxHeartbeats 1000000
namespace Go.Proofs.Yt
open Go.Gm
namespace Au
noncomputable def f95 (a0 : List Int) : Option ((List Pair) × Int) := ((f120 a0 0).bind fun x1 => (if x1.2.2 = 0 then (if x1.2.1 < (a0.length : Int) then some ([], 3) else ((f121 x1.1).bind fun x4 => (if x4 = true then some (x1.1, x1.2.2) else some ([], 3)))) else some (x1.1, x1.2.2)))
theorem ok95 (a0 : List Int) (r : (List Pair) × Int) (h : f95 a0 = some r) : PC Tryz.prog 95 [.sl (List.map enc5 a0)] (.tup [.fr 2 (List.map encPair r.1), .val (.int .i64 r.2)]) := by
 rw [f95] at h
 refine pc_of8 (N := 28) (rs := [.tmp 2, .tmp 3]) Tryz.func95 rfl rfl rfl (Nat.le_of_ble_eq_true rfl) ?_
 refine AW.regL [0] ?_
 generalize hK : AW Tryz.prog _ _ _ = K
 simp only [go_sem, ↓reduceIte, reduceCtorEq, Nat.reduceAdd, Nat.reduceSub, Nat.reduceMul, Nat.reduceEqDiff, Nat.reduceLT, Nat.reduceLeDiff]
 subst hK
 obtain ⟨x1, hx1, h⟩ := Option.bind_eq_some_iff.1 h
 refine AW.regL [0, 4, 5, 6] ?_
 generalize hK : AW Tryz.prog _ _ _ = K
 simp only [go_sem, ↓reduceIte, reduceCtorEq, Nat.reduceAdd, Nat.reduceSub, Nat.reduceMul, Nat.reduceEqDiff, Nat.reduceLT, Nat.reduceLeDiff]
 refine arC.of (ok120 a0 0 x1 hx1) Tryz.call120 ?_
 simp only [go_sem, ↓reduceIte, reduceCtorEq, Nat.reduceAdd, Nat.reduceSub, Nat.reduceMul, Nat.reduceEqDiff, Nat.reduceLT, Nat.reduceLeDiff]
 subst hK
 refine AW.seq ?_
 by_cases c2 : x1.2.2 = 0
 ·rw [if_pos c2] at h
  by_cases c3 : x1.2.1 < (a0.length : Int)
  ·rw [if_pos c3] at h
   refine AW.regL [4, 6, 25] ?_
   generalize hK : AW Tryz.prog _ _ _ = K
   simp only [go_sem, ↓reduceIte, reduceCtorEq, Nat.reduceAdd, Nat.reduceSub, Nat.reduceMul, Nat.reduceEqDiff, Nat.reduceLT, Nat.reduceLeDiff, eq_true c2, eq_true c3]
   subst hK
   refine AW.ifBT rfl rfl ?_
   refine AW.regL [2, 3] ?_
   generalize hK : AW Tryz.prog _ _ _ = K
   simp only [go_sem, ↓reduceIte, reduceCtorEq, Nat.reduceAdd, Nat.reduceSub, Nat.reduceMul, Nat.reduceEqDiff, Nat.reduceLT, Nat.reduceLeDiff, eq_true c2, eq_true c3]
   subst hK
   refine AW.ent (Ent.nilOwn 2 2 (by decide) rfl) ?_
   refine AW.ret ?_
   refine thenA_r ?_
   obtain rfl := Option.some.inj h
   (simp only [go_sem, ↓reduceIte, reduceCtorEq, Nat.reduceAdd, Nat.reduceSub, Nat.reduceMul, Nat.reduceEqDiff, Nat.reduceLT, Nat.reduceLeDiff, eq_true c2, eq_true c3, finA] <;> try simp)
  ·rw [if_neg c3] at h
   obtain ⟨x4, hx4, h⟩ := Option.bind_eq_some_iff.1 h
   refine AW.regL [4, 6, 25] ?_
   generalize hK : AW Tryz.prog _ _ _ = K
   simp only [go_sem, ↓reduceIte, reduceCtorEq, Nat.reduceAdd, Nat.reduceSub, Nat.reduceMul, Nat.reduceEqDiff, Nat.reduceLT, Nat.reduceLeDiff, eq_true c2, eq_false c3]
   refine arC.of (ok121 x1.1 x4 hx4) Tryz.call121 ?_
   simp only [go_sem, ↓reduceIte, reduceCtorEq, Nat.reduceAdd, Nat.reduceSub, Nat.reduceMul, Nat.reduceEqDiff, Nat.reduceLT, Nat.reduceLeDiff, eq_true c2, eq_false c3]
   subst hK
   by_cases c5 : x4 = true
   ·rw [if_pos c5] at h
    refine AW.ifBF rfl (by first | (rw [c5]; rfl) | simp_all) ?_
    refine AW.skip ?_
    refine thenA_n ?_
    refine AW.regL [2, 3] ?_
    generalize hK : AW Tryz.prog _ _ _ = K
    simp only [go_sem, ↓reduceIte, reduceCtorEq, Nat.reduceAdd, Nat.reduceSub, Nat.reduceMul, Nat.reduceEqDiff, Nat.reduceLT, Nat.reduceLeDiff, eq_true c2, eq_false c3, c5]
    subst hK
    refine AW.ret ?_
    obtain rfl := Option.some.inj h
    (simp only [go_sem, ↓reduceIte, reduceCtorEq, Nat.reduceAdd, Nat.reduceSub, Nat.reduceMul, Nat.reduceEqDiff, Nat.reduceLT, Nat.reduceLeDiff, eq_true c2, eq_false c3, c5, finA] <;> try simp)
   ·rw [if_neg c5] at h
    rw [Bool.not_eq_true] at c5
    refine AW.ifBT rfl (by first | (rw [c5]; rfl) | simp_all) ?_
    refine AW.regL [2, 3] ?_
    generalize hK : AW Tryz.prog _ _ _ = K
    simp only [go_sem, ↓reduceIte, reduceCtorEq, Nat.reduceAdd, Nat.reduceSub, Nat.reduceMul, Nat.reduceEqDiff, Nat.reduceLT, Nat.reduceLeDiff, eq_true c2, eq_false c3, c5]
    subst hK
    refine AW.ent (Ent.nilOwn 2 2 (by decide) rfl) ?_
    refine AW.ret ?_
    refine thenA_r ?_
    obtain rfl := Option.some.inj h
    (simp only [go_sem, ↓reduceIte, reduceCtorEq, Nat.reduceAdd, Nat.reduceSub, Nat.reduceMul, Nat.reduceEqDiff, Nat.reduceLT, Nat.reduceLeDiff, eq_true c2, eq_false c3, c5, finA] <;> try simp)
 ·rw [if_neg c2] at h
  refine AW.regL [4, 6, 25] ?_
  generalize hK : AW Tryz.prog _ _ _ = K
  simp only [go_sem, ↓reduceIte, reduceCtorEq, Nat.reduceAdd, Nat.reduceSub, Nat.reduceMul, Nat.reduceEqDiff, Nat.reduceLT, Nat.reduceLeDiff, eq_false c2]
  subst hK
  refine AW.ifBF rfl rfl ?_
  refine AW.skip ?_
  refine thenA_n ?_
  refine AW.rX [2, 3] ?_
  refine AW.ret ?_
  obtain rfl := Option.some.inj h
  (simp only [go_sem, ↓reduceIte, reduceCtorEq, Nat.reduceAdd, Nat.reduceSub, Nat.reduceMul, Nat.reduceEqDiff, Nat.reduceLT, Nat.reduceLeDiff, eq_false c2, finA] <;> try simp)
end Au
end Go.Proofs.Yt
