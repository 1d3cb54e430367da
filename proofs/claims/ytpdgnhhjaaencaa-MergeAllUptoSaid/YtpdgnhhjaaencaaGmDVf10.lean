import Derived.Test.YtpdgnhhjaaencaaGmDV
import Derived.Test.YtpdgnhhjaaencaaGmM9
import Derived.Test.YtpdgnhhjaaencaaGmM8
set_option linter.all false
set_option linter.unusedVariables false
set_option linter.unusedSimpArgs false
set_option linter.all false
set_option maxRecDepth 8000
set_option maxHeartbeats 1000000
namespace Go.Proofs.Y5
open Go.Gm
namespace Au
noncomputable def f10_s18 (s12_0 : List Item) (x229 : Item) : Int → Option (Int ⊕ Int)
  | s18_0 => (if s18_0 < ((s12_0.length : Nat) : Int) then ((ix s12_0 s18_0).bind fun x249 => ((f17 x249.Key x229.Key).bind fun x250 => (if x250 = true then some (.inl (IntKind.i64.wrap (s18_0 + 1))) else some (.inr s18_0)))) else some (.inr s18_0))
noncomputable def f10_j6 (s12_0 : List Item) (s12_1 : Int) (x229 : Item) (y253 : Int) : (List Item) × ByteArray × (List Part) × (List Int) → Option (((List Item) × Int) ⊕ (List Item))
  | (j6_0, j6_1, j6_2, j6_3) => ((appO? ([] : List Part) j6_2).bind fun x259 => ((appO? x259 x229.Parts).bind fun x260 => ((f18 j6_3 x229.Offs).bind fun x261 => ((cutO? s12_0 0 y253).bind fun x262 => ((appO? ([] : List Item) x262).bind fun x263 => ((appO? x263 [⟨j6_1, x260, x261⟩]).bind fun x264 => ((appO? x264 j6_0).bind fun x265 => some (.inl (x265, IntKind.i64.wrap (s12_1 + 1))))))))))
noncomputable def f10_s12 (a0 : List (List Item)) (s1_1 : Int) : (List Item) × Int → Option (((List Item) × Int) ⊕ (List Item))
  | (s12_0, s12_1) => ((ix a0 s1_1).bind fun x227 => (if s12_1 < (x227.length : Int) then ((ix x227 s12_1).bind fun x229 => ((loopO (f10_s18 s12_0 x229) 0).bind fun y253 => ((cutO? s12_0 y253 (s12_0.length : Int)).bind fun x254 => (if y253 < (s12_0.length : Int) then ((ix s12_0 y253).bind fun x267 => (if x267.Key = x229.Key then ((cutO? s12_0 (IntKind.i64.wrap (y253 + 1)) (s12_0.length : Int)).bind fun x269 => f10_j6 s12_0 s12_1 x229 y253 (x269, x267.Key, x267.Parts, x267.Offs)) else f10_j6 s12_0 s12_1 x229 y253 (x254, x229.Key, [], []))) else f10_j6 s12_0 s12_1 x229 y253 (x254, x229.Key, [], []))))) else some (.inr s12_0)))
noncomputable def f10_s1 (a0 : List (List Item)) : (List Item) × Int → Option (((List Item) × Int) ⊕ (List Item))
  | (s1_0, s1_1) => (if s1_1 < (a0.length : Int) then ((loopO (f10_s12 a0 s1_1) (s1_0, 0)).bind fun y271 => some (.inl (y271, IntKind.i64.wrap (s1_1 + 1)))) else some (.inr s1_0))
noncomputable def f10 (a0 : List (List Item)) : Option (List Item) := ((loopO (f10_s1 a0) ([], 0)).bind fun y273 => some y273)
theorem ok10 (a0 : List (List Item)) (r : (List Item)) (h : f10 a0 = some r) : PC Try.prog 10 [.sl (List.map enc22 a0)] (.fr 3 (List.map encItem r)) := by
 rw [f10] at h
 refine pc_of8 (N := 104) (rs := [.tmp 2]) Try.func10 rfl rfl rfl (Nat.le_of_ble_eq_true rfl) ?_
 refine AW.regL [0] ?_
 generalize hK : AW Try.prog _ _ _ = K
 simp only [go_sem, ↓reduceIte, reduceCtorEq, Nat.reduceAdd, Nat.reduceSub, Nat.reduceMul, Nat.reduceEqDiff, Nat.reduceLT, Nat.reduceLeDiff]
 subst hK
 refine AW.regL [0, 3] ?_
 generalize hK : AW Try.prog _ _ _ = K
 simp only [go_sem, ↓reduceIte, reduceCtorEq, Nat.reduceAdd, Nat.reduceSub, Nat.reduceMul, Nat.reduceEqDiff, Nat.reduceLT, Nat.reduceLeDiff]
 subst hK
 refine AW.seq ?_
 refine AW.regL [0, 3, 4] ?_
 generalize hK : AW Try.prog _ _ _ = K
 simp only [go_sem, ↓reduceIte, reduceCtorEq, Nat.reduceAdd, Nat.reduceSub, Nat.reduceMul, Nat.reduceEqDiff, Nat.reduceLT, Nat.reduceLeDiff]
 subst hK
 refine AW.block ?_
 obtain ⟨y273, hy273, h⟩ := Option.bind_eq_some_iff.1 h
 refine AW.loopO (fun s => ⟨(upd (upd (upd anyF 0 (.sl (List.map enc22 a0))) 3 (.own 8 0 s.1.length)) 4 (.val (.int .i64 s.2))), hpL [] [some (.row 3 true (List.map encItem s.1))], 9⟩) (fun z e st' => e = Exit.exit 0 ∧ st' = ⟨(upd anyF 3 (.own 8 0 z.length)), hpL [] [some (.row 3 true (List.map encItem z))], 9⟩) hy273 ?_ ?_ ?_
 ·refine Ent.trans (Ent.nilOwn 3 3 (by decide) rfl) ?_
  refine Ent.can [32] _ _ _ rfl (by first | decide | simp) rfl ?_ ?_ ?_
  · exact (((RF.any.pv (by first | rfl | simp only [go_sem]) (by first | rfl | simp [upd_ap, hpL_ap, tau, mapT, mapTL, bytesI_len])).po (by decide) (by first | rfl | simp [upd_ap, hpL_ap, tau, mapT, mapTL, bytesI_len])).pv (by first | rfl | simp only [go_sem]) (by first | rfl | simp [upd_ap, hpL_ap, tau, mapT, mapTL, bytesI_len]))
  · exact .nil _
  · exact .cons (.eq (by first | rfl | simp only [go_sem]) (by first | rfl | simp [upd_ap, hpL_ap, tau, mapT, mapTL, bytesI_len])) (.nil _)
 ·clear h hy273
  rintro ⟨s1_0, s1_1⟩ x h
  rw [f10_s1] at h
  refine AW.seq ?_
  refine AW.regL [0, 3, 4, 14] ?_
  generalize hK : AW Try.prog _ _ _ = K
  simp only [go_sem, ↓reduceIte, reduceCtorEq, Nat.reduceAdd, Nat.reduceSub, Nat.reduceMul, Nat.reduceEqDiff, Nat.reduceLT, Nat.reduceLeDiff]
  subst hK
  by_cases c142 : s1_1 < (a0.length : Int)
  ·rw [if_pos c142] at h
   refine AW.ifT rfl c142 ?_
   refine AW.skip ?_
   refine thenA_n ?_
   refine AW.seq ?_
   refine AW.block ?_
   refine AW.regL [0, 3, 4, 5] ?_
   generalize hK : AW Try.prog _ _ _ = K
   simp only [go_sem, ↓reduceIte, reduceCtorEq, Nat.reduceAdd, Nat.reduceSub, Nat.reduceMul, Nat.reduceEqDiff, Nat.reduceLT, Nat.reduceLeDiff, eq_true c142]
   subst hK
   refine AW.block ?_
   obtain ⟨y271, hy271, h⟩ := Option.bind_eq_some_iff.1 h
   refine AW.loopO (fun s => ⟨(upd (upd (upd (upd anyF 0 (.sl (List.map enc22 a0))) 3 (.own 8 0 s.1.length)) 4 (.val (.int .i64 s1_1))) 5 (.val (.int .i64 s.2))), hpL [] [some (.row 3 true (List.map encItem s.1))], 9⟩) (fun z e st' => e = Exit.exit 2 ∧ st' = ⟨(upd (upd (upd anyF 0 (.sl (List.map enc22 a0))) 3 (.own 8 0 z.length)) 4 (.val (.int .i64 s1_1))), hpL [] [some (.row 3 true (List.map encItem z))], 9⟩) hy271 ?_ ?_ ?_
   ·refine Ent.can [8] _ _ _ rfl (by first | decide | simp) rfl ?_ ?_ ?_
    · exact ((((RF.any.pv (by first | rfl | simp only [go_sem]) (by first | rfl | simp [upd_ap, hpL_ap, tau, mapT, mapTL, bytesI_len, eq_true c142])).po (by decide) (by first | rfl | simp [upd_ap, hpL_ap, tau, mapT, mapTL, bytesI_len, eq_true c142])).pv (by first | rfl | simp only [go_sem]) (by first | rfl | simp [upd_ap, hpL_ap, tau, mapT, mapTL, bytesI_len, eq_true c142])).pv (by first | rfl | simp only [go_sem]) (by first | rfl | simp [upd_ap, hpL_ap, tau, mapT, mapTL, bytesI_len, eq_true c142]))
    · exact .nil _
    · exact .cons (.eq (by first | rfl | simp only [go_sem]) (by first | rfl | simp [upd_ap, hpL_ap, tau, mapT, mapTL, bytesI_len, eq_true c142])) (.nil _)
   ·clear h hy271
    rintro ⟨s12_0, s12_1⟩ x h
    rw [f10_s12] at h
    refine AW.seq ?_
    obtain ⟨x227, hx227, h⟩ := Option.bind_eq_some_iff.1 h
    obtain ⟨hx227a, hx227b⟩ := ix_some.1 hx227
    refine AW.regL [0, 3, 4, 5, 23] ?_
    generalize hK : AW Try.prog _ _ _ = K
    simp only [go_sem, ↓reduceIte, reduceCtorEq, Nat.reduceAdd, Nat.reduceSub, Nat.reduceMul, Nat.reduceEqDiff, Nat.reduceLT, Nat.reduceLeDiff, eq_true c142, natOf_le hx227a, hx227b]
    subst hK
    by_cases c228 : s12_1 < (x227.length : Int)
    ·rw [if_pos c228] at h
     refine AW.ifT rfl c228 ?_
     refine AW.skip ?_
     refine thenA_n ?_
     refine AW.seq ?_
     refine AW.block ?_
     obtain ⟨x229, hx229, h⟩ := Option.bind_eq_some_iff.1 h
     obtain ⟨hx229a, hx229b⟩ := ix_some.1 hx229
     refine AW.regL [0, 3, 4, 5, 6] ?_
     generalize hK : AW Try.prog _ _ _ = K
     simp only [go_sem, ↓reduceIte, reduceCtorEq, Nat.reduceAdd, Nat.reduceSub, Nat.reduceMul, Nat.reduceEqDiff, Nat.reduceLT, Nat.reduceLeDiff, eq_true c142, eq_true c228, natOf_le hx227a, hx227b, natOf_le hx229a, hx229b]
     subst hK
     refine AW.regL [0, 3, 4, 5, 6, 7] ?_
     generalize hK : AW Try.prog _ _ _ = K
     simp only [go_sem, ↓reduceIte, reduceCtorEq, Nat.reduceAdd, Nat.reduceSub, Nat.reduceMul, Nat.reduceEqDiff, Nat.reduceLT, Nat.reduceLeDiff, eq_true c142, eq_true c228]
     subst hK
     refine AW.seq ?_
     refine AW.block ?_
     obtain ⟨y253, hy253, h⟩ := Option.bind_eq_some_iff.1 h
     refine AW.loopO (fun s => ⟨(upd (upd (upd (upd (upd (upd anyF 0 (.sl (List.map enc22 a0))) 3 (.own 8 0 s12_0.length)) 4 (.val (.int .i64 s1_1))) 5 (.val (.int .i64 s12_1))) 6 (.ptr 9 0 0)) 7 (.val (.int .i64 s))), hpL [] [some (.row 3 true (List.map encItem s12_0)), some (.row 3 true [[.val (.string x229.Key), .sl (List.map encPart x229.Parts), .sl (List.map enc3 x229.Offs)]])], 10⟩) (fun z e st' => e = Exit.exit 4 ∧ st' = ⟨(upd (upd (upd (upd (upd (upd anyF 0 (.sl (List.map enc22 a0))) 3 (.own 8 0 s12_0.length)) 4 (.val (.int .i64 s1_1))) 5 (.val (.int .i64 s12_1))) 6 (.ptr 9 0 0)) 7 (.val (.int .i64 z))), hpL [] [some (.row 3 true (List.map encItem s12_0)), some (.row 3 true [[.val (.string x229.Key), .sl (List.map encPart x229.Parts), .sl (List.map enc3 x229.Offs)]])], 10⟩) hy253 ?_ ?_ ?_
     ·refine Ent.can [8, 121] _ _ _ rfl (by first | decide | simp) rfl ?_ ?_ ?_
      · exact ((((((RF.any.pv (by first | rfl | simp only [go_sem]) (by first | rfl | simp [upd_ap, hpL_ap, tau, mapT, mapTL, bytesI_len, eq_true c142, eq_true c228])).po (by decide) (by first | rfl | simp [upd_ap, hpL_ap, tau, mapT, mapTL, bytesI_len, eq_true c142, eq_true c228])).pv (by first | rfl | simp only [go_sem]) (by first | rfl | simp [upd_ap, hpL_ap, tau, mapT, mapTL, bytesI_len, eq_true c142, eq_true c228])).pv (by first | rfl | simp only [go_sem]) (by first | rfl | simp [upd_ap, hpL_ap, tau, mapT, mapTL, bytesI_len, eq_true c142, eq_true c228])).pp (by decide) (by first | rfl | simp [upd_ap, hpL_ap, tau, mapT, mapTL, bytesI_len, eq_true c142, eq_true c228])).pv (by first | rfl | simp only [go_sem]) (by first | rfl | simp [upd_ap, hpL_ap, tau, mapT, mapTL, bytesI_len, eq_true c142, eq_true c228]))
      · exact .nil _
      · exact .cons (.eq (by first | rfl | simp only [go_sem]) (by first | rfl | simp [upd_ap, hpL_ap, tau, mapT, mapTL, bytesI_len, eq_true c142, eq_true c228])) (.cons (.eq (by first | rfl | simp only [go_sem]) (by first | rfl | simp [upd_ap, hpL_ap, tau, mapT, mapTL, bytesI_len, eq_true c142, eq_true c228])) (.nil _))
     ·clear h hy253
      rintro s18_0 x h
      rw [f10_s18] at h
      refine AW.seq ?_
      by_cases c248 : s18_0 < ((s12_0.length : Nat) : Int)
      ·rw [if_pos c248] at h
       obtain ⟨x249, hx249, h⟩ := Option.bind_eq_some_iff.1 h
       obtain ⟨hx249a, hx249b⟩ := ix_some.1 hx249
       obtain ⟨x250, hx250, h⟩ := Option.bind_eq_some_iff.1 h
       refine AW.regdL [0, 3, 4, 5, 6, 7, 46] [[], [], [1], [0, 1, 2], [0, 1, 2, 3], [0, 1, 2, 3, 4], [0, 1, 2, 3, 4], [0, 1, 2, 3, 4, 5, 6], [0, 1, 2, 3, 4, 5, 6, 7], [0, 1, 2, 3, 4, 5, 6, 7, 8], [0, 1, 2, 3, 4], [0, 1, 2, 3, 4, 10], [0, 1, 2, 3, 4, 5, 6, 7, 8, 9, 10, 11], [0, 1, 2, 3, 4, 5, 6, 7, 8, 9, 10, 11, 12]] [0, 1, 2, 3, 4, 5, 6, 7, 8, 9, 10, 11, 12, 13] (tab [(17, [.val (.string x249.Key), .val (.string x229.Key)], .val (.bool x250))]) (tab_cons (ok17 x249.Key x229.Key x250 hx250) Try.call17 tab_nil) draws (by kernel_rfl) (by kernel_rfl) ?_
       generalize hK : AW Try.prog _ _ _ = K
       simp only [go_sem, ↓reduceIte, reduceCtorEq, Nat.reduceAdd, Nat.reduceSub, Nat.reduceMul, Nat.reduceEqDiff, Nat.reduceLT, Nat.reduceLeDiff, eq_true c142, eq_true c228, eq_true c248, natOf_le hx249a, hx249b, ix_lt hx249b]
       subst hK
       by_cases c251 : x250 = true
       ·rw [if_pos c251] at h
        refine AW.ifBT rfl c251 ?_
        refine AW.skip ?_
        refine thenA_n ?_
        refine AW.block ?_
        refine AW.regionL [0, 3, 4, 5, 6, 7] ?_
        generalize hK : inBlockA _ _ Exit.normal = K
        simp only [go_sem, ↓reduceIte, reduceCtorEq, Nat.reduceAdd, Nat.reduceSub, Nat.reduceMul, Nat.reduceEqDiff, Nat.reduceLT, Nat.reduceLeDiff, eq_true c142, eq_true c228, eq_true c248, c251]
        subst hK
        refine block_n ?_
        refine thenA_n ?_
        refine ⟨_, (Option.some.inj h).symm, ?_⟩
        refine Ent.can [8, 9] _ _ _ rfl (by first | decide | simp) rfl ?_ ?_ ?_
        · exact ((((((RF.any.pv (by first | rfl | simp only [go_sem]) (by first | rfl | simp [upd_ap, hpL_ap, tau, mapT, mapTL, bytesI_len, eq_true c142, eq_true c228, eq_true c248, c251])).po (by decide) (by first | rfl | simp [upd_ap, hpL_ap, tau, mapT, mapTL, bytesI_len, eq_true c142, eq_true c228, eq_true c248, c251])).pv (by first | rfl | simp only [go_sem]) (by first | rfl | simp [upd_ap, hpL_ap, tau, mapT, mapTL, bytesI_len, eq_true c142, eq_true c228, eq_true c248, c251])).pv (by first | rfl | simp only [go_sem]) (by first | rfl | simp [upd_ap, hpL_ap, tau, mapT, mapTL, bytesI_len, eq_true c142, eq_true c228, eq_true c248, c251])).pp (by decide) (by first | rfl | simp [upd_ap, hpL_ap, tau, mapT, mapTL, bytesI_len, eq_true c142, eq_true c228, eq_true c248, c251])).pv (by first | rfl | simp only [go_sem]) (by first | rfl | simp [upd_ap, hpL_ap, tau, mapT, mapTL, bytesI_len, eq_true c142, eq_true c228, eq_true c248, c251]))
        · exact .nil _
        · exact .cons (.eq (by first | rfl | simp only [go_sem]) (by first | rfl | simp [upd_ap, hpL_ap, tau, mapT, mapTL, bytesI_len, eq_true c142, eq_true c228, eq_true c248, c251])) (.cons (.eq (by first | rfl | simp only [go_sem]) (by first | rfl | simp [upd_ap, hpL_ap, tau, mapT, mapTL, bytesI_len, eq_true c142, eq_true c228, eq_true c248, c251])) (.nil _))
       ·rw [if_neg c251] at h
        rw [Bool.not_eq_true] at c251
        refine AW.ifBF rfl c251 ?_
        refine AW.exit ?_
        refine thenA_x ?_
        refine thenA_x ?_
        refine ⟨_, (Option.some.inj h).symm, _, ?_, rfl, rfl⟩
        refine Ent.can [8, 9] _ _ _ rfl (by first | decide | simp) rfl ?_ ?_ ?_
        · exact ((((((RF.any.pv (by first | rfl | simp only [go_sem]) (by first | rfl | simp [upd_ap, hpL_ap, tau, mapT, mapTL, bytesI_len, eq_true c142, eq_true c228, eq_true c248, c251])).po (by decide) (by first | rfl | simp [upd_ap, hpL_ap, tau, mapT, mapTL, bytesI_len, eq_true c142, eq_true c228, eq_true c248, c251])).pv (by first | rfl | simp only [go_sem]) (by first | rfl | simp [upd_ap, hpL_ap, tau, mapT, mapTL, bytesI_len, eq_true c142, eq_true c228, eq_true c248, c251])).pv (by first | rfl | simp only [go_sem]) (by first | rfl | simp [upd_ap, hpL_ap, tau, mapT, mapTL, bytesI_len, eq_true c142, eq_true c228, eq_true c248, c251])).pp (by decide) (by first | rfl | simp [upd_ap, hpL_ap, tau, mapT, mapTL, bytesI_len, eq_true c142, eq_true c228, eq_true c248, c251])).pv (by first | rfl | simp only [go_sem]) (by first | rfl | simp [upd_ap, hpL_ap, tau, mapT, mapTL, bytesI_len, eq_true c142, eq_true c228, eq_true c248, c251]))
        · exact .nil _
        · exact .cons (.eq (by first | rfl | simp only [go_sem]) (by first | rfl | simp [upd_ap, hpL_ap, tau, mapT, mapTL, bytesI_len, eq_true c142, eq_true c228, eq_true c248, c251])) (.cons (.eq (by first | rfl | simp only [go_sem]) (by first | rfl | simp [upd_ap, hpL_ap, tau, mapT, mapTL, bytesI_len, eq_true c142, eq_true c228, eq_true c248, c251])) (.nil _))
      ·rw [if_neg c248] at h
       refine AW.regdL [0, 3, 4, 5, 6, 7, 46] [[], [], [1], [0, 1, 2], [0, 1, 2, 3], [0, 1, 2, 3, 4], [0, 1, 2, 3, 4], [0, 1, 2, 3, 4, 5, 6], [0, 1, 2, 3, 4, 5, 6, 7], [0, 1, 2, 3, 4, 5, 6, 7, 8], [0, 1, 2, 3, 4], [0, 1, 2, 3, 4, 10], [0, 1, 2, 3, 4, 5, 6, 7, 8, 9, 10, 11], [0, 1, 2, 3, 4, 5, 6, 7, 8, 9, 10, 11, 12]] [0, 1, 2, 3, 4, 5, 6, 7, 8, 9, 10, 11, 12, 13] noFt (fun _ _ _ h => by simp [noFt] at h) draws (by kernel_rfl) (by kernel_rfl) ?_
       generalize hK : AW Try.prog _ _ _ = K
       simp only [go_sem, ↓reduceIte, reduceCtorEq, Nat.reduceAdd, Nat.reduceSub, Nat.reduceMul, Nat.reduceEqDiff, Nat.reduceLT, Nat.reduceLeDiff, eq_true c142, eq_true c228, eq_false c248]
       subst hK
       refine AW.ifBF rfl rfl ?_
       refine AW.exit ?_
       refine thenA_x ?_
       refine thenA_x ?_
       refine ⟨_, (Option.some.inj h).symm, _, ?_, rfl, rfl⟩
       refine Ent.can [8, 9] _ _ _ rfl (by first | decide | simp) rfl ?_ ?_ ?_
       · exact ((((((RF.any.pv (by first | rfl | simp only [go_sem]) (by first | rfl | simp [upd_ap, hpL_ap, tau, mapT, mapTL, bytesI_len, eq_true c142, eq_true c228, eq_false c248])).po (by decide) (by first | rfl | simp [upd_ap, hpL_ap, tau, mapT, mapTL, bytesI_len, eq_true c142, eq_true c228, eq_false c248])).pv (by first | rfl | simp only [go_sem]) (by first | rfl | simp [upd_ap, hpL_ap, tau, mapT, mapTL, bytesI_len, eq_true c142, eq_true c228, eq_false c248])).pv (by first | rfl | simp only [go_sem]) (by first | rfl | simp [upd_ap, hpL_ap, tau, mapT, mapTL, bytesI_len, eq_true c142, eq_true c228, eq_false c248])).pp (by decide) (by first | rfl | simp [upd_ap, hpL_ap, tau, mapT, mapTL, bytesI_len, eq_true c142, eq_true c228, eq_false c248])).pv (by first | rfl | simp only [go_sem]) (by first | rfl | simp [upd_ap, hpL_ap, tau, mapT, mapTL, bytesI_len, eq_true c142, eq_true c228, eq_false c248]))
       · exact .nil _
       · exact .cons (.eq (by first | rfl | simp only [go_sem]) (by first | rfl | simp [upd_ap, hpL_ap, tau, mapT, mapTL, bytesI_len, eq_true c142, eq_true c228, eq_false c248])) (.cons (.eq (by first | rfl | simp only [go_sem]) (by first | rfl | simp [upd_ap, hpL_ap, tau, mapT, mapTL, bytesI_len, eq_true c142, eq_true c228, eq_false c248])) (.nil _))
     ·intro e st' hX
      try dsimp only at h
      try dsimp only at hX
      obtain ⟨rfl, rfl⟩ := hX
      refine ⟨_, Ent.refl, ?_⟩
      refine block_x ?_
      refine thenA_n ?_
      refine AW.regL [0, 3, 4, 5, 6, 7, 8] ?_
      generalize hK : AW Try.prog _ _ _ = K
      simp only [go_sem, ↓reduceIte, reduceCtorEq, Nat.reduceAdd, Nat.reduceSub, Nat.reduceMul, Nat.reduceEqDiff, Nat.reduceLT, Nat.reduceLeDiff, eq_true c142, eq_true c228]
      subst hK
      refine AW.ent (Ent.still 3 rfl (own_sl (sz := 3) (m := true) rfl (by first | rfl | simp [bytesI_len, eq_true c142, eq_true c228]) (by simp only [go_sem]))) ?_
      obtain ⟨x254, hx254, h⟩ := Option.bind_eq_some_iff.1 h
      refine AW.regL [0, 3, 4, 5, 6, 7, 8, 9] ?_
      generalize hK : AW Try.prog _ _ _ = K
      simp only [go_sem, ↓reduceIte, reduceCtorEq, Nat.reduceAdd, Nat.reduceSub, Nat.reduceMul, Nat.reduceEqDiff, Nat.reduceLT, Nat.reduceLeDiff, eq_true c142, eq_true c228, cut_sn el22 sz33 (ml_encItem _) hx254]
      subst hK
      refine AW.join (fun s => ⟨(upd (upd (upd (upd (upd (upd (upd (upd anyF 0 (.sl (List.map enc22 a0))) 3 (.sl (List.map encItem s12_0))) 4 (.val (.int .i64 s1_1))) 5 (.val (.int .i64 s12_1))) 6 (.ptr 8 0 0)) 7 (.val (.int .i64 y253))) 8 (.ptr 9 0 0)) 9 (.sl (List.map encItem s.1))), hpL [] [some (.row 3 true [[.val (.string x229.Key), .sl (List.map encPart x229.Parts), .sl (List.map enc3 x229.Offs)]]), some (.row 3 true [[.val (.string s.2.1), .sl (List.map encPart s.2.2.1), .sl (List.map enc3 s.2.2.2)]])], 10⟩) (fun s => f10_j6 s12_0 s12_1 x229 y253 s = some x) ?_ ?_
      ·by_cases c266 : y253 < (s12_0.length : Int)
       ·rw [if_pos c266] at h
        obtain ⟨x267, hx267, h⟩ := Option.bind_eq_some_iff.1 h
        obtain ⟨hx267a, hx267b⟩ := ix_some.1 hx267
        refine AW.regdL [0, 3, 4, 5, 6, 7, 8, 9, 68] [[], [], [1], [0, 1, 2], [0, 1, 2, 3], [0, 1, 2, 3, 4], [0, 1, 2, 3, 4], [0, 1, 2, 3, 4, 5, 6], [0, 1, 2, 3, 4, 5, 6, 7], [0, 1, 2, 3, 4, 5, 6, 7, 8], [0, 1, 2, 3, 4], [0, 1, 2, 3, 4, 10], [0, 1, 2, 3, 4, 5, 6, 7, 8, 9, 10, 11], [0, 1, 2, 3, 4, 5, 6, 7, 8, 9, 10, 11, 12]] [0, 1, 2, 3, 4, 5, 6, 7, 8, 9, 10, 11, 12, 13] noFt (fun _ _ _ h => by simp [noFt] at h) draws (by kernel_rfl) (by kernel_rfl) ?_
        generalize hK : AW Try.prog _ _ _ = K
        simp only [go_sem, ↓reduceIte, reduceCtorEq, Nat.reduceAdd, Nat.reduceSub, Nat.reduceMul, Nat.reduceEqDiff, Nat.reduceLT, Nat.reduceLeDiff, eq_true c142, eq_true c228, eq_true c266, natOf_le hx267a, hx267b]
        subst hK
        by_cases c268 : x267.Key = x229.Key
        ·rw [if_pos c268] at h
         refine AW.ifT rfl c268 ?_
         refine AW.regL [0, 3, 4, 5, 6, 7, 8] ?_
         generalize hK : AW Try.prog _ _ _ = K
         simp only [go_sem, ↓reduceIte, reduceCtorEq, Nat.reduceAdd, Nat.reduceSub, Nat.reduceMul, Nat.reduceEqDiff, Nat.reduceLT, Nat.reduceLeDiff, eq_true c142, eq_true c228, eq_true c266, eq_true c268, natOf_le hx267a, hx267b]
         subst hK
         obtain ⟨x269, hx269, h⟩ := Option.bind_eq_some_iff.1 h
         refine AW.regionL [0, 3, 4, 5, 6, 7, 8, 9] ?_
         generalize hK : thenA _ _ Exit.normal = K
         simp only [go_sem, ↓reduceIte, reduceCtorEq, Nat.reduceAdd, Nat.reduceSub, Nat.reduceMul, Nat.reduceEqDiff, Nat.reduceLT, Nat.reduceLeDiff, eq_true c142, eq_true c228, eq_true c266, eq_true c268, cut_sn el22 sz33 (ml_encItem _) hx269]
         subst hK
         refine thenA_n ?_
         refine ⟨_, h, ?_⟩
         refine Ent.can [9, 34] _ _ _ rfl (by first | decide | simp) rfl ?_ ?_ ?_
         · exact ((((((((RF.any.pv (by first | rfl | simp only [go_sem]) (by first | rfl | simp [upd_ap, hpL_ap, tau, mapT, mapTL, bytesI_len, eq_true c142, eq_true c228, eq_true c266, eq_true c268])).pv (by first | rfl | simp only [go_sem]) (by first | rfl | simp [upd_ap, hpL_ap, tau, mapT, mapTL, bytesI_len, eq_true c142, eq_true c228, eq_true c266, eq_true c268])).pv (by first | rfl | simp only [go_sem]) (by first | rfl | simp [upd_ap, hpL_ap, tau, mapT, mapTL, bytesI_len, eq_true c142, eq_true c228, eq_true c266, eq_true c268])).pv (by first | rfl | simp only [go_sem]) (by first | rfl | simp [upd_ap, hpL_ap, tau, mapT, mapTL, bytesI_len, eq_true c142, eq_true c228, eq_true c266, eq_true c268])).pp (by decide) (by first | rfl | simp [upd_ap, hpL_ap, tau, mapT, mapTL, bytesI_len, eq_true c142, eq_true c228, eq_true c266, eq_true c268])).pv (by first | rfl | simp only [go_sem]) (by first | rfl | simp [upd_ap, hpL_ap, tau, mapT, mapTL, bytesI_len, eq_true c142, eq_true c228, eq_true c266, eq_true c268])).pp (by decide) (by first | rfl | simp [upd_ap, hpL_ap, tau, mapT, mapTL, bytesI_len, eq_true c142, eq_true c228, eq_true c266, eq_true c268])).pv (by first | rfl | simp only [go_sem]) (by first | rfl | simp [upd_ap, hpL_ap, tau, mapT, mapTL, bytesI_len, eq_true c142, eq_true c228, eq_true c266, eq_true c268]))
         · exact .nil _
         · exact .cons (.eq (by first | rfl | simp only [go_sem]) (by first | rfl | simp [upd_ap, hpL_ap, tau, mapT, mapTL, bytesI_len, eq_true c142, eq_true c228, eq_true c266, eq_true c268])) (.cons (.eq (by first | rfl | simp only [go_sem]) (by first | rfl | simp [upd_ap, hpL_ap, tau, mapT, mapTL, bytesI_len, eq_true c142, eq_true c228, eq_true c266, eq_true c268])) (.nil _))
        ·rw [if_neg c268] at h
         refine AW.ifF rfl c268 ?_
         refine AW.skip ?_
         refine thenA_n ?_
         refine ⟨_, h, ?_⟩
         refine Ent.trans (Ent.weakObj 34 rfl rfl (.cons (.of rfl) (.cons Weak.nil (.cons Weak.nil WeakL.nil)))) ?_
         refine Ent.can [9, 34] _ _ _ rfl (by first | decide | simp) rfl ?_ ?_ ?_
         · exact ((((((((RF.any.pv (by first | rfl | simp only [go_sem]) (by first | rfl | simp [upd_ap, hpL_ap, tau, mapT, mapTL, bytesI_len, eq_true c142, eq_true c228, eq_true c266, eq_false c268])).pv (by first | rfl | simp only [go_sem]) (by first | rfl | simp [upd_ap, hpL_ap, tau, mapT, mapTL, bytesI_len, eq_true c142, eq_true c228, eq_true c266, eq_false c268])).pv (by first | rfl | simp only [go_sem]) (by first | rfl | simp [upd_ap, hpL_ap, tau, mapT, mapTL, bytesI_len, eq_true c142, eq_true c228, eq_true c266, eq_false c268])).pv (by first | rfl | simp only [go_sem]) (by first | rfl | simp [upd_ap, hpL_ap, tau, mapT, mapTL, bytesI_len, eq_true c142, eq_true c228, eq_true c266, eq_false c268])).pp (by decide) (by first | rfl | simp [upd_ap, hpL_ap, tau, mapT, mapTL, bytesI_len, eq_true c142, eq_true c228, eq_true c266, eq_false c268])).pv (by first | rfl | simp only [go_sem]) (by first | rfl | simp [upd_ap, hpL_ap, tau, mapT, mapTL, bytesI_len, eq_true c142, eq_true c228, eq_true c266, eq_false c268])).pp (by decide) (by first | rfl | simp [upd_ap, hpL_ap, tau, mapT, mapTL, bytesI_len, eq_true c142, eq_true c228, eq_true c266, eq_false c268])).pv (by first | rfl | simp only [go_sem]) (by first | rfl | simp [upd_ap, hpL_ap, tau, mapT, mapTL, bytesI_len, eq_true c142, eq_true c228, eq_true c266, eq_false c268]))
         · exact .nil _
         · exact .cons (.eq (by first | rfl | simp only [go_sem]) (by first | rfl | simp [upd_ap, hpL_ap, tau, mapT, mapTL, bytesI_len, eq_true c142, eq_true c228, eq_true c266, eq_false c268])) (.cons (.eq (by first | rfl | simp only [go_sem]) (by first | rfl | simp [upd_ap, hpL_ap, tau, mapT, mapTL, bytesI_len, eq_true c142, eq_true c228, eq_true c266, eq_false c268])) (.nil _))
       ·rw [if_neg c266] at h
        refine AW.regdL [0, 3, 4, 5, 6, 7, 8, 9, 68] [[], [], [1], [0, 1, 2], [0, 1, 2, 3], [0, 1, 2, 3, 4], [0, 1, 2, 3, 4], [0, 1, 2, 3, 4, 5, 6], [0, 1, 2, 3, 4, 5, 6, 7], [0, 1, 2, 3, 4, 5, 6, 7, 8], [0, 1, 2, 3, 4], [0, 1, 2, 3, 4, 10], [0, 1, 2, 3, 4, 5, 6, 7, 8, 9, 10, 11], [0, 1, 2, 3, 4, 5, 6, 7, 8, 9, 10, 11, 12]] [0, 1, 2, 3, 4, 5, 6, 7, 8, 9, 10, 11, 12, 13] noFt (fun _ _ _ h => by simp [noFt] at h) draws (by kernel_rfl) (by kernel_rfl) ?_
        generalize hK : AW Try.prog _ _ _ = K
        simp only [go_sem, ↓reduceIte, reduceCtorEq, Nat.reduceAdd, Nat.reduceSub, Nat.reduceMul, Nat.reduceEqDiff, Nat.reduceLT, Nat.reduceLeDiff, eq_true c142, eq_true c228, eq_false c266]
        subst hK
        refine AW.ifBF rfl rfl ?_
        refine AW.skip ?_
        refine thenA_n ?_
        refine ⟨_, h, ?_⟩
        refine Ent.trans (Ent.weakObj 34 rfl rfl (.cons (.of rfl) (.cons Weak.nil (.cons Weak.nil WeakL.nil)))) ?_
        refine Ent.can [9, 34] _ _ _ rfl (by first | decide | simp) rfl ?_ ?_ ?_
        · exact ((((((((RF.any.pv (by first | rfl | simp only [go_sem]) (by first | rfl | simp [upd_ap, hpL_ap, tau, mapT, mapTL, bytesI_len, eq_true c142, eq_true c228, eq_false c266])).pv (by first | rfl | simp only [go_sem]) (by first | rfl | simp [upd_ap, hpL_ap, tau, mapT, mapTL, bytesI_len, eq_true c142, eq_true c228, eq_false c266])).pv (by first | rfl | simp only [go_sem]) (by first | rfl | simp [upd_ap, hpL_ap, tau, mapT, mapTL, bytesI_len, eq_true c142, eq_true c228, eq_false c266])).pv (by first | rfl | simp only [go_sem]) (by first | rfl | simp [upd_ap, hpL_ap, tau, mapT, mapTL, bytesI_len, eq_true c142, eq_true c228, eq_false c266])).pp (by decide) (by first | rfl | simp [upd_ap, hpL_ap, tau, mapT, mapTL, bytesI_len, eq_true c142, eq_true c228, eq_false c266])).pv (by first | rfl | simp only [go_sem]) (by first | rfl | simp [upd_ap, hpL_ap, tau, mapT, mapTL, bytesI_len, eq_true c142, eq_true c228, eq_false c266])).pp (by decide) (by first | rfl | simp [upd_ap, hpL_ap, tau, mapT, mapTL, bytesI_len, eq_true c142, eq_true c228, eq_false c266])).pv (by first | rfl | simp only [go_sem]) (by first | rfl | simp [upd_ap, hpL_ap, tau, mapT, mapTL, bytesI_len, eq_true c142, eq_true c228, eq_false c266]))
        · exact .nil _
        · exact .cons (.eq (by first | rfl | simp only [go_sem]) (by first | rfl | simp [upd_ap, hpL_ap, tau, mapT, mapTL, bytesI_len, eq_true c142, eq_true c228, eq_false c266])) (.cons (.eq (by first | rfl | simp only [go_sem]) (by first | rfl | simp [upd_ap, hpL_ap, tau, mapT, mapTL, bytesI_len, eq_true c142, eq_true c228, eq_false c266])) (.nil _))
      ·clear h
       rintro ⟨j6_0, j6_1, j6_2, j6_3⟩ h
       rw [f10_j6] at h
       obtain ⟨x259, hx259, h⟩ := Option.bind_eq_some_iff.1 h
       obtain ⟨hx259b, hx259e⟩ := appO?_some.1 hx259
       have hx259f : ∀ id o : Nat, appO 4 40 id (List.map encPart j6_2) 0 0 o (some (.row 4 true (([] : List (List AV))))) = some ⟨.own id 0 x259.length, [(o, none), (id, some (.row 4 true (List.map encPart x259)))]⟩ := fun id o => by
         subst hx259e; rw [appO_ok (by simp) (by simpa using hx259b) (by decide)]; first | (simp [encPart]; done) | (simp [encPart]; omega)
       obtain ⟨x260, hx260, h⟩ := Option.bind_eq_some_iff.1 h
       obtain ⟨hx260b, hx260e⟩ := appO?_some.1 hx260
       have hx260f : ∀ id o : Nat, appO 4 40 id (List.map encPart x229.Parts) 0 x259.length o (some (.row 4 true (List.map encPart x259))) = some ⟨.own id 0 x260.length, [(o, none), (id, some (.row 4 true (List.map encPart x260)))]⟩ := fun id o => by
         subst hx260e; rw [appO_ok (by simp) (by simpa using hx260b) (by decide)]; first | (simp [encPart]; done) | (simp [encPart]; omega)
       refine AW.regdL [0, 3, 4, 5, 6, 7, 8, 9] [[], [], [1], [0, 1, 2], [], [4], [0, 1, 2, 3, 4, 5], [0, 1, 2, 3, 4, 5, 6], [0, 1, 2, 3, 4, 5, 6, 7]] [0, 1, 2, 3, 4, 5, 6, 7, 8] noFt (fun _ _ _ h => by simp [noFt] at h) draws (by kernel_rfl) (by kernel_rfl) ?_
       generalize hK : AW Try.prog _ _ _ = K
       simp only [go_sem, ↓reduceIte, reduceCtorEq, Nat.reduceAdd, Nat.reduceSub, Nat.reduceMul, Nat.reduceEqDiff, Nat.reduceLT, Nat.reduceLeDiff, eq_true c142, eq_true c228, hx259f, hx260f]
       subst hK
       obtain ⟨x261, hx261, h⟩ := Option.bind_eq_some_iff.1 h
       refine AW.regL [0, 3, 4, 5, 7, 8, 9] ?_
       generalize hK : AW Try.prog _ _ _ = K
       simp only [go_sem, ↓reduceIte, reduceCtorEq, Nat.reduceAdd, Nat.reduceSub, Nat.reduceMul, Nat.reduceEqDiff, Nat.reduceLT, Nat.reduceLeDiff, eq_true c142, eq_true c228]
       refine arC.of (ok18 j6_3 x229.Offs x261 hx261) Try.call18 ?_
       simp only [go_sem, ↓reduceIte, reduceCtorEq, Nat.reduceAdd, Nat.reduceSub, Nat.reduceMul, Nat.reduceEqDiff, Nat.reduceLT, Nat.reduceLeDiff, eq_true c142, eq_true c228]
       subst hK
       obtain ⟨x262, hx262, h⟩ := Option.bind_eq_some_iff.1 h
       obtain ⟨x263, hx263, h⟩ := Option.bind_eq_some_iff.1 h
       obtain ⟨hx263b, hx263e⟩ := appO?_some.1 hx263
       have hx263f : ∀ id o : Nat, appO 3 64 id (List.map encItem x262) 0 0 o (some (.row 3 true (([] : List (List AV))))) = some ⟨.own id 0 x263.length, [(o, none), (id, some (.row 3 true (List.map encItem x263)))]⟩ := fun id o => by
         subst hx263e; rw [appO_ok (by simp) (by simpa using hx263b) (by decide)]; first | (simp [encItem]; done) | (simp [encItem]; omega)
       refine AW.regL [0, 4, 5, 8, 9, 10] ?_
       generalize hK : AW Try.prog _ _ _ = K
       simp only [go_sem, ↓reduceIte, reduceCtorEq, Nat.reduceAdd, Nat.reduceSub, Nat.reduceMul, Nat.reduceEqDiff, Nat.reduceLT, Nat.reduceLeDiff, eq_true c142, eq_true c228, cut_ns el22 sz33 (ml_encItem _) hx262, hx263f]
       subst hK
       refine AW.ent (Ent.stillObj (pre := [.val (.string j6_1)]) (post := [.own 114 0 x261.length]) (q := 58) (off := 0) (len := x260.length) 9 rfl (own_sl (sz := 4) (m := true) rfl (by first | rfl | (simp [bytesI_len]; done) | (simp [bytesI_len]; omega)) (by simp only [go_sem])) (by decide)) ?_
       refine AW.ent (Ent.stillObj (pre := [.val (.string j6_1), .sl (List.map encPart x260)]) (post := []) (q := 114) (off := 0) (len := x261.length) 9 rfl (own_sl (sz := 1) (m := true) rfl (by first | rfl | (simp [bytesI_len]; done) | (simp [bytesI_len]; omega)) (by simp only [go_sem])) (by decide)) ?_
       obtain ⟨x264, hx264, h⟩ := Option.bind_eq_some_iff.1 h
       obtain ⟨hx264b, hx264e⟩ := appO?_some.1 hx264
       have hx264f : ∀ id o : Nat, appO 3 64 id ([[.val (.string j6_1), .sl (List.map encPart x260), .sl (List.map enc3 x261)]]) 0 x263.length o (some (.row 3 true (List.map encItem x263))) = some ⟨.own id 0 x264.length, [(o, none), (id, some (.row 3 true (List.map encItem x264)))]⟩ := fun id o => by
         subst hx264e; rw [appO_ok (by simp) (by simpa using hx264b) (by decide)]; first | (simp [encItem]; done) | (simp [encItem]; omega)
       refine AW.regL [0, 4, 5, 9, 10] ?_
       generalize hK : AW Try.prog _ _ _ = K
       simp only [go_sem, ↓reduceIte, reduceCtorEq, Nat.reduceAdd, Nat.reduceSub, Nat.reduceMul, Nat.reduceEqDiff, Nat.reduceLT, Nat.reduceLeDiff, eq_true c142, eq_true c228, hx264f]
       subst hK
       obtain ⟨x265, hx265, h⟩ := Option.bind_eq_some_iff.1 h
       obtain ⟨hx265b, hx265e⟩ := appO?_some.1 hx265
       have hx265f : ∀ id o : Nat, appO 3 64 id (List.map encItem j6_0) 0 x264.length o (some (.row 3 true (List.map encItem x264))) = some ⟨.own id 0 x265.length, [(o, none), (id, some (.row 3 true (List.map encItem x265)))]⟩ := fun id o => by
         subst hx265e; rw [appO_ok (by simp) (by simpa using hx265b) (by decide)]; first | (simp [encItem]; done) | (simp [encItem]; omega)
       refine AW.regionL [0, 3, 4, 5] ?_
       generalize hK : inBlockA _ _ Exit.normal = K
       simp only [go_sem, ↓reduceIte, reduceCtorEq, Nat.reduceAdd, Nat.reduceSub, Nat.reduceMul, Nat.reduceEqDiff, Nat.reduceLT, Nat.reduceLeDiff, eq_true c142, eq_true c228, hx265f]
       subst hK
       refine block_n ?_
       refine thenA_n ?_
       refine AW.regionL [0, 3, 4, 5] ?_
       generalize hK : thenA _ _ Exit.normal = K
       simp only [go_sem, ↓reduceIte, reduceCtorEq, Nat.reduceAdd, Nat.reduceSub, Nat.reduceMul, Nat.reduceEqDiff, Nat.reduceLT, Nat.reduceLeDiff, eq_true c142, eq_true c228]
       subst hK
       refine thenA_n ?_
       refine ⟨_, (Option.some.inj h).symm, ?_⟩
       refine Ent.can [242] _ _ _ rfl (by first | decide | simp) rfl ?_ ?_ ?_
       · exact ((((RF.any.pv (by first | rfl | simp only [go_sem]) (by first | rfl | simp [upd_ap, hpL_ap, tau, mapT, mapTL, bytesI_len, eq_true c142, eq_true c228])).po (by decide) (by first | rfl | simp [upd_ap, hpL_ap, tau, mapT, mapTL, bytesI_len, eq_true c142, eq_true c228])).pv (by first | rfl | simp only [go_sem]) (by first | rfl | simp [upd_ap, hpL_ap, tau, mapT, mapTL, bytesI_len, eq_true c142, eq_true c228])).pv (by first | rfl | simp only [go_sem]) (by first | rfl | simp [upd_ap, hpL_ap, tau, mapT, mapTL, bytesI_len, eq_true c142, eq_true c228]))
       · exact .nil _
       · exact .cons (.eq (by first | rfl | simp only [go_sem]) (by first | rfl | simp [upd_ap, hpL_ap, tau, mapT, mapTL, bytesI_len, eq_true c142, eq_true c228])) (.nil _)
    ·rw [if_neg c228] at h
     refine AW.ifF rfl c228 ?_
     refine AW.exit ?_
     refine thenA_x ?_
     refine thenA_x ?_
     refine ⟨_, (Option.some.inj h).symm, _, ?_, rfl, rfl⟩
     refine Ent.can [8] _ _ _ rfl (by first | decide | simp) rfl ?_ ?_ ?_
     · exact (((RF.any.pv (by first | rfl | simp only [go_sem]) (by first | rfl | simp [upd_ap, hpL_ap, tau, mapT, mapTL, bytesI_len, eq_true c142, eq_false c228])).po (by decide) (by first | rfl | simp [upd_ap, hpL_ap, tau, mapT, mapTL, bytesI_len, eq_true c142, eq_false c228])).pv (by first | rfl | simp only [go_sem]) (by first | rfl | simp [upd_ap, hpL_ap, tau, mapT, mapTL, bytesI_len, eq_true c142, eq_false c228]))
     · exact .nil _
     · exact .cons (.eq (by first | rfl | simp only [go_sem]) (by first | rfl | simp [upd_ap, hpL_ap, tau, mapT, mapTL, bytesI_len, eq_true c142, eq_false c228])) (.nil _)
   ·intro e st' hX
    try dsimp only at h
    try dsimp only at hX
    obtain ⟨rfl, rfl⟩ := hX
    refine ⟨_, Ent.refl, ?_⟩
    refine block_x ?_
    refine block_n ?_
    refine thenA_n ?_
    refine AW.regionL [0, 3, 4] ?_
    generalize hK : thenA _ _ Exit.normal = K
    simp only [go_sem, ↓reduceIte, reduceCtorEq, Nat.reduceAdd, Nat.reduceSub, Nat.reduceMul, Nat.reduceEqDiff, Nat.reduceLT, Nat.reduceLeDiff, eq_true c142]
    subst hK
    refine thenA_n ?_
    refine ⟨_, (Option.some.inj h).symm, ?_⟩
    refine Ent.can [8] _ _ _ rfl (by first | decide | simp) rfl ?_ ?_ ?_
    · exact (((RF.any.pv (by first | rfl | simp only [go_sem]) (by first | rfl | simp [upd_ap, hpL_ap, tau, mapT, mapTL, bytesI_len, eq_true c142])).po (by decide) (by first | rfl | simp [upd_ap, hpL_ap, tau, mapT, mapTL, bytesI_len, eq_true c142])).pv (by first | rfl | simp only [go_sem]) (by first | rfl | simp [upd_ap, hpL_ap, tau, mapT, mapTL, bytesI_len, eq_true c142]))
    · exact .nil _
    · exact .cons (.eq (by first | rfl | simp only [go_sem]) (by first | rfl | simp [upd_ap, hpL_ap, tau, mapT, mapTL, bytesI_len, eq_true c142])) (.nil _)
  ·rw [if_neg c142] at h
   refine AW.ifF rfl c142 ?_
   refine AW.exit ?_
   refine thenA_x ?_
   refine thenA_x ?_
   refine ⟨_, (Option.some.inj h).symm, _, ?_, rfl, rfl⟩
   refine Ent.can [8] _ _ _ rfl (by first | decide | simp) rfl ?_ ?_ ?_
   · exact (RF.any.po (by decide) (by first | rfl | simp [upd_ap, hpL_ap, tau, mapT, mapTL, bytesI_len, eq_false c142]))
   · exact .nil _
   · exact .cons (.eq (by first | rfl | simp only [go_sem]) (by first | rfl | simp [upd_ap, hpL_ap, tau, mapT, mapTL, bytesI_len, eq_false c142])) (.nil _)
 ·intro e st' hX
  try dsimp only at h
  try dsimp only at hX
  obtain ⟨rfl, rfl⟩ := hX
  refine ⟨_, Ent.refl, ?_⟩
  refine block_x ?_
  refine thenA_n ?_
  refine AW.regL [2] ?_
  generalize hK : AW Try.prog _ _ _ = K
  simp only [go_sem, ↓reduceIte, reduceCtorEq, Nat.reduceAdd, Nat.reduceSub, Nat.reduceMul, Nat.reduceEqDiff, Nat.reduceLT, Nat.reduceLeDiff]
  subst hK
  refine AW.ret ?_
  obtain rfl := Option.some.inj h
  (simp only [go_sem, ↓reduceIte, reduceCtorEq, Nat.reduceAdd, Nat.reduceSub, Nat.reduceMul, Nat.reduceEqDiff, Nat.reduceLT, Nat.reduceLeDiff, finA] <;> try simp)
end Au
end Go.Proofs.Y5
