import Derived.Test.YtlonihmeikmpiaaDoorGfDN
import Derived.Test.YtlonihmeikmpiaaDoorGfW3
set_option linter.all false
set_option linter.unusedVariables false
set_option linter.unusedSimpArgs false
set_option linter.all false
set_option maxRecDepth 8000
set_option maxHeartbeats 1000000
namespace Go.Proofs.Yd
open Go.Gm
namespace Au
noncomputable def f30_s2 (a0 : List Int) : (List Int) × Int × Int → Option (((List Int) × Int × Int) ⊕ ((Note × Int) ⊕ (Int × (List Int))))
  | (s2_0, s2_1, s2_2) => (if s2_2 < 5 then ((f42 a0 s2_1).bind fun x31 => (if x31.2.2 = 0 then (if 1073741824 < x31.1 then ((appO? s2_0 [IntKind.i64.wrap 1073741825]).bind fun x35 => some (.inl (x35, x31.2.1, IntKind.i64.wrap (s2_2 + 1)))) else ((appO? s2_0 [IntKind.i64.wrap x31.1]).bind fun x36 => some (.inl (x36, x31.2.1, IntKind.i64.wrap (s2_2 + 1))))) else some (.inr (.inl (⟨0, 0, 0, 0, [], [], []⟩, x31.2.2))))) else some (.inr (.inr (s2_1, s2_0))))
noncomputable def f30_j5 (s4_1 : List Int) (s4_2 : Int) (x85 : Int × Int × Int) : Int → Option ((Int × (List Int) × Int) ⊕ ((Note × Int) ⊕ (Int × (List Int))))
  | j5_0 => ((appO? s4_1 [IntKind.i64.wrap j5_0]).bind fun x89 => some (.inl (x85.2.1, x89, IntKind.i64.wrap (s4_2 + 1))))
noncomputable def f30_s4 (a0 : List Int) (x43 : Int) : Int × (List Int) × Int → Option ((Int × (List Int) × Int) ⊕ ((Note × Int) ⊕ (Int × (List Int))))
  | (s4_0, s4_1, s4_2) => (if s4_2 < x43 then ((f42 a0 s4_0).bind fun x85 => (if x85.2.2 = 0 then (if 1073741824 < x85.1 then f30_j5 s4_1 s4_2 x85 1073741825 else f30_j5 s4_1 s4_2 x85 x85.1) else some (.inr (.inl (⟨0, 0, 0, 0, [], [], []⟩, x85.2.2))))) else some (.inr (.inr (s4_0, s4_1))))
noncomputable def f30 (a0 : List Int) : Option (Note × Int) := ((loopO (f30_s2 a0) ([], 0, 0)).bind fun y37 => match y37 with | .inl y38 => some y38 | .inr (y39, y40) => ((y40[4]?).bind fun x43 => (if 65536 < x43 then some (⟨0, 0, 0, 0, [], [], []⟩, 3) else ((y40[0]?).bind fun x45 => ((y40[1]?).bind fun x46 => ((y40[2]?).bind fun x47 => ((y40[3]?).bind fun x48 => ((loopO (f30_s4 a0 x43) (y39, [], 0)).bind fun y91 => match y91 with | .inl y92 => some y92 | .inr (y93, y94) => ((f43 a0 y93 1048576).bind fun x95 => (if x95.2.2 = 0 then ((f43 a0 x95.2.1 1048576).bind fun x98 => (if x98.2.2 = 0 then (if x98.2.1 < (a0.length : Int) then some (⟨0, 0, 0, 0, [], [], []⟩, 3) else ((f44 ⟨x45, x46, x47, x48, y94, bytesI x95.1, bytesI x98.1⟩).bind fun x103 => (if x103 = true then some (⟨x45, x46, x47, x48, y94, bytesI x95.1, bytesI x98.1⟩, 0) else some (⟨0, 0, 0, 0, [], [], []⟩, 3)))) else some (⟨0, 0, 0, 0, [], [], []⟩, x98.2.2))) else some (⟨0, 0, 0, 0, [], [], []⟩, x95.2.2)))))))))))
theorem ok30 (a0 : List Int) (r : Note × Int) (h : f30 a0 = some r) : PC Tryd.prog 30 [.sl (List.map enc5 a0)] (.tup [.agg (encNote r.1), .val (.int .i64 r.2)]) := by
 rw [f30] at h
 refine pc_of8 (N := 129) (rs := [.cell 2 54, .tmp 3]) Tryd.func30 rfl rfl rfl (Nat.le_of_ble_eq_true rfl) ?_
 refine AW.regL [0, 2] ?_
 generalize hK : AW Tryd.prog _ _ _ = K
 simp only [go_sem, ↓reduceIte, reduceCtorEq, Nat.reduceAdd, Nat.reduceSub, Nat.reduceMul, Nat.reduceEqDiff, Nat.reduceLT, Nat.reduceLeDiff]
 subst hK
 refine AW.regL [0, 2, 4] ?_
 generalize hK : AW Tryd.prog _ _ _ = K
 simp only [go_sem, ↓reduceIte, reduceCtorEq, Nat.reduceAdd, Nat.reduceSub, Nat.reduceMul, Nat.reduceEqDiff, Nat.reduceLT, Nat.reduceLeDiff]
 subst hK
 refine AW.regL [0, 2, 4, 5] ?_
 generalize hK : AW Tryd.prog _ _ _ = K
 simp only [go_sem, ↓reduceIte, reduceCtorEq, Nat.reduceAdd, Nat.reduceSub, Nat.reduceMul, Nat.reduceEqDiff, Nat.reduceLT, Nat.reduceLeDiff]
 subst hK
 refine AW.seq ?_
 refine AW.regL [0, 2, 4, 5, 6] ?_
 generalize hK : AW Tryd.prog _ _ _ = K
 simp only [go_sem, ↓reduceIte, reduceCtorEq, Nat.reduceAdd, Nat.reduceSub, Nat.reduceMul, Nat.reduceEqDiff, Nat.reduceLT, Nat.reduceLeDiff]
 subst hK
 refine AW.block ?_
 obtain ⟨y37, hy37, h⟩ := Option.bind_eq_some_iff.1 h
 refine AW.loopO (fun s => ⟨(upd (upd (upd (upd (upd anyF 0 (.sl (List.map enc5 a0))) 2 (.ptr 8 0 0)) 4 (.own 9 0 s.1.length)) 5 (.val (.int .i64 s.2.1))) 6 (.val (.int .i64 s.2.2))), hpL [] [some (.row 7 true [[.val (.int .i64 0), .val (.int .i64 0), .val (.int .i64 0), .val (.int .i64 0), .val (.slice none 0 0), .val (.slice none 0 0), .val (.slice none 0 0)]]), some (.row 1 true (List.map enc3 s.1))], 10⟩) (fun y e st' => match y with | .inl z => e = Exit.ret ∧ finA Tryd.prog [.cell 2 54, .tmp 3] (.tup [.agg (encNote z.1), .val (.int .i64 z.2)]) .ret st' | .inr z => e = Exit.exit 0 ∧ st' = ⟨(upd (upd (upd (upd anyF 0 (.sl (List.map enc5 a0))) 2 (.ptr 8 0 0)) 4 (.own 9 0 z.2.length)) 5 (.val (.int .i64 z.1))), hpL [] [some (.row 7 true [[.val (.int .i64 0), .val (.int .i64 0), .val (.int .i64 0), .val (.int .i64 0), .val (.slice none 0 0), .val (.slice none 0 0), .val (.slice none 0 0)]]), some (.row 1 true (List.map enc3 z.2))], 10⟩) hy37 ?_ ?_ ?_
 ·refine Ent.trans (Ent.nilOwn 4 1 (by decide) rfl) ?_
  refine Ent.can [8, 48] _ _ _ rfl (by first | decide | simp) rfl ?_ ?_ ?_
  · exact (((((RF.any.pv (by first | rfl | simp only [go_sem]) (by first | rfl | simp [upd_ap, hpL_ap, tau, mapT, mapTL, bytesI_len])).pp (by decide) (by first | rfl | simp [upd_ap, hpL_ap, tau, mapT, mapTL, bytesI_len])).po (by decide) (by first | rfl | simp [upd_ap, hpL_ap, tau, mapT, mapTL, bytesI_len])).pv (by first | rfl | simp only [go_sem]) (by first | rfl | simp [upd_ap, hpL_ap, tau, mapT, mapTL, bytesI_len])).pv (by first | rfl | simp only [go_sem]) (by first | rfl | simp [upd_ap, hpL_ap, tau, mapT, mapTL, bytesI_len]))
  · exact .nil _
  · exact .cons (.eq (by first | rfl | simp only [go_sem]) (by first | rfl | simp [upd_ap, hpL_ap, tau, mapT, mapTL, bytesI_len])) (.cons (.eq (by first | rfl | simp only [go_sem]) (by first | rfl | simp [upd_ap, hpL_ap, tau, mapT, mapTL, bytesI_len])) (.nil _))
 ·clear h hy37
  rintro ⟨s2_0, s2_1, s2_2⟩ x h
  rw [f30_s2] at h
  refine AW.seq ?_
  refine AW.regL [0, 2, 4, 5, 6, 22] ?_
  generalize hK : AW Tryd.prog _ _ _ = K
  simp only [go_sem, ↓reduceIte, reduceCtorEq, Nat.reduceAdd, Nat.reduceSub, Nat.reduceMul, Nat.reduceEqDiff, Nat.reduceLT, Nat.reduceLeDiff]
  subst hK
  by_cases c30 : s2_2 < 5
  ·rw [if_pos c30] at h
   refine AW.ifT rfl c30 ?_
   refine AW.skip ?_
   refine thenA_n ?_
   refine AW.seq ?_
   refine AW.block ?_
   obtain ⟨x31, hx31, h⟩ := Option.bind_eq_some_iff.1 h
   refine AW.regL [0, 2, 4, 6, 7, 8, 9] ?_
   generalize hK : AW Tryd.prog _ _ _ = K
   simp only [go_sem, ↓reduceIte, reduceCtorEq, Nat.reduceAdd, Nat.reduceSub, Nat.reduceMul, Nat.reduceEqDiff, Nat.reduceLT, Nat.reduceLeDiff, eq_true c30]
   refine arC.of (ok42 a0 s2_1 x31 hx31) Tryd.call42 ?_
   simp only [go_sem, ↓reduceIte, reduceCtorEq, Nat.reduceAdd, Nat.reduceSub, Nat.reduceMul, Nat.reduceEqDiff, Nat.reduceLT, Nat.reduceLeDiff, eq_true c30]
   subst hK
   refine AW.seq ?_
   refine AW.regL [0, 2, 4, 6, 7, 8, 9, 33] ?_
   generalize hK : AW Tryd.prog _ _ _ = K
   simp only [go_sem, ↓reduceIte, reduceCtorEq, Nat.reduceAdd, Nat.reduceSub, Nat.reduceMul, Nat.reduceEqDiff, Nat.reduceLT, Nat.reduceLeDiff, eq_true c30]
   subst hK
   by_cases c33 : x31.2.2 = 0
   ·rw [if_pos c33] at h
    refine AW.ifF rfl (fun q => q c33) ?_
    refine AW.skip ?_
    refine thenA_n ?_
    refine AW.seq ?_
    refine AW.regL [0, 2, 4, 6, 7, 8, 37] ?_
    generalize hK : AW Tryd.prog _ _ _ = K
    simp only [go_sem, ↓reduceIte, reduceCtorEq, Nat.reduceAdd, Nat.reduceSub, Nat.reduceMul, Nat.reduceEqDiff, Nat.reduceLT, Nat.reduceLeDiff, eq_true c30, eq_true c33]
    subst hK
    by_cases c34 : 1073741824 < x31.1
    ·rw [if_pos c34] at h
     refine AW.ifT rfl c34 ?_
     refine AW.regionL [0, 2, 4, 6, 7, 8] ?_
     generalize hK : thenA _ _ Exit.normal = K
     simp only [go_sem, ↓reduceIte, reduceCtorEq, Nat.reduceAdd, Nat.reduceSub, Nat.reduceMul, Nat.reduceEqDiff, Nat.reduceLT, Nat.reduceLeDiff, eq_true c30, eq_true c33, eq_true c34]
     subst hK
     refine thenA_n ?_
     obtain ⟨x35, hx35, h⟩ := Option.bind_eq_some_iff.1 h
     obtain ⟨hx35b, hx35e⟩ := appO?_some.1 hx35
     have hx35f : ∀ id o : Nat, appO 1 8 id ([[.val (.int .i64 (IntKind.i64.wrap 1073741825))]]) 0 s2_0.length o (some (.row 1 true (List.map enc3 s2_0))) = some ⟨.own id 0 x35.length, [(o, none), (id, some (.row 1 true (List.map enc3 x35)))]⟩ := fun id o => by
       subst hx35e; rw [appO_ok (by simp) (by simpa using hx35b) (by decide)]; first | (simp [enc3]; done) | (simp [enc3]; omega)
     refine AW.regL [0, 2, 4, 6, 8] ?_
     generalize hK : AW Tryd.prog _ _ _ = K
     simp only [go_sem, ↓reduceIte, reduceCtorEq, Nat.reduceAdd, Nat.reduceSub, Nat.reduceMul, Nat.reduceEqDiff, Nat.reduceLT, Nat.reduceLeDiff, eq_true c30, eq_true c33, eq_true c34, hx35f]
     subst hK
     refine AW.regionL [0, 2, 4, 5, 6] ?_
     generalize hK : inBlockA _ _ Exit.normal = K
     simp only [go_sem, ↓reduceIte, reduceCtorEq, Nat.reduceAdd, Nat.reduceSub, Nat.reduceMul, Nat.reduceEqDiff, Nat.reduceLT, Nat.reduceLeDiff, eq_true c30, eq_true c33, eq_true c34]
     subst hK
     refine block_n ?_
     refine thenA_n ?_
     refine AW.regionL [0, 2, 4, 5, 6] ?_
     generalize hK : thenA _ _ Exit.normal = K
     simp only [go_sem, ↓reduceIte, reduceCtorEq, Nat.reduceAdd, Nat.reduceSub, Nat.reduceMul, Nat.reduceEqDiff, Nat.reduceLT, Nat.reduceLeDiff, eq_true c30, eq_true c33, eq_true c34]
     subst hK
     refine thenA_n ?_
     refine ⟨_, (Option.some.inj h).symm, ?_⟩
     refine Ent.can [8, 178] _ _ _ rfl (by first | decide | simp) rfl ?_ ?_ ?_
     · exact (((((RF.any.pv (by first | rfl | simp only [go_sem]) (by first | rfl | simp [upd_ap, hpL_ap, tau, mapT, mapTL, bytesI_len, eq_true c30, eq_true c33, eq_true c34])).pp (by decide) (by first | rfl | simp [upd_ap, hpL_ap, tau, mapT, mapTL, bytesI_len, eq_true c30, eq_true c33, eq_true c34])).po (by decide) (by first | rfl | simp [upd_ap, hpL_ap, tau, mapT, mapTL, bytesI_len, eq_true c30, eq_true c33, eq_true c34])).pv (by first | rfl | simp only [go_sem]) (by first | rfl | simp [upd_ap, hpL_ap, tau, mapT, mapTL, bytesI_len, eq_true c30, eq_true c33, eq_true c34])).pv (by first | rfl | simp only [go_sem]) (by first | rfl | simp [upd_ap, hpL_ap, tau, mapT, mapTL, bytesI_len, eq_true c30, eq_true c33, eq_true c34]))
     · exact .nil _
     · exact .cons (.eq (by first | rfl | simp only [go_sem]) (by first | rfl | simp [upd_ap, hpL_ap, tau, mapT, mapTL, bytesI_len, eq_true c30, eq_true c33, eq_true c34])) (.cons (.eq (by first | rfl | simp only [go_sem]) (by first | rfl | simp [upd_ap, hpL_ap, tau, mapT, mapTL, bytesI_len, eq_true c30, eq_true c33, eq_true c34])) (.nil _))
    ·rw [if_neg c34] at h
     refine AW.ifF rfl c34 ?_
     refine AW.skip ?_
     refine thenA_n ?_
     obtain ⟨x36, hx36, h⟩ := Option.bind_eq_some_iff.1 h
     obtain ⟨hx36b, hx36e⟩ := appO?_some.1 hx36
     have hx36f : ∀ id o : Nat, appO 1 8 id ([[.val (.int .i64 (IntKind.i64.wrap x31.1))]]) 0 s2_0.length o (some (.row 1 true (List.map enc3 s2_0))) = some ⟨.own id 0 x36.length, [(o, none), (id, some (.row 1 true (List.map enc3 x36)))]⟩ := fun id o => by
       subst hx36e; rw [appO_ok (by simp) (by simpa using hx36b) (by decide)]; first | (simp [enc3]; done) | (simp [enc3]; omega)
     refine AW.regL [0, 2, 4, 6, 8] ?_
     generalize hK : AW Tryd.prog _ _ _ = K
     simp only [go_sem, ↓reduceIte, reduceCtorEq, Nat.reduceAdd, Nat.reduceSub, Nat.reduceMul, Nat.reduceEqDiff, Nat.reduceLT, Nat.reduceLeDiff, eq_true c30, eq_true c33, eq_false c34, hx36f]
     subst hK
     refine AW.regionL [0, 2, 4, 5, 6] ?_
     generalize hK : inBlockA _ _ Exit.normal = K
     simp only [go_sem, ↓reduceIte, reduceCtorEq, Nat.reduceAdd, Nat.reduceSub, Nat.reduceMul, Nat.reduceEqDiff, Nat.reduceLT, Nat.reduceLeDiff, eq_true c30, eq_true c33, eq_false c34]
     subst hK
     refine block_n ?_
     refine thenA_n ?_
     refine AW.regionL [0, 2, 4, 5, 6] ?_
     generalize hK : thenA _ _ Exit.normal = K
     simp only [go_sem, ↓reduceIte, reduceCtorEq, Nat.reduceAdd, Nat.reduceSub, Nat.reduceMul, Nat.reduceEqDiff, Nat.reduceLT, Nat.reduceLeDiff, eq_true c30, eq_true c33, eq_false c34]
     subst hK
     refine thenA_n ?_
     refine ⟨_, (Option.some.inj h).symm, ?_⟩
     refine Ent.can [8, 170] _ _ _ rfl (by first | decide | simp) rfl ?_ ?_ ?_
     · exact (((((RF.any.pv (by first | rfl | simp only [go_sem]) (by first | rfl | simp [upd_ap, hpL_ap, tau, mapT, mapTL, bytesI_len, eq_true c30, eq_true c33, eq_false c34])).pp (by decide) (by first | rfl | simp [upd_ap, hpL_ap, tau, mapT, mapTL, bytesI_len, eq_true c30, eq_true c33, eq_false c34])).po (by decide) (by first | rfl | simp [upd_ap, hpL_ap, tau, mapT, mapTL, bytesI_len, eq_true c30, eq_true c33, eq_false c34])).pv (by first | rfl | simp only [go_sem]) (by first | rfl | simp [upd_ap, hpL_ap, tau, mapT, mapTL, bytesI_len, eq_true c30, eq_true c33, eq_false c34])).pv (by first | rfl | simp only [go_sem]) (by first | rfl | simp [upd_ap, hpL_ap, tau, mapT, mapTL, bytesI_len, eq_true c30, eq_true c33, eq_false c34]))
     · exact .nil _
     · exact .cons (.eq (by first | rfl | simp only [go_sem]) (by first | rfl | simp [upd_ap, hpL_ap, tau, mapT, mapTL, bytesI_len, eq_true c30, eq_true c33, eq_false c34])) (.cons (.eq (by first | rfl | simp only [go_sem]) (by first | rfl | simp [upd_ap, hpL_ap, tau, mapT, mapTL, bytesI_len, eq_true c30, eq_true c33, eq_false c34])) (.nil _))
   ·rw [if_neg c33] at h
    refine AW.ifT rfl c33 ?_
    refine AW.regL [2, 3] ?_
    generalize hK : AW Tryd.prog _ _ _ = K
    simp only [go_sem, ↓reduceIte, reduceCtorEq, Nat.reduceAdd, Nat.reduceSub, Nat.reduceMul, Nat.reduceEqDiff, Nat.reduceLT, Nat.reduceLeDiff, eq_true c30, eq_false c33]
    subst hK
    refine AW.ent (Ent.weakObj 8 rfl rfl (.cons (.of rfl) (.cons (.of rfl) (.cons (.of rfl) (.cons (.of rfl) (.cons Weak.nil (.cons Weak.nil (.cons Weak.nil WeakL.nil)))))))) ?_
    refine AW.ret ?_
    refine thenA_r ?_
    refine block_r ?_
    refine thenA_r ?_
    refine thenA_r ?_
    refine ⟨_, (Option.some.inj h).symm, _, Ent.refl, rfl, ?_⟩
    (simp only [go_sem, ↓reduceIte, reduceCtorEq, Nat.reduceAdd, Nat.reduceSub, Nat.reduceMul, Nat.reduceEqDiff, Nat.reduceLT, Nat.reduceLeDiff, eq_true c30, eq_false c33, finA] <;> try simp)
  ·rw [if_neg c30] at h
   refine AW.ifF rfl c30 ?_
   refine AW.exit ?_
   refine thenA_x ?_
   refine thenA_x ?_
   refine ⟨_, (Option.some.inj h).symm, _, ?_, rfl, rfl⟩
   refine Ent.can [8, 9] _ _ _ rfl (by first | decide | simp) rfl ?_ ?_ ?_
   · exact ((((RF.any.pv (by first | rfl | simp only [go_sem]) (by first | rfl | simp [upd_ap, hpL_ap, tau, mapT, mapTL, bytesI_len, eq_false c30])).pp (by decide) (by first | rfl | simp [upd_ap, hpL_ap, tau, mapT, mapTL, bytesI_len, eq_false c30])).po (by decide) (by first | rfl | simp [upd_ap, hpL_ap, tau, mapT, mapTL, bytesI_len, eq_false c30])).pv (by first | rfl | simp only [go_sem]) (by first | rfl | simp [upd_ap, hpL_ap, tau, mapT, mapTL, bytesI_len, eq_false c30]))
   · exact .nil _
   · exact .cons (.eq (by first | rfl | simp only [go_sem]) (by first | rfl | simp [upd_ap, hpL_ap, tau, mapT, mapTL, bytesI_len, eq_false c30])) (.cons (.eq (by first | rfl | simp only [go_sem]) (by first | rfl | simp [upd_ap, hpL_ap, tau, mapT, mapTL, bytesI_len, eq_false c30])) (.nil _))
 ·intro e st' hX
  rcases y37 with y38 | ⟨y39, y40⟩ <;> dsimp only at h hX
  ·obtain ⟨rfl, hf⟩ := hX
   refine ⟨_, Ent.refl, ?_⟩
   refine block_r ?_
   refine thenA_r ?_
   obtain rfl := Option.some.inj h
   exact hf
  ·obtain ⟨rfl, rfl⟩ := hX
   refine ⟨_, Ent.refl, ?_⟩
   refine block_x ?_
   refine thenA_n ?_
   refine AW.seq ?_
   obtain ⟨x43, hx43, h⟩ := Option.bind_eq_some_iff.1 h
   refine AW.regL [0, 2, 4, 5, 47] ?_
   generalize hK : AW Tryd.prog _ _ _ = K
   simp only [go_sem, ↓reduceIte, reduceCtorEq, Nat.reduceAdd, Nat.reduceSub, Nat.reduceMul, Nat.reduceEqDiff, Nat.reduceLT, Nat.reduceLeDiff, hx43, ix_lt hx43]
   subst hK
   by_cases c44 : 65536 < x43
   ·rw [if_pos c44] at h
    refine AW.ifT rfl c44 ?_
    refine AW.regL [2, 3] ?_
    generalize hK : AW Tryd.prog _ _ _ = K
    simp only [go_sem, ↓reduceIte, reduceCtorEq, Nat.reduceAdd, Nat.reduceSub, Nat.reduceMul, Nat.reduceEqDiff, Nat.reduceLT, Nat.reduceLeDiff, eq_true c44]
    subst hK
    refine AW.ent (Ent.weakObj 8 rfl rfl (.cons (.of rfl) (.cons (.of rfl) (.cons (.of rfl) (.cons (.of rfl) (.cons Weak.nil (.cons Weak.nil (.cons Weak.nil WeakL.nil)))))))) ?_
    refine AW.ret ?_
    refine thenA_r ?_
    obtain rfl := Option.some.inj h
    (simp only [go_sem, ↓reduceIte, reduceCtorEq, Nat.reduceAdd, Nat.reduceSub, Nat.reduceMul, Nat.reduceEqDiff, Nat.reduceLT, Nat.reduceLeDiff, eq_true c44, finA] <;> try simp)
   ·rw [if_neg c44] at h
    refine AW.ifF rfl c44 ?_
    refine AW.skip ?_
    refine thenA_n ?_
    obtain ⟨x45, hx45, h⟩ := Option.bind_eq_some_iff.1 h
    obtain ⟨x46, hx46, h⟩ := Option.bind_eq_some_iff.1 h
    obtain ⟨x47, hx47, h⟩ := Option.bind_eq_some_iff.1 h
    obtain ⟨x48, hx48, h⟩ := Option.bind_eq_some_iff.1 h
    refine AW.regdL [0, 2, 4, 5, 10] [[], [0], [0, 1], [], [3], [3, 4], [], [6], [6, 7], [], [9], [9, 10], [0, 1, 2, 3, 4, 5, 6, 7, 8, 9, 10, 11], [], [0, 1, 2, 3, 4, 5, 6, 7, 8, 9, 10, 11, 12, 13]] [0, 1, 2, 3, 4, 5, 6, 7, 8, 9, 10, 11, 12, 13, 14] noFt (fun _ _ _ h => by simp [noFt] at h) draws (by kernel_rfl) (by kernel_rfl) ?_
    generalize hK : AW Tryd.prog _ _ _ = K
    simp only [go_sem, ↓reduceIte, reduceCtorEq, Nat.reduceAdd, Nat.reduceSub, Nat.reduceMul, Nat.reduceEqDiff, Nat.reduceLT, Nat.reduceLeDiff, eq_false c44, hx45, ix_lt hx45, hx46, ix_lt hx46, hx47, ix_lt hx47, hx48, ix_lt hx48]
    subst hK
    refine AW.seq ?_
    refine AW.regL [0, 2, 4, 5, 10, 11] ?_
    generalize hK : AW Tryd.prog _ _ _ = K
    simp only [go_sem, ↓reduceIte, reduceCtorEq, Nat.reduceAdd, Nat.reduceSub, Nat.reduceMul, Nat.reduceEqDiff, Nat.reduceLT, Nat.reduceLeDiff, eq_false c44]
    subst hK
    refine AW.block ?_
    obtain ⟨y91, hy91, h⟩ := Option.bind_eq_some_iff.1 h
    refine AW.loopO (fun s => ⟨(upd (upd (upd (upd (upd (upd anyF 0 (.sl (List.map enc5 a0))) 2 (.ptr 8 0 0)) 4 (.own 9 0 y40.length)) 5 (.val (.int .i64 s.1))) 10 (.ptr 10 0 0)) 11 (.val (.int .i64 s.2.2))), hpL [] [some (.row 7 true [[.val (.int .i64 0), .val (.int .i64 0), .val (.int .i64 0), .val (.int .i64 0), .val (.slice none 0 0), .val (.slice none 0 0), .val (.slice none 0 0)]]), some (.row 1 true (List.map enc3 y40)), some (.row 7 true [[.val (.int .i64 x45), .val (.int .i64 x46), .val (.int .i64 x47), .val (.int .i64 x48), .own 11 0 s.2.1.length, .val (.slice none 0 0), .val (.slice none 0 0)]]), some (.row 1 true (List.map enc3 s.2.1))], 12⟩) (fun y e st' => match y with | .inl z => e = Exit.ret ∧ finA Tryd.prog [.cell 2 54, .tmp 3] (.tup [.agg (encNote z.1), .val (.int .i64 z.2)]) .ret st' | .inr z => e = Exit.exit 2 ∧ st' = ⟨(upd (upd (upd (upd anyF 0 (.sl (List.map enc5 a0))) 2 (.ptr 8 0 0)) 5 (.val (.int .i64 z.1))) 10 (.ptr 9 0 0)), hpL [] [some (.row 7 true [[.val (.int .i64 0), .val (.int .i64 0), .val (.int .i64 0), .val (.int .i64 0), .val (.slice none 0 0), .val (.slice none 0 0), .val (.slice none 0 0)]]), some (.row 7 true [[.val (.int .i64 x45), .val (.int .i64 x46), .val (.int .i64 x47), .val (.int .i64 x48), .own 10 0 z.2.length, .val (.slice none 0 0), .val (.slice none 0 0)]]), some (.row 1 true (List.map enc3 z.2))], 11⟩) hy91 ?_ ?_ ?_
    ·refine Ent.trans (Ent.nilCell 146 4 1 (by decide) (by first | rfl | simp [upd_ap]) rfl) ?_
     refine Ent.can [8, 9, 146, 170] _ _ _ rfl (by first | decide | simp) rfl ?_ ?_ ?_
     · exact ((((((RF.any.pv (by first | rfl | simp only [go_sem]) (by first | rfl | simp [upd_ap, hpL_ap, tau, mapT, mapTL, bytesI_len, eq_false c44])).pp (by decide) (by first | rfl | simp [upd_ap, hpL_ap, tau, mapT, mapTL, bytesI_len, eq_false c44])).po (by decide) (by first | rfl | simp [upd_ap, hpL_ap, tau, mapT, mapTL, bytesI_len, eq_false c44])).pv (by first | rfl | simp only [go_sem]) (by first | rfl | simp [upd_ap, hpL_ap, tau, mapT, mapTL, bytesI_len, eq_false c44])).pp (by decide) (by first | rfl | simp [upd_ap, hpL_ap, tau, mapT, mapTL, bytesI_len, eq_false c44])).pv (by first | rfl | simp only [go_sem]) (by first | rfl | simp [upd_ap, hpL_ap, tau, mapT, mapTL, bytesI_len, eq_false c44]))
     · exact .nil _
     · exact .cons (.eq (by first | rfl | simp only [go_sem]) (by first | rfl | simp [upd_ap, hpL_ap, tau, mapT, mapTL, bytesI_len, eq_false c44])) (.cons (.eq (by first | rfl | simp only [go_sem]) (by first | rfl | simp [upd_ap, hpL_ap, tau, mapT, mapTL, bytesI_len, eq_false c44])) (.cons (.tok (by simp [tokL, tokLL, inlR]) (by first | rfl | simp [upd_ap, hpL_ap, tau, mapT, mapTL, bytesI_len, eq_false c44])) (.cons (.eq (by first | rfl | simp only [go_sem]) (by first | rfl | simp [upd_ap, hpL_ap, tau, mapT, mapTL, bytesI_len, eq_false c44])) (.nil _))))
    ·clear h hy91
     rintro ⟨s4_0, s4_1, s4_2⟩ x h
     rw [f30_s4] at h
     refine AW.seq ?_
     refine AW.regL [0, 2, 4, 5, 10, 11, 66] ?_
     generalize hK : AW Tryd.prog _ _ _ = K
     simp only [go_sem, ↓reduceIte, reduceCtorEq, Nat.reduceAdd, Nat.reduceSub, Nat.reduceMul, Nat.reduceEqDiff, Nat.reduceLT, Nat.reduceLeDiff, eq_false c44, hx43, ix_lt hx43]
     subst hK
     by_cases c84 : s4_2 < x43
     ·rw [if_pos c84] at h
      refine AW.ifT rfl c84 ?_
      refine AW.skip ?_
      refine thenA_n ?_
      refine AW.seq ?_
      refine AW.block ?_
      obtain ⟨x85, hx85, h⟩ := Option.bind_eq_some_iff.1 h
      refine AW.regL [0, 2, 4, 10, 11, 12, 13, 14] ?_
      generalize hK : AW Tryd.prog _ _ _ = K
      simp only [go_sem, ↓reduceIte, reduceCtorEq, Nat.reduceAdd, Nat.reduceSub, Nat.reduceMul, Nat.reduceEqDiff, Nat.reduceLT, Nat.reduceLeDiff, eq_false c44, eq_true c84]
      refine arC.of (ok42 a0 s4_0 x85 hx85) Tryd.call42 ?_
      simp only [go_sem, ↓reduceIte, reduceCtorEq, Nat.reduceAdd, Nat.reduceSub, Nat.reduceMul, Nat.reduceEqDiff, Nat.reduceLT, Nat.reduceLeDiff, eq_false c44, eq_true c84]
      subst hK
      refine AW.seq ?_
      refine AW.regL [0, 2, 4, 10, 11, 12, 13, 14, 77] ?_
      generalize hK : AW Tryd.prog _ _ _ = K
      simp only [go_sem, ↓reduceIte, reduceCtorEq, Nat.reduceAdd, Nat.reduceSub, Nat.reduceMul, Nat.reduceEqDiff, Nat.reduceLT, Nat.reduceLeDiff, eq_false c44, eq_true c84]
      subst hK
      by_cases c87 : x85.2.2 = 0
      ·rw [if_pos c87] at h
       refine AW.ifF rfl (fun q => q c87) ?_
       refine AW.skip ?_
       refine thenA_n ?_
       refine AW.join (fun s => ⟨(upd (upd (upd (upd (upd (upd (upd anyF 0 (.sl (List.map enc5 a0))) 2 (.ptr 8 0 0)) 4 (.own 9 0 y40.length)) 10 (.ptr 10 0 0)) 11 (.val (.int .i64 s4_2))) 12 (.val (.int .u64 s))) 13 (.val (.int .i64 x85.2.1))), hpL [] [some (.row 7 true [[.val (.int .i64 0), .val (.int .i64 0), .val (.int .i64 0), .val (.int .i64 0), .val (.slice none 0 0), .val (.slice none 0 0), .val (.slice none 0 0)]]), some (.row 1 true (List.map enc3 y40)), some (.row 7 true [[.val (.int .i64 x45), .val (.int .i64 x46), .val (.int .i64 x47), .val (.int .i64 x48), .own 11 0 s4_1.length, .val (.slice none 0 0), .val (.slice none 0 0)]]), some (.row 1 true (List.map enc3 s4_1))], 12⟩) (fun s => f30_j5 s4_1 s4_2 x85 s = some x) ?_ ?_
       ·refine AW.regL [0, 2, 4, 10, 11, 12, 13, 81] ?_
        generalize hK : AW Tryd.prog _ _ _ = K
        simp only [go_sem, ↓reduceIte, reduceCtorEq, Nat.reduceAdd, Nat.reduceSub, Nat.reduceMul, Nat.reduceEqDiff, Nat.reduceLT, Nat.reduceLeDiff, eq_false c44, eq_true c84, eq_true c87]
        subst hK
        by_cases c90 : 1073741824 < x85.1
        ·rw [if_pos c90] at h
         refine AW.ifT rfl c90 ?_
         refine AW.regionL [0, 2, 4, 10, 11, 12, 13] ?_
         generalize hK : thenA _ _ Exit.normal = K
         simp only [go_sem, ↓reduceIte, reduceCtorEq, Nat.reduceAdd, Nat.reduceSub, Nat.reduceMul, Nat.reduceEqDiff, Nat.reduceLT, Nat.reduceLeDiff, eq_false c44, eq_true c84, eq_true c87, eq_true c90]
         subst hK
         refine thenA_n ?_
         refine ⟨_, h, ?_⟩
         refine Ent.can [8, 9, 10, 11] _ _ _ rfl (by first | decide | simp) rfl ?_ ?_ ?_
         · exact (((((((RF.any.pv (by first | rfl | simp only [go_sem]) (by first | rfl | simp [upd_ap, hpL_ap, tau, mapT, mapTL, bytesI_len, eq_false c44, eq_true c84, eq_true c87, eq_true c90])).pp (by decide) (by first | rfl | simp [upd_ap, hpL_ap, tau, mapT, mapTL, bytesI_len, eq_false c44, eq_true c84, eq_true c87, eq_true c90])).po (by decide) (by first | rfl | simp [upd_ap, hpL_ap, tau, mapT, mapTL, bytesI_len, eq_false c44, eq_true c84, eq_true c87, eq_true c90])).pp (by decide) (by first | rfl | simp [upd_ap, hpL_ap, tau, mapT, mapTL, bytesI_len, eq_false c44, eq_true c84, eq_true c87, eq_true c90])).pv (by first | rfl | simp only [go_sem]) (by first | rfl | simp [upd_ap, hpL_ap, tau, mapT, mapTL, bytesI_len, eq_false c44, eq_true c84, eq_true c87, eq_true c90])).pv (by first | rfl | simp only [go_sem]) (by first | rfl | simp [upd_ap, hpL_ap, tau, mapT, mapTL, bytesI_len, eq_false c44, eq_true c84, eq_true c87, eq_true c90])).pv (by first | rfl | simp only [go_sem]) (by first | rfl | simp [upd_ap, hpL_ap, tau, mapT, mapTL, bytesI_len, eq_false c44, eq_true c84, eq_true c87, eq_true c90]))
         · exact .nil _
         · exact .cons (.eq (by first | rfl | simp only [go_sem]) (by first | rfl | simp [upd_ap, hpL_ap, tau, mapT, mapTL, bytesI_len, eq_false c44, eq_true c84, eq_true c87, eq_true c90])) (.cons (.eq (by first | rfl | simp only [go_sem]) (by first | rfl | simp [upd_ap, hpL_ap, tau, mapT, mapTL, bytesI_len, eq_false c44, eq_true c84, eq_true c87, eq_true c90])) (.cons (.tok (by simp [tokL, tokLL, inlR]) (by first | rfl | simp [upd_ap, hpL_ap, tau, mapT, mapTL, bytesI_len, eq_false c44, eq_true c84, eq_true c87, eq_true c90])) (.cons (.eq (by first | rfl | simp only [go_sem]) (by first | rfl | simp [upd_ap, hpL_ap, tau, mapT, mapTL, bytesI_len, eq_false c44, eq_true c84, eq_true c87, eq_true c90])) (.nil _))))
        ·rw [if_neg c90] at h
         refine AW.ifF rfl c90 ?_
         refine AW.skip ?_
         refine thenA_n ?_
         refine ⟨_, h, ?_⟩
         refine Ent.can [8, 9, 10, 11] _ _ _ rfl (by first | decide | simp) rfl ?_ ?_ ?_
         · exact (((((((RF.any.pv (by first | rfl | simp only [go_sem]) (by first | rfl | simp [upd_ap, hpL_ap, tau, mapT, mapTL, bytesI_len, eq_false c44, eq_true c84, eq_true c87, eq_false c90])).pp (by decide) (by first | rfl | simp [upd_ap, hpL_ap, tau, mapT, mapTL, bytesI_len, eq_false c44, eq_true c84, eq_true c87, eq_false c90])).po (by decide) (by first | rfl | simp [upd_ap, hpL_ap, tau, mapT, mapTL, bytesI_len, eq_false c44, eq_true c84, eq_true c87, eq_false c90])).pp (by decide) (by first | rfl | simp [upd_ap, hpL_ap, tau, mapT, mapTL, bytesI_len, eq_false c44, eq_true c84, eq_true c87, eq_false c90])).pv (by first | rfl | simp only [go_sem]) (by first | rfl | simp [upd_ap, hpL_ap, tau, mapT, mapTL, bytesI_len, eq_false c44, eq_true c84, eq_true c87, eq_false c90])).pv (by first | rfl | simp only [go_sem]) (by first | rfl | simp [upd_ap, hpL_ap, tau, mapT, mapTL, bytesI_len, eq_false c44, eq_true c84, eq_true c87, eq_false c90])).pv (by first | rfl | simp only [go_sem]) (by first | rfl | simp [upd_ap, hpL_ap, tau, mapT, mapTL, bytesI_len, eq_false c44, eq_true c84, eq_true c87, eq_false c90]))
         · exact .nil _
         · exact .cons (.eq (by first | rfl | simp only [go_sem]) (by first | rfl | simp [upd_ap, hpL_ap, tau, mapT, mapTL, bytesI_len, eq_false c44, eq_true c84, eq_true c87, eq_false c90])) (.cons (.eq (by first | rfl | simp only [go_sem]) (by first | rfl | simp [upd_ap, hpL_ap, tau, mapT, mapTL, bytesI_len, eq_false c44, eq_true c84, eq_true c87, eq_false c90])) (.cons (.tok (by simp [tokL, tokLL, inlR]) (by first | rfl | simp [upd_ap, hpL_ap, tau, mapT, mapTL, bytesI_len, eq_false c44, eq_true c84, eq_true c87, eq_false c90])) (.cons (.eq (by first | rfl | simp only [go_sem]) (by first | rfl | simp [upd_ap, hpL_ap, tau, mapT, mapTL, bytesI_len, eq_false c44, eq_true c84, eq_true c87, eq_false c90])) (.nil _))))
       ·clear h
        rintro j5_0 h
        rw [f30_j5] at h
        obtain ⟨x89, hx89, h⟩ := Option.bind_eq_some_iff.1 h
        obtain ⟨hx89b, hx89e⟩ := appO?_some.1 hx89
        have hx89f : ∀ id o : Nat, appO 1 8 id ([[.val (.int .i64 (IntKind.i64.wrap j5_0))]]) 0 s4_1.length o (some (.row 1 true (List.map enc3 s4_1))) = some ⟨.own id 0 x89.length, [(o, none), (id, some (.row 1 true (List.map enc3 x89)))]⟩ := fun id o => by
          subst hx89e; rw [appO_ok (by simp) (by simpa using hx89b) (by decide)]; first | (simp [enc3]; done) | (simp [enc3]; omega)
        refine AW.regL [0, 2, 4, 10, 11, 13] ?_
        generalize hK : AW Tryd.prog _ _ _ = K
        simp only [go_sem, ↓reduceIte, reduceCtorEq, Nat.reduceAdd, Nat.reduceSub, Nat.reduceMul, Nat.reduceEqDiff, Nat.reduceLT, Nat.reduceLeDiff, eq_false c44, eq_true c84, eq_true c87, hx89f]
        subst hK
        refine AW.regionL [0, 2, 4, 5, 10, 11] ?_
        generalize hK : inBlockA _ _ Exit.normal = K
        simp only [go_sem, ↓reduceIte, reduceCtorEq, Nat.reduceAdd, Nat.reduceSub, Nat.reduceMul, Nat.reduceEqDiff, Nat.reduceLT, Nat.reduceLeDiff, eq_false c44, eq_true c84, eq_true c87]
        subst hK
        refine block_n ?_
        refine thenA_n ?_
        refine AW.regionL [0, 2, 4, 5, 10, 11] ?_
        generalize hK : thenA _ _ Exit.normal = K
        simp only [go_sem, ↓reduceIte, reduceCtorEq, Nat.reduceAdd, Nat.reduceSub, Nat.reduceMul, Nat.reduceEqDiff, Nat.reduceLT, Nat.reduceLeDiff, eq_false c44, eq_true c84, eq_true c87]
        subst hK
        refine thenA_n ?_
        refine ⟨_, (Option.some.inj h).symm, ?_⟩
        refine Ent.can [8, 9, 10, 52] _ _ _ rfl (by first | decide | simp) rfl ?_ ?_ ?_
        · exact ((((((RF.any.pv (by first | rfl | simp only [go_sem]) (by first | rfl | simp [upd_ap, hpL_ap, tau, mapT, mapTL, bytesI_len, eq_false c44, eq_true c84, eq_true c87])).pp (by decide) (by first | rfl | simp [upd_ap, hpL_ap, tau, mapT, mapTL, bytesI_len, eq_false c44, eq_true c84, eq_true c87])).po (by decide) (by first | rfl | simp [upd_ap, hpL_ap, tau, mapT, mapTL, bytesI_len, eq_false c44, eq_true c84, eq_true c87])).pv (by first | rfl | simp only [go_sem]) (by first | rfl | simp [upd_ap, hpL_ap, tau, mapT, mapTL, bytesI_len, eq_false c44, eq_true c84, eq_true c87])).pp (by decide) (by first | rfl | simp [upd_ap, hpL_ap, tau, mapT, mapTL, bytesI_len, eq_false c44, eq_true c84, eq_true c87])).pv (by first | rfl | simp only [go_sem]) (by first | rfl | simp [upd_ap, hpL_ap, tau, mapT, mapTL, bytesI_len, eq_false c44, eq_true c84, eq_true c87]))
        · exact .nil _
        · exact .cons (.eq (by first | rfl | simp only [go_sem]) (by first | rfl | simp [upd_ap, hpL_ap, tau, mapT, mapTL, bytesI_len, eq_false c44, eq_true c84, eq_true c87])) (.cons (.eq (by first | rfl | simp only [go_sem]) (by first | rfl | simp [upd_ap, hpL_ap, tau, mapT, mapTL, bytesI_len, eq_false c44, eq_true c84, eq_true c87])) (.cons (.tok (by simp [tokL, tokLL, inlR]) (by first | rfl | simp [upd_ap, hpL_ap, tau, mapT, mapTL, bytesI_len, eq_false c44, eq_true c84, eq_true c87])) (.cons (.eq (by first | rfl | simp only [go_sem]) (by first | rfl | simp [upd_ap, hpL_ap, tau, mapT, mapTL, bytesI_len, eq_false c44, eq_true c84, eq_true c87])) (.nil _))))
      ·rw [if_neg c87] at h
       refine AW.ifT rfl c87 ?_
       refine AW.regL [2, 3] ?_
       generalize hK : AW Tryd.prog _ _ _ = K
       simp only [go_sem, ↓reduceIte, reduceCtorEq, Nat.reduceAdd, Nat.reduceSub, Nat.reduceMul, Nat.reduceEqDiff, Nat.reduceLT, Nat.reduceLeDiff, eq_false c44, eq_true c84, eq_false c87]
       subst hK
       refine AW.ent (Ent.weakObj 8 rfl rfl (.cons (.of rfl) (.cons (.of rfl) (.cons (.of rfl) (.cons (.of rfl) (.cons Weak.nil (.cons Weak.nil (.cons Weak.nil WeakL.nil)))))))) ?_
       refine AW.ret ?_
       refine thenA_r ?_
       refine block_r ?_
       refine thenA_r ?_
       refine thenA_r ?_
       refine ⟨_, (Option.some.inj h).symm, _, Ent.refl, rfl, ?_⟩
       (simp only [go_sem, ↓reduceIte, reduceCtorEq, Nat.reduceAdd, Nat.reduceSub, Nat.reduceMul, Nat.reduceEqDiff, Nat.reduceLT, Nat.reduceLeDiff, eq_false c44, eq_true c84, eq_false c87, finA] <;> try simp)
     ·rw [if_neg c84] at h
      refine AW.ifF rfl c84 ?_
      refine AW.exit ?_
      refine thenA_x ?_
      refine thenA_x ?_
      refine ⟨_, (Option.some.inj h).symm, _, ?_, rfl, rfl⟩
      refine Ent.can [8, 10, 11] _ _ _ rfl (by first | decide | simp) rfl ?_ ?_ ?_
      · exact ((((RF.any.pv (by first | rfl | simp only [go_sem]) (by first | rfl | simp [upd_ap, hpL_ap, tau, mapT, mapTL, bytesI_len, eq_false c44, eq_false c84])).pp (by decide) (by first | rfl | simp [upd_ap, hpL_ap, tau, mapT, mapTL, bytesI_len, eq_false c44, eq_false c84])).pv (by first | rfl | simp only [go_sem]) (by first | rfl | simp [upd_ap, hpL_ap, tau, mapT, mapTL, bytesI_len, eq_false c44, eq_false c84])).pp (by decide) (by first | rfl | simp [upd_ap, hpL_ap, tau, mapT, mapTL, bytesI_len, eq_false c44, eq_false c84]))
      · exact .nil _
      · exact .cons (.eq (by first | rfl | simp only [go_sem]) (by first | rfl | simp [upd_ap, hpL_ap, tau, mapT, mapTL, bytesI_len, eq_false c44, eq_false c84])) (.cons (.tok (by simp [tokL, tokLL, inlR]) (by first | rfl | simp [upd_ap, hpL_ap, tau, mapT, mapTL, bytesI_len, eq_false c44, eq_false c84])) (.cons (.eq (by first | rfl | simp only [go_sem]) (by first | rfl | simp [upd_ap, hpL_ap, tau, mapT, mapTL, bytesI_len, eq_false c44, eq_false c84])) (.nil _)))
    ·intro e st' hX
     rcases y91 with y92 | ⟨y93, y94⟩ <;> dsimp only at h hX
     ·obtain ⟨rfl, hf⟩ := hX
      refine ⟨_, Ent.refl, ?_⟩
      refine block_r ?_
      refine thenA_r ?_
      obtain rfl := Option.some.inj h
      exact hf
     ·obtain ⟨rfl, rfl⟩ := hX
      refine ⟨_, Ent.refl, ?_⟩
      refine block_x ?_
      refine thenA_n ?_
      obtain ⟨x95, hx95, h⟩ := Option.bind_eq_some_iff.1 h
      refine AW.regL [0, 2, 10, 15, 16, 17] ?_
      generalize hK : AW Tryd.prog _ _ _ = K
      simp only [go_sem, ↓reduceIte, reduceCtorEq, Nat.reduceAdd, Nat.reduceSub, Nat.reduceMul, Nat.reduceEqDiff, Nat.reduceLT, Nat.reduceLeDiff, eq_false c44]
      refine arC.of (ok43 a0 y93 1048576 x95 hx95) Tryd.call43 ?_
      simp only [go_sem, ↓reduceIte, reduceCtorEq, Nat.reduceAdd, Nat.reduceSub, Nat.reduceMul, Nat.reduceEqDiff, Nat.reduceLT, Nat.reduceLeDiff, eq_false c44]
      subst hK
      refine AW.seq ?_
      refine AW.regL [0, 2, 10, 15, 16, 17, 98] ?_
      generalize hK : AW Tryd.prog _ _ _ = K
      simp only [go_sem, ↓reduceIte, reduceCtorEq, Nat.reduceAdd, Nat.reduceSub, Nat.reduceMul, Nat.reduceEqDiff, Nat.reduceLT, Nat.reduceLeDiff, eq_false c44]
      subst hK
      by_cases c97 : x95.2.2 = 0
      ·rw [if_pos c97] at h
       refine AW.ifF rfl (fun q => q c97) ?_
       refine AW.skip ?_
       refine thenA_n ?_
       obtain ⟨x98, hx98, h⟩ := Option.bind_eq_some_iff.1 h
       refine AW.regL [0, 2, 10, 15, 18, 19, 20] ?_
       generalize hK : AW Tryd.prog _ _ _ = K
       simp only [go_sem, ↓reduceIte, reduceCtorEq, Nat.reduceAdd, Nat.reduceSub, Nat.reduceMul, Nat.reduceEqDiff, Nat.reduceLT, Nat.reduceLeDiff, eq_false c44, eq_true c97]
       refine arC.of (ok43 a0 x95.2.1 1048576 x98 hx98) Tryd.call43 ?_
       simp only [go_sem, ↓reduceIte, reduceCtorEq, Nat.reduceAdd, Nat.reduceSub, Nat.reduceMul, Nat.reduceEqDiff, Nat.reduceLT, Nat.reduceLeDiff, eq_false c44, eq_true c97]
       subst hK
       refine AW.seq ?_
       refine AW.regL [0, 2, 10, 15, 18, 19, 20, 109] ?_
       generalize hK : AW Tryd.prog _ _ _ = K
       simp only [go_sem, ↓reduceIte, reduceCtorEq, Nat.reduceAdd, Nat.reduceSub, Nat.reduceMul, Nat.reduceEqDiff, Nat.reduceLT, Nat.reduceLeDiff, eq_false c44, eq_true c97]
       subst hK
       by_cases c100 : x98.2.2 = 0
       ·rw [if_pos c100] at h
        refine AW.ifF rfl (fun q => q c100) ?_
        refine AW.skip ?_
        refine thenA_n ?_
        refine AW.regL [0, 2, 10, 19] ?_
        generalize hK : AW Tryd.prog _ _ _ = K
        simp only [go_sem, ↓reduceIte, reduceCtorEq, Nat.reduceAdd, Nat.reduceSub, Nat.reduceMul, Nat.reduceEqDiff, Nat.reduceLT, Nat.reduceLeDiff, eq_false c44, eq_true c97, eq_true c100, bytesRows_map (enc := enc5) (fun _ => rfl)]
        subst hK
        refine AW.seq ?_
        refine AW.ent (Ent.stillObj (pre := [.val (.int .i64 x45), .val (.int .i64 x46), .val (.int .i64 x47), .val (.int .i64 x48)]) (post := [.own 211 0 x95.1.size, .own 227 0 x98.1.size]) (q := 10) (off := 0) (len := y94.length) 9 rfl (own_sl (sz := 1) (m := true) rfl (by first | rfl | simp [bytesI_len]) (by simp only [go_sem])) (by decide)) ?_
        refine AW.ent (Ent.stillObj (pre := [.val (.int .i64 x45), .val (.int .i64 x46), .val (.int .i64 x47), .val (.int .i64 x48), .sl (List.map enc3 y94)]) (post := [.own 227 0 x98.1.size]) (q := 211) (off := 0) (len := x95.1.size) 9 rfl (own_sl (sz := 1) (m := true) rfl (by first | rfl | simp [bytesI_len]) (by simp only [go_sem])) (by decide)) ?_
        refine AW.ent (Ent.stillObj (pre := [.val (.int .i64 x45), .val (.int .i64 x46), .val (.int .i64 x47), .val (.int .i64 x48), .sl (List.map enc3 y94), .sl (List.map enc5 (bytesI x95.1))]) (post := []) (q := 227) (off := 0) (len := x98.1.size) 9 rfl (own_sl (sz := 1) (m := true) rfl (by first | rfl | simp [bytesI_len]) (by simp only [go_sem])) (by decide)) ?_
        by_cases c102 : x98.2.1 < (a0.length : Int)
        ·rw [if_pos c102] at h
         refine AW.regL [2, 10, 126] ?_
         generalize hK : AW Tryd.prog _ _ _ = K
         simp only [go_sem, ↓reduceIte, reduceCtorEq, Nat.reduceAdd, Nat.reduceSub, Nat.reduceMul, Nat.reduceEqDiff, Nat.reduceLT, Nat.reduceLeDiff, eq_false c44, eq_true c97, eq_true c100, eq_true c102]
         subst hK
         refine AW.ifBT rfl rfl ?_
         refine AW.regL [2, 3] ?_
         generalize hK : AW Tryd.prog _ _ _ = K
         simp only [go_sem, ↓reduceIte, reduceCtorEq, Nat.reduceAdd, Nat.reduceSub, Nat.reduceMul, Nat.reduceEqDiff, Nat.reduceLT, Nat.reduceLeDiff, eq_false c44, eq_true c97, eq_true c100, eq_true c102]
         subst hK
         refine AW.ent (Ent.weakObj 8 rfl rfl (.cons (.of rfl) (.cons (.of rfl) (.cons (.of rfl) (.cons (.of rfl) (.cons Weak.nil (.cons Weak.nil (.cons Weak.nil WeakL.nil)))))))) ?_
         refine AW.ret ?_
         refine thenA_r ?_
         obtain rfl := Option.some.inj h
         (simp only [go_sem, ↓reduceIte, reduceCtorEq, Nat.reduceAdd, Nat.reduceSub, Nat.reduceMul, Nat.reduceEqDiff, Nat.reduceLT, Nat.reduceLeDiff, eq_false c44, eq_true c97, eq_true c100, eq_true c102, finA] <;> try simp)
        ·rw [if_neg c102] at h
         obtain ⟨x103, hx103, h⟩ := Option.bind_eq_some_iff.1 h
         refine AW.regL [2, 10, 126] ?_
         generalize hK : AW Tryd.prog _ _ _ = K
         simp only [go_sem, ↓reduceIte, reduceCtorEq, Nat.reduceAdd, Nat.reduceSub, Nat.reduceMul, Nat.reduceEqDiff, Nat.reduceLT, Nat.reduceLeDiff, eq_false c44, eq_true c97, eq_true c100, eq_false c102]
         refine arC.of (ok44 ⟨x45, x46, x47, x48, y94, bytesI x95.1, bytesI x98.1⟩ x103 hx103) Tryd.call44 ?_
         simp only [go_sem, ↓reduceIte, reduceCtorEq, Nat.reduceAdd, Nat.reduceSub, Nat.reduceMul, Nat.reduceEqDiff, Nat.reduceLT, Nat.reduceLeDiff, eq_false c44, eq_true c97, eq_true c100, eq_false c102]
         subst hK
         by_cases c104 : x103 = true
         ·rw [if_pos c104] at h
          refine AW.ifBF rfl (by rw [c104]; rfl) ?_
          refine AW.skip ?_
          refine thenA_n ?_
          refine AW.regL [2, 3] ?_
          generalize hK : AW Tryd.prog _ _ _ = K
          simp only [go_sem, ↓reduceIte, reduceCtorEq, Nat.reduceAdd, Nat.reduceSub, Nat.reduceMul, Nat.reduceEqDiff, Nat.reduceLT, Nat.reduceLeDiff, eq_false c44, eq_true c97, eq_true c100, eq_false c102, c104]
          subst hK
          refine AW.ret ?_
          obtain rfl := Option.some.inj h
          (simp only [go_sem, ↓reduceIte, reduceCtorEq, Nat.reduceAdd, Nat.reduceSub, Nat.reduceMul, Nat.reduceEqDiff, Nat.reduceLT, Nat.reduceLeDiff, eq_false c44, eq_true c97, eq_true c100, eq_false c102, c104, finA] <;> try simp)
         ·rw [if_neg c104] at h
          rw [Bool.not_eq_true] at c104
          refine AW.ifBT rfl (by rw [c104]; rfl) ?_
          refine AW.regL [2, 3] ?_
          generalize hK : AW Tryd.prog _ _ _ = K
          simp only [go_sem, ↓reduceIte, reduceCtorEq, Nat.reduceAdd, Nat.reduceSub, Nat.reduceMul, Nat.reduceEqDiff, Nat.reduceLT, Nat.reduceLeDiff, eq_false c44, eq_true c97, eq_true c100, eq_false c102, c104]
          subst hK
          refine AW.ent (Ent.weakObj 8 rfl rfl (.cons (.of rfl) (.cons (.of rfl) (.cons (.of rfl) (.cons (.of rfl) (.cons Weak.nil (.cons Weak.nil (.cons Weak.nil WeakL.nil)))))))) ?_
          refine AW.ret ?_
          refine thenA_r ?_
          obtain rfl := Option.some.inj h
          (simp only [go_sem, ↓reduceIte, reduceCtorEq, Nat.reduceAdd, Nat.reduceSub, Nat.reduceMul, Nat.reduceEqDiff, Nat.reduceLT, Nat.reduceLeDiff, eq_false c44, eq_true c97, eq_true c100, eq_false c102, c104, finA] <;> try simp)
       ·rw [if_neg c100] at h
        refine AW.ifT rfl c100 ?_
        refine AW.regL [2, 3] ?_
        generalize hK : AW Tryd.prog _ _ _ = K
        simp only [go_sem, ↓reduceIte, reduceCtorEq, Nat.reduceAdd, Nat.reduceSub, Nat.reduceMul, Nat.reduceEqDiff, Nat.reduceLT, Nat.reduceLeDiff, eq_false c44, eq_true c97, eq_false c100]
        subst hK
        refine AW.ent (Ent.weakObj 8 rfl rfl (.cons (.of rfl) (.cons (.of rfl) (.cons (.of rfl) (.cons (.of rfl) (.cons Weak.nil (.cons Weak.nil (.cons Weak.nil WeakL.nil)))))))) ?_
        refine AW.ret ?_
        refine thenA_r ?_
        obtain rfl := Option.some.inj h
        (simp only [go_sem, ↓reduceIte, reduceCtorEq, Nat.reduceAdd, Nat.reduceSub, Nat.reduceMul, Nat.reduceEqDiff, Nat.reduceLT, Nat.reduceLeDiff, eq_false c44, eq_true c97, eq_false c100, finA] <;> try simp)
      ·rw [if_neg c97] at h
       refine AW.ifT rfl c97 ?_
       refine AW.regL [2, 3] ?_
       generalize hK : AW Tryd.prog _ _ _ = K
       simp only [go_sem, ↓reduceIte, reduceCtorEq, Nat.reduceAdd, Nat.reduceSub, Nat.reduceMul, Nat.reduceEqDiff, Nat.reduceLT, Nat.reduceLeDiff, eq_false c44, eq_false c97]
       subst hK
       refine AW.ent (Ent.weakObj 8 rfl rfl (.cons (.of rfl) (.cons (.of rfl) (.cons (.of rfl) (.cons (.of rfl) (.cons Weak.nil (.cons Weak.nil (.cons Weak.nil WeakL.nil)))))))) ?_
       refine AW.ret ?_
       refine thenA_r ?_
       obtain rfl := Option.some.inj h
       (simp only [go_sem, ↓reduceIte, reduceCtorEq, Nat.reduceAdd, Nat.reduceSub, Nat.reduceMul, Nat.reduceEqDiff, Nat.reduceLT, Nat.reduceLeDiff, eq_false c44, eq_false c97, finA] <;> try simp)
end Au
end Go.Proofs.Yd
