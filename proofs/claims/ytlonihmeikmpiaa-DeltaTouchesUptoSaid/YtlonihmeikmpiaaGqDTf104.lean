import Derived.Test.YtlonihmeikmpiaaGqDT
import Derived.Test.YtlonihmeikmpiaaGqDTf70
set_option linter.all false
set_option linter.unusedVariables false
set_option linter.unusedSimpArgs false
set_option linter.all false
set_option maxRecDepth 8000
set_option maxHeartbeats 1000000
namespace Go.Proofs.Y1
open Go.Gm
namespace Au
noncomputable def f104_s2 (a0 : List ByteArray) (a1 : ByteArray) : Int → Option (Int ⊕ Int)
  | s2_0 => (if s2_0 < (a0.length : Int) then ((ix a0 s2_0).bind fun x20 => ((f70 x20 a1).bind fun x21 => (if x21 = true then some (.inl (IntKind.i64.wrap (s2_0 + 1))) else some (.inr s2_0)))) else some (.inr s2_0))
noncomputable def f104_j1 (a0 : List ByteArray) (a1 : ByteArray) (y24 : Int) : Unit → Option (List ByteArray)
  | _ => ((cutO? a0 0 y24).bind fun x28 => ((appO? ([] : List ByteArray) x28).bind fun x29 => ((appO? x29 [a1]).bind fun x30 => ((cutO? a0 y24 (a0.length : Int)).bind fun x31 => ((appO? x30 x31).bind fun x32 => some x32)))))
noncomputable def f104 (a0 : List ByteArray) (a1 : ByteArray) : Option (List ByteArray) := ((loopO (f104_s2 a0 a1) 0).bind fun y24 => (if y24 < (a0.length : Int) then ((ix a0 y24).bind fun x34 => (if x34 = a1 then some a0 else f104_j1 a0 a1 y24 ())) else f104_j1 a0 a1 y24 ()))
theorem ok104 (a0 : List ByteArray) (a1 : ByteArray) (r : (List ByteArray)) (h : f104 a0 a1 = some r) : PC Try.prog 104 [.sl (List.map enc9 a0), .val (.string a1)] (.sl (List.map enc9 r)) := by
  rw [f104] at h
  refine pc_of8 (N := 48) (rs := [.tmp 4]) Try.func104 rfl rfl rfl (Nat.le_of_ble_eq_true rfl) ?_
  refine AW.regL [0, 1] ?_
  generalize hK : AW Try.prog _ _ _ = K
  simp only [go_sem, ↓reduceIte, reduceCtorEq, Nat.reduceAdd, Nat.reduceSub, Nat.reduceMul, Nat.reduceEqDiff, Nat.reduceLT, Nat.reduceLeDiff, Nat.reduceBEq, Int.reduceAdd, Int.reduceSub, Int.reduceLT, Int.reduceLE, Int.reduceEq, Int.reduceToNat]
  subst hK
  refine AW.regL [0, 1, 5] ?_
  generalize hK : AW Try.prog _ _ _ = K
  simp only [go_sem, ↓reduceIte, reduceCtorEq, Nat.reduceAdd, Nat.reduceSub, Nat.reduceMul, Nat.reduceEqDiff, Nat.reduceLT, Nat.reduceLeDiff, Nat.reduceBEq, Int.reduceAdd, Int.reduceSub, Int.reduceLT, Int.reduceLE, Int.reduceEq, Int.reduceToNat]
  subst hK
  refine AW.seq ?_
  refine AW.block ?_
  obtain ⟨y24, hy24, h⟩ := Option.bind_eq_some_iff.1 h
  refine AW.loopO (fun s => ⟨(upd (upd (upd anyF 0 (.sl (List.map enc9 a0))) 1 (.val (.string a1))) 5 (.val (.int .i64 s))), hpL [] [], 8⟩) (fun z e st' => e = Exit.exit 0 ∧ st' = ⟨(upd (upd (upd anyF 0 (.sl (List.map enc9 a0))) 1 (.val (.string a1))) 5 (.val (.int .i64 z))), hpL [] [], 8⟩) hy24 ?_ ?_ ?_
  · refine Ent.can [] _ _ _ rfl (by first | decide | simp) rfl ?_ ?_ ?_
    · exact (((RF.any.pv (by first | rfl | simp only [go_sem]) (by first | rfl | simp [upd_ap, hpL_ap, tau, mapT, mapTL, bytesI_len])).pv (by first | rfl | simp only [go_sem]) (by first | rfl | simp [upd_ap, hpL_ap, tau, mapT, mapTL, bytesI_len])).pv (by first | rfl | simp only [go_sem]) (by first | rfl | simp [upd_ap, hpL_ap, tau, mapT, mapTL, bytesI_len]))
    · exact .nil _
    · exact .nil _
  · clear h hy24
    rintro s2_0 x h
    rw [f104_s2] at h
    refine AW.seq ?_
    by_cases c19 : s2_0 < (a0.length : Int)
    · rw [if_pos c19] at h
      obtain ⟨x20, hx20, h⟩ := Option.bind_eq_some_iff.1 h
      obtain ⟨hx20a, hx20b⟩ := ix_some.1 hx20
      obtain ⟨x21, hx21, h⟩ := Option.bind_eq_some_iff.1 h
      refine AW.regL [0, 1, 5, 18] ?_
      generalize hK : AW Try.prog _ _ _ = K
      simp only [go_sem, ↓reduceIte, reduceCtorEq, Nat.reduceAdd, Nat.reduceSub, Nat.reduceMul, Nat.reduceEqDiff, Nat.reduceLT, Nat.reduceLeDiff, Nat.reduceBEq, Int.reduceAdd, Int.reduceSub, Int.reduceLT, Int.reduceLE, Int.reduceEq, Int.reduceToNat, eq_true c19, natOf_le hx20a, hx20b]
      refine arC.of (ok70 x20 a1 x21 hx21) Try.call70 ?_
      simp only [go_sem, ↓reduceIte, reduceCtorEq, Nat.reduceAdd, Nat.reduceSub, Nat.reduceMul, Nat.reduceEqDiff, Nat.reduceLT, Nat.reduceLeDiff, Nat.reduceBEq, Int.reduceAdd, Int.reduceSub, Int.reduceLT, Int.reduceLE, Int.reduceEq, Int.reduceToNat, eq_true c19, natOf_le hx20a, hx20b]
      subst hK
      by_cases c22 : x21 = true
      · rw [if_pos c22] at h
        refine AW.ifBT rfl c22 ?_
        refine AW.skip ?_
        refine thenA_n ?_
        refine AW.block ?_
        refine AW.regionL [0, 1, 5] ?_
        generalize hK : inBlockA _ _ Exit.normal = K
        simp only [go_sem, ↓reduceIte, reduceCtorEq, Nat.reduceAdd, Nat.reduceSub, Nat.reduceMul, Nat.reduceEqDiff, Nat.reduceLT, Nat.reduceLeDiff, Nat.reduceBEq, Int.reduceAdd, Int.reduceSub, Int.reduceLT, Int.reduceLE, Int.reduceEq, Int.reduceToNat, eq_true c19, c22]
        subst hK
        refine block_n ?_
        refine thenA_n ?_
        refine ⟨_, (Option.some.inj h).symm, ?_⟩
        refine Ent.can [] _ _ _ rfl (by first | decide | simp) rfl ?_ ?_ ?_
        · exact (((RF.any.pv (by first | rfl | simp only [go_sem]) (by first | rfl | simp [upd_ap, hpL_ap, tau, mapT, mapTL, bytesI_len, eq_true c19, c22])).pv (by first | rfl | simp only [go_sem]) (by first | rfl | simp [upd_ap, hpL_ap, tau, mapT, mapTL, bytesI_len, eq_true c19, c22])).pv (by first | rfl | simp only [go_sem]) (by first | rfl | simp [upd_ap, hpL_ap, tau, mapT, mapTL, bytesI_len, eq_true c19, c22]))
        · exact .nil _
        · exact .nil _
      · rw [if_neg c22] at h
        rw [Bool.not_eq_true] at c22
        refine AW.ifBF rfl c22 ?_
        refine AW.exit ?_
        refine thenA_x ?_
        refine thenA_x ?_
        refine ⟨_, (Option.some.inj h).symm, _, ?_, rfl, rfl⟩
        refine Ent.can [] _ _ _ rfl (by first | decide | simp) rfl ?_ ?_ ?_
        · exact (((RF.any.pv (by first | rfl | simp only [go_sem]) (by first | rfl | simp [upd_ap, hpL_ap, tau, mapT, mapTL, bytesI_len, eq_true c19, c22])).pv (by first | rfl | simp only [go_sem]) (by first | rfl | simp [upd_ap, hpL_ap, tau, mapT, mapTL, bytesI_len, eq_true c19, c22])).pv (by first | rfl | simp only [go_sem]) (by first | rfl | simp [upd_ap, hpL_ap, tau, mapT, mapTL, bytesI_len, eq_true c19, c22]))
        · exact .nil _
        · exact .nil _
    · rw [if_neg c19] at h
      refine AW.regL [0, 1, 5, 18] ?_
      generalize hK : AW Try.prog _ _ _ = K
      simp only [go_sem, ↓reduceIte, reduceCtorEq, Nat.reduceAdd, Nat.reduceSub, Nat.reduceMul, Nat.reduceEqDiff, Nat.reduceLT, Nat.reduceLeDiff, Nat.reduceBEq, Int.reduceAdd, Int.reduceSub, Int.reduceLT, Int.reduceLE, Int.reduceEq, Int.reduceToNat, eq_false c19]
      subst hK
      refine AW.ifBF rfl rfl ?_
      refine AW.exit ?_
      refine thenA_x ?_
      refine thenA_x ?_
      refine ⟨_, (Option.some.inj h).symm, _, ?_, rfl, rfl⟩
      refine Ent.can [] _ _ _ rfl (by first | decide | simp) rfl ?_ ?_ ?_
      · exact (((RF.any.pv (by first | rfl | simp only [go_sem]) (by first | rfl | simp [upd_ap, hpL_ap, tau, mapT, mapTL, bytesI_len, eq_false c19])).pv (by first | rfl | simp only [go_sem]) (by first | rfl | simp [upd_ap, hpL_ap, tau, mapT, mapTL, bytesI_len, eq_false c19])).pv (by first | rfl | simp only [go_sem]) (by first | rfl | simp [upd_ap, hpL_ap, tau, mapT, mapTL, bytesI_len, eq_false c19]))
      · exact .nil _
      · exact .nil _
  · intro e st' hX
    try dsimp only at h
    try dsimp only at hX
    obtain ⟨rfl, rfl⟩ := hX
    refine ⟨_, Ent.refl, ?_⟩
    refine block_x ?_
    refine thenA_n ?_
    refine AW.join (fun s => ⟨(upd (upd (upd anyF 0 (.sl (List.map enc9 a0))) 1 (.val (.string a1))) 5 (.val (.int .i64 y24))), hpL [] [], 8⟩) (fun s => f104_j1 a0 a1 y24 s = some r) ?_ ?_
    · by_cases c33 : y24 < (a0.length : Int)
      · rw [if_pos c33] at h
        obtain ⟨x34, hx34, h⟩ := Option.bind_eq_some_iff.1 h
        obtain ⟨hx34a, hx34b⟩ := ix_some.1 hx34
        refine AW.regL [0, 1, 5, 32] ?_
        generalize hK : AW Try.prog _ _ _ = K
        simp only [go_sem, ↓reduceIte, reduceCtorEq, Nat.reduceAdd, Nat.reduceSub, Nat.reduceMul, Nat.reduceEqDiff, Nat.reduceLT, Nat.reduceLeDiff, Nat.reduceBEq, Int.reduceAdd, Int.reduceSub, Int.reduceLT, Int.reduceLE, Int.reduceEq, Int.reduceToNat, eq_true c33, natOf_le hx34a, hx34b]
        subst hK
        by_cases c35 : x34 = a1
        · rw [if_pos c35] at h
          refine AW.ifT rfl c35 ?_
          refine AW.regL [4] ?_
          generalize hK : AW Try.prog _ _ _ = K
          simp only [go_sem, ↓reduceIte, reduceCtorEq, Nat.reduceAdd, Nat.reduceSub, Nat.reduceMul, Nat.reduceEqDiff, Nat.reduceLT, Nat.reduceLeDiff, Nat.reduceBEq, Int.reduceAdd, Int.reduceSub, Int.reduceLT, Int.reduceLE, Int.reduceEq, Int.reduceToNat, eq_true c33, eq_true c35]
          subst hK
          refine AW.ret ?_
          refine thenA_r ?_
          obtain rfl := Option.some.inj h
          (simp only [go_sem, ↓reduceIte, reduceCtorEq, Nat.reduceAdd, Nat.reduceSub, Nat.reduceMul, Nat.reduceEqDiff, Nat.reduceLT, Nat.reduceLeDiff, Nat.reduceBEq, Int.reduceAdd, Int.reduceSub, Int.reduceLT, Int.reduceLE, Int.reduceEq, Int.reduceToNat, eq_true c33, eq_true c35, finA, resA, resOf_1, resOf_2, sealV_val, sealV_sl, sealV_ip, sealV_agg, sealV_tup, sealV_own, sealL_nil, sealL_cons] <;> try simp)
        · rw [if_neg c35] at h
          refine AW.ifF rfl c35 ?_
          refine AW.skip ?_
          refine thenA_n ?_
          refine ⟨_, h, ?_⟩
          refine Ent.can [] _ _ _ rfl (by first | decide | simp) rfl ?_ ?_ ?_
          · exact (((RF.any.pv (by first | rfl | simp only [go_sem]) (by first | rfl | simp [upd_ap, hpL_ap, tau, mapT, mapTL, bytesI_len, eq_true c33, eq_false c35])).pv (by first | rfl | simp only [go_sem]) (by first | rfl | simp [upd_ap, hpL_ap, tau, mapT, mapTL, bytesI_len, eq_true c33, eq_false c35])).pv (by first | rfl | simp only [go_sem]) (by first | rfl | simp [upd_ap, hpL_ap, tau, mapT, mapTL, bytesI_len, eq_true c33, eq_false c35]))
          · exact .nil _
          · exact .nil _
      · rw [if_neg c33] at h
        refine AW.regL [0, 1, 5, 32] ?_
        generalize hK : AW Try.prog _ _ _ = K
        simp only [go_sem, ↓reduceIte, reduceCtorEq, Nat.reduceAdd, Nat.reduceSub, Nat.reduceMul, Nat.reduceEqDiff, Nat.reduceLT, Nat.reduceLeDiff, Nat.reduceBEq, Int.reduceAdd, Int.reduceSub, Int.reduceLT, Int.reduceLE, Int.reduceEq, Int.reduceToNat, eq_false c33]
        subst hK
        refine AW.ifBF rfl rfl ?_
        refine AW.skip ?_
        refine thenA_n ?_
        refine ⟨_, h, ?_⟩
        refine Ent.can [] _ _ _ rfl (by first | decide | simp) rfl ?_ ?_ ?_
        · exact (((RF.any.pv (by first | rfl | simp only [go_sem]) (by first | rfl | simp [upd_ap, hpL_ap, tau, mapT, mapTL, bytesI_len, eq_false c33])).pv (by first | rfl | simp only [go_sem]) (by first | rfl | simp [upd_ap, hpL_ap, tau, mapT, mapTL, bytesI_len, eq_false c33])).pv (by first | rfl | simp only [go_sem]) (by first | rfl | simp [upd_ap, hpL_ap, tau, mapT, mapTL, bytesI_len, eq_false c33]))
        · exact .nil _
        · exact .nil _
    · clear h
      rintro ⟨⟩ h
      rw [f104_j1] at h
      obtain ⟨x28, hx28, h⟩ := Option.bind_eq_some_iff.1 h
      obtain ⟨x29, hx29, h⟩ := Option.bind_eq_some_iff.1 h
      obtain ⟨hx29b, hx29e⟩ := appO?_some.1 hx29
      have hx29f : ∀ id o : Nat, appO 1 16 id (List.map enc9 x28) 0 0 o (some (.row 1 true (([] : List (List AV))))) = some ⟨.own id 0 x29.length, [(o, none), (id, some (.row 1 true (List.map enc9 x29)))]⟩ := fun id o => by
        subst hx29e; rw [appO_ok (by simp) (by simpa using hx29b) (by decide)]; first | (simp [enc9]; done) | (simp [enc9]; omega)
      refine AW.regL [0, 1, 5, 6] ?_
      generalize hK : AW Try.prog _ _ _ = K
      simp only [go_sem, ↓reduceIte, reduceCtorEq, Nat.reduceAdd, Nat.reduceSub, Nat.reduceMul, Nat.reduceEqDiff, Nat.reduceLT, Nat.reduceLeDiff, Nat.reduceBEq, Int.reduceAdd, Int.reduceSub, Int.reduceLT, Int.reduceLE, Int.reduceEq, Int.reduceToNat, cut_ns el94 sz9 (ml_enc9 _) hx28, hx29f]
      subst hK
      obtain ⟨x30, hx30, h⟩ := Option.bind_eq_some_iff.1 h
      obtain ⟨hx30b, hx30e⟩ := appO?_some.1 hx30
      have hx30f : ∀ id o : Nat, appO 1 16 id ([[.val (.string a1)]]) 0 x29.length o (some (.row 1 true (List.map enc9 x29))) = some ⟨.own id 0 x30.length, [(o, none), (id, some (.row 1 true (List.map enc9 x30)))]⟩ := fun id o => by
        subst hx30e; rw [appO_ok (by simp) (by simpa using hx30b) (by decide)]; first | (simp [enc9]; done) | (simp [enc9]; omega)
      refine AW.regL [0, 5, 6] ?_
      generalize hK : AW Try.prog _ _ _ = K
      simp only [go_sem, ↓reduceIte, reduceCtorEq, Nat.reduceAdd, Nat.reduceSub, Nat.reduceMul, Nat.reduceEqDiff, Nat.reduceLT, Nat.reduceLeDiff, Nat.reduceBEq, Int.reduceAdd, Int.reduceSub, Int.reduceLT, Int.reduceLE, Int.reduceEq, Int.reduceToNat, hx30f]
      subst hK
      obtain ⟨x31, hx31, h⟩ := Option.bind_eq_some_iff.1 h
      obtain ⟨x32, hx32, h⟩ := Option.bind_eq_some_iff.1 h
      obtain ⟨hx32b, hx32e⟩ := appO?_some.1 hx32
      have hx32f : ∀ id o : Nat, appO 1 16 id (List.map enc9 x31) 0 x30.length o (some (.row 1 true (List.map enc9 x30))) = some ⟨.own id 0 x32.length, [(o, none), (id, some (.row 1 true (List.map enc9 x32)))]⟩ := fun id o => by
        subst hx32e; rw [appO_ok (by simp) (by simpa using hx32b) (by decide)]; first | (simp [enc9]; done) | (simp [enc9]; omega)
      refine AW.regL [4] ?_
      generalize hK : AW Try.prog _ _ _ = K
      simp only [go_sem, ↓reduceIte, reduceCtorEq, Nat.reduceAdd, Nat.reduceSub, Nat.reduceMul, Nat.reduceEqDiff, Nat.reduceLT, Nat.reduceLeDiff, Nat.reduceBEq, Int.reduceAdd, Int.reduceSub, Int.reduceLT, Int.reduceLE, Int.reduceEq, Int.reduceToNat, cut_sn el94 sz9 (ml_enc9 _) hx31, hx32f]
      subst hK
      refine AW.ent (Ent.still 4 rfl (own_sl (sz := 1) (m := true) rfl (by first | rfl | simp [bytesI_len]) (by simp only [go_sem]))) ?_
      refine AW.ret ?_
      obtain rfl := Option.some.inj h
      (simp only [go_sem, ↓reduceIte, reduceCtorEq, Nat.reduceAdd, Nat.reduceSub, Nat.reduceMul, Nat.reduceEqDiff, Nat.reduceLT, Nat.reduceLeDiff, Nat.reduceBEq, Int.reduceAdd, Int.reduceSub, Int.reduceLT, Int.reduceLE, Int.reduceEq, Int.reduceToNat, finA, resA, resOf_1, resOf_2, sealV_val, sealV_sl, sealV_ip, sealV_agg, sealV_tup, sealV_own, sealL_nil, sealL_cons] <;> try simp)
end Au
end Go.Proofs.Y1
