import Derived.Test.YtpdgnhhjaaencaaGmDV
import Derived.Test.YtpdgnhhjaaencaaGmLh
set_option linter.all false
set_option linter.unusedVariables false
set_option linter.unusedSimpArgs false
set_option linter.all false
set_option maxRecDepth 8000
set_option maxHeartbeats 1000000
namespace Go.Proofs.Y5
open Go.Gm
namespace Au
noncomputable def f19 (a0 : List Part) : Option (List Part) := appO? [] a0
theorem ok19 (a0 : List Part) (r : List Part) (h : f19 a0 = some r) : PC Try.prog 19 [.sl (List.map encPart a0)] (.fr 4 (List.map encPart r)) := by
  obtain ⟨hl, hr⟩ := appO?_some.1 h
  rw [List.nil_append] at hr
  subst hr
  have hb : a0.length ≤ 34359738368 := by simpa using hl
  refine pc_of (N := 8) (rs := [.tmp 2]) Try.func19 rfl rfl rfl (Nat.le_of_ble_eq_true rfl) ?_
  refine AW.reg ?_
  generalize hK : AW Try.prog _ _ _ = K
  simp only [go_sem, ↓reduceIte, reduceCtorEq, Nat.reduceAdd, Nat.reduceSub, Nat.reduceMul, Nat.reduceEqDiff, Nat.reduceLT, Nat.reduceLeDiff]
  subst hK
  refine AW.seq ?_
  refine AW.nilq el30 rfl (by decide) (by decide) (fun bn hbn => ?_)
  refine AW.if rfl (fun hc4 => ?_) (fun hc4 => ?_)
  · have hl0 : a0 = [] := by simpa using hbn (by simpa using hc4)
    subst hl0
    refine AW.reg ?_
    generalize hK : AW Try.prog _ _ _ = K
    simp only [go_sem, ↓reduceIte, reduceCtorEq, Nat.reduceAdd, Nat.reduceSub, Nat.reduceMul, Nat.reduceEqDiff, Nat.reduceLT, Nat.reduceLeDiff]
    subst hK
    refine AW.ent (Ent.nilOwn 2 4 (by decide) rfl) ?_
    refine AW.ret ?_
    refine thenA_r ?_
    exact fin_own (.inl rfl) rfl (by simp only [upd_ap, if_true]; rfl) rfl rfl rfl
  · refine AW.skip ?_
    refine thenA_n ?_
    refine AW.reg ?_
    generalize hK : AW Try.prog _ _ _ = K
    simp (disch := first | omega | (simp only [List.length_map, List.length_cons, List.length_nil, List.length_append] <;> omega)) only [go_sem, ↓reduceIte, reduceCtorEq, Nat.reduceAdd, Nat.reduceSub, Nat.reduceMul, Nat.reduceEqDiff, Nat.reduceLT, Nat.reduceLeDiff]
    subst hK
    refine AW.ret ?_
    exact fin_own (.inl rfl) rfl (by simp only [upd_ap]; rfl) (by simp) (by simp only [go_sem]) rfl

end Au
end Go.Proofs.Y5

set_option linter.all false
set_option maxRecDepth 8000
set_option maxHeartbeats 1000000
namespace Go.Proofs.Y5
open Go.Gm
namespace Au
noncomputable def f20 (a0 : List Int) : Option (List Int) := appO? [] a0
theorem ok20 (a0 : List Int) (r : List Int) (h : f20 a0 = some r) : PC Try.prog 20 [.sl (List.map enc3 a0)] (.fr 1 (List.map enc3 r)) := by
  obtain ⟨hl, hr⟩ := appO?_some.1 h
  rw [List.nil_append] at hr
  subst hr
  have hb : a0.length ≤ 34359738368 := by simpa using hl
  refine pc_of (N := 8) (rs := [.tmp 2]) Try.func20 rfl rfl rfl (Nat.le_of_ble_eq_true rfl) ?_
  refine AW.reg ?_
  generalize hK : AW Try.prog _ _ _ = K
  simp only [go_sem, ↓reduceIte, reduceCtorEq, Nat.reduceAdd, Nat.reduceSub, Nat.reduceMul, Nat.reduceEqDiff, Nat.reduceLT, Nat.reduceLeDiff]
  subst hK
  refine AW.seq ?_
  refine AW.nilq el31 rfl (by decide) (by decide) (fun bn hbn => ?_)
  refine AW.if rfl (fun hc4 => ?_) (fun hc4 => ?_)
  · have hl0 : a0 = [] := by simpa using hbn (by simpa using hc4)
    subst hl0
    refine AW.reg ?_
    generalize hK : AW Try.prog _ _ _ = K
    simp only [go_sem, ↓reduceIte, reduceCtorEq, Nat.reduceAdd, Nat.reduceSub, Nat.reduceMul, Nat.reduceEqDiff, Nat.reduceLT, Nat.reduceLeDiff]
    subst hK
    refine AW.ent (Ent.nilOwn 2 1 (by decide) rfl) ?_
    refine AW.ret ?_
    refine thenA_r ?_
    exact fin_own (.inl rfl) rfl (by simp only [upd_ap, if_true]; rfl) rfl rfl rfl
  · refine AW.skip ?_
    refine thenA_n ?_
    refine AW.reg ?_
    generalize hK : AW Try.prog _ _ _ = K
    simp (disch := first | omega | (simp only [List.length_map, List.length_cons, List.length_nil, List.length_append] <;> omega)) only [go_sem, ↓reduceIte, reduceCtorEq, Nat.reduceAdd, Nat.reduceSub, Nat.reduceMul, Nat.reduceEqDiff, Nat.reduceLT, Nat.reduceLeDiff]
    subst hK
    refine AW.ret ?_
    exact fin_own (.inl rfl) rfl (by simp only [upd_ap]; rfl) (by simp) (by simp only [go_sem]) rfl

end Au
end Go.Proofs.Y5

set_option linter.all false
set_option maxRecDepth 8000
set_option maxHeartbeats 1000000
namespace Go.Proofs.Y5
open Go.Gm
namespace Au
def gnext (d : List (List Item)) (k : ByteArray) (y : Item) : List Item → List (List Item) × List Item
  | [] => ([], [y])
  | x :: xs => if x.Key = k then (d, x :: xs ++ [y]) else (d ++ [x :: xs], [y])
noncomputable def f11_s (a0 : List Item) : Int × List (List Item) × List Item → Option ((Int × List (List Item) × List Item) ⊕ List (List Item) × List Item)
  | (i, d, t) => if i < (a0.length : Int) then ((ix a0 i).bind fun it => (guardO (d.length + t.length ≤ 1000000)).bind fun _ => (f19 it.Parts).bind fun p => (f20 it.Offs).bind fun o => some (.inl (IntKind.i64.wrap (i + 1), gnext d it.Key ⟨it.Key, p, o⟩ t))) else some (.inr (d, t))
def gout : List (List Item) × List Item → List (List Item)
  | (_, []) => []
  | (d, x :: xs) => d ++ [x :: xs]
noncomputable def f11 (a0 : List Item) : Option (List (List Item)) := (loopO (f11_s a0) (0, [], [])).bind fun y => some (gout y)
def gfr (a0 : List Item) (i : Int) (v : AV) : Nat → AV := upd (upd (upd (upd anyF 3 v) 7 (.sl (a0.map encItem))) 8 (.val (.int .i64 (a0.length : Int)))) 9 (.val (.int .i64 i))
def ghp (d : List (List Item)) (t : List Item) : AHeap := hpL [] [some (.row 1 true (d.map enc22 ++ [[.own 9 0 t.length]])), some (.row 3 true (t.map encItem))]
def gst (a0 : List Item) : Int × List (List Item) × List Item → ASt
  | (i, d, []) => ⟨gfr a0 i (.val (.slice none 0 0)), hpL [] [], 8⟩
  | (i, d, x :: xs) => ⟨gfr a0 i (.own 8 0 (d.length + 1)), ghp d (x :: xs), 10⟩
def gend : List (List Item) × List Item → ASt
  | (d, []) => ⟨upd anyF 3 (.val (.slice none 0 0)), hpL [] [], 8⟩
  | (d, x :: xs) => ⟨upd anyF 3 (.own 8 0 (d.length + 1)), ghp d (x :: xs), 10⟩
theorem gk (d : List (List Item)) (h : d.length ≤ 1000000) : IntKind.i64.wrap (((d.length + 1 : Nat) : Int) - 1) = (d.length : Int) := by
  rw [IntKind.wrap_i64] <;> omega
theorem gk2 (d : List (List Item)) (h : d.length ≤ 1000000) : IntKind.i64.wrap ((d.length : Int) + 1) = ((d.length + 1 : Nat) : Int) := by
  rw [IntKind.wrap_i64] <;> omega
theorem gm1 : IntKind.i64.wrap (0 - 1) = -1 := by decide
theorem gm0 : IntKind.i64.wrap (-1 + 1) = 0 := by decide
theorem gm2 : ((-1 : Int) < 0) = True := eq_true (by decide)
theorem gnn (n : Nat) : ((n : Int) < 0) = False := eq_false (by omega)
theorem gpos (n : Nat) : (0 < n + 1) = True := eq_true (by omega)
theorem glt (n : Nat) : (n < n + 1) = True := eq_true (by omega)
theorem gat (R : List (List Item)) (r : List AV) (T : List (List AV)) : (R.map enc22 ++ r :: T)[R.length]? = some r := by
  rw [List.getElem?_append_right (by simp)]; simp
theorem gset (R : List (List Item)) (r r' : List AV) : (R.map enc22 ++ [r]).set R.length r' = R.map enc22 ++ [r'] := by
  rw [List.set_append_right _ _ (by simp)]; simp
theorem ok11 (a0 : List Item) (r : List (List Item)) (h : f11 a0 = some r) : PC Try.prog 11 [.sl (a0.map encItem)] (.fr 1 (r.map enc22)) := by
 rw [f11] at h
 refine pc_of8 (N := 55) (rs := [.tmp 2]) Try.func11 rfl rfl rfl (Nat.le_of_ble_eq_true rfl) ?_
 refine AW.regL [0] ?_
 generalize hK : AW Try.prog _ _ _ = K
 simp only [go_sem, ↓reduceIte, reduceCtorEq, Nat.reduceAdd, Nat.reduceSub, Nat.reduceMul, Nat.reduceEqDiff, Nat.reduceLT, Nat.reduceLeDiff]
 subst hK
 refine AW.regL [0, 3] ?_
 generalize hK : AW Try.prog _ _ _ = K
 simp only [go_sem, ↓reduceIte, reduceCtorEq, Nat.reduceAdd, Nat.reduceSub, Nat.reduceMul, Nat.reduceEqDiff, Nat.reduceLT, Nat.reduceLeDiff]
 subst hK
 refine AW.seq ?_
 refine AW.regL [3, 7, 8, 9] ?_
 generalize hK : AW Try.prog _ _ _ = K
 simp only [go_sem, ↓reduceIte, reduceCtorEq, Nat.reduceAdd, Nat.reduceSub, Nat.reduceMul, Nat.reduceEqDiff, Nat.reduceLT, Nat.reduceLeDiff]
 subst hK
 refine AW.block ?_
 obtain ⟨y, hy, h⟩ := Option.bind_eq_some_iff.1 h
 refine AW.loopO (gst a0) (fun y e st' => e = Exit.exit 0 ∧ st' = gend y) hy ?_ ?_ ?_
 · show Ent 55 _ ⟨gfr a0 0 _, _, 8⟩
   refine Ent.can [] _ _ _ rfl (by first | decide | simp) rfl ?_ ?_ ?_
   · exact (((((RF.any.pv (by rfl) rfl).pv (by simp [upd, go_sem]) rfl).pv rfl rfl).pv rfl rfl))
   · exact .nil _
   · exact .nil _
 · clear h hy
   rintro ⟨i, d, t⟩ x h
   rw [f11_s] at h
   have hst : ∀ v, gfr a0 i v = upd (upd (upd (upd anyF 3 v) 7 (.sl (a0.map encItem))) 8 (.val (.int .i64 (a0.length : Int)))) 9 (.val (.int .i64 i)) := fun _ => rfl
   by_cases c1 : i < (a0.length : Int)
   · rw [if_pos c1] at h
     obtain ⟨it, hit, h⟩ := Option.bind_eq_some_iff.1 h
     obtain ⟨hita, hitb⟩ := ix_some.1 hit
     obtain ⟨gu, hg, h⟩ := Option.bind_eq_some_iff.1 h
     have hg := guardO_some.1 hg
     obtain ⟨p, hp, h⟩ := Option.bind_eq_some_iff.1 h
     obtain ⟨o, ho, h⟩ := Option.bind_eq_some_iff.1 h
     rcases t with _ | ⟨x0, xs⟩
     · show AW Try.prog 55 _ _ ⟨gfr a0 i _, _, _⟩
       rw [hst]
       refine AW.regL [3, 7, 8, 9, 10] ?_
       generalize hK : AW Try.prog _ _ _ = K
       simp only [go_sem, ↓reduceIte, reduceCtorEq, Nat.reduceAdd, Nat.reduceSub, Nat.reduceMul, Nat.reduceEqDiff, Nat.reduceLT, Nat.reduceLeDiff, eq_true c1]
       subst hK
       refine AW.seq ?_
       refine AW.ifBT rfl rfl ?_
       refine AW.skip ?_
       refine thenA_n ?_
       refine AW.seq ?_
       refine AW.block ?_
       refine AW.regL [3, 5, 7, 8, 9] ?_
       generalize hK : AW Try.prog _ _ _ = K
       simp only [go_sem, ↓reduceIte, reduceCtorEq, Nat.reduceAdd, Nat.reduceSub, Nat.reduceMul, Nat.reduceEqDiff, Nat.reduceLT, Nat.reduceLeDiff, eq_true c1, natOf_le hita, hitb]
       subst hK
       refine AW.regL [3, 5, 6, 7, 8, 9] ?_
       generalize hK : AW Try.prog _ _ _ = K
       simp only [go_sem, ↓reduceIte, reduceCtorEq, Nat.reduceAdd, Nat.reduceSub, Nat.reduceMul, Nat.reduceEqDiff, Nat.reduceLT, Nat.reduceLeDiff, gm1]
       subst hK
       refine AW.seq ?_
       refine AW.regdL [3, 5, 6, 7, 8, 9, 29] [[], [0], [0, 1], [0, 1, 2], [0, 1, 2], [0, 1, 2, 3, 4], [0, 1, 2, 3, 4, 5], [0, 1, 2, 3, 4, 5, 6], [0, 1, 2, 3, 4, 5, 6, 7], [0, 1, 2, 3, 4, 5, 6, 7, 8], [0, 1, 2], [0, 1, 2, 10], [0, 1, 2, 3, 4, 5, 6, 7, 8, 9, 10, 11], [0, 1, 2, 3, 4, 5, 6, 7, 8, 9, 10, 11, 12]] [0, 1, 2, 3, 4, 5, 6, 7, 8, 9, 10, 11, 12, 13] noFt (fun _ _ _ h => by simp [noFt] at h) draws (by kernel_rfl) (by kernel_rfl) ?_
       generalize hK : AW Try.prog _ _ _ = K
       simp only [go_sem, ↓reduceIte, reduceCtorEq, Nat.reduceAdd, Nat.reduceSub, Nat.reduceMul, Nat.reduceEqDiff, Nat.reduceLT, Nat.reduceLeDiff, gm2]
       subst hK
       refine AW.ifBT rfl rfl ?_
       refine AW.regL [3, 5, 6, 7, 8, 9] ?_
       generalize hK : AW Try.prog _ _ _ = K
       simp only [go_sem, ↓reduceIte, reduceCtorEq, Nat.reduceAdd, Nat.reduceSub, Nat.reduceMul, Nat.reduceEqDiff, Nat.reduceLT, Nat.reduceLeDiff]
       subst hK
       refine AW.regionL [3, 5, 6, 7, 8, 9] ?_
       generalize hK : thenA _ _ Exit.normal = K
       simp only [go_sem, ↓reduceIte, reduceCtorEq, Nat.reduceAdd, Nat.reduceSub, Nat.reduceMul, Nat.reduceEqDiff, Nat.reduceLT, Nat.reduceLeDiff, gm0]
       subst hK
       refine thenA_n ?_
       refine AW.regdL [3, 5, 6, 7, 8, 9] [[], [0], [0, 1], [], [3], [0, 1, 2, 3, 4], [0, 1, 2, 3, 4], [0, 1, 2, 3, 4, 5, 6], [0, 1, 2, 3, 4, 5, 6, 7], [0, 1, 2, 3, 4, 5, 6, 7, 8]] [0, 1, 2, 3, 4, 5, 6, 7, 8, 9] noFt (fun _ _ _ h => by simp [noFt] at h) draws (by kernel_rfl) (by kernel_rfl) ?_
       generalize hK : AW Try.prog _ _ _ = K
       simp only [go_sem, ↓reduceIte, reduceCtorEq, Nat.reduceAdd, Nat.reduceSub, Nat.reduceMul, Nat.reduceEqDiff, Nat.reduceLT, Nat.reduceLeDiff]
       refine adN.pc (ok19 it.Parts p hp) Try.call19 callV_fn (by simp only [go_sem, ↓reduceIte, reduceCtorEq, Nat.reduceAdd, Nat.reduceSub, Nat.reduceMul, Nat.reduceEqDiff, Nat.reduceLT, Nat.reduceLeDiff]) (by simp only [go_sem, ↓reduceIte, reduceCtorEq, Nat.reduceAdd, Nat.reduceSub, Nat.reduceMul, Nat.reduceEqDiff, Nat.reduceLT, Nat.reduceLeDiff]) ?_
       simp only [go_sem, ↓reduceIte, reduceCtorEq, Nat.reduceAdd, Nat.reduceSub, Nat.reduceMul, Nat.reduceEqDiff, Nat.reduceLT, Nat.reduceLeDiff]
       refine adN.pc (ok20 it.Offs o ho) Try.call20 callV_fn (by simp only [go_sem, ↓reduceIte, reduceCtorEq, Nat.reduceAdd, Nat.reduceSub, Nat.reduceMul, Nat.reduceEqDiff, Nat.reduceLT, Nat.reduceLeDiff]) (by simp only [go_sem, ↓reduceIte, reduceCtorEq, Nat.reduceAdd, Nat.reduceSub, Nat.reduceMul, Nat.reduceEqDiff, Nat.reduceLT, Nat.reduceLeDiff]) ?_
       simp only [go_sem, ↓reduceIte, reduceCtorEq, Nat.reduceAdd, Nat.reduceSub, Nat.reduceMul, Nat.reduceEqDiff, Nat.reduceLT, Nat.reduceLeDiff]
       subst hK
       refine AW.ent (Ent.stillObj (pre := [.val (.string it.Key)]) (post := [.own 288 0 o.length]) (q := 264) (off := 0) (len := p.length) 32 rfl (own_sl (sz := 4) (m := true) rfl (by simp) (by simp only [go_sem])) (by decide)) ?_
       refine AW.ent (Ent.stillObj (pre := [.val (.string it.Key), .sl (List.map encPart p)]) (post := []) (q := 288) (off := 0) (len := o.length) 32 rfl (own_sl (sz := 1) (m := true) rfl (by simp) (by simp only [go_sem])) (by decide)) ?_
       refine AW.drawL [3, 7, 8, 9] [[], [], [], [], [2, 3], [2, 3, 4], [], [6], [2, 3, 4, 5, 6, 7], [0, 1, 2, 3, 4, 5, 6, 7, 8], [0, 1, 2, 3, 4, 5, 6, 7, 8, 9]] [0, 1, 2, 3, 4, 5, 6, 7, 8, 9, 10] noFt (fun _ _ _ h => by simp [noFt] at h) draws (by kernel_rfl) (by kernel_rfl) ?_
       generalize hK : inBlockA _ _ Exit.normal = K
       simp only [go_sem, ↓reduceIte, reduceCtorEq, Nat.reduceAdd, Nat.reduceSub, Nat.reduceMul, Nat.reduceEqDiff, Nat.reduceLT, Nat.reduceLeDiff]
       subst hK
       refine block_n ?_
       refine thenA_n ?_
       refine AW.regionL [3, 7, 8, 9] ?_
       generalize hK : thenA _ _ Exit.normal = K
       simp only [go_sem, ↓reduceIte, reduceCtorEq, Nat.reduceAdd, Nat.reduceSub, Nat.reduceMul, Nat.reduceEqDiff, Nat.reduceLT, Nat.reduceLeDiff]
       subst hK
       refine thenA_n ?_
       refine ⟨_, (Option.some.inj h).symm, ?_⟩
       show Ent 55 _ ⟨gfr a0 _ (.own 8 0 (0 + 1)), ghp [] [⟨it.Key, p, o⟩], 10⟩
       refine Ent.can [208, 392] _ _ _ rfl (by first | decide | simp) rfl ?_ ?_ ?_
       · exact ((((RF.any.po (by decide) (by first | rfl | simp [upd_ap, hpL_ap, tau, mapT, mapTL, go_sem])).pv (by first | rfl | simp only [go_sem]) (by first | rfl | simp [upd_ap, hpL_ap, tau, mapT, mapTL, go_sem])).pv (by first | rfl | simp only [go_sem]) (by first | rfl | simp [upd_ap, hpL_ap, tau, mapT, mapTL, go_sem])).pv (by first | rfl | simp only [go_sem]) (by first | rfl | simp [upd_ap, hpL_ap, tau, mapT, mapTL, go_sem]))
       · exact .nil _
       · exact .cons (.tok (by simp [tokLL, tokL, inlR, go_sem]) (by first | rfl | simp [upd_ap, hpL_ap, tau, mapT, mapTL, go_sem])) (.cons (.eq (by first | rfl | simp only [go_sem]) (by first | rfl | simp [upd_ap, hpL_ap, tau, mapT, mapTL, go_sem])) (.nil _))
     · show AW Try.prog 55 _ _ ⟨gfr a0 i (.own 8 0 (d.length + 1)), _, _⟩
       rw [hst]
       have hd : d.length ≤ 1000000 := by simp at hg; omega
       have hl : d.length + 1 ≤ 34359738368 := by omega
       have hl2 : (x0 :: xs).length + 1 ≤ 34359738368 := by omega
       unfold ghp
       have haT : ∀ id o1 : Nat, appO 3 64 id [[.val (.string it.Key), .sl (List.map encPart p), .sl (List.map enc3 o)]] 0 (xs.length + 1) o1 (some (.row 3 true ([.val (.string x0.Key), .sl (List.map encPart x0.Parts), .sl (List.map enc3 x0.Offs)] :: List.map encItem xs))) = some ⟨.own id 0 (xs.length + 1 + 1), [(o1, none), (id, some (.row 3 true (List.map encItem (x0 :: xs ++ [⟨it.Key, p, o⟩]))))]⟩ := fun id o1 => by
         rw [appO_ok (by simp) (by simp at hl2 ⊢; omega) (by decide)]; simp [encItem]
       obtain ⟨D, hD⟩ : ∃ D, D = d ++ [x0 :: xs] := ⟨_, rfl⟩
       have hDl : D.length = d.length + 1 := by rw [hD]; simp
       have haO : ∀ id o1 : Nat, appO 1 24 id [[.val (.slice none 0 0)]] 0 (d.length + 1) o1 (some (.row 1 true (d.map enc22 ++ [[.sl ([.val (.string x0.Key), .sl (List.map encPart x0.Parts), .sl (List.map enc3 x0.Offs)] :: List.map encItem xs)]]))) = some ⟨.own id 0 (D.length + 1), [(o1, none), (id, some (.row 1 true (D.map enc22 ++ [[.val (.slice none 0 0)]])))]⟩ := fun id o1 => by
         rw [appO_ok (by simp) (by simp; omega) (by decide)]; simp [hD, enc22, encItem]
       have hkD : IntKind.i64.wrap ((d.length : Int) + 1) = (D.length : Int) := by rw [IntKind.wrap_i64] <;> omega
       refine AW.regL [3, 7, 8, 9, 10] ?_
       generalize hK : AW Try.prog _ _ _ = K
       simp only [go_sem, ↓reduceIte, reduceCtorEq, Nat.reduceAdd, Nat.reduceSub, Nat.reduceMul, Nat.reduceEqDiff, Nat.reduceLT, Nat.reduceLeDiff, eq_true c1]
       subst hK
       refine AW.seq ?_
       refine AW.ifBT rfl rfl ?_
       refine AW.skip ?_
       refine thenA_n ?_
       refine AW.seq ?_
       refine AW.block ?_
       refine AW.regL [3, 5, 7, 8, 9] ?_
       generalize hK : AW Try.prog _ _ _ = K
       simp only [go_sem, ↓reduceIte, reduceCtorEq, Nat.reduceAdd, Nat.reduceSub, Nat.reduceMul, Nat.reduceEqDiff, Nat.reduceLT, Nat.reduceLeDiff, eq_true c1, natOf_le hita, hitb]
       subst hK
       refine AW.regL [3, 5, 6, 7, 8, 9] ?_
       generalize hK : AW Try.prog _ _ _ = K
       simp only [go_sem, ↓reduceIte, reduceCtorEq, Nat.reduceAdd, Nat.reduceSub, Nat.reduceMul, Nat.reduceEqDiff, Nat.reduceLT, Nat.reduceLeDiff, gk d hd]
       subst hK
       refine AW.seq ?_
       by_cases c2 : x0.Key = it.Key
       ·refine AW.regdL [3, 5, 6, 7, 8, 9, 29] [[], [0], [0, 1], [0, 1, 2], [0, 1, 2], [0, 1, 2, 3, 4], [0, 1, 2, 3, 4, 5], [0, 1, 2, 3, 4, 5, 6], [0, 1, 2, 3, 4, 5, 6, 7], [0, 1, 2, 3, 4, 5, 6, 7, 8], [0, 1, 2], [0, 1, 2, 10], [0, 1, 2, 3, 4, 5, 6, 7, 8, 9, 10, 11], [0, 1, 2, 3, 4, 5, 6, 7, 8, 9, 10, 11, 12]] [0, 1, 2, 3, 4, 5, 6, 7, 8, 9, 10, 11, 12, 13] noFt (fun _ _ _ h => by simp [noFt] at h) draws (by kernel_rfl) (by kernel_rfl) ?_
        generalize hK : AW Try.prog _ _ _ = K
        simp only [go_sem, ↓reduceIte, reduceCtorEq, Nat.reduceAdd, Nat.reduceSub, Nat.reduceMul, Nat.reduceEqDiff, Nat.reduceLT, Nat.reduceLeDiff, gnn, glt, gat, gpos, eq_true c2]
        subst hK
        refine AW.ifBF rfl rfl ?_
        refine AW.skip ?_
        refine thenA_n ?_
        refine AW.regdL [3, 5, 6, 7, 8, 9] [[], [0], [0, 1], [], [3], [0, 1, 2, 3, 4], [0, 1, 2, 3, 4], [0, 1, 2, 3, 4, 5, 6], [0, 1, 2, 3, 4, 5, 6, 7], [0, 1, 2, 3, 4, 5, 6, 7, 8]] [0, 1, 2, 3, 4, 5, 6, 7, 8, 9] noFt (fun _ _ _ h => by simp [noFt] at h) draws (by kernel_rfl) (by kernel_rfl) ?_
        generalize hK : AW Try.prog _ _ _ = K
        simp only [go_sem, ↓reduceIte, reduceCtorEq, Nat.reduceAdd, Nat.reduceSub, Nat.reduceMul, Nat.reduceEqDiff, Nat.reduceLT, Nat.reduceLeDiff, gnn, glt, gat, gpos, gset, haT]
        refine adN.pc (ok19 it.Parts p hp) Try.call19 callV_fn (by simp only [go_sem, ↓reduceIte, reduceCtorEq, Nat.reduceAdd, Nat.reduceSub, Nat.reduceMul, Nat.reduceEqDiff, Nat.reduceLT, Nat.reduceLeDiff, gnn, glt, gat, gpos, gset, haT]) (by simp only [go_sem, ↓reduceIte, reduceCtorEq, Nat.reduceAdd, Nat.reduceSub, Nat.reduceMul, Nat.reduceEqDiff, Nat.reduceLT, Nat.reduceLeDiff]) ?_
        simp only [go_sem, ↓reduceIte, reduceCtorEq, Nat.reduceAdd, Nat.reduceSub, Nat.reduceMul, Nat.reduceEqDiff, Nat.reduceLT, Nat.reduceLeDiff, gnn, glt, gat, gpos, gset, haT]
        refine adN.pc (ok20 it.Offs o ho) Try.call20 callV_fn (by simp only [go_sem, ↓reduceIte, reduceCtorEq, Nat.reduceAdd, Nat.reduceSub, Nat.reduceMul, Nat.reduceEqDiff, Nat.reduceLT, Nat.reduceLeDiff, gnn, glt, gat, gpos, gset, haT]) (by simp only [go_sem, ↓reduceIte, reduceCtorEq, Nat.reduceAdd, Nat.reduceSub, Nat.reduceMul, Nat.reduceEqDiff, Nat.reduceLT, Nat.reduceLeDiff]) ?_
        simp only [go_sem, ↓reduceIte, reduceCtorEq, Nat.reduceAdd, Nat.reduceSub, Nat.reduceMul, Nat.reduceEqDiff, Nat.reduceLT, Nat.reduceLeDiff, gnn, glt, gat, gpos, gset, haT]
        subst hK
        refine AW.ent (Ent.stillObj (pre := [.val (.string it.Key)]) (post := [.own 234 0 o.length]) (q := 210) (off := 0) (len := p.length) 34 rfl (own_sl (sz := 4) (m := true) rfl (by simp) (by simp only [go_sem])) (by decide)) ?_
        refine AW.ent (Ent.stillObj (pre := [.val (.string it.Key), .sl (List.map encPart p)]) (post := []) (q := 234) (off := 0) (len := o.length) 34 rfl (own_sl (sz := 1) (m := true) rfl (by simp) (by simp only [go_sem])) (by decide)) ?_
        refine AW.drawL [3, 7, 8, 9] [[], [], [], [], [2, 3], [2, 3, 4], [], [6], [2, 3, 4, 5, 6, 7], [0, 1, 2, 3, 4, 5, 6, 7, 8], [0, 1, 2, 3, 4, 5, 6, 7, 8, 9]] [0, 1, 2, 3, 4, 5, 6, 7, 8, 9, 10] noFt (fun _ _ _ h => by simp [noFt] at h) draws (by kernel_rfl) (by kernel_rfl) ?_
        generalize hK : inBlockA _ _ Exit.normal = K
        simp only [go_sem, ↓reduceIte, reduceCtorEq, Nat.reduceAdd, Nat.reduceSub, Nat.reduceMul, Nat.reduceEqDiff, Nat.reduceLT, Nat.reduceLeDiff, gnn, glt, gat, gpos, gset, haT]
        subst hK
        refine block_n ?_
        refine thenA_n ?_
        refine AW.regionL [3, 7, 8, 9] ?_
        generalize hK : thenA _ _ Exit.normal = K
        simp only [go_sem, ↓reduceIte, reduceCtorEq, Nat.reduceAdd, Nat.reduceSub, Nat.reduceMul, Nat.reduceEqDiff, Nat.reduceLT, Nat.reduceLeDiff, gnn, glt, gat, gpos, gset, haT]
        subst hK
        refine thenA_n ?_
        refine ⟨_, (Option.some.inj h).symm, ?_⟩
        rw [gnext, if_pos c2]
        show Ent 55 _ ⟨gfr a0 _ (.own 8 0 (d.length + 1)), ghp d ((x0 :: xs) ++ [⟨it.Key, p, o⟩]), 10⟩
        refine Ent.can [8, 338] _ _ _ rfl (by first | decide | simp) rfl ?_ ?_ ?_
        · exact ((((RF.any.po (by decide) (by first | rfl | simp [upd_ap, hpL_ap, tau, mapT, mapTL, go_sem])).pv (by first | rfl | simp only [go_sem]) (by first | rfl | simp [upd_ap, hpL_ap, tau, mapT, mapTL, go_sem])).pv (by first | rfl | simp only [go_sem]) (by first | rfl | simp [upd_ap, hpL_ap, tau, mapT, mapTL, go_sem])).pv (by first | rfl | simp only [go_sem]) (by first | rfl | simp [upd_ap, hpL_ap, tau, mapT, mapTL, go_sem]))
        · exact .nil _
        · exact .cons (.tok (by simp [tokLL, tokL, inlR, go_sem]) (by first | rfl | simp [upd_ap, hpL_ap, tau, mapT, mapTL, go_sem])) (.cons (.eq (by first | rfl | simp only [go_sem]) (by first | rfl | simp [upd_ap, hpL_ap, tau, mapT, mapTL, go_sem])) (.nil _))
       ·refine AW.regdL [3, 5, 6, 7, 8, 9, 29] [[], [0], [0, 1], [0, 1, 2], [0, 1, 2], [0, 1, 2, 3, 4], [0, 1, 2, 3, 4, 5], [0, 1, 2, 3, 4, 5, 6], [0, 1, 2, 3, 4, 5, 6, 7], [0, 1, 2, 3, 4, 5, 6, 7, 8], [0, 1, 2], [0, 1, 2, 10], [0, 1, 2, 3, 4, 5, 6, 7, 8, 9, 10, 11], [0, 1, 2, 3, 4, 5, 6, 7, 8, 9, 10, 11, 12]] [0, 1, 2, 3, 4, 5, 6, 7, 8, 9, 10, 11, 12, 13] noFt (fun _ _ _ h => by simp [noFt] at h) draws (by kernel_rfl) (by kernel_rfl) ?_
        generalize hK : AW Try.prog _ _ _ = K
        simp only [go_sem, ↓reduceIte, reduceCtorEq, Nat.reduceAdd, Nat.reduceSub, Nat.reduceMul, Nat.reduceEqDiff, Nat.reduceLT, Nat.reduceLeDiff, gnn, glt, gat, gpos, eq_false c2]
        subst hK
        refine AW.ifBT rfl rfl ?_
        refine AW.ent (Ent.stillRow (sz := 1) (mu := true) (R1 := d.map enc22) (R2 := []) (pre := []) (post := []) (q := 9) (off := 0) (len := xs.length + 1) 8 (by simp [upd_ap, hpL_ap]) (own_sl (sz := 3) (m := true) rfl (by simp) (by simp only [go_sem])) (by decide)) ?_
        refine AW.regL [3, 5, 6, 7, 8, 9] ?_
        generalize hK : AW Try.prog _ _ _ = K
        simp only [go_sem, ↓reduceIte, reduceCtorEq, Nat.reduceAdd, Nat.reduceSub, Nat.reduceMul, Nat.reduceEqDiff, Nat.reduceLT, Nat.reduceLeDiff, gnn, glt, gat, gpos, haO]
        subst hK
        refine AW.regionL [3, 5, 6, 7, 8, 9] ?_
        generalize hK : thenA _ _ Exit.normal = K
        simp only [go_sem, ↓reduceIte, reduceCtorEq, Nat.reduceAdd, Nat.reduceSub, Nat.reduceMul, Nat.reduceEqDiff, Nat.reduceLT, Nat.reduceLeDiff, hkD]
        subst hK
        refine thenA_n ?_
        refine AW.regdL [3, 5, 6, 7, 8, 9] [[], [0], [0, 1], [], [3], [0, 1, 2, 3, 4], [0, 1, 2, 3, 4], [0, 1, 2, 3, 4, 5, 6], [0, 1, 2, 3, 4, 5, 6, 7], [0, 1, 2, 3, 4, 5, 6, 7, 8]] [0, 1, 2, 3, 4, 5, 6, 7, 8, 9] noFt (fun _ _ _ h => by simp [noFt] at h) draws (by kernel_rfl) (by kernel_rfl) ?_
        generalize hK : AW Try.prog _ _ _ = K
        simp only [go_sem, ↓reduceIte, reduceCtorEq, Nat.reduceAdd, Nat.reduceSub, Nat.reduceMul, Nat.reduceEqDiff, Nat.reduceLT, Nat.reduceLeDiff, gnn, glt, gat, gpos, gset]
        refine adN.pc (ok19 it.Parts p hp) Try.call19 callV_fn (by simp only [go_sem, ↓reduceIte, reduceCtorEq, Nat.reduceAdd, Nat.reduceSub, Nat.reduceMul, Nat.reduceEqDiff, Nat.reduceLT, Nat.reduceLeDiff, gnn, glt, gat, gpos, gset]) (by simp only [go_sem, ↓reduceIte, reduceCtorEq, Nat.reduceAdd, Nat.reduceSub, Nat.reduceMul, Nat.reduceEqDiff, Nat.reduceLT, Nat.reduceLeDiff]) ?_
        simp only [go_sem, ↓reduceIte, reduceCtorEq, Nat.reduceAdd, Nat.reduceSub, Nat.reduceMul, Nat.reduceEqDiff, Nat.reduceLT, Nat.reduceLeDiff, gnn, glt, gat, gpos, gset]
        refine adN.pc (ok20 it.Offs o ho) Try.call20 callV_fn (by simp only [go_sem, ↓reduceIte, reduceCtorEq, Nat.reduceAdd, Nat.reduceSub, Nat.reduceMul, Nat.reduceEqDiff, Nat.reduceLT, Nat.reduceLeDiff, gnn, glt, gat, gpos, gset]) (by simp only [go_sem, ↓reduceIte, reduceCtorEq, Nat.reduceAdd, Nat.reduceSub, Nat.reduceMul, Nat.reduceEqDiff, Nat.reduceLT, Nat.reduceLeDiff]) ?_
        simp only [go_sem, ↓reduceIte, reduceCtorEq, Nat.reduceAdd, Nat.reduceSub, Nat.reduceMul, Nat.reduceEqDiff, Nat.reduceLT, Nat.reduceLeDiff, gnn, glt, gat, gpos, gset]
        subst hK
        refine AW.ent (Ent.stillObj (pre := [.val (.string it.Key)]) (post := [.own 290 0 o.length]) (q := 266) (off := 0) (len := p.length) 34 rfl (own_sl (sz := 4) (m := true) rfl (by simp) (by simp only [go_sem])) (by decide)) ?_
        refine AW.ent (Ent.stillObj (pre := [.val (.string it.Key), .sl (List.map encPart p)]) (post := []) (q := 290) (off := 0) (len := o.length) 34 rfl (own_sl (sz := 1) (m := true) rfl (by simp) (by simp only [go_sem])) (by decide)) ?_
        refine AW.drawL [3, 7, 8, 9] [[], [], [], [], [2, 3], [2, 3, 4], [], [6], [2, 3, 4, 5, 6, 7], [0, 1, 2, 3, 4, 5, 6, 7, 8], [0, 1, 2, 3, 4, 5, 6, 7, 8, 9]] [0, 1, 2, 3, 4, 5, 6, 7, 8, 9, 10] noFt (fun _ _ _ h => by simp [noFt] at h) draws (by kernel_rfl) (by kernel_rfl) ?_
        generalize hK : inBlockA _ _ Exit.normal = K
        simp only [go_sem, ↓reduceIte, reduceCtorEq, Nat.reduceAdd, Nat.reduceSub, Nat.reduceMul, Nat.reduceEqDiff, Nat.reduceLT, Nat.reduceLeDiff, gnn, glt, gat, gpos, gset]
        subst hK
        refine block_n ?_
        refine thenA_n ?_
        refine AW.regionL [3, 7, 8, 9] ?_
        generalize hK : thenA _ _ Exit.normal = K
        simp only [go_sem, ↓reduceIte, reduceCtorEq, Nat.reduceAdd, Nat.reduceSub, Nat.reduceMul, Nat.reduceEqDiff, Nat.reduceLT, Nat.reduceLeDiff, gnn, glt, gat, gpos, gset]
        subst hK
        refine thenA_n ?_
        refine ⟨_, (Option.some.inj h).symm, ?_⟩
        rw [gnext, if_neg c2, ← hD]
        show Ent 55 _ ⟨gfr a0 _ (.own 8 0 (D.length + 1)), ghp D ([⟨it.Key, p, o⟩]), 10⟩
        refine Ent.can [210, 394] _ _ _ rfl (by first | decide | simp) rfl ?_ ?_ ?_
        · exact ((((RF.any.po (by decide) (by first | rfl | simp [upd_ap, hpL_ap, tau, mapT, mapTL, go_sem])).pv (by first | rfl | simp only [go_sem]) (by first | rfl | simp [upd_ap, hpL_ap, tau, mapT, mapTL, go_sem])).pv (by first | rfl | simp only [go_sem]) (by first | rfl | simp [upd_ap, hpL_ap, tau, mapT, mapTL, go_sem])).pv (by first | rfl | simp only [go_sem]) (by first | rfl | simp [upd_ap, hpL_ap, tau, mapT, mapTL, go_sem]))
        · exact .nil _
        · exact .cons (.tok (by simp [tokLL, tokL, inlR, go_sem]) (by first | rfl | simp [upd_ap, hpL_ap, tau, mapT, mapTL, go_sem])) (.cons (.eq (by first | rfl | simp only [go_sem]) (by first | rfl | simp [upd_ap, hpL_ap, tau, mapT, mapTL, go_sem])) (.nil _))
   · rw [if_neg c1] at h
     rcases t with _ | ⟨x0, xs⟩
     · show AW Try.prog 55 _ _ ⟨gfr a0 i _, _, _⟩
       rw [hst]
       refine AW.regL [3, 7, 8, 9, 10] ?_
       generalize hK : AW Try.prog _ _ _ = K
       simp only [go_sem, ↓reduceIte, reduceCtorEq, Nat.reduceAdd, Nat.reduceSub, Nat.reduceMul, Nat.reduceEqDiff, Nat.reduceLT, Nat.reduceLeDiff, eq_false c1]
       subst hK
       refine AW.seq ?_
       refine AW.ifBF rfl rfl ?_
       refine AW.exit ?_
       refine thenA_x ?_
       refine thenA_x ?_
       refine ⟨_, (Option.some.inj h).symm, _, ?_, rfl, rfl⟩
       show Ent 55 _ ⟨upd anyF 3 _, _, 8⟩
       refine Ent.can [] _ _ _ rfl (by first | decide | simp) rfl ?_ ?_ ?_
       · exact (RF.any.pv (by rfl) rfl)
       · exact .nil _
       · exact .nil _
     · show AW Try.prog 55 _ _ ⟨gfr a0 i (.own 8 0 (d.length + 1)), _, _⟩
       rw [hst]
       unfold ghp
       refine AW.regL [3, 7, 8, 9, 10] ?_
       generalize hK : AW Try.prog _ _ _ = K
       simp only [go_sem, ↓reduceIte, reduceCtorEq, Nat.reduceAdd, Nat.reduceSub, Nat.reduceMul, Nat.reduceEqDiff, Nat.reduceLT, Nat.reduceLeDiff, eq_false c1]
       subst hK
       refine AW.seq ?_
       refine AW.ifBF rfl rfl ?_
       refine AW.exit ?_
       refine thenA_x ?_
       refine thenA_x ?_
       refine ⟨_, (Option.some.inj h).symm, _, ?_, rfl, rfl⟩
       show Ent 55 _ ⟨upd anyF 3 (.own 8 0 (d.length + 1)), ghp d (x0 :: xs), 10⟩
       refine Ent.can [8, 9] _ _ _ rfl (by first | decide | simp) rfl ?_ ?_ ?_
       · exact (RF.any.po (by decide) (by first | rfl | simp [upd_ap, hpL_ap, tau, mapT, mapTL, go_sem]))
       · exact .nil _
       · exact .cons (.tok (by simp [tokLL, tokL, inlR, go_sem]) (by first | rfl | simp [upd_ap, hpL_ap, tau, mapT, mapTL, go_sem])) (.cons (.eq (by first | rfl | simp only [go_sem]) (by first | rfl | simp [upd_ap, hpL_ap, tau, mapT, mapTL, go_sem])) (.nil _))
 · intro e st' hX
   obtain ⟨rfl, rfl⟩ := hX
   obtain rfl := Option.some.inj h
   obtain ⟨d, t⟩ := y
   refine ⟨_, Ent.refl, ?_⟩
   refine block_x ?_
   refine thenA_n ?_
   rcases t with _ | ⟨x0, xs⟩
   · show AW Try.prog 55 _ _ ⟨upd anyF 3 _, _, _⟩
     refine AW.regL [2] ?_
     generalize hK : AW Try.prog _ _ _ = K
     simp only [go_sem, ↓reduceIte, reduceCtorEq, Nat.reduceAdd, Nat.reduceSub, Nat.reduceMul, Nat.reduceEqDiff, Nat.reduceLT, Nat.reduceLeDiff]
     subst hK
     refine AW.ent (Ent.nilOwn 2 1 (by decide) rfl) ?_
     refine AW.ret ?_
     exact fin_own (.inl rfl) rfl (by simp only [upd_ap, if_true]; rfl) rfl rfl rfl
   · show AW Try.prog 55 _ _ ⟨upd anyF 3 (.own 8 0 (d.length + 1)), ghp d (x0 :: xs), _⟩
     unfold ghp
     refine AW.regL [2] ?_
     generalize hK : AW Try.prog _ _ _ = K
     simp only [go_sem, ↓reduceIte, reduceCtorEq, Nat.reduceAdd, Nat.reduceSub, Nat.reduceMul, Nat.reduceEqDiff, Nat.reduceLT, Nat.reduceLeDiff]
     subst hK
     refine AW.ent (Ent.stillRow (sz := 1) (mu := true) (R1 := d.map enc22) (R2 := []) (pre := []) (post := []) (q := 9) (off := 0) (len := xs.length + 1) 8 (by simp [upd_ap, hpL_ap]) (own_sl (sz := 3) (m := true) rfl (by simp) (by simp only [go_sem])) (by decide)) ?_
     refine AW.ret ?_
     exact fin_own (sz := 1) (rows := (d ++ [x0 :: xs]).map enc22) (.inl rfl) rfl (by simp [upd_ap, enc22, encItem]) (by simp) (by simp only [go_sem]) (by rfl)
end Au
end Go.Proofs.Y5
