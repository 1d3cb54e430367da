import Derived.Test.YtpdgnhhjaaencaaGmM5
import Derived.Test.YtpdgnhhjaaencaaGmM6
import Derived.Test.YtpdgnhhjaaencaaGmLj
import Derived.Test.YtpdgnhhjaaencaaGmM4
import Derived.Test.YtpdgnhhjaaencaaGmDV
set_option linter.all false
set_option linter.unusedVariables false
set_option linter.unusedSimpArgs false
set_option linter.all false
set_option maxRecDepth 8000
set_option maxHeartbeats 1000000
namespace Go.Proofs.Y5
open Go.Gm
namespace Au
def getRange : Code → Option (Code × Code)
  | .rangeFunc _ _ a b => some (a, b)
  | .seq x y => match getRange x with
    | some r => some r
    | none => getRange y
  | .block _ c => getRange c
  | _ => none
noncomputable def astep (d : List Item) (t : Option Item) (it : Item) : Option (List Item × Option Item) := (guardO (d.length ≤ 1000000)).bind fun _ => match t with
  | none => (appO? [] it.Parts).bind fun p => (f16 [] it.Offs).bind fun o => some ([], some ⟨it.Key, p, o⟩)
  | some y => if y.Key = it.Key then (appO? y.Parts it.Parts).bind fun p => (f16 y.Offs it.Offs).bind fun o => some (d, some ⟨y.Key, p, o⟩)
    else (appO? [] it.Parts).bind fun p => (f16 [] it.Offs).bind fun o => some (d ++ [y], some ⟨it.Key, p, o⟩)
def outv (d : List Item) : Option Item → AV
  | none => .val (.slice none 0 0)
  | some _ => .own 8 0 (d.length + 1)
def objsS (d : List Item) : Option Item → List (Option AObj)
  | none => []
  | some y => [some (.row 3 true (d.map encItem ++ [[.val (.string y.Key), .own 9 0 y.Parts.length, .sl (y.Offs.map enc3)]])), some (.row 4 true (y.Parts.map encPart))]
def hpS (rest : List (List Item)) (d : List Item) (t : Option Item) : AHeap := hpL [some (.row 1 true [[outv d t]]), some (.row 1 true (rest.map enc22))] (objsS d t)
def nxS : Option Item → Nat
  | none => 8
  | some _ => 10
theorem aat (R : List Item) (r : List AV) (T : List (List AV)) : (R.map encItem ++ r :: T)[R.length]? = some r := by
  rw [List.getElem?_append_right (by simp)]; simp
theorem aset (R : List Item) (r r' : List AV) : (R.map encItem ++ [r]).set R.length r' = R.map encItem ++ [r'] := by
  rw [List.set_append_right _ _ (by simp)]; simp
theorem ak (d : List Item) (h : d.length ≤ 1000000) : IntKind.i64.wrap (((d.length + 1 : Nat) : Int) - 1) = (d.length : Int) := by
  rw [IntKind.wrap_i64] <;> omega
theorem appN {α : Type} {enc : α → List AV} {sz by_ id : Nat} {hp : AHeap} {l r : List α} (h : appO? [] l = some r) (hb : 0 < by_ ∧ by_ ≤ 4096) : appS sz by_ hp id (.val (.slice none 0 0)) (some (l.map enc)) = some ⟨.own id 0 r.length, [(id + 1, none), (id, some (.row sz true (r.map enc)))]⟩ := by
  obtain ⟨h1, h2⟩ := appO?_some.1 h
  simp at h1 h2; subst h2
  rw [appS_nil (by simpa using h1) hb]; simp
theorem appP {α : Type} {enc : α → List AV} {sz by_ id o : Nat} {l x r : List α} (h : appO? l x = some r) (hb : 0 < by_ ∧ by_ ≤ 4096) : appO sz by_ id (x.map enc) 0 l.length o (some (.row sz true (l.map enc))) = some ⟨.own id 0 r.length, [(o, none), (id, some (.row sz true (r.map enc)))]⟩ := by
  obtain ⟨h1, h2⟩ := appO?_some.1 h
  subst h2
  rw [appO_ok (by simp) (by simpa using h1) hb]; simp
theorem body_aw (assign body : Code) (hcode : (Try.f9.body.bind getRange) = some (assign, body)) (rest : List (List Item)) (d d' : List Item) (t t' : Option Item) (it : Item) (h : astep d t it = some (d', t')) :
  AW Try.prog 57 assign (fun e s1 => e = .normal ∧ 8 ≤ s1.nx ∧ AW Try.prog 57 body (fun e s2 => e = .normal ∧ s2.hp = hpS rest d' t' ∧ s2.nx = nxS t') s1) ⟨upd (upd anyF 3 (.ptr 0 0 0)) 8 (.agg (encItem it)), hpS rest d t, nxS t⟩ := by
 obtain ⟨rfl, rfl⟩ := Prod.mk.inj (Option.some.inj (hcode.symm.trans (rfl : Try.f9.body.bind getRange = some (_, _))))
 clear hcode
 obtain ⟨gu, hg, h⟩ := Option.bind_eq_some_iff.1 h
 have hg := guardO_some.1 hg
 rcases t with _ | y
 ·obtain ⟨p, hp, h⟩ := Option.bind_eq_some_iff.1 h
  obtain ⟨o, ho, h⟩ := Option.bind_eq_some_iff.1 h
  obtain ⟨hd', ht'⟩ := Prod.mk.inj (Option.some.inj h)
  clear h
  show AW Try.prog 57 _ _ ⟨_, hpL [some (.row 1 true [[.val (.slice none 0 0)]]), some (.row 1 true (rest.map enc22))] [], 8⟩
  refine AW.regionL [3, 4] ?_
  generalize hK : (fun (st' : ASt) => _) = K
  simp only [go_sem, ↓reduceIte, reduceCtorEq, Nat.reduceAdd, Nat.reduceSub, Nat.reduceMul, Nat.reduceEqDiff, Nat.reduceLT, Nat.reduceLeDiff]
  subst hK
  refine ⟨rfl, by simp, ?_⟩
  refine AW.toK (K := fun s => s.hp = hpS rest d' t' ∧ s.nx = nxS t') ?_
  refine AW.block ?_
  refine AW.regL [3, 4, 5] ?_
  generalize hK : AW Try.prog _ _ _ = K
  simp only [go_sem, ↓reduceIte, reduceCtorEq, Nat.reduceAdd, Nat.reduceSub, Nat.reduceMul, Nat.reduceEqDiff, Nat.reduceLT, Nat.reduceLeDiff, gm1]
  subst hK
  refine AW.seq ?_
  refine AW.regdL [3, 4, 5, 23] [[], [0], [0, 1], [0, 1, 2], [0, 1, 2], [0, 1, 2, 3, 4], [0, 1, 2, 3, 4, 5], [0, 1, 2, 3, 4, 5, 6], [0, 1, 2], [0, 1, 2, 8], [0, 1, 2, 3, 4, 5, 6, 7, 8, 9], [0, 1, 2, 3, 4, 5, 6, 7, 8, 9, 10]] [0, 1, 2, 3, 4, 5, 6, 7, 8, 9, 10, 11] noFt (fun _ _ _ h => by simp [noFt] at h) draws (by kernel_rfl) (by kernel_rfl) ?_
  generalize hK : AW Try.prog _ _ _ = K
  simp only [go_sem, ↓reduceIte, reduceCtorEq, Nat.reduceAdd, Nat.reduceSub, Nat.reduceMul, Nat.reduceEqDiff, Nat.reduceLT, Nat.reduceLeDiff, gm2]
  subst hK
  refine AW.ifBT rfl rfl ?_
  refine AW.regL [3, 4, 5] ?_
  generalize hK : AW Try.prog _ _ _ = K
  simp only [go_sem, ↓reduceIte, reduceCtorEq, Nat.reduceAdd, Nat.reduceSub, Nat.reduceMul, Nat.reduceEqDiff, Nat.reduceLT, Nat.reduceLeDiff]
  subst hK
  refine AW.regionL [3, 4, 5] ?_
  generalize hK : thenA _ _ Exit.normal = K
  simp only [go_sem, ↓reduceIte, reduceCtorEq, Nat.reduceAdd, Nat.reduceSub, Nat.reduceMul, Nat.reduceEqDiff, Nat.reduceLT, Nat.reduceLeDiff, gm0]
  subst hK
  refine thenA_n ?_
  refine AW.regdL [3, 4, 5] [[], [], [], [], [2, 3], [2, 3, 4], [2, 3, 4, 5], [], [7], [2, 3, 4, 5, 6, 7, 8], [0, 1, 2, 3, 4, 5, 6, 7, 8, 9], [0, 1, 2, 3, 4, 5, 6, 7, 8, 9, 10], [0, 1, 2, 3, 4, 5, 6, 7, 8, 9, 10, 11]] [0, 1, 2, 3, 4, 5, 6, 7, 8, 9, 10, 11, 12] noFt (fun _ _ _ h => by simp [noFt] at h) draws (by kernel_rfl) (by kernel_rfl) ?_
  generalize hK : AW Try.prog _ _ _ = K
  simp only [go_sem, ↓reduceIte, reduceCtorEq, Nat.reduceAdd, Nat.reduceSub, Nat.reduceMul, Nat.reduceEqDiff, Nat.reduceLT, Nat.reduceLeDiff, appN (by_ := 40) (enc := encPart) hp (by decide)]
  subst hK
  refine AW.drawL [3, 4, 5] [[], [], [], [], [2, 3], [2, 3, 4], [2, 3, 4, 5], [], [7], [2, 3, 4, 5, 6, 7, 8], [0, 1, 2, 3, 4, 5, 6, 7, 8, 9], [0, 1, 2, 3, 4, 5, 6, 7, 8, 9, 10], [0, 1, 2, 3, 4, 5, 6, 7, 8, 9, 10, 11]] [0, 1, 2, 3, 4, 5, 6, 7, 8, 9, 10, 11, 12] noFt (fun _ _ _ h => by simp [noFt] at h) draws (by kernel_rfl) (by kernel_rfl) ?_
  generalize hK : inBlockA _ _ Exit.normal = K
  simp only [go_sem, ↓reduceIte, reduceCtorEq, Nat.reduceAdd, Nat.reduceSub, Nat.reduceMul, Nat.reduceEqDiff, Nat.reduceLT, Nat.reduceLeDiff]
  refine adN.pc (ok16 [] it.Offs o ho) Try.call16 callV_fn (by simp only [go_sem, ↓reduceIte, reduceCtorEq, Nat.reduceAdd, Nat.reduceSub, Nat.reduceMul, Nat.reduceEqDiff, Nat.reduceLT, Nat.reduceLeDiff]) (by simp only [go_sem, ↓reduceIte, reduceCtorEq, Nat.reduceAdd, Nat.reduceSub, Nat.reduceMul, Nat.reduceEqDiff, Nat.reduceLT, Nat.reduceLeDiff]) ?_
  simp only [go_sem, ↓reduceIte, reduceCtorEq, Nat.reduceAdd, Nat.reduceSub, Nat.reduceMul, Nat.reduceEqDiff, Nat.reduceLT, Nat.reduceLeDiff]
  subst hK
  refine block_n ?_
  refine ⟨rfl, ⟨anyF, hpL [some (.row 1 true [[.own 8 0 (([] : List Item).length + 1)]]), some (.row 1 true (rest.map enc22))] [some (.row 3 true (([] : List Item).map encItem ++ [[.val (.string it.Key), .own 9 0 p.length, .sl (o.map enc3)]])), some (.row 4 true (p.map encPart))], 10⟩, ?_, ?_, ?_⟩
  · refine Ent.trans (Ent.stillRow (sz := 3) (mu := true) (R1 := []) (R2 := []) (pre := [.val (.string it.Key), .own 304 0 p.length]) (post := []) (q := 408) (off := 0) (len := o.length) 192 (by simp [upd_ap, hpL_ap]) (own_sl (sz := 1) (m := true) rfl (by simp) (by simp only [go_sem])) (by decide)) ?_
    refine Ent.can [192, 304] _ _ _ rfl (by first | decide | simp) rfl RF.any ?_ ?_
    · exact .cons (.tok (by simp [tokLL, tokL, inlR, go_sem]) (by first | rfl | simp [upd_ap, hpL_ap, tau, mapT, mapTL, go_sem])) (.cons (.eq (by first | rfl | simp only [go_sem]) (by first | rfl | simp [upd_ap, hpL_ap, tau, mapT, mapTL, go_sem])) (.nil _))
    · exact .cons (.tok (by simp [tokLL, tokL, inlR, go_sem]) (by first | rfl | simp [upd_ap, hpL_ap, tau, mapT, mapTL, go_sem])) (.cons (.eq (by first | rfl | simp only [go_sem]) (by first | rfl | simp [upd_ap, hpL_ap, tau, mapT, mapTL, go_sem])) (.nil _))
  · rw [← hd', ← ht']; rfl
  · rw [← ht']; rfl
 ·have hl : d.length + 1 ≤ 34359738368 := by omega
  show AW Try.prog 57 _ _ ⟨_, hpL [some (.row 1 true [[.own 8 0 (d.length + 1)]]), some (.row 1 true (rest.map enc22))] [some (.row 3 true (d.map encItem ++ [[.val (.string y.Key), .own 9 0 y.Parts.length, .sl (y.Offs.map enc3)]])), some (.row 4 true (y.Parts.map encPart))], 10⟩
  obtain ⟨D, hD⟩ : ∃ D, D = d ++ [y] := ⟨_, rfl⟩
  have hDl : D.length = d.length + 1 := by rw [hD]; simp
  have haO : ∀ id o1 : Nat, appO 3 64 id [[.val (.string it.Key), .val (.slice none 0 0), .val (.slice none 0 0)]] 0 (d.length + 1) o1 (some (.row 3 true (d.map encItem ++ [[.val (.string y.Key), .sl (List.map encPart y.Parts), .sl (List.map enc3 y.Offs)]]))) = some ⟨.own id 0 (D.length + 1), [(o1, none), (id, some (.row 3 true (D.map encItem ++ [[.val (.string it.Key), .val (.slice none 0 0), .val (.slice none 0 0)]])))]⟩ := fun id o1 => by
    rw [appO_ok (by simp) (by simp; omega) (by decide)]; simp [hD, encItem]
  have hkD : IntKind.i64.wrap ((d.length : Int) + 1) = (D.length : Int) := by rw [IntKind.wrap_i64] <;> omega
  dsimp only at h
  by_cases c2 : y.Key = it.Key
  ·rw [if_pos c2] at h
   obtain ⟨p, hp, h⟩ := Option.bind_eq_some_iff.1 h
   obtain ⟨o, ho, h⟩ := Option.bind_eq_some_iff.1 h
   obtain ⟨hd', ht'⟩ := Prod.mk.inj (Option.some.inj h)
   clear h
   refine AW.regionL [3, 4] ?_
   generalize hK : (fun (st' : ASt) => _) = K
   simp only [go_sem, ↓reduceIte, reduceCtorEq, Nat.reduceAdd, Nat.reduceSub, Nat.reduceMul, Nat.reduceEqDiff, Nat.reduceLT, Nat.reduceLeDiff]
   subst hK
   refine ⟨rfl, by simp, ?_⟩
   refine AW.toK (K := fun s => s.hp = hpS rest d' t' ∧ s.nx = nxS t') ?_
   refine AW.block ?_
   refine AW.regL [3, 4, 5] ?_
   generalize hK : AW Try.prog _ _ _ = K
   simp only [go_sem, ↓reduceIte, reduceCtorEq, Nat.reduceAdd, Nat.reduceSub, Nat.reduceMul, Nat.reduceEqDiff, Nat.reduceLT, Nat.reduceLeDiff, ak d hg]
   subst hK
   refine AW.seq ?_
   refine AW.regdL [3, 4, 5, 23] [[], [0], [0, 1], [0, 1, 2], [0, 1, 2], [0, 1, 2, 3, 4], [0, 1, 2, 3, 4, 5], [0, 1, 2, 3, 4, 5, 6], [0, 1, 2], [0, 1, 2, 8], [0, 1, 2, 3, 4, 5, 6, 7, 8, 9], [0, 1, 2, 3, 4, 5, 6, 7, 8, 9, 10]] [0, 1, 2, 3, 4, 5, 6, 7, 8, 9, 10, 11] noFt (fun _ _ _ h => by simp [noFt] at h) draws (by kernel_rfl) (by kernel_rfl) ?_
   generalize hK : AW Try.prog _ _ _ = K
   simp only [go_sem, ↓reduceIte, reduceCtorEq, Nat.reduceAdd, Nat.reduceSub, Nat.reduceMul, Nat.reduceEqDiff, Nat.reduceLT, Nat.reduceLeDiff, gnn, glt, aat, eq_true c2]
   subst hK
   refine AW.ifBF rfl rfl ?_
   refine AW.skip ?_
   refine thenA_n ?_
   refine AW.regdL [3, 4, 5] [[], [], [], [], [2, 3], [2, 3, 4], [2, 3, 4, 5], [], [7], [2, 3, 4, 5, 6, 7, 8], [0, 1, 2, 3, 4, 5, 6, 7, 8, 9], [0, 1, 2, 3, 4, 5, 6, 7, 8, 9, 10], [0, 1, 2, 3, 4, 5, 6, 7, 8, 9, 10, 11]] [0, 1, 2, 3, 4, 5, 6, 7, 8, 9, 10, 11, 12] noFt (fun _ _ _ h => by simp [noFt] at h) draws (by kernel_rfl) (by kernel_rfl) ?_
   generalize hK : AW Try.prog _ _ _ = K
   simp only [go_sem, ↓reduceIte, reduceCtorEq, Nat.reduceAdd, Nat.reduceSub, Nat.reduceMul, Nat.reduceEqDiff, Nat.reduceLT, Nat.reduceLeDiff, gnn, glt, aat, aset, appP (by_ := 40) (enc := encPart) hp (by decide)]
   subst hK
   refine AW.drawL [3, 4, 5] [[], [], [], [], [2, 3], [2, 3, 4], [2, 3, 4, 5], [], [7], [2, 3, 4, 5, 6, 7, 8], [0, 1, 2, 3, 4, 5, 6, 7, 8, 9], [0, 1, 2, 3, 4, 5, 6, 7, 8, 9, 10], [0, 1, 2, 3, 4, 5, 6, 7, 8, 9, 10, 11]] [0, 1, 2, 3, 4, 5, 6, 7, 8, 9, 10, 11, 12] noFt (fun _ _ _ h => by simp [noFt] at h) draws (by kernel_rfl) (by kernel_rfl) ?_
   generalize hK : inBlockA _ _ Exit.normal = K
   simp only [go_sem, ↓reduceIte, reduceCtorEq, Nat.reduceAdd, Nat.reduceSub, Nat.reduceMul, Nat.reduceEqDiff, Nat.reduceLT, Nat.reduceLeDiff, gnn, glt, aat, aset]
   refine adN.pc (ok16 y.Offs it.Offs o ho) Try.call16 callV_fn (by simp only [go_sem, ↓reduceIte, reduceCtorEq, Nat.reduceAdd, Nat.reduceSub, Nat.reduceMul, Nat.reduceEqDiff, Nat.reduceLT, Nat.reduceLeDiff, gnn, glt, aat, aset]) (by simp only [go_sem, ↓reduceIte, reduceCtorEq, Nat.reduceAdd, Nat.reduceSub, Nat.reduceMul, Nat.reduceEqDiff, Nat.reduceLT, Nat.reduceLeDiff]) ?_
   simp only [go_sem, ↓reduceIte, reduceCtorEq, Nat.reduceAdd, Nat.reduceSub, Nat.reduceMul, Nat.reduceEqDiff, Nat.reduceLT, Nat.reduceLeDiff, gnn, glt, aat, aset]
   subst hK
   refine block_n ?_
   refine ⟨rfl, ⟨anyF, hpL [some (.row 1 true [[.own 8 0 (d.length + 1)]]), some (.row 1 true (rest.map enc22))] [some (.row 3 true (d.map encItem ++ [[.val (.string y.Key), .own 9 0 p.length, .sl (o.map enc3)]])), some (.row 4 true (p.map encPart))], 10⟩, ?_, ?_, ?_⟩
   · refine Ent.trans (Ent.stillRow (sz := 3) (mu := true) (R1 := d.map encItem) (R2 := []) (pre := [.val (.string y.Key), .own 226 0 p.length]) (post := []) (q := 330) (off := 0) (len := o.length) 8 (by simp [upd_ap, hpL_ap]) (own_sl (sz := 1) (m := true) rfl (by simp) (by simp only [go_sem])) (by decide)) ?_
     refine Ent.can [8, 226] _ _ _ rfl (by first | decide | simp) rfl RF.any ?_ ?_
     · exact .cons (.tok (by simp [tokLL, tokL, inlR, go_sem]) (by first | rfl | simp [upd_ap, hpL_ap, tau, mapT, mapTL, go_sem])) (.cons (.eq (by first | rfl | simp only [go_sem]) (by first | rfl | simp [upd_ap, hpL_ap, tau, mapT, mapTL, go_sem])) (.nil _))
     · exact .cons (.tok (by simp [tokLL, tokL, inlR, go_sem]) (by first | rfl | simp [upd_ap, hpL_ap, tau, mapT, mapTL, go_sem])) (.cons (.eq (by first | rfl | simp only [go_sem]) (by first | rfl | simp [upd_ap, hpL_ap, tau, mapT, mapTL, go_sem])) (.nil _))
   · rw [← hd', ← ht']; rfl
   · rw [← ht']; rfl
  ·rw [if_neg c2] at h
   obtain ⟨p, hp, h⟩ := Option.bind_eq_some_iff.1 h
   obtain ⟨o, ho, h⟩ := Option.bind_eq_some_iff.1 h
   obtain ⟨hd', ht'⟩ := Prod.mk.inj (Option.some.inj h)
   rw [← hD] at hd'
   clear h
   refine AW.regionL [3, 4] ?_
   generalize hK : (fun (st' : ASt) => _) = K
   simp only [go_sem, ↓reduceIte, reduceCtorEq, Nat.reduceAdd, Nat.reduceSub, Nat.reduceMul, Nat.reduceEqDiff, Nat.reduceLT, Nat.reduceLeDiff]
   subst hK
   refine ⟨rfl, by simp, ?_⟩
   refine AW.toK (K := fun s => s.hp = hpS rest d' t' ∧ s.nx = nxS t') ?_
   refine AW.block ?_
   refine AW.regL [3, 4, 5] ?_
   generalize hK : AW Try.prog _ _ _ = K
   simp only [go_sem, ↓reduceIte, reduceCtorEq, Nat.reduceAdd, Nat.reduceSub, Nat.reduceMul, Nat.reduceEqDiff, Nat.reduceLT, Nat.reduceLeDiff, ak d hg]
   subst hK
   refine AW.seq ?_
   refine AW.regdL [3, 4, 5, 23] [[], [0], [0, 1], [0, 1, 2], [0, 1, 2], [0, 1, 2, 3, 4], [0, 1, 2, 3, 4, 5], [0, 1, 2, 3, 4, 5, 6], [0, 1, 2], [0, 1, 2, 8], [0, 1, 2, 3, 4, 5, 6, 7, 8, 9], [0, 1, 2, 3, 4, 5, 6, 7, 8, 9, 10]] [0, 1, 2, 3, 4, 5, 6, 7, 8, 9, 10, 11] noFt (fun _ _ _ h => by simp [noFt] at h) draws (by kernel_rfl) (by kernel_rfl) ?_
   generalize hK : AW Try.prog _ _ _ = K
   simp only [go_sem, ↓reduceIte, reduceCtorEq, Nat.reduceAdd, Nat.reduceSub, Nat.reduceMul, Nat.reduceEqDiff, Nat.reduceLT, Nat.reduceLeDiff, gnn, glt, aat, eq_false c2]
   subst hK
   refine AW.ifBT rfl rfl ?_
   refine AW.ent (Ent.stillRow (sz := 3) (mu := true) (R1 := d.map encItem) (R2 := []) (pre := [.val (.string y.Key)]) (post := [.sl (List.map enc3 y.Offs)]) (q := 9) (off := 0) (len := y.Parts.length) 8 (by simp [upd_ap, hpL_ap]) (own_sl (sz := 4) (m := true) rfl (by simp) (by simp only [go_sem])) (by decide)) ?_
   refine AW.regL [3, 4, 5] ?_
   generalize hK : AW Try.prog _ _ _ = K
   simp only [go_sem, ↓reduceIte, reduceCtorEq, Nat.reduceAdd, Nat.reduceSub, Nat.reduceMul, Nat.reduceEqDiff, Nat.reduceLT, Nat.reduceLeDiff, gnn, glt, aat, haO]
   subst hK
   refine AW.regionL [3, 4, 5] ?_
   generalize hK : thenA _ _ Exit.normal = K
   simp only [go_sem, ↓reduceIte, reduceCtorEq, Nat.reduceAdd, Nat.reduceSub, Nat.reduceMul, Nat.reduceEqDiff, Nat.reduceLT, Nat.reduceLeDiff, hkD]
   subst hK
   refine thenA_n ?_
   refine AW.regdL [3, 4, 5] [[], [], [], [], [2, 3], [2, 3, 4], [2, 3, 4, 5], [], [7], [2, 3, 4, 5, 6, 7, 8], [0, 1, 2, 3, 4, 5, 6, 7, 8, 9], [0, 1, 2, 3, 4, 5, 6, 7, 8, 9, 10], [0, 1, 2, 3, 4, 5, 6, 7, 8, 9, 10, 11]] [0, 1, 2, 3, 4, 5, 6, 7, 8, 9, 10, 11, 12] noFt (fun _ _ _ h => by simp [noFt] at h) draws (by kernel_rfl) (by kernel_rfl) ?_
   generalize hK : AW Try.prog _ _ _ = K
   simp only [go_sem, ↓reduceIte, reduceCtorEq, Nat.reduceAdd, Nat.reduceSub, Nat.reduceMul, Nat.reduceEqDiff, Nat.reduceLT, Nat.reduceLeDiff, gnn, glt, aat, aset, appN (by_ := 40) (enc := encPart) hp (by decide)]
   subst hK
   refine AW.drawL [3, 4, 5] [[], [], [], [], [2, 3], [2, 3, 4], [2, 3, 4, 5], [], [7], [2, 3, 4, 5, 6, 7, 8], [0, 1, 2, 3, 4, 5, 6, 7, 8, 9], [0, 1, 2, 3, 4, 5, 6, 7, 8, 9, 10], [0, 1, 2, 3, 4, 5, 6, 7, 8, 9, 10, 11]] [0, 1, 2, 3, 4, 5, 6, 7, 8, 9, 10, 11, 12] noFt (fun _ _ _ h => by simp [noFt] at h) draws (by kernel_rfl) (by kernel_rfl) ?_
   generalize hK : inBlockA _ _ Exit.normal = K
   simp only [go_sem, ↓reduceIte, reduceCtorEq, Nat.reduceAdd, Nat.reduceSub, Nat.reduceMul, Nat.reduceEqDiff, Nat.reduceLT, Nat.reduceLeDiff, gnn, glt, aat, aset]
   refine adN.pc (ok16 [] it.Offs o ho) Try.call16 callV_fn (by simp only [go_sem, ↓reduceIte, reduceCtorEq, Nat.reduceAdd, Nat.reduceSub, Nat.reduceMul, Nat.reduceEqDiff, Nat.reduceLT, Nat.reduceLeDiff, gnn, glt, aat, aset]) (by simp only [go_sem, ↓reduceIte, reduceCtorEq, Nat.reduceAdd, Nat.reduceSub, Nat.reduceMul, Nat.reduceEqDiff, Nat.reduceLT, Nat.reduceLeDiff]) ?_
   simp only [go_sem, ↓reduceIte, reduceCtorEq, Nat.reduceAdd, Nat.reduceSub, Nat.reduceMul, Nat.reduceEqDiff, Nat.reduceLT, Nat.reduceLeDiff, gnn, glt, aat, aset]
   subst hK
   refine block_n ?_
   refine ⟨rfl, ⟨anyF, hpL [some (.row 1 true [[.own 8 0 (D.length + 1)]]), some (.row 1 true (rest.map enc22))] [some (.row 3 true (D.map encItem ++ [[.val (.string it.Key), .own 9 0 p.length, .sl (o.map enc3)]])), some (.row 4 true (p.map encPart))], 10⟩, ?_, ?_, ?_⟩
   · refine Ent.trans (Ent.stillRow (sz := 3) (mu := true) (R1 := D.map encItem) (R2 := []) (pre := [.val (.string it.Key), .own 306 0 p.length]) (post := []) (q := 410) (off := 0) (len := o.length) 194 (by simp [upd_ap, hpL_ap]) (own_sl (sz := 1) (m := true) rfl (by simp) (by simp only [go_sem])) (by decide)) ?_
     refine Ent.can [194, 306] _ _ _ rfl (by first | decide | simp) rfl RF.any ?_ ?_
     · exact .cons (.tok (by simp [tokLL, tokL, inlR, go_sem]) (by first | rfl | simp [upd_ap, hpL_ap, tau, mapT, mapTL, go_sem])) (.cons (.eq (by first | rfl | simp only [go_sem]) (by first | rfl | simp [upd_ap, hpL_ap, tau, mapT, mapTL, go_sem])) (.nil _))
     · exact .cons (.tok (by simp [tokLL, tokL, inlR, go_sem]) (by first | rfl | simp [upd_ap, hpL_ap, tau, mapT, mapTL, go_sem])) (.cons (.eq (by first | rfl | simp only [go_sem]) (by first | rfl | simp [upd_ap, hpL_ap, tau, mapT, mapTL, go_sem])) (.nil _))
   · rw [← hd', ← ht']; rfl
   · rw [← ht']; rfl
end Au
end Go.Proofs.Y5

set_option linter.all false
set_option maxRecDepth 8000
set_option maxHeartbeats 1000000
namespace Go.Proofs.Y5
open Go.Gm
namespace Au
def encR : Option (List Item) → List AV
  | none => [.val (.slice none 0 0)]
  | some l => [.sl (l.map encItem)]
theorem encR_none : encR none = [.val (.slice none 0 0)] := rfl
theorem inl_encR (x : Option (List Item)) : inlL (encR x) = true := by cases x <;> simp [encR, go_sem]
theorem ml_encR (l : List (Option (List Item))) : (∀ r ∈ l.map encR, r.length = 1) = True := forall_map (f := encR) (fun x => by cases x <;> rfl) l
theorem ir_encR (l : List (Option (List Item))) : inlR (l.map encR) = true := inlR_map inl_encR l
theorem to_encR (m : Nat) (l : List (Option (List Item))) : (l.map encR).all (tokLL m) = true := tokR_inl m (ir_encR l)
attribute [go_sem] ml_encR ir_encR to_encR
theorem encR_some (l : List (List Item)) : (l.map some).map encR = l.map enc22 := by rw [List.map_map]; rfl
noncomputable def f22_f (a0 : List (List Item)) : Int × List (Option (List Item)) → Option ((Int × List (Option (List Item))) ⊕ List (Option (List Item)))
  | (i, xs) => if i < (a0.length : Int) then ((ix a0 i).bind fun x => (f23 x).bind fun y => (guardO (i.toNat < xs.length)).bind fun _ => some (.inl (IntKind.i64.wrap (i + 1), xs.set i.toNat (some y)))) else some (.inr xs)
def f22_b (rest : List (List Item)) : Int × Int → Option ((Int × Int) ⊕ Int)
  | (i, b) => if i < (rest.length : Int) then ((ix rest i).bind fun x => match x with
      | [] => some (.inl (IntKind.i64.wrap (i + 1), b))
      | x0 :: _ => if b < 0 then some (.inl (IntKind.i64.wrap (i + 1), i)) else (ix rest b).bind fun y => match y with
        | [] => none
        | y0 :: _ => if sLt x0.Key y0.Key = true then some (.inl (IntKind.i64.wrap (i + 1), i)) else some (.inl (IntKind.i64.wrap (i + 1), b))) else some (.inr b)
noncomputable def f22_s : List (List Item) × List Item × Option Item → Option ((List (List Item) × List Item × Option Item) ⊕ List (List Item) × List Item × Option Item)
  | (rest, d, t) => (loopO (f22_b rest) (0, -1)).bind fun b => if b < 0 then some (.inr (rest, d, t)) else (ix rest b).bind fun y => match y with
    | [] => none
    | y0 :: ys => (astep d t y0).bind fun q => some (.inl (rest.set b.toNat ys, q.1, q.2))
theorem hpS_1 (rest : List (List Item)) (d : List Item) (t : Option Item) : hpS rest d t 1 = some (.row 1 true (rest.map enc22)) := rfl
theorem hpS_set (rest : List (List Item)) (d : List Item) (t : Option Item) (b : Nat) (ys : List Item) : upd (hpS rest d t) 1 (some (.row 1 true ((rest.map enc22).set b [.sl (ys.map encItem)]))) = hpS (rest.set b ys) d t := by
  funext q
  by_cases e : q = 1
  · subst e; rw [upd_same, hpS_1, List.map_set]; rfl
  · rw [upd_other _ _ e]
    simp only [hpS, hpL_ap]
    split
    · rename_i h8
      obtain _ | _ | _ | q := q
      · rfl
      · exact absurd rfl e
      · rfl
      · rfl
    · rfl
theorem nx8 (t : Option Item) : 8 ≤ nxS t := by cases t <;> simp [nxS]
def RFl (m : Nat) (fr fr' : Nat → AV) : Prop := ∀ q, tokL m (fr' q) = true ∧ (fr' q = .any ∨ Weak (fr q) (fr' q))
theorem RFl.any {m : Nat} {fr : Nat → AV} : RFl m fr anyF := fun _ => ⟨by simp [anyF, tokL], .inl rfl⟩
theorem RFl.put {m : Nat} {fr fr' : Nat → AV} {q : Nat} {v : AV} (h : RFl m fr fr') (ht : tokL m v = true) (hv : fr q = v) : RFl m fr (upd fr' q v) := fun q' => by
  simp only [upd]; split
  · rename_i e; subst e; exact ⟨ht, .inr (.of hv)⟩
  · exact h q'
theorem tok1 {t : Option Item} {n : Nat} : tokL (nxS t) (.own 1 0 n) = true := by have := nx8 t; simp [tokL]; omega
theorem low_S {N nx : Nat} {fr fr' : Nat → AV} (rest : List (List Item)) (d : List Item) (t : Option Item) (hfr : RFl (nxS t) fr fr') : Ent N ⟨fr, hpS rest d t, nx⟩ ⟨fr', hpS rest d t, nxS t⟩ := by
  refine Ent.low (nx8 t) (fun q hq => ?_) (fun q o ho => ?_) hfr
  · simp only [hpS, hpL_ap]
    have := nx8 t
    rw [if_neg (by omega)]
    cases t with
    | none => simp [objsS]
    | some y => simp only [nxS] at hq; rw [objsS, List.getElem?_eq_none (by simp; omega)]; rfl
  · simp only [hpS, hpL_ap] at ho
    split at ho
    · obtain _ | _ | q := q
      · simp at ho; subst ho
        exact ⟨_, _, _, rfl, by cases t <;> simp [outv, tokLL, tokL, nxS]⟩
      · simp at ho; subst ho
        exact ⟨_, _, _, rfl, to_enc22 _ _⟩
      · simp at ho
    · cases t with
      | none => simp [objsS] at ho
      | some y =>
        obtain ⟨k, hk⟩ : ∃ k, k = q - 8 := ⟨_, rfl⟩
        rw [← hk] at ho
        obtain _ | _ | k := k
        · simp [objsS] at ho; subst ho
          exact ⟨_, _, _, rfl, by simp [tokLL, tokL, nxS, go_sem]⟩
        · simp [objsS] at ho; subst ho
          exact ⟨_, _, _, rfl, by simp [go_sem]⟩
        · simp [objsS] at ho
def tmF (yv : AV) (a0 : List (List Item)) (s : Int × List (Option (List Item))) : ASt := ⟨upd (upd (upd (upd (upd anyF 14 (.val (.int .i64 s.1))) 13 (.val (.int .i64 (a0.length : Int)))) 12 (.sl (a0.map enc22))) 3 (.own 1 0 s.2.length)) 0 yv, hpL [some (.row 1 true [[.val (.slice none 0 0)]]), some (.row 1 true (s.2.map encR))] [], 8⟩
def tmB (yv : AV) (s : List (List Item) × List Item × Option Item) : ASt := ⟨upd (upd anyF 3 (.own 1 0 s.1.length)) 0 yv, hpS s.1 s.2.1 s.2.2, nxS s.2.2⟩
theorem heads_aw (a0 : List (List Item)) (xs : List (Option (List Item))) (ls : List (List Item)) (r : List (List Item) × List Item × Option Item) (hfill : loopO (f22_f a0) (0, List.replicate a0.length none) = some xs) (hls : xs = ls.map some) (hmain : loopO f22_s (ls, [], none) = some r)
    (hlen : a0.length ≤ 2147483648) (H : Host) (hHfr : H.fr = upd (upd anyF 7 (.clo (.func 22) [] [.ip [.sl (a0.map enc22)]])) 3 (.ptr 0 0 0)) (hcode : Try.f9.body.bind getRange = some (H.assign, H.body)) (hHp : H.p = 8) (hsz : H.tmps.size = 57) (cg : Code) (hcg : Try.f22.body = some cg) :
    AWH Try.prog 76 H cg (fun e s => (e = .normal ∨ e = .ret) ∧ s.hp = hpS r.1 r.2.1 r.2.2 ∧ nxS r.2.2 ≤ s.nx) ⟨initF [.val (.func (.yield H.L) #[] #[]), .ip [.sl (a0.map enc22)]], hpL [some (.row 1 true [[.val (.slice none 0 0)]])] [], 8⟩ := by
 obtain rfl := Option.some.inj (hcg.symm.trans (rfl : Try.f22.body = some _))
 clear hcg
 have hHf : ∀ d, tokL 8 (H.fr d) = true := by rw [hHfr]; exact tok_upd (tok_upd tok_any (by simp [tokL, tokLL, go_sem])) (by simp [tokL])
 generalize hyv : AV.val (.func (.yield H.L) #[] #[]) = yv
 have htyv : ∀ m, tokL m yv = true := fun m => by rw [← hyv]; simp [tokL]
 have hyi : inl yv = true := by rw [← hyv]; rfl
 have hmk : mkO (a0.length : Int) (none : Option (List Item)) = some (List.replicate a0.length none) := mkO_some.2 ⟨⟨by omega, by omega⟩, by simp⟩
 refine AWH.seq (AWH.of (Nat.le_of_ble_eq_true rfl) ?_)
 refine AW.regionL [0, 1, 3] ?_
 generalize hK : thenA _ _ Exit.normal = K
 simp only [go_sem, ↓reduceIte, reduceCtorEq, Nat.reduceAdd, Nat.reduceSub, Nat.reduceMul, Nat.reduceEqDiff, Nat.reduceLT, Nat.reduceLeDiff, make_ok mk25 (enc := encR) (x := none) rfl (by decide) hmk]
 subst hK
 refine thenA_n ?_
 refine AWH.ren (st' := ⟨upd (upd (upd anyF 3 (.own 1 0 (List.replicate a0.length (none : Option (List Item))).length)) 1 (.ip [.sl (a0.map enc22)])) 0 yv, hpL [some (.row 1 true [[.val (.slice none 0 0)]]), some (.row 1 true ((List.replicate a0.length none).map encR))] [], 8⟩) (fun t => if t = 1 then 24 else t) ?_ ?_ ?_ ?_ ?_ ?_
 · intro i j (hi : i < 8) (hj : j < 8) _ _ (h : (if i = 1 then 24 else i) = (if j = 1 then 24 else j))
   split at h <;> split at h <;> omega
 · intro t (ht : t < 8)
   obtain _ | _ | t := t
   · exact ORen.eq rfl (by simp [upd_ap, hpL_ap])
   · exact ORen.eq (ir_encR _) (by simp [upd_ap, hpL_ap])
   · have : hpL [some (.row 1 true [[.val (.slice none 0 0)]]), some (.row 1 true ((List.replicate a0.length none).map encR))] [] (t + 1 + 1) = none := by simp [hpL_ap]
     show ORen _ _ _ (hpL _ _ (t + 1 + 1))
     rw [this]; exact .none _
 · intro t (ht : 8 ≤ t)
   simp [hpL_ap, show ¬ t < 8 by omega]
 · exact ((RF.any.po (Nat.le_of_ble_eq_true rfl) (by simp [upd_ap])).pv (by simp only [go_sem]) (by simp [upd_ap])).pv hyi (by simp [upd_ap])
 · intro d
   rw [hHfr]
   refine ⟨tok_upd (tok_upd tok_any (by simp [tokL, tokLL, go_sem])) (by simp [tokL]) d, ?_⟩
   simp only [upd]; split
   · simp [mapT]
   · split <;> simp [mapT, mapTL, anyF]
 refine AWH.seq (AWH.of (Nat.le_of_ble_eq_true rfl) ?_)
 refine AW.regL [0, 3, 12, 13, 14] ?_
 generalize hK : AW Try.prog _ _ _ = K
 simp only [go_sem, ↓reduceIte, reduceCtorEq, Nat.reduceAdd, Nat.reduceSub, Nat.reduceMul, Nat.reduceEqDiff, Nat.reduceLT, Nat.reduceLeDiff]
 subst hK
 refine AW.block ?_
 refine AW.loopO (tmF yv a0) (fun y e st' => e = Exit.exit 0 ∧ st' = ⟨upd (upd anyF 3 (.own 1 0 y.length)) 0 yv, hpL [some (.row 1 true [[.val (.slice none 0 0)]]), some (.row 1 true (y.map encR))] [], 8⟩) hfill ?_ ?_ ?_
 ·unfold tmF
  dsimp only
  refine Ent.can [] [_, _] [] 8 rfl (by simp) rfl (((((RF.any.pv (by first | rfl | exact hyi | simp only [go_sem]) (by first | rfl | simp [upd_ap])).pv (by first | rfl | exact hyi | simp only [go_sem]) (by first | rfl | simp [upd_ap])).pv (by first | rfl | exact hyi | simp only [go_sem]) (by first | rfl | simp [upd_ap])).po (by decide) (by first | rfl | simp [upd_ap, tau])).pv (by first | rfl | exact hyi | simp only [go_sem]) (by first | rfl | simp [upd_ap])) ?_ (.nil _)
  exact .cons (.eq (by first | rfl | simp only [go_sem]) (by first | rfl | simp [upd_ap, hpL_ap, tau])) (.cons (.eq (by first | rfl | simp only [go_sem]) (by first | rfl | simp [upd_ap, hpL_ap, tau])) (.nil _))
 ·clear hfill
  rintro ⟨i, zs⟩ x h
  rw [f22_f] at h
  unfold tmF
  dsimp only
  by_cases c1 : i < (a0.length : Int)
  ·rw [if_pos c1] at h
   obtain ⟨y, hy, h⟩ := Option.bind_eq_some_iff.1 h
   obtain ⟨hya, hyb⟩ := ix_some.1 hy
   obtain ⟨z, hz, h⟩ := Option.bind_eq_some_iff.1 h
   obtain ⟨gu, hg, h⟩ := Option.bind_eq_some_iff.1 h
   have hg := guardO_some.1 hg
   obtain ⟨zi, hzi⟩ : ∃ zi, zs[i.toNat]? = some zi := ⟨_, List.getElem?_eq_getElem hg⟩
   obtain ⟨za, hza⟩ : ∃ za, encR zi = [za] := by cases zi <;> exact ⟨_, rfl⟩
   refine AW.regL [0, 3, 12, 13, 14, 15] ?_
   generalize hK : AW Try.prog _ _ _ = K
   simp only [go_sem, ↓reduceIte, reduceCtorEq, Nat.reduceAdd, Nat.reduceSub, Nat.reduceMul, Nat.reduceEqDiff, Nat.reduceLT, Nat.reduceLeDiff, eq_true c1]
   subst hK
   refine AW.seq ?_
   refine AW.ifBT rfl rfl ?_
   refine AW.skip ?_
   refine thenA_n ?_
   refine AW.seq ?_
   refine AW.block ?_
   refine AW.regL [0, 3, 4, 5, 12, 13, 14] ?_
   generalize hK : AW Try.prog _ _ _ = K
   simp only [go_sem, ↓reduceIte, reduceCtorEq, Nat.reduceAdd, Nat.reduceSub, Nat.reduceMul, Nat.reduceEqDiff, Nat.reduceLT, Nat.reduceLeDiff, natOf_le hya, hyb]
   subst hK
   refine AW.regionL [0,3,12,13,14] ?_
   generalize hK : inBlockA _ _ Exit.normal = K
   simp only [go_sem, ↓reduceIte, reduceCtorEq, Nat.reduceAdd, Nat.reduceSub, Nat.reduceMul, Nat.reduceEqDiff, Nat.reduceLT, Nat.reduceLeDiff, natOf_le hya, hyb, hg]
   refine arC.of (ok23 y z hz) Try.call23 ?_
   simp only [go_sem, ↓reduceIte, reduceCtorEq, Nat.reduceAdd, Nat.reduceSub, Nat.reduceMul, Nat.reduceEqDiff, Nat.reduceLT, Nat.reduceLeDiff, natOf_le hya, hyb, eq_true hg, hzi, hza]
   subst hK
   refine block_n ?_
   refine thenA_n ?_
   refine AW.regionL [0, 3, 12, 13, 14] ?_
   generalize hK : thenA _ _ Exit.normal = K
   simp only [go_sem, ↓reduceIte, reduceCtorEq, Nat.reduceAdd, Nat.reduceSub, Nat.reduceMul, Nat.reduceEqDiff, Nat.reduceLT, Nat.reduceLeDiff]
   subst hK
   refine thenA_n ?_
   refine ⟨_, (Option.some.inj h).symm, ?_⟩
   dsimp only
   refine Ent.can [] [_, _] [] 8 rfl (by simp) rfl (((((RF.any.pv (by first | rfl | exact hyi | simp only [go_sem]) (by first | rfl | simp [upd_ap])).pv (by first | rfl | exact hyi | simp only [go_sem]) (by first | rfl | simp [upd_ap])).pv (by first | rfl | exact hyi | simp only [go_sem]) (by first | rfl | simp [upd_ap])).po (by decide) (by first | rfl | simp [upd_ap, tau])).pv (by first | rfl | exact hyi | simp only [go_sem]) (by first | rfl | simp [upd_ap])) ?_ (.nil _)
   exact .cons (.eq (by first | rfl | simp only [go_sem]) (by first | rfl | simp [upd_ap, hpL_ap, tau])) (.cons (.eq (by first | rfl | simp only [go_sem]) (by first | rfl | simp [upd_ap, hpL_ap, tau, List.map_set, encR])) (.nil _))
  ·rw [if_neg c1] at h
   refine AW.regL [0, 3, 12, 13, 14, 15] ?_
   generalize hK : AW Try.prog _ _ _ = K
   simp only [go_sem, ↓reduceIte, reduceCtorEq, Nat.reduceAdd, Nat.reduceSub, Nat.reduceMul, Nat.reduceEqDiff, Nat.reduceLT, Nat.reduceLeDiff, eq_false c1]
   subst hK
   refine AW.seq ?_
   refine AW.ifBF rfl rfl ?_
   refine AW.exit ?_
   refine thenA_x ?_
   refine thenA_x ?_
   refine ⟨_, (Option.some.inj h).symm, _, ?_, rfl, rfl⟩
   refine Ent.can [] [_, _] [] 8 rfl (by simp) rfl ((RF.any.po (by decide) (by first | rfl | simp [upd_ap, tau])).pv (by first | rfl | exact hyi | simp only [go_sem]) (by first | rfl | simp [upd_ap])) ?_ (.nil _)
   exact .cons (.eq (by first | rfl | simp only [go_sem]) (by first | rfl | simp [upd_ap, hpL_ap, tau])) (.cons (.eq (by first | rfl | simp only [go_sem]) (by first | rfl | simp [upd_ap, hpL_ap, tau])) (.nil _))
 ·intro e st' hX
  obtain ⟨rfl, rfl⟩ := hX
  refine ⟨_, Ent.refl, ?_⟩
  refine block_x ?_
  refine thenA_n ?_
  subst hls
  rw [encR_some, List.length_map]
  show AWH Try.prog 76 H _ _ (tmB yv (ls, [], none))
  obtain ⟨n, hn⟩ := loopO_iff.1 hmain
  refine AWH.block ?_
  refine AWH.loop (fun k st => ∃ s, iterO f22_s k s = some r ∧ st = tmB yv s) n ⟨_, hn, rfl⟩ ?_
  rintro k _ ⟨⟨rest, d, t⟩, hk, rfl⟩
  obtain _ | k := k
  · cases hk
  simp only [iterO] at hk
  cases hs : f22_s (rest, d, t) with
  | none => rw [hs] at hk; cases hk
  | some x => ?_
  rw [hs] at hk
  rw [f22_s] at hs
  obtain ⟨b, hb, hs⟩ := Option.bind_eq_some_iff.1 hs
  have hn8 := nx8 t
  refine AWH.block ?_
  unfold tmB
  dsimp only
  refine AWH.seq (AWH.of hn8 ?_)
  refine AW.regionL [0, 3, 6] ?_
  generalize hK : thenA _ _ Exit.normal = K
  simp only [go_sem, ↓reduceIte, reduceCtorEq, Nat.reduceAdd, Nat.reduceSub, Nat.reduceMul, Nat.reduceEqDiff, Nat.reduceLT, Nat.reduceLeDiff]
  subst hK
  refine thenA_n ?_
  refine AWH.seq (AWH.of (Nat.le_trans hn8 (Nat.le_add_right _ _)) ?_)
  refine AW.regL [0, 3, 6, 25, 26, 27] ?_
  generalize hK : AW Try.prog _ _ _ = K
  simp only [go_sem, ↓reduceIte, reduceCtorEq, Nat.reduceAdd, Nat.reduceSub, Nat.reduceMul, Nat.reduceEqDiff, Nat.reduceLT, Nat.reduceLeDiff, hpS_1]
  subst hK
  refine AW.block ?_
  refine AW.loopO (fun s => ⟨(upd (upd (upd (upd (upd (upd anyF 27 (.val (.int .i64 s.1))) 26 (.val (.int .i64 (rest.length : Int)))) 25 (.own 1 0 rest.length)) 6 (.val (.int .i64 s.2))) 3 (.own 1 0 rest.length)) 0 yv), hpS rest d t, nxS t⟩) (fun z e st' => e = Exit.exit 4 ∧ st' = ⟨upd (upd (upd anyF 6 (.val (.int .i64 z))) 3 (.own 1 0 rest.length)) 0 yv, hpS rest d t, nxS t⟩) hb ?_ ?_ ?_
  ·exact low_S rest d t (((((((RFl.any.put (by first | exact tok1 | exact htyv _ | simp [tokL]) (by first | rfl | simp [upd_ap])).put (by first | exact tok1 | exact htyv _ | simp [tokL]) (by first | rfl | simp [upd_ap])).put (by first | exact tok1 | exact htyv _ | simp [tokL]) (by first | rfl | simp [upd_ap])).put (by first | exact tok1 | exact htyv _ | simp [tokL]) (by first | rfl | simp [upd_ap])).put (by first | exact tok1 | exact htyv _ | simp [tokL]) (by first | rfl | simp [upd_ap])).put (by first | exact tok1 | exact htyv _ | simp [tokL]) (by first | rfl | simp [upd_ap])))
  ·rintro ⟨i, bb⟩ x1 h1
   rw [f22_b] at h1
   dsimp only
   by_cases c1 : i < (rest.length : Int)
   ·rw [if_pos c1] at h1
    obtain ⟨y, hy, h1⟩ := Option.bind_eq_some_iff.1 h1
    obtain ⟨hya, hyb⟩ := ix_some.1 hy
    have hyl : i.toNat < rest.length := (List.getElem?_eq_some_iff.1 hyb).1
    refine AW.regL [0, 3, 6, 25, 26, 27, 28] ?_
    generalize hK : AW Try.prog _ _ _ = K
    simp only [go_sem, ↓reduceIte, reduceCtorEq, Nat.reduceAdd, Nat.reduceSub, Nat.reduceMul, Nat.reduceEqDiff, Nat.reduceLT, Nat.reduceLeDiff, eq_true c1]
    subst hK
    refine AW.seq ?_
    refine AW.ifBT rfl rfl ?_
    refine AW.skip ?_
    refine thenA_n ?_
    refine AW.seq ?_
    refine AW.block ?_
    refine AW.regL [0, 3, 6, 7, 8, 25, 26, 27] ?_
    generalize hK : AW Try.prog _ _ _ = K
    simp only [go_sem, ↓reduceIte, reduceCtorEq, Nat.reduceAdd, Nat.reduceSub, Nat.reduceMul, Nat.reduceEqDiff, Nat.reduceLT, Nat.reduceLeDiff, hpS_1, natOf_le hya, hyb, eq_true hyl]
    subst hK
    rcases y with _ | ⟨x0, xs0⟩
    ·refine AW.regdL [0, 3, 6, 7, 25, 26, 27, 52] [[], [0], [0, 1], [0, 1, 2], [0, 1, 2, 3], [0, 1, 2, 3, 4], [0, 1, 2, 3, 4, 5], [0, 1, 2, 3, 4, 5, 6], [0, 1, 2, 3, 4, 5, 6, 7], [0, 1, 2, 3, 4, 5, 6, 7, 8], [0, 1, 2, 3, 4, 5, 6, 7, 8, 9], [0, 1, 2, 3, 4, 5, 6], [0, 1, 2, 3, 4, 5, 6], [0, 1, 2, 3, 4, 5, 6, 11, 12], [0, 1, 2, 3, 4, 5, 6, 11, 12, 13], [0, 1, 2, 3, 4, 5, 6, 11, 12, 13, 14], [0, 1, 2, 3, 4, 5, 6, 11, 12, 13, 14, 15], [0, 1, 2, 3, 4, 5, 6, 11, 12, 13, 14, 15, 16], [0, 1, 2, 3, 4, 5, 6, 7, 8, 9, 10, 11, 12, 13, 14, 15, 16, 17], [0, 1, 2, 3, 4, 5, 6, 7, 8, 9, 10, 11, 12, 13, 14, 15, 16, 17, 18], [0, 1, 2, 3, 4, 5, 6, 7, 8, 9, 10, 11, 12, 13, 14, 15, 16, 17, 18, 19]] [0, 1, 2, 3, 4, 5, 6, 7, 8, 9, 10, 11, 12, 13, 14, 15, 16, 17, 18, 19, 20] noFt (fun _ _ _ h => by simp [noFt] at h) draws (by kernel_rfl) (by kernel_rfl) ?_
     generalize hK : AW Try.prog _ _ _ = K
     simp only [go_sem, ↓reduceIte, reduceCtorEq, Nat.reduceAdd, Nat.reduceSub, Nat.reduceMul, Nat.reduceEqDiff, Nat.reduceLT, Nat.reduceLeDiff, int_irr]
     subst hK
     refine AW.ifBF rfl (by first | rfl | assumption) ?_
     refine AW.skip ?_
     refine block_n ?_
     refine thenA_n ?_
     refine AW.regionL [0, 3, 6, 25, 26, 27] ?_
     generalize hK : thenA _ _ Exit.normal = K
     simp only [go_sem, ↓reduceIte, reduceCtorEq, Nat.reduceAdd, Nat.reduceSub, Nat.reduceMul, Nat.reduceEqDiff, Nat.reduceLT, Nat.reduceLeDiff]
     subst hK
     refine thenA_n ?_
     refine ⟨_, (Option.some.inj h1).symm, ?_⟩
     dsimp only
     exact low_S rest d t (((((((RFl.any.put (by first | exact tok1 | exact htyv _ | simp [tokL]) (by first | rfl | simp [upd_ap])).put (by first | exact tok1 | exact htyv _ | simp [tokL]) (by first | rfl | simp [upd_ap])).put (by first | exact tok1 | exact htyv _ | simp [tokL]) (by first | rfl | simp [upd_ap])).put (by first | exact tok1 | exact htyv _ | simp [tokL]) (by first | rfl | simp [upd_ap])).put (by first | exact tok1 | exact htyv _ | simp [tokL]) (by first | rfl | simp [upd_ap])).put (by first | exact tok1 | exact htyv _ | simp [tokL]) (by first | rfl | simp [upd_ap])))
    ·dsimp only at h1
     by_cases c2 : bb < 0
     ·rw [if_pos c2] at h1
      refine AW.regdL [0, 3, 6, 7, 25, 26, 27, 52] [[], [0], [0, 1], [0, 1, 2], [0, 1, 2, 3], [0, 1, 2, 3, 4], [0, 1, 2, 3, 4, 5], [0, 1, 2, 3, 4, 5, 6], [0, 1, 2, 3, 4, 5, 6, 7], [0, 1, 2, 3, 4, 5, 6, 7, 8], [0, 1, 2, 3, 4, 5, 6, 7, 8, 9], [0, 1, 2, 3, 4, 5, 6], [0, 1, 2, 3, 4, 5, 6], [0, 1, 2, 3, 4, 5, 6, 11, 12], [0, 1, 2, 3, 4, 5, 6, 11, 12, 13], [0, 1, 2, 3, 4, 5, 6, 11, 12, 13, 14], [0, 1, 2, 3, 4, 5, 6, 11, 12, 13, 14, 15], [0, 1, 2, 3, 4, 5, 6, 11, 12, 13, 14, 15, 16], [0, 1, 2, 3, 4, 5, 6, 7, 8, 9, 10, 11, 12, 13, 14, 15, 16, 17], [0, 1, 2, 3, 4, 5, 6, 7, 8, 9, 10, 11, 12, 13, 14, 15, 16, 17, 18], [0, 1, 2, 3, 4, 5, 6, 7, 8, 9, 10, 11, 12, 13, 14, 15, 16, 17, 18, 19]] [0, 1, 2, 3, 4, 5, 6, 7, 8, 9, 10, 11, 12, 13, 14, 15, 16, 17, 18, 19, 20] noFt (fun _ _ _ h => by simp [noFt] at h) draws (by kernel_rfl) (by kernel_rfl) ?_
      generalize hK : AW Try.prog _ _ _ = K
      simp only [go_sem, ↓reduceIte, reduceCtorEq, Nat.reduceAdd, Nat.reduceSub, Nat.reduceMul, Nat.reduceEqDiff, Nat.reduceLT, Nat.reduceLeDiff, eq_true c2, nat_pos]
      subst hK
      refine AW.ifBT rfl (by first | rfl | assumption) ?_
      refine AW.regionL [0, 3, 6, 25, 26, 27] ?_
      generalize hK : inBlockA _ _ Exit.normal = K
      simp only [go_sem, ↓reduceIte, reduceCtorEq, Nat.reduceAdd, Nat.reduceSub, Nat.reduceMul, Nat.reduceEqDiff, Nat.reduceLT, Nat.reduceLeDiff]
      subst hK
      refine block_n ?_
      refine thenA_n ?_
      refine AW.regionL [0, 3, 6, 25, 26, 27] ?_
      generalize hK : thenA _ _ Exit.normal = K
      simp only [go_sem, ↓reduceIte, reduceCtorEq, Nat.reduceAdd, Nat.reduceSub, Nat.reduceMul, Nat.reduceEqDiff, Nat.reduceLT, Nat.reduceLeDiff]
      subst hK
      refine thenA_n ?_
      refine ⟨_, (Option.some.inj h1).symm, ?_⟩
      dsimp only
      exact low_S rest d t (((((((RFl.any.put (by first | exact tok1 | exact htyv _ | simp [tokL]) (by first | rfl | simp [upd_ap])).put (by first | exact tok1 | exact htyv _ | simp [tokL]) (by first | rfl | simp [upd_ap])).put (by first | exact tok1 | exact htyv _ | simp [tokL]) (by first | rfl | simp [upd_ap])).put (by first | exact tok1 | exact htyv _ | simp [tokL]) (by first | rfl | simp [upd_ap])).put (by first | exact tok1 | exact htyv _ | simp [tokL]) (by first | rfl | simp [upd_ap])).put (by first | exact tok1 | exact htyv _ | simp [tokL]) (by first | rfl | simp [upd_ap])))
     ·rw [if_neg c2] at h1
      obtain ⟨z, hz, h1⟩ := Option.bind_eq_some_iff.1 h1
      obtain ⟨hza, hzb⟩ := ix_some.1 hz
      have hzl : bb.toNat < rest.length := (List.getElem?_eq_some_iff.1 hzb).1
      rcases z with _ | ⟨z0, zs0⟩
      · cases h1
      dsimp only at h1
      cases c3 : sLt x0.Key z0.Key
      ·rw [if_neg (by rw [c3]; simp)] at h1
       refine AW.regdL [0, 3, 6, 7, 25, 26, 27, 52] [[], [0], [0, 1], [0, 1, 2], [0, 1, 2, 3], [0, 1, 2, 3, 4], [0, 1, 2, 3, 4, 5], [0, 1, 2, 3, 4, 5, 6], [0, 1, 2, 3, 4, 5, 6, 7], [0, 1, 2, 3, 4, 5, 6, 7, 8], [0, 1, 2, 3, 4, 5, 6, 7, 8, 9], [0, 1, 2, 3, 4, 5, 6], [0, 1, 2, 3, 4, 5, 6], [0, 1, 2, 3, 4, 5, 6, 11, 12], [0, 1, 2, 3, 4, 5, 6, 11, 12, 13], [0, 1, 2, 3, 4, 5, 6, 11, 12, 13, 14], [0, 1, 2, 3, 4, 5, 6, 11, 12, 13, 14, 15], [0, 1, 2, 3, 4, 5, 6, 11, 12, 13, 14, 15, 16], [0, 1, 2, 3, 4, 5, 6, 7, 8, 9, 10, 11, 12, 13, 14, 15, 16, 17], [0, 1, 2, 3, 4, 5, 6, 7, 8, 9, 10, 11, 12, 13, 14, 15, 16, 17, 18], [0, 1, 2, 3, 4, 5, 6, 7, 8, 9, 10, 11, 12, 13, 14, 15, 16, 17, 18, 19]] [0, 1, 2, 3, 4, 5, 6, 7, 8, 9, 10, 11, 12, 13, 14, 15, 16, 17, 18, 19, 20] noFt (fun _ _ _ h => by simp [noFt] at h) draws (by kernel_rfl) (by kernel_rfl) ?_
       generalize hK : AW Try.prog _ _ _ = K
       simp only [go_sem, ↓reduceIte, reduceCtorEq, Nat.reduceAdd, Nat.reduceSub, Nat.reduceMul, Nat.reduceEqDiff, Nat.reduceLT, Nat.reduceLeDiff, hpS_1, eq_false c2, nat_pos, natOf_le hza, hzb, eq_true hzl, c3]
       subst hK
       refine AW.ifBF rfl (by first | rfl | assumption) ?_
       refine AW.skip ?_
       refine block_n ?_
       refine thenA_n ?_
       refine AW.regionL [0, 3, 6, 25, 26, 27] ?_
       generalize hK : thenA _ _ Exit.normal = K
       simp only [go_sem, ↓reduceIte, reduceCtorEq, Nat.reduceAdd, Nat.reduceSub, Nat.reduceMul, Nat.reduceEqDiff, Nat.reduceLT, Nat.reduceLeDiff]
       subst hK
       refine thenA_n ?_
       refine ⟨_, (Option.some.inj h1).symm, ?_⟩
       dsimp only
       exact low_S rest d t (((((((RFl.any.put (by first | exact tok1 | exact htyv _ | simp [tokL]) (by first | rfl | simp [upd_ap])).put (by first | exact tok1 | exact htyv _ | simp [tokL]) (by first | rfl | simp [upd_ap])).put (by first | exact tok1 | exact htyv _ | simp [tokL]) (by first | rfl | simp [upd_ap])).put (by first | exact tok1 | exact htyv _ | simp [tokL]) (by first | rfl | simp [upd_ap])).put (by first | exact tok1 | exact htyv _ | simp [tokL]) (by first | rfl | simp [upd_ap])).put (by first | exact tok1 | exact htyv _ | simp [tokL]) (by first | rfl | simp [upd_ap])))
      ·rw [if_pos c3] at h1
       refine AW.regdL [0, 3, 6, 7, 25, 26, 27, 52] [[], [0], [0, 1], [0, 1, 2], [0, 1, 2, 3], [0, 1, 2, 3, 4], [0, 1, 2, 3, 4, 5], [0, 1, 2, 3, 4, 5, 6], [0, 1, 2, 3, 4, 5, 6, 7], [0, 1, 2, 3, 4, 5, 6, 7, 8], [0, 1, 2, 3, 4, 5, 6, 7, 8, 9], [0, 1, 2, 3, 4, 5, 6], [0, 1, 2, 3, 4, 5, 6], [0, 1, 2, 3, 4, 5, 6, 11, 12], [0, 1, 2, 3, 4, 5, 6, 11, 12, 13], [0, 1, 2, 3, 4, 5, 6, 11, 12, 13, 14], [0, 1, 2, 3, 4, 5, 6, 11, 12, 13, 14, 15], [0, 1, 2, 3, 4, 5, 6, 11, 12, 13, 14, 15, 16], [0, 1, 2, 3, 4, 5, 6, 7, 8, 9, 10, 11, 12, 13, 14, 15, 16, 17], [0, 1, 2, 3, 4, 5, 6, 7, 8, 9, 10, 11, 12, 13, 14, 15, 16, 17, 18], [0, 1, 2, 3, 4, 5, 6, 7, 8, 9, 10, 11, 12, 13, 14, 15, 16, 17, 18, 19]] [0, 1, 2, 3, 4, 5, 6, 7, 8, 9, 10, 11, 12, 13, 14, 15, 16, 17, 18, 19, 20] noFt (fun _ _ _ h => by simp [noFt] at h) draws (by kernel_rfl) (by kernel_rfl) ?_
       generalize hK : AW Try.prog _ _ _ = K
       simp only [go_sem, ↓reduceIte, reduceCtorEq, Nat.reduceAdd, Nat.reduceSub, Nat.reduceMul, Nat.reduceEqDiff, Nat.reduceLT, Nat.reduceLeDiff, hpS_1, eq_false c2, nat_pos, natOf_le hza, hzb, eq_true hzl, c3]
       subst hK
       refine AW.ifBT rfl (by first | rfl | assumption) ?_
       refine AW.regionL [0, 3, 6, 25, 26, 27] ?_
       generalize hK : inBlockA _ _ Exit.normal = K
       simp only [go_sem, ↓reduceIte, reduceCtorEq, Nat.reduceAdd, Nat.reduceSub, Nat.reduceMul, Nat.reduceEqDiff, Nat.reduceLT, Nat.reduceLeDiff]
       subst hK
       refine block_n ?_
       refine thenA_n ?_
       refine AW.regionL [0, 3, 6, 25, 26, 27] ?_
       generalize hK : thenA _ _ Exit.normal = K
       simp only [go_sem, ↓reduceIte, reduceCtorEq, Nat.reduceAdd, Nat.reduceSub, Nat.reduceMul, Nat.reduceEqDiff, Nat.reduceLT, Nat.reduceLeDiff]
       subst hK
       refine thenA_n ?_
       refine ⟨_, (Option.some.inj h1).symm, ?_⟩
       dsimp only
       exact low_S rest d t (((((((RFl.any.put (by first | exact tok1 | exact htyv _ | simp [tokL]) (by first | rfl | simp [upd_ap])).put (by first | exact tok1 | exact htyv _ | simp [tokL]) (by first | rfl | simp [upd_ap])).put (by first | exact tok1 | exact htyv _ | simp [tokL]) (by first | rfl | simp [upd_ap])).put (by first | exact tok1 | exact htyv _ | simp [tokL]) (by first | rfl | simp [upd_ap])).put (by first | exact tok1 | exact htyv _ | simp [tokL]) (by first | rfl | simp [upd_ap])).put (by first | exact tok1 | exact htyv _ | simp [tokL]) (by first | rfl | simp [upd_ap])))
   ·rw [if_neg c1] at h1
    refine AW.regL [0, 3, 6, 25, 26, 27, 28] ?_
    generalize hK : AW Try.prog _ _ _ = K
    simp only [go_sem, ↓reduceIte, reduceCtorEq, Nat.reduceAdd, Nat.reduceSub, Nat.reduceMul, Nat.reduceEqDiff, Nat.reduceLT, Nat.reduceLeDiff, eq_false c1]
    subst hK
    refine AW.seq ?_
    refine AW.ifBF rfl rfl ?_
    refine AW.exit ?_
    refine thenA_x ?_
    refine thenA_x ?_
    refine ⟨_, (Option.some.inj h1).symm, _, ?_, rfl, rfl⟩
    exact low_S rest d t ((((RFl.any.put (by first | exact tok1 | exact htyv _ | simp [tokL]) (by first | rfl | simp [upd_ap])).put (by first | exact tok1 | exact htyv _ | simp [tokL]) (by first | rfl | simp [upd_ap])).put (by first | exact tok1 | exact htyv _ | simp [tokL]) (by first | rfl | simp [upd_ap])))
  ·intro e st' hX
   obtain ⟨rfl, rfl⟩ := hX
   refine ⟨_, Ent.refl, ?_⟩
   refine block_x ?_
   refine thenA_n ?_
   by_cases c4 : b < 0
   ·rw [if_pos c4] at hs
    obtain rfl := Option.some.inj hs
    obtain rfl := Option.some.inj hk
    refine AWH.seq (AWH.seq (AWH.of hn8 ?_))
    refine AW.regionL [67] ?_
    generalize hK : thenA _ _ Exit.normal = K
    simp only [go_sem, ↓reduceIte, reduceCtorEq, Nat.reduceAdd, Nat.reduceSub, Nat.reduceMul, Nat.reduceEqDiff, Nat.reduceLT, Nat.reduceLeDiff, eq_true c4]
    subst hK
    refine thenA_n ?_
    refine AWH.cond (b := true) rfl ?_
    refine AWH.of (by dsimp only; omega) ?_
    refine AW.ret ?_
    exact (show (Exit.ret = Exit.normal ∨ Exit.ret = Exit.ret) ∧ hpS rest d t = hpS rest d t ∧ nxS t ≤ nxS t + 8 + 8 + 8 + 8 + 8 + 8 + 8 + 8 + 8 + 8 + 8 + 8 + 8 from ⟨.inr rfl, rfl, by omega⟩)
   ·rw [if_neg c4] at hs
    obtain ⟨y, hy, hs⟩ := Option.bind_eq_some_iff.1 hs
    obtain ⟨hya, hyb⟩ := ix_some.1 hy
    have hyl : b.toNat < rest.length := (List.getElem?_eq_some_iff.1 hyb).1
    rcases y with _ | ⟨y0, ys⟩
    · cases hs
    dsimp only at hs
    obtain ⟨⟨d', t'⟩, hq, hs⟩ := Option.bind_eq_some_iff.1 hs
    obtain rfl := Option.some.inj hs
    dsimp only at hk
    refine AWH.seq (AWH.seq (AWH.yield 10 rfl rfl rfl hn8 (by decide) (by rw [hHp, hsz]; decide) ?_))
    generalize hK : YK _ _ _ _ _ _ _ _ _ _ = K
    simp only [go_sem, ↓reduceIte, reduceCtorEq, Nat.reduceAdd, Nat.reduceSub, Nat.reduceMul, Nat.reduceEqDiff, Nat.reduceLT, Nat.reduceLeDiff, eq_false c4, hpS_1, natOf_le hya, hyb, eq_true hyl]
    subst hK
    refine ⟨by dsimp only; omega, rfl, by simp [upd_ap, hyv], ?_, ?_⟩
    · show ∀ q, tokL 8 (upd _ _ _ q) = true
      repeat' (first | exact tok_any | apply tok_upd)
      all_goals first | exact htyv _ | (simp [tokL, tokLL, inlR, inlL, go_sem]; done)
    rw [hsz, hHfr, hHp]
    refine AW.ent (low_S rest d t (fr' := upd (upd anyF 3 (.ptr 0 0 0)) 8 (.agg (encItem y0))) ((RFl.any.put (by simp [tokL]; omega) (by simp [upd_ap])).put (by simp [tokL, tokLL, go_sem]) (by simp [upd_ap, encItem]))) ?_
    refine (body_aw H.assign H.body hcode rest d d' t t' y0 hq).mono ?_
    rintro e s1 ⟨he, h8, hbody⟩
    refine ⟨s1, Ent.refl, he, h8, hbody.mono ?_⟩
    rintro e s2 ⟨he, hhp, hnx⟩
    refine ⟨s2, Ent.refl, he, by rw [hnx]; exact nx8 t', ?_⟩
    rw [hhp, hnx]
    clear hhp hnx hbody
    have hn8' := nx8 t'
    have hcut : ∀ (hp : AHeap), cutS Try.prog hp 22 (.sl ([.val (.string y0.Key), .sl (List.map encPart y0.Parts), .sl (List.map enc3 y0.Offs)] :: List.map encItem ys)) (some (.val (.int .i64 1))) none = some (.sl (List.map encItem ys)) := fun hp => cut_tail el22 sz33 (fun r hr => by
      have := ml_encItem (y0 :: ys)
      exact (of_eq_true this) r (by simpa [encItem] using hr))
    generalize hK : thenA _ _ Exit.normal = K
    simp only [go_sem, ↓reduceIte, reduceCtorEq, Nat.reduceAdd, Nat.reduceSub, Nat.reduceMul, Nat.reduceEqDiff, Nat.reduceLT, Nat.reduceLeDiff, eq_false c4]
    subst hK
    refine thenA_n ?_
    refine AWH.cond (b := false) rfl ?_
    refine AWH.of (by dsimp only; omega) ?_
    refine AW.skip ?_
    refine thenA_n ?_
    refine AWH.of (by dsimp only; omega) ?_
    refine AW.mono (Q := fun e s => e = .normal ∧ ∃ s', Ent 76 s s' ∧ s' = tmB yv (rest.set b.toNat ys, d', t')) ?_ ?_
    · refine AW.regionL [0, 3] ?_
      generalize hK : (fun (st' : ASt) => _) = K
      simp only [go_sem, ↓reduceIte, reduceCtorEq, Nat.reduceAdd, Nat.reduceSub, Nat.reduceMul, Nat.reduceEqDiff, Nat.reduceLT, Nat.reduceLeDiff, hpS_1, natOf_le hya, hyb, eq_true hyl, hcut, hpS_set]
      subst hK
      refine ⟨rfl, _, ?_, rfl⟩
      unfold tmB
      exact low_S (rest.set b.toNat ys) d' t' ((RFl.any.put (by first | exact tok1 | exact htyv _ | simp [tokL]) (by first | rfl | simp [restr_cons, restr_nil, upd_ap])).put (by first | exact tok1 | exact htyv _ | simp [tokL]) (by first | rfl | simp [restr_cons, restr_nil, upd_ap]))
    · rintro e s ⟨rfl, s', hE, rfl⟩
      exact ⟨_, hE, k, Nat.lt_succ_self k, _, hk, rfl⟩
end Au
end Go.Proofs.Y5

set_option linter.all false
set_option maxRecDepth 8000
set_option maxHeartbeats 1000000
namespace Go.Proofs.Y5
open Go.Gm
namespace Au
noncomputable def f15 (a0 : List (List Item)) : Option (List (List Item)) := some a0
theorem ok15 (a0 : List (List Item)) (r : (List (List Item))) (h : f15 a0 = some r) : PC Try.prog 15 [.sl (List.map enc22 a0)] (.clo (.func 22) [] [.ip [.sl (List.map enc22 r)]]) := by
 rw [f15] at h
 refine pc_of8 (N := 4) (rs := [.tmp 2]) Try.func15 rfl rfl rfl (Nat.le_of_ble_eq_true rfl) ?_
 refine AW.regL [1] ?_
 generalize hK : AW Try.prog _ _ _ = K
 simp only [go_sem, ↓reduceIte, reduceCtorEq, Nat.reduceAdd, Nat.reduceSub, Nat.reduceMul, Nat.reduceEqDiff, Nat.reduceLT, Nat.reduceLeDiff]
 subst hK
 refine AW.ent (Ent.stillPtr 1 rfl (by first | rfl | simp [upd_ap]) (by first | rfl | simp only [go_sem]) (by simp)) ?_
 refine AW.regL [2] ?_
 generalize hK : AW Try.prog _ _ _ = K
 simp only [go_sem, ↓reduceIte, reduceCtorEq, Nat.reduceAdd, Nat.reduceSub, Nat.reduceMul, Nat.reduceEqDiff, Nat.reduceLT, Nat.reduceLeDiff]
 subst hK
 refine AW.ret ?_
 obtain rfl := Option.some.inj h
 (simp only [go_sem, ↓reduceIte, reduceCtorEq, Nat.reduceAdd, Nat.reduceSub, Nat.reduceMul, Nat.reduceEqDiff, Nat.reduceLT, Nat.reduceLeDiff, finA] <;> try simp)
end Au
end Go.Proofs.Y5

set_option linter.all false
set_option maxRecDepth 8000
set_option maxHeartbeats 1000000
namespace Go.Proofs.Y5
open Go.Gm
namespace Au
def aout (d : List Item) : Option Item → List Item
  | none => []
  | some y => d ++ [y]
noncomputable def f9 (a0 : List (List Item)) : Option (List Item) := (guardO (a0.length ≤ 1000000)).bind fun _ => (loopO (f22_f a0) (0, List.replicate a0.length none)).bind fun xs => (xs.mapM id).bind fun ls => (loopO f22_s (ls, [], none)).bind fun r => some (aout r.2.1 r.2.2)
theorem mapM_id {α : Type} : ∀ {xs : List (Option α)} {ls : List α}, xs.mapM id = some ls → xs = ls.map some
  | [], ls, h => by simp at h; subst h; rfl
  | x :: xs, ls, h => by
    rw [List.mapM_cons] at h
    obtain ⟨y, hy, h⟩ := Option.bind_eq_some_iff.1 h
    obtain ⟨l, hl, h⟩ := Option.bind_eq_some_iff.1 h
    obtain rfl := Option.some.inj h
    have hy : x = some y := hy
    rw [mapM_id hl, hy]; rfl
theorem hpS_0 (rest : List (List Item)) (d : List Item) (t : Option Item) : hpS rest d t 0 = some (.row 1 true [[outv d t]]) := rfl
theorem hpS_8 (rest : List (List Item)) (d : List Item) (y : Item) : hpS rest d (some y) 8 = some (.row 3 true (d.map encItem ++ [[.val (.string y.Key), .own 9 0 y.Parts.length, .sl (y.Offs.map enc3)]])) := rfl
theorem hpS_9 (rest : List (List Item)) (d : List Item) (y : Item) : hpS rest d (some y) 9 = some (.row 4 true (y.Parts.map encPart)) := rfl
theorem ok9 (a0 : List (List Item)) (r0 : List Item) (h : f9 a0 = some r0) : PC Try.prog 9 [.sl (a0.map enc22)] (.fr 3 (r0.map encItem)) := by
 obtain ⟨gu, hg, h⟩ := Option.bind_eq_some_iff.1 h
 have hg := guardO_some.1 hg
 obtain ⟨xs, hfill, h⟩ := Option.bind_eq_some_iff.1 h
 obtain ⟨ls, hls, h⟩ := Option.bind_eq_some_iff.1 h
 obtain ⟨⟨rest, d, t⟩, hmain, h⟩ := Option.bind_eq_some_iff.1 h
 obtain rfl := Option.some.inj h
 have hls := mapM_id hls
 dsimp only
 refine pc_of_marks (N := 57) (rs := [.tmp 2]) Try.func9 rfl rfl rfl (Nat.le_of_ble_eq_true rfl) fun G hn0 => ?_
 refine Cont.reg [0] ?_
 generalize hK : Cont G _ _ _ = K
 simp only [go_sem, ↓reduceIte, reduceCtorEq, Nat.reduceAdd, Nat.reduceSub, Nat.reduceMul, Nat.reduceEqDiff, Nat.reduceLT, Nat.reduceLeDiff]
 subst hK
 refine Cont.reg [0, 3] ?_
 generalize hK : Cont G _ _ _ = K
 simp only [go_sem, ↓reduceIte, reduceCtorEq, Nat.reduceAdd, Nat.reduceSub, Nat.reduceMul, Nat.reduceEqDiff, Nat.reduceLT, Nat.reduceLeDiff]
 subst hK
 refine Cont.seq ?_
 refine Cont.reg [3, 7] ?_
 generalize hK : Cont G _ _ _ = K
 simp only [go_sem, ↓reduceIte, reduceCtorEq, Nat.reduceAdd, Nat.reduceSub, Nat.reduceMul, Nat.reduceEqDiff, Nat.reduceLT, Nat.reduceLeDiff]
 refine arC.of (ok15 a0 a0 rfl) Try.call15 ?_
 simp only [go_sem, ↓reduceIte, reduceCtorEq, Nat.reduceAdd, Nat.reduceSub, Nat.reduceMul, Nat.reduceEqDiff, Nat.reduceLT, Nat.reduceLeDiff]
 subst hK
 refine Cont.ren (st' := ⟨upd (upd anyF 7 (.clo (.func 22) [] [.ip [.sl (a0.map enc22)]])) 3 (.ptr 0 0 0), hpL [some (.row 1 true [[.val (.slice none 0 0)]])] [], 8⟩) hn0 (fun t => if t = 0 then 16 else t) ?_ ?_ ?_ ?_ ?_
 · intro i j (hi : i < 8) (hj : j < 8) _ _ (h : (if i = 0 then 16 else i) = (if j = 0 then 16 else j))
   split at h <;> split at h <;> omega
 · intro t (ht : t < 8)
   obtain _ | t := t
   · exact ORen.eq rfl (by simp [upd_ap, hpL_ap])
   · have : hpL [some (.row 1 true [[.val (.slice none 0 0)]])] [] (t + 1) = none := by simp [hpL_ap]
     show ORen _ _ _ (hpL _ _ (t + 1))
     rw [this]; exact .none _
 · intro t (ht : 8 ≤ t)
   simp [hpL_ap, show ¬ t < 8 by omega]
 · exact (RF.any.put (by simp [tokL, tokLL, go_sem]) (.of (by simp [upd_ap, mapT, mapTL]))).pp (Nat.le_of_ble_eq_true rfl) (by simp [upd_ap])
 refine Cont.block ?_
 intro a w hc
 have hc0 : a.defers = [] := hc.1
 have hcs : a.tmps.size = 57 := hc.2.1
 refine range_wp (gf := 22) (fg := Try.f22) (caps := [.ip [.sl (a0.map enc22)]]) (K := fun hp nx => hp = hpS rest d t ∧ nxS t ≤ nx) hc rfl Try.func22 rfl Try.call22 rfl (by decide) (tok_upd (tok_upd tok_any (by simp [tokL, tokLL, go_sem])) (by simp [tokL])) (Nat.le_of_ble_eq_true rfl) (Nat.le_of_ble_eq_true rfl) hn0 (fun H h1 h2 h3 h4 h5 => ?_) ?_
 · exact heads_aw a0 xs ls (rest, d, t) hfill hls hmain (by omega) H h1 (by rw [h2, h3]; rfl) h4 h5 _ rfl
 · rintro D hp' nx' loc' w' ⟨rfl, hnx⟩ hD hGD hB hH hr
   have hn8 := nx8 t
   refine tail_wp (N := 57) (st := ⟨upd (upd anyF 7 (.clo (.func 22) [] [.ip [.sl (a0.map enc22)]])) 3 (.ptr 0 0 0), hpS rest d t, nx'⟩) (by rw [hc0]; rfl) hD hGD hB hH hr (by dsimp only; omega) hcs [2] ?_
   generalize hK : (fun (s : ASt) => _) = K
   rcases t with _ | y
   · show arun Try.prog 57 _ _ ⟨_, hpS rest d none, nx'⟩ K
     simp only [go_sem, ↓reduceIte, reduceCtorEq, Nat.reduceAdd, Nat.reduceSub, Nat.reduceMul, Nat.reduceEqDiff, Nat.reduceLT, Nat.reduceLeDiff, hpS_0, outv]
     subst hK
     refine RetK.ent (Ent.nilOwn 2 3 (by decide) (by simp [restr_cons, restr_nil, upd_ap])) ?_
     refine RetK.fin ?_
     exact fin_own (k := nx' + 8 + 8) (n := 0) (sz := 3) (rows := []) (.inl rfl) (by simp [upd_ap]) (by simp [upd_ap]) rfl rfl rfl
   · show arun Try.prog 57 _ _ ⟨_, hpS rest d (some y), nx'⟩ K
     simp only [go_sem, ↓reduceIte, reduceCtorEq, Nat.reduceAdd, Nat.reduceSub, Nat.reduceMul, Nat.reduceEqDiff, Nat.reduceLT, Nat.reduceLeDiff, hpS_0, outv]
     subst hK
     refine RetK.ent (Ent.stillRow (sz := 3) (mu := true) (R1 := d.map encItem) (R2 := []) (pre := [.val (.string y.Key)]) (post := [.sl (List.map enc3 y.Offs)]) (q := 9) (off := 0) (len := y.Parts.length) 8 (by simp [hpS_8]) (own_sl (sz := 4) (m := true) (hpS_9 rest d y) (by simp) (by simp only [go_sem])) (by decide)) ?_
     refine RetK.fin ?_
     exact fin_own (k := 8) (n := d.length + 1) (sz := 3) (rows := (d ++ [y]).map encItem) (.inl rfl) (by simp [restr_cons, restr_nil, upd_ap]) (by simp [upd_ap, encItem]) (by simp) (by simp only [go_sem]) (by simp [aout])
end Au
end Go.Proofs.Y5
