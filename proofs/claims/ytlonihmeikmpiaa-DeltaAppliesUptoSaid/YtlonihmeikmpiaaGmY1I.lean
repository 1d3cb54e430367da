import Derived.Test.YtlonihmeikmpiaaGmY1H
set_option linter.all false
set_option linter.unusedVariables false
set_option linter.unusedSimpArgs false
set_option linter.unusedSimpArgs false
set_option linter.unusedVariables false
set_option maxRecDepth 8000
namespace Go.Proofs.Y1
open Go.Gm
def cost (r : Res) : Nat := r.key.size + r.val.size + 4 * r.offs.length
def total (l : List Res) (i : Nat) : Nat := ((l.take i).map cost).sum
theorem total_next {l : List Res} {i : Nat} {x : Res} (hx : l[i]? = some x) : total l (i + 1) = total l i + cost x := by
  unfold total; rw [List.take_add_one, hx]; simp
def Much (l : List Res) : Prop := 40 < l.length ∨ ∃ i, i ≤ 40 ∧ 1000 < total l i
def Sane (l : List Res) : Prop := ∀ r ∈ l, r.key.size ≤ 1152921504606846976 ∧ r.val.size ≤ 1152921504606846976 ∧ r.offs.length ≤ 1152921504606846976
open Classical in
theorem w13 (l : List Res) (hl : l.length ≤ 1152921504606846976) (hs : Sane l) : PC Try.prog 13 [encL l] (B (decide (Much l))) := by
  refine pc_of (N := 43) (rs := [.tmp 2]) Try.func13 rfl rfl rfl (Nat.le_of_ble_eq_true rfl) ?_
  refine AW.reg ?_
  generalize hK : AW Try.prog _ _ _ = K
  simp only [go_sem, ↓reduceIte, reduceCtorEq, Nat.reduceAdd, Nat.reduceSub, Nat.reduceMul, Nat.reduceEqDiff, Nat.reduceLT, Nat.reduceLeDiff, Nat.reduceBEq, Int.reduceAdd, Int.reduceSub, Int.reduceLT, Int.reduceLE, Int.reduceEq, Int.reduceToNat, ag9, ag33, el22, el33, fl35_0, fl35_1, fl35_2, st9, sz9, sz33, sz35, encRes, encL, encI, List.length_map]
  subst hK
  refine AW.reg ?_
  generalize hK : AW Try.prog _ _ _ = K
  simp only [go_sem, ↓reduceIte, reduceCtorEq, Nat.reduceAdd, Nat.reduceSub, Nat.reduceMul, Nat.reduceEqDiff, Nat.reduceLT, Nat.reduceLeDiff, Nat.reduceBEq, Int.reduceAdd, Int.reduceSub, Int.reduceLT, Int.reduceLE, Int.reduceEq, Int.reduceToNat, ag9, ag33, el22, el33, fl35_0, fl35_1, fl35_2, st9, sz9, sz33, sz35, encRes, encL, encI, List.length_map]
  subst hK
  refine AW.seq ?_
  refine AW.reg ?_
  generalize hK : AW Try.prog _ _ _ = K
  simp only [go_sem, ↓reduceIte, reduceCtorEq, Nat.reduceAdd, Nat.reduceSub, Nat.reduceMul, Nat.reduceEqDiff, Nat.reduceLT, Nat.reduceLeDiff, Nat.reduceBEq, Int.reduceAdd, Int.reduceSub, Int.reduceLT, Int.reduceLE, Int.reduceEq, Int.reduceToNat, ag9, ag33, el22, el33, fl35_0, fl35_1, fl35_2, st9, sz9, sz33, sz35, encRes, encL, encI, List.length_map]
  subst hK
  refine AW.block ?_
  refine AW.loop (fun k st => ∃ i nx, (0 ≤ k) ∧ (i + k = 40) ∧ (i ≤ l.length) ∧ (∀ j, j ≤ i → total l j ≤ 1000) ∧ st = ⟨(upd (upd (upd anyF 0 (encL l)) 3 (I (total l i : Nat))) 4 (I (i : Int))), fun _ => none, nx⟩) (40) _ (Ent.st (.put' (.put' (.put' .any rfl) rfl) rfl) .refl (Nat.le_refl _)) ⟨0, _, Nat.zero_le _, by omega, by omega, fun j hj => by rw [Nat.le_zero.1 hj]; simp [total], rfl⟩ ?_
  rintro k _ ⟨i, nx, _, hk, hi40, hp, rfl⟩
  refine AW.seq ?_
  by_cases hi : i < l.length
  · have hi' : ((i : Int) < (l.length : Int)) = True := eq_true (by omega)
    refine AW.reg ?_
    generalize hK : AW Try.prog _ _ _ = K
    simp only [go_sem, ↓reduceIte, reduceCtorEq, Nat.reduceAdd, Nat.reduceSub, Nat.reduceMul, Nat.reduceEqDiff, Nat.reduceLT, Nat.reduceLeDiff, Nat.reduceBEq, Int.reduceAdd, Int.reduceSub, Int.reduceLT, Int.reduceLE, Int.reduceEq, Int.reduceToNat, ag9, ag33, el22, el33, fl35_0, fl35_1, fl35_2, st9, sz9, sz33, sz35, encRes, encL, encI, List.length_map, hi']
    subst hK
    refine AW.if rfl (fun hc12 => ?_) (fun hc12 => ?_)
    · have h40 : i < 40 := by simp at hc12; omega
      obtain ⟨x, hx⟩ : ∃ x, l[i]? = some x := ⟨l[i], by simp [hi]⟩
      obtain ⟨s1, s2, s3⟩ := hs x (List.mem_of_getElem? hx)
      have hti := hp i (Nat.le_refl _)
      have e1 : IntKind.i64.wrap (((total l i : Nat) : Int) + (x.key.size : Int)) = ((total l i + x.key.size : Nat) : Int) := by rw [wrap_id] <;> omega
      have e2 : IntKind.i64.wrap (((total l i + x.key.size : Nat) : Int) + (x.val.size : Int)) = ((total l i + x.key.size + x.val.size : Nat) : Int) := by rw [wrap_id] <;> omega
      have e3 : IntKind.i64.wrap ((4 : Int) * (x.offs.length : Int)) = ((4 * x.offs.length : Nat) : Int) := by rw [wrap_id] <;> omega
      have e4 : IntKind.i64.wrap (((total l i + x.key.size + x.val.size : Nat) : Int) + ((4 * x.offs.length : Nat) : Int)) = ((total l (i + 1) : Nat) : Int) := by rw [wrap_id, total_next hx] <;> (try unfold cost) <;> omega
      refine AW.skip ?_
      refine thenA_n ?_
      refine AW.seq ?_
      refine AW.block ?_
      refine AW.regd [[], [], [], [1, 2], [1, 2, 3], [1, 2, 3, 4], [1, 2, 3, 4, 5], [0, 1, 2, 3, 4, 5, 6], [], [], [8, 9], [8, 9, 10], [8, 9, 10, 11], [8, 9, 10, 11, 12], [0, 1, 2, 3, 4, 5, 6, 7, 8, 9, 10, 11, 12, 13], [], [], [15, 16], [15, 16, 17], [15, 16, 17, 18], [15, 16, 17, 18, 19], [15, 16, 17, 18, 19, 20], [0, 1, 2, 3, 4, 5, 6, 7, 8, 9, 10, 11, 12, 13, 14, 15, 16, 17, 18, 19, 20, 21], [0, 1, 2, 3, 4, 5, 6, 7, 8, 9, 10, 11, 12, 13, 14, 15, 16, 17, 18, 19, 20, 21, 22]] [0, 1, 2, 3, 4, 5, 6, 7, 8, 9, 10, 11, 12, 13, 14, 15, 16, 17, 18, 19, 20, 21, 22, 23] noFt (fun _ _ _ h => by simp [noFt] at h) draws (by kernel_rfl) (by kernel_rfl) ?_
      generalize hK : AW Try.prog _ _ _ = K
      simp only [go_sem, ↓reduceIte, reduceCtorEq, Nat.reduceAdd, Nat.reduceSub, Nat.reduceMul, Nat.reduceEqDiff, Nat.reduceLT, Nat.reduceLeDiff, Nat.reduceBEq, Int.reduceAdd, Int.reduceSub, Int.reduceLT, Int.reduceLE, Int.reduceEq, Int.reduceToNat, ag9, ag33, el22, el33, fl35_0, fl35_1, fl35_2, st9, sz9, sz33, sz35, encRes, encL, encI, List.length_map, hx, e1, e2, e3, e4]
      subst hK
      refine AW.reg ?_
      generalize hK : AW Try.prog _ _ _ = K
      simp only [go_sem, ↓reduceIte, reduceCtorEq, Nat.reduceAdd, Nat.reduceSub, Nat.reduceMul, Nat.reduceEqDiff, Nat.reduceLT, Nat.reduceLeDiff, Nat.reduceBEq, Int.reduceAdd, Int.reduceSub, Int.reduceLT, Int.reduceLE, Int.reduceEq, Int.reduceToNat, ag9, ag33, el22, el33, fl35_0, fl35_1, fl35_2, st9, sz9, sz33, sz35, encRes, encL, encI, List.length_map]
      subst hK
      refine AW.if rfl (fun hc39 => ?_) (fun hc39 => ?_)
      · refine AW.reg ?_
        generalize hK : AW Try.prog _ _ _ = K
        simp only [go_sem, ↓reduceIte, reduceCtorEq, Nat.reduceAdd, Nat.reduceSub, Nat.reduceMul, Nat.reduceEqDiff, Nat.reduceLT, Nat.reduceLeDiff, Nat.reduceBEq, Int.reduceAdd, Int.reduceSub, Int.reduceLT, Int.reduceLE, Int.reduceEq, Int.reduceToNat, ag9, ag33, el22, el33, fl35_0, fl35_1, fl35_2, st9, sz9, sz33, sz35, encRes, encL, encI, List.length_map]
        subst hK
        refine AW.ret ?_
        refine block_r ?_
        refine thenA_r ?_
        refine thenA_r ?_
        refine block_r ?_
        refine thenA_r ?_
        refine fin_val (.inl rfl) rfl ?_
        have : Much l := .inr ⟨i + 1, by omega, by simp at hc39; omega⟩
        simp [this]
      · refine AW.skip ?_
        refine block_n ?_
        refine thenA_n ?_
        have h2 : IntKind.i64.wrap ((i : Int) + 1) = ((i + 1 : Nat) : Int) := by rw [wrap_id] <;> omega
        refine AW.region ?_
        generalize hK : thenA _ _ Exit.normal = K
        simp only [go_sem, ↓reduceIte, reduceCtorEq, Nat.reduceAdd, Nat.reduceSub, Nat.reduceMul, Nat.reduceEqDiff, Nat.reduceLT, Nat.reduceLeDiff, Nat.reduceBEq, Int.reduceAdd, Int.reduceSub, Int.reduceLT, Int.reduceLE, Int.reduceEq, Int.reduceToNat, ag9, ag33, el22, el33, fl35_0, fl35_1, fl35_2, st9, sz9, sz33, sz35, encRes, encL, encI, List.length_map, h2]
        subst hK
        refine thenA_n ?_
        refine ⟨k - 1, _, by omega, Ent.st (.put' (.put' (.put' .any rfl) rfl) rfl) .refl (Nat.le_refl _), i + 1, _, Nat.zero_le _, by omega, by omega, ?_, rfl⟩
        intro j hj
        by_cases hji : j = i + 1
        · subst hji; simp at hc39; omega
        · exact hp j (by omega)
    · refine AW.exit ?_
      refine thenA_x ?_
      refine thenA_x ?_
      refine block_x ?_
      refine thenA_n ?_
      refine AW.reg ?_
      generalize hK : AW Try.prog _ _ _ = K
      simp only [go_sem, ↓reduceIte, reduceCtorEq, Nat.reduceAdd, Nat.reduceSub, Nat.reduceMul, Nat.reduceEqDiff, Nat.reduceLT, Nat.reduceLeDiff, Nat.reduceBEq, Int.reduceAdd, Int.reduceSub, Int.reduceLT, Int.reduceLE, Int.reduceEq, Int.reduceToNat, ag9, ag33, el22, el33, fl35_0, fl35_1, fl35_2, st9, sz9, sz33, sz35, encRes, encL, encI, List.length_map]
      subst hK
      refine AW.ret ?_
      refine fin_val (.inl rfl) rfl ?_
      have hend : i = 40 ∨ i = l.length := by first | omega | (simp at hc12; omega)
      have : Much l ↔ 40 < l.length := ⟨fun h => h.elim id fun ⟨j, hj, ht⟩ => by
          rcases hend with rfl | rfl
          · have := hp j hj; omega
          · by_cases hjl : j ≤ l.length
            · have := hp j hjl; omega
            · have e : total l j = total l l.length := by unfold total; rw [List.take_of_length_le (by omega), List.take_of_length_le (Nat.le_refl _)]
              have := hp l.length (Nat.le_refl _); omega, fun h => .inl h⟩
      simp [this]
      omega
  · have hi' : ((i : Int) < (l.length : Int)) = False := eq_false (by omega)
    refine AW.reg ?_
    generalize hK : AW Try.prog _ _ _ = K
    simp only [go_sem, ↓reduceIte, reduceCtorEq, Nat.reduceAdd, Nat.reduceSub, Nat.reduceMul, Nat.reduceEqDiff, Nat.reduceLT, Nat.reduceLeDiff, Nat.reduceBEq, Int.reduceAdd, Int.reduceSub, Int.reduceLT, Int.reduceLE, Int.reduceEq, Int.reduceToNat, ag9, ag33, el22, el33, fl35_0, fl35_1, fl35_2, st9, sz9, sz33, sz35, encRes, encL, encI, List.length_map, hi']
    subst hK
    refine AW.if rfl (fun hc12 => ?_) (fun hc12 => ?_)
    · cases hc12
    · refine AW.exit ?_
      refine thenA_x ?_
      refine thenA_x ?_
      refine block_x ?_
      refine thenA_n ?_
      refine AW.reg ?_
      generalize hK : AW Try.prog _ _ _ = K
      simp only [go_sem, ↓reduceIte, reduceCtorEq, Nat.reduceAdd, Nat.reduceSub, Nat.reduceMul, Nat.reduceEqDiff, Nat.reduceLT, Nat.reduceLeDiff, Nat.reduceBEq, Int.reduceAdd, Int.reduceSub, Int.reduceLT, Int.reduceLE, Int.reduceEq, Int.reduceToNat, ag9, ag33, el22, el33, fl35_0, fl35_1, fl35_2, st9, sz9, sz33, sz35, encRes, encL, encI, List.length_map]
      subst hK
      refine AW.ret ?_
      refine fin_val (.inl rfl) rfl ?_
      have hend : i = 40 ∨ i = l.length := by first | omega | (simp at hc12; omega)
      have : Much l ↔ 40 < l.length := ⟨fun h => h.elim id fun ⟨j, hj, ht⟩ => by
          rcases hend with rfl | rfl
          · have := hp j hj; omega
          · by_cases hjl : j ≤ l.length
            · have := hp j hjl; omega
            · have e : total l j = total l l.length := by unfold total; rw [List.take_of_length_le (by omega), List.take_of_length_le (Nat.le_refl _)]
              have := hp l.length (Nat.le_refl _); omega, fun h => .inl h⟩
      simp [this]
      omega
end Go.Proofs.Y1
