import Derived.Test.YtncdjladnpogiaaGsSS2
set_option linter.all false
set_option linter.unusedVariables false
set_option linter.unusedSimpArgs false
set_option linter.all false
set_option maxRecDepth 8000
set_option maxHeartbeats 1000000
namespace Go.Proofs.Y2
open Go.Gm
namespace Au
/-! ### halving -/
theorem shr1 {v : Int} (h0 : 0 ≤ v) : shrV .u64 v 1 = v / 2 := by
  show v.fdiv (2 ^ (min 1 64)) = _
  rw [Int.fdiv_eq_ediv_of_nonneg _ (by decide)]; rfl
theorem half {i j : Nat} (h : i + j ≤ 1000000) : IntKind.i64.wrap (shrV .u64 (IntKind.u64.wrap (IntKind.i64.wrap ((i : Int) + (j : Int)))) 1) = (((i + j) / 2 : Nat) : Int) := by
  rw [i64_id (show -9223372036854775808 ≤ (i : Int) + (j : Int) by omega) (by omega), u64_wrap, shr1 (by omega), i64_id (by omega) (by omega)]
  omega
theorem bisect {τ : Type} {step : τ → Option (τ ⊕ Int)} (st : Nat → Nat → τ) (p : Nat → Bool) (i0 j0 : Nat) (hij : i0 ≤ j0)
    (h1 : ∀ i j, i0 ≤ i → i < j → j ≤ j0 → step (st i j) = some (.inl (if p ((i + j) / 2) = true then st ((i + j) / 2 + 1) j else st i ((i + j) / 2))))
    (h2 : ∀ i, i0 ≤ i → i ≤ j0 → step (st i i) = some (.inr (i : Int))) :
    ∃ r : Nat, loopO step (st i0 j0) = some (r : Int) ∧ i0 ≤ r ∧ r ≤ j0 ∧ (r = i0 ∨ p (r - 1) = true) ∧ (r = j0 ∨ p r = false) := by
  obtain ⟨r, hr, n, rfl, q⟩ := loopO_of (step := step) (Q := fun r : Int => ∃ n : Nat, r = (n : Int) ∧ i0 ≤ n ∧ n ≤ j0 ∧ (n = i0 ∨ p (n - 1) = true) ∧ (n = j0 ∨ p n = false))
    (fun k s => ∃ i j, s = st i j ∧ k = j - i ∧ i0 ≤ i ∧ i ≤ j ∧ j ≤ j0 ∧ (i = i0 ∨ p (i - 1) = true) ∧ (j = j0 ∨ p j = false)) (by
      rintro k _ ⟨i, j, rfl, rfl, a1, a2, a3, a4, a5⟩
      by_cases hlt : i < j
      · have h := h1 i j a1 hlt a3
        by_cases hp : p ((i + j) / 2) = true
        · rw [if_pos hp] at h
          exact .inl ⟨_, j - ((i + j) / 2 + 1), h, by omega, _, _, rfl, rfl, by omega, by omega, a3, .inr (by rw [Nat.add_sub_cancel]; exact hp), a5⟩
        · rw [if_neg hp] at h
          exact .inl ⟨_, (i + j) / 2 - i, h, by omega, _, _, rfl, rfl, a1, by omega, by omega, a4, .inr (by simpa using hp)⟩
      · obtain rfl : i = j := by omega
        exact .inr ⟨_, h2 i a1 a3, i, rfl, a1, a3, a4, a5⟩) (k := j0 - i0) ⟨i0, j0, rfl, rfl, Nat.le_refl _, hij, Nat.le_refl _, .inl rfl, .inl rfl⟩
  exact ⟨n, hr, q⟩
def ltAt (l : List Ranked) (i j : Nat) : Bool := match l[i]?, l[j]? with
  | some y, some x => ltR y x
  | _, _ => false
theorem ltAt_some {l : List Ranked} {i j : Nat} {x y : Ranked} (h1 : l[i]? = some y) (h2 : l[j]? = some x) : ltAt l i j = ltR y x := by unfold ltAt; rw [h1, h2]
theorem cmp_at {l : List Ranked} {i j : Nat} (hi : i < l.length) (hj : j < l.length) : ∃ y x c, ix l (i : Int) = some y ∧ ix l (j : Int) = some x ∧ f21 y x = some c ∧ (c < 0 ↔ ltAt l i j = true) := by
  obtain ⟨c, h1, h2⟩ := cmp_eq l[i] l[j]
  exact ⟨l[i], l[j], c, ixN hi, ixN hj, h1, by rw [h2, ltAt_some (List.getElem?_eq_getElem hi) (List.getElem?_eq_getElem hj)]⟩
/-! ### one element into a sorted row -/
theorem right_loop (P S : List Ranked) (x : Ranked) (e : Int) : ∀ (B2 B1 : List Ranked), e = ((P.length + B1.length + B2.length + 1 : Nat) : Int) → P.length + B1.length + B2.length ≤ 100000 →
    loopO (f45_21_s6 e) (P ++ B1 ++ x :: (B2 ++ S), ((P.length + B1.length : Nat) : Int)) = some (P ++ (B1 ++ B2) ++ x :: S)
  | [], B1, he, hl => by
    refine loopO_done ?_
    simp only [f45_21_s6]
    rw [if_neg (by rw [he, i64_id (by omega) (by omega)]; simp), List.append_nil, List.nil_append]
  | b :: B2, B1, he, hl => by
    simp only [List.length_cons] at he hl
    have e1 : P ++ B1 ++ x :: (b :: B2 ++ S) = (P ++ B1) ++ x :: b :: (B2 ++ S) := by simp
    have q : ((P.length + B1.length : Nat) : Int) = ((P ++ B1).length : Int) := by simp
    have w : IntKind.i64.wrap (((P ++ B1).length : Int) + 1) = (((P ++ B1).length + 1 : Nat) : Int) := wrapN (by simp; omega)
    have hstep : f45_21_s6 e (P ++ B1 ++ x :: (b :: B2 ++ S), ((P.length + B1.length : Nat) : Int)) = some (.inl (P ++ (B1 ++ [b]) ++ x :: (B2 ++ S), ((P.length + (B1 ++ [b]).length : Nat) : Int))) := by
      simp only [f45_21_s6]
      rw [if_pos (by rw [he, i64_id (by omega) (by omega)]; omega), e1, q, w, nb_ix1, Option.bind_some, nb_ix0, Option.bind_some]
      simp only [Int.toNat_natCast, nb_set0, nb_ix1, Option.bind_some, nb_set1]
      simp
      omega
    rw [loopO_next hstep, right_loop P S x e B2 (B1 ++ [b]) (by rw [he]; simp; omega) (by simp; omega)]
    simp
theorem left_loop (P S : List Ranked) (x : Ranked) : ∀ (n : Nat) (A2 B : List Ranked), A2.length = n → P.length + n ≤ 100000 →
    loopO (f45_21_s12 (P.length : Int)) (P ++ A2 ++ x :: (B ++ S), ((P.length + A2.length : Nat) : Int)) = some (P ++ x :: (A2 ++ B) ++ S)
  | 0, A2, B, hA, hl => by
    obtain rfl := List.eq_nil_of_length_eq_zero hA
    refine loopO_done ?_
    simp [f45_21_s12]
  | n + 1, A2, B, hA, hl => by
    obtain ⟨A1, y, rfl⟩ : ∃ A1 y, A2 = A1 ++ [y] := by
      rcases List.eq_nil_or_concat A2 with h | ⟨A1, y, h⟩
      · rw [h] at hA; simp at hA
      · exact ⟨A1, y, by rw [h]; simp⟩
    have hA1 : A1.length = n := by simpa using hA
    have e1 : P ++ (A1 ++ [y]) ++ x :: (B ++ S) = (P ++ A1) ++ y :: x :: (B ++ S) := by simp
    have e2 : ((P.length + (A1 ++ [y]).length : Nat) : Int) = (((P ++ A1).length + 1 : Nat) : Int) := by simp; omega
    have hlt : (P.length : Int) < (((P ++ A1).length + 1 : Nat) : Int) := by simp; omega
    have hw : IntKind.i64.wrap ((((P ++ A1).length + 1 : Nat) : Int) - 1) = ((P ++ A1).length : Int) := wrapS (by simp; omega)
    have hstep : f45_21_s12 (P.length : Int) ((P ++ A1) ++ y :: x :: (B ++ S), (((P ++ A1).length + 1 : Nat) : Int)) = some (.inl (P ++ A1 ++ x :: (y :: B ++ S), ((P.length + A1.length : Nat) : Int))) := by
      simp only [f45_21_s12, if_pos hlt, hw, nb_ix0, nb_ix1, Option.bind_some, Int.toNat_natCast, nb_set1, nb_set0]
      simp
    rw [e1, e2, loopO_next hstep, left_loop P S x n A1 (y :: B) hA1 (by omega)]
    simp
theorem merge_left (P B S : List Ranked) (x : Ranked) (hs : Srt ltR B) (hB : 0 < B.length) (hl : P.length + B.length ≤ 100000) (rec45 : List Ranked → Int → Int → Int → Option (List Ranked)) :
    ∃ M, f45_21b rec45 (P ++ [x] ++ B ++ S) (P.length : Int) ((P.length + 1 : Nat) : Int) ((P.length + 1 + B.length : Nat) : Int) = some (P ++ M ++ S) ∧ Sorts ltR ([x] ++ B) M := by
  have hlen : (P ++ [x] ++ B ++ S).length = P.length + 1 + B.length + S.length := by simp; omega
  have hx : (P ++ [x] ++ B ++ S)[P.length]? = some x := by simp
  obtain ⟨r, h1, h2, h3, h4, h5⟩ := bisect (step := f45_21_s5 (P ++ [x] ++ B ++ S) (P.length : Int)) (fun i j => ((i : Int), (j : Int))) (fun h => ltAt (P ++ [x] ++ B ++ S) h P.length) (P.length + 1) (P.length + 1 + B.length) (by omega) (fun i j a1 a2 a3 => by
    obtain ⟨y, x', c, c1, c2, c3, c4⟩ := cmp_at (l := P ++ [x] ++ B ++ S) (i := (i + j) / 2) (j := P.length) (by omega) (by omega)
    simp only [f45_21_s5]
    rw [if_pos (by omega), half (by omega), c1, Option.bind_some, c2, Option.bind_some, c3, Option.bind_some]
    by_cases hc : c < 0
    · rw [if_pos hc, if_pos (c4.1 hc), wrapN (by omega)]
    · rw [if_neg hc, if_neg (fun h => hc (c4.2 h))]) (fun i a1 a2 => by simp [f45_21_s5])
  obtain ⟨B1, B2, rfl, hb1⟩ := split_at (l := B) (n := r - (P.length + 1)) (by omega)
  have hr : r = P.length + 1 + B1.length := by omega
  have hlast : ∀ b ∈ B1, ltR b x = true := by
    intro b hb
    obtain ⟨B1', y, rfl⟩ : ∃ B1' y, B1 = B1' ++ [y] := by
      rcases List.eq_nil_or_concat B1 with h | ⟨B1', y, h⟩
      · rw [h] at hb; cases hb
      · exact ⟨B1', y, by rw [h]; simp⟩
    rcases h4 with h4 | h4
    · simp at hr; omega
    · have hy : (P ++ [x] ++ (B1' ++ [y] ++ B2) ++ S)[r - 1]? = some y := by
        have e : P ++ [x] ++ (B1' ++ [y] ++ B2) ++ S = (P ++ [x] ++ B1') ++ y :: (B2 ++ S) := by simp
        rw [e, show r - 1 = (P ++ [x] ++ B1').length by simp at hr ⊢; omega]
        exact at_mid _ _ _
      rw [ltAt_some hy hx] at h4
      rcases List.mem_append.1 hb with h | h
      · exact swoR.le_lt (hs.left.cross b h y (by simp)) h4
      · simp at h; subst h; exact h4
  have hhead : ∀ b ∈ B2, ltR b x = false := by
    intro b hb
    cases B2 with
    | nil => cases hb
    | cons y B2' =>
      rcases h5 with h5 | h5
      · simp at hr h5; omega
      · have hy : (P ++ [x] ++ (B1 ++ y :: B2') ++ S)[r]? = some y := by
          have e : P ++ [x] ++ (B1 ++ y :: B2') ++ S = (P ++ [x] ++ B1) ++ y :: (B2' ++ S) := by simp
          rw [e, hr, show P.length + 1 + B1.length = (P ++ [x] ++ B1).length by simp; omega]
          exact at_mid _ _ _
        rw [ltAt_some hy hx] at h5
        rcases List.mem_cons.1 hb with rfl | h
        · exact h5
        · exact swoR.le_trans h5 ((List.pairwise_cons.1 hs.right).1 b h)
  refine ⟨B1 ++ x :: B2, ?_, ?_, ?_, by simp; omega⟩
  · unfold f45_21b
    have e1 : P ++ [x] ++ (B1 ++ B2) ++ S = P ++ [] ++ x :: (B1 ++ (B2 ++ S)) := by simp
    rw [if_pos (by rw [i64_id (by omega) (by omega)]; omega)]
    rw [h1, Option.bind_some, e1]
    have := right_loop P (B2 ++ S) x (r : Int) B1 [] (by rw [hr]; simp; omega) (by simp at hl ⊢; omega)
    simp only [List.length_nil, Nat.add_zero] at this
    rw [this, Option.bind_some]
    simp
  · refine Srt.append hs.left (List.pairwise_cons.2 ⟨hhead, hs.right⟩) fun a ha b hb => ?_
    rcases List.mem_cons.1 hb with rfl | hb
    · exact swoR.asym (hlast a ha)
    · exact hs.cross a ha b hb
  · have : SF ltR ((B1 ++ [x]) ++ B2) (([x] ++ B1) ++ B2) := SF.append (SF.swap swoR (a := [x]) (b := B1) (fun p hp q hq => by simp at hp; subst hp; exact hlast q hq)).symm (SF.refl _)
    simpa using this
theorem merge_right (P A S : List Ranked) (x : Ranked) (hs : Srt ltR A) (hA : 1 < A.length) (hl : P.length + A.length ≤ 100000) (rec45 : List Ranked → Int → Int → Int → Option (List Ranked)) :
    ∃ M, f45_21b rec45 (P ++ A ++ [x] ++ S) (P.length : Int) ((P.length + A.length : Nat) : Int) ((P.length + A.length + 1 : Nat) : Int) = some (P ++ M ++ S) ∧ Sorts ltR (A ++ [x]) M := by
  have hlen : (P ++ A ++ [x] ++ S).length = P.length + A.length + 1 + S.length := by simp; omega
  have hx : (P ++ A ++ [x] ++ S)[P.length + A.length]? = some x := by
    rw [show P ++ A ++ [x] ++ S = (P ++ A) ++ x :: S by simp, show P.length + A.length = (P ++ A).length by simp]
    exact at_mid _ _ _
  obtain ⟨r, h1, h2, h3, h4, h5⟩ := bisect (step := f45_21_s11 (P ++ A ++ [x] ++ S) ((P.length + A.length : Nat) : Int)) (fun i j => ((j : Int), (i : Int))) (fun h => !ltAt (P ++ A ++ [x] ++ S) (P.length + A.length) h) P.length (P.length + A.length) (by omega) (fun i j a1 a2 a3 => by
    obtain ⟨y, x', c, c1, c2, c3, c4⟩ := cmp_at (l := P ++ A ++ [x] ++ S) (i := P.length + A.length) (j := (i + j) / 2) (by omega) (by omega)
    simp only [f45_21_s11]
    rw [if_pos (by omega), half (by omega), c1, Option.bind_some, c2, Option.bind_some, c3, Option.bind_some]
    by_cases hc : c < 0
    · rw [if_pos hc, if_neg (by rw [c4.1 hc]; simp)]
    · have : ltAt (P ++ A ++ [x] ++ S) (P.length + A.length) ((i + j) / 2) = false := by simpa using fun h => hc (c4.2 h)
      rw [if_neg hc, if_pos (by rw [this]; rfl), wrapN (by omega)]) (fun i a1 a2 => by simp [f45_21_s11])
  obtain ⟨A1, A2, rfl, ha1⟩ := split_at (l := A) (n := r - P.length) (by omega)
  have hr : r = P.length + A1.length := by omega
  have hlast : ∀ a ∈ A1, ltR x a = false := by
    intro a ha
    obtain ⟨A1', y, rfl⟩ : ∃ A1' y, A1 = A1' ++ [y] := by
      rcases List.eq_nil_or_concat A1 with h | ⟨A1', y, h⟩
      · rw [h] at ha; cases ha
      · exact ⟨A1', y, by rw [h]; simp⟩
    rcases h4 with h4 | h4
    · simp at hr; omega
    · have hy : (P ++ (A1' ++ [y] ++ A2) ++ [x] ++ S)[r - 1]? = some y := by
        have e : P ++ (A1' ++ [y] ++ A2) ++ [x] ++ S = (P ++ A1') ++ y :: (A2 ++ x :: S) := by simp
        rw [e, show r - 1 = (P ++ A1').length by simp at hr ⊢; omega]
        exact at_mid _ _ _
      rw [ltAt_some hx hy] at h4
      have h4' : ltR x y = false := by simpa using h4
      rcases List.mem_append.1 ha with h | h
      · exact swoR.le_trans (hs.left.cross a h y (by simp)) h4'
      · simp at h; subst h; exact h4'
  have hhead : ∀ a ∈ A2, ltR x a = true := by
    intro a ha
    cases A2 with
    | nil => cases ha
    | cons y A2' =>
      rcases h5 with h5 | h5
      · simp at hr h5; omega
      · have hy : (P ++ (A1 ++ y :: A2') ++ [x] ++ S)[r]? = some y := by
          have e : P ++ (A1 ++ y :: A2') ++ [x] ++ S = (P ++ A1) ++ y :: (A2' ++ x :: S) := by simp
          rw [e, hr, show P.length + A1.length = (P ++ A1).length by simp]
          exact at_mid _ _ _
        rw [ltAt_some hx hy] at h5
        have h5' : ltR x y = true := by simpa using h5
        rcases List.mem_cons.1 ha with rfl | h
        · exact h5'
        · exact swoR.lt_le h5' ((List.pairwise_cons.1 hs.right).1 a h)
  refine ⟨A1 ++ x :: A2, ?_, ?_, ?_, by simp⟩
  · unfold f45_21b
    have e1 : P ++ (A1 ++ A2) ++ [x] ++ S = (P ++ A1) ++ A2 ++ x :: ([] ++ S) := by simp
    rw [if_neg (by rw [i64_id (by omega) (by omega)]; omega), if_pos (by rw [i64_id (by omega) (by omega)]; omega)]
    rw [h1, Option.bind_some, e1]
    have := left_loop (P ++ A1) S x A2.length A2 [] rfl (by simp at hl ⊢; omega)
    rw [show (r : Int) = ((P ++ A1).length : Int) by rw [hr]; simp, show ((P.length + (A1 ++ A2).length : Nat) : Int) = (((P ++ A1).length + A2.length : Nat) : Int) by simp; omega, this, Option.bind_some]
    simp
  · refine Srt.append hs.left (List.pairwise_cons.2 ⟨fun b hb => swoR.asym (hhead b hb), hs.right⟩) fun a ha b hb => ?_
    rcases List.mem_cons.1 hb with rfl | hb
    · exact hlast a ha
    · exact hs.cross a ha b hb
  · have : SF ltR (A1 ++ ([x] ++ A2)) (A1 ++ (A2 ++ [x])) := SF.append (SF.refl _) (SF.swap swoR (a := A2) (b := [x]) (fun p hp q hq => by simp at hq; subst hq; exact hhead p hp)).symm
    simpa using this
end Au
end Go.Proofs.Y2
