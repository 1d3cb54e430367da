import Derived.Test.YtncdjladnpogiaaGsSS4
set_option linter.all false
set_option linter.unusedVariables false
set_option linter.unusedSimpArgs false
set_option linter.all false
set_option maxRecDepth 8000
set_option maxHeartbeats 1000000
namespace Go.Proofs.Y2
open Go.Gm
namespace Au
/-- Every block of so many is sorted. -/
def AB (bs : Nat) (l : List Ranked) : Prop := ∀ k, Srt ltR ((l.drop (k * bs)).take bs)
theorem AB.nil (bs : Nat) : AB bs [] := fun k => by simp only [List.drop_nil, List.take_nil]; exact Srt.nil
theorem AB.snoc {bs q : Nat} {D M : List Ranked} (h : AB bs D) (hD : D.length = q * bs) (hM : M.length ≤ bs) (hs : Srt ltR M) : AB bs (D ++ M) := fun k => by
  rcases Nat.lt_trichotomy k q with hk | hk | hk
  · have h1 : (k + 1) * bs ≤ q * bs := Nat.mul_le_mul_right bs hk
    rw [Nat.succ_mul] at h1
    rw [List.drop_append_of_le_length (by omega), List.take_append_of_le_length (by rw [List.length_drop]; omega)]
    exact h k
  · subst hk
    rw [← hD, List.drop_left, List.take_of_length_le hM]
    exact hs
  · have h1 : (q + 1) * bs ≤ k * bs := Nat.mul_le_mul_right bs hk
    rw [Nat.succ_mul] at h1
    rw [List.drop_eq_nil_of_le (by rw [List.length_append]; omega), List.take_nil]
    exact Srt.nil
theorem AB.head {bs : Nat} {l : List Ranked} (h : AB bs l) : Srt ltR (l.take bs) := by
  have := h 0
  simpa using this
theorem AB.drop {bs : Nat} {l : List Ranked} (h : AB bs l) : AB bs (l.drop bs) := fun k => by
  have := h (k + 1)
  rw [List.drop_drop]
  rw [Nat.succ_mul] at this
  rw [Nat.add_comm]
  exact this
def Ev (l l' : List Ranked) : Prop := SF ltR l l' ∧ l.length = l'.length
theorem Ev.refl (l : List Ranked) : Ev l l := ⟨SF.refl l, rfl⟩
theorem Ev.trans {a b c : List Ranked} (h : Ev a b) (k : Ev b c) : Ev a c := ⟨h.1.trans k.1, h.2.trans k.2⟩
theorem Ev.app {a b c d : List Ranked} (h : Ev a b) (k : Ev c d) : Ev (a ++ c) (b ++ d) := ⟨SF.append h.1 k.1, by rw [List.length_append, List.length_append, h.2, k.2]⟩
theorem ins_phase : ∀ (n : Nat) (D R : List Ranked) (q : Nat), R.length = n → D.length = q * 20 → AB 20 D → D.length + R.length ≤ 100000 →
    ∃ D' R' q', loopO (f33_21_s2 ((D.length + R.length : Nat) : Int)) (D ++ R, (D.length : Int), ((D.length + 20 : Nat) : Int)) = some ((D'.length : Int), D' ++ R') ∧ D'.length = q' * 20 ∧ AB 20 D' ∧ R'.length < 20 ∧ Ev (D' ++ R') (D ++ R) := by
  intro n
  induction n using Nat.strongRecOn with
  | ind n ih =>
    intro D R q hn hD hA hl
    by_cases h : 20 ≤ R.length
    · obtain ⟨X, R', rfl, hX⟩ := split_at h
      obtain ⟨M, h1, h2⟩ := ins_eq D X R' (by simp at hl; omega) (a := (D.length : Int)) (b := ((D.length + 20 : Nat) : Int)) rfl (by rw [hX])
      have hM := h2.len
      have hw : IntKind.i64.wrap (((D.length + 20 : Nat) : Int) + 20) = ((D.length + 20 + 20 : Nat) : Int) := by rw [i64_id (by omega) (by omega)]; omega
      have hstep : f33_21_s2 ((D.length + (X ++ R').length : Nat) : Int) (D ++ (X ++ R'), (D.length : Int), ((D.length + 20 : Nat) : Int)) = some (.inl ((D ++ M) ++ R', ((D ++ M).length : Int), (((D ++ M).length + 20 : Nat) : Int))) := by
        simp only [f33_21_s2]
        rw [if_pos (by simp; omega), ← List.append_assoc, h1, Option.bind_some, guardO_ok (by simp; omega), Option.bind_some, hw]
        simp [hM, hX]
      rw [loopO_next hstep]
      obtain ⟨D', R'', q', k1, k2, k3, k4, k5⟩ := ih R'.length (by simp at hn; omega) (D ++ M) R' (q + 1) rfl (by simp; omega) (hA.snoc hD (by omega) h2.srt) (by simp at hl ⊢; omega)
      refine ⟨D', R'', q', ?_, k2, k3, k4, k5.trans ?_⟩
      · rw [← k1]; congr 2; simp; omega
      · rw [List.append_assoc]
        exact (Ev.refl D).app (Ev.app ⟨h2.sf, h2.len⟩ (Ev.refl R'))
    · refine ⟨D, R, q, loopO_done ?_, hD, hA, by omega, Ev.refl _⟩
      simp only [f33_21_s2]
      rw [if_neg (by omega)]
theorem merge_phase (bs : Nat) (hbs : 0 < bs) (hb2 : bs ≤ 100000) : ∀ (n : Nat) (D R : List Ranked) (q : Nat), R.length = n → D.length = q * (2 * bs) → AB (2 * bs) D → AB bs R → D.length + R.length ≤ 100000 →
    ∃ D' R' q', loopO (f33_21_s9 ((D.length + R.length : Nat) : Int) (bs : Int)) (D ++ R, (D.length : Int), ((D.length + 2 * bs : Nat) : Int)) = some ((D'.length : Int), D' ++ R') ∧ D'.length = q' * (2 * bs) ∧ AB (2 * bs) D' ∧ AB bs R' ∧ R'.length < 2 * bs ∧ Ev (D' ++ R') (D ++ R) := by
  intro n
  induction n using Nat.strongRecOn with
  | ind n ih =>
    intro D R q hn hD hA hR hl
    by_cases h : 2 * bs ≤ R.length
    · obtain ⟨X, R1, rfl, hX⟩ := split_at (l := R) (n := bs) (by omega)
      obtain ⟨Y, R', rfl, hY⟩ := split_at (l := R1) (n := bs) (by simp at h; omega)
      have sX : Srt ltR X := by have := hR.head; rwa [← hX, List.take_left] at this
      have hR1 : AB bs (Y ++ R') := by have := hR.drop; rwa [← hX, List.drop_left, hX] at this
      have sY : Srt ltR Y := by have := hR1.head; rwa [← hY, List.take_left] at this
      have hR' : AB bs R' := by have := hR1.drop; rwa [← hY, List.drop_left, hY] at this
      obtain ⟨M, h1, h2⟩ := sym_eq D X Y R' (by omega) (by omega) sX sY (by simp at hl; omega)
      have hM := h2.len
      simp only [List.length_append] at hM
      have hw : IntKind.i64.wrap ((D.length : Int) + (bs : Int)) = ((D.length + X.length : Nat) : Int) := by rw [i64_id (by omega) (by omega)]; omega
      have hw2 : IntKind.i64.wrap (((D.length + 2 * bs : Nat) : Int) + IntKind.i64.wrap (2 * (bs : Int))) = ((D.length + 2 * bs + 2 * bs : Nat) : Int) := by rw [i64_id (show -9223372036854775808 ≤ 2 * (bs : Int) by omega) (by omega), i64_id (by omega) (by omega)]; omega
      have hstep : f33_21_s9 ((D.length + (X ++ (Y ++ R')).length : Nat) : Int) (bs : Int) (D ++ (X ++ (Y ++ R')), (D.length : Int), ((D.length + 2 * bs : Nat) : Int)) = some (.inl ((D ++ M) ++ R', ((D ++ M).length : Int), (((D ++ M).length + 2 * bs : Nat) : Int))) := by
        simp only [f33_21_s9]
        have e : D ++ (X ++ (Y ++ R')) = D ++ X ++ Y ++ R' := by simp
        have e2 : ((D.length + 2 * bs : Nat) : Int) = ((D.length + X.length + Y.length : Nat) : Int) := by omega
        have e3 : ((D ++ M).length : Int) = ((D.length + 2 * bs : Nat) : Int) := by simp; omega
        rw [if_pos (by simp; omega), hw2, hw, e2, e, h1, Option.bind_some, guardO_ok (by simp; omega), Option.bind_some]
        simp [hM]
        omega
      rw [loopO_next hstep]
      obtain ⟨D', R'', q', k1, k2, k3, k4, k5, k6⟩ := ih R'.length (by simp at hn; omega) (D ++ M) R' (q + 1) rfl (by rw [Nat.succ_mul]; simp; omega) (hA.snoc hD (by omega) h2.srt) hR' (by simp at hl ⊢; omega)
      refine ⟨D', R'', q', ?_, k2, k3, k4, k5, k6.trans ?_⟩
      · rw [← k1]; congr 2; simp; omega
      · have : Ev (D ++ (M ++ R')) (D ++ ((X ++ Y) ++ R')) := (Ev.refl D).app (Ev.app ⟨h2.sf, h2.len⟩ (Ev.refl R'))
        simpa using this
    · refine ⟨D, R, q, loopO_done ?_, hD, hA, hR, by omega, Ev.refl _⟩
      simp only [f33_21_s9]
      rw [if_neg (by omega)]
theorem passes (N : Nat) (hN : N ≤ 100000) : ∀ (k : Nat) (l : List Ranked) (bs : Nat), N - bs = k → 0 < bs → bs ≤ 200000 → l.length = N → AB bs l → ∃ r, loopO (f33_21_s3 (N : Int)) (l, (bs : Int)) = some r ∧ Srt ltR r ∧ Ev r l := by
  intro k
  induction k using Nat.strongRecOn with
  | ind k ih =>
    intro l bs hk h0 hb hl hA
    by_cases hlt : bs < N
    · obtain ⟨D, R, q, h1, h2, h3, h4, h5, h6⟩ := merge_phase bs h0 (by omega) l.length [] l 0 rfl (by simp) (AB.nil _) hA (by simp; omega)
      have hlen := h6.2
      simp only [List.nil_append, List.length_append, List.length_nil, Nat.zero_add] at h1 hlen h6
      have w2 : IntKind.i64.wrap (2 * (bs : Int)) = ((2 * bs : Nat) : Int) := by rw [i64_id (by omega) (by omega)]; omega
      have w3 : IntKind.i64.wrap ((bs : Int) * 2) = ((2 * bs : Nat) : Int) := by rw [i64_id (by omega) (by omega)]; omega
      have w4 : IntKind.i64.wrap ((D.length : Int) + (bs : Int)) = ((D.length + bs : Nat) : Int) := by rw [i64_id (by omega) (by omega)]; omega
      obtain ⟨l', s1, s2, s3⟩ : ∃ l', f33_21_s3 (N : Int) (l, (bs : Int)) = some (.inl (l', ((2 * bs : Nat) : Int))) ∧ AB (2 * bs) l' ∧ Ev l' l := by
        by_cases hc : D.length + bs < N
        · obtain ⟨X, Y, rfl, hX⟩ := split_at (l := R) (n := bs) (by omega)
          have sX : Srt ltR X := by have := h4.head; rwa [← hX, List.take_left] at this
          have sY : Srt ltR Y := by
            have := (h4.drop).head
            rw [← hX, List.drop_left] at this
            rwa [List.take_of_length_le (by simp at h5; omega)] at this
          simp only [List.length_append] at hlen h5
          obtain ⟨M, m1, m2⟩ := sym_eq D X Y [] (by omega) (by omega) sX sY (by omega)
          have hM := m2.len
          simp only [List.append_nil, List.length_append] at m1 hM
          refine ⟨D ++ M, ?_, h3.snoc h2 (by omega) m2.srt, Ev.trans ?_ h6⟩
          · simp only [f33_21_s3]
            rw [if_pos (by omega), w2, show (0 : Int) = ((([] : List Ranked).length : Nat) : Int) from rfl]
            rw [show (N : Int) = ((l.length : Nat) : Int) by omega]
            simp only [List.length_nil]
            rw [h1, Option.bind_some]
            simp only [w4, w3]
            have e1 : ((D.length + bs : Nat) : Int) = ((D.length + X.length : Nat) : Int) := by omega
            have e2 : ((l.length : Nat) : Int) = ((D.length + X.length + Y.length : Nat) : Int) := by omega
            rw [if_pos (by omega), e1, e2, show D ++ (X ++ Y) = D ++ X ++ Y by simp, m1, Option.bind_some, guardO_ok (by simp; omega), Option.bind_some]
          · exact (Ev.refl D).app ⟨m2.sf, m2.len⟩
        · refine ⟨D ++ R, ?_, h3.snoc h2 (by omega) ?_, h6⟩
          · simp only [f33_21_s3]
            rw [if_pos (by omega), w2, show (0 : Int) = ((([] : List Ranked).length : Nat) : Int) from rfl]
            rw [show (N : Int) = ((l.length : Nat) : Int) by omega]
            simp only [List.length_nil]
            rw [h1, Option.bind_some]
            simp only [w4, w3]
            rw [if_neg (by omega)]
          · have := h4.head
            rwa [List.take_of_length_le (by omega)] at this
      rw [loopO_next s1]
      obtain ⟨r, t1, t2, t3⟩ := ih (N - 2 * bs) (by omega) l' (2 * bs) rfl (by omega) (by omega) (by rw [s3.2, hl]) s2
      exact ⟨r, t1, t2, t3.trans s3⟩
    · refine ⟨l, loopO_done ?_, ?_, Ev.refl _⟩
      · simp only [f33_21_s3]
        rw [if_neg (by omega)]
      · have := hA.head
        rwa [List.take_of_length_le (by omega)] at this
theorem stable_eq (l : List Ranked) (hl : l.length ≤ 100000) : ∃ r, f20_21 l = some r ∧ Sorts ltR l r := by
  obtain ⟨D, R, q, h1, h2, h3, h4, h5⟩ := ins_phase l.length [] l 0 rfl (by simp) (AB.nil _) (by simp; omega)
  have hlen := h5.2
  simp only [List.nil_append, List.length_append, List.length_nil, Nat.zero_add] at h1 hlen h5
  obtain ⟨M, m1, m2⟩ := ins_eq D R [] (by omega) (a := (D.length : Int)) (b := (l.length : Int)) rfl (by omega)
  simp only [List.append_nil] at m1
  have hM := m2.len
  obtain ⟨r, t1, t2, t3⟩ := passes l.length hl (l.length - 20) (D ++ M) 20 rfl (by decide) (by decide) (by simp; omega) (h3.snoc h2 (by omega) m2.srt)
  have ev : Ev r l := t3.trans (((Ev.refl D).app ⟨m2.sf, m2.len⟩).trans h5)
  refine ⟨r, ?_, t2, ev.1, ev.2⟩
  unfold f20_21 f33_21
  rw [show ((0 : Int)) = ((0 : Nat) : Int) from rfl, show (20 : Int) = ((20 : Nat) : Int) from rfl, h1, Option.bind_some]
  simp only
  rw [m1, Option.bind_some, guardO_ok (by simp; omega), Option.bind_some, t1, Option.bind_some, Option.bind_some, guardO_ok ev.2, Option.bind_some]
end Au
end Go.Proofs.Y2
