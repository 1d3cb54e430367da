import Derived.Test.YtlonihmeikmpiaaDoorGfN4
set_option linter.all false
set_option linter.unusedVariables false
set_option linter.unusedSimpArgs false
set_option linter.all false
set_option maxRecDepth 8000
namespace Go.Proofs.Yd
open Go.Gm
namespace Au
abbrev zN : Note := ⟨0, 0, 0, 0, [], [], []⟩
theorem rd {b : List Int} (hb : Byt b) (hl : b.length ≤ 1000000) (a : Int) : ∃ v q e, 0 ≤ v ∧ v ≤ 1073741825 ∧ (e ≠ 0 → v = 0) ∧ (e = 0 → 0 ≤ a ∧ a < q ∧ q ≤ b.length) ∧ (0 ≤ e ∧ e ≤ 8) ∧ f39 ⟨b, a, 0⟩ = some (v, ⟨b, q, e⟩) ∧
    (∀ l i, l.length ≤ 100000 → 0 ≤ i → i < 5 → f30_s2 b (l, a, i) = some (if e = 0 then .inl (l ++ [v], q, i + 1) else .inr (.inl (zN, e)))) ∧
    (∀ n l i, l.length ≤ 100000 → 0 ≤ i → i < n → n ≤ 100000 → f30_s4 b n (a, l, i) = some (if e = 0 then .inl (q, l ++ [v], i + 1) else .inr (.inl (zN, e)))) := by
  obtain ⟨⟨x, q, e⟩, h1, h2, h3⟩ := uv_eq hb hl a
  rcases h3 with ⟨q1, q2, q3, q4, q5, q6⟩ | ⟨q1, q2, q3, q4⟩
  · simp only at q1 q2 q3 q4 q5 q6
    subst q1
    refine ⟨if 1073741824 < x then 1073741825 else x, q, 0, by split <;> omega, by split <;> omega, fun h => absurd rfl h, fun _ => ⟨q4, q5, q6⟩, by omega, ?_, fun l i hl0 h0 h5 => ?_, fun n l i hl0 h0 hn hn2 => ?_⟩
    · simp only [f39, if_true, h1, Option.bind_some]
      have : IntKind.i64.wrap (minI x 1073741825) = if 1073741824 < x then 1073741825 else x := by
        have e : minI x 1073741825 = if 1073741824 < x then 1073741825 else x := by unfold minI; split <;> split <;> omega
        rw [e]
        exact i64_id (by split <;> omega) (by split <;> omega)
      rw [this]
    · have hw : IntKind.i64.wrap (i + 1) = i + 1 := i64_id (by omega) (by omega)
      simp only [f30_s2, if_pos h5, h2, Option.bind_some, if_true, hw]
      split
      · rw [appO_ok' (by omega) (by simp)]; rfl
      · rw [i64_id (by omega) (by omega), appO_ok' (by omega) (by simp)]; rfl
    · have hw : IntKind.i64.wrap (i + 1) = i + 1 := i64_id (by omega) (by omega)
      simp only [f30_s4, f30_j5, if_pos hn, h2, Option.bind_some, if_true, hw]
      split
      · rw [appO_ok' (by omega) (by simp)]; rfl
      · rw [i64_id (by omega) (by omega), appO_ok' (by omega) (by simp)]; rfl
  · simp only at q1 q2 q3 q4
    subst q2 q3
    refine ⟨0, 0, e, by omega, by omega, fun _ => rfl, fun h => absurd h q1, q4, ?_, fun l i hl0 h0 h5 => ?_, fun n l i hl0 h0 hn hn2 => ?_⟩
    · simp only [f39, if_true, h1, Option.bind_some]
      rfl
    · simp only [f30_s2, if_pos h5, h2, Option.bind_some, if_neg q1]
    · simp only [f30_s4, if_pos hn, h2, Option.bind_some, if_neg q1]
theorem rd_err {b : List Int} {a e : Int} (h : e ≠ 0) : f39 ⟨b, a, e⟩ = some (0, ⟨b, a, e⟩) := by simp only [f39, if_neg h]
theorem tx_err {b : List Int} {a e : Int} (h : e ≠ 0) : f40 ⟨b, a, e⟩ = some ([], ⟨b, a, e⟩) := by simp only [f40, if_neg h]
theorem j1_err {b : List Int} {x1 x2 x3 x4 x5 : Int × Reader} {e : Int} (h : e ≠ 0) : f27_j1 b x1 x2 x3 x4 x5 e = some (zN, e) := by
  have hs : loopO (f27_s2 x5) (x5.2.b, x5.2.at_, e, [], 0) = some (x5.2.b, x5.2.at_, e, []) := loopO_done (by
    simp only [f27_s2, if_neg h]
    split <;> rfl)
  simp only [f27_j1, hs, Option.bind_some, tx_err h, if_neg h, f27_j2]
/-- Numbers that a note may bear. -/
def small (l : List Int) : Bool := l.all fun x => decide (0 ≤ x ∧ x ≤ 1073741824)
theorem small1 {l : List Int} (hl : l.length ≤ 100000) : f51 l = some (small l) := by
  have key : ∀ n i, i ≤ l.length → l.length - i ≤ n → loopO (f51_s1 l) (i : Int) = some (if (l.drop i).all (fun x => decide (0 ≤ x ∧ x ≤ 1073741824)) then .inr () else .inl false) := by
    intro n
    induction n with
    | zero =>
      intro i hi hn
      have : i = l.length := by omega
      subst this
      refine loopO_done ?_
      simp [f51_s1]
    | succ n ih =>
      intro i hi hn
      by_cases hlt : i < l.length
      · rw [List.drop_eq_getElem_cons hlt, List.all_cons]
        have hlt' : (i : Int) < l.length := by omega
        by_cases h0 : l[i] < 0
        · refine loopO_done ?_
          simp only [f51_s1, if_pos hlt', ixN hlt, Option.bind_some, if_pos h0]
          rw [if_neg (by simp; omega)]
        · by_cases h1 : 1073741824 < l[i]
          · refine loopO_done ?_
            simp only [f51_s1, if_pos hlt', ixN hlt, Option.bind_some, if_neg h0, if_pos h1]
            rw [if_neg (by simp; omega)]
          · rw [loopO_next (show f51_s1 l (i : Int) = some (.inl ((i + 1 : Nat) : Int)) by
              simp only [f51_s1, if_pos hlt', ixN hlt, Option.bind_some, if_neg h0, if_neg h1, wrapN (show i ≤ 10000000000 by omega)])]
            rw [ih (i + 1) hlt (by omega)]
            have : decide (0 ≤ l[i] ∧ l[i] ≤ 1073741824) = true := by simp; omega
            rw [this, Bool.true_and]
      · have : i = l.length := by omega
        subst this
        refine loopO_done ?_
        simp [f51_s1]
  have h := key l.length 0 (Nat.zero_le _) (by omega)
  rw [f51, show (0 : Int) = ((0 : Nat) : Int) from rfl, h]
  simp only [List.drop_zero]
  unfold small
  split <;> rename_i hq
  · rw [hq]; rfl
  · simp only [Bool.not_eq_true] at hq
    rw [hq]; rfl
theorem f55_eq (x : Int) : f55 x = some (decide (0 ≤ x ∧ x ≤ 1073741824)) := by
  unfold f55
  split <;> rename_i h
  · simp [h]
  · simp [h]
theorem small2 {n : Note} (hl : n.Where.length ≤ 100000) : loopO (f44_s2 n) 0 = some (if small n.Where then .inr () else .inl false) := by
  have key : ∀ k i, i ≤ n.Where.length → n.Where.length - i ≤ k → loopO (f44_s2 n) (i : Int) = some (if (n.Where.drop i).all (fun x => decide (0 ≤ x ∧ x ≤ 1073741824)) then .inr () else .inl false) := by
    intro k
    induction k with
    | zero =>
      intro i hi hn
      have : i = n.Where.length := by omega
      subst this
      refine loopO_done ?_
      simp [f44_s2]
    | succ k ih =>
      intro i hi hn
      by_cases hlt : i < n.Where.length
      · rw [List.drop_eq_getElem_cons hlt, List.all_cons]
        have hlt' : (i : Int) < n.Where.length := by omega
        by_cases h0 : 0 ≤ n.Where[i] ∧ n.Where[i] ≤ 1073741824
        · rw [loopO_next (show f44_s2 n (i : Int) = some (.inl ((i + 1 : Nat) : Int)) by
            simp only [f44_s2, if_pos hlt', ixN hlt, Option.bind_some, f55_eq, decide_eq_true h0, if_true, wrapN (show i ≤ 10000000000 by omega)])]
          rw [ih (i + 1) hlt (by omega), decide_eq_true h0, Bool.true_and]
        · refine loopO_done ?_
          simp only [f44_s2, if_pos hlt', ixN hlt, Option.bind_some, f55_eq, decide_eq_false h0]
          simp
      · have : i = n.Where.length := by omega
        subst this
        refine loopO_done ?_
        simp [f44_s2]
  exact key n.Where.length 0 (Nat.zero_le _) (by omega)
theorem j1_dec (n : Note) (a b c : Int) : f41_j1 n (a, b, c) = some (decide ((n.Where.length : Int) ≤ a ∧ (n.A.length : Int) ≤ b ∧ (n.B.length : Int) ≤ c)) := by
  rw [f41_j1]
  by_cases h1 : (n.Where.length : Int) ≤ a
  · rw [if_pos h1]
    by_cases h2 : (n.A.length : Int) ≤ b
    · rw [if_pos h2]; exact congrArg some (decide_eq_decide.2 ⟨fun h => ⟨h1, h2, h⟩, fun h => h.2.2⟩)
    · rw [if_neg h2, decide_eq_false (fun h => h2 h.2.1)]
  · rw [if_neg h1, decide_eq_false (fun h => h1 h.1)]
theorem j2_dec (n : Note) : f44_j2 n () = some (decide ((n.B.length : Int) ≤ 1048576 ∧ (n.B.length = 0 ∨ n.Kind = 8))) := by
  rw [f44_j2]
  by_cases h1 : (n.B.length : Int) ≤ 1048576
  · rw [if_pos h1]
    by_cases h2 : (n.B.length : Int) = 0
    · rw [if_pos h2, decide_eq_true (show (n.B.length : Int) ≤ 1048576 ∧ (n.B.length = 0 ∨ n.Kind = 8) from ⟨h1, .inl (by omega)⟩)]
    · rw [if_neg h2]; exact congrArg some (decide_eq_decide.2 ⟨fun h => ⟨h1, .inr h⟩, fun h => by omega⟩)
  · rw [if_neg h1, decide_eq_false (fun h => h1 h.1)]
theorem j3_dec (n : Note) : f44_j1 n () = some (decide ((n.A.length : Int) ≤ 1048576 ∧ (n.A.length = 0 ∨ n.Kind = 5 ∨ n.Kind = 8) ∧ (n.B.length : Int) ≤ 1048576 ∧ (n.B.length = 0 ∨ n.Kind = 8))) := by
  rw [f44_j1]
  rw [j2_dec]
  by_cases h1 : 1048576 < (n.A.length : Int)
  · rw [if_pos h1, decide_eq_false (fun h => by omega)]
  rw [if_neg h1]
  by_cases h2 : 0 < (n.A.length : Int)
  · rw [if_pos h2]
    by_cases k5 : n.Kind = 5
    · rw [if_pos k5]; exact congrArg some (decide_eq_decide.2 ⟨fun h => ⟨by omega, by omega, h⟩, fun h => h.2.2⟩)
    rw [if_neg k5]
    by_cases k8 : n.Kind = 8
    · rw [if_pos k8]; exact congrArg some (decide_eq_decide.2 ⟨fun h => ⟨by omega, by omega, h⟩, fun h => h.2.2⟩)
    · rw [if_neg k8, decide_eq_false (fun h => by omega)]
  · rw [if_neg h2]; exact congrArg some (decide_eq_decide.2 ⟨fun h => ⟨by omega, by omega, h⟩, fun h => h.2.2⟩)
theorem right_eq {n : Note} (hl : n.Where.length ≤ 100000) : ∃ r, f41 n = some r ∧ f44 n = some r ∧ (r = true → 0 ≤ n.Kind ∧ n.Kind ≤ 10 ∧ 0 ≤ n.Task ∧ n.Task ≤ 1073741824 ∧ 0 ≤ n.Try ∧ n.Try ≤ 1073741824 ∧ 0 ≤ n.Part ∧ n.Part ≤ 1073741824) := by
  unfold f41 f44
  by_cases k0 : n.Kind < 0
  · simp only [if_pos k0]; exact ⟨_, rfl, rfl, by simp⟩
  simp only [if_neg k0]
  by_cases k1 : 11 ≤ n.Kind
  · simp only [if_pos k1, if_pos (show 10 < n.Kind by omega)]; exact ⟨_, rfl, rfl, by simp⟩
  simp only [if_neg k1, if_neg (show ¬ 10 < n.Kind by omega), small1 (show [n.Task, n.Try, n.Part].length ≤ 100000 by simp), f55_eq, Option.bind_some, small1 hl, small2 hl]
  by_cases s1 : 0 ≤ n.Task ∧ n.Task ≤ 1073741824
  rotate_left
  · have : small [n.Task, n.Try, n.Part] = false := by simp only [small, List.all_cons, decide_eq_false s1, Bool.false_and]
    simp only [this, decide_eq_false s1]; exact ⟨_, rfl, rfl, by simp⟩
  by_cases s2 : 0 ≤ n.Try ∧ n.Try ≤ 1073741824
  rotate_left
  · have : small [n.Task, n.Try, n.Part] = false := by simp only [small, List.all_cons, decide_eq_false s2, Bool.false_and, Bool.and_false]
    simp only [this, decide_eq_true s1, decide_eq_false s2, if_true]; exact ⟨_, rfl, rfl, by simp⟩
  by_cases s3 : 0 ≤ n.Part ∧ n.Part ≤ 1073741824
  rotate_left
  · have : small [n.Task, n.Try, n.Part] = false := by simp only [small, List.all_cons, decide_eq_false s3, Bool.false_and, Bool.and_false]
    simp only [this, decide_eq_true s1, decide_eq_true s2, decide_eq_false s3, if_true]; exact ⟨_, rfl, rfl, by simp⟩
  have : small [n.Task, n.Try, n.Part] = true := by simp only [small, List.all_cons, decide_eq_true s1, decide_eq_true s2, decide_eq_true s3, List.all_nil, Bool.and_true]
  simp only [this, decide_eq_true s1, decide_eq_true s2, decide_eq_true s3, if_true]
  by_cases sw : small n.Where = true
  rotate_left
  · simp only [Bool.not_eq_true] at sw
    simp only [sw]; exact ⟨_, rfl, rfl, by simp⟩
  simp only [sw, if_true, j1_dec, j3_dec]
  have fin : ∀ x y : Option Bool, x = y → (∃ r, x = some r) → ∃ r, x = some r ∧ y = some r ∧ (r = true → 0 ≤ n.Kind ∧ n.Kind ≤ 10 ∧ 0 ≤ n.Task ∧ n.Task ≤ 1073741824 ∧ 0 ≤ n.Try ∧ n.Try ≤ 1073741824 ∧ 0 ≤ n.Part ∧ n.Part ≤ 1073741824) := by
    rintro x _ rfl ⟨r, h⟩
    exact ⟨r, h, h, fun _ => ⟨by omega, by omega, s1.1, s1.2, s2.1, s2.2, s3.1, s3.2⟩⟩
  have ff : ∀ {p : Prop} [Decidable p], ¬ p → (some false : Option Bool) = some (decide p) := fun h => by rw [decide_eq_false h]
  have e : (if 65536 < (n.Where.length : Int) then some false else if 0 < (n.Where.length : Int) then (if n.Kind = 3 then some (decide ((n.A.length : Int) ≤ 1048576 ∧ (n.A.length = 0 ∨ n.Kind = 5 ∨ n.Kind = 8) ∧ (n.B.length : Int) ≤ 1048576 ∧ (n.B.length = 0 ∨ n.Kind = 8))) else some false) else some (decide ((n.A.length : Int) ≤ 1048576 ∧ (n.A.length = 0 ∨ n.Kind = 5 ∨ n.Kind = 8) ∧ (n.B.length : Int) ≤ 1048576 ∧ (n.B.length = 0 ∨ n.Kind = 8)))) =
      some (decide (((n.Where.length : Int) ≤ 65536 ∧ (n.Where.length = 0 ∨ n.Kind = 3)) ∧ (n.A.length : Int) ≤ 1048576 ∧ (n.A.length = 0 ∨ n.Kind = 5 ∨ n.Kind = 8) ∧ (n.B.length : Int) ≤ 1048576 ∧ (n.B.length = 0 ∨ n.Kind = 8))) := by
    by_cases w1 : 65536 < (n.Where.length : Int)
    · rw [if_pos w1]; exact ff (fun h => by omega)
    rw [if_neg w1]
    by_cases w2 : 0 < (n.Where.length : Int)
    · rw [if_pos w2]
      by_cases w3 : n.Kind = 3
      · rw [if_pos w3]; exact congrArg some (decide_eq_decide.2 ⟨fun h => ⟨⟨by omega, .inr w3⟩, h⟩, fun h => h.2⟩)
      · rw [if_neg w3]; exact ff (fun h => by omega)
    · rw [if_neg w2]; exact congrArg some (decide_eq_decide.2 ⟨fun h => ⟨⟨by omega, .inl (by omega)⟩, h⟩, fun h => h.2⟩)
  rw [e]
  apply fin
  · by_cases k3 : n.Kind = 3
    · rw [if_pos k3]; exact congrArg some (decide_eq_decide.2 (by constructor <;> intro h <;> omega))
    rw [if_neg k3]
    by_cases k8 : n.Kind = 8
    · rw [if_pos k8]; exact congrArg some (decide_eq_decide.2 (by constructor <;> intro h <;> omega))
    rw [if_neg k8]
    by_cases k5 : n.Kind = 5
    · rw [if_pos k5]; exact congrArg some (decide_eq_decide.2 (by constructor <;> intro h <;> omega))
    · rw [if_neg k5]; exact congrArg some (decide_eq_decide.2 (by constructor <;> intro h <;> omega))
  · split
    · exact ⟨_, rfl⟩
    split
    · exact ⟨_, rfl⟩
    split
    · exact ⟨_, rfl⟩
    · exact ⟨_, rfl⟩
end Au
end Go.Proofs.Yd
