import Derived.Test.YtlonihmeikmpiaaGrDMf10
set_option linter.all false
set_option linter.unusedVariables false
set_option linter.unusedSimpArgs false
set_option linter.all false
set_option maxRecDepth 8000
namespace Go.Proofs.Y1
open Go.Gm
namespace Au
theorem i64_id {n : Int} (h0 : -9223372036854775808 ≤ n) (h1 : n < 9223372036854775808) : IntKind.i64.wrap n = n := by
  simp only [IntKind.wrap, IntKind.bits, IntKind.signed, Bool.true_and]
  split
  · rename_i h; simp only [ge_iff_le, decide_eq_true_eq] at h; omega
  · rename_i h; simp only [ge_iff_le, decide_eq_true_eq] at h; omega
theorem wrapN {i : Nat} (h : i ≤ 10000000000) : IntKind.i64.wrap ((i : Int) + 1) = ((i + 1 : Nat) : Int) := by rw [i64_id (by omega) (by omega)]; omega
theorem ixN {α : Type} {l : List α} {i : Nat} (h : i < l.length) : ix l (i : Int) = some l[i] := ix_some.2 ⟨by omega, by simp [List.getElem?_eq_getElem h]⟩
theorem cnt_lt (v : Int) : ∀ {s : List Int}, s.Pairwise (fun a b => a ≤ b) → ∀ (k : Nat) (hk : k < s.length), s[k] < v ↔ k < s.countP (fun x => decide (x < v))
  | [], _, k, hk => by simp at hk
  | y :: t, h, k, hk => by
    obtain ⟨h1, h2⟩ := List.pairwise_cons.1 h
    by_cases hy : y < v
    · rw [List.countP_cons_of_pos (by simpa using hy)]
      cases k with
      | zero => simp [hy]
      | succ k =>
        simp only [List.getElem_cons_succ]
        rw [cnt_lt v h2 k (by simpa using hk)]; omega
    · have h0 : t.countP (fun x => decide (x < v)) = 0 := by
        rw [List.countP_eq_zero]
        intro x hx
        have := h1 x hx
        simp; omega
      rw [List.countP_cons_of_neg (by simpa using hy), h0]
      constructor
      · intro hlt
        cases k with
        | zero => simp only [List.getElem_cons_zero] at hlt; omega
        | succ k =>
          simp only [List.getElem_cons_succ] at hlt
          have := h1 _ (List.getElem_mem (show k < t.length by simpa using hk)); omega
      · omega
theorem cnt_add (v : Int) : ∀ s : List Int, s.countP (fun x => decide (x < v + 1)) = s.countP (fun x => decide (x < v)) + s.countP (fun x => decide (x = v))
  | [] => rfl
  | y :: t => by
    simp only [List.countP_cons, cnt_add v t, decide_eq_true_eq]
    by_cases q1 : y < v
    · rw [if_pos (by omega), if_pos q1, if_neg (by omega)]; omega
    · by_cases q2 : y = v
      · rw [if_pos (by omega), if_neg q1, if_pos q2]; omega
      · rw [if_neg (by omega), if_neg q1, if_neg q2]; omega
theorem cnt_le (v : Int) : ∀ {s : List Int}, s.Pairwise (fun a b => a ≤ b) → ∀ (k : Nat) (hk : k < s.length), s[k] ≤ v ↔ k < s.countP (fun x => decide (x < v)) + s.countP (fun x => decide (x = v)) := fun {s} h k hk => by
  have h1 := cnt_lt (v + 1) h k hk
  have h2 := cnt_add v s
  rw [← h2, ← h1]; omega
theorem med {l : List Int} {m : Nat} (hm : m < (sortI l).length) (v : Int) : (sortI l)[m] = v ↔ l.countP (fun x => decide (x < v)) ≤ m ∧ m < l.countP (fun x => decide (x < v)) + l.countP (fun x => decide (x = v)) := by
  have hp : (sortI l).Perm l := List.mergeSort_perm _ _
  have hs : (sortI l).Pairwise (fun a b => a ≤ b) := by
    have h := List.pairwise_mergeSort (le := fun x y : Int => decide (x ≤ y)) (fun a b c h k => by simp only [decide_eq_true_eq] at *; omega) (fun a b => by simp only [Bool.or_eq_true, decide_eq_true_eq]; omega) l
    exact h.imp fun hab => by simpa using hab
  have h1 := cnt_lt v hs m hm
  have h2 := cnt_le v hs m hm
  rw [hp.countP_eq] at h1
  rw [hp.countP_eq, hp.countP_eq] at h2
  omega
theorem prog_med {l : List Int} (hl : l ≠ []) (hn : l.length ≤ 1000000) : ∃ hm : (l.length - 1) / 2 < (sortI l).length, f52 l = some (sortI l)[(l.length - 1) / 2] := by
  have hpos : 0 < l.length := List.length_pos_iff.2 hl
  have hlen : (sortI l).length = l.length := sortI_len l
  have hm : (l.length - 1) / 2 < (sortI l).length := by omega
  refine ⟨hm, ?_⟩
  have w1 : IntKind.i64.wrap ((l.length : Int) - 1) = (l.length : Int) - 1 := i64_id (by omega) (by omega)
  have w2 : IntKind.i64.wrap (((l.length : Int) - 1).tdiv 2) = (((l.length - 1) / 2 : Nat) : Int) := by
    rw [Int.tdiv_eq_ediv_of_nonneg (by omega), i64_id (by omega) (by omega)]; omega
  simp only [f52, if_neg (show ¬ (l.length : Int) = 0 by omega), f98, Option.bind_some, f97_130, f128_130, if_pos (show l.length ≤ 2147483648 by omega), f129, if_pos (show l.length < 4611686018427387904 by omega), hlen, w1, w2, ixN hm]
theorem ref_med {l : List Int} (hl : l ≠ []) (hn : l.length ≤ 1000000) : ∃ hm : (l.length - 1) / 2 < (sortI l).length, f53 l = some (sortI l)[(l.length - 1) / 2] := by
  have hpos : 0 < l.length := List.length_pos_iff.2 hl
  have hlen : (sortI l).length = l.length := sortI_len l
  have hm : (l.length - 1) / 2 < (sortI l).length := by omega
  refine ⟨hm, ?_⟩
  have w1 : IntKind.i64.wrap ((l.length : Int) - 1) = (l.length : Int) - 1 := i64_id (by omega) (by omega)
  have w2 : IntKind.i64.wrap (((l.length : Int) - 1).tdiv 2) = (((l.length - 1) / 2 : Nat) : Int) := by
    rw [Int.tdiv_eq_ediv_of_nonneg (by omega), i64_id (by omega) (by omega)]; omega
  have hin : ∀ (i : Nat) (hi : i < l.length), loopO (f53_s7 l (i : Int)) (0, 0, 0) = some (((l.countP (fun x => decide (x < l[i])) : Nat) : Int), ((l.countP (fun x => decide (x = l[i])) : Nat) : Int)) := fun i hi => by
    have key : ∃ r, loopO (f53_s7 l (i : Int)) (0, 0, 0) = some r ∧ r = (((l.countP (fun x => decide (x < l[i])) : Nat) : Int), ((l.countP (fun x => decide (x = l[i])) : Nat) : Int)) := by
      refine loopO_of (fun n t => ∃ k : Nat, t = ((((l.take k).countP (fun x => decide (x < l[i])) : Nat) : Int), (((l.take k).countP (fun x => decide (x = l[i])) : Nat) : Int), (k : Int)) ∧ k ≤ l.length ∧ n = l.length - k) ?_ (k := l.length) ⟨0, by simp, by omega, by omega⟩
      rintro n _ ⟨k, rfl, hk, hn'⟩
      by_cases hlt : k < l.length
      · have hc1 := List.countP_le_length (p := fun x => decide (x < l[i])) (l := l.take k)
        have hc2 := List.countP_le_length (p := fun x => decide (x = l[i])) (l := l.take k)
        rw [List.length_take] at hc1 hc2
        have tk : l.take (k + 1) = l.take k ++ [l[k]] := by rw [List.take_add_one, List.getElem?_eq_getElem hlt]; rfl
        refine .inl ⟨((((l.take (k + 1)).countP (fun x => decide (x < l[i])) : Nat) : Int), (((l.take (k + 1)).countP (fun x => decide (x = l[i])) : Nat) : Int), ((k + 1 : Nat) : Int)), n - 1, ?_, by omega, k + 1, rfl, by omega, by omega⟩
        simp only [f53_s7, if_pos (show (k : Int) < l.length by omega), ixN hlt, ixN hi, Option.bind_some, f53_j13, tk, List.countP_append, List.countP_cons, List.countP_nil, decide_eq_true_eq]
        by_cases q1 : l[k] < l[i]
        · simp only [if_pos q1, if_neg (show ¬ l[k] = l[i] by omega), wrapN (show k ≤ 10000000000 by omega), wrapN (show (l.take k).countP (fun x => decide (x < l[i])) ≤ 10000000000 by omega), Nat.add_zero, Nat.zero_add]
        · by_cases q2 : l[k] = l[i]
          · simp only [if_neg q1, if_pos q2, wrapN (show k ≤ 10000000000 by omega), wrapN (show (l.take k).countP (fun x => decide (x = l[i])) ≤ 10000000000 by omega), Nat.add_zero, Nat.zero_add]
          · simp only [if_neg q1, if_neg q2, wrapN (show k ≤ 10000000000 by omega), Nat.add_zero]
      · have : k = l.length := by omega
        subst this
        exact .inr ⟨_, by simp only [f53_s7, if_neg (show ¬ ((l.length : Nat) : Int) < l.length by omega), List.take_length], rfl⟩
    obtain ⟨r, h, rfl⟩ := key
    exact h
  have hex : (sortI l)[(l.length - 1) / 2] ∈ l := (List.mergeSort_perm _ _).mem_iff.1 (List.getElem_mem hm)
  have key : ∃ r, loopO (f53_s1 l) 0 = some r ∧ r = .inl (sortI l)[(l.length - 1) / 2] := by
    refine loopO_of (fun n t => ∃ i : Nat, t = (i : Int) ∧ i ≤ l.length ∧ n = l.length - i ∧ ∀ (j : Nat) (hj : j < l.length), j < i → l[j] ≠ (sortI l)[(l.length - 1) / 2]) ?_ (k := l.length) ⟨0, rfl, by omega, by omega, fun j _ hj => by omega⟩
    rintro n _ ⟨i, rfl, hi, hn', hp⟩
    by_cases hlt : i < l.length
    · have hmed := med hm l[i]
      have hc1 := List.countP_le_length (p := fun x => decide (x < l[i])) (l := l)
      have hc2 := List.countP_le_length (p := fun x => decide (x = l[i])) (l := l)
      have w3 : IntKind.i64.wrap (((l.countP (fun x => decide (x < l[i])) : Nat) : Int) + ((l.countP (fun x => decide (x = l[i])) : Nat) : Int)) = ((l.countP (fun x => decide (x < l[i])) : Nat) : Int) + ((l.countP (fun x => decide (x = l[i])) : Nat) : Int) := i64_id (by omega) (by omega)
      by_cases q : (sortI l)[(l.length - 1) / 2] = l[i]
      · obtain ⟨a1, a2⟩ := hmed.1 q
        refine .inr ⟨.inl l[i], ?_, by rw [q]⟩
        simp only [f53_s1, if_pos (show (i : Int) < l.length by omega), hin i hlt, Option.bind_some, w1, w2, w3]
        rw [if_pos (by omega), if_pos (by omega), ixN hlt]; rfl
      · refine .inl ⟨((i + 1 : Nat) : Int), n - 1, ?_, by omega, i + 1, rfl, by omega, by omega, fun j hj hji => ?_⟩
        · have hno : ¬ (l.countP (fun x => decide (x < l[i])) ≤ (l.length - 1) / 2 ∧ (l.length - 1) / 2 < l.countP (fun x => decide (x < l[i])) + l.countP (fun x => decide (x = l[i]))) := fun h => q (hmed.2 h)
          simp only [f53_s1, if_pos (show (i : Int) < l.length by omega), hin i hlt, Option.bind_some, w1, w2, w3]
          by_cases a1 : ((l.countP (fun x => decide (x < l[i])) : Nat) : Int) ≤ (((l.length - 1) / 2 : Nat) : Int)
          · rw [if_pos a1, if_neg (by omega), wrapN (by omega)]
          · rw [if_neg a1, wrapN (by omega)]
        · by_cases hje : j = i
          · subst hje; exact fun e => q e.symm
          · exact hp j hj (by omega)
    · exfalso
      obtain ⟨j, hj, e⟩ := List.mem_iff_getElem.1 hex
      exact hp j hj (by omega) e
  obtain ⟨r, h, rfl⟩ := key
  rw [f53, h]; rfl
theorem live_ok : f51 = some true := by
  obtain ⟨hm, h⟩ := prog_med (l := [5, 1, 3, 9]) (by simp) (by simp)
  have h3 : (sortI [5, 1, 3, 9])[([5, 1, 3, 9] : List Int).length.sub 1 / 2]'hm = 3 := (med hm 3).2 (by decide)
  have h4 : (sortI [5, 1, 3, 9])[(([5, 1, 3, 9] : List Int).length - 1) / 2] = 3 := h3
  rw [h4] at h
  rw [f51, h]; rfl
theorem law10 {l : List Int} (hl : l.length ≤ 1048576) : f10 l = some true := by
  by_cases h2 : 200 < (l.length : Int)
  · simp only [f10, if_pos h2, live_ok, Option.bind_some]
  · simp only [f10, if_neg h2]
    by_cases hn : l = []
    · subst hn
      have e1 : f52 [] = some 0 := by rw [f52, if_pos (by rfl)]
      have e2 : f53 [] = some 0 := by
        rw [f53, loopO_done (show f53_s1 [] 0 = some (.inr (.inr ())) by rw [f53_s1, if_neg (by simp)])]; rfl
      simp only [e1, e2, live_ok, Option.bind_some, if_true]
    · obtain ⟨_, e1⟩ := prog_med hn (by omega)
      obtain ⟨_, e2⟩ := ref_med hn (by omega)
      simp only [e1, e2, live_ok, Option.bind_some, if_true]
end Au
end Go.Proofs.Y1
