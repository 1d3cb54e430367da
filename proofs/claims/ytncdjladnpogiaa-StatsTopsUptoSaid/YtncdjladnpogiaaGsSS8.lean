import Derived.Test.YtncdjladnpogiaaGsSS7
set_option linter.all false
set_option linter.unusedVariables false
set_option linter.unusedSimpArgs false
set_option linter.all false
set_option maxRecDepth 8000
set_option maxHeartbeats 1000000
namespace Go.Proofs.Y2
open Go.Gm
namespace Au
theorem same_ints {l : List Int} (hl : l.length ≤ 1000000) : f10 l l = some true := by
  have k := loopN_done (step := f10_s1 l l) (fun i => (i : Int)) l.length (r := .inr ()) (fun i hi => by
    simp only [f10_s1, if_pos (show (i : Int) < l.length by omega), ixN hi, Option.bind_some, if_true, wrapN (show i ≤ 10000000000 by omega)]) (by simp [f10_s1])
  unfold f10
  rw [if_pos rfl, show (0 : Int) = ((0 : Nat) : Int) from rfl, k]
  rfl
theorem same_rows {l : List Res} (hl : l.length ≤ 1000000) (ho : ∀ q ∈ l, q.Offs.length ≤ 1000000) : f7 l l = some true := by
  have k := loopN_done (step := f7_s1 l l) (fun i => (i : Int)) l.length (r := .inr ()) (fun i hi => by
    simp only [f7_s1, if_pos (show (i : Int) < l.length by omega), ixN hi, Option.bind_some, if_true, same_ints (ho _ (List.getElem_mem hi)), wrapN (show i ≤ 10000000000 by omega)]) (by simp [f7_s1])
  unfold f7
  rw [if_pos rfl, show (0 : Int) = ((0 : Nat) : Int) from rfl, k]
  rfl
theorem records_some {b : List Int} (hl : b.length ≤ 300) : ∃ r e1 e2, f6 b = some (r, e1, e2) ∧ r.length ≤ 1000 := by
  have key : ∃ r, loopO (f6_s1 b) ([], 0, 0) = some r ∧ ((∃ x, r = .inl x ∧ x.1.length ≤ 1000) ∨ ∃ l, r = .inr l ∧ l.length ≤ 1000) := by
    refine loopO_of (fun k s => ∃ i j : Nat, s.2 = ((i : Int), (j : Int)) ∧ i ≤ j ∧ j ≤ b.length + 1 ∧ s.1.length ≤ j ∧ k = b.length + 1 - j) ?_ (k := b.length + 1) ⟨0, 0, rfl, by omega, by omega, by simp, by omega⟩
    rintro k ⟨l, s, t⟩ ⟨i, j, e, hij, hj, hll, rfl⟩
    obtain ⟨rfl, rfl⟩ := Prod.ext_iff.1 e
    simp only at hll
    have hw : IntKind.i64.wrap ((j : Int) + 1) = ((j + 1 : Nat) : Int) := wrapN (by omega)
    by_cases h1 : j ≤ b.length
    · have j3 : f6_j3 b l (i : Int) (j : Int) () = some (.inl (l ++ [⟨(i : Int), strOfNums ((b.drop i).take (j - i))⟩], ((j + 1 : Nat) : Int), ((j + 1 : Nat) : Int))) := by
        simp only [f6_j3]
        rw [if_neg (by rw [i64_id (by omega) (by omega)]; omega), if_neg (by omega), cutO?_some.2 ⟨⟨by omega, by omega, by omega⟩, rfl⟩, Option.bind_some, appO_ok' (by omega) (by simp), Option.bind_some, hw]
        simp
      have i3 : ∃ i' j' : Nat, (((j + 1 : Nat) : Int), ((j + 1 : Nat) : Int)) = ((i' : Int), (j' : Int)) ∧ i' ≤ j' ∧ j' ≤ b.length + 1 ∧ (l ++ [(⟨(i : Int), strOfNums ((b.drop i).take (j - i))⟩ : Record)]).length ≤ j' ∧ b.length - j = b.length + 1 - j' := ⟨j + 1, j + 1, rfl, by omega, by omega, by simp; omega, by omega⟩
      have i4 : ∃ i' j' : Nat, ((i : Int), ((j + 1 : Nat) : Int)) = ((i' : Int), (j' : Int)) ∧ i' ≤ j' ∧ j' ≤ b.length + 1 ∧ l.length ≤ j' ∧ b.length - j = b.length + 1 - j' := ⟨i, j + 1, rfl, by omega, by omega, by omega, by omega⟩
      simp only [f6_s1, if_pos (show (j : Int) ≤ b.length by omega), hw, j3]
      by_cases h2 : j < b.length
      · simp only [if_pos (show (j : Int) < b.length by omega), ixN h2, Option.bind_some, if_neg (show ¬ (j : Int) = b.length by omega)]
        by_cases h3 : b[j] = 10
        · rw [if_pos h3]
          exact .inl ⟨_, b.length - j, rfl, by omega, i3⟩
        · rw [if_neg h3]
          exact .inl ⟨_, b.length - j, rfl, by omega, i4⟩
      · simp only [if_neg (show ¬ (j : Int) < b.length by omega), if_pos (show (j : Int) = b.length by omega)]
        by_cases h3 : (i : Int) = (j : Int)
        · rw [if_pos h3]
          exact .inl ⟨_, b.length - j, rfl, by omega, i4⟩
        · rw [if_neg h3]
          exact .inl ⟨_, b.length - j, rfl, by omega, i3⟩
    · refine .inr ⟨.inr l, ?_, .inr ⟨l, rfl, by omega⟩⟩
      simp only [f6_s1, if_neg (show ¬ (j : Int) ≤ b.length by omega)]
  obtain ⟨r, h1, h2⟩ := key
  unfold f6
  rw [if_neg (by omega), h1, Option.bind_some]
  rcases h2 with ⟨⟨x, y, z⟩, rfl, h⟩ | ⟨l, rfl, h⟩
  · exact ⟨x, y, z, rfl, h⟩
  · exact ⟨l, _, _, rfl, h⟩
theorem sort4 : sortI [5, 1, 3, 9] = [1, 3, 5, 9] := by
  simp [sortI, List.mergeSort, List.MergeSort.Internal.splitInTwo]
theorem live_ok : f5 = some true := by
  unfold f5 f19 f31_43 f41_43 f42 f32
  rw [if_neg (by decide), Option.bind_some, if_pos (by decide), Option.bind_some, if_pos (by decide), Option.bind_some, Option.bind_some, sort4]
  have : ix ([1, 3, 5, 9] : List Int) (IntKind.i64.wrap ((IntKind.i64.wrap (((([1, 3, 5, 9] : List Int).length : Nat) : Int) - 1)).tdiv 2)) = some 3 := by kernel_rfl
  rw [this]
  rfl
theorem much_loop {l : List Res} (hl : l.length ≤ 40) (hs : ∀ q ∈ l, q.Key.size ≤ 2000000 ∧ q.Val.size ≤ 2000000 ∧ q.Offs.length ≤ 2000000) : ∃ r, loopO (f3_s2 l) 0 = some r ∧ (r = .inl true ∨ (r = .inr () ∧ ∀ q ∈ l, q.Key.size ≤ 200 ∧ q.Offs.length ≤ 40)) := by
  refine loopO_of (I := fun k s => ∃ i : Nat, s = (i : Int) ∧ i ≤ l.length ∧ k = l.length - i ∧ ∀ q ∈ l.take i, q.Key.size ≤ 200 ∧ q.Offs.length ≤ 40) ?_ (k := l.length) ⟨0, rfl, by omega, by omega, by simp⟩
  rintro k _ ⟨i, rfl, hi, hk, ho⟩
  by_cases hlt : i < l.length
  · have hq := hs _ (List.getElem_mem hlt)
    have hw : IntKind.i64.wrap ((l[i].Key.size : Int) + (l[i].Val.size : Int)) = (l[i].Key.size : Int) + (l[i].Val.size : Int) := i64_id (by omega) (by omega)
    by_cases h1 : 40 < (l[i].Offs.length : Int)
    · refine .inr ⟨.inl true, ?_, .inl rfl⟩
      simp only [f3_s2, if_pos (show (i : Int) < l.length by omega), ixN hlt, Option.bind_some, hw, if_pos h1, live_ok]
    by_cases h2 : 200 < (l[i].Key.size : Int) + (l[i].Val.size : Int)
    · refine .inr ⟨.inl true, ?_, .inl rfl⟩
      simp only [f3_s2, if_pos (show (i : Int) < l.length by omega), ixN hlt, Option.bind_some, hw, if_neg h1, if_pos h2, live_ok]
    refine .inl ⟨((i + 1 : Nat) : Int), k - 1, ?_, by omega, i + 1, rfl, hlt, by omega, ?_⟩
    · simp only [f3_s2, if_pos (show (i : Int) < l.length by omega), ixN hlt, Option.bind_some, hw, if_neg h1, if_neg h2, wrapN (show i ≤ 10000000000 by omega)]
    · intro q hqm
      rw [List.take_succ_eq_append_getElem hlt] at hqm
      rcases List.mem_append.1 hqm with h | h
      · exact ho q h
      · simp only [List.mem_cons, List.not_mem_nil, or_false] at h
        subst h
        exact ⟨by omega, by omega⟩
  · refine .inr ⟨.inr (), ?_, .inr ⟨rfl, ?_⟩⟩
    · simp only [f3_s2, if_neg (show ¬ (i : Int) < l.length by omega)]
    · rw [List.take_of_length_le (by omega)] at ho; exact ho
theorem law3 {l : List Res} {a b : Int} {c : List Int} (hs : ∀ q ∈ l, q.Key.size ≤ 2000000 ∧ q.Val.size ≤ 2000000 ∧ q.Offs.length ≤ 2000000) : f3 l a b c = some true := by
  unfold f3
  by_cases h1 : 40 < (l.length : Int)
  · rw [if_pos h1, live_ok]; rfl
  rw [if_neg h1]
  by_cases h2 : 300 < (c.length : Int)
  · rw [if_pos h2, live_ok]; rfl
  rw [if_neg h2]
  obtain ⟨r, h3, h4⟩ := much_loop (l := l) (by omega) hs
  rw [h3, Option.bind_some]
  rcases h4 with rfl | ⟨rfl, h4⟩
  · rfl
  obtain ⟨rs, e1, e2, r1, r2⟩ := records_some (b := c) (by omega)
  obtain ⟨rr, t1, t2⟩ := top1 (a0 := l) (a1 := a) (by omega) (fun q hq => by have := h4 q hq; omega)
  have t3 := top2 (a1 := a) (by omega) t2
  have t4 : f7 (rr.take (min a.toNat l.length)) (rr.take (min a.toNat l.length)) = some true := by
    have hlen := t2.len
    refine same_rows (by rw [List.length_take]; omega) (fun q hq => ?_)
    have := h4 q (t2.sf.mem swoS (List.mem_of_mem_take hq))
    omega
  obtain ⟨bl, b1, b2, b3⟩ := balance_eq (a0 := l) (by omega) (fun q hq => by have := h4 q hq; omega) b
  have u1 := reach1 (a0 := l) (rs := rs) (by omega) (fun q hq => by have := h4 q hq; omega) (by omega)
  have u2 := reach2 (a0 := l) (rs := rs) (by omega) (fun q hq => by have := h4 q hq; omega) (by omega)
  simp only [r1, t1, t3, t4, b1, b2, same_ints (show bl.length ≤ 1000000 by omega), u1, u2, same_ints (show (rs.map (cnt l)).length ≤ 1000000 by rw [List.length_map]; omega), live_ok, Option.bind_some, if_true]
end Au
end Go.Proofs.Y2
