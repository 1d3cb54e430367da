import Derived.Test.YtncdjladnpogiaaGsSS3
set_option linter.all false
set_option linter.unusedVariables false
set_option linter.unusedSimpArgs false
set_option linter.all false
set_option maxRecDepth 8000
set_option maxHeartbeats 2000000
namespace Go.Proofs.Y2
open Go.Gm
namespace Au
/-- What a merge's recursion does. -/
def MergesN (rec45 : List Ranked → Int → Int → Int → Option (List Ranked)) (n : Nat) : Prop := ∀ (P A B S : List Ranked), A.length + B.length ≤ n → 0 < A.length → 0 < B.length → Srt ltR A → Srt ltR B → P.length + A.length + B.length ≤ 100000 →
  ∃ M, rec45 (P ++ A ++ B ++ S) (P.length : Int) ((P.length + A.length : Nat) : Int) ((P.length + A.length + B.length : Nat) : Int) = some (P ++ M ++ S) ∧ Sorts ltR (A ++ B) M
theorem part_merge {rec45 : List Ranked → Int → Int → Int → Option (List Ranked)} {n : Nat} (h : MergesN rec45 n) (P A B S : List Ranked) (hn : A.length + B.length ≤ n) (hA : Srt ltR A) (hB : Srt ltR B) (hl : P.length + A.length + B.length ≤ 100000) (F : List Ranked → Option (List Ranked)) :
    ∃ M, (if (P.length : Int) < ((P.length + A.length : Nat) : Int) then (if ((P.length + A.length : Nat) : Int) < ((P.length + A.length + B.length : Nat) : Int) then ((rec45 (P ++ A ++ B ++ S) (P.length : Int) ((P.length + A.length : Nat) : Int) ((P.length + A.length + B.length : Nat) : Int)).bind fun x => ((guardO (x.length = (P ++ A ++ B ++ S).length)).bind fun _ => F x)) else F (P ++ A ++ B ++ S)) else F (P ++ A ++ B ++ S)) = F (P ++ M ++ S) ∧ Sorts ltR (A ++ B) M := by
  cases A with
  | nil =>
    refine ⟨B, ?_, by simpa using hB, SF.refl _, rfl⟩
    rw [if_neg (by simp)]; simp
  | cons a A =>
    cases B with
    | nil =>
      refine ⟨a :: A, ?_, by simpa using hA, by rw [List.append_nil]; exact SF.refl _, by simp⟩
      rw [if_pos (by simp; omega), if_neg (by simp)]; simp
    | cons b B =>
      obtain ⟨M, h1, h2⟩ := h P (a :: A) (b :: B) S hn (by simp) (by simp) hA hB hl
      refine ⟨M, ?_, h2⟩
      have hlm := h2.len
      rw [if_pos (by simp; omega), if_pos (by simp; omega), h1, Option.bind_some, guardO_ok (by simp at hlm ⊢; omega), Option.bind_some]
theorem sym_step {rec45 : List Ranked → Int → Int → Int → Option (List Ranked)} {n : Nat} (h : MergesN rec45 n) : MergesN (f45_21b rec45) (n + 1) := by
  intro P A B S hn hA hB sA sB hl
  by_cases c1 : A.length = 1
  · obtain ⟨x, rfl⟩ := List.length_eq_one_iff.1 c1
    exact merge_left P B S x sB hB (by simp at hl; omega) rec45
  by_cases c2 : B.length = 1
  · obtain ⟨x, rfl⟩ := List.length_eq_one_iff.1 c2
    exact merge_right P A S x sA (by omega) (by simp at hl; omega) rec45
  have hlen : (P ++ A ++ B ++ S).length = P.length + A.length + B.length + S.length := by simp; omega
  have ha : P.length < P.length + A.length := by omega
  have hm : P.length + A.length < P.length + A.length + B.length := by omega
  generalize hma : P.length + A.length = m at *
  generalize hbb : m + B.length = b at *
  generalize hmid : (P.length + b) / 2 = mid
  have hmid1 : P.length < mid := by omega
  have hmid2 : mid < b := by omega
  have hwm : IntKind.i64.wrap (shrV .u64 (IntKind.u64.wrap (IntKind.i64.wrap ((P.length : Int) + (b : Int)))) 1) = (mid : Int) := by rw [half (by omega), hmid]
  have hwn : IntKind.i64.wrap ((mid : Int) + (m : Int)) = ((mid + m : Nat) : Int) := by rw [i64_id (by omega) (by omega)]; omega
  -- where the search begins and ends
  obtain ⟨s0, r0, hs0, e0, b1, b2, b3, b4, b5, b6⟩ : ∃ s0 r0 : Nat, s0 ≤ r0 ∧ (if (mid : Int) < (m : Int) then f45_21_j1 (P ++ A ++ B ++ S) (P.length : Int) (m : Int) (b : Int) rec45 (IntKind.i64.wrap (((mid + m : Nat) : Int) - (b : Int)), (mid : Int)) else f45_21_j1 (P ++ A ++ B ++ S) (P.length : Int) (m : Int) (b : Int) rec45 ((P.length : Int), (m : Int))) = f45_21_j1 (P ++ A ++ B ++ S) (P.length : Int) (m : Int) (b : Int) rec45 ((s0 : Int), (r0 : Int)) ∧
      P.length ≤ s0 ∧ r0 ≤ m ∧ r0 ≤ mid ∧ mid + m ≤ s0 + b ∧ (s0 = P.length ∨ mid + m = s0 + b) ∧ (r0 = m ∨ r0 = mid) := by
    by_cases hc : mid < m
    · refine ⟨mid + m - b, mid, by omega, ?_, by omega, by omega, by omega, by omega, by omega, by omega⟩
      rw [if_pos (by omega), i64_id (by omega) (by omega), show ((mid + m : Nat) : Int) - (b : Int) = ((mid + m - b : Nat) : Int) by omega]
    · refine ⟨P.length, m, by omega, ?_, by omega, by omega, by omega, by omega, by omega, by omega⟩
      rw [if_neg (by omega)]
  have hwp : ∀ c : Nat, c < r0 → IntKind.i64.wrap (IntKind.i64.wrap (((mid + m : Nat) : Int) - 1) - (c : Int)) = ((mid + m - 1 - c : Nat) : Int) := fun c hc => by
    rw [i64_id (show -9223372036854775808 ≤ ((mid + m : Nat) : Int) - 1 by omega) (by omega), i64_id (by omega) (by omega)]; omega
  obtain ⟨s, h1, h2, h3, h4, h5⟩ := bisect (step := f45_21_s14 (P ++ A ++ B ++ S) (P.length : Int) (m : Int) (b : Int)) (fun i j => ((j : Int), (i : Int))) (fun c => !ltAt (P ++ A ++ B ++ S) (mid + m - 1 - c) c) s0 r0 hs0 (fun i j a1 a2 a3 => by
    obtain ⟨y, x', c, k1, k2, k3, k4⟩ := cmp_at (l := P ++ A ++ B ++ S) (i := mid + m - 1 - (i + j) / 2) (j := (i + j) / 2) (by omega) (by omega)
    simp only [f45_21_s14]
    rw [if_pos (by omega), hwm, half (i := i) (j := j) (by omega), hwn, hwp _ (by omega), k1, Option.bind_some, k2, Option.bind_some, k3, Option.bind_some]
    by_cases hc : c < 0
    · rw [if_pos hc, if_neg (by rw [k4.1 hc]; simp)]
    · have : ltAt (P ++ A ++ B ++ S) (mid + m - 1 - (i + j) / 2) ((i + j) / 2) = false := by simpa using fun h => hc (k4.2 h)
      rw [if_neg hc, if_pos (by rw [this]; rfl), wrapN (by omega)]) (fun i a1 a2 => by simp [f45_21_s14])
  obtain ⟨A1, A2, rfl, hA1⟩ := split_at (l := A) (n := s - P.length) (by omega)
  obtain ⟨B1, B2, rfl, hB1⟩ := split_at (l := B) (n := mid - s) (by omega)
  have hsA : s = P.length + A1.length := by omega
  have hA2 : m = s + A2.length := by simp at hma; omega
  have hmd : mid = s + B1.length := by omega
  have hB2 : b = m + B1.length + B2.length := by simp at hbb; omega
  have hend : IntKind.i64.wrap (((mid + m : Nat) : Int) - (s : Int)) = ((m + B1.length : Nat) : Int) := by rw [i64_id (by omega) (by omega)]; omega
  -- the elements across
  have x12 : ∀ x ∈ A1, ∀ y ∈ B2, ltR y x = false := by
    intro x hx y hy
    obtain ⟨A1', u, rfl⟩ : ∃ A1' u, A1 = A1' ++ [u] := by
      rcases List.eq_nil_or_concat A1 with h | ⟨A1', u, h⟩
      · rw [h] at hx; cases hx
      · exact ⟨A1', u, by rw [h]; simp⟩
    cases B2 with
    | nil => cases hy
    | cons v B2' =>
      have huv : ltR v u = false := by
        rcases h4 with h4 | h4
        · exfalso
          simp at hsA hB2; omega
        · have hu : (P ++ (A1' ++ [u] ++ A2) ++ (B1 ++ v :: B2') ++ S)[s - 1]? = some u := by
            have e : P ++ (A1' ++ [u] ++ A2) ++ (B1 ++ v :: B2') ++ S = (P ++ A1') ++ u :: (A2 ++ (B1 ++ v :: B2') ++ S) := by simp
            rw [e, show s - 1 = (P ++ A1').length by simp at hsA ⊢; omega]
            exact at_mid _ _ _
          have hv : (P ++ (A1' ++ [u] ++ A2) ++ (B1 ++ v :: B2') ++ S)[mid + m - 1 - (s - 1)]? = some v := by
            have e : P ++ (A1' ++ [u] ++ A2) ++ (B1 ++ v :: B2') ++ S = (P ++ (A1' ++ [u] ++ A2) ++ B1) ++ v :: (B2' ++ S) := by simp
            rw [e, show mid + m - 1 - (s - 1) = (P ++ (A1' ++ [u] ++ A2) ++ B1).length by simp at hsA hma ⊢; omega]
            exact at_mid _ _ _
          rw [ltAt_some hv hu] at h4
          simpa using h4
      have hxu : ltR u x = false := by
        rcases List.mem_append.1 hx with h | h
        · exact sA.left.cross x h u (by simp)
        · simp at h; subst h; exact swoR.irr _
      have hvy : ltR y v = false := by
        rcases List.mem_cons.1 hy with rfl | h
        · exact swoR.irr _
        · exact (List.pairwise_cons.1 sB.right).1 y h
      exact swoR.le_trans (swoR.le_trans hxu huv) hvy
  have x21 : ∀ x ∈ A2, ∀ y ∈ B1, ltR y x = true := by
    intro x hx y hy
    obtain ⟨B1', v, rfl⟩ : ∃ B1' v, B1 = B1' ++ [v] := by
      rcases List.eq_nil_or_concat B1 with h | ⟨B1', v, h⟩
      · rw [h] at hy; cases hy
      · exact ⟨B1', v, by rw [h]; simp⟩
    cases A2 with
    | nil => cases hx
    | cons u A2' =>
      have huv : ltR v u = true := by
        rcases h5 with h5 | h5
        · exfalso
          simp at hsA hma hmd hA2; omega
        · have hu : (P ++ (A1 ++ u :: A2') ++ (B1' ++ [v] ++ B2) ++ S)[s]? = some u := by
            have e : P ++ (A1 ++ u :: A2') ++ (B1' ++ [v] ++ B2) ++ S = (P ++ A1) ++ u :: (A2' ++ (B1' ++ [v] ++ B2) ++ S) := by simp
            rw [e, show s = (P ++ A1).length by simp at hsA ⊢; omega]
            exact at_mid _ _ _
          have hv : (P ++ (A1 ++ u :: A2') ++ (B1' ++ [v] ++ B2) ++ S)[mid + m - 1 - s]? = some v := by
            have e : P ++ (A1 ++ u :: A2') ++ (B1' ++ [v] ++ B2) ++ S = (P ++ (A1 ++ u :: A2') ++ B1') ++ v :: (B2 ++ S) := by simp
            rw [e, show mid + m - 1 - s = (P ++ (A1 ++ u :: A2') ++ B1').length by simp at hsA hma hmd ⊢; omega]
            exact at_mid _ _ _
          rw [ltAt_some hv hu] at h5
          simpa using h5
      have hux : ltR x u = false := by
        rcases List.mem_cons.1 hx with rfl | h
        · exact swoR.irr _
        · exact (List.pairwise_cons.1 sA.right).1 x h
      have hyv : ltR v y = false := by
        rcases List.mem_append.1 hy with h | h
        · exact sB.left.cross y h v (by simp)
        · simp at h; subst h; exact swoR.irr _
      exact swoR.lt_le (swoR.le_lt hyv huv) hux
  -- the parts
  obtain ⟨M1, k1, k2⟩ := part_merge h P A1 B1 (A2 ++ B2 ++ S) (by omega) sA.left sB.left (by omega) (fun l => f45_21_j3 (P.length : Int) (m : Int) (b : Int) rec45 (s : Int) l)
  have hM1 := k2.len
  have hPM : (P ++ M1).length = mid := by simp at hM1 ⊢; omega
  obtain ⟨M2, q1, q2⟩ := part_merge h (P ++ M1) A2 B2 S (by omega) sA.right sB.right (by simp at hM1 ⊢; omega) some
  have q3 := q2.len
  refine ⟨M1 ++ M2, ?_, ?_, ?_, ?_⟩
  · unfold f45_21b
    rw [if_neg (by rw [i64_id (by omega) (by omega)]; omega), if_neg (by rw [i64_id (by omega) (by omega)]; omega), hwm, hwn, e0]
    simp only [f45_21_j1]
    rw [h1, Option.bind_some]
    simp only [hwm, hwn, hend]
    have stage1 : (if (s : Int) < (m : Int) then (if (m : Int) < ((m + B1.length : Nat) : Int) then ((f58_21 (P ++ (A1 ++ A2) ++ (B1 ++ B2) ++ S) (s : Int) (m : Int) ((m + B1.length : Nat) : Int)).bind fun x240 => ((guardO (x240.length = (P ++ (A1 ++ A2) ++ (B1 ++ B2) ++ S).length)).bind fun x241 => f45_21_j2 (P.length : Int) (m : Int) (b : Int) rec45 (s : Int) x240)) else f45_21_j2 (P.length : Int) (m : Int) (b : Int) rec45 (s : Int) (P ++ (A1 ++ A2) ++ (B1 ++ B2) ++ S)) else f45_21_j2 (P.length : Int) (m : Int) (b : Int) rec45 (s : Int) (P ++ (A1 ++ A2) ++ (B1 ++ B2) ++ S)) = f45_21_j2 (P.length : Int) (m : Int) (b : Int) rec45 (s : Int) (P ++ A1 ++ B1 ++ (A2 ++ B2 ++ S)) := by
      by_cases d1 : A2 = []
      · subst d1
        rw [if_neg (by simp at hA2; omega)]; simp
      by_cases d2 : B1 = []
      · subst d2
        rw [if_pos (by have := List.length_pos_iff.2 d1; omega), if_neg (by simp)]; simp
      have p1 := List.length_pos_iff.2 d1
      have p2 := List.length_pos_iff.2 d2
      rw [if_pos (by omega), if_pos (by omega)]
      have e : P ++ (A1 ++ A2) ++ (B1 ++ B2) ++ S = (P ++ A1) ++ A2 ++ B1 ++ (B2 ++ S) := by simp
      rw [e, rot_eq (P ++ A1) A2 B1 (B2 ++ S) p1 p2 (by simp; omega) (by rw [hsA]; simp) (by rw [hA2, hsA]; simp) (by rw [hA2, hsA]; simp), Option.bind_some, guardO_ok (by simp; omega), Option.bind_some]
      simp
    rw [stage1]
    have e2 : ((P.length + A1.length : Nat) : Int) = (s : Int) := by omega
    have e3 : ((P.length + A1.length + B1.length : Nat) : Int) = (mid : Int) := by omega
    rw [e2, e3] at k1
    simp only [f45_21_j2, hwm]
    rw [k1]
    have e4 : (((P ++ M1).length : Nat) : Int) = (mid : Int) := by omega
    have e5 : (((P ++ M1).length + A2.length : Nat) : Int) = ((m + B1.length : Nat) : Int) := by omega
    have e6 : (((P ++ M1).length + A2.length + B2.length : Nat) : Int) = (b : Int) := by omega
    have e7 : P ++ M1 ++ (A2 ++ B2 ++ S) = P ++ M1 ++ A2 ++ B2 ++ S := by simp
    rw [e4, e5, e6] at q1
    simp only [f45_21_j3, hwm, hwn, hend]
    rw [e7, q1]
    simp
  · refine Srt.append k2.srt q2.srt fun x hx y hy => ?_
    rcases List.mem_append.1 (k2.sf.mem swoR hx) with h | h <;> rcases List.mem_append.1 (q2.sf.mem swoR hy) with h' | h'
    · exact sA.cross x h y h'
    · exact x12 x h y h'
    · exact swoR.asym (x21 y h' x h)
    · exact sB.cross x h y h'
  · refine (SF.append k2.sf q2.sf).trans ?_
    have : SF ltR (A1 ++ (B1 ++ A2) ++ B2) (A1 ++ (A2 ++ B1) ++ B2) := SF.append (SF.append (SF.refl _) (SF.swap swoR x21).symm) (SF.refl _)
    simpa using this
  · simp at hM1 q3 ⊢; omega
theorem sym_all : ∀ n : Nat, MergesN (f45_21 n) n
  | 0 => fun P A B S hn hA hB => by omega
  | n + 1 => sym_step (sym_all n)
theorem sym_eq (P A B S : List Ranked) (hA : 0 < A.length) (hB : 0 < B.length) (sA : Srt ltR A) (sB : Srt ltR B) (hl : P.length + A.length + B.length ≤ 100000) :
    ∃ M, f45_21 fuel (P ++ A ++ B ++ S) (P.length : Int) ((P.length + A.length : Nat) : Int) ((P.length + A.length + B.length : Nat) : Int) = some (P ++ M ++ S) ∧ Sorts ltR (A ++ B) M :=
  sym_all fuel P A B S (Nat.le_trans (show A.length + B.length ≤ 100000 by omega) (by decide)) hA hB sA sB hl
end Au
end Go.Proofs.Y2
