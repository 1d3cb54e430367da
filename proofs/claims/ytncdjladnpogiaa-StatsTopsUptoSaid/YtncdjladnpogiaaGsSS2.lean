import Derived.Test.YtncdjladnpogiaaGsSS
set_option linter.all false
set_option linter.unusedVariables false
set_option linter.unusedSimpArgs false
set_option linter.all false
set_option maxRecDepth 8000
set_option maxHeartbeats 1000000
namespace Go.Proofs.Y2
open Go.Gm
namespace Au
/-! ### ranges that change places -/
theorem swap_loop (P M S : List Ranked) : ∀ (A2 B2 A1 B1 : List Ranked), A2.length = B2.length → A1.length = B1.length → P.length + A1.length + A2.length + M.length + B1.length + B2.length ≤ 100000 →
    loopO (f78_21_s1 (P.length : Int) ((P.length + A1.length + A2.length + M.length : Nat) : Int) ((A1.length + A2.length : Nat) : Int)) (P ++ B1 ++ A2 ++ M ++ A1 ++ B2 ++ S, (A1.length : Int)) = some (P ++ (B1 ++ B2) ++ M ++ (A1 ++ A2) ++ S)
  | [], [], A1, B1, _, h1, hl => by
    refine loopO_done ?_
    simp [f78_21_s1]
  | [], b :: B2, _, _, h, _, _ => by simp at h
  | a :: A2, [], _, _, h, _, _ => by simp at h
  | a :: A2, b :: B2, A1, B1, h, h1, hl => by
    have hw1 : IntKind.i64.wrap ((P.length : Int) + (A1.length : Int)) = ((P ++ B1).length : Int) := by rw [i64_id (by omega) (by omega)]; simp; omega
    have hw2 : IntKind.i64.wrap (((P.length + A1.length + (a :: A2).length + M.length : Nat) : Int) + (A1.length : Int)) = ((P ++ B1 ++ a :: A2 ++ M ++ A1).length : Int) := by
      rw [i64_id (by omega) (by simp at hl ⊢; omega)]; simp; omega
    have e1 : P ++ B1 ++ (a :: A2) ++ M ++ A1 ++ (b :: B2) ++ S = (P ++ B1) ++ a :: (A2 ++ M ++ A1 ++ b :: (B2 ++ S)) := by simp
    have e2 : P ++ B1 ++ (a :: A2) ++ M ++ A1 ++ (b :: B2) ++ S = (P ++ B1 ++ a :: A2 ++ M ++ A1) ++ b :: (B2 ++ S) := by simp
    have i1 : ix (P ++ B1 ++ (a :: A2) ++ M ++ A1 ++ (b :: B2) ++ S) ((P ++ B1 ++ a :: A2 ++ M ++ A1).length : Int) = some b := by rw [e2]; exact ix_mid rfl
    have i2 : ix (P ++ B1 ++ (a :: A2) ++ M ++ A1 ++ (b :: B2) ++ S) ((P ++ B1).length : Int) = some a := by rw [e1]; exact ix_mid rfl
    have s1 : (P ++ B1 ++ (a :: A2) ++ M ++ A1 ++ (b :: B2) ++ S).set (P ++ B1).length b = (P ++ B1 ++ b :: A2 ++ M ++ A1) ++ b :: (B2 ++ S) := by rw [e1, set_mid' rfl]; simp
    have hq : (P ++ B1 ++ a :: A2 ++ M ++ A1).length = (P ++ B1 ++ b :: A2 ++ M ++ A1).length := by simp
    have i3 : ix ((P ++ B1 ++ b :: A2 ++ M ++ A1) ++ b :: (B2 ++ S)) ((P ++ B1 ++ a :: A2 ++ M ++ A1).length : Int) = some b := by rw [hq]; exact ix_mid rfl
    have s2 : ((P ++ B1 ++ b :: A2 ++ M ++ A1) ++ b :: (B2 ++ S)).set (P ++ B1 ++ a :: A2 ++ M ++ A1).length a = P ++ (B1 ++ [b]) ++ A2 ++ M ++ (A1 ++ [a]) ++ B2 ++ S := by rw [hq, set_mid' rfl]; simp
    have hstep : f78_21_s1 (P.length : Int) ((P.length + A1.length + (a :: A2).length + M.length : Nat) : Int) ((A1.length + (a :: A2).length : Nat) : Int) (P ++ B1 ++ (a :: A2) ++ M ++ A1 ++ (b :: B2) ++ S, (A1.length : Int)) = some (.inl (P ++ (B1 ++ [b]) ++ A2 ++ M ++ (A1 ++ [a]) ++ B2 ++ S, ((A1 ++ [a]).length : Int))) := by
      simp only [f78_21_s1]
      rw [if_pos (by simp; omega), hw1, hw2, i1, Option.bind_some, i2, Option.bind_some]
      simp only [Int.toNat_natCast, s1, i3, Option.bind_some, s2, wrapN (show A1.length ≤ 10000000000 by omega)]
      simp
    rw [loopO_next hstep]
    have ih := swap_loop P M S A2 B2 (A1 ++ [a]) (B1 ++ [b]) (by simpa using h) (by simp; exact h1) (by simp at hl ⊢; omega)
    have e3 : (P.length + A1.length + (a :: A2).length + M.length : Nat) = P.length + (A1 ++ [a]).length + A2.length + M.length := by simp; omega
    have e4 : (A1.length + (a :: A2).length : Nat) = (A1 ++ [a]).length + A2.length := by simp; omega
    rw [e3, e4, ih]
    simp
theorem swap_eq (P A M B S : List Ranked) (h : A.length = B.length) (hl : P.length + A.length + M.length + B.length ≤ 100000) {a b n : Int} (ha : a = (P.length : Int)) (hb : b = ((P.length + A.length + M.length : Nat) : Int)) (hn : n = (A.length : Int)) :
    f78_21 (P ++ A ++ M ++ B ++ S) a b n = some (P ++ B ++ M ++ A ++ S) := by
  subst ha hb hn
  have := swap_loop P M S A B [] [] h rfl (by simp; omega)
  simp only [List.length_nil, Nat.add_zero, Nat.zero_add, List.append_nil, List.nil_append] at this
  unfold f78_21
  rw [show (0 : Int) = ((0 : Nat) : Int) from rfl, this]
  rfl
theorem rot_loop (P S : List Ranked) (m : Int) : ∀ (k : Nat) (L U V R : List Ranked), U.length + V.length = k → 0 < U.length → 0 < V.length → m = ((P.length + L.length + U.length : Nat) : Int) → P.length + L.length + U.length + V.length + R.length ≤ 100000 →
    ∃ L' U' V' R', loopO (f58_21_s1 m) (P ++ L ++ U ++ V ++ R ++ S, (U.length : Int), (V.length : Int)) = some ((U'.length : Int), P ++ L' ++ U' ++ V' ++ R' ++ S) ∧ U'.length = V'.length ∧ L' ++ V' ++ U' ++ R' = L ++ V ++ U ++ R ∧ m = ((P.length + L'.length + U'.length : Nat) : Int) ∧ P.length + L'.length + U'.length + V'.length + R'.length ≤ 100000 := by
  intro k
  induction k using Nat.strongRecOn with
  | ind k ih =>
    intro L U V R hk hU hV hm hl
    rcases Nat.lt_trichotomy U.length V.length with h | h | h
    · -- the second is longer
      obtain ⟨V1, V2, rfl, hv1⟩ := split_at (l := V) (n := V.length - U.length) (by omega)
      have hv2 : V2.length = U.length := by simp at hv1 h; omega
      have hv1' : V1.length + U.length = (V1 ++ V2).length := by simp; omega
      have w1 : IntKind.i64.wrap (m - (U.length : Int)) = ((P ++ L).length : Int) := by rw [hm, i64_id (by omega) (by omega)]; rw [show (P ++ L).length = P.length + L.length from List.length_append]; omega
      have w2 : IntKind.i64.wrap (IntKind.i64.wrap (m + ((V1 ++ V2).length : Int)) - (U.length : Int)) = (((P ++ L).length + U.length + V1.length : Nat) : Int) := by
        rw [hm, i64_id (show -9223372036854775808 ≤ ((P.length + L.length + U.length : Nat) : Int) + ((V1 ++ V2).length : Int) by omega) (by omega), i64_id (by omega) (by omega)]; simp; omega
      have hs := swap_eq (P ++ L) U V1 V2 (R ++ S) hv2.symm (by simp at hl ⊢; omega) w1 w2 rfl
      have e1 : P ++ L ++ U ++ (V1 ++ V2) ++ R ++ S = P ++ L ++ U ++ V1 ++ V2 ++ (R ++ S) := by simp
      have w3 : IntKind.i64.wrap (((V1 ++ V2).length : Int) - (U.length : Int)) = (V1.length : Int) := by rw [i64_id (by omega) (by omega)]; omega
      have hstep : f58_21_s1 m (P ++ L ++ U ++ (V1 ++ V2) ++ R ++ S, (U.length : Int), ((V1 ++ V2).length : Int)) = some (.inl (P ++ L ++ V2 ++ V1 ++ (U ++ R) ++ S, (V2.length : Int), (V1.length : Int))) := by
        simp only [f58_21_s1]
        rw [if_neg (by omega), if_neg (by omega), e1, hs, Option.bind_some, guardO_ok (by simp; omega), Option.bind_some, w3, hv2]
        simp
      rw [loopO_next hstep]
      obtain ⟨L', U', V', R', q1, q2, q3, q4, q5⟩ := ih (V2.length + V1.length) (by simp at hk; omega) L V2 V1 (U ++ R) rfl (by omega) (by omega) (by rw [hm]; omega) (by simp at hl ⊢; omega)
      exact ⟨L', U', V', R', q1, q2, by rw [q3]; simp, q4, q5⟩
    · refine ⟨L, U, V, R, loopO_done ?_, h, rfl, hm, hl⟩
      simp only [f58_21_s1]
      rw [if_pos (by omega)]
    · -- the first is longer
      obtain ⟨U1, U2, rfl, hu1⟩ := split_at (l := U) (n := V.length) (by omega)
      have hu2 : U2.length + V.length = (U1 ++ U2).length := by simp; omega
      have w1 : IntKind.i64.wrap (m - ((U1 ++ U2).length : Int)) = ((P ++ L).length : Int) := by rw [hm, i64_id (by omega) (by omega)]; rw [show (P ++ L).length = P.length + L.length from List.length_append]; omega
      have w2 : m = (((P ++ L).length + U1.length + U2.length : Nat) : Int) := by rw [hm]; simp; omega
      have hs := swap_eq (P ++ L) U1 U2 V (R ++ S) hu1 (by simp at hl ⊢; omega) w1 w2 (show (V.length : Int) = (U1.length : Int) by omega)
      have e1 : P ++ L ++ (U1 ++ U2) ++ V ++ R ++ S = P ++ L ++ U1 ++ U2 ++ V ++ (R ++ S) := by simp
      have w3 : IntKind.i64.wrap (((U1 ++ U2).length : Int) - (V.length : Int)) = (U2.length : Int) := by rw [i64_id (by omega) (by omega)]; omega
      have hstep : f58_21_s1 m (P ++ L ++ (U1 ++ U2) ++ V ++ R ++ S, ((U1 ++ U2).length : Int), (V.length : Int)) = some (.inl (P ++ (L ++ V) ++ U2 ++ U1 ++ R ++ S, (U2.length : Int), (U1.length : Int))) := by
        simp only [f58_21_s1]
        rw [if_neg (by omega), if_pos (by omega), e1, hs, Option.bind_some, guardO_ok (by simp; omega), Option.bind_some, w3, hu1]
        simp
      rw [loopO_next hstep]
      obtain ⟨L', U', V', R', q1, q2, q3, q4, q5⟩ := ih (U2.length + U1.length) (by simp at hk; omega) (L ++ V) U2 U1 R rfl (by omega) (by omega) (by rw [hm]; simp; omega) (by simp at hl ⊢; omega)
      exact ⟨L', U', V', R', q1, q2, by rw [q3]; simp, q4, q5⟩
theorem rot_eq (P A B S : List Ranked) (hA : 0 < A.length) (hB : 0 < B.length) (hl : P.length + A.length + B.length ≤ 100000) {a m b : Int} (ha : a = (P.length : Int)) (hm : m = ((P.length + A.length : Nat) : Int)) (hb : b = ((P.length + A.length + B.length : Nat) : Int)) :
    f58_21 (P ++ A ++ B ++ S) a m b = some (P ++ B ++ A ++ S) := by
  obtain ⟨L', U', V', R', q1, q2, q3, q4, q5⟩ := rot_loop P S m (A.length + B.length) [] A B [] rfl hA hB (by rw [hm]; simp) (by simp; omega)
  have w1 : IntKind.i64.wrap (m - a) = (A.length : Int) := by rw [hm, ha, i64_id (by omega) (by omega)]; omega
  have w2 : IntKind.i64.wrap (b - m) = (B.length : Int) := by rw [hm, hb, i64_id (by omega) (by omega)]; omega
  have w3 : IntKind.i64.wrap (m - (U'.length : Int)) = ((P ++ L').length : Int) := by rw [q4, i64_id (by omega) (by omega)]; rw [List.length_append]; omega
  have hs := swap_eq (P ++ L') U' [] V' (R' ++ S) q2 (by simp at q5 ⊢; omega) w3 (show m = (((P ++ L').length + U'.length + ([] : List Ranked).length : Nat) : Int) by rw [q4]; simp) rfl
  unfold f58_21
  rw [w1, w2]
  simp only [List.append_nil] at q1
  rw [q1, Option.bind_some]
  have e1 : P ++ L' ++ U' ++ V' ++ R' ++ S = P ++ L' ++ U' ++ [] ++ V' ++ (R' ++ S) := by simp
  simp only
  rw [e1, hs, Option.bind_some, guardO_ok (by simp; omega), Option.bind_some]
  congr 1
  have : L' ++ V' ++ U' ++ R' = B ++ A := by rw [q3]; simp
  have e2 : P ++ L' ++ V' ++ [] ++ U' ++ (R' ++ S) = P ++ (L' ++ V' ++ U' ++ R') ++ S := by simp
  rw [e2, this]
  simp
end Au
end Go.Proofs.Y2
