import Derived.Test.YtpdgnhhjaaencaaGmM2
import Derived.Test.YtpdgnhhjaaencaaGmLi
set_option linter.all false
set_option linter.unusedVariables false
set_option linter.unusedSimpArgs false
set_option linter.all false
set_option maxRecDepth 8000
set_option maxHeartbeats 1000000
namespace Go.Proofs.Y5
open Go.Gm
namespace Au
def ltI (x y : Item) : Bool := sLt x.Key y.Key
theorem sLt_iff (a b : ByteArray) : sLt a b = true ↔ bl a < bl b := by
  have h := (cmp_lt (bl a) (bl b))
  have e := cmpS_eq a b
  constructor
  · intro hs
    rw [if_pos hs] at e
    exact h.2.2 e
  · intro hlt
    have e1 := h.1 hlt
    cases hs : sLt a b with
    | true => rfl
    | false =>
      rw [hs] at e
      simp only [Bool.false_eq_true, if_false] at e
      have e2 : cmpS a b = -1 := e1
      rw [e2] at e
      split at e <;> cases e
theorem sLt_asym {a b : ByteArray} (h : sLt a b = true) : sLt b a = false := by
  cases hb : sLt b a with
  | false => rfl
  | true => exact absurd ((sLt_iff a b).1 h) (List.lt_asymm ((sLt_iff b a).1 hb))
theorem sLt_cotr {a c : ByteArray} (b : ByteArray) (h : sLt a c = true) : sLt a b = true ∨ sLt b c = true := by
  rw [sLt_iff] at h
  rw [sLt_iff, sLt_iff]
  by_cases hab : bl a < bl b
  · exact .inl hab
  · exact .inr (List.lt_of_le_of_lt (List.not_lt.1 hab) h)
theorem swoI : SWO ltI := ⟨fun {x y} h => sLt_asym h, fun {x z} y h => sLt_cotr y.Key h⟩
theorem cmp_eq (x y : Item) : ∃ c, f31 x y = some c ∧ (c < 0 ↔ ltI x y = true) := by
  unfold f31 ltI
  by_cases h1 : sLt x.Key y.Key = true
  · rw [if_pos h1]; exact ⟨_, rfl, by simp [h1]⟩
  · rw [if_neg h1]
    split
    · exact ⟨_, rfl, by simp [h1]⟩
    · exact ⟨_, rfl, by simp [h1]⟩
/-! ### two neighbours -/
theorem nb_ix0 (Q : List Item) (y x : Item) (R : List Item) : ix (Q ++ y :: x :: R) (Q.length : Int) = some y := ix_mid rfl
theorem nb_ix1 (Q : List Item) (y x : Item) (R : List Item) : ix (Q ++ y :: x :: R) ((Q.length + 1 : Nat) : Int) = some x := by
  rw [show Q ++ y :: x :: R = (Q ++ [y]) ++ x :: R by simp]
  exact ix_mid (by simp)
theorem nb_set1 (Q : List Item) (y x z : Item) (R : List Item) : (Q ++ y :: x :: R).set (Q.length + 1) z = Q ++ y :: z :: R := by
  rw [show Q ++ y :: x :: R = (Q ++ [y]) ++ x :: R by simp, set_mid' (by simp)]
  simp
theorem nb_set0 (Q : List Item) (y x z : Item) (R : List Item) : (Q ++ y :: x :: R).set Q.length z = Q ++ z :: x :: R := set_mid' rfl
theorem wrapS {n : Nat} (h : n ≤ 10000000000) : IntKind.i64.wrap (((n + 1 : Nat) : Int) - 1) = (n : Int) := by rw [i64_id (by omega) (by omega)]; omega
/-! ### insertion -/
theorem ins_inner (P S : List Item) (x : Item) : ∀ (n : Nat) (A B : List Item), A.length = n → P.length + n ≤ 1000000 → (∀ b ∈ B, ltI x b = true) → Srt ltI (A ++ B) →
    ∃ A' B', loopO (f49_31_s4 (P.length : Int)) (P ++ A ++ x :: (B ++ S), ((P.length + A.length : Nat) : Int)) = some (P ++ (A' ++ x :: B') ++ S) ∧ A ++ B = A' ++ B' ∧ Srt ltI (A' ++ x :: B') ∧ (∀ b ∈ B', ltI x b = true)
  | 0, A, B, hA, hl, hB, hs => by
    obtain rfl := List.eq_nil_of_length_eq_zero hA
    refine ⟨[], B, loopO_done ?_, rfl, ?_, hB⟩
    · simp [f49_31_s4]
    · exact List.pairwise_cons.2 ⟨fun b hb => swoI.asym (hB b hb), hs⟩
  | n + 1, A, B, hA, hl, hB, hs => by
    obtain ⟨A1, y, rfl⟩ : ∃ A1 y, A = A1 ++ [y] := by
      rcases List.eq_nil_or_concat A with h | ⟨A1, y, h⟩
      · rw [h] at hA; simp at hA
      · exact ⟨A1, y, by rw [h]; simp⟩
    have hA1 : A1.length = n := by simpa using hA
    have e1 : P ++ (A1 ++ [y]) ++ x :: (B ++ S) = (P ++ A1) ++ y :: x :: (B ++ S) := by simp
    have e2 : ((P.length + (A1 ++ [y]).length : Nat) : Int) = (((P ++ A1).length + 1 : Nat) : Int) := by simp; omega
    have hlt : (P.length : Int) < (((P ++ A1).length + 1 : Nat) : Int) := by simp; omega
    have hw : IntKind.i64.wrap ((((P ++ A1).length + 1 : Nat) : Int) - 1) = ((P ++ A1).length : Int) := wrapS (by simp; omega)
    obtain ⟨c, hc, hc2⟩ := cmp_eq x y
    rw [e1, e2]
    by_cases hxy : ltI x y = true
    · have hstep : f49_31_s4 (P.length : Int) ((P ++ A1) ++ y :: x :: (B ++ S), (((P ++ A1).length + 1 : Nat) : Int)) = some (.inl ((P ++ A1) ++ x :: y :: (B ++ S), ((P ++ A1).length : Int))) := by
        simp only [f49_31_s4, if_pos hlt, nb_ix1, hw, nb_ix0, Option.bind_some, hc, if_pos (hc2.2 hxy), Int.toNat_natCast, nb_set1, nb_set0]
      rw [loopO_next hstep]
      obtain ⟨A', B', h1, h2, h3, h4⟩ := ins_inner P S x n A1 (y :: B) hA1 (by omega) (fun b hb => by
        rcases List.mem_cons.1 hb with rfl | hb
        · exact hxy
        · exact hB b hb) (by simpa using hs)
      refine ⟨A', B', ?_, by rw [← h2]; simp, h3, h4⟩
      rw [← h1]
      congr 1
      simp
    · have hxy' : ltI x y = false := by simpa using hxy
      have hstep : f49_31_s4 (P.length : Int) ((P ++ A1) ++ y :: x :: (B ++ S), (((P ++ A1).length + 1 : Nat) : Int)) = some (.inr ((P ++ A1) ++ y :: x :: (B ++ S))) := by
        simp only [f49_31_s4, if_pos hlt, nb_ix1, hw, nb_ix0, Option.bind_some, hc, if_neg (fun h => hxy (hc2.1 h))]
      refine ⟨A1 ++ [y], B, (loopO_done hstep).trans (by simp), rfl, ?_, hB⟩
      refine Srt.append hs.left (List.pairwise_cons.2 ⟨fun b hb => swoI.asym (hB b hb), hs.right⟩) fun a ha b hb => ?_
      have hay : ltI x a = false := by
        rcases List.mem_append.1 ha with h | h
        · exact swoI.le_trans (hs.left.cross a h y (by simp)) hxy'
        · simp at h; subst h; exact hxy'
      rcases List.mem_cons.1 hb with rfl | hb
      · exact hay
      · exact hs.cross a ha b hb
theorem ins_outer (P S : List Item) : ∀ (R Y : List Item), Srt ltI Y → P.length + Y.length + R.length ≤ 100000 →
    ∃ M, loopO (f49_31_s1 (P.length : Int) ((P.length + Y.length + R.length : Nat) : Int)) (P ++ Y ++ (R ++ S), ((P.length + Y.length : Nat) : Int)) = some (P ++ M ++ S) ∧ Sorts ltI (Y ++ R) M
  | [], Y, hs, hl => by
    refine ⟨Y, loopO_done ?_, hs, by rw [List.append_nil]; exact SF.refl _, by simp⟩
    simp [f49_31_s1]
  | x :: R, Y, hs, hl => by
    obtain ⟨A', B', h1, h2, h3, h4⟩ := ins_inner P (R ++ S) x Y.length Y [] rfl (by simp at hl; omega) (by simp) (by simpa using hs)
    rw [List.append_nil] at h2
    have e : (A' ++ x :: B').length = Y.length + 1 := by rw [h2]; simp; omega
    obtain ⟨M, k1, k2⟩ := ins_outer P S R (A' ++ x :: B') h3 (by simp at hl e ⊢; omega)
    refine ⟨M, ?_, k2.srt, k2.sf.trans ?_, ?_⟩
    · have hw : IntKind.i64.wrap (((P.length + Y.length : Nat) : Int) + 1) = ((P.length + (A' ++ x :: B').length : Nat) : Int) := by rw [wrapN (by simp at hl; omega), e]; congr 1
      have hstep : f49_31_s1 (P.length : Int) ((P.length + Y.length + (x :: R).length : Nat) : Int) (P ++ Y ++ (x :: R ++ S), ((P.length + Y.length : Nat) : Int)) = some (.inl (P ++ (A' ++ x :: B') ++ (R ++ S), ((P.length + (A' ++ x :: B').length : Nat) : Int))) := by
        rw [List.nil_append] at h1
        simp only [f49_31_s1, if_pos (show ((P.length + Y.length : Nat) : Int) < ((P.length + Y.length + (x :: R).length : Nat) : Int) by simp; omega), List.cons_append, h1, Option.bind_some, hw]
      rw [loopO_next hstep, ← k1]
      congr 2
      simp at e ⊢; omega
    · have : SF ltI (A' ++ (x :: B')) (A' ++ (B' ++ [x])) := SF.append (SF.refl _) (SF.swap swoI (a := B') (b := [x]) (fun p hp q hq => by simp at hq; subst hq; exact h4 p hp)).symm
      rw [h2]
      have e3 : A' ++ B' ++ x :: R = (A' ++ (B' ++ [x])) ++ R := by simp
      rw [e3]
      exact SF.append this (SF.refl _)
    · rw [k2.len]; simp at e ⊢; omega
theorem ins_eq (P X S : List Item) (hl : P.length + X.length ≤ 100000) {a b : Int} (ha : a = (P.length : Int)) (hb : b = ((P.length + X.length : Nat) : Int)) : ∃ M, f49_31 (P ++ X ++ S) a b = some (P ++ M ++ S) ∧ Sorts ltI X M := by
  subst ha hb
  cases X with
  | nil =>
    refine ⟨[], ?_, Srt.nil, SF.refl _, rfl⟩
    unfold f49_31
    rw [loopO_done (r := P ++ [] ++ S) (by simp only [f49_31_s1]; rw [if_neg (by rw [i64_id (by omega) (by omega)]; simp; omega)])]
    rfl
  | cons x R =>
    obtain ⟨M, h1, h2⟩ := ins_outer P S R [x] (Srt.one x) (by simp at hl ⊢; omega)
    refine ⟨M, ?_, by simpa using h2⟩
    unfold f49_31
    have e : IntKind.i64.wrap ((P.length : Int) + 1) = ((P.length + [x].length : Nat) : Int) := wrapN (by simp at hl; omega)
    have e2 : ((P.length + (x :: R).length : Nat) : Int) = ((P.length + [x].length + R.length : Nat) : Int) := by simp; omega
    have e3 : P ++ x :: R ++ S = P ++ [x] ++ (R ++ S) := by simp
    rw [e, e2, e3, h1]
    rfl
end Au
end Go.Proofs.Y5

set_option linter.all false
set_option maxRecDepth 8000
set_option maxHeartbeats 1000000
namespace Go.Proofs.Y5
open Go.Gm
namespace Au
/-! ### ranges that change places -/
theorem swap_loop (P M S : List Item) : ∀ (A2 B2 A1 B1 : List Item), A2.length = B2.length → A1.length = B1.length → P.length + A1.length + A2.length + M.length + B1.length + B2.length ≤ 100000 →
    loopO (f59_31_s1 (P.length : Int) ((P.length + A1.length + A2.length + M.length : Nat) : Int) ((A1.length + A2.length : Nat) : Int)) (P ++ B1 ++ A2 ++ M ++ A1 ++ B2 ++ S, (A1.length : Int)) = some (P ++ (B1 ++ B2) ++ M ++ (A1 ++ A2) ++ S)
  | [], [], A1, B1, _, h1, hl => by
    refine loopO_done ?_
    simp [f59_31_s1]
  | [], b :: B2, _, _, h, _, _ => by simp at h
  | a :: A2, [], _, _, h, _, _ => by simp at h
  | a :: A2, b :: B2, A1, B1, h, h1, hl => by
    have hw1 : IntKind.i64.wrap ((P.length : Int) + (A1.length : Int)) = ((P ++ B1).length : Int) := by rw [i64_id (by omega) (by omega)]; simp; omega
    have hw2 : IntKind.i64.wrap (((P.length + A1.length + (a :: A2).length + M.length : Nat) : Int) + (A1.length : Int)) = ((P ++ B1 ++ a :: A2 ++ M ++ A1).length : Int) := by
      rw [i64_id (by omega) (by simp at hl ⊢; omega)]; simp; omega
    have e1 : P ++ B1 ++ (a :: A2) ++ M ++ A1 ++ (b :: B2) ++ S = (P ++ B1) ++ a :: (A2 ++ M ++ A1 ++ b :: (B2 ++ S)) := by simp
    have e2 : P ++ B1 ++ (a :: A2) ++ M ++ A1 ++ (b :: B2) ++ S = (P ++ B1 ++ a :: A2 ++ M ++ A1) ++ b :: (B2 ++ S) := by simp
    have i1 : ix (P ++ B1 ++ (a :: A2) ++ M ++ A1 ++ (b :: B2) ++ S) ((P ++ B1 ++ a :: A2 ++ M ++ A1).length : Int) = some b := by rw [e2]; exact ix_mid rfl
    have i2 : ix (P ++ B1 ++ (a :: A2) ++ M ++ A1 ++ (b :: B2) ++ S) ((P ++ B1).length : Int) = some a := by rw [e1]; exact ix_mid rfl
    have s1 : (P ++ B1 ++ (a :: A2) ++ M ++ A1 ++ (b :: B2) ++ S).set (P ++ B1).length b = (P ++ B1 ++ b :: A2 ++ M ++ A1) ++ b :: (B2 ++ S) := by rw [e1, set_mid' rfl]; simp
    have hq : (P ++ B1 ++ a :: A2 ++ M ++ A1).length = (P ++ B1 ++ b :: A2 ++ M ++ A1).length := by simp
    have i3 : ix ((P ++ B1 ++ b :: A2 ++ M ++ A1) ++ b :: (B2 ++ S)) ((P ++ B1 ++ a :: A2 ++ M ++ A1).length : Int) = some b := by rw [hq]; exact ix_mid rfl
    have s2 : ((P ++ B1 ++ b :: A2 ++ M ++ A1) ++ b :: (B2 ++ S)).set (P ++ B1 ++ a :: A2 ++ M ++ A1).length a = P ++ (B1 ++ [b]) ++ A2 ++ M ++ (A1 ++ [a]) ++ B2 ++ S := by rw [hq, set_mid' rfl]; simp
    have hstep : f59_31_s1 (P.length : Int) ((P.length + A1.length + (a :: A2).length + M.length : Nat) : Int) ((A1.length + (a :: A2).length : Nat) : Int) (P ++ B1 ++ (a :: A2) ++ M ++ A1 ++ (b :: B2) ++ S, (A1.length : Int)) = some (.inl (P ++ (B1 ++ [b]) ++ A2 ++ M ++ (A1 ++ [a]) ++ B2 ++ S, ((A1 ++ [a]).length : Int))) := by
      simp only [f59_31_s1]
      rw [if_pos (by simp; omega), hw1, hw2, i1, Option.bind_some, i2, Option.bind_some]
      simp only [Int.toNat_natCast, s1, i3, Option.bind_some, s2, wrapN (show A1.length ≤ 10000000000 by omega)]
      simp
    rw [loopO_next hstep]
    have ih := swap_loop P M S A2 B2 (A1 ++ [a]) (B1 ++ [b]) (by simpa using h) (by simp; exact h1) (by simp at hl ⊢; omega)
    have e3 : (P.length + A1.length + (a :: A2).length + M.length : Nat) = P.length + (A1 ++ [a]).length + A2.length + M.length := by simp; omega
    have e4 : (A1.length + (a :: A2).length : Nat) = (A1 ++ [a]).length + A2.length := by simp; omega
    rw [e3, e4, ih]
    simp
theorem swap_eq (P A M B S : List Item) (h : A.length = B.length) (hl : P.length + A.length + M.length + B.length ≤ 100000) {a b n : Int} (ha : a = (P.length : Int)) (hb : b = ((P.length + A.length + M.length : Nat) : Int)) (hn : n = (A.length : Int)) :
    f59_31 (P ++ A ++ M ++ B ++ S) a b n = some (P ++ B ++ M ++ A ++ S) := by
  subst ha hb hn
  have := swap_loop P M S A B [] [] h rfl (by simp; omega)
  simp only [List.length_nil, Nat.add_zero, Nat.zero_add, List.append_nil, List.nil_append] at this
  unfold f59_31
  rw [show (0 : Int) = ((0 : Nat) : Int) from rfl, this]
  rfl
theorem rot_loop (P S : List Item) (m : Int) : ∀ (k : Nat) (L U V R : List Item), U.length + V.length = k → 0 < U.length → 0 < V.length → m = ((P.length + L.length + U.length : Nat) : Int) → P.length + L.length + U.length + V.length + R.length ≤ 100000 →
    ∃ L' U' V' R', loopO (f57_31_s1 m) (P ++ L ++ U ++ V ++ R ++ S, (U.length : Int), (V.length : Int)) = some ((U'.length : Int), P ++ L' ++ U' ++ V' ++ R' ++ S) ∧ U'.length = V'.length ∧ L' ++ V' ++ U' ++ R' = L ++ V ++ U ++ R ∧ m = ((P.length + L'.length + U'.length : Nat) : Int) ∧ P.length + L'.length + U'.length + V'.length + R'.length ≤ 100000 := by
  intro k
  induction k using Nat.strongRecOn with
  | ind k ih =>
    intro L U V R hk hU hV hm hl
    rcases Nat.lt_trichotomy U.length V.length with h | h | h
    · -- the second is longer
      obtain ⟨V1, V2, rfl, hv1⟩ := split_at (l := V) (n := V.length - U.length) (by omega)
      have hv2 : V2.length = U.length := by simp at hv1 h; omega
      have hv1' : V1.length + U.length = (V1 ++ V2).length := by simp; omega
      have w1 : IntKind.i64.wrap (m - (U.length : Int)) = ((P ++ L).length : Int) := by rw [hm, i64_id (by omega) (by omega)]; rw [show (P ++ L).length = P.length + L.length from List.length_append]; omega
      have w2 : IntKind.i64.wrap (IntKind.i64.wrap (m + ((V1 ++ V2).length : Int)) - (U.length : Int)) = (((P ++ L).length + U.length + V1.length : Nat) : Int) := by
        rw [hm, i64_id (show -9223372036854775808 ≤ ((P.length + L.length + U.length : Nat) : Int) + ((V1 ++ V2).length : Int) by omega) (by omega), i64_id (by omega) (by omega)]; simp; omega
      have hs := swap_eq (P ++ L) U V1 V2 (R ++ S) hv2.symm (by simp at hl ⊢; omega) w1 w2 rfl
      have e1 : P ++ L ++ U ++ (V1 ++ V2) ++ R ++ S = P ++ L ++ U ++ V1 ++ V2 ++ (R ++ S) := by simp
      have w3 : IntKind.i64.wrap (((V1 ++ V2).length : Int) - (U.length : Int)) = (V1.length : Int) := by rw [i64_id (by omega) (by omega)]; omega
      have hstep : f57_31_s1 m (P ++ L ++ U ++ (V1 ++ V2) ++ R ++ S, (U.length : Int), ((V1 ++ V2).length : Int)) = some (.inl (P ++ L ++ V2 ++ V1 ++ (U ++ R) ++ S, (V2.length : Int), (V1.length : Int))) := by
        simp only [f57_31_s1]
        rw [if_neg (by omega), if_neg (by omega), e1, hs, Option.bind_some, guardO_ok (by simp; omega), Option.bind_some, w3, hv2]
        simp
      rw [loopO_next hstep]
      obtain ⟨L', U', V', R', q1, q2, q3, q4, q5⟩ := ih (V2.length + V1.length) (by simp at hk; omega) L V2 V1 (U ++ R) rfl (by omega) (by omega) (by rw [hm]; omega) (by simp at hl ⊢; omega)
      exact ⟨L', U', V', R', q1, q2, by rw [q3]; simp, q4, q5⟩
    · refine ⟨L, U, V, R, loopO_done ?_, h, rfl, hm, hl⟩
      simp only [f57_31_s1]
      rw [if_pos (by omega)]
    · -- the first is longer
      obtain ⟨U1, U2, rfl, hu1⟩ := split_at (l := U) (n := V.length) (by omega)
      have hu2 : U2.length + V.length = (U1 ++ U2).length := by simp; omega
      have w1 : IntKind.i64.wrap (m - ((U1 ++ U2).length : Int)) = ((P ++ L).length : Int) := by rw [hm, i64_id (by omega) (by omega)]; rw [show (P ++ L).length = P.length + L.length from List.length_append]; omega
      have w2 : m = (((P ++ L).length + U1.length + U2.length : Nat) : Int) := by rw [hm]; simp; omega
      have hs := swap_eq (P ++ L) U1 U2 V (R ++ S) hu1 (by simp at hl ⊢; omega) w1 w2 (show (V.length : Int) = (U1.length : Int) by omega)
      have e1 : P ++ L ++ (U1 ++ U2) ++ V ++ R ++ S = P ++ L ++ U1 ++ U2 ++ V ++ (R ++ S) := by simp
      have w3 : IntKind.i64.wrap (((U1 ++ U2).length : Int) - (V.length : Int)) = (U2.length : Int) := by rw [i64_id (by omega) (by omega)]; omega
      have hstep : f57_31_s1 m (P ++ L ++ (U1 ++ U2) ++ V ++ R ++ S, ((U1 ++ U2).length : Int), (V.length : Int)) = some (.inl (P ++ (L ++ V) ++ U2 ++ U1 ++ R ++ S, (U2.length : Int), (U1.length : Int))) := by
        simp only [f57_31_s1]
        rw [if_neg (by omega), if_pos (by omega), e1, hs, Option.bind_some, guardO_ok (by simp; omega), Option.bind_some, w3, hu1]
        simp
      rw [loopO_next hstep]
      obtain ⟨L', U', V', R', q1, q2, q3, q4, q5⟩ := ih (U2.length + U1.length) (by simp at hk; omega) (L ++ V) U2 U1 R rfl (by omega) (by omega) (by rw [hm]; simp; omega) (by simp at hl ⊢; omega)
      exact ⟨L', U', V', R', q1, q2, by rw [q3]; simp, q4, q5⟩
theorem rot_eq (P A B S : List Item) (hA : 0 < A.length) (hB : 0 < B.length) (hl : P.length + A.length + B.length ≤ 100000) {a m b : Int} (ha : a = (P.length : Int)) (hm : m = ((P.length + A.length : Nat) : Int)) (hb : b = ((P.length + A.length + B.length : Nat) : Int)) :
    f57_31 (P ++ A ++ B ++ S) a m b = some (P ++ B ++ A ++ S) := by
  obtain ⟨L', U', V', R', q1, q2, q3, q4, q5⟩ := rot_loop P S m (A.length + B.length) [] A B [] rfl hA hB (by rw [hm]; simp) (by simp; omega)
  have w1 : IntKind.i64.wrap (m - a) = (A.length : Int) := by rw [hm, ha, i64_id (by omega) (by omega)]; omega
  have w2 : IntKind.i64.wrap (b - m) = (B.length : Int) := by rw [hm, hb, i64_id (by omega) (by omega)]; omega
  have w3 : IntKind.i64.wrap (m - (U'.length : Int)) = ((P ++ L').length : Int) := by rw [q4, i64_id (by omega) (by omega)]; rw [List.length_append]; omega
  have hs := swap_eq (P ++ L') U' [] V' (R' ++ S) q2 (by simp at q5 ⊢; omega) w3 (show m = (((P ++ L').length + U'.length + ([] : List Item).length : Nat) : Int) by rw [q4]; simp) rfl
  unfold f57_31
  rw [w1, w2]
  simp only [List.append_nil] at q1
  rw [q1, Option.bind_some]
  have e1 : P ++ L' ++ U' ++ V' ++ R' ++ S = P ++ L' ++ U' ++ [] ++ V' ++ (R' ++ S) := by simp
  simp only
  rw [e1, hs, Option.bind_some, guardO_ok (by simp; omega), Option.bind_some]
  congr 1
  have : L' ++ V' ++ U' ++ R' = B ++ A := by rw [q3]; simp
  have e2 : P ++ L' ++ V' ++ [] ++ U' ++ (R' ++ S) = P ++ (L' ++ V' ++ U' ++ R') ++ S := by simp
  rw [e2, this]
  simp
end Au
end Go.Proofs.Y5

set_option linter.all false
set_option maxRecDepth 8000
set_option maxHeartbeats 1000000
namespace Go.Proofs.Y5
open Go.Gm
namespace Au
/-! ### halving -/
theorem shr1 {v : Int} (h0 : 0 ≤ v) : shrV .u64 v 1 = v / 2 := by
  show v.fdiv (2 ^ (min 1 64)) = _
  rw [Int.fdiv_eq_ediv_of_nonneg _ (by decide)]; rfl
theorem half {i j : Nat} (h : i + j ≤ 1000000) : IntKind.i64.wrap (shrV .u64 (IntKind.u64.wrap (IntKind.i64.wrap ((i : Int) + (j : Int)))) 1) = (((i + j) / 2 : Nat) : Int) := by
  rw [i64_id (show -9223372036854775808 ≤ (i : Int) + (j : Int) by omega) (by omega), u64_wrap, shr1 (by omega), i64_id (by omega) (by omega)]
  omega
theorem bisect {τ : Type} {step : τ → Option (τ ⊕ Int)} (st : Nat → Nat → τ) (p : Nat → Bool) (i0 j0 : Nat) (hij : i0 ≤ j0)
    (h1 : ∀ i j, i0 ≤ i → i < j → j ≤ j0 → step (st i j) = some (.inl (if p ((i + j) / 2) = true then st ((i + j) / 2 + 1) j else st i ((i + j) / 2))))
    (h2 : ∀ i, i0 ≤ i → i ≤ j0 → step (st i i) = some (.inr (i : Int))) :
    ∃ r : Nat, loopO step (st i0 j0) = some (r : Int) ∧ i0 ≤ r ∧ r ≤ j0 ∧ (r = i0 ∨ p (r - 1) = true) ∧ (r = j0 ∨ p r = false) := by
  obtain ⟨r, hr, n, rfl, q⟩ := loopO_of (step := step) (Q := fun r : Int => ∃ n : Nat, r = (n : Int) ∧ i0 ≤ n ∧ n ≤ j0 ∧ (n = i0 ∨ p (n - 1) = true) ∧ (n = j0 ∨ p n = false))
    (fun k s => ∃ i j, s = st i j ∧ k = j - i ∧ i0 ≤ i ∧ i ≤ j ∧ j ≤ j0 ∧ (i = i0 ∨ p (i - 1) = true) ∧ (j = j0 ∨ p j = false)) (by
      rintro k _ ⟨i, j, rfl, rfl, a1, a2, a3, a4, a5⟩
      by_cases hlt : i < j
      · have h := h1 i j a1 hlt a3
        by_cases hp : p ((i + j) / 2) = true
        · rw [if_pos hp] at h
          exact .inl ⟨_, j - ((i + j) / 2 + 1), h, by omega, _, _, rfl, rfl, by omega, by omega, a3, .inr (by rw [Nat.add_sub_cancel]; exact hp), a5⟩
        · rw [if_neg hp] at h
          exact .inl ⟨_, (i + j) / 2 - i, h, by omega, _, _, rfl, rfl, a1, by omega, by omega, a4, .inr (by simpa using hp)⟩
      · obtain rfl : i = j := by omega
        exact .inr ⟨_, h2 i a1 a3, i, rfl, a1, a3, a4, a5⟩) (k := j0 - i0) ⟨i0, j0, rfl, rfl, Nat.le_refl _, hij, Nat.le_refl _, .inl rfl, .inl rfl⟩
  exact ⟨n, hr, q⟩
def ltAt (l : List Item) (i j : Nat) : Bool := match l[i]?, l[j]? with
  | some y, some x => ltI y x
  | _, _ => false
theorem ltAt_some {l : List Item} {i j : Nat} {x y : Item} (h1 : l[i]? = some y) (h2 : l[j]? = some x) : ltAt l i j = ltI y x := by unfold ltAt; rw [h1, h2]
theorem cmp_at {l : List Item} {i j : Nat} (hi : i < l.length) (hj : j < l.length) : ∃ y x c, ix l (i : Int) = some y ∧ ix l (j : Int) = some x ∧ f31 y x = some c ∧ (c < 0 ↔ ltAt l i j = true) := by
  obtain ⟨c, h1, h2⟩ := cmp_eq l[i] l[j]
  exact ⟨l[i], l[j], c, ixN hi, ixN hj, h1, by rw [h2, ltAt_some (List.getElem?_eq_getElem hi) (List.getElem?_eq_getElem hj)]⟩
/-! ### one element into a sorted row -/
theorem right_loop (P S : List Item) (x : Item) (e : Int) : ∀ (B2 B1 : List Item), e = ((P.length + B1.length + B2.length + 1 : Nat) : Int) → P.length + B1.length + B2.length ≤ 100000 →
    loopO (f50_31_s6 e) (P ++ B1 ++ x :: (B2 ++ S), ((P.length + B1.length : Nat) : Int)) = some (P ++ (B1 ++ B2) ++ x :: S)
  | [], B1, he, hl => by
    refine loopO_done ?_
    simp only [f50_31_s6]
    rw [if_neg (by rw [he, i64_id (by omega) (by omega)]; simp), List.append_nil, List.nil_append]
  | b :: B2, B1, he, hl => by
    simp only [List.length_cons] at he hl
    have e1 : P ++ B1 ++ x :: (b :: B2 ++ S) = (P ++ B1) ++ x :: b :: (B2 ++ S) := by simp
    have q : ((P.length + B1.length : Nat) : Int) = ((P ++ B1).length : Int) := by simp
    have w : IntKind.i64.wrap (((P ++ B1).length : Int) + 1) = (((P ++ B1).length + 1 : Nat) : Int) := wrapN (by simp; omega)
    have hstep : f50_31_s6 e (P ++ B1 ++ x :: (b :: B2 ++ S), ((P.length + B1.length : Nat) : Int)) = some (.inl (P ++ (B1 ++ [b]) ++ x :: (B2 ++ S), ((P.length + (B1 ++ [b]).length : Nat) : Int))) := by
      simp only [f50_31_s6]
      rw [if_pos (by rw [he, i64_id (by omega) (by omega)]; omega), e1, q, w, nb_ix1, Option.bind_some, nb_ix0, Option.bind_some]
      simp only [Int.toNat_natCast, nb_set0, nb_ix1, Option.bind_some, nb_set1]
      simp
      omega
    rw [loopO_next hstep, right_loop P S x e B2 (B1 ++ [b]) (by rw [he]; simp; omega) (by simp; omega)]
    simp
theorem left_loop (P S : List Item) (x : Item) : ∀ (n : Nat) (A2 B : List Item), A2.length = n → P.length + n ≤ 100000 →
    loopO (f50_31_s12 (P.length : Int)) (P ++ A2 ++ x :: (B ++ S), ((P.length + A2.length : Nat) : Int)) = some (P ++ x :: (A2 ++ B) ++ S)
  | 0, A2, B, hA, hl => by
    obtain rfl := List.eq_nil_of_length_eq_zero hA
    refine loopO_done ?_
    simp [f50_31_s12]
  | n + 1, A2, B, hA, hl => by
    obtain ⟨A1, y, rfl⟩ : ∃ A1 y, A2 = A1 ++ [y] := by
      rcases List.eq_nil_or_concat A2 with h | ⟨A1, y, h⟩
      · rw [h] at hA; simp at hA
      · exact ⟨A1, y, by rw [h]; simp⟩
    have hA1 : A1.length = n := by simpa using hA
    have e1 : P ++ (A1 ++ [y]) ++ x :: (B ++ S) = (P ++ A1) ++ y :: x :: (B ++ S) := by simp
    have e2 : ((P.length + (A1 ++ [y]).length : Nat) : Int) = (((P ++ A1).length + 1 : Nat) : Int) := by simp; omega
    have hlt : (P.length : Int) < (((P ++ A1).length + 1 : Nat) : Int) := by simp; omega
    have hw : IntKind.i64.wrap ((((P ++ A1).length + 1 : Nat) : Int) - 1) = ((P ++ A1).length : Int) := wrapS (by simp; omega)
    have hstep : f50_31_s12 (P.length : Int) ((P ++ A1) ++ y :: x :: (B ++ S), (((P ++ A1).length + 1 : Nat) : Int)) = some (.inl (P ++ A1 ++ x :: (y :: B ++ S), ((P.length + A1.length : Nat) : Int))) := by
      simp only [f50_31_s12, if_pos hlt, hw, nb_ix0, nb_ix1, Option.bind_some, Int.toNat_natCast, nb_set1, nb_set0]
      simp
    rw [e1, e2, loopO_next hstep, left_loop P S x n A1 (y :: B) hA1 (by omega)]
    simp
theorem merge_left (P B S : List Item) (x : Item) (hs : Srt ltI B) (hB : 0 < B.length) (hl : P.length + B.length ≤ 100000) (rec193 : List Item → Int → Int → Int → Option (List Item)) :
    ∃ M, f50_31b rec193 (P ++ [x] ++ B ++ S) (P.length : Int) ((P.length + 1 : Nat) : Int) ((P.length + 1 + B.length : Nat) : Int) = some (P ++ M ++ S) ∧ Sorts ltI ([x] ++ B) M := by
  have hlen : (P ++ [x] ++ B ++ S).length = P.length + 1 + B.length + S.length := by simp; omega
  have hx : (P ++ [x] ++ B ++ S)[P.length]? = some x := by simp
  obtain ⟨r, h1, h2, h3, h4, h5⟩ := bisect (step := f50_31_s5 (P ++ [x] ++ B ++ S) (P.length : Int)) (fun i j => ((i : Int), (j : Int))) (fun h => ltAt (P ++ [x] ++ B ++ S) h P.length) (P.length + 1) (P.length + 1 + B.length) (by omega) (fun i j a1 a2 a3 => by
    obtain ⟨y, x', c, c1, c2, c3, c4⟩ := cmp_at (l := P ++ [x] ++ B ++ S) (i := (i + j) / 2) (j := P.length) (by omega) (by omega)
    simp only [f50_31_s5]
    rw [if_pos (by omega), half (by omega), c1, Option.bind_some, c2, Option.bind_some, c3, Option.bind_some]
    by_cases hc : c < 0
    · rw [if_pos hc, if_pos (c4.1 hc), wrapN (by omega)]
    · rw [if_neg hc, if_neg (fun h => hc (c4.2 h))]) (fun i a1 a2 => by simp [f50_31_s5])
  obtain ⟨B1, B2, rfl, hb1⟩ := split_at (l := B) (n := r - (P.length + 1)) (by omega)
  have hr : r = P.length + 1 + B1.length := by omega
  have hlast : ∀ b ∈ B1, ltI b x = true := by
    intro b hb
    obtain ⟨B1', y, rfl⟩ : ∃ B1' y, B1 = B1' ++ [y] := by
      rcases List.eq_nil_or_concat B1 with h | ⟨B1', y, h⟩
      · rw [h] at hb; cases hb
      · exact ⟨B1', y, by rw [h]; simp⟩
    rcases h4 with h4 | h4
    · simp at hr; omega
    · have hy : (P ++ [x] ++ (B1' ++ [y] ++ B2) ++ S)[r - 1]? = some y := by
        have e : P ++ [x] ++ (B1' ++ [y] ++ B2) ++ S = (P ++ [x] ++ B1') ++ y :: (B2 ++ S) := by simp
        rw [e, show r - 1 = (P ++ [x] ++ B1').length by simp at hr ⊢; omega]
        exact at_mid _ _ _
      rw [ltAt_some hy hx] at h4
      rcases List.mem_append.1 hb with h | h
      · exact swoI.le_lt (hs.left.cross b h y (by simp)) h4
      · simp at h; subst h; exact h4
  have hhead : ∀ b ∈ B2, ltI b x = false := by
    intro b hb
    cases B2 with
    | nil => cases hb
    | cons y B2' =>
      rcases h5 with h5 | h5
      · simp at hr h5; omega
      · have hy : (P ++ [x] ++ (B1 ++ y :: B2') ++ S)[r]? = some y := by
          have e : P ++ [x] ++ (B1 ++ y :: B2') ++ S = (P ++ [x] ++ B1) ++ y :: (B2' ++ S) := by simp
          rw [e, hr, show P.length + 1 + B1.length = (P ++ [x] ++ B1).length by simp; omega]
          exact at_mid _ _ _
        rw [ltAt_some hy hx] at h5
        rcases List.mem_cons.1 hb with rfl | h
        · exact h5
        · exact swoI.le_trans h5 ((List.pairwise_cons.1 hs.right).1 b h)
  refine ⟨B1 ++ x :: B2, ?_, ?_, ?_, by simp; omega⟩
  · unfold f50_31b
    have e1 : P ++ [x] ++ (B1 ++ B2) ++ S = P ++ [] ++ x :: (B1 ++ (B2 ++ S)) := by simp
    rw [if_pos (by rw [i64_id (by omega) (by omega)]; omega)]
    rw [h1, Option.bind_some, e1]
    have := right_loop P (B2 ++ S) x (r : Int) B1 [] (by rw [hr]; simp; omega) (by simp at hl ⊢; omega)
    simp only [List.length_nil, Nat.add_zero] at this
    rw [this, Option.bind_some]
    simp
  · refine Srt.append hs.left (List.pairwise_cons.2 ⟨hhead, hs.right⟩) fun a ha b hb => ?_
    rcases List.mem_cons.1 hb with rfl | hb
    · exact swoI.asym (hlast a ha)
    · exact hs.cross a ha b hb
  · have : SF ltI ((B1 ++ [x]) ++ B2) (([x] ++ B1) ++ B2) := SF.append (SF.swap swoI (a := [x]) (b := B1) (fun p hp q hq => by simp at hp; subst hp; exact hlast q hq)).symm (SF.refl _)
    simpa using this
theorem merge_right (P A S : List Item) (x : Item) (hs : Srt ltI A) (hA : 1 < A.length) (hl : P.length + A.length ≤ 100000) (rec193 : List Item → Int → Int → Int → Option (List Item)) :
    ∃ M, f50_31b rec193 (P ++ A ++ [x] ++ S) (P.length : Int) ((P.length + A.length : Nat) : Int) ((P.length + A.length + 1 : Nat) : Int) = some (P ++ M ++ S) ∧ Sorts ltI (A ++ [x]) M := by
  have hlen : (P ++ A ++ [x] ++ S).length = P.length + A.length + 1 + S.length := by simp; omega
  have hx : (P ++ A ++ [x] ++ S)[P.length + A.length]? = some x := by
    rw [show P ++ A ++ [x] ++ S = (P ++ A) ++ x :: S by simp, show P.length + A.length = (P ++ A).length by simp]
    exact at_mid _ _ _
  obtain ⟨r, h1, h2, h3, h4, h5⟩ := bisect (step := f50_31_s11 (P ++ A ++ [x] ++ S) ((P.length + A.length : Nat) : Int)) (fun i j => ((j : Int), (i : Int))) (fun h => !ltAt (P ++ A ++ [x] ++ S) (P.length + A.length) h) P.length (P.length + A.length) (by omega) (fun i j a1 a2 a3 => by
    obtain ⟨y, x', c, c1, c2, c3, c4⟩ := cmp_at (l := P ++ A ++ [x] ++ S) (i := P.length + A.length) (j := (i + j) / 2) (by omega) (by omega)
    simp only [f50_31_s11]
    rw [if_pos (by omega), half (by omega), c1, Option.bind_some, c2, Option.bind_some, c3, Option.bind_some]
    by_cases hc : c < 0
    · rw [if_pos hc, if_neg (by rw [c4.1 hc]; simp)]
    · have : ltAt (P ++ A ++ [x] ++ S) (P.length + A.length) ((i + j) / 2) = false := by simpa using fun h => hc (c4.2 h)
      rw [if_neg hc, if_pos (by rw [this]; rfl), wrapN (by omega)]) (fun i a1 a2 => by simp [f50_31_s11])
  obtain ⟨A1, A2, rfl, ha1⟩ := split_at (l := A) (n := r - P.length) (by omega)
  have hr : r = P.length + A1.length := by omega
  have hlast : ∀ a ∈ A1, ltI x a = false := by
    intro a ha
    obtain ⟨A1', y, rfl⟩ : ∃ A1' y, A1 = A1' ++ [y] := by
      rcases List.eq_nil_or_concat A1 with h | ⟨A1', y, h⟩
      · rw [h] at ha; cases ha
      · exact ⟨A1', y, by rw [h]; simp⟩
    rcases h4 with h4 | h4
    · simp at hr; omega
    · have hy : (P ++ (A1' ++ [y] ++ A2) ++ [x] ++ S)[r - 1]? = some y := by
        have e : P ++ (A1' ++ [y] ++ A2) ++ [x] ++ S = (P ++ A1') ++ y :: (A2 ++ x :: S) := by simp
        rw [e, show r - 1 = (P ++ A1').length by simp at hr ⊢; omega]
        exact at_mid _ _ _
      rw [ltAt_some hx hy] at h4
      have h4' : ltI x y = false := by simpa using h4
      rcases List.mem_append.1 ha with h | h
      · exact swoI.le_trans (hs.left.cross a h y (by simp)) h4'
      · simp at h; subst h; exact h4'
  have hhead : ∀ a ∈ A2, ltI x a = true := by
    intro a ha
    cases A2 with
    | nil => cases ha
    | cons y A2' =>
      rcases h5 with h5 | h5
      · simp at hr h5; omega
      · have hy : (P ++ (A1 ++ y :: A2') ++ [x] ++ S)[r]? = some y := by
          have e : P ++ (A1 ++ y :: A2') ++ [x] ++ S = (P ++ A1) ++ y :: (A2' ++ x :: S) := by simp
          rw [e, hr, show P.length + A1.length = (P ++ A1).length by simp]
          exact at_mid _ _ _
        rw [ltAt_some hx hy] at h5
        have h5' : ltI x y = true := by simpa using h5
        rcases List.mem_cons.1 ha with rfl | h
        · exact h5'
        · exact swoI.lt_le h5' ((List.pairwise_cons.1 hs.right).1 a h)
  refine ⟨A1 ++ x :: A2, ?_, ?_, ?_, by simp⟩
  · unfold f50_31b
    have e1 : P ++ (A1 ++ A2) ++ [x] ++ S = (P ++ A1) ++ A2 ++ x :: ([] ++ S) := by simp
    rw [if_neg (by rw [i64_id (by omega) (by omega)]; omega), if_pos (by rw [i64_id (by omega) (by omega)]; omega)]
    rw [h1, Option.bind_some, e1]
    have := left_loop (P ++ A1) S x A2.length A2 [] rfl (by simp at hl ⊢; omega)
    rw [show (r : Int) = ((P ++ A1).length : Int) by rw [hr]; simp, show ((P.length + (A1 ++ A2).length : Nat) : Int) = (((P ++ A1).length + A2.length : Nat) : Int) by simp; omega, this, Option.bind_some]
    simp
  · refine Srt.append hs.left (List.pairwise_cons.2 ⟨fun b hb => swoI.asym (hhead b hb), hs.right⟩) fun a ha b hb => ?_
    rcases List.mem_cons.1 hb with rfl | hb
    · exact hlast a ha
    · exact hs.cross a ha b hb
  · have : SF ltI (A1 ++ ([x] ++ A2)) (A1 ++ (A2 ++ [x])) := SF.append (SF.refl _) (SF.swap swoI (a := A2) (b := [x]) (fun p hp q hq => by simp at hq; subst hq; exact hhead p hp)).symm
    simpa using this
end Au
end Go.Proofs.Y5

set_option linter.all false
set_option maxRecDepth 8000
set_option maxHeartbeats 2000000
namespace Go.Proofs.Y5
open Go.Gm
namespace Au
/-- What a merge's recursion does. -/
def MergesN (rec193 : List Item → Int → Int → Int → Option (List Item)) (n : Nat) : Prop := ∀ (P A B S : List Item), A.length + B.length ≤ n → 0 < A.length → 0 < B.length → Srt ltI A → Srt ltI B → P.length + A.length + B.length ≤ 100000 →
  ∃ M, rec193 (P ++ A ++ B ++ S) (P.length : Int) ((P.length + A.length : Nat) : Int) ((P.length + A.length + B.length : Nat) : Int) = some (P ++ M ++ S) ∧ Sorts ltI (A ++ B) M
theorem part_merge {rec193 : List Item → Int → Int → Int → Option (List Item)} {n : Nat} (h : MergesN rec193 n) (P A B S : List Item) (hn : A.length + B.length ≤ n) (hA : Srt ltI A) (hB : Srt ltI B) (hl : P.length + A.length + B.length ≤ 100000) (F : List Item → Option (List Item)) :
    ∃ M, (if (P.length : Int) < ((P.length + A.length : Nat) : Int) then (if ((P.length + A.length : Nat) : Int) < ((P.length + A.length + B.length : Nat) : Int) then ((rec193 (P ++ A ++ B ++ S) (P.length : Int) ((P.length + A.length : Nat) : Int) ((P.length + A.length + B.length : Nat) : Int)).bind fun x => ((guardO (x.length = (P ++ A ++ B ++ S).length)).bind fun _ => F x)) else F (P ++ A ++ B ++ S)) else F (P ++ A ++ B ++ S)) = F (P ++ M ++ S) ∧ Sorts ltI (A ++ B) M := by
  cases A with
  | nil =>
    refine ⟨B, ?_, by simpa using hB, SF.refl _, rfl⟩
    rw [if_neg (by simp)]; simp
  | cons a A =>
    cases B with
    | nil =>
      refine ⟨a :: A, ?_, by simpa using hA, by rw [List.append_nil]; exact SF.refl _, by simp⟩
      rw [if_pos (by simp; omega), if_neg (by simp)]; simp
    | cons b B =>
      obtain ⟨M, h1, h2⟩ := h P (a :: A) (b :: B) S hn (by simp) (by simp) hA hB hl
      refine ⟨M, ?_, h2⟩
      have hlm := h2.len
      rw [if_pos (by simp; omega), if_pos (by simp; omega), h1, Option.bind_some, guardO_ok (by simp at hlm ⊢; omega), Option.bind_some]
theorem sym_step {rec193 : List Item → Int → Int → Int → Option (List Item)} {n : Nat} (h : MergesN rec193 n) : MergesN (f50_31b rec193) (n + 1) := by
  intro P A B S hn hA hB sA sB hl
  by_cases c1 : A.length = 1
  · obtain ⟨x, rfl⟩ := List.length_eq_one_iff.1 c1
    exact merge_left P B S x sB hB (by simp at hl; omega) rec193
  by_cases c2 : B.length = 1
  · obtain ⟨x, rfl⟩ := List.length_eq_one_iff.1 c2
    exact merge_right P A S x sA (by omega) (by simp at hl; omega) rec193
  have hlen : (P ++ A ++ B ++ S).length = P.length + A.length + B.length + S.length := by simp; omega
  have ha : P.length < P.length + A.length := by omega
  have hm : P.length + A.length < P.length + A.length + B.length := by omega
  generalize hma : P.length + A.length = m at *
  generalize hbb : m + B.length = b at *
  generalize hmid : (P.length + b) / 2 = mid
  have hmid1 : P.length < mid := by omega
  have hmid2 : mid < b := by omega
  have hwm : IntKind.i64.wrap (shrV .u64 (IntKind.u64.wrap (IntKind.i64.wrap ((P.length : Int) + (b : Int)))) 1) = (mid : Int) := by rw [half (by omega), hmid]
  have hwn : IntKind.i64.wrap ((mid : Int) + (m : Int)) = ((mid + m : Nat) : Int) := by rw [i64_id (by omega) (by omega)]; omega
  -- where the search begins and ends
  obtain ⟨s0, r0, hs0, e0, b1, b2, b3, b4, b5, b6⟩ : ∃ s0 r0 : Nat, s0 ≤ r0 ∧ (if (mid : Int) < (m : Int) then f50_31_j1 (P ++ A ++ B ++ S) (P.length : Int) (m : Int) (b : Int) rec193 (IntKind.i64.wrap (((mid + m : Nat) : Int) - (b : Int)), (mid : Int)) else f50_31_j1 (P ++ A ++ B ++ S) (P.length : Int) (m : Int) (b : Int) rec193 ((P.length : Int), (m : Int))) = f50_31_j1 (P ++ A ++ B ++ S) (P.length : Int) (m : Int) (b : Int) rec193 ((s0 : Int), (r0 : Int)) ∧
      P.length ≤ s0 ∧ r0 ≤ m ∧ r0 ≤ mid ∧ mid + m ≤ s0 + b ∧ (s0 = P.length ∨ mid + m = s0 + b) ∧ (r0 = m ∨ r0 = mid) := by
    by_cases hc : mid < m
    · refine ⟨mid + m - b, mid, by omega, ?_, by omega, by omega, by omega, by omega, by omega, by omega⟩
      rw [if_pos (by omega), i64_id (by omega) (by omega), show ((mid + m : Nat) : Int) - (b : Int) = ((mid + m - b : Nat) : Int) by omega]
    · refine ⟨P.length, m, by omega, ?_, by omega, by omega, by omega, by omega, by omega, by omega⟩
      rw [if_neg (by omega)]
  have hwp : ∀ c : Nat, c < r0 → IntKind.i64.wrap (IntKind.i64.wrap (((mid + m : Nat) : Int) - 1) - (c : Int)) = ((mid + m - 1 - c : Nat) : Int) := fun c hc => by
    rw [i64_id (show -9223372036854775808 ≤ ((mid + m : Nat) : Int) - 1 by omega) (by omega), i64_id (by omega) (by omega)]; omega
  obtain ⟨s, h1, h2, h3, h4, h5⟩ := bisect (step := f50_31_s14 (P ++ A ++ B ++ S) (P.length : Int) (m : Int) (b : Int)) (fun i j => ((j : Int), (i : Int))) (fun c => !ltAt (P ++ A ++ B ++ S) (mid + m - 1 - c) c) s0 r0 hs0 (fun i j a1 a2 a3 => by
    obtain ⟨y, x', c, k1, k2, k3, k4⟩ := cmp_at (l := P ++ A ++ B ++ S) (i := mid + m - 1 - (i + j) / 2) (j := (i + j) / 2) (by omega) (by omega)
    simp only [f50_31_s14]
    rw [if_pos (by omega), hwm, half (i := i) (j := j) (by omega), hwn, hwp _ (by omega), k1, Option.bind_some, k2, Option.bind_some, k3, Option.bind_some]
    by_cases hc : c < 0
    · rw [if_pos hc, if_neg (by rw [k4.1 hc]; simp)]
    · have : ltAt (P ++ A ++ B ++ S) (mid + m - 1 - (i + j) / 2) ((i + j) / 2) = false := by simpa using fun h => hc (k4.2 h)
      rw [if_neg hc, if_pos (by rw [this]; rfl), wrapN (by omega)]) (fun i a1 a2 => by simp [f50_31_s14])
  obtain ⟨A1, A2, rfl, hA1⟩ := split_at (l := A) (n := s - P.length) (by omega)
  obtain ⟨B1, B2, rfl, hB1⟩ := split_at (l := B) (n := mid - s) (by omega)
  have hsA : s = P.length + A1.length := by omega
  have hA2 : m = s + A2.length := by simp at hma; omega
  have hmd : mid = s + B1.length := by omega
  have hB2 : b = m + B1.length + B2.length := by simp at hbb; omega
  have hend : IntKind.i64.wrap (((mid + m : Nat) : Int) - (s : Int)) = ((m + B1.length : Nat) : Int) := by rw [i64_id (by omega) (by omega)]; omega
  -- the elements across
  have x12 : ∀ x ∈ A1, ∀ y ∈ B2, ltI y x = false := by
    intro x hx y hy
    obtain ⟨A1', u, rfl⟩ : ∃ A1' u, A1 = A1' ++ [u] := by
      rcases List.eq_nil_or_concat A1 with h | ⟨A1', u, h⟩
      · rw [h] at hx; cases hx
      · exact ⟨A1', u, by rw [h]; simp⟩
    cases B2 with
    | nil => cases hy
    | cons v B2' =>
      have huv : ltI v u = false := by
        rcases h4 with h4 | h4
        · exfalso
          simp at hsA hB2; omega
        · have hu : (P ++ (A1' ++ [u] ++ A2) ++ (B1 ++ v :: B2') ++ S)[s - 1]? = some u := by
            have e : P ++ (A1' ++ [u] ++ A2) ++ (B1 ++ v :: B2') ++ S = (P ++ A1') ++ u :: (A2 ++ (B1 ++ v :: B2') ++ S) := by simp
            rw [e, show s - 1 = (P ++ A1').length by simp at hsA ⊢; omega]
            exact at_mid _ _ _
          have hv : (P ++ (A1' ++ [u] ++ A2) ++ (B1 ++ v :: B2') ++ S)[mid + m - 1 - (s - 1)]? = some v := by
            have e : P ++ (A1' ++ [u] ++ A2) ++ (B1 ++ v :: B2') ++ S = (P ++ (A1' ++ [u] ++ A2) ++ B1) ++ v :: (B2' ++ S) := by simp
            rw [e, show mid + m - 1 - (s - 1) = (P ++ (A1' ++ [u] ++ A2) ++ B1).length by simp at hsA hma ⊢; omega]
            exact at_mid _ _ _
          rw [ltAt_some hv hu] at h4
          simpa using h4
      have hxu : ltI u x = false := by
        rcases List.mem_append.1 hx with h | h
        · exact sA.left.cross x h u (by simp)
        · simp at h; subst h; exact swoI.irr _
      have hvy : ltI y v = false := by
        rcases List.mem_cons.1 hy with rfl | h
        · exact swoI.irr _
        · exact (List.pairwise_cons.1 sB.right).1 y h
      exact swoI.le_trans (swoI.le_trans hxu huv) hvy
  have x21 : ∀ x ∈ A2, ∀ y ∈ B1, ltI y x = true := by
    intro x hx y hy
    obtain ⟨B1', v, rfl⟩ : ∃ B1' v, B1 = B1' ++ [v] := by
      rcases List.eq_nil_or_concat B1 with h | ⟨B1', v, h⟩
      · rw [h] at hy; cases hy
      · exact ⟨B1', v, by rw [h]; simp⟩
    cases A2 with
    | nil => cases hx
    | cons u A2' =>
      have huv : ltI v u = true := by
        rcases h5 with h5 | h5
        · exfalso
          simp at hsA hma hmd hA2; omega
        · have hu : (P ++ (A1 ++ u :: A2') ++ (B1' ++ [v] ++ B2) ++ S)[s]? = some u := by
            have e : P ++ (A1 ++ u :: A2') ++ (B1' ++ [v] ++ B2) ++ S = (P ++ A1) ++ u :: (A2' ++ (B1' ++ [v] ++ B2) ++ S) := by simp
            rw [e, show s = (P ++ A1).length by simp at hsA ⊢; omega]
            exact at_mid _ _ _
          have hv : (P ++ (A1 ++ u :: A2') ++ (B1' ++ [v] ++ B2) ++ S)[mid + m - 1 - s]? = some v := by
            have e : P ++ (A1 ++ u :: A2') ++ (B1' ++ [v] ++ B2) ++ S = (P ++ (A1 ++ u :: A2') ++ B1') ++ v :: (B2 ++ S) := by simp
            rw [e, show mid + m - 1 - s = (P ++ (A1 ++ u :: A2') ++ B1').length by simp at hsA hma hmd ⊢; omega]
            exact at_mid _ _ _
          rw [ltAt_some hv hu] at h5
          simpa using h5
      have hux : ltI x u = false := by
        rcases List.mem_cons.1 hx with rfl | h
        · exact swoI.irr _
        · exact (List.pairwise_cons.1 sA.right).1 x h
      have hyv : ltI v y = false := by
        rcases List.mem_append.1 hy with h | h
        · exact sB.left.cross y h v (by simp)
        · simp at h; subst h; exact swoI.irr _
      exact swoI.lt_le (swoI.le_lt hyv huv) hux
  -- the parts
  obtain ⟨M1, k1, k2⟩ := part_merge h P A1 B1 (A2 ++ B2 ++ S) (by omega) sA.left sB.left (by omega) (fun l => f50_31_j3 (P.length : Int) (m : Int) (b : Int) rec193 (s : Int) l)
  have hM1 := k2.len
  have hPM : (P ++ M1).length = mid := by simp at hM1 ⊢; omega
  obtain ⟨M2, q1, q2⟩ := part_merge h (P ++ M1) A2 B2 S (by omega) sA.right sB.right (by simp at hM1 ⊢; omega) some
  have q3 := q2.len
  refine ⟨M1 ++ M2, ?_, ?_, ?_, ?_⟩
  · unfold f50_31b
    rw [if_neg (by rw [i64_id (by omega) (by omega)]; omega), if_neg (by rw [i64_id (by omega) (by omega)]; omega), hwm, hwn, e0]
    simp only [f50_31_j1]
    rw [h1, Option.bind_some]
    simp only [hwm, hwn, hend]
    have stage1 : (if (s : Int) < (m : Int) then (if (m : Int) < ((m + B1.length : Nat) : Int) then ((f57_31 (P ++ (A1 ++ A2) ++ (B1 ++ B2) ++ S) (s : Int) (m : Int) ((m + B1.length : Nat) : Int)).bind fun x240 => ((guardO (x240.length = (P ++ (A1 ++ A2) ++ (B1 ++ B2) ++ S).length)).bind fun x241 => f50_31_j2 (P.length : Int) (m : Int) (b : Int) rec193 (s : Int) x240)) else f50_31_j2 (P.length : Int) (m : Int) (b : Int) rec193 (s : Int) (P ++ (A1 ++ A2) ++ (B1 ++ B2) ++ S)) else f50_31_j2 (P.length : Int) (m : Int) (b : Int) rec193 (s : Int) (P ++ (A1 ++ A2) ++ (B1 ++ B2) ++ S)) = f50_31_j2 (P.length : Int) (m : Int) (b : Int) rec193 (s : Int) (P ++ A1 ++ B1 ++ (A2 ++ B2 ++ S)) := by
      by_cases d1 : A2 = []
      · subst d1
        rw [if_neg (by simp at hA2; omega)]; simp
      by_cases d2 : B1 = []
      · subst d2
        rw [if_pos (by have := List.length_pos_iff.2 d1; omega), if_neg (by simp)]; simp
      have p1 := List.length_pos_iff.2 d1
      have p2 := List.length_pos_iff.2 d2
      rw [if_pos (by omega), if_pos (by omega)]
      have e : P ++ (A1 ++ A2) ++ (B1 ++ B2) ++ S = (P ++ A1) ++ A2 ++ B1 ++ (B2 ++ S) := by simp
      rw [e, rot_eq (P ++ A1) A2 B1 (B2 ++ S) p1 p2 (by simp; omega) (by rw [hsA]; simp) (by rw [hA2, hsA]; simp) (by rw [hA2, hsA]; simp), Option.bind_some, guardO_ok (by simp; omega), Option.bind_some]
      simp
    rw [stage1]
    have e2 : ((P.length + A1.length : Nat) : Int) = (s : Int) := by omega
    have e3 : ((P.length + A1.length + B1.length : Nat) : Int) = (mid : Int) := by omega
    rw [e2, e3] at k1
    simp only [f50_31_j2, hwm]
    rw [k1]
    have e4 : (((P ++ M1).length : Nat) : Int) = (mid : Int) := by omega
    have e5 : (((P ++ M1).length + A2.length : Nat) : Int) = ((m + B1.length : Nat) : Int) := by omega
    have e6 : (((P ++ M1).length + A2.length + B2.length : Nat) : Int) = (b : Int) := by omega
    have e7 : P ++ M1 ++ (A2 ++ B2 ++ S) = P ++ M1 ++ A2 ++ B2 ++ S := by simp
    rw [e4, e5, e6] at q1
    simp only [f50_31_j3, hwm, hwn, hend]
    rw [e7, q1]
    simp
  · refine Srt.append k2.srt q2.srt fun x hx y hy => ?_
    rcases List.mem_append.1 (k2.sf.mem swoI hx) with h | h <;> rcases List.mem_append.1 (q2.sf.mem swoI hy) with h' | h'
    · exact sA.cross x h y h'
    · exact x12 x h y h'
    · exact swoI.asym (x21 y h' x h)
    · exact sB.cross x h y h'
  · refine (SF.append k2.sf q2.sf).trans ?_
    have : SF ltI (A1 ++ (B1 ++ A2) ++ B2) (A1 ++ (A2 ++ B1) ++ B2) := SF.append (SF.append (SF.refl _) (SF.swap swoI x21).symm) (SF.refl _)
    simpa using this
  · simp at hM1 q3 ⊢; omega
theorem sym_all : ∀ n : Nat, MergesN (f50_31 n) n
  | 0 => fun P A B S hn hA hB => by omega
  | n + 1 => sym_step (sym_all n)
theorem sym_eq (P A B S : List Item) (hA : 0 < A.length) (hB : 0 < B.length) (sA : Srt ltI A) (sB : Srt ltI B) (hl : P.length + A.length + B.length ≤ 100000) :
    ∃ M, f50_31 fuel (P ++ A ++ B ++ S) (P.length : Int) ((P.length + A.length : Nat) : Int) ((P.length + A.length + B.length : Nat) : Int) = some (P ++ M ++ S) ∧ Sorts ltI (A ++ B) M :=
  sym_all fuel P A B S (Nat.le_trans (show A.length + B.length ≤ 100000 by omega) (by decide)) hA hB sA sB hl
end Au
end Go.Proofs.Y5

set_option linter.all false
set_option maxRecDepth 8000
set_option maxHeartbeats 1000000
namespace Go.Proofs.Y5
open Go.Gm
namespace Au
/-- Every block of so many is sorted. -/
def AB (bs : Nat) (l : List Item) : Prop := ∀ k, Srt ltI ((l.drop (k * bs)).take bs)
theorem AB.nil (bs : Nat) : AB bs [] := fun k => by simp only [List.drop_nil, List.take_nil]; exact Srt.nil
theorem AB.snoc {bs q : Nat} {D M : List Item} (h : AB bs D) (hD : D.length = q * bs) (hM : M.length ≤ bs) (hs : Srt ltI M) : AB bs (D ++ M) := fun k => by
  rcases Nat.lt_trichotomy k q with hk | hk | hk
  · have h1 : (k + 1) * bs ≤ q * bs := Nat.mul_le_mul_right bs hk
    rw [Nat.succ_mul] at h1
    rw [List.drop_append_of_le_length (by omega), List.take_append_of_le_length (by rw [List.length_drop]; omega)]
    exact h k
  · subst hk
    rw [← hD, List.drop_left, List.take_of_length_le hM]
    exact hs
  · have h1 : (q + 1) * bs ≤ k * bs := Nat.mul_le_mul_right bs hk
    rw [Nat.succ_mul] at h1
    rw [List.drop_eq_nil_of_le (by rw [List.length_append]; omega), List.take_nil]
    exact Srt.nil
theorem AB.head {bs : Nat} {l : List Item} (h : AB bs l) : Srt ltI (l.take bs) := by
  have := h 0
  simpa using this
theorem AB.drop {bs : Nat} {l : List Item} (h : AB bs l) : AB bs (l.drop bs) := fun k => by
  have := h (k + 1)
  rw [List.drop_drop]
  rw [Nat.succ_mul] at this
  rw [Nat.add_comm]
  exact this
def Ev (l l' : List Item) : Prop := SF ltI l l' ∧ l.length = l'.length
theorem Ev.refl (l : List Item) : Ev l l := ⟨SF.refl l, rfl⟩
theorem Ev.trans {a b c : List Item} (h : Ev a b) (k : Ev b c) : Ev a c := ⟨h.1.trans k.1, h.2.trans k.2⟩
theorem Ev.app {a b c d : List Item} (h : Ev a b) (k : Ev c d) : Ev (a ++ c) (b ++ d) := ⟨SF.append h.1 k.1, by rw [List.length_append, List.length_append, h.2, k.2]⟩
theorem ins_phase : ∀ (n : Nat) (D R : List Item) (q : Nat), R.length = n → D.length = q * 20 → AB 20 D → D.length + R.length ≤ 100000 →
    ∃ D' R' q', loopO (f37_31_s2 ((D.length + R.length : Nat) : Int)) (D ++ R, (D.length : Int), ((D.length + 20 : Nat) : Int)) = some ((D'.length : Int), D' ++ R') ∧ D'.length = q' * 20 ∧ AB 20 D' ∧ R'.length < 20 ∧ Ev (D' ++ R') (D ++ R) := by
  intro n
  induction n using Nat.strongRecOn with
  | ind n ih =>
    intro D R q hn hD hA hl
    by_cases h : 20 ≤ R.length
    · obtain ⟨X, R', rfl, hX⟩ := split_at h
      obtain ⟨M, h1, h2⟩ := ins_eq D X R' (by simp at hl; omega) (a := (D.length : Int)) (b := ((D.length + 20 : Nat) : Int)) rfl (by rw [hX])
      have hM := h2.len
      have hw : IntKind.i64.wrap (((D.length + 20 : Nat) : Int) + 20) = ((D.length + 20 + 20 : Nat) : Int) := by rw [i64_id (by omega) (by omega)]; omega
      have hstep : f37_31_s2 ((D.length + (X ++ R').length : Nat) : Int) (D ++ (X ++ R'), (D.length : Int), ((D.length + 20 : Nat) : Int)) = some (.inl ((D ++ M) ++ R', ((D ++ M).length : Int), (((D ++ M).length + 20 : Nat) : Int))) := by
        simp only [f37_31_s2]
        rw [if_pos (by simp; omega), ← List.append_assoc, h1, Option.bind_some, guardO_ok (by simp; omega), Option.bind_some, hw]
        simp [hM, hX]
      rw [loopO_next hstep]
      obtain ⟨D', R'', q', k1, k2, k3, k4, k5⟩ := ih R'.length (by simp at hn; omega) (D ++ M) R' (q + 1) rfl (by simp; omega) (hA.snoc hD (by omega) h2.srt) (by simp at hl ⊢; omega)
      refine ⟨D', R'', q', ?_, k2, k3, k4, k5.trans ?_⟩
      · rw [← k1]; congr 2; simp; omega
      · rw [List.append_assoc]
        exact (Ev.refl D).app (Ev.app ⟨h2.sf, h2.len⟩ (Ev.refl R'))
    · refine ⟨D, R, q, loopO_done ?_, hD, hA, by omega, Ev.refl _⟩
      simp only [f37_31_s2]
      rw [if_neg (by omega)]
theorem merge_phase (bs : Nat) (hbs : 0 < bs) (hb2 : bs ≤ 100000) : ∀ (n : Nat) (D R : List Item) (q : Nat), R.length = n → D.length = q * (2 * bs) → AB (2 * bs) D → AB bs R → D.length + R.length ≤ 100000 →
    ∃ D' R' q', loopO (f37_31_s9 ((D.length + R.length : Nat) : Int) (bs : Int)) (D ++ R, (D.length : Int), ((D.length + 2 * bs : Nat) : Int)) = some ((D'.length : Int), D' ++ R') ∧ D'.length = q' * (2 * bs) ∧ AB (2 * bs) D' ∧ AB bs R' ∧ R'.length < 2 * bs ∧ Ev (D' ++ R') (D ++ R) := by
  intro n
  induction n using Nat.strongRecOn with
  | ind n ih =>
    intro D R q hn hD hA hR hl
    by_cases h : 2 * bs ≤ R.length
    · obtain ⟨X, R1, rfl, hX⟩ := split_at (l := R) (n := bs) (by omega)
      obtain ⟨Y, R', rfl, hY⟩ := split_at (l := R1) (n := bs) (by simp at h; omega)
      have sX : Srt ltI X := by have := hR.head; rwa [← hX, List.take_left] at this
      have hR1 : AB bs (Y ++ R') := by have := hR.drop; rwa [← hX, List.drop_left, hX] at this
      have sY : Srt ltI Y := by have := hR1.head; rwa [← hY, List.take_left] at this
      have hR' : AB bs R' := by have := hR1.drop; rwa [← hY, List.drop_left, hY] at this
      obtain ⟨M, h1, h2⟩ := sym_eq D X Y R' (by omega) (by omega) sX sY (by simp at hl; omega)
      have hM := h2.len
      simp only [List.length_append] at hM
      have hw : IntKind.i64.wrap ((D.length : Int) + (bs : Int)) = ((D.length + X.length : Nat) : Int) := by rw [i64_id (by omega) (by omega)]; omega
      have hw2 : IntKind.i64.wrap (((D.length + 2 * bs : Nat) : Int) + IntKind.i64.wrap (2 * (bs : Int))) = ((D.length + 2 * bs + 2 * bs : Nat) : Int) := by rw [i64_id (show -9223372036854775808 ≤ 2 * (bs : Int) by omega) (by omega), i64_id (by omega) (by omega)]; omega
      have hstep : f37_31_s9 ((D.length + (X ++ (Y ++ R')).length : Nat) : Int) (bs : Int) (D ++ (X ++ (Y ++ R')), (D.length : Int), ((D.length + 2 * bs : Nat) : Int)) = some (.inl ((D ++ M) ++ R', ((D ++ M).length : Int), (((D ++ M).length + 2 * bs : Nat) : Int))) := by
        simp only [f37_31_s9]
        have e : D ++ (X ++ (Y ++ R')) = D ++ X ++ Y ++ R' := by simp
        have e2 : ((D.length + 2 * bs : Nat) : Int) = ((D.length + X.length + Y.length : Nat) : Int) := by omega
        have e3 : ((D ++ M).length : Int) = ((D.length + 2 * bs : Nat) : Int) := by simp; omega
        rw [if_pos (by simp; omega), hw2, hw, e2, e, h1, Option.bind_some, guardO_ok (by simp; omega), Option.bind_some]
        simp [hM]
        omega
      rw [loopO_next hstep]
      obtain ⟨D', R'', q', k1, k2, k3, k4, k5, k6⟩ := ih R'.length (by simp at hn; omega) (D ++ M) R' (q + 1) rfl (by rw [Nat.succ_mul]; simp; omega) (hA.snoc hD (by omega) h2.srt) hR' (by simp at hl ⊢; omega)
      refine ⟨D', R'', q', ?_, k2, k3, k4, k5, k6.trans ?_⟩
      · rw [← k1]; congr 2; simp; omega
      · have : Ev (D ++ (M ++ R')) (D ++ ((X ++ Y) ++ R')) := (Ev.refl D).app (Ev.app ⟨h2.sf, h2.len⟩ (Ev.refl R'))
        simpa using this
    · refine ⟨D, R, q, loopO_done ?_, hD, hA, hR, by omega, Ev.refl _⟩
      simp only [f37_31_s9]
      rw [if_neg (by omega)]
theorem passes (N : Nat) (hN : N ≤ 100000) : ∀ (k : Nat) (l : List Item) (bs : Nat), N - bs = k → 0 < bs → bs ≤ 200000 → l.length = N → AB bs l → ∃ r, loopO (f37_31_s3 (N : Int)) (l, (bs : Int)) = some r ∧ Srt ltI r ∧ Ev r l := by
  intro k
  induction k using Nat.strongRecOn with
  | ind k ih =>
    intro l bs hk h0 hb hl hA
    by_cases hlt : bs < N
    · obtain ⟨D, R, q, h1, h2, h3, h4, h5, h6⟩ := merge_phase bs h0 (by omega) l.length [] l 0 rfl (by simp) (AB.nil _) hA (by simp; omega)
      have hlen := h6.2
      simp only [List.nil_append, List.length_append, List.length_nil, Nat.zero_add] at h1 hlen h6
      have w2 : IntKind.i64.wrap (2 * (bs : Int)) = ((2 * bs : Nat) : Int) := by rw [i64_id (by omega) (by omega)]; omega
      have w3 : IntKind.i64.wrap ((bs : Int) * 2) = ((2 * bs : Nat) : Int) := by rw [i64_id (by omega) (by omega)]; omega
      have w4 : IntKind.i64.wrap ((D.length : Int) + (bs : Int)) = ((D.length + bs : Nat) : Int) := by rw [i64_id (by omega) (by omega)]; omega
      obtain ⟨l', s1, s2, s3⟩ : ∃ l', f37_31_s3 (N : Int) (l, (bs : Int)) = some (.inl (l', ((2 * bs : Nat) : Int))) ∧ AB (2 * bs) l' ∧ Ev l' l := by
        by_cases hc : D.length + bs < N
        · obtain ⟨X, Y, rfl, hX⟩ := split_at (l := R) (n := bs) (by omega)
          have sX : Srt ltI X := by have := h4.head; rwa [← hX, List.take_left] at this
          have sY : Srt ltI Y := by
            have := (h4.drop).head
            rw [← hX, List.drop_left] at this
            rwa [List.take_of_length_le (by simp at h5; omega)] at this
          simp only [List.length_append] at hlen h5
          obtain ⟨M, m1, m2⟩ := sym_eq D X Y [] (by omega) (by omega) sX sY (by omega)
          have hM := m2.len
          simp only [List.append_nil, List.length_append] at m1 hM
          refine ⟨D ++ M, ?_, h3.snoc h2 (by omega) m2.srt, Ev.trans ?_ h6⟩
          · simp only [f37_31_s3]
            rw [if_pos (by omega), w2, show (0 : Int) = ((([] : List Item).length : Nat) : Int) from rfl]
            rw [show (N : Int) = ((l.length : Nat) : Int) by omega]
            simp only [List.length_nil]
            rw [h1, Option.bind_some]
            simp only [w4, w3]
            have e1 : ((D.length + bs : Nat) : Int) = ((D.length + X.length : Nat) : Int) := by omega
            have e2 : ((l.length : Nat) : Int) = ((D.length + X.length + Y.length : Nat) : Int) := by omega
            rw [if_pos (by omega), e1, e2, show D ++ (X ++ Y) = D ++ X ++ Y by simp, m1, Option.bind_some, guardO_ok (by simp; omega), Option.bind_some]
          · exact (Ev.refl D).app ⟨m2.sf, m2.len⟩
        · refine ⟨D ++ R, ?_, h3.snoc h2 (by omega) ?_, h6⟩
          · simp only [f37_31_s3]
            rw [if_pos (by omega), w2, show (0 : Int) = ((([] : List Item).length : Nat) : Int) from rfl]
            rw [show (N : Int) = ((l.length : Nat) : Int) by omega]
            simp only [List.length_nil]
            rw [h1, Option.bind_some]
            simp only [w4, w3]
            rw [if_neg (by omega)]
          · have := h4.head
            rwa [List.take_of_length_le (by omega)] at this
      rw [loopO_next s1]
      obtain ⟨r, t1, t2, t3⟩ := ih (N - 2 * bs) (by omega) l' (2 * bs) rfl (by omega) (by omega) (by rw [s3.2, hl]) s2
      exact ⟨r, t1, t2, t3.trans s3⟩
    · refine ⟨l, loopO_done ?_, ?_, Ev.refl _⟩
      · simp only [f37_31_s3]
        rw [if_neg (by omega)]
      · have := hA.head
        rwa [List.take_of_length_le (by omega)] at this
theorem stable_eq (l : List Item) (hl : l.length ≤ 100000) : ∃ r, f30_31 l = some r ∧ Sorts ltI l r := by
  obtain ⟨D, R, q, h1, h2, h3, h4, h5⟩ := ins_phase l.length [] l 0 rfl (by simp) (AB.nil _) (by simp; omega)
  have hlen := h5.2
  simp only [List.nil_append, List.length_append, List.length_nil, Nat.zero_add] at h1 hlen h5
  obtain ⟨M, m1, m2⟩ := ins_eq D R [] (by omega) (a := (D.length : Int)) (b := (l.length : Int)) rfl (by omega)
  simp only [List.append_nil] at m1
  have hM := m2.len
  obtain ⟨r, t1, t2, t3⟩ := passes l.length hl (l.length - 20) (D ++ M) 20 rfl (by decide) (by decide) (by simp; omega) (h3.snoc h2 (by omega) m2.srt)
  have ev : Ev r l := t3.trans (((Ev.refl D).app ⟨m2.sf, m2.len⟩).trans h5)
  refine ⟨r, ?_, t2, ev.1, ev.2⟩
  unfold f30_31 f37_31
  rw [show ((0 : Int)) = ((0 : Nat) : Int) from rfl, show (20 : Int) = ((20 : Nat) : Int) from rfl, h1, Option.bind_some]
  simp only
  rw [m1, Option.bind_some, guardO_ok (by simp; omega), Option.bind_some, t1, Option.bind_some, Option.bind_some, guardO_ok ev.2, Option.bind_some]
end Au
end Go.Proofs.Y5
