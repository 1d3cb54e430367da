import Derived.Test.YtncdjladnpogiaaGsW3
import Derived.Test.YtncdjladnpogiaaGsLi
set_option linter.all false
set_option linter.unusedVariables false
set_option linter.unusedSimpArgs false
set_option linter.all false
set_option maxRecDepth 8000
set_option maxHeartbeats 1000000
namespace Go.Proofs.Y2
open Go.Gm
namespace Au
def ltR (x y : Ranked) : Bool := decide (y.r.Offs.length < x.r.Offs.length)
theorem swoR : SWO ltR := ⟨fun {x y} h => by simp only [ltR, decide_eq_true_eq, decide_eq_false_iff_not] at *; omega, fun {x z} y h => by simp only [ltR, decide_eq_true_eq] at *; omega⟩
theorem cmp_eq (x y : Ranked) : ∃ c, f21 x y = some c ∧ (c < 0 ↔ ltR x y = true) := by
  unfold f21 f34 f46 ltR
  simp only [decide_true, Bool.not_true, Option.bind_some, Bool.false_eq_true, if_false, decide_eq_true_eq]
  by_cases h1 : (y.r.Offs.length : Int) < (x.r.Offs.length : Int)
  · rw [if_pos h1]; exact ⟨_, rfl, by omega⟩
  · rw [if_neg h1]
    by_cases h2 : (x.r.Offs.length : Int) < (y.r.Offs.length : Int)
    · rw [if_pos h2]; exact ⟨_, rfl, by omega⟩
    · rw [if_neg h2]; exact ⟨_, rfl, by omega⟩
/-! ### two neighbours -/
theorem nb_ix0 (Q : List Ranked) (y x : Ranked) (R : List Ranked) : ix (Q ++ y :: x :: R) (Q.length : Int) = some y := ix_mid rfl
theorem nb_ix1 (Q : List Ranked) (y x : Ranked) (R : List Ranked) : ix (Q ++ y :: x :: R) ((Q.length + 1 : Nat) : Int) = some x := by
  rw [show Q ++ y :: x :: R = (Q ++ [y]) ++ x :: R by simp]
  exact ix_mid (by simp)
theorem nb_set1 (Q : List Ranked) (y x z : Ranked) (R : List Ranked) : (Q ++ y :: x :: R).set (Q.length + 1) z = Q ++ y :: z :: R := by
  rw [show Q ++ y :: x :: R = (Q ++ [y]) ++ x :: R by simp, set_mid' (by simp)]
  simp
theorem nb_set0 (Q : List Ranked) (y x z : Ranked) (R : List Ranked) : (Q ++ y :: x :: R).set Q.length z = Q ++ z :: x :: R := set_mid' rfl
theorem wrapS {n : Nat} (h : n ≤ 10000000000) : IntKind.i64.wrap (((n + 1 : Nat) : Int) - 1) = (n : Int) := by rw [i64_id (by omega) (by omega)]; omega
/-! ### insertion -/
theorem ins_inner (P S : List Ranked) (x : Ranked) : ∀ (n : Nat) (A B : List Ranked), A.length = n → P.length + n ≤ 1000000 → (∀ b ∈ B, ltR x b = true) → Srt ltR (A ++ B) →
    ∃ A' B', loopO (f44_21_s4 (P.length : Int)) (P ++ A ++ x :: (B ++ S), ((P.length + A.length : Nat) : Int)) = some (P ++ (A' ++ x :: B') ++ S) ∧ A ++ B = A' ++ B' ∧ Srt ltR (A' ++ x :: B') ∧ (∀ b ∈ B', ltR x b = true)
  | 0, A, B, hA, hl, hB, hs => by
    obtain rfl := List.eq_nil_of_length_eq_zero hA
    refine ⟨[], B, loopO_done ?_, rfl, ?_, hB⟩
    · simp [f44_21_s4]
    · exact List.pairwise_cons.2 ⟨fun b hb => swoR.asym (hB b hb), hs⟩
  | n + 1, A, B, hA, hl, hB, hs => by
    obtain ⟨A1, y, rfl⟩ : ∃ A1 y, A = A1 ++ [y] := by
      rcases List.eq_nil_or_concat A with h | ⟨A1, y, h⟩
      · rw [h] at hA; simp at hA
      · exact ⟨A1, y, by rw [h]; simp⟩
    have hA1 : A1.length = n := by simpa using hA
    have e1 : P ++ (A1 ++ [y]) ++ x :: (B ++ S) = (P ++ A1) ++ y :: x :: (B ++ S) := by simp
    have e2 : ((P.length + (A1 ++ [y]).length : Nat) : Int) = (((P ++ A1).length + 1 : Nat) : Int) := by simp; omega
    have hlt : (P.length : Int) < (((P ++ A1).length + 1 : Nat) : Int) := by simp; omega
    have hw : IntKind.i64.wrap ((((P ++ A1).length + 1 : Nat) : Int) - 1) = ((P ++ A1).length : Int) := wrapS (by simp; omega)
    obtain ⟨c, hc, hc2⟩ := cmp_eq x y
    rw [e1, e2]
    by_cases hxy : ltR x y = true
    · have hstep : f44_21_s4 (P.length : Int) ((P ++ A1) ++ y :: x :: (B ++ S), (((P ++ A1).length + 1 : Nat) : Int)) = some (.inl ((P ++ A1) ++ x :: y :: (B ++ S), ((P ++ A1).length : Int))) := by
        simp only [f44_21_s4, if_pos hlt, nb_ix1, hw, nb_ix0, Option.bind_some, hc, if_pos (hc2.2 hxy), Int.toNat_natCast, nb_set1, nb_set0]
      rw [loopO_next hstep]
      obtain ⟨A', B', h1, h2, h3, h4⟩ := ins_inner P S x n A1 (y :: B) hA1 (by omega) (fun b hb => by
        rcases List.mem_cons.1 hb with rfl | hb
        · exact hxy
        · exact hB b hb) (by simpa using hs)
      refine ⟨A', B', ?_, by rw [← h2]; simp, h3, h4⟩
      rw [← h1]
      congr 1
      simp
    · have hxy' : ltR x y = false := by simpa using hxy
      have hstep : f44_21_s4 (P.length : Int) ((P ++ A1) ++ y :: x :: (B ++ S), (((P ++ A1).length + 1 : Nat) : Int)) = some (.inr ((P ++ A1) ++ y :: x :: (B ++ S))) := by
        simp only [f44_21_s4, if_pos hlt, nb_ix1, hw, nb_ix0, Option.bind_some, hc, if_neg (fun h => hxy (hc2.1 h))]
      refine ⟨A1 ++ [y], B, (loopO_done hstep).trans (by simp), rfl, ?_, hB⟩
      refine Srt.append hs.left (List.pairwise_cons.2 ⟨fun b hb => swoR.asym (hB b hb), hs.right⟩) fun a ha b hb => ?_
      have hay : ltR x a = false := by
        rcases List.mem_append.1 ha with h | h
        · exact swoR.le_trans (hs.left.cross a h y (by simp)) hxy'
        · simp at h; subst h; exact hxy'
      rcases List.mem_cons.1 hb with rfl | hb
      · exact hay
      · exact hs.cross a ha b hb
theorem ins_outer (P S : List Ranked) : ∀ (R Y : List Ranked), Srt ltR Y → P.length + Y.length + R.length ≤ 100000 →
    ∃ M, loopO (f44_21_s1 (P.length : Int) ((P.length + Y.length + R.length : Nat) : Int)) (P ++ Y ++ (R ++ S), ((P.length + Y.length : Nat) : Int)) = some (P ++ M ++ S) ∧ Sorts ltR (Y ++ R) M
  | [], Y, hs, hl => by
    refine ⟨Y, loopO_done ?_, hs, by rw [List.append_nil]; exact SF.refl _, by simp⟩
    simp [f44_21_s1]
  | x :: R, Y, hs, hl => by
    obtain ⟨A', B', h1, h2, h3, h4⟩ := ins_inner P (R ++ S) x Y.length Y [] rfl (by simp at hl; omega) (by simp) (by simpa using hs)
    rw [List.append_nil] at h2
    have e : (A' ++ x :: B').length = Y.length + 1 := by rw [h2]; simp; omega
    obtain ⟨M, k1, k2⟩ := ins_outer P S R (A' ++ x :: B') h3 (by simp at hl e ⊢; omega)
    refine ⟨M, ?_, k2.srt, k2.sf.trans ?_, ?_⟩
    · have hw : IntKind.i64.wrap (((P.length + Y.length : Nat) : Int) + 1) = ((P.length + (A' ++ x :: B').length : Nat) : Int) := by rw [wrapN (by simp at hl; omega), e]; congr 1
      have hstep : f44_21_s1 (P.length : Int) ((P.length + Y.length + (x :: R).length : Nat) : Int) (P ++ Y ++ (x :: R ++ S), ((P.length + Y.length : Nat) : Int)) = some (.inl (P ++ (A' ++ x :: B') ++ (R ++ S), ((P.length + (A' ++ x :: B').length : Nat) : Int))) := by
        rw [List.nil_append] at h1
        simp only [f44_21_s1, if_pos (show ((P.length + Y.length : Nat) : Int) < ((P.length + Y.length + (x :: R).length : Nat) : Int) by simp; omega), List.cons_append, h1, Option.bind_some, hw]
      rw [loopO_next hstep, ← k1]
      congr 2
      simp at e ⊢; omega
    · have : SF ltR (A' ++ (x :: B')) (A' ++ (B' ++ [x])) := SF.append (SF.refl _) (SF.swap swoR (a := B') (b := [x]) (fun p hp q hq => by simp at hq; subst hq; exact h4 p hp)).symm
      rw [h2]
      have e3 : A' ++ B' ++ x :: R = (A' ++ (B' ++ [x])) ++ R := by simp
      rw [e3]
      exact SF.append this (SF.refl _)
    · rw [k2.len]; simp at e ⊢; omega
theorem ins_eq (P X S : List Ranked) (hl : P.length + X.length ≤ 100000) {a b : Int} (ha : a = (P.length : Int)) (hb : b = ((P.length + X.length : Nat) : Int)) : ∃ M, f44_21 (P ++ X ++ S) a b = some (P ++ M ++ S) ∧ Sorts ltR X M := by
  subst ha hb
  cases X with
  | nil =>
    refine ⟨[], ?_, Srt.nil, SF.refl _, rfl⟩
    unfold f44_21
    rw [loopO_done (r := P ++ [] ++ S) (by simp only [f44_21_s1]; rw [if_neg (by rw [i64_id (by omega) (by omega)]; simp; omega)])]
    rfl
  | cons x R =>
    obtain ⟨M, h1, h2⟩ := ins_outer P S R [x] (Srt.one x) (by simp at hl ⊢; omega)
    refine ⟨M, ?_, by simpa using h2⟩
    unfold f44_21
    have e : IntKind.i64.wrap ((P.length : Int) + 1) = ((P.length + [x].length : Nat) : Int) := wrapN (by simp at hl; omega)
    have e2 : ((P.length + (x :: R).length : Nat) : Int) = ((P.length + [x].length + R.length : Nat) : Int) := by simp; omega
    have e3 : P ++ x :: R ++ S = P ++ [x] ++ (R ++ S) := by simp
    rw [e, e2, e3, h1]
    rfl
end Au
end Go.Proofs.Y2
