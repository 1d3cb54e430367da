import Derived.Test.YtlonihmeikmpiaaGpW1
set_option linter.all false
set_option linter.unusedVariables false
set_option linter.unusedSimpArgs false
set_option linter.all false
set_option maxRecDepth 8000
namespace Go.Proofs.Y1
open Go.Gm
namespace Au
noncomputable def leadB (i : Nat) : Bool := match iterO f117_s1 10 ((i : Int), 0) with
  | some k => decide (f142 (xorV .u8 (allV .u8) (i : Int)) = some k) && decide (0 ≤ k) && decide (k ≤ 8)
  | none => false
theorem leadAll : (List.range 256).all leadB = true := by kernel_rfl
theorem lead {x : Int} (h0 : 0 ≤ x) (h1 : x < 256) : ∃ k, f117 x = some k ∧ f142 (xorV .u8 (allV .u8) x) = some k ∧ 0 ≤ k ∧ k ≤ 8 := by
  have h := List.all_eq_true.1 leadAll x.toNat (by simp; omega)
  unfold leadB at h
  have e : ((x.toNat : Nat) : Int) = x := by omega
  rw [e] at h
  split at h
  · rename_i k hk
    simp only [Bool.and_eq_true, decide_eq_true_eq] at h
    exact ⟨k, by rw [f117, loopO_iff.2 ⟨10, hk⟩]; rfl, h.1.1, h.1.2, h.2⟩
  · cases h
noncomputable def powB (k : Nat) : Bool := decide (iterO (f118_s1 (k : Int)) 70 (1, 0) = some (IntKind.u64.wrap (2 ^ k)))
theorem powAll : (List.range 65).all powB = true := by kernel_rfl
theorem pow {k : Int} (h0 : 0 ≤ k) (h1 : k < 65) : f118 k = some (IntKind.u64.wrap (2 ^ k.toNat)) := by
  have h := List.all_eq_true.1 powAll k.toNat (by simp; omega)
  unfold powB at h
  have e : ((k.toNat : Nat) : Int) = k := by omega
  rw [e, decide_eq_true_eq] at h
  rw [f118, loopO_iff.2 ⟨70, h⟩]; rfl
noncomputable def firstB (x n : Nat) : Bool := decide (andV .u64 (IntKind.u64.wrap (x : Int)) (shrV .u64 255 n) = (IntKind.u64.wrap (x : Int)).tmod (IntKind.u64.wrap (2 ^ (8 - n))))
theorem firstAll : ((List.range 256).all fun x => (List.range 9).all fun n => firstB x n) = true := by kernel_rfl
theorem first {x : Int} {n : Nat} (h0 : 0 ≤ x) (h1 : x < 256) (hn : n < 9) : andV .u64 (IntKind.u64.wrap x) (shrV .u64 255 n) = (IntKind.u64.wrap x).tmod (IntKind.u64.wrap (2 ^ (8 - n))) := by
  have h := List.all_eq_true.1 (List.all_eq_true.1 firstAll x.toNat (by simp; omega)) n (by simpa using hn)
  unfold firstB at h
  have e : ((x.toNat : Nat) : Int) = x := by omega
  rw [e, decide_eq_true_eq] at h
  exact h
theorem u64_wrap (n : Int) : IntKind.u64.wrap n = n % 18446744073709551616 := by
  simp [IntKind.wrap, IntKind.bits, IntKind.signed]
theorem i64_id {n : Int} (h0 : -9223372036854775808 ≤ n) (h1 : n < 9223372036854775808) : IntKind.i64.wrap n = n := by
  simp only [IntKind.wrap, IntKind.bits, IntKind.signed, Bool.true_and]
  split
  · rename_i h; simp only [ge_iff_le, decide_eq_true_eq] at h; omega
  · rename_i h; simp only [ge_iff_le, decide_eq_true_eq] at h; omega
theorem orN {n m : Nat} (hn : n < 2 ^ 64) (hm : m < 2 ^ 64) : orV .u64 (n : Int) (m : Int) = ((n ||| m : Nat) : Int) := by
  show IntKind.u64.wrap (((BitVec.ofInt 64 (n : Int) ||| BitVec.ofInt 64 (m : Int)).toNat : Nat) : Int) = _
  rw [u64_wrap, BitVec.toNat_or, BitVec.ofInt_natCast, BitVec.ofInt_natCast, BitVec.toNat_ofNat, BitVec.toNat_ofNat, Nat.mod_eq_of_lt hn, Nat.mod_eq_of_lt hm]
  have : n ||| m < 2 ^ 64 := Nat.or_lt_two_pow hn hm
  omega
theorem nextByte {v x : Int} (h0 : 0 ≤ v) (hx : 0 ≤ x) (hx1 : x < 256) :
    orV .u64 (shlV .u64 v 8) (IntKind.u64.wrap x) = IntKind.u64.wrap (IntKind.u64.wrap (256 * v) + IntKind.u64.wrap x) := by
  obtain ⟨n, rfl⟩ := Int.eq_ofNat_of_zero_le h0
  obtain ⟨m, rfl⟩ := Int.eq_ofNat_of_zero_le hx
  have e1 : shlV .u64 (n : Int) 8 = (((n % 72057594037927936) * 256 : Nat) : Int) := by
    show IntKind.u64.wrap ((n : Int) * 2 ^ (min 8 64)) = _
    rw [u64_wrap]
    simp only [Nat.reduceLeDiff, Nat.min_eq_left, Int.reducePow]
    omega
  have e2 : IntKind.u64.wrap (m : Int) = (m : Int) := by rw [u64_wrap]; omega
  rw [e1, e2, orN (by omega) (by omega)]
  have e3 : (n % 72057594037927936) * 256 ||| m = (n % 72057594037927936) * 256 + m := by
    have := Nat.shiftLeft_add_eq_or_of_lt (i := 8) (b := m) (by omega) (n % 72057594037927936)
    rw [Nat.shiftLeft_eq] at this
    simpa using this.symm
  rw [e3, u64_wrap, u64_wrap]
  omega
theorem shr_nat {v : Int} {k : Nat} (h0 : 0 ≤ v) (hk : k ≤ 64) : shrV .u64 v k = 0 ↔ v < 2 ^ k := by
  show v.fdiv (2 ^ (min k 64)) = 0 ↔ _
  rw [Nat.min_eq_left hk]
  obtain ⟨n, rfl⟩ := Int.eq_ofNat_of_zero_le h0
  have hp : (2 : Int) ^ k = ((2 ^ k : Nat) : Int) := by simp
  have hq := Nat.two_pow_pos k
  have := Nat.div_eq_zero_iff_lt (x := n) hq
  rw [hp]
  generalize 2 ^ k = q at *
  rw [Int.fdiv_eq_ediv_of_nonneg _ (by omega), ← Int.natCast_ediv]
  omega
theorem loopO_two {σ τ ρ π : Type} {s1 : σ → Option (σ ⊕ ρ)} {s2 : τ → Option (τ ⊕ π)} (I : Nat → σ → τ → Prop) {Q : ρ → π → Prop}
    (h : ∀ k s t, I k s t → (∃ s' t' k', s1 s = some (.inl s') ∧ s2 t = some (.inl t') ∧ k' < k ∧ I k' s' t') ∨ (∃ r r', loopO s1 s = some r ∧ loopO s2 t = some r' ∧ Q r r')) :
    ∀ {k : Nat} {s : σ} {t : τ}, I k s t → ∃ r r', loopO s1 s = some r ∧ loopO s2 t = some r' ∧ Q r r' := by
  intro k
  induction k using Nat.strongRecOn with
  | ind k ih =>
    intro s t hI
    rcases h k s t hI with ⟨s', t', k', h1, h2, hlt, hI'⟩ | h
    · rw [loopO_next h1, loopO_next h2]; exact ih k' hlt hI'
    · exact h
theorem size_eq {v : Int} (h0 : 0 ≤ v) : ∃ k, f124 v = some k ∧ f119 v = some k := by
  have key : ∃ r r', loopO (f124_s1 v) 1 = some r ∧ loopO (f119_s1 v) 1 = some r' ∧ r = r' := by
    refine loopO_two (fun k s t => s = t ∧ 1 ≤ s ∧ s ≤ 9 ∧ (k : Int) = 9 - s) ?_ (k := 8) ⟨rfl, by omega, by omega, by omega⟩
    rintro k s _ ⟨rfl, h1, h9, hk⟩
    by_cases h8 : s ≤ 8
    · have hw : IntKind.i64.wrap (7 * s) = 7 * s := i64_id (by omega) (by omega)
      have hw1 : IntKind.i64.wrap (s + 1) = s + 1 := i64_id (by omega) (by omega)
      have e1 : f124_s1 v s = if v < 2 ^ (7 * s).toNat then some (.inr (.inl s)) else some (.inl (s + 1)) := by
        rw [f124_s1, if_pos h8, hw, guardO_ok (by omega), hw1]
        simp only [Option.bind_some, shr_nat h0 (by omega : (7 * s).toNat ≤ 64)]
      have e2 : f119_s1 v s = if v < 2 ^ (7 * s).toNat then some (.inr (.inl s)) else some (.inl (s + 1)) := by
        rw [f119_s1, if_pos h8, hw, pow (by omega) (by omega), hw1]
        have : IntKind.u64.wrap (2 ^ (7 * s).toNat) = 2 ^ (7 * s).toNat := by
          rw [u64_wrap]
          have hle : (2 : Nat) ^ (7 * s).toNat ≤ 2 ^ 56 := Nat.pow_le_pow_right (by omega) (by omega)
          have hp : (2 : Int) ^ (7 * s).toNat = ((2 ^ (7 * s).toNat : Nat) : Int) := by simp
          rw [hp]
          generalize 2 ^ (7 * s).toNat = q at *
          omega
        simp only [Option.bind_some, this]
      by_cases hv : v < 2 ^ (7 * s).toNat
      · rw [if_pos hv] at e1 e2
        exact .inr ⟨_, _, loopO_done e1, loopO_done e2, rfl⟩
      · rw [if_neg hv] at e1 e2
        exact .inl ⟨_, _, k - 1, e1, e2, by omega, rfl, by omega, by omega, by omega⟩
    · exact .inr ⟨_, _, loopO_done (by rw [f124_s1, if_neg h8]), loopO_done (by rw [f119_s1, if_neg h8]), rfl⟩
  obtain ⟨r, _, h1, h2, rfl⟩ := key
  cases r with
  | inl k => exact ⟨k, by rw [f124, h1]; rfl, by rw [f119, h2]; rfl⟩
  | inr u => exact ⟨9, by rw [f124, h1]; rfl, by rw [f119, h2]; rfl⟩
end Au
end Go.Proofs.Y1
