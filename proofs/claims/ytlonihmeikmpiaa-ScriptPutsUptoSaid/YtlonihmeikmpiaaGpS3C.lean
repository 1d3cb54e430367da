import Derived.Test.YtlonihmeikmpiaaGpS3B
import Derived.Test.YtlonihmeikmpiaaGpW2
set_option linter.all false
set_option linter.unusedVariables false
set_option linter.unusedSimpArgs false
set_option linter.all false
set_option maxRecDepth 8000
namespace Go.Proofs.Y1
open Go.Gm
namespace Au
theorem and1 {v : Int} (h0 : 0 ≤ v) (h1 : v < 18446744073709551616) : andV .u64 v 1 = v % 2 := by
  obtain ⟨n, rfl⟩ := Int.eq_ofNat_of_zero_le h0
  show IntKind.u64.wrap (((BitVec.ofInt 64 (n : Int) &&& BitVec.ofInt 64 1).toNat : Nat) : Int) = _
  rw [u64_wrap, BitVec.toNat_and, BitVec.ofInt_natCast, BitVec.toNat_ofNat, Nat.mod_eq_of_lt (by omega)]
  have : (BitVec.ofInt 64 1).toNat = 1 := by decide
  rw [this, Nat.and_one_is_mod]
  omega
theorem shr1 {v : Int} (h0 : 0 ≤ v) : shrV .u64 v 1 = v / 2 := by
  show v.fdiv (2 ^ (min 1 64)) = _
  rw [Int.fdiv_eq_ediv_of_nonneg _ (by decide)]; rfl
theorem xor0 {h : Int} (h0 : 0 ≤ h) (h1 : h < 9223372036854775808) : xorV .i64 h 0 = h := by
  obtain ⟨n, rfl⟩ := Int.eq_ofNat_of_zero_le h0
  show IntKind.i64.wrap (((BitVec.ofInt 64 (n : Int) ^^^ BitVec.ofInt 64 0).toNat : Nat) : Int) = _
  have : BitVec.ofInt 64 0 = 0#64 := by decide
  rw [this, BitVec.xor_zero, BitVec.ofInt_natCast, BitVec.toNat_ofNat, Nat.mod_eq_of_lt (by omega), i64_id (by omega) (by omega)]
theorem xor1 {h : Int} (h0 : 0 ≤ h) (h1 : h < 9223372036854775808) : xorV .i64 h (-1) = -1 - h := by
  obtain ⟨n, rfl⟩ := Int.eq_ofNat_of_zero_le h0
  show IntKind.i64.wrap (((BitVec.ofInt 64 (n : Int) ^^^ BitVec.ofInt 64 (-1)).toNat : Nat) : Int) = _
  have : BitVec.ofInt 64 (-1) = BitVec.allOnes 64 := by decide
  rw [this, BitVec.xor_allOnes, BitVec.toNat_not, BitVec.ofInt_natCast, BitVec.toNat_ofNat, Nat.mod_eq_of_lt (by omega)]
  simp only [IntKind.wrap, IntKind.bits, IntKind.signed, Bool.true_and]
  split
  · rename_i h; simp only [ge_iff_le, decide_eq_true_eq] at h; omega
  · rename_i h; simp only [ge_iff_le, decide_eq_true_eq] at h; omega
theorem zig {v : Int} (h0 : 0 ≤ v) (h1 : v < 18446744073709551616) : xorV .i64 (IntKind.i64.wrap (shrV .u64 v 1)) (IntKind.i64.wrap (0 - (IntKind.i64.wrap (andV .u64 v 1)))) =
    if (v.tmod 2) = 1 then IntKind.i64.wrap ((IntKind.i64.wrap (0 - (IntKind.i64.wrap (IntKind.u64.wrap (v.tdiv 2))))) - 1) else IntKind.i64.wrap (IntKind.u64.wrap (v.tdiv 2)) := by
  rw [and1 h0 h1, shr1 h0, Int.tmod_eq_emod_of_nonneg h0, Int.tdiv_eq_ediv_of_nonneg h0]
  have e1 : IntKind.i64.wrap (v / 2) = v / 2 := i64_id (by omega) (by omega)
  have e2 : IntKind.u64.wrap (v / 2) = v / 2 := by rw [u64_wrap]; omega
  rw [e2, e1]
  by_cases hv : v % 2 = 1
  · rw [if_pos hv, hv, show IntKind.i64.wrap (0 - IntKind.i64.wrap 1) = -1 from by decide, xor1 (by omega) (by omega), i64_id (show -9223372036854775808 ≤ 0 - v / 2 by omega) (by omega), i64_id (by omega) (by omega)]
    omega
  · rw [if_neg hv, show v % 2 = 0 by omega, show IntKind.i64.wrap (0 - IntKind.i64.wrap 0) = 0 from by decide, xor0 (by omega) (by omega)]
def IV (b : List Int) (a : Int) (r : Int × Int × Int) : Prop := (r.2.2 = 0 ∧ 0 ≤ a ∧ a < r.2.1 ∧ r.2.1 ≤ b.length) ∨ (r.2.2 ≠ 0 ∧ r.1 = 0 ∧ r.2.1 = 0)
theorem iv_eq {b : List Int} (hb : Byt b) (hl : b.length ≤ 1000000) (a : Int) : ∃ r, f113 b a = some r ∧ f116 b a = some r ∧ IV b a r := by
  obtain ⟨⟨v, p, e⟩, h1, h2, h3⟩ := uv_eq hb hl a
  simp only [f113, f116, h1, h2, Option.bind_some]
  rcases h3 with ⟨q1, q2, q3, q4, q5, q6⟩ | ⟨q1, q2, q3⟩
  · simp only at q1 q2 q3 q4 q5 q6
    subst q1
    rw [zig q2 q3]
    by_cases hv : v.tmod 2 = 1
    · simp only [if_pos hv, if_true]; exact ⟨_, rfl, rfl, .inl ⟨rfl, q4, q5, q6⟩⟩
    · simp only [if_neg hv, if_true]; exact ⟨_, rfl, rfl, .inl ⟨rfl, q4, q5, q6⟩⟩
  · simp only at q1 q2 q3
    subst q2 q3
    rw [if_neg q1, zig (by omega) (by omega)]
    exact ⟨(0, 0, e), rfl, rfl, .inr ⟨q1, rfl, rfl⟩⟩
def SV' (b : List Int) (a : Int) (r : ByteArray × Int × Int) : Prop := (r.2.2 = 0 ∧ 0 ≤ a ∧ a < r.2.1 ∧ r.2.1 ≤ b.length) ∨ (r.2.2 ≠ 0 ∧ r.2.1 = 0)
theorem sv_eq {b : List Int} (hb : Byt b) (hl : b.length ≤ 1000000) (a : Int) : ∃ r, f114 b a 1048576 = some r ∧ f75 b a 1048576 = some r ∧ SV' b a r := by
  obtain ⟨⟨v, p, e⟩, h1, h2, h3⟩ := uv_eq hb hl a
  simp only [f114, f75, h1, h2, Option.bind_some]
  rcases h3 with ⟨q1, q2, q3, q4, q5, q6⟩ | ⟨q1, q2, q3⟩
  · simp only at q1 q2 q3 q4 q5 q6
    subst q1
    simp only [if_true, if_neg (show ¬ (1048576 : Int) < 0 by decide)]
    have w0 : IntKind.u64.wrap 1048576 = 1048576 := by decide
    have w1 : IntKind.u64.wrap (IntKind.i64.wrap ((b.length : Int) - p)) = (b.length : Int) - p := by rw [i64_id (by omega) (by omega), u64_wrap]; omega
    rw [w0, w1]
    by_cases c1 : 1048576 < v
    · simp only [if_pos c1]; exact ⟨_, rfl, rfl, .inr ⟨by simp, rfl⟩⟩
    simp only [if_neg c1]
    by_cases c2 : (b.length : Int) - p < v
    · simp only [if_pos c2]; exact ⟨_, rfl, rfl, .inr ⟨by simp, rfl⟩⟩
    simp only [if_neg c2]
    have w2 : IntKind.i64.wrap v = v := i64_id (by omega) (by omega)
    have w3 : IntKind.i64.wrap (p + v) = p + v := i64_id (by omega) (by omega)
    rw [w2, w3, cutO?_some.2 ⟨⟨by omega, by omega, by omega⟩, rfl⟩]
    exact ⟨_, rfl, rfl, .inl ⟨rfl, q4, by simp only; omega, by simp only; omega⟩⟩
  · simp only at q1 q2 q3
    rw [if_neg q1]
    exact ⟨_, rfl, rfl, .inr ⟨q1, rfl⟩⟩
end Au
end Go.Proofs.Y1
