/- Plain facts on numbers, lists, strings and loops. -/
import Derived.Test.YtlonihmeikmpiaaDoorGfLS
import Derived.Test.YtlonihmeikmpiaaDoorGfLh
import Derived.Test.YtlonihmeikmpiaaDoorGfLg
import Derived.KernelRfl
import Derived.Lib.CountLaws
import Derived.Lib.IndexLaws
import Derived.Lib.SplitLaws
set_option linter.all false
set_option linter.unusedVariables false
set_option linter.unusedSimpArgs false
set_option linter.all false
set_option maxRecDepth 8000
namespace Go.Gm
open Go.Lib
theorem i64_id {n : Int} (h0 : -9223372036854775808 ≤ n) (h1 : n < 9223372036854775808) : IntKind.i64.wrap n = n := by
  simp only [IntKind.wrap, IntKind.bits, IntKind.signed, Bool.true_and]
  split
  · rename_i h; simp only [ge_iff_le, decide_eq_true_eq] at h; omega
  · rename_i h; simp only [ge_iff_le, decide_eq_true_eq] at h; omega
theorem u64_wrap (n : Int) : IntKind.u64.wrap n = n % 18446744073709551616 := by
  simp [IntKind.wrap, IntKind.bits, IntKind.signed]
theorem u8_wrap (n : Int) : IntKind.u8.wrap n = n % 256 := by
  simp [IntKind.wrap, IntKind.bits, IntKind.signed]
theorem i64_wrap (n : Int) : IntKind.i64.wrap n = (n + 9223372036854775808) % 18446744073709551616 - 9223372036854775808 := by
  simp only [IntKind.wrap, IntKind.bits, IntKind.signed, Bool.true_and]
  split
  · rename_i h; simp only [ge_iff_le, decide_eq_true_eq] at h; omega
  · rename_i h; simp only [ge_iff_le, decide_eq_true_eq] at h; omega
theorem i64_range (n : Int) : -9223372036854775808 ≤ IntKind.i64.wrap n ∧ IntKind.i64.wrap n ≤ 9223372036854775807 := by rw [i64_wrap]; omega
theorem appO_ok' {α : Type} {l r : List α} (h : l.length ≤ 10000000000) (h1 : r.length ≤ 10000000000) : appO? l r = some (l ++ r) := appO?_some.2 ⟨by omega, rfl⟩
theorem wrapN {i : Nat} (h : i ≤ 10000000000) : IntKind.i64.wrap ((i : Int) + 1) = ((i + 1 : Nat) : Int) := by rw [i64_id (by omega) (by omega)]; omega
theorem ixN {α : Type} {l : List α} {i : Nat} (h : i < l.length) : ix l (i : Int) = some l[i] := ix_some.2 ⟨by omega, by simp [List.getElem?_eq_getElem h]⟩
theorem guard_ok {p : Prop} [Decidable p] (h : p) : guardO p = some () := guardO_some.2 h
theorem bl_app (a b : ByteArray) : bl (a ++ b) = bl a ++ bl b := by simp [bl]
theorem lb_app (a b : List UInt8) : lb a ++ lb b = lb (a ++ b) := bl_inj.1 (by simp [bl_app, bl_lb])
theorem size_bl (a : ByteArray) : a.size = (bl a).length := by cases a; rfl
theorem cat_ok {a b : ByteArray} (h : a.size ≤ 1000000000) (h1 : b.size ≤ 1000000000) : catO a b = some (a ++ b) := catO_some.2 ⟨by omega, rfl⟩
theorem lb_size (a : List UInt8) : (lb a).size = a.length := by simp [lb, ByteArray.size]
theorem empty_iff (s : ByteArray) : s = ⟨#[]⟩ ↔ bl s = [] := by
  constructor
  · rintro rfl; rfl
  · intro h; exact bl_inj.1 (by rw [h]; rfl)
theorem bl_extract (s : ByteArray) (a b : Nat) : bl (s.extract a b) = ((bl s).take b).drop a := by
  simp [bl, List.extract_eq_drop_take, List.drop_take]
theorem cutS_ok {s : ByteArray} {lo hi : Nat} (h : lo ≤ hi) (k : hi ≤ s.size) : cutSO? s (lo : Int) (hi : Int) = some (s.extract lo hi) := cutSO?_some.2 ⟨⟨by omega, by omega, by omega⟩, by simp⟩
/-- A loop that goes on in step. -/
theorem loopN {τ ρ : Type} {step : τ → Option (τ ⊕ ρ)} (st : Nat → τ) : ∀ (n : Nat), (∀ i, i < n → step (st i) = some (.inl (st (i + 1)))) → loopO step (st 0) = loopO step (st n)
  | 0, _ => rfl
  | n + 1, h => (loopN st n (fun i hi => h i (by omega))).trans (loopO_next (h n (by omega)))
theorem loopN_done {τ ρ : Type} {step : τ → Option (τ ⊕ ρ)} (st : Nat → τ) (n : Nat) {r : ρ} (h : ∀ i, i < n → step (st i) = some (.inl (st (i + 1)))) (hd : step (st n) = some (.inr r)) : loopO step (st 0) = some r := (loopN st n h).trans (loopO_done hd)
/-! ### decimals -/
def dig (d : Nat) : UInt8 := UInt8.ofNat (48 + d)
theorem dec_lt {u : Nat} (h : u < 10) : decDigits u = [dig u] := by rw [decDigits, dif_pos h]; rfl
theorem dec_ge {u : Nat} (h : ¬ u < 10) : decDigits u = decDigits (u / 10) ++ [dig (u % 10)] := by rw [decDigits, dif_neg h]; rfl
theorem dec_len : ∀ (k u : Nat), u < 10 ^ (k + 1) → (decDigits u).length ≤ k + 1
  | 0, u, h => by rw [dec_lt (by simpa using h)]; simp
  | k + 1, u, h => by
    by_cases hu : u < 10
    · rw [dec_lt hu]; simp
    · rw [dec_ge hu, List.length_append]
      have := dec_len k (u / 10) (by rw [Nat.pow_succ] at h; omega)
      simp; omega
theorem dec_pos (u : Nat) : decDigits u ≠ [] := by
  by_cases hu : u < 10
  · rw [dec_lt hu]; simp
  · rw [dec_ge hu]; simp
theorem dec_20 {u : Nat} (h : u ≤ 9223372036854775808) : (decDigits u).length ≤ 20 := dec_len 19 u (by omega)
theorem dig_cut : ∀ {d : Nat}, d < 10 → cutSO? ⟨#[48, 49, 50, 51, 52, 53, 54, 55, 56, 57]⟩ (d : Int) ((d + 1 : Nat) : Int) = some (lb [dig d])
  | 0, _ => by kernel_rfl
  | 1, _ => by kernel_rfl
  | 2, _ => by kernel_rfl
  | 3, _ => by kernel_rfl
  | 4, _ => by kernel_rfl
  | 5, _ => by kernel_rfl
  | 6, _ => by kernel_rfl
  | 7, _ => by kernel_rfl
  | 8, _ => by kernel_rfl
  | 9, _ => by kernel_rfl
  | n + 10, h => absurd h (by omega)
theorem tdq (m : Int) : (0 ≤ m → m.tdiv 10 = ((m.natAbs / 10 : Nat) : Int) ∧ m.tmod 10 = ((m.natAbs % 10 : Nat) : Int)) ∧ (m < 0 → m.tdiv 10 = -((m.natAbs / 10 : Nat) : Int) ∧ m.tmod 10 = -((m.natAbs % 10 : Nat) : Int)) := by
  cases m with
  | ofNat n => exact ⟨fun _ => ⟨rfl, rfl⟩, fun h => absurd h (by simp)⟩
  | negSucc n => exact ⟨fun h => absurd h (by simp), fun _ => ⟨rfl, rfl⟩⟩
theorem itoa_size {n : Int} (h0 : -9223372036854775808 ≤ n) (h1 : n ≤ 9223372036854775807) : (itoaS n).size ≤ 21 ∧ bl (itoaS n) ≠ [] := by
  have e : bl (itoaS n) = itoa n := bl_lb _
  rw [size_bl, e]
  unfold itoa
  split
  · have := dec_20 (u := n.natAbs) (by omega); simp; omega
  · have := dec_20 (u := n.toNat) (by omega)
    exact ⟨by omega, dec_pos _⟩
/-! ### comparing -/
theorem cmp0 : ∀ (a b : List UInt8), Lib.compareBytes a b = 0 ↔ a = b
  | [], [] => by simp [Lib.compareBytes]
  | [], _ :: _ => by simp [Lib.compareBytes]
  | _ :: _, [] => by simp [Lib.compareBytes]
  | a :: al, b :: bs => by
    simp only [Lib.compareBytes, List.cons.injEq]
    split
    · rename_i h; simp only [reduceCtorEq, false_iff]; rintro ⟨rfl, _⟩; rw [UInt8.lt_iff_toNat_lt] at h; omega
    · split
      · rename_i h; constructor
        · intro q; cases q
        · rintro ⟨rfl, _⟩; rw [UInt8.lt_iff_toNat_lt] at h; omega
      · rename_i h1 h2
        rw [cmp0 al bs]
        have : a = b := by
          rw [← UInt8.toNat_inj]; rw [UInt8.lt_iff_toNat_lt] at h1 h2; omega
        simp [this]
theorem cmp_lt : ∀ (a b : List UInt8), (a < b → Lib.compareBytes a b = -1) ∧ (Lib.compareBytes a b = -1 ∨ Lib.compareBytes a b = 0 ∨ Lib.compareBytes a b = 1) ∧ (Lib.compareBytes a b = -1 → a < b)
  | [], [] => by simp [Lib.compareBytes]
  | [], _ :: _ => by simp [Lib.compareBytes]
  | _ :: _, [] => by simp [Lib.compareBytes]
  | a :: al, b :: bs => by
    obtain ⟨h1, h2, h3⟩ := cmp_lt al bs
    simp only [Lib.compareBytes, List.cons_lt_cons_iff]
    by_cases h : a < b
    · simp [h]
    · by_cases h' : b < a
      · have : a ≠ b := by rintro rfl; exact h h'
        simp [h, h', this]
      · have : a = b := by
          rw [← UInt8.toNat_inj]; rw [UInt8.lt_iff_toNat_lt] at h h'; omega
        subst this
        simp only [h, if_false, false_or, true_and]
        exact ⟨h1, h2, h3⟩
theorem cmpS_eq (a b : ByteArray) : cmpS a b = if sLt a b = true then -1 else if a = b then 0 else 1 := by
  obtain ⟨h1, h2, h3⟩ := cmp_lt (bl a) (bl b)
  have e : cmpS a b = Lib.compareBytes (bl a) (bl b) := rfl
  rw [e]
  by_cases h : sLt a b = true
  · rw [if_pos h]; exact h1 (sLt_iff.1 h)
  · rw [if_neg h]
    by_cases hab : a = b
    · rw [if_pos hab]; exact (cmp0 _ _).2 (by rw [hab])
    · rw [if_neg hab]
      have n1 : Lib.compareBytes (bl a) (bl b) ≠ -1 := fun q => h (sLt_iff.2 (h3 q))
      have n2 : Lib.compareBytes (bl a) (bl b) ≠ 0 := fun q => hab (bl_inj.1 ((cmp0 _ _).1 q))
      omega
end Go.Gm
