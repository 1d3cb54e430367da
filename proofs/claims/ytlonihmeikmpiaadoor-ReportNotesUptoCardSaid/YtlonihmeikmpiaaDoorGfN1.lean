import Derived.Test.YtlonihmeikmpiaaDoorGfDNf4
import Derived.Test.YtlonihmeikmpiaaDoorGfLB
import Derived.KernelRfl
set_option linter.all false
set_option linter.unusedVariables false
set_option linter.unusedSimpArgs false
set_option linter.all false
set_option maxRecDepth 8000
namespace Go.Proofs.Yd
open Go.Gm Go.Lib
namespace Au
theorem i64_id {n : Int} (h0 : -9223372036854775808 ≤ n) (h1 : n < 9223372036854775808) : IntKind.i64.wrap n = n := by
  simp only [IntKind.wrap, IntKind.bits, IntKind.signed, Bool.true_and]
  split
  · rename_i h; simp only [ge_iff_le, decide_eq_true_eq] at h; omega
  · rename_i h; simp only [ge_iff_le, decide_eq_true_eq] at h; omega
theorem appO_ok' {α : Type} {l r : List α} (h : l.length ≤ 10000000000) (h1 : r.length ≤ 10000000000) : appO? l r = some (l ++ r) := appO?_some.2 ⟨by omega, rfl⟩
theorem wrapN {i : Nat} (h : i ≤ 10000000000) : IntKind.i64.wrap ((i : Int) + 1) = ((i + 1 : Nat) : Int) := by rw [i64_id (by omega) (by omega)]; omega
theorem ixN {α : Type} {l : List α} {i : Nat} (h : i < l.length) : ix l (i : Int) = some l[i] := ix_some.2 ⟨by omega, by simp [List.getElem?_eq_getElem h]⟩
theorem guard_ok {p : Prop} [Decidable p] (h : p) : guardO p = some () := guardO_some.2 h
theorem bl_app (a b : ByteArray) : bl (a ++ b) = bl a ++ bl b := by simp [bl]
theorem bl_inj {a b : ByteArray} (h : bl a = bl b) : a = b := by rw [← lb_bl a, ← lb_bl b, h]
theorem lb_app (a b : List UInt8) : lb a ++ lb b = lb (a ++ b) := bl_inj (by simp [bl_app, bl_lb])
theorem size_bl (a : ByteArray) : a.size = (bl a).length := by cases a; rfl
theorem cat_ok {a b : ByteArray} (h : a.size ≤ 1000000) (h1 : b.size ≤ 1000000) : catO a b = some (a ++ b) := catO_some.2 ⟨by omega, rfl⟩
theorem lb_size (a : List UInt8) : (lb a).size = a.length := by simp [lb, ByteArray.size]
/-! ### decimals -/
def dig (d : Nat) : UInt8 := UInt8.ofNat (48 + d)
theorem dec_lt {u : Nat} (h : u < 10) : decDigits u = [dig u] := by rw [decDigits, dif_pos h]; rfl
theorem dec_ge {u : Nat} (h : ¬ u < 10) : decDigits u = decDigits (u / 10) ++ [dig (u % 10)] := by rw [decDigits, dif_neg h]; rfl
theorem dec_len : ∀ (k u : Nat), u < 10 ^ (k + 1) → (decDigits u).length ≤ k + 1
  | 0, u, h => by rw [dec_lt (by simpa using h)]; simp
  | k + 1, u, h => by
    by_cases hu : u < 10
    · rw [dec_lt hu]; simp
    · rw [dec_ge hu, List.length_append]
      have := dec_len k (u / 10) (by rw [Nat.pow_succ] at h; omega)
      simp; omega
theorem dec_pos (u : Nat) : decDigits u ≠ [] := by
  by_cases hu : u < 10
  · rw [dec_lt hu]; simp
  · rw [dec_ge hu]; simp
theorem dec_20 {u : Nat} (h : u ≤ 9223372036854775808) : (decDigits u).length ≤ 20 := dec_len 19 u (by omega)
theorem dig_cut : ∀ {d : Nat}, d < 10 → cutSO? ⟨#[48, 49, 50, 51, 52, 53, 54, 55, 56, 57]⟩ (d : Int) ((d + 1 : Nat) : Int) = some (lb [dig d])
  | 0, _ => by kernel_rfl
  | 1, _ => by kernel_rfl
  | 2, _ => by kernel_rfl
  | 3, _ => by kernel_rfl
  | 4, _ => by kernel_rfl
  | 5, _ => by kernel_rfl
  | 6, _ => by kernel_rfl
  | 7, _ => by kernel_rfl
  | 8, _ => by kernel_rfl
  | 9, _ => by kernel_rfl
  | n + 10, h => absurd h (by omega)
theorem empty_iff (s : ByteArray) : s = ⟨#[]⟩ ↔ bl s = [] := by
  constructor
  · rintro rfl; rfl
  · intro h; exact bl_inj (by rw [h]; rfl)
theorem tdq (m : Int) : (0 ≤ m → m.tdiv 10 = ((m.natAbs / 10 : Nat) : Int) ∧ m.tmod 10 = ((m.natAbs % 10 : Nat) : Int)) ∧ (m < 0 → m.tdiv 10 = -((m.natAbs / 10 : Nat) : Int) ∧ m.tmod 10 = -((m.natAbs % 10 : Nat) : Int)) := by
  cases m with
  | ofNat n => exact ⟨fun _ => ⟨rfl, rfl⟩, fun h => absurd h (by simp)⟩
  | negSucc n => exact ⟨fun h => absurd h (by simp), fun _ => ⟨rfl, rfl⟩⟩
theorem num_step {s : ByteArray} {m : Int} (h0 : -9223372036854775808 ≤ m) (h1 : m ≤ 9223372036854775807) (hs : s.size ≤ 1000) : f37_j5 s m () = some (.inl (lb [dig (m.natAbs % 10)] ++ s, m.tdiv 10)) := by
  have hd : m.natAbs % 10 < 10 := Nat.mod_lt _ (by omega)
  have hc := dig_cut hd
  obtain ⟨q1, q2⟩ := tdq m
  have ht : IntKind.i64.wrap (m.tdiv 10) = m.tdiv 10 := i64_id (by omega) (by omega)
  have hcat : catO (lb [dig (m.natAbs % 10)]) s = some (lb [dig (m.natAbs % 10)] ++ s) := cat_ok (by simp [lb_size]) (by omega)
  unfold f37_j5
  by_cases hn : m.tmod 10 < 0
  · have e1 : IntKind.i64.wrap (0 - m.tmod 10) = ((m.natAbs % 10 : Nat) : Int) := by rw [i64_id (by omega) (by omega)]; omega
    have e2 : IntKind.i64.wrap (((m.natAbs % 10 : Nat) : Int) + 1) = ((m.natAbs % 10 + 1 : Nat) : Int) := wrapN (by omega)
    simp only [if_pos hn, e1, e2, hc, Option.bind_some, hcat, ht]
  · have e1 : m.tmod 10 = ((m.natAbs % 10 : Nat) : Int) := by omega
    have e2 : IntKind.i64.wrap (((m.natAbs % 10 : Nat) : Int) + 1) = ((m.natAbs % 10 + 1 : Nat) : Int) := wrapN (by omega)
    rw [if_neg hn, e1]
    simp only [e2, hc, Option.bind_some, hcat, ht]
theorem number_eq {n : Int} (h0 : -9223372036854775808 ≤ n) (h1 : n ≤ 9223372036854775807) : f37 n = some (itoaS n) := by
  have hlen := dec_20 (u := n.natAbs) (by omega)
  have key : ∃ r, loopO f37_s2 (⟨#[]⟩, n) = some r ∧ bl r = decDigits n.natAbs := by
    refine loopO_of (fun k x => -9223372036854775808 ≤ x.2 ∧ x.2 ≤ 9223372036854775807 ∧ k = x.2.natAbs + (if bl x.1 = [] then 1 else 0) ∧ (if x.2 = 0 ∧ bl x.1 ≠ [] then [] else decDigits x.2.natAbs) ++ bl x.1 = decDigits n.natAbs) ?_ (k := n.natAbs + 1) ⟨h0, h1, by simp [bl], by simp [bl]⟩
    rintro k ⟨s, m⟩ ⟨m0, m1, hk, hi⟩
    simp only at m0 m1 hk hi
    obtain ⟨q1, q2⟩ := tdq m
    have hsz : s.size ≤ 1000 := by
      have := congrArg List.length hi
      rw [List.length_append] at this
      rw [size_bl]; omega
    by_cases hend : m = 0 ∧ bl s ≠ []
    · refine .inr ⟨s, ?_, ?_⟩
      · have hne : ¬ s = ⟨#[]⟩ := fun e => hend.2 ((empty_iff s).1 e)
        simp only [f37_s2, hend.1, if_true, hne, if_false]
      · rw [if_pos hend] at hi; simpa using hi
    · refine .inl ⟨(lb [dig (m.natAbs % 10)] ++ s, m.tdiv 10), _, ?_, ?_, ?_, ?_, rfl, ?_⟩
      · have hst := num_step m0 m1 hsz
        by_cases hm : m = 0
        · have hse : s = ⟨#[]⟩ := (empty_iff s).2 (by
            by_cases h : bl s = []
            · exact h
            · exact absurd ⟨hm, h⟩ hend)
          simp only [f37_s2, if_pos hm, if_pos hse, hst]
        · simp only [f37_s2, if_neg hm, hst]
      · have hne : bl (lb [dig (m.natAbs % 10)] ++ s) ≠ [] := by rw [bl_app, bl_lb]; simp
        simp only [if_neg hne, hk]
        by_cases hm : m = 0
        · have : bl s = [] := by
            by_cases h : bl s = []
            · exact h
            · exact absurd ⟨hm, h⟩ hend
          rw [if_pos this, hm]; simp
        · have : (m.tdiv 10).natAbs < m.natAbs := by omega
          omega
      · show -9223372036854775808 ≤ m.tdiv 10; omega
      · show m.tdiv 10 ≤ 9223372036854775807; omega
      · rw [if_neg hend] at hi
        have hne : bl (lb [dig (m.natAbs % 10)] ++ s) ≠ [] := by rw [bl_app, bl_lb]; simp
        simp only
        rw [← hi, bl_app, bl_lb]
        have hq : (m.tdiv 10).natAbs = m.natAbs / 10 := by omega
        by_cases hu : m.natAbs < 10
        · have hz : m.tdiv 10 = 0 := by omega
          rw [if_pos ⟨hz, by rw [← bl_lb [dig (m.natAbs % 10)], ← bl_app]; exact hne⟩, dec_lt hu, Nat.mod_eq_of_lt hu]; rfl
        · have hz : ¬ (m.tdiv 10 = 0) := by omega
          rw [if_neg (fun h => hz h.1), dec_ge hu, hq]
          simp
  obtain ⟨r, hr, hb⟩ := key
  unfold f37
  rw [hr, Option.bind_some]
  by_cases hn : n < 0
  · rw [if_pos hn, cat_ok (by decide) (by rw [size_bl, hb]; omega), Option.bind_some]
    refine congrArg some (bl_inj ?_)
    rw [bl_app, hb]
    show [45] ++ _ = bl (lb (itoa n))
    rw [bl_lb, itoa, if_pos hn]; rfl
  · rw [if_neg hn]
    refine congrArg some (bl_inj ?_)
    rw [hb]
    show _ = bl (lb (itoa n))
    rw [bl_lb, itoa, if_neg hn]
    congr 1; omega
theorem num_eq {n : Int} (h0 : -9223372036854775808 ≤ n) (h1 : n ≤ 9223372036854775807) : f20 n = some (itoaS n) ∧ f23 n = some (itoaS n) := by
  constructor
  · unfold f20 f36; rw [if_pos ⟨h0, h1⟩]; rfl
  · unfold f23; rw [number_eq h0 h1]; rfl
theorem itoa_size {n : Int} (h0 : -9223372036854775808 ≤ n) (h1 : n ≤ 9223372036854775807) : (itoaS n).size ≤ 21 ∧ bl (itoaS n) ≠ [] := by
  have e : bl (itoaS n) = itoa n := bl_lb _
  rw [size_bl, e]
  unfold itoa
  split
  · have := dec_20 (u := n.natAbs) (by omega); simp; omega
  · have := dec_20 (u := n.toNat) (by omega)
    exact ⟨by omega, dec_pos _⟩
end Au
end Go.Proofs.Yd
