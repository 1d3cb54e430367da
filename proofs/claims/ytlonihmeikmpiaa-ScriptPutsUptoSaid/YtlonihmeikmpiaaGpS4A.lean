import Derived.Test.YtlonihmeikmpiaaGpS3C
import Derived.Test.YtlonihmeikmpiaaGpW3
set_option linter.all false
set_option linter.unusedVariables false
set_option linter.unusedSimpArgs false
set_option linter.all false
set_option maxRecDepth 8000
namespace Go.Proofs.Y1
open Go.Gm
namespace Au
theorem appO_one' {α : Type} {l : List α} {x : α} (h : l.length ≤ 2000000) : appO? l [x] = some (l ++ [x]) := appO?_some.2 ⟨by simp; omega, rfl⟩
theorem appO_two' {α : Type} {l r : List α} (h : l.length ≤ 2000000) (h1 : r.length ≤ 2000000) : appO? l r = some (l ++ r) := appO?_some.2 ⟨by omega, rfl⟩
theorem u8_wrap (n : Int) : IntKind.u8.wrap n = n % 256 := by simp [IntKind.wrap, IntKind.bits, IntKind.signed]
theorem pow8 {n : Nat} (h : n ≤ 8) : (2 : Int) ^ (8 * n) = 256 ^ n := by
  have : n = 0 ∨ n = 1 ∨ n = 2 ∨ n = 3 ∨ n = 4 ∨ n = 5 ∨ n = 6 ∨ n = 7 ∨ n = 8 := by omega
  rcases this with rfl | rfl | rfl | rfl | rfl | rfl | rfl | rfl | rfl <;> decide
theorem p256_pos (n : Nat) : (0 : Int) < 256 ^ n := Int.pow_pos (by decide)
theorem shr8 {v : Int} {n : Nat} (h0 : 0 ≤ v) (h : n ≤ 8) : shrV .u64 v (8 * n) = v / 256 ^ n := by
  show v.fdiv (2 ^ (min (8 * n) 64)) = _
  rw [Nat.min_eq_left (by omega), pow8 h, Int.fdiv_eq_ediv_of_nonneg _ (Int.le_of_lt (p256_pos n))]
/-- the i-th of m bytes -/
def D (v : Int) (m i : Nat) : Int := v / 256 ^ (m - 1 - i) % 256
theorem D_rng (v : Int) (m i : Nat) : 0 ≤ D v m i ∧ D v m i < 256 := by
  unfold D; generalize v / 256 ^ (m - 1 - i) = q; omega
def mk (k : Nat) : Int := 256 - 2 ^ (9 - k)
/-- a number's bytes, of which there are k -/
def E (v : Int) (k : Nat) : List Int := if k = 9 then 255 :: (List.range 8).map (D v 8) else (List.range k).map fun i => if i = 0 then mk k + D v k 0 else D v k i
theorem E_len {v : Int} {k : Nat} : (E v k).length = k := by
  unfold E; split
  · rename_i h; subst h; simp
  · simp
theorem D_top {v : Int} {k : Nat} (h0 : 0 ≤ v) (h1 : 1 ≤ k) (h8 : k ≤ 8) (hv : v < 2 ^ (7 * k)) : D v k 0 < 2 ^ (8 - k) := by
  have : k = 1 ∨ k = 2 ∨ k = 3 ∨ k = 4 ∨ k = 5 ∨ k = 6 ∨ k = 7 ∨ k = 8 := by omega
  unfold D
  rcases this with rfl | rfl | rfl | rfl | rfl | rfl | rfl | rfl <;> simp only [Nat.reduceMul, Nat.reduceSub, Int.reducePow] at hv ⊢ <;> omega
noncomputable def orB (k x : Nat) : Bool := !(decide (1 ≤ k)) || !(decide (x < 2 ^ (8 - k))) || decide (orV .u8 (x : Int) (shlV .u8 255 (9 - k)) = mk k + x) && decide (orV .u8 (x : Int) 0 = x)
theorem orAll : ((List.range 9).all fun k => (List.range 256).all fun x => orB k x) = true := by kernel_rfl
theorem orMark {x : Int} {k : Nat} (h1 : 1 ≤ k) (h8 : k ≤ 8) (h0 : 0 ≤ x) (hx : x < 2 ^ (8 - k)) : orV .u8 x (shlV .u8 255 (9 - k)) = mk k + x ∧ orV .u8 x 0 = x := by
  obtain ⟨n, rfl⟩ := Int.eq_ofNat_of_zero_le h0
  have hn : n < 2 ^ (8 - k) := by exact_mod_cast hx
  have hle : (2 : Nat) ^ (8 - k) ≤ 2 ^ 8 := Nat.pow_le_pow_right (by omega) (by omega)
  have h := List.all_eq_true.1 (List.all_eq_true.1 orAll k (by simp; omega)) n (by simp; omega)
  unfold orB at h
  simpa [h1, hn] using h
noncomputable def orZ (x : Nat) : Bool := decide (orV .u8 (x : Int) 0 = x)
theorem orZAll : (List.range 256).all orZ = true := by kernel_rfl
theorem orZero {x : Int} (h0 : 0 ≤ x) (hx : x < 256) : orV .u8 x 0 = x := by
  obtain ⟨n, rfl⟩ := Int.eq_ofNat_of_zero_le h0
  have h := List.all_eq_true.1 orZAll n (by simp; omega)
  unfold orZ at h
  simpa using h
theorem size_ok {v : Int} (h0 : 0 ≤ v) : ∃ k : Nat, 1 ≤ k ∧ k ≤ 9 ∧ f124 v = some (k : Int) ∧ f119 v = some (k : Int) ∧ (k ≤ 8 → v < 2 ^ (7 * k)) := by
  obtain ⟨z, z1, z2⟩ := size_eq h0
  have key : ∃ r, loopO (f124_s1 v) 1 = some r ∧ ((∃ k : Nat, r = .inl (k : Int) ∧ 1 ≤ k ∧ k ≤ 8 ∧ v < 2 ^ (7 * k)) ∨ r = .inr ()) := by
    refine loopO_of (fun n s => ∃ k : Nat, s = (k : Int) ∧ 1 ≤ k ∧ k ≤ 9 ∧ n = 9 - k) ?_ (k := 8) ⟨1, rfl, by omega, by omega, by omega⟩
    rintro n _ ⟨k, rfl, h1, h9, hn⟩
    by_cases h8 : (k : Int) ≤ 8
    · have hw : IntKind.i64.wrap (7 * (k : Int)) = 7 * (k : Int) := i64_id (by omega) (by omega)
      have hw1 : IntKind.i64.wrap ((k : Int) + 1) = ((k + 1 : Nat) : Int) := by rw [i64_id (by omega) (by omega)]; omega
      have ht : (7 * (k : Int)).toNat = 7 * k := by omega
      have e1 : f124_s1 v k = if v < 2 ^ (7 * k) then some (.inr (.inl (k : Int))) else some (.inl ((k + 1 : Nat) : Int)) := by
        rw [f124_s1, if_pos h8, hw, guardO_ok (by omega), hw1, ht]
        simp only [Option.bind_some, shr_nat h0 (by omega : 7 * k ≤ 64)]
      by_cases hv : v < 2 ^ (7 * k)
      · rw [if_pos hv] at e1; exact .inr ⟨_, e1, .inl ⟨k, rfl, h1, by omega, hv⟩⟩
      · rw [if_neg hv] at e1; exact .inl ⟨_, n - 1, e1, by omega, k + 1, rfl, by omega, by omega, by omega⟩
    · exact .inr ⟨_, by rw [f124_s1, if_neg h8], .inr rfl⟩
  obtain ⟨r, h1, h2⟩ := key
  rcases h2 with ⟨k, rfl, h3, h4, h5⟩ | rfl
  · have e : f124 v = some (k : Int) := by rw [f124, h1]; rfl
    rw [e, Option.some.injEq] at z1
    exact ⟨k, h3, by omega, e, z1 ▸ z2, fun _ => h5⟩
  · have e : f124 v = some ((9 : Nat) : Int) := by rw [f124, h1]; rfl
    rw [e, Option.some.injEq] at z1
    exact ⟨9, by omega, by omega, e, z1 ▸ z2, fun h => by omega⟩
theorem put_loop {v mark : Int} {b : List Int} {m : Nat} (h0 : 0 ≤ v) (hm : m ≤ 8) (hb : b.length ≤ 1000001) :
    loopO (f87_s1 v m mark) (b, 0) = some (b ++ (List.range m).map fun i => if i = 0 then orV .u8 (D v m 0) mark else D v m i) := by
  have key : ∃ r, loopO (f87_s1 v m mark) (b, 0) = some r ∧ r = b ++ (List.range m).map fun i => if i = 0 then orV .u8 (D v m 0) mark else D v m i := by
    refine loopO_of (fun n s => ∃ i : Nat, s = (b ++ (List.range i).map (fun i => if i = 0 then orV .u8 (D v m 0) mark else D v m i), (i : Int)) ∧ i ≤ m ∧ n = m - i) ?_ (k := m) ⟨0, by simp, by omega, by omega⟩
    rintro n _ ⟨i, rfl, hi, hn⟩
    by_cases hlt : i < m
    · have w1 : IntKind.i64.wrap ((m : Int) - 1) = (m : Int) - 1 := i64_id (by omega) (by omega)
      have w2 : IntKind.i64.wrap ((m : Int) - 1 - i) = (m : Int) - 1 - i := i64_id (by omega) (by omega)
      have w3 : IntKind.i64.wrap (8 * ((m : Int) - 1 - i)) = 8 * ((m : Int) - 1 - i) := i64_id (by omega) (by omega)
      have w4 : (8 * ((m : Int) - 1 - i)).toNat = 8 * (m - 1 - i) := by omega
      have w5 : IntKind.i64.wrap ((i : Int) + 1) = ((i + 1 : Nat) : Int) := by rw [i64_id (by omega) (by omega)]; omega
      have w6 : IntKind.u8.wrap (shrV .u64 v (8 * (m - 1 - i))) = D v m i := by rw [shr8 h0 (by omega), u8_wrap]; rfl
      refine .inl ⟨(b ++ (List.range (i + 1)).map (fun i => if i = 0 then orV .u8 (D v m 0) mark else D v m i), ((i + 1 : Nat) : Int)), n - 1, ?_, by omega, i + 1, rfl, by omega, by omega⟩
      simp only [f87_s1, if_pos (show (i : Int) < m by omega), w1, w2, w3, guardO_ok (show 0 ≤ 8 * ((m : Int) - 1 - i) by omega), Option.bind_some, w4, w5, w6]
      by_cases hz : i = 0
      · subst hz
        simp only [show ((0 : Nat) : Int) = 0 from rfl, if_true, List.range_zero, List.map_nil, List.append_nil, appO_one' (show b.length ≤ 2000000 by omega), Option.bind_some, List.range_one, List.map_cons, Nat.zero_add]
      · rw [if_neg (show ¬ (i : Int) = 0 by omega), appO_one' (by simp; omega)]
        simp only [Option.bind_some, List.range_succ, List.map_append, List.map_cons, List.map_nil, if_neg hz, List.append_assoc]
    · have : i = m := by omega
      subst this
      exact .inr ⟨_, by simp only [f87_s1, if_neg (show ¬ (i : Int) < i by omega)], rfl⟩
  obtain ⟨r, h, rfl⟩ := key
  exact h
theorem clone_id {b : List Int} (hb : b.length ≤ 1000000) : f121 b = some b := by rw [f121, appO?_some.2 ⟨by simp; omega, rfl⟩]; rfl
theorem put_ok {v : Int} {b : List Int} {k : Nat} (h0 : 0 ≤ v) (hb : b.length ≤ 1000000) (h1 : 1 ≤ k) (h9 : k ≤ 9) (hk : f124 v = some (k : Int)) (hv : k ≤ 8 → v < 2 ^ (7 * k)) : f87 b v = some (b ++ E v k) := by
  have w1 : IntKind.i64.wrap (9 - (k : Int)) = 9 - (k : Int) := i64_id (by omega) (by omega)
  have w2 : (9 - (k : Int)).toNat = 9 - k := by omega
  rw [f87, hk]
  simp only [Option.bind_some, clone_id hb, w1, guardO_ok (show 0 ≤ 9 - (k : Int) by omega), w2]
  by_cases h : k = 9
  · subst h
    rw [if_pos (by rfl), appO_one' (by omega)]
    have hp := put_loop (v := v) (mark := 0) (b := b ++ [255]) (m := 8) h0 (by omega) (by simp; omega)
    simp only [Option.bind_some, f87_j1]
    rw [show ((8 : Int)) = ((8 : Nat) : Int) from rfl, hp]
    simp only [Option.bind_some, E, if_true, List.append_assoc, List.cons_append, List.nil_append]
    congr 3
    apply List.map_congr_left
    intro i _
    by_cases hi : i = 0
    · subst hi; rw [if_pos rfl, orZero (D_rng v 8 0).1 (D_rng v 8 0).2]
    · rw [if_neg hi]
  · rw [if_neg (show ¬ (k : Int) = 9 by omega)]
    simp only [f87_j1, put_loop h0 (show k ≤ 8 by omega) (show b.length ≤ 1000001 by omega), Option.bind_some, E, if_neg h]
    congr 2
    apply List.map_congr_left
    intro i _
    rw [(orMark h1 (by omega) (D_rng v k 0).1 (D_top h0 h1 (by omega) (hv (by omega)))).1]
theorem div_p {v : Int} (n : Nat) : v / 256 ^ n / 256 = v / 256 ^ (n + 1) := by
  rw [Int.pow_succ, Int.ediv_ediv_of_nonneg (Int.le_of_lt (p256_pos n))]
theorem ref_loop {v : Int} {m : Nat} (h0 : 0 ≤ v) (hv : v < 18446744073709551616) (h1 : 1 ≤ m) (hm : m ≤ 8) : loopO f91_s2 (v, List.replicate m (0 : Int), (m : Int) - 1) = some ((List.range m).map (D v m)) := by
  have key : ∃ r, loopO f91_s2 (v, List.replicate m (0 : Int), (m : Int) - 1) = some r ∧ r = (List.range m).map (D v m) := by
    refine loopO_of (fun n (s : Int × List Int × Int) => ∃ j : Nat, s.1 = v / 256 ^ j ∧ s.2.1.length = m ∧ (∀ q, q < m → m - j ≤ q → s.2.1[q]? = some (D v m q)) ∧ s.2.2 = (m : Int) - 1 - j ∧ j ≤ m ∧ n = m - j) ?_ (k := m) ⟨0, by simp, by simp, fun q hq h => by omega, by simp, by omega, by omega⟩
    rintro n ⟨u, l, i⟩ ⟨j, e1, e2, e3, e4, hj, hn⟩
    simp only at e1 e2 e3 e4
    subst e4
    have hu : 0 ≤ v / 256 ^ j := Int.ediv_nonneg h0 (Int.le_of_lt (p256_pos j))
    have hu1 : v / 256 ^ j ≤ v := Int.ediv_le_self _ h0
    by_cases hlt : j < m
    · have hi : ((m : Int) - 1 - j).toNat = m - 1 - j := by omega
      have hx : ix l ((m : Int) - 1 - j) = some (l[m - 1 - j]'(by omega)) := ix_some.2 ⟨by omega, by rw [hi]; exact List.getElem?_eq_getElem (by omega)⟩
      have w1 : IntKind.i64.wrap ((m : Int) - 1 - j - 1) = (m : Int) - 1 - ((j + 1 : Nat) : Int) := by rw [i64_id (by omega) (by omega)]; omega
      have w2 : IntKind.u64.wrap (u.tdiv 256) = v / 256 ^ (j + 1) := by
        rw [e1, Int.tdiv_eq_ediv_of_nonneg hu, u64_wrap, ← div_p j]; omega
      have w3 : IntKind.u8.wrap (u.tmod 256) = D v m (m - 1 - j) := by
        rw [e1, Int.tmod_eq_emod_of_nonneg hu, u8_wrap, D, show m - 1 - (m - 1 - j) = j by omega]; omega
      refine .inl ⟨(v / 256 ^ (j + 1), l.set (m - 1 - j) (D v m (m - 1 - j)), (m : Int) - 1 - ((j + 1 : Nat) : Int)), n - 1, ?_, by omega, j + 1, rfl, by simp [e2], ?_, rfl, by omega, by omega⟩
      · simp only [f91_s2, if_pos (show 0 ≤ (m : Int) - 1 - j by omega), hx, Option.bind_some, w1, w2, w3, hi]
      · intro q hq hge
        simp only [List.getElem?_set]
        by_cases hqe : m - 1 - j = q
        · subst hqe; rw [if_pos rfl, if_pos (by omega)]
        · rw [if_neg hqe]; exact e3 q hq (by omega)
    · have hjm : j = m := by omega
      subst hjm
      refine .inr ⟨l, by simp only [f91_s2, if_neg (show ¬ 0 ≤ (j : Int) - 1 - j by omega)], ?_⟩
      apply List.ext_getElem?
      intro q
      by_cases hq : q < j
      · rw [e3 q hq (by omega), List.getElem?_map, List.getElem?_range hq]; rfl
      · rw [List.getElem?_eq_none (by omega), List.getElem?_eq_none (by simp; omega)]
  obtain ⟨r, h, rfl⟩ := key
  exact h
theorem ref_ok {v : Int} {k : Nat} (h0 : 0 ≤ v) (hv64 : v < 18446744073709551616) (h1 : 1 ≤ k) (h9 : k ≤ 9) (hk : f119 v = some (k : Int)) (hv : k ≤ 8 → v < 2 ^ (7 * k)) : f91 v = some (E v k) := by
  have w1 : IntKind.i64.wrap (9 - (k : Int)) = 9 - (k : Int) := i64_id (by omega) (by omega)
  have w2 : (9 - (k : Int)).toNat = 9 - k := by omega
  have w3 : IntKind.u64.wrap (2 ^ (9 - k)) = 2 ^ (9 - k) ∧ IntKind.i64.wrap (2 ^ (9 - k)) = 2 ^ (9 - k) ∧ IntKind.i64.wrap (256 - 2 ^ (9 - k)) = mk k ∧ 0 ≤ mk k ∧ mk k ≤ 256 - 2 ^ (8 - k) := by
    have : k = 1 ∨ k = 2 ∨ k = 3 ∨ k = 4 ∨ k = 5 ∨ k = 6 ∨ k = 7 ∨ k = 8 ∨ k = 9 := by omega
    rcases this with rfl | rfl | rfl | rfl | rfl | rfl | rfl | rfl | rfl <;> decide
  obtain ⟨w4, w5, w6, w7, w8⟩ := w3
  rw [f91, hk]
  simp only [Option.bind_some, w1, pow (show 0 ≤ 9 - (k : Int) by omega) (by omega), w2, w4, w5, w6]
  by_cases h : k = 9
  · subst h
    rw [if_pos (by rfl), f91_j1]
    have hm : mkO (8 : Int) (0 : Int) = some (List.replicate 8 0) := mkO_some.2 ⟨by omega, rfl⟩
    have hw : IntKind.i64.wrap ((8 : Int) - 1) = ((8 : Nat) : Int) - 1 := by rw [i64_id (by omega) (by omega)]; rfl
    simp only [hm, Option.bind_some, hw, ref_loop h0 hv64 (show 1 ≤ 8 by omega) (show 8 ≤ 8 by omega)]
    rw [if_pos (by rfl), appO_two' (by simp) (by simp)]
    simp only [Option.bind_some, E, if_true, List.cons_append, List.nil_append]
  · rw [if_neg (show ¬ (k : Int) = 9 by omega), f91_j1]
    have hm : mkO (k : Int) (0 : Int) = some (List.replicate k 0) := mkO_some.2 ⟨by omega, by simp⟩
    have hw : IntKind.i64.wrap ((k : Int) - 1) = (k : Int) - 1 := i64_id (by omega) (by omega)
    simp only [hm, Option.bind_some, hw, ref_loop h0 hv64 h1 (show k ≤ 8 by omega)]
    rw [if_neg (show ¬ (k : Int) = 9 by omega)]
    have d0 := D_rng v k 0
    have dt := D_top h0 h1 (by omega) (hv (by omega))
    have hg : ((List.range k).map (D v k))[0]? = some (D v k 0) := by rw [List.getElem?_map, List.getElem?_range (by omega)]; rfl
    simp only [hg, Option.bind_some, i64_id (show -9223372036854775808 ≤ D v k 0 by omega) (by omega), i64_id (show -9223372036854775808 ≤ mk k + D v k 0 by omega) (by omega), u8_wrap, E, if_neg h]
    congr 1
    apply List.ext_getElem?
    intro q
    by_cases hq : q < k
    · simp only [List.getElem?_set, List.length_map, List.length_range, List.getElem?_map, List.getElem?_range hq, Option.map_some]
      by_cases hz : q = 0
      · subst hz; rw [if_pos rfl, if_pos (by omega)]
        simp only [if_true]
        congr 1; omega
      · rw [if_neg (fun h => hz h.symm), if_neg hz]
    · rw [List.getElem?_eq_none (by simp; omega), List.getElem?_eq_none (by simp; omega)]
end Au
end Go.Proofs.Y1
