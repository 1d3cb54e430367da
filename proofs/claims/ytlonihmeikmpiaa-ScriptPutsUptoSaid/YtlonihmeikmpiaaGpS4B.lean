import Derived.Test.YtlonihmeikmpiaaGpS4A
set_option linter.all false
set_option linter.unusedVariables false
set_option linter.unusedSimpArgs false
set_option linter.all false
set_option maxRecDepth 8000
namespace Go.Proofs.Y1
open Go.Gm
namespace Au
/-- in B, from a on, stands L -/
def At (B : List Int) (a : Nat) (L : List Int) : Prop := ∃ pre post, B = pre ++ (L ++ post) ∧ pre.length = a
theorem At.len {B L : List Int} {a : Nat} (h : At B a L) : a + L.length ≤ B.length := by
  obtain ⟨p, q, rfl, rfl⟩ := h; simp only [List.length_append]; omega
theorem At.left {B L M : List Int} {a : Nat} (h : At B a (L ++ M)) : At B a L := by
  obtain ⟨p, q, e, k⟩ := h; exact ⟨p, M ++ q, by rw [e, List.append_assoc], k⟩
theorem At.right {B L M : List Int} {a : Nat} (h : At B a (L ++ M)) : At B (a + L.length) M := by
  obtain ⟨p, q, e, k⟩ := h; exact ⟨p ++ L, q, by rw [e]; simp [List.append_assoc], by simp [k]⟩
theorem At.get {B L : List Int} {a : Nat} (h : At B a L) {i : Nat} (hi : i < L.length) : B[a + i]? = L[i]? := by
  obtain ⟨p, q, rfl, rfl⟩ := h
  rw [List.getElem?_append_right (by omega), show p.length + i - p.length = i by omega, List.getElem?_append_left hi]
theorem At.ix {B L : List Int} {a : Nat} (h : At B a L) {i : Nat} {x : Int} (hx : L[i]? = some x) {j : Int} (hj : j = a + i) : ix B j = some x := by
  have hi : i < L.length := by
    rcases Nat.lt_or_ge i L.length with h | h
    · exact h
    · rw [List.getElem?_eq_none h] at hx; cases hx
  subst hj
  exact ix_some.2 ⟨by omega, by rw [show ((a : Int) + i).toNat = a + i by omega, h.get hi, hx]⟩
theorem At.cut {B L : List Int} {a : Nat} (h : At B a L) {i j : Int} (hi : i = a) (hj : j = (a : Int) + L.length) : cutO? B i j = some L := by
  have hl := h.len
  subst hi hj
  refine cutO?_some.2 ⟨⟨by omega, by omega, by omega⟩, ?_⟩
  obtain ⟨p, q, rfl, rfl⟩ := h
  rw [show ((p.length : Nat) : Int).toNat = p.length by omega, show ((p.length : Int) + L.length).toNat - p.length = L.length by omega, List.drop_left, List.take_left]
theorem E_tail {v : Int} {k i : Nat} (h9 : k ≤ 9) (hi : i + 1 < k) : (E v k)[i + 1]? = some (v / 256 ^ (k - 2 - i) % 256) := by
  unfold E
  split
  · rename_i h; subst h
    rw [List.getElem?_cons_succ, List.getElem?_map, List.getElem?_range (by omega)]
    simp only [Option.map_some, D]
  · rw [List.getElem?_map, List.getElem?_range hi]
    simp only [Option.map_some, if_neg (Nat.succ_ne_zero i), D, show k - 1 - (i + 1) = k - 2 - i by omega]
noncomputable def lead2B (k x : Nat) : Bool := !(decide (1 ≤ k)) || !(decide (x < 2 ^ (8 - k))) || decide (iterO f117_s1 10 (mk k + x, 0) = some ((k : Int) - 1))
theorem lead2All : ((List.range 9).all fun k => (List.range 256).all fun x => lead2B k x) = true := by kernel_rfl
theorem lead2 {x : Int} {k : Nat} (h1 : 1 ≤ k) (h8 : k ≤ 8) (h0 : 0 ≤ x) (hx : x < 2 ^ (8 - k)) : f117 (mk k + x) = some ((k : Int) - 1) := by
  obtain ⟨n, rfl⟩ := Int.eq_ofNat_of_zero_le h0
  have hn : n < 2 ^ (8 - k) := by exact_mod_cast hx
  have hle : (2 : Nat) ^ (8 - k) ≤ 2 ^ 8 := Nat.pow_le_pow_right (by omega) (by omega)
  have h := List.all_eq_true.1 (List.all_eq_true.1 lead2All k (by simp; omega)) n (by simp; omega)
  unfold lead2B at h
  have h2 : iterO f117_s1 10 (mk k + n, 0) = some ((k : Int) - 1) := by simpa [h1, hn] using h
  rw [f117, loopO_iff.2 ⟨10, h2⟩]; rfl
theorem lead255 : f117 255 = some 8 := by
  have h2 : iterO f117_s1 10 (255, 0) = some 8 := by kernel_rfl
  rw [f117, loopO_iff.2 ⟨10, h2⟩]; rfl
theorem read_loop {B : List Int} {a k : Nat} {v : Int} (h0 : 0 ≤ v) (hv : v < 18446744073709551616) (h1 : 1 ≤ k) (h9 : k ≤ 9) (hl : B.length ≤ 1000000) (hA : At B a (E v k)) :
    loopO (f77_s2 B a ((k : Int) - 1)) (v / 256 ^ (k - 1), (a : Int) + 1) = some v := by
  have hlen := hA.len
  rw [E_len] at hlen
  have w1 : IntKind.i64.wrap ((k : Int) - 1 + 1) = (k : Int) := by rw [i64_id (by omega) (by omega)]; omega
  have w2 : IntKind.i64.wrap ((a : Int) + k) = (a : Int) + k := i64_id (by omega) (by omega)
  have key : ∃ r, loopO (f77_s2 B a ((k : Int) - 1)) (v / 256 ^ (k - 1), (a : Int) + 1) = some r ∧ r = v := by
    refine loopO_of (fun n (s : Int × Int) => ∃ i : Nat, s = (v / 256 ^ (k - 1 - i), (a : Int) + 1 + i) ∧ i ≤ k - 1 ∧ n = k - 1 - i) ?_ (k := k - 1) ⟨0, by simp, by omega, by omega⟩
    rintro n _ ⟨i, rfl, hi, hn⟩
    by_cases hlt : i < k - 1
    · have hx : ix B ((a : Int) + 1 + i) = some (v / 256 ^ (k - 2 - i) % 256) := hA.ix (E_tail h9 (by omega)) (by omega)
      have hd := div_p (v := v) (k - 2 - i)
      rw [show k - 2 - i + 1 = k - 1 - i by omega] at hd
      have hu : 0 ≤ v / 256 ^ (k - 2 - i) := Int.ediv_nonneg h0 (Int.le_of_lt (p256_pos _))
      have hu1 : v / 256 ^ (k - 2 - i) ≤ v := Int.ediv_le_self _ h0
      have w3 : IntKind.u64.wrap (IntKind.u64.wrap (256 * (v / 256 ^ (k - 1 - i))) + IntKind.u64.wrap (v / 256 ^ (k - 2 - i) % 256)) = v / 256 ^ (k - 1 - (i + 1)) := by
        rw [← hd, show k - 1 - (i + 1) = k - 2 - i by omega]
        generalize v / 256 ^ (k - 2 - i) = u at *
        simp only [u64_wrap]; omega
      have w4 : IntKind.i64.wrap ((a : Int) + 1 + i + 1) = (a : Int) + 1 + ((i + 1 : Nat) : Int) := by rw [i64_id (by omega) (by omega)]; omega
      exact .inl ⟨_, n - 1, by simp only [f77_s2, w1, w2, if_pos (show (a : Int) + 1 + i < a + k by omega), hx, Option.bind_some, w3, w4], by omega, i + 1, rfl, by omega, by omega⟩
    · have : i = k - 1 := by omega
      subst this
      refine .inr ⟨v / 256 ^ (k - 1 - (k - 1)), ?_, by simp⟩
      simp only [f77_s2, w1, w2, if_neg (show ¬ (a : Int) + 1 + ((k - 1 : Nat) : Int) < a + k by omega)]
  obtain ⟨r, h, rfl⟩ := key
  exact h
theorem uv_read {B : List Int} {a k : Nat} {v : Int} (h0 : 0 ≤ v) (hv : v < 18446744073709551616) (h1 : 1 ≤ k) (h9 : k ≤ 9) (hk : f119 v = some (k : Int)) (hb : k ≤ 8 → v < 2 ^ (7 * k)) (hl : B.length ≤ 1000000) (hA : At B a (E v k)) :
    f77 B a = some (v, (a : Int) + k, 0) := by
  have hlen := hA.len
  rw [E_len] at hlen
  have w1 : IntKind.i64.wrap ((k : Int) - 1 + 1) = (k : Int) := by rw [i64_id (by omega) (by omega)]; omega
  have w2 : IntKind.i64.wrap ((a : Int) + k) = (a : Int) + k := i64_id (by omega) (by omega)
  have w3 : IntKind.i64.wrap ((B.length : Int) - a) = (B.length : Int) - a := i64_id (by omega) (by omega)
  have w4 : IntKind.i64.wrap ((a : Int) + 1) = (a : Int) + 1 := i64_id (by omega) (by omega)
  have hj : f77_j1 B a ((k : Int) - 1) (v / 256 ^ (k - 1)) = some (v, (a : Int) + k, 0) := by
    simp only [f77_j1, w4, read_loop h0 hv h1 h9 hl hA, Option.bind_some, hk, w1, if_true, w2]
  by_cases h : k = 9
  · subst h
    have hx : ix B (a : Int) = some 255 := hA.ix (i := 0) (by simp [E]) (by omega)
    have hz : v / 256 ^ (9 - 1) = 0 := by
      rw [show (256 : Int) ^ (9 - 1) = 18446744073709551616 by decide]; omega
    rw [hz] at hj
    simp only [f77, if_neg (show ¬ (a : Int) < 0 by omega), if_neg (show ¬ (B.length : Int) < a by omega), if_neg (show ¬ (a : Int) = B.length by omega), hx, Option.bind_some, lead255]
    rw [show (8 : Int) = ((9 : Nat) : Int) - 1 from rfl, w1, w3, if_neg (show ¬ (B.length : Int) - a < ((9 : Nat) : Int) by omega), if_neg (by decide), hj]
  · have d0 := D_rng v k 0
    have dt := D_top h0 h1 (by omega) (hb (by omega))
    have hx : ix B (a : Int) = some (mk k + D v k 0) := hA.ix (i := 0) (by simp only [E, if_neg h]; rw [List.getElem?_map, List.getElem?_range (by omega)]; rfl) (by omega)
    have w5 : IntKind.i64.wrap (8 - (k : Int)) = 8 - (k : Int) := i64_id (by omega) (by omega)
    have w6 : (8 - (k : Int)).toNat = 8 - k := by omega
    have facts : IntKind.u64.wrap (2 ^ (8 - k)) = 2 ^ (8 - k) ∧ ¬ ((2 : Int) ^ (8 - k) = 0) ∧ 0 ≤ mk k ∧ mk k + 2 ^ (8 - k) ≤ 256 ∧ mk k % 2 ^ (8 - k) = 0 := by
      have : k = 1 ∨ k = 2 ∨ k = 3 ∨ k = 4 ∨ k = 5 ∨ k = 6 ∨ k = 7 ∨ k = 8 := by omega
      rcases this with rfl | rfl | rfl | rfl | rfl | rfl | rfl | rfl <;> decide
    obtain ⟨w7, w8, w9, w10, w11⟩ := facts
    have w12 : (IntKind.u64.wrap (mk k + D v k 0)).tmod (2 ^ (8 - k)) = v / 256 ^ (k - 1) := by
      have e : D v k 0 = v / 256 ^ (k - 1) := by
        have hq : 0 ≤ v / 256 ^ (k - 1) := Int.ediv_nonneg h0 (Int.le_of_lt (p256_pos _))
        have hlt : v / 256 ^ (k - 1) < 256 := by
          have hbb := hb (by omega)
          have : k = 1 ∨ k = 2 ∨ k = 3 ∨ k = 4 ∨ k = 5 ∨ k = 6 ∨ k = 7 ∨ k = 8 := by omega
          rcases this with rfl | rfl | rfl | rfl | rfl | rfl | rfl | rfl <;> simp only [Nat.reduceMul, Nat.reduceSub, Int.reducePow] at hbb ⊢ <;> omega
        simp only [D, Nat.sub_zero]; omega
      rw [← e, u64_wrap, Int.emod_eq_of_lt (by omega) (by omega), Int.tmod_eq_emod_of_nonneg (by omega), Int.add_emod, w11, Int.zero_add, Int.emod_emod, Int.emod_eq_of_lt (by omega) dt]
    simp only [f77, if_neg (show ¬ (a : Int) < 0 by omega), if_neg (show ¬ (B.length : Int) < a by omega), if_neg (show ¬ (a : Int) = B.length by omega), hx, Option.bind_some, lead2 h1 (show k ≤ 8 by omega) d0.1 dt]
    rw [w1, w3, if_neg (show ¬ (B.length : Int) - a < (k : Int) by omega), if_pos (show (k : Int) ≤ 8 by omega), w5, pow (by omega) (by omega), w6, w7]
    simp only [Option.bind_some, guardO_ok w8, w12, hj]
theorem E_byt {v : Int} {k : Nat} (h0 : 0 ≤ v) (h1 : 1 ≤ k) (h9 : k ≤ 9) (hb : k ≤ 8 → v < 2 ^ (7 * k)) : Byt (E v k) := by
  intro x hx
  unfold E at hx
  split at hx
  · rcases List.mem_cons.1 hx with rfl | hx
    · omega
    · obtain ⟨i, _, rfl⟩ := List.mem_map.1 hx; exact D_rng v 8 i
  · rename_i h
    obtain ⟨i, hi, rfl⟩ := List.mem_map.1 hx
    by_cases hz : i = 0
    · rw [if_pos hz]
      have d0 := D_rng v k 0
      have dt := D_top h0 h1 (by omega) (hb (by omega))
      have facts : 0 ≤ mk k ∧ mk k + 2 ^ (8 - k) ≤ 256 := by
        have : k = 1 ∨ k = 2 ∨ k = 3 ∨ k = 4 ∨ k = 5 ∨ k = 6 ∨ k = 7 ∨ k = 8 := by omega
        rcases this with rfl | rfl | rfl | rfl | rfl | rfl | rfl | rfl <;> decide
      omega
    · rw [if_neg hz]; exact D_rng v k i
noncomputable def N (v : Int) : List Int := (f91 v).getD []
theorem num {v : Int} (h0 : 0 ≤ v) (hv : v < 18446744073709551616) : 1 ≤ (N v).length ∧ (N v).length ≤ 9 ∧ Byt (N v) ∧ f91 v = some (N v) ∧ (∀ b, b.length ≤ 1000000 → f87 b v = some (b ++ N v)) ∧
    ∀ B a, B.length ≤ 1000000 → At B a (N v) → f77 B a = some (v, (a : Int) + (N v).length, 0) := by
  obtain ⟨k, h1, h9, k1, k2, hb⟩ := size_ok h0
  have hr := ref_ok h0 hv h1 h9 k2 hb
  have e : N v = E v k := by rw [N, hr]; rfl
  rw [e, E_len]
  exact ⟨h1, h9, E_byt h0 h1 h9 hb, hr, fun b hl => put_ok h0 hl h1 h9 k1 hb, fun B a hl hA => uv_read h0 hv h1 h9 k2 hb hl hA⟩
end Au
end Go.Proofs.Y1
