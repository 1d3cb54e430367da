import Derived.Test.YtlonihmeikmpiaaGpS3A
set_option linter.all false
set_option linter.unusedVariables false
set_option linter.unusedSimpArgs false
set_option linter.all false
set_option maxRecDepth 8000
namespace Go.Proofs.Y1
open Go.Gm
namespace Au
def Byt (b : List Int) : Prop := ∀ x ∈ b, 0 ≤ x ∧ x < 256
def UV (b : List Int) (a : Int) (r : Int × Int × Int) : Prop := (r.2.2 = 0 ∧ 0 ≤ r.1 ∧ r.1 < 18446744073709551616 ∧ 0 ≤ a ∧ a < r.2.1 ∧ r.2.1 ≤ b.length) ∨ (r.2.2 ≠ 0 ∧ r.1 = 0 ∧ r.2.1 = 0)
theorem u64_rng (n : Int) : 0 ≤ IntKind.u64.wrap n ∧ IntKind.u64.wrap n < 18446744073709551616 := by rw [u64_wrap]; omega
theorem uv_j {b : List Int} (hb : Byt b) (hl : b.length ≤ 1000000) {a x8 v : Int} (h0 : 0 ≤ a) (hx : 0 ≤ x8) (hx8 : x8 ≤ 8) (hn : a + (1 + x8) ≤ b.length) (hv : 0 ≤ v) (hv1 : v < 18446744073709551616) :
    ∃ r, f115_j1 b a x8 v = some r ∧ f77_j1 b a x8 v = some r ∧ UV b a r := by
  have w1 : IntKind.i64.wrap (1 + x8) = 1 + x8 := i64_id (by omega) (by omega)
  have w1' : IntKind.i64.wrap (x8 + 1) = 1 + x8 := by rw [i64_id (by omega) (by omega)]; omega
  have w2 : IntKind.i64.wrap (a + 1) = a + 1 := i64_id (by omega) (by omega)
  have w3 : IntKind.i64.wrap (a + (1 + x8)) = a + (1 + x8) := i64_id (by omega) (by omega)
  let c := (b.drop (a + 1).toNat).take ((a + (1 + x8)).toNat - (a + 1).toNat)
  have hc : cutO? b (a + 1) (a + (1 + x8)) = some c := cutO?_some.2 ⟨⟨by omega, by omega, by omega⟩, rfl⟩
  have hcl : (c.length : Int) = x8 := by simp only [c, List.length_take, List.length_drop]; omega
  have key : ∃ r r', loopO (f115_s2 c) (v, 0) = some r ∧ loopO (f77_s2 b a x8) (v, a + 1) = some r' ∧ (r = r' ∧ 0 ≤ r ∧ r < 18446744073709551616) := by
    refine loopO_two (fun k s t => s.1 = t.1 ∧ 0 ≤ s.1 ∧ s.1 < 18446744073709551616 ∧ 0 ≤ s.2 ∧ s.2 ≤ x8 ∧ t.2 = a + 1 + s.2 ∧ (k : Int) = x8 - s.2) ?_ (k := x8.toNat) ⟨rfl, hv, hv1, by omega, by omega, by simp, by simp; omega⟩
    rintro k ⟨v, i⟩ ⟨v', j⟩ ⟨e1, e2, e3, e4, e5, e6, e7⟩
    simp only at e1 e2 e3 e4 e5 e6 e7
    subst e1 e6
    by_cases hi : i < x8
    · have hlt : i.toNat < c.length := by omega
      have hlt2 : (a + 1 + i).toNat < b.length := by omega
      have hget : c[i.toNat] = b[(a + 1 + i).toNat] := by
        simp only [c, List.getElem_take, List.getElem_drop]
        congr 1; omega
      obtain ⟨b0, b1⟩ := hb _ (List.getElem_mem hlt2)
      have i1 : ix c i = some b[(a + 1 + i).toNat] := ix_some.2 ⟨e4, by rw [← hget]; exact List.getElem?_eq_getElem hlt⟩
      have i2 : ix b (a + 1 + i) = some b[(a + 1 + i).toNat] := ix_some.2 ⟨by omega, List.getElem?_eq_getElem hlt2⟩
      refine .inl ⟨(IntKind.u64.wrap (IntKind.u64.wrap (256 * v) + IntKind.u64.wrap b[(a + 1 + i).toNat]), i + 1), (IntKind.u64.wrap (IntKind.u64.wrap (256 * v) + IntKind.u64.wrap b[(a + 1 + i).toNat]), a + 1 + i + 1), k - 1, ?_, ?_, by omega, rfl, (u64_rng _).1, (u64_rng _).2, by simp only; omega, by simp only; omega, by simp only; omega, by simp only; omega⟩
      · simp only [f115_s2, hcl, if_pos hi, i1, Option.bind_some, nextByte e2 b0 b1, i64_id (show -9223372036854775808 ≤ i + 1 by omega) (by omega)]
      · simp only [f77_s2, w1', w3, if_pos (show a + 1 + i < a + (1 + x8) by omega), i2, Option.bind_some, i64_id (show -9223372036854775808 ≤ a + 1 + i + 1 by omega) (by omega)]
    · refine .inr ⟨v, v, loopO_done ?_, loopO_done ?_, rfl, e2, e3⟩
      · simp only [f115_s2, hcl, if_neg hi]
      · simp only [f77_s2, w1', w3, if_neg (show ¬ a + 1 + i < a + (1 + x8) by omega)]
  obtain ⟨y, _, k1, k2, rfl, k3, k4⟩ := key
  obtain ⟨z, z1, z2⟩ := size_eq k3
  by_cases hz : z = 1 + x8
  · refine ⟨(y, a + (1 + x8), 0), ?_, ?_, .inl ⟨rfl, k3, k4, h0, by simp only; omega, by simp only; omega⟩⟩
    · simp only [f115_j1, w1, w2, w3, hc, Option.bind_some, k1, z1, if_pos hz]
    · simp only [f77_j1, w1', w2, w3, Option.bind_some, k2, z2, if_pos hz]
  · refine ⟨(0, 0, 3), ?_, ?_, .inr ⟨by simp, rfl, rfl⟩⟩
    · simp only [f115_j1, w1, w2, w3, hc, Option.bind_some, k1, z1, if_neg hz]
    · simp only [f77_j1, w1', w2, w3, Option.bind_some, k2, z2, if_neg hz]
theorem uv_eq {b : List Int} (hb : Byt b) (hl : b.length ≤ 1000000) (a : Int) : ∃ r, f115 b a = some r ∧ f77 b a = some r ∧ UV b a r := by
  unfold f115 f77
  by_cases h1 : a < 0
  · simp only [if_pos h1]; exact ⟨_, rfl, rfl, .inr ⟨by simp, rfl, rfl⟩⟩
  simp only [if_neg h1]
  by_cases h2 : (b.length : Int) < a
  · simp only [if_pos h2]; exact ⟨_, rfl, rfl, .inr ⟨by simp, rfl, rfl⟩⟩
  simp only [if_neg h2]
  by_cases h3 : a = (b.length : Int)
  · simp only [if_pos h3]; exact ⟨_, rfl, rfl, .inr ⟨by simp, rfl, rfl⟩⟩
  simp only [if_neg h3]
  have hlt : a.toNat < b.length := by omega
  have i1 : ix b a = some b[a.toNat] := ix_some.2 ⟨by omega, List.getElem?_eq_getElem hlt⟩
  obtain ⟨b0, b1⟩ := hb _ (List.getElem_mem hlt)
  generalize b[a.toNat] = x7 at i1 b0 b1
  obtain ⟨x8, l1, l2, l3, l4⟩ := lead b0 b1
  have w1 : IntKind.i64.wrap (1 + x8) = 1 + x8 := i64_id (by omega) (by omega)
  have w1' : IntKind.i64.wrap (x8 + 1) = 1 + x8 := by rw [i64_id (by omega) (by omega)]; omega
  have w2 : IntKind.i64.wrap ((b.length : Int) - a) = (b.length : Int) - a := i64_id (by omega) (by omega)
  simp only [i1, Option.bind_some, l1, l2, w1, w1', w2]
  by_cases h4 : (b.length : Int) - a < 1 + x8
  · simp only [if_pos h4]; exact ⟨_, rfl, rfl, .inr ⟨by simp, rfl, rfl⟩⟩
  simp only [if_neg h4]
  by_cases h5 : 1 + x8 < 9
  · have h5' : 1 + x8 ≤ 8 := by omega
    have w4 : IntKind.i64.wrap (8 - (1 + x8)) = 8 - (1 + x8) := i64_id (by omega) (by omega)
    have hp : ¬ IntKind.u64.wrap (2 ^ (8 - (1 + x8)).toNat) = 0 := by
      rw [u64_wrap]
      have hle : (2 : Nat) ^ (8 - (1 + x8)).toNat ≤ 2 ^ 8 := Nat.pow_le_pow_right (by omega) (by omega)
      have hq := Nat.two_pow_pos (8 - (1 + x8)).toNat
      have hp : (2 : Int) ^ (8 - (1 + x8)).toNat = ((2 ^ (8 - (1 + x8)).toNat : Nat) : Int) := by simp
      rw [hp]
      generalize 2 ^ (8 - (1 + x8)).toNat = q at *
      omega
    simp only [if_pos h5, if_pos h5', w4, pow (show 0 ≤ 8 - (1 + x8) by omega) (by omega), Option.bind_some, guardO_ok hp, guardO_ok (show 0 ≤ 1 + x8 by omega)]
    rw [first b0 b1 (by omega : (1 + x8).toNat < 9), show 8 - (1 + x8).toNat = (8 - (1 + x8)).toNat by omega]
    have r1 := u64_rng x7
    have r2 := u64_rng (2 ^ (8 - (1 + x8)).toNat)
    generalize IntKind.u64.wrap x7 = u at *
    generalize IntKind.u64.wrap (2 ^ (8 - (1 + x8)).toNat) = q at *
    refine uv_j hb hl (by omega) l3 l4 (by omega) ?_ ?_
    · exact Int.tmod_nonneg _ r1.1
    · have := Int.tmod_lt_of_pos u (show 0 < q by omega); omega
  · have h5' : ¬ 1 + x8 ≤ 8 := by omega
    simp only [if_neg h5, if_neg h5']
    exact uv_j hb hl (by omega) l3 l4 (by omega) (by omega) (by omega)
end Au
end Go.Proofs.Y1
