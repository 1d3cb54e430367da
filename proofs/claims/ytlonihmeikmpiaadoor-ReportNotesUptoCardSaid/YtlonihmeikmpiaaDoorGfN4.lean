import Derived.Test.YtlonihmeikmpiaaDoorGfN1
set_option linter.all false
set_option linter.unusedVariables false
set_option linter.unusedSimpArgs false
set_option linter.all false
set_option maxRecDepth 8000
namespace Go.Proofs.Yd
open Go.Gm
namespace Au
noncomputable def leadB (i : Nat) : Bool := match iterO f52_s1 10 ((i : Int), 0) with
  | some k => decide (f59 (xorV .u8 (allV .u8) (i : Int)) = some k) && decide (0 ≤ k) && decide (k ≤ 8)
  | none => false
theorem leadAll : (List.range 256).all leadB = true := by kernel_rfl
theorem lead {x : Int} (h0 : 0 ≤ x) (h1 : x < 256) : ∃ k, f52 x = some k ∧ f59 (xorV .u8 (allV .u8) x) = some k ∧ 0 ≤ k ∧ k ≤ 8 := by
  have h := List.all_eq_true.1 leadAll x.toNat (by simp; omega)
  unfold leadB at h
  have e : ((x.toNat : Nat) : Int) = x := by omega
  rw [e] at h
  split at h
  · rename_i k hk
    simp only [Bool.and_eq_true, decide_eq_true_eq] at h
    exact ⟨k, by rw [f52, loopO_iff.2 ⟨10, hk⟩]; rfl, h.1.1, h.1.2, h.2⟩
  · cases h
noncomputable def powB (k : Nat) : Bool := decide (iterO (f53_s1 (k : Int)) 70 (1, 0) = some (IntKind.u64.wrap (2 ^ k)))
theorem powAll : (List.range 65).all powB = true := by kernel_rfl
theorem pow {k : Int} (h0 : 0 ≤ k) (h1 : k < 65) : f53 k = some (IntKind.u64.wrap (2 ^ k.toNat)) := by
  have h := List.all_eq_true.1 powAll k.toNat (by simp; omega)
  unfold powB at h
  have e : ((k.toNat : Nat) : Int) = k := by omega
  rw [e, decide_eq_true_eq] at h
  rw [f53, loopO_iff.2 ⟨70, h⟩]; rfl
noncomputable def firstB (x n : Nat) : Bool := decide (andV .u64 (IntKind.u64.wrap (x : Int)) (shrV .u64 255 n) = (IntKind.u64.wrap (x : Int)).tmod (IntKind.u64.wrap (2 ^ (8 - n))))
theorem firstAll : ((List.range 256).all fun x => (List.range 9).all fun n => firstB x n) = true := by kernel_rfl
theorem first {x : Int} {n : Nat} (h0 : 0 ≤ x) (h1 : x < 256) (hn : n < 9) : andV .u64 (IntKind.u64.wrap x) (shrV .u64 255 n) = (IntKind.u64.wrap x).tmod (IntKind.u64.wrap (2 ^ (8 - n))) := by
  have h := List.all_eq_true.1 (List.all_eq_true.1 firstAll x.toNat (by simp; omega)) n (by simpa using hn)
  unfold firstB at h
  have e : ((x.toNat : Nat) : Int) = x := by omega
  rw [e, decide_eq_true_eq] at h
  exact h
theorem u64_wrap (n : Int) : IntKind.u64.wrap n = n % 18446744073709551616 := by
  simp [IntKind.wrap, IntKind.bits, IntKind.signed]
theorem orN {n m : Nat} (hn : n < 2 ^ 64) (hm : m < 2 ^ 64) : orV .u64 (n : Int) (m : Int) = ((n ||| m : Nat) : Int) := by
  show IntKind.u64.wrap (((BitVec.ofInt 64 (n : Int) ||| BitVec.ofInt 64 (m : Int)).toNat : Nat) : Int) = _
  rw [u64_wrap, BitVec.toNat_or, BitVec.ofInt_natCast, BitVec.ofInt_natCast, BitVec.toNat_ofNat, BitVec.toNat_ofNat, Nat.mod_eq_of_lt hn, Nat.mod_eq_of_lt hm]
  have : n ||| m < 2 ^ 64 := Nat.or_lt_two_pow hn hm
  omega
theorem nextByte {v x : Int} (h0 : 0 ≤ v) (hx : 0 ≤ x) (hx1 : x < 256) :
    orV .u64 (shlV .u64 v 8) (IntKind.u64.wrap x) = IntKind.u64.wrap (IntKind.u64.wrap (256 * v) + IntKind.u64.wrap x) := by
  obtain ⟨n, rfl⟩ := Int.eq_ofNat_of_zero_le h0
  obtain ⟨m, rfl⟩ := Int.eq_ofNat_of_zero_le hx
  have e1 : shlV .u64 (n : Int) 8 = (((n % 72057594037927936) * 256 : Nat) : Int) := by
    show IntKind.u64.wrap ((n : Int) * 2 ^ (min 8 64)) = _
    rw [u64_wrap]
    simp only [Nat.reduceLeDiff, Nat.min_eq_left, Int.reducePow]
    omega
  have e2 : IntKind.u64.wrap (m : Int) = (m : Int) := by rw [u64_wrap]; omega
  rw [e1, e2, orN (by omega) (by omega)]
  have e3 : (n % 72057594037927936) * 256 ||| m = (n % 72057594037927936) * 256 + m := by
    have := Nat.shiftLeft_add_eq_or_of_lt (i := 8) (b := m) (by omega) (n % 72057594037927936)
    rw [Nat.shiftLeft_eq] at this
    simpa using this.symm
  rw [e3, u64_wrap, u64_wrap]
  omega
theorem shr_nat {v : Int} {k : Nat} (h0 : 0 ≤ v) (hk : k ≤ 64) : shrV .u64 v k = 0 ↔ v < 2 ^ k := by
  show v.fdiv (2 ^ (min k 64)) = 0 ↔ _
  rw [Nat.min_eq_left hk]
  obtain ⟨n, rfl⟩ := Int.eq_ofNat_of_zero_le h0
  have hp : (2 : Int) ^ k = ((2 ^ k : Nat) : Int) := by simp
  have hq := Nat.two_pow_pos k
  have := Nat.div_eq_zero_iff_lt (x := n) hq
  rw [hp]
  generalize 2 ^ k = q at *
  rw [Int.fdiv_eq_ediv_of_nonneg _ (by omega), ← Int.natCast_ediv]
  omega
theorem loopO_two {σ τ ρ π : Type} {s1 : σ → Option (σ ⊕ ρ)} {s2 : τ → Option (τ ⊕ π)} (I : Nat → σ → τ → Prop) {Q : ρ → π → Prop}
    (h : ∀ k s t, I k s t → (∃ s' t' k', s1 s = some (.inl s') ∧ s2 t = some (.inl t') ∧ k' < k ∧ I k' s' t') ∨ (∃ r r', loopO s1 s = some r ∧ loopO s2 t = some r' ∧ Q r r')) :
    ∀ {k : Nat} {s : σ} {t : τ}, I k s t → ∃ r r', loopO s1 s = some r ∧ loopO s2 t = some r' ∧ Q r r' := by
  intro k
  induction k using Nat.strongRecOn with
  | ind k ih =>
    intro s t hI
    rcases h k s t hI with ⟨s', t', k', h1, h2, hlt, hI'⟩ | h
    · rw [loopO_next h1, loopO_next h2]; exact ih k' hlt hI'
    · exact h
theorem size_eq {v : Int} (h0 : 0 ≤ v) : ∃ k, f60 v = some k ∧ f54 v = some k := by
  have key : ∃ r r', loopO (f60_s1 v) 1 = some r ∧ loopO (f54_s1 v) 1 = some r' ∧ r = r' := by
    refine loopO_two (fun k s t => s = t ∧ 1 ≤ s ∧ s ≤ 9 ∧ (k : Int) = 9 - s) ?_ (k := 8) ⟨rfl, by omega, by omega, by omega⟩
    rintro k s _ ⟨rfl, h1, h9, hk⟩
    by_cases h8 : s ≤ 8
    · have hw : IntKind.i64.wrap (7 * s) = 7 * s := i64_id (by omega) (by omega)
      have hw1 : IntKind.i64.wrap (s + 1) = s + 1 := i64_id (by omega) (by omega)
      have e1 : f60_s1 v s = if v < 2 ^ (7 * s).toNat then some (.inr (.inl s)) else some (.inl (s + 1)) := by
        rw [f60_s1, if_pos h8, hw, guardO_ok (by omega), hw1]
        simp only [Option.bind_some, shr_nat h0 (by omega : (7 * s).toNat ≤ 64)]
      have e2 : f54_s1 v s = if v < 2 ^ (7 * s).toNat then some (.inr (.inl s)) else some (.inl (s + 1)) := by
        rw [f54_s1, if_pos h8, hw, pow (by omega) (by omega), hw1]
        have : IntKind.u64.wrap (2 ^ (7 * s).toNat) = 2 ^ (7 * s).toNat := by
          rw [u64_wrap]
          have hle : (2 : Nat) ^ (7 * s).toNat ≤ 2 ^ 56 := Nat.pow_le_pow_right (by omega) (by omega)
          have hp : (2 : Int) ^ (7 * s).toNat = ((2 ^ (7 * s).toNat : Nat) : Int) := by simp
          rw [hp]
          generalize 2 ^ (7 * s).toNat = q at *
          omega
        simp only [Option.bind_some, this]
      by_cases hv : v < 2 ^ (7 * s).toNat
      · rw [if_pos hv] at e1 e2
        exact .inr ⟨_, _, loopO_done e1, loopO_done e2, rfl⟩
      · rw [if_neg hv] at e1 e2
        exact .inl ⟨_, _, k - 1, e1, e2, by omega, rfl, by omega, by omega, by omega⟩
    · exact .inr ⟨_, _, loopO_done (by rw [f60_s1, if_neg h8]), loopO_done (by rw [f54_s1, if_neg h8]), rfl⟩
  obtain ⟨r, _, h1, h2, rfl⟩ := key
  cases r with
  | inl k => exact ⟨k, by rw [f60, h1]; rfl, by rw [f54, h2]; rfl⟩
  | inr u => exact ⟨9, by rw [f60, h1]; rfl, by rw [f54, h2]; rfl⟩
def Byt (b : List Int) : Prop := ∀ x ∈ b, 0 ≤ x ∧ x < 256
def UV (b : List Int) (a : Int) (r : Int × Int × Int) : Prop := (r.2.2 = 0 ∧ 0 ≤ r.1 ∧ r.1 < 18446744073709551616 ∧ 0 ≤ a ∧ a < r.2.1 ∧ r.2.1 ≤ b.length) ∨ (r.2.2 ≠ 0 ∧ r.1 = 0 ∧ r.2.1 = 0 ∧ 0 ≤ r.2.2 ∧ r.2.2 ≤ 8)
theorem u64_rng (n : Int) : 0 ≤ IntKind.u64.wrap n ∧ IntKind.u64.wrap n < 18446744073709551616 := by rw [u64_wrap]; omega
theorem uv_j {b : List Int} (hb : Byt b) (hl : b.length ≤ 1000000) {a x8 v : Int} (h0 : 0 ≤ a) (hx : 0 ≤ x8) (hx8 : x8 ≤ 8) (hn : a + (1 + x8) ≤ b.length) (hv : 0 ≤ v) (hv1 : v < 18446744073709551616) :
    ∃ r, f49_j1 b a x8 v = some r ∧ f42_j1 b a x8 v = some r ∧ UV b a r := by
  have w1 : IntKind.i64.wrap (1 + x8) = 1 + x8 := i64_id (by omega) (by omega)
  have w1' : IntKind.i64.wrap (x8 + 1) = 1 + x8 := by rw [i64_id (by omega) (by omega)]; omega
  have w2 : IntKind.i64.wrap (a + 1) = a + 1 := i64_id (by omega) (by omega)
  have w3 : IntKind.i64.wrap (a + (1 + x8)) = a + (1 + x8) := i64_id (by omega) (by omega)
  let c := (b.drop (a + 1).toNat).take ((a + (1 + x8)).toNat - (a + 1).toNat)
  have hc : cutO? b (a + 1) (a + (1 + x8)) = some c := cutO?_some.2 ⟨⟨by omega, by omega, by omega⟩, rfl⟩
  have hcl : (c.length : Int) = x8 := by simp only [c, List.length_take, List.length_drop]; omega
  have key : ∃ r r', loopO (f49_s2 c) (v, 0) = some r ∧ loopO (f42_s2 b a x8) (v, a + 1) = some r' ∧ (r = r' ∧ 0 ≤ r ∧ r < 18446744073709551616) := by
    refine loopO_two (fun k s t => s.1 = t.1 ∧ 0 ≤ s.1 ∧ s.1 < 18446744073709551616 ∧ 0 ≤ s.2 ∧ s.2 ≤ x8 ∧ t.2 = a + 1 + s.2 ∧ (k : Int) = x8 - s.2) ?_ (k := x8.toNat) ⟨rfl, hv, hv1, by omega, by omega, by simp, by simp; omega⟩
    rintro k ⟨v, i⟩ ⟨v', j⟩ ⟨e1, e2, e3, e4, e5, e6, e7⟩
    simp only at e1 e2 e3 e4 e5 e6 e7
    subst e1 e6
    by_cases hi : i < x8
    · have hlt : i.toNat < c.length := by omega
      have hlt2 : (a + 1 + i).toNat < b.length := by omega
      have hget : c[i.toNat] = b[(a + 1 + i).toNat] := by
        simp only [c, List.getElem_take, List.getElem_drop]
        congr 1; omega
      obtain ⟨b0, b1⟩ := hb _ (List.getElem_mem hlt2)
      have i1 : ix c i = some b[(a + 1 + i).toNat] := ix_some.2 ⟨e4, by rw [← hget]; exact List.getElem?_eq_getElem hlt⟩
      have i2 : ix b (a + 1 + i) = some b[(a + 1 + i).toNat] := ix_some.2 ⟨by omega, List.getElem?_eq_getElem hlt2⟩
      refine .inl ⟨(IntKind.u64.wrap (IntKind.u64.wrap (256 * v) + IntKind.u64.wrap b[(a + 1 + i).toNat]), i + 1), (IntKind.u64.wrap (IntKind.u64.wrap (256 * v) + IntKind.u64.wrap b[(a + 1 + i).toNat]), a + 1 + i + 1), k - 1, ?_, ?_, by omega, rfl, (u64_rng _).1, (u64_rng _).2, by simp only; omega, by simp only; omega, by simp only; omega, by simp only; omega⟩
      · simp only [f49_s2, hcl, if_pos hi, i1, Option.bind_some, nextByte e2 b0 b1, i64_id (show -9223372036854775808 ≤ i + 1 by omega) (by omega)]
      · simp only [f42_s2, w1', w3, if_pos (show a + 1 + i < a + (1 + x8) by omega), i2, Option.bind_some, i64_id (show -9223372036854775808 ≤ a + 1 + i + 1 by omega) (by omega)]
    · refine .inr ⟨v, v, loopO_done ?_, loopO_done ?_, rfl, e2, e3⟩
      · simp only [f49_s2, hcl, if_neg hi]
      · simp only [f42_s2, w1', w3, if_neg (show ¬ a + 1 + i < a + (1 + x8) by omega)]
  obtain ⟨y, _, k1, k2, rfl, k3, k4⟩ := key
  obtain ⟨z, z1, z2⟩ := size_eq k3
  by_cases hz : z = 1 + x8
  · refine ⟨(y, a + (1 + x8), 0), ?_, ?_, .inl ⟨rfl, k3, k4, h0, by simp only; omega, by simp only; omega⟩⟩
    · simp only [f49_j1, w1, w2, w3, hc, Option.bind_some, k1, z1, if_pos hz]
    · simp only [f42_j1, w1', w2, w3, Option.bind_some, k2, z2, if_pos hz]
  · refine ⟨(0, 0, 3), ?_, ?_, .inr ⟨by simp, rfl, rfl, by simp⟩⟩
    · simp only [f49_j1, w1, w2, w3, hc, Option.bind_some, k1, z1, if_neg hz]
    · simp only [f42_j1, w1', w2, w3, Option.bind_some, k2, z2, if_neg hz]
theorem uv_eq {b : List Int} (hb : Byt b) (hl : b.length ≤ 1000000) (a : Int) : ∃ r, f49 b a = some r ∧ f42 b a = some r ∧ UV b a r := by
  unfold f49 f42
  by_cases h1 : a < 0
  · simp only [if_pos h1]; exact ⟨_, rfl, rfl, .inr ⟨by simp, rfl, rfl, by simp⟩⟩
  simp only [if_neg h1]
  by_cases h2 : (b.length : Int) < a
  · simp only [if_pos h2]; exact ⟨_, rfl, rfl, .inr ⟨by simp, rfl, rfl, by simp⟩⟩
  simp only [if_neg h2]
  by_cases h3 : a = (b.length : Int)
  · simp only [if_pos h3]; exact ⟨_, rfl, rfl, .inr ⟨by simp, rfl, rfl, by simp⟩⟩
  simp only [if_neg h3]
  have hlt : a.toNat < b.length := by omega
  have i1 : ix b a = some b[a.toNat] := ix_some.2 ⟨by omega, List.getElem?_eq_getElem hlt⟩
  obtain ⟨b0, b1⟩ := hb _ (List.getElem_mem hlt)
  generalize b[a.toNat] = x7 at i1 b0 b1
  obtain ⟨x8, l1, l2, l3, l4⟩ := lead b0 b1
  have w1 : IntKind.i64.wrap (1 + x8) = 1 + x8 := i64_id (by omega) (by omega)
  have w1' : IntKind.i64.wrap (x8 + 1) = 1 + x8 := by rw [i64_id (by omega) (by omega)]; omega
  have w2 : IntKind.i64.wrap ((b.length : Int) - a) = (b.length : Int) - a := i64_id (by omega) (by omega)
  simp only [i1, Option.bind_some, l1, l2, w1, w1', w2]
  by_cases h4 : (b.length : Int) - a < 1 + x8
  · simp only [if_pos h4]; exact ⟨_, rfl, rfl, .inr ⟨by simp, rfl, rfl, by simp⟩⟩
  simp only [if_neg h4]
  by_cases h5 : 1 + x8 < 9
  · have h5' : 1 + x8 ≤ 8 := by omega
    have w4 : IntKind.i64.wrap (8 - (1 + x8)) = 8 - (1 + x8) := i64_id (by omega) (by omega)
    have hp : ¬ IntKind.u64.wrap (2 ^ (8 - (1 + x8)).toNat) = 0 := by
      rw [u64_wrap]
      have hle : (2 : Nat) ^ (8 - (1 + x8)).toNat ≤ 2 ^ 8 := Nat.pow_le_pow_right (by omega) (by omega)
      have hq := Nat.two_pow_pos (8 - (1 + x8)).toNat
      have hp : (2 : Int) ^ (8 - (1 + x8)).toNat = ((2 ^ (8 - (1 + x8)).toNat : Nat) : Int) := by simp
      rw [hp]
      generalize 2 ^ (8 - (1 + x8)).toNat = q at *
      omega
    simp only [if_pos h5, if_pos h5', w4, pow (show 0 ≤ 8 - (1 + x8) by omega) (by omega), Option.bind_some, guardO_ok hp, guardO_ok (show 0 ≤ 1 + x8 by omega)]
    rw [first b0 b1 (by omega : (1 + x8).toNat < 9), show 8 - (1 + x8).toNat = (8 - (1 + x8)).toNat by omega]
    have r1 := u64_rng x7
    have r2 := u64_rng (2 ^ (8 - (1 + x8)).toNat)
    generalize IntKind.u64.wrap x7 = u at *
    generalize IntKind.u64.wrap (2 ^ (8 - (1 + x8)).toNat) = q at *
    refine uv_j hb hl (by omega) l3 l4 (by omega) ?_ ?_
    · exact Int.tmod_nonneg _ r1.1
    · have := Int.tmod_lt_of_pos u (show 0 < q by omega); omega
  · have h5' : ¬ 1 + x8 ≤ 8 := by omega
    simp only [if_neg h5, if_neg h5']
    exact uv_j hb hl (by omega) l3 l4 (by omega) (by omega) (by omega)
def SV' (b : List Int) (a : Int) (r : ByteArray × Int × Int) : Prop := (r.2.2 = 0 ∧ 0 ≤ a ∧ a < r.2.1 ∧ r.2.1 ≤ b.length) ∨ (r.2.2 ≠ 0 ∧ r.2.1 = 0 ∧ 0 ≤ r.2.2 ∧ r.2.2 ≤ 8)
theorem sv_eq {b : List Int} (hb : Byt b) (hl : b.length ≤ 1000000) (a : Int) : ∃ r, f50 b a 1048576 = some r ∧ f43 b a 1048576 = some r ∧ SV' b a r := by
  obtain ⟨⟨v, p, e⟩, h1, h2, h3⟩ := uv_eq hb hl a
  simp only [f50, f43, h1, h2, Option.bind_some]
  rcases h3 with ⟨q1, q2, q3, q4, q5, q6⟩ | ⟨q1, q2, q3, q4⟩
  · simp only at q1 q2 q3 q4 q5 q6
    subst q1
    simp only [if_true, if_neg (show ¬ (1048576 : Int) < 0 by decide)]
    have w0 : IntKind.u64.wrap 1048576 = 1048576 := by decide
    have w1 : IntKind.u64.wrap (IntKind.i64.wrap ((b.length : Int) - p)) = (b.length : Int) - p := by rw [i64_id (by omega) (by omega), u64_wrap]; omega
    rw [w0, w1]
    by_cases c1 : 1048576 < v
    · simp only [if_pos c1]; exact ⟨_, rfl, rfl, .inr ⟨by simp, rfl, by simp⟩⟩
    simp only [if_neg c1]
    by_cases c2 : (b.length : Int) - p < v
    · simp only [if_pos c2]; exact ⟨_, rfl, rfl, .inr ⟨by simp, rfl, by simp⟩⟩
    simp only [if_neg c2]
    have w2 : IntKind.i64.wrap v = v := i64_id (by omega) (by omega)
    have w3 : IntKind.i64.wrap (p + v) = p + v := i64_id (by omega) (by omega)
    rw [w2, w3, cutO?_some.2 ⟨⟨by omega, by omega, by omega⟩, rfl⟩]
    exact ⟨_, rfl, rfl, .inl ⟨rfl, q4, by simp only; omega, by simp only; omega⟩⟩
  · simp only at q1 q2 q3 q4
    rw [if_neg q1]
    exact ⟨_, rfl, rfl, .inr ⟨q1, rfl, q4⟩⟩
end Au
end Go.Proofs.Yd
