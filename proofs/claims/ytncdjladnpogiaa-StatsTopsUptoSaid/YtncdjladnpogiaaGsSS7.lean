import Derived.Test.YtncdjladnpogiaaGsSS6
set_option linter.all false
set_option linter.unusedVariables false
set_option linter.unusedSimpArgs false
set_option linter.all false
set_option maxRecDepth 8000
set_option maxHeartbeats 1000000
namespace Go.Proofs.Y2
open Go.Gm
namespace Au
theorem loopO_two {σ τ ρ π : Type} {s1 : σ → Option (σ ⊕ ρ)} {s2 : τ → Option (τ ⊕ π)} (I : Nat → σ → τ → Prop) {Q : ρ → π → Prop}
    (h : ∀ k s t, I k s t → (∃ s' t' k', s1 s = some (.inl s') ∧ s2 t = some (.inl t') ∧ k' < k ∧ I k' s' t') ∨ (∃ r r', loopO s1 s = some r ∧ loopO s2 t = some r' ∧ Q r r')) :
    ∀ {k : Nat} {s : σ} {t : τ}, I k s t → ∃ r r', loopO s1 s = some r ∧ loopO s2 t = some r' ∧ Q r r' := by
  intro k
  induction k using Nat.strongRecOn with
  | ind k ih =>
    intro s t hI
    rcases h k s t hI with ⟨s', t', k', h1, h2, hlt, hI'⟩ | h
    · rw [loopO_next h1, loopO_next h2]; exact ih k' hlt hI'
    · exact h
/-! ### the sums -/
theorem u32_wrap (n : Int) : IntKind.u32.wrap n = n % 4294967296 := by
  simp [IntKind.wrap, IntKind.bits, IntKind.signed]
theorem xor_rng (a b : Int) : 0 ≤ xorV .u32 a b ∧ xorV .u32 a b < 4294967296 := by
  unfold xorV; rw [u32_wrap]; omega
theorem xor_zero {h : Int} (h0 : 0 ≤ h) (h1 : h < 4294967296) : xorV .u32 h 0 = h := by
  obtain ⟨n, rfl⟩ := Int.eq_ofNat_of_zero_le h0
  show IntKind.u32.wrap (((BitVec.ofInt 32 (n : Int) ^^^ BitVec.ofInt 32 0).toNat : Nat) : Int) = _
  have : BitVec.ofInt 32 0 = 0#32 := by decide
  rw [this, BitVec.xor_zero, BitVec.ofInt_natCast, BitVec.toNat_ofNat, Nat.mod_eq_of_lt (by omega), u32_wrap]
  omega
theorem xor_all {h : Int} (h0 : 0 ≤ h) (h1 : h < 4294967296) : xorV .u32 (allV .u32) h = 4294967295 - h := by
  obtain ⟨n, rfl⟩ := Int.eq_ofNat_of_zero_le h0
  show IntKind.u32.wrap (((BitVec.ofInt 32 (allV .u32) ^^^ BitVec.ofInt 32 (n : Int)).toNat : Nat) : Int) = _
  have : BitVec.ofInt 32 (allV .u32) = BitVec.allOnes 32 := by decide
  rw [this, BitVec.xor_comm, BitVec.xor_allOnes, BitVec.toNat_not, BitVec.ofInt_natCast, BitVec.toNat_ofNat, Nat.mod_eq_of_lt (by omega), u32_wrap]
  omega
theorem and_one {h : Int} (h0 : 0 ≤ h) (h1 : h < 4294967296) : andV .u32 h 1 = h % 2 := by
  obtain ⟨n, rfl⟩ := Int.eq_ofNat_of_zero_le h0
  show IntKind.u32.wrap (((BitVec.ofInt 32 (n : Int) &&& BitVec.ofInt 32 1).toNat : Nat) : Int) = _
  rw [u32_wrap, BitVec.toNat_and, BitVec.ofInt_natCast, BitVec.toNat_ofNat, Nat.mod_eq_of_lt (by omega)]
  have : (BitVec.ofInt 32 1).toNat = 1 := by decide
  rw [this, Nat.and_one_is_mod]
  omega
theorem shr_one {h : Int} (h0 : 0 ≤ h) : shrV .u32 h 1 = h / 2 := by
  show h.fdiv (2 ^ (min 1 32)) = _
  rw [Int.fdiv_eq_ediv_of_nonneg _ (by decide)]; rfl
theorem crc_step {s i : Int} (h0 : 0 ≤ s) (h1 : s < 4294967296) : f60_s1 (s, i) = f48_s1 (s, i) := by
  unfold f60_s1 f48_s1
  by_cases hi : i < 8
  · simp only [if_pos hi]
    rw [and_one h0 h1, shr_one h0, Int.tmod_eq_emod_of_nonneg h0, Int.tdiv_eq_ediv_of_nonneg h0]
    have e : IntKind.u32.wrap (s / 2) = s / 2 := by rw [u32_wrap]; omega
    rw [e]
    by_cases hv : s % 2 = 1
    · rw [if_pos hv, hv, show andV .u32 3988292384 (IntKind.u32.wrap (0 - 1)) = 3988292384 from by decide]
    · rw [if_neg hv, show s % 2 = 0 by omega, show andV .u32 3988292384 (IntKind.u32.wrap (0 - 0)) = 0 from by decide, xor_zero (by omega) (by omega)]
  · simp only [if_neg hi]
theorem crc_byte {c x : Int} : ∃ r, f60 c x = some r ∧ f48 c x = some r ∧ 0 ≤ r ∧ r < 4294967296 := by
  have hx := xor_rng c (IntKind.u32.wrap x)
  obtain ⟨r, r', h1, h2, rfl, h3, h4⟩ := loopO_two (s1 := f60_s1) (s2 := f48_s1) (Q := fun r r' => r = r' ∧ 0 ≤ r ∧ r < 4294967296) (fun k s t => s = t ∧ 0 ≤ s.1 ∧ s.1 < 4294967296 ∧ 0 ≤ s.2 ∧ s.2 ≤ 8 ∧ (k : Int) = 8 - s.2) (by
    rintro k ⟨s, i⟩ _ ⟨rfl, a1, a2, a3, a4, a5⟩
    simp only at a1 a2 a3 a4 a5
    by_cases hi : i < 8
    · have hw : IntKind.i64.wrap (i + 1) = i + 1 := i64_id (by omega) (by omega)
      have hx2 := xor_rng (shrV .u32 s 1) (andV .u32 3988292384 (IntKind.u32.wrap (0 - (andV .u32 s 1))))
      have q : f60_s1 (s, i) = some (.inl (xorV .u32 (shrV .u32 s 1) (andV .u32 3988292384 (IntKind.u32.wrap (0 - (andV .u32 s 1)))), i + 1)) := by simp only [f60_s1, if_pos hi, hw]
      exact .inl ⟨_, _, k - 1, q, by rw [← crc_step a1 a2]; exact q, by omega, rfl, hx2.1, hx2.2, by simp only; omega, by simp only; omega, by simp only; omega⟩
    · exact .inr ⟨s, s, loopO_done (by simp only [f60_s1, if_neg hi]), loopO_done (by simp only [f48_s1, if_neg hi]), rfl, a1, a2⟩) (k := 8) (s := (xorV .u32 c (IntKind.u32.wrap x), 0)) ⟨rfl, hx.1, hx.2, by simp, by simp, by simp⟩
  exact ⟨r, by unfold f60; rw [h1]; rfl, by unfold f48; rw [h2]; rfl, h3, h4⟩
theorem crc_eq (b : List Int) (hl : b.length ≤ 1000000) : ∃ r, f35 b = some r ∧ f36 b = some r ∧ 0 ≤ r ∧ r < 4294967296 := by
  obtain ⟨r, r', h1, h2, rfl, h3, h4⟩ := loopO_two (s1 := f47_s1 b) (s2 := f36_s1 b) (Q := fun r r' => r = r' ∧ 0 ≤ r ∧ r < 4294967296) (fun k s t => s = t ∧ 0 ≤ s.1 ∧ s.1 < 4294967296 ∧ ∃ i : Nat, s.2 = (i : Int) ∧ i ≤ b.length ∧ k = b.length - i) (by
    rintro k ⟨s, i⟩ _ ⟨rfl, a1, a2, i, rfl, a3, rfl⟩
    simp only at a1 a2
    by_cases hi : i < b.length
    · obtain ⟨r, q1, q2, q3, q4⟩ := crc_byte (c := s) (x := b[i])
      refine .inl ⟨(r, ((i + 1 : Nat) : Int)), (r, ((i + 1 : Nat) : Int)), b.length - (i + 1), ?_, ?_, by omega, rfl, q3, q4, i + 1, rfl, hi, rfl⟩
      · simp only [f47_s1, if_pos (show (i : Int) < b.length by omega), ixN hi, Option.bind_some, f59, q1, wrapN (show i ≤ 10000000000 by omega)]
      · simp only [f36_s1, if_pos (show (i : Int) < b.length by omega), ixN hi, Option.bind_some, q2, wrapN (show i ≤ 10000000000 by omega)]
    · exact .inr ⟨s, s, loopO_done (by simp only [f47_s1, if_neg (show ¬ (i : Int) < b.length by omega)]), loopO_done (by simp only [f36_s1, if_neg (show ¬ (i : Int) < b.length by omega)]), rfl, a1, a2⟩) (k := b.length) (s := (4294967295, 0)) ⟨rfl, by simp, by simp, 0, rfl, by omega, by omega⟩
  have e : xorV .u32 (allV .u32) 0 = 4294967295 := by decide
  refine ⟨4294967295 - r, ?_, ?_, by omega, by omega⟩
  · unfold f35 f47
    rw [e, h1, Option.bind_some, xor_all h3 h4]; rfl
  · unfold f36
    rw [h2, Option.bind_some, u32_wrap]
    exact congrArg some (by omega)
theorem part_eq {s : ByteArray} {m : Int} (hs : s.size ≤ 1000000) (h1 : 1 ≤ m) (h8 : m ≤ 8) : ∃ v, f23 s m = some v ∧ f24 s m = some v ∧ 0 ≤ v ∧ v < m := by
  obtain ⟨r, q1, q2, q3, q4⟩ := crc_eq (bytesI s) (by rw [bytesI_len]; exact hs)
  have w1 : IntKind.i64.wrap r = r := i64_id (by omega) (by omega)
  have w2 : IntKind.u64.wrap r = r := by rw [u64_wrap]; omega
  have w3 : IntKind.u64.wrap m = m := by rw [u64_wrap]; omega
  have e : r.tmod m = r % m := Int.tmod_eq_emod_of_nonneg q3
  have e1 := Int.emod_nonneg r (show m ≠ 0 by omega)
  have e2 := Int.emod_lt_of_pos r (show 0 < m by omega)
  refine ⟨r % m, ?_, ?_, e1, e2⟩
  · unfold f23
    rw [if_neg (by omega), q1, Option.bind_some, guardO_ok (by omega), Option.bind_some, w1, e]
  · unfold f24
    rw [if_neg (by omega), q2, Option.bind_some, guardO_ok (by rw [w3]; omega), Option.bind_some, w2, w3, e, i64_id (by omega) (by omega)]
theorem minI_le (a : Int) : minI a 8 = if 8 < a then 8 else a := rfl
theorem balance_eq {a0 : List Res} (hl : a0.length ≤ 1000) (hs : ∀ q ∈ a0, q.Key.size ≤ 1000000) (a1 : Int) : ∃ r, f11 a0 a1 = some r ∧ f12 a0 a1 = some r ∧ r.length ≤ 8 := by
  unfold f11 f12
  by_cases h1 : a1 < 1
  · rw [if_pos h1, if_pos h1]; exact ⟨[], rfl, rfl, by simp⟩
  rw [if_neg h1, if_neg h1, minI_le]
  have key : ∀ m : Int, 1 ≤ m → m ≤ 8 → minI a1 8 = m → ∃ r, ((mkO m (0 : Int)).bind fun x3 => ((loopO (f11_s1 a0 a1) (x3, 0)).bind fun y23 => some y23)) = some r ∧ f12_j1 a0 m = some r ∧ r.length ≤ 8 := by
    intro m m1 m8 hm
    have hmk : mkO m (0 : Int) = some (List.replicate m.toNat 0) := mkO_some.2 ⟨⟨by omega, by omega⟩, rfl⟩
    obtain ⟨r, r', q1, q2, rfl, q3⟩ := loopO_two (s1 := f11_s1 a0 a1) (s2 := f12_s1 a0 m) (Q := fun r r' => r = r' ∧ r.length ≤ 8) (fun k s t => s = t ∧ s.1.length = m.toNat ∧ ∃ i : Nat, s.2 = (i : Int) ∧ i ≤ a0.length ∧ k = a0.length - i) (by
      rintro k ⟨l, i⟩ _ ⟨rfl, a2, i, rfl, a3, rfl⟩
      simp only at a2
      by_cases hi : i < a0.length
      · obtain ⟨v, v1, v2, v3, v4⟩ := part_eq (s := a0[i].Key) (m := m) (hs _ (List.getElem_mem hi)) m1 m8
        obtain ⟨n, rfl⟩ := Int.eq_ofNat_of_zero_le v3
        have hn : n < l.length := by omega
        refine .inl ⟨(l.set n (IntKind.i64.wrap (l[n] + 1)), ((i + 1 : Nat) : Int)), _, a0.length - (i + 1), ?_, ?_, by omega, rfl, by simp only [List.length_set]; exact a2, i + 1, rfl, hi, rfl⟩
        · simp only [f11_s1, if_pos (show (i : Int) < a0.length by omega), ixN hi, Option.bind_some, hm, v1, ixN hn, Int.toNat_natCast, wrapN (show i ≤ 10000000000 by omega)]
        · simp only [f12_s1, if_pos (show (i : Int) < a0.length by omega), ixN hi, Option.bind_some, v2, ixN hn, Int.toNat_natCast, wrapN (show i ≤ 10000000000 by omega)]
      · exact .inr ⟨l, l, loopO_done (by simp only [f11_s1, if_neg (show ¬ (i : Int) < a0.length by omega)]), loopO_done (by simp only [f12_s1, if_neg (show ¬ (i : Int) < a0.length by omega)]), rfl, by omega⟩) (k := a0.length) (s := (List.replicate m.toNat 0, 0)) ⟨rfl, by simp, 0, rfl, by omega, by omega⟩
    refine ⟨r, by rw [hmk, Option.bind_some, q1]; rfl, ?_, q3⟩
    simp only [f12_j1]
    rw [hmk, Option.bind_some, q2]; rfl
  by_cases h8 : 8 < a1
  · rw [if_pos h8, if_pos h8]; exact key 8 (by omega) (by omega) (by rw [minI_le, if_pos h8])
  · rw [if_neg h8, if_neg h8]; exact key a1 (by omega) (by omega) (by rw [minI_le, if_neg h8])
/-! ### what reaches where -/
theorem index_eq {l : List Int} (hl : l.length ≤ 1000000) (x : Int) : f37 l x = some (decide (x ∈ l)) ∧ f26 l x = some (decide (x ∈ l)) := by
  have k1 : ∃ r, loopO (f49_s1 l x) 0 = some r ∧ ((∃ i : Nat, r = .inl (i : Int) ∧ x ∈ l) ∨ (r = .inr () ∧ x ∉ l)) := by
    refine loopO_of (fun k s => ∃ i : Nat, s = (i : Int) ∧ i ≤ l.length ∧ k = l.length - i ∧ ∀ y ∈ l.take i, y ≠ x) ?_ (k := l.length) ⟨0, rfl, by omega, by omega, by simp⟩
    rintro k _ ⟨i, rfl, hi, rfl, ho⟩
    by_cases hlt : i < l.length
    · by_cases e : x = l[i]
      · refine .inr ⟨.inl (i : Int), ?_, .inl ⟨i, rfl, by rw [e]; exact List.getElem_mem hlt⟩⟩
        simp only [f49_s1, if_pos (show (i : Int) < l.length by omega), ixN hlt, Option.bind_some, if_pos e]
      · refine .inl ⟨((i + 1 : Nat) : Int), l.length - (i + 1), ?_, by omega, i + 1, rfl, hlt, rfl, ?_⟩
        · simp only [f49_s1, if_pos (show (i : Int) < l.length by omega), ixN hlt, Option.bind_some, if_neg e, wrapN (show i ≤ 10000000000 by omega)]
        · intro y hy
          rw [List.take_succ_eq_append_getElem hlt] at hy
          rcases List.mem_append.1 hy with h | h
          · exact ho y h
          · simp at h; rw [h]; exact fun h => e h.symm
    · refine .inr ⟨.inr (), ?_, .inr ⟨rfl, fun h => ?_⟩⟩
      · simp only [f49_s1, if_neg (show ¬ (i : Int) < l.length by omega)]
      · rw [List.take_of_length_le (by omega)] at ho; exact ho x h rfl
  have k2 : ∃ r, loopO (f26_s1 l x) 0 = some r ∧ ((r = .inl true ∧ x ∈ l) ∨ (r = .inr () ∧ x ∉ l)) := by
    refine loopO_of (fun k s => ∃ i : Nat, s = (i : Int) ∧ i ≤ l.length ∧ k = l.length - i ∧ ∀ y ∈ l.take i, y ≠ x) ?_ (k := l.length) ⟨0, rfl, by omega, by omega, by simp⟩
    rintro k _ ⟨i, rfl, hi, rfl, ho⟩
    by_cases hlt : i < l.length
    · by_cases e : l[i] = x
      · refine .inr ⟨.inl true, ?_, .inl ⟨rfl, by rw [← e]; exact List.getElem_mem hlt⟩⟩
        simp only [f26_s1, if_pos (show (i : Int) < l.length by omega), ixN hlt, Option.bind_some, if_pos e]
      · refine .inl ⟨((i + 1 : Nat) : Int), l.length - (i + 1), ?_, by omega, i + 1, rfl, hlt, rfl, ?_⟩
        · simp only [f26_s1, if_pos (show (i : Int) < l.length by omega), ixN hlt, Option.bind_some, if_neg e, wrapN (show i ≤ 10000000000 by omega)]
        · intro y hy
          rw [List.take_succ_eq_append_getElem hlt] at hy
          rcases List.mem_append.1 hy with h | h
          · exact ho y h
          · simp at h; rw [h]; exact e
    · refine .inr ⟨.inr (), ?_, .inr ⟨rfl, fun h => ?_⟩⟩
      · simp only [f26_s1, if_neg (show ¬ (i : Int) < l.length by omega)]
      · rw [List.take_of_length_le (by omega)] at ho; exact ho x h rfl
  constructor
  · obtain ⟨r, h1, h2⟩ := k1
    unfold f37 f49
    rw [h1]
    rcases h2 with ⟨i, rfl, h⟩ | ⟨rfl, h⟩
    · simp [h]
    · simp [h]
  · obtain ⟨r, h1, h2⟩ := k2
    unfold f26
    rw [h1]
    rcases h2 with ⟨rfl, h⟩ | ⟨rfl, h⟩
    · simp [h]
    · simp [h]
def hits (l : List Res) (x : Int) : List Res := l.filter fun q => decide (x ∈ q.Offs)
theorem hits_snoc (l : List Res) (q : Res) (x : Int) : hits (l ++ [q]) x = hits l x ++ if x ∈ q.Offs then [q] else [] := by
  unfold hits
  rw [List.filter_append]
  by_cases h : x ∈ q.Offs <;> simp [h]
theorem hits_le (l : List Res) (x : Int) : (hits l x).length ≤ l.length := List.length_filter_le _ _
theorem forth_eq {a0 : List Res} (hl : a0.length ≤ 1000) (ho : ∀ q ∈ a0, q.Offs.length ≤ 1000000) (x : Int) : f25 a0 x = some ((hits a0 x).map (·.Key)) := by
  have k := loopN_done (step := f25_s1 a0 x) (fun i => ((hits (a0.take i) x).map (·.Key), (i : Int))) a0.length (r := (hits a0 x).map (·.Key)) (fun i hi => by
    have hle := hits_le (a0.take i) x
    rw [List.length_take] at hle
    simp only [f25_s1, if_pos (show (i : Int) < a0.length by omega), ixN hi, Option.bind_some, (index_eq (ho _ (List.getElem_mem hi)) x).1, wrapN (show i ≤ 10000000000 by omega)]
    rw [List.take_succ_eq_append_getElem hi, hits_snoc]
    by_cases h : x ∈ a0[i].Offs
    · rw [if_pos (by simpa using h), if_pos h, appO_ok' (by rw [List.length_map]; omega) (by simp), List.map_append]; rfl
    · rw [if_neg (by simpa using h), if_neg h, List.append_nil]) (by simp [f25_s1])
  simp only [List.take_zero] at k
  unfold f25
  rw [show (0 : Int) = ((0 : Nat) : Int) from rfl]
  rw [show (([] : List ByteArray), ((0 : Nat) : Int)) = ((hits [] x).map (·.Key), ((0 : Nat) : Int)) from rfl, k]
  rfl
def cnt (a0 : List Res) (r : Record) : Int := ((hits a0 r.Off).length : Int)
theorem reach1 {a0 : List Res} {rs : List Record} (hl : a0.length ≤ 1000) (ho : ∀ q ∈ a0, q.Offs.length ≤ 1000000) (hr : rs.length ≤ 1000000) : f13 a0 rs = some (rs.map (cnt a0)) := by
  have k := loopN_done (step := f13_s1 a0 rs) (fun i => ((rs.take i).map (cnt a0), (i : Int))) rs.length (r := rs.map (cnt a0)) (fun i hi => by
    simp only [f13_s1, if_pos (show (i : Int) < rs.length by omega), ixN hi, Option.bind_some, forth_eq hl ho, wrapN (show i ≤ 10000000000 by omega)]
    rw [appO_ok' (by simp; omega) (by simp), List.take_succ_eq_append_getElem hi, List.map_append, List.length_map]
    rfl) (by simp [f13_s1])
  simp only [List.take_zero, List.map_nil] at k
  unfold f13
  rw [show (0 : Int) = ((0 : Nat) : Int) from rfl, k]
  rfl
theorem reach2 {a0 : List Res} {rs : List Record} (hl : a0.length ≤ 1000) (ho : ∀ q ∈ a0, q.Offs.length ≤ 1000000) (hr : rs.length ≤ 1000000) : f14 a0 rs = some (rs.map (cnt a0)) := by
  have inner : ∀ (D Z : List Int) (i : Nat) (hi : i < rs.length), D.length = i → loopO (f14_s4 a0 rs (i : Int)) (D ++ 0 :: Z, 0) = some (D ++ cnt a0 rs[i] :: Z) := by
    intro D Z i hi hD
    have k := loopN_done (step := f14_s4 a0 rs (i : Int)) (fun j => (D ++ ((hits (a0.take j) rs[i].Off).length : Int) :: Z, (j : Int))) a0.length (r := D ++ cnt a0 rs[i] :: Z) (fun j hj => by
      have hle := hits_le (a0.take j) rs[i].Off
      rw [List.length_take] at hle
      simp only [f14_s4, if_pos (show (j : Int) < a0.length by omega), ixN hj, ixN hi, Option.bind_some, (index_eq (ho _ (List.getElem_mem hj)) rs[i].Off).2, wrapN (show j ≤ 10000000000 by omega)]
      rw [List.take_succ_eq_append_getElem hj, hits_snoc]
      by_cases h : rs[i].Off ∈ a0[j].Offs
      · rw [if_pos (by simpa using h), if_pos h, ix_mid (by omega), Option.bind_some]
        simp only [Int.toNat_natCast]
        rw [set_mid' (by omega), i64_id (by omega) (by omega)]
        simp
      · rw [if_neg (by simpa using h), if_neg h, List.append_nil]) (by
      simp only [f14_s4, if_neg (show ¬ ((a0.length : Nat) : Int) < (a0.length : Int) by omega), List.take_length]
      rfl)
    simp only [List.take_zero] at k
    exact k
  have k := loopN_done (step := f14_s1 a0 rs) (fun i => ((rs.take i).map (cnt a0) ++ List.replicate (rs.length - i) 0, (i : Int))) rs.length (r := rs.map (cnt a0)) (fun i hi => by
    have e : List.replicate (rs.length - i) (0 : Int) = 0 :: List.replicate (rs.length - (i + 1)) 0 := by
      rw [show rs.length - i = (rs.length - (i + 1)) + 1 by omega, List.replicate_succ]
    simp only [f14_s1, if_pos (show (i : Int) < rs.length by omega), e]
    rw [inner _ _ i hi (by simp; omega), Option.bind_some, wrapN (by omega), List.take_succ_eq_append_getElem hi, List.map_append]
    simp) (by simp [f14_s1])
  simp only [List.take_zero, List.map_nil, List.nil_append, Nat.sub_zero] at k
  have hm : mkO (rs.length : Int) (0 : Int) = some (List.replicate rs.length 0) := mkO_some.2 ⟨⟨by omega, by omega⟩, by simp⟩
  unfold f14
  rw [hm, Option.bind_some, show (0 : Int) = ((0 : Nat) : Int) from rfl]
  exact (congrArg (fun o => o.bind fun y => some y) k)
end Au
end Go.Proofs.Y2
