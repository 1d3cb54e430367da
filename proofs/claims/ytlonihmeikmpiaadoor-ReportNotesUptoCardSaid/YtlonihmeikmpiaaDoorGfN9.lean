import Derived.Test.YtlonihmeikmpiaaDoorGfN8
set_option linter.all false
set_option linter.unusedVariables false
set_option linter.unusedSimpArgs false
set_option linter.all false
set_option maxRecDepth 8000
set_option maxHeartbeats 1000000
namespace Go.Proofs.Yd
open Go.Gm Go.Lib
namespace Au
theorem hex_cut : ∀ {d : Nat}, d < 16 → cutSO? ⟨#[48, 49, 50, 51, 52, 53, 54, 55, 56, 57, 97, 98, 99, 100, 101, 102]⟩ (d : Int) ((d + 1 : Nat) : Int) = some (lb [hexD d]) := by
  have hh : (List.range 16).all (fun d => match cutSO? ⟨#[48, 49, 50, 51, 52, 53, 54, 55, 56, 57, 97, 98, 99, 100, 101, 102]⟩ (d : Int) ((d + 1 : Nat) : Int) with
    | some x => decide (x = lb [hexD d])
    | none => false) = true := by kernel_rfl
  intro d hd
  have := List.all_eq_true.1 hh d (by simpa using hd)
  split at this
  · rename_i x hx
    simp only [decide_eq_true_eq] at this
    rw [hx, this]
  · cases this
theorem one_cut {s : ByteArray} {i : Nat} (h : i < s.size) : cutSO? s (i : Int) ((i + 1 : Nat) : Int) = some (lb [s[i]]) := by
  rw [cutS_ok (by omega) (by omega)]
  refine congrArg some (bl_inj ?_)
  rw [bl_extract, bl_lb]
  have hb : i < (bl s).length := by rw [← size_bl]; exact h
  rw [List.take_succ_eq_append_getElem hb, List.drop_left' (by simp; omega)]
  rfl
theorem ixb {s : ByteArray} {i : Nat} (h : i < s.size) : ix (bl s) (i : Int) = some s[i] := by
  have hb : i < (bl s).length := by rw [← size_bl]; exact h
  rw [ixN hb]; rfl
theorem qb_step {s : ByteArray} (hs : s.size ≤ 1000) {i : Nat} (hi : i < s.size) : f35_s1 s (lb (34 :: ((bl s).take i).flatMap qb), (i : Int)) = some (.inl (lb (34 :: ((bl s).take (i + 1)).flatMap qb), ((i + 1 : Nat) : Int))) := by
  have hb : i < (bl s).length := by rw [← size_bl]; exact hi
  have hlen : (lb (34 :: ((bl s).take i).flatMap qb)).size ≤ 5000 := by
    rw [lb_size]
    have := qb_len ((bl s).take i)
    simp at this ⊢; omega
  have e : lb (34 :: ((bl s).take (i + 1)).flatMap qb) = lb (34 :: ((bl s).take i).flatMap qb) ++ lb (qb s[i]) := by
    rw [lb_app, List.take_succ_eq_append_getElem hb, List.flatMap_append]
    simp; rfl
  rw [e]
  generalize lb (34 :: ((bl s).take i).flatMap qb) = S at hlen ⊢
  have hix := ixb hi
  have hcut := one_cut hi
  clear e
  generalize s[i] = c at *
  have hc := c.toNat_lt
  have h8 : c.toNat < 256 := hc
  have w1 : IntKind.i64.wrap (c.toNat : Int) = (c.toNat : Int) := i64_id (by omega) (by omega)
  have w2 : IntKind.i64.wrap ((c.toNat : Int).tdiv 16) = ((c.toNat / 16 : Nat) : Int) := by
    rw [Int.tdiv_eq_ediv_of_nonneg (by omega), i64_id (by omega) (by omega)]; omega
  have w3 : IntKind.i64.wrap (((c.toNat / 16 : Nat) : Int) + 1) = ((c.toNat / 16 + 1 : Nat) : Int) := wrapN (by omega)
  have w4 : (c.toNat : Int).tmod 16 = ((c.toNat % 16 : Nat) : Int) := by
    rw [Int.tmod_eq_emod_of_nonneg (by omega)]; omega
  have w5 : IntKind.i64.wrap (((c.toNat % 16 : Nat) : Int) + 1) = ((c.toNat % 16 + 1 : Nat) : Int) := wrapN (by omega)
  have q2 : (⟨#[92, 120]⟩ : ByteArray).size = 2 := rfl
  have q1 : (⟨#[92]⟩ : ByteArray).size = 1 := rfl
  have z : ∀ c : UInt8, (lb [c]).size = 1 := fun c => by rw [lb_size]; rfl
  have zd := z (hexD (c.toNat / 16))
  have zm := z (hexD (c.toNat % 16))
  have zc := z c
  have c1 : catO S ⟨#[92, 120]⟩ = some (S ++ ⟨#[92, 120]⟩) := cat_ok (by omega) (by omega)
  have c2 : catO (S ++ ⟨#[92, 120]⟩) (lb [hexD (c.toNat / 16)]) = some (S ++ ⟨#[92, 120]⟩ ++ lb [hexD (c.toNat / 16)]) := cat_ok (by simp only [ByteArray.size_append]; omega) (by omega)
  have c3 : catO (S ++ ⟨#[92, 120]⟩ ++ lb [hexD (c.toNat / 16)]) (lb [hexD (c.toNat % 16)]) = some (S ++ ⟨#[92, 120]⟩ ++ lb [hexD (c.toNat / 16)] ++ lb [hexD (c.toNat % 16)]) := cat_ok (by simp only [ByteArray.size_append]; omega) (by omega)
  have c4 : catO S ⟨#[92]⟩ = some (S ++ ⟨#[92]⟩) := cat_ok (by omega) (by omega)
  have c5 : catO (S ++ ⟨#[92]⟩) (lb [c]) = some (S ++ ⟨#[92]⟩ ++ lb [c]) := cat_ok (by simp only [ByteArray.size_append]; omega) (by omega)
  have c6 : catO S (lb [c]) = some (S ++ lb [c]) := cat_ok (by omega) (by omega)
  have hx : S ++ ⟨#[92, 120]⟩ ++ lb [hexD (c.toNat / 16)] ++ lb [hexD (c.toNat % 16)] = S ++ lb [92, 120, hexD (c.toNat / 16), hexD (c.toNat % 16)] := bl_inj (by simp only [bl_app, bl_lb, bl_lit, List.append_assoc]; rfl)
  have hy : S ++ ⟨#[92]⟩ ++ lb [c] = S ++ lb [92, c] := bl_inj (by simp only [bl_app, bl_lb, bl_lit, List.append_assoc]; rfl)
  simp only [f35_s1, if_pos (show (i : Int) < s.size by omega), hix, Option.bind_some, w1, w2, w3, w4, w5, hex_cut (show c.toNat / 16 < 16 by omega), hex_cut (show c.toNat % 16 < 16 by omega), wrapN (show i ≤ 10000000000 by omega), hcut, c1, c2, c3, c4, c5, c6, hx, hy]
  have e34 : c = 34 ↔ (c.toNat : Int) = 34 := by
    constructor
    · intro h; rw [h]; rfl
    · intro h; exact UInt8.toNat_inj.1 (by show c.toNat = 34; omega)
  have e92 : c = 92 ↔ (c.toNat : Int) = 92 := by
    constructor
    · intro h; rw [h]; rfl
    · intro h; exact UInt8.toNat_inj.1 (by show c.toNat = 92; omega)
  have e32 : c < 32 ↔ (c.toNat : Int) < 32 := by
    rw [UInt8.lt_iff_toNat_lt]; show c.toNat < 32 ↔ _; omega
  have e126 : 126 < c ↔ 126 < (c.toNat : Int) := by
    rw [UInt8.lt_iff_toNat_lt]; show 126 < c.toNat ↔ _; omega
  unfold qb
  by_cases a1 : (c.toNat : Int) < 32
  · rw [if_pos a1, if_neg (fun h => h.elim (fun h => by have := e34.1 h; omega) (fun h => by have := e92.1 h; omega)), if_pos (.inl (e32.2 a1))]
  rw [if_neg a1]
  by_cases a2 : 126 < (c.toNat : Int)
  · rw [if_pos a2, if_neg (fun h => h.elim (fun h => by have := e34.1 h; omega) (fun h => by have := e92.1 h; omega)), if_pos (.inr (e126.2 a2))]
  rw [if_neg a2]
  by_cases a3 : (c.toNat : Int) = 34
  · rw [if_pos a3, if_pos (.inl (e34.2 a3))]
  rw [if_neg a3]
  by_cases a4 : (c.toNat : Int) = 92
  · rw [if_pos a4, if_pos (.inr (e92.2 a4))]
  rw [if_neg a4, if_neg (fun h => h.elim (fun h => a3 (e34.1 h)) (fun h => a4 (e92.1 h))), if_neg (fun h => h.elim (fun h => a1 (e32.1 h)) (fun h => a2 (e126.1 h)))]
def qt (s : ByteArray) : ByteArray := ⟨(quoteL s.data.toList).toArray⟩
theorem qt_size {s : ByteArray} (hs : s.size ≤ 1000) : (qt s).size ≤ 4002 := by
  have := qb_len s.data.toList
  have e : s.data.toList.length = s.size := Array.length_toList
  show (quoteL s.data.toList).toArray.size ≤ 4002
  rw [List.size_toArray]
  unfold quoteL
  simp only [List.length_cons, List.length_append, List.length_nil]
  omega
theorem quote_eq {s : ByteArray} (hs : s.size ≤ 1000) : f33 s = some (qt s) ∧ f35 s = some (qt s) := by
  constructor
  · unfold f33; rw [if_pos (by omega)]; rfl
  · have k := loopN_done (step := f35_s1 s) (fun i => (lb (34 :: ((bl s).take i).flatMap qb), (i : Int))) s.size (r := lb (34 :: (bl s).flatMap qb)) (fun i hi => qb_step hs hi) (by
      simp only [f35_s1, if_neg (show ¬ ((s.size : Int) < s.size) by omega)]
      rw [List.take_of_length_le (by rw [← size_bl]; omega)])
    simp only [List.take_zero, List.flatMap_nil] at k
    have hz := qb_len (bl s)
    rw [← size_bl] at hz
    unfold f35
    rw [show (⟨#[34]⟩ : ByteArray) = lb [34] from rfl, show (0 : Int) = ((0 : Nat) : Int) from rfl, k, Option.bind_some, cat_ok (by rw [lb_size, List.length_cons]; omega) (by rw [lb_size]; simp)]
    refine congrArg some (bl_inj ?_)
    simp only [bl_app, bl_lb]
    rw [show bl (qt s) = quoteL (bl s) from bl_lit _]
    rfl
end Au
end Go.Proofs.Yd
