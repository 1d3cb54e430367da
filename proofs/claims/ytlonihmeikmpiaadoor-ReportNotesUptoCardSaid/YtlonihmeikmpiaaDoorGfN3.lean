import Derived.Test.YtlonihmeikmpiaaDoorGfN2
set_option linter.all false
set_option linter.unusedVariables false
set_option linter.unusedSimpArgs false
set_option linter.all false
set_option maxRecDepth 8000
namespace Go.Proofs.Yd
open Go.Gm Go.Lib
namespace Au
abbrev W (n : Int) : Int := IntKind.i64.wrap n
theorem W_in (n : Int) : -9223372036854775808 ≤ W n ∧ W n ≤ 9223372036854775807 := by
  simp only [W, IntKind.wrap, IntKind.bits, IntKind.signed, Bool.true_and]
  split
  · rename_i h; simp only [ge_iff_le, decide_eq_true_eq] at h; omega
  · rename_i h; simp only [ge_iff_le, decide_eq_true_eq] at h; omega
def goE (l : List Int) : Nat → Nat → Nat
  | 0, k => k
  | f + 1, k => if k < l.length ∧ W (l.getD k 0 - l.getD (k - 1) 0) = W (l.getD 1 0 - l.getD 0 0) then goE l f (k + 1) else k
def evN (l : List Int) : Nat := goE l l.length (min l.length 2)
theorem goE_ge (l : List Int) : ∀ f k, k ≤ goE l f k
  | 0, k => Nat.le_refl _
  | f + 1, k => by
    unfold goE; split
    · have := goE_ge l f (k + 1); omega
    · exact Nat.le_refl _
theorem goE_le (l : List Int) : ∀ f k, k ≤ l.length → goE l f k ≤ l.length
  | 0, k, h => h
  | f + 1, k, h => by
    unfold goE; split
    · rename_i hc; exact goE_le l f (k + 1) hc.1
    · exact h
theorem goE_fuel (l : List Int) : ∀ f f' k, l.length - k ≤ f → l.length - k ≤ f' → goE l f k = goE l f' k
  | 0, 0, k, _, _ => rfl
  | 0, f' + 1, k, h, _ => by unfold goE; rw [if_neg (fun hc => by omega)]
  | f + 1, 0, k, _, h => by
    show goE l (f + 1) k = k
    unfold goE; rw [if_neg (fun hc => by omega)]
  | f + 1, f' + 1, k, h, h' => by
    unfold goE
    split
    · exact goE_fuel l f f' (k + 1) (by omega) (by omega)
    · rfl
theorem goE_all (l : List Int) : ∀ f k i, k ≤ i → i < goE l f k → W (l.getD i 0 - l.getD (i - 1) 0) = W (l.getD 1 0 - l.getD 0 0)
  | 0, k, i, h, h' => by simp only [goE] at h'; omega
  | f + 1, k, i, h, h' => by
    unfold goE at h'
    split at h'
    · rename_i hc
      by_cases e : i = k
      · subst e; exact hc.2
      · exact goE_all l f (k + 1) i (by omega) h'
    · omega
theorem evN_pos {l : List Int} (h : l ≠ []) : 1 ≤ evN l ∧ evN l ≤ l.length := by
  have h1 := List.length_pos_iff.2 h
  have h2 := goE_ge l l.length (min l.length 2)
  exact ⟨by unfold evN; omega, goE_le l _ _ (by omega)⟩
theorem ix_D {l : List Int} {i : Nat} (h : i < l.length) : ix l (i : Int) = some (l.getD i 0) := by
  rw [ixN h]; simp [List.getD, h]
theorem get_D {l : List Int} {i : Nat} (h : i < l.length) : l[i]? = some (l.getD i 0) := by simp [List.getD, h]
theorem even_loop {l : List Int} (hl : l.length ≤ 1000) : ∀ f k, (2 ≤ k ∨ k = l.length) → k ≤ l.length → l.length - k ≤ f → loopO (f25_s1 l) (k : Int) = some ((goE l f k : Nat) : Int)
  | f, k, h2, hk, hf => by
    by_cases hlt : k < l.length
    · have hk2 : 2 ≤ k := by omega
      cases f with
      | zero => omega
      | succ f =>
        have e1 : W ((k : Int) - 1) = ((k - 1 : Nat) : Int) := by rw [W, i64_id (by omega) (by omega)]; omega
        have hst : f25_s1 l (k : Int) = if W (l.getD k 0 - l.getD (k - 1) 0) = W (l.getD 1 0 - l.getD 0 0) then some (.inl ((k + 1 : Nat) : Int)) else some (.inr (k : Int)) := by
          simp only [f25_s1, if_pos (show (2 : Int) ≤ (k : Int) by omega), if_pos (show (k : Int) < (l.length : Int) by omega), ix_D hlt, e1, ix_D (show k - 1 < l.length by omega), get_D (show 1 < l.length by omega), get_D (show 0 < l.length by omega), Option.bind_some, wrapN (show k ≤ 10000000000 by omega)]
        unfold goE
        by_cases hc : W (l.getD k 0 - l.getD (k - 1) 0) = W (l.getD 1 0 - l.getD 0 0)
        · rw [if_pos ⟨hlt, hc⟩, loopO_next (hst.trans (if_pos hc))]
          exact even_loop hl f (k + 1) (by omega) (by omega) (by omega)
        · rw [if_neg (fun h => hc h.2)]
          exact loopO_done (hst.trans (if_neg hc))
    · have hst : f25_s1 l (k : Int) = some (.inr (k : Int)) := by
        by_cases h : (2 : Int) ≤ (k : Int)
        · simp only [f25_s1, if_pos h, if_neg (show ¬ (k : Int) < (l.length : Int) by omega)]
        · simp only [f25_s1, if_neg h]
      have hg : goE l f k = k := by
        have h1 := goE_ge l f k
        have h2 := goE_le l f k hk
        omega
      rw [hg]; exact loopO_done hst
theorem even_eq {l : List Int} (hl : l.length ≤ 1000) : f25 l = some ((evN l : Nat) : Int) := by
  have hm : minI (l.length : Int) 2 = ((min l.length 2 : Nat) : Int) := by unfold minI; split <;> omega
  unfold f25
  rw [hm, even_loop hl l.length (min l.length 2) (by omega) (by omega) (by omega)]
  rfl
theorem dropD {a : List Int} {at_ k : Nat} : (a.drop at_).getD k 0 = a.getD (at_ + k) 0 := by simp [List.getD, List.getElem?_drop]
theorem run_loop {a : List Int} {at_ : Nat} (hl : a.length ≤ 1000) (hat : at_ < a.length) : ∀ f k, 1 ≤ k → k ≤ (a.drop at_).length → (a.drop at_).length - k ≤ f → loopO (f9_s7 a (at_ : Int)) (k : Int) = some ((goE (a.drop at_) f k : Nat) : Int)
  | f, k, h1, hk, hf => by
    have hd : (a.drop at_).length = a.length - at_ := List.length_drop
    have e0 : W ((at_ : Int) + (k : Int)) = ((at_ + k : Nat) : Int) := by rw [W, i64_id (by omega) (by omega)]; omega
    have e1 : W (((at_ + k : Nat) : Int) - 1) = ((at_ + k - 1 : Nat) : Int) := by rw [W, i64_id (by omega) (by omega)]; omega
    have e2 : W ((at_ : Int) + 1) = ((at_ + 1 : Nat) : Int) := by rw [W, i64_id (by omega) (by omega)]; omega
    by_cases hlt : at_ + k < a.length
    · cases f with
      | zero => omega
      | succ f =>
        have hst : f9_s7 a (at_ : Int) (k : Int) = if W ((a.drop at_).getD k 0 - (a.drop at_).getD (k - 1) 0) = W ((a.drop at_).getD 1 0 - (a.drop at_).getD 0 0) then some (.inl ((k + 1 : Nat) : Int)) else some (.inr (k : Int)) := by
          simp only [dropD, Nat.add_zero, show at_ + (k - 1) = at_ + k - 1 by omega]
          simp only [f9_s7, e0, e1, e2, if_pos (show ((at_ + k : Nat) : Int) < (a.length : Int) by omega), ix_D hlt, ix_D (show at_ + k - 1 < a.length by omega), ix_D (show at_ + 1 < a.length by omega), ix_D hat, Option.bind_some, wrapN (show k ≤ 10000000000 by omega)]
        unfold goE
        by_cases hc : W ((a.drop at_).getD k 0 - (a.drop at_).getD (k - 1) 0) = W ((a.drop at_).getD 1 0 - (a.drop at_).getD 0 0)
        · rw [if_pos ⟨by omega, hc⟩, loopO_next (hst.trans (if_pos hc))]
          exact run_loop hl hat f (k + 1) (by omega) (by omega) (by omega)
        · rw [if_neg (fun h => hc h.2)]
          exact loopO_done (hst.trans (if_neg hc))
    · have hst : f9_s7 a (at_ : Int) (k : Int) = some (.inr (k : Int)) := by
        simp only [f9_s7, e0, if_neg (show ¬ ((at_ + k : Nat) : Int) < (a.length : Int) by omega)]
      have hg : goE (a.drop at_) f k = k := by
        have h1 := goE_ge (a.drop at_) f k
        have h2 := goE_le (a.drop at_) f k hk
        omega
      rw [hg]; exact loopO_done hst
theorem run_eq {a : List Int} {at_ : Nat} (hl : a.length ≤ 1000) (hat : at_ < a.length) : loopO (f9_s7 a (at_ : Int)) 1 = some ((evN (a.drop at_) : Nat) : Int) := by
  have hd : (a.drop at_).length = a.length - at_ := List.length_drop
  have h := run_loop hl hat ((a.drop at_).length + 1) 1 (by omega) (by omega) (by omega)
  have e : goE (a.drop at_) ((a.drop at_).length + 1) 1 = evN (a.drop at_) := by
    unfold evN
    by_cases h1 : 1 < (a.drop at_).length
    · rw [show min (a.drop at_).length 2 = 2 by omega]
      show (if 1 < (a.drop at_).length ∧ _ then _ else _) = _
      rw [if_pos ⟨h1, rfl⟩]
    · rw [show min (a.drop at_).length 2 = 1 by omega]
      exact goE_fuel _ _ _ _ (by omega) (by omega)
  rw [e] at h
  exact h
/-! ### pieces -/
def dots : ByteArray := ⟨#[46, 46]⟩
def slash : ByteArray := ⟨#[47]⟩
def comma : ByteArray := ⟨#[44]⟩
def pc (l : List Int) (y : Nat) : ByteArray := if y < 3 then itoaS (l.getD 0 0) else itoaS (l.getD 0 0) ++ dots ++ itoaS (l.getD (y - 1) 0) ++ slash ++ itoaS (W (l.getD 1 0 - l.getD 0 0))
def adv (y : Nat) : Nat := if y < 3 then 1 else y
def pcs : Nat → List Int → List ByteArray
  | 0, _ => []
  | f + 1, l => if l = [] then [] else pc l (evN l) :: pcs f (l.drop (adv (evN l)))
def In64 (a : List Int) : Prop := ∀ v ∈ a, -9223372036854775808 ≤ v ∧ v ≤ 9223372036854775807
theorem in_D {a : List Int} (h : In64 a) {i : Nat} (hi : i < a.length) : -9223372036854775808 ≤ a.getD i 0 ∧ a.getD i 0 ≤ 9223372036854775807 := by
  have : a.getD i 0 = a[i] := by simp [List.getD, hi]
  rw [this]; exact h _ (List.getElem_mem hi)
theorem pc_size {l : List Int} (h : In64 l) {y : Nat} (h1 : 1 ≤ y) (hy : y ≤ l.length) : (pc l y).size ≤ 70 ∧ bl (pc l y) ≠ [] := by
  have z0 := itoa_size (in_D h (i := 0) (by omega)).1 (in_D h (i := 0) (by omega)).2
  unfold pc
  split
  · exact ⟨by omega, z0.2⟩
  · have z1 := itoa_size (in_D h (i := y - 1) (by omega)).1 (in_D h (i := y - 1) (by omega)).2
    have z2 := itoa_size (W_in (l.getD 1 0 - l.getD 0 0)).1 (W_in (l.getD 1 0 - l.getD 0 0)).2
    have d1 : dots.size = 2 := rfl
    have d2 : slash.size = 1 := rfl
    refine ⟨by simp only [ByteArray.size_append]; omega, ?_⟩
    simp only [bl_app]
    intro e
    exact z0.2 (List.append_eq_nil_iff.1 (List.append_eq_nil_iff.1 (List.append_eq_nil_iff.1 (List.append_eq_nil_iff.1 e).1).1).1).1
theorem pcs_size : ∀ (f : Nat) {l : List Int}, In64 l → ∀ x ∈ pcs f l, x.size ≤ 70 ∧ bl x ≠ []
  | 0, l, _, x, hx => by cases hx
  | f + 1, l, h, x, hx => by
    unfold pcs at hx
    split at hx
    · cases hx
    · rename_i hne
      obtain ⟨h1, h2⟩ := evN_pos hne
      rcases List.mem_cons.1 hx with rfl | hx
      · exact pc_size h h1 h2
      · exact pcs_size f (fun v hv => h v (List.mem_of_mem_drop hv)) x hx
theorem pcs_len : ∀ (f : Nat) (l : List Int), (pcs f l).length ≤ f
  | 0, _ => Nat.le_refl _
  | f + 1, l => by
    unfold pcs; split
    · simp
    · have := pcs_len f (l.drop (adv (evN l))); simp; omega
theorem adv_pos {l : List Int} (h : l ≠ []) : 1 ≤ adv (evN l) ∧ adv (evN l) ≤ l.length := by
  obtain ⟨h1, h2⟩ := evN_pos h
  unfold adv; split <;> omega
theorem cut_from {l : List Int} {k : Nat} (h : k ≤ l.length) : cutO? l (k : Int) (l.length : Int) = some (l.drop k) := cutO?_some.2 ⟨⟨by omega, by omega, by omega⟩, by
  simp only [Int.toNat_natCast]
  apply List.take_of_length_le; simp⟩
theorem off1 : ∀ (f : Nat) {l : List Int} (out : List ByteArray), In64 l → l.length ≤ f → l.length ≤ 1000 → out.length + f ≤ 10000 → loopO f8_s1 (l, out) = some (out ++ pcs f l)
  | f, l, out, h, hf, hl, ho => by
    by_cases hne : l = []
    · subst hne
      have : pcs f [] = [] := by cases f <;> simp [pcs]
      rw [this, List.append_nil]
      exact loopO_done (by simp [f8_s1])
    · have hpos := List.length_pos_iff.2 hne
      obtain ⟨e1, e2⟩ := evN_pos hne
      cases f with
      | zero => omega
      | succ f =>
        have n0 := (num_eq (in_D h (i := 0) hpos).1 (in_D h (i := 0) hpos).2).1
        have za := (itoa_size (in_D h (i := 0) hpos).1 (in_D h (i := 0) hpos).2).1
        have hap : ∀ q : ByteArray, appO? out [q] = some (out ++ [q]) := fun q => appO_ok' (by omega) (by simp)
        have hst : f8_s1 (l, out) = some (.inl (l.drop (adv (evN l)), out ++ [pc l (evN l)])) := by
          by_cases c : evN l < 3
          · simp only [f8_s1, if_pos (show (0 : Int) < (l.length : Int) by omega), even_eq hl, Option.bind_some, if_pos (show ((evN l : Nat) : Int) < 3 by omega), get_D hpos, n0, hap]
            have this : cutO? l 1 (l.length : Int) = some (l.drop 1) := cut_from (k := 1) (by omega)
            rw [this]
            simp only [Option.bind_some, adv, pc, if_pos c]
          · have n1 := (num_eq (in_D h (i := evN l - 1) (by omega)).1 (in_D h (i := evN l - 1) (by omega)).2).1
            have zb := (itoa_size (in_D h (i := evN l - 1) (by omega)).1 (in_D h (i := evN l - 1) (by omega)).2).1
            have n2 := (num_eq (W_in (l.getD 1 0 - l.getD 0 0)).1 (W_in (l.getD 1 0 - l.getD 0 0)).2).1
            have zc := (itoa_size (W_in (l.getD 1 0 - l.getD 0 0)).1 (W_in (l.getD 1 0 - l.getD 0 0)).2).1
            have d1 : dots.size = 2 := rfl
            have d2 : slash.size = 1 := rfl
            have ew : IntKind.i64.wrap (((evN l : Nat) : Int) - 1) = ((evN l - 1 : Nat) : Int) := by rw [i64_id (by omega) (by omega)]; omega
            have c1 : catO (itoaS (l.getD 0 0)) ⟨#[46, 46]⟩ = some (itoaS (l.getD 0 0) ++ dots) := cat_ok (by omega) (by decide)
            have c2 : catO (itoaS (l.getD 0 0) ++ dots) (itoaS (l.getD (evN l - 1) 0)) = some (itoaS (l.getD 0 0) ++ dots ++ itoaS (l.getD (evN l - 1) 0)) := cat_ok (by simp only [ByteArray.size_append]; omega) (by omega)
            have c3 : catO (itoaS (l.getD 0 0) ++ dots ++ itoaS (l.getD (evN l - 1) 0)) ⟨#[47]⟩ = some (itoaS (l.getD 0 0) ++ dots ++ itoaS (l.getD (evN l - 1) 0) ++ slash) := cat_ok (by simp only [ByteArray.size_append]; omega) (by decide)
            have c4 : catO (itoaS (l.getD 0 0) ++ dots ++ itoaS (l.getD (evN l - 1) 0) ++ slash) (itoaS (W (l.getD 1 0 - l.getD 0 0))) = some (itoaS (l.getD 0 0) ++ dots ++ itoaS (l.getD (evN l - 1) 0) ++ slash ++ itoaS (W (l.getD 1 0 - l.getD 0 0))) := cat_ok (by simp only [ByteArray.size_append]; omega) (by omega)
            simp only [f8_s1, if_pos (show (0 : Int) < (l.length : Int) by omega), even_eq hl, Option.bind_some, if_neg (show ¬ ((evN l : Nat) : Int) < 3 by omega), get_D hpos, get_D (show 1 < l.length by omega), n0, ew, ix_D (show evN l - 1 < l.length by omega), n1, c1, c2, c3, n2, c4, hap, cut_from e2, adv, pc, if_neg c]
        rw [loopO_next hst, off1 f (out ++ [pc l (evN l)]) (fun v hv => h v (List.mem_of_mem_drop hv)) (by have := adv_pos hne; rw [List.length_drop]; omega) (by rw [List.length_drop]; omega) (by simp; omega)]
        show _ = some (out ++ (if l = [] then [] else _))
        rw [if_neg hne, List.append_assoc]; rfl
theorem offs1_eq {l : List Int} (h : In64 l) (hl : l.length ≤ 100) : f8 l = some (joinS (pcs l.length l) comma) := by
  unfold f8
  rw [off1 l.length [] h (Nat.le_refl _) (by omega) (by simp; omega), Option.bind_some, List.nil_append, words_eq (c := 70) rfl (by have := pcs_len l.length l; omega) (by omega) (fun x hx => (pcs_size _ h x hx).1)]
  rfl
theorem pc_drop {a : List Int} {at_ y : Nat} : pc (a.drop at_) y = if y < 3 then itoaS (a.getD at_ 0) else itoaS (a.getD at_ 0) ++ dots ++ itoaS (a.getD (at_ + (y - 1)) 0) ++ slash ++ itoaS (W (a.getD (at_ + 1) 0 - a.getD at_ 0)) := by
  unfold pc; simp only [dropD, Nat.add_zero]
theorem piece2 {a : List Int} (h : In64 a) (hl : a.length ≤ 100) {at_ : Nat} (hat : at_ < a.length) {s : ByteArray} (hs : s.size ≤ 100000) :
    f9_j3 a (at_ : Int) s = some (.inl (s ++ pc (a.drop at_) (evN (a.drop at_)), ((at_ + adv (evN (a.drop at_)) : Nat) : Int))) := by
  have hd : (a.drop at_).length = a.length - at_ := List.length_drop
  have hne : a.drop at_ ≠ [] := List.length_pos_iff.1 (by omega)
  obtain ⟨e1, e2⟩ := evN_pos hne
  have n0 := (num_eq (in_D h hat).1 (in_D h hat).2).2
  have za := (itoa_size (in_D h hat).1 (in_D h hat).2).1
  have hr := run_eq (a := a) (by omega) hat
  generalize evN (a.drop at_) = y at *
  rw [pc_drop]
  by_cases c : y < 3
  · have c0 : catO s (itoaS (a.getD at_ 0)) = some (s ++ itoaS (a.getD at_ 0)) := cat_ok (by omega) (by omega)
    simp only [f9_j3, hr, Option.bind_some, if_pos (show ((y : Nat) : Int) < 3 by omega), ix_D hat, n0, c0, wrapN (show at_ ≤ 10000000000 by omega), adv, if_pos c]
  · have n1 := (num_eq (in_D h (i := at_ + (y - 1)) (by omega)).1 (in_D h (i := at_ + (y - 1)) (by omega)).2).2
    have zb := (itoa_size (in_D h (i := at_ + (y - 1)) (by omega)).1 (in_D h (i := at_ + (y - 1)) (by omega)).2).1
    have n2 := (num_eq (W_in (a.getD (at_ + 1) 0 - a.getD at_ 0)).1 (W_in (a.getD (at_ + 1) 0 - a.getD at_ 0)).2).2
    have zc := (itoa_size (W_in (a.getD (at_ + 1) 0 - a.getD at_ 0)).1 (W_in (a.getD (at_ + 1) 0 - a.getD at_ 0)).2).1
    have d1 : dots.size = 2 := rfl
    have d2 : slash.size = 1 := rfl
    have w1 : IntKind.i64.wrap ((at_ : Int) + (y : Int)) = ((at_ + y : Nat) : Int) := by rw [i64_id (by omega) (by omega)]; omega
    have w2 : IntKind.i64.wrap (((at_ + y : Nat) : Int) - 1) = ((at_ + (y - 1) : Nat) : Int) := by rw [i64_id (by omega) (by omega)]; omega
    have w3 : IntKind.i64.wrap ((at_ : Int) + 1) = ((at_ + 1 : Nat) : Int) := wrapN (by omega)
    have c0 : catO s (itoaS (a.getD at_ 0)) = some (s ++ itoaS (a.getD at_ 0)) := cat_ok (by omega) (by omega)
    have c1 : catO (s ++ itoaS (a.getD at_ 0)) ⟨#[46, 46]⟩ = some (s ++ itoaS (a.getD at_ 0) ++ dots) := cat_ok (by simp only [ByteArray.size_append]; omega) (by decide)
    have c2 : catO (s ++ itoaS (a.getD at_ 0) ++ dots) (itoaS (a.getD (at_ + (y - 1)) 0)) = some (s ++ itoaS (a.getD at_ 0) ++ dots ++ itoaS (a.getD (at_ + (y - 1)) 0)) := cat_ok (by simp only [ByteArray.size_append]; omega) (by omega)
    have c3 : catO (s ++ itoaS (a.getD at_ 0) ++ dots ++ itoaS (a.getD (at_ + (y - 1)) 0)) ⟨#[47]⟩ = some (s ++ itoaS (a.getD at_ 0) ++ dots ++ itoaS (a.getD (at_ + (y - 1)) 0) ++ slash) := cat_ok (by simp only [ByteArray.size_append]; omega) (by decide)
    have c4 : catO (s ++ itoaS (a.getD at_ 0) ++ dots ++ itoaS (a.getD (at_ + (y - 1)) 0) ++ slash) (itoaS (W (a.getD (at_ + 1) 0 - a.getD at_ 0))) = some (s ++ itoaS (a.getD at_ 0) ++ dots ++ itoaS (a.getD (at_ + (y - 1)) 0) ++ slash ++ itoaS (W (a.getD (at_ + 1) 0 - a.getD at_ 0))) := cat_ok (by simp only [ByteArray.size_append]; omega) (by omega)
    simp only [f9_j3, hr, Option.bind_some, if_neg (show ¬ ((y : Nat) : Int) < 3 by omega), ix_D hat, n0, c0, c1, w1, w2, w3, ix_D (show at_ + (y - 1) < a.length by omega), n1, c2, c3, ix_D (show at_ + 1 < a.length by omega), n2, c4, adv, if_neg c]
    refine congrArg (fun q => some (Sum.inl (q, ((at_ + y : Nat) : Int)))) ?_
    apply bl_inj; simp only [bl_app, List.append_assoc]
theorem off2 {a : List Int} (h : In64 a) (hl : a.length ≤ 100) : ∀ (f at_ : Nat) (out : List ByteArray), at_ ≤ a.length → a.length - at_ ≤ f → out.length + f ≤ 1000 → (∀ x ∈ out, x.size ≤ 70 ∧ bl x ≠ []) →
    loopO (f9_s1 a) (joinS out comma, (at_ : Int)) = some (joinS (out ++ pcs f (a.drop at_)) comma)
  | f, at_, out, hat, hf, ho, hx => by
    by_cases hlt : at_ < a.length
    · have hd : (a.drop at_).length = a.length - at_ := List.length_drop
      have hne : a.drop at_ ≠ [] := List.length_pos_iff.1 (by omega)
      cases f with
      | zero => omega
      | succ f =>
        have hsz := joinS_size (c := 70) (sep := comma) rfl (fun x hq => (hx x hq).1)
        have h2 : out.length * (70 + 1) ≤ 1000 * 71 := Nat.mul_le_mul (by omega) (by omega)
        have c1 : comma.size = 1 := rfl
        obtain ⟨a1, a2⟩ := adv_pos hne
        obtain ⟨e1, e2⟩ := evN_pos hne
        have hpz := pc_size (l := a.drop at_) (fun v hv => h v (List.mem_of_mem_drop hv)) e1 e2
        have hst : f9_s1 a (joinS out comma, (at_ : Int)) = some (.inl (joinS (out ++ [pc (a.drop at_) (evN (a.drop at_))]) comma, ((at_ + adv (evN (a.drop at_)) : Nat) : Int))) := by
          by_cases hnil : out = []
          · subst hnil
            have e : joinS [] comma = ⟨#[]⟩ := rfl
            simp only [f9_s1, if_pos (show (at_ : Int) < (a.length : Int) by omega), e, if_true, piece2 h hl hlt (s := ⟨#[]⟩) (by decide), List.nil_append, joinS_one]
            congr 3
          · have hnz : ¬ joinS out comma = ⟨#[]⟩ := fun e => by
              have e' := (empty_iff _).1 e
              rw [bl_join] at e'
              cases out with
              | nil => exact hnil rfl
              | cons x r =>
                rw [List.map_cons, join_cons] at e'
                exact (hx x (by simp)).2 (List.append_eq_nil_iff.1 e').1
            have hcat : catO (joinS out comma) ⟨#[44]⟩ = some (joinS out comma ++ comma) := cat_ok (by omega) (by decide)
            simp only [f9_s1, if_pos (show (at_ : Int) < (a.length : Int) by omega), if_neg hnz, hcat, Option.bind_some, piece2 h hl hlt (s := joinS out comma ++ comma) (by rw [ByteArray.size_append]; omega), joinS_snoc hnil]
        rw [loopO_next hst, off2 h hl f (at_ + adv (evN (a.drop at_))) _ (by omega) (by omega) (by simp; omega) (fun x hq => by
          rcases List.mem_append.1 hq with hq | hq
          · exact hx x hq
          · simp only [List.mem_singleton] at hq; rw [hq]; exact hpz)]
        show _ = some (joinS (out ++ (if a.drop at_ = [] then [] else _)) comma)
        rw [if_neg hne, List.append_assoc, List.drop_drop]; rfl
    · have hdn : a.drop at_ = [] := List.drop_of_length_le (by omega)
      have : pcs f (a.drop at_) = [] := by rw [hdn]; cases f <;> simp [pcs]
      rw [this, List.append_nil]
      exact loopO_done (by simp only [f9_s1, if_neg (show ¬ (at_ : Int) < (a.length : Int) by omega)])
theorem offs2_eq {l : List Int} (h : In64 l) (hl : l.length ≤ 100) : f9 l = some (joinS (pcs l.length l) comma) := by
  unfold f9
  have := off2 h hl l.length 0 [] (by omega) (by omega) (by simp; omega) (fun x hx => by cases hx)
  rw [show (⟨#[]⟩ : ByteArray) = joinS [] comma from rfl]
  have this : loopO (f9_s1 l) (joinS [] comma, 0) = some (joinS ([] ++ pcs l.length (l.drop 0)) comma) := this
  rw [this]
  simp
end Au
end Go.Proofs.Yd
