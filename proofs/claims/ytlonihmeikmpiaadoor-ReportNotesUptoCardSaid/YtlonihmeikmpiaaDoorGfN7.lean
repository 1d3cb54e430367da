import Derived.Test.YtlonihmeikmpiaaDoorGfN6
import Derived.Test.YtlonihmeikmpiaaDoorGfN3
set_option linter.all false
set_option linter.unusedVariables false
set_option linter.unusedSimpArgs false
set_option linter.all false
set_option maxRecDepth 8000
namespace Go.Proofs.Yd
open Go.Gm Go.Lib
namespace Au
abbrev I64 (n : Int) : Prop := -9223372036854775808 ≤ n ∧ n ≤ 9223372036854775807
def nums (l : List Int) : ByteArray := joinS (l.map itoaS) comma
theorem ita {n : Int} (h : I64 n) : (itoaS n).size ≤ 21 := (itoa_size h.1 h.2).1
theorem nums_size {l : List Int} (hl : l.length ≤ 1000) (h : ∀ x ∈ l, I64 x) : (nums l).size ≤ 22000 := by
  have := joinS_size (c := 21) (l := l.map itoaS) (sep := comma) rfl (fun x hx => by
    obtain ⟨n, hn, rfl⟩ := List.mem_map.1 hx
    exact ita (h n hn))
  rw [List.length_map] at this
  unfold nums; omega
theorem numbers_eq {l : List Int} (hl : l.length ≤ 1000) (h : ∀ x ∈ l, I64 x) : f29 l = some (nums l) := by
  have k := loopN_done (step := f29_s1 l) (fun i => ((l.take i).map itoaS, (i : Int))) l.length (r := l.map itoaS) (fun i hi => by
    have hx := h _ (List.getElem_mem hi)
    simp only [f29_s1, if_pos (show (i : Int) < l.length by omega), ixN hi, Option.bind_some, (num_eq hx.1 hx.2).1, wrapN (show i ≤ 10000000000 by omega)]
    rw [appO_ok' (by simp; omega) (by simp), List.take_succ_eq_append_getElem hi, List.map_append]
    rfl) (by simp [f29_s1])
  simp only [List.take_zero, List.map_nil] at k
  rw [f29, show (0 : Int) = ((0 : Nat) : Int) from rfl, k, Option.bind_some, show (⟨#[44]⟩ : ByteArray) = comma from rfl, words_eq (c := 21) rfl (by simp; omega) (by omega) (fun x hx => by
    obtain ⟨n, hn, rfl⟩ := List.mem_map.1 hx
    exact ita (h n hn))]
  rfl
def atT (l : List Int) : ByteArray := if l = [] then ⟨#[]⟩ else (⟨#[32, 97, 116, 32]⟩ : ByteArray) ++ nums l
theorem atT_size {l : List Int} (hl : l.length ≤ 1000) (h : ∀ x ∈ l, I64 x) : (atT l).size ≤ 22004 := by
  unfold atT
  split
  · show 0 ≤ _; omega
  · have := nums_size hl h
    have s : (⟨#[32, 97, 116, 32]⟩ : ByteArray).size = 4 := rfl
    rw [ByteArray.size_append]; omega
theorem at_loop {n : Note} {e : Int} (hl : n.Where.length ≤ 1000) (h : ∀ x ∈ n.Where, I64 x) {s : ByteArray} (hs : s.size ≤ 10000) : loopO (f15_s2 (n, e)) (s, 0) = some (s ++ atT n.Where) := by
  have k := loopN_done (step := f15_s2 (n, e)) (fun i => (s ++ atT (n.Where.take i), (i : Int))) n.Where.length (r := s ++ atT n.Where) (fun i hi => by
    have hx := h _ (List.getElem_mem hi)
    have h21 := ita hx
    have hz := atT_size (l := n.Where.take i) (by simp; omega) (fun x hx => h x (List.mem_of_mem_take hx))
    have s4 : (⟨#[32, 97, 116, 32]⟩ : ByteArray).size = 4 := rfl
    have s1 : (⟨#[44]⟩ : ByteArray).size = 1 := rfl
    simp only [f15_s2, if_pos (show (i : Int) < n.Where.length by omega)]
    by_cases h0 : i = 0
    · subst h0
      rw [if_pos (by rfl), cat_ok (by rw [ByteArray.size_append]; omega) (by omega), Option.bind_some, ixN hi, Option.bind_some, (num_eq hx.1 hx.2).2, Option.bind_some, cat_ok (by rw [ByteArray.size_append, ByteArray.size_append]; omega) (by omega), Option.bind_some, wrapN (show 0 ≤ 10000000000 by omega)]
      refine congrArg some (congrArg Sum.inl (Prod.ext (bl_inj ?_) rfl))
      obtain ⟨a, t, hn⟩ : ∃ a t, n.Where = a :: t := by
        cases hw : n.Where with
        | nil => rw [hw] at hi; simp at hi
        | cons a t => exact ⟨a, t, rfl⟩
      simp only [hn, List.take_succ_cons, List.take_zero, List.getElem_cons_zero, atT, nums, List.map_cons, List.map_nil, joinS_one, bl_app, List.append_assoc]
      rfl
    · rw [if_neg (by omega), cat_ok (by rw [ByteArray.size_append]; omega) (by omega), Option.bind_some, ixN hi, Option.bind_some, (num_eq hx.1 hx.2).2, Option.bind_some, cat_ok (by rw [ByteArray.size_append, ByteArray.size_append]; omega) (by omega), Option.bind_some, wrapN (show i ≤ 10000000000 by omega)]
      refine congrArg some (congrArg Sum.inl (Prod.ext (bl_inj ?_) rfl))
      have ne : n.Where.take i ≠ [] := by
        intro e
        have := congrArg List.length e
        rw [List.length_take, List.length_nil] at this; omega
      have ne2 : n.Where.take (i + 1) ≠ [] := by
        intro e
        have := congrArg List.length e
        rw [List.length_take, List.length_nil] at this; omega
      unfold atT nums
      rw [if_neg ne, if_neg ne2, List.take_succ_eq_append_getElem hi, List.map_append, List.map_cons, List.map_nil, joinS_snoc (by simpa using ne)]
      simp only [bl_app, List.append_assoc]
      rfl) (by simp [f15_s2])
  simp only [List.take_zero] at k
  rw [show s ++ atT [] = s from bl_inj (by simp [bl_app, atT]; rfl)] at k
  exact k
theorem name_eq {k : Int} (h : 0 ≤ k ∧ k ≤ 10) : ∃ nm, f28 k = some nm ∧ (f31.bind fun x => ix x k) = some nm ∧ nm.size ≤ 6 := by
  have hh : (List.range 11).all (fun i => match f28 (i : Int), (f31.bind fun x => ix x (i : Int)) with
    | some a, some b => decide (a = b) && decide (a.size ≤ 6)
    | _, _ => false) = true := by kernel_rfl
  have h2 := List.all_eq_true.1 hh k.toNat (by simp; omega)
  rw [show ((k.toNat : Nat) : Int) = k by omega] at h2
  split at h2
  · rename_i a b ha hb
    simp only [Bool.and_eq_true, decide_eq_true_eq] at h2
    obtain ⟨rfl, h3⟩ := h2
    exact ⟨a, ha, hb, h3⟩
  · cases h2
end Au
end Go.Proofs.Yd
