import Derived.Test.YtlonihmeikmpiaaGuW1
import Derived.Test.YtlonihmeikmpiaaGuW2
import Derived.KernelRfl
set_option linter.all false
set_option linter.unusedVariables false
set_option linter.unusedSimpArgs false
set_option linter.all false
set_option maxRecDepth 8000
namespace Go.Proofs.Y1
open Go.Gm
namespace Au
theorem i64_id {n : Int} (h0 : -9223372036854775808 ≤ n) (h1 : n < 9223372036854775808) : IntKind.i64.wrap n = n := by
  simp only [IntKind.wrap, IntKind.bits, IntKind.signed, Bool.true_and]
  split
  · rename_i h; simp only [ge_iff_le, decide_eq_true_eq] at h; omega
  · rename_i h; simp only [ge_iff_le, decide_eq_true_eq] at h; omega
theorem appO_ok' {α : Type} {l r : List α} (h : l.length ≤ 10000000000) (h1 : r.length ≤ 10000000000) : appO? l r = some (l ++ r) := appO?_some.2 ⟨by omega, rfl⟩
theorem wrapN {i : Nat} (h : i ≤ 10000000000) : IntKind.i64.wrap ((i : Int) + 1) = ((i + 1 : Nat) : Int) := by rw [i64_id (by omega) (by omega)]; omega
theorem ixN {α : Type} {l : List α} {i : Nat} (h : i < l.length) : ix l (i : Int) = some l[i] := ix_some.2 ⟨by omega, by simp [List.getElem?_eq_getElem h]⟩
/-- a loop that holds two lists against each other -/
theorem cmp_loop {α κ : Type} {a b : List α} (k : α → κ) {step : Int → Option (Int ⊕ (Bool ⊕ Unit))} (hl : a.length = b.length) (hn : a.length ≤ 1000000000)
    (h : ∀ (i : Nat) (h1 : i < a.length) (h2 : i < b.length), (k a[i] = k b[i] → step i = some (.inl (IntKind.i64.wrap ((i : Int) + 1)))) ∧ (k a[i] ≠ k b[i] → step i = some (.inr (.inl false))))
    (he : step (a.length : Int) = some (.inr (.inr ()))) :
    ∃ r, loopO step 0 = some r ∧ ((a.map k = b.map k ∧ r = .inr ()) ∨ (a.map k ≠ b.map k ∧ r = .inl false)) := by
  refine loopO_of (fun n s => ∃ i : Nat, s = (i : Int) ∧ i ≤ a.length ∧ n = a.length - i ∧ (a.take i).map k = (b.take i).map k) ?_ (k := a.length) ⟨0, rfl, by omega, by omega, by simp⟩
  rintro n _ ⟨i, rfl, hi, hn', ht⟩
  by_cases hlt : i < a.length
  · obtain ⟨h1, h2⟩ := h i hlt (by omega)
    by_cases hk : k a[i] = k (b[i]'(by omega))
    · refine .inl ⟨((i + 1 : Nat) : Int), n - 1, ?_, by omega, i + 1, rfl, by omega, by omega, ?_⟩
      · rw [h1 hk, wrapN (by omega)]
      · rw [List.take_add_one, List.take_add_one, List.getElem?_eq_getElem hlt, List.getElem?_eq_getElem (by omega), List.map_append, List.map_append, ht]
        simp [hk]
    · refine .inr ⟨.inl false, h2 hk, .inr ⟨fun he' => hk ?_, rfl⟩⟩
      have e1 : (a.map k)[i]? = some (k a[i]) := by rw [List.getElem?_map, List.getElem?_eq_getElem hlt]; rfl
      have e2 : (b.map k)[i]? = some (k (b[i]'(by omega))) := by rw [List.getElem?_map, List.getElem?_eq_getElem (by omega)]; rfl
      rw [he', e2] at e1
      exact (Option.some.inj e1).symm
  · have : i = a.length := by omega
    subst this
    refine .inr ⟨.inr (), he, .inl ⟨?_, rfl⟩⟩
    rw [List.take_length, hl, List.take_length] at ht
    exact ht
def mk3 (m : Msg) : Int × Int × ByteArray := (m.From, m.To, strOfNums m.Data)
open Classical in
theorem same_eq {a b : List Msg} (hl : a.length = b.length) (hn : a.length ≤ 1000000000) : f36 a b = some (decide (a.map mk3 = b.map mk3)) := by
  obtain ⟨r, hr, h⟩ := cmp_loop (step := f36_s1 a b) mk3 hl hn (fun i h1 h2 => by
    have hx := ixN h1
    have hy := ixN h2
    have c : ((i : Nat) : Int) < (a.length : Int) := by omega
    simp only [f36_s1, if_pos c, hx, hy, Option.bind_some, mk3, Prod.mk.injEq]
    by_cases c1 : a[i].From = b[i].From
    · by_cases c2 : a[i].To = b[i].To
      · by_cases c3 : strOfNums a[i].Data = strOfNums b[i].Data
        · simp [c1, c2, c3]
        · simp [c1, c2, c3]
      · simp [c1, c2]
    · simp [c1]) (by simp [f36_s1])
  unfold f36
  rw [if_pos (by omega), hr]
  rcases h with ⟨h, rfl⟩ | ⟨h, rfl⟩
  · simp [h]
  · simp [h]
theorem same_refl {a : List Msg} (hn : a.length ≤ 1000000000) : f36 a a = some true := by rw [same_eq rfl hn]; simp
theorem live7 : f32 = some true := by kernel_rfl
theorem much7 {l : List Act} (hl : l.length ≤ 1048576) (hb : ∀ a ∈ l, a.B.length ≤ 1048576) : ∃ b, f31 l = some b ∧ (b = false → l.length ≤ 150) := by
  have key : ∃ r, loopO (f31_s1 l) (0, 0) = some r ∧ (r = .inl true ∨ r = .inr ()) := by
    refine loopO_of (fun n s => ∃ (m : Int) (i : Nat), s = (m, (i : Int)) ∧ i ≤ l.length ∧ n = l.length - i ∧ 0 ≤ m ∧ m ≤ 5000) ?_ (k := l.length) ⟨0, 0, rfl, by omega, by omega, by omega, by omega⟩
    rintro n _ ⟨m, i, rfl, hi, hn, h0, h1⟩
    by_cases hlt : i < l.length
    · by_cases h150 : i < 150
      · have hx := ixN hlt
        have hB := hb l[i] (List.getElem_mem hlt)
        have hw : IntKind.i64.wrap (m + (l[i].B.length : Int)) = m + (l[i].B.length : Int) := i64_id (by omega) (by omega)
        by_cases h5 : 5000 < m + (l[i].B.length : Int)
        · refine .inr ⟨.inl true, ?_, .inl rfl⟩
          simp only [f31_s1, if_pos (show (i : Int) < l.length by omega), if_pos (show (i : Int) < 150 by omega), hx, Option.bind_some, hw, if_pos h5]
        · refine .inl ⟨(m + (l[i].B.length : Int), ((i + 1 : Nat) : Int)), n - 1, ?_, by omega, _, i + 1, rfl, by omega, by omega, by omega, by omega⟩
          simp only [f31_s1, if_pos (show (i : Int) < l.length by omega), if_pos (show (i : Int) < 150 by omega), hx, Option.bind_some, hw, if_neg h5, wrapN (show i ≤ 10000000000 by omega)]
      · refine .inr ⟨.inr (), ?_, .inr rfl⟩
        simp only [f31_s1, if_pos (show (i : Int) < l.length by omega), if_neg (show ¬ (i : Int) < 150 by omega)]
    · refine .inr ⟨.inr (), ?_, .inr rfl⟩
      simp only [f31_s1, if_neg (show ¬ (i : Int) < l.length by omega)]
  obtain ⟨r, hr, h⟩ := key
  rcases h with rfl | rfl
  · exact ⟨true, by simp [f31, hr], fun h => by cases h⟩
  · refine ⟨decide (150 < (l.length : Int)), by simp [f31, hr], fun h => ?_⟩
    simp only [decide_eq_false_iff_not] at h
    omega
end Au
end Go.Proofs.Y1
