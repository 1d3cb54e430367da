import Derived.Test.YtlonihmeikmpiaaGpS4D
import Derived.Test.YtlonihmeikmpiaaGpS3G
import Derived.Test.YtlonihmeikmpiaaGpW8
import Derived.Test.YtlonihmeikmpiaaGpDBf7
set_option linter.all false
set_option linter.unusedVariables false
set_option linter.unusedSimpArgs false
set_option linter.all false
set_option maxRecDepth 8000
namespace Go.Proofs.Y1
open Go.Gm
namespace Au
theorem f112_eq (a b : List Int) : f112 a b = f69 a b := rfl
theorem step_same (a b : List Step) (i : Int) : f93_94_s1 a b i = f28_s1 a b i := by
  unfold f93_94_s1 f28_s1
  by_cases hi : i < (a.length : Int)
  · rw [if_pos hi, if_pos hi]
    cases ix a i with
    | none => rfl
    | some x =>
      cases ix b i with
      | none => rfl
      | some y =>
        simp only [Option.bind_some, f94, f112_eq]
        by_cases h1 : x.Do = y.Do
        · by_cases h2 : x.Node = y.Node
          · by_cases h3 : x.I = y.I
            · by_cases h4 : x.J = y.J
              · simp only [if_pos h1, if_pos h2, if_pos h3, if_pos h4]
                cases f69 x.Keep y.Keep with
                | none => rfl
                | some v => rfl
              · simp only [if_pos h1, if_pos h2, if_pos h3, if_neg h4]; rfl
            · simp only [if_pos h1, if_pos h2, if_neg h3]; rfl
          · simp only [if_pos h1, if_neg h2]; rfl
        · simp only [if_neg h1]; rfl
  · rw [if_neg hi, if_neg hi]
theorem steps_same (a b : List Step) : f93_94 a b = f28 a b := by
  unfold f93_94 f28
  rw [show f93_94_s1 a b = f28_s1 a b from funext (step_same a b)]
  rfl
theorem run_same (r s : Run) : f47 r s = f26 r s := by
  unfold f47 f26
  simp only [f92, Option.bind_some, decide_eq_true_eq, steps_same]
theorem f69_tot {a b : List Int} (ha : a.length ≤ 1000000) : ∃ v, f69 a b = some v := by
  unfold f69
  by_cases hl : (a.length : Int) = (b.length : Int)
  · rw [if_pos hl]
    have key : ∃ r, loopO (f69_s1 a b) 0 = some r ∧ True := by
      refine loopO_of (fun n (i : Int) => 0 ≤ i ∧ i ≤ a.length ∧ (n : Int) = a.length - i) ?_ (k := a.length) (s := 0) ⟨by omega, by omega, by omega⟩
      rintro n i ⟨h1, h2, h3⟩
      by_cases hi : i < (a.length : Int)
      · have hx : ix a i = some (a[i.toNat]'(by omega)) := ix_some.2 ⟨h1, List.getElem?_eq_getElem (by omega)⟩
        have hy : ix b i = some (b[i.toNat]'(by omega)) := ix_some.2 ⟨h1, List.getElem?_eq_getElem (by omega)⟩
        by_cases he : a[i.toNat]'(by omega) = b[i.toNat]'(by omega)
        · exact .inl ⟨i + 1, n - 1, by simp only [f69_s1, if_pos hi, hx, hy, Option.bind_some, if_pos he, i64_id (show -9223372036854775808 ≤ i + 1 by omega) (by omega)], by omega, by omega, by omega, by omega⟩
        · exact .inr ⟨.inl false, by simp only [f69_s1, if_pos hi, hx, hy, Option.bind_some, if_neg he], trivial⟩
      · exact .inr ⟨.inr (), by simp only [f69_s1, if_neg hi], trivial⟩
    obtain ⟨r, h, _⟩ := key
    rw [h]
    cases r with
    | inl v => exact ⟨v, rfl⟩
    | inr u => exact ⟨true, rfl⟩
  · rw [if_neg hl]; exact ⟨false, rfl⟩
theorem f28_tot {a b : List Step} (ha : a.length ≤ 1000000) (hk : ∀ x ∈ a, x.Keep.length ≤ 1000000) : ∃ v, f28 a b = some v := by
  unfold f28
  by_cases hl : (a.length : Int) = (b.length : Int)
  · rw [if_pos hl]
    have key : ∃ r, loopO (f28_s1 a b) 0 = some r ∧ True := by
      refine loopO_of (fun n (i : Int) => 0 ≤ i ∧ i ≤ a.length ∧ (n : Int) = a.length - i) ?_ (k := a.length) (s := 0) ⟨by omega, by omega, by omega⟩
      rintro n i ⟨h1, h2, h3⟩
      by_cases hi : i < (a.length : Int)
      · have hx : ix a i = some (a[i.toNat]'(by omega)) := ix_some.2 ⟨h1, List.getElem?_eq_getElem (by omega)⟩
        have hy : ix b i = some (b[i.toNat]'(by omega)) := ix_some.2 ⟨h1, List.getElem?_eq_getElem (by omega)⟩
        have hkx := hk _ (List.getElem_mem (show i.toNat < a.length by omega))
        generalize a[i.toNat]'(by omega) = x at hx hkx
        generalize b[i.toNat]'(by omega) = y at hy
        by_cases q1 : x.Do = y.Do
        · by_cases q2 : x.Node = y.Node
          · by_cases q3 : x.I = y.I
            · by_cases q4 : x.J = y.J
              · obtain ⟨v, hv⟩ := f69_tot (b := y.Keep) hkx
                cases v with
                | true => exact .inl ⟨i + 1, n - 1, by simp only [f28_s1, if_pos hi, hx, hy, Option.bind_some, if_pos q1, if_pos q2, if_pos q3, if_pos q4, hv, if_true, i64_id (show -9223372036854775808 ≤ i + 1 by omega) (by omega)], by omega, by omega, by omega, by omega⟩
                | false => exact .inr ⟨.inl false, by simp only [f28_s1, if_pos hi, hx, hy, Option.bind_some, if_pos q1, if_pos q2, if_pos q3, if_pos q4, hv]; rfl, trivial⟩
              · exact .inr ⟨.inl false, by simp only [f28_s1, if_pos hi, hx, hy, Option.bind_some, if_pos q1, if_pos q2, if_pos q3, if_neg q4], trivial⟩
            · exact .inr ⟨.inl false, by simp only [f28_s1, if_pos hi, hx, hy, Option.bind_some, if_pos q1, if_pos q2, if_neg q3], trivial⟩
          · exact .inr ⟨.inl false, by simp only [f28_s1, if_pos hi, hx, hy, Option.bind_some, if_pos q1, if_neg q2], trivial⟩
        · exact .inr ⟨.inl false, by simp only [f28_s1, if_pos hi, hx, hy, Option.bind_some, if_neg q1], trivial⟩
      · exact .inr ⟨.inr (), by simp only [f28_s1, if_neg hi], trivial⟩
    obtain ⟨r, h, _⟩ := key
    rw [h]
    cases r with
    | inl v => exact ⟨v, rfl⟩
    | inr u => exact ⟨true, rfl⟩
  · rw [if_neg hl]; exact ⟨false, rfl⟩
theorem f26_tot {r s : Run} (h : OkRun r) : ∃ v, f26 r s = some v := by
  unfold f26
  obtain ⟨v, hv⟩ := f28_tot (a := r.Steps) (b := s.Steps) (by have := h.sl; omega) (fun x hx => by have := (h.s x hx).2.1; omega)
  rw [hv]
  split
  · split
    · split
      · exact ⟨v, rfl⟩
      · exact ⟨_, rfl⟩
    · exact ⟨_, rfl⟩
  · exact ⟨_, rfl⟩
/-- what the arguments' types say -/
structure TyRun (r : Run) : Prop where
  t : Byt r.Text
  i : Byt r.Input
  c : ∀ n ∈ cfgL r.Cfg, I64 n
  s : ∀ x ∈ r.Steps, (∀ n ∈ [x.Do, x.Node, x.I, x.J], I64 n) ∧ ∀ n ∈ x.Keep, I64 n
theorem long_ok {r : Run} (h : TyRun r) : f44 r = some true ∨ (f44 r = some false ∧ OkRun r) := by
  unfold f44
  by_cases h1 : 1000 < (r.Text.length : Int)
  · exact .inl (by rw [if_pos h1])
  by_cases h2 : 1000 < (r.Input.length : Int)
  · exact .inl (by rw [if_neg h1, if_pos h2])
  by_cases h3 : 300 < (r.Steps.length : Int)
  · exact .inl (by rw [if_neg h1, if_neg h2, if_pos h3])
  simp only [if_neg h1, if_neg h2, if_neg h3]
  have key : ∃ q, loopO (f44_s1 r) 0 = some q ∧ (q = .inl true ∨ (q = .inr () ∧ ∀ i, i < r.Steps.length → ∀ x, r.Steps[i]? = some x → x.Keep.length ≤ 30)) := by
    refine loopO_of (fun n s => ∃ i : Nat, s = (i : Int) ∧ i ≤ r.Steps.length ∧ n = r.Steps.length - i ∧ ∀ j, j < i → ∀ x, r.Steps[j]? = some x → x.Keep.length ≤ 30) ?_ (k := r.Steps.length) ⟨0, rfl, by omega, by omega, fun j hj => by omega⟩
    rintro n _ ⟨i, rfl, hi, hn, hk⟩
    by_cases hlt : i < r.Steps.length
    · have hx : ix r.Steps (i : Int) = some r.Steps[i] := ix_some.2 ⟨by omega, by simp [List.getElem?_eq_getElem hlt]⟩
      by_cases hb : 30 < (r.Steps[i].Keep.length : Int)
      · exact .inr ⟨.inl true, by simp only [f44_s1, if_pos (show (i : Int) < r.Steps.length by omega), hx, Option.bind_some, if_pos hb], .inl rfl⟩
      · refine .inl ⟨((i + 1 : Nat) : Int), n - 1, ?_, by omega, i + 1, rfl, by omega, by omega, fun j hj x hx' => ?_⟩
        · simp only [f44_s1, if_pos (show (i : Int) < r.Steps.length by omega), hx, Option.bind_some, if_neg hb, i64_id (show -9223372036854775808 ≤ (i : Int) + 1 by omega) (by omega)]; rfl
        · by_cases hji : j = i
          · subst hji
            rw [List.getElem?_eq_getElem hlt, Option.some.injEq] at hx'
            subst hx'; omega
          · exact hk j (by omega) x hx'
    · have : i = r.Steps.length := by omega
      subst this
      exact .inr ⟨.inr (), by simp only [f44_s1, if_neg (show ¬ ((r.Steps.length : Nat) : Int) < r.Steps.length by omega)], .inr ⟨rfl, hk⟩⟩
  obtain ⟨q, hq, rfl | ⟨rfl, hk⟩⟩ := key
  · exact .inl (by rw [hq]; rfl)
  · refine .inr ⟨by rw [hq]; rfl, h.t, by omega, h.i, by omega, h.c, by omega, fun x hx => ?_⟩
    obtain ⟨i, hi, rfl⟩ := List.mem_iff_getElem.1 hx
    obtain ⟨g1, g2⟩ := h.s _ hx
    exact ⟨g1, hk i hi _ (List.getElem?_eq_getElem hi), g2⟩
theorem law7 {r s : Run} (hr : TyRun r) (hs : TyRun s) : f7 r s = some true := by
  have h27 : f27 0 = some 0 := by
    first | rfl | (unfold f27; decide)
  rcases long_ok hr with h | ⟨h, ho⟩
  · simp only [f7, h, Option.bind_some, if_true, live_ok]
  · rcases long_ok hs with g | ⟨g, go⟩
    · simp only [f7, h, g, Option.bind_some, if_true, live_ok, Bool.false_eq_true, if_false]
    · obtain ⟨v, hv⟩ := f26_tot (s := s) ho
      have hz : IntKind.i64.wrap (0 + 0) = 0 := by decide
      simp only [f7, h, g, Option.bind_some, if_true, live_ok, Bool.false_eq_true, if_false, put_run ho, get_run' ho, h27, hz, ref_run ho, f26_refl (good_run ho), run_same, hv]
end Au
end Go.Proofs.Y1
