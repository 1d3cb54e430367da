import Derived.Test.YtlonihmeikmpiaaGpS3E
import Derived.Test.YtlonihmeikmpiaaGpDBf29
import Derived.Test.YtlonihmeikmpiaaGpDBf30
set_option linter.all false
set_option linter.unusedVariables false
set_option linter.unusedSimpArgs false
set_option linter.all false
set_option maxRecDepth 8000
namespace Go.Proofs.Y1
open Go.Gm
namespace Au
theorem next (l : List Int) (hl : l.length ≤ 1000000) : ∃ v t, f79 ⟨l⟩ = some (v, ⟨t⟩) ∧ f80 l = some (v, t) ∧ t.length ≤ l.length ∧ (l ≠ [] → t.length < l.length) := by
  cases l with
  | nil => exact ⟨0, [], by simp [f79], by simp [f80], by simp, by simp⟩
  | cons x t =>
    have hne : ¬ (((x :: t).length : Nat) : Int) = 0 := by simp; omega
    have hc : cutO? (x :: t) 1 (((x :: t).length : Nat) : Int) = some t := cutO?_some.2 ⟨⟨by omega, by simp; omega, by omega⟩, by
      simp⟩
    refine ⟨IntKind.i64.wrap x, t, ?_, ?_, by simp, by simp⟩
    · simp only [f79, if_neg hne, List.getElem?_cons_zero, Option.bind_some, hc]
    · simp only [f80, if_neg hne, List.getElem?_cons_zero, Option.bind_some, hc]
theorem s67 (x : Int × (List Int)) : f30_s7 x = f30_s6 x := by
  funext s
  rfl
theorem keeps {l t0 : List Int} {v : Int} (hl : l.length ≤ 1000000) : ∃ t k, loopO (f29_s4 (v, ⟨t0⟩)) (l, [], 0) = some (t, k) ∧ loopO (f30_s6 (v, t0)) (l, [], 0) = some (t, k) ∧ t.length ≤ l.length ∧ k.length ≤ 70000 := by
  have hm : v.tmod 4 < 4 := Int.tmod_lt_of_pos v (by omega)
  have key : ∃ r r', loopO (f29_s4 (v, ⟨t0⟩)) (l, [], 0) = some r ∧ loopO (f30_s6 (v, t0)) (l, [], 0) = some r' ∧ (r = r' ∧ r.1.length ≤ l.length ∧ r.2.length ≤ 70000) := by
    refine loopO_two (fun n s u => s = u ∧ s.1.length ≤ l.length ∧ (s.2.1.length : Int) ≤ s.2.2 ∧ 0 ≤ s.2.2 ∧ s.2.2 ≤ 4 ∧ (n : Int) = 4 - s.2.2) ?_ (k := 4) ⟨rfl, by simp, by simp, by simp, by simp, by simp⟩
    rintro n ⟨s, acc, i⟩ _ ⟨rfl, h1, h2, h3, h4, h5⟩
    simp only at h1 h2 h3 h4 h5
    by_cases hi : i < v.tmod 4
    · obtain ⟨x, t, a1, a2, a3, _⟩ := next s (by omega)
      refine .inl ⟨(t, acc ++ [x], i + 1), (t, acc ++ [x], i + 1), n - 1, ?_, ?_, by omega, rfl, by simp only; omega, by simp; omega, by simp only; omega, by simp only; omega, by simp only; omega⟩
      · simp only [f29_s4, if_pos hi, a1, Option.bind_some, appO_one (show acc.length ≤ 1000000 by omega), i64_id (show -9223372036854775808 ≤ i + 1 by omega) (by omega)]
      · simp only [f30_s6, if_pos hi, a2, Option.bind_some, appO_one (show acc.length ≤ 1000000 by omega), i64_id (show -9223372036854775808 ≤ i + 1 by omega) (by omega)]
    · refine .inr ⟨(s, acc), (s, acc), loopO_done ?_, loopO_done ?_, rfl, h1, by simp only; omega⟩
      · simp only [f29_s4, if_neg hi]
      · simp only [f30_s6, if_neg hi]
  obtain ⟨⟨t, k⟩, _, h1, h2, rfl, h3, h4⟩ := key
  exact ⟨t, k, h1, h2, h3, h4⟩
def Out (acc : List Step) (t : List Int) (out : ((List Int) × (List Step)) ⊕ (List Step)) : Prop := ∃ s' st, out = .inl (s', acc ++ [st]) ∧ s'.length ≤ t.length ∧ st.Keep.length ≤ 70000
theorem j8_eq {acc : List Step} (ha : acc.length ≤ 1000000) {k v : Int} (hk : v.tmod 9 = k) {t0 : List Int} {t : List Int} {N I : Int} (hl : t.length ≤ 1000000) : ∃ out, f29_j8 acc (v, ⟨t0⟩) N (t, I) = some out ∧ f30_j8 acc (v, t0) N (t, I) = some out ∧ Out acc t out := by
  by_cases k5 : k = 5
  · obtain ⟨x, u, a1, a2, a3, _⟩ := next t hl
    refine ⟨_, ?_, ?_, ⟨u, ⟨k, N, I, x, []⟩, rfl, a3, by simp⟩⟩
    · simp only [f29_j8, hk, if_pos k5, a1, Option.bind_some, appO_one ha]
    · simp only [f30_j8, f30_j9, hk, if_pos k5, a2, Option.bind_some, appO_one ha, if_neg (show ¬ k = 6 by omega), if_neg (show ¬ k = 8 by omega)]
  by_cases k6 : k = 6
  · obtain ⟨x, u, a1, a2, a3, _⟩ := next t hl
    obtain ⟨w, q, b1, b2, b3, b4⟩ := keeps (l := u) (t0 := u) (v := x) (by omega)
    refine ⟨_, ?_, ?_, ⟨w, ⟨k, N, I, 0, q⟩, rfl, by omega, b4⟩⟩
    · simp only [f29_j8, f29_j9, hk, if_neg k5, if_pos k6, if_true, a1, Option.bind_some, b1, appO_one ha]
    · simp only [f30_j8, f30_j9, hk, if_neg k5, if_pos k6, a2, Option.bind_some, b2, appO_one ha]
  by_cases k8 : k = 8
  · obtain ⟨x, u, a1, a2, a3, _⟩ := next t hl
    obtain ⟨w, q, b1, b2, b3, b4⟩ := keeps (l := u) (t0 := u) (v := x) (by omega)
    refine ⟨_, ?_, ?_, ⟨w, ⟨k, N, I, 0, q⟩, rfl, by omega, b4⟩⟩
    · simp only [f29_j8, f29_j9, hk, if_neg k5, if_neg k6, decide_eq_true_eq, if_pos k8, a1, Option.bind_some, b1, appO_one ha]
    · simp only [f30_j8, f30_j9, hk, if_neg k5, if_neg k6, if_pos k8, s67, a2, Option.bind_some, b2, appO_one ha]
  · refine ⟨_, ?_, ?_, ⟨t, ⟨k, N, I, 0, []⟩, rfl, Nat.le_refl _, by simp⟩⟩
    · simp only [f29_j8, f29_j9, hk, if_neg k5, if_neg k6, decide_eq_true_eq, if_neg k8, Option.bind_some, appO_one ha]
    · simp only [f30_j8, f30_j9, hk, if_neg k5, if_neg k6, if_neg k8, Option.bind_some, appO_one ha]
theorem Out.le {acc : List Step} {t u : List Int} {out : ((List Int) × (List Step)) ⊕ (List Step)} (h : Out acc u out) (hl : u.length ≤ t.length) : Out acc t out := let ⟨a, b, c, d, e⟩ := h; ⟨a, b, c, Nat.le_trans d hl, e⟩
theorem j7_eq {acc : List Step} (ha : acc.length ≤ 1000000) {k v : Int} (hk : v.tmod 9 = k) {t0 : List Int} {t : List Int} {N : Int} (hl : t.length ≤ 1000000) : ∃ out, f29_j7 acc (v, ⟨t0⟩) (t, N) = some out ∧ f30_j7 acc (v, t0) (t, N) = some out ∧ Out acc t out := by
  obtain ⟨x, u, a1, a2, a3, _⟩ := next t hl
  obtain ⟨o1, c1, c2, c3⟩ := j8_eq ha hk (t0 := t0) (t := u) (N := N) (I := x) (by omega)
  obtain ⟨o2, d1, d2, d3⟩ := j8_eq ha hk (t0 := t0) (t := t) (N := N) (I := 0) hl
  by_cases k2 : k = 2
  · exact ⟨o1, by simp only [f29_j7, hk, if_pos k2, a1, Option.bind_some, c1], by simp only [f30_j7, hk, if_pos (show 2 ≤ k by omega), if_pos (show k ≤ 5 by omega), a2, Option.bind_some, c2], c3.le a3⟩
  by_cases k3 : k = 3
  · exact ⟨o1, by simp only [f29_j7, hk, if_neg k2, if_pos k3, a1, Option.bind_some, c1], by simp only [f30_j7, hk, if_pos (show 2 ≤ k by omega), if_pos (show k ≤ 5 by omega), a2, Option.bind_some, c2], c3.le a3⟩
  by_cases k4 : k = 4
  · exact ⟨o1, by simp only [f29_j7, hk, if_neg k2, if_neg k3, if_pos k4, a1, Option.bind_some, c1], by simp only [f30_j7, hk, if_pos (show 2 ≤ k by omega), if_pos (show k ≤ 5 by omega), a2, Option.bind_some, c2], c3.le a3⟩
  by_cases k5 : k = 5
  · exact ⟨o1, by simp only [f29_j7, hk, if_neg k2, if_neg k3, if_neg k4, if_pos k5, a1, Option.bind_some, c1], by simp only [f30_j7, hk, if_pos (show 2 ≤ k by omega), if_pos (show k ≤ 5 by omega), a2, Option.bind_some, c2], c3.le a3⟩
  by_cases k8 : k = 8
  · exact ⟨o1, by simp only [f29_j7, hk, if_neg k2, if_neg k3, if_neg k4, if_neg k5, if_pos k8, a1, Option.bind_some, c1], by simp only [f30_j7, hk, if_pos (show 2 ≤ k by omega), if_neg (show ¬ k ≤ 5 by omega), if_pos k8, a2, Option.bind_some, c2], c3.le a3⟩
  · refine ⟨o2, by simp only [f29_j7, hk, if_neg k2, if_neg k3, if_neg k4, if_neg k5, if_neg k8, d1], ?_, d3⟩
    by_cases h2 : 2 ≤ k
    · simp only [f30_j7, hk, if_pos h2, if_neg (show ¬ k ≤ 5 by omega), if_neg k8, d2]
    · simp only [f30_j7, hk, if_neg h2, if_neg k8, d2]
theorem s1_eq {acc : List Step} {s : List Int} (ha : acc.length ≤ 1000000) (hl : s.length ≤ 1000000) (h0 : 0 < (s.length : Int)) (h1 : ((acc.length : Nat) : Int) < 16384) :
    ∃ s' st, f29_s1 (s, acc) = some (.inl (s', acc ++ [st])) ∧ f30_s1 (s, acc) = some (.inl (s', acc ++ [st])) ∧ s'.length < s.length ∧ st.Keep.length ≤ 70000 := by
  obtain ⟨v, t, a1, a2, a3, a4⟩ := next s hl
  have a4 := a4 (by intro e; subst e; simp at h0)
  obtain ⟨w, u, b1, b2, b3, _⟩ := next t (by omega)
  obtain ⟨o1, c1, c2, c3⟩ := j7_eq ha (k := v.tmod 9) (v := v) rfl (t0 := t) (t := u) (N := w.tmod 8) (by omega)
  obtain ⟨o2, d1, d2, d3⟩ := j7_eq ha (k := v.tmod 9) (v := v) rfl (t0 := t) (t := t) (N := 0) (by omega)
  have fin : ∀ o : ((List Int) × (List Step)) ⊕ (List Step), Out acc t o → f29_s1 (s, acc) = some o → f30_s1 (s, acc) = some o → ∃ s' st, f29_s1 (s, acc) = some (.inl (s', acc ++ [st])) ∧ f30_s1 (s, acc) = some (.inl (s', acc ++ [st])) ∧ s'.length < s.length ∧ st.Keep.length ≤ 70000 := by
    rintro _ ⟨s', st, rfl, q1, q2⟩ e1 e2
    exact ⟨s', st, e1, e2, by omega, q2⟩
  by_cases k1 : v.tmod 9 = 1
  · exact fin o1 (c3.le b3) (by simp only [f29_s1, if_pos h0, if_pos h1, a1, Option.bind_some, if_pos k1, b1, c1]) (by simp only [f30_s1, if_pos h0, if_pos h1, a2, Option.bind_some, if_pos k1, b2, c2])
  by_cases k6 : v.tmod 9 = 6
  · exact fin o1 (c3.le b3) (by simp only [f29_s1, if_pos h0, if_pos h1, a1, Option.bind_some, if_neg k1, if_pos k6, b1, c1]) (by simp only [f30_s1, if_pos h0, if_pos h1, a2, Option.bind_some, if_neg k1, if_pos k6, b2, c2])
  by_cases k7 : v.tmod 9 = 7
  · exact fin o1 (c3.le b3) (by simp only [f29_s1, if_pos h0, if_pos h1, a1, Option.bind_some, if_neg k1, if_neg k6, if_pos k7, b1, c1]) (by simp only [f30_s1, if_pos h0, if_pos h1, a2, Option.bind_some, if_neg k1, if_neg k6, if_pos k7, b2, c2])
  by_cases k8 : v.tmod 9 = 8
  · exact fin o1 (c3.le b3) (by simp only [f29_s1, if_pos h0, if_pos h1, a1, Option.bind_some, if_neg k1, if_neg k6, if_neg k7, if_pos k8, b1, c1]) (by simp only [f30_s1, if_pos h0, if_pos h1, a2, Option.bind_some, if_neg k1, if_neg k6, if_neg k7, if_pos k8, b2, c2])
  · exact fin o2 d3 (by simp only [f29_s1, if_pos h0, if_pos h1, a1, Option.bind_some, if_neg k1, if_neg k6, if_neg k7, if_neg k8, d1]) (by simp only [f30_s1, if_pos h0, if_pos h1, a2, Option.bind_some, if_neg k1, if_neg k6, if_neg k7, if_neg k8, d2])
theorem run_eq {s : List Int} (hl : s.length ≤ 1000000) : ∃ L, f29 s = some L ∧ f30 s = some L ∧ Good L := by
  have key : ∃ r r', loopO f29_s1 (s, []) = some r ∧ loopO f30_s1 (s, []) = some r' ∧ (r = r' ∧ Good r) := by
    refine loopO_two (fun n s u => s = u ∧ s.1.length ≤ 1000000 ∧ s.2.length ≤ 16384 ∧ Good s.2 ∧ n = s.1.length) ?_ (k := s.length) ⟨rfl, hl, by simp, by simp [Good], rfl⟩
    rintro n ⟨s, acc⟩ _ ⟨rfl, h1, h2, h3, h4⟩
    simp only at h1 h2 h3 h4
    by_cases c0 : 0 < (s.length : Int)
    · by_cases c1 : ((acc.length : Nat) : Int) < 16384
      · obtain ⟨s', st, q1, q2, q3, q4⟩ := s1_eq (acc := acc) (by omega) h1 c0 c1
        exact .inl ⟨_, _, s'.length, q1, q2, by omega, rfl, by simp only; omega, by simp; omega, good_add h3 q4 (by omega), rfl⟩
      · exact .inr ⟨acc, acc, loopO_done (by simp only [f29_s1, if_pos c0, if_neg c1]), loopO_done (by simp only [f30_s1, if_pos c0, if_neg c1]), rfl, h3⟩
    · exact .inr ⟨acc, acc, loopO_done (by simp only [f29_s1, if_neg c0]), loopO_done (by simp only [f30_s1, if_neg c0]), rfl, h3⟩
  obtain ⟨L, _, h1, h2, rfl, h3⟩ := key
  exact ⟨L, by simp only [f29, h1, Option.bind_some], by simp only [f30, h2, Option.bind_some], h3⟩
end Au
end Go.Proofs.Y1
