import Derived.Test.YtlonihmeikmpiaaGpS3D
set_option linter.all false
set_option linter.unusedVariables false
set_option linter.unusedSimpArgs false
set_option linter.all false
set_option maxRecDepth 8000
namespace Go.Proofs.Y1
open Go.Gm
namespace Au
def Good (l : List Step) : Prop := l.length ≤ 20000 ∧ ∀ st ∈ l, st.Keep.length ≤ 70000
theorem count {b : List Int} (hb : Byt b) (hl : b.length ≤ 1000000) {p lim : Int} (h0 : 0 ≤ lim) (h1 : lim < 1000000) : ∃ c p' e v q e0, f74 ⟨b, p, 0⟩ lim = some (c, ⟨b, p', e⟩) ∧ f77 b p = some (v, q, e0) ∧
    ((e = 0 ∧ e0 = 0 ∧ ¬ lim < v ∧ c = v ∧ 0 ≤ c ∧ c ≤ lim ∧ q = p') ∨ (¬ e = 0 ∧ c = 0 ∧ ((e0 = 0 ∧ lim < v ∧ e = 9) ∨ (¬ e0 = 0 ∧ e = e0)))) := by
  obtain ⟨⟨v, p', e⟩, a1, a2, a3⟩ := uv_eq hb hl p
  have w : IntKind.u64.wrap lim = lim := by rw [u64_wrap]; omega
  by_cases he : e = 0
  · subst he
    rcases a3 with ⟨q1, q2, q3, q4, q5, q6⟩ | ⟨q1, q2, q3⟩
    · simp only at q2 q3
      by_cases hv : lim < v
      · exact ⟨0, p', 9, v, p', 0, by simp only [f74, if_true, a1, Option.bind_some, w, if_pos hv, f74_j1]; rfl, a2, .inr ⟨by decide, rfl, .inl ⟨rfl, hv, rfl⟩⟩⟩
      · exact ⟨v, p', 0, v, p', 0, by simp only [f74, if_true, a1, Option.bind_some, w, if_neg hv, f74_j1, i64_id (show -9223372036854775808 ≤ v by omega) (by omega)], a2, .inl ⟨rfl, rfl, hv, rfl, q2, by omega, rfl⟩⟩
    · exact absurd rfl q1
  · exact ⟨0, p', e, v, p', e, by simp only [f74, if_true, a1, Option.bind_some, if_neg he, f74_j1], a2, .inr ⟨he, rfl, .inr ⟨he, rfl⟩⟩⟩
theorem s7_done {b : List Int} {p e : Int} : loopO f24_s7 (b, p, e, [], 0) = some (b, p, e, []) := loopO_done (by simp only [f24_s7, if_neg (show ¬ (0 : Int) < 0 by omega)])
theorem s4_done {b : List Int} {p e : Int} : loopO f24_s4 (b, p, e, [], 0) = some (b, p, e, []) := loopO_done (by simp only [f24_s4, if_neg (show ¬ (0 : Int) < 0 by omega)])
theorem good_add {acc : List Step} {st : Step} (h : Good acc) (k : st.Keep.length ≤ 70000) (hl : acc.length < 20000) : Good (acc ++ [st]) :=
  ⟨by simp; omega, fun x hx => by
    rcases List.mem_append.1 hx with hx | hx
    · exact h.2 x hx
    · rw [List.mem_singleton.1 hx]; exact k⟩
theorem step_eq {b : List Int} (hb : Byt b) (hl : b.length ≤ 1000000) {p c : Int} {acc : List Step} (ha : acc.length ≤ 1000000) (hc : 0 < c) (hc1 : c < 1000000) : ∃ st p' e, f24_s4 (b, p, 0, acc, c) = some (.inl (b, p', e, acc ++ [st], c - 1)) ∧ st.Keep.length ≤ 70000 ∧
    ((e = 0 ∧ f78 b p = some (st, p', 0)) ∨ (¬ e = 0 ∧ ∃ st' q, f78 b p = some (st', q, e))) := by
  obtain ⟨x1, x2, x3, x4, p1, e1, a1, a2, a3, a4, a5, a6⟩ := four hb hl (p := p)
  have wc : IntKind.i64.wrap (c - 1) = c - 1 := i64_id (by omega) (by omega)
  rcases a6 with ⟨rfl, a6⟩ | ⟨he, a6⟩
  · obtain ⟨c1, p2, e2, v, q, e0, b1, b2, b3⟩ := count hb hl (p := p1) (lim := 65536) (by omega) (by omega)
    rcases b3 with ⟨rfl, rfl, hv, rfl, k1, k2, rfl⟩ | ⟨he, rfl, b3⟩
    · obtain ⟨_, r', d1, d2, p3, l, e, rfl, dl, d3⟩ := keep_eq hb hl (p := q) (m := c1) k1 k2
      refine ⟨⟨x1.1, x2.1, x3.1, x4.1, l⟩, p3, e, ?_, dl, ?_⟩
      · simp only [f24_s4, if_pos hc, if_true, a1, a2, a3, a4, a5, Option.bind_some, b1, d1, appO_one ha, wc]
      · rcases d3 with ⟨rfl, rfl⟩ | ⟨he, rfl⟩
        · refine .inl ⟨rfl, ?_⟩
          have d4 : f76 b q c1 = some (l, p3, 0) := by rw [f76, d2]; rfl
          simp only [f78, a6, Option.bind_some, if_true, b2, if_neg hv, i64_id (show -9223372036854775808 ≤ c1 by omega) (by omega), d4, List.getElem?_cons_zero, List.getElem?_cons_succ]
        · refine .inr ⟨he, ⟨0, 0, 0, 0, []⟩, 0, ?_⟩
          have d4 : f76 b q c1 = some ([], 0, e) := by rw [f76, d2]; rfl
          simp only [f78, a6, Option.bind_some, if_true, b2, if_neg hv, i64_id (show -9223372036854775808 ≤ c1 by omega) (by omega), d4, if_neg he]
    · refine ⟨⟨x1.1, x2.1, x3.1, x4.1, []⟩, p2, e2, ?_, by simp, .inr ⟨he, ⟨0, 0, 0, 0, []⟩, 0, ?_⟩⟩
      · simp only [f24_s4, if_pos hc, if_true, a1, a2, a3, a4, a5, Option.bind_some, b1, s7_done, appO_one ha, wc]
      · rcases b3 with ⟨rfl, hv, rfl⟩ | ⟨h0, rfl⟩
        · simp only [f78, a6, Option.bind_some, if_true, b2, if_pos hv]
        · simp only [f78, a6, Option.bind_some, if_true, b2, if_neg h0]
  · refine ⟨⟨x1.1, x2.1, x3.1, x4.1, []⟩, p1, e1, ?_, by simp, .inr ⟨he, ⟨0, 0, 0, 0, []⟩, 0, ?_⟩⟩
    · simp only [f24_s4, if_pos hc, if_true, a1, a2, a3, a4, a5, Option.bind_some, f74_err he, s7_done, appO_one ha, wc]
    · simp only [f78, a6, Option.bind_some, if_neg he]
theorem steps_eq {b : List Int} (hb : Byt b) (hl : b.length ≤ 1000000) {p m : Int} {x15 : Int × Int × Int} (hx : x15.1 = m) (h0 : 0 ≤ m) (h1 : m ≤ 16384) : ∃ r r', loopO f24_s4 (b, p, 0, [], m) = some r ∧ loopO (f25_s2 b x15) ([], p, 0) = some r' ∧
    (∃ p' l e, r = (b, p', e, l) ∧ Good l ∧ ((e = 0 ∧ r' = .inr (p', l)) ∨ (¬ e = 0 ∧ r' = .inl (⟨[], [], ⟨0, 0, 0, 0, 0⟩, []⟩, e)))) := by
  have wm : IntKind.i64.wrap x15.1 = m := by rw [hx]; exact i64_id (by omega) (by omega)
  refine loopO_two (fun k s t => ∃ p acc i, s = (b, p, 0, acc, m - i) ∧ t = (acc, p, i) ∧ 0 ≤ i ∧ i ≤ m ∧ (acc.length : Int) = i ∧ (k : Int) = m - i ∧ Good acc) ?_ (k := m.toNat) ⟨p, [], 0, by simp, rfl, by omega, by omega, by simp, by omega, by simp [Good]⟩
  rintro k _ _ ⟨p, acc, i, rfl, rfl, h2, h3, h4, h5, hg⟩
  by_cases hi : i < m
  · obtain ⟨st, p', e, q1, qk, q2⟩ := step_eq hb hl (p := p) (c := m - i) (acc := acc) (by omega) (by omega) (by omega)
    rw [show m - i - 1 = m - (i + 1) by omega] at q1
    rcases q2 with ⟨rfl, q2⟩ | ⟨he, st', q, q2⟩
    · refine .inl ⟨_, (acc ++ [st], p', i + 1), k - 1, q1, ?_, by omega, p', acc ++ [st], i + 1, rfl, rfl, by omega, by omega, by simp; omega, by omega, good_add hg qk (by omega)⟩
      simp only [f25_s2, wm, if_pos hi, q2, Option.bind_some, if_true, appO_one (show acc.length ≤ 1000000 by omega), i64_id (show -9223372036854775808 ≤ i + 1 by omega) (by omega)]
    · refine .inr ⟨(b, p', e, acc ++ [st]), .inl (⟨[], [], ⟨0, 0, 0, 0, 0⟩, []⟩, e), ?_, loopO_done ?_, p', _, e, rfl, good_add hg qk (by omega), .inr ⟨he, rfl⟩⟩
      · rw [loopO_next q1]
        refine loopO_done ?_
        simp only [f24_s4, if_neg he, ite_self]
      · simp only [f25_s2, wm, if_pos hi, q2, Option.bind_some, if_neg he]
  · have : m - i = 0 := by omega
    refine .inr ⟨(b, p, 0, acc), .inr (p, acc), loopO_done ?_, loopO_done ?_, p, acc, 0, rfl, hg, .inl ⟨rfl, rfl⟩⟩
    · simp only [f24_s4, this, if_neg (show ¬ (0 : Int) < 0 by omega)]
    · simp only [f25_s2, wm, if_neg hi]
theorem get_eq {b : List Int} (hb : Byt b) (hl : b.length ≤ 1000000) : ∃ R, f24 b = some R ∧ f25 b = some R ∧ Good R.1.Steps := by
  obtain ⟨⟨s1, p1, e1⟩, a1, a2, a3⟩ := sv_eq hb hl 0
  refine Classical.byCases (p := e1 = 0) (fun h1 => ?_) fun h1 => ?_
  rotate_left
  · exact ⟨(⟨[], [], ⟨0, 0, 0, 0, 0⟩, []⟩, e1), by simp only [f24, f73_ok a1, Option.bind_some, f73_err h1, f72_err h1, f74_err h1, s4_done, if_neg h1, f24_j1], by simp only [f25, a2, Option.bind_some, if_neg h1], by simp [Good]⟩
  subst h1
  obtain ⟨⟨s2, p2, e2⟩, b1, b2, b3⟩ := sv_eq hb hl p1
  refine Classical.byCases (p := e2 = 0) (fun h2 => ?_) fun h2 => ?_
  rotate_left
  · exact ⟨(⟨[], [], ⟨0, 0, 0, 0, 0⟩, []⟩, e2), by simp only [f24, f73_ok a1, f73_ok b1, Option.bind_some, f72_err h2, f74_err h2, s4_done, if_neg h2, f24_j1], by simp only [f25, a2, b2, Option.bind_some, if_true, if_neg h2], by simp [Good]⟩
  subst h2
  obtain ⟨x1, x2, x3, x4, x5, p3, e3, c1, c2, c3, c4, c5, c6, c7⟩ := five hb hl (p := p2)
  rcases c7 with ⟨rfl, c7⟩ | ⟨he, c7⟩
  · obtain ⟨m, p4, e4, v, q, e0, d1, d2, d3⟩ := count hb hl (p := p3) (lim := 16384) (by omega) (by omega)
    rcases d3 with ⟨rfl, rfl, hv, rfl, k1, k2, rfl⟩ | ⟨he, rfl, d3⟩
    · obtain ⟨_, r', g1, g2, p5, l, e, rfl, gl, g3⟩ := steps_eq hb hl (p := q) (m := m) (x15 := (m, q, 0)) rfl k1 k2
      rcases g3 with ⟨rfl, rfl⟩ | ⟨he, rfl⟩
      · by_cases hp : p5 < (b.length : Int)
        · refine ⟨(⟨[], [], ⟨0, 0, 0, 0, 0⟩, []⟩, 3), ?_, ?_, by simp [Good]⟩
          · simp only [f24, f73_ok a1, f73_ok b1, Option.bind_some, c1, c2, c3, c4, c5, c6, d1, g1, if_true, if_pos hp, f24_j1]; rfl
          · simp only [f25, a2, b2, c7, Option.bind_some, if_true, List.getElem?_cons_zero, List.getElem?_cons_succ, d2, if_neg hv, g2, if_pos hp]
        · refine ⟨(⟨bytesI s1, bytesI s2, ⟨x1.1, x2.1, x3.1, x4.1, x5.1⟩, l⟩, 0), ?_, ?_, gl⟩
          · simp only [f24, f73_ok a1, f73_ok b1, Option.bind_some, c1, c2, c3, c4, c5, c6, d1, g1, if_true, if_neg hp, f24_j1]
          · simp only [f25, a2, b2, c7, Option.bind_some, if_true, List.getElem?_cons_zero, List.getElem?_cons_succ, d2, if_neg hv, g2, if_neg hp]
      · refine ⟨(⟨[], [], ⟨0, 0, 0, 0, 0⟩, []⟩, e), ?_, ?_, by simp [Good]⟩
        · simp only [f24, f73_ok a1, f73_ok b1, Option.bind_some, c1, c2, c3, c4, c5, c6, d1, g1, if_neg he, f24_j1]
        · simp only [f25, a2, b2, c7, Option.bind_some, if_true, List.getElem?_cons_zero, List.getElem?_cons_succ, d2, if_neg hv, g2]
    · refine ⟨(⟨[], [], ⟨0, 0, 0, 0, 0⟩, []⟩, e4), ?_, ?_, by simp [Good]⟩
      · simp only [f24, f73_ok a1, f73_ok b1, Option.bind_some, c1, c2, c3, c4, c5, c6, d1, s4_done, if_neg he, f24_j1]
      · rcases d3 with ⟨rfl, hv, rfl⟩ | ⟨h0, rfl⟩
        · simp only [f25, a2, b2, c7, Option.bind_some, if_true, List.getElem?_cons_zero, List.getElem?_cons_succ, d2, if_pos hv]
        · simp only [f25, a2, b2, c7, Option.bind_some, if_true, List.getElem?_cons_zero, List.getElem?_cons_succ, d2, if_neg h0]
  · refine ⟨(⟨[], [], ⟨0, 0, 0, 0, 0⟩, []⟩, e3), ?_, ?_, by simp [Good]⟩
    · simp only [f24, f73_ok a1, f73_ok b1, Option.bind_some, c1, c2, c3, c4, c5, c6, f74_err he, s4_done, if_neg he, f24_j1]
    · simp only [f25, a2, b2, c7, Option.bind_some, if_true, if_neg he]
end Au
end Go.Proofs.Y1
