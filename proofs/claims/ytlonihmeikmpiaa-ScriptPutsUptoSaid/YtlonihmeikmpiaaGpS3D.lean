import Derived.Test.YtlonihmeikmpiaaGpS3C
import Derived.Test.YtlonihmeikmpiaaGpDBf24
import Derived.Test.YtlonihmeikmpiaaGpDBf25
set_option linter.all false
set_option linter.unusedVariables false
set_option linter.unusedSimpArgs false
set_option linter.all false
set_option maxRecDepth 8000
namespace Go.Proofs.Y1
open Go.Gm
namespace Au
theorem f72_err {b : List Int} {p e : Int} (h : ¬ e = 0) : f72 ⟨b, p, e⟩ = some (0, ⟨b, p, e⟩) := by simp only [f72, if_neg h]
theorem f73_err {b : List Int} {p e : Int} (h : ¬ e = 0) : f73 ⟨b, p, e⟩ = some ([], ⟨b, p, e⟩) := by simp only [f73, if_neg h]
theorem f74_err {b : List Int} {p e n : Int} (h : ¬ e = 0) : f74 ⟨b, p, e⟩ n = some (0, ⟨b, p, e⟩) := by simp only [f74, if_neg h]
theorem f72_ok {b : List Int} {p v p' e : Int} (h : f113 b p = some (v, p', e)) : f72 ⟨b, p, 0⟩ = some (v, ⟨b, p', e⟩) := by simp only [f72, if_true, h, Option.bind_some]
theorem f73_ok {b : List Int} {p p' e : Int} {s : ByteArray} (h : f114 b p 1048576 = some (s, p', e)) : f73 ⟨b, p, 0⟩ = some (bytesI s, ⟨b, p', e⟩) := by simp only [f73, if_true, h, Option.bind_some]
theorem appO_one {α : Type} {l : List α} {x : α} (h : l.length ≤ 1000000) : appO? l [x] = some (l ++ [x]) := appO?_some.2 ⟨by simp; omega, rfl⟩
theorem read1 {b : List Int} (hb : Byt b) (hl : b.length ≤ 1000000) {p n i : Int} {acc : List Int} (ha : acc.length ≤ 1000000) (hi : i < n) (h0 : 0 ≤ i) (hi1 : i < 1000000) :
    ∃ v p' e, f113 b p = some (v, p', e) ∧ ((e = 0 ∧ f76_s1 b n (p, acc, i) = some (.inl (p', acc ++ [v], i + 1))) ∨ (¬ e = 0 ∧ f76_s1 b n (p, acc, i) = some (.inr (.inl ([], 0, e))))) := by
  obtain ⟨⟨v, p', e⟩, h1, h2, h3⟩ := iv_eq hb hl p
  refine ⟨v, p', e, h1, ?_⟩
  by_cases he : e = 0
  · subst he
    exact .inl ⟨rfl, by simp only [f76_s1, if_pos hi, h2, Option.bind_some, if_true, appO_one ha, i64_id (show -9223372036854775808 ≤ i + 1 by omega) (by omega)]⟩
  · exact .inr ⟨he, by simp only [f76_s1, if_pos hi, h2, Option.bind_some, if_neg he]⟩
theorem keep_eq {b : List Int} (hb : Byt b) (hl : b.length ≤ 1000000) {p m : Int} (h0 : 0 ≤ m) (h1 : m ≤ 65536) : ∃ r r', loopO f24_s7 (b, p, 0, [], m) = some r ∧ loopO (f76_s1 b m) (p, [], 0) = some r' ∧
    (∃ p' l e, r = (b, p', e, l) ∧ l.length ≤ 70000 ∧ ((e = 0 ∧ r' = .inr (p', l)) ∨ (¬ e = 0 ∧ r' = .inl ([], 0, e)))) := by
  refine loopO_two (fun k s t => ∃ p acc i, s = (b, p, 0, acc, m - i) ∧ t = (p, acc, i) ∧ 0 ≤ i ∧ i ≤ m ∧ (acc.length : Int) = i ∧ (k : Int) = m - i) ?_ (k := m.toNat) ⟨p, [], 0, by simp, rfl, by omega, by omega, by simp, by omega⟩
  rintro k _ _ ⟨p, acc, i, rfl, rfl, h2, h3, h4, h5⟩
  by_cases hi : i < m
  · obtain ⟨v, p', e, q1, q2⟩ := read1 hb hl (p := p) (acc := acc) (by omega) hi h2 (by omega)
    have st : f24_s7 (b, p, 0, acc, m - i) = some (.inl (b, p', e, acc ++ [v], m - (i + 1))) := by
      simp only [f24_s7, if_pos (show 0 < m - i by omega), if_true, f72_ok q1, Option.bind_some, appO_one (show acc.length ≤ 1000000 by omega)]
      rw [i64_id (by omega) (by omega), show m - i - 1 = m - (i + 1) by omega]
    rcases q2 with ⟨rfl, q2⟩ | ⟨he, q2⟩
    · exact .inl ⟨_, _, k - 1, st, q2, by omega, p', acc ++ [v], i + 1, rfl, rfl, by omega, by omega, by simp; omega, by omega⟩
    · refine .inr ⟨(b, p', e, acc ++ [v]), _, ?_, loopO_done q2, p', _, e, rfl, by simp; omega, .inr ⟨he, rfl⟩⟩
      rw [loopO_next st]
      refine loopO_done ?_
      simp only [f24_s7, if_neg he, ite_self]
  · have : m - i = 0 := by omega
    refine .inr ⟨(b, p, 0, acc), .inr (p, acc), loopO_done ?_, loopO_done ?_, p, acc, 0, rfl, by omega, .inl ⟨rfl, rfl⟩⟩
    · simp only [f24_s7, this, if_neg (show ¬ (0 : Int) < 0 by omega)]
    · simp only [f76_s1, if_neg hi]
theorem four {b : List Int} (hb : Byt b) (hl : b.length ≤ 1000000) {p : Int} : ∃ x1 x2 x3 x4 p' e, f72 ⟨b, p, 0⟩ = some x1 ∧ f72 x1.2 = some x2 ∧ f72 x2.2 = some x3 ∧ f72 x3.2 = some x4 ∧ x4.2 = ⟨b, p', e⟩ ∧
    ((e = 0 ∧ f76 b p 4 = some ([x1.1, x2.1, x3.1, x4.1], p', 0)) ∨ (¬ e = 0 ∧ f76 b p 4 = some ([], 0, e))) := by
  obtain ⟨v0, p0, e0, a0, c0⟩ := read1 hb hl (p := p) (n := 4) (i := 0) (acc := []) (by simp) (by omega) (by omega) (by omega)
  refine ⟨(v0, ⟨b, p0, e0⟩), ?_⟩
  rcases c0.symm with ⟨he, d0⟩ | ⟨rfl, d0⟩
  · exact ⟨_, _, _, _, _, f72_ok a0, f72_err he, f72_err he, f72_err he, rfl, .inr ⟨he, by rw [f76, loopO_done d0]; rfl⟩⟩
  obtain ⟨v1, p1, e1, a1, c1⟩ := read1 hb hl (p := p0) (n := 4) (i := 0 + 1) (acc := [] ++ [v0]) (by simp) (by omega) (by omega) (by omega)
  refine ⟨(v1, ⟨b, p1, e1⟩), ?_⟩
  rcases c1.symm with ⟨he, d1⟩ | ⟨rfl, d1⟩
  · exact ⟨_, _, _, _, f72_ok a0, f72_ok a1, f72_err he, f72_err he, rfl, .inr ⟨he, by rw [f76, loopO_next d0, loopO_done d1]; rfl⟩⟩
  obtain ⟨v2, p2, e2, a2, c2⟩ := read1 hb hl (p := p1) (n := 4) (i := 0 + 1 + 1) (acc := [] ++ [v0] ++ [v1]) (by simp) (by omega) (by omega) (by omega)
  refine ⟨(v2, ⟨b, p2, e2⟩), ?_⟩
  rcases c2.symm with ⟨he, d2⟩ | ⟨rfl, d2⟩
  · exact ⟨_, _, _, f72_ok a0, f72_ok a1, f72_ok a2, f72_err he, rfl, .inr ⟨he, by rw [f76, loopO_next d0, loopO_next d1, loopO_done d2]; rfl⟩⟩
  obtain ⟨v3, p3, e3, a3, c3⟩ := read1 hb hl (p := p2) (n := 4) (i := 0 + 1 + 1 + 1) (acc := [] ++ [v0] ++ [v1] ++ [v2]) (by simp) (by omega) (by omega) (by omega)
  refine ⟨(v3, ⟨b, p3, e3⟩), p3, e3, f72_ok a0, f72_ok a1, f72_ok a2, f72_ok a3, rfl, ?_⟩
  rcases c3 with ⟨rfl, d3⟩ | ⟨he, d3⟩
  · refine .inl ⟨rfl, ?_⟩
    have d4 : f76_s1 b 4 (p3, [] ++ [v0] ++ [v1] ++ [v2] ++ [v3], 0 + 1 + 1 + 1 + 1) = some (.inr (.inr (p3, [] ++ [v0] ++ [v1] ++ [v2] ++ [v3]))) := by simp only [f76_s1, if_neg (show ¬ (0 + 1 + 1 + 1 + 1 : Int) < 4 by omega)]
    rw [f76, loopO_next d0, loopO_next d1, loopO_next d2, loopO_next d3, loopO_done d4]; rfl
  · exact .inr ⟨he, by rw [f76, loopO_next d0, loopO_next d1, loopO_next d2, loopO_done d3]; rfl⟩
theorem five {b : List Int} (hb : Byt b) (hl : b.length ≤ 1000000) {p : Int} : ∃ x1 x2 x3 x4 x5 p' e, f72 ⟨b, p, 0⟩ = some x1 ∧ f72 x1.2 = some x2 ∧ f72 x2.2 = some x3 ∧ f72 x3.2 = some x4 ∧ f72 x4.2 = some x5 ∧ x5.2 = ⟨b, p', e⟩ ∧
    ((e = 0 ∧ f76 b p 5 = some ([x1.1, x2.1, x3.1, x4.1, x5.1], p', 0)) ∨ (¬ e = 0 ∧ f76 b p 5 = some ([], 0, e))) := by
  obtain ⟨v0, p0, e0, a0, c0⟩ := read1 hb hl (p := p) (n := 5) (i := 0) (acc := []) (by simp) (by omega) (by omega) (by omega)
  refine ⟨(v0, ⟨b, p0, e0⟩), ?_⟩
  rcases c0.symm with ⟨he, d0⟩ | ⟨rfl, d0⟩
  · exact ⟨_, _, _, _, _, _, f72_ok a0, f72_err he, f72_err he, f72_err he, f72_err he, rfl, .inr ⟨he, by rw [f76, loopO_done d0]; rfl⟩⟩
  obtain ⟨v1, p1, e1, a1, c1⟩ := read1 hb hl (p := p0) (n := 5) (i := 0 + 1) (acc := [] ++ [v0]) (by simp) (by omega) (by omega) (by omega)
  refine ⟨(v1, ⟨b, p1, e1⟩), ?_⟩
  rcases c1.symm with ⟨he, d1⟩ | ⟨rfl, d1⟩
  · exact ⟨_, _, _, _, _, f72_ok a0, f72_ok a1, f72_err he, f72_err he, f72_err he, rfl, .inr ⟨he, by rw [f76, loopO_next d0, loopO_done d1]; rfl⟩⟩
  obtain ⟨v2, p2, e2, a2, c2⟩ := read1 hb hl (p := p1) (n := 5) (i := 0 + 1 + 1) (acc := [] ++ [v0] ++ [v1]) (by simp) (by omega) (by omega) (by omega)
  refine ⟨(v2, ⟨b, p2, e2⟩), ?_⟩
  rcases c2.symm with ⟨he, d2⟩ | ⟨rfl, d2⟩
  · exact ⟨_, _, _, _, f72_ok a0, f72_ok a1, f72_ok a2, f72_err he, f72_err he, rfl, .inr ⟨he, by rw [f76, loopO_next d0, loopO_next d1, loopO_done d2]; rfl⟩⟩
  obtain ⟨v3, p3, e3, a3, c3⟩ := read1 hb hl (p := p2) (n := 5) (i := 0 + 1 + 1 + 1) (acc := [] ++ [v0] ++ [v1] ++ [v2]) (by simp) (by omega) (by omega) (by omega)
  refine ⟨(v3, ⟨b, p3, e3⟩), ?_⟩
  rcases c3.symm with ⟨he, d3⟩ | ⟨rfl, d3⟩
  · exact ⟨_, _, _, f72_ok a0, f72_ok a1, f72_ok a2, f72_ok a3, f72_err he, rfl, .inr ⟨he, by rw [f76, loopO_next d0, loopO_next d1, loopO_next d2, loopO_done d3]; rfl⟩⟩
  obtain ⟨v4, p4, e4, a4, c4⟩ := read1 hb hl (p := p3) (n := 5) (i := 0 + 1 + 1 + 1 + 1) (acc := [] ++ [v0] ++ [v1] ++ [v2] ++ [v3]) (by simp) (by omega) (by omega) (by omega)
  refine ⟨(v4, ⟨b, p4, e4⟩), p4, e4, f72_ok a0, f72_ok a1, f72_ok a2, f72_ok a3, f72_ok a4, rfl, ?_⟩
  rcases c4 with ⟨rfl, d4⟩ | ⟨he, d4⟩
  · refine .inl ⟨rfl, ?_⟩
    have d5 : f76_s1 b 5 (p4, [] ++ [v0] ++ [v1] ++ [v2] ++ [v3] ++ [v4], 0 + 1 + 1 + 1 + 1 + 1) = some (.inr (.inr (p4, [] ++ [v0] ++ [v1] ++ [v2] ++ [v3] ++ [v4]))) := by simp only [f76_s1, if_neg (show ¬ (0 + 1 + 1 + 1 + 1 + 1 : Int) < 5 by omega)]
    rw [f76, loopO_next d0, loopO_next d1, loopO_next d2, loopO_next d3, loopO_next d4, loopO_done d5]; rfl
  · exact .inr ⟨he, by rw [f76, loopO_next d0, loopO_next d1, loopO_next d2, loopO_next d3, loopO_done d4]; rfl⟩
end Au
end Go.Proofs.Y1
