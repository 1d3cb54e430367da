import Derived.Test.YtlonihmeikmpiaaDoorGfN5
set_option linter.all false
set_option linter.unusedVariables false
set_option linter.unusedSimpArgs false
set_option linter.all false
set_option maxRecDepth 8000
namespace Go.Proofs.Yd
open Go.Gm
namespace Au
theorem where_eq {b : List Int} (hb : Byt b) (hl : b.length ≤ 1000) {a : Int} (h0 : 0 ≤ a) (ha : a ≤ b.length) (x5 : Int × Reader) (hn : x5.1 ≤ 65536) :
    ∃ r r', loopO (f27_s2 x5) (b, a, 0, [], 0) = some r ∧ loopO (f30_s4 b x5.1) (a, [], 0) = some r' ∧ ∃ p e l, r = (b, p, e, l) ∧ ((e = 0 ∧ r' = .inr (p, l) ∧ (∀ x ∈ l, 0 ≤ x ∧ x ≤ 1073741825) ∧ l.length ≤ 1000) ∨ (e ≠ 0 ∧ (0 ≤ e ∧ e ≤ 8) ∧ r' = .inl (zN, e))) := by
  refine loopO_two (fun k s t => ∃ p l i, s = (b, p, 0, l, i) ∧ t = (p, l, i) ∧ 0 ≤ i ∧ (l.length : Int) = i ∧ i ≤ p ∧ p ≤ b.length ∧ (∀ x ∈ l, 0 ≤ x ∧ x ≤ 1073741825) ∧ (k : Int) = b.length - p) ?_ (k := (b.length - a).toNat) ⟨a, [], 0, rfl, rfl, by omega, rfl, h0, ha, by simp, by omega⟩
  rintro k _ _ ⟨p, l, i, rfl, rfl, i0, il, ip, pl, hx, hk⟩
  by_cases hi : i < x5.1
  · obtain ⟨v, q, e, v0, v1, ev, eq, e8, g1, _, g2⟩ := rd hb (by omega) p
    have g3 := g2 x5.1 l i (by omega) i0 hi (by omega)
    have hw : IntKind.i64.wrap (i + 1) = i + 1 := i64_id (by omega) (by omega)
    have g4 : f27_s2 x5 (b, p, 0, l, i) = some (.inl (b, q, e, l ++ [v], i + 1)) := by
      simp only [f27_s2, if_pos hi, if_true, g1, Option.bind_some, appO_ok' (show l.length ≤ 10000000000 by omega) (show [v].length ≤ 10000000000 by simp), hw]
    by_cases he : e = 0
    · subst he
      obtain ⟨_, e2, e3⟩ := eq rfl
      rw [if_pos rfl] at g3
      refine .inl ⟨_, _, (b.length - q).toNat, g4, g3, by omega, q, l ++ [v], i + 1, rfl, rfl, by omega, by simp; omega, by omega, e3, ?_, by omega⟩
      intro x hxm
      rcases List.mem_append.1 hxm with h | h
      · exact hx x h
      · simp at h; subst h; exact ⟨v0, v1⟩
    · rw [if_neg he] at g3
      refine .inr ⟨(b, q, e, l ++ [v]), .inl (zN, e), ?_, loopO_done g3, q, e, l ++ [v], rfl, .inr ⟨he, e8, rfl⟩⟩
      rw [loopO_next g4]
      refine loopO_done ?_
      simp only [f27_s2, if_neg he]
      split <;> rfl
  · refine .inr ⟨(b, p, 0, l), .inr (p, l), loopO_done (by simp only [f27_s2, if_neg hi]), loopO_done (by simp only [f30_s4, if_neg hi]), p, 0, l, rfl, .inl ⟨rfl, rfl, hx, by omega⟩⟩
structure OkN (n : Note) : Prop where
  kind : 0 ≤ n.Kind ∧ n.Kind ≤ 10
  task : 0 ≤ n.Task ∧ n.Task ≤ 1073741824
  try_ : 0 ≤ n.Try ∧ n.Try ≤ 1073741824
  part : 0 ≤ n.Part ∧ n.Part ≤ 1073741824
  wh : ∀ x ∈ n.Where, 0 ≤ x ∧ x ≤ 1073741825
  wl : n.Where.length ≤ 1000
theorem get_eq {b : List Int} (hb : Byt b) (hl : b.length ≤ 1000) : ∃ n e, f27 b = some (n, e) ∧ f30 b = some (n, e) ∧ (0 ≤ e ∧ e ≤ 8) ∧ (e = 0 → OkN n) := by
  have bad : ∀ e, e ≠ 0 → (0 ≤ e ∧ e ≤ 8) → f27 b = some (zN, e) → f30 b = some (zN, e) → ∃ n e, f27 b = some (n, e) ∧ f30 b = some (n, e) ∧ (0 ≤ e ∧ e ≤ 8) ∧ (e = 0 → OkN n) := fun e h h8 h1 h2 => ⟨zN, e, h1, h2, h8, fun h' => absurd h' h⟩
  obtain ⟨v1, q1, e1, a1, b1, c1, d1, r1, g1, s1, _⟩ := rd hb (by omega) 0
  obtain ⟨v2, q2, e2, a2, b2, c2, d2, r2, g2, s2, _⟩ := rd hb (by omega) q1
  obtain ⟨v3, q3, e3, a3, b3, c3, d3, r3, g3, s3, _⟩ := rd hb (by omega) q2
  obtain ⟨v4, q4, e4, a4, b4, c4, d4, r4, g4, s4, _⟩ := rd hb (by omega) q3
  obtain ⟨v5, q5, e5, a5, b5, c5, d5, r5, g5, s5, _⟩ := rd hb (by omega) q4
  have t1 := s1 [] 0 (by simp) (by omega) (by omega)
  have t2 := s2 [v1] 1 (by simp) (by omega) (by omega)
  have t3 := s3 [v1, v2] 2 (by simp) (by omega) (by omega)
  have t4 := s4 [v1, v2, v3] 3 (by simp) (by omega) (by omega)
  have t5 := s5 [v1, v2, v3, v4] 4 (by simp) (by omega) (by omega)
  clear s1 s2 s3 s4 s5
  have w0 : (0 : Int) < 65536 := by decide
  by_cases z1 : e1 = 0
  rotate_left
  · rw [if_neg z1] at t1
    refine bad e1 z1 r1 ?_ ?_
    · have hv := c1 z1
      subst hv
      simp only [f27, g1, rd_err z1, Option.bind_some, if_neg (show ¬ (65536 : Int) < 0 by decide), j1_err z1]
    · simp only [f30, loopO_done t1, Option.bind_some]
  subst z1
  rw [if_pos rfl] at t1
  by_cases z2 : e2 = 0
  rotate_left
  · rw [if_neg z2] at t2
    refine bad e2 z2 r2 ?_ ?_
    · simp only [f27, g1, g2, rd_err z2, Option.bind_some, if_neg (show ¬ (65536 : Int) < 0 by decide), j1_err z2]
    · simp only [f30, loopO_next t1, List.nil_append, Int.zero_add, loopO_done t2, Option.bind_some]
  subst z2
  rw [if_pos rfl] at t2
  by_cases z3 : e3 = 0
  rotate_left
  · rw [if_neg z3] at t3
    refine bad e3 z3 r3 ?_ ?_
    · simp only [f27, g1, g2, g3, rd_err z3, Option.bind_some, if_neg (show ¬ (65536 : Int) < 0 by decide), j1_err z3]
    · have h2 : loopO (f30_s2 b) ([v1], q1, 1) = some (.inl (zN, e3)) := by rw [loopO_next t2]; exact loopO_done t3
      simp only [f30, loopO_next t1, List.nil_append, Int.zero_add, h2, Option.bind_some]
  subst z3
  rw [if_pos rfl] at t3
  by_cases z4 : e4 = 0
  rotate_left
  · rw [if_neg z4] at t4
    refine bad e4 z4 r4 ?_ ?_
    · simp only [f27, g1, g2, g3, g4, rd_err z4, Option.bind_some, if_neg (show ¬ (65536 : Int) < 0 by decide), j1_err z4]
    · have h2 : loopO (f30_s2 b) ([v1], q1, 1) = some (.inl (zN, e4)) := by
        rw [loopO_next t2]
        refine (loopO_next t3).trans ?_
        exact loopO_done t4
      simp only [f30, loopO_next t1, List.nil_append, Int.zero_add, h2, Option.bind_some]
  subst z4
  rw [if_pos rfl] at t4
  by_cases z5 : e5 = 0
  rotate_left
  · rw [if_neg z5] at t5
    have hv := c5 z5
    subst hv
    refine bad e5 z5 r5 ?_ ?_
    · simp only [f27, g1, g2, g3, g4, g5, Option.bind_some, if_neg (show ¬ (65536 : Int) < 0 by decide), j1_err z5]
    · have h2 : loopO (f30_s2 b) ([v1], q1, 1) = some (.inl (zN, e5)) := by
        rw [loopO_next t2]
        refine (loopO_next t3).trans ?_
        refine (loopO_next t4).trans ?_
        exact loopO_done t5
      simp only [f30, loopO_next t1, List.nil_append, Int.zero_add, h2, Option.bind_some]
  subst z5
  rw [if_pos rfl] at t5
  have t6 : f30_s2 b ([v1, v2, v3, v4, v5], q5, 5) = some (.inr (.inr (q5, [v1, v2, v3, v4, v5]))) := by simp only [f30_s2, if_neg (show ¬ (5 : Int) < 5 by decide)]
  have h2 : loopO (f30_s2 b) ([], 0, 0) = some (.inr (q5, [v1, v2, v3, v4, v5])) := by
    refine (loopO_next t1).trans ?_
    refine (loopO_next t2).trans ?_
    refine (loopO_next t3).trans ?_
    refine (loopO_next t4).trans ?_
    refine (loopO_next t5).trans ?_
    exact loopO_done t6
  obtain ⟨d51, d52, d53⟩ := d5 rfl
  by_cases big : 65536 < v5
  · refine bad 3 (by decide) (by decide) ?_ ?_
    · simp only [f27, g1, g2, g3, g4, g5, Option.bind_some, if_pos big, if_true, j1_err (show (3 : Int) ≠ 0 by decide)]
    · simp only [f30, h2, Option.bind_some]
      simp [big]
  have f30e : f30 b = ((loopO (f30_s4 b v5) (q5, [], 0)).bind fun y91 => match y91 with | .inl y92 => some y92 | .inr (y93, y94) => ((f43 b y93 1048576).bind fun x95 => (if x95.2.2 = 0 then ((f43 b x95.2.1 1048576).bind fun x98 => (if x98.2.2 = 0 then (if x98.2.1 < (b.length : Int) then some (zN, 3) else ((f44 ⟨v1, v2, v3, v4, y94, bytesI x95.1, bytesI x98.1⟩).bind fun x103 => (if x103 = true then some (⟨v1, v2, v3, v4, y94, bytesI x95.1, bytesI x98.1⟩, 0) else some (zN, 3)))) else some (zN, x98.2.2))) else some (zN, x95.2.2)))) := by
    simp only [f30, h2, Option.bind_some]
    simp [big]
    rfl
  have f27e : f27 b = f27_j1 b (v1, ⟨b, q1, 0⟩) (v2, ⟨b, q2, 0⟩) (v3, ⟨b, q3, 0⟩) (v4, ⟨b, q4, 0⟩) (v5, ⟨b, q5, 0⟩) 0 := by
    simp only [f27, g1, g2, g3, g4, g5, Option.bind_some, if_neg big]
  obtain ⟨_, r', k1, k2, p, e, l, rfl, h⟩ := where_eq hb hl (by omega) d53 (v5, ⟨b, q5, 0⟩) (by simp only; omega)
  simp only at k1 k2
  rw [f30e, f27e]
  rcases h with ⟨rfl, rfl, hx, hll⟩ | ⟨he, h8, rfl⟩
  rotate_left
  · refine ⟨zN, e, ?_, ?_, h8, fun h => absurd h he⟩
    · simp only [f27_j1, k1, Option.bind_some, tx_err he, if_neg he, f27_j2]
    · simp only [k2, Option.bind_some]
  obtain ⟨⟨sa, p1, ea⟩, m1, m2, m3⟩ := sv_eq hb (by omega) p
  have ha : f40 ⟨b, p, 0⟩ = some (bytesI sa, ⟨b, p1, ea⟩) := by simp only [f40, if_true, m1, Option.bind_some]
  by_cases za : ea = 0
  rotate_left
  · have h8 : 0 ≤ ea ∧ ea ≤ 8 := m3.elim (fun h => absurd h.1 za) (fun h => h.2.2)
    refine ⟨zN, ea, ?_, ?_, h8, fun h => absurd h za⟩
    · simp only [f27_j1, k1, Option.bind_some, ha, tx_err za, if_neg za, f27_j2]
    · simp only [k2, Option.bind_some, m2, if_neg za]
  subst za
  obtain ⟨⟨sb, p2, eb⟩, n1, n2, n3⟩ := sv_eq hb (by omega) p1
  have hb' : f40 ⟨b, p1, 0⟩ = some (bytesI sb, ⟨b, p2, eb⟩) := by simp only [f40, if_true, n1, Option.bind_some]
  by_cases zb : eb = 0
  rotate_left
  · have h8 : 0 ≤ eb ∧ eb ≤ 8 := n3.elim (fun h => absurd h.1 zb) (fun h => h.2.2)
    refine ⟨zN, eb, ?_, ?_, h8, fun h => absurd h zb⟩
    · simp only [f27_j1, k1, Option.bind_some, ha, hb', if_neg zb, f27_j2]
    · simp only [k2, Option.bind_some, m2, n2, if_true, if_neg zb]
  subst zb
  by_cases hend : p2 < (b.length : Int)
  · refine ⟨zN, 3, ?_, ?_, by decide, fun h => absurd h (by decide)⟩
    · simp only [f27_j1, k1, Option.bind_some, ha, hb', if_true, if_pos hend, f27_j2, if_neg (show ¬ (3 : Int) = 0 by decide)]
    · simp only [k2, Option.bind_some, m2, n2, if_true, if_pos hend]
  obtain ⟨r, u1, u2, u3⟩ := right_eq (n := ⟨v1, v2, v3, v4, l, bytesI sa, bytesI sb⟩) (by simp only; omega)
  cases r with
  | false =>
    refine ⟨zN, 3, ?_, ?_, by decide, fun h => absurd h (by decide)⟩
    · simp only [f27_j1, k1, Option.bind_some, ha, hb', if_true, if_neg hend, u1, f27_j2, if_neg (show ¬ (3 : Int) = 0 by decide), Bool.false_eq_true, if_false]
    · simp only [k2, Option.bind_some, m2, n2, if_true, if_neg hend, u2, Bool.false_eq_true, if_false]
  | true =>
    refine ⟨⟨v1, v2, v3, v4, l, bytesI sa, bytesI sb⟩, 0, ?_, ?_, by decide, fun _ => ?_⟩
    · simp only [f27_j1, k1, Option.bind_some, ha, hb', if_true, if_neg hend, u1, f27_j2]
    · simp only [k2, Option.bind_some, m2, n2, if_true, if_neg hend, u2]
    · obtain ⟨y1, y2, y3, y4, y5, y6, y7, y8⟩ := u3 rfl
      exact ⟨⟨y1, y2⟩, ⟨y3, y4⟩, ⟨y5, y6⟩, ⟨y7, y8⟩, hx, hll⟩
end Au
end Go.Proofs.Yd
