import Derived.Test.YtpdgnhhjaaencaaGmM9
import Derived.Test.YtpdgnhhjaaencaaGmLi
import Derived.Test.YtpdgnhhjaaencaaGmM8
import Derived.Test.YtpdgnhhjaaencaaGmM7
set_option linter.all false
set_option linter.unusedVariables false
set_option linter.unusedSimpArgs false
set_option linter.all false
set_option maxRecDepth 8000
set_option maxHeartbeats 1000000
namespace Go.Proofs.Y5
open Go.Gm
namespace Au
theorem same_ints {l : List Int} (hl : l.length ≤ 2000000) : f13 l l = some true := by
  have k := loopN_done (step := f13_s1 l l) (fun i => (i : Int)) l.length (r := .inr ()) (fun i hi => by
    simp only [f13_s1, if_pos (show (i : Int) < l.length by omega), ixN hi, Option.bind_some, if_true, wrapN (show i ≤ 10000000000 by omega)]) (by simp [f13_s1])
  unfold f13
  rw [if_pos rfl, show (0 : Int) = ((0 : Nat) : Int) from rfl, k]
  rfl
theorem less_self {a : ByteArray} (h : a.size ≤ 10000000) : f17 a a = some false := by
  have hb : (bl a).length = a.size := (size_bl a).symm
  have k := loopN_done (step := f17_s1 a a) (fun i => (i : Int)) a.size (r := .inr ()) (fun i hi => by
    simp only [f17_s1, if_pos (show (i : Int) < a.size by omega), ixN (show i < (bl a).length by omega), Option.bind_some, if_true, wrapN (show i ≤ 10000000000 by omega)]) (by simp [f17_s1])
  unfold f17
  rw [show (0 : Int) = ((0 : Nat) : Int) from rfl, k]
  simp
theorem order_self {v : Val} (h : v.Text.size ≤ 10000000) : f27 v v = some 0 := by
  unfold f27 f27_j1
  by_cases h0 : v.Kind = 0
  · simp [h0]
  · simp [h0, less_self h]
theorem same_part {p : Part} (h : p.Acc.Text.size ≤ 10000000) : f14 p p = some true := by
  unfold f14 f21
  rw [if_pos rfl, order_self h]; rfl
theorem same_parts {l : List Part} {x : Item} (hx : x.Parts = l) (hl : l.length ≤ 2000000) (h : ∀ p ∈ l, p.Acc.Text.size ≤ 10000000) : loopO (f8_s4 x x) 0 = some (.inr ()) := by
  subst hx
  have k := loopN_done (step := f8_s4 x x) (fun i => (i : Int)) x.Parts.length (r := .inr ()) (fun i hi => by
    simp only [f8_s4, if_pos (show (i : Int) < x.Parts.length by omega), ixN hi, Option.bind_some, same_part (h _ (List.getElem_mem hi)), if_true, wrapN (show i ≤ 10000000000 by omega)]) (by simp [f8_s4])
  rw [show (0 : Int) = ((0 : Nat) : Int) from rfl, k]
/-- Of sizes that all places keep. -/
def Sz (x : Item) : Prop := x.Key.size ≤ 10000000 ∧ (x.Parts.length ≤ 2000000 ∧ ∀ p ∈ x.Parts, p.Acc.Text.size ≤ 10000000) ∧ x.Offs.length ≤ 2000000
theorem same_items {l : List Item} (hl : l.length ≤ 1000000) (h : ∀ x ∈ l, Sz x) : f8 l l = some true := by
  have k := loopN_done (step := f8_s1 l l) (fun i => (i : Int)) l.length (r := .inr ()) (fun i hi => by
    obtain ⟨h1, ⟨h2, h3⟩, h4⟩ := h _ (List.getElem_mem hi)
    simp only [f8_s1, if_pos (show (i : Int) < l.length by omega), ixN hi, Option.bind_some, if_true, same_ints h4, same_parts rfl h2 h3, wrapN (show i ≤ 10000000000 by omega)]) (by simp [f8_s1])
  unfold f8
  rw [if_pos rfl, show (0 : Int) = ((0 : Nat) : Int) from rfl, k]
  rfl
theorem parts_loop {x : Item} {n : Nat} (hn : n ≤ 100000000) (h : ∀ p ∈ x.Parts, p.Acc.Text.size ≤ 2000000) : ∃ m : Nat, loopO (f5_s4 x) ((n : Int), 0) = some (m : Int) ∧ n ≤ m ∧ m ≤ n + 600000000 := by
  obtain ⟨r, h1, m, rfl, h2⟩ := loopO_of (step := f5_s4 x) (I := fun k s => ∃ i m : Nat, s = ((m : Int), (i : Int)) ∧ i ≤ 300 ∧ i ≤ x.Parts.length ∧ n ≤ m ∧ m ≤ n + i * 2000000 ∧ k = 300 - i) (Q := fun r => ∃ m : Nat, r = (m : Int) ∧ n ≤ m ∧ m ≤ n + 600000000) (by
    rintro k _ ⟨i, m, rfl, hi, hp, h1, h2, hk⟩
    by_cases c1 : i < x.Parts.length
    · by_cases c2 : i < 300
      · have hs := h _ (List.getElem_mem c1)
        refine .inl ⟨(((m + x.Parts[i].Acc.Text.size : Nat) : Int), ((i + 1 : Nat) : Int)), 300 - (i + 1), ?_, by omega, i + 1, _, rfl, by omega, by omega, by omega, by omega, rfl⟩
        simp only [f5_s4, if_pos (show (i : Int) < x.Parts.length by omega), if_pos (show (i : Int) < 300 by omega), ixN c1, Option.bind_some, wrapN (show i ≤ 10000000000 by omega)]
        rw [i64_id (by omega) (by omega)]; simp
      · refine .inr ⟨(m : Int), ?_, m, rfl, h1, by omega⟩
        simp only [f5_s4, if_pos (show (i : Int) < x.Parts.length by omega), if_neg (show ¬ (i : Int) < 300 by omega)]
    · refine .inr ⟨(m : Int), ?_, m, rfl, h1, by omega⟩
      simp only [f5_s4, if_neg (show ¬ (i : Int) < x.Parts.length by omega)]) (k := 300) ⟨0, n, rfl, by omega, by omega, by omega, by omega, rfl⟩
  exact ⟨m, h1, h2⟩
def Bnd (x : Item) : Prop := x.Key.size ≤ 2000000 ∧ (x.Parts.length ≤ 2000000 ∧ ∀ p ∈ x.Parts, p.Acc.Text.size ≤ 2000000) ∧ x.Offs.length ≤ 2000000
theorem Bnd.sz {x : Item} (h : Bnd x) : Sz x := ⟨by have := h.1; omega, ⟨by have := h.2.1.1; omega, fun p hp => by have := h.2.1.2 p hp; omega⟩, by have := h.2.2; omega⟩
def Small (x : Item) : Prop := x.Key.size ≤ 1500 ∧ x.Offs.length ≤ 1500 ∧ x.Parts.length ≤ 1500
theorem much_loop {l : List Item} (hb : ∀ x ∈ l, Bnd x) : ∃ r, loopO (f5_s1 l) (0, 0) = some r ∧ (r = .inl true ∨ (r = .inr () ∧ ∀ x ∈ l.take 60, Small x)) := by
  refine loopO_of (step := f5_s1 l) (I := fun k s => ∃ i m : Nat, s = ((m : Int), (i : Int)) ∧ i ≤ 60 ∧ i ≤ l.length ∧ m ≤ 1500 ∧ (∀ x ∈ l.take i, Small x) ∧ k = 60 - i) ?_ (k := 60) ⟨0, 0, rfl, by omega, by omega, by omega, by simp, rfl⟩
  rintro k _ ⟨i, m, rfl, hi, hl, h1, h2, hk⟩
  by_cases c1 : i < l.length
  · by_cases c2 : i < 60
    · obtain ⟨b1, ⟨b2, b3⟩, b4⟩ := hb _ (List.getElem_mem c1)
      obtain ⟨q, q1, q2, q3⟩ := parts_loop (x := l[i]) (n := m + l[i].Key.size + 4 * l[i].Offs.length + 4 * l[i].Parts.length) (by omega) b3
      have e : IntKind.i64.wrap (IntKind.i64.wrap (IntKind.i64.wrap ((m : Int) + (l[i].Key.size : Int)) + IntKind.i64.wrap (4 * (l[i].Offs.length : Int))) + IntKind.i64.wrap (4 * (l[i].Parts.length : Int))) = ((m + l[i].Key.size + 4 * l[i].Offs.length + 4 * l[i].Parts.length : Nat) : Int) := by
        rw [i64_id (n := (m : Int) + (l[i].Key.size : Int)) (by omega) (by omega), i64_id (n := 4 * (l[i].Offs.length : Int)) (by omega) (by omega), i64_id (n := 4 * (l[i].Parts.length : Int)) (by omega) (by omega), i64_id (n := (m : Int) + (l[i].Key.size : Int) + 4 * (l[i].Offs.length : Int)) (by omega) (by omega), i64_id (by omega) (by omega)]
        omega
      have hstep : f5_s1 l ((m : Int), (i : Int)) = if 1500 < (q : Int) then some (.inr (.inl true)) else some (.inl ((q : Int), ((i + 1 : Nat) : Int))) := by
        simp only [f5_s1, if_pos (show (i : Int) < l.length by omega), if_pos (show (i : Int) < 60 by omega), ixN c1, Option.bind_some, e, q1, wrapN (show i ≤ 10000000000 by omega)]
      by_cases c3 : 1500 < q
      · exact .inr ⟨.inl true, by rw [hstep, if_pos (by omega)], .inl rfl⟩
      · refine .inl ⟨((q : Int), ((i + 1 : Nat) : Int)), 60 - (i + 1), by rw [hstep, if_neg (by omega)], by omega, i + 1, q, rfl, by omega, by omega, by omega, fun x hx => ?_, rfl⟩
        rw [List.take_succ_eq_append_getElem c1] at hx
        rcases List.mem_append.1 hx with hx | hx
        · exact h2 x hx
        · simp only [List.mem_cons, List.not_mem_nil, or_false] at hx
          subst hx
          exact ⟨by omega, by omega, by omega⟩
    · refine .inr ⟨.inr (), ?_, .inr ⟨rfl, ?_⟩⟩
      · simp only [f5_s1, if_pos (show (i : Int) < l.length by omega), if_neg (show ¬ (i : Int) < 60 by omega)]
      · obtain rfl : i = 60 := by omega
        exact h2
  · refine .inr ⟨.inr (), ?_, .inr ⟨rfl, ?_⟩⟩
    · simp only [f5_s1, if_neg (show ¬ (i : Int) < l.length by omega)]
    · rw [List.take_of_length_le (by omega)] at h2
      rw [List.take_of_length_le (by omega)]; exact h2
theorem much_eq {l : List Item} (hb : ∀ x ∈ l, Bnd x) : f5 l = some true ∨ (f5 l = some false ∧ l.length ≤ 60 ∧ ∀ x ∈ l, Small x) := by
  obtain ⟨r, h1, h2⟩ := much_loop hb
  unfold f5
  rw [h1, Option.bind_some]
  rcases h2 with rfl | ⟨rfl, h2⟩
  · exact .inl rfl
  · by_cases c : 60 < (l.length : Int)
    · exact .inl (by simp only [decide_eq_true c])
    · refine .inr ⟨by simp only [decide_eq_false c], by omega, ?_⟩
      rwa [List.take_of_length_le (by omega)] at h2
end Au
end Go.Proofs.Y5

set_option linter.all false
set_option maxRecDepth 8000
set_option maxHeartbeats 1000000
namespace Go.Proofs.Y5
open Go.Gm
namespace Au
noncomputable def ordF (l : List Item) : List Item := (f23 l).getD []
theorem ordF_ok {l : List Item} (h : l.length ≤ 100000) : f23 l = some (ordF l) ∧ Sorts ltI l (ordF l) := by
  obtain ⟨r, h1, h2⟩ := order_eq h
  unfold ordF
  rw [h1]; exact ⟨rfl, h2⟩
theorem fill_eq {L : List (List Item)} (hL : L.length ≤ 100000) (h : ∀ l ∈ L, l.length ≤ 100000) : loopO (f22_f L) (0, List.replicate L.length none) = some ((L.map ordF).map some) := by
  obtain ⟨F, hF⟩ : ∃ F, F = (L.map ordF).map some := ⟨_, rfl⟩
  have hFl : F.length = L.length := by rw [hF]; simp
  rw [← hF]
  have k := loopN_done (step := f22_f L) (fun i => ((i : Int), F.take i ++ List.replicate (L.length - i) none)) L.length (r := F) (fun i hi => by
    obtain ⟨h1, _⟩ := ordF_ok (h _ (List.getElem_mem hi))
    have hlen : (F.take i).length = i := by rw [List.length_take]; omega
    have hFi : F[i]'(by omega) = some (ordF L[i]) := by simp [hF]
    simp only [f22_f, if_pos (show (i : Int) < L.length by omega), ixN hi, Option.bind_some, h1, wrapN (show i ≤ 10000000000 by omega)]
    rw [guardO_ok (by rw [List.length_append, hlen, List.length_replicate]; omega), Option.bind_some]
    congr 3
    rw [show L.length - i = (L.length - (i + 1)) + 1 by omega, List.replicate_succ, set_mid' (by rw [hlen]; omega), List.take_succ_eq_append_getElem (show i < F.length by omega), hFi]
    simp) (by simp only [f22_f]; rw [if_neg (by omega), List.take_of_length_le (by omega), Nat.sub_self]; simp)
  simpa using k
theorem mapM_some {α : Type} : ∀ l : List α, (l.map some).mapM id = some l
  | [] => rfl
  | x :: l => by rw [List.map_cons, List.mapM_cons, mapM_some l]; rfl
/-- The least head, the first of these. -/
def Best (rest : List (List Item)) (n : Nat) (b : Int) : Prop := (b = -1 ∧ ∀ j, j < n → ∀ x, rest[j]? = some x → x = []) ∨
  ∃ (k : Nat) (y0 : Item) (ys : List Item), b = (k : Int) ∧ k < n ∧ rest[k]? = some (y0 :: ys) ∧ ∀ j, j < n → ∀ z zs, rest[j]? = some (z :: zs) → ltI z y0 = false ∧ (j < k → ltI y0 z = true)
theorem best_eq {rest : List (List Item)} (hl : rest.length ≤ 100000) : ∃ b, loopO (f22_b rest) (0, -1) = some b ∧ Best rest rest.length b := by
  refine loopO_of (step := f22_b rest) (I := fun k s => ∃ (i : Nat) (b : Int), s = ((i : Int), b) ∧ i ≤ rest.length ∧ Best rest i b ∧ k = rest.length - i) ?_ (k := rest.length) ⟨0, -1, rfl, by omega, .inl ⟨rfl, fun j hj => by omega⟩, rfl⟩
  rintro k _ ⟨i, b, rfl, hi, hb, hk⟩
  by_cases c : i < rest.length
  · have hx : rest[i]? = some rest[i] := List.getElem?_eq_getElem c
    have hw := wrapN (show i ≤ 10000000000 by omega)
    cases hxx : rest[i] with
    | nil =>
      rw [hxx] at hx
      refine .inl ⟨(((i + 1 : Nat) : Int), b), rest.length - (i + 1), ?_, by omega, i + 1, b, rfl, by omega, ?_, rfl⟩
      · simp only [f22_b, if_pos (show (i : Int) < rest.length by omega), ixN c, Option.bind_some, hxx, hw]
      · rcases hb with ⟨rfl, hb⟩ | ⟨k', y0, ys, rfl, h1, h2, h3⟩
        · refine .inl ⟨rfl, fun j hj x hjx => ?_⟩
          by_cases e : j = i
          · subst e; rw [hx] at hjx; exact (Option.some.inj hjx).symm
          · exact hb j (by omega) x hjx
        · refine .inr ⟨k', y0, ys, rfl, by omega, h2, fun j hj z zs hjz => ?_⟩
          by_cases e : j = i
          · subst e; rw [hx] at hjz; cases hjz
          · exact h3 j (by omega) z zs hjz
    | cons x0 xs0 =>
      rw [hxx] at hx
      rcases hb with ⟨rfl, hb⟩ | ⟨k', y0, ys, rfl, h1, h2, h3⟩
      · refine .inl ⟨(((i + 1 : Nat) : Int), (i : Int)), rest.length - (i + 1), ?_, by omega, i + 1, _, rfl, by omega, .inr ⟨i, x0, xs0, rfl, by omega, hx, fun j hj z zs hjz => ?_⟩, rfl⟩
        · simp only [f22_b, if_pos (show (i : Int) < rest.length by omega), ixN c, Option.bind_some, hxx, hw, if_pos (show (-1 : Int) < 0 by decide)]
        · by_cases e : j = i
          · subst e; rw [hx] at hjz; cases hjz; exact ⟨swoI.irr _, fun h => by omega⟩
          · have := hb j (by omega) _ hjz; cases this
      · have hk' : ix rest ((k' : Nat) : Int) = some (y0 :: ys) := by rw [ix_nat]; exact h2
        have hst : f22_b rest ((i : Int), (k' : Int)) = if sLt x0.Key y0.Key = true then some (.inl (((i + 1 : Nat) : Int), (i : Int))) else some (.inl (((i + 1 : Nat) : Int), (k' : Int))) := by
          simp only [f22_b, if_pos (show (i : Int) < rest.length by omega), ixN c, Option.bind_some, hxx, hw, if_neg (show ¬ (k' : Int) < 0 by omega), hk']
        by_cases c2 : sLt x0.Key y0.Key = true
        · refine .inl ⟨(((i + 1 : Nat) : Int), (i : Int)), rest.length - (i + 1), by rw [hst, if_pos c2], by omega, i + 1, _, rfl, by omega, .inr ⟨i, x0, xs0, rfl, by omega, hx, fun j hj z zs hjz => ?_⟩, rfl⟩
          have hlt : ltI x0 y0 = true := c2
          by_cases e : j = i
          · subst e; rw [hx] at hjz; cases hjz; exact ⟨swoI.irr _, fun h => by omega⟩
          · obtain ⟨g1, g2⟩ := h3 j (by omega) z zs hjz
            have h4 : ltI x0 z = true := swoI.lt_le hlt g1
            exact ⟨swoI.asym h4, fun _ => h4⟩
        · refine .inl ⟨(((i + 1 : Nat) : Int), (k' : Int)), rest.length - (i + 1), by rw [hst, if_neg c2], by omega, i + 1, _, rfl, by omega, .inr ⟨k', y0, ys, rfl, by omega, h2, fun j hj z zs hjz => ?_⟩, rfl⟩
          by_cases e : j = i
          · subst e; rw [hx] at hjz; cases hjz
            exact ⟨by cases h : ltI x0 y0 with
              | false => rfl
              | true => exact absurd h c2, fun h => by omega⟩
          · exact h3 j (by omega) z zs hjz
  · refine .inr ⟨b, ?_, ?_⟩
    · simp only [f22_b, if_neg (show ¬ (i : Int) < rest.length by omega)]
    · obtain rfl : i = rest.length := by omega
      exact hb
end Au
end Go.Proofs.Y5

set_option linter.all false
set_option maxRecDepth 8000
set_option maxHeartbeats 1000000
namespace Go.Proofs.Y5
open Go.Gm
namespace Au
def astepP : List Item × Option Item → Item → List Item × Option Item
  | (_, none), it => ([], some ⟨it.Key, it.Parts, uni [] it.Offs⟩)
  | (d, some y), it => if y.Key = it.Key then (d, some ⟨y.Key, y.Parts ++ it.Parts, uni y.Offs it.Offs⟩) else (d ++ [y], some ⟨it.Key, it.Parts, uni [] it.Offs⟩)
def Bk (n : Nat) (y : Item) : Prop := y.Key.size ≤ 1500 ∧ y.Parts.length ≤ 1500 * n ∧ y.Offs.length ≤ 1500 * n ∧ ∀ p ∈ y.Parts, p.Acc.Text.size ≤ 2000000
theorem Bk.up {n : Nat} {y : Item} (h : Bk n y) : Bk (n + 1) y := ⟨h.1, by have := h.2.1; omega, by have := h.2.2.1; omega, h.2.2.2⟩
def Bd (n : Nat) (s : List Item × Option Item) : Prop := s.1.length ≤ n ∧ (∀ y ∈ s.1, Bk n y) ∧ ∀ y, s.2 = some y → Bk n y
def Ok (x : Item) : Prop := Small x ∧ Bnd x
theorem Bd.step {n : Nat} {s : List Item × Option Item} {it : Item} (h : Bd n s) (hi : Ok it) : Bd (n + 1) (astepP s it) := by
  obtain ⟨d, t⟩ := s
  obtain ⟨h1, h2, h3⟩ := h
  obtain ⟨⟨i1, i2, i3⟩, _, ⟨_, i4⟩, _⟩ := hi
  have hu := uni_len [] it.Offs
  simp at hu
  have hnew : Bk (n + 1) ⟨it.Key, it.Parts, uni [] it.Offs⟩ := ⟨i1, by simp only; omega, by simp only; omega, i4⟩
  cases t with
  | none => exact ⟨by simp [astepP], by simp [astepP], fun y hy => by simp only [astepP, Option.some.injEq] at hy; subst hy; exact hnew⟩
  | some y =>
    obtain ⟨k1, k2, k3, k4⟩ := h3 y rfl
    simp only [astepP]
    split
    · refine ⟨by simp only; simp only at h1; omega, fun z hz => (h2 z hz).up, fun z hz => ?_⟩
      simp only [Option.some.injEq] at hz; subst hz
      have hu2 := uni_len y.Offs it.Offs
      refine ⟨k1, by simp only [List.length_append]; omega, by simp only; omega, fun p hp => ?_⟩
      rcases List.mem_append.1 hp with hp | hp
      · exact k4 p hp
      · exact i4 p hp
    · refine ⟨by simp only [List.length_append, List.length_singleton]; simp only at h1; omega, fun z hz => ?_, fun z hz => ?_⟩
      · rcases List.mem_append.1 hz with hz | hz
        · exact (h2 z hz).up
        · simp at hz; rw [hz]; exact (h3 y rfl).up
      · simp only [Option.some.injEq] at hz; subst hz; exact hnew
theorem astep_ok {n : Nat} {d : List Item} {t : Option Item} {it : Item} (h : Bd n (d, t)) (hn : n ≤ 300) (hi : Ok it) : astep d t it = some (astepP (d, t) it) := by
  obtain ⟨h1, h2, h3⟩ := h
  obtain ⟨⟨i1, i2, i3⟩, _⟩ := hi
  simp only at h1
  unfold astep
  rw [guardO_ok (by omega), Option.bind_some]
  cases t with
  | none => simp only [astepP]; rw [appO_ok' (by simp) (by omega), Option.bind_some, both_eq (by simp; omega)]; rfl
  | some y =>
    obtain ⟨k1, k2, k3, k4⟩ := h3 y rfl
    simp only [astepP]
    split
    · rw [appO_ok' (by omega) (by omega), Option.bind_some, both_eq (by omega)]; rfl
    · rw [appO_ok' (by simp) (by omega), Option.bind_some, both_eq (by simp; omega)]; rfl
structure MI (R : List (List Item)) (M : List Item) (rest : List (List Item)) : Prop where
  srt : Srt ltI M
  rs : ∀ l ∈ rest, Srt ltI l
  sf : SF ltI (M ++ rest.flatten) R.flatten
  le : ∀ x ∈ M, ∀ y ∈ rest.flatten, ltI y x = false
theorem MI.step {R : List (List Item)} {M : List Item} {rest : List (List Item)} (h : MI R M rest) {k : Nat} {y0 : Item} {ys : List Item} (hk : rest[k]? = some (y0 :: ys))
    (hb : ∀ j, j < rest.length → ∀ z zs, rest[j]? = some (z :: zs) → ltI z y0 = false ∧ (j < k → ltI y0 z = true)) : MI R (M ++ [y0]) (rest.set k ys) ∧ (rest.set k ys).flatten.length + 1 = rest.flatten.length := by
  have hlt := (List.getElem?_eq_some_iff.1 hk).1
  obtain ⟨A, B, hA, hAl⟩ : ∃ A B, rest = A ++ (y0 :: ys) :: B ∧ A.length = k := by
    obtain ⟨A, x, B, h1, h2⟩ := split_mid hlt
    refine ⟨A, B, ?_, h2⟩
    rw [h1, List.getElem?_append_right (by omega), h2, Nat.sub_self] at hk
    simp at hk
    rw [h1, hk]
  have hset : rest.set k ys = A ++ ys :: B := by rw [hA, set_mid' hAl.symm]
  have hfl : rest.flatten = A.flatten ++ ((y0 :: ys) ++ B.flatten) := by rw [hA]; simp
  have hfl2 : (rest.set k ys).flatten = A.flatten ++ (ys ++ B.flatten) := by rw [hset]; simp
  have mem : ∀ x ∈ rest.flatten, ∃ j z zs, j < rest.length ∧ rest[j]? = some (z :: zs) ∧ x ∈ z :: zs := fun x hx => by
    obtain ⟨l, hl, hx⟩ := List.mem_flatten.1 hx
    obtain ⟨j, hj⟩ := List.getElem?_of_mem hl
    cases l with
    | nil => cases hx
    | cons z zs => exact ⟨j, z, zs, (List.getElem?_eq_some_iff.1 hj).1, hj, hx⟩
  have low : ∀ x ∈ rest.flatten, ltI x y0 = false := fun x hx => by
    obtain ⟨j, z, zs, hj, hz, hx⟩ := mem x hx
    have g1 := (hb j hj z zs hz).1
    rcases List.mem_cons.1 hx with rfl | hx
    · exact g1
    · exact swoI.le_trans g1 ((List.pairwise_cons.1 (h.rs _ (List.mem_of_getElem? hz))).1 x hx)
  have lowA : ∀ x ∈ A.flatten, ltI y0 x = true := fun x hx => by
    obtain ⟨l, hl, hx⟩ := List.mem_flatten.1 hx
    obtain ⟨j, hj⟩ := List.getElem?_of_mem hl
    have hjl := (List.getElem?_eq_some_iff.1 hj).1
    have hj2 : rest[j]? = some l := by rw [hA, List.getElem?_append_left hjl]; exact hj
    cases l with
    | nil => cases hx
    | cons z zs =>
      have g1 := (hb j (by omega) z zs hj2).2 (by omega)
      rcases List.mem_cons.1 hx with rfl | hx
      · exact g1
      · exact swoI.lt_le g1 ((List.pairwise_cons.1 (h.rs _ (List.mem_of_getElem? hj2))).1 x hx)
  have sub : ∀ x ∈ (rest.set k ys).flatten, x ∈ rest.flatten := fun x hx => by
    rw [hfl2] at hx
    rw [hfl]
    simp only [List.mem_append, List.mem_cons] at hx ⊢
    rcases hx with hx | hx | hx
    · exact .inl hx
    · exact .inr (.inl (.inr hx))
    · exact .inr (.inr hx)
  refine ⟨⟨?_, fun l hl => ?_, ?_, fun x hx y hy => ?_⟩, by rw [hfl, hfl2]; simp; omega⟩
  · exact Srt.append h.srt (Srt.one y0) fun x hx y hy => by
      simp at hy; subst hy
      exact h.le x hx y (by rw [hfl]; simp)
  · rw [hset] at hl
    rcases List.mem_append.1 hl with hl | hl
    · exact h.rs l (by rw [hA]; exact List.mem_append_left _ hl)
    · rcases List.mem_cons.1 hl with rfl | hl
      · exact (List.pairwise_cons.1 (h.rs (y0 :: l) (by rw [hA]; simp))).2
      · exact h.rs l (by rw [hA]; exact List.mem_append_right _ (List.mem_cons_of_mem _ hl))
  · refine SF.trans ?_ h.sf
    rw [hfl, hfl2, List.append_assoc]
    refine (SF.refl M).append ?_
    have h1 : SF ltI ([y0] ++ A.flatten) (A.flatten ++ [y0]) := (SF.swap swoI fun x hx y hy => by simp at hy; subst hy; exact lowA x hx).symm
    have := h1.append (SF.refl (ys ++ B.flatten))
    simpa using this
  · rcases List.mem_append.1 hx with hx | hx
    · exact h.le x hx y (sub y hy)
    · simp at hx; subst hx; exact low y (sub y hy)
theorem merge_eq {R : List (List Item)} (hR : R.length ≤ 100000) (hs : ∀ l ∈ R, Srt ltI l) (hn : R.flatten.length ≤ 200) (ho : ∀ x ∈ R.flatten, Ok x) :
    ∃ r M, loopO f22_s (R, [], none) = some r ∧ r.2 = M.foldl astepP ([], none) ∧ Srt ltI M ∧ SF ltI M R.flatten ∧ M.length ≤ 200 ∧ Bd M.length r.2 := by
  obtain ⟨r, h1, M, h2⟩ := loopO_of (step := f22_s) (I := fun k s => ∃ M, s.2 = M.foldl astepP ([], none) ∧ s.1.length = R.length ∧ MI R M s.1 ∧ Bd M.length s.2 ∧ M.length + s.1.flatten.length = R.flatten.length ∧ k = s.1.flatten.length)
    (Q := fun r => ∃ M, r.2 = M.foldl astepP ([], none) ∧ Srt ltI M ∧ SF ltI M R.flatten ∧ M.length ≤ 200 ∧ Bd M.length r.2) (by
    rintro k ⟨rest, d, t⟩ ⟨M, h1, hrl, h2, h3, h4, h5⟩
    simp only at h1 hrl h2 h3 h4 h5
    obtain ⟨b, hb, hbest⟩ := best_eq (rest := rest) (by omega)
    rcases hbest with ⟨rfl, hall⟩ | ⟨k', y0, ys, rfl, hk', hrk, hmin⟩
    · refine .inr ⟨(rest, d, t), ?_, M, h1, h2.srt, ?_, by omega, h3⟩
      · simp only [f22_s, hb, Option.bind_some, if_pos (show (-1 : Int) < 0 by decide)]
      · have : rest.flatten = [] := by
          rw [List.flatten_eq_nil_iff]
          intro l hl
          obtain ⟨j, hj⟩ := List.getElem?_of_mem hl
          exact hall j (List.getElem?_eq_some_iff.1 hj).1 l hj
        have := h2.sf
        rwa [‹rest.flatten = []›, List.append_nil] at this
    · obtain ⟨g1, g2⟩ := h2.step hrk hmin
      have hy0 : y0 ∈ R.flatten := by
        refine h2.sf.mem swoI (List.mem_append_right _ (List.mem_flatten.2 ⟨_, List.mem_of_getElem? hrk, List.mem_cons_self⟩))
      have hst := astep_ok h3 (by omega) (ho y0 hy0)
      refine .inl ⟨(rest.set k' ys, astepP (d, t) y0), (rest.set k' ys).flatten.length, ?_, by omega, M ++ [y0], ?_, by simp; omega, g1, ?_, ?_, rfl⟩
      · simp only [f22_s, hb, Option.bind_some, if_neg (show ¬ ((k' : Nat) : Int) < 0 by omega), ix_nat, hrk, hst, Int.toNat_natCast]
      · simp only [List.foldl_append, List.foldl_cons, List.foldl_nil, ← h1]
      · rw [List.length_append, List.length_singleton]; exact h3.step (ho y0 hy0)
      · simp only [List.length_append, List.length_singleton]; omega) (k := R.flatten.length) (s := (R, [], none))
    ⟨[], rfl, rfl, ⟨Srt.nil, hs, by simpa using SF.refl _, by simp⟩, ⟨by simp, by simp, by simp⟩, by simp, rfl⟩
  exact ⟨r, M, h1, h2⟩
theorem all_eq {L : List (List Item)} (hL : L.length ≤ 1000) (hl : ∀ l ∈ L, l.length ≤ 1000) (hn : L.flatten.length ≤ 200) (ho : ∀ x ∈ L.flatten, Ok x) :
    ∃ M d t, f9 L = some (aout d t) ∧ (d, t) = M.foldl astepP ([], none) ∧ Srt ltI M ∧ SF ltI M L.flatten ∧ M.length ≤ 200 ∧ Bd M.length (d, t) := by
  have hord : ∀ l ∈ L, Sorts ltI l (ordF l) := fun l h => (ordF_ok (by have := hl l h; omega)).2
  have hsf : ∀ L' : List (List Item), (∀ l ∈ L', l ∈ L) → SF ltI (L'.map ordF).flatten L'.flatten ∧ (L'.map ordF).flatten.length = L'.flatten.length := fun L' => by
    induction L' with
    | nil => intro _; exact ⟨SF.refl _, rfl⟩
    | cons a L' ih =>
      intro h
      obtain ⟨i1, i2⟩ := ih fun l hl => h l (List.mem_cons_of_mem _ hl)
      have ha := hord a (h a List.mem_cons_self)
      refine ⟨?_, ?_⟩
      · simp only [List.map_cons, List.flatten_cons]; exact ha.sf.append i1
      · simp only [List.map_cons, List.flatten_cons, List.length_append, i2, ha.len]
  obtain ⟨s1, s2⟩ := hsf L fun _ h => h
  obtain ⟨⟨rest, d, t⟩, M, g1, g2, g3, g4, g5, g6⟩ := merge_eq (R := L.map ordF) (by simp; omega) (fun l h => by
    obtain ⟨a, ha, rfl⟩ := List.mem_map.1 h
    exact (hord a ha).srt) (by rw [s2]; exact hn) (fun x hx => ho x (s1.mem swoI hx))
  refine ⟨M, d, t, ?_, g2, g3, g4.trans s1, g5, g6⟩
  unfold f9
  rw [guardO_ok (by omega), Option.bind_some, fill_eq (by omega) (fun l h => by have := hl l h; omega), Option.bind_some, mapM_some, Option.bind_some, g1]; rfl
end Au
end Go.Proofs.Y5
