import Derived.Test.YtlonihmeikmpiaaGuS7P
import Derived.Test.YtlonihmeikmpiaaGuDGf6
set_option linter.all false
set_option linter.unusedVariables false
set_option linter.unusedSimpArgs false
set_option linter.all false
set_option maxRecDepth 8000
namespace Go.Proofs.Y1
open Go.Gm
namespace Au
/-- what was sent, and how often: 'k' messages were refused for want of room -/
structure Kp (g : Bag) (sent : List Msg) (never : Int) (k : Nat) : Prop where
  ok : Ok g
  mem : ∀ m ∈ g.l, m ∈ sent
  slen : sent.length ≤ k
  s0 : 0 ≤ g.sent ∧ g.sent ≤ k
  t0 : 0 ≤ g.taken ∧ g.taken ≤ k
  l0 : 0 ≤ g.lost ∧ g.lost ≤ k
  v0 : 0 ≤ never ∧ never ≤ k
  sum : g.sent = g.l.length + g.taken + g.lost - never
  most : g.most = 20
def stK (g : Bag) (i : Int) (sent : List Msg) (never : Int) : Int × Int × Bool × Bool × Bool × Bool × Bool × Bool × Bool × Bool × (List Msg) × Int × Int × Int × Int × (List Msg) × Int :=
  (g.nodes, g.most, g.down.e0, g.down.e1, g.down.e2, g.down.e3, g.down.e4, g.down.e5, g.down.e6, g.down.e7, g.l, g.sent, g.taken, g.lost, i, sent, never)
theorem w1 {n : Int} {k : Nat} (hk : k ≤ 1048576) (h0 : 0 ≤ n) (h : n ≤ k) : IntKind.i64.wrap (n + 1) = n + 1 := i64_id (by omega) (by omega)
theorem found {sent : List Msg} {x : Msg × Bool × Bag} (hl : sent.length ≤ 1048576) (h : x.2.1 = true → x.1 ∈ sent) : loopO (f6_s7 sent x) (!x.2.1, 0) = some true := by
  have key : ∃ r, loopO (f6_s7 sent x) (!x.2.1, 0) = some r ∧ r = true := by
    refine loopO_of (fun n s => ∃ (b : Bool) (i : Nat), s = (b, (i : Int)) ∧ i ≤ sent.length ∧ n = sent.length - i ∧ (b = true ∨ (x.2.1 = true ∧ ∃ (j : Nat) (hj : j < sent.length), i ≤ j ∧ sent[j] = x.1))) ?_ (k := sent.length) ⟨!x.2.1, 0, rfl, by omega, by omega, ?_⟩
    · rintro n _ ⟨b, i, rfl, hi, hn, hb⟩
      by_cases hlt : i < sent.length
      · have hx := ixN hlt
        have hw := wrapN (show i ≤ 10000000000 by omega)
        cases b with
        | true =>
          refine .inl ⟨(true, ((i + 1 : Nat) : Int)), n - 1, ?_, by omega, true, i + 1, rfl, by omega, by omega, .inl rfl⟩
          simp only [f6_s7, if_pos (show (i : Int) < ((sent.length : Nat) : Int) by omega), if_true, hw]
        | false =>
          rcases hb with hb | ⟨hx1, j, hj, hij, he⟩
          · cases hb
          · obtain ⟨b', hs, hbt⟩ : ∃ b', f36 [x.1] [sent[i]] = some b' ∧ (sent[i] = x.1 → b' = true) := by
              have q := same_eq (a := [x.1]) (b := [sent[i]]) rfl (by simp)
              exact ⟨_, q, fun e => by simp [e]⟩
            refine .inl ⟨(b', ((i + 1 : Nat) : Int)), n - 1, ?_, by omega, b', i + 1, rfl, by omega, by omega, ?_⟩
            · simp only [f6_s7, if_pos (show (i : Int) < ((sent.length : Nat) : Int) by omega), Bool.false_eq_true, if_false, hx, Option.bind_some, hs, hw]
            · by_cases hq : sent[i] = x.1
              · exact .inl (hbt hq)
              · refine .inr ⟨hx1, j, hj, ?_, he⟩
                have : i ≠ j := fun e => hq (by subst e; exact he)
                omega
      · have : i = sent.length := by omega
        subst this
        rcases hb with rfl | ⟨_, j, hj, hij, _⟩
        · exact .inr ⟨true, by simp [f6_s7], rfl⟩
        · omega
    · cases hx : x.2.1 with
      | false => exact .inl rfl
      | true =>
        obtain ⟨j, hj, he⟩ := List.getElem_of_mem (h hx)
        exact .inr ⟨rfl, j, hj, by omega, he⟩
  obtain ⟨r, hr, rfl⟩ := key
  exact hr
section
variable {g : Bag} {sent : List Msg} {never : Int} {k : Nat}
theorem kp_mono (h : Kp g sent never k) : Kp g sent never (k + 1) :=
  ⟨h.ok, h.mem, by have := h.slen; omega, by have := h.s0; omega, by have := h.t0; omega, by have := h.l0; omega, by have := h.v0; omega, h.sum, h.most⟩
theorem kp_take (hk : k ≤ 1048576) (h : Kp g sent never k) (i : Int) : Kp (takeP g i).2.2 sent never (k + 1) ∧ ((takeP g i).2.1 = true → (takeP g i).1 ∈ sent) := by
  have ho := take_ok h.ok (i := i)
  have hs := h.s0; have ht := h.t0; have hl := h.l0; have hv := h.v0; have hm := h.sum; have hlen := h.slen
  have wl := w1 hk hl.1 hl.2
  have wt := w1 hk ht.1 ht.2
  unfold takeP at ho ⊢
  by_cases c1 : 0 ≤ i ∧ i < (g.l.length : Int)
  · have hle : (g.l.eraseIdx i.toNat).length = g.l.length - 1 := List.length_eraseIdx_of_lt (by omega)
    rw [if_pos c1] at ho ⊢
    by_cases c2 : g.down.get (g.l.getD i.toNat m0).To.toNat = true
    · rw [if_pos c2] at ho ⊢
      rw [wl] at ho ⊢
      exact ⟨⟨ho, fun m hm => h.mem m (List.mem_of_mem_eraseIdx hm), by omega, by simp only; omega, by simp only; omega, by simp only; omega, by omega, by simp only; omega, h.most⟩, fun e => by cases e⟩
    · rw [if_neg c2] at ho ⊢
      rw [wt] at ho ⊢
      exact ⟨⟨ho, fun m hm => h.mem m (List.mem_of_mem_eraseIdx hm), by omega, by simp only; omega, by simp only; omega, by simp only; omega, by omega, by simp only; omega, h.most⟩, fun _ => h.mem _ (getD_mem c1)⟩
  · rw [if_neg c1]
    exact ⟨kp_mono h, fun e => by cases e⟩
theorem kp_lose (hk : k ≤ 1048576) (h : Kp g sent never k) (i : Int) : Kp (loseP g i).2 sent never (k + 1) := by
  have ho := lose_ok h.ok (i := i)
  have hs := h.s0; have ht := h.t0; have hl := h.l0; have hv := h.v0; have hm := h.sum; have hlen := h.slen
  have wl := w1 hk hl.1 hl.2
  unfold loseP at ho ⊢
  by_cases c1 : 0 ≤ i ∧ i < (g.l.length : Int)
  · have hle : (g.l.eraseIdx i.toNat).length = g.l.length - 1 := List.length_eraseIdx_of_lt (by omega)
    rw [if_pos c1] at ho ⊢
    rw [wl] at ho ⊢
    exact ⟨ho, fun m hm => h.mem m (List.mem_of_mem_eraseIdx hm), by omega, by simp only; omega, by simp only; omega, by simp only; omega, by omega, by simp only; omega, h.most⟩
  · rw [if_neg c1]; exact kp_mono h
theorem kp_twice (hk : k ≤ 1048576) (h : Kp g sent never k) (i : Int) : Kp (twiceP g i).2 sent never (k + 1) := by
  have ho := twice_ok h.ok (i := i)
  have hs := h.s0; have ht := h.t0; have hl := h.l0; have hv := h.v0; have hm := h.sum; have hlen := h.slen
  have wl := w1 hk hs.1 hs.2
  unfold twiceP at ho ⊢
  by_cases c1 : 0 ≤ i ∧ i < (g.l.length : Int)
  · rw [if_pos c1] at ho ⊢
    by_cases c2 : g.most ≤ (g.l.length : Int)
    · rw [if_pos c2]; exact kp_mono h
    · rw [if_neg c2] at ho ⊢
      rw [wl] at ho ⊢
      refine ⟨ho, fun m hm => ?_, by omega, by simp only; omega, by simp only; omega, by simp only; omega, by omega, by simp; omega, h.most⟩
      rcases List.mem_append.1 hm with hm | hm
      · exact h.mem m hm
      · simp only [List.mem_singleton] at hm; rw [hm]; exact h.mem _ (getD_mem c1)
  · rw [if_neg c1]; exact kp_mono h
theorem kp_move (hk : k ≤ 1048576) (h : Kp g sent never k) (i j : Int) : Kp (moveP g i j).2 sent never (k + 1) := by
  have ho := move_ok h.ok (i := i) (j := j)
  have hs := h.s0; have ht := h.t0; have hl := h.l0; have hv := h.v0; have hm := h.sum; have hlen := h.slen
  unfold moveP at ho ⊢
  by_cases c1 : 0 ≤ i ∧ i < (g.l.length : Int)
  · have hle : (g.l.eraseIdx i.toNat).length = g.l.length - 1 := List.length_eraseIdx_of_lt (by omega)
    rw [if_pos c1] at ho ⊢
    by_cases c2 : 0 ≤ j ∧ j < (g.l.length : Int)
    · rw [if_pos c2] at ho ⊢
      have e : ((g.l.eraseIdx i.toNat).take j.toNat ++ g.l.getD i.toNat m0 :: (g.l.eraseIdx i.toNat).drop j.toNat).length = g.l.length := by simp only [List.length_append, List.length_take, List.length_cons, List.length_drop]; omega
      refine ⟨ho, fun m hm => ?_, by omega, by simp only; omega, by simp only; omega, by simp only; omega, by omega, by rw [e]; exact hm, h.most⟩
      rcases List.mem_append.1 hm with hm | hm
      · exact h.mem m (List.mem_of_mem_eraseIdx (List.mem_of_mem_take hm))
      · rcases List.mem_cons.1 hm with hm | hm
        · rw [hm]; exact h.mem _ (getD_mem c1)
        · exact h.mem m (List.mem_of_mem_eraseIdx (List.mem_of_mem_drop hm))
    · rw [if_neg c2]; exact kp_mono h
  · rw [if_neg c1]; exact kp_mono h
theorem kp_set (h : Kp g sent never k) (i : Int) (b : Bool) : Kp (setP g i b).2 sent never (k + 1) := by
  have ho := set_ok h.ok (i := i) (b := b)
  have h' := kp_mono h
  unfold setP at ho ⊢
  split
  · rename_i c; rw [if_pos c] at ho
    exact ⟨ho, h'.mem, h'.slen, h'.s0, h'.t0, h'.l0, h'.v0, h'.sum, h'.most⟩
  · exact h'
/-- what becomes of what was sent -/
theorem kp_send (hk : k ≤ 1048576) (h : Kp g sent never k) (i j : Int) {d : List Int} (hd : d.length ≤ 1048576) :
    ((sendP g i j d).1 = 0 ∧ Kp (sendP g i j d).2 (sent ++ [⟨i, j, d⟩]) never (k + 1)) ∨ ((sendP g i j d).1 = 9 ∧ Kp (sendP g i j d).2 sent (never + 1) (k + 1)) ∨ ((sendP g i j d).1 ≠ 0 ∧ (sendP g i j d).1 ≠ 9 ∧ Kp (sendP g i j d).2 sent never (k + 1)) := by
  have ho := send_ok h.ok (i := i) (j := j) hd
  have hs := h.s0; have ht := h.t0; have hl := h.l0; have hv := h.v0; have hm := h.sum; have hlen := h.slen
  have wl := w1 hk hl.1 hl.2
  have ws := w1 hk hs.1 hs.2
  unfold sendP at ho ⊢
  by_cases c1 : 0 ≤ i ∧ i < g.nodes
  · rw [if_pos c1] at ho ⊢
    by_cases c2 : 0 ≤ j ∧ j < g.nodes
    · rw [if_pos c2] at ho ⊢
      by_cases c3 : g.down.get i.toNat = true
      · rw [if_pos c3] at ho ⊢; exact .inr (.inr ⟨by simp, by simp, kp_mono h⟩)
      · rw [if_neg c3] at ho ⊢
        by_cases c4 : g.most ≤ (g.l.length : Int)
        · rw [if_pos c4] at ho ⊢
          rw [wl] at ho ⊢
          exact .inr (.inl ⟨rfl, ho, h.mem, by omega, by simp only; omega, by simp only; omega, by simp only; omega, by omega, by simp only; omega, h.most⟩)
        · rw [if_neg c4] at ho ⊢
          rw [ws] at ho ⊢
          refine .inl ⟨rfl, ho, fun m hm => ?_, by simp; omega, by simp only; omega, by simp only; omega, by simp only; omega, by omega, by simp; omega, h.most⟩
          rcases List.mem_append.1 hm with hm | hm
          · exact List.mem_append_left _ (h.mem m hm)
          · exact List.mem_append_right _ hm
    · rw [if_neg c2]; exact .inr (.inr ⟨by simp, by simp, kp_mono h⟩)
  · rw [if_neg c1]; exact .inr (.inr ⟨by simp, by simp, kp_mono h⟩)
end
theorem step6 {g : Bag} {sent : List Msg} {never : Int} {i : Nat} {l : List Act} (hl : l.length ≤ 1048576) (hb : ∀ a ∈ l, a.B.length ≤ 1048576) (hlt : i < l.length) (h : Kp g sent never i) :
    ∃ g' sent' never', f6_s4 l (stK g (i : Int) sent never) = some (.inl (stK g' ((i + 1 : Nat) : Int) sent' never')) ∧ Kp g' sent' never' (i + 1) := by
  have hx := ixN hlt
  have hw := wrapN (show i ≤ 10000000000 by omega)
  have hk : i ≤ 1048576 := by omega
  have hB := hb l[i] (List.getElem_mem hlt)
  have ei : ∀ g : Bag, (⟨g.nodes, g.most, ⟨g.down.e0, g.down.e1, g.down.e2, g.down.e3, g.down.e4, g.down.e5, g.down.e6, g.down.e7⟩, g.l, g.sent, g.taken, g.lost⟩ : Bag) = g := fun _ => rfl
  simp only [f6_s4, stK, if_pos (show (i : Int) < (l.length : Int) by omega), hx, Option.bind_some, ei, hw]
  generalize l[i] = a at hB
  by_cases c0 : a.Do = 0
  · obtain ⟨h1, h2⟩ := kp_take hk h a.I
    refine ⟨(takeP g a.I).2.2, sent, never, ?_, h1⟩
    have hf := found (sent := sent) (x := takeP g a.I) (by have := h.slen; omega) h2
    simp only [c0, if_true, (take_eq h.ok (i := a.I) (j := 0)).1, Option.bind_some, hf]
  · by_cases c1 : a.Do = 1
    · refine ⟨(loseP g a.I).2, sent, never, ?_, kp_lose hk h a.I⟩
      simp only [c1, show ((1 : Int) = 0) = False by simp, if_true, if_false, (lose_eq h.ok (i := a.I) (j := 0)).1, Option.bind_some]
    · by_cases c2 : a.Do = 2
      · refine ⟨(twiceP g a.I).2, sent, never, ?_, kp_twice hk h a.I⟩
        simp only [c2, show ((2 : Int) = 0) = False by simp, show ((2 : Int) = 1) = False by simp, if_true, if_false, (twice_eq h.ok (i := a.I) (j := 0)).1, Option.bind_some]
      · by_cases c3 : a.Do = 3
        · refine ⟨(moveP g a.I a.J).2, sent, never, ?_, kp_move hk h a.I a.J⟩
          simp only [c3, show ((3 : Int) = 0) = False by simp, show ((3 : Int) = 1) = False by simp, show ((3 : Int) = 2) = False by simp, if_true, if_false, (move_eq h.ok (i := a.I) (j := a.J) (q := 3) (by omega) (by omega) (by omega)).1, Option.bind_some]
        · by_cases c4 : a.Do = 4
          · have hse := (send_eq h.ok (i := a.I) (j := a.J) hB).1
            have e9 : ((0 : Int) = 9) = False := by simp
            have e0 : ((9 : Int) = 0) = False := by simp
            have hv := h.v0
            rcases kp_send hk h a.I a.J hB with ⟨q1, q2⟩ | ⟨q1, q2⟩ | ⟨q1, q2, q3⟩
            · refine ⟨(sendP g a.I a.J a.B).2, sent ++ [⟨a.I, a.J, a.B⟩], never, ?_, q2⟩
              simp only [c0, c1, c2, c3, c4, if_true, if_false, hse, Option.bind_some, f34, q1, e9, appO_ok' (l := sent) (r := [⟨a.I, a.J, a.B⟩]) (by have := h.slen; omega) (by simp)]
              rfl
            · refine ⟨(sendP g a.I a.J a.B).2, sent, never + 1, ?_, q2⟩
              have hwn := w1 hk hv.1 hv.2
              simp only [c0, c1, c2, c3, c4, if_true, if_false, hse, Option.bind_some, f34, q1, e0, hwn]
              rfl
            · refine ⟨(sendP g a.I a.J a.B).2, sent, never, ?_, q3⟩
              simp only [c0, c1, c2, c3, c4, if_true, if_false, hse, Option.bind_some, f34, q1, q2]
              rfl
          · by_cases c5 : a.Do = 5
            · refine ⟨(setP g a.I a.Up).2, sent, never, ?_, kp_set h a.I a.Up⟩
              simp only [c0, c1, c2, c3, c4, c5, show ((5 : Int) = 0) = False by simp, show ((5 : Int) = 1) = False by simp, show ((5 : Int) = 2) = False by simp, show ((5 : Int) = 3) = False by simp, show ((5 : Int) = 4) = False by simp, if_true, if_false, set_eq h.ok, Option.bind_some]
            · refine ⟨g, sent, never, ?_, kp_mono h⟩
              simp only [c0, c1, c2, c3, c4, c5, if_false]
theorem loop6 {g : Bag} {l : List Act} (hl : l.length ≤ 1048576) (hb : ∀ a ∈ l, a.B.length ≤ 1048576) (h : Kp g [] 0 0) :
    ∃ g' sent' never', loopO (f6_s4 l) (stK g 0 [] 0) = some (.inr (never', g'.nodes, g'.most, g'.down.e0, g'.down.e1, g'.down.e2, g'.down.e3, g'.down.e4, g'.down.e5, g'.down.e6, g'.down.e7, g'.sent, g'.taken, g'.lost, g'.l)) ∧ Kp g' sent' never' l.length := by
  have key : ∃ r, loopO (f6_s4 l) (stK g 0 [] 0) = some r ∧ ∃ g' sent' never', r = .inr (never', g'.nodes, g'.most, g'.down.e0, g'.down.e1, g'.down.e2, g'.down.e3, g'.down.e4, g'.down.e5, g'.down.e6, g'.down.e7, g'.sent, g'.taken, g'.lost, g'.l) ∧ Kp g' sent' never' l.length := by
    refine loopO_of (fun n s => ∃ (g : Bag) (i : Nat) (sent : List Msg) (never : Int), s = stK g (i : Int) sent never ∧ i ≤ l.length ∧ n = l.length - i ∧ Kp g sent never i) ?_ (k := l.length) ⟨g, 0, [], 0, rfl, by omega, by omega, h⟩
    rintro n _ ⟨g, i, sent, never, rfl, hi, hn, h⟩
    by_cases hlt : i < l.length
    · obtain ⟨g', sent', never', h1, h2⟩ := step6 hl hb hlt h
      exact .inl ⟨_, n - 1, h1, by omega, g', i + 1, sent', never', rfl, by omega, by omega, h2⟩
    · have : i = l.length := by omega
      subst this
      refine .inr ⟨_, ?_, g, sent, never, rfl, h⟩
      simp only [f6_s4, stK, Int.lt_irrefl, if_false]
  obtain ⟨r, hr, g', s', v', rfl, h⟩ := key
  exact ⟨g', s', v', hr, h⟩
theorem law6 {l : List Act} (hl : l.length ≤ 1048576) (hb : ∀ a ∈ l, a.B.length ≤ 1048576) : f6 l = some true := by
  obtain ⟨b, hb1, hb2⟩ := much7 hl hb
  unfold f6
  rw [hb1, Option.bind_some]
  cases b with
  | true => simp only [if_true, live7, Option.bind_some]
  | false =>
    have hN : f33 3 20 = some (some ⟨3, 20, ⟨false, false, false, false, false, false, false, false⟩, [], 0, 0, 0⟩, 0) := by simp [f33]
    have hk : Kp ⟨3, 20, ⟨false, false, false, false, false, false, false, false⟩, [], 0, 0, 0⟩ [] 0 0 :=
      ⟨⟨by simp, by simp, by simp, by simp, (fun m hm => by cases hm)⟩, (fun m hm => by cases hm), by simp, by simp, by simp, by simp, by simp, by simp, rfl⟩
    obtain ⟨g', s', v', hL, h⟩ := loop6 hl hb hk
    simp only [stK] at hL
    have hs := h.s0; have ht := h.t0; have hlo := h.l0; have hv := h.v0; have hm := h.sum; have hlen := h.ok.len
    have e1 : IntKind.i64.wrap (((g'.l.length : Nat) : Int) + g'.taken) = ((g'.l.length : Nat) : Int) + g'.taken := i64_id (by omega) (by omega)
    have e2 : IntKind.i64.wrap (((g'.l.length : Nat) : Int) + g'.taken + g'.lost) = ((g'.l.length : Nat) : Int) + g'.taken + g'.lost := i64_id (by omega) (by omega)
    have e3 : IntKind.i64.wrap (((g'.l.length : Nat) : Int) + g'.taken + g'.lost - v') = ((g'.l.length : Nat) : Int) + g'.taken + g'.lost - v' := i64_id (by omega) (by omega)
    simp only [Bool.false_eq_true, if_false, hN, Option.bind_some, f34, if_true, hL, f42, f43, e1, e2, e3, hm, live7]
end Au
end Go.Proofs.Y1
