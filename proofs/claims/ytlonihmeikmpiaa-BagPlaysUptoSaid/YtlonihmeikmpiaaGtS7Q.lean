import Derived.Test.YtlonihmeikmpiaaGtS7P
set_option linter.all false
set_option linter.unusedVariables false
set_option linter.unusedSimpArgs false
set_option linter.all false
set_option maxRecDepth 8000
namespace Go.Proofs.Y1
open Go.Gm
namespace Au
theorem send_n {g : Bag} {i j : Int} {d : List Int} : (sendP g i j d).2.nodes = g.nodes := by unfold sendP; (repeat' split) <;> rfl
theorem set_n {g : Bag} {i : Int} {b : Bool} : (setP g i b).2.nodes = g.nodes := by unfold setP; (repeat' split) <;> rfl
theorem take_n {g : Bag} {i : Int} : (takeP g i).2.2.nodes = g.nodes := by unfold takeP; (repeat' split) <;> rfl
theorem lose_n {g : Bag} {i : Int} : (loseP g i).2.nodes = g.nodes := by unfold loseP; (repeat' split) <;> rfl
theorem twice_n {g : Bag} {i : Int} : (twiceP g i).2.nodes = g.nodes := by unfold twiceP; (repeat' split) <;> rfl
theorem move_n {g : Bag} {i j : Int} : (moveP g i j).2.nodes = g.nodes := by unfold moveP; (repeat' split) <;> rfl
theorem step_eq {g : Bag} (hg : Ok g) (a : Act) (hb : a.B.length ≤ 1048576) : ∃ g', f48 g (toR g) a = some (toR g', true, g') ∧ Ok g' ∧ g'.nodes = g.nodes := by
  unfold f48
  by_cases c4 : a.Do = 4
  · obtain ⟨h1, h2⟩ := send_eq hg (i := a.I) (j := a.J) hb
    refine ⟨(sendP g a.I a.J a.B).2, ?_, send_ok hg hb, send_n⟩
    simp only [c4, if_true, h1, h2, Option.bind_some, f34, decide_true]
  · simp only [c4, if_false]
    by_cases c5 : a.Do = 5
    · have hn := hg.n8
      refine ⟨(setP g a.I a.Up).2, ?_, set_ok hg, set_n⟩
      simp only [c5, if_true, set_eq hg, Option.bind_some, f34]
      unfold setP
      by_cases d1 : a.I < 0
      · have c1 : ¬ (0 ≤ a.I ∧ a.I < g.nodes) := by omega
        simp only [d1, c1, if_true, if_false, decide_true]
      · by_cases d2 : g.nodes ≤ a.I
        · have c1 : ¬ (0 ≤ a.I ∧ a.I < g.nodes) := by omega
          have d2' : (toR g).Nodes ≤ a.I := d2
          simp only [d1, d2', c1, if_true, if_false, decide_true]
        · have c1 : (0 ≤ a.I ∧ a.I < g.nodes) := by omega
          have d2' : ¬ (toR g).Nodes ≤ a.I := d2
          simp only [d1, d2', guard_ok (show 0 ≤ a.I ∧ a.I < 8 by omega), if_false, Option.bind_some]
          simp only [c1, and_self, if_true, decide_true]
          rfl
    · simp only [c5, if_false]
      have h36 : ∀ m : Msg, f36 [⟨m.From, m.To, m.Data⟩] [m] = some true := fun m => same_refl (a := [m]) (by simp)
      have h37 : f36 [⟨0, 0, []⟩] [m0] = some true := same_refl (a := [m0]) (by simp)
      by_cases c0 : a.Do = 0
      · obtain ⟨h1, h2⟩ := take_eq hg (i := a.I) (j := a.J)
        refine ⟨(takeP g a.I).2.2, ?_, take_ok hg, take_n⟩
        simp only [c0, if_true, h1, Option.bind_some, f48_j1, h2, h36]
      · by_cases c1 : a.Do = 1
        · obtain ⟨h1, h2⟩ := lose_eq hg (i := a.I) (j := a.J)
          refine ⟨(loseP g a.I).2, ?_, lose_ok hg, lose_n⟩
          simp only [c1, show ((1 : Int) = 0) = False by simp, if_true, if_false, h1, Option.bind_some, f48_j1, h2, h37]
        · by_cases c2 : a.Do = 2
          · obtain ⟨h1, h2⟩ := twice_eq hg (i := a.I) (j := a.J)
            refine ⟨(twiceP g a.I).2, ?_, twice_ok hg, twice_n⟩
            simp only [c2, show ((2 : Int) = 0) = False by simp, show ((2 : Int) = 1) = False by simp, if_true, if_false, h1, Option.bind_some, f48_j1, h2, h37]
          · by_cases c3 : a.Do = 3
            · obtain ⟨h1, h2⟩ := move_eq hg (i := a.I) (j := a.J) (q := 3) (by omega) (by omega) (by omega)
              refine ⟨(moveP g a.I a.J).2, ?_, move_ok hg, move_n⟩
              simp only [c3, show ((3 : Int) = 0) = False by simp, show ((3 : Int) = 1) = False by simp, show ((3 : Int) = 2) = False by simp, if_true, if_false, h1, Option.bind_some, f48_j1, h2, h37]
            · refine ⟨g, ?_, hg, rfl⟩
              simp only [c0, c1, c2, c3, if_false]
theorem all_eq {g : Bag} (hg : Ok g) : f49 g = some (g.l, g) := by
  have hlen := hg.len
  have key : ∃ r, loopO (f49_s1 g) ([], 0) = some r ∧ r = g.l := by
    refine loopO_of (fun n s => ∃ i : Nat, s = (g.l.take i, (i : Int)) ∧ i ≤ g.l.length ∧ n = g.l.length - i) ?_ (k := g.l.length) ⟨0, rfl, by omega, by omega⟩
    rintro n _ ⟨i, rfl, hi, hn⟩
    by_cases hlt : i < g.l.length
    · have hx := ixN hlt
      obtain ⟨_, _, hd⟩ := hg.msgs g.l[i] (List.getElem_mem hlt)
      refine .inl ⟨(g.l.take (i + 1), ((i + 1 : Nat) : Int)), n - 1, ?_, by omega, i + 1, rfl, by omega, by omega⟩
      simp only [f49_s1, if_pos (show (i : Int) < ((g.l.length : Nat) : Int) by omega), hx, Option.bind_some, copied_eq hd, appO_ok' (l := g.l.take i) (r := [g.l[i]]) (by simp; omega) (by simp), wrapN (show i ≤ 10000000000 by omega)]
      rw [List.take_add_one, List.getElem?_eq_getElem hlt]; rfl
    · have : i = g.l.length := by omega
      subst this
      exact .inr ⟨_, by simp [f49_s1], rfl⟩
  obtain ⟨r, hr, rfl⟩ := key
  unfold f49
  rw [hr]; rfl
def stP (g : Bag) (i : Int) : Int × Int × Bool × Bool × Bool × Bool × Bool × Bool × Bool × Bool × (List Msg) × Int × Int × Int × Int × Int × Bool × Bool × Bool × Bool × Bool × Bool × Bool × Bool × (List Msg) × Int × Int × Int × Int :=
  (g.nodes, g.most, g.down.e0, g.down.e1, g.down.e2, g.down.e3, g.down.e4, g.down.e5, g.down.e6, g.down.e7, g.l, g.sent, g.taken, g.lost,
   g.nodes, g.most, g.down.e0, g.down.e1, g.down.e2, g.down.e3, g.down.e4, g.down.e5, g.down.e6, g.down.e7, g.l, g.sent, g.taken, g.lost, i)
theorem loop8 {g : Bag} (hg : Ok g) {n : Int} (hn : g.nodes = n) {l : List Act} (hl : l.length ≤ 1048576) (hb : ∀ a ∈ l, a.B.length ≤ 1048576) : loopO (f8_s1 n l) (stP g 0) = some (.inr ()) := by
  have key : ∃ r, loopO (f8_s1 n l) (stP g 0) = some r ∧ r = .inr () := by
    refine loopO_of (fun k s => ∃ (g : Bag) (i : Nat), s = stP g (i : Int) ∧ i ≤ l.length ∧ k = l.length - i ∧ Ok g ∧ g.nodes = n) ?_ (k := l.length) ⟨g, 0, rfl, by omega, by omega, hg, hn⟩
    rintro k _ ⟨g, i, rfl, hi, hk, hg, hgn⟩
    by_cases hlt : i < l.length
    · have hx := ixN hlt
      obtain ⟨g', hs, hg', hn'⟩ := step_eq hg l[i] (hb _ (List.getElem_mem hlt))
      have hs' : f48 ⟨g.nodes, g.most, ⟨g.down.e0, g.down.e1, g.down.e2, g.down.e3, g.down.e4, g.down.e5, g.down.e6, g.down.e7⟩, g.l, g.sent, g.taken, g.lost⟩ ⟨g.nodes, g.most, ⟨g.down.e0, g.down.e1, g.down.e2, g.down.e3, g.down.e4, g.down.e5, g.down.e6, g.down.e7⟩, g.l, ⟨g.sent, g.taken, g.lost⟩⟩ l[i] = some (toR g', true, g') := hs
      refine .inl ⟨stP g' ((i + 1 : Nat) : Int), k - 1, ?_, by omega, g', i + 1, rfl, by omega, by omega, hg', by rw [hn', hgn]⟩
      have hlen := hg'.len
      have h36 : f36 g'.l (toR g').L = some true := same_refl (a := g'.l) (by omega)
      have hN : (decide ((toR g').N.e0 = g'.sent) && (decide ((toR g').N.e1 = g'.taken) && decide ((toR g').N.e2 = g'.lost))) = true := by simp [toR]
      have hL : (((g'.l.length : Nat) : Int) = ((toR g').L.length : Int)) = True := eq_true rfl
      have hw := wrapN (show i ≤ 10000000000 by omega)
      have h8 := hg'.n8
      simp only [f8_s1, stP, if_pos (show (i : Int) < (l.length : Int) by omega), hx, Option.bind_some, hs', f42, f43, all_eq hg', h36, hN, hL, if_true, up_eq hg', hw]
      have hnn : g'.nodes = n := by rw [hn', hgn]
      by_cases j0 : 0 ≤ l[i].J
      · by_cases j1 : l[i].J < n
        · have hm : l[i].J.tmod 8 = l[i].J := Int.tmod_eq_of_lt j0 (by omega)
          have hdn : (toR g').Down = g'.down := rfl
          have j1' : l[i].J < g'.nodes := by omega
          simp only [hm, guard_ok (show 0 ≤ l[i].J ∧ l[i].J < 8 by omega)]
          simp only [j0, j1, j1', if_true, Option.bind_some, hdn, and_self, decide_true, Bool.true_and]
          rfl
        · have j1' : ¬ l[i].J < g'.nodes := by omega
          simp only [j0, j1, j1', if_true, if_false, and_false, decide_false, Bool.false_and]
          rfl
      · simp only [j0, if_false, false_and, decide_false, Bool.false_and, if_true]
        rfl
    · have : i = l.length := by omega
      subst this
      refine .inr ⟨.inr (), ?_, rfl⟩
      simp only [f8_s1, stP, Int.lt_irrefl, if_false]
  obtain ⟨r, hr, rfl⟩ := key
  exact hr
theorem law8 {n m : Int} {l : List Act} (hl : l.length ≤ 1048576) (hb : ∀ a ∈ l, a.B.length ≤ 1048576) : f8 n m l = some true := by
  obtain ⟨b, hb1, hb2⟩ := much7 hl hb
  unfold f8
  rw [hb1, Option.bind_some]
  cases b with
  | true => simp only [if_true, live7, Option.bind_some]
  | false =>
    simp only [Bool.false_eq_true, if_false]
    by_cases c1 : n < 1
    · simp only [f33, c1, if_true, Option.bind_some, f34, live7]
    · by_cases c2 : 8 < n
      · simp only [f33, c1, c2, if_true, if_false, Option.bind_some, f34, live7]
      · by_cases c3 : m < 1
        · simp only [f33, c1, c2, c3, if_true, if_false, Option.bind_some, f34, live7]
        · by_cases c4 : 512 < m
          · simp only [f33, c1, c2, c3, c4, if_true, if_false, Option.bind_some, f34, live7]
          · have hg : Ok ⟨n, m, ⟨false, false, false, false, false, false, false, false⟩, [], 0, 0, 0⟩ := ⟨by show 1 ≤ n; omega, by show n ≤ 8; omega, by show m ≤ 512; omega, by simp, fun m hm => by cases hm⟩
            have hL := loop8 hg (n := n) rfl hl hb
            simp only [stP] at hL
            simp only [f33, c1, c2, c3, c4, if_true, if_false, Option.bind_some, f34, hL, live7]
end Au
end Go.Proofs.Y1
