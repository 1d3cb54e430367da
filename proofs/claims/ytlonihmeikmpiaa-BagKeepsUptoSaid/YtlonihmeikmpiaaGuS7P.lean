import Derived.Test.YtlonihmeikmpiaaGuS7A
import Derived.Test.YtlonihmeikmpiaaGuDGf8
set_option linter.all false
set_option linter.unusedVariables false
set_option linter.unusedSimpArgs false
set_option linter.all false
set_option maxRecDepth 8000
namespace Go.Proofs.Y1
open Go.Gm
namespace Au
def toR (g : Bag) : Bag81 := ⟨g.nodes, g.most, g.down, g.l, ⟨g.sent, g.taken, g.lost⟩⟩
structure Ok (g : Bag) : Prop where
  n0 : 1 ≤ g.nodes
  n8 : g.nodes ≤ 8
  most : g.most ≤ 512
  len : (g.l.length : Int) ≤ 512
  msgs : ∀ m ∈ g.l, 0 ≤ m.To ∧ m.To < g.nodes ∧ m.Data.length ≤ 1048576
theorem clone_eq {l : List Int} (h : l.length ≤ 1048576) : f121 l = some l := by
  unfold f121; rw [appO_ok' (by simp) (by omega)]; simp
theorem copied_eq {m : Msg} (h : m.Data.length ≤ 1048576) : f83 m = some m := by
  unfold f83; rw [clone_eq h]; rfl
theorem node_eq (g : Bag) (n : Int) : f85 g n = some (decide (0 ≤ n ∧ n < g.nodes), g) := by
  unfold f85
  by_cases h : 0 ≤ n
  · simp [h]
  · simp [h]
theorem has_eq (g : Bag) (n : Int) : f81 g n = some (decide (0 ≤ n ∧ n < (g.l.length : Int)), g) := by
  unfold f81
  by_cases h : 0 ≤ n
  · simp [h]
  · simp [h]
theorem guard_ok {p : Prop} [Decidable p] (h : p) : guardO p = some () := guardO_some.2 h
/-! what the functions do -/
def sendP (g : Bag) (i j : Int) (d : List Int) : Int × Bag :=
  if 0 ≤ i ∧ i < g.nodes then
    if 0 ≤ j ∧ j < g.nodes then
      if g.down.get i.toNat = true then (6, g)
      else if g.most ≤ (g.l.length : Int) then (9, ⟨g.nodes, g.most, g.down, g.l, g.sent, g.taken, IntKind.i64.wrap (g.lost + 1)⟩)
      else (0, ⟨g.nodes, g.most, g.down, g.l ++ [⟨i, j, d⟩], IntKind.i64.wrap (g.sent + 1), g.taken, g.lost⟩)
    else (1, g)
  else (1, g)
def setP (g : Bag) (i : Int) (b : Bool) : Int × Bag :=
  if 0 ≤ i ∧ i < g.nodes then (0, ⟨g.nodes, g.most, g.down.set i.toNat !b, g.l, g.sent, g.taken, g.lost⟩) else (1, g)
def m0 : Msg := ⟨0, 0, []⟩
def pullP (g : Bag) (i : Nat) : Bag := ⟨g.nodes, g.most, g.down, g.l.eraseIdx i, g.sent, g.taken, g.lost⟩
def takeP (g : Bag) (i : Int) : Msg × Bool × Bag :=
  if 0 ≤ i ∧ i < (g.l.length : Int) then
    if g.down.get (g.l.getD i.toNat m0).To.toNat = true then (m0, false, ⟨g.nodes, g.most, g.down, g.l.eraseIdx i.toNat, g.sent, g.taken, IntKind.i64.wrap (g.lost + 1)⟩)
    else (g.l.getD i.toNat m0, true, ⟨g.nodes, g.most, g.down, g.l.eraseIdx i.toNat, g.sent, IntKind.i64.wrap (g.taken + 1), g.lost⟩)
  else (m0, false, g)
def loseP (g : Bag) (i : Int) : Bool × Bag :=
  if 0 ≤ i ∧ i < (g.l.length : Int) then (true, ⟨g.nodes, g.most, g.down, g.l.eraseIdx i.toNat, g.sent, g.taken, IntKind.i64.wrap (g.lost + 1)⟩) else (false, g)
def twiceP (g : Bag) (i : Int) : Bool × Bag :=
  if 0 ≤ i ∧ i < (g.l.length : Int) then
    if g.most ≤ (g.l.length : Int) then (false, g)
    else (true, ⟨g.nodes, g.most, g.down, g.l ++ [g.l.getD i.toNat m0], IntKind.i64.wrap (g.sent + 1), g.taken, g.lost⟩)
  else (false, g)
def moveP (g : Bag) (i j : Int) : Bool × Bag :=
  if 0 ≤ i ∧ i < (g.l.length : Int) then
    if 0 ≤ j ∧ j < (g.l.length : Int) then (true, ⟨g.nodes, g.most, g.down, (g.l.eraseIdx i.toNat).take j.toNat ++ g.l.getD i.toNat m0 :: (g.l.eraseIdx i.toNat).drop j.toNat, g.sent, g.taken, g.lost⟩)
    else (false, g)
  else (false, g)
section
variable {g : Bag} (hg : Ok g)
theorem ix_getD {i : Int} (h : 0 ≤ i ∧ i < (g.l.length : Int)) : ix g.l i = some (g.l.getD i.toNat m0) := by
  obtain ⟨n, rfl⟩ := Int.eq_ofNat_of_zero_le h.1
  have hn : n < g.l.length := by omega
  rw [ixN hn]
  simp [List.getD, hn]
theorem getD_mem {i : Int} (h : 0 ≤ i ∧ i < (g.l.length : Int)) : g.l.getD i.toNat m0 ∈ g.l := by
  have hn : i.toNat < g.l.length := by omega
  simp [List.getD, hn]
include hg in
theorem send_eq {i j : Int} {d : List Int} (hd : d.length ≤ 1048576) : f40 g i j d = some (sendP g i j d) ∧ f95 (toR g) i j d = some (toR (sendP g i j d).2, (sendP g i j d).1) := by
  have hn := hg.n8
  have hlen := hg.len
  unfold f40 f95 sendP
  simp only [node_eq, Option.bind_some, toR]
  by_cases c1 : 0 ≤ i ∧ i < g.nodes
  · have d1 : ¬ i < 0 := by omega
    have d2 : ¬ g.nodes ≤ i := by omega
    simp only [guard_ok (show 0 ≤ i ∧ i < 8 by omega)]
    simp only [c1, and_self, decide_true, if_true, d1, d2, if_false]
    by_cases c2 : 0 ≤ j ∧ j < g.nodes
    · have d3 : ¬ j < 0 := by omega
      have d4 : ¬ g.nodes ≤ j := by omega
      simp only [c2, and_self, decide_true, if_true, d3, d4, if_false, Option.bind_some]
      by_cases c3 : g.down.get i.toNat = true
      · simp only [c3, if_true, and_self]
      · simp only [c3, if_false, Bool.false_eq_true]
        by_cases c4 : g.most ≤ (g.l.length : Int)
        · simp only [c4, if_true, and_self]
        · simp only [c4, if_false, copied_eq (m := ⟨i, j, d⟩) hd, Option.bind_some]
          rw [appO_ok' (l := g.l) (by omega) (by simp), appO_ok' (l := ([] : List Msg)) (by simp) (by omega), Option.bind_some, Option.bind_some, List.nil_append, appO_ok' (l := g.l) (by omega) (by simp)]
          first | exact ⟨rfl, rfl⟩ | exact ⟨trivial, rfl⟩ | exact ⟨rfl, trivial⟩ | exact ⟨trivial, trivial⟩
    · by_cases d3 : j < 0
      · simp only [c2, decide_false, Bool.false_eq_true, if_false, d3, if_true, and_self]
      · have d4 : g.nodes ≤ j := by omega
        simp only [c2, decide_false, Bool.false_eq_true, if_false, d3, d4, if_true, and_self]
  · by_cases d1 : i < 0
    · simp only [c1, decide_false, Bool.false_eq_true, if_false, d1, if_true, and_self]
    · have d2 : g.nodes ≤ i := by omega
      simp only [c1, decide_false, Bool.false_eq_true, if_false, d1, d2, if_true, and_self]
include hg in
theorem send_ok {i j : Int} {d : List Int} (hd : d.length ≤ 1048576) : Ok (sendP g i j d).2 := by
  unfold sendP
  split
  · split
    · split
      · exact hg
      · split
        · exact ⟨hg.n0, hg.n8, hg.most, hg.len, hg.msgs⟩
        · rename_i h1 h2 h3 h4
          refine ⟨hg.n0, hg.n8, hg.most, ?_, fun m hm => ?_⟩
          · have := hg.most; simp; omega
          · rcases List.mem_append.1 hm with hm | hm
            · exact hg.msgs m hm
            · simp at hm; subst hm; exact ⟨h2.1, h2.2, hd⟩
    · exact hg
  · exact hg
include hg in
theorem set_eq {i : Int} {b : Bool} : f41 g i b = some (setP g i b) := by
  have hn := hg.n8
  unfold f41 setP
  simp only [node_eq, Option.bind_some]
  by_cases c1 : 0 ≤ i ∧ i < g.nodes
  · simp only [guard_ok (show 0 ≤ i ∧ i < 8 by omega)]
    simp only [c1, and_self, decide_true, if_true, Option.bind_some]
  · simp only [c1, decide_false, Bool.false_eq_true, if_false]
include hg in
theorem set_ok {i : Int} {b : Bool} : Ok (setP g i b).2 := by
  unfold setP
  split
  · exact ⟨hg.n0, hg.n8, hg.most, hg.len, hg.msgs⟩
  · exact hg
include hg in
theorem up_eq (n : Int) : f50 g n = some (decide (0 ≤ n ∧ n < g.nodes) && !g.down.get n.toNat, g) := by
  have hn := hg.n8
  unfold f50
  simp only [node_eq, Option.bind_some]
  by_cases c1 : 0 ≤ n ∧ n < g.nodes
  · simp only [guard_ok (show 0 ≤ n ∧ n < 8 by omega)]
    simp only [c1, and_self, decide_true, if_true, Option.bind_some, Bool.true_and]
  · simp only [c1, decide_false, Bool.false_eq_true, if_false, Bool.false_and]
include hg in
theorem pull_eq {i : Int} (h : 0 ≤ i ∧ i < (g.l.length : Int)) : f82 g i = some (g.l.getD i.toNat m0, pullP g i.toNat) := by
  have hlen := hg.len
  unfold f82 f120
  rw [ix_getD h, Option.bind_some, i64_id (by omega) (by omega), if_pos ⟨h, rfl, by omega⟩]
  rfl
theorem pull_ok {k : Nat} (hg : Ok g) : Ok (pullP g k) :=
  ⟨hg.n0, hg.n8, hg.most, by have := hg.len; have := List.length_eraseIdx_le g.l k; simp only [pullP]; omega, fun m hm => hg.msgs m (List.mem_of_mem_eraseIdx hm)⟩
include hg in
theorem without_eq {i : Int} (h : 0 ≤ i ∧ i < (g.l.length : Int)) : f127 (toR g) i = some (toR (pullP g i.toNat)) := by
  have hlen := hg.len
  have e1 : cutO? g.l 0 i = some (g.l.take i.toNat) := cutO?_some.2 ⟨⟨by omega, by omega, by omega⟩, by simp⟩
  have e2 : cutO? g.l (i + 1) (g.l.length : Int) = some (g.l.drop (i.toNat + 1)) := cutO?_some.2 ⟨⟨by omega, by omega, by omega⟩, by
    rw [show (i + 1).toNat = i.toNat + 1 by omega]
    apply List.take_of_length_le; simp⟩
  unfold f127
  simp only [toR]
  rw [e1, Option.bind_some, appO_ok' (l := ([] : List Msg)) (by simp) (by simp; omega), Option.bind_some, i64_id (by omega) (by omega), e2, Option.bind_some, List.nil_append, appO_ok' (by simp; omega) (by simp; omega), Option.bind_some]
  simp only [pullP, List.eraseIdx_eq_take_drop_succ]
include hg in
theorem take_eq {i j : Int} : f35 g i = some (takeP g i) ∧ f96 (toR g) 0 i j = some (toR (takeP g i).2.2, (takeP g i).1, (takeP g i).2.1) := by
  have hn := hg.n8
  unfold f35 f96 takeP
  simp only [has_eq, Option.bind_some]
  by_cases c1 : 0 ≤ i ∧ i < (g.l.length : Int)
  · obtain ⟨hm1, hm2, hm3⟩ := hg.msgs _ (getD_mem c1)
    have d1 : ¬ i < 0 := by omega
    have d2 : ¬ ((toR g).L.length : Int) ≤ i := by simp only [toR]; omega
    have hx : ix (toR g).L i = some (g.l.getD i.toNat m0) := ix_getD c1
    have hu := up_eq (pull_ok (k := i.toNat) hg) (g.l.getD i.toNat m0).To
    have e1 : decide (0 ≤ (g.l.getD i.toNat m0).To ∧ (g.l.getD i.toNat m0).To < (pullP g i.toNat).nodes) = true := decide_eq_true ⟨hm1, hm2⟩
    rw [e1, Bool.true_and] at hu
    simp only [c1, and_self, decide_true, if_true, d1, d2, if_false, pull_eq hg c1, Option.bind_some, hu, hx, without_eq hg c1]
    simp only [guard_ok (show 0 ≤ (g.l.getD i.toNat m0).To ∧ (g.l.getD i.toNat m0).To < 8 by omega)]
    generalize g.l.getD i.toNat m0 = m
    by_cases c2 : g.down.get m.To.toNat = true
    · simp only [c2, toR, pullP, ↓reduceIte, Int.reduceEq, Bool.not_true, Bool.not_false, Bool.false_eq_true, Bool.true_and, decide_false, decide_true, Option.bind_some, if_false, if_true]
      first | exact ⟨rfl, rfl⟩ | exact ⟨trivial, rfl⟩ | exact ⟨rfl, trivial⟩ | exact ⟨trivial, trivial⟩
    · rw [Bool.not_eq_true] at c2
      simp only [c2, toR, pullP, ↓reduceIte, Int.reduceEq, Bool.not_true, Bool.not_false, Bool.false_eq_true, Bool.true_and, decide_false, decide_true, Option.bind_some, if_false, if_true]
      first | exact ⟨rfl, rfl⟩ | exact ⟨trivial, rfl⟩ | exact ⟨rfl, trivial⟩ | exact ⟨trivial, trivial⟩
  · by_cases d1 : i < 0
    · simp only [c1, d1, ↓reduceIte, Int.reduceEq, Bool.not_true, Bool.not_false, Bool.false_eq_true, Bool.true_and, decide_false, decide_true, Option.bind_some, if_false, if_true]
      first | exact ⟨rfl, rfl⟩ | exact ⟨trivial, rfl⟩ | exact ⟨rfl, trivial⟩ | exact ⟨trivial, trivial⟩
    · have d2 : ((toR g).L.length : Int) ≤ i := by simp only [toR]; omega
      simp only [c1, decide_false, Bool.false_eq_true, if_false, d1, d2, if_true]
      first | exact ⟨rfl, rfl⟩ | exact ⟨trivial, rfl⟩ | exact ⟨rfl, trivial⟩ | exact ⟨trivial, trivial⟩
include hg in
theorem take_ok {i : Int} : Ok (takeP g i).2.2 := by
  unfold takeP
  have h := pull_ok (k := i.toNat) hg
  split
  · split
    · exact ⟨h.n0, h.n8, h.most, h.len, h.msgs⟩
    · exact ⟨h.n0, h.n8, h.most, h.len, h.msgs⟩
  · exact hg
include hg in
theorem lose_eq {i j : Int} : f37 g i = some (loseP g i) ∧ f96 (toR g) 1 i j = some (toR (loseP g i).2, m0, (loseP g i).1) := by
  unfold f37 f96 loseP
  simp only [has_eq, Option.bind_some]
  by_cases c1 : 0 ≤ i ∧ i < (g.l.length : Int)
  · have d1 : ¬ i < 0 := by omega
    have d2 : ¬ ((toR g).L.length : Int) ≤ i := by simp only [toR]; omega
    have hx : ix (toR g).L i = some (g.l.getD i.toNat m0) := ix_getD c1
    simp only [c1, and_self, decide_true, if_true, d1, d2, if_false, pull_eq hg c1, Option.bind_some, hx, without_eq hg c1, ↓reduceIte, Int.reduceEq, Bool.not_true, Bool.not_false, Bool.false_eq_true, Bool.true_and, decide_false, decide_true, Option.bind_some, if_false, if_true]
    first | exact ⟨rfl, rfl⟩ | exact ⟨trivial, rfl⟩ | exact ⟨rfl, trivial⟩ | exact ⟨trivial, trivial⟩
  · by_cases d1 : i < 0
    · simp only [c1, d1, ↓reduceIte, Int.reduceEq, Bool.not_true, Bool.not_false, Bool.false_eq_true, Bool.true_and, decide_false, decide_true, Option.bind_some, if_false, if_true]
      first | exact ⟨rfl, rfl⟩ | exact ⟨trivial, rfl⟩ | exact ⟨rfl, trivial⟩ | exact ⟨trivial, trivial⟩
    · have d2 : ((toR g).L.length : Int) ≤ i := by simp only [toR]; omega
      simp only [c1, decide_false, Bool.false_eq_true, if_false, d1, d2, if_true]
      first | exact ⟨rfl, rfl⟩ | exact ⟨trivial, rfl⟩ | exact ⟨rfl, trivial⟩ | exact ⟨trivial, trivial⟩
include hg in
theorem lose_ok {i : Int} : Ok (loseP g i).2 := by
  unfold loseP
  have h := pull_ok (k := i.toNat) hg
  split
  · exact ⟨h.n0, h.n8, h.most, h.len, h.msgs⟩
  · exact hg
include hg in
theorem twice_eq {i j : Int} : f38 g i = some (twiceP g i) ∧ f96 (toR g) 2 i j = some (toR (twiceP g i).2, m0, (twiceP g i).1) := by
  have hlen := hg.len
  unfold f38 f96 twiceP
  simp only [has_eq, Option.bind_some]
  by_cases c1 : 0 ≤ i ∧ i < (g.l.length : Int)
  · obtain ⟨hm1, hm2, hm3⟩ := hg.msgs _ (getD_mem c1)
    have d1 : ¬ i < 0 := by omega
    have d2 : ¬ ((toR g).L.length : Int) ≤ i := by simp only [toR]; omega
    have hx : ix (toR g).L i = some (g.l.getD i.toNat m0) := ix_getD c1
    simp only [c1, and_self, decide_true, if_true, d1, d2, if_false, ix_getD c1, hx, Option.bind_some, copied_eq hm3]
    generalize g.l.getD i.toNat m0 = m
    by_cases c2 : g.most ≤ (g.l.length : Int)
    · simp only [c2, toR, ↓reduceIte, Int.reduceEq, Bool.not_true, Bool.not_false, Bool.false_eq_true, Bool.true_and, decide_false, decide_true, Option.bind_some, if_false, if_true]
      first | exact ⟨rfl, rfl⟩ | exact ⟨trivial, rfl⟩ | exact ⟨rfl, trivial⟩ | exact ⟨trivial, trivial⟩
    · simp only [c2, toR, appO_ok' (l := g.l) (r := [m]) (by omega) (by simp), appO_ok' (l := ([] : List Msg)) (r := g.l) (by simp) (by omega), List.nil_append, ↓reduceIte, Int.reduceEq, Bool.not_true, Bool.not_false, Bool.false_eq_true, Bool.true_and, decide_false, decide_true, Option.bind_some, if_false, if_true]
      first | exact ⟨rfl, rfl⟩ | exact ⟨trivial, rfl⟩ | exact ⟨rfl, trivial⟩ | exact ⟨trivial, trivial⟩
  · by_cases d1 : i < 0
    · simp only [c1, d1, ↓reduceIte, Int.reduceEq, Bool.not_true, Bool.not_false, Bool.false_eq_true, Bool.true_and, decide_false, decide_true, Option.bind_some, if_false, if_true]
      first | exact ⟨rfl, rfl⟩ | exact ⟨trivial, rfl⟩ | exact ⟨rfl, trivial⟩ | exact ⟨trivial, trivial⟩
    · have d2 : ((toR g).L.length : Int) ≤ i := by simp only [toR]; omega
      simp only [c1, decide_false, Bool.false_eq_true, if_false, d1, d2, if_true]
      first | exact ⟨rfl, rfl⟩ | exact ⟨trivial, rfl⟩ | exact ⟨rfl, trivial⟩ | exact ⟨trivial, trivial⟩
include hg in
theorem twice_ok {i : Int} : Ok (twiceP g i).2 := by
  unfold twiceP
  split
  · split
    · exact hg
    · rename_i h1 h2
      refine ⟨hg.n0, hg.n8, hg.most, ?_, fun m hm => ?_⟩
      · have := hg.most; simp; omega
      · rcases List.mem_append.1 hm with hm | hm
        · exact hg.msgs m hm
        · simp only [List.mem_singleton] at hm; rw [hm]; exact hg.msgs _ (getD_mem h1)
  · exact hg
include hg in
theorem move_eq {i j : Int} {q : Int} (h0 : q ≠ 0) (h1 : q ≠ 1) (h2 : q ≠ 2) : f39 g i j = some (moveP g i j) ∧ f96 (toR g) q i j = some (toR (moveP g i j).2, m0, (moveP g i j).1) := by
  have hlen := hg.len
  unfold f39 f96 moveP
  simp only [has_eq, Option.bind_some]
  by_cases c1 : 0 ≤ i ∧ i < (g.l.length : Int)
  · have d1 : ¬ i < 0 := by omega
    have d2 : ¬ ((toR g).L.length : Int) ≤ i := by simp only [toR]; omega
    have hx : ix (toR g).L i = some (g.l.getD i.toNat m0) := ix_getD c1
    simp only [c1, and_self, decide_true, if_true, d1, d2, if_false, hx, Option.bind_some, h0, h1, h2]
    by_cases c2 : 0 ≤ j ∧ j < (g.l.length : Int)
    · have d3 : ¬ j < 0 := by omega
      have d4 : ¬ ((toR g).L.length : Int) ≤ j := by simp only [toR]; omega
      have hle : (g.l.eraseIdx i.toNat).length = g.l.length - 1 := List.length_eraseIdx_of_lt (by omega)
      simp only [c2, and_self, decide_true, if_true, d3, d4, if_false, pull_eq hg c1, without_eq hg c1, Option.bind_some]
      have e1 : cutO? (g.l.eraseIdx i.toNat) 0 j = some ((g.l.eraseIdx i.toNat).take j.toNat) := cutO?_some.2 ⟨⟨by omega, by omega, by omega⟩, by simp⟩
      have e2 : cutO? (g.l.eraseIdx i.toNat) j ((g.l.eraseIdx i.toNat).length : Int) = some ((g.l.eraseIdx i.toNat).drop j.toNat) := cutO?_some.2 ⟨⟨by omega, by omega, by omega⟩, by
        apply List.take_of_length_le; simp⟩
      have e0 : f84 (g.l.eraseIdx i.toNat) j (g.l.getD i.toNat m0) = some ((g.l.eraseIdx i.toNat).take j.toNat ++ g.l.getD i.toNat m0 :: (g.l.eraseIdx i.toNat).drop j.toNat) := by
        unfold f84; rw [if_pos ⟨⟨by omega, by omega⟩, by omega⟩]
      have e3 : ∀ q : Msg, appO? ((g.l.eraseIdx i.toNat).take j.toNat) [q] = some ((g.l.eraseIdx i.toNat).take j.toNat ++ [q]) := fun q => appO_ok' (by simp; omega) (by simp)
      have e4 : ∀ q : Msg, appO? ((g.l.eraseIdx i.toNat).take j.toNat ++ [q]) ((g.l.eraseIdx i.toNat).drop j.toNat) = some ((g.l.eraseIdx i.toNat).take j.toNat ++ [q] ++ (g.l.eraseIdx i.toNat).drop j.toNat) := fun q => appO_ok' (by simp; omega) (by simp; omega)
      simp only [pullP, toR, e0, e1, e2, e3, e4, appO_ok' (l := ([] : List Msg)) (r := (g.l.eraseIdx i.toNat).take j.toNat) (by simp) (by simp; omega), List.nil_append, Option.bind_some, List.append_assoc, List.cons_append]
      first | exact ⟨rfl, rfl⟩ | exact ⟨trivial, rfl⟩ | exact ⟨rfl, trivial⟩ | exact ⟨trivial, trivial⟩
    · by_cases d3 : j < 0
      · simp only [c2, d3, ↓reduceIte, Int.reduceEq, Bool.not_true, Bool.not_false, Bool.false_eq_true, Bool.true_and, decide_false, decide_true, Option.bind_some, if_false, if_true]
        first | exact ⟨rfl, rfl⟩ | exact ⟨trivial, rfl⟩ | exact ⟨rfl, trivial⟩ | exact ⟨trivial, trivial⟩
      · have d4 : ((toR g).L.length : Int) ≤ j := by simp only [toR]; omega
        simp only [c2, decide_false, Bool.false_eq_true, if_false, d3, d4, if_true]
        first | exact ⟨rfl, rfl⟩ | exact ⟨trivial, rfl⟩ | exact ⟨rfl, trivial⟩ | exact ⟨trivial, trivial⟩
  · by_cases d1 : i < 0
    · simp only [c1, d1, ↓reduceIte, Int.reduceEq, Bool.not_true, Bool.not_false, Bool.false_eq_true, Bool.true_and, decide_false, decide_true, Option.bind_some, if_false, if_true]
      first | exact ⟨rfl, rfl⟩ | exact ⟨trivial, rfl⟩ | exact ⟨rfl, trivial⟩ | exact ⟨trivial, trivial⟩
    · have d2 : ((toR g).L.length : Int) ≤ i := by simp only [toR]; omega
      simp only [c1, decide_false, Bool.false_eq_true, if_false, d1, d2, if_true]
      first | exact ⟨rfl, rfl⟩ | exact ⟨trivial, rfl⟩ | exact ⟨rfl, trivial⟩ | exact ⟨trivial, trivial⟩
include hg in
theorem move_ok {i j : Int} : Ok (moveP g i j).2 := by
  unfold moveP
  split
  · split
    · rename_i h1 h2
      have hle : (g.l.eraseIdx i.toNat).length = g.l.length - 1 := List.length_eraseIdx_of_lt (by omega)
      refine ⟨hg.n0, hg.n8, hg.most, ?_, fun m hm => ?_⟩
      · have := hg.len; simp; omega
      · rcases List.mem_append.1 hm with hm | hm
        · exact hg.msgs m (List.mem_of_mem_eraseIdx (List.mem_of_mem_take hm))
        · rcases List.mem_cons.1 hm with hm | hm
          · rw [hm]; exact hg.msgs _ (getD_mem h1)
          · exact hg.msgs m (List.mem_of_mem_eraseIdx (List.mem_of_mem_drop hm))
    · exact hg
  · exact hg
end
end Au
end Go.Proofs.Y1
