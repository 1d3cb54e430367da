/- Arrays among the arguments of a law. -/
import Derived.Test.YtlonihmeikmpiaaDoorGfLe
import Derived.Test.YtlonihmeikmpiaaDoorGfLh
import Derived.OpenShut
import Derived.Lib.LaidTab
import Derived.LaidSub
import Derived.Shelf.Vars
set_option linter.all false
set_option linter.unusedVariables false
set_option linter.unusedSimpArgs false
set_option linter.all false
set_option maxRecDepth 8000
namespace Go.Gm
variable {B : (H : Type) → DataW H → Nat} {P : Program}
theorem typ_arr32 {t e : TypeId} {k : IntKind} (ht : P.underlying t = some (.array 32 e)) (he : P.underlying e = some (.int k)) (hce : P.cellsOf e = 1) (hct : P.cellsOf t = 32) :
    TypR B P t (fun x : A32 Int => [.val (.int k x.e0), .val (.int k x.e1), .val (.int k x.e2), .val (.int k x.e3), .val (.int k x.e4), .val (.int k x.e5), .val (.int k x.e6), .val (.int k x.e7), .val (.int k x.e8), .val (.int k x.e9), .val (.int k x.e10), .val (.int k x.e11), .val (.int k x.e12), .val (.int k x.e13), .val (.int k x.e14), .val (.int k x.e15), .val (.int k x.e16), .val (.int k x.e17), .val (.int k x.e18), .val (.int k x.e19), .val (.int k x.e20), .val (.int k x.e21), .val (.int k x.e22), .val (.int k x.e23), .val (.int k x.e24), .val (.int k x.e25), .val (.int k x.e26), .val (.int k x.e27), .val (.int k x.e28), .val (.int k x.e29), .val (.int k x.e30), .val (.int k x.e31)])
      (fun _ x => ∀ i, i < 32 → k.min ≤ x.get i ∧ x.get i ≤ k.max) := fun en w fuel cs d ps h => by
  obtain ⟨xs, m, _, _, hlen, hxl, hel⟩ := DataW.trod_array ht h
  rw [hct] at hlen
  rw [hce] at hel
  have hv : ∀ i, i < 32 → ∃ n : Int, cs[i]? = some (.int k n) ∧ k.min ≤ n ∧ n ≤ k.max := fun i hi => by
    have h1 := hel i hi
    rw [Nat.mul_one, List.getElem?_eq_getElem (by omega)] at h1
    obtain ⟨n, h2, _, hw⟩ := DataW.trod_int he h1
    have h3 : cs[i]? = some (.int k n) := by
      have := congrArg (fun l => l[0]?) h2
      simpa using this
    exact ⟨n, h3, by simpa [Lit.wf] using hw⟩
  refine ⟨?_, ?_⟩
  · have f : ∀ i, i < 32 → Int := fun i hi => (hv i hi).choose
    exact ⟨(hv 0 (by omega)).choose, (hv 1 (by omega)).choose, (hv 2 (by omega)).choose, (hv 3 (by omega)).choose, (hv 4 (by omega)).choose, (hv 5 (by omega)).choose, (hv 6 (by omega)).choose, (hv 7 (by omega)).choose, (hv 8 (by omega)).choose, (hv 9 (by omega)).choose, (hv 10 (by omega)).choose, (hv 11 (by omega)).choose, (hv 12 (by omega)).choose, (hv 13 (by omega)).choose, (hv 14 (by omega)).choose, (hv 15 (by omega)).choose, (hv 16 (by omega)).choose, (hv 17 (by omega)).choose, (hv 18 (by omega)).choose, (hv 19 (by omega)).choose, (hv 20 (by omega)).choose, (hv 21 (by omega)).choose, (hv 22 (by omega)).choose, (hv 23 (by omega)).choose, (hv 24 (by omega)).choose, (hv 25 (by omega)).choose, (hv 26 (by omega)).choose, (hv 27 (by omega)).choose, (hv 28 (by omega)).choose, (hv 29 (by omega)).choose, (hv 30 (by omega)).choose, (hv 31 (by omega)).choose⟩
  · have hs : ∀ i (hi : i < 32), cs[i]? = some (.int k (hv i hi).choose) ∧ k.min ≤ (hv i hi).choose ∧ (hv i hi).choose ≤ k.max := fun i hi => (hv i hi).choose_spec
    generalize hx : (A32.mk _ _ _ _ _ _ _ _ _ _ _ _ _ _ _ _ _ _ _ _ _ _ _ _ _ _ _ _ _ _ _ _ : A32 Int) = x
    have hg : ∀ i (hi : i < 32), cs[i]? = some (.int k (x.get i)) ∧ k.min ≤ x.get i ∧ x.get i ≤ k.max := fun i hi => by
      have := hs i hi
      subst hx
      match i, hi with
      | 0, _ => exact this
      | 1, _ => exact this
      | 2, _ => exact this
      | 3, _ => exact this
      | 4, _ => exact this
      | 5, _ => exact this
      | 6, _ => exact this
      | 7, _ => exact this
      | 8, _ => exact this
      | 9, _ => exact this
      | 10, _ => exact this
      | 11, _ => exact this
      | 12, _ => exact this
      | 13, _ => exact this
      | 14, _ => exact this
      | 15, _ => exact this
      | 16, _ => exact this
      | 17, _ => exact this
      | 18, _ => exact this
      | 19, _ => exact this
      | 20, _ => exact this
      | 21, _ => exact this
      | 22, _ => exact this
      | 23, _ => exact this
      | 24, _ => exact this
      | 25, _ => exact this
      | 26, _ => exact this
      | 27, _ => exact this
      | 28, _ => exact this
      | 29, _ => exact this
      | 30, _ => exact this
      | 31, _ => exact this
      | n + 32, h => exact absurd h (by omega)
    have hcs : cs = (List.range 32).map fun i => .int k (x.get i) := by
      refine List.ext_getElem? fun i => ?_
      by_cases hi : i < 32
      · rw [(hg i hi).1]; simp [hi]
      · rw [List.getElem?_eq_none (by omega), List.getElem?_eq_none (by simp; omega)]
    refine ⟨?_, ?_, fun _ _ i hi => (hg i hi).2⟩
    · have := relL_vals (E := W0 w) ((List.range 32).map fun i => Value.int k (x.get i))
      rw [hcs]
      exact this
    · rw [hcs]; intro v hv
      obtain ⟨i, _, rfl⟩ := List.mem_map.1 hv
      rfl
/-- From a row's list, and the world's shape, to the variables of the library that a walk leans on. -/
theorem tabs_cases {P : Program} {g : Nat} {p : Array Value → Prop} (h : tabs P g = some p) :
    (P.globalNamed "internal/strconv.uint64pow10" = some g ∧ p = fun cs => cs = (Lib.pow10Tab.map fun z => Value.int .u64 z).toArray) ∨ (P.globalNamed "internal/bytealg.MaxLen" = some g ∧ p = fun cs => ∃ m : Int, cs[0]? = some (.int .i64 m)) := by
  unfold tabs libTabs at h
  rw [List.find?_cons] at h
  split at h
  · rename_i hc
    left
    refine ⟨by simpa using hc, ?_⟩
    simp only [Option.map_some, Option.some.injEq] at h
    exact h.symm
  · rw [List.find?_cons] at h
    split at h
    · rename_i hc
      right
      refine ⟨by simpa using hc, ?_⟩
      simp only [Option.map_some, Option.some.injEq] at h
      exact h.symm
    · simp at h
theorem tab_laid {laid : List (String × DataW Unit)} {W : World} {g : Nat} {t e : TypeId} (hh : (laid.all fun x => x.2.handleName?.isNone) = true)
    (hf : laid.filter (fun x => x.1 == "internal/strconv.uint64pow10") = [("internal/strconv.uint64pow10", Lib.tabData .u64 Lib.pow10Tab)])
    (hg : P.globalNamed "internal/strconv.uint64pow10" = some g) (hty : (P.globals[g]?).map (·.type) = some t) (ht : P.underlying t = some (.array 20 e)) (he : P.underlying e = some (.int .u64)) (hce : P.cellsOf e = 1) (hct : P.cellsOf t = 20)
    (hm : P.globalNamed "internal/bytealg.MaxLen" = none ∨ ∃ g1, P.globalNamed "internal/bytealg.MaxLen" = some g1 ∧ g1 < W.heap.size ∧ ∃ cs t fz, ∃ m : Int, W.heap[g1]? = some (.cells cs t fz) ∧ cs[0]? = some (.int .i64 m))
    (h : laidMetH P laid W) : TabH P (fun _ => False) W := by
  have h0 := (laidMetH_iff.1 h).1
  rw [List.filter_eq_self.2 (fun x hx => List.all_eq_true.1 hh x hx)] at h0
  have h1 := h0.filter (fun x => x.1 == "internal/strconv.uint64pow10")
  rw [hf] at h1
  have h2 := Lib.tabIs_of_head hg hty ht he hce hct h1
  unfold Lib.TabIs World.var? at h2
  rw [hg, Option.bind_some] at h2
  intro g' p hg'
  rcases tabs_cases hg' with ⟨k1, rfl⟩ | ⟨k1, rfl⟩
  · rw [hg] at k1; cases k1
    cases hq : W.heap[g]? with
    | none => rw [hq] at h2; cases h2
    | some o =>
      rw [hq] at h2
      cases o with
      | cells cs t fz =>
        simp only [Option.some.injEq] at h2
        subst h2
        refine ⟨?_, fun h => h, _, t, fz, rfl, rfl⟩
        by_cases hl : g < W.heap.size
        · exact hl
        · rw [Array.getElem?_eq_none (by omega)] at hq; cases hq
      | _ => cases h2
  · rcases hm with hm | ⟨g1, k2, k3, cs, t, fz, m, k4, k5⟩
    · rw [hm] at k1; cases k1
    · rw [k2] at k1; cases k1
      exact ⟨k3, fun h => h, _, t, fz, k4, m, k5⟩
/-- Of the world's shape: MaxLen holds a number. -/
theorem max_shaped {W : World} {g : Nat} {t : TypeId} {zero : Array Value} (hsh : W.ShapedOpen P) (hgs : g < P.globals.size) (hz : ((begin P (fun _ _ => 0) default).world.heap[g]?).bind Obj.row? = some (zero, t)) (hsz : zero.size = 1)
    (hb : P.buildable t = true) (hc : P.cellTypes P.depth t = some [t]) (hu : P.underlying t = some (.int .i64)) : g < W.heap.size ∧ ∃ cs t fz, ∃ m : Int, W.heap[g]? = some (.cells cs t fz) ∧ cs[0]? = some (.int .i64 m) := by
  obtain ⟨cs, h1, h2, _⟩ := hsh.1 g zero t hgs hz
  obtain ⟨m, hm⟩ := Go.Proofs.cell_of_shapedOpen_int hsh hgs hz hsz hb hc hu
  refine ⟨(Array.getElem?_eq_some_iff.1 h1).1, cs, _, _, m, h1, ?_⟩
  simpa [World.cell?, h1] using hm
theorem tab_max {W : World} {g : Nat} (hn : P.globalNamed "internal/strconv.uint64pow10" = none) (hg : P.globalNamed "internal/bytealg.MaxLen" = some g)
    (h : g < W.heap.size ∧ ∃ cs t fz, ∃ m : Int, W.heap[g]? = some (.cells cs t fz) ∧ cs[0]? = some (.int .i64 m)) : TabH P (fun _ => False) W := by
  intro g' p hg'
  rcases tabs_cases hg' with ⟨k1, rfl⟩ | ⟨k1, rfl⟩
  · rw [hn] at k1; cases k1
  · rw [hg] at k1; cases k1
    obtain ⟨k3, cs, t, fz, m, k4, k5⟩ := h
    exact ⟨k3, fun h => h, _, t, fz, k4, m, k5⟩
end Go.Gm
