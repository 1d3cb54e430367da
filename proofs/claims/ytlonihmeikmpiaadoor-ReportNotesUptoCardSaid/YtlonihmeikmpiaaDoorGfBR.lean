/- From a contract of the shelf that turns a row in place to a contract of this library. -/
import Derived.Test.YtlonihmeikmpiaaDoorGfLg
import Derived.Sort.OwnSorted
set_option linter.all false
set_option linter.unusedVariables false
set_option linter.unusedSimpArgs false
set_option linter.all false
namespace Go.Gm
open Go.Sort
variable {α : Type} [Inhabited α]
theorem heap_put {enc : α → Value} {w : World} {g st n : Nat} {os : Array Obj} {cur : Array Value} {e : TypeId} {fr : Nat × Nat} (d : Array α) (hb : w.heap[g]? = some (.cells cur e fr)) :
    (grow (putRow enc (Sort.ahead w n) g st d) os).heap[g]? = some (.cells (putCells enc st d cur) e fr) := by
  have hg : g < w.heap.size := (Array.getElem?_eq_some_iff.1 hb).1
  rw [heap_grow_old _ _ (by simpa using hg)]
  simp [putRow, mapBlock, Sort.ahead, Array.getElem?_modify, hb, onCells]
theorem heap_put_other {enc : α → Value} {w : World} {g st n k : Nat} {os : Array Obj} (d : Array α) (hk : k < w.heap.size) (hne : g ≠ k) : (grow (putRow enc (Sort.ahead w n) g st d) os).heap[k]? = w.heap[k]? := by
  rw [heap_grow_old _ _ (by simpa using hk)]
  simp [putRow, mapBlock, Sort.ahead, Array.getElem?_modify, hne]
theorem size_put {enc : α → Value} {w : World} {g st n : Nat} {os : Array Obj} (d : Array α) : w.heap.size ≤ (grow (putRow enc (Sort.ahead w n) g st d) os).heap.size := by simp
def rowsV (enc : α → Value) (d : List α) : List (List AV) := d.map fun x => [.val (enc x)]
theorem rowsV_flat (enc : α → Value) : ∀ d : List α, (rowsV enc d).flatten = (d.map enc).map .val
  | [] => rfl
  | x :: d => by simp only [rowsV, List.map_cons, List.flatten_cons, List.cons_append, List.nil_append] ; exact congrArg _ (rowsV_flat enc d)
theorem relL_vals_eq {E : Env} : ∀ {us vs : List Value}, RelL E (us.map .val) vs → vs = us
  | [], _, h => by cases h; rfl
  | u :: us, _, h => by
    cases h with
    | cons h1 h2 => rw [rel_val h1, relL_vals_eq h2]
theorem rowsV_len {enc : α → Value} {d : List α} : (rowsV enc d).length = d.length := by simp [rowsV]
theorem ic_row {P : Program} {f : FuncId} {enc : α → Value} (h1 : ∀ x, (enc x).oneCell' = true) {d d' : List α} {k : Nat} {X : AV} {R : Option Addr → Nat → Value} (hl : d'.length = d.length) (hk : k ≤ d.length)
    (hX : ∀ (E : Env) (a : Option Addr) (cap : Nat), Rel E (.own 0 0 d.length) (.slice a d.length cap) → Rel E X (R a cap))
    (hc : d ≠ [] → ∀ blk off cap (w : World), Holds enc w blk off d.toArray → blk < w.heap.size → d.length ≤ cap → Calls P f #[.slice (some ⟨blk, off, none⟩) d.length cap] w fun e w' => e = .returned (R (some ⟨blk, off, none⟩) cap) ∧ ∃ n os, w' = grow (putRow enc (Sort.ahead w n) blk off d'.toArray) os)
    (h0 : d = [] → ∀ a cap (w : World), Calls P f #[.slice a 0 cap] w fun e w' => e = .returned (R a cap) ∧ w' = w) :
    IC P f [some (.row 1 true (rowsV enc d))] [.own 0 0 d.length] X [some (.row 1 true (rowsV enc (d'.take k)))] [] := by
  intro m w loc vs hm h8 ht hM hus
  cases hus with
  | cons hv hnil =>
  cases hnil
  rename_i v
  cases hv with
  | own ha hh =>
  obtain ⟨l, hloc, hob⟩ := hM.obj 0 _ rfl
  obtain ⟨a, cap, rfl, hsz0, hcap, hlen, hadr⟩ := hh l hloc
  obtain ⟨g1, g2, g3, g4, g5, g6⟩ := hob
  rw [g1, Nat.mul_one] at hcap
  rw [rowsV_len, Nat.mul_one] at g4
  have hown : ∀ (E : Env), E.al 0 → (∀ l', E.loc 0 = some l' → l' = l) → Rel E (.own 0 0 d.length) (.slice a d.length cap) := fun E h2 h3 => .own h2 fun l' hl' => by
    rw [h3 l' hl']
    exact ⟨a, cap, rfl, by omega, by rw [g1, Nat.mul_one]; exact hcap, hlen, hadr⟩
  have halt : ∀ (hp : AHeap) (lc : Nat → Option Loc) (w' : World), (mkE m hp (fun t => t < 8 + ([] : List (Option AObj)).length) lc w').al 0 := fun _ _ _ => by show 0 < 8 + 0; omega
  by_cases hd : d = []
  · subst hd
    have hd' : d' = [] := List.eq_nil_of_length_eq_zero hl
    subst hd'
    refine (h0 rfl a cap w).mono ?_
    rintro e w' ⟨rfl, rfl⟩
    exact ⟨_, loc, rfl, by simpa [rowsV] using hM, hX _ a cap (hown _ (halt _ _ _) fun l' hl' => by simpa [mkE, hloc] using hl'.symm)⟩
  · have hpos : 0 < d.length := List.length_pos_iff.2 hd
    have hlt : l.st < l.n := by omega
    obtain ⟨c, e, fz, vs, k1, k2, k3, k4, k5, k6⟩ := g6 hlt
    rw [rowsV_flat] at k3
    have := relL_vals_eq k3
    subst this
    simp only [g1, Nat.mul_one, Nat.zero_mul, Nat.add_zero] at hadr
    have ha' := hadr (by omega)
    subst ha'
    have hblk : l.b < w.heap.size := (Array.getElem?_eq_some_iff.1 k1).1
    have k1' : w.heap[l.b]? = some (.cells c e fz) := k1
    have hH : Holds enc w l.b l.st d.toArray := by
      intro j hj
      have hj' : j < d.length := by simpa using hj
      refine ⟨?_, ?_⟩
      · simp only [World.cell?, k1', Option.isSome_none, Bool.false_eq_true, if_false]
        rw [k5 j (enc d[j]) (by simp [hj'])]
        simp [hj']
      · simp only [World.frozen?, k1']
        have := k6 (l.st + j) (by omega)
        simp only [Bool.and_eq_false_imp, decide_eq_true_eq, decide_eq_false_iff_not]
        first | (intro h; omega) | (simp; omega) | omega
    refine (hc hd l.b l.st cap w hH hblk hlen).mono ?_
    rintro e' w' ⟨rfl, n, os, rfl⟩
    have hhp : hpL [some (.row 1 true (rowsV enc d))] [] 0 = some (.row 1 true (rowsV enc d)) := rfl
    have hmt0 : mtOf (hpL [some (.row 1 true (rowsV enc d))] []) loc l.b := ⟨0, _, l, hhp, rfl, hloc, rfl, hlt⟩
    have hzero : ∀ (rows : List (List AV)) t o, hpL [some (.row 1 true rows)] [] t = some o → t = 0 ∧ o = .row 1 true rows := fun rows t o ho => by
      simp only [hpL] at ho
      by_cases ht : t = 0
      · subst ht; simp at ho; exact ⟨rfl, ho.symm⟩
      · split at ho
        · rw [List.getElem?_eq_none (by simp; omega)] at ho; cases ho
        · simp at ho
    have hmt : ∀ b, mtOf (hpL [some (.row 1 true (rowsV enc (d'.take k)))] []) loc b → mtOf (hpL [some (.row 1 true (rowsV enc d))] []) loc b := by
      rintro b ⟨t, o, l', q1, q2, q3, q4, q5⟩
      obtain ⟨rfl, rfl⟩ := hzero _ t o q1
      exact ⟨0, _, l', hhp, rfl, q3, q4, q5⟩
    have hx : Ext (mkE m (hpL [some (.row 1 true (rowsV enc d))] []) (fun t => t < 8) loc w) (mkE m (hpL [some (.row 1 true (rowsV enc (d'.take k)))] []) (fun t => t < 8 + ([] : List (Option AObj)).length) loc (grow (putRow enc (Sort.ahead w n) l.b l.st d'.toArray) os)) :=
      mk_ext (fun t ht => by show t < 8 + 0; exact ht) (fun _ _ _ h => h) (size_put _) (fun b _ => hmt b) (fun b hb hn => heap_put_other _ hb fun hc => hn (hc ▸ hmt0))
    refine ⟨_, loc, rfl, ?_, hX _ _ cap (hown _ (halt _ _ _) fun l' hl' => by simpa [mkE, hloc] using hl'.symm)⟩
    refine hM.change hx (fun t o ho => ?_) (fun t ht => ?_) (fun t l' hl' => ?_) hM.inj rfl rfl rfl (fun b hb => .inl (hmt b hb)) (fun t l' q1 q2 => .inl ⟨t, l', q1, q2, rfl⟩)
    · obtain ⟨rfl, rfl⟩ := hzero _ t o ho
      have hkl : (d'.take k).length = k := by rw [List.length_take]; omega
      refine .inr ⟨l, hloc, g1, g2, fun r hr => ?_, ?_, g5, fun _ => ⟨_, e, fz, (d'.take k).map enc, heap_put _ k1', ?_, ?_, ?_, ?_, k6⟩⟩
      · obtain ⟨x, _, rfl⟩ := List.mem_map.1 hr; rfl
      · rw [rowsV_len, hkl]; omega
      · simpa [putCells] using k2
      · rw [rowsV_flat]; exact relL_vals _
      · intro v hv; obtain ⟨x, _, rfl⟩ := List.mem_map.1 hv; exact h1 x
      · intro q v hv
        have hq : q < k := by
          have := (List.getElem?_eq_some_iff.1 hv).1
          rw [List.length_map, hkl] at this; exact this
        have hqd : q < d'.length := by omega
        have e1 : ((d'.take k).map enc)[q]? = some (enc d'[q]) := by
          rw [List.getElem?_map, List.getElem?_take_of_lt hq, List.getElem?_eq_getElem hqd]; rfl
        rw [e1, Option.some.injEq] at hv
        subst hv
        have hcl : l.st + q < c.size := by rw [k2]; omega
        simp only [putCells, Array.getElem?_mapIdx, Array.getElem?_eq_getElem hcl, Option.map_some, List.size_toArray]
        rw [if_pos ⟨by omega, by omega⟩, show l.st + q - l.st = q by omega]
        simp [hqd]
    · have : t ≠ 0 := fun e => by subst e; simp [hpL] at ht
      refine hM.none_ t ?_
      simp only [hpL]
      split
      · rw [List.getElem?_eq_none (by simp; omega)]; rfl
      · simp
    · exact hx.al t (hM.al_ t l' hl')
end Go.Gm
