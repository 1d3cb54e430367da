import Derived.Test.YtpdgnhhjaaencaaGmLg
import Derived.Sort.OwnSorted
import Derived.Lib.SlicesCompact
import Derived.Shelf.Small.Strs
import Derived.Shelf.Sort.Plain
import Derived.Lib.LaidTab
import Derived.Lib.ItoaNum
import Derived.Below
import Derived.Lib.Join
import Derived.Lib.Index
import Derived.Lib.Split
import Derived.Test.YtpdgnhhjaaencaaGmLh
import Derived.KernelRfl
import Derived.Lib.CountLaws
import Derived.Lib.IndexLaws
import Derived.Lib.SplitLaws
set_option linter.all false
set_option linter.unusedVariables false
set_option linter.unusedSimpArgs false
set_option linter.all false
namespace Go.Gm
open Go.Sort
variable {α : Type} [Inhabited α]
theorem heap_put {enc : α → Value} {w : World} {g st n : Nat} {os : Array Obj} {cur : Array Value} {e : TypeId} {fr : Nat × Nat} (d : Array α) (hb : w.heap[g]? = some (.cells cur e fr)) :
    (grow (putRow enc (Sort.ahead w n) g st d) os).heap[g]? = some (.cells (putCells enc st d cur) e fr) := by
  have hg : g < w.heap.size := (Array.getElem?_eq_some_iff.1 hb).1
  rw [heap_grow_old _ _ (by simpa using hg)]
  simp [putRow, mapBlock, Sort.ahead, Array.getElem?_modify, hb, onCells]
theorem heap_put_other {enc : α → Value} {w : World} {g st n k : Nat} {os : Array Obj} (d : Array α) (hk : k < w.heap.size) (hne : g ≠ k) : (grow (putRow enc (Sort.ahead w n) g st d) os).heap[k]? = w.heap[k]? := by
  rw [heap_grow_old _ _ (by simpa using hk)]
  simp [putRow, mapBlock, Sort.ahead, Array.getElem?_modify, hne]
theorem size_put {enc : α → Value} {w : World} {g st n : Nat} {os : Array Obj} (d : Array α) : w.heap.size ≤ (grow (putRow enc (Sort.ahead w n) g st d) os).heap.size := by simp
def rowsV (enc : α → Value) (d : List α) : List (List AV) := d.map fun x => [.val (enc x)]
theorem rowsV_flat (enc : α → Value) : ∀ d : List α, (rowsV enc d).flatten = (d.map enc).map .val
  | [] => rfl
  | x :: d => by simp only [rowsV, List.map_cons, List.flatten_cons, List.cons_append, List.nil_append] ; exact congrArg _ (rowsV_flat enc d)
theorem relL_vals_eq {E : Env} : ∀ {us vs : List Value}, RelL E (us.map .val) vs → vs = us
  | [], _, h => by cases h; rfl
  | u :: us, _, h => by
    cases h with
    | cons h1 h2 => rw [rel_val h1, relL_vals_eq h2]
theorem rowsV_len {enc : α → Value} {d : List α} : (rowsV enc d).length = d.length := by simp [rowsV]
theorem ic_row {P : Program} {f : FuncId} {enc : α → Value} (h1 : ∀ x, (enc x).oneCell' = true) {d d' : List α} {k : Nat} {X : AV} {R : Option Addr → Nat → Value} (hl : d'.length = d.length) (hk : k ≤ d.length)
    (hX : ∀ (E : Env) (a : Option Addr) (cap : Nat), Rel E (.own 0 0 d.length) (.slice a d.length cap) → Rel E X (R a cap))
    (hc : d ≠ [] → ∀ blk off cap (w : World), Holds enc w blk off d.toArray → blk < w.heap.size → d.length ≤ cap → Calls P f #[.slice (some ⟨blk, off, none⟩) d.length cap] w fun e w' => e = .returned (R (some ⟨blk, off, none⟩) cap) ∧ ∃ n os, w' = grow (putRow enc (Sort.ahead w n) blk off d'.toArray) os)
    (h0 : d = [] → ∀ a cap (w : World), Calls P f #[.slice a 0 cap] w fun e w' => e = .returned (R a cap) ∧ w' = w) :
    IC P f [some (.row 1 true (rowsV enc d))] [.own 0 0 d.length] X [some (.row 1 true (rowsV enc (d'.take k)))] [] := by
  intro m w loc vs hm h8 ht hM hus
  cases hus with
  | cons hv hnil =>
  cases hnil
  rename_i v
  cases hv with
  | own ha hh =>
  obtain ⟨l, hloc, hob⟩ := hM.obj 0 _ rfl
  obtain ⟨a, cap, rfl, hsz0, hcap, hlen, hadr⟩ := hh l hloc
  obtain ⟨g1, g2, g3, g4, g5, g6⟩ := hob
  rw [g1, Nat.mul_one] at hcap
  rw [rowsV_len, Nat.mul_one] at g4
  have hown : ∀ (E : Env), E.al 0 → (∀ l', E.loc 0 = some l' → l' = l) → Rel E (.own 0 0 d.length) (.slice a d.length cap) := fun E h2 h3 => .own h2 fun l' hl' => by
    rw [h3 l' hl']
    exact ⟨a, cap, rfl, by omega, by rw [g1, Nat.mul_one]; exact hcap, hlen, hadr⟩
  have halt : ∀ (hp : AHeap) (lc : Nat → Option Loc) (w' : World), (mkE m hp (fun t => t < 8 + ([] : List (Option AObj)).length) lc w').al 0 := fun _ _ _ => by show 0 < 8 + 0; omega
  by_cases hd : d = []
  · subst hd
    have hd' : d' = [] := List.eq_nil_of_length_eq_zero hl
    subst hd'
    refine (h0 rfl a cap w).mono ?_
    rintro e w' ⟨rfl, rfl⟩
    exact ⟨_, loc, rfl, by simpa [rowsV] using hM, hX _ a cap (hown _ (halt _ _ _) fun l' hl' => by simpa [mkE, hloc] using hl'.symm)⟩
  · have hpos : 0 < d.length := List.length_pos_iff.2 hd
    have hlt : l.st < l.n := by omega
    obtain ⟨c, e, fz, vs, k1, k2, k3, k4, k5, k6⟩ := g6 hlt
    rw [rowsV_flat] at k3
    have := relL_vals_eq k3
    subst this
    simp only [g1, Nat.mul_one, Nat.zero_mul, Nat.add_zero] at hadr
    have ha' := hadr (by omega)
    subst ha'
    have hblk : l.b < w.heap.size := (Array.getElem?_eq_some_iff.1 k1).1
    have k1' : w.heap[l.b]? = some (.cells c e fz) := k1
    have hH : Holds enc w l.b l.st d.toArray := by
      intro j hj
      have hj' : j < d.length := by simpa using hj
      refine ⟨?_, ?_⟩
      · simp only [World.cell?, k1', Option.isSome_none, Bool.false_eq_true, if_false]
        rw [k5 j (enc d[j]) (by simp [hj'])]
        simp [hj']
      · simp only [World.frozen?, k1']
        have := k6 (l.st + j) (by omega)
        simp only [Bool.and_eq_false_imp, decide_eq_true_eq, decide_eq_false_iff_not]
        first | (intro h; omega) | (simp; omega) | omega
    refine (hc hd l.b l.st cap w hH hblk hlen).mono ?_
    rintro e' w' ⟨rfl, n, os, rfl⟩
    have hhp : hpL [some (.row 1 true (rowsV enc d))] [] 0 = some (.row 1 true (rowsV enc d)) := rfl
    have hmt0 : mtOf (hpL [some (.row 1 true (rowsV enc d))] []) loc l.b := ⟨0, _, l, hhp, rfl, hloc, rfl, hlt⟩
    have hzero : ∀ (rows : List (List AV)) t o, hpL [some (.row 1 true rows)] [] t = some o → t = 0 ∧ o = .row 1 true rows := fun rows t o ho => by
      simp only [hpL] at ho
      by_cases ht : t = 0
      · subst ht; simp at ho; exact ⟨rfl, ho.symm⟩
      · split at ho
        · rw [List.getElem?_eq_none (by simp; omega)] at ho; cases ho
        · simp at ho
    have hmt : ∀ b, mtOf (hpL [some (.row 1 true (rowsV enc (d'.take k)))] []) loc b → mtOf (hpL [some (.row 1 true (rowsV enc d))] []) loc b := by
      rintro b ⟨t, o, l', q1, q2, q3, q4, q5⟩
      obtain ⟨rfl, rfl⟩ := hzero _ t o q1
      exact ⟨0, _, l', hhp, rfl, q3, q4, q5⟩
    have hx : Ext (mkE m (hpL [some (.row 1 true (rowsV enc d))] []) (fun t => t < 8) loc w) (mkE m (hpL [some (.row 1 true (rowsV enc (d'.take k)))] []) (fun t => t < 8 + ([] : List (Option AObj)).length) loc (grow (putRow enc (Sort.ahead w n) l.b l.st d'.toArray) os)) :=
      mk_ext (fun t ht => by show t < 8 + 0; exact ht) (fun _ _ _ h => h) (size_put _) (fun b _ => hmt b) (fun b hb hn => heap_put_other _ hb fun hc => hn (hc ▸ hmt0))
    refine ⟨_, loc, rfl, ?_, hX _ _ cap (hown _ (halt _ _ _) fun l' hl' => by simpa [mkE, hloc] using hl'.symm)⟩
    refine hM.change hx (fun t o ho => ?_) (fun t ht => ?_) (fun t l' hl' => ?_) hM.inj rfl rfl rfl (fun b hb => .inl (hmt b hb)) (fun t l' q1 q2 => .inl ⟨t, l', q1, q2, rfl⟩)
    · obtain ⟨rfl, rfl⟩ := hzero _ t o ho
      have hkl : (d'.take k).length = k := by rw [List.length_take]; omega
      refine .inr ⟨l, hloc, g1, g2, fun r hr => ?_, ?_, g5, fun _ => ⟨_, e, fz, (d'.take k).map enc, heap_put _ k1', ?_, ?_, ?_, ?_, k6⟩⟩
      · obtain ⟨x, _, rfl⟩ := List.mem_map.1 hr; rfl
      · rw [rowsV_len, hkl]; omega
      · simpa [putCells] using k2
      · rw [rowsV_flat]; exact relL_vals _
      · intro v hv; obtain ⟨x, _, rfl⟩ := List.mem_map.1 hv; exact h1 x
      · intro q v hv
        have hq : q < k := by
          have := (List.getElem?_eq_some_iff.1 hv).1
          rw [List.length_map, hkl] at this; exact this
        have hqd : q < d'.length := by omega
        have e1 : ((d'.take k).map enc)[q]? = some (enc d'[q]) := by
          rw [List.getElem?_map, List.getElem?_take_of_lt hq, List.getElem?_eq_getElem hqd]; rfl
        rw [e1, Option.some.injEq] at hv
        subst hv
        have hcl : l.st + q < c.size := by rw [k2]; omega
        simp only [putCells, Array.getElem?_mapIdx, Array.getElem?_eq_getElem hcl, Option.map_some, List.size_toArray]
        rw [if_pos ⟨by omega, by omega⟩, show l.st + q - l.st = q by omega]
        simp [hqd]
    · have : t ≠ 0 := fun e => by subst e; simp [hpL] at ht
      refine hM.none_ t ?_
      simp only [hpL]
      split
      · rw [List.getElem?_eq_none (by simp; omega)]; rfl
      · simp
    · exact hx.al t (hM.al_ t l' hl')
end Go.Gm

set_option linter.all false
namespace Go.Gm
open Go.Sort Go.Proofs
def lb (l : List UInt8) : ByteArray := ⟨l.toArray⟩
theorem lb_bl (s : ByteArray) : lb (bl s) = s := by cases s; simp [lb, bl]
theorem bl_lb (l : List UInt8) : bl (lb l) = l := by simp [lb, bl]
theorem encStr_lb (l : List UInt8) : encStr l = .string (lb l) := rfl
def sortS (l : List ByteArray) : List ByteArray := ((l.map bl).mergeSort fun x y => decide (x ≤ y)).map lb
theorem sortS_len (l : List ByteArray) : (sortS l).length = l.length := by simp [sortS]
def sortI (l : List Int) : List Int := l.mergeSort fun x y => decide (x ≤ y)
theorem sortI_len (l : List Int) : (sortI l).length = l.length := by simp [sortI]
def compS (l : List ByteArray) : List ByteArray := (Lib.compact (l.map bl)).map lb
def compI (l : List Int) : List Int := Lib.compact l
theorem rowsV_str {enc : ByteArray → List AV} (he : ∀ x, enc x = [.val (.string x)]) (l : List ByteArray) : rowsV encStr (l.map bl) = l.map enc := by
  simp only [rowsV, List.map_map]
  apply List.map_congr_left
  intro x _
  simp only [Function.comp, he, encStr_lb, lb_bl]
theorem rowsV_str' {enc : ByteArray → List AV} (he : ∀ x, enc x = [.val (.string x)]) (l : List (List UInt8)) : rowsV encStr l = (l.map lb).map enc := by
  simp only [rowsV, List.map_map]
  apply List.map_congr_left
  intro x _
  simp only [Function.comp, he, encStr_lb]
theorem rowsV_int {enc : Int → List AV} (he : ∀ x, enc x = [.val (.int .i64 x)]) (l : List Int) : rowsV (Value.int .i64) l = l.map enc := by
  simp only [rowsV]
  apply List.map_congr_left
  intro x _
  rw [he]
theorem ic_sortS {P : Program} {enc : ByteArray → List AV} (he : ∀ x, enc x = [.val (.string x)]) (f : FuncId)
    (hs : ∀ blk off cap (l : List (List UInt8)) (w : World), Holds encStr w blk off l.toArray → blk < w.heap.size → l.length < 4611686018427387904 → Calls P f #[.slice (some ⟨blk, off, none⟩) l.length cap] w fun e w' => e = .returned (.tuple #[]) ∧ ∃ n os, w' = grow (putRow encStr (Sort.ahead w n) blk off (l.mergeSort fun x y => decide (x ≤ y)).toArray) os)
    (hn : ∀ p cap (w : World), Calls P f #[.slice p 0 cap] w fun e w' => e = .returned (.tuple #[]) ∧ w' = w) (l : List ByteArray) (hl : l.length < 4611686018427387904) :
    IC P f [some (.row 1 true (l.map enc))] [.own 0 0 l.length] (.tup []) [some (.row 1 true ((sortS l).map enc))] [] := by
  have h := ic_row (P := P) (f := f) (enc := encStr) (fun _ => rfl) (d := l.map bl) (d' := (l.map bl).mergeSort fun x y => decide (x ≤ y)) (k := (l.map bl).length) (X := .tup []) (R := fun _ _ => .tuple #[]) (by simp) (Nat.le_refl _)
    (fun E a cap _ => Rel.tup (vs := []) .nil) (fun _ blk off cap w hH hb _ => hs blk off cap _ w hH hb (by simpa using hl)) (fun _ a cap w => hn a cap w)
  rw [List.take_of_length_le (by simp), rowsV_str he, rowsV_str' he, List.length_map] at h
  exact h
theorem ic_sortI {P : Program} {enc : Int → List AV} (he : ∀ x, enc x = [.val (.int .i64 x)]) (f : FuncId)
    (hs : ∀ blk off cap (l : List Int) (w : World), Holds (Value.int .i64) w blk off l.toArray → blk < w.heap.size → l.length < 4611686018427387904 → Calls P f #[.slice (some ⟨blk, off, none⟩) l.length cap] w fun e w' => e = .returned (.tuple #[]) ∧ ∃ n os, w' = grow (putRow (Value.int .i64) (Sort.ahead w n) blk off (l.mergeSort fun x y => decide (x ≤ y)).toArray) os)
    (hn : ∀ p cap (w : World), Calls P f #[.slice p 0 cap] w fun e w' => e = .returned (.tuple #[]) ∧ w' = w) (l : List Int) (hl : l.length < 4611686018427387904) :
    IC P f [some (.row 1 true (l.map enc))] [.own 0 0 l.length] (.tup []) [some (.row 1 true ((sortI l).map enc))] [] := by
  have h := ic_row (P := P) (f := f) (enc := Value.int .i64) (fun _ => rfl) (d := l) (d' := l.mergeSort fun x y => decide (x ≤ y)) (k := l.length) (X := .tup []) (R := fun _ _ => .tuple #[]) (by simp) (Nat.le_refl _)
    (fun E a cap _ => Rel.tup (vs := []) .nil) (fun _ blk off cap w hH hb _ => hs blk off cap _ w hH hb hl) (fun _ a cap w => hn a cap w)
  rw [List.take_of_length_le (by simp), rowsV_int he, rowsV_int he] at h
  exact h
theorem compact_le {α : Type} [Inhabited α] [DecidableEq α] (l : List α) : (Lib.compact l).length ≤ l.length := by
  unfold Lib.compact Lib.compactUpTo
  rw [List.length_map]
  exact Nat.le_trans (List.length_filter_le _ _) (by simp)
theorem rel_cut {E : Env} {a : Option Addr} {n k cap : Nat} (hk : k ≤ n) (h : Rel E (.own 0 0 n) (.slice a n cap)) : Rel E (.own 0 0 k) (.slice a k cap) := by
  cases h with
  | own ha hh =>
    refine .own ha fun l hl => ?_
    obtain ⟨a', cap', e, h1, h2, h3, h4⟩ := hh l hl
    cases e
    exact ⟨a, cap, rfl, h1, h2, by omega, h4⟩
theorem ic_compS {P : Program} {enc : ByteArray → List AV} (he : ∀ x, enc x = [.val (.string x)]) (f : FuncId)
    (hs : ∀ blk off cap (l : List (List UInt8)) (w : World), Holds encStr w blk off l.toArray → l.length ≤ 9223372036854775807 → l.length ≤ cap → Calls P f #[.slice (some ⟨blk, off, none⟩) l.length cap] w fun e w' => e = .returned (.slice (some ⟨blk, off, none⟩) (Lib.compact l).length cap) ∧ ∃ q, w' = putRow encStr (Sort.ahead w q) blk off (Lib.compact l ++ List.replicate (l.length - (Lib.compact l).length) []).toArray)
    (hn : ∀ a cap (w : World), Calls P f #[.slice a 0 cap] w fun e w' => e = .returned (.slice a 0 cap) ∧ w' = w) (l : List ByteArray) (hl : l.length < 4611686018427387904) :
    IC P f [some (.row 1 true (l.map enc))] [.own 0 0 l.length] (.own 0 0 (compS l).length) [some (.row 1 true ((compS l).map enc))] [] := by
  have hle := compact_le (l.map bl)
  rw [List.length_map] at hle
  have h := ic_row (P := P) (f := f) (enc := encStr) (fun _ => rfl) (d := l.map bl) (d' := Lib.compact (l.map bl) ++ List.replicate ((l.map bl).length - (Lib.compact (l.map bl)).length) []) (k := (Lib.compact (l.map bl)).length) (X := .own 0 0 (compS l).length)
    (R := fun a cap => .slice a (Lib.compact (l.map bl)).length cap) (by simp; omega) (by simpa using hle)
    (fun E a cap hr => by rw [show (compS l).length = (Lib.compact (l.map bl)).length by simp [compS]]; exact rel_cut (by simpa using hle) hr)
    (fun _ blk off cap w hH hb hc => (hs blk off cap _ w hH (by rw [List.length_map]; omega) hc).mono (by rintro e w' ⟨h1, q, h2⟩; exact ⟨h1, q, #[], by rw [h2, grow_empty]⟩))
    (fun hd a cap w => by rw [hd]; exact hn a cap w)
  rw [List.take_left, rowsV_str he, rowsV_str' he, List.length_map] at h
  exact h
theorem ic_compI {P : Program} {enc : Int → List AV} (he : ∀ x, enc x = [.val (.int .i64 x)]) (f : FuncId)
    (hs : ∀ blk off cap (l : List Int) (w : World), Holds (Value.int .i64) w blk off l.toArray → l.length ≤ 9223372036854775807 → l.length ≤ cap → Calls P f #[.slice (some ⟨blk, off, none⟩) l.length cap] w fun e w' => e = .returned (.slice (some ⟨blk, off, none⟩) (Lib.compact l).length cap) ∧ ∃ q, w' = putRow (Value.int .i64) (Sort.ahead w q) blk off (Lib.compact l ++ List.replicate (l.length - (Lib.compact l).length) 0).toArray)
    (hn : ∀ a cap (w : World), Calls P f #[.slice a 0 cap] w fun e w' => e = .returned (.slice a 0 cap) ∧ w' = w) (l : List Int) (hl : l.length < 4611686018427387904) :
    IC P f [some (.row 1 true (l.map enc))] [.own 0 0 l.length] (.own 0 0 (compI l).length) [some (.row 1 true ((compI l).map enc))] [] := by
  have hle := compact_le l
  have h := ic_row (P := P) (f := f) (enc := Value.int .i64) (fun _ => rfl) (d := l) (d' := Lib.compact l ++ List.replicate (l.length - (Lib.compact l).length) 0) (k := (Lib.compact l).length) (X := .own 0 0 (compI l).length)
    (R := fun a cap => .slice a (Lib.compact l).length cap) (by simp; omega) hle
    (fun E a cap hr => rel_cut hle hr)
    (fun _ blk off cap w hH hb hc => (hs blk off cap _ w hH (by omega) hc).mono (by rintro e w' ⟨h1, q, h2⟩; exact ⟨h1, q, #[], by rw [h2, grow_empty]⟩))
    (fun hd a cap w => by subst hd; exact hn a cap w)
  rw [List.take_left, rowsV_int he, rowsV_int he] at h
  exact h
def cmpS (a b : ByteArray) : Int := Lib.compareBytes a.data.toList b.data.toList
theorem pc_scmp {P : Program} (f : FuncId) {a b : ByteArray} (h : ∀ w, Calls P f #[.string a, .string b] w fun e w' => e = .returned (.int .i64 (Lib.compareBytes a.data.toList b.data.toList)) ∧ w' = w) : PC P f [.val (.string a), .val (.string b)] (.val (.int .i64 (cmpS a b))) := by
  intro m w vs hm ht hus
  have e : vs = [.string a, .string b] := relL_vals_eq (us := [.string a, .string b]) hus
  subst e
  refine (h w).mono ?_
  rintro e w' ⟨rfl, rfl⟩
  refine ⟨_, fun _ => none, fun _ => False, fun _ => none, .val (.int .i64 (cmpS a b)), [], rfl, ?_, .val _, by simp only [sealV_val], List.nodup_nil⟩
  constructor
  · intro t o h; cases h
  · intro t _; rfl
  · intro t l h; cases h
  · intro t t' l l' h; cases h
  · rfl
  · rfl
  · rfl
  · exact Nat.le_refl _
  · intro _ _ _; rfl
  · rintro b ⟨t, o, l, h, _⟩; cases h
  · intro t l h; cases h
  · intro t h; exact absurd h (Nat.not_lt_zero t)
  · intro t l h; exact absurd h (Nat.not_lt_zero t)
end Go.Gm

set_option linter.all false
namespace Go.Gm
open Go.Sort Go.Proofs Go.RowKit Go.Maps
theorem tab_is {P : Program} {m : Nat → Prop} {w : World} {g : Nat} (h : TabH P m w) (hg : P.globalNamed "internal/strconv.uint64pow10" = some g) : Lib.TabIs P w "internal/strconv.uint64pow10" .u64 Lib.pow10Tab := by
  have ht : tabs P g = some (fun cs => cs = (Lib.pow10Tab.map fun z => Value.int .u64 z).toArray) := by
    unfold tabs libTabs
    simp [hg]
  obtain ⟨h1, h2, cs, t, fz, h3, rfl⟩ := h g _ ht
  unfold Lib.TabIs World.var?
  simp only [hg, Option.bind_some, h3]
/-- The library's variable MaxLen holds a number. -/
theorem max_is {P : Program} {m : Nat → Prop} {w : World} {g : Nat} (h : TabH P m w) (hne : (P.globalNamed "internal/strconv.uint64pow10" == some g) = false) (hg : P.globalNamed "internal/bytealg.MaxLen" = some g) : ∃ m : Int, w.cell? ⟨g, 0, none⟩ = some (.int .i64 m) := by
  have ht : tabs P g = some (fun cs => ∃ m : Int, cs[0]? = some (.int .i64 m)) := by
    unfold tabs libTabs
    rw [List.find?_cons, hne]
    simp [hg]
  obtain ⟨h1, h2, cs, t, fz, h3, m, h4⟩ := h g _ ht
  exact ⟨m, by simp [World.cell?, h3, h4]⟩
/-- A contract on plain values: nothing that was there is touched. -/
theorem pc_val {P : Program} {f : FuncId} {us : List Value} {v : Value}
    (h : ∀ (w : World) (vs : List Value), TabH P (fun _ => False) w → vs = us → Calls P f vs.toArray w fun e w' => e = .returned v ∧ w.heap.size ≤ w'.heap.size ∧ (∀ b, b < w.heap.size → w'.heap[b]? = w.heap[b]?) ∧ w'.os = w.os ∧ w'.tape = w.tape ∧ w'.output = w.output)
    (hs : sealV (fun _ => none) (.val v) = some (.val v, [])) : PC P f (us.map .val) (.val v) := by
  intro m w vs hm ht hus
  refine (h w vs ht (relL_vals_eq hus)).mono ?_
  rintro e w' ⟨rfl, k1, k2, k3, k4, k5⟩
  refine ⟨_, fun _ => none, fun _ => False, fun _ => none, .val v, [], rfl, ?_, .val _, hs, List.nodup_nil⟩
  constructor
  · intro t o h; cases h
  · intro t _; rfl
  · intro t l h; cases h
  · intro t t' l l' h; cases h
  · exact k3
  · exact k4
  · exact k5
  · exact k1
  · intro b hb _; exact k2 b hb
  · rintro b ⟨t, o, l, h, _⟩; cases h
  · intro t l h; cases h
  · intro t h; exact absurd h (Nat.not_lt_zero t)
  · intro t l h; exact absurd h (Nat.not_lt_zero t)
/-- The same of one list and plain values behind it. -/
theorem pc_read {P : Program} {f : FuncId} {u : AV} {us : List Value} {v : Value}
    (h : ∀ (m : Nat → Prop) (w : World) (x : Value), TabH P (fun _ => False) w → Rel (E0 m w) u x → Calls P f (x :: us).toArray w fun e w' => e = .returned v ∧ w.heap.size ≤ w'.heap.size ∧ (∀ b, b < w.heap.size → w'.heap[b]? = w.heap[b]?) ∧ w'.os = w.os ∧ w'.tape = w.tape ∧ w'.output = w.output)
    (hs : sealV (fun _ => none) (.val v) = some (.val v, [])) : PC P f (u :: us.map .val) (.val v) := by
  intro m w vs hm ht hus
  cases hus with
  | cons hu hus =>
  rename_i x vs
  have e := relL_vals_eq hus
  subst e
  refine (h m w x ht hu).mono ?_
  rintro e w' ⟨rfl, k1, k2, k3, k4, k5⟩
  refine ⟨_, fun _ => none, fun _ => False, fun _ => none, .val v, [], rfl, ?_, .val _, hs, List.nodup_nil⟩
  constructor
  · intro t o h; cases h
  · intro t _; rfl
  · intro t l h; cases h
  · intro t t' l l' h; cases h
  · exact k3
  · exact k4
  · exact k5
  · exact k1
  · intro b hb _; exact k2 b hb
  · rintro b ⟨t, o, l, h, _⟩; cases h
  · intro t l h; cases h
  · intro t h; exact absurd h (Nat.not_lt_zero t)
  · intro t l h; exact absurd h (Nat.not_lt_zero t)
def joinS (l : List ByteArray) (sep : ByteArray) : ByteArray := ⟨(Lib.join (l.map (·.data.toList)) sep.data.toList).toArray⟩
theorem pc_join {P : Program} {enc : ByteArray → List AV} (he : ∀ x, enc x = [.val (.string x)]) (f : FuncId) (l : List ByteArray) (sep : ByteArray) (hl : l.length ≤ 140737488355328) (hj : (joinS l sep).size ≤ 140737488355328)
    (h : ∀ (bk o c : Nat) (xs : List ByteArray) (sep : ByteArray) (w : World), (∀ (j : Nat) x, xs[j]? = some x → w.cell? ⟨bk, o + j, none⟩ = some (.string x)) → bk < w.heap.size → xs.length ≤ 140737488355328 → xs.length ≤ c → (Lib.join (xs.map (·.data.toList)) sep.data.toList).length ≤ 140737488355328 →
      Calls P f #[.slice (some ⟨bk, o, none⟩) xs.length c, .string sep] w fun e w' => e = .returned (.string ⟨(Lib.join (xs.map (·.data.toList)) sep.data.toList).toArray⟩) ∧ Below w.heap.size w w')
    (h0 : ∀ (a : Option Addr) (c : Nat) (sep : ByteArray) (w : World), Calls P f #[.slice a 0 c, .string sep] w fun e w' => e = .returned (.string ⟨(Lib.join (([] : List ByteArray).map (·.data.toList)) sep.data.toList).toArray⟩) ∧ w' = w) :
    PC P f [.sl (l.map enc), .val (.string sep)] (.val (.string (joinS l sep))) := by
  have hj' : (Lib.join (l.map (·.data.toList)) sep.data.toList).length ≤ 140737488355328 := by simpa [joinS, ByteArray.size] using hj
  refine pc_read (us := [.string sep]) (fun m w x ht hx => ?_) (by simp only [sealV_val])
  generalize hr : l.map enc = rows at hx
  cases hx with
  | sl0 a c =>
    have : l = [] := by simpa using hr
    subst this
    refine (h0 a c sep w).mono ?_
    rintro e w' ⟨rfl, rfl⟩
    exact ⟨rfl, Nat.le_refl _, fun _ _ => rfl, rfl, rfl, rfl⟩
  | sl hb hm hne hsz hpos hcap h1 hc hrl =>
    rename_i b o cap sz vs
    have hlen : rows.length = l.length := by rw [← hr]; simp
    have hfl : rows.flatten = (l.map Value.string).map .val := by
      rw [← hr]
      clear hr hrl hne hsz hcap h1 hc hlen hj hj' hl
      induction l with
      | nil => rfl
      | cons x l ih => simp only [List.map_cons, List.flatten_cons, he, ih, List.cons_append, List.nil_append]
    rw [hfl] at hrl
    have hvs := relL_vals_eq hrl
    subst hvs
    rw [hlen] at hcap ⊢
    refine (h b o cap l sep w (fun j x hj => hc j (.string x) (by simp [hj])) hb hl hcap hj').mono ?_
    rintro e w' ⟨rfl, hB⟩
    exact ⟨rfl, hB.size, fun q hq => hB.block q hq, hB.os, hB.tape, hB.output⟩
def itoaS (n : Int) : ByteArray := ⟨(Lib.itoa n).toArray⟩
theorem pc_itoa {P : Program} (f : FuncId) {g : Nat} (hg : P.globalNamed "internal/strconv.uint64pow10" = some g) {n : Int} (h0 : -9223372036854775808 ≤ n) (h1 : n ≤ 9223372036854775807)
    (h : ∀ w, Lib.TabIs P w "internal/strconv.uint64pow10" .u64 Lib.pow10Tab → Calls P f #[.int .i64 n] w fun e w' => e = .returned (.string ⟨(Lib.itoa n).toArray⟩) ∧ ∃ k os, w' = grow (w.drewN k) os) : PC P f [.val (.int .i64 n)] (.val (.string (itoaS n))) := by
  refine pc_val (us := [.int .i64 n]) (fun w vs ht hvs => ?_) (by simp only [sealV_val])
  subst hvs
  refine (h w (tab_is ht hg)).mono ?_
  rintro e w' ⟨rfl, k, os, rfl⟩
  exact ⟨rfl, by simp, fun b hb => by rw [heap_grow_old _ _ (by simpa using hb)]; rfl, rfl, rfl, rfl⟩
end Go.Gm

set_option linter.all false
namespace Go.Gm
open Go.Sort Go.Proofs Go.RowKit Go.Maps
theorem flat_one {α : Type} {mv : α → Value} {enc : α → List AV} (he : ∀ x, enc x = [.val (mv x)]) : ∀ l : List α, (l.map enc).flatten = (l.map mv).map .val
  | [] => by simp only [List.map_nil, List.flatten_nil]
  | x :: l => by simp only [List.map_cons, List.flatten_cons, he, flat_one he l, List.cons_append, List.nil_append]
theorem pc_alloc {P : Program} {f : FuncId} {us : List Value} {α : Type} {mv : α → Value} (h1 : ∀ x, (mv x).oneCell' = true) {enc : α → List AV} (he : ∀ x, enc x = [.val (mv x)]) {l : List α} (hne : 0 < l.length)
    (h : ∀ (w : World) (vs : List Value), TabH P (fun _ => False) w → vs = us → Calls P f vs.toArray w fun e w' => e = .returned (.slice (some ⟨w.heap.size, 0, none⟩) l.length l.length) ∧ ∃ t, w' = w.alloc (.cells (l.map mv).toArray t)) : PC P f (us.map .val) (.fr 1 (l.map enc)) := by
  intro m w vs hm ht hus
  refine (h w vs ht (relL_vals_eq hus)).mono ?_
  rintro e w' ⟨rfl, t, rfl⟩
  have hinl : inlR (l.map enc) = true := inlR_map (fun x => by rw [he]; rfl) l
  let hp : AHeap := fun t => if t = 0 then some (.row 1 true (l.map enc)) else none
  let L : Loc := ⟨w.heap.size, 0, 1, l.length⟩
  have hz : ∀ t o, hp t = some o → t = 0 ∧ o = .row 1 true (l.map enc) := fun t o ho => by
    by_cases ht : t = 0
    · subst ht; simp [hp] at ho; exact ⟨rfl, ho.symm⟩
    · simp [hp, ht] at ho
  have hlz : ∀ t L', (if t = 0 then some L else none) = some L' → t = 0 ∧ L' = L := fun t L' hL => by
    by_cases ht : t = 0
    · subst ht; simp at hL; exact ⟨rfl, hL.symm⟩
    · simp [ht] at hL
  have hflat : (l.map enc).flatten = (l.map mv).map .val := flat_one he l
  refine ⟨_, hp, fun t => t = 0, fun t => if t = 0 then some L else none, .own 0 0 l.length, [0], rfl, ?_, ?_, ?_, by simp⟩
  · constructor
    · intro t' o ho
      obtain ⟨rfl, rfl⟩ := hz t' o ho
      refine ⟨L, rfl, rfl, Nat.one_pos, fun r hr => ?_, by simp [L], ⟨l.length, by simp [L]⟩, fun _ => ⟨(l.map mv).toArray, t, (0, 0), l.map mv, ?_, by simp [L], ?_, ?_, ?_, fun k _ => by simp⟩⟩
      · obtain ⟨x, _, rfl⟩ := List.mem_map.1 hr; rw [he]; rfl
      · show (w.heap.push _)[w.heap.size]? = _
        simp
      · rw [hflat]; exact relL_vals _
      · intro u hu; obtain ⟨x, _, rfl⟩ := List.mem_map.1 hu; exact h1 x
      · intro k u hu; simpa [L] using hu
    · intro t ht
      by_cases h0 : t = 0
      · subst h0; simp [hp] at ht
      · simp [h0]
    · intro t L' hL; exact (hlz t L' hL).1
    · intro t t' L1 L2 h1 h2 _ _ _
      rw [(hlz t L1 h1).1, (hlz t' L2 h2).1]
    · rfl
    · rfl
    · rfl
    · simp
    · intro b hlt _; exact heap_alloc_lt w _ b hlt
    · rintro b ⟨t, o, L', h1, h2, h3, h4, h5⟩ hlt
      obtain ⟨_, rfl⟩ := hlz t L' h3
      have h10 : b < w.heap.size := hlt
      have : w.heap.size = b := h4
      show False
      omega
    · intro t L' hL hpos hmb
      obtain ⟨_, rfl⟩ := hlz t L' hL
      have := hm _ hmb
      have : w.heap.size < w.heap.size := this
      omega
    · intro t ht; exact absurd ht (Nat.not_lt_zero t)
    · intro t L' ht; exact absurd ht (Nat.not_lt_zero t)
  · refine .own rfl fun L' hL => ?_
    obtain ⟨_, rfl⟩ := hlz 0 L' hL
    exact ⟨_, _, rfl, Nat.one_pos, by simp [L], Nat.le_refl _, fun _ => by simp [L]⟩
  · have := own_fr (hp := hp) (t := 0) (n := l.length) (sz := 1) (rows := l.map enc) rfl (by simp) hinl
    simpa only [resOf_1] using this
theorem pc_index {P : Program} (f : FuncId) {g : Nat} (hne : (P.globalNamed "internal/strconv.uint64pow10" == some g) = false) (hg : P.globalNamed "internal/bytealg.MaxLen" = some g) (s t : ByteArray) (hs : s.size < 4294967281)
    (h : ∀ (m : Int) (w : World), w.cell? ⟨g, 0, none⟩ = some (.int .i64 m) → Calls P f #[.string s, .string t] w fun e w' => e = .returned (.int .i64 (Lib.index s.data.toList t.data.toList)) ∧ w' = w) :
    PC P f [.val (.string s), .val (.string t)] (.val (.int .i64 (Lib.index s.data.toList t.data.toList))) :=
  pc_val (us := [.string s, .string t]) (fun w vs ht hv => by
    subst hv
    obtain ⟨m, hm⟩ := max_is ht hne hg
    refine (h m w hm).mono ?_
    rintro e w' ⟨rfl, rfl⟩
    exact ⟨rfl, Nat.le_refl _, fun _ _ => rfl, rfl, rfl, rfl⟩) (by simp only [sealV_val])
def splitS (s t : ByteArray) : List ByteArray := Lib.splitB t 0 (Lib.countB s t) s
theorem pc_split {P : Program} {enc : ByteArray → List AV} (he : ∀ x, enc x = [.val (.string x)]) (f : FuncId) {g : Nat} {ty : TypeId} (hne : (P.globalNamed "internal/strconv.uint64pow10" == some g) = false) (hg : P.globalNamed "internal/bytealg.MaxLen" = some g) (s t : ByteArray) (hs : s.size < 4294967281) (h1 : 1 ≤ t.size)
    (h : ∀ (m : Int) (w : World), w.cell? ⟨g, 0, none⟩ = some (.int .i64 m) → Calls P f #[.string s, .string t] w fun e w' => e = .returned (.slice (some ⟨w.heap.size, 0, none⟩) (Lib.countB s t + 1) (Lib.countB s t + 1)) ∧ w' = w.alloc (.cells ((Lib.splitB t 0 (Lib.countB s t) s).map Value.string).toArray ty)) (hl : (splitS s t).length = Lib.countB s t + 1) :
    PC P f [.val (.string s), .val (.string t)] (.fr 1 ((splitS s t).map enc)) :=
  pc_alloc (us := [.string s, .string t]) (mv := Value.string) (fun _ => rfl) he (by omega) (fun w vs ht hv => by
    subst hv
    obtain ⟨m, hm⟩ := max_is ht hne hg
    refine (h m w hm).mono ?_
    rintro e w' ⟨rfl, rfl⟩
    exact ⟨by rw [hl], ty, rfl⟩)
end Go.Gm

set_option linter.all false
set_option maxRecDepth 8000
namespace Go.Gm
open Go.Lib
theorem i64_id {n : Int} (h0 : -9223372036854775808 ≤ n) (h1 : n < 9223372036854775808) : IntKind.i64.wrap n = n := by
  simp only [IntKind.wrap, IntKind.bits, IntKind.signed, Bool.true_and]
  split
  · rename_i h; simp only [ge_iff_le, decide_eq_true_eq] at h; omega
  · rename_i h; simp only [ge_iff_le, decide_eq_true_eq] at h; omega
theorem u64_wrap (n : Int) : IntKind.u64.wrap n = n % 18446744073709551616 := by
  simp [IntKind.wrap, IntKind.bits, IntKind.signed]
theorem u8_wrap (n : Int) : IntKind.u8.wrap n = n % 256 := by
  simp [IntKind.wrap, IntKind.bits, IntKind.signed]
theorem i64_wrap (n : Int) : IntKind.i64.wrap n = (n + 9223372036854775808) % 18446744073709551616 - 9223372036854775808 := by
  simp only [IntKind.wrap, IntKind.bits, IntKind.signed, Bool.true_and]
  split
  · rename_i h; simp only [ge_iff_le, decide_eq_true_eq] at h; omega
  · rename_i h; simp only [ge_iff_le, decide_eq_true_eq] at h; omega
theorem i64_range (n : Int) : -9223372036854775808 ≤ IntKind.i64.wrap n ∧ IntKind.i64.wrap n ≤ 9223372036854775807 := by rw [i64_wrap]; omega
theorem appO_ok' {α : Type} {l r : List α} (h : l.length ≤ 10000000000) (h1 : r.length ≤ 10000000000) : appO? l r = some (l ++ r) := appO?_some.2 ⟨by omega, rfl⟩
theorem wrapN {i : Nat} (h : i ≤ 10000000000) : IntKind.i64.wrap ((i : Int) + 1) = ((i + 1 : Nat) : Int) := by rw [i64_id (by omega) (by omega)]; omega
theorem ixN {α : Type} {l : List α} {i : Nat} (h : i < l.length) : ix l (i : Int) = some l[i] := ix_some.2 ⟨by omega, by simp [List.getElem?_eq_getElem h]⟩
theorem guard_ok {p : Prop} [Decidable p] (h : p) : guardO p = some () := guardO_some.2 h
theorem bl_app (a b : ByteArray) : bl (a ++ b) = bl a ++ bl b := by simp [bl]
theorem lb_app (a b : List UInt8) : lb a ++ lb b = lb (a ++ b) := bl_inj.1 (by simp [bl_app, bl_lb])
theorem size_bl (a : ByteArray) : a.size = (bl a).length := by cases a; rfl
theorem cat_ok {a b : ByteArray} (h : a.size ≤ 1000000000) (h1 : b.size ≤ 1000000000) : catO a b = some (a ++ b) := catO_some.2 ⟨by omega, rfl⟩
theorem lb_size (a : List UInt8) : (lb a).size = a.length := by simp [lb, ByteArray.size]
theorem empty_iff (s : ByteArray) : s = ⟨#[]⟩ ↔ bl s = [] := by
  constructor
  · rintro rfl; rfl
  · intro h; exact bl_inj.1 (by rw [h]; rfl)
theorem bl_extract (s : ByteArray) (a b : Nat) : bl (s.extract a b) = ((bl s).take b).drop a := by
  simp [bl, List.extract_eq_drop_take, List.drop_take]
theorem cutS_ok {s : ByteArray} {lo hi : Nat} (h : lo ≤ hi) (k : hi ≤ s.size) : cutSO? s (lo : Int) (hi : Int) = some (s.extract lo hi) := cutSO?_some.2 ⟨⟨by omega, by omega, by omega⟩, by simp⟩
/-- A loop that goes on in step. -/
theorem loopN {τ ρ : Type} {step : τ → Option (τ ⊕ ρ)} (st : Nat → τ) : ∀ (n : Nat), (∀ i, i < n → step (st i) = some (.inl (st (i + 1)))) → loopO step (st 0) = loopO step (st n)
  | 0, _ => rfl
  | n + 1, h => (loopN st n (fun i hi => h i (by omega))).trans (loopO_next (h n (by omega)))
theorem loopN_done {τ ρ : Type} {step : τ → Option (τ ⊕ ρ)} (st : Nat → τ) (n : Nat) {r : ρ} (h : ∀ i, i < n → step (st i) = some (.inl (st (i + 1)))) (hd : step (st n) = some (.inr r)) : loopO step (st 0) = some r := (loopN st n h).trans (loopO_done hd)
/-! ### decimals -/
def dig (d : Nat) : UInt8 := UInt8.ofNat (48 + d)
theorem dec_lt {u : Nat} (h : u < 10) : decDigits u = [dig u] := by rw [decDigits, dif_pos h]; rfl
theorem dec_ge {u : Nat} (h : ¬ u < 10) : decDigits u = decDigits (u / 10) ++ [dig (u % 10)] := by rw [decDigits, dif_neg h]; rfl
theorem dec_len : ∀ (k u : Nat), u < 10 ^ (k + 1) → (decDigits u).length ≤ k + 1
  | 0, u, h => by rw [dec_lt (by simpa using h)]; simp
  | k + 1, u, h => by
    by_cases hu : u < 10
    · rw [dec_lt hu]; simp
    · rw [dec_ge hu, List.length_append]
      have := dec_len k (u / 10) (by rw [Nat.pow_succ] at h; omega)
      simp; omega
theorem dec_pos (u : Nat) : decDigits u ≠ [] := by
  by_cases hu : u < 10
  · rw [dec_lt hu]; simp
  · rw [dec_ge hu]; simp
theorem dec_20 {u : Nat} (h : u ≤ 9223372036854775808) : (decDigits u).length ≤ 20 := dec_len 19 u (by omega)
theorem dig_cut : ∀ {d : Nat}, d < 10 → cutSO? ⟨#[48, 49, 50, 51, 52, 53, 54, 55, 56, 57]⟩ (d : Int) ((d + 1 : Nat) : Int) = some (lb [dig d])
  | 0, _ => by kernel_rfl
  | 1, _ => by kernel_rfl
  | 2, _ => by kernel_rfl
  | 3, _ => by kernel_rfl
  | 4, _ => by kernel_rfl
  | 5, _ => by kernel_rfl
  | 6, _ => by kernel_rfl
  | 7, _ => by kernel_rfl
  | 8, _ => by kernel_rfl
  | 9, _ => by kernel_rfl
  | n + 10, h => absurd h (by omega)
theorem tdq (m : Int) : (0 ≤ m → m.tdiv 10 = ((m.natAbs / 10 : Nat) : Int) ∧ m.tmod 10 = ((m.natAbs % 10 : Nat) : Int)) ∧ (m < 0 → m.tdiv 10 = -((m.natAbs / 10 : Nat) : Int) ∧ m.tmod 10 = -((m.natAbs % 10 : Nat) : Int)) := by
  cases m with
  | ofNat n => exact ⟨fun _ => ⟨rfl, rfl⟩, fun h => absurd h (by simp)⟩
  | negSucc n => exact ⟨fun h => absurd h (by simp), fun _ => ⟨rfl, rfl⟩⟩
theorem itoa_size {n : Int} (h0 : -9223372036854775808 ≤ n) (h1 : n ≤ 9223372036854775807) : (itoaS n).size ≤ 21 ∧ bl (itoaS n) ≠ [] := by
  have e : bl (itoaS n) = itoa n := bl_lb _
  rw [size_bl, e]
  unfold itoa
  split
  · have := dec_20 (u := n.natAbs) (by omega); simp; omega
  · have := dec_20 (u := n.toNat) (by omega)
    exact ⟨by omega, dec_pos _⟩
/-! ### comparing -/
theorem cmp0 : ∀ (a b : List UInt8), Lib.compareBytes a b = 0 ↔ a = b
  | [], [] => by simp [Lib.compareBytes]
  | [], _ :: _ => by simp [Lib.compareBytes]
  | _ :: _, [] => by simp [Lib.compareBytes]
  | a :: al, b :: bs => by
    simp only [Lib.compareBytes, List.cons.injEq]
    split
    · rename_i h; simp only [reduceCtorEq, false_iff]; rintro ⟨rfl, _⟩; rw [UInt8.lt_iff_toNat_lt] at h; omega
    · split
      · rename_i h; constructor
        · intro q; cases q
        · rintro ⟨rfl, _⟩; rw [UInt8.lt_iff_toNat_lt] at h; omega
      · rename_i h1 h2
        rw [cmp0 al bs]
        have : a = b := by
          rw [← UInt8.toNat_inj]; rw [UInt8.lt_iff_toNat_lt] at h1 h2; omega
        simp [this]
theorem cmp_lt : ∀ (a b : List UInt8), (a < b → Lib.compareBytes a b = -1) ∧ (Lib.compareBytes a b = -1 ∨ Lib.compareBytes a b = 0 ∨ Lib.compareBytes a b = 1) ∧ (Lib.compareBytes a b = -1 → a < b)
  | [], [] => by simp [Lib.compareBytes]
  | [], _ :: _ => by simp [Lib.compareBytes]
  | _ :: _, [] => by simp [Lib.compareBytes]
  | a :: al, b :: bs => by
    obtain ⟨h1, h2, h3⟩ := cmp_lt al bs
    simp only [Lib.compareBytes, List.cons_lt_cons_iff]
    by_cases h : a < b
    · simp [h]
    · by_cases h' : b < a
      · have : a ≠ b := by rintro rfl; exact h h'
        simp [h, h', this]
      · have : a = b := by
          rw [← UInt8.toNat_inj]; rw [UInt8.lt_iff_toNat_lt] at h h'; omega
        subst this
        simp only [h, if_false, false_or, true_and]
        exact ⟨h1, h2, h3⟩
theorem cmpS_eq (a b : ByteArray) : cmpS a b = if sLt a b = true then -1 else if a = b then 0 else 1 := by
  obtain ⟨h1, h2, h3⟩ := cmp_lt (bl a) (bl b)
  have e : cmpS a b = Lib.compareBytes (bl a) (bl b) := rfl
  rw [e]
  by_cases h : sLt a b = true
  · rw [if_pos h]; exact h1 (sLt_iff.1 h)
  · rw [if_neg h]
    by_cases hab : a = b
    · rw [if_pos hab]; exact (cmp0 _ _).2 (by rw [hab])
    · rw [if_neg hab]
      have n1 : Lib.compareBytes (bl a) (bl b) ≠ -1 := fun q => h (sLt_iff.2 (h3 q))
      have n2 : Lib.compareBytes (bl a) (bl b) ≠ 0 := fun q => hab (bl_inj.1 ((cmp0 _ _).1 q))
      omega
end Go.Gm

set_option linter.all false
namespace Go.Gm
structure SWO {α : Type} (lt : α → α → Bool) : Prop where
  asym : ∀ {x y}, lt x y = true → lt y x = false
  cotr : ∀ {x z} (y), lt x z = true → lt x y = true ∨ lt y z = true
section
variable {α : Type} {lt : α → α → Bool}
def Srt (lt : α → α → Bool) (l : List α) : Prop := l.Pairwise fun x y => lt y x = false
def eqv (lt : α → α → Bool) (k x : α) : Bool := !lt k x && !lt x k
/-- Class by class alike, in order. -/
def SF (lt : α → α → Bool) (l m : List α) : Prop := ∀ k, l.filter (eqv lt k) = m.filter (eqv lt k)
theorem SWO.irr (h : SWO lt) (x : α) : lt x x = false := by
  cases hx : lt x x with
  | false => rfl
  | true => rw [h.asym hx] at hx; cases hx
theorem SWO.le_trans (h : SWO lt) {x y z : α} (h1 : lt y x = false) (h2 : lt z y = false) : lt z x = false := by
  cases hz : lt z x with
  | false => rfl
  | true => rcases h.cotr y hz with k | k
            · rw [h2] at k; cases k
            · rw [h1] at k; cases k
theorem SWO.lt_le (h : SWO lt) {x y z : α} (h1 : lt x y = true) (h2 : lt z y = false) : lt x z = true := by
  rcases h.cotr z h1 with k | k
  · exact k
  · rw [h2] at k; cases k
theorem SWO.le_lt (h : SWO lt) {x y z : α} (h1 : lt y x = false) (h2 : lt y z = true) : lt x z = true := by
  rcases h.cotr x h2 with k | k
  · rw [h1] at k; cases k
  · exact k
theorem SWO.eqv_self (h : SWO lt) (x : α) : eqv lt x x = true := by simp [eqv, h.irr]
theorem SF.refl (l : List α) : SF lt l l := fun _ => rfl
theorem SF.symm {l m : List α} (h : SF lt l m) : SF lt m l := fun k => (h k).symm
theorem SF.trans {l m n : List α} (h : SF lt l m) (h2 : SF lt m n) : SF lt l n := fun k => (h k).trans (h2 k)
theorem SF.append {l m l' m' : List α} (h : SF lt l m) (h' : SF lt l' m') : SF lt (l ++ l') (m ++ m') := fun k => by rw [List.filter_append, List.filter_append, h k, h' k]
theorem SF.mem (hw : SWO lt) {l m : List α} (h : SF lt l m) {x : α} (hx : x ∈ l) : x ∈ m := by
  have : x ∈ l.filter (eqv lt x) := List.mem_filter.2 ⟨hx, hw.eqv_self x⟩
  rw [h x] at this
  exact (List.mem_filter.1 this).1
/-- Two neighbours may change places if all of the second lie before all of the first. -/
theorem SF.swap (hw : SWO lt) {a b : List α} (h : ∀ x ∈ a, ∀ y ∈ b, lt y x = true) : SF lt (a ++ b) (b ++ a) := fun k => by
  rw [List.filter_append, List.filter_append]
  by_cases ha : a.filter (eqv lt k) = []
  · rw [ha]; simp
  · have hb : b.filter (eqv lt k) = [] := by
      obtain ⟨x, hx⟩ := List.exists_mem_of_ne_nil _ ha
      obtain ⟨hx1, hx2⟩ := List.mem_filter.1 hx
      simp only [eqv, Bool.and_eq_true, Bool.not_eq_true'] at hx2
      apply List.filter_eq_nil_iff.2
      intro y hy
      have hyx := h x hx1 y hy
      have : lt y k = true := hw.lt_le hyx hx2.1
      simp [eqv, this]
    rw [hb]; simp
theorem Srt.append {l m : List α} (h1 : Srt lt l) (h2 : Srt lt m) (h : ∀ x ∈ l, ∀ y ∈ m, lt y x = false) : Srt lt (l ++ m) := List.pairwise_append.2 ⟨h1, h2, h⟩
theorem Srt.left {l m : List α} (h : Srt lt (l ++ m)) : Srt lt l := (List.pairwise_append.1 h).1
theorem Srt.right {l m : List α} (h : Srt lt (l ++ m)) : Srt lt m := (List.pairwise_append.1 h).2.1
theorem Srt.cross {l m : List α} (h : Srt lt (l ++ m)) : ∀ x ∈ l, ∀ y ∈ m, lt y x = false := (List.pairwise_append.1 h).2.2
theorem Srt.one (x : α) : Srt lt [x] := List.pairwise_singleton ..
theorem Srt.nil : Srt lt ([] : List α) := List.Pairwise.nil
/-- Of two sorted lists that agree class by class: they are the same. -/
theorem Srt.uniq (hw : SWO lt) : ∀ {l m : List α}, Srt lt l → Srt lt m → SF lt l m → l = m
  | [], [], _, _, _ => rfl
  | [], y :: m, _, _, h => absurd (h.symm.mem hw List.mem_cons_self) (List.not_mem_nil)
  | x :: l, [], _, _, h => absurd (h.mem hw List.mem_cons_self) (List.not_mem_nil)
  | x :: l, y :: m, h1, h2, h => by
    have hx : x ∈ y :: m := h.mem hw List.mem_cons_self
    have hy : y ∈ x :: l := h.symm.mem hw List.mem_cons_self
    obtain ⟨p1, p2⟩ := List.pairwise_cons.1 h1
    obtain ⟨q1, q2⟩ := List.pairwise_cons.1 h2
    have yx : lt x y = false := by
      rcases List.mem_cons.1 hx with e | e
      · rw [e]; exact hw.irr y
      · exact q1 x e
    have xy : lt y x = false := by
      rcases List.mem_cons.1 hy with e | e
      · rw [e]; exact hw.irr x
      · exact p1 y e
    have hk := h x
    have ex : eqv lt x x = true := hw.eqv_self x
    have ey : eqv lt x y = true := by simp [eqv, yx, xy]
    rw [List.filter_cons_of_pos ex, List.filter_cons_of_pos ey] at hk
    obtain ⟨rfl, _⟩ := List.cons.inj hk
    have : SF lt l m := fun k => by
      have := h k
      by_cases hkx : eqv lt k x = true
      · rw [List.filter_cons_of_pos hkx, List.filter_cons_of_pos hkx] at this
        exact (List.cons.inj this).2
      · rw [List.filter_cons_of_neg hkx, List.filter_cons_of_neg hkx] at this
        exact this
    rw [Srt.uniq hw p2 q2 this]
/-- Sorted, of the same classes, and as long. -/
structure Sorts (lt : α → α → Bool) (l r : List α) : Prop where
  srt : Srt lt r
  sf : SF lt r l
  len : r.length = l.length
theorem Sorts.uniq (hw : SWO lt) {l r r' : List α} (h : Sorts lt l r) (h' : Sorts lt l r') : r = r' := Srt.uniq hw h.srt h'.srt (h.sf.trans h'.sf.symm)
end
/-! ### places of a list that is told in pieces -/
section
variable {α : Type}
theorem at_mid (P : List α) (x : α) (R : List α) : (P ++ x :: R)[P.length]? = some x := by simp
theorem set_mid (P : List α) (x y : α) (R : List α) : (P ++ x :: R).set P.length y = P ++ y :: R := by simp
theorem ix_mid {P R : List α} {x : α} {i : Int} (h : i = (P.length : Int)) : ix (P ++ x :: R) i = some x := by
  subst h
  exact ix_some.2 ⟨by omega, by simp⟩
theorem set_mid' {P R : List α} {x y : α} {n : Nat} (h : n = P.length) : (P ++ x :: R).set n y = P ++ y :: R := by subst h; exact set_mid P x y R
theorem split_at {l : List α} {n : Nat} (h : n ≤ l.length) : ∃ A B, l = A ++ B ∧ A.length = n := ⟨l.take n, l.drop n, (List.take_append_drop n l).symm, by rw [List.length_take]; omega⟩
theorem split_mid {l : List α} {n : Nat} (h : n < l.length) : ∃ A x B, l = A ++ x :: B ∧ A.length = n := ⟨l.take n, l[n], l.drop (n + 1), by rw [List.getElem_cons_drop, List.take_append_drop], by rw [List.length_take]; omega⟩
end
end Go.Gm

set_option linter.all false
namespace Go.Gm
open Go.Proofs Go.RowKit Go.Shelf Go.Maps Go.Sort
theorem pc_own {P : Program} {f : FuncId} {us : List AV} {l : List Int} {ety : TypeId} {enc : Int → List AV} (he : ∀ x, enc x = [.val (.int .i64 x)])
    (h : ∀ (m : Nat → Prop) (w : World) (vs : List Value), (∀ b, m b → b < w.heap.size) → RelL (E0 m w) us vs → Calls P f vs.toArray w fun e w' => ∃ v, e = .returned v ∧ w'.ownsRow w.heap.size ety 1 v l.length (l.map (Value.int .i64)) ∧ Below w.heap.size w w') : PC P f us (.fr 1 (l.map enc)) := by
  intro m w vs hm ht hr
  refine (h m w vs hm hr).mono ?_
  rintro e w' ⟨v, rfl, hrow, hb⟩
  have hrows : l.map enc = rowsV (Value.int .i64) l := (rowsV_int he l).symm
  have hinl : inlR (l.map enc) = true := inlR_map (fun x => by rw [he]; rfl) l
  let hp : AHeap := fun t => if t = 0 then some (.row 1 true (l.map enc)) else none
  have main : ∀ (L : Loc), (L.st < L.n → w.heap.size ≤ L.b) → ObjAt (mkE m hp (fun t => t = 0) (fun t => if t = 0 then some L else none) w') L (.row 1 true (l.map enc)) →
      (∃ a cap, v = .slice a l.length cap ∧ 0 < L.sz ∧ L.st + (0 + cap) * L.sz = L.n ∧ l.length ≤ cap ∧ (0 < cap → a = some ⟨L.b, L.st + 0 * L.sz, none⟩)) →
      ∃ v' hp' al loc r ts, Ending.returned v = .returned v' ∧ Mem ⟨w, fun _ => False, m, hm, 0, fun _ => none, Nat.zero_le _, ht⟩ hp' al loc w' ∧ Rel (mkE m hp' al loc w') r v' ∧ sealV hp' r = some (.fr 1 (l.map enc), ts) ∧ ts.Nodup := fun L hLb hob hv => by
    have hz : ∀ t o, hp t = some o → t = 0 ∧ o = .row 1 true (l.map enc) := fun t o ho => by
      by_cases ht : t = 0
      · subst ht; simp [hp] at ho; exact ⟨rfl, ho.symm⟩
      · simp [hp, ht] at ho
    have hlz : ∀ t L', (if t = 0 then some L else none) = some L' → t = 0 ∧ L' = L := fun t L' hL => by
      by_cases ht : t = 0
      · subst ht; simp at hL; exact ⟨rfl, hL.symm⟩
      · simp [ht] at hL
    refine ⟨v, hp, fun t => t = 0, fun t => if t = 0 then some L else none, .own 0 0 l.length, [0], rfl, ?_, ?_, ?_, by simp⟩
    · constructor
      · intro t o ho
        obtain ⟨rfl, rfl⟩ := hz t o ho
        exact ⟨L, rfl, hob⟩
      · intro t ht
        by_cases h0 : t = 0
        · subst h0; simp [hp] at ht
        · simp [h0]
      · intro t L' hL; exact (hlz t L' hL).1
      · intro t t' L1 L2 h1 h2 _ _ _
        rw [(hlz t L1 h1).1, (hlz t' L2 h2).1]
      · exact hb.os
      · exact hb.tape
      · exact hb.output
      · exact hb.size
      · intro b hlt _; exact hb.block b hlt
      · rintro b ⟨t, o, L', h1, h2, h3, h4, h5⟩ hlt
        obtain ⟨_, rfl⟩ := hlz t L' h3
        have h9 := hLb h5
        have h10 : b < w.heap.size := hlt
        show False
        omega
      · intro t L' hL hpos hmb
        obtain ⟨_, rfl⟩ := hlz t L' hL
        have := hLb hpos
        have := hm _ hmb
        omega
      · intro t ht; exact absurd ht (Nat.not_lt_zero t)
      · intro t L' ht; exact absurd ht (Nat.not_lt_zero t)
    · refine .own rfl fun L' hL => ?_
      obtain ⟨_, rfl⟩ := hlz 0 L' hL
      exact hv
    · have := own_fr (hp := hp) (t := 0) (n := l.length) (sz := 1) (rows := l.map enc) rfl (by simp) hinl
      simpa only [resOf_1] using this
  rcases hrow.2 with ⟨rfl, hn⟩ | ⟨g, cap, cur, rfl, hbase, hg, hle, _, hcs, htk⟩
  · have : l = [] := List.eq_nil_of_length_eq_zero hn
    subst this
    exact main ⟨0, 0, 1, 0⟩ (fun h => absurd h (Nat.lt_irrefl _)) ⟨rfl, by decide, by simp, by simp, ⟨0, rfl⟩, fun h => absurd h (Nat.lt_irrefl _)⟩ ⟨none, 0, rfl, by decide, rfl, Nat.le_refl _, fun h => absurd h (Nat.lt_irrefl _)⟩
  · refine main ⟨g, 0, 1, cap⟩ (fun _ => hbase) ⟨rfl, by decide, fun r hr => ?_, ?_, ⟨cap, by simp⟩, fun _ => ⟨cur, ety, (0, 0), l.map (Value.int .i64), hg, by simpa using hcs, ?_, ?_, ?_, fun k _ => by simp⟩⟩ ⟨some ⟨g, 0, none⟩, cap, rfl, Nat.one_pos, by simp, hle, fun _ => rfl⟩
    · obtain ⟨x, _, rfl⟩ := List.mem_map.1 hr; rw [he]; rfl
    · simpa using hle
    · rw [hrows, rowsV_flat]; exact relL_vals _
    · intro u hu; obtain ⟨x, _, rfl⟩ := List.mem_map.1 hu; rfl
    · intro k u hu
      rw [← htk] at hu
      have hk : k < l.length * 1 := by
        have := (List.getElem?_eq_some_iff.1 hu).1
        rw [List.length_take] at this; omega
      rw [List.getElem?_take_of_lt hk, Array.getElem?_toList] at hu
      simpa using hu
end Go.Gm

set_option linter.all false
namespace Go.Gm
theorem CallOk.of_vals {P : Program} {f : FuncId} {us0 : List Value} {X : AV} {hp : AHeap} {id : Nat} (h : PC P f (us0.map .val) X) (hl : (claimV X id).2.length ≤ 8) :
    CallOk P f (us0.map .val) hp id ⟨(claimV X id).1, effOf (claimV X id).2 id⟩ := fun G al loc w vs hM hf hr => by
  have e := relL_vals_eq hr
  subst e
  have hm1 : ∀ b, (G.m1 b ∨ mtOf hp loc b) → b < w.heap.size := fun b hb => by
    rcases hb with hb | ⟨t, o, l, h1, h2, h3, h4, h5⟩
    · exact Nat.lt_of_lt_of_le (G.m1lt b hb) hM.size
    · exact h4 ▸ hM.lt h3 h5
  have hx : RelL (E0 (fun b => G.m1 b ∨ mtOf hp loc b) w) (vs.map .val) vs := relL_vals vs
  refine (call_core (G := G) (id := id) (X := X) (us := vs.map .val) hM hf h hm1 hx (fun _ b hb => hb) hl).mono ?_
  rintro e w' ⟨v, loc', rfl, a, b, c⟩
  exact ⟨v, loc', rfl, a, b, c⟩
end Go.Gm
