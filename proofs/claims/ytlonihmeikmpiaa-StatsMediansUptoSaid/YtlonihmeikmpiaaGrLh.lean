import Derived.Test.YtlonihmeikmpiaaGrLg
import Derived.Sort.OwnSorted
import Derived.Lib.SlicesCompact
import Derived.Shelf.Small.Strs
import Derived.Shelf.Sort.Plain
set_option linter.all false
set_option linter.unusedVariables false
set_option linter.unusedSimpArgs false
set_option linter.all false
namespace Go.Gm
theorem Ent.stillPtr {N nx sz : Nat} {mu : Bool} {fr : Nat → AV} {hp : AHeap} {cs : List AV} {t : Nat} (d : Nat) (hd : fr d = .ptr t 0 0) (h : hp t = some (.row sz mu [cs])) (hin : inlL cs = true) (hpos : 0 < cs.length) : Ent N ⟨fr, hp, nx⟩ ⟨upd fr d (.ip cs), upd hp t none, nx⟩ := fun G a w hc => by
  obtain ⟨h1, h2, loc, hM, hr⟩ := conc_iff.1 hc
  clear hc
  refine conc_iff.2 ?_
  obtain ⟨hM', x'⟩ := hM.drop t
  refine ⟨h1, h2, _, hM', fun d' => ?_⟩
  by_cases e : d' = d
  · subst e
    show Rel _ (upd fr d' (.ip cs) d') _
    rw [upd_same]
    have hp0 := hr d'
    rw [hd] at hp0
    obtain ⟨l, hl, hob⟩ := hM.obj t _ h
    have hlt : l.st < l.n := by
      obtain ⟨g1, g2, g3, g4, g5, g6⟩ := hob
      simp only [List.length_cons, List.length_nil] at g4
      omega
    have hlb := hob.lt hlt
    obtain ⟨g1, g2, g3, g4, g5, g6⟩ := hob
    obtain ⟨c, e, fz, vs, k1, k2, k3, k4, k5, k6⟩ := g6 hlt
    generalize (a.tmps.getD d' undef) = v at hp0 ⊢
    cases hp0 with
    | ptr ha hh =>
      rw [hh l hl, Nat.zero_mul, Nat.add_zero]
      have hnm : ¬ (mkE G.m1 (upd hp t none) (fun t => t < nx) (upd loc t none) w).mt l.b := by
        rintro (⟨t', o', l', q1, q2, q3, q4, q5⟩ | hm)
        · by_cases e : t' = t
          · subst e; rw [upd_same] at q1; cases q1
          · rw [upd_other _ _ e] at q3; exact e (hM.inj _ _ _ _ q3 hl q5 hlt q4)
        · exact hM.fgn t l hl hlt hm
      have mv : Move (mkE G.m1 hp (fun t => t < nx) loc w) (mkE G.m1 (upd hp t none) (fun t => t < nx) (upd loc t none) w) :=
        ⟨Nat.le_refl _, fun b _ hn => ⟨fun hm => hn (by
          rcases hm with ⟨t', o', l', q1, q2, q3, q4, q5⟩ | hm
          · by_cases e : t' = t
            · subst e; rw [upd_same] at q1; cases q1
            · rw [upd_other _ _ e] at q1 q3; exact .inl ⟨t', o', l', q1, q2, q3, q4, q5⟩
          · exact .inr hm), rfl⟩⟩
      have k1' : w.heap[l.b]? = some (.cells c e fz) := k1
      simp only [List.flatten_cons, List.flatten_nil, List.append_nil] at k3
      refine .ip hlb hnm k4 (fun q u hq => ?_) (RelL.move mv hin k3)
      show w.cell? ⟨l.b, l.st + q, none⟩ = some u
      simp only [World.cell?, k1', Option.isSome_none, Bool.false_eq_true, if_false]
      exact k5 q u hq
  · show Rel _ (upd fr d (.ip cs) d') _
    rw [upd_other _ _ e]; exact (hr d').ext x'
theorem resV_clo (hp : AHeap) (fn : Fn) (f c : List AV) : resV hp (.clo fn f c) = if inlL f = true ∧ inlL c = true then some (.clo fn f c) else none := by
  simp only [resV, inl, Bool.and_eq_true]
theorem sealV_clo (hp : AHeap) (fn : Fn) (f c : List AV) : sealV hp (.clo fn f c) = if inlL f = true ∧ inlL c = true then some (.clo fn f c, []) else none := by simp only [sealV]
theorem claimV_clo (k : Nat) (fn : Fn) (f c : List AV) : claimV (.clo fn f c) k = (.clo fn f c, []) := by simp only [claimV]
theorem shares_clo (fn : Fn) (f c : List AV) : shares (.clo fn f c) = true := by simp only [shares]
theorem tidV_clo (fn : Fn) (f c : List AV) : tidV (.clo fn f c) = [] := by simp [tidV]
theorem resOf_clo (fn : Fn) (f c : List AV) : resOf [.clo fn f c] = .clo fn f c := (rfl)
attribute [go_sem] resV_clo sealV_clo claimV_clo shares_clo tidV_clo
end Go.Gm

set_option linter.all false
namespace Go.Gm
open Go.Sort
variable {α : Type} [Inhabited α]
theorem heap_put {enc : α → Value} {w : World} {g st n : Nat} {os : Array Obj} {cur : Array Value} {e : TypeId} {fr : Nat × Nat} (d : Array α) (hb : w.heap[g]? = some (.cells cur e fr)) :
    (grow (putRow enc (Sort.ahead w n) g st d) os).heap[g]? = some (.cells (putCells enc st d cur) e fr) := by
  have hg : g < w.heap.size := (Array.getElem?_eq_some_iff.1 hb).1
  rw [heap_grow_old _ _ (by simpa using hg)]
  simp [putRow, mapBlock, Sort.ahead, Array.getElem?_modify, hb, onCells]
theorem heap_put_other {enc : α → Value} {w : World} {g st n k : Nat} {os : Array Obj} (d : Array α) (hk : k < w.heap.size) (hne : g ≠ k) : (grow (putRow enc (Sort.ahead w n) g st d) os).heap[k]? = w.heap[k]? := by
  rw [heap_grow_old _ _ (by simpa using hk)]
  simp [putRow, mapBlock, Sort.ahead, Array.getElem?_modify, hne]
theorem size_put {enc : α → Value} {w : World} {g st n : Nat} {os : Array Obj} (d : Array α) : w.heap.size ≤ (grow (putRow enc (Sort.ahead w n) g st d) os).heap.size := by simp
def rowsV (enc : α → Value) (d : List α) : List (List AV) := d.map fun x => [.val (enc x)]
theorem rowsV_flat (enc : α → Value) : ∀ d : List α, (rowsV enc d).flatten = (d.map enc).map .val
  | [] => rfl
  | x :: d => by simp only [rowsV, List.map_cons, List.flatten_cons, List.cons_append, List.nil_append] ; exact congrArg _ (rowsV_flat enc d)
theorem relL_vals_eq {E : Env} : ∀ {us vs : List Value}, RelL E (us.map .val) vs → vs = us
  | [], _, h => by cases h; rfl
  | u :: us, _, h => by
    cases h with
    | cons h1 h2 => rw [rel_val h1, relL_vals_eq h2]
theorem rowsV_len {enc : α → Value} {d : List α} : (rowsV enc d).length = d.length := by simp [rowsV]
theorem ic_row {P : Program} {f : FuncId} {enc : α → Value} (h1 : ∀ x, (enc x).oneCell' = true) {d d' : List α} {k : Nat} {X : AV} {R : Option Addr → Nat → Value} (hl : d'.length = d.length) (hk : k ≤ d.length)
    (hX : ∀ (E : Env) (a : Option Addr) (cap : Nat), Rel E (.own 0 0 d.length) (.slice a d.length cap) → Rel E X (R a cap))
    (hc : d ≠ [] → ∀ blk off cap (w : World), Holds enc w blk off d.toArray → blk < w.heap.size → d.length ≤ cap → Calls P f #[.slice (some ⟨blk, off, none⟩) d.length cap] w fun e w' => e = .returned (R (some ⟨blk, off, none⟩) cap) ∧ ∃ n os, w' = grow (putRow enc (Sort.ahead w n) blk off d'.toArray) os)
    (h0 : d = [] → ∀ a cap (w : World), Calls P f #[.slice a 0 cap] w fun e w' => e = .returned (R a cap) ∧ w' = w) :
    IC P f [some (.row 1 true (rowsV enc d))] [.own 0 0 d.length] X [some (.row 1 true (rowsV enc (d'.take k)))] [] := by
  intro m w loc vs hm h8 hM hus
  cases hus with
  | cons hv hnil =>
  cases hnil
  rename_i v
  cases hv with
  | own ha hh =>
  obtain ⟨l, hloc, hob⟩ := hM.obj 0 _ rfl
  obtain ⟨a, cap, rfl, hsz0, hcap, hlen, hadr⟩ := hh l hloc
  obtain ⟨g1, g2, g3, g4, g5, g6⟩ := hob
  rw [g1, Nat.mul_one] at hcap
  rw [rowsV_len, Nat.mul_one] at g4
  have hown : ∀ (E : Env), E.al 0 → (∀ l', E.loc 0 = some l' → l' = l) → Rel E (.own 0 0 d.length) (.slice a d.length cap) := fun E h2 h3 => .own h2 fun l' hl' => by
    rw [h3 l' hl']
    exact ⟨a, cap, rfl, by omega, by rw [g1, Nat.mul_one]; exact hcap, hlen, hadr⟩
  have halt : ∀ (hp : AHeap) (lc : Nat → Option Loc) (w' : World), (mkE m hp (fun t => t < 8 + ([] : List (Option AObj)).length) lc w').al 0 := fun _ _ _ => by show 0 < 8 + 0; omega
  by_cases hd : d = []
  · subst hd
    have hd' : d' = [] := List.eq_nil_of_length_eq_zero hl
    subst hd'
    refine (h0 rfl a cap w).mono ?_
    rintro e w' ⟨rfl, rfl⟩
    exact ⟨_, loc, rfl, by simpa [rowsV] using hM, hX _ a cap (hown _ (halt _ _ _) fun l' hl' => by simpa [mkE, hloc] using hl'.symm)⟩
  · have hpos : 0 < d.length := List.length_pos_iff.2 hd
    have hlt : l.st < l.n := by omega
    obtain ⟨c, e, fz, vs, k1, k2, k3, k4, k5, k6⟩ := g6 hlt
    rw [rowsV_flat] at k3
    have := relL_vals_eq k3
    subst this
    simp only [g1, Nat.mul_one, Nat.zero_mul, Nat.add_zero] at hadr
    have ha' := hadr (by omega)
    subst ha'
    have hblk : l.b < w.heap.size := (Array.getElem?_eq_some_iff.1 k1).1
    have k1' : w.heap[l.b]? = some (.cells c e fz) := k1
    have hH : Holds enc w l.b l.st d.toArray := by
      intro j hj
      have hj' : j < d.length := by simpa using hj
      refine ⟨?_, ?_⟩
      · simp only [World.cell?, k1', Option.isSome_none, Bool.false_eq_true, if_false]
        rw [k5 j (enc d[j]) (by simp [hj'])]
        simp [hj']
      · simp only [World.frozen?, k1']
        have := k6 (l.st + j) (by omega)
        simp only [Bool.and_eq_false_imp, decide_eq_true_eq, decide_eq_false_iff_not]
        first | (intro h; omega) | (simp; omega) | omega
    refine (hc hd l.b l.st cap w hH hblk hlen).mono ?_
    rintro e' w' ⟨rfl, n, os, rfl⟩
    have hhp : hpL [some (.row 1 true (rowsV enc d))] [] 0 = some (.row 1 true (rowsV enc d)) := rfl
    have hmt0 : mtOf (hpL [some (.row 1 true (rowsV enc d))] []) loc l.b := ⟨0, _, l, hhp, rfl, hloc, rfl, hlt⟩
    have hzero : ∀ (rows : List (List AV)) t o, hpL [some (.row 1 true rows)] [] t = some o → t = 0 ∧ o = .row 1 true rows := fun rows t o ho => by
      simp only [hpL] at ho
      by_cases ht : t = 0
      · subst ht; simp at ho; exact ⟨rfl, ho.symm⟩
      · split at ho
        · rw [List.getElem?_eq_none (by simp; omega)] at ho; cases ho
        · simp at ho
    have hmt : ∀ b, mtOf (hpL [some (.row 1 true (rowsV enc (d'.take k)))] []) loc b → mtOf (hpL [some (.row 1 true (rowsV enc d))] []) loc b := by
      rintro b ⟨t, o, l', q1, q2, q3, q4, q5⟩
      obtain ⟨rfl, rfl⟩ := hzero _ t o q1
      exact ⟨0, _, l', hhp, rfl, q3, q4, q5⟩
    have hx : Ext (mkE m (hpL [some (.row 1 true (rowsV enc d))] []) (fun t => t < 8) loc w) (mkE m (hpL [some (.row 1 true (rowsV enc (d'.take k)))] []) (fun t => t < 8 + ([] : List (Option AObj)).length) loc (grow (putRow enc (Sort.ahead w n) l.b l.st d'.toArray) os)) :=
      mk_ext (fun t ht => by show t < 8 + 0; exact ht) (fun _ _ _ h => h) (size_put _) (fun b _ => hmt b) (fun b hb hn => heap_put_other _ hb fun hc => hn (hc ▸ hmt0))
    refine ⟨_, loc, rfl, ?_, hX _ _ cap (hown _ (halt _ _ _) fun l' hl' => by simpa [mkE, hloc] using hl'.symm)⟩
    refine hM.change hx (fun t o ho => ?_) (fun t ht => ?_) (fun t l' hl' => ?_) hM.inj rfl rfl rfl (fun b hb => .inl (hmt b hb)) (fun t l' q1 q2 => .inl ⟨t, l', q1, q2, rfl⟩)
    · obtain ⟨rfl, rfl⟩ := hzero _ t o ho
      have hkl : (d'.take k).length = k := by rw [List.length_take]; omega
      refine .inr ⟨l, hloc, g1, g2, fun r hr => ?_, ?_, g5, fun _ => ⟨_, e, fz, (d'.take k).map enc, heap_put _ k1', ?_, ?_, ?_, ?_, k6⟩⟩
      · obtain ⟨x, _, rfl⟩ := List.mem_map.1 hr; rfl
      · rw [rowsV_len, hkl]; omega
      · simpa [putCells] using k2
      · rw [rowsV_flat]; exact relL_vals _
      · intro v hv; obtain ⟨x, _, rfl⟩ := List.mem_map.1 hv; exact h1 x
      · intro q v hv
        have hq : q < k := by
          have := (List.getElem?_eq_some_iff.1 hv).1
          rw [List.length_map, hkl] at this; exact this
        have hqd : q < d'.length := by omega
        have e1 : ((d'.take k).map enc)[q]? = some (enc d'[q]) := by
          rw [List.getElem?_map, List.getElem?_take_of_lt hq, List.getElem?_eq_getElem hqd]; rfl
        rw [e1, Option.some.injEq] at hv
        subst hv
        have hcl : l.st + q < c.size := by rw [k2]; omega
        simp only [putCells, Array.getElem?_mapIdx, Array.getElem?_eq_getElem hcl, Option.map_some, List.size_toArray]
        rw [if_pos ⟨by omega, by omega⟩, show l.st + q - l.st = q by omega]
        simp [hqd]
    · have : t ≠ 0 := fun e => by subst e; simp [hpL] at ht
      refine hM.none_ t ?_
      simp only [hpL]
      split
      · rw [List.getElem?_eq_none (by simp; omega)]; rfl
      · simp
    · exact hx.al t (hM.al_ t l' hl')
end Go.Gm

set_option linter.all false
namespace Go.Gm
open Go.Sort Go.Proofs
def lb (l : List UInt8) : ByteArray := ⟨l.toArray⟩
theorem lb_bl (s : ByteArray) : lb (bl s) = s := by cases s; simp [lb, bl]
theorem bl_lb (l : List UInt8) : bl (lb l) = l := by simp [lb, bl]
theorem encStr_lb (l : List UInt8) : encStr l = .string (lb l) := rfl
def sortS (l : List ByteArray) : List ByteArray := ((l.map bl).mergeSort fun x y => decide (x ≤ y)).map lb
theorem sortS_len (l : List ByteArray) : (sortS l).length = l.length := by simp [sortS]
def sortI (l : List Int) : List Int := l.mergeSort fun x y => decide (x ≤ y)
theorem sortI_len (l : List Int) : (sortI l).length = l.length := by simp [sortI]
def compS (l : List ByteArray) : List ByteArray := (Lib.compact (l.map bl)).map lb
def compI (l : List Int) : List Int := Lib.compact l
theorem rowsV_str {enc : ByteArray → List AV} (he : ∀ x, enc x = [.val (.string x)]) (l : List ByteArray) : rowsV encStr (l.map bl) = l.map enc := by
  simp only [rowsV, List.map_map]
  apply List.map_congr_left
  intro x _
  simp only [Function.comp, he, encStr_lb, lb_bl]
theorem rowsV_str' {enc : ByteArray → List AV} (he : ∀ x, enc x = [.val (.string x)]) (l : List (List UInt8)) : rowsV encStr l = (l.map lb).map enc := by
  simp only [rowsV, List.map_map]
  apply List.map_congr_left
  intro x _
  simp only [Function.comp, he, encStr_lb]
theorem rowsV_int {enc : Int → List AV} (he : ∀ x, enc x = [.val (.int .i64 x)]) (l : List Int) : rowsV (Value.int .i64) l = l.map enc := by
  simp only [rowsV]
  apply List.map_congr_left
  intro x _
  rw [he]
theorem ic_sortS {P : Program} {enc : ByteArray → List AV} (he : ∀ x, enc x = [.val (.string x)]) (f : FuncId)
    (hs : ∀ blk off cap (l : List (List UInt8)) (w : World), Holds encStr w blk off l.toArray → blk < w.heap.size → l.length < 4611686018427387904 → Calls P f #[.slice (some ⟨blk, off, none⟩) l.length cap] w fun e w' => e = .returned (.tuple #[]) ∧ ∃ n os, w' = grow (putRow encStr (Sort.ahead w n) blk off (l.mergeSort fun x y => decide (x ≤ y)).toArray) os)
    (hn : ∀ p cap (w : World), Calls P f #[.slice p 0 cap] w fun e w' => e = .returned (.tuple #[]) ∧ w' = w) (l : List ByteArray) (hl : l.length < 4611686018427387904) :
    IC P f [some (.row 1 true (l.map enc))] [.own 0 0 l.length] (.tup []) [some (.row 1 true ((sortS l).map enc))] [] := by
  have h := ic_row (P := P) (f := f) (enc := encStr) (fun _ => rfl) (d := l.map bl) (d' := (l.map bl).mergeSort fun x y => decide (x ≤ y)) (k := (l.map bl).length) (X := .tup []) (R := fun _ _ => .tuple #[]) (by simp) (Nat.le_refl _)
    (fun E a cap _ => Rel.tup (vs := []) .nil) (fun _ blk off cap w hH hb _ => hs blk off cap _ w hH hb (by simpa using hl)) (fun _ a cap w => hn a cap w)
  rw [List.take_of_length_le (by simp), rowsV_str he, rowsV_str' he, List.length_map] at h
  exact h
theorem ic_sortI {P : Program} {enc : Int → List AV} (he : ∀ x, enc x = [.val (.int .i64 x)]) (f : FuncId)
    (hs : ∀ blk off cap (l : List Int) (w : World), Holds (Value.int .i64) w blk off l.toArray → blk < w.heap.size → l.length < 4611686018427387904 → Calls P f #[.slice (some ⟨blk, off, none⟩) l.length cap] w fun e w' => e = .returned (.tuple #[]) ∧ ∃ n os, w' = grow (putRow (Value.int .i64) (Sort.ahead w n) blk off (l.mergeSort fun x y => decide (x ≤ y)).toArray) os)
    (hn : ∀ p cap (w : World), Calls P f #[.slice p 0 cap] w fun e w' => e = .returned (.tuple #[]) ∧ w' = w) (l : List Int) (hl : l.length < 4611686018427387904) :
    IC P f [some (.row 1 true (l.map enc))] [.own 0 0 l.length] (.tup []) [some (.row 1 true ((sortI l).map enc))] [] := by
  have h := ic_row (P := P) (f := f) (enc := Value.int .i64) (fun _ => rfl) (d := l) (d' := l.mergeSort fun x y => decide (x ≤ y)) (k := l.length) (X := .tup []) (R := fun _ _ => .tuple #[]) (by simp) (Nat.le_refl _)
    (fun E a cap _ => Rel.tup (vs := []) .nil) (fun _ blk off cap w hH hb _ => hs blk off cap _ w hH hb hl) (fun _ a cap w => hn a cap w)
  rw [List.take_of_length_le (by simp), rowsV_int he, rowsV_int he] at h
  exact h
theorem compact_le {α : Type} [Inhabited α] [DecidableEq α] (l : List α) : (Lib.compact l).length ≤ l.length := by
  unfold Lib.compact Lib.compactUpTo
  rw [List.length_map]
  exact Nat.le_trans (List.length_filter_le _ _) (by simp)
theorem rel_cut {E : Env} {a : Option Addr} {n k cap : Nat} (hk : k ≤ n) (h : Rel E (.own 0 0 n) (.slice a n cap)) : Rel E (.own 0 0 k) (.slice a k cap) := by
  cases h with
  | own ha hh =>
    refine .own ha fun l hl => ?_
    obtain ⟨a', cap', e, h1, h2, h3, h4⟩ := hh l hl
    cases e
    exact ⟨a, cap, rfl, h1, h2, by omega, h4⟩
theorem ic_compS {P : Program} {enc : ByteArray → List AV} (he : ∀ x, enc x = [.val (.string x)]) (f : FuncId)
    (hs : ∀ blk off cap (l : List (List UInt8)) (w : World), Holds encStr w blk off l.toArray → l.length ≤ 9223372036854775807 → l.length ≤ cap → Calls P f #[.slice (some ⟨blk, off, none⟩) l.length cap] w fun e w' => e = .returned (.slice (some ⟨blk, off, none⟩) (Lib.compact l).length cap) ∧ ∃ q, w' = putRow encStr (Sort.ahead w q) blk off (Lib.compact l ++ List.replicate (l.length - (Lib.compact l).length) []).toArray)
    (hn : ∀ a cap (w : World), Calls P f #[.slice a 0 cap] w fun e w' => e = .returned (.slice a 0 cap) ∧ w' = w) (l : List ByteArray) (hl : l.length < 4611686018427387904) :
    IC P f [some (.row 1 true (l.map enc))] [.own 0 0 l.length] (.own 0 0 (compS l).length) [some (.row 1 true ((compS l).map enc))] [] := by
  have hle := compact_le (l.map bl)
  rw [List.length_map] at hle
  have h := ic_row (P := P) (f := f) (enc := encStr) (fun _ => rfl) (d := l.map bl) (d' := Lib.compact (l.map bl) ++ List.replicate ((l.map bl).length - (Lib.compact (l.map bl)).length) []) (k := (Lib.compact (l.map bl)).length) (X := .own 0 0 (compS l).length)
    (R := fun a cap => .slice a (Lib.compact (l.map bl)).length cap) (by simp; omega) (by simpa using hle)
    (fun E a cap hr => by rw [show (compS l).length = (Lib.compact (l.map bl)).length by simp [compS]]; exact rel_cut (by simpa using hle) hr)
    (fun _ blk off cap w hH hb hc => (hs blk off cap _ w hH (by rw [List.length_map]; omega) hc).mono (by rintro e w' ⟨h1, q, h2⟩; exact ⟨h1, q, #[], by rw [h2, grow_empty]⟩))
    (fun hd a cap w => by rw [hd]; exact hn a cap w)
  rw [List.take_left, rowsV_str he, rowsV_str' he, List.length_map] at h
  exact h
theorem ic_compI {P : Program} {enc : Int → List AV} (he : ∀ x, enc x = [.val (.int .i64 x)]) (f : FuncId)
    (hs : ∀ blk off cap (l : List Int) (w : World), Holds (Value.int .i64) w blk off l.toArray → l.length ≤ 9223372036854775807 → l.length ≤ cap → Calls P f #[.slice (some ⟨blk, off, none⟩) l.length cap] w fun e w' => e = .returned (.slice (some ⟨blk, off, none⟩) (Lib.compact l).length cap) ∧ ∃ q, w' = putRow (Value.int .i64) (Sort.ahead w q) blk off (Lib.compact l ++ List.replicate (l.length - (Lib.compact l).length) 0).toArray)
    (hn : ∀ a cap (w : World), Calls P f #[.slice a 0 cap] w fun e w' => e = .returned (.slice a 0 cap) ∧ w' = w) (l : List Int) (hl : l.length < 4611686018427387904) :
    IC P f [some (.row 1 true (l.map enc))] [.own 0 0 l.length] (.own 0 0 (compI l).length) [some (.row 1 true ((compI l).map enc))] [] := by
  have hle := compact_le l
  have h := ic_row (P := P) (f := f) (enc := Value.int .i64) (fun _ => rfl) (d := l) (d' := Lib.compact l ++ List.replicate (l.length - (Lib.compact l).length) 0) (k := (Lib.compact l).length) (X := .own 0 0 (compI l).length)
    (R := fun a cap => .slice a (Lib.compact l).length cap) (by simp; omega) hle
    (fun E a cap hr => rel_cut hle hr)
    (fun _ blk off cap w hH hb hc => (hs blk off cap _ w hH (by omega) hc).mono (by rintro e w' ⟨h1, q, h2⟩; exact ⟨h1, q, #[], by rw [h2, grow_empty]⟩))
    (fun hd a cap w => by subst hd; exact hn a cap w)
  rw [List.take_left, rowsV_int he, rowsV_int he] at h
  exact h
def cmpS (a b : ByteArray) : Int := Lib.compareBytes a.data.toList b.data.toList
theorem pc_scmp {P : Program} (f : FuncId) {a b : ByteArray} (h : ∀ w, Calls P f #[.string a, .string b] w fun e w' => e = .returned (.int .i64 (Lib.compareBytes a.data.toList b.data.toList)) ∧ w' = w) : PC P f [.val (.string a), .val (.string b)] (.val (.int .i64 (cmpS a b))) := by
  intro m w vs hm hus
  have e : vs = [.string a, .string b] := relL_vals_eq (us := [.string a, .string b]) hus
  subst e
  refine (h w).mono ?_
  rintro e w' ⟨rfl, rfl⟩
  refine ⟨_, fun _ => none, fun _ => False, fun _ => none, .val (.int .i64 (cmpS a b)), [], rfl, ?_, .val _, by simp only [sealV_val], List.nodup_nil⟩
  constructor
  · intro t o h; cases h
  · intro t _; rfl
  · intro t l h; cases h
  · intro t t' l l' h; cases h
  · rfl
  · rfl
  · rfl
  · exact Nat.le_refl _
  · intro _ _ _; rfl
  · rintro b ⟨t, o, l, h, _⟩; cases h
  · intro t l h; cases h
  · intro t h; exact absurd h (Nat.not_lt_zero t)
  · intro t l h; exact absurd h (Nat.not_lt_zero t)
end Go.Gm
