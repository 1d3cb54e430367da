/- Contracts of the library's functions, as this library tells them. -/
import Derived.Test.YtlonihmeikmpiaaDoorGfBR
import Derived.Lib.SlicesCompact
import Derived.Shelf.Small.Strs
import Derived.Shelf.Sort.Plain
set_option linter.all false
set_option linter.unusedVariables false
set_option linter.unusedSimpArgs false
set_option linter.all false
namespace Go.Gm
open Go.Sort Go.Proofs
def lb (l : List UInt8) : ByteArray := ⟨l.toArray⟩
theorem lb_bl (s : ByteArray) : lb (bl s) = s := by cases s; simp [lb, bl]
theorem bl_lb (l : List UInt8) : bl (lb l) = l := by simp [lb, bl]
theorem encStr_lb (l : List UInt8) : encStr l = .string (lb l) := rfl
def sortS (l : List ByteArray) : List ByteArray := ((l.map bl).mergeSort fun x y => decide (x ≤ y)).map lb
theorem sortS_len (l : List ByteArray) : (sortS l).length = l.length := by simp [sortS]
def sortI (l : List Int) : List Int := l.mergeSort fun x y => decide (x ≤ y)
theorem sortI_len (l : List Int) : (sortI l).length = l.length := by simp [sortI]
def compS (l : List ByteArray) : List ByteArray := (Lib.compact (l.map bl)).map lb
def compI (l : List Int) : List Int := Lib.compact l
theorem rowsV_str {enc : ByteArray → List AV} (he : ∀ x, enc x = [.val (.string x)]) (l : List ByteArray) : rowsV encStr (l.map bl) = l.map enc := by
  simp only [rowsV, List.map_map]
  apply List.map_congr_left
  intro x _
  simp only [Function.comp, he, encStr_lb, lb_bl]
theorem rowsV_str' {enc : ByteArray → List AV} (he : ∀ x, enc x = [.val (.string x)]) (l : List (List UInt8)) : rowsV encStr l = (l.map lb).map enc := by
  simp only [rowsV, List.map_map]
  apply List.map_congr_left
  intro x _
  simp only [Function.comp, he, encStr_lb]
theorem rowsV_int {enc : Int → List AV} (he : ∀ x, enc x = [.val (.int .i64 x)]) (l : List Int) : rowsV (Value.int .i64) l = l.map enc := by
  simp only [rowsV]
  apply List.map_congr_left
  intro x _
  rw [he]
theorem ic_sortS {P : Program} {enc : ByteArray → List AV} (he : ∀ x, enc x = [.val (.string x)]) (f : FuncId)
    (hs : ∀ blk off cap (l : List (List UInt8)) (w : World), Holds encStr w blk off l.toArray → blk < w.heap.size → l.length < 4611686018427387904 → Calls P f #[.slice (some ⟨blk, off, none⟩) l.length cap] w fun e w' => e = .returned (.tuple #[]) ∧ ∃ n os, w' = grow (putRow encStr (Sort.ahead w n) blk off (l.mergeSort fun x y => decide (x ≤ y)).toArray) os)
    (hn : ∀ p cap (w : World), Calls P f #[.slice p 0 cap] w fun e w' => e = .returned (.tuple #[]) ∧ w' = w) (l : List ByteArray) (hl : l.length < 4611686018427387904) :
    IC P f [some (.row 1 true (l.map enc))] [.own 0 0 l.length] (.tup []) [some (.row 1 true ((sortS l).map enc))] [] := by
  have h := ic_row (P := P) (f := f) (enc := encStr) (fun _ => rfl) (d := l.map bl) (d' := (l.map bl).mergeSort fun x y => decide (x ≤ y)) (k := (l.map bl).length) (X := .tup []) (R := fun _ _ => .tuple #[]) (by simp) (Nat.le_refl _)
    (fun E a cap _ => Rel.tup (vs := []) .nil) (fun _ blk off cap w hH hb _ => hs blk off cap _ w hH hb (by simpa using hl)) (fun _ a cap w => hn a cap w)
  rw [List.take_of_length_le (by simp), rowsV_str he, rowsV_str' he, List.length_map] at h
  exact h
theorem ic_sortI {P : Program} {enc : Int → List AV} (he : ∀ x, enc x = [.val (.int .i64 x)]) (f : FuncId)
    (hs : ∀ blk off cap (l : List Int) (w : World), Holds (Value.int .i64) w blk off l.toArray → blk < w.heap.size → l.length < 4611686018427387904 → Calls P f #[.slice (some ⟨blk, off, none⟩) l.length cap] w fun e w' => e = .returned (.tuple #[]) ∧ ∃ n os, w' = grow (putRow (Value.int .i64) (Sort.ahead w n) blk off (l.mergeSort fun x y => decide (x ≤ y)).toArray) os)
    (hn : ∀ p cap (w : World), Calls P f #[.slice p 0 cap] w fun e w' => e = .returned (.tuple #[]) ∧ w' = w) (l : List Int) (hl : l.length < 4611686018427387904) :
    IC P f [some (.row 1 true (l.map enc))] [.own 0 0 l.length] (.tup []) [some (.row 1 true ((sortI l).map enc))] [] := by
  have h := ic_row (P := P) (f := f) (enc := Value.int .i64) (fun _ => rfl) (d := l) (d' := l.mergeSort fun x y => decide (x ≤ y)) (k := l.length) (X := .tup []) (R := fun _ _ => .tuple #[]) (by simp) (Nat.le_refl _)
    (fun E a cap _ => Rel.tup (vs := []) .nil) (fun _ blk off cap w hH hb _ => hs blk off cap _ w hH hb hl) (fun _ a cap w => hn a cap w)
  rw [List.take_of_length_le (by simp), rowsV_int he, rowsV_int he] at h
  exact h
theorem compact_le {α : Type} [Inhabited α] [DecidableEq α] (l : List α) : (Lib.compact l).length ≤ l.length := by
  unfold Lib.compact Lib.compactUpTo
  rw [List.length_map]
  exact Nat.le_trans (List.length_filter_le _ _) (by simp)
theorem rel_cut {E : Env} {a : Option Addr} {n k cap : Nat} (hk : k ≤ n) (h : Rel E (.own 0 0 n) (.slice a n cap)) : Rel E (.own 0 0 k) (.slice a k cap) := by
  cases h with
  | own ha hh =>
    refine .own ha fun l hl => ?_
    obtain ⟨a', cap', e, h1, h2, h3, h4⟩ := hh l hl
    cases e
    exact ⟨a, cap, rfl, h1, h2, by omega, h4⟩
theorem ic_compS {P : Program} {enc : ByteArray → List AV} (he : ∀ x, enc x = [.val (.string x)]) (f : FuncId)
    (hs : ∀ blk off cap (l : List (List UInt8)) (w : World), Holds encStr w blk off l.toArray → l.length ≤ 9223372036854775807 → l.length ≤ cap → Calls P f #[.slice (some ⟨blk, off, none⟩) l.length cap] w fun e w' => e = .returned (.slice (some ⟨blk, off, none⟩) (Lib.compact l).length cap) ∧ ∃ q, w' = putRow encStr (Sort.ahead w q) blk off (Lib.compact l ++ List.replicate (l.length - (Lib.compact l).length) []).toArray)
    (hn : ∀ a cap (w : World), Calls P f #[.slice a 0 cap] w fun e w' => e = .returned (.slice a 0 cap) ∧ w' = w) (l : List ByteArray) (hl : l.length < 4611686018427387904) :
    IC P f [some (.row 1 true (l.map enc))] [.own 0 0 l.length] (.own 0 0 (compS l).length) [some (.row 1 true ((compS l).map enc))] [] := by
  have hle := compact_le (l.map bl)
  rw [List.length_map] at hle
  have h := ic_row (P := P) (f := f) (enc := encStr) (fun _ => rfl) (d := l.map bl) (d' := Lib.compact (l.map bl) ++ List.replicate ((l.map bl).length - (Lib.compact (l.map bl)).length) []) (k := (Lib.compact (l.map bl)).length) (X := .own 0 0 (compS l).length)
    (R := fun a cap => .slice a (Lib.compact (l.map bl)).length cap) (by simp; omega) (by simpa using hle)
    (fun E a cap hr => by rw [show (compS l).length = (Lib.compact (l.map bl)).length by simp [compS]]; exact rel_cut (by simpa using hle) hr)
    (fun _ blk off cap w hH hb hc => (hs blk off cap _ w hH (by rw [List.length_map]; omega) hc).mono (by rintro e w' ⟨h1, q, h2⟩; exact ⟨h1, q, #[], by rw [h2, grow_empty]⟩))
    (fun hd a cap w => by rw [hd]; exact hn a cap w)
  rw [List.take_left, rowsV_str he, rowsV_str' he, List.length_map] at h
  exact h
theorem ic_compI {P : Program} {enc : Int → List AV} (he : ∀ x, enc x = [.val (.int .i64 x)]) (f : FuncId)
    (hs : ∀ blk off cap (l : List Int) (w : World), Holds (Value.int .i64) w blk off l.toArray → l.length ≤ 9223372036854775807 → l.length ≤ cap → Calls P f #[.slice (some ⟨blk, off, none⟩) l.length cap] w fun e w' => e = .returned (.slice (some ⟨blk, off, none⟩) (Lib.compact l).length cap) ∧ ∃ q, w' = putRow (Value.int .i64) (Sort.ahead w q) blk off (Lib.compact l ++ List.replicate (l.length - (Lib.compact l).length) 0).toArray)
    (hn : ∀ a cap (w : World), Calls P f #[.slice a 0 cap] w fun e w' => e = .returned (.slice a 0 cap) ∧ w' = w) (l : List Int) (hl : l.length < 4611686018427387904) :
    IC P f [some (.row 1 true (l.map enc))] [.own 0 0 l.length] (.own 0 0 (compI l).length) [some (.row 1 true ((compI l).map enc))] [] := by
  have hle := compact_le l
  have h := ic_row (P := P) (f := f) (enc := Value.int .i64) (fun _ => rfl) (d := l) (d' := Lib.compact l ++ List.replicate (l.length - (Lib.compact l).length) 0) (k := (Lib.compact l).length) (X := .own 0 0 (compI l).length)
    (R := fun a cap => .slice a (Lib.compact l).length cap) (by simp; omega) hle
    (fun E a cap hr => rel_cut hle hr)
    (fun _ blk off cap w hH hb hc => (hs blk off cap _ w hH (by omega) hc).mono (by rintro e w' ⟨h1, q, h2⟩; exact ⟨h1, q, #[], by rw [h2, grow_empty]⟩))
    (fun hd a cap w => by subst hd; exact hn a cap w)
  rw [List.take_left, rowsV_int he, rowsV_int he] at h
  exact h
def cmpS (a b : ByteArray) : Int := Lib.compareBytes a.data.toList b.data.toList
theorem pc_scmp {P : Program} (f : FuncId) {a b : ByteArray} (h : ∀ w, Calls P f #[.string a, .string b] w fun e w' => e = .returned (.int .i64 (Lib.compareBytes a.data.toList b.data.toList)) ∧ w' = w) : PC P f [.val (.string a), .val (.string b)] (.val (.int .i64 (cmpS a b))) := by
  intro m w vs hm ht hus
  have e : vs = [.string a, .string b] := relL_vals_eq (us := [.string a, .string b]) hus
  subst e
  refine (h w).mono ?_
  rintro e w' ⟨rfl, rfl⟩
  refine ⟨_, fun _ => none, fun _ => False, fun _ => none, .val (.int .i64 (cmpS a b)), [], rfl, ?_, .val _, by simp only [sealV_val], List.nodup_nil⟩
  constructor
  · intro t o h; cases h
  · intro t _; rfl
  · intro t l h; cases h
  · intro t t' l l' h; cases h
  · rfl
  · rfl
  · rfl
  · exact Nat.le_refl _
  · intro _ _ _; rfl
  · rintro b ⟨t, o, l, h, _⟩; cases h
  · intro t l h; cases h
  · intro t h; exact absurd h (Nat.not_lt_zero t)
  · intro t l h; exact absurd h (Nat.not_lt_zero t)
end Go.Gm
