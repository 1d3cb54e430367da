import Derived.Test.YtlonihmeikmpiaaGqLh
import Derived.Test.YtlonihmeikmpiaaGqDTf101
import Derived.Test.YtlonihmeikmpiaaGqDTf61
import Derived.Test.YtlonihmeikmpiaaGqDTf99x100
import Derived.Test.YtlonihmeikmpiaaGqDTf104
import Derived.Test.YtlonihmeikmpiaaGqDTf55
set_option linter.all false
set_option linter.unusedVariables false
set_option linter.unusedSimpArgs false
set_option linter.all false
set_option maxRecDepth 8000
namespace Go.Proofs.Y1
open Go.Gm
namespace Au
theorem i64_id {n : Int} (h0 : -9223372036854775808 ≤ n) (h1 : n < 9223372036854775808) : IntKind.i64.wrap n = n := by
  simp only [IntKind.wrap, IntKind.bits, IntKind.signed, Bool.true_and]
  split
  · rename_i h; simp only [ge_iff_le, decide_eq_true_eq] at h; omega
  · rename_i h; simp only [ge_iff_le, decide_eq_true_eq] at h; omega
theorem appO_ok' {α : Type} {l r : List α} (h : l.length ≤ 10000000000) (h1 : r.length ≤ 10000000000) : appO? l r = some (l ++ r) := appO?_some.2 ⟨by omega, rfl⟩
theorem wrapN {i : Nat} (h : i ≤ 10000000000) : IntKind.i64.wrap ((i : Int) + 1) = ((i + 1 : Nat) : Int) := by rw [i64_id (by omega) (by omega)]; omega
theorem ixN {α : Type} {l : List α} {i : Nat} (h : i < l.length) : ix l (i : Int) = some l[i] := ix_some.2 ⟨by omega, by simp [List.getElem?_eq_getElem h]⟩
/-- a loop that holds two lists against each other -/
theorem cmp_loop {α κ : Type} {a b : List α} (k : α → κ) {step : Int → Option (Int ⊕ (Bool ⊕ Unit))} (hl : a.length = b.length) (hn : a.length ≤ 1000000000)
    (h : ∀ (i : Nat) (h1 : i < a.length) (h2 : i < b.length), (k a[i] = k b[i] → step i = some (.inl (IntKind.i64.wrap ((i : Int) + 1)))) ∧ (k a[i] ≠ k b[i] → step i = some (.inr (.inl false))))
    (he : step (a.length : Int) = some (.inr (.inr ()))) :
    ∃ r, loopO step 0 = some r ∧ ((a.map k = b.map k ∧ r = .inr ()) ∨ (a.map k ≠ b.map k ∧ r = .inl false)) := by
  refine loopO_of (fun n s => ∃ i : Nat, s = (i : Int) ∧ i ≤ a.length ∧ n = a.length - i ∧ (a.take i).map k = (b.take i).map k) ?_ (k := a.length) ⟨0, rfl, by omega, by omega, by simp⟩
  rintro n _ ⟨i, rfl, hi, hn', ht⟩
  by_cases hlt : i < a.length
  · obtain ⟨h1, h2⟩ := h i hlt (by omega)
    by_cases hk : k a[i] = k (b[i]'(by omega))
    · refine .inl ⟨((i + 1 : Nat) : Int), n - 1, ?_, by omega, i + 1, rfl, by omega, by omega, ?_⟩
      · rw [h1 hk, wrapN (by omega)]
      · rw [List.take_add_one, List.take_add_one, List.getElem?_eq_getElem hlt, List.getElem?_eq_getElem (by omega), List.map_append, List.map_append, ht]
        simp [hk]
    · refine .inr ⟨.inl false, h2 hk, .inr ⟨fun he' => hk ?_, rfl⟩⟩
      have e1 : (a.map k)[i]? = some (k a[i]) := by rw [List.getElem?_map, List.getElem?_eq_getElem hlt]; rfl
      have e2 : (b.map k)[i]? = some (k (b[i]'(by omega))) := by rw [List.getElem?_map, List.getElem?_eq_getElem (by omega)]; rfl
      rw [he', e2] at e1
      exact (Option.some.inj e1).symm
  · have : i = a.length := by omega
    subst this
    refine .inr ⟨.inr (), he, .inl ⟨?_, rfl⟩⟩
    rw [List.take_length, hl, List.take_length] at ht
    exact ht
theorem less {a b : ByteArray} (h : a.size ≤ 1048576) : f70 a b = some (sLt a b) := by
  have hla : (bl a).length = a.size := bl_len a
  have hlb : (bl b).length = b.size := bl_len b
  have key : ∃ r, loopO (f70_s1 a b) 0 = some r ∧ (r = .inl (sLt a b) ∨ (r = .inr () ∧ sLt a b = decide ((a.size : Int) < b.size))) := by
    refine loopO_of (fun n s => ∃ i : Nat, s = (i : Int) ∧ i ≤ a.size ∧ i ≤ b.size ∧ n = a.size - i ∧ (bl a).take i = (bl b).take i) ?_ (k := a.size) ⟨0, rfl, by omega, by omega, by omega, by simp⟩
    rintro n _ ⟨i, rfl, h1, h2, hn, ht⟩
    by_cases ha : i < a.size
    · by_cases hb : i < b.size
      · have hx := ixN (l := bl a) (i := i) (by omega)
        have hy := ixN (l := bl b) (i := i) (by omega)
        by_cases he : (bl a)[i]'(by omega) = (bl b)[i]'(by omega)
        · refine .inl ⟨((i + 1 : Nat) : Int), n - 1, ?_, by omega, i + 1, rfl, by omega, by omega, by omega, ?_⟩
          · simp only [f70_s1, if_pos (show (i : Int) < a.size by omega), if_pos (show (i : Int) < b.size by omega), hx, hy, Option.bind_some, he, if_true, wrapN (show i ≤ 10000000000 by omega)]
          · rw [List.take_add_one, List.take_add_one, List.getElem?_eq_getElem (by omega), List.getElem?_eq_getElem (by omega), ht, he]
        · refine .inr ⟨.inl (sLt a b), ?_, .inl rfl⟩
          have hat := l_at ht (List.getElem?_eq_getElem (show i < (bl a).length by omega)) (List.getElem?_eq_getElem (show i < (bl b).length by omega)) he
          have e1 : sLt a b = decide ((((bl a)[i]'(by omega)).toNat : Int) < (((bl b)[i]'(by omega)).toNat : Int)) := by
            rw [Bool.eq_iff_iff, sLt_iff, hat, decide_eq_true_eq, UInt8.lt_iff_toNat_lt]; omega
          have e2 : ¬ ((((bl a)[i]'(by omega)).toNat : Int) = (((bl b)[i]'(by omega)).toNat : Int)) := fun q => he (by rw [← UInt8.toNat_inj]; omega)
          simp only [f70_s1, if_pos (show (i : Int) < a.size by omega), if_pos (show (i : Int) < b.size by omega), hx, hy, Option.bind_some, if_neg e2, e1]
      · refine .inr ⟨.inr (), by simp only [f70_s1, if_pos (show (i : Int) < a.size by omega), if_neg (show ¬ (i : Int) < b.size by omega)], .inr ⟨rfl, ?_⟩⟩
        rw [Bool.eq_iff_iff, sLt_iff, decide_eq_true_eq, l_pre (by rw [show min (bl a).length (bl b).length = i by omega]; exact ht)]; omega
    · refine .inr ⟨.inr (), by simp only [f70_s1, if_neg (show ¬ (i : Int) < a.size by omega)], .inr ⟨rfl, ?_⟩⟩
      rw [Bool.eq_iff_iff, sLt_iff, decide_eq_true_eq, l_pre (by rw [show min (bl a).length (bl b).length = i by omega]; exact ht)]; omega
  obtain ⟨r, hr, rfl | ⟨rfl, h2⟩⟩ := key
  · rw [f70, hr]; rfl
  · rw [f70, hr, h2]; rfl
theorem add_ok {l : List ByteArray} {s : ByteArray} (hl : l.length ≤ 1000000000) (hs : ∀ x ∈ l, x.size ≤ 1048576) : f104 l s = some (addS s l) := by
  have key : ∃ r, loopO (f104_s2 l s) 0 = some r ∧ ∃ i : Nat, r = (i : Int) ∧ i ≤ l.length ∧ (∀ j x, j < i → l[j]? = some x → sLt x s = true) ∧ ∀ x, l[i]? = some x → sLt x s = false := by
    refine loopO_of (fun n t => ∃ i : Nat, t = (i : Int) ∧ i ≤ l.length ∧ n = l.length - i ∧ ∀ j x, j < i → l[j]? = some x → sLt x s = true) ?_ (k := l.length) ⟨0, rfl, by omega, by omega, fun j x hj => by omega⟩
    rintro n _ ⟨i, rfl, hi, hn, hp⟩
    by_cases hlt : i < l.length
    · have hx := ixN hlt
      have h70 := less (b := s) (hs _ (List.getElem_mem hlt))
      cases hv : sLt l[i] s with
      | true =>
        refine .inl ⟨((i + 1 : Nat) : Int), n - 1, ?_, by omega, i + 1, rfl, by omega, by omega, fun j x hj hx' => ?_⟩
        · simp only [f104_s2, if_pos (show (i : Int) < l.length by omega), hx, Option.bind_some, h70, hv, if_true, wrapN (show i ≤ 10000000000 by omega)]
        · by_cases hji : j = i
          · subst hji; rw [List.getElem?_eq_getElem hlt] at hx'; cases hx'; exact hv
          · exact hp j x (by omega) hx'
      | false =>
        refine .inr ⟨(i : Int), ?_, i, rfl, hi, hp, fun x hx' => ?_⟩
        · simp only [f104_s2, if_pos (show (i : Int) < l.length by omega), hx, Option.bind_some, h70, hv]; rfl
        · rw [List.getElem?_eq_getElem hlt] at hx'; cases hx'; exact hv
    · refine .inr ⟨(i : Int), by simp only [f104_s2, if_neg (show ¬ (i : Int) < l.length by omega)], i, rfl, hi, hp, fun x hx' => ?_⟩
      rw [List.getElem?_eq_none (by omega)] at hx'; cases hx'
  obtain ⟨_, hr, i, rfl, hi, hp, hq⟩ := key
  have hj : (∀ x, l[i]? = some x → x ≠ s) → f104_j1 l s (i : Int) () = some (addS s l) := fun hne => by
    have c1 : cutO? l 0 (i : Int) = some (l.take i) := cutO?_some.2 ⟨by omega, by simp⟩
    have c2 : cutO? l (i : Int) (l.length : Int) = some (l.drop i) := cutO?_some.2 ⟨by omega, by simp only [Int.toNat_natCast]; exact List.take_of_length_le (by simp)⟩
    rw [addS_new hp hi fun x hx => ⟨hq x hx, hne x hx⟩]
    simp only [f104_j1, c1, c2, Option.bind_some]
    rw [appO_ok' (by simp) (by simp; omega)]
    simp only [Option.bind_some, List.nil_append]
    rw [appO_ok' (by simp; omega) (by simp)]
    simp only [Option.bind_some]
    rw [appO_ok' (by simp; omega) (by simp; omega)]
    simp only [Option.bind_some, List.append_assoc, List.cons_append, List.nil_append]
  rw [f104, hr]
  simp only [Option.bind_some]
  by_cases hlt : i < l.length
  · rw [if_pos (show (i : Int) < l.length by omega), ixN hlt]
    simp only [Option.bind_some]
    by_cases he : l[i] = s
    · rw [if_pos he, addS_there hp (by rw [List.getElem?_eq_getElem hlt, he])]
    · rw [if_neg he]
      exact hj fun x hx => by rw [List.getElem?_eq_getElem hlt] at hx; cases hx; exact he
  · rw [if_neg (show ¬ (i : Int) < l.length by omega)]
    exact hj fun x hx => by rw [List.getElem?_eq_none (by omega)] at hx; cases hx
/-! ### The same item -/
def pv (v : Val) : Int ⊕ ByteArray := if v.Kind = 0 then .inl v.Int else .inr v.Text
def pk (p : Part) : Int × (Int ⊕ ByteArray) := (p.N, pv p.Acc)
def Sm (x y : Item) : Prop := x.Key = y.Key ∧ x.Parts.map pk = y.Parts.map pk ∧ x.Offs = y.Offs
structure SzI (x : Item) : Prop where
  k : x.Key.size ≤ 1048576
  p : x.Parts.length ≤ 1048576
  o : x.Offs.length ≤ 1048576
  t : ∀ p ∈ x.Parts, p.Acc.Text.size ≤ 1048576
theorem cmp0 : ∀ (a b : List UInt8), Lib.compareBytes a b = 0 ↔ a = b
  | [], [] => by simp [Lib.compareBytes]
  | [], _ :: _ => by simp [Lib.compareBytes]
  | _ :: _, [] => by simp [Lib.compareBytes]
  | a :: al, b :: bs => by
    simp only [Lib.compareBytes, List.cons.injEq]
    split
    · rename_i h; simp only [reduceCtorEq, false_iff]; rintro ⟨rfl, _⟩; rw [UInt8.lt_iff_toNat_lt] at h; omega
    · split
      · rename_i h; constructor
        · intro q; cases q
        · rintro ⟨rfl, _⟩; rw [UInt8.lt_iff_toNat_lt] at h; omega
      · rename_i h1 h2
        rw [cmp0 al bs]
        have : a = b := by
          rw [← UInt8.toNat_inj]; rw [UInt8.lt_iff_toNat_lt] at h1 h2; omega
        simp [this]
theorem cmpS0 {a b : ByteArray} : cmpS a b = 0 ↔ a = b := by
  rw [cmpS, cmp0]
  exact bl_inj
theorem ord {v w : Val} : ∃ n, f146 v w = some n ∧ (n = 0 ↔ pv v = pv w) := by
  unfold f146 pv
  by_cases h1 : v.Kind = 0
  · by_cases h2 : w.Kind = 0
    · simp only [if_pos h1, if_pos h2, f175, f189, Option.bind_some, decide_true, Bool.not_true, Bool.false_eq_true, if_false, Sum.inl.injEq]
      by_cases h3 : v.Int < w.Int
      · exact ⟨-1, by rw [if_pos h3]; rfl, by omega⟩
      · by_cases h4 : w.Int < v.Int
        · exact ⟨1, by rw [if_neg h3, if_pos h4]; rfl, by omega⟩
        · exact ⟨0, by rw [if_neg h3, if_neg h4]; rfl, by omega⟩
    · simp only [if_pos h1, if_neg h2]
      exact ⟨-1, rfl, by simp⟩
  · by_cases h2 : w.Kind = 0
    · simp only [if_neg h1, if_pos h2]
      exact ⟨1, rfl, by simp⟩
    · simp only [if_neg h1, if_neg h2, f176, Option.bind_some, Sum.inr.injEq]
      exact ⟨_, rfl, cmpS0⟩
theorem part_same {p q : Part} : ∃ v : Bool, f134 p q = some v ∧ (v = true ↔ pk p = pk q) := by
  unfold f134 pk
  simp only [Prod.mk.injEq]
  by_cases h : p.N = q.N
  · obtain ⟨n, h1, h2⟩ := ord (v := p.Acc) (w := q.Acc)
    refine ⟨decide (n = 0), by rw [if_pos h, h1]; rfl, by rw [decide_eq_true_eq, h2]; simp [h]⟩
  · exact ⟨false, by rw [if_neg h], by simp [h]⟩
theorem ord_ref {v w : Val} (hv : v.Text.size ≤ 1048576) : ∃ n, f158 v w = some n ∧ (n = 0 ↔ pv v = pv w) := by
  have hj : f158_j1 v w () = some (if v.Kind = 0 then -1 else if w.Kind = 0 then 1 else if sLt v.Text w.Text = true then -1 else if v.Text = w.Text then 0 else 1) := by
    unfold f158_j1
    rw [less hv]
    simp only [Option.bind_some]
    split
    · rfl
    · split
      · rfl
      · split
        · rfl
        · split <;> rfl
  unfold f158 pv
  by_cases h1 : v.Kind = 0
  · by_cases h2 : w.Kind = 0
    · simp only [if_pos h1, if_pos h2, Sum.inl.injEq]
      by_cases h3 : v.Int < w.Int
      · exact ⟨-1, by rw [if_pos h3], by omega⟩
      · by_cases h4 : w.Int < v.Int
        · exact ⟨1, by rw [if_neg h3, if_pos h4], by omega⟩
        · exact ⟨0, by rw [if_neg h3, if_neg h4], by omega⟩
    · simp only [if_pos h1, if_neg h2, hj]
      exact ⟨-1, rfl, by simp⟩
  · by_cases h2 : w.Kind = 0
    · simp only [if_neg h1, if_pos h2, hj]
      exact ⟨1, rfl, by simp⟩
    · simp only [if_neg h1, if_neg h2, hj, Sum.inr.injEq]
      refine ⟨_, rfl, ?_⟩
      by_cases h3 : sLt v.Text w.Text = true
      · rw [if_pos h3]
        constructor
        · intro q; cases q
        · intro q; rw [q, sLt_irr] at h3; cases h3
      · rw [if_neg h3]
        split
        · rename_i h; simp [h]
        · rename_i h; simp [h]
theorem part_ref {p q : Part} (hp : p.Acc.Text.size ≤ 1048576) : ∃ v : Bool, f107 p q = some v ∧ (v = true ↔ pk p = pk q) := by
  unfold f107 pk
  simp only [Prod.mk.injEq]
  by_cases h : p.N = q.N
  · obtain ⟨n, h1, h2⟩ := ord_ref (v := p.Acc) (w := q.Acc) hp
    refine ⟨decide (n = 0), by rw [if_pos h, f137, h1]; rfl, by rw [decide_eq_true_eq, h2]; simp [h]⟩
  · exact ⟨false, by rw [if_neg h], by simp [h]⟩
theorem parts_same {a b : List Part} (ha : a.length ≤ 1048576) : ∃ v : Bool, f133_134 a b = some v ∧ (v = true ↔ a.map pk = b.map pk) := by
  unfold f133_134
  by_cases hl : (a.length : Int) = b.length
  · obtain ⟨r, hr, h⟩ := cmp_loop (a := a) (b := b) pk (step := f133_134_s1 a b) (by omega) (by omega) (fun i h1 h2 => by
      obtain ⟨v, e1, e2⟩ := part_same (p := a[i]) (q := b[i])
      refine ⟨fun hk => ?_, fun hk => ?_⟩
      · simp only [f133_134_s1, if_pos (show (i : Int) < a.length by omega), ixN h1, ixN h2, Option.bind_some, e1, e2.2 hk, if_true]
      · have : v = false := by cases v with
          | false => rfl
          | true => exact absurd (e2.1 rfl) hk
        simp only [f133_134_s1, if_pos (show (i : Int) < a.length by omega), ixN h1, ixN h2, Option.bind_some, e1, this]; rfl) (by simp only [f133_134_s1, if_neg (show ¬ (a.length : Int) < a.length by omega)])
    rw [if_pos hl, hr]
    rcases h with ⟨h, rfl⟩ | ⟨h, rfl⟩
    · exact ⟨true, rfl, by simp [h]⟩
    · exact ⟨false, rfl, by simp [h]⟩
  · refine ⟨false, by rw [if_neg hl], ?_⟩
    simp only [Bool.false_eq_true, false_iff]
    intro h
    have := congrArg List.length h
    simp at this; omega
theorem ints_same {a b : List Int} (ha : a.length ≤ 1048576) : ∃ v : Bool, f112 a b = some v ∧ (v = true ↔ a = b) := by
  unfold f112
  by_cases hl : (a.length : Int) = b.length
  · obtain ⟨r, hr, h⟩ := cmp_loop (a := a) (b := b) id (step := f112_s1 a b) (by omega) (by omega) (fun i h1 h2 => by
      refine ⟨fun hk => ?_, fun hk => ?_⟩
      · simp only [f112_s1, if_pos (show (i : Int) < a.length by omega), ixN h1, ixN h2, Option.bind_some, if_pos (show a[i] = b[i] from hk)]
      · simp only [f112_s1, if_pos (show (i : Int) < a.length by omega), ixN h1, ixN h2, Option.bind_some, if_neg (show ¬ a[i] = b[i] from hk)]) (by simp only [f112_s1, if_neg (show ¬ (a.length : Int) < a.length by omega)])
    rw [if_pos hl, hr]
    simp only [List.map_id] at h
    rcases h with ⟨h, rfl⟩ | ⟨h, rfl⟩
    · exact ⟨true, rfl, by simp [h]⟩
    · exact ⟨false, rfl, by simp [h]⟩
  · refine ⟨false, by rw [if_neg hl], ?_⟩
    simp only [Bool.false_eq_true, false_iff]
    intro h
    rw [h] at hl; exact hl rfl
theorem f69_112 (a b : List Int) : f69 a b = f112 a b := rfl
theorem item_same {x y : Item} (hx : SzI x) : ∃ v : Bool, f132 x y = some v ∧ (v = true ↔ Sm x y) := by
  unfold f132 Sm
  by_cases h1 : x.Key = y.Key
  · obtain ⟨v, e1, e2⟩ := parts_same (b := y.Parts) hx.p
    obtain ⟨u, e3, e4⟩ := ints_same (b := y.Offs) hx.o
    simp only [if_pos h1, e1, e3, Option.bind_some]
    cases v with
    | true => exact ⟨u, by simp, by rw [e4]; simp [h1, e2.1 rfl]⟩
    | false => exact ⟨false, by simp, by simp only [Bool.false_eq_true, false_iff]; rintro ⟨_, h, _⟩; have := e2.2 h; cases this⟩
  · exact ⟨false, by rw [if_neg h1], by simp [h1]⟩
open Classical in
noncomputable def sm (x y : Item) : Bool := decide (Sm x y)
theorem sm_t {x y : Item} (h : Sm x y) : sm x y = true := by unfold sm; simp [h]
theorem sm_f {x y : Item} (h : ¬ Sm x y) : sm x y = false := by unfold sm; simp [h]
theorem bool_of {v : Bool} {p : Prop} {d : Decidable p} (h : v = true ↔ p) : v = @decide p d := by
  cases v with
  | true => exact (decide_eq_true (h.1 rfl)).symm
  | false => exact (decide_eq_false fun q => by have := h.2 q; cases this).symm
theorem one_same {x y : Item} (hx : SzI x) : f101 [x] [y] = some (sm x y) := by
  obtain ⟨v, e1, e2⟩ := item_same (y := y) hx
  have h0 : f131_132_s1 [x] [y] 0 = if v = true then some (.inl 1) else some (.inr (.inl false)) := by
    have i1 : ix [x] 0 = some x := rfl
    have i2 : ix [y] 0 = some y := rfl
    simp only [f131_132_s1, List.length_singleton, if_pos (show (0 : Int) < ((1 : Nat) : Int) by decide), i1, i2, Option.bind_some, e1]
    rfl
  have h1 : f131_132_s1 [x] [y] 1 = some (.inr (.inr ())) := by simp only [f131_132_s1, List.length_singleton]; rfl
  rw [f101, f131_132, if_pos (by rfl)]
  cases v with
  | true =>
    rw [if_pos rfl] at h0
    rw [loopO_next h0, loopO_done h1]
    have := e2.1 rfl
    simp only [Option.bind_some, sm_t this]
  | false =>
    rw [if_neg (by simp)] at h0
    rw [loopO_done h0]
    have : ¬ Sm x y := fun q => by have := e2.2 q; cases this
    simp only [Option.bind_some, sm_f this]
theorem one_ref {x y : Item} (hx : SzI x) : f61 [x] [y] = some (sm x y) := by
  have i1 : ix [x] 0 = some x := rfl
  have i2 : ix [y] 0 = some y := rfl
  have hs : ∃ v : Bool, f61_s1 [x] [y] 0 = (if v = true then some (.inl 1) else some (.inr (.inl false))) ∧ (v = true ↔ Sm x y) := by
    simp only [f61_s1, List.length_singleton, if_pos (show (0 : Int) < ((1 : Nat) : Int) by decide), i1, i2, Option.bind_some]
    unfold Sm
    by_cases h1 : x.Key = y.Key
    · rw [if_pos h1]
      by_cases hl : (x.Parts.length : Int) = y.Parts.length
      · rw [if_pos hl]
        obtain ⟨u, e3, e4⟩ := ints_same (b := y.Offs) hx.o
        rw [f69_112, e3]
        simp only [Option.bind_some]
        cases u with
        | true =>
          obtain ⟨r, hr, h⟩ := cmp_loop (a := x.Parts) (b := y.Parts) pk (step := f61_s4 x y) (by omega) (by have := hx.p; omega) (fun i h1 h2 => by
            obtain ⟨v, e1, e2⟩ := part_ref (p := x.Parts[i]) (q := y.Parts[i]) (hx.t _ (List.getElem_mem h1))
            refine ⟨fun hk => ?_, fun hk => ?_⟩
            · simp only [f61_s4, if_pos (show (i : Int) < x.Parts.length by omega), ixN h1, ixN h2, Option.bind_some, e1, e2.2 hk, if_true]
            · have : v = false := by cases v with
                | false => rfl
                | true => exact absurd (e2.1 rfl) hk
              simp only [f61_s4, if_pos (show (i : Int) < x.Parts.length by omega), ixN h1, ixN h2, Option.bind_some, e1, this]; rfl) (by simp only [f61_s4, if_neg (show ¬ (x.Parts.length : Int) < x.Parts.length by omega)])
          rw [if_pos rfl, hr]
          rcases h with ⟨h, rfl⟩ | ⟨h, rfl⟩
          · exact ⟨true, rfl, by simp [h1, h, e4.1 rfl]⟩
          · exact ⟨false, rfl, by simp [h]⟩
        | false => exact ⟨false, rfl, by simp only [Bool.false_eq_true, false_iff]; rintro ⟨_, _, h⟩; have := e4.2 h; cases this⟩
      · refine ⟨false, by rw [if_neg hl]; rfl, ?_⟩
        simp only [Bool.false_eq_true, false_iff]
        rintro ⟨_, h, _⟩
        have := congrArg List.length h
        simp at this; omega
    · exact ⟨false, by rw [if_neg h1]; rfl, by simp [h1]⟩
  obtain ⟨v, h0, e2⟩ := hs
  have h1 : f61_s1 [x] [y] 1 = some (.inr (.inr ())) := by simp only [f61_s1, List.length_singleton]; rfl
  rw [f61, if_pos (by rfl)]
  cases v with
  | true =>
    rw [if_pos rfl] at h0
    rw [loopO_next h0, loopO_done h1]
    have := e2.1 rfl
    simp only [Option.bind_some, sm_t this]
  | false =>
    rw [if_neg (by simp)] at h0
    rw [loopO_done h0]
    have : ¬ Sm x y := fun q => by have := e2.2 q; cases this
    simp only [Option.bind_some, sm_f this]
end Au
end Go.Proofs.Y1
