import Derived.Test.YtlonihmeikmpiaaGqS5A
import Derived.Test.YtlonihmeikmpiaaGqDTf56
import Derived.Test.YtlonihmeikmpiaaGqDTf57
set_option linter.all false
set_option linter.unusedVariables false
set_option linter.unusedSimpArgs false
set_option linter.all false
set_option maxRecDepth 8000
namespace Go.Proofs.Y1
open Go.Gm
namespace Au
def SzL (l : List Item) : Prop := l.length ≤ 1048576 ∧ ∀ x ∈ l, SzI x
/-- an item that is not as it was -/
noncomputable def miss (b : List Item) (x : Item) : Bool := match b.find? fun y => decide (y.Key = x.Key) with
  | none => true
  | some y => !sm y x
noncomputable def Tl (b l : List Item) : List ByteArray := (l.filter (miss b)).map (·.Key)
theorem Tl_succ {b l : List Item} {i : Nat} (h : i < l.length) : Tl b (l.take (i + 1)) = Tl b (l.take i) ++ if miss b l[i] = true then [l[i].Key] else [] := by
  unfold Tl
  rw [List.take_add_one, List.getElem?_eq_getElem h, List.filter_append, List.map_append]
  congr 1
  cases hm : miss b l[i] <;> simp [hm]
theorem Tl_len (b l : List Item) : (Tl b l).length ≤ l.length := by unfold Tl; rw [List.length_map]; exact List.length_filter_le _ _
theorem Tl_mem {b l : List Item} {s : ByteArray} (h : s ∈ Tl b l) : ∃ x ∈ l, x.Key = s := by
  unfold Tl at h
  obtain ⟨x, hx, rfl⟩ := List.mem_map.1 h
  exact ⟨x, (List.mem_filter.1 hx).1, rfl⟩
theorem first {l : List Item} {x : Item} (hl : l.length ≤ 1048576) : ∃ r, f99_100 l x = some r ∧ ((r = -1 ∧ l.find? (fun y => decide (y.Key = x.Key)) = none) ∨ ∃ (i : Nat) (h : i < l.length), r = (i : Int) ∧ l.find? (fun y => decide (y.Key = x.Key)) = some l[i]) := by
  have key : ∃ r, loopO (f99_100_s1 l x) 0 = some r ∧ ((r = .inr () ∧ l.find? (fun y => decide (y.Key = x.Key)) = none) ∨ ∃ (i : Nat) (h : i < l.length), r = .inl (i : Int) ∧ l.find? (fun y => decide (y.Key = x.Key)) = some l[i]) := by
    refine loopO_of (fun n t => ∃ i : Nat, t = (i : Int) ∧ i ≤ l.length ∧ n = l.length - i ∧ ∀ (j : Nat) (h : j < l.length), j < i → l[j].Key ≠ x.Key) ?_ (k := l.length) ⟨0, rfl, by omega, by omega, fun j h hj => by omega⟩
    rintro n _ ⟨i, rfl, hi, hn, hp⟩
    by_cases hlt : i < l.length
    · by_cases hk : l[i].Key = x.Key
      · refine .inr ⟨.inl (i : Int), by simp only [f99_100_s1, if_pos (show (i : Int) < l.length by omega), ixN hlt, Option.bind_some, f100, hk, decide_true, if_true], .inr ⟨i, hlt, rfl, ?_⟩⟩
        rw [List.find?_eq_some_iff_getElem]
        exact ⟨by simp [hk], i, hlt, rfl, fun j hj => by simpa using hp j (by omega) hj⟩
      · refine .inl ⟨((i + 1 : Nat) : Int), n - 1, ?_, by omega, i + 1, rfl, by omega, by omega, fun j h hj => ?_⟩
        · simp only [f99_100_s1, if_pos (show (i : Int) < l.length by omega), ixN hlt, Option.bind_some, f100, hk, decide_false, wrapN (show i ≤ 10000000000 by omega)]; rfl
        · by_cases hji : j = i
          · subst hji; exact hk
          · exact hp j h (by omega)
    · refine .inr ⟨.inr (), by simp only [f99_100_s1, if_neg (show ¬ (i : Int) < l.length by omega)], .inl ⟨rfl, ?_⟩⟩
      rw [List.find?_eq_none]
      intro y hy
      obtain ⟨j, hj, rfl⟩ := List.mem_iff_getElem.1 hy
      simpa using hp j hj (by omega)
  obtain ⟨r, hr, ⟨rfl, h⟩ | ⟨i, hi, rfl, h⟩⟩ := key
  · exact ⟨-1, by rw [f99_100, hr]; rfl, .inl ⟨rfl, h⟩⟩
  · exact ⟨(i : Int), by rw [f99_100, hr]; rfl, .inr ⟨i, hi, rfl, h⟩⟩
theorem row_ok {b l : List Item} {acc : List ByteArray} (hb : SzL b) (hl : SzL l) (ha : acc.length ≤ 1000000000) : loopO (f56_s4 l b) (acc, 0) = some (acc ++ Tl b l) := by
  have hl1 := hl.1
  have hb1 := hb.1
  have key : ∃ r, loopO (f56_s4 l b) (acc, 0) = some r ∧ r = acc ++ Tl b l := by
    refine loopO_of (fun n t => ∃ i : Nat, t = (acc ++ Tl b (l.take i), (i : Int)) ∧ i ≤ l.length ∧ n = l.length - i) ?_ (k := l.length) ⟨0, by simp [Tl], by omega, by omega⟩
    rintro n _ ⟨i, rfl, hi, hn⟩
    by_cases hlt : i < l.length
    · refine .inl ⟨(acc ++ Tl b (l.take (i + 1)), ((i + 1 : Nat) : Int)), n - 1, ?_, by omega, i + 1, rfl, by omega, by omega⟩
      have hlen := Tl_len b (l.take i)
      rw [List.length_take] at hlen
      have happ := appO_ok' (l := acc ++ Tl b (l.take i)) (r := [l[i].Key]) (by rw [List.length_append]; omega) (by simp)
      obtain ⟨r, h1, ⟨rfl, h2⟩ | ⟨k, hk, rfl, h2⟩⟩ := first (l := b) (x := l[i]) hb1
      · have hm : miss b l[i] = true := by unfold miss; rw [h2]
        simp only [f56_s4, if_pos (show (i : Int) < l.length by omega), ixN hlt, Option.bind_some, h1, if_pos (show (-1 : Int) < 0 by decide), happ, wrapN (show i ≤ 10000000000 by omega), Tl_succ hlt, hm, if_true, List.append_assoc]
      · have hcut : cutO? b (k : Int) (IntKind.i64.wrap ((k : Int) + 1)) = some [b[k]] := by
          rw [wrapN (by omega)]
          refine cutO?_some.2 ⟨by omega, ?_⟩
          rw [show ((k + 1 : Nat) : Int).toNat - (k : Int).toNat = 1 by omega, Int.toNat_natCast, List.drop_eq_getElem_cons hk]; rfl
        have hs := one_same (y := l[i]) (hb.2 _ (List.getElem_mem hk))
        have hm : miss b l[i] = !sm b[k] l[i] := by unfold miss; rw [h2]
        cases hv : sm b[k] l[i] with
        | true => simp only [f56_s4, if_pos (show (i : Int) < l.length by omega), ixN hlt, Option.bind_some, h1, if_neg (show ¬ (k : Int) < 0 by omega), hcut, hs, hv, if_true, wrapN (show i ≤ 10000000000 by omega), Tl_succ hlt, hm, Bool.not_true, Bool.false_eq_true, if_false, List.append_nil]
        | false => simp only [f56_s4, if_pos (show (i : Int) < l.length by omega), ixN hlt, Option.bind_some, h1, if_neg (show ¬ (k : Int) < 0 by omega), hcut, hs, hv, Bool.false_eq_true, if_false, happ, wrapN (show i ≤ 10000000000 by omega), Tl_succ hlt, hm, Bool.not_false, if_true, List.append_assoc]
    · have : i = l.length := by omega
      subst this
      exact .inr ⟨_, by simp only [f56_s4, if_neg (show ¬ ((l.length : Nat) : Int) < l.length by omega), List.take_length], rfl⟩
  obtain ⟨r, h, rfl⟩ := key
  exact h
noncomputable def TT (a b : List (List Item)) (n : Nat) : List ByteArray := (List.range n).flatMap fun p => Tl ((a[p]?).getD []) ((b[p]?).getD [])
theorem TT_succ (a b : List (List Item)) (n : Nat) : TT a b (n + 1) = TT a b n ++ Tl ((a[n]?).getD []) ((b[n]?).getD []) := by
  unfold TT; rw [List.range_succ, List.flatMap_append]; simp
theorem TT_len {a b : List (List Item)} (hb : ∀ l ∈ b, SzL l) : ∀ n, (TT a b n).length ≤ 1048576 * n
  | 0 => by simp [TT]
  | n + 1 => by
    have h1 := TT_len (a := a) hb n
    have h2 := Tl_len ((a[n]?).getD []) ((b[n]?).getD [])
    have h3 : ((b[n]?).getD []).length ≤ 1048576 := by
      cases h : b[n]? with
      | none => simp
      | some l => exact (hb l (List.mem_of_getElem? h)).1
    rw [TT_succ, List.length_append]; omega
theorem TT_mem {a b : List (List Item)} {s : ByteArray} (hb : ∀ l ∈ b, SzL l) : ∀ n, s ∈ TT a b n → s.size ≤ 1048576
  | 0, h => by simp [TT] at h
  | n + 1, h => by
    rw [TT_succ, List.mem_append] at h
    rcases h with h | h
    · exact TT_mem hb n h
    · obtain ⟨x, hx, rfl⟩ := Tl_mem h
      cases hq : b[n]? with
      | none => rw [hq] at hx; simp at hx
      | some l => rw [hq] at hx; exact ((hb l (List.mem_of_getElem? hq)).2 x hx).k
theorem prog_ok {a b : List (List Item)} (ha : ∀ l ∈ a, SzL l) (hb : ∀ l ∈ b, SzL l) (hal : a.length ≤ 100) (hbl : b.length ≤ 100) : f56 a b = some ((TT a b b.length).foldl (fun l s => addS s l) []) := by
  have key : ∃ r, loopO (f56_s1 a b) ([], 0) = some r ∧ r = TT a b b.length := by
    refine loopO_of (fun n t => ∃ i : Nat, t = (TT a b i, (i : Int)) ∧ i ≤ b.length ∧ n = b.length - i) ?_ (k := b.length) ⟨0, by simp [TT], by omega, by omega⟩
    rintro n _ ⟨i, rfl, hi, hn⟩
    by_cases hlt : i < b.length
    · refine .inl ⟨(TT a b (i + 1), ((i + 1 : Nat) : Int)), n - 1, ?_, by omega, i + 1, rfl, by omega, by omega⟩
      have hlen := TT_len (a := a) hb i
      have hle : (TT a b i).length ≤ 1000000000 := Nat.le_trans hlen (by omega)
      have hbi := hb _ (List.getElem_mem hlt)
      by_cases hai : i < a.length
      · have hr := row_ok (acc := TT a b i) (ha _ (List.getElem_mem hai)) hbi hle
        simp only [f56_s1, if_pos (show (i : Int) < b.length by omega), ixN hlt, Option.bind_some, if_pos (show (i : Int) < a.length by omega), ixN hai, f56_j3, hr, wrapN (show i ≤ 10000000000 by omega), TT_succ, List.getElem?_eq_getElem hlt, List.getElem?_eq_getElem hai, Option.getD_some]
      · have hr := row_ok (b := []) (acc := TT a b i) ⟨by simp, by simp⟩ hbi hle
        simp only [f56_s1, if_pos (show (i : Int) < b.length by omega), ixN hlt, Option.bind_some, if_neg (show ¬ (i : Int) < a.length by omega), f56_j3, hr, wrapN (show i ≤ 10000000000 by omega), TT_succ, List.getElem?_eq_getElem hlt, List.getElem?_eq_none (show a.length ≤ i by omega), Option.getD_some, Option.getD_none]
    · have : i = b.length := by omega
      subst this
      exact .inr ⟨_, by simp only [f56_s1, if_neg (show ¬ ((b.length : Nat) : Int) < b.length by omega)], rfl⟩
  obtain ⟨r, h, rfl⟩ := key
  have hlen := TT_len (a := a) hb b.length
  have h1 : (TT a b b.length).length < 4611686018427387904 := by omega
  rw [f56, h]
  simp only [Option.bind_some, f102, if_pos h1, f103]
  rw [if_pos (by rw [sortS_len]; exact h1)]
  simp only [Option.bind_some, comp_sort]
theorem ref_row {b l : List Item} {a c : List (List Item)} {p i : Nat} (hb : SzL b) (hl : SzL l) (hi : i < l.length) (hp : (a[p]?).getD [] = b) (hpl : p < 1000) : loopO (f57_s18 a (p : Int) (i : Int) l) (false, false, 0) = some (!miss b l[i]) := by
  have hb1 := hb.1
  have hl1 := hl.1
  by_cases hpa : p < a.length
  · have hbe : a[p] = b := by rw [List.getElem?_eq_getElem hpa] at hp; exact hp
    let st : Nat → Bool × Bool × Int := fun k => match (b.take k).find? (fun y => decide (y.Key = l[i].Key)) with
      | none => (false, false, (k : Int))
      | some y => (sm y l[i], true, (k : Int))
    have key : ∃ r, loopO (f57_s18 a (p : Int) (i : Int) l) (false, false, 0) = some r ∧ r = !miss b l[i] := by
      refine loopO_of (fun n t => ∃ k : Nat, t = st k ∧ k ≤ b.length ∧ n = b.length - k) ?_ (k := b.length) ⟨0, rfl, by omega, by omega⟩
      rintro n _ ⟨k, rfl, hk, hn⟩
      by_cases hlt : k < b.length
      · refine .inl ⟨st (k + 1), n - 1, ?_, by omega, k + 1, rfl, by omega, by omega⟩
        have htk : b.take (k + 1) = b.take k ++ [b[k]] := by rw [List.take_add_one, List.getElem?_eq_getElem hlt]; rfl
        have hcut : cutO? b (k : Int) ((k + 1 : Nat) : Int) = some [b[k]] := by
          refine cutO?_some.2 ⟨by omega, ?_⟩
          rw [show ((k + 1 : Nat) : Int).toNat - (k : Int).toNat = 1 by omega, Int.toNat_natCast, List.drop_eq_getElem_cons hlt]; rfl
        have hcut2 : cutO? l (i : Int) ((i + 1 : Nat) : Int) = some [l[i]] := by
          refine cutO?_some.2 ⟨by omega, ?_⟩
          rw [show ((i + 1 : Nat) : Int).toNat - (i : Int).toNat = 1 by omega, Int.toNat_natCast, List.drop_eq_getElem_cons hi]; rfl
        have hs := one_ref (y := l[i]) (hb.2 _ (List.getElem_mem hlt))
        simp only [st, htk, List.find?_append]
        cases hf : (b.take k).find? (fun y => decide (y.Key = l[i].Key)) with
        | none =>
          by_cases he : b[k].Key = l[i].Key
          · simp only [f57_s18, if_pos (show (p : Int) < a.length by omega), ixN hpa, hbe, Option.bind_some, if_pos (show (k : Int) < b.length by omega), ixN hlt, ixN hi, if_pos he, Bool.false_eq_true, if_false, wrapN (show k ≤ 10000000000 by omega), wrapN (show i ≤ 10000000000 by omega), hcut, hcut2, hs, Option.none_or, List.find?_cons, he, decide_true, if_true]
          · simp only [f57_s18, if_pos (show (p : Int) < a.length by omega), ixN hpa, hbe, Option.bind_some, if_pos (show (k : Int) < b.length by omega), ixN hlt, ixN hi, if_neg he, wrapN (show k ≤ 10000000000 by omega), Option.none_or, List.find?_cons, he, decide_false, List.find?_nil, if_false]
        | some y =>
          by_cases he : b[k].Key = l[i].Key
          · simp only [f57_s18, if_pos (show (p : Int) < a.length by omega), ixN hpa, hbe, Option.bind_some, if_pos (show (k : Int) < b.length by omega), ixN hlt, ixN hi, if_pos he, if_true, wrapN (show k ≤ 10000000000 by omega), Option.some_or]
          · simp only [f57_s18, if_pos (show (p : Int) < a.length by omega), ixN hpa, hbe, Option.bind_some, if_pos (show (k : Int) < b.length by omega), ixN hlt, ixN hi, if_neg he, wrapN (show k ≤ 10000000000 by omega), Option.some_or]
      · have : k = b.length := by omega
        subst this
        refine .inr ⟨(st b.length).1, ?_, ?_⟩
        · simp only [st]
          cases hf : (b.take b.length).find? (fun y => decide (y.Key = l[i].Key)) <;> simp only [f57_s18, if_pos (show (p : Int) < a.length by omega), ixN hpa, hbe, Option.bind_some, if_neg (show ¬ ((b.length : Nat) : Int) < b.length by omega)]
        · simp only [st, List.take_length, miss]
          cases hf : b.find? (fun y => decide (y.Key = l[i].Key)) <;> simp
    obtain ⟨r, h, rfl⟩ := key
    exact h
  · have : b = [] := by rw [List.getElem?_eq_none (by omega)] at hp; exact hp.symm
    subst this
    refine loopO_done ?_
    simp only [f57_s18, if_neg (show ¬ (p : Int) < a.length by omega), miss, List.find?_nil, Bool.not_true]
theorem addS_len {s : ByteArray} {l : List ByteArray} : (addS s l).length ≤ l.length + 1 := by
  induction l with
  | nil => simp [addS]
  | cons x l ih =>
    simp only [addS]
    split
    · simp only [List.length_cons]; omega
    · split <;> simp
theorem fold_len : ∀ (m l : List ByteArray), (m.foldl (fun l s => addS s l) l).length ≤ l.length + m.length
  | [], l => by simp
  | s :: m, l => by
    have := fold_len m (addS s l)
    have := addS_len (s := s) (l := l)
    simp only [List.foldl_cons, List.length_cons]; omega
noncomputable def FF (T : List ByteArray) : List ByteArray := T.foldl (fun l s => addS s l) []
theorem FF_len (T : List ByteArray) : (FF T).length ≤ T.length := by have := fold_len T []; simpa [FF] using this
theorem FF_mem {T : List ByteArray} {s : ByteArray} (h : s ∈ FF T) : s ∈ T := by
  have := (fold_mem s T []).1 h
  simpa using this
theorem ref_ok {a b : List (List Item)} (ha : ∀ l ∈ a, SzL l) (hb : ∀ l ∈ b, SzL l) (hal : a.length ≤ 100) (hbl : b.length ≤ 100) : f57 a b = some (FF (TT a b b.length)) := by
  have key : ∃ r, loopO (f57_s1 a b) ([], 0) = some r ∧ r = FF (TT a b b.length) := by
    refine loopO_of (fun n t => ∃ i : Nat, t = (FF (TT a b i), (i : Int)) ∧ i ≤ b.length ∧ n = b.length - i) ?_ (k := b.length) ⟨0, by simp [TT, FF], by omega, by omega⟩
    rintro n _ ⟨p, rfl, hp, hn⟩
    by_cases hlt : p < b.length
    · refine .inl ⟨(FF (TT a b (p + 1)), ((p + 1 : Nat) : Int)), n - 1, ?_, by omega, p + 1, rfl, by omega, by omega⟩
      have hl := hb _ (List.getElem_mem hlt)
      have hl1 := hl.1
      have hbb : SzL ((a[p]?).getD []) := by
        cases hq : a[p]? with
        | none => exact ⟨by simp, by simp⟩
        | some l => exact ha l (List.mem_of_getElem? hq)
      have hin : ∃ r, loopO (f57_s12 a b (p : Int)) (0, FF (TT a b p)) = some r ∧ r = FF (TT a b (p + 1)) := by
        refine loopO_of (fun n t => ∃ i : Nat, t = ((i : Int), FF (TT a b p ++ Tl ((a[p]?).getD []) (b[p].take i))) ∧ i ≤ b[p].length ∧ n = b[p].length - i) ?_ (k := b[p].length) ⟨0, by simp [Tl], by omega, by omega⟩
        rintro n _ ⟨i, rfl, hi, hn⟩
        by_cases hil : i < b[p].length
        · refine .inl ⟨(((i + 1 : Nat) : Int), FF (TT a b p ++ Tl ((a[p]?).getD []) (b[p].take (i + 1)))), n - 1, ?_, by omega, i + 1, rfl, by omega, by omega⟩
          have hr := ref_row (a := a) (c := b) (p := p) hbb hl hil rfl (by omega)
          have hlen := TT_len (a := a) hb p
          have hlen2 := Tl_len ((a[p]?).getD []) (b[p].take i)
          rw [List.length_take] at hlen2
          have hadd := add_ok (l := FF (TT a b p ++ Tl ((a[p]?).getD []) (b[p].take i))) (s := b[p][i].Key)
            (Nat.le_trans (FF_len _) (by rw [List.length_append]; omega)) (fun x hx => by
              rcases List.mem_append.1 (FF_mem hx) with h | h
              · exact TT_mem hb p h
              · obtain ⟨y, hy, rfl⟩ := Tl_mem h
                exact (hl.2 y (List.mem_of_mem_take hy)).k)
          cases hm : miss ((a[p]?).getD []) b[p][i] with
          | false => simp only [f57_s12, ixN hlt, Option.bind_some, if_pos (show (i : Int) < b[p].length by omega), hr, hm, Bool.not_false, if_true, wrapN (show i ≤ 10000000000 by omega), Tl_succ hil, Bool.false_eq_true, if_false, List.append_nil]
          | true =>
            simp only [f57_s12, ixN hlt, Option.bind_some, if_pos (show (i : Int) < b[p].length by omega), hr, hm, Bool.not_true, Bool.false_eq_true, if_false, ixN hil, hadd, wrapN (show i ≤ 10000000000 by omega), Tl_succ hil, if_true]
            rw [← List.append_assoc]
            simp only [FF, List.foldl_append, List.foldl_cons, List.foldl_nil]
        · have : i = b[p].length := by omega
          subst this
          refine .inr ⟨FF (TT a b p ++ Tl ((a[p]?).getD []) b[p]), by simp only [f57_s12, ixN hlt, Option.bind_some, if_neg (show ¬ ((b[p].length : Nat) : Int) < b[p].length by omega), List.take_length], ?_⟩
          rw [TT_succ, List.getElem?_eq_getElem hlt]; rfl
      obtain ⟨r, hr, rfl⟩ := hin
      simp only [f57_s1, if_pos (show (p : Int) < b.length by omega), hr, Option.bind_some, wrapN (show p ≤ 10000000000 by omega)]
    · have : p = b.length := by omega
      subst this
      exact .inr ⟨_, by simp only [f57_s1, if_neg (show ¬ ((b.length : Nat) : Int) < b.length by omega)], rfl⟩
  obtain ⟨r, h, rfl⟩ := key
  rw [f57, h]; rfl
end Au
end Go.Proofs.Y1
