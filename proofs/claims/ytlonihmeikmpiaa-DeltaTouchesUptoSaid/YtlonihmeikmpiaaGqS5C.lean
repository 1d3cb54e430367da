import Derived.Test.YtlonihmeikmpiaaGqS5B
import Derived.Test.YtlonihmeikmpiaaGqDTf11
set_option linter.all false
set_option linter.unusedVariables false
set_option linter.unusedSimpArgs false
set_option linter.all false
set_option maxRecDepth 8000
namespace Go.Proofs.Y1
open Go.Gm
namespace Au
theorem strs_refl {l : List ByteArray} (hl : l.length ≤ 1000000000) : f55 l l = some true := by
  obtain ⟨r, hr, h⟩ := cmp_loop (a := l) (b := l) id (step := f55_s1 l l) rfl hl (fun i h1 h2 => by
    refine ⟨fun hk => ?_, fun hk => absurd rfl hk⟩
    simp only [f55_s1, if_pos (show (i : Int) < l.length by omega), ixN h1, Option.bind_some, if_true]) (by simp only [f55_s1, if_neg (show ¬ (l.length : Int) < l.length by omega)])
  rcases h with ⟨_, rfl⟩ | ⟨h, _⟩
  · rw [f55, if_pos rfl, hr]; rfl
  · exact absurd rfl h
theorem much_tot {a : List Item} (ha : SzL a) : ∃ v, f54 a = some v := by
  have ha1 := ha.1
  have key : ∃ r, loopO (f54_s1 a) (0, 0) = some r ∧ True := by
    refine loopO_of (fun n (t : Int × Int) => ∃ i : Nat, t.2 = (i : Int) ∧ i ≤ a.length ∧ n = a.length - i) ?_ (k := a.length) ⟨0, rfl, by omega, by omega⟩
    rintro n ⟨s, _⟩ ⟨i, rfl, hi, hn⟩
    by_cases hlt : i < a.length
    · by_cases h60 : (i : Int) < 60
      · have hx := ha.2 _ (List.getElem_mem hlt)
        have hp := hx.p
        have hin : ∀ s0 : Int, ∃ r, loopO (f54_s4 a[i]) (s0, 0) = some r ∧ True := fun s0 => by
          refine loopO_of (fun n (t : Int × Int) => ∃ i' : Nat, t.2 = (i' : Int) ∧ i' ≤ a[i].Parts.length ∧ n = a[i].Parts.length - i') ?_ (k := a[i].Parts.length) ⟨0, rfl, by omega, by omega⟩
          rintro n ⟨s, _⟩ ⟨k, rfl, hk, hn⟩
          by_cases hkl : k < a[i].Parts.length
          · by_cases h3 : (k : Int) < 300
            · exact .inl ⟨(_, ((k + 1 : Nat) : Int)), n - 1, by simp only [f54_s4, if_pos (show (k : Int) < a[i].Parts.length by omega), if_pos h3, ixN hkl, Option.bind_some, wrapN (show k ≤ 10000000000 by omega)]; rfl, by omega, k + 1, rfl, by omega, by omega⟩
            · exact .inr ⟨s, by simp only [f54_s4, if_pos (show (k : Int) < a[i].Parts.length by omega), if_neg h3], trivial⟩
          · exact .inr ⟨s, by simp only [f54_s4, if_neg (show ¬ (k : Int) < a[i].Parts.length by omega)], trivial⟩
        obtain ⟨r, hr, _⟩ := hin (IntKind.i64.wrap ((IntKind.i64.wrap ((IntKind.i64.wrap (s + (a[i].Key.size : Int))) + (IntKind.i64.wrap (4 * (a[i].Offs.length : Int))))) + (IntKind.i64.wrap (4 * (a[i].Parts.length : Int)))))
        by_cases hb : 1500 < r
        · exact .inr ⟨.inl true, by simp only [f54_s1, if_pos (show (i : Int) < a.length by omega), if_pos h60, ixN hlt, Option.bind_some, hr, if_pos hb], trivial⟩
        · exact .inl ⟨(r, ((i + 1 : Nat) : Int)), n - 1, by simp only [f54_s1, if_pos (show (i : Int) < a.length by omega), if_pos h60, ixN hlt, Option.bind_some, hr, if_neg hb, wrapN (show i ≤ 10000000000 by omega)], by omega, i + 1, rfl, by omega, by omega⟩
      · exact .inr ⟨.inr (), by simp only [f54_s1, if_pos (show (i : Int) < a.length by omega), if_neg h60], trivial⟩
    · exact .inr ⟨.inr (), by simp only [f54_s1, if_neg (show ¬ (i : Int) < a.length by omega)], trivial⟩
  obtain ⟨r, hr, _⟩ := key
  rw [f54, hr]
  cases r with
  | inl v => exact ⟨v, rfl⟩
  | inr u => exact ⟨_, rfl⟩
theorem offs_tot {l : List Int} (hl : l.length ≤ 1048576) : ∃ v, f105 l = some v := by
  have key : ∃ r, loopO (f105_s1 l) 0 = some r ∧ True := by
    refine loopO_of (fun n (t : Int) => ∃ i : Nat, t = (i : Int) ∧ i ≤ l.length ∧ n = l.length - i) ?_ (k := l.length) ⟨0, rfl, by omega, by omega⟩
    rintro n _ ⟨i, rfl, hi, hn⟩
    by_cases hlt : i < l.length
    · by_cases h1 : l[i] < 0
      · exact .inr ⟨.inl false, by simp only [f105_s1, if_pos (show (i : Int) < l.length by omega), ixN hlt, Option.bind_some, if_pos h1], trivial⟩
      by_cases h2 : 1048576 < l[i]
      · exact .inr ⟨.inl false, by simp only [f105_s1, if_pos (show (i : Int) < l.length by omega), ixN hlt, Option.bind_some, if_neg h1, if_pos h2], trivial⟩
      by_cases h3 : 0 < i
      · have w : IntKind.i64.wrap ((i : Int) - 1) = ((i - 1 : Nat) : Int) := by rw [i64_id (by omega) (by omega)]; omega
        by_cases h4 : l[i] ≤ l[i - 1]'(by omega)
        · exact .inr ⟨.inl false, by simp only [f105_s1, if_pos (show (i : Int) < l.length by omega), ixN hlt, Option.bind_some, if_neg h1, if_neg h2, if_pos (show (0 : Int) < i by omega), w, ixN (show i - 1 < l.length by omega), if_pos h4], trivial⟩
        · exact .inl ⟨((i + 1 : Nat) : Int), n - 1, by simp only [f105_s1, if_pos (show (i : Int) < l.length by omega), ixN hlt, Option.bind_some, if_neg h1, if_neg h2, if_pos (show (0 : Int) < i by omega), w, ixN (show i - 1 < l.length by omega), if_neg h4, wrapN (show i ≤ 10000000000 by omega)], by omega, i + 1, rfl, by omega, by omega⟩
      · exact .inl ⟨((i + 1 : Nat) : Int), n - 1, by simp only [f105_s1, if_pos (show (i : Int) < l.length by omega), ixN hlt, Option.bind_some, if_neg h1, if_neg h2, if_neg (show ¬ (0 : Int) < i by omega), wrapN (show i ≤ 10000000000 by omega)], by omega, i + 1, rfl, by omega, by omega⟩
    · exact .inr ⟨.inr (), by simp only [f105_s1, if_neg (show ¬ (i : Int) < l.length by omega)], trivial⟩
  obtain ⟨r, hr, _⟩ := key
  rw [f105, hr]
  cases r with
  | inl v => exact ⟨v, rfl⟩
  | inr u => exact ⟨_, rfl⟩
theorem j2_ok {a : List Item} {i : Nat} (ha : SzL a) (hlt : i < a.length) : f58_j2 a (i : Int) () = some (.inr (.inl false)) ∨ f58_j2 a (i : Int) () = some (.inl ((i + 1 : Nat) : Int)) := by
  have ha1 := ha.1
  have hp := (ha.2 _ (List.getElem_mem hlt)).p
  have key : ∃ r, loopO (f58_s4 a (i : Int)) 0 = some r ∧ (r = .inl false ∨ r = .inr ()) := by
    refine loopO_of (fun n (t : Int) => ∃ k : Nat, t = (k : Int) ∧ k ≤ a[i].Parts.length ∧ n = a[i].Parts.length - k) ?_ (k := a[i].Parts.length) ⟨0, rfl, by omega, by omega⟩
    rintro n _ ⟨k, rfl, hk, hn⟩
    by_cases hkl : k < a[i].Parts.length
    · by_cases h1 : a[i].Parts[k].N < 1
      · exact .inr ⟨.inl false, by simp only [f58_s4, ixN hlt, Option.bind_some, if_pos (show (k : Int) < a[i].Parts.length by omega), ixN hkl, if_pos h1], .inl rfl⟩
      · exact .inl ⟨((k + 1 : Nat) : Int), n - 1, by simp only [f58_s4, ixN hlt, Option.bind_some, if_pos (show (k : Int) < a[i].Parts.length by omega), ixN hkl, if_neg h1, wrapN (show k ≤ 10000000000 by omega)], by omega, k + 1, rfl, by omega, by omega⟩
    · exact .inr ⟨.inr (), by simp only [f58_s4, ixN hlt, Option.bind_some, if_neg (show ¬ (k : Int) < a[i].Parts.length by omega)], .inr rfl⟩
  obtain ⟨r, hr, rfl | rfl⟩ := key
  · exact .inl (by rw [f58_j2, hr]; rfl)
  · exact .inr (by simp only [f58_j2, hr, Option.bind_some, wrapN (show i ≤ 10000000000 by omega)])
def Up (a : List Item) (n : Nat) : Prop := ∀ (j : Nat) (h : j + 1 < a.length), j + 1 < n → sLt a[j].Key a[j + 1].Key = true
theorem right_ok {a : List Item} (ha : SzL a) : ∃ v, f58 a = some v ∧ (v = true → Up a a.length) := by
  have ha1 := ha.1
  have key : ∃ r, loopO (f58_s1 a) 0 = some r ∧ (r = .inl false ∨ (r = .inr () ∧ Up a a.length)) := by
    refine loopO_of (fun n (t : Int) => ∃ i : Nat, t = (i : Int) ∧ i ≤ a.length ∧ n = a.length - i ∧ Up a i) ?_ (k := a.length) ⟨0, rfl, by omega, by omega, fun j h hj => by omega⟩
    rintro n _ ⟨i, rfl, hi, hn, hu⟩
    by_cases hlt : i < a.length
    · have hx := ha.2 _ (List.getElem_mem hlt)
      obtain ⟨v, hv⟩ := offs_tot hx.o
      have hj := j2_ok ha hlt
      by_cases h0 : 0 < i
      · have w : IntKind.i64.wrap ((i : Int) - 1) = ((i - 1 : Nat) : Int) := by rw [i64_id (by omega) (by omega)]; omega
        have hl := less (b := a[i].Key) (ha.2 _ (List.getElem_mem (show i - 1 < a.length by omega))).k
        cases hs : sLt (a[i - 1]'(by omega)).Key a[i].Key with
        | false => exact .inr ⟨.inl false, by simp only [f58_s1, if_pos (show (i : Int) < a.length by omega), if_pos (show (0 : Int) < i by omega), w, ixN (show i - 1 < a.length by omega), ixN hlt, Option.bind_some, hl, hs]; rfl, .inl rfl⟩
        | true =>
          by_cases p1 : (a[i].Parts.length : Int) = 0
          · exact .inr ⟨.inl false, by simp only [f58_s1, if_pos (show (i : Int) < a.length by omega), if_pos (show (0 : Int) < i by omega), w, ixN (show i - 1 < a.length by omega), ixN hlt, Option.bind_some, hl, hs, if_true, if_pos p1], .inl rfl⟩
          by_cases p2 : (a[i].Offs.length : Int) = 0
          · exact .inr ⟨.inl false, by simp only [f58_s1, if_pos (show (i : Int) < a.length by omega), if_pos (show (0 : Int) < i by omega), w, ixN (show i - 1 < a.length by omega), ixN hlt, Option.bind_some, hl, hs, if_true, if_neg p1, if_pos p2], .inl rfl⟩
          cases v with
          | false => exact .inr ⟨.inl false, by simp only [f58_s1, if_pos (show (i : Int) < a.length by omega), if_pos (show (0 : Int) < i by omega), w, ixN (show i - 1 < a.length by omega), ixN hlt, Option.bind_some, hl, hs, if_true, if_neg p1, if_neg p2, hv]; rfl, .inl rfl⟩
          | true =>
            have e : f58_s1 a (i : Int) = f58_j2 a (i : Int) () := by simp only [f58_s1, if_pos (show (i : Int) < a.length by omega), if_pos (show (0 : Int) < i by omega), w, ixN (show i - 1 < a.length by omega), ixN hlt, Option.bind_some, hl, hs, if_true, if_neg p1, if_neg p2, hv]
            rcases hj with hj | hj
            · exact .inr ⟨.inl false, by rw [e, hj], .inl rfl⟩
            · refine .inl ⟨((i + 1 : Nat) : Int), n - 1, by rw [e, hj], by omega, i + 1, rfl, by omega, by omega, fun j h hji => ?_⟩
              by_cases hje : j + 1 = i
              · subst hje; exact hs
              · exact hu j h (by omega)
      · have h0' : ¬ (0 : Int) < i := by omega
        by_cases p1 : (a[i].Parts.length : Int) = 0
        · exact .inr ⟨.inl false, by simp only [f58_s1, if_pos (show (i : Int) < a.length by omega), if_neg h0', ixN hlt, Option.bind_some, if_pos p1], .inl rfl⟩
        by_cases p2 : (a[i].Offs.length : Int) = 0
        · exact .inr ⟨.inl false, by simp only [f58_s1, if_pos (show (i : Int) < a.length by omega), if_neg h0', ixN hlt, Option.bind_some, if_neg p1, if_pos p2], .inl rfl⟩
        cases v with
        | false => exact .inr ⟨.inl false, by simp only [f58_s1, if_pos (show (i : Int) < a.length by omega), if_neg h0', ixN hlt, Option.bind_some, if_neg p1, if_neg p2, hv]; rfl, .inl rfl⟩
        | true =>
          have e : f58_s1 a (i : Int) = f58_j2 a (i : Int) () := by simp only [f58_s1, if_pos (show (i : Int) < a.length by omega), if_neg h0', ixN hlt, Option.bind_some, if_neg p1, if_neg p2, hv, if_true]
          rcases hj with hj | hj
          · exact .inr ⟨.inl false, by rw [e, hj], .inl rfl⟩
          · exact .inl ⟨((i + 1 : Nat) : Int), n - 1, by rw [e, hj], by omega, i + 1, rfl, by omega, by omega, fun j h hji => by omega⟩
    · have : i = a.length := by omega
      subst this
      exact .inr ⟨.inr (), by simp only [f58_s1, if_neg (show ¬ ((a.length : Nat) : Int) < a.length by omega)], .inr ⟨rfl, hu⟩⟩
  obtain ⟨r, hr, rfl | ⟨rfl, h⟩⟩ := key
  · exact ⟨false, by rw [f58, hr]; rfl, fun h => by cases h⟩
  · exact ⟨true, by rw [f58, hr]; rfl, fun _ => h⟩
theorem up_lt {a : List Item} (h : Up a a.length) : ∀ (d j : Nat) (hj : j + d + 1 < a.length), sLt (a[j]'(by omega)).Key a[j + d + 1].Key = true
  | 0, j, hj => h j hj (by omega)
  | d + 1, j, hj => sLt_trans (up_lt h d j (by omega)) (h (j + d + 1) (by omega) (by omega))
theorem Tl_self {a : List Item} (h : Up a a.length) : Tl a a = [] := by
  unfold Tl
  rw [List.map_eq_nil_iff, List.filter_eq_nil_iff]
  intro x hx
  obtain ⟨i, hi, rfl⟩ := List.mem_iff_getElem.1 hx
  have hf : a.find? (fun y => decide (y.Key = a[i].Key)) = some a[i] := by
    rw [List.find?_eq_some_iff_getElem]
    refine ⟨by simp, i, hi, rfl, fun j hj => ?_⟩
    have hlt := up_lt h (i - j - 1) j (by omega)
    have e : j + (i - j - 1) + 1 = i := by omega
    simp only [e] at hlt
    simp only [Bool.not_eq_eq_eq_not, Bool.not_true, decide_eq_false_iff_not]
    intro q
    rw [q, sLt_irr] at hlt; cases hlt
  unfold miss
  rw [hf]
  simp [sm_t (show Sm a[i] a[i] from ⟨rfl, rfl, rfl⟩)]
theorem live_ok : f14 = some true := by
  let a : Res := ⟨⟨#[97]⟩, ⟨#[49]⟩, []⟩
  let b : Res := ⟨⟨#[98]⟩, ⟨#[50]⟩, []⟩
  have h1 : f64 [a] = some true := by
    have h : iterO (f64_s1 [a]) 3 0 = some (.inr ()) := by kernel_rfl
    rw [f64, loopO_iff.2 ⟨3, h⟩]; rfl
  have h2 : f64 [b] = some true := by
    have h : iterO (f64_s1 [b]) 3 0 = some (.inr ()) := by kernel_rfl
    rw [f64, loopO_iff.2 ⟨3, h⟩]; rfl
  have h3 : f15 [a] [b] = some [⟨0, a⟩, ⟨1, b⟩] := by
    have h : iterO f15_s1 4 ([a], [b], []) = some [⟨0, a⟩, ⟨1, b⟩] := by kernel_rfl
    simp only [f15, h1, h2, Option.bind_some, if_true, loopO_iff.2 ⟨4, h⟩]
  rw [f14]
  simp only [a, b] at h3
  rw [h3]
  rfl
theorem law11 {a b c : List Item} (ha : SzL a) (hb : SzL b) (hc : SzL c) : f11 a b c = some true := by
  obtain ⟨v1, e1⟩ := much_tot ha
  obtain ⟨v2, e2⟩ := much_tot hb
  obtain ⟨v3, e3⟩ := much_tot hc
  have q1 : ∀ l ∈ [a], SzL l := by simpa using ha
  have q2 : ∀ l ∈ [b, c], SzL l := by simpa using ⟨hb, hc⟩
  have s1 := prog_ok q1 q2 (by simp) (by simp)
  have s2 := ref_ok q1 q2 (by simp) (by simp)
  have s3 := prog_ok q2 q1 (by simp) (by simp)
  have s4 := ref_ok q2 q1 (by simp) (by simp)
  have s5 := prog_ok q1 q1 (by simp) (by simp)
  have l1 : (FF (TT [a] [b, c] [b, c].length)).length ≤ 1000000000 := Nat.le_trans (FF_len _) (Nat.le_trans (TT_len q2 _) (by simp))
  have l2 : (FF (TT [b, c] [a] [a].length)).length ≤ 1000000000 := Nat.le_trans (FF_len _) (Nat.le_trans (TT_len q1 _) (by simp))
  obtain ⟨v4, e4, e5⟩ := right_ok ha
  change f56 [a] [b, c] = some (FF _) at s1
  change f56 [b, c] [a] = some (FF _) at s3
  change f56 [a] [a] = some (FF _) at s5
  cases v1 with
  | true => simp only [f11, e1, live_ok, Option.bind_some, if_true]
  | false =>
    cases v2 with
    | true => simp only [f11, e1, e2, live_ok, Option.bind_some, if_true, Bool.false_eq_true, if_false]
    | false =>
      cases v3 with
      | true => simp only [f11, e1, e2, e3, live_ok, Option.bind_some, if_true, Bool.false_eq_true, if_false]
      | false =>
        cases v4 with
        | false => simp only [f11, e1, e2, e3, e4, s1, s2, s3, s4, strs_refl l1, strs_refl l2, live_ok, Option.bind_some, if_true, Bool.false_eq_true, if_false]
        | true =>
          have ht : FF (TT [a] [a] [a].length) = [] := by
            have : TT [a] [a] [a].length = [] := by
              show TT [a] [a] (0 + 1) = []
              rw [TT_succ]
              simp [TT, Tl_self (e5 rfl)]
            rw [this]; rfl
          rw [ht] at s5
          simp only [f11, e1, e2, e3, e4, s1, s2, s3, s4, s5, strs_refl l1, strs_refl l2, live_ok, Option.bind_some, if_true, Bool.false_eq_true, if_false, List.length_nil]
          rfl
end Au
end Go.Proofs.Y1
