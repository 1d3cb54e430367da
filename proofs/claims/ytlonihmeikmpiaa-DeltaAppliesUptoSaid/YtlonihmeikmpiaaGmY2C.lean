/- What the reference's Apply comes to: the same lists and errors as the program's. -/
import Derived.Test.YtlonihmeikmpiaaGmY2B
set_option linter.all false
set_option linter.unusedVariables false
set_option linter.unusedSimpArgs false
set_option linter.all false
namespace Go.Proofs.Y1
open Go.Gm
theorem wrap_succ {n : Nat} (h : n < 4611686018427387904) : IntKind.i64.wrap ((n : Int) + 1) = ((n + 1 : Nat) : Int) := by rw [wrap_id] <;> omega
theorem wrap_pred {n : Nat} (h : n < 4611686018427387904) : IntKind.i64.wrap (((n + 1 : Nat) : Int) - 1) = (n : Int) := by rw [wrap_id] <;> omega
theorem get_of {α : Type} {l : List α} {n : Nat} (h : n < l.length) : ∃ x, l[n]? = some x := ⟨l[n], by simp [h]⟩

def gR (o : Option Res) : Res × Bool := match o with
  | some r => (r, true)
  | none => (⟨⟨#[]⟩, ⟨#[]⟩, []⟩, false)
theorem f68_eq {l : List Res} {s : ByteArray} (hl : l.length ≤ 34359738368) : f68 l s = some (gR (getR l s)) := by
  unfold f68
  obtain ⟨r, hr, hQ⟩ := loopO_of (step := f68_s1 l s) (fun k i => ∃ n : Nat, i = n ∧ n + k = l.length ∧ ∀ j r, j < n → l[j]? = some r → r.key ≠ s) (Q := fun r => (match r with | .inl y => y | .inr _ => (⟨⟨#[]⟩, ⟨#[]⟩, []⟩, false)) = gR (getR l s)) (by
    rintro k _ ⟨n, rfl, hk, hp⟩
    rw [f68_s1]
    by_cases hn : n < l.length
    · obtain ⟨x, hx⟩ := get_of hn
      rw [if_pos (by omega), ix_nat, hx]
      simp only [Option.bind_some]
      by_cases hs : x.key = s
      · rw [if_pos hs]
        exact .inr ⟨_, rfl, by simp only [get_at hp hx hs, gR]⟩
      · rw [if_neg hs, wrap_succ (by omega)]
        refine .inl ⟨_, k - 1, rfl, by omega, n + 1, rfl, by omega, fun j r hj hr => ?_⟩
        by_cases e : j = n
        · subst e; rw [hx] at hr; cases hr; exact hs
        · exact hp j r (by omega) hr
    · rw [if_neg (by omega)]
      refine .inr ⟨_, rfl, ?_⟩
      have : getR l s = none := get_none fun j r hr => hp j r (by have := (List.getElem?_eq_some_iff.1 hr).1; omega) hr
      simp only [this, gR])
    (k := l.length) (s := 0) ⟨0, rfl, by omega, by omega⟩
  rw [hr]
  simp only [Option.bind_some]
  cases r <;> simp_all

def KeyC (l : List Change) : Prop := ∀ c ∈ l, c.res.key.size ≤ 1000000
theorem x70_eq {a b : ByteArray} (h : a.size ≤ 1000000) : x70 a b = some (sLt a b) := by rw [x70, if_pos (by omega)]

open Classical in
theorem ord_eq {l : List Change} (hl : l.length ≤ 34359738368) (hk : KeyC l) : loopO (f22_s1 l) 0 = some (if OrdC l then .inr () else .inl ([], 3)) := by
  obtain ⟨r, hr, hQ⟩ := loopO_of (step := f22_s1 l) (fun k i => ∃ n : Nat, i = n ∧ n + k = l.length ∧ (∀ j c, j < n → l[j]? = some c → 0 ≤ c.kind ∧ c.kind ≤ 3) ∧ ∀ j a b, j + 1 < n → l[j]? = some a → l[j + 1]? = some b → sLt a.res.key b.res.key = true) (Q := fun r => r = if OrdC l then .inr () else .inl ([], 3)) (by
    rintro k _ ⟨n, rfl, hk', h1, h2⟩
    rw [f22_s1]
    by_cases hn : n < l.length
    · obtain ⟨x, hx⟩ := get_of hn
      have hmem := List.mem_of_getElem? hx
      rw [if_pos (by omega), ix_nat, hx]
      simp only [Option.bind_some]
      by_cases k0 : x.kind < 0
      · rw [if_pos k0]
        refine .inr ⟨_, rfl, ?_⟩
        rw [if_neg]; intro h; have := h.1 x hmem; omega
      · rw [if_neg k0]
        by_cases k3 : 3 < x.kind
        · rw [if_pos k3]
          refine .inr ⟨_, rfl, ?_⟩
          rw [if_neg]; intro h; have := h.1 x hmem; omega
        · rw [if_neg k3]
          have hkind : ∀ j c, j < n + 1 → l[j]? = some c → 0 ≤ c.kind ∧ c.kind ≤ 3 := fun j c hj hc => by
            by_cases e : j = n
            · subst e; rw [hx] at hc; cases hc; omega
            · exact h1 j c (by omega) hc
          rcases n with _ | m
          · rw [if_neg (by simp)]
            rw [wrap_succ (by omega)]
            exact .inl ⟨_, k - 1, rfl, by omega, 1, rfl, by omega, hkind, fun j a b hj => by omega⟩
          · rw [if_pos (by omega), wrap_pred (by omega), ix_nat]
            obtain ⟨y, hy⟩ := get_of (show m < l.length by omega)
            rw [hy]
            simp only [Option.bind_some]
            rw [x70_eq (hk y (List.mem_of_getElem? hy))]
            simp only [Option.bind_some]
            by_cases hlt : sLt y.res.key x.res.key = true
            · rw [if_pos hlt, wrap_succ (by omega)]
              refine .inl ⟨_, k - 1, rfl, by omega, m + 1 + 1, rfl, by omega, hkind, fun j a b hj ha hb => ?_⟩
              by_cases e : j = m
              · subst e; rw [hy] at ha; rw [hx] at hb; cases ha; cases hb; exact hlt
              · exact h2 j a b (by omega) ha hb
            · rw [if_neg hlt]
              refine .inr ⟨_, rfl, ?_⟩
              rw [if_neg]; intro h; exact hlt (h.2 m y x hy hx)
    · rw [if_neg (by omega)]
      refine .inr ⟨_, rfl, ?_⟩
      rw [if_pos]
      refine ⟨fun c hc => ?_, fun j a b ha hb => h2 j a b (by have := (List.getElem?_eq_some_iff.1 hb).1; omega) ha hb⟩
      obtain ⟨j, hj⟩ := List.getElem?_of_mem hc
      exact h1 j c (by have := (List.getElem?_eq_some_iff.1 hj).1; omega) hj)
    (k := l.length) (s := 0) ⟨0, rfl, by omega, fun j c hj => by omega, fun j a b hj => by omega⟩
  rw [hr, hQ]

/-- One change put into a list, as the reference does it. -/
def insS (c : Change) : Bool × List Res → List Res → Bool × List Res
  | s, [] => s
  | (d, n), x :: m => insS c (d || !sLt x.key c.res.key, (if d = false ∧ sLt x.key c.res.key = false then n ++ [c.res] else n) ++ (if x.key = c.res.key then [] else [x])) m
theorem s8_eq : f22_s8 = f22_s7 := by
  funext cur c s
  obtain ⟨d, i, n⟩ := s
  rfl
theorem ins_eq {cur : List Res} {c : Change} (d : Bool) (hcur : 2 * cur.length + 2 ≤ 34359738368) (hk : KeyS cur) : loopO (f22_s7 cur c) (d, 0, []) = some (insS c (d, []) cur) := by
  obtain ⟨r, hr, hQ⟩ := loopO_of (step := f22_s7 cur c) (fun k s => ∃ n : Nat, s.2.1 = n ∧ n + k = cur.length ∧ s.2.2.length ≤ 2 * n ∧ insS c (s.1, s.2.2) (cur.drop n) = insS c (d, []) cur) (Q := fun r => r = insS c (d, []) cur) (by
    rintro k ⟨d', _, nxt⟩ ⟨n, rfl, hkk, hlen, hin⟩
    simp only at hlen hin
    rw [f22_s7]
    by_cases hn : n < cur.length
    · obtain ⟨x, hx⟩ := get_of hn
      have hdr : cur.drop n = x :: cur.drop (n + 1) := by
        rw [List.drop_eq_getElem_cons hn]; congr 1; rw [List.getElem?_eq_getElem hn] at hx; exact Option.some.inj hx
      rw [hdr, insS] at hin
      have a1 : ∀ (l : List Res) (y : Res), l.length ≤ 2 * n + 1 → appO? l [y] = some (l ++ [y]) := fun l y h => appO?_ok (by simp only [List.length_cons, List.length_nil]; omega)
      rw [if_pos (by omega)]
      simp only [ix_nat, hx, Option.bind_some, wrap_succ (show n < 4611686018427387904 by omega)]
      have hk70 : x70 x.key c.res.key = some (sLt x.key c.res.key) := x70_eq (hk x (List.mem_of_getElem? hx))
      cases d' with
      | true =>
        rw [if_pos rfl]
        simp only [Bool.true_or, Bool.true_eq_false, false_and, if_false] at hin
        by_cases he : x.key = c.res.key
        · rw [if_pos he]
          rw [if_pos he] at hin
          exact .inl ⟨_, k - 1, rfl, by omega, n + 1, rfl, by omega, by simp; omega, by simpa using hin⟩
        · rw [if_neg he] at hin
          rw [if_neg he, a1 _ _ (by omega)]
          exact .inl ⟨_, k - 1, rfl, by omega, n + 1, rfl, by omega, by simp; omega, hin⟩
      | false =>
        rw [if_neg (by simp), hk70]
        simp only [Option.bind_some]
        by_cases hlt : sLt x.key c.res.key = true
        · rw [if_pos hlt]
          simp only [hlt, Bool.not_true, Bool.or_false, Bool.true_eq_false, and_false, if_false] at hin
          by_cases he : x.key = c.res.key
          · rw [if_pos he]
            rw [if_pos he] at hin
            exact .inl ⟨_, k - 1, rfl, by omega, n + 1, rfl, by omega, by simp; omega, by simpa using hin⟩
          · rw [if_neg he] at hin
            rw [if_neg he, a1 _ _ (by omega)]
            exact .inl ⟨_, k - 1, rfl, by omega, n + 1, rfl, by omega, by simp; omega, hin⟩
        · rw [if_neg hlt, a1 _ _ (by omega)]
          rw [Bool.not_eq_true] at hlt
          simp only [hlt, Bool.not_false, Bool.or_true, and_self, if_true] at hin
          simp only [Option.bind_some]
          by_cases he : x.key = c.res.key
          · rw [if_pos he]
            rw [if_pos he] at hin
            exact .inl ⟨_, k - 1, rfl, by omega, n + 1, rfl, by omega, by simp; omega, by simpa using hin⟩
          · rw [if_neg he] at hin
            rw [if_neg he, a1 _ _ (by simp; omega)]
            exact .inl ⟨_, k - 1, rfl, by omega, n + 1, rfl, by omega, by simp; omega, hin⟩
    · rw [if_neg (by omega)]
      rw [List.drop_of_length_le (by omega), insS] at hin
      exact .inr ⟨_, rfl, hin⟩)
    (k := cur.length) (s := (d, 0, [])) ⟨0, rfl, by simp, by simp, by simp⟩
  rw [hr, hQ]
theorem ins_low (c : Change) : ∀ (u : List Res) (d : Bool) (n v : List Res), (∀ r ∈ u, sLt r.key c.res.key = true) → insS c (d, n) (u ++ v) = insS c (d, n ++ u) v
  | [], d, n, v, _ => by simp
  | x :: u, d, n, v, h => by
    have hx := h x (by simp)
    have hne : x.key ≠ c.res.key := ne_lt hx
    rw [List.cons_append, insS]
    simp only [hx, Bool.not_true, Bool.or_false, Bool.true_eq_false, and_false, if_false, hne]
    rw [ins_low c u d _ v (fun r hr => h r (by simp [hr]))]
    simp
theorem ins_done (c : Change) : ∀ (v n : List Res), (∀ r ∈ v, sLt c.res.key r.key = true) → insS c (true, n) v = (true, n ++ v)
  | [], n, _ => by simp [insS]
  | x :: v, n, h => by
    have hne : x.key ≠ c.res.key := ne_gt (h x (by simp))
    rw [insS]
    simp only [Bool.true_or, Bool.true_eq_false, false_and, if_false, hne]
    rw [ins_done c v _ (fun r hr => h r (by simp [hr]))]
    simp
/-- The list behind a change. -/
theorem ins_all {c : Change} {u v : List Res} (d : Bool) (hu : ∀ r ∈ u, sLt r.key c.res.key = true) (hv : Right v) (hh : Stop v c.res.key) :
    (if (insS c (d, []) (u ++ v)).1 = true then (insS c (d, []) (u ++ v)).2 else (insS c (d, []) (u ++ v)).2 ++ [c.res]) = u ++ (if d = true then [] else [c.res]) ++ (if has v c.res.key = true then v.tail else v) := by
  rw [ins_low c u d [] v hu]
  simp only [List.nil_append]
  cases v with
  | nil => cases d <;> simp [insS, has]
  | cons x m =>
    have hx := hh x m rfl
    have hm : ∀ r ∈ m, sLt c.res.key r.key = true := fun r hr => by
      have h1 := right_head hv r hr
      rcases sLt_tri c.res.key x.key with h2 | h2 | h2
      · exact sLt_trans h2 h1
      · rw [h2]; exact h1
      · rw [hx] at h2; cases h2
    rw [insS]
    simp only [hx, Bool.not_false, Bool.or_true]
    rw [ins_done c m _ hm]
    by_cases he : x.key = c.res.key <;> cases d <;> simp [he, has]
end Go.Proofs.Y1
