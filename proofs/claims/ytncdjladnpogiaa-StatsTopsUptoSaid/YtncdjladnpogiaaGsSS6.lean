import Derived.Test.YtncdjladnpogiaaGsSS5
import Derived.Test.YtncdjladnpogiaaGsDSf3
import Derived.KernelRfl
set_option linter.all false
set_option linter.unusedVariables false
set_option linter.unusedSimpArgs false
set_option linter.all false
set_option maxRecDepth 8000
set_option maxHeartbeats 1000000
namespace Go.Proofs.Y2
open Go.Gm
namespace Au
def ltS (x y : Res) : Bool := decide (y.Offs.length < x.Offs.length)
theorem swoS : SWO ltS := ⟨fun {x y} h => by simp only [ltS, decide_eq_true_eq, decide_eq_false_iff_not] at *; omega, fun {x z} y h => by simp only [ltS, decide_eq_true_eq] at *; omega⟩
theorem sorts_map {l : List Res} {r : List Ranked} (h : Sorts ltR (l.map Ranked.mk) r) : Sorts ltS l (r.map (·.r)) := by
  refine ⟨?_, fun k => ?_, by rw [List.length_map, h.len, List.length_map]⟩
  · exact List.pairwise_map.2 (h.srt.imp fun {x y} hxy => hxy)
  · have := congrArg (List.map (·.r)) (h.sf ⟨k⟩)
    rw [List.filter_map] at this
    rw [List.filter_map]
    simp only [List.map_map] at this
    have e1 : (fun x : Ranked => eqv ltR ⟨k⟩ x) = (eqv ltS k ∘ fun x => x.r) := rfl
    have e2 : (eqv ltR ⟨k⟩ ∘ Ranked.mk) = eqv ltS k := rfl
    rw [e2] at this
    have e3 : ((fun x : Ranked => x.r) ∘ Ranked.mk) = id := rfl
    rw [e3, List.map_id] at this
    exact this
theorem minI_eq (a : Int) (n : Nat) : minI (maxI a 0) (n : Int) = ((min a.toNat n : Nat) : Int) := by
  unfold minI maxI
  split <;> split <;> omega
theorem clone_eq {l : List Int} (h : l.length ≤ 1000000) : f22 l = some l := by
  unfold f22
  rw [appO_ok' (by simp) (by omega)]
  rfl
theorem top1 {a0 : List Res} {a1 : Int} (hl : a0.length ≤ 1000) (ho : ∀ q ∈ a0, q.Offs.length ≤ 1000000) : ∃ rr, f8 a0 a1 = some (rr.take (min a1.toNat a0.length)) ∧ Sorts ltS a0 rr := by
  obtain ⟨r, h1, h2⟩ := stable_eq (a0.map Ranked.mk) (by simp; omega)
  have hlen := h2.len
  rw [List.length_map] at hlen
  have k := loopN_done (step := f8_s2 a0) (fun i => ((a0.take i).map Ranked.mk, (i : Int))) a0.length (r := a0.map Ranked.mk) (fun i hi => by
    simp only [f8_s2, if_pos (show (i : Int) < a0.length by omega), ixN hi, Option.bind_some, wrapN (show i ≤ 10000000000 by omega)]
    rw [appO_ok' (by simp; omega) (by simp), List.take_succ_eq_append_getElem hi, List.map_append]
    rfl) (by simp [f8_s2])
  simp only [List.take_zero, List.map_nil] at k
  have hr : ∀ x ∈ r, x.r.Offs.length ≤ 1000000 := fun x hx => by
    obtain ⟨q, hq, rfl⟩ := List.mem_map.1 (h2.sf.mem swoR hx)
    exact ho q hq
  generalize hK : min a1.toNat a0.length = K
  have hKl : K ≤ r.length := by omega
  have k2 := loopN_done (step := f8_s3 (r.take K)) (fun i => (((r.take K).take i).map (·.r), (i : Int))) (r.take K).length (r := (r.take K).map (·.r)) (fun i hi => by
    have hx := hr _ (List.mem_of_mem_take (List.getElem_mem hi))
    have hi' : i ≤ 1000 := by rw [List.length_take] at hi; omega
    simp only [f8_s3, if_pos (show (i : Int) < (r.take K).length by omega), ixN hi, Option.bind_some, clone_eq hx, wrapN (show i ≤ 10000000000 by omega)]
    rw [appO_ok' (by rw [List.length_map, List.length_take]; omega) (by simp), List.take_succ_eq_append_getElem hi, List.map_append]
    rfl) (by simp only [f8_s3, if_neg (show ¬ (((r.take K).length : Nat) : Int) < ((r.take K).length : Int) by omega), List.take_length])
  simp only [List.take_zero, List.map_nil] at k2
  refine ⟨r.map (·.r), ?_, sorts_map h2⟩
  unfold f8
  rw [show (0 : Int) = ((0 : Nat) : Int) from rfl, k, Option.bind_some, h1, Option.bind_some, guardO_ok (by rw [List.length_map]; exact hlen), Option.bind_some]
  have hc : cutO? r ((0 : Nat) : Int) (minI (maxI a1 ((0 : Nat) : Int)) (r.length : Int)) = some (r.take K) := by
    rw [show ((0 : Nat) : Int) = 0 from rfl, minI_eq, hlen, hK]
    exact cutO?_some.2 ⟨⟨by omega, by omega, by omega⟩, by simp⟩
  rw [hc, Option.bind_some, k2, Option.bind_some, List.map_take]
/-! ### selection -/
def rem : List Res → List Bool → List Res
  | x :: l, u :: us => if u = true then rem l us else x :: rem l us
  | _, _ => []
theorem rem_app : ∀ {l : List Res} {u : List Bool} (m : List Res) (v : List Bool), l.length = u.length → rem (l ++ m) (u ++ v) = rem l u ++ rem m v
  | [], [], _, _, _ => rfl
  | x :: l, [], _, _, h => by simp at h
  | [], b :: u, _, _, h => by simp at h
  | x :: l, b :: u, m, v, h => by
    have ih := rem_app (l := l) (u := u) m v (by simpa using h)
    simp only [List.cons_append, rem, ih]
    split <;> rfl
theorem rem_one (x : Res) (b : Bool) : rem [x] [b] = if b = true then [] else [x] := by cases b <;> rfl
theorem rem_all : ∀ (l : List Res), rem l (List.replicate l.length false) = l
  | [] => rfl
  | x :: l => by simp only [List.length_cons, List.replicate_succ, rem]; rw [rem_all l]; rfl
theorem pick_first {U V : List Res} {x h : Res} {R : List Res} (hs : Sorts ltS (U ++ x :: V) (h :: R)) (hu : ∀ z ∈ U, ltS x z = true) (hv : ∀ z ∈ V, ltS z x = false) : h = x ∧ Sorts ltS (U ++ V) R := by
  obtain ⟨p1, p2⟩ := List.pairwise_cons.1 hs.srt
  have hx : x ∈ h :: R := hs.sf.symm.mem swoS (by simp)
  have hh : h ∈ U ++ x :: V := hs.sf.mem swoS (by simp)
  have xh : ltS x h = false := by
    rcases List.mem_cons.1 hx with e | e
    · rw [e]; exact swoS.irr h
    · exact p1 x e
  have hx2 : ltS h x = false := by
    rcases List.mem_append.1 hh with e | e
    · rw [hu h e] at xh; cases xh
    · rcases List.mem_cons.1 e with rfl | e
      · exact swoS.irr _
      · exact hv h e
  have uf : ∀ k, eqv ltS k x = true → U.filter (eqv ltS k) = [] := fun k hk => by
    simp only [eqv, Bool.and_eq_true, Bool.not_eq_true'] at hk
    apply List.filter_eq_nil_iff.2
    intro z hz
    have : ltS k z = true := swoS.le_lt hk.2 (hu z hz)
    simp [eqv, this]
  have e1 : eqv ltS x x = true := swoS.eqv_self x
  have e2 : eqv ltS x h = true := by simp [eqv, xh, hx2]
  have k0 := hs.sf x
  rw [List.filter_append, uf x e1, List.nil_append, List.filter_cons_of_pos e1, List.filter_cons_of_pos e2] at k0
  obtain ⟨rfl, _⟩ := List.cons.inj k0
  refine ⟨rfl, p2, fun k => ?_, by have := hs.len; simp at this ⊢; omega⟩
  have hk := hs.sf k
  rw [List.filter_append] at hk ⊢
  by_cases c : eqv ltS k h = true
  · rw [uf k c, List.nil_append, List.filter_cons_of_pos c, List.filter_cons_of_pos c] at hk
    rw [uf k c, List.nil_append]
    exact (List.cons.inj hk).2
  · rw [List.filter_cons_of_neg c, List.filter_cons_of_neg c] at hk
    exact hk
/-- The best of those not taken, so far. -/
def Best (L : List Res) (u : List Bool) (best : Int) : Prop := (best = -1 ∧ rem L u = []) ∨ ∃ U x V u1 u2, L = U ++ x :: V ∧ u = u1 ++ false :: u2 ∧ U.length = u1.length ∧ best = (U.length : Int) ∧ (∀ z ∈ rem U u1, ltS x z = true) ∧ (∀ z ∈ rem V u2, ltS z x = false)
theorem scan : ∀ (n : Nat) (L R : List Res) (u v : List Bool) (best : Int), R.length = n → L.length = u.length → R.length = v.length → L.length + R.length ≤ 1000 → Best L u best → ∃ y, loopO (f9_s7 (L ++ R) (u ++ v)) ((L.length : Int), best) = some y ∧ Best (L ++ R) (u ++ v) y
  | 0, L, R, u, v, best, hn, hu, hv, hl, hb => by
    obtain rfl := List.eq_nil_of_length_eq_zero hn
    obtain rfl : v = [] := List.eq_nil_of_length_eq_zero (by rw [← hv, hn])
    refine ⟨best, loopO_done ?_, by simpa using hb⟩
    simp [f9_s7]
  | n + 1, L, [], u, v, best, hn, hu, hv, hl, hb => by simp at hn
  | n + 1, L, y :: R, u, [], best, hn, hu, hv, hl, hb => by simp at hv
  | n + 1, L, y :: R, u, b :: v, best, hn, hu, hv, hl, hb => by
    simp only [List.length_cons] at hl hn hv
    have hix : ix (u ++ b :: v) (L.length : Int) = some b := ix_mid (by rw [hu])
    have hiy : ix (L ++ y :: R) (L.length : Int) = some y := ix_mid rfl
    have hlt : (L.length : Int) < ((L ++ y :: R).length : Int) := by simp; omega
    have hw : IntKind.i64.wrap ((L.length : Int) + 1) = (((L ++ [y]).length : Nat) : Int) := by rw [wrapN (by omega)]; simp
    have e1 : L ++ y :: R = (L ++ [y]) ++ R := by simp
    have e2 : u ++ b :: v = (u ++ [b]) ++ v := by simp
    have go : ∀ best', Best (L ++ [y]) (u ++ [b]) best' → f9_s7 (L ++ y :: R) (u ++ b :: v) ((L.length : Int), best) = some (.inl ((((L ++ [y]).length : Nat) : Int), best')) → ∃ z, loopO (f9_s7 (L ++ y :: R) (u ++ b :: v)) ((L.length : Int), best) = some z ∧ Best (L ++ y :: R) (u ++ b :: v) z := fun best' h1 h2 => by
      rw [loopO_next h2, e1, e2]
      exact scan n (L ++ [y]) R (u ++ [b]) v best' (by omega) (by simp [hu]) (by omega) (by simp; omega) h1
    cases b with
    | true =>
      refine go best ?_ ?_
      · rcases hb with ⟨h1, h2⟩ | ⟨U, x, V, u1, u2, rfl, rfl, h3, h4, h5, h6⟩
        · exact .inl ⟨h1, by rw [rem_app _ _ hu, h2]; rfl⟩
        · have hVu : V.length = u2.length := by simp at hu; omega
          refine .inr ⟨U, x, V ++ [y], u1, u2 ++ [true], by simp, by simp, h3, h4, h5, ?_⟩
          rw [rem_app _ _ hVu]
          intro z hz
          rcases List.mem_append.1 hz with h | h
          · exact h6 z h
          · cases h
      · simp only [f9_s7, if_pos hlt, hix, Option.bind_some, if_true, hw]
    | false =>
      rcases hb with ⟨rfl, h2⟩ | ⟨U, x, V, u1, u2, rfl, rfl, h3, rfl, h5, h6⟩
      · refine go (L.length : Int) (.inr ⟨L, y, [], u, [], rfl, rfl, hu, rfl, by rw [h2]; simp, by simp [rem]⟩) ?_
        simp only [f9_s7, if_pos hlt, hix, Option.bind_some, Bool.false_eq_true, if_false, hw, if_pos (show (-1 : Int) < 0 by decide)]
      · have hVu : V.length = u2.length := by simp at hu; omega
        have hib : ix ((U ++ x :: V) ++ y :: R) (U.length : Int) = some x := by
          rw [show (U ++ x :: V) ++ y :: R = U ++ x :: (V ++ y :: R) by simp]; exact ix_mid rfl
        by_cases hc : ltS y x = true
        · have hc' : (x.Offs.length : Int) < (y.Offs.length : Int) := by simp only [ltS, decide_eq_true_eq] at hc; omega
          refine go ((U ++ x :: V).length : Int) (.inr ⟨U ++ x :: V, y, [], u1 ++ false :: u2, [], rfl, rfl, hu, rfl, ?_, by simp [rem]⟩) ?_
          · rw [show rem (U ++ x :: V) (u1 ++ false :: u2) = rem U u1 ++ x :: rem V u2 by rw [rem_app _ _ h3]; rfl]
            intro z hz
            rcases List.mem_append.1 hz with h | h
            · have h7 := h5 z h
              rcases swoS.cotr z hc with q | q
              · exact q
              · rw [swoS.asym h7] at q; cases q
            · rcases List.mem_cons.1 h with rfl | h
              · exact hc
              · exact swoS.lt_le hc (h6 z h)
          · simp only [f9_s7, if_pos hlt, hix, Option.bind_some, Bool.false_eq_true, if_false, hw, if_neg (show ¬ ((U.length : Nat) : Int) < 0 by omega), hiy, hib, if_pos hc']
        · have hc' : ¬ (x.Offs.length : Int) < (y.Offs.length : Int) := by simp only [ltS, decide_eq_true_eq] at hc; omega
          refine go (U.length : Int) (.inr ⟨U, x, V ++ [y], u1, u2 ++ [false], by simp, by simp, h3, rfl, h5, ?_⟩) ?_
          · rw [rem_app _ _ hVu]
            intro z hz
            rcases List.mem_append.1 hz with h | h
            · exact h6 z h
            · simp [rem] at h; subst h; simpa using hc
          · simp only [f9_s7, if_pos hlt, hix, Option.bind_some, Bool.false_eq_true, if_false, hw, if_neg (show ¬ ((U.length : Nat) : Int) < 0 by omega), hiy, hib, if_neg hc']
theorem top2 {a0 rr : List Res} {a1 : Int} (hl : a0.length ≤ 1000) (hs : Sorts ltS a0 rr) : f9 a0 a1 = some (rr.take (min a1.toNat a0.length)) := by
  have key : ∀ (k : Nat) (used : List Bool) (out R : List Res), used.length = a0.length → Sorts ltS (rem a0 used) R → out ++ R = rr → min a1.toNat a0.length - out.length = k → out.length ≤ min a1.toNat a0.length → loopO (f9_s1 a0 a1) (used, out) = some (rr.take (min a1.toNat a0.length)) := by
    intro k
    induction k with
    | zero =>
      intro used out R hu hR he hk ho
      have : out.length = min a1.toNat a0.length := by omega
      refine loopO_done ?_
      have e : rr.take (min a1.toNat a0.length) = out := by rw [← he, ← this, List.take_left]
      rw [e]
      simp only [f9_s1]
      by_cases h1 : ((out.length : Nat) : Int) < a1
      · rw [if_pos h1, if_neg (by omega)]
      · rw [if_neg h1]
    | succ k ih =>
      intro used out R hu hR he hk ho
      have h1 : ((out.length : Nat) : Int) < a1 := by omega
      have h2 : ((out.length : Nat) : Int) < (a0.length : Int) := by omega
      obtain ⟨y, y1, y2⟩ := scan a0.length [] a0 [] used (-1) rfl rfl hu.symm (by simp; omega) (.inl ⟨rfl, rfl⟩)
      simp only [List.nil_append, List.length_nil] at y1 y2
      have hRl : 0 < R.length := by
        have := hs.len
        rw [← he, List.length_append] at this
        omega
      rcases y2 with ⟨_, h3⟩ | ⟨U, x, V, u1, u2, h3, h4, h5, rfl, h6, h7⟩
      · have h8 := hR.len
        rw [h3, List.length_nil] at h8
        omega
      · have hrem : rem a0 used = rem U u1 ++ x :: rem V u2 := by rw [h3, h4, rem_app _ _ h5]; rfl
        cases R with
        | nil => simp at hRl
        | cons h R =>
          rw [hrem] at hR
          obtain ⟨rfl, hR'⟩ := pick_first hR h6 h7
          have hix : ix used (U.length : Int) = some false := by rw [h4]; exact ix_mid (by rw [h5])
          have hia : ix a0 (U.length : Int) = some h := by rw [h3]; exact ix_mid rfl
          have hset : used.set U.length true = u1 ++ true :: u2 := by rw [h4]; exact set_mid' h5
          have hstep : f9_s1 a0 a1 (used, out) = some (.inl (u1 ++ true :: u2, out ++ [h])) := by
            simp only [f9_s1]
            rw [if_pos h1, if_pos h2, show (0 : Int) = ((0 : Nat) : Int) from rfl, y1, Option.bind_some, hix, Option.bind_some, hia, Option.bind_some, appO_ok' (by omega) (by simp), Option.bind_some]
            simp only [Int.toNat_natCast, hset]
          rw [loopO_next hstep]
          refine ih (u1 ++ true :: u2) (out ++ [h]) R ?_ ?_ (by rw [← he]; simp) (by simp; omega) (by simp; omega)
          · rw [← hset, List.length_set, hu]
          · have : rem a0 (u1 ++ true :: u2) = rem U u1 ++ rem V u2 := by rw [h3, rem_app _ _ h5]; rfl
            rw [this]; exact hR'
  have hm : mkO (a0.length : Int) false = some (List.replicate a0.length false) := mkO_some.2 ⟨⟨by omega, by omega⟩, by simp⟩
  unfold f9
  rw [hm, Option.bind_some, key (min a1.toNat a0.length) (List.replicate a0.length false) [] rr (by simp) (by rw [rem_all]; exact hs) rfl (by simp) (by simp)]
  rfl
end Au
end Go.Proofs.Y2
