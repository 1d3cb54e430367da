/- The law DeltaApplies: true for all lists of bounded size. -/
import Derived.Test.YtlonihmeikmpiaaGmY2C
set_option linter.all false
set_option linter.unusedVariables false
set_option linter.unusedSimpArgs false
set_option linter.all false
namespace Go.Proofs.Y1
open Go.Gm
theorem getR_app {u v : List Res} {k : ByteArray} (h : ∀ r ∈ u, r.key ≠ k) : getR (u ++ v) k = getR v k := by
  induction u with
  | nil => rfl
  | cons x u ih => rw [List.cons_append, getR_ne (h x (by simp)), ih fun r hr => h r (by simp [hr])]
theorem has_getR {v : List Res} {k : ByteArray} (hv : Right v) (hh : Stop v k) : (getR v k).isSome = has v k := by
  cases v with
  | nil => rfl
  | cons x m =>
    have hx := hh x m rfl
    by_cases he : x.key = k
    · rw [getR_hd he]; simp [has, he]
    · rw [getR_no]
      · simp [has, he]
      · intro r hr
        rcases List.mem_cons.1 hr with rfl | hr
        · exact he
        · have h1 := right_head hv r hr
          rcases sLt_tri k x.key with h2 | h2 | h2
          · exact ne_gt (sLt_trans h2 h1)
          · exact absurd h2.symm he
          · rw [hx] at h2; cases h2
theorem stop_drop (la : List Res) (k : ByteArray) : Stop (la.dropWhile fun r => sLt r.key k) k := fun x l h => by
  induction la with
  | nil => simp at h
  | cons y la ih =>
    rw [List.dropWhile_cons] at h
    split at h
    · exact ih h
    · rename_i hc; simp at h hc; rw [← h.1]; exact hc
theorem right_suffix {u v : List Res} (h : Right (u ++ v)) : Right v := by
  induction u with
  | nil => exact h
  | cons x u ih => exact ih (right_tail h)
theorem mem_takeW {p : Res → Bool} {l : List Res} {x : Res} (h : x ∈ l.takeWhile p) : p x = true := by
  induction l with
  | nil => simp at h
  | cons y l ih =>
    rw [List.takeWhile_cons] at h
    split at h
    · rcases List.mem_cons.1 h with rfl | h
      · assumption
      · exact ih h
    · cases h
theorem right_lt {l : List Res} (h : Right l) {x : Res} {m : List Res} (hl : l = x :: m) : ∀ r ∈ m, sLt x.key r.key = true := by subst hl; exact right_head h

theorem apply2_eq {a : List Res} {l : List Change} (hal : 2 * (a.length + l.length) + 2 ≤ 34359738368) (hka : KeyS a) (hkl : KeyC l) (ha : Right a) (hl : OrdC l) :
    ∃ z, loopO (f22_s2 a l) (a, 0) = some z ∧ (match z with | .inl y => y | .inr c => (c, 0)) = applyL a l := by
  refine loopO_of (step := f22_s2 a l) (fun k s => ∃ (n : Nat) (pre out la : List Res), s.2 = n ∧ n + k = l.length ∧ s.1 = out ++ la ∧ a = pre ++ la ∧ appGo out la (l.drop n) = applyL a l ∧
      (∀ r ∈ out, ∀ c ∈ l.drop n, sLt r.key c.res.key = true) ∧ (∀ r ∈ pre, ∀ c ∈ l.drop n, sLt r.key c.res.key = true) ∧ out.length + la.length ≤ a.length + n ∧ KeyS out) (Q := fun z => (match z with | .inl y => y | .inr c => (c, 0)) = applyL a l) (by
    rintro k ⟨cur, _⟩ ⟨n, pre, out, la, rfl, hk, hcur, hpre, hap, ho, hp, hlen, hko⟩
    simp only at hcur
    subst hcur
    rw [f22_s2]
    by_cases hn : n < l.length
    · obtain ⟨c, hc⟩ := get_of hn
      have hdr : l.drop n = c :: l.drop (n + 1) := by
        rw [List.drop_eq_getElem_cons hn]; congr 1; rw [List.getElem?_eq_getElem hn] at hc; exact Option.some.inj hc
      have hcm : c ∈ l.drop n := by rw [hdr]; simp
      have hla : Right la := right_suffix (hpre ▸ ha)
      -- later keys are greater
      have hlater : ∀ c' ∈ l.drop (n + 1), sLt c.res.key c'.res.key = true := by
        have hpw : ∀ (m : List Change) (x : Change), (∀ j a b, (x :: m)[j]? = some a → (x :: m)[j + 1]? = some b → sLt a.res.key b.res.key = true) → ∀ y ∈ m, sLt x.res.key y.res.key = true := by
          intro m
          induction m with
          | nil => intro x _ y hy; cases hy
          | cons z m ih =>
            intro x h y hy
            have h0 := h 0 x z rfl rfl
            rcases List.mem_cons.1 hy with rfl | hy
            · exact h0
            · exact sLt_trans h0 (ih z (fun j a b ha hb => h (j + 1) a b (by simpa using ha) (by simpa using hb)) y hy)
        refine hpw _ c fun j x y hx hy => hl.2 (n + j) x y ?_ ?_
        · rw [← hdr, List.getElem?_drop] at hx; exact hx
        · rw [← hdr, List.getElem?_drop] at hy; rw [Nat.add_assoc]; exact hy
      have hKA : ∀ r ∈ la, r.key.size ≤ 1000000 := fun r hr => hka r (by rw [hpre]; simp [hr])
      -- parts of what is left
      let tw := la.takeWhile fun r => sLt r.key c.res.key
      let dw := la.dropWhile fun r => sLt r.key c.res.key
      have hsplit : la = tw ++ dw := (List.takeWhile_append_dropWhile).symm
      have htw : ∀ r ∈ tw, sLt r.key c.res.key = true := fun r hr => mem_takeW hr
      have hdw : Right dw := right_suffix (hsplit ▸ hla)
      have hst : Stop dw c.res.key := stop_drop la c.res.key
      have hget : (getR a c.res.key).isSome = has dw c.res.key := by
        rw [← has_getR hdw hst, hpre, getR_app fun r hr => ne_lt (hp r hr c hcm), hsplit, getR_app fun r hr => ne_lt (htw r hr)]
      have hg2 : (gR (getR a c.res.key)).2 = has dw c.res.key := by
        rw [← hget]; cases getR a c.res.key <;> rfl
      have hk1 : KeyS (out ++ la) := fun r hr => by
        rcases List.mem_append.1 hr with hr | hr
        · exact hko r hr
        · exact hKA r hr
      have hins := fun d => ins_eq (cur := out ++ la) (c := c) d (by rw [List.length_append]; omega) hk1
      have hu : ∀ r ∈ out ++ tw, sLt r.key c.res.key = true := fun r hr => by
        rcases List.mem_append.1 hr with hr | hr
        · exact ho r hr c hcm
        · exact htw r hr
      have hall := fun d => ins_all (c := c) (u := out ++ tw) (v := dw) d hu hdw hst
      have hcurs : out ++ la = (out ++ tw) ++ dw := by rw [List.append_assoc, ← hsplit]
      rw [hdr, appGo] at hap
      rw [if_pos (by omega), ix_nat, hc]
      simp only [Option.bind_some]
      rw [f68_eq (by omega)]
      simp only [Option.bind_some, hg2]
      have hdec : dw.length + tw.length = la.length := by rw [hsplit]; simp; omega
      -- behind the change
      have next : ∀ d : Bool, (d = true ↔ c.kind = 0) → appGo (out ++ tw ++ (if d = true then [] else [c.res])) (if has dw c.res.key = true then dw.tail else dw) (l.drop (n + 1)) = applyL a l →
          (∃ s' k', ((loopO (f22_s7 (out ++ la) c) (d, 0, [])).bind fun y => match y with
            | (y1, y2) => if y1 = true then some (.inl (y2, IntKind.i64.wrap ((n : Int) + 1))) else (appO? y2 [c.res]).bind fun x => some (.inl (x, IntKind.i64.wrap ((n : Int) + 1))) : Option ((List Res × Int) ⊕ ((List Res × Int) ⊕ List Res))) = some (.inl s') ∧ k' < k ∧
            ∃ (m : Nat) (pre out la : List Res), s'.2 = m ∧ m + k' = l.length ∧ s'.1 = out ++ la ∧ a = pre ++ la ∧ appGo out la (l.drop m) = applyL a l ∧
              (∀ r ∈ out, ∀ c ∈ l.drop m, sLt r.key c.res.key = true) ∧ (∀ r ∈ pre, ∀ c ∈ l.drop m, sLt r.key c.res.key = true) ∧ out.length + la.length ≤ a.length + m ∧ KeyS out) := by
        intro d hd hgo
        have hlq : (if has dw c.res.key = true then dw.tail else dw).length ≤ dw.length := by split <;> simp
        have hval := hall d
        rw [← hcurs] at hval
        refine ⟨(out ++ tw ++ (if d = true then [] else [c.res]) ++ (if has dw c.res.key = true then dw.tail else dw), ((n + 1 : Nat) : Int)), k - 1, ?_, by omega, n + 1, pre ++ tw ++ (if has dw c.res.key = true then dw.take 1 else []), out ++ tw ++ (if d = true then [] else [c.res]), (if has dw c.res.key = true then dw.tail else dw), rfl, by omega, rfl, ?_, hgo, ?_, ?_, ?_, ?_⟩
        · rw [hins d]
          simp only [Option.bind_some]
          rw [wrap_succ (by omega)]
          by_cases h1 : (insS c (d, []) (out ++ la)).1 = true
          · rw [if_pos h1] at hval
            generalize insS c (d, []) (out ++ la) = q at h1 hval ⊢
            obtain ⟨q1, q2⟩ := q
            simp only at h1 hval
            simp only [h1, if_true, hval]
          · rw [if_neg h1] at hval
            have hb : (insS c (d, []) (out ++ la)).2.length + 1 ≤ 34359738368 := by
              have := congrArg List.length hval
              simp only [List.length_append, List.length_cons, List.length_nil] at this
              have h3 : (if d = true then [] else [c.res] : List Res).length ≤ 1 := by split <;> simp
              omega
            generalize insS c (d, []) (out ++ la) = q at h1 hval hb ⊢
            obtain ⟨q1, q2⟩ := q
            simp only at h1 hval hb
            simp only [h1, if_false]
            rw [appO?_ok (by simpa using hb)]
            simp only [Option.bind_some, hval]
            rfl
        · rw [hpre, hsplit]
          by_cases hh : has dw c.res.key = true
          · simp only [hh, if_true]
            simp only [List.append_assoc, List.append_cancel_left_eq]
            cases dw <;> simp
          · simp only [hh, if_false]; simp
        · intro r hr c' hc'
          have hl' := hlater c' hc'
          rcases List.mem_append.1 hr with hr | hr
          · exact sLt_trans (hu r hr) hl'
          · split at hr
            · cases hr
            · simp at hr; subst hr; exact hl'
        · intro r hr c' hc'
          have hl' := hlater c' hc'
          rcases List.mem_append.1 hr with hr | hr
          · rcases List.mem_append.1 hr with hr | hr
            · exact hp r hr c' (by rw [hdr]; simp [hc'])
            · exact sLt_trans (htw r hr) hl'
          · split at hr
            · rename_i hh
              cases hdd : dw with
              | nil => rw [hdd] at hr; simp at hr
              | cons x m =>
                rw [hdd] at hr hh; simp at hr; subst hr
                simp [has] at hh
                rw [hh]; exact hl'
            · cases hr
        · have h3 : (if d = true then [] else [c.res] : List Res).length ≤ 1 := by split <;> simp
          simp only [List.length_append]
          omega
        · intro r hr
          rcases List.mem_append.1 hr with hr | hr
          · rcases List.mem_append.1 hr with hr | hr
            · exact hko r hr
            · exact hKA r (by rw [hsplit]; simp [hr])
          · split at hr
            · cases hr
            · simp at hr; subst hr; exact hkl c (List.mem_of_getElem? hc)
      by_cases h1 : c.kind = 1
      · rw [if_pos h1]
        by_cases h2 : has dw c.res.key = true
        · rw [if_pos h2]
          refine .inr ⟨_, rfl, ?_⟩
          rw [if_pos ⟨h1, h2⟩] at hap
          exact hap
        · rw [if_neg h2]
          rw [if_neg (fun h => h2 h.2), if_neg (fun h => h.1 h1)] at hap
          have hd : decide (c.kind = 0) = false := by simp; omega
          rw [hd]
          left
          refine next false (by simp; omega) ?_
          have hk0 : ¬ c.kind = 0 := by omega
          simp only [hk0, if_false] at hap
          simpa using hap
      · rw [if_neg h1]
        by_cases h2 : has dw c.res.key = true
        · rw [if_pos h2, s8_eq]
          rw [if_neg (fun h => h1 h.1), if_neg (fun h => by have := h.2; simp only [dw] at h2; rw [h2] at this; cases this)] at hap
          left
          refine next (decide (c.kind = 0)) (by simp) ?_
          rw [← hap]
          by_cases hk0 : c.kind = 0 <;> simp [hk0, tw, dw]
        · rw [if_neg h2]
          refine .inr ⟨_, rfl, ?_⟩
          rw [if_neg (fun h => h1 h.1), if_pos ⟨h1, by simpa [dw] using h2⟩] at hap
          exact hap
    · rw [if_neg (by omega)]
      rw [List.drop_of_length_le (by omega), appGo] at hap
      exact .inr ⟨_, rfl, hap⟩)
    (k := l.length) (s := (a, 0)) ⟨0, [], [], a, rfl, by omega, rfl, rfl, rfl, by simp, by simp, by simp, fun r hr => by cases hr⟩

open Classical in
theorem f22_eq {a : List Res} {l : List Change} (hal : 2 * (a.length + l.length) + 2 ≤ 34359738368) (hka : KeyS a) (hkl : KeyC l) : f22 a l = some (if Right a ∧ OrdC l then applyL a l else ([], 3)) := by
  rw [f22, x18, if_pos ⟨by omega, hka⟩]
  simp only [Option.bind_some]
  by_cases ha : Right a
  · simp only [ha, decide_true, if_true, true_and]
    rw [ord_eq (by omega) hkl]
    simp only [Option.bind_some]
    by_cases hl : OrdC l
    · simp only [hl, if_true]
      rw [appO?_ok (by simp; omega)]
      simp only [Option.bind_some, List.nil_append]
      obtain ⟨z, hz, hQ⟩ := apply2_eq hal hka hkl ha hl
      rw [hz]
      simp only [Option.bind_some]
      cases z with
      | inl y => simp only at hQ ⊢; rw [hQ]
      | inr y => simp only at hQ ⊢; rw [hQ]
    · simp only [hl, if_false]
  · simp [ha]

theorem app_offs {l : List Change} : ∀ {out a : List Res}, Offs out → Offs a → OffsC l → Offs (appGo out a l).1 := by
  induction l with
  | nil =>
    intro out a ho ha _ r hr
    simp only [appGo, List.mem_append] at hr
    exact hr.elim (ho r) (ha r)
  | cons c l ih =>
    intro out a ho ha hl
    rw [appGo]
    split
    · intro r hr; cases hr
    · split
      · intro r hr; cases hr
      · refine ih (fun r hr => ?_) (fun r hr => ?_) (fun c' hc' => hl c' (by simp [hc']))
        · rcases List.mem_append.1 hr with hr | hr
          · rcases List.mem_append.1 hr with hr | hr
            · exact ho r hr
            · exact ha r ((List.takeWhile_sublist _).mem hr)
          · split at hr
            · cases hr
            · simp at hr; subst hr; exact hl c (by simp)
        · split at hr
          · exact ha r ((List.dropWhile_sublist _).mem (List.mem_of_mem_tail hr))
          · exact ha r ((List.dropWhile_sublist _).mem hr)
theorem app_len {l : List Change} : ∀ {out a : List Res}, (appGo out a l).1.length ≤ out.length + a.length + l.length := by
  induction l with
  | nil => intro out a; simp [appGo]
  | cons c l ih =>
    intro out a
    rw [appGo]
    have hs : (a.takeWhile fun r => sLt r.key c.res.key).length + (a.dropWhile fun r => sLt r.key c.res.key).length = a.length := by
      rw [← List.length_append, List.takeWhile_append_dropWhile]
    split
    · simp
    · split
      · simp
      · refine Nat.le_trans ih ?_
        simp only [List.length_append, List.length_cons]
        have h1 : (if c.kind = 0 then [] else [c.res] : List Res).length ≤ 1 := by split <;> simp
        have h2 : (if has (a.dropWhile fun r => sLt r.key c.res.key) c.res.key = true then (a.dropWhile fun r => sLt r.key c.res.key).tail else (a.dropWhile fun r => sLt r.key c.res.key)).length ≤ (a.dropWhile fun r => sLt r.key c.res.key).length := by split <;> simp
        omega

theorem small_eq {l : List Change} (hl : l.length ≤ 1048576) (hs : ∀ c ∈ l, c.res.key.size ≤ 1048576 ∧ c.res.val.size ≤ 1048576) :
    ∃ z, loopO (f4_s1 l) 0 = some z ∧ (match z with | .inl y => y = true | .inr _ => ∀ c ∈ l, c.res.key.size ≤ 100 ∧ c.res.offs.length ≤ 30) := by
  refine loopO_of (step := f4_s1 l) (fun k i => ∃ n : Nat, i = n ∧ n + k = l.length ∧ ∀ j c, j < n → l[j]? = some c → c.res.key.size ≤ 100 ∧ c.res.offs.length ≤ 30) (Q := fun z => match z with | .inl y => y = true | .inr _ => ∀ c ∈ l, c.res.key.size ≤ 100 ∧ c.res.offs.length ≤ 30) (by
    rintro k _ ⟨n, rfl, hk, hp⟩
    rw [f4_s1]
    by_cases hn : n < l.length
    · obtain ⟨c, hc⟩ := get_of hn
      have hb := hs c (List.mem_of_getElem? hc)
      rw [if_pos (by omega), ix_nat, hc]
      simp only [Option.bind_some, x14]
      have hw : IntKind.i64.wrap ((c.res.key.size : Int) + (c.res.val.size : Int)) = (c.res.key.size : Int) + (c.res.val.size : Int) := by rw [wrap_id] <;> omega
      rw [hw]
      by_cases h1 : 100 < (c.res.key.size : Int) + (c.res.val.size : Int)
      · rw [if_pos h1]; exact .inr ⟨_, rfl, rfl⟩
      · rw [if_neg h1]
        by_cases h2 : 30 < (c.res.offs.length : Int)
        · rw [if_pos h2]; exact .inr ⟨_, rfl, rfl⟩
        · rw [if_neg h2, wrap_succ (by omega)]
          refine .inl ⟨_, k - 1, rfl, by omega, n + 1, rfl, by omega, fun j c' hj hc' => ?_⟩
          by_cases e : j = n
          · subst e; rw [hc] at hc'; cases hc'; omega
          · exact hp j c' (by omega) hc'
    · rw [if_neg (by omega)]
      refine .inr ⟨_, rfl, fun c hc => ?_⟩
      obtain ⟨j, hj⟩ := List.getElem?_of_mem hc
      exact hp j c (by have := (List.getElem?_eq_some_iff.1 hj).1; omega) hj)
    (k := l.length) (s := 0) ⟨0, rfl, by omega, by omega⟩

open Classical in
theorem f4_true {a : List Res} {l : List Change} (ha : a.length ≤ 1048576) (hsa : ∀ r ∈ a, r.key.size ≤ 1048576 ∧ r.val.size ≤ 1048576 ∧ r.offs.length ≤ 1048576) (hl : l.length ≤ 1048576) (hsl : ∀ c ∈ l, c.res.key.size ≤ 1048576 ∧ c.res.val.size ≤ 1048576) : f4 a l = some true := by
  rw [f4, x13, if_pos ⟨by omega, fun r hr => by have := hsa r hr; omega⟩]
  simp only [Option.bind_some, x14]
  by_cases hm : Much a
  · simp [hm]
  · simp only [hm, decide_false, Bool.false_eq_true, if_false]
    by_cases h30 : 30 < (l.length : Int)
    · rw [if_pos h30]
    · rw [if_neg h30]
      obtain ⟨z, hz, hQ⟩ := small_eq hl hsl
      rw [hz]
      simp only [Option.bind_some]
      cases z with
      | inl y => simp only at hQ ⊢; rw [hQ]
      | inr y =>
        simp only at hQ ⊢
        have hoa : Offs a := small_offs hm
        have hka : KeyS a := small_keys hm
        have hoc : OffsC l := fun c hc => by have := (hQ c hc).2; omega
        have hkc : KeyC l := fun c hc => by have := (hQ c hc).1; omega
        rw [x19, if_pos ⟨by omega, hoa, hoc⟩, f22_eq (by omega) hka hkc]
        simp only [Option.bind_some]
        have hoff : Offs (if Right a ∧ OrdC l then applyL a l else ([], 3)).1 := by
          split
          · exact app_offs (fun r hr => by cases hr) hoa hoc
          · intro r hr; cases hr
        have hlen : (if Right a ∧ OrdC l then applyL a l else ([], 3)).1.length ≤ 34359738368 := by
          split
          · have := app_len (l := l) (out := []) (a := a)
            unfold applyL
            simp at this; omega
          · simp
        rw [x21, if_pos ⟨hlen, hoff⟩]
        simp [x20]
end Go.Proofs.Y1
