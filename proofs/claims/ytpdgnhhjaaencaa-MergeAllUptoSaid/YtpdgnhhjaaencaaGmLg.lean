import Derived.Test.YtpdgnhhjaaencaaGmLf
set_option linter.all false
set_option linter.unusedVariables false
set_option linter.unusedSimpArgs false
set_option linter.unusedVariables false
set_option linter.unusedSimpArgs false
namespace Go.Gm
def IC (P : Program) (f : FuncId) (a0 : List (Option AObj)) (us : List AV) (X : AV) (a1 b1 : List (Option AObj)) : Prop :=
  ∀ (m : Nat → Prop) (w : World) (loc : Nat → Option Loc) (vs : List Value) (hm : ∀ b, m b → b < w.heap.size) (h8 : a0.length ≤ 8) (ht : TabH P (mtOf (hpL a0 []) loc) w),
    Mem ⟨w, mtOf (hpL a0 []) loc, m, hm, a0.length, loc, h8, ht⟩ (hpL a0 []) (fun t => t < 8) loc w → RelL (mkE m (hpL a0 []) (fun t => t < 8) loc w) us vs →
    Calls P f vs.toArray w fun e w' => ∃ v loc', e = .returned v ∧ Mem ⟨w, mtOf (hpL a0 []) loc, m, hm, a0.length, loc, h8, ht⟩ (hpL a1 b1) (fun t => t < 8 + b1.length) loc' w' ∧
      Rel (mkE m (hpL a1 b1) (fun t => t < 8 + b1.length) loc' w') X v

def finI (P : Program) (rs : List ResultVar) (X : AV) (a1 b1 : List (Option AObj)) : Exit → ASt → Prop
  | .normal, st | .ret, st => st.hp = hpL a1 b1 ∧ st.nx = 8 + b1.length ∧ ∃ l, resA P st rs = some l ∧ resOf l = X
  | _, _ => False

theorem ic_of {P : Program} {f : FuncId} {fn : Func} {c : Code} {us : List AV} {X : AV} {a0 a1 b1 : List (Option AObj)} {N : Nat} {rs : List ResultVar} (hf : P.funcs[f]? = some fn) (hb : fn.body = some c) (hN : fn.ntmps = N) (hrs : fn.results.toList = rs) (hn : us.length ≤ N)
    (h : AW P N c (finI P rs X a1 b1) ⟨initF us, hpL a0 [], 8⟩) : IC P f a0 us X a1 b1 := by
  subst hN; subst hrs
  intro m w loc vs hm h8 ht hM0 hus
  have hc0 : Conc ⟨w, mtOf (hpL a0 []) loc, m, hm, a0.length, loc, h8, ht⟩ fn.ntmps ⟨initF us, hpL a0 [], 8⟩ { tmps := vs.toArray ++ Array.replicate (fn.ntmps - vs.toArray.size) undef, defers := [] } w := by
    refine ⟨rfl, ?_, loc, hM0, fun d => ?_⟩
    · have := hus.length
      simp; omega
    · simp only [initF]
      cases hd : us[d]? with
      | none => exact .any _
      | some u =>
        obtain ⟨v, hv, hr⟩ := hus.get d u hd
        have hlt : d < vs.length := (List.getElem?_eq_some_iff.1 hv).1
        have : ((vs.toArray ++ Array.replicate (fn.ntmps - vs.toArray.size) undef).getD d undef) = v := by
          rw [Array.getD_eq_getD_getElem?, Array.getElem?_append_left (by simpa using hlt)]
          simp [hv]
        simp only [Option.getD_some]
        rw [this]
        exact hr
  refine calls_of_wp hf hb (wp_mono (h none _ _ w hc0) ?_)
  rintro e a' w' ⟨st', hq, hdf, hsz, loc', hM, hrel⟩
  have fin : finI P fn.results.toList X a1 b1 .ret st' →
      a'.defers = [] ∧ ∃ v, (results fn a'.tmps).run P w' = .ok v w' ∧ ∃ v' loc', Ending.returned v = .returned v' ∧ Mem ⟨w, mtOf (hpL a0 []) loc, m, hm, a0.length, loc, h8, ht⟩ (hpL a1 b1) (fun t => t < 8 + b1.length) loc' w' ∧
        Rel (mkE m (hpL a1 b1) (fun t => t < 8 + b1.length) loc' w') X v' := by
    rintro ⟨h1, h2, l, hl, hX⟩
    obtain ⟨vs', hv, hrl⟩ := results_rel hM hrel hl
    have hrun : (results fn a'.tmps).run P w' = .ok (if h : vs'.toArray.size = 1 then vs'.toArray[0] else .tuple vs'.toArray) w' := by
      rw [results_eq, Sem.run_bind]
      have hm : (fn.results.mapM (resItem a'.tmps)).run P w' = .ok vs'.toArray w' := by
        rw [Array.mapM_eq_mapM_toList, Sem.run_map, hv]; rfl
      rw [hm]; rfl
    refine ⟨hdf, _, hrun, _, loc', rfl, ?_, ?_⟩
    · rw [h1, h2] at hM; exact hM
    · have := relL_resOf hrl
      rw [h1, h2, hX] at this; exact this
  cases e with
  | normal => exact fin hq
  | ret => exact fin hq
  | _ => exact hq.elim

/-! ### Told over the caller's ids -/
mutual
theorem rel_map {τ : Nat → Nat} {m : Nat} {E E' : Env} (mv : Move E E') (al : ∀ t, t < m → E'.al (τ t)) (lo : ∀ t l, t < m → E'.loc (τ t) = some l → E.loc t = some l) : ∀ {u : AV} {v : Value}, tokL m u = true → Rel E u v → Rel E' (mapT τ u) v
  | .own t off len, v, h, hr => by
    simp only [tokL, decide_eq_true_eq] at h
    simp only [mapT]
    cases hr with
    | own ha hh => exact .own (al t h) fun l hl => hh l (lo t l h hl)
  | .ptr t off len, v, h, hr => by
    simp only [tokL, decide_eq_true_eq] at h
    simp only [mapT]
    cases hr with
    | ptr ha hh => exact .ptr (al t h) fun l hl => hh l (lo t l h hl)
  | .mp t, v, h, hr => by
    simp only [tokL, decide_eq_true_eq] at h
    simp only [mapT]
    cases hr with
    | mp ha hh => exact .mp (al t h) fun l hl => hh l (lo t l h hl)
  | .agg cs, v, h, hr => by
    simp only [tokL] at h
    simp only [mapT]
    cases hr with
    | agg hl => exact .agg (relL_map' mv al lo h hl)
  | .tup cs, v, h, hr => by
    simp only [tokL] at h
    simp only [mapT]
    cases hr with
    | tup hl => exact .tup (relL_map' mv al lo h hl)
  | .clo fn f c, v, h, hr => by
    simp only [tokL, Bool.and_eq_true] at h
    simp only [mapT]
    cases hr with
    | clo hf hc => exact .clo (relL_map' mv al lo h.1 hf) (relL_map' mv al lo h.2 hc)
  | .ifc ty u, v, h, hr => by
    simp only [tokL] at h
    simp only [mapT]
    cases hr with
    | ifc hu => exact .ifc (rel_map mv al lo h hu)
  | .val w, v, h, hr => by
    simp only [mapT]
    cases hr
    exact .val _
  | .any, v, h, hr => by simp only [mapT]; exact .any _
  | .sl rows, v, h, hr => by
    simp only [mapT]
    exact Rel.move mv (by simpa [inl, tokL] using h) hr
  | .ip cs, v, h, hr => by
    simp only [mapT]
    exact Rel.move mv (by simpa [inl, tokL] using h) hr
  | .fr sz rows, v, h, hr => by simp [tokL] at h
theorem relL_map' {τ : Nat → Nat} {m : Nat} {E E' : Env} (mv : Move E E') (al : ∀ t, t < m → E'.al (τ t)) (lo : ∀ t l, t < m → E'.loc (τ t) = some l → E.loc t = some l) : ∀ {us : List AV} {vs : List Value}, tokLL m us = true → RelL E us vs → RelL E' (mapTL τ us) vs
  | [], vs, _, hr => by
    simp only [mapTL]
    cases hr; exact .nil
  | u :: us, vs, h, hr => by
    simp only [tokLL, Bool.and_eq_true] at h
    simp only [mapTL]
    cases hr with
    | cons h1 hs => exact .cons (rel_map mv al lo h.1 h1) (relL_map' mv al lo h.2 hs)
end
def renO (τ : Nat → Nat) : Option AObj → Option AObj
  | some (.row sz mu rows) => some (.row sz mu (rows.map (mapTL τ)))
  | _ => none
def tokO (m : Nat) : Option AObj → Bool
  | some (.row _ _ rows) => rows.all (tokLL m)
  | some _ => false
  | none => true
/-- The caller's name of an id: s for what was handed in, ids from 'id' on for what is new. -/
def rho (s : List Nat) (id t : Nat) : Nat := if t < s.length then s.getD t 0 else if t < 8 then id + 7 else id + (t - 8)
def sg (s : List Nat) (t : Nat) : Nat := s.getD t 0
def effS (τ : Nat → Nat) : List Nat → List (Option AObj) → List (Nat × Option AObj)
  | [], _ => []
  | t :: s, o :: a => (t, renO τ o) :: effS τ s a
  | t :: s, [] => (t, none) :: effS τ s []
def effB (τ : Nat → Nat) : Nat → List (Option AObj) → List (Nat × Option AObj)
  | _, [] => []
  | id, o :: b => (id, renO τ o) :: effB τ (id + 1) b

theorem effS_out (τ : Nat → Nat) : ∀ (s : List Nat) (a : List (Option AObj)) (hp : AHeap) (t : Nat), t ∉ s → applyEff hp (effS τ s a) t = hp t
  | [], _, _, _, _ => rfl
  | q :: s, o :: a, hp, t, h => by
    simp only [List.mem_cons, not_or] at h
    simp only [effS, applyEff]
    rw [effS_out τ s a _ t h.2, upd_other _ _ h.1]
  | q :: s, [], hp, t, h => by
    simp only [List.mem_cons, not_or] at h
    simp only [effS, applyEff]
    rw [effS_out τ s [] _ t h.2, upd_other _ _ h.1]
theorem effS_in (τ : Nat → Nat) : ∀ (s : List Nat) (a : List (Option AObj)) (hp : AHeap) (i t : Nat), s.Nodup → s[i]? = some t → applyEff hp (effS τ s a) t = renO τ ((a[i]?).getD none)
  | [], _, _, _, _, _, h => by simp at h
  | q :: s, o :: a, hp, 0, t, hn, h => by
    simp at h; subst h
    simp only [effS, applyEff]
    rw [effS_out τ s a _ q (List.nodup_cons.1 hn).1, upd_same]; simp
  | q :: s, [], hp, 0, t, hn, h => by
    simp at h; subst h
    simp only [effS, applyEff]
    rw [effS_out τ s [] _ q (List.nodup_cons.1 hn).1, upd_same]; simp [renO]
  | q :: s, o :: a, hp, i + 1, t, hn, h => by
    simp only [effS, applyEff]
    rw [effS_in τ s a _ i t (List.nodup_cons.1 hn).2 (by simpa using h)]; simp
  | q :: s, [], hp, i + 1, t, hn, h => by
    simp only [effS, applyEff]
    rw [effS_in τ s [] _ i t (List.nodup_cons.1 hn).2 (by simpa using h)]; simp
theorem effB_out (τ : Nat → Nat) : ∀ (b : List (Option AObj)) (id : Nat) (hp : AHeap) (t : Nat), ¬ (id ≤ t ∧ t < id + b.length) → applyEff hp (effB τ id b) t = hp t
  | [], _, _, _, _ => rfl
  | o :: b, id, hp, t, h => by
    simp only [List.length_cons] at h
    simp only [effB, applyEff]
    rw [effB_out τ b (id + 1) _ t (by omega), upd_other _ _ (by omega)]
theorem effB_in (τ : Nat → Nat) : ∀ (b : List (Option AObj)) (id : Nat) (hp : AHeap) (j : Nat), j < b.length → applyEff hp (effB τ id b) (id + j) = renO τ ((b[j]?).getD none)
  | [], _, _, _, h => by simp at h
  | o :: b, id, hp, 0, h => by
    simp only [effB, applyEff]
    rw [effB_out τ b (id + 1) _ _ (by omega)]; simp [upd_same]
  | o :: b, id, hp, j + 1, h => by
    simp only [effB, applyEff]
    rw [show id + (j + 1) = id + 1 + j by omega, effB_in τ b (id + 1) _ j (by simpa using h)]; simp

theorem renO_isMut {τ : Nat → Nat} {o : Option AObj} {x : AObj} (h : renO τ o = some x) : ∃ y, o = some y ∧ y.isMut = x.isMut := by
  unfold renO at h
  split at h
  · cases h; exact ⟨_, rfl, rfl⟩
  · cases h
theorem objAt_map {τ : Nat → Nat} {m : Nat} {E E' : Env} {l : Loc} (mv : Move E E') (al : ∀ t, t < m → E'.al (τ t)) (lo : ∀ t l, t < m → E'.loc (τ t) = some l → E.loc t = some l) (hh : E'.w.heap = E.w.heap) {o : AObj} {x : AObj} (hx : renO τ (some o) = some x) (ht : tokO m (some o) = true) (h : ObjAt E l o) : ObjAt E' l x := by
  cases o with
  | mapo es => simp [renO] at hx
  | row sz mu rows =>
    simp only [renO] at hx; cases hx
    simp only [tokO] at ht
    obtain ⟨g1, g2, g3, g4, g5, g6⟩ := h
    refine ⟨g1, g2, fun r hr => ?_, by simpa using g4, g5, fun hpos => ?_⟩
    · obtain ⟨r', hr', rfl⟩ := List.mem_map.1 hr
      rw [mapTL_length]; exact g3 r' hr'
    · obtain ⟨c, e, fz, vs, k1, k2, k3, k4, k5, k6⟩ := g6 hpos
      exact ⟨c, e, fz, vs, by rw [hh]; exact k1, k2, by rw [flat_map]; exact relL_map' mv al lo (flat_tok m ht) k3, k4, k5, k6⟩
theorem oren_isMut {τ : Nat → Nat} {m : Nat} {o : Option AObj} {x : AObj} (h : ORen τ m o (some x)) : ∃ y, o = some y ∧ y.isMut = x.isMut := by
  cases h with
  | inl => exact ⟨_, rfl, rfl⟩
  | map => exact ⟨_, rfl, rfl⟩
theorem objAt_ren {τ : Nat → Nat} {m : Nat} {E E' : Env} {l : Loc} (x : Ren τ m E E') (hh : E'.w.heap = E.w.heap) {o o' : AObj} (hO : ORen τ m (some o) (some o')) (h : ObjAt E l o) : ObjAt E' l o' := by
  cases hO with
  | inl hin =>
    obtain ⟨g1, g2, g3, g4, g5, g6⟩ := h
    refine ⟨g1, g2, g3, g4, g5, fun hpos => ?_⟩
    obtain ⟨c, e, fz, vs, k1, k2, k3, k4, k5, k6⟩ := g6 hpos
    exact ⟨c, e, fz, vs, by rw [hh]; exact k1, k2, RelL.move x.mv (by rw [← inlR_flatten]; exact hin) k3, k4, k5, k6⟩
  | map hin =>
    rename_i rows
    obtain ⟨g1, g2, g3, g4, g5, g6⟩ := h
    refine ⟨g1, g2, fun r hr => ?_, by simpa using g4, g5, fun hpos => ?_⟩
    · have := g3 (mapTL τ r) (List.mem_map.2 ⟨r, hr, rfl⟩)
      rwa [mapTL_length] at this
    · obtain ⟨c, e, fz, vs, k1, k2, k3, k4, k5, k6⟩ := g6 hpos
      rw [flat_map] at k3
      exact ⟨c, e, fz, vs, by rw [hh]; exact k1, k2, relL_ren x (flat_tok m hin) k3, k4, k5, k6⟩

theorem CallOk.of_ic {P : Program} {f : FuncId} {a0 a1 b1 : List (Option AObj)} {us us' : List AV} {X : AV} {hp : AHeap} {id : Nat} (h : IC P f a0 us X a1 b1) (s : List Nat) (hs : s.length = a0.length) (hnd : s.Nodup) (h8 : a0.length ≤ 8) (hk : b1.length ≤ 7) (hla : a1.length ≤ a0.length)
    (hobj : ∀ i o, a0[i]? = some o → (∃ x, o = some x) ∧ ORen (sg s) a0.length (hp (sg s i)) o) (hus : WeakL us' (mapTL (sg s) us)) (htok : tokLL a0.length us = true)
    (hb1 : ∀ o ∈ b1, ∃ x, o = some x ∧ x.isMut = true) (ht1 : ∀ o ∈ a1 ++ b1, tokO (8 + b1.length) o = true) (htX : tokL (8 + b1.length) X = true) :
    CallOk P f us' hp id ⟨mapT (rho s id) X, effS (rho s id) s a1 ++ effB (rho s id) id b1⟩ := fun G al loc w vs hM hf hr => by
  classical
  -- the callee's view
  let locc : Nat → Option Loc := fun i => if i < a0.length then loc (sg s i) else none
  let mF : Nat → Prop := fun b => G.m1 b ∨ ∃ t o l, hp t = some o ∧ o.isMut = true ∧ loc t = some l ∧ l.b = b ∧ l.st < l.n ∧ t ∉ s
  have hmF : ∀ b, mF b → b < w.heap.size := fun b hb => by
    rcases hb with hb | ⟨t, o, l, h1, h2, h3, h4, h5, h6⟩
    · exact Nat.lt_of_lt_of_le (G.m1lt b hb) hM.size
    · rw [← h4]; exact hM.lt h3 h5
  have hsg : ∀ i, i < a0.length → s[i]? = some (sg s i) := fun i hi => by
    have : i < s.length := by omega
    simp [sg, List.getD, this]
  have hsmem : ∀ i, i < a0.length → sg s i ∈ s := fun i hi => List.mem_of_getElem? (hsg i hi)
  have hsinj : ∀ i j, i < a0.length → j < a0.length → sg s i = sg s j → i = j := fun i j hi hj e => by
    have h1 := hsg i hi
    have h2 := hsg j hj
    rw [e] at h1
    exact nodup_inj hnd h1 h2
  have ha0 : ∀ i, i < a0.length → ∃ x, a0[i]? = some (some x) ∧ ORen (sg s) a0.length (hp (sg s i)) (some x) := fun i hi => by
    obtain ⟨⟨x, hx⟩, hO⟩ := hobj i a0[i] (by simp [hi])
    exact ⟨x, by rw [← hx]; simp [hi], hx ▸ hO⟩
  have hpa0 : ∀ t o, hpL a0 [] t = some o → t < a0.length ∧ a0[t]? = some (some o) := fun t o ho => by
    simp only [hpL] at ho
    split at ho
    · cases hq : a0[t]? with
      | none => rw [hq] at ho; cases ho
      | some q => rw [hq] at ho; simp at ho; subst ho; exact ⟨(List.getElem?_eq_some_iff.1 hq).1, rfl⟩
    · simp at ho
  have hmt0 : ∀ b, mtOf (hpL a0 []) locc b → mtOf hp loc b ∧ ∃ i l, i < a0.length ∧ loc (sg s i) = some l ∧ l.b = b ∧ l.st < l.n := by
    rintro b ⟨t, o, l, h1, h2, h3, h4, h5⟩
    obtain ⟨hlt, ho⟩ := hpa0 t o h1
    obtain ⟨x, hx, hO⟩ := ha0 t hlt
    rw [ho] at hx; cases hx
    obtain ⟨y, hy, hmu⟩ := oren_isMut hO
    simp only [locc, hlt, if_true] at h3
    exact ⟨⟨sg s t, y, l, hy, by rw [hmu]; exact h2, h3, h4, h5⟩, t, l, hlt, h3, h4, h5⟩
  have hren : Ren (sg s) a0.length (mkE G.m1 hp al loc w) (mkE mF (hpL a0 []) (fun t => t < 8) locc w) :=
    ⟨⟨Nat.le_refl _, fun b _ hn => ⟨fun hc => hn (by
      rcases hc with hc | hc | ⟨t, o, l, h1, h2, h3, h4, h5, h6⟩
      · exact .inl (hmt0 b hc).1
      · exact .inr hc
      · exact .inl ⟨t, o, l, h1, h2, h3, h4, h5⟩), rfl⟩⟩, fun t ht => show t < 8 by omega, fun t l ht hl => by simpa only [mkE, locc, ht, if_true] using hl⟩
  have htb : TabH P (mtOf (hpL a0 []) locc) w := hM.tab.sub fun b hb => (hmt0 b hb).1
  have hMc : Mem ⟨w, mtOf (hpL a0 []) locc, mF, hmF, a0.length, locc, h8, htb⟩ (hpL a0 []) (fun t => t < 8) locc w := by
    refine ⟨fun t o ho => ?_, fun t ho => ?_, fun t l hl => ?_, fun t t' l l' h1 h2 p1 p2 hb => ?_, rfl, rfl, rfl, Nat.le_refl _, fun _ _ _ => rfl, fun b hb _ => hb, fun t l hl hpos hmm => ?_, fun t ht => show t < 8 by have : t < a0.length := ht; omega, fun t l _ hl => hl⟩
    · obtain ⟨hlt, ho'⟩ := hpa0 t o ho
      obtain ⟨x, hx, hO⟩ := ha0 t hlt
      rw [ho'] at hx; cases hx
      obtain ⟨y, hy, _⟩ := oren_isMut hO
      obtain ⟨l, hl, hob⟩ := hM.obj _ _ hy
      exact ⟨l, by simp only [locc, hlt, if_true]; exact hl, objAt_ren hren rfl (hy ▸ hO) hob⟩
    · simp only [locc]
      split
      · rename_i hlt
        obtain ⟨x, hx, _⟩ := ha0 t hlt
        have : hpL a0 [] t = some x := by simp only [hpL]; rw [if_pos (by omega), hx]; rfl
        rw [this] at ho; cases ho
      · rfl
    · simp only [locc] at hl
      split at hl
      · show t < 8; omega
      · cases hl
    · simp only [locc] at h1 h2
      split at h1
      · split at h2
        · rename_i g1 g2; exact hsinj t t' g1 g2 (hM.inj _ _ _ _ h1 h2 p1 p2 hb)
        · cases h2
      · cases h1
    · simp only [locc] at hl
      split at hl
      · rename_i hlt
        rcases hmm with hmm | ⟨t', o', l', k1, k2, k3, k4, k5, k6⟩
        · exact hM.fgn _ l hl hpos hmm
        · exact k6 (hM.inj _ _ _ _ k3 hl k5 hpos k4 ▸ hsmem t hlt)
      · cases hl
  have hargs : RelL (mkE mF (hpL a0 []) (fun t => t < 8) locc w) us vs := relL_ren hren htok (hus _ _ hr)
  refine (h mF w locc vs hmF h8 htb hMc hargs).mono ?_
  rintro e w' ⟨v, loc1, rfl, hM1, hv⟩
  -- the caller's view afterwards
  let k := b1.length
  let hp2 := applyEff hp (effS (rho s id) s a1 ++ effB (rho s id) id b1)
  let loc2 : Nat → Option Loc := fun t => if t ∈ s then loc1 (s.idxOf t) else if id ≤ t ∧ t < id + b1.length then loc1 (8 + (t - id)) else loc t
  have hsal : ∀ t ∈ s, al t := fun t ht => by
    obtain ⟨i, hi⟩ := List.getElem?_of_mem ht
    have hlt : i < a0.length := by have := (List.getElem?_eq_some_iff.1 hi).1; omega
    obtain ⟨x, hx, hO⟩ := ha0 i hlt
    have : sg s i = t := by have := hsg i hlt; rw [hi] at this; exact (Option.some.inj this).symm
    obtain ⟨y, hy, _⟩ := oren_isMut hO
    obtain ⟨l, hl, _⟩ := hM.obj _ _ hy
    rw [this] at hl
    exact hM.al_ t l hl
  have hidx : ∀ i, i < a0.length → s.idxOf (sg s i) = i := fun i hi => by
    have hm := hsmem i hi
    have h1 : s[s.idxOf (sg s i)]? = some (sg s i) := by
      have hl := List.idxOf_lt_length_of_mem hm
      rw [List.getElem?_eq_getElem hl]; simp
    exact nodup_inj hnd h1 (hsg i hi)
  have hsnew : ∀ t ∈ s, ¬ (id ≤ t ∧ t < id + b1.length) := fun t ht hc => hf t hc.1 (by omega) (hsal t ht)
  have hp2s : ∀ i, i < a0.length → hp2 (sg s i) = renO (rho s id) ((a1[i]?).getD none) := fun i hi => by
    simp only [hp2]
    rw [applyEff_append, effB_out _ _ _ _ _ (hsnew _ (hsmem i hi)), effS_in _ s a1 hp i _ hnd (hsg i hi)]
  have hp2n : ∀ j, j < b1.length → hp2 (id + j) = renO (rho s id) ((b1[j]?).getD none) := fun j hj => by
    simp only [hp2]
    rw [applyEff_append, effB_in _ _ _ _ _ hj]
  have hp2o : ∀ t, t ∉ s → ¬ (id ≤ t ∧ t < id + b1.length) → hp2 t = hp t := fun t h1 h2 => by
    simp only [hp2]
    rw [applyEff_append, effB_out _ _ _ _ _ h2, effS_out _ _ _ _ _ h1]
  have loc2s : ∀ i, i < a0.length → loc2 (sg s i) = loc1 i := fun i hi => by simp only [loc2, hsmem i hi, if_true, hidx i hi]
  have loc2n : ∀ j, j < b1.length → loc2 (id + j) = loc1 (8 + j) := fun j hj => by
    have : id + j ∉ s := fun hm => hsnew _ hm ⟨by omega, by omega⟩
    simp only [loc2, this, if_false]
    rw [if_pos ⟨by omega, by omega⟩]; congr 1; omega
  have loc2o : ∀ t, t ∉ s → ¬ (id ≤ t ∧ t < id + b1.length) → loc2 t = loc t := fun t h1 h2 => by simp only [loc2, h1, h2, if_false]
  -- every id is of one kind
  have kind : ∀ t, (∃ i, i < a0.length ∧ t = sg s i) ∨ (∃ j, j < b1.length ∧ t = id + j) ∨ (t ∉ s ∧ ¬ (id ≤ t ∧ t < id + b1.length)) := fun t => by
    by_cases h1 : t ∈ s
    · obtain ⟨i, hi⟩ := List.getElem?_of_mem h1
      have hlt : i < a0.length := by have := (List.getElem?_eq_some_iff.1 hi).1; omega
      exact .inl ⟨i, hlt, by have := hsg i hlt; rw [hi] at this; exact Option.some.inj this⟩
    · by_cases h2 : id ≤ t ∧ t < id + b1.length
      · exact .inr (.inl ⟨t - id, by omega, by omega⟩)
      · exact .inr (.inr ⟨h1, h2⟩)
  have hpa1 : ∀ i, i < a0.length → hpL a1 b1 i = (a1[i]?).getD none := fun i hi => by simp only [hpL]; rw [if_pos (by omega)]
  have hpb1 : ∀ j, hpL a1 b1 (8 + j) = (b1[j]?).getD none := fun j => by simp only [hpL]; rw [if_neg (by omega)]; simp
  have oldloc : ∀ i l, i < a0.length → loc1 i = some l → loc (sg s i) = some l := fun i l hi hl => by
    have := hM1.idn i l hi hl
    simpa only [locc, hi, if_true] using this
  have hmt2 : ∀ b, mtOf hp2 loc2 b → mtOf (hpL a1 b1) loc1 b ∨ ∃ t o l, hp t = some o ∧ o.isMut = true ∧ loc t = some l ∧ l.b = b ∧ l.st < l.n ∧ t ∉ s := by
    rintro b ⟨t, o, l, h1, h2, h3, h4, h5⟩
    rcases kind t with ⟨i, hi, rfl⟩ | ⟨j, hj, rfl⟩ | ⟨g1, g2⟩
    · rw [hp2s i hi] at h1
      obtain ⟨y, hy, hmu⟩ := renO_isMut h1
      rw [loc2s i hi] at h3
      exact .inl ⟨i, y, l, by rw [hpa1 i hi]; exact hy, by rw [hmu]; exact h2, h3, h4, h5⟩
    · rw [hp2n j hj] at h1
      obtain ⟨y, hy, hmu⟩ := renO_isMut h1
      rw [loc2n j hj] at h3
      exact .inl ⟨8 + j, y, l, by rw [hpb1 j]; exact hy, by rw [hmu]; exact h2, h3, h4, h5⟩
    · rw [hp2o t g1 g2] at h1
      rw [loc2o t g1 g2] at h3
      exact .inr ⟨t, o, l, h1, h2, h3, h4, h5, g1⟩
  have hmt2' : ∀ b, b < w.heap.size → mtOf hp2 loc2 b → mtOf hp loc b := fun b hb hm => by
    rcases hmt2 b hm with hm | ⟨t, o, l, h1, h2, h3, h4, h5, _⟩
    · exact (hmt0 b (hM1.muts b hm hb)).1
    · exact ⟨t, o, l, h1, h2, h3, h4, h5⟩
  have hxx : Ext (mkE G.m1 hp al loc w) (mkE G.m1 hp2 (alR al id) loc2 w') := by
    refine mk_ext (fun _ h => .inl h) (fun t l ha hl => ?_) hM1.size hmt2' (fun b hb hn => ?_)
    · rcases kind t with ⟨i, hi, rfl⟩ | ⟨j, hj, rfl⟩ | ⟨g1, g2⟩
      · rw [loc2s i hi] at hl; exact oldloc i l hi hl
      · exact absurd ha (hf _ (by omega) (by omega))
      · rwa [loc2o t g1 g2] at hl
    · exact hM1.keep b hb fun hm => hn (hmt0 b hm).1
  have hmv : Move (mkE mF (hpL a1 b1) (fun t => t < 8 + b1.length) loc1 w') (mkE G.m1 hp2 (alR al id) loc2 w') :=
    ⟨Nat.le_refl _, fun b _ hn => ⟨fun hc => hn (by
      rcases hc with hc | hc
      · rcases hmt2 b hc with hc | hc
        · exact .inl hc
        · exact .inr (.inr hc)
      · exact .inr (.inl hc)), rfl⟩⟩
  have hrho1 : ∀ i, i < a0.length → rho s id i = sg s i := fun i hi => by simp only [rho, hs, hi, if_true, sg]
  have hrho2 : ∀ j, rho s id (8 + j) = id + j := fun j => by
    simp only [rho]; rw [if_neg (by omega), if_neg (by omega)]; congr 1; omega
  have hrho3 : ∀ i, ¬ i < a0.length → i < 8 → rho s id i = id + 7 := fun i h1 h2 => by simp only [rho, hs, h1, if_false, h2, if_true]
  have halr : ∀ t, t < 8 + b1.length → alR al id (rho s id t) := fun t ht => by
    by_cases h1 : t < a0.length
    · rw [hrho1 t h1]; exact .inl (hsal _ (hsmem t h1))
    · by_cases h2 : t < 8
      · rw [hrho3 t h1 h2]; exact .inr ⟨by omega, by omega⟩
      · obtain ⟨j, rfl⟩ : ∃ j, t = 8 + j := ⟨t - 8, by omega⟩
        rw [hrho2]; exact .inr ⟨by omega, by omega⟩
  have hlor : ∀ t l, t < 8 + b1.length → loc2 (rho s id t) = some l → loc1 t = some l := fun t l ht hl => by
    by_cases h1 : t < a0.length
    · rw [hrho1 t h1, loc2s t h1] at hl; exact hl
    · by_cases h2 : t < 8
      · rw [hrho3 t h1 h2] at hl
        have hno : ¬ al (id + 7) := hf _ (by omega) (by omega)
        rw [loc2o _ (fun hm => hno (hsal _ hm)) (by omega)] at hl
        exact absurd (hM.al_ _ l hl) hno
      · obtain ⟨j, rfl⟩ : ∃ j, t = 8 + j := ⟨t - 8, by omega⟩
        rw [hrho2, loc2n j (by omega)] at hl; exact hl
  refine ⟨v, loc2, rfl, ?_, hxx, rel_map hmv halr hlor htX hv⟩
  refine ⟨fun t o ho => ?_, fun t ho => ?_, fun t l hl => ?_, fun t1 t2 l1 l2 k1 k2 p1 p2 hb => ?_, hM1.os.trans hM.os, hM1.tape.trans hM.tape, hM1.output.trans hM.output, Nat.le_trans hM.size hM1.size, fun b hb hn => ?_, fun b hb hlt => ?_, fun t l hl hpos => ?_, fun t ht => .inl (hM.aln t ht), fun t l ht hl => ?_⟩
  · change hp2 t = some o at ho
    rcases kind t with ⟨i, hi, rfl⟩ | ⟨j, hj, rfl⟩ | ⟨g1, g2⟩
    · rw [hp2s i hi] at ho
      obtain ⟨y, hy, _⟩ := renO_isMut ho
      obtain ⟨l, hl, hob⟩ := hM1.obj i y (by rw [hpa1 i hi]; exact hy)
      refine ⟨l, (loc2s i hi).trans hl, objAt_map hmv halr hlor rfl (hy ▸ ho) ?_ hob⟩
      cases hq : a1[i]? with
      | none => rw [hq] at hy; cases hy
      | some q => rw [hq] at hy; simp at hy; subst hy; exact ht1 _ (List.mem_append_left _ (List.mem_of_getElem? hq))
    · rw [hp2n j hj] at ho
      obtain ⟨y, hy, _⟩ := renO_isMut ho
      obtain ⟨l, hl, hob⟩ := hM1.obj (8 + j) y (by rw [hpb1 j]; exact hy)
      refine ⟨l, (loc2n j hj).trans hl, objAt_map hmv halr hlor rfl (hy ▸ ho) ?_ hob⟩
      cases hq : b1[j]? with
      | none => rw [hq] at hy; cases hy
      | some q => rw [hq] at hy; simp at hy; subst hy; exact ht1 _ (List.mem_append_right _ (List.mem_of_getElem? hq))
    · rw [hp2o t g1 g2] at ho
      obtain ⟨l, hl, hob⟩ := hM.obj t o ho
      refine ⟨l, (loc2o t g1 g2).trans hl, hob.ext hxx fun hpos => hM1.keep l.b (hM.lt hl hpos) fun hm => ?_⟩
      obtain ⟨_, i, l', hi, hl', hb', hp'⟩ := hmt0 l.b hm
      exact g1 (hM.inj _ _ _ _ hl' hl hp' hpos hb' ▸ hsmem i hi)
  · change hp2 t = none at ho
    rcases kind t with ⟨i, hi, rfl⟩ | ⟨j, hj, rfl⟩ | ⟨g1, g2⟩
    · rw [loc2s i hi]
      refine hM1.none_ i ?_
      rw [hp2s i hi] at ho
      rw [hpa1 i hi]
      cases hq : a1[i]? with
      | none => rfl
      | some q =>
        rw [hq] at ho; simp only [Option.getD_some] at ho ⊢
        cases q with
        | none => rfl
        | some q =>
          have := ht1 _ (List.mem_append_left _ (List.mem_of_getElem? hq))
          cases q with
          | row => simp [renO] at ho
          | mapo => simp [tokO] at this
    · rw [hp2n j hj] at ho
      obtain ⟨x, hx, hmu⟩ := hb1 b1[j] (List.getElem_mem hj)
      have ht := ht1 _ (List.mem_append_right _ (List.getElem_mem hj))
      rw [List.getElem?_eq_getElem hj] at ho
      simp only [Option.getD_some] at ho
      rw [hx] at ho ht
      cases x with
      | row => simp [renO] at ho
      | mapo => simp [tokO] at ht
    · rw [loc2o t g1 g2]; rw [hp2o t g1 g2] at ho; exact hM.none_ t ho
  · rcases kind t with ⟨i, hi, rfl⟩ | ⟨j, hj, rfl⟩ | ⟨g1, g2⟩
    · exact .inl (hsal _ (hsmem i hi))
    · exact .inr ⟨by omega, by omega⟩
    · rw [loc2o t g1 g2] at hl; exact .inl (hM.al_ t l hl)
  · have newold : ∀ j t l l', j < b1.length → t ∉ s → ¬ (id ≤ t ∧ t < id + b1.length) → loc1 (8 + j) = some l → loc t = some l' → l.st < l.n → l'.st < l'.n → l.b = l'.b → False := fun j t l l' hj g1 g2 h1 h2 q1 q2 hbb => by
      obtain ⟨x, hx, hmu⟩ := hb1 b1[j] (List.getElem_mem hj)
      have hmm : mtOf (hpL a1 b1) loc1 l'.b := ⟨8 + j, x, l, by rw [hpb1 j, List.getElem?_eq_getElem hj, hx]; rfl, hmu, h1, hbb, q1⟩
      obtain ⟨_, i, l3, hi, hl3, hb3, hp3⟩ := hmt0 _ (hM1.muts _ hmm (hM.lt h2 q2))
      exact g1 (hM.inj _ _ _ _ hl3 h2 hp3 q2 hb3 ▸ hsmem i hi)
    rcases kind t1 with ⟨i, hi, rfl⟩ | ⟨j, hj, rfl⟩ | ⟨g1, g2⟩
    · rw [loc2s i hi] at k1
      rcases kind t2 with ⟨i', hi', rfl⟩ | ⟨j', hj', rfl⟩ | ⟨g1', g2'⟩
      · rw [loc2s i' hi'] at k2; rw [hM1.inj _ _ _ _ k1 k2 p1 p2 hb]
      · rw [loc2n j' hj'] at k2; have := hM1.inj _ _ _ _ k1 k2 p1 p2 hb; omega
      · rw [loc2o t2 g1' g2'] at k2
        exact absurd (hM.inj _ _ _ _ (oldloc i l1 hi k1) k2 p1 p2 hb ▸ hsmem i hi) g1'
    · rw [loc2n j hj] at k1
      rcases kind t2 with ⟨i', hi', rfl⟩ | ⟨j', hj', rfl⟩ | ⟨g1', g2'⟩
      · rw [loc2s i' hi'] at k2; have := hM1.inj _ _ _ _ k1 k2 p1 p2 hb; omega
      · rw [loc2n j' hj'] at k2; have := hM1.inj _ _ _ _ k1 k2 p1 p2 hb; omega
      · rw [loc2o t2 g1' g2'] at k2
        exact (newold j t2 l1 l2 hj g1' g2' k1 k2 p1 p2 hb).elim
    · rw [loc2o t1 g1 g2] at k1
      rcases kind t2 with ⟨i', hi', rfl⟩ | ⟨j', hj', rfl⟩ | ⟨g1', g2'⟩
      · rw [loc2s i' hi'] at k2
        exact absurd (hM.inj _ _ _ _ (oldloc i' l2 hi' k2) k1 p2 p1 hb.symm ▸ hsmem i' hi') g1
      · rw [loc2n j' hj'] at k2
        exact (newold j' t1 l2 l1 hj' g1 g2 k2 k1 p2 p1 hb.symm).elim
      · rw [loc2o t2 g1' g2'] at k2; exact hM.inj _ _ _ _ k1 k2 p1 p2 hb
  · have hlt : b < w.heap.size := Nat.lt_of_lt_of_le hb hM.size
    exact (hM1.keep b hlt fun hm => hn (hM.muts b (hmt0 b hm).1 hb)).trans (hM.keep b hb hn)
  · exact hM.muts b (hmt2' b (Nat.lt_of_lt_of_le hlt hM.size) hb) hlt
  · rcases kind t with ⟨i, hi, rfl⟩ | ⟨j, hj, rfl⟩ | ⟨g1, g2⟩
    · rw [loc2s i hi] at hl; exact fun hm => hM1.fgn i l hl hpos (.inl hm)
    · rw [loc2n j hj] at hl; exact fun hm => hM1.fgn _ l hl hpos (.inl hm)
    · rw [loc2o t g1 g2] at hl; exact hM.fgn t l hl hpos
  · rcases kind t with ⟨i, hi, rfl⟩ | ⟨j, hj, rfl⟩ | ⟨g1, g2⟩
    · rw [loc2s i hi] at hl; exact hM.idn _ l ht (oldloc i l hi hl)
    · exact absurd (hM.aln _ ht) (hf _ (by omega) (by omega))
    · rw [loc2o t g1 g2] at hl; exact hM.idn t l ht hl
end Go.Gm
namespace Go.Gm
theorem arV_clo {P : Program} {N : Nat} {ops rest : List Oper} {d : Option Tmp} {fr : Nat → AV} {hp : AHeap} {nx : Nat} {Q : ASt → Prop} {args : List AV} {f : FuncId} {first captured : List AV} {o : Prop} :
    arV P N ops rest d fr hp nx Q args (.clo (.func f) first captured) o = arC P N ops rest d fr hp nx Q f (first ++ args ++ captured) (resL hp (first ++ args ++ captured)) := (rfl)
theorem mapR_inl (τ : Nat → Nat) : ∀ {rows : List (List AV)}, inlR rows = true → rows.map (mapTL τ) = rows
  | [], _ => rfl
  | r :: rs, h => by
    simp only [inlR, Bool.and_eq_true] at h
    rw [List.map_cons, mapTL_inl τ h.1, mapR_inl τ h.2]
theorem mapT_own (τ : Nat → Nat) (t o n : Nat) : mapT τ (.own t o n) = .own (τ t) o n := by simp only [mapT]
theorem mapT_ptr (τ : Nat → Nat) (t o n : Nat) : mapT τ (.ptr t o n) = .ptr (τ t) o n := by simp only [mapT]
theorem mapT_agg (τ : Nat → Nat) (l : List AV) : mapT τ (.agg l) = .agg (mapTL τ l) := by simp only [mapT]
theorem mapT_tup (τ : Nat → Nat) (l : List AV) : mapT τ (.tup l) = .tup (mapTL τ l) := by simp only [mapT]
theorem mapT_val (τ : Nat → Nat) (v : Value) : mapT τ (.val v) = .val v := by simp only [mapT]
theorem mapT_sl (τ : Nat → Nat) (l : List (List AV)) : mapT τ (.sl l) = .sl l := by simp only [mapT]
theorem mapT_ip (τ : Nat → Nat) (l : List AV) : mapT τ (.ip l) = .ip l := by simp only [mapT]
theorem mapT_any (τ : Nat → Nat) : mapT τ .any = .any := by simp only [mapT]
theorem mapTL_nil (τ : Nat → Nat) : mapTL τ [] = [] := by simp only [mapTL]
theorem mapTL_cons (τ : Nat → Nat) (c : AV) (l : List AV) : mapTL τ (c :: l) = mapT τ c :: mapTL τ l := by simp only [mapTL]
theorem rho_ap (s : List Nat) (id t : Nat) : rho s id t = if t < s.length then s.getD t 0 else if t < 8 then id + 7 else id + (t - 8) := (rfl)
theorem sg_ap (s : List Nat) (t : Nat) : sg s t = s.getD t 0 := (rfl)
theorem effS_nil (τ : Nat → Nat) (a : List (Option AObj)) : effS τ [] a = [] := (rfl)
theorem effS_cons (τ : Nat → Nat) (t : Nat) (s : List Nat) (o : Option AObj) (a : List (Option AObj)) : effS τ (t :: s) (o :: a) = (t, renO τ o) :: effS τ s a := (rfl)
theorem effS_cons0 (τ : Nat → Nat) (t : Nat) (s : List Nat) : effS τ (t :: s) [] = (t, none) :: effS τ s [] := (rfl)
theorem effB_nil (τ : Nat → Nat) (id : Nat) : effB τ id [] = [] := (rfl)
theorem effB_cons (τ : Nat → Nat) (id : Nat) (o : Option AObj) (b : List (Option AObj)) : effB τ id (o :: b) = (id, renO τ o) :: effB τ (id + 1) b := (rfl)
theorem renO_row (τ : Nat → Nat) (sz : Nat) (mu : Bool) (rows : List (List AV)) : renO τ (some (.row sz mu rows)) = some (.row sz mu (rows.map (mapTL τ))) := (rfl)
theorem renO_none (τ : Nat → Nat) : renO τ none = none := (rfl)
attribute [go_sem] ar_callV arV_clo mapT_own mapT_ptr mapT_agg mapT_tup mapT_val mapT_sl mapT_ip mapT_any mapTL_nil mapTL_cons rho_ap effS_nil effS_cons effS_cons0 effB_nil effB_cons renO_row renO_none
theorem CallOk.ic {P : Program} {f : FuncId} {a0 a1 b1 : List (Option AObj)} {us us' : List AV} {X : AV} {hp : AHeap} {id : Nat} (h : IC P f a0 us X a1 b1) (s : List Nat) (hs : s.length = a0.length) (hnd : s.Nodup) (h8 : a0.length ≤ 8) (hk : b1.length ≤ 7) (hla : a1.length ≤ a0.length)
    (hso : ∀ o ∈ a0, ∃ x, o = some x) (hobj : HRen (sg s) a0.length hp 0 a0) (hus : WeakL us' (mapTL (sg s) us)) (htok : tokLL a0.length us = true)
    (hb1 : ∀ o ∈ b1, ∃ x, o = some x ∧ x.isMut = true) (ht1 : ∀ o ∈ a1 ++ b1, tokO (8 + b1.length) o = true) (htX : tokL (8 + b1.length) X = true) :
    CallOk P f us' hp id ⟨mapT (rho s id) X, effS (rho s id) s a1 ++ effB (rho s id) id b1⟩ :=
  CallOk.of_ic h s hs hnd h8 hk hla (fun i o hi => ⟨hso o (List.mem_of_getElem? hi), by have := hobj.get i; rw [hi] at this; simpa using this⟩) hus htok hb1 ht1 htX
theorem tokR_inl (m : Nat) : ∀ {rows : List (List AV)}, inlR rows = true → rows.all (tokLL m) = true
  | [], _ => rfl
  | r :: rs, h => by
    simp only [inlR, Bool.and_eq_true] at h
    rw [List.all_cons, tokLL_inl m h.1, tokR_inl m h.2]; rfl
theorem tokL_own (m t o n : Nat) : tokL m (.own t o n) = decide (t < m) := by simp only [tokL]
theorem tokL_ptr (m t o n : Nat) : tokL m (.ptr t o n) = decide (t < m) := by simp only [tokL]
theorem tokL_agg (m : Nat) (l : List AV) : tokL m (.agg l) = tokLL m l := by simp only [tokL]
theorem tokL_tup (m : Nat) (l : List AV) : tokL m (.tup l) = tokLL m l := by simp only [tokL]
theorem tokL_val (m : Nat) (v : Value) : tokL m (.val v) = true := by simp only [tokL]
theorem tokL_sl (m : Nat) (l : List (List AV)) : tokL m (.sl l) = inlR l := by simp only [tokL]
theorem tokL_ip (m : Nat) (l : List AV) : tokL m (.ip l) = inlL l := by simp only [tokL]
theorem tokLL_nil (m : Nat) : tokLL m [] = true := by simp only [tokLL]
theorem tokLL_cons (m : Nat) (c : AV) (l : List AV) : tokLL m (c :: l) = (tokL m c && tokLL m l) := by simp only [tokLL]
theorem tokO_row (m sz : Nat) (mu : Bool) (rows : List (List AV)) : tokO m (some (.row sz mu rows)) = rows.all (tokLL m) := (rfl)
theorem tokO_none (m : Nat) : tokO m none = true := (rfl)
attribute [go_sem] tokL_own tokL_ptr tokL_agg tokL_tup tokL_val tokL_sl tokL_ip tokLL_nil tokLL_cons tokO_row tokO_none
def nilCk (hp : AHeap) (v : AV) (r : Option AR) : Option AR := match v with
  | .ptr t i off => if (hp t).isSome = true then some ⟨.ptr t i off, []⟩ else none
  | .ip cs => some ⟨.ip cs, []⟩
  | _ => r
theorem aop_nilCheck {P : Program} {ft : FuncId → List AV → Option AV} {fr : Operand → AV} {hp : AHeap} {id : Nat} {d : Option Tmp} {x : Operand} {ty : TypeId} {pos : String} {af : Array Edge} {g : Option (Nat × Bool)} : aop P ft fr hp id ⟨d, .nilCheck x, ty, pos, af, g⟩ = nilCk hp (fr x) (plainA P fr ⟨d, .nilCheck x, ty, pos, af, g⟩) := by
  unfold aop nilCk; rfl
theorem nilCk_ptr {hp : AHeap} {t i off : Nat} {r : Option AR} : nilCk hp (.ptr t i off) r = if (hp t).isSome = true then some ⟨.ptr t i off, []⟩ else none := (rfl)
theorem nilCk_ip {hp : AHeap} {cs : List AV} {r : Option AR} : nilCk hp (.ip cs) r = some ⟨.ip cs, []⟩ := (rfl)
attribute [go_sem] aop_nilCheck nilCk_ptr nilCk_ip
theorem HRen.agree {τ : Nat → Nat} {n : Nat} {hp hp' : AHeap} : ∀ {a : List (Option AObj)} {k : Nat}, (∀ i, i < a.length → hp (τ (k + i)) = hp' (τ (k + i))) → HRen τ n hp k a → HRen τ n hp' k a
  | [], _, _, h => .nil _
  | o :: a, k, hh, h => by
    cases h with
    | cons h1 h2 => exact .cons ((hh 0 (by simp)) ▸ h1) (HRen.agree (fun i hi => by have := hh (i + 1) (by simpa using hi); simpa [Nat.add_assoc, Nat.add_comm 1 i] using this) h2)
theorem adN.ic {P : Program} {ft : FuncId → List AV → Option AV} {N : Nat} {ops : List Oper} {A : List (List Nat)} {base : Nat} {rest : List (Nat × Oper)} {i : Nat} {d : Option Tmp} {fr : Nat → AV} {hp : AHeap} {acc : List (Nat × List Nat × List Nat)} {Q : (Nat → AV) → AHeap → Prop} {o : Oper}
    {f : FuncId} {a0 a1 b1 : List (Option AObj)} {us us' : List AV} {X : AV} (h : IC P f a0 us X a1 b1) (he : Enter P f) (hcv : callV (evF fr) o = some (f, us')) (s : List Nat) (hs : s.length = a0.length) (hnd : s.Nodup) (h8 : a0.length ≤ 8) (hk : b1.length ≤ 7) (hla : a1.length ≤ a0.length)
    (hso : ∀ o ∈ a0, ∃ x, o = some x) (hobj : HRen (sg s) a0.length hp 0 a0) (hus : WeakL us' (mapTL (sg s) us)) (htok : tokLL a0.length us = true)
    (hb1 : ∀ o ∈ b1, ∃ x, o = some x ∧ x.isMut = true) (ht1 : ∀ o ∈ a1 ++ b1, tokO (8 + b1.length) o = true) (htX : tokL (8 + b1.length) X = true)
    (k : okD N d = true ∧ OkPair A i s ((effS (rho s (base + 8 * i)) s a1 ++ effB (rho s (base + 8 * i)) (base + 8 * i) b1).map (·.1)) acc ∧
      adrun P ft N ops A base rest (putF fr d (mapT (rho s (base + 8 * i)) X)) (applyEff hp (effS (rho s (base + 8 * i)) s a1 ++ effB (rho s (base + 8 * i)) (base + 8 * i) b1)) (accE i s ((effS (rho s (base + 8 * i)) s a1 ++ effB (rho s (base + 8 * i)) (base + 8 * i) b1).map (·.1)) acc) Q) : adN P ft N ops A base rest i d fr hp acc Q o :=
  ⟨f, us', ⟨_, _⟩, s, hcv, he, fun hp' ha => CallOk.ic h s hs hnd h8 hk hla hso (hobj.agree fun j hj => ha _ (by
    have : j < s.length := by omega
    simp [sg, List.getD, this])) hus htok hb1 ht1 htX, k⟩
theorem callV_tmp {fr : Nat → AV} {d : Option Tmp} {t : Tmp} {args : Array Operand} {tys : Array TypeId} {ty : TypeId} {pos : String} {af : Array Edge} {g : Option (Nat × Bool)} {f : FuncId} {first cap : List AV} (h : fr t = .clo (.func f) first cap) : callV (evF fr) ⟨d, .call ⟨.value (.tmp t), args, tys⟩, ty, pos, af, g⟩ = some (f, first ++ args.toList.map (evF fr) ++ cap) := by
  simp only [callV, evF, h]
theorem callV_fn {fr : Nat → AV} {d : Option Tmp} {f : FuncId} {args : Array Operand} {tys : Array TypeId} {ty : TypeId} {pos : String} {af : Array Edge} {g : Option (Nat × Bool)} : callV (evF fr) ⟨d, .call ⟨.value (.func f), args, tys⟩, ty, pos, af, g⟩ = some (f, args.toList.map (evF fr)) := (rfl)
theorem aop_callT {P : Program} {ft : FuncId → List AV → Option AV} {fr : Operand → AV} {hp : AHeap} {id : Nat} {d : Option Tmp} {t : Tmp} {args : Array Operand} {tys : Array TypeId} {ty : TypeId} {pos : String} {af : Array Edge} {g : Option (Nat × Bool)} : aop P ft fr hp id ⟨d, .call ⟨.value (.tmp t), args, tys⟩, ty, pos, af, g⟩ = none := (rfl)
theorem resV_ptr (hp : AHeap) (t o n : Nat) : resV hp (.ptr t o n) = none := by simp [resV, inl]
theorem callQ_none (ft : FuncId → List AV → Option AV) (hp : AHeap) (id : Nat) (f : FuncId) (us : List AV) : callQ ft hp id f us none = none := (rfl)
attribute [go_sem] adK_none aop_callT resV_ptr callQ_none
end Go.Gm
namespace Go.Gm
theorem relL_set {E : Env} {u u' : AV} (hu : ∀ v, Rel E u v → Rel E u' v) : ∀ {cs : List AV} {vs : List Value} {i : Nat}, RelL E cs vs → cs[i]? = some u → RelL E (cs.set i u') vs
  | [], _, _, _, hi => by simp at hi
  | c :: cs, vs, 0, h, hi => by
    cases h with
    | cons h1 h2 =>
      simp at hi; subst hi
      exact .cons (hu _ h1) h2
  | c :: cs, vs, i + 1, h, hi => by
    cases h with
    | cons h1 h2 => exact .cons h1 (relL_set hu h2 (by simpa using hi))
theorem Ent.nilCell {N nx sz : Nat} {mu : Bool} {fr : Nat → AV} {hp : AHeap} {cs : List AV} (t i sz' : Nat) (hz : 0 < sz') (h : hp t = some (.row sz mu [cs])) (hi : cs[i]? = some (.val (.slice none 0 0))) : Ent N ⟨fr, hp, nx⟩ ⟨fr, upd (upd hp t (some (.row sz mu [cs.set i (.own nx 0 0)]))) nx (some (.row sz' true [])), nx + 1⟩ := fun P G a w hc => by
  obtain ⟨c1, c2, loc, hM, hr⟩ := conc_iff.1 hc
  clear hc
  have hno : hp nx = none := by
    cases ho : hp nx with
    | none => rfl
    | some o => obtain ⟨l, hl, _⟩ := hM.obj nx o ho; exact absurd (hM.al_ nx l hl) (Nat.lt_irrefl _)
  have htn : t ≠ nx := fun e => by rw [e, hno] at h; cases h
  let l0 : Loc := ⟨0, 0, sz', 0⟩
  have hmt : ∀ b, mtOf (upd (upd hp t (some (.row sz mu [cs.set i (.own nx 0 0)]))) nx (some (.row sz' true []))) (upd loc nx (some l0)) b → mtOf hp loc b := by
    rintro b ⟨t', o', l', h1, h2, h3, h4, h5⟩
    by_cases e : t' = nx
    · subst e; rw [upd_same] at h3; cases h3; exact absurd h5 (Nat.lt_irrefl _)
    · rw [upd_other _ _ e] at h1 h3
      by_cases e2 : t' = t
      · subst e2; rw [upd_same] at h1; cases h1; exact ⟨t', _, l', h, h2, h3, h4, h5⟩
      · rw [upd_other _ _ e2] at h1; exact ⟨t', o', l', h1, h2, h3, h4, h5⟩
  have x : Ext (mkE G.m1 hp (fun t => t < nx) loc w) (mkE G.m1 (upd (upd hp t (some (.row sz mu [cs.set i (.own nx 0 0)]))) nx (some (.row sz' true []))) (fun t => t < nx + 1) (upd loc nx (some l0)) w) :=
    mk_ext (fun _ h => Nat.lt_succ_of_lt h) (fun t' l' ha hl' => by rwa [upd_other _ _ (Nat.ne_of_lt ha)] at hl') (Nat.le_refl _) (fun b _ => hmt b) (fun _ _ _ => rfl)
  refine conc_iff.2 ⟨c1, c2, upd loc nx (some l0), hM.change x (fun t' o' ho => ?_) (fun t' ho => ?_) (fun t' l hl => ?_) (fun t1 t2 l1 l2 k1 k2 p1 p2 hb => ?_) rfl rfl rfl (fun b hb => .inl (hmt b hb)) (fun t' l k1 k2 => ?_), fun d => (hr d).ext x⟩
  · by_cases e : t' = nx
    · subst e; rw [upd_same] at ho; cases ho
      exact .inr ⟨l0, upd_same .., rfl, hz, by simp, by simp [l0], ⟨0, by simp [l0]⟩, fun h => absurd h (Nat.lt_irrefl _)⟩
    · rw [upd_other _ _ e] at ho
      by_cases e2 : t' = t
      · subst e2
        rw [upd_same] at ho; cases ho
        obtain ⟨l, hl', g1, g2, g3, g4, g5, g6⟩ := hM.obj t' _ h
        refine .inr ⟨l, by rw [upd_other _ _ e]; exact hl', g1, g2, by simpa using g3, by simpa using g4, g5, fun hpos => ?_⟩
        obtain ⟨c, e, fz, vs, k1, k2, k3, k4, k5, k6⟩ := g6 hpos
        refine ⟨c, e, fz, vs, k1, k2, ?_, k4, k5, k6⟩
        simp only [List.flatten_cons, List.flatten_nil, List.append_nil] at k3 ⊢
        refine relL_set (fun v hv => ?_) (k3.ext x) hi
        rw [rel_val hv]
        refine .own (Nat.lt_succ_self _) fun l hl => ?_
        have : l = l0 := by simpa [mkE, upd] using hl.symm
        subst this
        exact ⟨none, 0, rfl, hz, by simp [l0], Nat.le_refl _, fun h => absurd h (Nat.lt_irrefl _)⟩
      · rw [upd_other _ _ e2] at ho; exact .inl ⟨ho, upd_other _ _ e, fun _ _ _ => rfl⟩
  · by_cases e : t' = nx
    · subst e; rw [upd_same] at ho; cases ho
    · rw [upd_other _ _ e] at ho
      by_cases e2 : t' = t
      · subst e2; rw [upd_same] at ho; cases ho
      · rw [upd_other _ _ e2] at ho; rw [upd_other _ _ e]; exact hM.none_ t' ho
  · by_cases e : t' = nx
    · subst e; exact Nat.lt_succ_self _
    · rw [upd_other _ _ e] at hl; exact Nat.lt_succ_of_lt (hM.al_ t' l hl)
  · by_cases e1 : t1 = nx
    · subst e1; rw [upd_same] at k1; cases k1; exact absurd p1 (Nat.lt_irrefl _)
    · by_cases e2 : t2 = nx
      · subst e2; rw [upd_same] at k2; cases k2; exact absurd p2 (Nat.lt_irrefl _)
      · rw [upd_other _ _ e1] at k1; rw [upd_other _ _ e2] at k2; exact hM.inj _ _ _ _ k1 k2 p1 p2 hb
  · by_cases e : t' = nx
    · subst e; rw [upd_same] at k1; cases k1; exact absurd k2 (Nat.lt_irrefl _)
    · rw [upd_other _ _ e] at k1; exact .inl ⟨t', l, k1, k2, rfl⟩
theorem normR_map {α : Type} {f : α → List AV} (h : ∀ x, normL (f x) = f x) : ∀ l : List α, normR (l.map f) = l.map f
  | [] => by simp [normR]
  | x :: l => by simp [normR, h x, normR_map h l]
end Go.Gm

set_option linter.unusedVariables false
set_option linter.unusedSimpArgs false
namespace Go.Gm
def fldS (d : Nat) (xs ys : Array Value) (f : Field) : Sem Bool := do Op.equalIn d f.type (← part f.type xs f.offset) (← part f.type ys f.offset)
def fldsE (P : Program) (d : Nat) (xs ys : Array Value) : List Field → Option Bool
  | [] => some true
  | f :: fs => if f.name = "_" then fldsE P d xs ys fs else (evS P (fldS d xs ys f)).bind fun r => if r = true then fldsE P d xs ys fs else some false
theorem eq_struct {P : Program} {d : Nat} {t : TypeId} {xs ys : Array Value} {fs : Array Field} (hu : P.underlying t = some (.struct fs)) (hs : P.stoodInHeld t = false) :
    evS P (Op.equalIn (d + 1) t (.agg xs) (.agg ys)) = fldsE P d xs ys fs.toList := by
  unfold Op.equalIn
  rw [evS_bind, evS_under hu]
  simp only [Option.bind_some, evS_bind, evS_program, hs, Bool.false_eq_true, if_false]
  rw [← Array.forIn_toList]
  generalize fs.toList = l
  induction l with
  | nil => rfl
  | cons f l ih =>
    rw [List.forIn_cons, evS_bind]
    simp only [fldsE]
    by_cases h : f.name = "_"
    · simp only [h, ne_eq, not_true_eq_false, if_false, if_true, evS_pure, Option.bind_some]
      exact ih
    · simp only [h, ne_eq, not_false_eq_true, if_true, if_false, fldS, evS_bind, Option.bind_assoc]
      cases evS P (part f.type xs f.offset) with
      | none => rfl
      | some u =>
        cases evS P (part f.type ys f.offset) with
        | none => rfl
        | some v =>
          simp only [Option.bind_some]
          cases evS P (Op.equalIn d f.type u v) with
          | none => rfl
          | some r =>
            cases r with
            | true =>
              simp only [Option.bind_some, Bool.not_true, Bool.false_eq_true, if_false, if_true, evS_pure]
              simpa only [ne_eq] using ih
            | false =>
              simp only [Option.bind_some, Bool.not_false, Bool.false_eq_true, if_false, if_true, evS_pure]
theorem part_cell {P : Program} {t : TypeId} {cs : Array Value} {off : Nat} {u : TypeDesc} {v : Value} (hu : P.underlying t = some u) (h1 : ∀ fs, u ≠ .struct fs) (h2 : ∀ n e, u ≠ .array n e) (hv : cs[off]? = some v) : evS P (part t cs off) = some v := by
  unfold part isAgg
  rw [evS_bind, evS_bind, evS_under hu, hv]
  cases u <;> first | rfl | exact absurd rfl (h1 _) | exact absurd rfl (h2 _ _)
theorem fld_int {P : Program} {d : Nat} {xs ys : Array Value} {f : Field} {k : IntKind} {a b : Int} (hu : P.underlying f.type = some (.int k)) (hx : xs[f.offset]? = some (.int k a)) (hy : ys[f.offset]? = some (.int k b)) : evS P (fldS (d + 1) xs ys f) = some (decide (a = b)) := by
  unfold fldS
  rw [evS_bind, part_cell hu (by simp) (by simp) hx, Option.bind_some, evS_bind, part_cell hu (by simp) (by simp) hy, Option.bind_some]
  unfold Op.equalIn
  rw [evS_bind, evS_under hu]
  simp [evS_pure, beq_dec]
theorem fld_bool {P : Program} {d : Nat} {xs ys : Array Value} {f : Field} {a b : Bool} (hu : P.underlying f.type = some .bool) (hx : xs[f.offset]? = some (.bool a)) (hy : ys[f.offset]? = some (.bool b)) : evS P (fldS (d + 1) xs ys f) = some (decide (a = b)) := by
  unfold fldS
  rw [evS_bind, part_cell hu (by simp) (by simp) hx, Option.bind_some, evS_bind, part_cell hu (by simp) (by simp) hy, Option.bind_some]
  unfold Op.equalIn
  rw [evS_bind, evS_under hu]
  simp [evS_pure, beq_dec]
theorem binV_struct {P : Program} {t : TypeId} {x y : Operand} {xs ys : Array Value} {fs : Array Field} (hu : P.underlying t = some (.struct fs)) (hs : P.stoodInHeld t = false) (hg : P.eqGuardType P.depth t = false) :
    binV P .eql t x y (.agg xs) (.agg ys) = (fldsE P 9999 xs ys fs.toList).map .bool := by
  unfold binV eqGuard
  rw [← eq_struct hu hs]
  simp only [evS_bind, evS_program, evS_pure, Option.bind_some, hg]
  rw [show (9999 + 1) = Op.maxDepth from rfl]
  simp [binOp, evS_bind, evS_pure, evS_program, evS_map, Op.equal, hg]
/-- What the comparison of a struct looks at: offsets and types. -/
def cmpB (P : Program) (t : TypeId) : Option (List (Nat × TypeId)) := match P.underlying t with
  | some (.struct fs) => if P.stoodInHeld t || P.eqGuardType P.depth t || fs.toList.any (fun f => decide (f.name = "_")) then none else some (fs.toList.map fun f => (f.offset, f.type))
  | _ => none
inductive EqL (P : Program) (xs ys : Array Value) : List (Nat × TypeId) → Bool → Prop
  | nil : EqL P xs ys [] true
  | int {o : Nat} {t : TypeId} {k : IntKind} {a b : Int} {l : List (Nat × TypeId)} {r : Bool} (hu : P.underlying t = some (.int k)) (hx : xs[o]? = some (.int k a)) (hy : ys[o]? = some (.int k b)) (h : EqL P xs ys l r) : EqL P xs ys ((o, t) :: l) (decide (a = b) && r)
  | bool {o : Nat} {t : TypeId} {a b : Bool} {l : List (Nat × TypeId)} {r : Bool} (hu : P.underlying t = some .bool) (hx : xs[o]? = some (.bool a)) (hy : ys[o]? = some (.bool b)) (h : EqL P xs ys l r) : EqL P xs ys ((o, t) :: l) (decide (a = b) && r)
theorem flds_eqL {P : Program} {d : Nat} {xs ys : Array Value} : ∀ {fs : List Field} {r : Bool}, (fs.any fun f => decide (f.name = "_")) = false → EqL P xs ys (fs.map fun f => (f.offset, f.type)) r → fldsE P (d + 1) xs ys fs = some r
  | [], r, _, h => by cases h; rfl
  | f :: fs, r, hn, h => by
    simp only [List.any_cons, Bool.or_eq_false_iff, decide_eq_false_iff_not] at hn
    simp only [fldsE, if_neg hn.1]
    simp only [List.map_cons] at h
    cases h with
    | int hu hx hy hr =>
      rename_i k a b r'
      rw [fld_int hu hx hy, Option.bind_some, flds_eqL hn.2 hr]
      by_cases e : a = b <;> simp [e]
    | bool hu hx hy hr =>
      rename_i a b r'
      rw [fld_bool hu hx hy, Option.bind_some, flds_eqL hn.2 hr]
      by_cases e : a = b <;> simp [e]
theorem binV_cmp {P : Program} {t : TypeId} {x y : Operand} {xs ys : Array Value} {L : List (Nat × TypeId)} {r : Bool} (h : cmpB P t = some L) (hr : EqL P xs ys L r) : binV P .eql t x y (.agg xs) (.agg ys) = some (.bool r) := by
  unfold cmpB at h
  split at h
  · rename_i fs hu
    split at h
    · cases h
    · rename_i hn
      simp only [Bool.or_eq_true, not_or, Bool.not_eq_true] at hn
      cases h
      rw [binV_struct hu hn.1.1 hn.1.2, flds_eqL (d := 9998) hn.2 hr]; rfl
  · cases h
theorem binV_bool {P : Program} {t : TypeId} {x y : Operand} {a b : Bool} (hu : P.underlying t = some .bool) : binV P .eql t x y (.bool a) (.bool b) = some (.bool (decide (a = b))) := by
  have h : evS P (Op.equalIn (9999 + 1) t (.bool a) (.bool b)) = some (decide (a = b)) := by
    unfold Op.equalIn
    rw [evS_bind, evS_under hu]
    simp [evS_pure, beq_dec]
  unfold binV eqGuard
  rw [show (9999 + 1) = Op.maxDepth from rfl] at h
  simp [binOp, evS_bind, evS_pure, evS_program, evS_map, Op.equal, h]
theorem toV_agg (cs : List AV) : toV (.agg cs) = (toVs cs).map fun vs => .agg vs.toArray := by simp only [toV]
theorem toVs_nil : toVs [] = some [] := by simp only [toVs]
theorem toVs_val (v : Value) (cs : List AV) : toVs (.val v :: cs) = (toVs cs).map fun vs => v :: vs := by
  simp only [toVs, toV]
  cases toVs cs <;> rfl
attribute [go_sem] toV_agg toVs_nil toVs_val
def maxI (a b : Int) : Int := if b > a then b else a
def maxK (u v : AV) (r : Option AR) : Option AR := match u, v with
  | .val (.int k a), .val (.int _ b) => some ⟨.val (.int k (maxI a b)), []⟩
  | _, _ => r
theorem aop_max {P : Program} {ft : FuncId → List AV → Option AV} {fr : Operand → AV} {hp : AHeap} {id : Nat} {d : Option Tmp} {x y : Operand} {tys : Array TypeId} {ty : TypeId} {pos : String} {af : Array Edge} {g : Option (Nat × Bool)} : aop P ft fr hp id ⟨d, .call ⟨.builtin .max, #[x, y], tys⟩, ty, pos, af, g⟩ = maxK (fr x) (fr y) (plainA P fr ⟨d, .call ⟨.builtin .max, #[x, y], tys⟩, ty, pos, af, g⟩) := by
  show plainA P fr _ = _
  unfold maxK
  split
  · rename_i k a k' b hx hy
    refine plainA_of ?_ ?_
    · simp [Op.operands, Call.operands, hx, hy, toV]
    · simp [execOp, hx, hy, toV, Builtin.max_, Builtin.max2, evS_bind, evS_pure, evS_map, builtin, resolve, invoke, maxI]
  · rfl
theorem maxK_int {k k' : IntKind} {a b : Int} {r : Option AR} : maxK (.val (.int k a)) (.val (.int k' b)) r = some ⟨.val (.int k (maxI a b)), []⟩ := (rfl)
attribute [go_sem] aop_max maxK_int
theorem adN.pc {P : Program} {ft : FuncId → List AV → Option AV} {N : Nat} {ops : List Oper} {A : List (List Nat)} {base : Nat} {rest : List (Nat × Oper)} {i : Nat} {d : Option Tmp} {fr : Nat → AV} {hp : AHeap} {acc : List (Nat × List Nat × List Nat)} {Q : (Nat → AV) → AHeap → Prop} {o : Oper}
    {f : FuncId} {us xs : List AV} {X : AV} (h : PC P f xs X) (he : Enter P f) (hcv : callV (evF fr) o = some (f, us)) (hres : resL hp us = some xs) (hlen : (claimV X (base + 8 * i)).2.length ≤ 8)
    (k : okD N d = true ∧ OkPair A i (us.flatMap tidA) (((if shares X = true then freezeL hp (us.flatMap tidV) else []) ++ effOf (claimV X (base + 8 * i)).2 (base + 8 * i)).map (·.1)) acc ∧
      adrun P ft N ops A base rest (putF fr d (claimV X (base + 8 * i)).1) (applyEff hp ((if shares X = true then freezeL hp (us.flatMap tidV) else []) ++ effOf (claimV X (base + 8 * i)).2 (base + 8 * i))) (accE i (us.flatMap tidA) (((if shares X = true then freezeL hp (us.flatMap tidV) else []) ++ effOf (claimV X (base + 8 * i)).2 (base + 8 * i)).map (·.1)) acc) Q) : adN P ft N ops A base rest i d fr hp acc Q o := by
  refine ⟨f, us, ⟨_, _⟩, us.flatMap tidA, hcv, he, fun hp' ha => ?_, k⟩
  have hx : ∀ x ∈ us, Agree hp hp' (tidA x) := fun x hx t ht => ha t (List.mem_flatMap.2 ⟨x, hx, ht⟩)
  have h2 : freezeL hp (us.flatMap tidV) = freezeL hp' (us.flatMap tidV) := freezeL_loc fun t ht => by
    obtain ⟨x, hx', ht⟩ := List.mem_flatMap.1 ht
    exact hx x hx' t (tidV_sub t ht)
  rw [h2]
  exact CallOk.of_pc h ((resL_loc hx).symm.trans hres) hlen
theorem callR_none (hp : AHeap) (id : Nat) (us : List AV) : callR hp id us none = none := (rfl)
theorem noFt_ap (f : FuncId) (xs : List AV) : noFt f xs = none := (rfl)
attribute [go_sem] callR_none noFt_ap
def mkO {α : Type} (n : Int) (x : α) : Option (List α) := if 0 ≤ n ∧ n ≤ 2147483648 then some (List.replicate n.toNat x) else none
theorem mkO_some {α : Type} {n : Int} {x : α} {l : List α} : mkO n x = some l ↔ (0 ≤ n ∧ n ≤ 2147483648) ∧ List.replicate n.toNat x = l := by
  unfold mkO; split
  · rename_i h; simp [h]
  · rename_i h; simp [h]
theorem make_ok {P : Program} {α : Type} {enc : α → List AV} {x : α} {n : Int} {l : List α} {t e sz by_ : Nat} {zs : List AV} {k k' : IntKind} (hm : makeC P t = some (e, sz, by_, zs)) (hz : enc x = zs) (hby : by_ ≤ 65536) (h : mkO n x = some l) (id : Nat) :
    makeA P id t (.val (.int k n)) (.val (.int k' n)) = some ⟨.own id 0 l.length, [(id, some (.row sz true (l.map enc)))]⟩ := by
  obtain ⟨⟨h0, h1⟩, rfl⟩ := mkO_some.1 h
  have hb : by_ * n.toNat ≤ 65536 * 2147483648 := Nat.mul_le_mul hby (by omega)
  unfold makeA
  simp only [hm, natOf_le h0]
  rw [if_pos ⟨Nat.le_refl _, by omega, by omega⟩]
  simp [zrow, hz]
theorem set_enc {enc : Int → List AV} {k : IntKind} (h : ∀ v, enc v = [.val (.int k v)]) (l : List Int) (i : Nat) (v : Int) : (l.map enc).set i [.val (.int k v)] = (l.set i v).map enc := by
  rw [← h, List.map_set]
end Go.Gm
