import Derived.Test.YtbdncmljibideaaGreatDoorGoUad
import Derived.Test.YtbdncmljibideaaGreatDoorProg
import Derived.KernelRfl
set_option linter.all false
noncomputable section
namespace Go.Gm
def IC (P : Program) (f : FuncId) (a0 : List (Option AObj)) (us : List AV) (X : AV) (a1 b1 : List (Option AObj)) : Prop :=
 ∀ (m : Nat → Prop) (w : World) (loc : Nat → Option Loc) (vs : List Value) (hm : ∀ b, m b → b < w.heap.size) (h8 : a0.length ≤ 8) (ht : TabH P (mtOf (hpL a0 []) loc) w),
  Mem ⟨w, mtOf (hpL a0 []) loc, m, hm, a0.length, loc, h8, ht⟩ (hpL a0 []) (fun t => t < 8) loc w → RelL (mkE m (hpL a0 []) (fun t => t < 8) loc w) us vs →
  Calls P f vs.toArray w fun e w' => ∃ v loc', e = .returned v ∧ Mem ⟨w, mtOf (hpL a0 []) loc, m, hm, a0.length, loc, h8, ht⟩ (hpL a1 b1) (fun t => t < 8 + b1.length) loc' w' ∧
   Rel (mkE m (hpL a1 b1) (fun t => t < 8 + b1.length) loc' w') X v
def finI (P : Program) (rs : List ResultVar) (X : AV) (a1 b1 : List (Option AObj)) : Exit → ASt → Prop
 | .normal, st | .ret, st => st.hp = hpL a1 b1 ∧ st.nx = 8 + b1.length ∧ ∃ l, resA P st rs = some l ∧ resOf l = X
 | _, _ => False
theorem ic_of {P : Program} {f : FuncId} {fn : Func} {c : Code} {us : List AV} {X : AV} {a0 a1 b1 : List (Option AObj)} {N : Nat} {rs : List ResultVar} (hf : P.funcs[f]? = some fn) (hb : fn.body = some c) (hN : fn.ntmps = N) (hrs : fn.results.toList = rs) (hn : us.length ≤ N)
  (h : AW P N c (finI P rs X a1 b1) ⟨initF us, hpL a0 [], 8⟩) : IC P f a0 us X a1 b1 := by
 subst hN; subst hrs
 intro m w loc vs hm h8 ht hM0 hus
 have hc0 : Conc ⟨w, mtOf (hpL a0 []) loc, m, hm, a0.length, loc, h8, ht⟩ fn.ntmps ⟨initF us, hpL a0 [], 8⟩ { tmps := vs.toArray ++ Array.replicate (fn.ntmps - vs.toArray.size) undef, defers := [] } w := by
  refine ⟨rfl, ?_, loc, hM0, fun d => ?_⟩
  ·have := hus.length
   simp; omega
  ·simp only [initF]
   cases hd : us[d]? with
   | none => exact .any _
   | some u =>
    obtain ⟨v, hv, hr⟩ := hus.get d u hd
    have hlt : d < vs.length := (List.getElem?_eq_some_iff.1 hv).1
    have : ((vs.toArray ++ Array.replicate (fn.ntmps - vs.toArray.size) undef).getD d undef) = v := by
     rw [Array.getD_eq_getD_getElem?, Array.getElem?_append_left (by simpa using hlt)]
     simp [hv]
    simp only [Option.getD_some]
    rw [this]
    exact hr
 refine calls_of_wp hf hb (wp_mono (h none _ _ w hc0) ?_)
 rintro e a' w' ⟨st', hq, hdf, hsz, loc', hM, hrel⟩
 have fin : finI P fn.results.toList X a1 b1 .ret st' →
   a'.defers = [] ∧ ∃ v, (results fn a'.tmps).run P w' = .ok v w' ∧ ∃ v' loc', Ending.returned v = .returned v' ∧ Mem ⟨w, mtOf (hpL a0 []) loc, m, hm, a0.length, loc, h8, ht⟩ (hpL a1 b1) (fun t => t < 8 + b1.length) loc' w' ∧
    Rel (mkE m (hpL a1 b1) (fun t => t < 8 + b1.length) loc' w') X v' := by
  rintro ⟨h1, h2, l, hl, hX⟩
  obtain ⟨vs', hv, hrl⟩ := results_rel hM hrel hl
  have hrun : (results fn a'.tmps).run P w' = .ok (if h : vs'.toArray.size = 1 then vs'.toArray[0] else .tuple vs'.toArray) w' := by
   rw [results_eq, Sem.run_bind]
   have hm : (fn.results.mapM (resItem a'.tmps)).run P w' = .ok vs'.toArray w' := by
    rw [Array.mapM_eq_mapM_toList, Sem.run_map, hv]; rfl
   rw [hm]; rfl
  refine ⟨hdf, _, hrun, _, loc', rfl, ?_, ?_⟩
  ·rw [h1, h2] at hM; exact hM
  ·have := relL_resOf hrl
   rw [h1, h2, hX] at this; exact this
 cases e with
 | normal => exact fin hq
 | ret => exact fin hq
 | _ => exact hq.elim
mutual
theorem rel_map {τ : Nat → Nat} {m : Nat} {E E' : Env} (mv : Move E E') (al : ∀ t, t < m → E'.al (τ t)) (lo : ∀ t l, t < m → E'.loc (τ t) = some l → E.loc t = some l) : ∀ {u : AV} {v : Value}, tokL m u = true → Rel E u v → Rel E' (mapT τ u) v
 | .own t off len, v, h, hr => by
  simp only [tokL, decide_eq_true_eq] at h
  simp only [mapT]
  cases hr with
  | own ha hh => exact .own (al t h) fun l hl => hh l (lo t l h hl)
 | .ptr t off len, v, h, hr => by
  simp only [tokL, decide_eq_true_eq] at h
  simp only [mapT]
  cases hr with
  | ptr ha hh => exact .ptr (al t h) fun l hl => hh l (lo t l h hl)
 | .mp t, v, h, hr => by
  simp only [tokL, decide_eq_true_eq] at h
  simp only [mapT]
  cases hr with
  | mp ha hh => exact .mp (al t h) fun l hl => hh l (lo t l h hl)
 | .agg cs, v, h, hr => by
  simp only [tokL] at h
  simp only [mapT]
  cases hr with
  | agg hl => exact .agg (relL_map' mv al lo h hl)
 | .tup cs, v, h, hr => by
  simp only [tokL] at h
  simp only [mapT]
  cases hr with
  | tup hl => exact .tup (relL_map' mv al lo h hl)
 | .clo fn f c, v, h, hr => by
  simp only [tokL, Bool.and_eq_true] at h
  simp only [mapT]
  cases hr with
  | clo hf hc => exact .clo (relL_map' mv al lo h.1 hf) (relL_map' mv al lo h.2 hc)
 | .ifc ty u, v, h, hr => by
  simp only [tokL] at h
  simp only [mapT]
  cases hr with
  | ifc hu => exact .ifc (rel_map mv al lo h hu)
 | .val w, v, h, hr => by
  simp only [mapT]
  cases hr
  exact .val _
 | .any, v, h, hr => by simp only [mapT]; exact .any _
 | .im es, v, h, hr => by
  simp only [mapT]
  exact Rel.move mv (by simp [inl]) hr
 | .sl rows, v, h, hr => by
  simp only [mapT]
  exact Rel.move mv (by simpa [inl, tokL] using h) hr
 | .ip cs, v, h, hr => by
  simp only [mapT]
  exact Rel.move mv (by simpa [inl, tokL] using h) hr
 | .fr sz rows, v, h, hr => by simp [tokL] at h
theorem relL_map' {τ : Nat → Nat} {m : Nat} {E E' : Env} (mv : Move E E') (al : ∀ t, t < m → E'.al (τ t)) (lo : ∀ t l, t < m → E'.loc (τ t) = some l → E.loc t = some l) : ∀ {us : List AV} {vs : List Value}, tokLL m us = true → RelL E us vs → RelL E' (mapTL τ us) vs
 | [], vs, _, hr => by
  simp only [mapTL]
  cases hr; exact .nil
 | u :: us, vs, h, hr => by
  simp only [tokLL, Bool.and_eq_true] at h
  simp only [mapTL]
  cases hr with
  | cons h1 hs => exact .cons (rel_map mv al lo h.1 h1) (relL_map' mv al lo h.2 hs)
end
def renO (τ : Nat → Nat) : Option AObj → Option AObj
 | some (.row sz mu rows) => some (.row sz mu (rows.map (mapTL τ)))
 | some (.mapo es) => some (.mapo es)
 | none => none
def tokO (m : Nat) : Option AObj → Bool
 | some (.row _ _ rows) => rows.all (tokLL m)
 | some _ => true
 | none => true
def rho (s : List Nat) (id t : Nat) : Nat := if t < s.length then s.getD t 0 else if t < 8 then id + 7 else id + (t - 8)
def sg (s : List Nat) (t : Nat) : Nat := s.getD t 0
def effS (τ : Nat → Nat) : List Nat → List (Option AObj) → List (Nat × Option AObj)
 | [], _ => []
 | t :: s, o :: a => (t, renO τ o) :: effS τ s a
 | t :: s, [] => (t, none) :: effS τ s []
def effB (τ : Nat → Nat) : Nat → List (Option AObj) → List (Nat × Option AObj)
 | _, [] => []
 | id, o :: b => (id, renO τ o) :: effB τ (id + 1) b
theorem effS_out (τ : Nat → Nat) : ∀ (s : List Nat) (a : List (Option AObj)) (hp : AHeap) (t : Nat), t ∉ s → applyEff hp (effS τ s a) t = hp t
 | [], _, _, _, _ => rfl
 | q :: s, o :: a, hp, t, h => by
  simp only [List.mem_cons, not_or] at h
  simp only [effS, applyEff]
  rw [effS_out τ s a _ t h.2, upd_other _ _ h.1]
 | q :: s, [], hp, t, h => by
  simp only [List.mem_cons, not_or] at h
  simp only [effS, applyEff]
  rw [effS_out τ s [] _ t h.2, upd_other _ _ h.1]
theorem effS_in (τ : Nat → Nat) : ∀ (s : List Nat) (a : List (Option AObj)) (hp : AHeap) (i t : Nat), s.Nodup → s[i]? = some t → applyEff hp (effS τ s a) t = renO τ ((a[i]?).getD none)
 | [], _, _, _, _, _, h => by simp at h
 | q :: s, o :: a, hp, 0, t, hn, h => by
  simp at h; subst h
  simp only [effS, applyEff]
  rw [effS_out τ s a _ q (List.nodup_cons.1 hn).1, upd_same]; simp
 | q :: s, [], hp, 0, t, hn, h => by
  simp at h; subst h
  simp only [effS, applyEff]
  rw [effS_out τ s [] _ q (List.nodup_cons.1 hn).1, upd_same]; simp [renO]
 | q :: s, o :: a, hp, i + 1, t, hn, h => by
  simp only [effS, applyEff]
  rw [effS_in τ s a _ i t (List.nodup_cons.1 hn).2 (by simpa using h)]; simp
 | q :: s, [], hp, i + 1, t, hn, h => by
  simp only [effS, applyEff]
  rw [effS_in τ s [] _ i t (List.nodup_cons.1 hn).2 (by simpa using h)]; simp
theorem effB_out (τ : Nat → Nat) : ∀ (b : List (Option AObj)) (id : Nat) (hp : AHeap) (t : Nat), ¬ (id ≤ t ∧ t < id + b.length) → applyEff hp (effB τ id b) t = hp t
 | [], _, _, _, _ => rfl
 | o :: b, id, hp, t, h => by
  simp only [List.length_cons] at h
  simp only [effB, applyEff]
  rw [effB_out τ b (id + 1) _ t (by omega), upd_other _ _ (by omega)]
theorem effB_in (τ : Nat → Nat) : ∀ (b : List (Option AObj)) (id : Nat) (hp : AHeap) (j : Nat), j < b.length → applyEff hp (effB τ id b) (id + j) = renO τ ((b[j]?).getD none)
 | [], _, _, _, h => by simp at h
 | o :: b, id, hp, 0, h => by
  simp only [effB, applyEff]
  rw [effB_out τ b (id + 1) _ _ (by omega)]; simp [upd_same]
 | o :: b, id, hp, j + 1, h => by
  simp only [effB, applyEff]
  rw [show id + (j + 1) = id + 1 + j by omega, effB_in τ b (id + 1) _ j (by simpa using h)]; simp
theorem renO_isMut {τ : Nat → Nat} {o : Option AObj} {x : AObj} (h : renO τ o = some x) : ∃ y, o = some y ∧ y.isMut = x.isMut := by
 unfold renO at h
 split at h
 ·cases h; exact ⟨_, rfl, rfl⟩
 ·cases h; exact ⟨_, rfl, rfl⟩
 ·cases h
theorem objAt_map {τ : Nat → Nat} {m : Nat} {E E' : Env} {l : Loc} (mv : Move E E') (al : ∀ t, t < m → E'.al (τ t)) (lo : ∀ t l, t < m → E'.loc (τ t) = some l → E.loc t = some l) (hh : E'.w.heap = E.w.heap) {o : AObj} {x : AObj} (hx : renO τ (some o) = some x) (ht : tokO m (some o) = true) (h : ObjAt E l o) : ObjAt E' l x := by
 cases o with
 | mapo es => simp only [renO] at hx; cases hx; obtain ⟨h0, ens, clock, h1, h2⟩ := h; exact ⟨h0, ens, clock, by rw [hh]; exact h1, h2⟩
 | row sz mu rows =>
  simp only [renO] at hx; cases hx
  simp only [tokO] at ht
  obtain ⟨g1, g2, g3, g4, g5, g6⟩ := h
  refine ⟨g1, g2, fun r hr => ?_, by simpa using g4, g5, fun hpos => ?_⟩
  ·obtain ⟨r', hr', rfl⟩ := List.mem_map.1 hr
   rw [mapTL_length]; exact g3 r' hr'
  ·obtain ⟨c, e, fz, vs, k1, k2, k3, k4, k5, k6⟩ := g6 hpos
   exact ⟨c, e, fz, vs, by rw [hh]; exact k1, k2, by rw [flat_map]; exact relL_map' mv al lo (flat_tok m ht) k3, k4, k5, k6⟩
theorem oren_isMut {τ : Nat → Nat} {m : Nat} {o : Option AObj} {x : AObj} (h : ORen τ m o (some x)) : ∃ y, o = some y ∧ y.isMut = x.isMut := by
 cases h with
 | inl => exact ⟨_, rfl, rfl⟩
 | map => exact ⟨_, rfl, rfl⟩
 | mp => exact ⟨_, rfl, rfl⟩
theorem objAt_ren {τ : Nat → Nat} {m : Nat} {E E' : Env} {l : Loc} (x : Ren τ m E E') (hh : E'.w.heap = E.w.heap) {o o' : AObj} (hO : ORen τ m (some o) (some o')) (h : ObjAt E l o) : ObjAt E' l o' := by
 cases hO with
 | inl hin =>
  obtain ⟨g1, g2, g3, g4, g5, g6⟩ := h
  refine ⟨g1, g2, g3, g4, g5, fun hpos => ?_⟩
  obtain ⟨c, e, fz, vs, k1, k2, k3, k4, k5, k6⟩ := g6 hpos
  exact ⟨c, e, fz, vs, by rw [hh]; exact k1, k2, RelL.move x.mv (by rw [← inlR_flatten]; exact hin) k3, k4, k5, k6⟩
 | map hin =>
  rename_i rows
  obtain ⟨g1, g2, g3, g4, g5, g6⟩ := h
  refine ⟨g1, g2, fun r hr => ?_, by simpa using g4, g5, fun hpos => ?_⟩
  ·have := g3 (mapTL τ r) (List.mem_map.2 ⟨r, hr, rfl⟩)
   rwa [mapTL_length] at this
  ·obtain ⟨c, e, fz, vs, k1, k2, k3, k4, k5, k6⟩ := g6 hpos
   rw [flat_map] at k3
   exact ⟨c, e, fz, vs, by rw [hh]; exact k1, k2, relL_ren x (flat_tok m hin) k3, k4, k5, k6⟩
 | mp => obtain ⟨h0, ens, clock, h1, h2⟩ := h; exact ⟨h0, ens, clock, by rw [hh]; exact h1, h2⟩
theorem CallOk.of_ic {P : Program} {f : FuncId} {a0 a1 b1 : List (Option AObj)} {us us' : List AV} {X : AV} {hp : AHeap} {id : Nat} (h : IC P f a0 us X a1 b1) (s : List Nat) (hs : s.length = a0.length) (hnd : s.Nodup) (h8 : a0.length ≤ 8) (hk : b1.length ≤ 7) (hla : a1.length ≤ a0.length)
  (hobj : ∀ i o, a0[i]? = some o → (∃ x, o = some x) ∧ ORen (sg s) a0.length (hp (sg s i)) o) (hus : WeakL us' (mapTL (sg s) us)) (htok : tokLL a0.length us = true)
  (hb1 : ∀ o ∈ b1, ∃ x, o = some x ∧ x.isMut = true) (ht1 : ∀ o ∈ a1 ++ b1, tokO (8 + b1.length) o = true) (htX : tokL (8 + b1.length) X = true) :
  CallOk P f us' hp id ⟨mapT (rho s id) X, effS (rho s id) s a1 ++ effB (rho s id) id b1⟩ := fun G al loc w vs hM hf hr => by
 classical
 -- the callee's view
 let locc : Nat → Option Loc := fun i => if i < a0.length then loc (sg s i) else none
 let mF : Nat → Prop := fun b => G.m1 b ∨ ∃ t o l, hp t = some o ∧ o.isMut = true ∧ loc t = some l ∧ l.b = b ∧ l.st < l.n ∧ t ∉ s
 have hmF : ∀ b, mF b → b < w.heap.size := fun b hb => by
  rcases hb with hb | ⟨t, o, l, h1, h2, h3, h4, h5, h6⟩
  ·exact Nat.lt_of_lt_of_le (G.m1lt b hb) hM.size
  ·rw [← h4]; exact hM.lt h3 h5
 have hsg : ∀ i, i < a0.length → s[i]? = some (sg s i) := fun i hi => by
  have : i < s.length := by omega
  simp [sg, List.getD, this]
 have hsmem : ∀ i, i < a0.length → sg s i ∈ s := fun i hi => List.mem_of_getElem? (hsg i hi)
 have hsinj : ∀ i j, i < a0.length → j < a0.length → sg s i = sg s j → i = j := fun i j hi hj e => by
  have h1 := hsg i hi
  have h2 := hsg j hj
  rw [e] at h1
  exact nodup_inj hnd h1 h2
 have ha0 : ∀ i, i < a0.length → ∃ x, a0[i]? = some (some x) ∧ ORen (sg s) a0.length (hp (sg s i)) (some x) := fun i hi => by
  obtain ⟨⟨x, hx⟩, hO⟩ := hobj i a0[i] (by simp [hi])
  exact ⟨x, by rw [← hx]; simp [hi], hx ▸ hO⟩
 have hpa0 : ∀ t o, hpL a0 [] t = some o → t < a0.length ∧ a0[t]? = some (some o) := fun t o ho => by
  simp only [hpL] at ho
  split at ho
  ·cases hq : a0[t]? with
   | none => rw [hq] at ho; cases ho
   | some q => rw [hq] at ho; simp at ho; subst ho; exact ⟨(List.getElem?_eq_some_iff.1 hq).1, rfl⟩
  ·simp at ho
 have hmt0 : ∀ b, mtOf (hpL a0 []) locc b → mtOf hp loc b ∧ ∃ i l, i < a0.length ∧ loc (sg s i) = some l ∧ l.b = b ∧ l.st < l.n := by
  rintro b ⟨t, o, l, h1, h2, h3, h4, h5⟩
  obtain ⟨hlt, ho⟩ := hpa0 t o h1
  obtain ⟨x, hx, hO⟩ := ha0 t hlt
  rw [ho] at hx; cases hx
  obtain ⟨y, hy, hmu⟩ := oren_isMut hO
  simp only [locc, hlt, if_true] at h3
  exact ⟨⟨sg s t, y, l, hy, by rw [hmu]; exact h2, h3, h4, h5⟩, t, l, hlt, h3, h4, h5⟩
 have hren : Ren (sg s) a0.length (mkE G.m1 hp al loc w) (mkE mF (hpL a0 []) (fun t => t < 8) locc w) :=
  ⟨⟨Nat.le_refl _, fun b _ hn => ⟨fun hc => hn (by
   rcases hc with hc | hc | ⟨t, o, l, h1, h2, h3, h4, h5, h6⟩
   ·exact .inl (hmt0 b hc).1
   ·exact .inr hc
   ·exact .inl ⟨t, o, l, h1, h2, h3, h4, h5⟩), rfl⟩⟩, fun t ht => show t < 8 by omega, fun t l ht hl => by simpa only [mkE, locc, ht, if_true] using hl⟩
 have htb : TabH P (mtOf (hpL a0 []) locc) w := hM.tab.sub fun b hb => (hmt0 b hb).1
 have hMc : Mem ⟨w, mtOf (hpL a0 []) locc, mF, hmF, a0.length, locc, h8, htb⟩ (hpL a0 []) (fun t => t < 8) locc w := by
  refine ⟨fun t o ho => ?_, fun t ho => ?_, fun t l hl => ?_, fun t t' l l' h1 h2 p1 p2 hb => ?_, rfl, rfl, rfl, Nat.le_refl _, fun _ _ _ => rfl, fun b hb _ => hb, fun t l hl hpos hmm => ?_, fun t ht => show t < 8 by have : t < a0.length := ht; omega, fun t l _ hl => hl⟩
  ·obtain ⟨hlt, ho'⟩ := hpa0 t o ho
   obtain ⟨x, hx, hO⟩ := ha0 t hlt
   rw [ho'] at hx; cases hx
   obtain ⟨y, hy, _⟩ := oren_isMut hO
   obtain ⟨l, hl, hob⟩ := hM.obj _ _ hy
   exact ⟨l, by simp only [locc, hlt, if_true]; exact hl, objAt_ren hren rfl (hy ▸ hO) hob⟩
  ·simp only [locc]
   split
   ·rename_i hlt
    obtain ⟨x, hx, _⟩ := ha0 t hlt
    have : hpL a0 [] t = some x := by simp only [hpL]; rw [if_pos (by omega), hx]; rfl
    rw [this] at ho; cases ho
   ·rfl
  ·simp only [locc] at hl
   split at hl
   ·show t < 8; omega
   ·cases hl
  ·simp only [locc] at h1 h2
   split at h1
   ·split at h2
    ·rename_i g1 g2; exact hsinj t t' g1 g2 (hM.inj _ _ _ _ h1 h2 p1 p2 hb)
    ·cases h2
   ·cases h1
  ·simp only [locc] at hl
   split at hl
   ·rename_i hlt
    rcases hmm with hmm | ⟨t', o', l', k1, k2, k3, k4, k5, k6⟩
    ·exact hM.fgn _ l hl hpos hmm
    ·exact k6 (hM.inj _ _ _ _ k3 hl k5 hpos k4 ▸ hsmem t hlt)
   ·cases hl
 have hargs : RelL (mkE mF (hpL a0 []) (fun t => t < 8) locc w) us vs := relL_ren hren htok (hus _ _ hr)
 refine (h mF w locc vs hmF h8 htb hMc hargs).mono ?_
 rintro e w' ⟨v, loc1, rfl, hM1, hv⟩
 -- the caller's view afterwards
 let k := b1.length
 let hp2 := applyEff hp (effS (rho s id) s a1 ++ effB (rho s id) id b1)
 let loc2 : Nat → Option Loc := fun t => if t ∈ s then loc1 (s.idxOf t) else if id ≤ t ∧ t < id + b1.length then loc1 (8 + (t - id)) else loc t
 have hsal : ∀ t ∈ s, al t := fun t ht => by
  obtain ⟨i, hi⟩ := List.getElem?_of_mem ht
  have hlt : i < a0.length := by have := (List.getElem?_eq_some_iff.1 hi).1; omega
  obtain ⟨x, hx, hO⟩ := ha0 i hlt
  have : sg s i = t := by have := hsg i hlt; rw [hi] at this; exact (Option.some.inj this).symm
  obtain ⟨y, hy, _⟩ := oren_isMut hO
  obtain ⟨l, hl, _⟩ := hM.obj _ _ hy
  rw [this] at hl
  exact hM.al_ t l hl
 have hidx : ∀ i, i < a0.length → s.idxOf (sg s i) = i := fun i hi => by
  have hm := hsmem i hi
  have h1 : s[s.idxOf (sg s i)]? = some (sg s i) := by
   have hl := List.idxOf_lt_length_of_mem hm
   rw [List.getElem?_eq_getElem hl]; simp
  exact nodup_inj hnd h1 (hsg i hi)
 have hsnew : ∀ t ∈ s, ¬ (id ≤ t ∧ t < id + b1.length) := fun t ht hc => hf t hc.1 (by omega) (hsal t ht)
 have hp2s : ∀ i, i < a0.length → hp2 (sg s i) = renO (rho s id) ((a1[i]?).getD none) := fun i hi => by
  simp only [hp2]
  rw [applyEff_append, effB_out _ _ _ _ _ (hsnew _ (hsmem i hi)), effS_in _ s a1 hp i _ hnd (hsg i hi)]
 have hp2n : ∀ j, j < b1.length → hp2 (id + j) = renO (rho s id) ((b1[j]?).getD none) := fun j hj => by
  simp only [hp2]
  rw [applyEff_append, effB_in _ _ _ _ _ hj]
 have hp2o : ∀ t, t ∉ s → ¬ (id ≤ t ∧ t < id + b1.length) → hp2 t = hp t := fun t h1 h2 => by
  simp only [hp2]
  rw [applyEff_append, effB_out _ _ _ _ _ h2, effS_out _ _ _ _ _ h1]
 have loc2s : ∀ i, i < a0.length → loc2 (sg s i) = loc1 i := fun i hi => by simp only [loc2, hsmem i hi, if_true, hidx i hi]
 have loc2n : ∀ j, j < b1.length → loc2 (id + j) = loc1 (8 + j) := fun j hj => by
  have : id + j ∉ s := fun hm => hsnew _ hm ⟨by omega, by omega⟩
  simp only [loc2, this, if_false]
  rw [if_pos ⟨by omega, by omega⟩]; congr 1; omega
 have loc2o : ∀ t, t ∉ s → ¬ (id ≤ t ∧ t < id + b1.length) → loc2 t = loc t := fun t h1 h2 => by simp only [loc2, h1, h2, if_false]
 -- every id is of one kind
 have kind : ∀ t, (∃ i, i < a0.length ∧ t = sg s i) ∨ (∃ j, j < b1.length ∧ t = id + j) ∨ (t ∉ s ∧ ¬ (id ≤ t ∧ t < id + b1.length)) := fun t => by
  by_cases h1 : t ∈ s
  ·obtain ⟨i, hi⟩ := List.getElem?_of_mem h1
   have hlt : i < a0.length := by have := (List.getElem?_eq_some_iff.1 hi).1; omega
   exact .inl ⟨i, hlt, by have := hsg i hlt; rw [hi] at this; exact Option.some.inj this⟩
  ·by_cases h2 : id ≤ t ∧ t < id + b1.length
   ·exact .inr (.inl ⟨t - id, by omega, by omega⟩)
   ·exact .inr (.inr ⟨h1, h2⟩)
 have hpa1 : ∀ i, i < a0.length → hpL a1 b1 i = (a1[i]?).getD none := fun i hi => by simp only [hpL]; rw [if_pos (by omega)]
 have hpb1 : ∀ j, hpL a1 b1 (8 + j) = (b1[j]?).getD none := fun j => by simp only [hpL]; rw [if_neg (by omega)]; simp
 have oldloc : ∀ i l, i < a0.length → loc1 i = some l → loc (sg s i) = some l := fun i l hi hl => by
  have := hM1.idn i l hi hl
  simpa only [locc, hi, if_true] using this
 have hmt2 : ∀ b, mtOf hp2 loc2 b → mtOf (hpL a1 b1) loc1 b ∨ ∃ t o l, hp t = some o ∧ o.isMut = true ∧ loc t = some l ∧ l.b = b ∧ l.st < l.n ∧ t ∉ s := by
  rintro b ⟨t, o, l, h1, h2, h3, h4, h5⟩
  rcases kind t with ⟨i, hi, rfl⟩ | ⟨j, hj, rfl⟩ | ⟨g1, g2⟩
  ·rw [hp2s i hi] at h1
   obtain ⟨y, hy, hmu⟩ := renO_isMut h1
   rw [loc2s i hi] at h3
   exact .inl ⟨i, y, l, by rw [hpa1 i hi]; exact hy, by rw [hmu]; exact h2, h3, h4, h5⟩
  ·rw [hp2n j hj] at h1
   obtain ⟨y, hy, hmu⟩ := renO_isMut h1
   rw [loc2n j hj] at h3
   exact .inl ⟨8 + j, y, l, by rw [hpb1 j]; exact hy, by rw [hmu]; exact h2, h3, h4, h5⟩
  ·rw [hp2o t g1 g2] at h1
   rw [loc2o t g1 g2] at h3
   exact .inr ⟨t, o, l, h1, h2, h3, h4, h5, g1⟩
 have hmt2' : ∀ b, b < w.heap.size → mtOf hp2 loc2 b → mtOf hp loc b := fun b hb hm => by
  rcases hmt2 b hm with hm | ⟨t, o, l, h1, h2, h3, h4, h5, _⟩
  ·exact (hmt0 b (hM1.muts b hm hb)).1
  ·exact ⟨t, o, l, h1, h2, h3, h4, h5⟩
 have hxx : Ext (mkE G.m1 hp al loc w) (mkE G.m1 hp2 (alR al id) loc2 w') := by
  refine mk_ext (fun _ h => .inl h) (fun t l ha hl => ?_) hM1.size hmt2' (fun b hb hn => ?_)
  ·rcases kind t with ⟨i, hi, rfl⟩ | ⟨j, hj, rfl⟩ | ⟨g1, g2⟩
   ·rw [loc2s i hi] at hl; exact oldloc i l hi hl
   ·exact absurd ha (hf _ (by omega) (by omega))
   ·rwa [loc2o t g1 g2] at hl
  ·exact hM1.keep b hb fun hm => hn (hmt0 b hm).1
 have hmv : Move (mkE mF (hpL a1 b1) (fun t => t < 8 + b1.length) loc1 w') (mkE G.m1 hp2 (alR al id) loc2 w') :=
  ⟨Nat.le_refl _, fun b _ hn => ⟨fun hc => hn (by
   rcases hc with hc | hc
   ·rcases hmt2 b hc with hc | hc
    ·exact .inl hc
    ·exact .inr (.inr hc)
   ·exact .inr (.inl hc)), rfl⟩⟩
 have hrho1 : ∀ i, i < a0.length → rho s id i = sg s i := fun i hi => by simp only [rho, hs, hi, if_true, sg]
 have hrho2 : ∀ j, rho s id (8 + j) = id + j := fun j => by
  simp only [rho]; rw [if_neg (by omega), if_neg (by omega)]; congr 1; omega
 have hrho3 : ∀ i, ¬ i < a0.length → i < 8 → rho s id i = id + 7 := fun i h1 h2 => by simp only [rho, hs, h1, if_false, h2, if_true]
 have halr : ∀ t, t < 8 + b1.length → alR al id (rho s id t) := fun t ht => by
  by_cases h1 : t < a0.length
  ·rw [hrho1 t h1]; exact .inl (hsal _ (hsmem t h1))
  ·by_cases h2 : t < 8
   ·rw [hrho3 t h1 h2]; exact .inr ⟨by omega, by omega⟩
   ·obtain ⟨j, rfl⟩ : ∃ j, t = 8 + j := ⟨t - 8, by omega⟩
    rw [hrho2]; exact .inr ⟨by omega, by omega⟩
 have hlor : ∀ t l, t < 8 + b1.length → loc2 (rho s id t) = some l → loc1 t = some l := fun t l ht hl => by
  by_cases h1 : t < a0.length
  ·rw [hrho1 t h1, loc2s t h1] at hl; exact hl
  ·by_cases h2 : t < 8
   ·rw [hrho3 t h1 h2] at hl
    have hno : ¬ al (id + 7) := hf _ (by omega) (by omega)
    rw [loc2o _ (fun hm => hno (hsal _ hm)) (by omega)] at hl
    exact absurd (hM.al_ _ l hl) hno
   ·obtain ⟨j, rfl⟩ : ∃ j, t = 8 + j := ⟨t - 8, by omega⟩
    rw [hrho2, loc2n j (by omega)] at hl; exact hl
 refine ⟨v, loc2, rfl, ?_, hxx, rel_map hmv halr hlor htX hv⟩
 refine ⟨fun t o ho => ?_, fun t ho => ?_, fun t l hl => ?_, fun t1 t2 l1 l2 k1 k2 p1 p2 hb => ?_, hM1.os.trans hM.os, hM1.tape.trans hM.tape, hM1.output.trans hM.output, Nat.le_trans hM.size hM1.size, fun b hb hn => ?_, fun b hb hlt => ?_, fun t l hl hpos => ?_, fun t ht => .inl (hM.aln t ht), fun t l ht hl => ?_⟩
 ·change hp2 t = some o at ho
  rcases kind t with ⟨i, hi, rfl⟩ | ⟨j, hj, rfl⟩ | ⟨g1, g2⟩
  ·rw [hp2s i hi] at ho
   obtain ⟨y, hy, _⟩ := renO_isMut ho
   obtain ⟨l, hl, hob⟩ := hM1.obj i y (by rw [hpa1 i hi]; exact hy)
   refine ⟨l, (loc2s i hi).trans hl, objAt_map hmv halr hlor rfl (hy ▸ ho) ?_ hob⟩
   cases hq : a1[i]? with
   | none => rw [hq] at hy; cases hy
   | some q => rw [hq] at hy; simp at hy; subst hy; exact ht1 _ (List.mem_append_left _ (List.mem_of_getElem? hq))
  ·rw [hp2n j hj] at ho
   obtain ⟨y, hy, _⟩ := renO_isMut ho
   obtain ⟨l, hl, hob⟩ := hM1.obj (8 + j) y (by rw [hpb1 j]; exact hy)
   refine ⟨l, (loc2n j hj).trans hl, objAt_map hmv halr hlor rfl (hy ▸ ho) ?_ hob⟩
   cases hq : b1[j]? with
   | none => rw [hq] at hy; cases hy
   | some q => rw [hq] at hy; simp at hy; subst hy; exact ht1 _ (List.mem_append_right _ (List.mem_of_getElem? hq))
  ·rw [hp2o t g1 g2] at ho
   obtain ⟨l, hl, hob⟩ := hM.obj t o ho
   refine ⟨l, (loc2o t g1 g2).trans hl, hob.ext hxx fun hpos => hM1.keep l.b (hM.lt hl hpos) fun hm => ?_⟩
   obtain ⟨_, i, l', hi, hl', hb', hp'⟩ := hmt0 l.b hm
   exact g1 (hM.inj _ _ _ _ hl' hl hp' hpos hb' ▸ hsmem i hi)
 ·change hp2 t = none at ho
  rcases kind t with ⟨i, hi, rfl⟩ | ⟨j, hj, rfl⟩ | ⟨g1, g2⟩
  ·rw [loc2s i hi]
   refine hM1.none_ i ?_
   rw [hp2s i hi] at ho
   rw [hpa1 i hi]
   cases hq : a1[i]? with
   | none => rfl
   | some q =>
    rw [hq] at ho; simp only [Option.getD_some] at ho ⊢
    cases q with
    | none => rfl
    | some q =>
     have := ht1 _ (List.mem_append_left _ (List.mem_of_getElem? hq))
     cases q with
     | row => simp [renO] at ho
     | mapo => simp [renO] at ho
  ·rw [hp2n j hj] at ho
   obtain ⟨x, hx, hmu⟩ := hb1 b1[j] (List.getElem_mem hj)
   have ht := ht1 _ (List.mem_append_right _ (List.getElem_mem hj))
   rw [List.getElem?_eq_getElem hj] at ho
   simp only [Option.getD_some] at ho
   rw [hx] at ho ht
   cases x with
   | row => simp [renO] at ho
   | mapo => simp [renO] at ho
  ·rw [loc2o t g1 g2]; rw [hp2o t g1 g2] at ho; exact hM.none_ t ho
 ·rcases kind t with ⟨i, hi, rfl⟩ | ⟨j, hj, rfl⟩ | ⟨g1, g2⟩
  ·exact .inl (hsal _ (hsmem i hi))
  ·exact .inr ⟨by omega, by omega⟩
  ·rw [loc2o t g1 g2] at hl; exact .inl (hM.al_ t l hl)
 ·have newold : ∀ j t l l', j < b1.length → t ∉ s → ¬ (id ≤ t ∧ t < id + b1.length) → loc1 (8 + j) = some l → loc t = some l' → l.st < l.n → l'.st < l'.n → l.b = l'.b → False := fun j t l l' hj g1 g2 h1 h2 q1 q2 hbb => by
   obtain ⟨x, hx, hmu⟩ := hb1 b1[j] (List.getElem_mem hj)
   have hmm : mtOf (hpL a1 b1) loc1 l'.b := ⟨8 + j, x, l, by rw [hpb1 j, List.getElem?_eq_getElem hj, hx]; rfl, hmu, h1, hbb, q1⟩
   obtain ⟨_, i, l3, hi, hl3, hb3, hp3⟩ := hmt0 _ (hM1.muts _ hmm (hM.lt h2 q2))
   exact g1 (hM.inj _ _ _ _ hl3 h2 hp3 q2 hb3 ▸ hsmem i hi)
  rcases kind t1 with ⟨i, hi, rfl⟩ | ⟨j, hj, rfl⟩ | ⟨g1, g2⟩
  ·rw [loc2s i hi] at k1
   rcases kind t2 with ⟨i', hi', rfl⟩ | ⟨j', hj', rfl⟩ | ⟨g1', g2'⟩
   ·rw [loc2s i' hi'] at k2; rw [hM1.inj _ _ _ _ k1 k2 p1 p2 hb]
   ·rw [loc2n j' hj'] at k2; have := hM1.inj _ _ _ _ k1 k2 p1 p2 hb; omega
   ·rw [loc2o t2 g1' g2'] at k2
    exact absurd (hM.inj _ _ _ _ (oldloc i l1 hi k1) k2 p1 p2 hb ▸ hsmem i hi) g1'
  ·rw [loc2n j hj] at k1
   rcases kind t2 with ⟨i', hi', rfl⟩ | ⟨j', hj', rfl⟩ | ⟨g1', g2'⟩
   ·rw [loc2s i' hi'] at k2; have := hM1.inj _ _ _ _ k1 k2 p1 p2 hb; omega
   ·rw [loc2n j' hj'] at k2; have := hM1.inj _ _ _ _ k1 k2 p1 p2 hb; omega
   ·rw [loc2o t2 g1' g2'] at k2
    exact (newold j t2 l1 l2 hj g1' g2' k1 k2 p1 p2 hb).elim
  ·rw [loc2o t1 g1 g2] at k1
   rcases kind t2 with ⟨i', hi', rfl⟩ | ⟨j', hj', rfl⟩ | ⟨g1', g2'⟩
   ·rw [loc2s i' hi'] at k2
    exact absurd (hM.inj _ _ _ _ (oldloc i' l2 hi' k2) k1 p2 p1 hb.symm ▸ hsmem i' hi') g1
   ·rw [loc2n j' hj'] at k2
    exact (newold j' t1 l2 l1 hj' g1 g2 k2 k1 p2 p1 hb.symm).elim
   ·rw [loc2o t2 g1' g2'] at k2; exact hM.inj _ _ _ _ k1 k2 p1 p2 hb
 ·have hlt : b < w.heap.size := Nat.lt_of_lt_of_le hb hM.size
  exact (hM1.keep b hlt fun hm => hn (hM.muts b (hmt0 b hm).1 hb)).trans (hM.keep b hb hn)
 ·exact hM.muts b (hmt2' b (Nat.lt_of_lt_of_le hlt hM.size) hb) hlt
 ·rcases kind t with ⟨i, hi, rfl⟩ | ⟨j, hj, rfl⟩ | ⟨g1, g2⟩
  ·rw [loc2s i hi] at hl; exact fun hm => hM1.fgn i l hl hpos (.inl hm)
  ·rw [loc2n j hj] at hl; exact fun hm => hM1.fgn _ l hl hpos (.inl hm)
  ·rw [loc2o t g1 g2] at hl; exact hM.fgn t l hl hpos
 ·rcases kind t with ⟨i, hi, rfl⟩ | ⟨j, hj, rfl⟩ | ⟨g1, g2⟩
  ·rw [loc2s i hi] at hl; exact hM.idn _ l ht (oldloc i l hi hl)
  ·exact absurd (hM.aln _ ht) (hf _ (by omega) (by omega))
  ·rw [loc2o t g1 g2] at hl; exact hM.idn t l ht hl
end Go.Gm
namespace Go.Gm
theorem arV_clo {P : Program} {N : Nat} {ops rest : List Oper} {d : Option Tmp} {fr : Nat → AV} {hp : AHeap} {nx : Nat} {Q : ASt → Prop} {args : List AV} {f : FuncId} {first captured : List AV} {o : Prop} :
  arV P N ops rest d fr hp nx Q args (.clo (.func f) first captured) o = arC P N ops rest d fr hp nx Q f (first ++ args ++ captured) (resL hp (first ++ args ++ captured)) := (rfl)
theorem mapR_inl (τ : Nat → Nat) : ∀ {rows : List (List AV)}, inlR rows = true → rows.map (mapTL τ) = rows
 | [], _ => rfl
 | r :: rs, h => by
  simp only [inlR, Bool.and_eq_true] at h
  rw [List.map_cons, mapTL_inl τ h.1, mapR_inl τ h.2]
theorem mapT_own (τ : Nat → Nat) (t o n : Nat) : mapT τ (.own t o n) = .own (τ t) o n := by simp only [mapT]
theorem mapT_ptr (τ : Nat → Nat) (t o n : Nat) : mapT τ (.ptr t o n) = .ptr (τ t) o n := by simp only [mapT]
theorem mapT_ifc (τ : Nat → Nat) (t : TypeId) (u : AV) : mapT τ (.ifc t u) = .ifc t (mapT τ u) := by simp only [mapT]
theorem mapT_agg (τ : Nat → Nat) (l : List AV) : mapT τ (.agg l) = .agg (mapTL τ l) := by simp only [mapT]
theorem mapT_tup (τ : Nat → Nat) (l : List AV) : mapT τ (.tup l) = .tup (mapTL τ l) := by simp only [mapT]
theorem mapT_val (τ : Nat → Nat) (v : Value) : mapT τ (.val v) = .val v := by simp only [mapT]
theorem mapT_sl (τ : Nat → Nat) (l : List (List AV)) : mapT τ (.sl l) = .sl l := by simp only [mapT]
theorem mapT_ip (τ : Nat → Nat) (l : List AV) : mapT τ (.ip l) = .ip l := by simp only [mapT]
theorem mapTL_nil (τ : Nat → Nat) : mapTL τ [] = [] := by simp only [mapTL]
theorem mapTL_cons (τ : Nat → Nat) (c : AV) (l : List AV) : mapTL τ (c :: l) = mapT τ c :: mapTL τ l := by simp only [mapTL]
theorem rho_ap (s : List Nat) (id t : Nat) : rho s id t = if t < s.length then s.getD t 0 else if t < 8 then id + 7 else id + (t - 8) := (rfl)
theorem sg_ap (s : List Nat) (t : Nat) : sg s t = s.getD t 0 := (rfl)
theorem effS_nil (τ : Nat → Nat) (a : List (Option AObj)) : effS τ [] a = [] := (rfl)
theorem effS_cons (τ : Nat → Nat) (t : Nat) (s : List Nat) (o : Option AObj) (a : List (Option AObj)) : effS τ (t :: s) (o :: a) = (t, renO τ o) :: effS τ s a := (rfl)
theorem effS_cons0 (τ : Nat → Nat) (t : Nat) (s : List Nat) : effS τ (t :: s) [] = (t, none) :: effS τ s [] := (rfl)
theorem effB_nil (τ : Nat → Nat) (id : Nat) : effB τ id [] = [] := (rfl)
theorem effB_cons (τ : Nat → Nat) (id : Nat) (o : Option AObj) (b : List (Option AObj)) : effB τ id (o :: b) = (id, renO τ o) :: effB τ (id + 1) b := (rfl)
theorem renO_row (τ : Nat → Nat) (sz : Nat) (mu : Bool) (rows : List (List AV)) : renO τ (some (.row sz mu rows)) = some (.row sz mu (rows.map (mapTL τ))) := (rfl)
theorem renO_none (τ : Nat → Nat) : renO τ none = none := (rfl)
attribute [go_sem] ar_callV arV_clo mapT_own mapT_ptr mapT_agg mapT_tup mapT_val mapT_sl mapT_ip mapTL_nil mapTL_cons rho_ap effS_nil effS_cons effS_cons0 effB_nil effB_cons renO_row renO_none
theorem CallOk.ic {P : Program} {f : FuncId} {a0 a1 b1 : List (Option AObj)} {us us' : List AV} {X : AV} {hp : AHeap} {id : Nat} (h : IC P f a0 us X a1 b1) (s : List Nat) (hs : s.length = a0.length) (hnd : s.Nodup) (h8 : a0.length ≤ 8) (hk : b1.length ≤ 7) (hla : a1.length ≤ a0.length)
  (hso : ∀ o ∈ a0, ∃ x, o = some x) (hobj : HRen (sg s) a0.length hp 0 a0) (hus : WeakL us' (mapTL (sg s) us)) (htok : tokLL a0.length us = true)
  (hb1 : ∀ o ∈ b1, ∃ x, o = some x ∧ x.isMut = true) (ht1 : ∀ o ∈ a1 ++ b1, tokO (8 + b1.length) o = true) (htX : tokL (8 + b1.length) X = true) :
  CallOk P f us' hp id ⟨mapT (rho s id) X, effS (rho s id) s a1 ++ effB (rho s id) id b1⟩ :=
 CallOk.of_ic h s hs hnd h8 hk hla (fun i o hi => ⟨hso o (List.mem_of_getElem? hi), by have := hobj.get i; rw [hi] at this; simpa using this⟩) hus htok hb1 ht1 htX
theorem tokR_inl (m : Nat) : ∀ {rows : List (List AV)}, inlR rows = true → rows.all (tokLL m) = true
 | [], _ => rfl
 | r :: rs, h => by
  simp only [inlR, Bool.and_eq_true] at h
  rw [List.all_cons, tokLL_inl m h.1, tokR_inl m h.2]; rfl
theorem tokL_own (m t o n : Nat) : tokL m (.own t o n) = decide (t < m) := by simp only [tokL]
theorem tokL_ptr (m t o n : Nat) : tokL m (.ptr t o n) = decide (t < m) := by simp only [tokL]
theorem tokL_tup (m : Nat) (l : List AV) : tokL m (.tup l) = tokLL m l := by simp only [tokL]
theorem tokL_val (m : Nat) (v : Value) : tokL m (.val v) = true := by simp only [tokL]
theorem tokL_sl (m : Nat) (l : List (List AV)) : tokL m (.sl l) = inlR l := by simp only [tokL]
theorem tokLL_nil (m : Nat) : tokLL m [] = true := by simp only [tokLL]
theorem tokLL_cons (m : Nat) (c : AV) (l : List AV) : tokLL m (c :: l) = (tokL m c && tokLL m l) := by simp only [tokLL]
theorem tokO_row (m sz : Nat) (mu : Bool) (rows : List (List AV)) : tokO m (some (.row sz mu rows)) = rows.all (tokLL m) := (rfl)
theorem tokO_none (m : Nat) : tokO m none = true := (rfl)
attribute [go_sem] tokL_own tokL_ptr tokL_tup tokL_val tokL_sl tokLL_nil tokLL_cons tokO_row tokO_none
def nilCk (hp : AHeap) (v : AV) (r : Option AR) : Option AR := match v with
 | .ptr t i off => if (hp t).isSome = true then some ⟨.ptr t i off, []⟩ else none
 | .ip cs => some ⟨.ip cs, []⟩
 | _ => r
theorem aop_nilCheck {P : Program} {ft : FuncId → List AV → Option AV} {fr : Operand → AV} {hp : AHeap} {id : Nat} {d : Option Tmp} {x : Operand} {ty : TypeId} {pos : String} {af : Array Edge} {g : Option (Nat × Bool)} : aop P ft fr hp id ⟨d, .nilCheck x, ty, pos, af, g⟩ = nilCk hp (fr x) (plainA P fr ⟨d, .nilCheck x, ty, pos, af, g⟩) := by
 unfold aop nilCk; rfl
theorem nilCk_ptr {hp : AHeap} {t i off : Nat} {r : Option AR} : nilCk hp (.ptr t i off) r = if (hp t).isSome = true then some ⟨.ptr t i off, []⟩ else none := (rfl)
theorem nilCk_ip {hp : AHeap} {cs : List AV} {r : Option AR} : nilCk hp (.ip cs) r = some ⟨.ip cs, []⟩ := (rfl)
attribute [go_sem] aop_nilCheck nilCk_ptr nilCk_ip
theorem HRen.agree {τ : Nat → Nat} {n : Nat} {hp hp' : AHeap} : ∀ {a : List (Option AObj)} {k : Nat}, (∀ i, i < a.length → hp (τ (k + i)) = hp' (τ (k + i))) → HRen τ n hp k a → HRen τ n hp' k a
 | [], _, _, h => .nil _
 | o :: a, k, hh, h => by
  cases h with
  | cons h1 h2 => exact .cons ((hh 0 (by simp)) ▸ h1) (HRen.agree (fun i hi => by have := hh (i + 1) (by simpa using hi); simpa [Nat.add_assoc, Nat.add_comm 1 i] using this) h2)
theorem adN.ic {P : Program} {ft : FuncId → List AV → Option AV} {N : Nat} {ops : List Oper} {A : List (List Nat)} {base : Nat} {rest : List (Nat × Oper)} {i : Nat} {d : Option Tmp} {fr : Nat → AV} {hp : AHeap} {acc : List (Nat × List Nat × List Nat)} {Q : (Nat → AV) → AHeap → Prop} {o : Oper}
  {f : FuncId} {a0 a1 b1 : List (Option AObj)} {us us' : List AV} {X : AV} (h : IC P f a0 us X a1 b1) (he : Enter P f) (hcv : callV (evF fr) o = some (f, us')) (s : List Nat) (hs : s.length = a0.length) (hnd : s.Nodup) (h8 : a0.length ≤ 8) (hk : b1.length ≤ 7) (hla : a1.length ≤ a0.length)
  (hso : ∀ o ∈ a0, ∃ x, o = some x) (hobj : HRen (sg s) a0.length hp 0 a0) (hus : WeakL us' (mapTL (sg s) us)) (htok : tokLL a0.length us = true)
  (hb1 : ∀ o ∈ b1, ∃ x, o = some x ∧ x.isMut = true) (ht1 : ∀ o ∈ a1 ++ b1, tokO (8 + b1.length) o = true) (htX : tokL (8 + b1.length) X = true)
  (k : okD N d = true ∧ OkPair A i s ((effS (rho s (base + 8 * i)) s a1 ++ effB (rho s (base + 8 * i)) (base + 8 * i) b1).map (·.1)) acc ∧
   adrun P ft N ops A base rest (putF fr d (mapT (rho s (base + 8 * i)) X)) (applyEff hp (effS (rho s (base + 8 * i)) s a1 ++ effB (rho s (base + 8 * i)) (base + 8 * i) b1)) (accE i s ((effS (rho s (base + 8 * i)) s a1 ++ effB (rho s (base + 8 * i)) (base + 8 * i) b1).map (·.1)) acc) Q) : adN P ft N ops A base rest i d fr hp acc Q o :=
 ⟨f, us', ⟨_, _⟩, s, hcv, he, fun hp' ha => CallOk.ic h s hs hnd h8 hk hla hso (hobj.agree fun j hj => ha _ (by
  have : j < s.length := by omega
  simp [sg, List.getD, this])) hus htok hb1 ht1 htX, k⟩
theorem callV_tmp {fr : Nat → AV} {d : Option Tmp} {t : Tmp} {args : Array Operand} {tys : Array TypeId} {ty : TypeId} {pos : String} {af : Array Edge} {g : Option (Nat × Bool)} {f : FuncId} {first cap : List AV} (h : fr t = .clo (.func f) first cap) : callV (evF fr) ⟨d, .call ⟨.value (.tmp t), args, tys⟩, ty, pos, af, g⟩ = some (f, first ++ args.toList.map (evF fr) ++ cap) := by
 simp only [callV, evF, h]
theorem callV_fn {fr : Nat → AV} {d : Option Tmp} {f : FuncId} {args : Array Operand} {tys : Array TypeId} {ty : TypeId} {pos : String} {af : Array Edge} {g : Option (Nat × Bool)} : callV (evF fr) ⟨d, .call ⟨.value (.func f), args, tys⟩, ty, pos, af, g⟩ = some (f, args.toList.map (evF fr)) := (rfl)
theorem aop_callT {P : Program} {ft : FuncId → List AV → Option AV} {fr : Operand → AV} {hp : AHeap} {id : Nat} {d : Option Tmp} {t : Tmp} {args : Array Operand} {tys : Array TypeId} {ty : TypeId} {pos : String} {af : Array Edge} {g : Option (Nat × Bool)} : aop P ft fr hp id ⟨d, .call ⟨.value (.tmp t), args, tys⟩, ty, pos, af, g⟩ = none := (rfl)
theorem resV_ptr (hp : AHeap) (t o n : Nat) : resV hp (.ptr t o n) = none := by simp [resV, inl]
theorem callQ_none (ft : FuncId → List AV → Option AV) (hp : AHeap) (id : Nat) (f : FuncId) (us : List AV) : callQ ft hp id f us none = none := (rfl)
attribute [go_sem] adK_none aop_callT resV_ptr callQ_none
end Go.Gm
namespace Go.Gm
theorem relL_set {E : Env} {u u' : AV} (hu : ∀ v, Rel E u v → Rel E u' v) : ∀ {cs : List AV} {vs : List Value} {i : Nat}, RelL E cs vs → cs[i]? = some u → RelL E (cs.set i u') vs
 | [], _, _, _, hi => by simp at hi
 | c :: cs, vs, 0, h, hi => by
  cases h with
  | cons h1 h2 =>
   simp at hi; subst hi
   exact .cons (hu _ h1) h2
 | c :: cs, vs, i + 1, h, hi => by
  cases h with
  | cons h1 h2 => exact .cons h1 (relL_set hu h2 (by simpa using hi))
theorem Ent.nilCell {N nx sz : Nat} {mu : Bool} {fr : Nat → AV} {hp : AHeap} {cs : List AV} (t i sz' : Nat) (hz : 0 < sz') (h : hp t = some (.row sz mu [cs])) (hi : cs[i]? = some (.val (.slice none 0 0))) : Ent N ⟨fr, hp, nx⟩ ⟨fr, upd (upd hp t (some (.row sz mu [cs.set i (.own nx 0 0)]))) nx (some (.row sz' true [])), nx + 1⟩ := fun P G a w hc => by
 obtain ⟨c1, c2, loc, hM, hr⟩ := conc_iff.1 hc
 clear hc
 have hno : hp nx = none := by
  cases ho : hp nx with
  | none => rfl
  | some o => obtain ⟨l, hl, _⟩ := hM.obj nx o ho; exact absurd (hM.al_ nx l hl) (Nat.lt_irrefl _)
 have htn : t ≠ nx := fun e => by rw [e, hno] at h; cases h
 let l0 : Loc := ⟨0, 0, sz', 0⟩
 have hmt : ∀ b, mtOf (upd (upd hp t (some (.row sz mu [cs.set i (.own nx 0 0)]))) nx (some (.row sz' true []))) (upd loc nx (some l0)) b → mtOf hp loc b := by
  rintro b ⟨t', o', l', h1, h2, h3, h4, h5⟩
  by_cases e : t' = nx
  ·subst e; rw [upd_same] at h3; cases h3; exact absurd h5 (Nat.lt_irrefl _)
  ·rw [upd_other _ _ e] at h1 h3
   by_cases e2 : t' = t
   ·subst e2; rw [upd_same] at h1; cases h1; exact ⟨t', _, l', h, h2, h3, h4, h5⟩
   ·rw [upd_other _ _ e2] at h1; exact ⟨t', o', l', h1, h2, h3, h4, h5⟩
 have x : Ext (mkE G.m1 hp (fun t => t < nx) loc w) (mkE G.m1 (upd (upd hp t (some (.row sz mu [cs.set i (.own nx 0 0)]))) nx (some (.row sz' true []))) (fun t => t < nx + 1) (upd loc nx (some l0)) w) :=
  mk_ext (fun _ h => Nat.lt_succ_of_lt h) (fun t' l' ha hl' => by rwa [upd_other _ _ (Nat.ne_of_lt ha)] at hl') (Nat.le_refl _) (fun b _ => hmt b) (fun _ _ _ => rfl)
 refine conc_iff.2 ⟨c1, c2, upd loc nx (some l0), hM.change x (fun t' o' ho => ?_) (fun t' ho => ?_) (fun t' l hl => ?_) (fun t1 t2 l1 l2 k1 k2 p1 p2 hb => ?_) rfl rfl rfl (fun b hb => .inl (hmt b hb)) (fun t' l k1 k2 => ?_), fun d => (hr d).ext x⟩
 ·by_cases e : t' = nx
  ·subst e; rw [upd_same] at ho; cases ho
   exact .inr ⟨l0, upd_same .., rfl, hz, by simp, by simp [l0], ⟨0, by simp [l0]⟩, fun h => absurd h (Nat.lt_irrefl _)⟩
  ·rw [upd_other _ _ e] at ho
   by_cases e2 : t' = t
   ·subst e2
    rw [upd_same] at ho; cases ho
    obtain ⟨l, hl', g1, g2, g3, g4, g5, g6⟩ := hM.obj t' _ h
    refine .inr ⟨l, by rw [upd_other _ _ e]; exact hl', g1, g2, by simpa using g3, by simpa using g4, g5, fun hpos => ?_⟩
    obtain ⟨c, e, fz, vs, k1, k2, k3, k4, k5, k6⟩ := g6 hpos
    refine ⟨c, e, fz, vs, k1, k2, ?_, k4, k5, k6⟩
    simp only [List.flatten_cons, List.flatten_nil, List.append_nil] at k3 ⊢
    refine relL_set (fun v hv => ?_) (k3.ext x) hi
    rw [rel_val hv]
    refine .own (Nat.lt_succ_self _) fun l hl => ?_
    have : l = l0 := by simpa [mkE, upd] using hl.symm
    subst this
    exact ⟨none, 0, rfl, hz, by simp [l0], Nat.le_refl _, fun h => absurd h (Nat.lt_irrefl _)⟩
   ·rw [upd_other _ _ e2] at ho; exact .inl ⟨ho, upd_other _ _ e, fun _ _ _ => rfl⟩
 ·by_cases e : t' = nx
  ·subst e; rw [upd_same] at ho; cases ho
  ·rw [upd_other _ _ e] at ho
   by_cases e2 : t' = t
   ·subst e2; rw [upd_same] at ho; cases ho
   ·rw [upd_other _ _ e2] at ho; rw [upd_other _ _ e]; exact hM.none_ t' ho
 ·by_cases e : t' = nx
  ·subst e; exact Nat.lt_succ_self _
  ·rw [upd_other _ _ e] at hl; exact Nat.lt_succ_of_lt (hM.al_ t' l hl)
 ·by_cases e1 : t1 = nx
  ·subst e1; rw [upd_same] at k1; cases k1; exact absurd p1 (Nat.lt_irrefl _)
  ·by_cases e2 : t2 = nx
   ·subst e2; rw [upd_same] at k2; cases k2; exact absurd p2 (Nat.lt_irrefl _)
   ·rw [upd_other _ _ e1] at k1; rw [upd_other _ _ e2] at k2; exact hM.inj _ _ _ _ k1 k2 p1 p2 hb
 ·by_cases e : t' = nx
  ·subst e; rw [upd_same] at k1; cases k1; exact absurd k2 (Nat.lt_irrefl _)
  ·rw [upd_other _ _ e] at k1; exact .inl ⟨t', l, k1, k2, rfl⟩
theorem normR_map {α : Type} {f : α → List AV} (h : ∀ x, normL (f x) = f x) : ∀ l : List α, normR (l.map f) = l.map f
 | [] => by simp [normR]
 | x :: l => by simp [normR, h x, normR_map h l]
end Go.Gm
namespace Go.Gm
def fldS (d : Nat) (xs ys : Array Value) (f : Field) : Sem Bool := do Op.equalIn d f.type (← part f.type xs f.offset) (← part f.type ys f.offset)
def fldsE (P : Program) (d : Nat) (xs ys : Array Value) : List Field → Option Bool
 | [] => some true
 | f :: fs => if f.name = "_" then fldsE P d xs ys fs else (evS P (fldS d xs ys f)).bind fun r => if r = true then fldsE P d xs ys fs else some false
def cmpB (P : Program) (t : TypeId) : Option (List (Nat × TypeId)) := match P.underlying t with
 | some (.struct fs) => if P.stoodInHeld t || P.eqGuardType P.depth t || fs.toList.any (fun f => decide (f.name = "_")) then none else some (fs.toList.map fun f => (f.offset, f.type))
 | _ => none
inductive EqL (P : Program) (xs ys : Array Value) : List (Nat × TypeId) → Bool → Prop
 | nil : EqL P xs ys [] true
 | int {o : Nat} {t : TypeId} {k : IntKind} {a b : Int} {l : List (Nat × TypeId)} {r : Bool} (hu : P.underlying t = some (.int k)) (hx : xs[o]? = some (.int k a)) (hy : ys[o]? = some (.int k b)) (h : EqL P xs ys l r) : EqL P xs ys ((o, t) :: l) (decide (a = b) && r)
 | bool {o : Nat} {t : TypeId} {a b : Bool} {l : List (Nat × TypeId)} {r : Bool} (hu : P.underlying t = some .bool) (hx : xs[o]? = some (.bool a)) (hy : ys[o]? = some (.bool b)) (h : EqL P xs ys l r) : EqL P xs ys ((o, t) :: l) (decide (a = b) && r)
def maxI (a b : Int) : Int := if b > a then b else a
def maxK (u v : AV) (r : Option AR) : Option AR := match u, v with
 | .val (.int k a), .val (.int _ b) => some ⟨.val (.int k (maxI a b)), []⟩
 | _, _ => r
theorem maxK_int {k k' : IntKind} {a b : Int} {r : Option AR} : maxK (.val (.int k a)) (.val (.int k' b)) r = some ⟨.val (.int k (maxI a b)), []⟩ := (rfl)
attribute [go_sem] maxK_int
theorem adN.pc {P : Program} {ft : FuncId → List AV → Option AV} {N : Nat} {ops : List Oper} {A : List (List Nat)} {base : Nat} {rest : List (Nat × Oper)} {i : Nat} {d : Option Tmp} {fr : Nat → AV} {hp : AHeap} {acc : List (Nat × List Nat × List Nat)} {Q : (Nat → AV) → AHeap → Prop} {o : Oper}
  {f : FuncId} {us xs : List AV} {X : AV} (h : PC P f xs X) (he : Enter P f) (hcv : callV (evF fr) o = some (f, us)) (hres : resL hp us = some xs) (hlen : (claimV X (base + 8 * i)).2.length ≤ 8)
  (k : okD N d = true ∧ OkPair A i (us.flatMap tidA) (((if shares X = true then freezeL hp (us.flatMap tidV) else []) ++ effOf (claimV X (base + 8 * i)).2 (base + 8 * i)).map (·.1)) acc ∧
   adrun P ft N ops A base rest (putF fr d (claimV X (base + 8 * i)).1) (applyEff hp ((if shares X = true then freezeL hp (us.flatMap tidV) else []) ++ effOf (claimV X (base + 8 * i)).2 (base + 8 * i))) (accE i (us.flatMap tidA) (((if shares X = true then freezeL hp (us.flatMap tidV) else []) ++ effOf (claimV X (base + 8 * i)).2 (base + 8 * i)).map (·.1)) acc) Q) : adN P ft N ops A base rest i d fr hp acc Q o := by
 refine ⟨f, us, ⟨_, _⟩, us.flatMap tidA, hcv, he, fun hp' ha => ?_, k⟩
 have hx : ∀ x ∈ us, Agree hp hp' (tidA x) := fun x hx t ht => ha t (List.mem_flatMap.2 ⟨x, hx, ht⟩)
 have h2 : freezeL hp (us.flatMap tidV) = freezeL hp' (us.flatMap tidV) := freezeL_loc fun t ht => by
  obtain ⟨x, hx', ht⟩ := List.mem_flatMap.1 ht
  exact hx x hx' t (tidV_sub t ht)
 rw [h2]
 exact CallOk.of_pc h ((resL_loc hx).symm.trans hres) hlen
theorem callR_none (hp : AHeap) (id : Nat) (us : List AV) : callR hp id us none = none := (rfl)
theorem noFt_ap (f : FuncId) (xs : List AV) : noFt f xs = none := (rfl)
attribute [go_sem] callR_none noFt_ap
def mkO {α : Type} (n : Int) (x : α) : Option (List α) := if 0 ≤ n ∧ n ≤ 2147483648 then some (List.replicate n.toNat x) else none
theorem mkO_some {α : Type} {n : Int} {x : α} {l : List α} : mkO n x = some l ↔ (0 ≤ n ∧ n ≤ 2147483648) ∧ List.replicate n.toNat x = l := by
 unfold mkO; split
 ·rename_i h; simp [h]
 ·rename_i h; simp [h]
theorem make_ok {P : Program} {α : Type} {enc : α → List AV} {x : α} {n : Int} {l : List α} {t e sz by_ : Nat} {zs : List AV} {k k' : IntKind} (hm : makeC P t = some (e, sz, by_, zs)) (hz : enc x = zs) (hby : by_ ≤ 65536) (h : mkO n x = some l) (id : Nat) :
  makeA P id t (.val (.int k n)) (.val (.int k' n)) = some ⟨.own id 0 l.length, [(id, some (.row sz true (l.map enc)))]⟩ := by
 obtain ⟨⟨h0, h1⟩, rfl⟩ := mkO_some.1 h
 have hb : by_ * n.toNat ≤ 65536 * 2147483648 := Nat.mul_le_mul hby (by omega)
 unfold makeA
 simp only [hm, natOf_le h0]
 rw [if_pos ⟨Nat.le_refl _, by omega, by omega⟩]
 simp [zrow, hz]
theorem set_enc {enc : Int → List AV} {k : IntKind} (h : ∀ v, enc v = [.val (.int k v)]) (l : List Int) (i : Nat) (v : Int) : (l.map enc).set i [.val (.int k v)] = (l.set i v).map enc := by
 rw [← h, List.map_set]
end Go.Gm
namespace Go.Gm
theorem Ent.stillPtr {N nx sz : Nat} {mu : Bool} {fr : Nat → AV} {hp : AHeap} {cs : List AV} {t : Nat} (d : Nat) (hd : fr d = .ptr t 0 0) (h : hp t = some (.row sz mu [cs])) (hin : inlL cs = true) (hpos : 0 < cs.length) : Ent N ⟨fr, hp, nx⟩ ⟨upd fr d (.ip cs), upd hp t none, nx⟩ := fun P G a w hc => by
  obtain ⟨h1, h2, loc, hM, hr⟩ := conc_iff.1 hc
  clear hc
  refine conc_iff.2 ?_
  obtain ⟨hM', x'⟩ := hM.drop t
  refine ⟨h1, h2, _, hM', fun d' => ?_⟩
  by_cases e : d' = d
  · subst e
    show Rel _ (upd fr d' (.ip cs) d') _
    rw [upd_same]
    have hp0 := hr d'
    rw [hd] at hp0
    obtain ⟨l, hl, hob⟩ := hM.obj t _ h
    have hlt : l.st < l.n := by
      obtain ⟨g1, g2, g3, g4, g5, g6⟩ := hob
      simp only [List.length_cons, List.length_nil] at g4
      omega
    have hlb := hob.lt hlt
    obtain ⟨g1, g2, g3, g4, g5, g6⟩ := hob
    obtain ⟨c, e, fz, vs, k1, k2, k3, k4, k5, k6⟩ := g6 hlt
    generalize (a.tmps.getD d' undef) = v at hp0 ⊢
    cases hp0 with
    | ptr ha hh =>
      rw [hh l hl, Nat.zero_mul, Nat.add_zero]
      have hnm : ¬ (mkE G.m1 (upd hp t none) (fun t => t < nx) (upd loc t none) w).mt l.b := by
        rintro (⟨t', o', l', q1, q2, q3, q4, q5⟩ | hm)
        · by_cases e : t' = t
          · subst e; rw [upd_same] at q1; cases q1
          · rw [upd_other _ _ e] at q3; exact e (hM.inj _ _ _ _ q3 hl q5 hlt q4)
        · exact hM.fgn t l hl hlt hm
      have mv : Move (mkE G.m1 hp (fun t => t < nx) loc w) (mkE G.m1 (upd hp t none) (fun t => t < nx) (upd loc t none) w) :=
        ⟨Nat.le_refl _, fun b _ hn => ⟨fun hm => hn (by
          rcases hm with ⟨t', o', l', q1, q2, q3, q4, q5⟩ | hm
          · by_cases e : t' = t
            · subst e; rw [upd_same] at q1; cases q1
            · rw [upd_other _ _ e] at q1 q3; exact .inl ⟨t', o', l', q1, q2, q3, q4, q5⟩
          · exact .inr hm), rfl⟩⟩
      have k1' : w.heap[l.b]? = some (.cells c e fz) := k1
      simp only [List.flatten_cons, List.flatten_nil, List.append_nil] at k3
      refine .ip hlb hnm k4 (fun q u hq => ?_) (RelL.move mv hin k3)
      show w.cell? ⟨l.b, l.st + q, none⟩ = some u
      simp only [World.cell?, k1', Option.isSome_none, Bool.false_eq_true, if_false]
      exact k5 q u hq
  · show Rel _ (upd fr d (.ip cs) d') _
    rw [upd_other _ _ e]; exact (hr d').ext x'
theorem resV_clo (hp : AHeap) (fn : Fn) (f c : List AV) : resV hp (.clo fn f c) = if inlL f = true ∧ inlL c = true then some (.clo fn f c) else none := by
  simp only [resV, inl, Bool.and_eq_true]
theorem sealV_clo (hp : AHeap) (fn : Fn) (f c : List AV) : sealV hp (.clo fn f c) = if inlL f = true ∧ inlL c = true then some (.clo fn f c, []) else none := by simp only [sealV]
theorem claimV_clo (k : Nat) (fn : Fn) (f c : List AV) : claimV (.clo fn f c) k = (.clo fn f c, []) := by simp only [claimV]
theorem shares_clo (fn : Fn) (f c : List AV) : shares (.clo fn f c) = true := by simp only [shares]
theorem resOf_clo (fn : Fn) (f c : List AV) : resOf [.clo fn f c] = .clo fn f c := (rfl)
attribute [go_sem] resV_clo sealV_clo claimV_clo shares_clo
end Go.Gm
namespace Go.Gm
section
variable {P : Program} {ft : FuncId → List AV → Option AV} {fr : Operand → AV} {hp : AHeap} {id : Nat} {d : Option Tmp} {ty : TypeId} {pos : String} {af : Array Edge} {g : Option (Nat × Bool)}
def catO (a b : ByteArray) : Option ByteArray := if a.size + b.size ≤ 9223372036854775807 then some (a ++ b) else none
theorem binV_nbool {t : TypeId} {x y : Operand} {a b : Bool} (hu : P.underlying t = some .bool) : binV P .neq t x y (.bool a) (.bool b) = some (.bool (!decide (a = b))) := by
 have h : evS P (Op.equalIn (9999 + 1) t (.bool a) (.bool b)) = some (decide (a = b)) := by
  unfold Op.equalIn
  rw [evS_bind, evS_under hu]
  simp [evS_pure, beq_dec]
 unfold binV eqGuard
 rw [show (9999 + 1) = Op.maxDepth from rfl] at h
 simp [binOp, evS_bind, evS_pure, evS_program, evS_map, Op.equal, h]
def minI (a b : Int) : Int := if b < a then b else a
def minK (u v : AV) (r : Option AR) : Option AR := match u, v with
 | .val (.int k a), .val (.int _ b) => some ⟨.val (.int k (minI a b)), []⟩
 | _, _ => r
theorem aop_min {x y : Operand} {tys : Array TypeId} : aop P ft fr hp id ⟨d, .call ⟨.builtin .min, #[x, y], tys⟩, ty, pos, af, g⟩ = minK (fr x) (fr y) (plainA P fr ⟨d, .call ⟨.builtin .min, #[x, y], tys⟩, ty, pos, af, g⟩) := by
 show plainA P fr _ = _
 unfold minK
 split
 ·rename_i k a k' b hx hy
  refine plainA_of ?_ ?_
  ·simp [Op.operands, Call.operands, hx, hy, toV]
  ·simp [execOp, hx, hy, toV, Builtin.min_, Builtin.min2, evS_bind, evS_pure, evS_map, builtin, resolve, invoke, minI]
 ·rfl
theorem minK_int {k k' : IntKind} {a b : Int} {r : Option AR} : minK (.val (.int k a)) (.val (.int k' b)) r = some ⟨.val (.int k (minI a b)), []⟩ := (rfl)
def plainA2 (P : Program) (fr : Operand → AV) (o : Oper) : Option AR := plainA P fr o
def strCut (P : Program) (t : TypeId) (x : AV) (lo hi : Option AV) (r : Option AR) : Option AR := match x with
 | .val (.string s) => match loOf lo, hiOf s.size hi with
  | some l, some h => if isStrT P t = true ∧ l ≤ h ∧ h ≤ s.size then some ⟨.val (.string (s.extract l h)), []⟩ else r
  | _, _ => r
 | _ => r
def cutSO? (s : ByteArray) (lo hi : Int) : Option ByteArray := if 0 ≤ lo ∧ lo ≤ hi ∧ hi ≤ s.size then some (s.extract lo.toNat hi.toNat) else none
attribute [go_sem] aop_min minK_int
end
end Go.Gm
namespace Go.Gm
structure A3 (α : Type) where
 e0 : α
 e1 : α
 e2 : α
structure A8 (α : Type) where
 e0 : α
 e1 : α
 e2 : α
 e3 : α
 e4 : α
 e5 : α
 e6 : α
 e7 : α
def A8.get {α : Type} (x : A8 α) : Nat → α
 | 0 => x.e0
 | 1 => x.e1
 | 2 => x.e2
 | 3 => x.e3
 | 4 => x.e4
 | 5 => x.e5
 | 6 => x.e6
 | _ => x.e7
def A8.set {α : Type} (x : A8 α) (i : Nat) (v : α) : A8 α :=
 ⟨if i = 0 then v else x.e0, if i = 1 then v else x.e1, if i = 2 then v else x.e2, if i = 3 then v else x.e3, if i = 4 then v else x.e4, if i = 5 then v else x.e5, if i = 6 then v else x.e6, if i = 7 then v else x.e7⟩
def pla1 : Nat → Option (Nat × Nat) := fun i => some (i, 1)
theorem pla1_ap (i : Nat) : pla1 i = some (i, 1) := (rfl)
theorem buildA_arr {P : Program} {hp : AHeap} {t e n : Nat} {zs : List AV} {parts : List (Nat × AV)} (hz : zeroC P t = some zs) (hu : arrO P t = some (n, e)) (hs : szO P e = some 1) : buildA P hp t parts = (fillA hp pla1 zs parts).map .agg := by
 have : placeF P t = some pla1 := by
  unfold placeF
  rw [arrO_eq hu]
  unfold szO at hs
  cases hi : P.info? e with
  | none => rw [hi] at hs; cases hs
  | some i =>
   rw [hi] at hs
   simp only [Option.map_some, Option.some.injEq] at hs
   simp only [hi, Option.map_some, hs, Nat.mul_one]
   rfl
 unfold buildA
 rw [hz, this]
attribute [go_sem] pla1_ap
end Go.Gm
namespace Go.Gm
inductive StL (t off len : Nat) (x : AV) : List AV → List AV → Prop
 | nil : StL t off len x [] []
 | keep {u : AV} {us us' : List AV} (h : StL t off len x us us') : StL t off len x (u :: us) (u :: us')
 | own {us us' : List AV} (h : StL t off len x us us') : StL t off len x (.own t off len :: us) (x :: us')
theorem CallOk.still {P : Program} {f : FuncId} {us us' : List AV} {hp : AHeap} {id : Nat} {r : AR} {x : AV} {t off len : Nat} (hx : resV hp (.own t off len) = some x) (hs : StL t off len x us us') (h : CallOk P f us' (upd hp t none) id r) :
  CallOk P f us hp id ⟨r.v, (t, none) :: r.eff⟩ := fun G al loc w vs hM hf hr => by
 obtain ⟨hM', x'⟩ := hM.drop t
 have one : ∀ v, Rel (mkE G.m1 hp al loc w) (.own t off len) v → Rel (mkE G.m1 (upd hp t none) al (upd loc t none) w) x v := fun v hv => by
  have hb := res_rel (G := G) hM (m := fun b => G.m1 b ∨ mtOf (upd hp t none) (upd loc t none) b) (fun b hb => hb.imp (fun h => h) fun ⟨t', o', l', k1, k2, k3, k4, k5⟩ => by
   by_cases e : t' = t
   ·subst e; rw [upd_same] at k1; cases k1
   ·rw [upd_other _ _ e] at k1 k3; exact ⟨t', o', l', k1, k2, k3, k4, k5⟩) hv hx (fun t1 o1 n1 l he hl hlt => by
    cases he
    rintro (hb | ⟨t', o', l', k1, k2, k3, k4, k5⟩)
    ·exact hM.fgn t l hl hlt hb
    ·by_cases e : t' = t
     ·subst e; rw [upd_same] at k1; cases k1
     ·rw [upd_other _ _ e] at k3; exact e (hM.inj _ _ _ _ k3 hl k5 hlt k4))
  have mv : Move (E0 (fun b => G.m1 b ∨ mtOf (upd hp t none) (upd loc t none) b) w) (mkE G.m1 (upd hp t none) al (upd loc t none) w) :=
   ⟨Nat.le_refl _, fun b _ hn => ⟨fun hm => hn (Or.inr (hm.elim Or.inr Or.inl)), rfl⟩⟩
  refine Rel.move mv ?_ hb
  simp only [resV] at hx
  split at hx
  ·split at hx
   ·rename_i hc; cases hx; simp [inl, hc.2]
   ·cases hx
  ·cases hx
 have hall : ∀ {us us' : List AV} {vs : List Value}, StL t off len x us us' → RelL (mkE G.m1 hp al loc w) us vs → RelL (mkE G.m1 (upd hp t none) al (upd loc t none) w) us' vs := fun {us us' vs} hs => by
  induction hs generalizing vs with
  | nil => intro h; cases h; exact .nil
  | keep _ ih => intro h; cases h with | cons a b => exact .cons (a.ext x') (ih b)
  | own _ ih => intro h; cases h with | cons a b => exact .cons (one _ a) (ih b)
 refine (h G al _ w vs hM' hf (hall hs hr)).mono ?_
 rintro e w' ⟨v, loc', rfl, h1, h2, h3⟩
 exact ⟨v, loc', rfl, h1, x'.trans h2, h3⟩
end Go.Gm
namespace Go.Gm
end Go.Gm
namespace Go.Gm
theorem resV_ptr0 (hp : AHeap) : resV hp (.val (.pointer none)) = some (.val (.pointer none)) := (rfl)
attribute [go_sem] resV_ptr0
end Go.Gm
namespace Go.Gm
theorem lapp_nil {α : Type} (m : List α) : List.append [] m = m := (rfl)
theorem lapp_cons {α : Type} (a : α) (l m : List α) : List.append (a :: l) m = a :: List.append l m := (rfl)
attribute [go_sem] lapp_nil lapp_cons
end Go.Gm
namespace Go.Proofs.Yt
open Go.Gm
theorem draws : Tryz.prog.follows .mixedOrders = true := by kernel_rfl
theorem ag3 : aggO Tryz.prog 3 = some false := by kernel_rfl
theorem ag5 : aggO Tryz.prog 5 = some false := by kernel_rfl
theorem ag9 : aggO Tryz.prog 9 = some false := by kernel_rfl
theorem ag23 : aggO Tryz.prog 23 = some false := by kernel_rfl
theorem ag31 : aggO Tryz.prog 31 = some false := by kernel_rfl
theorem ag35 : aggO Tryz.prog 35 = some false := by kernel_rfl
theorem ag43 : aggO Tryz.prog 43 = some false := by kernel_rfl
theorem ag48 : aggO Tryz.prog 48 = some false := by kernel_rfl
theorem ag50 : aggO Tryz.prog 50 = some true := by kernel_rfl
theorem ag71 : aggO Tryz.prog 71 = some true := by kernel_rfl
theorem ag75 : aggO Tryz.prog 75 = some false := by kernel_rfl
theorem ag102 : aggO Tryz.prog 102 = some true := by kernel_rfl
theorem ag134 : aggO Tryz.prog 134 = some true := by kernel_rfl
theorem ag193 : aggO Tryz.prog 193 = some false := by kernel_rfl
theorem ag213 : aggO Tryz.prog 213 = some false := by kernel_rfl
theorem ap23_9 {hp : AHeap} {id : Nat} {s x : AV} : appendA Tryz.prog hp id 23 9 s x = appS 1 1 hp id s (srcA Tryz.prog hp 1 9 x) := appendA_of (e := 5) (by kernel_rfl) (by kernel_rfl)
theorem ap23_23 {hp : AHeap} {id : Nat} {s x : AV} : appendA Tryz.prog hp id 23 23 s x = appS 1 1 hp id s (srcA Tryz.prog hp 1 23 x) := appendA_of (e := 5) (by kernel_rfl) (by kernel_rfl)
theorem ap31_31 {hp : AHeap} {id : Nat} {s x : AV} : appendA Tryz.prog hp id 31 31 s x = appS 3 56 hp id s (srcA Tryz.prog hp 3 31 x) := appendA_of (e := 50) (by kernel_rfl) (by kernel_rfl)
theorem ap43_43 {hp : AHeap} {id : Nat} {s x : AV} : appendA Tryz.prog hp id 43 43 s x = appS 2 24 hp id s (srcA Tryz.prog hp 2 43 x) := appendA_of (e := 102) (by kernel_rfl) (by kernel_rfl)
theorem ap48_48 {hp : AHeap} {id : Nat} {s x : AV} : appendA Tryz.prog hp id 48 48 s x = appS 1 8 hp id s (srcA Tryz.prog hp 1 48 x) := appendA_of (e := 3) (by kernel_rfl) (by kernel_rfl)
theorem ap54_54 {hp : AHeap} {id : Nat} {s x : AV} : appendA Tryz.prog hp id 54 54 s x = appS 1 16 hp id s (srcA Tryz.prog hp 1 54 x) := appendA_of (e := 9) (by kernel_rfl) (by kernel_rfl)
theorem ap84_84 {hp : AHeap} {id : Nat} {s x : AV} : appendA Tryz.prog hp id 84 84 s x = appS 1 24 hp id s (srcA Tryz.prog hp 1 84 x) := appendA_of (e := 31) (by kernel_rfl) (by kernel_rfl)
theorem ap128_128 {hp : AHeap} {id : Nat} {s x : AV} : appendA Tryz.prog hp id 128 128 s x = appS 2 32 hp id s (srcA Tryz.prog hp 2 128 x) := appendA_of (e := 134) (by kernel_rfl) (by kernel_rfl)
theorem ar71 : arrO Tryz.prog 71 = some (2, 23) := by kernel_rfl
theorem bd38 {hp : AHeap} {parts : List (Nat × AV)} : buildA Tryz.prog hp 38 parts = (fillA hp (plf [(0, 1), (1, 1), (2, 1)]) [.val (.string ⟨#[]⟩), .val (.int .i64 0), .val .nilIface] parts).map .agg := buildA_of (by kernel_rfl) (by kernel_rfl)
theorem bd50 {hp : AHeap} {parts : List (Nat × AV)} : buildA Tryz.prog hp 50 parts = (fillA hp (plf [(0, 1), (1, 1), (2, 1)]) [.val (.string ⟨#[]⟩), .val (.string ⟨#[]⟩), .val (.slice none 0 0)] parts).map .agg := buildA_of (by kernel_rfl) (by kernel_rfl)
theorem bd71 {hp : AHeap} {parts : List (Nat × AV)} : buildA Tryz.prog hp 71 parts = (fillA hp pla1 [.val (.slice none 0 0), .val (.slice none 0 0)] parts).map .agg := buildA_arr (n := 2) (e := 23) (by kernel_rfl) (by kernel_rfl) (by kernel_rfl)
theorem bd83 {hp : AHeap} {parts : List (Nat × AV)} : buildA Tryz.prog hp 83 parts = (fillA hp (plf [(0, 1), (1, 1)]) [.val (.slice none 0 0), .val (.map none)] parts).map .agg := buildA_of (by kernel_rfl) (by kernel_rfl)
theorem bd102 {hp : AHeap} {parts : List (Nat × AV)} : buildA Tryz.prog hp 102 parts = (fillA hp (plf [(0, 1), (1, 1)]) [.val (.int .i64 0), .val (.string ⟨#[]⟩)] parts).map .agg := buildA_of (by kernel_rfl) (by kernel_rfl)
theorem bd134 {hp : AHeap} {parts : List (Nat × AV)} : buildA Tryz.prog hp 134 parts = (fillA hp (plf [(0, 1), (1, 1)]) [.val (.string ⟨#[]⟩), .val (.string ⟨#[]⟩)] parts).map .agg := buildA_of (by kernel_rfl) (by kernel_rfl)
theorem bd248 {hp : AHeap} {parts : List (Nat × AV)} : buildA Tryz.prog hp 248 parts = (fillA hp (plf [(0, 1), (1, 1), (2, 1)]) [.val (.slice none 0 0), .val (.int .i64 0), .val (.int .i64 0)] parts).map .agg := buildA_of (by kernel_rfl) (by kernel_rfl)
theorem el22 : elemO Tryz.prog 22 = some 71 := by kernel_rfl
theorem el23 : elemO Tryz.prog 23 = some 5 := by kernel_rfl
theorem el31 : elemO Tryz.prog 31 = some 50 := by kernel_rfl
theorem el43 : elemO Tryz.prog 43 = some 102 := by kernel_rfl
theorem el48 : elemO Tryz.prog 48 = some 3 := by kernel_rfl
theorem el54 : elemO Tryz.prog 54 = some 9 := by kernel_rfl
theorem el84 : elemO Tryz.prog 84 = some 31 := by kernel_rfl
theorem el128 : elemO Tryz.prog 128 = some 134 := by kernel_rfl
theorem en71 : elemO Tryz.prog 71 = none := by kernel_rfl
theorem fl38_0 : fieldO Tryz.prog 38 0 = some (0, 9) := by kernel_rfl
theorem fl38_1 : fieldO Tryz.prog 38 1 = some (1, 3) := by kernel_rfl
theorem fl50_0 : fieldO Tryz.prog 50 0 = some (0, 9) := by kernel_rfl
theorem fl50_1 : fieldO Tryz.prog 50 1 = some (1, 9) := by kernel_rfl
theorem fl50_2 : fieldO Tryz.prog 50 2 = some (2, 48) := by kernel_rfl
theorem fl83_0 : fieldO Tryz.prog 83 0 = some (0, 31) := by kernel_rfl
theorem fl83_1 : fieldO Tryz.prog 83 1 = some (1, 75) := by kernel_rfl
theorem fl102_0 : fieldO Tryz.prog 102 0 = some (0, 3) := by kernel_rfl
theorem fl134_0 : fieldO Tryz.prog 134 0 = some (0, 9) := by kernel_rfl
theorem fl134_1 : fieldO Tryz.prog 134 1 = some (1, 9) := by kernel_rfl
theorem fl248_0 : fieldO Tryz.prog 248 0 = some (0, 23) := by kernel_rfl
theorem fl248_1 : fieldO Tryz.prog 248 1 = some (1, 3) := by kernel_rfl
theorem fl248_2 : fieldO Tryz.prog 248 2 = some (2, 35) := by kernel_rfl
theorem ik3 : intKindO Tryz.prog 3 = some .i64 := by kernel_rfl
theorem ik5 : intKindO Tryz.prog 5 = some .u8 := by kernel_rfl
theorem ik168 : intKindO Tryz.prog 168 = some .u64 := by kernel_rfl
theorem ik213 : intKindO Tryz.prog 213 = some .u32 := by kernel_rfl
theorem ik224 : intKindO Tryz.prog 224 = some .u64 := by kernel_rfl
theorem mk22 : makeC Tryz.prog 22 = some (71, 2, 48, [.val (.slice none 0 0), .val (.slice none 0 0)]) := by kernel_rfl
theorem mk23 : makeC Tryz.prog 23 = some (5, 1, 1, [.val (.int .u8 0)]) := by kernel_rfl
theorem mk31 : makeC Tryz.prog 31 = some (50, 3, 56, [.val (.string ⟨#[]⟩), .val (.string ⟨#[]⟩), .val (.slice none 0 0)]) := by kernel_rfl
theorem mk43 : makeC Tryz.prog 43 = some (102, 2, 24, [.val (.int .i64 0), .val (.string ⟨#[]⟩)]) := by kernel_rfl
theorem mk48 : makeC Tryz.prog 48 = some (3, 1, 8, [.val (.int .i64 0)]) := by kernel_rfl
theorem mk54 : makeC Tryz.prog 54 = some (9, 1, 16, [.val (.string ⟨#[]⟩)]) := by kernel_rfl
theorem mk84 : makeC Tryz.prog 84 = some (31, 1, 24, [.val (.slice none 0 0)]) := by kernel_rfl
theorem mk128 : makeC Tryz.prog 128 = some (134, 2, 32, [.val (.string ⟨#[]⟩), .val (.string ⟨#[]⟩)]) := by kernel_rfl
theorem ni35 : isNotIface Tryz.prog 35 = true := by kernel_rfl
theorem ni38 : isNotIface Tryz.prog 38 = true := by kernel_rfl
theorem ni40 : isNotIface Tryz.prog 40 = true := by kernel_rfl
theorem ni88 : isNotIface Tryz.prog 88 = true := by kernel_rfl
theorem nn26 {x y : Operand} : binV Tryz.prog .eql 26 x y (.pointer none) (.pointer none) = some (.bool true) := by kernel_rfl
theorem pt26 : isPtrT Tryz.prog 26 = true := by kernel_rfl
theorem st9 : isStrT Tryz.prog 9 = true := by kernel_rfl
theorem sz3 : szO Tryz.prog 3 = some 1 := by kernel_rfl
theorem sz5 : szO Tryz.prog 5 = some 1 := by kernel_rfl
theorem sz9 : szO Tryz.prog 9 = some 1 := by kernel_rfl
theorem sz23 : szO Tryz.prog 23 = some 1 := by kernel_rfl
theorem sz31 : szO Tryz.prog 31 = some 1 := by kernel_rfl
theorem sz35 : szO Tryz.prog 35 = some 1 := by kernel_rfl
theorem sz43 : szO Tryz.prog 43 = some 1 := by kernel_rfl
theorem sz48 : szO Tryz.prog 48 = some 1 := by kernel_rfl
theorem sz50 : szO Tryz.prog 50 = some 3 := by kernel_rfl
theorem sz71 : szO Tryz.prog 71 = some 2 := by kernel_rfl
theorem sz75 : szO Tryz.prog 75 = some 1 := by kernel_rfl
theorem sz102 : szO Tryz.prog 102 = some 2 := by kernel_rfl
theorem sz134 : szO Tryz.prog 134 = some 2 := by kernel_rfl
theorem sz193 : szO Tryz.prog 193 = some 1 := by kernel_rfl
theorem sz213 : szO Tryz.prog 213 = some 1 := by kernel_rfl
theorem u85 : isU8 Tryz.prog 5 = true := by kernel_rfl
theorem un3 : (Tryz.prog.underlying 3).isSome = true := by kernel_rfl
theorem un5 : (Tryz.prog.underlying 5).isSome = true := by kernel_rfl
theorem un168 : (Tryz.prog.underlying 168).isSome = true := by kernel_rfl
theorem un213 : (Tryz.prog.underlying 213).isSome = true := by kernel_rfl
theorem un224 : (Tryz.prog.underlying 224).isSome = true := by kernel_rfl
theorem zr3 : zeroC Tryz.prog 3 = some [.val (.int .i64 0)] := by kernel_rfl
theorem zr23 : zeroC Tryz.prog 23 = some [.val (.slice none 0 0)] := by kernel_rfl
theorem zr35 : zeroC Tryz.prog 35 = some [.val (.int .i64 0)] := by kernel_rfl
theorem zr38 : zeroC Tryz.prog 38 = some [.val (.string ⟨#[]⟩), .val (.int .i64 0), .val .nilIface] := by kernel_rfl
theorem zr43 : zeroC Tryz.prog 43 = some [.val (.slice none 0 0)] := by kernel_rfl
theorem zr50 : zeroC Tryz.prog 50 = some [.val (.string ⟨#[]⟩), .val (.string ⟨#[]⟩), .val (.slice none 0 0)] := by kernel_rfl
theorem zr71 : zeroC Tryz.prog 71 = some [.val (.slice none 0 0), .val (.slice none 0 0)] := by kernel_rfl
theorem zr75 : zeroC Tryz.prog 75 = some [.val (.map none)] := by kernel_rfl
theorem zr102 : zeroC Tryz.prog 102 = some [.val (.int .i64 0), .val (.string ⟨#[]⟩)] := by kernel_rfl
theorem zr134 : zeroC Tryz.prog 134 = some [.val (.string ⟨#[]⟩), .val (.string ⟨#[]⟩)] := by kernel_rfl
theorem zr193 : zeroC Tryz.prog 193 = some [.val .nilFunc] := by kernel_rfl
theorem zr213 : zeroC Tryz.prog 213 = some [.val (.int .u32 0)] := by kernel_rfl
attribute [go_sem] ag3 ag5 ag9 ag23 ag31 ag35 ag43 ag48 ag50 ag71 ag75 ag102 ag134 ag193 ag213 ap23_9 ap23_23 ap31_31 ap43_43 ap48_48 ap54_54 ap84_84 ap128_128 ar71 bd38 bd50 bd71 bd83 bd102 bd134 bd248 el22 el23 el31 el43 el48 el54 el84 el128 en71 fl38_0 fl38_1 fl50_0 fl50_1 fl50_2 fl83_0 fl83_1 fl102_0 fl134_0 fl134_1 fl248_0 fl248_1 fl248_2 ik3 ik5 ik168 ik213 ik224 mk22 mk23 mk31 mk43 mk48 mk54 mk84 mk128 ni35 ni38 ni40 ni88 nn26 pt26 st9 sz3 sz5 sz9 sz23 sz31 sz35 sz43 sz48 sz50 sz71 sz75 sz102 sz134 sz193 sz213 u85 un3 un5 un168 un213 un224 zr3 zr23 zr35 zr38 zr43 zr50 zr71 zr75 zr102 zr134 zr193 zr213
end Go.Proofs.Yt
namespace Go.Gm
def encM (n : Int) : Value × Value := (.int .i64 n, .bool true)
def insM (a : Int) (l : List Int) : List Int := if a ∈ l then l else l ++ [a]
theorem keys_encM (l : List Int) : (l.map encM).all (fun e => isK .i64 e.1) = true := by
 induction l with
 | nil => rfl
 | cons a l ih => simp only [List.map_cons, List.all_cons, ih, Bool.and_true]; rfl
theorem find_encM (a : Int) (l : List Int) : findI a (l.map encM) = if a ∈ l then some (.bool true) else none := by
 induction l with
 | nil => rfl
 | cons b l ih =>
  by_cases e : b = a
  ·subst e; simp [findI, encM, eqK]
  ·have e' : ¬ a = b := fun x => e x.symm
   simp only [List.map_cons, findI, ih, List.mem_cons, e', false_or]
   simp [encM, eqK, e]
theorem set_encM (a : Int) (l : List Int) : setI .i64 a (.bool true) (l.map encM) = (insM a l).map encM := by
 induction l with
 | nil => rfl
 | cons b l ih =>
  by_cases e : b = a
  ·subst e; simp [setI, encM, eqK, insM]
  ·have e' : ¬ a = b := fun x => e x.symm
   simp only [List.map_cons, setI, ih]
   by_cases m : a ∈ l <;> simp [encM, eqK, e, e', insM, m]
theorem look_encM {P : Program} {t : TypeId} (h : mapIO P t = some (.i64, .bool false)) (l : List Int) (a : Int) : lookA P t (.im (l.map encM)) (.val (.int .i64 a)) = some (.val (.bool (decide (a ∈ l)))) := by
 simp only [lookA, h, keys_encM, find_encM, and_self, if_true]
 by_cases m : a ∈ l <;> simp [m]
theorem upd_encM {P : Program} {t : TypeId} (h : mapIO P t = some (.i64, .bool false)) (l : List Int) (a : Int) (o : Nat) : updB P t o (some (.mapo (l.map encM))) (.val (.int .i64 a)) (.val (.bool true)) = some [(o, some (.mapo ((insM a l).map encM)))] := by
 simp only [updB, toV, h, keys_encM, set_encM, and_self, if_true]
theorem upd_encM0 {P : Program} {t : TypeId} (h : mapIO P t = some (.i64, .bool false)) (a : Int) (o : Nat) : updB P t o (some (.mapo [])) (.val (.int .i64 a)) (.val (.bool true)) = some [(o, some (.mapo ((insM a []).map encM)))] := upd_encM h [] a o
theorem updA_mp {P : Program} {hp : AHeap} {t : TypeId} {o : Nat} {k x : AV} : updA P hp t (.mp o) k x = updB P t o (hp o) k x := rfl
theorem mapT_im (τ : Nat → Nat) (es : List (Value × Value)) : mapT τ (.im es) = .im es := by simp only [mapT]
theorem tokL_im (m : Nat) (es : List (Value × Value)) : tokL m (.im es) = true := by simp only [tokL]
theorem inl_im (es : List (Value × Value)) : inl (.im es) = true := by simp only [inl]
theorem sealV_im {hp : AHeap} (es : List (Value × Value)) : sealV hp (.im es) = some (.im es, []) := by simp only [sealV]
theorem claimV_im (es : List (Value × Value)) (k : Nat) : claimV (.im es) k = (.im es, []) := by simp only [claimV]
theorem oneAV_im {hp : AHeap} (es : List (Value × Value)) : oneAV hp (.im es) = true := by simp only [oneAV]
theorem shares_im (es : List (Value × Value)) : shares (.im es) = true := by simp only [shares]
theorem cellsOf_im (es : List (Value × Value)) : cellsOf (.im es) = [.im es] := rfl
theorem cellsOf_mp (t : Nat) : cellsOf (.mp t) = [.mp t] := rfl
attribute [go_sem] updA_mp mapT_im tokL_im inl_im sealV_im claimV_im oneAV_im shares_im cellsOf_im cellsOf_mp
theorem Weak.nilm : Weak (.val (.map none)) (.im []) := fun _ _ h => by cases h; exact .im0
theorem Weak.nilM : Weak (.val (.map none)) (.im (List.map encM [])) := Weak.nilm
theorem Ent.stillMap {N nx : Nat} {fr : Nat → AV} {hp : AHeap} {es : List (Value × Value)} {t : Nat} (d : Nat) (hd : fr d = .mp t) (hx : hp t = some (.mapo es)) : Ent N ⟨fr, hp, nx⟩ ⟨upd fr d (.im es), upd hp t none, nx⟩ := fun P G a w hc => by
 obtain ⟨h1, h2, loc, hM, hr⟩ := conc_iff.1 hc
 clear hc
 refine conc_iff.2 ?_
 obtain ⟨hM', x'⟩ := hM.drop t
 refine ⟨h1, h2, _, hM', fun d' => ?_⟩
 by_cases e : d' = d
 ·subst e
  show Rel _ (upd fr d' (.im es) d') _
  rw [upd_same]
  obtain ⟨l, hl, hlt, ens, clock, hh, he⟩ := hM.obj t _ hx
  have hv := hd ▸ hr d'
  have hlb : l.b < w.heap.size := hM.lt hl hlt
  generalize a.tmps.getD d' undef = v at hv
  have : v = .map (some l.b) := by cases hv with | mp ha hh => exact hh l hl
  subst this
  refine .im hlb ?_ hh he
  rintro (⟨t', o', l', k1, k2, k3, k4, k5⟩ | hb)
  ·by_cases e : t' = t
   ·subst e; rw [upd_same] at k1; cases k1
   ·rw [upd_other _ _ e] at k3; exact e (hM.inj _ _ _ _ k3 hl k5 hlt k4)
  ·exact hM.fgn t l hl hlt hb
 ·show Rel _ (upd fr d (.im es) d') _
  rw [upd_other _ _ e]; exact (hr d').ext x'
end Go.Gm
namespace Go.Gm
theorem ORen.mpe {τ : Nat → Nat} {m : Nat} {o : Option AObj} {es : List (Value × Value)} (h : o = some (.mapo es)) : ORen τ m o (some (.mapo es)) := by rw [h]; exact .mp
theorem PC.fr_sl {P : Program} {f : FuncId} {us : List AV} {sz : Nat} {rows : List (List AV)} (h : PC P f us (.fr sz rows)) : PC P f us (.sl rows) := fun m w vs hm ht hr => by
 refine (h m w vs hm ht hr).mono ?_
 rintro e w' ⟨v, hp, al, loc, r, ts, rfl, hM, hv, hs, hn⟩
 unfold sealV at hs
 split at hs
 ·rename_i t off len
  split at hs
  ·rename_i sz' rows' ho
   split at hs
   ·rename_i hc
    obtain ⟨c1, c2, c3⟩ := hc
    cases hs
    subst c1
    obtain ⟨hM', x'⟩ := hM.drop t
    have hx : resV hp (.own t 0 len) = some (.sl rows) := by simp [resV, ho, c2, c3]
    have hb := res_rel hM (m := fun b => m b ∨ mtOf (upd hp t none) (upd loc t none) b) (fun b hb => hb.imp id fun ⟨t', o', l', k1, k2, k3, k4, k5⟩ => by
     by_cases e : t' = t
     ·subst e; rw [upd_same] at k1; cases k1
     ·rw [upd_other _ _ e] at k1 k3; exact ⟨t', o', l', k1, k2, k3, k4, k5⟩) hv hx (fun t1 o1 n1 l he hl hlt => by
      cases he
      rintro (hb | ⟨t', o', l', k1, k2, k3, k4, k5⟩)
      ·exact hM.fgn t l hl hlt hb
      ·by_cases e : t' = t
       ·subst e; rw [upd_same] at k1; cases k1
       ·rw [upd_other _ _ e] at k3; exact e (hM.inj _ _ _ _ k3 hl k5 hlt k4))
    have mv : Move (E0 (fun b => m b ∨ mtOf (upd hp t none) (upd loc t none) b) w') (mkE m (upd hp t none) al (upd loc t none) w') :=
     ⟨Nat.le_refl _, fun b _ hn => ⟨fun hm => hn (Or.inr (hm.elim Or.inr Or.inl)), rfl⟩⟩
    exact ⟨v, _, al, _, .sl rows, [], rfl, hM', Rel.move mv (by simp [inl, c3]) hb, by simp [sealV, c3], List.nodup_nil⟩
   ·cases hs
  ·cases hs
 ·cases e : sealL hp _ with
  | none => rw [e] at hs; cases hs
  | some x => rw [e] at hs; cases hs
 ·cases e : sealL hp _ with
  | none => rw [e] at hs; cases hs
  | some x => rw [e] at hs; cases hs
 all_goals first | (cases hs; done) | (split at hs <;> cases hs)
end Go.Gm
namespace Go.Proofs.Yt
open Go.Gm
namespace Au
structure A2 (α : Type) where
  e0 : α
  e1 : α
inductive Er where
  | nil
  | no (n : Int)
  | slip (s : ByteArray) (k : Int) (e : Er)
instance : Inhabited Er := ⟨.nil⟩
def erV : Er → Value
  | .nil => .nilIface
  | .no n => .iface 35 (.int .i64 n)
  | .slip s k e => .iface 38 (.agg #[.string s, .int .i64 k, erV e])
def Er.isNil : Er → Bool
  | .nil => true
  | _ => false
@[go_sem] theorem erV_nil : erV .nil = .nilIface := rfl
@[go_sem] theorem erV_no (n : Int) : erV (.no n) = .iface 35 (.int .i64 n) := rfl
@[go_sem] theorem erV_slip (s : ByteArray) (k : Int) (e : Er) : erV (.slip s k e) = .iface 38 (.agg #[.string s, .int .i64 k, erV e]) := rfl
@[go_sem] theorem er_eqlI {x : Operand} {t : TypeId} {v : Value} : binV Tryz.prog .eql 28 x (.const .nilIface) (.iface t v) .nilIface = some (.bool false) := by kernel_rfl
@[go_sem] theorem er_neqI {x : Operand} {t : TypeId} {v : Value} : binV Tryz.prog .neq 28 x (.const .nilIface) (.iface t v) .nilIface = some (.bool true) := by kernel_rfl
@[go_sem] theorem er_eqlN {x : Operand} : binV Tryz.prog .eql 28 x (.const .nilIface) .nilIface .nilIface = some (.bool true) := by cases x <;> kernel_rfl
@[go_sem] theorem er_neqN {x : Operand} : binV Tryz.prog .neq 28 x (.const .nilIface) .nilIface .nilIface = some (.bool false) := by cases x <;> kernel_rfl
@[go_sem] theorem er_eql {x : Operand} {e : Er} : binV Tryz.prog .eql 28 x (.const .nilIface) (erV e) .nilIface = some (.bool e.isNil) := by
  cases e
  · rw [erV_nil]; exact er_eqlN
  · rw [erV_no]; exact er_eqlI
  · rw [erV_slip]; exact er_eqlI
@[go_sem] theorem er_neq {x : Operand} {e : Er} : binV Tryz.prog .neq 28 x (.const .nilIface) (erV e) .nilIface = some (.bool (!e.isNil)) := by
  cases e
  · rw [erV_nil]; exact er_neqN
  · rw [erV_no]; exact er_neqI
  · rw [erV_slip]; exact er_neqI
@[go_sem] theorem oneAV_er {hp : AHeap} (e : Er) : oneAV hp (.val (erV e)) = true := by cases e <;> rfl
@[go_sem] theorem oneCell_er (e : Er) : (erV e).oneCell' = true := by cases e <;> rfl
@[go_sem] theorem resV_er {hp : AHeap} (e : Er) : resV hp (.val (erV e)) = some (.val (erV e)) := by cases e <;> rfl
@[go_sem] theorem tokL_ifc (m : Nat) (t : TypeId) (u : AV) : tokL m (.ifc t u) = tokL m u := by simp only [tokL]
@[go_sem] theorem u8o23 : u8O Tryz.prog 23 = true := by kernel_rfl
theorem mi75 : mapIO Tryz.prog 75 = some (.i64, .bool false) := by kernel_rfl
end Au
end Go.Proofs.Yt
namespace Go.Gm
structure A32 (α : Type) where
 e0 : α
 e1 : α
 e2 : α
 e3 : α
 e4 : α
 e5 : α
 e6 : α
 e7 : α
 e8 : α
 e9 : α
 e10 : α
 e11 : α
 e12 : α
 e13 : α
 e14 : α
 e15 : α
 e16 : α
 e17 : α
 e18 : α
 e19 : α
 e20 : α
 e21 : α
 e22 : α
 e23 : α
 e24 : α
 e25 : α
 e26 : α
 e27 : α
 e28 : α
 e29 : α
 e30 : α
 e31 : α
def A32.get {α : Type} (x : A32 α) : Nat → α
 | 0 => x.e0
 | 1 => x.e1
 | 2 => x.e2
 | 3 => x.e3
 | 4 => x.e4
 | 5 => x.e5
 | 6 => x.e6
 | 7 => x.e7
 | 8 => x.e8
 | 9 => x.e9
 | 10 => x.e10
 | 11 => x.e11
 | 12 => x.e12
 | 13 => x.e13
 | 14 => x.e14
 | 15 => x.e15
 | 16 => x.e16
 | 17 => x.e17
 | 18 => x.e18
 | 19 => x.e19
 | 20 => x.e20
 | 21 => x.e21
 | 22 => x.e22
 | 23 => x.e23
 | 24 => x.e24
 | 25 => x.e25
 | 26 => x.e26
 | 27 => x.e27
 | 28 => x.e28
 | 29 => x.e29
 | 30 => x.e30
 | _ => x.e31
def idxP (P : Program) (t : TypeId) (a b : Option Value) : Option AR := match a, b with
 | some a, some b => (evS P (Instr.index t a b)).map fun v => ⟨.val v, []⟩
 | _, _ => none
theorem plain_index {P : Program} {fr : Operand → AV} {d : Option Tmp} {t : TypeId} {x i : Operand} {ty : TypeId} {pos : String} {af : Array Edge} {g : Option (Nat × Bool)} : plainA P fr ⟨d, .index t x i, ty, pos, af, g⟩ = idxP P t (toV (fr x)) (toV (fr i)) := by
 unfold plainA plainOp idxP
 cases ha : toV (fr x) <;> cases hb : toV (fr i) <;> simp [Op.operands, ha, hb, execOp, evS_bind, evS_pure]
 rename_i a b
 simp only [evS_map]
 cases evS P (Instr.index t a b) <;> rfl
attribute [go_sem] plain_index
end Go.Gm
namespace Go.Gm
def cmpI (P : Program) (d : Nat) (e : TypeId) (xs ys : Array Value) (sz : Nat) : List Nat → Option Bool
 | [] => some true
 | i :: l => ((evS P (part e xs (i * sz))).bind fun u => (evS P (part e ys (i * sz))).bind fun v => evS P (Op.equalIn d e u v)).bind fun r => if r = true then cmpI P d e xs ys sz l else some false
end Go.Gm
namespace Go.Gm
theorem idxO_agg {P : Program} {t : TypeId} {cs : List AV} {y : AV} {pl : Option AR} : idxO P t (.agg cs) y pl = pl := (rfl)
attribute [go_sem] idxO_agg
end Go.Gm
namespace Go.Gm
theorem Weak.fnclo {f : FuncId} : Weak (.val (.func (.func f) #[] #[])) (.clo (.func f) [] []) := fun _ _ h => by
  cases h with
  | val => exact .clo (f' := []) (c' := []) .nil .nil
theorem set_row {α : Type} {enc : α → List AV} {y : α} {r : List AV} (h : enc y = r) (l : List α) (i : Nat) : (l.map enc).set i r = (l.set i y).map enc := by rw [← h, List.map_set]
attribute [go_sem] resA resOf_1 resOf_2 sealV_val sealV_sl sealV_agg sealV_tup sealV_own sealL_nil sealL_cons sealV_clo resOf_clo
def finJ (P : Program) (N : Nat) (rs : List ResultVar) (X : AV) (a1 b1 : List (Option AObj)) (e : Exit) (st : ASt) : Prop := ∃ st', Ent N st st' ∧ finI P rs X a1 b1 e st'
theorem ic_ofJ {P : Program} {f : FuncId} {fn : Func} {c : Code} {us : List AV} {X : AV} {a0 a1 b1 : List (Option AObj)} {N : Nat} {rs : List ResultVar} (hf : P.funcs[f]? = some fn) (hb : fn.body = some c) (hN : fn.ntmps = N) (hrs : fn.results.toList = rs) (hn : us.length ≤ N)
    (h : AW P N c (finJ P N rs X a1 b1) ⟨initF us, hpL a0 [], 8⟩) : IC P f a0 us X a1 b1 :=
  ic_of hf hb hN hrs hn (h.mono fun _ _ h => h)
theorem mapT_clo (τ : Nat → Nat) (f : Fn) (a b : List AV) : mapT τ (.clo f a b) = .clo f (mapTL τ a) (mapTL τ b) := by simp only [mapT]
theorem tokL_clo0 (m : Nat) (f : Fn) : tokL m (.clo f [] []) = true := by simp [tokL, tokLL]
attribute [go_sem] tokL_clo0
end Go.Gm
set_option maxRecDepth 8000
set_option maxHeartbeats 1000000
namespace Go.Proofs.Yt
open Go.Gm
namespace Au
def enc3 (x : Int) : List AV := [.val (.int .i64 x)]
attribute [go_sem] enc3
theorem inl_enc3 (x : Int) : inlL (enc3 x) = true := by simp only [go_sem]
theorem ml_enc3 (l : List Int) : (∀ r ∈ l.map enc3, r.length = 1) = True := forall_map (f := enc3) (fun _ => rfl) l
theorem ir_enc3 (l : List Int) : inlR (l.map enc3) = true := inlR_map inl_enc3 l
theorem mr_enc3 (τ : Nat → Nat) (l : List Int) : (l.map enc3).map (mapTL τ) = l.map enc3 := mapR_inl τ (ir_enc3 l)
theorem no_enc3 (x : Int) : normL (enc3 x) = enc3 x := by simp [enc3, normL, norm, go_sem]
theorem nr_enc3 (l : List Int) : normR (l.map enc3) = l.map enc3 := normR_map no_enc3 l
attribute [go_sem] ml_enc3 ir_enc3 mr_enc3 nr_enc3
structure Slip where
  Stage : ByteArray
  No : Int
  Err : Er
def encSlip (x : Slip) : List AV := [.val (.string x.Stage), .val (.int .i64 x.No), .val (erV x.Err)]
attribute [go_sem] encSlip
def enc5 (x : Int) : List AV := [.val (.int .u8 x)]
attribute [go_sem] enc5
theorem inl_enc5 (x : Int) : inlL (enc5 x) = true := by simp only [go_sem]
theorem ml_enc5 (l : List Int) : (∀ r ∈ l.map enc5, r.length = 1) = True := forall_map (f := enc5) (fun _ => rfl) l
theorem ir_enc5 (l : List Int) : inlR (l.map enc5) = true := inlR_map inl_enc5 l
theorem no_enc5 (x : Int) : normL (enc5 x) = enc5 x := by simp [enc5, normL, norm, go_sem]
theorem nr_enc5 (l : List Int) : normR (l.map enc5) = l.map enc5 := normR_map no_enc5 l
attribute [go_sem] ml_enc5 ir_enc5 nr_enc5
def enc71 (x : A2 (List Int)) : List AV := [.sl (List.map enc5 x.e0), .sl (List.map enc5 x.e1)]
attribute [go_sem] enc71
theorem inl_enc71 (x : A2 (List Int)) : inlL (enc71 x) = true := by simp only [go_sem]
theorem ir_enc71 (l : List (A2 (List Int))) : inlR (l.map enc71) = true := inlR_map inl_enc71 l
attribute [go_sem] ir_enc71
structure Res where
  Key : ByteArray
  Val : ByteArray
  Offs : List Int
def encRes (x : Res) : List AV := [.val (.string x.Key), .val (.string x.Val), .sl (List.map enc3 x.Offs)]
attribute [go_sem] encRes
theorem inl_encRes (x : Res) : inlL (encRes x) = true := by simp only [go_sem]
theorem ml_encRes (l : List Res) : (∀ r ∈ l.map encRes, r.length = 3) = True := forall_map (f := encRes) (fun _ => rfl) l
theorem ir_encRes (l : List Res) : inlR (l.map encRes) = true := inlR_map inl_encRes l
theorem mr_encRes (τ : Nat → Nat) (l : List Res) : (l.map encRes).map (mapTL τ) = l.map encRes := mapR_inl τ (ir_encRes l)
theorem no_encRes (x : Res) : normL (encRes x) = encRes x := by simp [encRes, normL, norm, go_sem]
theorem nr_encRes (l : List Res) : normR (l.map encRes) = l.map encRes := normR_map no_encRes l
attribute [go_sem] ml_encRes ir_encRes mr_encRes nr_encRes
structure Pair where
  Key : ByteArray
  Val : ByteArray
def encPair (x : Pair) : List AV := [.val (.string x.Key), .val (.string x.Val)]
attribute [go_sem] encPair
theorem inl_encPair (x : Pair) : inlL (encPair x) = true := by simp only [go_sem]
theorem ir_encPair (l : List Pair) : inlR (l.map encPair) = true := inlR_map inl_encPair l
theorem no_encPair (x : Pair) : normL (encPair x) = encPair x := by simp [encPair, normL, norm, go_sem]
theorem nr_encPair (l : List Pair) : normR (l.map encPair) = l.map encPair := normR_map no_encPair l
attribute [go_sem] ir_encPair nr_encPair
def enc9 (x : ByteArray) : List AV := [.val (.string x)]
attribute [go_sem] enc9
theorem inl_enc9 (x : ByteArray) : inlL (enc9 x) = true := by simp only [go_sem]
theorem ir_enc9 (l : List ByteArray) : inlR (l.map enc9) = true := inlR_map inl_enc9 l
theorem mr_enc9 (τ : Nat → Nat) (l : List ByteArray) : (l.map enc9).map (mapTL τ) = l.map enc9 := mapR_inl τ (ir_enc9 l)
attribute [go_sem] ir_enc9 mr_enc9
structure Record where
  Off : Int
  Line : ByteArray
def encRecord (x : Record) : List AV := [.val (.int .i64 x.Off), .val (.string x.Line)]
attribute [go_sem] encRecord
theorem inl_encRecord (x : Record) : inlL (encRecord x) = true := by simp only [go_sem]
theorem ir_encRecord (l : List Record) : inlR (l.map encRecord) = true := inlR_map inl_encRecord l
theorem to_encRecord (m : Nat) (l : List Record) : (l.map encRecord).all (tokLL m) = true := tokR_inl m (ir_encRecord l)
attribute [go_sem] ir_encRecord to_encRecord
def enc31 (x : List Res) : List AV := [.sl (List.map encRes x)]
attribute [go_sem] enc31
theorem inl_enc31 (x : List Res) : inlL (enc31 x) = true := by simp only [go_sem]
theorem ir_enc31 (l : List (List Res)) : inlR (l.map enc31) = true := inlR_map inl_enc31 l
attribute [go_sem] ir_enc31
structure Fwd where
  Off : Int
  Keys : List ByteArray
def encFwd (x : Fwd) : List AV := [.val (.int .i64 x.Off), .sl (List.map enc9 x.Keys)]
attribute [go_sem] encFwd
structure Reader where
  b : List Int
  at_ : Int
  e : Int
def encReader (x : Reader) : List AV := [.sl (List.map enc5 x.b), .val (.int .i64 x.at_), .val (.int .i64 x.e)]
attribute [go_sem] encReader
structure Trace where
  l : List Res
  offs : List Int
def encTrace (x : Trace) : List AV := [.sl (List.map encRes x.l), .im (List.map encM x.offs)]
attribute [go_sem] encTrace
def enc23 (x : List Int) : List AV := [.sl (List.map enc5 x)]
attribute [go_sem] enc23
def enc43 (x : List Record) : List AV := [.sl (List.map encRecord x)]
attribute [go_sem] enc43
theorem nb4 {x y : Operand} {a b : Bool} : binV Tryz.prog .neq 4 x y (.bool a) (.bool b) = some (.bool (!decide (a = b))) := binV_nbool (by kernel_rfl)
def fuel : Nat := 4000000
end Au
end Go.Proofs.Yt
namespace Go.Gm
section
variable {τ : Nat → Nat} {m : Nat} {fr fr' : Nat → AV} {d : Nat}
theorem RF.qv {v : AV} (h : RF τ m fr fr') (hi : inl v = true := by first | rfl | simp only [go_sem])
  (hv : fr d = v := by first | rfl | (simp [upd_ap, hpL_ap, tau, mapT, mapTL, bytesI_len]; done) | simp [upd_ap, hpL_ap, tau, mapT, mapTL, bytesI_len, *]) : RF τ m fr (upd fr' d v) := h.pv hi hv
theorem RF.qo {t off n : Nat} (h : RF τ m fr fr') (ht : t < m := by decide)
  (hv : fr d = .own (τ t) off n := by first | rfl | (simp [upd_ap, hpL_ap, tau, mapT, mapTL, bytesI_len]; done) | simp [upd_ap, hpL_ap, tau, mapT, mapTL, bytesI_len, *]) : RF τ m fr (upd fr' d (.own t off n)) := h.po ht hv
theorem RF.qp {t i off : Nat} (h : RF τ m fr fr') (ht : t < m := by decide)
  (hv : fr d = .ptr (τ t) i off := by first | rfl | (simp [upd_ap, hpL_ap, tau, mapT, mapTL, bytesI_len]; done) | simp [upd_ap, hpL_ap, tau, mapT, mapTL, bytesI_len, *]) : RF τ m fr (upd fr' d (.ptr t i off)) := h.pp ht hv
theorem RF.qt {v : AV} (h : RF τ m fr fr') (ht : tokL m v = true := by first | (simp [tokL, tokLL, inlR]; done) | simp [go_sem, tokL, tokLL])
  (hv : fr d = mapT τ v := by first | rfl | (simp [upd_ap, hpL_ap, tau, mapT, mapTL, bytesI_len]; done) | simp [upd_ap, hpL_ap, tau, mapT, mapTL, bytesI_len, *]) : RF τ m fr (upd fr' d v) := h.put ht (.of hv)
theorem HRen.ce {hp : AHeap} {k sz : Nat} {mu : Bool} {rows : List (List AV)} {os : List (Option AObj)} (hs : HRen τ m hp (k + 1) os) (hi : inlR rows = true := by first | rfl | simp only [go_sem])
  (h : hp (τ k) = some (.row sz mu rows) := by first | rfl | (simp [upd_ap, hpL_ap, tau, mapT, mapTL, bytesI_len]; done) | simp [upd_ap, hpL_ap, tau, mapT, mapTL, bytesI_len, *]) : HRen τ m hp k (some (.row sz mu rows) :: os) := .cons (.eq (t := τ k) hi h) hs
theorem Ent.canq {N nx : Nat} {hp : AHeap} {a b : List (Option AObj)} (l : List Nat) (hf : RF (tau l) m fr fr') (h0 : HRen (tau l) m hp 0 a) (h1 : HRen (tau l) m hp 8 b) (hm : m = 8 + l.length := by rfl) (hl : l.Nodup ∧ ∀ x ∈ l, 8 ≤ x ∨ (a[x]?).getD none = none := by first | decide | simp)
  (hb : b.length = l.length := by rfl) : Ent N ⟨fr, hp, nx⟩ ⟨fr', hpL a b, m⟩ := Ent.can l a b m hm hl hb hf h0 h1
end
section
variable {P : Program} {N id : Nat} {y : Code} {Q : Exit → ASt → Prop} {st st1 : ASt} {ops : List Oper}
theorem arun_mono {Q Q' : ASt → Prop} (hq : ∀ s, Q s → Q' s) : ∀ {rest : List Oper} {st : ASt}, arun P N ops rest st Q → arun P N ops rest st Q'
 | [], st, h => hq _ h
 | o :: rest, st, h => by
  unfold arun at h ⊢
  split
  ·rename_i hw; simp only [hw] at h
  ·rename_i b hw
   simp only [hw] at h
   split
   ·rename_i hb
    rw [if_pos hb] at h
    split
    ·rename_i f us hc
     simp only [hc] at h
     rcases h with ⟨xs, X, h1, h2, h3, h4, h5, h6⟩ | ⟨r, h1, h2, h3, h4⟩
     ·exact .inl ⟨xs, X, h1, h2, h3, h4, h5, arun_mono hq h6⟩
     ·exact .inr ⟨r, h1, h2, h3, arun_mono hq h4⟩
    ·rename_i hc
     simp only [hc] at h
     split
     ·rename_i r hr
      simp only [hr] at h
      exact ⟨h.1, arun_mono hq h.2⟩
     ·rename_i hr
      simp only [hr] at h
   ·rename_i hb
    rw [if_neg hb] at h
    exact ⟨h.1, arun_mono hq h.2⟩
theorem AW.rX (l : List Nat) (k : AW P N y Q st1) (h : arun P N ops ops st (fun st' => (⟨restr st'.fr l, st'.hp, st'.nx⟩ : ASt) = st1) := by
  (simp only [go_sem, ↓reduceIte, reduceCtorEq, Nat.reduceAdd, Nat.reduceSub, Nat.reduceMul, Nat.reduceEqDiff, Nat.reduceLT, Nat.reduceLeDiff]) <;> exact rfl) : AW P N (.seq (.region id ops.toArray false) y) Q st :=
 AW.regL l (arun_mono (fun s e => by rw [e]; exact k) h)
theorem AW.rY (l : List Nat) (k : Q .normal st1) (h : arun P N ops ops st (fun st' => (⟨restr st'.fr l, st'.hp, st'.nx⟩ : ASt) = st1) := by
  (simp only [go_sem, ↓reduceIte, reduceCtorEq, Nat.reduceAdd, Nat.reduceSub, Nat.reduceMul, Nat.reduceEqDiff, Nat.reduceLT, Nat.reduceLeDiff]) <;> exact rfl) : AW P N (.region id ops.toArray false) Q st :=
 AW.regionL l (arun_mono (fun s e => by rw [e]; exact k) h)
variable {f : FuncId} {xs : List AV} {X : AV}
theorem AW.sX (l : List Nat) (k : AW P N y Q st1) (h : arun P N ops ops st (fun st' => (⟨restr st'.fr l, st'.hp, st'.nx⟩ : ASt) = st1) := by
  (simp only [go_sem, ↓reduceIte, reduceCtorEq, Nat.reduceAdd, Nat.reduceSub, Nat.reduceMul, Nat.reduceEqDiff, Nat.reduceLT, Nat.reduceLeDiff, natOf_le, *]) <;> exact rfl) : AW P N (.seq (.region id ops.toArray false) y) Q st :=
 AW.regL l (arun_mono (fun s e => by rw [e]; exact k) h)
theorem AW.sY (l : List Nat) (k : Q .normal st1) (h : arun P N ops ops st (fun st' => (⟨restr st'.fr l, st'.hp, st'.nx⟩ : ASt) = st1) := by
  (simp only [go_sem, ↓reduceIte, reduceCtorEq, Nat.reduceAdd, Nat.reduceSub, Nat.reduceMul, Nat.reduceEqDiff, Nat.reduceLT, Nat.reduceLeDiff, natOf_le, *]) <;> exact rfl) : AW P N (.region id ops.toArray false) Q st :=
 AW.regionL l (arun_mono (fun s e => by rw [e]; exact k) h)
theorem AW.rC (l : List Nat) (pc : PC P f xs X) (he : Enter P f) (k : AW P N y Q st1) (h : PC P f xs X → Enter P f → arun P N ops ops st (fun st' => (⟨restr st'.fr l, st'.hp, st'.nx⟩ : ASt) = st1) := by
  (intro pc he; simp only [go_sem, ↓reduceIte, reduceCtorEq, Nat.reduceAdd, Nat.reduceSub, Nat.reduceMul, Nat.reduceEqDiff, Nat.reduceLT, Nat.reduceLeDiff]; refine arC.of pc he ?_; (simp only [go_sem, ↓reduceIte, reduceCtorEq, Nat.reduceAdd, Nat.reduceSub, Nat.reduceMul, Nat.reduceEqDiff, Nat.reduceLT, Nat.reduceLeDiff]) <;> exact rfl)) : AW P N (.seq (.region id ops.toArray false) y) Q st :=
 AW.regL l (arun_mono (fun s e => by rw [e]; exact k) (h pc he))
theorem AW.rD (l : List Nat) (pc : PC P f xs X) (he : Enter P f) (k : Q .normal st1) (h : PC P f xs X → Enter P f → arun P N ops ops st (fun st' => (⟨restr st'.fr l, st'.hp, st'.nx⟩ : ASt) = st1) := by
  (intro pc he; simp only [go_sem, ↓reduceIte, reduceCtorEq, Nat.reduceAdd, Nat.reduceSub, Nat.reduceMul, Nat.reduceEqDiff, Nat.reduceLT, Nat.reduceLeDiff]; refine arC.of pc he ?_; (simp only [go_sem, ↓reduceIte, reduceCtorEq, Nat.reduceAdd, Nat.reduceSub, Nat.reduceMul, Nat.reduceEqDiff, Nat.reduceLT, Nat.reduceLeDiff]) <;> exact rfl)) : AW P N (.region id ops.toArray false) Q st :=
 AW.regionL l (arun_mono (fun s e => by rw [e]; exact k) (h pc he))
theorem AW.sC (l : List Nat) (pc : PC P f xs X) (he : Enter P f) (k : AW P N y Q st1) (h : PC P f xs X → Enter P f → arun P N ops ops st (fun st' => (⟨restr st'.fr l, st'.hp, st'.nx⟩ : ASt) = st1) := by
  (intro pc he; simp only [go_sem, ↓reduceIte, reduceCtorEq, Nat.reduceAdd, Nat.reduceSub, Nat.reduceMul, Nat.reduceEqDiff, Nat.reduceLT, Nat.reduceLeDiff, natOf_le, *]; refine arC.of pc he ?_; (simp only [go_sem, ↓reduceIte, reduceCtorEq, Nat.reduceAdd, Nat.reduceSub, Nat.reduceMul, Nat.reduceEqDiff, Nat.reduceLT, Nat.reduceLeDiff, natOf_le, *]) <;> exact rfl)) : AW P N (.seq (.region id ops.toArray false) y) Q st :=
 AW.regL l (arun_mono (fun s e => by rw [e]; exact k) (h pc he))
theorem AW.rK (l : List Nat) (h : ∀ K, K = AW P N y Q → arun P N ops ops st (fun st' => K ⟨restr st'.fr l, st'.hp, st'.nx⟩)) : AW P N (.seq (.region id ops.toArray false) y) Q st := AW.regL l (h _ rfl)
theorem AW.rL (l : List Nat) (h : ∀ K, K = Q .normal → arun P N ops ops st (fun st' => K ⟨restr st'.fr l, st'.hp, st'.nx⟩)) : AW P N (.region id ops.toArray false) Q st := AW.regionL l (h _ rfl)
theorem bO {α β : Type} {o : Option α} {f : α → Option β} {b : β} (h : o.bind f = some b) : ∃ a, o = some a ∧ f a = some b := Option.bind_eq_some_iff.1 h
theorem noFt_ok (P : Program) : FtOk P noFt := fun _ _ _ h => by simp [noFt] at h
theorem AW.tX (l : List Nat) (k : AW P N y Q st1) (h : arun P N ops ops st (fun st' => (⟨restr st'.fr l, st'.hp, st'.nx⟩ : ASt) = st1) := by
  (simp only [go_sem, seval]) <;> exact rfl) : AW P N (.seq (.region id ops.toArray false) y) Q st :=
 AW.regL l (arun_mono (fun s e => by rw [e]; exact k) h)
theorem AW.tY (l : List Nat) (k : Q .normal st1) (h : arun P N ops ops st (fun st' => (⟨restr st'.fr l, st'.hp, st'.nx⟩ : ASt) = st1) := by
  (simp only [go_sem, seval]) <;> exact rfl) : AW P N (.region id ops.toArray false) Q st :=
 AW.regionL l (arun_mono (fun s e => by rw [e]; exact k) h)
theorem AW.vX (l : List Nat) (k : AW P N y Q st1) (h : arun P N ops ops st (fun st' => (⟨restr st'.fr l, st'.hp, st'.nx⟩ : ASt) = st1) := by
  (simp only [go_sem, seval, natOf_le, *]) <;> exact rfl) : AW P N (.seq (.region id ops.toArray false) y) Q st :=
 AW.regL l (arun_mono (fun s e => by rw [e]; exact k) h)
theorem AW.vY (l : List Nat) (k : Q .normal st1) (h : arun P N ops ops st (fun st' => (⟨restr st'.fr l, st'.hp, st'.nx⟩ : ASt) = st1) := by
  (simp only [go_sem, seval, natOf_le, *]) <;> exact rfl) : AW P N (.region id ops.toArray false) Q st :=
 AW.regionL l (arun_mono (fun s e => by rw [e]; exact k) h)
theorem AW.tC (l : List Nat) (pc : PC P f xs X) (he : Enter P f) (k : AW P N y Q st1) (h : PC P f xs X → Enter P f → arun P N ops ops st (fun st' => (⟨restr st'.fr l, st'.hp, st'.nx⟩ : ASt) = st1) := by
  (intro pc he; simp only [go_sem, seval]; refine arC.of pc he ?_; (simp only [go_sem, seval]) <;> exact rfl)) : AW P N (.seq (.region id ops.toArray false) y) Q st :=
 AW.regL l (arun_mono (fun s e => by rw [e]; exact k) (h pc he))
theorem AW.vC (l : List Nat) (pc : PC P f xs X) (he : Enter P f) (k : AW P N y Q st1) (h : PC P f xs X → Enter P f → arun P N ops ops st (fun st' => (⟨restr st'.fr l, st'.hp, st'.nx⟩ : ASt) = st1) := by
  (intro pc he; simp only [go_sem, seval, natOf_le, *]; refine arC.of pc he ?_; (simp only [go_sem, seval, natOf_le, *]) <;> exact rfl)) : AW P N (.seq (.region id ops.toArray false) y) Q st :=
 AW.regL l (arun_mono (fun s e => by rw [e]; exact k) (h pc he))
theorem AW.vD (l : List Nat) (pc : PC P f xs X) (he : Enter P f) (k : Q .normal st1) (h : PC P f xs X → Enter P f → arun P N ops ops st (fun st' => (⟨restr st'.fr l, st'.hp, st'.nx⟩ : ASt) = st1) := by
  (intro pc he; simp only [go_sem, seval, natOf_le, *]; refine arC.of pc he ?_; (simp only [go_sem, seval, natOf_le, *]) <;> exact rfl)) : AW P N (.region id ops.toArray false) Q st :=
 AW.regionL l (arun_mono (fun s e => by rw [e]; exact k) (h pc he))
theorem iteO {α : Type} {c : Prop} [Decidable c] {a b : Option α} {r : α} (h : (if c then a else b) = some r) : (c ∧ a = some r) ∨ (¬ c ∧ b = some r) := by
 by_cases hc : c
 ·rw [if_pos hc] at h; exact .inl ⟨hc, h⟩
 ·rw [if_neg hc] at h; exact .inr ⟨hc, h⟩
theorem oi {α : Type} {a b : α} (h : some a = some b) : a = b := Option.some.inj h
theorem oj {α : Type} {a b : α} (h : some a = some b) : b = a := (Option.some.inj h).symm
end
theorem Ent.cq {N nx : Nat} {fr fr' : Nat → AV} {hp : AHeap} (hf : RF (tau []) 8 fr fr') : Ent N ⟨fr, hp, nx⟩ ⟨fr', hpL [] [], 8⟩ := Ent.canq [] hf (.nil _) (.nil _)
theorem pc_of9 {P : Program} {f : FuncId} {fn : Func} {c : Code} {us : List AV} {X : AV} {N : Nat} {rs : List ResultVar} (hf : P.funcs[f]? = some fn) (h : AW P N c (finA P rs X) ⟨initF us, hpL [] [], 8⟩) (hb : fn.body = some c := by rfl) (hN : fn.ntmps = N := by rfl) (hrs : fn.results.toList = rs := by rfl) (hn : us.length ≤ N := by exact Nat.le_of_ble_eq_true rfl) : PC P f us X := pc_of8 hf hb hN hrs hn h
theorem CallOk.icq {P : Program} {f : FuncId} {a0 a1 b1 : List (Option AObj)} {us us' : List AV} {X : AV} {hp : AHeap} {id : Nat} (h : IC P f a0 us X a1 b1) (s : List Nat)
  (hobj : HRen (sg s) a0.length hp 0 a0) (hus : WeakL us' (mapTL (sg s) us)) (hs : s.length = a0.length := by rfl) (hnd : s.Nodup := by decide) (h8 : a0.length ≤ 8 := by simp) (hk : b1.length ≤ 7 := by simp) (hla : a1.length ≤ a0.length := by simp) (hso : ∀ o ∈ a0, ∃ x, o = some x := by simp)
  (htok : tokLL a0.length us = true := by simp only [go_sem, List.length_cons, List.length_nil, Nat.reduceAdd, Nat.reduceLT, decide_true])
  (hb1 : ∀ o ∈ b1, ∃ x, o = some x ∧ x.isMut = true := by simp [AObj.isMut]) (ht1 : ∀ o ∈ a1 ++ b1, tokO (8 + b1.length) o = true := by simp [go_sem]) (htX : tokL (8 + b1.length) X = true := by simp [go_sem]) :
  CallOk P f us' hp id ⟨mapT (rho s id) X, effS (rho s id) s a1 ++ effB (rho s id) id b1⟩ := CallOk.ic h s hs hnd h8 hk hla hso hobj hus htok hb1 ht1 htX
theorem CallOk.icr {P : Program} {f : FuncId} {a0 a1 b1 : List (Option AObj)} {us us' v : List AV} {X : AV} {hp : AHeap} {id : Nat} (h : IC P f a0 us X a1 b1) (s : List Nat)
  (hobj : HRen (sg s) a0.length hp 0 a0) (hw : WeakL us' v) (hv : mapTL (sg s) us = v := by first | rfl | (simp only [mapTL_cons, mapTL_nil, mapT_ptr, mapT_own, mapT_val, mapT_sl, mapT_agg, mapT_ip, mapT_clo, mapT_ifc, sg_ap, List.getD_cons_zero, List.getD_cons_succ]; done) | (simp only [mapTL_cons, mapTL_nil, mapT_ptr, mapT_own, mapT_val, mapT_sl, mapT_agg, mapT_ip, mapT_clo, mapT_ifc, sg_ap, List.getD_cons_zero, List.getD_cons_succ]; rfl))
  (hs : s.length = a0.length := by rfl) (hnd : s.Nodup := by decide) (h8 : a0.length ≤ 8 := by simp) (hk : b1.length ≤ 7 := by simp) (hla : a1.length ≤ a0.length := by simp) (hso : ∀ o ∈ a0, ∃ x, o = some x := by simp)
  (htok : tokLL a0.length us = true := by simp only [go_sem, List.length_cons, List.length_nil, Nat.reduceAdd, Nat.reduceLT, decide_true])
  (hb1 : ∀ o ∈ b1, ∃ x, o = some x ∧ x.isMut = true := by simp [AObj.isMut]) (ht1 : ∀ o ∈ a1 ++ b1, tokO (8 + b1.length) o = true := by simp [go_sem]) (htX : tokL (8 + b1.length) X = true := by simp [go_sem]) :
  CallOk P f us' hp id ⟨mapT (rho s id) X, effS (rho s id) s a1 ++ effB (rho s id) id b1⟩ := CallOk.icq h s hobj (hv ▸ hw) hs hnd h8 hk hla hso htok hb1 ht1 htX
def bt (n : Nat) : List Nat := (List.range (n.log2 + 1)).filter fun k => n / 2 ^ k % 2 == 1
theorem bt_mem {n k : Nat} : k ∈ bt n ↔ n / 2 ^ k % 2 = 1 := by
 simp only [bt, List.mem_filter, List.mem_range, beq_iff_eq, and_iff_right_iff_imp]
 intro h
 have h1 : n / 2 ^ k ≠ 0 := fun h0 => by rw [h0] at h; cases h
 have h2 : 2 ^ k ≤ n := (Nat.div_ne_zero_iff.1 h1).2
 have := (Nat.le_log2 (by have := Nat.two_pow_pos k; omega)).2 h2
 omega
def an (ms : List Nat) : List (List Nat) := ms.map bt
def anT (n k : Nat) : Prop := n / 2 ^ k % 2 = 1
theorem an_mem (ms : List Nat) (i k : Nat) : (k ∈ (an ms).getD i []) = (ms.getD i 0 / 2 ^ k % 2 = 1) := by
 have : (an ms).getD i [] = bt (ms.getD i 0) := by
  simp only [an, List.getD_eq_getElem?_getD, List.getElem?_map]
  cases ms[i]? <;> rfl
 rw [this]; exact propext bt_mem
def pA (i : Nat) : List Oper → List (Nat × Oper)
 | [] => []
 | o :: l => (i, o) :: pA (i + 1) l
theorem pA_nil (i : Nat) : pA i [] = [] := (rfl)
theorem pA_cons (i : Nat) (o : Oper) (l : List Oper) : pA i (o :: l) = (i, o) :: pA (i + 1) l := (rfl)
theorem pick_pA (l : List Oper) : ∀ (m : List Oper) (i : Nat), m = l.drop i → pick l (List.range' i m.length) = pA i m
 | [], i, _ => rfl
 | o :: m, i, h => by
  have h1 : l[i]? = some o := by
   have := congrArg (·[0]?) h
   simpa using this.symm
  have h2 : m = l.drop (i + 1) := by
   have := congrArg List.tail h
   simpa using this
  simp only [List.length_cons, List.range'_succ, pick, h1, pA, pick_pA l m (i + 1) h2]
theorem pick_range (l : List Oper) : pick l (List.range l.length) = pA 0 l := by
 rw [List.range_eq_range']; exact pick_pA l l 0 rfl
attribute [go_sem] an_mem pA_nil pA_cons
section
variable {P : Program} {N id : Nat} {y : Code} {Q : Exit → ASt → Prop} {st st1 : ASt} {ops : List Oper}
theorem AW.rE (l ms : List Nat) (ft : FuncId → List AV → Option AV) (hft : FtOk P ft) (h : adrun P ft N ops (an ms) st.nx (pA 0 ops) st.fr st.hp [] fun fr hp => AW P N y Q ⟨restr fr l, hp, st.nx + 8 * ops.length⟩)
 (hm : P.follows .mixedOrders = true := by kernel_rfl) (hs : statB (an ms) (List.range ops.length) ops = true := by kernel_rfl) (hp : pairB (an ms) (List.range ops.length) ops = true := by kernel_rfl) : AW P N (.seq (.region id ops.toArray true) y) Q st :=
 AW.regdL l _ _ ft hft hm hs hp (by rw [pick_range]; exact h)
theorem AW.rF (l ms : List Nat) (ft : FuncId → List AV → Option AV) (hft : FtOk P ft) (h : adrun P ft N ops (an ms) st.nx (pA 0 ops) st.fr st.hp [] fun fr hp => Q .normal ⟨restr fr l, hp, st.nx + 8 * ops.length⟩)
 (hm : P.follows .mixedOrders = true := by kernel_rfl) (hs : statB (an ms) (List.range ops.length) ops = true := by kernel_rfl) (hp : pairB (an ms) (List.range ops.length) ops = true := by kernel_rfl) : AW P N (.region id ops.toArray true) Q st :=
 AW.drawL l _ _ ft hft hm hs hp (by rw [pick_range]; exact h)
theorem AW.re (l ms : List Nat) (h : adrun P noFt N ops (an ms) st.nx (pA 0 ops) st.fr st.hp [] fun fr hp => AW P N y Q ⟨restr fr l, hp, st.nx + 8 * ops.length⟩)
 (hm : P.follows .mixedOrders = true := by kernel_rfl) (hs : statB (an ms) (List.range ops.length) ops = true := by kernel_rfl) (hp : pairB (an ms) (List.range ops.length) ops = true := by kernel_rfl) : AW P N (.seq (.region id ops.toArray true) y) Q st := AW.rE l ms noFt (noFt_ok P) h hm hs hp
theorem AW.rf (l ms : List Nat) (h : adrun P noFt N ops (an ms) st.nx (pA 0 ops) st.fr st.hp [] fun fr hp => Q .normal ⟨restr fr l, hp, st.nx + 8 * ops.length⟩)
 (hm : P.follows .mixedOrders = true := by kernel_rfl) (hs : statB (an ms) (List.range ops.length) ops = true := by kernel_rfl) (hp : pairB (an ms) (List.range ops.length) ops = true := by kernel_rfl) : AW P N (.region id ops.toArray true) Q st := AW.rF l ms noFt (noFt_ok P) h hm hs hp
variable {f : FuncId} {xs : List AV} {X : AV}
theorem AW.rG (l ms : List Nat) (pc : PC P f xs X) (he : Enter P f) (h : adrun P (tab [(f, xs, X)]) N ops (an ms) st.nx (pA 0 ops) st.fr st.hp [] fun fr hp => AW P N y Q ⟨restr fr l, hp, st.nx + 8 * ops.length⟩)
 (hm : P.follows .mixedOrders = true := by kernel_rfl) (hs : statB (an ms) (List.range ops.length) ops = true := by kernel_rfl) (hp : pairB (an ms) (List.range ops.length) ops = true := by kernel_rfl) : AW P N (.seq (.region id ops.toArray true) y) Q st := AW.rE l ms _ (tab_cons pc he tab_nil) h hm hs hp
theorem AW.rH (l ms : List Nat) (pc : PC P f xs X) (he : Enter P f) (h : adrun P (tab [(f, xs, X)]) N ops (an ms) st.nx (pA 0 ops) st.fr st.hp [] fun fr hp => Q .normal ⟨restr fr l, hp, st.nx + 8 * ops.length⟩)
 (hm : P.follows .mixedOrders = true := by kernel_rfl) (hs : statB (an ms) (List.range ops.length) ops = true := by kernel_rfl) (hp : pairB (an ms) (List.range ops.length) ops = true := by kernel_rfl) : AW P N (.region id ops.toArray true) Q st := AW.rF l ms _ (tab_cons pc he tab_nil) h hm hs hp
end
end Go.Gm
namespace Go.Proofs.Yt
open Go.Gm
namespace Au
def f164 (a0 : Int) : Option Int := ((ix (bl Lib.len8tab) a0).bind fun x1 => some (IntKind.i64.wrap (x1.toNat : Int)))
theorem ok164 (a0 : Int) (r : Int) (h : f164 a0 = some r) : PC Tryz.prog 164 [.val (.int .u8 a0)] (.val (.int .i64 r)) := by
 rw [f164] at h
 refine pc_of9 (N := 6) (rs := [.tmp 2]) Tryz.func164 ?_
 refine AW.rX [0] ?_
 obtain ⟨x1, hx1, h⟩ := bO h
 obtain ⟨hx1a, hx1b⟩ := ix_some.1 hx1
 refine AW.rK [2] fun K hK => ?_
 simp only [go_sem, seval, idxO_some st9 hx1a hx1b]
 subst hK
 refine AW.ret ?_
 obtain rfl := oi h
 (simp only [go_sem, seval, finA] <;> try simp)
def f144 (a0 : Int) : Option Int := ((f164 a0).bind fun x1 => some (IntKind.i64.wrap (8 - x1)))
theorem ok144 (a0 : Int) (r : Int) (h : f144 a0 = some r) : PC Tryz.prog 144 [.val (.int .u8 a0)] (.val (.int .i64 r)) := by
 rw [f144] at h
 refine pc_of9 (N := 6) (rs := [.tmp 2]) Tryz.func144 ?_
 refine AW.rX [0] ?_
 obtain ⟨x1, hx1, h⟩ := bO h
 refine AW.rC [2] (ok164 a0 x1 hx1) Tryz.call164 ?_
 refine AW.ret ?_
 obtain rfl := oi h
 (simp only [go_sem, seval, finA] <;> try simp)
def f132_s1 (a0 : Int) : Int → Option (Int ⊕ (Int ⊕ Unit))
  | s1_0 => (if s1_0 ≤ 8 then ((guardO (0 ≤ (IntKind.i64.wrap (7 * s1_0)))).bind fun x9 => (if (shrV .u64 a0 (IntKind.i64.wrap (7 * s1_0)).toNat) = 0 then some (.inr (.inl s1_0)) else some (.inl (IntKind.i64.wrap (s1_0 + 1))))) else some (.inr (.inr ())))
def f132 (a0 : Int) : Option Int := ((loopO (f132_s1 a0) 1).bind fun y11 => match y11 with | .inl y12 => some y12 | .inr _ => some 9)
theorem ok132 (a0 : Int) (r : Int) (h : f132 a0 = some r) : PC Tryz.prog 132 [.val (.int .u64 a0)] (.val (.int .i64 r)) := by
 rw [f132] at h
 refine pc_of9 (N := 14) (rs := [.tmp 2]) Tryz.func132 ?_
 refine AW.rX [0] ?_
 refine AW.seq <| AW.rX [0, 3] ?_
 refine AW.block ?_
 obtain ⟨y11, hy11, h⟩ := bO h
 refine AW.loopO (fun s => ⟨(upd (upd anyF 0 (.val (.int .u64 a0))) 3 (.val (.int .i64 s))), hpL [] [], 8⟩) (fun y e st' => match y with | .inl z => e = Exit.ret ∧ finA Tryz.prog [.tmp 2] (.val (.int .i64 z)) .ret st' | .inr z => e = Exit.exit 0 ∧ st' = ⟨anyF, hpL [] [], 8⟩) hy11 ?_ ?_ ?_
 ·exact Ent.cq RF.any.qv.qv
 ·clear h hy11
  rintro s1_0 x h
  rw [f132_s1] at h
  refine AW.seq <| AW.sX [0, 3, 5] ?_
  rcases iteO h with ⟨c8, h⟩ | ⟨c8, h⟩
  ·refine AW.ifT rfl c8 <| AW.skip <| thenA_n <| AW.seq <| AW.block ?_
   obtain ⟨x9, hx9, h⟩ := bO h
   refine AW.rK [0, 3, 12] fun K hK => ?_
   simp only [go_sem, seval, eq_true c8, eq_false (Int.not_lt.2 (guardO_some.1 hx9))]
   subst hK
   rcases iteO h with ⟨c10, h⟩ | ⟨c10, h⟩
   ·refine AW.ifT rfl c10 <| AW.rX [2] ?_
    refine AW.ret <| block_r <| thenA_r <| thenA_r ?_
    refine ⟨_, oj h, _, Ent.refl, rfl, ?_⟩
    (simp only [go_sem, seval, eq_true c8, eq_true c10, finA] <;> try simp)
   ·refine AW.ifF rfl c10 <| AW.skip <| block_n <| thenA_n <| AW.rY [0, 3] ?_
    refine thenA_n ?_
    refine ⟨_, oj h, ?_⟩
    exact Ent.cq RF.any.qv.qv
  ·refine AW.ifF rfl c8 <| AW.exit <| thenA_x <| thenA_x ?_
   refine ⟨_, oj h, _, ?_, rfl, rfl⟩
   exact Ent.cq RF.any
 ·intro e st' hX
  rcases y11 with y12 | _ <;> dsimp only at h hX
  ·obtain ⟨rfl, hf⟩ := hX
   refine ⟨_, Ent.refl, ?_⟩
   refine block_r <| thenA_r ?_
   obtain rfl := oi h
   exact hf
  ·obtain ⟨rfl, rfl⟩ := hX
   refine ⟨_, Ent.refl, ?_⟩
   refine block_x <| thenA_n <| AW.rX [2] ?_
   refine AW.ret ?_
   obtain rfl := oi h
   (simp only [go_sem, seval, finA] <;> try simp)
end Au
end Go.Proofs.Yt
