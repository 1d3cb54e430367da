import Derived.Test.YtpdgnhhjaaencaaGmLe
set_option linter.all false
set_option linter.unusedVariables false
set_option linter.unusedSimpArgs false
set_option linter.unusedVariables false
set_option linter.unusedSimpArgs false
namespace Go.Gm

/-! ### The least fixed point of a step -/
section
variable {σ ρ : Type}
def iterO (step : σ → Option (σ ⊕ ρ)) : Nat → σ → Option ρ
  | 0, _ => none
  | n + 1, s => match step s with
    | some (.inl s') => iterO step n s'
    | some (.inr r) => some r
    | none => none
theorem iterO_det {step : σ → Option (σ ⊕ ρ)} : ∀ {n m : Nat} {s : σ} {r r' : ρ}, iterO step n s = some r → iterO step m s = some r' → r = r'
  | 0, _, _, _, _, h, _ => by cases h
  | _ + 1, 0, _, _, _, _, h => by cases h
  | n + 1, m + 1, s, r, r', h, k => by
    simp only [iterO] at h k
    cases hs : step s with
    | none => rw [hs] at h; cases h
    | some x =>
      rw [hs] at h k
      cases x with
      | inl s' => exact iterO_det h k
      | inr q => cases h; cases k; rfl
open Classical in
noncomputable def loopO (step : σ → Option (σ ⊕ ρ)) (s : σ) : Option ρ := if h : ∃ r n, iterO step n s = some r then some h.choose else none
theorem loopO_iff {step : σ → Option (σ ⊕ ρ)} {s : σ} {r : ρ} : loopO step s = some r ↔ ∃ n, iterO step n s = some r := by
  unfold loopO
  constructor
  · intro h
    split at h
    · rename_i hc; cases h; exact hc.choose_spec
    · cases h
  · rintro ⟨n, hn⟩
    have hc : ∃ r n, iterO step n s = some r := ⟨r, n, hn⟩
    rw [dif_pos hc]
    obtain ⟨m, hm⟩ := hc.choose_spec
    rw [iterO_det hm hn]
theorem loopO_next {step : σ → Option (σ ⊕ ρ)} {s s' : σ} (h : step s = some (.inl s')) : loopO step s = loopO step s' := by
  apply Option.ext
  intro r
  rw [loopO_iff, loopO_iff]
  constructor
  · rintro ⟨n, hn⟩
    cases n with
    | zero => cases hn
    | succ n => simp only [iterO, h] at hn; exact ⟨n, hn⟩
  · rintro ⟨n, hn⟩
    exact ⟨n + 1, by simp only [iterO, h]; exact hn⟩
theorem loopO_done {step : σ → Option (σ ⊕ ρ)} {s : σ} {r : ρ} (h : step s = some (.inr r)) : loopO step s = some r := loopO_iff.2 ⟨1, by simp only [iterO, h]⟩
/-- From a measure and an invariant. -/
theorem loopO_of {step : σ → Option (σ ⊕ ρ)} (I : Nat → σ → Prop) {Q : ρ → Prop} (h : ∀ k s, I k s → (∃ s' k', step s = some (.inl s') ∧ k' < k ∧ I k' s') ∨ (∃ r, step s = some (.inr r) ∧ Q r)) :
    ∀ {k : Nat} {s : σ}, I k s → ∃ r, loopO step s = some r ∧ Q r := by
  intro k
  induction k using Nat.strongRecOn with
  | ind k ih =>
    intro s hs
    rcases h k s hs with ⟨s', k', h1, h2, h3⟩ | ⟨r, h1, h2⟩
    · obtain ⟨r, h4, h5⟩ := ih k' h2 h3
      exact ⟨r, (loopO_next h1).trans h4, h5⟩
    · exact ⟨r, loopO_done h1, h2⟩
end

/-! ### The rule of a loop -/
section
variable {P : Program} {N : Nat} {Q : Exit → ASt → Prop} {st : ASt} {σ ρ : Type}
theorem AW.loopO {c : Code} {step : σ → Option (σ ⊕ ρ)} (tm : σ → ASt) (X : ρ → Exit → ASt → Prop) {s0 : σ} {r : ρ} (h : Gm.loopO step s0 = some r) (he : Ent N st (tm s0))
    (round : ∀ s x, step s = some x → AW P N c (thenA (fun st' => ∃ s', x = .inl s' ∧ Ent N st' (tm s')) (fun e st' => ∃ r, x = .inr r ∧ ∃ st'', Ent N st' st'' ∧ X r e st'')) (tm s))
    (fin : ∀ e st', X r e st' → ∃ st'', Ent N st' st'' ∧ Q e st'') : AW P N (.loop c) Q st := by
  obtain ⟨n, hn⟩ := loopO_iff.1 h
  refine AW.loop (fun k st => ∃ s, iterO step k s = some r ∧ st = tm s) n (tm s0) he ⟨s0, hn, rfl⟩ ?_
  rintro k _ ⟨s, hk, rfl⟩
  cases k with
  | zero => cases hk
  | succ k =>
    simp only [iterO] at hk
    cases hs : step s with
    | none => rw [hs] at hk; cases hk
    | some x =>
      rw [hs] at hk
      refine (round s x hs).mono ?_
      intro e st' hq
      cases e with
      | normal =>
        obtain ⟨s', rfl, he'⟩ := hq
        exact ⟨st', Ent.refl, k, tm s', Nat.lt_succ_self k, he', s', hk, rfl⟩
      | _ =>
        obtain ⟨r', rfl, st'', he', hX⟩ := hq
        cases hk
        obtain ⟨st3, h3, hq3⟩ := fin _ _ hX
        exact ⟨st3, he'.trans h3, hq3⟩
/-- Ways that meet. -/
theorem AW.join {x y : Code} (tm : σ → ASt) (g : σ → Prop) (h1 : AW P N x (thenA (fun st' => ∃ s, g s ∧ Ent N st' (tm s)) Q) st) (h2 : ∀ s, g s → AW P N y Q (tm s)) : AW P N (.seq x y) Q st :=
  AW.seq (h1.mono fun e st' hq => by
    cases e with
    | normal =>
      obtain ⟨s, hs, he⟩ := hq
      exact ⟨tm s, he, h2 s hs⟩
    | _ => exact ⟨st', Ent.refl, hq⟩)
end

/-! ### Frames cut down to what is read -/
def restr (fr : Nat → AV) : List Nat → (Nat → AV)
  | [] => anyF
  | d :: l => upd (restr fr l) d (fr d)
theorem restr_nil (fr : Nat → AV) : restr fr [] = anyF := (rfl)
theorem restr_cons (fr : Nat → AV) (d : Nat) (l : List Nat) : restr fr (d :: l) = upd (restr fr l) d (fr d) := (rfl)
theorem restr_w (fr : Nat → AV) : ∀ l, FrW fr (restr fr l)
  | [] => .any
  | d :: l => (restr_w fr l).put' rfl
theorem Ent.restr {N nx : Nat} {fr : Nat → AV} {hp : AHeap} (l : List Nat) : Ent N ⟨fr, hp, nx⟩ ⟨Gm.restr fr l, hp, nx⟩ := .w (restr_w fr l)
section
variable {P : Program} {N id : Nat} {y : Code} {Q : Exit → ASt → Prop} {st : ASt}
end
end Go.Gm

set_option linter.unusedVariables false
set_option linter.unusedSimpArgs false
namespace Go.Gm
mutual
def mapT (τ : Nat → Nat) : AV → AV
  | .own t off len => .own (τ t) off len
  | .ptr t i off => .ptr (τ t) i off
  | .mp t => .mp (τ t)
  | .agg cs => .agg (mapTL τ cs)
  | .tup cs => .tup (mapTL τ cs)
  | .clo fn f c => .clo fn (mapTL τ f) (mapTL τ c)
  | .ifc ty u => .ifc ty (mapT τ u)
  | .val v => .val v
  | .sl rows => .sl rows
  | .fr sz rows => .fr sz rows
  | .ip cs => .ip cs
  | .any => .any
def mapTL (τ : Nat → Nat) : List AV → List AV
  | [] => []
  | c :: cs => mapT τ c :: mapTL τ cs
end
mutual
def tokL (m : Nat) : AV → Bool
  | .own t _ _ => decide (t < m)
  | .ptr t _ _ => decide (t < m)
  | .mp t => decide (t < m)
  | .agg cs => tokLL m cs
  | .tup cs => tokLL m cs
  | .clo _ f c => tokLL m f && tokLL m c
  | .ifc _ u => tokL m u
  | .val _ => true
  | .any => true
  | .sl rows => inlR rows
  | .ip cs => inlL cs
  | .fr _ _ => false
def tokLL (m : Nat) : List AV → Bool
  | [] => true
  | c :: cs => tokL m c && tokLL m cs
end
structure Ren (τ : Nat → Nat) (m : Nat) (E E' : Env) : Prop where
  mv : Move E E'
  al : ∀ t, t < m → E'.al t
  loc : ∀ t l, t < m → E'.loc t = some l → E.loc (τ t) = some l
mutual
theorem rel_ren {τ : Nat → Nat} {m : Nat} {E E' : Env} (x : Ren τ m E E') : ∀ {u : AV} {v : Value}, tokL m u = true → Rel E (mapT τ u) v → Rel E' u v
  | .own t off len, v, h, hr => by
    simp only [tokL, decide_eq_true_eq] at h
    simp only [mapT] at hr
    cases hr with
    | own ha hh => exact .own (x.al t h) fun l hl => hh l (x.loc t l h hl)
  | .ptr t off len, v, h, hr => by
    simp only [tokL, decide_eq_true_eq] at h
    simp only [mapT] at hr
    cases hr with
    | ptr ha hh => exact .ptr (x.al t h) fun l hl => hh l (x.loc t l h hl)
  | .mp t, v, h, hr => by
    simp only [tokL, decide_eq_true_eq] at h
    simp only [mapT] at hr
    cases hr with
    | mp ha hh => exact .mp (x.al t h) fun l hl => hh l (x.loc t l h hl)
  | .agg cs, v, h, hr => by
    simp only [tokL] at h
    simp only [mapT] at hr
    cases hr with
    | agg hl => exact .agg (relL_ren x h hl)
  | .tup cs, v, h, hr => by
    simp only [tokL] at h
    simp only [mapT] at hr
    cases hr with
    | tup hl => exact .tup (relL_ren x h hl)
  | .clo fn f c, v, h, hr => by
    simp only [tokL, Bool.and_eq_true] at h
    simp only [mapT] at hr
    cases hr with
    | clo hf hc => exact .clo (relL_ren x h.1 hf) (relL_ren x h.2 hc)
  | .ifc ty u, v, h, hr => by
    simp only [tokL] at h
    simp only [mapT] at hr
    cases hr with
    | ifc hu => exact .ifc (rel_ren x h hu)
  | .val w, v, h, hr => by
    simp only [mapT] at hr
    cases hr
    exact .val _
  | .any, v, h, hr => .any _
  | .sl rows, v, h, hr => by
    simp only [mapT] at hr
    exact Rel.move x.mv (by simpa [inl, tokL] using h) hr
  | .ip cs, v, h, hr => by
    simp only [mapT] at hr
    exact Rel.move x.mv (by simpa [inl, tokL] using h) hr
  | .fr sz rows, v, h, hr => by simp [tokL] at h
theorem relL_ren {τ : Nat → Nat} {m : Nat} {E E' : Env} (x : Ren τ m E E') : ∀ {us : List AV} {vs : List Value}, tokLL m us = true → RelL E (mapTL τ us) vs → RelL E' us vs
  | [], vs, _, hr => by
    simp only [mapTL] at hr
    cases hr; exact .nil
  | u :: us, vs, h, hr => by
    simp only [tokLL, Bool.and_eq_true] at h
    simp only [mapTL] at hr
    cases hr with
    | cons h1 hs => exact .cons (rel_ren x h.1 h1) (relL_ren x h.2 hs)
end
theorem mapTL_append (τ : Nat → Nat) : ∀ (a b : List AV), mapTL τ (a ++ b) = mapTL τ a ++ mapTL τ b
  | [], b => by simp [mapTL]
  | c :: cs, b => by simp [mapTL, mapTL_append τ cs b]
theorem tokLL_append (m : Nat) : ∀ (a b : List AV), tokLL m (a ++ b) = (tokLL m a && tokLL m b)
  | [], b => by simp [tokLL]
  | c :: cs, b => by simp [tokLL, tokLL_append m cs b, Bool.and_assoc]
theorem mapTL_length (τ : Nat → Nat) : ∀ (a : List AV), (mapTL τ a).length = a.length
  | [] => by simp [mapTL]
  | c :: cs => by simp [mapTL, mapTL_length τ cs]
theorem flat_map (τ : Nat → Nat) : ∀ rows : List (List AV), (rows.map (mapTL τ)).flatten = mapTL τ rows.flatten
  | [] => by simp [mapTL]
  | r :: rs => by simp [flat_map τ rs, mapTL_append]
theorem flat_tok (m : Nat) : ∀ {rows : List (List AV)}, rows.all (tokLL m) = true → tokLL m rows.flatten = true
  | [], _ => by simp [tokLL]
  | r :: rs, h => by
    simp only [List.all_cons, Bool.and_eq_true] at h
    simp [tokLL_append, h.1, flat_tok m h.2]
/-- The object 'o' told over the new ids. -/
inductive ORen (τ : Nat → Nat) (m : Nat) : Option AObj → Option AObj → Prop
  | none (o : Option AObj) : ORen τ m o none
  | inl {sz : Nat} {mu : Bool} {rows : List (List AV)} (h : inlR rows = true) : ORen τ m (some (.row sz mu rows)) (some (.row sz mu rows))
  | map {sz : Nat} {mu : Bool} {rows : List (List AV)} (h : rows.all (tokLL m) = true) : ORen τ m (some (.row sz mu (rows.map (mapTL τ)))) (some (.row sz mu rows))

theorem Ent.ren {N nx m : Nat} {fr fr' : Nat → AV} {hp hp' : AHeap} (τ : Nat → Nat) (h8 : 8 ≤ m) (hfix : ∀ t, t < 8 → τ t = t) (hinj : ∀ i j, i < m → j < m → hp' i ≠ none → hp' j ≠ none → τ i = τ j → i = j)
    (hfr : ∀ d, tokL m (fr' d) = true ∧ (fr' d = .any ∨ Weak (fr d) (mapT τ (fr' d)))) (hhp : ∀ t, t < m → ORen τ m (hp (τ t)) (hp' t)) (hno : ∀ t, m ≤ t → hp' t = none) : Ent N ⟨fr, hp, nx⟩ ⟨fr', hp', m⟩ := fun P G a w hc => by
  classical
  obtain ⟨c1, c2, loc, hM, hr⟩ := conc_iff.1 hc
  clear hc
  let loc' : Nat → Option Loc := fun t => if hp' t = none then none else loc (τ t)
  have hsome : ∀ t l, loc' t = some l → t < m ∧ loc (τ t) = some l ∧ hp' t ≠ none := fun t l hl => by
    simp only [loc'] at hl
    split at hl
    · cases hl
    · rename_i hn
      refine ⟨?_, hl, hn⟩
      by_cases hlt : t < m
      · exact hlt
      · exact absurd (hno t (by omega)) hn
  have hmut : ∀ t o', hp' t = some o' → t < m ∧ ∃ o, hp (τ t) = some o ∧ o.isMut = o'.isMut := fun t o' ho => by
    have hlt : t < m := by
      by_cases hlt : t < m
      · exact hlt
      · rw [hno t (by omega)] at ho; cases ho
    refine ⟨hlt, ?_⟩
    have := hhp t hlt
    rw [ho] at this
    generalize hq : hp (τ t) = q at this
    cases this with
    | inl h => exact ⟨_, rfl, rfl⟩
    | map h => exact ⟨_, rfl, rfl⟩
  have hmt : ∀ b, mtOf hp' loc' b → mtOf hp loc b := by
    rintro b ⟨t, o', l, h1, h2, h3, h4, h5⟩
    obtain ⟨_, o, ho, hm⟩ := hmut t o' h1
    exact ⟨τ t, o, l, ho, by rw [hm]; exact h2, (hsome t l h3).2.1, h4, h5⟩
  have x : Ren τ m (mkE G.m1 hp (fun t => t < nx) loc w) (mkE G.m1 hp' (fun t => t < m) loc' w) :=
    ⟨⟨Nat.le_refl _, fun b _ hn => ⟨fun hm => hn (hm.elim (fun h => .inl (hmt b h)) .inr), rfl⟩⟩, fun t ht => ht, fun t l ht hl => (hsome t l hl).2.1⟩
  refine conc_iff.2 ⟨c1, c2, loc', ?_, fun d => ?_⟩
  · refine ⟨fun t o' ho => ?_, fun t ho => by simp only [loc', ho, if_true], fun t l hl => (hsome t l hl).1, fun t1 t2 l1 l2 k1 k2 p1 p2 hb => ?_, hM.os, hM.tape, hM.output, hM.size, hM.keep, fun b hb => hM.muts b (hmt b hb), fun t l hl => hM.fgn (τ t) l (hsome t l hl).2.1,
      fun t ht => Nat.lt_of_lt_of_le ht (Nat.le_trans G.n8 h8), fun t l ht hl => hM.idn t l ht ?_⟩
    · have hlt := (hmut t o' ho).1
      have hO := hhp t hlt
      rw [ho] at hO
      generalize hq : hp (τ t) = q at hO
      cases hO with
      | inl hin =>
        obtain ⟨l, hl, g1, g2, g3, g4, g5, g6⟩ := hM.obj (τ t) _ hq
        refine ⟨l, by simp only [loc', ho]; simpa using hl, g1, g2, g3, g4, g5, fun hpos => ?_⟩
        obtain ⟨c, e, fz, vs, k1, k2, k3, k4, k5, k6⟩ := g6 hpos
        exact ⟨c, e, fz, vs, k1, k2, RelL.move x.mv (by rw [← inlR_flatten]; exact hin) k3, k4, k5, k6⟩
      | map hin =>
        rename_i sz mu rows
        obtain ⟨l, hl, g1, g2, g3, g4, g5, g6⟩ := hM.obj (τ t) _ hq
        refine ⟨l, by simp only [loc', ho]; simpa using hl, g1, g2, fun r hr => ?_, by simpa using g4, g5, fun hpos => ?_⟩
        · have := g3 (mapTL τ r) (List.mem_map.2 ⟨r, hr, rfl⟩)
          rwa [mapTL_length] at this
        · obtain ⟨c, e, fz, vs, k1, k2, k3, k4, k5, k6⟩ := g6 hpos
          rw [flat_map] at k3
          exact ⟨c, e, fz, vs, k1, k2, relL_ren x (flat_tok m hin) k3, k4, k5, k6⟩
    · have h1 := hsome t1 l1 k1
      have h2 := hsome t2 l2 k2
      exact hinj t1 t2 h1.1 h2.1 h1.2.2 h2.2.2 (hM.inj _ _ _ _ h1.2.1 h2.2.1 p1 p2 hb)
    · have h1 := hsome t l hl
      rw [hfix t (Nat.lt_of_lt_of_le ht G.n8)] at h1
      exact h1.2.1
  · obtain ⟨h1, h2⟩ := hfr d
    rcases h2 with h2 | h2
    · rw [h2]; exact .any _
    · exact rel_ren x h1 (h2 _ _ (hr d))

/-! ### In lists -/
def tau (l : List Nat) (t : Nat) : Nat := if t < 8 then t else l.getD (t - 8) 0
def hpL (a b : List (Option AObj)) : AHeap := fun t => if t < 8 then (a[t]?).getD none else (b[t - 8]?).getD none
theorem hpL_ap (a b : List (Option AObj)) (t : Nat) : hpL a b t = if t < 8 then (a[t]?).getD none else (b[t - 8]?).getD none := (rfl)
theorem hpL_nil : hpL [] [] = fun _ => none := by funext t; simp [hpL]
def RF (τ : Nat → Nat) (m : Nat) (fr fr' : Nat → AV) : Prop := ∀ d, tokL m (fr' d) = true ∧ (fr' d = .any ∨ Weak (fr d) (mapT τ (fr' d)))
theorem RF.any {τ : Nat → Nat} {m : Nat} {fr : Nat → AV} : RF τ m fr anyF := fun _ => ⟨by simp [anyF, tokL], .inl rfl⟩
theorem RF.put {τ : Nat → Nat} {m : Nat} {fr fr' : Nat → AV} {d : Nat} {v : AV} (h : RF τ m fr fr') (ht : tokL m v = true) (hv : Weak (fr d) (mapT τ v)) : RF τ m fr (upd fr' d v) := fun d' => by
  simp only [upd]; split
  · rename_i e; subst e; exact ⟨ht, .inr hv⟩
  · exact h d'
inductive HRen (τ : Nat → Nat) (m : Nat) (hp : AHeap) : Nat → List (Option AObj) → Prop
  | nil (k : Nat) : HRen τ m hp k []
  | cons {k : Nat} {o : Option AObj} {l : List (Option AObj)} (h : ORen τ m (hp (τ k)) o) (hs : HRen τ m hp (k + 1) l) : HRen τ m hp k (o :: l)
theorem HRen.get {τ : Nat → Nat} {m : Nat} {hp : AHeap} : ∀ {l : List (Option AObj)} {k : Nat}, HRen τ m hp k l → ∀ i, ORen τ m (hp (τ (k + i))) ((l[i]?).getD none)
  | [], _, _, i => by simp; exact .none _
  | o :: l, k, .cons h hs, 0 => by simpa using h
  | o :: l, k, .cons h hs, i + 1 => by
    have := HRen.get hs i
    rw [show k + (i + 1) = k + 1 + i by omega]
    simpa using this
theorem Ent.can {N nx : Nat} {fr fr' : Nat → AV} {hp : AHeap} (l : List Nat) (a b : List (Option AObj)) (m : Nat) (hm : m = 8 + l.length) (hl : l.Nodup ∧ ∀ x ∈ l, 8 ≤ x ∨ (a[x]?).getD none = none) (hb : b.length = l.length) (hf : RF (tau l) m fr fr') (h0 : HRen (tau l) m hp 0 a) (h1 : HRen (tau l) m hp 8 b) :
    Ent N ⟨fr, hp, nx⟩ ⟨fr', hpL a b, m⟩ := by
  subst hm
  refine Ent.ren (tau l) (by omega) (fun t ht => by simp [tau, ht]) (fun i j hi hj hni hnj he => ?_) hf (fun t ht => ?_) (fun t ht => ?_)
  · have hget : ∀ k, 8 ≤ k → k < 8 + l.length → ∃ h : k - 8 < l.length, tau l k = l[k - 8] := fun k h8 hk => ⟨by omega, by
      unfold tau; rw [if_neg (by omega)]; simp [List.getD, show k - 8 < l.length by omega]⟩
    by_cases hi8 : i < 8 <;> by_cases hj8 : j < 8
    · simpa [tau, hi8, hj8] using he
    · obtain ⟨h, e⟩ := hget j (by omega) hj
      rw [e] at he
      have e2 : tau l i = i := by simp [tau, hi8]
      rw [e2] at he
      rcases hl.2 _ (List.getElem_mem h) with h3 | h3
      · omega
      · rw [← he] at h3
        exact absurd (by simp only [hpL, hi8, if_true]; exact h3) hni
    · obtain ⟨h, e⟩ := hget i (by omega) hi
      rw [e] at he
      have e2 : tau l j = j := by simp [tau, hj8]
      rw [e2] at he
      rcases hl.2 _ (List.getElem_mem h) with h3 | h3
      · omega
      · rw [he] at h3
        exact absurd (by simp only [hpL, hj8, if_true]; exact h3) hnj
    · obtain ⟨h, e⟩ := hget i (by omega) hi
      obtain ⟨h', e'⟩ := hget j (by omega) hj
      rw [e, e'] at he
      have := (List.getElem_inj hl.1).1 he
      omega
  · by_cases h8 : t < 8
    · have := h0.get t
      simp only [hpL, h8, if_true]
      simpa using this
    · have := h1.get (t - 8)
      simp only [hpL, h8, if_false]
      rwa [show 8 + (t - 8) = t by omega] at this
  · have : ¬ t < 8 := by omega
    simp only [hpL, this, if_false]
    rw [List.getElem?_eq_none (by omega)]; rfl
theorem pc_of8 {P : Program} {f : FuncId} {us : List AV} {X : AV} {fn : Func} {c : Code} {N : Nat} {rs : List ResultVar} (hf : P.funcs[f]? = some fn) (hb : fn.body = some c) (hN : fn.ntmps = N) (hr : fn.results.toList = rs) (hn : us.length ≤ N)
    (h : AW P N c (finA P rs X) ⟨initF us, hpL [] [], 8⟩) : PC P f us X := by
  subst hN; subst hr
  refine pc_of_body hf hb hn ?_
  rw [← hpL_nil]
  exact AW.ent (Ent.st .refl .refl (by omega)) h
end Go.Gm

set_option linter.unusedVariables false
set_option linter.unusedSimpArgs false
namespace Go.Gm
section
variable {P : Program} {N id : Nat} {x y : Code} {Q : Exit → ASt → Prop} {st : ASt} {c : Operand} {ops : List Oper} {k : ASt → Prop}
theorem AW.normalOnly {R : Code} {K : ASt → Prop} (l : List Nat) (h : AW P N R (fun e st' => e = .normal ∧ K ⟨restr st'.fr l, st'.hp, st'.nx⟩) st) (hQ : ∀ st', K st' → Q .normal st') : AW P N R Q st :=
  h.mono fun e st' ⟨he, hk⟩ => ⟨_, Ent.restr l, by subst he; exact hQ _ hk⟩
theorem AW.regL (l : List Nat) (h : arun P N ops ops st (fun st' => AW P N y Q ⟨restr st'.fr l, st'.hp, st'.nx⟩)) : AW P N (.seq (.region id ops.toArray false) y) Q st :=
  AW.seq (AW.normalOnly (K := AW P N y Q) l (AW.region (Q := fun e st' => e = .normal ∧ AW P N y Q ⟨restr st'.fr l, st'.hp, st'.nx⟩) (by simpa using h)) fun _ h => h)
theorem AW.regionL (l : List Nat) (h : arun P N ops ops st (fun st' => Q .normal ⟨restr st'.fr l, st'.hp, st'.nx⟩)) : AW P N (.region id ops.toArray false) Q st :=
  AW.normalOnly (K := Q .normal) l (AW.region (Q := fun e st' => e = .normal ∧ Q .normal ⟨restr st'.fr l, st'.hp, st'.nx⟩) (by simpa using h)) fun _ h => h
theorem AW.regdL (l : List Nat) (A : List (List Nat)) (ord : List Nat) (ft : FuncId → List AV → Option AV) (hft : FtOk P ft) (hm : P.follows .mixedOrders = true) (hs : statB A ord ops = true) (hp : pairB A ord ops = true)
    (h : adrun P ft N ops A st.nx (pick ops ord) st.fr st.hp [] fun fr hp => AW P N y Q ⟨restr fr l, hp, st.nx + 8 * ops.length⟩) : AW P N (.seq (.region id ops.toArray true) y) Q st :=
  AW.seq (AW.normalOnly (K := AW P N y Q) l (AW.draw (Q := fun e st' => e = .normal ∧ AW P N y Q ⟨restr st'.fr l, st'.hp, st'.nx⟩) A ord ft hft hm hs hp (by simpa using h)) fun _ h => h)
theorem AW.drawL (l : List Nat) (A : List (List Nat)) (ord : List Nat) (ft : FuncId → List AV → Option AV) (hft : FtOk P ft) (hm : P.follows .mixedOrders = true) (hs : statB A ord ops = true) (hp : pairB A ord ops = true)
    (h : adrun P ft N ops A st.nx (pick ops ord) st.fr st.hp [] fun fr hp => Q .normal ⟨restr fr l, hp, st.nx + 8 * ops.length⟩) : AW P N (.region id ops.toArray true) Q st :=
  AW.normalOnly (K := Q .normal) l (AW.draw (Q := fun e st' => e = .normal ∧ Q .normal ⟨restr st'.fr l, st'.hp, st'.nx⟩) A ord ft hft hm hs hp (by simpa using h)) fun _ h => h
theorem AW.ifT {p : Prop} [Decidable p] (e : evF st.fr c = .val (.bool (decide p))) (hp : p) (h : AW P N x Q st) : AW P N (.cond c x y) Q st := AW.cond (b := true) (by rw [e, decide_eq_true hp]) h
theorem AW.ifF {p : Prop} [Decidable p] (e : evF st.fr c = .val (.bool (decide p))) (hp : ¬ p) (h : AW P N y Q st) : AW P N (.cond c x y) Q st := AW.cond (b := false) (by rw [e, decide_eq_false hp]) h
theorem AW.ifNT {p : Prop} [Decidable p] (e : evF st.fr c = .val (.bool (!decide p))) (hp : ¬ p) (h : AW P N x Q st) : AW P N (.cond c x y) Q st := AW.cond (b := true) (by rw [e, decide_eq_false hp]; rfl) h
theorem AW.ifNF {p : Prop} [Decidable p] (e : evF st.fr c = .val (.bool (!decide p))) (hp : p) (h : AW P N y Q st) : AW P N (.cond c x y) Q st := AW.cond (b := false) (by rw [e, decide_eq_true hp]; rfl) h
theorem AW.ifBT {b : Bool} (e : evF st.fr c = .val (.bool b)) (hb : b = true) (h : AW P N x Q st) : AW P N (.cond c x y) Q st := AW.cond (b := true) (by rw [e, hb]) h
theorem AW.ifBF {b : Bool} (e : evF st.fr c = .val (.bool b)) (hb : b = false) (h : AW P N y Q st) : AW P N (.cond c x y) Q st := AW.cond (b := false) (by rw [e, hb]) h
theorem AW.join2 {σ : Type} {R C rest : Code} (tm : σ → ASt) (g : σ → Prop) (h1 : AW P N R (thenA (AW P N C (thenA (fun st' => ∃ s, g s ∧ Ent N st' (tm s)) Q)) Q) st) (h2 : ∀ s, g s → AW P N rest Q (tm s)) : AW P N (.seq R (.seq C rest)) Q st := by
  refine AW.seq (h1.mono fun e st' hq => ?_)
  cases e with
  | normal => exact ⟨st', Ent.refl, AW.join tm g hq h2⟩
  | _ => exact ⟨st', Ent.refl, hq⟩
end

/-! ### Partial operations -/
def ix {α : Type} (l : List α) (i : Int) : Option α := if 0 ≤ i then l[i.toNat]? else none
theorem ix_some {α : Type} {l : List α} {i : Int} {x : α} : ix l i = some x ↔ 0 ≤ i ∧ l[i.toNat]? = some x := by
  unfold ix; split
  · rename_i h; simp [h]
  · rename_i h; constructor
    · intro k; cases k
    · intro k; exact absurd k.1 h
theorem ix_nat {α : Type} {l : List α} {n : Nat} : ix l (n : Int) = l[n]? := by
  unfold ix; rw [if_pos (by omega)]; simp
theorem ix_lt {α : Type} {l : List α} {n : Nat} {x : α} (h : l[n]? = some x) : n < l.length := (List.getElem?_eq_some_iff.1 h).1
def appO? {α : Type} (a b : List α) : Option (List α) := if a.length + b.length ≤ 34359738368 then some (a ++ b) else none
theorem appO?_some {α : Type} {a b c : List α} : appO? a b = some c ↔ a.length + b.length ≤ 34359738368 ∧ a ++ b = c := by
  unfold appO?; split
  · rename_i h; simp [h]
  · rename_i h; constructor
    · intro k; cases k
    · intro k; exact absurd k.1 h
theorem appO?_ok {α : Type} {a b : List α} (h : a.length + b.length ≤ 34359738368) : appO? a b = some (a ++ b) := by rw [appO?, if_pos h]
def cutO? {α : Type} (l : List α) (lo hi : Int) : Option (List α) := if 0 ≤ lo ∧ lo ≤ hi ∧ hi ≤ (l.length : Int) then some ((l.drop lo.toNat).take (hi.toNat - lo.toNat)) else none
theorem cutO?_some {α : Type} {l c : List α} {lo hi : Int} : cutO? l lo hi = some c ↔ (0 ≤ lo ∧ lo ≤ hi ∧ hi ≤ (l.length : Int)) ∧ (l.drop lo.toNat).take (hi.toNat - lo.toNat) = c := by
  unfold cutO?; split
  · rename_i h; simp [h]
  · rename_i h; constructor
    · intro k; cases k
    · intro k; exact absurd k.1 h
def setO? {α : Type} (l : List α) (i : Int) (x : α) : Option (List α) := if 0 ≤ i ∧ i.toNat < l.length then some (l.set i.toNat x) else none
theorem natOf_int {k : IntKind} {n : Int} : natOf (.val (.int k n)) = if 0 ≤ n then some n.toNat else none := (rfl)
theorem natOf_le {k : IntKind} {n : Int} (h : 0 ≤ n) : natOf (.val (.int k n)) = some n.toNat := by rw [natOf_int, if_pos h]
theorem ite_same {α : Type} {p : Prop} [Decidable p] {a : α} : (if p then a else a) = a := by split <;> rfl
section
variable {hp : AHeap} {t e sz : Nat} {rows : List (List AV)} {P : Program}
theorem cut_sl {lo hi : Option AV} {l h : Nat} (he : elemO P t = some e) (hz : szO P e = some sz) (hr : ∀ r ∈ rows, r.length = sz) (hl : loOf lo = some l) (hh : hiOf rows.length hi = some h) (h1 : l ≤ h) (h2 : h ≤ rows.length) : cutS P hp t (.sl rows) lo hi = some (.sl ((rows.drop l).take (h - l))) := by
  unfold cutS
  simp only [he, hl, lenOf, hz, hh]
  rw [if_pos ⟨h1, h2⟩, if_pos hr]
end
attribute [go_sem] restr_cons restr_nil
theorem hpL_nil_ap (t : Nat) : hpL [] [] t = none := by rw [hpL_nil]
attribute [go_sem] hpL_ap List.getElem?_nil
end Go.Gm
namespace Go.Gm
mutual
theorem mapT_inl (τ : Nat → Nat) : ∀ {u : AV}, inl u = true → mapT τ u = u
  | .own .., h => by simp [inl] at h
  | .ptr .., h => by simp [inl] at h
  | .mp .., h => by simp [inl] at h
  | .agg cs, h => by simp only [inl] at h; simp only [mapT, mapTL_inl τ h]
  | .tup cs, h => by simp only [inl] at h; simp only [mapT, mapTL_inl τ h]
  | .clo fn f c, h => by simp only [inl, Bool.and_eq_true] at h; simp only [mapT, mapTL_inl τ h.1, mapTL_inl τ h.2]
  | .ifc ty u, h => by simp only [inl] at h; simp only [mapT, mapT_inl τ h]
  | .val v, _ => by simp only [mapT]
  | .sl rows, _ => by simp only [mapT]
  | .fr sz rows, _ => by simp only [mapT]
  | .ip cs, _ => by simp only [mapT]
  | .any, _ => by simp only [mapT]
theorem mapTL_inl (τ : Nat → Nat) : ∀ {us : List AV}, inlL us = true → mapTL τ us = us
  | [], _ => by simp only [mapTL]
  | u :: us, h => by
    simp only [inlL, Bool.and_eq_true] at h
    simp only [mapTL, mapT_inl τ h.1, mapTL_inl τ h.2]
end
mutual
theorem tokL_inl (m : Nat) : ∀ {u : AV}, inl u = true → tokL m u = true
  | .own .., h => by simp [inl] at h
  | .ptr .., h => by simp [inl] at h
  | .mp .., h => by simp [inl] at h
  | .agg cs, h => by simp only [inl] at h; simp only [tokL, tokLL_inl m h]
  | .tup cs, h => by simp only [inl] at h; simp only [tokL, tokLL_inl m h]
  | .clo fn f c, h => by simp only [inl, Bool.and_eq_true] at h; simp only [tokL, tokLL_inl m h.1, tokLL_inl m h.2, Bool.and_self]
  | .ifc ty u, h => by simp only [inl] at h; simp only [tokL, tokL_inl m h]
  | .val v, _ => by simp only [tokL]
  | .sl rows, h => by simpa only [tokL, inl] using h
  | .fr sz rows, h => by simp [inl] at h
  | .ip cs, h => by simpa only [tokL, inl] using h
  | .any, _ => by simp only [tokL]
theorem tokLL_inl (m : Nat) : ∀ {us : List AV}, inlL us = true → tokLL m us = true
  | [], _ => by simp only [tokLL]
  | u :: us, h => by
    simp only [inlL, Bool.and_eq_true] at h
    simp only [tokLL, tokL_inl m h.1, tokLL_inl m h.2, Bool.and_self]
end
section
variable {τ : Nat → Nat} {l : List Nat} {m d : Nat} {fr fr' : Nat → AV} {hp : AHeap}
theorem RF.pv {v : AV} (h : RF τ m fr fr') (hi : inl v = true) (hv : fr d = v) : RF τ m fr (upd fr' d v) := h.put (tokL_inl m hi) (by rw [mapT_inl τ hi]; exact .of hv)
theorem RF.pn (h : RF τ m fr fr') (hv : fr d = .val (.slice none 0 0)) : RF τ m fr (upd fr' d (.sl [])) := h.put (by simp [tokL, inlR]) (by rw [hv]; simp only [mapT]; exact .nil)
theorem RF.po {t off n : Nat} (h : RF τ m fr fr') (ht : t < m) (hv : fr d = .own (τ t) off n) : RF τ m fr (upd fr' d (.own t off n)) := h.put (by simp [tokL, ht]) (by simp only [mapT]; exact .of hv)
theorem RF.pp {t i off : Nat} (h : RF τ m fr fr') (ht : t < m) (hv : fr d = .ptr (τ t) i off) : RF τ m fr (upd fr' d (.ptr t i off)) := h.put (by simp [tokL, ht]) (by simp only [mapT]; exact .of hv)
theorem ORen.eq {t sz : Nat} {mu : Bool} {rows : List (List AV)} (hi : inlR rows = true) (h : hp t = some (.row sz mu rows)) : ORen τ m (hp t) (some (.row sz mu rows)) := by rw [h]; exact .inl hi
theorem ORen.tok {t sz : Nat} {mu : Bool} {rows : List (List AV)} (hi : rows.all (tokLL m) = true) (h : hp t = some (.row sz mu (rows.map (mapTL τ)))) : ORen τ m (hp t) (some (.row sz mu rows)) := by rw [h]; exact .map hi
end
def WeakL (us us' : List AV) : Prop := ∀ E vs, RelL E us vs → RelL E us' vs
theorem WeakL.nil : WeakL [] [] := fun _ _ h => h
theorem WeakL.cons {u u' : AV} {us us' : List AV} (h : Weak u u') (hs : WeakL us us') : WeakL (u :: us) (u' :: us') := fun E vs k => by
  cases k with
  | cons a b => exact .cons (h E _ a) (hs E _ b)
theorem Weak.agg {us us' : List AV} (h : WeakL us us') : Weak (.agg us) (.agg us') := fun E v k => by
  cases k with
  | agg hl => exact .agg (h E _ hl)
theorem FrW.put1 {fr : Nat → AV} {d : Nat} {v : AV} (hv : Weak (fr d) v) : FrW fr (upd fr d v) := FrW.refl.put hv
end Go.Gm
namespace Go.Gm
attribute [go_sem] hpL_ap
end Go.Gm
namespace Go.Gm
theorem idxO_some {P : Program} {t : TypeId} {s : ByteArray} {k : IntKind} {i : Int} {b : UInt8} {pl : Option AR} (ht : isStrT P t = true) (h0 : 0 ≤ i) (hx : (bl s)[i.toNat]? = some b) : idxO P t (.val (.string s)) (.val (.int k i)) pl = some ⟨U8 b, []⟩ := by
  obtain ⟨n, rfl⟩ := Int.eq_ofNat_of_zero_le h0
  rw [idxO_nat]
  simp only [Int.toNat_natCast] at hx
  simp [ht, hx]
end Go.Gm
namespace Go.Gm
theorem WeakL.len {us us' : List AV} {E : Env} {vs : List Value} (h : WeakL us us') (k : RelL E us vs) : us'.length = vs.length := (h E vs k).length
/-- An object of one row, told less of. -/
theorem Ent.weakObj {N nx sz : Nat} {mu : Bool} {fr : Nat → AV} {hp : AHeap} {cs cs' : List AV} (t : Nat) (h : hp t = some (.row sz mu [cs])) (hl : cs'.length = sz) (hw : WeakL cs cs') : Ent N ⟨fr, hp, nx⟩ ⟨fr, upd hp t (some (.row sz mu [cs'])), nx⟩ := fun P G a w hc => by
  obtain ⟨c1, c2, loc, hM, hr⟩ := conc_iff.1 hc
  clear hc
  have hmt : ∀ b, mtOf (upd hp t (some (.row sz mu [cs']))) loc b → mtOf hp loc b := by
    rintro b ⟨t', o', l', h1, h2, h3, h4, h5⟩
    by_cases e : t' = t
    · subst e; rw [upd_same] at h1; cases h1; exact ⟨t', _, l', h, h2, h3, h4, h5⟩
    · rw [upd_other _ _ e] at h1; exact ⟨t', o', l', h1, h2, h3, h4, h5⟩
  have x : Ext (mkE G.m1 hp (fun t => t < nx) loc w) (mkE G.m1 (upd hp t (some (.row sz mu [cs']))) (fun t => t < nx) loc w) := mk_ext (fun _ h => h) (fun _ _ _ h => h) (Nat.le_refl _) (fun b _ => hmt b) (fun _ _ _ => rfl)
  refine conc_iff.2 ⟨c1, c2, loc, hM.change x (fun t' o' ho => ?_) (fun t' ho => ?_) hM.al_ hM.inj rfl rfl rfl (fun b hb => .inl (hmt b hb)) (fun t l k1 k2 => .inl ⟨t, l, k1, k2, rfl⟩), fun d => (hr d).ext x⟩
  · by_cases e : t' = t
    · subst e
      rw [upd_same] at ho; cases ho
      obtain ⟨l, hl', g1, g2, g3, g4, g5, g6⟩ := hM.obj t' _ h
      refine .inr ⟨l, hl', g1, g2, by simpa using hl, by simpa using g4, g5, fun hpos => ?_⟩
      obtain ⟨c, e, fz, vs, k1, k2, k3, k4, k5, k6⟩ := g6 hpos
      refine ⟨c, e, fz, vs, k1, k2, ?_, k4, k5, k6⟩
      simp only [List.flatten_cons, List.flatten_nil, List.append_nil] at k3 ⊢
      exact (hw _ _ k3).ext x
    · rw [upd_other _ _ e] at ho; exact .inl ⟨ho, rfl, fun _ _ _ => rfl⟩
  · by_cases e : t' = t
    · subst e; rw [upd_same] at ho; cases ho
    · rw [upd_other _ _ e] at ho; exact hM.none_ t' ho
end Go.Gm
namespace Go.Gm
section
variable {α : Type} {enc : α → List AV} {l x : List α} {P : Program} {hp : AHeap} {t e sz : Nat} {k k' : IntKind} {lo hi : Int}
theorem cut_ss (he : elemO P t = some e) (hz : szO P e = some sz) (hr : (∀ r ∈ l.map enc, r.length = sz) = True) (h : cutO? l lo hi = some x) : cutS P hp t (.sl (l.map enc)) (some (.val (.int k lo))) (some (.val (.int k' hi))) = some (.sl (x.map enc)) := by
  obtain ⟨⟨h1, h2, h3⟩, rfl⟩ := cutO?_some.1 h
  rw [cut_sl (l := lo.toNat) (h := hi.toNat) he hz (of_eq_true hr) (by simp [loOf, natOf_le h1]) (by simp [hiOf, natOf_le (show 0 ≤ hi by omega)]) (by omega) (by simp only [List.length_map]; omega), ← List.map_drop, ← List.map_take]
theorem cut_sn (he : elemO P t = some e) (hz : szO P e = some sz) (hr : (∀ r ∈ l.map enc, r.length = sz) = True) (h : cutO? l lo (l.length : Int) = some x) : cutS P hp t (.sl (l.map enc)) (some (.val (.int k lo))) none = some (.sl (x.map enc)) := by
  obtain ⟨⟨h1, h2, h3⟩, rfl⟩ := cutO?_some.1 h
  rw [cut_sl (l := lo.toNat) (h := l.length) he hz (of_eq_true hr) (by simp [loOf, natOf_le h1]) (by simp [hiOf]) (by omega) (by simp only [List.length_map]; omega), ← List.map_drop, ← List.map_take]
  simp
theorem cut_ns (he : elemO P t = some e) (hz : szO P e = some sz) (hr : (∀ r ∈ l.map enc, r.length = sz) = True) (h : cutO? l 0 hi = some x) : cutS P hp t (.sl (l.map enc)) none (some (.val (.int k' hi))) = some (.sl (x.map enc)) := by
  obtain ⟨⟨h1, h2, h3⟩, rfl⟩ := cutO?_some.1 h
  rw [cut_sl (l := 0) (h := hi.toNat) he hz (of_eq_true hr) (by simp [loOf]) (by simp [hiOf, natOf_le (show 0 ≤ hi by omega)]) (by omega) (by simp only [List.length_map]; omega), ← List.map_drop, ← List.map_take]
  simp
end
end Go.Gm
namespace Go.Gm
def lenSO (n : Nat) : Option TypeId → Option AObj → Option AV
  | some _, some (.row _ _ _) => some (.val (.int .i64 n))
  | _, _ => none
theorem lenS_own {P : Program} {hp : AHeap} {t o off n : Nat} : lenS P hp t (.own o off n) = lenSO n (elemO P t) (hp o) := by
  unfold lenS lenSO
  simp only [lenOf]
  cases elemO P t with
  | none => rfl
  | some e =>
    cases hp o with
    | none => rfl
    | some ob => cases ob <;> rfl
theorem lenSO_some {n e sz : Nat} {mu : Bool} {rows : List (List AV)} : lenSO n (some e) (some (.row sz mu rows)) = some (.val (.int .i64 (n : Int))) := (rfl)
attribute [go_sem] lenS_own lenSO_some
end Go.Gm
namespace Go.Gm
theorem take_map_self {α β : Type} {f : α → β} {l : List α} : (l.map f).take l.length = l.map f := List.take_of_length_le (by simp)
attribute [go_sem] take_map_self
end Go.Gm

set_option linter.unusedVariables false
set_option linter.unusedSimpArgs false
namespace Go.Gm
def shlV (k : IntKind) (x : Int) (n : Nat) : Int := k.wrap (x * 2 ^ (min n k.bits))
def shrV (k : IntKind) (x : Int) (n : Nat) : Int := x.fdiv (2 ^ (min n k.bits))
def andV (k : IntKind) (x y : Int) : Int := k.wrap (BitVec.ofInt k.bits x &&& BitVec.ofInt k.bits y).toNat
def orV (k : IntKind) (x y : Int) : Int := k.wrap (BitVec.ofInt k.bits x ||| BitVec.ofInt k.bits y).toNat
def xorV (k : IntKind) (x y : Int) : Int := k.wrap (BitVec.ofInt k.bits x ^^^ BitVec.ofInt k.bits y).toNat
def andNotV (k : IntKind) (x y : Int) : Int := k.wrap (BitVec.ofInt k.bits x &&& ~~~ BitVec.ofInt k.bits y).toNat
def allV (k : IntKind) : Int := if k.signed then -1 else k.max
def guardO (p : Prop) [Decidable p] : Option Unit := if p then some () else none
theorem guardO_some {p : Prop} [Decidable p] {u : Unit} : guardO p = some u ↔ p := by unfold guardO; split <;> simp_all
theorem guardO_ok {p : Prop} [Decidable p] (h : p) : guardO p = some () := by rw [guardO, if_pos h]
section
variable {P : Program} {ft : FuncId → List AV → Option AV} {fr : Operand → AV} {hp : AHeap} {id : Nat} {d : Option Tmp} {ty : TypeId} {pos : String} {af : Array Edge} {g : Option (Nat × Bool)}
theorem binV_quo {t : TypeId} {x y : Operand} {k : IntKind} {a b : Int} : binV P .quo t x y (.int k a) (.int k b) = if b = 0 then none else some (.int k (k.wrap (a.tdiv b))) := by
  rw [binV_int]; by_cases h : b = 0 <;> simp [binOp, Op.intDiv, evS_pure, h]; rfl
theorem binV_rem {t : TypeId} {x y : Operand} {k : IntKind} {a b : Int} : binV P .rem t x y (.int k a) (.int k b) = if b = 0 then none else some (.int k (a.tmod b)) := by
  rw [binV_int]; by_cases h : b = 0 <;> simp [binOp, Op.intDiv, evS_pure, h]; rfl
theorem binV_and {t : TypeId} {x y : Operand} {k : IntKind} {a b : Int} : binV P .and t x y (.int k a) (.int k b) = some (.int k (andV k a b)) := by rw [binV_int]; simp [binOp, Op.intBits, evS_pure, andV]
theorem binV_or {t : TypeId} {x y : Operand} {k : IntKind} {a b : Int} : binV P .or t x y (.int k a) (.int k b) = some (.int k (orV k a b)) := by rw [binV_int]; simp [binOp, Op.intBits, evS_pure, orV]
theorem binV_xor {t : TypeId} {x y : Operand} {k : IntKind} {a b : Int} : binV P .xor t x y (.int k a) (.int k b) = some (.int k (xorV k a b)) := by rw [binV_int]; simp [binOp, Op.intBits, evS_pure, xorV]
theorem binV_andNot {t : TypeId} {x y : Operand} {k : IntKind} {a b : Int} : binV P .andNot t x y (.int k a) (.int k b) = some (.int k (andNotV k a b)) := by rw [binV_int]; simp [binOp, Op.intBits, evS_pure, andNotV]
theorem binV_int2 {op : BinOp} {t : TypeId} {x y : Operand} {k k' : IntKind} {a b : Int} : binV P op t x y (.int k a) (.int k' b) = evS P (binOp op t (.int k a) (.int k' b)) := by
  unfold binV eqGuard
  cases op <;> simp [evS_bind, evS_pure]
theorem binV_shl {t : TypeId} {x y : Operand} {k k' : IntKind} {a b : Int} : binV P .shl t x y (.int k a) (.int k' b) = if b < 0 then none else some (.int k (shlV k a b.toNat)) := by
  rw [binV_int2]; by_cases h : b < 0 <;> simp [binOp, Op.shift, evS_pure, h, shlV]; rfl
theorem binV_shr {t : TypeId} {x y : Operand} {k k' : IntKind} {a b : Int} : binV P .shr t x y (.int k a) (.int k' b) = if b < 0 then none else some (.int k (shrV k a b.toNat)) := by
  rw [binV_int2]; by_cases h : b < 0 <;> simp [binOp, Op.shift, evS_pure, h, shrV]; rfl
theorem unE_xor {k : IntKind} {n : Int} : unE P .xor (some (.int k n)) = some ⟨.val (.int k (xorV k (allV k) n)), []⟩ := by
  simp [unE, Op.unary, Op.intBits, evS_pure, xorV, allV]
/-! conversions -/
def intKindO (P : Program) (t : TypeId) : Option IntKind := match P.underlying t with
  | some (.int k) => some k
  | _ => none
def convI (n : Int) : Option IntKind → Option AR
  | some k => some ⟨.val (.int k (k.wrap n)), []⟩
  | none => none
def convA (P : Program) (hp : AHeap) (id : Nat) (s d : TypeId) (x : AV) (pl : Option AR) : Option AR := match x with
  | .val (.int k n) => if (intKindO P d).isSome ∧ (P.underlying s).isSome then convI n (intKindO P d) else pl
  | .val (.string s') => if (elemO P d).isSome = true then toBytesA P id s d (.val (.string s')) else pl
  | .val (.slice none 0 0) => (toStrA P hp s d (.val (.slice none 0 0))).map fun v => ⟨v, []⟩
  | .sl r => (toStrA P hp s d (.sl r)).map fun v => ⟨v, []⟩
  | .own a b c => (toStrA P hp s d (.own a b c)).map fun v => ⟨v, []⟩
  | _ => pl
theorem evS_under {t : TypeId} {u : TypeDesc} (h : P.underlying t = some u) : evS P (underlying t) = some u := by
  have h0 : evS P (underlying t) = evS P (match P.underlying t with
    | some d => pure d
    | none => stuck "no such type" : Sem TypeDesc) := rfl
  rw [h0, h]; rfl
theorem aop_convert {s t : TypeId} {x : Operand} : aop P ft fr hp id ⟨d, .convert s t x, ty, pos, af, g⟩ = convA P hp id s t (fr x) (plainA P fr ⟨d, .convert s t x, ty, pos, af, g⟩) := by
  show (if isStrV (fr x) = true ∧ (elemO P t).isSome = true then toBytesA P id s t (fr x) else match fr x with
    | .val (.slice none 0 0) => (toStrA P hp s t (fr x)).map fun v => ⟨v, []⟩
    | .sl _ => (toStrA P hp s t (fr x)).map fun v => ⟨v, []⟩
    | .own _ _ _ => (toStrA P hp s t (fr x)).map fun v => ⟨v, []⟩
    | _ => plainA P fr ⟨d, .convert s t x, ty, pos, af, g⟩) = _
  unfold convA
  generalize hx : fr x = u
  cases u with
  | val v =>
    cases v with
    | int k n =>
      simp only [isStrV, Bool.false_eq_true, false_and, if_false]
      split
      · rename_i hc
        obtain ⟨k', hk⟩ := Option.isSome_iff_exists.1 hc.1
        obtain ⟨us, hus⟩ := Option.isSome_iff_exists.1 hc.2
        have hd : P.underlying t = some (.int k') := by
          unfold intKindO at hk; split at hk
          · cases hk; assumption
          · cases hk
        rw [hk]
        unfold plainA plainOp
        simp [Op.operands, hx, toV, execOp, evS_bind, evS_pure, convI, convert, evS_under hus, evS_under hd, Conv.intToInt]
      · rfl
    | string s' => simp [isStrV]
    | slice a n c => cases a <;> cases n <;> cases c <;> simp [isStrV]
    | _ => simp [isStrV]
  | _ => simp [isStrV]
end
def bytesI (s : ByteArray) : List Int := (bl s).map fun b => (b.toNat : Int)
theorem bytesI_len (s : ByteArray) : (bytesI s).length = s.size := by simp [bytesI, bl_len]
theorem bytesRows_map {enc : Int → List AV} (h : ∀ x, enc x = [.val (.int .u8 x)]) (s : ByteArray) : bytesRows s = (bytesI s).map enc := by
  unfold bytesRows bytesI bl; simp [h, Function.comp_def]
theorem byteNums_map {enc : Int → List AV} (h : ∀ x, enc x = [.val (.int .u8 x)]) : ∀ l : List Int, byteNums (l.map enc) = some l
  | [] => by simp [byteNums]
  | x :: l => by simp [byteNums, byteRow, h, byteNums_map h l]
theorem take_bytes {α : Type} {f : Int → α} {s : ByteArray} : ((bytesI s).map f).take s.size = (bytesI s).map f := List.take_of_length_le (by simp [bytesI_len])
theorem toStrA_sl {P : Program} {hp : AHeap} {s d : TypeId} {r : List (List AV)} : toStrA P hp s d (.sl r) = match elemO P s with
  | some e => if isStrT P d = true ∧ isU8 P e = true then (byteNums r).map fun ns => .val (.string (strOfNums ns)) else none
  | none => none := by
  unfold toStrA; simp only [rowsOf]; cases elemO P s <;> rfl
theorem toStrA_nil {P : Program} {hp : AHeap} {s d : TypeId} : toStrA P hp s d (.val (.slice none 0 0)) = match elemO P s with
  | some e => if isStrT P d = true ∧ isU8 P e = true then some (.val (.string (strOfNums []))) else none
  | none => none := by
  unfold toStrA; simp only [rowsOf]
  cases elemO P s <;> simp [byteNums]
theorem toStrA_own {P : Program} {hp : AHeap} {s d : TypeId} {t off len : Nat} : toStrA P hp s d (.own t off len) = match rowsOf hp (.own t off len), elemO P s with
  | some r, some e => if isStrT P d = true ∧ isU8 P e = true then (byteNums r).map fun ns => .val (.string (strOfNums ns)) else none
  | _, _ => none := (rfl)
theorem rowsOf_own {hp : AHeap} {t off len : Nat} : rowsOf hp (.own t off len) = match hp t with
  | some (.row _ _ rows) => if off + len ≤ rows.length then some ((rows.drop off).take len) else none
  | _ => none := (rfl)
theorem toBytesA_str {P : Program} {id : Nat} {src dst : TypeId} {s : ByteArray} : toBytesA P id src dst (.val (.string s)) = match elemO P dst with
  | some e => if isStrT P src = true ∧ isU8 P e = true ∧ szO P e = some 1 then some ⟨.own id 0 s.size, [(id, some (.row 1 true (bytesRows s)))]⟩ else none
  | none => none := by
  unfold toBytesA; cases elemO P dst <;> rfl
attribute [go_sem] binV_quo binV_rem binV_and binV_or binV_xor binV_andNot binV_shl binV_shr unE_xor aop_convert convA convI take_bytes toStrA_sl toStrA_nil toStrA_own rowsOf_own toBytesA_str bytesI_len
end Go.Gm
namespace Go.Gm
theorem natOf_lit {k : IntKind} {n : Nat} : natOf (.val (.int k (no_index (OfNat.ofNat n : Int)))) = some (OfNat.ofNat n : Nat) := by
  have : (OfNat.ofNat n : Int) = ((n : Nat) : Int) := rfl
  rw [this, natOf_cast]; rfl
attribute [go_sem] natOf_lit
end Go.Gm
namespace Go.Gm
/-- Rows that lie in a field: written no more. -/
theorem Ent.stillObj {N nx sz : Nat} {mu : Bool} {fr : Nat → AV} {hp : AHeap} {pre post : List AV} {x : AV} {q off len : Nat} (t : Nat) (h : hp t = some (.row sz mu [pre ++ .own q off len :: post])) (hx : resV hp (.own q off len) = some x) (hne : t ≠ q) :
    Ent N ⟨fr, hp, nx⟩ ⟨fr, upd (upd hp q none) t (some (.row sz mu [pre ++ x :: post])), nx⟩ := fun P G a w hc => by
  obtain ⟨c1, c2, loc, hM, hr⟩ := conc_iff.1 hc
  clear hc
  let hp' : AHeap := upd (upd hp q none) t (some (.row sz mu [pre ++ x :: post]))
  let loc' := upd loc q none
  have hother : ∀ t', t' ≠ t → t' ≠ q → hp' t' = hp t' := fun t' h1 h2 => by simp only [hp', upd_other _ _ h1, upd_other _ _ h2]
  have hq : hp' q = none := by simp only [hp', upd_other _ _ (Ne.symm hne), upd_same]
  have ht : hp' t = some (.row sz mu [pre ++ x :: post]) := by simp only [hp', upd_same]
  have hmt : ∀ b, mtOf hp' loc' b → mtOf hp loc b := by
    rintro b ⟨t', o', l', h1, h2, h3, h4, h5⟩
    by_cases e2 : t' = q
    · subst e2; rw [hq] at h1; cases h1
    · have h3' : loc t' = some l' := by simpa only [loc', upd_other _ _ e2] using h3
      by_cases e : t' = t
      · subst e; rw [ht] at h1; cases h1; exact ⟨t', _, l', h, h2, h3', h4, h5⟩
      · rw [hother t' e e2] at h1; exact ⟨t', o', l', h1, h2, h3', h4, h5⟩
  have xx : Ext (mkE G.m1 hp (fun t => t < nx) loc w) (mkE G.m1 hp' (fun t => t < nx) loc' w) := mk_ext (fun _ h => h) (fun t' l ha hl => by
    by_cases e : t' = q
    · subst e; simp only [loc', upd_same] at hl; cases hl
    · simpa only [loc', upd_other _ _ e] using hl) (Nat.le_refl _) (fun b _ => hmt b) (fun _ _ _ => rfl)
  have hin : inl x = true := by
    simp only [resV] at hx
    split at hx
    · split at hx
      · rename_i hc; cases hx; simp [inl, hc.2]
      · cases hx
    · cases hx
  have hval : ∀ v, Rel (mkE G.m1 hp (fun t => t < nx) loc w) (.own q off len) v → Rel (mkE G.m1 hp' (fun t => t < nx) loc' w) x v := fun v hv => by
    have hb := res_rel (G := G) hM (m := fun b => G.m1 b ∨ mtOf hp' loc' b) (fun b hb => hb.imp id (hmt b)) hv hx (fun t1 o1 n1 l he hl hlt => by
      cases he
      rintro (hb | ⟨t', o', l', k1, k2, k3, k4, k5⟩)
      · exact hM.fgn q l hl hlt hb
      · by_cases e : t' = q
        · subst e; rw [hq] at k1; cases k1
        · have k3' : loc t' = some l' := by simpa only [loc', upd_other _ _ e] using k3
          exact e (hM.inj _ _ _ _ k3' hl k5 hlt k4))
    have mv : Move (E0 (fun b => G.m1 b ∨ mtOf hp' loc' b) w) (mkE G.m1 hp' (fun t => t < nx) loc' w) :=
      ⟨Nat.le_refl _, fun b _ hn => ⟨fun hm => hn (Or.inr (hm.elim Or.inr Or.inl)), rfl⟩⟩
    exact Rel.move mv hin hb
  refine conc_iff.2 ⟨c1, c2, loc', hM.change xx (fun t' o' ho => ?_) (fun t' ho => ?_) (fun t' l hl => ?_) (fun t1 t2 l1 l2 k1 k2 => ?_) rfl rfl rfl (fun b hb => .inl (hmt b hb)) (fun t' l k1 k2 => ?_), fun d => (hr d).ext xx⟩
  · by_cases e2 : t' = q
    · subst e2; exact absurd ho (by rw [show upd (upd hp t' none) t (some (.row sz mu [pre ++ x :: post])) t' = none from hq]; simp)
    · by_cases e : t' = t
      · subst e
        have ho' : o' = .row sz mu [pre ++ x :: post] := by
          have : hp' t' = some o' := ho
          rw [ht] at this; cases this; rfl
        subst ho'
        obtain ⟨l, hl', g1, g2, g3, g4, g5, g6⟩ := hM.obj t' _ h
        refine .inr ⟨l, by simpa only [loc', upd_other _ _ e2] using hl', g1, g2, fun r hr => ?_, by simpa using g4, g5, fun hpos => ?_⟩
        · have := g3 (pre ++ .own q off len :: post) (by simp)
          simp at hr; subst hr; simpa using this
        · obtain ⟨c, e, fz, vs, k1, k2, k3, k4, k5, k6⟩ := g6 hpos
          refine ⟨c, e, fz, vs, k1, k2, ?_, k4, k5, k6⟩
          simp only [List.flatten_cons, List.flatten_nil, List.append_nil] at k3 ⊢
          obtain ⟨v1, v2, rfl, hv1, hv2⟩ := k3.split
          cases hv2 with
          | cons ho hs => exact (hv1.ext xx).append (.cons (hval _ ho) (hs.ext xx))
      · exact .inl ⟨(hother t' e e2).symm.trans ho, by simp only [loc', upd_other _ _ e2], fun _ _ _ => rfl⟩
  · by_cases e2 : t' = q
    · subst e2; simp only [loc', upd_same]
    · simp only [loc', upd_other _ _ e2]
      by_cases e : t' = t
      · subst e; have : hp' t' = none := ho; rw [ht] at this; cases this
      · exact hM.none_ t' ((hother t' e e2).symm.trans ho)
  · by_cases e2 : t' = q
    · subst e2; simp only [loc', upd_same] at hl; cases hl
    · exact hM.al_ t' l (by simpa only [loc', upd_other _ _ e2] using hl)
  · have g : ∀ t l, loc' t = some l → loc t = some l := fun t l hl => by
      by_cases e2 : t = q
      · subst e2; simp only [loc', upd_same] at hl; cases hl
      · simpa only [loc', upd_other _ _ e2] using hl
    exact hM.inj _ _ _ _ (g _ _ k1) (g _ _ k2)
  · by_cases e2 : t' = q
    · subst e2; simp only [loc', upd_same] at k1; cases k1
    · exact .inl ⟨t', l, by simpa only [loc', upd_other _ _ e2] using k1, k2, rfl⟩
end Go.Gm
namespace Go.Gm
theorem Ent.stillAgg {N nx : Nat} {fr : Nat → AV} {hp : AHeap} {pre post : List AV} {x : AV} {t off len : Nat} (d : Nat) (hd : fr d = .agg (pre ++ .own t off len :: post)) (hx : resV hp (.own t off len) = some x) : Ent N ⟨fr, hp, nx⟩ ⟨upd fr d (.agg (pre ++ x :: post)), upd hp t none, nx⟩ := fun P G a w hc => by
  obtain ⟨h1, h2, loc, hM, hr⟩ := conc_iff.1 hc
  clear hc
  refine conc_iff.2 ?_
  obtain ⟨hM', x'⟩ := hM.drop t
  refine ⟨h1, h2, _, hM', fun d' => ?_⟩
  by_cases e : d' = d
  · subst e
    show Rel _ (upd fr d' _ d') _
    rw [upd_same]
    have hval : ∀ v, Rel (mkE G.m1 hp (fun t => t < nx) loc w) (.own t off len) v → Rel (mkE G.m1 (upd hp t none) (fun t => t < nx) (upd loc t none) w) x v := fun v hv => by
      have hb := res_rel (G := G) hM (m := fun b => G.m1 b ∨ mtOf (upd hp t none) (upd loc t none) b) (fun b hb => hb.imp id fun ⟨t', o', l', k1, k2, k3, k4, k5⟩ => by
        by_cases e : t' = t
        · subst e; rw [upd_same] at k1; cases k1
        · rw [upd_other _ _ e] at k1 k3; exact ⟨t', o', l', k1, k2, k3, k4, k5⟩) hv hx (fun t1 o1 n1 l he hl hlt => by
          cases he
          rintro (hb | ⟨t', o', l', k1, k2, k3, k4, k5⟩)
          · exact hM.fgn t l hl hlt hb
          · by_cases e : t' = t
            · subst e; rw [upd_same] at k1; cases k1
            · rw [upd_other _ _ e] at k3; exact e (hM.inj _ _ _ _ k3 hl k5 hlt k4))
      have mv : Move (E0 (fun b => G.m1 b ∨ mtOf (upd hp t none) (upd loc t none) b) w) (mkE G.m1 (upd hp t none) (fun t => t < nx) (upd loc t none) w) :=
        ⟨Nat.le_refl _, fun b _ hn => ⟨fun hm => hn (Or.inr (hm.elim Or.inr Or.inl)), rfl⟩⟩
      refine Rel.move mv ?_ hb
      simp only [resV] at hx
      split at hx
      · split at hx
        · rename_i hc; cases hx; simp [inl, hc.2]
        · cases hx
      · cases hx
    have hk := hd ▸ hr d'
    generalize a.tmps.getD d' undef = v at hk ⊢
    cases hk with
    | agg hl =>
      obtain ⟨v1, v2, rfl, hv1, hv2⟩ := hl.split
      cases hv2 with
      | cons ho hs => exact .agg ((hv1.ext x').append (.cons (hval _ ho) (hs.ext x')))
  · show Rel _ (upd fr d _ d') _
    rw [upd_other _ _ e]; exact (hr d').ext x'
end Go.Gm
