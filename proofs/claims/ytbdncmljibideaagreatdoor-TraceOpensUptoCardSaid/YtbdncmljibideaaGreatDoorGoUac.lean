import Derived.Test.YtbdncmljibideaaGreatDoorGoUab
set_option linter.all false
namespace Go.Gm
structure ASt where
 fr : Nat → AV
 hp : AHeap
 nx : Nat
def Conc {P : Program} (G : Ghost P) (N : Nat) (st : ASt) (a : Act) (w : World) : Prop :=
 a.defers = [] ∧ a.tmps.size = N ∧ ∃ loc, Mem G st.hp (fun t => t < st.nx) loc w ∧ ∀ d, Rel (mkE G.m1 st.hp (fun t => t < st.nx) loc w) (st.fr d) (a.tmps.getD d undef)
def AW (P : Program) (N : Nat) (c : Code) (Q : Exit → ASt → Prop) (st : ASt) : Prop :=
 ∀ (md : Option (Nat × Nat)) (G : Ghost P) (a : Act) (w : World), Conc G N st a w → WP md P c (fun e a' w' => ∃ st', Q e st' ∧ Conc G N st' a' w') a w
def Ent (N : Nat) (st st' : ASt) : Prop := ∀ (P : Program) (G : Ghost P) (a : Act) (w : World), Conc G N st a w → Conc G N st' a w
theorem AW.ent {P : Program} {N : Nat} {c : Code} {Q : Exit → ASt → Prop} {st st' : ASt} (h : Ent N st st') (k : AW P N c Q st') : AW P N c Q st := fun md G a w hc => k md G a w (h P G a w hc)
theorem AW.mono {P : Program} {N : Nat} {c : Code} {Q Q' : Exit → ASt → Prop} {st : ASt} (k : AW P N c Q st) (h : ∀ e st, Q e st → ∃ st', Ent N st st' ∧ Q' e st') : AW P N c Q' st := fun md G a w hc =>
 (k md G a w hc).mono fun e a' w' ⟨st1, hq, hc1⟩ => let ⟨st2, he, hq2⟩ := h e st1 hq; ⟨st2, hq2, he P G a' w' hc1⟩
def wantedA (ops : List Oper) (fr : Nat → AV) (o : Oper) : Option Bool :=
 match o.guard with
 | none => some true
 | some (j, want) => match (ops[j]?).bind (·.dst) with
  | some d => match fr d with
   | .val (.bool b) => some (b == want)
   | .val (.tuple _) => some false
   | _ => none
  | none => none
def putF (fr : Nat → AV) (d : Option Tmp) (v : AV) : Nat → AV := match d with
 | some d => upd fr d v
 | none => fr
def okD (N : Nat) : Option Tmp → Bool
 | some d => decide (d < N)
 | none => true
def Enter (P : Program) (f : FuncId) : Prop := ∀ args w, (callFunc f args).run P w = .ok (.enter f args) w
def Ask (P : Program) (f : FuncId) (oxs : Option (List AV)) (k : AV → Prop) : Prop := ∃ xs X, oxs = some xs ∧ PC P f xs X ∧ Enter P f ∧ k X
def callOf (o : Oper) : Option (FuncId × List Operand) :=
 match o.op with
 | .call c => match c.callee with
  | .value (.func f) => some (f, c.args.toList)
  | _ => none
 | _ => none
def noFt : FuncId → List AV → Option AV := fun _ _ => none
def afterCall (us : List AV) (X : AV) (hp : AHeap) (nx : Nat) : AHeap := applyEff hp ((if shares X = true then freezeL hp (us.flatMap tidV) else []) ++ effOf (claimV X nx).2 nx)
def CallK (P : Program) (f : FuncId) (us : List AV) (hp : AHeap) (nx : Nat) (oxs : Option (List AV)) (k : AV → AHeap → Prop) : Prop :=
 (∃ xs X, oxs = some xs ∧ PC P f xs X ∧ Enter P f ∧ (claimV X nx).2.length ≤ 8 ∧ k (claimV X nx).1 (afterCall us X hp nx)) ∨ (∃ r : AR, CallOk P f us hp nx r ∧ Enter P f ∧ k r.v (applyEff hp r.eff))
def arun (P : Program) (N : Nat) (ops : List Oper) : List Oper → ASt → (ASt → Prop) → Prop
 | [], st, Q => Q st
 | o :: rest, st, Q => match wantedA ops st.fr o with
  | none => False
  | some b => if b = true then
    match callV (evF st.fr) o with
    | some (f, us) => CallK P f us st.hp st.nx (resL st.hp us) fun v hp' => okD N o.dst = true ∧ arun P N ops rest ⟨putF st.fr o.dst v, hp', st.nx + 8⟩ Q
    | none => match aop P noFt (evF st.fr) st.hp st.nx o with
     | some r => okD N o.dst = true ∧ arun P N ops rest ⟨putF st.fr o.dst r.v, applyEff st.hp r.eff, st.nx + 8⟩ Q
     | none => False
   else okD N o.dst = true ∧ arun P N ops rest ⟨putF st.fr o.dst (.val undef), st.hp, st.nx + 8⟩ Q
theorem rel_eval {E : Env} {fr : Nat → AV} {a : Act} (h : ∀ d, Rel E (fr d) (a.tmps.getD d undef)) (x : Operand) : Rel E (evF fr x) (a.eval x) := by
 cases x with
 | tmp t => exact h t
 | const v => exact .val v
 | global g => exact .val _
 | func f => exact .val _
theorem rel_put {E : Env} {fr : Nat → AV} {a : Act} {d : Option Tmp} {u : AV} {v : Value} {N : Nat} (hd : okD N d = true) (hN : a.tmps.size = N) (h : ∀ d, Rel E (fr d) (a.tmps.getD d undef)) (hv : Rel E u v) :
  (a.put d v).tmps.size = N ∧ ∀ d', Rel E (putF fr d u d') ((a.put d v).tmps.getD d' undef) := by
 cases d with
 | none => exact ⟨hN, h⟩
 | some d =>
  simp only [okD, decide_eq_true_eq] at hd
  refine ⟨by simpa [Act.put] using hN, fun d' => ?_⟩
  simp only [Act.put, putF, upd]
  by_cases e : d' = d
  ·subst e
   simp [hN, hd]; exact hv
  ·have := h d'
   simp [e, Array.getElem?_setIfInBounds_ne (Ne.symm e)] at this ⊢
   exact this
theorem put_defers (a : Act) (d : Option Tmp) (v : Value) : (a.put d v).defers = a.defers := by cases d <;> rfl
theorem wantedA_eq {P : Program} {G : Ghost P} {N : Nat} {st : ASt} {a : Act} {w : World} {ops : List Oper} {o : Oper} {b : Bool} (hc : Conc G N st a w) (h : wantedA ops st.fr o = some b) : Region.wanted o (yielded ops.toArray a.tmps) = b := by
 unfold wantedA at h
 unfold Region.wanted
 split at h
 ·rename_i hg; cases h; rw [hg]
 ·rename_i j want hg
  rw [hg]
  simp only
  split at h
  ·rename_i d hd
   split at h
   ·rename_i b' hb
    cases h
    obtain ⟨_, _, loc, _, hr⟩ := hc
    have := rel_val (hb ▸ hr d)
    have hx : a.tmps[d]? = some (.bool b') := by
     cases hq : a.tmps[d]? with
     | none => simp [hq, undef] at this
     | some q => simp [hq] at this; rw [this]
    simp only [yielded, hd, Option.bind_some, hx]
    have e : ([] : List Nat) = [] := rfl
    have hops : (ops.toArray[j]?).bind (·.dst) = some d := by simpa using hd
    simp only [hops, Option.bind_some, hx]
    cases b' <;> cases want <;> rfl
   ·rename_i vs hb
    cases h
    obtain ⟨_, _, loc, _, hr⟩ := hc
    have := rel_val (hb ▸ hr d)
    have hops : (ops.toArray[j]?).bind (·.dst) = some d := by simpa using hd
    simp only [yielded, hops, Option.bind_some]
    cases hq : a.tmps[d]? with
    | none => simp
    | some q => simp [hq] at this; rw [this]; simp
   ·cases h
  ·cases h
theorem fresh_nx {nx : Nat} : Fresh (fun t => t < nx) nx := fun t h1 _ h2 => by omega
theorem callV_plain {fr : Operand → AV} {o : Oper} {x : FuncId × List AV} (h : callV fr o = some x) : ∀ c, o.op ≠ .defer c := fun c e => by
 unfold callV at h; rw [e] at h; simp at h
theorem aop_plain {P : Program} {ft : FuncId → List AV → Option AV} {fr : Operand → AV} {hp : AHeap} {id : Nat} {o : Oper} {r : AR} (h : aop P ft fr hp id o = some r) : ∀ c, o.op ≠ .defer c := fun c e => by
 unfold aop at h; rw [e] at h; simp at h
theorem arun_sound {md : Option (Nat × Nat)} {P : Program} {N : Nat} {ops : List Oper} {G : Ghost P} {Q : ASt → Prop} {Q' : Exit → Act → World → Prop} (hQ : ∀ st a w, Q st → Conc G N st a w → Q' .normal a w) :
  ∀ {rest : List Oper} {st : ASt} {a : Act} {w : World}, Conc G N st a w → arun P N ops rest st Q → WL md P ops.toArray Q' rest a w
 | [], st, a, w, hc, h => WL.nil (hQ st a w h hc)
 | o :: rest, st, a, w, hc, h => by
  unfold arun at h
  split at h
  ·exact h.elim
  ·rename_i b hw
   have hwant := wantedA_eq hc hw
   obtain ⟨h1, h2, loc, hM, hrel⟩ := hc
   cases b with
   | false =>
    simp only [Bool.false_eq_true, if_false] at h
    obtain ⟨hd, h⟩ := h
    refine WL.not hwant ?_
    refine arun_sound hQ (st := ⟨putF st.fr o.dst (.val undef), st.hp, st.nx + 8⟩) ?_ h
    obtain ⟨hM2, x2⟩ := hM.more (al' := fun t => t < st.nx + 8) (fun t ht => by omega)
    obtain ⟨g1, g2⟩ := rel_put (u := .val undef) (v := undef) hd h2 (fun d => (hrel d).ext x2) (.val _)
    exact ⟨by rw [put_defers]; exact h1, g1, loc, hM2, g2⟩
   | true =>
    simp only [if_true] at h
    -- behind the operation
    have next : ∀ (r : AR) v w' loc', okD N o.dst = true → arun P N ops rest ⟨putF st.fr o.dst r.v, applyEff st.hp r.eff, st.nx + 8⟩ Q → Mem G (applyEff st.hp r.eff) (alR (fun t => t < st.nx) st.nx) loc' w' →
      Ext (mkE G.m1 st.hp (fun t => t < st.nx) loc w) (mkE G.m1 (applyEff st.hp r.eff) (alR (fun t => t < st.nx) st.nx) loc' w') → Rel (mkE G.m1 (applyEff st.hp r.eff) (alR (fun t => t < st.nx) st.nx) loc' w') r.v v →
      WL md P ops.toArray Q' rest (a.put o.dst v) w' := fun r v w' loc' hd hk hM' x hv => by
     refine arun_sound hQ ?_ hk
     obtain ⟨hM2, x2⟩ := hM'.more (al' := fun t => t < st.nx + 8) (fun t ht => by rcases ht with ht | ht <;> omega)
     obtain ⟨g1, g2⟩ := rel_put (u := r.v) (v := v) hd h2 (fun d => (hrel d).ext (x.trans x2)) (hv.ext x2)
     exact ⟨by rw [put_defers]; exact h1, g1, loc', hM2, g2⟩
    split at h
    ·rename_i f us hco
     refine WL.op hwant (callV_plain hco) ?_
     rcases h with ⟨xs, X, hres, hpc, hent, hlen, hd, hk⟩ | ⟨r, hok, hent, hd, hk⟩
     ·exact call_wp hM fresh_nx (rel_eval hrel) hco hent (CallOk.of_pc hpc hres hlen) fun v w' loc' hM' x hv => next _ v w' loc' hd hk hM' x hv
     ·exact call_wp hM fresh_nx (rel_eval hrel) hco hent hok fun v w' loc' hM' x hv => next _ v w' loc' hd hk hM' x hv
    ·split at h
     ·rename_i r hr
      exact WL.op hwant (aop_plain hr) <| aop_wp hM fresh_nx (fun _ _ _ h => by simp [noFt] at h) (rel_eval hrel) hr fun v w' loc' hM' x hv => next r v w' loc' h.1 h.2 hM' x hv
     ·exact h.elim
def thenA (k : ASt → Prop) (Q : Exit → ASt → Prop) : Exit → ASt → Prop
 | .normal, st => k st
 | e, st => Q e st
def inBlockA (id : Nat) (Q : Exit → ASt → Prop) : Exit → ASt → Prop
 | .exit id', st => if id' = id then Q .normal st else Q (.exit id') st
 | e, st => Q e st
section
variable {P : Program} {N : Nat} {Q : Exit → ASt → Prop} {st : ASt}
theorem AW.skip (h : Q .normal st) : AW P N .skip Q st := fun md G a w hc => WP.skip ⟨st, h, hc⟩
theorem AW.ret (h : Q .ret st) : AW P N .ret Q st := fun md G a w hc => WP.ret ⟨st, h, hc⟩
theorem AW.exit {id : Nat} (h : Q (.exit id) st) : AW P N (.exit id) Q st := fun md G a w hc => WP.exit ⟨st, h, hc⟩
theorem AW.seq {x y : Code} (h : AW P N x (thenA (AW P N y Q) Q) st) : AW P N (.seq x y) Q st := fun md G a w hc => by
 refine WP.seq ((h md G a w hc).mono ?_)
 rintro e a' w' ⟨st', hq, hc'⟩
 cases e with
 | normal => exact hq md G a' w' hc'
 | _ => exact ⟨st', hq, hc'⟩
theorem AW.cond {c : Operand} {x y : Code} {b : Bool} (hc : evF st.fr c = .val (.bool b)) (h : AW P N (if b then x else y) Q st) : AW P N (.cond c x y) Q st := fun md G a w hcc => by
 obtain ⟨_, _, loc, hM, hrel⟩ := hcc
 exact WP.cond (rel_val (hc ▸ rel_eval hrel c)) (h md G a w ⟨by assumption, by assumption, loc, hM, hrel⟩)
theorem AW.block {id : Nat} {c : Code} (h : AW P N c (inBlockA id Q) st) : AW P N (.block id c) Q st := fun md G a w hc => by
 refine WP.block ((h md G a w hc).mono ?_)
 rintro e a' w' ⟨st', hq, hc'⟩
 cases e with
 | exit id' =>
  simp only [inBlockA] at hq
  simp only [Exit.inBlock]
  split
  ·rename_i hid; rw [if_pos hid] at hq; exact ⟨st', hq, hc'⟩
  ·rename_i hid; rw [if_neg hid] at hq; exact ⟨st', hq, hc'⟩
 | _ => exact ⟨st', hq, hc'⟩
theorem AW.region {id : Nat} {ops : List Oper} (h : arun P N ops ops st (Q .normal)) : AW P N (.region id ops.toArray false) Q st := fun md G a w hc =>
 WP.list (by simpa using arun_sound (Q' := fun e a' w' => ∃ st', Q e st' ∧ Conc G N st' a' w') (fun st a w hq hc => ⟨st, hq, hc⟩) hc h)
theorem AW.loop {c : Code} (I : Nat → ASt → Prop) (n₀ : Nat) (st0 : ASt) (he : Ent N st st0) (h0 : I n₀ st0)
  (round : ∀ k st, I k st → AW P N c (thenA (fun st' => ∃ k' st'', k' < k ∧ Ent N st' st'' ∧ I k' st'') Q) st) : AW P N (.loop c) Q st := fun md G a w hc => by
 refine WP.loop (fun n a w => ∃ st, I n st ∧ Conc G N st a w) n₀ ⟨st0, h0, he P G a w hc⟩ ?_
 rintro n a w ⟨st, hI, hc⟩
 refine (round n st hI md G a w hc).mono ?_
 rintro e a' w' ⟨st', hq, hc'⟩
 cases e with
 | normal =>
  obtain ⟨k', st'', hlt, he', hI'⟩ := hq
  exact ⟨k', hlt, st'', hI', he' P G a' w' hc'⟩
 | _ => exact ⟨st', hq, hc'⟩
end
def initF (us : List AV) : Nat → AV := fun d => (us[d]?).getD .any
def resA (P : Program) (st : ASt) : List ResultVar → Option (List AV)
 | [] => some []
 | .tmp t :: rs => (resA P st rs).map fun l => st.fr t :: l
 | .cell a t :: rs => match cellsP st.hp (st.fr a), resA P st rs with
  | some cs, some l => (mkv P t cs).map fun u => u :: l
  | _, _ => none
def resOf : List AV → AV
 | [u] => u
 | us => .tup us
def finA (P : Program) (rs : List ResultVar) (X : AV) : Exit → ASt → Prop
 | .normal, st | .ret, st => match resA P st rs with
  | some l => match sealV st.hp (resOf l) with
   | some (Y, ts) => Y = X ∧ ts.Nodup
   | none => False
  | none => False
 | _, _ => False
def resItem (tmps : Array Value) : ResultVar → Sem Value
 | .tmp t => pure (tmps.getD t undef)
 | .cell a t => do loadVar t (← asAddr (tmps.getD a undef))
theorem results_eq (fn : Func) (tmps : Array Value) : results fn tmps = (do
  let vs ← fn.results.mapM (resItem tmps)
  pure (if h : vs.size = 1 then vs[0] else .tuple vs)) := by
 unfold results
 congr 1
theorem results_rel {P : Program} {G : Ghost P} {al : Nat → Prop} {loc : Nat → Option Loc} {w : World} {st : ASt} {a : Act} (hM : Mem G st.hp al loc w) (hrel : ∀ d, Rel (mkE G.m1 st.hp al loc w) (st.fr d) (a.tmps.getD d undef)) :
  ∀ {rs : List ResultVar} {l : List AV}, resA P st rs = some l → ∃ vs, (rs.mapM (resItem a.tmps)).run P w = .ok vs w ∧ RelL (mkE G.m1 st.hp al loc w) l vs
 | [], l, h => by simp [resA] at h; subst h; exact ⟨[], by simp, .nil⟩
 | .tmp t :: rs, l, h => by
  simp only [resA, Option.map_eq_some_iff] at h
  obtain ⟨l', h1, rfl⟩ := h
  obtain ⟨vs, h2, h3⟩ := results_rel hM hrel h1
  exact ⟨_ :: vs, by simp only [List.mapM_cons, Sem.run_bind, resItem, Sem.run_pure, Result.andThen_ok]; rw [h2]; rfl, .cons (hrel t) h3⟩
 | .cell b t :: rs, l, h => by
  simp only [resA] at h
  split at h
  ·rename_i cs l' h1 h2
   simp only [Option.map_eq_some_iff] at h
   obtain ⟨u, hu, rfl⟩ := h
   obtain ⟨vs, h3, h4⟩ := results_rel hM hrel h2
   obtain ⟨bb, oo, ws, hv, hl, hci, _⟩ := mem_cells hM (hrel b) h1
   obtain ⟨v, hv2, hr2⟩ := run_loadVar_in (P := P) hu hl hci
   refine ⟨v :: vs, ?_, .cons hr2 h4⟩
   have hi : (resItem a.tmps (.cell b t)).run P w = .ok v w := by simp only [resItem, hv, Sem.run_bind, asAddr, Sem.run_pure, Result.andThen_ok, hv2]
   simp only [List.mapM_cons, Sem.run_bind, hi, Result.andThen_ok]
   rw [h3]; rfl
  ·cases h
theorem relL_resOf {E : Env} {l : List AV} {vs : List Value} (h : RelL E l vs) : Rel E (resOf l) (if h : vs.toArray.size = 1 then vs.toArray[0] else .tuple vs.toArray) := by
 cases h with
 | nil => exact .tup .nil
 | cons h1 hs =>
  cases hs with
  | nil => exact h1
  | cons h2 hs =>
   have := Rel.tup (.cons h1 (.cons h2 hs))
   simpa [resOf] using this
theorem pc_of_body {P : Program} {f : FuncId} {fn : Func} {c : Code} {us : List AV} {X : AV} (hf : P.funcs[f]? = some fn) (hb : fn.body = some c) (hn : us.length ≤ fn.ntmps)
  (h : AW P fn.ntmps c (finA P fn.results.toList X) ⟨initF us, fun _ => none, 0⟩) : PC P f us X := by
 intro m w vs hm ht hus
 have hM0 : Mem ⟨w, fun _ => False, m, hm, 0, fun _ => none, Nat.zero_le _, ht⟩ (fun _ => none) (fun t => t < 0) (fun _ => none) w :=
  ⟨fun _ _ h => by simp at h, fun _ _ => rfl, fun _ _ h => by simp at h, fun _ _ _ _ h => by simp at h, rfl, rfl, rfl, Nat.le_refl _, fun _ _ _ => rfl, fun b h => by obtain ⟨t, o, l, h, _⟩ := h; simp at h, fun _ _ h => by simp at h, fun t ht => absurd ht (Nat.not_lt_zero t), fun t l ht _ => absurd ht (Nat.not_lt_zero t)⟩
 have hc0 : Conc ⟨w, fun _ => False, m, hm, 0, fun _ => none, Nat.zero_le _, ht⟩ fn.ntmps ⟨initF us, fun _ => none, 0⟩ { tmps := vs.toArray ++ Array.replicate (fn.ntmps - vs.toArray.size) undef, defers := [] } w := by
  refine ⟨rfl, ?_, fun _ => none, hM0, fun d => ?_⟩
  ·have := hus.length
   simp; omega
  ·have x : Ext (E0 m w) (mkE m (fun _ => none) (fun t => t < 0) (fun _ => none) w) := mk_ext (fun _ h => h.elim) (fun _ _ h => h.elim) (Nat.le_refl _) (fun _ _ h => h) (fun _ _ _ => rfl)
   simp only [initF]
   cases hd : us[d]? with
   | none => exact .any _
   | some u =>
    obtain ⟨v, hv, hr⟩ := hus.get d u hd
    have hlt : d < vs.length := (List.getElem?_eq_some_iff.1 hv).1
    have : ((vs.toArray ++ Array.replicate (fn.ntmps - vs.toArray.size) undef).getD d undef) = v := by
     rw [Array.getD_eq_getD_getElem?, Array.getElem?_append_left (by simpa using hlt)]
     simp [hv]
    simp only [Option.getD_some]
    rw [this]
    exact hr.ext x
 refine calls_of_wp hf hb (wp_mono (h none _ _ w hc0) ?_)
 rintro e a' w' ⟨st', hq, hdf, hsz, loc, hM, hrel⟩
 have fin : finA P fn.results.toList X .ret st' →
   a'.defers = [] ∧ ∃ v, (results fn a'.tmps).run P w' = .ok v w' ∧ ∃ v' hp al loc r ts, Ending.returned v = .returned v' ∧ Mem ⟨w, fun _ => False, m, hm, 0, fun _ => none, Nat.zero_le _, ht⟩ hp al loc w' ∧ Rel (mkE m hp al loc w') r v' ∧ sealV hp r = some (X, ts) ∧ ts.Nodup := by
  intro hh
  simp only [finA] at hh
  split at hh
  ·rename_i l hl
   split at hh
   ·rename_i Y ts hs
    obtain ⟨rfl, hnd⟩ := hh
    obtain ⟨vs', hv, hrl⟩ := results_rel hM hrel hl
    have hrun : (results fn a'.tmps).run P w' = .ok (if h : vs'.toArray.size = 1 then vs'.toArray[0] else .tuple vs'.toArray) w' := by
     rw [results_eq, Sem.run_bind]
     have hm : (fn.results.mapM (resItem a'.tmps)).run P w' = .ok vs'.toArray w' := by
      rw [Array.mapM_eq_mapM_toList, Sem.run_map, hv]; rfl
     rw [hm]; rfl
    exact ⟨hdf, _, hrun, _, st'.hp, _, loc, resOf l, ts, rfl, hM, relL_resOf hrl, hs, hnd⟩
   ·exact hh.elim
  ·exact hh.elim
 cases e with
 | normal => exact fin hq
 | ret => exact fin hq
 | _ => exact hq.elim
end Go.Gm
namespace Go.Gm
mutual
def tidA : AV → List Nat
  | .own t _ _ => [t]
  | .ptr t _ _ => [t]
  | .mp t => [t]
  | .agg cs => tidL cs
  | .tup cs => tidL cs
  | .ifc _ u => tidA u
  | _ => []
def tidL : List AV → List Nat
  | [] => []
  | c :: cs => tidA c ++ tidL cs
end
def movesO (o : Oper) : Bool := match o.op with
  | .move _ => true
  | .assign _ => true
  | _ => false
def touch (fr : Operand → AV) (o : Oper) : List Nat := if movesO o = true then [] else o.op.operands.toList.flatMap fun x => tidA (fr x)
def Agree (hp hp' : AHeap) (ts : List Nat) : Prop := ∀ t ∈ ts, hp t = hp' t
section
variable {P : Program} {hp hp' : AHeap}
theorem Agree.sub {ts us : List Nat} (h : Agree hp hp' ts) (k : ∀ t ∈ us, t ∈ ts) : Agree hp hp' us := fun t ht => h t (k t ht)
theorem cellsP_loc {x : AV} (h : Agree hp hp' (tidA x)) : cellsP hp x = cellsP hp' x := by
  cases x <;> simp_all [cellsP, Agree, tidA]
theorem lenOf_loc {x : AV} (h : Agree hp hp' (tidA x)) : lenOf hp x = lenOf hp' x := by
  cases x with
  | own t off len => simp_all [lenOf, Agree, tidA]
  | val v => cases v with
    | slice a n c => cases a <;> cases n <;> cases c <;> rfl
    | _ => rfl
  | _ => rfl
theorem rowsOf_loc {x : AV} (h : Agree hp hp' (tidA x)) : rowsOf hp x = rowsOf hp' x := by
  cases x with
  | own t off len => simp_all [rowsOf, Agree, tidA]
  | val v => cases v with
    | slice a n c => cases a <;> cases n <;> cases c <;> rfl
    | _ => rfl
  | _ => rfl
theorem liveV_loc {x : AV} (h : Agree hp hp' (tidA x)) : liveV hp x = liveV hp' x := by cases x <;> simp_all [liveV, Agree, tidA]
theorem indexS_loc {t : TypeId} {x i : AV} (h : Agree hp hp' (tidA x)) : indexS P hp t x i = indexS P hp' t x i := by
  have : ∀ z n, indexR z hp n x = indexR z hp' n x := fun z n => by
    cases x with
    | own o off len => simp only [indexR, h o (by simp [tidA])]
    | _ => rfl
  have h2 : ∀ z n m, indexA z hp n m x = indexA z hp' n m x := fun z n m => by
    cases x with
    | ptr o i off => simp only [indexA, h o (by simp [tidA])]
    | _ => rfl
  simp only [indexS, this, h2]
theorem nilB_loc {op : BinOp} {t : TypeId} {x y : AV} {r : Option AR} (h : Agree hp hp' (tidA x)) : nilB P hp op t x y r = nilB P hp' op t x y r := by
  cases x with
  | ptr o i off => simp only [nilB, h o (by simp [tidA])]
  | _ => rfl
theorem cutS_loc {t : TypeId} {x : AV} {lo hi : Option AV} (h : Agree hp hp' (tidA x)) : cutS P hp t x lo hi = cutS P hp' t x lo hi := by
  unfold cutS
  rw [lenOf_loc h]
  cases x with
  | own o off len => simp only [h o (by simp [tidA])]
  | val v => cases v with
    | slice a n c => cases a <;> cases n <;> cases c <;> rfl
    | _ => rfl
  | _ => rfl
theorem oneAV_loc {x : AV} (h : Agree hp hp' (tidA x)) : oneAV hp x = oneAV hp' x := by cases x <;> simp_all [oneAV, Agree, tidA]
theorem ones_loc : ∀ {xs : List AV}, Agree hp hp' (tidL xs) → xs.all (oneAV hp) = xs.all (oneAV hp')
  | [], _ => rfl
  | x :: xs, h => by
    simp only [tidL] at h
    rw [List.all_cons, List.all_cons, oneAV_loc (h.sub fun t ht => by simp [ht]), ones_loc (h.sub fun t ht => by simp [ht])]
theorem cellsOf_loc {x : AV} (h : Agree hp hp' (tidA x)) : (cellsOf x).all (oneAV hp) = (cellsOf x).all (oneAV hp') := by
  cases x with
  | agg cs => exact ones_loc h
  | _ => simp only [cellsOf, List.all_cons, List.all_nil, oneAV_loc h]
theorem storeP_loc {t : TypeId} {x u : AV} (h : Agree hp hp' (tidA x)) (k : Agree hp hp' (tidA u)) : storeP P hp t x u = storeP P hp' t x u := by
  unfold storeP
  rw [cellsOf_loc k]
  cases x with
  | ptr o i off => simp only [h o (by simp [tidA])]
  | _ => rfl
theorem updA_loc {t : TypeId} {m k x : AV} (h : Agree hp hp' (tidA m)) : updA P hp t m k x = updA P hp' t m k x := by
  unfold updA
  cases m with
  | mp o => show updB P t o (hp o) k x = updB P t o (hp' o) k x; rw [h o (by simp [tidA])]
  | _ => rfl
theorem fillA_loc {pl : Nat → Option (Nat × Nat)} : ∀ {ps : List (Nat × AV)} {cs : List AV}, (∀ p ∈ ps, Agree hp hp' (tidA p.2)) → fillA hp pl cs ps = fillA hp' pl cs ps
  | [], _, _ => rfl
  | (i, u) :: ps, cs, h => by
    simp only [fillA]
    rw [cellsOf_loc (h (i, u) (by simp))]
    split
    · rfl
    · split
      · exact fillA_loc fun p hp => h p (by simp [hp])
      · rfl
theorem rowsP_loc {sz : Nat} : ∀ {ps : List (Nat × AV)} {rows : List (List AV)}, (∀ p ∈ ps, Agree hp hp' (tidA p.2)) → rowsP hp sz rows ps = rowsP hp' sz rows ps
  | [], _, _ => rfl
  | (i, u) :: ps, rows, h => by
    simp only [rowsP]
    rw [cellsOf_loc (h (i, u) (by simp))]
    split
    · exact rowsP_loc fun p hp => h p (by simp [hp])
    · rfl
theorem resV_loc {x : AV} (h : Agree hp hp' (tidA x)) : resV hp x = resV hp' x := by
  cases x with
  | own t off len => simp only [resV, h t (by simp [tidA])]
  | val v => cases v with
    | slice a n c => cases a <;> cases n <;> cases c <;> rfl
    | _ => rfl
  | _ => rfl
theorem resL_loc : ∀ {xs : List AV}, (∀ x ∈ xs, Agree hp hp' (tidA x)) → resL hp xs = resL hp' xs
  | [], _ => rfl
  | x :: xs, h => by simp only [resL]; rw [resV_loc (h x (by simp)), resL_loc fun y hy => h y (by simp [hy])]
theorem freezeL_loc : ∀ {ts : List Nat}, Agree hp hp' ts → freezeL hp ts = freezeL hp' ts
  | [], _ => rfl
  | t :: ts, h => by
    simp only [freezeL]
    rw [h t (by simp), freezeL_loc (h.sub fun q hq => by simp [hq])]
theorem tidV_sub {x : AV} : ∀ t ∈ tidV x, t ∈ tidA x := by cases x <;> simp [tidV, tidA]
theorem callA_loc {ft : FuncId → List AV → Option AV} {id f : Nat} {xs : List AV} (h : ∀ x ∈ xs, Agree hp hp' (tidA x)) : callA ft hp id f xs = callA ft hp' id f xs := by
  have h2 : freezeL hp (xs.flatMap tidV) = freezeL hp' (xs.flatMap tidV) := freezeL_loc fun t ht => by
    obtain ⟨x, hx, ht⟩ := List.mem_flatMap.1 ht
    exact h x hx t (tidV_sub t ht)
  simp only [callA, resL_loc h, h2]
theorem srcA_loc {sz : Nat} {tx : TypeId} {x : AV} (h : Agree hp hp' (tidA x)) : srcA P hp sz tx x = srcA P hp' sz tx x := by
  have hr := rowsOf_loc h
  cases x with
  | val v => cases v with
    | string s => rfl
    | _ => simp only [srcA, hr]
  | _ => simp only [srcA, hr]
theorem appendA_loc {id : Nat} {t tx : TypeId} {s x : AV} (h : Agree hp hp' (tidA s)) (k : Agree hp hp' (tidA x)) : appendA P hp id t tx s x = appendA P hp' id t tx s x := by
  unfold appendA
  simp only [srcA_loc k]
  cases s with
  | own o off len => simp only [h o (by simp [tidA])]
  | val v => cases v with
    | slice a n c => cases a <;> cases n <;> cases c <;> rfl
    | _ => rfl
  | _ => rfl
theorem toStrA_loc {s d : TypeId} {x : AV} (h : Agree hp hp' (tidA x)) : toStrA P hp s d x = toStrA P hp' s d x := by simp only [toStrA, rowsOf_loc h]
theorem lenS_loc {t : TypeId} {x : AV} (h : Agree hp hp' (tidA x)) : lenS P hp t x = lenS P hp' t x := by simp only [lenS, lenOf_loc h]
theorem plainA_loc {fr fr' : Operand → AV} {o : Oper} (hs : ∀ cs b, o.op ≠ .select cs b) (h : ∀ x ∈ o.op.operands, fr x = fr' x) : plainA P fr o = plainA P fr' o := by
  unfold plainA plainOp
  have h1 : (o.op.operands.all fun x => (toV (fr x)).isSome) = (o.op.operands.all fun x => (toV (fr' x)).isSome) := by
    rw [Bool.eq_iff_iff, Array.all_eq_true, Array.all_eq_true]
    constructor
    · intro hh i hi; rw [← h _ (Array.getElem_mem hi)]; exact hh i hi
    · intro hh i hi; rw [h _ (Array.getElem_mem hi)]; exact hh i hi
  rw [h1, execOp_congr (ρ := fun x => (toV (fr x)).getD undef) (ρ' := fun x => (toV (fr' x)).getD undef) o hs fun x hx => by simp only [h x hx]]
theorem aop_loc {ft : FuncId → List AV → Option AV} {fr fr' : Operand → AV} {id : Nat} {o : Oper} (h : ∀ x ∈ o.op.operands, fr x = fr' x) (k : Agree hp hp' (touch fr o)) : aop P ft fr hp id o = aop P ft fr' hp' id o := by
  by_cases hmv : movesO o = true
  · obtain ⟨dst, op, ty, pos, after, guard⟩ := o
    cases op with
    | move x => simp only [aop, h x (by simp [Op.operands])]
    | assign x => simp only [aop, h x (by simp [Op.operands])]
    | _ => cases hmv
  unfold touch at k
  rw [if_neg hmv] at k
  clear hmv
  have ha : ∀ x ∈ o.op.operands, Agree hp hp' (tidA (fr' x)) := fun x hx t ht => k t (List.mem_flatMap.2 ⟨x, by simpa using hx, by rw [h x hx]; exact ht⟩)
  obtain ⟨dst, op, ty, pos, after, guard⟩ := o
  cases op with
  | move x => simp only [aop, h x (by simp [Op.operands])]
  | assign x => simp only [aop, h x (by simp [Op.operands])]
  | pick c a b => simp only [aop, h c (by simp [Op.operands]), h a (by simp [Op.operands]), h b (by simp [Op.operands])]
  | alloc e => rfl
  | box e x => simp only [aop, h x (by simp [Op.operands]), cellsOf_loc (ha x (by simp [Op.operands]))]
  | build t ps =>
    have hp1 : partsF fr ps = partsF fr' ps := List.map_congr_left fun p hp => by rw [h p.2 (by simp only [Op.operands, List.mem_toArray]; exact List.mem_map.2 ⟨p, hp, rfl⟩)]
    simp only [aop, hp1, buildA]
    have : ∀ pl zs, fillA hp pl zs (partsF fr' ps) = fillA hp' pl zs (partsF fr' ps) := fun pl zs => fillA_loc fun p hp => by
      obtain ⟨q, hq, rfl⟩ := List.mem_map.1 hp
      exact ha q.2 (by simp only [Op.operands, List.mem_toArray]; exact List.mem_map.2 ⟨q, hq, rfl⟩)
    simp only [this]
  | buildSlice t n ps =>
    have hp1 : partsF fr ps = partsF fr' ps := List.map_congr_left fun p hp => by rw [h p.2 (by simp only [Op.operands, List.mem_toArray]; exact List.mem_map.2 ⟨p, hp, rfl⟩)]
    simp only [aop, hp1, buildSliceA]
    have : ∀ sz rows, rowsP hp sz rows (partsF fr' ps) = rowsP hp' sz rows (partsF fr' ps) := fun sz rows => rowsP_loc fun p hp => by
      obtain ⟨q, hq, rfl⟩ := List.mem_map.1 hp
      exact ha q.2 (by simp only [Op.operands, List.mem_toArray]; exact List.mem_map.2 ⟨q, hq, rfl⟩)
    simp only [this]
  | load t x => simp only [aop, h x (by simp [Op.operands]), cellsP_loc (ha x (by simp [Op.operands]))]
  | store t x u => simp only [aop, h x (by simp [Op.operands]), h u (by simp [Op.operands]), storeP_loc (ha x (by simp [Op.operands])) (ha u (by simp [Op.operands]))]
  | nilCheck x =>
    have hx := h x (by simp [Op.operands])
    have hpl := plainA_loc (P := P) (fr := fr) (fr' := fr') (o := ⟨dst, .nilCheck x, ty, pos, after, guard⟩) (by intro cs b hh; cases hh) h
    simp only [aop, hx, hpl]
    cases hq : fr' x with
    | ptr t i off => have := ha x (by simp [Op.operands]) t (by rw [hq]; simp [tidA]); simp only [this]
    | _ => rfl
  | fieldAddr s x f => simp only [aop, h x (by simp [Op.operands]), liveV_loc (ha x (by simp [Op.operands]))]
  | indexAddr t x i => simp only [aop, h x (by simp [Op.operands]), h i (by simp [Op.operands]), indexS_loc (ha x (by simp [Op.operands]))]
  | slice t x lo hi mx =>
    cases mx with
    | some _ => rfl
    | none =>
      have hpl := plainA_loc (P := P) (fr := fr) (fr' := fr') (o := ⟨dst, .slice t x lo hi none, ty, pos, after, guard⟩) (by intro cs b hh; cases hh) h
      have h1 : lo.map fr = lo.map fr' := by cases lo with
        | none => rfl
        | some y => simp only [Option.map_some]; rw [h y (by simp [Op.operands])]
      have h2 : hi.map fr = hi.map fr' := by cases hi with
        | none => rfl
        | some y => simp only [Option.map_some]; rw [h y (by simp [Op.operands])]
      simp only [aop, h x (by simp [Op.operands]), hpl, h1, h2, cutS_loc (ha x (by simp [Op.operands]))]
  | extract t i => simp only [aop, h t (by simp [Op.operands])]
  | makeFunc fn first captured =>
    have h1 : first.toList.map fr = first.toList.map fr' := List.map_congr_left fun x hx => h x (by simp only [Op.operands, Array.mem_append]; exact .inl (by simpa using hx))
    have h2 : captured.toList.map fr = captured.toList.map fr' := List.map_congr_left fun x hx => h x (by simp only [Op.operands, Array.mem_append]; exact .inr (by simpa using hx))
    simp only [aop, h1, h2]
  | makeInterface t x => simp only [aop, h x (by simp [Op.operands])]
  | makeMap t r => cases r <;> rfl
  | lookup t x y ok => cases ok
                       · simp only [aop, h x (by simp [Op.operands]), h y (by simp [Op.operands])]
                       · rfl
  | mapUpdate t m y x => simp only [aop, h m (by simp [Op.operands]), h y (by simp [Op.operands]), h x (by simp [Op.operands]), updA_loc (ha m (by simp [Op.operands]))]
  | makeSlice t l c => simp only [aop, h l (by simp [Op.operands]), h c (by simp [Op.operands])]
  | convert s d x =>
    have hpl := plainA_loc (P := P) (fr := fr) (fr' := fr') (o := ⟨dst, .convert s d x, ty, pos, after, guard⟩) (by intro cs b hh; cases hh) h
    simp only [aop, h x (by simp [Op.operands]), hpl, toStrA_loc (ha x (by simp [Op.operands]))]
    have hc : ∀ t off len, fr' x = .own t off len → convS P hp d t off len = convS P hp' d t off len := fun t off len hq => by
      have := ha x (by simp [Op.operands]) t (by rw [hq]; simp [tidA])
      simp only [convS, this]
    split
    · rfl
    · split <;> first | rfl | (rename_i t off len hq; rw [hc _ _ _ hq])
  | binOp op t x y u =>
    have hpl := plainA_loc (P := P) (fr := fr) (fr' := fr') (o := ⟨dst, .binOp op t x y u, ty, pos, after, guard⟩) (by intro cs b hh; cases hh) h
    simp only [aop, h x (by simp [Op.operands]), h y (by simp [Op.operands]), hpl, nilB_loc (ha x (by simp [Op.operands]))]
  | unOp op t x => exact plainA_loc (by intro cs b hh; cases hh) h
  | index t x i => exact plainA_loc (by intro cs b hh; cases hh) h
  | call c =>
    obtain ⟨callee, args, tys⟩ := c
    have hpl := plainA_loc (P := P) (fr := fr) (fr' := fr') (o := ⟨dst, .call ⟨callee, args, tys⟩, ty, pos, after, guard⟩) (by intro cs b hh; cases hh) h
    have hop : ∀ x ∈ args.toList, x ∈ (Op.call ⟨callee, args, tys⟩).operands := fun x hx => by
      simp only [Op.operands, Call.operands]
      exact Array.mem_append.2 (.inr (by simpa using hx))
    simp only [aop, callOp]
    cases callee with
    | value f =>
      cases f with
      | func f =>
        have h1 : args.toList.map fr = args.toList.map fr' := List.map_congr_left fun x hx => h x (hop x hx)
        simp only [h1]
        exact callA_loc fun y hy => by obtain ⟨x, hx, rfl⟩ := List.mem_map.1 hy; exact ha x (hop x hx)
      | _ => rfl
    | invoke r m => rfl
    | builtin b =>
      cases b with
      | len =>
        simp only
        split
        · rename_i x t h1 h2
          have hx : x ∈ args.toList := by rw [h1]; simp
          simp only [lenA, h x (hop x hx), hpl, lenS_loc (ha x (hop x hx))]
        · rfl
      | append =>
        simp only
        split
        · rename_i s x t tx h1 h2
          have hs : s ∈ args.toList := by rw [h1]; simp
          have hx : x ∈ args.toList := by rw [h1]; simp
          rw [h s (hop s hs), h x (hop x hx)]
          exact appendA_loc (ha s (hop s hs)) (ha x (hop x hx))
        · rfl
      | max => exact hpl
      | min => exact hpl
      | _ => rfl
  | _ => rfl
end
end Go.Gm
namespace Go.Gm
structure Ev where
 i : Nat
 o : Oper
 b : Bool
 r : AR
 T : List Nat
section
variable (P : Program) (ft : FuncId → List AV → Option AV) (N : Nat) (ops : List Oper) (base : Nat)
def evOk (fr : Nat → AV) (hp : AHeap) (e : Ev) : Prop :=
 (aop P ft (evF fr) hp (base + 8 * e.i) e.o = some e.r ∧ touch (evF fr) e.o = e.T) ∨
  ∃ f us, callV (evF fr) e.o = some (f, us) ∧ Enter P f ∧ ∀ hp', Agree hp hp' e.T → CallOk P f us hp' (base + 8 * e.i) e.r
def validE (fr : Nat → AV) (hp : AHeap) (e : Ev) : Prop :=
 wantedA ops fr e.o = some e.b ∧ okD N e.o.dst = true ∧ (e.b = true → evOk P ft base fr hp e) ∧ (e.b = false → e.r = ⟨.val undef, []⟩)
def appF (fr : Nat → AV) (e : Ev) : Nat → AV := putF fr e.o.dst e.r.v
def appH (hp : AHeap) (e : Ev) : AHeap := applyEff hp e.r.eff
def SV : List Ev → (Nat → AV) → AHeap → Prop
 | [], _, _ => True
 | e :: es, fr, hp => validE P ft N ops base fr hp e ∧ SV es (appF fr e) (appH hp e)
def finF : List Ev → (Nat → AV) → (Nat → AV)
 | [], fr => fr
 | e :: es, fr => finF es (appF fr e)
def finH : List Ev → AHeap → AHeap
 | [], hp => hp
 | e :: es, hp => finH es (appH hp e)
def wids (e : Ev) : List Nat := e.r.eff.map (·.1)
structure Indep (e1 e2 : Ev) : Prop where
 s1 : ∀ d, e1.o.dst = some d → d ∉ e2.o.looksAt ops.toArray
 s2 : ∀ d, e1.o.dst = some d → e2.o.dst ≠ some d
 s3 : ∀ d, e2.o.dst = some d → d ∉ e1.o.looksAt ops.toArray
 w1 : ∀ t ∈ wids e1, t ∉ e2.T
 w2 : ∀ t ∈ wids e1, t ∉ wids e2
 w3 : ∀ t ∈ wids e2, t ∉ e1.T
end
section
variable {P : Program} {ft : FuncId → List AV → Option AV} {N : Nat} {ops : List Oper} {base : Nat}
theorem applyEff_other : ∀ {eff : List (Nat × Option AObj)} {hp : AHeap} {t : Nat}, t ∉ eff.map (·.1) → applyEff hp eff t = hp t
 | [], _, _, _ => rfl
 | (q, o) :: eff, hp, t, h => by
  simp only [List.map_cons, List.mem_cons, not_or] at h
  simp only [applyEff]
  rw [applyEff_other h.2, upd_other _ _ h.1]
theorem applyEff_same : ∀ {eff : List (Nat × Option AObj)} {hp hp' : AHeap} {t : Nat}, t ∈ eff.map (·.1) → applyEff hp eff t = applyEff hp' eff t
 | [], _, _, _, h => by cases h
 | (q, o) :: eff, hp, hp', t, h => by
  simp only [applyEff]
  by_cases h2 : t ∈ eff.map (·.1)
  ·exact applyEff_same h2
  ·simp only [List.map_cons, List.mem_cons] at h
   have e : t = q := h.resolve_right h2
   subst e
   rw [applyEff_other h2, applyEff_other h2, upd_same, upd_same]
theorem putF_other {fr : Nat → AV} {d : Option Tmp} {v : AV} {d' : Nat} (h : ∀ x, d = some x → x ≠ d') : putF fr d v d' = fr d' := by
 cases d with
 | none => rfl
 | some x => exact upd_other _ _ (Ne.symm (h x rfl))
theorem evF_agree {fr fr' : Nat → AV} {o : Oper} (h : ∀ d ∈ o.looksAt ops.toArray, fr d = fr' d) : ∀ x ∈ o.op.operands, evF fr x = evF fr' x := by
 intro x hx
 cases x with
 | tmp t => exact h t (List.mem_append_left _ (List.mem_filterMap.2 ⟨.tmp t, by simpa using hx, rfl⟩))
 | _ => rfl
theorem wantedA_agree {fr fr' : Nat → AV} {o : Oper} (h : ∀ d ∈ o.looksAt ops.toArray, fr d = fr' d) : wantedA ops fr o = wantedA ops fr' o := by
 unfold wantedA
 cases hg : o.guard with
 | none => rfl
 | some g =>
  obtain ⟨j, want⟩ := g
  simp only
  cases hd : (ops[j]?).bind (·.dst) with
  | none => rfl
  | some d =>
   have : d ∈ o.looksAt ops.toArray := by
    unfold Oper.looksAt
    rw [hg]
    refine List.mem_append_right _ ?_
    simp only [List.getElem?_toArray, hd]
    simp
   simp only [h d this]
theorem callV_agree {fr fr' : Operand → AV} {o : Oper} (h : ∀ x ∈ o.op.operands, fr x = fr' x) : callV fr o = callV fr' o := by
 obtain ⟨dst, op, ty, pos, after, guard⟩ := o
 cases op with
 | call c =>
  obtain ⟨callee, args, tys⟩ := c
  cases callee with
  | value v =>
   have ha : args.toList.map fr = args.toList.map fr' := List.map_congr_left fun x hx => h x (by simp [Op.operands, Call.operands] at hx ⊢; exact .inr hx)
   cases v with
   | func f => simp only [callV, ha]
   | tmp t =>
    have ht := h (.tmp t) (by simp [Op.operands, Call.operands])
    simp only [callV, ha, ht]
   | _ => rfl
  | _ => rfl
 | _ => rfl
theorem validE_loc {fr fr' : Nat → AV} {hp hp' : AHeap} {e : Ev} (h : validE P ft N ops base fr hp e) (hf : ∀ d ∈ e.o.looksAt ops.toArray, fr d = fr' d) (hh : ∀ t ∈ e.T, hp t = hp' t) : validE P ft N ops base fr' hp' e := by
 obtain ⟨h1, h2, h3, h4⟩ := h
 have he := evF_agree hf
 refine ⟨by rw [← wantedA_agree hf]; exact h1, h2, fun hb => ?_, h4⟩
 rcases h3 hb with ⟨h5, h6⟩ | ⟨f, us, h5, h6, h7⟩
 ·have ht : touch (evF fr') e.o = touch (evF fr) e.o := by
   unfold touch
   split
   ·rfl
   have : ∀ (xs : List Operand), (∀ x ∈ xs, evF fr x = evF fr' x) → (xs.flatMap fun x => tidA (evF fr' x)) = xs.flatMap fun x => tidA (evF fr x) := by
    intro xs hx
    induction xs with
    | nil => rfl
    | cons x xs ih => rw [List.flatMap_cons, List.flatMap_cons, hx x (by simp), ih fun y hy => hx y (by simp [hy])]
   exact this _ fun x hx => he x (by simpa using hx)
  refine .inl ⟨?_, by rw [ht]; exact h6⟩
  rw [← h5]
  exact (aop_loc he (fun t ht' => hh t (h6 ▸ ht'))).symm
 ·exact .inr ⟨f, us, (callV_agree he) ▸ h5, h6, fun hp2 ha => h7 hp2 fun t ht => (hh t ht).trans (ha t ht)⟩
theorem swapE {fr : Nat → AV} {hp : AHeap} {e1 e2 : Ev} (h1 : validE P ft N ops base fr hp e1) (h2 : validE P ft N ops base (appF fr e1) (appH hp e1) e2) (hi : Indep ops e1 e2) :
  validE P ft N ops base fr hp e2 ∧ validE P ft N ops base (appF fr e2) (appH hp e2) e1 ∧ appF (appF fr e2) e1 = appF (appF fr e1) e2 ∧ appH (appH hp e2) e1 = appH (appH hp e1) e2 := by
 refine ⟨validE_loc h2 (fun d hd => ?_) (fun t ht => ?_), validE_loc h1 (fun d hd => ?_) (fun t ht => ?_), ?_, ?_⟩
 ·exact putF_other fun x hx e => hi.s1 x hx (e ▸ hd)
 ·exact applyEff_other fun h => hi.w1 t h ht
 ·exact (putF_other fun x hx e => hi.s3 x hx (e ▸ hd)).symm
 ·exact (applyEff_other fun h => hi.w3 t h ht).symm
 ·funext d
  simp only [appF]
  by_cases ha : e1.o.dst = some d
  ·have hb : e2.o.dst ≠ some d := hi.s2 d ha
   rw [ha]; simp only [putF]
   rw [upd_same]
   have : ∀ f : Nat → AV, putF f e2.o.dst e2.r.v d = f d := fun f => putF_other fun x hx e => hb (by rw [hx, e])
   exact ((this _).trans (upd_same ..)).symm
  ·have h3 : ∀ f : Nat → AV, putF f e1.o.dst e1.r.v d = f d := fun f => putF_other fun x hx e => ha (by rw [hx, e])
   rw [h3]
   cases hd2 : e2.o.dst with
   | none => simp only [putF]; exact (h3 fr).symm
   | some x =>
    simp only [putF, upd]
    by_cases e : d = x
    ·simp [e]
    ·simp only [e, if_false]; exact (h3 fr).symm
 ·funext t
  simp only [appH]
  by_cases ha : t ∈ wids e1
  ·have hb : t ∉ wids e2 := hi.w2 t ha
   rw [applyEff_other (hp := applyEff hp e1.r.eff) hb]
   exact applyEff_same ha
  ·rw [applyEff_other ha]
   by_cases hb : t ∈ wids e2
   ·exact applyEff_same hb
   ·rw [applyEff_other hb, applyEff_other hb, applyEff_other ha]
theorem frontE : ∀ {L1 L2 : List Ev} {e : Ev} {fr : Nat → AV} {hp : AHeap}, SV P ft N ops base (L1 ++ e :: L2) fr hp → (∀ k ∈ L1, Indep ops k e) →
  validE P ft N ops base fr hp e ∧ SV P ft N ops base (L1 ++ L2) (appF fr e) (appH hp e) ∧ finF (L1 ++ e :: L2) fr = finF (L1 ++ L2) (appF fr e) ∧ finH (L1 ++ e :: L2) hp = finH (L1 ++ L2) (appH hp e)
 | [], L2, e, fr, hp, h, _ => ⟨h.1, h.2, rfl, rfl⟩
 | k :: L1, L2, e, fr, hp, h, hi => by
  obtain ⟨h1, h2⟩ := h
  obtain ⟨g1, g2, g3, g4⟩ := frontE h2 fun q hq => hi q (by simp [hq])
  obtain ⟨s1, s2, s3, s4⟩ := swapE h1 g1 (hi k (by simp))
  refine ⟨s1, ⟨s2, ?_⟩, ?_, ?_⟩
  ·show SV P ft N ops base (L1 ++ L2) (appF (appF fr e) k) (appH (appH hp e) k)
   rw [s3, s4]; exact g2
  ·show finF (L1 ++ e :: L2) (appF fr k) = finF (L1 ++ L2) (appF (appF fr e) k)
   rw [s3]; exact g3
  ·show finH (L1 ++ e :: L2) (appH hp k) = finH (L1 ++ L2) (appH (appH hp e) k)
   rw [s4]; exact g4
def directs (o : Oper) : List Nat := (o.after.toList.filter (Region.binds .any)).map (·.on)
def permB (ord : List Nat) (n : Nat) : Bool := decide (ord.length = n) && decide ord.Nodup && (ord.all (fun i => decide (i < n))) && (List.range n).all fun i => ord.contains i
def statB (A : List (List Nat)) (ord : List Nat) (ops : List Oper) : Bool :=
 permB ord ops.length && (List.range ops.length).all fun i => match ops[i]? with
  | none => false
  | some o => (directs o).all (fun k => decide (k < ops.length) && decide (ord.idxOf k < ord.idxOf i)) && (A.getD i []).all fun k => (directs o).contains k || (directs o).any fun j => (A.getD j []).contains k
def pairB (A : List (List Nat)) (ord : List Nat) (ops : List Oper) : Bool :=
 ops.all noDefer && (List.range ord.length).all fun q => match ord[q]? with
  | none => false
  | some j => match ops[j]? with
   | none => false
   | some oj => (ord.take q).all fun i => match ops[i]? with
    | none => false
    | some oi => (A.getD j []).contains i || oi.apart ops.toArray oj
def alD (base : Nat) (listed : Array Bool) (t : Nat) : Prop := t < base ∨ ∃ i, listed.getD i false = true ∧ base + 8 * i ≤ t ∧ t < base + 8 * i + 8
def ConcM {P : Program} (G : Ghost P) (N : Nat) (fr : Nat → AV) (hp : AHeap) (al : Nat → Prop) (a : Act) (w : World) : Prop :=
 a.defers = [] ∧ a.tmps.size = N ∧ ∃ loc, Mem G hp al loc w ∧ ∀ d, Rel (mkE G.m1 hp al loc w) (fr d) (a.tmps.getD d undef)
theorem wantedM {G : Ghost P} {fr : Nat → AV} {hp : AHeap} {al : Nat → Prop} {a : Act} {w : World} {o : Oper} {b : Bool} (hc : ConcM G N fr hp al a w) (h : wantedA ops fr o = some b) : Region.wanted o (yielded ops.toArray a.tmps) = b := by
 obtain ⟨h1, h2, loc, hM, hr⟩ := hc
 unfold wantedA at h
 unfold Region.wanted
 split at h
 ·rename_i hg; cases h; rw [hg]
 ·rename_i j want hg
  rw [hg]
  simp only
  split at h
  ·rename_i d hd
   split at h
   ·rename_i b' hb
    cases h
    have := rel_val (hb ▸ hr d)
    have hx : a.tmps[d]? = some (.bool b') := by
     cases hq : a.tmps[d]? with
     | none => simp [hq, undef] at this
     | some q => simp [hq] at this; rw [this]
    have hops : (ops.toArray[j]?).bind (·.dst) = some d := by simpa using hd
    simp only [yielded, hops, Option.bind_some, hx]
    cases b' <;> cases want <;> rfl
   ·rename_i vs hb
    cases h
    have := rel_val (hb ▸ hr d)
    have hops : (ops.toArray[j]?).bind (·.dst) = some d := by simpa using hd
    simp only [yielded, hops, Option.bind_some]
    cases hq : a.tmps[d]? with
    | none => simp
    | some q => simp [hq] at this; rw [this]; simp
   ·cases h
  ·cases h
theorem opE {G : Ghost P} {fr : Nat → AV} {hp : AHeap} {al : Nat → Prop} {a : Act} {w : World} {e : Ev} {K : Act → World → Prop} {Q' : Exit → Act → World → Prop} (hft : FtOk P ft) (hc : ConcM G N fr hp al a w) (hv : validE P ft N ops base fr hp e)
  (ho : ops[e.i]? = some e.o) (hf : Fresh al (base + 8 * e.i)) (hK : ∀ a' w', ConcM G N (appF fr e) (appH hp e) (alR al (base + 8 * e.i)) a' w' → K a' w') : wpOp P ops.toArray Q' e.i K a w := by
 obtain ⟨h1, h2, h3, h4⟩ := hv
 have hwant := wantedM hc h1
 obtain ⟨c1, c2, loc, hM, hrel⟩ := hc
 unfold wpOp
 simp only [List.getElem?_toArray, ho, hwant]
 cases hb : e.b with
 | true =>
  simp only [if_true]
  have fin : ∀ v w' loc', Mem G (applyEff hp e.r.eff) (alR al (base + 8 * e.i)) loc' w' → Ext (mkE G.m1 hp al loc w) (mkE G.m1 (applyEff hp e.r.eff) (alR al (base + 8 * e.i)) loc' w') → Rel (mkE G.m1 (applyEff hp e.r.eff) (alR al (base + 8 * e.i)) loc' w') e.r.v v → K (a.put e.o.dst v) w' := fun v w' loc' hM' x hv => hK _ _ (by
   obtain ⟨g1, g2⟩ := rel_put (u := e.r.v) (v := v) h2 c2 (fun d => (hrel d).ext x) hv
   exact ⟨by rw [put_defers]; exact c1, g1, loc', hM', g2⟩)
  rcases h3 hb with ⟨h5, h6⟩ | ⟨f, us, h5, h6, h7⟩
  ·exact .inl (aop_wp hM hf hft (rel_eval hrel) h5 fin)
  ·exact .inl (call_wp hM hf (rel_eval hrel) h5 h6 (h7 hp fun _ _ => rfl) fin)
 | false =>
  simp only [Bool.false_eq_true, if_false]
  refine hK _ _ ?_
  obtain ⟨hM2, x2⟩ := hM.more (al' := alR al (base + 8 * e.i)) (fun t ht => .inl ht)
  have hr := h4 hb
  obtain ⟨g1, g2⟩ := rel_put (u := .val undef) (v := undef) h2 c2 (fun d => (hrel d).ext x2) (.val _)
  refine ⟨by rw [put_defers]; exact c1, g1, loc, ?_, ?_⟩
  ·simp only [appH, hr, applyEff]; exact hM2
  ·simp only [appH, appF, hr, applyEff]; exact g2
theorem mem_ready {i : Nat} {listed : Array Bool} (h : i ∈ Region.ready .any ops.toArray listed) : i < ops.length ∧ listed.getD i true = false ∧ ∃ o, ops[i]? = some o ∧ ∀ k ∈ directs o, listed.getD k false = true := by
 unfold Region.ready at h
 simp only [List.mem_filter, List.mem_range, List.size_toArray, Bool.and_eq_true, Bool.not_eq_true', List.getElem?_toArray] at h
 obtain ⟨h1, h2, h3⟩ := h
 refine ⟨h1, h2, ?_⟩
 cases ho : ops[i]? with
 | none => rw [ho] at h3; simp at h3
 | some o =>
  rw [ho] at h3
  refine ⟨o, rfl, fun k hk => ?_⟩
  simp only [Option.map_some, Option.getD_some, Array.all_eq_true] at h3
  obtain ⟨e, he, rfl⟩ := List.mem_map.1 hk
  obtain ⟨he1, he2⟩ := List.mem_filter.1 he
  obtain ⟨q, hq, rfl⟩ := List.getElem_of_mem he1
  have := h3 q (by simpa using hq)
  simp only [Array.getElem_toList] at he2 ⊢
  simpa [he2] using this
theorem ready_of {i : Nat} {listed : Array Bool} {o : Oper} (h1 : i < ops.length) (h2 : listed.getD i true = false) (ho : ops[i]? = some o) (h3 : ∀ k ∈ directs o, listed.getD k false = true) : i ∈ Region.ready .any ops.toArray listed := by
 unfold Region.ready
 simp only [List.mem_filter, List.mem_range, List.size_toArray, Bool.and_eq_true, Bool.not_eq_true', List.getElem?_toArray]
 refine ⟨h1, h2, ?_⟩
 rw [ho]
 simp only [Option.map_some, Option.getD_some, Array.all_eq_true]
 intro q hq
 by_cases hb : Region.binds .any o.after[q] = true
 ·have := h3 o.after[q].on (List.mem_map.2 ⟨o.after[q], List.mem_filter.2 ⟨by simp, hb⟩, rfl⟩)
  simp [hb, this]
 ·simp [hb]
theorem statB_at {A : List (List Nat)} {ord : List Nat} (h : statB A ord ops = true) {i : Nat} {o : Oper} (ho : ops[i]? = some o) : (∀ k ∈ directs o, k < ops.length ∧ ord.idxOf k < ord.idxOf i) ∧ ∀ k ∈ A.getD i [], k ∈ directs o ∨ ∃ j ∈ directs o, k ∈ A.getD j [] := by
 unfold statB at h
 rw [Bool.and_eq_true, List.all_eq_true] at h
 have hi : i < ops.length := (List.getElem?_eq_some_iff.1 ho).1
 have := h.2 i (by simpa using hi)
 rw [ho] at this
 simp only [Bool.and_eq_true, List.all_eq_true, decide_eq_true_eq, Bool.or_eq_true, List.contains_iff_mem, List.any_eq_true] at this
 exact ⟨this.1, this.2⟩
structure Left (A : List (List Nat)) (ord : List Nat) (ops : List Oper) (listed : Array Bool) (L : List Ev) : Prop where
 size : listed.size = ops.length
 left : ∀ i, i < ops.length → listed.getD i true = false → ∃ e ∈ L, e.i = i
 un : ∀ e ∈ L, e.i < ops.length ∧ listed.getD e.i true = false ∧ ops[e.i]? = some e.o
 sorted : L.Pairwise fun e1 e2 => ord.idxOf e1.i < ord.idxOf e2.i
 pairs : L.Pairwise fun e1 e2 => e1.i ∈ A.getD e2.i [] ∨ Indep ops e1 e2
 closed : ∀ i, listed.getD i false = true → ∀ k ∈ A.getD i [], listed.getD k false = true
theorem getD_tf {l : Array Bool} {i : Nat} (h : i < l.size) : l.getD i true = l.getD i false := by simp [h]
theorem any_sound {G : Ghost P} {A : List (List Nat)} {ord : List Nat} {Q' : Exit → Act → World → Prop} (hft : FtOk P ft) (hst : statB A ord ops = true) :
  ∀ (n : Nat) (L : List Ev) (listed : Array Bool) (fr : Nat → AV) (hp : AHeap) (a : Act) (w : World), L.length = n → Left A ord ops listed L → SV P ft N ops base L fr hp → ConcM G N fr hp (alD base listed) a w →
   (∀ (listed' : Array Bool) (a' : Act) (w' : World), ConcM G N (finF L fr) (finH L hp) (alD base listed') a' w' → listed'.size = ops.length → Q' .normal a' w') → wpAny P .any ops.toArray Q' n listed a w := by
 intro n
 induction n with
 | zero =>
  intro L listed fr hp a w hn hL hsv hc hQ
  obtain rfl : L = [] := List.eq_nil_of_length_eq_zero hn
  refine ⟨?_, hQ listed a w hc hL.size⟩
  apply List.eq_nil_iff_forall_not_mem.2
  intro i hi
  obtain ⟨h1, h2, _⟩ := mem_ready hi
  obtain ⟨e, he, _⟩ := hL.left i h1 h2
  cases he
 | succ n ih =>
  intro L listed fr hp a w hn hL hsv hc hQ
  refine ⟨fun hr => ?_, fun i hi => ?_⟩
  ·-- the first one is ready
   exfalso
   cases L with
   | nil => simp at hn
   | cons e L =>
    obtain ⟨u1, u2, u3⟩ := hL.un e (by simp)
    have : e.i ∈ Region.ready .any ops.toArray listed := ready_of u1 u2 u3 fun k hk => by
     obtain ⟨hkn, hki⟩ := (statB_at hst u3).1 k hk
     have hks : k < listed.size := by rw [hL.size]; omega
     rw [← getD_tf hks]
     by_cases hl : listed.getD k true = true
     ·exact hl
     ·obtain ⟨e', he', rfl⟩ := hL.left k hkn (by simpa using hl)
      exfalso
      rcases List.mem_cons.1 he' with rfl | he'
      ·omega
      ·have := (List.pairwise_cons.1 hL.sorted).1 e' he'; omega
    rw [hr] at this; cases this
  ·obtain ⟨h1, h2, o, ho, h3⟩ := mem_ready hi
   obtain ⟨e, he, hei⟩ := hL.left i h1 h2
   subst hei
   obtain ⟨L1, L2, rfl⟩ := List.append_of_mem he
   have hidx : ∀ k ∈ L1, Indep ops k e := fun k hk => by
    have hp := (List.pairwise_append.1 hL.pairs).2.2 k hk e (by simp)
    rcases hp with hp | hp
    ·exfalso
     obtain ⟨_, k2, _⟩ := hL.un k (by simp [hk])
     have hlk : listed.getD k.i false = true := by
      rcases (statB_at hst ho).2 k.i hp with h | ⟨j, hj, hkj⟩
      ·exact h3 _ h
      ·exact hL.closed j (h3 j hj) _ hkj
     rw [getD_tf (by rw [hL.size]; exact (hL.un k (by simp [hk])).1)] at k2
     rw [k2] at hlk; cases hlk
    ·exact hp
   obtain ⟨g1, g2, g3, g4⟩ := frontE hsv hidx
   have hoe : ops[e.i]? = some e.o := (hL.un e (by simp)).2.2
   have hes : e.i < listed.size := by rw [hL.size]; exact h1
   have hfresh : Fresh (alD base listed) (base + 8 * e.i) := by
    intro t t1 t2 ht
    rcases ht with ht | ⟨j, hj, j1, j2⟩
    ·omega
    ·have : j = e.i := by omega
     subst this
     rw [← getD_tf hes, h2] at hj; cases hj
   refine opE hft hc g1 hoe hfresh fun a' w' hc' => ?_
   have hset : ∀ k, (listed.setIfInBounds e.i true).getD k false = if k = e.i then true else listed.getD k false := fun k => by
    by_cases hk : k = e.i
    ·subst hk; simp [hes]
    ·simp [hk, Array.getElem?_setIfInBounds_ne (Ne.symm hk)]
   have hsett : ∀ k, (listed.setIfInBounds e.i true).getD k true = if k = e.i then true else listed.getD k true := fun k => by
    by_cases hk : k = e.i
    ·subst hk; simp [hes]
    ·simp [hk, Array.getElem?_setIfInBounds_ne (Ne.symm hk)]
   have hsub : ∀ x, x ∈ L1 ++ L2 → x ∈ L1 ++ e :: L2 := fun x hx => by
    rcases List.mem_append.1 hx with h | h
    ·exact List.mem_append_left _ h
    ·exact List.mem_append_right _ (List.mem_cons_of_mem _ h)
   have hsl : (L1 ++ L2).Sublist (L1 ++ e :: L2) := List.Sublist.append (List.Sublist.refl _) (List.sublist_cons_self _ _)
   have hne : ∀ x ∈ L1 ++ L2, x.i ≠ e.i := fun x hx => by
    have hs := hL.sorted
    rcases List.mem_append.1 hx with h | h
    ·have := (List.pairwise_append.1 hs).2.2 x h e (by simp); intro hxe; rw [hxe] at this; omega
    ·have := (List.pairwise_cons.1 (List.pairwise_append.1 hs).2.1).1 x h; intro hxe; rw [hxe] at this; omega
   refine ih (L1 ++ L2) (listed.setIfInBounds e.i true) (appF fr e) (appH hp e) a' w' (by simp at hn ⊢; omega) ?_ g2 ?_ ?_
   ·refine ⟨by simpa using hL.size, fun k hk hkl => ?_, fun x hx => ?_, hL.sorted.sublist hsl, hL.pairs.sublist hsl, fun k hk q hq => ?_⟩
    ·rw [hsett] at hkl
     split at hkl
     ·cases hkl
     ·rename_i hke
      obtain ⟨x, hx, rfl⟩ := hL.left k hk hkl
      refine ⟨x, ?_, rfl⟩
      rcases List.mem_append.1 hx with h | h
      ·exact List.mem_append_left _ h
      ·rcases List.mem_cons.1 h with rfl | h
       ·exact absurd rfl hke
       ·exact List.mem_append_right _ h
    ·obtain ⟨x1, x2, x3⟩ := hL.un x (hsub x hx)
     exact ⟨x1, by rw [hsett, if_neg (hne x hx)]; exact x2, x3⟩
    ·rw [hset] at hk ⊢
     split
     ·rfl
     ·split at hk
      ·rename_i hke
       subst hke
       rcases (statB_at hst ho).2 q hq with h | ⟨j, hj, hkj⟩
       ·exact h3 _ h
       ·exact hL.closed j (h3 j hj) _ hkj
      ·exact hL.closed k hk q hq
   ·obtain ⟨c1, c2, loc, hM, hrel⟩ := hc'
    obtain ⟨hM2, x2⟩ := hM.more (al' := alD base (listed.setIfInBounds e.i true)) (fun t ht => by
     rcases ht with (ht | ⟨j, hj, hjt⟩) | ht
     ·exact .inl ht
     ·exact .inr ⟨j, by rw [hset]; split <;> simp_all, hjt⟩
     ·exact .inr ⟨e.i, by rw [hset]; simp, by omega⟩)
    exact ⟨c1, c2, loc, hM2, fun d => (hrel d).ext x2⟩
   ·intro listed' a2 w2 hc2 hs2
    rw [← g3, ← g4] at hc2
    exact hQ listed' a2 w2 hc2 hs2
end
end Go.Gm
namespace Go.Gm
def Disj (l m : List Nat) : Prop := ∀ t ∈ l, t ∉ m
def OkPair (A : List (List Nat)) (j : Nat) (T W : List Nat) (acc : List (Nat × List Nat × List Nat)) : Prop :=
 ∀ x ∈ acc, x.1 ∈ A.getD j [] ∨ (Disj x.2.2 T ∧ Disj x.2.2 W ∧ Disj W x.2.1)
def accE (i : Nat) (T W : List Nat) (acc : List (Nat × List Nat × List Nat)) : List (Nat × List Nat × List Nat) := if T.isEmpty && W.isEmpty then acc else (i, T, W) :: acc
def pick (ops : List Oper) : List Nat → List (Nat × Oper)
 | [] => []
 | i :: l => match ops[i]? with
  | some o => (i, o) :: pick ops l
  | none => pick ops l
def adrun (P : Program) (ft : FuncId → List AV → Option AV) (N : Nat) (ops : List Oper) (A : List (List Nat)) (base : Nat) : List (Nat × Oper) → (Nat → AV) → AHeap → List (Nat × List Nat × List Nat) → ((Nat → AV) → AHeap → Prop) → Prop
 | [], fr, hp, _, Q => Q fr hp
 | (i, o) :: rest, fr, hp, acc, Q => match wantedA ops fr o with
  | none => False
  | some b => if b = true then
    match aop P ft (evF fr) hp (base + 8 * i) o with
    | some r => okD N o.dst = true ∧ OkPair A i (touch (evF fr) o) (r.eff.map (·.1)) acc ∧
      adrun P ft N ops A base rest (putF fr o.dst r.v) (applyEff hp r.eff) (accE i (touch (evF fr) o) (r.eff.map (·.1)) acc) Q
    | none => ∃ f us r T, callV (evF fr) o = some (f, us) ∧ Enter P f ∧ (∀ hp', Agree hp hp' T → CallOk P f us hp' (base + 8 * i) r) ∧ okD N o.dst = true ∧ OkPair A i T (r.eff.map (·.1)) acc ∧
      adrun P ft N ops A base rest (putF fr o.dst r.v) (applyEff hp r.eff) (accE i T (r.eff.map (·.1)) acc) Q
   else okD N o.dst = true ∧ adrun P ft N ops A base rest (putF fr o.dst (.val undef)) hp acc Q
section
variable {P : Program} {ft : FuncId → List AV → Option AV} {N : Nat} {ops : List Oper} {A : List (List Nat)} {base : Nat}
def IdsOk (A : List (List Nat)) (x : Nat × List Nat × List Nat) (e : Ev) : Prop := x.1 ∈ A.getD e.i [] ∨ (Disj x.2.2 e.T ∧ Disj x.2.2 (wids e) ∧ Disj (wids e) x.2.1)
theorem adrun_events {Q : (Nat → AV) → AHeap → Prop} : ∀ (rest : List (Nat × Oper)) (fr : Nat → AV) (hp : AHeap) (acc : List (Nat × List Nat × List Nat)), adrun P ft N ops A base rest fr hp acc Q → (∀ x ∈ rest, ops[x.1]? = some x.2) →
  ∃ L, Q (finF L fr) (finH L hp) ∧ SV P ft N ops base L fr hp ∧ L.map (·.i) = rest.map (·.1) ∧ (∀ e ∈ L, ops[e.i]? = some e.o) ∧ (∀ x ∈ acc, ∀ e ∈ L, IdsOk A x e) ∧
   L.Pairwise fun e1 e2 => IdsOk A (e1.i, e1.T, wids e1) e2
 | [], fr, hp, acc, h, _ => ⟨[], h, trivial, rfl, by simp, by simp, .nil⟩
 | (i, o) :: rest, fr, hp, acc, h, hd => by
  have hoi : ops[i]? = some o := hd (i, o) (by simp)
  have hd' : ∀ x ∈ rest, ops[x.1]? = some x.2 := fun x hx => hd x (by simp [hx])
  unfold adrun at h
  split at h
  ·exact h.elim
  ·rename_i b hw
   cases b with
   | false =>
    simp only [Bool.false_eq_true, if_false] at h
    obtain ⟨h1, h2⟩ := h
    obtain ⟨L, q1, q2, q3, q4, q5, q6⟩ := adrun_events rest _ _ acc h2 hd'
    let e : Ev := ⟨i, o, false, ⟨.val undef, []⟩, []⟩
    have hE : ∀ x : Nat × List Nat × List Nat, IdsOk A x e := fun x => .inr ⟨fun t _ => by simp [e], fun t _ => by simp [e, wids], fun t ht => by simp [e, wids] at ht⟩
    refine ⟨e :: L, q1, ⟨⟨hw, h1, fun hh => (by cases hh), fun _ => rfl⟩, q2⟩, ?_, ?_, ?_, ?_⟩
    ·simp [q3, e]
    ·intro x hx; rcases List.mem_cons.1 hx with rfl | hx
     ·exact hoi
     ·exact q4 x hx
    ·intro x hx y hy; rcases List.mem_cons.1 hy with rfl | hy
     ·exact hE x
     ·exact q5 x hx y hy
    ·refine List.pairwise_cons.2 ⟨fun y hy => ?_, q6⟩
     exact .inr ⟨fun t ht => by simp [e, wids] at ht, fun t ht => by simp [e, wids] at ht, fun t _ => by simp [e]⟩
   | true =>
    simp only [if_true] at h
    have ev : ∀ (r : AR) (T : List Nat), okD N o.dst = true → OkPair A i T (r.eff.map (·.1)) acc → adrun P ft N ops A base rest (putF fr o.dst r.v) (applyEff hp r.eff) (accE i T (r.eff.map (·.1)) acc) Q → evOk P ft base fr hp ⟨i, o, true, r, T⟩ →
      ∃ L, Q (finF L fr) (finH L hp) ∧ SV P ft N ops base L fr hp ∧ L.map (·.i) = ((i, o) :: rest).map (·.1) ∧ (∀ e ∈ L, ops[e.i]? = some e.o) ∧ (∀ x ∈ acc, ∀ e ∈ L, IdsOk A x e) ∧ L.Pairwise fun e1 e2 => IdsOk A (e1.i, e1.T, wids e1) e2 := fun r T h1 h2 h3 hv => by
     obtain ⟨L, q1, q2, q3, q4, q5, q6⟩ := adrun_events rest _ _ _ h3 hd'
     let e : Ev := ⟨i, o, true, r, T⟩
     refine ⟨e :: L, q1, ⟨⟨hw, h1, fun _ => hv, fun hh => (by cases hh)⟩, q2⟩, ?_, ?_, ?_, ?_⟩
     ·simp [q3, e]
     ·intro x hx; rcases List.mem_cons.1 hx with rfl | hx
      ·exact hoi
      ·exact q4 x hx
     ·intro x hx y hy; rcases List.mem_cons.1 hy with rfl | hy
      ·exact h2 x hx
      ·refine q5 x ?_ y hy
       unfold accE; split
       ·exact hx
       ·exact List.mem_cons_of_mem _ hx
     ·refine List.pairwise_cons.2 ⟨fun y hy => ?_, q6⟩
      by_cases hem : (T.isEmpty && (r.eff.map (·.1)).isEmpty) = true
      ·simp only [Bool.and_eq_true, List.isEmpty_iff] at hem
       refine .inr ⟨fun t ht => ?_, fun t ht => ?_, fun t _ => ?_⟩
       ·simp only [e, wids, hem.2] at ht; cases ht
       ·simp only [e, wids, hem.2] at ht; cases ht
       ·simp only [e, hem.1]; simp
      ·refine q5 (i, T, r.eff.map (·.1)) ?_ y hy
       unfold accE; rw [if_neg hem]; exact List.mem_cons_self ..
    split at h
    ·rename_i r hr
     obtain ⟨h1, h2, h3⟩ := h
     exact ev r (touch (evF fr) o) h1 h2 h3 (.inl ⟨hr, rfl⟩)
    ·obtain ⟨f, us, r, T, c1, c2, c3, h1, h2, h3⟩ := h
     exact ev r T h1 h2 h3 (.inr ⟨f, us, c1, c2, c3⟩)
theorem pairB_at {ord : List Nat} (h : pairB A ord ops = true) {p q i j : Nat} {oi oj : Oper} (hpq : p < q) (hp : ord[p]? = some i) (hq : ord[q]? = some j) (hi : ops[i]? = some oi) (hj : ops[j]? = some oj) : i ∈ A.getD j [] ∨ oi.apart ops.toArray oj = true := by
 unfold pairB at h
 rw [Bool.and_eq_true] at h
 replace h := h.2
 rw [List.all_eq_true] at h
 have := h q (by simpa using (List.getElem?_eq_some_iff.1 hq).1)
 rw [hq] at this
 simp only [hj, List.all_eq_true] at this
 have := this i (by
  have : (ord.take q)[p]? = some i := by rw [List.getElem?_take_of_lt hpq]; exact hp
  exact List.mem_of_getElem? this)
 rw [hi] at this
 simpa using this
theorem pick_map : ∀ (l : List Nat), (∀ i ∈ l, i < ops.length) → (pick ops l).map (·.1) = l ∧ ∀ x ∈ pick ops l, ops[x.1]? = some x.2
 | [], _ => ⟨rfl, by simp [pick]⟩
 | i :: l, h => by
  obtain ⟨h1, h2⟩ := pick_map l fun j hj => h j (by simp [hj])
  have hi : ops[i]? = some (ops[i]'(h i (by simp))) := List.getElem?_eq_getElem _
  simp only [pick, hi]
  refine ⟨by simp [h1], fun x hx => ?_⟩
  rcases List.mem_cons.1 hx with rfl | hx
  ·exact hi
  ·exact h2 x hx
theorem draw_any {G : Ghost P} {st : ASt} {Q : ASt → Prop} (A : List (List Nat)) (ord : List Nat) (ft : FuncId → List AV → Option AV) (hft : FtOk P ft) (hs : statB A ord ops = true) (hp : pairB A ord ops = true) {a : Act} {w : World} (hc : Conc G N st a w)
  (h : adrun P ft N ops A st.nx (pick ops ord) st.fr st.hp [] fun fr hp => Q ⟨fr, hp, st.nx + 8 * ops.length⟩) : wpAny P .any ops.toArray (fun e a' w' => e = .normal ∧ ∃ st', Q st' ∧ Conc G N st' a' w') ops.toArray.size (Array.replicate ops.toArray.size false) a { w with drawn := w.drawn + 1 } := by
 have hperm : permB ord ops.length = true := by unfold statB at hs; simp only [Bool.and_eq_true] at hs; exact hs.1
 simp only [permB, Bool.and_eq_true, decide_eq_true_eq, List.all_eq_true] at hperm
 obtain ⟨⟨⟨ho1, ho2⟩, ho3⟩, ho4⟩ := hperm
 obtain ⟨hpm1, hpm2⟩ := pick_map (ops := ops) ord ho3
 obtain ⟨L, q1, q2, q3, q4, _, q6⟩ := adrun_events _ _ _ _ h hpm2
 rw [hpm1] at q3
 obtain ⟨c1, c2, loc, hM, hrel⟩ := hc
 have hMd := hM.world (w' := { w with drawn := w.drawn + 1 }) rfl rfl rfl rfl
 have xd : Ext (mkE G.m1 st.hp (fun t => t < st.nx) loc w) (mkE G.m1 st.hp (fun t => t < st.nx) loc { w with drawn := w.drawn + 1 }) := Ext.world rfl
 have hlen : L.length = ops.length := by have := congrArg List.length q3; simp at this; omega
 have hord : ∀ k (hk : k < L.length), ord[k]? = some L[k].i := fun k hk => by
  rw [← q3]; simp [hk]
 have hrk : ∀ k (hk : k < L.length), ord.idxOf L[k].i = k := fun k hk => by
  have h1 : k < ord.length := by omega
  have h2 : ord[k] = L[k].i := by have := hord k hk; rw [List.getElem?_eq_getElem h1] at this; exact Option.some.inj this
  rw [← h2]; exact ho2.idxOf_getElem k h1
 have hfalse : ∀ i, (Array.replicate ops.toArray.size false).getD i false = false := fun i => by
  by_cases hi : i < ops.length <;> simp [hi]
 obtain ⟨hM2, x2⟩ := hMd.more (al' := alD st.nx (Array.replicate ops.toArray.size false)) (fun t ht => .inl ht)
 have hsz : ops.toArray.size = ops.length := by simp
 rw [show ops.toArray.size = ops.length from hsz]
 refine any_sound (G := G) (A := A) (ord := ord) hft hs ops.length L (Array.replicate ops.length false) st.fr st.hp a { w with drawn := w.drawn + 1 } hlen ?_ q2 ?_ ?_
 ·refine ⟨by simp, fun i hi _ => ?_, fun e he => ?_, ?_, ?_, fun i hi => ?_⟩
  ·have : i ∈ ord := by
    simpa using ho4 i (by simpa using hi)
   rw [← q3] at this
   obtain ⟨e, he, rfl⟩ := List.mem_map.1 this
   exact ⟨e, he, rfl⟩
  ·obtain ⟨k, hk, rfl⟩ := List.getElem_of_mem he
   have hlt : L[k].i < ops.length := (List.getElem?_eq_some_iff.1 (q4 _ he)).1
   exact ⟨hlt, by simp [hlt], q4 _ he⟩
  ·rw [List.pairwise_iff_getElem]
   intro i j hi hj hij
   rw [hrk i hi, hrk j hj]; exact hij
  ·rw [List.pairwise_iff_getElem]
   intro i j hi hj hij
   have h6 := (List.pairwise_iff_getElem.1 q6) i j hi hj hij
   have h7 := pairB_at hp hij (hord i hi) (hord j hj) (q4 _ (List.getElem_mem hi)) (q4 _ (List.getElem_mem hj))
   rcases h7 with h7 | h7
   ·exact .inl h7
   ·rcases h6 with h6 | ⟨a1, a2, a3⟩
    ·exact .inl h6
    ·obtain ⟨s1, s2, s3⟩ := Oper.apart_spec h7
     exact .inr ⟨s1, s2, s3, a1, a2, a3⟩
  ·rw [← hsz, hfalse] at hi; cases hi
 ·rw [← hsz]
  exact ⟨c1, c2, loc, hM2, fun d => ((hrel d).ext xd).ext x2⟩
 ·rintro listed a' w' ⟨d1, d2, loc', hM', hrel'⟩ hls
  obtain ⟨hM3, x3⟩ := hM'.more (al' := fun t => t < st.nx + 8 * ops.length) (fun t ht => by
   rcases ht with ht | ⟨i, hi, h1, h2⟩
   ·omega
   ·have : i < ops.length := by
     rw [← hls]
     by_cases hlt : i < listed.size
     ·exact hlt
     ·simp [hlt] at hi
    omega)
  exact ⟨rfl, _, q1, d1, d2, loc', hM3, fun d => (hrel' d).ext x3⟩
theorem AW.draw {st : ASt} {id : Nat} {Q : Exit → ASt → Prop} (A : List (List Nat)) (ord : List Nat) (ft : FuncId → List AV → Option AV) (hft : FtOk P ft) (hm : P.follows .mixedOrders = true) (hs : statB A ord ops = true) (hp : pairB A ord ops = true)
  (h : adrun P ft N ops A st.nx (pick ops ord) st.fr st.hp [] fun fr hp => Q .normal ⟨fr, hp, st.nx + 8 * ops.length⟩) : AW P N (.region id ops.toArray true) Q st := fun md G a w hc => by
 refine WP.any hm (fun i o ho => ?_) ?_
 ·unfold pairB at hp
  rw [Bool.and_eq_true, List.all_eq_true] at hp
  exact hp.1 o (List.mem_of_getElem? (by simpa using ho))
 ·exact draw_any (Q := Q .normal) A ord ft hft hs hp hc h
end
end Go.Gm
namespace Go.Gm
abbrev I (n : Int) : AV := .val (.int .i64 n)
abbrev B (b : Bool) : AV := .val (.bool b)
abbrev S (s : ByteArray) : AV := .val (.string s)
abbrev nilS : AV := .val (.slice none 0 0)
theorem putF_some (fr : Nat → AV) (d : Nat) (v : AV) : putF fr (some d) v = upd fr d v := (rfl)
theorem putF_none (fr : Nat → AV) (v : AV) : putF fr none v = fr := (rfl)
theorem upd_ap {α : Type} (f : Nat → α) (t : Nat) (v : α) (t' : Nat) : upd f t v t' = if t' = t then v else f t' := (rfl)
theorem evF_tmp (fr : Nat → AV) (t : Nat) : evF fr (.tmp t) = fr t := (rfl)
theorem evF_const (fr : Nat → AV) (v : Value) : evF fr (.const v) = .val v := (rfl)
theorem evF_func (fr : Nat → AV) (f : Nat) : evF fr (.func f) = .val (.func (.func f) #[] #[]) := (rfl)
theorem okD_some (N d : Nat) : okD N (some d) = decide (d < N) := (rfl)
theorem okD_none (N : Nat) : okD N none = true := (rfl)
section
variable {P : Program} {ft : FuncId → List AV → Option AV} {fr : Operand → AV} {hp : AHeap} {id : Nat} {d : Option Tmp} {ty : TypeId} {pos : String} {af : Array Edge} {g : Option (Nat × Bool)}
theorem wantedA_some {ops : List Oper} {f : Nat → AV} {op : Op} {j : Nat} {b : Bool} : wantedA ops f ⟨d, op, ty, pos, af, some (j, b)⟩ = match (ops[j]?).bind (·.dst) with
    | some d => match f d with
      | .val (.bool c) => some (c == b)
      | .val (.tuple _) => some false
      | _ => none
    | none => none := (rfl)
theorem callOf_fn {f : FuncId} {args : Array Operand} {tys : Array TypeId} : callOf ⟨d, .call ⟨.value (.func f), args, tys⟩, ty, pos, af, g⟩ = some (f, args.toList) := (rfl)
theorem callOf_builtin {b : Builtin} {args : Array Operand} {tys : Array TypeId} : callOf ⟨d, .call ⟨.builtin b, args, tys⟩, ty, pos, af, g⟩ = none := (rfl)
theorem callOf_tmp {t : Nat} {args : Array Operand} {tys : Array TypeId} : callOf ⟨d, .call ⟨.value (.tmp t), args, tys⟩, ty, pos, af, g⟩ = none := (rfl)
theorem callOf_move {x : Operand} : callOf ⟨d, .move x, ty, pos, af, g⟩ = none := (rfl)
theorem callOf_assign {x : Operand} : callOf ⟨d, .assign x, ty, pos, af, g⟩ = none := (rfl)
theorem callOf_pick {x y z : Operand} : callOf ⟨d, .pick x y z, ty, pos, af, g⟩ = none := (rfl)
theorem callOf_alloc {e : TypeId} : callOf ⟨d, .alloc e, ty, pos, af, g⟩ = none := (rfl)
theorem callOf_box {e : TypeId} {x : Operand} : callOf ⟨d, .box e x, ty, pos, af, g⟩ = none := (rfl)
theorem callOf_build {e : TypeId} {x : Array (Nat × Operand)} : callOf ⟨d, .build e x, ty, pos, af, g⟩ = none := (rfl)
theorem callOf_buildSlice {e : TypeId} {n : Nat} {x : Array (Nat × Operand)} : callOf ⟨d, .buildSlice e n x, ty, pos, af, g⟩ = none := (rfl)
theorem callOf_load {e : TypeId} {x : Operand} : callOf ⟨d, .load e x, ty, pos, af, g⟩ = none := (rfl)
theorem callOf_store {e : TypeId} {x y : Operand} : callOf ⟨d, .store e x y, ty, pos, af, g⟩ = none := (rfl)
theorem callOf_nilCheck {x : Operand} : callOf ⟨d, .nilCheck x, ty, pos, af, g⟩ = none := (rfl)
theorem callOf_fieldAddr {e : TypeId} {x : Operand} {f : Nat} : callOf ⟨d, .fieldAddr e x f, ty, pos, af, g⟩ = none := (rfl)
theorem callOf_indexAddr {e : TypeId} {x y : Operand} : callOf ⟨d, .indexAddr e x y, ty, pos, af, g⟩ = none := (rfl)
theorem callOf_index {e : TypeId} {x y : Operand} : callOf ⟨d, .index e x y, ty, pos, af, g⟩ = none := (rfl)
theorem callOf_slice {e : TypeId} {x : Operand} {l h m : Option Operand} : callOf ⟨d, .slice e x l h m, ty, pos, af, g⟩ = none := (rfl)
theorem callOf_extract {x : Operand} {i : Nat} : callOf ⟨d, .extract x i, ty, pos, af, g⟩ = none := (rfl)
theorem callOf_binOp {o : BinOp} {t u : TypeId} {x y : Operand} : callOf ⟨d, .binOp o t x y u, ty, pos, af, g⟩ = none := (rfl)
theorem callOf_unOp {o : UnOp} {t : TypeId} {x : Operand} : callOf ⟨d, .unOp o t x, ty, pos, af, g⟩ = none := (rfl)
theorem callOf_convert {s t : TypeId} {x : Operand} : callOf ⟨d, .convert s t x, ty, pos, af, g⟩ = none := (rfl)
theorem callOf_makeFunc {f : Fn} {x y : Array Operand} : callOf ⟨d, .makeFunc f x y, ty, pos, af, g⟩ = none := (rfl)
theorem callOf_makeInterface {t : TypeId} {x : Operand} : callOf ⟨d, .makeInterface t x, ty, pos, af, g⟩ = none := (rfl)
theorem callOf_makeMap {t : TypeId} : callOf ⟨d, .makeMap t none, ty, pos, af, g⟩ = none := (rfl)
theorem callOf_lookup {t : TypeId} {x y : Operand} : callOf ⟨d, .lookup t x y false, ty, pos, af, g⟩ = none := (rfl)
theorem callOf_mapUpdate {t : TypeId} {x y z : Operand} : callOf ⟨d, .mapUpdate t x y z, ty, pos, af, g⟩ = none := (rfl)
theorem callOf_makeSlice {t : TypeId} {x y : Operand} : callOf ⟨d, .makeSlice t x y, ty, pos, af, g⟩ = none := (rfl)
theorem aop_move {x : Operand} : aop P ft fr hp id ⟨d, .move x, ty, pos, af, g⟩ = some ⟨fr x, []⟩ := (rfl)
theorem aop_assign {x : Operand} : aop P ft fr hp id ⟨d, .assign x, ty, pos, af, g⟩ = some ⟨fr x, []⟩ := (rfl)
def pickE (c a b : AV) : Option AR := match c with
  | .val (.bool t) => some ⟨if t then a else b, []⟩
  | _ => none
theorem aop_pick {x y z : Operand} : aop P ft fr hp id ⟨d, .pick x y z, ty, pos, af, g⟩ = pickE (fr x) (fr y) (fr z) := (rfl)
theorem pickE_tt (a b : AV) : pickE (.val (.bool true)) a b = some ⟨a, []⟩ := (rfl)
theorem pickE_ff (a b : AV) : pickE (.val (.bool false)) a b = some ⟨b, []⟩ := (rfl)
theorem pickE_t (c b : Bool) : pickE (.val (.bool c)) (.val (.bool true)) (.val (.bool b)) = some ⟨.val (.bool (c || b)), []⟩ := by cases c <;> rfl
theorem pickE_f (c b : Bool) : pickE (.val (.bool c)) (.val (.bool b)) (.val (.bool false)) = some ⟨.val (.bool (c && b)), []⟩ := by cases c <;> rfl
theorem aop_alloc {e : TypeId} : aop P ft fr hp id ⟨d, .alloc e, ty, pos, af, g⟩ = (zeroC P e).map fun zs => ⟨.ptr id 0 0, [(id, some (.row zs.length true [zs]))]⟩ := (rfl)
theorem aop_box {e : TypeId} {x : Operand} : aop P ft fr hp id ⟨d, .box e x, ty, pos, af, g⟩ = if (cellsOf (fr x)).all (oneAV hp) = true ∧ 0 < (cellsOf (fr x)).length then some ⟨.ptr id 0 0, [(id, some (.row (cellsOf (fr x)).length true [cellsOf (fr x)]))]⟩ else none := (rfl)
theorem aop_build {e : TypeId} {x : Array (Nat × Operand)} : aop P ft fr hp id ⟨d, .build e x, ty, pos, af, g⟩ = (buildA P hp e (partsF fr x)).map fun v => ⟨v, []⟩ := (rfl)
theorem aop_buildSlice {e : TypeId} {n : Nat} {x : Array (Nat × Operand)} : aop P ft fr hp id ⟨d, .buildSlice e n x, ty, pos, af, g⟩ = buildSliceA P hp id e n (partsF fr x) := (rfl)
theorem aop_load {e : TypeId} {x : Operand} : aop P ft fr hp id ⟨d, .load e x, ty, pos, af, g⟩ = (cellsP hp (fr x)).bind fun cs => (mkv P e cs).map fun v => ⟨v, []⟩ := (rfl)
theorem aop_store {e : TypeId} {x y : Operand} : aop P ft fr hp id ⟨d, .store e x y, ty, pos, af, g⟩ = (storeP P hp e (fr x) (fr y)).map fun eff => ⟨.any, eff⟩ := (rfl)
theorem aop_fieldAddr {e : TypeId} {x : Operand} {f : Nat} : aop P ft fr hp id ⟨d, .fieldAddr e x f, ty, pos, af, g⟩ = if liveV hp (fr x) = true then (fieldP P e f (fr x)).map fun v => ⟨v, []⟩ else none := (rfl)
theorem aop_indexAddr {e : TypeId} {x y : Operand} : aop P ft fr hp id ⟨d, .indexAddr e x y, ty, pos, af, g⟩ = (indexS P hp e (fr x) (fr y)).map fun v => ⟨v, []⟩ := (rfl)
theorem aop_extract {x : Operand} {i : Nat} : aop P ft fr hp id ⟨d, .extract x i, ty, pos, af, g⟩ = (extractA (fr x) i).map fun v => ⟨v, []⟩ := (rfl)
theorem aop_makeFunc {f : Fn} {x y : Array Operand} : aop P ft fr hp id ⟨d, .makeFunc f x y, ty, pos, af, g⟩ = some ⟨.clo f (x.toList.map fr) (y.toList.map fr), []⟩ := (rfl)
theorem aop_makeInterface {t : TypeId} {x : Operand} : aop P ft fr hp id ⟨d, .makeInterface t x, ty, pos, af, g⟩ = if isNotIface P t = true then some ⟨mkI t (fr x), []⟩ else none := (rfl)
theorem aop_makeMap {t : TypeId} : aop P ft fr hp id ⟨d, .makeMap t none, ty, pos, af, g⟩ = some ⟨.mp id, [(id, some (.mapo []))]⟩ := (rfl)
theorem aop_lookup {t : TypeId} {x y : Operand} : aop P ft fr hp id ⟨d, .lookup t x y false, ty, pos, af, g⟩ = (lookA P t (fr x) (fr y)).map fun v => ⟨v, []⟩ := (rfl)
theorem aop_mapUpdate {t : TypeId} {x y z : Operand} : aop P ft fr hp id ⟨d, .mapUpdate t x y z, ty, pos, af, g⟩ = (updA P hp t (fr x) (fr y) (fr z)).map fun eff => ⟨.any, eff⟩ := (rfl)
theorem aop_makeSlice {t : TypeId} {x y : Operand} : aop P ft fr hp id ⟨d, .makeSlice t x y, ty, pos, af, g⟩ = makeA P id t (fr x) (fr y) := (rfl)
theorem aop_call {f : FuncId} {args : Array Operand} {tys : Array TypeId} : aop P ft fr hp id ⟨d, .call ⟨.value (.func f), args, tys⟩, ty, pos, af, g⟩ = callA ft hp id f (args.toList.map fr) := (rfl)
theorem aop_append {s x : Operand} {t u : TypeId} : aop P ft fr hp id ⟨d, .call ⟨.builtin .append, #[s, x], #[t, u]⟩, ty, pos, af, g⟩ = appendA P hp id t u (fr s) (fr x) := (rfl)
theorem evS_pure {α : Type} (a : α) : evS P (pure a : Sem α) = some a := (rfl)
theorem evS_bind {α β : Type} : ∀ (x : Sem α) (f : α → Sem β), evS P (x >>= f) = (evS P x).bind fun a => evS P (f a) := by
  intro x f
  show evS P (x.bind f) = _
  induction x with
  | pure a => rfl
  | program k ih => exact ih P
  | mark m k ih => exact ih
  | _ => rfl
theorem evS_map {α β : Type} (x : Sem α) (f : α → β) : evS P (f <$> x) = (evS P x).map f := by
  show evS P (x >>= fun a => pure (f a)) = _
  rw [evS_bind]
  cases evS P x <;> rfl
def binV (P : Program) (op : BinOp) (t : TypeId) (x y : Operand) (a b : Value) : Option Value := evS P (do eqGuard op t x y a b; binOp op t a b)
def binE (P : Program) (op : BinOp) (t : TypeId) (x y : Operand) (a b : Option Value) : Option AR := match a, b with
  | some a, some b => (binV P op t x y a b).map fun v => ⟨.val v, []⟩
  | _, _ => none
theorem aop_bin {op : BinOp} {t u : TypeId} {x y : Operand} : aop P ft fr hp id ⟨d, .binOp op t x y u, ty, pos, af, g⟩ = nilB P hp op t (fr x) (fr y) (binE P op t x y (toV (fr x)) (toV (fr y))) := by
  show nilB P hp op t (fr x) (fr y) (plainA P fr _) = _
  congr 1
  unfold plainA plainOp binE
  cases ha : toV (fr x) <;> cases hb : toV (fr y) <;> simp [Op.operands, ha, hb, execOp, evS_bind, evS_pure, binV]
  rename_i a b
  cases evS P (eqGuard op t x y a b) <;> simp [evS_map]
  cases evS P (binOp op t a b) <;> rfl
theorem nilB_val {op : BinOp} {t : TypeId} {v : Value} {y : AV} {r : Option AR} : nilB P hp op t (.val v) y r = r := (rfl)
theorem nilB_agg {op : BinOp} {t : TypeId} {v : List AV} {y : AV} {r : Option AR} : nilB P hp op t (.agg v) y r = r := (rfl)
theorem nilB_ptr {op : BinOp} {t : TypeId} {o i off : Nat} {y : AV} {r : Option AR} : nilB P hp op t (.ptr o i off) y r = if isNilV y = true ∧ isPtrT P t = true ∧ (hp o).isSome = true then nilOp op r else r := (rfl)
theorem nilB_ip {op : BinOp} {t : TypeId} {cs : List AV} {y : AV} {r : Option AR} : nilB P hp op t (.ip cs) y r = if isNilV y = true ∧ isPtrT P t = true then nilOp op r else r := (rfl)
theorem isNilV_nil : isNilV (.val (.pointer none)) = true := (rfl)
theorem nilOp_eql (r : Option AR) : nilOp .eql r = some ⟨.val (.bool false), []⟩ := (rfl)
theorem nilOp_neq (r : Option AR) : nilOp .neq r = some ⟨.val (.bool true), []⟩ := (rfl)
theorem beq_dec {α : Type} [BEq α] [LawfulBEq α] [DecidableEq α] (a b : α) : (a == b) = decide (a = b) := by rw [Bool.eq_iff_iff]; simp
theorem binV_int {op : BinOp} {t : TypeId} {x y : Operand} {k : IntKind} {a b : Int} : binV P op t x y (.int k a) (.int k b) = evS P (binOp op t (.int k a) (.int k b)) := by
  unfold binV eqGuard
  cases op <;> simp [evS_bind, evS_pure]
theorem binV_add {t : TypeId} {x y : Operand} {k : IntKind} {a b : Int} : binV P .add t x y (.int k a) (.int k b) = some (.int k (k.wrap (a + b))) := by rw [binV_int]; simp [binOp, Op.intArith, evS_pure]
theorem binV_sub {t : TypeId} {x y : Operand} {k : IntKind} {a b : Int} : binV P .sub t x y (.int k a) (.int k b) = some (.int k (k.wrap (a - b))) := by rw [binV_int]; simp [binOp, Op.intArith, evS_pure]
theorem binV_mul {t : TypeId} {x y : Operand} {k : IntKind} {a b : Int} : binV P .mul t x y (.int k a) (.int k b) = some (.int k (k.wrap (a * b))) := by rw [binV_int]; simp [binOp, Op.intArith, evS_pure]
theorem binV_eql {t : TypeId} {x y : Operand} {k : IntKind} {a b : Int} : binV P .eql t x y (.int k a) (.int k b) = some (.bool (decide (a = b))) := by rw [binV_int]; simp [binOp, Op.intCmp, evS_pure, beq_dec]
theorem binV_neq {t : TypeId} {x y : Operand} {k : IntKind} {a b : Int} : binV P .neq t x y (.int k a) (.int k b) = some (.bool (decide (a ≠ b))) := by rw [binV_int]; simp [binOp, Op.intCmp, evS_pure, bne, beq_dec]
theorem binV_lss {t : TypeId} {x y : Operand} {k : IntKind} {a b : Int} : binV P .lss t x y (.int k a) (.int k b) = some (.bool (decide (a < b))) := by rw [binV_int]; simp [binOp, Op.intCmp, evS_pure]
theorem binV_leq {t : TypeId} {x y : Operand} {k : IntKind} {a b : Int} : binV P .leq t x y (.int k a) (.int k b) = some (.bool (decide (a ≤ b))) := by rw [binV_int]; simp [binOp, Op.intCmp, evS_pure]
theorem binV_gtr {t : TypeId} {x y : Operand} {k : IntKind} {a b : Int} : binV P .gtr t x y (.int k a) (.int k b) = some (.bool (decide (b < a))) := by rw [binV_int]; simp [binOp, Op.intCmp, evS_pure]
theorem binV_geq {t : TypeId} {x y : Operand} {k : IntKind} {a b : Int} : binV P .geq t x y (.int k a) (.int k b) = some (.bool (decide (b ≤ a))) := by rw [binV_int]; simp [binOp, Op.intCmp, evS_pure]
def sLt (a b : ByteArray) : Bool := Op.bytesLess a.toList b.toList
theorem toList_beq (a b : ByteArray) : (a.toList == b.toList) = decide (a = b) := by
  have : a.toList = b.toList ↔ a = b := by
    rw [ByteArray.toList_eq, ByteArray.toList_eq]
    constructor
    · intro h; cases a; cases b; simp at h; simp [h]
    · intro h; rw [h]
  rw [Bool.eq_iff_iff]; simp [this]
theorem binV_str {op : BinOp} {t : TypeId} {x y : Operand} {a b : ByteArray} : binV P op t x y (.string a) (.string b) = evS P (Op.stringOp op a b) := by
  unfold binV eqGuard
  cases op <;> simp [evS_bind, evS_pure, binOp]
theorem binV_seq {t : TypeId} {x y : Operand} {a b : ByteArray} : binV P .eql t x y (.string a) (.string b) = some (.bool (decide (a = b))) := by rw [binV_str]; simp [Op.stringOp, evS_pure, toList_beq]
theorem binV_sne {t : TypeId} {x y : Operand} {a b : ByteArray} : binV P .neq t x y (.string a) (.string b) = some (.bool (decide (a ≠ b))) := by rw [binV_str]; simp [Op.stringOp, evS_pure, toList_beq]
theorem binV_sge {t : TypeId} {x y : Operand} {a b : ByteArray} : binV P .geq t x y (.string a) (.string b) = some (.bool (!sLt a b)) := by rw [binV_str]; simp [Op.stringOp, evS_pure, sLt]
def unE (P : Program) (op : UnOp) (a : Option Value) : Option AR := match a with
  | some a => (evS P (Op.unary op a)).map fun v => ⟨.val v, []⟩
  | none => none
theorem aop_un {op : UnOp} {t : TypeId} {x : Operand} : aop P ft fr hp id ⟨d, .unOp op t x, ty, pos, af, g⟩ = unE P op (toV (fr x)) := by
  show plainA P fr _ = _
  unfold plainA plainOp unE
  cases ha : toV (fr x) <;> simp [Op.operands, ha, execOp, evS_map, evS_bind, evS_pure]
  cases evS P (Op.unary op _) <;> rfl
theorem unE_not {b : Bool} : unE P .not (some (.bool b)) = some ⟨.val (.bool (!b)), []⟩ := (rfl)
theorem unE_neg {k : IntKind} {n : Int} : unE P .neg (some (.int k n)) = some ⟨.val (.int k (k.wrap (0 - n))), []⟩ := (rfl)
def lenE (P : Program) (hp : AHeap) (t : TypeId) (x : AV) (pl : Option AR) : Option AR := match x with
  | .val (.slice none 0 0) => (lenS P hp t x).map fun v => ⟨v, []⟩
  | .sl _ => (lenS P hp t x).map fun v => ⟨v, []⟩
  | .own _ _ _ => (lenS P hp t x).map fun v => ⟨v, []⟩
  | .val (.string s) => if isStrT P t = true then some ⟨.val (.int .i64 s.size), []⟩ else none
  | _ => pl
theorem toV_val (v : Value) : toV (.val v) = some v := by simp [toV]
end
end Go.Gm
namespace Go.Gm
def anyF : Nat → AV := fun _ => .any
section
variable {P : Program} {N : Nat} {ops rest : List Oper} {d : Option Tmp} {op : Op} {ty : TypeId} {pos : String} {af : Array Edge} {fr : Nat → AV} {hp : AHeap} {nx : Nat} {Q : ASt → Prop}
def arK (P : Program) (N : Nat) (ops rest : List Oper) (d : Option Tmp) (fr : Nat → AV) (hp : AHeap) (nx : Nat) (Q : ASt → Prop) (r : Option AR) : Prop := match r with
  | some r => okD N d = true ∧ arun P N ops rest ⟨putF fr d r.v, applyEff hp r.eff, nx + 8⟩ Q
  | none => False
theorem arK_some {v : AV} {eff : List (Nat × Option AObj)} : arK P N ops rest d fr hp nx Q (some ⟨v, eff⟩) = (okD N d = true ∧ arun P N ops rest ⟨putF fr d v, applyEff hp eff, nx + 8⟩ Q) := (rfl)
theorem ar_o (h : callV (evF fr) ⟨d, op, ty, pos, af, none⟩ = none) : arun P N ops (⟨d, op, ty, pos, af, none⟩ :: rest) ⟨fr, hp, nx⟩ Q = arK P N ops rest d fr hp nx Q (aop P noFt (evF fr) hp nx ⟨d, op, ty, pos, af, none⟩) := by
  simp only [arun, wantedA, h, if_true]
  rfl
theorem ar_move {x : Operand} : arun P N ops (⟨d, .move x, ty, pos, af, none⟩ :: rest) ⟨fr, hp, nx⟩ Q = arK P N ops rest d fr hp nx Q (aop P noFt (evF fr) hp nx ⟨d, .move x, ty, pos, af, none⟩) := ar_o rfl
theorem ar_assign {x : Operand} : arun P N ops (⟨d, .assign x, ty, pos, af, none⟩ :: rest) ⟨fr, hp, nx⟩ Q = arK P N ops rest d fr hp nx Q (aop P noFt (evF fr) hp nx ⟨d, .assign x, ty, pos, af, none⟩) := ar_o rfl
theorem ar_pick {x y z : Operand} : arun P N ops (⟨d, .pick x y z, ty, pos, af, none⟩ :: rest) ⟨fr, hp, nx⟩ Q = arK P N ops rest d fr hp nx Q (aop P noFt (evF fr) hp nx ⟨d, .pick x y z, ty, pos, af, none⟩) := ar_o rfl
theorem ar_alloc {e : TypeId} : arun P N ops (⟨d, .alloc e, ty, pos, af, none⟩ :: rest) ⟨fr, hp, nx⟩ Q = arK P N ops rest d fr hp nx Q (aop P noFt (evF fr) hp nx ⟨d, .alloc e, ty, pos, af, none⟩) := ar_o rfl
theorem ar_box {e : TypeId} {x : Operand} : arun P N ops (⟨d, .box e x, ty, pos, af, none⟩ :: rest) ⟨fr, hp, nx⟩ Q = arK P N ops rest d fr hp nx Q (aop P noFt (evF fr) hp nx ⟨d, .box e x, ty, pos, af, none⟩) := ar_o rfl
theorem ar_build {e : TypeId} {x : Array (Nat × Operand)} : arun P N ops (⟨d, .build e x, ty, pos, af, none⟩ :: rest) ⟨fr, hp, nx⟩ Q = arK P N ops rest d fr hp nx Q (aop P noFt (evF fr) hp nx ⟨d, .build e x, ty, pos, af, none⟩) := ar_o rfl
theorem ar_buildSlice {e : TypeId} {n : Nat} {x : Array (Nat × Operand)} : arun P N ops (⟨d, .buildSlice e n x, ty, pos, af, none⟩ :: rest) ⟨fr, hp, nx⟩ Q = arK P N ops rest d fr hp nx Q (aop P noFt (evF fr) hp nx ⟨d, .buildSlice e n x, ty, pos, af, none⟩) := ar_o rfl
theorem ar_load {e : TypeId} {x : Operand} : arun P N ops (⟨d, .load e x, ty, pos, af, none⟩ :: rest) ⟨fr, hp, nx⟩ Q = arK P N ops rest d fr hp nx Q (aop P noFt (evF fr) hp nx ⟨d, .load e x, ty, pos, af, none⟩) := ar_o rfl
theorem ar_store {e : TypeId} {x y : Operand} : arun P N ops (⟨d, .store e x y, ty, pos, af, none⟩ :: rest) ⟨fr, hp, nx⟩ Q = arK P N ops rest d fr hp nx Q (aop P noFt (evF fr) hp nx ⟨d, .store e x y, ty, pos, af, none⟩) := ar_o rfl
theorem ar_nilCheck {x : Operand} : arun P N ops (⟨d, .nilCheck x, ty, pos, af, none⟩ :: rest) ⟨fr, hp, nx⟩ Q = arK P N ops rest d fr hp nx Q (aop P noFt (evF fr) hp nx ⟨d, .nilCheck x, ty, pos, af, none⟩) := ar_o rfl
theorem ar_fieldAddr {e : TypeId} {x : Operand} {f : Nat} : arun P N ops (⟨d, .fieldAddr e x f, ty, pos, af, none⟩ :: rest) ⟨fr, hp, nx⟩ Q = arK P N ops rest d fr hp nx Q (aop P noFt (evF fr) hp nx ⟨d, .fieldAddr e x f, ty, pos, af, none⟩) := ar_o rfl
theorem ar_indexAddr {e : TypeId} {x y : Operand} : arun P N ops (⟨d, .indexAddr e x y, ty, pos, af, none⟩ :: rest) ⟨fr, hp, nx⟩ Q = arK P N ops rest d fr hp nx Q (aop P noFt (evF fr) hp nx ⟨d, .indexAddr e x y, ty, pos, af, none⟩) := ar_o rfl
theorem ar_index {e : TypeId} {x y : Operand} : arun P N ops (⟨d, .index e x y, ty, pos, af, none⟩ :: rest) ⟨fr, hp, nx⟩ Q = arK P N ops rest d fr hp nx Q (aop P noFt (evF fr) hp nx ⟨d, .index e x y, ty, pos, af, none⟩) := ar_o rfl
theorem ar_slice {e : TypeId} {x : Operand} {l h m : Option Operand} : arun P N ops (⟨d, .slice e x l h m, ty, pos, af, none⟩ :: rest) ⟨fr, hp, nx⟩ Q = arK P N ops rest d fr hp nx Q (aop P noFt (evF fr) hp nx ⟨d, .slice e x l h m, ty, pos, af, none⟩) := ar_o rfl
theorem ar_extract {x : Operand} {i : Nat} : arun P N ops (⟨d, .extract x i, ty, pos, af, none⟩ :: rest) ⟨fr, hp, nx⟩ Q = arK P N ops rest d fr hp nx Q (aop P noFt (evF fr) hp nx ⟨d, .extract x i, ty, pos, af, none⟩) := ar_o rfl
theorem ar_bin {o : BinOp} {t u : TypeId} {x y : Operand} : arun P N ops (⟨d, .binOp o t x y u, ty, pos, af, none⟩ :: rest) ⟨fr, hp, nx⟩ Q = arK P N ops rest d fr hp nx Q (aop P noFt (evF fr) hp nx ⟨d, .binOp o t x y u, ty, pos, af, none⟩) := ar_o rfl
theorem ar_un {o : UnOp} {t : TypeId} {x : Operand} : arun P N ops (⟨d, .unOp o t x, ty, pos, af, none⟩ :: rest) ⟨fr, hp, nx⟩ Q = arK P N ops rest d fr hp nx Q (aop P noFt (evF fr) hp nx ⟨d, .unOp o t x, ty, pos, af, none⟩) := ar_o rfl
theorem ar_convert {s t : TypeId} {x : Operand} : arun P N ops (⟨d, .convert s t x, ty, pos, af, none⟩ :: rest) ⟨fr, hp, nx⟩ Q = arK P N ops rest d fr hp nx Q (aop P noFt (evF fr) hp nx ⟨d, .convert s t x, ty, pos, af, none⟩) := ar_o rfl
theorem ar_makeFunc {f : Fn} {x y : Array Operand} : arun P N ops (⟨d, .makeFunc f x y, ty, pos, af, none⟩ :: rest) ⟨fr, hp, nx⟩ Q = arK P N ops rest d fr hp nx Q (aop P noFt (evF fr) hp nx ⟨d, .makeFunc f x y, ty, pos, af, none⟩) := ar_o rfl
theorem ar_makeInterface {t : TypeId} {x : Operand} : arun P N ops (⟨d, .makeInterface t x, ty, pos, af, none⟩ :: rest) ⟨fr, hp, nx⟩ Q = arK P N ops rest d fr hp nx Q (aop P noFt (evF fr) hp nx ⟨d, .makeInterface t x, ty, pos, af, none⟩) := ar_o rfl
theorem ar_makeMap {t : TypeId} : arun P N ops (⟨d, .makeMap t none, ty, pos, af, none⟩ :: rest) ⟨fr, hp, nx⟩ Q = arK P N ops rest d fr hp nx Q (aop P noFt (evF fr) hp nx ⟨d, .makeMap t none, ty, pos, af, none⟩) := ar_o rfl
theorem ar_lookup {t : TypeId} {x y : Operand} : arun P N ops (⟨d, .lookup t x y false, ty, pos, af, none⟩ :: rest) ⟨fr, hp, nx⟩ Q = arK P N ops rest d fr hp nx Q (aop P noFt (evF fr) hp nx ⟨d, .lookup t x y false, ty, pos, af, none⟩) := ar_o rfl
theorem ar_mapUpdate {t : TypeId} {x y z : Operand} : arun P N ops (⟨d, .mapUpdate t x y z, ty, pos, af, none⟩ :: rest) ⟨fr, hp, nx⟩ Q = arK P N ops rest d fr hp nx Q (aop P noFt (evF fr) hp nx ⟨d, .mapUpdate t x y z, ty, pos, af, none⟩) := ar_o rfl
theorem ar_makeSlice {t : TypeId} {x y : Operand} : arun P N ops (⟨d, .makeSlice t x y, ty, pos, af, none⟩ :: rest) ⟨fr, hp, nx⟩ Q = arK P N ops rest d fr hp nx Q (aop P noFt (evF fr) hp nx ⟨d, .makeSlice t x y, ty, pos, af, none⟩) := ar_o rfl
theorem ar_builtin {b : Builtin} {args : Array Operand} {tys : Array TypeId} : arun P N ops (⟨d, .call ⟨.builtin b, args, tys⟩, ty, pos, af, none⟩ :: rest) ⟨fr, hp, nx⟩ Q = arK P N ops rest d fr hp nx Q (aop P noFt (evF fr) hp nx ⟨d, .call ⟨.builtin b, args, tys⟩, ty, pos, af, none⟩) := ar_o rfl
def arC (P : Program) (N : Nat) (ops rest : List Oper) (d : Option Tmp) (fr : Nat → AV) (hp : AHeap) (nx : Nat) (Q : ASt → Prop) (f : FuncId) (us : List AV) (o : Option (List AV)) : Prop :=
  CallK P f us hp nx o fun v hp' => okD N d = true ∧ arun P N ops rest ⟨putF fr d v, hp', nx + 8⟩ Q
theorem ar_call {f : FuncId} {args : Array Operand} {tys : Array TypeId} : arun P N ops (⟨d, .call ⟨.value (.func f), args, tys⟩, ty, pos, af, none⟩ :: rest) ⟨fr, hp, nx⟩ Q = arC P N ops rest d fr hp nx Q f (args.toList.map (evF fr)) (resL hp (args.toList.map (evF fr))) := by
  simp only [arun, wantedA, callV, if_true]
  rfl
def arV (P : Program) (N : Nat) (ops rest : List Oper) (d : Option Tmp) (fr : Nat → AV) (hp : AHeap) (nx : Nat) (Q : ASt → Prop) (args : List AV) (v : AV) (other : Prop) : Prop := match v with
  | .clo (.func f) first captured => arC P N ops rest d fr hp nx Q f (first ++ args ++ captured) (resL hp (first ++ args ++ captured))
  | _ => other
theorem ar_callV {t : Tmp} {args : Array Operand} {tys : Array TypeId} : arun P N ops (⟨d, .call ⟨.value (.tmp t), args, tys⟩, ty, pos, af, none⟩ :: rest) ⟨fr, hp, nx⟩ Q = arV P N ops rest d fr hp nx Q (args.toList.map (evF fr)) (fr t) (arK P N ops rest d fr hp nx Q (aop P noFt (evF fr) hp nx ⟨d, .call ⟨.value (.tmp t), args, tys⟩, ty, pos, af, none⟩)) := by
  unfold arV
  split
  · rename_i f first captured h
    have hv : callV (evF fr) ⟨d, .call ⟨.value (.tmp t), args, tys⟩, ty, pos, af, none⟩ = some (f, first ++ args.toList.map (evF fr) ++ captured) := by
      simp only [callV, evF, h]
    simp only [arun, wantedA, hv, if_true]
    rfl
  · rename_i h
    refine ar_o ?_
    show (match fr t with
      | .clo (.func f) first captured => some (f, first ++ args.toList.map (evF fr) ++ captured)
      | _ => none) = none
    split
    · rename_i f first captured h2; exact absurd h2 (h f first captured)
    · rfl
theorem arC.of {f : FuncId} {us xs : List AV} {X : AV} (h : PC P f xs X) (he : Enter P f) (hk : okD N d = true ∧ (claimV X nx).2.length ≤ 8 ∧ arun P N ops rest ⟨putF fr d (claimV X nx).1, afterCall us X hp nx, nx + 8⟩ Q) : arC P N ops rest d fr hp nx Q f us (some xs) := .inl ⟨xs, X, rfl, h, he, hk.2.1, hk.1, hk.2.2⟩
theorem arC.ok {f : FuncId} {us : List AV} {o : Option (List AV)} {r : AR} (h : CallOk P f us hp nx r) (he : Enter P f) (hk : okD N d = true ∧ arun P N ops rest ⟨putF fr d r.v, applyEff hp r.eff, nx + 8⟩ Q) : arC P N ops rest d fr hp nx Q f us o := .inr ⟨r, h, he, hk⟩
def gval (fr : Nat → AV) : Option Tmp → AV
  | some d => fr d
  | none => .any
theorem gval_some {d : Tmp} : gval fr (some d) = fr d := (rfl)
def arG (P : Program) (N : Nat) (ops : List Oper) (d : Option Tmp) (op : Op) (ty : TypeId) (pos : String) (af : Array Edge) (rest : List Oper) (fr : Nat → AV) (hp : AHeap) (nx : Nat) (Q : ASt → Prop) (w : AV) (b : Bool) : Prop := match w with
  | .val (.bool c) => if (c == b) = true then arun P N ops (⟨d, op, ty, pos, af, none⟩ :: rest) ⟨fr, hp, nx⟩ Q else okD N d = true ∧ arun P N ops rest ⟨putF fr d (.val undef), hp, nx + 8⟩ Q
  | .val (.tuple _) => okD N d = true ∧ arun P N ops rest ⟨putF fr d (.val undef), hp, nx + 8⟩ Q
  | _ => False
theorem ar_g {j : Nat} {b : Bool} : arun P N ops (⟨d, op, ty, pos, af, some (j, b)⟩ :: rest) ⟨fr, hp, nx⟩ Q = arG P N ops d op ty pos af rest fr hp nx Q (gval fr ((ops[j]?).bind (·.dst))) b := by
  unfold arG
  conv => lhs; unfold arun
  simp only [wantedA]
  cases hj : (ops[j]?).bind (·.dst) with
  | none => simp [gval]
  | some dj =>
    simp only [gval]
    cases hv : fr dj with
    | val v =>
      cases v with
      | bool c =>
        simp only
        by_cases hcb : (c == b) = true
        · rw [if_pos hcb, if_pos hcb, arun]; rfl
        · rw [if_neg hcb, if_neg hcb]
      | tuple vs => simp
      | _ => rfl
    | _ => rfl
theorem arG_tt : arG P N ops d op ty pos af rest fr hp nx Q (.val (.bool true)) true = arun P N ops (⟨d, op, ty, pos, af, none⟩ :: rest) ⟨fr, hp, nx⟩ Q := (rfl)
theorem arG_ff : arG P N ops d op ty pos af rest fr hp nx Q (.val (.bool false)) false = arun P N ops (⟨d, op, ty, pos, af, none⟩ :: rest) ⟨fr, hp, nx⟩ Q := (rfl)
theorem arG_un {b : Bool} : arG P N ops d op ty pos af rest fr hp nx Q (.val undef) b = (okD N d = true ∧ arun P N ops rest ⟨putF fr d (.val undef), hp, nx + 8⟩ Q) := (rfl)
theorem arG_tf : arG P N ops d op ty pos af rest fr hp nx Q (.val (.bool true)) false = (okD N d = true ∧ arun P N ops rest ⟨putF fr d (.val undef), hp, nx + 8⟩ Q) := (rfl)
theorem arG_ft : arG P N ops d op ty pos af rest fr hp nx Q (.val (.bool false)) true = (okD N d = true ∧ arun P N ops rest ⟨putF fr d (.val undef), hp, nx + 8⟩ Q) := (rfl)
end
theorem ar_nil {P : Program} {N : Nat} {ops : List Oper} {fr : Nat → AV} {hp : AHeap} {nx : Nat} {Q : ASt → Prop} : arun P N ops [] ⟨fr, hp, nx⟩ Q = Q ⟨fr, hp, nx⟩ := (rfl)
theorem applyEff_nil (hp : AHeap) : applyEff hp [] = hp := (rfl)
theorem applyEff_cons (hp : AHeap) (t : Nat) (o : Option AObj) (l : List (Nat × Option AObj)) : applyEff hp ((t, o) :: l) = applyEff (upd hp t o) l := (rfl)
section
variable {P : Program} {ft : FuncId → List AV → Option AV} {N : Nat} {ops : List Oper} {rest : List (Nat × Oper)} {A : List (List Nat)} {base i : Nat} {d : Option Tmp} {op : Op} {ty : TypeId} {pos : String} {af : Array Edge} {fr : Nat → AV} {hp : AHeap}
  {acc : List (Nat × List Nat × List Nat)} {Q : (Nat → AV) → AHeap → Prop}
theorem pick_nil : pick ops [] = [] := (rfl)
def pickO (ops : List Oper) (i : Nat) (l : List Nat) (o : Option Oper) : List (Nat × Oper) := match o with
  | some o => (i, o) :: pick ops l
  | none => pick ops l
theorem pick_cons {l : List Nat} : pick ops (i :: l) = pickO ops i l (ops[i]?) := (rfl)
theorem pickO_some {l : List Nat} {o : Oper} : pickO ops i l (some o) = (i, o) :: pick ops l := (rfl)
def adN (P : Program) (ft : FuncId → List AV → Option AV) (N : Nat) (ops : List Oper) (A : List (List Nat)) (base : Nat) (rest : List (Nat × Oper)) (i : Nat) (d : Option Tmp) (fr : Nat → AV) (hp : AHeap) (acc : List (Nat × List Nat × List Nat)) (Q : (Nat → AV) → AHeap → Prop) (o : Oper) : Prop :=
  ∃ f us r T, callV (evF fr) o = some (f, us) ∧ Enter P f ∧ (∀ hp', Agree hp hp' T → CallOk P f us hp' (base + 8 * i) r) ∧ okD N d = true ∧ OkPair A i T (r.eff.map (·.1)) acc ∧
    adrun P ft N ops A base rest (putF fr d r.v) (applyEff hp r.eff) (accE i T (r.eff.map (·.1)) acc) Q
def adK (P : Program) (ft : FuncId → List AV → Option AV) (N : Nat) (ops : List Oper) (A : List (List Nat)) (base : Nat) (rest : List (Nat × Oper)) (i : Nat) (d : Option Tmp) (fr : Nat → AV) (hp : AHeap) (acc : List (Nat × List Nat × List Nat)) (Q : (Nat → AV) → AHeap → Prop) (o : Oper) (T : List Nat) (r : Option AR) : Prop := match r with
  | some r => okD N d = true ∧ OkPair A i T (r.eff.map (·.1)) acc ∧ adrun P ft N ops A base rest (putF fr d r.v) (applyEff hp r.eff) (accE i T (r.eff.map (·.1)) acc) Q
  | none => adN P ft N ops A base rest i d fr hp acc Q o
theorem adK_some {T : List Nat} {o : Oper} {v : AV} {eff : List (Nat × Option AObj)} : adK P ft N ops A base rest i d fr hp acc Q o T (some ⟨v, eff⟩) = (okD N d = true ∧ OkPair A i T (eff.map (·.1)) acc ∧ adrun P ft N ops A base rest (putF fr d v) (applyEff hp eff) (accE i T (eff.map (·.1)) acc) Q) := (rfl)
theorem adK_none {T : List Nat} {o : Oper} : adK P ft N ops A base rest i d fr hp acc Q o T none = adN P ft N ops A base rest i d fr hp acc Q o := (rfl)
theorem ad_o : adrun P ft N ops A base ((i, ⟨d, op, ty, pos, af, none⟩) :: rest) fr hp acc Q = adK P ft N ops A base rest i d fr hp acc Q ⟨d, op, ty, pos, af, none⟩ (touch (evF fr) ⟨d, op, ty, pos, af, none⟩) (aop P ft (evF fr) hp (base + 8 * i) ⟨d, op, ty, pos, af, none⟩) := by
  simp only [adrun, wantedA, if_true]
  rfl
def adG (P : Program) (ft : FuncId → List AV → Option AV) (N : Nat) (ops : List Oper) (A : List (List Nat)) (base : Nat) (d : Option Tmp) (op : Op) (ty : TypeId) (pos : String) (af : Array Edge) (rest : List (Nat × Oper)) (i : Nat) (fr : Nat → AV) (hp : AHeap) (acc : List (Nat × List Nat × List Nat)) (Q : (Nat → AV) → AHeap → Prop) (w : AV) (b : Bool) : Prop := match w with
  | .val (.bool c) => if (c == b) = true then adrun P ft N ops A base ((i, ⟨d, op, ty, pos, af, none⟩) :: rest) fr hp acc Q else okD N d = true ∧ adrun P ft N ops A base rest (putF fr d (.val undef)) hp acc Q
  | .val (.tuple _) => okD N d = true ∧ adrun P ft N ops A base rest (putF fr d (.val undef)) hp acc Q
  | _ => False
theorem ad_g {j : Nat} {b : Bool} : adrun P ft N ops A base ((i, ⟨d, op, ty, pos, af, some (j, b)⟩) :: rest) fr hp acc Q = adG P ft N ops A base d op ty pos af rest i fr hp acc Q (gval fr ((ops[j]?).bind (·.dst))) b := by
  unfold adG
  conv => lhs; unfold adrun
  simp only [wantedA]
  cases hj : (ops[j]?).bind (·.dst) with
  | none => simp [gval]
  | some dj =>
    simp only [gval]
    cases hv : fr dj with
    | val v =>
      cases v with
      | bool c =>
        simp only
        by_cases hcb : (c == b) = true
        · rw [if_pos hcb, if_pos hcb, adrun]; rfl
        · rw [if_neg hcb, if_neg hcb]
      | tuple vs => simp
      | _ => rfl
    | _ => rfl
theorem adG_tt : adG P ft N ops A base d op ty pos af rest i fr hp acc Q (.val (.bool true)) true = adrun P ft N ops A base ((i, ⟨d, op, ty, pos, af, none⟩) :: rest) fr hp acc Q := (rfl)
theorem adG_ff : adG P ft N ops A base d op ty pos af rest i fr hp acc Q (.val (.bool false)) false = adrun P ft N ops A base ((i, ⟨d, op, ty, pos, af, none⟩) :: rest) fr hp acc Q := (rfl)
theorem adG_un {b : Bool} : adG P ft N ops A base d op ty pos af rest i fr hp acc Q (.val undef) b = (okD N d = true ∧ adrun P ft N ops A base rest (putF fr d (.val undef)) hp acc Q) := (rfl)
theorem adG_tf : adG P ft N ops A base d op ty pos af rest i fr hp acc Q (.val (.bool true)) false = (okD N d = true ∧ adrun P ft N ops A base rest (putF fr d (.val undef)) hp acc Q) := (rfl)
theorem adG_ft : adG P ft N ops A base d op ty pos af rest i fr hp acc Q (.val (.bool false)) true = (okD N d = true ∧ adrun P ft N ops A base rest (putF fr d (.val undef)) hp acc Q) := (rfl)
theorem ad_nil : adrun P ft N ops A base [] fr hp acc Q = Q fr hp := (rfl)
theorem okPair_nil {j : Nat} {T W : List Nat} : OkPair A j T W [] = True := by simp [OkPair]
theorem okPair_cons {j k : Nat} {T W t w : List Nat} : OkPair A j T W ((k, t, w) :: acc) = ((k ∈ A.getD j [] ∨ (Disj w T ∧ Disj w W ∧ Disj W t)) ∧ OkPair A j T W acc) := by simp [OkPair]
theorem disj_nil {l : List Nat} : Disj [] l = True := by simp [Disj]
theorem disj_nil2 {l : List Nat} : Disj l [] = True := by simp [Disj]
theorem disj_cons {t : Nat} {l m : List Nat} : Disj (t :: l) m = (t ∉ m ∧ Disj l m) := by simp [Disj]
theorem accE_nil {j : Nat} : accE j [] [] acc = acc := (rfl)
theorem accE_t {j t : Nat} {T W : List Nat} : accE j (t :: T) W acc = (j, t :: T, W) :: acc := (rfl)
theorem accE_w {j t : Nat} {T W : List Nat} : accE j T (t :: W) acc = (j, T, t :: W) :: acc := by cases T <;> rfl
end
def touchO (fr : Operand → AV) : Option Operand → List Nat
  | none => []
  | some x => tidA (fr x)
theorem touchO_none (fr : Operand → AV) : touchO fr none = [] := (rfl)
theorem touchO_some (fr : Operand → AV) (x : Operand) : touchO fr (some x) = tidA (fr x) := (rfl)
section
variable {d : Option Tmp} {ty : TypeId} {pos : String} {af : Array Edge} {g : Option (Nat × Bool)} {fr : Operand → AV}
theorem touch_move {x : Operand} : touch fr ⟨d, .move x, ty, pos, af, g⟩ = [] := (rfl)
theorem touch_assign {x : Operand} : touch fr ⟨d, .assign x, ty, pos, af, g⟩ = [] := (rfl)
theorem touch_un {o : UnOp} {t : TypeId} {x : Operand} : touch fr ⟨d, .unOp o t x, ty, pos, af, g⟩ = tidA (fr x) := by simp [touch, movesO, Op.operands]
theorem touch_bin {o : BinOp} {t u : TypeId} {x y : Operand} : touch fr ⟨d, .binOp o t x y u, ty, pos, af, g⟩ = tidA (fr x) ++ tidA (fr y) := by simp [touch, movesO, Op.operands]
theorem touch_pick {x y z : Operand} : touch fr ⟨d, .pick x y z, ty, pos, af, g⟩ = tidA (fr x) ++ (tidA (fr y) ++ tidA (fr z)) := by simp [touch, movesO, Op.operands]
theorem touch_load {t : TypeId} {x : Operand} : touch fr ⟨d, .load t x, ty, pos, af, g⟩ = tidA (fr x) := by simp [touch, movesO, Op.operands]
theorem touch_nilCheck {x : Operand} : touch fr ⟨d, .nilCheck x, ty, pos, af, g⟩ = tidA (fr x) := by simp [touch, movesO, Op.operands]
theorem touch_store {t : TypeId} {x y : Operand} : touch fr ⟨d, .store t x y, ty, pos, af, g⟩ = tidA (fr x) ++ tidA (fr y) := by simp [touch, movesO, Op.operands]
theorem touch_fieldAddr {t : TypeId} {x : Operand} {f : Nat} : touch fr ⟨d, .fieldAddr t x f, ty, pos, af, g⟩ = tidA (fr x) := by simp [touch, movesO, Op.operands]
theorem touch_indexAddr {t : TypeId} {x y : Operand} : touch fr ⟨d, .indexAddr t x y, ty, pos, af, g⟩ = tidA (fr x) ++ tidA (fr y) := by simp [touch, movesO, Op.operands]
theorem touch_index {t : TypeId} {x y : Operand} : touch fr ⟨d, .index t x y, ty, pos, af, g⟩ = tidA (fr x) ++ tidA (fr y) := by simp [touch, movesO, Op.operands]
theorem touch_extract {x : Operand} {i : Nat} : touch fr ⟨d, .extract x i, ty, pos, af, g⟩ = tidA (fr x) := by simp [touch, movesO, Op.operands]
theorem touch_convert {s t : TypeId} {x : Operand} : touch fr ⟨d, .convert s t x, ty, pos, af, g⟩ = tidA (fr x) := by simp [touch, movesO, Op.operands]
theorem touch_builtin {b : Builtin} {args : Array Operand} {tys : Array TypeId} : touch fr ⟨d, .call ⟨.builtin b, args, tys⟩, ty, pos, af, g⟩ = args.toList.flatMap fun x => tidA (fr x) := by simp [touch, movesO, Op.operands, Call.operands]
theorem touch_call {f : FuncId} {fr : Nat → AV} {args : Array Operand} {tys : Array TypeId} : touch (evF fr) ⟨d, .call ⟨.value (.func f), args, tys⟩, ty, pos, af, g⟩ = args.toList.flatMap fun x => tidA (evF fr x) := by simp [touch, movesO, Op.operands, Call.operands, evF_func, tidA]
theorem touch_slice {t : TypeId} {x : Operand} {l h : Option Operand} : touch fr ⟨d, .slice t x l h none, ty, pos, af, g⟩ = tidA (fr x) ++ (touchO fr l ++ touchO fr h) := by
  cases l <;> cases h <;> simp [touch, movesO, Op.operands, touchO]
theorem touch_build {t : TypeId} {x : List (Nat × Operand)} : touch fr ⟨d, .build t x.toArray, ty, pos, af, g⟩ = x.flatMap fun y => tidA (fr y.2) := by simp [touch, movesO, Op.operands, List.flatMap_map]
theorem touch_buildSlice {t : TypeId} {n : Nat} {x : List (Nat × Operand)} : touch fr ⟨d, .buildSlice t n x.toArray, ty, pos, af, g⟩ = x.flatMap fun y => tidA (fr y.2) := by simp [touch, movesO, Op.operands, List.flatMap_map]
theorem tidA_val (v : Value) : tidA (.val v) = [] := by simp [tidA]
theorem tidA_sl (r : List (List AV)) : tidA (.sl r) = [] := by simp [tidA]
theorem tidA_ip (r : List AV) : tidA (.ip r) = [] := by simp [tidA]
theorem tidA_own (t o l : Nat) : tidA (.own t o l) = [t] := by simp [tidA]
theorem tidA_ptr (t o l : Nat) : tidA (.ptr t o l) = [t] := by simp [tidA]
theorem tidA_agg (l : List AV) : tidA (.agg l) = tidL l := by simp [tidA]
theorem tidA_tup (l : List AV) : tidA (.tup l) = tidL l := by simp [tidA]
theorem tidL_nil : tidL [] = [] := by simp [tidL]
theorem tidL_cons (u : AV) (l : List AV) : tidL (u :: l) = tidA u ++ tidL l := by simp [tidL]
end
section
variable {P : Program} {N : Nat} {Q : Exit → ASt → Prop} {k : ASt → Prop} {st : ASt} {id j : Nat}
theorem thenA_n (h : k st) : thenA k Q .normal st := h
theorem thenA_x (h : Q (.exit id) st) : thenA k Q (.exit id) st := h
theorem thenA_r (h : Q .ret st) : thenA k Q .ret st := h
theorem block_n (h : Q .normal st) : inBlockA id Q .normal st := h
theorem block_r (h : Q .ret st) : inBlockA id Q .ret st := h
theorem block_x (h : Q .normal st) : inBlockA id Q (.exit id) st := by simpa [inBlockA] using h
theorem block_y (hj : (j == id) = false) (h : Q (.exit j) st) : inBlockA id Q (.exit j) st := by
  simp only [inBlockA, beq_eq_false_iff_ne.1 hj, if_false]; exact h
theorem AW.reg {ops : List Oper} {y : Code} (h : arun P N ops ops st (AW P N y Q)) : AW P N (.seq (.region id ops.toArray false) y) Q st := AW.seq (AW.region h)
theorem AW.if {c : Operand} {x y : Code} {b : Bool} (hc : evF st.fr c = .val (.bool b)) (h1 : b = true → AW P N x Q st) (h2 : b = false → AW P N y Q st) : AW P N (.cond c x y) Q st :=
  AW.cond hc (by cases b; exact h2 rfl; exact h1 rfl)
end
def FrLe (fr fr' : Nat → AV) : Prop := ∀ d, fr' d = fr d ∨ fr' d = .any
theorem Ent.refl {N : Nat} {st : ASt} : Ent N st st := fun _ _ _ _ h => h
theorem Ent.trans {N : Nat} {st st' st'' : ASt} (h : Ent N st st') (k : Ent N st' st'') : Ent N st st'' := fun P G a w hc => k P G a w (h P G a w hc)
end Go.Gm
