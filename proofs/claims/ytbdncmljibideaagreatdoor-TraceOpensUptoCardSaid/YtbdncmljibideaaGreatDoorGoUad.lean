import Derived.Test.YtbdncmljibideaaGreatDoorGoUac
import Derived.Scope
import Derived.ProofKit
import Derived.OpenShut
import Derived.JoinedCond
import Derived.WideKeyArgs
import Derived.Deep.Slices
set_option linter.all false
namespace Go.Gm
section
variable {P : Program} {ft : FuncId → List AV → Option AV} {fr : Operand → AV} {hp : AHeap} {id : Nat} {d : Option Tmp} {ty : TypeId} {pos : String} {af : Array Edge} {g : Option (Nat × Bool)}
theorem evS_program : evS P program = some P := (rfl)
theorem plainA_of {o : Oper} {v : Value} (h : o.op.operands.all (fun x => (toV (fr x)).isSome) = true) (he : evS P (execOp (fun x => (toV (fr x)).getD undef) o) = some (.value v)) : plainA P fr o = some ⟨.val v, []⟩ := by
  unfold plainA plainOp; rw [if_pos h, he]; rfl
def lenO (P : Program) (hp : AHeap) (t : TypeId) (x : AV) (pl : Option AR) : Option AR := match x with
  | .val (.slice none 0 0) => if (elemO P t).isSome = true then some ⟨I 0, []⟩ else none
  | .sl rows => if (elemO P t).isSome = true then some ⟨I rows.length, []⟩ else none
  | .own o off n => (lenS P hp t (.own o off n)).map fun v => ⟨v, []⟩
  | .val (.string s) => if isStrT P t = true then some ⟨I s.size, []⟩ else pl
  | _ => pl
theorem plain_len_str {x : Operand} {t : TypeId} {s : ByteArray} (h : fr x = .val (.string s)) (hu : isStrT P t = true) : plainA P fr ⟨d, .call ⟨.builtin .len, #[x], #[t]⟩, ty, pos, af, g⟩ = some ⟨.val (.int .i64 s.size), []⟩ := by
  have hu := isStrT_eq hu
  refine plainA_of (by simp [Op.operands, Call.operands, h, toV_val]) ?_
  simp [execOp, resolve, invoke, builtin, Builtin.len_, evS_bind, evS_pure, evS_map, evS_program, h, toV_val, underlying, hu, evS, goInt]
theorem aop_len {x : Operand} {t : TypeId} : aop P ft fr hp id ⟨d, .call ⟨.builtin .len, #[x], #[t]⟩, ty, pos, af, g⟩ = lenO P hp t (fr x) (plainA P fr ⟨d, .call ⟨.builtin .len, #[x], #[t]⟩, ty, pos, af, g⟩) := by
  show lenA P fr hp _ x t = _
  unfold lenA lenO
  split
  · rename_i h; rw [h]; simp only [lenS, lenOf]; cases elemO P t <;> rfl
  · rename_i rows h; rw [h]; simp only [lenS, lenOf]; cases elemO P t <;> rfl
  · rename_i h; rw [h]
  · rename_i h1 h2 h3
    split
    · exact absurd ‹_› h1
    · exact absurd ‹_› (h2 _)
    · exact absurd ‹_› (h3 _ _ _)
    · rename_i s hs
      split
      · rename_i hu; rw [plain_len_str hs hu]
      · rfl
    · rfl
theorem lenO_nil {t : TypeId} {pl : Option AR} : lenO P hp t (.val (.slice none 0 0)) pl = if (elemO P t).isSome = true then some ⟨I 0, []⟩ else none := (rfl)
theorem lenO_sl {t : TypeId} {rows : List (List AV)} {pl : Option AR} : lenO P hp t (.sl rows) pl = if (elemO P t).isSome = true then some ⟨I rows.length, []⟩ else none := (rfl)
theorem lenO_own {t : TypeId} {o off n : Nat} {pl : Option AR} : lenO P hp t (.own o off n) pl = (lenS P hp t (.own o off n)).map fun v => ⟨v, []⟩ := (rfl)
theorem lenO_str {t : TypeId} {s : ByteArray} {pl : Option AR} : lenO P hp t (.val (.string s)) pl = if isStrT P t = true then some ⟨I s.size, []⟩ else pl := (rfl)
def idxE (s : ByteArray) (i : Int) : Option AR := if 0 ≤ i then (s[i.toNat]?).map fun b => ⟨.val (.int .u8 b.toNat), []⟩ else none
theorem aop_index_str {x y : Operand} {t : TypeId} {s : ByteArray} {k : IntKind} {i : Int} {r : AR} (h : fr x = .val (.string s)) (hy : fr y = .val (.int k i)) (hu : isStrT P t = true) (hr : idxE s i = some r) : aop P ft fr hp id ⟨d, .index t x y, ty, pos, af, g⟩ = some r := by
  show plainA P fr _ = _
  have hu := isStrT_eq hu
  unfold idxE at hr
  split at hr
  · rename_i hi
    cases hb : s[i.toNat]? with
    | none => rw [hb] at hr; cases hr
    | some b =>
      rw [hb] at hr; cases hr
      refine plainA_of (by simp [Op.operands, h, hy, toV_val]) ?_
      simp [execOp, Instr.index, evS_bind, evS_pure, evS_map, evS_program, h, hy, toV_val, underlying, hu, evS, asIntOf, hi, hb]
  · cases hr
end
theorem binE_some {P : Program} {op : BinOp} {t : TypeId} {x y : Operand} {a b : Value} : binE P op t x y (some a) (some b) = (binV P op t x y a b).map fun v => ⟨.val v, []⟩ := (rfl)
theorem initF_ap (us : List AV) (d : Nat) : initF us d = (us[d]?).getD .any := (rfl)
theorem pc_of {P : Program} {f : FuncId} {fn : Func} {c : Code} {us : List AV} {X : AV} {N : Nat} {rs : List ResultVar} (hf : P.funcs[f]? = some fn) (hb : fn.body = some c) (hN : fn.ntmps = N) (hr : fn.results.toList = rs) (hn : us.length ≤ N)
    (h : AW P N c (finA P rs X) ⟨initF us, fun _ => none, 0⟩) : PC P f us X := by
  subst hN; subst hr; exact pc_of_body hf hb hn h
theorem natOf_cast {k : IntKind} {n : Nat} : natOf (.val (.int k (n : Int))) = some n := by simp [natOf]
theorem natOf_0 {k : IntKind} : natOf (.val (.int k 0)) = some 0 := (rfl)
theorem natOf_1 {k : IntKind} : natOf (.val (.int k 1)) = some 1 := (rfl)
theorem fin_of {P : Program} {rs : List ResultVar} {X Y : AV} {e : Exit} {st : ASt} {l : List AV} {ts : List Nat} (he : e = .ret ∨ e = .normal) (hr : resA P st rs = some l) (hs : sealV st.hp (resOf l) = some (Y, ts)) (hn : ts.Nodup) (hY : Y = X) : finA P rs X e st := by
  rcases he with rfl | rfl <;> · simp only [finA, hr, hs]; exact ⟨hY, hn⟩
end Go.Gm
namespace Go.Gm
def Weak (u u' : AV) : Prop := ∀ E v, Rel E u v → Rel E u' v
theorem Weak.of {u u' : AV} (h : u = u') : Weak u u' := fun _ _ k => h ▸ k
theorem Weak.any {u : AV} : Weak u .any := fun _ v _ => .any v
theorem Weak.nil : Weak (.val (.slice none 0 0)) (.sl []) := fun _ _ h => by cases h; exact .sl0 _ _
def FrW (fr fr' : Nat → AV) : Prop := ∀ d, Weak (fr d) (fr' d)
theorem FrW.any {fr : Nat → AV} : FrW fr anyF := fun _ => .any
theorem FrW.put {fr fr' : Nat → AV} {d : Nat} {v : AV} (h : FrW fr fr') (hv : Weak (fr d) v) : FrW fr (upd fr' d v) := fun d' => by
 simp only [upd]; split
 ·rename_i e; subst e; exact hv
 ·exact h d'
theorem FrW.put' {fr fr' : Nat → AV} {d : Nat} {v : AV} (h : FrW fr fr') (hv : fr d = v) : FrW fr (upd fr' d v) := h.put (.of hv)
theorem FrW.refl {fr : Nat → AV} : FrW fr fr := fun _ => .of rfl
def HpLe (hp hp' : AHeap) : Prop := ∀ t, hp' t = hp t ∨ hp' t = none
theorem HpLe.refl {hp : AHeap} : HpLe hp hp := fun _ => .inl rfl
section
variable {P : Program} {G : Ghost P} {hp hp' : AHeap} {al : Nat → Prop} {loc : Nat → Option Loc} {w : World}
theorem Mem.some_ (h : Mem G hp al loc w) (hl : HpLe hp hp') : ∃ loc', Mem G hp' al loc' w ∧ Ext (mkE G.m1 hp al loc w) (mkE G.m1 hp' al loc' w) := by
 classical
 let loc' : Nat → Option Loc := fun t => if hp' t = none then none else loc t
 have hsome : ∀ t l, loc' t = some l → loc t = some l ∧ hp' t = hp t := fun t l h' => by
  simp only [loc'] at h'
  split at h'
  ·cases h'
  ·rename_i hn; rcases hl t with e | e
   ·exact ⟨h', e⟩
   ·exact absurd e hn
 have hmt : ∀ b, mtOf hp' loc' b → mtOf hp loc b := by
  rintro b ⟨t', o', l', h1, h2, h3, h4, h5⟩
  obtain ⟨a, e⟩ := hsome _ _ h3
  exact ⟨t', o', l', e ▸ h1, h2, a, h4, h5⟩
 have x : Ext (mkE G.m1 hp al loc w) (mkE G.m1 hp' al loc' w) := mk_ext (fun _ h => h) (fun t' l' _ hl' => (hsome _ _ hl').1) (Nat.le_refl _) (fun b _ => hmt b) (fun _ _ _ => rfl)
 refine ⟨loc', h.change x (fun t o ho => ?_) (fun t ho => by simp only [loc', ho, if_true]) (fun t l hl' => h.al_ t l (hsome _ _ hl').1) (fun t1 t2 l1 l2 h1 h2 => h.inj _ _ _ _ (hsome _ _ h1).1 (hsome _ _ h2).1) rfl rfl rfl (fun b hb => .inl (hmt b hb)) (fun t l h1 h2 => .inl ⟨t, l, (hsome _ _ h1).1, h2, rfl⟩), x⟩
 rcases hl t with e | e
 ·exact .inl ⟨e ▸ ho, by simp only [loc', ho]; simp, fun _ _ _ => rfl⟩
 ·rw [e] at ho; cases ho
end
theorem conc_iff {P : Program} {G : Ghost P} {N nx : Nat} {fr : Nat → AV} {hp : AHeap} {a : Act} {w : World} : Conc G N ⟨fr, hp, nx⟩ a w ↔ a.defers = [] ∧ a.tmps.size = N ∧ ∃ loc, Mem G hp (fun t => t < nx) loc w ∧ ∀ d, Rel (mkE G.m1 hp (fun t => t < nx) loc w) (fr d) (a.tmps.getD d undef) := Iff.rfl
theorem Ent.st {N nx nx' : Nat} {fr fr' : Nat → AV} {hp hp' : AHeap} (h : FrW fr fr') (hh : HpLe hp hp') (hn : nx ≤ nx') : Ent N ⟨fr, hp, nx⟩ ⟨fr', hp', nx'⟩ := fun P G a w hc => by
 obtain ⟨h1, h2, loc, hM, hr⟩ := conc_iff.1 hc
 obtain ⟨loc', hM1, x1⟩ := hM.some_ hh
 obtain ⟨hM2, x2⟩ := hM1.more (al' := fun t => t < nx') (fun t ht => by omega)
 exact conc_iff.2 ⟨h1, h2, loc', hM2, fun d => h d _ _ (((hr d).ext x1).ext x2)⟩
theorem Ent.w {N nx : Nat} {fr fr' : Nat → AV} {hp : AHeap} (h : FrW fr fr') : Ent N ⟨fr, hp, nx⟩ ⟨fr', hp, nx⟩ := .st h .refl (Nat.le_refl _)
theorem Ent.nilOwn {N nx : Nat} {fr : Nat → AV} {hp : AHeap} (d sz : Nat) (hz : 0 < sz) (hd : fr d = .val (.slice none 0 0)) : Ent N ⟨fr, hp, nx⟩ ⟨upd fr d (.own nx 0 0), upd hp nx (some (.row sz true [])), nx + 1⟩ := fun P G a w hc => by
 obtain ⟨h1, h2, loc, hM, hr⟩ := conc_iff.1 hc
 clear hc
 refine conc_iff.2 ?_
 have hno : hp nx = none := by
  cases ho : hp nx with
  | none => rfl
  | some o => obtain ⟨l, hl, _⟩ := hM.obj nx o ho; exact absurd (hM.al_ nx l hl) (Nat.lt_irrefl _)
 have hl0 := hM.none_ nx hno
 let l0 : Loc := ⟨0, 0, sz, 0⟩
 have hmt : ∀ b, mtOf (upd hp nx (some (.row sz true []))) (upd loc nx (some l0)) b → mtOf hp loc b := by
  rintro b ⟨t', o', l', h1, h2, h3, h4, h5⟩
  by_cases e : t' = nx
  ·subst e; rw [upd_same] at h3; cases h3; exact absurd h5 (Nat.lt_irrefl _)
  ·rw [upd_other _ _ e] at h1 h3; exact ⟨t', o', l', h1, h2, h3, h4, h5⟩
 have x : Ext (mkE G.m1 hp (fun t => t < nx) loc w) (mkE G.m1 (upd hp nx (some (.row sz true []))) (fun t => t < nx + 1) (upd loc nx (some l0)) w) :=
  mk_ext (fun _ h => Nat.lt_succ_of_lt h) (fun t' l' ha hl' => by rwa [upd_other _ _ (Nat.ne_of_lt ha)] at hl') (Nat.le_refl _) (fun b _ => hmt b) (fun _ _ _ => rfl)
 refine ⟨h1, h2, upd loc nx (some l0), hM.change x (fun t o ho => ?_) (fun t ho => ?_) (fun t l hl => ?_) (fun t1 t2 l1 l2 k1 k2 p1 p2 hb => ?_) rfl rfl rfl (fun b hb => .inl (hmt b hb)) (fun t l k1 k2 => ?_), fun d' => ?_⟩
 ·by_cases e : t = nx
  ·subst e; rw [upd_same] at ho; cases ho
   exact .inr ⟨l0, upd_same .., rfl, hz, by simp, by simp [l0], ⟨0, by simp [l0]⟩, fun h => absurd h (Nat.lt_irrefl _)⟩
  ·rw [upd_other _ _ e] at ho; exact .inl ⟨ho, upd_other _ _ e, fun _ _ _ => rfl⟩
 ·by_cases e : t = nx
  ·subst e; rw [upd_same] at ho; cases ho
  ·rw [upd_other _ _ e] at ho; rw [upd_other _ _ e]; exact hM.none_ t ho
 ·by_cases e : t = nx
  ·subst e; exact Nat.lt_succ_self _
  ·rw [upd_other _ _ e] at hl; exact Nat.lt_succ_of_lt (hM.al_ t l hl)
 ·by_cases e1 : t1 = nx
  ·subst e1; rw [upd_same] at k1; cases k1; exact absurd p1 (Nat.lt_irrefl _)
  ·by_cases e2 : t2 = nx
   ·subst e2; rw [upd_same] at k2; cases k2; exact absurd p2 (Nat.lt_irrefl _)
   ·rw [upd_other _ _ e1] at k1; rw [upd_other _ _ e2] at k2; exact hM.inj _ _ _ _ k1 k2 p1 p2 hb
 ·by_cases e : t = nx
  ·subst e; rw [upd_same] at k1; cases k1; exact absurd k2 (Nat.lt_irrefl _)
  ·rw [upd_other _ _ e] at k1; exact .inl ⟨t, l, k1, k2, rfl⟩
 ·by_cases e : d' = d
  ·subst e
   show Rel _ (upd fr d' _ d') _
   rw [upd_same]
   have := hr d'
   have hv := rel_val (show Rel _ (.val (.slice none 0 0)) _ from hd ▸ this)
   rw [hv]
   refine .own (Nat.lt_succ_self _) fun l hl => ?_
   have : l = l0 := by simpa [mkE, upd] using hl.symm
   subst this
   exact ⟨none, 0, rfl, hz, by simp [l0], Nat.le_refl _, fun h => absurd h (Nat.lt_irrefl _)⟩
  ·show Rel _ (upd fr d _ d') _
   rw [upd_other _ _ e]; exact (hr d').ext x
theorem Ent.still {N nx : Nat} {fr : Nat → AV} {hp : AHeap} {x : AV} {t off len : Nat} (d : Nat) (hd : fr d = .own t off len) (hx : resV hp (.own t off len) = some x) : Ent N ⟨fr, hp, nx⟩ ⟨upd fr d x, upd hp t none, nx⟩ := fun P G a w hc => by
 obtain ⟨h1, h2, loc, hM, hr⟩ := conc_iff.1 hc
 clear hc
 refine conc_iff.2 ?_
 obtain ⟨hM', x'⟩ := hM.drop t
 refine ⟨h1, h2, _, hM', fun d' => ?_⟩
 by_cases e : d' = d
 ·subst e
  show Rel _ (upd fr d' x d') _
  rw [upd_same]
  have hb := res_rel (G := G) hM (m := fun b => G.m1 b ∨ mtOf (upd hp t none) (upd loc t none) b) (fun b hb => hb.imp id fun ⟨t', o', l', k1, k2, k3, k4, k5⟩ => by
   by_cases e : t' = t
   ·subst e; rw [upd_same] at k1; cases k1
   ·rw [upd_other _ _ e] at k1 k3; exact ⟨t', o', l', k1, k2, k3, k4, k5⟩) (hd ▸ hr d') hx (fun t1 o1 n1 l he hl hlt => by
    cases he
    rintro (hb | ⟨t', o', l', k1, k2, k3, k4, k5⟩)
    ·exact hM.fgn t l hl hlt hb
    ·by_cases e : t' = t
     ·subst e; rw [upd_same] at k1; cases k1
     ·rw [upd_other _ _ e] at k3; exact e (hM.inj _ _ _ _ k3 hl k5 hlt k4))
  have mv : Move (E0 (fun b => G.m1 b ∨ mtOf (upd hp t none) (upd loc t none) b) w) (mkE G.m1 (upd hp t none) (fun t => t < nx) (upd loc t none) w) :=
   ⟨Nat.le_refl _, fun b _ hn => ⟨fun hm => hn (Or.inr (hm.elim Or.inr Or.inl)), rfl⟩⟩
  refine Rel.move mv ?_ hb
  simp only [resV] at hx
  split at hx
  ·split at hx
   ·rename_i hc; cases hx; simp [inl, hc.2]
   ·cases hx
  ·cases hx
 ·show Rel _ (upd fr d x d') _
  rw [upd_other _ _ e]; exact (hr d').ext x'
end Go.Gm
namespace Go.Gm
def straightA (Q : Exit → ASt → Prop) : Exit → ASt → Prop
  | .goto _, _ => False
  | e, st => Q e st
section
variable {P : Program} {N : Nat} {Q : Exit → ASt → Prop} {st : ASt} {id : Nat}
theorem equal_nil {t e : TypeId} {a : Option Addr} {n c : Nat} (he : elemO P t = some e) (w : World) : (Op.equal t (.slice a n c) (.slice none 0 0)).run P w = .ok a.isNone w := by
  have hu := elemO_eq he
  have : ∀ d, (Op.equalIn (d + 1) t (.slice a n c) (.slice none 0 0)).run P w = .ok a.isNone w := by
    intro d; rw [Op.equalIn]; cases a <;> simp [underlying, hu]
  exact this 9999
theorem nil_run {t e u : TypeId} {x y : Operand} {a : Option Addr} {n c : Nat} (he : elemO P t = some e) (w : World) :
    (do let r ← (do eqGuard .eql t x y (.slice a n c) (.slice none 0 0); binOp .eql t (.slice a n c) (.slice none 0 0)); pure (Next.value r) : Sem Next).run P w = .ok (.value (.bool a.isNone)) w := by
  have h1 : (eqGuard .eql t x y (.slice a n c) (.slice none 0 0)) = pure () := (rfl)
  have h2 : binOp .eql t (.slice a n c) (.slice none 0 0) = (do pure (.bool (← Op.equal t (.slice a n c) (.slice none 0 0)))) := (rfl)
  rw [h1, h2]
  simp [equal_nil he w]
theorem AW.nilq {d1 d2 : Nat} {x : Operand} {rows : List (List AV)} {t e u ty1 ty2 : TypeId} {pos1 pos2 : String} {af1 af2 : Array Edge} {y : Code} (he : elemO P t = some e) (hx : evF st.fr x = .sl rows) (h1 : d1 < N) (h2 : d2 < N)
    (h : ∀ b : Bool, (b = true → rows = []) → AW P N y Q ⟨upd (upd st.fr d1 (.sl rows)) d2 (.val (.bool b)), st.hp, st.nx + 8 + 8⟩) :
    AW P N (.seq (.region id #[⟨some d1, .move x, ty1, pos1, af1, none⟩, ⟨some d2, .binOp .eql t (.tmp d1) (.const (.slice none 0 0)) u, ty2, pos2, af2, none⟩] false) y) Q st := by
  refine AW.seq fun md G a w hc => WP.list ?_
  obtain ⟨c1, c2, loc, hM, hrel⟩ := hc
  have hxr := hx ▸ rel_eval hrel x
  show WL md P _ _ [_, _] a w
  refine WL.op rfl (by intro c e; cases e) ?_
  refine aop_wp (ft := noFt) hM fresh_nx (fun _ _ _ h => by simp [noFt] at h) (rel_eval hrel) (r := ⟨evF st.fr x, []⟩) rfl fun v w1 loc1 hM1 x1 hv => ?_
  obtain ⟨hM1, xx⟩ := hM1.more (al' := fun t => t < st.nx + 8) (fun t ht => by rcases ht with ht | ht <;> omega)
  have hv := hv.ext xx
  obtain ⟨g1, g2⟩ := rel_put (d := some d1) (u := evF st.fr x) (v := v) (by simpa [okD] using h1) c2 (fun d => (hrel d).ext (x1.trans xx)) hv
  refine WL.op rfl (by intro c e; cases e) ?_
  have hslice : ∃ p n c, v = .slice p n c ∧ (p.isNone = true → rows = []) := by
    rw [hx] at hv
    cases hv with
    | sl0 p c => exact ⟨p, 0, c, rfl, fun _ => rfl⟩
    | sl => exact ⟨_, _, _, rfl, fun h => by cases h⟩
  obtain ⟨p, n, c, rfl, hp⟩ := hslice
  have hev : (a.put (some d1) (.slice p n c)).eval (.tmp d1) = .slice p n c := by
    simp [Act.put, Act.eval, c2, h1]
  have hD : Does P (execOp (a.put (some d1) (.slice p n c)).eval ⟨some d2, .binOp .eql t (.tmp d1) (.const (.slice none 0 0)) u, ty2, pos2, af2, none⟩) G (applyEff st.hp []) (fun t => t < st.nx + 8) loc1 w1 (st.nx + 8) ⟨.val (.bool p.isNone), []⟩ := by
    refine does_pure hM1 ?_ (.val _)
    have := nil_run (P := P) (u := u) (x := .tmp d1) (y := .const (.slice none 0 0)) (a := p) (n := n) (c := c) he w1
    simp only [execOp, hev]
    exact this
  refine does_wp hD rfl fun v2 w2 loc2 hM2 x2 hv2 => ?_
  obtain ⟨hM2, xy⟩ := hM2.more (al' := fun t => t < st.nx + 8 + 8) (fun t ht => by rcases ht with ht | ht <;> omega)
  obtain ⟨k1, k2⟩ := rel_put (d := some d2) (u := .val (.bool p.isNone)) (v := v2) (by simpa [okD] using h2) g1 (fun d => (g2 d).ext (x2.trans xy)) (hv2.ext xy)
  refine WL.nil ⟨_, h p.isNone hp, ?_⟩
  refine ⟨by rw [put_defers, put_defers]; exact c1, k1, loc2, hM2, fun d => ?_⟩
  have := k2 d
  simp only [putF, hx] at this
  exact this
end
end Go.Gm
namespace Go.Gm
theorem claimV_val (v : Value) (k : Nat) : claimV (.val v) k = (.val v, []) := by simp [claimV]
theorem claimV_sl (r : List (List AV)) (k : Nat) : claimV (.sl r) k = (.sl r, []) := by simp [claimV]
theorem claimV_fr (sz : Nat) (r : List (List AV)) (k : Nat) : claimV (.fr sz r) k = (.own k 0 r.length, [.row sz true r]) := by simp [claimV]
theorem claimV_agg (l : List AV) (k : Nat) : claimV (.agg l) k = (.agg (claimL l k).1, (claimL l k).2) := by simp [claimV]
theorem claimV_tup (l : List AV) (k : Nat) : claimV (.tup l) k = (.tup (claimL l k).1, (claimL l k).2) := by simp [claimV]
theorem claimL_nil (k : Nat) : claimL [] k = ([], []) := by simp [claimL]
theorem claimL_cons (c : AV) (cs : List AV) (k : Nat) : claimL (c :: cs) k = ((claimV c k).1 :: (claimL cs (k + (claimV c k).2.length)).1, (claimV c k).2 ++ (claimL cs (k + (claimV c k).2.length)).2) := by simp [claimL]
theorem shares_val (v : Value) : shares (.val v) = false := by simp [shares]
theorem shares_sl (r : List (List AV)) : shares (.sl r) = true := by simp [shares]
theorem shares_fr (sz : Nat) (r : List (List AV)) : shares (.fr sz r) = true := by simp [shares]
theorem shares_agg (l : List AV) : shares (.agg l) = sharesL l := by simp [shares]
theorem shares_tup (l : List AV) : shares (.tup l) = sharesL l := by simp [shares]
theorem sharesL_nil : sharesL [] = false := by simp [sharesL]
theorem sharesL_cons (c : AV) (l : List AV) : sharesL (c :: l) = (shares c || sharesL l) := by simp [sharesL]
theorem tidV_own (t o n : Nat) : tidV (.own t o n) = [t] := (rfl)
theorem tidV_val (v : Value) : tidV (.val v) = [] := (rfl)
theorem tidV_sl (r : List (List AV)) : tidV (.sl r) = [] := (rfl)
theorem tidV_ip (r : List AV) : tidV (.ip r) = [] := (rfl)
theorem tidV_agg (r : List AV) : tidV (.agg r) = [] := (rfl)
theorem tidV_any : tidV .any = [] := (rfl)
theorem freezeL_nil (hp : AHeap) : freezeL hp [] = [] := (rfl)
theorem freezeL_cons (hp : AHeap) (t : Nat) (ts : List Nat) : freezeL hp (t :: ts) = match hp t with
    | some (.row sz true rows) => (t, some (.row sz false rows)) :: freezeL hp ts
    | _ => freezeL hp ts := (rfl)
theorem effOf_nil (k : Nat) : effOf [] k = [] := (rfl)
theorem effOf_cons (o : AObj) (os : List AObj) (k : Nat) : effOf (o :: os) k = (k, some o) :: effOf os (k + 1) := (rfl)
theorem afterCall_eq (us : List AV) (X : AV) (hp : AHeap) (nx : Nat) : afterCall us X hp nx = applyEff hp ((if shares X = true then freezeL hp (us.flatMap tidV) else []) ++ effOf (claimV X nx).2 nx) := (rfl)
theorem resV_int (hp : AHeap) (k : IntKind) (n : Int) : resV hp (.val (.int k n)) = some (.val (.int k n)) := (rfl)
theorem resV_bool (hp : AHeap) (b : Bool) : resV hp (.val (.bool b)) = some (.val (.bool b)) := (rfl)
theorem resV_str (hp : AHeap) (s : ByteArray) : resV hp (.val (.string s)) = some (.val (.string s)) := (rfl)
theorem resV_nil (hp : AHeap) : resV hp (.val (.slice none 0 0)) = some (.sl []) := (rfl)
theorem resV_sl (hp : AHeap) (r : List (List AV)) : resV hp (.sl r) = if inlR r = true then some (.sl r) else none := by simp only [resV, inl]; rfl
theorem resV_ip (hp : AHeap) (r : List AV) : resV hp (.ip r) = if inlL r = true then some (.ip r) else none := by simp only [resV, inl]; rfl
theorem resV_agg (hp : AHeap) (r : List AV) : resV hp (.agg r) = if inlL r = true then some (.agg r) else none := by simp only [resV, inl]; rfl
theorem resV_own (hp : AHeap) (t o n : Nat) : resV hp (.own t o n) = match hp t with
    | some (.row _ _ rows) => if o + n ≤ rows.length ∧ inlR ((rows.drop o).take n) = true then some (.sl ((rows.drop o).take n)) else none
    | _ => none := (rfl)
theorem resL_nil (hp : AHeap) : resL hp [] = some [] := (rfl)
theorem resL_cons (hp : AHeap) (u : AV) (us : List AV) : resL hp (u :: us) = match resV hp u, resL hp us with
    | some x, some xs => some (x :: xs)
    | _, _ => none := (rfl)
theorem inl_val (v : Value) : inl (.val v) = true := by simp [inl]
theorem inl_sl (r : List (List AV)) : inl (.sl r) = inlR r := by simp [inl]
theorem inl_ip (r : List AV) : inl (.ip r) = inlL r := by simp [inl]
theorem inlL_nil : inlL [] = true := by simp [inlL]
theorem inlL_cons (c : AV) (l : List AV) : inlL (c :: l) = (inl c && inlL l) := by simp [inlL]
theorem inlR_nil : inlR [] = true := by simp [inlR]
theorem inlR_cons (c : List AV) (l : List (List AV)) : inlR (c :: l) = (inlL c && inlR l) := by simp [inlR]
theorem inlR_map {α : Type} {f : α → List AV} (h : ∀ x, inlL (f x) = true) : ∀ l : List α, inlR (l.map f) = true := fun l => inlR_of fun r hr => by
  obtain ⟨x, _, rfl⟩ := List.mem_map.1 hr; exact h x
theorem sealV_val (hp : AHeap) (v : Value) : sealV hp (.val v) = some (.val v, []) := by simp [sealV]
theorem sealV_sl (hp : AHeap) (r : List (List AV)) : sealV hp (.sl r) = if inlR r = true then some (.sl r, []) else none := by simp [sealV]
theorem sealV_agg (hp : AHeap) (r : List AV) : sealV hp (.agg r) = (sealL hp r).map fun x => (.agg x.1, x.2) := by simp [sealV]
theorem sealV_tup (hp : AHeap) (r : List AV) : sealV hp (.tup r) = (sealL hp r).map fun x => (.tup x.1, x.2) := by simp [sealV]
theorem sealV_own (hp : AHeap) (t o n : Nat) : sealV hp (.own t o n) = match hp t with
    | some (.row sz true rows) => if o = 0 ∧ n = rows.length ∧ inlR rows = true then some (.fr sz rows, [t]) else none
    | _ => none := by simp only [sealV]; rfl
theorem sealL_nil (hp : AHeap) : sealL hp [] = some ([], []) := by simp [sealL]
theorem sealL_cons (hp : AHeap) (u : AV) (us : List AV) : sealL hp (u :: us) = match sealV hp u, sealL hp us with
    | some (x, ts), some (xs, ts') => some (x :: xs, ts ++ ts')
    | _, _ => none := by simp only [sealL]; rfl
theorem resOf_1 (u : AV) : resOf [u] = u := (rfl)
theorem resOf_2 (u v : AV) (l : List AV) : resOf (u :: v :: l) = .tup (u :: v :: l) := (rfl)
open Classical in
noncomputable def tab : List (FuncId × List AV × AV) → FuncId → List AV → Option AV
  | [], _, _ => none
  | (g, xs, X) :: l, f, us => if f = g ∧ us = xs then some X else tab l f us
theorem tab_nil {P : Program} : FtOk P (tab []) := fun _ _ _ h => by cases h
theorem tab_cons {P : Program} {g : FuncId} {xs : List AV} {X : AV} {l : List (FuncId × List AV × AV)} (h : PC P g xs X) (he : Enter P g) (hl : FtOk P (tab l)) : FtOk P (tab ((g, xs, X) :: l)) := fun f us Y hY => by
  simp only [tab] at hY
  split at hY
  · rename_i hc; obtain ⟨rfl, rfl⟩ := hc; cases hY; exact ⟨h, he⟩
  · exact hl f us Y hY
theorem tab_head {f : FuncId} {xs : List AV} {X : AV} {l : List (FuncId × List AV × AV)} : tab ((f, xs, X) :: l) f xs = some X := by simp [tab]
def callR (hp : AHeap) (id : Nat) (us : List AV) (X : Option AV) : Option AR := match X with
  | some X => if (claimV X id).2.length ≤ 8 then some ⟨(claimV X id).1, (if shares X = true then freezeL hp (us.flatMap tidV) else []) ++ effOf (claimV X id).2 id⟩ else none
  | none => none
def callQ (ft : FuncId → List AV → Option AV) (hp : AHeap) (id : Nat) (f : FuncId) (us : List AV) (o : Option (List AV)) : Option AR := match o with
  | some xs => callR hp id us (ft f xs)
  | none => none
theorem callA_eq (ft : FuncId → List AV → Option AV) (hp : AHeap) (id : Nat) (f : FuncId) (us : List AV) : callA ft hp id f us = callQ ft hp id f us (resL hp us) := by
  unfold callA callQ callR
  cases resL hp us <;> rfl
theorem callQ_some (ft : FuncId → List AV → Option AV) (hp : AHeap) (id : Nat) (f : FuncId) (us xs : List AV) : callQ ft hp id f us (some xs) = callR hp id us (ft f xs) := (rfl)
theorem callR_some (hp : AHeap) (id : Nat) (us : List AV) (X : AV) : callR hp id us (some X) = if (claimV X id).2.length ≤ 8 then some ⟨(claimV X id).1, (if shares X = true then freezeL hp (us.flatMap tidV) else []) ++ effOf (claimV X id).2 id⟩ else none := (rfl)
def plf (l : List (Nat × Nat)) : Nat → Option (Nat × Nat) := fun i => l[i]?
def placeL (P : Program) (t : TypeId) : Option (List (Nat × Nat)) := match P.underlying t with
  | some (.struct fields) => fields.toList.mapM (fun f => (P.info? f.type).map fun i => (f.offset, i.size))
  | _ => none
theorem buildA_of {P : Program} {hp : AHeap} {t : TypeId} {zs : List AV} {l : List (Nat × Nat)} {parts : List (Nat × AV)} (hz : zeroC P t = some zs) (hl : placeL P t = some l) : buildA P hp t parts = (fillA hp (plf l) zs parts).map .agg := by
  have : placeF P t = some (plf l) := by
    unfold placeL at hl
    unfold placeF
    split at hl
    · rename_i fields hu
      rw [hu]
      simp only [hl, Option.map_some]
      congr 1
      funext i
      simp [plf]
    · cases hl
  unfold buildA
  rw [hz, this]
theorem fillA_nil (hp : AHeap) (pl : Nat → Option (Nat × Nat)) (cs : List AV) : fillA hp pl cs [] = some cs := (rfl)
theorem fillA_cons (hp : AHeap) (pl : Nat → Option (Nat × Nat)) (cs : List AV) (i : Nat) (u : AV) (r : List (Nat × AV)) : fillA hp pl cs ((i, u) :: r) = match pl i with
    | none => none
    | some (off, sz) => if (cellsOf u).length = sz ∧ off + sz ≤ cs.length ∧ (cellsOf u).all (oneAV hp) = true then fillA hp pl (over cs off (cellsOf u)) r else none := (rfl)
theorem plf_ap (l : List (Nat × Nat)) (i : Nat) : plf l i = l[i]? := (rfl)
theorem cellsOf_val (v : Value) : cellsOf (.val v) = [.val v] := (rfl)
theorem cellsOf_sl (r : List (List AV)) : cellsOf (.sl r) = [.sl r] := (rfl)
theorem cellsOf_own (t o n : Nat) : cellsOf (.own t o n) = [.own t o n] := (rfl)
theorem cellsOf_ptr (t o n : Nat) : cellsOf (.ptr t o n) = [.ptr t o n] := (rfl)
theorem cellsOf_ip (l : List AV) : cellsOf (.ip l) = [.ip l] := (rfl)
theorem cellsOf_agg (l : List AV) : cellsOf (.agg l) = l := (rfl)
theorem oneAV_int (hp : AHeap) (k : IntKind) (n : Int) : oneAV hp (.val (.int k n)) = true := (rfl)
theorem oneAV_bool (hp : AHeap) (b : Bool) : oneAV hp (.val (.bool b)) = true := (rfl)
theorem oneAV_str (hp : AHeap) (s : ByteArray) : oneAV hp (.val (.string s)) = true := (rfl)
theorem oneAV_slice (hp : AHeap) (p : Option Addr) (n c : Nat) : oneAV hp (.val (.slice p n c)) = true := (rfl)
theorem oneAV_ptr0 (hp : AHeap) : oneAV hp (.val (.pointer none)) = true := (rfl)
theorem oneAV_sl (hp : AHeap) (r : List (List AV)) : oneAV hp (.sl r) = true := (rfl)
theorem oneAV_ip (hp : AHeap) (r : List AV) : oneAV hp (.ip r) = true := (rfl)
theorem oneAV_own (hp : AHeap) (t o n : Nat) : oneAV hp (.own t o n) = (hp t).isSome := (rfl)
theorem oneAV_ptr (hp : AHeap) (t o n : Nat) : oneAV hp (.ptr t o n) = (hp t).isSome := (rfl)
theorem over_eq (r : List AV) (off : Nat) (cs : List AV) : over r off cs = r.take off ++ (cs ++ r.drop (off + cs.length)) := (rfl)
theorem storeP_ptr (P : Program) (hp : AHeap) (t : TypeId) (o i off : Nat) (u : AV) : storeP P hp t (.ptr o i off) u = match hp o, szO P t with
    | some (.row sz true rows), some n => match rows[i]? with
      | some r => if (cellsOf u).length = n ∧ off + n ≤ r.length ∧ (cellsOf u).all (oneAV hp) = true then some [(o, some (.row sz true (rows.set i (over r off (cellsOf u)))))] else none
      | none => none
    | _, _ => none := (rfl)
theorem partsF_eq (fr : Operand → AV) (l : List (Nat × Operand)) : partsF fr l.toArray = l.map fun x => (x.1, fr x.2) := (rfl)
theorem forall_map {α : Type} {f : α → List AV} {sz : Nat} (h : ∀ x, (f x).length = sz) (l : List α) : (∀ r ∈ l.map f, r.length = sz) = True := by
  refine eq_true fun r hr => ?_
  obtain ⟨x, _, rfl⟩ := List.mem_map.1 hr
  exact h x
theorem own_sl {hp : AHeap} {t n sz : Nat} {m : Bool} {rows : List (List AV)} (h : hp t = some (.row sz m rows)) (hn : n = rows.length) (hi : inlR rows = true) : resV hp (.own t 0 n) = some (.sl rows) := by
  subst hn
  simp only [resV, h, List.drop_zero, List.take_length]
  rw [if_pos ⟨by omega, hi⟩]
theorem own_fr {hp : AHeap} {t n sz : Nat} {rows : List (List AV)} (h : hp t = some (.row sz true rows)) (hn : n = rows.length) (hi : inlR rows = true) : sealV hp (resOf [.own t 0 n]) = some (.fr sz rows, [t]) := by
  subst hn
  simp only [resOf_1, sealV_own, h]
  rw [if_pos ⟨trivial, trivial, hi⟩]
theorem fin_own {P : Program} {X : AV} {e : Exit} {fr : Nat → AV} {hp : AHeap} {nx t k n sz : Nat} {rows : List (List AV)} (he : e = .ret ∨ e = .normal) (hr : fr t = .own k 0 n) (hh : hp k = some (.row sz true rows)) (hn : n = rows.length) (hi : inlR rows = true) (hX : AV.fr sz rows = X) : finA P [.tmp t] X e ⟨fr, hp, nx⟩ :=
  fin_of (l := [.own k 0 n]) he (by simp only [resA, hr, Option.map_some]) (own_fr hh hn hi) (by simp) hX
section
variable {P : Program} {ft : FuncId → List AV → Option AV} {fr : Operand → AV} {hp : AHeap} {id : Nat} {d : Option Tmp} {ty : TypeId} {pos : String} {af : Array Edge} {g : Option (Nat × Bool)}
theorem aop_slice {t : TypeId} {x : Operand} {lo hi : Option Operand} : aop P ft fr hp id ⟨d, .slice t x lo hi none, ty, pos, af, g⟩ = if isStrV (fr x) = true then plainA P fr ⟨d, .slice t x lo hi none, ty, pos, af, g⟩ else (cutS P hp t (fr x) (lo.map fr) (hi.map fr)).map fun v => ⟨v, []⟩ := (rfl)
theorem isStrV_sl (r : List (List AV)) : isStrV (.sl r) = false := (rfl)
theorem isStrV_own (t o n : Nat) : isStrV (.own t o n) = false := (rfl)
theorem isStrV_nil : isStrV (.val (.slice none 0 0)) = false := (rfl)
theorem isStrV_str (s : ByteArray) : isStrV (.val (.string s)) = true := (rfl)
end
theorem nat_zero : ((0 : Nat) : Int) = 0 := (rfl)
def appO (sz by_ id : Nat) (ys : List (List AV)) (off len o : Nat) (ob : Option AObj) : Option AR := match ob with
  | some (.row sz' true rows) => if sz' = sz ∧ off + len ≤ rows.length ∧ (len + ys.length) * by_ ≤ 140737488355328 ∧ 0 < by_ then
      some ⟨.own id 0 (len + ys.length), [(o, none), (id, some (.row sz true ((rows.drop off).take len ++ ys)))]⟩ else none
  | _ => none
def appS (sz by_ : Nat) (hp : AHeap) (id : Nat) (s : AV) (src : Option (List (List AV))) : Option AR := match src with
  | some ys => match s with
    | .val (.slice none 0 0) => if ys.length * by_ ≤ 140737488355328 ∧ 0 < by_ then some ⟨.own id 0 ys.length, [(id + 1, none), (id, some (.row sz true ys))]⟩ else none
    | .own o off len => appO sz by_ id ys off len o (hp o)
    | _ => none
  | none => none
theorem appendA_of {P : Program} {hp : AHeap} {id : Nat} {t tx e : TypeId} {sz by_ : Nat} {s x : AV} (he : elemO P t = some e) (hi : infoZ P e = some (sz, by_)) : appendA P hp id t tx s x = appS sz by_ hp id s (srcA P hp sz tx x) := by
  unfold appendA appS
  simp only [he, hi]
  rfl
theorem appS_own {sz by_ : Nat} {hp : AHeap} {id o off len : Nat} {ys : List (List AV)} : appS sz by_ hp id (.own o off len) (some ys) = appO sz by_ id ys off len o (hp o) := (rfl)
theorem appO_ok {sz by_ id o len : Nat} {rows ys : List (List AV)} (hl : len = rows.length) (h : len + ys.length ≤ 34359738368) (hb : 0 < by_ ∧ by_ ≤ 4096) : appO sz by_ id ys 0 len o (some (.row sz true rows)) = some ⟨.own id 0 (len + ys.length), [(o, none), (id, some (.row sz true (rows ++ ys)))]⟩ := by
  have : (len + ys.length) * by_ ≤ 34359738368 * 4096 := Nat.mul_le_mul h hb.2
  subst hl
  unfold appO
  refine (if_pos ⟨rfl, by omega, by omega, hb.1⟩).trans ?_
  simp
theorem srcA_own {P : Program} {hp : AHeap} {sz tx o off len : Nat} : srcA P hp sz tx (.own o off len) = match (match hp o with
    | some (.row _ _ rows) => if off + len ≤ rows.length then some ((rows.drop off).take len) else none
    | _ => none), elemO P tx with
  | some rows, some _ => if (∀ r ∈ rows, r.length = sz) then some rows else none
  | _, _ => none := (rfl)
theorem srcA_sl {P : Program} {hp : AHeap} {sz tx : Nat} {rows : List (List AV)} : srcA P hp sz tx (.sl rows) = if (∀ r ∈ rows, r.length = sz) ∧ (elemO P tx).isSome = true then some rows else none := by
  simp only [srcA, rowsOf]
  cases elemO P tx with
  | none => simp
  | some e => simp
theorem srcA_str {P : Program} {hp : AHeap} {sz tx : Nat} {s : ByteArray} : srcA P hp sz tx (.val (.string s)) = if isStrT P tx = true ∧ sz = 1 then some (bytesRows s) else none := (rfl)
end Go.Gm
namespace Go.Gm
def bl (s : ByteArray) : List UInt8 := s.data.toList
theorem bl_len (s : ByteArray) : (bl s).length = s.size := (rfl)
theorem bl_inj {a b : ByteArray} : bl a = bl b ↔ a = b := by
  constructor
  · intro h; cases a; cases b; simp [bl] at h; simp [h]
  · intro h; rw [h]
theorem bl_get (s : ByteArray) (i : Nat) : s[i]? = (bl s)[i]? := by
  unfold bl
  by_cases h : i < s.size
  · have h' : i < s.data.toList.length := h
    rw [getElem?_pos s i h, List.getElem?_eq_getElem h']
    rfl
  · have h' : ¬ i < s.data.toList.length := h
    rw [getElem?_neg s i h, List.getElem?_eq_none (by omega)]
theorem less_eq : ∀ (x y : List UInt8), Op.bytesLess x y = true ↔ x < y
  | [], [] => by simp [Op.bytesLess]
  | _ :: _, [] => by simp [Op.bytesLess]
  | [], _ :: _ => by simp [Op.bytesLess]
  | a :: x, b :: y => by
    have ih := less_eq x y
    simp only [Op.bytesLess, Bool.or_eq_true, decide_eq_true_eq, Bool.and_eq_true, beq_iff_eq, ih]
    exact List.cons_lt_cons_iff.symm
theorem sLt_iff {a b : ByteArray} : sLt a b = true ↔ bl a < bl b := by
  unfold sLt; rw [less_eq, ByteArray.toList_eq, ByteArray.toList_eq]; rfl
section
variable {P : Program} {ft : FuncId → List AV → Option AV} {fr : Operand → AV} {hp : AHeap} {id : Nat} {d : Option Tmp} {ty : TypeId} {pos : String} {af : Array Edge} {g : Option (Nat × Bool)}
abbrev U8 (b : UInt8) : AV := .val (.int .u8 (b.toNat : Int))
def idxO (P : Program) (t : TypeId) (x y : AV) (pl : Option AR) : Option AR := match x, y with
  | .val (.string s), .val (.int _ i) => if isStrT P t = true ∧ (idxE s i).isSome = true then idxE s i else pl
  | _, _ => pl
theorem aop_index {x y : Operand} {t : TypeId} : aop P ft fr hp id ⟨d, .index t x y, ty, pos, af, g⟩ = idxO P t (fr x) (fr y) (plainA P fr ⟨d, .index t x y, ty, pos, af, g⟩) := by
  unfold idxO
  split
  · rename_i s k i hx hy
    split
    · rename_i hc
      obtain ⟨r, hr⟩ := Option.isSome_iff_exists.1 hc.2
      rw [aop_index_str hx hy hc.1 hr, hr]
    · rfl
  · rfl
theorem idxO_nat {t : TypeId} {s : ByteArray} {k : IntKind} {n : Nat} {pl : Option AR} : idxO P t (.val (.string s)) (.val (.int k (n : Int))) pl = if isStrT P t = true ∧ ((bl s)[n]?).isSome = true then ((bl s)[n]?).map fun b => ⟨U8 b, []⟩ else pl := by
  have h0 : (0 : Int) ≤ (n : Int) := by omega
  simp only [idxO, idxE, Int.toNat_natCast, bl_get, h0, if_true]
  cases (bl s)[n]? <;> simp
end
end Go.Gm
namespace Go.Gm
mutual
def norm : AV → AV
  | .val (.slice none 0 0) => .sl []
  | .val (.func f ⟨[]⟩ ⟨[]⟩) => .clo f [] []
  | .sl rows => .sl (normR rows)
  | .agg cs => .agg (normL cs)
  | .tup cs => .tup (normL cs)
  | .ip cs => .ip (normL cs)
  | u => u
def normL : List AV → List AV
  | [] => []
  | c :: cs => norm c :: normL cs
def normR : List (List AV) → List (List AV)
  | [] => []
  | r :: rs => normL r :: normR rs
end
theorem normL_append : ∀ (a b : List AV), normL (a ++ b) = normL a ++ normL b
  | [], b => by simp [normL]
  | c :: cs, b => by simp [normL, normL_append cs b]
theorem normL_length : ∀ (a : List AV), (normL a).length = a.length
  | [] => by simp [normL]
  | c :: cs => by simp [normL, normL_length cs]
theorem normR_length : ∀ (a : List (List AV)), (normR a).length = a.length
  | [] => by simp [normR]
  | c :: cs => by simp [normR, normR_length cs]
theorem normR_flatten : ∀ (a : List (List AV)), (normR a).flatten = normL a.flatten
  | [] => by simp [normR, normL]
  | c :: cs => by simp [normR, normR_flatten cs, normL_append]
theorem normR_sz : ∀ {a : List (List AV)} {sz : Nat}, (∀ r ∈ a, r.length = sz) → ∀ r ∈ normR a, r.length = sz
  | [], _, _, r, hr => by simp [normR] at hr
  | c :: cs, sz, h, r, hr => by
    simp only [normR, List.mem_cons] at hr
    rcases hr with rfl | hr
    · rw [normL_length]; exact h c (by simp)
    · exact normR_sz (fun x hx => h x (by simp [hx])) r hr
mutual
theorem rel_norm {E : Env} : ∀ {u : AV} {v : Value}, Rel E u v → Rel E (norm u) v
  | _, _, .any v => by simp only [norm]; exact .any v
  | _, _, .val v => by
    unfold norm
    split
    · rename_i h; cases h; exact .sl0 _ _
    · rename_i h; cases h; exact .clo (f' := []) (c' := []) .nil .nil
    · rename_i h; cases h
    · rename_i h; cases h
    · rename_i h; cases h
    · rename_i h; cases h
    · exact .val v
  | _, _, .agg hl => by simp only [norm]; exact .agg (relL_norm hl)
  | _, _, .tup hl => by simp only [norm]; exact .tup (relL_norm hl)
  | _, _, .sl0 a c => by simp only [norm, normR]; exact .sl0 a c
  | _, _, .sl (rows := rows) hb hm hr hsz h0 hcap h1 hc hl => by
    simp only [norm]
    have hlen := normR_length rows
    rw [← hlen] at hcap ⊢
    exact .sl hb hm (fun h => hr (by rw [h] at hlen; exact List.eq_nil_of_length_eq_zero hlen.symm)) (normR_sz hsz) h0 hcap h1 hc (by rw [normR_flatten]; exact relL_norm hl)
  | _, _, .own ha h => by simp only [norm]; exact .own ha h
  | _, _, .ptr ha h => by simp only [norm]; exact .ptr ha h
  | _, _, .ip hb hm h1 hc hl => by simp only [norm]; exact .ip hb hm h1 hc (relL_norm hl)
  | _, _, .clo hf hc => by simp only [norm]; exact .clo hf hc
  | _, _, .ifc hu => by simp only [norm]; exact .ifc hu
  | _, _, .mp ha h => by simp only [norm]; exact .mp ha h
  | _, _, .im hb hm h he => by simp only [norm]; exact .im hb hm h he
  | _, _, .im0 => by simp only [norm]; exact .im0
theorem relL_norm {E : Env} : ∀ {us : List AV} {vs : List Value}, RelL E us vs → RelL E (normL us) vs
  | _, _, .nil => by simp only [normL]; exact .nil
  | _, _, .cons h hs => by simp only [normL]; exact .cons (rel_norm h) (relL_norm hs)
end
theorem PC.norm {P : Program} {f : FuncId} {us xs : List AV} {X : AV} (h : PC P f xs X) (hx : normL us = xs) : PC P f us X := fun m w vs hm ht hr => h m w vs hm ht (hx ▸ relL_norm hr)
end Go.Gm
namespace Go.Gm
open Go.ChangeShapes Go.WideShapes Go.ChangeAt Go.RowKit Go.Deep
structure BulkOk (B : (H : Type) → DataW H → Nat) : Prop where
 str : ∀ {H : Type} (bs : List UInt8), bs.length ≤ B H (.lit (.string bs))
 len : ∀ {H : Type} (l s : List (DataW H)), l.length ≤ B H (.slice l s)
 elem : ∀ {H : Type} (l s : List (DataW H)) (d : DataW H), d ∈ l → B H d ≤ B H (.slice l s)
 part : ∀ {H : Type} (l : List (DataW H)) (d : DataW H), d ∈ l → B H d ≤ B H (.agg l)
 ptr : ∀ {H : Type} (d : DataW H), B H d ≤ B H (.ptr d)
abbrev W0 (w : World) : Env := E0 (fun _ => False) w
theorem w0_mt {w : World} {b : Nat} : ¬ (W0 w).mt b := by
 rintro (⟨t, o, l, h, _⟩ | h)
 ·cases h
 ·exact h
variable {B : (H : Type) → DataW H → Nat} {P : Program}
def TypR {α : Type} (B : (H : Type) → DataW H → Nat) (P : Program) (t : TypeId) (enc : α → List AV) (V : Nat → α → Prop) : Prop :=
 ∀ {H : Type} (e : TypeId × Value → H) (w : World) (fuel : Nat) (cs : List Value) (d : DataW H) (ps : List MemPlace),
  DataW.trod e P w 0 (fun _ => true) true fuel t cs = some (d, ps) → ∃ x : α, RelL (W0 w) (enc x) cs ∧ (∀ v ∈ cs, v.oneCell' = true) ∧ ∀ n, B H d ≤ n → V n x
theorem typ_int {t : TypeId} {k : IntKind} (ht : P.underlying t = some (.int k)) : TypR B P t (fun n : Int => [.val (.int k n)]) (fun _ n => k.min ≤ n ∧ n ≤ k.max) := fun e w fuel cs d ps h => by
 obtain ⟨n, rfl, _, hw⟩ := DataW.trod_int ht h
 refine ⟨n, .cons (.val _) .nil, by simp [Value.oneCell'], fun _ _ => ?_⟩
 simpa [Lit.wf] using hw
theorem cells_at {w : World} {base b o n : Nat} {cs : List Value} {s : Option Nat} (h : w.cells? base ⟨b, o, s⟩ n = some cs) (h0 : 0 < n) : s = none ∧ cs.length = n ∧ ∀ k v, cs[k]? = some v → w.cell? ⟨b, o + k, none⟩ = some v := by
 obtain ⟨hb, hl, hc⟩ := World.cells?_some h
 have hs : s = none := by
  have h1 := hc 0 h0
  cases s with
  | none => rfl
  | some q =>
   have : w.cell? ((⟨b, o, some q⟩ : Addr).add 0) = none := by
    simp only [Addr.add, if_true, World.cell?]
    cases w.heap[b]? with
    | none => rfl
    | some ob => cases ob <;> simp
   rw [this] at h1
   have := List.getElem?_eq_none_iff.1 h1.symm
   omega
 subst hs
 refine ⟨rfl, hl, fun k v hk => ?_⟩
 have hlt : k < n := by have := (List.getElem?_eq_some_iff.1 hk).1; omega
 have := hc k hlt
 rw [add_none] at this
 rw [this, hk]
theorem typ_slice {α : Type} (hB : BulkOk B) {t e : TypeId} {enc : α → List AV} {V : Nat → α → Prop} (ht : P.underlying t = some (.slice e)) (he : TypR B P e enc V) {sz : Nat} (hc : P.cellsOf e = sz) (h0 : 0 < sz) :
  TypR B P t (fun l : List α => [.sl (l.map enc)]) (fun n l => l.length ≤ n ∧ ∀ x ∈ l, V n x) := fun en w fuel cs d ps h => by
 rcases open_slice ht h with ⟨rfl, _⟩ | ⟨a, len, cap, m, n, D, Pl, rfl, hb, hl, hm, hmm, hx, hel⟩
 ·refine ⟨[], .cons (.sl0 _ _) .nil, by simp [Value.oneCell'], fun n hn => ⟨Nat.zero_le _, fun x hx => by cases hx⟩⟩
 ·subst hc
  have hmc : m = cap := by simpa using hmm
  subst hmc
  have hex : ∀ i, i < len → ∃ x : α, ∃ cs', w.cells? 0 (a.add (i * P.cellsOf e)) (P.cellsOf e) = some cs' ∧ RelL (W0 w) (enc x) cs' ∧ (∀ v ∈ cs', v.oneCell' = true) ∧ ∀ n, B _ (D i) ≤ n → V n x := fun i hi => by
   obtain ⟨cs', h1, h2⟩ := hel i (by omega)
   obtain ⟨x, h3, h4, h5⟩ := he en w n cs' (D i) (Pl i) h2
   exact ⟨x, cs', h1, h3, h4, h5⟩
  obtain ⟨b, o, s⟩ := a
  by_cases hz : len = 0
  ·subst hz
   refine ⟨[], .cons (.sl0 _ _) .nil, by simp [Value.oneCell'], fun n hn => ⟨Nat.zero_le _, fun x hx => by cases hx⟩⟩
  ·have hs : s = none := by
    obtain ⟨x, cs', h1, _⟩ := hex 0 (by omega)
    simp only [Nat.zero_mul] at h1
    have : (⟨b, o, s⟩ : Addr).add 0 = ⟨b, o, s⟩ := rfl
    rw [this] at h1
    exact (cells_at h1 h0).1
   subst hs
   -- the list
   have hlist : ∀ k, k ≤ len → ∃ (l : List α) (vs : List Value), l.length = k ∧ (∀ x ∈ l, (enc x).length = P.cellsOf e) ∧ RelL (W0 w) (l.map enc).flatten vs ∧ (∀ v ∈ vs, v.oneCell' = true) ∧ (∀ j v, vs[j]? = some v → w.cell? ⟨b, o + j, none⟩ = some v) ∧ vs.length = k * P.cellsOf e ∧
     ∀ x ∈ l, ∃ i, i < len ∧ ∀ n, B _ (D i) ≤ n → V n x := by
    intro k
    induction k with
    | zero => intro _; exact ⟨[], [], rfl, by simp, .nil, by simp, by simp, by simp, by simp⟩
    | succ k ih =>
     intro hk
     obtain ⟨l, vs, g1, g2, g3, g4, g5, g6, g7⟩ := ih (by omega)
     obtain ⟨x, cs', h1, h2, h3, h4⟩ := hex k (by omega)
     rw [add_none] at h1
     obtain ⟨_, hlen, hcell⟩ := cells_at h1 h0
     refine ⟨l ++ [x], vs ++ cs', by simp [g1], ?_, ?_, ?_, ?_, by rw [List.length_append, g6, hlen, Nat.succ_mul], ?_⟩
     ·intro y hy
      rcases List.mem_append.1 hy with hy | hy
      ·exact g2 y hy
      ·simp at hy; subst hy; rw [h2.length]; exact hlen
     ·simp only [List.map_append, List.map_cons, List.map_nil, List.flatten_append, List.flatten_cons, List.flatten_nil, List.append_nil]
      exact g3.append h2
     ·intro v hv
      rcases List.mem_append.1 hv with hv | hv
      ·exact g4 v hv
      ·exact h3 v hv
     ·intro j v hj
      by_cases hlt : j < vs.length
      ·rw [List.getElem?_append_left hlt] at hj; exact g5 j v hj
      ·rw [List.getElem?_append_right (by omega)] at hj
       have := hcell _ _ hj
       rw [g6] at this hlt
       rw [show o + j = o + k * P.cellsOf e + (j - k * P.cellsOf e) by omega]
       exact this
     ·intro y hy
      rcases List.mem_append.1 hy with hy | hy
      ·exact g7 y hy
      ·simp at hy; subst hy; exact ⟨k, by omega, h4⟩
   obtain ⟨l, vs, g1, g2, g3, g4, g5, g6, g7⟩ := hlist len (Nat.le_refl _)
   have hne : l.map enc ≠ [] := by
    intro hh; have := congrArg List.length hh; simp at this; rw [this] at g1; exact hz g1.symm
   have hblt : b < (W0 w).w.heap.size := by
    cases vs with
    | nil => simp at g6; have := Nat.mul_pos (Nat.pos_of_ne_zero hz) h0; omega
    | cons v vs =>
     have := g5 0 v rfl
     simp only [World.cell?] at this
     show b < w.heap.size
     cases hq : w.heap[b]? with
     | none => simp [hq] at this
     | some ob => exact (Array.getElem?_eq_some_iff.1 hq).1
   have hR : Rel (W0 w) (.sl (l.map enc)) (.slice (some ⟨b, o, none⟩) (l.map enc).length m) :=
    .sl (sz := P.cellsOf e) hblt w0_mt hne (fun r hr => by obtain ⟨x, hx, rfl⟩ := List.mem_map.1 hr; exact g2 x hx) h0 (by simp [g1]; exact hl) g4 g5 g3
   rw [List.length_map, g1] at hR
   refine ⟨l, .cons hR .nil, by simp [Value.oneCell'], fun n hn => ?_⟩
   have hd : d = .slice ((List.range len).map D) ((List.range (m - len)).map fun j => D (len + j)) := (Prod.mk.inj hx).1
   subst hd
   refine ⟨?_, fun x hx => ?_⟩
   ·have := hB.len ((List.range len).map D) ((List.range (m - len)).map fun j => D (len + j))
    simp at this
    omega
   ·obtain ⟨i, hi, hV⟩ := g7 x hx
    exact hV n (Nat.le_trans (hB.elem _ _ (D i) (List.mem_map.2 ⟨i, by simpa using hi, rfl⟩)) hn)
def FldR {α : Type} (B : (H : Type) → DataW H → Nat) (P : Program) (L : Nat) (fs : List (TypeId × Nat)) (o : Nat) (enc : α → List AV) (V : Nat → α → Prop) : Prop :=
 ∀ {H : Type} (e : TypeId × Value → H) (w : World) (fuel : Nat) (cs : List Value) (ds : List (DataW H × List MemPlace)), cs.length = L → ds.length = fs.length →
  (∀ (i : Nat) (f : TypeId × Nat), fs[i]? = some f → DataW.trod e P w 0 (fun _ => true) true fuel f.1 ((cs.drop f.2).take (P.cellsOf f.1)) = ds[i]?) →
  ∃ x : α, RelL (W0 w) (enc x) (cs.drop o) ∧ (∀ v ∈ cs.drop o, v.oneCell' = true) ∧ ∀ n, (∀ d ∈ ds, B H d.1 ≤ n) → V n x
def isAg : TypeDesc → Bool
 | .struct _ => true
 | .array _ _ => true
 | _ => false
def wrapA (ag : Bool) (cs : List AV) : List AV := if ag then [.agg cs] else cs
def ArgR {α : Type} (B : (H : Type) → DataW H → Nat) (P : Program) (ts : List TypeId) (enc : α → List AV) (V : Nat → α → Prop) : Prop :=
 ∀ {H : Type} (e : TypeId × Value → H) (w : World) (base : Nat) (vs : List Value) (ds : List (DataW H)) (ps : List MemPlace), (∀ (j : Nat) t v, ts[j]? = some t → vs[j]? = some v → Value.okWide P w .any base t v) →
  DataW.TrodAll e P w 0 (fun _ => true) true ts vs ds ps → ∃ x : α, RelL (W0 w) (enc x) vs ∧ ∀ n, (∀ d ∈ ds, B H d ≤ n) → V n x
theorem arg_nil : ArgR B P [] (fun _ : Unit => []) (fun _ _ => True) := fun e w base vs ds ps _ h => by
 obtain ⟨rfl, rfl, rfl⟩ := trodAll_nil h
 exact ⟨(), .nil, fun _ _ => trivial⟩
theorem arg_cons {α β : Type} {t : Nat} {d : TypeDesc} {ag : Bool} {ts : List TypeId} {enc1 : α → List AV} {enc2 : β → List AV} {V1 : Nat → α → Prop} {V2 : Nat → β → Prop} (hu : P.underlying t = some d) (ha : isAg d = ag) (h1 : TypR B P t enc1 V1) (h2 : ArgR B P ts enc2 V2) :
  ArgR B P (t :: ts) (fun x : α × β => wrapA ag (enc1 x.1) ++ enc2 x.2) (fun n x => V1 n x.1 ∧ V2 n x.2) := fun e w base vs ds ps hok h => by
 obtain ⟨v, vs', d', ds', p, q, rfl, rfl, rfl, ⟨fuel, hd⟩, hr⟩ := trodAll_cons h
 obtain ⟨x, g1, g2, g3⟩ := h1 e w fuel _ d' p hd
 obtain ⟨y, k1, k2⟩ := h2 e w base vs' ds' q (fun j t v ht hv => hok (j + 1) t v (by simpa using ht) (by simpa using hv)) hr
 have hv := hok 0 t v rfl rfl
 refine ⟨(x, y), RelL.append (vs := [v]) ?_ k1, fun n hn => ⟨g3 n (hn d' (by simp)), k2 n fun d hd => hn d (by simp [hd])⟩⟩
 subst ha
 unfold wrapA
 cases hag : isAg d with
 | true =>
  rw [if_pos rfl]
  have : ∃ cs, v = .agg cs := by
   unfold Value.okWide at hv
   rw [hu] at hv
   cases d <;> simp [isAg] at hag
   ·obtain ⟨cs, h, _⟩ := hv; exact ⟨cs, h⟩
   ·obtain ⟨cs, h, _⟩ := hv; exact ⟨cs, h⟩
  obtain ⟨cs, rfl⟩ := this
  exact .cons (.agg g1) .nil
 | false =>
  simp only [Bool.false_eq_true, if_false]
  have : v.cells.toList = [v] := by
   unfold Value.okWide at hv
   rw [hu] at hv
   cases d <;> simp [isAg] at hag <;> (simp only [Cell.okWide, hu] at hv) <;> (cases v <;> simp_all [Cell.ok, Value.cells])
  rw [this] at g1
  exact g1
theorem post_same {H : Type} {enc : TypeId × Value → H} {f : Func} {s : ChangeSpec} {apart fresh handsOn again : Bool} {W W' : World} {args : Array Value} {v : Value} {ds gs : List (DataW H)} {before pa pv : List MemPlace}
  (hW : DataW.Whole enc P f.params.toList s.vars apart W args.toList ds gs before)
  (hres : ∀ (b : Nat) (sp : Nat → Bool) (hd : Bool), DataW.TrodAll enc P W' b sp hd f.resultTypes.toList (v.resultList f.resultTypes.size) (s.fn H (ds ++ gs)).results [])
  (hargs : ∀ sp : Nat → Bool, (∀ p ∈ before, sp p.block = true) → DataW.TrodAll enc P W' 0 sp true f.params.toList args.toList (s.fn H (ds ++ gs)).args pa)
  (hvars : ∀ sp : Nat → Bool, (∀ p ∈ before, sp p.block = true) → DataW.TrodVars enc P W' sp s.vars (s.fn H (ds ++ gs)).vars pv)
  (hps : before = pa ++ pv) (hk : W.keptBut W' (· ∈ before)) (hfz : ∀ a : Addr, a.block < W.heap.size → W'.frozen? a = W.frozen? a)
  (hok : ∀ (j : Nat) (t : TypeId) (r : Value), f.resultTypes[j]? = some t → (v.resultList f.resultTypes.size)[j]? = some r → Value.okWide P W' .any 0 t r) :
  s.post enc P f apart fresh handsOn again W args v W' := by
 have hold : ∀ p ∈ before, (fun b => decide (b < W.heap.size)) p.block = true := fun p hp => by simpa using hW.lt p hp
 refine ⟨ds, gs, before, [], pa, pv, hW, hres _ _ _, hargs _ hold, hvars _ hold, World.keptBut_mono (fun p hp => ⟨hp, ?_⟩) hk, fun _ => ?_⟩
 ·rw [hps, List.mem_append] at hp
  exact Or.inr hp
 ·have hlt := hW.lt
  obtain ⟨_, _, _, _, _, hz, hn⟩ := hW
  refine ⟨hok, _, _, ([] ++ pa) ++ pv, ⟨[] ++ pa, pv, trodAll_append (hargs _ (fun _ _ => rfl)) (hres _ _ _), hvars _ (fun _ _ => rfl), rfl, ?_, ?_⟩, ?_⟩
  ·intro b off hp
   have hb : MemPlace.cell b off ∈ before := by rw [hps]; simpa using hp
   rw [hfz _ (hlt _ hb)]
   exact hz b off hb
  ·intro ha
   have := hn ha
   rw [hps] at this
   simpa using this
  ·intro p hp _
   rw [hps]
   simpa using hp
theorem trodAll_stays {H : Type} {enc : TypeId × Value → H} (hl : laidOutB P = true) {W W' : World} (hb : ∀ b, b < W.heap.size → W'.heap[b]? = W.heap[b]?) (sp : Nat → Bool) :
  ∀ {ts : List TypeId} {vs : List Value} {ds : List (DataW H)} {ps : List MemPlace}, (∀ t ∈ ts, P.readableRec t = true ∧ t < P.types.size) → DataW.TrodAll enc P W 0 (fun _ => true) true ts vs ds ps → (∀ p ∈ ps, p.block < W.heap.size) → (∀ p ∈ ps, sp p.block = true) →
   DataW.TrodAll enc P W' 0 sp true ts vs ds ps
 | [], _, _, _, _, h, _, _ => by
  obtain ⟨rfl, rfl, rfl⟩ := trodAll_nil h
  exact trodAll_mk0
 | t :: ts, _, _, _, ht, h, hlt, hs => by
  obtain ⟨v, vs', d, ds', p, q, rfl, rfl, rfl, h1, h2⟩ := trodAll_cons h
  refine ⟨p, q, WideElems.Trod_stays hl (ht t (by simp)).1 (ht t (by simp)).2 h1 (fun x hx => ?_) (fun x hx => hs x (by simp [hx])), trodAll_stays hl hb sp (fun t ht' => ht t (by simp [ht'])) h2 (fun p hp => hlt p (by simp [hp])) (fun p hp => hs p (by simp [hp])), rfl⟩
  have hx' := hlt x (by simp [hx])
  cases x with
  | cell b off => exact cell_of_heap (hb b hx')
  | map b => exact hb b hx'
theorem law_contract {H : Type} {enc : TypeId × Value → H} {f : FuncId} {fn : Func} {s : ChangeSpec} {W : World} {args : Array Value} {ds gs : List (DataW H)} {before : List MemPlace} {us : List AV} {apart fresh handsOn again : Bool} {tb : TypeId}
  (hl : laidOutB P = true) (hT : (fn.params.toList.all fun t => P.readableRec t && decide (t < P.types.size)) = true) (hvars : s.vars = []) (hres : fn.resultTypes = #[tb]) (htb : P.underlying tb = some .bool)
  (hfn : (s.fn H ds) = { results := [.lit (.bool true)], args := ds })
  (hW : DataW.Whole enc P fn.params.toList s.vars apart W args.toList ds gs before) (hrel : RelL (W0 W) us args.toList) (hpc : PC P f us (.val (.bool true))) (htab : TabH P (fun _ => False) W) :
  Calls P f args W fun e W' => ∃ v, e = .returned v ∧ s.post enc P fn apart fresh handsOn again W args v W' := by
 have hT' : ∀ t ∈ fn.params.toList, P.readableRec t = true ∧ t < P.types.size := fun t ht => by
  have := List.all_eq_true.1 hT t ht; simpa using this
 have hlt := hW.lt
 have hW' := hW
 obtain ⟨p, q, hA, hV, rfl, hfz, hnd⟩ := hW
 rw [hvars] at hV
 obtain ⟨rfl, rfl⟩ := trodVars_none hV
 have hc := hpc (fun _ => False) W args.toList (fun _ h => h.elim) htab hrel
 have : args.toList.toArray = args := by simp
 rw [this] at hc
 refine hc.mono ?_
 rintro e W' ⟨v, hp, al, loc, r, ts, rfl, hM, hr, hs, _⟩
 have hv : v = .bool true := by
  cases r with
  | val x => simp only [sealV, Option.some.injEq, Prod.mk.injEq, AV.val.injEq] at hs; rw [hs.1] at hr; exact rel_val hr
  | agg l => simp only [sealV] at hs; cases hq : sealL hp l <;> simp [hq] at hs
  | tup l => simp only [sealV] at hs; cases hq : sealL hp l <;> simp [hq] at hs
  | sl l => simp only [sealV] at hs; split at hs <;> simp at hs
  | ip l => simp only [sealV] at hs; split at hs <;> simp at hs
  | own t o n => simp only [sealV] at hs; split at hs <;> (try split at hs) <;> simp at hs
  | clo fn f c => simp only [sealV] at hs; split at hs <;> simp at hs
  | _ => simp [sealV] at hs
 subst hv
 have hkeep : ∀ b, b < W.heap.size → W'.heap[b]? = W.heap[b]? := fun b hb => hM.keep b hb (fun h => h)
 refine ⟨_, rfl, post_same (pa := p) (pv := []) hW' ?_ ?_ ?_ rfl ?_ ?_ ?_⟩
 ·intro b sp hd
  rw [hres]
  simp only [List.append_nil, hfn]
  exact trodAll_cons_mk (shut_bool htb _) trodAll_mk0
 ·intro sp hsp
  simp only [List.append_nil, hfn]
  exact trodAll_stays hl hkeep sp hT' hA (fun x hx => hlt x (by simp [hx])) (fun x hx => hsp x (by simp [hx]))
 ·intro sp _
  rw [hvars]
  simp only [List.append_nil, hfn]
  rfl
 ·refine ⟨hM.os, hM.output, fun i hi => ?_⟩
  rw [hkeep i hi]
  cases W.heap[i]? with
  | none => rfl
  | some o => cases o <;> simp
 ·intro a ha
  simp only [World.frozen?, hkeep _ ha]
 ·exact ok_one hres rfl (okWide_bool_mk htb _)
theorem trodAll_len {H : Type} {enc : TypeId × Value → H} {W : World} {base : Nat} {sp : Nat → Bool} {held : Bool} : ∀ {ts : List TypeId} {vs : List Value} {ds : List (DataW H)} {ps : List MemPlace}, DataW.TrodAll enc P W base sp held ts vs ds ps → ds.length = ts.length
 | [], _, _, _, h => by obtain ⟨rfl, rfl, rfl⟩ := trodAll_nil h; rfl
 | _ :: _, _, _, _, h => by
  obtain ⟨v, vs', d, ds', p, q, rfl, rfl, rfl, h1, h2⟩ := trodAll_cons h
  simp [trodAll_len h2]
theorem law_end {α H : Type} {enc : TypeId × Value → H} {f : FuncId} {fn : Func} {s : ChangeSpec} {W : World} {base n : Nat} {args : Array Value} {ds gs : List (DataW H)} {before : List MemPlace} {apart fresh handsOn again : Bool} {tb : TypeId} {ts : List TypeId} {encA : α → List AV} {V : Nat → α → Prop}
  (hA : ArgR B P ts encA V) (hpc : ∀ x, V n x → PC P f (encA x) (.val (.bool true)))
  (hl : laidOutB P = true) (hT : (ts.all fun t => P.readableRec t && decide (t < P.types.size)) = true) (hvars : s.vars = []) (hres : fn.resultTypes = #[tb]) (htb : P.underlying tb = some .bool) (hts : fn.params = ts.toArray)
  (hfn : ∀ ds : List (DataW H), ds.length = ts.length → (s.fn H ds) = { results := [.lit (.bool true)], args := ds })
  (hval : ∀ (j : Nat) t v, fn.params[j]? = some t → args[j]? = some v → Value.okWide P W .any base t v)
  (hW : DataW.Whole enc P fn.params.toList s.vars apart W args.toList ds gs before) (hb : ∀ d ∈ ds, B H d ≤ n) (htab : TabH P (fun _ => False) W) :
  Calls P f args W fun e W' => ∃ v, e = .returned v ∧ s.post enc P fn apart fresh handsOn again W args v W' := by
 have hts' : fn.params.toList = ts := by rw [hts]
 obtain ⟨p, q, hR, _⟩ := id hW
 rw [hts'] at hR
 obtain ⟨x, hrel, hB⟩ := hA enc W base args.toList ds p (fun j t v ht hv => hval j t v (by rw [hts, ← Array.getElem?_toList]; exact ht) (by rw [← Array.getElem?_toList]; exact hv)) hR
 exact law_contract hl (by rw [hts']; exact hT) hvars hres htb (hfn ds (trodAll_len hR)) hW hrel (hpc x (hB n hb)) htab
end Go.Gm
namespace Go.Gm
attribute [go_sem] ar_nil ar_move ar_assign ar_pick ar_alloc ar_box ar_build ar_buildSlice ar_load ar_store ar_nilCheck ar_fieldAddr ar_indexAddr ar_index ar_slice ar_extract ar_bin ar_un ar_convert ar_makeFunc ar_makeInterface mkI_val mkI_ptr mkI_agg3 convS_ap convT_row ar_makeMap ar_lookup ar_mapUpdate ar_makeSlice ar_builtin ar_call arK_some ar_g gval_some arG_tt arG_ff arG_tf arG_ft arG_un pick_nil pick_cons pickO_some ad_nil ad_o ad_g adK_some adG_tt adG_ff adG_tf adG_ft adG_un okPair_nil okPair_cons disj_nil disj_nil2 accE_nil accE_t accE_w touch_move touch_assign touch_un touch_bin touch_pick touch_load touch_nilCheck touch_store touch_fieldAddr touch_indexAddr touch_index touch_extract touch_convert touch_builtin touch_call touch_slice touchO_none touchO_some touch_build touch_buildSlice tidA_val tidA_sl tidA_ip tidA_own tidA_ptr tidA_agg tidA_tup tidL_nil tidL_cons applyEff_nil applyEff_cons okD_some okD_none putF_some putF_none upd_ap evF_tmp evF_const evF_func callOf_fn callOf_builtin callOf_tmp callOf_move callOf_assign callOf_pick callOf_alloc callOf_box callOf_build callOf_buildSlice callOf_load callOf_store callOf_nilCheck callOf_fieldAddr callOf_indexAddr callOf_index callOf_slice callOf_extract callOf_binOp callOf_unOp callOf_convert callOf_makeFunc callOf_makeInterface callOf_makeMap callOf_lookup callOf_mapUpdate callOf_makeSlice aop_move aop_assign aop_pick pickE_tt pickE_ff pickE_t pickE_f aop_alloc aop_box aop_build aop_buildSlice aop_load aop_store aop_fieldAddr aop_indexAddr aop_extract aop_makeFunc aop_makeInterface aop_makeMap aop_lookup aop_mapUpdate aop_makeSlice aop_call aop_append aop_bin aop_un nilB_val nilB_agg nilB_ptr nilB_ip isNilV_nil nilOp_eql nilOp_neq indexA aop_len lenO_nil lenO_sl lenO_own lenO_str binE_some binV_add binV_sub binV_mul binV_eql binV_neq binV_lss binV_leq binV_gtr binV_geq binV_seq binV_sne binV_sge unE_not unE_neg toV_val natOf_cast natOf_0 natOf_1 indexS indexR fieldP mkv cellsP liveV extractA initF_ap List.getElem?_cons_zero List.getElem?_cons_succ List.getElem?_nil List.map_cons List.map_nil List.length_cons List.length_nil List.append_nil List.nil_append List.cons_append List.flatMap_cons List.flatMap_nil List.getElem?_map List.length_map List.drop_zero List.drop_succ_cons List.take_succ_cons List.take_zero List.head?_cons Option.map_some Option.map_none Option.bind_some Option.bind_none Option.getD_some Option.getD_none Option.isSome_some Option.isSome_none true_and and_true if_true if_false ite_true ite_false decide_true decide_false eq_self Nat.le_refl Bool.true_eq_false Bool.false_eq_true Bool.not_true Bool.not_false true_or or_true Nat.left_eq_add Nat.add_eq_left Bool.or_false Bool.or_true Bool.false_or Bool.true_or Bool.and_true Bool.true_and Bool.and_false Bool.false_and claimV_val claimV_sl claimV_fr claimV_agg claimV_tup claimL_nil claimL_cons shares_val shares_sl shares_fr shares_agg shares_tup sharesL_nil sharesL_cons tidV_own tidV_val tidV_sl tidV_ip tidV_agg tidV_any freezeL_nil freezeL_cons effOf_nil effOf_cons afterCall_eq resV_int resV_bool resV_str resV_nil resV_sl resV_ip resV_agg resV_own resL_nil resL_cons inl_val inl_sl inl_ip inlL_nil inlL_cons inlR_nil inlR_cons tab_head callA_eq callQ_some callR_some fillA_nil fillA_cons plf_ap cellsOf_val cellsOf_sl cellsOf_own cellsOf_ptr cellsOf_ip cellsOf_agg oneAV_int oneAV_bool oneAV_str oneAV_slice oneAV_ptr0 oneAV_sl oneAV_ip oneAV_own oneAV_ptr over_eq storeP_ptr partsF_eq appS_own appO_ok srcA_own srcA_sl srcA_str buildSliceA rowsP zrow List.all_cons List.all_nil List.set_cons_zero List.set_cons_succ List.replicate_succ List.replicate_zero List.drop_nil List.take_nil List.length_append List.length_set and_self ite_self Nat.zero_add Nat.add_zero Nat.zero_le aop_slice isStrV_sl isStrV_own isStrV_nil isStrV_str nat_zero Int.cast_ofNat_Int aop_index idxO_nat disj_cons List.getD_cons_zero List.getD_cons_succ List.getD_nil List.mem_cons List.not_mem_nil or_false false_or not_or forall_eq forall_eq_or_imp ne_eq not_true_eq_false not_false_eq_true
end Go.Gm
namespace Go.Gm
section
variable {σ ρ : Type}
def iterO (step : σ → Option (σ ⊕ ρ)) : Nat → σ → Option ρ
  | 0, _ => none
  | n + 1, s => match step s with
    | some (.inl s') => iterO step n s'
    | some (.inr r) => some r
    | none => none
theorem iterO_det {step : σ → Option (σ ⊕ ρ)} : ∀ {n m : Nat} {s : σ} {r r' : ρ}, iterO step n s = some r → iterO step m s = some r' → r = r'
  | 0, _, _, _, _, h, _ => by cases h
  | _ + 1, 0, _, _, _, _, h => by cases h
  | n + 1, m + 1, s, r, r', h, k => by
    simp only [iterO] at h k
    cases hs : step s with
    | none => rw [hs] at h; cases h
    | some x =>
      rw [hs] at h k
      cases x with
      | inl s' => exact iterO_det h k
      | inr q => cases h; cases k; rfl
open Classical in
noncomputable def loopO (step : σ → Option (σ ⊕ ρ)) (s : σ) : Option ρ := if h : ∃ r n, iterO step n s = some r then some h.choose else none
theorem loopO_iff {step : σ → Option (σ ⊕ ρ)} {s : σ} {r : ρ} : loopO step s = some r ↔ ∃ n, iterO step n s = some r := by
  unfold loopO
  constructor
  · intro h
    split at h
    · rename_i hc; cases h; exact hc.choose_spec
    · cases h
  · rintro ⟨n, hn⟩
    have hc : ∃ r n, iterO step n s = some r := ⟨r, n, hn⟩
    rw [dif_pos hc]
    obtain ⟨m, hm⟩ := hc.choose_spec
    rw [iterO_det hm hn]
theorem loopO_next {step : σ → Option (σ ⊕ ρ)} {s s' : σ} (h : step s = some (.inl s')) : loopO step s = loopO step s' := by
  apply Option.ext
  intro r
  rw [loopO_iff, loopO_iff]
  constructor
  · rintro ⟨n, hn⟩
    cases n with
    | zero => cases hn
    | succ n => simp only [iterO, h] at hn; exact ⟨n, hn⟩
  · rintro ⟨n, hn⟩
    exact ⟨n + 1, by simp only [iterO, h]; exact hn⟩
theorem loopO_done {step : σ → Option (σ ⊕ ρ)} {s : σ} {r : ρ} (h : step s = some (.inr r)) : loopO step s = some r := loopO_iff.2 ⟨1, by simp only [iterO, h]⟩
theorem loopO_of {step : σ → Option (σ ⊕ ρ)} (I : Nat → σ → Prop) {Q : ρ → Prop} (h : ∀ k s, I k s → (∃ s' k', step s = some (.inl s') ∧ k' < k ∧ I k' s') ∨ (∃ r, step s = some (.inr r) ∧ Q r)) :
    ∀ {k : Nat} {s : σ}, I k s → ∃ r, loopO step s = some r ∧ Q r := by
  intro k
  induction k using Nat.strongRecOn with
  | ind k ih =>
    intro s hs
    rcases h k s hs with ⟨s', k', h1, h2, h3⟩ | ⟨r, h1, h2⟩
    · obtain ⟨r, h4, h5⟩ := ih k' h2 h3
      exact ⟨r, (loopO_next h1).trans h4, h5⟩
    · exact ⟨r, loopO_done h1, h2⟩
end
section
variable {P : Program} {N : Nat} {Q : Exit → ASt → Prop} {st : ASt} {σ ρ : Type}
theorem AW.loopO {c : Code} {step : σ → Option (σ ⊕ ρ)} (tm : σ → ASt) (X : ρ → Exit → ASt → Prop) {s0 : σ} {r : ρ} (h : Gm.loopO step s0 = some r) (he : Ent N st (tm s0))
    (round : ∀ s x, step s = some x → AW P N c (thenA (fun st' => ∃ s', x = .inl s' ∧ Ent N st' (tm s')) (fun e st' => ∃ r, x = .inr r ∧ ∃ st'', Ent N st' st'' ∧ X r e st'')) (tm s))
    (fin : ∀ e st', X r e st' → ∃ st'', Ent N st' st'' ∧ Q e st'') : AW P N (.loop c) Q st := by
  obtain ⟨n, hn⟩ := loopO_iff.1 h
  refine AW.loop (fun k st => ∃ s, iterO step k s = some r ∧ st = tm s) n (tm s0) he ⟨s0, hn, rfl⟩ ?_
  rintro k _ ⟨s, hk, rfl⟩
  cases k with
  | zero => cases hk
  | succ k =>
    simp only [iterO] at hk
    cases hs : step s with
    | none => rw [hs] at hk; cases hk
    | some x =>
      rw [hs] at hk
      refine (round s x hs).mono ?_
      intro e st' hq
      cases e with
      | normal =>
        obtain ⟨s', rfl, he'⟩ := hq
        exact ⟨st', Ent.refl, k, tm s', Nat.lt_succ_self k, he', s', hk, rfl⟩
      | _ =>
        obtain ⟨r', rfl, st'', he', hX⟩ := hq
        cases hk
        obtain ⟨st3, h3, hq3⟩ := fin _ _ hX
        exact ⟨st3, he'.trans h3, hq3⟩
theorem AW.join {x y : Code} (tm : σ → ASt) (g : σ → Prop) (h1 : AW P N x (thenA (fun st' => ∃ s, g s ∧ Ent N st' (tm s)) Q) st) (h2 : ∀ s, g s → AW P N y Q (tm s)) : AW P N (.seq x y) Q st :=
  AW.seq (h1.mono fun e st' hq => by
    cases e with
    | normal =>
      obtain ⟨s, hs, he⟩ := hq
      exact ⟨tm s, he, h2 s hs⟩
    | _ => exact ⟨st', Ent.refl, hq⟩)
end
def restr (fr : Nat → AV) : List Nat → (Nat → AV)
  | [] => anyF
  | d :: l => upd (restr fr l) d (fr d)
theorem restr_nil (fr : Nat → AV) : restr fr [] = anyF := (rfl)
theorem restr_cons (fr : Nat → AV) (d : Nat) (l : List Nat) : restr fr (d :: l) = upd (restr fr l) d (fr d) := (rfl)
theorem restr_w (fr : Nat → AV) : ∀ l, FrW fr (restr fr l)
  | [] => .any
  | d :: l => (restr_w fr l).put' rfl
theorem Ent.restr {N nx : Nat} {fr : Nat → AV} {hp : AHeap} (l : List Nat) : Ent N ⟨fr, hp, nx⟩ ⟨Gm.restr fr l, hp, nx⟩ := .w (restr_w fr l)
section
variable {P : Program} {N id : Nat} {y : Code} {Q : Exit → ASt → Prop} {st : ASt}
end
end Go.Gm
namespace Go.Gm
mutual
def mapT (τ : Nat → Nat) : AV → AV
 | .own t off len => .own (τ t) off len
 | .ptr t i off => .ptr (τ t) i off
 | .mp t => .mp (τ t)
 | .agg cs => .agg (mapTL τ cs)
 | .tup cs => .tup (mapTL τ cs)
 | .clo fn f c => .clo fn (mapTL τ f) (mapTL τ c)
 | .ifc ty u => .ifc ty (mapT τ u)
 | .val v => .val v
 | .sl rows => .sl rows
 | .fr sz rows => .fr sz rows
 | .ip cs => .ip cs
 | .any => .any
 | .im es => .im es
def mapTL (τ : Nat → Nat) : List AV → List AV
 | [] => []
 | c :: cs => mapT τ c :: mapTL τ cs
end
mutual
def tokL (m : Nat) : AV → Bool
 | .own t _ _ => decide (t < m)
 | .ptr t _ _ => decide (t < m)
 | .mp t => decide (t < m)
 | .agg cs => tokLL m cs
 | .tup cs => tokLL m cs
 | .clo _ f c => tokLL m f && tokLL m c
 | .ifc _ u => tokL m u
 | .val _ => true
 | .any => true
 | .im _ => true
 | .sl rows => inlR rows
 | .ip cs => inlL cs
 | .fr _ _ => false
def tokLL (m : Nat) : List AV → Bool
 | [] => true
 | c :: cs => tokL m c && tokLL m cs
end
structure Ren (τ : Nat → Nat) (m : Nat) (E E' : Env) : Prop where
 mv : Move E E'
 al : ∀ t, t < m → E'.al t
 loc : ∀ t l, t < m → E'.loc t = some l → E.loc (τ t) = some l
mutual
theorem rel_ren {τ : Nat → Nat} {m : Nat} {E E' : Env} (x : Ren τ m E E') : ∀ {u : AV} {v : Value}, tokL m u = true → Rel E (mapT τ u) v → Rel E' u v
 | .own t off len, v, h, hr => by
  simp only [tokL, decide_eq_true_eq] at h
  simp only [mapT] at hr
  cases hr with
  | own ha hh => exact .own (x.al t h) fun l hl => hh l (x.loc t l h hl)
 | .ptr t off len, v, h, hr => by
  simp only [tokL, decide_eq_true_eq] at h
  simp only [mapT] at hr
  cases hr with
  | ptr ha hh => exact .ptr (x.al t h) fun l hl => hh l (x.loc t l h hl)
 | .mp t, v, h, hr => by
  simp only [tokL, decide_eq_true_eq] at h
  simp only [mapT] at hr
  cases hr with
  | mp ha hh => exact .mp (x.al t h) fun l hl => hh l (x.loc t l h hl)
 | .agg cs, v, h, hr => by
  simp only [tokL] at h
  simp only [mapT] at hr
  cases hr with
  | agg hl => exact .agg (relL_ren x h hl)
 | .tup cs, v, h, hr => by
  simp only [tokL] at h
  simp only [mapT] at hr
  cases hr with
  | tup hl => exact .tup (relL_ren x h hl)
 | .clo fn f c, v, h, hr => by
  simp only [tokL, Bool.and_eq_true] at h
  simp only [mapT] at hr
  cases hr with
  | clo hf hc => exact .clo (relL_ren x h.1 hf) (relL_ren x h.2 hc)
 | .ifc ty u, v, h, hr => by
  simp only [tokL] at h
  simp only [mapT] at hr
  cases hr with
  | ifc hu => exact .ifc (rel_ren x h hu)
 | .val w, v, h, hr => by
  simp only [mapT] at hr
  cases hr
  exact .val _
 | .any, v, h, hr => .any _
 | .im es, v, h, hr => by
  simp only [mapT] at hr
  exact Rel.move x.mv (by simp [inl]) hr
 | .sl rows, v, h, hr => by
  simp only [mapT] at hr
  exact Rel.move x.mv (by simpa [inl, tokL] using h) hr
 | .ip cs, v, h, hr => by
  simp only [mapT] at hr
  exact Rel.move x.mv (by simpa [inl, tokL] using h) hr
 | .fr sz rows, v, h, hr => by simp [tokL] at h
theorem relL_ren {τ : Nat → Nat} {m : Nat} {E E' : Env} (x : Ren τ m E E') : ∀ {us : List AV} {vs : List Value}, tokLL m us = true → RelL E (mapTL τ us) vs → RelL E' us vs
 | [], vs, _, hr => by
  simp only [mapTL] at hr
  cases hr; exact .nil
 | u :: us, vs, h, hr => by
  simp only [tokLL, Bool.and_eq_true] at h
  simp only [mapTL] at hr
  cases hr with
  | cons h1 hs => exact .cons (rel_ren x h.1 h1) (relL_ren x h.2 hs)
end
theorem mapTL_append (τ : Nat → Nat) : ∀ (a b : List AV), mapTL τ (a ++ b) = mapTL τ a ++ mapTL τ b
 | [], b => by simp [mapTL]
 | c :: cs, b => by simp [mapTL, mapTL_append τ cs b]
theorem tokLL_append (m : Nat) : ∀ (a b : List AV), tokLL m (a ++ b) = (tokLL m a && tokLL m b)
 | [], b => by simp [tokLL]
 | c :: cs, b => by simp [tokLL, tokLL_append m cs b, Bool.and_assoc]
theorem mapTL_length (τ : Nat → Nat) : ∀ (a : List AV), (mapTL τ a).length = a.length
 | [] => by simp [mapTL]
 | c :: cs => by simp [mapTL, mapTL_length τ cs]
theorem flat_map (τ : Nat → Nat) : ∀ rows : List (List AV), (rows.map (mapTL τ)).flatten = mapTL τ rows.flatten
 | [] => by simp [mapTL]
 | r :: rs => by simp [flat_map τ rs, mapTL_append]
theorem flat_tok (m : Nat) : ∀ {rows : List (List AV)}, rows.all (tokLL m) = true → tokLL m rows.flatten = true
 | [], _ => by simp [tokLL]
 | r :: rs, h => by
  simp only [List.all_cons, Bool.and_eq_true] at h
  simp [tokLL_append, h.1, flat_tok m h.2]
inductive ORen (τ : Nat → Nat) (m : Nat) : Option AObj → Option AObj → Prop
 | none (o : Option AObj) : ORen τ m o none
 | inl {sz : Nat} {mu : Bool} {rows : List (List AV)} (h : inlR rows = true) : ORen τ m (some (.row sz mu rows)) (some (.row sz mu rows))
 | map {sz : Nat} {mu : Bool} {rows : List (List AV)} (h : rows.all (tokLL m) = true) : ORen τ m (some (.row sz mu (rows.map (mapTL τ)))) (some (.row sz mu rows))
 | mp {es : List (Value × Value)} : ORen τ m (some (.mapo es)) (some (.mapo es))
theorem Ent.ren {N nx m : Nat} {fr fr' : Nat → AV} {hp hp' : AHeap} (τ : Nat → Nat) (h8 : 8 ≤ m) (hfix : ∀ t, t < 8 → τ t = t) (hinj : ∀ i j, i < m → j < m → hp' i ≠ none → hp' j ≠ none → τ i = τ j → i = j)
  (hfr : ∀ d, tokL m (fr' d) = true ∧ (fr' d = .any ∨ Weak (fr d) (mapT τ (fr' d)))) (hhp : ∀ t, t < m → ORen τ m (hp (τ t)) (hp' t)) (hno : ∀ t, m ≤ t → hp' t = none) : Ent N ⟨fr, hp, nx⟩ ⟨fr', hp', m⟩ := fun P G a w hc => by
 classical
 obtain ⟨c1, c2, loc, hM, hr⟩ := conc_iff.1 hc
 clear hc
 let loc' : Nat → Option Loc := fun t => if hp' t = none then none else loc (τ t)
 have hsome : ∀ t l, loc' t = some l → t < m ∧ loc (τ t) = some l ∧ hp' t ≠ none := fun t l hl => by
  simp only [loc'] at hl
  split at hl
  ·cases hl
  ·rename_i hn
   refine ⟨?_, hl, hn⟩
   by_cases hlt : t < m
   ·exact hlt
   ·exact absurd (hno t (by omega)) hn
 have hmut : ∀ t o', hp' t = some o' → t < m ∧ ∃ o, hp (τ t) = some o ∧ o.isMut = o'.isMut := fun t o' ho => by
  have hlt : t < m := by
   by_cases hlt : t < m
   ·exact hlt
   ·rw [hno t (by omega)] at ho; cases ho
  refine ⟨hlt, ?_⟩
  have := hhp t hlt
  rw [ho] at this
  generalize hq : hp (τ t) = q at this
  cases this with
  | inl h => exact ⟨_, rfl, rfl⟩
  | map h => exact ⟨_, rfl, rfl⟩
  | mp => exact ⟨_, rfl, rfl⟩
 have hmt : ∀ b, mtOf hp' loc' b → mtOf hp loc b := by
  rintro b ⟨t, o', l, h1, h2, h3, h4, h5⟩
  obtain ⟨_, o, ho, hm⟩ := hmut t o' h1
  exact ⟨τ t, o, l, ho, by rw [hm]; exact h2, (hsome t l h3).2.1, h4, h5⟩
 have x : Ren τ m (mkE G.m1 hp (fun t => t < nx) loc w) (mkE G.m1 hp' (fun t => t < m) loc' w) :=
  ⟨⟨Nat.le_refl _, fun b _ hn => ⟨fun hm => hn (hm.elim (fun h => .inl (hmt b h)) .inr), rfl⟩⟩, fun t ht => ht, fun t l ht hl => (hsome t l hl).2.1⟩
 refine conc_iff.2 ⟨c1, c2, loc', ?_, fun d => ?_⟩
 ·refine ⟨fun t o' ho => ?_, fun t ho => by simp only [loc', ho, if_true], fun t l hl => (hsome t l hl).1, fun t1 t2 l1 l2 k1 k2 p1 p2 hb => ?_, hM.os, hM.tape, hM.output, hM.size, hM.keep, fun b hb => hM.muts b (hmt b hb), fun t l hl => hM.fgn (τ t) l (hsome t l hl).2.1,
   fun t ht => Nat.lt_of_lt_of_le ht (Nat.le_trans G.n8 h8), fun t l ht hl => hM.idn t l ht ?_⟩
  ·have hlt := (hmut t o' ho).1
   have hO := hhp t hlt
   rw [ho] at hO
   generalize hq : hp (τ t) = q at hO
   cases hO with
   | inl hin =>
    obtain ⟨l, hl, g1, g2, g3, g4, g5, g6⟩ := hM.obj (τ t) _ hq
    refine ⟨l, by simp only [loc', ho]; simpa using hl, g1, g2, g3, g4, g5, fun hpos => ?_⟩
    obtain ⟨c, e, fz, vs, k1, k2, k3, k4, k5, k6⟩ := g6 hpos
    exact ⟨c, e, fz, vs, k1, k2, RelL.move x.mv (by rw [← inlR_flatten]; exact hin) k3, k4, k5, k6⟩
   | map hin =>
    rename_i sz mu rows
    obtain ⟨l, hl, g1, g2, g3, g4, g5, g6⟩ := hM.obj (τ t) _ hq
    refine ⟨l, by simp only [loc', ho]; simpa using hl, g1, g2, fun r hr => ?_, by simpa using g4, g5, fun hpos => ?_⟩
    ·have := g3 (mapTL τ r) (List.mem_map.2 ⟨r, hr, rfl⟩)
     rwa [mapTL_length] at this
    ·obtain ⟨c, e, fz, vs, k1, k2, k3, k4, k5, k6⟩ := g6 hpos
     rw [flat_map] at k3
     exact ⟨c, e, fz, vs, k1, k2, relL_ren x (flat_tok m hin) k3, k4, k5, k6⟩
   | mp =>
    obtain ⟨l, hl, g⟩ := hM.obj (τ t) _ hq
    exact ⟨l, by simp only [loc', ho]; simpa using hl, g⟩
  ·have h1 := hsome t1 l1 k1
   have h2 := hsome t2 l2 k2
   exact hinj t1 t2 h1.1 h2.1 h1.2.2 h2.2.2 (hM.inj _ _ _ _ h1.2.1 h2.2.1 p1 p2 hb)
  ·have h1 := hsome t l hl
   rw [hfix t (Nat.lt_of_lt_of_le ht G.n8)] at h1
   exact h1.2.1
 ·obtain ⟨h1, h2⟩ := hfr d
  rcases h2 with h2 | h2
  ·rw [h2]; exact .any _
  ·exact rel_ren x h1 (h2 _ _ (hr d))
def tau (l : List Nat) (t : Nat) : Nat := if t < 8 then t else l.getD (t - 8) 0
def hpL (a b : List (Option AObj)) : AHeap := fun t => if t < 8 then (a[t]?).getD none else (b[t - 8]?).getD none
theorem hpL_ap (a b : List (Option AObj)) (t : Nat) : hpL a b t = if t < 8 then (a[t]?).getD none else (b[t - 8]?).getD none := (rfl)
theorem hpL_nil : hpL [] [] = fun _ => none := by funext t; simp [hpL]
def RF (τ : Nat → Nat) (m : Nat) (fr fr' : Nat → AV) : Prop := ∀ d, tokL m (fr' d) = true ∧ (fr' d = .any ∨ Weak (fr d) (mapT τ (fr' d)))
theorem RF.any {τ : Nat → Nat} {m : Nat} {fr : Nat → AV} : RF τ m fr anyF := fun _ => ⟨by simp [anyF, tokL], .inl rfl⟩
theorem RF.put {τ : Nat → Nat} {m : Nat} {fr fr' : Nat → AV} {d : Nat} {v : AV} (h : RF τ m fr fr') (ht : tokL m v = true) (hv : Weak (fr d) (mapT τ v)) : RF τ m fr (upd fr' d v) := fun d' => by
 simp only [upd]; split
 ·rename_i e; subst e; exact ⟨ht, .inr hv⟩
 ·exact h d'
inductive HRen (τ : Nat → Nat) (m : Nat) (hp : AHeap) : Nat → List (Option AObj) → Prop
 | nil (k : Nat) : HRen τ m hp k []
 | cons {k : Nat} {o : Option AObj} {l : List (Option AObj)} (h : ORen τ m (hp (τ k)) o) (hs : HRen τ m hp (k + 1) l) : HRen τ m hp k (o :: l)
theorem HRen.get {τ : Nat → Nat} {m : Nat} {hp : AHeap} : ∀ {l : List (Option AObj)} {k : Nat}, HRen τ m hp k l → ∀ i, ORen τ m (hp (τ (k + i))) ((l[i]?).getD none)
 | [], _, _, i => by simp; exact .none _
 | o :: l, k, .cons h hs, 0 => by simpa using h
 | o :: l, k, .cons h hs, i + 1 => by
  have := HRen.get hs i
  rw [show k + (i + 1) = k + 1 + i by omega]
  simpa using this
theorem Ent.can {N nx : Nat} {fr fr' : Nat → AV} {hp : AHeap} (l : List Nat) (a b : List (Option AObj)) (m : Nat) (hm : m = 8 + l.length) (hl : l.Nodup ∧ ∀ x ∈ l, 8 ≤ x ∨ (a[x]?).getD none = none) (hb : b.length = l.length) (hf : RF (tau l) m fr fr') (h0 : HRen (tau l) m hp 0 a) (h1 : HRen (tau l) m hp 8 b) :
  Ent N ⟨fr, hp, nx⟩ ⟨fr', hpL a b, m⟩ := by
 subst hm
 refine Ent.ren (tau l) (by omega) (fun t ht => by simp [tau, ht]) (fun i j hi hj hni hnj he => ?_) hf (fun t ht => ?_) (fun t ht => ?_)
 ·have hget : ∀ k, 8 ≤ k → k < 8 + l.length → ∃ h : k - 8 < l.length, tau l k = l[k - 8] := fun k h8 hk => ⟨by omega, by
   unfold tau; rw [if_neg (by omega)]; simp [List.getD, show k - 8 < l.length by omega]⟩
  by_cases hi8 : i < 8 <;> by_cases hj8 : j < 8
  ·simpa [tau, hi8, hj8] using he
  ·obtain ⟨h, e⟩ := hget j (by omega) hj
   rw [e] at he
   have e2 : tau l i = i := by simp [tau, hi8]
   rw [e2] at he
   rcases hl.2 _ (List.getElem_mem h) with h3 | h3
   ·omega
   ·rw [← he] at h3
    exact absurd (by simp only [hpL, hi8, if_true]; exact h3) hni
  ·obtain ⟨h, e⟩ := hget i (by omega) hi
   rw [e] at he
   have e2 : tau l j = j := by simp [tau, hj8]
   rw [e2] at he
   rcases hl.2 _ (List.getElem_mem h) with h3 | h3
   ·omega
   ·rw [he] at h3
    exact absurd (by simp only [hpL, hj8, if_true]; exact h3) hnj
  ·obtain ⟨h, e⟩ := hget i (by omega) hi
   obtain ⟨h', e'⟩ := hget j (by omega) hj
   rw [e, e'] at he
   have := (List.getElem_inj hl.1).1 he
   omega
 ·by_cases h8 : t < 8
  ·have := h0.get t
   simp only [hpL, h8, if_true]
   simpa using this
  ·have := h1.get (t - 8)
   simp only [hpL, h8, if_false]
   rwa [show 8 + (t - 8) = t by omega] at this
 ·have : ¬ t < 8 := by omega
  simp only [hpL, this, if_false]
  rw [List.getElem?_eq_none (by omega)]; rfl
theorem pc_of8 {P : Program} {f : FuncId} {us : List AV} {X : AV} {fn : Func} {c : Code} {N : Nat} {rs : List ResultVar} (hf : P.funcs[f]? = some fn) (hb : fn.body = some c) (hN : fn.ntmps = N) (hr : fn.results.toList = rs) (hn : us.length ≤ N)
  (h : AW P N c (finA P rs X) ⟨initF us, hpL [] [], 8⟩) : PC P f us X := by
 subst hN; subst hr
 refine pc_of_body hf hb hn ?_
 rw [← hpL_nil]
 exact AW.ent (Ent.st .refl .refl (by omega)) h
end Go.Gm
namespace Go.Gm
section
variable {P : Program} {N id : Nat} {x y : Code} {Q : Exit → ASt → Prop} {st : ASt} {c : Operand} {ops : List Oper} {k : ASt → Prop}
theorem AW.normalOnly {R : Code} {K : ASt → Prop} (l : List Nat) (h : AW P N R (fun e st' => e = .normal ∧ K ⟨restr st'.fr l, st'.hp, st'.nx⟩) st) (hQ : ∀ st', K st' → Q .normal st') : AW P N R Q st :=
  h.mono fun e st' ⟨he, hk⟩ => ⟨_, Ent.restr l, by subst he; exact hQ _ hk⟩
theorem AW.regL (l : List Nat) (h : arun P N ops ops st (fun st' => AW P N y Q ⟨restr st'.fr l, st'.hp, st'.nx⟩)) : AW P N (.seq (.region id ops.toArray false) y) Q st :=
  AW.seq (AW.normalOnly (K := AW P N y Q) l (AW.region (Q := fun e st' => e = .normal ∧ AW P N y Q ⟨restr st'.fr l, st'.hp, st'.nx⟩) (by simpa using h)) fun _ h => h)
theorem AW.regionL (l : List Nat) (h : arun P N ops ops st (fun st' => Q .normal ⟨restr st'.fr l, st'.hp, st'.nx⟩)) : AW P N (.region id ops.toArray false) Q st :=
  AW.normalOnly (K := Q .normal) l (AW.region (Q := fun e st' => e = .normal ∧ Q .normal ⟨restr st'.fr l, st'.hp, st'.nx⟩) (by simpa using h)) fun _ h => h
theorem AW.regdL (l : List Nat) (A : List (List Nat)) (ord : List Nat) (ft : FuncId → List AV → Option AV) (hft : FtOk P ft) (hm : P.follows .mixedOrders = true) (hs : statB A ord ops = true) (hp : pairB A ord ops = true)
    (h : adrun P ft N ops A st.nx (pick ops ord) st.fr st.hp [] fun fr hp => AW P N y Q ⟨restr fr l, hp, st.nx + 8 * ops.length⟩) : AW P N (.seq (.region id ops.toArray true) y) Q st :=
  AW.seq (AW.normalOnly (K := AW P N y Q) l (AW.draw (Q := fun e st' => e = .normal ∧ AW P N y Q ⟨restr st'.fr l, st'.hp, st'.nx⟩) A ord ft hft hm hs hp (by simpa using h)) fun _ h => h)
theorem AW.drawL (l : List Nat) (A : List (List Nat)) (ord : List Nat) (ft : FuncId → List AV → Option AV) (hft : FtOk P ft) (hm : P.follows .mixedOrders = true) (hs : statB A ord ops = true) (hp : pairB A ord ops = true)
    (h : adrun P ft N ops A st.nx (pick ops ord) st.fr st.hp [] fun fr hp => Q .normal ⟨restr fr l, hp, st.nx + 8 * ops.length⟩) : AW P N (.region id ops.toArray true) Q st :=
  AW.normalOnly (K := Q .normal) l (AW.draw (Q := fun e st' => e = .normal ∧ Q .normal ⟨restr st'.fr l, st'.hp, st'.nx⟩) A ord ft hft hm hs hp (by simpa using h)) fun _ h => h
theorem AW.ifT {p : Prop} [Decidable p] (e : evF st.fr c = .val (.bool (decide p))) (hp : p) (h : AW P N x Q st) : AW P N (.cond c x y) Q st := AW.cond (b := true) (by rw [e, decide_eq_true hp]) h
theorem AW.ifF {p : Prop} [Decidable p] (e : evF st.fr c = .val (.bool (decide p))) (hp : ¬ p) (h : AW P N y Q st) : AW P N (.cond c x y) Q st := AW.cond (b := false) (by rw [e, decide_eq_false hp]) h
theorem AW.ifNT {p : Prop} [Decidable p] (e : evF st.fr c = .val (.bool (!decide p))) (hp : ¬ p) (h : AW P N x Q st) : AW P N (.cond c x y) Q st := AW.cond (b := true) (by rw [e, decide_eq_false hp]; rfl) h
theorem AW.ifNF {p : Prop} [Decidable p] (e : evF st.fr c = .val (.bool (!decide p))) (hp : p) (h : AW P N y Q st) : AW P N (.cond c x y) Q st := AW.cond (b := false) (by rw [e, decide_eq_true hp]; rfl) h
theorem AW.ifBT {b : Bool} (e : evF st.fr c = .val (.bool b)) (hb : b = true) (h : AW P N x Q st) : AW P N (.cond c x y) Q st := AW.cond (b := true) (by rw [e, hb]) h
theorem AW.ifBF {b : Bool} (e : evF st.fr c = .val (.bool b)) (hb : b = false) (h : AW P N y Q st) : AW P N (.cond c x y) Q st := AW.cond (b := false) (by rw [e, hb]) h
end
def ix {α : Type} (l : List α) (i : Int) : Option α := if 0 ≤ i then l[i.toNat]? else none
theorem ix_some {α : Type} {l : List α} {i : Int} {x : α} : ix l i = some x ↔ 0 ≤ i ∧ l[i.toNat]? = some x := by
  unfold ix; split
  · rename_i h; simp [h]
  · rename_i h; constructor
    · intro k; cases k
    · intro k; exact absurd k.1 h
theorem ix_nat {α : Type} {l : List α} {n : Nat} : ix l (n : Int) = l[n]? := by
  unfold ix; rw [if_pos (by omega)]; simp
theorem ix_lt {α : Type} {l : List α} {n : Nat} {x : α} (h : l[n]? = some x) : n < l.length := (List.getElem?_eq_some_iff.1 h).1
def appO? {α : Type} (a b : List α) : Option (List α) := if a.length + b.length ≤ 34359738368 then some (a ++ b) else none
theorem appO?_some {α : Type} {a b c : List α} : appO? a b = some c ↔ a.length + b.length ≤ 34359738368 ∧ a ++ b = c := by
  unfold appO?; split
  · rename_i h; simp [h]
  · rename_i h; constructor
    · intro k; cases k
    · intro k; exact absurd k.1 h
def cutO? {α : Type} (l : List α) (lo hi : Int) : Option (List α) := if 0 ≤ lo ∧ lo ≤ hi ∧ hi ≤ (l.length : Int) then some ((l.drop lo.toNat).take (hi.toNat - lo.toNat)) else none
theorem cutO?_some {α : Type} {l c : List α} {lo hi : Int} : cutO? l lo hi = some c ↔ (0 ≤ lo ∧ lo ≤ hi ∧ hi ≤ (l.length : Int)) ∧ (l.drop lo.toNat).take (hi.toNat - lo.toNat) = c := by
  unfold cutO?; split
  · rename_i h; simp [h]
  · rename_i h; constructor
    · intro k; cases k
    · intro k; exact absurd k.1 h
def setO? {α : Type} (l : List α) (i : Int) (x : α) : Option (List α) := if 0 ≤ i ∧ i.toNat < l.length then some (l.set i.toNat x) else none
theorem natOf_int {k : IntKind} {n : Int} : natOf (.val (.int k n)) = if 0 ≤ n then some n.toNat else none := (rfl)
theorem natOf_le {k : IntKind} {n : Int} (h : 0 ≤ n) : natOf (.val (.int k n)) = some n.toNat := by rw [natOf_int, if_pos h]
section
variable {hp : AHeap} {t e sz : Nat} {rows : List (List AV)} {P : Program}
theorem cut_sl {lo hi : Option AV} {l h : Nat} (he : elemO P t = some e) (hz : szO P e = some sz) (hr : ∀ r ∈ rows, r.length = sz) (hl : loOf lo = some l) (hh : hiOf rows.length hi = some h) (h1 : l ≤ h) (h2 : h ≤ rows.length) : cutS P hp t (.sl rows) lo hi = some (.sl ((rows.drop l).take (h - l))) := by
  unfold cutS
  simp only [he, hl, lenOf, hz, hh]
  rw [if_pos ⟨h1, h2⟩, if_pos hr]
end
attribute [go_sem] restr_cons restr_nil
attribute [go_sem] hpL_ap List.getElem?_nil
end Go.Gm
namespace Go.Gm
mutual
theorem mapT_inl (τ : Nat → Nat) : ∀ {u : AV}, inl u = true → mapT τ u = u
  | .own .., h => by simp [inl] at h
  | .ptr .., h => by simp [inl] at h
  | .mp .., h => by simp [inl] at h
  | .agg cs, h => by simp only [inl] at h; simp only [mapT, mapTL_inl τ h]
  | .tup cs, h => by simp only [inl] at h; simp only [mapT, mapTL_inl τ h]
  | .clo fn f c, h => by simp only [inl, Bool.and_eq_true] at h; simp only [mapT, mapTL_inl τ h.1, mapTL_inl τ h.2]
  | .ifc ty u, h => by simp only [inl] at h; simp only [mapT, mapT_inl τ h]
  | .val v, _ => by simp only [mapT]
  | .sl rows, _ => by simp only [mapT]
  | .fr sz rows, _ => by simp only [mapT]
  | .ip cs, _ => by simp only [mapT]
  | .any, _ => by simp only [mapT]
  | .im _, _ => by simp only [mapT]
theorem mapTL_inl (τ : Nat → Nat) : ∀ {us : List AV}, inlL us = true → mapTL τ us = us
  | [], _ => by simp only [mapTL]
  | u :: us, h => by
    simp only [inlL, Bool.and_eq_true] at h
    simp only [mapTL, mapT_inl τ h.1, mapTL_inl τ h.2]
end
mutual
theorem tokL_inl (m : Nat) : ∀ {u : AV}, inl u = true → tokL m u = true
  | .own .., h => by simp [inl] at h
  | .ptr .., h => by simp [inl] at h
  | .mp .., h => by simp [inl] at h
  | .agg cs, h => by simp only [inl] at h; simp only [tokL, tokLL_inl m h]
  | .tup cs, h => by simp only [inl] at h; simp only [tokL, tokLL_inl m h]
  | .clo fn f c, h => by simp only [inl, Bool.and_eq_true] at h; simp only [tokL, tokLL_inl m h.1, tokLL_inl m h.2, Bool.and_self]
  | .ifc ty u, h => by simp only [inl] at h; simp only [tokL, tokL_inl m h]
  | .val v, _ => by simp only [tokL]
  | .sl rows, h => by simpa only [tokL, inl] using h
  | .fr sz rows, h => by simp [inl] at h
  | .ip cs, h => by simpa only [tokL, inl] using h
  | .any, _ => by simp only [tokL]
  | .im _, _ => by simp only [tokL]
theorem tokLL_inl (m : Nat) : ∀ {us : List AV}, inlL us = true → tokLL m us = true
  | [], _ => by simp only [tokLL]
  | u :: us, h => by
    simp only [inlL, Bool.and_eq_true] at h
    simp only [tokLL, tokL_inl m h.1, tokLL_inl m h.2, Bool.and_self]
end
section
variable {τ : Nat → Nat} {l : List Nat} {m d : Nat} {fr fr' : Nat → AV} {hp : AHeap}
theorem RF.pv {v : AV} (h : RF τ m fr fr') (hi : inl v = true) (hv : fr d = v) : RF τ m fr (upd fr' d v) := h.put (tokL_inl m hi) (by rw [mapT_inl τ hi]; exact .of hv)
theorem RF.po {t off n : Nat} (h : RF τ m fr fr') (ht : t < m) (hv : fr d = .own (τ t) off n) : RF τ m fr (upd fr' d (.own t off n)) := h.put (by simp [tokL, ht]) (by simp only [mapT]; exact .of hv)
theorem RF.pp {t i off : Nat} (h : RF τ m fr fr') (ht : t < m) (hv : fr d = .ptr (τ t) i off) : RF τ m fr (upd fr' d (.ptr t i off)) := h.put (by simp [tokL, ht]) (by simp only [mapT]; exact .of hv)
theorem ORen.eq {t sz : Nat} {mu : Bool} {rows : List (List AV)} (hi : inlR rows = true) (h : hp t = some (.row sz mu rows)) : ORen τ m (hp t) (some (.row sz mu rows)) := by rw [h]; exact .inl hi
theorem ORen.tok {t sz : Nat} {mu : Bool} {rows : List (List AV)} (hi : rows.all (tokLL m) = true) (h : hp t = some (.row sz mu (rows.map (mapTL τ)))) : ORen τ m (hp t) (some (.row sz mu rows)) := by rw [h]; exact .map hi
end
def WeakL (us us' : List AV) : Prop := ∀ E vs, RelL E us vs → RelL E us' vs
theorem WeakL.nil : WeakL [] [] := fun _ _ h => h
theorem WeakL.cons {u u' : AV} {us us' : List AV} (h : Weak u u') (hs : WeakL us us') : WeakL (u :: us) (u' :: us') := fun E vs k => by
  cases k with
  | cons a b => exact .cons (h E _ a) (hs E _ b)
theorem FrW.put1 {fr : Nat → AV} {d : Nat} {v : AV} (hv : Weak (fr d) v) : FrW fr (upd fr d v) := FrW.refl.put hv
end Go.Gm
namespace Go.Gm
attribute [go_sem] hpL_ap
end Go.Gm
namespace Go.Gm
theorem idxO_some {P : Program} {t : TypeId} {s : ByteArray} {k : IntKind} {i : Int} {b : UInt8} {pl : Option AR} (ht : isStrT P t = true) (h0 : 0 ≤ i) (hx : (bl s)[i.toNat]? = some b) : idxO P t (.val (.string s)) (.val (.int k i)) pl = some ⟨U8 b, []⟩ := by
  obtain ⟨n, rfl⟩ := Int.eq_ofNat_of_zero_le h0
  rw [idxO_nat]
  simp only [Int.toNat_natCast] at hx
  simp [ht, hx]
end Go.Gm
namespace Go.Gm
theorem Ent.weakObj {N nx sz : Nat} {mu : Bool} {fr : Nat → AV} {hp : AHeap} {cs cs' : List AV} (t : Nat) (h : hp t = some (.row sz mu [cs])) (hl : cs'.length = sz) (hw : WeakL cs cs') : Ent N ⟨fr, hp, nx⟩ ⟨fr, upd hp t (some (.row sz mu [cs'])), nx⟩ := fun P G a w hc => by
  obtain ⟨c1, c2, loc, hM, hr⟩ := conc_iff.1 hc
  clear hc
  have hmt : ∀ b, mtOf (upd hp t (some (.row sz mu [cs']))) loc b → mtOf hp loc b := by
    rintro b ⟨t', o', l', h1, h2, h3, h4, h5⟩
    by_cases e : t' = t
    · subst e; rw [upd_same] at h1; cases h1; exact ⟨t', _, l', h, h2, h3, h4, h5⟩
    · rw [upd_other _ _ e] at h1; exact ⟨t', o', l', h1, h2, h3, h4, h5⟩
  have x : Ext (mkE G.m1 hp (fun t => t < nx) loc w) (mkE G.m1 (upd hp t (some (.row sz mu [cs']))) (fun t => t < nx) loc w) := mk_ext (fun _ h => h) (fun _ _ _ h => h) (Nat.le_refl _) (fun b _ => hmt b) (fun _ _ _ => rfl)
  refine conc_iff.2 ⟨c1, c2, loc, hM.change x (fun t' o' ho => ?_) (fun t' ho => ?_) hM.al_ hM.inj rfl rfl rfl (fun b hb => .inl (hmt b hb)) (fun t l k1 k2 => .inl ⟨t, l, k1, k2, rfl⟩), fun d => (hr d).ext x⟩
  · by_cases e : t' = t
    · subst e
      rw [upd_same] at ho; cases ho
      obtain ⟨l, hl', g1, g2, g3, g4, g5, g6⟩ := hM.obj t' _ h
      refine .inr ⟨l, hl', g1, g2, by simpa using hl, by simpa using g4, g5, fun hpos => ?_⟩
      obtain ⟨c, e, fz, vs, k1, k2, k3, k4, k5, k6⟩ := g6 hpos
      refine ⟨c, e, fz, vs, k1, k2, ?_, k4, k5, k6⟩
      simp only [List.flatten_cons, List.flatten_nil, List.append_nil] at k3 ⊢
      exact (hw _ _ k3).ext x
    · rw [upd_other _ _ e] at ho; exact .inl ⟨ho, rfl, fun _ _ _ => rfl⟩
  · by_cases e : t' = t
    · subst e; rw [upd_same] at ho; cases ho
    · rw [upd_other _ _ e] at ho; exact hM.none_ t' ho
end Go.Gm
namespace Go.Gm
section
variable {α : Type} {enc : α → List AV} {l x : List α} {P : Program} {hp : AHeap} {t e sz : Nat} {k k' : IntKind} {lo hi : Int}
theorem cut_ss (he : elemO P t = some e) (hz : szO P e = some sz) (hr : (∀ r ∈ l.map enc, r.length = sz) = True) (h : cutO? l lo hi = some x) : cutS P hp t (.sl (l.map enc)) (some (.val (.int k lo))) (some (.val (.int k' hi))) = some (.sl (x.map enc)) := by
  obtain ⟨⟨h1, h2, h3⟩, rfl⟩ := cutO?_some.1 h
  rw [cut_sl (l := lo.toNat) (h := hi.toNat) he hz (of_eq_true hr) (by simp [loOf, natOf_le h1]) (by simp [hiOf, natOf_le (show 0 ≤ hi by omega)]) (by omega) (by simp only [List.length_map]; omega), ← List.map_drop, ← List.map_take]
theorem cut_sn (he : elemO P t = some e) (hz : szO P e = some sz) (hr : (∀ r ∈ l.map enc, r.length = sz) = True) (h : cutO? l lo (l.length : Int) = some x) : cutS P hp t (.sl (l.map enc)) (some (.val (.int k lo))) none = some (.sl (x.map enc)) := by
  obtain ⟨⟨h1, h2, h3⟩, rfl⟩ := cutO?_some.1 h
  rw [cut_sl (l := lo.toNat) (h := l.length) he hz (of_eq_true hr) (by simp [loOf, natOf_le h1]) (by simp [hiOf]) (by omega) (by simp only [List.length_map]; omega), ← List.map_drop, ← List.map_take]
  simp
theorem cut_ns (he : elemO P t = some e) (hz : szO P e = some sz) (hr : (∀ r ∈ l.map enc, r.length = sz) = True) (h : cutO? l 0 hi = some x) : cutS P hp t (.sl (l.map enc)) none (some (.val (.int k' hi))) = some (.sl (x.map enc)) := by
  obtain ⟨⟨h1, h2, h3⟩, rfl⟩ := cutO?_some.1 h
  rw [cut_sl (l := 0) (h := hi.toNat) he hz (of_eq_true hr) (by simp [loOf]) (by simp [hiOf, natOf_le (show 0 ≤ hi by omega)]) (by omega) (by simp only [List.length_map]; omega), ← List.map_drop, ← List.map_take]
  simp
end
end Go.Gm
namespace Go.Gm
def lenSO (n : Nat) : Option TypeId → Option AObj → Option AV
  | some _, some (.row _ _ _) => some (.val (.int .i64 n))
  | _, _ => none
theorem lenS_own {P : Program} {hp : AHeap} {t o off n : Nat} : lenS P hp t (.own o off n) = lenSO n (elemO P t) (hp o) := by
  unfold lenS lenSO
  simp only [lenOf]
  cases elemO P t with
  | none => rfl
  | some e =>
    cases hp o with
    | none => rfl
    | some ob => cases ob <;> rfl
theorem lenSO_some {n e sz : Nat} {mu : Bool} {rows : List (List AV)} : lenSO n (some e) (some (.row sz mu rows)) = some (.val (.int .i64 (n : Int))) := (rfl)
attribute [go_sem] lenS_own lenSO_some
end Go.Gm
namespace Go.Gm
theorem take_map_self {α β : Type} {f : α → β} {l : List α} : (l.map f).take l.length = l.map f := List.take_of_length_le (by simp)
attribute [go_sem] take_map_self
end Go.Gm
namespace Go.Gm
def shlV (k : IntKind) (x : Int) (n : Nat) : Int := k.wrap (x * 2 ^ (min n k.bits))
def shrV (k : IntKind) (x : Int) (n : Nat) : Int := x.fdiv (2 ^ (min n k.bits))
def andV (k : IntKind) (x y : Int) : Int := k.wrap (BitVec.ofInt k.bits x &&& BitVec.ofInt k.bits y).toNat
def orV (k : IntKind) (x y : Int) : Int := k.wrap (BitVec.ofInt k.bits x ||| BitVec.ofInt k.bits y).toNat
def xorV (k : IntKind) (x y : Int) : Int := k.wrap (BitVec.ofInt k.bits x ^^^ BitVec.ofInt k.bits y).toNat
def andNotV (k : IntKind) (x y : Int) : Int := k.wrap (BitVec.ofInt k.bits x &&& ~~~ BitVec.ofInt k.bits y).toNat
def allV (k : IntKind) : Int := if k.signed then -1 else k.max
def guardO (p : Prop) [Decidable p] : Option Unit := if p then some () else none
theorem guardO_some {p : Prop} [Decidable p] {u : Unit} : guardO p = some u ↔ p := by unfold guardO; split <;> simp_all
theorem guardO_ok {p : Prop} [Decidable p] (h : p) : guardO p = some () := by rw [guardO, if_pos h]
section
variable {P : Program} {ft : FuncId → List AV → Option AV} {fr : Operand → AV} {hp : AHeap} {id : Nat} {d : Option Tmp} {ty : TypeId} {pos : String} {af : Array Edge} {g : Option (Nat × Bool)}
theorem binV_quo {t : TypeId} {x y : Operand} {k : IntKind} {a b : Int} : binV P .quo t x y (.int k a) (.int k b) = if b = 0 then none else some (.int k (k.wrap (a.tdiv b))) := by
 rw [binV_int]; by_cases h : b = 0 <;> simp [binOp, Op.intDiv, evS_pure, h]; rfl
theorem binV_rem {t : TypeId} {x y : Operand} {k : IntKind} {a b : Int} : binV P .rem t x y (.int k a) (.int k b) = if b = 0 then none else some (.int k (a.tmod b)) := by
 rw [binV_int]; by_cases h : b = 0 <;> simp [binOp, Op.intDiv, evS_pure, h]; rfl
theorem binV_and {t : TypeId} {x y : Operand} {k : IntKind} {a b : Int} : binV P .and t x y (.int k a) (.int k b) = some (.int k (andV k a b)) := by rw [binV_int]; simp [binOp, Op.intBits, evS_pure, andV]
theorem binV_or {t : TypeId} {x y : Operand} {k : IntKind} {a b : Int} : binV P .or t x y (.int k a) (.int k b) = some (.int k (orV k a b)) := by rw [binV_int]; simp [binOp, Op.intBits, evS_pure, orV]
theorem binV_xor {t : TypeId} {x y : Operand} {k : IntKind} {a b : Int} : binV P .xor t x y (.int k a) (.int k b) = some (.int k (xorV k a b)) := by rw [binV_int]; simp [binOp, Op.intBits, evS_pure, xorV]
theorem binV_int2 {op : BinOp} {t : TypeId} {x y : Operand} {k k' : IntKind} {a b : Int} : binV P op t x y (.int k a) (.int k' b) = evS P (binOp op t (.int k a) (.int k' b)) := by
 unfold binV eqGuard
 cases op <;> simp [evS_bind, evS_pure]
theorem binV_shl {t : TypeId} {x y : Operand} {k k' : IntKind} {a b : Int} : binV P .shl t x y (.int k a) (.int k' b) = if b < 0 then none else some (.int k (shlV k a b.toNat)) := by
 rw [binV_int2]; by_cases h : b < 0 <;> simp [binOp, Op.shift, evS_pure, h, shlV]; rfl
theorem binV_shr {t : TypeId} {x y : Operand} {k k' : IntKind} {a b : Int} : binV P .shr t x y (.int k a) (.int k' b) = if b < 0 then none else some (.int k (shrV k a b.toNat)) := by
 rw [binV_int2]; by_cases h : b < 0 <;> simp [binOp, Op.shift, evS_pure, h, shrV]; rfl
theorem unE_xor {k : IntKind} {n : Int} : unE P .xor (some (.int k n)) = some ⟨.val (.int k (xorV k (allV k) n)), []⟩ := by
 simp [unE, Op.unary, Op.intBits, evS_pure, xorV, allV]
def intKindO (P : Program) (t : TypeId) : Option IntKind := match P.underlying t with
 | some (.int k) => some k
 | _ => none
def convI (n : Int) : Option IntKind → Option AR
 | some k => some ⟨.val (.int k (k.wrap n)), []⟩
 | none => none
def convA (P : Program) (hp : AHeap) (id : Nat) (s d : TypeId) (x : AV) (pl : Option AR) : Option AR := match x with
 | .val (.int k n) => if (intKindO P d).isSome ∧ (P.underlying s).isSome then convI n (intKindO P d) else pl
 | .val (.string s') => if (elemO P d).isSome = true then toBytesA P id s d (.val (.string s')) else pl
 | .val (.slice none 0 0) => (toStrA P hp s d (.val (.slice none 0 0))).map fun v => ⟨v, []⟩
 | .sl r => (toStrA P hp s d (.sl r)).map fun v => ⟨v, []⟩
 | .own a b c => if s = d then convS P hp d a b c else (toStrA P hp s d (.own a b c)).map fun v => ⟨v, []⟩
 | _ => pl
theorem evS_under {t : TypeId} {u : TypeDesc} (h : P.underlying t = some u) : evS P (underlying t) = some u := by
 have h0 : evS P (underlying t) = evS P (match P.underlying t with
  | some d => pure d
  | none => stuck "no such type" : Sem TypeDesc) := rfl
 rw [h0, h]; rfl
theorem aop_convert {s t : TypeId} {x : Operand} : aop P ft fr hp id ⟨d, .convert s t x, ty, pos, af, g⟩ = convA P hp id s t (fr x) (plainA P fr ⟨d, .convert s t x, ty, pos, af, g⟩) := by
 show (if isStrV (fr x) = true ∧ (elemO P t).isSome = true then toBytesA P id s t (fr x) else match fr x with
  | .val (.slice none 0 0) => (toStrA P hp s t (fr x)).map fun v => ⟨v, []⟩
  | .sl _ => (toStrA P hp s t (fr x)).map fun v => ⟨v, []⟩
  | .own a b c => if s = t then convS P hp t a b c else (toStrA P hp s t (fr x)).map fun v => ⟨v, []⟩
  | _ => plainA P fr ⟨d, .convert s t x, ty, pos, af, g⟩) = _
 unfold convA
 generalize hx : fr x = u
 cases u with
 | val v =>
  cases v with
  | int k n =>
   simp only [isStrV, Bool.false_eq_true, false_and, if_false]
   split
   ·rename_i hc
    obtain ⟨k', hk⟩ := Option.isSome_iff_exists.1 hc.1
    obtain ⟨us, hus⟩ := Option.isSome_iff_exists.1 hc.2
    have hd : P.underlying t = some (.int k') := by
     unfold intKindO at hk; split at hk
     ·cases hk; assumption
     ·cases hk
    rw [hk]
    unfold plainA plainOp
    simp [Op.operands, hx, toV, execOp, evS_bind, evS_pure, convI, convert, evS_under hus, evS_under hd, Conv.intToInt]
   ·rfl
  | string s' => simp [isStrV]
  | slice a n c => cases a <;> cases n <;> cases c <;> simp [isStrV]
  | _ => simp [isStrV]
 | _ => simp [isStrV]
end
def bytesI (s : ByteArray) : List Int := (bl s).map fun b => (b.toNat : Int)
theorem bytesI_len (s : ByteArray) : (bytesI s).length = s.size := by simp [bytesI, bl_len]
theorem bytesRows_map {enc : Int → List AV} (h : ∀ x, enc x = [.val (.int .u8 x)]) (s : ByteArray) : bytesRows s = (bytesI s).map enc := by
 unfold bytesRows bytesI bl; simp [h, Function.comp_def]
theorem byteNums_map {enc : Int → List AV} (h : ∀ x, enc x = [.val (.int .u8 x)]) : ∀ l : List Int, byteNums (l.map enc) = some l
 | [] => by simp [byteNums]
 | x :: l => by simp [byteNums, byteRow, h, byteNums_map h l]
theorem take_bytes {α : Type} {f : Int → α} {s : ByteArray} : ((bytesI s).map f).take s.size = (bytesI s).map f := List.take_of_length_le (by simp [bytesI_len])
theorem toStrA_sl {P : Program} {hp : AHeap} {s d : TypeId} {r : List (List AV)} : toStrA P hp s d (.sl r) = match elemO P s with
 | some e => if isStrT P d = true ∧ isU8 P e = true then (byteNums r).map fun ns => .val (.string (strOfNums ns)) else none
 | none => none := by
 unfold toStrA; simp only [rowsOf]; cases elemO P s <;> rfl
theorem toStrA_own {P : Program} {hp : AHeap} {s d : TypeId} {t off len : Nat} : toStrA P hp s d (.own t off len) = match rowsOf hp (.own t off len), elemO P s with
 | some r, some e => if isStrT P d = true ∧ isU8 P e = true then (byteNums r).map fun ns => .val (.string (strOfNums ns)) else none
 | _, _ => none := (rfl)
theorem rowsOf_own {hp : AHeap} {t off len : Nat} : rowsOf hp (.own t off len) = match hp t with
 | some (.row _ _ rows) => if off + len ≤ rows.length then some ((rows.drop off).take len) else none
 | _ => none := (rfl)
theorem toBytesA_str {P : Program} {id : Nat} {src dst : TypeId} {s : ByteArray} : toBytesA P id src dst (.val (.string s)) = match elemO P dst with
 | some e => if isStrT P src = true ∧ isU8 P e = true ∧ szO P e = some 1 then some ⟨.own id 0 s.size, [(id, some (.row 1 true (bytesRows s)))]⟩ else none
 | none => none := by
 unfold toBytesA; cases elemO P dst <;> rfl
attribute [go_sem] binV_quo binV_rem binV_and binV_or binV_xor binV_shl binV_shr unE_xor aop_convert convA convI take_bytes toStrA_sl toStrA_own rowsOf_own toBytesA_str bytesI_len
end Go.Gm
namespace Go.Gm
theorem natOf_lit {k : IntKind} {n : Nat} : natOf (.val (.int k (no_index (OfNat.ofNat n : Int)))) = some (OfNat.ofNat n : Nat) := by
 have : (OfNat.ofNat n : Int) = ((n : Nat) : Int) := rfl
 rw [this, natOf_cast]; rfl
attribute [go_sem] natOf_lit
end Go.Gm
namespace Go.Gm
theorem Ent.stillObj {N nx sz : Nat} {mu : Bool} {fr : Nat → AV} {hp : AHeap} {pre post : List AV} {x : AV} {q off len : Nat} (t : Nat) (h : hp t = some (.row sz mu [pre ++ .own q off len :: post])) (hx : resV hp (.own q off len) = some x) (hne : t ≠ q) :
  Ent N ⟨fr, hp, nx⟩ ⟨fr, upd (upd hp q none) t (some (.row sz mu [pre ++ x :: post])), nx⟩ := fun P G a w hc => by
 obtain ⟨c1, c2, loc, hM, hr⟩ := conc_iff.1 hc
 clear hc
 let hp' : AHeap := upd (upd hp q none) t (some (.row sz mu [pre ++ x :: post]))
 let loc' := upd loc q none
 have hother : ∀ t', t' ≠ t → t' ≠ q → hp' t' = hp t' := fun t' h1 h2 => by simp only [hp', upd_other _ _ h1, upd_other _ _ h2]
 have hq : hp' q = none := by simp only [hp', upd_other _ _ (Ne.symm hne), upd_same]
 have ht : hp' t = some (.row sz mu [pre ++ x :: post]) := by simp only [hp', upd_same]
 have hmt : ∀ b, mtOf hp' loc' b → mtOf hp loc b := by
  rintro b ⟨t', o', l', h1, h2, h3, h4, h5⟩
  by_cases e2 : t' = q
  ·subst e2; rw [hq] at h1; cases h1
  ·have h3' : loc t' = some l' := by simpa only [loc', upd_other _ _ e2] using h3
   by_cases e : t' = t
   ·subst e; rw [ht] at h1; cases h1; exact ⟨t', _, l', h, h2, h3', h4, h5⟩
   ·rw [hother t' e e2] at h1; exact ⟨t', o', l', h1, h2, h3', h4, h5⟩
 have xx : Ext (mkE G.m1 hp (fun t => t < nx) loc w) (mkE G.m1 hp' (fun t => t < nx) loc' w) := mk_ext (fun _ h => h) (fun t' l ha hl => by
  by_cases e : t' = q
  ·subst e; simp only [loc', upd_same] at hl; cases hl
  ·simpa only [loc', upd_other _ _ e] using hl) (Nat.le_refl _) (fun b _ => hmt b) (fun _ _ _ => rfl)
 have hin : inl x = true := by
  simp only [resV] at hx
  split at hx
  ·split at hx
   ·rename_i hc; cases hx; simp [inl, hc.2]
   ·cases hx
  ·cases hx
 have hval : ∀ v, Rel (mkE G.m1 hp (fun t => t < nx) loc w) (.own q off len) v → Rel (mkE G.m1 hp' (fun t => t < nx) loc' w) x v := fun v hv => by
  have hb := res_rel (G := G) hM (m := fun b => G.m1 b ∨ mtOf hp' loc' b) (fun b hb => hb.imp id (hmt b)) hv hx (fun t1 o1 n1 l he hl hlt => by
   cases he
   rintro (hb | ⟨t', o', l', k1, k2, k3, k4, k5⟩)
   ·exact hM.fgn q l hl hlt hb
   ·by_cases e : t' = q
    ·subst e; rw [hq] at k1; cases k1
    ·have k3' : loc t' = some l' := by simpa only [loc', upd_other _ _ e] using k3
     exact e (hM.inj _ _ _ _ k3' hl k5 hlt k4))
  have mv : Move (E0 (fun b => G.m1 b ∨ mtOf hp' loc' b) w) (mkE G.m1 hp' (fun t => t < nx) loc' w) :=
   ⟨Nat.le_refl _, fun b _ hn => ⟨fun hm => hn (Or.inr (hm.elim Or.inr Or.inl)), rfl⟩⟩
  exact Rel.move mv hin hb
 refine conc_iff.2 ⟨c1, c2, loc', hM.change xx (fun t' o' ho => ?_) (fun t' ho => ?_) (fun t' l hl => ?_) (fun t1 t2 l1 l2 k1 k2 => ?_) rfl rfl rfl (fun b hb => .inl (hmt b hb)) (fun t' l k1 k2 => ?_), fun d => (hr d).ext xx⟩
 ·by_cases e2 : t' = q
  ·subst e2; exact absurd ho (by rw [show upd (upd hp t' none) t (some (.row sz mu [pre ++ x :: post])) t' = none from hq]; simp)
  ·by_cases e : t' = t
   ·subst e
    have ho' : o' = .row sz mu [pre ++ x :: post] := by
     have : hp' t' = some o' := ho
     rw [ht] at this; cases this; rfl
    subst ho'
    obtain ⟨l, hl', g1, g2, g3, g4, g5, g6⟩ := hM.obj t' _ h
    refine .inr ⟨l, by simpa only [loc', upd_other _ _ e2] using hl', g1, g2, fun r hr => ?_, by simpa using g4, g5, fun hpos => ?_⟩
    ·have := g3 (pre ++ .own q off len :: post) (by simp)
     simp at hr; subst hr; simpa using this
    ·obtain ⟨c, e, fz, vs, k1, k2, k3, k4, k5, k6⟩ := g6 hpos
     refine ⟨c, e, fz, vs, k1, k2, ?_, k4, k5, k6⟩
     simp only [List.flatten_cons, List.flatten_nil, List.append_nil] at k3 ⊢
     obtain ⟨v1, v2, rfl, hv1, hv2⟩ := k3.split
     cases hv2 with
     | cons ho hs => exact (hv1.ext xx).append (.cons (hval _ ho) (hs.ext xx))
   ·exact .inl ⟨(hother t' e e2).symm.trans ho, by simp only [loc', upd_other _ _ e2], fun _ _ _ => rfl⟩
 ·by_cases e2 : t' = q
  ·subst e2; simp only [loc', upd_same]
  ·simp only [loc', upd_other _ _ e2]
   by_cases e : t' = t
   ·subst e; have : hp' t' = none := ho; rw [ht] at this; cases this
   ·exact hM.none_ t' ((hother t' e e2).symm.trans ho)
 ·by_cases e2 : t' = q
  ·subst e2; simp only [loc', upd_same] at hl; cases hl
  ·exact hM.al_ t' l (by simpa only [loc', upd_other _ _ e2] using hl)
 ·have g : ∀ t l, loc' t = some l → loc t = some l := fun t l hl => by
   by_cases e2 : t = q
   ·subst e2; simp only [loc', upd_same] at hl; cases hl
   ·simpa only [loc', upd_other _ _ e2] using hl
  exact hM.inj _ _ _ _ (g _ _ k1) (g _ _ k2)
 ·by_cases e2 : t' = q
  ·subst e2; simp only [loc', upd_same] at k1; cases k1
  ·exact .inl ⟨t', l, by simpa only [loc', upd_other _ _ e2] using k1, k2, rfl⟩
end Go.Gm
namespace Go.Gm
end Go.Gm
