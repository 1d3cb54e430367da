import Derived.Test.YtpdgnhhjaaencaaGmLd
import Derived.ProofKit
import Derived.OpenShut
import Derived.JoinedCond
import Derived.WideKeyArgs
import Derived.Deep.Slices
set_option linter.all false
set_option linter.unusedVariables false
set_option linter.unusedSimpArgs false
set_option linter.unusedVariables false
set_option linter.unusedSimpArgs false
namespace Go.Gm
open Go.ChangeShapes Go.WideShapes Go.ChangeAt Go.RowKit Go.Deep

/-- What a bound on the bulk gives of parts. -/
structure BulkOk (B : (H : Type) → DataW H → Nat) : Prop where
  str : ∀ {H : Type} (bs : List UInt8), bs.length ≤ B H (.lit (.string bs))
  len : ∀ {H : Type} (l s : List (DataW H)), l.length ≤ B H (.slice l s)
  elem : ∀ {H : Type} (l s : List (DataW H)) (d : DataW H), d ∈ l → B H d ≤ B H (.slice l s)
  part : ∀ {H : Type} (l : List (DataW H)) (d : DataW H), d ∈ l → B H d ≤ B H (.agg l)
  ptr : ∀ {H : Type} (d : DataW H), B H d ≤ B H (.ptr d)

abbrev W0 (w : World) : Env := E0 (fun _ => False) w
theorem w0_mt {w : World} {b : Nat} : ¬ (W0 w).mt b := by
  rintro (⟨t, o, l, h, _⟩ | h)
  · cases h
  · exact h

variable {B : (H : Type) → DataW H → Nat} {P : Program}

/-- Whatever reads at type 't' is a datum 'x' whose cells are 'enc x'; 'V n x': what is known of it where its bulk is at most n. -/
def TypR {α : Type} (B : (H : Type) → DataW H → Nat) (P : Program) (t : TypeId) (enc : α → List AV) (V : Nat → α → Prop) : Prop :=
  ∀ {H : Type} (e : TypeId × Value → H) (w : World) (fuel : Nat) (cs : List Value) (d : DataW H) (ps : List MemPlace),
    DataW.trod e P w 0 (fun _ => true) true fuel t cs = some (d, ps) → ∃ x : α, RelL (W0 w) (enc x) cs ∧ (∀ v ∈ cs, v.oneCell' = true) ∧ ∀ n, B H d ≤ n → V n x

theorem TypR.map {α β : Type} {t : TypeId} {enc : α → List AV} {V : Nat → α → Prop} {enc' : β → List AV} {V' : Nat → β → Prop} (h : TypR B P t enc V) (g : α → β) (he : ∀ x, enc' (g x) = enc x) (hv : ∀ n x, V n x → V' n (g x)) : TypR B P t enc' V' :=
  fun e w fuel cs d ps hd => by
    obtain ⟨x, h1, h2, h3⟩ := h e w fuel cs d ps hd
    exact ⟨g x, by rw [he]; exact h1, h2, fun n hn => hv n x (h3 n hn)⟩

theorem typ_int {t : TypeId} {k : IntKind} (ht : P.underlying t = some (.int k)) : TypR B P t (fun n : Int => [.val (.int k n)]) (fun _ n => k.min ≤ n ∧ n ≤ k.max) := fun e w fuel cs d ps h => by
  obtain ⟨n, rfl, _, hw⟩ := DataW.trod_int ht h
  refine ⟨n, .cons (.val _) .nil, by simp [Value.oneCell'], fun _ _ => ?_⟩
  simpa [Lit.wf] using hw
theorem typ_bool {t : TypeId} (ht : P.underlying t = some .bool) : TypR B P t (fun b : Bool => [.val (.bool b)]) (fun _ _ => True) := fun e w fuel cs d ps h => by
  obtain ⟨b, rfl, _⟩ := DataW.trod_bool ht h
  exact ⟨b, .cons (.val _) .nil, by simp [Value.oneCell'], fun _ _ => trivial⟩
theorem typ_str (hB : BulkOk B) {t : TypeId} (ht : P.underlying t = some .string) : TypR B P t (fun s : ByteArray => [.val (.string s)]) (fun n s => s.size ≤ n) := @fun H e w fuel cs d ps h => by
  obtain ⟨s, rfl, hx, _⟩ := DataW.trod_string ht h
  refine ⟨s, .cons (.val _) .nil, by simp [Value.oneCell'], fun n hn => ?_⟩
  have hd : d = .lit (.string s.data.toList) := (Prod.mk.inj hx).1
  have h1 := hB.str (H := H) s.data.toList
  rw [← hd] at h1
  have h2 : s.data.toList.length = s.size := rfl
  omega

theorem cells_at {w : World} {base b o n : Nat} {cs : List Value} {s : Option Nat} (h : w.cells? base ⟨b, o, s⟩ n = some cs) (h0 : 0 < n) : s = none ∧ cs.length = n ∧ ∀ k v, cs[k]? = some v → w.cell? ⟨b, o + k, none⟩ = some v := by
  obtain ⟨hb, hl, hc⟩ := World.cells?_some h
  have hs : s = none := by
    have h1 := hc 0 h0
    cases s with
    | none => rfl
    | some q =>
      have : w.cell? ((⟨b, o, some q⟩ : Addr).add 0) = none := by
        simp only [Addr.add, if_true, World.cell?]
        cases w.heap[b]? with
        | none => rfl
        | some ob => cases ob <;> simp
      rw [this] at h1
      have := List.getElem?_eq_none_iff.1 h1.symm
      omega
  subst hs
  refine ⟨rfl, hl, fun k v hk => ?_⟩
  have hlt : k < n := by have := (List.getElem?_eq_some_iff.1 hk).1; omega
  have := hc k hlt
  rw [add_none] at this
  rw [this, hk]

theorem typ_slice {α : Type} (hB : BulkOk B) {t e : TypeId} {enc : α → List AV} {V : Nat → α → Prop} (ht : P.underlying t = some (.slice e)) (he : TypR B P e enc V) {sz : Nat} (hc : P.cellsOf e = sz) (h0 : 0 < sz) :
    TypR B P t (fun l : List α => [.sl (l.map enc)]) (fun n l => l.length ≤ n ∧ ∀ x ∈ l, V n x) := fun en w fuel cs d ps h => by
  rcases open_slice ht h with ⟨rfl, _⟩ | ⟨a, len, cap, m, n, D, Pl, rfl, hb, hl, hm, hmm, hx, hel⟩
  · refine ⟨[], .cons (.sl0 _ _) .nil, by simp [Value.oneCell'], fun n hn => ⟨Nat.zero_le _, fun x hx => by cases hx⟩⟩
  · subst hc
    have hmc : m = cap := by simpa using hmm
    subst hmc
    have hex : ∀ i, i < len → ∃ x : α, ∃ cs', w.cells? 0 (a.add (i * P.cellsOf e)) (P.cellsOf e) = some cs' ∧ RelL (W0 w) (enc x) cs' ∧ (∀ v ∈ cs', v.oneCell' = true) ∧ ∀ n, B _ (D i) ≤ n → V n x := fun i hi => by
      obtain ⟨cs', h1, h2⟩ := hel i (by omega)
      obtain ⟨x, h3, h4, h5⟩ := he en w n cs' (D i) (Pl i) h2
      exact ⟨x, cs', h1, h3, h4, h5⟩
    obtain ⟨b, o, s⟩ := a
    by_cases hz : len = 0
    · subst hz
      refine ⟨[], .cons (.sl0 _ _) .nil, by simp [Value.oneCell'], fun n hn => ⟨Nat.zero_le _, fun x hx => by cases hx⟩⟩
    · have hs : s = none := by
        obtain ⟨x, cs', h1, _⟩ := hex 0 (by omega)
        simp only [Nat.zero_mul] at h1
        have : (⟨b, o, s⟩ : Addr).add 0 = ⟨b, o, s⟩ := rfl
        rw [this] at h1
        exact (cells_at h1 h0).1
      subst hs
      -- the list
      have hlist : ∀ k, k ≤ len → ∃ (l : List α) (vs : List Value), l.length = k ∧ (∀ x ∈ l, (enc x).length = P.cellsOf e) ∧ RelL (W0 w) (l.map enc).flatten vs ∧ (∀ v ∈ vs, v.oneCell' = true) ∧ (∀ j v, vs[j]? = some v → w.cell? ⟨b, o + j, none⟩ = some v) ∧ vs.length = k * P.cellsOf e ∧
          ∀ x ∈ l, ∃ i, i < len ∧ ∀ n, B _ (D i) ≤ n → V n x := by
        intro k
        induction k with
        | zero => intro _; exact ⟨[], [], rfl, by simp, .nil, by simp, by simp, by simp, by simp⟩
        | succ k ih =>
          intro hk
          obtain ⟨l, vs, g1, g2, g3, g4, g5, g6, g7⟩ := ih (by omega)
          obtain ⟨x, cs', h1, h2, h3, h4⟩ := hex k (by omega)
          rw [add_none] at h1
          obtain ⟨_, hlen, hcell⟩ := cells_at h1 h0
          refine ⟨l ++ [x], vs ++ cs', by simp [g1], ?_, ?_, ?_, ?_, by rw [List.length_append, g6, hlen, Nat.succ_mul], ?_⟩
          · intro y hy
            rcases List.mem_append.1 hy with hy | hy
            · exact g2 y hy
            · simp at hy; subst hy; rw [h2.length]; exact hlen
          · simp only [List.map_append, List.map_cons, List.map_nil, List.flatten_append, List.flatten_cons, List.flatten_nil, List.append_nil]
            exact g3.append h2
          · intro v hv
            rcases List.mem_append.1 hv with hv | hv
            · exact g4 v hv
            · exact h3 v hv
          · intro j v hj
            by_cases hlt : j < vs.length
            · rw [List.getElem?_append_left hlt] at hj; exact g5 j v hj
            · rw [List.getElem?_append_right (by omega)] at hj
              have := hcell _ _ hj
              rw [g6] at this hlt
              rw [show o + j = o + k * P.cellsOf e + (j - k * P.cellsOf e) by omega]
              exact this
          · intro y hy
            rcases List.mem_append.1 hy with hy | hy
            · exact g7 y hy
            · simp at hy; subst hy; exact ⟨k, by omega, h4⟩
      obtain ⟨l, vs, g1, g2, g3, g4, g5, g6, g7⟩ := hlist len (Nat.le_refl _)
      have hne : l.map enc ≠ [] := by
        intro hh; have := congrArg List.length hh; simp at this; rw [this] at g1; exact hz g1.symm
      have hblt : b < (W0 w).w.heap.size := by
        cases vs with
        | nil => simp at g6; have := Nat.mul_pos (Nat.pos_of_ne_zero hz) h0; omega
        | cons v vs =>
          have := g5 0 v rfl
          simp only [World.cell?] at this
          show b < w.heap.size
          cases hq : w.heap[b]? with
          | none => simp [hq] at this
          | some ob => exact (Array.getElem?_eq_some_iff.1 hq).1
      have hR : Rel (W0 w) (.sl (l.map enc)) (.slice (some ⟨b, o, none⟩) (l.map enc).length m) :=
        .sl (sz := P.cellsOf e) hblt w0_mt hne (fun r hr => by obtain ⟨x, hx, rfl⟩ := List.mem_map.1 hr; exact g2 x hx) h0 (by simp [g1]; exact hl) g4 g5 g3
      rw [List.length_map, g1] at hR
      refine ⟨l, .cons hR .nil, by simp [Value.oneCell'], fun n hn => ?_⟩
      have hd : d = .slice ((List.range len).map D) ((List.range (m - len)).map fun j => D (len + j)) := (Prod.mk.inj hx).1
      subst hd
      refine ⟨?_, fun x hx => ?_⟩
      · have := hB.len ((List.range len).map D) ((List.range (m - len)).map fun j => D (len + j))
        simp at this
        omega
      · obtain ⟨i, hi, hV⟩ := g7 x hx
        exact hV n (Nat.le_trans (hB.elem _ _ (D i) (List.mem_map.2 ⟨i, by simpa using hi, rfl⟩)) hn)

/-! ### Structs -/
def FldR {α : Type} (B : (H : Type) → DataW H → Nat) (P : Program) (L : Nat) (fs : List (TypeId × Nat)) (o : Nat) (enc : α → List AV) (V : Nat → α → Prop) : Prop :=
  ∀ {H : Type} (e : TypeId × Value → H) (w : World) (fuel : Nat) (cs : List Value) (ds : List (DataW H × List MemPlace)), cs.length = L → ds.length = fs.length →
    (∀ (i : Nat) (f : TypeId × Nat), fs[i]? = some f → DataW.trod e P w 0 (fun _ => true) true fuel f.1 ((cs.drop f.2).take (P.cellsOf f.1)) = ds[i]?) →
    ∃ x : α, RelL (W0 w) (enc x) (cs.drop o) ∧ (∀ v ∈ cs.drop o, v.oneCell' = true) ∧ ∀ n, (∀ d ∈ ds, B H d.1 ≤ n) → V n x
theorem fld_nil {L : Nat} : FldR B P L [] L (fun _ : Unit => []) (fun _ _ => True) := fun e w fuel cs ds hl _ _ => by
  refine ⟨(), ?_, ?_, fun _ _ => trivial⟩
  · rw [List.drop_of_length_le (by omega)]; exact .nil
  · rw [List.drop_of_length_le (by omega)]; simp
theorem fld_cons {α β : Type} {L o s t : Nat} {fs : List (TypeId × Nat)} {enc1 : α → List AV} {enc2 : β → List AV} {V1 : Nat → α → Prop} {V2 : Nat → β → Prop} (h1 : TypR B P t enc1 V1) (hs : P.cellsOf t = s) (hL : o + s ≤ L) (h2 : FldR B P L fs (o + s) enc2 V2) :
    FldR B P L ((t, o) :: fs) o (fun x : α × β => enc1 x.1 ++ enc2 x.2) (fun n x => V1 n x.1 ∧ V2 n x.2) := fun e w fuel cs ds hl hlen hd => by
  cases ds with
  | nil => simp at hlen
  | cons d ds =>
    have h0 := hd 0 (t, o) rfl
    simp only [List.getElem?_cons_zero] at h0
    rw [hs] at h0
    obtain ⟨x, g1, g2, g3⟩ := h1 e w fuel _ d.1 d.2 h0
    obtain ⟨y, k1, k2, k3⟩ := h2 e w fuel cs ds hl (by simpa using hlen) (fun i f hf => by simpa using hd (i + 1) f (by simpa using hf))
    have hsplit : cs.drop o = (cs.drop o).take s ++ cs.drop (o + s) := by
      rw [← List.drop_drop]; exact (List.take_append_drop s _).symm
    refine ⟨(x, y), ?_, ?_, fun n hn => ⟨g3 n (hn d (by simp)), k3 n fun d' hd' => hn d' (by simp [hd'])⟩⟩
    · rw [hsplit]; exact g1.append k1
    · rw [hsplit]; intro v hv
      rcases List.mem_append.1 hv with hv | hv
      · exact g2 v hv
      · exact k2 v hv
theorem typ_struct {α : Type} (hB : BulkOk B) {t L : Nat} {fs : Array Field} {l : List (TypeId × Nat)} {enc : α → List AV} {V : Nat → α → Prop} (ht : P.underlying t = some (.struct fs)) (hl : fs.toList.map (fun f => (f.type, f.offset)) = l) (hL : P.cellsOf t = L)
    (h : FldR B P L l 0 enc V) : TypR B P t enc V := fun e w fuel cs d ps hd => by
  obtain ⟨xs, n, rfl, hx, hlen, hxl, hf⟩ := DataW.trod_struct ht hd
  subst hl
  obtain ⟨x, h1, h2, h3⟩ := h e w n cs xs (hlen.trans hL) (by simpa using hxl) (fun i f hfi => by
    rw [List.getElem?_map] at hfi
    cases hq : fs.toList[i]? with
    | none => rw [hq] at hfi; cases hfi
    | some g =>
      rw [hq] at hfi; simp at hfi; subst hfi
      exact hf i g (by simpa using hq))
  simp only [List.drop_zero] at h1 h2
  refine ⟨x, h1, h2, fun n hn => h3 n fun y hy => Nat.le_trans ?_ hn⟩
  have hd' : d = .agg (xs.map (·.1)) := (Prod.mk.inj hx).1
  subst hd'
  exact hB.part _ _ (List.mem_map.2 ⟨y, hy, rfl⟩)

/-! ### Arguments -/
def isAg : TypeDesc → Bool
  | .struct _ => true
  | .array _ _ => true
  | _ => false
/-- The value whose cells these are. -/
def wrapA (ag : Bool) (cs : List AV) : List AV := if ag then [.agg cs] else cs
def ArgR {α : Type} (B : (H : Type) → DataW H → Nat) (P : Program) (ts : List TypeId) (enc : α → List AV) (V : Nat → α → Prop) : Prop :=
  ∀ {H : Type} (e : TypeId × Value → H) (w : World) (base : Nat) (vs : List Value) (ds : List (DataW H)) (ps : List MemPlace), (∀ (j : Nat) t v, ts[j]? = some t → vs[j]? = some v → Value.okWide P w .any base t v) →
    DataW.TrodAll e P w 0 (fun _ => true) true ts vs ds ps → ∃ x : α, RelL (W0 w) (enc x) vs ∧ ∀ n, (∀ d ∈ ds, B H d ≤ n) → V n x
theorem arg_nil : ArgR B P [] (fun _ : Unit => []) (fun _ _ => True) := fun e w base vs ds ps _ h => by
  obtain ⟨rfl, rfl, rfl⟩ := trodAll_nil h
  exact ⟨(), .nil, fun _ _ => trivial⟩
theorem arg_cons {α β : Type} {t : Nat} {d : TypeDesc} {ag : Bool} {ts : List TypeId} {enc1 : α → List AV} {enc2 : β → List AV} {V1 : Nat → α → Prop} {V2 : Nat → β → Prop} (hu : P.underlying t = some d) (ha : isAg d = ag) (h1 : TypR B P t enc1 V1) (h2 : ArgR B P ts enc2 V2) :
    ArgR B P (t :: ts) (fun x : α × β => wrapA ag (enc1 x.1) ++ enc2 x.2) (fun n x => V1 n x.1 ∧ V2 n x.2) := fun e w base vs ds ps hok h => by
  obtain ⟨v, vs', d', ds', p, q, rfl, rfl, rfl, ⟨fuel, hd⟩, hr⟩ := trodAll_cons h
  obtain ⟨x, g1, g2, g3⟩ := h1 e w fuel _ d' p hd
  obtain ⟨y, k1, k2⟩ := h2 e w base vs' ds' q (fun j t v ht hv => hok (j + 1) t v (by simpa using ht) (by simpa using hv)) hr
  have hv := hok 0 t v rfl rfl
  refine ⟨(x, y), RelL.append (vs := [v]) ?_ k1, fun n hn => ⟨g3 n (hn d' (by simp)), k2 n fun d hd => hn d (by simp [hd])⟩⟩
  subst ha
  unfold wrapA
  cases hag : isAg d with
  | true =>
    rw [if_pos rfl]
    have : ∃ cs, v = .agg cs := by
      unfold Value.okWide at hv
      rw [hu] at hv
      cases d <;> simp [isAg] at hag
      · obtain ⟨cs, h, _⟩ := hv; exact ⟨cs, h⟩
      · obtain ⟨cs, h, _⟩ := hv; exact ⟨cs, h⟩
    obtain ⟨cs, rfl⟩ := this
    exact .cons (.agg g1) .nil
  | false =>
    simp only [Bool.false_eq_true, if_false]
    have : v.cells.toList = [v] := by
      unfold Value.okWide at hv
      rw [hu] at hv
      cases d <;> simp [isAg] at hag <;> (simp only [Cell.okWide, hu] at hv) <;> (cases v <;> simp_all [Cell.ok, Value.cells])
    rw [this] at g1
    exact g1

/-! ### What a law's contract gives -/
theorem post_same {H : Type} {enc : TypeId × Value → H} {f : Func} {s : ChangeSpec} {apart fresh handsOn again : Bool} {W W' : World} {args : Array Value} {v : Value} {ds gs : List (DataW H)} {before pa pv : List MemPlace}
    (hW : DataW.Whole enc P f.params.toList s.vars apart W args.toList ds gs before)
    (hres : ∀ (b : Nat) (sp : Nat → Bool) (hd : Bool), DataW.TrodAll enc P W' b sp hd f.resultTypes.toList (v.resultList f.resultTypes.size) (s.fn H (ds ++ gs)).results [])
    (hargs : ∀ sp : Nat → Bool, (∀ p ∈ before, sp p.block = true) → DataW.TrodAll enc P W' 0 sp true f.params.toList args.toList (s.fn H (ds ++ gs)).args pa)
    (hvars : ∀ sp : Nat → Bool, (∀ p ∈ before, sp p.block = true) → DataW.TrodVars enc P W' sp s.vars (s.fn H (ds ++ gs)).vars pv)
    (hps : before = pa ++ pv) (hk : W.keptBut W' (· ∈ before)) (hfz : ∀ a : Addr, a.block < W.heap.size → W'.frozen? a = W.frozen? a)
    (hok : ∀ (j : Nat) (t : TypeId) (r : Value), f.resultTypes[j]? = some t → (v.resultList f.resultTypes.size)[j]? = some r → Value.okWide P W' .any 0 t r) :
    s.post enc P f apart fresh handsOn again W args v W' := by
  have hold : ∀ p ∈ before, (fun b => decide (b < W.heap.size)) p.block = true := fun p hp => by simpa using hW.lt p hp
  refine ⟨ds, gs, before, [], pa, pv, hW, hres _ _ _, hargs _ hold, hvars _ hold, World.keptBut_mono (fun p hp => ⟨hp, ?_⟩) hk, fun _ => ?_⟩
  · rw [hps, List.mem_append] at hp
    exact Or.inr hp
  · have hlt := hW.lt
    obtain ⟨_, _, _, _, _, hz, hn⟩ := hW
    refine ⟨hok, _, _, ([] ++ pa) ++ pv, ⟨[] ++ pa, pv, trodAll_append (hargs _ (fun _ _ => rfl)) (hres _ _ _), hvars _ (fun _ _ => rfl), rfl, ?_, ?_⟩, ?_⟩
    · intro b off hp
      have hb : MemPlace.cell b off ∈ before := by rw [hps]; simpa using hp
      rw [hfz _ (hlt _ hb)]
      exact hz b off hb
    · intro ha
      have := hn ha
      rw [hps] at this
      simpa using this
    · intro p hp _
      rw [hps]
      simpa using hp

theorem trodAll_stays {H : Type} {enc : TypeId × Value → H} (hl : laidOutB P = true) {W W' : World} (hb : ∀ b, b < W.heap.size → W'.heap[b]? = W.heap[b]?) (sp : Nat → Bool) :
    ∀ {ts : List TypeId} {vs : List Value} {ds : List (DataW H)} {ps : List MemPlace}, (∀ t ∈ ts, P.readableRec t = true ∧ t < P.types.size) → DataW.TrodAll enc P W 0 (fun _ => true) true ts vs ds ps → (∀ p ∈ ps, p.block < W.heap.size) → (∀ p ∈ ps, sp p.block = true) →
      DataW.TrodAll enc P W' 0 sp true ts vs ds ps
  | [], _, _, _, _, h, _, _ => by
    obtain ⟨rfl, rfl, rfl⟩ := trodAll_nil h
    exact trodAll_mk0
  | t :: ts, _, _, _, ht, h, hlt, hs => by
    obtain ⟨v, vs', d, ds', p, q, rfl, rfl, rfl, h1, h2⟩ := trodAll_cons h
    refine ⟨p, q, WideElems.Trod_stays hl (ht t (by simp)).1 (ht t (by simp)).2 h1 (fun x hx => ?_) (fun x hx => hs x (by simp [hx])), trodAll_stays hl hb sp (fun t ht' => ht t (by simp [ht'])) h2 (fun p hp => hlt p (by simp [hp])) (fun p hp => hs p (by simp [hp])), rfl⟩
    have hx' := hlt x (by simp [hx])
    cases x with
    | cell b off => exact cell_of_heap (hb b hx')
    | map b => exact hb b hx'

theorem law_contract {H : Type} {enc : TypeId × Value → H} {f : FuncId} {fn : Func} {s : ChangeSpec} {W : World} {args : Array Value} {ds gs : List (DataW H)} {before : List MemPlace} {us : List AV} {apart fresh handsOn again : Bool} {tb : TypeId}
    (hl : laidOutB P = true) (hT : (fn.params.toList.all fun t => P.readableRec t && decide (t < P.types.size)) = true) (hvars : s.vars = []) (hres : fn.resultTypes = #[tb]) (htb : P.underlying tb = some .bool)
    (hfn : (s.fn H ds) = { results := [.lit (.bool true)], args := ds })
    (hW : DataW.Whole enc P fn.params.toList s.vars apart W args.toList ds gs before) (hrel : RelL (W0 W) us args.toList) (hpc : PC P f us (.val (.bool true))) (htab : TabH P (fun _ => False) W) :
    Calls P f args W fun e W' => ∃ v, e = .returned v ∧ s.post enc P fn apart fresh handsOn again W args v W' := by
  have hT' : ∀ t ∈ fn.params.toList, P.readableRec t = true ∧ t < P.types.size := fun t ht => by
    have := List.all_eq_true.1 hT t ht; simpa using this
  have hlt := hW.lt
  have hW' := hW
  obtain ⟨p, q, hA, hV, rfl, hfz, hnd⟩ := hW
  rw [hvars] at hV
  obtain ⟨rfl, rfl⟩ := trodVars_none hV
  have hc := hpc (fun _ => False) W args.toList (fun _ h => h.elim) htab hrel
  have : args.toList.toArray = args := by simp
  rw [this] at hc
  refine hc.mono ?_
  rintro e W' ⟨v, hp, al, loc, r, ts, rfl, hM, hr, hs, _⟩
  have hv : v = .bool true := by
    cases r with
    | val x => simp only [sealV, Option.some.injEq, Prod.mk.injEq, AV.val.injEq] at hs; rw [hs.1] at hr; exact rel_val hr
    | agg l => simp only [sealV] at hs; cases hq : sealL hp l <;> simp [hq] at hs
    | tup l => simp only [sealV] at hs; cases hq : sealL hp l <;> simp [hq] at hs
    | sl l => simp only [sealV] at hs; split at hs <;> simp at hs
    | ip l => simp only [sealV] at hs; split at hs <;> simp at hs
    | own t o n => simp only [sealV] at hs; split at hs <;> (try split at hs) <;> simp at hs
    | clo fn f c => simp only [sealV] at hs; split at hs <;> simp at hs
    | _ => simp [sealV] at hs
  subst hv
  have hkeep : ∀ b, b < W.heap.size → W'.heap[b]? = W.heap[b]? := fun b hb => hM.keep b hb (fun h => h)
  refine ⟨_, rfl, post_same (pa := p) (pv := []) hW' ?_ ?_ ?_ rfl ?_ ?_ ?_⟩
  · intro b sp hd
    rw [hres]
    simp only [List.append_nil, hfn]
    exact trodAll_cons_mk (shut_bool htb _) trodAll_mk0
  · intro sp hsp
    simp only [List.append_nil, hfn]
    exact trodAll_stays hl hkeep sp hT' hA (fun x hx => hlt x (by simp [hx])) (fun x hx => hsp x (by simp [hx]))
  · intro sp _
    rw [hvars]
    simp only [List.append_nil, hfn]
    rfl
  · refine ⟨hM.os, hM.output, fun i hi => ?_⟩
    rw [hkeep i hi]
    cases W.heap[i]? with
    | none => rfl
    | some o => cases o <;> simp
  · intro a ha
    simp only [World.frozen?, hkeep _ ha]
  · exact ok_one hres rfl (okWide_bool_mk htb _)

theorem trodAll_len {H : Type} {enc : TypeId × Value → H} {W : World} {base : Nat} {sp : Nat → Bool} {held : Bool} : ∀ {ts : List TypeId} {vs : List Value} {ds : List (DataW H)} {ps : List MemPlace}, DataW.TrodAll enc P W base sp held ts vs ds ps → ds.length = ts.length
  | [], _, _, _, h => by obtain ⟨rfl, rfl, rfl⟩ := trodAll_nil h; rfl
  | _ :: _, _, _, _, h => by
    obtain ⟨v, vs', d, ds', p, q, rfl, rfl, rfl, h1, h2⟩ := trodAll_cons h
    simp [trodAll_len h2]
/-- A program without such tables. -/
theorem tab_none {P : Program} {m : Nat → Prop} {W : World} (h : (libTabs.all fun x => (P.globalNamed x.1).isNone) = true) : TabH P m W := fun g cs hg => by
  unfold tabs at hg
  obtain ⟨x, hx, _⟩ := Option.map_eq_some_iff.1 hg
  have h1 := List.find?_some hx
  have h2 := List.all_eq_true.1 h x (List.mem_of_find?_eq_some hx)
  simp only [beq_iff_eq] at h1
  rw [h1] at h2; cases h2
theorem law_end {α H : Type} {enc : TypeId × Value → H} {f : FuncId} {fn : Func} {s : ChangeSpec} {W : World} {base n : Nat} {args : Array Value} {ds gs : List (DataW H)} {before : List MemPlace} {apart fresh handsOn again : Bool} {tb : TypeId} {ts : List TypeId} {encA : α → List AV} {V : Nat → α → Prop}
    (hA : ArgR B P ts encA V) (hpc : ∀ x, V n x → PC P f (encA x) (.val (.bool true)))
    (hl : laidOutB P = true) (hT : (ts.all fun t => P.readableRec t && decide (t < P.types.size)) = true) (hvars : s.vars = []) (hres : fn.resultTypes = #[tb]) (htb : P.underlying tb = some .bool) (hts : fn.params = ts.toArray)
    (hfn : ∀ ds : List (DataW H), ds.length = ts.length → (s.fn H ds) = { results := [.lit (.bool true)], args := ds })
    (hval : ∀ (j : Nat) t v, fn.params[j]? = some t → args[j]? = some v → Value.okWide P W .any base t v)
    (hW : DataW.Whole enc P fn.params.toList s.vars apart W args.toList ds gs before) (hb : ∀ d ∈ ds, B H d ≤ n) (htab : TabH P (fun _ => False) W) :
    Calls P f args W fun e W' => ∃ v, e = .returned v ∧ s.post enc P fn apart fresh handsOn again W args v W' := by
  have hts' : fn.params.toList = ts := by rw [hts]
  obtain ⟨p, q, hR, _⟩ := id hW
  rw [hts'] at hR
  obtain ⟨x, hrel, hB⟩ := hA enc W base args.toList ds p (fun j t v ht hv => hval j t v (by rw [hts, ← Array.getElem?_toList]; exact ht) (by rw [← Array.getElem?_toList]; exact hv)) hR
  exact law_contract hl (by rw [hts']; exact hT) hvars hres htb (hfn ds (trodAll_len hR)) hW hrel (hpc x (hB n hb)) htab
end Go.Gm

namespace Go.Gm
attribute [go_sem] ar_nil ar_move ar_assign ar_pick ar_alloc ar_box ar_build ar_buildSlice ar_load ar_store ar_nilCheck ar_fieldAddr ar_field ar_indexAddr ar_index ar_slice ar_extract ar_bin ar_un ar_convert ar_makeFunc ar_makeInterface ar_makeSlice ar_builtin ar_call arK_some ar_g gval_some arG_tt arG_ff arG_tf arG_ft arG_un pick_nil pick_cons pickO_some ad_nil ad_o ad_g adK_some adG_tt adG_ff adG_tf adG_ft adG_un okPair_nil okPair_cons disj_nil disj_nil2 accE_nil accE_t accE_w touch_move touch_assign touch_un touch_bin touch_pick touch_load touch_nilCheck touch_store touch_fieldAddr touch_indexAddr touch_index touch_extract touch_field touch_convert touch_builtin touch_call touch_slice touchO_none touchO_some touch_alloc touch_box touch_build touch_buildSlice touch_makeSlice touch_makeInterface tidA_val tidA_sl tidA_ip tidA_own tidA_ptr tidA_agg tidA_tup tidA_any tidA_clo tidL_nil tidL_cons applyEff_nil applyEff_cons okD_some okD_none putF_some putF_none upd_ap evF_tmp evF_const evF_func callOf_fn callOf_builtin callOf_tmp callOf_move callOf_assign callOf_pick callOf_alloc callOf_box callOf_build callOf_buildSlice callOf_load callOf_store callOf_nilCheck callOf_fieldAddr callOf_indexAddr callOf_index callOf_slice callOf_extract callOf_binOp callOf_unOp callOf_convert callOf_makeFunc callOf_makeInterface callOf_makeSlice aop_move aop_assign aop_pick pickE_tt pickE_ff pickE_t pickE_f aop_alloc aop_box aop_build aop_buildSlice aop_load aop_store aop_fieldAddr aop_indexAddr aop_extract aop_makeFunc aop_makeInterface aop_makeSlice aop_call aop_append aop_bin aop_un nilB_val nilB_agg nilB_ptr nilB_ip isNilV_nil nilOp_eql nilOp_neq indexA aop_len lenO_nil lenO_sl lenO_own lenO_str binE_some binV_add binV_sub binV_mul binV_eql binV_neq binV_lss binV_leq binV_gtr binV_geq binV_seq binV_sne binV_slt binV_sle binV_sgt binV_sge unE_not unE_neg toV_val natOf_cast natOf_0 natOf_1 indexS indexR fieldP mkv cellsP liveV extractA initF_ap List.getElem?_cons_zero List.getElem?_cons_succ List.getElem?_nil List.map_cons List.map_nil List.length_cons List.length_nil List.append_nil List.nil_append List.cons_append List.flatMap_cons List.flatMap_nil List.getElem?_map List.length_map List.drop_zero List.drop_succ_cons List.take_succ_cons List.take_zero List.head?_cons Option.map_some Option.map_none Option.bind_some Option.bind_none Option.getD_some Option.getD_none Option.isSome_some Option.isSome_none true_and and_true if_true if_false ite_true ite_false decide_true decide_false eq_self Nat.le_refl Bool.true_eq_false Bool.false_eq_true Bool.not_true Bool.not_false true_or or_true Nat.left_eq_add Nat.add_eq_left Bool.or_false Bool.or_true Bool.false_or Bool.true_or Bool.and_true Bool.true_and Bool.and_false Bool.false_and claimV_val claimV_sl claimV_ip claimV_any claimV_fr claimV_agg claimV_tup claimL_nil claimL_cons shares_val shares_sl shares_ip shares_any shares_fr shares_agg shares_tup sharesL_nil sharesL_cons sharesR_nil sharesR_cons tidV_own tidV_val tidV_sl tidV_ip tidV_agg tidV_any freezeL_nil freezeL_cons effOf_nil effOf_cons afterCall_eq resV_int resV_bool resV_str resV_nil resV_sl resV_ip resV_agg resV_own resL_nil resL_cons inl_val inl_sl inl_agg inl_ip inlL_nil inlL_cons inlR_nil inlR_cons inlR_append tab_head callA_eq callQ_some callR_some fillA_nil fillA_cons plf_ap cellsOf_val cellsOf_sl cellsOf_own cellsOf_ptr cellsOf_ip cellsOf_agg oneAV_int oneAV_bool oneAV_str oneAV_slice oneAV_ptr0 oneAV_sl oneAV_ip oneAV_own oneAV_ptr over_eq storeP_ptr partsF_eq appS_own appS_nil appO_ok srcA_own srcA_sl srcA_nil srcA_str buildSliceA rowsP zrow List.all_cons List.all_nil List.set_cons_zero List.set_cons_succ List.replicate_succ List.replicate_zero List.drop_nil List.take_nil List.length_append List.length_set and_self ite_self Nat.zero_add Nat.add_zero Nat.zero_le aop_slice isStrV_sl isStrV_own isStrV_nil isStrV_str nat_pos nat_nz nat_zero int_irr Int.cast_ofNat_Int aop_index idxO_nat disj_cons List.getD_cons_zero List.getD_cons_succ List.getD_nil List.mem_cons List.not_mem_nil or_false false_or not_or forall_eq forall_eq_or_imp ne_eq not_true_eq_false not_false_eq_true
end Go.Gm
