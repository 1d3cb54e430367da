/- Regions that draw their order and end in one operation that all others lie before: that one is told outside of the abstract states. -/
import Derived.Test.YtlonihmeikmpiaaDoorGfLf
set_option linter.all false
set_option linter.unusedVariables false
set_option linter.unusedSimpArgs false
set_option linter.unusedVariables false
set_option linter.unusedSimpArgs false
namespace Go.Gm
theorem put_getD {a a0 : Act} {dst : Option Tmp} {v : Value} {d : Nat} (hd : dst ≠ some d) (h : a0.tmps = a.tmps) : (a0.put dst v).tmps.getD d undef = a.tmps.getD d undef := by
  cases dst with
  | none => simp [Act.put, h]
  | some e =>
    simp only [Act.put, h, Array.getD_eq_getD_getElem?]
    rw [Array.getElem?_setIfInBounds_ne (by intro h; exact hd (by rw [h]))]
theorem op_frame {P : Program} {o : Oper} {a : Act} {w : World} {K K' : Act → World → Prop} {Q Q' : Exit → Act → World → Prop} {d : Nat} (hd : o.dst ≠ some d) (h : ∀ a' w, a'.tmps.getD d undef = a.tmps.getD d undef → K a' w → K' a' w)
    (hp : ∀ c a w, Q (.panic c) a w → Q' (.panic c) a w) (hl : LetsOut Q → LetsOut Q') (hh : o.wp P a w K Q) : o.wp P a w K' Q' := by
  unfold Oper.wp at *
  generalize (execOp a.eval o).run P w = r at *
  cases r with
  | ok n w' =>
    cases n <;> simp only [Oper.upon] at hh ⊢ <;>
      first
        | exact h _ _ (put_getD hd rfl) hh
        | exact Calls.mono hh (fun e w'' he => by cases e <;> first | exact h _ _ (put_getD hd rfl) he | exact hp _ _ _ he | exact hl he)
        | exact Rows.mono hh (fun _ _ he => h _ _ (put_getD hd rfl) he)
  | halt x w' => cases x <;> simp only [Oper.upon] at hh ⊢ <;> first | exact hp _ _ _ hh | exact hh
theorem wpOp_frame {P : Program} {ops : Array Oper} {Q : Exit → Act → World → Prop} {i d : Nat} {a : Act} {w : World} {K K' : Act → World → Prop} (hd : ∀ o, ops[i]? = some o → o.dst ≠ some d) (h : ∀ a' w, a'.tmps.getD d undef = a.tmps.getD d undef → K a' w → K' a' w)
    (hh : wpOp P ops Q i K a w) : wpOp P ops Q i K' a w := by
  unfold wpOp at *
  split
  · exact h _ _ rfl (by simpa [*] using hh)
  · rename_i o ho
    simp only [ho] at hh
    split
    · rename_i hw; simp only [hw, if_true] at hh; exact hh.imp (op_frame (hd o ho) h (fun _ _ _ h => h) id) id
    · rename_i hw; simp only [hw] at hh; exact h _ _ (put_getD (hd o ho) rfl) hh
theorem wpList_frame {P : Program} {ops : Array Oper} {Q : Exit → Act → World → Prop} {d : Nat} {x : Value} : ∀ (l : List Oper) (a : Act) (w : World), (∀ o ∈ l, o.dst ≠ some d) → a.tmps.getD d undef = x → wpList P ops Q l a w → wpList P ops (fun e a w => Q e a w ∧ (e = .normal → a.tmps.getD d undef = x)) l a w
  | [], a, w, _, hx, h => ⟨h, fun _ => hx⟩
  | o :: l, a, w, hd, hx, h => by
    have h0 := hd o List.mem_cons_self
    have ih := fun (a : Act) (w : World) => wpList_frame (P := P) (ops := ops) (Q := Q) (d := d) (x := x) l a w (fun o ho => hd o (List.mem_cons_of_mem _ ho))
    have hl : LetsOut Q → LetsOut (fun e (a : Act) (w : World) => Q e a w ∧ (e = Exit.normal → a.tmps.getD d undef = x)) := fun ⟨a, w, h⟩ => ⟨a, w, h, fun e => by cases e⟩
    unfold wpList at h ⊢
    split
    · rename_i hw
      rw [if_pos hw] at h
      refine h.imp (fun h => op_frame h0 (fun a' w' hf hk => ih a' w' (hf.trans hx) hk) (fun c a w h => ⟨h, fun e => by cases e⟩) hl h) (fun h => ⟨h.1, hl h.2⟩)
    · rename_i hw
      rw [if_neg hw] at h
      exact ih _ _ ((put_getD h0 rfl).trans hx) h
/-- A region in the order of the text, and a frame's place that it does not write. -/
theorem wp_regionF {P : Program} {N : Nat} {ops : List Oper} {st : ASt} {id : Nat} {G : Ghost P} {a : Act} {w : World} {K : ASt → Prop} (rl : List Nat) (d : Nat) (hd : ops.all (fun o => !(o.dst == some d)) = true) (h : arun P N ops ops st (fun st' => K ⟨restr st'.fr rl, st'.hp, st'.nx⟩)) (hc : Conc G N st a w) :
    (Code.region id ops.toArray false).wp P (fun e a' w' => e = .normal ∧ ∃ st', K st' ∧ Conc G N st' a' w' ∧ a'.tmps.getD d undef = a.tmps.getD d undef) a w := by
  refine wp_mono (wp_region_list (Q := fun e a' w' => (e = .normal ∧ ∃ st', K ⟨restr st'.fr rl, st'.hp, st'.nx⟩ ∧ Conc G N st' a' w') ∧ (e = .normal → a'.tmps.getD d undef = a.tmps.getD d undef)) (by
    refine wpList_frame _ _ _ (fun o ho => ?_) rfl (arun_sound (Q' := fun e a' w' => e = .normal ∧ ∃ st', K ⟨restr st'.fr rl, st'.hp, st'.nx⟩ ∧ Conc G N st' a' w') (fun st a w hq hc => ⟨rfl, st, hq, hc⟩) hc (by simpa using h))
    have := List.all_eq_true.1 hd o (by simpa using ho)
    simpa using this)) ?_
  rintro e a' w' ⟨⟨rfl, st', h1, h2⟩, h3⟩
  exact ⟨rfl, _, h1, Ent.restr rl P G a' w' h2, h3 rfl⟩
section
variable {P : Program} {ft : FuncId → List AV → Option AV} {N : Nat} {ops : List Oper} {base : Nat}
structure LeftT (A : List (List Nat)) (ord : List Nat) (ops : List Oper) (last : Nat) (listed : Array Bool) (L : List Ev) : Prop where
  size : listed.size = ops.length
  left : ∀ i, i < ops.length → i ≠ last → listed.getD i true = false → ∃ e ∈ L, e.i = i
  un : ∀ e ∈ L, e.i < ops.length ∧ e.i ≠ last ∧ listed.getD e.i true = false ∧ ops[e.i]? = some e.o
  lastUn : listed.getD last true = false
  sorted : L.Pairwise fun e1 e2 => ord.idxOf e1.i < ord.idxOf e2.i
  pairs : L.Pairwise fun e1 e2 => e1.i ∈ A.getD e2.i [] ∨ Indep ops e1 e2
  closed : ∀ i, listed.getD i false = true → ∀ k ∈ A.getD i [], listed.getD k false = true

theorem any_soundT {G : Ghost P} {A : List (List Nat)} {ord : List Nat} {Q' : Exit → Act → World → Prop} {last : Nat} (hft : FtOk P ft) (hst : statB A ord ops = true) (hlt : last < ops.length) (hanc : ∀ i, i < ops.length → i ≠ last → i ∈ A.getD last []) (hlo : ∀ i, i < ops.length → ord.idxOf i ≤ ord.idxOf last) {d : Nat} {x : Value} (hdd : ops.all (fun o => !(o.dst == some d)) = true) :
    ∀ (n : Nat) (L : List Ev) (listed : Array Bool) (fr : Nat → AV) (hp : AHeap) (a : Act) (w : World), L.length = n → LeftT A ord ops last listed L → SV P ft N ops base L fr hp → ConcM G N fr hp (alD base listed) a w → a.tmps.getD d undef = x →
      (∀ (listed' : Array Bool) (a' : Act) (w' : World), ConcM G N (finF L fr) (finH L hp) (alD base listed') a' w' → listed'.size = ops.length → (∀ i, i < ops.length → i ≠ last → listed'.getD i false = true) → listed'.getD last true = false → a'.tmps.getD d undef = x → wpOp P ops.toArray Q' last (fun a'' w'' => Q' .normal a'' w'') a' w') → wpAny P .any ops.toArray Q' (n + 1) listed a w := by
  intro n
  induction n with
  | zero =>
    intro L listed fr hp a w hn hL hsv hc hx hQ
    obtain rfl : L = [] := List.eq_nil_of_length_eq_zero hn
    have hall : ∀ i, i < ops.length → i ≠ last → listed.getD i false = true := fun i hi hne => by
      rw [← getD_tf (by rw [hL.size]; exact hi)]
      by_cases h : listed.getD i true = true
      · exact h
      · obtain ⟨e, he, _⟩ := hL.left i hi hne (by simpa using h)
        cases he
    have hq := hQ listed a w hc hL.size hall hL.lastUn hx
    obtain ⟨ol, hol⟩ : ∃ o, ops[last]? = some o := ⟨ops[last], by simp [hlt]⟩
    refine ⟨fun hr => ?_, fun i hi => ?_⟩
    · exfalso
      have : last ∈ Region.ready .any ops.toArray listed := ready_of hlt hL.lastUn hol fun k hk => by
        obtain ⟨hkn, hki⟩ := (statB_at hst hol).1 k hk
        exact hall k hkn fun e => by subst e; omega
      rw [hr] at this; cases this
    · obtain ⟨h1, h2, o, ho, h3⟩ := mem_ready hi
      have : i = last := by
        by_cases h : i = last
        · exact h
        · have := hall i h1 h
          rw [← getD_tf (by rw [hL.size]; exact h1), h2] at this; cases this
      subst this
      refine wpOp_mono (fun a' w' h' => ⟨?_, h'⟩) hq
      apply List.eq_nil_iff_forall_not_mem.2
      intro j hj
      obtain ⟨j1, j2, _⟩ := mem_ready hj
      by_cases h : j = i
      · subst h
        simp [hL.size, j1] at j2
      · have h5 := hall j j1 h
        rw [← getD_tf (by rw [hL.size]; exact j1)] at h5
        simp only [Array.getD_eq_getD_getElem?, Array.getElem?_setIfInBounds_ne (Ne.symm h)] at j2 h5
        rw [h5] at j2; cases j2
  | succ n ih =>
    intro L listed fr hp a w hn hL hsv hc hx hQ
    have hge : ∀ {o : Oper} {i : Nat}, ops[i]? = some o → i ≠ last → i < ops.length → last ∉ directs o := fun ho hne hi hk => by
      obtain ⟨_, hki⟩ := (statB_at hst ho).1 _ hk
      have := hlo _ hi; omega
    refine ⟨fun hr => ?_, fun i hi => ?_⟩
    · -- the first one is ready
      exfalso
      cases L with
      | nil => simp at hn
      | cons e L =>
        obtain ⟨u1, u0, u2, u3⟩ := hL.un e (by simp)
        have : e.i ∈ Region.ready .any ops.toArray listed := ready_of u1 u2 u3 fun k hk => by
          obtain ⟨hkn, hki⟩ := (statB_at hst u3).1 k hk
          have hks : k < listed.size := by rw [hL.size]; omega
          rw [← getD_tf hks]
          by_cases hl : listed.getD k true = true
          · exact hl
          · have hkl : k ≠ last := fun e' => hge u3 u0 u1 (e' ▸ hk)
            obtain ⟨e', he', rfl⟩ := hL.left k hkn hkl (by simpa using hl)
            exfalso
            rcases List.mem_cons.1 he' with rfl | he'
            · omega
            · have := (List.pairwise_cons.1 hL.sorted).1 e' he'; omega
        rw [hr] at this; cases this
    · obtain ⟨h1, h2, o, ho, h3⟩ := mem_ready hi
      have hil : i ≠ last := fun e => by
        subst e
        cases L with
        | nil => simp at hn
        | cons e L =>
          obtain ⟨u1, u0, u2, u3⟩ := hL.un e (by simp)
          have hlk : listed.getD e.i false = true := by
            rcases (statB_at hst ho).2 e.i (hanc e.i u1 u0) with h | ⟨j, hj, hkj⟩
            · exact h3 _ h
            · exact hL.closed j (h3 j hj) _ hkj
          rw [getD_tf (by rw [hL.size]; exact u1)] at u2
          rw [u2] at hlk; cases hlk
      obtain ⟨e, he, hei⟩ := hL.left i h1 hil h2
      subst hei
      obtain ⟨L1, L2, rfl⟩ := List.append_of_mem he
      have hidx : ∀ k ∈ L1, Indep ops k e := fun k hk => by
        have hp := (List.pairwise_append.1 hL.pairs).2.2 k hk e (by simp)
        rcases hp with hp | hp
        · exfalso
          obtain ⟨_, _, k2, _⟩ := hL.un k (by simp [hk])
          have hlk : listed.getD k.i false = true := by
            rcases (statB_at hst ho).2 k.i hp with h | ⟨j, hj, hkj⟩
            · exact h3 _ h
            · exact hL.closed j (h3 j hj) _ hkj
          rw [getD_tf (by rw [hL.size]; exact (hL.un k (by simp [hk])).1)] at k2
          rw [k2] at hlk; cases hlk
        · exact hp
      obtain ⟨g1, g2, g3, g4⟩ := frontE hsv hidx
      have hoe : ops[e.i]? = some e.o := (hL.un e (by simp)).2.2.2
      have hes : e.i < listed.size := by rw [hL.size]; exact h1
      have hfresh : Fresh (alD base listed) (base + 8 * e.i) := by
        intro t t1 t2 ht
        rcases ht with ht | ⟨j, hj, j1, j2⟩
        · omega
        · have : j = e.i := by omega
          subst this
          rw [← getD_tf hes, h2] at hj; cases hj
      refine wpOp_frame (d := d) (fun o ho => by
        have hoo : o ∈ ops := List.mem_of_getElem? (by simpa using ho)
        simpa using List.all_eq_true.1 hdd o hoo) ?_ (opE hft hc g1 hoe hfresh fun a' w' hc' => hc')
      intro a' w' hfr hc'
      have hset : ∀ k, (listed.setIfInBounds e.i true).getD k false = if k = e.i then true else listed.getD k false := fun k => by
        by_cases hk : k = e.i
        · subst hk; simp [hes]
        · simp [hk, Array.getElem?_setIfInBounds_ne (Ne.symm hk)]
      have hsett : ∀ k, (listed.setIfInBounds e.i true).getD k true = if k = e.i then true else listed.getD k true := fun k => by
        by_cases hk : k = e.i
        · subst hk; simp [hes]
        · simp [hk, Array.getElem?_setIfInBounds_ne (Ne.symm hk)]
      have hsub : ∀ x, x ∈ L1 ++ L2 → x ∈ L1 ++ e :: L2 := fun x hx => by
        rcases List.mem_append.1 hx with h | h
        · exact List.mem_append_left _ h
        · exact List.mem_append_right _ (List.mem_cons_of_mem _ h)
      have hsl : (L1 ++ L2).Sublist (L1 ++ e :: L2) := List.Sublist.append (List.Sublist.refl _) (List.sublist_cons_self _ _)
      have hne : ∀ x ∈ L1 ++ L2, x.i ≠ e.i := fun x hx => by
        have hs := hL.sorted
        rcases List.mem_append.1 hx with h | h
        · have := (List.pairwise_append.1 hs).2.2 x h e (by simp); intro hxe; rw [hxe] at this; omega
        · have := (List.pairwise_cons.1 (List.pairwise_append.1 hs).2.1).1 x h; intro hxe; rw [hxe] at this; omega
      refine ih (L1 ++ L2) (listed.setIfInBounds e.i true) (appF fr e) (appH hp e) a' w' (by simp at hn ⊢; omega) ?_ g2 ?_ ?_ ?_
      · refine ⟨by simpa using hL.size, fun k hk hkn hkl => ?_, fun x hx => ?_, by rw [hsett, if_neg (Ne.symm hil)]; exact hL.lastUn, hL.sorted.sublist hsl, hL.pairs.sublist hsl, fun k hk q hq => ?_⟩
        · rw [hsett] at hkl
          split at hkl
          · cases hkl
          · rename_i hke
            obtain ⟨x, hx, rfl⟩ := hL.left k hk hkn hkl
            refine ⟨x, ?_, rfl⟩
            rcases List.mem_append.1 hx with h | h
            · exact List.mem_append_left _ h
            · rcases List.mem_cons.1 h with rfl | h
              · exact absurd rfl hke
              · exact List.mem_append_right _ h
        · obtain ⟨x1, x0, x2, x3⟩ := hL.un x (hsub x hx)
          exact ⟨x1, x0, by rw [hsett, if_neg (hne x hx)]; exact x2, x3⟩
        · rw [hset] at hk ⊢
          split
          · rfl
          · split at hk
            · rename_i hke
              subst hke
              rcases (statB_at hst ho).2 q hq with h | ⟨j, hj, hkj⟩
              · exact h3 _ h
              · exact hL.closed j (h3 j hj) _ hkj
            · exact hL.closed k hk q hq
      · obtain ⟨c1, c2, loc, hM, hrel⟩ := hc'
        obtain ⟨hM2, x2⟩ := hM.more (al' := alD base (listed.setIfInBounds e.i true)) (fun t ht => by
          rcases ht with (ht | ⟨j, hj, hjt⟩) | ht
          · exact .inl ht
          · exact .inr ⟨j, by rw [hset]; split <;> simp_all, hjt⟩
          · exact .inr ⟨e.i, by rw [hset]; simp, by omega⟩)
        exact ⟨c1, c2, loc, hM2, fun d => (hrel d).ext x2⟩
      · exact hfr.trans hx
      · intro listed' a2 w2 hc2 hs2
        rw [← g3, ← g4] at hc2
        exact hQ listed' a2 w2 hc2 hs2

/-- A region that draws, but for its last operation. -/
theorem wp_drawT (d : Nat) {st : ASt} {id : Nat} {G : Ghost P} {a : Act} {w : World} {Q' : Exit → Act → World → Prop} {K : (Nat → AV) → AHeap → Prop} (A : List (List Nat)) (ord : List Nat) (last : Nat) (hft : FtOk P ft) (hm : P.follows .mixedOrders = true) (hs : statB A (ord ++ [last]) ops = true) (hp : pairB A (ord ++ [last]) ops = true)
    (hal : (List.range ops.length).all (fun i => decide (i = last) || (A.getD last []).contains i) = true)
    (h : adrun P ft N ops A st.nx (pick ops ord) st.fr st.hp [] K) (hc : Conc G N st a w)
    (hdd : ops.all (fun o => !(o.dst == some d)) = true)
    (hk : ∀ (fr : Nat → AV) (hp : AHeap) (a' : Act) (w' : World), K fr hp → Conc G N ⟨fr, hp, st.nx + 8 * ops.length⟩ a' w' → a'.tmps.getD d undef = a.tmps.getD d undef → wpOp P ops.toArray Q' last (fun a'' w'' => Q' .normal a'' w'') a' w') : (Code.region id ops.toArray true).wp P Q' a w := by
  refine wp_region_any hm ?_
  have hperm : permB (ord ++ [last]) ops.length = true := by unfold statB at hs; simp only [Bool.and_eq_true] at hs; exact hs.1
  simp only [permB, Bool.and_eq_true, decide_eq_true_eq, List.all_eq_true] at hperm
  obtain ⟨⟨⟨ho1, ho2⟩, ho3⟩, ho4⟩ := hperm
  obtain ⟨hpm1, hpm2⟩ := pick_map (ops := ops) ord (fun i hi => ho3 i (List.mem_append_left _ hi))
  obtain ⟨L, q1, q2, q3, q4, _, q6⟩ := adrun_events _ _ _ _ h hpm2
  rw [hpm1] at q3
  obtain ⟨c1, c2, loc, hM, hrel⟩ := hc
  have hMd := hM.world (w' := { w with drawn := w.drawn + 1 }) rfl rfl rfl rfl
  have xd : Ext (mkE G.m1 st.hp (fun t => t < st.nx) loc w) (mkE G.m1 st.hp (fun t => t < st.nx) loc { w with drawn := w.drawn + 1 }) := Ext.world rfl
  have hoL : ord.length = L.length := by have := congrArg List.length q3; simpa using this.symm
  have hlen : L.length + 1 = ops.length := by simp at ho1; omega
  have hlt : last < ops.length := ho3 last (by simp)
  have hnl : last ∉ ord := fun h => by
    have := List.nodup_append.1 ho2
    exact this.2.2 last h last (by simp) rfl
  have hord : ∀ k (hk : k < L.length), ord[k]? = some L[k].i := fun k hk => by
    rw [← q3]; simp [hk]
  have hord' : ∀ k (hk : k < L.length), (ord ++ [last])[k]? = some L[k].i := fun k hk => by
    rw [List.getElem?_append_left (by omega)]; exact hord k hk
  have hrk : ∀ k (hk : k < L.length), (ord ++ [last]).idxOf L[k].i = k := fun k hk => by
    have h1 : k < (ord ++ [last]).length := by simp; omega
    have h2 : (ord ++ [last])[k] = L[k].i := by have := hord' k hk; rw [List.getElem?_eq_getElem h1] at this; exact Option.some.inj this
    rw [← h2]; exact ho2.idxOf_getElem k h1
  have hil : (ord ++ [last]).idxOf last = L.length := by
    have h1 : L.length < (ord ++ [last]).length := by simp; omega
    have h2 : (ord ++ [last])[L.length] = last := by
      rw [List.getElem_append_right (by omega)]; simp
    have := ho2.idxOf_getElem L.length h1
    rwa [h2] at this
  have hfalse : ∀ i, (Array.replicate ops.length false).getD i false = false := fun i => by
    by_cases hi : i < ops.length <;> simp [hi]
  obtain ⟨hM2, x2⟩ := hMd.more (al' := alD st.nx (Array.replicate ops.length false)) (fun t ht => .inl ht)
  have hsz : ops.toArray.size = ops.length := by simp
  rw [show ops.toArray.size = ops.length from hsz, ← hlen]
  have hmem : ∀ i, i < ops.length → i ≠ last → i ∈ ord := fun i hi hne => by
    have : i ∈ ord ++ [last] := by simpa using ho4 i (by simpa using hi)
    rcases List.mem_append.1 this with h | h
    · exact h
    · simp at h; exact absurd h hne
  refine any_soundT (G := G) (A := A) (ord := ord ++ [last]) (last := last) hft hs hlt (fun i hi hne => ?_) (fun i hi => ?_) (d := d) (x := a.tmps.getD d undef) hdd L.length L (Array.replicate (L.length + 1) false) st.fr st.hp a { w with drawn := w.drawn + 1 } rfl ?_ q2 ?_ rfl ?_
  · have := List.all_eq_true.1 hal i (by simpa using hi)
    simpa [hne] using this
  · rw [hil]
    have : i ∈ ord ++ [last] := by simpa using ho4 i (by simpa using hi)
    have h2 := List.idxOf_lt_length_iff.2 this
    simp at h2; omega
  · rw [hlen]
    refine ⟨by simp, fun i hi hne _ => ?_, fun e he => ?_, by simp [hlt], ?_, ?_, fun i hi => ?_⟩
    · have := hmem i hi hne
      rw [← q3] at this
      obtain ⟨e, he, rfl⟩ := List.mem_map.1 this
      exact ⟨e, he, rfl⟩
    · have hlt2 : e.i < ops.length := (List.getElem?_eq_some_iff.1 (q4 _ he)).1
      have hin : e.i ∈ ord := by rw [← q3]; exact List.mem_map_of_mem he
      exact ⟨hlt2, fun h => hnl (h ▸ hin), by simp [hlt2], q4 _ he⟩
    · rw [List.pairwise_iff_getElem]
      intro i j hi hj hij
      rw [hrk i hi, hrk j hj]; exact hij
    · rw [List.pairwise_iff_getElem]
      intro i j hi hj hij
      have h6 := (List.pairwise_iff_getElem.1 q6) i j hi hj hij
      have h7 := pairB_at hp hij (hord' i hi) (hord' j hj) (q4 _ (List.getElem_mem hi)) (q4 _ (List.getElem_mem hj))
      rcases h7 with h7 | h7
      · exact .inl h7
      · rcases h6 with h6 | ⟨a1, a2, a3⟩
        · exact .inl h6
        · obtain ⟨s1, s2, s3⟩ := Oper.apart_spec h7
          exact .inr ⟨s1, s2, s3, a1, a2, a3⟩
    · rw [hfalse] at hi; cases hi
  · rw [hlen]
    exact ⟨c1, c2, loc, hM2, fun d => ((hrel d).ext xd).ext x2⟩
  · rintro listed a' w' ⟨d1, d2, loc', hM', hrel'⟩ hls _ _ hfr
    obtain ⟨hM3, x3⟩ := hM'.more (al' := fun t => t < st.nx + 8 * ops.length) (fun t ht => by
      rcases ht with ht | ⟨i, hi, h1, h2⟩
      · omega
      · have : i < ops.length := by
          rw [← hls]
          by_cases hlt : i < listed.size
          · exact hlt
          · simp [hlt] at hi
        omega)
    exact hk _ _ a' w' q1 ⟨d1, d2, loc', hM3, fun d => (hrel' d).ext x3⟩ hfr
end
end Go.Gm
