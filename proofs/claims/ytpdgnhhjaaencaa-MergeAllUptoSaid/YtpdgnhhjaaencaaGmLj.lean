import Derived.Test.YtpdgnhhjaaencaaGmLf
import Derived.Test.YtpdgnhhjaaencaaGmLh
import Derived.RangeFuncFrom
set_option linter.all false
set_option linter.unusedVariables false
set_option linter.unusedSimpArgs false
set_option linter.unusedVariables false
set_option linter.unusedSimpArgs false
namespace Go.Gm
theorem put_getD {a a0 : Act} {dst : Option Tmp} {v : Value} {d : Nat} (hd : dst ≠ some d) (h : a0.tmps = a.tmps) : (a0.put dst v).tmps.getD d undef = a.tmps.getD d undef := by
  cases dst with
  | none => simp [Act.put, h]
  | some e =>
    simp only [Act.put, h, Array.getD_eq_getD_getElem?]
    rw [Array.getElem?_setIfInBounds_ne (by intro h; exact hd (by rw [h]))]
theorem op_frame {P : Program} {o : Oper} {a : Act} {w : World} {K K' : Act → World → Prop} {Q Q' : Exit → Act → World → Prop} {d : Nat} (hd : o.dst ≠ some d) (h : ∀ a' w, a'.tmps.getD d undef = a.tmps.getD d undef → K a' w → K' a' w)
    (hp : ∀ c a w, Q (.panic c) a w → Q' (.panic c) a w) (hl : LetsOut Q → LetsOut Q') (hh : o.wp P a w K Q) : o.wp P a w K' Q' := by
  unfold Oper.wp at *
  generalize (execOp a.eval o).run P w = r at *
  cases r with
  | ok n w' =>
    cases n <;> simp only [Oper.upon] at hh ⊢ <;>
      first
        | exact h _ _ (put_getD hd rfl) hh
        | exact Calls.mono hh (fun e w'' he => by cases e <;> first | exact h _ _ (put_getD hd rfl) he | exact hp _ _ _ he | exact hl he)
        | exact Rows.mono hh (fun _ _ he => h _ _ (put_getD hd rfl) he)
  | halt x w' => cases x <;> simp only [Oper.upon] at hh ⊢ <;> first | exact hp _ _ _ hh | exact hh
theorem wpOp_frame {P : Program} {ops : Array Oper} {Q : Exit → Act → World → Prop} {i d : Nat} {a : Act} {w : World} {K K' : Act → World → Prop} (hd : ∀ o, ops[i]? = some o → o.dst ≠ some d) (h : ∀ a' w, a'.tmps.getD d undef = a.tmps.getD d undef → K a' w → K' a' w)
    (hh : wpOp P ops Q i K a w) : wpOp P ops Q i K' a w := by
  unfold wpOp at *
  split
  · exact h _ _ rfl (by simpa [*] using hh)
  · rename_i o ho
    simp only [ho] at hh
    split
    · rename_i hw; simp only [hw, if_true] at hh; exact hh.imp (op_frame (hd o ho) h (fun _ _ _ h => h) id) id
    · rename_i hw; simp only [hw] at hh; exact h _ _ (put_getD (hd o ho) rfl) hh
theorem wpList_frame {P : Program} {ops : Array Oper} {Q : Exit → Act → World → Prop} {d : Nat} {x : Value} : ∀ (l : List Oper) (a : Act) (w : World), (∀ o ∈ l, o.dst ≠ some d) → a.tmps.getD d undef = x → wpList P ops Q l a w → wpList P ops (fun e a w => Q e a w ∧ (e = .normal → a.tmps.getD d undef = x)) l a w
  | [], a, w, _, hx, h => ⟨h, fun _ => hx⟩
  | o :: l, a, w, hd, hx, h => by
    have h0 := hd o List.mem_cons_self
    have ih := fun (a : Act) (w : World) => wpList_frame (P := P) (ops := ops) (Q := Q) (d := d) (x := x) l a w (fun o ho => hd o (List.mem_cons_of_mem _ ho))
    have hl : LetsOut Q → LetsOut (fun e (a : Act) (w : World) => Q e a w ∧ (e = Exit.normal → a.tmps.getD d undef = x)) := fun ⟨a, w, h⟩ => ⟨a, w, h, fun e => by cases e⟩
    unfold wpList at h ⊢
    split
    · rename_i hw
      rw [if_pos hw] at h
      refine h.imp (fun h => op_frame h0 (fun a' w' hf hk => ih a' w' (hf.trans hx) hk) (fun c a w h => ⟨h, fun e => by cases e⟩) hl h) (fun h => ⟨h.1, hl h.2⟩)
    · rename_i hw
      rw [if_neg hw] at h
      exact ih _ _ ((put_getD h0 rfl).trans hx) h
/-- A region in the order of the text, and a frame's place that it does not write. -/
theorem wp_regionF {P : Program} {N : Nat} {ops : List Oper} {st : ASt} {id : Nat} {G : Ghost P} {a : Act} {w : World} {K : ASt → Prop} (rl : List Nat) (d : Nat) (hd : ops.all (fun o => !(o.dst == some d)) = true) (h : arun P N ops ops st (fun st' => K ⟨restr st'.fr rl, st'.hp, st'.nx⟩)) (hc : Conc G N st a w) :
    (Code.region id ops.toArray false).wp P (fun e a' w' => e = .normal ∧ ∃ st', K st' ∧ Conc G N st' a' w' ∧ a'.tmps.getD d undef = a.tmps.getD d undef) a w := by
  refine wp_mono (wp_region_list (Q := fun e a' w' => (e = .normal ∧ ∃ st', K ⟨restr st'.fr rl, st'.hp, st'.nx⟩ ∧ Conc G N st' a' w') ∧ (e = .normal → a'.tmps.getD d undef = a.tmps.getD d undef)) (by
    refine wpList_frame _ _ _ (fun o ho => ?_) rfl (by
      have := arun_sound (md := none) (Q' := fun e a' w' => e = .normal ∧ ∃ st', K ⟨restr st'.fr rl, st'.hp, st'.nx⟩ ∧ Conc G N st' a' w') (fun st a w hq hc => ⟨rfl, st, hq, hc⟩) hc h
      exact this)
    have := List.all_eq_true.1 hd o (by simpa using ho)
    simpa using this)) ?_
  rintro e a' w' ⟨⟨rfl, st', h1, h2⟩, h3⟩
  exact ⟨rfl, _, h1, Ent.restr rl P G a' w' h2, h3 rfl⟩
section
variable {P : Program} {ft : FuncId → List AV → Option AV} {N : Nat} {ops : List Oper} {base : Nat}
structure LeftT (A : List (List Nat)) (ord : List Nat) (ops : List Oper) (last : Nat) (listed : Array Bool) (L : List Ev) : Prop where
  size : listed.size = ops.length
  left : ∀ i, i < ops.length → i ≠ last → listed.getD i true = false → ∃ e ∈ L, e.i = i
  un : ∀ e ∈ L, e.i < ops.length ∧ e.i ≠ last ∧ listed.getD e.i true = false ∧ ops[e.i]? = some e.o
  lastUn : listed.getD last true = false
  sorted : L.Pairwise fun e1 e2 => ord.idxOf e1.i < ord.idxOf e2.i
  pairs : L.Pairwise fun e1 e2 => e1.i ∈ A.getD e2.i [] ∨ Indep ops e1 e2
  closed : ∀ i, listed.getD i false = true → ∀ k ∈ A.getD i [], listed.getD k false = true

theorem any_soundT {G : Ghost P} {A : List (List Nat)} {ord : List Nat} {Q' : Exit → Act → World → Prop} {last : Nat} (hft : FtOk P ft) (hst : statB A ord ops = true) (hlt : last < ops.length) (hanc : ∀ i, i < ops.length → i ≠ last → i ∈ A.getD last []) (hlo : ∀ i, i < ops.length → ord.idxOf i ≤ ord.idxOf last) {d : Nat} {x : Value} (hdd : ops.all (fun o => !(o.dst == some d)) = true) :
    ∀ (n : Nat) (L : List Ev) (listed : Array Bool) (fr : Nat → AV) (hp : AHeap) (a : Act) (w : World), L.length = n → LeftT A ord ops last listed L → SV P ft N ops base L fr hp → ConcM G N fr hp (alD base listed) a w → a.tmps.getD d undef = x →
      (∀ (listed' : Array Bool) (a' : Act) (w' : World), ConcM G N (finF L fr) (finH L hp) (alD base listed') a' w' → listed'.size = ops.length → (∀ i, i < ops.length → i ≠ last → listed'.getD i false = true) → listed'.getD last true = false → a'.tmps.getD d undef = x → wpOp P ops.toArray Q' last (fun a'' w'' => Q' .normal a'' w'') a' w') → wpAny P .any ops.toArray Q' (n + 1) listed a w := by
  intro n
  induction n with
  | zero =>
    intro L listed fr hp a w hn hL hsv hc hx hQ
    obtain rfl : L = [] := List.eq_nil_of_length_eq_zero hn
    have hall : ∀ i, i < ops.length → i ≠ last → listed.getD i false = true := fun i hi hne => by
      rw [← getD_tf (by rw [hL.size]; exact hi)]
      by_cases h : listed.getD i true = true
      · exact h
      · obtain ⟨e, he, _⟩ := hL.left i hi hne (by simpa using h)
        cases he
    have hq := hQ listed a w hc hL.size hall hL.lastUn hx
    obtain ⟨ol, hol⟩ : ∃ o, ops[last]? = some o := ⟨ops[last], by simp [hlt]⟩
    refine ⟨fun hr => ?_, fun i hi => ?_⟩
    · exfalso
      have : last ∈ Region.ready .any ops.toArray listed := ready_of hlt hL.lastUn hol fun k hk => by
        obtain ⟨hkn, hki⟩ := (statB_at hst hol).1 k hk
        exact hall k hkn fun e => by subst e; omega
      rw [hr] at this; cases this
    · obtain ⟨h1, h2, o, ho, h3⟩ := mem_ready hi
      have : i = last := by
        by_cases h : i = last
        · exact h
        · have := hall i h1 h
          rw [← getD_tf (by rw [hL.size]; exact h1), h2] at this; cases this
      subst this
      refine wpOp_mono (fun a' w' h' => ⟨?_, h'⟩) hq
      apply List.eq_nil_iff_forall_not_mem.2
      intro j hj
      obtain ⟨j1, j2, _⟩ := mem_ready hj
      by_cases h : j = i
      · subst h
        simp [hL.size, j1] at j2
      · have h5 := hall j j1 h
        rw [← getD_tf (by rw [hL.size]; exact j1)] at h5
        simp only [Array.getD_eq_getD_getElem?, Array.getElem?_setIfInBounds_ne (Ne.symm h)] at j2 h5
        rw [h5] at j2; cases j2
  | succ n ih =>
    intro L listed fr hp a w hn hL hsv hc hx hQ
    have hge : ∀ {o : Oper} {i : Nat}, ops[i]? = some o → i ≠ last → i < ops.length → last ∉ directs o := fun ho hne hi hk => by
      obtain ⟨_, hki⟩ := (statB_at hst ho).1 _ hk
      have := hlo _ hi; omega
    refine ⟨fun hr => ?_, fun i hi => ?_⟩
    · -- the first one is ready
      exfalso
      cases L with
      | nil => simp at hn
      | cons e L =>
        obtain ⟨u1, u0, u2, u3⟩ := hL.un e (by simp)
        have : e.i ∈ Region.ready .any ops.toArray listed := ready_of u1 u2 u3 fun k hk => by
          obtain ⟨hkn, hki⟩ := (statB_at hst u3).1 k hk
          have hks : k < listed.size := by rw [hL.size]; omega
          rw [← getD_tf hks]
          by_cases hl : listed.getD k true = true
          · exact hl
          · have hkl : k ≠ last := fun e' => hge u3 u0 u1 (e' ▸ hk)
            obtain ⟨e', he', rfl⟩ := hL.left k hkn hkl (by simpa using hl)
            exfalso
            rcases List.mem_cons.1 he' with rfl | he'
            · omega
            · have := (List.pairwise_cons.1 hL.sorted).1 e' he'; omega
        rw [hr] at this; cases this
    · obtain ⟨h1, h2, o, ho, h3⟩ := mem_ready hi
      have hil : i ≠ last := fun e => by
        subst e
        cases L with
        | nil => simp at hn
        | cons e L =>
          obtain ⟨u1, u0, u2, u3⟩ := hL.un e (by simp)
          have hlk : listed.getD e.i false = true := by
            rcases (statB_at hst ho).2 e.i (hanc e.i u1 u0) with h | ⟨j, hj, hkj⟩
            · exact h3 _ h
            · exact hL.closed j (h3 j hj) _ hkj
          rw [getD_tf (by rw [hL.size]; exact u1)] at u2
          rw [u2] at hlk; cases hlk
      obtain ⟨e, he, hei⟩ := hL.left i h1 hil h2
      subst hei
      obtain ⟨L1, L2, rfl⟩ := List.append_of_mem he
      have hidx : ∀ k ∈ L1, Indep ops k e := fun k hk => by
        have hp := (List.pairwise_append.1 hL.pairs).2.2 k hk e (by simp)
        rcases hp with hp | hp
        · exfalso
          obtain ⟨_, _, k2, _⟩ := hL.un k (by simp [hk])
          have hlk : listed.getD k.i false = true := by
            rcases (statB_at hst ho).2 k.i hp with h | ⟨j, hj, hkj⟩
            · exact h3 _ h
            · exact hL.closed j (h3 j hj) _ hkj
          rw [getD_tf (by rw [hL.size]; exact (hL.un k (by simp [hk])).1)] at k2
          rw [k2] at hlk; cases hlk
        · exact hp
      obtain ⟨g1, g2, g3, g4⟩ := frontE hsv hidx
      have hoe : ops[e.i]? = some e.o := (hL.un e (by simp)).2.2.2
      have hes : e.i < listed.size := by rw [hL.size]; exact h1
      have hfresh : Fresh (alD base listed) (base + 8 * e.i) := by
        intro t t1 t2 ht
        rcases ht with ht | ⟨j, hj, j1, j2⟩
        · omega
        · have : j = e.i := by omega
          subst this
          rw [← getD_tf hes, h2] at hj; cases hj
      refine wpOp_frame (d := d) (fun o ho => by
        have hoo : o ∈ ops := List.mem_of_getElem? (by simpa using ho)
        simpa using List.all_eq_true.1 hdd o hoo) ?_ (opE hft hc g1 hoe hfresh fun a' w' hc' => hc')
      intro a' w' hfr hc'
      have hset : ∀ k, (listed.setIfInBounds e.i true).getD k false = if k = e.i then true else listed.getD k false := fun k => by
        by_cases hk : k = e.i
        · subst hk; simp [hes]
        · simp [hk, Array.getElem?_setIfInBounds_ne (Ne.symm hk)]
      have hsett : ∀ k, (listed.setIfInBounds e.i true).getD k true = if k = e.i then true else listed.getD k true := fun k => by
        by_cases hk : k = e.i
        · subst hk; simp [hes]
        · simp [hk, Array.getElem?_setIfInBounds_ne (Ne.symm hk)]
      have hsub : ∀ x, x ∈ L1 ++ L2 → x ∈ L1 ++ e :: L2 := fun x hx => by
        rcases List.mem_append.1 hx with h | h
        · exact List.mem_append_left _ h
        · exact List.mem_append_right _ (List.mem_cons_of_mem _ h)
      have hsl : (L1 ++ L2).Sublist (L1 ++ e :: L2) := List.Sublist.append (List.Sublist.refl _) (List.sublist_cons_self _ _)
      have hne : ∀ x ∈ L1 ++ L2, x.i ≠ e.i := fun x hx => by
        have hs := hL.sorted
        rcases List.mem_append.1 hx with h | h
        · have := (List.pairwise_append.1 hs).2.2 x h e (by simp); intro hxe; rw [hxe] at this; omega
        · have := (List.pairwise_cons.1 (List.pairwise_append.1 hs).2.1).1 x h; intro hxe; rw [hxe] at this; omega
      refine ih (L1 ++ L2) (listed.setIfInBounds e.i true) (appF fr e) (appH hp e) a' w' (by simp at hn ⊢; omega) ?_ g2 ?_ ?_ ?_
      · refine ⟨by simpa using hL.size, fun k hk hkn hkl => ?_, fun x hx => ?_, by rw [hsett, if_neg (Ne.symm hil)]; exact hL.lastUn, hL.sorted.sublist hsl, hL.pairs.sublist hsl, fun k hk q hq => ?_⟩
        · rw [hsett] at hkl
          split at hkl
          · cases hkl
          · rename_i hke
            obtain ⟨x, hx, rfl⟩ := hL.left k hk hkn hkl
            refine ⟨x, ?_, rfl⟩
            rcases List.mem_append.1 hx with h | h
            · exact List.mem_append_left _ h
            · rcases List.mem_cons.1 h with rfl | h
              · exact absurd rfl hke
              · exact List.mem_append_right _ h
        · obtain ⟨x1, x0, x2, x3⟩ := hL.un x (hsub x hx)
          exact ⟨x1, x0, by rw [hsett, if_neg (hne x hx)]; exact x2, x3⟩
        · rw [hset] at hk ⊢
          split
          · rfl
          · split at hk
            · rename_i hke
              subst hke
              rcases (statB_at hst ho).2 q hq with h | ⟨j, hj, hkj⟩
              · exact h3 _ h
              · exact hL.closed j (h3 j hj) _ hkj
            · exact hL.closed k hk q hq
      · obtain ⟨c1, c2, loc, hM, hrel⟩ := hc'
        obtain ⟨hM2, x2⟩ := hM.more (al' := alD base (listed.setIfInBounds e.i true)) (fun t ht => by
          rcases ht with (ht | ⟨j, hj, hjt⟩) | ht
          · exact .inl ht
          · exact .inr ⟨j, by rw [hset]; split <;> simp_all, hjt⟩
          · exact .inr ⟨e.i, by rw [hset]; simp, by omega⟩)
        exact ⟨c1, c2, loc, hM2, fun d => (hrel d).ext x2⟩
      · exact hfr.trans hx
      · intro listed' a2 w2 hc2 hs2
        rw [← g3, ← g4] at hc2
        exact hQ listed' a2 w2 hc2 hs2

/-- A region that draws, but for its last operation. -/
theorem wp_drawT (d : Nat) {st : ASt} {id : Nat} {G : Ghost P} {a : Act} {w : World} {Q' : Exit → Act → World → Prop} {K : (Nat → AV) → AHeap → Prop} (A : List (List Nat)) (ord : List Nat) (last : Nat) (hft : FtOk P ft) (hm : P.follows .mixedOrders = true) (hs : statB A (ord ++ [last]) ops = true) (hp : pairB A (ord ++ [last]) ops = true)
    (hal : (List.range ops.length).all (fun i => decide (i = last) || (A.getD last []).contains i) = true)
    (h : adrun P ft N ops A st.nx (pick ops ord) st.fr st.hp [] K) (hc : Conc G N st a w)
    (hdd : ops.all (fun o => !(o.dst == some d)) = true)
    (hk : ∀ (fr : Nat → AV) (hp : AHeap) (a' : Act) (w' : World), K fr hp → Conc G N ⟨fr, hp, st.nx + 8 * ops.length⟩ a' w' → a'.tmps.getD d undef = a.tmps.getD d undef → wpOp P ops.toArray Q' last (fun a'' w'' => Q' .normal a'' w'') a' w') : (Code.region id ops.toArray true).wp P Q' a w := by
  refine wp_region_any hm ?_
  have hperm : permB (ord ++ [last]) ops.length = true := by unfold statB at hs; simp only [Bool.and_eq_true] at hs; exact hs.1
  simp only [permB, Bool.and_eq_true, decide_eq_true_eq, List.all_eq_true] at hperm
  obtain ⟨⟨⟨ho1, ho2⟩, ho3⟩, ho4⟩ := hperm
  obtain ⟨hpm1, hpm2⟩ := pick_map (ops := ops) ord (fun i hi => ho3 i (List.mem_append_left _ hi))
  obtain ⟨L, q1, q2, q3, q4, _, q6⟩ := adrun_events _ _ _ _ h hpm2
  rw [hpm1] at q3
  obtain ⟨c1, c2, loc, hM, hrel⟩ := hc
  have hMd := hM.world (w' := { w with drawn := w.drawn + 1 }) rfl rfl rfl rfl
  have xd : Ext (mkE G.m1 st.hp (fun t => t < st.nx) loc w) (mkE G.m1 st.hp (fun t => t < st.nx) loc { w with drawn := w.drawn + 1 }) := Ext.world rfl
  have hoL : ord.length = L.length := by have := congrArg List.length q3; simpa using this.symm
  have hlen : L.length + 1 = ops.length := by simp at ho1; omega
  have hlt : last < ops.length := ho3 last (by simp)
  have hnl : last ∉ ord := fun h => by
    have := List.nodup_append.1 ho2
    exact this.2.2 last h last (by simp) rfl
  have hord : ∀ k (hk : k < L.length), ord[k]? = some L[k].i := fun k hk => by
    rw [← q3]; simp [hk]
  have hord' : ∀ k (hk : k < L.length), (ord ++ [last])[k]? = some L[k].i := fun k hk => by
    rw [List.getElem?_append_left (by omega)]; exact hord k hk
  have hrk : ∀ k (hk : k < L.length), (ord ++ [last]).idxOf L[k].i = k := fun k hk => by
    have h1 : k < (ord ++ [last]).length := by simp; omega
    have h2 : (ord ++ [last])[k] = L[k].i := by have := hord' k hk; rw [List.getElem?_eq_getElem h1] at this; exact Option.some.inj this
    rw [← h2]; exact ho2.idxOf_getElem k h1
  have hil : (ord ++ [last]).idxOf last = L.length := by
    have h1 : L.length < (ord ++ [last]).length := by simp; omega
    have h2 : (ord ++ [last])[L.length] = last := by
      rw [List.getElem_append_right (by omega)]; simp
    have := ho2.idxOf_getElem L.length h1
    rwa [h2] at this
  have hfalse : ∀ i, (Array.replicate ops.length false).getD i false = false := fun i => by
    by_cases hi : i < ops.length <;> simp [hi]
  obtain ⟨hM2, x2⟩ := hMd.more (al' := alD st.nx (Array.replicate ops.length false)) (fun t ht => .inl ht)
  have hsz : ops.toArray.size = ops.length := by simp
  rw [show ops.toArray.size = ops.length from hsz, ← hlen]
  have hmem : ∀ i, i < ops.length → i ≠ last → i ∈ ord := fun i hi hne => by
    have : i ∈ ord ++ [last] := by simpa using ho4 i (by simpa using hi)
    rcases List.mem_append.1 this with h | h
    · exact h
    · simp at h; exact absurd h hne
  refine any_soundT (G := G) (A := A) (ord := ord ++ [last]) (last := last) hft hs hlt (fun i hi hne => ?_) (fun i hi => ?_) (d := d) (x := a.tmps.getD d undef) hdd L.length L (Array.replicate (L.length + 1) false) st.fr st.hp a { w with drawn := w.drawn + 1 } rfl ?_ q2 ?_ rfl ?_
  · have := List.all_eq_true.1 hal i (by simpa using hi)
    simpa [hne] using this
  · rw [hil]
    have : i ∈ ord ++ [last] := by simpa using ho4 i (by simpa using hi)
    have h2 := List.idxOf_lt_length_iff.2 this
    simp at h2; omega
  · rw [hlen]
    refine ⟨by simp, fun i hi hne _ => ?_, fun e he => ?_, by simp [hlt], ?_, ?_, fun i hi => ?_⟩
    · have := hmem i hi hne
      rw [← q3] at this
      obtain ⟨e, he, rfl⟩ := List.mem_map.1 this
      exact ⟨e, he, rfl⟩
    · have hlt2 : e.i < ops.length := (List.getElem?_eq_some_iff.1 (q4 _ he)).1
      have hin : e.i ∈ ord := by rw [← q3]; exact List.mem_map_of_mem he
      exact ⟨hlt2, fun h => hnl (h ▸ hin), by simp [hlt2], q4 _ he⟩
    · rw [List.pairwise_iff_getElem]
      intro i j hi hj hij
      rw [hrk i hi, hrk j hj]; exact hij
    · rw [List.pairwise_iff_getElem]
      intro i j hi hj hij
      have h6 := (List.pairwise_iff_getElem.1 q6) i j hi hj hij
      have h7 := pairB_at hp hij (hord' i hi) (hord' j hj) (q4 _ (List.getElem_mem hi)) (q4 _ (List.getElem_mem hj))
      rcases h7 with h7 | h7
      · exact .inl h7
      · rcases h6 with h6 | ⟨a1, a2, a3⟩
        · exact .inl h6
        · obtain ⟨s1, s2, s3⟩ := Oper.apart_spec h7
          exact .inr ⟨s1, s2, s3, a1, a2, a3⟩
    · rw [hfalse] at hi; cases hi
  · rw [hlen]
    exact ⟨c1, c2, loc, hM2, fun d => ((hrel d).ext xd).ext x2⟩
  · rintro listed a' w' ⟨d1, d2, loc', hM', hrel'⟩ hls _ _ hfr
    obtain ⟨hM3, x3⟩ := hM'.more (al' := fun t => t < st.nx + 8 * ops.length) (fun t ht => by
      rcases ht with ht | ⟨i, hi, h1, h2⟩
      · omega
      · have : i < ops.length := by
          rw [← hls]
          by_cases hlt : i < listed.size
          · exact hlt
          · simp [hlt] at hi
        omega)
    exact hk _ _ a' w' q1 ⟨d1, d2, loc', hM3, fun d => (hrel' d).ext x3⟩ hfr
end
end Go.Gm

set_option linter.unusedVariables false
set_option linter.unusedSimpArgs false
namespace Go.Gm
/-- What was related stays related, seen from a party that may have stood still. -/
structure ExtW (E E' : Env) : Prop where
  al : ∀ t, E.al t → E'.al t
  loc : ∀ t l, E.al t → E'.loc t = some l → E.loc t = some l
  size : E.w.heap.size ≤ E'.w.heap.size
  keep : ∀ b, b < E.w.heap.size → ¬ E.mt b → ¬ E'.mt b ∧ E'.w.heap[b]? = E.w.heap[b]?
theorem Ext.w {E E' : Env} (x : Ext E E') : ExtW E E' := ⟨x.al, x.loc, x.size, fun b hb hm => x.keep b hb hm⟩
theorem ExtW.trans {E F G : Env} (h : ExtW E F) (k : ExtW F G) : ExtW E G :=
  ⟨fun t ht => k.al t (h.al t ht), fun t l ht hl => h.loc t l ht (k.loc t l (h.al t ht) hl), Nat.le_trans h.size k.size,
   fun b hb hm => ⟨(k.keep b (Nat.lt_of_lt_of_le hb h.size) (h.keep b hb hm).1).1, (k.keep b (Nat.lt_of_lt_of_le hb h.size) (h.keep b hb hm).1).2.trans (h.keep b hb hm).2⟩⟩
mutual
theorem Rel.extW {E E' : Env} (x : ExtW E E') : ∀ {u : AV} {v : Value}, Rel E u v → Rel E' u v
  | _, _, .any v => .any v
  | _, _, .val v => .val v
  | _, _, .agg h => .agg (RelL.extW x h)
  | _, _, .tup h => .tup (RelL.extW x h)
  | _, _, .sl0 a c => .sl0 a c
  | _, _, .sl hb hm hr hsz h0 hcap h1 hc hl =>
    .sl (Nat.lt_of_lt_of_le hb x.size) (x.keep _ hb hm).1 hr hsz h0 hcap h1 (fun k v hk => (cell_of_heap (x.keep _ hb hm).2).trans (hc k v hk)) (RelL.extW x hl)
  | _, _, .own ha h => .own (x.al _ ha) fun l hl => h l (x.loc _ l ha hl)
  | _, _, .ptr ha h => .ptr (x.al _ ha) fun l hl => h l (x.loc _ l ha hl)
  | _, _, .ip hb hm h1 hc hl =>
    .ip (Nat.lt_of_lt_of_le hb x.size) (x.keep _ hb hm).1 h1 (fun k v hk => (cell_of_heap (x.keep _ hb hm).2).trans (hc k v hk)) (RelL.extW x hl)
  | _, _, .clo hf hc => .clo (RelL.extW x hf) (RelL.extW x hc)
  | _, _, .ifc h => .ifc (Rel.extW x h)
  | _, _, .mp ha h => .mp (x.al _ ha) fun l hl => h l (x.loc _ l ha hl)
theorem RelL.extW {E E' : Env} (x : ExtW E E') : ∀ {us : List AV} {vs : List Value}, RelL E us vs → RelL E' us vs
  | _, _, .nil => .nil
  | _, _, .cons h hs => .cons (Rel.extW x h) (RelL.extW x hs)
end
theorem ObjAt.extW {E E' : Env} (x : ExtW E E') {l : Loc} (hb : l.st < l.n → E'.w.heap[l.b]? = E.w.heap[l.b]?) : ∀ {o : AObj}, ObjAt E l o → ObjAt E' l o
  | .row sz m rows, ⟨h1, h2, h3, h6, h11, h⟩ => ⟨h1, h2, h3, h6, h11, fun hlt => by
    obtain ⟨c, e, fz, vs, h4, h5, h7, h8, h9, h10⟩ := h hlt
    exact ⟨c, e, fz, vs, (hb hlt).trans h4, h5, h7.extW x, h8, h9, h10⟩⟩
  | .mapo es, ⟨h0, ens, clock, h1, h2, h3, h4, h5⟩ => ⟨h0, ens, clock, (hb h0).trans h1, h2.extW x, h3.extW x, h4, h5⟩

/-- The other party has run: the world is another; X' is what it may write from here on. -/
theorem Mem.other {P : Program} {G : Ghost P} {hp : AHeap} {al : Nat → Prop} {loc : Nat → Option Loc} {w w' : World} (h : Mem G hp al loc w) {X X' : Nat → Prop}
    (hsz : w.heap.size ≤ w'.heap.size) (hX : ∀ b, X b → G.m1 b) (hkeep : ∀ b, b < w.heap.size → ¬ X b → w'.heap[b]? = w.heap[b]?)
    (hX1 : ∀ b, b < w.heap.size → X' b → G.m1 b) (hX2 : ∀ b, X' b → b < w'.heap.size)
    (hno : ∀ t l, loc t = some l → l.st < l.n → ¬ X' l.b) (ht' : TabH P (fun b => mtOf hp loc b ∨ X' b) w') :
    ∃ G' : Ghost P, G'.w0 = w' ∧ G'.m1 = X' ∧ (G'.m0 = fun b => mtOf hp loc b ∨ X' b) ∧ G'.n0 = 0 ∧ Mem G' hp al loc w' ∧ ExtW (mkE G.m1 hp al loc w) (mkE X' hp al loc w') := by
  have x : ExtW (mkE G.m1 hp al loc w) (mkE X' hp al loc w') := ⟨fun _ h => h, fun _ _ _ h => h, hsz, fun b hb hm => ⟨fun hc => hm (hc.elim .inl fun h => .inr (hX1 b hb h)), hkeep b hb fun hc => hm (.inr (hX b hc))⟩⟩
  refine ⟨⟨w', fun b => mtOf hp loc b ∨ X' b, X', hX2, 0, fun _ => none, Nat.zero_le _, ht'⟩, rfl, rfl, rfl, rfl, ⟨?_, h.none_, h.al_, h.inj, rfl, rfl, rfl, Nat.le_refl _, fun _ _ _ => rfl, fun b hb _ => .inl hb, hno, fun t ht => absurd ht (Nat.not_lt_zero t), fun t l ht _ => absurd ht (Nat.not_lt_zero t)⟩, x⟩
  intro t o ho
  obtain ⟨l, hl, hob⟩ := h.obj t o ho
  exact ⟨l, hl, hob.extW x fun hlt => hkeep _ (h.lt hl hlt) fun hc => h.fgn t l hl hlt (hX _ hc)⟩
end Go.Gm

set_option linter.unusedVariables false
set_option linter.unusedSimpArgs false
namespace Go.Gm
mutual
theorem mapT_id : ∀ u : AV, mapT (fun t => t) u = u
  | .own .. => by simp only [mapT]
  | .ptr .. => by simp only [mapT]
  | .mp .. => by simp only [mapT]
  | .agg cs => by simp only [mapT, mapTL_id cs]
  | .tup cs => by simp only [mapT, mapTL_id cs]
  | .clo fn f c => by simp only [mapT, mapTL_id f, mapTL_id c]
  | .ifc ty u => by simp only [mapT, mapT_id u]
  | .val _ => by simp only [mapT]
  | .sl _ => by simp only [mapT]
  | .fr _ _ => by simp only [mapT]
  | .ip _ => by simp only [mapT]
  | .any => by simp only [mapT]
theorem mapTL_id : ∀ us : List AV, mapTL (fun t => t) us = us
  | [] => by simp only [mapTL]
  | u :: us => by simp only [mapTL, mapT_id u, mapTL_id us]
end

/-! ### Memory, told without its past; its past -/
structure MemB (P : Program) (m1 : Nat → Prop) (hp : AHeap) (al : Nat → Prop) (loc : Nat → Option Loc) (w : World) : Prop where
  obj : ∀ t o, hp t = some o → ∃ l, loc t = some l ∧ ObjAt (mkE m1 hp al loc w) l o
  none_ : ∀ t, hp t = none → loc t = none
  al_ : ∀ t l, loc t = some l → al t
  inj : ∀ t t' l l', loc t = some l → loc t' = some l' → l.st < l.n → l'.st < l'.n → l.b = l'.b → t = t'
  fgn : ∀ t l, loc t = some l → l.st < l.n → ¬ m1 l.b
  m1lt : ∀ b, m1 b → b < w.heap.size
  tab : TabH P (mtOf hp loc) w
structure Hist {P : Program} (G : Ghost P) (hp : AHeap) (al : Nat → Prop) (loc : Nat → Option Loc) (w : World) : Prop where
  os : w.os = G.w0.os
  tape : w.tape = G.w0.tape
  output : w.output = G.w0.output
  size : G.w0.heap.size ≤ w.heap.size
  keep : ∀ b, b < G.w0.heap.size → ¬ G.m0 b → w.heap[b]? = G.w0.heap[b]?
  muts : ∀ b, mtOf hp loc b → b < G.w0.heap.size → G.m0 b
  aln : ∀ t, t < G.n0 → al t
  idn : ∀ t l, t < G.n0 → loc t = some l → G.l0 t = some l
section
variable {P : Program} {G : Ghost P} {m1 m2 : Nat → Prop} {hp hp' : AHeap} {al al' : Nat → Prop} {loc loc' : Nat → Option Loc} {w w' : World}
theorem Mem.base (h : Mem G hp al loc w) : MemB P G.m1 hp al loc w := ⟨h.obj, h.none_, h.al_, h.inj, h.fgn, fun b hb => Nat.lt_of_lt_of_le (G.m1lt b hb) h.size, h.tab⟩
theorem Mem.hist (h : Mem G hp al loc w) : Hist G hp al loc w := ⟨h.os, h.tape, h.output, h.size, h.keep, h.muts, h.aln, h.idn⟩
theorem MemB.with (h : MemB P G.m1 hp al loc w) (k : Hist G hp al loc w) : Mem G hp al loc w :=
  ⟨h.obj, h.none_, h.al_, h.inj, k.os, k.tape, k.output, k.size, k.keep, k.muts, h.fgn, k.aln, k.idn⟩
def MemB.g (h : MemB P m1 hp al loc w) : Ghost P := ⟨w, mtOf hp loc, m1, h.m1lt, 8, loc, Nat.le_refl _, h.tab⟩
theorem MemB.mem (h : MemB P m1 hp al loc w) (h8 : ∀ t, t < 8 → al t) : Mem h.g hp al loc w :=
  ⟨h.obj, h.none_, h.al_, h.inj, rfl, rfl, rfl, Nat.le_refl _, fun _ _ _ => rfl, fun b hb _ => hb, h.fgn, h8, fun t l _ hl => hl⟩
theorem MemB.back (h : MemB P m1 hp al loc w) (h' : Mem h.g hp' al' loc' w') : MemB P m1 hp' al' loc' w' := h'.base
theorem Hist.back (k : Hist G hp al loc w) (h : MemB P m1 hp al loc w) (h' : Mem h.g hp' al' loc' w') : Hist G hp' al' loc' w' :=
  ⟨h'.os.trans k.os, h'.tape.trans k.tape, h'.output.trans k.output, Nat.le_trans k.size h'.size,
   fun b hb hn => (h'.keep b (Nat.lt_of_lt_of_le hb k.size) fun hm => hn (k.muts b hm hb)).trans (k.keep b hb hn),
   fun b hm hb => k.muts b (h'.muts b hm (Nat.lt_of_lt_of_le hb k.size)) hb,
   fun t ht => h'.aln t (Nat.lt_of_lt_of_le ht G.n8), fun t l ht hl => k.idn t l ht (h'.idn t l (Nat.lt_of_lt_of_le ht G.n8) hl)⟩
theorem MemB.stable (h : MemB P m1 hp al loc w) (h' : Mem h.g hp' al' loc' w') {u : AV} {v : Value} (ht : tokL 8 u = true) (hr : Rel (mkE m1 hp al loc w) u v) : Rel (mkE m1 hp' al' loc' w') u v := by
  have := rel_map (τ := fun t => t) (m := 8) (E := mkE m1 hp al loc w) (E' := mkE m1 hp' al' loc' w')
    ⟨h'.size, fun b hb hn => ⟨fun hc => hn (hc.elim (fun k => .inl (h'.muts b k hb)) .inr), h'.keep b hb fun k => hn (.inl k)⟩⟩ h'.aln (fun t l ht hl => h'.idn t l ht hl) ht hr
  rwa [mapT_id] at this
theorem MemB.kept (h : MemB P m1 hp al loc w) (h' : Mem h.g hp' al' loc' w') {b : Nat} (hb : m1 b) : w'.heap[b]? = w.heap[b]? :=
  h'.keep b (h.m1lt b hb) fun ⟨t, o, l, h1, h2, h3, h4, h5⟩ => h.fgn t l h3 h5 (h4 ▸ hb)
/-- The world has turned where nothing of this memory lies. -/
theorem MemB.to (h : MemB P m1 hp al loc w) (hsz : w.heap.size ≤ w'.heap.size) (hm : ∀ b, b < w.heap.size → m2 b → m1 b) (hm2 : ∀ b, m2 b → b < w'.heap.size)
    (hk : ∀ b, b < w.heap.size → w'.heap[b]? = w.heap[b]? ∨ (m1 b ∧ ∃ o : Obj, w.heap[b]? = some o ∧ o.isCells = false)) : MemB P m2 hp al loc w' ∧ ExtW (mkE m1 hp al loc w) (mkE m2 hp al loc w') := by
  have hno : ∀ t l, loc t = some l → l.st < l.n → l.b < w.heap.size := fun t l hl hlt => by
    cases ho : hp t with
    | none => rw [h.none_ t ho] at hl; cases hl
    | some o => obtain ⟨l', hl', hob⟩ := h.obj t o ho; rw [hl] at hl'; cases hl'; exact hob.lt hlt
  have x : ExtW (mkE m1 hp al loc w) (mkE m2 hp al loc w') := ⟨fun _ h => h, fun _ _ _ h => h, hsz, fun b hb hn =>
    ⟨fun hc => hn (hc.elim .inl fun k => .inr (hm b hb k)), (hk b hb).elim id fun k => absurd (.inr k.1) hn⟩⟩
  refine ⟨⟨fun t o ho => ?_, h.none_, h.al_, h.inj, fun t l hl hlt hc => h.fgn t l hl hlt (hm _ (hno t l hl hlt) hc), hm2, fun g p hg => ?_⟩, x⟩
  · obtain ⟨l, hl, hob⟩ := h.obj t o ho
    exact ⟨l, hl, hob.extW x fun hlt => (hk _ (hno t l hl hlt)).elim id fun k => absurd k.1 (h.fgn t l hl hlt)⟩
  · obtain ⟨h1, h2, c, t, fz, h3, h4⟩ := h.tab g p hg
    refine ⟨Nat.lt_of_lt_of_le h1 hsz, h2, c, t, fz, ?_, h4⟩
    rcases hk g h1 with k | ⟨_, o, ho, hc⟩
    · exact k.trans h3
    · rw [h3] at ho; cases ho; cases hc
theorem Hist.to (k : Hist G hp al loc w) (hsz : w.heap.size ≤ w'.heap.size) (hk : ∀ b, b < G.w0.heap.size → w'.heap[b]? = w.heap[b]?) (h1 : w'.os = w.os) (h2 : w'.tape = w.tape) (h3 : w'.output = w.output) : Hist G hp al loc w' :=
  ⟨h1.trans k.os, h2.trans k.tape, h3.trans k.output, Nat.le_trans k.size hsz, fun b hb hn => (hk b hb).trans (k.keep b hb hn), k.muts, k.aln, k.idn⟩
theorem MemB.put (h : MemB P m1 hp al loc w) {L : Nat} {o : Obj} (hL : m1 L) (hl : w.heap[L]? = some o) (ho : o.isCells = false) (o' : Obj) :
    MemB P m1 hp al loc (w.putObj L o') ∧ ExtW (mkE m1 hp al loc w) (mkE m1 hp al loc (w.putObj L o')) :=
  h.to (by simp) (fun _ _ h => h) (fun b hb => by simpa using h.m1lt b hb) fun b hb => by
    by_cases e : b = L
    · subst e; exact .inr ⟨hL, o, hl, ho⟩
    · exact .inl (World.putObj_heap_other e)
theorem Hist.put (k : Hist G hp al loc w) {L : Nat} (hL : G.w0.heap.size ≤ L) (o' : Obj) : Hist G hp al loc (w.putObj L o') :=
  k.to (by simp) (fun b hb => World.putObj_heap_other (by omega)) rfl rfl rfl
end

/-- Ids named anew, the ones below 8 too. -/
theorem MemB.ren {P : Program} {G : Ghost P} {m1 : Nat → Prop} {nx m : Nat} {hp hp' : AHeap} {loc : Nat → Option Loc} {w : World} (hM : MemB P m1 hp (fun t => t < nx) loc w) (hH : Hist G hp (fun t => t < nx) loc w) (hn0 : G.n0 = 0) (τ : Nat → Nat)
    (hinj : ∀ i j, i < m → j < m → hp' i ≠ none → hp' j ≠ none → τ i = τ j → i = j) (hhp : ∀ t, t < m → ORen τ m (hp (τ t)) (hp' t)) (hno : ∀ t, m ≤ t → hp' t = none) :
    ∃ loc', MemB P m1 hp' (fun t => t < m) loc' w ∧ Hist G hp' (fun t => t < m) loc' w ∧ Ren τ m (mkE m1 hp (fun t => t < nx) loc w) (mkE m1 hp' (fun t => t < m) loc' w) := by
  classical
  let loc' : Nat → Option Loc := fun t => if hp' t = none then none else loc (τ t)
  have hsome : ∀ t l, loc' t = some l → t < m ∧ loc (τ t) = some l ∧ hp' t ≠ none := fun t l hl => by
    simp only [loc'] at hl
    split at hl
    · cases hl
    · rename_i hn
      refine ⟨?_, hl, hn⟩
      by_cases hlt : t < m
      · exact hlt
      · exact absurd (hno t (by omega)) hn
  have hmut : ∀ t o', hp' t = some o' → t < m ∧ ∃ o, hp (τ t) = some o ∧ o.isMut = o'.isMut := fun t o' ho => by
    have hlt : t < m := by
      by_cases hlt : t < m
      · exact hlt
      · rw [hno t (by omega)] at ho; cases ho
    refine ⟨hlt, ?_⟩
    have := hhp t hlt
    rw [ho] at this
    generalize hq : hp (τ t) = q at this
    cases this with
    | inl h => exact ⟨_, rfl, rfl⟩
    | map h => exact ⟨_, rfl, rfl⟩
  have hmt : ∀ b, mtOf hp' loc' b → mtOf hp loc b := by
    rintro b ⟨t, o', l, h1, h2, h3, h4, h5⟩
    obtain ⟨_, o, ho, hm⟩ := hmut t o' h1
    exact ⟨τ t, o, l, ho, by rw [hm]; exact h2, (hsome t l h3).2.1, h4, h5⟩
  have x : Ren τ m (mkE m1 hp (fun t => t < nx) loc w) (mkE m1 hp' (fun t => t < m) loc' w) :=
    ⟨⟨Nat.le_refl _, fun b _ hn => ⟨fun hm => hn (hm.elim (fun h => .inl (hmt b h)) .inr), rfl⟩⟩, fun t ht => ht, fun t l ht hl => (hsome t l hl).2.1⟩
  refine ⟨loc', ⟨fun t o' ho => ?_, fun t ho => by simp only [loc', ho, if_true], fun t l hl => (hsome t l hl).1, fun t1 t2 l1 l2 k1 k2 p1 p2 hb => ?_, fun t l hl => hM.fgn (τ t) l (hsome t l hl).2.1, hM.m1lt, hM.tab.sub hmt⟩,
    ⟨hH.os, hH.tape, hH.output, hH.size, hH.keep, fun b hb => hH.muts b (hmt b hb), fun t ht => by omega, fun t l ht hl => by omega⟩, x⟩
  · have hlt := (hmut t o' ho).1
    have hO := hhp t hlt
    rw [ho] at hO
    generalize hq : hp (τ t) = q at hO
    cases hO with
    | inl hin =>
      obtain ⟨l, hl, g1, g2, g3, g4, g5, g6⟩ := hM.obj (τ t) _ hq
      refine ⟨l, by simp only [loc', ho]; simpa using hl, g1, g2, g3, g4, g5, fun hpos => ?_⟩
      obtain ⟨c, e, fz, vs, k1, k2, k3, k4, k5, k6⟩ := g6 hpos
      exact ⟨c, e, fz, vs, k1, k2, RelL.move x.mv (by rw [← inlR_flatten]; exact hin) k3, k4, k5, k6⟩
    | map hin =>
      rename_i sz mu rows
      obtain ⟨l, hl, g1, g2, g3, g4, g5, g6⟩ := hM.obj (τ t) _ hq
      refine ⟨l, by simp only [loc', ho]; simpa using hl, g1, g2, fun r hr => ?_, by simpa using g4, g5, fun hpos => ?_⟩
      · have := g3 (mapTL τ r) (List.mem_map.2 ⟨r, hr, rfl⟩)
        rwa [mapTL_length] at this
      · obtain ⟨c, e, fz, vs, k1, k2, k3, k4, k5, k6⟩ := g6 hpos
        rw [flat_map] at k3
        exact ⟨c, e, fz, vs, k1, k2, relL_ren x (flat_tok m hin) k3, k4, k5, k6⟩
  · have h1 := hsome t1 l1 k1
    have h2 := hsome t2 l2 k2
    exact hinj t1 t2 h1.1 h2.1 h1.2.2 h2.2.2 (hM.inj _ _ _ _ h1.2.1 h2.2.1 p1 p2 hb)
/-! ### Operations at the widest fence -/
theorem oper_wideN {P : Program} {n : Nat} {o : Oper} {a : Act} {w : World} {K K' R : Act → World → Prop} {Q : Exit → Act → World → Prop} (hk : ∀ a w, K a w → K' a w)
    (h : o.wp P a w K (fun e a w => e = .normal ∧ R a w)) : o.wpIn Fence.wide n P a w K' Q := by
  refine ⟨fun _ _ => trivial, ?_⟩
  have e : o.semAt Fence.wide.round a.eval = execOp a.eval o := rfl
  rw [e]
  unfold Oper.wp at h
  generalize (execOp a.eval o).run P w = r at h ⊢
  cases r with
  | ok x w' =>
    cases x <;> first
      | exact hk _ _ h
      | exact h.elim
      | exact ⟨(fun hh => by cases hh), callsIn_wide.2 (Calls.mono h fun e w' he => by
          cases e with
          | returned v => exact hk _ _ he
          | panicked ch => exact absurd he.1 (by simp)
          | outgrown => obtain ⟨a, w, h, _⟩ := he; cases h)⟩
      | exact ⟨(fun hh => by cases hh), fun c cs _ => by
          obtain ⟨v, w', r, s⟩ := h c cs
          exact ⟨v, w', hk _ _ r, stepsIn_wide.2 s⟩⟩
  | halt x w' =>
    cases x <;> first
      | exact absurd h.1 (by simp)
      | exact h.elim
theorem pre_wide {P : Program} {n : Nat} {ops : Array Oper} {K : Act → World → Prop} {Q : Exit → Act → World → Prop} {rest : List Oper} (hk : ∀ a w, K a w → wpListIn Fence.wide n P ops Q rest a w) :
    ∀ (pre : List Oper) (a : Act) (w : World), wpList P ops (fun e a w => e = .normal ∧ K a w) pre a w → wpListIn Fence.wide n P ops Q (pre ++ rest) a w
  | [], a, w, h => hk a w h.2
  | o :: L, a, w, h => by
    have hl : ¬ LetsOut (fun e (a : Act) (w : World) => e = Exit.normal ∧ K a w) := by rintro ⟨_, _, h, _⟩; cases h
    show wpListIn Fence.wide n P ops Q (o :: (L ++ rest)) a w
    unfold wpList at h
    unfold wpListIn
    split
    · rename_i hw
      rw [if_pos hw] at h
      rcases h with h | h
      · exact oper_wideN (fun a w h => pre_wide hk L a w h) h
      · exact absurd h.2 hl
    · rename_i hw
      rw [if_neg hw] at h
      exact ⟨fun _ _ => trivial, pre_wide hk L _ _ h⟩

/-! ### The loop, and the function that is ranged over -/
structure Host where
  fr : Nat → AV
  L : Nat
  D : Nat
  fn : FuncId
  p : Tmp
  tmps : Array Value
  assign : Code
  body : Code
  m1 : Nat → Prop
def Host.rcd (H : Host) (s : LoopState) (j : Option Code) : Loop := { state := s, pending := j, fn := H.fn, tmps := H.tmps, params := #[H.p], assign := H.assign, body := H.body, defers := H.D }
structure HostOk {P : Program} (G : Ghost P) (H : Host) : Prop where
  mL : H.m1 H.L
  mD : H.m1 H.D
  ne : H.D ≠ H.L
  lL : G.w0.heap.size ≤ H.L
  tok : ∀ d, tokL 8 (H.fr d) = true
  n0 : G.n0 = 0
def ConcH {P : Program} (G : Ghost P) (N : Nat) (H : Host) (st : ASt) (a : Act) (w : World) : Prop :=
  a.defers = [] ∧ a.tmps.size = N ∧ w.heap[H.L]? = some (.loop (H.rcd .ready none)) ∧ w.heap[H.D]? = some (.deferred (some [])) ∧
  ∃ loc, MemB P H.m1 st.hp (fun t => t < st.nx) loc w ∧ Hist G st.hp (fun t => t < st.nx) loc w ∧
    (∀ d, Rel (mkE H.m1 st.hp (fun t => t < st.nx) loc w) (st.fr d) (a.tmps.getD d undef)) ∧ (∀ d, Rel (mkE H.m1 st.hp (fun t => t < st.nx) loc w) (H.fr d) (H.tmps.getD d undef))
def AWH (P : Program) (N : Nat) (H : Host) (c : Code) (Q : Exit → ASt → Prop) (st : ASt) : Prop :=
  ∀ (G : Ghost P) (a : Act) (w : World), HostOk G H → ConcH G N H st a w → c.wp P (fun e a' w' => ∃ st', Q e st' ∧ ConcH G N H st' a' w') a w
section
variable {P : Program} {N : Nat} {H : Host} {Q Q' : Exit → ASt → Prop} {st : ASt} {c x y : Code}
/-- What a piece of code does, it does beside a loop that waits. -/
theorem ConcH.of {G : Ghost P} {a a' : Act} {w w' : World} {loc : Nat → Option Loc} {st' : ASt} (hok : HostOk G H) (hL : w.heap[H.L]? = some (.loop (H.rcd .ready none))) (hD : w.heap[H.D]? = some (.deferred (some [])))
    (hB : MemB P H.m1 st.hp (fun t => t < st.nx) loc w) (hH : Hist G st.hp (fun t => t < st.nx) loc w) (hf : ∀ d, Rel (mkE H.m1 st.hp (fun t => t < st.nx) loc w) (H.fr d) (H.tmps.getD d undef)) (h : Conc hB.g N st' a' w') : ConcH G N H st' a' w' := by
  obtain ⟨c1, c2, loc', hM', hr'⟩ := h
  exact ⟨c1, c2, (hB.kept hM' hok.mL).trans hL, (hB.kept hM' hok.mD).trans hD, loc', hB.back hM', hH.back hB hM', hr', fun d => hB.stable hM' (hok.tok d) (hf d)⟩
theorem AWH.of (h8 : 8 ≤ st.nx) (h : AW P N c Q st) : AWH P N H c Q st := by
  rintro G a w hok ⟨c1, c2, hL, hD, loc, hB, hH, hr, hf⟩
  have hM := hB.mem (fun t (ht : t < 8) => Nat.lt_of_lt_of_le ht h8)
  refine wp_mono (h none hB.g a w ⟨c1, c2, loc, hM, hr⟩) ?_
  rintro e a' w' ⟨st', hq, hc'⟩
  exact ⟨st', hq, ConcH.of (a := a) hok hL hD hB hH hf hc'⟩
theorem AWH.ren {st' : ASt} (τ : Nat → Nat) (hinj : ∀ i j, i < st'.nx → j < st'.nx → st'.hp i ≠ none → st'.hp j ≠ none → τ i = τ j → i = j) (hhp : ∀ t, t < st'.nx → ORen τ st'.nx (st.hp (τ t)) (st'.hp t)) (hno : ∀ t, st'.nx ≤ t → st'.hp t = none)
    (hfr : ∀ d, tokL st'.nx (st'.fr d) = true ∧ (st'.fr d = .any ∨ Weak (st.fr d) (mapT τ (st'.fr d)))) (hH : ∀ d, tokL st'.nx (H.fr d) = true ∧ mapT τ (H.fr d) = H.fr d) (k : AWH P N H c Q st') : AWH P N H c Q st := fun G a w hok hc => by
  obtain ⟨c1, c2, hL, hD, loc, hB, hHi, hr, hf⟩ := hc
  obtain ⟨loc', hB', hHi', x⟩ := hB.ren hHi hok.n0 τ hinj hhp hno
  refine k G a w hok ⟨c1, c2, hL, hD, loc', hB', hHi', fun d => ?_, fun d => ?_⟩
  · obtain ⟨h1, h2⟩ := hfr d
    rcases h2 with h2 | h2
    · rw [h2]; exact .any _
    · exact rel_ren x h1 (h2 _ _ (hr d))
  · obtain ⟨h1, h2⟩ := hH d
    exact rel_ren x h1 (by rw [h2]; exact hf d)
theorem AWH.mono (k : AWH P N H c Q st) (h : ∀ e st, Q e st → Q' e st) : AWH P N H c Q' st := fun G a w hok hc =>
  wp_mono (k G a w hok hc) fun e a' w' ⟨st1, hq, hc1⟩ => ⟨st1, h e st1 hq, hc1⟩
theorem AWH.seq (h : AWH P N H x (thenA (AWH P N H y Q) Q) st) : AWH P N H (.seq x y) Q st := fun G a w hok hc => by
  refine wp_seq (wp_mono (h G a w hok hc) ?_)
  rintro e a' w' ⟨st', hq, hc'⟩
  cases e with
  | normal => exact hq G a' w' hok hc'
  | _ => exact ⟨st', hq, hc'⟩
theorem AWH.cond {o : Operand} {b : Bool} (hc : evF st.fr o = .val (.bool b)) (h : AWH P N H (if b then x else y) Q st) : AWH P N H (.cond o x y) Q st := fun G a w hok hcc => by
  obtain ⟨c1, c2, hL, hD, loc, hB, hH, hr, hf⟩ := hcc
  exact wp_cond (rel_val (hc ▸ rel_eval hr o)) (h G a w hok ⟨c1, c2, hL, hD, loc, hB, hH, hr, hf⟩)
theorem AWH.block {id : Nat} (h : AWH P N H c (inBlockA id Q) st) : AWH P N H (.block id c) Q st := fun G a w hok hc => by
  refine wp_block (wp_mono (h G a w hok hc) ?_)
  rintro e a' w' ⟨st', hq, hc'⟩
  cases e with
  | exit id' =>
    simp only [inBlockA] at hq
    simp only [Exit.inBlock]
    split
    · rename_i hid; rw [if_pos hid] at hq; exact ⟨st', hq, hc'⟩
    · rename_i hid; rw [if_neg hid] at hq; exact ⟨st', hq, hc'⟩
  | _ => exact ⟨st', hq, hc'⟩
theorem AWH.loop (I : Nat → ASt → Prop) (n₀ : Nat) (h0 : I n₀ st)
    (round : ∀ k st, I k st → AWH P N H c (thenA (fun st' => ∃ k', k' < k ∧ I k' st') Q) st) : AWH P N H (.loop c) Q st := fun G a w hok hc => by
  refine wp_loop_ghost (fun n a w => ∃ st, I n st ∧ ConcH G N H st a w) n₀ ⟨st, h0, hc⟩ ?_
  rintro n a w ⟨st, hI, hc⟩
  refine wp_mono (round n st hI G a w hok hc) ?_
  rintro e a' w' ⟨st', hq, hc'⟩
  cases e with
  | normal =>
    obtain ⟨k', hlt, hI'⟩ := hq
    exact ⟨k', hlt, st', hI', hc'⟩
  | _ => exact ⟨st', hq, hc'⟩
end
end Go.Gm

set_option linter.unusedVariables false
set_option linter.unusedSimpArgs false
namespace Go.Gm
theorem run_yieldOp {P : Program} {o : Oper} {a : Act} {w : World} {ty tx : Tmp} {tys : Array TypeId} {L : Nat} (hop : o.op = .call { callee := .value (.tmp ty), args := #[.tmp tx], argTypes := tys })
    (hv : a.eval (.tmp ty) = .func (.yield L) #[] #[]) : (execOp a.eval o).run P w = (Instr.yield L #[a.eval (.tmp tx)]).run P w := by
  obtain ⟨dst, op, t, pos, after, guard⟩ := o
  simp only at hop
  subst hop
  simp [execOp, resolve, Deferred.ofValue, hv, invoke]
theorem setIn_size (t : Array Value) (p : Tmp) (v : Value) : (t.setIfInBounds p v).size = t.size := by simp
theorem setIn_rel {E : Env} {fr : Nat → AV} {t : Array Value} {p : Tmp} {u : AV} {v : Value} (hp : p < t.size) (h : ∀ d, Rel E (fr d) (t.getD d undef)) (hv : Rel E u v) : ∀ d, Rel E (upd fr p u d) ((t.setIfInBounds p v).getD d undef) := fun d => by
  simp only [upd]
  by_cases e : d = p
  · subst e; simp [hp]; exact hv
  · have := h d
    simp [e, Array.getElem?_setIfInBounds_ne (Ne.symm e)] at this ⊢
    exact this
section
variable {P : Program} {N : Nat} {H : Host} {Q : Exit → ASt → Prop} {st : ASt}
/-- One round. -/
theorem round_in {G : Ghost P} {a : Act} {w : World} {loc : Nat → Option Loc} {n : Nat} {X : AV} {x : Value} {K : AHeap → Nat → Prop} (hok : HostOk G H) (hc : ConcH G N H st a w) (h8 : 8 ≤ st.nx) (hp : H.p < H.tmps.size)
    (htok : ∀ d, tokL 8 (st.fr d) = true) (hx : ∀ (E : Env), (∀ d, Rel E (st.fr d) (a.tmps.getD d undef)) → Rel E X x)
    (h : AW P H.tmps.size H.assign (fun e s1 => e = .normal ∧ 8 ≤ s1.nx ∧ AW P H.tmps.size H.body (fun e s2 => e = .normal ∧ K s2.hp s2.nx) s1) ⟨upd H.fr H.p X, st.hp, st.nx⟩) :
    RoundIn Fence.wide n P H.L H.fn (H.tmps.setIfInBounds H.p x) H.assign H.body w fun e w' => e = .returned (.bool true) ∧ ∃ hp' nx', K hp' nx' ∧ ConcH G N H ⟨st.fr, hp', nx'⟩ a w' := by
  obtain ⟨c1, c2, hL, hD, loc, hB, hH, hr, hf⟩ := hc
  refine roundIn_of_wpIn trivial ?_
  have hM := hB.mem (fun t (ht : t < 8) => Nat.lt_of_lt_of_le ht h8)
  refine wpIn_mono (h (some (H.L, n)) hB.g { tmps := H.tmps.setIfInBounds H.p x, defers := [] } w ⟨rfl, setIn_size .., loc, hM, setIn_rel hp hf (hx _ hr)⟩) ?_
  rintro e a1 w1 ⟨s1, ⟨rfl, h81, hbody⟩, hc1⟩
  obtain ⟨d1, d2, loc1, hM1, hr1⟩ := hc1
  have hB1 := hB.back hM1
  have hH1 := hH.back hB hM1
  have hL1 := (hB.kept hM1 hok.mL).trans hL
  have hD1 := (hB.kept hM1 hok.mD).trans hD
  have hf1 := fun d => hB.stable hM1 (hok.tok d) (hf d)
  have hg1 := fun d => hB.stable hM1 (htok d) (hr d)
  refine ⟨_, run_beginRound hL1 rfl, ?_⟩
  obtain ⟨hB2, x2⟩ := hB1.put hok.mL hL1 rfl (.loop { H.rcd .ready none with state := .busy })
  have hH2 := hH1.put hok.lL (.loop { H.rcd .ready none with state := .busy })
  have hL2 : (w1.putObj H.L (.loop { H.rcd .ready none with state := .busy })).heap[H.L]? = some (.loop { H.rcd .ready none with state := .busy }) := World.putObj_heap_same (Array.getElem?_eq_some_iff.1 hL1).1
  have hD2 : (w1.putObj H.L (.loop { H.rcd .ready none with state := .busy })).heap[H.D]? = some (.deferred (some [])) := (World.putObj_heap_other hok.ne).trans hD1
  have hM2 := hB2.mem (fun t (ht : t < 8) => Nat.lt_of_lt_of_le ht h81)
  refine wpIn_mono (hbody (some (H.L, n)) hB2.g a1 _ ⟨d1, d2, loc1, hM2, fun d => (hr1 d).extW x2⟩) ?_
  rintro e a3 w3 ⟨s3, ⟨rfl, hK⟩, hc3⟩
  obtain ⟨e1, e2, loc3, hM3, hr3⟩ := hc3
  have hB3 := hB2.back hM3
  have hH3 := hH2.back hB2 hM3
  have hL3 := (hB2.kept hM3 hok.mL).trans hL2
  have hD3 := (hB2.kept hM3 hok.mD).trans hD2
  refine ⟨_, _, run_endRound none hL3, ?_⟩
  obtain ⟨hB4, x4⟩ := hB3.put hok.mL hL3 rfl (.loop { { H.rcd .ready none with state := .busy } with state := if (none : Option Code).isNone = true then .ready else .done, pending := none })
  have hH4 := hH3.put hok.lL (.loop { { H.rcd .ready none with state := .busy } with state := if (none : Option Code).isNone = true then .ready else .done, pending := none })
  refine ⟨rfl, s3.hp, s3.nx, hK, c1, c2, World.putObj_heap_same (Array.getElem?_eq_some_iff.1 hL3).1, (World.putObj_heap_other hok.ne).trans hD3, loc3, hB4, hH4, fun d => ?_, fun d => ?_⟩
  · exact (hB2.stable hM3 (htok d) ((hg1 d).extW x2)).extW x4
  · exact (hB2.stable hM3 (hok.tok d) ((hf1 d).extW x2)).extW x4

/-- A region with one call of yield in it. -/
theorem AWH.regionY {ops pre post : List Oper} {oy : Oper} {id : Nat} {ty tx : Tmp} {tys : Array TypeId} {dd : Nat} (hops : ops = pre ++ oy :: post)
    (hoy : oy.op = .call { callee := .value (.tmp ty), args := #[.tmp tx], argTypes := tys }) (hdst : oy.dst = some dd) (h8 : 8 ≤ st.nx) (hdd : dd < N) (hpt : H.p < H.tmps.size)
    (Kp : ASt → Prop) (hKp : ∀ s0, Kp s0 → 8 ≤ s0.nx ∧ wantedA ops s0.fr oy = some true ∧ s0.fr ty = .val (.func (.yield H.L) #[] #[]) ∧ (∀ d, tokL 8 (s0.fr d) = true) ∧
      AW P H.tmps.size H.assign (fun e s1 => e = .normal ∧ 8 ≤ s1.nx ∧ AW P H.tmps.size H.body (fun e s2 => e = .normal ∧ 8 ≤ s2.nx ∧ arun P N ops post ⟨upd s0.fr dd (.val (.bool true)), s2.hp, s2.nx⟩ (Q .normal)) s1) ⟨upd H.fr H.p (s0.fr tx), s0.hp, s0.nx⟩)
    (h : arun P N ops pre st Kp) :
    AWH P N H (.region id ops.toArray false) Q st := fun G a w hok hc => by
  obtain ⟨c1, c2, hL, hD, loc, hB, hH, hr, hf⟩ := hc
  have hM := hB.mem (fun t (ht : t < 8) => Nat.lt_of_lt_of_le ht h8)
  refine (wpIn_wide (n := 1)).1 (wpIn_region_list ?_)
  suffices hs : ∀ l, l = pre ++ oy :: post → wpListIn Fence.wide 1 P ops.toArray (fun e a' w' => ∃ st', Q e st' ∧ ConcH G N H st' a' w') l a w by exact hs ops hops
  rintro l rfl
  have hp1 := arun_sound (md := none) (Q' := fun e a' w' => e = .normal ∧ ∃ s0, Kp s0 ∧ Conc hB.g N s0 a' w') (fun s0 a' w' hq hc => ⟨rfl, s0, hq, hc⟩) ⟨c1, c2, loc, hM, hr⟩ h
  refine (pre_wide (rest := oy :: post) ?_ pre a w hp1)
  rintro a1 w1 ⟨s0, hk0, hc1⟩
  obtain ⟨h81, hw, hty, htok, hround⟩ := hKp s0 hk0
  have hcH : ConcH G N H s0 a1 w1 := ConcH.of (a := a) hok hL hD hB hH hf hc1
  have hwant := wantedA_eq hc1 hw
  obtain ⟨d1, d2, hL1, hD1, loc1, hB1, hH1, hr1, hf1⟩ := hcH
  have hvy : a1.eval (.tmp ty) = .func (.yield H.L) #[] #[] := by
    have h := rel_eval hr1 (.tmp ty)
    rw [show evF s0.fr (.tmp ty) = s0.fr ty from rfl, hty] at h
    exact rel_val h
  unfold wpListIn
  rw [if_pos hwant]
  refine ⟨fun _ _ => trivial, ?_⟩
  have e : oy.semAt Fence.wide.round a1.eval = execOp a1.eval oy := rfl
  have hfold : ((H.rcd .ready none).params.zip #[a1.eval (.tmp tx)]).foldl (fun tmps (t, a) => tmps.setIfInBounds t a) (H.rcd .ready none).tmps = H.tmps.setIfInBounds H.p (a1.eval (.tmp tx)) := by simp [Host.rcd]
  rw [e, run_yieldOp hoy hvy, run_yield hL1 (by rfl), hfold]
  refine ⟨(fun hh => by cases hh), RoundIn.mono (round_in (K := fun hp' nx' => 8 ≤ nx' ∧ arun P N ops post ⟨upd s0.fr dd (.val (.bool true)), hp', nx'⟩ (Q .normal)) (X := s0.fr tx) (x := a1.eval (.tmp tx)) (loc := loc1) hok ⟨d1, d2, hL1, hD1, loc1, hB1, hH1, hr1, hf1⟩ h81 hpt htok (fun E hE => hE tx) hround) ?_⟩
  rintro e' w2 ⟨rfl, hp', nx', ⟨h82, hpost⟩, hc2⟩
  obtain ⟨k1, k2, hL2, hD2, loc2, hB2, hH2, hr2, hf2⟩ := hc2
  have hM2 := hB2.mem (fun t (ht : t < 8) => Nat.lt_of_lt_of_le ht h82)
  obtain ⟨g1, g2⟩ := rel_put (d := some dd) (u := .val (.bool true)) (v := .bool true) (by simpa [okD] using hdd) k2 hr2 (.val _)
  have hp2 := arun_sound (md := none) (Q' := fun e a' w' => e = .normal ∧ ∃ s0, Q .normal s0 ∧ Conc hB2.g N s0 a' w') (fun s0 a' w' hq hc => ⟨rfl, s0, hq, hc⟩) (a := a1.put (some dd) (.bool true)) (w := w2) (st := ⟨upd s0.fr dd (.val (.bool true)), hp', nx'⟩) ⟨by rw [put_defers]; exact k1, g1, loc2, hM2, g2⟩ hpost
  rw [hdst]
  have hfin := pre_wide (n := 1) (ops := ops.toArray) (rest := []) (Q := fun e a' w' => ∃ st', Q e st' ∧ ConcH G N H st' a' w') (fun a3 w3 hk => ?_) post _ _ hp2
  · simpa using hfin
  · obtain ⟨s3, hq3, hc3⟩ := hk
    exact ⟨s3, hq3, ConcH.of (a := a) hok hL2 hD2 hB2 hH2 hf2 hc3⟩
/-- What is asked where the call of yield stands. -/
def YK (P : Program) (N : Nat) (H : Host) (ops : List Oper) (oy : Oper) (post : List Oper) (ty tx : Tmp) (dd : Nat) (Q : Exit → ASt → Prop) (s0 : ASt) : Prop :=
  8 ≤ s0.nx ∧ wantedA ops s0.fr oy = some true ∧ s0.fr ty = .val (.func (.yield H.L) #[] #[]) ∧ (∀ d, tokL 8 (s0.fr d) = true) ∧
    AW P H.tmps.size H.assign (fun e s1 => e = .normal ∧ 8 ≤ s1.nx ∧ AW P H.tmps.size H.body (fun e s2 => e = .normal ∧ 8 ≤ s2.nx ∧ arun P N ops post ⟨upd s0.fr dd (.val (.bool true)), s2.hp, s2.nx⟩ (Q .normal)) s1) ⟨upd H.fr H.p (s0.fr tx), s0.hp, s0.nx⟩
theorem AWH.yield (k : Nat) {ops : List Oper} {oy : Oper} {id : Nat} {ty tx : Tmp} {tys : Array TypeId} {dd : Nat} (hk : ops[k]? = some oy)
    (hoy : oy.op = .call { callee := .value (.tmp ty), args := #[.tmp tx], argTypes := tys }) (hdst : oy.dst = some dd) (h8 : 8 ≤ st.nx) (hdd : dd < N) (hpt : H.p < H.tmps.size)
    (h : arun P N ops (ops.take k) st (YK P N H ops oy (ops.drop (k + 1)) ty tx dd Q)) : AWH P N H (.region id ops.toArray false) Q st := by
  have hlt := (List.getElem?_eq_some_iff.1 hk).1
  have hops : ops = ops.take k ++ oy :: ops.drop (k + 1) := by
    have e : ops[k] = oy := (List.getElem?_eq_some_iff.1 hk).2
    rw [← e, List.getElem_cons_drop, List.take_append_drop]
  exact AWH.regionY hops hoy hdst h8 hdd hpt _ (fun _ h => h) h
theorem tok_any : ∀ d, tokL 8 (anyF d) = true := fun d => by simp [anyF, tokL]
theorem tok_upd {f : Nat → AV} {k : Nat} {v : AV} (h : ∀ d, tokL 8 (f d) = true) (hv : tokL 8 v = true) : ∀ d, tokL 8 (upd f k v d) = true := fun d => by
  simp only [upd]; split
  · exact hv
  · exact h d
theorem AW.toK {K : ASt → Prop} {c : Code} (h : AW P N c (fun e s => e = .normal ∧ ∃ s', Ent N s s' ∧ K s') st) : AW P N c (fun e s => e = .normal ∧ K s) st :=
  h.mono fun e s ⟨he, s', hE, hK⟩ => ⟨s', hE, he, hK⟩
/-- Nothing lies beyond nx0. -/
theorem Ent.low {nx nx0 : Nat} {fr fr' : Nat → AV} {hp : AHeap} (h8 : 8 ≤ nx0) (hno : ∀ t, nx0 ≤ t → hp t = none) (hob : ∀ t o, hp t = some o → ∃ sz mu rows, o = .row sz mu rows ∧ rows.all (tokLL nx0) = true)
    (hfr : ∀ d, tokL nx0 (fr' d) = true ∧ (fr' d = .any ∨ Weak (fr d) (fr' d))) : Ent N ⟨fr, hp, nx⟩ ⟨fr', hp, nx0⟩ :=
  Ent.ren (fun t => t) h8 (fun _ _ => rfl) (fun _ _ _ _ _ _ h => h) (fun d => ⟨(hfr d).1, by rw [mapT_id]; exact (hfr d).2⟩) (fun t _ => by
    cases ho : hp t with
    | none => exact .none _
    | some o =>
      obtain ⟨sz, mu, rows, rfl, hr⟩ := hob t o ho
      have := ORen.map (τ := fun t => t) (m := nx0) (sz := sz) (mu := mu) hr
      rwa [show rows.map (mapTL fun t => t) = rows by
        have : mapTL (fun t => t) = id := by funext x; exact mapTL_id x
        rw [this]; simp] at this) hno
end
end Go.Gm

set_option linter.unusedVariables false
set_option linter.unusedSimpArgs false
namespace Go.Gm
theorem results_none {P : Program} {fn : Func} {tmps : Array Value} {w : World} (h : fn.results = #[]) : (results fn tmps).run P w = .ok (.tuple #[]) w := by
  rw [results_eq, h]; simp
section
variable {P : Program} {G : Ghost P} {N : Nat} {st : ASt} {a : Act} {w : World}
theorem range_wp {g : Operand} {p : Tmp} {assign body : Code} {gf : FuncId} {fg : Func} {cg : Code} {caps : List AV} {K : AHeap → Nat → Prop} {Q : Exit → Act → World → Prop}
    (hc : Conc G N st a w) (hg : evF st.fr g = .clo (.func gf) [] caps) (hgf : P.funcs[gf]? = some fg) (hbg : fg.body = some cg) (eg : Enter P gf) (hres : fg.results = #[]) (hp : p < N)
    (htok : ∀ d, tokL 8 (st.fr d) = true) (h8 : 8 ≤ st.nx) (hlen : caps.length + 1 ≤ fg.ntmps)
    (hn0 : G.n0 = 0) (hbody : ∀ H : Host, H.fr = st.fr → H.assign = assign → H.body = body → H.p = p → H.tmps.size = N →
      AWH P fg.ntmps H cg (fun e s => (e = .normal ∨ e = .ret) ∧ K s.hp s.nx) ⟨initF (.val (.func (.yield H.L) #[] #[]) :: caps), st.hp, st.nx⟩)
    (hQ : ∀ D hp' nx' loc' w', K hp' nx' → w'.heap[D]? = some (.deferred (some [])) → G.w0.heap.size ≤ D → MemB P (fun b => G.m1 b ∨ b = D ∨ b = D + 1) hp' (fun t => t < nx') loc' w' → Hist G hp' (fun t => t < nx') loc' w' →
      (∀ d, Rel (mkE (fun b => G.m1 b ∨ b = D ∨ b = D + 1) hp' (fun t => t < nx') loc' w') (st.fr d) (a.tmps.getD d undef)) → Q .normal { a with defers := [{ target := .collected D, args := #[] }] ++ a.defers } w') :
    (Code.rangeFunc g #[p] assign body).wp P Q a w := by
  obtain ⟨c1, c2, loc, hM, hr⟩ := hc
  refine (wpIn_wide (n := 2)).1 (wpIn_rangeFunc ?_)
  intro fn _
  have hv := rel_eval hr g
  rw [hg] at hv
  generalize hev : a.eval g = vg at hv
  cases hv with
  | clo hf hcap =>
    rename_i f' lb
    cases hf
    let H : Host := ⟨st.fr, w.heap.size + 1, w.heap.size, fn, p, a.tmps, assign, body, fun b => G.m1 b ∨ b = w.heap.size ∨ b = w.heap.size + 1⟩
    obtain ⟨W1, hW1⟩ : ∃ W1, (w.alloc (.deferred (some []))).alloc (.loop (H.rcd .ready none)) = W1 := ⟨_, rfl⟩
    have hs1 : W1.heap.size = w.heap.size + 2 := by rw [← hW1]; simp
    have hold : ∀ k, k < w.heap.size → W1.heap[k]? = w.heap[k]? := fun k hk => by
      rw [← hW1]; exact (heap_alloc_lt _ _ k (by simp; omega)).trans (heap_alloc_lt _ _ k hk)
    have hL : W1.heap[H.L]? = some (.loop (H.rcd .ready none)) := by
      rw [← hW1]; have := World.alloc_heap_new (w.alloc (.deferred (some []))) (.loop (H.rcd .ready none)); rwa [World.size_alloc] at this
    have hD : W1.heap[H.D]? = some (.deferred (some [])) := by
      rw [← hW1]; exact (heap_alloc_lt _ _ _ (by simp [H])).trans (World.alloc_heap_new w _)
    have ho1 : W1.os = w.os := by rw [← hW1]; rfl
    have ho2 : W1.tape = w.tape := by rw [← hW1]; rfl
    have ho3 : W1.output = w.output := by rw [← hW1]; rfl
    have hB := hM.base
    obtain ⟨hB1, x1⟩ := hB.to (m2 := H.m1) (w' := W1) (by omega) (fun b hb hm => by
      rcases hm with hm | hm | hm
      · exact hm
      · omega
      · omega) (fun b hm => by
      rcases hm with hm | hm | hm
      · have := hB.m1lt b hm; omega
      · omega
      · omega) (fun b hb => .inl (hold b hb))
    have hH1 : Hist G st.hp (fun t => t < st.nx) loc W1 := hM.hist.to (by omega) (fun b hb => hold b (Nat.lt_of_lt_of_le hb hM.size)) ho1 ho2 ho3
    have hok : HostOk G H := ⟨.inr (.inr rfl), .inr (.inl rfl), by simp [H], by have := hM.size; simp only [H]; omega, htok, hn0⟩
    refine ⟨w.heap.size + 1, [{ target := .collected w.heap.size, args := #[] }], W1, { target := .fn (.func gf) lb.toArray, args := #[.func (.yield (w.heap.size + 1)) #[] #[]] }, W1, gf,
      #[.func (.yield (w.heap.size + 1)) #[] #[]] ++ lb.toArray, W1, ?_, ?_, fun _ _ => trivial, ?_, (fun h => by cases h), callsIn_wide.2 ?_⟩
    · rw [← hW1]; exact run_enterLoop_outer _ _ _ _ _
    · simp only [resolve, hev]
      simp [go_sem]
    · have := eg (#[.func (.yield (w.heap.size + 1)) #[] #[]] ++ lb.toArray) W1
      simp only [invoke]; exact this
    · have hll := hcap.length
      refine calls_of_wp hgf hbg (wp_mono (hbody H rfl rfl rfl rfl c2 G _ W1 hok ⟨rfl, ?_, hL, hD, loc, hB1, hH1, fun d => ?_, fun d => (hr d).extW x1⟩) ?_)
      · simp; omega
      · simp only [initF]
        have hrl : RelL (mkE H.m1 st.hp (fun t => t < st.nx) loc W1) (.val (.func (.yield H.L) #[] #[]) :: caps) (.func (.yield H.L) #[] #[] :: lb) := .cons (.val _) (hcap.extW x1)
        cases hd : (AV.val (.func (.yield H.L) #[] #[]) :: caps)[d]? with
        | none => exact .any _
        | some u =>
          obtain ⟨v, hv, hrv⟩ := hrl.get d u hd
          have hlt : d < (Value.func (.yield H.L) #[] #[] :: lb).length := (List.getElem?_eq_some_iff.1 hv).1
          have : ((#[Value.func (.yield (w.heap.size + 1)) #[] #[]] ++ lb.toArray ++ Array.replicate (fg.ntmps - (#[Value.func (.yield (w.heap.size + 1)) #[] #[]] ++ lb.toArray).size) undef).getD d undef) = v := by
            rw [Array.getD_eq_getD_getElem?, Array.getElem?_append_left (by simpa [Nat.add_comm] using hlt)]
            have : (#[Value.func (.yield (w.heap.size + 1)) #[] #[]] ++ lb.toArray) = (Value.func (.yield H.L) #[] #[] :: lb).toArray := by simp [H]
            rw [this]; simp [hv]
          simp only [Option.getD_some]
          rw [this]; exact hrv
      · rintro e a' w' ⟨s, ⟨he, hK⟩, d1, d2, hL2, hD2, loc2, hB2, hH2, hr2, hf2⟩
        have fin : a'.defers = [] ∧ ∃ v, (results fg a'.tmps).run P w' = .ok v w' ∧ rangePost Fence.wide 2 P (w.heap.size + 1) Q { a with defers := [{ target := .collected w.heap.size, args := #[] }] ++ a.defers } (.returned v) w' := by
          refine ⟨d1, _, results_none hres, none, _, run_endLoop hL2 (by simp [Host.rcd]), ?_⟩
          obtain ⟨hB3, x3⟩ := hB2.put hok.mL hL2 rfl (.loop { H.rcd .ready none with state := .exhausted })
          have hH3 := hH2.put hok.lL (.loop { H.rcd .ready none with state := .exhausted })
          exact hQ w.heap.size s.hp s.nx loc2 _ hK ((World.putObj_heap_other hok.ne).trans hD2) hM.size hB3 hH3 (fun d => (hf2 d).extW x3)
        rcases he with rfl | rfl
        · exact fin
        · exact fin
end
/-! ### Operations in a frame that bears a mark -/
theorem arun_soundD {P : Program} {N : Nat} {ops : List Oper} {G : Ghost P} {ds : List Deferred} {Q : ASt → Prop} {Q' : Exit → Act → World → Prop} (hQ : ∀ st a w, Q st → a.defers = ds → Conc G N st { a with defers := [] } w → Q' .normal a w) :
    ∀ {rest : List Oper} {st : ASt} {a : Act} {w : World}, a.defers = ds → Conc G N st { a with defers := [] } w → arun P N ops rest st Q → wpList P ops.toArray Q' rest a w
  | [], st, a, w, hd0, hc, h => hQ st a w h hd0 hc
  | o :: rest, st, a, w, hd0, hc, h => by
    unfold arun at h
    split at h
    · exact h.elim
    · rename_i b hw
      have hwant : Region.wanted o (yielded ops.toArray a.tmps) = b := wantedA_eq (a := { a with defers := [] }) hc hw
      obtain ⟨h1, h2, loc, hM, hrel⟩ := hc
      have hev : ∀ x, Rel (mkE G.m1 st.hp (fun t => t < st.nx) loc w) (evF st.fr x) (a.eval x) := rel_eval (a := a) hrel
      cases b with
      | false =>
        simp only [Bool.false_eq_true, if_false] at h
        obtain ⟨hd, h⟩ := h
        show wpList P ops.toArray Q' (o :: rest) a w
        unfold wpList
        rw [hwant]
        refine arun_soundD hQ (st := ⟨putF st.fr o.dst (.val undef), st.hp, st.nx + 8⟩) (by rw [put_defers]; exact hd0) ?_ h
        obtain ⟨hM2, x2⟩ := hM.more (al' := fun t => t < st.nx + 8) (fun t ht => by omega)
        obtain ⟨g1, g2⟩ := rel_put (a := a) (u := .val undef) (v := undef) hd h2 (fun d => (hrel d).ext x2) (.val _)
        exact ⟨rfl, g1, loc, hM2, g2⟩
      | true =>
        simp only [if_true] at h
        have next : ∀ (r : AR) v w' loc', okD N o.dst = true → arun P N ops rest ⟨putF st.fr o.dst r.v, applyEff st.hp r.eff, st.nx + 8⟩ Q → Mem G (applyEff st.hp r.eff) (alR (fun t => t < st.nx) st.nx) loc' w' →
            Ext (mkE G.m1 st.hp (fun t => t < st.nx) loc w) (mkE G.m1 (applyEff st.hp r.eff) (alR (fun t => t < st.nx) st.nx) loc' w') → Rel (mkE G.m1 (applyEff st.hp r.eff) (alR (fun t => t < st.nx) st.nx) loc' w') r.v v →
            wpList P ops.toArray Q' rest (a.put o.dst v) w' := fun r v w' loc' hd hk hM' x hv => by
          refine arun_soundD hQ (by rw [put_defers]; exact hd0) ?_ hk
          obtain ⟨hM2, x2⟩ := hM'.more (al' := fun t => t < st.nx + 8) (fun t ht => by rcases ht with ht | ht <;> omega)
          obtain ⟨g1, g2⟩ := rel_put (a := a) (u := r.v) (v := v) hd h2 (fun d => (hrel d).ext (x.trans x2)) (hv.ext x2)
          exact ⟨rfl, g1, loc', hM2, g2⟩
        show wpList P ops.toArray Q' (o :: rest) a w
        unfold wpList
        rw [hwant]
        refine .inl ?_
        split at h
        · rename_i f us hco
          rcases h with ⟨xs, X, hres, hpc, hent, hlen, hd, hk⟩ | ⟨r, hok, hent, hd, hk⟩
          · exact call_wp hM fresh_nx hev hco hent (CallOk.of_pc hpc hres hlen) fun v w' loc' hM' x hv => next _ v w' loc' hd hk hM' x hv
          · exact call_wp hM fresh_nx hev hco hent hok fun v w' loc' hM' x hv => next _ v w' loc' hd hk hM' x hv
        · split at h
          · rename_i r hr
            exact aop_wp hM fresh_nx (fun _ _ _ h => by simp [noFt] at h) hev hr fun v w' loc' hM' x hv => next r v w' loc' h.1 h.2 hM' x hv
          · exact h.elim
end Go.Gm

set_option linter.unusedVariables false
set_option linter.unusedSimpArgs false
namespace Go.Gm
section
variable {P : Program} {G : Ghost P} {N : Nat} {st st' : ASt} {Q : Exit → Act → World → Prop} {x y : Code} {ops : List Oper} {id : Nat}
def Cont {P : Program} (G : Ghost P) (N : Nat) (y : Code) (Q : Exit → Act → World → Prop) (s : ASt) : Prop := ∀ a w, Conc G N s a w → y.wp P Q a w
theorem Cont.ent (h : Ent N st st') (k : Cont G N y Q st') : Cont G N y Q st := fun a w hc => k a w (h P G a w hc)
theorem Cont.reg (l : List Nat) (h : arun P N ops ops st (fun st' => Cont G N y Q ⟨restr st'.fr l, st'.hp, st'.nx⟩)) : Cont G N (.seq (.region id ops.toArray false) y) Q st := fun a w hc => by
  have := AW.regionL (Q := fun e s => e = .normal ∧ Cont G N y Q s) (id := id) l (by
    have e : (fun st' : ASt => (fun e s => e = Exit.normal ∧ Cont G N y Q s) Exit.normal ⟨restr st'.fr l, st'.hp, st'.nx⟩) = (fun st' => Cont G N y Q ⟨restr st'.fr l, st'.hp, st'.nx⟩) := by funext s; simp
    rw [e]; exact h)
  refine wp_seq (wp_mono (this none G a w hc) ?_)
  rintro e a' w' ⟨s, ⟨rfl, hk⟩, hc'⟩
  exact hk a' w' hc'
theorem Cont.seq (h : Cont G N x (Exit.then (fun a w => y.wp P Q a w) Q) st) : Cont G N (.seq x y) Q st := fun a w hc => wp_seq (h a w hc)
theorem Cont.block {t : Nat} (h : Cont G N x (Exit.inBlock t Q) st) : Cont G N (.block t x) Q st := fun a w hc => wp_block (h a w hc)
theorem Cont.ren (hn0 : G.n0 = 0) (τ : Nat → Nat) (hinj : ∀ i j, i < st'.nx → j < st'.nx → st'.hp i ≠ none → st'.hp j ≠ none → τ i = τ j → i = j) (hhp : ∀ t, t < st'.nx → ORen τ st'.nx (st.hp (τ t)) (st'.hp t)) (hno : ∀ t, st'.nx ≤ t → st'.hp t = none)
    (hfr : ∀ d, tokL st'.nx (st'.fr d) = true ∧ (st'.fr d = .any ∨ Weak (st.fr d) (mapT τ (st'.fr d)))) (k : Cont G N x Q st') : Cont G N x Q st := fun a w hc => by
  obtain ⟨c1, c2, loc, hM, hr⟩ := hc
  obtain ⟨loc', hB', hHi', x⟩ := hM.base.ren hM.hist hn0 τ hinj hhp hno
  refine k a w ⟨c1, c2, loc', hB'.with hHi', fun d => ?_⟩
  obtain ⟨h1, h2⟩ := hfr d
  rcases h2 with h2 | h2
  · rw [h2]; exact .any _
  · exact rel_ren x h1 (h2 _ _ (hr d))
/-- How such a function may end. -/
def FinM (G : Ghost P) (rs : List ResultVar) (X : AV) (e : Exit) (a' : Act) (w' : World) : Prop :=
  (e = .normal ∨ e = .ret) ∧ ∃ D s loc, a'.defers = [{ target := .collected D, args := #[] }] ∧ w'.heap[D]? = some (.deferred (some [])) ∧ G.w0.heap.size ≤ D ∧ MemB P (fun b => G.m1 b ∨ b = D ∨ b = D + 1) s.hp (fun t => t < s.nx) loc w' ∧
    Hist G s.hp (fun t => t < s.nx) loc w' ∧ (∀ d, Rel (mkE (fun b => G.m1 b ∨ b = D ∨ b = D + 1) s.hp (fun t => t < s.nx) loc w') (s.fr d) (a'.tmps.getD d undef)) ∧ finA P rs X .ret s
theorem pc_of_marks {f : FuncId} {fn : Func} {c : Code} {us : List AV} {X : AV} {rs : List ResultVar} (hf : P.funcs[f]? = some fn) (hb : fn.body = some c) (hN : fn.ntmps = N) (hrs : fn.results.toList = rs) (hn : us.length ≤ N)
    (h : ∀ G : Ghost P, G.n0 = 0 → Cont G N c (FinM G rs X) ⟨initF us, hpL [] [], 8⟩) : PC P f us X := by
  subst hN; subst hrs
  intro m w vs hm ht hus
  have hM0 : Mem ⟨w, fun _ => False, m, hm, 0, fun _ => none, Nat.zero_le _, ht⟩ (fun _ => none) (fun t => t < 0) (fun _ => none) w :=
    ⟨fun _ _ h => by simp at h, fun _ _ => rfl, fun _ _ h => by simp at h, fun _ _ _ _ h => by simp at h, rfl, rfl, rfl, Nat.le_refl _, fun _ _ _ => rfl, fun b h => by obtain ⟨t, o, l, h, _⟩ := h; simp at h, fun _ _ h => by simp at h, fun t ht => absurd ht (Nat.not_lt_zero t), fun t l ht _ => absurd ht (Nat.not_lt_zero t)⟩
  have hc0 : Conc ⟨w, fun _ => False, m, hm, 0, fun _ => none, Nat.zero_le _, ht⟩ fn.ntmps ⟨initF us, fun _ => none, 0⟩ { tmps := vs.toArray ++ Array.replicate (fn.ntmps - vs.toArray.size) undef, defers := [] } w := by
    refine ⟨rfl, ?_, fun _ => none, hM0, fun d => ?_⟩
    · have := hus.length
      simp; omega
    · have x : Ext (E0 m w) (mkE m (fun _ => none) (fun t => t < 0) (fun _ => none) w) := mk_ext (fun _ h => h.elim) (fun _ _ h => h.elim) (Nat.le_refl _) (fun _ _ h => h) (fun _ _ _ => rfl)
      simp only [initF]
      cases hd : us[d]? with
      | none => exact .any _
      | some u =>
        obtain ⟨v, hv, hr⟩ := hus.get d u hd
        have hlt : d < vs.length := (List.getElem?_eq_some_iff.1 hv).1
        have : ((vs.toArray ++ Array.replicate (fn.ntmps - vs.toArray.size) undef).getD d undef) = v := by
          rw [Array.getD_eq_getD_getElem?, Array.getElem?_append_left (by simpa using hlt)]
          simp [hv]
        simp only [Option.getD_some]
        rw [this]
        exact hr.ext x
  have hst : Ent fn.ntmps ⟨initF us, fun _ => none, 0⟩ ⟨initF us, hpL [] [], 8⟩ := by
    rw [hpL_nil]; exact Ent.st .refl .refl (by omega)
  refine (callsIn_wide (n := 0)).1 (callsIn_of_wp_marks hf hb trivial ((wpIn_wide (n := 0)).2 (wp_mono (h _ rfl _ w (hst P _ _ w hc0)) ?_)) rfl)
  rintro e a' w' ⟨he, D, s, loc, hd, hD, hGD, hB, hH, hr, hfin⟩
  have fin : LeavesInM Fence.wide 0 P fn a'.tmps (fun e w' => ∃ v hp al loc r ts, e = .returned v ∧ Mem ⟨w, fun _ => False, m, hm, 0, fun _ => none, Nat.zero_le _, ht⟩ hp al loc w' ∧ Rel (mkE m hp al loc w') r v ∧ sealV hp r = some (X, ts) ∧ ts.Nodup) a'.defers .returning w' := by
    rw [hd]
    refine ⟨by simp, .inl ⟨D, _, rfl, run_takeDeferred hD, ?_⟩⟩
    obtain ⟨hB2, x2⟩ := hB.put (.inr (.inl rfl)) hD rfl (.deferred none)
    have hH2 := hH.put hGD (.deferred none)
    obtain ⟨hB3, x3⟩ := hB2.to (m2 := m) (w' := w'.putObj D (.deferred none)) (Nat.le_refl _) (fun b _ hm => .inl hm) (fun b hb => hB2.m1lt b (.inl hb)) (fun _ _ => .inl rfl)
    have hM3 := hB3.with (G := ⟨w, fun _ => False, m, hm, 0, fun _ => none, Nat.zero_le _, ht⟩) hH2
    simp only [finA] at hfin
    split at hfin
    · rename_i l hl
      split at hfin
      · rename_i Y ts hs
        obtain ⟨rfl, hnd⟩ := hfin
        obtain ⟨vs', hv, hrl⟩ := results_rel (a := a') hM3 (fun d => ((hr d).extW x2).extW x3) hl
        have hrun : (results fn a'.tmps).run P (w'.putObj D (.deferred none)) = .ok (if h : vs'.toArray.size = 1 then vs'.toArray[0] else .tuple vs'.toArray) (w'.putObj D (.deferred none)) := by
          rw [results_eq, Sem.run_bind]
          have hm : (fn.results.mapM (resItem a'.tmps)).run P (w'.putObj D (.deferred none)) = .ok vs'.toArray (w'.putObj D (.deferred none)) := by
            rw [Array.mapM_eq_mapM_toList, Sem.run_map, hv]; rfl
          rw [hm]; rfl
        exact ⟨_, hrun, _, s.hp, _, loc, resOf l, ts, rfl, hM3, relL_resOf hrl, hs, hnd⟩
      · exact hfin.elim
    · exact hfin.elim
  rcases he with rfl | rfl
  · exact fin
  · exact fin
def RetK (P : Program) (N : Nat) (rs : List ResultVar) (X : AV) (s : ASt) : Prop := ∃ s', Ent N s s' ∧ finA P rs X .ret s'
theorem RetK.ent {s s' : ASt} {rs : List ResultVar} {X : AV} (h : Ent N s s') (k : RetK P N rs X s') : RetK P N rs X s := let ⟨s2, h2, k2⟩ := k; ⟨s2, h.trans h2, k2⟩
theorem RetK.fin {s : ASt} {rs : List ResultVar} {X : AV} (h : finA P rs X .ret s) : RetK P N rs X s := ⟨s, Ent.refl, h⟩
/-- What stands behind the loop: one region, and the return. -/
theorem tail_wp {D : Nat} {rs : List ResultVar} {X : AV} {loc : Nat → Option Loc} {a : Act} {w : World} (hd : a.defers = [{ target := .collected D, args := #[] }]) (hD : w.heap[D]? = some (.deferred (some []))) (hGD : G.w0.heap.size ≤ D)
    (hB : MemB P (fun b => G.m1 b ∨ b = D ∨ b = D + 1) st.hp (fun t => t < st.nx) loc w) (hH : Hist G st.hp (fun t => t < st.nx) loc w) (hr : ∀ d, Rel (mkE (fun b => G.m1 b ∨ b = D ∨ b = D + 1) st.hp (fun t => t < st.nx) loc w) (st.fr d) (a.tmps.getD d undef))
    (h8 : 8 ≤ st.nx) (hsz : a.tmps.size = N) (l : List Nat) (h : arun P N ops ops st (fun s => RetK P N rs X ⟨restr s.fr l, s.hp, s.nx⟩)) : (Code.seq (.region id ops.toArray false) .ret).wp P (FinM G rs X) a w := by
  have hM := hB.mem (fun t (ht : t < 8) => Nat.lt_of_lt_of_le ht h8)
  refine wp_seq (wp_region_list ?_)
  show wpList P ops.toArray _ ops a w
  refine arun_soundD (fun s a' w' hs hd' hc' => ?_) hd (G := hB.g) ⟨rfl, hsz, loc, hM, hr⟩ h
  obtain ⟨s2, hE, hfin⟩ := hs
  obtain ⟨e1, e2, loc1, hM1, hr1⟩ := hE P _ _ _ (Ent.restr l P _ _ _ hc')
  refine wp_ret ⟨.inr rfl, D, s2, loc1, hd', (hB.kept hM1 (.inr (.inl rfl))).trans hD, hGD, hB.back hM1, hH.back hB hM1, hr1, hfin⟩
end
end Go.Gm
