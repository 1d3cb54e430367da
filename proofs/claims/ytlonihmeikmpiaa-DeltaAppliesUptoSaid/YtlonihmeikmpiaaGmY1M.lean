import Derived.Test.YtlonihmeikmpiaaGmY1L
set_option linter.all false
set_option linter.unusedVariables false
set_option linter.unusedSimpArgs false
set_option linter.unusedSimpArgs false
set_option linter.unusedVariables false
set_option maxRecDepth 8000
namespace Go.Proofs.Y1
open Go.Gm
theorem total_mono {l : List Res} {i : Nat} {x : Res} (hx : l[i]? = some x) : cost x ≤ total l (i + 1) := by rw [total_next hx]; omega
theorem small_of {l : List Res} (h : ¬ Much l) : l.length ≤ 40 ∧ ∀ r ∈ l, cost r ≤ 1000 := by
  have h1 : l.length ≤ 40 := by
    by_cases h' : 40 < l.length
    · exact absurd (.inl h') h
    · omega
  refine ⟨h1, fun r hr => ?_⟩
  obtain ⟨i, hi⟩ := List.getElem?_of_mem hr
  have hlt := (List.getElem?_eq_some_iff.1 hi).1
  have h2 : total l (i + 1) ≤ 1000 := by
    by_cases h' : 1000 < total l (i + 1)
    · exact absurd (.inr ⟨i + 1, by omega, h'⟩) h
    · omega
  have := total_mono hi
  omega
theorem small_offs {l : List Res} (h : ¬ Much l) : Offs l := fun r hr => by
  have := (small_of h).2 r hr; unfold cost at this; omega
theorem small_keys {l : List Res} (h : ¬ Much l) : KeyS l := fun r hr => by
  have := (small_of h).2 r hr; unfold cost at this; omega
open Classical in
noncomputable def dif (a b : List Res) : List Change := if Right a ∧ Right b then diffL a b else []
open Classical in
theorem dif_ref (a b : List Res) : (if Right a ∧ Right b then refL a b else []) = dif a b := by
  unfold dif; split
  · rename_i h; exact (diff_ref h.1 h.2).symm
  · rfl
theorem dif_len {a b : List Res} : (diffL a b).length ≤ a.length + b.length := by
  fun_induction diffL a b with
  | case1 => simp
  | case2 a l ih => simp at ih ⊢; omega
  | case3 b m ih => simp at ih ⊢; omega
  | case4 a l b m h ih => simp at ih ⊢; omega
  | case5 a l b m h h2 ih => simp at ih ⊢; omega
  | case6 a l b m h h2 ih =>
    have : (un2 a b).length ≤ 1 := by
      unfold un2
      split
      · simp
      · split <;> simp
    simp at ih ⊢; omega
theorem dif_res (a b : List Res) : ∀ c ∈ diffL a b, c.res ∈ a ∨ c.res ∈ b := by
  fun_induction diffL a b with
  | case1 => intro c hc; cases hc
  | case2 a l ih => intro c hc; rcases List.mem_cons.1 hc with rfl | hc; exact .inl (by simp); exact (ih c hc).imp (by simp +contextual) id
  | case3 b m ih => intro c hc; rcases List.mem_cons.1 hc with rfl | hc; exact .inr (by simp); exact (ih c hc).imp id (by simp +contextual)
  | case4 a l b m h ih => intro c hc; rcases List.mem_cons.1 hc with rfl | hc; exact .inl (by simp); exact (ih c hc).imp (by simp +contextual) id
  | case5 a l b m h h2 ih => intro c hc; rcases List.mem_cons.1 hc with rfl | hc; exact .inr (by simp); exact (ih c hc).imp id (by simp +contextual)
  | case6 a l b m h h2 ih =>
    intro c hc
    rcases List.mem_append.1 hc with hc | hc
    · have : c.res = b := by
        unfold un2 at hc
        split at hc
        · simp at hc; rw [hc]
        · split at hc
          · simp at hc; rw [hc]
          · cases hc
      exact .inr (by simp [this])
    · exact (ih c hc).imp (by simp +contextual) (by simp +contextual)
theorem dif_offs {a b : List Res} (ha : Offs a) (hb : Offs b) : OffsC (dif a b) := by
  unfold dif
  split
  · intro c hc
    rcases dif_res a b c hc with h | h
    · exact ha _ h
    · exact hb _ h
  · intro c hc; cases hc
theorem dif_le {a b : List Res} : (dif a b).length ≤ a.length + b.length := by
  unfold dif; split
  · exact dif_len
  · simp
def PwC (l : List Change) : Prop := l.Pairwise fun c d => sLt c.res.key d.res.key = true
def KdC (l : List Change) : Prop := ∀ c ∈ l, 0 ≤ c.kind ∧ c.kind ≤ 3
theorem un2_kd (a b : Res) : KdC (un2 a b) := by
  unfold un2; intro c hc
  split at hc
  · simp at hc; subst hc; simp
  · split at hc
    · simp at hc; subst hc; simp
    · cases hc
theorem diffL_kd (a b : List Res) : KdC (diffL a b) := by
  fun_induction diffL a b with
  | case1 => intro c hc; cases hc
  | case2 a l ih => intro c hc; rcases List.mem_cons.1 hc with rfl | hc; simp; exact ih c hc
  | case3 b m ih => intro c hc; rcases List.mem_cons.1 hc with rfl | hc; simp; exact ih c hc
  | case4 a l b m h ih => intro c hc; rcases List.mem_cons.1 hc with rfl | hc; simp; exact ih c hc
  | case5 a l b m h h2 ih => intro c hc; rcases List.mem_cons.1 hc with rfl | hc; simp; exact ih c hc
  | case6 a l b m h h2 ih =>
    intro c hc
    rcases List.mem_append.1 hc with hc | hc
    · exact un2_kd a b c hc
    · exact ih c hc
theorem above {k : ByteArray} {a b : List Res} (ha : ∀ r ∈ a, sLt k r.key = true) (hb : ∀ r ∈ b, sLt k r.key = true) : ∀ c ∈ diffL a b, sLt k c.res.key = true := fun c hc => by
  rcases diffL_keys a b c hc with ⟨r, hr, e⟩ | ⟨r, hr, e⟩
  · rw [← e]; exact ha r hr
  · rw [← e]; exact hb r hr
theorem hd_above {x : Res} {l : List Res} (k : ByteArray) (h : sLt k x.key = true) (hl : Right (x :: l)) : ∀ r ∈ x :: l, sLt k r.key = true := fun r hr => by
  rcases List.mem_cons.1 hr with rfl | hr
  · exact h
  · exact sLt_trans h (right_head hl r hr)
theorem diffL_pw (a b : List Res) : Right a → Right b → PwC (diffL a b) := by
  fun_induction diffL a b with
  | case1 => intro _ _; exact List.Pairwise.nil
  | case2 a l ih => intro ha hb; exact List.pairwise_cons.2 ⟨above (right_head ha) (fun r hr => by cases hr), ih (right_tail ha) hb⟩
  | case3 b m ih => intro ha hb; exact List.pairwise_cons.2 ⟨above (fun r hr => by cases hr) (right_head hb), ih ha (right_tail hb)⟩
  | case4 a l b m h ih => intro ha hb; exact List.pairwise_cons.2 ⟨above (right_head ha) (hd_above _ h hb), ih (right_tail ha) hb⟩
  | case5 a l b m h h2 ih => intro ha hb; exact List.pairwise_cons.2 ⟨above (hd_above _ h2 ha) (right_head hb), ih ha (right_tail hb)⟩
  | case6 a l b m h h2 ih =>
    intro ha hb
    have e : a.key = b.key := sLt_eq (by simpa using h) (by simpa using h2)
    have hr := ih (right_tail ha) (right_tail hb)
    unfold un2
    have hab : ∀ c ∈ diffL l m, sLt b.key c.res.key = true := above (fun r hr => e ▸ right_head ha r hr) (right_head hb)
    split
    · exact List.pairwise_cons.2 ⟨hab, hr⟩
    · split
      · exact List.pairwise_cons.2 ⟨hab, hr⟩
      · exact hr
theorem ord_dif (a b : List Res) : OrdC (dif a b) := by
  unfold dif
  split
  · rename_i h
    refine ⟨diffL_kd a b, fun j x y hx hy => ?_⟩
    have hp := diffL_pw a b h.1 h.2
    obtain ⟨h1, e1⟩ := List.getElem?_eq_some_iff.1 hx
    obtain ⟨h2, e2⟩ := List.getElem?_eq_some_iff.1 hy
    have := (List.pairwise_iff_getElem.1 hp) j (j + 1) h1 h2 (by omega)
    rw [e1, e2] at this
    exact this
  · exact ⟨fun c hc => (by cases hc), fun j x y hx _ => (by simp at hx)⟩
theorem app_dif {a b : List Res} (ha : Right a) (hb : Right b) : applyL a (dif a b) = (b, 0) := by
  unfold dif applyL
  rw [if_pos ⟨ha, hb⟩, app_diff a b [] ha hb]
  rfl
open Classical in
theorem w3 (a b : List Res) (hla : a.length ≤ 1152921504606846976) (hlb : b.length ≤ 1152921504606846976) (hsa : Sane a) (hsb : Sane b) : PC Try.prog 3 [encL a, encL b] (B true) := by
  refine pc_of (N := 50) (rs := [.tmp 4]) Try.func3 rfl rfl rfl (Nat.le_of_ble_eq_true rfl) ?_
  refine AW.reg ?_
  generalize hK : AW Try.prog _ _ _ = K
  simp only [go_sem, ↓reduceIte, reduceCtorEq, Nat.reduceAdd, Nat.reduceSub, Nat.reduceMul, Nat.reduceEqDiff, Nat.reduceLT, Nat.reduceLeDiff, Nat.reduceBEq, Int.reduceAdd, Int.reduceSub, Int.reduceLT, Int.reduceLE, Int.reduceEq, Int.reduceToNat, encL, ir_Res]
  subst hK
  refine AW.seq ?_
  by_cases hma : Much a
  · refine AW.reg ?_
    generalize hK : AW Try.prog _ _ _ = K
    simp only [go_sem, ↓reduceIte, reduceCtorEq, Nat.reduceAdd, Nat.reduceSub, Nat.reduceMul, Nat.reduceEqDiff, Nat.reduceLT, Nat.reduceLeDiff, Nat.reduceBEq, Int.reduceAdd, Int.reduceSub, Int.reduceLT, Int.reduceLE, Int.reduceEq, Int.reduceToNat, encL, ir_Res, hma]
    refine arC.of (w13 a hla hsa) Try.call13 ?_
    simp only [go_sem, ↓reduceIte, reduceCtorEq, Nat.reduceAdd, Nat.reduceSub, Nat.reduceMul, Nat.reduceEqDiff, Nat.reduceLT, Nat.reduceLeDiff, Nat.reduceBEq, Int.reduceAdd, Int.reduceSub, Int.reduceLT, Int.reduceLE, Int.reduceEq, Int.reduceToNat, encL, ir_Res, hma]
    subst hK
    refine AW.if rfl (fun hc13 => ?_) (fun hc13 => ?_)
    · refine AW.reg ?_
      generalize hK : AW Try.prog _ _ _ = K
      simp only [go_sem, ↓reduceIte, reduceCtorEq, Nat.reduceAdd, Nat.reduceSub, Nat.reduceMul, Nat.reduceEqDiff, Nat.reduceLT, Nat.reduceLeDiff, Nat.reduceBEq, Int.reduceAdd, Int.reduceSub, Int.reduceLT, Int.reduceLE, Int.reduceEq, Int.reduceToNat, encL, ir_Res]
      refine arC.of (w14) Try.call14 ?_
      simp only [go_sem, ↓reduceIte, reduceCtorEq, Nat.reduceAdd, Nat.reduceSub, Nat.reduceMul, Nat.reduceEqDiff, Nat.reduceLT, Nat.reduceLeDiff, Nat.reduceBEq, Int.reduceAdd, Int.reduceSub, Int.reduceLT, Int.reduceLE, Int.reduceEq, Int.reduceToNat, encL, ir_Res]
      subst hK
      refine AW.ret ?_
      refine thenA_r ?_
      exact fin_val (.inl rfl) rfl rfl
    · cases hc13
  · refine AW.reg ?_
    generalize hK : AW Try.prog _ _ _ = K
    simp only [go_sem, ↓reduceIte, reduceCtorEq, Nat.reduceAdd, Nat.reduceSub, Nat.reduceMul, Nat.reduceEqDiff, Nat.reduceLT, Nat.reduceLeDiff, Nat.reduceBEq, Int.reduceAdd, Int.reduceSub, Int.reduceLT, Int.reduceLE, Int.reduceEq, Int.reduceToNat, encL, ir_Res, hma]
    refine arC.of (w13 a hla hsa) Try.call13 ?_
    simp only [go_sem, ↓reduceIte, reduceCtorEq, Nat.reduceAdd, Nat.reduceSub, Nat.reduceMul, Nat.reduceEqDiff, Nat.reduceLT, Nat.reduceLeDiff, Nat.reduceBEq, Int.reduceAdd, Int.reduceSub, Int.reduceLT, Int.reduceLE, Int.reduceEq, Int.reduceToNat, encL, ir_Res, hma]
    refine arC.of (w13 b hlb hsb) Try.call13 ?_
    simp only [go_sem, ↓reduceIte, reduceCtorEq, Nat.reduceAdd, Nat.reduceSub, Nat.reduceMul, Nat.reduceEqDiff, Nat.reduceLT, Nat.reduceLeDiff, Nat.reduceBEq, Int.reduceAdd, Int.reduceSub, Int.reduceLT, Int.reduceLE, Int.reduceEq, Int.reduceToNat, encL, ir_Res, hma]
    subst hK
    refine AW.if rfl (fun hc13 => ?_) (fun hc13 => ?_)
    · refine AW.reg ?_
      generalize hK : AW Try.prog _ _ _ = K
      simp only [go_sem, ↓reduceIte, reduceCtorEq, Nat.reduceAdd, Nat.reduceSub, Nat.reduceMul, Nat.reduceEqDiff, Nat.reduceLT, Nat.reduceLeDiff, Nat.reduceBEq, Int.reduceAdd, Int.reduceSub, Int.reduceLT, Int.reduceLE, Int.reduceEq, Int.reduceToNat, encL, ir_Res]
      refine arC.of (w14) Try.call14 ?_
      simp only [go_sem, ↓reduceIte, reduceCtorEq, Nat.reduceAdd, Nat.reduceSub, Nat.reduceMul, Nat.reduceEqDiff, Nat.reduceLT, Nat.reduceLeDiff, Nat.reduceBEq, Int.reduceAdd, Int.reduceSub, Int.reduceLT, Int.reduceLE, Int.reduceEq, Int.reduceToNat, encL, ir_Res]
      subst hK
      refine AW.ret ?_
      refine thenA_r ?_
      exact fin_val (.inl rfl) rfl rfl
    · have hmb : ¬ Much b := by simpa using hc13
      obtain ⟨ha40, hca⟩ := small_of hma
      obtain ⟨hb40, hcb⟩ := small_of hmb
      have hoa := small_offs hma
      have hob := small_offs hmb
      have hka := small_keys hma
      have hkb := small_keys hmb
      have hdl := dif_le (a := a) (b := b)
      have hdo := dif_offs hoa hob
      have tk : List.take (dif a b).length (List.map encCh (dif a b)) = List.map encCh (dif a b) := List.take_of_length_le (by simp)
      refine AW.skip ?_
      refine thenA_n ?_
      refine AW.reg ?_
      generalize hK : AW Try.prog _ _ _ = K
      simp only [go_sem, ↓reduceIte, reduceCtorEq, Nat.reduceAdd, Nat.reduceSub, Nat.reduceMul, Nat.reduceEqDiff, Nat.reduceLT, Nat.reduceLeDiff, Nat.reduceBEq, Int.reduceAdd, Int.reduceSub, Int.reduceLT, Int.reduceLE, Int.reduceEq, Int.reduceToNat, encL, ir_Res]
      refine arC.of (w15 a b (by omega) hoa hob) Try.call15 ?_
      simp only [go_sem, ↓reduceIte, reduceCtorEq, Nat.reduceAdd, Nat.reduceSub, Nat.reduceMul, Nat.reduceEqDiff, Nat.reduceLT, Nat.reduceLeDiff, Nat.reduceBEq, Int.reduceAdd, Int.reduceSub, Int.reduceLT, Int.reduceLE, Int.reduceEq, Int.reduceToNat, encL, ir_Res]
      subst hK
      refine AW.seq ?_
      refine AW.ent (Ent.still 5 rfl (own_sl (sz := 4) (m := true) (rows := (dif a b).map encCh) rfl (by simp [dif]) (ir_Ch _))) ?_
      refine AW.reg ?_
      generalize hK : AW Try.prog _ _ _ = K
      simp only [go_sem, ↓reduceIte, reduceCtorEq, Nat.reduceAdd, Nat.reduceSub, Nat.reduceMul, Nat.reduceEqDiff, Nat.reduceLT, Nat.reduceLeDiff, Nat.reduceBEq, Int.reduceAdd, Int.reduceSub, Int.reduceLT, Int.reduceLE, Int.reduceEq, Int.reduceToNat, encL, ir_Res, dif_ref, ir_Ch, List.length_map, tk]
      refine arC.of (w17 a b (by omega) hoa hob hka hkb) Try.call17 ?_
      simp only [go_sem, ↓reduceIte, reduceCtorEq, Nat.reduceAdd, Nat.reduceSub, Nat.reduceMul, Nat.reduceEqDiff, Nat.reduceLT, Nat.reduceLeDiff, Nat.reduceBEq, Int.reduceAdd, Int.reduceSub, Int.reduceLT, Int.reduceLE, Int.reduceEq, Int.reduceToNat, encL, ir_Res, dif_ref, ir_Ch, List.length_map, tk]
      refine arC.of (w16 (dif a b) (dif a b) (by omega) hdo) Try.call16 ?_
      simp only [go_sem, ↓reduceIte, reduceCtorEq, Nat.reduceAdd, Nat.reduceSub, Nat.reduceMul, Nat.reduceEqDiff, Nat.reduceLT, Nat.reduceLeDiff, Nat.reduceBEq, Int.reduceAdd, Int.reduceSub, Int.reduceLT, Int.reduceLE, Int.reduceEq, Int.reduceToNat, encL, ir_Res, dif_ref, ir_Ch, List.length_map, tk]
      subst hK
      refine AW.if rfl (fun hc23 => ?_) (fun hc23 => ?_)
      · cases hc23
      · refine AW.skip ?_
        refine thenA_n ?_
        refine AW.seq ?_
        by_cases hra : Right a
        · refine AW.reg ?_
          generalize hK : AW Try.prog _ _ _ = K
          simp only [go_sem, ↓reduceIte, reduceCtorEq, Nat.reduceAdd, Nat.reduceSub, Nat.reduceMul, Nat.reduceEqDiff, Nat.reduceLT, Nat.reduceLeDiff, Nat.reduceBEq, Int.reduceAdd, Int.reduceSub, Int.reduceLT, Int.reduceLE, Int.reduceEq, Int.reduceToNat, encL, ir_Res, hra]
          refine arC.of (w18 a (by omega) hka) Try.call18 ?_
          simp only [go_sem, ↓reduceIte, reduceCtorEq, Nat.reduceAdd, Nat.reduceSub, Nat.reduceMul, Nat.reduceEqDiff, Nat.reduceLT, Nat.reduceLeDiff, Nat.reduceBEq, Int.reduceAdd, Int.reduceSub, Int.reduceLT, Int.reduceLE, Int.reduceEq, Int.reduceToNat, encL, ir_Res, hra]
          refine arC.of (w18 b (by omega) hkb) Try.call18 ?_
          simp only [go_sem, ↓reduceIte, reduceCtorEq, Nat.reduceAdd, Nat.reduceSub, Nat.reduceMul, Nat.reduceEqDiff, Nat.reduceLT, Nat.reduceLeDiff, Nat.reduceBEq, Int.reduceAdd, Int.reduceSub, Int.reduceLT, Int.reduceLE, Int.reduceEq, Int.reduceToNat, encL, ir_Res, hra]
          subst hK
          refine AW.if rfl (fun hc31 => ?_) (fun hc31 => ?_)
          · refine AW.reg ?_
            generalize hK : AW Try.prog _ _ _ = K
            simp only [go_sem, ↓reduceIte, reduceCtorEq, Nat.reduceAdd, Nat.reduceSub, Nat.reduceMul, Nat.reduceEqDiff, Nat.reduceLT, Nat.reduceLeDiff, Nat.reduceBEq, Int.reduceAdd, Int.reduceSub, Int.reduceLT, Int.reduceLE, Int.reduceEq, Int.reduceToNat, encL, ir_Res]
            refine arC.of (w14) Try.call14 ?_
            simp only [go_sem, ↓reduceIte, reduceCtorEq, Nat.reduceAdd, Nat.reduceSub, Nat.reduceMul, Nat.reduceEqDiff, Nat.reduceLT, Nat.reduceLeDiff, Nat.reduceBEq, Int.reduceAdd, Int.reduceSub, Int.reduceLT, Int.reduceLE, Int.reduceEq, Int.reduceToNat, encL, ir_Res]
            subst hK
            refine AW.ret ?_
            refine thenA_r ?_
            exact fin_val (.inl rfl) rfl rfl
          · have hrb : Right b := by simpa using hc31
            have c19 := w19 a (dif a b) (by omega) hoa hdo
            rw [if_pos ⟨hra, ord_dif a b⟩, app_dif hra hrb] at c19
            refine AW.skip ?_
            refine thenA_n ?_
            refine AW.reg ?_
            generalize hK : AW Try.prog _ _ _ = K
            simp only [go_sem, ↓reduceIte, reduceCtorEq, Nat.reduceAdd, Nat.reduceSub, Nat.reduceMul, Nat.reduceEqDiff, Nat.reduceLT, Nat.reduceLeDiff, Nat.reduceBEq, Int.reduceAdd, Int.reduceSub, Int.reduceLT, Int.reduceLE, Int.reduceEq, Int.reduceToNat, encL, ir_Res, ir_Ch]
            refine arC.of (c19) Try.call19 ?_
            simp only [go_sem, ↓reduceIte, reduceCtorEq, Nat.reduceAdd, Nat.reduceSub, Nat.reduceMul, Nat.reduceEqDiff, Nat.reduceLT, Nat.reduceLeDiff, Nat.reduceBEq, Int.reduceAdd, Int.reduceSub, Int.reduceLT, Int.reduceLE, Int.reduceEq, Int.reduceToNat, encL, ir_Res, ir_Ch]
            subst hK
            refine AW.ent (Ent.still 6 rfl (own_sl (sz := 3) (m := true) (rows := b.map encRes) rfl (by simp) (ir_Res _))) ?_
            refine AW.reg ?_
            generalize hK : AW Try.prog _ _ _ = K
            simp only [go_sem, ↓reduceIte, reduceCtorEq, Nat.reduceAdd, Nat.reduceSub, Nat.reduceMul, Nat.reduceEqDiff, Nat.reduceLT, Nat.reduceLeDiff, Nat.reduceBEq, Int.reduceAdd, Int.reduceSub, Int.reduceLT, Int.reduceLE, Int.reduceEq, Int.reduceToNat, encL, ir_Res]
            refine arC.of (w20 0) Try.call20 ?_
            simp only [go_sem, ↓reduceIte, reduceCtorEq, Nat.reduceAdd, Nat.reduceSub, Nat.reduceMul, Nat.reduceEqDiff, Nat.reduceLT, Nat.reduceLeDiff, Nat.reduceBEq, Int.reduceAdd, Int.reduceSub, Int.reduceLT, Int.reduceLE, Int.reduceEq, Int.reduceToNat, encL, ir_Res]
            refine arC.of (w21 b b (by omega) hob) Try.call21 ?_
            simp only [go_sem, ↓reduceIte, reduceCtorEq, Nat.reduceAdd, Nat.reduceSub, Nat.reduceMul, Nat.reduceEqDiff, Nat.reduceLT, Nat.reduceLeDiff, Nat.reduceBEq, Int.reduceAdd, Int.reduceSub, Int.reduceLT, Int.reduceLE, Int.reduceEq, Int.reduceToNat, encL, ir_Res]
            refine arC.of (w14) Try.call14 ?_
            simp only [go_sem, ↓reduceIte, reduceCtorEq, Nat.reduceAdd, Nat.reduceSub, Nat.reduceMul, Nat.reduceEqDiff, Nat.reduceLT, Nat.reduceLeDiff, Nat.reduceBEq, Int.reduceAdd, Int.reduceSub, Int.reduceLT, Int.reduceLE, Int.reduceEq, Int.reduceToNat, encL, ir_Res]
            subst hK
            refine AW.ret ?_
            exact fin_val (.inl rfl) rfl rfl
        · refine AW.reg ?_
          generalize hK : AW Try.prog _ _ _ = K
          simp only [go_sem, ↓reduceIte, reduceCtorEq, Nat.reduceAdd, Nat.reduceSub, Nat.reduceMul, Nat.reduceEqDiff, Nat.reduceLT, Nat.reduceLeDiff, Nat.reduceBEq, Int.reduceAdd, Int.reduceSub, Int.reduceLT, Int.reduceLE, Int.reduceEq, Int.reduceToNat, encL, ir_Res, hra]
          refine arC.of (w18 a (by omega) hka) Try.call18 ?_
          simp only [go_sem, ↓reduceIte, reduceCtorEq, Nat.reduceAdd, Nat.reduceSub, Nat.reduceMul, Nat.reduceEqDiff, Nat.reduceLT, Nat.reduceLeDiff, Nat.reduceBEq, Int.reduceAdd, Int.reduceSub, Int.reduceLT, Int.reduceLE, Int.reduceEq, Int.reduceToNat, encL, ir_Res, hra]
          subst hK
          refine AW.if rfl (fun hc31 => ?_) (fun hc31 => ?_)
          · refine AW.reg ?_
            generalize hK : AW Try.prog _ _ _ = K
            simp only [go_sem, ↓reduceIte, reduceCtorEq, Nat.reduceAdd, Nat.reduceSub, Nat.reduceMul, Nat.reduceEqDiff, Nat.reduceLT, Nat.reduceLeDiff, Nat.reduceBEq, Int.reduceAdd, Int.reduceSub, Int.reduceLT, Int.reduceLE, Int.reduceEq, Int.reduceToNat, encL, ir_Res]
            refine arC.of (w14) Try.call14 ?_
            simp only [go_sem, ↓reduceIte, reduceCtorEq, Nat.reduceAdd, Nat.reduceSub, Nat.reduceMul, Nat.reduceEqDiff, Nat.reduceLT, Nat.reduceLeDiff, Nat.reduceBEq, Int.reduceAdd, Int.reduceSub, Int.reduceLT, Int.reduceLE, Int.reduceEq, Int.reduceToNat, encL, ir_Res]
            subst hK
            refine AW.ret ?_
            refine thenA_r ?_
            exact fin_val (.inl rfl) rfl rfl
          · cases hc31
end Go.Proofs.Y1
