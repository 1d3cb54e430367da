import Derived.Test.YtlonihmeikmpiaaDoorGfN9
set_option linter.all false
set_option linter.unusedVariables false
set_option linter.unusedSimpArgs false
set_option linter.all false
set_option maxRecDepth 8000
set_option maxHeartbeats 1000000
namespace Go.Proofs.Yd
open Go.Gm Go.Lib
namespace Au
theorem f5_eq : f5 = some true := by
  unfold f5
  rw [offs1_eq (l := [0, 4, 8, 9, 20]) (by intro v hv; simp only [List.mem_cons, List.not_mem_nil, or_false] at hv; rcases hv with rfl | rfl | rfl | rfl | rfl <;> omega) (by decide), Option.bind_some]
  have d : ∀ n : Nat, n < 10 → itoaS (n : Int) = lb [dig n] := fun n hn => by
    show lb (itoa (n : Int)) = _
    rw [itoa, if_neg (by omega), show ((n : Nat) : Int).toNat = n by simp, dec_lt hn]
  have d20 : itoaS 20 = lb [50, 48] := by
    show lb (itoa 20) = _
    rw [itoa, if_neg (by omega), show (20 : Int).toNat = 20 from rfl, dec_ge (by omega), dec_lt (by omega)]; rfl
  have e : pcs ([0, 4, 8, 9, 20] : List Int).length [0, 4, 8, 9, 20] = [itoaS ((0 : Nat) : Int) ++ dots ++ itoaS ((8 : Nat) : Int) ++ slash ++ itoaS ((4 : Nat) : Int), itoaS ((9 : Nat) : Int), itoaS 20] := by
    have v1 : evN [0, 4, 8, 9, 20] = 3 := by kernel_rfl
    have v2 : evN [9, 20] = 2 := by kernel_rfl
    have v3 : evN [20] = 1 := by kernel_rfl
    have w1 : W (4 - 0) = ((4 : Nat) : Int) := by kernel_rfl
    show pcs 5 [0, 4, 8, 9, 20] = _
    simp only [pcs, if_neg (show ¬ ([0, 4, 8, 9, 20] : List Int) = [] by simp), v1, show adv 3 = 3 from rfl, List.drop_succ_cons, List.drop_zero, if_neg (show ¬ ([9, 20] : List Int) = [] by simp), v2, show adv 2 = 1 from rfl, if_neg (show ¬ ([20] : List Int) = [] by simp), v3, show adv 1 = 1 from rfl, if_true]
    simp only [pc, if_neg (show ¬ 3 < 3 by omega), if_pos (show 2 < 3 by omega), if_pos (show 1 < 3 by omega), List.getD_cons_zero, List.getD_cons_succ, w1]
    rfl
  rw [e, d 0 (by omega), d 8 (by omega), d 4 (by omega), d 9 (by omega), d20]
  have : joinS [lb [dig 0] ++ dots ++ lb [dig 8] ++ slash ++ lb [dig 4], lb [dig 9], lb [50, 48]] comma = ⟨#[48, 46, 46, 56, 47, 52, 44, 57, 44, 50, 48]⟩ := by kernel_rfl
  rw [this]; rfl

def offT (l : List Int) : ByteArray := joinS (pcs l.length l) comma
theorem offT_size {l : List Int} (h : In64 l) (hl : l.length ≤ 50) : (offT l).size ≤ 3600 := by
  have h1 := joinS_size (c := 70) (l := pcs l.length l) (sep := comma) rfl (fun x hx => (pcs_size l.length h x hx).1)
  have h2 := pcs_len l.length l
  have h3 : (pcs l.length l).length * (70 + 1) ≤ 50 * 71 := Nat.mul_le_mul (by omega) (by omega)
  unfold offT; omega
structure OkR (q : Res) : Prop where
  key : q.Key.size ≤ 200
  val : q.Val.size ≤ 200
  len : q.Offs.length ≤ 50
  off : In64 q.Offs
def rowT (q : Res) : ByteArray := qt q.Key ++ (⟨#[32, 61, 32]⟩ : ByteArray) ++ qt q.Val ++ (⟨#[32, 60, 32]⟩ : ByteArray) ++ offT q.Offs ++ (⟨#[10]⟩ : ByteArray)
theorem rowT_size {q : Res} (h : OkR q) : (rowT q).size ≤ 12000 := by
  have h1 := qt_size (s := q.Key) (by have := h.key; omega)
  have h2 := qt_size (s := q.Val) (by have := h.val; omega)
  have h3 := offT_size h.off h.len
  have s1 : (⟨#[32, 61, 32]⟩ : ByteArray).size = 3 := rfl
  have s2 : (⟨#[32, 60, 32]⟩ : ByteArray).size = 3 := rfl
  have s3 : (⟨#[10]⟩ : ByteArray).size = 1 := rfl
  unfold rowT
  simp only [ByteArray.size_append]; omega
theorem row_eq {q : Res} (h : OkR q) : f16row q = some (rowT q) := by
  have h1 := qt_size (s := q.Key) (by have := h.key; omega)
  have h2 := qt_size (s := q.Val) (by have := h.val; omega)
  have h3 := offT_size h.off h.len
  have s1 : (⟨#[32, 61, 32]⟩ : ByteArray).size = 3 := rfl
  have s2 : (⟨#[32, 60, 32]⟩ : ByteArray).size = 3 := rfl
  have s3 : (⟨#[10]⟩ : ByteArray).size = 1 := rfl
  have ho : f8 q.Offs = some (offT q.Offs) := offs1_eq h.off (by have := h.len; omega)
  have hz := rowT_size h
  have c1 : catO (qt q.Key) ⟨#[32, 61, 32]⟩ = some (qt q.Key ++ (⟨#[32, 61, 32]⟩ : ByteArray)) := cat_ok (by omega) (by omega)
  have c2 : catO (qt q.Key ++ (⟨#[32, 61, 32]⟩ : ByteArray)) (qt q.Val) = some (qt q.Key ++ (⟨#[32, 61, 32]⟩ : ByteArray) ++ qt q.Val) := cat_ok (by simp only [ByteArray.size_append]; omega) (by omega)
  have c3 : catO (qt q.Key ++ (⟨#[32, 61, 32]⟩ : ByteArray) ++ qt q.Val) ⟨#[32, 60, 32]⟩ = some (qt q.Key ++ (⟨#[32, 61, 32]⟩ : ByteArray) ++ qt q.Val ++ (⟨#[32, 60, 32]⟩ : ByteArray)) := cat_ok (by simp only [ByteArray.size_append]; omega) (by omega)
  have c4 : catO (qt q.Key ++ (⟨#[32, 61, 32]⟩ : ByteArray) ++ qt q.Val ++ (⟨#[32, 60, 32]⟩ : ByteArray)) (offT q.Offs) = some (qt q.Key ++ (⟨#[32, 61, 32]⟩ : ByteArray) ++ qt q.Val ++ (⟨#[32, 60, 32]⟩ : ByteArray) ++ offT q.Offs) := cat_ok (by simp only [ByteArray.size_append]; omega) (by omega)
  have c5 : catO (qt q.Key ++ (⟨#[32, 61, 32]⟩ : ByteArray) ++ qt q.Val ++ (⟨#[32, 60, 32]⟩ : ByteArray) ++ offT q.Offs) ⟨#[10]⟩ = some (rowT q) := cat_ok (by simp only [ByteArray.size_append]; omega) (by omega)
  simp only [f16row, (quote_eq (s := q.Key) (by have := h.key; omega)).1, (quote_eq (s := q.Val) (by have := h.val; omega)).1, Option.bind_some, c1, c2, c3, ho, c4, c5]
  rw [if_pos (by omega)]
theorem go_eq : ∀ {l : List Res}, (∀ q ∈ l, OkR q) → f16go l = some (l.flatMap fun q => bl (rowT q))
  | [], _ => rfl
  | q :: l, h => by
    rw [f16go, row_eq (h q List.mem_cons_self), Option.bind_some, go_eq (fun p hp => h p (List.mem_cons_of_mem _ hp)), Option.bind_some]
    rfl
theorem flat_size : ∀ {l : List Res}, (∀ q ∈ l, OkR q) → (l.flatMap fun q => bl (rowT q)).length ≤ 12000 * l.length
  | [], _ => by simp
  | q :: l, h => by
    have h1 := rowT_size (h q List.mem_cons_self)
    have h2 := flat_size (l := l) (fun p hp => h p (List.mem_cons_of_mem _ hp))
    rw [size_bl] at h1
    rw [List.flatMap_cons, List.length_append, List.length_cons]; omega
theorem results_eq {l : List Res} (h : ∀ q ∈ l, OkR q) (hl : l.length ≤ 40) : ∃ r, f16 l = some r ∧ f17 l = some r := by
  refine ⟨lb (l.flatMap fun q => bl (rowT q)), ?_, ?_⟩
  · unfold f16
    rw [if_pos (by omega), go_eq h]; rfl
  · have s1 : (⟨#[32, 61, 32]⟩ : ByteArray).size = 3 := rfl
    have s2 : (⟨#[32, 60, 32]⟩ : ByteArray).size = 3 := rfl
    have s3 : (⟨#[10]⟩ : ByteArray).size = 1 := rfl
    have k := loopN_done (step := f17_s1 l) (fun i => (lb ((l.take i).flatMap fun q => bl (rowT q)), (i : Int))) l.length (r := lb (l.flatMap fun q => bl (rowT q))) (fun i hi => by
      have hq := h _ (List.getElem_mem hi)
      have hS : (lb ((l.take i).flatMap fun q => bl (rowT q))).size ≤ 480000 := by
        rw [lb_size]
        have := flat_size (l := l.take i) (fun p hp => h p (List.mem_of_mem_take hp))
        rw [List.length_take] at this; omega
      have e : lb ((l.take (i + 1)).flatMap fun q => bl (rowT q)) = lb ((l.take i).flatMap fun q => bl (rowT q)) ++ rowT l[i] := by
        apply bl_inj
        rw [bl_app, bl_lb, bl_lb, List.take_succ_eq_append_getElem hi, List.flatMap_append]
        simp
      rw [e]
      have hix : ix l (i : Int) = some l[i] := ixN hi
      generalize l[i] = q at *
      generalize lb ((l.take i).flatMap fun q => bl (rowT q)) = S at *
      have h1 := qt_size (s := q.Key) (by have := hq.key; omega)
      have h2 := qt_size (s := q.Val) (by have := hq.val; omega)
      have h3 := offT_size hq.off hq.len
      have ho : f9 q.Offs = some (offT q.Offs) := offs2_eq hq.off (by have := hq.len; omega)
      have c1 : catO S (qt q.Key) = some (S ++ qt q.Key) := cat_ok (by omega) (by omega)
      have c2 : catO (S ++ qt q.Key) ⟨#[32, 61, 32]⟩ = some (S ++ qt q.Key ++ (⟨#[32, 61, 32]⟩ : ByteArray)) := cat_ok (by simp only [ByteArray.size_append]; omega) (by omega)
      have c3 : catO (S ++ qt q.Key ++ (⟨#[32, 61, 32]⟩ : ByteArray)) (qt q.Val) = some (S ++ qt q.Key ++ (⟨#[32, 61, 32]⟩ : ByteArray) ++ qt q.Val) := cat_ok (by simp only [ByteArray.size_append]; omega) (by omega)
      have c4 : catO (S ++ qt q.Key ++ (⟨#[32, 61, 32]⟩ : ByteArray) ++ qt q.Val) ⟨#[32, 60, 32]⟩ = some (S ++ qt q.Key ++ (⟨#[32, 61, 32]⟩ : ByteArray) ++ qt q.Val ++ (⟨#[32, 60, 32]⟩ : ByteArray)) := cat_ok (by simp only [ByteArray.size_append]; omega) (by omega)
      have c5 : catO (S ++ qt q.Key ++ (⟨#[32, 61, 32]⟩ : ByteArray) ++ qt q.Val ++ (⟨#[32, 60, 32]⟩ : ByteArray)) (offT q.Offs) = some (S ++ qt q.Key ++ (⟨#[32, 61, 32]⟩ : ByteArray) ++ qt q.Val ++ (⟨#[32, 60, 32]⟩ : ByteArray) ++ offT q.Offs) := cat_ok (by simp only [ByteArray.size_append]; omega) (by omega)
      have c6 : catO (S ++ qt q.Key ++ (⟨#[32, 61, 32]⟩ : ByteArray) ++ qt q.Val ++ (⟨#[32, 60, 32]⟩ : ByteArray) ++ offT q.Offs) ⟨#[10]⟩ = some (S ++ rowT q) := by
        rw [cat_ok (by simp only [ByteArray.size_append]; omega) (by omega)]
        exact congrArg some (bl_inj (by simp only [rowT, bl_app, List.append_assoc]))
      simp only [f17_s1, if_pos (show (i : Int) < l.length by omega), hix, Option.bind_some, (quote_eq (s := q.Key) (by have := hq.key; omega)).2, (quote_eq (s := q.Val) (by have := hq.val; omega)).2, ho, c1, c2, c3, c4, c5, c6, wrapN (show i ≤ 10000000000 by omega)]) (by
      simp only [f17_s1, if_neg (show ¬ ((l.length : Int) < l.length) by omega), List.take_length])
    simp only [List.take_zero, List.flatMap_nil] at k
    unfold f17
    rw [show (⟨#[]⟩ : ByteArray) = lb [] from rfl, show (0 : Int) = ((0 : Nat) : Int) from rfl, k]
    rfl
theorem status_eq {a b : Int} (hb : I64 b) : ∃ r, f18 a b = some r ∧ f19 a b = some r := by
  unfold f18 f19
  by_cases h0 : a = 0
  · simp only [if_pos h0]; exact ⟨_, rfl, rfl⟩
  simp only [if_neg h0]
  by_cases h1 : a = 1
  · simp only [if_pos h1]; exact ⟨_, rfl, rfl⟩
  simp only [if_neg h1]
  by_cases h2 : a = 2
  · have z := ita hb
    have s1 : (⟨#[102, 97, 105, 108, 101, 100]⟩ : ByteArray).size = 6 := rfl
    have s2 : (⟨#[102, 97, 105, 108, 101, 100, 32]⟩ : ByteArray).size = 7 := rfl
    simp only [if_pos h2, (num_eq hb.1 hb.2).1, (num_eq hb.1 hb.2).2, Option.bind_some]
    unfold f22
    rw [words_eq (c := 43) rfl (by simp) (by omega) (by
      intro x hx
      simp only [List.mem_cons, List.not_mem_nil, or_false] at hx
      rcases hx with rfl | rfl <;> omega), cat_ok (by omega) (by omega)]
    refine ⟨_, rfl, congrArg some (bl_inj ?_)⟩
    rw [bl_join]
    simp only [bl_app, List.map_cons, List.map_nil, join_cons, joinTail, List.flatten_cons, List.flatten_nil, bl_lit, List.append_assoc, List.append_nil, List.cons_append, List.nil_append]
  · simp only [if_neg h2]; exact ⟨_, rfl, rfl⟩
theorem much_loop {l : List Res} (hl : l.length ≤ 40) (hs : ∀ q ∈ l, q.Key.size ≤ 2000000 ∧ q.Val.size ≤ 2000000 ∧ q.Offs.length ≤ 2000000 ∧ In64 q.Offs) : ∃ r, loopO (f4_s2 l) 0 = some r ∧ (r = .inl true ∨ (r = .inr () ∧ ∀ q ∈ l, OkR q)) := by
  refine loopO_of (I := fun k s => ∃ i : Nat, s = (i : Int) ∧ i ≤ l.length ∧ k = l.length - i ∧ ∀ q ∈ l.take i, OkR q) ?_ (k := l.length) ⟨0, rfl, by omega, by omega, by simp⟩
  rintro k _ ⟨i, rfl, hi, hk, ho⟩
  by_cases hlt : i < l.length
  · have hq := hs _ (List.getElem_mem hlt)
    have hw : IntKind.i64.wrap ((l[i].Key.size : Int) + (l[i].Val.size : Int)) = (l[i].Key.size : Int) + (l[i].Val.size : Int) := i64_id (by omega) (by omega)
    by_cases h1 : 200 < (l[i].Key.size : Int) + (l[i].Val.size : Int)
    · refine .inr ⟨.inl true, ?_, .inl rfl⟩
      simp only [f4_s2, if_pos (show (i : Int) < l.length by omega), ixN hlt, Option.bind_some, hw, if_pos h1, f5_eq]
    by_cases h2 : 50 < (l[i].Offs.length : Int)
    · refine .inr ⟨.inl true, ?_, .inl rfl⟩
      simp only [f4_s2, if_pos (show (i : Int) < l.length by omega), ixN hlt, Option.bind_some, hw, if_neg h1, if_pos h2, f5_eq]
    refine .inl ⟨((i + 1 : Nat) : Int), k - 1, ?_, by omega, i + 1, rfl, hlt, by omega, ?_⟩
    · simp only [f4_s2, if_pos (show (i : Int) < l.length by omega), ixN hlt, Option.bind_some, hw, if_neg h1, if_neg h2, wrapN (show i ≤ 10000000000 by omega)]
    · intro q hqm
      rw [List.take_succ_eq_append_getElem hlt] at hqm
      rcases List.mem_append.1 hqm with h | h
      · exact ho q h
      · simp only [List.mem_cons, List.not_mem_nil, or_false] at h
        subst h
        exact ⟨by omega, by omega, by omega, hq.2.2.2⟩
  · refine .inr ⟨.inr (), ?_, .inr ⟨rfl, ?_⟩⟩
    · simp only [f4_s2, if_neg (show ¬ (i : Int) < l.length by omega)]
    · rw [List.take_of_length_le (by omega)] at ho; exact ho
theorem law4 {m : Msg} {l : List Res} {a b : Int} (hf : I64 m.From) (ht : I64 m.To) (hd : Byt m.Data) (hs : ∀ q ∈ l, q.Key.size ≤ 2000000 ∧ q.Val.size ≤ 2000000 ∧ q.Offs.length ≤ 2000000 ∧ In64 q.Offs) (hb : I64 b) : f4 m l a b = some true := by
  unfold f4
  by_cases h1 : 1000 < (m.Data.length : Int)
  · rw [if_pos h1, f5_eq]; rfl
  rw [if_neg h1]
  by_cases h2 : 40 < (l.length : Int)
  · rw [if_pos h2, f5_eq]; rfl
  rw [if_neg h2]
  obtain ⟨r, h3, h4⟩ := much_loop (l := l) (by omega) hs
  rw [h3, Option.bind_some]
  rcases h4 with rfl | ⟨rfl, h4⟩
  · rfl
  obtain ⟨x, n1, n2⟩ := note_eq hf ht hd (by omega)
  obtain ⟨y, r1, r2⟩ := results_eq h4 (by omega)
  obtain ⟨z, t1, t2⟩ := status_eq (a := a) hb
  simp only [n1, n2, r1, r2, t1, t2, f5_eq, Option.bind_some, if_true]
end Au
end Go.Proofs.Yd
