import Derived.Test.YtlonihmeikmpiaaDoorGfN7
set_option linter.all false
set_option linter.unusedVariables false
set_option linter.unusedSimpArgs false
set_option linter.all false
set_option maxRecDepth 8000
set_option maxHeartbeats 2000000
namespace Go.Proofs.Yd
open Go.Gm Go.Lib
namespace Au
theorem wrap_in (n : Int) : I64 (IntKind.i64.wrap n) := i64_range n
theorem bl_lit (l : List UInt8) : bl ⟨l.toArray⟩ = l := by simp [bl]
theorem text_eq {A B nm t y p : ByteArray} {w x : List ByteArray} {w' x' : ByteArray}
    (hw : (w = [] ∧ bl w' = []) ∨ ∃ z, w = [⟨#[97, 116]⟩, z] ∧ bl w' = [32, 97, 116, 32] ++ bl z) (hx : (x = [] ∧ bl x' = []) ∨ ∃ z, x = [⟨#[98, 121, 116, 101, 115]⟩, z] ∧ bl x' = [32, 98, 121, 116, 101, 115, 32] ++ bl z) :
    joinS ([A, nm, ⟨#[116, 97, 115, 107]⟩, t, ⟨#[116, 114, 121]⟩, y, ⟨#[112, 97, 114, 116]⟩, p] ++ w ++ x) ⟨#[32]⟩ =
      A ++ ⟨#[32]⟩ ++ nm ++ ⟨#[32, 116, 97, 115, 107, 32]⟩ ++ t ++ ⟨#[32, 116, 114, 121, 32]⟩ ++ y ++ ⟨#[32, 112, 97, 114, 116, 32]⟩ ++ p ++ w' ++ x' := by
  apply bl_inj
  rw [bl_join]
  rcases hw with ⟨rfl, hw⟩ | ⟨z, rfl, hw⟩ <;> rcases hx with ⟨rfl, hx⟩ | ⟨z', rfl, hx⟩ <;>
    simp only [bl_app, hw, hx, List.append_nil, List.cons_append, List.nil_append, List.map_cons, List.map_nil, join_cons, joinTail, List.flatten_cons, List.flatten_nil, bl_lit, List.append_assoc]
theorem note_eq {m : Msg} (hf : I64 m.From) (ht : I64 m.To) (hb : Byt m.Data) (hl : m.Data.length ≤ 1000) : ∃ r, f14 m = some r ∧ f15 m = some r := by
  obtain ⟨n, e, h1, h2, h8, h3⟩ := get_eq hb hl
  have q1 : (⟨#[62]⟩ : ByteArray).size = 1 := rfl
  have q2 : (⟨#[32]⟩ : ByteArray).size = 1 := rfl
  have q3 : (⟨#[98, 97, 100, 32]⟩ : ByteArray).size = 4 := rfl
  have q4 : (⟨#[98, 97, 100]⟩ : ByteArray).size = 3 := rfl
  have q5 : (⟨#[32, 116, 97, 115, 107, 32]⟩ : ByteArray).size = 6 := rfl
  have q6 : (⟨#[32, 116, 114, 121, 32]⟩ : ByteArray).size = 5 := rfl
  have q7 : (⟨#[32, 112, 97, 114, 116, 32]⟩ : ByteArray).size = 6 := rfl
  have q8 : (⟨#[32, 98, 121, 116, 101, 115, 32]⟩ : ByteArray).size = 7 := rfl
  have q9 : (⟨#[116, 97, 115, 107]⟩ : ByteArray).size = 4 := rfl
  have qa : (⟨#[116, 114, 121]⟩ : ByteArray).size = 3 := rfl
  have qb : (⟨#[112, 97, 114, 116]⟩ : ByteArray).size = 4 := rfl
  have qc : (⟨#[97, 116]⟩ : ByteArray).size = 2 := rfl
  have qd : (⟨#[98, 121, 116, 101, 115]⟩ : ByteArray).size = 5 := rfl
  have z1 := ita hf
  have z2 := ita ht
  have c1 : catO (itoaS m.From) ⟨#[62]⟩ = some (itoaS m.From ++ ⟨#[62]⟩) := cat_ok (by omega) (by omega)
  have c2 : catO (itoaS m.From ++ ⟨#[62]⟩) (itoaS m.To) = some (itoaS m.From ++ ⟨#[62]⟩ ++ itoaS m.To) := cat_ok (by rw [ByteArray.size_append]; omega) (by omega)
  unfold f14 f15
  simp only [(num_eq hf.1 hf.2).1, (num_eq hf.1 hf.2).2, (num_eq ht.1 ht.2).1, (num_eq ht.1 ht.2).2, Option.bind_some, c1, c2, h1, h2]
  have hA : (itoaS m.From ++ ⟨#[62]⟩ ++ itoaS m.To).size ≤ 43 := by rw [ByteArray.size_append, ByteArray.size_append]; omega
  generalize itoaS m.From ++ ⟨#[62]⟩ ++ itoaS m.To = A at hA ⊢
  clear c1 c2
  have c3 : catO A ⟨#[32]⟩ = some (A ++ ⟨#[32]⟩) := cat_ok (by omega) (by omega)
  simp only [c3, Option.bind_some]
  by_cases he : e = 0
  rotate_left
  · have z3 := ita (show I64 e from ⟨by omega, by omega⟩)
    have c4 : catO (A ++ ⟨#[32]⟩) ⟨#[98, 97, 100, 32]⟩ = some (A ++ ⟨#[32]⟩ ++ ⟨#[98, 97, 100, 32]⟩) := cat_ok (by rw [ByteArray.size_append]; omega) (by omega)
    have c5 : catO (A ++ ⟨#[32]⟩ ++ ⟨#[98, 97, 100, 32]⟩) (itoaS e) = some (A ++ ⟨#[32]⟩ ++ ⟨#[98, 97, 100, 32]⟩ ++ itoaS e) := cat_ok (by rw [ByteArray.size_append, ByteArray.size_append]; omega) (by omega)
    simp only [if_neg he, (num_eq (show -9223372036854775808 ≤ e by omega) (by omega)).1, (num_eq (show -9223372036854775808 ≤ e by omega) (by omega)).2, Option.bind_some, c4, c5]
    unfold f22
    rw [words_eq (c := 43) rfl (by simp) (by omega) (by
      intro x hx
      simp only [List.mem_cons, List.not_mem_nil, or_false] at hx
      rcases hx with rfl | rfl | rfl <;> omega)]
    refine ⟨_, rfl, congrArg some (bl_inj ?_)⟩
    rw [bl_join]
    simp only [bl_app, List.map_cons, List.map_nil, join_cons, joinTail, List.flatten_cons, List.flatten_nil, bl_lit, List.append_assoc, List.append_nil, List.cons_append, List.nil_append]
  subst he
  obtain ⟨k1, k2, k3, k4, k5, k6⟩ := h3 rfl
  have i2 : I64 n.Task := ⟨by omega, by omega⟩
  have i3 : I64 n.Try := ⟨by omega, by omega⟩
  have i4 : I64 n.Part := ⟨by omega, by omega⟩
  have i5 : ∀ x ∈ n.Where, I64 x := fun x hx => ⟨by have := k5 x hx; omega, by have := k5 x hx; omega⟩
  have i6 := wrap_in ((n.A.length : Int) + (n.B.length : Int))
  obtain ⟨nm, n1, n2, n3⟩ := name_eq k1
  have z3 := ita i2
  have z4 := ita i3
  have z5 := ita i4
  have z6 := ita i6
  have z7 := nums_size k6 i5
  have z8 := atT_size k6 i5
  have n2' : ∃ l, f31 = some l ∧ ix l n.Kind = some nm := by
    cases hf : f31 with
    | none => rw [hf] at n2; cases n2
    | some l => rw [hf] at n2; exact ⟨l, rfl, n2⟩
  obtain ⟨nl, n4, n5⟩ := n2'
  simp only [if_true, n1, n4, n5, Option.bind_some, (num_eq i2.1 i2.2).1, (num_eq i2.1 i2.2).2, (num_eq i3.1 i3.2).1, (num_eq i3.1 i3.2).2, (num_eq i4.1 i4.2).1, (num_eq i4.1 i4.2).2]
  have c4 : catO (A ++ ⟨#[32]⟩) nm = some (A ++ ⟨#[32]⟩ ++ nm) := cat_ok (by simp only [ByteArray.size_append]; omega) (by omega)
  have c5 : catO (A ++ ⟨#[32]⟩ ++ nm) ⟨#[32, 116, 97, 115, 107, 32]⟩ = some (A ++ ⟨#[32]⟩ ++ nm ++ ⟨#[32, 116, 97, 115, 107, 32]⟩) := cat_ok (by simp only [ByteArray.size_append]; omega) (by omega)
  have c6 : catO (A ++ ⟨#[32]⟩ ++ nm ++ ⟨#[32, 116, 97, 115, 107, 32]⟩) (itoaS n.Task) = some (A ++ ⟨#[32]⟩ ++ nm ++ ⟨#[32, 116, 97, 115, 107, 32]⟩ ++ itoaS n.Task) := cat_ok (by simp only [ByteArray.size_append]; omega) (by omega)
  simp only [c4, c5, c6, Option.bind_some]
  have hB : (A ++ ⟨#[32]⟩ ++ nm ++ ⟨#[32, 116, 97, 115, 107, 32]⟩ ++ itoaS n.Task).size ≤ 80 := by simp only [ByteArray.size_append]; omega
  clear c4 c5 c6
  have tx := @text_eq A A nm (itoaS n.Task) (itoaS n.Try) (itoaS n.Part)
  generalize itoaS n.Task = T at *
  generalize hBB : A ++ ⟨#[32]⟩ ++ nm ++ ⟨#[32, 116, 97, 115, 107, 32]⟩ ++ T = B at *
  have c4 : catO B ⟨#[32, 116, 114, 121, 32]⟩ = some (B ++ ⟨#[32, 116, 114, 121, 32]⟩) := cat_ok (by omega) (by omega)
  have c5 : catO (B ++ ⟨#[32, 116, 114, 121, 32]⟩) (itoaS n.Try) = some (B ++ ⟨#[32, 116, 114, 121, 32]⟩ ++ itoaS n.Try) := cat_ok (by simp only [ByteArray.size_append]; omega) (by omega)
  have c6 : catO (B ++ ⟨#[32, 116, 114, 121, 32]⟩ ++ itoaS n.Try) ⟨#[32, 112, 97, 114, 116, 32]⟩ = some (B ++ ⟨#[32, 116, 114, 121, 32]⟩ ++ itoaS n.Try ++ ⟨#[32, 112, 97, 114, 116, 32]⟩) := cat_ok (by simp only [ByteArray.size_append]; omega) (by omega)
  have c7 : catO (B ++ ⟨#[32, 116, 114, 121, 32]⟩ ++ itoaS n.Try ++ ⟨#[32, 112, 97, 114, 116, 32]⟩) (itoaS n.Part) = some (B ++ ⟨#[32, 116, 114, 121, 32]⟩ ++ itoaS n.Try ++ ⟨#[32, 112, 97, 114, 116, 32]⟩ ++ itoaS n.Part) := cat_ok (by simp only [ByteArray.size_append]; omega) (by omega)
  simp only [c4, c5, c6, c7, Option.bind_some]
  have hC : (B ++ ⟨#[32, 116, 114, 121, 32]⟩ ++ itoaS n.Try ++ ⟨#[32, 112, 97, 114, 116, 32]⟩ ++ itoaS n.Part).size ≤ 200 := by simp only [ByteArray.size_append]; omega
  clear c4 c5 c6 c7
  generalize itoaS n.Try = Y at *
  generalize itoaS n.Part = P at *
  generalize hCC : B ++ ⟨#[32, 116, 114, 121, 32]⟩ ++ Y ++ ⟨#[32, 112, 97, 114, 116, 32]⟩ ++ P = C at *
  simp only [at_loop k6 i5 (show C.size ≤ 10000 by omega), Option.bind_some]
  -- the places
  obtain ⟨w, hw1, hw2, hw3⟩ : ∃ w, (if 0 < (n.Where.length : Int) then (f29 n.Where).bind fun x22 => f14_j1 (n, 0) [A, nm, ⟨#[116, 97, 115, 107]⟩, T, ⟨#[116, 114, 121]⟩, Y, ⟨#[112, 97, 114, 116]⟩, P, ⟨#[97, 116]⟩, x22] else f14_j1 (n, 0) [A, nm, ⟨#[116, 97, 115, 107]⟩, T, ⟨#[116, 114, 121]⟩, Y, ⟨#[112, 97, 114, 116]⟩, P]) = f14_j1 (n, 0) ([A, nm, ⟨#[116, 97, 115, 107]⟩, T, ⟨#[116, 114, 121]⟩, Y, ⟨#[112, 97, 114, 116]⟩, P] ++ w) ∧ ((w = [] ∧ bl (atT n.Where) = []) ∨ ∃ z, w = [⟨#[97, 116]⟩, z] ∧ bl (atT n.Where) = [32, 97, 116, 32] ++ bl z) ∧ (w.length ≤ 2 ∧ ∀ x ∈ w, x.size ≤ 22000) := by
    by_cases hn : 0 < (n.Where.length : Int)
    · have ne : n.Where ≠ [] := by intro h; rw [h] at hn; simp at hn
      rw [if_pos hn, numbers_eq k6 i5, Option.bind_some]
      refine ⟨[⟨#[97, 116]⟩, nums n.Where], rfl, .inr ⟨nums n.Where, rfl, ?_⟩, by simp, ?_⟩
      · rw [atT, if_neg ne, bl_app]; rfl
      · intro x hx
        simp only [List.mem_cons, List.not_mem_nil, or_false] at hx
        rcases hx with rfl | rfl <;> omega
    · have ne : n.Where = [] := List.length_eq_zero_iff.1 (by omega)
      rw [if_neg hn]
      refine ⟨[], rfl, .inl ⟨rfl, ?_⟩, by simp, by simp⟩
      rw [atT, if_pos ne]; rfl
  rw [hw1]
  have s8 : ∀ x ∈ [A, nm, ⟨#[116, 97, 115, 107]⟩, T, ⟨#[116, 114, 121]⟩, Y, ⟨#[112, 97, 114, 116]⟩, P] ++ w, x.size ≤ 22000 := by
    intro x hx
    rcases List.mem_append.1 hx with hx | hx
    · simp only [List.mem_cons, List.not_mem_nil, or_false] at hx
      rcases hx with rfl | rfl | rfl | rfl | rfl | rfl | rfl | rfl <;> omega
    · exact hw3.2 x hx
  have e0 := fun x x' => @tx w x (atT n.Where) x'
  unfold f14_j1
  by_cases hp : 0 < IntKind.i64.wrap ((n.A.length : Int) + (n.B.length : Int))
  · simp only [if_pos hp, (num_eq i6.1 i6.2).1, (num_eq i6.1 i6.2).2, Option.bind_some]
    have d1 : catO (C ++ atT n.Where) ⟨#[32, 98, 121, 116, 101, 115, 32]⟩ = some (C ++ atT n.Where ++ ⟨#[32, 98, 121, 116, 101, 115, 32]⟩) := cat_ok (by simp only [ByteArray.size_append]; omega) (by omega)
    have d2 : catO (C ++ atT n.Where ++ ⟨#[32, 98, 121, 116, 101, 115, 32]⟩) (itoaS (IntKind.i64.wrap ((n.A.length : Int) + (n.B.length : Int)))) = some (C ++ atT n.Where ++ ⟨#[32, 98, 121, 116, 101, 115, 32]⟩ ++ itoaS (IntKind.i64.wrap ((n.A.length : Int) + (n.B.length : Int)))) := cat_ok (by simp only [ByteArray.size_append]; omega) (by omega)
    simp only [d1, d2, Option.bind_some]
    rw [appO_ok' (by simp; omega) (by simp), Option.bind_some]
    unfold f22
    rw [words_eq (c := 22000) rfl (by simp; omega) (by omega) (by
      intro x hx
      rcases List.mem_append.1 hx with hx | hx
      · exact s8 x hx
      · simp only [List.mem_cons, List.not_mem_nil, or_false] at hx
        rcases hx with rfl | rfl <;> omega)]
    refine ⟨_, rfl, ?_⟩
    rw [e0 _ (⟨#[32, 98, 121, 116, 101, 115, 32]⟩ ++ itoaS (IntKind.i64.wrap ((n.A.length : Int) + (n.B.length : Int)))) hw2 (.inr ⟨_, rfl, by rw [bl_app]; rfl⟩)]
    exact congrArg some (bl_inj (by simp only [bl_app, List.append_assoc]))
  · simp only [if_neg hp]
    unfold f22
    rw [words_eq (c := 22000) rfl (by simp; omega) (by omega) s8]
    refine ⟨_, rfl, ?_⟩
    have e1 := e0 [] ⟨#[]⟩ hw2 (.inl ⟨rfl, rfl⟩)
    rw [List.append_nil] at e1
    rw [e1]
    exact congrArg some (bl_inj (by simp only [bl_app, bl_lit, List.append_nil]))
end Au
end Go.Proofs.Yd
