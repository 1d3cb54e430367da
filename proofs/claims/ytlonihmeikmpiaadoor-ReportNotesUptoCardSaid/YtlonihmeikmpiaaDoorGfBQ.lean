import Derived.Test.YtlonihmeikmpiaaDoorGfBW
import Derived.Handy
set_option linter.all false
set_option linter.unusedVariables false
set_option linter.unusedSimpArgs false
set_option linter.all false
namespace Go.Proofs
open Go.RowKit Go.Shelf Go.Gm
def hexD (d : Nat) : UInt8 := ([48, 49, 50, 51, 52, 53, 54, 55, 56, 57, 97, 98, 99, 100, 101, 102] : List UInt8).getD d 0
theorem hexAt : ∀ (i : Nat) (hi : i < 16) (hh : i < (⟨#[48, 49, 50, 51, 52, 53, 54, 55, 56, 57, 97, 98, 99, 100, 101, 102]⟩ : ByteArray).size), (⟨#[48, 49, 50, 51, 52, 53, 54, 55, 56, 57, 97, 98, 99, 100, 101, 102]⟩ : ByteArray)[i]'(hh) = hexD i
  | 0, _, _ => rfl | 1, _, _ => rfl | 2, _, _ => rfl | 3, _, _ => rfl | 4, _, _ => rfl | 5, _, _ => rfl | 6, _, _ => rfl | 7, _, _ => rfl
  | 8, _, _ => rfl | 9, _, _ => rfl | 10, _, _ => rfl | 11, _, _ => rfl | 12, _, _ => rfl | 13, _, _ => rfl | 14, _, _ => rfl | 15, _, _ => rfl
  | n + 16, h, _ => absurd h (by omega)
def qb (c : UInt8) : List UInt8 := if c = 34 ∨ c = 92 then [92, c] else if c < 32 ∨ 126 < c then [92, 120, hexD (c.toNat / 16), hexD (c.toNat % 16)] else [c]
def quoteL (l : List UInt8) : List UInt8 := 34 :: (l.flatMap qb ++ [34])
theorem qb_one (c : UInt8) : (qb c).length ≤ 4 := by
  unfold qb; split
  · simp
  · split <;> simp
theorem qb_len : ∀ l : List UInt8, (l.flatMap qb).length ≤ 4 * l.length
  | [] => by simp
  | c :: l => by
    have := qb_len l
    have h := qb_one c
    simp only [List.flatMap_cons, List.length_append, List.length_cons]; omega
set_option maxHeartbeats 4000000 in
set_option maxRecDepth 1000000 in
theorem Tryd.quote (s : ByteArray) (w : World) (hs : s.size ≤ 1000000) :
    Calls Tryd.prog 33 #[.string s] w fun e w' => e = .returned (.string ⟨(quoteL s.data.toList).toArray⟩) ∧ Below w.heap.size w w' := by
  have h0 : Lib.IsBuilderF 63 5 w.heap.size w.heap.size [] (w.alloc (.cells #[.pointer none, .slice none 0 0] 63)) := Lib.IsBuilderF.of (Lib.fresh_isBuilder 63 5 w)
  have b0 : Below w.heap.size w (w.alloc (.cells #[.pointer none, .slice none 0 0] 63)) := (Below.refl _ w).alloc (Nat.le_refl _) _
  go_enter Tryd.func33, Tryd.ntmps33
  go_wp2_with (go_at_call 46; refine (Tryd.bbyte w.heap.size w.heap.size [] 34 _ h0 (by decide) b0.size).mono ?_)
  rintro e W1 ⟨rfl, h1, b1, _⟩
  go_wp2
  go_loopw [9] (fun v wr => ∃ (k : Nat), k ≤ s.size ∧ v = .int .i64 k ∧ Lib.IsBuilderF 63 5 w.heap.size w.heap.size (Lib.byteCells (34 :: (s.data.toList.take k).flatMap qb)) wr ∧ Below w.heap.size w wr) (fun v _ => s.size - (intOf v).toNat)
  case atStart =>
    exact ⟨0, Nat.zero_le _, rfl, Or.inr h1, b0.trans b1⟩
  case round =>
    obtain ⟨k, hk, rfl, hI, hb⟩ := hrel
    have hlk : (Lib.byteCells (34 :: (s.data.toList.take k).flatMap qb)).length ≤ 1 + 4 * k := by
      rw [Lib.byteCells_length]
      have := qb_len (s.data.toList.take k)
      simp at this ⊢; omega
    by_cases hp : k < s.size
    · have hB := hb.size
      have fin : ∀ (W : World) (l : List UInt8), Lib.BuilderAtF 63 5 w.heap.size w.heap.size (.pointer (some ⟨w.heap.size, 0, none⟩)) (Lib.byteCells (34 :: (s.data.toList.take k).flatMap qb) ++ Lib.byteCells l) W → l = qb s[k] → Lib.IsBuilderF 63 5 w.heap.size w.heap.size (Lib.byteCells (34 :: (s.data.toList.take (k + 1)).flatMap qb)) W := fun W l h e => by
        subst e
        rw [← Lib.byteCells_append] at h
        have hks : k < s.data.toList.length := by simpa using hp
        rw [List.take_succ_eq_append_getElem hks, List.flatMap_append]
        have e2 : [s.data.toList[k]].flatMap qb = qb s[k] := by simp; rfl
        rw [e2]
        exact Or.inr h
      have dn : ∀ (W : World) (l : List UInt8) (xs : List Value), xs = Lib.byteCells l → Lib.BuilderAtF 63 5 w.heap.size w.heap.size (.pointer (some ⟨w.heap.size, 0, none⟩)) (Lib.byteCells (34 :: (s.data.toList.take k).flatMap qb) ++ xs) W → l = qb s[k] → Below w.heap.size w W →
          ∃ k_1, k_1 ≤ s.size ∧ Value.int IntKind.i64 ((k : Int) + 1) = Value.int IntKind.i64 (k_1 : Int) ∧ Lib.IsBuilderF 63 5 w.heap.size w.heap.size (Lib.byteCells (34 :: (s.data.toList.take k_1).flatMap qb)) W ∧ Below w.heap.size w W := fun W l xs hx h e hw => by
        subst hx
        exact ⟨k + 1, by omega, by simp, fin W l h e, hw⟩
      have hl0 : (Lib.byteCells (34 :: (s.data.toList.take k).flatMap qb)).length + 2 + 1 + 1 ≤ 140737488355328 := by omega
      have hc8 := s[k].toNat_lt
      clear hlk fin
      go_wp2_with fail
      · have q : (s[k].toNat : Int) = 34 := by assumption
        refine (Tryd.bbyte w.heap.size w.heap.size _ 92 _ hI (by omega) hB).mono ?_
        rintro e W2 ⟨rfl, h2, b2, _⟩
        have hl2 : (Lib.byteCells (34 :: (s.data.toList.take k).flatMap qb) ++ [Value.int .u8 92]).length + 1 ≤ 140737488355328 := by rw [List.length_append]; simp only [List.length_cons, List.length_nil]; omega
        have hB2 := Nat.le_trans hB b2.size
        have h2' : Lib.IsBuilderF 63 5 w.heap.size w.heap.size (Lib.byteCells (34 :: (s.data.toList.take k).flatMap qb) ++ [Value.int .u8 92]) W2 := Or.inr h2
        go_wp2_with fail
        refine (Tryd.bbyte w.heap.size w.heap.size _ _ W2 h2' hl2 hB2).mono ?_
        rintro e W3 ⟨rfl, h3, b3, _⟩
        go_wp2
        go_roundw
        case rel =>
          rw [List.append_assoc] at h3
          have e : s[k] = 34 := UInt8.toNat_inj.1 (by show s[k].toNat = 34; omega)
          exact dn W3 [92, 34] _ rfl h3 (by rw [e]; rfl) (hb.trans (b2.trans b3))
        case measure => simp only [intOf]; omega
      · have q : ((s[k].toNat : Int) == 34) = true ∨ ((s[k].toNat : Int) == 92) = true := by assumption
        have q0 : ¬ (s[k].toNat : Int) = 34 := by assumption
        refine (Tryd.bbyte w.heap.size w.heap.size _ 92 _ hI (by omega) hB).mono ?_
        rintro e W2 ⟨rfl, h2, b2, _⟩
        have hl2 : (Lib.byteCells (34 :: (s.data.toList.take k).flatMap qb) ++ [Value.int .u8 92]).length + 1 ≤ 140737488355328 := by rw [List.length_append]; simp only [List.length_cons, List.length_nil]; omega
        have hB2 := Nat.le_trans hB b2.size
        have h2' : Lib.IsBuilderF 63 5 w.heap.size w.heap.size (Lib.byteCells (34 :: (s.data.toList.take k).flatMap qb) ++ [Value.int .u8 92]) W2 := Or.inr h2
        go_wp2_with fail
        refine (Tryd.bbyte w.heap.size w.heap.size _ _ W2 h2' hl2 hB2).mono ?_
        rintro e W3 ⟨rfl, h3, b3, _⟩
        go_wp2
        go_roundw
        case rel =>
          rw [List.append_assoc] at h3
          simp only [beq_iff_eq] at q
          have e : s[k] = 92 := UInt8.toNat_inj.1 (by show s[k].toNat = 92; omega)
          exact dn W3 [92, s[k]] _ rfl h3 (by rw [e]; rfl) (hb.trans (b2.trans b3))
        case measure => simp only [intOf]; omega
      · have q1 : ¬ (s[k].toNat : Int) = 34 := by assumption
        have q2 : ((s[k].toNat : Int) == 34) = false ∧ ((s[k].toNat : Int) == 92) = false := by assumption
        have q : (s[k].toNat : Int) < 32 ∨ 126 < (s[k].toNat : Int) := by assumption
        simp only [beq_eq_false_iff_ne, ne_eq] at q2
        have hq : qb s[k] = [92, 120, hexD (s[k].toNat / 16), hexD (s[k].toNat % 16)] := by
          have n1 : ¬ s[k] = 34 := fun e => by rw [e] at q1; exact q1 rfl
          have n2 : ¬ s[k] = 92 := fun e => by rw [e] at q2; exact q2.2 rfl
          unfold qb
          rw [if_neg (fun h => h.elim n1 n2), if_pos]
          rw [UInt8.lt_iff_toNat_lt, UInt8.lt_iff_toNat_lt]
          show s[k].toNat < 32 ∨ 126 < s[k].toNat
          omega
        refine (Tryd.bstring w.heap.size w.heap.size _ ⟨#[92, 120]⟩ _ hI (by have : (⟨#[92, 120]⟩ : ByteArray).size = 2 := rfl; omega) hB).mono ?_
        rintro e W2 ⟨rfl, h2, b2, _⟩
        have hl2 : (Lib.byteCells (34 :: (s.data.toList.take k).flatMap qb) ++ Lib.strCells ⟨#[92, 120]⟩).length + 1 ≤ 140737488355328 := by
          have : (Lib.strCells ⟨#[92, 120]⟩).length = 2 := rfl
          rw [List.length_append]; omega
        have hB2 := Nat.le_trans hB b2.size
        have h2' : Lib.IsBuilderF 63 5 w.heap.size w.heap.size (Lib.byteCells (34 :: (s.data.toList.take k).flatMap qb) ++ Lib.strCells ⟨#[92, 120]⟩) W2 := Or.inr h2
        go_wp2_with fail
        refine (Tryd.bbyte w.heap.size w.heap.size _ _ W2 h2' hl2 hB2).mono ?_
        rintro e W3 ⟨rfl, h3, b3, _⟩
        have h3' : Lib.IsBuilderF 63 5 w.heap.size w.heap.size _ W3 := Or.inr h3
        have hB3 := Nat.le_trans hB2 b3.size
        go_wp2_with fail
        refine (Tryd.bbyte w.heap.size w.heap.size _ _ W3 h3' ?_ hB3).mono ?_
        · have : (Lib.strCells ⟨#[92, 120]⟩).length = 2 := rfl
          rw [List.length_append, List.length_append]; simp only [List.length_cons, List.length_nil]; omega
        rintro e W4 ⟨rfl, h4, b4, _⟩
        go_wp2
        go_roundw
        case rel =>
          rw [hexAt _ (by omega), hexAt _ (by omega), List.append_assoc, List.append_assoc] at h4
          exact dn W4 [92, 120, hexD (s[k].toNat / 16), hexD (s[k].toNat % 16)] _ rfl h4 hq.symm (hb.trans (b2.trans (b3.trans b4)))
        case measure => simp only [intOf]; omega
      · have q1 : ¬ (s[k].toNat : Int) = 34 := by assumption
        have q2 : ((s[k].toNat : Int) == 34) = false ∧ ((s[k].toNat : Int) == 92) = false := by assumption
        have q : 32 ≤ (s[k].toNat : Int) ∧ (s[k].toNat : Int) ≤ 126 := by assumption
        refine (Tryd.bbyte w.heap.size w.heap.size _ _ _ hI (by omega) hB).mono ?_
        rintro e W2 ⟨rfl, h2, b2, _⟩
        go_wp2
        go_roundw
        case rel =>
          simp only [beq_eq_false_iff_ne, ne_eq] at q2
          have hq : qb s[k] = [s[k]] := by
            have n1 : ¬ s[k] = 34 := fun e => by rw [e] at q1; exact q1 rfl
            have n2 : ¬ s[k] = 92 := fun e => by rw [e] at q2; exact q2.2 rfl
            unfold qb
            rw [if_neg (fun h => h.elim n1 n2), if_neg]
            rw [UInt8.lt_iff_toNat_lt, UInt8.lt_iff_toNat_lt]
            show ¬ (s[k].toNat < 32 ∨ 126 < s[k].toNat)
            omega
          exact dn W2 [s[k]] _ rfl h2 hq.symm (hb.trans b2)
        case measure => simp only [intOf]; omega
      · have q1 : ¬ (s[k].toNat : Int) = 34 := by assumption
        have q2 : ((s[k].toNat : Int) == 34) = false ∧ ((s[k].toNat : Int) == 92) = false := by assumption
        have q : (s[k].toNat : Int) < 32 ∨ 126 < (s[k].toNat : Int) := Or.inl (by assumption)
        simp only [beq_eq_false_iff_ne, ne_eq] at q2
        have hq : qb s[k] = [92, 120, hexD (s[k].toNat / 16), hexD (s[k].toNat % 16)] := by
          have n1 : ¬ s[k] = 34 := fun e => by rw [e] at q1; exact q1 rfl
          have n2 : ¬ s[k] = 92 := fun e => by rw [e] at q2; exact q2.2 rfl
          unfold qb
          rw [if_neg (fun h => h.elim n1 n2), if_pos]
          rw [UInt8.lt_iff_toNat_lt, UInt8.lt_iff_toNat_lt]
          show s[k].toNat < 32 ∨ 126 < s[k].toNat
          omega
        refine (Tryd.bstring w.heap.size w.heap.size _ ⟨#[92, 120]⟩ _ hI (by have : (⟨#[92, 120]⟩ : ByteArray).size = 2 := rfl; omega) hB).mono ?_
        rintro e W2 ⟨rfl, h2, b2, _⟩
        have hl2 : (Lib.byteCells (34 :: (s.data.toList.take k).flatMap qb) ++ Lib.strCells ⟨#[92, 120]⟩).length + 1 ≤ 140737488355328 := by
          have : (Lib.strCells ⟨#[92, 120]⟩).length = 2 := rfl
          rw [List.length_append]; omega
        have hB2 := Nat.le_trans hB b2.size
        have h2' : Lib.IsBuilderF 63 5 w.heap.size w.heap.size (Lib.byteCells (34 :: (s.data.toList.take k).flatMap qb) ++ Lib.strCells ⟨#[92, 120]⟩) W2 := Or.inr h2
        go_wp2_with fail
        refine (Tryd.bbyte w.heap.size w.heap.size _ _ W2 h2' hl2 hB2).mono ?_
        rintro e W3 ⟨rfl, h3, b3, _⟩
        have h3' : Lib.IsBuilderF 63 5 w.heap.size w.heap.size _ W3 := Or.inr h3
        have hB3 := Nat.le_trans hB2 b3.size
        go_wp2_with fail
        refine (Tryd.bbyte w.heap.size w.heap.size _ _ W3 h3' ?_ hB3).mono ?_
        · have : (Lib.strCells ⟨#[92, 120]⟩).length = 2 := rfl
          rw [List.length_append, List.length_append]; simp only [List.length_cons, List.length_nil]; omega
        rintro e W4 ⟨rfl, h4, b4, _⟩
        go_wp2
        go_roundw
        case rel =>
          rw [hexAt _ (by omega), hexAt _ (by omega), List.append_assoc, List.append_assoc] at h4
          exact dn W4 [92, 120, hexD (s[k].toNat / 16), hexD (s[k].toNat % 16)] _ rfl h4 hq.symm (hb.trans (b2.trans (b3.trans b4)))
        case measure => simp only [intOf]; omega
    · go_wp2_with fail
      have hB := hb.size
      have hks : (s.data.toList.take k) = s.data.toList := List.take_of_length_le (by simp; have : s.data.size = s.size := rfl; omega)
      rw [hks] at hI hlk
      refine (Tryd.bbyte w.heap.size w.heap.size _ 34 _ hI (by omega) hB).mono ?_
      rintro e W2 ⟨rfl, h2, b2, _⟩
      have h2' : Lib.IsBuilderF 63 5 w.heap.size w.heap.size (Lib.byteCells (quoteL s.data.toList)) W2 := by
        have e : Lib.byteCells (34 :: s.data.toList.flatMap qb) ++ [Value.int .u8 34] = Lib.byteCells (quoteL s.data.toList) := by
          rw [show [Value.int .u8 34] = Lib.byteCells [34] from rfl, ← Lib.byteCells_append]; rfl
        rw [e] at h2
        exact Or.inr h2
      have hB2 := Nat.le_trans hB b2.size
      go_wp2_with (go_at_call 34; refine (Tryd.Builder_String_any_k w.heap.size w.heap.size (quoteL s.data.toList) _ h2' hB2).mono ?_)
      rintro e W3 ⟨rfl, _, b3, _⟩
      go_wp2
      go_ret
      exact ⟨rfl, hb.trans (b2.trans b3)⟩
end Go.Proofs
