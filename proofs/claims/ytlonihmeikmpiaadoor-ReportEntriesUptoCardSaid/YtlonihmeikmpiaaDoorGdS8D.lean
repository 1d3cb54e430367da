import Derived.Test.YtlonihmeikmpiaaDoorGdS8C
set_option linter.all false
set_option linter.unusedVariables false
set_option linter.unusedSimpArgs false
set_option linter.all false
set_option maxRecDepth 8000
namespace Go.Proofs.Yd
open Go.Gm Go.Lib
namespace Au
/-! ### texts read back -/
theorem cutAt {c : UInt8} : ∀ {x y u v : List UInt8}, c ∉ x → c ∉ y → x ++ c :: u = y ++ c :: v → x = y ∧ u = v
  | [], [], u, v, _, _, h => ⟨rfl, (List.cons.inj h).2⟩
  | [], b :: y, u, v, _, hy, h => absurd (List.cons.inj h).1 (fun e => hy (by simp [e]))
  | a :: x, [], u, v, hx, _, h => absurd (List.cons.inj h).1 (fun e => hx (by simp [e]))
  | a :: x, b :: y, u, v, hx, hy, h => by
    obtain ⟨h1, h2⟩ := List.cons.inj h
    obtain ⟨h3, h4⟩ := cutAt (x := x) (y := y) (fun m => hx (by simp [m])) (fun m => hy (by simp [m])) h2
    exact ⟨by rw [h1, h3], h4⟩
theorem noCut {c : UInt8} {x y u : List UInt8} (h : c ∉ y) : x ++ c :: u ≠ y := fun e => h (by rw [← e]; simp)
theorem tail_inj {c : UInt8} : ∀ {x y : List UInt8} {r s : List (List UInt8)}, c ∉ x → c ∉ y → (∀ w ∈ r, c ∉ w) → (∀ w ∈ s, c ∉ w) → x ++ joinTail [c] r = y ++ joinTail [c] s → x = y ∧ r = s
  | x, y, [], [], _, _, _, _, h => by simpa [joinTail] using h
  | x, y, [], b :: s, hx, _, _, _, h => by
    have e : y ++ c :: (b ++ joinTail [c] s) = x := by rw [show y ++ c :: (b ++ joinTail [c] s) = y ++ joinTail [c] (b :: s) by simp [joinTail], ← h]; simp [joinTail]
    exact absurd e (noCut hx)
  | x, y, a :: r, [], _, hy, _, _, h => by
    have e : x ++ c :: (a ++ joinTail [c] r) = y := by rw [show x ++ c :: (a ++ joinTail [c] r) = x ++ joinTail [c] (a :: r) by simp [joinTail], h]; simp [joinTail]
    exact absurd e (noCut hy)
  | x, y, a :: r, b :: s, hx, hy, hr, hs, h => by
    have e : x ++ c :: (a ++ joinTail [c] r) = y ++ c :: (b ++ joinTail [c] s) := by simpa [joinTail] using h
    obtain ⟨h1, h2⟩ := cutAt hx hy e
    obtain ⟨h3, h4⟩ := tail_inj (hr a (by simp)) (hs b (by simp)) (fun w hw => hr w (by simp [hw])) (fun w hw => hs w (by simp [hw])) h2
    exact ⟨h1, by rw [h3, h4]⟩
theorem join_inj {c : UInt8} {l m : List (List UInt8)} (hl : l ≠ []) (hm : m ≠ []) (h1 : ∀ w ∈ l, c ∉ w) (h2 : ∀ w ∈ m, c ∉ w) (h : join l [c] = join m [c]) : l = m := by
  cases l with
  | nil => exact absurd rfl hl
  | cons x r =>
    cases m with
    | nil => exact absurd rfl hm
    | cons y s =>
      rw [join_cons, join_cons] at h
      obtain ⟨e1, e2⟩ := tail_inj (h1 x (by simp)) (h2 y (by simp)) (fun w hw => h1 w (by simp [hw])) (fun w hw => h2 w (by simp [hw])) h
      rw [e1, e2]
theorem map_bl_inj : ∀ {l m : List ByteArray} (h : l.map bl = m.map bl), l = m
  | [], [], _ => rfl
  | [], b :: m, h => by simp at h
  | a :: l, [], h => by simp at h
  | a :: l, b :: m, h => by
    rw [List.map_cons, List.map_cons] at h
    obtain ⟨h1, h2⟩ := List.cons.inj h
    rw [bl_inj h1, map_bl_inj h2]
theorem joinS_inj {l m : List ByteArray} {sep : ByteArray} {c : UInt8} (hs : bl sep = [c]) (hl : l ≠ []) (hm : m ≠ []) (h1 : ∀ w ∈ l, c ∉ bl w) (h2 : ∀ w ∈ m, c ∉ bl w) (h : joinS l sep = joinS m sep) : l = m := by
  refine map_bl_inj (join_inj (c := c) (by simpa using hl) (by simpa using hm) ?_ ?_ ?_)
  · intro w hw; obtain ⟨z, hz, rfl⟩ := List.mem_map.1 hw; exact h1 z hz
  · intro w hw; obtain ⟨z, hz, rfl⟩ := List.mem_map.1 hw; exact h2 z hz
  · rw [← hs, ← bl_join, ← bl_join, h]
/-! ### decimals read back -/
theorem dig_toNat {d : Nat} (h : d < 10) : (dig d).toNat = 48 + d := by unfold dig; rw [UInt8.toNat_ofNat']; omega
def valD (l : List UInt8) : Nat := l.foldl (fun a d => a * 10 + (d.toNat - 48)) 0
theorem valD_dec (u : Nat) : valD (decDigits u) = u := by
  induction u using Nat.strongRecOn with
  | ind u ih =>
    by_cases hu : u < 10
    · rw [dec_lt hu]; simp only [valD, List.foldl_cons, List.foldl_nil, dig_toNat hu]; omega
    · have h := ih (u / 10) (by omega)
      rw [dec_ge hu]
      simp only [valD, List.foldl_append, List.foldl_cons, List.foldl_nil, dig_toNat (show u % 10 < 10 by omega)] at h ⊢
      rw [h]; omega
theorem dec_inj {u v : Nat} (h : decDigits u = decDigits v) : u = v := by rw [← valD_dec u, h, valD_dec]
theorem dec_mem (u : Nat) : ∀ d ∈ decDigits u, 48 ≤ d.toNat ∧ d.toNat ≤ 57 := by
  induction u using Nat.strongRecOn with
  | ind u ih =>
    intro d hd
    by_cases hu : u < 10
    · rw [dec_lt hu] at hd
      simp only [List.mem_singleton] at hd
      rw [hd, dig_toNat hu]; omega
    · rw [dec_ge hu] at hd
      rcases List.mem_append.1 hd with hd | hd
      · exact ih (u / 10) (by omega) d hd
      · simp only [List.mem_singleton] at hd
        rw [hd, dig_toNat (by omega)]; omega
theorem itoa_mem (n : Int) : ∀ d ∈ itoa n, d.toNat = 45 ∨ (48 ≤ d.toNat ∧ d.toNat ≤ 57) := by
  intro d hd
  unfold itoa at hd
  split at hd
  · rcases List.mem_cons.1 hd with rfl | hd
    · exact .inl rfl
    · exact .inr (dec_mem _ d hd)
  · exact .inr (dec_mem _ d hd)
theorem itoa_inj {n m : Int} (h : itoa n = itoa m) : n = m := by
  unfold itoa at h
  have no : ∀ u v, 45 :: decDigits u ≠ decDigits v := fun u v e => by
    have := dec_mem v 45 (by rw [← e]; simp)
    have : (45 : UInt8).toNat = 45 := rfl
    omega
  split at h <;> split at h
  · have := dec_inj (List.cons.inj h).2; omega
  · exact absurd h (no _ _)
  · exact absurd h.symm (no _ _)
  · have := dec_inj h; omega
theorem bl_itoa (n : Int) : bl (itoaS n) = itoa n := bl_lb _
theorem itoaS_inj {n m : Int} (h : itoaS n = itoaS m) : n = m := itoa_inj (by rw [← bl_itoa, h, bl_itoa])
theorem itoa_no {c : UInt8} (h : c.toNat < 45 ∨ c.toNat = 46 ∨ c.toNat = 47 ∨ 57 < c.toNat) (n : Int) : c ∉ bl (itoaS n) := fun hm => by
  rw [bl_itoa] at hm
  have := itoa_mem n c hm
  omega
/-! ### entries are told apart -/
def NoS (x : Entry) : Prop := x.Sums = []
theorem name_no {k : Int} (h0 : 0 ≤ k) (h1 : k ≤ 5) : (32 : UInt8) ∉ bl (nameOf k) := by
  obtain ⟨n, rfl⟩ := Int.eq_ofNat_of_zero_le h0
  match n, (show n < 6 by omega) with
  | 0, _ => decide
  | 1, _ => decide
  | 2, _ => decide
  | 3, _ => decide
  | 4, _ => decide
  | 5, _ => decide
theorem name_list : ∀ i, i < 6 → ∀ j, j < 6 → (nameOf (i : Nat) = nameOf (j : Nat)) → i = j := by decide
theorem name_inj {k m : Int} (h0 : 0 ≤ k) (h1 : k ≤ 5) (g0 : 0 ≤ m) (g1 : m ≤ 5) (h : nameOf k = nameOf m) : k = m := by
  obtain ⟨i, rfl⟩ := Int.eq_ofNat_of_zero_le h0
  obtain ⟨j, rfl⟩ := Int.eq_ofNat_of_zero_le g0
  have := name_list i (by omega) j (by omega) h
  omega
theorem textE_inj {x y : Entry} (hx : x.Sums = []) (hy : y.Sums = []) (hk : 0 ≤ x.Kind ∧ x.Kind ≤ 5) (hm : 0 ≤ y.Kind ∧ y.Kind ≤ 5) (h : textE x = textE y) : x = y := by
  have ew : ∀ z : Entry, z.Sums = [] → wordsOf z (nameOf z.Kind) z.Sums.length = [nameOf z.Kind, itoaS z.A, itoaS z.B, itoaS z.C] := fun z hz => by simp [wordsOf, hz]
  have no : ∀ z : Entry, 0 ≤ z.Kind ∧ z.Kind ≤ 5 → ∀ w ∈ [nameOf z.Kind, itoaS z.A, itoaS z.B, itoaS z.C], (32 : UInt8) ∉ bl w := fun z hz w hw => by
    simp only [List.mem_cons, List.not_mem_nil, or_false] at hw
    rcases hw with rfl | rfl | rfl | rfl
    · exact name_no hz.1 hz.2
    all_goals exact itoa_no (by decide) _
  unfold textE at h
  rw [ew x hx, ew y hy] at h
  have e := joinS_inj (c := 32) (sep := sp) rfl (by simp) (by simp) (no x hk) (no y hm) h
  simp only [List.cons.injEq, and_true] at e
  obtain ⟨e1, e2, e3, e4⟩ := e
  have k1 := name_inj hk.1 hk.2 hm.1 hm.2 e1
  have k2 := itoaS_inj e2; have k3 := itoaS_inj e3; have k4 := itoaS_inj e4
  cases x; cases y; simp only at *; subst k1 k2 k3 k4 hx hy; rfl
theorem f10_some (x : Entry) : ∃ r, f10 x = some r ∧ (r = true → 0 ≤ x.Kind ∧ x.Kind ≤ 5) := by
  unfold f10
  by_cases c1 : x.Kind < 0
  · exact ⟨false, by rw [if_pos c1], fun h => by cases h⟩
  · by_cases c2 : 5 < x.Kind
    · exact ⟨false, by rw [if_neg c1, if_pos c2], fun h => by cases h⟩
    · rw [if_neg c1, if_neg c2]
      (repeat' split) <;> exact ⟨_, rfl, fun _ => ⟨by omega, by omega⟩⟩
noncomputable instance : DecidableEq Entry := fun _ _ => Classical.propDecidable _
theorem same_eq {x y : Entry} (hx : x.Sums = []) (hy : y.Sums = []) : f11 x y = some (decide (x = y)) := by
  obtain ⟨k, a, b, c, s⟩ := x; obtain ⟨k', a', b', c', s'⟩ := y
  simp only at hx hy
  subst hx hy
  have hl : loopO (f11_s1 ⟨k, a, b, c, []⟩ ⟨k', a', b', c', []⟩) 0 = some (.inr ()) := loopO_done (by simp [f11_s1])
  simp only [f11, hl, Option.bind_some, List.length_nil, if_true, Entry.mk.injEq, and_true]
  by_cases c1 : k = k' <;> by_cases c2 : a = a' <;> by_cases c3 : b = b' <;> by_cases c4 : c = c' <;> simp [c1, c2, c3, c4]
/-! ### offsets are told apart -/
def Asc (a : List Int) : Prop := ∀ i, i < a.length → 0 ≤ a.getD i 0 ∧ a.getD i 0 ≤ 1048576 ∧ (0 < i → a.getD (i - 1) 0 < a.getD i 0)
theorem asc_drop {a : List Int} (h : Asc a) (k : Nat) : Asc (a.drop k) := fun i hi => by
  rw [List.length_drop] at hi
  rw [dropD, dropD]
  obtain ⟨h1, h2, h3⟩ := h (k + i) (by omega)
  exact ⟨h1, h2, fun hp => by have := h3 (by omega); rwa [show k + i - 1 = k + (i - 1) by omega] at this⟩
theorem step_eq {l : List Int} (h : Asc l) {i : Nat} (h1 : 1 ≤ i) (hi : i < l.length) : W (l.getD i 0 - l.getD (i - 1) 0) = l.getD i 0 - l.getD (i - 1) 0 := by
  obtain ⟨a1, a2, _⟩ := h i hi
  obtain ⟨b1, b2, _⟩ := h (i - 1) (by omega)
  exact i64_id (by omega) (by omega)
/-- the first evN members go up by equal steps -/
theorem ev_at {l : List Int} (h : Asc l) (h3 : 3 ≤ evN l) : ∀ i, i < evN l → l.getD i 0 = l.getD 0 0 + (i : Int) * (l.getD 1 0 - l.getD 0 0)
  | 0, _ => by simp
  | 1, _ => by simp; omega
  | i + 2, hi => by
    have ih := ev_at h h3 (i + 1) (by omega)
    have hne : l ≠ [] := fun e => by subst e; simp [evN, goE] at h3
    have hle := (evN_pos hne).2
    have e := goE_all l l.length (min l.length 2) (i + 2) (by omega) hi
    rw [step_eq h (by omega) (by omega)] at e
    have e1 := step_eq h (i := 1) (by omega) (by omega)
    rw [show (1 : Nat) - 1 = 0 from rfl] at e1
    rw [e1, show i + 2 - 1 = i + 1 by omega] at e
    rw [show ((i + 2 : Nat) : Int) = ((i + 1 : Nat) : Int) + 1 by omega, Int.add_mul, ← Int.add_assoc, ← ih]
    omega
theorem pc_bytes (l : List Int) (y : Nat) : (44 : UInt8) ∉ bl (pc l y) := by
  unfold pc
  split
  · exact itoa_no (by decide) _
  · simp only [bl_app, List.mem_append, not_or]
    refine ⟨⟨⟨⟨itoa_no (by decide) _, by decide⟩, itoa_no (by decide) _⟩, by decide⟩, itoa_no (by decide) _⟩
theorem range_text (A B C : Int) : bl (itoaS A ++ dots ++ itoaS B ++ slash ++ itoaS C) = bl (itoaS A) ++ 46 :: (46 :: (bl (itoaS B) ++ 47 :: bl (itoaS C))) := by
  simp only [bl_app, List.append_assoc]; rfl
theorem range_inj {A B C A' B' C' : Int} (h : itoaS A ++ dots ++ itoaS B ++ slash ++ itoaS C = itoaS A' ++ dots ++ itoaS B' ++ slash ++ itoaS C') : A = A' ∧ B = B' ∧ C = C' := by
  have e := congrArg bl h
  rw [range_text, range_text] at e
  obtain ⟨e1, e2⟩ := cutAt (itoa_no (by decide) _) (itoa_no (by decide) _) e
  obtain ⟨e3, e4⟩ := cutAt (itoa_no (by decide) _) (itoa_no (by decide) _) (List.cons.inj e2).2
  exact ⟨itoaS_inj (bl_inj e1), itoaS_inj (bl_inj e3), itoaS_inj (bl_inj e4)⟩
theorem range_plain {A B C D : Int} : itoaS A ++ dots ++ itoaS B ++ slash ++ itoaS C ≠ itoaS D := fun h => by
  have e := congrArg bl h
  rw [range_text] at e
  exact noCut (itoa_no (by decide) D) e
theorem list_D {l m : List Int} {k : Nat} (hl : k ≤ l.length) (hm : k ≤ m.length) (h : ∀ i, i < k → l.getD i 0 = m.getD i 0) (hd : l.drop k = m.drop k) : l = m := by
  rw [← List.take_append_drop k l, ← List.take_append_drop k m, hd]
  congr 1
  refine List.ext_getElem (by simp; omega) (fun i h1 h2 => ?_)
  have := h i (by simp at h1; omega)
  rw [List.length_take] at h1 h2
  simp only [List.getElem_take]
  simpa [List.getD, show i < l.length by omega, show i < m.length by omega] using this
theorem pc_inj {l m : List Int} (hl : Asc l) (hm : Asc m) (nl : l ≠ []) (nm : m ≠ []) (h : pc l (evN l) = pc m (evN m)) :
    adv (evN l) = adv (evN m) ∧ ∀ i, i < adv (evN l) → l.getD i 0 = m.getD i 0 := by
  obtain ⟨l1, l2⟩ := evN_pos nl
  obtain ⟨m1, m2⟩ := evN_pos nm
  unfold pc at h
  unfold adv
  by_cases cl : evN l < 3 <;> by_cases cm : evN m < 3
  · simp only [if_pos cl, if_pos cm] at h ⊢
    have := itoaS_inj h
    refine ⟨trivial, fun i hi => ?_⟩
    rw [show i = 0 by omega]; exact this
  · simp only [if_pos cl, if_neg cm] at h
    exact absurd h.symm range_plain
  · simp only [if_neg cl, if_pos cm] at h
    exact absurd h range_plain
  · simp only [if_neg cl, if_neg cm] at h ⊢
    obtain ⟨e1, e2, e3⟩ := range_inj h
    have s1 := step_eq hl (i := 1) (by omega) (by omega)
    have s2 := step_eq hm (i := 1) (by omega) (by omega)
    rw [show (1 : Nat) - 1 = 0 from rfl] at s1 s2
    rw [s1, s2] at e3
    have r1 := (hl 1 (by omega)).2.2 (by omega)
    rw [show (1 : Nat) - 1 = 0 from rfl] at r1
    have a1 := ev_at hl (by omega) (evN l - 1) (by omega)
    have a2 := ev_at hm (by omega) (evN m - 1) (by omega)
    rw [e2, a2, ← e3, ← e1] at a1
    have hmul : ((evN m - 1 : Nat) : Int) * (l.getD 1 0 - l.getD 0 0) = ((evN l - 1 : Nat) : Int) * (l.getD 1 0 - l.getD 0 0) := by omega
    have hq := Int.eq_of_mul_eq_mul_right (by omega) hmul
    have hev : evN l = evN m := by omega
    refine ⟨hev, fun i hi => ?_⟩
    rw [ev_at hl (by omega) i hi, ev_at hm (by omega) i (by omega), e3, e1]
theorem pcs_inj : ∀ (f f' : Nat) {l m : List Int}, l.length ≤ f → m.length ≤ f' → Asc l → Asc m → pcs f l = pcs f' m → l = m
  | 0, 0, l, m, h1, h2, _, _, _ => by rw [List.length_eq_zero_iff.1 (show l.length = 0 by omega), List.length_eq_zero_iff.1 (show m.length = 0 by omega)]
  | 0, f' + 1, l, m, h1, h2, _, _, h => by
    have e := List.length_eq_zero_iff.1 (show l.length = 0 by omega)
    by_cases nm : m = []
    · rw [e, nm]
    · simp [pcs, nm] at h
  | f + 1, 0, l, m, h1, h2, _, _, h => by
    have e := List.length_eq_zero_iff.1 (show m.length = 0 by omega)
    by_cases nl : l = []
    · rw [e, nl]
    · simp [pcs, nl] at h
  | f + 1, f' + 1, l, m, h1, h2, hl, hm, h => by
    by_cases nl : l = [] <;> by_cases nm : m = []
    · rw [nl, nm]
    · simp [pcs, nl, nm] at h
    · simp [pcs, nl, nm] at h
    · simp only [pcs, if_neg nl, if_neg nm, List.cons.injEq] at h
      obtain ⟨e1, e2⟩ := pc_inj hl hm nl nm h.1
      obtain ⟨a1, a2⟩ := adv_pos nl
      obtain ⟨b1, b2⟩ := adv_pos nm
      have hd := pcs_inj f f' (by rw [List.length_drop]; omega) (by rw [List.length_drop]; omega) (asc_drop hl _) (asc_drop hm _) h.2
      rw [← e1] at hd
      exact list_D a2 (by omega) e2 hd
theorem pcs_nil {l : List Int} : pcs l.length l = [] ↔ l = [] := by
  constructor
  · intro h
    cases l with
    | nil => rfl
    | cons a r => simp [pcs] at h
  · rintro rfl; rfl
theorem offs_inj {a b : List Int} (ha : Asc a) (hb : Asc b) (ia : In64 a) (ib : In64 b) (h : joinS (pcs a.length a) comma = joinS (pcs b.length b) comma) : a = b := by
  have no : ∀ {l : List Int} (_ : In64 l), ∀ w ∈ pcs l.length l, (44 : UInt8) ∉ bl w := by
    intro l _
    have : ∀ (f : Nat) (l : List Int), ∀ w ∈ pcs f l, (44 : UInt8) ∉ bl w := by
      intro f
      induction f with
      | zero => intro l w hw; cases hw
      | succ f ih =>
        intro l w hw
        unfold pcs at hw
        split at hw
        · cases hw
        · rcases List.mem_cons.1 hw with rfl | hw
          · exact pc_bytes _ _
          · exact ih _ w hw
    exact this _ _
  have ne : ∀ {l : List Int} (_ : In64 l), l ≠ [] → joinS (pcs l.length l) comma ≠ ⟨#[]⟩ := fun {l} hl nl e => by
    have e' := (empty_iff _).1 e
    rw [bl_join] at e'
    cases hp : pcs l.length l with
    | nil => exact nl (pcs_nil.1 hp)
    | cons x r =>
      rw [hp, List.map_cons, join_cons] at e'
      exact (pcs_size _ hl x (by rw [hp]; simp)).2 (List.append_eq_nil_iff.1 e').1
  by_cases na : a = [] <;> by_cases nb : b = []
  · rw [na, nb]
  · exact absurd (h.symm.trans (by rw [na]; rfl)) (ne ib nb)
  · exact absurd (h.trans (by rw [nb]; rfl)) (ne ia na)
  · have e := joinS_inj (c := 44) (sep := comma) rfl (fun e => na (pcs_nil.1 e)) (fun e => nb (pcs_nil.1 e)) (no ia) (no ib) h
    exact pcs_inj _ _ (Nat.le_refl _) (Nat.le_refl _) ha hb e
theorem f12_some {a : List Int} (hl : a.length ≤ 100) : ∃ r, f12 a = some r ∧ (r = true → Asc a) := by
  have key : ∃ r, loopO (f12_s1 a) 0 = some r ∧ (∀ u, r = .inr u → Asc a) ∧ (∀ u, r = .inl u → u = false) := by
    refine loopO_of (fun n s => ∃ i : Nat, s = (i : Int) ∧ i ≤ a.length ∧ n = a.length - i ∧ ∀ j, j < i → 0 ≤ a.getD j 0 ∧ a.getD j 0 ≤ 1048576 ∧ (0 < j → a.getD (j - 1) 0 < a.getD j 0)) ?_ (k := a.length) ⟨0, rfl, by omega, by omega, fun j hj => absurd hj (by omega)⟩
    rintro n _ ⟨i, rfl, hi, hn, hj⟩
    by_cases hlt : i < a.length
    · have hw := wrapN (show i ≤ 10000000000 by omega)
      have nx : 0 ≤ a.getD i 0 → a.getD i 0 ≤ 1048576 → (0 < i → a.getD (i - 1) 0 < a.getD i 0) → ∀ j, j < i + 1 → 0 ≤ a.getD j 0 ∧ a.getD j 0 ≤ 1048576 ∧ (0 < j → a.getD (j - 1) 0 < a.getD j 0) := fun x y z j hj' => by
        by_cases e : j = i
        · subst e; exact ⟨x, y, z⟩
        · exact hj j (by omega)
      by_cases c1 : a.getD i 0 < 0
      · exact .inr ⟨.inl false, by simp only [f12_s1, if_pos (show (i : Int) < (a.length : Int) by omega), ix_D hlt, Option.bind_some, if_pos c1], ⟨fun _ h => (by cases h), fun _ h => (by cases h; rfl)⟩⟩
      · by_cases c2 : 1048576 < a.getD i 0
        · exact .inr ⟨.inl false, by simp only [f12_s1, if_pos (show (i : Int) < (a.length : Int) by omega), ix_D hlt, Option.bind_some, if_neg c1, if_pos c2], ⟨fun _ h => (by cases h), fun _ h => (by cases h; rfl)⟩⟩
        · by_cases c3 : 0 < i
          · have e1 : IntKind.i64.wrap ((i : Int) - 1) = ((i - 1 : Nat) : Int) := by rw [i64_id (by omega) (by omega)]; omega
            by_cases c4 : a.getD i 0 ≤ a.getD (i - 1) 0
            · exact .inr ⟨.inl false, by simp only [f12_s1, if_pos (show (i : Int) < (a.length : Int) by omega), ix_D hlt, Option.bind_some, if_neg c1, if_neg c2, if_pos (show (0 : Int) < (i : Int) by omega), e1, ix_D (show i - 1 < a.length by omega), if_pos c4], ⟨fun _ h => (by cases h), fun _ h => (by cases h; rfl)⟩⟩
            · refine .inl ⟨((i + 1 : Nat) : Int), n - 1, ?_, by omega, i + 1, rfl, by omega, by omega, nx (by omega) (by omega) (fun _ => by omega)⟩
              simp only [f12_s1, if_pos (show (i : Int) < (a.length : Int) by omega), ix_D hlt, Option.bind_some, if_neg c1, if_neg c2, if_pos (show (0 : Int) < (i : Int) by omega), e1, ix_D (show i - 1 < a.length by omega), if_neg c4, hw]
          · refine .inl ⟨((i + 1 : Nat) : Int), n - 1, ?_, by omega, i + 1, rfl, by omega, by omega, nx (by omega) (by omega) (fun h => absurd h c3)⟩
            simp only [f12_s1, if_pos (show (i : Int) < (a.length : Int) by omega), ix_D hlt, Option.bind_some, if_neg c1, if_neg c2, if_neg (show ¬ (0 : Int) < (i : Int) by omega), hw]
    · have : i = a.length := by omega
      subst this
      exact .inr ⟨.inr (), by simp [f12_s1], ⟨fun _ _ => hj, fun _ h => by cases h⟩⟩
  obtain ⟨r, hr, h1, h2⟩ := key
  unfold f12
  rw [hr, Option.bind_some]
  cases r with
  | inl u => exact ⟨u, rfl, fun h => by rw [h2 u rfl] at h; cases h⟩
  | inr u => exact ⟨_, rfl, fun _ => h1 u rfl⟩
theorem f13_eq {a b : List Int} (hl : a.length ≤ 100) : f13 a b = some (decide (a = b)) := by
  unfold f13
  by_cases hlen : a.length = b.length
  · rw [if_pos (by omega)]
    have key : ∃ r, loopO (f13_s1 a b) 0 = some r ∧ (∀ u, r = .inr u → a = b) ∧ (∀ u, r = .inl u → u = false ∧ a ≠ b) := by
      refine loopO_of (fun n s => ∃ i : Nat, s = (i : Int) ∧ i ≤ a.length ∧ n = a.length - i ∧ ∀ j, j < i → a.getD j 0 = b.getD j 0) ?_ (k := a.length) ⟨0, rfl, by omega, by omega, fun j hj => absurd hj (by omega)⟩
      rintro n _ ⟨i, rfl, hi, hn, hj⟩
      by_cases hlt : i < a.length
      · by_cases c : a.getD i 0 = b.getD i 0
        · refine .inl ⟨((i + 1 : Nat) : Int), n - 1, ?_, by omega, i + 1, rfl, by omega, by omega, fun j h => ?_⟩
          · simp only [f13_s1, if_pos (show (i : Int) < (a.length : Int) by omega), ix_D hlt, ix_D (show i < b.length by omega), Option.bind_some, if_pos c, wrapN (show i ≤ 10000000000 by omega)]
          · by_cases e : j = i
            · rw [e]; exact c
            · exact hj j (by omega)
        · refine .inr ⟨.inl false, ?_, ⟨fun _ h => (by cases h), fun _ h => by cases h; exact ⟨rfl, fun e => c (by rw [e])⟩⟩⟩
          simp only [f13_s1, if_pos (show (i : Int) < (a.length : Int) by omega), ix_D hlt, ix_D (show i < b.length by omega), Option.bind_some, if_neg c]
      · have : i = a.length := by omega
        subst this
        refine .inr ⟨.inr (), by simp [f13_s1], ⟨fun _ _ => list_D (k := a.length) (Nat.le_refl _) (by omega) hj (by rw [List.drop_length, hlen, List.drop_length]), fun _ h => by cases h⟩⟩
    obtain ⟨r, hr, h1, h2⟩ := key
    rw [hr, Option.bind_some]
    cases r with
    | inl u => obtain ⟨e1, e2⟩ := h2 u rfl; subst e1; exact congrArg some (decide_eq_false e2).symm
    | inr u => exact congrArg some (decide_eq_true (h1 u rfl)).symm
  · rw [if_neg (by omega), decide_eq_false (fun e => hlen (by rw [e]))]
/-! ### the law -/
theorem f5_eq : f5 = some true := by
  unfold f5
  rw [offs1_eq (l := [0, 4, 8, 9, 20]) (by intro v hv; simp only [List.mem_cons, List.not_mem_nil, or_false] at hv; rcases hv with rfl | rfl | rfl | rfl | rfl <;> omega) (by decide), Option.bind_some]
  have d : ∀ n : Nat, n < 10 → itoaS (n : Int) = lb [dig n] := fun n hn => by
    show lb (itoa (n : Int)) = _
    rw [itoa, if_neg (by omega), show ((n : Nat) : Int).toNat = n by simp, dec_lt hn]
  have d20 : itoaS 20 = lb [50, 48] := by
    show lb (itoa 20) = _
    rw [itoa, if_neg (by omega), show (20 : Int).toNat = 20 from rfl, dec_ge (by omega), dec_lt (by omega)]; rfl
  have e : pcs ([0, 4, 8, 9, 20] : List Int).length [0, 4, 8, 9, 20] = [itoaS ((0 : Nat) : Int) ++ dots ++ itoaS ((8 : Nat) : Int) ++ slash ++ itoaS ((4 : Nat) : Int), itoaS ((9 : Nat) : Int), itoaS 20] := by
    have v1 : evN [0, 4, 8, 9, 20] = 3 := by kernel_rfl
    have v2 : evN [9, 20] = 2 := by kernel_rfl
    have v3 : evN [20] = 1 := by kernel_rfl
    have w1 : W (4 - 0) = ((4 : Nat) : Int) := by kernel_rfl
    show pcs 5 [0, 4, 8, 9, 20] = _
    simp only [pcs, if_neg (show ¬ ([0, 4, 8, 9, 20] : List Int) = [] by simp), v1, show adv 3 = 3 from rfl, List.drop_succ_cons, List.drop_zero, if_neg (show ¬ ([9, 20] : List Int) = [] by simp), v2, show adv 2 = 1 from rfl, if_neg (show ¬ ([20] : List Int) = [] by simp), v3, show adv 1 = 1 from rfl, if_true]
    simp only [pc, if_neg (show ¬ 3 < 3 by omega), if_pos (show 2 < 3 by omega), if_pos (show 1 < 3 by omega), List.getD_cons_zero, List.getD_cons_succ, w1]
    rfl
  rw [e, d 0 (by omega), d 8 (by omega), d 4 (by omega), d 9 (by omega), d20]
  have : joinS [lb [dig 0] ++ dots ++ lb [dig 8] ++ slash ++ lb [dig 4], lb [dig 9], lb [50, 48]] comma = ⟨#[48, 46, 46, 56, 47, 52, 44, 57, 44, 50, 48]⟩ := by kernel_rfl
  rw [this]; rfl
theorem j1_eq {a b : List Int} (ha : In64 a) (hb : In64 b) (la : a.length ≤ 100) (lb : b.length ≤ 100) : f3_j1 a b (joinS (pcs a.length a) comma) () = some true := by
  obtain ⟨r1, e1, q1⟩ := f12_some la
  obtain ⟨r2, e2, q2⟩ := f12_some lb
  simp only [f3_j1, e1, e2, Option.bind_some, f5_eq, offs1_eq hb lb, f13_eq la]
  cases r1 with
  | false => simp
  | true =>
    cases r2 with
    | false => simp
    | true =>
      have : decide (joinS (pcs a.length a) comma = joinS (pcs b.length b) comma) = decide (a = b) := by
        by_cases e : a = b
        · subst e; simp
        · rw [decide_eq_false e, decide_eq_false (fun h => e (offs_inj (q1 rfl) (q2 rfl) ha hb h))]
      simp [this]
theorem law3 {x y : Entry} {a b : List Int} (hx : OkE x) (hy : OkE y) (ha : In64 a) (hb : In64 b) : f3 x y a b = some true := by
  unfold f3
  simp only [f5_eq, Option.bind_some]
  by_cases c1 : 10 < (x.Sums.length : Int)
  · rw [if_pos c1]
  by_cases c2 : 10 < (y.Sums.length : Int)
  · rw [if_neg c1, if_pos c2]
  by_cases c3 : 100 < (a.length : Int)
  · rw [if_neg c1, if_neg c2, if_pos c3]
  by_cases c4 : 100 < (b.length : Int)
  · rw [if_neg c1, if_neg c2, if_neg c3, if_pos c4]
  rw [if_neg c1, if_neg c2, if_neg c3, if_neg c4]
  obtain ⟨x1, x2⟩ := entry_eq hx (by omega)
  obtain ⟨y1, y2⟩ := entry_eq hy (by omega)
  obtain ⟨r1, g1, q1⟩ := f10_some x
  obtain ⟨r2, g2, q2⟩ := f10_some y
  simp only [x1, x2, y1, Option.bind_some, if_true, offs1_eq ha (show a.length ≤ 100 by omega), offs2_eq ha (show a.length ≤ 100 by omega), g1, g2, j1_eq ha hb (show a.length ≤ 100 by omega) (show b.length ≤ 100 by omega)]
  cases r1 with
  | false => simp
  | true =>
    cases r2 with
    | false => simp
    | true =>
      simp only [if_true]
      by_cases cz : IntKind.i64.wrap ((x.Sums.length : Int) + (y.Sums.length : Int)) = 0
      · rw [if_pos cz]
        rw [i64_id (by omega) (by omega)] at cz
        have nx : x.Sums = [] := List.length_eq_zero_iff.1 (by omega)
        have ny : y.Sums = [] := List.length_eq_zero_iff.1 (by omega)
        rw [same_eq nx ny, Option.bind_some]
        have : decide (textE x = textE y) = decide (x = y) := by
          by_cases e : x = y
          · subst e; simp
          · rw [decide_eq_false e, decide_eq_false (fun h => e (textE_inj nx ny (q1 rfl) (q2 rfl) h))]
        rw [this, if_pos rfl]
      · rw [if_neg cz]
end Au
end Go.Proofs.Yd
