import Derived.Test.YtlonihmeikmpiaaGmY1F
set_option linter.all false
set_option linter.unusedVariables false
set_option linter.unusedSimpArgs false
set_option linter.unusedSimpArgs false
set_option linter.unusedVariables false
set_option maxRecDepth 8000
namespace Go.Proofs.Y1
open Go.Gm
structure Res where
  key : ByteArray
  val : ByteArray
  offs : List Int
def encInt (i : Int) : List AV := [I i]
def encI (l : List Int) : AV := .sl (l.map encInt)
def encRes (r : Res) : List AV := [S r.key, S r.val, encI r.offs]
theorem encRes_len (r : Res) : (encRes r).length = 3 := rfl
def encL (l : List Res) : AV := .sl (l.map encRes)
theorem inl_I (n : Int) : inlL (encInt n) = true := by simp [encInt, inlL, inl]
theorem ml_I (l : List Int) : (∀ r ∈ l.map encInt, r.length = 1) = True := forall_map (f := encInt) (fun _ => rfl) l
theorem ir_I (l : List Int) : inlR (l.map encInt) = true := inlR_map inl_I l
theorem inl_Res (r : Res) : inlL (encRes r) = true := by
  simp [encRes, encI, inlL, inl, ir_I]
theorem ml_Res (l : List Res) : (∀ r ∈ l.map encRes, r.length = 3) = True := forall_map (f := encRes) (fun _ => rfl) l
theorem ir_Res (l : List Res) : inlR (l.map encRes) = true := inlR_map inl_Res l

def Right (l : List Res) : Prop := ∀ j a b, l[j]? = some a → l[j + 1]? = some b → sLt a.key b.key = true
open Classical in
theorem w64 (l : List Res) (hl : l.length ≤ 140737488355328) : PC Try.prog 64 [encL l] (B (decide (Right l))) := by
  refine pc_of (N := 26) (rs := [.tmp 2]) Try.func64 rfl rfl rfl (Nat.le_of_ble_eq_true rfl) ?_
  refine AW.reg ?_
  generalize hK : AW Try.prog _ _ _ = K
  simp only [go_sem, ↓reduceIte, reduceCtorEq, Nat.reduceAdd, Nat.reduceSub, Nat.reduceMul, Nat.reduceEqDiff, Nat.reduceLT, Nat.reduceLeDiff, Nat.reduceBEq, Int.reduceAdd, Int.reduceSub, Int.reduceLT, Int.reduceLE, Int.reduceEq, Int.reduceToNat, ag9, el22, fl35_0, sz9, sz35, encRes_len, encRes, encL]
  subst hK
  refine AW.seq ?_
  refine AW.reg ?_
  generalize hK : AW Try.prog _ _ _ = K
  simp only [go_sem, ↓reduceIte, reduceCtorEq, Nat.reduceAdd, Nat.reduceSub, Nat.reduceMul, Nat.reduceEqDiff, Nat.reduceLT, Nat.reduceLeDiff, Nat.reduceBEq, Int.reduceAdd, Int.reduceSub, Int.reduceLT, Int.reduceLE, Int.reduceEq, Int.reduceToNat, ag9, el22, fl35_0, sz9, sz35, encRes_len, encRes, encL]
  subst hK
  refine AW.block ?_
  refine AW.loop (fun k st => ∃ i nx, (0 ≤ k) ∧ (i + k = l.length) ∧ (∀ j a b, j + 1 < i → l[j]? = some a → l[j + 1]? = some b → sLt a.key b.key = true) ∧ st = ⟨(upd (upd (upd anyF 0 (encL l)) 5 (I l.length)) 6 (I (i : Int))), fun _ => none, nx⟩) (l.length) _ (Ent.st (.put' (.put' (.put' .any rfl) rfl) rfl) .refl (Nat.le_refl _)) ⟨0, _, Nat.zero_le _, by simp, by simp, rfl⟩ ?_
  rintro k _ ⟨i, nx, _, hk, hp, rfl⟩
  refine AW.reg ?_
  generalize hK : AW Try.prog _ _ _ = K
  simp only [go_sem, ↓reduceIte, reduceCtorEq, Nat.reduceAdd, Nat.reduceSub, Nat.reduceMul, Nat.reduceEqDiff, Nat.reduceLT, Nat.reduceLeDiff, Nat.reduceBEq, Int.reduceAdd, Int.reduceSub, Int.reduceLT, Int.reduceLE, Int.reduceEq, Int.reduceToNat, ag9, el22, fl35_0, sz9, sz35, encRes_len, encRes, encL]
  subst hK
  refine AW.seq ?_
  refine AW.if rfl (fun hc7 => ?_) (fun hc7 => ?_)
  · have hi : i < l.length := by simpa using hc7
    obtain ⟨b, hb⟩ : ∃ b, l[i]? = some b := ⟨l[i], by simp [hi]⟩
    refine AW.skip ?_
    refine thenA_n ?_
    refine AW.seq ?_
    refine AW.block ?_
    refine AW.reg ?_
    generalize hK : AW Try.prog _ _ _ = K
    simp only [go_sem, ↓reduceIte, reduceCtorEq, Nat.reduceAdd, Nat.reduceSub, Nat.reduceMul, Nat.reduceEqDiff, Nat.reduceLT, Nat.reduceLeDiff, Nat.reduceBEq, Int.reduceAdd, Int.reduceSub, Int.reduceLT, Int.reduceLE, Int.reduceEq, Int.reduceToNat, ag9, el22, fl35_0, sz9, sz35, encRes_len, encRes, encL]
    subst hK
    rcases i with _ | j
    · refine AW.regd [[], [0], [0, 1], [0, 1, 2], [0, 1, 2], [0, 1, 2, 4], [0, 1, 2, 3, 4, 5], [0, 1, 2, 3, 4, 5, 6], [0, 1, 2, 3, 4, 5, 6, 7], [0, 1, 2], [0, 1, 2], [0, 1, 2, 9, 10], [0, 1, 2, 9, 10, 11], [0, 1, 2, 9, 10, 11, 12], [0, 1, 2, 3, 4, 5, 6, 7, 8, 9, 10, 11, 12, 13], [0, 1, 2, 3, 4, 5, 6, 7, 8, 9, 10, 11, 12, 13, 14]] [0, 1, 2, 3, 4, 5, 6, 7, 8, 9, 10, 11, 12, 13, 14, 15] noFt (fun _ _ _ h => by simp [noFt] at h) draws (by kernel_rfl) (by kernel_rfl) ?_
      generalize hK : AW Try.prog _ _ _ = K
      simp only [go_sem, ↓reduceIte, reduceCtorEq, Nat.reduceAdd, Nat.reduceSub, Nat.reduceMul, Nat.reduceEqDiff, Nat.reduceLT, Nat.reduceLeDiff, Nat.reduceBEq, Int.reduceAdd, Int.reduceSub, Int.reduceLT, Int.reduceLE, Int.reduceEq, Int.reduceToNat, ag9, el22, fl35_0, sz9, sz35, encRes_len, encRes, encL, Int.natCast_zero]
      subst hK
      refine AW.if rfl (fun hc24 => ?_) (fun hc24 => ?_)
      · cases hc24
      · refine AW.skip ?_
        refine block_n ?_
        refine thenA_n ?_
        have h2 : IntKind.i64.wrap (((0 : Nat) : Int) + 1) = ((0 + 1 : Nat) : Int) := by rw [wrap_id] <;> omega
        refine AW.region ?_
        generalize hK : thenA _ _ Exit.normal = K
        simp only [go_sem, ↓reduceIte, reduceCtorEq, Nat.reduceAdd, Nat.reduceSub, Nat.reduceMul, Nat.reduceEqDiff, Nat.reduceLT, Nat.reduceLeDiff, Nat.reduceBEq, Int.reduceAdd, Int.reduceSub, Int.reduceLT, Int.reduceLE, Int.reduceEq, Int.reduceToNat, ag9, el22, fl35_0, sz9, sz35, encRes_len, encRes, encL, h2]
        subst hK
        refine thenA_n ?_
        refine ⟨k - 1, _, by omega, Ent.st (.put' (.put' (.put' .any rfl) rfl) rfl) .refl (Nat.le_refl _), 0 + 1, _, Nat.zero_le _, by omega, fun j' a' b' hj' _ _ => by omega, rfl⟩
    · obtain ⟨a, ha⟩ : ∃ a, l[j]? = some a := ⟨l[j], by simp [show j < l.length by omega]⟩
      have h0 : (0 : Int) < ((j + 1 : Nat) : Int) := by omega
      have h1 : IntKind.i64.wrap (((j + 1 : Nat) : Int) - 1) = (j : Int) := by rw [wrap_id] <;> omega
      refine AW.regd [[], [0], [0, 1], [0, 1, 2], [0, 1, 2], [0, 1, 2, 4], [0, 1, 2, 3, 4, 5], [0, 1, 2, 3, 4, 5, 6], [0, 1, 2, 3, 4, 5, 6, 7], [0, 1, 2], [0, 1, 2], [0, 1, 2, 9, 10], [0, 1, 2, 9, 10, 11], [0, 1, 2, 9, 10, 11, 12], [0, 1, 2, 3, 4, 5, 6, 7, 8, 9, 10, 11, 12, 13], [0, 1, 2, 3, 4, 5, 6, 7, 8, 9, 10, 11, 12, 13, 14]] [0, 1, 2, 3, 4, 5, 6, 7, 8, 9, 10, 11, 12, 13, 14, 15] noFt (fun _ _ _ h => by simp [noFt] at h) draws (by kernel_rfl) (by kernel_rfl) ?_
      generalize hK : AW Try.prog _ _ _ = K
      simp only [go_sem, ↓reduceIte, reduceCtorEq, Nat.reduceAdd, Nat.reduceSub, Nat.reduceMul, Nat.reduceEqDiff, Nat.reduceLT, Nat.reduceLeDiff, Nat.reduceBEq, Int.reduceAdd, Int.reduceSub, Int.reduceLT, Int.reduceLE, Int.reduceEq, Int.reduceToNat, ag9, el22, fl35_0, sz9, sz35, encRes_len, encRes, encL, h0, h1, ha, hb]
      subst hK
      refine AW.if rfl (fun hc24 => ?_) (fun hc24 => ?_)
      · refine AW.reg ?_
        generalize hK : AW Try.prog _ _ _ = K
        simp only [go_sem, ↓reduceIte, reduceCtorEq, Nat.reduceAdd, Nat.reduceSub, Nat.reduceMul, Nat.reduceEqDiff, Nat.reduceLT, Nat.reduceLeDiff, Nat.reduceBEq, Int.reduceAdd, Int.reduceSub, Int.reduceLT, Int.reduceLE, Int.reduceEq, Int.reduceToNat, ag9, el22, fl35_0, sz9, sz35, encRes_len, encRes, encL]
        subst hK
        refine AW.ret ?_
        refine block_r ?_
        refine thenA_r ?_
        refine thenA_r ?_
        refine block_r ?_
        refine thenA_r ?_
        refine fin_val (.inl rfl) rfl ?_
        simp only [Bool.not_eq_true'] at hc24
        have : ¬ Right l := fun h => by have := h _ _ _ ha hb; rw [hc24] at this; cases this
        simp [this]
      · refine AW.skip ?_
        refine block_n ?_
        refine thenA_n ?_
        have h2 : IntKind.i64.wrap (((j + 1 : Nat) : Int) + 1) = ((j + 1 + 1 : Nat) : Int) := by rw [wrap_id] <;> omega
        refine AW.region ?_
        generalize hK : thenA _ _ Exit.normal = K
        simp only [go_sem, ↓reduceIte, reduceCtorEq, Nat.reduceAdd, Nat.reduceSub, Nat.reduceMul, Nat.reduceEqDiff, Nat.reduceLT, Nat.reduceLeDiff, Nat.reduceBEq, Int.reduceAdd, Int.reduceSub, Int.reduceLT, Int.reduceLE, Int.reduceEq, Int.reduceToNat, ag9, el22, fl35_0, sz9, sz35, encRes_len, encRes, encL, h2]
        subst hK
        refine thenA_n ?_
        refine ⟨k - 1, _, by omega, Ent.st (.put' (.put' (.put' .any rfl) rfl) rfl) .refl (Nat.le_refl _), j + 1 + 1, _, Nat.zero_le _, by omega, ?_, rfl⟩
        intro j' a' b' hj' ha' hb'
        by_cases hjj : j' = j
        · subst hjj; rw [ha] at ha'; rw [hb] at hb'; cases ha'; cases hb'; simpa using hc24
        · exact hp j' a' b' (by omega) ha' hb'
  · refine AW.exit ?_
    refine thenA_x ?_
    refine thenA_x ?_
    refine block_x ?_
    refine thenA_n ?_
    refine AW.reg ?_
    generalize hK : AW Try.prog _ _ _ = K
    simp only [go_sem, ↓reduceIte, reduceCtorEq, Nat.reduceAdd, Nat.reduceSub, Nat.reduceMul, Nat.reduceEqDiff, Nat.reduceLT, Nat.reduceLeDiff, Nat.reduceBEq, Int.reduceAdd, Int.reduceSub, Int.reduceLT, Int.reduceLE, Int.reduceEq, Int.reduceToNat, ag9, el22, fl35_0, sz9, sz35, encRes_len, encRes, encL]
    subst hK
    refine AW.ret ?_
    refine fin_val (.inl rfl) rfl ?_
    have hi : l.length ≤ i := by simpa using hc7
    have : Right l := fun j a b ha hb => hp j a b (by have := (List.getElem?_eq_some_iff.1 hb).1; omega) ha hb
    simp [this]
theorem w111 (l : List Int) (hl : l.length ≤ 34359738368) : PC Try.prog 111 [encI l] (encI l) := by
  refine pc_of (N := 8) (rs := [.tmp 2]) Try.func111 rfl rfl rfl (Nat.le_of_ble_eq_true rfl) ?_
  refine AW.reg ?_
  generalize hK : AW Try.prog _ _ _ = K
  simp only [go_sem, ↓reduceIte, reduceCtorEq, Nat.reduceAdd, Nat.reduceSub, Nat.reduceMul, Nat.reduceEqDiff, Nat.reduceLT, Nat.reduceLeDiff, Nat.reduceBEq, Int.reduceAdd, Int.reduceSub, Int.reduceLT, Int.reduceLE, Int.reduceEq, Int.reduceToNat, ap33_33, el33, mk33, encI, ml_I]
  subst hK
  refine AW.seq ?_
  refine AW.nilq el33 rfl (by decide) (by decide) (fun bn hbn => ?_)
  refine AW.if rfl (fun hc4 => ?_) (fun hc4 => ?_)
  · have hl0 : l = [] := by simpa using hbn (by simpa using hc4)
    subst hl0
    refine AW.reg ?_
    generalize hK : AW Try.prog _ _ _ = K
    simp only [go_sem, ↓reduceIte, reduceCtorEq, Nat.reduceAdd, Nat.reduceSub, Nat.reduceMul, Nat.reduceEqDiff, Nat.reduceLT, Nat.reduceLeDiff, Nat.reduceBEq, Int.reduceAdd, Int.reduceSub, Int.reduceLT, Int.reduceLE, Int.reduceEq, Int.reduceToNat, ap33_33, el33, mk33, encI, ml_I]
    subst hK
    refine AW.ent (Ent.w (FrW.any.put (d := 2) (v := .sl []) Weak.nil)) ?_
    refine AW.ret ?_
    refine thenA_r ?_
    exact fin_of (.inl rfl) rfl (by simp only [resOf_1, upd_ap, reduceIte, sealV_sl, inlR_nil]; rfl) List.nodup_nil rfl
  · refine AW.skip ?_
    refine thenA_n ?_
    refine AW.reg ?_
    generalize hK : AW Try.prog _ _ _ = K
    simp (disch := first | omega | (simp only [List.length_map, List.length_cons, List.length_nil, List.length_append] <;> omega)) only [go_sem, ↓reduceIte, reduceCtorEq, Nat.reduceAdd, Nat.reduceSub, Nat.reduceMul, Nat.reduceEqDiff, Nat.reduceLT, Nat.reduceLeDiff, Nat.reduceBEq, Int.reduceAdd, Int.reduceSub, Int.reduceLT, Int.reduceLE, Int.reduceEq, Int.reduceToNat, ap33_33, el33, mk33, encI, ml_I]
    subst hK
    refine AW.ent (Ent.still 2 rfl (own_sl rfl (by simp) (by simpa using ir_I l))) ?_
    refine AW.ret ?_
    exact fin_of (.inl rfl) rfl (by simp only [resOf_1, upd_ap, reduceIte, sealV_sl, ir_I]; rfl) List.nodup_nil rfl
theorem w112 (a b : List Int) (ha : a.length ≤ 34359738368) : PC Try.prog 112 [encI a, encI b] (B (decide (a = b))) := by
  refine pc_of (N := 26) (rs := [.tmp 4]) Try.func112 rfl rfl rfl (Nat.le_of_ble_eq_true rfl) ?_
  refine AW.reg ?_
  generalize hK : AW Try.prog _ _ _ = K
  simp only [go_sem, ↓reduceIte, reduceCtorEq, Nat.reduceAdd, Nat.reduceSub, Nat.reduceMul, Nat.reduceEqDiff, Nat.reduceLT, Nat.reduceLeDiff, Nat.reduceBEq, Int.reduceAdd, Int.reduceSub, Int.reduceLT, Int.reduceLE, Int.reduceEq, Int.reduceToNat, ag3, el33, sz3, encI, encInt]
  subst hK
  refine AW.seq ?_
  refine AW.reg ?_
  generalize hK : AW Try.prog _ _ _ = K
  simp only [go_sem, ↓reduceIte, reduceCtorEq, Nat.reduceAdd, Nat.reduceSub, Nat.reduceMul, Nat.reduceEqDiff, Nat.reduceLT, Nat.reduceLeDiff, Nat.reduceBEq, Int.reduceAdd, Int.reduceSub, Int.reduceLT, Int.reduceLE, Int.reduceEq, Int.reduceToNat, ag3, el33, sz3, encI, encInt]
  subst hK
  refine AW.if rfl (fun hc10 => ?_) (fun hc10 => ?_)
  · have hne : a.length ≠ b.length := by simp at hc10; omega
    refine AW.reg ?_
    generalize hK : AW Try.prog _ _ _ = K
    simp only [go_sem, ↓reduceIte, reduceCtorEq, Nat.reduceAdd, Nat.reduceSub, Nat.reduceMul, Nat.reduceEqDiff, Nat.reduceLT, Nat.reduceLeDiff, Nat.reduceBEq, Int.reduceAdd, Int.reduceSub, Int.reduceLT, Int.reduceLE, Int.reduceEq, Int.reduceToNat, ag3, el33, sz3, encI, encInt]
    subst hK
    refine AW.ret ?_
    refine thenA_r ?_
    refine fin_val (.inl rfl) rfl ?_
    have : a ≠ b := fun h => hne (by rw [h])
    simp [this]
  · have hne : a.length = b.length := by simp at hc10; omega
    refine AW.skip ?_
    refine thenA_n ?_
    refine AW.seq ?_
    refine AW.reg ?_
    generalize hK : AW Try.prog _ _ _ = K
    simp only [go_sem, ↓reduceIte, reduceCtorEq, Nat.reduceAdd, Nat.reduceSub, Nat.reduceMul, Nat.reduceEqDiff, Nat.reduceLT, Nat.reduceLeDiff, Nat.reduceBEq, Int.reduceAdd, Int.reduceSub, Int.reduceLT, Int.reduceLE, Int.reduceEq, Int.reduceToNat, ag3, el33, sz3, encI, encInt]
    subst hK
    refine AW.block ?_
    refine AW.loop (fun k st => ∃ i nx, (0 ≤ k) ∧ (i + k = a.length) ∧ (a.take i = b.take i) ∧ st = ⟨(upd (upd (upd (upd anyF 0 (encI a)) 1 (encI b)) 12 (I a.length)) 13 (I (i : Int))), fun _ => none, nx⟩) (a.length) _ (Ent.st (.put' (.put' (.put' (.put' .any rfl) rfl) rfl) rfl) .refl (Nat.le_refl _)) ⟨0, _, Nat.zero_le _, by simp, by simp, rfl⟩ ?_
    rintro k _ ⟨i, nx, _, hk, hp, rfl⟩
    refine AW.reg ?_
    generalize hK : AW Try.prog _ _ _ = K
    simp only [go_sem, ↓reduceIte, reduceCtorEq, Nat.reduceAdd, Nat.reduceSub, Nat.reduceMul, Nat.reduceEqDiff, Nat.reduceLT, Nat.reduceLeDiff, Nat.reduceBEq, Int.reduceAdd, Int.reduceSub, Int.reduceLT, Int.reduceLE, Int.reduceEq, Int.reduceToNat, ag3, el33, sz3, encI, encInt]
    subst hK
    refine AW.seq ?_
    refine AW.if rfl (fun hc14 => ?_) (fun hc14 => ?_)
    · have hi : i < a.length := by simpa using hc14
      obtain ⟨x, hx⟩ : ∃ x, a[i]? = some x := ⟨a[i], by simp [hi]⟩
      obtain ⟨y, hy⟩ : ∃ y, b[i]? = some y := ⟨b[i]'(by omega), by simp [hne ▸ hi]⟩
      refine AW.skip ?_
      refine thenA_n ?_
      refine AW.seq ?_
      refine AW.block ?_
      refine AW.reg ?_
      generalize hK : AW Try.prog _ _ _ = K
      simp only [go_sem, ↓reduceIte, reduceCtorEq, Nat.reduceAdd, Nat.reduceSub, Nat.reduceMul, Nat.reduceEqDiff, Nat.reduceLT, Nat.reduceLeDiff, Nat.reduceBEq, Int.reduceAdd, Int.reduceSub, Int.reduceLT, Int.reduceLE, Int.reduceEq, Int.reduceToNat, ag3, el33, sz3, encI, encInt]
      subst hK
      refine AW.regd [[], [], [0, 1], [0, 1, 2], [], [], [4, 5], [4, 5, 6], [0, 1, 2, 3, 4, 5, 6, 7]] [0, 1, 2, 3, 4, 5, 6, 7, 8] noFt (fun _ _ _ h => by simp [noFt] at h) draws (by kernel_rfl) (by kernel_rfl) ?_
      generalize hK : AW Try.prog _ _ _ = K
      simp only [go_sem, ↓reduceIte, reduceCtorEq, Nat.reduceAdd, Nat.reduceSub, Nat.reduceMul, Nat.reduceEqDiff, Nat.reduceLT, Nat.reduceLeDiff, Nat.reduceBEq, Int.reduceAdd, Int.reduceSub, Int.reduceLT, Int.reduceLE, Int.reduceEq, Int.reduceToNat, ag3, el33, sz3, encI, encInt, hx, hy]
      subst hK
      refine AW.if rfl (fun hc24 => ?_) (fun hc24 => ?_)
      · have hxy : x ≠ y := by simpa using hc24
        refine AW.reg ?_
        generalize hK : AW Try.prog _ _ _ = K
        simp only [go_sem, ↓reduceIte, reduceCtorEq, Nat.reduceAdd, Nat.reduceSub, Nat.reduceMul, Nat.reduceEqDiff, Nat.reduceLT, Nat.reduceLeDiff, Nat.reduceBEq, Int.reduceAdd, Int.reduceSub, Int.reduceLT, Int.reduceLE, Int.reduceEq, Int.reduceToNat, ag3, el33, sz3, encI, encInt]
        subst hK
        refine AW.ret ?_
        refine block_r ?_
        refine thenA_r ?_
        refine thenA_r ?_
        refine block_r ?_
        refine thenA_r ?_
        refine fin_val (.inl rfl) rfl ?_
        have : a ≠ b := fun h => hxy (by subst h; rw [hx] at hy; exact Option.some.inj hy)
        simp [this]
      · have hxy : x = y := by simpa using hc24
        refine AW.skip ?_
        refine block_n ?_
        refine thenA_n ?_
        have h2 : IntKind.i64.wrap ((i : Int) + 1) = ((i + 1 : Nat) : Int) := by rw [wrap_id] <;> omega
        refine AW.region ?_
        generalize hK : thenA _ _ Exit.normal = K
        simp only [go_sem, ↓reduceIte, reduceCtorEq, Nat.reduceAdd, Nat.reduceSub, Nat.reduceMul, Nat.reduceEqDiff, Nat.reduceLT, Nat.reduceLeDiff, Nat.reduceBEq, Int.reduceAdd, Int.reduceSub, Int.reduceLT, Int.reduceLE, Int.reduceEq, Int.reduceToNat, ag3, el33, sz3, encI, encInt, h2]
        subst hK
        refine thenA_n ?_
        refine ⟨k - 1, _, by omega, Ent.st (.put' (.put' (.put' (.put' .any rfl) rfl) rfl) rfl) .refl (Nat.le_refl _), i + 1, _, Nat.zero_le _, by omega, by rw [List.take_add_one, List.take_add_one, hp, hx, hy, hxy], rfl⟩
    · refine AW.exit ?_
      refine thenA_x ?_
      refine thenA_x ?_
      refine block_x ?_
      refine thenA_n ?_
      refine AW.reg ?_
      generalize hK : AW Try.prog _ _ _ = K
      simp only [go_sem, ↓reduceIte, reduceCtorEq, Nat.reduceAdd, Nat.reduceSub, Nat.reduceMul, Nat.reduceEqDiff, Nat.reduceLT, Nat.reduceLeDiff, Nat.reduceBEq, Int.reduceAdd, Int.reduceSub, Int.reduceLT, Int.reduceLE, Int.reduceEq, Int.reduceToNat, ag3, el33, sz3, encI, encInt]
      subst hK
      refine AW.ret ?_
      refine fin_val (.inl rfl) rfl ?_
      have hi : a.length ≤ i := by simpa using hc14
      have : a = b := by rw [← List.take_of_length_le hi, hp, List.take_of_length_le (by omega)]
      simp [this]
theorem w65 (r : Res) (hl : r.offs.length ≤ 34359738368) : PC Try.prog 65 [.agg (encRes r)] (.agg (encRes r)) := by
  refine pc_of (N := 8) (rs := [.cell 2 35]) Try.func65 rfl rfl rfl (Nat.le_of_ble_eq_true rfl) ?_
  rcases r with ⟨rk, rv, ro⟩
  refine AW.reg ?_
  generalize hK : AW Try.prog _ _ _ = K
  simp only [go_sem, ↓reduceIte, reduceCtorEq, Nat.reduceAdd, Nat.reduceSub, Nat.reduceMul, Nat.reduceEqDiff, Nat.reduceLT, Nat.reduceLeDiff, Nat.reduceBEq, Int.reduceAdd, Int.reduceSub, Int.reduceLT, Int.reduceLE, Int.reduceEq, Int.reduceToNat, ag33, ag35, fl35_2, sz33, sz35, zr35, encRes, encI, ir_I]
  subst hK
  refine AW.reg ?_
  generalize hK : AW Try.prog _ _ _ = K
  simp only [go_sem, ↓reduceIte, reduceCtorEq, Nat.reduceAdd, Nat.reduceSub, Nat.reduceMul, Nat.reduceEqDiff, Nat.reduceLT, Nat.reduceLeDiff, Nat.reduceBEq, Int.reduceAdd, Int.reduceSub, Int.reduceLT, Int.reduceLE, Int.reduceEq, Int.reduceToNat, ag33, ag35, fl35_2, sz33, sz35, zr35, encRes, encI, ir_I]
  refine arC.of (w111 ro hl) Try.call111 ?_
  simp only [go_sem, ↓reduceIte, reduceCtorEq, Nat.reduceAdd, Nat.reduceSub, Nat.reduceMul, Nat.reduceEqDiff, Nat.reduceLT, Nat.reduceLeDiff, Nat.reduceBEq, Int.reduceAdd, Int.reduceSub, Int.reduceLT, Int.reduceLE, Int.reduceEq, Int.reduceToNat, ag33, ag35, fl35_2, sz33, sz35, zr35, encRes, encI, ir_I]
  subst hK
  refine AW.reg ?_
  generalize hK : AW Try.prog _ _ _ = K
  simp only [go_sem, ↓reduceIte, reduceCtorEq, Nat.reduceAdd, Nat.reduceSub, Nat.reduceMul, Nat.reduceEqDiff, Nat.reduceLT, Nat.reduceLeDiff, Nat.reduceBEq, Int.reduceAdd, Int.reduceSub, Int.reduceLT, Int.reduceLE, Int.reduceEq, Int.reduceToNat, ag33, ag35, fl35_2, sz33, sz35, zr35, encRes, encI, ir_I]
  subst hK
  refine AW.ret ?_
  simp only [go_sem, ↓reduceIte, reduceCtorEq, Nat.reduceAdd, Nat.reduceSub, Nat.reduceMul, Nat.reduceEqDiff, Nat.reduceLT, Nat.reduceLeDiff, Nat.reduceBEq, Int.reduceAdd, Int.reduceSub, Int.reduceLT, Int.reduceLE, Int.reduceEq, Int.reduceToNat, finA, resA, resOf_1, resOf_2, sealV_val, sealV_sl, sealV_ip, sealV_agg, sealV_tup, sealV_own, sealL_nil, sealL_cons, ir_I, encRes, encI, ag33, ag35, fl35_2, sz33, sz35, zr35, encRes, encI, ir_I]
  exact List.nodup_nil
theorem w66 (a b : Res) (ha : a.offs.length ≤ 34359738368) : PC Try.prog 66 [.agg (encRes a), .agg (encRes b)] (.tup [I (if a.val ≠ b.val then 2 else if a.offs ≠ b.offs then 3 else 0), B (decide (a.val ≠ b.val ∨ a.offs ≠ b.offs))]) := by
  refine pc_of (N := 19) (rs := [.tmp 4, .tmp 5]) Try.func66 rfl rfl rfl (Nat.le_of_ble_eq_true rfl) ?_
  refine AW.reg ?_
  generalize hK : AW Try.prog _ _ _ = K
  simp only [go_sem, ↓reduceIte, reduceCtorEq, Nat.reduceAdd, Nat.reduceSub, Nat.reduceMul, Nat.reduceEqDiff, Nat.reduceLT, Nat.reduceLeDiff, Nat.reduceBEq, Int.reduceAdd, Int.reduceSub, Int.reduceLT, Int.reduceLE, Int.reduceEq, Int.reduceToNat, ag9, ag33, fl35_1, fl35_2, sz9, sz33, encRes, encI, ir_I]
  subst hK
  refine AW.seq ?_
  refine AW.block ?_
  refine AW.reg ?_
  generalize hK : AW Try.prog _ _ _ = K
  simp only [go_sem, ↓reduceIte, reduceCtorEq, Nat.reduceAdd, Nat.reduceSub, Nat.reduceMul, Nat.reduceEqDiff, Nat.reduceLT, Nat.reduceLeDiff, Nat.reduceBEq, Int.reduceAdd, Int.reduceSub, Int.reduceLT, Int.reduceLE, Int.reduceEq, Int.reduceToNat, ag9, ag33, fl35_1, fl35_2, sz9, sz33, encRes, encI, ir_I]
  subst hK
  refine AW.if rfl (fun hc6 => ?_) (fun hc6 => ?_)
  · refine AW.reg ?_
    generalize hK : AW Try.prog _ _ _ = K
    simp only [go_sem, ↓reduceIte, reduceCtorEq, Nat.reduceAdd, Nat.reduceSub, Nat.reduceMul, Nat.reduceEqDiff, Nat.reduceLT, Nat.reduceLeDiff, Nat.reduceBEq, Int.reduceAdd, Int.reduceSub, Int.reduceLT, Int.reduceLE, Int.reduceEq, Int.reduceToNat, ag9, ag33, fl35_1, fl35_2, sz9, sz33, encRes, encI, ir_I]
    subst hK
    refine AW.ret ?_
    refine block_r ?_
    refine thenA_r ?_
    simp only [go_sem, ↓reduceIte, reduceCtorEq, Nat.reduceAdd, Nat.reduceSub, Nat.reduceMul, Nat.reduceEqDiff, Nat.reduceLT, Nat.reduceLeDiff, Nat.reduceBEq, Int.reduceAdd, Int.reduceSub, Int.reduceLT, Int.reduceLE, Int.reduceEq, Int.reduceToNat, finA, resA, resOf_1, resOf_2, sealV_val, sealV_sl, sealV_ip, sealV_agg, sealV_tup, sealV_own, sealL_nil, sealL_cons, ir_I, encRes, encI, ag9, ag33, fl35_1, fl35_2, sz9, sz33, encRes, encI, ir_I]
    have h : a.val ≠ b.val := by simpa using hc6
    simp [h]
  · refine AW.reg ?_
    generalize hK : AW Try.prog _ _ _ = K
    simp only [go_sem, ↓reduceIte, reduceCtorEq, Nat.reduceAdd, Nat.reduceSub, Nat.reduceMul, Nat.reduceEqDiff, Nat.reduceLT, Nat.reduceLeDiff, Nat.reduceBEq, Int.reduceAdd, Int.reduceSub, Int.reduceLT, Int.reduceLE, Int.reduceEq, Int.reduceToNat, ag9, ag33, fl35_1, fl35_2, sz9, sz33, encRes, encI, ir_I]
    refine arC.of (w112 a.offs b.offs ha) Try.call112 ?_
    simp only [go_sem, ↓reduceIte, reduceCtorEq, Nat.reduceAdd, Nat.reduceSub, Nat.reduceMul, Nat.reduceEqDiff, Nat.reduceLT, Nat.reduceLeDiff, Nat.reduceBEq, Int.reduceAdd, Int.reduceSub, Int.reduceLT, Int.reduceLE, Int.reduceEq, Int.reduceToNat, ag9, ag33, fl35_1, fl35_2, sz9, sz33, encRes, encI, ir_I]
    subst hK
    refine AW.if rfl (fun hc12 => ?_) (fun hc12 => ?_)
    · refine AW.reg ?_
      generalize hK : AW Try.prog _ _ _ = K
      simp only [go_sem, ↓reduceIte, reduceCtorEq, Nat.reduceAdd, Nat.reduceSub, Nat.reduceMul, Nat.reduceEqDiff, Nat.reduceLT, Nat.reduceLeDiff, Nat.reduceBEq, Int.reduceAdd, Int.reduceSub, Int.reduceLT, Int.reduceLE, Int.reduceEq, Int.reduceToNat, ag9, ag33, fl35_1, fl35_2, sz9, sz33, encRes, encI, ir_I]
      subst hK
      refine AW.ret ?_
      refine block_r ?_
      refine thenA_r ?_
      simp only [go_sem, ↓reduceIte, reduceCtorEq, Nat.reduceAdd, Nat.reduceSub, Nat.reduceMul, Nat.reduceEqDiff, Nat.reduceLT, Nat.reduceLeDiff, Nat.reduceBEq, Int.reduceAdd, Int.reduceSub, Int.reduceLT, Int.reduceLE, Int.reduceEq, Int.reduceToNat, finA, resA, resOf_1, resOf_2, sealV_val, sealV_sl, sealV_ip, sealV_agg, sealV_tup, sealV_own, sealL_nil, sealL_cons, ir_I, encRes, encI, ag9, ag33, fl35_1, fl35_2, sz9, sz33, encRes, encI, ir_I]
      have h1 : a.val = b.val := by simpa using hc6
      have h2 : ¬ a.offs = b.offs := by simpa using hc12
      simp [h1, h2]
    · refine AW.skip ?_
      refine block_n ?_
      refine thenA_n ?_
      refine AW.reg ?_
      generalize hK : AW Try.prog _ _ _ = K
      simp only [go_sem, ↓reduceIte, reduceCtorEq, Nat.reduceAdd, Nat.reduceSub, Nat.reduceMul, Nat.reduceEqDiff, Nat.reduceLT, Nat.reduceLeDiff, Nat.reduceBEq, Int.reduceAdd, Int.reduceSub, Int.reduceLT, Int.reduceLE, Int.reduceEq, Int.reduceToNat, ag9, ag33, fl35_1, fl35_2, sz9, sz33, encRes, encI, ir_I]
      subst hK
      refine AW.ret ?_
      simp only [go_sem, ↓reduceIte, reduceCtorEq, Nat.reduceAdd, Nat.reduceSub, Nat.reduceMul, Nat.reduceEqDiff, Nat.reduceLT, Nat.reduceLeDiff, Nat.reduceBEq, Int.reduceAdd, Int.reduceSub, Int.reduceLT, Int.reduceLE, Int.reduceEq, Int.reduceToNat, finA, resA, resOf_1, resOf_2, sealV_val, sealV_sl, sealV_ip, sealV_agg, sealV_tup, sealV_own, sealL_nil, sealL_cons, ir_I, encRes, encI, ag9, ag33, fl35_1, fl35_2, sz9, sz33, encRes, encI, ir_I]
      have h1 : a.val = b.val := by simpa using hc6
      have h2 : a.offs = b.offs := by simpa using hc12
      simp [h1, h2]
end Go.Proofs.Y1
