import Derived.Test.YtlonihmeikmpiaaGmY1E
set_option linter.all false
set_option linter.unusedVariables false
set_option linter.unusedSimpArgs false
set_option linter.unusedSimpArgs false
set_option linter.unusedVariables false
set_option maxRecDepth 8000
namespace Go.Proofs.Y1
open Go.Gm
theorem ch_ext {x y : Change} (h1 : x.kind = y.kind) (h2 : x.res = y.res) : x = y := by cases x; cases y; simp_all
def encCs (l : List Change) : AV := .sl (l.map encCh)
def OffsC (l : List Change) : Prop := ∀ c ∈ l, c.res.offs.length ≤ 34359738368
open Classical in
theorem w16 (a b : List Change) (ha : a.length ≤ 34359738368) (hoa : OffsC a) : PC Try.prog 16 [encCs a, encCs b] (B (decide (a = b))) := by
  refine pc_of (N := 44) (rs := [.tmp 4]) Try.func16 rfl rfl rfl (Nat.le_of_ble_eq_true rfl) ?_
  refine AW.reg ?_
  generalize hK : AW Try.prog _ _ _ = K
  simp only [go_sem, ↓reduceIte, reduceCtorEq, Nat.reduceAdd, Nat.reduceSub, Nat.reduceMul, Nat.reduceEqDiff, Nat.reduceLT, Nat.reduceLeDiff, Nat.reduceBEq, Int.reduceAdd, Int.reduceSub, Int.reduceLT, Int.reduceLE, Int.reduceEq, Int.reduceToNat, ag3, ag35, el25, fl37_0, fl37_1, mk22, sz3, sz35, sz37, encCs, encCh, encI, ir_I]
  subst hK
  refine AW.seq ?_
  refine AW.reg ?_
  generalize hK : AW Try.prog _ _ _ = K
  simp only [go_sem, ↓reduceIte, reduceCtorEq, Nat.reduceAdd, Nat.reduceSub, Nat.reduceMul, Nat.reduceEqDiff, Nat.reduceLT, Nat.reduceLeDiff, Nat.reduceBEq, Int.reduceAdd, Int.reduceSub, Int.reduceLT, Int.reduceLE, Int.reduceEq, Int.reduceToNat, ag3, ag35, el25, fl37_0, fl37_1, mk22, sz3, sz35, sz37, encCs, encCh, encI, ir_I]
  subst hK
  refine AW.if rfl (fun hc10 => ?_) (fun hc10 => ?_)
  · have hne : a.length ≠ b.length := by simp at hc10; omega
    refine AW.reg ?_
    generalize hK : AW Try.prog _ _ _ = K
    simp only [go_sem, ↓reduceIte, reduceCtorEq, Nat.reduceAdd, Nat.reduceSub, Nat.reduceMul, Nat.reduceEqDiff, Nat.reduceLT, Nat.reduceLeDiff, Nat.reduceBEq, Int.reduceAdd, Int.reduceSub, Int.reduceLT, Int.reduceLE, Int.reduceEq, Int.reduceToNat, ag3, ag35, el25, fl37_0, fl37_1, mk22, sz3, sz35, sz37, encCs, encCh, encI, ir_I]
    subst hK
    refine AW.ret ?_
    refine thenA_r ?_
    refine fin_val (.inl rfl) rfl ?_
    have : a ≠ b := fun h => hne (by rw [h])
    simp [this]
  · have hne : a.length = b.length := by simp at hc10; omega
    refine AW.skip ?_
    refine thenA_n ?_
    refine AW.seq ?_
    refine AW.reg ?_
    generalize hK : AW Try.prog _ _ _ = K
    simp only [go_sem, ↓reduceIte, reduceCtorEq, Nat.reduceAdd, Nat.reduceSub, Nat.reduceMul, Nat.reduceEqDiff, Nat.reduceLT, Nat.reduceLeDiff, Nat.reduceBEq, Int.reduceAdd, Int.reduceSub, Int.reduceLT, Int.reduceLE, Int.reduceEq, Int.reduceToNat, ag3, ag35, el25, fl37_0, fl37_1, mk22, sz3, sz35, sz37, encCs, encCh, encI, ir_I]
    subst hK
    refine AW.block ?_
    refine AW.loop (fun k st => ∃ i nx, (0 ≤ k) ∧ (i + k = a.length) ∧ (a.take i = b.take i) ∧ st = ⟨(upd (upd (upd anyF 0 (encCs a)) 1 (encCs b)) 5 (I (i : Int))), fun _ => none, nx⟩) (a.length) _ (Ent.st (.put' (.put' (.put' .any rfl) rfl) rfl) .refl (Nat.le_refl _)) ⟨0, _, Nat.zero_le _, by simp, by simp, rfl⟩ ?_
    rintro k _ ⟨i, nx, _, hk, hp, rfl⟩
    refine AW.seq ?_
    refine AW.reg ?_
    generalize hK : AW Try.prog _ _ _ = K
    simp only [go_sem, ↓reduceIte, reduceCtorEq, Nat.reduceAdd, Nat.reduceSub, Nat.reduceMul, Nat.reduceEqDiff, Nat.reduceLT, Nat.reduceLeDiff, Nat.reduceBEq, Int.reduceAdd, Int.reduceSub, Int.reduceLT, Int.reduceLE, Int.reduceEq, Int.reduceToNat, ag3, ag35, el25, fl37_0, fl37_1, mk22, sz3, sz35, sz37, encCs, encCh, encI, ir_I]
    subst hK
    refine AW.if rfl (fun hc14 => ?_) (fun hc14 => ?_)
    · have hi : i < a.length := by simpa using hc14
      obtain ⟨x, hx⟩ : ∃ x, a[i]? = some x := ⟨a[i], by simp [hi]⟩
      obtain ⟨y, hy⟩ : ∃ y, b[i]? = some y := ⟨b[i]'(by omega), by simp [hne ▸ hi]⟩
      refine AW.skip ?_
      refine thenA_n ?_
      refine AW.seq ?_
      refine AW.block ?_
      by_cases h1 : x.kind = y.kind
      · refine AW.regd [[], [], [0, 1], [0, 1, 2], [0, 1, 2, 3], [], [], [5, 6], [5, 6, 7], [5, 6, 7, 8], [0, 1, 2, 3, 4, 5, 6, 7, 8, 9], [0, 1, 2, 3, 4, 5, 6, 7, 8, 9, 10], [0, 1, 2, 3, 4, 5, 6, 7, 8, 9, 10, 11], [0, 1, 2, 3, 4, 5, 6, 7, 8, 9, 10, 11], [0, 1, 2, 3, 4, 5, 6, 7, 8, 9, 10, 11, 12, 13], [0, 1, 2, 3, 4, 5, 6, 7, 8, 9, 10, 11, 12, 13, 14], [0, 1, 2, 3, 4, 5, 6, 7, 8, 9, 10, 11, 12, 13, 14, 15], [0, 1, 2, 3, 4, 5, 6, 7, 8, 9, 10, 11, 12, 13, 14, 15, 16], [0, 1, 2, 3, 4, 5, 6, 7, 8, 9, 10, 11], [0, 1, 2, 3, 4, 5, 6, 7, 8, 9, 10, 11], [0, 1, 2, 3, 4, 5, 6, 7, 8, 9, 10, 11, 18, 19], [0, 1, 2, 3, 4, 5, 6, 7, 8, 9, 10, 11, 18, 19, 20], [0, 1, 2, 3, 4, 5, 6, 7, 8, 9, 10, 11, 18, 19, 20, 21], [0, 1, 2, 3, 4, 5, 6, 7, 8, 9, 10, 11, 18, 19, 20, 21, 22], [0, 1, 2, 3, 4, 5, 6, 7, 8, 9, 10, 11, 12, 13, 14, 15, 16, 17, 18, 19, 20, 21, 22, 23], [0, 1, 2, 3, 4, 5, 6, 7, 8, 9, 10, 11, 12, 13, 14, 15, 16, 17, 18, 19, 20, 21, 22, 23, 24], [0, 1, 2, 3, 4, 5, 6, 7, 8, 9, 10, 11, 12, 13, 14, 15, 16, 17, 18, 19, 20, 21, 22, 23, 24, 25]] [0, 1, 2, 3, 4, 5, 6, 7, 8, 9, 10, 11, 12, 13, 14, 15, 16, 17, 18, 19, 20, 21, 22, 23, 24, 25, 26] (tab [(21, [encL [x.res], encL [y.res]], _)]) (tab_cons (w21 [x.res] [y.res] (by simp) (fun r hr => by simp at hr; subst hr; exact hoa x (List.mem_of_getElem? hx))) Try.call21 tab_nil) draws (by kernel_rfl) (by kernel_rfl) ?_
        generalize hK : AW Try.prog _ _ _ = K
        simp only [go_sem, ↓reduceIte, reduceCtorEq, Nat.reduceAdd, Nat.reduceSub, Nat.reduceMul, Nat.reduceEqDiff, Nat.reduceLT, Nat.reduceLeDiff, Nat.reduceBEq, Int.reduceAdd, Int.reduceSub, Int.reduceLT, Int.reduceLE, Int.reduceEq, Int.reduceToNat, ag3, ag35, el25, fl37_0, fl37_1, mk22, sz3, sz35, sz37, encCs, encCh, encI, ir_I, hx, hy, h1, encRes, encL]
        subst hK
        refine AW.if rfl (fun hc43 => ?_) (fun hc43 => ?_)
        · have hxy : x ≠ y := fun h => by subst h; simp at hc43
          refine AW.reg ?_
          generalize hK : AW Try.prog _ _ _ = K
          simp only [go_sem, ↓reduceIte, reduceCtorEq, Nat.reduceAdd, Nat.reduceSub, Nat.reduceMul, Nat.reduceEqDiff, Nat.reduceLT, Nat.reduceLeDiff, Nat.reduceBEq, Int.reduceAdd, Int.reduceSub, Int.reduceLT, Int.reduceLE, Int.reduceEq, Int.reduceToNat, ag3, ag35, el25, fl37_0, fl37_1, mk22, sz3, sz35, sz37, encCs, encCh, encI, ir_I]
          subst hK
          refine AW.ret ?_
          refine block_r ?_
          refine thenA_r ?_
          refine thenA_r ?_
          refine block_r ?_
          refine thenA_r ?_
          refine fin_val (.inl rfl) rfl ?_
          have : a ≠ b := fun h => hxy (by subst h; rw [hx] at hy; exact Option.some.inj hy)
          simp [this]
        · have hxy : x = y := ch_ext h1 (by simpa using hc43)
          refine AW.skip ?_
          refine block_n ?_
          refine thenA_n ?_
          have h2 : IntKind.i64.wrap ((i : Int) + 1) = ((i + 1 : Nat) : Int) := by rw [wrap_id] <;> omega
          refine AW.region ?_
          generalize hK : thenA _ _ Exit.normal = K
          simp only [go_sem, ↓reduceIte, reduceCtorEq, Nat.reduceAdd, Nat.reduceSub, Nat.reduceMul, Nat.reduceEqDiff, Nat.reduceLT, Nat.reduceLeDiff, Nat.reduceBEq, Int.reduceAdd, Int.reduceSub, Int.reduceLT, Int.reduceLE, Int.reduceEq, Int.reduceToNat, ag3, ag35, el25, fl37_0, fl37_1, mk22, sz3, sz35, sz37, encCs, encCh, encI, ir_I, h2]
          subst hK
          refine thenA_n ?_
          refine ⟨k - 1, _, by omega, Ent.st (.put' (.put' (.put' .any rfl) rfl) rfl) .none_ (Nat.le_refl _), i + 1, _, Nat.zero_le _, by omega, by rw [List.take_add_one, List.take_add_one, hp, hx, hy, hxy], rfl⟩
      · refine AW.regd [[], [], [0, 1], [0, 1, 2], [0, 1, 2, 3], [], [], [5, 6], [5, 6, 7], [5, 6, 7, 8], [0, 1, 2, 3, 4, 5, 6, 7, 8, 9], [0, 1, 2, 3, 4, 5, 6, 7, 8, 9, 10], [0, 1, 2, 3, 4, 5, 6, 7, 8, 9, 10, 11], [0, 1, 2, 3, 4, 5, 6, 7, 8, 9, 10, 11], [0, 1, 2, 3, 4, 5, 6, 7, 8, 9, 10, 11, 12, 13], [0, 1, 2, 3, 4, 5, 6, 7, 8, 9, 10, 11, 12, 13, 14], [0, 1, 2, 3, 4, 5, 6, 7, 8, 9, 10, 11, 12, 13, 14, 15], [0, 1, 2, 3, 4, 5, 6, 7, 8, 9, 10, 11, 12, 13, 14, 15, 16], [0, 1, 2, 3, 4, 5, 6, 7, 8, 9, 10, 11], [0, 1, 2, 3, 4, 5, 6, 7, 8, 9, 10, 11], [0, 1, 2, 3, 4, 5, 6, 7, 8, 9, 10, 11, 18, 19], [0, 1, 2, 3, 4, 5, 6, 7, 8, 9, 10, 11, 18, 19, 20], [0, 1, 2, 3, 4, 5, 6, 7, 8, 9, 10, 11, 18, 19, 20, 21], [0, 1, 2, 3, 4, 5, 6, 7, 8, 9, 10, 11, 18, 19, 20, 21, 22], [0, 1, 2, 3, 4, 5, 6, 7, 8, 9, 10, 11, 12, 13, 14, 15, 16, 17, 18, 19, 20, 21, 22, 23], [0, 1, 2, 3, 4, 5, 6, 7, 8, 9, 10, 11, 12, 13, 14, 15, 16, 17, 18, 19, 20, 21, 22, 23, 24], [0, 1, 2, 3, 4, 5, 6, 7, 8, 9, 10, 11, 12, 13, 14, 15, 16, 17, 18, 19, 20, 21, 22, 23, 24, 25]] [0, 1, 2, 3, 4, 5, 6, 7, 8, 9, 10, 11, 12, 13, 14, 15, 16, 17, 18, 19, 20, 21, 22, 23, 24, 25, 26] noFt (fun _ _ _ h => by simp [noFt] at h) draws (by kernel_rfl) (by kernel_rfl) ?_
        generalize hK : AW Try.prog _ _ _ = K
        simp only [go_sem, ↓reduceIte, reduceCtorEq, Nat.reduceAdd, Nat.reduceSub, Nat.reduceMul, Nat.reduceEqDiff, Nat.reduceLT, Nat.reduceLeDiff, Nat.reduceBEq, Int.reduceAdd, Int.reduceSub, Int.reduceLT, Int.reduceLE, Int.reduceEq, Int.reduceToNat, ag3, ag35, el25, fl37_0, fl37_1, mk22, sz3, sz35, sz37, encCs, encCh, encI, ir_I, hx, hy, h1]
        subst hK
        refine AW.if rfl (fun hc43 => ?_) (fun hc43 => ?_)
        · have hxy : x ≠ y := fun h => h1 (by rw [h])
          refine AW.reg ?_
          generalize hK : AW Try.prog _ _ _ = K
          simp only [go_sem, ↓reduceIte, reduceCtorEq, Nat.reduceAdd, Nat.reduceSub, Nat.reduceMul, Nat.reduceEqDiff, Nat.reduceLT, Nat.reduceLeDiff, Nat.reduceBEq, Int.reduceAdd, Int.reduceSub, Int.reduceLT, Int.reduceLE, Int.reduceEq, Int.reduceToNat, ag3, ag35, el25, fl37_0, fl37_1, mk22, sz3, sz35, sz37, encCs, encCh, encI, ir_I]
          subst hK
          refine AW.ret ?_
          refine block_r ?_
          refine thenA_r ?_
          refine thenA_r ?_
          refine block_r ?_
          refine thenA_r ?_
          refine fin_val (.inl rfl) rfl ?_
          have : a ≠ b := fun h => hxy (by subst h; rw [hx] at hy; exact Option.some.inj hy)
          simp [this]
        · cases hc43
    · refine AW.exit ?_
      refine thenA_x ?_
      refine thenA_x ?_
      refine block_x ?_
      refine thenA_n ?_
      refine AW.reg ?_
      generalize hK : AW Try.prog _ _ _ = K
      simp only [go_sem, ↓reduceIte, reduceCtorEq, Nat.reduceAdd, Nat.reduceSub, Nat.reduceMul, Nat.reduceEqDiff, Nat.reduceLT, Nat.reduceLeDiff, Nat.reduceBEq, Int.reduceAdd, Int.reduceSub, Int.reduceLT, Int.reduceLE, Int.reduceEq, Int.reduceToNat, ag3, ag35, el25, fl37_0, fl37_1, mk22, sz3, sz35, sz37, encCs, encCh, encI, ir_I]
      subst hK
      refine AW.ret ?_
      refine fin_val (.inl rfl) rfl ?_
      have hi : a.length ≤ i := by simpa using hc14
      have : a = b := by rw [← List.take_of_length_le hi, hp, List.take_of_length_le (by omega)]
      simp [this]
def stepR (a b : List Res) (k : ByteArray) : List Change := match getR a k, getR b k with
  | some x, none => [⟨0, x⟩]
  | none, some y => [⟨1, y⟩]
  | some x, some y => un2 x y
  | none, none => []
def refL (a b : List Res) : List Change := (keysL a b).flatMap (stepR a b)
theorem foldA_mem {x : ByteArray} : ∀ (m l : List ByteArray), x ∈ m.foldl (fun l s => addS s l) l ↔ x ∈ m ∨ x ∈ l
  | [], l => by simp
  | s :: m, l => by
    rw [List.foldl_cons, foldA_mem m, addS_mem, List.mem_cons]
    constructor
    · rintro (h | h | h) <;> simp [h]
    · rintro ((h | h) | h) <;> simp [h]
theorem keysL_mem {x : ByteArray} {a b : List Res} : x ∈ keysL a b ↔ (∃ r ∈ a, r.key = x) ∨ ∃ r ∈ b, r.key = x := by
  unfold keysL
  rw [foldA_mem, foldA_mem]
  simp only [List.mem_map, List.not_mem_nil, or_false]
  exact Or.comm
theorem foldA_len : ∀ (m l : List ByteArray), (m.foldl (fun l s => addS s l) l).length ≤ l.length + m.length
  | [], l => by simp
  | s :: m, l => by
    rw [List.foldl_cons]
    have := foldA_len m (addS s l)
    have := addS_len s l
    simp only [List.length_cons]; omega
theorem keysL_len (a b : List Res) : (keysL a b).length ≤ a.length + b.length := by
  unfold keysL
  have h1 := foldA_len (b.map (·.key)) ((a.map (·.key)).foldl (fun l s => addS s l) [])
  have h2 := foldA_len (a.map (·.key)) []
  simp only [List.length_map, List.length_nil] at h1 h2
  omega
theorem getR_none {l : List Res} {s : ByteArray} (h : getR l s = none) : ¬ ∃ r ∈ l, r.key = s := by
  rintro ⟨r, hr, hs⟩
  unfold getR at h
  rw [List.find?_eq_none] at h
  exact h r hr (by simpa using hs)
theorem getR_mem {l : List Res} {s : ByteArray} {x : Res} (h : getR l s = some x) : x ∈ l := List.mem_of_find?_eq_some h
theorem flat_next {α β : Type} {f : α → List β} {l : List α} {i : Nat} {x : α} (hx : l[i]? = some x) : (l.take (i + 1)).flatMap f = (l.take i).flatMap f ++ f x := by
  rw [List.take_add_one, hx]; simp
theorem un2_at {a b : Res} : un2 a b = if a.val ≠ b.val then [⟨2, b⟩] else if a.offs ≠ b.offs then [⟨3, b⟩] else [] := rfl
open Classical in
theorem w17 (a b : List Res) (hab : a.length + b.length ≤ 1000000) (ha : Offs a) (hb : Offs b) (hka : KeyS a) (hkb : KeyS b) : PC Try.prog 17 [encL a, encL b] (.fr 4 ((if Right a ∧ Right b then refL a b else []).map encCh)) := by
  refine pc_of (N := 83) (rs := [.tmp 4]) Try.func17 rfl rfl rfl (Nat.le_of_ble_eq_true rfl) ?_
  refine AW.reg ?_
  generalize hK : AW Try.prog _ _ _ = K
  simp only [go_sem, ↓reduceIte, reduceCtorEq, Nat.reduceAdd, Nat.reduceSub, Nat.reduceMul, Nat.reduceEqDiff, Nat.reduceLT, Nat.reduceLeDiff, Nat.reduceBEq, Int.reduceAdd, Int.reduceSub, Int.reduceLT, Int.reduceLE, Int.reduceEq, Int.reduceToNat, ag9, ag33, ag35, ap25_25, bd37, el25, el94, fl35_1, fl35_2, mk25, sz9, sz33, sz35, zr35, encRes, encI, ir_I, encS, enc1, encL, ir_Res]
  subst hK
  refine AW.seq ?_
  by_cases hra : Right a
  · refine AW.reg ?_
    generalize hK : AW Try.prog _ _ _ = K
    simp only [go_sem, ↓reduceIte, reduceCtorEq, Nat.reduceAdd, Nat.reduceSub, Nat.reduceMul, Nat.reduceEqDiff, Nat.reduceLT, Nat.reduceLeDiff, Nat.reduceBEq, Int.reduceAdd, Int.reduceSub, Int.reduceLT, Int.reduceLE, Int.reduceEq, Int.reduceToNat, ag9, ag33, ag35, ap25_25, bd37, el25, el94, fl35_1, fl35_2, mk25, sz9, sz33, sz35, zr35, encRes, encI, ir_I, encS, enc1, encL, ir_Res, hra]
    refine arC.of (w18 a (by omega) hka) Try.call18 ?_
    simp only [go_sem, ↓reduceIte, reduceCtorEq, Nat.reduceAdd, Nat.reduceSub, Nat.reduceMul, Nat.reduceEqDiff, Nat.reduceLT, Nat.reduceLeDiff, Nat.reduceBEq, Int.reduceAdd, Int.reduceSub, Int.reduceLT, Int.reduceLE, Int.reduceEq, Int.reduceToNat, ag9, ag33, ag35, ap25_25, bd37, el25, el94, fl35_1, fl35_2, mk25, sz9, sz33, sz35, zr35, encRes, encI, ir_I, encS, enc1, encL, ir_Res, hra]
    refine arC.of (w18 b (by omega) hkb) Try.call18 ?_
    simp only [go_sem, ↓reduceIte, reduceCtorEq, Nat.reduceAdd, Nat.reduceSub, Nat.reduceMul, Nat.reduceEqDiff, Nat.reduceLT, Nat.reduceLeDiff, Nat.reduceBEq, Int.reduceAdd, Int.reduceSub, Int.reduceLT, Int.reduceLE, Int.reduceEq, Int.reduceToNat, ag9, ag33, ag35, ap25_25, bd37, el25, el94, fl35_1, fl35_2, mk25, sz9, sz33, sz35, zr35, encRes, encI, ir_I, encS, enc1, encL, ir_Res, hra]
    subst hK
    refine AW.if rfl (fun hc19 => ?_) (fun hc19 => ?_)
    · refine AW.reg ?_
      generalize hK : AW Try.prog _ _ _ = K
      simp only [go_sem, ↓reduceIte, reduceCtorEq, Nat.reduceAdd, Nat.reduceSub, Nat.reduceMul, Nat.reduceEqDiff, Nat.reduceLT, Nat.reduceLeDiff, Nat.reduceBEq, Int.reduceAdd, Int.reduceSub, Int.reduceLT, Int.reduceLE, Int.reduceEq, Int.reduceToNat, ag9, ag33, ag35, ap25_25, bd37, el25, el94, fl35_1, fl35_2, mk25, sz9, sz33, sz35, zr35, encRes, encI, ir_I, encS, enc1, encL, ir_Res]
      subst hK
      refine AW.ent (Ent.nilOwn 4 4 (by decide) rfl) ?_
      refine AW.ret ?_
      refine thenA_r ?_
      have hrb : ¬ Right b := by simpa using hc19
      rw [if_neg (fun h => hrb h.2)]
      exact fin_own (.inl rfl) rfl (upd_same ..) rfl rfl rfl
    · have hrb : Right b := by simpa using hc19
      have hkl := keysL_len a b
      refine AW.skip ?_
      refine thenA_n ?_
      refine AW.reg ?_
      generalize hK : AW Try.prog _ _ _ = K
      simp only [go_sem, ↓reduceIte, reduceCtorEq, Nat.reduceAdd, Nat.reduceSub, Nat.reduceMul, Nat.reduceEqDiff, Nat.reduceLT, Nat.reduceLeDiff, Nat.reduceBEq, Int.reduceAdd, Int.reduceSub, Int.reduceLT, Int.reduceLE, Int.reduceEq, Int.reduceToNat, ag9, ag33, ag35, ap25_25, bd37, el25, el94, fl35_1, fl35_2, mk25, sz9, sz33, sz35, zr35, encRes, encI, ir_I, encS, enc1, encL, ir_Res]
      subst hK
      refine AW.reg ?_
      generalize hK : AW Try.prog _ _ _ = K
      simp only [go_sem, ↓reduceIte, reduceCtorEq, Nat.reduceAdd, Nat.reduceSub, Nat.reduceMul, Nat.reduceEqDiff, Nat.reduceLT, Nat.reduceLeDiff, Nat.reduceBEq, Int.reduceAdd, Int.reduceSub, Int.reduceLT, Int.reduceLE, Int.reduceEq, Int.reduceToNat, ag9, ag33, ag35, ap25_25, bd37, el25, el94, fl35_1, fl35_2, mk25, sz9, sz33, sz35, zr35, encRes, encI, ir_I, encS, enc1, encL, ir_Res]
      refine arC.of (w67 a b hab hka hkb) Try.call67 ?_
      simp only [go_sem, ↓reduceIte, reduceCtorEq, Nat.reduceAdd, Nat.reduceSub, Nat.reduceMul, Nat.reduceEqDiff, Nat.reduceLT, Nat.reduceLeDiff, Nat.reduceBEq, Int.reduceAdd, Int.reduceSub, Int.reduceLT, Int.reduceLE, Int.reduceEq, Int.reduceToNat, ag9, ag33, ag35, ap25_25, bd37, el25, el94, fl35_1, fl35_2, mk25, sz9, sz33, sz35, zr35, encRes, encI, ir_I, encS, enc1, encL, ir_Res]
      subst hK
      refine AW.seq ?_
      refine AW.reg ?_
      generalize hK : AW Try.prog _ _ _ = K
      simp only [go_sem, ↓reduceIte, reduceCtorEq, Nat.reduceAdd, Nat.reduceSub, Nat.reduceMul, Nat.reduceEqDiff, Nat.reduceLT, Nat.reduceLeDiff, Nat.reduceBEq, Int.reduceAdd, Int.reduceSub, Int.reduceLT, Int.reduceLE, Int.reduceEq, Int.reduceToNat, ag9, ag33, ag35, ap25_25, bd37, el25, el94, fl35_1, fl35_2, mk25, sz9, sz33, sz35, zr35, encRes, encI, ir_I, encS, enc1, encL, ir_Res]
      subst hK
      refine AW.block ?_
      refine AW.ent (Ent.nilOwn 5 4 (by decide) rfl) ?_
      refine AW.loop (fun k st => ∃ i out rows t n nx, (0 ≤ k) ∧ (i + k = (keysL a b).length) ∧ (out = ((keysL a b).take i).flatMap (stepR a b)) ∧ (rows = out.map encCh) ∧ (n = rows.length) ∧ (t < nx) ∧ (n ≤ i) ∧ st = ⟨(upd (upd (upd (upd (upd anyF 0 (encL a)) 1 (encL b)) 5 (.own t 0 n)) 6 (encS (keysL a b))) 7 (I (i : Int))), upd (fun _ => none) t (some (.row 4 true rows)), nx⟩) ((keysL a b).length) _ (Ent.st (.put' (.put' (.put' (.put' (.put' .any rfl) rfl) rfl) rfl) rfl) .refl (Nat.le_refl _)) ⟨0, [], [], _, 0, _, Nat.zero_le _, by simp, by simp, rfl, rfl, Nat.lt_succ_self _, by omega, rfl⟩ ?_
      rintro k _ ⟨i, out, rows, t, n, nx, _, hk, hout, hrows, hn, hlt, hcap, rfl⟩
      refine AW.seq ?_
      refine AW.reg ?_
      generalize hK : AW Try.prog _ _ _ = K
      simp only [go_sem, ↓reduceIte, reduceCtorEq, Nat.reduceAdd, Nat.reduceSub, Nat.reduceMul, Nat.reduceEqDiff, Nat.reduceLT, Nat.reduceLeDiff, Nat.reduceBEq, Int.reduceAdd, Int.reduceSub, Int.reduceLT, Int.reduceLE, Int.reduceEq, Int.reduceToNat, ag9, ag33, ag35, ap25_25, bd37, el25, el94, fl35_1, fl35_2, mk25, sz9, sz33, sz35, zr35, encRes, encI, ir_I, encS, enc1, encL, ir_Res]
      subst hK
      refine AW.if rfl (fun hc26 => ?_) (fun hc26 => ?_)
      · have hi : i < (keysL a b).length := by simpa using hc26
        obtain ⟨s, hks⟩ : ∃ s, (keysL a b)[i]? = some s := ⟨(keysL a b)[i], by simp [hi]⟩
        have hne : ∀ j, (t = nx + j) = False := fun j => eq_false (by omega)
        refine AW.skip ?_
        refine thenA_n ?_
        refine AW.seq ?_
        refine AW.block ?_
        rcases hga : getR a s with _ | x <;> rcases hgb : getR b s with _ | y
        · exfalso
          rcases keysL_mem.1 (List.mem_of_getElem? hks) with h | h
          · exact getR_none hga h
          · exact getR_none hgb h
        · have ca : PC Try.prog 68 [encL a, S s] (.tup [.agg [S ⟨#[]⟩, S ⟨#[]⟩, nilS], B false]) := by have h := w68 a s (by omega); rw [hga] at h; exact h
          refine AW.reg ?_
          generalize hK : AW Try.prog _ _ _ = K
          simp only [go_sem, ↓reduceIte, reduceCtorEq, Nat.reduceAdd, Nat.reduceSub, Nat.reduceMul, Nat.reduceEqDiff, Nat.reduceLT, Nat.reduceLeDiff, Nat.reduceBEq, Int.reduceAdd, Int.reduceSub, Int.reduceLT, Int.reduceLE, Int.reduceEq, Int.reduceToNat, ag9, ag33, ag35, ap25_25, bd37, el25, el94, fl35_1, fl35_2, mk25, sz9, sz33, sz35, zr35, encRes, encI, ir_I, encS, enc1, encL, ir_Res, hne, Nat.add_assoc, hks, getX]
          refine arC.of (ca) Try.call68 ?_
          simp only [go_sem, ↓reduceIte, reduceCtorEq, Nat.reduceAdd, Nat.reduceSub, Nat.reduceMul, Nat.reduceEqDiff, Nat.reduceLT, Nat.reduceLeDiff, Nat.reduceBEq, Int.reduceAdd, Int.reduceSub, Int.reduceLT, Int.reduceLE, Int.reduceEq, Int.reduceToNat, ag9, ag33, ag35, ap25_25, bd37, el25, el94, fl35_1, fl35_2, mk25, sz9, sz33, sz35, zr35, encRes, encI, ir_I, encS, enc1, encL, ir_Res, hne, Nat.add_assoc, hks, getX]
          subst hK
          have cb : PC Try.prog 68 [encL b, S s] (.tup [.agg (encRes y), B true]) := by have h := w68 b s (by omega); rw [hgb] at h; exact h
          refine AW.reg ?_
          generalize hK : AW Try.prog _ _ _ = K
          simp only [go_sem, ↓reduceIte, reduceCtorEq, Nat.reduceAdd, Nat.reduceSub, Nat.reduceMul, Nat.reduceEqDiff, Nat.reduceLT, Nat.reduceLeDiff, Nat.reduceBEq, Int.reduceAdd, Int.reduceSub, Int.reduceLT, Int.reduceLE, Int.reduceEq, Int.reduceToNat, ag9, ag33, ag35, ap25_25, bd37, el25, el94, fl35_1, fl35_2, mk25, sz9, sz33, sz35, zr35, encRes, encI, ir_I, encS, enc1, encL, ir_Res, hne, Nat.add_assoc, hks, getX]
          refine arC.of (cb) Try.call68 ?_
          simp only [go_sem, ↓reduceIte, reduceCtorEq, Nat.reduceAdd, Nat.reduceSub, Nat.reduceMul, Nat.reduceEqDiff, Nat.reduceLT, Nat.reduceLeDiff, Nat.reduceBEq, Int.reduceAdd, Int.reduceSub, Int.reduceLT, Int.reduceLE, Int.reduceEq, Int.reduceToNat, ag9, ag33, ag35, ap25_25, bd37, el25, el94, fl35_1, fl35_2, mk25, sz9, sz33, sz35, zr35, encRes, encI, ir_I, encS, enc1, encL, ir_Res, hne, Nat.add_assoc, hks, getX]
          subst hK
          refine AW.reg ?_
          generalize hK : AW Try.prog _ _ _ = K
          simp only [go_sem, ↓reduceIte, reduceCtorEq, Nat.reduceAdd, Nat.reduceSub, Nat.reduceMul, Nat.reduceEqDiff, Nat.reduceLT, Nat.reduceLeDiff, Nat.reduceBEq, Int.reduceAdd, Int.reduceSub, Int.reduceLT, Int.reduceLE, Int.reduceEq, Int.reduceToNat, ag9, ag33, ag35, ap25_25, bd37, el25, el94, fl35_1, fl35_2, mk25, sz9, sz33, sz35, zr35, encRes, encI, ir_I, encS, enc1, encL, ir_Res]
          subst hK
          refine AW.if rfl (fun hc48 => ?_) (fun hc48 => ?_)
          · cases hc48
          · refine AW.reg ?_
            generalize hK : AW Try.prog _ _ _ = K
            simp only [go_sem, ↓reduceIte, reduceCtorEq, Nat.reduceAdd, Nat.reduceSub, Nat.reduceMul, Nat.reduceEqDiff, Nat.reduceLT, Nat.reduceLeDiff, Nat.reduceBEq, Int.reduceAdd, Int.reduceSub, Int.reduceLT, Int.reduceLE, Int.reduceEq, Int.reduceToNat, ag9, ag33, ag35, ap25_25, bd37, el25, el94, fl35_1, fl35_2, mk25, sz9, sz33, sz35, zr35, encRes, encI, ir_I, encS, enc1, encL, ir_Res]
            subst hK
            refine AW.if rfl (fun hc55 => ?_) (fun hc55 => ?_)
            · refine AW.region ?_
              generalize hK : inBlockA _ _ Exit.normal = K
              simp (disch := first | omega | (simp only [List.length_map, List.length_cons, List.length_nil, List.length_append] <;> omega)) only [go_sem, ↓reduceIte, reduceCtorEq, Nat.reduceAdd, Nat.reduceSub, Nat.reduceMul, Nat.reduceEqDiff, Nat.reduceLT, Nat.reduceLeDiff, Nat.reduceBEq, Int.reduceAdd, Int.reduceSub, Int.reduceLT, Int.reduceLE, Int.reduceEq, Int.reduceToNat, ag9, ag33, ag35, ap25_25, bd37, el25, el94, fl35_1, fl35_2, mk25, sz9, sz33, sz35, zr35, encRes, encI, ir_I, encS, enc1, encL, ir_Res, hne, Nat.add_assoc, hn, ml_Ch, encCh, List.length_map, encI, ir_I, forall_one]
              subst hK
              refine block_n ?_
              refine thenA_n ?_
              have h2 : IntKind.i64.wrap ((i : Int) + 1) = ((i + 1 : Nat) : Int) := by rw [wrap_id] <;> omega
              refine AW.region ?_
              generalize hK : thenA _ _ Exit.normal = K
              simp only [go_sem, ↓reduceIte, reduceCtorEq, Nat.reduceAdd, Nat.reduceSub, Nat.reduceMul, Nat.reduceEqDiff, Nat.reduceLT, Nat.reduceLeDiff, Nat.reduceBEq, Int.reduceAdd, Int.reduceSub, Int.reduceLT, Int.reduceLE, Int.reduceEq, Int.reduceToNat, ag9, ag33, ag35, ap25_25, bd37, el25, el94, fl35_1, fl35_2, mk25, sz9, sz33, sz35, zr35, encRes, encI, ir_I, encS, enc1, encL, ir_Res, h2]
              subst hK
              refine thenA_n ?_
              refine ⟨k - 1, _, by omega, Ent.st (.put' (.put' (.put' (.put' (.put' .any rfl) rfl) rfl) rfl) rfl) (.put .none_ (by first | exact upd_same .. | simp [upd, hne, Nat.add_assoc])) (Nat.le_refl _), i + 1, out ++ [⟨1, y⟩], _, _, _, _, Nat.zero_le _, by omega, by rw [flat_next hks, ← hout]; simp [stepR, hga, hgb, un2_at], by simp [hrows, encCh, encI], by simp [hn], by omega, by (try simp); omega, rfl⟩
            · cases hc55
        · have ca : PC Try.prog 68 [encL a, S s] (.tup [.agg (encRes x), B true]) := by have h := w68 a s (by omega); rw [hga] at h; exact h
          refine AW.reg ?_
          generalize hK : AW Try.prog _ _ _ = K
          simp only [go_sem, ↓reduceIte, reduceCtorEq, Nat.reduceAdd, Nat.reduceSub, Nat.reduceMul, Nat.reduceEqDiff, Nat.reduceLT, Nat.reduceLeDiff, Nat.reduceBEq, Int.reduceAdd, Int.reduceSub, Int.reduceLT, Int.reduceLE, Int.reduceEq, Int.reduceToNat, ag9, ag33, ag35, ap25_25, bd37, el25, el94, fl35_1, fl35_2, mk25, sz9, sz33, sz35, zr35, encRes, encI, ir_I, encS, enc1, encL, ir_Res, hne, Nat.add_assoc, hks, getX]
          refine arC.of (ca) Try.call68 ?_
          simp only [go_sem, ↓reduceIte, reduceCtorEq, Nat.reduceAdd, Nat.reduceSub, Nat.reduceMul, Nat.reduceEqDiff, Nat.reduceLT, Nat.reduceLeDiff, Nat.reduceBEq, Int.reduceAdd, Int.reduceSub, Int.reduceLT, Int.reduceLE, Int.reduceEq, Int.reduceToNat, ag9, ag33, ag35, ap25_25, bd37, el25, el94, fl35_1, fl35_2, mk25, sz9, sz33, sz35, zr35, encRes, encI, ir_I, encS, enc1, encL, ir_Res, hne, Nat.add_assoc, hks, getX]
          subst hK
          have cb : PC Try.prog 68 [encL b, S s] (.tup [.agg [S ⟨#[]⟩, S ⟨#[]⟩, nilS], B false]) := by have h := w68 b s (by omega); rw [hgb] at h; exact h
          refine AW.reg ?_
          generalize hK : AW Try.prog _ _ _ = K
          simp only [go_sem, ↓reduceIte, reduceCtorEq, Nat.reduceAdd, Nat.reduceSub, Nat.reduceMul, Nat.reduceEqDiff, Nat.reduceLT, Nat.reduceLeDiff, Nat.reduceBEq, Int.reduceAdd, Int.reduceSub, Int.reduceLT, Int.reduceLE, Int.reduceEq, Int.reduceToNat, ag9, ag33, ag35, ap25_25, bd37, el25, el94, fl35_1, fl35_2, mk25, sz9, sz33, sz35, zr35, encRes, encI, ir_I, encS, enc1, encL, ir_Res, hne, Nat.add_assoc, hks, getX]
          refine arC.of (cb) Try.call68 ?_
          simp only [go_sem, ↓reduceIte, reduceCtorEq, Nat.reduceAdd, Nat.reduceSub, Nat.reduceMul, Nat.reduceEqDiff, Nat.reduceLT, Nat.reduceLeDiff, Nat.reduceBEq, Int.reduceAdd, Int.reduceSub, Int.reduceLT, Int.reduceLE, Int.reduceEq, Int.reduceToNat, ag9, ag33, ag35, ap25_25, bd37, el25, el94, fl35_1, fl35_2, mk25, sz9, sz33, sz35, zr35, encRes, encI, ir_I, encS, enc1, encL, ir_Res, hne, Nat.add_assoc, hks, getX]
          subst hK
          refine AW.reg ?_
          generalize hK : AW Try.prog _ _ _ = K
          simp only [go_sem, ↓reduceIte, reduceCtorEq, Nat.reduceAdd, Nat.reduceSub, Nat.reduceMul, Nat.reduceEqDiff, Nat.reduceLT, Nat.reduceLeDiff, Nat.reduceBEq, Int.reduceAdd, Int.reduceSub, Int.reduceLT, Int.reduceLE, Int.reduceEq, Int.reduceToNat, ag9, ag33, ag35, ap25_25, bd37, el25, el94, fl35_1, fl35_2, mk25, sz9, sz33, sz35, zr35, encRes, encI, ir_I, encS, enc1, encL, ir_Res]
          subst hK
          refine AW.if rfl (fun hc48 => ?_) (fun hc48 => ?_)
          · refine AW.region ?_
            generalize hK : inBlockA _ _ Exit.normal = K
            simp (disch := first | omega | (simp only [List.length_map, List.length_cons, List.length_nil, List.length_append] <;> omega)) only [go_sem, ↓reduceIte, reduceCtorEq, Nat.reduceAdd, Nat.reduceSub, Nat.reduceMul, Nat.reduceEqDiff, Nat.reduceLT, Nat.reduceLeDiff, Nat.reduceBEq, Int.reduceAdd, Int.reduceSub, Int.reduceLT, Int.reduceLE, Int.reduceEq, Int.reduceToNat, ag9, ag33, ag35, ap25_25, bd37, el25, el94, fl35_1, fl35_2, mk25, sz9, sz33, sz35, zr35, encRes, encI, ir_I, encS, enc1, encL, ir_Res, hne, Nat.add_assoc, hn, ml_Ch, encCh, List.length_map, encI, ir_I, forall_one]
            subst hK
            refine block_n ?_
            refine thenA_n ?_
            have h2 : IntKind.i64.wrap ((i : Int) + 1) = ((i + 1 : Nat) : Int) := by rw [wrap_id] <;> omega
            refine AW.region ?_
            generalize hK : thenA _ _ Exit.normal = K
            simp only [go_sem, ↓reduceIte, reduceCtorEq, Nat.reduceAdd, Nat.reduceSub, Nat.reduceMul, Nat.reduceEqDiff, Nat.reduceLT, Nat.reduceLeDiff, Nat.reduceBEq, Int.reduceAdd, Int.reduceSub, Int.reduceLT, Int.reduceLE, Int.reduceEq, Int.reduceToNat, ag9, ag33, ag35, ap25_25, bd37, el25, el94, fl35_1, fl35_2, mk25, sz9, sz33, sz35, zr35, encRes, encI, ir_I, encS, enc1, encL, ir_Res, h2]
            subst hK
            refine thenA_n ?_
            refine ⟨k - 1, _, by omega, Ent.st (.put' (.put' (.put' (.put' (.put' .any rfl) rfl) rfl) rfl) rfl) (.put .none_ (by first | exact upd_same .. | simp [upd, hne, Nat.add_assoc])) (Nat.le_refl _), i + 1, out ++ [⟨0, x⟩], _, _, _, _, Nat.zero_le _, by omega, by rw [flat_next hks, ← hout]; simp [stepR, hga, hgb, un2_at], by simp [hrows, encCh, encI], by simp [hn], by omega, by (try simp); omega, rfl⟩
          · cases hc48
        · have ca : PC Try.prog 68 [encL a, S s] (.tup [.agg (encRes x), B true]) := by have h := w68 a s (by omega); rw [hga] at h; exact h
          refine AW.reg ?_
          generalize hK : AW Try.prog _ _ _ = K
          simp only [go_sem, ↓reduceIte, reduceCtorEq, Nat.reduceAdd, Nat.reduceSub, Nat.reduceMul, Nat.reduceEqDiff, Nat.reduceLT, Nat.reduceLeDiff, Nat.reduceBEq, Int.reduceAdd, Int.reduceSub, Int.reduceLT, Int.reduceLE, Int.reduceEq, Int.reduceToNat, ag9, ag33, ag35, ap25_25, bd37, el25, el94, fl35_1, fl35_2, mk25, sz9, sz33, sz35, zr35, encRes, encI, ir_I, encS, enc1, encL, ir_Res, hne, Nat.add_assoc, hks, getX]
          refine arC.of (ca) Try.call68 ?_
          simp only [go_sem, ↓reduceIte, reduceCtorEq, Nat.reduceAdd, Nat.reduceSub, Nat.reduceMul, Nat.reduceEqDiff, Nat.reduceLT, Nat.reduceLeDiff, Nat.reduceBEq, Int.reduceAdd, Int.reduceSub, Int.reduceLT, Int.reduceLE, Int.reduceEq, Int.reduceToNat, ag9, ag33, ag35, ap25_25, bd37, el25, el94, fl35_1, fl35_2, mk25, sz9, sz33, sz35, zr35, encRes, encI, ir_I, encS, enc1, encL, ir_Res, hne, Nat.add_assoc, hks, getX]
          subst hK
          have cb : PC Try.prog 68 [encL b, S s] (.tup [.agg (encRes y), B true]) := by have h := w68 b s (by omega); rw [hgb] at h; exact h
          refine AW.reg ?_
          generalize hK : AW Try.prog _ _ _ = K
          simp only [go_sem, ↓reduceIte, reduceCtorEq, Nat.reduceAdd, Nat.reduceSub, Nat.reduceMul, Nat.reduceEqDiff, Nat.reduceLT, Nat.reduceLeDiff, Nat.reduceBEq, Int.reduceAdd, Int.reduceSub, Int.reduceLT, Int.reduceLE, Int.reduceEq, Int.reduceToNat, ag9, ag33, ag35, ap25_25, bd37, el25, el94, fl35_1, fl35_2, mk25, sz9, sz33, sz35, zr35, encRes, encI, ir_I, encS, enc1, encL, ir_Res, hne, Nat.add_assoc, hks, getX]
          refine arC.of (cb) Try.call68 ?_
          simp only [go_sem, ↓reduceIte, reduceCtorEq, Nat.reduceAdd, Nat.reduceSub, Nat.reduceMul, Nat.reduceEqDiff, Nat.reduceLT, Nat.reduceLeDiff, Nat.reduceBEq, Int.reduceAdd, Int.reduceSub, Int.reduceLT, Int.reduceLE, Int.reduceEq, Int.reduceToNat, ag9, ag33, ag35, ap25_25, bd37, el25, el94, fl35_1, fl35_2, mk25, sz9, sz33, sz35, zr35, encRes, encI, ir_I, encS, enc1, encL, ir_Res, hne, Nat.add_assoc, hks, getX]
          subst hK
          refine AW.reg ?_
          generalize hK : AW Try.prog _ _ _ = K
          simp only [go_sem, ↓reduceIte, reduceCtorEq, Nat.reduceAdd, Nat.reduceSub, Nat.reduceMul, Nat.reduceEqDiff, Nat.reduceLT, Nat.reduceLeDiff, Nat.reduceBEq, Int.reduceAdd, Int.reduceSub, Int.reduceLT, Int.reduceLE, Int.reduceEq, Int.reduceToNat, ag9, ag33, ag35, ap25_25, bd37, el25, el94, fl35_1, fl35_2, mk25, sz9, sz33, sz35, zr35, encRes, encI, ir_I, encS, enc1, encL, ir_Res]
          subst hK
          refine AW.if rfl (fun hc48 => ?_) (fun hc48 => ?_)
          · cases hc48
          · refine AW.reg ?_
            generalize hK : AW Try.prog _ _ _ = K
            simp only [go_sem, ↓reduceIte, reduceCtorEq, Nat.reduceAdd, Nat.reduceSub, Nat.reduceMul, Nat.reduceEqDiff, Nat.reduceLT, Nat.reduceLeDiff, Nat.reduceBEq, Int.reduceAdd, Int.reduceSub, Int.reduceLT, Int.reduceLE, Int.reduceEq, Int.reduceToNat, ag9, ag33, ag35, ap25_25, bd37, el25, el94, fl35_1, fl35_2, mk25, sz9, sz33, sz35, zr35, encRes, encI, ir_I, encS, enc1, encL, ir_Res]
            subst hK
            refine AW.if rfl (fun hc55 => ?_) (fun hc55 => ?_)
            · cases hc55
            · refine AW.reg ?_
              generalize hK : AW Try.prog _ _ _ = K
              simp only [go_sem, ↓reduceIte, reduceCtorEq, Nat.reduceAdd, Nat.reduceSub, Nat.reduceMul, Nat.reduceEqDiff, Nat.reduceLT, Nat.reduceLeDiff, Nat.reduceBEq, Int.reduceAdd, Int.reduceSub, Int.reduceLT, Int.reduceLE, Int.reduceEq, Int.reduceToNat, ag9, ag33, ag35, ap25_25, bd37, el25, el94, fl35_1, fl35_2, mk25, sz9, sz33, sz35, zr35, encRes, encI, ir_I, encS, enc1, encL, ir_Res, hne, Nat.add_assoc]
              subst hK
              refine AW.if rfl (fun hc65 => ?_) (fun hc65 => ?_)
              · refine AW.region ?_
                generalize hK : inBlockA _ _ Exit.normal = K
                simp (disch := first | omega | (simp only [List.length_map, List.length_cons, List.length_nil, List.length_append] <;> omega)) only [go_sem, ↓reduceIte, reduceCtorEq, Nat.reduceAdd, Nat.reduceSub, Nat.reduceMul, Nat.reduceEqDiff, Nat.reduceLT, Nat.reduceLeDiff, Nat.reduceBEq, Int.reduceAdd, Int.reduceSub, Int.reduceLT, Int.reduceLE, Int.reduceEq, Int.reduceToNat, ag9, ag33, ag35, ap25_25, bd37, el25, el94, fl35_1, fl35_2, mk25, sz9, sz33, sz35, zr35, encRes, encI, ir_I, encS, enc1, encL, ir_Res, hne, Nat.add_assoc, hn, ml_Ch, encCh, List.length_map, encI, ir_I, forall_one]
                subst hK
                refine block_n ?_
                refine thenA_n ?_
                have h2 : IntKind.i64.wrap ((i : Int) + 1) = ((i + 1 : Nat) : Int) := by rw [wrap_id] <;> omega
                refine AW.region ?_
                generalize hK : thenA _ _ Exit.normal = K
                simp only [go_sem, ↓reduceIte, reduceCtorEq, Nat.reduceAdd, Nat.reduceSub, Nat.reduceMul, Nat.reduceEqDiff, Nat.reduceLT, Nat.reduceLeDiff, Nat.reduceBEq, Int.reduceAdd, Int.reduceSub, Int.reduceLT, Int.reduceLE, Int.reduceEq, Int.reduceToNat, ag9, ag33, ag35, ap25_25, bd37, el25, el94, fl35_1, fl35_2, mk25, sz9, sz33, sz35, zr35, encRes, encI, ir_I, encS, enc1, encL, ir_Res, h2]
                subst hK
                refine thenA_n ?_
                refine ⟨k - 1, _, by omega, Ent.st (.put' (.put' (.put' (.put' (.put' .any rfl) rfl) rfl) rfl) rfl) (.put .none_ (by first | exact upd_same .. | simp [upd, hne, Nat.add_assoc])) (Nat.le_refl _), i + 1, out ++ [⟨2, y⟩], _, _, _, _, Nat.zero_le _, by omega, by rw [flat_next hks, ← hout]; simp [stepR, hga, hgb, un2_at, show ¬ x.val = y.val from by simpa using hc65], by simp [hrows, encCh, encI], by simp [hn], by omega, by (try simp); omega, rfl⟩
              · refine AW.reg ?_
                generalize hK : AW Try.prog _ _ _ = K
                simp only [go_sem, ↓reduceIte, reduceCtorEq, Nat.reduceAdd, Nat.reduceSub, Nat.reduceMul, Nat.reduceEqDiff, Nat.reduceLT, Nat.reduceLeDiff, Nat.reduceBEq, Int.reduceAdd, Int.reduceSub, Int.reduceLT, Int.reduceLE, Int.reduceEq, Int.reduceToNat, ag9, ag33, ag35, ap25_25, bd37, el25, el94, fl35_1, fl35_2, mk25, sz9, sz33, sz35, zr35, encRes, encI, ir_I, encS, enc1, encL, ir_Res, hne, Nat.add_assoc]
                refine arC.of (w69 x.offs y.offs (ha x (getR_mem hga))) Try.call69 ?_
                simp only [go_sem, ↓reduceIte, reduceCtorEq, Nat.reduceAdd, Nat.reduceSub, Nat.reduceMul, Nat.reduceEqDiff, Nat.reduceLT, Nat.reduceLeDiff, Nat.reduceBEq, Int.reduceAdd, Int.reduceSub, Int.reduceLT, Int.reduceLE, Int.reduceEq, Int.reduceToNat, ag9, ag33, ag35, ap25_25, bd37, el25, el94, fl35_1, fl35_2, mk25, sz9, sz33, sz35, zr35, encRes, encI, ir_I, encS, enc1, encL, ir_Res, hne, Nat.add_assoc]
                subst hK
                refine AW.if rfl (fun hc76 => ?_) (fun hc76 => ?_)
                · refine AW.region ?_
                  generalize hK : inBlockA _ _ Exit.normal = K
                  simp (disch := first | omega | (simp only [List.length_map, List.length_cons, List.length_nil, List.length_append] <;> omega)) only [go_sem, ↓reduceIte, reduceCtorEq, Nat.reduceAdd, Nat.reduceSub, Nat.reduceMul, Nat.reduceEqDiff, Nat.reduceLT, Nat.reduceLeDiff, Nat.reduceBEq, Int.reduceAdd, Int.reduceSub, Int.reduceLT, Int.reduceLE, Int.reduceEq, Int.reduceToNat, ag9, ag33, ag35, ap25_25, bd37, el25, el94, fl35_1, fl35_2, mk25, sz9, sz33, sz35, zr35, encRes, encI, ir_I, encS, enc1, encL, ir_Res, hne, Nat.add_assoc, hn, ml_Ch, encCh, List.length_map, encI, ir_I, forall_one]
                  subst hK
                  refine block_n ?_
                  refine thenA_n ?_
                  have h2 : IntKind.i64.wrap ((i : Int) + 1) = ((i + 1 : Nat) : Int) := by rw [wrap_id] <;> omega
                  refine AW.region ?_
                  generalize hK : thenA _ _ Exit.normal = K
                  simp only [go_sem, ↓reduceIte, reduceCtorEq, Nat.reduceAdd, Nat.reduceSub, Nat.reduceMul, Nat.reduceEqDiff, Nat.reduceLT, Nat.reduceLeDiff, Nat.reduceBEq, Int.reduceAdd, Int.reduceSub, Int.reduceLT, Int.reduceLE, Int.reduceEq, Int.reduceToNat, ag9, ag33, ag35, ap25_25, bd37, el25, el94, fl35_1, fl35_2, mk25, sz9, sz33, sz35, zr35, encRes, encI, ir_I, encS, enc1, encL, ir_Res, h2]
                  subst hK
                  refine thenA_n ?_
                  refine ⟨k - 1, _, by omega, Ent.st (.put' (.put' (.put' (.put' (.put' .any rfl) rfl) rfl) rfl) rfl) (.put .none_ (by first | exact upd_same .. | simp [upd, hne, Nat.add_assoc])) (Nat.le_refl _), i + 1, out ++ [⟨3, y⟩], _, _, _, _, Nat.zero_le _, by omega, by rw [flat_next hks, ← hout]; simp [stepR, hga, hgb, un2_at, show x.val = y.val from by simpa using hc65, show ¬ x.offs = y.offs from by simpa using hc76], by simp [hrows, encCh, encI], by simp [hn], by omega, by (try simp); omega, rfl⟩
                · refine AW.skip ?_
                  refine block_n ?_
                  refine thenA_n ?_
                  have h2 : IntKind.i64.wrap ((i : Int) + 1) = ((i + 1 : Nat) : Int) := by rw [wrap_id] <;> omega
                  refine AW.region ?_
                  generalize hK : thenA _ _ Exit.normal = K
                  simp only [go_sem, ↓reduceIte, reduceCtorEq, Nat.reduceAdd, Nat.reduceSub, Nat.reduceMul, Nat.reduceEqDiff, Nat.reduceLT, Nat.reduceLeDiff, Nat.reduceBEq, Int.reduceAdd, Int.reduceSub, Int.reduceLT, Int.reduceLE, Int.reduceEq, Int.reduceToNat, ag9, ag33, ag35, ap25_25, bd37, el25, el94, fl35_1, fl35_2, mk25, sz9, sz33, sz35, zr35, encRes, encI, ir_I, encS, enc1, encL, ir_Res, h2]
                  subst hK
                  refine thenA_n ?_
                  refine ⟨k - 1, _, by omega, Ent.st (.put' (.put' (.put' (.put' (.put' .any rfl) rfl) rfl) rfl) rfl) (.put .none_ (by simp only [upd_ap, hne, Nat.add_assoc, reduceIte])) (Nat.le_refl _), i + 1, out, rows, t, n, _, Nat.zero_le _, by omega, by rw [flat_next hks, ← hout]; simp [stepR, hga, hgb, un2_at, show x.val = y.val from by simpa using hc65, show x.offs = y.offs from by simpa using hc76], hrows, hn, by omega, by omega, rfl⟩
      · refine AW.exit ?_
        refine thenA_x ?_
        refine thenA_x ?_
        refine block_x ?_
        refine thenA_n ?_
        refine AW.reg ?_
        generalize hK : AW Try.prog _ _ _ = K
        simp only [go_sem, ↓reduceIte, reduceCtorEq, Nat.reduceAdd, Nat.reduceSub, Nat.reduceMul, Nat.reduceEqDiff, Nat.reduceLT, Nat.reduceLeDiff, Nat.reduceBEq, Int.reduceAdd, Int.reduceSub, Int.reduceLT, Int.reduceLE, Int.reduceEq, Int.reduceToNat, ag9, ag33, ag35, ap25_25, bd37, el25, el94, fl35_1, fl35_2, mk25, sz9, sz33, sz35, zr35, encRes, encI, ir_I, encS, enc1, encL, ir_Res]
        subst hK
        refine AW.ret ?_
        have hi : (keysL a b).length ≤ i := by simpa using hc26
        have : out = refL a b := by rw [hout, List.take_of_length_le hi]; rfl
        rw [if_pos ⟨hra, hrb⟩, ← this]
        exact fin_own (.inl rfl) rfl (upd_same ..) hn (hrows ▸ ir_Ch out) (by rw [hrows])
  · refine AW.reg ?_
    generalize hK : AW Try.prog _ _ _ = K
    simp only [go_sem, ↓reduceIte, reduceCtorEq, Nat.reduceAdd, Nat.reduceSub, Nat.reduceMul, Nat.reduceEqDiff, Nat.reduceLT, Nat.reduceLeDiff, Nat.reduceBEq, Int.reduceAdd, Int.reduceSub, Int.reduceLT, Int.reduceLE, Int.reduceEq, Int.reduceToNat, ag9, ag33, ag35, ap25_25, bd37, el25, el94, fl35_1, fl35_2, mk25, sz9, sz33, sz35, zr35, encRes, encI, ir_I, encS, enc1, encL, ir_Res, hra]
    refine arC.of (w18 a (by omega) hka) Try.call18 ?_
    simp only [go_sem, ↓reduceIte, reduceCtorEq, Nat.reduceAdd, Nat.reduceSub, Nat.reduceMul, Nat.reduceEqDiff, Nat.reduceLT, Nat.reduceLeDiff, Nat.reduceBEq, Int.reduceAdd, Int.reduceSub, Int.reduceLT, Int.reduceLE, Int.reduceEq, Int.reduceToNat, ag9, ag33, ag35, ap25_25, bd37, el25, el94, fl35_1, fl35_2, mk25, sz9, sz33, sz35, zr35, encRes, encI, ir_I, encS, enc1, encL, ir_Res, hra]
    subst hK
    refine AW.if rfl (fun hc19 => ?_) (fun hc19 => ?_)
    · refine AW.reg ?_
      generalize hK : AW Try.prog _ _ _ = K
      simp only [go_sem, ↓reduceIte, reduceCtorEq, Nat.reduceAdd, Nat.reduceSub, Nat.reduceMul, Nat.reduceEqDiff, Nat.reduceLT, Nat.reduceLeDiff, Nat.reduceBEq, Int.reduceAdd, Int.reduceSub, Int.reduceLT, Int.reduceLE, Int.reduceEq, Int.reduceToNat, ag9, ag33, ag35, ap25_25, bd37, el25, el94, fl35_1, fl35_2, mk25, sz9, sz33, sz35, zr35, encRes, encI, ir_I, encS, enc1, encL, ir_Res]
      subst hK
      refine AW.ent (Ent.nilOwn 4 4 (by decide) rfl) ?_
      refine AW.ret ?_
      refine thenA_r ?_
      rw [if_neg (fun h => hra h.1)]
      exact fin_own (.inl rfl) rfl (upd_same ..) rfl rfl rfl
    · cases hc19
end Go.Proofs.Y1
