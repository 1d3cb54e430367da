import Derived.Test.YtlonihmeikmpiaaGmY1C
set_option linter.all false
set_option linter.unusedVariables false
set_option linter.unusedSimpArgs false
set_option linter.unusedSimpArgs false
set_option linter.unusedVariables false
set_option maxRecDepth 8000
namespace Go.Proofs.Y1
open Go.Gm
def KeyS (l : List Res) : Prop := ∀ r ∈ l, r.key.size ≤ 1000000
theorem right_step {l : List Res} {j : Nat} {x y : Res} (hp : ∀ j' a b, j' + 1 < j + 1 → l[j']? = some a → l[j' + 1]? = some b → sLt a.key b.key = true) (hx : l[j]? = some x) (hy : l[j + 1]? = some y) (h : sLt x.key y.key = true) :
    ∀ j' a b, j' + 1 < j + 1 + 1 → l[j']? = some a → l[j' + 1]? = some b → sLt a.key b.key = true := by
  intro j' a' b' hj' ha' hb'
  by_cases hjj : j' = j
  · subst hjj; rw [hx] at ha'; rw [hy] at hb'; cases ha'; cases hb'; exact h
  · exact hp j' a' b' (by omega) ha' hb'
open Classical in
theorem w18 (l : List Res) (hl : l.length ≤ 34359738368) (hks : KeyS l) : PC Try.prog 18 [encL l] (B (decide (Right l))) := by
  refine pc_of (N := 23) (rs := [.tmp 2]) Try.func18 rfl rfl rfl (Nat.le_of_ble_eq_true rfl) ?_
  refine AW.reg ?_
  generalize hK : AW Try.prog _ _ _ = K
  simp only [go_sem, ↓reduceIte, reduceCtorEq, Nat.reduceAdd, Nat.reduceSub, Nat.reduceMul, Nat.reduceEqDiff, Nat.reduceLT, Nat.reduceLeDiff, Nat.reduceBEq, Int.reduceAdd, Int.reduceSub, Int.reduceLT, Int.reduceLE, Int.reduceEq, Int.reduceToNat, ag9, el22, fl35_0, sz9, sz35, encRes, encL]
  subst hK
  refine AW.seq ?_
  refine AW.reg ?_
  generalize hK : AW Try.prog _ _ _ = K
  simp only [go_sem, ↓reduceIte, reduceCtorEq, Nat.reduceAdd, Nat.reduceSub, Nat.reduceMul, Nat.reduceEqDiff, Nat.reduceLT, Nat.reduceLeDiff, Nat.reduceBEq, Int.reduceAdd, Int.reduceSub, Int.reduceLT, Int.reduceLE, Int.reduceEq, Int.reduceToNat, ag9, el22, fl35_0, sz9, sz35, encRes, encL]
  subst hK
  refine AW.block ?_
  refine AW.loop (fun k st => ∃ i nx, (0 ≤ k) ∧ (i + k = l.length + 1) ∧ (1 ≤ i) ∧ (∀ j a b, j + 1 < i → l[j]? = some a → l[j + 1]? = some b → sLt a.key b.key = true) ∧ st = ⟨(upd (upd anyF 0 (encL l)) 3 (I (i : Int))), fun _ => none, nx⟩) (l.length) _ (Ent.st (.put' (.put' .any rfl) rfl) .refl (Nat.le_refl _)) ⟨1, _, Nat.zero_le _, by omega, by omega, fun j a b hj _ _ => by omega, rfl⟩ ?_
  rintro k _ ⟨i, nx, _, hk, hi1, hp, rfl⟩
  refine AW.seq ?_
  refine AW.reg ?_
  generalize hK : AW Try.prog _ _ _ = K
  simp only [go_sem, ↓reduceIte, reduceCtorEq, Nat.reduceAdd, Nat.reduceSub, Nat.reduceMul, Nat.reduceEqDiff, Nat.reduceLT, Nat.reduceLeDiff, Nat.reduceBEq, Int.reduceAdd, Int.reduceSub, Int.reduceLT, Int.reduceLE, Int.reduceEq, Int.reduceToNat, ag9, el22, fl35_0, sz9, sz35, encRes, encL]
  subst hK
  refine AW.if rfl (fun hc7 => ?_) (fun hc7 => ?_)
  · have hi : i < l.length := by simpa using hc7
    obtain ⟨j, rfl⟩ : ∃ j, i = j + 1 := ⟨i - 1, by omega⟩
    obtain ⟨x, hx⟩ : ∃ x, l[j]? = some x := ⟨l[j], by simp [show j < l.length by omega]⟩
    obtain ⟨y, hy⟩ : ∃ y, l[j + 1]? = some y := ⟨l[j + 1], by simp [hi]⟩
    have h1 : IntKind.i64.wrap (((j + 1 : Nat) : Int) - 1) = (j : Int) := by rw [wrap_id] <;> omega
    have hxs := hks x (List.mem_of_getElem? hx)
    refine AW.skip ?_
    refine thenA_n ?_
    refine AW.seq ?_
    refine AW.block ?_
    refine AW.regd [[], [], [1], [0, 1, 2], [0, 1, 2, 3], [0, 1, 2, 3, 4], [], [], [6, 7], [6, 7, 8], [6, 7, 8, 9], [0, 1, 2, 3, 4, 5, 6, 7, 8, 9, 10], [0, 1, 2, 3, 4, 5, 6, 7, 8, 9, 10, 11]] [0, 1, 2, 3, 4, 5, 6, 7, 8, 9, 10, 11, 12] (tab [(70, [S x.key, S y.key], _)]) (tab_cons (w70 x.key y.key (by omega)) Try.call70 tab_nil) draws (by kernel_rfl) (by kernel_rfl) ?_
    generalize hK : AW Try.prog _ _ _ = K
    simp only [go_sem, ↓reduceIte, reduceCtorEq, Nat.reduceAdd, Nat.reduceSub, Nat.reduceMul, Nat.reduceEqDiff, Nat.reduceLT, Nat.reduceLeDiff, Nat.reduceBEq, Int.reduceAdd, Int.reduceSub, Int.reduceLT, Int.reduceLE, Int.reduceEq, Int.reduceToNat, ag9, el22, fl35_0, sz9, sz35, encRes, encL, h1, hx, hy]
    subst hK
    refine AW.if rfl (fun hc22 => ?_) (fun hc22 => ?_)
    · refine AW.reg ?_
      generalize hK : AW Try.prog _ _ _ = K
      simp only [go_sem, ↓reduceIte, reduceCtorEq, Nat.reduceAdd, Nat.reduceSub, Nat.reduceMul, Nat.reduceEqDiff, Nat.reduceLT, Nat.reduceLeDiff, Nat.reduceBEq, Int.reduceAdd, Int.reduceSub, Int.reduceLT, Int.reduceLE, Int.reduceEq, Int.reduceToNat, ag9, el22, fl35_0, sz9, sz35, encRes, encL]
      subst hK
      refine AW.ret ?_
      refine block_r ?_
      refine thenA_r ?_
      refine thenA_r ?_
      refine block_r ?_
      refine thenA_r ?_
      refine fin_val (.inl rfl) rfl ?_
      simp only [Bool.not_eq_true'] at hc22
      have : ¬ Right l := fun h => by have := h _ _ _ hx hy; rw [hc22] at this; cases this
      simp [this]
    · refine AW.skip ?_
      refine block_n ?_
      refine thenA_n ?_
      have h2 : IntKind.i64.wrap (((j + 1 : Nat) : Int) + 1) = ((j + 1 + 1 : Nat) : Int) := by rw [wrap_id] <;> omega
      refine AW.region ?_
      generalize hK : thenA _ _ Exit.normal = K
      simp only [go_sem, ↓reduceIte, reduceCtorEq, Nat.reduceAdd, Nat.reduceSub, Nat.reduceMul, Nat.reduceEqDiff, Nat.reduceLT, Nat.reduceLeDiff, Nat.reduceBEq, Int.reduceAdd, Int.reduceSub, Int.reduceLT, Int.reduceLE, Int.reduceEq, Int.reduceToNat, ag9, el22, fl35_0, sz9, sz35, encRes, encL, h2]
      subst hK
      refine thenA_n ?_
      refine ⟨k - 1, _, by omega, Ent.st (.put' (.put' .any rfl) rfl) .refl (Nat.le_refl _), j + 1 + 1, _, Nat.zero_le _, by omega, by omega, right_step hp hx hy (by simpa using hc22), rfl⟩
  · refine AW.exit ?_
    refine thenA_x ?_
    refine thenA_x ?_
    refine block_x ?_
    refine thenA_n ?_
    refine AW.reg ?_
    generalize hK : AW Try.prog _ _ _ = K
    simp only [go_sem, ↓reduceIte, reduceCtorEq, Nat.reduceAdd, Nat.reduceSub, Nat.reduceMul, Nat.reduceEqDiff, Nat.reduceLT, Nat.reduceLeDiff, Nat.reduceBEq, Int.reduceAdd, Int.reduceSub, Int.reduceLT, Int.reduceLE, Int.reduceEq, Int.reduceToNat, ag9, el22, fl35_0, sz9, sz35, encRes, encL]
    subst hK
    refine AW.ret ?_
    refine fin_val (.inl rfl) rfl ?_
    have hi : l.length ≤ i := by simpa using hc7
    have : Right l := fun j a b ha hb => hp j a b (by have := (List.getElem?_eq_some_iff.1 hb).1; omega) ha hb
    simp [this]
def getR (l : List Res) (s : ByteArray) : Option Res := l.find? fun r => decide (r.key = s)
def getX (o : Option Res) : AV := match o with
  | some r => .tup [.agg (encRes r), B true]
  | none => .tup [.agg [S ⟨#[]⟩, S ⟨#[]⟩, nilS], B false]
theorem get_at {l : List Res} {s : ByteArray} {i : Nat} {x : Res} (h : ∀ j r, j < i → l[j]? = some r → r.key ≠ s) (hx : l[i]? = some x) (hs : x.key = s) : getR l s = some x := by
  induction i generalizing l with
  | zero => cases l with
    | nil => simp at hx
    | cons a l => simp at hx; subst hx; simp [getR, hs]
  | succ i ih => cases l with
    | nil => simp at hx
    | cons a l =>
      have ha : a.key ≠ s := h 0 a (by omega) (by simp)
      have := ih (l := l) (fun j r hj hr => h (j + 1) r (by omega) (by simpa using hr)) (by simpa using hx)
      simpa [getR, ha] using this
theorem get_none {l : List Res} {s : ByteArray} (h : ∀ (j : Nat) (r : Res), l[j]? = some r → r.key ≠ s) : getR l s = none := by
  unfold getR
  rw [List.find?_eq_none]
  intro r hr
  obtain ⟨j, hj⟩ := List.getElem?_of_mem hr
  simpa using h j r hj
theorem w68 (l : List Res) (s : ByteArray) (hl : l.length ≤ 34359738368) : PC Try.prog 68 [encL l, S s] (getX (getR l s)) := by
  refine pc_of (N := 25) (rs := [.cell 4 35, .tmp 5]) Try.func68 rfl rfl rfl (Nat.le_of_ble_eq_true rfl) ?_
  refine AW.reg ?_
  generalize hK : AW Try.prog _ _ _ = K
  simp only [go_sem, ↓reduceIte, reduceCtorEq, Nat.reduceAdd, Nat.reduceSub, Nat.reduceMul, Nat.reduceEqDiff, Nat.reduceLT, Nat.reduceLeDiff, Nat.reduceBEq, Int.reduceAdd, Int.reduceSub, Int.reduceLT, Int.reduceLE, Int.reduceEq, Int.reduceToNat, ag9, ag35, bd35, el22, fl35_0, sz9, sz35, zr35, encRes, encL, encI, ir_I]
  subst hK
  refine AW.seq ?_
  refine AW.reg ?_
  generalize hK : AW Try.prog _ _ _ = K
  simp only [go_sem, ↓reduceIte, reduceCtorEq, Nat.reduceAdd, Nat.reduceSub, Nat.reduceMul, Nat.reduceEqDiff, Nat.reduceLT, Nat.reduceLeDiff, Nat.reduceBEq, Int.reduceAdd, Int.reduceSub, Int.reduceLT, Int.reduceLE, Int.reduceEq, Int.reduceToNat, ag9, ag35, bd35, el22, fl35_0, sz9, sz35, zr35, encRes, encL, encI, ir_I]
  subst hK
  refine AW.block ?_
  refine AW.loop (fun k st => ∃ i nx, (0 ≤ k) ∧ (i + k = l.length) ∧ (∀ j r, j < i → l[j]? = some r → r.key ≠ s) ∧ st = ⟨(upd (upd (upd (upd anyF 0 (encL l)) 1 (S s)) 4 (.ptr 0 0 0)) 6 (I (i : Int))), upd (fun _ => none) 0 (some (.row 3 true [[S ⟨#[]⟩, S ⟨#[]⟩, nilS]])), nx⟩) (l.length) _ (Ent.st (.put' (.put' (.put' (.put' .any rfl) rfl) rfl) rfl) .refl (Nat.le_refl _)) ⟨0, _, Nat.zero_le _, by simp, fun j r hj _ => by omega, rfl⟩ ?_
  rintro k _ ⟨i, nx, _, hk, hp, rfl⟩
  refine AW.seq ?_
  refine AW.reg ?_
  generalize hK : AW Try.prog _ _ _ = K
  simp only [go_sem, ↓reduceIte, reduceCtorEq, Nat.reduceAdd, Nat.reduceSub, Nat.reduceMul, Nat.reduceEqDiff, Nat.reduceLT, Nat.reduceLeDiff, Nat.reduceBEq, Int.reduceAdd, Int.reduceSub, Int.reduceLT, Int.reduceLE, Int.reduceEq, Int.reduceToNat, ag9, ag35, bd35, el22, fl35_0, sz9, sz35, zr35, encRes, encL, encI, ir_I]
  subst hK
  refine AW.if rfl (fun hc10 => ?_) (fun hc10 => ?_)
  · have hi : i < l.length := by simpa using hc10
    obtain ⟨x, hx⟩ : ∃ x, l[i]? = some x := ⟨l[i], by simp [hi]⟩
    refine AW.skip ?_
    refine thenA_n ?_
    refine AW.seq ?_
    refine AW.block ?_
    refine AW.reg ?_
    generalize hK : AW Try.prog _ _ _ = K
    simp only [go_sem, ↓reduceIte, reduceCtorEq, Nat.reduceAdd, Nat.reduceSub, Nat.reduceMul, Nat.reduceEqDiff, Nat.reduceLT, Nat.reduceLeDiff, Nat.reduceBEq, Int.reduceAdd, Int.reduceSub, Int.reduceLT, Int.reduceLE, Int.reduceEq, Int.reduceToNat, ag9, ag35, bd35, el22, fl35_0, sz9, sz35, zr35, encRes, encL, encI, ir_I, hx]
    subst hK
    refine AW.if rfl (fun hc19 => ?_) (fun hc19 => ?_)
    · refine AW.reg ?_
      generalize hK : AW Try.prog _ _ _ = K
      simp only [go_sem, ↓reduceIte, reduceCtorEq, Nat.reduceAdd, Nat.reduceSub, Nat.reduceMul, Nat.reduceEqDiff, Nat.reduceLT, Nat.reduceLeDiff, Nat.reduceBEq, Int.reduceAdd, Int.reduceSub, Int.reduceLT, Int.reduceLE, Int.reduceEq, Int.reduceToNat, ag9, ag35, bd35, el22, fl35_0, sz9, sz35, zr35, encRes, encL, encI, ir_I, hx]
      subst hK
      refine AW.ret ?_
      refine block_r ?_
      refine thenA_r ?_
      refine thenA_r ?_
      refine block_r ?_
      refine thenA_r ?_
      rw [get_at hp hx (by simpa using hc19)]
      simp only [go_sem, ↓reduceIte, reduceCtorEq, Nat.reduceAdd, Nat.reduceSub, Nat.reduceMul, Nat.reduceEqDiff, Nat.reduceLT, Nat.reduceLeDiff, Nat.reduceBEq, Int.reduceAdd, Int.reduceSub, Int.reduceLT, Int.reduceLE, Int.reduceEq, Int.reduceToNat, finA, resA, resOf_1, resOf_2, sealV_val, sealV_sl, sealV_ip, sealV_agg, sealV_tup, sealV_own, sealL_nil, sealL_cons, ir_I, encRes, encI, ag9, ag35, bd35, el22, fl35_0, sz9, sz35, zr35, encRes, encL, encI, ir_I]
      simp [getX, encRes, encI]
    · refine AW.skip ?_
      refine block_n ?_
      refine thenA_n ?_
      have h2 : IntKind.i64.wrap ((i : Int) + 1) = ((i + 1 : Nat) : Int) := by rw [wrap_id] <;> omega
      refine AW.region ?_
      generalize hK : thenA _ _ Exit.normal = K
      simp only [go_sem, ↓reduceIte, reduceCtorEq, Nat.reduceAdd, Nat.reduceSub, Nat.reduceMul, Nat.reduceEqDiff, Nat.reduceLT, Nat.reduceLeDiff, Nat.reduceBEq, Int.reduceAdd, Int.reduceSub, Int.reduceLT, Int.reduceLE, Int.reduceEq, Int.reduceToNat, ag9, ag35, bd35, el22, fl35_0, sz9, sz35, zr35, encRes, encL, encI, ir_I, h2]
      subst hK
      refine thenA_n ?_
      refine ⟨k - 1, _, by omega, Ent.st (.put' (.put' (.put' (.put' .any rfl) rfl) rfl) rfl) .refl (Nat.le_refl _), i + 1, _, Nat.zero_le _, by omega, ?_, rfl⟩
      intro j r hj hr
      by_cases hji : j = i
      · subst hji; rw [hx] at hr; cases hr; simpa using hc19
      · exact hp j r (by omega) hr
  · have hi : l.length ≤ i := by simpa using hc10
    refine AW.exit ?_
    refine thenA_x ?_
    refine thenA_x ?_
    refine block_x ?_
    refine thenA_n ?_
    refine AW.reg ?_
    generalize hK : AW Try.prog _ _ _ = K
    simp only [go_sem, ↓reduceIte, reduceCtorEq, Nat.reduceAdd, Nat.reduceSub, Nat.reduceMul, Nat.reduceEqDiff, Nat.reduceLT, Nat.reduceLeDiff, Nat.reduceBEq, Int.reduceAdd, Int.reduceSub, Int.reduceLT, Int.reduceLE, Int.reduceEq, Int.reduceToNat, ag9, ag35, bd35, el22, fl35_0, sz9, sz35, zr35, encRes, encL, encI, ir_I]
    subst hK
    refine AW.ret ?_
    rw [get_none fun j r hr => hp j r (by have := (List.getElem?_eq_some_iff.1 hr).1; omega) hr]
    simp only [go_sem, ↓reduceIte, reduceCtorEq, Nat.reduceAdd, Nat.reduceSub, Nat.reduceMul, Nat.reduceEqDiff, Nat.reduceLT, Nat.reduceLeDiff, Nat.reduceBEq, Int.reduceAdd, Int.reduceSub, Int.reduceLT, Int.reduceLE, Int.reduceEq, Int.reduceToNat, finA, resA, resOf_1, resOf_2, sealV_val, sealV_sl, sealV_ip, sealV_agg, sealV_tup, sealV_own, sealL_nil, sealL_cons, ir_I, encRes, encI, ag9, ag35, bd35, el22, fl35_0, sz9, sz35, zr35, encRes, encL, encI, ir_I]
    simp [getX]
end Go.Proofs.Y1
