import Derived.Test.YtlonihmeikmpiaaGmY1D
set_option linter.all false
set_option linter.unusedVariables false
set_option linter.unusedSimpArgs false
set_option linter.unusedSimpArgs false
set_option linter.unusedVariables false
set_option maxRecDepth 8000
namespace Go.Proofs.Y1
open Go.Gm
def enc1 (s : ByteArray) : List AV := [S s]
def encS (l : List ByteArray) : AV := .sl (l.map enc1)
theorem inl_1 (s : ByteArray) : inlL (enc1 s) = true := by simp [enc1, inlL, inl]
theorem ml_1 (l : List ByteArray) : (∀ r ∈ l.map enc1, r.length = 1) = True := forall_map (f := enc1) (fun _ => rfl) l
theorem ir_1 (l : List ByteArray) : inlR (l.map enc1) = true := inlR_map inl_1 l
def addS (s : ByteArray) : List ByteArray → List ByteArray
  | [] => [s]
  | x :: l => if sLt x s = true then x :: addS s l else if x = s then x :: l else s :: x :: l
theorem addS_there {s : ByteArray} {l : List ByteArray} {i : Nat} (h : ∀ j x, j < i → l[j]? = some x → sLt x s = true) (hs : l[i]? = some s) : addS s l = l := by
  induction i generalizing l with
  | zero => cases l with
    | nil => simp at hs
    | cons a l => simp at hs; subst hs; simp [addS, sLt_irr]
  | succ i ih => cases l with
    | nil => simp at hs
    | cons a l =>
      have ha := h 0 a (by omega) (by simp)
      simp only [addS, ha, if_true]
      rw [ih (fun j x hj hx => h (j + 1) x (by omega) (by simpa using hx)) (by simpa using hs)]
theorem addS_new {s : ByteArray} {l : List ByteArray} {i : Nat} (h : ∀ j x, j < i → l[j]? = some x → sLt x s = true) (hi : i ≤ l.length) (hn : ∀ x, l[i]? = some x → sLt x s = false ∧ x ≠ s) : addS s l = l.take i ++ s :: l.drop i := by
  induction i generalizing l with
  | zero => cases l with
    | nil => simp [addS]
    | cons a l =>
      obtain ⟨h1, h2⟩ := hn a (by simp)
      simp [addS, h1, h2]
  | succ i ih => cases l with
    | nil => simp at hi
    | cons a l =>
      have ha := h 0 a (by omega) (by simp)
      simp only [addS, ha, if_true]
      rw [ih (fun j x hj hx => h (j + 1) x (by omega) (by simpa using hx)) (by simpa using hi) (fun x hx => hn x (by simpa using hx))]
      simp
theorem cut_t {hp : AHeap} {l : List ByteArray} {n : Nat} (hn : n ≤ l.length) : cutS Try.prog hp 94 (.sl (l.map enc1)) none (some (.val (.int .i64 (n : Int)))) = some (.sl ((l.take n).map enc1)) := by
  rw [cut_take el94 sz9 (of_eq_true (ml_1 l)) (by simpa using hn), List.map_take]
theorem cut_d {hp : AHeap} {l : List ByteArray} {n : Nat} (hn : n ≤ l.length) : cutS Try.prog hp 94 (.sl (l.map enc1)) (some (.val (.int .i64 (n : Int)))) none = some (.sl ((l.drop n).map enc1)) := by
  rw [cut_drop el94 sz9 (of_eq_true (ml_1 l)) (by simpa using hn), List.map_drop]
def SzS (l : List ByteArray) : Prop := ∀ x ∈ l, x.size ≤ 1000000
theorem w104 (l : List ByteArray) (s : ByteArray) (hl : l.length ≤ 1000000000) (hks : SzS l) : PC Try.prog 104 [encS l, S s] (encS (addS s l)) := by
  refine pc_of (N := 48) (rs := [.tmp 4]) Try.func104 rfl rfl rfl (Nat.le_of_ble_eq_true rfl) ?_
  refine AW.reg ?_
  generalize hK : AW Try.prog _ _ _ = K
  simp only [go_sem, ↓reduceIte, reduceCtorEq, Nat.reduceAdd, Nat.reduceSub, Nat.reduceMul, Nat.reduceEqDiff, Nat.reduceLT, Nat.reduceLeDiff, Nat.reduceBEq, Int.reduceAdd, Int.reduceSub, Int.reduceLT, Int.reduceLE, Int.reduceEq, Int.reduceToNat, ag9, ap94_94, el94, mk94, sz9, encS, enc1, ml_1, ir_1]
  subst hK
  refine AW.reg ?_
  generalize hK : AW Try.prog _ _ _ = K
  simp only [go_sem, ↓reduceIte, reduceCtorEq, Nat.reduceAdd, Nat.reduceSub, Nat.reduceMul, Nat.reduceEqDiff, Nat.reduceLT, Nat.reduceLeDiff, Nat.reduceBEq, Int.reduceAdd, Int.reduceSub, Int.reduceLT, Int.reduceLE, Int.reduceEq, Int.reduceToNat, ag9, ap94_94, el94, mk94, sz9, encS, enc1, ml_1, ir_1]
  subst hK
  refine AW.seq ?_
  refine AW.block ?_
  refine AW.loop (fun k st => ∃ i nx, (0 ≤ k) ∧ (i + k = l.length) ∧ (∀ j x, j < i → l[j]? = some x → sLt x s = true) ∧ st = ⟨(upd (upd (upd anyF 0 (encS l)) 1 (S s)) 5 (I (i : Int))), fun _ => none, nx⟩) (l.length) _ (Ent.st (.put' (.put' (.put' .any rfl) rfl) rfl) .refl (Nat.le_refl _)) ⟨0, _, Nat.zero_le _, by simp, fun j x hj _ => by omega, rfl⟩ ?_
  rintro k _ ⟨i, nx, _, hk, hp, rfl⟩
  refine AW.seq ?_
  by_cases hi : i < l.length
  · obtain ⟨x, hx⟩ : ∃ x, l[i]? = some x := ⟨l[i], by simp [hi]⟩
    have hi' : ((i : Int) < (l.length : Int)) = True := eq_true (by omega)
    have hxs := hks x (List.mem_of_getElem? hx)
    refine AW.reg ?_
    generalize hK : AW Try.prog _ _ _ = K
    simp only [go_sem, ↓reduceIte, reduceCtorEq, Nat.reduceAdd, Nat.reduceSub, Nat.reduceMul, Nat.reduceEqDiff, Nat.reduceLT, Nat.reduceLeDiff, Nat.reduceBEq, Int.reduceAdd, Int.reduceSub, Int.reduceLT, Int.reduceLE, Int.reduceEq, Int.reduceToNat, ag9, ap94_94, el94, mk94, sz9, encS, enc1, ml_1, ir_1, hi', hx]
    refine arC.of (w70 x s (by omega)) Try.call70 ?_
    simp only [go_sem, ↓reduceIte, reduceCtorEq, Nat.reduceAdd, Nat.reduceSub, Nat.reduceMul, Nat.reduceEqDiff, Nat.reduceLT, Nat.reduceLeDiff, Nat.reduceBEq, Int.reduceAdd, Int.reduceSub, Int.reduceLT, Int.reduceLE, Int.reduceEq, Int.reduceToNat, ag9, ap94_94, el94, mk94, sz9, encS, enc1, ml_1, ir_1, hi', hx]
    subst hK
    refine AW.if rfl (fun hc18 => ?_) (fun hc18 => ?_)
    · refine AW.skip ?_
      refine thenA_n ?_
      refine AW.block ?_
      have h2 : IntKind.i64.wrap ((i : Int) + 1) = ((i + 1 : Nat) : Int) := by rw [wrap_id] <;> omega
      refine AW.region ?_
      generalize hK : inBlockA _ _ Exit.normal = K
      simp only [go_sem, ↓reduceIte, reduceCtorEq, Nat.reduceAdd, Nat.reduceSub, Nat.reduceMul, Nat.reduceEqDiff, Nat.reduceLT, Nat.reduceLeDiff, Nat.reduceBEq, Int.reduceAdd, Int.reduceSub, Int.reduceLT, Int.reduceLE, Int.reduceEq, Int.reduceToNat, ag9, ap94_94, el94, mk94, sz9, encS, enc1, ml_1, ir_1, h2]
      subst hK
      refine block_n ?_
      refine thenA_n ?_
      refine ⟨k - 1, _, by omega, Ent.st (.put' (.put' (.put' .any rfl) rfl) rfl) .refl (Nat.le_refl _), i + 1, _, Nat.zero_le _, by omega, ?_, rfl⟩
      intro j y hj hy
      by_cases hji : j = i
      · subst hji; rw [hx] at hy; cases hy; exact hc18
      · exact hp j y (by omega) hy
    · refine AW.exit ?_
      refine thenA_x ?_
      refine thenA_x ?_
      refine block_x ?_
      refine thenA_n ?_
      refine AW.seq ?_
      refine AW.reg ?_
      generalize hK : AW Try.prog _ _ _ = K
      simp only [go_sem, ↓reduceIte, reduceCtorEq, Nat.reduceAdd, Nat.reduceSub, Nat.reduceMul, Nat.reduceEqDiff, Nat.reduceLT, Nat.reduceLeDiff, Nat.reduceBEq, Int.reduceAdd, Int.reduceSub, Int.reduceLT, Int.reduceLE, Int.reduceEq, Int.reduceToNat, ag9, ap94_94, el94, mk94, sz9, encS, enc1, ml_1, ir_1, hi', hx]
      subst hK
      refine AW.if rfl (fun hc32 => ?_) (fun hc32 => ?_)
      · refine AW.reg ?_
        generalize hK : AW Try.prog _ _ _ = K
        simp only [go_sem, ↓reduceIte, reduceCtorEq, Nat.reduceAdd, Nat.reduceSub, Nat.reduceMul, Nat.reduceEqDiff, Nat.reduceLT, Nat.reduceLeDiff, Nat.reduceBEq, Int.reduceAdd, Int.reduceSub, Int.reduceLT, Int.reduceLE, Int.reduceEq, Int.reduceToNat, ag9, ap94_94, el94, mk94, sz9, encS, enc1, ml_1, ir_1]
        subst hK
        refine AW.ret ?_
        refine thenA_r ?_
        have hxs' : x = s := by simpa using hc32
        rw [addS_there hp (hxs' ▸ hx)]
        exact fin_of (.inl rfl) rfl (by simp only [resOf_1, upd_ap, reduceIte, sealV_sl, ir_1]; rfl) List.nodup_nil rfl
      · have hxs' : x ≠ s := by simpa using hc32
        have hnew := addS_new hp (by omega) (fun y hy => by rw [hx] at hy; cases hy; exact ⟨hc18, hxs'⟩)
        refine AW.skip ?_
        refine thenA_n ?_
        have hil : i ≤ l.length := by omega
        have hct : ∀ hp, cutS Try.prog hp 94 (.sl (l.map enc1)) none (some (.val (.int .i64 (i : Int)))) = some (.sl ((l.take i).map enc1)) := fun hp => cut_t hil
        have hcd : ∀ hp, cutS Try.prog hp 94 (.sl (l.map enc1)) (some (.val (.int .i64 (i : Int)))) none = some (.sl ((l.drop i).map enc1)) := fun hp => cut_d hil
        have hlt : (l.take i).length = i := by simp; omega
        have hdl : (l.drop i).length = l.length - i := by simp
        refine AW.reg ?_
        generalize hK : AW Try.prog _ _ _ = K
        simp (disch := first | omega | (simp only [List.length_map, List.length_cons, List.length_nil, List.length_append] <;> omega)) only [go_sem, ↓reduceIte, reduceCtorEq, Nat.reduceAdd, Nat.reduceSub, Nat.reduceMul, Nat.reduceEqDiff, Nat.reduceLT, Nat.reduceLeDiff, Nat.reduceBEq, Int.reduceAdd, Int.reduceSub, Int.reduceLT, Int.reduceLE, Int.reduceEq, Int.reduceToNat, ag9, ap94_94, el94, mk94, sz9, encS, enc1, ml_1, ir_1, hct, List.length_map, hlt]
        subst hK
        refine AW.reg ?_
        generalize hK : AW Try.prog _ _ _ = K
        simp (disch := first | omega | (simp only [List.length_map, List.length_cons, List.length_nil, List.length_append] <;> omega)) only [go_sem, ↓reduceIte, reduceCtorEq, Nat.reduceAdd, Nat.reduceSub, Nat.reduceMul, Nat.reduceEqDiff, Nat.reduceLT, Nat.reduceLeDiff, Nat.reduceBEq, Int.reduceAdd, Int.reduceSub, Int.reduceLT, Int.reduceLE, Int.reduceEq, Int.reduceToNat, ag9, ap94_94, el94, mk94, sz9, encS, enc1, ml_1, ir_1, hlt, List.length_map, Nat.add_assoc]
        subst hK
        refine AW.reg ?_
        generalize hK : AW Try.prog _ _ _ = K
        simp (disch := first | omega | (simp only [List.length_map, List.length_cons, List.length_nil, List.length_append] <;> omega)) only [go_sem, ↓reduceIte, reduceCtorEq, Nat.reduceAdd, Nat.reduceSub, Nat.reduceMul, Nat.reduceEqDiff, Nat.reduceLT, Nat.reduceLeDiff, Nat.reduceBEq, Int.reduceAdd, Int.reduceSub, Int.reduceLT, Int.reduceLE, Int.reduceEq, Int.reduceToNat, ag9, ap94_94, el94, mk94, sz9, encS, enc1, ml_1, ir_1, hcd, hlt, List.length_map, List.length_drop, List.length_append, Nat.add_assoc]
        subst hK
        refine AW.ent (Ent.still 4 rfl (own_sl (sz := 1) (m := true) (rows := (addS s l).map enc1) ?_ ?_ (ir_1 _))) ?_
        · rw [upd_same, hnew]; simp [enc1]
        · rw [hnew]; simp; omega
        refine AW.ret ?_
        exact fin_of (.inl rfl) rfl (by simp only [resOf_1, upd_ap, reduceIte, sealV_sl, ir_1]; rfl) List.nodup_nil rfl
  · have hi' : ((i : Int) < (l.length : Int)) = False := eq_false (by omega)
    refine AW.reg ?_
    generalize hK : AW Try.prog _ _ _ = K
    simp only [go_sem, ↓reduceIte, reduceCtorEq, Nat.reduceAdd, Nat.reduceSub, Nat.reduceMul, Nat.reduceEqDiff, Nat.reduceLT, Nat.reduceLeDiff, Nat.reduceBEq, Int.reduceAdd, Int.reduceSub, Int.reduceLT, Int.reduceLE, Int.reduceEq, Int.reduceToNat, ag9, ap94_94, el94, mk94, sz9, encS, enc1, ml_1, ir_1, hi']
    subst hK
    refine AW.if rfl (fun hc18 => ?_) (fun hc18 => ?_)
    · cases hc18
    · refine AW.exit ?_
      refine thenA_x ?_
      refine thenA_x ?_
      refine block_x ?_
      refine thenA_n ?_
      refine AW.seq ?_
      refine AW.reg ?_
      generalize hK : AW Try.prog _ _ _ = K
      simp only [go_sem, ↓reduceIte, reduceCtorEq, Nat.reduceAdd, Nat.reduceSub, Nat.reduceMul, Nat.reduceEqDiff, Nat.reduceLT, Nat.reduceLeDiff, Nat.reduceBEq, Int.reduceAdd, Int.reduceSub, Int.reduceLT, Int.reduceLE, Int.reduceEq, Int.reduceToNat, ag9, ap94_94, el94, mk94, sz9, encS, enc1, ml_1, ir_1, hi']
      subst hK
      refine AW.if rfl (fun hc32 => ?_) (fun hc32 => ?_)
      · cases hc32
      · have hnew := addS_new (s := s) hp (by omega) (fun y hy => by have := (List.getElem?_eq_some_iff.1 hy).1; omega)
        refine AW.skip ?_
        refine thenA_n ?_
        have hil : i ≤ l.length := by omega
        have hct : ∀ hp, cutS Try.prog hp 94 (.sl (l.map enc1)) none (some (.val (.int .i64 (i : Int)))) = some (.sl ((l.take i).map enc1)) := fun hp => cut_t hil
        have hcd : ∀ hp, cutS Try.prog hp 94 (.sl (l.map enc1)) (some (.val (.int .i64 (i : Int)))) none = some (.sl ((l.drop i).map enc1)) := fun hp => cut_d hil
        have hlt : (l.take i).length = i := by simp; omega
        have hdl : (l.drop i).length = l.length - i := by simp
        refine AW.reg ?_
        generalize hK : AW Try.prog _ _ _ = K
        simp (disch := first | omega | (simp only [List.length_map, List.length_cons, List.length_nil, List.length_append] <;> omega)) only [go_sem, ↓reduceIte, reduceCtorEq, Nat.reduceAdd, Nat.reduceSub, Nat.reduceMul, Nat.reduceEqDiff, Nat.reduceLT, Nat.reduceLeDiff, Nat.reduceBEq, Int.reduceAdd, Int.reduceSub, Int.reduceLT, Int.reduceLE, Int.reduceEq, Int.reduceToNat, ag9, ap94_94, el94, mk94, sz9, encS, enc1, ml_1, ir_1, hct, List.length_map, hlt]
        subst hK
        refine AW.reg ?_
        generalize hK : AW Try.prog _ _ _ = K
        simp (disch := first | omega | (simp only [List.length_map, List.length_cons, List.length_nil, List.length_append] <;> omega)) only [go_sem, ↓reduceIte, reduceCtorEq, Nat.reduceAdd, Nat.reduceSub, Nat.reduceMul, Nat.reduceEqDiff, Nat.reduceLT, Nat.reduceLeDiff, Nat.reduceBEq, Int.reduceAdd, Int.reduceSub, Int.reduceLT, Int.reduceLE, Int.reduceEq, Int.reduceToNat, ag9, ap94_94, el94, mk94, sz9, encS, enc1, ml_1, ir_1, hlt, List.length_map, Nat.add_assoc]
        subst hK
        refine AW.reg ?_
        generalize hK : AW Try.prog _ _ _ = K
        simp (disch := first | omega | (simp only [List.length_map, List.length_cons, List.length_nil, List.length_append] <;> omega)) only [go_sem, ↓reduceIte, reduceCtorEq, Nat.reduceAdd, Nat.reduceSub, Nat.reduceMul, Nat.reduceEqDiff, Nat.reduceLT, Nat.reduceLeDiff, Nat.reduceBEq, Int.reduceAdd, Int.reduceSub, Int.reduceLT, Int.reduceLE, Int.reduceEq, Int.reduceToNat, ag9, ap94_94, el94, mk94, sz9, encS, enc1, ml_1, ir_1, hcd, hlt, List.length_map, List.length_drop, List.length_append, Nat.add_assoc]
        subst hK
        refine AW.ent (Ent.still 4 rfl (own_sl (sz := 1) (m := true) (rows := (addS s l).map enc1) ?_ ?_ (ir_1 _))) ?_
        · rw [upd_same, hnew]; simp [enc1]
        · rw [hnew]; simp; omega
        refine AW.ret ?_
        exact fin_of (.inl rfl) rfl (by simp only [resOf_1, upd_ap, reduceIte, sealV_sl, ir_1]; rfl) List.nodup_nil rfl
def keysL (a b : List Res) : List ByteArray := (b.map (·.key)).foldl (fun l s => addS s l) ((a.map (·.key)).foldl (fun l s => addS s l) [])
theorem addS_len (s : ByteArray) (l : List ByteArray) : (addS s l).length ≤ l.length + 1 := by
  induction l with
  | nil => simp [addS]
  | cons x l ih =>
    simp only [addS]
    split
    · simp; omega
    · split <;> simp
theorem addS_mem {s x : ByteArray} {l : List ByteArray} : x ∈ addS s l ↔ x = s ∨ x ∈ l := by
  induction l with
  | nil => simp [addS]
  | cons y l ih =>
    simp only [addS]
    split
    · simp only [List.mem_cons, ih]; constructor <;> (intro h; rcases h with h | h | h <;> simp [h])
    · split
      · rename_i h; subst h; simp
      · simp
theorem SzS_add {s : ByteArray} {l : List ByteArray} (h : SzS l) (hs : s.size ≤ 1000000) : SzS (addS s l) := fun x hx => by
  rcases addS_mem.1 hx with rfl | hx
  · exact hs
  · exact h x hx
theorem fold_next {f : List ByteArray → ByteArray → List ByteArray} {l : List Res} {i : Nat} {x : Res} {z : List ByteArray} (hx : l[i]? = some x) : ((l.take (i + 1)).map (·.key)).foldl f z = f (((l.take i).map (·.key)).foldl f z) x.key := by
  rw [List.take_add_one, hx]; simp
theorem w67 (a b : List Res) (hl : a.length + b.length ≤ 1000000) (hka : KeyS a) (hkb : KeyS b) : PC Try.prog 67 [encL a, encL b] (encS (keysL a b)) := by
  refine pc_of (N := 35) (rs := [.tmp 4]) Try.func67 rfl rfl rfl (Nat.le_of_ble_eq_true rfl) ?_
  refine AW.reg ?_
  generalize hK : AW Try.prog _ _ _ = K
  simp only [go_sem, ↓reduceIte, reduceCtorEq, Nat.reduceAdd, Nat.reduceSub, Nat.reduceMul, Nat.reduceEqDiff, Nat.reduceLT, Nat.reduceLeDiff, Nat.reduceBEq, Int.reduceAdd, Int.reduceSub, Int.reduceLT, Int.reduceLE, Int.reduceEq, Int.reduceToNat, ag9, el22, fl35_0, sz9, sz35, encL, encS, encRes, ir_1]
  subst hK
  refine AW.reg ?_
  generalize hK : AW Try.prog _ _ _ = K
  simp only [go_sem, ↓reduceIte, reduceCtorEq, Nat.reduceAdd, Nat.reduceSub, Nat.reduceMul, Nat.reduceEqDiff, Nat.reduceLT, Nat.reduceLeDiff, Nat.reduceBEq, Int.reduceAdd, Int.reduceSub, Int.reduceLT, Int.reduceLE, Int.reduceEq, Int.reduceToNat, ag9, el22, fl35_0, sz9, sz35, encL, encS, encRes, ir_1]
  subst hK
  refine AW.seq ?_
  refine AW.reg ?_
  generalize hK : AW Try.prog _ _ _ = K
  simp only [go_sem, ↓reduceIte, reduceCtorEq, Nat.reduceAdd, Nat.reduceSub, Nat.reduceMul, Nat.reduceEqDiff, Nat.reduceLT, Nat.reduceLeDiff, Nat.reduceBEq, Int.reduceAdd, Int.reduceSub, Int.reduceLT, Int.reduceLE, Int.reduceEq, Int.reduceToNat, ag9, el22, fl35_0, sz9, sz35, encL, encS, encRes, ir_1]
  subst hK
  refine AW.block ?_
  refine AW.loop (fun k st => ∃ i acc nx, (0 ≤ k) ∧ (i + k = a.length) ∧ (acc = ((a.take i).map (·.key)).foldl (fun l s => addS s l) []) ∧ (acc.length ≤ 0 + i) ∧ (SzS acc) ∧ st = ⟨(upd (upd (upd (upd anyF 0 (encL a)) 1 (encL b)) 5 (encS acc)) 6 (I (i : Int))), fun _ => none, nx⟩) (a.length) _ (Ent.w (.put' (.putN (.put' (.put' .any rfl) rfl) rfl) rfl)) ⟨0, [], _, Nat.zero_le _, by simp, by simp, by simp, fun x hx => by simp at hx, rfl⟩ ?_
  rintro k _ ⟨i, acc, nx, _, hk, hacc, hal, hsz, rfl⟩
  refine AW.seq ?_
  refine AW.reg ?_
  generalize hK : AW Try.prog _ _ _ = K
  simp only [go_sem, ↓reduceIte, reduceCtorEq, Nat.reduceAdd, Nat.reduceSub, Nat.reduceMul, Nat.reduceEqDiff, Nat.reduceLT, Nat.reduceLeDiff, Nat.reduceBEq, Int.reduceAdd, Int.reduceSub, Int.reduceLT, Int.reduceLE, Int.reduceEq, Int.reduceToNat, ag9, el22, fl35_0, sz9, sz35, encL, encS, encRes, ir_1]
  subst hK
  refine AW.if rfl (fun hc11 => ?_) (fun hc11 => ?_)
  · have hi : i < a.length := by simpa using hc11
    obtain ⟨x, hx⟩ : ∃ x, a[i]? = some x := ⟨a[i], by simp [hi]⟩
    have hxs := hka x (List.mem_of_getElem? hx)
    refine AW.skip ?_
    refine thenA_n ?_
    refine AW.seq ?_
    refine AW.block ?_
    refine AW.region ?_
    generalize hK : inBlockA _ _ Exit.normal = K
    simp only [go_sem, ↓reduceIte, reduceCtorEq, Nat.reduceAdd, Nat.reduceSub, Nat.reduceMul, Nat.reduceEqDiff, Nat.reduceLT, Nat.reduceLeDiff, Nat.reduceBEq, Int.reduceAdd, Int.reduceSub, Int.reduceLT, Int.reduceLE, Int.reduceEq, Int.reduceToNat, ag9, el22, fl35_0, sz9, sz35, encL, encS, encRes, ir_1, hx]
    refine arC.of (w104 acc x.key (by omega) hsz) Try.call104 ?_
    simp only [go_sem, ↓reduceIte, reduceCtorEq, Nat.reduceAdd, Nat.reduceSub, Nat.reduceMul, Nat.reduceEqDiff, Nat.reduceLT, Nat.reduceLeDiff, Nat.reduceBEq, Int.reduceAdd, Int.reduceSub, Int.reduceLT, Int.reduceLE, Int.reduceEq, Int.reduceToNat, ag9, el22, fl35_0, sz9, sz35, encL, encS, encRes, ir_1, hx]
    subst hK
    refine block_n ?_
    refine thenA_n ?_
    have h2 : IntKind.i64.wrap ((i : Int) + 1) = ((i + 1 : Nat) : Int) := by rw [wrap_id] <;> omega
    refine AW.region ?_
    generalize hK : thenA _ _ Exit.normal = K
    simp only [go_sem, ↓reduceIte, reduceCtorEq, Nat.reduceAdd, Nat.reduceSub, Nat.reduceMul, Nat.reduceEqDiff, Nat.reduceLT, Nat.reduceLeDiff, Nat.reduceBEq, Int.reduceAdd, Int.reduceSub, Int.reduceLT, Int.reduceLE, Int.reduceEq, Int.reduceToNat, ag9, el22, fl35_0, sz9, sz35, encL, encS, encRes, ir_1, h2]
    subst hK
    refine thenA_n ?_
    refine ⟨k - 1, _, by omega, Ent.st (.put' (.put' (.put' (.put' .any rfl) rfl) rfl) rfl) .refl (Nat.le_refl _), i + 1, addS x.key acc, _, Nat.zero_le _, by omega, by rw [fold_next hx, hacc], by have := addS_len x.key acc; omega, SzS_add hsz hxs, rfl⟩
  · have hi : a.length ≤ i := by simpa using hc11
    have hacc' : acc = (a.map (·.key)).foldl (fun l s => addS s l) [] := by rw [hacc, List.take_of_length_le hi]
    clear hacc
    refine AW.exit ?_
    refine thenA_x ?_
    refine thenA_x ?_
    refine block_x ?_
    refine thenA_n ?_
    refine AW.seq ?_
    refine AW.reg ?_
    generalize hK : AW Try.prog _ _ _ = K
    simp only [go_sem, ↓reduceIte, reduceCtorEq, Nat.reduceAdd, Nat.reduceSub, Nat.reduceMul, Nat.reduceEqDiff, Nat.reduceLT, Nat.reduceLeDiff, Nat.reduceBEq, Int.reduceAdd, Int.reduceSub, Int.reduceLT, Int.reduceLE, Int.reduceEq, Int.reduceToNat, ag9, el22, fl35_0, sz9, sz35, encL, encS, encRes, ir_1]
    subst hK
    refine AW.block ?_
    refine AW.loop (fun k st => ∃ i acc nx, (0 ≤ k) ∧ (i + k = b.length) ∧ (acc = ((b.take i).map (·.key)).foldl (fun l s => addS s l) ((a.map (·.key)).foldl (fun l s => addS s l) [])) ∧ (acc.length ≤ a.length + i) ∧ (SzS acc) ∧ st = ⟨(upd (upd (upd (upd anyF 0 (encL a)) 1 (encL b)) 5 (encS acc)) 7 (I (i : Int))), fun _ => none, nx⟩) (b.length) _ (Ent.st (.put' (.put' (.put' (.put' .any rfl) rfl) rfl) rfl) .refl (Nat.le_refl _)) ⟨0, acc, _, Nat.zero_le _, by simp, by simp [hacc'], by omega, hsz, rfl⟩ ?_
    rintro k _ ⟨i, acc, nx, _, hk, hacc, hal, hsz, rfl⟩
    refine AW.seq ?_
    refine AW.reg ?_
    generalize hK : AW Try.prog _ _ _ = K
    simp only [go_sem, ↓reduceIte, reduceCtorEq, Nat.reduceAdd, Nat.reduceSub, Nat.reduceMul, Nat.reduceEqDiff, Nat.reduceLT, Nat.reduceLeDiff, Nat.reduceBEq, Int.reduceAdd, Int.reduceSub, Int.reduceLT, Int.reduceLE, Int.reduceEq, Int.reduceToNat, ag9, el22, fl35_0, sz9, sz35, encL, encS, encRes, ir_1]
    subst hK
    refine AW.if rfl (fun hc24 => ?_) (fun hc24 => ?_)
    · have hi : i < b.length := by simpa using hc24
      obtain ⟨x, hx⟩ : ∃ x, b[i]? = some x := ⟨b[i], by simp [hi]⟩
      have hxs := hkb x (List.mem_of_getElem? hx)
      refine AW.skip ?_
      refine thenA_n ?_
      refine AW.seq ?_
      refine AW.block ?_
      refine AW.region ?_
      generalize hK : inBlockA _ _ Exit.normal = K
      simp only [go_sem, ↓reduceIte, reduceCtorEq, Nat.reduceAdd, Nat.reduceSub, Nat.reduceMul, Nat.reduceEqDiff, Nat.reduceLT, Nat.reduceLeDiff, Nat.reduceBEq, Int.reduceAdd, Int.reduceSub, Int.reduceLT, Int.reduceLE, Int.reduceEq, Int.reduceToNat, ag9, el22, fl35_0, sz9, sz35, encL, encS, encRes, ir_1, hx]
      refine arC.of (w104 acc x.key (by omega) hsz) Try.call104 ?_
      simp only [go_sem, ↓reduceIte, reduceCtorEq, Nat.reduceAdd, Nat.reduceSub, Nat.reduceMul, Nat.reduceEqDiff, Nat.reduceLT, Nat.reduceLeDiff, Nat.reduceBEq, Int.reduceAdd, Int.reduceSub, Int.reduceLT, Int.reduceLE, Int.reduceEq, Int.reduceToNat, ag9, el22, fl35_0, sz9, sz35, encL, encS, encRes, ir_1, hx]
      subst hK
      refine block_n ?_
      refine thenA_n ?_
      have h2 : IntKind.i64.wrap ((i : Int) + 1) = ((i + 1 : Nat) : Int) := by rw [wrap_id] <;> omega
      refine AW.region ?_
      generalize hK : thenA _ _ Exit.normal = K
      simp only [go_sem, ↓reduceIte, reduceCtorEq, Nat.reduceAdd, Nat.reduceSub, Nat.reduceMul, Nat.reduceEqDiff, Nat.reduceLT, Nat.reduceLeDiff, Nat.reduceBEq, Int.reduceAdd, Int.reduceSub, Int.reduceLT, Int.reduceLE, Int.reduceEq, Int.reduceToNat, ag9, el22, fl35_0, sz9, sz35, encL, encS, encRes, ir_1, h2]
      subst hK
      refine thenA_n ?_
      refine ⟨k - 1, _, by omega, Ent.st (.put' (.put' (.put' (.put' .any rfl) rfl) rfl) rfl) .refl (Nat.le_refl _), i + 1, addS x.key acc, _, Nat.zero_le _, by omega, by rw [fold_next hx, hacc], by have := addS_len x.key acc; omega, SzS_add hsz hxs, rfl⟩
    · have hi2 : b.length ≤ i := by simpa using hc24
      refine AW.exit ?_
      refine thenA_x ?_
      refine thenA_x ?_
      refine block_x ?_
      refine thenA_n ?_
      refine AW.reg ?_
      generalize hK : AW Try.prog _ _ _ = K
      simp only [go_sem, ↓reduceIte, reduceCtorEq, Nat.reduceAdd, Nat.reduceSub, Nat.reduceMul, Nat.reduceEqDiff, Nat.reduceLT, Nat.reduceLeDiff, Nat.reduceBEq, Int.reduceAdd, Int.reduceSub, Int.reduceLT, Int.reduceLE, Int.reduceEq, Int.reduceToNat, ag9, el22, fl35_0, sz9, sz35, encL, encS, encRes, ir_1]
      subst hK
      refine AW.ret ?_
      have : acc = keysL a b := by rw [hacc, List.take_of_length_le hi2]; rfl
      rw [← this]
      exact fin_of (.inl rfl) rfl (by simp only [resOf_1, upd_ap, reduceIte, sealV_sl, ir_1]; rfl) List.nodup_nil rfl
end Go.Proofs.Y1
