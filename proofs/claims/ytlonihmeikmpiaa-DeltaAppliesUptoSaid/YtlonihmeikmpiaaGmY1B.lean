import Derived.Test.YtlonihmeikmpiaaGmY1A
set_option linter.all false
set_option linter.unusedVariables false
set_option linter.unusedSimpArgs false
set_option linter.unusedSimpArgs false
set_option linter.unusedVariables false
set_option maxRecDepth 8000
namespace Go.Proofs.Y1
open Go.Gm
structure Change where
  kind : Int
  res : Res
def encCh (c : Change) : List AV := [I c.kind, S c.res.key, S c.res.val, encI c.res.offs]
theorem inl_Ch (c : Change) : inlL (encCh c) = true := by simp [encCh, encI, inlL, inl, ir_I]
theorem ml_Ch (l : List Change) : (∀ r ∈ l.map encCh, r.length = 4) = True := forall_map (f := encCh) (fun _ => rfl) l
theorem ir_Ch (l : List Change) : inlR (l.map encCh) = true := inlR_map inl_Ch l
def un2 (a b : Res) : List Change := if a.val ≠ b.val then [⟨2, b⟩] else if a.offs ≠ b.offs then [⟨3, b⟩] else []
def diffL : List Res → List Res → List Change
  | [], [] => []
  | a :: l, [] => ⟨0, a⟩ :: diffL l []
  | [], b :: m => ⟨1, b⟩ :: diffL [] m
  | a :: l, b :: m => if sLt a.key b.key = true then ⟨0, a⟩ :: diffL l (b :: m) else if sLt b.key a.key = true then ⟨1, b⟩ :: diffL (a :: l) m else un2 a b ++ diffL l m
termination_by l m => l.length + m.length
def Offs (l : List Res) : Prop := ∀ r ∈ l, r.offs.length ≤ 34359738368
theorem cut22 {hp : AHeap} (r0 : List AV) (l : List Res) (h : r0.length = 3) : cutS Try.prog hp 22 (.sl (r0 :: l.map encRes)) (some (.val (.int .i64 1))) none = some (.sl (l.map encRes)) :=
  cut_tail el22 sz35 fun r hr => by
    rcases List.mem_cons.1 hr with rfl | hr
    · exact h
    · exact of_eq_true (ml_Res l) r hr
theorem un2_some {a b : Res} (h : a.val = b.val → ¬ a.offs = b.offs) : un2 a b = [⟨if a.val ≠ b.val then 2 else if a.offs ≠ b.offs then 3 else 0, b⟩] := by
  unfold un2; by_cases h1 : a.val = b.val
  · simp [h1, h h1]
  · simp [h1]
theorem un2_none {a b : Res} (h : a.val = b.val ∧ a.offs = b.offs) : un2 a b = [] := by simp [un2, h.1, h.2]
theorem dL_nil : diffL [] [] = [] := by rw [diffL]
theorem dL_cn (x : Res) (l : List Res) : diffL (x :: l) [] = ⟨0, x⟩ :: diffL l [] := by rw [diffL]
theorem dL_nc (y : Res) (m : List Res) : diffL [] (y :: m) = ⟨1, y⟩ :: diffL [] m := by rw [diffL]
theorem dL_lt {x y : Res} {l m : List Res} (h : sLt x.key y.key = true) : diffL (x :: l) (y :: m) = ⟨0, x⟩ :: diffL l (y :: m) := by rw [diffL, if_pos h]
theorem dL_gt {x y : Res} {l m : List Res} (h : sLt x.key y.key = false) (h2 : sLt y.key x.key = true) : diffL (x :: l) (y :: m) = ⟨1, y⟩ :: diffL (x :: l) m := by rw [diffL, if_neg (by simp [h]), if_pos h2]
theorem dL_eq {x y : Res} {l m : List Res} (h : sLt x.key y.key = false) (h2 : sLt y.key x.key = false) : diffL (x :: l) (y :: m) = un2 x y ++ diffL l m := by rw [diffL, if_neg (by simp [h]), if_neg (by simp [h2])]
open Classical in
theorem w15 (a b : List Res) (hab : a.length + b.length ≤ 34359738368) (ha : Offs a) (hb : Offs b) : PC Try.prog 15 [encL a, encL b] (.fr 4 ((if Right a ∧ Right b then diffL a b else []).map encCh)) := by
  refine pc_of (N := 104) (rs := [.tmp 4]) Try.func15 rfl rfl rfl (Nat.le_of_ble_eq_true rfl) ?_
  refine AW.reg ?_
  generalize hK : AW Try.prog _ _ _ = K
  simp only [go_sem, ↓reduceIte, reduceCtorEq, Nat.reduceAdd, Nat.reduceSub, Nat.reduceMul, Nat.reduceEqDiff, Nat.reduceLT, Nat.reduceLeDiff, Nat.reduceBEq, Int.reduceAdd, Int.reduceSub, Int.reduceLT, Int.reduceLE, Int.reduceEq, Int.reduceToNat, ag9, ag35, ap25_25, bd37, el22, el25, fl35_0, mk25, sz9, sz35, encRes, encL, ir_Res, cut22]
  subst hK
  refine AW.scope ?_
  refine AW.seq ?_
  by_cases hra : Right a
  · refine AW.reg ?_
    generalize hK : AW Try.prog _ _ _ = K
    simp only [go_sem, ↓reduceIte, reduceCtorEq, Nat.reduceAdd, Nat.reduceSub, Nat.reduceMul, Nat.reduceEqDiff, Nat.reduceLT, Nat.reduceLeDiff, Nat.reduceBEq, Int.reduceAdd, Int.reduceSub, Int.reduceLT, Int.reduceLE, Int.reduceEq, Int.reduceToNat, ag9, ag35, ap25_25, bd37, el22, el25, fl35_0, mk25, sz9, sz35, encRes, encL, ir_Res, cut22, hra]
    refine arC.of (w64 a (by omega)) Try.call64 ?_
    simp only [go_sem, ↓reduceIte, reduceCtorEq, Nat.reduceAdd, Nat.reduceSub, Nat.reduceMul, Nat.reduceEqDiff, Nat.reduceLT, Nat.reduceLeDiff, Nat.reduceBEq, Int.reduceAdd, Int.reduceSub, Int.reduceLT, Int.reduceLE, Int.reduceEq, Int.reduceToNat, ag9, ag35, ap25_25, bd37, el22, el25, fl35_0, mk25, sz9, sz35, encRes, encL, ir_Res, cut22, hra]
    refine arC.of (w64 b (by omega)) Try.call64 ?_
    simp only [go_sem, ↓reduceIte, reduceCtorEq, Nat.reduceAdd, Nat.reduceSub, Nat.reduceMul, Nat.reduceEqDiff, Nat.reduceLT, Nat.reduceLeDiff, Nat.reduceBEq, Int.reduceAdd, Int.reduceSub, Int.reduceLT, Int.reduceLE, Int.reduceEq, Int.reduceToNat, ag9, ag35, ap25_25, bd37, el22, el25, fl35_0, mk25, sz9, sz35, encRes, encL, ir_Res, cut22, hra]
    subst hK
    refine AW.if rfl (fun hc15 => ?_) (fun hc15 => ?_)
    · refine AW.reg ?_
      generalize hK : AW Try.prog _ _ _ = K
      simp only [go_sem, ↓reduceIte, reduceCtorEq, Nat.reduceAdd, Nat.reduceSub, Nat.reduceMul, Nat.reduceEqDiff, Nat.reduceLT, Nat.reduceLeDiff, Nat.reduceBEq, Int.reduceAdd, Int.reduceSub, Int.reduceLT, Int.reduceLE, Int.reduceEq, Int.reduceToNat, ag9, ag35, ap25_25, bd37, el22, el25, fl35_0, mk25, sz9, sz35, encRes, encL, ir_Res, cut22]
      subst hK
      refine AW.ent (Ent.nilOwn 4 4 (by decide) rfl) ?_
      refine AW.ret ?_
      refine thenA_r ?_
      refine scope_r ?_
      have hrb : ¬ Right b := by simpa using hc15
      rw [if_neg (fun h => hrb h.2)]
      exact fin_own (.inl rfl) rfl (upd_same ..) rfl rfl rfl
    · have hrb : Right b := by simpa using hc15
      refine AW.skip ?_
      refine thenA_n ?_
      refine AW.reg ?_
      generalize hK : AW Try.prog _ _ _ = K
      simp only [go_sem, ↓reduceIte, reduceCtorEq, Nat.reduceAdd, Nat.reduceSub, Nat.reduceMul, Nat.reduceEqDiff, Nat.reduceLT, Nat.reduceLeDiff, Nat.reduceBEq, Int.reduceAdd, Int.reduceSub, Int.reduceLT, Int.reduceLE, Int.reduceEq, Int.reduceToNat, ag9, ag35, ap25_25, bd37, el22, el25, fl35_0, mk25, sz9, sz35, encRes, encL, ir_Res, cut22]
      subst hK
      refine AW.seq ?_
      refine AW.label ?_
      refine thenA_n ?_
      refine AW.seq ?_
      refine AW.block ?_
      refine AW.ent (Ent.nilOwn 5 4 (by decide) rfl) ?_
      refine AW.loop (fun k st => ∃ la lb out rows t n nx, (0 ≤ k) ∧ (la.length + lb.length = k) ∧ (out ++ diffL la lb = diffL a b) ∧ (rows = out.map encCh) ∧ (n = rows.length) ∧ (t < nx) ∧ (n + k ≤ 34359738368) ∧ (Offs la) ∧ (Offs lb) ∧ st = ⟨(upd (upd (upd anyF 0 (encL la)) 1 (encL lb)) 5 (.own t 0 n)), upd (fun _ => none) t (some (.row 4 true rows)), nx⟩) (a.length + b.length) _ (Ent.st (.put' (.put' (.put' .any rfl) rfl) rfl) .refl (Nat.le_refl _)) ⟨a, b, [], [], _, 0, _, Nat.zero_le _, rfl, rfl, rfl, rfl, Nat.lt_succ_self _, by omega, ha, hb, rfl⟩ ?_
      rintro k _ ⟨la, lb, out, rows, t, n, nx, _, hk, hd, hrows, hn, hlt, hcap, hola, holb, rfl⟩
      refine AW.seq ?_
      rcases la with _ | ⟨x, la⟩ <;> rcases lb with _ | ⟨y, lb⟩
      · refine AW.reg ?_
        generalize hK : AW Try.prog _ _ _ = K
        simp only [go_sem, ↓reduceIte, reduceCtorEq, Nat.reduceAdd, Nat.reduceSub, Nat.reduceMul, Nat.reduceEqDiff, Nat.reduceLT, Nat.reduceLeDiff, Nat.reduceBEq, Int.reduceAdd, Int.reduceSub, Int.reduceLT, Int.reduceLE, Int.reduceEq, Int.reduceToNat, ag9, ag35, ap25_25, bd37, el22, el25, fl35_0, mk25, sz9, sz35, encRes, encL, ir_Res, cut22]
        subst hK
        refine AW.if rfl (fun hc23 => ?_) (fun hc23 => ?_)
        · cases hc23
        · refine AW.exit ?_
          refine thenA_x ?_
          refine thenA_x ?_
          refine block_x ?_
          refine thenA_n ?_
          refine AW.reg ?_
          generalize hK : AW Try.prog _ _ _ = K
          simp only [go_sem, ↓reduceIte, reduceCtorEq, Nat.reduceAdd, Nat.reduceSub, Nat.reduceMul, Nat.reduceEqDiff, Nat.reduceLT, Nat.reduceLeDiff, Nat.reduceBEq, Int.reduceAdd, Int.reduceSub, Int.reduceLT, Int.reduceLE, Int.reduceEq, Int.reduceToNat, ag9, ag35, ap25_25, bd37, el22, el25, fl35_0, mk25, sz9, sz35, encRes, encL, ir_Res, cut22]
          subst hK
          refine AW.ret ?_
          refine scope_r ?_
          rw [if_pos ⟨hra, hrb⟩, ← hd, dL_nil, List.append_nil]
          exact fin_own (.inl rfl) rfl (upd_same ..) hn (hrows ▸ ir_Ch out) (by rw [hrows])
      · refine AW.reg ?_
        generalize hK : AW Try.prog _ _ _ = K
        simp only [go_sem, ↓reduceIte, reduceCtorEq, Nat.reduceAdd, Nat.reduceSub, Nat.reduceMul, Nat.reduceEqDiff, Nat.reduceLT, Nat.reduceLeDiff, Nat.reduceBEq, Int.reduceAdd, Int.reduceSub, Int.reduceLT, Int.reduceLE, Int.reduceEq, Int.reduceToNat, ag9, ag35, ap25_25, bd37, el22, el25, fl35_0, mk25, sz9, sz35, encRes, encL, ir_Res, cut22]
        subst hK
        refine AW.if rfl (fun hc23 => ?_) (fun hc23 => ?_)
        · refine AW.skip ?_
          refine thenA_n ?_
          refine AW.block ?_
          refine AW.seq ?_
          refine AW.block ?_
          refine AW.regd [[], [0], [0, 1], [0, 1, 2], [0, 1, 2, 3], [0, 1, 2, 3, 4], [0, 1, 2, 3, 4, 5], [0, 1, 2, 3, 4, 5, 6], [0, 1, 2, 3, 4, 5, 6, 7], [0, 1, 2, 3, 4, 5, 6, 7, 8], [0, 1, 2, 3, 4, 5, 6, 7, 8, 9], [0, 1, 2, 3, 4, 5, 6, 7, 8, 9, 10], [0, 1, 2, 3, 4, 5, 6, 7], [0, 1, 2, 3, 4, 5, 6, 7, 12], [0, 1, 2, 3, 4, 5, 6, 7, 12, 13], [0, 1, 2, 3, 4, 5, 6, 7, 12, 13, 14], [0, 1, 2, 3, 4, 5, 6, 7, 8, 9, 10, 11, 12, 13, 14, 15], [0, 1, 2, 3, 4, 5, 6, 7, 8, 9, 10, 11, 12, 13, 14, 15, 16], [0, 1, 2, 3, 4, 5, 6, 7, 8, 9, 10, 11, 12, 13, 14, 15, 16, 17], [0, 1, 2, 3, 4, 5, 6, 7, 8, 9, 10, 11, 12, 13, 14, 15, 16, 17, 18]] [0, 1, 2, 3, 4, 5, 6, 7, 8, 9, 10, 11, 12, 13, 14, 15, 16, 17, 18, 19] noFt (fun _ _ _ h => by simp [noFt] at h) draws (by kernel_rfl) (by kernel_rfl) ?_
          generalize hK : AW Try.prog _ _ _ = K
          simp only [go_sem, ↓reduceIte, reduceCtorEq, Nat.reduceAdd, Nat.reduceSub, Nat.reduceMul, Nat.reduceEqDiff, Nat.reduceLT, Nat.reduceLeDiff, Nat.reduceBEq, Int.reduceAdd, Int.reduceSub, Int.reduceLT, Int.reduceLE, Int.reduceEq, Int.reduceToNat, ag9, ag35, ap25_25, bd37, el22, el25, fl35_0, mk25, sz9, sz35, encRes, encL, ir_Res, cut22]
          subst hK
          refine AW.if rfl (fun hc24 => ?_) (fun hc24 => ?_)
          · cases hc24
          · refine AW.regd [[], [0], [0, 1], [0, 1, 2], [0, 1, 2, 3], [0, 1, 2, 3, 4], [0, 1, 2, 3, 4, 5], [0, 1, 2, 3, 4, 5, 6], [0, 1, 2, 3], [0, 1, 2, 3, 8], [0, 1, 2, 3, 8, 9], [0, 1, 2, 3, 8, 9, 10], [0, 1, 2, 3, 4, 5, 6, 7, 8, 9, 10, 11], [0, 1, 2, 3, 4, 5, 6, 7, 8, 9, 10, 11, 12], [0, 1, 2, 3, 4, 5, 6, 7, 8, 9, 10, 11, 12, 13]] [0, 1, 2, 3, 4, 5, 6, 7, 8, 9, 10, 11, 12, 13, 14] noFt (fun _ _ _ h => by simp [noFt] at h) draws (by kernel_rfl) (by kernel_rfl) ?_
            generalize hK : AW Try.prog _ _ _ = K
            simp only [go_sem, ↓reduceIte, reduceCtorEq, Nat.reduceAdd, Nat.reduceSub, Nat.reduceMul, Nat.reduceEqDiff, Nat.reduceLT, Nat.reduceLeDiff, Nat.reduceBEq, Int.reduceAdd, Int.reduceSub, Int.reduceLT, Int.reduceLE, Int.reduceEq, Int.reduceToNat, ag9, ag35, ap25_25, bd37, el22, el25, fl35_0, mk25, sz9, sz35, encRes, encL, ir_Res, cut22]
            subst hK
            refine AW.if rfl (fun hc54 => ?_) (fun hc54 => ?_)
            · have hne : ∀ j, (t = nx + j) = False := fun j => eq_false (by omega)
              have hof : y.offs.length ≤ 34359738368 := holb y (by simp)
              simp only [List.length_cons, List.length_nil] at hk
              refine AW.reg ?_
              generalize hK : AW Try.prog _ _ _ = K
              simp (disch := first | omega | (simp only [List.length_map, List.length_cons, List.length_nil, List.length_append] <;> omega)) only [go_sem, ↓reduceIte, reduceCtorEq, Nat.reduceAdd, Nat.reduceSub, Nat.reduceMul, Nat.reduceEqDiff, Nat.reduceLT, Nat.reduceLeDiff, Nat.reduceBEq, Int.reduceAdd, Int.reduceSub, Int.reduceLT, Int.reduceLE, Int.reduceEq, Int.reduceToNat, ag9, ag35, ap25_25, bd37, el22, el25, fl35_0, mk25, sz9, sz35, encRes, encL, ir_Res, cut22, hne, Nat.add_assoc, hn, ml_Ch, encCh, List.length_map, encI, ir_I, forall_one]
              refine arC.of (w65 y hof) Try.call65 ?_
              simp (disch := first | omega | (simp only [List.length_map, List.length_cons, List.length_nil, List.length_append] <;> omega)) only [go_sem, ↓reduceIte, reduceCtorEq, Nat.reduceAdd, Nat.reduceSub, Nat.reduceMul, Nat.reduceEqDiff, Nat.reduceLT, Nat.reduceLeDiff, Nat.reduceBEq, Int.reduceAdd, Int.reduceSub, Int.reduceLT, Int.reduceLE, Int.reduceEq, Int.reduceToNat, ag9, ag35, ap25_25, bd37, el22, el25, fl35_0, mk25, sz9, sz35, encRes, encL, ir_Res, cut22, hne, Nat.add_assoc, hn, ml_Ch, encCh, List.length_map, encI, ir_I, forall_one]
              subst hK
              refine AW.reg ?_
              generalize hK : AW Try.prog _ _ _ = K
              simp only [go_sem, ↓reduceIte, reduceCtorEq, Nat.reduceAdd, Nat.reduceSub, Nat.reduceMul, Nat.reduceEqDiff, Nat.reduceLT, Nat.reduceLeDiff, Nat.reduceBEq, Int.reduceAdd, Int.reduceSub, Int.reduceLT, Int.reduceLE, Int.reduceEq, Int.reduceToNat, ag9, ag35, ap25_25, bd37, el22, el25, fl35_0, mk25, sz9, sz35, encRes, encL, ir_Res, cut22]
              subst hK
              refine AW.exit ?_
              refine block_y rfl ?_
              refine thenA_x ?_
              refine block_x ?_
              refine thenA_n ?_
              refine ⟨k - 1, _, by (try simp only [List.length_cons, List.length_nil] at hk); omega, Ent.st (.put' (.put' (.put' .any rfl) rfl) rfl) (.put .none_ (upd_same ..)) (Nat.le_refl _), [], lb, out ++ [⟨1, y⟩], _, _, _, _, Nat.zero_le _, by (try simp only [List.length_cons, List.length_nil] at hk); (try simp only [List.length_cons, List.length_nil]); omega, by rw [← hd, dL_nc]; simp, by simp [hrows, encCh, encI], by simp [hn], by omega, by (try simp only [List.length_cons, List.length_nil] at hk); (try simp only [List.length_cons, List.length_nil]); omega, hola, fun r hr => holb r (by simp [hr]), rfl⟩
            · cases hc54
        · cases hc23
      · refine AW.reg ?_
        generalize hK : AW Try.prog _ _ _ = K
        simp only [go_sem, ↓reduceIte, reduceCtorEq, Nat.reduceAdd, Nat.reduceSub, Nat.reduceMul, Nat.reduceEqDiff, Nat.reduceLT, Nat.reduceLeDiff, Nat.reduceBEq, Int.reduceAdd, Int.reduceSub, Int.reduceLT, Int.reduceLE, Int.reduceEq, Int.reduceToNat, ag9, ag35, ap25_25, bd37, el22, el25, fl35_0, mk25, sz9, sz35, encRes, encL, ir_Res, cut22]
        subst hK
        refine AW.if rfl (fun hc23 => ?_) (fun hc23 => ?_)
        · refine AW.skip ?_
          refine thenA_n ?_
          refine AW.block ?_
          refine AW.seq ?_
          refine AW.block ?_
          refine AW.regd [[], [0], [0, 1], [0, 1, 2], [0, 1, 2, 3], [0, 1, 2, 3, 4], [0, 1, 2, 3, 4, 5], [0, 1, 2, 3, 4, 5, 6], [0, 1, 2, 3, 4, 5, 6, 7], [0, 1, 2, 3, 4, 5, 6, 7, 8], [0, 1, 2, 3, 4, 5, 6, 7, 8, 9], [0, 1, 2, 3, 4, 5, 6, 7, 8, 9, 10], [0, 1, 2, 3, 4, 5, 6, 7], [0, 1, 2, 3, 4, 5, 6, 7, 12], [0, 1, 2, 3, 4, 5, 6, 7, 12, 13], [0, 1, 2, 3, 4, 5, 6, 7, 12, 13, 14], [0, 1, 2, 3, 4, 5, 6, 7, 8, 9, 10, 11, 12, 13, 14, 15], [0, 1, 2, 3, 4, 5, 6, 7, 8, 9, 10, 11, 12, 13, 14, 15, 16], [0, 1, 2, 3, 4, 5, 6, 7, 8, 9, 10, 11, 12, 13, 14, 15, 16, 17], [0, 1, 2, 3, 4, 5, 6, 7, 8, 9, 10, 11, 12, 13, 14, 15, 16, 17, 18]] [0, 1, 2, 3, 4, 5, 6, 7, 8, 9, 10, 11, 12, 13, 14, 15, 16, 17, 18, 19] noFt (fun _ _ _ h => by simp [noFt] at h) draws (by kernel_rfl) (by kernel_rfl) ?_
          generalize hK : AW Try.prog _ _ _ = K
          simp only [go_sem, ↓reduceIte, reduceCtorEq, Nat.reduceAdd, Nat.reduceSub, Nat.reduceMul, Nat.reduceEqDiff, Nat.reduceLT, Nat.reduceLeDiff, Nat.reduceBEq, Int.reduceAdd, Int.reduceSub, Int.reduceLT, Int.reduceLE, Int.reduceEq, Int.reduceToNat, ag9, ag35, ap25_25, bd37, el22, el25, fl35_0, mk25, sz9, sz35, encRes, encL, ir_Res, cut22]
          subst hK
          refine AW.if rfl (fun hc24 => ?_) (fun hc24 => ?_)
          · have hne : ∀ j, (t = nx + j) = False := fun j => eq_false (by omega)
            have hof : x.offs.length ≤ 34359738368 := hola x (by simp)
            simp only [List.length_cons, List.length_nil] at hk
            refine AW.reg ?_
            generalize hK : AW Try.prog _ _ _ = K
            simp (disch := first | omega | (simp only [List.length_map, List.length_cons, List.length_nil, List.length_append] <;> omega)) only [go_sem, ↓reduceIte, reduceCtorEq, Nat.reduceAdd, Nat.reduceSub, Nat.reduceMul, Nat.reduceEqDiff, Nat.reduceLT, Nat.reduceLeDiff, Nat.reduceBEq, Int.reduceAdd, Int.reduceSub, Int.reduceLT, Int.reduceLE, Int.reduceEq, Int.reduceToNat, ag9, ag35, ap25_25, bd37, el22, el25, fl35_0, mk25, sz9, sz35, encRes, encL, ir_Res, cut22, hne, Nat.add_assoc, hn, ml_Ch, encCh, List.length_map, encI, ir_I, forall_one]
            refine arC.of (w65 x hof) Try.call65 ?_
            simp (disch := first | omega | (simp only [List.length_map, List.length_cons, List.length_nil, List.length_append] <;> omega)) only [go_sem, ↓reduceIte, reduceCtorEq, Nat.reduceAdd, Nat.reduceSub, Nat.reduceMul, Nat.reduceEqDiff, Nat.reduceLT, Nat.reduceLeDiff, Nat.reduceBEq, Int.reduceAdd, Int.reduceSub, Int.reduceLT, Int.reduceLE, Int.reduceEq, Int.reduceToNat, ag9, ag35, ap25_25, bd37, el22, el25, fl35_0, mk25, sz9, sz35, encRes, encL, ir_Res, cut22, hne, Nat.add_assoc, hn, ml_Ch, encCh, List.length_map, encI, ir_I, forall_one]
            subst hK
            refine AW.reg ?_
            generalize hK : AW Try.prog _ _ _ = K
            simp only [go_sem, ↓reduceIte, reduceCtorEq, Nat.reduceAdd, Nat.reduceSub, Nat.reduceMul, Nat.reduceEqDiff, Nat.reduceLT, Nat.reduceLeDiff, Nat.reduceBEq, Int.reduceAdd, Int.reduceSub, Int.reduceLT, Int.reduceLE, Int.reduceEq, Int.reduceToNat, ag9, ag35, ap25_25, bd37, el22, el25, fl35_0, mk25, sz9, sz35, encRes, encL, ir_Res, cut22]
            subst hK
            refine AW.exit ?_
            refine block_y rfl ?_
            refine thenA_x ?_
            refine block_x ?_
            refine thenA_n ?_
            refine ⟨k - 1, _, by (try simp only [List.length_cons, List.length_nil] at hk); omega, Ent.st (.put' (.put' (.put' .any rfl) rfl) rfl) (.put .none_ (upd_same ..)) (Nat.le_refl _), la, [], out ++ [⟨0, x⟩], _, _, _, _, Nat.zero_le _, by (try simp only [List.length_cons, List.length_nil] at hk); (try simp only [List.length_cons, List.length_nil]); omega, by rw [← hd, dL_cn]; simp, by simp [hrows, encCh, encI], by simp [hn], by omega, by (try simp only [List.length_cons, List.length_nil] at hk); (try simp only [List.length_cons, List.length_nil]); omega, fun r hr => hola r (by simp [hr]), holb, rfl⟩
          · cases hc24
        · cases hc23
      · refine AW.reg ?_
        generalize hK : AW Try.prog _ _ _ = K
        simp only [go_sem, ↓reduceIte, reduceCtorEq, Nat.reduceAdd, Nat.reduceSub, Nat.reduceMul, Nat.reduceEqDiff, Nat.reduceLT, Nat.reduceLeDiff, Nat.reduceBEq, Int.reduceAdd, Int.reduceSub, Int.reduceLT, Int.reduceLE, Int.reduceEq, Int.reduceToNat, ag9, ag35, ap25_25, bd37, el22, el25, fl35_0, mk25, sz9, sz35, encRes, encL, ir_Res, cut22]
        subst hK
        refine AW.if rfl (fun hc23 => ?_) (fun hc23 => ?_)
        · refine AW.skip ?_
          refine thenA_n ?_
          refine AW.block ?_
          refine AW.seq ?_
          refine AW.block ?_
          refine AW.regd [[], [0], [0, 1], [0, 1, 2], [0, 1, 2, 3], [0, 1, 2, 3, 4], [0, 1, 2, 3, 4, 5], [0, 1, 2, 3, 4, 5, 6], [0, 1, 2, 3, 4, 5, 6, 7], [0, 1, 2, 3, 4, 5, 6, 7, 8], [0, 1, 2, 3, 4, 5, 6, 7, 8, 9], [0, 1, 2, 3, 4, 5, 6, 7, 8, 9, 10], [0, 1, 2, 3, 4, 5, 6, 7], [0, 1, 2, 3, 4, 5, 6, 7, 12], [0, 1, 2, 3, 4, 5, 6, 7, 12, 13], [0, 1, 2, 3, 4, 5, 6, 7, 12, 13, 14], [0, 1, 2, 3, 4, 5, 6, 7, 8, 9, 10, 11, 12, 13, 14, 15], [0, 1, 2, 3, 4, 5, 6, 7, 8, 9, 10, 11, 12, 13, 14, 15, 16], [0, 1, 2, 3, 4, 5, 6, 7, 8, 9, 10, 11, 12, 13, 14, 15, 16, 17], [0, 1, 2, 3, 4, 5, 6, 7, 8, 9, 10, 11, 12, 13, 14, 15, 16, 17, 18]] [0, 1, 2, 3, 4, 5, 6, 7, 8, 9, 10, 11, 12, 13, 14, 15, 16, 17, 18, 19] noFt (fun _ _ _ h => by simp [noFt] at h) draws (by kernel_rfl) (by kernel_rfl) ?_
          generalize hK : AW Try.prog _ _ _ = K
          simp only [go_sem, ↓reduceIte, reduceCtorEq, Nat.reduceAdd, Nat.reduceSub, Nat.reduceMul, Nat.reduceEqDiff, Nat.reduceLT, Nat.reduceLeDiff, Nat.reduceBEq, Int.reduceAdd, Int.reduceSub, Int.reduceLT, Int.reduceLE, Int.reduceEq, Int.reduceToNat, ag9, ag35, ap25_25, bd37, el22, el25, fl35_0, mk25, sz9, sz35, encRes, encL, ir_Res, cut22]
          subst hK
          refine AW.if rfl (fun hc24 => ?_) (fun hc24 => ?_)
          · have hne : ∀ j, (t = nx + j) = False := fun j => eq_false (by omega)
            have hof : x.offs.length ≤ 34359738368 := hola x (by simp)
            simp only [List.length_cons, List.length_nil] at hk
            refine AW.reg ?_
            generalize hK : AW Try.prog _ _ _ = K
            simp (disch := first | omega | (simp only [List.length_map, List.length_cons, List.length_nil, List.length_append] <;> omega)) only [go_sem, ↓reduceIte, reduceCtorEq, Nat.reduceAdd, Nat.reduceSub, Nat.reduceMul, Nat.reduceEqDiff, Nat.reduceLT, Nat.reduceLeDiff, Nat.reduceBEq, Int.reduceAdd, Int.reduceSub, Int.reduceLT, Int.reduceLE, Int.reduceEq, Int.reduceToNat, ag9, ag35, ap25_25, bd37, el22, el25, fl35_0, mk25, sz9, sz35, encRes, encL, ir_Res, cut22, hne, Nat.add_assoc, hn, ml_Ch, encCh, List.length_map, encI, ir_I, forall_one]
            refine arC.of (w65 x hof) Try.call65 ?_
            simp (disch := first | omega | (simp only [List.length_map, List.length_cons, List.length_nil, List.length_append] <;> omega)) only [go_sem, ↓reduceIte, reduceCtorEq, Nat.reduceAdd, Nat.reduceSub, Nat.reduceMul, Nat.reduceEqDiff, Nat.reduceLT, Nat.reduceLeDiff, Nat.reduceBEq, Int.reduceAdd, Int.reduceSub, Int.reduceLT, Int.reduceLE, Int.reduceEq, Int.reduceToNat, ag9, ag35, ap25_25, bd37, el22, el25, fl35_0, mk25, sz9, sz35, encRes, encL, ir_Res, cut22, hne, Nat.add_assoc, hn, ml_Ch, encCh, List.length_map, encI, ir_I, forall_one]
            subst hK
            refine AW.reg ?_
            generalize hK : AW Try.prog _ _ _ = K
            simp only [go_sem, ↓reduceIte, reduceCtorEq, Nat.reduceAdd, Nat.reduceSub, Nat.reduceMul, Nat.reduceEqDiff, Nat.reduceLT, Nat.reduceLeDiff, Nat.reduceBEq, Int.reduceAdd, Int.reduceSub, Int.reduceLT, Int.reduceLE, Int.reduceEq, Int.reduceToNat, ag9, ag35, ap25_25, bd37, el22, el25, fl35_0, mk25, sz9, sz35, encRes, encL, ir_Res, cut22]
            subst hK
            refine AW.exit ?_
            refine block_y rfl ?_
            refine thenA_x ?_
            refine block_x ?_
            refine thenA_n ?_
            refine ⟨k - 1, _, by (try simp only [List.length_cons, List.length_nil] at hk); omega, Ent.st (.put' (.put' (.put' .any rfl) rfl) rfl) (.put .none_ (upd_same ..)) (Nat.le_refl _), la, y :: lb, out ++ [⟨0, x⟩], _, _, _, _, Nat.zero_le _, by (try simp only [List.length_cons, List.length_nil] at hk); (try simp only [List.length_cons, List.length_nil]); omega, by rw [← hd, dL_lt hc24]; simp, by simp [hrows, encCh, encI], by simp [hn], by omega, by (try simp only [List.length_cons, List.length_nil] at hk); (try simp only [List.length_cons, List.length_nil]); omega, fun r hr => hola r (by simp [hr]), holb, rfl⟩
          · refine AW.regd [[], [0], [0, 1], [0, 1, 2], [0, 1, 2, 3], [0, 1, 2, 3, 4], [0, 1, 2, 3, 4, 5], [0, 1, 2, 3, 4, 5, 6], [0, 1, 2, 3], [0, 1, 2, 3, 8], [0, 1, 2, 3, 8, 9], [0, 1, 2, 3, 8, 9, 10], [0, 1, 2, 3, 4, 5, 6, 7, 8, 9, 10, 11], [0, 1, 2, 3, 4, 5, 6, 7, 8, 9, 10, 11, 12], [0, 1, 2, 3, 4, 5, 6, 7, 8, 9, 10, 11, 12, 13]] [0, 1, 2, 3, 4, 5, 6, 7, 8, 9, 10, 11, 12, 13, 14] noFt (fun _ _ _ h => by simp [noFt] at h) draws (by kernel_rfl) (by kernel_rfl) ?_
            generalize hK : AW Try.prog _ _ _ = K
            simp only [go_sem, ↓reduceIte, reduceCtorEq, Nat.reduceAdd, Nat.reduceSub, Nat.reduceMul, Nat.reduceEqDiff, Nat.reduceLT, Nat.reduceLeDiff, Nat.reduceBEq, Int.reduceAdd, Int.reduceSub, Int.reduceLT, Int.reduceLE, Int.reduceEq, Int.reduceToNat, ag9, ag35, ap25_25, bd37, el22, el25, fl35_0, mk25, sz9, sz35, encRes, encL, ir_Res, cut22]
            subst hK
            refine AW.if rfl (fun hc54 => ?_) (fun hc54 => ?_)
            · have hne : ∀ j, (t = nx + j) = False := fun j => eq_false (by omega)
              have hof : y.offs.length ≤ 34359738368 := holb y (by simp)
              simp only [List.length_cons, List.length_nil] at hk
              refine AW.reg ?_
              generalize hK : AW Try.prog _ _ _ = K
              simp (disch := first | omega | (simp only [List.length_map, List.length_cons, List.length_nil, List.length_append] <;> omega)) only [go_sem, ↓reduceIte, reduceCtorEq, Nat.reduceAdd, Nat.reduceSub, Nat.reduceMul, Nat.reduceEqDiff, Nat.reduceLT, Nat.reduceLeDiff, Nat.reduceBEq, Int.reduceAdd, Int.reduceSub, Int.reduceLT, Int.reduceLE, Int.reduceEq, Int.reduceToNat, ag9, ag35, ap25_25, bd37, el22, el25, fl35_0, mk25, sz9, sz35, encRes, encL, ir_Res, cut22, hne, Nat.add_assoc, hn, ml_Ch, encCh, List.length_map, encI, ir_I, forall_one]
              refine arC.of (w65 y hof) Try.call65 ?_
              simp (disch := first | omega | (simp only [List.length_map, List.length_cons, List.length_nil, List.length_append] <;> omega)) only [go_sem, ↓reduceIte, reduceCtorEq, Nat.reduceAdd, Nat.reduceSub, Nat.reduceMul, Nat.reduceEqDiff, Nat.reduceLT, Nat.reduceLeDiff, Nat.reduceBEq, Int.reduceAdd, Int.reduceSub, Int.reduceLT, Int.reduceLE, Int.reduceEq, Int.reduceToNat, ag9, ag35, ap25_25, bd37, el22, el25, fl35_0, mk25, sz9, sz35, encRes, encL, ir_Res, cut22, hne, Nat.add_assoc, hn, ml_Ch, encCh, List.length_map, encI, ir_I, forall_one]
              subst hK
              refine AW.reg ?_
              generalize hK : AW Try.prog _ _ _ = K
              simp only [go_sem, ↓reduceIte, reduceCtorEq, Nat.reduceAdd, Nat.reduceSub, Nat.reduceMul, Nat.reduceEqDiff, Nat.reduceLT, Nat.reduceLeDiff, Nat.reduceBEq, Int.reduceAdd, Int.reduceSub, Int.reduceLT, Int.reduceLE, Int.reduceEq, Int.reduceToNat, ag9, ag35, ap25_25, bd37, el22, el25, fl35_0, mk25, sz9, sz35, encRes, encL, ir_Res, cut22]
              subst hK
              refine AW.exit ?_
              refine block_y rfl ?_
              refine thenA_x ?_
              refine block_x ?_
              refine thenA_n ?_
              refine ⟨k - 1, _, by (try simp only [List.length_cons, List.length_nil] at hk); omega, Ent.st (.put' (.put' (.put' .any rfl) rfl) rfl) (.put .none_ (upd_same ..)) (Nat.le_refl _), x :: la, lb, out ++ [⟨1, y⟩], _, _, _, _, Nat.zero_le _, by (try simp only [List.length_cons, List.length_nil] at hk); (try simp only [List.length_cons, List.length_nil]); omega, by rw [← hd, dL_gt hc24 hc54]; simp, by simp [hrows, encCh, encI], by simp [hn], by omega, by (try simp only [List.length_cons, List.length_nil] at hk); (try simp only [List.length_cons, List.length_nil]); omega, hola, fun r hr => holb r (by simp [hr]), rfl⟩
            · refine AW.skip ?_
              refine block_n ?_
              refine thenA_n ?_
              refine AW.seq ?_
              refine AW.regd [[], [0], [0, 1], [], [3], [3, 4], [0, 1, 2, 3, 4, 5], [0, 1, 2, 3, 4, 5, 6], [0, 1, 2, 3, 4, 5, 6, 7], [0, 1, 2, 3, 4, 5, 6, 7], [0, 1, 2, 3, 4, 5, 6, 7, 8], [0, 1, 2, 3, 4, 5, 6, 7, 8, 9, 10]] [0, 1, 2, 3, 4, 5, 6, 7, 8, 9, 10, 11] (tab [(66, [.agg (encRes x), .agg (encRes y)], _)]) (tab_cons (w66 x y (hola x (by simp))) Try.call66 tab_nil) draws (by kernel_rfl) (by kernel_rfl) ?_
              generalize hK : AW Try.prog _ _ _ = K
              simp only [go_sem, ↓reduceIte, reduceCtorEq, Nat.reduceAdd, Nat.reduceSub, Nat.reduceMul, Nat.reduceEqDiff, Nat.reduceLT, Nat.reduceLeDiff, Nat.reduceBEq, Int.reduceAdd, Int.reduceSub, Int.reduceLT, Int.reduceLE, Int.reduceEq, Int.reduceToNat, ag9, ag35, ap25_25, bd37, el22, el25, fl35_0, mk25, sz9, sz35, encRes, encL, ir_Res, cut22, encI, ir_I]
              subst hK
              refine AW.reg ?_
              generalize hK : AW Try.prog _ _ _ = K
              simp only [go_sem, ↓reduceIte, reduceCtorEq, Nat.reduceAdd, Nat.reduceSub, Nat.reduceMul, Nat.reduceEqDiff, Nat.reduceLT, Nat.reduceLeDiff, Nat.reduceBEq, Int.reduceAdd, Int.reduceSub, Int.reduceLT, Int.reduceLE, Int.reduceEq, Int.reduceToNat, ag9, ag35, ap25_25, bd37, el22, el25, fl35_0, mk25, sz9, sz35, encRes, encL, ir_Res, cut22]
              subst hK
              refine AW.if rfl (fun hc89 => ?_) (fun hc89 => ?_)
              · have hu : un2 x y = [⟨if x.val ≠ y.val then 2 else if x.offs ≠ y.offs then 3 else 0, y⟩] := un2_some (by simp at hc89; intro h; rcases hc89 with h' | h'; exact absurd h h'; exact h')
                have hne : ∀ j, (t = nx + j) = False := fun j => eq_false (by omega)
                have hof : y.offs.length ≤ 34359738368 := holb y (by simp)
                simp only [List.length_cons, List.length_nil] at hk
                refine AW.region ?_
                generalize hK : thenA _ _ Exit.normal = K
                simp (disch := first | omega | (simp only [List.length_map, List.length_cons, List.length_nil, List.length_append] <;> omega)) only [go_sem, ↓reduceIte, reduceCtorEq, Nat.reduceAdd, Nat.reduceSub, Nat.reduceMul, Nat.reduceEqDiff, Nat.reduceLT, Nat.reduceLeDiff, Nat.reduceBEq, Int.reduceAdd, Int.reduceSub, Int.reduceLT, Int.reduceLE, Int.reduceEq, Int.reduceToNat, ag9, ag35, ap25_25, bd37, el22, el25, fl35_0, mk25, sz9, sz35, encRes, encL, ir_Res, cut22, hne, Nat.add_assoc, hn, ml_Ch, encCh, List.length_map, encI, ir_I, forall_one]
                refine arC.of (w65 y hof) Try.call65 ?_
                simp (disch := first | omega | (simp only [List.length_map, List.length_cons, List.length_nil, List.length_append] <;> omega)) only [go_sem, ↓reduceIte, reduceCtorEq, Nat.reduceAdd, Nat.reduceSub, Nat.reduceMul, Nat.reduceEqDiff, Nat.reduceLT, Nat.reduceLeDiff, Nat.reduceBEq, Int.reduceAdd, Int.reduceSub, Int.reduceLT, Int.reduceLE, Int.reduceEq, Int.reduceToNat, ag9, ag35, ap25_25, bd37, el22, el25, fl35_0, mk25, sz9, sz35, encRes, encL, ir_Res, cut22, hne, Nat.add_assoc, hn, ml_Ch, encCh, List.length_map, encI, ir_I, forall_one]
                subst hK
                refine thenA_n ?_
                refine AW.draw [[], [0], [], [2], [0, 1], [0, 1, 2, 3, 4]] [0, 1, 2, 3, 4, 5] noFt (fun _ _ _ h => by simp [noFt] at h) draws (by kernel_rfl) (by kernel_rfl) ?_
                generalize hK : inBlockA _ _ Exit.normal = K
                simp only [go_sem, ↓reduceIte, reduceCtorEq, Nat.reduceAdd, Nat.reduceSub, Nat.reduceMul, Nat.reduceEqDiff, Nat.reduceLT, Nat.reduceLeDiff, Nat.reduceBEq, Int.reduceAdd, Int.reduceSub, Int.reduceLT, Int.reduceLE, Int.reduceEq, Int.reduceToNat, ag9, ag35, ap25_25, bd37, el22, el25, fl35_0, mk25, sz9, sz35, encRes, encL, ir_Res, cut22]
                subst hK
                refine block_n ?_
                refine thenA_n ?_
                refine ⟨k - 2, _, by (try simp only [List.length_cons, List.length_nil] at hk); omega, Ent.st (.put' (.put' (.put' .any rfl) rfl) rfl) (.put .none_ (upd_same ..)) (Nat.le_refl _), la, lb, out ++ [⟨if x.val ≠ y.val then 2 else if x.offs ≠ y.offs then 3 else 0, y⟩], _, _, _, _, Nat.zero_le _, by (try simp only [List.length_cons, List.length_nil] at hk); (try simp only [List.length_cons, List.length_nil]); omega, by rw [← hd, dL_eq hc24 hc54, hu]; simp, by simp [hrows, encCh, encI], by simp [hn], by omega, by (try simp only [List.length_cons, List.length_nil] at hk); (try simp only [List.length_cons, List.length_nil]); omega, fun r hr => hola r (by simp [hr]), fun r hr => holb r (by simp [hr]), rfl⟩
              · have hu : un2 x y = [] := un2_none (by simpa using hc89)
                refine AW.skip ?_
                refine thenA_n ?_
                refine AW.draw [[], [0], [], [2], [0, 1], [0, 1, 2, 3, 4]] [0, 1, 2, 3, 4, 5] noFt (fun _ _ _ h => by simp [noFt] at h) draws (by kernel_rfl) (by kernel_rfl) ?_
                generalize hK : inBlockA _ _ Exit.normal = K
                simp only [go_sem, ↓reduceIte, reduceCtorEq, Nat.reduceAdd, Nat.reduceSub, Nat.reduceMul, Nat.reduceEqDiff, Nat.reduceLT, Nat.reduceLeDiff, Nat.reduceBEq, Int.reduceAdd, Int.reduceSub, Int.reduceLT, Int.reduceLE, Int.reduceEq, Int.reduceToNat, ag9, ag35, ap25_25, bd37, el22, el25, fl35_0, mk25, sz9, sz35, encRes, encL, ir_Res, cut22]
                subst hK
                refine block_n ?_
                refine thenA_n ?_
                refine ⟨k - 2, _, by (try simp only [List.length_cons, List.length_nil] at hk); omega, Ent.st (.put' (.put' (.put' .any rfl) rfl) rfl) .refl (Nat.le_refl _), la, lb, out, _, _, _, _, Nat.zero_le _, by (try simp only [List.length_cons, List.length_nil] at hk); omega, by rw [← hd, dL_eq hc24 hc54, hu]; simp, hrows, hn, by omega, by (try simp only [List.length_cons, List.length_nil] at hk); omega, fun r hr => hola r (by simp [hr]), fun r hr => holb r (by simp [hr]), rfl⟩
        · cases hc23
  · refine AW.reg ?_
    generalize hK : AW Try.prog _ _ _ = K
    simp only [go_sem, ↓reduceIte, reduceCtorEq, Nat.reduceAdd, Nat.reduceSub, Nat.reduceMul, Nat.reduceEqDiff, Nat.reduceLT, Nat.reduceLeDiff, Nat.reduceBEq, Int.reduceAdd, Int.reduceSub, Int.reduceLT, Int.reduceLE, Int.reduceEq, Int.reduceToNat, ag9, ag35, ap25_25, bd37, el22, el25, fl35_0, mk25, sz9, sz35, encRes, encL, ir_Res, cut22, hra]
    refine arC.of (w64 a (by omega)) Try.call64 ?_
    simp only [go_sem, ↓reduceIte, reduceCtorEq, Nat.reduceAdd, Nat.reduceSub, Nat.reduceMul, Nat.reduceEqDiff, Nat.reduceLT, Nat.reduceLeDiff, Nat.reduceBEq, Int.reduceAdd, Int.reduceSub, Int.reduceLT, Int.reduceLE, Int.reduceEq, Int.reduceToNat, ag9, ag35, ap25_25, bd37, el22, el25, fl35_0, mk25, sz9, sz35, encRes, encL, ir_Res, cut22, hra]
    subst hK
    refine AW.if rfl (fun hc15 => ?_) (fun hc15 => ?_)
    · refine AW.reg ?_
      generalize hK : AW Try.prog _ _ _ = K
      simp only [go_sem, ↓reduceIte, reduceCtorEq, Nat.reduceAdd, Nat.reduceSub, Nat.reduceMul, Nat.reduceEqDiff, Nat.reduceLT, Nat.reduceLeDiff, Nat.reduceBEq, Int.reduceAdd, Int.reduceSub, Int.reduceLT, Int.reduceLE, Int.reduceEq, Int.reduceToNat, ag9, ag35, ap25_25, bd37, el22, el25, fl35_0, mk25, sz9, sz35, encRes, encL, ir_Res, cut22]
      subst hK
      refine AW.ent (Ent.nilOwn 4 4 (by decide) rfl) ?_
      refine AW.ret ?_
      refine thenA_r ?_
      refine scope_r ?_
      rw [if_neg (fun h => hra h.1)]
      exact fin_own (.inl rfl) rfl (upd_same ..) rfl rfl rfl
    · cases hc15
end Go.Proofs.Y1
