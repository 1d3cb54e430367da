import Derived.Test.YtlonihmeikmpiaaGmY1J
set_option linter.all false
set_option linter.unusedVariables false
set_option linter.unusedSimpArgs false
set_option linter.unusedSimpArgs false
set_option linter.unusedVariables false
set_option maxRecDepth 8000
namespace Go.Proofs.Y1
open Go.Gm
def has (q : List Res) (k : ByteArray) : Bool := match q with
  | r :: _ => decide (r.key = k)
  | [] => false
def appGo (out a : List Res) : List Change → List Res × Int
  | [] => (out ++ a, 0)
  | c :: l =>
    if c.kind = 1 ∧ has (a.dropWhile fun r => sLt r.key c.res.key) c.res.key = true then ([], 3)
    else if ¬ c.kind = 1 ∧ has (a.dropWhile fun r => sLt r.key c.res.key) c.res.key = false then ([], 6)
    else appGo (out ++ (a.takeWhile fun r => sLt r.key c.res.key) ++ (if c.kind = 0 then [] else [c.res])) (if has (a.dropWhile fun r => sLt r.key c.res.key) c.res.key = true then (a.dropWhile fun r => sLt r.key c.res.key).tail else (a.dropWhile fun r => sLt r.key c.res.key)) l
theorem app_skip {out la : List Res} {x : Res} {c : Change} {l : List Change} (h : sLt x.key c.res.key = true) : appGo out (x :: la) (c :: l) = appGo (out ++ [x]) la (c :: l) := by
  simp [appGo, h]
def Stop (la : List Res) (k : ByteArray) : Prop := ∀ x l, la = x :: l → sLt x.key k = false
theorem app_stop {out la : List Res} {c : Change} {l : List Change} (h : Stop la c.res.key) : appGo out la (c :: l) = if c.kind = 1 ∧ has la c.res.key = true then ([], 3) else if ¬ c.kind = 1 ∧ has la c.res.key = false then ([], 6) else appGo (out ++ (if c.kind = 0 then [] else [c.res])) (if has la c.res.key = true then la.tail else la) l := by
  cases la with
  | nil => simp [appGo, has]
  | cons x la => simp [appGo, h x la rfl]
theorem one_nz : ((1 : Int) = 0) = False := by simp
def applyL (a : List Res) (l : List Change) : List Res × Int := appGo [] a l
open Classical in
theorem w19 (a : List Res) (l : List Change) (hal : a.length + l.length ≤ 34359738368) (ha : Offs a) (hl : OffsC l) : PC Try.prog 19 [encL a, encCs l] (if Right a ∧ OrdC l then .tup [.fr 3 ((applyL a l).1.map encRes), I (applyL a l).2] else .tup [.fr 3 [], I 3]) := by
  refine pc_of (N := 102) (rs := [.tmp 4, .tmp 5]) Try.func19 rfl rfl rfl (Nat.le_of_ble_eq_true rfl) ?_
  refine AW.reg ?_
  generalize hK : AW Try.prog _ _ _ = K
  simp only [go_sem, ↓reduceIte, reduceCtorEq, Nat.reduceAdd, Nat.reduceSub, Nat.reduceMul, Nat.reduceEqDiff, Nat.reduceLT, Nat.reduceLeDiff, Nat.reduceBEq, Int.reduceAdd, Int.reduceSub, Int.reduceLT, Int.reduceLE, Int.reduceEq, Int.reduceToNat, ag3, ag9, ag35, ag37, ap22_22, el22, el25, fl35_0, fl37_0, fl37_1, mk22, sz3, sz9, sz35, sz37, zr35, zr37, encRes, encL, encCs, encCh, encI, ir_I, ir_Res, cut22, ir_Ch]
  subst hK
  refine AW.seq ?_
  by_cases hra : Right a
  · refine AW.reg ?_
    generalize hK : AW Try.prog _ _ _ = K
    simp only [go_sem, ↓reduceIte, reduceCtorEq, Nat.reduceAdd, Nat.reduceSub, Nat.reduceMul, Nat.reduceEqDiff, Nat.reduceLT, Nat.reduceLeDiff, Nat.reduceBEq, Int.reduceAdd, Int.reduceSub, Int.reduceLT, Int.reduceLE, Int.reduceEq, Int.reduceToNat, ag3, ag9, ag35, ag37, ap22_22, el22, el25, fl35_0, fl37_0, fl37_1, mk22, sz3, sz9, sz35, sz37, zr35, zr37, encRes, encL, encCs, encCh, encI, ir_I, ir_Res, cut22, ir_Ch, hra]
    refine arC.of (w64 a (by omega)) Try.call64 ?_
    simp only [go_sem, ↓reduceIte, reduceCtorEq, Nat.reduceAdd, Nat.reduceSub, Nat.reduceMul, Nat.reduceEqDiff, Nat.reduceLT, Nat.reduceLeDiff, Nat.reduceBEq, Int.reduceAdd, Int.reduceSub, Int.reduceLT, Int.reduceLE, Int.reduceEq, Int.reduceToNat, ag3, ag9, ag35, ag37, ap22_22, el22, el25, fl35_0, fl37_0, fl37_1, mk22, sz3, sz9, sz35, sz37, zr35, zr37, encRes, encL, encCs, encCh, encI, ir_I, ir_Res, cut22, ir_Ch, hra]
    refine arC.of (w71 l (by omega)) Try.call71 ?_
    simp only [go_sem, ↓reduceIte, reduceCtorEq, Nat.reduceAdd, Nat.reduceSub, Nat.reduceMul, Nat.reduceEqDiff, Nat.reduceLT, Nat.reduceLeDiff, Nat.reduceBEq, Int.reduceAdd, Int.reduceSub, Int.reduceLT, Int.reduceLE, Int.reduceEq, Int.reduceToNat, ag3, ag9, ag35, ag37, ap22_22, el22, el25, fl35_0, fl37_0, fl37_1, mk22, sz3, sz9, sz35, sz37, zr35, zr37, encRes, encL, encCs, encCh, encI, ir_I, ir_Res, cut22, ir_Ch, hra]
    subst hK
    refine AW.if rfl (fun hc19 => ?_) (fun hc19 => ?_)
    · refine AW.reg ?_
      generalize hK : AW Try.prog _ _ _ = K
      simp only [go_sem, ↓reduceIte, reduceCtorEq, Nat.reduceAdd, Nat.reduceSub, Nat.reduceMul, Nat.reduceEqDiff, Nat.reduceLT, Nat.reduceLeDiff, Nat.reduceBEq, Int.reduceAdd, Int.reduceSub, Int.reduceLT, Int.reduceLE, Int.reduceEq, Int.reduceToNat, ag3, ag9, ag35, ag37, ap22_22, el22, el25, fl35_0, fl37_0, fl37_1, mk22, sz3, sz9, sz35, sz37, zr35, zr37, encRes, encL, encCs, encCh, encI, ir_I, ir_Res, cut22, ir_Ch]
      subst hK
      refine AW.ent (Ent.nilOwn 4 3 (by decide) rfl) ?_
      refine AW.ret ?_
      refine thenA_r ?_
      have hrb : ¬ OrdC l := by simpa using hc19
      rw [if_neg (fun h => hrb h.2)]
      simp only [go_sem, ↓reduceIte, reduceCtorEq, Nat.reduceAdd, Nat.reduceSub, Nat.reduceMul, Nat.reduceEqDiff, Nat.reduceLT, Nat.reduceLeDiff, Nat.reduceBEq, Int.reduceAdd, Int.reduceSub, Int.reduceLT, Int.reduceLE, Int.reduceEq, Int.reduceToNat, finA, resA, resOf_1, resOf_2, sealV_val, sealV_sl, sealV_ip, sealV_agg, sealV_tup, sealV_own, sealL_nil, sealL_cons, ir_I, encRes, encI, ag3, ag9, ag35, ag37, ap22_22, el22, el25, fl35_0, fl37_0, fl37_1, mk22, sz3, sz9, sz35, sz37, zr35, zr37, encRes, encL, encCs, encCh, encI, ir_I, ir_Res, cut22, ir_Ch]
      simp
    · have hrb : OrdC l := by simpa using hc19
      refine AW.skip ?_
      refine thenA_n ?_
      refine AW.reg ?_
      generalize hK : AW Try.prog _ _ _ = K
      simp only [go_sem, ↓reduceIte, reduceCtorEq, Nat.reduceAdd, Nat.reduceSub, Nat.reduceMul, Nat.reduceEqDiff, Nat.reduceLT, Nat.reduceLeDiff, Nat.reduceBEq, Int.reduceAdd, Int.reduceSub, Int.reduceLT, Int.reduceLE, Int.reduceEq, Int.reduceToNat, ag3, ag9, ag35, ag37, ap22_22, el22, el25, fl35_0, fl37_0, fl37_1, mk22, sz3, sz9, sz35, sz37, zr35, zr37, encRes, encL, encCs, encCh, encI, ir_I, ir_Res, cut22, ir_Ch]
      subst hK
      refine AW.seq ?_
      refine AW.reg ?_
      generalize hK : AW Try.prog _ _ _ = K
      simp only [go_sem, ↓reduceIte, reduceCtorEq, Nat.reduceAdd, Nat.reduceSub, Nat.reduceMul, Nat.reduceEqDiff, Nat.reduceLT, Nat.reduceLeDiff, Nat.reduceBEq, Int.reduceAdd, Int.reduceSub, Int.reduceLT, Int.reduceLE, Int.reduceEq, Int.reduceToNat, ag3, ag9, ag35, ag37, ap22_22, el22, el25, fl35_0, fl37_0, fl37_1, mk22, sz3, sz9, sz35, sz37, zr35, zr37, encRes, encL, encCs, encCh, encI, ir_I, ir_Res, cut22, ir_Ch]
      subst hK
      refine AW.block ?_
      refine AW.ent (Ent.nilOwn 6 3 (by decide) rfl) ?_
      refine AW.loop (fun k st => ∃ i la out rows t n nx, (0 ≤ k) ∧ (i + k = l.length) ∧ (appGo out la (l.drop i) = applyL a l) ∧ (rows = out.map encRes) ∧ (n = rows.length) ∧ (t < nx) ∧ (n + la.length + k ≤ 34359738368) ∧ (Offs la) ∧ st = ⟨(upd (upd (upd (upd (upd anyF 0 (encL la)) 6 (.own t 0 n)) 20 (encCs l)) 21 (I l.length)) 22 (I (i : Int))), upd (fun _ => none) t (some (.row 3 true rows)), nx⟩) (l.length) _ (Ent.st (.put' (.put' (.put' (.put' (.put' .any rfl) rfl) rfl) rfl) rfl) .refl (Nat.le_refl _)) ⟨0, a, [], [], _, 0, _, Nat.zero_le _, by simp, by simp [applyL], rfl, rfl, Nat.lt_succ_self _, by omega, ha, rfl⟩ ?_
      rintro k _ ⟨i, la, out, rows, t, n, nx, _, hk, hap, hrows, hn, hlt, hcap, hola, rfl⟩
      refine AW.reg ?_
      generalize hK : AW Try.prog _ _ _ = K
      simp only [go_sem, ↓reduceIte, reduceCtorEq, Nat.reduceAdd, Nat.reduceSub, Nat.reduceMul, Nat.reduceEqDiff, Nat.reduceLT, Nat.reduceLeDiff, Nat.reduceBEq, Int.reduceAdd, Int.reduceSub, Int.reduceLT, Int.reduceLE, Int.reduceEq, Int.reduceToNat, ag3, ag9, ag35, ag37, ap22_22, el22, el25, fl35_0, fl37_0, fl37_1, mk22, sz3, sz9, sz35, sz37, zr35, zr37, encRes, encL, encCs, encCh, encI, ir_I, ir_Res, cut22, ir_Ch]
      subst hK
      refine AW.seq ?_
      refine AW.if rfl (fun hc23 => ?_) (fun hc23 => ?_)
      · have hi : i < l.length := by simpa using hc23
        obtain ⟨c, hc⟩ : ∃ c, l[i]? = some c := ⟨l[i], by simp [hi]⟩
        have hdr : l.drop i = c :: l.drop (i + 1) := by rw [List.drop_eq_getElem_cons hi]; congr 1; rw [List.getElem?_eq_getElem hi] at hc; exact Option.some.inj hc
        rw [hdr] at hap
        have hne : ∀ j, (t = nx + j) = False := fun j => eq_false (by omega)
        have hne0 : (t = nx) = False := eq_false (by omega)
        have hneS : ∀ j, (nx + j = t) = False := fun j => eq_false (by omega)
        refine AW.skip ?_
        refine thenA_n ?_
        refine AW.seq ?_
        refine AW.block ?_
        refine AW.reg ?_
        generalize hK : AW Try.prog _ _ _ = K
        simp only [go_sem, ↓reduceIte, reduceCtorEq, Nat.reduceAdd, Nat.reduceSub, Nat.reduceMul, Nat.reduceEqDiff, Nat.reduceLT, Nat.reduceLeDiff, Nat.reduceBEq, Int.reduceAdd, Int.reduceSub, Int.reduceLT, Int.reduceLE, Int.reduceEq, Int.reduceToNat, ag3, ag9, ag35, ag37, ap22_22, el22, el25, fl35_0, fl37_0, fl37_1, mk22, sz3, sz9, sz35, sz37, zr35, zr37, encRes, encL, encCs, encCh, encI, ir_I, ir_Res, cut22, ir_Ch, hc, hne, hne0, Nat.add_assoc]
        subst hK
        refine AW.seq ?_
        refine AW.block ?_
        refine AW.loop (fun k st => ∃ la out rows t n k8 nx, (0 ≤ k) ∧ (la.length = k) ∧ (appGo out la (c :: l.drop (i + 1)) = applyL a l) ∧ (rows = out.map encRes) ∧ (n = rows.length) ∧ (t < nx) ∧ (k8 < nx) ∧ (t ≠ k8) ∧ (n + la.length + (l.length - i) ≤ 34359738368) ∧ (Offs la) ∧ st = ⟨(upd (upd (upd (upd (upd (upd anyF 0 (encL la)) 6 (.own t 0 n)) 20 (encCs l)) 21 (I l.length)) 22 (I (i : Int))) 8 (.ptr k8 0 0)), upd (upd (fun _ => none) t (some (.row 3 true rows))) k8 (some (.row 4 true [encCh c])), nx⟩) (la.length) _ (Ent.st (.put' (.put' (.put' (.put' (.put' (.put' .any rfl) rfl) rfl) rfl) rfl) rfl) (.put (.put .none_ (t := t) (o := some (.row 3 true rows)) (by simp only [upd_ap, hne, hne0, Nat.add_assoc, eq_self, ↓reduceIte, if_true])) (upd_same ..)) (Nat.le_refl _)) ⟨la, out, rows, t, n, _, _, Nat.zero_le _, rfl, hap, hrows, hn, by omega, by omega, by omega, by omega, hola, rfl⟩ ?_
        rintro k _ ⟨la, out, rows, t, n, k8, nx, _, hk1, hap, hrows, hn, hlt, hlt8, hq, hcap, hola, rfl⟩
        refine AW.seq ?_
        rcases la with _ | ⟨x, la⟩
        · have hne : ∀ j, (t = nx + j) = False := fun j => eq_false (by omega)
          have hne0 : (t = nx) = False := eq_false (by omega)
          have hneS : ∀ j, (nx + j = t) = False := fun j => eq_false (by omega)
          have hne8 : ∀ j, (k8 = nx + j) = False := fun j => eq_false (by omega)
          have htk : (t = k8) = False := eq_false hq
          have hkt : (k8 = t) = False := eq_false (fun e => hq e.symm)
          refine AW.regd [[], [0], [0, 1], [0, 1, 2], [0, 1, 2, 3], [0, 1, 2, 3, 4], [0, 1, 2, 3, 4, 5], [0, 1, 2, 3, 4, 5, 6], [0, 1, 2, 3], [0, 1, 2, 3, 8], [0, 1, 2, 3, 8, 9], [0, 1, 2, 3, 4, 5, 6, 7, 8, 9, 10], [0, 1, 2, 3, 4, 5, 6, 7, 8, 9, 10, 11]] [0, 1, 2, 3, 4, 5, 6, 7, 8, 9, 10, 11, 12] noFt (fun _ _ _ h => by simp [noFt] at h) draws (by kernel_rfl) (by kernel_rfl) ?_
          generalize hK : AW Try.prog _ _ _ = K
          simp only [go_sem, ↓reduceIte, reduceCtorEq, Nat.reduceAdd, Nat.reduceSub, Nat.reduceMul, Nat.reduceEqDiff, Nat.reduceLT, Nat.reduceLeDiff, Nat.reduceBEq, Int.reduceAdd, Int.reduceSub, Int.reduceLT, Int.reduceLE, Int.reduceEq, Int.reduceToNat, ag3, ag9, ag35, ag37, ap22_22, el22, el25, fl35_0, fl37_0, fl37_1, mk22, sz3, sz9, sz35, sz37, zr35, zr37, encRes, encL, encCs, encCh, encI, ir_I, ir_Res, cut22, ir_Ch, hne, hneS, hne0, hne8, htk, hkt, Nat.add_assoc]
          subst hK
          refine AW.if rfl (fun hc38 => ?_) (fun hc38 => ?_)
          · cases hc38
          · have hst : Stop ([] : List Res) c.res.key := fun x l h => by cases h
            rw [app_stop hst] at hap
            refine AW.exit ?_
            refine thenA_x ?_
            refine thenA_x ?_
            refine block_x ?_
            refine thenA_n ?_
            refine AW.regd [[], [0], [0, 1], [0, 1, 2], [0, 1, 2, 3], [0, 1, 2, 3, 4], [0, 1, 2, 3, 4, 5], [0, 1, 2, 3, 4, 5, 6], [0, 1, 2, 3], [0, 1, 2, 3, 8], [0, 1, 2, 3, 8, 9], [0, 1, 2, 3, 4, 5, 6, 7, 8, 9, 10], [0, 1, 2, 3, 4, 5, 6, 7, 8, 9, 10, 11], [0, 1, 2, 3, 4, 5, 6, 7, 8, 9, 10, 11, 12]] [0, 1, 2, 3, 4, 5, 6, 7, 8, 9, 10, 11, 12, 13] noFt (fun _ _ _ h => by simp [noFt] at h) draws (by kernel_rfl) (by kernel_rfl) ?_
            generalize hK : AW Try.prog _ _ _ = K
            simp only [go_sem, ↓reduceIte, reduceCtorEq, Nat.reduceAdd, Nat.reduceSub, Nat.reduceMul, Nat.reduceEqDiff, Nat.reduceLT, Nat.reduceLeDiff, Nat.reduceBEq, Int.reduceAdd, Int.reduceSub, Int.reduceLT, Int.reduceLE, Int.reduceEq, Int.reduceToNat, ag3, ag9, ag35, ag37, ap22_22, el22, el25, fl35_0, fl37_0, fl37_1, mk22, sz3, sz9, sz35, sz37, zr35, zr37, encRes, encL, encCs, encCh, encI, ir_I, ir_Res, cut22, ir_Ch, hne, hneS, hne0, hne8, htk, hkt, Nat.add_assoc]
            subst hK
            refine AW.seq ?_
            refine AW.block ?_
            by_cases hk1' : c.kind = 1
            · refine AW.reg ?_
              generalize hK : AW Try.prog _ _ _ = K
              simp only [go_sem, ↓reduceIte, reduceCtorEq, Nat.reduceAdd, Nat.reduceSub, Nat.reduceMul, Nat.reduceEqDiff, Nat.reduceLT, Nat.reduceLeDiff, Nat.reduceBEq, Int.reduceAdd, Int.reduceSub, Int.reduceLT, Int.reduceLE, Int.reduceEq, Int.reduceToNat, ag3, ag9, ag35, ag37, ap22_22, el22, el25, fl35_0, fl37_0, fl37_1, mk22, sz3, sz9, sz35, sz37, zr35, zr37, encRes, encL, encCs, encCh, encI, ir_I, ir_Res, cut22, ir_Ch, hne, hneS, hne0, hne8, htk, hkt, Nat.add_assoc, hk1']
              subst hK
              refine AW.if rfl (fun hc61 => ?_) (fun hc61 => ?_)
              · cases hc61
              · refine AW.reg ?_
                generalize hK : AW Try.prog _ _ _ = K
                simp only [go_sem, ↓reduceIte, reduceCtorEq, Nat.reduceAdd, Nat.reduceSub, Nat.reduceMul, Nat.reduceEqDiff, Nat.reduceLT, Nat.reduceLeDiff, Nat.reduceBEq, Int.reduceAdd, Int.reduceSub, Int.reduceLT, Int.reduceLE, Int.reduceEq, Int.reduceToNat, ag3, ag9, ag35, ag37, ap22_22, el22, el25, fl35_0, fl37_0, fl37_1, mk22, sz3, sz9, sz35, sz37, zr35, zr37, encRes, encL, encCs, encCh, encI, ir_I, ir_Res, cut22, ir_Ch, hne, hneS, hne0, hne8, htk, hkt, Nat.add_assoc, hk1']
                subst hK
                refine AW.if rfl (fun hc68 => ?_) (fun hc68 => ?_)
                · cases hc68
                · refine AW.skip ?_
                  refine block_n ?_
                  refine thenA_n ?_
                  refine AW.seq ?_
                  refine AW.reg ?_
                  generalize hK : AW Try.prog _ _ _ = K
                  simp only [go_sem, ↓reduceIte, reduceCtorEq, Nat.reduceAdd, Nat.reduceSub, Nat.reduceMul, Nat.reduceEqDiff, Nat.reduceLT, Nat.reduceLeDiff, Nat.reduceBEq, Int.reduceAdd, Int.reduceSub, Int.reduceLT, Int.reduceLE, Int.reduceEq, Int.reduceToNat, ag3, ag9, ag35, ag37, ap22_22, el22, el25, fl35_0, fl37_0, fl37_1, mk22, sz3, sz9, sz35, sz37, zr35, zr37, encRes, encL, encCs, encCh, encI, ir_I, ir_Res, cut22, ir_Ch]
                  subst hK
                  refine AW.if rfl (fun hc76 => ?_) (fun hc76 => ?_)
                  · cases hc76
                  · refine AW.skip ?_
                    refine thenA_n ?_
                    refine AW.reg ?_
                    generalize hK : AW Try.prog _ _ _ = K
                    simp only [go_sem, ↓reduceIte, reduceCtorEq, Nat.reduceAdd, Nat.reduceSub, Nat.reduceMul, Nat.reduceEqDiff, Nat.reduceLT, Nat.reduceLeDiff, Nat.reduceBEq, Int.reduceAdd, Int.reduceSub, Int.reduceLT, Int.reduceLE, Int.reduceEq, Int.reduceToNat, ag3, ag9, ag35, ag37, ap22_22, el22, el25, fl35_0, fl37_0, fl37_1, mk22, sz3, sz9, sz35, sz37, zr35, zr37, encRes, encL, encCs, encCh, encI, ir_I, ir_Res, cut22, ir_Ch, hne, hneS, hne0, hne8, htk, hkt, Nat.add_assoc, hk1', one_nz]
                    subst hK
                    refine AW.if rfl (fun hc81 => ?_) (fun hc81 => ?_)
                    · refine AW.region ?_
                      generalize hK : inBlockA _ _ Exit.normal = K
                      simp (disch := first | omega | (simp only [List.length_map, List.length_cons, List.length_nil, List.length_append] <;> omega)) only [go_sem, ↓reduceIte, reduceCtorEq, Nat.reduceAdd, Nat.reduceSub, Nat.reduceMul, Nat.reduceEqDiff, Nat.reduceLT, Nat.reduceLeDiff, Nat.reduceBEq, Int.reduceAdd, Int.reduceSub, Int.reduceLT, Int.reduceLE, Int.reduceEq, Int.reduceToNat, ag3, ag9, ag35, ag37, ap22_22, el22, el25, fl35_0, fl37_0, fl37_1, mk22, sz3, sz9, sz35, sz37, zr35, zr37, encRes, encL, encCs, encCh, encI, ir_I, ir_Res, cut22, ir_Ch, hne, hneS, hne0, hne8, htk, hkt, Nat.add_assoc, hn, ml_Res, forall_one, List.length_map]
                      refine arC.of (w65 c.res (hl c (List.mem_of_getElem? hc))) Try.call65 ?_
                      simp (disch := first | omega | (simp only [List.length_map, List.length_cons, List.length_nil, List.length_append] <;> omega)) only [go_sem, ↓reduceIte, reduceCtorEq, Nat.reduceAdd, Nat.reduceSub, Nat.reduceMul, Nat.reduceEqDiff, Nat.reduceLT, Nat.reduceLeDiff, Nat.reduceBEq, Int.reduceAdd, Int.reduceSub, Int.reduceLT, Int.reduceLE, Int.reduceEq, Int.reduceToNat, ag3, ag9, ag35, ag37, ap22_22, el22, el25, fl35_0, fl37_0, fl37_1, mk22, sz3, sz9, sz35, sz37, zr35, zr37, encRes, encL, encCs, encCh, encI, ir_I, ir_Res, cut22, ir_Ch, hne, hneS, hne0, hne8, htk, hkt, Nat.add_assoc, hn, ml_Res, forall_one, List.length_map]
                      subst hK
                      refine block_n ?_
                      refine thenA_n ?_
                      have h2 : IntKind.i64.wrap ((i : Int) + 1) = ((i + 1 : Nat) : Int) := by rw [wrap_id] <;> omega
                      refine AW.region ?_
                      generalize hK : thenA _ _ Exit.normal = K
                      simp only [go_sem, ↓reduceIte, reduceCtorEq, Nat.reduceAdd, Nat.reduceSub, Nat.reduceMul, Nat.reduceEqDiff, Nat.reduceLT, Nat.reduceLeDiff, Nat.reduceBEq, Int.reduceAdd, Int.reduceSub, Int.reduceLT, Int.reduceLE, Int.reduceEq, Int.reduceToNat, ag3, ag9, ag35, ag37, ap22_22, el22, el25, fl35_0, fl37_0, fl37_1, mk22, sz3, sz9, sz35, sz37, zr35, zr37, encRes, encL, encCs, encCh, encI, ir_I, ir_Res, cut22, ir_Ch, h2]
                      subst hK
                      refine thenA_n ?_
                      refine ⟨l.length - (i + 1), _, by omega, Ent.st (.put' (.put' (.put' (.put' (.put' .any rfl) rfl) rfl) rfl) rfl) (.put .none_ (upd_same ..)) (Nat.le_refl _), i + 1, [], out ++ [c.res], _, _, _, _, Nat.zero_le _, by omega, by simpa [has, hk1'] using hap, by simp [hrows, encRes, encI], by simp [hn], by omega, by (try simp only [List.length_cons, List.length_nil] at hcap); (try simp only [List.length_cons, List.length_nil]); omega, (fun r hr => by cases hr), rfl⟩
                    · cases hc81
            · refine AW.reg ?_
              generalize hK : AW Try.prog _ _ _ = K
              simp only [go_sem, ↓reduceIte, reduceCtorEq, Nat.reduceAdd, Nat.reduceSub, Nat.reduceMul, Nat.reduceEqDiff, Nat.reduceLT, Nat.reduceLeDiff, Nat.reduceBEq, Int.reduceAdd, Int.reduceSub, Int.reduceLT, Int.reduceLE, Int.reduceEq, Int.reduceToNat, ag3, ag9, ag35, ag37, ap22_22, el22, el25, fl35_0, fl37_0, fl37_1, mk22, sz3, sz9, sz35, sz37, zr35, zr37, encRes, encL, encCs, encCh, encI, ir_I, ir_Res, cut22, ir_Ch, hne, hneS, hne0, hne8, htk, hkt, Nat.add_assoc, hk1']
              subst hK
              refine AW.if rfl (fun hc61 => ?_) (fun hc61 => ?_)
              · cases hc61
              · refine AW.reg ?_
                generalize hK : AW Try.prog _ _ _ = K
                simp only [go_sem, ↓reduceIte, reduceCtorEq, Nat.reduceAdd, Nat.reduceSub, Nat.reduceMul, Nat.reduceEqDiff, Nat.reduceLT, Nat.reduceLeDiff, Nat.reduceBEq, Int.reduceAdd, Int.reduceSub, Int.reduceLT, Int.reduceLE, Int.reduceEq, Int.reduceToNat, ag3, ag9, ag35, ag37, ap22_22, el22, el25, fl35_0, fl37_0, fl37_1, mk22, sz3, sz9, sz35, sz37, zr35, zr37, encRes, encL, encCs, encCh, encI, ir_I, ir_Res, cut22, ir_Ch, hne, hneS, hne0, hne8, htk, hkt, Nat.add_assoc, hk1']
                subst hK
                refine AW.if rfl (fun hc68 => ?_) (fun hc68 => ?_)
                · refine AW.reg ?_
                  generalize hK : AW Try.prog _ _ _ = K
                  simp only [go_sem, ↓reduceIte, reduceCtorEq, Nat.reduceAdd, Nat.reduceSub, Nat.reduceMul, Nat.reduceEqDiff, Nat.reduceLT, Nat.reduceLeDiff, Nat.reduceBEq, Int.reduceAdd, Int.reduceSub, Int.reduceLT, Int.reduceLE, Int.reduceEq, Int.reduceToNat, ag3, ag9, ag35, ag37, ap22_22, el22, el25, fl35_0, fl37_0, fl37_1, mk22, sz3, sz9, sz35, sz37, zr35, zr37, encRes, encL, encCs, encCh, encI, ir_I, ir_Res, cut22, ir_Ch]
                  subst hK
                  refine AW.ent (Ent.nilOwn 4 3 (by decide) rfl) ?_
                  refine AW.ret ?_
                  refine block_r ?_
                  refine thenA_r ?_
                  refine block_r ?_
                  refine thenA_r ?_
                  refine thenA_r ?_
                  refine block_r ?_
                  refine thenA_r ?_
                  have hap' : applyL a l = ([], 6) := by rw [← hap]; simp [has, hk1']
                  rw [if_pos ⟨hra, hrb⟩, hap']
                  simp only [go_sem, ↓reduceIte, reduceCtorEq, Nat.reduceAdd, Nat.reduceSub, Nat.reduceMul, Nat.reduceEqDiff, Nat.reduceLT, Nat.reduceLeDiff, Nat.reduceBEq, Int.reduceAdd, Int.reduceSub, Int.reduceLT, Int.reduceLE, Int.reduceEq, Int.reduceToNat, finA, resA, resOf_1, resOf_2, sealV_val, sealV_sl, sealV_ip, sealV_agg, sealV_tup, sealV_own, sealL_nil, sealL_cons, ir_I, encRes, encI, ag3, ag9, ag35, ag37, ap22_22, el22, el25, fl35_0, fl37_0, fl37_1, mk22, sz3, sz9, sz35, sz37, zr35, zr37, encRes, encL, encCs, encCh, encI, ir_I, ir_Res, cut22, ir_Ch]
                  simp
                · cases hc68
        · have hne : ∀ j, (t = nx + j) = False := fun j => eq_false (by omega)
          have hne0 : (t = nx) = False := eq_false (by omega)
          have hneS : ∀ j, (nx + j = t) = False := fun j => eq_false (by omega)
          have hne8 : ∀ j, (k8 = nx + j) = False := fun j => eq_false (by omega)
          have htk : (t = k8) = False := eq_false hq
          have hkt : (k8 = t) = False := eq_false (fun e => hq e.symm)
          refine AW.regd [[], [0], [0, 1], [0, 1, 2], [0, 1, 2, 3], [0, 1, 2, 3, 4], [0, 1, 2, 3, 4, 5], [0, 1, 2, 3, 4, 5, 6], [0, 1, 2, 3], [0, 1, 2, 3, 8], [0, 1, 2, 3, 8, 9], [0, 1, 2, 3, 4, 5, 6, 7, 8, 9, 10], [0, 1, 2, 3, 4, 5, 6, 7, 8, 9, 10, 11]] [0, 1, 2, 3, 4, 5, 6, 7, 8, 9, 10, 11, 12] noFt (fun _ _ _ h => by simp [noFt] at h) draws (by kernel_rfl) (by kernel_rfl) ?_
          generalize hK : AW Try.prog _ _ _ = K
          simp only [go_sem, ↓reduceIte, reduceCtorEq, Nat.reduceAdd, Nat.reduceSub, Nat.reduceMul, Nat.reduceEqDiff, Nat.reduceLT, Nat.reduceLeDiff, Nat.reduceBEq, Int.reduceAdd, Int.reduceSub, Int.reduceLT, Int.reduceLE, Int.reduceEq, Int.reduceToNat, ag3, ag9, ag35, ag37, ap22_22, el22, el25, fl35_0, fl37_0, fl37_1, mk22, sz3, sz9, sz35, sz37, zr35, zr37, encRes, encL, encCs, encCh, encI, ir_I, ir_Res, cut22, ir_Ch, hne, hneS, hne0, hne8, htk, hkt, Nat.add_assoc]
          subst hK
          refine AW.if rfl (fun hc38 => ?_) (fun hc38 => ?_)
          · have hof : x.offs.length ≤ 34359738368 := hola x (by simp)
            simp only [List.length_cons] at hk1 hcap
            refine AW.skip ?_
            refine thenA_n ?_
            refine AW.block ?_
            refine AW.draw [[], [], [1], [1, 2], [1, 2, 3], [1, 2, 3, 4], [0, 1, 2, 3, 4, 5], [], [7], [0, 1, 2, 3, 4, 5, 6], [0, 1, 2, 3, 4, 5, 6, 7, 8, 9]] [0, 1, 2, 3, 4, 5, 6, 7, 8, 9, 10] (tab [(65, [.agg (encRes x)], .agg (encRes x))]) (tab_cons (w65 x hof) Try.call65 tab_nil) draws (by kernel_rfl) (by kernel_rfl) ?_
            generalize hK : inBlockA _ _ Exit.normal = K
            simp (disch := first | omega | (simp only [List.length_map, List.length_cons, List.length_nil, List.length_append] <;> omega)) only [go_sem, ↓reduceIte, reduceCtorEq, Nat.reduceAdd, Nat.reduceSub, Nat.reduceMul, Nat.reduceEqDiff, Nat.reduceLT, Nat.reduceLeDiff, Nat.reduceBEq, Int.reduceAdd, Int.reduceSub, Int.reduceLT, Int.reduceLE, Int.reduceEq, Int.reduceToNat, ag3, ag9, ag35, ag37, ap22_22, el22, el25, fl35_0, fl37_0, fl37_1, mk22, sz3, sz9, sz35, sz37, zr35, zr37, encRes, encL, encCs, encCh, encI, ir_I, ir_Res, cut22, ir_Ch, hne, hneS, hne0, hne8, htk, hkt, Nat.add_assoc, hn, ml_Res, forall_one, List.length_map]
            subst hK
            refine block_n ?_
            refine thenA_n ?_
            refine ⟨k - 1, _, by omega, Ent.st (.put' (.put' (.put' (.put' (.put' (.put' .any rfl) rfl) rfl) rfl) rfl) rfl) (.put (.put .none_ (upd_same ..)) (t := k8) (o := some (.row 4 true [encCh c])) (by simp [upd, encCh, encI, hne8, hkt, Nat.add_assoc])) (Nat.le_refl _), la, out ++ [x], _, _, _, k8, _, Nat.zero_le _, by omega, by rw [← hap, app_skip hc38], by simp [hrows, encRes, encI], by simp [hn], by omega, by omega, by omega, by omega, fun r hr => hola r (by simp [hr]), rfl⟩
          · have hst : Stop (x :: la) c.res.key := fun y m h => by cases h; exact hc38
            rw [app_stop hst] at hap
            refine AW.exit ?_
            refine thenA_x ?_
            refine thenA_x ?_
            refine block_x ?_
            refine thenA_n ?_
            by_cases he : x.key = c.res.key
            · refine AW.regd [[], [0], [0, 1], [0, 1, 2], [0, 1, 2, 3], [0, 1, 2, 3, 4], [0, 1, 2, 3, 4, 5], [0, 1, 2, 3, 4, 5, 6], [0, 1, 2, 3], [0, 1, 2, 3, 8], [0, 1, 2, 3, 8, 9], [0, 1, 2, 3, 4, 5, 6, 7, 8, 9, 10], [0, 1, 2, 3, 4, 5, 6, 7, 8, 9, 10, 11], [0, 1, 2, 3, 4, 5, 6, 7, 8, 9, 10, 11, 12]] [0, 1, 2, 3, 4, 5, 6, 7, 8, 9, 10, 11, 12, 13] noFt (fun _ _ _ h => by simp [noFt] at h) draws (by kernel_rfl) (by kernel_rfl) ?_
              generalize hK : AW Try.prog _ _ _ = K
              simp only [go_sem, ↓reduceIte, reduceCtorEq, Nat.reduceAdd, Nat.reduceSub, Nat.reduceMul, Nat.reduceEqDiff, Nat.reduceLT, Nat.reduceLeDiff, Nat.reduceBEq, Int.reduceAdd, Int.reduceSub, Int.reduceLT, Int.reduceLE, Int.reduceEq, Int.reduceToNat, ag3, ag9, ag35, ag37, ap22_22, el22, el25, fl35_0, fl37_0, fl37_1, mk22, sz3, sz9, sz35, sz37, zr35, zr37, encRes, encL, encCs, encCh, encI, ir_I, ir_Res, cut22, ir_Ch, hne, hneS, hne0, hne8, htk, hkt, Nat.add_assoc, he]
              subst hK
              refine AW.seq ?_
              refine AW.block ?_
              by_cases hk1' : c.kind = 1
              · refine AW.reg ?_
                generalize hK : AW Try.prog _ _ _ = K
                simp only [go_sem, ↓reduceIte, reduceCtorEq, Nat.reduceAdd, Nat.reduceSub, Nat.reduceMul, Nat.reduceEqDiff, Nat.reduceLT, Nat.reduceLeDiff, Nat.reduceBEq, Int.reduceAdd, Int.reduceSub, Int.reduceLT, Int.reduceLE, Int.reduceEq, Int.reduceToNat, ag3, ag9, ag35, ag37, ap22_22, el22, el25, fl35_0, fl37_0, fl37_1, mk22, sz3, sz9, sz35, sz37, zr35, zr37, encRes, encL, encCs, encCh, encI, ir_I, ir_Res, cut22, ir_Ch, hne, hneS, hne0, hne8, htk, hkt, Nat.add_assoc, hk1']
                subst hK
                refine AW.if rfl (fun hc61 => ?_) (fun hc61 => ?_)
                · refine AW.reg ?_
                  generalize hK : AW Try.prog _ _ _ = K
                  simp only [go_sem, ↓reduceIte, reduceCtorEq, Nat.reduceAdd, Nat.reduceSub, Nat.reduceMul, Nat.reduceEqDiff, Nat.reduceLT, Nat.reduceLeDiff, Nat.reduceBEq, Int.reduceAdd, Int.reduceSub, Int.reduceLT, Int.reduceLE, Int.reduceEq, Int.reduceToNat, ag3, ag9, ag35, ag37, ap22_22, el22, el25, fl35_0, fl37_0, fl37_1, mk22, sz3, sz9, sz35, sz37, zr35, zr37, encRes, encL, encCs, encCh, encI, ir_I, ir_Res, cut22, ir_Ch]
                  subst hK
                  refine AW.ent (Ent.nilOwn 4 3 (by decide) rfl) ?_
                  refine AW.ret ?_
                  refine block_r ?_
                  refine thenA_r ?_
                  refine block_r ?_
                  refine thenA_r ?_
                  refine thenA_r ?_
                  refine block_r ?_
                  refine thenA_r ?_
                  have hap' : applyL a l = ([], 3) := by rw [← hap]; simp [has, hk1', he]
                  rw [if_pos ⟨hra, hrb⟩, hap']
                  simp only [go_sem, ↓reduceIte, reduceCtorEq, Nat.reduceAdd, Nat.reduceSub, Nat.reduceMul, Nat.reduceEqDiff, Nat.reduceLT, Nat.reduceLeDiff, Nat.reduceBEq, Int.reduceAdd, Int.reduceSub, Int.reduceLT, Int.reduceLE, Int.reduceEq, Int.reduceToNat, finA, resA, resOf_1, resOf_2, sealV_val, sealV_sl, sealV_ip, sealV_agg, sealV_tup, sealV_own, sealL_nil, sealL_cons, ir_I, encRes, encI, ag3, ag9, ag35, ag37, ap22_22, el22, el25, fl35_0, fl37_0, fl37_1, mk22, sz3, sz9, sz35, sz37, zr35, zr37, encRes, encL, encCs, encCh, encI, ir_I, ir_Res, cut22, ir_Ch]
                  simp
                · cases hc61
              · refine AW.reg ?_
                generalize hK : AW Try.prog _ _ _ = K
                simp only [go_sem, ↓reduceIte, reduceCtorEq, Nat.reduceAdd, Nat.reduceSub, Nat.reduceMul, Nat.reduceEqDiff, Nat.reduceLT, Nat.reduceLeDiff, Nat.reduceBEq, Int.reduceAdd, Int.reduceSub, Int.reduceLT, Int.reduceLE, Int.reduceEq, Int.reduceToNat, ag3, ag9, ag35, ag37, ap22_22, el22, el25, fl35_0, fl37_0, fl37_1, mk22, sz3, sz9, sz35, sz37, zr35, zr37, encRes, encL, encCs, encCh, encI, ir_I, ir_Res, cut22, ir_Ch, hne, hneS, hne0, hne8, htk, hkt, Nat.add_assoc, hk1']
                subst hK
                refine AW.if rfl (fun hc61 => ?_) (fun hc61 => ?_)
                · cases hc61
                · refine AW.reg ?_
                  generalize hK : AW Try.prog _ _ _ = K
                  simp only [go_sem, ↓reduceIte, reduceCtorEq, Nat.reduceAdd, Nat.reduceSub, Nat.reduceMul, Nat.reduceEqDiff, Nat.reduceLT, Nat.reduceLeDiff, Nat.reduceBEq, Int.reduceAdd, Int.reduceSub, Int.reduceLT, Int.reduceLE, Int.reduceEq, Int.reduceToNat, ag3, ag9, ag35, ag37, ap22_22, el22, el25, fl35_0, fl37_0, fl37_1, mk22, sz3, sz9, sz35, sz37, zr35, zr37, encRes, encL, encCs, encCh, encI, ir_I, ir_Res, cut22, ir_Ch, hne, hneS, hne0, hne8, htk, hkt, Nat.add_assoc, hk1']
                  subst hK
                  refine AW.if rfl (fun hc68 => ?_) (fun hc68 => ?_)
                  · cases hc68
                  · refine AW.skip ?_
                    refine block_n ?_
                    refine thenA_n ?_
                    refine AW.seq ?_
                    refine AW.reg ?_
                    generalize hK : AW Try.prog _ _ _ = K
                    simp only [go_sem, ↓reduceIte, reduceCtorEq, Nat.reduceAdd, Nat.reduceSub, Nat.reduceMul, Nat.reduceEqDiff, Nat.reduceLT, Nat.reduceLeDiff, Nat.reduceBEq, Int.reduceAdd, Int.reduceSub, Int.reduceLT, Int.reduceLE, Int.reduceEq, Int.reduceToNat, ag3, ag9, ag35, ag37, ap22_22, el22, el25, fl35_0, fl37_0, fl37_1, mk22, sz3, sz9, sz35, sz37, zr35, zr37, encRes, encL, encCs, encCh, encI, ir_I, ir_Res, cut22, ir_Ch]
                    subst hK
                    refine AW.if rfl (fun hc76 => ?_) (fun hc76 => ?_)
                    · refine AW.region ?_
                      generalize hK : thenA _ _ Exit.normal = K
                      simp only [go_sem, ↓reduceIte, reduceCtorEq, Nat.reduceAdd, Nat.reduceSub, Nat.reduceMul, Nat.reduceEqDiff, Nat.reduceLT, Nat.reduceLeDiff, Nat.reduceBEq, Int.reduceAdd, Int.reduceSub, Int.reduceLT, Int.reduceLE, Int.reduceEq, Int.reduceToNat, ag3, ag9, ag35, ag37, ap22_22, el22, el25, fl35_0, fl37_0, fl37_1, mk22, sz3, sz9, sz35, sz37, zr35, zr37, encRes, encL, encCs, encCh, encI, ir_I, ir_Res, cut22, ir_Ch, cut22]
                      subst hK
                      refine thenA_n ?_
                      refine AW.reg ?_
                      generalize hK : AW Try.prog _ _ _ = K
                      simp only [go_sem, ↓reduceIte, reduceCtorEq, Nat.reduceAdd, Nat.reduceSub, Nat.reduceMul, Nat.reduceEqDiff, Nat.reduceLT, Nat.reduceLeDiff, Nat.reduceBEq, Int.reduceAdd, Int.reduceSub, Int.reduceLT, Int.reduceLE, Int.reduceEq, Int.reduceToNat, ag3, ag9, ag35, ag37, ap22_22, el22, el25, fl35_0, fl37_0, fl37_1, mk22, sz3, sz9, sz35, sz37, zr35, zr37, encRes, encL, encCs, encCh, encI, ir_I, ir_Res, cut22, ir_Ch, hne, hneS, hne0, hne8, htk, hkt, Nat.add_assoc, hk1', one_nz]
                      subst hK
                      refine AW.if rfl (fun hc81 => ?_) (fun hc81 => ?_)
                      · have hk0 : ¬ c.kind = 0 := by simpa using hc81
                        refine AW.region ?_
                        generalize hK : inBlockA _ _ Exit.normal = K
                        simp (disch := first | omega | (simp only [List.length_map, List.length_cons, List.length_nil, List.length_append] <;> omega)) only [go_sem, ↓reduceIte, reduceCtorEq, Nat.reduceAdd, Nat.reduceSub, Nat.reduceMul, Nat.reduceEqDiff, Nat.reduceLT, Nat.reduceLeDiff, Nat.reduceBEq, Int.reduceAdd, Int.reduceSub, Int.reduceLT, Int.reduceLE, Int.reduceEq, Int.reduceToNat, ag3, ag9, ag35, ag37, ap22_22, el22, el25, fl35_0, fl37_0, fl37_1, mk22, sz3, sz9, sz35, sz37, zr35, zr37, encRes, encL, encCs, encCh, encI, ir_I, ir_Res, cut22, ir_Ch, hne, hneS, hne0, hne8, htk, hkt, Nat.add_assoc, hn, ml_Res, forall_one, List.length_map]
                        refine arC.of (w65 c.res (hl c (List.mem_of_getElem? hc))) Try.call65 ?_
                        simp (disch := first | omega | (simp only [List.length_map, List.length_cons, List.length_nil, List.length_append] <;> omega)) only [go_sem, ↓reduceIte, reduceCtorEq, Nat.reduceAdd, Nat.reduceSub, Nat.reduceMul, Nat.reduceEqDiff, Nat.reduceLT, Nat.reduceLeDiff, Nat.reduceBEq, Int.reduceAdd, Int.reduceSub, Int.reduceLT, Int.reduceLE, Int.reduceEq, Int.reduceToNat, ag3, ag9, ag35, ag37, ap22_22, el22, el25, fl35_0, fl37_0, fl37_1, mk22, sz3, sz9, sz35, sz37, zr35, zr37, encRes, encL, encCs, encCh, encI, ir_I, ir_Res, cut22, ir_Ch, hne, hneS, hne0, hne8, htk, hkt, Nat.add_assoc, hn, ml_Res, forall_one, List.length_map]
                        subst hK
                        refine block_n ?_
                        refine thenA_n ?_
                        have h2 : IntKind.i64.wrap ((i : Int) + 1) = ((i + 1 : Nat) : Int) := by rw [wrap_id] <;> omega
                        refine AW.region ?_
                        generalize hK : thenA _ _ Exit.normal = K
                        simp only [go_sem, ↓reduceIte, reduceCtorEq, Nat.reduceAdd, Nat.reduceSub, Nat.reduceMul, Nat.reduceEqDiff, Nat.reduceLT, Nat.reduceLeDiff, Nat.reduceBEq, Int.reduceAdd, Int.reduceSub, Int.reduceLT, Int.reduceLE, Int.reduceEq, Int.reduceToNat, ag3, ag9, ag35, ag37, ap22_22, el22, el25, fl35_0, fl37_0, fl37_1, mk22, sz3, sz9, sz35, sz37, zr35, zr37, encRes, encL, encCs, encCh, encI, ir_I, ir_Res, cut22, ir_Ch, h2]
                        subst hK
                        refine thenA_n ?_
                        refine ⟨l.length - (i + 1), _, by omega, Ent.st (.put' (.put' (.put' (.put' (.put' .any rfl) rfl) rfl) rfl) rfl) (.put .none_ (upd_same ..)) (Nat.le_refl _), i + 1, la, out ++ [c.res], _, _, _, _, Nat.zero_le _, by omega, by simpa [has, hk1', he, hk0] using hap, by simp [hrows, encRes, encI], by simp [hn], by omega, by (try simp only [List.length_cons, List.length_nil] at hcap); (try simp only [List.length_cons, List.length_nil]); omega, (fun r hr => hola r (by simp [hr])), rfl⟩
                      · have hk0 : c.kind = 0 := by simpa using hc81
                        refine AW.skip ?_
                        refine block_n ?_
                        refine thenA_n ?_
                        have h2 : IntKind.i64.wrap ((i : Int) + 1) = ((i + 1 : Nat) : Int) := by rw [wrap_id] <;> omega
                        refine AW.region ?_
                        generalize hK : thenA _ _ Exit.normal = K
                        simp only [go_sem, ↓reduceIte, reduceCtorEq, Nat.reduceAdd, Nat.reduceSub, Nat.reduceMul, Nat.reduceEqDiff, Nat.reduceLT, Nat.reduceLeDiff, Nat.reduceBEq, Int.reduceAdd, Int.reduceSub, Int.reduceLT, Int.reduceLE, Int.reduceEq, Int.reduceToNat, ag3, ag9, ag35, ag37, ap22_22, el22, el25, fl35_0, fl37_0, fl37_1, mk22, sz3, sz9, sz35, sz37, zr35, zr37, encRes, encL, encCs, encCh, encI, ir_I, ir_Res, cut22, ir_Ch, h2]
                        subst hK
                        refine thenA_n ?_
                        refine ⟨l.length - (i + 1), _, by omega, Ent.st (.put' (.put' (.put' (.put' (.put' .any rfl) rfl) rfl) rfl) rfl) (.put .none_ (t := t) (o := some (.row 3 true rows)) (by simp [upd, htk, hne, Nat.add_assoc])) (Nat.le_refl _), i + 1, la, out, _, _, _, _, Nat.zero_le _, by omega, by simpa [has, hk1', he, hk0] using hap, hrows, hn, by omega, by (try simp only [List.length_cons, List.length_nil] at hcap); (try simp only [List.length_cons, List.length_nil]); omega, (fun r hr => hola r (by simp [hr])), rfl⟩
                    · cases hc76
            · refine AW.regd [[], [0], [0, 1], [0, 1, 2], [0, 1, 2, 3], [0, 1, 2, 3, 4], [0, 1, 2, 3, 4, 5], [0, 1, 2, 3, 4, 5, 6], [0, 1, 2, 3], [0, 1, 2, 3, 8], [0, 1, 2, 3, 8, 9], [0, 1, 2, 3, 4, 5, 6, 7, 8, 9, 10], [0, 1, 2, 3, 4, 5, 6, 7, 8, 9, 10, 11], [0, 1, 2, 3, 4, 5, 6, 7, 8, 9, 10, 11, 12]] [0, 1, 2, 3, 4, 5, 6, 7, 8, 9, 10, 11, 12, 13] noFt (fun _ _ _ h => by simp [noFt] at h) draws (by kernel_rfl) (by kernel_rfl) ?_
              generalize hK : AW Try.prog _ _ _ = K
              simp only [go_sem, ↓reduceIte, reduceCtorEq, Nat.reduceAdd, Nat.reduceSub, Nat.reduceMul, Nat.reduceEqDiff, Nat.reduceLT, Nat.reduceLeDiff, Nat.reduceBEq, Int.reduceAdd, Int.reduceSub, Int.reduceLT, Int.reduceLE, Int.reduceEq, Int.reduceToNat, ag3, ag9, ag35, ag37, ap22_22, el22, el25, fl35_0, fl37_0, fl37_1, mk22, sz3, sz9, sz35, sz37, zr35, zr37, encRes, encL, encCs, encCh, encI, ir_I, ir_Res, cut22, ir_Ch, hne, hneS, hne0, hne8, htk, hkt, Nat.add_assoc, he]
              subst hK
              refine AW.seq ?_
              refine AW.block ?_
              by_cases hk1' : c.kind = 1
              · refine AW.reg ?_
                generalize hK : AW Try.prog _ _ _ = K
                simp only [go_sem, ↓reduceIte, reduceCtorEq, Nat.reduceAdd, Nat.reduceSub, Nat.reduceMul, Nat.reduceEqDiff, Nat.reduceLT, Nat.reduceLeDiff, Nat.reduceBEq, Int.reduceAdd, Int.reduceSub, Int.reduceLT, Int.reduceLE, Int.reduceEq, Int.reduceToNat, ag3, ag9, ag35, ag37, ap22_22, el22, el25, fl35_0, fl37_0, fl37_1, mk22, sz3, sz9, sz35, sz37, zr35, zr37, encRes, encL, encCs, encCh, encI, ir_I, ir_Res, cut22, ir_Ch, hne, hneS, hne0, hne8, htk, hkt, Nat.add_assoc, hk1']
                subst hK
                refine AW.if rfl (fun hc61 => ?_) (fun hc61 => ?_)
                · cases hc61
                · refine AW.reg ?_
                  generalize hK : AW Try.prog _ _ _ = K
                  simp only [go_sem, ↓reduceIte, reduceCtorEq, Nat.reduceAdd, Nat.reduceSub, Nat.reduceMul, Nat.reduceEqDiff, Nat.reduceLT, Nat.reduceLeDiff, Nat.reduceBEq, Int.reduceAdd, Int.reduceSub, Int.reduceLT, Int.reduceLE, Int.reduceEq, Int.reduceToNat, ag3, ag9, ag35, ag37, ap22_22, el22, el25, fl35_0, fl37_0, fl37_1, mk22, sz3, sz9, sz35, sz37, zr35, zr37, encRes, encL, encCs, encCh, encI, ir_I, ir_Res, cut22, ir_Ch, hne, hneS, hne0, hne8, htk, hkt, Nat.add_assoc, hk1']
                  subst hK
                  refine AW.if rfl (fun hc68 => ?_) (fun hc68 => ?_)
                  · cases hc68
                  · refine AW.skip ?_
                    refine block_n ?_
                    refine thenA_n ?_
                    refine AW.seq ?_
                    refine AW.reg ?_
                    generalize hK : AW Try.prog _ _ _ = K
                    simp only [go_sem, ↓reduceIte, reduceCtorEq, Nat.reduceAdd, Nat.reduceSub, Nat.reduceMul, Nat.reduceEqDiff, Nat.reduceLT, Nat.reduceLeDiff, Nat.reduceBEq, Int.reduceAdd, Int.reduceSub, Int.reduceLT, Int.reduceLE, Int.reduceEq, Int.reduceToNat, ag3, ag9, ag35, ag37, ap22_22, el22, el25, fl35_0, fl37_0, fl37_1, mk22, sz3, sz9, sz35, sz37, zr35, zr37, encRes, encL, encCs, encCh, encI, ir_I, ir_Res, cut22, ir_Ch]
                    subst hK
                    refine AW.if rfl (fun hc76 => ?_) (fun hc76 => ?_)
                    · cases hc76
                    · refine AW.skip ?_
                      refine thenA_n ?_
                      refine AW.reg ?_
                      generalize hK : AW Try.prog _ _ _ = K
                      simp only [go_sem, ↓reduceIte, reduceCtorEq, Nat.reduceAdd, Nat.reduceSub, Nat.reduceMul, Nat.reduceEqDiff, Nat.reduceLT, Nat.reduceLeDiff, Nat.reduceBEq, Int.reduceAdd, Int.reduceSub, Int.reduceLT, Int.reduceLE, Int.reduceEq, Int.reduceToNat, ag3, ag9, ag35, ag37, ap22_22, el22, el25, fl35_0, fl37_0, fl37_1, mk22, sz3, sz9, sz35, sz37, zr35, zr37, encRes, encL, encCs, encCh, encI, ir_I, ir_Res, cut22, ir_Ch, hne, hneS, hne0, hne8, htk, hkt, Nat.add_assoc, hk1', one_nz]
                      subst hK
                      refine AW.if rfl (fun hc81 => ?_) (fun hc81 => ?_)
                      · refine AW.region ?_
                        generalize hK : inBlockA _ _ Exit.normal = K
                        simp (disch := first | omega | (simp only [List.length_map, List.length_cons, List.length_nil, List.length_append] <;> omega)) only [go_sem, ↓reduceIte, reduceCtorEq, Nat.reduceAdd, Nat.reduceSub, Nat.reduceMul, Nat.reduceEqDiff, Nat.reduceLT, Nat.reduceLeDiff, Nat.reduceBEq, Int.reduceAdd, Int.reduceSub, Int.reduceLT, Int.reduceLE, Int.reduceEq, Int.reduceToNat, ag3, ag9, ag35, ag37, ap22_22, el22, el25, fl35_0, fl37_0, fl37_1, mk22, sz3, sz9, sz35, sz37, zr35, zr37, encRes, encL, encCs, encCh, encI, ir_I, ir_Res, cut22, ir_Ch, hne, hneS, hne0, hne8, htk, hkt, Nat.add_assoc, hn, ml_Res, forall_one, List.length_map]
                        refine arC.of (w65 c.res (hl c (List.mem_of_getElem? hc))) Try.call65 ?_
                        simp (disch := first | omega | (simp only [List.length_map, List.length_cons, List.length_nil, List.length_append] <;> omega)) only [go_sem, ↓reduceIte, reduceCtorEq, Nat.reduceAdd, Nat.reduceSub, Nat.reduceMul, Nat.reduceEqDiff, Nat.reduceLT, Nat.reduceLeDiff, Nat.reduceBEq, Int.reduceAdd, Int.reduceSub, Int.reduceLT, Int.reduceLE, Int.reduceEq, Int.reduceToNat, ag3, ag9, ag35, ag37, ap22_22, el22, el25, fl35_0, fl37_0, fl37_1, mk22, sz3, sz9, sz35, sz37, zr35, zr37, encRes, encL, encCs, encCh, encI, ir_I, ir_Res, cut22, ir_Ch, hne, hneS, hne0, hne8, htk, hkt, Nat.add_assoc, hn, ml_Res, forall_one, List.length_map]
                        subst hK
                        refine block_n ?_
                        refine thenA_n ?_
                        have h2 : IntKind.i64.wrap ((i : Int) + 1) = ((i + 1 : Nat) : Int) := by rw [wrap_id] <;> omega
                        refine AW.region ?_
                        generalize hK : thenA _ _ Exit.normal = K
                        simp only [go_sem, ↓reduceIte, reduceCtorEq, Nat.reduceAdd, Nat.reduceSub, Nat.reduceMul, Nat.reduceEqDiff, Nat.reduceLT, Nat.reduceLeDiff, Nat.reduceBEq, Int.reduceAdd, Int.reduceSub, Int.reduceLT, Int.reduceLE, Int.reduceEq, Int.reduceToNat, ag3, ag9, ag35, ag37, ap22_22, el22, el25, fl35_0, fl37_0, fl37_1, mk22, sz3, sz9, sz35, sz37, zr35, zr37, encRes, encL, encCs, encCh, encI, ir_I, ir_Res, cut22, ir_Ch, h2]
                        subst hK
                        refine thenA_n ?_
                        refine ⟨l.length - (i + 1), _, by omega, Ent.st (.put' (.put' (.put' (.put' (.put' .any rfl) rfl) rfl) rfl) rfl) (.put .none_ (upd_same ..)) (Nat.le_refl _), i + 1, x :: la, out ++ [c.res], _, _, _, _, Nat.zero_le _, by omega, by simpa [has, hk1', he] using hap, by simp [hrows, encRes, encI], by simp [hn], by omega, by (try simp only [List.length_cons, List.length_nil] at hcap); (try simp only [List.length_cons, List.length_nil]); omega, hola, rfl⟩
                      · cases hc81
              · refine AW.reg ?_
                generalize hK : AW Try.prog _ _ _ = K
                simp only [go_sem, ↓reduceIte, reduceCtorEq, Nat.reduceAdd, Nat.reduceSub, Nat.reduceMul, Nat.reduceEqDiff, Nat.reduceLT, Nat.reduceLeDiff, Nat.reduceBEq, Int.reduceAdd, Int.reduceSub, Int.reduceLT, Int.reduceLE, Int.reduceEq, Int.reduceToNat, ag3, ag9, ag35, ag37, ap22_22, el22, el25, fl35_0, fl37_0, fl37_1, mk22, sz3, sz9, sz35, sz37, zr35, zr37, encRes, encL, encCs, encCh, encI, ir_I, ir_Res, cut22, ir_Ch, hne, hneS, hne0, hne8, htk, hkt, Nat.add_assoc, hk1']
                subst hK
                refine AW.if rfl (fun hc61 => ?_) (fun hc61 => ?_)
                · cases hc61
                · refine AW.reg ?_
                  generalize hK : AW Try.prog _ _ _ = K
                  simp only [go_sem, ↓reduceIte, reduceCtorEq, Nat.reduceAdd, Nat.reduceSub, Nat.reduceMul, Nat.reduceEqDiff, Nat.reduceLT, Nat.reduceLeDiff, Nat.reduceBEq, Int.reduceAdd, Int.reduceSub, Int.reduceLT, Int.reduceLE, Int.reduceEq, Int.reduceToNat, ag3, ag9, ag35, ag37, ap22_22, el22, el25, fl35_0, fl37_0, fl37_1, mk22, sz3, sz9, sz35, sz37, zr35, zr37, encRes, encL, encCs, encCh, encI, ir_I, ir_Res, cut22, ir_Ch, hne, hneS, hne0, hne8, htk, hkt, Nat.add_assoc, hk1']
                  subst hK
                  refine AW.if rfl (fun hc68 => ?_) (fun hc68 => ?_)
                  · refine AW.reg ?_
                    generalize hK : AW Try.prog _ _ _ = K
                    simp only [go_sem, ↓reduceIte, reduceCtorEq, Nat.reduceAdd, Nat.reduceSub, Nat.reduceMul, Nat.reduceEqDiff, Nat.reduceLT, Nat.reduceLeDiff, Nat.reduceBEq, Int.reduceAdd, Int.reduceSub, Int.reduceLT, Int.reduceLE, Int.reduceEq, Int.reduceToNat, ag3, ag9, ag35, ag37, ap22_22, el22, el25, fl35_0, fl37_0, fl37_1, mk22, sz3, sz9, sz35, sz37, zr35, zr37, encRes, encL, encCs, encCh, encI, ir_I, ir_Res, cut22, ir_Ch]
                    subst hK
                    refine AW.ent (Ent.nilOwn 4 3 (by decide) rfl) ?_
                    refine AW.ret ?_
                    refine block_r ?_
                    refine thenA_r ?_
                    refine block_r ?_
                    refine thenA_r ?_
                    refine thenA_r ?_
                    refine block_r ?_
                    refine thenA_r ?_
                    have hap' : applyL a l = ([], 6) := by rw [← hap]; simp [has, hk1', he]
                    rw [if_pos ⟨hra, hrb⟩, hap']
                    simp only [go_sem, ↓reduceIte, reduceCtorEq, Nat.reduceAdd, Nat.reduceSub, Nat.reduceMul, Nat.reduceEqDiff, Nat.reduceLT, Nat.reduceLeDiff, Nat.reduceBEq, Int.reduceAdd, Int.reduceSub, Int.reduceLT, Int.reduceLE, Int.reduceEq, Int.reduceToNat, finA, resA, resOf_1, resOf_2, sealV_val, sealV_sl, sealV_ip, sealV_agg, sealV_tup, sealV_own, sealL_nil, sealL_cons, ir_I, encRes, encI, ag3, ag9, ag35, ag37, ap22_22, el22, el25, fl35_0, fl37_0, fl37_1, mk22, sz3, sz9, sz35, sz37, zr35, zr37, encRes, encL, encCs, encCh, encI, ir_I, ir_Res, cut22, ir_Ch]
                    simp
                  · cases hc68
      · have hi : l.length ≤ i := by simpa using hc23
        rw [List.drop_of_length_le hi, appGo] at hap
        refine AW.exit ?_
        refine thenA_x ?_
        refine thenA_x ?_
        refine block_x ?_
        refine thenA_n ?_
        refine AW.seq ?_
        refine AW.reg ?_
        generalize hK : AW Try.prog _ _ _ = K
        simp only [go_sem, ↓reduceIte, reduceCtorEq, Nat.reduceAdd, Nat.reduceSub, Nat.reduceMul, Nat.reduceEqDiff, Nat.reduceLT, Nat.reduceLeDiff, Nat.reduceBEq, Int.reduceAdd, Int.reduceSub, Int.reduceLT, Int.reduceLE, Int.reduceEq, Int.reduceToNat, ag3, ag9, ag35, ag37, ap22_22, el22, el25, fl35_0, fl37_0, fl37_1, mk22, sz3, sz9, sz35, sz37, zr35, zr37, encRes, encL, encCs, encCh, encI, ir_I, ir_Res, cut22, ir_Ch]
        subst hK
        refine AW.block ?_
        refine AW.loop (fun k st => ∃ j out2 rows t n nx, (0 ≤ k) ∧ (j + k = la.length) ∧ (out2 = out ++ la.take j) ∧ (rows = out2.map encRes) ∧ (n = rows.length) ∧ (t < nx) ∧ (n + k ≤ 34359738368) ∧ st = ⟨(upd (upd (upd (upd anyF 6 (.own t 0 n)) 89 (encL la)) 90 (I la.length)) 91 (I (j : Int))), upd (fun _ => none) t (some (.row 3 true rows)), nx⟩) (la.length) _ (Ent.st (.put' (.put' (.put' (.put' .any rfl) rfl) rfl) rfl) .refl (Nat.le_refl _)) ⟨0, out, rows, t, n, _, Nat.zero_le _, by simp, by simp, hrows, hn, by omega, by omega, rfl⟩ ?_
        rintro k _ ⟨j, out2, rows, t, n, nx, _, hj, ho, hrows, hn, hlt, hcap, rfl⟩
        refine AW.reg ?_
        generalize hK : AW Try.prog _ _ _ = K
        simp only [go_sem, ↓reduceIte, reduceCtorEq, Nat.reduceAdd, Nat.reduceSub, Nat.reduceMul, Nat.reduceEqDiff, Nat.reduceLT, Nat.reduceLeDiff, Nat.reduceBEq, Int.reduceAdd, Int.reduceSub, Int.reduceLT, Int.reduceLE, Int.reduceEq, Int.reduceToNat, ag3, ag9, ag35, ag37, ap22_22, el22, el25, fl35_0, fl37_0, fl37_1, mk22, sz3, sz9, sz35, sz37, zr35, zr37, encRes, encL, encCs, encCh, encI, ir_I, ir_Res, cut22, ir_Ch]
        subst hK
        refine AW.seq ?_
        refine AW.if rfl (fun hc92 => ?_) (fun hc92 => ?_)
        · have hjl : j < la.length := by simpa using hc92
          obtain ⟨x, hx⟩ : ∃ x, la[j]? = some x := ⟨la[j], by simp [hjl]⟩
          have hne : ∀ j, (t = nx + j) = False := fun j => eq_false (by omega)
          have hne0 : (t = nx) = False := eq_false (by omega)
          have hneS : ∀ j, (nx + j = t) = False := fun j => eq_false (by omega)
          refine AW.skip ?_
          refine thenA_n ?_
          refine AW.seq ?_
          refine AW.block ?_
          refine AW.reg ?_
          generalize hK : AW Try.prog _ _ _ = K
          simp only [go_sem, ↓reduceIte, reduceCtorEq, Nat.reduceAdd, Nat.reduceSub, Nat.reduceMul, Nat.reduceEqDiff, Nat.reduceLT, Nat.reduceLeDiff, Nat.reduceBEq, Int.reduceAdd, Int.reduceSub, Int.reduceLT, Int.reduceLE, Int.reduceEq, Int.reduceToNat, ag3, ag9, ag35, ag37, ap22_22, el22, el25, fl35_0, fl37_0, fl37_1, mk22, sz3, sz9, sz35, sz37, zr35, zr37, encRes, encL, encCs, encCh, encI, ir_I, ir_Res, cut22, ir_Ch, hx, hne, hneS, hne0, Nat.add_assoc]
          subst hK
          refine AW.region ?_
          generalize hK : inBlockA _ _ Exit.normal = K
          simp (disch := first | omega | (simp only [List.length_map, List.length_cons, List.length_nil, List.length_append] <;> omega)) only [go_sem, ↓reduceIte, reduceCtorEq, Nat.reduceAdd, Nat.reduceSub, Nat.reduceMul, Nat.reduceEqDiff, Nat.reduceLT, Nat.reduceLeDiff, Nat.reduceBEq, Int.reduceAdd, Int.reduceSub, Int.reduceLT, Int.reduceLE, Int.reduceEq, Int.reduceToNat, ag3, ag9, ag35, ag37, ap22_22, el22, el25, fl35_0, fl37_0, fl37_1, mk22, sz3, sz9, sz35, sz37, zr35, zr37, encRes, encL, encCs, encCh, encI, ir_I, ir_Res, cut22, ir_Ch, hne, hneS, hne0, Nat.add_assoc, hn, ml_Res, forall_one, List.length_map]
          refine arC.of (w65 x (hola x (List.mem_of_getElem? hx))) Try.call65 ?_
          simp (disch := first | omega | (simp only [List.length_map, List.length_cons, List.length_nil, List.length_append] <;> omega)) only [go_sem, ↓reduceIte, reduceCtorEq, Nat.reduceAdd, Nat.reduceSub, Nat.reduceMul, Nat.reduceEqDiff, Nat.reduceLT, Nat.reduceLeDiff, Nat.reduceBEq, Int.reduceAdd, Int.reduceSub, Int.reduceLT, Int.reduceLE, Int.reduceEq, Int.reduceToNat, ag3, ag9, ag35, ag37, ap22_22, el22, el25, fl35_0, fl37_0, fl37_1, mk22, sz3, sz9, sz35, sz37, zr35, zr37, encRes, encL, encCs, encCh, encI, ir_I, ir_Res, cut22, ir_Ch, hne, hneS, hne0, Nat.add_assoc, hn, ml_Res, forall_one, List.length_map]
          subst hK
          refine block_n ?_
          refine thenA_n ?_
          have h2 : IntKind.i64.wrap ((j : Int) + 1) = ((j + 1 : Nat) : Int) := by rw [wrap_id] <;> omega
          refine AW.region ?_
          generalize hK : thenA _ _ Exit.normal = K
          simp only [go_sem, ↓reduceIte, reduceCtorEq, Nat.reduceAdd, Nat.reduceSub, Nat.reduceMul, Nat.reduceEqDiff, Nat.reduceLT, Nat.reduceLeDiff, Nat.reduceBEq, Int.reduceAdd, Int.reduceSub, Int.reduceLT, Int.reduceLE, Int.reduceEq, Int.reduceToNat, ag3, ag9, ag35, ag37, ap22_22, el22, el25, fl35_0, fl37_0, fl37_1, mk22, sz3, sz9, sz35, sz37, zr35, zr37, encRes, encL, encCs, encCh, encI, ir_I, ir_Res, cut22, ir_Ch, h2]
          subst hK
          refine thenA_n ?_
          refine ⟨k - 1, _, by omega, Ent.st (.put' (.put' (.put' (.put' .any rfl) rfl) rfl) rfl) (.put .none_ (upd_same ..)) (Nat.le_refl _), j + 1, out2 ++ [x], _, _, _, _, Nat.zero_le _, by omega, by rw [ho, List.take_add_one, hx]; simp, by simp [hrows, encRes, encI], by simp [hn], by omega, by (try simp); omega, rfl⟩
        · refine AW.exit ?_
          refine thenA_x ?_
          refine thenA_x ?_
          refine block_x ?_
          refine thenA_n ?_
          refine AW.reg ?_
          generalize hK : AW Try.prog _ _ _ = K
          simp only [go_sem, ↓reduceIte, reduceCtorEq, Nat.reduceAdd, Nat.reduceSub, Nat.reduceMul, Nat.reduceEqDiff, Nat.reduceLT, Nat.reduceLeDiff, Nat.reduceBEq, Int.reduceAdd, Int.reduceSub, Int.reduceLT, Int.reduceLE, Int.reduceEq, Int.reduceToNat, ag3, ag9, ag35, ag37, ap22_22, el22, el25, fl35_0, fl37_0, fl37_1, mk22, sz3, sz9, sz35, sz37, zr35, zr37, encRes, encL, encCs, encCh, encI, ir_I, ir_Res, cut22, ir_Ch]
          subst hK
          refine AW.ret ?_
          have hjl : la.length ≤ j := by simpa using hc92
          rw [List.take_of_length_le hjl] at ho
          rw [if_pos ⟨hra, hrb⟩, ← hap, ← ho]
          subst hn
          subst hrows
          simp only [go_sem, ↓reduceIte, reduceCtorEq, Nat.reduceAdd, Nat.reduceSub, Nat.reduceMul, Nat.reduceEqDiff, Nat.reduceLT, Nat.reduceLeDiff, Nat.reduceBEq, Int.reduceAdd, Int.reduceSub, Int.reduceLT, Int.reduceLE, Int.reduceEq, Int.reduceToNat, finA, resA, resOf_1, resOf_2, sealV_val, sealV_sl, sealV_ip, sealV_agg, sealV_tup, sealV_own, sealL_nil, sealL_cons, ir_I, encRes, encI, ag3, ag9, ag35, ag37, ap22_22, el22, el25, fl35_0, fl37_0, fl37_1, mk22, sz3, sz9, sz35, sz37, zr35, zr37, encRes, encL, encCs, encCh, encI, ir_I, ir_Res, cut22, ir_Ch]
          simp [ir_Res]
  · refine AW.reg ?_
    generalize hK : AW Try.prog _ _ _ = K
    simp only [go_sem, ↓reduceIte, reduceCtorEq, Nat.reduceAdd, Nat.reduceSub, Nat.reduceMul, Nat.reduceEqDiff, Nat.reduceLT, Nat.reduceLeDiff, Nat.reduceBEq, Int.reduceAdd, Int.reduceSub, Int.reduceLT, Int.reduceLE, Int.reduceEq, Int.reduceToNat, ag3, ag9, ag35, ag37, ap22_22, el22, el25, fl35_0, fl37_0, fl37_1, mk22, sz3, sz9, sz35, sz37, zr35, zr37, encRes, encL, encCs, encCh, encI, ir_I, ir_Res, cut22, ir_Ch, hra]
    refine arC.of (w64 a (by omega)) Try.call64 ?_
    simp only [go_sem, ↓reduceIte, reduceCtorEq, Nat.reduceAdd, Nat.reduceSub, Nat.reduceMul, Nat.reduceEqDiff, Nat.reduceLT, Nat.reduceLeDiff, Nat.reduceBEq, Int.reduceAdd, Int.reduceSub, Int.reduceLT, Int.reduceLE, Int.reduceEq, Int.reduceToNat, ag3, ag9, ag35, ag37, ap22_22, el22, el25, fl35_0, fl37_0, fl37_1, mk22, sz3, sz9, sz35, sz37, zr35, zr37, encRes, encL, encCs, encCh, encI, ir_I, ir_Res, cut22, ir_Ch, hra]
    subst hK
    refine AW.if rfl (fun hc19 => ?_) (fun hc19 => ?_)
    · refine AW.reg ?_
      generalize hK : AW Try.prog _ _ _ = K
      simp only [go_sem, ↓reduceIte, reduceCtorEq, Nat.reduceAdd, Nat.reduceSub, Nat.reduceMul, Nat.reduceEqDiff, Nat.reduceLT, Nat.reduceLeDiff, Nat.reduceBEq, Int.reduceAdd, Int.reduceSub, Int.reduceLT, Int.reduceLE, Int.reduceEq, Int.reduceToNat, ag3, ag9, ag35, ag37, ap22_22, el22, el25, fl35_0, fl37_0, fl37_1, mk22, sz3, sz9, sz35, sz37, zr35, zr37, encRes, encL, encCs, encCh, encI, ir_I, ir_Res, cut22, ir_Ch]
      subst hK
      refine AW.ent (Ent.nilOwn 4 3 (by decide) rfl) ?_
      refine AW.ret ?_
      refine thenA_r ?_
      rw [if_neg (fun h => hra h.1)]
      simp only [go_sem, ↓reduceIte, reduceCtorEq, Nat.reduceAdd, Nat.reduceSub, Nat.reduceMul, Nat.reduceEqDiff, Nat.reduceLT, Nat.reduceLeDiff, Nat.reduceBEq, Int.reduceAdd, Int.reduceSub, Int.reduceLT, Int.reduceLE, Int.reduceEq, Int.reduceToNat, finA, resA, resOf_1, resOf_2, sealV_val, sealV_sl, sealV_ip, sealV_agg, sealV_tup, sealV_own, sealL_nil, sealL_cons, ir_I, encRes, encI, ag3, ag9, ag35, ag37, ap22_22, el22, el25, fl35_0, fl37_0, fl37_1, mk22, sz3, sz9, sz35, sz37, zr35, zr37, encRes, encL, encCs, encCh, encI, ir_I, ir_Res, cut22, ir_Ch]
      simp
    · cases hc19
end Go.Proofs.Y1
