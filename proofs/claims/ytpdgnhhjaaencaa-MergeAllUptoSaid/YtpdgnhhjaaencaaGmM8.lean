import Derived.Test.YtpdgnhhjaaencaaGmM3
import Derived.Test.YtpdgnhhjaaencaaGmM4
import Derived.Test.YtpdgnhhjaaencaaGmM5
import Derived.Test.YtpdgnhhjaaencaaGmM7
import Derived.Test.YtpdgnhhjaaencaaGmLi
import Derived.Test.YtpdgnhhjaaencaaGmDV
set_option linter.all false
set_option linter.unusedVariables false
set_option linter.unusedSimpArgs false
set_option linter.all false
set_option maxRecDepth 8000
set_option maxHeartbeats 1000000
namespace Go.Proofs.Y5
open Go.Gm
namespace Au
theorem cmp36 (x y : Item) : ∃ c, f36 x y = some c ∧ (c < 0 ↔ ltI x y = true) := cmp_eq x y
theorem srt_adj {l : List Item} (h : ∀ i, i + 1 < l.length → ∀ x y, l[i]? = some x → l[i + 1]? = some y → ltI y x = false) : Srt ltI l := by
  induction l with
  | nil => exact Srt.nil
  | cons a l ih =>
    have ht : Srt ltI l := ih fun i hi x y hx hy => h (i + 1) (by simpa using hi) x y (by simpa using hx) (by simpa using hy)
    refine List.pairwise_cons.2 ⟨fun z hz => ?_, ht⟩
    cases l with
    | nil => cases hz
    | cons b l =>
      have hab : ltI b a = false := h 0 (by simp) a b rfl rfl
      rcases List.mem_cons.1 hz with rfl | hz
      · exact hab
      · exact swoI.le_trans hab ((List.pairwise_cons.1 ht).1 z hz)
theorem sorted_eq {l : List Item} (hl : l.length ≤ 100000) : f28 l = some false ∨ (f28 l = some true ∧ Srt ltI l) := by
  have key : ∃ r, loopO (f35_36_s1 l) (IntKind.i64.wrap ((l.length : Int) - 1)) = some r ∧ (r = .inl false ∨ (r = .inr () ∧ Srt ltI l)) := by
    rw [i64_id (by omega) (by omega)]
    refine loopO_of (step := f35_36_s1 l) (I := fun k s => ∃ i : Int, s = i ∧ i < l.length ∧ k = (i + 1).toNat ∧ ∀ j : Nat, i ≤ j → j + 1 < l.length → ∀ x y, l[j]? = some x → l[j + 1]? = some y → ltI y x = false) ?_ (k := l.length) ⟨_, rfl, by omega, by omega, fun j h1 h2 => by omega⟩
    rintro k i ⟨_, rfl, hi, hk, hs⟩
    by_cases c : 0 < i
    · obtain ⟨n, rfl⟩ : ∃ n : Nat, i = ((n + 1 : Nat) : Int) := ⟨i.toNat - 1, by omega⟩
      have hn1 : n + 1 < l.length := by omega
      obtain ⟨q, hq, hq2⟩ := cmp36 l[n + 1] l[n]
      have hw : IntKind.i64.wrap (((n + 1 : Nat) : Int) - 1) = (n : Int) := by rw [i64_id (by omega) (by omega)]; omega
      have hst : f35_36_s1 l ((n + 1 : Nat) : Int) = if q < 0 then some (.inr (.inl false)) else some (.inl (n : Int)) := by
        simp only [f35_36_s1, if_pos c, ixN hn1, hw, ixN (show n < l.length by omega), Option.bind_some, hq]
      by_cases c2 : q < 0
      · exact .inr ⟨_, by rw [hst, if_pos c2], .inl rfl⟩
      · refine .inl ⟨(n : Int), k - 1, by rw [hst, if_neg c2], by omega, _, rfl, by omega, by omega, fun j h1 h2 x y hx hy => ?_⟩
        by_cases e : j = n
        · subst e
          rw [List.getElem?_eq_getElem (by omega)] at hx hy
          obtain rfl := Option.some.inj hx
          obtain rfl := Option.some.inj hy
          cases hc : ltI l[j + 1] l[j] with
          | false => rfl
          | true => exact absurd (hq2.2 hc) c2
        · exact hs j (by omega) h2 x y hx hy
    · exact .inr ⟨.inr (), by simp only [f35_36_s1, if_neg c], .inr ⟨rfl, srt_adj fun j h2 x y => hs j (by omega) h2 x y⟩⟩
  obtain ⟨r, h1, h2⟩ := key
  unfold f28 f35_36
  rw [h1]
  rcases h2 with rfl | ⟨rfl, h2⟩
  · exact .inl rfl
  · exact .inr ⟨rfl, h2⟩
theorem order_eq {l : List Item} (hl : l.length ≤ 100000) : ∃ r, f23 l = some r ∧ Sorts ltI l r := by
  unfold f23
  rcases sorted_eq hl with h | ⟨h, hs⟩
  · obtain ⟨r, h1, h2⟩ := stable_eq l hl
    refine ⟨r, ?_, h2⟩
    rw [h, Option.bind_some, if_neg (by simp)]
    have : f29 l = some l := by unfold f29; rw [appO_ok' (by simp) (by omega)]; rfl
    rw [this, Option.bind_some, h1, Option.bind_some, guardO_ok h2.len]; rfl
  · exact ⟨l, by rw [h]; rfl, hs, SF.refl l, rfl⟩
def uni (x y : List Int) : List Int := compI (sortI (x ++ y))
theorem both_eq {x y : List Int} (hx : x.length + y.length ≤ 1000000) : f16 x y = some (uni x y) := by
  have h2 : loopO (f24_s2 [x, y]) (0, 0) = some ((x.length + y.length : Nat) : Int) := by
    rw [loopO_next (s' := ((x.length : Int), 1)) (by simp [f24_s2, ix]; rw [i64_id (by omega) (by omega), i64_id (by omega) (by omega)]; all_goals (try simp); all_goals (try omega))]
    rw [loopO_next (s' := (((x.length + y.length : Nat) : Int), 2)) (by simp [f24_s2, ix]; rw [i64_id (by omega) (by omega), i64_id (by omega) (by omega)]; all_goals (try simp); all_goals (try omega))]
    exact loopO_done (by simp [f24_s2])
  have h3 : loopO (f24_s3 [x, y]) ([], 0) = some (x ++ y) := by
    rw [loopO_next (s' := (x, 1)) (by simp only [f24_s3]; rw [if_pos (by simp)]; simp [ix, appO_ok' (show ([] : List Int).length ≤ 10000000000 by simp) (show x.length ≤ 10000000000 by omega)]; rw [i64_id (by omega) (by omega)])]
    rw [loopO_next (s' := (x ++ y, 2)) (by simp only [f24_s3]; rw [if_pos (by simp)]; simp [ix, appO_ok' (show x.length ≤ 10000000000 by omega) (show y.length ≤ 10000000000 by omega)]; rw [i64_id (by omega) (by omega)])]
    exact loopO_done (by simp [f24_s3])
  have h24 : f24 [x, y] = some (x ++ y) := by
    unfold f24 f32
    rw [h2, Option.bind_some, if_pos ⟨by omega, by omega⟩, Option.bind_some, h3]; rfl
  unfold f16 f25 f26
  rw [h24, Option.bind_some, if_pos (by simp; omega), Option.bind_some, if_pos (by simp [sortI_len]; omega)]; rfl
end Au
end Go.Proofs.Y5

set_option linter.all false
set_option maxRecDepth 8000
set_option maxHeartbeats 1000000
namespace Go.Proofs.Y5
open Go.Gm
namespace Au
noncomputable def f18_s9 (a0 : List Int) (j6_0 : Int) : Int → Option (Int ⊕ Int)
  | s9_0 => (if s9_0 < (a0.length : Int) then ((ix a0 s9_0).bind fun x110 => (if x110 = j6_0 then some (.inl (IntKind.i64.wrap (s9_0 + 1))) else some (.inr s9_0))) else some (.inr s9_0))
noncomputable def f18_s10 (a1 : List Int) (j6_0 : Int) : Int → Option (Int ⊕ Int)
  | s10_0 => (if s10_0 < (a1.length : Int) then ((ix a1 s10_0).bind fun x121 => (if x121 = j6_0 then some (.inl (IntKind.i64.wrap (s10_0 + 1))) else some (.inr s10_0))) else some (.inr s10_0))
noncomputable def f18_j6 (a0 : List Int) (a1 : List Int) (s1_0 : List Int) (s1_1 : Int) (s1_2 : Int) : Int → Option (((List Int) × Int × Int) ⊕ (List Int))
  | j6_0 => ((loopO (f18_s9 a0 j6_0) s1_1).bind fun y113 => ((loopO (f18_s10 a1 j6_0) s1_2).bind fun y124 => ((appO? s1_0 [j6_0]).bind fun x125 => some (.inl (x125, y113, y124)))))
noncomputable def f18_j5 (a0 : List Int) (a1 : List Int) (s1_0 : List Int) (s1_1 : Int) (s1_2 : Int) : Unit → Option (((List Int) × Int × Int) ⊕ (List Int))
  | _ => (if (a1.length : Int) ≤ s1_2 then ((ix a0 s1_1).bind fun x127 => f18_j6 a0 a1 s1_0 s1_1 s1_2 x127) else (if s1_1 < (a0.length : Int) then ((ix a0 s1_1).bind fun x129 => ((ix a1 s1_2).bind fun x130 => (if x129 ≤ x130 then f18_j6 a0 a1 s1_0 s1_1 s1_2 x129 else f18_j6 a0 a1 s1_0 s1_1 s1_2 x130))) else ((ix a1 s1_2).bind fun x132 => f18_j6 a0 a1 s1_0 s1_1 s1_2 x132)))
noncomputable def f18_s1 (a0 : List Int) (a1 : List Int) : (List Int) × Int × Int → Option (((List Int) × Int × Int) ⊕ (List Int))
  | (s1_0, s1_1, s1_2) => (if s1_1 < (a0.length : Int) then f18_j5 a0 a1 s1_0 s1_1 s1_2 () else (if s1_2 < (a1.length : Int) then f18_j5 a0 a1 s1_0 s1_1 s1_2 () else some (.inr s1_0)))
noncomputable def f18 (a0 : List Int) (a1 : List Int) : Option (List Int) := ((loopO (f18_s1 a0 a1) ([], 0, 0)).bind fun y136 => some y136)
theorem ok18 (a0 : List Int) (a1 : List Int) (r : (List Int)) (h : f18 a0 a1 = some r) : PC Try.prog 18 [.sl (List.map enc3 a0), .sl (List.map enc3 a1)] (.fr 1 (List.map enc3 r)) := by
 rw [f18] at h
 refine pc_of8 (N := 81) (rs := [.tmp 4]) Try.func18 rfl rfl rfl (Nat.le_of_ble_eq_true rfl) ?_
 refine AW.regL [0, 1] ?_
 generalize hK : AW Try.prog _ _ _ = K
 simp only [go_sem, ↓reduceIte, reduceCtorEq, Nat.reduceAdd, Nat.reduceSub, Nat.reduceMul, Nat.reduceEqDiff, Nat.reduceLT, Nat.reduceLeDiff]
 subst hK
 refine AW.regL [0, 1, 5] ?_
 generalize hK : AW Try.prog _ _ _ = K
 simp only [go_sem, ↓reduceIte, reduceCtorEq, Nat.reduceAdd, Nat.reduceSub, Nat.reduceMul, Nat.reduceEqDiff, Nat.reduceLT, Nat.reduceLeDiff]
 subst hK
 refine AW.regL [0, 1, 5, 6, 7] ?_
 generalize hK : AW Try.prog _ _ _ = K
 simp only [go_sem, ↓reduceIte, reduceCtorEq, Nat.reduceAdd, Nat.reduceSub, Nat.reduceMul, Nat.reduceEqDiff, Nat.reduceLT, Nat.reduceLeDiff]
 subst hK
 refine AW.seq ?_
 refine AW.block ?_
 obtain ⟨y136, hy136, h⟩ := Option.bind_eq_some_iff.1 h
 refine AW.loopO (fun s => ⟨(upd (upd (upd (upd (upd anyF 0 (.sl (List.map enc3 a0))) 1 (.sl (List.map enc3 a1))) 5 (.own 8 0 s.1.length)) 6 (.val (.int .i64 s.2.1))) 7 (.val (.int .i64 s.2.2))), hpL [] [some (.row 1 true (List.map enc3 s.1))], 9⟩) (fun z e st' => e = Exit.exit 0 ∧ st' = ⟨(upd anyF 5 (.own 8 0 z.length)), hpL [] [some (.row 1 true (List.map enc3 z))], 9⟩) hy136 ?_ ?_ ?_
 ·refine Ent.trans (Ent.nilOwn 5 1 (by decide) rfl) ?_
  refine Ent.can [40] _ _ _ rfl (by first | decide | simp) rfl ?_ ?_ ?_
  · exact (((((RF.any.pv (by first | rfl | simp only [go_sem]) (by first | rfl | simp [upd_ap, hpL_ap, tau, mapT, mapTL, bytesI_len])).pv (by first | rfl | simp only [go_sem]) (by first | rfl | simp [upd_ap, hpL_ap, tau, mapT, mapTL, bytesI_len])).po (by decide) (by first | rfl | simp [upd_ap, hpL_ap, tau, mapT, mapTL, bytesI_len])).pv (by first | rfl | simp only [go_sem]) (by first | rfl | simp [upd_ap, hpL_ap, tau, mapT, mapTL, bytesI_len])).pv (by first | rfl | simp only [go_sem]) (by first | rfl | simp [upd_ap, hpL_ap, tau, mapT, mapTL, bytesI_len]))
  · exact .nil _
  · exact .cons (.eq (by first | rfl | simp only [go_sem]) (by first | rfl | simp [upd_ap, hpL_ap, tau, mapT, mapTL, bytesI_len])) (.nil _)
 ·clear h hy136
  rintro ⟨s1_0, s1_1, s1_2⟩ x h
  rw [f18_s1] at h
  refine AW.join (fun s => ⟨(upd (upd (upd (upd (upd anyF 0 (.sl (List.map enc3 a0))) 1 (.sl (List.map enc3 a1))) 5 (.own 8 0 s1_0.length)) 6 (.val (.int .i64 s1_1))) 7 (.val (.int .i64 s1_2))), hpL [] [some (.row 1 true (List.map enc3 s1_0))], 9⟩) (fun s => f18_j5 a0 a1 s1_0 s1_1 s1_2 s = some x) ?_ ?_
  ·by_cases c133 : s1_1 < (a0.length : Int)
   ·rw [if_pos c133] at h
    refine AW.regL [0, 1, 5, 6, 7, 18] ?_
    generalize hK : AW Try.prog _ _ _ = K
    simp only [go_sem, ↓reduceIte, reduceCtorEq, Nat.reduceAdd, Nat.reduceSub, Nat.reduceMul, Nat.reduceEqDiff, Nat.reduceLT, Nat.reduceLeDiff, eq_true c133]
    subst hK
    refine AW.ifBT rfl rfl ?_
    refine AW.skip ?_
    refine thenA_n ?_
    refine ⟨_, h, ?_⟩
    refine Ent.can [8] _ _ _ rfl (by first | decide | simp) rfl ?_ ?_ ?_
    · exact (((((RF.any.pv (by first | rfl | simp only [go_sem]) (by first | rfl | simp [upd_ap, hpL_ap, tau, mapT, mapTL, bytesI_len, eq_true c133])).pv (by first | rfl | simp only [go_sem]) (by first | rfl | simp [upd_ap, hpL_ap, tau, mapT, mapTL, bytesI_len, eq_true c133])).po (by decide) (by first | rfl | simp [upd_ap, hpL_ap, tau, mapT, mapTL, bytesI_len, eq_true c133])).pv (by first | rfl | simp only [go_sem]) (by first | rfl | simp [upd_ap, hpL_ap, tau, mapT, mapTL, bytesI_len, eq_true c133])).pv (by first | rfl | simp only [go_sem]) (by first | rfl | simp [upd_ap, hpL_ap, tau, mapT, mapTL, bytesI_len, eq_true c133]))
    · exact .nil _
    · exact .cons (.eq (by first | rfl | simp only [go_sem]) (by first | rfl | simp [upd_ap, hpL_ap, tau, mapT, mapTL, bytesI_len, eq_true c133])) (.nil _)
   ·rw [if_neg c133] at h
    refine AW.regL [0, 1, 5, 6, 7, 18] ?_
    generalize hK : AW Try.prog _ _ _ = K
    simp only [go_sem, ↓reduceIte, reduceCtorEq, Nat.reduceAdd, Nat.reduceSub, Nat.reduceMul, Nat.reduceEqDiff, Nat.reduceLT, Nat.reduceLeDiff, eq_false c133]
    subst hK
    by_cases c134 : s1_2 < (a1.length : Int)
    ·rw [if_pos c134] at h
     refine AW.ifT rfl c134 ?_
     refine AW.skip ?_
     refine thenA_n ?_
     refine ⟨_, h, ?_⟩
     refine Ent.can [8] _ _ _ rfl (by first | decide | simp) rfl ?_ ?_ ?_
     · exact (((((RF.any.pv (by first | rfl | simp only [go_sem]) (by first | rfl | simp [upd_ap, hpL_ap, tau, mapT, mapTL, bytesI_len, eq_false c133, eq_true c134])).pv (by first | rfl | simp only [go_sem]) (by first | rfl | simp [upd_ap, hpL_ap, tau, mapT, mapTL, bytesI_len, eq_false c133, eq_true c134])).po (by decide) (by first | rfl | simp [upd_ap, hpL_ap, tau, mapT, mapTL, bytesI_len, eq_false c133, eq_true c134])).pv (by first | rfl | simp only [go_sem]) (by first | rfl | simp [upd_ap, hpL_ap, tau, mapT, mapTL, bytesI_len, eq_false c133, eq_true c134])).pv (by first | rfl | simp only [go_sem]) (by first | rfl | simp [upd_ap, hpL_ap, tau, mapT, mapTL, bytesI_len, eq_false c133, eq_true c134]))
     · exact .nil _
     · exact .cons (.eq (by first | rfl | simp only [go_sem]) (by first | rfl | simp [upd_ap, hpL_ap, tau, mapT, mapTL, bytesI_len, eq_false c133, eq_true c134])) (.nil _)
    ·rw [if_neg c134] at h
     refine AW.ifF rfl c134 ?_
     refine AW.exit ?_
     refine thenA_x ?_
     refine thenA_x ?_
     refine ⟨_, (Option.some.inj h).symm, _, ?_, rfl, rfl⟩
     refine Ent.can [8] _ _ _ rfl (by first | decide | simp) rfl ?_ ?_ ?_
     · exact (RF.any.po (by decide) (by first | rfl | simp [upd_ap, hpL_ap, tau, mapT, mapTL, bytesI_len, eq_false c133, eq_false c134]))
     · exact .nil _
     · exact .cons (.eq (by first | rfl | simp only [go_sem]) (by first | rfl | simp [upd_ap, hpL_ap, tau, mapT, mapTL, bytesI_len, eq_false c133, eq_false c134])) (.nil _)
  ·clear h
   rintro ⟨⟩ h
   rw [f18_j5] at h
   refine AW.block ?_
   refine AW.regL [0, 1, 5, 6, 7] ?_
   generalize hK : AW Try.prog _ _ _ = K
   simp only [go_sem, ↓reduceIte, reduceCtorEq, Nat.reduceAdd, Nat.reduceSub, Nat.reduceMul, Nat.reduceEqDiff, Nat.reduceLT, Nat.reduceLeDiff]
   subst hK
   refine AW.join (fun s => ⟨(upd (upd (upd (upd (upd (upd anyF 0 (.sl (List.map enc3 a0))) 1 (.sl (List.map enc3 a1))) 5 (.own 8 0 s1_0.length)) 6 (.val (.int .i64 s1_1))) 7 (.val (.int .i64 s1_2))) 8 (.val (.int .i64 s))), hpL [] [some (.row 1 true (List.map enc3 s1_0))], 9⟩) (fun s => f18_j6 a0 a1 s1_0 s1_1 s1_2 s = some x) ?_ ?_
   ·by_cases c126 : (a1.length : Int) ≤ s1_2
    ·rw [if_pos c126] at h
     refine AW.regdL [0, 1, 5, 6, 7, 39] [[], [], [1], [0, 1, 2], [0, 1, 2, 3], [0, 1, 2, 3, 4], [0, 1, 2, 3, 4], [0, 1, 2, 3, 4, 6], [0, 1, 2, 3, 4, 5, 6, 7], [0, 1, 2, 3, 4, 5, 6, 7, 8], [0, 1, 2, 3, 4, 5, 6, 7, 8, 9], [0, 1, 2, 3, 4, 5, 6, 7, 8, 9], [0, 1, 2, 3, 4, 5, 6, 7, 8, 9, 10, 11], [0, 1, 2, 3, 4, 5, 6, 7, 8, 9, 10, 11, 12], [0, 1, 2, 3, 4, 5, 6, 7, 8, 9], [0, 1, 2, 3, 4, 5, 6, 7, 8, 9], [0, 1, 2, 3, 4, 5, 6, 7, 8, 9, 14, 15], [0, 1, 2, 3, 4, 5, 6, 7, 8, 9, 14, 15, 16], [0, 1, 2, 3, 4, 5, 6, 7, 8, 9, 10, 11, 12, 13, 14, 15, 16, 17], [0, 1, 2, 3, 4, 5, 6, 7, 8, 9, 10, 11, 12, 13, 14, 15, 16, 17, 18], [0, 1, 2, 3, 4, 5, 6, 7, 8, 9, 10, 11, 12, 13, 14, 15, 16, 17, 18, 19]] [0, 1, 2, 3, 4, 5, 6, 7, 8, 9, 10, 11, 12, 13, 14, 15, 16, 17, 18, 19, 20] noFt (fun _ _ _ h => by simp [noFt] at h) draws (by kernel_rfl) (by kernel_rfl) ?_
     generalize hK : AW Try.prog _ _ _ = K
     simp only [go_sem, ↓reduceIte, reduceCtorEq, Nat.reduceAdd, Nat.reduceSub, Nat.reduceMul, Nat.reduceEqDiff, Nat.reduceLT, Nat.reduceLeDiff, eq_true c126]
     subst hK
     refine AW.ifBT rfl rfl ?_
     obtain ⟨x127, hx127, h⟩ := Option.bind_eq_some_iff.1 h
     obtain ⟨hx127a, hx127b⟩ := ix_some.1 hx127
     refine AW.regionL [0, 1, 5, 6, 7, 8] ?_
     generalize hK : thenA _ _ Exit.normal = K
     simp only [go_sem, ↓reduceIte, reduceCtorEq, Nat.reduceAdd, Nat.reduceSub, Nat.reduceMul, Nat.reduceEqDiff, Nat.reduceLT, Nat.reduceLeDiff, eq_true c126, natOf_le hx127a, hx127b]
     subst hK
     refine thenA_n ?_
     refine ⟨_, h, ?_⟩
     refine Ent.can [8] _ _ _ rfl (by first | decide | simp) rfl ?_ ?_ ?_
     · exact ((((((RF.any.pv (by first | rfl | simp only [go_sem]) (by first | rfl | simp [upd_ap, hpL_ap, tau, mapT, mapTL, bytesI_len, eq_true c126])).pv (by first | rfl | simp only [go_sem]) (by first | rfl | simp [upd_ap, hpL_ap, tau, mapT, mapTL, bytesI_len, eq_true c126])).po (by decide) (by first | rfl | simp [upd_ap, hpL_ap, tau, mapT, mapTL, bytesI_len, eq_true c126])).pv (by first | rfl | simp only [go_sem]) (by first | rfl | simp [upd_ap, hpL_ap, tau, mapT, mapTL, bytesI_len, eq_true c126])).pv (by first | rfl | simp only [go_sem]) (by first | rfl | simp [upd_ap, hpL_ap, tau, mapT, mapTL, bytesI_len, eq_true c126])).pv (by first | rfl | simp only [go_sem]) (by first | rfl | simp [upd_ap, hpL_ap, tau, mapT, mapTL, bytesI_len, eq_true c126]))
     · exact .nil _
     · exact .cons (.eq (by first | rfl | simp only [go_sem]) (by first | rfl | simp [upd_ap, hpL_ap, tau, mapT, mapTL, bytesI_len, eq_true c126])) (.nil _)
    ·rw [if_neg c126] at h
     by_cases c128 : s1_1 < (a0.length : Int)
     ·rw [if_pos c128] at h
      obtain ⟨x129, hx129, h⟩ := Option.bind_eq_some_iff.1 h
      obtain ⟨hx129a, hx129b⟩ := ix_some.1 hx129
      obtain ⟨x130, hx130, h⟩ := Option.bind_eq_some_iff.1 h
      obtain ⟨hx130a, hx130b⟩ := ix_some.1 hx130
      refine AW.regdL [0, 1, 5, 6, 7, 39] [[], [], [1], [0, 1, 2], [0, 1, 2, 3], [0, 1, 2, 3, 4], [0, 1, 2, 3, 4], [0, 1, 2, 3, 4, 6], [0, 1, 2, 3, 4, 5, 6, 7], [0, 1, 2, 3, 4, 5, 6, 7, 8], [0, 1, 2, 3, 4, 5, 6, 7, 8, 9], [0, 1, 2, 3, 4, 5, 6, 7, 8, 9], [0, 1, 2, 3, 4, 5, 6, 7, 8, 9, 10, 11], [0, 1, 2, 3, 4, 5, 6, 7, 8, 9, 10, 11, 12], [0, 1, 2, 3, 4, 5, 6, 7, 8, 9], [0, 1, 2, 3, 4, 5, 6, 7, 8, 9], [0, 1, 2, 3, 4, 5, 6, 7, 8, 9, 14, 15], [0, 1, 2, 3, 4, 5, 6, 7, 8, 9, 14, 15, 16], [0, 1, 2, 3, 4, 5, 6, 7, 8, 9, 10, 11, 12, 13, 14, 15, 16, 17], [0, 1, 2, 3, 4, 5, 6, 7, 8, 9, 10, 11, 12, 13, 14, 15, 16, 17, 18], [0, 1, 2, 3, 4, 5, 6, 7, 8, 9, 10, 11, 12, 13, 14, 15, 16, 17, 18, 19]] [0, 1, 2, 3, 4, 5, 6, 7, 8, 9, 10, 11, 12, 13, 14, 15, 16, 17, 18, 19, 20] noFt (fun _ _ _ h => by simp [noFt] at h) draws (by kernel_rfl) (by kernel_rfl) ?_
      generalize hK : AW Try.prog _ _ _ = K
      simp only [go_sem, ↓reduceIte, reduceCtorEq, Nat.reduceAdd, Nat.reduceSub, Nat.reduceMul, Nat.reduceEqDiff, Nat.reduceLT, Nat.reduceLeDiff, eq_false c126, eq_true c128, natOf_le hx129a, hx129b, natOf_le hx130a, hx130b]
      subst hK
      by_cases c131 : x129 ≤ x130
      ·rw [if_pos c131] at h
       refine AW.ifT rfl c131 ?_
       refine AW.regionL [0, 1, 5, 6, 7, 8] ?_
       generalize hK : thenA _ _ Exit.normal = K
       simp only [go_sem, ↓reduceIte, reduceCtorEq, Nat.reduceAdd, Nat.reduceSub, Nat.reduceMul, Nat.reduceEqDiff, Nat.reduceLT, Nat.reduceLeDiff, eq_false c126, eq_true c128, eq_true c131, natOf_le hx129a, hx129b]
       subst hK
       refine thenA_n ?_
       refine ⟨_, h, ?_⟩
       refine Ent.can [8] _ _ _ rfl (by first | decide | simp) rfl ?_ ?_ ?_
       · exact ((((((RF.any.pv (by first | rfl | simp only [go_sem]) (by first | rfl | simp [upd_ap, hpL_ap, tau, mapT, mapTL, bytesI_len, eq_false c126, eq_true c128, eq_true c131])).pv (by first | rfl | simp only [go_sem]) (by first | rfl | simp [upd_ap, hpL_ap, tau, mapT, mapTL, bytesI_len, eq_false c126, eq_true c128, eq_true c131])).po (by decide) (by first | rfl | simp [upd_ap, hpL_ap, tau, mapT, mapTL, bytesI_len, eq_false c126, eq_true c128, eq_true c131])).pv (by first | rfl | simp only [go_sem]) (by first | rfl | simp [upd_ap, hpL_ap, tau, mapT, mapTL, bytesI_len, eq_false c126, eq_true c128, eq_true c131])).pv (by first | rfl | simp only [go_sem]) (by first | rfl | simp [upd_ap, hpL_ap, tau, mapT, mapTL, bytesI_len, eq_false c126, eq_true c128, eq_true c131])).pv (by first | rfl | simp only [go_sem]) (by first | rfl | simp [upd_ap, hpL_ap, tau, mapT, mapTL, bytesI_len, eq_false c126, eq_true c128, eq_true c131]))
       · exact .nil _
       · exact .cons (.eq (by first | rfl | simp only [go_sem]) (by first | rfl | simp [upd_ap, hpL_ap, tau, mapT, mapTL, bytesI_len, eq_false c126, eq_true c128, eq_true c131])) (.nil _)
      ·rw [if_neg c131] at h
       refine AW.ifF rfl c131 ?_
       refine AW.regionL [0, 1, 5, 6, 7, 8] ?_
       generalize hK : thenA _ _ Exit.normal = K
       simp only [go_sem, ↓reduceIte, reduceCtorEq, Nat.reduceAdd, Nat.reduceSub, Nat.reduceMul, Nat.reduceEqDiff, Nat.reduceLT, Nat.reduceLeDiff, eq_false c126, eq_true c128, eq_false c131, natOf_le hx130a, hx130b]
       subst hK
       refine thenA_n ?_
       refine ⟨_, h, ?_⟩
       refine Ent.can [8] _ _ _ rfl (by first | decide | simp) rfl ?_ ?_ ?_
       · exact ((((((RF.any.pv (by first | rfl | simp only [go_sem]) (by first | rfl | simp [upd_ap, hpL_ap, tau, mapT, mapTL, bytesI_len, eq_false c126, eq_true c128, eq_false c131])).pv (by first | rfl | simp only [go_sem]) (by first | rfl | simp [upd_ap, hpL_ap, tau, mapT, mapTL, bytesI_len, eq_false c126, eq_true c128, eq_false c131])).po (by decide) (by first | rfl | simp [upd_ap, hpL_ap, tau, mapT, mapTL, bytesI_len, eq_false c126, eq_true c128, eq_false c131])).pv (by first | rfl | simp only [go_sem]) (by first | rfl | simp [upd_ap, hpL_ap, tau, mapT, mapTL, bytesI_len, eq_false c126, eq_true c128, eq_false c131])).pv (by first | rfl | simp only [go_sem]) (by first | rfl | simp [upd_ap, hpL_ap, tau, mapT, mapTL, bytesI_len, eq_false c126, eq_true c128, eq_false c131])).pv (by first | rfl | simp only [go_sem]) (by first | rfl | simp [upd_ap, hpL_ap, tau, mapT, mapTL, bytesI_len, eq_false c126, eq_true c128, eq_false c131]))
       · exact .nil _
       · exact .cons (.eq (by first | rfl | simp only [go_sem]) (by first | rfl | simp [upd_ap, hpL_ap, tau, mapT, mapTL, bytesI_len, eq_false c126, eq_true c128, eq_false c131])) (.nil _)
     ·rw [if_neg c128] at h
      refine AW.regdL [0, 1, 5, 6, 7, 39] [[], [], [1], [0, 1, 2], [0, 1, 2, 3], [0, 1, 2, 3, 4], [0, 1, 2, 3, 4], [0, 1, 2, 3, 4, 6], [0, 1, 2, 3, 4, 5, 6, 7], [0, 1, 2, 3, 4, 5, 6, 7, 8], [0, 1, 2, 3, 4, 5, 6, 7, 8, 9], [0, 1, 2, 3, 4, 5, 6, 7, 8, 9], [0, 1, 2, 3, 4, 5, 6, 7, 8, 9, 10, 11], [0, 1, 2, 3, 4, 5, 6, 7, 8, 9, 10, 11, 12], [0, 1, 2, 3, 4, 5, 6, 7, 8, 9], [0, 1, 2, 3, 4, 5, 6, 7, 8, 9], [0, 1, 2, 3, 4, 5, 6, 7, 8, 9, 14, 15], [0, 1, 2, 3, 4, 5, 6, 7, 8, 9, 14, 15, 16], [0, 1, 2, 3, 4, 5, 6, 7, 8, 9, 10, 11, 12, 13, 14, 15, 16, 17], [0, 1, 2, 3, 4, 5, 6, 7, 8, 9, 10, 11, 12, 13, 14, 15, 16, 17, 18], [0, 1, 2, 3, 4, 5, 6, 7, 8, 9, 10, 11, 12, 13, 14, 15, 16, 17, 18, 19]] [0, 1, 2, 3, 4, 5, 6, 7, 8, 9, 10, 11, 12, 13, 14, 15, 16, 17, 18, 19, 20] noFt (fun _ _ _ h => by simp [noFt] at h) draws (by kernel_rfl) (by kernel_rfl) ?_
      generalize hK : AW Try.prog _ _ _ = K
      simp only [go_sem, ↓reduceIte, reduceCtorEq, Nat.reduceAdd, Nat.reduceSub, Nat.reduceMul, Nat.reduceEqDiff, Nat.reduceLT, Nat.reduceLeDiff, eq_false c126, eq_false c128]
      subst hK
      refine AW.ifBF rfl rfl ?_
      obtain ⟨x132, hx132, h⟩ := Option.bind_eq_some_iff.1 h
      obtain ⟨hx132a, hx132b⟩ := ix_some.1 hx132
      refine AW.regionL [0, 1, 5, 6, 7, 8] ?_
      generalize hK : thenA _ _ Exit.normal = K
      simp only [go_sem, ↓reduceIte, reduceCtorEq, Nat.reduceAdd, Nat.reduceSub, Nat.reduceMul, Nat.reduceEqDiff, Nat.reduceLT, Nat.reduceLeDiff, eq_false c126, eq_false c128, natOf_le hx132a, hx132b]
      subst hK
      refine thenA_n ?_
      refine ⟨_, h, ?_⟩
      refine Ent.can [8] _ _ _ rfl (by first | decide | simp) rfl ?_ ?_ ?_
      · exact ((((((RF.any.pv (by first | rfl | simp only [go_sem]) (by first | rfl | simp [upd_ap, hpL_ap, tau, mapT, mapTL, bytesI_len, eq_false c126, eq_false c128])).pv (by first | rfl | simp only [go_sem]) (by first | rfl | simp [upd_ap, hpL_ap, tau, mapT, mapTL, bytesI_len, eq_false c126, eq_false c128])).po (by decide) (by first | rfl | simp [upd_ap, hpL_ap, tau, mapT, mapTL, bytesI_len, eq_false c126, eq_false c128])).pv (by first | rfl | simp only [go_sem]) (by first | rfl | simp [upd_ap, hpL_ap, tau, mapT, mapTL, bytesI_len, eq_false c126, eq_false c128])).pv (by first | rfl | simp only [go_sem]) (by first | rfl | simp [upd_ap, hpL_ap, tau, mapT, mapTL, bytesI_len, eq_false c126, eq_false c128])).pv (by first | rfl | simp only [go_sem]) (by first | rfl | simp [upd_ap, hpL_ap, tau, mapT, mapTL, bytesI_len, eq_false c126, eq_false c128]))
      · exact .nil _
      · exact .cons (.eq (by first | rfl | simp only [go_sem]) (by first | rfl | simp [upd_ap, hpL_ap, tau, mapT, mapTL, bytesI_len, eq_false c126, eq_false c128])) (.nil _)
   ·clear h
    rintro j6_0 h
    rw [f18_j6] at h
    refine AW.seq ?_
    refine AW.block ?_
    obtain ⟨y113, hy113, h⟩ := Option.bind_eq_some_iff.1 h
    refine AW.loopO (fun s => ⟨(upd (upd (upd (upd (upd (upd anyF 0 (.sl (List.map enc3 a0))) 1 (.sl (List.map enc3 a1))) 5 (.own 8 0 s1_0.length)) 6 (.val (.int .i64 s))) 7 (.val (.int .i64 s1_2))) 8 (.val (.int .i64 j6_0))), hpL [] [some (.row 1 true (List.map enc3 s1_0))], 9⟩) (fun z e st' => e = Exit.exit 2 ∧ st' = ⟨(upd (upd (upd (upd (upd (upd anyF 0 (.sl (List.map enc3 a0))) 1 (.sl (List.map enc3 a1))) 5 (.own 8 0 s1_0.length)) 6 (.val (.int .i64 z))) 7 (.val (.int .i64 s1_2))) 8 (.val (.int .i64 j6_0))), hpL [] [some (.row 1 true (List.map enc3 s1_0))], 9⟩) hy113 ?_ ?_ ?_
    ·refine Ent.can [8] _ _ _ rfl (by first | decide | simp) rfl ?_ ?_ ?_
     · exact ((((((RF.any.pv (by first | rfl | simp only [go_sem]) (by first | rfl | simp [upd_ap, hpL_ap, tau, mapT, mapTL, bytesI_len])).pv (by first | rfl | simp only [go_sem]) (by first | rfl | simp [upd_ap, hpL_ap, tau, mapT, mapTL, bytesI_len])).po (by decide) (by first | rfl | simp [upd_ap, hpL_ap, tau, mapT, mapTL, bytesI_len])).pv (by first | rfl | simp only [go_sem]) (by first | rfl | simp [upd_ap, hpL_ap, tau, mapT, mapTL, bytesI_len])).pv (by first | rfl | simp only [go_sem]) (by first | rfl | simp [upd_ap, hpL_ap, tau, mapT, mapTL, bytesI_len])).pv (by first | rfl | simp only [go_sem]) (by first | rfl | simp [upd_ap, hpL_ap, tau, mapT, mapTL, bytesI_len]))
     · exact .nil _
     · exact .cons (.eq (by first | rfl | simp only [go_sem]) (by first | rfl | simp [upd_ap, hpL_ap, tau, mapT, mapTL, bytesI_len])) (.nil _)
    ·clear h hy113
     rintro s9_0 x h
     rw [f18_s9] at h
     refine AW.seq ?_
     by_cases c109 : s9_0 < (a0.length : Int)
     ·rw [if_pos c109] at h
      obtain ⟨x110, hx110, h⟩ := Option.bind_eq_some_iff.1 h
      obtain ⟨hx110a, hx110b⟩ := ix_some.1 hx110
      refine AW.regL [0, 1, 5, 6, 7, 8, 59] ?_
      generalize hK : AW Try.prog _ _ _ = K
      simp only [go_sem, ↓reduceIte, reduceCtorEq, Nat.reduceAdd, Nat.reduceSub, Nat.reduceMul, Nat.reduceEqDiff, Nat.reduceLT, Nat.reduceLeDiff, eq_true c109, natOf_le hx110a, hx110b]
      subst hK
      by_cases c111 : x110 = j6_0
      ·rw [if_pos c111] at h
       refine AW.ifT rfl c111 ?_
       refine AW.skip ?_
       refine thenA_n ?_
       refine AW.block ?_
       refine AW.regionL [0, 1, 5, 6, 7, 8] ?_
       generalize hK : inBlockA _ _ Exit.normal = K
       simp only [go_sem, ↓reduceIte, reduceCtorEq, Nat.reduceAdd, Nat.reduceSub, Nat.reduceMul, Nat.reduceEqDiff, Nat.reduceLT, Nat.reduceLeDiff, eq_true c109, eq_true c111]
       subst hK
       refine block_n ?_
       refine thenA_n ?_
       refine ⟨_, (Option.some.inj h).symm, ?_⟩
       refine Ent.can [8] _ _ _ rfl (by first | decide | simp) rfl ?_ ?_ ?_
       · exact ((((((RF.any.pv (by first | rfl | simp only [go_sem]) (by first | rfl | simp [upd_ap, hpL_ap, tau, mapT, mapTL, bytesI_len, eq_true c109, eq_true c111])).pv (by first | rfl | simp only [go_sem]) (by first | rfl | simp [upd_ap, hpL_ap, tau, mapT, mapTL, bytesI_len, eq_true c109, eq_true c111])).po (by decide) (by first | rfl | simp [upd_ap, hpL_ap, tau, mapT, mapTL, bytesI_len, eq_true c109, eq_true c111])).pv (by first | rfl | simp only [go_sem]) (by first | rfl | simp [upd_ap, hpL_ap, tau, mapT, mapTL, bytesI_len, eq_true c109, eq_true c111])).pv (by first | rfl | simp only [go_sem]) (by first | rfl | simp [upd_ap, hpL_ap, tau, mapT, mapTL, bytesI_len, eq_true c109, eq_true c111])).pv (by first | rfl | simp only [go_sem]) (by first | rfl | simp [upd_ap, hpL_ap, tau, mapT, mapTL, bytesI_len, eq_true c109, eq_true c111]))
       · exact .nil _
       · exact .cons (.eq (by first | rfl | simp only [go_sem]) (by first | rfl | simp [upd_ap, hpL_ap, tau, mapT, mapTL, bytesI_len, eq_true c109, eq_true c111])) (.nil _)
      ·rw [if_neg c111] at h
       refine AW.ifF rfl c111 ?_
       refine AW.exit ?_
       refine thenA_x ?_
       refine thenA_x ?_
       refine ⟨_, (Option.some.inj h).symm, _, ?_, rfl, rfl⟩
       refine Ent.can [8] _ _ _ rfl (by first | decide | simp) rfl ?_ ?_ ?_
       · exact ((((((RF.any.pv (by first | rfl | simp only [go_sem]) (by first | rfl | simp [upd_ap, hpL_ap, tau, mapT, mapTL, bytesI_len, eq_true c109, eq_false c111])).pv (by first | rfl | simp only [go_sem]) (by first | rfl | simp [upd_ap, hpL_ap, tau, mapT, mapTL, bytesI_len, eq_true c109, eq_false c111])).po (by decide) (by first | rfl | simp [upd_ap, hpL_ap, tau, mapT, mapTL, bytesI_len, eq_true c109, eq_false c111])).pv (by first | rfl | simp only [go_sem]) (by first | rfl | simp [upd_ap, hpL_ap, tau, mapT, mapTL, bytesI_len, eq_true c109, eq_false c111])).pv (by first | rfl | simp only [go_sem]) (by first | rfl | simp [upd_ap, hpL_ap, tau, mapT, mapTL, bytesI_len, eq_true c109, eq_false c111])).pv (by first | rfl | simp only [go_sem]) (by first | rfl | simp [upd_ap, hpL_ap, tau, mapT, mapTL, bytesI_len, eq_true c109, eq_false c111]))
       · exact .nil _
       · exact .cons (.eq (by first | rfl | simp only [go_sem]) (by first | rfl | simp [upd_ap, hpL_ap, tau, mapT, mapTL, bytesI_len, eq_true c109, eq_false c111])) (.nil _)
     ·rw [if_neg c109] at h
      refine AW.regL [0, 1, 5, 6, 7, 8, 59] ?_
      generalize hK : AW Try.prog _ _ _ = K
      simp only [go_sem, ↓reduceIte, reduceCtorEq, Nat.reduceAdd, Nat.reduceSub, Nat.reduceMul, Nat.reduceEqDiff, Nat.reduceLT, Nat.reduceLeDiff, eq_false c109]
      subst hK
      refine AW.ifBF rfl rfl ?_
      refine AW.exit ?_
      refine thenA_x ?_
      refine thenA_x ?_
      refine ⟨_, (Option.some.inj h).symm, _, ?_, rfl, rfl⟩
      refine Ent.can [8] _ _ _ rfl (by first | decide | simp) rfl ?_ ?_ ?_
      · exact ((((((RF.any.pv (by first | rfl | simp only [go_sem]) (by first | rfl | simp [upd_ap, hpL_ap, tau, mapT, mapTL, bytesI_len, eq_false c109])).pv (by first | rfl | simp only [go_sem]) (by first | rfl | simp [upd_ap, hpL_ap, tau, mapT, mapTL, bytesI_len, eq_false c109])).po (by decide) (by first | rfl | simp [upd_ap, hpL_ap, tau, mapT, mapTL, bytesI_len, eq_false c109])).pv (by first | rfl | simp only [go_sem]) (by first | rfl | simp [upd_ap, hpL_ap, tau, mapT, mapTL, bytesI_len, eq_false c109])).pv (by first | rfl | simp only [go_sem]) (by first | rfl | simp [upd_ap, hpL_ap, tau, mapT, mapTL, bytesI_len, eq_false c109])).pv (by first | rfl | simp only [go_sem]) (by first | rfl | simp [upd_ap, hpL_ap, tau, mapT, mapTL, bytesI_len, eq_false c109]))
      · exact .nil _
      · exact .cons (.eq (by first | rfl | simp only [go_sem]) (by first | rfl | simp [upd_ap, hpL_ap, tau, mapT, mapTL, bytesI_len, eq_false c109])) (.nil _)
    ·intro e st' hX
     try dsimp only at h
     try dsimp only at hX
     obtain ⟨rfl, rfl⟩ := hX
     refine ⟨_, Ent.refl, ?_⟩
     refine block_x ?_
     refine thenA_n ?_
     refine AW.seq ?_
     refine AW.block ?_
     obtain ⟨y124, hy124, h⟩ := Option.bind_eq_some_iff.1 h
     refine AW.loopO (fun s => ⟨(upd (upd (upd (upd (upd (upd anyF 0 (.sl (List.map enc3 a0))) 1 (.sl (List.map enc3 a1))) 5 (.own 8 0 s1_0.length)) 6 (.val (.int .i64 y113))) 7 (.val (.int .i64 s))) 8 (.val (.int .i64 j6_0))), hpL [] [some (.row 1 true (List.map enc3 s1_0))], 9⟩) (fun z e st' => e = Exit.exit 4 ∧ st' = ⟨(upd (upd (upd (upd (upd (upd anyF 0 (.sl (List.map enc3 a0))) 1 (.sl (List.map enc3 a1))) 5 (.own 8 0 s1_0.length)) 6 (.val (.int .i64 y113))) 7 (.val (.int .i64 z))) 8 (.val (.int .i64 j6_0))), hpL [] [some (.row 1 true (List.map enc3 s1_0))], 9⟩) hy124 ?_ ?_ ?_
     ·refine Ent.can [8] _ _ _ rfl (by first | decide | simp) rfl ?_ ?_ ?_
      · exact ((((((RF.any.pv (by first | rfl | simp only [go_sem]) (by first | rfl | simp [upd_ap, hpL_ap, tau, mapT, mapTL, bytesI_len])).pv (by first | rfl | simp only [go_sem]) (by first | rfl | simp [upd_ap, hpL_ap, tau, mapT, mapTL, bytesI_len])).po (by decide) (by first | rfl | simp [upd_ap, hpL_ap, tau, mapT, mapTL, bytesI_len])).pv (by first | rfl | simp only [go_sem]) (by first | rfl | simp [upd_ap, hpL_ap, tau, mapT, mapTL, bytesI_len])).pv (by first | rfl | simp only [go_sem]) (by first | rfl | simp [upd_ap, hpL_ap, tau, mapT, mapTL, bytesI_len])).pv (by first | rfl | simp only [go_sem]) (by first | rfl | simp [upd_ap, hpL_ap, tau, mapT, mapTL, bytesI_len]))
      · exact .nil _
      · exact .cons (.eq (by first | rfl | simp only [go_sem]) (by first | rfl | simp [upd_ap, hpL_ap, tau, mapT, mapTL, bytesI_len])) (.nil _)
     ·clear h hy124
      rintro s10_0 x h
      rw [f18_s10] at h
      refine AW.seq ?_
      by_cases c120 : s10_0 < (a1.length : Int)
      ·rw [if_pos c120] at h
       obtain ⟨x121, hx121, h⟩ := Option.bind_eq_some_iff.1 h
       obtain ⟨hx121a, hx121b⟩ := ix_some.1 hx121
       refine AW.regL [0, 1, 5, 6, 7, 8, 73] ?_
       generalize hK : AW Try.prog _ _ _ = K
       simp only [go_sem, ↓reduceIte, reduceCtorEq, Nat.reduceAdd, Nat.reduceSub, Nat.reduceMul, Nat.reduceEqDiff, Nat.reduceLT, Nat.reduceLeDiff, eq_true c120, natOf_le hx121a, hx121b]
       subst hK
       by_cases c122 : x121 = j6_0
       ·rw [if_pos c122] at h
        refine AW.ifT rfl c122 ?_
        refine AW.skip ?_
        refine thenA_n ?_
        refine AW.block ?_
        refine AW.regionL [0, 1, 5, 6, 7, 8] ?_
        generalize hK : inBlockA _ _ Exit.normal = K
        simp only [go_sem, ↓reduceIte, reduceCtorEq, Nat.reduceAdd, Nat.reduceSub, Nat.reduceMul, Nat.reduceEqDiff, Nat.reduceLT, Nat.reduceLeDiff, eq_true c120, eq_true c122]
        subst hK
        refine block_n ?_
        refine thenA_n ?_
        refine ⟨_, (Option.some.inj h).symm, ?_⟩
        refine Ent.can [8] _ _ _ rfl (by first | decide | simp) rfl ?_ ?_ ?_
        · exact ((((((RF.any.pv (by first | rfl | simp only [go_sem]) (by first | rfl | simp [upd_ap, hpL_ap, tau, mapT, mapTL, bytesI_len, eq_true c120, eq_true c122])).pv (by first | rfl | simp only [go_sem]) (by first | rfl | simp [upd_ap, hpL_ap, tau, mapT, mapTL, bytesI_len, eq_true c120, eq_true c122])).po (by decide) (by first | rfl | simp [upd_ap, hpL_ap, tau, mapT, mapTL, bytesI_len, eq_true c120, eq_true c122])).pv (by first | rfl | simp only [go_sem]) (by first | rfl | simp [upd_ap, hpL_ap, tau, mapT, mapTL, bytesI_len, eq_true c120, eq_true c122])).pv (by first | rfl | simp only [go_sem]) (by first | rfl | simp [upd_ap, hpL_ap, tau, mapT, mapTL, bytesI_len, eq_true c120, eq_true c122])).pv (by first | rfl | simp only [go_sem]) (by first | rfl | simp [upd_ap, hpL_ap, tau, mapT, mapTL, bytesI_len, eq_true c120, eq_true c122]))
        · exact .nil _
        · exact .cons (.eq (by first | rfl | simp only [go_sem]) (by first | rfl | simp [upd_ap, hpL_ap, tau, mapT, mapTL, bytesI_len, eq_true c120, eq_true c122])) (.nil _)
       ·rw [if_neg c122] at h
        refine AW.ifF rfl c122 ?_
        refine AW.exit ?_
        refine thenA_x ?_
        refine thenA_x ?_
        refine ⟨_, (Option.some.inj h).symm, _, ?_, rfl, rfl⟩
        refine Ent.can [8] _ _ _ rfl (by first | decide | simp) rfl ?_ ?_ ?_
        · exact ((((((RF.any.pv (by first | rfl | simp only [go_sem]) (by first | rfl | simp [upd_ap, hpL_ap, tau, mapT, mapTL, bytesI_len, eq_true c120, eq_false c122])).pv (by first | rfl | simp only [go_sem]) (by first | rfl | simp [upd_ap, hpL_ap, tau, mapT, mapTL, bytesI_len, eq_true c120, eq_false c122])).po (by decide) (by first | rfl | simp [upd_ap, hpL_ap, tau, mapT, mapTL, bytesI_len, eq_true c120, eq_false c122])).pv (by first | rfl | simp only [go_sem]) (by first | rfl | simp [upd_ap, hpL_ap, tau, mapT, mapTL, bytesI_len, eq_true c120, eq_false c122])).pv (by first | rfl | simp only [go_sem]) (by first | rfl | simp [upd_ap, hpL_ap, tau, mapT, mapTL, bytesI_len, eq_true c120, eq_false c122])).pv (by first | rfl | simp only [go_sem]) (by first | rfl | simp [upd_ap, hpL_ap, tau, mapT, mapTL, bytesI_len, eq_true c120, eq_false c122]))
        · exact .nil _
        · exact .cons (.eq (by first | rfl | simp only [go_sem]) (by first | rfl | simp [upd_ap, hpL_ap, tau, mapT, mapTL, bytesI_len, eq_true c120, eq_false c122])) (.nil _)
      ·rw [if_neg c120] at h
       refine AW.regL [0, 1, 5, 6, 7, 8, 73] ?_
       generalize hK : AW Try.prog _ _ _ = K
       simp only [go_sem, ↓reduceIte, reduceCtorEq, Nat.reduceAdd, Nat.reduceSub, Nat.reduceMul, Nat.reduceEqDiff, Nat.reduceLT, Nat.reduceLeDiff, eq_false c120]
       subst hK
       refine AW.ifBF rfl rfl ?_
       refine AW.exit ?_
       refine thenA_x ?_
       refine thenA_x ?_
       refine ⟨_, (Option.some.inj h).symm, _, ?_, rfl, rfl⟩
       refine Ent.can [8] _ _ _ rfl (by first | decide | simp) rfl ?_ ?_ ?_
       · exact ((((((RF.any.pv (by first | rfl | simp only [go_sem]) (by first | rfl | simp [upd_ap, hpL_ap, tau, mapT, mapTL, bytesI_len, eq_false c120])).pv (by first | rfl | simp only [go_sem]) (by first | rfl | simp [upd_ap, hpL_ap, tau, mapT, mapTL, bytesI_len, eq_false c120])).po (by decide) (by first | rfl | simp [upd_ap, hpL_ap, tau, mapT, mapTL, bytesI_len, eq_false c120])).pv (by first | rfl | simp only [go_sem]) (by first | rfl | simp [upd_ap, hpL_ap, tau, mapT, mapTL, bytesI_len, eq_false c120])).pv (by first | rfl | simp only [go_sem]) (by first | rfl | simp [upd_ap, hpL_ap, tau, mapT, mapTL, bytesI_len, eq_false c120])).pv (by first | rfl | simp only [go_sem]) (by first | rfl | simp [upd_ap, hpL_ap, tau, mapT, mapTL, bytesI_len, eq_false c120]))
       · exact .nil _
       · exact .cons (.eq (by first | rfl | simp only [go_sem]) (by first | rfl | simp [upd_ap, hpL_ap, tau, mapT, mapTL, bytesI_len, eq_false c120])) (.nil _)
     ·intro e st' hX
      try dsimp only at h
      try dsimp only at hX
      obtain ⟨rfl, rfl⟩ := hX
      refine ⟨_, Ent.refl, ?_⟩
      refine block_x ?_
      refine thenA_n ?_
      obtain ⟨x125, hx125, h⟩ := Option.bind_eq_some_iff.1 h
      obtain ⟨hx125b, hx125e⟩ := appO?_some.1 hx125
      have hx125f : ∀ id o : Nat, appO 1 8 id ([[.val (.int .i64 j6_0)]]) 0 s1_0.length o (some (.row 1 true (List.map enc3 s1_0))) = some ⟨.own id 0 x125.length, [(o, none), (id, some (.row 1 true (List.map enc3 x125)))]⟩ := fun id o => by
        subst hx125e; rw [appO_ok (by simp) (by simpa using hx125b) (by decide)]; first | (simp [enc3]; done) | (simp [enc3]; omega)
      refine AW.regionL [0, 1, 5, 6, 7] ?_
      generalize hK : inBlockA _ _ Exit.normal = K
      simp only [go_sem, ↓reduceIte, reduceCtorEq, Nat.reduceAdd, Nat.reduceSub, Nat.reduceMul, Nat.reduceEqDiff, Nat.reduceLT, Nat.reduceLeDiff, hx125f]
      subst hK
      refine block_n ?_
      refine thenA_n ?_
      refine ⟨_, (Option.some.inj h).symm, ?_⟩
      refine Ent.can [33] _ _ _ rfl (by first | decide | simp) rfl ?_ ?_ ?_
      · exact (((((RF.any.pv (by first | rfl | simp only [go_sem]) (by first | rfl | simp [upd_ap, hpL_ap, tau, mapT, mapTL, bytesI_len])).pv (by first | rfl | simp only [go_sem]) (by first | rfl | simp [upd_ap, hpL_ap, tau, mapT, mapTL, bytesI_len])).po (by decide) (by first | rfl | simp [upd_ap, hpL_ap, tau, mapT, mapTL, bytesI_len])).pv (by first | rfl | simp only [go_sem]) (by first | rfl | simp [upd_ap, hpL_ap, tau, mapT, mapTL, bytesI_len])).pv (by first | rfl | simp only [go_sem]) (by first | rfl | simp [upd_ap, hpL_ap, tau, mapT, mapTL, bytesI_len]))
      · exact .nil _
      · exact .cons (.eq (by first | rfl | simp only [go_sem]) (by first | rfl | simp [upd_ap, hpL_ap, tau, mapT, mapTL, bytesI_len])) (.nil _)
 ·intro e st' hX
  try dsimp only at h
  try dsimp only at hX
  obtain ⟨rfl, rfl⟩ := hX
  refine ⟨_, Ent.refl, ?_⟩
  refine block_x ?_
  refine thenA_n ?_
  refine AW.regL [4] ?_
  generalize hK : AW Try.prog _ _ _ = K
  simp only [go_sem, ↓reduceIte, reduceCtorEq, Nat.reduceAdd, Nat.reduceSub, Nat.reduceMul, Nat.reduceEqDiff, Nat.reduceLT, Nat.reduceLeDiff]
  subst hK
  refine AW.ret ?_
  obtain rfl := Option.some.inj h
  (simp only [go_sem, ↓reduceIte, reduceCtorEq, Nat.reduceAdd, Nat.reduceSub, Nat.reduceMul, Nat.reduceEqDiff, Nat.reduceLT, Nat.reduceLeDiff, finA] <;> try simp)
end Au
end Go.Proofs.Y5

set_option linter.all false
set_option maxRecDepth 8000
set_option maxHeartbeats 1000000
namespace Go.Proofs.Y5
open Go.Gm
namespace Au
def Ris (l : List Int) : Prop := l.Pairwise (· < ·)
theorem ris_uniq : ∀ {l m : List Int}, Ris l → Ris m → (∀ x, x ∈ l ↔ x ∈ m) → l = m
  | [], [], _, _, _ => rfl
  | [], b :: m, _, _, h => by have := (h b).2 (by simp); cases this
  | a :: l, [], _, _, h => by have := (h a).1 (by simp); cases this
  | a :: l, b :: m, hl, hm, h => by
    have hl' := List.pairwise_cons.1 hl
    have hm' := List.pairwise_cons.1 hm
    have hab : a = b := by
      have h1 := (h a).1 (by simp)
      have h2 := (h b).2 (by simp)
      rcases List.mem_cons.1 h1 with e | h1
      · exact e
      · rcases List.mem_cons.1 h2 with e | h2
        · exact e.symm
        · have := hm'.1 a h1; have := hl'.1 b h2; omega
    subst hab
    rw [ris_uniq hl'.2 hm'.2 fun x => ?_]
    constructor
    · intro hx
      rcases List.mem_cons.1 ((h x).1 (List.mem_cons_of_mem _ hx)) with e | hx'
      · subst e; have := hl'.1 x hx; omega
      · exact hx'
    · intro hx
      rcases List.mem_cons.1 ((h x).2 (List.mem_cons_of_mem _ hx)) with e | hx'
      · subst e; have := hm'.1 x hx; omega
      · exact hx'
theorem compUp_pre (l : List Int) (x : Int) : ∀ m, m ≤ l.length → Lib.compactUpTo (l ++ [x]).toArray m = Lib.compactUpTo l.toArray m
  | 0, _ => rfl
  | m + 1, h => by
    have hk : Lib.keeps (l ++ [x]).toArray m = Lib.keeps l.toArray m := by
      unfold Lib.keeps
      have h1 : (l ++ [x]).toArray[m]! = l.toArray[m]! := by simp [show m < l.length by omega, List.getElem?_append_left (show m < l.length by omega)]
      have h2 : (l ++ [x]).toArray[m - 1]! = l.toArray[m - 1]! := by simp [List.getElem?_append_left (show m - 1 < l.length by omega)]
      rw [h1, h2]
    have h1 : (l ++ [x]).toArray[m]! = l.toArray[m]! := by simp [show m < l.length by omega, List.getElem?_append_left (show m < l.length by omega)]
    rw [Lib.compactUpTo_succ, Lib.compactUpTo_succ, compUp_pre l x m (by omega), hk, h1]
theorem comp_snoc (l : List Int) (x : Int) : compI (l ++ [x]) = compI l ++ (if l.getLast? = some x then [] else [x]) := by
  unfold compI Lib.compact
  rw [List.length_append, List.length_singleton, Lib.compactUpTo_succ, compUp_pre l x _ (Nat.le_refl _)]
  congr 1
  have h1 : (l ++ [x]).toArray[l.length]! = x := by simp
  rw [h1]
  unfold Lib.keeps
  rw [h1]
  rcases List.eq_nil_or_concat l with rfl | ⟨l', y, rfl⟩
  · simp
  · have h2 : ((l' ++ [y]) ++ [x]).toArray[(l' ++ [y]).length - 1]! = y := by simp
    simp only [List.concat_eq_append] at *
    rw [h2]
    by_cases e : y = x
    · subst e; simp
    · simp [e, Ne.symm e]
theorem compI_spec : ∀ (n : Nat) (l : List Int), l.length = n → l.Pairwise (· ≤ ·) → Ris (compI l) ∧ (∀ x, x ∈ compI l ↔ x ∈ l) ∧ (compI l).getLast? = l.getLast? := by
  intro n
  induction n with
  | zero => intro l hl _; obtain rfl := List.eq_nil_of_length_eq_zero hl; exact ⟨List.Pairwise.nil, fun x => Iff.rfl, rfl⟩
  | succ n ih =>
    intro l hl hs
    rcases List.eq_nil_or_concat l with rfl | ⟨l', y, rfl⟩
    · simp at hl
    · rw [List.concat_eq_append] at *
      have hs' := List.pairwise_append.1 hs
      obtain ⟨h1, h2, h3⟩ := ih l' (by simpa using hl) hs'.1
      rw [comp_snoc]
      by_cases e : l'.getLast? = some y
      · rw [if_pos e, List.append_nil]
        refine ⟨h1, fun x => ?_, by rw [h3, e]; simp⟩
        rw [h2, List.mem_append]
        constructor
        · exact .inl
        · rintro (h | h)
          · exact h
          · simp at h; subst h; exact List.mem_of_getLast? e
      · rw [if_neg e]
        refine ⟨List.pairwise_append.2 ⟨h1, List.pairwise_singleton .., fun a ha b hb => ?_⟩, fun x => ?_, by simp⟩
        · simp at hb; subst hb
          have hle := hs'.2.2 a ((h2 a).1 ha) b (by simp)
          rcases Int.lt_or_eq_of_le hle with h | h
          · exact h
          · exfalso
            subst h
            -- the last one is no less than a
            rcases List.eq_nil_or_concat l' with rfl | ⟨l2, z, rfl⟩
            · cases ((h2 a).1 ha)
            · rw [List.concat_eq_append] at *
              have hz : z ≤ a := hs'.2.2 z (by simp) a (by simp)
              have ha2 := (h2 a).1 ha
              rcases List.mem_append.1 ha2 with h | h
              · have := (List.pairwise_append.1 hs'.1).2.2 a h z (by simp)
                have : a = z := by omega
                subst this; exact e (by simp)
              · simp at h; subst h; exact e (by simp)
        · rw [List.mem_append, List.mem_append, h2]
theorem sortI_srt (l : List Int) : (sortI l).Pairwise (· ≤ ·) := by
  have := List.pairwise_mergeSort (le := fun x y : Int => decide (x ≤ y)) (fun a b c h1 h2 => by simp at *; omega) (fun a b => by simp; omega) l
  simpa [sortI] using this
theorem uni_spec (x y : List Int) : Ris (uni x y) ∧ ∀ z, z ∈ uni x y ↔ z ∈ x ∨ z ∈ y := by
  obtain ⟨h1, h2, _⟩ := compI_spec _ (sortI (x ++ y)) rfl (sortI_srt _)
  refine ⟨h1, fun z => ?_⟩
  rw [show uni x y = compI (sortI (x ++ y)) from rfl, h2]
  simp [sortI]
theorem uni_len (x y : List Int) : (uni x y).length ≤ x.length + y.length := by
  have h : ∀ (n : Nat) (l : List Int), l.length = n → (compI l).length ≤ l.length := by
    intro n
    induction n with
    | zero => intro l hl; obtain rfl := List.eq_nil_of_length_eq_zero hl; exact Nat.le_refl _
    | succ n ih =>
      intro l hl
      rcases List.eq_nil_or_concat l with rfl | ⟨l', y, rfl⟩
      · simp at hl
      · rw [List.concat_eq_append] at *
        have := ih l' (by simpa using hl)
        rw [comp_snoc]
        split <;> simp <;> omega
  have := h _ (sortI (x ++ y)) rfl
  simpa [uni, sortI_len] using this
end Au
end Go.Proofs.Y5

set_option linter.all false
set_option maxRecDepth 8000
set_option maxHeartbeats 1000000
namespace Go.Proofs.Y5
open Go.Gm
namespace Au
theorem ris_drop {a : List Int} (h : Ris a) (i : Nat) : Ris (a.drop i) := h.sublist (List.drop_sublist i a)
theorem ris_head {a : List Int} (h : Ris a) {j : Nat} (hj : j < a.length) {v : Int} (hv : v < a[j]) : ∀ z ∈ a.drop j, v < z := by
  have hd := ris_drop h j
  rw [List.drop_eq_getElem_cons hj] at hd ⊢
  intro z hz
  rcases List.mem_cons.1 hz with rfl | hz
  · exact hv
  · have := (List.pairwise_cons.1 hd).1 z hz; omega
theorem skip9 {a : List Int} {v : Int} {i : Nat} (hr : Ris a) (hi : i ≤ a.length) (hl : a.length ≤ 1000000) (hv : ∀ z ∈ a.drop i, v ≤ z) :
    ∃ j : Nat, loopO (f18_s9 a v) (i : Int) = some (j : Int) ∧ i ≤ j ∧ j ≤ a.length ∧ (∀ z ∈ a.drop j, v < z) ∧ (∀ z ∈ a.drop i, z = v ∨ z ∈ a.drop j) ∧ (∀ h : i < a.length, a[i] = v → i < j) := by
  obtain ⟨r, h1, j, rfl, h2⟩ := loopO_of (step := f18_s9 a v) (I := fun k s => ∃ j : Nat, s = (j : Int) ∧ i ≤ j ∧ j ≤ a.length ∧ (∀ z ∈ a.drop j, v ≤ z) ∧ (∀ z ∈ a.drop i, z = v ∨ z ∈ a.drop j) ∧ k = a.length - j)
    (Q := fun r => ∃ j : Nat, r = (j : Int) ∧ i ≤ j ∧ j ≤ a.length ∧ (∀ z ∈ a.drop j, v < z) ∧ (∀ z ∈ a.drop i, z = v ∨ z ∈ a.drop j) ∧ (∀ h : i < a.length, a[i] = v → i < j)) (by
    rintro k _ ⟨j, rfl, h1, h2, h3, h4, hk⟩
    by_cases c : j < a.length
    · by_cases c2 : a[j] = v
      · refine .inl ⟨((j + 1 : Nat) : Int), a.length - (j + 1), ?_, by omega, j + 1, rfl, by omega, by omega, fun z hz => h3 z (by rw [List.drop_eq_getElem_cons c]; exact List.mem_cons_of_mem _ hz), fun z hz => ?_, rfl⟩
        · simp only [f18_s9, if_pos (show (j : Int) < a.length by omega), ixN c, Option.bind_some, if_pos c2, wrapN (show j ≤ 10000000000 by omega)]
        · rcases h4 z hz with h | h
          · exact .inl h
          · rw [List.drop_eq_getElem_cons c] at h
            rcases List.mem_cons.1 h with h | h
            · exact .inl (h.trans c2)
            · exact .inr h
      · refine .inr ⟨(j : Int), ?_, j, rfl, h1, h2, ?_, h4, fun hh e => ?_⟩
        · simp only [f18_s9, if_pos (show (j : Int) < a.length by omega), ixN c, Option.bind_some, if_neg c2]
        · have := h3 a[j] (by rw [List.drop_eq_getElem_cons c]; exact List.mem_cons_self)
          exact ris_head hr c (by omega)
        · rcases Nat.lt_or_eq_of_le h1 with h | h
          · exact h
          · subst h; exact absurd e c2
    · refine .inr ⟨(j : Int), ?_, j, rfl, h1, h2, ?_, h4, fun hh e => by omega⟩
      · simp only [f18_s9, if_neg (show ¬ (j : Int) < a.length by omega)]
      · rw [List.drop_eq_nil_of_le (by omega)]; intro z hz; cases hz) (k := a.length - i) ⟨i, rfl, Nat.le_refl _, hi, hv, fun z hz => .inr hz, rfl⟩
  exact ⟨j, h1, h2⟩
theorem s10_eq (a : List Int) (v : Int) : f18_s10 a v = f18_s9 a v := by funext i; rfl
structure UI (x y : List Int) (out : List Int) (i j : Nat) : Prop where
  hi : i ≤ x.length
  hj : j ≤ y.length
  ris : Ris out
  lt : ∀ o ∈ out, (∀ z ∈ x.drop i, o < z) ∧ ∀ z ∈ y.drop j, o < z
  mem : ∀ z, (z ∈ out ∨ z ∈ x.drop i ∨ z ∈ y.drop j) ↔ (z ∈ x ∨ z ∈ y)
  len : out.length ≤ i + j
theorem j6_step {x y out : List Int} {i j : Nat} {v : Int} (h : UI x y out i j) (hx : Ris x) (hy : Ris y) (hlx : x.length ≤ 1000000) (hly : y.length ≤ 1000000) (hvx : ∀ z ∈ x.drop i, v ≤ z) (hvy : ∀ z ∈ y.drop j, v ≤ z)
    (hin : (∃ h : i < x.length, x[i] = v) ∨ ∃ h : j < y.length, y[j] = v) : ∃ i' j' : Nat, f18_j6 x y out (i : Int) (j : Int) v = some (.inl (out ++ [v], (i' : Int), (j' : Int))) ∧ UI x y (out ++ [v]) i' j' ∧ i + j < i' + j' := by
  obtain ⟨i', a1, a2, a3, a4, a5, a6⟩ := skip9 (v := v) hx h.hi hlx hvx
  obtain ⟨j', b1, b2, b3, b4, b5, b6⟩ := skip9 (v := v) hy h.hj hly hvy
  have hlt : i + j < i' + j' := by
    rcases hin with ⟨h1, h2⟩ | ⟨h1, h2⟩
    · have := a6 h1 h2; omega
    · have := b6 h1 h2; omega
  have hlen := h.len
  have hhi := h.hi
  have hhj := h.hj
  have hvo : ∀ o ∈ out, o < v := fun o ho => by
    rcases hin with ⟨h1, h2⟩ | ⟨h1, h2⟩
    · exact (h.lt o ho).1 v (by rw [List.drop_eq_getElem_cons h1, h2]; exact List.mem_cons_self)
    · exact (h.lt o ho).2 v (by rw [List.drop_eq_getElem_cons h1, h2]; exact List.mem_cons_self)
  have sub : ∀ {l : List Int} {p q : Nat}, p ≤ q → ∀ z, z ∈ l.drop q → z ∈ l.drop p := fun {l p q} hpq z hz => by
    obtain ⟨k, rfl⟩ : ∃ k, q = p + k := ⟨q - p, by omega⟩
    rw [← List.drop_drop] at hz
    exact List.mem_of_mem_drop hz
  refine ⟨i', j', ?_, ⟨a3, b3, ?_, ?_, ?_, ?_⟩, hlt⟩
  · unfold f18_j6
    dsimp only
    rw [a1, Option.bind_some, s10_eq, b1, Option.bind_some, appO_ok' (by omega) (by simp)]; rfl
  · refine List.pairwise_append.2 ⟨h.ris, List.pairwise_singleton .., fun o ho b hb => ?_⟩
    simp at hb; subst hb; exact hvo o ho
  · intro o ho
    rcases List.mem_append.1 ho with ho | ho
    · exact ⟨fun z hz => (h.lt o ho).1 z (sub a2 z hz), fun z hz => (h.lt o ho).2 z (sub b2 z hz)⟩
    · simp at ho; subst ho; exact ⟨a4, b4⟩
  · intro z
    rw [← h.mem z, List.mem_append, List.mem_singleton]
    constructor
    · rintro ((h1 | rfl) | h1 | h1)
      · exact .inl h1
      · rcases hin with ⟨h1, h2⟩ | ⟨h1, h2⟩
        · exact .inr (.inl (by rw [List.drop_eq_getElem_cons h1, h2]; exact List.mem_cons_self))
        · exact .inr (.inr (by rw [List.drop_eq_getElem_cons h1, h2]; exact List.mem_cons_self))
      · exact .inr (.inl (sub a2 z h1))
      · exact .inr (.inr (sub b2 z h1))
    · rintro (h1 | h1 | h1)
      · exact .inl (.inl h1)
      · rcases a5 z h1 with h2 | h2
        · exact .inl (.inr h2)
        · exact .inr (.inl h2)
      · rcases b5 z h1 with h2 | h2
        · exact .inl (.inr h2)
        · exact .inr (.inr h2)
  · rw [List.length_append, List.length_singleton]; omega
theorem min_drop {x : List Int} (hx : Ris x) {i : Nat} (hi : i < x.length) : ∀ z ∈ x.drop i, x[i] ≤ z := fun z hz => by
  have hd := ris_drop hx i
  rw [List.drop_eq_getElem_cons hi] at hd hz
  rcases List.mem_cons.1 hz with rfl | hz
  · exact Int.le_refl _
  · have := (List.pairwise_cons.1 hd).1 z hz; omega
theorem both18 {x y : List Int} (hx : Ris x) (hy : Ris y) (hlx : x.length ≤ 1000000) (hly : y.length ≤ 1000000) : f18 x y = some (uni x y) := by
  have key : ∃ r, loopO (f18_s1 x y) ([], 0, 0) = some r ∧ (Ris r ∧ ∀ z, z ∈ r ↔ z ∈ x ∨ z ∈ y) := by
    refine loopO_of (step := f18_s1 x y) (I := fun k s => ∃ (out : List Int) (i j : Nat), s = (out, (i : Int), (j : Int)) ∧ UI x y out i j ∧ k = x.length + y.length - (i + j)) ?_ (k := x.length + y.length)
      ⟨[], 0, 0, rfl, ⟨by omega, by omega, List.Pairwise.nil, by simp, by simp, by simp⟩, by omega⟩
    rintro k _ ⟨out, i, j, rfl, h, hk⟩
    have next : ∀ v, (∀ z ∈ x.drop i, v ≤ z) → (∀ z ∈ y.drop j, v ≤ z) → ((∃ h : i < x.length, x[i] = v) ∨ ∃ h : j < y.length, y[j] = v) → f18_s1 x y (out, (i : Int), (j : Int)) = f18_j6 x y out (i : Int) (j : Int) v →
        ∃ s' k', f18_s1 x y (out, (i : Int), (j : Int)) = some (.inl s') ∧ k' < k ∧ ∃ (out : List Int) (i j : Nat), s' = (out, (i : Int), (j : Int)) ∧ UI x y out i j ∧ k' = x.length + y.length - (i + j) := fun v h1 h2 h3 h4 => by
      obtain ⟨i', j', q1, q2, q3⟩ := j6_step h hx hy hlx hly h1 h2 h3
      have := q2.hi
      have := q2.hj
      exact ⟨_, _, h4.trans q1, by omega, _, i', j', rfl, q2, rfl⟩
    by_cases c1 : i < x.length
    · by_cases c2 : j < y.length
      · by_cases c3 : x[i] ≤ y[j]
        · refine .inl (next x[i] (min_drop hx c1) (fun z hz => Int.le_trans c3 (min_drop hy c2 z hz)) (.inl ⟨c1, rfl⟩) ?_)
          simp only [f18_s1, f18_j5, if_pos (show (i : Int) < x.length by omega), if_neg (show ¬ (y.length : Int) ≤ j by omega), ixN c1, ixN c2, Option.bind_some, if_pos c3]
        · refine .inl (next y[j] (fun z hz => by have := min_drop hx c1 z hz; omega) (min_drop hy c2) (.inr ⟨c2, rfl⟩) ?_)
          simp only [f18_s1, f18_j5, if_pos (show (i : Int) < x.length by omega), if_neg (show ¬ (y.length : Int) ≤ j by omega), ixN c1, ixN c2, Option.bind_some, if_neg c3]
      · refine .inl (next x[i] (min_drop hx c1) (fun z hz => by rw [List.drop_eq_nil_of_le (by omega)] at hz; cases hz) (.inl ⟨c1, rfl⟩) ?_)
        simp only [f18_s1, f18_j5, if_pos (show (i : Int) < x.length by omega), if_pos (show (y.length : Int) ≤ j by omega), ixN c1, Option.bind_some]
    · by_cases c2 : j < y.length
      · refine .inl (next y[j] (fun z hz => by rw [List.drop_eq_nil_of_le (by omega)] at hz; cases hz) (min_drop hy c2) (.inr ⟨c2, rfl⟩) ?_)
        simp only [f18_s1, f18_j5, if_neg (show ¬ (i : Int) < x.length by omega), if_pos (show (j : Int) < y.length by omega), if_neg (show ¬ (y.length : Int) ≤ j by omega), ixN c2, Option.bind_some]
      · refine .inr ⟨out, ?_, h.ris, fun z => ?_⟩
        · simp only [f18_s1, if_neg (show ¬ (i : Int) < x.length by omega), if_neg (show ¬ (j : Int) < y.length by omega)]
        · have := h.mem z
          rw [List.drop_eq_nil_of_le (show x.length ≤ i by omega), List.drop_eq_nil_of_le (show y.length ≤ j by omega)] at this
          simpa using this
  obtain ⟨r, h1, h2, h3⟩ := key
  obtain ⟨u1, u2⟩ := uni_spec x y
  unfold f18
  rw [h1, ris_uniq h2 u1 fun z => (h3 z).trans (u2 z).symm]; rfl
end Au
end Go.Proofs.Y5
