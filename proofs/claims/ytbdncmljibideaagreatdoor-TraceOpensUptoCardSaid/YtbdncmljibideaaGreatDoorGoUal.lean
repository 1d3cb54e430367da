import Derived.Test.YtbdncmljibideaaGreatDoorGoUae
import Derived.Test.YtbdncmljibideaaGreatDoorGoUah
import Derived.Test.YtbdncmljibideaaGreatDoorGoUak
import Derived.Test.YtbdncmljibideaaGreatDoorGoUag
import Derived.Test.YtbdncmljibideaaGreatDoorProg
import Derived.Shelf.Spec.SlicesGrow
import Derived.Test.YtbdncmljibideaaGreatDoorGoUaj
import Derived.Lib.IndexLaws
set_option linter.all false
noncomputable section
set_option maxRecDepth 8000
set_option maxHeartbeats 1000000
namespace Go.Proofs.Yt
open Go.Gm
namespace Au
def f36_s1 (x6 : (List Pair) × Int × Int) : (List Res) × Int → Option (((List Res) × Int) ⊕ (((List Res) × Int) ⊕ (List Res)))
  | (s1_0, s1_1) => (if s1_1 < ((x6.1.length : Nat) : Int) then ((ix x6.1 s1_1).bind fun x37 => ((ix s1_0 s1_1).bind fun x38 => (if x37.Key = x38.Key then some (.inl ((s1_0.set s1_1.toNat (⟨x38.Key, x37.Val, x38.Offs⟩ : Res)), IntKind.i64.wrap (s1_1 + 1))) else some (.inr (.inl ([], 3)))))) else some (.inr (.inr s1_0)))
def f36 (a0 : List Int) (a1 : List Int) : Option ((List Res) × Int) := ((f63 a0 0).bind fun x1 => (if x1.2.2 = 0 then (if x1.2.1 < (a0.length : Int) then some ([], 3) else ((f64 x1.1 0).bind fun x6 => (if x6.2.2 = 0 then (if x6.2.1 < (x1.1.length : Int) then some ([], 3) else ((f65 x6.1).bind fun x13 => (if x13 = true then ((f63 a1 0).bind fun x15 => (if x15.2.2 = 0 then (if x15.2.1 < (a1.length : Int) then some ([], 3) else ((f66 x15.1).bind fun x20 => (if x20.2 = 0 then (if ((x6.1.length : Nat) : Int) = ((x20.1.length : Nat) : Int) then ((loopO (f36_s1 x6) (x20.1, 0)).bind fun y40 => match y40 with | .inl y41 => some y41 | .inr y42 => some (y42, 0)) else some ([], 3)) else some ([], x20.2)))) else some ([], x15.2.2))) else some ([], 3)))) else some ([], x6.2.2)))) else some ([], x1.2.2)))
theorem ok36 (a0 : List Int) (a1 : List Int) (r : (List Res) × Int) (h : f36 a0 a1 = some r) : PC Tryz.prog 36 [.sl (List.map enc5 a0), .sl (List.map enc5 a1)] (.tup [.fr 3 (List.map encRes r.1), .val (.int .i64 r.2)]) := by
 rw [f36] at h
 refine pc_of9 (N := 102) (rs := [.tmp 4, .tmp 5]) Tryz.func36 ?_
 refine AW.rX [0, 1] ?_
 obtain ⟨x1, hx1, h⟩ := bO h
 refine AW.rC [0, 1, 6, 7, 8] (ok63 a0 0 x1 hx1) Tryz.call63 ?_
 refine AW.seq <| AW.rX [0, 1, 6, 7, 8, 25] ?_
 rcases iteO h with ⟨c3, h⟩ | ⟨c3, h⟩
 ·refine AW.ifF rfl (fun q => q c3) ?_
  refine AW.skip <| thenA_n <| AW.seq <| AW.rX [1, 6, 30] ?_
  rcases iteO h with ⟨c5, h⟩ | ⟨c5, h⟩
  ·refine AW.ifT rfl c5 <| AW.rX [4, 5] ?_
   refine AW.ent (Ent.nilOwn 4 3 (by decide) rfl) ?_
   refine AW.ret <| thenA_r ?_
   obtain rfl := oi h
   (simp only [go_sem, seval, finA] <;> try simp)
  ·refine AW.ifF rfl c5 <| AW.skip <| thenA_n ?_
   obtain ⟨x6, hx6, h⟩ := bO h
   refine AW.rC [1, 6, 9, 10, 11] (ok64 x1.1 0 x6 hx6) Tryz.call64 ?_
   refine AW.seq <| AW.sX [1, 6, 9, 10, 11, 38] ?_
   rcases iteO h with ⟨c8, h⟩ | ⟨c8, h⟩
   ·refine AW.ifF rfl (fun q => q c8) ?_
    refine AW.skip <| thenA_n <| AW.seq ?_
    rcases iteO h with ⟨c12, h⟩ | ⟨c12, h⟩
    ·refine AW.sX [1, 9, 48] ?_
     refine AW.ifBT rfl rfl <| AW.rX [4, 5] ?_
     refine AW.ent (Ent.nilOwn 4 3 (by decide) rfl) ?_
     refine AW.ret <| thenA_r ?_
     obtain rfl := oi h
     (simp only [go_sem, seval, finA] <;> try simp)
    ·obtain ⟨x13, hx13, h⟩ := bO h
     refine AW.sC [1, 9, 48] (ok65 x6.1 x13 hx13) Tryz.call65 ?_
     rcases iteO h with ⟨c14, h⟩ | ⟨c14, h⟩
     ·refine AW.ifBF rfl (by first | (rw [c14]; rfl) | simp_all) <| AW.skip <| thenA_n ?_
      obtain ⟨x15, hx15, h⟩ := bO h
      refine AW.rC [1, 9, 12, 13, 14] (ok63 a1 0 x15 hx15) Tryz.call63 ?_
      refine AW.seq <| AW.sX [1, 9, 12, 13, 14, 56] ?_
      rcases iteO h with ⟨c17, h⟩ | ⟨c17, h⟩
      ·refine AW.ifF rfl (fun q => q c17) <| AW.skip <| thenA_n <| AW.seq <| AW.sX [9, 12, 61] ?_
       rcases iteO h with ⟨c19, h⟩ | ⟨c19, h⟩
       ·refine AW.ifT rfl c19 <| AW.sX [4, 5] ?_
        refine AW.ent (Ent.nilOwn 4 3 (by decide) rfl) ?_
        refine AW.ret <| thenA_r ?_
        obtain rfl := oi h
        (simp only [go_sem, seval, c14, eq_true c17, eq_true c19, finA] <;> try simp)
       ·refine AW.ifF rfl c19 <| AW.skip <| thenA_n ?_
        obtain ⟨x20, hx20, h⟩ := bO h
        refine AW.rC [9, 15, 16] (ok66 x15.1 x20 hx20) Tryz.call66 ?_
        refine AW.seq <| AW.sX [9, 15, 16, 68] ?_
        rcases iteO h with ⟨c22, h⟩ | ⟨c22, h⟩
        ·refine AW.ifF rfl (fun q => q c22) <| AW.skip <| thenA_n <| AW.seq <| AW.sX [9, 15, 74] ?_
         rcases iteO h with ⟨c24, h⟩ | ⟨c24, h⟩
         ·refine AW.ifF rfl (fun q => q c24) <| AW.skip <| thenA_n <| AW.seq <| AW.sX [9, 15, 17] ?_
          refine AW.block ?_
          obtain ⟨y40, hy40, h⟩ := bO h
          refine AW.loopO (fun s => ⟨(upd (upd (upd anyF 9 (.own 8 0 x6.1.length)) 15 (.own 9 0 s.1.length)) 17 (.val (.int .i64 s.2))), hpL [] [some (.row 2 true (List.map encPair x6.1)), some (.row 3 true (List.map encRes s.1))], 10⟩) (fun y e st' => match y with | .inl z => e = Exit.ret ∧ finA Tryz.prog [.tmp 4, .tmp 5] (.tup [.fr 3 (List.map encRes z.1), .val (.int .i64 z.2)]) .ret st' | .inr z => e = Exit.exit 0 ∧ st' = ⟨(upd anyF 15 (.own 8 0 z.length)), hpL [] [some (.row 3 true (List.map encRes z))], 9⟩) hy40 ?_ ?_ ?_
          ·exact Ent.canq [152, 432] RF.any.qo.qo.qv (.nil _) (.ce (.ce (.nil _)))
          ·clear h hy40
           rintro ⟨s1_0, s1_1⟩ x h
           rw [f36_s1] at h
           refine AW.seq <| AW.tX [9, 15, 17, 78] ?_
           rcases iteO h with ⟨c36, h⟩ | ⟨c36, h⟩
           ·refine AW.ifT rfl c36 <| AW.skip <| thenA_n <| AW.seq <| AW.block <| AW.seq ?_
            obtain ⟨x37, hx37, h⟩ := bO h
            obtain ⟨hx37a, hx37b⟩ := ix_some.1 hx37
            obtain ⟨x38, hx38, h⟩ := bO h
            obtain ⟨hx38a, hx38b⟩ := ix_some.1 hx38
            refine AW.re [9, 15, 17, 91] [0,0,3,7,15,0,0,96,224,480,1023] ?_
            generalize hK : AW Tryz.prog _ _ _ = K
            simp only [go_sem, seval, c14, eq_true c17, eq_false c19, eq_true c22, eq_true c24, eq_true c36, natOf_le hx37a, hx37b, ix_lt hx37b, natOf_le hx38a, hx38b, ix_lt hx38b]
            subst hK
            rcases iteO h with ⟨c39, h⟩ | ⟨c39, h⟩
            ·refine AW.ifF rfl (fun q => q c39) <| AW.skip <| thenA_n <| AW.rL [9, 15, 17] fun K hK => ?_
             simp only [go_sem, seval, c14, eq_true c17, eq_false c19, eq_true c22, eq_true c24, eq_true c36, eq_true c39, natOf_le hx37a, hx37b, ix_lt hx37b, natOf_le hx38a, hx38b, ix_lt hx38b, set_row (enc := encRes) (y := (⟨x38.Key, x37.Val, x38.Offs⟩ : Res)) (r := [.val (.string x38.Key), .val (.string x37.Val), .sl (List.map enc3 x38.Offs)]) rfl]
             subst hK
             refine block_n <| thenA_n <| AW.sY [9, 15, 17] ?_
             refine thenA_n ?_
             refine ⟨_, oj h, ?_⟩
             exact Ent.canq [8, 9] RF.any.qo.qo.qv (.nil _) (.ce (.ce (.nil _)))
            ·refine AW.ifT rfl c39 <| AW.sX [4, 5] ?_
             refine AW.ent (Ent.nilOwn 4 3 (by decide) rfl) ?_
             refine AW.ret <| thenA_r <| block_r <| thenA_r <| thenA_r ?_
             refine ⟨_, oj h, _, Ent.refl, rfl, ?_⟩
             (simp only [go_sem, seval, c14, eq_true c17, eq_false c19, eq_true c22, eq_true c24, eq_true c36, eq_false c39, finA] <;> try simp)
           ·refine AW.ifF rfl c36 <| AW.exit <| thenA_x <| thenA_x ?_
            refine ⟨_, oj h, _, ?_, rfl, rfl⟩
            exact Ent.canq [9] RF.any.qo (.nil _) (.ce (.nil _))
          ·intro e st' hX
           rcases y40 with y41 | y42 <;> dsimp only at h hX
           ·obtain ⟨rfl, hf⟩ := hX
            refine ⟨_, Ent.refl, ?_⟩
            refine block_r <| thenA_r ?_
            obtain rfl := oi h
            exact hf
           ·obtain ⟨rfl, rfl⟩ := hX
            refine ⟨_, Ent.refl, ?_⟩
            refine block_x <| thenA_n <| AW.sX [4, 5] ?_
            refine AW.ret ?_
            obtain rfl := oi h
            (simp only [go_sem, seval, c14, eq_true c17, eq_false c19, eq_true c22, eq_true c24, finA] <;> try simp)
         ·refine AW.ifT rfl c24 <| AW.sX [4, 5] ?_
          refine AW.ent (Ent.nilOwn 4 3 (by decide) rfl) ?_
          refine AW.ret <| thenA_r ?_
          obtain rfl := oi h
          (simp only [go_sem, seval, c14, eq_true c17, eq_false c19, eq_true c22, eq_false c24, finA] <;> try simp)
        ·refine AW.ifT rfl c22 <| AW.sX [4, 5] ?_
         refine AW.ent (Ent.nilOwn 4 3 (by decide) rfl) ?_
         refine AW.ret <| thenA_r ?_
         obtain rfl := oi h
         (simp only [go_sem, seval, c14, eq_true c17, eq_false c19, eq_false c22, finA] <;> try simp)
      ·refine AW.ifT rfl c17 <| AW.sX [4, 5] ?_
       refine AW.ent (Ent.nilOwn 4 3 (by decide) rfl) ?_
       refine AW.ret <| thenA_r ?_
       obtain rfl := oi h
       (simp only [go_sem, seval, c14, eq_false c17, finA] <;> try simp)
     ·rw [Bool.not_eq_true] at c14
      refine AW.ifBT rfl (by first | (rw [c14]; rfl) | simp_all) <| AW.sX [4, 5] ?_
      refine AW.ent (Ent.nilOwn 4 3 (by decide) rfl) ?_
      refine AW.ret <| thenA_r ?_
      obtain rfl := oi h
      (simp only [go_sem, seval, c14, finA] <;> try simp)
   ·refine AW.ifT rfl c8 <| AW.rX [4, 5] ?_
    refine AW.ent (Ent.nilOwn 4 3 (by decide) rfl) ?_
    refine AW.ret <| thenA_r ?_
    obtain rfl := oi h
    (simp only [go_sem, seval, finA] <;> try simp)
 ·refine AW.ifT rfl c3 <| AW.rX [4, 5] ?_
  refine AW.ent (Ent.nilOwn 4 3 (by decide) rfl) ?_
  refine AW.ret <| thenA_r ?_
  obtain rfl := oi h
  (simp only [go_sem, seval, finA] <;> try simp)
def rest36 (x6 : (List Pair) × Int × Int) (a1 : List Int) : Option ((List Res) × Int) := ((f63 a1 0).bind fun x15 => (if x15.2.2 = 0 then (if x15.2.1 < (a1.length : Int) then some ([], 3) else ((f66 x15.1).bind fun x20 => (if x20.2 = 0 then (if ((x6.1.length : Nat) : Int) = ((x20.1.length : Nat) : Int) then ((loopO (f36_s1 x6) (x20.1, 0)).bind fun y40 => match y40 with | .inl y41 => some y41 | .inr y42 => some (y42, 0)) else some ([], 3)) else some ([], x20.2)))) else some ([], x15.2.2)))
theorem out_eq {b : List Int} (hb : Byt b) (hl : b.length ≤ 1000000) :
  (∃ e, e ≠ 0 ∧ f94_95 b = some ([], e) ∧ ∀ a1, f36 b a1 = some ([], e)) ∨ (∃ l q, f94_95 b = some (l, 0) ∧ l.length ≤ 1000000 ∧ ∀ a1, f36 b a1 = rest36 (l, q) a1) := by
 obtain ⟨⟨d, p, e⟩, h1, h2, h3, h4⟩ := frame_eq hb hl 0
 simp only at h3 h4
 by_cases he : e = 0
 rotate_left
 ·refine .inl ⟨e, he, ?_, fun a1 => ?_⟩
  ·simp only [f94_95, h1, Option.bind_some, if_neg he, f94_95_j1]
  ·simp only [f36, h2, Option.bind_some, if_neg he]
 subst he
 by_cases c : p < (b.length : Int)
 ·refine .inl ⟨3, by decide, ?_, fun a1 => ?_⟩
  ·simp only [f94_95, h1, Option.bind_some, if_true, if_pos c, f94_95_j1, if_neg (show ¬ (3 : Int) = 0 by decide)]
  ·simp only [f36, h2, Option.bind_some, if_true, if_pos c]
 obtain ⟨⟨l, q, e⟩, k1, k2, k3, k4, k5⟩ := pairs_eq h3 (show d.length ≤ 1000000 by omega)
 simp only at k3 k4 k5
 by_cases he : e = 0
 rotate_left
 ·have := k5 he
  subst this
  refine .inl ⟨e, he, ?_, fun a1 => ?_⟩
  ·simp only [f94_95, h1, Option.bind_some, if_true, if_neg c, f94_95_j1, f95, k1, if_neg he]
  ·simp only [f36, h2, Option.bind_some, if_true, if_neg c, k2, if_neg he]
 subst he
 by_cases c2 : q < (d.length : Int)
 ·refine .inl ⟨3, by decide, ?_, fun a1 => ?_⟩
  ·simp only [f94_95, h1, Option.bind_some, if_true, if_neg c, f94_95_j1, f95, k1, if_pos c2]
  ·simp only [f36, h2, Option.bind_some, if_true, if_neg c, k2, if_pos c2]
 obtain ⟨v, v1, v2, v3⟩ := sorted_eq l (by omega) (fun p hp => by have := (k4 p hp).1; omega)
 cases v with
 | true =>
  refine .inr ⟨l, (q, 0), ?_, by omega, fun a1 => ?_⟩
  ·simp only [f94_95, h1, Option.bind_some, if_true, if_neg c, f94_95_j1, f95, k1, if_neg c2, v1]
  ·simp only [f36, h2, Option.bind_some, if_true, if_neg c, k2, if_neg c2, v2]
   rfl
 | false =>
  refine .inl ⟨3, by decide, ?_, fun a1 => ?_⟩
  ·simp only [f94_95, h1, Option.bind_some, if_true, if_neg c, f94_95_j1, f95, k1, if_neg c2, v1, Bool.false_eq_true, if_false]
  ·simp only [f36, h2, Option.bind_some, if_true, if_neg c, k2, if_neg c2, v2, Bool.false_eq_true, if_false]
theorem idx_eq {b : List Int} (hb : Byt b) (hl : b.length ≤ 1000000) :
  (∃ e, e ≠ 0 ∧ f96_97 b = some ([], e) ∧ ∀ x6, rest36 x6 b = some ([], e)) ∨ (∃ m, f96_97 b = some (m, 0) ∧ SzR m ∧ m.length ≤ b.length ∧ ∀ x6, rest36 x6 b = (if ((x6.1.length : Nat) : Int) = ((m.length : Nat) : Int) then ((loopO (f36_s1 x6) (m, 0)).bind fun y40 => match y40 with | .inl y41 => some y41 | .inr y42 => some (y42, 0)) else some ([], 3))) := by
 obtain ⟨⟨d, p, e⟩, h1, h2, h3, h4⟩ := frame_eq hb hl 0
 simp only at h3 h4
 by_cases he : e = 0
 rotate_left
 ·refine .inl ⟨e, he, ?_, fun a1 => ?_⟩
  ·simp only [f96_97, h1, Option.bind_some, if_neg he, f96_97_j1]
  ·simp only [rest36, h2, Option.bind_some, if_neg he]
 subst he
 by_cases c : p < (b.length : Int)
 ·refine .inl ⟨3, by decide, ?_, fun a1 => ?_⟩
  ·simp only [f96_97, h1, Option.bind_some, if_true, if_pos c, f96_97_j1, if_neg (show ¬ (3 : Int) = 0 by decide)]
  ·simp only [rest36, h2, Option.bind_some, if_true, if_pos c]
 obtain ⟨⟨m, e⟩, k1, k2, k3, k4, k5, k6⟩ := index_eq h3 (show d.length ≤ 1000000 by omega)
 simp only at k3 k4 k5 k6
 by_cases he : e = 0
 ·subst he
  refine .inr ⟨m, ?_, k3, by omega, fun x6 => ?_⟩
  ·simp only [f96_97, h1, Option.bind_some, if_true, if_neg c, f96_97_j1, k1]
  ·simp only [rest36, h2, Option.bind_some, if_true, if_neg c, k2]
 ·have := k6 he
  subst this
  refine .inl ⟨e, he, ?_, fun x6 => ?_⟩
  ·simp only [f96_97, h1, Option.bind_some, if_true, if_neg c, f96_97_j1, k1]
  ·simp only [rest36, h2, Option.bind_some, if_true, if_neg c, k2, if_neg he]
theorem vals_eq (l : List Pair) (x1 : (List Pair) × Int) (x6 : (List Pair) × Int × Int) (e1 : x1.1 = l) (e6 : x6.1 = l) {m : List Res} (hm : SzR m) (hlm : l.length = m.length) :
  ∃ r, loopO (f56_s1 x1) (m, 0) = some r ∧ loopO (f36_s1 x6) (m, 0) = some r ∧ (r = .inl ([], 3) ∨ ∃ m', r = .inr m' ∧ SzR m' ∧ m'.length = m.length) := by
 have hml := hm.len
 have key : ∃ r r', loopO (f56_s1 x1) (m, 0) = some r ∧ loopO (f36_s1 x6) (m, 0) = some r' ∧ (r = r' ∧ (r = .inl ([], 3) ∨ ∃ m', r = .inr m' ∧ SzR m' ∧ m'.length = m.length)) := by
  refine loopO_two (fun k s t => s = t ∧ ∃ (m' : List Res) (i : Nat), s = (m', (i : Int)) ∧ SzR m' ∧ m'.length = m.length ∧ i ≤ l.length ∧ k = l.length - i) ?_ (k := l.length) ⟨rfl, m, 0, rfl, hm, rfl, by omega, rfl⟩
  rintro k _ _ ⟨rfl, m', i, rfl, hs, hlen, hi, hk⟩
  by_cases c : i < l.length
  ·have hx : ix l (i : Int) = some l[i] := ixN c
   have hy : ix m' (i : Int) = some (m'[i]'(by omega)) := ixN (by omega)
   by_cases e : (m'[i]'(by omega)).Key = l[i].Key
   ·refine .inl ⟨(m'.set i ⟨(m'[i]'(by omega)).Key, l[i].Val, (m'[i]'(by omega)).Offs⟩, ((i + 1 : Nat) : Int)), (m'.set i ⟨(m'[i]'(by omega)).Key, l[i].Val, (m'[i]'(by omega)).Offs⟩, ((i + 1 : Nat) : Int)), k - 1, ?_, ?_, by omega, rfl, _, i + 1, rfl, ⟨by simp; omega, fun r hr => ?_, fun r hr => ?_⟩, by simp [hlen], by omega, by omega⟩
    ·simp only [f56_s1, e1, if_pos (show (i : Int) < ((l.length : Nat) : Int) by omega), hx, hy, Option.bind_some, if_pos e, Int.toNat_natCast, wrapN (show i ≤ 10000000000 by omega)]
    ·simp only [f36_s1, e6, if_pos (show (i : Int) < ((l.length : Nat) : Int) by omega), hx, hy, Option.bind_some, if_pos e.symm, Int.toNat_natCast, wrapN (show i ≤ 10000000000 by omega)]
    ·rcases List.mem_or_eq_of_mem_set hr with h | h
     ·exact hs.key r h
     ·subst h; have := hs.key _ (List.getElem_mem (show i < m'.length by omega)); exact this
    ·rcases List.mem_or_eq_of_mem_set hr with h | h
     ·exact hs.off r h
     ·subst h; have := hs.off _ (List.getElem_mem (show i < m'.length by omega)); exact this
   ·refine .inr ⟨.inl ([], 3), .inl ([], 3), loopO_done ?_, loopO_done ?_, rfl, .inl rfl⟩
    ·simp only [f56_s1, e1, if_pos (show (i : Int) < ((l.length : Nat) : Int) by omega), hx, hy, Option.bind_some, if_neg e]
    ·simp only [f36_s1, e6, if_pos (show (i : Int) < ((l.length : Nat) : Int) by omega), hx, hy, Option.bind_some, if_neg (fun q => e (Eq.symm q))]
  ·refine .inr ⟨.inr m', .inr m', loopO_done ?_, loopO_done ?_, rfl, .inr ⟨m', rfl, hs, hlen⟩⟩
   ·simp only [f56_s1, e1, if_neg (show ¬ (i : Int) < ((l.length : Nat) : Int) by omega)]
   ·simp only [f36_s1, e6, if_neg (show ¬ (i : Int) < ((l.length : Nat) : Int) by omega)]
 obtain ⟨r, _, k1, k2, rfl, k3⟩ := key
 exact ⟨r, k1, k2, k3⟩
theorem read_eq {a b : List Int} (ha : Byt a) (hb : Byt b) (hla : a.length ≤ 1000000) (hlb : b.length ≤ 1000000) : ∃ r, f56 a b = some r ∧ f36 a b = some r ∧ SzR r.1 ∧ r.1.length ≤ b.length := by
 rcases out_eq ha hla with ⟨e, he, h1, h2⟩ | ⟨l, q, h1, hl, h2⟩
 ·exact ⟨([], e), by simp only [f56, h1, Option.bind_some, if_neg he], h2 b, SzR.nil, by simp⟩
 rcases idx_eq hb hlb with ⟨e, he, k1, k2⟩ | ⟨m, k1, k3, k4, k2⟩
 ·exact ⟨([], e), by simp only [f56, h1, Option.bind_some, if_true, k1, if_neg he], by rw [h2, k2], SzR.nil, by simp⟩
 by_cases c : ((l.length : Nat) : Int) = ((m.length : Nat) : Int)
 ·obtain ⟨r, r1, r2, r3⟩ := vals_eq l (l, 0) (l, q) rfl rfl k3 (by omega)
  rcases r3 with rfl | ⟨m', rfl, hs, hlen⟩
  ·refine ⟨([], 3), ?_, ?_, SzR.nil, by simp⟩
   ·simp only [f56, h1, Option.bind_some, if_true, k1, if_pos c, r1]
   ·rw [h2, k2, if_pos c, r2]; rfl
  ·refine ⟨(m', 0), ?_, ?_, hs, by simp only; omega⟩
   ·simp only [f56, h1, Option.bind_some, if_true, k1, if_pos c, r1]
   ·rw [h2, k2, if_pos c, r2]; rfl
 ·refine ⟨([], 3), ?_, ?_, SzR.nil, by simp⟩
  ·simp only [f56, h1, Option.bind_some, if_true, k1, if_neg c]
  ·rw [h2, k2, if_neg c]
def f73 (a0 : List Int) : Option (List Int) := appO? [] a0
theorem ok73f (a0 : List Int) (r : List Int) (h : f73 a0 = some r) : PC Tryz.prog 73 [.sl (List.map enc3 a0)] (.fr 1 (List.map enc3 r)) := by
  obtain ⟨hl, hr⟩ := appO?_some.1 h
  rw [List.nil_append] at hr
  subst hr
  have hb : a0.length ≤ 34359738368 := by simpa using hl
  refine pc_of (N := 8) (rs := [.tmp 2]) Tryz.func73 rfl rfl rfl (Nat.le_of_ble_eq_true rfl) ?_
  refine AW.reg ?_
  generalize hK : AW Tryz.prog _ _ _ = K
  simp only [go_sem, seval]
  subst hK
  refine AW.seq ?_
  refine AW.nilq el48 rfl (by decide) (by decide) (fun bn hbn => ?_)
  refine AW.if rfl (fun hc4 => ?_) (fun hc4 => ?_)
  · have hl0 : a0 = [] := by simpa using hbn (by simpa using hc4)
    subst hl0
    refine AW.reg ?_
    generalize hK : AW Tryz.prog _ _ _ = K
    simp only [go_sem, seval]
    subst hK
    refine AW.ent (Ent.nilOwn 2 1 (by decide) rfl) ?_
    refine AW.ret <| thenA_r ?_
    exact fin_own (.inl rfl) rfl (by simp only [upd_ap, if_true]; rfl) rfl rfl rfl
  · refine AW.skip ?_
    refine thenA_n <| AW.reg ?_
    generalize hK : AW Tryz.prog _ _ _ = K
    simp (disch := first | omega | (simp only [List.length_map, List.length_cons, List.length_nil, List.length_append] <;> omega)) only [go_sem, seval]
    subst hK
    refine AW.ret ?_
    exact fin_own (.inl rfl) rfl (by simp only [upd_ap]; rfl) (by simp) (by simp only [go_sem]) rfl
theorem ok73 (a0 : List Int) (r : List Int) (h : f73 a0 = some r) : PC Tryz.prog 73 [.sl (List.map enc3 a0)] (.sl (List.map enc3 r)) := PC.fr_sl (ok73f a0 r h)
end Au
end Go.Proofs.Yt
namespace Go.Gm
open Go.Proofs Go.RowKit Go.Shelf Go.Maps Go.Sort
end Go.Gm
namespace Go.Gm
theorem CallOk.of_vals {P : Program} {f : FuncId} {us0 : List Value} {X : AV} {hp : AHeap} {id : Nat} (h : PC P f (us0.map .val) X) (hl : (claimV X id).2.length ≤ 8) :
    CallOk P f (us0.map .val) hp id ⟨(claimV X id).1, effOf (claimV X id).2 id⟩ := fun G al loc w vs hM hf hr => by
  have e := relL_vals_eq hr
  subst e
  have hm1 : ∀ b, (G.m1 b ∨ mtOf hp loc b) → b < w.heap.size := fun b hb => by
    rcases hb with hb | ⟨t, o, l, h1, h2, h3, h4, h5⟩
    · exact Nat.lt_of_lt_of_le (G.m1lt b hb) hM.size
    · exact h4 ▸ hM.lt h3 h5
  have hx : RelL (E0 (fun b => G.m1 b ∨ mtOf hp loc b) w) (vs.map .val) vs := relL_vals vs
  refine (call_core (G := G) (id := id) (X := X) (us := vs.map .val) hM hf h hm1 hx (fun _ b hb => hb) hl).mono ?_
  rintro e w' ⟨v, loc', rfl, a, b, c⟩
  exact ⟨v, loc', rfl, a, b, c⟩
end Go.Gm
namespace Go.Gm
open Go.RowKit
theorem pc_own0 {P : Program} {f : FuncId} {us : List AV} {sz : Nat} (hsz : 0 < sz)
    (h : ∀ (m : Nat → Prop) (w : World) (vs : List Value), (∀ b, m b → b < w.heap.size) → RelL (E0 m w) us vs → Calls P f vs.toArray w fun e w' => ∃ a cap, e = .returned (.slice a 0 cap) ∧
      (cap = 0 ∨ ∃ c ety, w'.heap[w.heap.size]? = some (.cells c ety (0, 0)) ∧ c.size = cap * sz ∧ a = some ⟨w.heap.size, 0, none⟩) ∧ Below w.heap.size w w') : PC P f us (.fr sz []) := by
  intro m w vs hm ht hr
  refine (h m w vs hm hr).mono ?_
  rintro e w' ⟨a, cap, rfl, hrow, hb⟩
  let v : Value := .slice a 0 cap
  let hp : AHeap := fun t => if t = 0 then some (.row sz true []) else none
  have main : ∀ (L : Loc), (L.st < L.n → w.heap.size ≤ L.b) → ObjAt (mkE m hp (fun t => t = 0) (fun t => if t = 0 then some L else none) w') L (.row sz true []) →
      (∃ a cap, v = .slice a 0 cap ∧ 0 < L.sz ∧ L.st + (0 + cap) * L.sz = L.n ∧ 0 ≤ cap ∧ (0 < cap → a = some ⟨L.b, L.st + 0 * L.sz, none⟩)) →
      ∃ v' hp' al loc r ts, Ending.returned v = .returned v' ∧ Mem ⟨w, fun _ => False, m, hm, 0, fun _ => none, Nat.zero_le _, ht⟩ hp' al loc w' ∧ Rel (mkE m hp' al loc w') r v' ∧ sealV hp' r = some (.fr sz [], ts) ∧ ts.Nodup := fun L hLb hob hv => by
    have hz : ∀ t o, hp t = some o → t = 0 ∧ o = .row sz true [] := fun t o ho => by
      by_cases ht : t = 0
      · subst ht; simp [hp] at ho; exact ⟨rfl, ho.symm⟩
      · simp [hp, ht] at ho
    have hlz : ∀ t L', (if t = 0 then some L else none) = some L' → t = 0 ∧ L' = L := fun t L' hL => by
      by_cases ht : t = 0
      · subst ht; simp at hL; exact ⟨rfl, hL.symm⟩
      · simp [ht] at hL
    refine ⟨v, hp, fun t => t = 0, fun t => if t = 0 then some L else none, .own 0 0 0, [0], rfl, ?_, ?_, ?_, by simp⟩
    · constructor
      · intro t o ho
        obtain ⟨rfl, rfl⟩ := hz t o ho
        exact ⟨L, rfl, hob⟩
      · intro t ht
        by_cases h0 : t = 0
        · subst h0; simp [hp] at ht
        · simp [h0]
      · intro t L' hL; exact (hlz t L' hL).1
      · intro t t' L1 L2 h1 h2 _ _ _
        rw [(hlz t L1 h1).1, (hlz t' L2 h2).1]
      · exact hb.os
      · exact hb.tape
      · exact hb.output
      · exact hb.size
      · intro b hlt _; exact hb.block b hlt
      · rintro b ⟨t, o, L', h1, h2, h3, h4, h5⟩ hlt
        obtain ⟨_, rfl⟩ := hlz t L' h3
        have h9 := hLb h5
        have h10 : b < w.heap.size := hlt
        show False
        omega
      · intro t L' hL hpos hmb
        obtain ⟨_, rfl⟩ := hlz t L' hL
        have := hLb hpos
        have := hm _ hmb
        omega
      · intro t ht; exact absurd ht (Nat.not_lt_zero t)
      · intro t L' ht; exact absurd ht (Nat.not_lt_zero t)
    · refine .own rfl fun L' hL => ?_
      obtain ⟨_, rfl⟩ := hlz 0 L' hL
      exact hv
    · have := own_fr (hp := hp) (t := 0) (n := 0) (sz := sz) (rows := []) rfl (by simp) rfl
      simpa only [resOf_1] using this
  rcases hrow with rfl | ⟨c, ety, hg, hcs, rfl⟩
  · exact main ⟨0, 0, sz, 0⟩ (fun h => absurd h (Nat.lt_irrefl _)) ⟨rfl, hsz, by simp, by simp, ⟨0, by simp⟩, fun h => absurd h (Nat.lt_irrefl _)⟩ ⟨a, 0, rfl, hsz, by simp, Nat.le_refl _, fun h => absurd h (Nat.lt_irrefl _)⟩
  · refine main ⟨w.heap.size, 0, sz, cap * sz⟩ (fun _ => Nat.le_refl _) ⟨rfl, hsz, by simp, by simp, ⟨cap, by simp⟩, fun _ => ⟨c, ety, (0, 0), [], hg, by simpa using hcs, .nil, by simp, by simp, fun k _ => by simp⟩⟩ ⟨some ⟨w.heap.size, 0, none⟩, cap, rfl, hsz, by simp, Nat.zero_le _, fun _ => by simp⟩
end Go.Gm
namespace Go.Proofs
open Go.RowKit Go.Shelf Go.Gm
def Tryz.grow_ren : Go.Shelf.Ren := ⟨fun | 4 => 104 | n => n, fun | 0 => 0 | 3 => 3 | 4 => 4 | 9 => 9 | 20 => 20 | 22 => 31 | 25 => 50 | n => n, fun | n => n⟩
theorem Tryz.growL : Lays8.n4 Tryz.prog Tryz.grow_ren := {
  mixed := by kernel_rfl
  f4 := ⟨Tryz.f104.name, by decide, Tryz.func104.trans (congrArg some (by kernel_rfl))⟩
  t0 := Tryz.underlying0
  a0 := Tryz.isAgg0
  z0 := Tryz.sizeOf0
  v0 := Tryz.zeroValue0
  t3 := Tryz.underlying3
  a3 := Tryz.isAgg3
  z3 := Tryz.sizeOf3
  v3 := Tryz.zeroValue3
  t4 := Tryz.underlying4
  a4 := Tryz.isAgg4
  z4 := Tryz.sizeOf4
  v4 := Tryz.zeroValue4
  t9 := Tryz.underlying9
  a9 := Tryz.isAgg9
  z9 := Tryz.sizeOf9
  v9 := Tryz.zeroValue9
  t20 := Tryz.underlying20
  a20 := Tryz.isAgg20
  z20 := Tryz.sizeOf20
  v20 := Tryz.zeroValue20
  t22 := Tryz.underlying31
  a22 := Tryz.isAgg31
  z22 := Tryz.sizeOf31
  v22 := Tryz.zeroValue31 }
theorem Tryz.growI : (Tryz.prog.info? 50).map (fun i => (i.zero, i.size, i.bytes)) = some (some (.agg #[.string ⟨#[]⟩, .string ⟨#[]⟩, .slice none 0 0]), 3, 56) := by kernel_rfl
theorem Tryz.grow_new (n : Nat) (hn : n ≤ 1000000) (w : World) :
    Calls Tryz.prog 104 #[.slice none 0 0, .int .i64 n] w fun e w' => ∃ a cap, e = .returned (.slice a 0 cap) ∧
      (cap = 0 ∨ ∃ c ety, w'.heap[w.heap.size]? = some (.cells c ety (0, 0)) ∧ c.size = cap * 3 ∧ a = some ⟨w.heap.size, 0, none⟩) ∧ Below w.heap.size w w' := by
  by_cases h0 : n = 0
  · subst h0
    refine (Any8.slices_Grow_room Tryz.growL none 0 0 0 w (by omega) (by omega) (by omega) (by omega)).mono ?_
    rintro e w' ⟨rfl, rfl⟩
    exact ⟨none, 0, rfl, .inl rfl, Below.refl _ _⟩
  · obtain ⟨i0, hi, hz, hs, hb⟩ := info_parts Tryz.growI
    refine (Any8.slices_Grow_grow Tryz.growL i0 _ hi hz (by rw [hs]; decide) none 0 0 n [] w (by omega) (by omega) (by rw [hb]; omega) (by omega) (by simp) (fun _ => rfl) (fun a h => by cases h)).mono ?_
    rintro e w' ⟨rfl, rfl⟩
    have hcap := Go.grownCap_ge w (0 + n) 0 (Tryz.grow_ren.t 25)
    refine ⟨_, _, rfl, .inr ⟨_, _, World.alloc_heap_new w.drew _, ?_, rfl⟩, ?_⟩
    · simp [Builtin.zeroCells, Value.cells]
      simp at hcap
      omega
    · exact ((Below.refl _ w).drew).alloc (Nat.le_refl _) _
end Go.Proofs
namespace Go.Proofs.Yt
open Go.Gm
namespace Au
def f104 (a0 : List Res) (a1 : Int) : Option (List Res) := if 0 ≤ a1 ∧ a1 ≤ 1000000 then some [] else none
theorem ok104 (a0 : List Res) (a1 : Int) (r : List Res) (h : f104 a0 a1 = some r) : PC Tryz.prog 104 [.val (.slice none 0 0), .val (.int .i64 a1)] (.fr 3 (List.map encRes r)) := by
  unfold f104 at h
  split at h
  rotate_left
  · cases h
  rename_i hl
  obtain rfl := Option.some.inj h
  obtain ⟨n, rfl⟩ := Int.eq_ofNat_of_zero_le hl.1
  refine pc_own0 (sz := 3) (by decide) fun m w vs hm hv => ?_
  have e := relL_vals_eq (us := [.slice none 0 0, .int .i64 n]) hv
  subst e
  exact Tryz.grow_new n (by omega) w
def f72_s2 (a0 : List (List Res)) : Int × Int → Option ((Int × Int) ⊕ Int)
  | (s2_0, s2_1) => (if s2_1 < (a0.length : Int) then ((ix a0 s2_1).bind fun x26 => (if (IntKind.i64.wrap (s2_0 + (x26.length : Int))) < 0 then none else some (.inl (IntKind.i64.wrap (s2_0 + (x26.length : Int)), IntKind.i64.wrap (s2_1 + 1))))) else some (.inr s2_0))
def f72_s3 (a0 : List (List Res)) : (List Res) × Int → Option (((List Res) × Int) ⊕ (List Res))
  | (s3_0, s3_1) => (if s3_1 < (a0.length : Int) then ((ix a0 s3_1).bind fun x44 => ((appO? s3_0 x44).bind fun x45 => some (.inl (x45, IntKind.i64.wrap (s3_1 + 1))))) else some (.inr s3_0))
def f72 (a0 : List (List Res)) : Option (List Res) := ((loopO (f72_s2 a0) (0, 0)).bind fun y29 => ((f104 [] y29).bind fun x30 => ((loopO (f72_s3 a0) (x30, 0)).bind fun y47 => some y47)))
theorem ok72 (a0 : List (List Res)) (r : (List Res)) (h : f72 a0 = some r) : PC Tryz.prog 72 [.sl (List.map enc31 a0)] (.fr 3 (List.map encRes r)) := by
 rw [f72] at h
 refine pc_of9 (N := 36) (rs := [.tmp 2]) Tryz.func72 ?_
 refine AW.rX [0] ?_
 refine AW.rX [0, 3] ?_
 refine AW.seq <| AW.rX [0, 3, 9, 10, 11] ?_
 refine AW.block ?_
 obtain ⟨y29, hy29, h⟩ := bO h
 refine AW.loopO (fun s => ⟨(upd (upd (upd (upd (upd anyF 0 (.sl (List.map enc31 a0))) 3 (.val (.int .i64 s.1))) 9 (.sl (List.map enc31 a0))) 10 (.val (.int .i64 (a0.length : Int)))) 11 (.val (.int .i64 s.2))), hpL [] [], 8⟩) (fun z e st' => e = Exit.exit 0 ∧ st' = ⟨(upd (upd anyF 0 (.sl (List.map enc31 a0))) 3 (.val (.int .i64 z))), hpL [] [], 8⟩) hy29 ?_ ?_ ?_
 ·exact Ent.cq RF.any.qv.qv.qv.qv.qv
 ·clear h hy29
  rintro ⟨s2_0, s2_1⟩ x h
  rw [f72_s2] at h
  refine AW.rX [0, 3, 9, 10, 11, 12] ?_
  refine AW.seq ?_
  rcases iteO h with ⟨c25, h⟩ | ⟨c25, h⟩
  ·refine AW.ifT rfl c25 <| AW.skip <| thenA_n <| AW.seq <| AW.block ?_
   obtain ⟨x26, hx26, h⟩ := bO h
   obtain ⟨hx26a, hx26b⟩ := ix_some.1 hx26
   refine AW.sX [0, 3, 5, 9, 10, 11] ?_
   refine AW.rX [0, 3, 9, 10, 11] ?_
   refine AW.rX [0, 3, 9, 10, 11, 20] ?_
   rcases iteO h with ⟨c27, h⟩ | ⟨c27, h⟩
   ·refine AW.ifT rfl c27 ?_
    cases h
   ·refine AW.ifF rfl c27 <| AW.skip <| block_n <| thenA_n <| AW.rY [0, 3, 9, 10, 11] ?_
    refine thenA_n ?_
    refine ⟨_, oj h, ?_⟩
    exact Ent.cq RF.any.qv.qv.qv.qv.qv
  ·refine AW.ifF rfl c25 <| AW.exit <| thenA_x <| thenA_x ?_
   refine ⟨_, oj h, _, ?_, rfl, rfl⟩
   exact Ent.cq RF.any.qv.qv
 ·intro e st' hX
  try dsimp only at h
  try dsimp only at hX
  obtain ⟨rfl, rfl⟩ := hX
  refine ⟨_, Ent.refl, ?_⟩
  refine block_x <| thenA_n ?_
  obtain ⟨x30, hx30, h⟩ := bO h
  refine AW.rK [0, 6] fun K hK => ?_
  simp only [go_sem, seval]
  refine arC.ok (CallOk.of_vals (us0 := [.slice none 0 0, .int .i64 y29]) (ok104 [] y29 x30 hx30) (by first | decide | simp [go_sem])) Tryz.call104 ?_
  simp only [go_sem, seval]
  subst hK
  refine AW.seq <| AW.rX [6, 25, 26, 27] ?_
  refine AW.block ?_
  obtain ⟨y47, hy47, h⟩ := bO h
  refine AW.loopO (fun s => ⟨(upd (upd (upd (upd anyF 6 (.own 8 0 s.1.length)) 25 (.sl (List.map enc31 a0))) 26 (.val (.int .i64 (a0.length : Int)))) 27 (.val (.int .i64 s.2))), hpL [] [some (.row 3 true (List.map encRes s.1))], 9⟩) (fun z e st' => e = Exit.exit 2 ∧ st' = ⟨(upd anyF 6 (.own 8 0 z.length)), hpL [] [some (.row 3 true (List.map encRes z))], 9⟩) hy47 ?_ ?_ ?_
  ·exact Ent.canq [16] RF.any.qo.qv.qv.qv (.nil _) (.ce (.nil _))
  ·clear h hy47
   rintro ⟨s3_0, s3_1⟩ x h
   rw [f72_s3] at h
   refine AW.rX [6, 25, 26, 27, 28] ?_
   refine AW.seq ?_
   rcases iteO h with ⟨c43, h⟩ | ⟨c43, h⟩
   ·refine AW.ifT rfl c43 <| AW.skip <| thenA_n <| AW.seq <| AW.block ?_
    obtain ⟨x44, hx44, h⟩ := bO h
    obtain ⟨hx44a, hx44b⟩ := ix_some.1 hx44
    refine AW.sX [6, 8, 25, 26, 27] ?_
    obtain ⟨x45, hx45, h⟩ := bO h
    obtain ⟨hx45b, hx45e⟩ := appO?_some.1 hx45
    have hx45f : ∀ id o : Nat, appO 3 56 id (List.map encRes x44) 0 s3_0.length o (some (.row 3 true (List.map encRes s3_0))) = some ⟨.own id 0 x45.length, [(o, none), (id, some (.row 3 true (List.map encRes x45)))]⟩ := fun id o => by
      subst hx45e; rw [appO_ok (by simp) (by simpa using hx45b) (by decide)]; first | (simp [encRes]; done) | (simp [encRes]; omega)
    refine AW.sY [6, 25, 26, 27] ?_
    refine block_n <| thenA_n <| AW.rY [6, 25, 26, 27] ?_
    refine thenA_n ?_
    refine ⟨_, oj h, ?_⟩
    exact Ent.canq [57] RF.any.qo.qv.qv.qv (.nil _) (.ce (.nil _))
   ·refine AW.ifF rfl c43 <| AW.exit <| thenA_x <| thenA_x ?_
    refine ⟨_, oj h, _, ?_, rfl, rfl⟩
    exact Ent.canq [8] RF.any.qo (.nil _) (.ce (.nil _))
  ·intro e st' hX
   try dsimp only at h
   try dsimp only at hX
   obtain ⟨rfl, rfl⟩ := hX
   refine ⟨_, Ent.refl, ?_⟩
   refine block_x <| thenA_n <| AW.rX [2] ?_
   refine AW.ret ?_
   obtain rfl := oi h
   (simp only [go_sem, seval, finA] <;> try simp)
def f43_s1 (x1 : (List Res)) : (List Res) × Int → Option (((List Res) × Int) ⊕ (List Res))
  | (s1_0, s1_1) => (if s1_1 < ((x1.length : Nat) : Int) then ((ix s1_0 s1_1).bind fun x15 => ((f73 x15.Offs).bind fun x16 => some (.inl ((s1_0.set s1_1.toNat (⟨x15.Key, x15.Val, x16⟩ : Res)), IntKind.i64.wrap (s1_1 + 1))))) else some (.inr s1_0))
def f43 (a0 : List (List Res)) : Option (List Res) := ((f72 a0).bind fun x1 => ((loopO (f43_s1 x1) (x1, 0)).bind fun y18 => ((f74_75 y18).bind fun x19 => ((guardO (x19.length = y18.length)).bind fun x20 => some x19))))
theorem ok43 (a0 : List (List Res)) (r : (List Res)) (h : f43 a0 = some r) : PC Tryz.prog 43 [.sl (List.map enc31 a0)] (.fr 3 (List.map encRes r)) := by
 rw [f43] at h
 refine pc_of9 (N := 26) (rs := [.tmp 2]) Tryz.func43 ?_
 refine AW.rX [0] ?_
 obtain ⟨x1, hx1, h⟩ := bO h
 refine AW.rC [3] (ok72 a0 x1 hx1) Tryz.call72 ?_
 refine AW.seq <| AW.rX [3, 8, 9] ?_
 refine AW.block ?_
 obtain ⟨y18, hy18, h⟩ := bO h
 refine AW.loopO (fun s => ⟨(upd (upd (upd anyF 3 (.own 8 0 s.1.length)) 8 (.val (.int .i64 ((x1.length : Nat) : Int)))) 9 (.val (.int .i64 s.2))), hpL [] [some (.row 3 true (List.map encRes s.1))], 9⟩) (fun z e st' => e = Exit.exit 0 ∧ st' = ⟨(upd anyF 3 (.own 8 0 z.length)), hpL [] [some (.row 3 true (List.map encRes z))], 9⟩) hy18 ?_ ?_ ?_
 ·exact Ent.canq [24] RF.any.qo.qv.qv (.nil _) (.ce (.nil _))
 ·clear h hy18
  rintro ⟨s1_0, s1_1⟩ x h
  rw [f43_s1] at h
  refine AW.rX [3, 8, 9, 10] ?_
  refine AW.seq ?_
  rcases iteO h with ⟨c14, h⟩ | ⟨c14, h⟩
  ·refine AW.ifT rfl c14 <| AW.skip <| thenA_n <| AW.seq <| AW.block <| AW.rX [3, 4, 8, 9] ?_
   obtain ⟨x15, hx15, h⟩ := bO h
   obtain ⟨hx15a, hx15b⟩ := ix_some.1 hx15
   obtain ⟨x16, hx16, h⟩ := bO h
   refine AW.rL [3, 8, 9] fun K hK => ?_
   simp only [go_sem, seval, natOf_le hx15a, hx15b, ix_lt hx15b, set_row (enc := encRes) (y := (⟨x15.Key, x15.Val, x16⟩ : Res)) (r := [.val (.string x15.Key), .val (.string x15.Val), .sl (List.map enc3 x16)]) rfl]
   refine arC.of (ok73 x15.Offs x16 hx16) Tryz.call73 ?_
   simp only [go_sem, seval, natOf_le hx15a, hx15b, ix_lt hx15b, set_row (enc := encRes) (y := (⟨x15.Key, x15.Val, x16⟩ : Res)) (r := [.val (.string x15.Key), .val (.string x15.Val), .sl (List.map enc3 x16)]) rfl]
   subst hK
   refine block_n <| thenA_n <| AW.rY [3, 8, 9] ?_
   refine thenA_n ?_
   refine ⟨_, oj h, ?_⟩
   exact Ent.canq [8] RF.any.qo.qv.qv (.nil _) (.ce (.nil _))
  ·refine AW.ifF rfl c14 <| AW.exit <| thenA_x <| thenA_x ?_
   refine ⟨_, oj h, _, ?_, rfl, rfl⟩
   exact Ent.canq [8] RF.any.qo (.nil _) (.ce (.nil _))
 ·intro e st' hX
  try dsimp only at h
  try dsimp only at hX
  obtain ⟨rfl, rfl⟩ := hX
  refine ⟨_, Ent.refl, ?_⟩
  refine block_x <| thenA_n ?_
  obtain ⟨x19, hx19, h⟩ := bO h
  obtain ⟨x20, hx20, h⟩ := bO h
  have lenhx19 : x19.length = y18.length := guardO_some.1 hx20
  refine AW.rK [3] fun K hK => ?_
  simp only [go_sem, seval, lenhx19]
  refine arC.ok (CallOk.icr (us' := _) (ok74_75 y18 x19 hx19) [8] (.cons (.eq (by simp only [go_sem]) (by first | rfl | simp [upd_ap, hpL_ap, sg_ap])) (.nil _)) (.cons (.of (by first | rfl | simp [mapT_own, sg_ap])) (.cons Weak.fnclo .nil))) Tryz.call74 ?_
  simp only [go_sem, seval, lenhx19]
  subst hK
  refine AW.sX [2] ?_
  refine AW.ret ?_
  obtain rfl := oi h
  (simp only [go_sem, seval, lenhx19, finA] <;> try simp) <;> try omega
def f37_s18 (s12_0 : List Res) (s12_1 : Int) (x190 : List Res) : Int → Option (Int ⊕ Int)
  | s18_0 => (if 0 < s18_0 then ((ix x190 s12_1).bind fun x215 => ((ix s12_0 (IntKind.i64.wrap (s18_0 - 1))).bind fun x216 => ((f67 x215.Key x216.Key).bind fun x217 => (if x217 = true then some (.inl (IntKind.i64.wrap (s18_0 - 1))) else some (.inr s18_0))))) else some (.inr s18_0))
def f37_s12 (a0 : List (List Res)) (s1_1 : Int) : (List Res) × Int → Option (((List Res) × Int) ⊕ (List Res))
  | (s12_0, s12_1) => ((ix a0 s1_1).bind fun x190 => (if s12_1 < (x190.length : Int) then ((loopO (f37_s18 s12_0 s12_1 x190) ((s12_0.length : Nat) : Int)).bind fun y220 => ((cutO? s12_0 0 y220).bind fun x221 => ((appO? ([] : List Res) x221).bind fun x222 => ((ix x190 s12_1).bind fun x223 => ((appO? x222 [x223]).bind fun x224 => ((cutO? s12_0 y220 (s12_0.length : Int)).bind fun x225 => ((appO? x224 x225).bind fun x226 => some (.inl (x226, IntKind.i64.wrap (s12_1 + 1)))))))))) else some (.inr s12_0)))
def f37_s1 (a0 : List (List Res)) : (List Res) × Int → Option (((List Res) × Int) ⊕ (List Res))
  | (s1_0, s1_1) => (if s1_1 < (a0.length : Int) then ((loopO (f37_s12 a0 s1_1) (s1_0, 0)).bind fun y228 => some (.inl (y228, IntKind.i64.wrap (s1_1 + 1)))) else some (.inr s1_0))
def f37 (a0 : List (List Res)) : Option (List Res) := ((loopO (f37_s1 a0) ([], 0)).bind fun y230 => some y230)
theorem ok37 (a0 : List (List Res)) (r : (List Res)) (h : f37 a0 = some r) : PC Tryz.prog 37 [.sl (List.map enc31 a0)] (.fr 3 (List.map encRes r)) := by
 rw [f37] at h
 refine pc_of9 (N := 67) (rs := [.tmp 2]) Tryz.func37 ?_
 refine AW.rX [0] ?_
 refine AW.rX [0, 3] ?_
 refine AW.seq <| AW.rX [0, 3, 4] ?_
 refine AW.block ?_
 obtain ⟨y230, hy230, h⟩ := bO h
 refine AW.loopO (fun s => ⟨(upd (upd (upd anyF 0 (.sl (List.map enc31 a0))) 3 (.own 8 0 s.1.length)) 4 (.val (.int .i64 s.2))), hpL [] [some (.row 3 true (List.map encRes s.1))], 9⟩) (fun z e st' => e = Exit.exit 0 ∧ st' = ⟨(upd anyF 3 (.own 8 0 z.length)), hpL [] [some (.row 3 true (List.map encRes z))], 9⟩) hy230 ?_ ?_ ?_
 ·refine Ent.trans (Ent.nilOwn 3 3 (by decide) rfl) ?_
  exact Ent.canq [32] RF.any.qv.qo.qv (.nil _) (.ce (.nil _))
 ·clear h hy230
  rintro ⟨s1_0, s1_1⟩ x h
  rw [f37_s1] at h
  refine AW.seq <| AW.rX [0, 3, 4, 11] ?_
  rcases iteO h with ⟨c119, h⟩ | ⟨c119, h⟩
  ·refine AW.ifT rfl c119 <| AW.skip <| thenA_n <| AW.seq <| AW.block <| AW.rX [0, 3, 4, 5] ?_
   refine AW.block ?_
   obtain ⟨y228, hy228, h⟩ := bO h
   refine AW.loopO (fun s => ⟨(upd (upd (upd (upd anyF 0 (.sl (List.map enc31 a0))) 3 (.own 8 0 s.1.length)) 4 (.val (.int .i64 s1_1))) 5 (.val (.int .i64 s.2))), hpL [] [some (.row 3 true (List.map encRes s.1))], 9⟩) (fun z e st' => e = Exit.exit 2 ∧ st' = ⟨(upd (upd (upd anyF 0 (.sl (List.map enc31 a0))) 3 (.own 8 0 z.length)) 4 (.val (.int .i64 s1_1))), hpL [] [some (.row 3 true (List.map encRes z))], 9⟩) hy228 ?_ ?_ ?_
   ·exact Ent.canq [8] RF.any.qv.qo.qv.qv (.nil _) (.ce (.nil _))
   ·clear h hy228
    rintro ⟨s12_0, s12_1⟩ x h
    rw [f37_s12] at h
    refine AW.seq ?_
    obtain ⟨x190, hx190, h⟩ := bO h
    obtain ⟨hx190a, hx190b⟩ := ix_some.1 hx190
    refine AW.vX [0, 3, 4, 5, 20] ?_
    rcases iteO h with ⟨c191, h⟩ | ⟨c191, h⟩
    ·refine AW.ifT rfl c191 <| AW.skip <| thenA_n <| AW.seq <| AW.block <| AW.rX [0, 3, 4, 5, 6] ?_
     refine AW.seq <| AW.block ?_
     obtain ⟨y220, hy220, h⟩ := bO h
     refine AW.loopO (fun s => ⟨(upd (upd (upd (upd (upd anyF 0 (.sl (List.map enc31 a0))) 3 (.own 8 0 s12_0.length)) 4 (.val (.int .i64 s1_1))) 5 (.val (.int .i64 s12_1))) 6 (.val (.int .i64 s))), hpL [] [some (.row 3 true (List.map encRes s12_0))], 9⟩) (fun z e st' => e = Exit.exit 4 ∧ st' = ⟨(upd (upd (upd (upd (upd anyF 0 (.sl (List.map enc31 a0))) 3 (.own 8 0 s12_0.length)) 4 (.val (.int .i64 s1_1))) 5 (.val (.int .i64 s12_1))) 6 (.val (.int .i64 z))), hpL [] [some (.row 3 true (List.map encRes s12_0))], 9⟩) hy220 ?_ ?_ ?_
     ·exact Ent.canq [8] RF.any.qv.qo.qv.qv.qv (.nil _) (.ce (.nil _))
     ·clear h hy220
      rintro s18_0 x h
      rw [f37_s18] at h
      refine AW.seq ?_
      rcases iteO h with ⟨c214, h⟩ | ⟨c214, h⟩
      ·obtain ⟨x215, hx215, h⟩ := bO h
       obtain ⟨hx215a, hx215b⟩ := ix_some.1 hx215
       obtain ⟨x216, hx216, h⟩ := bO h
       obtain ⟨hx216a, hx216b⟩ := ix_some.1 hx216
       obtain ⟨x217, hx217, h⟩ := bO h
       refine AW.rG [0, 3, 4, 5, 6, 43] [0,1,3,7,7,31,63,7,255,511,1023,7,7,4103,14343,30727,63495,131071,262143] (ok67 x215.Key x216.Key x217 hx217) Tryz.call67 ?_
       generalize hK : AW Tryz.prog _ _ _ = K
       simp only [go_sem, seval, eq_true c119, eq_true c191, eq_true c214, natOf_le hx190a, hx190b, natOf_le hx215a, hx215b, natOf_le hx216a, hx216b, ix_lt hx216b]
       subst hK
       rcases iteO h with ⟨c218, h⟩ | ⟨c218, h⟩
       ·refine AW.ifBT rfl c218 <| AW.skip <| thenA_n <| AW.block <| AW.tY [0, 3, 4, 5, 6] ?_
        refine block_n <| thenA_n ?_
        refine ⟨_, oj h, ?_⟩
        exact Ent.canq [8] RF.any.qv.qo.qv.qv.qv (.nil _) (.ce (.nil _))
       ·rw [Bool.not_eq_true] at c218
        refine AW.ifBF rfl c218 <| AW.exit <| thenA_x <| thenA_x ?_
        refine ⟨_, oj h, _, ?_, rfl, rfl⟩
        exact Ent.canq [8] RF.any.qv.qo.qv.qv.qv (.nil _) (.ce (.nil _))
      ·refine AW.re [0, 3, 4, 5, 6, 43] [0,1,3,7,7,31,63,7,255,511,1023,7,7,4103,14343,30727,63495,131071,262143] ?_
       generalize hK : AW Tryz.prog _ _ _ = K
       simp only [go_sem, seval, eq_true c119, eq_true c191, eq_false c214]
       subst hK
       refine AW.ifBF rfl rfl <| AW.exit <| thenA_x <| thenA_x ?_
       refine ⟨_, oj h, _, ?_, rfl, rfl⟩
       exact Ent.canq [8] RF.any.qv.qo.qv.qv.qv (.nil _) (.ce (.nil _))
     ·intro e st' hX
      try dsimp only at h
      try dsimp only at hX
      obtain ⟨rfl, rfl⟩ := hX
      refine ⟨_, Ent.refl, ?_⟩
      refine block_x <| thenA_n <| AW.ent (Ent.still 3 rfl (own_sl (sz := 3) (m := true) rfl (by first | rfl | simp [bytesI_len, eq_true c119, eq_true c191]) (by simp only [go_sem]))) ?_
      obtain ⟨x221, hx221, h⟩ := bO h
      obtain ⟨x222, hx222, h⟩ := bO h
      obtain ⟨hx222b, hx222e⟩ := appO?_some.1 hx222
      have hx222f : ∀ id o : Nat, appO 3 56 id (List.map encRes x221) 0 0 o (some (.row 3 true (([] : List (List AV))))) = some ⟨.own id 0 x222.length, [(o, none), (id, some (.row 3 true (List.map encRes x222)))]⟩ := fun id o => by
        subst hx222e; rw [appO_ok (by simp) (by simpa using hx222b) (by decide)]; first | (simp [encRes]; done) | (simp [encRes]; omega)
      refine AW.rK [0, 3, 4, 5, 6, 7] fun K hK => ?_
      simp only [go_sem, seval, cut_ns el31 sz50 (ml_encRes _) hx221, hx222f]
      subst hK
      obtain ⟨x223, hx223, h⟩ := bO h
      obtain ⟨hx223a, hx223b⟩ := ix_some.1 hx223
      obtain ⟨x224, hx224, h⟩ := bO h
      obtain ⟨hx224b, hx224e⟩ := appO?_some.1 hx224
      have hx224f : ∀ id o : Nat, appO 3 56 id ([[.val (.string x223.Key), .val (.string x223.Val), .sl (List.map enc3 x223.Offs)]]) 0 x222.length o (some (.row 3 true (List.map encRes x222))) = some ⟨.own id 0 x224.length, [(o, none), (id, some (.row 3 true (List.map encRes x224)))]⟩ := fun id o => by
        subst hx224e; rw [appO_ok (by simp) (by simpa using hx224b) (by decide)]; first | (simp [encRes]; done) | (simp [encRes]; omega)
      refine AW.rK [0, 3, 4, 5, 6, 7] fun K hK => ?_
      simp only [go_sem, seval, natOf_le hx190a, hx190b, natOf_le hx223a, hx223b, hx224f]
      subst hK
      obtain ⟨x225, hx225, h⟩ := bO h
      obtain ⟨x226, hx226, h⟩ := bO h
      obtain ⟨hx226b, hx226e⟩ := appO?_some.1 hx226
      have hx226f : ∀ id o : Nat, appO 3 56 id (List.map encRes x225) 0 x224.length o (some (.row 3 true (List.map encRes x224))) = some ⟨.own id 0 x226.length, [(o, none), (id, some (.row 3 true (List.map encRes x226)))]⟩ := fun id o => by
        subst hx226e; rw [appO_ok (by simp) (by simpa using hx226b) (by decide)]; first | (simp [encRes]; done) | (simp [encRes]; omega)
      refine AW.rL [0, 3, 4, 5] fun K hK => ?_
      simp only [go_sem, seval, cut_sn el31 sz50 (ml_encRes _) hx225, hx226f]
      subst hK
      refine block_n <| thenA_n <| AW.rY [0, 3, 4, 5] ?_
      refine thenA_n ?_
      refine ⟨_, oj h, ?_⟩
      exact Ent.canq [177] RF.any.qv.qo.qv.qv (.nil _) (.ce (.nil _))
    ·refine AW.ifF rfl c191 <| AW.exit <| thenA_x <| thenA_x ?_
     refine ⟨_, oj h, _, ?_, rfl, rfl⟩
     exact Ent.canq [8] RF.any.qv.qo.qv (.nil _) (.ce (.nil _))
   ·intro e st' hX
    try dsimp only at h
    try dsimp only at hX
    obtain ⟨rfl, rfl⟩ := hX
    refine ⟨_, Ent.refl, ?_⟩
    refine block_x <| block_n <| thenA_n <| AW.rY [0, 3, 4] ?_
    refine thenA_n ?_
    refine ⟨_, oj h, ?_⟩
    exact Ent.canq [8] RF.any.qv.qo.qv (.nil _) (.ce (.nil _))
  ·refine AW.ifF rfl c119 <| AW.exit <| thenA_x <| thenA_x ?_
   refine ⟨_, oj h, _, ?_, rfl, rfl⟩
   exact Ent.canq [8] RF.any.qo (.nil _) (.ce (.nil _))
 ·intro e st' hX
  try dsimp only at h
  try dsimp only at hX
  obtain ⟨rfl, rfl⟩ := hX
  refine ⟨_, Ent.refl, ?_⟩
  refine block_x <| thenA_n <| AW.rX [2] ?_
  refine AW.ret ?_
  obtain rfl := oi h
  (simp only [go_sem, seval, finA] <;> try simp)
theorem flat_take (ps : List (List Res)) (i : Nat) (h : i < ps.length) : (ps.take (i + 1)).flatten = (ps.take i).flatten ++ ps[i] := by
 rw [List.take_succ_eq_append_getElem h, List.flatten_append]; simp
theorem flat_le (ps : List (List Res)) (i : Nat) : (ps.take i).flatten.length ≤ ps.flatten.length := by
 have : ps.flatten = (ps.take i).flatten ++ (ps.drop i).flatten := by rw [← List.flatten_append, List.take_append_drop]
 rw [this, List.length_append]; omega
theorem concat_eq (ps : List (List Res)) (h1 : ps.length ≤ 100000) (h2 : ps.flatten.length ≤ 100000) : f72 ps = some ps.flatten := by
 have k1 : loopO (f72_s2 ps) (0, 0) = some (ps.flatten.length : Int) := by
  have := loopN_done (step := f72_s2 ps) (fun i => ((((ps.take i).flatten.length : Nat) : Int), (i : Int))) ps.length (r := (ps.flatten.length : Int)) (fun i hi => by
   have hle := flat_le ps (i + 1)
   have e := flat_take ps i hi
   have el : ((ps.take (i + 1)).flatten.length : Int) = ((ps.take i).flatten.length : Int) + (ps[i].length : Int) := by rw [e, List.length_append]; omega
   simp only [f72_s2, if_pos (show (i : Int) < (ps.length : Int) by omega), ixN hi, Option.bind_some]
   rw [← el, i64_id (by omega) (by omega), if_neg (by omega), wrapN (by omega)]) (by
   simp only [f72_s2, if_neg (show ¬ (ps.length : Int) < (ps.length : Int) by omega), List.take_length])
  simpa using this
 have k2 : loopO (f72_s3 ps) ([], 0) = some ps.flatten := by
  have := loopN_done (step := f72_s3 ps) (fun i => ((ps.take i).flatten, (i : Int))) ps.length (r := ps.flatten) (fun i hi => by
   have hle := flat_le ps (i + 1)
   have e := flat_take ps i hi
   have el : (ps.take (i + 1)).flatten.length = (ps.take i).flatten.length + ps[i].length := by rw [e, List.length_append]
   simp only [f72_s3, if_pos (show (i : Int) < (ps.length : Int) by omega), ixN hi, Option.bind_some, appO_ok' (l := (ps.take i).flatten) (r := ps[i]) (by omega) (by omega), ← e, wrapN (show i ≤ 10000000000 by omega)]) (by
   simp only [f72_s3, if_neg (show ¬ (ps.length : Int) < (ps.length : Int) by omega), List.take_length])
  simpa using this
 simp only [f72, k1, Option.bind_some, f104]
 rw [if_pos ⟨by omega, by omega⟩]
 simp only [Option.bind_some, k2]
theorem join_prog (ps : List (List Res)) (h1 : ps.length ≤ 100000) (h2 : ps.flatten.length ≤ 100000) (h3 : ∀ r ∈ ps.flatten, r.Offs.length ≤ 1000000) : ∃ r, f43 ps = some r ∧ Sorts ltI ps.flatten r := by
 obtain ⟨r, r1, r2⟩ := stable_eq ps.flatten h2
 have k : loopO (f43_s1 ps.flatten) (ps.flatten, 0) = some ps.flatten := by
  have := loopN_done (step := f43_s1 ps.flatten) (fun i => (ps.flatten, (i : Int))) ps.flatten.length (r := ps.flatten) (fun i hi => by
   have ho := h3 _ (List.getElem_mem hi)
   have e73 : f73 ps.flatten[i].Offs = some ps.flatten[i].Offs := by rw [f73, appO_ok' (by simp) (by omega)]; rfl
   have hs : ps.flatten.set i ⟨ps.flatten[i].Key, ps.flatten[i].Val, ps.flatten[i].Offs⟩ = ps.flatten := List.set_getElem_self hi
   simp only [f43_s1, if_pos (show (i : Int) < ((ps.flatten.length : Nat) : Int) by omega), ixN hi, Option.bind_some, e73, Int.toNat_natCast, hs, wrapN (show i ≤ 10000000000 by omega)]) (by
   simp only [f43_s1, if_neg (show ¬ (ps.flatten.length : Int) < ((ps.flatten.length : Nat) : Int) by omega)])
  simpa using this
 refine ⟨r, ?_, r2⟩
 simp only [f43, concat_eq ps h1 h2, Option.bind_some, k, r1, guardO_ok r2.len]
theorem ins_back (x : Res) (xs : List Res) (j : Int) (hx : ix xs j = some x) (hk : x.Key.size ≤ 1000000) : ∀ (n : Nat) (A B : List Res), A.length = n → (A ++ B).length ≤ 1000000 → Srt ltI (A ++ B) → (∀ b ∈ B, ltI x b = true) →
  ∃ A' B', A ++ B = A' ++ B' ∧ loopO (f37_s18 (A ++ B) j xs) (n : Int) = some (A'.length : Int) ∧ (∀ b ∈ B', ltI x b = true) ∧ (∀ a ∈ A', ltI x a = false)
 | 0, A, B, hA, hl, hs, hB => by
  obtain rfl := List.eq_nil_of_length_eq_zero hA
  exact ⟨[], B, rfl, loopO_done (by simp only [f37_s18]; rw [if_neg (by decide)]; rfl), hB, fun a h => by cases h⟩
 | n + 1, A, B, hA, hl, hs, hB => by
  obtain ⟨A1, y, rfl⟩ : ∃ A1 y, A = A1 ++ [y] := by
   rcases List.eq_nil_or_concat A with rfl | ⟨A1, y, rfl⟩
   ·simp at hA
   ·exact ⟨A1, y, by simp⟩
  have hA1 : A1.length = n := by simpa using hA
  have hy : ix ((A1 ++ [y]) ++ B) (IntKind.i64.wrap (((n + 1 : Nat) : Int) - 1)) = some y := by
   rw [wrapM (by omega) (by simp at hl; omega), List.append_assoc]
   exact ix_mid (by simp [hA1])
  have hst : f37_s18 ((A1 ++ [y]) ++ B) j xs ((n + 1 : Nat) : Int) = if ltI x y = true then some (.inl (n : Int)) else some (.inr ((n + 1 : Nat) : Int)) := by
   simp only [f37_s18]
   rw [if_pos (by omega), hx]
   simp only [Option.bind_some, hy, less (show x.Key.size ≤ 4000000000 by omega)]
   have : IntKind.i64.wrap (((n + 1 : Nat) : Int) - 1) = (n : Int) := by rw [wrapM (by omega) (by simp at hl; omega)]; rfl
   rw [this]; rfl
  by_cases c : ltI x y = true
  ·rw [if_pos c] at hst
   obtain ⟨A', B', e1, e2, e3, e4⟩ := ins_back x xs j hx hk n A1 (y :: B) hA1 (by simpa using hl) (by simpa using hs) (fun b hb => by
    rcases List.mem_cons.1 hb with rfl | hb
    ·exact c
    ·exact hB b hb)
   refine ⟨A', B', by rw [← e1]; simp, ?_, e3, e4⟩
   rw [loopO_next hst]
   have : (A1 ++ [y]) ++ B = A1 ++ y :: B := by simp
   rw [this]; exact e2
  ·rw [if_neg c] at hst
   refine ⟨A1 ++ [y], B, rfl, by rw [loopO_done hst]; simp [hA1], hB, fun a ha => ?_⟩
   have hs' := (Srt.left hs)
   rcases List.mem_append.1 ha with ha | ha
   ·have h1 : ltI y a = false := Srt.cross hs' a ha y (by simp)
    exact swoI.le_trans h1 (by simpa using c)
   ·simp at ha; subst ha; simpa using c
theorem Sorts.ins {D A B : List Res} {x : Res} (h : Sorts ltI D (A ++ B)) (hB : ∀ b ∈ B, ltI x b = true) (hA : ∀ a ∈ A, ltI x a = false) : Sorts ltI (D ++ [x]) (A ++ x :: B) := by
 refine ⟨?_, ?_, by have := h.len; simp at this ⊢; omega⟩
 ·have hs := h.srt
  refine Srt.append (Srt.left hs) (List.pairwise_cons.2 ⟨fun b hb => swoI.asym (hB b hb), Srt.right hs⟩) (fun a ha b hb => ?_)
  rcases List.mem_cons.1 hb with rfl | hb
  ·exact hA a ha
  ·exact Srt.cross hs a ha b hb
 ·have s1 : SF ltI (B ++ [x]) ([x] ++ B) := SF.swap swoI (fun b hb y hy => by simp at hy; subst hy; exact hB b hb)
  have s2 : SF ltI (A ++ ([x] ++ B)) (A ++ (B ++ [x])) := SF.append (SF.refl A) s1.symm
  have s3 : SF ltI ((A ++ B) ++ [x]) (D ++ [x]) := SF.append h.sf (SF.refl [x])
  refine SF.trans (m := A ++ (B ++ [x])) ?_ ?_
  ·simpa using s2
  ·simpa using s3
theorem join_item (ps : List (List Res)) (i : Nat) (hi : i < ps.length) (hk : ∀ r ∈ ps[i], r.Key.size ≤ 1000000) (D out : List Res) (j : Nat) (hj : j < ps[i].length) (hs : Sorts ltI D out) (hl : out.length ≤ 900000) (hl2 : ps[i].length ≤ 900000) :
  ∃ out', f37_s12 ps (i : Int) (out, (j : Int)) = some (.inl (out', ((j + 1 : Nat) : Int))) ∧ Sorts ltI (D ++ [ps[i][j]]) out' := by
 have hx : ix ps[i] (j : Int) = some ps[i][j] := ixN hj
 obtain ⟨A, B, e1, e2, e3, e4⟩ := ins_back ps[i][j] ps[i] (j : Int) hx (hk _ (List.getElem_mem hj)) out.length out [] rfl (by simp; omega) (by simpa using hs.srt) (fun b hb => by cases hb)
 simp only [List.append_nil] at e1 e2
 subst e1
 have c1 : cutO? (A ++ B) 0 (A.length : Int) = some A := cutO?_some.2 ⟨⟨by omega, by omega, by rw [List.length_append]; omega⟩, by simp⟩
 have c2 : cutO? (A ++ B) (A.length : Int) ((A ++ B).length : Int) = some B := cutO?_some.2 ⟨⟨by omega, by rw [List.length_append]; omega, by omega⟩, by rw [Int.toNat_natCast, Int.toNat_natCast, List.drop_left, List.take_of_length_le (by rw [List.length_append]; omega)]⟩
 rw [List.length_append] at hl
 refine ⟨A ++ ps[i][j] :: B, ?_, Sorts.ins hs e3 e4⟩
 simp only [f37_s12, ixN hi, Option.bind_some, if_pos (show (j : Int) < (ps[i].length : Int) by omega), e2, c1, appO_ok' (l := ([] : List Res)) (r := A) (by simp) (by omega), List.nil_append, hx, appO_ok' (l := A) (r := [ps[i][j]]) (by omega) (by simp), c2, appO_ok' (l := A ++ [ps[i][j]]) (r := B) (by simp; omega) (by omega), wrapN (show j ≤ 10000000000 by omega)]
 simp
theorem join_ref (ps : List (List Res)) (h1 : ps.length ≤ 100000) (h2 : ps.flatten.length ≤ 100000) (h3 : ∀ r ∈ ps.flatten, r.Key.size ≤ 1000000) : ∃ r, f37 ps = some r ∧ Sorts ltI ps.flatten r := by
 have key : ∃ r, loopO (f37_s1 ps) ([], 0) = some r ∧ Sorts ltI ps.flatten r := by
  refine loopO_of (fun n s => ∃ (i : Nat) (out : List Res), s = (out, (i : Int)) ∧ i ≤ ps.length ∧ Sorts ltI (ps.take i).flatten out ∧ n = ps.length - i) ?_ (k := ps.length) ⟨0, [], rfl, by omega, ⟨Srt.nil, SF.refl _, rfl⟩, rfl⟩
  rintro n _ ⟨i, out, rfl, hi, hs, hn⟩
  by_cases c : i < ps.length
  ·have e := flat_take ps i c
   have hle := flat_le ps (i + 1)
   have el : (ps.take (i + 1)).flatten.length = (ps.take i).flatten.length + ps[i].length := by rw [e, List.length_append]
   have hlo := hs.len
   have inner : ∃ r, loopO (f37_s12 ps (i : Int)) (out, 0) = some r ∧ Sorts ltI ((ps.take i).flatten ++ ps[i]) r := by
    refine loopO_of (fun n s => ∃ (j : Nat) (o : List Res), s = (o, (j : Int)) ∧ j ≤ ps[i].length ∧ Sorts ltI ((ps.take i).flatten ++ ps[i].take j) o ∧ n = ps[i].length - j) ?_ (k := ps[i].length) ⟨0, out, rfl, by omega, by simpa using hs, rfl⟩
    rintro n _ ⟨j, o, rfl, hj, ho, hn⟩
    by_cases cj : j < ps[i].length
    ·have hol := ho.len
     simp only [List.length_append, List.length_take] at hol
     obtain ⟨o', o1, o2⟩ := join_item ps i c (fun r hr => h3 r (List.mem_flatten.2 ⟨_, List.getElem_mem c, hr⟩)) _ o j cj ho (by omega) (by omega)
     refine .inl ⟨(o', ((j + 1 : Nat) : Int)), n - 1, o1, by omega, j + 1, o', rfl, by omega, ?_, by omega⟩
     rw [List.take_succ_eq_append_getElem cj, ← List.append_assoc]; exact o2
    ·refine .inr ⟨o, ?_, ?_⟩
     ·simp only [f37_s12, ixN c, Option.bind_some, if_neg (show ¬ (j : Int) < (ps[i].length : Int) by omega)]
     ·rwa [List.take_of_length_le (l := ps[i]) (by omega)] at ho
   obtain ⟨r, r1, r2⟩ := inner
   refine .inl ⟨(r, ((i + 1 : Nat) : Int)), n - 1, ?_, by omega, i + 1, r, rfl, by omega, by rw [e]; exact r2, by omega⟩
   simp only [f37_s1, if_pos (show (i : Int) < (ps.length : Int) by omega), r1, Option.bind_some, wrapN (show i ≤ 10000000000 by omega)]
  ·refine .inr ⟨out, ?_, ?_⟩
   ·simp only [f37_s1, if_neg (show ¬ (i : Int) < (ps.length : Int) by omega)]
   ·rwa [List.take_of_length_le (l := ps) (by omega)] at hs
 obtain ⟨r, r1, r2⟩ := key
 exact ⟨r, by simp only [f37, r1, Option.bind_some], r2⟩
theorem join_eq (ps : List (List Res)) (h1 : ps.length ≤ 100000) (h2 : ps.flatten.length ≤ 100000) (h3 : ∀ r ∈ ps.flatten, r.Key.size ≤ 1000000 ∧ r.Offs.length ≤ 1000000) : ∃ r, f43 ps = some r ∧ f37 ps = some r ∧ Sorts ltI ps.flatten r := by
 obtain ⟨r, r1, r2⟩ := join_prog ps h1 h2 (fun r hr => (h3 r hr).2)
 obtain ⟨r', q1, q2⟩ := join_ref ps h1 h2 (fun r hr => (h3 r hr).1)
 obtain rfl := Sorts.uniq swoI r2 q2
 exact ⟨r, r1, q1, r2⟩
def f15_j3 (a0 : List Int) (s1_0 : List Record) (s1_1 : Int) (s1_2 : Int) : Unit → Option (((List Record) × Int × Int) ⊕ (((List Record) × Int × Int) ⊕ (List Record)))
  | _ => (if 65536 < (IntKind.i64.wrap (s1_2 - s1_1)) then some (.inr (.inl ([], s1_1, 5))) else (if ((s1_0.length : Nat) : Int) = 65536 then some (.inr (.inl ([], s1_1, 9))) else ((cutO? a0 s1_1 s1_2).bind fun x53 => ((appO? s1_0 [⟨s1_1, strOfNums x53⟩]).bind fun x54 => some (.inl (x54, IntKind.i64.wrap (s1_2 + 1), IntKind.i64.wrap (s1_2 + 1)))))))
def f15_s1 (a0 : List Int) : (List Record) × Int × Int → Option (((List Record) × Int × Int) ⊕ (((List Record) × Int × Int) ⊕ (List Record)))
  | (s1_0, s1_1, s1_2) => (if s1_2 ≤ (a0.length : Int) then (if s1_2 < (a0.length : Int) then ((ix a0 s1_2).bind fun x56 => (if x56 = 10 then (if s1_2 = (a0.length : Int) then (if s1_1 = s1_2 then some (.inl (s1_0, s1_1, IntKind.i64.wrap (s1_2 + 1))) else f15_j3 a0 s1_0 s1_1 s1_2 ()) else f15_j3 a0 s1_0 s1_1 s1_2 ()) else some (.inl (s1_0, s1_1, IntKind.i64.wrap (s1_2 + 1))))) else (if s1_2 = (a0.length : Int) then (if s1_1 = s1_2 then some (.inl (s1_0, s1_1, IntKind.i64.wrap (s1_2 + 1))) else f15_j3 a0 s1_0 s1_1 s1_2 ()) else f15_j3 a0 s1_0 s1_1 s1_2 ())) else some (.inr (.inr s1_0)))
def f15 (a0 : List Int) : Option ((List Record) × Int × Int) := (if 1048576 < (a0.length : Int) then some ([], 0, 5) else ((loopO (f15_s1 a0) ([], 0, 0)).bind fun y62 => match y62 with | .inl y63 => some y63 | .inr y64 => some (y64, (a0.length : Int), 0)))
theorem ok15 (a0 : List Int) (r : (List Record) × Int × Int) (h : f15 a0 = some r) : PC Tryz.prog 15 [.sl (List.map enc5 a0)] (.tup [.fr 2 (List.map encRecord r.1), .val (.int .i64 r.2.1), .val (.int .i64 r.2.2)]) := by
 rw [f15] at h
 refine pc_of9 (N := 63) (rs := [.tmp 2, .tmp 3, .tmp 4]) Tryz.func15 ?_
 refine AW.rX [0] ?_
 refine AW.seq <| AW.rX [0, 10] ?_
 rcases iteO h with ⟨c2, h⟩ | ⟨c2, h⟩
 ·refine AW.ifT rfl c2 <| AW.rX [2, 3, 4] ?_
  refine AW.ent (Ent.nilOwn 2 2 (by decide) rfl) ?_
  refine AW.ret <| thenA_r ?_
  obtain rfl := oi h
  (simp only [go_sem, seval, finA] <;> try simp)
 ·refine AW.ifF rfl c2 <| AW.skip <| thenA_n <| AW.rX [0, 5] ?_
  refine AW.rX [0, 5, 6] ?_
  refine AW.seq <| AW.rX [0, 5, 6, 7] ?_
  refine AW.block ?_
  obtain ⟨y62, hy62, h⟩ := bO h
  refine AW.loopO (fun s => ⟨(upd (upd (upd (upd anyF 0 (.sl (List.map enc5 a0))) 5 (.own 8 0 s.1.length)) 6 (.val (.int .i64 s.2.1))) 7 (.val (.int .i64 s.2.2))), hpL [] [some (.row 2 true (List.map encRecord s.1))], 9⟩) (fun y e st' => match y with | .inl z => e = Exit.ret ∧ finA Tryz.prog [.tmp 2, .tmp 3, .tmp 4] (.tup [.fr 2 (List.map encRecord z.1), .val (.int .i64 z.2.1), .val (.int .i64 z.2.2)]) .ret st' | .inr z => e = Exit.exit 0 ∧ st' = ⟨(upd (upd anyF 0 (.sl (List.map enc5 a0))) 5 (.own 8 0 z.length)), hpL [] [some (.row 2 true (List.map encRecord z))], 9⟩) hy62 ?_ ?_ ?_
  ·refine Ent.trans (Ent.nilOwn 5 2 (by decide) rfl) ?_
   exact Ent.canq [80] RF.any.qv.qo.qv.qv (.nil _) (.ce (.nil _))
  ·clear h hy62
   rintro ⟨s1_0, s1_1, s1_2⟩ x h
   rw [f15_s1] at h
   refine AW.seq <| AW.rX [0, 5, 6, 7, 14] ?_
   rcases iteO h with ⟨c41, h⟩ | ⟨c41, h⟩
   ·refine AW.ifT rfl c41 <| AW.skip <| thenA_n <| AW.seq <| AW.block ?_
    refine AW.join (fun s => ⟨(upd (upd (upd (upd anyF 0 (.sl (List.map enc5 a0))) 5 (.own 8 0 s1_0.length)) 6 (.val (.int .i64 s1_1))) 7 (.val (.int .i64 s1_2))), hpL [] [some (.row 2 true (List.map encRecord s1_0))], 9⟩) (fun s => f15_j3 a0 s1_0 s1_1 s1_2 s = some x) ?_ ?_
    ·rcases iteO h with ⟨c55, h⟩ | ⟨c55, h⟩
     ·obtain ⟨x56, hx56, h⟩ := bO h
      obtain ⟨hx56a, hx56b⟩ := ix_some.1 hx56
      rcases iteO h with ⟨c57, h⟩ | ⟨c57, h⟩
      ·rcases iteO h with ⟨c58, h⟩ | ⟨c58, h⟩
       ·refine AW.rK [0, 5, 6, 7, 38] fun K hK => ?_
        simp only [go_sem, seval, eq_false c2, eq_true c41, eq_true c55, natOf_le hx56a, hx56b, eq_true c57, eq_true c58]
        subst hK
        rcases iteO h with ⟨c59, h⟩ | ⟨c59, h⟩
        ·refine AW.ifT rfl c59 <| AW.exit <| thenA_x <| block_x <| thenA_n <| AW.rY [0, 5, 6, 7] ?_
         refine thenA_n ?_
         refine ⟨_, oj h, ?_⟩
         exact Ent.canq [8] RF.any.qv.qo.qv.qv (.nil _) (.ce (.nil _))
        ·refine AW.ifF rfl c59 <| AW.skip <| thenA_n ?_
         refine ⟨_, h, ?_⟩
         exact Ent.canq [8] RF.any.qv.qo.qv.qv (.nil _) (.ce (.nil _))
       ·refine AW.sX [0, 5, 6, 7, 38] ?_
        refine AW.ifBF rfl rfl <| AW.skip <| thenA_n ?_
        refine ⟨_, h, ?_⟩
        exact Ent.canq [8] RF.any.qv.qo.qv.qv (.nil _) (.ce (.nil _))
      ·refine AW.sX [0, 5, 6, 7, 38] ?_
       refine AW.ifBT rfl rfl <| AW.exit <| thenA_x <| block_x <| thenA_n <| AW.tY [0, 5, 6, 7] ?_
       refine thenA_n ?_
       refine ⟨_, oj h, ?_⟩
       exact Ent.canq [8] RF.any.qv.qo.qv.qv (.nil _) (.ce (.nil _))
     ·rcases iteO h with ⟨c60, h⟩ | ⟨c60, h⟩
      ·refine AW.rK [0, 5, 6, 7, 38] fun K hK => ?_
       simp only [go_sem, seval, eq_false c2, eq_true c41, eq_false c55, eq_true c60]
       subst hK
       rcases iteO h with ⟨c61, h⟩ | ⟨c61, h⟩
       ·refine AW.ifT rfl c61 <| AW.exit <| thenA_x <| block_x <| thenA_n <| AW.rL [0, 5, 6, 7] fun K hK => ?_
        simp only [go_sem, seval]
        subst hK
        refine thenA_n ?_
        refine ⟨_, oj h, ?_⟩
        exact Ent.canq [8] RF.any.qv.qo.qv.qv (.nil _) (.ce (.nil _))
       ·refine AW.ifF rfl c61 <| AW.skip <| thenA_n ?_
        refine ⟨_, h, ?_⟩
        exact Ent.canq [8] RF.any.qv.qo.qv.qv (.nil _) (.ce (.nil _))
      ·refine AW.vX [0, 5, 6, 7, 38] ?_
       refine AW.ifBF rfl rfl <| AW.skip <| thenA_n ?_
       refine ⟨_, h, ?_⟩
       exact Ent.canq [8] RF.any.qv.qo.qv.qv (.nil _) (.ce (.nil _))
    ·clear h
     rintro ⟨⟩ h
     rw [f15_j3] at h
     refine AW.seq <| AW.rX [0, 5, 6, 7, 42] ?_
     rcases iteO h with ⟨c50, h⟩ | ⟨c50, h⟩
     ·refine AW.ifT rfl c50 <| AW.rX [2, 3, 4] ?_
      refine AW.ent (Ent.nilOwn 2 2 (by decide) rfl) ?_
      refine AW.ret <| thenA_r <| block_r <| thenA_r <| thenA_r ?_
      refine ⟨_, oj h, _, Ent.refl, rfl, ?_⟩
      (simp only [go_sem, seval, finA] <;> try simp)
     ·refine AW.ifF rfl c50 <| AW.skip <| thenA_n <| AW.seq <| AW.rX [0, 5, 6, 7, 46] ?_
      rcases iteO h with ⟨c52, h⟩ | ⟨c52, h⟩
      ·refine AW.ifT rfl c52 <| AW.rX [2, 3, 4] ?_
       refine AW.ent (Ent.nilOwn 2 2 (by decide) rfl) ?_
       refine AW.ret <| thenA_r <| block_r <| thenA_r <| thenA_r ?_
       refine ⟨_, oj h, _, Ent.refl, rfl, ?_⟩
       (simp only [go_sem, seval, finA] <;> try simp)
      ·refine AW.ifF rfl c52 <| AW.skip <| thenA_n ?_
       obtain ⟨x53, hx53, h⟩ := bO h
       obtain ⟨x54, hx54, h⟩ := bO h
       obtain ⟨hx54b, hx54e⟩ := appO?_some.1 hx54
       have hx54f : ∀ id o : Nat, appO 2 24 id ([[.val (.int .i64 s1_1), .val (.string (strOfNums x53))]]) 0 s1_0.length o (some (.row 2 true (List.map encRecord s1_0))) = some ⟨.own id 0 x54.length, [(o, none), (id, some (.row 2 true (List.map encRecord x54)))]⟩ := fun id o => by
         subst hx54e; rw [appO_ok (by simp) (by simpa using hx54b) (by decide)]; first | (simp [encRecord]; done) | (simp [encRecord]; omega)
       refine AW.rK [0, 5, 7] fun K hK => ?_
       simp only [go_sem, seval, cut_ss el23 sz5 (ml_enc5 _) hx53, byteNums_map (enc := enc5) (fun _ => rfl), hx54f]
       subst hK
       refine AW.rY [0, 5, 6, 7] ?_
       refine block_n <| thenA_n <| AW.rY [0, 5, 6, 7] ?_
       refine thenA_n ?_
       refine ⟨_, oj h, ?_⟩
       exact Ent.canq [137] RF.any.qv.qo.qv.qv (.nil _) (.ce (.nil _))
   ·refine AW.ifF rfl c41 <| AW.exit <| thenA_x <| thenA_x ?_
    refine ⟨_, oj h, _, ?_, rfl, rfl⟩
    exact Ent.canq [8] RF.any.qv.qo (.nil _) (.ce (.nil _))
  ·intro e st' hX
   rcases y62 with y63 | y64 <;> dsimp only at h hX
   ·obtain ⟨rfl, hf⟩ := hX
    refine ⟨_, Ent.refl, ?_⟩
    refine block_r <| thenA_r ?_
    obtain rfl := oi h
    exact hf
   ·obtain ⟨rfl, rfl⟩ := hX
    refine ⟨_, Ent.refl, ?_⟩
    refine block_x <| thenA_n <| AW.rX [2, 3, 4] ?_
    refine AW.ret ?_
    obtain rfl := oi h
    (simp only [go_sem, seval, finA] <;> try simp)
theorem line_at {b : List Int} (hb : Byt b) {a : Nat} (h : a < b.length) : ∃ (n : Nat) (n0 : Int), a + n ≤ b.length ∧ (∀ j (hj : j < n) (hj2 : a + j < b.length), b[a + j] ≠ 10) ∧ (∀ h2 : a + n < b.length, b[a + n] = 10) ∧
  f125 (b.drop a) 10 = some n0 ∧ (if n0 < 0 then ((b.length : Int) - a) else n0) = (n : Int) := by
 have hl : (b.drop a).length = b.length - a := by simp
 have hg : ∀ j (hj : a + j < b.length), (Lib.bytesOf (b.drop a))[j]? = some (UInt8.ofNat b[a + j].toNat) := fun j hj => by
  simp [Lib.bytesOf, hj]
 have he : ∀ j (hj : a + j < b.length), (UInt8.ofNat b[a + j].toNat = 10 ↔ b[a + j] = 10) := fun j hj => by
  obtain ⟨h0, h1⟩ := hb _ (List.getElem_mem hj)
  constructor
  ·intro h
   have := congrArg UInt8.toNat h
   rw [UInt8.toNat_ofNat'] at this
   have e : (10 : UInt8).toNat = 10 := rfl
   rw [e] at this
   omega
  ·intro h; rw [h]; rfl
 have hf : f125 (b.drop a) 10 = some (Lib.indexByte (Lib.bytesOf (b.drop a)) 10) := by
  rw [f125, if_pos (by omega)]; rfl
 have hge := Lib.indexByte_ge (Lib.bytesOf (b.drop a)) 10
 by_cases hn : Lib.indexByte (Lib.bytesOf (b.drop a)) 10 = -1
 ·have k := Lib.indexByte_none hn
  refine ⟨b.length - a, -1, by omega, fun j hj hj2 e => ?_, fun h2 => by omega, by rw [hf, hn], by rw [if_pos (by decide)]; omega⟩
  exact k j (by rw [hg j hj2, (he j hj2).2 e])
 ·obtain ⟨n, hnn⟩ := Int.eq_ofNat_of_zero_le (show 0 ≤ Lib.indexByte (Lib.bytesOf (b.drop a)) 10 by omega)
  obtain ⟨k1, k2⟩ := Lib.indexByte_some hnn
  have hlt : a + n < b.length := by
   have := (List.getElem?_eq_some_iff.1 k1).1
   simp [Lib.bytesOf] at this; omega
  refine ⟨n, (n : Int), by omega, fun j hj hj2 e => ?_, fun h2 => ?_, by rw [hf, hnn], by rw [if_neg (by omega)]⟩
  ·exact k2 j hj (by rw [hg j hj2, (he j hj2).2 e])
  ·rw [hg n h2] at k1
   exact (he n h2).1 (Option.some.inj k1)
theorem records_loop {b : List Int} (hb : Byt b) (hl : b.length ≤ 60000) : ∀ (m a : Nat) (recs : List Record), b.length + 1 - a ≤ m → a ≤ b.length + 1 → recs.length ≤ a →
  ∃ L, loopO (lines_s b) ((a : Int), recs) = some L ∧ loopO (f15_s1 b) (recs, (a : Int), (a : Int)) = some (.inr L) ∧ L.length ≤ b.length + 1
 | m, a, recs, hm, ha, hr => by
  by_cases h : a < b.length
  ·cases m with
   | zero => omega
   | succ m =>
    obtain ⟨n, n0, h1, h2, h3, h4, h5⟩ := line_at hb h
    obtain ⟨line, hline⟩ := cut_ok (b := b) (lo := (a : Int)) (hi := ((a + n : Nat) : Int)) (by omega) (by omega) (by omega)
    have hll := cut_len hline
    have ht : cutO? b (a : Int) (b.length : Int) = some (b.drop a) := cutO?_some.2 ⟨⟨by omega, by omega, by omega⟩, by
     rw [Int.toNat_natCast, Int.toNat_natCast, List.take_of_length_le (by rw [List.length_drop]; omega)]⟩
    obtain ⟨L, l1, l2, l3⟩ := records_loop hb hl m (a + n + 1) (recs ++ [⟨(a : Int), strOfNums line⟩]) (by omega) (by omega) (by simp; omega)
    have hp : lines_s b ((a : Int), recs) = some (.inl (((a + n + 1 : Nat) : Int), recs ++ [⟨(a : Int), strOfNums line⟩])) := by
     have w0 : IntKind.i64.wrap ((b.length : Int) - (a : Int)) = (b.length : Int) - (a : Int) := i64_id (by omega) (by omega)
     have w1 : IntKind.i64.wrap ((a : Int) + (n : Int)) = ((a + n : Nat) : Int) := by rw [i64_id (by omega) (by omega)]; omega
     have w2 : IntKind.i64.wrap ((n : Int) + 1) = (n : Int) + 1 := i64_id (by omega) (by omega)
     have w3 : IntKind.i64.wrap ((a : Int) + ((n : Int) + 1)) = ((a + n + 1 : Nat) : Int) := by rw [i64_id (by omega) (by omega)]; omega
     simp only [lines_s, if_pos (show (a : Int) < (b.length : Int) by omega), ht, Option.bind_some, h4, w0, h5, w1, hline, guardO_ok (show ¬ 65536 < (line.length : Int) ∧ ¬ (65536 : Int) ≤ (recs.length : Int) by omega), w2, w3]
    refine ⟨L, (loopO_next hp).trans l1, ?_, l3⟩
    have hq : loopO (f15_s1 b) (recs, (a : Int), (a : Int)) = loopO (f15_s1 b) (recs, (a : Int), ((a + n : Nat) : Int)) := by
     refine loopN (fun j => (recs, (a : Int), ((a + j : Nat) : Int))) n (fun j hj => ?_)
     have hlt : a + j < b.length := by omega
     simp only [f15_s1, if_pos (show ((a + j : Nat) : Int) ≤ (b.length : Int) by omega), if_pos (show ((a + j : Nat) : Int) < (b.length : Int) by omega), ixN hlt, Option.bind_some, if_neg (h2 j hj hlt)]
     rw [wrapN (by omega)]; rfl
    have hj3 : f15_j3 b recs (a : Int) ((a + n : Nat) : Int) () = some (.inl (recs ++ [⟨(a : Int), strOfNums line⟩], ((a + n + 1 : Nat) : Int), ((a + n + 1 : Nat) : Int))) := by
     have w1 : IntKind.i64.wrap (((a + n : Nat) : Int) - (a : Int)) = (n : Int) := by rw [i64_id (by omega) (by omega)]; omega
     simp only [f15_j3, w1, if_neg (show ¬ (65536 : Int) < (n : Int) by omega), if_neg (show ¬ ((recs.length : Nat) : Int) = 65536 by omega), hline, Option.bind_some, appO_ok' (l := recs) (r := [(⟨(a : Int), strOfNums line⟩ : Record)]) (by omega) (by simp)]
     rw [wrapN (by omega)]
    have hs : f15_s1 b (recs, (a : Int), ((a + n : Nat) : Int)) = some (.inl (recs ++ [⟨(a : Int), strOfNums line⟩], ((a + n + 1 : Nat) : Int), ((a + n + 1 : Nat) : Int))) := by
     by_cases c : a + n < b.length
     ·simp only [f15_s1, if_pos (show ((a + n : Nat) : Int) ≤ (b.length : Int) by omega), if_pos (show ((a + n : Nat) : Int) < (b.length : Int) by omega), ixN c, Option.bind_some, if_pos (h3 c), if_neg (show ¬ ((a + n : Nat) : Int) = (b.length : Int) by omega), hj3]
     ·simp only [f15_s1, if_pos (show ((a + n : Nat) : Int) ≤ (b.length : Int) by omega), if_neg (show ¬ ((a + n : Nat) : Int) < (b.length : Int) by omega), if_pos (show ((a + n : Nat) : Int) = (b.length : Int) by omega), if_neg (show ¬ (a : Int) = ((a + n : Nat) : Int) by omega), hj3]
    rw [hq, loopO_next hs]; exact l2
  ·refine ⟨recs, loopO_done (by simp only [lines_s, if_neg (show ¬ (a : Int) < (b.length : Int) by omega)]), ?_, by omega⟩
   have fin : f15_s1 b (recs, (a : Int), ((b.length + 1 : Nat) : Int)) = some (.inr (.inr recs)) := by
    simp only [f15_s1, if_neg (show ¬ ((b.length + 1 : Nat) : Int) ≤ (b.length : Int) by omega)]
   by_cases e : a = b.length
   ·subst e
    refine (loopO_next (s' := (recs, (b.length : Int), ((b.length + 1 : Nat) : Int))) ?_).trans (loopO_done fin)
    simp only [f15_s1, if_pos (show (b.length : Int) ≤ (b.length : Int) by omega), if_neg (show ¬ (b.length : Int) < (b.length : Int) by omega), if_true, wrapN (show b.length ≤ 10000000000 by omega)]
   ·have : a = b.length + 1 := by omega
    subst this
    exact loopO_done fin
theorem records_eq {b : List Int} (hb : Byt b) (hl : b.length ≤ 60000) : ∃ L : List Record, f57 b = some (L, (b.length : Int), 0) ∧ f15 b = some (L, (b.length : Int), 0) ∧ L.length ≤ b.length + 1 := by
 obtain ⟨L, h1, h2, h3⟩ := records_loop hb hl (b.length + 1) 0 [] (by omega) (by omega) (by simp)
 have h1' : loopO (lines_s b) (0, []) = some L := h1
 have h2' : loopO (f15_s1 b) ([], 0, 0) = some (.inr L) := h2
 refine ⟨L, ?_, ?_, h3⟩
 ·simp only [f57, guardO_ok (show b.length ≤ 1048576 by omega), Option.bind_some, h1']
 ·simp only [f15, if_neg (show ¬ (1048576 : Int) < (b.length : Int) by omega), h2', Option.bind_some]
def f44 (a0 : Int) : Option Er := (if a0 = 0 then some Er.nil else some (Er.no a0))
theorem ok44 (a0 : Int) (r : Er) (h : f44 a0 = some r) : PC Tryz.prog 44 [.val (.int .i64 a0)] (.val (erV r)) := by
 rw [f44] at h
 refine pc_of9 (N := 7) (rs := [.tmp 2]) Tryz.func44 ?_
 refine AW.rX [0] ?_
 refine AW.seq <| AW.rX [0, 4] ?_
 rcases iteO h with ⟨c1, h⟩ | ⟨c1, h⟩
 ·refine AW.ifT rfl c1 <| AW.rX [2] ?_
  refine AW.ret <| thenA_r ?_
  obtain rfl := oi h
  (simp only [go_sem, seval, finA] <;> try simp)
 ·refine AW.ifF rfl c1 <| AW.skip <| thenA_n <| AW.rX [2] ?_
  refine AW.ret ?_
  obtain rfl := oi h
  (simp only [go_sem, seval, finA] <;> try simp)
def f61 (a0 : ByteArray) (a1 : Int) (a2 : Er) : Option Er := (if (Er.isNil a2) = true then some Er.nil else some (Er.slip a0 a1 a2))
theorem ok61 (a0 : ByteArray) (a1 : Int) (a2 : Er) (r : Er) (h : f61 a0 a1 a2 = some r) : PC Tryz.prog 61 [.val (.string a0), .val (.int .i64 a1), .val (erV a2)] (.val (erV r)) := by
 rw [f61] at h
 refine pc_of9 (N := 14) (rs := [.tmp 6]) Tryz.func61 ?_
 refine AW.rX [0, 1, 2] ?_
 refine AW.seq <| AW.sX [0, 1, 2, 8] ?_
 rcases iteO h with ⟨c1, h⟩ | ⟨c1, h⟩
 ·refine AW.ifBT rfl c1 <| AW.sX [6] ?_
  refine AW.ret <| thenA_r ?_
  obtain rfl := oi h
  (simp only [go_sem, seval, c1, finA] <;> try simp)
 ·rw [Bool.not_eq_true] at c1
  refine AW.ifBF rfl c1 <| AW.skip <| thenA_n <| AW.sX [6] ?_
  refine AW.ret ?_
  obtain rfl := oi h
  (simp only [go_sem, seval, c1, finA] <;> try simp)
def f33 (a0 : ByteArray) (a1 : Int) (a2 : Int) : Option Er := ((f44 a2).bind fun x1 => ((f61 a0 a1 x1).bind fun x2 => some x2))
theorem ok33 (a0 : ByteArray) (a1 : Int) (a2 : Int) (r : Er) (h : f33 a0 a1 a2 = some r) : PC Tryz.prog 33 [.val (.string a0), .val (.int .i64 a1), .val (.int .i64 a2)] (.val (erV r)) := by
 rw [f33] at h
 refine pc_of9 (N := 12) (rs := [.tmp 6]) Tryz.func33 ?_
 refine AW.rX [0, 1, 2] ?_
 obtain ⟨x1, hx1, h⟩ := bO h
 obtain ⟨x2, hx2, h⟩ := bO h
 refine AW.rK [6] fun K hK => ?_
 simp only [go_sem, seval]
 refine arC.of (ok44 a2 x1 hx1) Tryz.call44 ?_
 simp only [go_sem, seval]
 refine arC.of (ok61 a0 a1 x1 x2 hx2) Tryz.call61 ?_
 simp only [go_sem, seval]
 subst hK
 refine AW.ret ?_
 obtain rfl := oi h
 (simp only [go_sem, seval, finA] <;> try simp)
def f35 (a0 : Int) (a1 : List Int) : Option Bool := some (!(decide (a0 ∈ a1)))
theorem ok35 (a0 : Int) (a1 : List Int) (r : Bool) (h : f35 a0 a1 = some r) : PC Tryz.prog 35 [.val (.int .i64 a0), .ip [.im (List.map encM a1)]] (.val (.bool r)) := by
 rw [f35] at h
 refine pc_of9 (N := 8) (rs := [.tmp 3]) Tryz.func35 ?_
 refine AW.rX [0, 1] ?_
 refine AW.rK [3] fun K hK => ?_
 simp only [go_sem, seval, look_encM mi75]
 subst hK
 refine AW.ret ?_
 obtain rfl := oi h
 (simp only [go_sem, seval, finA] <;> try simp)
def f62_35_s1 (a0 : List Int) (c1_0 : List Int) : Int → Option (Int ⊕ (Int ⊕ Unit))
  | s1_0 => (if s1_0 < (a0.length : Int) then ((ix a0 s1_0).bind fun x16 => ((f35 x16 c1_0).bind fun x17 => (if x17 = true then some (.inr (.inl s1_0)) else some (.inl (IntKind.i64.wrap (s1_0 + 1)))))) else some (.inr (.inr ())))
def f62_35 (a0 : List Int) (c1_0 : List Int) : Option Int := ((loopO (f62_35_s1 a0 c1_0) 0).bind fun y19 => match y19 with | .inl y20 => some y20 | .inr _ => some (-1))
theorem ok62_35 (a0 : List Int) (c1_0 : List Int) (r : Int) (h : f62_35 a0 c1_0 = some r) : PC Tryz.prog 62 [.sl (List.map enc3 a0), .clo (.func 35) [] [.ip [.im (List.map encM c1_0)]]] (.val (.int .i64 r)) := by
 rw [f62_35] at h
 refine pc_of9 (N := 19) (rs := [.tmp 4]) Tryz.func62 ?_
 refine AW.rX [0, 1] ?_
 refine AW.seq <| AW.rX [0, 1, 7, 8] ?_
 refine AW.block ?_
 obtain ⟨y19, hy19, h⟩ := bO h
 refine AW.loopO (fun s => ⟨(upd (upd (upd (upd anyF 0 (.sl (List.map enc3 a0))) 1 (.clo (.func 35) [] [.ip [.im (List.map encM c1_0)]])) 7 (.val (.int .i64 (a0.length : Int)))) 8 (.val (.int .i64 s))), hpL [] [], 8⟩) (fun y e st' => match y with | .inl z => e = Exit.ret ∧ finA Tryz.prog [.tmp 4] (.val (.int .i64 z)) .ret st' | .inr z => e = Exit.exit 0 ∧ st' = ⟨anyF, hpL [] [], 8⟩) hy19 ?_ ?_ ?_
 ·exact Ent.cq RF.any.qv.qt.qv.qv
 ·clear h hy19
  rintro s1_0 x h
  rw [f62_35_s1] at h
  refine AW.rX [0, 1, 7, 8, 9] ?_
  refine AW.seq ?_
  rcases iteO h with ⟨c15, h⟩ | ⟨c15, h⟩
  ·refine AW.ifT rfl c15 <| AW.skip <| thenA_n <| AW.seq <| AW.block <| AW.rX [0, 1, 5, 7, 8] ?_
   obtain ⟨x16, hx16, h⟩ := bO h
   obtain ⟨hx16a, hx16b⟩ := ix_some.1 hx16
   obtain ⟨x17, hx17, h⟩ := bO h
   refine AW.sC [0, 1, 5, 7, 8, 16] (ok35 x16 c1_0 x17 hx17) Tryz.call35 ?_
   rcases iteO h with ⟨c18, h⟩ | ⟨c18, h⟩
   ·refine AW.ifBT rfl c18 <| AW.sX [4] ?_
    refine AW.ret <| block_r <| thenA_r <| thenA_r ?_
    refine ⟨_, oj h, _, Ent.refl, rfl, ?_⟩
    (simp only [go_sem, seval, c18, finA] <;> try simp)
   ·rw [Bool.not_eq_true] at c18
    refine AW.ifBF rfl c18 <| AW.skip <| block_n <| thenA_n <| AW.sY [0, 1, 7, 8] ?_
    refine thenA_n ?_
    refine ⟨_, oj h, ?_⟩
    exact Ent.cq RF.any.qv.qt.qv.qv
  ·refine AW.ifF rfl c15 <| AW.exit <| thenA_x <| thenA_x ?_
   refine ⟨_, oj h, _, ?_, rfl, rfl⟩
   exact Ent.cq RF.any
 ·intro e st' hX
  rcases y19 with y20 | _ <;> dsimp only at h hX
  ·obtain ⟨rfl, hf⟩ := hX
   refine ⟨_, Ent.refl, ?_⟩
   refine block_r <| thenA_r ?_
   obtain rfl := oi h
   exact hf
  ·obtain ⟨rfl, rfl⟩ := hX
   refine ⟨_, Ent.refl, ?_⟩
   refine block_x <| thenA_n <| AW.rX [4] ?_
   refine AW.ret ?_
   obtain rfl := oi h
   (simp only [go_sem, seval, finA] <;> try simp)
def f34_35 (a0 : List Int) (c1_0 : List Int) : Option Bool := ((f62_35 a0 c1_0).bind fun x1 => some (decide (0 ≤ x1)))
theorem ok34_35 (a0 : List Int) (c1_0 : List Int) (r : Bool) (h : f34_35 a0 c1_0 = some r) : PC Tryz.prog 34 [.sl (List.map enc3 a0), .clo (.func 35) [] [.ip [.im (List.map encM c1_0)]]] (.val (.bool r)) := by
 rw [f34_35] at h
 refine pc_of9 (N := 9) (rs := [.tmp 4]) Tryz.func34 ?_
 refine AW.rX [0, 1] ?_
 obtain ⟨x1, hx1, h⟩ := bO h
 refine AW.rC [4] (ok62_35 a0 c1_0 x1 hx1) Tryz.call62 ?_
 refine AW.ret ?_
 obtain rfl := oi h
 (simp only [go_sem, seval, finA] <;> try simp)
def f30_s1 (a0 : List (A2 (List Int))) : (List (List Res)) × Int → Option (((List (List Res)) × Int) ⊕ (((List Res) × Er) ⊕ (List (List Res))))
  | (s1_0, s1_1) => (if s1_1 < (a0.length : Int) then ((ix a0 s1_1).bind fun x19 => ((f56 x19.e0 x19.e1).bind fun x20 => (if x20.2 = 0 then ((appO? s1_0 [x20.1]).bind fun x22 => some (.inl (x22, IntKind.i64.wrap (s1_1 + 1)))) else ((f33 ⟨#[112, 97, 114, 116]⟩ s1_1 x20.2).bind fun x23 => some (.inr (.inl ([], x23))))))) else some (.inr (.inr s1_0)))
def f30 (a0 : List (A2 (List Int))) : Option ((List Res) × Er) := ((loopO (f30_s1 a0) ([], 0)).bind fun y24 => match y24 with | .inl y25 => some y25 | .inr y26 => ((f43 y26).bind fun x27 => some (x27, Er.nil)))
theorem ok30 (a0 : List (A2 (List Int))) (r : (List Res) × Er) (h : f30 a0 = some r) : PC Tryz.prog 30 [.sl (List.map enc71 a0)] (.tup [.fr 3 (List.map encRes r.1), .val (erV r.2)]) := by
 rw [f30] at h
 refine pc_of9 (N := 36) (rs := [.tmp 2, .tmp 3]) Tryz.func30 ?_
 refine AW.rX [0] ?_
 refine AW.rX [0, 4] ?_
 refine AW.seq <| AW.rX [4, 9, 10, 11] ?_
 refine AW.block ?_
 obtain ⟨y24, hy24, h⟩ := bO h
 refine AW.loopO (fun s => ⟨(upd (upd (upd (upd anyF 4 (.own 8 0 s.1.length)) 9 (.sl (List.map enc71 a0))) 10 (.val (.int .i64 (a0.length : Int)))) 11 (.val (.int .i64 s.2))), hpL [] [some (.row 1 true (List.map enc31 s.1))], 9⟩) (fun y e st' => match y with | .inl z => e = Exit.ret ∧ finA Tryz.prog [.tmp 2, .tmp 3] (.tup [.fr 3 (List.map encRes z.1), .val (erV z.2)]) .ret st' | .inr z => e = Exit.exit 0 ∧ st' = ⟨(upd anyF 4 (.own 8 0 z.length)), hpL [] [some (.row 1 true (List.map enc31 z))], 9⟩) hy24 ?_ ?_ ?_
 ·refine Ent.trans (Ent.nilOwn 4 1 (by decide) rfl) ?_
  exact Ent.canq [56] RF.any.qo.qv.qv.qv (.nil _) (.ce (.nil _))
 ·clear h hy24
  rintro ⟨s1_0, s1_1⟩ x h
  rw [f30_s1] at h
  refine AW.rX [4, 9, 10, 11, 12] ?_
  refine AW.seq ?_
  rcases iteO h with ⟨c18, h⟩ | ⟨c18, h⟩
  ·refine AW.ifT rfl c18 <| AW.skip <| thenA_n <| AW.seq <| AW.block ?_
   obtain ⟨x19, hx19, h⟩ := bO h
   obtain ⟨hx19a, hx19b⟩ := ix_some.1 hx19
   refine AW.sX [4, 5, 6, 9, 10, 11] ?_
   obtain ⟨x20, hx20, h⟩ := bO h
   refine AW.rC [4, 5, 7, 8, 9, 10, 11] (ok56 x19.e0 x19.e1 x20 hx20) Tryz.call56 ?_
   refine AW.seq <| AW.rX [4, 5, 7, 8, 9, 10, 11, 25] ?_
   rcases iteO h with ⟨c21, h⟩ | ⟨c21, h⟩
   ·refine AW.ifF rfl (fun q => q c21) <| AW.skip <| thenA_n <| AW.ent (Ent.still 7 rfl (own_sl (sz := 3) (m := true) rfl (by first | rfl | simp [bytesI_len, eq_true c18, eq_true c21]) (by simp only [go_sem]))) ?_
    obtain ⟨x22, hx22, h⟩ := bO h
    obtain ⟨hx22b, hx22e⟩ := appO?_some.1 hx22
    have hx22f : ∀ id o : Nat, appO 1 24 id ([[.sl (List.map encRes x20.1)]]) 0 s1_0.length o (some (.row 1 true (List.map enc31 s1_0))) = some ⟨.own id 0 x22.length, [(o, none), (id, some (.row 1 true (List.map enc31 x22)))]⟩ := fun id o => by
      subst hx22e; rw [appO_ok (by simp) (by simpa using hx22b) (by decide)]; first | (simp [enc31]; done) | (simp [enc31]; omega)
    refine AW.sY [4, 9, 10, 11] ?_
    refine block_n <| thenA_n <| AW.rY [4, 9, 10, 11] ?_
    refine thenA_n ?_
    refine ⟨_, oj h, ?_⟩
    exact Ent.canq [185] RF.any.qo.qv.qv.qv (.nil _) (.ce (.nil _))
   ·refine AW.ifT rfl c21 ?_
    obtain ⟨x23, hx23, h⟩ := bO h
    refine AW.rC [2, 3] (ok33 ⟨#[112, 97, 114, 116]⟩ s1_1 x20.2 x23 hx23) Tryz.call33 ?_
    refine AW.ent (Ent.nilOwn 2 3 (by decide) rfl) ?_
    refine AW.ret <| thenA_r <| block_r <| thenA_r <| thenA_r ?_
    refine ⟨_, oj h, _, Ent.refl, rfl, ?_⟩
    (simp only [go_sem, seval, finA] <;> try simp)
  ·refine AW.ifF rfl c18 <| AW.exit <| thenA_x <| thenA_x ?_
   refine ⟨_, oj h, _, ?_, rfl, rfl⟩
   exact Ent.canq [8] RF.any.qo (.nil _) (.ce (.nil _))
 ·intro e st' hX
  rcases y24 with y25 | y26 <;> dsimp only at h hX
  ·obtain ⟨rfl, hf⟩ := hX
   refine ⟨_, Ent.refl, ?_⟩
   refine block_r <| thenA_r ?_
   obtain rfl := oi h
   exact hf
  ·obtain ⟨rfl, rfl⟩ := hX
   refine ⟨_, Ent.refl, ?_⟩
   refine block_x <| thenA_n ?_
   obtain ⟨x27, hx27, h⟩ := bO h
   refine AW.rC [2, 3] (ok43 y26 x27 hx27) Tryz.call43 ?_
   refine AW.ret ?_
   obtain rfl := oi h
   (simp only [go_sem, seval, finA] <;> try simp)
def f31_s1 (x1 : (List Record) × Int × Int) : (List Int) × Int → Option (((List Int) × Int) ⊕ (List Int))
  | (s1_0, s1_1) => (if s1_1 < ((x1.1.length : Nat) : Int) then ((ix x1.1 s1_1).bind fun x16 => some (.inl ((insM x16.Off s1_0), IntKind.i64.wrap (s1_1 + 1)))) else some (.inr s1_0))
def f31 (a0 : List Int) : Option ((List Int) × Er) := ((f57 a0).bind fun x1 => (if x1.2.2 = 0 then ((loopO (f31_s1 x1) ([], 0)).bind fun y18 => some (y18, Er.nil)) else ((f33 ⟨#[105, 110, 112, 117, 116]⟩ 0 x1.2.2).bind fun x19 => some ([], x19))))
theorem ok31 (a0 : List Int) (r : (List Int) × Er) (h : f31 a0 = some r) : PC Tryz.prog 31 [.sl (List.map enc5 a0)] (.tup [.im (List.map encM r.1), .val (erV r.2)]) := by
 rw [f31] at h
 refine pc_of9 (N := 32) (rs := [.tmp 2, .tmp 3]) Tryz.func31 ?_
 refine AW.rX [0] ?_
 obtain ⟨x1, hx1, h⟩ := bO h
 refine AW.tC [4, 6] (ok57 a0 x1 hx1) Tryz.call57 ?_
 refine AW.seq <| AW.rX [4, 6, 17] ?_
 rcases iteO h with ⟨c4, h⟩ | ⟨c4, h⟩
 ·refine AW.ifF rfl (fun q => q c4) ?_
  refine AW.skip <| thenA_n <| AW.rX [4, 7] ?_
  refine AW.seq <| AW.rX [7, 21, 22, 23] ?_
  refine AW.block ?_
  obtain ⟨y18, hy18, h⟩ := bO h
  refine AW.loopO (fun s => ⟨(upd (upd (upd (upd anyF 7 (.mp 8)) 21 (.own 9 0 x1.1.length)) 22 (.val (.int .i64 ((x1.1.length : Nat) : Int)))) 23 (.val (.int .i64 s.2))), hpL [] [some (.mapo (List.map encM s.1)), some (.row 2 true (List.map encRecord x1.1))], 10⟩) (fun z e st' => e = Exit.exit 0 ∧ st' = ⟨(upd anyF 7 (.mp 8)), hpL [] [some (.mapo (List.map encM z))], 9⟩) hy18 ?_ ?_ ?_
  ·exact Ent.canq [112, 32] ((((RF.any.put (by simp [tokL]) (.of (by first | rfl | simp [upd_ap, hpL_ap, tau, mapT, mapTL, bytesI_len, eq_true c4]))).qo).qv).qv) (.nil _) (.cons (.mpe (by first | rfl | simp [upd_ap, hpL_ap, tau, mapT, mapTL, bytesI_len, eq_true c4])) (.ce (.nil _)))
  ·clear h hy18
   rintro ⟨s1_0, s1_1⟩ x h
   rw [f31_s1] at h
   refine AW.rX [7, 21, 22, 23, 24] ?_
   refine AW.seq ?_
   rcases iteO h with ⟨c15, h⟩ | ⟨c15, h⟩
   ·refine AW.ifT rfl c15 <| AW.skip <| thenA_n <| AW.seq <| AW.block ?_
    obtain ⟨x16, hx16, h⟩ := bO h
    obtain ⟨hx16a, hx16b⟩ := ix_some.1 hx16
    refine AW.rK [7, 9, 21, 22, 23] fun K hK => ?_
    simp only [go_sem, seval, natOf_le hx16a, hx16b, ix_lt hx16b]
    subst hK
    refine AW.rL [7, 21, 22, 23] fun K hK => ?_
    simp only [go_sem, seval, upd_encM mi75, upd_encM0 mi75]
    subst hK
    refine block_n <| thenA_n <| AW.rY [7, 21, 22, 23] ?_
    refine thenA_n ?_
    refine ⟨_, oj h, ?_⟩
    exact Ent.canq [8, 9] ((((RF.any.put (by simp [tokL]) (.of (by first | rfl | simp [upd_ap, hpL_ap, tau, mapT, mapTL, bytesI_len, eq_true c4, eq_true c15]))).qo).qv).qv) (.nil _) (.cons (.mpe (by first | rfl | simp [upd_ap, hpL_ap, tau, mapT, mapTL, bytesI_len, eq_true c4, eq_true c15])) (.ce (.nil _)))
   ·refine AW.ifF rfl c15 <| AW.exit <| thenA_x <| thenA_x ?_
    refine ⟨_, oj h, _, ?_, rfl, rfl⟩
    exact Ent.canq [8] (RF.any.put (by simp [tokL]) (.of (by first | rfl | simp [upd_ap, hpL_ap, tau, mapT, mapTL, bytesI_len, eq_true c4, eq_false c15]))) (.nil _) (.cons (.mpe (by first | rfl | simp [upd_ap, hpL_ap, tau, mapT, mapTL, bytesI_len, eq_true c4, eq_false c15])) (.nil _))
  ·intro e st' hX
   try dsimp only at h
   try dsimp only at hX
   obtain ⟨rfl, rfl⟩ := hX
   refine ⟨_, Ent.refl, ?_⟩
   refine block_x <| thenA_n <| AW.rX [2, 3] ?_
   refine AW.ent (Ent.stillMap 2 rfl (by first | rfl | simp [upd_ap])) ?_
   refine AW.ret ?_
   obtain rfl := oi h
   (simp only [go_sem, seval, finA] <;> try simp)
 ·refine AW.ifT rfl c4 ?_
  obtain ⟨x19, hx19, h⟩ := bO h
  refine AW.rC [2, 3] (ok33 ⟨#[105, 110, 112, 117, 116]⟩ 0 x1.2.2 x19 hx19) Tryz.call33 ?_
  refine AW.ent (Ent.w (FrW.put1 (d := 2) Weak.nilM)) ?_
  refine AW.ret <| thenA_r ?_
  obtain rfl := oi h
  (simp only [go_sem, seval, finA] <;> try simp)
def f8_s2 (x1 : (List Res) × Er) (x4 : (List Int) × Er) : Int → Option (Int ⊕ (((Option Trace) × Er) ⊕ Unit))
  | s2_0 => (if s2_0 < ((x1.1.length : Nat) : Int) then ((ix x1.1 s2_0).bind fun x36 => ((f34_35 x36.Offs x4.1).bind fun x37 => (if x37 = true then ((f33 ⟨#[107, 101, 121]⟩ s2_0 320).bind fun x39 => some (.inr (.inl (none, x39)))) else some (.inl (IntKind.i64.wrap (s2_0 + 1)))))) else some (.inr (.inr ())))
def f8 (a0 : List (A2 (List Int))) (a1 : List Int) : Option ((Option Trace) × Er) := ((f30 a0).bind fun x1 => (if (Er.isNil x1.2) = true then ((f31 a1).bind fun x4 => (if (Er.isNil x4.2) = true then ((f32 x1.1).bind fun x10 => (if x10 = true then ((loopO (f8_s2 x1 x4) 0).bind fun y40 => match y40 with | .inl y41 => some y41 | .inr _ => some ((some ⟨x1.1, x4.1⟩), Er.nil)) else ((f33 ⟨#[106, 111, 105, 110]⟩ 0 3).bind fun x42 => some (none, x42)))) else some (none, x4.2))) else some (none, x1.2)))
theorem ok8 (a0 : List (A2 (List Int))) (a1 : List Int) (r : (Option Trace) × Er) (h : f8 a0 a1 = some r) : IC Tryz.prog 8 [] [.sl (List.map enc71 a0), .sl (List.map enc5 a1)] (match r.1 with | none => .tup [.val (.pointer none), .val (erV r.2)] | some _ => .tup [.ptr 8 0 0, .val (erV r.2)]) [] (match r.1 with | none => [] | some b => [some (.row 2 true [[.own 9 0 b.l.length, .im (List.map encM b.offs)]]), some (.row 3 true (List.map encRes b.l))]) := by
 rw [f8] at h
 refine ic_of (N := 49) (rs := [.tmp 4, .tmp 5]) Tryz.func8 rfl rfl rfl (Nat.le_of_ble_eq_true rfl) <| AW.rX [0, 1] ?_
 obtain ⟨x1, hx1, h⟩ := bO h
 refine AW.rC [1, 6, 7] (ok30 a0 x1 hx1) Tryz.call30 ?_
 refine AW.seq <| AW.sX [1, 6, 7, 17] ?_
 rcases iteO h with ⟨c3, h⟩ | ⟨c3, h⟩
 ·refine AW.ifBF rfl (by first | (rw [c3]; rfl) | simp_all) <| AW.skip <| thenA_n ?_
  obtain ⟨x4, hx4, h⟩ := bO h
  refine AW.rC [6, 7, 8] (ok31 a1 x4 hx4) Tryz.call31 ?_
  refine AW.seq <| AW.sX [6, 7, 8, 25] ?_
  rcases iteO h with ⟨c6, h⟩ | ⟨c6, h⟩
  ·refine AW.ifBF rfl (by first | (rw [c6]; rfl) | simp_all) <| AW.skip <| thenA_n <| AW.seq ?_
   obtain ⟨x10, hx10, h⟩ := bO h
   refine AW.rC [6, 8, 29] (ok32 x1.1 x10 hx10) Tryz.call32 ?_
   rcases iteO h with ⟨c11, h⟩ | ⟨c11, h⟩
   ·refine AW.ifBF rfl (by first | (rw [c11]; rfl) | simp_all) <| AW.skip <| thenA_n <| AW.seq <| AW.sX [6, 8, 31, 32, 33] ?_
    refine AW.block <| AW.ent (Ent.stillPtr 8 rfl (by first | rfl | simp [upd_ap]) (by first | rfl | simp only [go_sem]) (by simp)) ?_
    obtain ⟨y40, hy40, h⟩ := bO h
    refine AW.loopO (fun s => ⟨(upd (upd (upd (upd (upd anyF 6 (.own 8 0 x1.1.length)) 8 (.ip [.im (List.map encM x4.1)])) 31 (.own 8 0 x1.1.length)) 32 (.val (.int .i64 ((x1.1.length : Nat) : Int)))) 33 (.val (.int .i64 s))), hpL [] [some (.row 3 true (List.map encRes x1.1))], 9⟩) (fun y e st' => match y with | .inl z => e = Exit.ret ∧ finI Tryz.prog [.tmp 4, .tmp 5] (match z.1 with | none => .tup [.val (.pointer none), .val (erV z.2)] | some _ => .tup [.ptr 8 0 0, .val (erV z.2)]) [] (match z.1 with | none => [] | some b => [some (.row 2 true [[.own 9 0 b.l.length, .im (List.map encM b.offs)]]), some (.row 3 true (List.map encRes b.l))]) .ret st' | .inr z => e = Exit.exit 0 ∧ st' = ⟨(upd (upd anyF 6 (.own 8 0 x1.1.length)) 8 (.ip [.im (List.map encM x4.1)])), hpL [] [some (.row 3 true (List.map encRes x1.1))], 9⟩) hy40 ?_ ?_ ?_
    ·exact Ent.canq [32] RF.any.qo.qv.qo.qv.qv (.nil _) (.ce (.nil _))
    ·clear h hy40
     rintro s2_0 x h
     rw [f8_s2] at h
     refine AW.sX [6, 8, 31, 32, 33, 34] ?_
     refine AW.seq ?_
     rcases iteO h with ⟨c35, h⟩ | ⟨c35, h⟩
     ·refine AW.ifT rfl c35 <| AW.skip <| thenA_n <| AW.seq <| AW.block ?_
      obtain ⟨x36, hx36, h⟩ := bO h
      obtain ⟨hx36a, hx36b⟩ := ix_some.1 hx36
      refine AW.rK [6, 8, 9, 10, 31, 32, 33] fun K hK => ?_
      simp only [go_sem, seval, c3, c6, c11, eq_true c35, natOf_le hx36a, hx36b, ix_lt hx36b]
      subst hK
      obtain ⟨x37, hx37, h⟩ := bO h
      refine AW.sC [6, 8, 9, 31, 32, 33, 41] (ok34_35 x36.Offs x4.1 x37 hx37) Tryz.call34 ?_
      rcases iteO h with ⟨c38, h⟩ | ⟨c38, h⟩
      ·refine AW.ifBT rfl c38 ?_
       obtain ⟨x39, hx39, h⟩ := bO h
       refine AW.rC [4, 5] (ok33 ⟨#[107, 101, 121]⟩ s2_0 320 x39 hx39) Tryz.call33 ?_
       refine AW.ent (st' := ⟨(upd (upd anyF 4 (.val (.pointer none))) 5 (.val (erV x39))), hpL [] [], 8⟩) ?_ ?_
       · refine Ent.can [] _ _ _ rfl (by first | decide | simp) rfl ?_ ?_ ?_
         · exact RF.any.qv.qv
         · exact .nil _
         · exact .nil _
       refine AW.ret <| block_r <| thenA_r <| thenA_r ?_
       refine ⟨_, oj h, _, Ent.refl, rfl, ?_⟩
       exact ⟨rfl, rfl, _, rfl, by first | rfl | simp [resOf, upd_ap, bytesI_len]⟩
      ·rw [Bool.not_eq_true] at c38
       refine AW.ifBF rfl c38 <| AW.skip <| block_n <| thenA_n <| AW.sY [6, 8, 31, 32, 33] ?_
       refine thenA_n ?_
       refine ⟨_, oj h, ?_⟩
       exact Ent.canq [8] RF.any.qo.qv.qo.qv.qv (.nil _) (.ce (.nil _))
     ·refine AW.ifF rfl c35 <| AW.exit <| thenA_x <| thenA_x ?_
      refine ⟨_, oj h, _, ?_, rfl, rfl⟩
      exact Ent.canq [8] RF.any.qo.qv (.nil _) (.ce (.nil _))
    ·intro e st' hX
     rcases y40 with y41 | _ <;> dsimp only at h hX
     ·obtain ⟨rfl, hf⟩ := hX
      refine ⟨_, Ent.refl, ?_⟩
      refine block_r <| thenA_r ?_
      obtain rfl := oi h
      exact hf
     ·obtain ⟨rfl, rfl⟩ := hX
      refine ⟨_, Ent.refl, ?_⟩
      refine block_x <| thenA_n <| AW.sX [4, 5] ?_
      refine AW.ent (st' := ⟨(upd (upd anyF 4 (.ptr 8 0 0)) 5 (.val (.nilIface))), hpL [] [some (.row 2 true [[.own 9 0 x1.1.length, .im (List.map encM x4.1)]]), some (.row 3 true (List.map encRes x1.1))], 10⟩) ?_ ?_
      · refine Ent.can [33, 8] _ _ _ rfl (by first | decide | simp) rfl ?_ ?_ ?_
        · exact RF.any.qp.qv
        · exact .nil _
        · exact .cons (.tok (by simp [tokL, tokLL, inlR]) (by first | rfl | simp [upd_ap, hpL_ap, tau, mapT, mapTL, bytesI_len, c3, c6, c11])) (.ce (.nil _))
      refine AW.ret ?_
      obtain rfl := oi h
      exact ⟨rfl, rfl, _, rfl, by first | rfl | simp [resOf, upd_ap, bytesI_len]⟩
   ·rw [Bool.not_eq_true] at c11
    refine AW.ifBT rfl (by first | (rw [c11]; rfl) | simp_all) ?_
    obtain ⟨x42, hx42, h⟩ := bO h
    refine AW.rC [4, 5] (ok33 ⟨#[106, 111, 105, 110]⟩ 0 3 x42 hx42) Tryz.call33 ?_
    refine AW.ent (st' := ⟨(upd (upd anyF 4 (.val (.pointer none))) 5 (.val (erV x42))), hpL [] [], 8⟩) ?_ ?_
    · refine Ent.can [] _ _ _ rfl (by first | decide | simp) rfl ?_ ?_ ?_
      · exact RF.any.qv.qv
      · exact .nil _
      · exact .nil _
    refine AW.ret <| thenA_r ?_
    obtain rfl := oi h
    exact ⟨rfl, rfl, _, rfl, by first | rfl | simp [resOf, upd_ap, bytesI_len]⟩
  ·rw [Bool.not_eq_true] at c6
   refine AW.ifBT rfl (by first | (rw [c6]; rfl) | simp_all) <| AW.sX [4, 5] ?_
   refine AW.ent (st' := ⟨(upd (upd anyF 4 (.val (.pointer none))) 5 (.val (erV x4.2))), hpL [] [], 8⟩) ?_ ?_
   · refine Ent.can [] _ _ _ rfl (by first | decide | simp) rfl ?_ ?_ ?_
     · exact RF.any.qv.qv
     · exact .nil _
     · exact .nil _
   refine AW.ret <| thenA_r ?_
   obtain rfl := oi h
   exact ⟨rfl, rfl, _, rfl, by first | rfl | simp [resOf, upd_ap, bytesI_len]⟩
 ·rw [Bool.not_eq_true] at c3
  refine AW.ifBT rfl (by first | (rw [c3]; rfl) | simp_all) <| AW.sX [4, 5] ?_
  refine AW.ent (st' := ⟨(upd (upd anyF 4 (.val (.pointer none))) 5 (.val (erV x1.2))), hpL [] [], 8⟩) ?_ ?_
  · refine Ent.can [] _ _ _ rfl (by first | decide | simp) rfl ?_ ?_ ?_
    · exact RF.any.qv.qv
    · exact .nil _
    · exact .nil _
  refine AW.ret <| thenA_r ?_
  obtain rfl := oi h
  exact ⟨rfl, rfl, _, rfl, by first | rfl | simp [resOf, upd_ap, bytesI_len]⟩
def f20_s1 (a0 : List Record) (a1 : Int) : Int → Option (Int ⊕ ((Int × Bool) ⊕ Unit))
  | s1_0 => (if s1_0 < (a0.length : Int) then ((ix a0 s1_0).bind fun x11 => (if x11.Off = a1 then some (.inr (.inl (s1_0, true))) else some (.inl (IntKind.i64.wrap (s1_0 + 1))))) else some (.inr (.inr ())))
def f20 (a0 : List Record) (a1 : Int) : Option (Int × Bool) := ((loopO (f20_s1 a0 a1) 0).bind fun y13 => match y13 with | .inl y14 => some y14 | .inr _ => some (0, false))
theorem ok20 (a0 : List Record) (a1 : Int) (r : Int × Bool) (h : f20 a0 a1 = some r) : PC Tryz.prog 20 [.sl (List.map encRecord a0), .val (.int .i64 a1)] (.tup [.val (.int .i64 r.1), .val (.bool r.2)]) := by
 rw [f20] at h
 refine pc_of9 (N := 21) (rs := [.tmp 4, .tmp 5]) Tryz.func20 ?_
 refine AW.rX [0, 1] ?_
 refine AW.seq <| AW.rX [0, 1, 6] ?_
 refine AW.block ?_
 obtain ⟨y13, hy13, h⟩ := bO h
 refine AW.loopO (fun s => ⟨(upd (upd (upd anyF 0 (.sl (List.map encRecord a0))) 1 (.val (.int .i64 a1))) 6 (.val (.int .i64 s))), hpL [] [], 8⟩) (fun y e st' => match y with | .inl z => e = Exit.ret ∧ finA Tryz.prog [.tmp 4, .tmp 5] (.tup [.val (.int .i64 z.1), .val (.bool z.2)]) .ret st' | .inr z => e = Exit.exit 0 ∧ st' = ⟨anyF, hpL [] [], 8⟩) hy13 ?_ ?_ ?_
 ·exact Ent.cq RF.any.qv.qv.qv
 ·clear h hy13
  rintro s1_0 x h
  rw [f20_s1] at h
  refine AW.seq <| AW.rX [0, 1, 6, 10] ?_
  rcases iteO h with ⟨c10, h⟩ | ⟨c10, h⟩
  ·refine AW.ifT rfl c10 <| AW.skip <| thenA_n <| AW.seq <| AW.block ?_
   obtain ⟨x11, hx11, h⟩ := bO h
   obtain ⟨hx11a, hx11b⟩ := ix_some.1 hx11
   refine AW.sX [0, 1, 6, 19] ?_
   rcases iteO h with ⟨c12, h⟩ | ⟨c12, h⟩
   ·refine AW.ifT rfl c12 <| AW.rX [4, 5] ?_
    refine AW.ret <| block_r <| thenA_r <| thenA_r ?_
    refine ⟨_, oj h, _, Ent.refl, rfl, ?_⟩
    (simp only [go_sem, seval, finA] <;> try simp)
   ·refine AW.ifF rfl c12 <| AW.skip <| block_n <| thenA_n <| AW.rY [0, 1, 6] ?_
    refine thenA_n ?_
    refine ⟨_, oj h, ?_⟩
    exact Ent.cq RF.any.qv.qv.qv
  ·refine AW.ifF rfl c10 <| AW.exit <| thenA_x <| thenA_x ?_
   refine ⟨_, oj h, _, ?_, rfl, rfl⟩
   exact Ent.cq RF.any
 ·intro e st' hX
  rcases y13 with y14 | _ <;> dsimp only at h hX
  ·obtain ⟨rfl, hf⟩ := hX
   refine ⟨_, Ent.refl, ?_⟩
   refine block_r <| thenA_r ?_
   obtain rfl := oi h
   exact hf
  ·obtain ⟨rfl, rfl⟩ := hX
   refine ⟨_, Ent.refl, ?_⟩
   refine block_x <| thenA_n <| AW.rX [4, 5] ?_
   refine AW.ret ?_
   obtain rfl := oi h
   (simp only [go_sem, seval, finA] <;> try simp)
end Au
end Go.Proofs.Yt
