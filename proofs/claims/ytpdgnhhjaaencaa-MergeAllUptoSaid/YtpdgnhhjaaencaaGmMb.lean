import Derived.Test.YtpdgnhhjaaencaaGmDV
import Derived.Test.YtpdgnhhjaaencaaGmM7
import Derived.Test.YtpdgnhhjaaencaaGmLh
import Derived.Test.YtpdgnhhjaaencaaGmMa
set_option linter.all false
set_option linter.unusedVariables false
set_option linter.unusedSimpArgs false
set_option linter.all false
set_option maxRecDepth 8000
set_option maxHeartbeats 1000000
namespace Go.Proofs.Y5
open Go.Gm
namespace Au
noncomputable def f12 (a0 : ByteArray) (a1 : Int) : Option Item := some ⟨a0, [⟨⟨0, a1, ⟨#[]⟩⟩, 1⟩], []⟩
theorem ok12 (a0 : ByteArray) (a1 : Int) (r : Item) (h : f12 a0 a1 = some r) : PC Try.prog 12 [.val (.string a0), .val (.int .i64 a1)] (.agg (encItem r)) := by
 rw [f12] at h
 refine pc_of8 (N := 11) (rs := [.cell 4 33]) Try.func12 rfl rfl rfl (Nat.le_of_ble_eq_true rfl) ?_
 refine AW.regL [0, 1, 4] ?_
 generalize hK : AW Try.prog _ _ _ = K
 simp only [go_sem, ↓reduceIte, reduceCtorEq, Nat.reduceAdd, Nat.reduceSub, Nat.reduceMul, Nat.reduceEqDiff, Nat.reduceLT, Nat.reduceLeDiff]
 subst hK
 refine AW.regL [4] ?_
 generalize hK : AW Try.prog _ _ _ = K
 simp only [go_sem, ↓reduceIte, reduceCtorEq, Nat.reduceAdd, Nat.reduceSub, Nat.reduceMul, Nat.reduceEqDiff, Nat.reduceLT, Nat.reduceLeDiff]
 subst hK
 refine AW.ent (Ent.stillObj (pre := [.val (.string a0)]) (post := [.val (.slice none 0 0)]) (q := 48) (off := 0) (len := 1) 8 rfl (own_sl (sz := 4) (m := true) rfl (by first | rfl | (simp [bytesI_len]; done) | (simp [bytesI_len]; omega)) (by simp only [go_sem])) (by decide)) ?_
 refine AW.ent (Ent.weakObj 8 rfl rfl (.cons (.of rfl) (.cons (.of rfl) (.cons Weak.nil WeakL.nil)))) ?_
 refine AW.ret ?_
 obtain rfl := Option.some.inj h
 (simp only [go_sem, ↓reduceIte, reduceCtorEq, Nat.reduceAdd, Nat.reduceSub, Nat.reduceMul, Nat.reduceEqDiff, Nat.reduceLT, Nat.reduceLeDiff, finA] <;> try simp)
end Au
end Go.Proofs.Y5

set_option linter.all false
set_option maxRecDepth 8000
set_option maxHeartbeats 1000000
namespace Go.Proofs.Y5
open Go.Gm
namespace Au
/- by hand: Gm.HC -/
end Au
end Go.Proofs.Y5

set_option linter.all false
set_option maxRecDepth 8000
set_option maxHeartbeats 1000000
namespace Go.Proofs.Y5
open Go.Gm
namespace Au
noncomputable def f7 : Option Bool := ((f12 ⟨#[97]⟩ 1).bind fun x1 => ((f12 ⟨#[97]⟩ 2).bind fun x2 => ((f12 ⟨#[98]⟩ 3).bind fun x3 => ((f9 [[x1], [x2, x3]]).bind fun x4 => (if ((x4.length : Nat) : Int) = 2 then ((x4[0]?).bind fun x6 => (if (x6.Parts.length : Int) = 2 then ((x6.Parts[1]?).bind fun x8 => (if x8.Acc.Int = 2 then ((x4[1]?).bind fun x10 => some (decide (x10.Key = ⟨#[98]⟩))) else some false)) else some false)) else some false)))))
theorem ok7 (r : Bool) (h : f7 = some r) : PC Try.prog 7 [] (.val (.bool r)) := by
 rw [f7] at h
 refine pc_of8 (N := 42) (rs := [.tmp 0]) Try.func7 rfl rfl rfl (Nat.le_of_ble_eq_true rfl) ?_
 refine AW.regL [] ?_
 generalize hK : AW Try.prog _ _ _ = K
 simp only [go_sem, ↓reduceIte, reduceCtorEq, Nat.reduceAdd, Nat.reduceSub, Nat.reduceMul, Nat.reduceEqDiff, Nat.reduceLT, Nat.reduceLeDiff]
 subst hK
 refine AW.regL [1] ?_
 generalize hK : AW Try.prog _ _ _ = K
 simp only [go_sem, ↓reduceIte, reduceCtorEq, Nat.reduceAdd, Nat.reduceSub, Nat.reduceMul, Nat.reduceEqDiff, Nat.reduceLT, Nat.reduceLeDiff]
 subst hK
 refine AW.ent (Ent.fnclo 1 rfl) ?_
 obtain ⟨x1, hx1, h⟩ := Option.bind_eq_some_iff.1 h
 obtain ⟨x2, hx2, h⟩ := Option.bind_eq_some_iff.1 h
 obtain ⟨x3, hx3, h⟩ := Option.bind_eq_some_iff.1 h
 obtain ⟨x4, hx4, h⟩ := Option.bind_eq_some_iff.1 h
 refine AW.regS 9 [2] ?_
 generalize hK : (fun (s1 : ASt) => _) = K
 simp only [go_sem, ↓reduceIte, reduceCtorEq, Nat.reduceAdd, Nat.reduceSub, Nat.reduceMul, Nat.reduceEqDiff, Nat.reduceLT, Nat.reduceLeDiff]
 refine arC.of (ok12 ⟨#[97]⟩ 1 x1 hx1) Try.call12 ?_
 simp only [go_sem, ↓reduceIte, reduceCtorEq, Nat.reduceAdd, Nat.reduceSub, Nat.reduceMul, Nat.reduceEqDiff, Nat.reduceLT, Nat.reduceLeDiff]
 refine arC.of (ok12 ⟨#[97]⟩ 2 x2 hx2) Try.call12 ?_
 simp only [go_sem, ↓reduceIte, reduceCtorEq, Nat.reduceAdd, Nat.reduceSub, Nat.reduceMul, Nat.reduceEqDiff, Nat.reduceLT, Nat.reduceLeDiff]
 refine arC.of (ok12 ⟨#[98]⟩ 3 x3 hx3) Try.call12 ?_
 simp only [go_sem, ↓reduceIte, reduceCtorEq, Nat.reduceAdd, Nat.reduceSub, Nat.reduceMul, Nat.reduceEqDiff, Nat.reduceLT, Nat.reduceLeDiff]
 subst hK
 refine ⟨_, Ent.trans (Ent.stillRow (sz := 1) (mu := true) (R1 := []) (R2 := [[.own 80 0 2]]) (pre := []) (post := []) (q := 40) (off := 0) (len := 1) 88 (by simp [upd_ap, hpL_ap]) (own_sl (sz := 3) (m := true) (by simp [upd_ap, hpL_ap]; rfl) rfl (by simp only [go_sem])) (by decide))
   (Ent.stillRow (sz := 1) (mu := true) (R1 := [[.sl [encItem x1]]]) (R2 := []) (pre := []) (post := []) (q := 80) (off := 0) (len := 2) 88 (by simp [upd_ap, hpL_ap, encItem]) (own_sl (sz := 3) (m := true) (by simp [upd_ap, hpL_ap]; rfl) rfl (by simp only [go_sem])) (by decide)), ?_⟩
 generalize hK : AW Try.prog _ _ _ = K
 simp only [go_sem, ↓reduceIte, reduceCtorEq, Nat.reduceAdd, Nat.reduceSub, Nat.reduceMul, Nat.reduceEqDiff, Nat.reduceLT, Nat.reduceLeDiff]
 refine arC.of (ok9 [[x1], [x2, x3]] x4 hx4) Try.call9 ?_
 simp only [go_sem, ↓reduceIte, reduceCtorEq, Nat.reduceAdd, Nat.reduceSub, Nat.reduceMul, Nat.reduceEqDiff, Nat.reduceLT, Nat.reduceLeDiff]
 subst hK
 by_cases c5 : ((x4.length : Nat) : Int) = 2
 ·rw [if_pos c5] at h
  obtain ⟨x6, hx6, h⟩ := Option.bind_eq_some_iff.1 h
  by_cases c7 : (x6.Parts.length : Int) = 2
  ·rw [if_pos c7] at h
   obtain ⟨x8, hx8, h⟩ := Option.bind_eq_some_iff.1 h
   by_cases c9 : x8.Acc.Int = 2
   ·rw [if_pos c9] at h
    obtain ⟨x10, hx10, h⟩ := Option.bind_eq_some_iff.1 h
    refine AW.regL [0] ?_
    generalize hK : AW Try.prog _ _ _ = K
    simp only [go_sem, ↓reduceIte, reduceCtorEq, Nat.reduceAdd, Nat.reduceSub, Nat.reduceMul, Nat.reduceEqDiff, Nat.reduceLT, Nat.reduceLeDiff, eq_true c5, hx6, ix_lt hx6, eq_true c7, hx8, eq_true c9, hx10, ix_lt hx10]
    subst hK
    refine AW.ret ?_
    obtain rfl := Option.some.inj h
    (simp only [go_sem, ↓reduceIte, reduceCtorEq, Nat.reduceAdd, Nat.reduceSub, Nat.reduceMul, Nat.reduceEqDiff, Nat.reduceLT, Nat.reduceLeDiff, eq_true c5, eq_true c7, eq_true c9, finA] <;> try simp)
   ·rw [if_neg c9] at h
    refine AW.regL [0] ?_
    generalize hK : AW Try.prog _ _ _ = K
    simp only [go_sem, ↓reduceIte, reduceCtorEq, Nat.reduceAdd, Nat.reduceSub, Nat.reduceMul, Nat.reduceEqDiff, Nat.reduceLT, Nat.reduceLeDiff, eq_true c5, hx6, ix_lt hx6, eq_true c7, hx8, eq_false c9]
    subst hK
    refine AW.ret ?_
    obtain rfl := Option.some.inj h
    (simp only [go_sem, ↓reduceIte, reduceCtorEq, Nat.reduceAdd, Nat.reduceSub, Nat.reduceMul, Nat.reduceEqDiff, Nat.reduceLT, Nat.reduceLeDiff, eq_true c5, eq_true c7, eq_false c9, finA] <;> try simp)
  ·rw [if_neg c7] at h
   refine AW.regL [0] ?_
   generalize hK : AW Try.prog _ _ _ = K
   simp only [go_sem, ↓reduceIte, reduceCtorEq, Nat.reduceAdd, Nat.reduceSub, Nat.reduceMul, Nat.reduceEqDiff, Nat.reduceLT, Nat.reduceLeDiff, eq_true c5, hx6, ix_lt hx6, eq_false c7]
   subst hK
   refine AW.ret ?_
   obtain rfl := Option.some.inj h
   (simp only [go_sem, ↓reduceIte, reduceCtorEq, Nat.reduceAdd, Nat.reduceSub, Nat.reduceMul, Nat.reduceEqDiff, Nat.reduceLT, Nat.reduceLeDiff, eq_true c5, eq_false c7, finA] <;> try simp)
 ·rw [if_neg c5] at h
  refine AW.regL [0] ?_
  generalize hK : AW Try.prog _ _ _ = K
  simp only [go_sem, ↓reduceIte, reduceCtorEq, Nat.reduceAdd, Nat.reduceSub, Nat.reduceMul, Nat.reduceEqDiff, Nat.reduceLT, Nat.reduceLeDiff, eq_false c5]
  subst hK
  refine AW.ret ?_
  obtain rfl := Option.some.inj h
  (simp only [go_sem, ↓reduceIte, reduceCtorEq, Nat.reduceAdd, Nat.reduceSub, Nat.reduceMul, Nat.reduceEqDiff, Nat.reduceLT, Nat.reduceLeDiff, eq_false c5, finA] <;> try simp)
end Au
end Go.Proofs.Y5

set_option linter.all false
set_option maxRecDepth 8000
set_option maxHeartbeats 1000000
namespace Go.Proofs.Y5
open Go.Gm
namespace Au
theorem uni_nil : uni [] [] = [] := by
  have := uni_len [] []
  exact List.eq_nil_of_length_eq_zero (by simpa using this)
def it1 (k : ByteArray) (n : Int) : Item := ⟨k, [⟨⟨0, n, ⟨#[]⟩⟩, 1⟩], []⟩
theorem it1_ok (k : ByteArray) (n : Int) (h : k.size ≤ 1) : Ok (it1 k n) := ⟨⟨by simp only [it1]; omega, by simp [it1], by simp [it1]⟩, by simp only [it1]; omega, ⟨by simp [it1], fun p hp => by simp [it1] at hp; subst hp; show (0 : Nat) ≤ 2000000; omega⟩, by simp [it1]⟩
def ka : ByteArray := ⟨#[97]⟩
def kb : ByteArray := ⟨#[98]⟩
theorem live_all : f9 [[it1 ka 1], [it1 ka 2, it1 kb 3]] = some [⟨ka, [⟨⟨0, 1, ⟨#[]⟩⟩, 1⟩, ⟨⟨0, 2, ⟨#[]⟩⟩, 1⟩], []⟩, it1 kb 3] := by
  obtain ⟨M, d, t, h1, h2, h3, h4, _⟩ := all_eq (L := [[it1 ka 1], [it1 ka 2, it1 kb 3]]) (by decide) (fun l hl => by simp at hl; rcases hl with rfl | rfl <;> decide) (by decide) (fun x hx => by
    simp at hx; rcases hx with rfl | rfl | rfl <;> exact it1_ok _ _ (by decide))
  have hs : Srt ltI [it1 ka 1, it1 ka 2, it1 kb 3] := by
    refine List.pairwise_cons.2 ⟨fun x hx => ?_, List.pairwise_cons.2 ⟨fun x hx => ?_, List.pairwise_singleton ..⟩⟩
    · simp at hx; rcases hx with rfl | rfl <;> kernel_rfl
    · simp at hx; subst hx; kernel_rfl
  have hM : M = [it1 ka 1, it1 ka 2, it1 kb 3] := Srt.uniq swoI h3 hs (by simpa using h4)
  subst hM
  have hab : ¬ ka = kb := by decide
  have e : ([it1 ka 1, it1 ka 2, it1 kb 3] : List Item).foldl astepP ([], none) = ([⟨ka, [⟨⟨0, 1, ⟨#[]⟩⟩, 1⟩, ⟨⟨0, 2, ⟨#[]⟩⟩, 1⟩], []⟩], some (it1 kb 3)) := by
    simp [astepP, it1, uni_nil, hab]
  rw [e] at h2
  obtain ⟨rfl, rfl⟩ := Prod.mk.inj h2
  rw [h1]; rfl
theorem live_ok : f7 = some true := by
  unfold f7 f12
  simp only [Option.bind_some]
  rw [show f9 [[⟨⟨#[97]⟩, [⟨⟨0, 1, ⟨#[]⟩⟩, 1⟩], []⟩], [⟨⟨#[97]⟩, [⟨⟨0, 2, ⟨#[]⟩⟩, 1⟩], []⟩, ⟨⟨#[98]⟩, [⟨⟨0, 3, ⟨#[]⟩⟩, 1⟩], []⟩]] = some [⟨ka, [⟨⟨0, 1, ⟨#[]⟩⟩, 1⟩, ⟨⟨0, 2, ⟨#[]⟩⟩, 1⟩], []⟩, it1 kb 3] from live_all]
  simp [it1, kb]
end Au
end Go.Proofs.Y5
