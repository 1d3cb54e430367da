import Derived.Test.YtlonihmeikmpiaaGmY1G
import Derived.Test.YtlonihmeikmpiaaGmLd
set_option linter.all false
set_option linter.unusedVariables false
set_option linter.unusedSimpArgs false
set_option linter.unusedSimpArgs false
set_option linter.unusedVariables false
set_option maxRecDepth 8000
namespace Go.Proofs.Y1
open Go.Gm
def ra0 : Res := ⟨⟨#[97]⟩, ⟨#[49]⟩, []⟩
def rb0 : Res := ⟨⟨#[98]⟩, ⟨#[50]⟩, []⟩
theorem right_one (r : Res) : Right [r] := fun j a b _ hb => by cases j <;> simp at hb
theorem live_diff : diffL [ra0] [rb0] = [⟨0, ra0⟩, ⟨1, rb0⟩] := by
  rw [dL_lt (sLt_iff.2 (by decide)), dL_nc, dL_nil]
open Classical in
theorem live_call : PC Try.prog 15 [.sl [[S ⟨#[97]⟩, S ⟨#[49]⟩, nilS]], .sl [[S ⟨#[98]⟩, S ⟨#[50]⟩, nilS]]] (.fr 4 [[I 0, S ⟨#[97]⟩, S ⟨#[49]⟩, .sl []], [I 1, S ⟨#[98]⟩, S ⟨#[50]⟩, .sl []]]) := by
  have h := w15 [ra0] [rb0] (by simp) (fun r hr => by simp at hr; subst hr; simp [ra0]) (fun r hr => by simp at hr; subst hr; simp [rb0])
  rw [if_pos ⟨right_one _, right_one _⟩, live_diff] at h
  exact h.norm (by simp [normL, norm, normR, encL, encRes, encI, ra0, rb0])
theorem w14 : PC Try.prog 14 [] (B true) := by
  refine pc_of (N := 32) (rs := [.tmp 0]) Try.func14 rfl rfl rfl (Nat.le_of_ble_eq_true rfl) ?_
  refine AW.reg ?_
  generalize hK : AW Try.prog _ _ _ = K
  simp only [go_sem, ↓reduceIte, reduceCtorEq, Nat.reduceAdd, Nat.reduceSub, Nat.reduceMul, Nat.reduceEqDiff, Nat.reduceLT, Nat.reduceLeDiff, Nat.reduceBEq, Int.reduceAdd, Int.reduceSub, Int.reduceLT, Int.reduceLE, Int.reduceEq, Int.reduceToNat, ag3, ag9, bd35, el25, fl35_0, fl37_0, fl37_1, mk22, sz3, sz9, sz35, sz37]
  subst hK
  refine AW.reg ?_
  generalize hK : AW Try.prog _ _ _ = K
  simp only [go_sem, ↓reduceIte, reduceCtorEq, Nat.reduceAdd, Nat.reduceSub, Nat.reduceMul, Nat.reduceEqDiff, Nat.reduceLT, Nat.reduceLeDiff, Nat.reduceBEq, Int.reduceAdd, Int.reduceSub, Int.reduceLT, Int.reduceLE, Int.reduceEq, Int.reduceToNat, ag3, ag9, bd35, el25, fl35_0, fl37_0, fl37_1, mk22, sz3, sz9, sz35, sz37]
  refine arC.of (live_call) Try.call15 ?_
  simp only [go_sem, ↓reduceIte, reduceCtorEq, Nat.reduceAdd, Nat.reduceSub, Nat.reduceMul, Nat.reduceEqDiff, Nat.reduceLT, Nat.reduceLeDiff, Nat.reduceBEq, Int.reduceAdd, Int.reduceSub, Int.reduceLT, Int.reduceLE, Int.reduceEq, Int.reduceToNat, ag3, ag9, bd35, el25, fl35_0, fl37_0, fl37_1, mk22, sz3, sz9, sz35, sz37]
  subst hK
  refine AW.reg ?_
  generalize hK : AW Try.prog _ _ _ = K
  simp only [go_sem, ↓reduceIte, reduceCtorEq, Nat.reduceAdd, Nat.reduceSub, Nat.reduceMul, Nat.reduceEqDiff, Nat.reduceLT, Nat.reduceLeDiff, Nat.reduceBEq, Int.reduceAdd, Int.reduceSub, Int.reduceLT, Int.reduceLE, Int.reduceEq, Int.reduceToNat, ag3, ag9, bd35, el25, fl35_0, fl37_0, fl37_1, mk22, sz3, sz9, sz35, sz37, lenS, lenOf]
  subst hK
  refine AW.ret ?_
  exact fin_val (.inl rfl) rfl rfl
end Go.Proofs.Y1
