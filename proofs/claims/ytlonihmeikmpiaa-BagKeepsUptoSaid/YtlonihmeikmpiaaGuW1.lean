import Derived.Test.YtlonihmeikmpiaaGuAF
import Derived.Test.YtlonihmeikmpiaaGuLg
import Derived.Test.YtlonihmeikmpiaaGuLh
import Derived.Test.YtlonihmeikmpiaaGuDJ
set_option linter.all false
set_option linter.unusedVariables false
set_option linter.unusedSimpArgs false
set_option linter.all false
set_option maxRecDepth 8000
set_option maxHeartbeats 1000000
namespace Go.Proofs.Y1
open Go.Gm
namespace Au
structure Act where
  Do : Int
  I : Int
  J : Int
  Up : Bool
  B : List Int
def enc5 (x : Int) : List AV := [.val (.int .u8 x)]
attribute [go_sem] enc5
theorem inl_enc5 (x : Int) : inlL (enc5 x) = true := by simp only [go_sem]
theorem ml_enc5 (l : List Int) : (∀ r ∈ l.map enc5, r.length = 1) = True := forall_map (f := enc5) (fun _ => rfl) l
theorem ir_enc5 (l : List Int) : inlR (l.map enc5) = true := inlR_map inl_enc5 l
theorem mr_enc5 (τ : Nat → Nat) (l : List Int) : (l.map enc5).map (mapTL τ) = l.map enc5 := mapR_inl τ (ir_enc5 l)
theorem to_enc5 (m : Nat) (l : List Int) : (l.map enc5).all (tokLL m) = true := tokR_inl m (ir_enc5 l)
theorem no_enc5 (x : Int) : normL (enc5 x) = enc5 x := by simp [enc5, normL, norm, go_sem]
theorem nr_enc5 (l : List Int) : normR (l.map enc5) = l.map enc5 := normR_map no_enc5 l
attribute [go_sem] ml_enc5 ir_enc5 mr_enc5 to_enc5 nr_enc5
def encAct (x : Act) : List AV := [.val (.int .i64 x.Do), .val (.int .i64 x.I), .val (.int .i64 x.J), .val (.bool x.Up), .sl (List.map enc5 x.B)]
attribute [go_sem] encAct
theorem inl_encAct (x : Act) : inlL (encAct x) = true := by simp only [go_sem]
theorem ml_encAct (l : List Act) : (∀ r ∈ l.map encAct, r.length = 5) = True := forall_map (f := encAct) (fun _ => rfl) l
theorem ir_encAct (l : List Act) : inlR (l.map encAct) = true := inlR_map inl_encAct l
theorem mr_encAct (τ : Nat → Nat) (l : List Act) : (l.map encAct).map (mapTL τ) = l.map encAct := mapR_inl τ (ir_encAct l)
theorem to_encAct (m : Nat) (l : List Act) : (l.map encAct).all (tokLL m) = true := tokR_inl m (ir_encAct l)
theorem no_encAct (x : Act) : normL (encAct x) = encAct x := by simp [encAct, normL, norm, go_sem]
theorem nr_encAct (l : List Act) : normR (l.map encAct) = l.map encAct := normR_map no_encAct l
attribute [go_sem] ml_encAct ir_encAct mr_encAct to_encAct nr_encAct
structure Msg where
  From : Int
  To : Int
  Data : List Int
def encMsg (x : Msg) : List AV := [.val (.int .i64 x.From), .val (.int .i64 x.To), .sl (List.map enc5 x.Data)]
attribute [go_sem] encMsg
theorem inl_encMsg (x : Msg) : inlL (encMsg x) = true := by simp only [go_sem]
theorem ml_encMsg (l : List Msg) : (∀ r ∈ l.map encMsg, r.length = 3) = True := forall_map (f := encMsg) (fun _ => rfl) l
theorem ir_encMsg (l : List Msg) : inlR (l.map encMsg) = true := inlR_map inl_encMsg l
theorem mr_encMsg (τ : Nat → Nat) (l : List Msg) : (l.map encMsg).map (mapTL τ) = l.map encMsg := mapR_inl τ (ir_encMsg l)
theorem to_encMsg (m : Nat) (l : List Msg) : (l.map encMsg).all (tokLL m) = true := tokR_inl m (ir_encMsg l)
theorem no_encMsg (x : Msg) : normL (encMsg x) = encMsg x := by simp [encMsg, normL, norm, go_sem]
theorem nr_encMsg (l : List Msg) : normR (l.map encMsg) = l.map encMsg := normR_map no_encMsg l
attribute [go_sem] ml_encMsg ir_encMsg mr_encMsg to_encMsg nr_encMsg
structure Bag where
  nodes : Int
  most : Int
  down : A8 Bool
  l : List Msg
  sent : Int
  taken : Int
  lost : Int
def encBag (x : Bag) : List AV := [.val (.int .i64 x.nodes), .val (.int .i64 x.most), .val (.bool x.down.e0), .val (.bool x.down.e1), .val (.bool x.down.e2), .val (.bool x.down.e3), .val (.bool x.down.e4), .val (.bool x.down.e5), .val (.bool x.down.e6), .val (.bool x.down.e7), .sl (List.map encMsg x.l), .val (.int .i64 x.sent), .val (.int .i64 x.taken), .val (.int .i64 x.lost)]
attribute [go_sem] encBag
theorem inl_encBag (x : Bag) : inlL (encBag x) = true := by simp only [go_sem]
theorem ml_encBag (l : List Bag) : (∀ r ∈ l.map encBag, r.length = 14) = True := forall_map (f := encBag) (fun _ => rfl) l
theorem ir_encBag (l : List Bag) : inlR (l.map encBag) = true := inlR_map inl_encBag l
theorem mr_encBag (τ : Nat → Nat) (l : List Bag) : (l.map encBag).map (mapTL τ) = l.map encBag := mapR_inl τ (ir_encBag l)
theorem to_encBag (m : Nat) (l : List Bag) : (l.map encBag).all (tokLL m) = true := tokR_inl m (ir_encBag l)
theorem no_encBag (x : Bag) : normL (encBag x) = encBag x := by simp [encBag, normL, norm, go_sem]
theorem nr_encBag (l : List Bag) : normR (l.map encBag) = l.map encBag := normR_map no_encBag l
attribute [go_sem] ml_encBag ir_encBag mr_encBag to_encBag nr_encBag
structure Bag81 where
  Nodes : Int
  Most : Int
  Down : A8 Bool
  L : List Msg
  N : A3 Int
def encBag81 (x : Bag81) : List AV := [.val (.int .i64 x.Nodes), .val (.int .i64 x.Most), .val (.bool x.Down.e0), .val (.bool x.Down.e1), .val (.bool x.Down.e2), .val (.bool x.Down.e3), .val (.bool x.Down.e4), .val (.bool x.Down.e5), .val (.bool x.Down.e6), .val (.bool x.Down.e7), .sl (List.map encMsg x.L), .val (.int .i64 x.N.e0), .val (.int .i64 x.N.e1), .val (.int .i64 x.N.e2)]
attribute [go_sem] encBag81
theorem inl_encBag81 (x : Bag81) : inlL (encBag81 x) = true := by simp only [go_sem]
theorem ml_encBag81 (l : List Bag81) : (∀ r ∈ l.map encBag81, r.length = 14) = True := forall_map (f := encBag81) (fun _ => rfl) l
theorem ir_encBag81 (l : List Bag81) : inlR (l.map encBag81) = true := inlR_map inl_encBag81 l
theorem mr_encBag81 (τ : Nat → Nat) (l : List Bag81) : (l.map encBag81).map (mapTL τ) = l.map encBag81 := mapR_inl τ (ir_encBag81 l)
theorem to_encBag81 (m : Nat) (l : List Bag81) : (l.map encBag81).all (tokLL m) = true := tokR_inl m (ir_encBag81 l)
theorem no_encBag81 (x : Bag81) : normL (encBag81 x) = encBag81 x := by simp [encBag81, normL, norm, go_sem]
theorem nr_encBag81 (l : List Bag81) : normR (l.map encBag81) = l.map encBag81 := normR_map no_encBag81 l
attribute [go_sem] ml_encBag81 ir_encBag81 mr_encBag81 to_encBag81 nr_encBag81
theorem be4 {x y : Operand} {a b : Bool} : binV Try.prog .eql 4 x y (.bool a) (.bool b) = some (.bool (decide (a = b))) := binV_bool (by kernel_rfl)
theorem na80 {x y : Operand} {a0 a1 a2 b0 b1 b2 : Int} : binV Try.prog .neq 80 x y (.agg #[.int .i64 a0, .int .i64 a1, .int .i64 a2]) (.agg #[.int .i64 b0, .int .i64 b1, .int .i64 b2]) = some (.bool (!(decide (a0 = b0) && (decide (a1 = b1) && decide (a2 = b2))))) := binV_narr3 (e := 3) (by kernel_rfl) (by kernel_rfl) (by kernel_rfl) (by kernel_rfl)
theorem nb4 {x y : Operand} {a b : Bool} : binV Try.prog .neq 4 x y (.bool a) (.bool b) = some (.bool (!decide (a = b))) := binV_nbool (by kernel_rfl)
def enc3 (x : Int) : List AV := [.val (.int .i64 x)]
attribute [go_sem] enc3
theorem inl_enc3 (x : Int) : inlL (enc3 x) = true := by simp only [go_sem]
theorem ml_enc3 (l : List Int) : (∀ r ∈ l.map enc3, r.length = 1) = True := forall_map (f := enc3) (fun _ => rfl) l
theorem ir_enc3 (l : List Int) : inlR (l.map enc3) = true := inlR_map inl_enc3 l
theorem mr_enc3 (τ : Nat → Nat) (l : List Int) : (l.map enc3).map (mapTL τ) = l.map enc3 := mapR_inl τ (ir_enc3 l)
theorem to_enc3 (m : Nat) (l : List Int) : (l.map enc3).all (tokLL m) = true := tokR_inl m (ir_enc3 l)
theorem no_enc3 (x : Int) : normL (enc3 x) = enc3 x := by simp [enc3, normL, norm, go_sem]
theorem nr_enc3 (l : List Int) : normR (l.map enc3) = l.map enc3 := normR_map no_enc3 l
attribute [go_sem] ml_enc3 ir_enc3 mr_enc3 to_enc3 nr_enc3
def enc4 (x : Bool) : List AV := [.val (.bool x)]
attribute [go_sem] enc4
theorem inl_enc4 (x : Bool) : inlL (enc4 x) = true := by simp only [go_sem]
theorem ml_enc4 (l : List Bool) : (∀ r ∈ l.map enc4, r.length = 1) = True := forall_map (f := enc4) (fun _ => rfl) l
theorem ir_enc4 (l : List Bool) : inlR (l.map enc4) = true := inlR_map inl_enc4 l
theorem mr_enc4 (τ : Nat → Nat) (l : List Bool) : (l.map enc4).map (mapTL τ) = l.map enc4 := mapR_inl τ (ir_enc4 l)
theorem to_enc4 (m : Nat) (l : List Bool) : (l.map enc4).all (tokLL m) = true := tokR_inl m (ir_enc4 l)
theorem no_enc4 (x : Bool) : normL (enc4 x) = enc4 x := by simp [enc4, normL, norm, go_sem]
theorem nr_enc4 (l : List Bool) : normR (l.map enc4) = l.map enc4 := normR_map no_enc4 l
attribute [go_sem] ml_enc4 ir_enc4 mr_enc4 to_enc4 nr_enc4
def fuel : Nat := 4000000
end Au
end Go.Proofs.Y1

set_option linter.all false
set_option maxRecDepth 8000
set_option maxHeartbeats 1000000
namespace Go.Proofs.Y1
open Go.Gm
namespace Au
noncomputable def f31_s1 (a0 : List Act) : Int × Int → Option ((Int × Int) ⊕ (Bool ⊕ Unit))
  | (s1_0, s1_1) => (if s1_1 < (a0.length : Int) then (if s1_1 < 150 then ((ix a0 s1_1).bind fun x15 => (if 5000 < (IntKind.i64.wrap (s1_0 + (x15.B.length : Int))) then some (.inr (.inl true)) else some (.inl (IntKind.i64.wrap (s1_0 + (x15.B.length : Int)), IntKind.i64.wrap (s1_1 + 1))))) else some (.inr (.inr ()))) else some (.inr (.inr ())))
noncomputable def f31 (a0 : List Act) : Option Bool := ((loopO (f31_s1 a0) (0, 0)).bind fun y17 => match y17 with | .inl y18 => some y18 | .inr _ => some (decide (150 < (a0.length : Int))))
theorem ok31 (a0 : List Act) (r : Bool) (h : f31 a0 = some r) : PC Try.prog 31 [.sl (List.map encAct a0)] (.val (.bool r)) := by
  rw [f31] at h
  refine pc_of8 (N := 28) (rs := [.tmp 2]) Try.func31 rfl rfl rfl (Nat.le_of_ble_eq_true rfl) ?_
  refine AW.regL [0] ?_
  generalize hK : AW Try.prog _ _ _ = K
  simp only [go_sem, ↓reduceIte, reduceCtorEq, Nat.reduceAdd, Nat.reduceSub, Nat.reduceMul, Nat.reduceEqDiff, Nat.reduceLT, Nat.reduceLeDiff, Nat.reduceBEq, Int.reduceAdd, Int.reduceSub, Int.reduceLT, Int.reduceLE, Int.reduceEq, Int.reduceToNat]
  subst hK
  refine AW.regL [0, 3] ?_
  generalize hK : AW Try.prog _ _ _ = K
  simp only [go_sem, ↓reduceIte, reduceCtorEq, Nat.reduceAdd, Nat.reduceSub, Nat.reduceMul, Nat.reduceEqDiff, Nat.reduceLT, Nat.reduceLeDiff, Nat.reduceBEq, Int.reduceAdd, Int.reduceSub, Int.reduceLT, Int.reduceLE, Int.reduceEq, Int.reduceToNat]
  subst hK
  refine AW.seq ?_
  refine AW.regL [0, 3, 4] ?_
  generalize hK : AW Try.prog _ _ _ = K
  simp only [go_sem, ↓reduceIte, reduceCtorEq, Nat.reduceAdd, Nat.reduceSub, Nat.reduceMul, Nat.reduceEqDiff, Nat.reduceLT, Nat.reduceLeDiff, Nat.reduceBEq, Int.reduceAdd, Int.reduceSub, Int.reduceLT, Int.reduceLE, Int.reduceEq, Int.reduceToNat]
  subst hK
  refine AW.block ?_
  obtain ⟨y17, hy17, h⟩ := Option.bind_eq_some_iff.1 h
  refine AW.loopO (fun s => ⟨(upd (upd (upd anyF 0 (.sl (List.map encAct a0))) 3 (.val (.int .i64 s.1))) 4 (.val (.int .i64 s.2))), hpL [] [], 8⟩) (fun y e st' => match y with | .inl z => e = Exit.ret ∧ finA Try.prog [.tmp 2] (.val (.bool z)) .ret st' | .inr z => e = Exit.exit 0 ∧ st' = ⟨(upd anyF 0 (.sl (List.map encAct a0))), hpL [] [], 8⟩) hy17 ?_ ?_ ?_
  · refine Ent.can [] _ _ _ rfl (by first | decide | simp) rfl ?_ ?_ ?_
    · exact (((RF.any.pv (by first | rfl | simp only [go_sem]) (by first | rfl | simp [upd_ap, hpL_ap, tau, mapT, mapTL, bytesI_len])).pv (by first | rfl | simp only [go_sem]) (by first | rfl | simp [upd_ap, hpL_ap, tau, mapT, mapTL, bytesI_len])).pv (by first | rfl | simp only [go_sem]) (by first | rfl | simp [upd_ap, hpL_ap, tau, mapT, mapTL, bytesI_len]))
    · exact .nil _
    · exact .nil _
  · clear h hy17
    rintro ⟨s1_0, s1_1⟩ x h
    rw [f31_s1] at h
    refine AW.seq ?_
    by_cases c13 : s1_1 < (a0.length : Int)
    · rw [if_pos c13] at h
      refine AW.regL [0, 3, 4, 12] ?_
      generalize hK : AW Try.prog _ _ _ = K
      simp only [go_sem, ↓reduceIte, reduceCtorEq, Nat.reduceAdd, Nat.reduceSub, Nat.reduceMul, Nat.reduceEqDiff, Nat.reduceLT, Nat.reduceLeDiff, Nat.reduceBEq, Int.reduceAdd, Int.reduceSub, Int.reduceLT, Int.reduceLE, Int.reduceEq, Int.reduceToNat, eq_true c13]
      subst hK
      by_cases c14 : s1_1 < 150
      · rw [if_pos c14] at h
        refine AW.ifT rfl c14 ?_
        refine AW.skip ?_
        refine thenA_n ?_
        refine AW.seq ?_
        refine AW.block ?_
        obtain ⟨x15, hx15, h⟩ := Option.bind_eq_some_iff.1 h
        obtain ⟨hx15a, hx15b⟩ := ix_some.1 hx15
        refine AW.regL [0, 3, 4] ?_
        generalize hK : AW Try.prog _ _ _ = K
        simp only [go_sem, ↓reduceIte, reduceCtorEq, Nat.reduceAdd, Nat.reduceSub, Nat.reduceMul, Nat.reduceEqDiff, Nat.reduceLT, Nat.reduceLeDiff, Nat.reduceBEq, Int.reduceAdd, Int.reduceSub, Int.reduceLT, Int.reduceLE, Int.reduceEq, Int.reduceToNat, eq_true c13, eq_true c14, natOf_le hx15a, hx15b]
        subst hK
        refine AW.regL [0, 3, 4, 24] ?_
        generalize hK : AW Try.prog _ _ _ = K
        simp only [go_sem, ↓reduceIte, reduceCtorEq, Nat.reduceAdd, Nat.reduceSub, Nat.reduceMul, Nat.reduceEqDiff, Nat.reduceLT, Nat.reduceLeDiff, Nat.reduceBEq, Int.reduceAdd, Int.reduceSub, Int.reduceLT, Int.reduceLE, Int.reduceEq, Int.reduceToNat, eq_true c13, eq_true c14]
        subst hK
        by_cases c16 : 5000 < (IntKind.i64.wrap (s1_0 + (x15.B.length : Int)))
        · rw [if_pos c16] at h
          refine AW.ifT rfl c16 ?_
          refine AW.regL [2] ?_
          generalize hK : AW Try.prog _ _ _ = K
          simp only [go_sem, ↓reduceIte, reduceCtorEq, Nat.reduceAdd, Nat.reduceSub, Nat.reduceMul, Nat.reduceEqDiff, Nat.reduceLT, Nat.reduceLeDiff, Nat.reduceBEq, Int.reduceAdd, Int.reduceSub, Int.reduceLT, Int.reduceLE, Int.reduceEq, Int.reduceToNat, eq_true c13, eq_true c14, eq_true c16]
          subst hK
          refine AW.ret ?_
          refine block_r ?_
          refine thenA_r ?_
          refine thenA_r ?_
          refine ⟨_, (Option.some.inj h).symm, _, Ent.refl, rfl, ?_⟩
          (simp only [go_sem, ↓reduceIte, reduceCtorEq, Nat.reduceAdd, Nat.reduceSub, Nat.reduceMul, Nat.reduceEqDiff, Nat.reduceLT, Nat.reduceLeDiff, Nat.reduceBEq, Int.reduceAdd, Int.reduceSub, Int.reduceLT, Int.reduceLE, Int.reduceEq, Int.reduceToNat, eq_true c13, eq_true c14, eq_true c16, finA, resA, resOf_1, resOf_2, sealV_val, sealV_sl, sealV_ip, sealV_agg, sealV_tup, sealV_own, sealL_nil, sealL_cons, sealV_clo, resOf_clo] <;> try simp)
        · rw [if_neg c16] at h
          refine AW.ifF rfl c16 ?_
          refine AW.skip ?_
          refine block_n ?_
          refine thenA_n ?_
          refine AW.regionL [0, 3, 4] ?_
          generalize hK : thenA _ _ Exit.normal = K
          simp only [go_sem, ↓reduceIte, reduceCtorEq, Nat.reduceAdd, Nat.reduceSub, Nat.reduceMul, Nat.reduceEqDiff, Nat.reduceLT, Nat.reduceLeDiff, Nat.reduceBEq, Int.reduceAdd, Int.reduceSub, Int.reduceLT, Int.reduceLE, Int.reduceEq, Int.reduceToNat, eq_true c13, eq_true c14, eq_false c16]
          subst hK
          refine thenA_n ?_
          refine ⟨_, (Option.some.inj h).symm, ?_⟩
          refine Ent.can [] _ _ _ rfl (by first | decide | simp) rfl ?_ ?_ ?_
          · exact (((RF.any.pv (by first | rfl | simp only [go_sem]) (by first | rfl | simp [upd_ap, hpL_ap, tau, mapT, mapTL, bytesI_len, eq_true c13, eq_true c14, eq_false c16])).pv (by first | rfl | simp only [go_sem]) (by first | rfl | simp [upd_ap, hpL_ap, tau, mapT, mapTL, bytesI_len, eq_true c13, eq_true c14, eq_false c16])).pv (by first | rfl | simp only [go_sem]) (by first | rfl | simp [upd_ap, hpL_ap, tau, mapT, mapTL, bytesI_len, eq_true c13, eq_true c14, eq_false c16]))
          · exact .nil _
          · exact .nil _
      · rw [if_neg c14] at h
        refine AW.ifF rfl c14 ?_
        refine AW.exit ?_
        refine thenA_x ?_
        refine thenA_x ?_
        refine ⟨_, (Option.some.inj h).symm, _, ?_, rfl, rfl⟩
        refine Ent.can [] _ _ _ rfl (by first | decide | simp) rfl ?_ ?_ ?_
        · exact (RF.any.pv (by first | rfl | simp only [go_sem]) (by first | rfl | simp [upd_ap, hpL_ap, tau, mapT, mapTL, bytesI_len, eq_true c13, eq_false c14]))
        · exact .nil _
        · exact .nil _
    · rw [if_neg c13] at h
      refine AW.regL [0, 3, 4, 12] ?_
      generalize hK : AW Try.prog _ _ _ = K
      simp only [go_sem, ↓reduceIte, reduceCtorEq, Nat.reduceAdd, Nat.reduceSub, Nat.reduceMul, Nat.reduceEqDiff, Nat.reduceLT, Nat.reduceLeDiff, Nat.reduceBEq, Int.reduceAdd, Int.reduceSub, Int.reduceLT, Int.reduceLE, Int.reduceEq, Int.reduceToNat, eq_false c13]
      subst hK
      refine AW.ifBF rfl rfl ?_
      refine AW.exit ?_
      refine thenA_x ?_
      refine thenA_x ?_
      refine ⟨_, (Option.some.inj h).symm, _, ?_, rfl, rfl⟩
      refine Ent.can [] _ _ _ rfl (by first | decide | simp) rfl ?_ ?_ ?_
      · exact (RF.any.pv (by first | rfl | simp only [go_sem]) (by first | rfl | simp [upd_ap, hpL_ap, tau, mapT, mapTL, bytesI_len, eq_false c13]))
      · exact .nil _
      · exact .nil _
  · intro e st' hX
    rcases y17 with y18 | _ <;> dsimp only at h hX
    · obtain ⟨rfl, hf⟩ := hX
      refine ⟨_, Ent.refl, ?_⟩
      refine block_r ?_
      refine thenA_r ?_
      obtain rfl := Option.some.inj h
      exact hf
    · obtain ⟨rfl, rfl⟩ := hX
      refine ⟨_, Ent.refl, ?_⟩
      refine block_x ?_
      refine thenA_n ?_
      refine AW.regL [2] ?_
      generalize hK : AW Try.prog _ _ _ = K
      simp only [go_sem, ↓reduceIte, reduceCtorEq, Nat.reduceAdd, Nat.reduceSub, Nat.reduceMul, Nat.reduceEqDiff, Nat.reduceLT, Nat.reduceLeDiff, Nat.reduceBEq, Int.reduceAdd, Int.reduceSub, Int.reduceLT, Int.reduceLE, Int.reduceEq, Int.reduceToNat]
      subst hK
      refine AW.ret ?_
      obtain rfl := Option.some.inj h
      (simp only [go_sem, ↓reduceIte, reduceCtorEq, Nat.reduceAdd, Nat.reduceSub, Nat.reduceMul, Nat.reduceEqDiff, Nat.reduceLT, Nat.reduceLeDiff, Nat.reduceBEq, Int.reduceAdd, Int.reduceSub, Int.reduceLT, Int.reduceLE, Int.reduceEq, Int.reduceToNat, finA, resA, resOf_1, resOf_2, sealV_val, sealV_sl, sealV_ip, sealV_agg, sealV_tup, sealV_own, sealL_nil, sealL_cons, sealV_clo, resOf_clo] <;> try simp)
end Au
end Go.Proofs.Y1

set_option linter.all false
set_option maxRecDepth 8000
set_option maxHeartbeats 1000000
namespace Go.Proofs.Y1
open Go.Gm
namespace Au
noncomputable def f33 (a0 : Int) (a1 : Int) : Option ((Option Bag) × Int) := (if a0 < 1 then some (none, 1) else (if 8 < a0 then some (none, 1) else (if a1 < 1 then some (none, 1) else (if 512 < a1 then some (none, 1) else some ((some ⟨a0, a1, ⟨false, false, false, false, false, false, false, false⟩, [], 0, 0, 0⟩), 0)))))
theorem ok33 (a0 : Int) (a1 : Int) (r : (Option Bag) × Int) (h : f33 a0 a1 = some r) : IC Try.prog 33 [] [.val (.int .i64 a0), .val (.int .i64 a1)] (match r.1 with | none => .tup [.val (.pointer none), .val (.int .i64 r.2)] | some _ => .tup [.ptr 8 0 0, .val (.int .i64 r.2)]) [] (match r.1 with | none => [] | some b => [some (.row 14 true [[.val (.int .i64 b.nodes), .val (.int .i64 b.most), .val (.bool b.down.e0), .val (.bool b.down.e1), .val (.bool b.down.e2), .val (.bool b.down.e3), .val (.bool b.down.e4), .val (.bool b.down.e5), .val (.bool b.down.e6), .val (.bool b.down.e7), .own 9 0 b.l.length, .val (.int .i64 b.sent), .val (.int .i64 b.taken), .val (.int .i64 b.lost)]]), some (.row 3 true (List.map encMsg b.l))]) := by
  rw [f33] at h
  refine ic_of (N := 24) (rs := [.tmp 4, .tmp 5]) Try.func33 rfl rfl rfl (Nat.le_of_ble_eq_true rfl) ?_
  refine AW.regL [0, 1] ?_
  generalize hK : AW Try.prog _ _ _ = K
  simp only [go_sem, ↓reduceIte, reduceCtorEq, Nat.reduceAdd, Nat.reduceSub, Nat.reduceMul, Nat.reduceEqDiff, Nat.reduceLT, Nat.reduceLeDiff, Nat.reduceBEq, Int.reduceAdd, Int.reduceSub, Int.reduceLT, Int.reduceLE, Int.reduceEq, Int.reduceToNat]
  subst hK
  refine AW.seq ?_
  by_cases c1 : a0 < 1
  · rw [if_pos c1] at h
    refine AW.regL [0, 1, 19] ?_
    generalize hK : AW Try.prog _ _ _ = K
    simp only [go_sem, ↓reduceIte, reduceCtorEq, Nat.reduceAdd, Nat.reduceSub, Nat.reduceMul, Nat.reduceEqDiff, Nat.reduceLT, Nat.reduceLeDiff, Nat.reduceBEq, Int.reduceAdd, Int.reduceSub, Int.reduceLT, Int.reduceLE, Int.reduceEq, Int.reduceToNat, eq_true c1]
    subst hK
    refine AW.ifBT rfl rfl ?_
    refine AW.regL [4, 5] ?_
    generalize hK : AW Try.prog _ _ _ = K
    simp only [go_sem, ↓reduceIte, reduceCtorEq, Nat.reduceAdd, Nat.reduceSub, Nat.reduceMul, Nat.reduceEqDiff, Nat.reduceLT, Nat.reduceLeDiff, Nat.reduceBEq, Int.reduceAdd, Int.reduceSub, Int.reduceLT, Int.reduceLE, Int.reduceEq, Int.reduceToNat, eq_true c1]
    subst hK
    refine AW.ent (st' := ⟨(upd (upd anyF 4 (.val (.pointer none))) 5 (.val (.int .i64 1))), hpL [] [], 8⟩) ?_ ?_
    · refine Ent.can [] _ _ _ rfl (by first | decide | simp) rfl ?_ ?_ ?_
      · exact ((RF.any.pv (by first | rfl | simp only [go_sem]) (by first | rfl | simp [upd_ap, hpL_ap, tau, mapT, mapTL, bytesI_len, eq_true c1])).pv (by first | rfl | simp only [go_sem]) (by first | rfl | simp [upd_ap, hpL_ap, tau, mapT, mapTL, bytesI_len, eq_true c1]))
      · exact .nil _
      · exact .nil _
    refine AW.ret ?_
    refine thenA_r ?_
    obtain rfl := Option.some.inj h
    exact ⟨rfl, rfl, _, rfl, by first | rfl | simp [resOf, upd_ap, bytesI_len]⟩
  · rw [if_neg c1] at h
    by_cases c2 : 8 < a0
    · rw [if_pos c2] at h
      refine AW.regL [0, 1, 19] ?_
      generalize hK : AW Try.prog _ _ _ = K
      simp only [go_sem, ↓reduceIte, reduceCtorEq, Nat.reduceAdd, Nat.reduceSub, Nat.reduceMul, Nat.reduceEqDiff, Nat.reduceLT, Nat.reduceLeDiff, Nat.reduceBEq, Int.reduceAdd, Int.reduceSub, Int.reduceLT, Int.reduceLE, Int.reduceEq, Int.reduceToNat, eq_false c1, eq_true c2]
      subst hK
      refine AW.ifBT rfl rfl ?_
      refine AW.regL [4, 5] ?_
      generalize hK : AW Try.prog _ _ _ = K
      simp only [go_sem, ↓reduceIte, reduceCtorEq, Nat.reduceAdd, Nat.reduceSub, Nat.reduceMul, Nat.reduceEqDiff, Nat.reduceLT, Nat.reduceLeDiff, Nat.reduceBEq, Int.reduceAdd, Int.reduceSub, Int.reduceLT, Int.reduceLE, Int.reduceEq, Int.reduceToNat, eq_false c1, eq_true c2]
      subst hK
      refine AW.ent (st' := ⟨(upd (upd anyF 4 (.val (.pointer none))) 5 (.val (.int .i64 1))), hpL [] [], 8⟩) ?_ ?_
      · refine Ent.can [] _ _ _ rfl (by first | decide | simp) rfl ?_ ?_ ?_
        · exact ((RF.any.pv (by first | rfl | simp only [go_sem]) (by first | rfl | simp [upd_ap, hpL_ap, tau, mapT, mapTL, bytesI_len, eq_false c1, eq_true c2])).pv (by first | rfl | simp only [go_sem]) (by first | rfl | simp [upd_ap, hpL_ap, tau, mapT, mapTL, bytesI_len, eq_false c1, eq_true c2]))
        · exact .nil _
        · exact .nil _
      refine AW.ret ?_
      refine thenA_r ?_
      obtain rfl := Option.some.inj h
      exact ⟨rfl, rfl, _, rfl, by first | rfl | simp [resOf, upd_ap, bytesI_len]⟩
    · rw [if_neg c2] at h
      by_cases c3 : a1 < 1
      · rw [if_pos c3] at h
        refine AW.regL [0, 1, 19] ?_
        generalize hK : AW Try.prog _ _ _ = K
        simp only [go_sem, ↓reduceIte, reduceCtorEq, Nat.reduceAdd, Nat.reduceSub, Nat.reduceMul, Nat.reduceEqDiff, Nat.reduceLT, Nat.reduceLeDiff, Nat.reduceBEq, Int.reduceAdd, Int.reduceSub, Int.reduceLT, Int.reduceLE, Int.reduceEq, Int.reduceToNat, eq_false c1, eq_false c2, eq_true c3]
        subst hK
        refine AW.ifBT rfl rfl ?_
        refine AW.regL [4, 5] ?_
        generalize hK : AW Try.prog _ _ _ = K
        simp only [go_sem, ↓reduceIte, reduceCtorEq, Nat.reduceAdd, Nat.reduceSub, Nat.reduceMul, Nat.reduceEqDiff, Nat.reduceLT, Nat.reduceLeDiff, Nat.reduceBEq, Int.reduceAdd, Int.reduceSub, Int.reduceLT, Int.reduceLE, Int.reduceEq, Int.reduceToNat, eq_false c1, eq_false c2, eq_true c3]
        subst hK
        refine AW.ent (st' := ⟨(upd (upd anyF 4 (.val (.pointer none))) 5 (.val (.int .i64 1))), hpL [] [], 8⟩) ?_ ?_
        · refine Ent.can [] _ _ _ rfl (by first | decide | simp) rfl ?_ ?_ ?_
          · exact ((RF.any.pv (by first | rfl | simp only [go_sem]) (by first | rfl | simp [upd_ap, hpL_ap, tau, mapT, mapTL, bytesI_len, eq_false c1, eq_false c2, eq_true c3])).pv (by first | rfl | simp only [go_sem]) (by first | rfl | simp [upd_ap, hpL_ap, tau, mapT, mapTL, bytesI_len, eq_false c1, eq_false c2, eq_true c3]))
          · exact .nil _
          · exact .nil _
        refine AW.ret ?_
        refine thenA_r ?_
        obtain rfl := Option.some.inj h
        exact ⟨rfl, rfl, _, rfl, by first | rfl | simp [resOf, upd_ap, bytesI_len]⟩
      · rw [if_neg c3] at h
        refine AW.regL [0, 1, 19] ?_
        generalize hK : AW Try.prog _ _ _ = K
        simp only [go_sem, ↓reduceIte, reduceCtorEq, Nat.reduceAdd, Nat.reduceSub, Nat.reduceMul, Nat.reduceEqDiff, Nat.reduceLT, Nat.reduceLeDiff, Nat.reduceBEq, Int.reduceAdd, Int.reduceSub, Int.reduceLT, Int.reduceLE, Int.reduceEq, Int.reduceToNat, eq_false c1, eq_false c2, eq_false c3]
        subst hK
        by_cases c4 : 512 < a1
        · rw [if_pos c4] at h
          refine AW.ifT rfl c4 ?_
          refine AW.regL [4, 5] ?_
          generalize hK : AW Try.prog _ _ _ = K
          simp only [go_sem, ↓reduceIte, reduceCtorEq, Nat.reduceAdd, Nat.reduceSub, Nat.reduceMul, Nat.reduceEqDiff, Nat.reduceLT, Nat.reduceLeDiff, Nat.reduceBEq, Int.reduceAdd, Int.reduceSub, Int.reduceLT, Int.reduceLE, Int.reduceEq, Int.reduceToNat, eq_false c1, eq_false c2, eq_false c3, eq_true c4]
          subst hK
          refine AW.ent (st' := ⟨(upd (upd anyF 4 (.val (.pointer none))) 5 (.val (.int .i64 1))), hpL [] [], 8⟩) ?_ ?_
          · refine Ent.can [] _ _ _ rfl (by first | decide | simp) rfl ?_ ?_ ?_
            · exact ((RF.any.pv (by first | rfl | simp only [go_sem]) (by first | rfl | simp [upd_ap, hpL_ap, tau, mapT, mapTL, bytesI_len, eq_false c1, eq_false c2, eq_false c3, eq_true c4])).pv (by first | rfl | simp only [go_sem]) (by first | rfl | simp [upd_ap, hpL_ap, tau, mapT, mapTL, bytesI_len, eq_false c1, eq_false c2, eq_false c3, eq_true c4]))
            · exact .nil _
            · exact .nil _
          refine AW.ret ?_
          refine thenA_r ?_
          obtain rfl := Option.some.inj h
          exact ⟨rfl, rfl, _, rfl, by first | rfl | simp [resOf, upd_ap, bytesI_len]⟩
        · rw [if_neg c4] at h
          refine AW.ifF rfl c4 ?_
          refine AW.skip ?_
          refine thenA_n ?_
          refine AW.regL [4, 5] ?_
          generalize hK : AW Try.prog _ _ _ = K
          simp only [go_sem, ↓reduceIte, reduceCtorEq, Nat.reduceAdd, Nat.reduceSub, Nat.reduceMul, Nat.reduceEqDiff, Nat.reduceLT, Nat.reduceLeDiff, Nat.reduceBEq, Int.reduceAdd, Int.reduceSub, Int.reduceLT, Int.reduceLE, Int.reduceEq, Int.reduceToNat, eq_false c1, eq_false c2, eq_false c3, eq_false c4]
          subst hK
          refine AW.ent (Ent.nilCell 160 10 3 (by decide) (by first | rfl | simp [upd_ap, hpL_ap]) rfl) ?_
          refine AW.ent (st' := ⟨(upd (upd anyF 4 (.ptr 8 0 0)) 5 (.val (.int .i64 0))), hpL [] [some (.row 14 true [[.val (.int .i64 a0), .val (.int .i64 a1), .val (.bool false), .val (.bool false), .val (.bool false), .val (.bool false), .val (.bool false), .val (.bool false), .val (.bool false), .val (.bool false), .own 9 0 0, .val (.int .i64 0), .val (.int .i64 0), .val (.int .i64 0)]]), some (.row 3 true [])], 10⟩) ?_ ?_
          · refine Ent.can [160, 184] _ _ _ rfl (by first | decide | simp) rfl ?_ ?_ ?_
            · exact ((RF.any.pp (by decide) (by first | rfl | simp [upd_ap, hpL_ap, tau, mapT, mapTL, bytesI_len, eq_false c1, eq_false c2, eq_false c3, eq_false c4])).pv (by first | rfl | simp only [go_sem]) (by first | rfl | simp [upd_ap, hpL_ap, tau, mapT, mapTL, bytesI_len, eq_false c1, eq_false c2, eq_false c3, eq_false c4]))
            · exact .nil _
            · exact .cons (.tok (by simp [tokL, tokLL, inlR]) (by first | rfl | simp [upd_ap, hpL_ap, tau, mapT, mapTL, bytesI_len, eq_false c1, eq_false c2, eq_false c3, eq_false c4])) (.cons (.eq (by first | rfl | simp only [go_sem]) (by first | rfl | simp [upd_ap, hpL_ap, tau, mapT, mapTL, bytesI_len, eq_false c1, eq_false c2, eq_false c3, eq_false c4])) (.nil _))
          refine AW.ret ?_
          obtain rfl := Option.some.inj h
          exact ⟨rfl, rfl, _, rfl, by first | rfl | simp [resOf, upd_ap, bytesI_len]⟩
end Au
end Go.Proofs.Y1

set_option linter.all false
set_option maxRecDepth 8000
set_option maxHeartbeats 1000000
namespace Go.Proofs.Y1
open Go.Gm
namespace Au
noncomputable def f34 (a0 : Int) : Option Int := some a0
theorem ok34 (a0 : Int) (r : Int) (h : f34 a0 = some r) : PC Try.prog 34 [.val (.int .i64 a0)] (.val (.int .i64 r)) := by
  rw [f34] at h
  refine pc_of8 (N := 4) (rs := [.tmp 2]) Try.func34 rfl rfl rfl (Nat.le_of_ble_eq_true rfl) ?_
  refine AW.regL [0] ?_
  generalize hK : AW Try.prog _ _ _ = K
  simp only [go_sem, ↓reduceIte, reduceCtorEq, Nat.reduceAdd, Nat.reduceSub, Nat.reduceMul, Nat.reduceEqDiff, Nat.reduceLT, Nat.reduceLeDiff, Nat.reduceBEq, Int.reduceAdd, Int.reduceSub, Int.reduceLT, Int.reduceLE, Int.reduceEq, Int.reduceToNat]
  subst hK
  refine AW.regL [2] ?_
  generalize hK : AW Try.prog _ _ _ = K
  simp only [go_sem, ↓reduceIte, reduceCtorEq, Nat.reduceAdd, Nat.reduceSub, Nat.reduceMul, Nat.reduceEqDiff, Nat.reduceLT, Nat.reduceLeDiff, Nat.reduceBEq, Int.reduceAdd, Int.reduceSub, Int.reduceLT, Int.reduceLE, Int.reduceEq, Int.reduceToNat]
  subst hK
  refine AW.ret ?_
  obtain rfl := Option.some.inj h
  (simp only [go_sem, ↓reduceIte, reduceCtorEq, Nat.reduceAdd, Nat.reduceSub, Nat.reduceMul, Nat.reduceEqDiff, Nat.reduceLT, Nat.reduceLeDiff, Nat.reduceBEq, Int.reduceAdd, Int.reduceSub, Int.reduceLT, Int.reduceLE, Int.reduceEq, Int.reduceToNat, finA, resA, resOf_1, resOf_2, sealV_val, sealV_sl, sealV_ip, sealV_agg, sealV_tup, sealV_own, sealL_nil, sealL_cons, sealV_clo, resOf_clo] <;> try simp)
end Au
end Go.Proofs.Y1

set_option linter.all false
set_option maxRecDepth 8000
set_option maxHeartbeats 1000000
namespace Go.Proofs.Y1
open Go.Gm
namespace Au
noncomputable def f85 (a0 : Bag) (a1 : Int) : Option (Bool × Bag) := (if 0 ≤ a1 then some (decide (a1 < a0.nodes), a0) else some (false, a0))
theorem ok85 (a0 : Bag) (a1 : Int) (r : Bool × Bag) (h : f85 a0 a1 = some r) : IC Try.prog 85 [some (.row 14 true [[.val (.int .i64 a0.nodes), .val (.int .i64 a0.most), .val (.bool a0.down.e0), .val (.bool a0.down.e1), .val (.bool a0.down.e2), .val (.bool a0.down.e3), .val (.bool a0.down.e4), .val (.bool a0.down.e5), .val (.bool a0.down.e6), .val (.bool a0.down.e7), .own 1 0 a0.l.length, .val (.int .i64 a0.sent), .val (.int .i64 a0.taken), .val (.int .i64 a0.lost)]]), some (.row 3 true (List.map encMsg a0.l))] [.ptr 0 0 0, .val (.int .i64 a1)] (.val (.bool r.1)) [some (.row 14 true [[.val (.int .i64 r.2.nodes), .val (.int .i64 r.2.most), .val (.bool r.2.down.e0), .val (.bool r.2.down.e1), .val (.bool r.2.down.e2), .val (.bool r.2.down.e3), .val (.bool r.2.down.e4), .val (.bool r.2.down.e5), .val (.bool r.2.down.e6), .val (.bool r.2.down.e7), .own 1 0 r.2.l.length, .val (.int .i64 r.2.sent), .val (.int .i64 r.2.taken), .val (.int .i64 r.2.lost)]]), some (.row 3 true (List.map encMsg r.2.l))] [] := by
  rw [f85] at h
  refine ic_of (N := 15) (rs := [.tmp 4]) Try.func85 rfl rfl rfl (Nat.le_of_ble_eq_true rfl) ?_
  refine AW.regL [0, 1] ?_
  generalize hK : AW Try.prog _ _ _ = K
  simp only [go_sem, ↓reduceIte, reduceCtorEq, Nat.reduceAdd, Nat.reduceSub, Nat.reduceMul, Nat.reduceEqDiff, Nat.reduceLT, Nat.reduceLeDiff, Nat.reduceBEq, Int.reduceAdd, Int.reduceSub, Int.reduceLT, Int.reduceLE, Int.reduceEq, Int.reduceToNat]
  subst hK
  by_cases c1 : 0 ≤ a1
  · rw [if_pos c1] at h
    refine AW.regL [4] ?_
    generalize hK : AW Try.prog _ _ _ = K
    simp only [go_sem, ↓reduceIte, reduceCtorEq, Nat.reduceAdd, Nat.reduceSub, Nat.reduceMul, Nat.reduceEqDiff, Nat.reduceLT, Nat.reduceLeDiff, Nat.reduceBEq, Int.reduceAdd, Int.reduceSub, Int.reduceLT, Int.reduceLE, Int.reduceEq, Int.reduceToNat, eq_true c1]
    subst hK
    refine AW.ent (st' := ⟨(upd anyF 4 (.val (.bool (decide (a1 < a0.nodes))))), hpL [some (.row 14 true [[.val (.int .i64 a0.nodes), .val (.int .i64 a0.most), .val (.bool a0.down.e0), .val (.bool a0.down.e1), .val (.bool a0.down.e2), .val (.bool a0.down.e3), .val (.bool a0.down.e4), .val (.bool a0.down.e5), .val (.bool a0.down.e6), .val (.bool a0.down.e7), .own 1 0 a0.l.length, .val (.int .i64 a0.sent), .val (.int .i64 a0.taken), .val (.int .i64 a0.lost)]]), some (.row 3 true (List.map encMsg a0.l))] [], 8⟩) ?_ ?_
    · refine Ent.can [] _ _ _ rfl (by first | decide | simp) rfl ?_ ?_ ?_
      · exact (RF.any.pv (by first | rfl | simp only [go_sem]) (by first | rfl | simp [upd_ap, hpL_ap, tau, mapT, mapTL, bytesI_len, eq_true c1]))
      · exact .cons (.tok (by simp [tokL, tokLL, inlR]) (by first | rfl | simp [upd_ap, hpL_ap, tau, mapT, mapTL, bytesI_len, eq_true c1])) (.cons (.eq (by first | rfl | simp only [go_sem]) (by first | rfl | simp [upd_ap, hpL_ap, tau, mapT, mapTL, bytesI_len, eq_true c1])) (.nil _))
      · exact .nil _
    refine AW.ret ?_
    obtain rfl := Option.some.inj h
    exact ⟨rfl, rfl, _, rfl, by first | rfl | simp [resOf, upd_ap, bytesI_len]⟩
  · rw [if_neg c1] at h
    refine AW.regL [4] ?_
    generalize hK : AW Try.prog _ _ _ = K
    simp only [go_sem, ↓reduceIte, reduceCtorEq, Nat.reduceAdd, Nat.reduceSub, Nat.reduceMul, Nat.reduceEqDiff, Nat.reduceLT, Nat.reduceLeDiff, Nat.reduceBEq, Int.reduceAdd, Int.reduceSub, Int.reduceLT, Int.reduceLE, Int.reduceEq, Int.reduceToNat, eq_false c1]
    subst hK
    refine AW.ent (st' := ⟨(upd anyF 4 (.val (.bool false))), hpL [some (.row 14 true [[.val (.int .i64 a0.nodes), .val (.int .i64 a0.most), .val (.bool a0.down.e0), .val (.bool a0.down.e1), .val (.bool a0.down.e2), .val (.bool a0.down.e3), .val (.bool a0.down.e4), .val (.bool a0.down.e5), .val (.bool a0.down.e6), .val (.bool a0.down.e7), .own 1 0 a0.l.length, .val (.int .i64 a0.sent), .val (.int .i64 a0.taken), .val (.int .i64 a0.lost)]]), some (.row 3 true (List.map encMsg a0.l))] [], 8⟩) ?_ ?_
    · refine Ent.can [] _ _ _ rfl (by first | decide | simp) rfl ?_ ?_ ?_
      · exact (RF.any.pv (by first | rfl | simp only [go_sem]) (by first | rfl | simp [upd_ap, hpL_ap, tau, mapT, mapTL, bytesI_len, eq_false c1]))
      · exact .cons (.tok (by simp [tokL, tokLL, inlR]) (by first | rfl | simp [upd_ap, hpL_ap, tau, mapT, mapTL, bytesI_len, eq_false c1])) (.cons (.eq (by first | rfl | simp only [go_sem]) (by first | rfl | simp [upd_ap, hpL_ap, tau, mapT, mapTL, bytesI_len, eq_false c1])) (.nil _))
      · exact .nil _
    refine AW.ret ?_
    obtain rfl := Option.some.inj h
    exact ⟨rfl, rfl, _, rfl, by first | rfl | simp [resOf, upd_ap, bytesI_len]⟩
end Au
end Go.Proofs.Y1

set_option linter.all false
set_option maxRecDepth 8000
set_option maxHeartbeats 1000000
namespace Go.Proofs.Y1
open Go.Gm
namespace Au
noncomputable def f121 (a0 : List Int) : Option (List Int) := appO? [] a0
theorem ok121 (a0 : List Int) (r : List Int) (h : f121 a0 = some r) : PC Try.prog 121 [.sl (List.map enc5 a0)] (.fr 1 (List.map enc5 r)) := by
  obtain ⟨hl, hr⟩ := appO?_some.1 h
  rw [List.nil_append] at hr
  subst hr
  have hb : a0.length ≤ 34359738368 := by simpa using hl
  refine pc_of (N := 8) (rs := [.tmp 2]) Try.func121 rfl rfl rfl (Nat.le_of_ble_eq_true rfl) ?_
  refine AW.reg ?_
  generalize hK : AW Try.prog _ _ _ = K
  simp only [go_sem, ↓reduceIte, reduceCtorEq, Nat.reduceAdd, Nat.reduceSub, Nat.reduceMul, Nat.reduceEqDiff, Nat.reduceLT, Nat.reduceLeDiff, Nat.reduceBEq, Int.reduceAdd, Int.reduceSub, Int.reduceLT, Int.reduceLE, Int.reduceEq, Int.reduceToNat]
  subst hK
  refine AW.seq ?_
  refine AW.nilq el41 rfl (by decide) (by decide) (fun bn hbn => ?_)
  refine AW.if rfl (fun hc4 => ?_) (fun hc4 => ?_)
  · have hl0 : a0 = [] := by simpa using hbn (by simpa using hc4)
    subst hl0
    refine AW.reg ?_
    generalize hK : AW Try.prog _ _ _ = K
    simp only [go_sem, ↓reduceIte, reduceCtorEq, Nat.reduceAdd, Nat.reduceSub, Nat.reduceMul, Nat.reduceEqDiff, Nat.reduceLT, Nat.reduceLeDiff, Nat.reduceBEq, Int.reduceAdd, Int.reduceSub, Int.reduceLT, Int.reduceLE, Int.reduceEq, Int.reduceToNat]
    subst hK
    refine AW.ent (Ent.nilOwn 2 1 (by decide) rfl) ?_
    refine AW.ret ?_
    refine thenA_r ?_
    exact fin_own (.inl rfl) rfl (by simp only [upd_ap, if_true]; rfl) rfl rfl rfl
  · refine AW.skip ?_
    refine thenA_n ?_
    refine AW.reg ?_
    generalize hK : AW Try.prog _ _ _ = K
    simp (disch := first | omega | (simp only [List.length_map, List.length_cons, List.length_nil, List.length_append] <;> omega)) only [go_sem, ↓reduceIte, reduceCtorEq, Nat.reduceAdd, Nat.reduceSub, Nat.reduceMul, Nat.reduceEqDiff, Nat.reduceLT, Nat.reduceLeDiff, Nat.reduceBEq, Int.reduceAdd, Int.reduceSub, Int.reduceLT, Int.reduceLE, Int.reduceEq, Int.reduceToNat]
    subst hK
    refine AW.ret ?_
    exact fin_own (.inl rfl) rfl (by simp only [upd_ap]; rfl) (by simp) (by simp only [go_sem]) rfl

end Au
end Go.Proofs.Y1

set_option linter.all false
set_option maxRecDepth 8000
set_option maxHeartbeats 1000000
namespace Go.Proofs.Y1
open Go.Gm
namespace Au
noncomputable def f83 (a0 : Msg) : Option Msg := ((f121 a0.Data).bind fun x1 => some ⟨a0.From, a0.To, x1⟩)
theorem ok83 (a0 : Msg) (r : Msg) (h : f83 a0 = some r) : PC Try.prog 83 [.agg (encMsg a0)] (.agg (encMsg r)) := by
  rw [f83] at h
  refine pc_of8 (N := 8) (rs := [.cell 2 64]) Try.func83 rfl rfl rfl (Nat.le_of_ble_eq_true rfl) ?_
  refine AW.regL [1, 2] ?_
  generalize hK : AW Try.prog _ _ _ = K
  simp only [go_sem, ↓reduceIte, reduceCtorEq, Nat.reduceAdd, Nat.reduceSub, Nat.reduceMul, Nat.reduceEqDiff, Nat.reduceLT, Nat.reduceLeDiff, Nat.reduceBEq, Int.reduceAdd, Int.reduceSub, Int.reduceLT, Int.reduceLE, Int.reduceEq, Int.reduceToNat]
  subst hK
  obtain ⟨x1, hx1, h⟩ := Option.bind_eq_some_iff.1 h
  refine AW.regL [1, 2] ?_
  generalize hK : AW Try.prog _ _ _ = K
  simp only [go_sem, ↓reduceIte, reduceCtorEq, Nat.reduceAdd, Nat.reduceSub, Nat.reduceMul, Nat.reduceEqDiff, Nat.reduceLT, Nat.reduceLeDiff, Nat.reduceBEq, Int.reduceAdd, Int.reduceSub, Int.reduceLT, Int.reduceLE, Int.reduceEq, Int.reduceToNat]
  refine arC.of (ok121 a0.Data x1 hx1) Try.call121 ?_
  simp only [go_sem, ↓reduceIte, reduceCtorEq, Nat.reduceAdd, Nat.reduceSub, Nat.reduceMul, Nat.reduceEqDiff, Nat.reduceLT, Nat.reduceLeDiff, Nat.reduceBEq, Int.reduceAdd, Int.reduceSub, Int.reduceLT, Int.reduceLE, Int.reduceEq, Int.reduceToNat]
  subst hK
  refine AW.regL [2] ?_
  generalize hK : AW Try.prog _ _ _ = K
  simp only [go_sem, ↓reduceIte, reduceCtorEq, Nat.reduceAdd, Nat.reduceSub, Nat.reduceMul, Nat.reduceEqDiff, Nat.reduceLT, Nat.reduceLeDiff, Nat.reduceBEq, Int.reduceAdd, Int.reduceSub, Int.reduceLT, Int.reduceLE, Int.reduceEq, Int.reduceToNat]
  subst hK
  refine AW.ent (Ent.stillObj (pre := [.val (.int .i64 a0.From), .val (.int .i64 a0.To)]) (post := []) (q := 40) (off := 0) (len := x1.length) 16 rfl (own_sl (sz := 1) (m := true) rfl (by first | rfl | simp [bytesI_len]) (by simp only [go_sem])) (by decide)) ?_
  refine AW.ret ?_
  obtain rfl := Option.some.inj h
  (simp only [go_sem, ↓reduceIte, reduceCtorEq, Nat.reduceAdd, Nat.reduceSub, Nat.reduceMul, Nat.reduceEqDiff, Nat.reduceLT, Nat.reduceLeDiff, Nat.reduceBEq, Int.reduceAdd, Int.reduceSub, Int.reduceLT, Int.reduceLE, Int.reduceEq, Int.reduceToNat, finA, resA, resOf_1, resOf_2, sealV_val, sealV_sl, sealV_ip, sealV_agg, sealV_tup, sealV_own, sealL_nil, sealL_cons, sealV_clo, resOf_clo] <;> try simp)
end Au
end Go.Proofs.Y1

set_option linter.all false
set_option maxRecDepth 8000
set_option maxHeartbeats 1000000
namespace Go.Proofs.Y1
open Go.Gm
namespace Au
noncomputable def f81 (a0 : Bag) (a1 : Int) : Option (Bool × Bag) := (if 0 ≤ a1 then some (decide (a1 < ((a0.l.length : Nat) : Int)), a0) else some (false, a0))
theorem ok81 (a0 : Bag) (a1 : Int) (r : Bool × Bag) (h : f81 a0 a1 = some r) : IC Try.prog 81 [some (.row 14 true [[.val (.int .i64 a0.nodes), .val (.int .i64 a0.most), .val (.bool a0.down.e0), .val (.bool a0.down.e1), .val (.bool a0.down.e2), .val (.bool a0.down.e3), .val (.bool a0.down.e4), .val (.bool a0.down.e5), .val (.bool a0.down.e6), .val (.bool a0.down.e7), .own 1 0 a0.l.length, .val (.int .i64 a0.sent), .val (.int .i64 a0.taken), .val (.int .i64 a0.lost)]]), some (.row 3 true (List.map encMsg a0.l))] [.ptr 0 0 0, .val (.int .i64 a1)] (.val (.bool r.1)) [some (.row 14 true [[.val (.int .i64 r.2.nodes), .val (.int .i64 r.2.most), .val (.bool r.2.down.e0), .val (.bool r.2.down.e1), .val (.bool r.2.down.e2), .val (.bool r.2.down.e3), .val (.bool r.2.down.e4), .val (.bool r.2.down.e5), .val (.bool r.2.down.e6), .val (.bool r.2.down.e7), .own 1 0 r.2.l.length, .val (.int .i64 r.2.sent), .val (.int .i64 r.2.taken), .val (.int .i64 r.2.lost)]]), some (.row 3 true (List.map encMsg r.2.l))] [] := by
  rw [f81] at h
  refine ic_of (N := 20) (rs := [.tmp 4]) Try.func81 rfl rfl rfl (Nat.le_of_ble_eq_true rfl) ?_
  refine AW.regL [0, 1] ?_
  generalize hK : AW Try.prog _ _ _ = K
  simp only [go_sem, ↓reduceIte, reduceCtorEq, Nat.reduceAdd, Nat.reduceSub, Nat.reduceMul, Nat.reduceEqDiff, Nat.reduceLT, Nat.reduceLeDiff, Nat.reduceBEq, Int.reduceAdd, Int.reduceSub, Int.reduceLT, Int.reduceLE, Int.reduceEq, Int.reduceToNat]
  subst hK
  by_cases c1 : 0 ≤ a1
  · rw [if_pos c1] at h
    refine AW.regL [4] ?_
    generalize hK : AW Try.prog _ _ _ = K
    simp only [go_sem, ↓reduceIte, reduceCtorEq, Nat.reduceAdd, Nat.reduceSub, Nat.reduceMul, Nat.reduceEqDiff, Nat.reduceLT, Nat.reduceLeDiff, Nat.reduceBEq, Int.reduceAdd, Int.reduceSub, Int.reduceLT, Int.reduceLE, Int.reduceEq, Int.reduceToNat, eq_true c1]
    subst hK
    refine AW.ent (st' := ⟨(upd anyF 4 (.val (.bool (decide (a1 < ((a0.l.length : Nat) : Int)))))), hpL [some (.row 14 true [[.val (.int .i64 a0.nodes), .val (.int .i64 a0.most), .val (.bool a0.down.e0), .val (.bool a0.down.e1), .val (.bool a0.down.e2), .val (.bool a0.down.e3), .val (.bool a0.down.e4), .val (.bool a0.down.e5), .val (.bool a0.down.e6), .val (.bool a0.down.e7), .own 1 0 a0.l.length, .val (.int .i64 a0.sent), .val (.int .i64 a0.taken), .val (.int .i64 a0.lost)]]), some (.row 3 true (List.map encMsg a0.l))] [], 8⟩) ?_ ?_
    · refine Ent.can [] _ _ _ rfl (by first | decide | simp) rfl ?_ ?_ ?_
      · exact (RF.any.pv (by first | rfl | simp only [go_sem]) (by first | rfl | simp [upd_ap, hpL_ap, tau, mapT, mapTL, bytesI_len, eq_true c1]))
      · exact .cons (.tok (by simp [tokL, tokLL, inlR]) (by first | rfl | simp [upd_ap, hpL_ap, tau, mapT, mapTL, bytesI_len, eq_true c1])) (.cons (.eq (by first | rfl | simp only [go_sem]) (by first | rfl | simp [upd_ap, hpL_ap, tau, mapT, mapTL, bytesI_len, eq_true c1])) (.nil _))
      · exact .nil _
    refine AW.ret ?_
    obtain rfl := Option.some.inj h
    exact ⟨rfl, rfl, _, rfl, by first | rfl | simp [resOf, upd_ap, bytesI_len]⟩
  · rw [if_neg c1] at h
    refine AW.regL [4] ?_
    generalize hK : AW Try.prog _ _ _ = K
    simp only [go_sem, ↓reduceIte, reduceCtorEq, Nat.reduceAdd, Nat.reduceSub, Nat.reduceMul, Nat.reduceEqDiff, Nat.reduceLT, Nat.reduceLeDiff, Nat.reduceBEq, Int.reduceAdd, Int.reduceSub, Int.reduceLT, Int.reduceLE, Int.reduceEq, Int.reduceToNat, eq_false c1]
    subst hK
    refine AW.ent (st' := ⟨(upd anyF 4 (.val (.bool false))), hpL [some (.row 14 true [[.val (.int .i64 a0.nodes), .val (.int .i64 a0.most), .val (.bool a0.down.e0), .val (.bool a0.down.e1), .val (.bool a0.down.e2), .val (.bool a0.down.e3), .val (.bool a0.down.e4), .val (.bool a0.down.e5), .val (.bool a0.down.e6), .val (.bool a0.down.e7), .own 1 0 a0.l.length, .val (.int .i64 a0.sent), .val (.int .i64 a0.taken), .val (.int .i64 a0.lost)]]), some (.row 3 true (List.map encMsg a0.l))] [], 8⟩) ?_ ?_
    · refine Ent.can [] _ _ _ rfl (by first | decide | simp) rfl ?_ ?_ ?_
      · exact (RF.any.pv (by first | rfl | simp only [go_sem]) (by first | rfl | simp [upd_ap, hpL_ap, tau, mapT, mapTL, bytesI_len, eq_false c1]))
      · exact .cons (.tok (by simp [tokL, tokLL, inlR]) (by first | rfl | simp [upd_ap, hpL_ap, tau, mapT, mapTL, bytesI_len, eq_false c1])) (.cons (.eq (by first | rfl | simp only [go_sem]) (by first | rfl | simp [upd_ap, hpL_ap, tau, mapT, mapTL, bytesI_len, eq_false c1])) (.nil _))
      · exact .nil _
    refine AW.ret ?_
    obtain rfl := Option.some.inj h
    exact ⟨rfl, rfl, _, rfl, by first | rfl | simp [resOf, upd_ap, bytesI_len]⟩
end Au
end Go.Proofs.Y1

set_option linter.all false
set_option maxRecDepth 8000
set_option maxHeartbeats 1000000
namespace Go.Proofs.Y1
open Go.Gm
namespace Au
noncomputable def f43 (a0 : Bag) : Option (Int × Bag) := some (((a0.l.length : Nat) : Int), a0)
theorem ok43 (a0 : Bag) (r : Int × Bag) (h : f43 a0 = some r) : IC Try.prog 43 [some (.row 14 true [[.val (.int .i64 a0.nodes), .val (.int .i64 a0.most), .val (.bool a0.down.e0), .val (.bool a0.down.e1), .val (.bool a0.down.e2), .val (.bool a0.down.e3), .val (.bool a0.down.e4), .val (.bool a0.down.e5), .val (.bool a0.down.e6), .val (.bool a0.down.e7), .own 1 0 a0.l.length, .val (.int .i64 a0.sent), .val (.int .i64 a0.taken), .val (.int .i64 a0.lost)]]), some (.row 3 true (List.map encMsg a0.l))] [.ptr 0 0 0] (.val (.int .i64 r.1)) [some (.row 14 true [[.val (.int .i64 r.2.nodes), .val (.int .i64 r.2.most), .val (.bool r.2.down.e0), .val (.bool r.2.down.e1), .val (.bool r.2.down.e2), .val (.bool r.2.down.e3), .val (.bool r.2.down.e4), .val (.bool r.2.down.e5), .val (.bool r.2.down.e6), .val (.bool r.2.down.e7), .own 1 0 r.2.l.length, .val (.int .i64 r.2.sent), .val (.int .i64 r.2.taken), .val (.int .i64 r.2.lost)]]), some (.row 3 true (List.map encMsg r.2.l))] [] := by
  rw [f43] at h
  refine ic_of (N := 10) (rs := [.tmp 2]) Try.func43 rfl rfl rfl (Nat.le_of_ble_eq_true rfl) ?_
  refine AW.regL [0] ?_
  generalize hK : AW Try.prog _ _ _ = K
  simp only [go_sem, ↓reduceIte, reduceCtorEq, Nat.reduceAdd, Nat.reduceSub, Nat.reduceMul, Nat.reduceEqDiff, Nat.reduceLT, Nat.reduceLeDiff, Nat.reduceBEq, Int.reduceAdd, Int.reduceSub, Int.reduceLT, Int.reduceLE, Int.reduceEq, Int.reduceToNat]
  subst hK
  refine AW.seq ?_
  refine AW.regL [0, 4] ?_
  generalize hK : AW Try.prog _ _ _ = K
  simp only [go_sem, ↓reduceIte, reduceCtorEq, Nat.reduceAdd, Nat.reduceSub, Nat.reduceMul, Nat.reduceEqDiff, Nat.reduceLT, Nat.reduceLeDiff, Nat.reduceBEq, Int.reduceAdd, Int.reduceSub, Int.reduceLT, Int.reduceLE, Int.reduceEq, Int.reduceToNat]
  subst hK
  refine AW.ifBF rfl rfl ?_
  refine AW.skip ?_
  refine thenA_n ?_
  refine AW.regL [2] ?_
  generalize hK : AW Try.prog _ _ _ = K
  simp only [go_sem, ↓reduceIte, reduceCtorEq, Nat.reduceAdd, Nat.reduceSub, Nat.reduceMul, Nat.reduceEqDiff, Nat.reduceLT, Nat.reduceLeDiff, Nat.reduceBEq, Int.reduceAdd, Int.reduceSub, Int.reduceLT, Int.reduceLE, Int.reduceEq, Int.reduceToNat]
  subst hK
  refine AW.ent (st' := ⟨(upd anyF 2 (.val (.int .i64 ((a0.l.length : Nat) : Int)))), hpL [some (.row 14 true [[.val (.int .i64 a0.nodes), .val (.int .i64 a0.most), .val (.bool a0.down.e0), .val (.bool a0.down.e1), .val (.bool a0.down.e2), .val (.bool a0.down.e3), .val (.bool a0.down.e4), .val (.bool a0.down.e5), .val (.bool a0.down.e6), .val (.bool a0.down.e7), .own 1 0 a0.l.length, .val (.int .i64 a0.sent), .val (.int .i64 a0.taken), .val (.int .i64 a0.lost)]]), some (.row 3 true (List.map encMsg a0.l))] [], 8⟩) ?_ ?_
  · refine Ent.can [] _ _ _ rfl (by first | decide | simp) rfl ?_ ?_ ?_
    · exact (RF.any.pv (by first | rfl | simp only [go_sem]) (by first | rfl | simp [upd_ap, hpL_ap, tau, mapT, mapTL, bytesI_len]))
    · exact .cons (.tok (by simp [tokL, tokLL, inlR]) (by first | rfl | simp [upd_ap, hpL_ap, tau, mapT, mapTL, bytesI_len])) (.cons (.eq (by first | rfl | simp only [go_sem]) (by first | rfl | simp [upd_ap, hpL_ap, tau, mapT, mapTL, bytesI_len])) (.nil _))
    · exact .nil _
  refine AW.ret ?_
  obtain rfl := Option.some.inj h
  exact ⟨rfl, rfl, _, rfl, by first | rfl | simp [resOf, upd_ap, bytesI_len]⟩
end Au
end Go.Proofs.Y1

set_option linter.all false
set_option maxRecDepth 8000
set_option maxHeartbeats 1000000
namespace Go.Proofs.Y1
open Go.Gm
namespace Au
noncomputable def f120 (a0 : List Msg) (a1 a2 : Int) : Option (List Msg) := if (0 ≤ a1 ∧ a1 < a0.length) ∧ a2 = a1 + 1 ∧ a0.length < 4611686018427387904 then some (a0.eraseIdx a1.toNat) else none
theorem ok120 (a0 : List Msg) (a1 a2 : Int) (r : List Msg) (h : f120 a0 a1 a2 = some r) : IC Try.prog 120 [some (.row 3 true (List.map encMsg a0))] [.own 0 0 a0.length, .val (.int .i64 a1), .val (.int .i64 a2)] (.own 0 0 r.length) [some (.row 3 true (List.map encMsg r ++ [zMsg]))] [] := by
  unfold f120 at h
  split at h
  rotate_left
  · cases h
  rename_i hl
  obtain ⟨⟨h1, h2⟩, rfl, h3⟩ := hl
  obtain rfl := Option.some.inj h
  obtain ⟨n, rfl⟩ := Int.eq_ofNat_of_zero_le h1
  exact ic_del (fun _ => rfl) a0 n (by omega) h3
end Au
end Go.Proofs.Y1

set_option linter.all false
set_option maxRecDepth 8000
set_option maxHeartbeats 1000000
namespace Go.Proofs.Y1
open Go.Gm
namespace Au
noncomputable def f82 (a0 : Bag) (a1 : Int) : Option (Msg × Bag) := ((ix a0.l a1).bind fun x1 => ((f120 a0.l a1 (IntKind.i64.wrap (a1 + 1))).bind fun x2 => some (x1, ⟨a0.nodes, a0.most, a0.down, x2, a0.sent, a0.taken, a0.lost⟩)))
theorem ok82 (a0 : Bag) (a1 : Int) (r : Msg × Bag) (h : f82 a0 a1 = some r) : IC Try.prog 82 [some (.row 14 true [[.val (.int .i64 a0.nodes), .val (.int .i64 a0.most), .val (.bool a0.down.e0), .val (.bool a0.down.e1), .val (.bool a0.down.e2), .val (.bool a0.down.e3), .val (.bool a0.down.e4), .val (.bool a0.down.e5), .val (.bool a0.down.e6), .val (.bool a0.down.e7), .own 1 0 a0.l.length, .val (.int .i64 a0.sent), .val (.int .i64 a0.taken), .val (.int .i64 a0.lost)]]), some (.row 3 true (List.map encMsg a0.l))] [.ptr 0 0 0, .val (.int .i64 a1)] (.agg (encMsg r.1)) [some (.row 14 true [[.val (.int .i64 r.2.nodes), .val (.int .i64 r.2.most), .val (.bool r.2.down.e0), .val (.bool r.2.down.e1), .val (.bool r.2.down.e2), .val (.bool r.2.down.e3), .val (.bool r.2.down.e4), .val (.bool r.2.down.e5), .val (.bool r.2.down.e6), .val (.bool r.2.down.e7), .own 1 0 r.2.l.length, .val (.int .i64 r.2.sent), .val (.int .i64 r.2.taken), .val (.int .i64 r.2.lost)]]), some (.row 3 true (List.map encMsg r.2.l ++ [zMsg]))] [some (.row 3 true [encMsg r.1])] := by
  rw [f82] at h
  refine ic_of (N := 25) (rs := [.cell 4 64]) Try.func82 rfl rfl rfl (Nat.le_of_ble_eq_true rfl) ?_
  refine AW.regL [0, 1, 4] ?_
  generalize hK : AW Try.prog _ _ _ = K
  simp only [go_sem, ↓reduceIte, reduceCtorEq, Nat.reduceAdd, Nat.reduceSub, Nat.reduceMul, Nat.reduceEqDiff, Nat.reduceLT, Nat.reduceLeDiff, Nat.reduceBEq, Int.reduceAdd, Int.reduceSub, Int.reduceLT, Int.reduceLE, Int.reduceEq, Int.reduceToNat]
  subst hK
  obtain ⟨x1, hx1, h⟩ := Option.bind_eq_some_iff.1 h
  obtain ⟨hx1a, hx1b⟩ := ix_some.1 hx1
  refine AW.regL [0, 1, 4, 5] ?_
  generalize hK : AW Try.prog _ _ _ = K
  simp only [go_sem, ↓reduceIte, reduceCtorEq, Nat.reduceAdd, Nat.reduceSub, Nat.reduceMul, Nat.reduceEqDiff, Nat.reduceLT, Nat.reduceLeDiff, Nat.reduceBEq, Int.reduceAdd, Int.reduceSub, Int.reduceLT, Int.reduceLE, Int.reduceEq, Int.reduceToNat, natOf_le hx1a, hx1b, ix_lt hx1b]
  subst hK
  obtain ⟨x2, hx2, h⟩ := Option.bind_eq_some_iff.1 h
  refine AW.regL [4, 5] ?_
  generalize hK : AW Try.prog _ _ _ = K
  simp only [go_sem, ↓reduceIte, reduceCtorEq, Nat.reduceAdd, Nat.reduceSub, Nat.reduceMul, Nat.reduceEqDiff, Nat.reduceLT, Nat.reduceLeDiff, Nat.reduceBEq, Int.reduceAdd, Int.reduceSub, Int.reduceLT, Int.reduceLE, Int.reduceEq, Int.reduceToNat]
  refine arC.ok (CallOk.ic (us' := _) (ok120 a0.l a1 (IntKind.i64.wrap (a1 + 1)) x2 hx2) [1] rfl (by decide) (by simp) (by simp) (by simp) (by simp) (.cons (.eq (by simp only [go_sem]) (by first | rfl | simp [upd_ap, hpL_ap, sg_ap])) (.nil _)) (by simp only [mapTL_cons, mapTL_nil, mapT_ptr, mapT_own, mapT_val, mapT_sl, mapT_agg, mapT_ip, sg_ap, List.getD_cons_zero, List.getD_cons_succ]; exact (.cons (.of (by first | rfl | simp [mapT_own, sg_ap])) (.cons (.of rfl) (.cons (.of rfl) .nil)))) (by simp only [go_sem, List.length_cons, List.length_nil, Nat.reduceAdd, Nat.reduceLT, decide_true]) (by simp [AObj.isMut]) (by simp [go_sem]) (by simp [go_sem])) Try.call120 ?_
  simp only [go_sem, ↓reduceIte, reduceCtorEq, Nat.reduceAdd, Nat.reduceSub, Nat.reduceMul, Nat.reduceEqDiff, Nat.reduceLT, Nat.reduceLeDiff, Nat.reduceBEq, Int.reduceAdd, Int.reduceSub, Int.reduceLT, Int.reduceLE, Int.reduceEq, Int.reduceToNat]
  subst hK
  refine AW.regL [4] ?_
  generalize hK : AW Try.prog _ _ _ = K
  simp only [go_sem, ↓reduceIte, reduceCtorEq, Nat.reduceAdd, Nat.reduceSub, Nat.reduceMul, Nat.reduceEqDiff, Nat.reduceLT, Nat.reduceLeDiff, Nat.reduceBEq, Int.reduceAdd, Int.reduceSub, Int.reduceLT, Int.reduceLE, Int.reduceEq, Int.reduceToNat]
  subst hK
  refine AW.ent (st' := ⟨(upd anyF 4 (.ptr 8 0 0)), hpL [some (.row 14 true [[.val (.int .i64 a0.nodes), .val (.int .i64 a0.most), .val (.bool a0.down.e0), .val (.bool a0.down.e1), .val (.bool a0.down.e2), .val (.bool a0.down.e3), .val (.bool a0.down.e4), .val (.bool a0.down.e5), .val (.bool a0.down.e6), .val (.bool a0.down.e7), .own 1 0 x2.length, .val (.int .i64 a0.sent), .val (.int .i64 a0.taken), .val (.int .i64 a0.lost)]]), some (.row 3 true (List.map encMsg x2 ++ [zMsg]))] [some (.row 3 true [[.val (.int .i64 x1.From), .val (.int .i64 x1.To), .sl (List.map enc5 x1.Data)]])], 9⟩) ?_ ?_
  · refine Ent.can [8] _ _ _ rfl (by first | decide | simp) rfl ?_ ?_ ?_
    · exact (RF.any.pp (by decide) (by first | rfl | simp [upd_ap, hpL_ap, tau, mapT, mapTL, bytesI_len]))
    · exact .cons (.tok (by simp [tokL, tokLL, inlR]) (by first | rfl | simp [upd_ap, hpL_ap, tau, mapT, mapTL, bytesI_len])) (.cons (.eq (by first | rfl | simp only [go_sem]) (by first | rfl | simp [upd_ap, hpL_ap, tau, mapT, mapTL, bytesI_len])) (.nil _))
    · exact .cons (.eq (by first | rfl | simp only [go_sem]) (by first | rfl | simp [upd_ap, hpL_ap, tau, mapT, mapTL, bytesI_len])) (.nil _)
  refine AW.ret ?_
  obtain rfl := Option.some.inj h
  exact ⟨rfl, rfl, _, rfl, by first | rfl | simp [resOf, upd_ap, bytesI_len]⟩
end Au
end Go.Proofs.Y1

set_option linter.all false
set_option maxRecDepth 8000
set_option maxHeartbeats 1000000
namespace Go.Proofs.Y1
open Go.Gm
namespace Au
noncomputable def f36_s1 (a0 : List Msg) (a1 : List Msg) : Int → Option (Int ⊕ (Bool ⊕ Unit))
  | s1_0 => (if s1_0 < (a0.length : Int) then ((ix a0 s1_0).bind fun x19 => ((ix a1 s1_0).bind fun x20 => (if x19.From = x20.From then (if x19.To = x20.To then (if (strOfNums x19.Data) = (strOfNums x20.Data) then some (.inl (IntKind.i64.wrap (s1_0 + 1))) else some (.inr (.inl false))) else some (.inr (.inl false))) else some (.inr (.inl false))))) else some (.inr (.inr ())))
noncomputable def f36 (a0 : List Msg) (a1 : List Msg) : Option Bool := (if (a0.length : Int) = (a1.length : Int) then ((loopO (f36_s1 a0 a1) 0).bind fun y24 => match y24 with | .inl y25 => some y25 | .inr _ => some true) else some false)
theorem ok36 (a0 : List Msg) (a1 : List Msg) (r : Bool) (h : f36 a0 a1 = some r) : PC Try.prog 36 [.sl (List.map encMsg a0), .sl (List.map encMsg a1)] (.val (.bool r)) := by
  rw [f36] at h
  refine pc_of8 (N := 56) (rs := [.tmp 4]) Try.func36 rfl rfl rfl (Nat.le_of_ble_eq_true rfl) ?_
  refine AW.regL [0, 1] ?_
  generalize hK : AW Try.prog _ _ _ = K
  simp only [go_sem, ↓reduceIte, reduceCtorEq, Nat.reduceAdd, Nat.reduceSub, Nat.reduceMul, Nat.reduceEqDiff, Nat.reduceLT, Nat.reduceLeDiff, Nat.reduceBEq, Int.reduceAdd, Int.reduceSub, Int.reduceLT, Int.reduceLE, Int.reduceEq, Int.reduceToNat]
  subst hK
  refine AW.seq ?_
  refine AW.regL [0, 1, 10] ?_
  generalize hK : AW Try.prog _ _ _ = K
  simp only [go_sem, ↓reduceIte, reduceCtorEq, Nat.reduceAdd, Nat.reduceSub, Nat.reduceMul, Nat.reduceEqDiff, Nat.reduceLT, Nat.reduceLeDiff, Nat.reduceBEq, Int.reduceAdd, Int.reduceSub, Int.reduceLT, Int.reduceLE, Int.reduceEq, Int.reduceToNat]
  subst hK
  by_cases c2 : (a0.length : Int) = (a1.length : Int)
  · rw [if_pos c2] at h
    refine AW.ifF rfl (fun q => q c2) ?_
    refine AW.skip ?_
    refine thenA_n ?_
    refine AW.seq ?_
    refine AW.regL [0, 1, 5] ?_
    generalize hK : AW Try.prog _ _ _ = K
    simp only [go_sem, ↓reduceIte, reduceCtorEq, Nat.reduceAdd, Nat.reduceSub, Nat.reduceMul, Nat.reduceEqDiff, Nat.reduceLT, Nat.reduceLeDiff, Nat.reduceBEq, Int.reduceAdd, Int.reduceSub, Int.reduceLT, Int.reduceLE, Int.reduceEq, Int.reduceToNat, eq_true c2]
    subst hK
    refine AW.block ?_
    obtain ⟨y24, hy24, h⟩ := Option.bind_eq_some_iff.1 h
    refine AW.loopO (fun s => ⟨(upd (upd (upd anyF 0 (.sl (List.map encMsg a0))) 1 (.sl (List.map encMsg a1))) 5 (.val (.int .i64 s))), hpL [] [], 8⟩) (fun y e st' => match y with | .inl z => e = Exit.ret ∧ finA Try.prog [.tmp 4] (.val (.bool z)) .ret st' | .inr z => e = Exit.exit 0 ∧ st' = ⟨anyF, hpL [] [], 8⟩) hy24 ?_ ?_ ?_
    · refine Ent.can [] _ _ _ rfl (by first | decide | simp) rfl ?_ ?_ ?_
      · exact (((RF.any.pv (by first | rfl | simp only [go_sem]) (by first | rfl | simp [upd_ap, hpL_ap, tau, mapT, mapTL, bytesI_len, eq_true c2])).pv (by first | rfl | simp only [go_sem]) (by first | rfl | simp [upd_ap, hpL_ap, tau, mapT, mapTL, bytesI_len, eq_true c2])).pv (by first | rfl | simp only [go_sem]) (by first | rfl | simp [upd_ap, hpL_ap, tau, mapT, mapTL, bytesI_len, eq_true c2]))
      · exact .nil _
      · exact .nil _
    · clear h hy24
      rintro s1_0 x h
      rw [f36_s1] at h
      refine AW.seq ?_
      refine AW.regL [0, 1, 5, 14] ?_
      generalize hK : AW Try.prog _ _ _ = K
      simp only [go_sem, ↓reduceIte, reduceCtorEq, Nat.reduceAdd, Nat.reduceSub, Nat.reduceMul, Nat.reduceEqDiff, Nat.reduceLT, Nat.reduceLeDiff, Nat.reduceBEq, Int.reduceAdd, Int.reduceSub, Int.reduceLT, Int.reduceLE, Int.reduceEq, Int.reduceToNat, eq_true c2]
      subst hK
      by_cases c18 : s1_0 < (a0.length : Int)
      · rw [if_pos c18] at h
        refine AW.ifT rfl c18 ?_
        refine AW.skip ?_
        refine thenA_n ?_
        refine AW.seq ?_
        refine AW.block ?_
        obtain ⟨x19, hx19, h⟩ := Option.bind_eq_some_iff.1 h
        obtain ⟨hx19a, hx19b⟩ := ix_some.1 hx19
        obtain ⟨x20, hx20, h⟩ := Option.bind_eq_some_iff.1 h
        obtain ⟨hx20a, hx20b⟩ := ix_some.1 hx20
        by_cases c21 : x19.From = x20.From
        · rw [if_pos c21] at h
          by_cases c22 : x19.To = x20.To
          · rw [if_pos c22] at h
            refine AW.regdL [0, 1, 5, 55] [[], [], [0, 1], [0, 1, 2], [0, 1, 2, 3], [], [], [5, 6], [5, 6, 7], [5, 6, 7, 8], [0, 1, 2, 3, 4, 5, 6, 7, 8, 9], [0, 1, 2, 3, 4, 5, 6, 7, 8, 9, 10], [0, 1, 2, 3, 4, 5, 6, 7, 8, 9, 10, 11], [0, 1, 2, 3, 4, 5, 6, 7, 8, 9, 10, 11], [0, 1, 2, 3, 4, 5, 6, 7, 8, 9, 10, 11, 12, 13], [0, 1, 2, 3, 4, 5, 6, 7, 8, 9, 10, 11, 12, 13, 14], [0, 1, 2, 3, 4, 5, 6, 7, 8, 9, 10, 11, 12, 13, 14, 15], [0, 1, 2, 3, 4, 5, 6, 7, 8, 9, 10, 11], [0, 1, 2, 3, 4, 5, 6, 7, 8, 9, 10, 11], [0, 1, 2, 3, 4, 5, 6, 7, 8, 9, 10, 11, 17, 18], [0, 1, 2, 3, 4, 5, 6, 7, 8, 9, 10, 11, 17, 18, 19], [0, 1, 2, 3, 4, 5, 6, 7, 8, 9, 10, 11, 17, 18, 19, 20], [0, 1, 2, 3, 4, 5, 6, 7, 8, 9, 10, 11, 12, 13, 14, 15, 16, 17, 18, 19, 20, 21], [0, 1, 2, 3, 4, 5, 6, 7, 8, 9, 10, 11, 12, 13, 14, 15, 16, 17, 18, 19, 20, 21, 22], [0, 1, 2, 3, 4, 5, 6, 7, 8, 9, 10, 11, 12, 13, 14, 15, 16, 17, 18, 19, 20, 21, 22, 23], [0, 1, 2, 3, 4, 5, 6, 7, 8, 9, 10, 11, 12, 13, 14, 15, 16, 17, 18, 19, 20, 21, 22, 23, 24], [0, 1, 2, 3, 4, 5, 6, 7, 8, 9, 10, 11, 12, 13, 14, 15, 16, 17, 18, 19, 20, 21, 22, 23, 24], [0, 1, 2, 3, 4, 5, 6, 7, 8, 9, 10, 11, 12, 13, 14, 15, 16, 17, 18, 19, 20, 21, 22, 23, 24, 25, 26], [0, 1, 2, 3, 4, 5, 6, 7, 8, 9, 10, 11, 12, 13, 14, 15, 16, 17, 18, 19, 20, 21, 22, 23, 24, 25, 26, 27], [0, 1, 2, 3, 4, 5, 6, 7, 8, 9, 10, 11, 12, 13, 14, 15, 16, 17, 18, 19, 20, 21, 22, 23, 24, 25, 26, 27, 28], [0, 1, 2, 3, 4, 5, 6, 7, 8, 9, 10, 11, 12, 13, 14, 15, 16, 17, 18, 19, 20, 21, 22, 23, 24, 25, 26, 27, 28, 29], [0, 1, 2, 3, 4, 5, 6, 7, 8, 9, 10, 11, 12, 13, 14, 15, 16, 17, 18, 19, 20, 21, 22, 23, 24], [0, 1, 2, 3, 4, 5, 6, 7, 8, 9, 10, 11, 12, 13, 14, 15, 16, 17, 18, 19, 20, 21, 22, 23, 24], [0, 1, 2, 3, 4, 5, 6, 7, 8, 9, 10, 11, 12, 13, 14, 15, 16, 17, 18, 19, 20, 21, 22, 23, 24, 31, 32], [0, 1, 2, 3, 4, 5, 6, 7, 8, 9, 10, 11, 12, 13, 14, 15, 16, 17, 18, 19, 20, 21, 22, 23, 24, 31, 32, 33], [0, 1, 2, 3, 4, 5, 6, 7, 8, 9, 10, 11, 12, 13, 14, 15, 16, 17, 18, 19, 20, 21, 22, 23, 24, 31, 32, 33, 34], [0, 1, 2, 3, 4, 5, 6, 7, 8, 9, 10, 11, 12, 13, 14, 15, 16, 17, 18, 19, 20, 21, 22, 23, 24, 31, 32, 33, 34, 35], [0, 1, 2, 3, 4, 5, 6, 7, 8, 9, 10, 11, 12, 13, 14, 15, 16, 17, 18, 19, 20, 21, 22, 23, 24, 25, 26, 27, 28, 29, 30, 31, 32, 33, 34, 35, 36], [0, 1, 2, 3, 4, 5, 6, 7, 8, 9, 10, 11, 12, 13, 14, 15, 16, 17, 18, 19, 20, 21, 22, 23, 24, 25, 26, 27, 28, 29, 30, 31, 32, 33, 34, 35, 36, 37]] [0, 1, 2, 3, 4, 5, 6, 7, 8, 9, 10, 11, 12, 13, 14, 15, 16, 17, 18, 19, 20, 21, 22, 23, 24, 25, 26, 27, 28, 29, 30, 31, 32, 33, 34, 35, 36, 37, 38] noFt (fun _ _ _ h => by simp [noFt] at h) draws (by kernel_rfl) (by kernel_rfl) ?_
            generalize hK : AW Try.prog _ _ _ = K
            simp only [go_sem, ↓reduceIte, reduceCtorEq, Nat.reduceAdd, Nat.reduceSub, Nat.reduceMul, Nat.reduceEqDiff, Nat.reduceLT, Nat.reduceLeDiff, Nat.reduceBEq, Int.reduceAdd, Int.reduceSub, Int.reduceLT, Int.reduceLE, Int.reduceEq, Int.reduceToNat, eq_true c2, eq_true c18, natOf_le hx19a, hx19b, natOf_le hx20a, hx20b, eq_true c21, eq_true c22, byteNums_map (enc := enc5) (fun _ => rfl)]
            subst hK
            by_cases c23 : (strOfNums x19.Data) = (strOfNums x20.Data)
            · rw [if_pos c23] at h
              refine AW.ifF rfl (fun q => q c23) ?_
              refine AW.skip ?_
              refine block_n ?_
              refine thenA_n ?_
              refine AW.regionL [0, 1, 5] ?_
              generalize hK : thenA _ _ Exit.normal = K
              simp only [go_sem, ↓reduceIte, reduceCtorEq, Nat.reduceAdd, Nat.reduceSub, Nat.reduceMul, Nat.reduceEqDiff, Nat.reduceLT, Nat.reduceLeDiff, Nat.reduceBEq, Int.reduceAdd, Int.reduceSub, Int.reduceLT, Int.reduceLE, Int.reduceEq, Int.reduceToNat, eq_true c2, eq_true c18, eq_true c21, eq_true c22, eq_true c23]
              subst hK
              refine thenA_n ?_
              refine ⟨_, (Option.some.inj h).symm, ?_⟩
              refine Ent.can [] _ _ _ rfl (by first | decide | simp) rfl ?_ ?_ ?_
              · exact (((RF.any.pv (by first | rfl | simp only [go_sem]) (by first | rfl | simp [upd_ap, hpL_ap, tau, mapT, mapTL, bytesI_len, eq_true c2, eq_true c18, eq_true c21, eq_true c22, eq_true c23])).pv (by first | rfl | simp only [go_sem]) (by first | rfl | simp [upd_ap, hpL_ap, tau, mapT, mapTL, bytesI_len, eq_true c2, eq_true c18, eq_true c21, eq_true c22, eq_true c23])).pv (by first | rfl | simp only [go_sem]) (by first | rfl | simp [upd_ap, hpL_ap, tau, mapT, mapTL, bytesI_len, eq_true c2, eq_true c18, eq_true c21, eq_true c22, eq_true c23]))
              · exact .nil _
              · exact .nil _
            · rw [if_neg c23] at h
              refine AW.ifT rfl c23 ?_
              refine AW.regL [4] ?_
              generalize hK : AW Try.prog _ _ _ = K
              simp only [go_sem, ↓reduceIte, reduceCtorEq, Nat.reduceAdd, Nat.reduceSub, Nat.reduceMul, Nat.reduceEqDiff, Nat.reduceLT, Nat.reduceLeDiff, Nat.reduceBEq, Int.reduceAdd, Int.reduceSub, Int.reduceLT, Int.reduceLE, Int.reduceEq, Int.reduceToNat, eq_true c2, eq_true c18, eq_true c21, eq_true c22, eq_false c23]
              subst hK
              refine AW.ret ?_
              refine block_r ?_
              refine thenA_r ?_
              refine thenA_r ?_
              refine ⟨_, (Option.some.inj h).symm, _, Ent.refl, rfl, ?_⟩
              (simp only [go_sem, ↓reduceIte, reduceCtorEq, Nat.reduceAdd, Nat.reduceSub, Nat.reduceMul, Nat.reduceEqDiff, Nat.reduceLT, Nat.reduceLeDiff, Nat.reduceBEq, Int.reduceAdd, Int.reduceSub, Int.reduceLT, Int.reduceLE, Int.reduceEq, Int.reduceToNat, eq_true c2, eq_true c18, eq_true c21, eq_true c22, eq_false c23, finA, resA, resOf_1, resOf_2, sealV_val, sealV_sl, sealV_ip, sealV_agg, sealV_tup, sealV_own, sealL_nil, sealL_cons, sealV_clo, resOf_clo] <;> try simp)
          · rw [if_neg c22] at h
            refine AW.regdL [0, 1, 5, 55] [[], [], [0, 1], [0, 1, 2], [0, 1, 2, 3], [], [], [5, 6], [5, 6, 7], [5, 6, 7, 8], [0, 1, 2, 3, 4, 5, 6, 7, 8, 9], [0, 1, 2, 3, 4, 5, 6, 7, 8, 9, 10], [0, 1, 2, 3, 4, 5, 6, 7, 8, 9, 10, 11], [0, 1, 2, 3, 4, 5, 6, 7, 8, 9, 10, 11], [0, 1, 2, 3, 4, 5, 6, 7, 8, 9, 10, 11, 12, 13], [0, 1, 2, 3, 4, 5, 6, 7, 8, 9, 10, 11, 12, 13, 14], [0, 1, 2, 3, 4, 5, 6, 7, 8, 9, 10, 11, 12, 13, 14, 15], [0, 1, 2, 3, 4, 5, 6, 7, 8, 9, 10, 11], [0, 1, 2, 3, 4, 5, 6, 7, 8, 9, 10, 11], [0, 1, 2, 3, 4, 5, 6, 7, 8, 9, 10, 11, 17, 18], [0, 1, 2, 3, 4, 5, 6, 7, 8, 9, 10, 11, 17, 18, 19], [0, 1, 2, 3, 4, 5, 6, 7, 8, 9, 10, 11, 17, 18, 19, 20], [0, 1, 2, 3, 4, 5, 6, 7, 8, 9, 10, 11, 12, 13, 14, 15, 16, 17, 18, 19, 20, 21], [0, 1, 2, 3, 4, 5, 6, 7, 8, 9, 10, 11, 12, 13, 14, 15, 16, 17, 18, 19, 20, 21, 22], [0, 1, 2, 3, 4, 5, 6, 7, 8, 9, 10, 11, 12, 13, 14, 15, 16, 17, 18, 19, 20, 21, 22, 23], [0, 1, 2, 3, 4, 5, 6, 7, 8, 9, 10, 11, 12, 13, 14, 15, 16, 17, 18, 19, 20, 21, 22, 23, 24], [0, 1, 2, 3, 4, 5, 6, 7, 8, 9, 10, 11, 12, 13, 14, 15, 16, 17, 18, 19, 20, 21, 22, 23, 24], [0, 1, 2, 3, 4, 5, 6, 7, 8, 9, 10, 11, 12, 13, 14, 15, 16, 17, 18, 19, 20, 21, 22, 23, 24, 25, 26], [0, 1, 2, 3, 4, 5, 6, 7, 8, 9, 10, 11, 12, 13, 14, 15, 16, 17, 18, 19, 20, 21, 22, 23, 24, 25, 26, 27], [0, 1, 2, 3, 4, 5, 6, 7, 8, 9, 10, 11, 12, 13, 14, 15, 16, 17, 18, 19, 20, 21, 22, 23, 24, 25, 26, 27, 28], [0, 1, 2, 3, 4, 5, 6, 7, 8, 9, 10, 11, 12, 13, 14, 15, 16, 17, 18, 19, 20, 21, 22, 23, 24, 25, 26, 27, 28, 29], [0, 1, 2, 3, 4, 5, 6, 7, 8, 9, 10, 11, 12, 13, 14, 15, 16, 17, 18, 19, 20, 21, 22, 23, 24], [0, 1, 2, 3, 4, 5, 6, 7, 8, 9, 10, 11, 12, 13, 14, 15, 16, 17, 18, 19, 20, 21, 22, 23, 24], [0, 1, 2, 3, 4, 5, 6, 7, 8, 9, 10, 11, 12, 13, 14, 15, 16, 17, 18, 19, 20, 21, 22, 23, 24, 31, 32], [0, 1, 2, 3, 4, 5, 6, 7, 8, 9, 10, 11, 12, 13, 14, 15, 16, 17, 18, 19, 20, 21, 22, 23, 24, 31, 32, 33], [0, 1, 2, 3, 4, 5, 6, 7, 8, 9, 10, 11, 12, 13, 14, 15, 16, 17, 18, 19, 20, 21, 22, 23, 24, 31, 32, 33, 34], [0, 1, 2, 3, 4, 5, 6, 7, 8, 9, 10, 11, 12, 13, 14, 15, 16, 17, 18, 19, 20, 21, 22, 23, 24, 31, 32, 33, 34, 35], [0, 1, 2, 3, 4, 5, 6, 7, 8, 9, 10, 11, 12, 13, 14, 15, 16, 17, 18, 19, 20, 21, 22, 23, 24, 25, 26, 27, 28, 29, 30, 31, 32, 33, 34, 35, 36], [0, 1, 2, 3, 4, 5, 6, 7, 8, 9, 10, 11, 12, 13, 14, 15, 16, 17, 18, 19, 20, 21, 22, 23, 24, 25, 26, 27, 28, 29, 30, 31, 32, 33, 34, 35, 36, 37]] [0, 1, 2, 3, 4, 5, 6, 7, 8, 9, 10, 11, 12, 13, 14, 15, 16, 17, 18, 19, 20, 21, 22, 23, 24, 25, 26, 27, 28, 29, 30, 31, 32, 33, 34, 35, 36, 37, 38] noFt (fun _ _ _ h => by simp [noFt] at h) draws (by kernel_rfl) (by kernel_rfl) ?_
            generalize hK : AW Try.prog _ _ _ = K
            simp only [go_sem, ↓reduceIte, reduceCtorEq, Nat.reduceAdd, Nat.reduceSub, Nat.reduceMul, Nat.reduceEqDiff, Nat.reduceLT, Nat.reduceLeDiff, Nat.reduceBEq, Int.reduceAdd, Int.reduceSub, Int.reduceLT, Int.reduceLE, Int.reduceEq, Int.reduceToNat, eq_true c2, eq_true c18, natOf_le hx19a, hx19b, natOf_le hx20a, hx20b, eq_true c21, eq_false c22]
            subst hK
            refine AW.ifBT rfl rfl ?_
            refine AW.regL [4] ?_
            generalize hK : AW Try.prog _ _ _ = K
            simp only [go_sem, ↓reduceIte, reduceCtorEq, Nat.reduceAdd, Nat.reduceSub, Nat.reduceMul, Nat.reduceEqDiff, Nat.reduceLT, Nat.reduceLeDiff, Nat.reduceBEq, Int.reduceAdd, Int.reduceSub, Int.reduceLT, Int.reduceLE, Int.reduceEq, Int.reduceToNat, eq_true c2, eq_true c18, eq_true c21, eq_false c22]
            subst hK
            refine AW.ret ?_
            refine block_r ?_
            refine thenA_r ?_
            refine thenA_r ?_
            refine ⟨_, (Option.some.inj h).symm, _, Ent.refl, rfl, ?_⟩
            (simp only [go_sem, ↓reduceIte, reduceCtorEq, Nat.reduceAdd, Nat.reduceSub, Nat.reduceMul, Nat.reduceEqDiff, Nat.reduceLT, Nat.reduceLeDiff, Nat.reduceBEq, Int.reduceAdd, Int.reduceSub, Int.reduceLT, Int.reduceLE, Int.reduceEq, Int.reduceToNat, eq_true c2, eq_true c18, eq_true c21, eq_false c22, finA, resA, resOf_1, resOf_2, sealV_val, sealV_sl, sealV_ip, sealV_agg, sealV_tup, sealV_own, sealL_nil, sealL_cons, sealV_clo, resOf_clo] <;> try simp)
        · rw [if_neg c21] at h
          refine AW.regdL [0, 1, 5, 55] [[], [], [0, 1], [0, 1, 2], [0, 1, 2, 3], [], [], [5, 6], [5, 6, 7], [5, 6, 7, 8], [0, 1, 2, 3, 4, 5, 6, 7, 8, 9], [0, 1, 2, 3, 4, 5, 6, 7, 8, 9, 10], [0, 1, 2, 3, 4, 5, 6, 7, 8, 9, 10, 11], [0, 1, 2, 3, 4, 5, 6, 7, 8, 9, 10, 11], [0, 1, 2, 3, 4, 5, 6, 7, 8, 9, 10, 11, 12, 13], [0, 1, 2, 3, 4, 5, 6, 7, 8, 9, 10, 11, 12, 13, 14], [0, 1, 2, 3, 4, 5, 6, 7, 8, 9, 10, 11, 12, 13, 14, 15], [0, 1, 2, 3, 4, 5, 6, 7, 8, 9, 10, 11], [0, 1, 2, 3, 4, 5, 6, 7, 8, 9, 10, 11], [0, 1, 2, 3, 4, 5, 6, 7, 8, 9, 10, 11, 17, 18], [0, 1, 2, 3, 4, 5, 6, 7, 8, 9, 10, 11, 17, 18, 19], [0, 1, 2, 3, 4, 5, 6, 7, 8, 9, 10, 11, 17, 18, 19, 20], [0, 1, 2, 3, 4, 5, 6, 7, 8, 9, 10, 11, 12, 13, 14, 15, 16, 17, 18, 19, 20, 21], [0, 1, 2, 3, 4, 5, 6, 7, 8, 9, 10, 11, 12, 13, 14, 15, 16, 17, 18, 19, 20, 21, 22], [0, 1, 2, 3, 4, 5, 6, 7, 8, 9, 10, 11, 12, 13, 14, 15, 16, 17, 18, 19, 20, 21, 22, 23], [0, 1, 2, 3, 4, 5, 6, 7, 8, 9, 10, 11, 12, 13, 14, 15, 16, 17, 18, 19, 20, 21, 22, 23, 24], [0, 1, 2, 3, 4, 5, 6, 7, 8, 9, 10, 11, 12, 13, 14, 15, 16, 17, 18, 19, 20, 21, 22, 23, 24], [0, 1, 2, 3, 4, 5, 6, 7, 8, 9, 10, 11, 12, 13, 14, 15, 16, 17, 18, 19, 20, 21, 22, 23, 24, 25, 26], [0, 1, 2, 3, 4, 5, 6, 7, 8, 9, 10, 11, 12, 13, 14, 15, 16, 17, 18, 19, 20, 21, 22, 23, 24, 25, 26, 27], [0, 1, 2, 3, 4, 5, 6, 7, 8, 9, 10, 11, 12, 13, 14, 15, 16, 17, 18, 19, 20, 21, 22, 23, 24, 25, 26, 27, 28], [0, 1, 2, 3, 4, 5, 6, 7, 8, 9, 10, 11, 12, 13, 14, 15, 16, 17, 18, 19, 20, 21, 22, 23, 24, 25, 26, 27, 28, 29], [0, 1, 2, 3, 4, 5, 6, 7, 8, 9, 10, 11, 12, 13, 14, 15, 16, 17, 18, 19, 20, 21, 22, 23, 24], [0, 1, 2, 3, 4, 5, 6, 7, 8, 9, 10, 11, 12, 13, 14, 15, 16, 17, 18, 19, 20, 21, 22, 23, 24], [0, 1, 2, 3, 4, 5, 6, 7, 8, 9, 10, 11, 12, 13, 14, 15, 16, 17, 18, 19, 20, 21, 22, 23, 24, 31, 32], [0, 1, 2, 3, 4, 5, 6, 7, 8, 9, 10, 11, 12, 13, 14, 15, 16, 17, 18, 19, 20, 21, 22, 23, 24, 31, 32, 33], [0, 1, 2, 3, 4, 5, 6, 7, 8, 9, 10, 11, 12, 13, 14, 15, 16, 17, 18, 19, 20, 21, 22, 23, 24, 31, 32, 33, 34], [0, 1, 2, 3, 4, 5, 6, 7, 8, 9, 10, 11, 12, 13, 14, 15, 16, 17, 18, 19, 20, 21, 22, 23, 24, 31, 32, 33, 34, 35], [0, 1, 2, 3, 4, 5, 6, 7, 8, 9, 10, 11, 12, 13, 14, 15, 16, 17, 18, 19, 20, 21, 22, 23, 24, 25, 26, 27, 28, 29, 30, 31, 32, 33, 34, 35, 36], [0, 1, 2, 3, 4, 5, 6, 7, 8, 9, 10, 11, 12, 13, 14, 15, 16, 17, 18, 19, 20, 21, 22, 23, 24, 25, 26, 27, 28, 29, 30, 31, 32, 33, 34, 35, 36, 37]] [0, 1, 2, 3, 4, 5, 6, 7, 8, 9, 10, 11, 12, 13, 14, 15, 16, 17, 18, 19, 20, 21, 22, 23, 24, 25, 26, 27, 28, 29, 30, 31, 32, 33, 34, 35, 36, 37, 38] noFt (fun _ _ _ h => by simp [noFt] at h) draws (by kernel_rfl) (by kernel_rfl) ?_
          generalize hK : AW Try.prog _ _ _ = K
          simp only [go_sem, ↓reduceIte, reduceCtorEq, Nat.reduceAdd, Nat.reduceSub, Nat.reduceMul, Nat.reduceEqDiff, Nat.reduceLT, Nat.reduceLeDiff, Nat.reduceBEq, Int.reduceAdd, Int.reduceSub, Int.reduceLT, Int.reduceLE, Int.reduceEq, Int.reduceToNat, eq_true c2, eq_true c18, natOf_le hx19a, hx19b, natOf_le hx20a, hx20b, eq_false c21]
          subst hK
          refine AW.ifBT rfl rfl ?_
          refine AW.regL [4] ?_
          generalize hK : AW Try.prog _ _ _ = K
          simp only [go_sem, ↓reduceIte, reduceCtorEq, Nat.reduceAdd, Nat.reduceSub, Nat.reduceMul, Nat.reduceEqDiff, Nat.reduceLT, Nat.reduceLeDiff, Nat.reduceBEq, Int.reduceAdd, Int.reduceSub, Int.reduceLT, Int.reduceLE, Int.reduceEq, Int.reduceToNat, eq_true c2, eq_true c18, eq_false c21]
          subst hK
          refine AW.ret ?_
          refine block_r ?_
          refine thenA_r ?_
          refine thenA_r ?_
          refine ⟨_, (Option.some.inj h).symm, _, Ent.refl, rfl, ?_⟩
          (simp only [go_sem, ↓reduceIte, reduceCtorEq, Nat.reduceAdd, Nat.reduceSub, Nat.reduceMul, Nat.reduceEqDiff, Nat.reduceLT, Nat.reduceLeDiff, Nat.reduceBEq, Int.reduceAdd, Int.reduceSub, Int.reduceLT, Int.reduceLE, Int.reduceEq, Int.reduceToNat, eq_true c2, eq_true c18, eq_false c21, finA, resA, resOf_1, resOf_2, sealV_val, sealV_sl, sealV_ip, sealV_agg, sealV_tup, sealV_own, sealL_nil, sealL_cons, sealV_clo, resOf_clo] <;> try simp)
      · rw [if_neg c18] at h
        refine AW.ifF rfl c18 ?_
        refine AW.exit ?_
        refine thenA_x ?_
        refine thenA_x ?_
        refine ⟨_, (Option.some.inj h).symm, _, ?_, rfl, rfl⟩
        refine Ent.can [] _ _ _ rfl (by first | decide | simp) rfl ?_ ?_ ?_
        · exact RF.any
        · exact .nil _
        · exact .nil _
    · intro e st' hX
      rcases y24 with y25 | _ <;> dsimp only at h hX
      · obtain ⟨rfl, hf⟩ := hX
        refine ⟨_, Ent.refl, ?_⟩
        refine block_r ?_
        refine thenA_r ?_
        obtain rfl := Option.some.inj h
        exact hf
      · obtain ⟨rfl, rfl⟩ := hX
        refine ⟨_, Ent.refl, ?_⟩
        refine block_x ?_
        refine thenA_n ?_
        refine AW.regL [4] ?_
        generalize hK : AW Try.prog _ _ _ = K
        simp only [go_sem, ↓reduceIte, reduceCtorEq, Nat.reduceAdd, Nat.reduceSub, Nat.reduceMul, Nat.reduceEqDiff, Nat.reduceLT, Nat.reduceLeDiff, Nat.reduceBEq, Int.reduceAdd, Int.reduceSub, Int.reduceLT, Int.reduceLE, Int.reduceEq, Int.reduceToNat, eq_true c2]
        subst hK
        refine AW.ret ?_
        obtain rfl := Option.some.inj h
        (simp only [go_sem, ↓reduceIte, reduceCtorEq, Nat.reduceAdd, Nat.reduceSub, Nat.reduceMul, Nat.reduceEqDiff, Nat.reduceLT, Nat.reduceLeDiff, Nat.reduceBEq, Int.reduceAdd, Int.reduceSub, Int.reduceLT, Int.reduceLE, Int.reduceEq, Int.reduceToNat, eq_true c2, finA, resA, resOf_1, resOf_2, sealV_val, sealV_sl, sealV_ip, sealV_agg, sealV_tup, sealV_own, sealL_nil, sealL_cons, sealV_clo, resOf_clo] <;> try simp)
  · rw [if_neg c2] at h
    refine AW.ifT rfl c2 ?_
    refine AW.regL [4] ?_
    generalize hK : AW Try.prog _ _ _ = K
    simp only [go_sem, ↓reduceIte, reduceCtorEq, Nat.reduceAdd, Nat.reduceSub, Nat.reduceMul, Nat.reduceEqDiff, Nat.reduceLT, Nat.reduceLeDiff, Nat.reduceBEq, Int.reduceAdd, Int.reduceSub, Int.reduceLT, Int.reduceLE, Int.reduceEq, Int.reduceToNat, eq_false c2]
    subst hK
    refine AW.ret ?_
    refine thenA_r ?_
    obtain rfl := Option.some.inj h
    (simp only [go_sem, ↓reduceIte, reduceCtorEq, Nat.reduceAdd, Nat.reduceSub, Nat.reduceMul, Nat.reduceEqDiff, Nat.reduceLT, Nat.reduceLeDiff, Nat.reduceBEq, Int.reduceAdd, Int.reduceSub, Int.reduceLT, Int.reduceLE, Int.reduceEq, Int.reduceToNat, eq_false c2, finA, resA, resOf_1, resOf_2, sealV_val, sealV_sl, sealV_ip, sealV_agg, sealV_tup, sealV_own, sealL_nil, sealL_cons, sealV_clo, resOf_clo] <;> try simp)
end Au
end Go.Proofs.Y1

set_option linter.all false
set_option maxRecDepth 8000
set_option maxHeartbeats 1000000
namespace Go.Proofs.Y1
open Go.Gm
namespace Au
noncomputable def f42 (a0 : Bag) : Option (Int × Int × Int × Bag) := some (a0.sent, a0.taken, a0.lost, a0)
theorem ok42 (a0 : Bag) (r : Int × Int × Int × Bag) (h : f42 a0 = some r) : IC Try.prog 42 [some (.row 14 true [[.val (.int .i64 a0.nodes), .val (.int .i64 a0.most), .val (.bool a0.down.e0), .val (.bool a0.down.e1), .val (.bool a0.down.e2), .val (.bool a0.down.e3), .val (.bool a0.down.e4), .val (.bool a0.down.e5), .val (.bool a0.down.e6), .val (.bool a0.down.e7), .own 1 0 a0.l.length, .val (.int .i64 a0.sent), .val (.int .i64 a0.taken), .val (.int .i64 a0.lost)]]), some (.row 3 true (List.map encMsg a0.l))] [.ptr 0 0 0] (.tup [.val (.int .i64 r.1), .val (.int .i64 r.2.1), .val (.int .i64 r.2.2.1)]) [some (.row 14 true [[.val (.int .i64 r.2.2.2.nodes), .val (.int .i64 r.2.2.2.most), .val (.bool r.2.2.2.down.e0), .val (.bool r.2.2.2.down.e1), .val (.bool r.2.2.2.down.e2), .val (.bool r.2.2.2.down.e3), .val (.bool r.2.2.2.down.e4), .val (.bool r.2.2.2.down.e5), .val (.bool r.2.2.2.down.e6), .val (.bool r.2.2.2.down.e7), .own 1 0 r.2.2.2.l.length, .val (.int .i64 r.2.2.2.sent), .val (.int .i64 r.2.2.2.taken), .val (.int .i64 r.2.2.2.lost)]]), some (.row 3 true (List.map encMsg r.2.2.2.l))] [] := by
  rw [f42] at h
  refine ic_of (N := 19) (rs := [.tmp 2, .tmp 3, .tmp 4]) Try.func42 rfl rfl rfl (Nat.le_of_ble_eq_true rfl) ?_
  refine AW.regL [0] ?_
  generalize hK : AW Try.prog _ _ _ = K
  simp only [go_sem, ↓reduceIte, reduceCtorEq, Nat.reduceAdd, Nat.reduceSub, Nat.reduceMul, Nat.reduceEqDiff, Nat.reduceLT, Nat.reduceLeDiff, Nat.reduceBEq, Int.reduceAdd, Int.reduceSub, Int.reduceLT, Int.reduceLE, Int.reduceEq, Int.reduceToNat]
  subst hK
  refine AW.seq ?_
  refine AW.regL [0, 6] ?_
  generalize hK : AW Try.prog _ _ _ = K
  simp only [go_sem, ↓reduceIte, reduceCtorEq, Nat.reduceAdd, Nat.reduceSub, Nat.reduceMul, Nat.reduceEqDiff, Nat.reduceLT, Nat.reduceLeDiff, Nat.reduceBEq, Int.reduceAdd, Int.reduceSub, Int.reduceLT, Int.reduceLE, Int.reduceEq, Int.reduceToNat]
  subst hK
  refine AW.ifBF rfl rfl ?_
  refine AW.skip ?_
  refine thenA_n ?_
  refine AW.regdL [2, 3, 4] [[], [0], [0, 1], [0, 1, 2], [], [4], [4, 5], [4, 5, 6], [], [8], [8, 9], [8, 9, 10], [0, 1, 2, 3], [0, 1, 2, 3, 4, 5, 6, 7, 12], [0, 1, 2, 3, 4, 5, 6, 7, 8, 9, 10, 11, 12, 13]] [0, 1, 2, 3, 4, 5, 6, 7, 8, 9, 10, 11, 12, 13, 14] noFt (fun _ _ _ h => by simp [noFt] at h) draws (by kernel_rfl) (by kernel_rfl) ?_
  generalize hK : AW Try.prog _ _ _ = K
  simp only [go_sem, ↓reduceIte, reduceCtorEq, Nat.reduceAdd, Nat.reduceSub, Nat.reduceMul, Nat.reduceEqDiff, Nat.reduceLT, Nat.reduceLeDiff, Nat.reduceBEq, Int.reduceAdd, Int.reduceSub, Int.reduceLT, Int.reduceLE, Int.reduceEq, Int.reduceToNat]
  subst hK
  refine AW.ent (st' := ⟨(upd (upd (upd anyF 2 (.val (.int .i64 a0.sent))) 3 (.val (.int .i64 a0.taken))) 4 (.val (.int .i64 a0.lost))), hpL [some (.row 14 true [[.val (.int .i64 a0.nodes), .val (.int .i64 a0.most), .val (.bool a0.down.e0), .val (.bool a0.down.e1), .val (.bool a0.down.e2), .val (.bool a0.down.e3), .val (.bool a0.down.e4), .val (.bool a0.down.e5), .val (.bool a0.down.e6), .val (.bool a0.down.e7), .own 1 0 a0.l.length, .val (.int .i64 a0.sent), .val (.int .i64 a0.taken), .val (.int .i64 a0.lost)]]), some (.row 3 true (List.map encMsg a0.l))] [], 8⟩) ?_ ?_
  · refine Ent.can [] _ _ _ rfl (by first | decide | simp) rfl ?_ ?_ ?_
    · exact (((RF.any.pv (by first | rfl | simp only [go_sem]) (by first | rfl | simp [upd_ap, hpL_ap, tau, mapT, mapTL, bytesI_len])).pv (by first | rfl | simp only [go_sem]) (by first | rfl | simp [upd_ap, hpL_ap, tau, mapT, mapTL, bytesI_len])).pv (by first | rfl | simp only [go_sem]) (by first | rfl | simp [upd_ap, hpL_ap, tau, mapT, mapTL, bytesI_len]))
    · exact .cons (.tok (by simp [tokL, tokLL, inlR]) (by first | rfl | simp [upd_ap, hpL_ap, tau, mapT, mapTL, bytesI_len])) (.cons (.eq (by first | rfl | simp only [go_sem]) (by first | rfl | simp [upd_ap, hpL_ap, tau, mapT, mapTL, bytesI_len])) (.nil _))
    · exact .nil _
  refine AW.ret ?_
  obtain rfl := Option.some.inj h
  exact ⟨rfl, rfl, _, rfl, by first | rfl | simp [resOf, upd_ap, bytesI_len]⟩
end Au
end Go.Proofs.Y1

set_option linter.all false
set_option maxRecDepth 8000
set_option maxHeartbeats 1000000
namespace Go.Proofs.Y1
open Go.Gm
namespace Au
noncomputable def f84 (a0 : List Msg) (a1 : Int) (a2 : Msg) : Option (List Msg) := if (0 ≤ a1 ∧ a1 ≤ a0.length) ∧ a0.length < 4611686018427387904 then some (a0.take a1.toNat ++ a2 :: a0.drop a1.toNat) else none
theorem ok84 (a0 : List Msg) (a1 : Int) (a2 : Msg) (r : List Msg) (h : f84 a0 a1 a2 = some r) : IC Try.prog 84 [some (.row 3 true (List.map encMsg a0 ++ [zMsg])), some (.row 3 true [encMsg a2])] [.own 0 0 a0.length, .val (.int .i64 a1), .own 1 0 1] (.own 0 0 r.length) [some (.row 3 true (List.map encMsg r))] [] := by
  unfold f84 at h
  split at h
  rotate_left
  · cases h
  rename_i hl
  obtain ⟨⟨h1, h2⟩, h3⟩ := hl
  obtain rfl := Option.some.inj h
  obtain ⟨n, rfl⟩ := Int.eq_ofNat_of_zero_le h1
  have hl : (a0.take (Int.toNat (n : Int)) ++ a2 :: a0.drop (Int.toNat (n : Int))).length = a0.length + 1 := by simp; omega
  rw [hl]
  exact ic_ins (fun _ => rfl) a0 a2 n (by omega) h3
end Au
end Go.Proofs.Y1
