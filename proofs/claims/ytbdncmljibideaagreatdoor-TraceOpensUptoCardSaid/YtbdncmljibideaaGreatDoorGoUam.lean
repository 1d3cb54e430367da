import Derived.Test.YtbdncmljibideaaGreatDoorGoUae
import Derived.Test.YtbdncmljibideaaGreatDoorGoUal
import Derived.Test.YtbdncmljibideaaGreatDoorGoUai
import Derived.Test.YtbdncmljibideaaGreatDoorGoUaf
import Derived.Test.YtbdncmljibideaaGreatDoorGoUah
import Derived.Test.YtbdncmljibideaaGreatDoorGoUaj
import Derived.Test.YtbdncmljibideaaGreatDoorGoUak
import Derived.KernelRfl
set_option linter.all false
noncomputable section
set_option maxRecDepth 8000
set_option maxHeartbeats 1000000
namespace Go.Proofs.Yt
open Go.Gm
namespace Au
def f9_s2 (a0 : List (A2 (List Int))) : (List (List Res)) × Int → Option (((List (List Res)) × Int) ⊕ (((List Res) × Int × ByteArray × Int) ⊕ (List (List Res))))
  | (s2_0, s2_1) => (if s2_1 < (a0.length : Int) then ((ix a0 s2_1).bind fun x28 => ((f36 x28.e0 x28.e1).bind fun x29 => (if x29.2 = 0 then ((appO? s2_0 [x29.1]).bind fun x31 => some (.inl (x31, IntKind.i64.wrap (s2_1 + 1)))) else some (.inr (.inl ([], x29.2, ⟨#[112, 97, 114, 116]⟩, s2_1)))))) else some (.inr (.inr s2_0)))
def f9_s6 (x35 : (List Record) × Int × Int) (x38 : (List Res)) (s3_0 : Int) : Int → Option (Int ⊕ (((List Res) × Int × ByteArray × Int) ⊕ Unit))
  | s6_0 => ((ix x38 s3_0).bind fun x97 => (if s6_0 < (x97.Offs.length : Int) then ((ix x97.Offs s6_0).bind fun x99 => ((f20 x35.1 x99).bind fun x100 => (if x100.2 = true then some (.inl (IntKind.i64.wrap (s6_0 + 1))) else some (.inr (.inl ([], 320, ⟨#[107, 101, 121]⟩, s3_0)))))) else some (.inr (.inr ()))))
def f9_s3 (x35 : (List Record) × Int × Int) (x38 : (List Res)) : Int → Option (Int ⊕ (((List Res) × Int × ByteArray × Int) ⊕ Unit))
  | s3_0 => (if s3_0 < ((x38.length : Nat) : Int) then ((loopO (f9_s6 x35 x38 s3_0) 0).bind fun y102 => match y102 with | .inl y103 => some (.inr (.inl y103)) | .inr _ => some (.inl (IntKind.i64.wrap (s3_0 + 1)))) else some (.inr (.inr ())))
def f9 (a0 : List (A2 (List Int))) (a1 : List Int) : Option ((List Res) × Int × ByteArray × Int) := ((loopO (f9_s2 a0) ([], 0)).bind fun y32 => match y32 with | .inl y33 => some y33 | .inr y34 => ((f15 a1).bind fun x35 => (if x35.2.2 = 0 then ((f37 y34).bind fun x38 => ((f38 x38).bind fun x41 => (if x41 = true then ((loopO (f9_s3 x35 x38) 0).bind fun y104 => match y104 with | .inl y105 => some y105 | .inr _ => some (x38, 0, ⟨#[]⟩, 0)) else some ([], 3, ⟨#[106, 111, 105, 110]⟩, 0)))) else some ([], x35.2.2, ⟨#[105, 110, 112, 117, 116]⟩, 0))))
theorem ok9 (a0 : List (A2 (List Int))) (a1 : List Int) (r : (List Res) × Int × ByteArray × Int) (h : f9 a0 a1 = some r) : PC Tryz.prog 9 [.sl (List.map enc71 a0), .sl (List.map enc5 a1)] (.tup [.fr 3 (List.map encRes r.1), .val (.int .i64 r.2.1), .val (.string r.2.2.1), .val (.int .i64 r.2.2.2)]) := by
 rw [f9] at h
 refine pc_of9 (N := 95) (rs := [.tmp 4, .tmp 5, .tmp 6, .tmp 7]) Tryz.func9 ?_
 refine AW.rX [0, 1] ?_
 refine AW.rX [0, 1, 8] ?_
 refine AW.seq <| AW.rX [0, 1, 8, 9] ?_
 refine AW.block ?_
 obtain ⟨y32, hy32, h⟩ := bO h
 refine AW.loopO (fun s => ⟨(upd (upd (upd (upd anyF 0 (.sl (List.map enc71 a0))) 1 (.sl (List.map enc5 a1))) 8 (.own 8 0 s.1.length)) 9 (.val (.int .i64 s.2))), hpL [] [some (.row 1 true (List.map enc31 s.1))], 9⟩) (fun y e st' => match y with | .inl z => e = Exit.ret ∧ finA Tryz.prog [.tmp 4, .tmp 5, .tmp 6, .tmp 7] (.tup [.fr 3 (List.map encRes z.1), .val (.int .i64 z.2.1), .val (.string z.2.2.1), .val (.int .i64 z.2.2.2)]) .ret st' | .inr z => e = Exit.exit 0 ∧ st' = ⟨(upd (upd anyF 1 (.sl (List.map enc5 a1))) 8 (.own 8 0 z.length)), hpL [] [some (.row 1 true (List.map enc31 z))], 9⟩) hy32 ?_ ?_ ?_
 ·refine Ent.trans (Ent.nilOwn 8 1 (by decide) rfl) ?_
  exact Ent.canq [56] RF.any.qv.qv.qo.qv (.nil _) (.ce (.nil _))
 ·clear h hy32
  rintro ⟨s2_0, s2_1⟩ x h
  rw [f9_s2] at h
  refine AW.seq <| AW.rX [0, 1, 8, 9, 23] ?_
  rcases iteO h with ⟨c27, h⟩ | ⟨c27, h⟩
  ·refine AW.ifT rfl c27 <| AW.skip <| thenA_n <| AW.seq <| AW.block ?_
   obtain ⟨x28, hx28, h⟩ := bO h
   obtain ⟨hx28a, hx28b⟩ := ix_some.1 hx28
   obtain ⟨x29, hx29, h⟩ := bO h
   refine AW.rG [0, 1, 8, 9, 10, 11] [0,0,3,7,15,0,0,96,224,480,1023,2047,4095,4095,8191,32767] (ok36 x28.e0 x28.e1 x29 hx29) Tryz.call36 ?_
   generalize hK : AW Tryz.prog _ _ _ = K
   simp only [go_sem, seval, natOf_le hx28a, hx28b]
   subst hK
   refine AW.seq <| AW.rX [0, 1, 8, 9, 10, 11, 41] ?_
   rcases iteO h with ⟨c30, h⟩ | ⟨c30, h⟩
   ·refine AW.ifF rfl (fun q => q c30) <| AW.skip <| thenA_n <| AW.ent (Ent.still 10 rfl (own_sl (sz := 3) (m := true) rfl (by first | rfl | simp [bytesI_len, eq_true c27, eq_true c30]) (by simp only [go_sem]))) ?_
    obtain ⟨x31, hx31, h⟩ := bO h
    obtain ⟨hx31b, hx31e⟩ := appO?_some.1 hx31
    have hx31f : ∀ id o : Nat, appO 1 24 id ([[.sl (List.map encRes x29.1)]]) 0 s2_0.length o (some (.row 1 true (List.map enc31 s2_0))) = some ⟨.own id 0 x31.length, [(o, none), (id, some (.row 1 true (List.map enc31 x31)))]⟩ := fun id o => by
      subst hx31e; rw [appO_ok (by simp) (by simpa using hx31b) (by decide)]; first | (simp [enc31]; done) | (simp [enc31]; omega)
    refine AW.sY [0, 1, 8, 9] ?_
    refine block_n <| thenA_n <| AW.rY [0, 1, 8, 9] ?_
    refine thenA_n ?_
    refine ⟨_, oj h, ?_⟩
    exact Ent.canq [209] RF.any.qv.qv.qo.qv (.nil _) (.ce (.nil _))
   ·refine AW.ifT rfl c30 <| AW.rX [4, 5, 6, 7] ?_
    refine AW.ent (Ent.nilOwn 4 3 (by decide) rfl) ?_
    refine AW.ret <| thenA_r <| block_r <| thenA_r <| thenA_r ?_
    refine ⟨_, oj h, _, Ent.refl, rfl, ?_⟩
    (simp only [go_sem, seval, finA] <;> try simp)
  ·refine AW.ifF rfl c27 <| AW.exit <| thenA_x <| thenA_x ?_
   refine ⟨_, oj h, _, ?_, rfl, rfl⟩
   exact Ent.canq [8] RF.any.qv.qo (.nil _) (.ce (.nil _))
 ·intro e st' hX
  rcases y32 with y33 | y34 <;> dsimp only at h hX
  ·obtain ⟨rfl, hf⟩ := hX
   refine ⟨_, Ent.refl, ?_⟩
   refine block_r <| thenA_r ?_
   obtain rfl := oi h
   exact hf
  ·obtain ⟨rfl, rfl⟩ := hX
   refine ⟨_, Ent.refl, ?_⟩
   refine block_x <| thenA_n ?_
   obtain ⟨x35, hx35, h⟩ := bO h
   refine AW.rC [8, 12, 14] (ok15 a1 x35 hx35) Tryz.call15 ?_
   refine AW.seq <| AW.rX [8, 12, 14, 55] ?_
   rcases iteO h with ⟨c37, h⟩ | ⟨c37, h⟩
   ·refine AW.ifF rfl (fun q => q c37) <| AW.skip <| thenA_n ?_
    obtain ⟨x38, hx38, h⟩ := bO h
    refine AW.rC [12, 15] (ok37 y34 x38 hx38) Tryz.call37 ?_
    refine AW.seq ?_
    obtain ⟨x41, hx41, h⟩ := bO h
    refine AW.rC [12, 15, 61] (ok38 x38 x41 hx41) Tryz.call38 ?_
    rcases iteO h with ⟨c42, h⟩ | ⟨c42, h⟩
    ·refine AW.ifBF rfl (by first | (rw [c42]; rfl) | simp_all) <| AW.skip <| thenA_n <| AW.seq <| AW.sX [12, 15, 16] ?_
     refine AW.block ?_
     obtain ⟨y104, hy104, h⟩ := bO h
     refine AW.loopO (fun s => ⟨(upd (upd (upd anyF 12 (.own 8 0 x35.1.length)) 15 (.own 9 0 x38.length)) 16 (.val (.int .i64 s))), hpL [] [some (.row 2 true (List.map encRecord x35.1)), some (.row 3 true (List.map encRes x38))], 10⟩) (fun y e st' => match y with | .inl z => e = Exit.ret ∧ finA Tryz.prog [.tmp 4, .tmp 5, .tmp 6, .tmp 7] (.tup [.fr 3 (List.map encRes z.1), .val (.int .i64 z.2.1), .val (.string z.2.2.1), .val (.int .i64 z.2.2.2)]) .ret st' | .inr z => e = Exit.exit 2 ∧ st' = ⟨(upd anyF 15 (.own 8 0 x38.length)), hpL [] [some (.row 3 true (List.map encRes x38))], 9⟩) hy104 ?_ ?_ ?_
     ·exact Ent.canq [17, 105] RF.any.qo.qo.qv (.nil _) (.ce (.ce (.nil _)))
     ·clear h hy104
      rintro s3_0 x h
      rw [f9_s3] at h
      refine AW.seq <| AW.sX [12, 15, 16, 65] ?_
      rcases iteO h with ⟨c80, h⟩ | ⟨c80, h⟩
      ·refine AW.ifT rfl c80 <| AW.skip <| thenA_n <| AW.seq <| AW.block <| AW.sX [12, 15, 16, 17] ?_
       refine AW.block ?_
       obtain ⟨y102, hy102, h⟩ := bO h
       refine AW.loopO (fun s => ⟨(upd (upd (upd (upd anyF 12 (.own 8 0 x35.1.length)) 15 (.own 9 0 x38.length)) 16 (.val (.int .i64 s3_0))) 17 (.val (.int .i64 s))), hpL [] [some (.row 2 true (List.map encRecord x35.1)), some (.row 3 true (List.map encRes x38))], 10⟩) (fun y e st' => match y with | .inl z => e = Exit.ret ∧ finA Tryz.prog [.tmp 4, .tmp 5, .tmp 6, .tmp 7] (.tup [.fr 3 (List.map encRes z.1), .val (.int .i64 z.2.1), .val (.string z.2.2.1), .val (.int .i64 z.2.2.2)]) .ret st' | .inr z => e = Exit.exit 4 ∧ st' = ⟨(upd (upd (upd anyF 12 (.own 8 0 x35.1.length)) 15 (.own 9 0 x38.length)) 16 (.val (.int .i64 s3_0))), hpL [] [some (.row 2 true (List.map encRecord x35.1)), some (.row 3 true (List.map encRes x38))], 10⟩) hy102 ?_ ?_ ?_
       ·exact Ent.canq [8, 9] RF.any.qo.qo.qv.qv (.nil _) (.ce (.ce (.nil _)))
       ·clear h hy102
        rintro s6_0 x h
        rw [f9_s6] at h
        refine AW.seq ?_
        obtain ⟨x97, hx97, h⟩ := bO h
        obtain ⟨hx97a, hx97b⟩ := ix_some.1 hx97
        refine AW.rK [12, 15, 16, 17, 75] fun K hK => ?_
        simp only [go_sem, seval, c42, eq_true c80, natOf_le hx97a, hx97b, ix_lt hx97b]
        subst hK
        rcases iteO h with ⟨c98, h⟩ | ⟨c98, h⟩
        ·refine AW.ifT rfl c98 <| AW.skip <| thenA_n <| AW.seq <| AW.block ?_
         obtain ⟨x99, hx99, h⟩ := bO h
         obtain ⟨hx99a, hx99b⟩ := ix_some.1 hx99
         obtain ⟨x100, hx100, h⟩ := bO h
         refine AW.rK [12, 15, 16, 17, 19] fun K hK => ?_
         simp only [go_sem, seval, c42, eq_true c80, eq_true c98, natOf_le hx97a, hx97b, ix_lt hx97b, natOf_le hx99a, hx99b]
         refine arC.of (ok20 x35.1 x99 x100 hx100) Tryz.call20 ?_
         simp only [go_sem, seval, c42, eq_true c80, eq_true c98, natOf_le hx97a, hx97b, ix_lt hx97b, natOf_le hx99a, hx99b]
         subst hK
         refine AW.rK [12, 15, 16, 17, 92] fun K hK => ?_
         simp only [go_sem, seval, c42, eq_true c80, eq_true c98]
         subst hK
         rcases iteO h with ⟨c101, h⟩ | ⟨c101, h⟩
         ·refine AW.ifBF rfl (by first | (rw [c101]; rfl) | simp_all) <| AW.skip <| block_n <| thenA_n <| AW.sY [12, 15, 16, 17] ?_
          refine thenA_n ?_
          refine ⟨_, oj h, ?_⟩
          exact Ent.canq [8, 9] RF.any.qo.qo.qv.qv (.nil _) (.ce (.ce (.nil _)))
         ·rw [Bool.not_eq_true] at c101
          refine AW.ifBT rfl (by first | (rw [c101]; rfl) | simp_all) <| AW.sX [4, 5, 6, 7] ?_
          refine AW.ent (Ent.nilOwn 4 3 (by decide) rfl) ?_
          refine AW.ret <| block_r <| thenA_r <| thenA_r ?_
          refine ⟨_, oj h, _, Ent.refl, rfl, ?_⟩
          (simp only [go_sem, seval, c42, eq_true c80, eq_true c98, c101, finA] <;> try simp)
        ·refine AW.ifF rfl c98 <| AW.exit <| thenA_x <| thenA_x ?_
         refine ⟨_, oj h, _, ?_, rfl, rfl⟩
         exact Ent.canq [8, 9] RF.any.qo.qo.qv (.nil _) (.ce (.ce (.nil _)))
       ·intro e st' hX
        rcases y102 with y103 | _ <;> dsimp only at h hX
        ·obtain ⟨rfl, hf⟩ := hX
         refine ⟨_, Ent.refl, ?_⟩
         refine block_r <| block_r <| thenA_r <| thenA_r ?_
         refine ⟨_, oj h, _, Ent.refl, rfl, ?_⟩
         exact hf
        ·obtain ⟨rfl, rfl⟩ := hX
         refine ⟨_, Ent.refl, ?_⟩
         refine block_x <| block_n <| thenA_n <| AW.sY [12, 15, 16] ?_
         refine thenA_n ?_
         refine ⟨_, oj h, ?_⟩
         exact Ent.canq [8, 9] RF.any.qo.qo.qv (.nil _) (.ce (.ce (.nil _)))
      ·refine AW.ifF rfl c80 <| AW.exit <| thenA_x <| thenA_x ?_
       refine ⟨_, oj h, _, ?_, rfl, rfl⟩
       exact Ent.canq [9] RF.any.qo (.nil _) (.ce (.nil _))
     ·intro e st' hX
      rcases y104 with y105 | _ <;> dsimp only at h hX
      ·obtain ⟨rfl, hf⟩ := hX
       refine ⟨_, Ent.refl, ?_⟩
       refine block_r <| thenA_r ?_
       obtain rfl := oi h
       exact hf
      ·obtain ⟨rfl, rfl⟩ := hX
       refine ⟨_, Ent.refl, ?_⟩
       refine block_x <| thenA_n <| AW.sX [4, 5, 6, 7] ?_
       refine AW.ret ?_
       obtain rfl := oi h
       (simp only [go_sem, seval, c42, finA] <;> try simp)
    ·rw [Bool.not_eq_true] at c42
     refine AW.ifBT rfl (by first | (rw [c42]; rfl) | simp_all) <| AW.sX [4, 5, 6, 7] ?_
     refine AW.ent (Ent.nilOwn 4 3 (by decide) rfl) ?_
     refine AW.ret <| thenA_r ?_
     obtain rfl := oi h
     (simp only [go_sem, seval, c42, finA] <;> try simp)
   ·refine AW.ifT rfl c37 <| AW.rX [4, 5, 6, 7] ?_
    refine AW.ent (Ent.nilOwn 4 3 (by decide) rfl) ?_
    refine AW.ret <| thenA_r ?_
    obtain rfl := oi h
    (simp only [go_sem, seval, finA] <;> try simp)
structure Small (a : List (A2 (List Int))) (b : List Int) : Prop where
 n : a.length ≤ 8
 l0 : ∀ p ∈ a, p.e0.length ≤ 2500 ∧ p.e1.length ≤ 2500
 b0 : ∀ p ∈ a, Byt p.e0 ∧ Byt p.e1
 lb : b.length ≤ 2500
 bb : Byt b
theorem f33_eq (s : ByteArray) (k : Int) {e : Int} (he : e ≠ 0) : f33 s k e = some (Er.slip s k (Er.no e)) := by
 simp only [f33, f44, if_neg he, Option.bind_some, f61]
 rfl
theorem len_flat {ps : List (List Res)} {n : Nat} (h : ∀ p ∈ ps, p.length ≤ n) : ps.flatten.length ≤ ps.length * n := by
 induction ps with
 | nil => simp
 | cons p ps ih =>
  have h1 := h p (by simp)
  have h2 := ih (fun q hq => h q (by simp [hq]))
  simp only [List.flatten_cons, List.length_append, List.length_cons, Nat.succ_mul]
  omega
theorem reads_eq {a : List (A2 (List Int))} {b : List Int} (h : Small a b) :
  (∃ e i, e ≠ 0 ∧ f30 a = some ([], Er.slip ⟨#[112, 97, 114, 116]⟩ i (Er.no e)) ∧ loopO (f9_s2 a) ([], 0) = some (.inl ([], e, ⟨#[112, 97, 114, 116]⟩, i))) ∨
  (∃ ps J, loopO (f9_s2 a) ([], 0) = some (.inr ps) ∧ f30 a = some (J, Er.nil) ∧ f37 ps = some J ∧ SzR J ∧ J.length ≤ 20000 ∧ Srt ltI J) := by
 have hn := h.n
 have key : ∃ r r', loopO (f30_s1 a) ([], 0) = some r ∧ loopO (f9_s2 a) ([], 0) = some r' ∧ ((∃ e i, e ≠ 0 ∧ r = .inl ([], Er.slip ⟨#[112, 97, 114, 116]⟩ i (Er.no e)) ∧ r' = .inl ([], e, ⟨#[112, 97, 114, 116]⟩, i)) ∨ ∃ ps, r = .inr ps ∧ r' = .inr ps ∧ ps.length ≤ 8 ∧ ∀ p ∈ ps, SzR p ∧ p.length ≤ 2500) := by
  refine loopO_two (fun k s t => s = t ∧ ∃ (i : Nat) (ps : List (List Res)), s = (ps, (i : Int)) ∧ i ≤ a.length ∧ ps.length = i ∧ (∀ p ∈ ps, SzR p ∧ p.length ≤ 2500) ∧ k = a.length - i) ?_ (k := a.length) ⟨rfl, 0, [], rfl, by omega, rfl, (fun p hp => by cases hp), rfl⟩
  rintro k _ _ ⟨rfl, i, ps, rfl, hi, hpl, hps, hk⟩
  by_cases c : i < a.length
  ·obtain ⟨l0, l1⟩ := h.l0 _ (List.getElem_mem c)
   obtain ⟨b0, b1⟩ := h.b0 _ (List.getElem_mem c)
   obtain ⟨⟨m, e⟩, r1, r2, r3, r4⟩ := read_eq b0 b1 (by omega) (by omega)
   simp only at r3 r4
   by_cases he : e = 0
   ·subst he
    have hap : appO? ps [m] = some (ps ++ [m]) := appO_ok' (by omega) (by simp)
    refine .inl ⟨(ps ++ [m], ((i + 1 : Nat) : Int)), (ps ++ [m], ((i + 1 : Nat) : Int)), k - 1, ?_, ?_, by omega, rfl, i + 1, ps ++ [m], rfl, by omega, by simp [hpl], fun p hp => ?_, by omega⟩
    ·simp only [f30_s1, if_pos (show (i : Int) < (a.length : Int) by omega), ixN c, Option.bind_some, r1, if_true, hap, wrapN (show i ≤ 10000000000 by omega)]
    ·simp only [f9_s2, if_pos (show (i : Int) < (a.length : Int) by omega), ixN c, Option.bind_some, r2, if_true, hap, wrapN (show i ≤ 10000000000 by omega)]
    ·rcases List.mem_append.1 hp with hp | hp
     ·exact hps p hp
     ·simp at hp; subst hp; exact ⟨r3, by omega⟩
   ·refine .inr ⟨_, _, loopO_done ?_, loopO_done ?_, .inl ⟨e, (i : Int), he, rfl, rfl⟩⟩
    ·simp only [f30_s1, if_pos (show (i : Int) < (a.length : Int) by omega), ixN c, Option.bind_some, r1, if_neg he, f33_eq _ _ he]
    ·simp only [f9_s2, if_pos (show (i : Int) < (a.length : Int) by omega), ixN c, Option.bind_some, r2, if_neg he]
  ·refine .inr ⟨_, _, loopO_done ?_, loopO_done ?_, .inr ⟨ps, rfl, rfl, by omega, hps⟩⟩
   ·simp only [f30_s1, if_neg (show ¬ (i : Int) < (a.length : Int) by omega)]
   ·simp only [f9_s2, if_neg (show ¬ (i : Int) < (a.length : Int) by omega)]
 obtain ⟨_, _, k1, k2, k3⟩ := key
 rcases k3 with ⟨e, i, he, rfl, rfl⟩ | ⟨ps, rfl, rfl, hpl, hps⟩
 ·exact .inl ⟨e, i, he, by simp only [f30, k1, Option.bind_some], k2⟩
 ·have hfl := len_flat (fun p hp => (hps p hp).2)
  have hfl2 : ps.length * 2500 ≤ 8 * 2500 := Nat.mul_le_mul_right _ hpl
  have hel : ∀ r ∈ ps.flatten, r.Key.size ≤ 1000000 ∧ r.Offs.length ≤ 1000000 := fun r hr => by
   obtain ⟨p, hp, hr⟩ := List.mem_flatten.1 hr
   exact ⟨(hps p hp).1.key r hr, (hps p hp).1.off r hr⟩
  obtain ⟨J, j1, j2, j3⟩ := join_eq ps (by omega) (by omega) hel
  have hmem : ∀ r ∈ J, r ∈ ps.flatten := fun r hr => j3.sf.mem swoI hr
  have hJl := j3.len
  refine .inr ⟨ps, J, k2, by simp only [f30, k1, Option.bind_some, j1], j2, ⟨by omega, fun r hr => (hel r (hmem r hr)).1, fun r hr => (hel r (hmem r hr)).2⟩, by omega, j3.srt⟩
theorem insM_mem (x : Int) (l : List Int) (y : Int) : y ∈ insM x l ↔ y = x ∨ y ∈ l := by
 unfold insM
 split
 ·rename_i h
  constructor
  ·exact .inr
  ·rintro (rfl | h')
   ·exact h
   ·exact h'
 ·simp [or_comm]
theorem offs_eq {L : List Record} {q : Int × Int} (hl : L.length ≤ 1000000) : ∃ m, loopO (f31_s1 (L, q)) ([], 0) = some m ∧ ∀ o, o ∈ m ↔ ∃ r ∈ L, r.Off = o := by
 refine loopO_of (fun n s => ∃ (i : Nat) (m : List Int), s = (m, (i : Int)) ∧ i ≤ L.length ∧ (∀ o, o ∈ m ↔ ∃ r ∈ L.take i, r.Off = o) ∧ n = L.length - i) ?_ (k := L.length) ⟨0, [], rfl, by omega, by simp, rfl⟩
 rintro n _ ⟨i, m, rfl, hi, hm, hn⟩
 by_cases c : i < L.length
 ·refine .inl ⟨(insM L[i].Off m, ((i + 1 : Nat) : Int)), n - 1, ?_, by omega, i + 1, _, rfl, by omega, fun o => ?_, by omega⟩
  ·simp only [f31_s1, if_pos (show (i : Int) < ((L.length : Nat) : Int) by omega), ixN c, Option.bind_some, wrapN (show i ≤ 10000000000 by omega)]
  ·rw [insM_mem, hm, List.take_succ_eq_append_getElem c]
   constructor
   ·rintro (rfl | ⟨r, hr, rfl⟩)
    ·exact ⟨L[i], List.mem_append_right _ (List.mem_singleton.2 rfl), rfl⟩
    ·exact ⟨r, List.mem_append_left _ hr, rfl⟩
   ·rintro ⟨r, hr, rfl⟩
    rcases List.mem_append.1 hr with hr | hr
    ·exact .inr ⟨r, hr, rfl⟩
    ·simp at hr; subst hr; exact .inl rfl
 ·refine .inr ⟨m, by simp only [f31_s1, if_neg (show ¬ (i : Int) < ((L.length : Nat) : Int) by omega)], ?_⟩
  rwa [List.take_of_length_le (by omega)] at hm
theorem which_eq (L : List Record) (hl : L.length ≤ 1000000) (o : Int) : (∃ i : Nat, i < L.length ∧ f20 L o = some ((i : Int), true) ∧ ∃ r ∈ L, r.Off = o) ∨ (f20 L o = some (0, false) ∧ ¬ ∃ r ∈ L, r.Off = o) := by
 have key : ∃ r, loopO (f20_s1 L o) 0 = some r ∧ ((∃ i : Nat, i < L.length ∧ r = .inl ((i : Int), true) ∧ ∃ r ∈ L, r.Off = o) ∨ (r = .inr () ∧ ¬ ∃ r ∈ L, r.Off = o)) := by
  refine loopO_of (fun n s => ∃ (i : Nat), s = (i : Int) ∧ i ≤ L.length ∧ (∀ r ∈ L.take i, r.Off ≠ o) ∧ n = L.length - i) ?_ (k := L.length) ⟨0, rfl, by omega, by simp, rfl⟩
  rintro n _ ⟨i, rfl, hi, hm, hn⟩
  by_cases c : i < L.length
  ·by_cases e : L[i].Off = o
   ·exact .inr ⟨_, by simp only [f20_s1, if_pos (show (i : Int) < (L.length : Int) by omega), ixN c, Option.bind_some, if_pos e], .inl ⟨i, c, rfl, _, List.getElem_mem c, e⟩⟩
   ·refine .inl ⟨((i + 1 : Nat) : Int), n - 1, by simp only [f20_s1, if_pos (show (i : Int) < (L.length : Int) by omega), ixN c, Option.bind_some, if_neg e, wrapN (show i ≤ 10000000000 by omega)], by omega, i + 1, rfl, by omega, fun r hr => ?_, by omega⟩
    rw [List.take_succ_eq_append_getElem c] at hr
    rcases List.mem_append.1 hr with hr | hr
    ·exact hm r hr
    ·simp at hr; subst hr; exact e
  ·refine .inr ⟨_, by simp only [f20_s1, if_neg (show ¬ (i : Int) < (L.length : Int) by omega)], .inr ⟨rfl, ?_⟩⟩
   rw [List.take_of_length_le (by omega)] at hm
   rintro ⟨r, hr, e⟩; exact hm r hr e
 obtain ⟨_, k1, k2⟩ := key
 rcases k2 with ⟨i, hi, rfl, hx⟩ | ⟨rfl, hx⟩
 ·exact .inl ⟨i, hi, by simp only [f20, k1, Option.bind_some], hx⟩
 ·exact .inr ⟨by simp only [f20, k1, Option.bind_some], hx⟩
theorem any_eq (l m : List Int) (hl : l.length ≤ 1000000) : ∃ v : Bool, f34_35 l m = some v ∧ (v = true ↔ ∃ o ∈ l, o ∉ m) := by
 have key : ∃ r, loopO (f62_35_s1 l m) 0 = some r ∧ ((∃ i : Nat, r = .inl (i : Int) ∧ ∃ o ∈ l, o ∉ m) ∨ (r = .inr () ∧ ¬ ∃ o ∈ l, o ∉ m)) := by
  refine loopO_of (fun n s => ∃ (i : Nat), s = (i : Int) ∧ i ≤ l.length ∧ (∀ o ∈ l.take i, o ∈ m) ∧ n = l.length - i) ?_ (k := l.length) ⟨0, rfl, by omega, by simp, rfl⟩
  rintro n _ ⟨i, rfl, hi, hm, hn⟩
  by_cases c : i < l.length
  ·by_cases e : l[i] ∈ m
   ·have hd : (!(decide (l[i] ∈ m))) = false := by simp [e]
    refine .inl ⟨((i + 1 : Nat) : Int), n - 1, by simp only [f62_35_s1, if_pos (show (i : Int) < (l.length : Int) by omega), ixN c, Option.bind_some, f35, hd, Bool.false_eq_true, if_false, wrapN (show i ≤ 10000000000 by omega)], by omega, i + 1, rfl, by omega, fun o ho => ?_, by omega⟩
    rw [List.take_succ_eq_append_getElem c] at ho
    rcases List.mem_append.1 ho with ho | ho
    ·exact hm o ho
    ·simp at ho; subst ho; exact e
   ·have hd : (!(decide (l[i] ∈ m))) = true := by simp [e]
    exact .inr ⟨_, by simp only [f62_35_s1, if_pos (show (i : Int) < (l.length : Int) by omega), ixN c, Option.bind_some, f35, hd, if_true], .inl ⟨i, rfl, _, List.getElem_mem c, e⟩⟩
  ·refine .inr ⟨_, by simp only [f62_35_s1, if_neg (show ¬ (i : Int) < (l.length : Int) by omega)], .inr ⟨rfl, ?_⟩⟩
   rw [List.take_of_length_le (by omega)] at hm
   rintro ⟨o, ho, e⟩; exact e (hm o ho)
 obtain ⟨_, k1, k2⟩ := key
 rcases k2 with ⟨i, rfl, hx⟩ | ⟨rfl, hx⟩
 ·exact ⟨decide ((0 : Int) ≤ (i : Int)), by simp only [f34_35, f62_35, k1, Option.bind_some], by simp only [decide_eq_true_eq]; exact ⟨fun _ => hx, fun _ => by omega⟩⟩
 ·exact ⟨decide ((0 : Int) ≤ -1), by simp only [f34_35, f62_35, k1, Option.bind_some], by simp only [decide_eq_true_eq]; exact ⟨fun h => by omega, fun h => absurd h hx⟩⟩
theorem ref_offs {L : List Record} {q : Int × Int} (hl : L.length ≤ 1000000) {J : List Res} {i : Nat} (hi : i < J.length) (ho : J[i].Offs.length ≤ 1000000) :
  (loopO (f9_s6 (L, q) J (i : Int)) 0 = some (.inr ()) ∧ ∀ o ∈ J[i].Offs, ∃ r ∈ L, r.Off = o) ∨ (loopO (f9_s6 (L, q) J (i : Int)) 0 = some (.inl ([], 320, ⟨#[107, 101, 121]⟩, (i : Int))) ∧ ∃ o ∈ J[i].Offs, ¬ ∃ r ∈ L, r.Off = o) := by
 have key : ∃ r, loopO (f9_s6 (L, q) J (i : Int)) 0 = some r ∧ ((r = .inr () ∧ ∀ o ∈ J[i].Offs, ∃ r ∈ L, r.Off = o) ∨ (r = .inl ([], 320, ⟨#[107, 101, 121]⟩, (i : Int)) ∧ ∃ o ∈ J[i].Offs, ¬ ∃ r ∈ L, r.Off = o)) := by
  refine loopO_of (fun n s => ∃ (k : Nat), s = (k : Int) ∧ k ≤ J[i].Offs.length ∧ (∀ o ∈ J[i].Offs.take k, ∃ r ∈ L, r.Off = o) ∧ n = J[i].Offs.length - k) ?_ (k := J[i].Offs.length) ⟨0, rfl, by omega, by simp, rfl⟩
  rintro n _ ⟨k, rfl, hk, hm, hn⟩
  by_cases c : k < J[i].Offs.length
  ·rcases which_eq L hl J[i].Offs[k] with ⟨w, _, w1, w2⟩ | ⟨w1, w2⟩
   ·refine .inl ⟨((k + 1 : Nat) : Int), n - 1, by simp only [f9_s6, ixN hi, Option.bind_some, if_pos (show (k : Int) < (J[i].Offs.length : Int) by omega), ixN c, w1, if_true, wrapN (show k ≤ 10000000000 by omega)], by omega, k + 1, rfl, by omega, fun o ho => ?_, by omega⟩
    rw [List.take_succ_eq_append_getElem c] at ho
    rcases List.mem_append.1 ho with ho | ho
    ·exact hm o ho
    ·simp at ho; subst ho; exact w2
   ·exact .inr ⟨_, by simp only [f9_s6, ixN hi, Option.bind_some, if_pos (show (k : Int) < (J[i].Offs.length : Int) by omega), ixN c, w1, Bool.false_eq_true, if_false], .inr ⟨rfl, _, List.getElem_mem c, w2⟩⟩
  ·refine .inr ⟨_, by simp only [f9_s6, ixN hi, Option.bind_some, if_neg (show ¬ (k : Int) < (J[i].Offs.length : Int) by omega)], .inl ⟨rfl, ?_⟩⟩
   rwa [List.take_of_length_le (by omega)] at hm
 obtain ⟨_, k1, k2⟩ := key
 rcases k2 with ⟨rfl, h⟩ | ⟨rfl, h⟩
 ·exact .inl ⟨k1, h⟩
 ·exact .inr ⟨k1, h⟩
theorem open_eq {a : List (A2 (List Int))} {b : List Int} (h : Small a b) :
  (∃ e st k, e ≠ 0 ∧ f8 a b = some (none, Er.slip st k (Er.no e)) ∧ f9 a b = some ([], e, st, k)) ∨
  (∃ J m L, f8 a b = some (some ⟨J, m⟩, Er.nil) ∧ f9 a b = some (J, 0, ⟨#[]⟩, 0) ∧ SzR J ∧ J.length ≤ 20000 ∧ Srt ltI J ∧ RightR J ∧ f15 b = some (L, (b.length : Int), 0) ∧ L.length ≤ 2501 ∧ (∀ o, o ∈ m ↔ ∃ r ∈ L, r.Off = o) ∧ ∀ r ∈ J, ∀ o ∈ r.Offs, o ∈ m) := by
 have hlb := h.lb
 rcases reads_eq h with ⟨e, i, he, p1, p2⟩ | ⟨ps, J, p1, p2, p3, p4, p5, p6⟩
 ·refine .inl ⟨e, ⟨#[112, 97, 114, 116]⟩, i, he, ?_, ?_⟩
  ·simp only [f8, p1, Option.bind_some, Er.isNil, Bool.false_eq_true, if_false]
  ·simp only [f9, p2, Option.bind_some]
 obtain ⟨L, l1, l2, l3⟩ := records_eq h.bb (by omega)
 obtain ⟨m, m1, m2⟩ := offs_eq (L := L) (q := ((b.length : Int), 0)) (by omega)
 have e31 : f31 b = some (m, Er.nil) := by simp only [f31, l1, Option.bind_some, if_true, m1]
 obtain ⟨v, v1, v2, v3⟩ := right_eq J p4
 have e8 : f8 a b = (if v = true then ((loopO (f8_s2 (J, Er.nil) (m, Er.nil)) 0).bind fun y40 => match y40 with | .inl y41 => some y41 | .inr _ => some ((some ⟨J, m⟩), Er.nil)) else ((f33 ⟨#[106, 111, 105, 110]⟩ 0 3).bind fun x42 => some (none, x42))) := by
  simp only [f8, p2, Option.bind_some, Er.isNil, if_true, e31, v1]
  try rfl
 have e9 : f9 a b = (if v = true then ((loopO (f9_s3 (L, ((b.length : Int), 0)) J) 0).bind fun y104 => match y104 with | .inl y105 => some y105 | .inr _ => some (J, 0, ⟨#[]⟩, 0)) else some ([], 3, ⟨#[106, 111, 105, 110]⟩, 0)) := by
  simp only [f9, p1, Option.bind_some, l2, if_true, p3, v2]
  try rfl
 cases v with
 | false =>
  refine .inl ⟨3, ⟨#[106, 111, 105, 110]⟩, 0, by decide, ?_, ?_⟩
  ·rw [e8, if_neg (by decide), f33_eq _ _ (by decide)]; rfl
  ·rw [e9, if_neg (by decide)]
 | true =>
  have hR := v3.1 rfl
  have key : ∃ r r', loopO (f8_s2 (J, Er.nil) (m, Er.nil)) 0 = some r ∧ loopO (f9_s3 (L, ((b.length : Int), 0)) J) 0 = some r' ∧ ((r = .inr () ∧ r' = .inr () ∧ ∀ x ∈ J, ∀ o ∈ x.Offs, o ∈ m) ∨ ∃ i : Nat, r = .inl (none, Er.slip ⟨#[107, 101, 121]⟩ (i : Int) (Er.no 320)) ∧ r' = .inl ([], 320, ⟨#[107, 101, 121]⟩, (i : Int))) := by
   refine loopO_two (fun k s t => s = t ∧ ∃ i : Nat, s = (i : Int) ∧ i ≤ J.length ∧ (∀ x ∈ J.take i, ∀ o ∈ x.Offs, o ∈ m) ∧ k = J.length - i) ?_ (k := J.length) ⟨rfl, 0, rfl, by omega, by simp, rfl⟩
   rintro k _ _ ⟨rfl, i, rfl, hi, hm, hk⟩
   by_cases c : i < J.length
   ·have ho := p4.off _ (List.getElem_mem c)
    obtain ⟨w, w1, w2⟩ := any_eq J[i].Offs m ho
    rcases ref_offs (L := L) (q := ((b.length : Int), 0)) (by omega) c ho with ⟨r1, r2⟩ | ⟨r1, r2⟩
    ·have hw : w = false := by
      cases w with
      | false => rfl
      | true =>
       obtain ⟨o, o1, o2⟩ := w2.1 rfl
       exact absurd ((m2 o).2 (r2 o o1)) o2
     subst hw
     refine .inl ⟨((i + 1 : Nat) : Int), ((i + 1 : Nat) : Int), k - 1, ?_, ?_, by omega, rfl, i + 1, rfl, by omega, fun x hx => ?_, by omega⟩
     ·simp only [f8_s2, if_pos (show (i : Int) < ((J.length : Nat) : Int) by omega), ixN c, Option.bind_some, w1, Bool.false_eq_true, if_false, wrapN (show i ≤ 10000000000 by omega)]
     ·simp only [f9_s3, if_pos (show (i : Int) < ((J.length : Nat) : Int) by omega), r1, Option.bind_some, wrapN (show i ≤ 10000000000 by omega)]
     ·rw [List.take_succ_eq_append_getElem c] at hx
      rcases List.mem_append.1 hx with hx | hx
      ·exact hm x hx
      ·simp at hx; subst hx; exact fun o h' => (m2 o).2 (r2 o h')
    ·have hw : w = true := by
      obtain ⟨o, o1, o2⟩ := r2
      exact w2.2 ⟨o, o1, fun h' => o2 ((m2 o).1 h')⟩
     subst hw
     refine .inr ⟨_, _, loopO_done ?_, loopO_done ?_, .inr ⟨i, rfl, rfl⟩⟩
     ·simp only [f8_s2, if_pos (show (i : Int) < ((J.length : Nat) : Int) by omega), ixN c, Option.bind_some, w1, if_true, f33_eq _ _ (show (320 : Int) ≠ 0 by decide)]
     ·simp only [f9_s3, if_pos (show (i : Int) < ((J.length : Nat) : Int) by omega), r1, Option.bind_some]
   ·refine .inr ⟨_, _, loopO_done ?_, loopO_done ?_, .inl ⟨rfl, rfl, ?_⟩⟩
    ·simp only [f8_s2, if_neg (show ¬ (i : Int) < ((J.length : Nat) : Int) by omega)]
    ·simp only [f9_s3, if_neg (show ¬ (i : Int) < ((J.length : Nat) : Int) by omega)]
    ·rwa [List.take_of_length_le (by omega)] at hm
  obtain ⟨_, _, k1, k2, k3⟩ := key
  rcases k3 with ⟨rfl, rfl, k4⟩ | ⟨i, rfl, rfl⟩
  ·refine .inr ⟨J, m, L, ?_, ?_, p4, p5, p6, hR, l2, by omega, m2, k4⟩
   ·rw [e8, if_pos rfl, k1]; rfl
   ·rw [e9, if_pos rfl, k2]; rfl
  ·refine .inl ⟨320, ⟨#[107, 101, 121]⟩, (i : Int), by decide, ?_, ?_⟩
   ·rw [e8, if_pos rfl, k1]; rfl
   ·rw [e9, if_pos rfl, k2]; rfl
def f107_s1 (a0 : List Int) (a1 : Int) : Int → Option (Int ⊕ (Int ⊕ Unit))
  | s1_0 => (if s1_0 < (a0.length : Int) then ((ix a0 s1_0).bind fun x14 => (if a1 = x14 then some (.inr (.inl s1_0)) else some (.inl (IntKind.i64.wrap (s1_0 + 1))))) else some (.inr (.inr ())))
def f107 (a0 : List Int) (a1 : Int) : Option Int := ((loopO (f107_s1 a0 a1) 0).bind fun y16 => match y16 with | .inl y17 => some y17 | .inr _ => some (-1))
theorem ok107 (a0 : List Int) (a1 : Int) (r : Int) (h : f107 a0 a1 = some r) : PC Tryz.prog 107 [.sl (List.map enc3 a0), .val (.int .i64 a1)] (.val (.int .i64 r)) := by
 rw [f107] at h
 refine pc_of9 (N := 19) (rs := [.tmp 4]) Tryz.func107 ?_
 refine AW.rX [0, 1] ?_
 refine AW.seq <| AW.rX [0, 1, 7, 8] ?_
 refine AW.block ?_
 obtain ⟨y16, hy16, h⟩ := bO h
 refine AW.loopO (fun s => ⟨(upd (upd (upd (upd anyF 0 (.sl (List.map enc3 a0))) 1 (.val (.int .i64 a1))) 7 (.val (.int .i64 (a0.length : Int)))) 8 (.val (.int .i64 s))), hpL [] [], 8⟩) (fun y e st' => match y with | .inl z => e = Exit.ret ∧ finA Tryz.prog [.tmp 4] (.val (.int .i64 z)) .ret st' | .inr z => e = Exit.exit 0 ∧ st' = ⟨anyF, hpL [] [], 8⟩) hy16 ?_ ?_ ?_
 ·exact Ent.cq RF.any.qv.qv.qv.qv
 ·clear h hy16
  rintro s1_0 x h
  rw [f107_s1] at h
  refine AW.rX [0, 1, 7, 8, 9] ?_
  refine AW.seq ?_
  rcases iteO h with ⟨c13, h⟩ | ⟨c13, h⟩
  ·refine AW.ifT rfl c13 <| AW.skip <| thenA_n <| AW.seq <| AW.block <| AW.rX [0, 1, 5, 7, 8] ?_
   obtain ⟨x14, hx14, h⟩ := bO h
   obtain ⟨hx14a, hx14b⟩ := ix_some.1 hx14
   refine AW.sX [0, 1, 5, 7, 8, 16] ?_
   rcases iteO h with ⟨c15, h⟩ | ⟨c15, h⟩
   ·refine AW.ifT rfl c15 <| AW.rX [4] ?_
    refine AW.ret <| block_r <| thenA_r <| thenA_r ?_
    refine ⟨_, oj h, _, Ent.refl, rfl, ?_⟩
    (simp only [go_sem, seval, finA] <;> try simp)
   ·refine AW.ifF rfl c15 <| AW.skip <| block_n <| thenA_n <| AW.rY [0, 1, 7, 8] ?_
    refine thenA_n ?_
    refine ⟨_, oj h, ?_⟩
    exact Ent.cq RF.any.qv.qv.qv.qv
  ·refine AW.ifF rfl c13 <| AW.exit <| thenA_x <| thenA_x ?_
   refine ⟨_, oj h, _, ?_, rfl, rfl⟩
   exact Ent.cq RF.any
 ·intro e st' hX
  rcases y16 with y17 | _ <;> dsimp only at h hX
  ·obtain ⟨rfl, hf⟩ := hX
   refine ⟨_, Ent.refl, ?_⟩
   refine block_r <| thenA_r ?_
   obtain rfl := oi h
   exact hf
  ·obtain ⟨rfl, rfl⟩ := hX
   refine ⟨_, Ent.refl, ?_⟩
   refine block_x <| thenA_n <| AW.rX [4] ?_
   refine AW.ret ?_
   obtain rfl := oi h
   (simp only [go_sem, seval, finA] <;> try simp)
def f21_s1 (a0 : List Int) (a1 : List Int) : Int → Option (Int ⊕ (Bool ⊕ Unit))
  | s1_0 => (if s1_0 < (a0.length : Int) then ((ix a0 s1_0).bind fun x15 => ((ix a1 s1_0).bind fun x16 => (if x15 = x16 then some (.inl (IntKind.i64.wrap (s1_0 + 1))) else some (.inr (.inl false))))) else some (.inr (.inr ())))
def f21 (a0 : List Int) (a1 : List Int) : Option Bool := (if (a0.length : Int) = (a1.length : Int) then ((loopO (f21_s1 a0 a1) 0).bind fun y18 => match y18 with | .inl y19 => some y19 | .inr _ => some true) else some false)
theorem ok21 (a0 : List Int) (a1 : List Int) (r : Bool) (h : f21 a0 a1 = some r) : PC Tryz.prog 21 [.sl (List.map enc3 a0), .sl (List.map enc3 a1)] (.val (.bool r)) := by
 rw [f21] at h
 refine pc_of9 (N := 26) (rs := [.tmp 4]) Tryz.func21 ?_
 refine AW.rX [0, 1] ?_
 refine AW.seq <| AW.rX [0, 1, 10] ?_
 rcases iteO h with ⟨c2, h⟩ | ⟨c2, h⟩
 ·refine AW.ifF rfl (fun q => q c2) ?_
  refine AW.skip <| thenA_n <| AW.seq <| AW.rX [0, 1, 5] ?_
  refine AW.block ?_
  obtain ⟨y18, hy18, h⟩ := bO h
  refine AW.loopO (fun s => ⟨(upd (upd (upd anyF 0 (.sl (List.map enc3 a0))) 1 (.sl (List.map enc3 a1))) 5 (.val (.int .i64 s))), hpL [] [], 8⟩) (fun y e st' => match y with | .inl z => e = Exit.ret ∧ finA Tryz.prog [.tmp 4] (.val (.bool z)) .ret st' | .inr z => e = Exit.exit 0 ∧ st' = ⟨anyF, hpL [] [], 8⟩) hy18 ?_ ?_ ?_
  ·exact Ent.cq RF.any.qv.qv.qv
  ·clear h hy18
   rintro s1_0 x h
   rw [f21_s1] at h
   refine AW.seq <| AW.rX [0, 1, 5, 14] ?_
   rcases iteO h with ⟨c14, h⟩ | ⟨c14, h⟩
   ·refine AW.ifT rfl c14 <| AW.skip <| thenA_n <| AW.seq <| AW.block ?_
    obtain ⟨x15, hx15, h⟩ := bO h
    obtain ⟨hx15a, hx15b⟩ := ix_some.1 hx15
    obtain ⟨x16, hx16, h⟩ := bO h
    obtain ⟨hx16a, hx16b⟩ := ix_some.1 hx16
    refine AW.re [0, 1, 5, 25] [0,0,3,7,0,0,48,112,255] ?_
    generalize hK : AW Tryz.prog _ _ _ = K
    simp only [go_sem, seval, natOf_le hx15a, hx15b, natOf_le hx16a, hx16b]
    subst hK
    rcases iteO h with ⟨c17, h⟩ | ⟨c17, h⟩
    ·refine AW.ifF rfl (fun q => q c17) <| AW.skip <| block_n <| thenA_n <| AW.rY [0, 1, 5] ?_
     refine thenA_n ?_
     refine ⟨_, oj h, ?_⟩
     exact Ent.cq RF.any.qv.qv.qv
    ·refine AW.ifT rfl c17 <| AW.rX [4] ?_
     refine AW.ret <| block_r <| thenA_r <| thenA_r ?_
     refine ⟨_, oj h, _, Ent.refl, rfl, ?_⟩
     (simp only [go_sem, seval, finA] <;> try simp)
   ·refine AW.ifF rfl c14 <| AW.exit <| thenA_x <| thenA_x ?_
    refine ⟨_, oj h, _, ?_, rfl, rfl⟩
    exact Ent.cq RF.any
  ·intro e st' hX
   rcases y18 with y19 | _ <;> dsimp only at h hX
   ·obtain ⟨rfl, hf⟩ := hX
    refine ⟨_, Ent.refl, ?_⟩
    refine block_r <| thenA_r ?_
    obtain rfl := oi h
    exact hf
   ·obtain ⟨rfl, rfl⟩ := hX
    refine ⟨_, Ent.refl, ?_⟩
    refine block_x <| thenA_n <| AW.rX [4] ?_
    refine AW.ret ?_
    obtain rfl := oi h
    (simp only [go_sem, seval, finA] <;> try simp)
 ·refine AW.ifT rfl c2 <| AW.rX [4] ?_
  refine AW.ret <| thenA_r ?_
  obtain rfl := oi h
  (simp only [go_sem, seval, finA] <;> try simp)
def f22_s1 (a0 : List ByteArray) (a1 : List ByteArray) : Int → Option (Int ⊕ (Bool ⊕ Unit))
  | s1_0 => (if s1_0 < (a0.length : Int) then ((ix a0 s1_0).bind fun x15 => ((ix a1 s1_0).bind fun x16 => (if x15 = x16 then some (.inl (IntKind.i64.wrap (s1_0 + 1))) else some (.inr (.inl false))))) else some (.inr (.inr ())))
def f22 (a0 : List ByteArray) (a1 : List ByteArray) : Option Bool := (if (a0.length : Int) = (a1.length : Int) then ((loopO (f22_s1 a0 a1) 0).bind fun y18 => match y18 with | .inl y19 => some y19 | .inr _ => some true) else some false)
theorem ok22 (a0 : List ByteArray) (a1 : List ByteArray) (r : Bool) (h : f22 a0 a1 = some r) : PC Tryz.prog 22 [.sl (List.map enc9 a0), .sl (List.map enc9 a1)] (.val (.bool r)) := by
 rw [f22] at h
 refine pc_of9 (N := 26) (rs := [.tmp 4]) Tryz.func22 ?_
 refine AW.rX [0, 1] ?_
 refine AW.seq <| AW.rX [0, 1, 10] ?_
 rcases iteO h with ⟨c2, h⟩ | ⟨c2, h⟩
 ·refine AW.ifF rfl (fun q => q c2) ?_
  refine AW.skip <| thenA_n <| AW.seq <| AW.rX [0, 1, 5] ?_
  refine AW.block ?_
  obtain ⟨y18, hy18, h⟩ := bO h
  refine AW.loopO (fun s => ⟨(upd (upd (upd anyF 0 (.sl (List.map enc9 a0))) 1 (.sl (List.map enc9 a1))) 5 (.val (.int .i64 s))), hpL [] [], 8⟩) (fun y e st' => match y with | .inl z => e = Exit.ret ∧ finA Tryz.prog [.tmp 4] (.val (.bool z)) .ret st' | .inr z => e = Exit.exit 0 ∧ st' = ⟨anyF, hpL [] [], 8⟩) hy18 ?_ ?_ ?_
  ·exact Ent.cq RF.any.qv.qv.qv
  ·clear h hy18
   rintro s1_0 x h
   rw [f22_s1] at h
   refine AW.seq <| AW.rX [0, 1, 5, 14] ?_
   rcases iteO h with ⟨c14, h⟩ | ⟨c14, h⟩
   ·refine AW.ifT rfl c14 <| AW.skip <| thenA_n <| AW.seq <| AW.block ?_
    obtain ⟨x15, hx15, h⟩ := bO h
    obtain ⟨hx15a, hx15b⟩ := ix_some.1 hx15
    obtain ⟨x16, hx16, h⟩ := bO h
    obtain ⟨hx16a, hx16b⟩ := ix_some.1 hx16
    refine AW.re [0, 1, 5, 25] [0,0,3,7,0,0,48,112,255] ?_
    generalize hK : AW Tryz.prog _ _ _ = K
    simp only [go_sem, seval, natOf_le hx15a, hx15b, natOf_le hx16a, hx16b]
    subst hK
    rcases iteO h with ⟨c17, h⟩ | ⟨c17, h⟩
    ·refine AW.ifF rfl (fun q => q c17) <| AW.skip <| block_n <| thenA_n <| AW.rY [0, 1, 5] ?_
     refine thenA_n ?_
     refine ⟨_, oj h, ?_⟩
     exact Ent.cq RF.any.qv.qv.qv
    ·refine AW.ifT rfl c17 <| AW.rX [4] ?_
     refine AW.ret <| block_r <| thenA_r <| thenA_r ?_
     refine ⟨_, oj h, _, Ent.refl, rfl, ?_⟩
     (simp only [go_sem, seval, finA] <;> try simp)
   ·refine AW.ifF rfl c14 <| AW.exit <| thenA_x <| thenA_x ?_
    refine ⟨_, oj h, _, ?_, rfl, rfl⟩
    exact Ent.cq RF.any
  ·intro e st' hX
   rcases y18 with y19 | _ <;> dsimp only at h hX
   ·obtain ⟨rfl, hf⟩ := hX
    refine ⟨_, Ent.refl, ?_⟩
    refine block_r <| thenA_r ?_
    obtain rfl := oi h
    exact hf
   ·obtain ⟨rfl, rfl⟩ := hX
    refine ⟨_, Ent.refl, ?_⟩
    refine block_x <| thenA_n <| AW.rX [4] ?_
    refine AW.ret ?_
    obtain rfl := oi h
    (simp only [go_sem, seval, finA] <;> try simp)
 ·refine AW.ifT rfl c2 <| AW.rX [4] ?_
  refine AW.ret <| thenA_r ?_
  obtain rfl := oi h
  (simp only [go_sem, seval, finA] <;> try simp)
def f92_s1 (a0 : List Res) : (List Pair) × Int → Option (((List Pair) × Int) ⊕ (List Pair))
  | (s1_0, s1_1) => (if s1_1 < (a0.length : Int) then ((ix a0 s1_1).bind fun x10 => ((appO? s1_0 [⟨x10.Key, x10.Val⟩]).bind fun x11 => some (.inl (x11, IntKind.i64.wrap (s1_1 + 1))))) else some (.inr s1_0))
def f92 (a0 : List Res) : Option (List Pair) := ((loopO (f92_s1 a0) ([], 0)).bind fun y13 => some y13)
theorem ok92 (a0 : List Res) (r : (List Pair)) (h : f92 a0 = some r) : PC Tryz.prog 92 [.sl (List.map encRes a0)] (.fr 2 (List.map encPair r)) := by
 rw [f92] at h
 refine pc_of9 (N := 26) (rs := [.tmp 2]) Tryz.func92 ?_
 refine AW.rX [0] ?_
 refine AW.rX [0, 3] ?_
 refine AW.seq <| AW.rX [0, 3, 4] ?_
 refine AW.block ?_
 obtain ⟨y13, hy13, h⟩ := bO h
 refine AW.loopO (fun s => ⟨(upd (upd (upd anyF 0 (.sl (List.map encRes a0))) 3 (.own 8 0 s.1.length)) 4 (.val (.int .i64 s.2))), hpL [] [some (.row 2 true (List.map encPair s.1))], 9⟩) (fun z e st' => e = Exit.exit 0 ∧ st' = ⟨(upd anyF 3 (.own 8 0 z.length)), hpL [] [some (.row 2 true (List.map encPair z))], 9⟩) hy13 ?_ ?_ ?_
 ·refine Ent.trans (Ent.nilOwn 3 2 (by decide) rfl) ?_
  exact Ent.canq [32] RF.any.qv.qo.qv (.nil _) (.ce (.nil _))
 ·clear h hy13
  rintro ⟨s1_0, s1_1⟩ x h
  rw [f92_s1] at h
  refine AW.seq <| AW.rX [0, 3, 4, 8] ?_
  rcases iteO h with ⟨c9, h⟩ | ⟨c9, h⟩
  ·refine AW.ifT rfl c9 <| AW.skip <| thenA_n <| AW.seq <| AW.block ?_
   obtain ⟨x10, hx10, h⟩ := bO h
   obtain ⟨hx10a, hx10b⟩ := ix_some.1 hx10
   obtain ⟨x11, hx11, h⟩ := bO h
   obtain ⟨hx11b, hx11e⟩ := appO?_some.1 hx11
   have hx11f : ∀ id o : Nat, appO 2 32 id ([[.val (.string x10.Key), .val (.string x10.Val)]]) 0 s1_0.length o (some (.row 2 true (List.map encPair s1_0))) = some ⟨.own id 0 x11.length, [(o, none), (id, some (.row 2 true (List.map encPair x11)))]⟩ := fun id o => by
     subst hx11e; rw [appO_ok (by simp) (by simpa using hx11b) (by decide)]; first | (simp [encPair]; done) | (simp [encPair]; omega)
   refine AW.rf [0, 3, 4] [0,0,0,6,14,30,0,0,192,448,960,2046,4094,8191,16383] ?_
   generalize hK : inBlockA _ _ Exit.normal = K
   simp only [go_sem, seval, natOf_le hx10a, hx10b, hx11f]
   subst hK
   refine block_n <| thenA_n <| AW.rY [0, 3, 4] ?_
   refine thenA_n ?_
   refine ⟨_, oj h, ?_⟩
   exact Ent.canq [145] RF.any.qv.qo.qv (.nil _) (.ce (.nil _))
  ·refine AW.ifF rfl c9 <| AW.exit <| thenA_x <| thenA_x ?_
   refine ⟨_, oj h, _, ?_, rfl, rfl⟩
   exact Ent.canq [8] RF.any.qo (.nil _) (.ce (.nil _))
 ·intro e st' hX
  try dsimp only at h
  try dsimp only at hX
  obtain ⟨rfl, rfl⟩ := hX
  refine ⟨_, Ent.refl, ?_⟩
  refine block_x <| thenA_n <| AW.rX [2] ?_
  refine AW.ret ?_
  obtain rfl := oi h
  (simp only [go_sem, seval, finA] <;> try simp)
def f51 (a0 : ByteArray) : Option (List Int) := ((f88 (IntKind.u64.wrap (a0.size : Int))).bind fun x1 => ((appO? x1 (bytesI a0)).bind fun x2 => some x2))
theorem ok51 (a0 : ByteArray) (r : (List Int)) (h : f51 a0 = some r) : PC Tryz.prog 51 [.val (.string a0)] (.fr 1 (List.map enc5 r)) := by
 rw [f51] at h
 refine pc_of9 (N := 9) (rs := [.tmp 2]) Tryz.func51 ?_
 refine AW.rX [0] ?_
 obtain ⟨x1, hx1, h⟩ := bO h
 obtain ⟨x2, hx2, h⟩ := bO h
 obtain ⟨hx2b, hx2e⟩ := appO?_some.1 hx2
 have hx2f : ∀ id o : Nat, appO 1 1 id (List.map enc5 (bytesI a0)) 0 x1.length o (some (.row 1 true (List.map enc5 x1))) = some ⟨.own id 0 x2.length, [(o, none), (id, some (.row 1 true (List.map enc5 x2)))]⟩ := fun id o => by
   subst hx2e; rw [appO_ok (by simp) (by simpa using hx2b) (by decide)]; first | (simp [enc5]; done) | (simp [enc5]; omega)
 refine AW.rK [2] fun K hK => ?_
 simp only [go_sem, seval, bytesRows_map (enc := enc5) (fun _ => rfl), hx2f]
 refine arC.of (ok88 (IntKind.u64.wrap (a0.size : Int)) x1 hx1) Tryz.call88 ?_
 simp only [go_sem, seval, bytesRows_map (enc := enc5) (fun _ => rfl), hx2f]
 subst hK
 refine AW.ret ?_
 obtain rfl := oi h
 (simp only [go_sem, seval, finA] <;> try simp)
def f91_s1 (a0 : List Pair) : (List Int) × Int → Option (((List Int) × Int) ⊕ (List Int))
  | (s1_0, s1_1) => (if s1_1 < (a0.length : Int) then ((ix a0 s1_1).bind fun x18 => ((f51 x18.Key).bind fun x19 => ((appO? s1_0 x19).bind fun x20 => ((f51 x18.Val).bind fun x21 => ((appO? x20 x21).bind fun x22 => some (.inl (x22, IntKind.i64.wrap (s1_1 + 1)))))))) else some (.inr s1_0))
def f91 (a0 : List Pair) : Option (List Int) := ((f88 (IntKind.u64.wrap (a0.length : Int))).bind fun x1 => ((loopO (f91_s1 a0) (x1, 0)).bind fun y24 => some y24))
theorem ok91 (a0 : List Pair) (r : (List Int)) (h : f91 a0 = some r) : PC Tryz.prog 91 [.sl (List.map encPair a0)] (.fr 1 (List.map enc5 r)) := by
 rw [f91] at h
 refine pc_of9 (N := 31) (rs := [.tmp 2]) Tryz.func91 ?_
 refine AW.rX [0] ?_
 obtain ⟨x1, hx1, h⟩ := bO h
 refine AW.rC [0, 3] (ok88 (IntKind.u64.wrap (a0.length : Int)) x1 hx1) Tryz.call88 ?_
 refine AW.seq <| AW.rX [0, 3, 4] ?_
 refine AW.block ?_
 obtain ⟨y24, hy24, h⟩ := bO h
 refine AW.loopO (fun s => ⟨(upd (upd (upd anyF 0 (.sl (List.map encPair a0))) 3 (.own 8 0 s.1.length)) 4 (.val (.int .i64 s.2))), hpL [] [some (.row 1 true (List.map enc5 s.1))], 9⟩) (fun z e st' => e = Exit.exit 0 ∧ st' = ⟨(upd anyF 3 (.own 8 0 z.length)), hpL [] [some (.row 1 true (List.map enc5 z))], 9⟩) hy24 ?_ ?_ ?_
 ·exact Ent.canq [40] RF.any.qv.qo.qv (.nil _) (.ce (.nil _))
 ·clear h hy24
  rintro ⟨s1_0, s1_1⟩ x h
  rw [f91_s1] at h
  refine AW.seq <| AW.rX [0, 3, 4, 12] ?_
  rcases iteO h with ⟨c17, h⟩ | ⟨c17, h⟩
  ·refine AW.ifT rfl c17 <| AW.skip <| thenA_n <| AW.seq <| AW.block ?_
   obtain ⟨x18, hx18, h⟩ := bO h
   obtain ⟨hx18a, hx18b⟩ := ix_some.1 hx18
   obtain ⟨x19, hx19, h⟩ := bO h
   obtain ⟨x20, hx20, h⟩ := bO h
   obtain ⟨hx20b, hx20e⟩ := appO?_some.1 hx20
   have hx20f : ∀ id o : Nat, appO 1 1 id (List.map enc5 x19) 0 s1_0.length o (some (.row 1 true (List.map enc5 s1_0))) = some ⟨.own id 0 x20.length, [(o, none), (id, some (.row 1 true (List.map enc5 x20)))]⟩ := fun id o => by
     subst hx20e; rw [appO_ok (by simp) (by simpa using hx20b) (by decide)]; first | (simp [enc5]; done) | (simp [enc5]; omega)
   obtain ⟨x21, hx21, h⟩ := bO h
   obtain ⟨x22, hx22, h⟩ := bO h
   obtain ⟨hx22b, hx22e⟩ := appO?_some.1 hx22
   have hx22f : ∀ id o : Nat, appO 1 1 id (List.map enc5 x21) 0 x20.length o (some (.row 1 true (List.map enc5 x20))) = some ⟨.own id 0 x22.length, [(o, none), (id, some (.row 1 true (List.map enc5 x22)))]⟩ := fun id o => by
     subst hx22e; rw [appO_ok (by simp) (by simpa using hx22b) (by decide)]; first | (simp [enc5]; done) | (simp [enc5]; omega)
   refine AW.rf [0, 3, 4] [0,0,0,6,14,30,62,127,0,0,768,1792,3840,8191,16383,32767] ?_
   generalize hK : inBlockA _ _ Exit.normal = K
   simp only [go_sem, seval, natOf_le hx18a, hx18b, hx20f, hx22f]
   refine adN.pc (ok51 x18.Key x19 hx19) Tryz.call51 callV_fn (by simp only [go_sem, seval, natOf_le hx18a, hx18b, hx20f, hx22f]) (by simp only [go_sem, seval]) ?_
   simp only [go_sem, seval, natOf_le hx18a, hx18b, hx20f, hx22f]
   refine adN.pc (ok51 x18.Val x21 hx21) Tryz.call51 callV_fn (by simp only [go_sem, seval, natOf_le hx18a, hx18b, hx20f, hx22f]) (by simp only [go_sem, seval]) ?_
   simp only [go_sem, seval, natOf_le hx18a, hx18b, hx20f, hx22f]
   subst hK
   refine block_n <| thenA_n <| AW.rY [0, 3, 4] ?_
   refine thenA_n ?_
   refine ⟨_, oj h, ?_⟩
   exact Ent.canq [153] RF.any.qv.qo.qv (.nil _) (.ce (.nil _))
  ·refine AW.ifF rfl c17 <| AW.exit <| thenA_x <| thenA_x ?_
   refine ⟨_, oj h, _, ?_, rfl, rfl⟩
   exact Ent.canq [8] RF.any.qo (.nil _) (.ce (.nil _))
 ·intro e st' hX
  try dsimp only at h
  try dsimp only at hX
  obtain ⟨rfl, rfl⟩ := hX
  refine ⟨_, Ent.refl, ?_⟩
  refine block_x <| thenA_n <| AW.rX [2] ?_
  refine AW.ret ?_
  obtain rfl := oi h
  (simp only [go_sem, seval, finA] <;> try simp)
def f90 (a0 : List Int) : Option (List Int) := ((f88 (IntKind.u64.wrap (a0.length : Int))).bind fun x1 => ((appO? x1 a0).bind fun x2 => ((f100 x2).bind fun x3 => some x3)))
theorem ok90 (a0 : List Int) (r : (List Int)) (h : f90 a0 = some r) : PC Tryz.prog 90 [.sl (List.map enc5 a0)] (.fr 1 (List.map enc5 r)) := by
 rw [f90] at h
 refine pc_of9 (N := 10) (rs := [.tmp 2]) Tryz.func90 ?_
 refine AW.rX [0] ?_
 obtain ⟨x1, hx1, h⟩ := bO h
 obtain ⟨x2, hx2, h⟩ := bO h
 obtain ⟨hx2b, hx2e⟩ := appO?_some.1 hx2
 have hx2f : ∀ id o : Nat, appO 1 1 id (List.map enc5 a0) 0 x1.length o (some (.row 1 true (List.map enc5 x1))) = some ⟨.own id 0 x2.length, [(o, none), (id, some (.row 1 true (List.map enc5 x2)))]⟩ := fun id o => by
   subst hx2e; rw [appO_ok (by simp) (by simpa using hx2b) (by decide)]; first | (simp [enc5]; done) | (simp [enc5]; omega)
 obtain ⟨x3, hx3, h⟩ := bO h
 refine AW.rK [2] fun K hK => ?_
 simp only [go_sem, seval, hx2f]
 refine arC.of (ok88 (IntKind.u64.wrap (a0.length : Int)) x1 hx1) Tryz.call88 ?_
 simp only [go_sem, seval, hx2f]
 refine arC.of (ok100 x2 x3 hx3) Tryz.call100 ?_
 simp only [go_sem, seval, hx2f]
 subst hK
 refine AW.ret ?_
 obtain rfl := oi h
 (simp only [go_sem, seval, finA] <;> try simp)
def f93_s1 (a0 : List Res) : (List Int) × Int → Option (((List Int) × Int) ⊕ (List Int))
  | (s1_0, s1_1) => (if s1_1 < (a0.length : Int) then ((ix a0 s1_1).bind fun x20 => ((f51 x20.Key).bind fun x21 => ((appO? s1_0 x21).bind fun x22 => ((f52 x20.Offs).bind fun x23 => ((f51 (strOfNums x23)).bind fun x24 => ((appO? x22 x24).bind fun x25 => some (.inl (x25, IntKind.i64.wrap (s1_1 + 1))))))))) else some (.inr s1_0))
def f93 (a0 : List Res) : Option (List Int) := ((f88 (IntKind.u64.wrap (a0.length : Int))).bind fun x1 => ((loopO (f93_s1 a0) (x1, 0)).bind fun y27 => some y27))
theorem ok93 (a0 : List Res) (r : (List Int)) (h : f93 a0 = some r) : PC Tryz.prog 93 [.sl (List.map encRes a0)] (.fr 1 (List.map enc5 r)) := by
 rw [f93] at h
 refine pc_of9 (N := 33) (rs := [.tmp 2]) Tryz.func93 ?_
 refine AW.rX [0] ?_
 obtain ⟨x1, hx1, h⟩ := bO h
 refine AW.rC [0, 3] (ok88 (IntKind.u64.wrap (a0.length : Int)) x1 hx1) Tryz.call88 ?_
 refine AW.seq <| AW.rX [0, 3, 4] ?_
 refine AW.block ?_
 obtain ⟨y27, hy27, h⟩ := bO h
 refine AW.loopO (fun s => ⟨(upd (upd (upd anyF 0 (.sl (List.map encRes a0))) 3 (.own 8 0 s.1.length)) 4 (.val (.int .i64 s.2))), hpL [] [some (.row 1 true (List.map enc5 s.1))], 9⟩) (fun z e st' => e = Exit.exit 0 ∧ st' = ⟨(upd anyF 3 (.own 8 0 z.length)), hpL [] [some (.row 1 true (List.map enc5 z))], 9⟩) hy27 ?_ ?_ ?_
 ·exact Ent.canq [40] RF.any.qv.qo.qv (.nil _) (.ce (.nil _))
 ·clear h hy27
  rintro ⟨s1_0, s1_1⟩ x h
  rw [f93_s1] at h
  refine AW.seq <| AW.rX [0, 3, 4, 12] ?_
  rcases iteO h with ⟨c19, h⟩ | ⟨c19, h⟩
  ·refine AW.ifT rfl c19 <| AW.skip <| thenA_n <| AW.seq <| AW.block ?_
   obtain ⟨x20, hx20, h⟩ := bO h
   obtain ⟨hx20a, hx20b⟩ := ix_some.1 hx20
   obtain ⟨x21, hx21, h⟩ := bO h
   obtain ⟨x22, hx22, h⟩ := bO h
   obtain ⟨hx22b, hx22e⟩ := appO?_some.1 hx22
   have hx22f : ∀ id o : Nat, appO 1 1 id (List.map enc5 x21) 0 s1_0.length o (some (.row 1 true (List.map enc5 s1_0))) = some ⟨.own id 0 x22.length, [(o, none), (id, some (.row 1 true (List.map enc5 x22)))]⟩ := fun id o => by
     subst hx22e; rw [appO_ok (by simp) (by simpa using hx22b) (by decide)]; first | (simp [enc5]; done) | (simp [enc5]; omega)
   obtain ⟨x23, hx23, h⟩ := bO h
   obtain ⟨x24, hx24, h⟩ := bO h
   obtain ⟨x25, hx25, h⟩ := bO h
   obtain ⟨hx25b, hx25e⟩ := appO?_some.1 hx25
   have hx25f : ∀ id o : Nat, appO 1 1 id (List.map enc5 x24) 0 x22.length o (some (.row 1 true (List.map enc5 x22))) = some ⟨.own id 0 x25.length, [(o, none), (id, some (.row 1 true (List.map enc5 x25)))]⟩ := fun id o => by
     subst hx25e; rw [appO_ok (by simp) (by simpa using hx25b) (by decide)]; first | (simp [enc5]; done) | (simp [enc5]; omega)
   refine AW.rf [0, 3, 4] [0,0,0,6,14,30,62,127,0,0,768,1792,3840,8191,16383,32767,65535,131071] ?_
   generalize hK : inBlockA _ _ Exit.normal = K
   simp only [go_sem, seval, natOf_le hx20a, hx20b, hx22f, byteNums_map (enc := enc5) (fun _ => rfl), hx25f]
   refine adN.pc (ok51 x20.Key x21 hx21) Tryz.call51 callV_fn (by simp only [go_sem, seval, natOf_le hx20a, hx20b, hx22f, byteNums_map (enc := enc5) (fun _ => rfl), hx25f]) (by simp only [go_sem, seval]) ?_
   simp only [go_sem, seval, natOf_le hx20a, hx20b, hx22f, byteNums_map (enc := enc5) (fun _ => rfl), hx25f]
   refine adN.pc (ok52 x20.Offs x23 hx23) Tryz.call52 callV_fn (by simp only [go_sem, seval, natOf_le hx20a, hx20b, hx22f, byteNums_map (enc := enc5) (fun _ => rfl), hx25f]) (by simp only [go_sem, seval]) ?_
   simp only [go_sem, seval, natOf_le hx20a, hx20b, hx22f, byteNums_map (enc := enc5) (fun _ => rfl), hx25f]
   refine adN.pc (ok51 (strOfNums x23) x24 hx24) Tryz.call51 callV_fn (by simp only [go_sem, seval, natOf_le hx20a, hx20b, hx22f, byteNums_map (enc := enc5) (fun _ => rfl), hx25f]) (by simp only [go_sem, seval]) ?_
   simp only [go_sem, seval, natOf_le hx20a, hx20b, hx22f, byteNums_map (enc := enc5) (fun _ => rfl), hx25f]
   subst hK
   refine block_n <| thenA_n <| AW.rY [0, 3, 4] ?_
   refine thenA_n ?_
   refine ⟨_, oj h, ?_⟩
   exact Ent.canq [169] RF.any.qv.qo.qv (.nil _) (.ce (.nil _))
  ·refine AW.ifF rfl c19 <| AW.exit <| thenA_x <| thenA_x ?_
   refine ⟨_, oj h, _, ?_, rfl, rfl⟩
   exact Ent.canq [8] RF.any.qo (.nil _) (.ce (.nil _))
 ·intro e st' hX
  try dsimp only at h
  try dsimp only at hX
  obtain ⟨rfl, rfl⟩ := hX
  refine ⟨_, Ent.refl, ?_⟩
  refine block_x <| thenA_n <| AW.rX [2] ?_
  refine AW.ret ?_
  obtain rfl := oi h
  (simp only [go_sem, seval, finA] <;> try simp)
def f55 (a0 : List Res) : Option ((List Int) × (List Int)) := ((f92 a0).bind fun x1 => ((f91 x1).bind fun x2 => ((f90 x2).bind fun x3 => ((f93 a0).bind fun x4 => ((f90 x4).bind fun x5 => some (x3, x5))))))
theorem ok55 (a0 : List Res) (r : (List Int) × (List Int)) (h : f55 a0 = some r) : PC Tryz.prog 55 [.sl (List.map encRes a0)] (.tup [.fr 1 (List.map enc5 r.1), .fr 1 (List.map enc5 r.2)]) := by
 rw [f55] at h
 refine pc_of9 (N := 11) (rs := [.tmp 2, .tmp 3]) Tryz.func55 ?_
 refine AW.rX [0] ?_
 obtain ⟨x1, hx1, h⟩ := bO h
 obtain ⟨x2, hx2, h⟩ := bO h
 obtain ⟨x3, hx3, h⟩ := bO h
 obtain ⟨x4, hx4, h⟩ := bO h
 obtain ⟨x5, hx5, h⟩ := bO h
 refine AW.rK [2, 3] fun K hK => ?_
 simp only [go_sem, seval]
 refine arC.of (ok92 a0 x1 hx1) Tryz.call92 ?_
 simp only [go_sem, seval]
 refine arC.of (ok91 x1 x2 hx2) Tryz.call91 ?_
 simp only [go_sem, seval]
 refine arC.of (ok90 x2 x3 hx3) Tryz.call90 ?_
 simp only [go_sem, seval]
 refine arC.of (ok93 a0 x4 hx4) Tryz.call93 ?_
 simp only [go_sem, seval]
 refine arC.of (ok90 x4 x5 hx5) Tryz.call90 ?_
 simp only [go_sem, seval]
 subst hK
 refine AW.ret ?_
 obtain rfl := oi h
 (simp only [go_sem, seval, finA] <;> try simp)
def f29 (a0 : List Res) : Option (List (A2 (List Int))) := ((f55 a0).bind fun x1 => some [⟨x1.1, x1.2⟩])
theorem ok29 (a0 : List Res) (r : (List (A2 (List Int)))) (h : f29 a0 = some r) : PC Tryz.prog 29 [.sl (List.map encRes a0)] (.fr 2 (List.map enc71 r)) := by
 rw [f29] at h
 refine pc_of9 (N := 14) (rs := [.tmp 2]) Tryz.func29 ?_
 refine AW.rX [0] ?_
 obtain ⟨x1, hx1, h⟩ := bO h
 refine AW.rC [3, 4] (ok55 a0 x1 hx1) Tryz.call55 ?_
 refine AW.ent (Ent.still 3 rfl (own_sl (sz := 1) (m := true) rfl (by first | rfl | simp [bytesI_len]) (by simp only [go_sem]))) ?_
 refine AW.ent (Ent.still 4 rfl (own_sl (sz := 1) (m := true) rfl (by first | rfl | simp [bytesI_len]) (by simp only [go_sem]))) ?_
 refine AW.rX [2] ?_
 refine AW.ret ?_
 obtain rfl := oi h
 (simp only [go_sem, seval, finA] <;> try simp)
def f45_s1 (a0 : List Res) (a1 : ByteArray) : Int → Option (Int ⊕ ((Res × Bool) ⊕ Unit))
  | s1_0 => (if s1_0 < (a0.length : Int) then ((ix a0 s1_0).bind fun x16 => (if x16.Key = a1 then ((f73 x16.Offs).bind fun x18 => some (.inr (.inl (⟨x16.Key, x16.Val, x18⟩, true)))) else some (.inl (IntKind.i64.wrap (s1_0 + 1))))) else some (.inr (.inr ())))
def f45 (a0 : List Res) (a1 : ByteArray) : Option (Res × Bool) := ((loopO (f45_s1 a0 a1) 0).bind fun y19 => match y19 with | .inl y20 => some y20 | .inr _ => some (⟨⟨#[]⟩, ⟨#[]⟩, []⟩, false))
theorem ok45 (a0 : List Res) (a1 : ByteArray) (r : Res × Bool) (h : f45 a0 a1 = some r) : PC Tryz.prog 45 [.sl (List.map encRes a0), .val (.string a1)] (.tup [.agg (encRes r.1), .val (.bool r.2)]) := by
 rw [f45] at h
 refine pc_of9 (N := 25) (rs := [.cell 4 50, .tmp 5]) Tryz.func45 ?_
 refine AW.rX [0, 1, 4] ?_
 refine AW.seq <| AW.rX [1, 4, 8, 9, 10] ?_
 refine AW.block ?_
 obtain ⟨y19, hy19, h⟩ := bO h
 refine AW.loopO (fun s => ⟨(upd (upd (upd (upd (upd anyF 1 (.val (.string a1))) 4 (.ptr 8 0 0)) 8 (.sl (List.map encRes a0))) 9 (.val (.int .i64 (a0.length : Int)))) 10 (.val (.int .i64 s))), hpL [] [some (.row 3 true [[.val (.string ⟨#[]⟩), .val (.string ⟨#[]⟩), .val (.slice none 0 0)]])], 9⟩) (fun y e st' => match y with | .inl z => e = Exit.ret ∧ finA Tryz.prog [.cell 4 50, .tmp 5] (.tup [.agg (encRes z.1), .val (.bool z.2)]) .ret st' | .inr z => e = Exit.exit 0 ∧ st' = ⟨(upd anyF 4 (.ptr 8 0 0)), hpL [] [some (.row 3 true [[.val (.string ⟨#[]⟩), .val (.string ⟨#[]⟩), .val (.slice none 0 0)]])], 9⟩) hy19 ?_ ?_ ?_
 ·exact Ent.canq [8] RF.any.qv.qp.qv.qv.qv (.nil _) (.ce (.nil _))
 ·clear h hy19
  rintro s1_0 x h
  rw [f45_s1] at h
  refine AW.rX [1, 4, 8, 9, 10, 11] ?_
  refine AW.seq ?_
  rcases iteO h with ⟨c15, h⟩ | ⟨c15, h⟩
  ·refine AW.ifT rfl c15 <| AW.skip <| thenA_n <| AW.seq <| AW.block ?_
   obtain ⟨x16, hx16, h⟩ := bO h
   obtain ⟨hx16a, hx16b⟩ := ix_some.1 hx16
   refine AW.sX [1, 4, 7, 8, 9, 10] ?_
   refine AW.rX [1, 4, 7, 8, 9, 10, 17] ?_
   rcases iteO h with ⟨c17, h⟩ | ⟨c17, h⟩
   ·refine AW.ifT rfl c17 ?_
    obtain ⟨x18, hx18, h⟩ := bO h
    refine AW.rC [4, 7] (ok73 x16.Offs x18 hx18) Tryz.call73 ?_
    refine AW.rX [4, 5] ?_
    refine AW.ret <| block_r <| thenA_r <| thenA_r ?_
    refine ⟨_, oj h, _, Ent.refl, rfl, ?_⟩
    (simp only [go_sem, seval, finA] <;> try simp)
   ·refine AW.ifF rfl c17 <| AW.skip <| block_n <| thenA_n <| AW.rY [1, 4, 8, 9, 10] ?_
    refine thenA_n ?_
    refine ⟨_, oj h, ?_⟩
    exact Ent.canq [8] RF.any.qv.qp.qv.qv.qv (.nil _) (.ce (.nil _))
  ·refine AW.ifF rfl c15 <| AW.exit <| thenA_x <| thenA_x ?_
   refine ⟨_, oj h, _, ?_, rfl, rfl⟩
   exact Ent.canq [8] RF.any.qp (.nil _) (.ce (.nil _))
 ·intro e st' hX
  rcases y19 with y20 | _ <;> dsimp only at h hX
  ·obtain ⟨rfl, hf⟩ := hX
   refine ⟨_, Ent.refl, ?_⟩
   refine block_r <| thenA_r ?_
   obtain rfl := oi h
   exact hf
  ·obtain ⟨rfl, rfl⟩ := hX
   refine ⟨_, Ent.refl, ?_⟩
   refine block_x <| thenA_n <| AW.rX [4, 5] ?_
   refine AW.ent (Ent.weakObj 8 rfl rfl (.cons (.of rfl) (.cons (.of rfl) (.cons Weak.nil WeakL.nil)))) ?_
   refine AW.ret ?_
   obtain rfl := oi h
   (simp only [go_sem, seval, finA] <;> try simp)
def f46 (a0 : List Res) (a1 : ByteArray) : Option (List Int) := ((f45 a0 a1).bind fun x1 => some x1.1.Offs)
theorem ok46 (a0 : List Res) (a1 : ByteArray) (r : (List Int)) (h : f46 a0 a1 = some r) : PC Tryz.prog 46 [.sl (List.map encRes a0), .val (.string a1)] (.sl (List.map enc3 r)) := by
 rw [f46] at h
 refine pc_of9 (N := 15) (rs := [.tmp 4]) Tryz.func46 ?_
 refine AW.rX [0, 1] ?_
 obtain ⟨x1, hx1, h⟩ := bO h
 refine AW.rC [5] (ok45 a0 a1 x1 hx1) Tryz.call45 ?_
 refine AW.rX [4] ?_
 refine AW.ret ?_
 obtain rfl := oi h
 (simp only [go_sem, seval, finA] <;> try simp)
def f77 (a0 : List Int) (a1 : Int) : Option Bool := ((f107 a0 a1).bind fun x1 => some (decide (0 ≤ x1)))
theorem ok77 (a0 : List Int) (a1 : Int) (r : Bool) (h : f77 a0 a1 = some r) : PC Tryz.prog 77 [.sl (List.map enc3 a0), .val (.int .i64 a1)] (.val (.bool r)) := by
 rw [f77] at h
 refine pc_of9 (N := 9) (rs := [.tmp 4]) Tryz.func77 ?_
 refine AW.rX [0, 1] ?_
 obtain ⟨x1, hx1, h⟩ := bO h
 refine AW.rC [4] (ok107 a0 a1 x1 hx1) Tryz.call107 ?_
 refine AW.ret ?_
 obtain rfl := oi h
 (simp only [go_sem, seval, finA] <;> try simp)
def f47_s1 (a0 : List Res) (a1 : Int) : (List ByteArray) × Int → Option (((List ByteArray) × Int) ⊕ (List ByteArray))
  | (s1_0, s1_1) => (if s1_1 < (a0.length : Int) then ((ix a0 s1_1).bind fun x17 => ((f77 x17.Offs a1).bind fun x18 => (if x18 = true then ((appO? s1_0 [x17.Key]).bind fun x20 => some (.inl (x20, IntKind.i64.wrap (s1_1 + 1)))) else some (.inl (s1_0, IntKind.i64.wrap (s1_1 + 1)))))) else some (.inr s1_0))
def f47 (a0 : List Res) (a1 : Int) : Option (List ByteArray) := ((loopO (f47_s1 a0 a1) ([], 0)).bind fun y22 => some y22)
theorem ok47 (a0 : List Res) (a1 : Int) (r : (List ByteArray)) (h : f47 a0 a1 = some r) : PC Tryz.prog 47 [.sl (List.map encRes a0), .val (.int .i64 a1)] (.fr 1 (List.map enc9 r)) := by
 rw [f47] at h
 refine pc_of9 (N := 25) (rs := [.tmp 4]) Tryz.func47 ?_
 refine AW.rX [0, 1] ?_
 refine AW.rX [0, 1, 5] ?_
 refine AW.seq <| AW.rX [1, 5, 8, 9, 10] ?_
 refine AW.block ?_
 obtain ⟨y22, hy22, h⟩ := bO h
 refine AW.loopO (fun s => ⟨(upd (upd (upd (upd (upd anyF 1 (.val (.int .i64 a1))) 5 (.own 8 0 s.1.length)) 8 (.sl (List.map encRes a0))) 9 (.val (.int .i64 (a0.length : Int)))) 10 (.val (.int .i64 s.2))), hpL [] [some (.row 1 true (List.map enc9 s.1))], 9⟩) (fun z e st' => e = Exit.exit 0 ∧ st' = ⟨(upd anyF 5 (.own 8 0 z.length)), hpL [] [some (.row 1 true (List.map enc9 z))], 9⟩) hy22 ?_ ?_ ?_
 ·refine Ent.trans (Ent.nilOwn 5 1 (by decide) rfl) ?_
  exact Ent.canq [48] RF.any.qv.qo.qv.qv.qv (.nil _) (.ce (.nil _))
 ·clear h hy22
  rintro ⟨s1_0, s1_1⟩ x h
  rw [f47_s1] at h
  refine AW.rX [1, 5, 8, 9, 10, 11] ?_
  refine AW.seq ?_
  rcases iteO h with ⟨c16, h⟩ | ⟨c16, h⟩
  ·refine AW.ifT rfl c16 <| AW.skip <| thenA_n <| AW.seq <| AW.block ?_
   obtain ⟨x17, hx17, h⟩ := bO h
   obtain ⟨hx17a, hx17b⟩ := ix_some.1 hx17
   refine AW.sX [1, 5, 7, 8, 9, 10] ?_
   obtain ⟨x18, hx18, h⟩ := bO h
   refine AW.rC [1, 5, 7, 8, 9, 10, 17] (ok77 x17.Offs a1 x18 hx18) Tryz.call77 ?_
   rcases iteO h with ⟨c19, h⟩ | ⟨c19, h⟩
   ·refine AW.ifBT rfl c19 ?_
    obtain ⟨x20, hx20, h⟩ := bO h
    obtain ⟨hx20b, hx20e⟩ := appO?_some.1 hx20
    have hx20f : ∀ id o : Nat, appO 1 16 id ([[.val (.string x17.Key)]]) 0 s1_0.length o (some (.row 1 true (List.map enc9 s1_0))) = some ⟨.own id 0 x20.length, [(o, none), (id, some (.row 1 true (List.map enc9 x20)))]⟩ := fun id o => by
      subst hx20e; rw [appO_ok (by simp) (by simpa using hx20b) (by decide)]; first | (simp [enc9]; done) | (simp [enc9]; omega)
    refine AW.sY [1, 5, 8, 9, 10] ?_
    refine block_n <| thenA_n <| AW.sY [1, 5, 8, 9, 10] ?_
    refine thenA_n ?_
    refine ⟨_, oj h, ?_⟩
    exact Ent.canq [113] RF.any.qv.qo.qv.qv.qv (.nil _) (.ce (.nil _))
   ·rw [Bool.not_eq_true] at c19
    refine AW.ifBF rfl c19 <| AW.skip <| block_n <| thenA_n <| AW.sY [1, 5, 8, 9, 10] ?_
    refine thenA_n ?_
    refine ⟨_, oj h, ?_⟩
    exact Ent.canq [8] RF.any.qv.qo.qv.qv.qv (.nil _) (.ce (.nil _))
  ·refine AW.ifF rfl c16 <| AW.exit <| thenA_x <| thenA_x ?_
   refine ⟨_, oj h, _, ?_, rfl, rfl⟩
   exact Ent.canq [8] RF.any.qo (.nil _) (.ce (.nil _))
 ·intro e st' hX
  try dsimp only at h
  try dsimp only at hX
  obtain ⟨rfl, rfl⟩ := hX
  refine ⟨_, Ent.refl, ?_⟩
  refine block_x <| thenA_n <| AW.rX [4] ?_
  refine AW.ret ?_
  obtain rfl := oi h
  (simp only [go_sem, seval, finA] <;> try simp)
end Au
end Go.Proofs.Yt
namespace Go.Gm
def itO {σ ρ : Type} (step : σ → Option (σ ⊕ ρ)) (s : σ) : Option ρ := iterO step 5000 s
def Le {α : Type} (a b : Option α) : Prop := ∀ r, a = some r → b = some r
theorem Le.refl {α : Type} (a : Option α) : Le a a := fun _ h => h
theorem Le.bind {α β : Type} {a b : Option α} {f g : α → Option β} (h : Le a b) (k : ∀ x, Le (f x) (g x)) : Le (a.bind f) (b.bind g) := fun r hr => by
 obtain ⟨x, hx, hr⟩ := Option.bind_eq_some_iff.1 hr
 rw [h x hx]; exact k x r hr
theorem Le.ite {α : Type} {c : Prop} [Decidable c] {a a' b b' : Option α} (h : Le a a') (k : Le b b') : Le (if c then a else b) (if c then a' else b') := by
 split
 ·exact h
 ·exact k
theorem Le.iter {σ ρ : Type} {f g : σ → Option (σ ⊕ ρ)} (h : ∀ s, Le (f s) (g s)) : ∀ (n : Nat) (s : σ), Le (iterO f n s) (iterO g n s)
 | 0, s => Le.refl _
 | n + 1, s => fun r hr => by
  simp only [iterO] at hr ⊢
  cases hs : f s with
  | none => rw [hs] at hr; cases hr
  | some x =>
   rw [hs] at hr
   rw [h s x hs]
   cases x with
   | inl s' => exact Le.iter h n s' r hr
   | inr q => exact hr
theorem Le.loop {σ ρ : Type} {f g : σ → Option (σ ⊕ ρ)} (h : ∀ s, Le (f s) (g s)) (s : σ) : Le (itO f s) (loopO g s) := fun r hr => loopO_iff.2 ⟨_, Le.iter h _ _ r hr⟩
end Go.Gm
namespace Go.Proofs.Yt
open Go.Gm
namespace Au
def g148 (a0 : Int) (a1 : Int) : Option Int := ((itO f148_s1 (xorV .u32 a0 (IntKind.u32.wrap a1), 0)).bind fun y9 => some y9)
theorem mf148 (a0 : Int) (a1 : Int) : Le (g148 a0 a1) (f148 a0 a1) := by
 rw [g148, f148]
 with_reducible repeat' (first | exact .refl _ | exact .loop (fun _ => .refl _) _ | refine .bind ?_ fun _ => ?_ | refine .ite ?_ ?_)
def g127_s1 (a0 : List Int) : Int × Int → Option ((Int × Int) ⊕ Int)
 | (s1_0, s1_1) => (if s1_1 < (a0.length : Int) then ((ix a0 s1_1).bind fun x11 => ((g148 s1_0 x11).bind fun x12 => some (.inl (x12, IntKind.i64.wrap (s1_1 + 1))))) else some (.inr s1_0))
theorem mf127_s1 (a0 : List Int) : ∀ s, Le (g127_s1 a0 s) (f127_s1 a0 s) := by
 rintro ⟨s1_0, s1_1⟩
 rw [g127_s1, f127_s1]
 with_reducible repeat' (first | exact mf148 _ _ | exact .loop (mf148 _) _ | exact .refl _ | exact .loop (fun _ => .refl _) _ | refine .bind ?_ fun _ => ?_ | refine .ite ?_ ?_)
def g127 (a0 : List Int) : Option Int := ((itO (g127_s1 a0) (4294967295, 0)).bind fun y14 => some (IntKind.u32.wrap (4294967295 - y14)))
theorem mf127 (a0 : List Int) : Le (g127 a0) (f127 a0) := by
 rw [g127, f127]
 with_reducible repeat' (first | exact .loop (mf127_s1 _) _ | exact mf127_s1 _ _ | exact .refl _ | exact .loop (fun _ => .refl _) _ | refine .bind ?_ fun _ => ?_ | refine .ite ?_ ?_)
def g100 (a0 : List Int) : Option (List Int) := ((g127 a0).bind fun x1 => ((appO? ([] : List Int) a0).bind fun x2 => ((itO f100_s1 (x1, x2, 0)).bind fun y11 => some y11)))
theorem mf100 (a0 : List Int) : Le (g100 a0) (f100 a0) := by
 rw [g100, f100]
 with_reducible repeat' (first | exact mf127 _ | exact .loop (mf127) _ | exact .refl _ | exact .loop (fun _ => .refl _) _ | refine .bind ?_ fun _ => ?_ | refine .ite ?_ ?_)
def g118 (a0 : Int) : Option Int := ((itO (f118_s1 a0) (1, 0)).bind fun y5 => some y5)
theorem mf118 (a0 : Int) : Le (g118 a0) (f118 a0) := by
 rw [g118, f118]
 with_reducible repeat' (first | exact .refl _ | exact .loop (fun _ => .refl _) _ | refine .bind ?_ fun _ => ?_ | refine .ite ?_ ?_)
def g117_s1 (a0 : Int) : Int → Option (Int ⊕ (Int ⊕ Unit))
 | s1_0 => (if s1_0 ≤ 8 then ((g118 (IntKind.i64.wrap (7 * s1_0))).bind fun x9 => (if a0 < x9 then some (.inr (.inl s1_0)) else some (.inl (IntKind.i64.wrap (s1_0 + 1))))) else some (.inr (.inr ())))
theorem mf117_s1 (a0 : Int) : ∀ s, Le (g117_s1 a0 s) (f117_s1 a0 s) := by
 rintro s1_0
 rw [g117_s1, f117_s1]
 with_reducible repeat' (first | exact mf118 _ | exact .loop (mf118) _ | exact .refl _ | exact .loop (fun _ => .refl _) _ | refine .bind ?_ fun _ => ?_ | refine .ite ?_ ?_)
def g117 (a0 : Int) : Option Int := ((itO (g117_s1 a0) 1).bind fun y11 => match y11 with | .inl y12 => some y12 | .inr _ => some 9)
theorem mf117 (a0 : Int) : Le (g117 a0) (f117 a0) := by
 rw [g117, f117]
 with_reducible repeat' (first | exact .loop (mf117_s1 _) _ | exact mf117_s1 _ _ | exact .refl _ | exact .loop (fun _ => .refl _) _ | refine .bind ?_ fun _ => ?_ | refine .ite ?_ ?_ | (rename_i y; rcases y with _ | _ <;> dsimp only))
def g88_j1 (a0 : Int) (x1 : Int) : Int × Int → Option (List Int)
 | (j1_0, j1_1) => ((mkO j1_0 (0 : Int)).bind fun x4 => ((itO f88_s2 (a0, x4, IntKind.i64.wrap (j1_0 - 1))).bind fun y23 => (if x1 = 9 then ((appO? [255] y23).bind fun x27 => some x27) else ((y23[0]?).bind fun x28 => some (y23.set 0 (IntKind.u8.wrap (IntKind.i64.wrap (j1_1 + (IntKind.i64.wrap x28)))))))))
theorem mf88_j1 (a0 : Int) (x1 : Int) : ∀ s, Le (g88_j1 a0 x1 s) (f88_j1 a0 x1 s) := by
 rintro ⟨j1_0, j1_1⟩
 rw [g88_j1, f88_j1]
 with_reducible repeat' (first | exact .refl _ | exact .loop (fun _ => .refl _) _ | refine .bind ?_ fun _ => ?_ | refine .ite ?_ ?_)
def g88 (a0 : Int) : Option (List Int) := ((g117 a0).bind fun x1 => ((g118 (IntKind.i64.wrap (9 - x1))).bind fun x2 => (if x1 = 9 then g88_j1 a0 x1 (8, 0) else g88_j1 a0 x1 (x1, (IntKind.i64.wrap (256 - (IntKind.i64.wrap x2)))))))
theorem mf88 (a0 : Int) : Le (g88 a0) (f88 a0) := by
 rw [g88, f88]
 with_reducible repeat' (first | exact mf117 _ | exact .loop (mf117) _ | exact mf118 _ | exact .loop (mf118) _ | exact .loop (mf88_j1 _ _) _ | exact mf88_j1 _ _ _ | exact .refl _ | exact .loop (fun _ => .refl _) _ | refine .bind ?_ fun _ => ?_ | refine .ite ?_ ?_)
def g90 (a0 : List Int) : Option (List Int) := ((g88 (IntKind.u64.wrap (a0.length : Int))).bind fun x1 => ((appO? x1 a0).bind fun x2 => ((g100 x2).bind fun x3 => some x3)))
theorem mf90 (a0 : List Int) : Le (g90 a0) (f90 a0) := by
 rw [g90, f90]
 with_reducible repeat' (first | exact mf100 _ | exact .loop (mf100) _ | exact mf88 _ | exact .loop (mf88) _ | exact .refl _ | exact .loop (fun _ => .refl _) _ | refine .bind ?_ fun _ => ?_ | refine .ite ?_ ?_)
def g51 (a0 : ByteArray) : Option (List Int) := ((g88 (IntKind.u64.wrap (a0.size : Int))).bind fun x1 => ((appO? x1 (bytesI a0)).bind fun x2 => some x2))
theorem mf51 (a0 : ByteArray) : Le (g51 a0) (f51 a0) := by
 rw [g51, f51]
 with_reducible repeat' (first | exact mf88 _ | exact .loop (mf88) _ | exact .refl _ | exact .loop (fun _ => .refl _) _ | refine .bind ?_ fun _ => ?_ | refine .ite ?_ ?_)
def g91_s1 (a0 : List Pair) : (List Int) × Int → Option (((List Int) × Int) ⊕ (List Int))
 | (s1_0, s1_1) => (if s1_1 < (a0.length : Int) then ((ix a0 s1_1).bind fun x18 => ((g51 x18.Key).bind fun x19 => ((appO? s1_0 x19).bind fun x20 => ((g51 x18.Val).bind fun x21 => ((appO? x20 x21).bind fun x22 => some (.inl (x22, IntKind.i64.wrap (s1_1 + 1)))))))) else some (.inr s1_0))
theorem mf91_s1 (a0 : List Pair) : ∀ s, Le (g91_s1 a0 s) (f91_s1 a0 s) := by
 rintro ⟨s1_0, s1_1⟩
 rw [g91_s1, f91_s1]
 with_reducible repeat' (first | exact mf51 _ | exact .loop (mf51) _ | exact .refl _ | exact .loop (fun _ => .refl _) _ | refine .bind ?_ fun _ => ?_ | refine .ite ?_ ?_)
def g91 (a0 : List Pair) : Option (List Int) := ((g88 (IntKind.u64.wrap (a0.length : Int))).bind fun x1 => ((itO (g91_s1 a0) (x1, 0)).bind fun y24 => some y24))
theorem mf91 (a0 : List Pair) : Le (g91 a0) (f91 a0) := by
 rw [g91, f91]
 with_reducible repeat' (first | exact mf88 _ | exact .loop (mf88) _ | exact .loop (mf91_s1 _) _ | exact mf91_s1 _ _ | exact .refl _ | exact .loop (fun _ => .refl _) _ | refine .bind ?_ fun _ => ?_ | refine .ite ?_ ?_)
def g92 (a0 : List Res) : Option (List Pair) := ((itO (f92_s1 a0) ([], 0)).bind fun y13 => some y13)
theorem mf92 (a0 : List Res) : Le (g92 a0) (f92 a0) := by
 rw [g92, f92]
 with_reducible repeat' (first | exact .refl _ | exact .loop (fun _ => .refl _) _ | refine .bind ?_ fun _ => ?_ | refine .ite ?_ ?_)
def g89 (a0 : List Int) (a1 : Int) : Option Int := ((itO (f89_s2 a0 a1) 2).bind fun y34 => (if y34 < 3 then some 0 else (if (a0.length : Int) ≤ (IntKind.i64.wrap (a1 + 2)) then some 0 else some y34)))
theorem mf89 (a0 : List Int) (a1 : Int) : Le (g89 a0 a1) (f89 a0 a1) := by
 rw [g89, f89]
 with_reducible repeat' (first | exact .refl _ | exact .loop (fun _ => .refl _) _ | refine .bind ?_ fun _ => ?_ | refine .ite ?_ ?_)
def g52_s18 (a0 : List Int) (s1_3 : Int) : Int → Option (Int ⊕ Int)
 | s18_0 => (if (IntKind.i64.wrap (s1_3 + s18_0)) < (a0.length : Int) then ((g89 a0 (IntKind.i64.wrap (s1_3 + s18_0))).bind fun x232 => (if x232 = 0 then some (.inl (IntKind.i64.wrap (s18_0 + 1))) else some (.inr s18_0))) else some (.inr s18_0))
theorem mf52_s18 (a0 : List Int) (s1_3 : Int) : ∀ s, Le (g52_s18 a0 s1_3 s) (f52_s18 a0 s1_3 s) := by
 rintro s18_0
 rw [g52_s18, f52_s18]
 with_reducible repeat' (first | exact mf89 _ _ | exact .loop (mf89 _) _ | exact .refl _ | exact .loop (fun _ => .refl _) _ | refine .bind ?_ fun _ => ?_ | refine .ite ?_ ?_)
def g52_s19 (a0 : List Int) (s1_3 : Int) (y235 : Int) : (List Int) × Int × Int → Option (((List Int) × Int × Int) ⊕ (List Int))
 | (s19_0, s19_1, s19_2) => (if s19_2 < (IntKind.i64.wrap (s1_3 + y235)) then ((ix a0 s19_2).bind fun x250 => ((g88 (IntKind.u64.wrap (IntKind.i64.wrap ((IntKind.i64.wrap (x250 - s19_1)) - 1)))).bind fun x251 => ((appO? s19_0 x251).bind fun x252 => some (.inl (x252, x250, IntKind.i64.wrap (s19_2 + 1)))))) else some (.inr s19_0))
theorem mf52_s19 (a0 : List Int) (s1_3 : Int) (y235 : Int) : ∀ s, Le (g52_s19 a0 s1_3 y235 s) (f52_s19 a0 s1_3 y235 s) := by
 rintro ⟨s19_0, s19_1, s19_2⟩
 rw [g52_s19, f52_s19]
 with_reducible repeat' (first | exact mf88 _ | exact .loop (mf88) _ | exact .refl _ | exact .loop (fun _ => .refl _) _ | refine .bind ?_ fun _ => ?_ | refine .ite ?_ ?_)
def g52_s1 (a0 : List Int) : (List Int) × Int × Int × Int → Option (((List Int) × Int × Int × Int) ⊕ (Int × (List Int)))
 | (s1_0, s1_1, s1_2, s1_3) => (if s1_3 < (a0.length : Int) then ((g89 a0 s1_3).bind fun x167 => (if 0 < x167 then ((g88 (IntKind.u64.wrap (IntKind.i64.wrap ((IntKind.i64.wrap (2 * x167)) + 1)))).bind fun x209 => ((appO? s1_0 x209).bind fun x210 => ((ix a0 s1_3).bind fun x211 => ((g88 (IntKind.u64.wrap (IntKind.i64.wrap ((IntKind.i64.wrap (x211 - s1_2)) - 1)))).bind fun x212 => ((appO? x210 x212).bind fun x213 => ((ix a0 (IntKind.i64.wrap (s1_3 + 1))).bind fun x214 => ((g88 (IntKind.u64.wrap (IntKind.i64.wrap ((IntKind.i64.wrap (x214 - x211)) - 1)))).bind fun x215 => ((appO? x213 x215).bind fun x216 => f52_j3 a0 s1_1 s1_3 (x216, x167))))))))) else ((itO (g52_s18 a0 s1_3) 1).bind fun y235 => ((g88 (IntKind.u64.wrap (IntKind.i64.wrap (2 * y235)))).bind fun x236 => ((appO? s1_0 x236).bind fun x237 => ((itO (g52_s19 a0 s1_3 y235) (x237, s1_2, s1_3)).bind fun y254 => f52_j3 a0 s1_1 s1_3 (y254, y235))))))) else some (.inr (s1_1, s1_0)))
theorem mf52_s1 (a0 : List Int) : ∀ s, Le (g52_s1 a0 s) (f52_s1 a0 s) := by
 rintro ⟨s1_0, s1_1, s1_2, s1_3⟩
 rw [g52_s1, f52_s1]
 with_reducible repeat' (first | exact .loop (mf52_s18 _ _) _ | exact mf52_s18 _ _ _ | exact .loop (mf52_s19 _ _ _) _ | exact mf52_s19 _ _ _ _ | exact mf88 _ | exact .loop (mf88) _ | exact mf89 _ _ | exact .loop (mf89 _) _ | exact .refl _ | exact .loop (fun _ => .refl _) _ | refine .bind ?_ fun _ => ?_ | refine .ite ?_ ?_)
def g52 (a0 : List Int) : Option (List Int) := ((itO (g52_s1 a0) ([], 0, (-1), 0)).bind fun y255 => match y255 with | (y256, y257) => ((g88 (IntKind.u64.wrap y256)).bind fun x258 => ((appO? x258 y257).bind fun x259 => some x259)))
theorem mf52 (a0 : List Int) : Le (g52 a0) (f52 a0) := by
 rw [g52, f52]
 with_reducible repeat' (first | exact .loop (mf52_s1 _) _ | exact mf52_s1 _ _ | exact mf88 _ | exact .loop (mf88) _ | exact .refl _ | exact .loop (fun _ => .refl _) _ | refine .bind ?_ fun _ => ?_ | refine .ite ?_ ?_ | (rename_i y; rcases y with ⟨_, _⟩ <;> dsimp only))
def g93_s1 (a0 : List Res) : (List Int) × Int → Option (((List Int) × Int) ⊕ (List Int))
 | (s1_0, s1_1) => (if s1_1 < (a0.length : Int) then ((ix a0 s1_1).bind fun x20 => ((g51 x20.Key).bind fun x21 => ((appO? s1_0 x21).bind fun x22 => ((g52 x20.Offs).bind fun x23 => ((g51 (strOfNums x23)).bind fun x24 => ((appO? x22 x24).bind fun x25 => some (.inl (x25, IntKind.i64.wrap (s1_1 + 1))))))))) else some (.inr s1_0))
theorem mf93_s1 (a0 : List Res) : ∀ s, Le (g93_s1 a0 s) (f93_s1 a0 s) := by
 rintro ⟨s1_0, s1_1⟩
 rw [g93_s1, f93_s1]
 with_reducible repeat' (first | exact mf51 _ | exact .loop (mf51) _ | exact mf52 _ | exact .loop (mf52) _ | exact .refl _ | exact .loop (fun _ => .refl _) _ | refine .bind ?_ fun _ => ?_ | refine .ite ?_ ?_)
def g93 (a0 : List Res) : Option (List Int) := ((g88 (IntKind.u64.wrap (a0.length : Int))).bind fun x1 => ((itO (g93_s1 a0) (x1, 0)).bind fun y27 => some y27))
theorem mf93 (a0 : List Res) : Le (g93 a0) (f93 a0) := by
 rw [g93, f93]
 with_reducible repeat' (first | exact mf88 _ | exact .loop (mf88) _ | exact .loop (mf93_s1 _) _ | exact mf93_s1 _ _ | exact .refl _ | exact .loop (fun _ => .refl _) _ | refine .bind ?_ fun _ => ?_ | refine .ite ?_ ?_)
def g55 (a0 : List Res) : Option ((List Int) × (List Int)) := ((g92 a0).bind fun x1 => ((g91 x1).bind fun x2 => ((g90 x2).bind fun x3 => ((g93 a0).bind fun x4 => ((g90 x4).bind fun x5 => some (x3, x5))))))
theorem mf55 (a0 : List Res) : Le (g55 a0) (f55 a0) := by
 rw [g55, f55]
 with_reducible repeat' (first | exact mf90 _ | exact .loop (mf90) _ | exact mf91 _ | exact .loop (mf91) _ | exact mf92 _ | exact .loop (mf92) _ | exact mf93 _ | exact .loop (mf93) _ | exact .refl _ | exact .loop (fun _ => .refl _) _ | refine .bind ?_ fun _ => ?_ | refine .ite ?_ ?_)
def g29 (a0 : List Res) : Option (List (A2 (List Int))) := ((g55 a0).bind fun x1 => some [⟨x1.1, x1.2⟩])
theorem mf29 (a0 : List Res) : Le (g29 a0) (f29 a0) := by
 rw [g29, f29]
 with_reducible repeat' (first | exact mf55 _ | exact .loop (mf55) _ | exact .refl _ | exact .loop (fun _ => .refl _) _ | refine .bind ?_ fun _ => ?_ | refine .ite ?_ ?_)
def g15 (a0 : List Int) : Option ((List Record) × Int × Int) := (if 1048576 < (a0.length : Int) then some ([], 0, 5) else ((itO (f15_s1 a0) ([], 0, 0)).bind fun y62 => match y62 with | .inl y63 => some y63 | .inr y64 => some (y64, (a0.length : Int), 0)))
theorem mf15 (a0 : List Int) : Le (g15 a0) (f15 a0) := by
 rw [g15, f15]
 with_reducible repeat' (first | exact .refl _ | exact .loop (fun _ => .refl _) _ | refine .bind ?_ fun _ => ?_ | refine .ite ?_ ?_ | (rename_i y; rcases y with _ | _ <;> dsimp only))
def g67 (a0 : ByteArray) (a1 : ByteArray) : Option Bool := ((itO (f67_s1 a0 a1) 0).bind fun y22 => match y22 with | .inl y23 => some y23 | .inr _ => some (decide ((a0.size : Int) < (a1.size : Int))))
theorem mf67 (a0 : ByteArray) (a1 : ByteArray) : Le (g67 a0 a1) (f67 a0 a1) := by
 rw [g67, f67]
 with_reducible repeat' (first | exact .refl _ | exact .loop (fun _ => .refl _) _ | refine .bind ?_ fun _ => ?_ | refine .ite ?_ ?_ | (rename_i y; rcases y with _ | _ <;> dsimp only))
def g37_s18 (s12_0 : List Res) (s12_1 : Int) (x190 : List Res) : Int → Option (Int ⊕ Int)
 | s18_0 => (if 0 < s18_0 then ((ix x190 s12_1).bind fun x215 => ((ix s12_0 (IntKind.i64.wrap (s18_0 - 1))).bind fun x216 => ((g67 x215.Key x216.Key).bind fun x217 => (if x217 = true then some (.inl (IntKind.i64.wrap (s18_0 - 1))) else some (.inr s18_0))))) else some (.inr s18_0))
theorem mf37_s18 (s12_0 : List Res) (s12_1 : Int) (x190 : List Res) : ∀ s, Le (g37_s18 s12_0 s12_1 x190 s) (f37_s18 s12_0 s12_1 x190 s) := by
 rintro s18_0
 rw [g37_s18, f37_s18]
 with_reducible repeat' (first | exact mf67 _ _ | exact .loop (mf67 _) _ | exact .refl _ | exact .loop (fun _ => .refl _) _ | refine .bind ?_ fun _ => ?_ | refine .ite ?_ ?_)
def g37_s12 (a0 : List (List Res)) (s1_1 : Int) : (List Res) × Int → Option (((List Res) × Int) ⊕ (List Res))
 | (s12_0, s12_1) => ((ix a0 s1_1).bind fun x190 => (if s12_1 < (x190.length : Int) then ((itO (g37_s18 s12_0 s12_1 x190) ((s12_0.length : Nat) : Int)).bind fun y220 => ((cutO? s12_0 0 y220).bind fun x221 => ((appO? ([] : List Res) x221).bind fun x222 => ((ix x190 s12_1).bind fun x223 => ((appO? x222 [x223]).bind fun x224 => ((cutO? s12_0 y220 (s12_0.length : Int)).bind fun x225 => ((appO? x224 x225).bind fun x226 => some (.inl (x226, IntKind.i64.wrap (s12_1 + 1)))))))))) else some (.inr s12_0)))
theorem mf37_s12 (a0 : List (List Res)) (s1_1 : Int) : ∀ s, Le (g37_s12 a0 s1_1 s) (f37_s12 a0 s1_1 s) := by
 rintro ⟨s12_0, s12_1⟩
 rw [g37_s12, f37_s12]
 with_reducible repeat' (first | exact .loop (mf37_s18 _ _ _) _ | exact mf37_s18 _ _ _ _ | exact .refl _ | exact .loop (fun _ => .refl _) _ | refine .bind ?_ fun _ => ?_ | refine .ite ?_ ?_)
def g37_s1 (a0 : List (List Res)) : (List Res) × Int → Option (((List Res) × Int) ⊕ (List Res))
 | (s1_0, s1_1) => (if s1_1 < (a0.length : Int) then ((itO (g37_s12 a0 s1_1) (s1_0, 0)).bind fun y228 => some (.inl (y228, IntKind.i64.wrap (s1_1 + 1)))) else some (.inr s1_0))
theorem mf37_s1 (a0 : List (List Res)) : ∀ s, Le (g37_s1 a0 s) (f37_s1 a0 s) := by
 rintro ⟨s1_0, s1_1⟩
 rw [g37_s1, f37_s1]
 with_reducible repeat' (first | exact .loop (mf37_s12 _ _) _ | exact mf37_s12 _ _ _ | exact .refl _ | exact .loop (fun _ => .refl _) _ | refine .bind ?_ fun _ => ?_ | refine .ite ?_ ?_)
def g37 (a0 : List (List Res)) : Option (List Res) := ((itO (g37_s1 a0) ([], 0)).bind fun y230 => some y230)
theorem mf37 (a0 : List (List Res)) : Le (g37 a0) (f37 a0) := by
 rw [g37, f37]
 with_reducible repeat' (first | exact .loop (mf37_s1 _) _ | exact mf37_s1 _ _ | exact .refl _ | exact .loop (fun _ => .refl _) _ | refine .bind ?_ fun _ => ?_ | refine .ite ?_ ?_)
def g68 (a0 : List Int) : Option Bool := ((itO (f68_s1 a0) 0).bind fun y22 => match y22 with | .inl y23 => some y23 | .inr _ => some (decide ((a0.length : Int) ≤ 65536)))
theorem mf68 (a0 : List Int) : Le (g68 a0) (f68 a0) := by
 rw [g68, f68]
 with_reducible repeat' (first | exact .refl _ | exact .loop (fun _ => .refl _) _ | refine .bind ?_ fun _ => ?_ | refine .ite ?_ ?_ | (rename_i y; rcases y with _ | _ <;> dsimp only))
def g38_s1 (a0 : List Res) : Int → Option (Int ⊕ (Bool ⊕ Unit))
 | s1_0 => (if s1_0 < (a0.length : Int) then ((ix a0 s1_0).bind fun x19 => (if (x19.Offs.length : Int) = 0 then some (.inr (.inl false)) else ((g68 x19.Offs).bind fun x21 => (if x21 = true then (if 0 < s1_0 then ((ix a0 (IntKind.i64.wrap (s1_0 - 1))).bind fun x24 => ((g67 x24.Key x19.Key).bind fun x25 => (if x25 = true then some (.inl (IntKind.i64.wrap (s1_0 + 1))) else some (.inr (.inl false))))) else some (.inl (IntKind.i64.wrap (s1_0 + 1)))) else some (.inr (.inl false)))))) else some (.inr (.inr ())))
theorem mf38_s1 (a0 : List Res) : ∀ s, Le (g38_s1 a0 s) (f38_s1 a0 s) := by
 rintro s1_0
 rw [g38_s1, f38_s1]
 with_reducible repeat' (first | exact mf67 _ _ | exact .loop (mf67 _) _ | exact mf68 _ | exact .loop (mf68) _ | exact .refl _ | exact .loop (fun _ => .refl _) _ | refine .bind ?_ fun _ => ?_ | refine .ite ?_ ?_)
def g38 (a0 : List Res) : Option Bool := ((itO (g38_s1 a0) 0).bind fun y27 => match y27 with | .inl y28 => some y28 | .inr _ => some true)
theorem mf38 (a0 : List Res) : Le (g38 a0) (f38 a0) := by
 rw [g38, f38]
 with_reducible repeat' (first | exact .loop (mf38_s1 _) _ | exact mf38_s1 _ _ | exact .refl _ | exact .loop (fun _ => .refl _) _ | refine .bind ?_ fun _ => ?_ | refine .ite ?_ ?_ | (rename_i y; rcases y with _ | _ <;> dsimp only))
def g126 (a0 : Int) : Option Int := ((itO f126_s1 (a0, 0)).bind fun y8 => some y8)
theorem mf126 (a0 : Int) : Le (g126 a0) (f126 a0) := by
 rw [g126, f126]
 with_reducible repeat' (first | exact .refl _ | exact .loop (fun _ => .refl _) _ | refine .bind ?_ fun _ => ?_ | refine .ite ?_ ?_)
def g99_j1 (a0 : List Int) (a1 : Int) (x8 : Int) : Int → Option (Int × Int × Int)
 | j1_0 => ((itO (f99_s2 a0 a1 x8) (j1_0, IntKind.i64.wrap (a1 + 1))).bind fun y32 => ((g117 y32).bind fun x33 => (if x33 = (IntKind.i64.wrap (x8 + 1)) then some (y32, IntKind.i64.wrap (a1 + (IntKind.i64.wrap (x8 + 1))), 0) else some (0, 0, 3))))
theorem mf99_j1 (a0 : List Int) (a1 : Int) (x8 : Int) : ∀ s, Le (g99_j1 a0 a1 x8 s) (f99_j1 a0 a1 x8 s) := by
 rintro j1_0
 rw [g99_j1, f99_j1]
 with_reducible repeat' (first | exact mf117 _ | exact .loop (mf117) _ | exact .refl _ | exact .loop (fun _ => .refl _) _ | refine .bind ?_ fun _ => ?_ | refine .ite ?_ ?_)
def g99 (a0 : List Int) (a1 : Int) : Option (Int × Int × Int) := (if a1 < 0 then some (0, 0, 8) else (if (a0.length : Int) < a1 then some (0, 0, 8) else (if a1 = (a0.length : Int) then some (0, 0, 2) else ((ix a0 a1).bind fun x7 => ((g126 x7).bind fun x8 => (if (IntKind.i64.wrap ((a0.length : Int) - a1)) < (IntKind.i64.wrap (x8 + 1)) then some (0, 0, 2) else (if (IntKind.i64.wrap (x8 + 1)) ≤ 8 then ((g118 (IntKind.i64.wrap (8 - (IntKind.i64.wrap (x8 + 1))))).bind fun x36 => ((guardO (¬ x36 = 0)).bind fun x37 => g99_j1 a0 a1 x8 ((IntKind.u64.wrap x7).tmod x36))) else g99_j1 a0 a1 x8 0)))))))
theorem mf99 (a0 : List Int) (a1 : Int) : Le (g99 a0 a1) (f99 a0 a1) := by
 rw [g99, f99]
 with_reducible repeat' (first | exact mf118 _ | exact .loop (mf118) _ | exact mf126 _ | exact .loop (mf126) _ | exact .loop (mf99_j1 _ _ _) _ | exact mf99_j1 _ _ _ _ | exact .refl _ | exact .loop (fun _ => .refl _) _ | refine .bind ?_ fun _ => ?_ | refine .ite ?_ ?_)
def g63 (a0 : List Int) (a1 : Int) : Option ((List Int) × Int × Int) := ((g99 a0 a1).bind fun x1 => (if x1.2.2 = 0 then (if 1048576 < x1.1 then some ([], 0, 5) else (if (IntKind.i64.wrap ((a0.length : Int) - x1.2.1)) < (IntKind.i64.wrap ((IntKind.i64.wrap x1.1) + 4)) then some ([], 0, 2) else ((cutO? a0 a1 (IntKind.i64.wrap ((IntKind.i64.wrap ((IntKind.i64.wrap (x1.2.1 + (IntKind.i64.wrap x1.1))) + 4)) - 4))).bind fun x8 => ((g100 x8).bind fun x9 => ((cutO? a0 a1 (IntKind.i64.wrap ((IntKind.i64.wrap (x1.2.1 + (IntKind.i64.wrap x1.1))) + 4))).bind fun x10 => (if (strOfNums x9) = (strOfNums x10) then ((cutO? a0 x1.2.1 (IntKind.i64.wrap ((IntKind.i64.wrap ((IntKind.i64.wrap (x1.2.1 + (IntKind.i64.wrap x1.1))) + 4)) - 4))).bind fun x12 => some (x12, IntKind.i64.wrap ((IntKind.i64.wrap (x1.2.1 + (IntKind.i64.wrap x1.1))) + 4), 0)) else some ([], 0, 4))))))) else some ([], 0, x1.2.2)))
theorem mf63 (a0 : List Int) (a1 : Int) : Le (g63 a0 a1) (f63 a0 a1) := by
 rw [g63, f63]
 with_reducible repeat' (first | exact mf100 _ | exact .loop (mf100) _ | exact mf99 _ _ | exact .loop (mf99 _) _ | exact .refl _ | exact .loop (fun _ => .refl _) _ | refine .bind ?_ fun _ => ?_ | refine .ite ?_ ?_)
def g102 (a0 : List Int) (a1 : Int) (a2 : Int) : Option (ByteArray × Int × Int) := ((g99 a0 a1).bind fun x1 => (if x1.2.2 = 0 then (if a2 < 0 then some (⟨#[]⟩, 0, 5) else (if (IntKind.u64.wrap a2) < x1.1 then some (⟨#[]⟩, 0, 5) else (if (IntKind.u64.wrap (IntKind.i64.wrap ((a0.length : Int) - x1.2.1))) < x1.1 then some (⟨#[]⟩, 0, 2) else ((cutO? a0 x1.2.1 (IntKind.i64.wrap (x1.2.1 + (IntKind.i64.wrap x1.1)))).bind fun x10 => some (strOfNums x10, IntKind.i64.wrap (x1.2.1 + (IntKind.i64.wrap x1.1)), 0))))) else some (⟨#[]⟩, 0, x1.2.2)))
theorem mf102 (a0 : List Int) (a1 : Int) (a2 : Int) : Le (g102 a0 a1 a2) (f102 a0 a1 a2) := by
 rw [g102, f102]
 with_reducible repeat' (first | exact mf99 _ _ | exact .loop (mf99 _) _ | exact .refl _ | exact .loop (fun _ => .refl _) _ | refine .bind ?_ fun _ => ?_ | refine .ite ?_ ?_)
def g101_s1 (a0 : List Int) (a2 : Int) (x1 : Int × Int × Int) : Int × (List ByteArray) × Int → Option ((Int × (List ByteArray) × Int) ⊕ (((List ByteArray) × Int × Int) ⊕ (Int × (List ByteArray))))
 | (s1_0, s1_1, s1_2) => (if s1_2 < (IntKind.i64.wrap ((IntKind.i64.wrap x1.1) * a2)) then ((g102 a0 s1_0 65536).bind fun x17 => (if x17.2.2 = 0 then ((appO? s1_1 [x17.1]).bind fun x19 => some (.inl (x17.2.1, x19, IntKind.i64.wrap (s1_2 + 1)))) else some (.inr (.inl ([], 0, x17.2.2))))) else some (.inr (.inr (s1_0, s1_1))))
theorem mf101_s1 (a0 : List Int) (a2 : Int) (x1 : Int × Int × Int) : ∀ s, Le (g101_s1 a0 a2 x1 s) (f101_s1 a0 a2 x1 s) := by
 rintro ⟨s1_0, s1_1, s1_2⟩
 rw [g101_s1, f101_s1]
 with_reducible repeat' (first | exact mf102 _ _ _ | exact .loop (mf102 _ _) _ | exact .refl _ | exact .loop (fun _ => .refl _) _ | refine .bind ?_ fun _ => ?_ | refine .ite ?_ ?_)
def g101 (a0 : List Int) (a1 : Int) (a2 : Int) : Option ((List ByteArray) × Int × Int) := ((g99 a0 a1).bind fun x1 => (if x1.2.2 = 0 then (if 65536 < x1.1 then some ([], 0, 9) else ((itO (g101_s1 a0 a2 x1) (x1.2.1, [], 0)).bind fun y20 => match y20 with | .inl y21 => some y21 | .inr (y22, y23) => some (y23, y22, 0))) else some ([], 0, x1.2.2)))
theorem mf101 (a0 : List Int) (a1 : Int) (a2 : Int) : Le (g101 a0 a1 a2) (f101 a0 a1 a2) := by
 rw [g101, f101]
 with_reducible repeat' (first | exact .loop (mf101_s1 _ _ _) _ | exact mf101_s1 _ _ _ _ | exact mf99 _ _ | exact .loop (mf99 _) _ | exact .refl _ | exact .loop (fun _ => .refl _) _ | refine .bind ?_ fun _ => ?_ | refine .ite ?_ ?_ | (rename_i y; rcases y with _ | ⟨_, _⟩ <;> dsimp only))
def g64 (a0 : List Int) (a1 : Int) : Option ((List Pair) × Int × Int) := ((g101 a0 a1 2).bind fun x1 => ((itO (f64_s1 x1) ([], 0)).bind fun y17 => some (y17, x1.2.1, x1.2.2)))
theorem mf64 (a0 : List Int) (a1 : Int) : Le (g64 a0 a1) (f64 a0 a1) := by
 rw [g64, f64]
 with_reducible repeat' (first | exact mf101 _ _ _ | exact .loop (mf101 _ _) _ | exact .refl _ | exact .loop (fun _ => .refl _) _ | refine .bind ?_ fun _ => ?_ | refine .ite ?_ ?_)
def g65_s1 (a0 : List Pair) : Int → Option (Int ⊕ (Bool ⊕ Unit))
 | s1_0 => (if s1_0 < (a0.length : Int) then ((ix a0 (IntKind.i64.wrap (s1_0 - 1))).bind fun x15 => ((ix a0 s1_0).bind fun x16 => ((g67 x15.Key x16.Key).bind fun x17 => (if x17 = true then some (.inl (IntKind.i64.wrap (s1_0 + 1))) else some (.inr (.inl false)))))) else some (.inr (.inr ())))
theorem mf65_s1 (a0 : List Pair) : ∀ s, Le (g65_s1 a0 s) (f65_s1 a0 s) := by
 rintro s1_0
 rw [g65_s1, f65_s1]
 with_reducible repeat' (first | exact mf67 _ _ | exact .loop (mf67 _) _ | exact .refl _ | exact .loop (fun _ => .refl _) _ | refine .bind ?_ fun _ => ?_ | refine .ite ?_ ?_)
def g65 (a0 : List Pair) : Option Bool := ((itO (g65_s1 a0) 1).bind fun y19 => match y19 with | .inl y20 => some y20 | .inr _ => some true)
theorem mf65 (a0 : List Pair) : Le (g65 a0) (f65 a0) := by
 rw [g65, f65]
 with_reducible repeat' (first | exact .loop (mf65_s1 _) _ | exact mf65_s1 _ _ | exact .refl _ | exact .loop (fun _ => .refl _) _ | refine .bind ?_ fun _ => ?_ | refine .ite ?_ ?_ | (rename_i y; rcases y with _ | _ <;> dsimp only))
def g128_j7 (a0 : List Int) (x1 : Int × Int × Int) (s1_0 : List Int) (s1_1 : Int) (s1_2 : Int) : Int → Option (((List Int) × Int × Int) ⊕ (((List Int) × Int × Int) ⊕ (Int × (List Int))))
 | j7_0 => (if (x1.1.tmod 2) = 0 then ((g99 a0 s1_1).bind fun x61 => (if x61.2.2 = 0 then f128_j8 s1_0 s1_2 (x61.2.1, x61.1) else some (.inr (.inl ([], 0, x61.2.2))))) else f128_j8 s1_0 s1_2 (s1_1, j7_0))
theorem mf128_j7 (a0 : List Int) (x1 : Int × Int × Int) (s1_0 : List Int) (s1_1 : Int) (s1_2 : Int) : ∀ s, Le (g128_j7 a0 x1 s1_0 s1_1 s1_2 s) (f128_j7 a0 x1 s1_0 s1_1 s1_2 s) := by
 rintro j7_0
 rw [g128_j7, f128_j7]
 with_reducible repeat' (first | exact mf99 _ _ | exact .loop (mf99 _) _ | exact .refl _ | exact .loop (fun _ => .refl _) _ | refine .bind ?_ fun _ => ?_ | refine .ite ?_ ?_)
def g128_s1 (a0 : List Int) (x1 : Int × Int × Int) (j1_1 : Int) (j1_2 : Int) : (List Int) × Int × Int → Option (((List Int) × Int × Int) ⊕ (((List Int) × Int × Int) ⊕ (Int × (List Int))))
 | (s1_0, s1_1, s1_2) => (if s1_2 < (IntKind.i64.wrap (IntKind.u64.wrap (x1.1.tdiv 2))) then (if s1_2 = 0 then g128_j7 a0 x1 s1_0 s1_1 s1_2 j1_1 else g128_j7 a0 x1 s1_0 s1_1 s1_2 j1_2) else some (.inr (.inr (s1_1, s1_0))))
theorem mf128_s1 (a0 : List Int) (x1 : Int × Int × Int) (j1_1 : Int) (j1_2 : Int) : ∀ s, Le (g128_s1 a0 x1 j1_1 j1_2 s) (f128_s1 a0 x1 j1_1 j1_2 s) := by
 rintro ⟨s1_0, s1_1, s1_2⟩
 rw [g128_s1, f128_s1]
 with_reducible repeat' (first | exact .loop (mf128_j7 _ _ _ _ _) _ | exact mf128_j7 _ _ _ _ _ _ | exact .refl _ | exact .loop (fun _ => .refl _) _ | refine .bind ?_ fun _ => ?_ | refine .ite ?_ ?_)
def g128_j1 (a0 : List Int) (a2 : List Int) (x1 : Int × Int × Int) : Int × Int × Int → Option ((List Int) × Int × Int)
 | (j1_0, j1_1, j1_2) => ((itO (g128_s1 a0 x1 j1_1 j1_2) (a2, j1_0, 0)).bind fun y64 => match y64 with | .inl y65 => some y65 | .inr (y66, y67) => some (y67, y66, 0))
theorem mf128_j1 (a0 : List Int) (a2 : List Int) (x1 : Int × Int × Int) : ∀ s, Le (g128_j1 a0 a2 x1 s) (f128_j1 a0 a2 x1 s) := by
 rintro ⟨j1_0, j1_1, j1_2⟩
 rw [g128_j1, f128_j1]
 with_reducible repeat' (first | exact .loop (mf128_s1 _ _ _ _) _ | exact mf128_s1 _ _ _ _ _ | exact .refl _ | exact .loop (fun _ => .refl _) _ | refine .bind ?_ fun _ => ?_ | refine .ite ?_ ?_ | (rename_i y; rcases y with _ | ⟨_, _⟩ <;> dsimp only))
def g128 (a0 : List Int) (a1 : Int) (a2 : List Int) : Option ((List Int) × Int × Int) := ((g99 a0 a1).bind fun x1 => (if x1.2.2 = 0 then (if 65536 < (IntKind.u64.wrap (x1.1.tdiv 2)) then some ([], 0, 9) else (if (x1.1.tmod 2) = 1 then ((g99 a0 x1.2.1).bind fun x69 => (if x69.2.2 = 0 then ((g99 a0 x69.2.1).bind fun x72 => (if x72.2.2 = 0 then g128_j1 a0 a2 x1 (x72.2.1, x69.1, x72.1) else some ([], 0, x72.2.2))) else some ([], 0, x69.2.2))) else g128_j1 a0 a2 x1 (x1.2.1, 0, 0))) else some ([], 0, x1.2.2)))
theorem mf128 (a0 : List Int) (a1 : Int) (a2 : List Int) : Le (g128 a0 a1 a2) (f128 a0 a1 a2) := by
 rw [g128, f128]
 with_reducible repeat' (first | exact .loop (mf128_j1 _ _ _) _ | exact mf128_j1 _ _ _ _ | exact mf99 _ _ | exact .loop (mf99 _) _ | exact .refl _ | exact .loop (fun _ => .refl _) _ | refine .bind ?_ fun _ => ?_ | refine .ite ?_ ?_)
def g103_s2 (a0 : List Int) (x1 : Int × Int × Int) : Int × (List Int) × Int → Option ((Int × (List Int) × Int) ⊕ (((List Int) × Int) ⊕ (Int × (List Int))))
 | (s2_0, s2_1, s2_2) => (if s2_2 < x1.1 then ((g128 a0 s2_0 s2_1).bind fun x26 => (if x26.2.2 = 0 then some (.inl (x26.2.1, x26.1, IntKind.u64.wrap (s2_2 + 1))) else some (.inr (.inl ([], x26.2.2))))) else some (.inr (.inr (s2_0, s2_1))))
theorem mf103_s2 (a0 : List Int) (x1 : Int × Int × Int) : ∀ s, Le (g103_s2 a0 x1 s) (f103_s2 a0 x1 s) := by
 rintro ⟨s2_0, s2_1, s2_2⟩
 rw [g103_s2, f103_s2]
 with_reducible repeat' (first | exact mf128 _ _ _ | exact .loop (mf128 _ _) _ | exact .refl _ | exact .loop (fun _ => .refl _) _ | refine .bind ?_ fun _ => ?_ | refine .ite ?_ ?_)
def g103 (a0 : List Int) : Option ((List Int) × Int) := ((g99 a0 0).bind fun x1 => (if x1.2.2 = 0 then ((itO (g103_s2 a0 x1) (x1.2.1, [], 0)).bind fun y28 => match y28 with | .inl y29 => some y29 | .inr (y30, y31) => (if y30 < (a0.length : Int) then some ([], 3) else ((g52 y31).bind fun x33 => (if (strOfNums x33) = (strOfNums a0) then some (y31, 0) else some ([], 3))))) else some ([], x1.2.2)))
theorem mf103 (a0 : List Int) : Le (g103 a0) (f103 a0) := by
 rw [g103, f103]
 with_reducible repeat' (first | exact .loop (mf103_s2 _ _) _ | exact mf103_s2 _ _ _ | exact mf52 _ | exact .loop (mf52) _ | exact mf99 _ _ | exact .loop (mf99 _) _ | exact .refl _ | exact .loop (fun _ => .refl _) _ | refine .bind ?_ fun _ => ?_ | refine .ite ?_ ?_ | (rename_i y; rcases y with _ | ⟨_, _⟩ <;> dsimp only))
def g66_s2 (a0 : List Int) (x1 : Int × Int × Int) : Int × (List Res) × Int → Option ((Int × (List Res) × Int) ⊕ (((List Res) × Int) ⊕ (Int × (List Res))))
 | (s2_0, s2_1, s2_2) => (if s2_2 < (IntKind.i64.wrap x1.1) then ((g102 a0 s2_0 65536).bind fun x58 => (if x58.2.2 = 0 then ((g102 a0 x58.2.1 65536).bind fun x61 => (if x61.2.2 = 0 then ((g103 (bytesI x61.1)).bind fun x64 => (if x64.2 = 0 then ((appO? s2_1 [⟨x58.1, ⟨#[]⟩, x64.1⟩]).bind fun x67 => some (.inl (x61.2.1, x67, IntKind.i64.wrap (s2_2 + 1)))) else some (.inr (.inl ([], x64.2))))) else some (.inr (.inl ([], x61.2.2))))) else some (.inr (.inl ([], x58.2.2))))) else some (.inr (.inr (s2_0, s2_1))))
theorem mf66_s2 (a0 : List Int) (x1 : Int × Int × Int) : ∀ s, Le (g66_s2 a0 x1 s) (f66_s2 a0 x1 s) := by
 rintro ⟨s2_0, s2_1, s2_2⟩
 rw [g66_s2, f66_s2]
 with_reducible repeat' (first | exact mf102 _ _ _ | exact .loop (mf102 _ _) _ | exact mf103 _ | exact .loop (mf103) _ | exact .refl _ | exact .loop (fun _ => .refl _) _ | refine .bind ?_ fun _ => ?_ | refine .ite ?_ ?_)
def g66 (a0 : List Int) : Option ((List Res) × Int) := ((g99 a0 0).bind fun x1 => (if x1.2.2 = 0 then (if 65536 < x1.1 then some ([], 9) else ((itO (g66_s2 a0 x1) (x1.2.1, [], 0)).bind fun y68 => match y68 with | .inl y69 => some y69 | .inr (y70, y71) => (if y70 < (a0.length : Int) then some ([], 3) else ((g38 y71).bind fun x73 => (if x73 = true then some (y71, 0) else some ([], 3)))))) else some ([], x1.2.2)))
theorem mf66 (a0 : List Int) : Le (g66 a0) (f66 a0) := by
 rw [g66, f66]
 with_reducible repeat' (first | exact mf38 _ | exact .loop (mf38) _ | exact .loop (mf66_s2 _ _) _ | exact mf66_s2 _ _ _ | exact mf99 _ _ | exact .loop (mf99 _) _ | exact .refl _ | exact .loop (fun _ => .refl _) _ | refine .bind ?_ fun _ => ?_ | refine .ite ?_ ?_ | (rename_i y; rcases y with _ | ⟨_, _⟩ <;> dsimp only))
def g36 (a0 : List Int) (a1 : List Int) : Option ((List Res) × Int) := ((g63 a0 0).bind fun x1 => (if x1.2.2 = 0 then (if x1.2.1 < (a0.length : Int) then some ([], 3) else ((g64 x1.1 0).bind fun x6 => (if x6.2.2 = 0 then (if x6.2.1 < (x1.1.length : Int) then some ([], 3) else ((g65 x6.1).bind fun x13 => (if x13 = true then ((g63 a1 0).bind fun x15 => (if x15.2.2 = 0 then (if x15.2.1 < (a1.length : Int) then some ([], 3) else ((g66 x15.1).bind fun x20 => (if x20.2 = 0 then (if ((x6.1.length : Nat) : Int) = ((x20.1.length : Nat) : Int) then ((itO (f36_s1 x6) (x20.1, 0)).bind fun y40 => match y40 with | .inl y41 => some y41 | .inr y42 => some (y42, 0)) else some ([], 3)) else some ([], x20.2)))) else some ([], x15.2.2))) else some ([], 3)))) else some ([], x6.2.2)))) else some ([], x1.2.2)))
theorem mf36 (a0 : List Int) (a1 : List Int) : Le (g36 a0 a1) (f36 a0 a1) := by
 rw [g36, f36]
 with_reducible repeat' (first | exact mf63 _ _ | exact .loop (mf63 _) _ | exact mf64 _ _ | exact .loop (mf64 _) _ | exact mf65 _ | exact .loop (mf65) _ | exact mf66 _ | exact .loop (mf66) _ | exact .refl _ | exact .loop (fun _ => .refl _) _ | refine .bind ?_ fun _ => ?_ | refine .ite ?_ ?_ | (rename_i y; rcases y with _ | _ <;> dsimp only))
def g9_s2 (a0 : List (A2 (List Int))) : (List (List Res)) × Int → Option (((List (List Res)) × Int) ⊕ (((List Res) × Int × ByteArray × Int) ⊕ (List (List Res))))
 | (s2_0, s2_1) => (if s2_1 < (a0.length : Int) then ((ix a0 s2_1).bind fun x28 => ((g36 x28.e0 x28.e1).bind fun x29 => (if x29.2 = 0 then ((appO? s2_0 [x29.1]).bind fun x31 => some (.inl (x31, IntKind.i64.wrap (s2_1 + 1)))) else some (.inr (.inl ([], x29.2, ⟨#[112, 97, 114, 116]⟩, s2_1)))))) else some (.inr (.inr s2_0)))
theorem mf9_s2 (a0 : List (A2 (List Int))) : ∀ s, Le (g9_s2 a0 s) (f9_s2 a0 s) := by
 rintro ⟨s2_0, s2_1⟩
 rw [g9_s2, f9_s2]
 with_reducible repeat' (first | exact mf36 _ _ | exact .loop (mf36 _) _ | exact .refl _ | exact .loop (fun _ => .refl _) _ | refine .bind ?_ fun _ => ?_ | refine .ite ?_ ?_)
def g20 (a0 : List Record) (a1 : Int) : Option (Int × Bool) := ((itO (f20_s1 a0 a1) 0).bind fun y13 => match y13 with | .inl y14 => some y14 | .inr _ => some (0, false))
theorem mf20 (a0 : List Record) (a1 : Int) : Le (g20 a0 a1) (f20 a0 a1) := by
 rw [g20, f20]
 with_reducible repeat' (first | exact .refl _ | exact .loop (fun _ => .refl _) _ | refine .bind ?_ fun _ => ?_ | refine .ite ?_ ?_ | (rename_i y; rcases y with _ | _ <;> dsimp only))
def g9_s6 (x35 : (List Record) × Int × Int) (x38 : (List Res)) (s3_0 : Int) : Int → Option (Int ⊕ (((List Res) × Int × ByteArray × Int) ⊕ Unit))
 | s6_0 => ((ix x38 s3_0).bind fun x97 => (if s6_0 < (x97.Offs.length : Int) then ((ix x97.Offs s6_0).bind fun x99 => ((g20 x35.1 x99).bind fun x100 => (if x100.2 = true then some (.inl (IntKind.i64.wrap (s6_0 + 1))) else some (.inr (.inl ([], 320, ⟨#[107, 101, 121]⟩, s3_0)))))) else some (.inr (.inr ()))))
theorem mf9_s6 (x35 : (List Record) × Int × Int) (x38 : (List Res)) (s3_0 : Int) : ∀ s, Le (g9_s6 x35 x38 s3_0 s) (f9_s6 x35 x38 s3_0 s) := by
 rintro s6_0
 rw [g9_s6, f9_s6]
 with_reducible repeat' (first | exact mf20 _ _ | exact .loop (mf20 _) _ | exact .refl _ | exact .loop (fun _ => .refl _) _ | refine .bind ?_ fun _ => ?_ | refine .ite ?_ ?_)
def g9_s3 (x35 : (List Record) × Int × Int) (x38 : (List Res)) : Int → Option (Int ⊕ (((List Res) × Int × ByteArray × Int) ⊕ Unit))
 | s3_0 => (if s3_0 < ((x38.length : Nat) : Int) then ((itO (g9_s6 x35 x38 s3_0) 0).bind fun y102 => match y102 with | .inl y103 => some (.inr (.inl y103)) | .inr _ => some (.inl (IntKind.i64.wrap (s3_0 + 1)))) else some (.inr (.inr ())))
theorem mf9_s3 (x35 : (List Record) × Int × Int) (x38 : (List Res)) : ∀ s, Le (g9_s3 x35 x38 s) (f9_s3 x35 x38 s) := by
 rintro s3_0
 rw [g9_s3, f9_s3]
 with_reducible repeat' (first | exact .loop (mf9_s6 _ _ _) _ | exact mf9_s6 _ _ _ _ | exact .refl _ | exact .loop (fun _ => .refl _) _ | refine .bind ?_ fun _ => ?_ | refine .ite ?_ ?_ | (rename_i y; rcases y with _ | _ <;> dsimp only))
def g9 (a0 : List (A2 (List Int))) (a1 : List Int) : Option ((List Res) × Int × ByteArray × Int) := ((itO (g9_s2 a0) ([], 0)).bind fun y32 => match y32 with | .inl y33 => some y33 | .inr y34 => ((g15 a1).bind fun x35 => (if x35.2.2 = 0 then ((g37 y34).bind fun x38 => ((g38 x38).bind fun x41 => (if x41 = true then ((itO (g9_s3 x35 x38) 0).bind fun y104 => match y104 with | .inl y105 => some y105 | .inr _ => some (x38, 0, ⟨#[]⟩, 0)) else some ([], 3, ⟨#[106, 111, 105, 110]⟩, 0)))) else some ([], x35.2.2, ⟨#[105, 110, 112, 117, 116]⟩, 0))))
theorem mf9 (a0 : List (A2 (List Int))) (a1 : List Int) : Le (g9 a0 a1) (f9 a0 a1) := by
 rw [g9, f9]
 with_reducible repeat' (first | exact mf15 _ | exact .loop (mf15) _ | exact mf37 _ | exact .loop (mf37) _ | exact mf38 _ | exact .loop (mf38) _ | exact .loop (mf9_s2 _) _ | exact mf9_s2 _ _ | exact .loop (mf9_s3 _ _) _ | exact mf9_s3 _ _ _ | exact .refl _ | exact .loop (fun _ => .refl _) _ | refine .bind ?_ fun _ => ?_ | refine .ite ?_ ?_ | (rename_i y; rcases y with _ | _ <;> dsimp only))
def g107 (a0 : List Int) (a1 : Int) : Option Int := ((itO (f107_s1 a0 a1) 0).bind fun y16 => match y16 with | .inl y17 => some y17 | .inr _ => some (-1))
theorem mf107 (a0 : List Int) (a1 : Int) : Le (g107 a0 a1) (f107 a0 a1) := by
 rw [g107, f107]
 with_reducible repeat' (first | exact .refl _ | exact .loop (fun _ => .refl _) _ | refine .bind ?_ fun _ => ?_ | refine .ite ?_ ?_ | (rename_i y; rcases y with _ | _ <;> dsimp only))
def g77 (a0 : List Int) (a1 : Int) : Option Bool := ((g107 a0 a1).bind fun x1 => some (decide (0 ≤ x1)))
theorem mf77 (a0 : List Int) (a1 : Int) : Le (g77 a0 a1) (f77 a0 a1) := by
 rw [g77, f77]
 with_reducible repeat' (first | exact mf107 _ _ | exact .loop (mf107 _) _ | exact .refl _ | exact .loop (fun _ => .refl _) _ | refine .bind ?_ fun _ => ?_ | refine .ite ?_ ?_)
def g47_s1 (a0 : List Res) (a1 : Int) : (List ByteArray) × Int → Option (((List ByteArray) × Int) ⊕ (List ByteArray))
 | (s1_0, s1_1) => (if s1_1 < (a0.length : Int) then ((ix a0 s1_1).bind fun x17 => ((g77 x17.Offs a1).bind fun x18 => (if x18 = true then ((appO? s1_0 [x17.Key]).bind fun x20 => some (.inl (x20, IntKind.i64.wrap (s1_1 + 1)))) else some (.inl (s1_0, IntKind.i64.wrap (s1_1 + 1)))))) else some (.inr s1_0))
theorem mf47_s1 (a0 : List Res) (a1 : Int) : ∀ s, Le (g47_s1 a0 a1 s) (f47_s1 a0 a1 s) := by
 rintro ⟨s1_0, s1_1⟩
 rw [g47_s1, f47_s1]
 with_reducible repeat' (first | exact mf77 _ _ | exact .loop (mf77 _) _ | exact .refl _ | exact .loop (fun _ => .refl _) _ | refine .bind ?_ fun _ => ?_ | refine .ite ?_ ?_)
def g47 (a0 : List Res) (a1 : Int) : Option (List ByteArray) := ((itO (g47_s1 a0 a1) ([], 0)).bind fun y22 => some y22)
theorem mf47 (a0 : List Res) (a1 : Int) : Le (g47 a0 a1) (f47 a0 a1) := by
 rw [g47, f47]
 with_reducible repeat' (first | exact .loop (mf47_s1 _ _) _ | exact mf47_s1 _ _ _ | exact .refl _ | exact .loop (fun _ => .refl _) _ | refine .bind ?_ fun _ => ?_ | refine .ite ?_ ?_)
def g45 (a0 : List Res) (a1 : ByteArray) : Option (Res × Bool) := ((itO (f45_s1 a0 a1) 0).bind fun y19 => match y19 with | .inl y20 => some y20 | .inr _ => some (⟨⟨#[]⟩, ⟨#[]⟩, []⟩, false))
theorem mf45 (a0 : List Res) (a1 : ByteArray) : Le (g45 a0 a1) (f45 a0 a1) := by
 rw [g45, f45]
 with_reducible repeat' (first | exact .refl _ | exact .loop (fun _ => .refl _) _ | refine .bind ?_ fun _ => ?_ | refine .ite ?_ ?_ | (rename_i y; rcases y with _ | _ <;> dsimp only))
def g46 (a0 : List Res) (a1 : ByteArray) : Option (List Int) := ((g45 a0 a1).bind fun x1 => some x1.1.Offs)
theorem mf46 (a0 : List Res) (a1 : ByteArray) : Le (g46 a0 a1) (f46 a0 a1) := by
 rw [g46, f46]
 with_reducible repeat' (first | exact mf45 _ _ | exact .loop (mf45 _) _ | exact .refl _ | exact .loop (fun _ => .refl _) _ | refine .bind ?_ fun _ => ?_ | refine .ite ?_ ?_)
def g21 (a0 : List Int) (a1 : List Int) : Option Bool := (if (a0.length : Int) = (a1.length : Int) then ((itO (f21_s1 a0 a1) 0).bind fun y18 => match y18 with | .inl y19 => some y19 | .inr _ => some true) else some false)
theorem mf21 (a0 : List Int) (a1 : List Int) : Le (g21 a0 a1) (f21 a0 a1) := by
 rw [g21, f21]
 with_reducible repeat' (first | exact .refl _ | exact .loop (fun _ => .refl _) _ | refine .bind ?_ fun _ => ?_ | refine .ite ?_ ?_ | (rename_i y; rcases y with _ | _ <;> dsimp only))
def g22 (a0 : List ByteArray) (a1 : List ByteArray) : Option Bool := (if (a0.length : Int) = (a1.length : Int) then ((itO (f22_s1 a0 a1) 0).bind fun y18 => match y18 with | .inl y19 => some y19 | .inr _ => some true) else some false)
theorem mf22 (a0 : List ByteArray) (a1 : List ByteArray) : Le (g22 a0 a1) (f22 a0 a1) := by
 rw [g22, f22]
 with_reducible repeat' (first | exact .refl _ | exact .loop (fun _ => .refl _) _ | refine .bind ?_ fun _ => ?_ | refine .ite ?_ ?_ | (rename_i y; rcases y with _ | _ <;> dsimp only))
end Au
end Go.Proofs.Yt
