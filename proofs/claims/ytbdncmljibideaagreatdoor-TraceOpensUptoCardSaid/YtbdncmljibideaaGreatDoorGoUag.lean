import Derived.Test.YtbdncmljibideaaGreatDoorGoUae
import Derived.Test.YtbdncmljibideaaGreatDoorGoUaf
import Derived.Lib.LaidTab
import Derived.Lib.ItoaNum
import Derived.Below
import Derived.Lib.Join
import Derived.Lib.Index
import Derived.Lib.Split
import Derived.KernelRfl
import Derived.Lib.CountLaws
import Derived.Lib.IndexLaws
import Derived.Lib.SplitLaws
set_option linter.all false
noncomputable section
set_option maxRecDepth 8000
set_option maxHeartbeats 1000000
namespace Go.Proofs.Yt
open Go.Gm
namespace Au
def f130_75_s5 (a0 : List Res) (a1 : Int) : Int × Int → Option ((Int × Int) ⊕ Int)
  | (s5_0, s5_1) => (if s5_0 < s5_1 then ((ix a0 (IntKind.i64.wrap (shrV .u64 (IntKind.u64.wrap (IntKind.i64.wrap (s5_0 + s5_1))) 1))).bind fun x71 => ((ix a0 a1).bind fun x72 => ((f75 x71 x72).bind fun x73 => (if x73 < 0 then some (.inl (IntKind.i64.wrap ((IntKind.i64.wrap (shrV .u64 (IntKind.u64.wrap (IntKind.i64.wrap (s5_0 + s5_1))) 1)) + 1), s5_1)) else some (.inl (s5_0, IntKind.i64.wrap (shrV .u64 (IntKind.u64.wrap (IntKind.i64.wrap (s5_0 + s5_1))) 1))))))) else some (.inr s5_0))
def f130_75_s6 (y76 : Int) : (List Res) × Int → Option (((List Res) × Int) ⊕ (List Res))
  | (s6_0, s6_1) => (if s6_1 < (IntKind.i64.wrap (y76 - 1)) then ((ix s6_0 (IntKind.i64.wrap (s6_1 + 1))).bind fun x89 => ((ix s6_0 s6_1).bind fun x90 => ((ix (s6_0.set s6_1.toNat x89) (IntKind.i64.wrap (s6_1 + 1))).bind fun x91 => some (.inl (((s6_0.set s6_1.toNat x89).set ((IntKind.i64.wrap (s6_1 + 1)).toNat) x90), IntKind.i64.wrap (s6_1 + 1)))))) else some (.inr s6_0))
def f130_75_s11 (a0 : List Res) (a2 : Int) : Int × Int → Option ((Int × Int) ⊕ Int)
  | (s11_0, s11_1) => (if s11_1 < s11_0 then ((ix a0 a2).bind fun x164 => ((ix a0 (IntKind.i64.wrap (shrV .u64 (IntKind.u64.wrap (IntKind.i64.wrap (s11_1 + s11_0))) 1))).bind fun x165 => ((f75 x164 x165).bind fun x166 => (if x166 < 0 then some (.inl (IntKind.i64.wrap (shrV .u64 (IntKind.u64.wrap (IntKind.i64.wrap (s11_1 + s11_0))) 1), s11_1)) else some (.inl (s11_0, IntKind.i64.wrap ((IntKind.i64.wrap (shrV .u64 (IntKind.u64.wrap (IntKind.i64.wrap (s11_1 + s11_0))) 1)) + 1))))))) else some (.inr s11_1))
def f130_75_s12 (y169 : Int) : (List Res) × Int → Option (((List Res) × Int) ⊕ (List Res))
  | (s12_0, s12_1) => (if y169 < s12_1 then ((ix s12_0 (IntKind.i64.wrap (s12_1 - 1))).bind fun x182 => ((ix s12_0 s12_1).bind fun x183 => ((ix (s12_0.set s12_1.toNat x182) (IntKind.i64.wrap (s12_1 - 1))).bind fun x184 => some (.inl (((s12_0.set s12_1.toNat x182).set ((IntKind.i64.wrap (s12_1 - 1)).toNat) x183), IntKind.i64.wrap (s12_1 - 1)))))) else some (.inr s12_0))
def f130_75_s14 (a0 : List Res) (a1 : Int) (a2 : Int) (a3 : Int) : Int × Int → Option ((Int × Int) ⊕ Int)
  | (s14_0, s14_1) => (if s14_1 < s14_0 then ((ix a0 (IntKind.i64.wrap ((IntKind.i64.wrap ((IntKind.i64.wrap ((IntKind.i64.wrap (shrV .u64 (IntKind.u64.wrap (IntKind.i64.wrap (a1 + a3))) 1)) + a2)) - 1)) - (IntKind.i64.wrap (shrV .u64 (IntKind.u64.wrap (IntKind.i64.wrap (s14_1 + s14_0))) 1))))).bind fun x216 => ((ix a0 (IntKind.i64.wrap (shrV .u64 (IntKind.u64.wrap (IntKind.i64.wrap (s14_1 + s14_0))) 1))).bind fun x217 => ((f75 x216 x217).bind fun x218 => (if x218 < 0 then some (.inl (IntKind.i64.wrap (shrV .u64 (IntKind.u64.wrap (IntKind.i64.wrap (s14_1 + s14_0))) 1), s14_1)) else some (.inl (s14_0, IntKind.i64.wrap ((IntKind.i64.wrap (shrV .u64 (IntKind.u64.wrap (IntKind.i64.wrap (s14_1 + s14_0))) 1)) + 1))))))) else some (.inr s14_1))
def f130_75_j3 (a1 : Int) (a2 : Int) (a3 : Int) (rec130 : (List Res) → Int → Int → Int → Option (List Res)) (y221 : Int) : (List Res) → Option (List Res)
  | j3_0 => (if (IntKind.i64.wrap (shrV .u64 (IntKind.u64.wrap (IntKind.i64.wrap (a1 + a3))) 1)) < (IntKind.i64.wrap ((IntKind.i64.wrap ((IntKind.i64.wrap (shrV .u64 (IntKind.u64.wrap (IntKind.i64.wrap (a1 + a3))) 1)) + a2)) - y221)) then (if (IntKind.i64.wrap ((IntKind.i64.wrap ((IntKind.i64.wrap (shrV .u64 (IntKind.u64.wrap (IntKind.i64.wrap (a1 + a3))) 1)) + a2)) - y221)) < a3 then ((rec130 j3_0 (IntKind.i64.wrap (shrV .u64 (IntKind.u64.wrap (IntKind.i64.wrap (a1 + a3))) 1)) (IntKind.i64.wrap ((IntKind.i64.wrap ((IntKind.i64.wrap (shrV .u64 (IntKind.u64.wrap (IntKind.i64.wrap (a1 + a3))) 1)) + a2)) - y221)) a3).bind fun x232 => ((guardO (x232.length = j3_0.length)).bind fun x233 => some x232)) else some j3_0) else some j3_0)
def f130_75_j2 (a1 : Int) (a2 : Int) (a3 : Int) (rec130 : (List Res) → Int → Int → Int → Option (List Res)) (y221 : Int) : (List Res) → Option (List Res)
  | j2_0 => (if a1 < y221 then (if y221 < (IntKind.i64.wrap (shrV .u64 (IntKind.u64.wrap (IntKind.i64.wrap (a1 + a3))) 1)) then ((rec130 j2_0 a1 y221 (IntKind.i64.wrap (shrV .u64 (IntKind.u64.wrap (IntKind.i64.wrap (a1 + a3))) 1))).bind fun x236 => ((guardO (x236.length = j2_0.length)).bind fun x237 => f130_75_j3 a1 a2 a3 rec130 y221 x236)) else f130_75_j3 a1 a2 a3 rec130 y221 j2_0) else f130_75_j3 a1 a2 a3 rec130 y221 j2_0)
def f130_75_j1 (a0 : List Res) (a1 : Int) (a2 : Int) (a3 : Int) (rec130 : (List Res) → Int → Int → Int → Option (List Res)) : Int × Int → Option (List Res)
  | (j1_0, j1_1) => ((loopO (f130_75_s14 a0 a1 a2 a3) (j1_1, j1_0)).bind fun y221 => (if y221 < a2 then (if a2 < (IntKind.i64.wrap ((IntKind.i64.wrap ((IntKind.i64.wrap (shrV .u64 (IntKind.u64.wrap (IntKind.i64.wrap (a1 + a3))) 1)) + a2)) - y221)) then ((f149_75 a0 y221 a2 (IntKind.i64.wrap ((IntKind.i64.wrap ((IntKind.i64.wrap (shrV .u64 (IntKind.u64.wrap (IntKind.i64.wrap (a1 + a3))) 1)) + a2)) - y221))).bind fun x240 => ((guardO (x240.length = a0.length)).bind fun x241 => f130_75_j2 a1 a2 a3 rec130 y221 x240)) else f130_75_j2 a1 a2 a3 rec130 y221 a0) else f130_75_j2 a1 a2 a3 rec130 y221 a0))
def f130_75b (rec130 : (List Res) → Int → Int → Int → Option (List Res)) (a0 : List Res) (a1 : Int) (a2 : Int) (a3 : Int) : Option (List Res) := (if (IntKind.i64.wrap (a2 - a1)) = 1 then ((loopO (f130_75_s5 a0 a1) (a2, a3)).bind fun y76 => ((loopO (f130_75_s6 y76) (a0, a1)).bind fun y93 => some y93)) else (if (IntKind.i64.wrap (a3 - a2)) = 1 then ((loopO (f130_75_s11 a0 a2) (a2, a1)).bind fun y169 => ((loopO (f130_75_s12 y169) (a0, a2)).bind fun y186 => some y186)) else (if (IntKind.i64.wrap (shrV .u64 (IntKind.u64.wrap (IntKind.i64.wrap (a1 + a3))) 1)) < a2 then f130_75_j1 a0 a1 a2 a3 rec130 ((IntKind.i64.wrap ((IntKind.i64.wrap ((IntKind.i64.wrap (shrV .u64 (IntKind.u64.wrap (IntKind.i64.wrap (a1 + a3))) 1)) + a2)) - a3)), (IntKind.i64.wrap (shrV .u64 (IntKind.u64.wrap (IntKind.i64.wrap (a1 + a3))) 1))) else f130_75_j1 a0 a1 a2 a3 rec130 (a1, a2))))
theorem ok130_75b (rec130 : (List Res) → Int → Int → Int → Option (List Res)) (hrec130 : ∀ (a0 : List Res) (a1 : Int) (a2 : Int) (a3 : Int) (r : (List Res)), rec130 a0 a1 a2 a3 = some r → IC Tryz.prog 130 [some (.row 3 true (List.map encRes a0))] [.own 0 0 a0.length, .val (.int .i64 a1), .val (.int .i64 a2), .val (.int .i64 a3), .clo (.func 75) [] []] (.tup []) [some (.row 3 true (List.map encRes r))] []) (a0 : List Res) (a1 : Int) (a2 : Int) (a3 : Int) (r : (List Res)) (h : f130_75b rec130 a0 a1 a2 a3 = some r) : IC Tryz.prog 130 [some (.row 3 true (List.map encRes a0))] [.own 0 0 a0.length, .val (.int .i64 a1), .val (.int .i64 a2), .val (.int .i64 a3), .clo (.func 75) [] []] (.tup []) [some (.row 3 true (List.map encRes r))] [] := by
 rw [f130_75b] at h
 refine ic_ofJ (N := 220) (rs := []) Tryz.func130 rfl rfl rfl (Nat.le_of_ble_eq_true rfl) <| AW.seq <| AW.sX [0, 1, 2, 3, 4, 28] ?_
 rcases iteO h with ⟨c42, h⟩ | ⟨c42, h⟩
 ·refine AW.ifT rfl c42 <| AW.sX [0, 1, 3, 4, 10] ?_
  refine AW.sX [0, 1, 4, 10, 11] ?_
  refine AW.seq <| AW.block ?_
  obtain ⟨y76, hy76, h⟩ := bO h
  refine AW.loopO (fun s => ⟨(upd (upd (upd (upd (upd anyF 0 (.own 0 0 a0.length)) 1 (.val (.int .i64 a1))) 4 (.clo (.func 75) [] [])) 10 (.val (.int .i64 s.1))) 11 (.val (.int .i64 s.2))), hpL [some (.row 3 true (List.map encRes a0))] [], 8⟩) (fun z e st' => e = Exit.exit 0 ∧ st' = ⟨(upd (upd (upd anyF 0 (.own 0 0 a0.length)) 1 (.val (.int .i64 a1))) 10 (.val (.int .i64 z))), hpL [some (.row 3 true (List.map encRes a0))] [], 8⟩) hy76 ?_ ?_ ?_
  ·exact Ent.canq [] RF.any.qo.qv.qt.qv.qv (.ce (.nil _)) (.nil _)
  ·clear h hy76
   rintro ⟨s5_0, s5_1⟩ x h
   rw [f130_75_s5] at h
   refine AW.seq <| AW.sX [0, 1, 4, 10, 11, 33] ?_
   rcases iteO h with ⟨c70, h⟩ | ⟨c70, h⟩
   ·refine AW.ifT rfl c70 <| AW.skip <| thenA_n <| AW.block <| AW.tX [0, 1, 4, 10, 11, 12] ?_
    obtain ⟨x71, hx71, h⟩ := bO h
    obtain ⟨hx71a, hx71b⟩ := ix_some.1 hx71
    obtain ⟨x72, hx72, h⟩ := bO h
    obtain ⟨hx72a, hx72b⟩ := ix_some.1 hx72
    obtain ⟨x73, hx73, h⟩ := bO h
    refine AW.re [0, 1, 4, 10, 11, 12, 50] [0,0,0,6,14,0,0,96,224,511,1023] ?_
    generalize hK : AW Tryz.prog _ _ _ = K
    simp only [go_sem, seval, natOf_le hx71a, hx71b, ix_lt hx71b, natOf_le hx72a, hx72b, ix_lt hx72b]
    refine adN.pc (ok75 x71 x72 x73 hx73) Tryz.call75 (callV_tmp (by simp only [upd_ap, Nat.reduceEqDiff, if_true, if_false, ↓reduceIte]; rfl)) (by simp only [go_sem, seval, List.nil_append, List.append_nil, eq_true c42, eq_true c70, natOf_le hx71a, hx71b, ix_lt hx71b, natOf_le hx72a, hx72b, ix_lt hx72b]) (by simp only [go_sem, seval]) ?_
    simp only [go_sem, seval, natOf_le hx71a, hx71b, ix_lt hx71b, natOf_le hx72a, hx72b, ix_lt hx72b]
    subst hK
    rcases iteO h with ⟨c74, h⟩ | ⟨c74, h⟩
    ·refine AW.ifT rfl c74 <| AW.sY [0, 1, 4, 10, 11] ?_
     refine block_n <| thenA_n ?_
     refine ⟨_, oj h, ?_⟩
     exact Ent.canq [] RF.any.qo.qv.qt.qv.qv (.ce (.nil _)) (.nil _)
    ·refine AW.ifF rfl c74 <| AW.sY [0, 1, 4, 10, 11] ?_
     refine block_n <| thenA_n ?_
     refine ⟨_, oj h, ?_⟩
     exact Ent.canq [] RF.any.qo.qv.qt.qv.qv (.ce (.nil _)) (.nil _)
   ·refine AW.ifF rfl c70 <| AW.exit <| thenA_x <| thenA_x ?_
    refine ⟨_, oj h, _, ?_, rfl, rfl⟩
    exact Ent.canq [] RF.any.qo.qv.qv (.ce (.nil _)) (.nil _)
  ·intro e st' hX
   try dsimp only at h
   try dsimp only at hX
   obtain ⟨rfl, rfl⟩ := hX
   refine ⟨_, Ent.refl, ?_⟩
   refine block_x <| thenA_n <| AW.seq <| AW.sX [0, 10, 13] ?_
   refine AW.block ?_
   obtain ⟨y93, hy93, h⟩ := bO h
   refine AW.loopO (fun s => ⟨(upd (upd (upd anyF 0 (.own 0 0 s.1.length)) 10 (.val (.int .i64 y76))) 13 (.val (.int .i64 s.2))), hpL [some (.row 3 true (List.map encRes s.1))] [], 8⟩) (fun z e st' => e = Exit.exit 2 ∧ st' = ⟨anyF, hpL [some (.row 3 true (List.map encRes z))] [], 8⟩) hy93 ?_ ?_ ?_
   ·exact Ent.canq [] RF.any.qo.qv.qv (.ce (.nil _)) (.nil _)
   ·clear h hy93
    rintro ⟨s6_0, s6_1⟩ x h
    rw [f130_75_s6] at h
    refine AW.seq <| AW.sX [0, 10, 13, 58] ?_
    rcases iteO h with ⟨c88, h⟩ | ⟨c88, h⟩
    ·refine AW.ifT rfl c88 <| AW.skip <| thenA_n <| AW.seq <| AW.block ?_
     obtain ⟨x89, hx89, h⟩ := bO h
     obtain ⟨hx89a, hx89b⟩ := ix_some.1 hx89
     obtain ⟨x90, hx90, h⟩ := bO h
     obtain ⟨hx90a, hx90b⟩ := ix_some.1 hx90
     obtain ⟨x91, hx91, h⟩ := bO h
     obtain ⟨hx91a, hx91b⟩ := ix_some.1 hx91
     refine AW.rf [0, 10, 13] [0,0,0,0,8,0,0,64,224,480,0,0,3072,7168,16355,32739,65535,131071] ?_
     generalize hK : inBlockA _ _ Exit.normal = K
     simp only [go_sem, seval, natOf_le hx89a, hx89b, ix_lt hx89b, natOf_le hx90a, hx90b, ix_lt hx90b, set_row (enc := encRes) (y := x89) (r := [.val (.string x89.Key), .val (.string x89.Val), .sl (List.map enc3 x89.Offs)]) rfl, natOf_le hx91a, hx91b, ix_lt hx91b, set_row (enc := encRes) (y := x90) (r := [.val (.string x90.Key), .val (.string x90.Val), .sl (List.map enc3 x90.Offs)]) rfl]
     subst hK
     refine block_n <| thenA_n <| AW.sY [0, 10, 13] ?_
     refine thenA_n ?_
     refine ⟨_, oj h, ?_⟩
     exact Ent.canq [] RF.any.qo.qv.qv (.ce (.nil _)) (.nil _)
    ·refine AW.ifF rfl c88 <| AW.exit <| thenA_x <| thenA_x ?_
     refine ⟨_, oj h, _, ?_, rfl, rfl⟩
     exact Ent.canq [] RF.any (.ce (.nil _)) (.nil _)
   ·intro e st' hX
    try dsimp only at h
    try dsimp only at hX
    obtain ⟨rfl, rfl⟩ := hX
    refine ⟨_, Ent.refl, ?_⟩
    refine block_x <| thenA_n ?_
    refine AW.ent (st' := ⟨anyF, hpL [some (.row 3 true (List.map encRes y93))] [], 8⟩) ?_ ?_
    · refine Ent.can [] _ _ _ rfl (by first | decide | simp) rfl ?_ ?_ ?_
      · exact RF.any
      · exact .ce (.nil _)
      · exact .nil _
    refine AW.ret <| thenA_r ?_
    obtain rfl := oi h
    exact ⟨_, Ent.refl, rfl, rfl, _, rfl, by first | rfl | simp [resOf, upd_ap, bytesI_len]⟩
 ·refine AW.ifF rfl c42 <| AW.skip <| thenA_n <| AW.seq <| AW.sX [0, 1, 2, 3, 4, 80] ?_
  rcases iteO h with ⟨c135, h⟩ | ⟨c135, h⟩
  ·refine AW.ifT rfl c135 <| AW.sX [0, 2, 4, 14] ?_
   refine AW.sX [0, 2, 4, 14, 15] ?_
   refine AW.seq <| AW.block ?_
   obtain ⟨y169, hy169, h⟩ := bO h
   refine AW.loopO (fun s => ⟨(upd (upd (upd (upd (upd anyF 0 (.own 0 0 a0.length)) 2 (.val (.int .i64 a2))) 4 (.clo (.func 75) [] [])) 14 (.val (.int .i64 s.2))) 15 (.val (.int .i64 s.1))), hpL [some (.row 3 true (List.map encRes a0))] [], 8⟩) (fun z e st' => e = Exit.exit 4 ∧ st' = ⟨(upd (upd (upd anyF 0 (.own 0 0 a0.length)) 2 (.val (.int .i64 a2))) 14 (.val (.int .i64 z))), hpL [some (.row 3 true (List.map encRes a0))] [], 8⟩) hy169 ?_ ?_ ?_
   ·exact Ent.canq [] RF.any.qo.qv.qt.qv.qv (.ce (.nil _)) (.nil _)
   ·clear h hy169
    rintro ⟨s11_0, s11_1⟩ x h
    rw [f130_75_s11] at h
    refine AW.seq <| AW.sX [0, 2, 4, 14, 15, 85] ?_
    rcases iteO h with ⟨c163, h⟩ | ⟨c163, h⟩
    ·refine AW.ifT rfl c163 <| AW.skip <| thenA_n <| AW.block <| AW.tX [0, 2, 4, 14, 15, 16] ?_
     obtain ⟨x164, hx164, h⟩ := bO h
     obtain ⟨hx164a, hx164b⟩ := ix_some.1 hx164
     obtain ⟨x165, hx165, h⟩ := bO h
     obtain ⟨hx165a, hx165b⟩ := ix_some.1 hx165
     obtain ⟨x166, hx166, h⟩ := bO h
     refine AW.re [0, 2, 4, 14, 15, 16, 103] [0,0,0,6,14,0,0,96,224,511,1023,2047] ?_
     generalize hK : AW Tryz.prog _ _ _ = K
     simp only [go_sem, seval, natOf_le hx164a, hx164b, ix_lt hx164b, natOf_le hx165a, hx165b, ix_lt hx165b]
     refine adN.pc (ok75 x164 x165 x166 hx166) Tryz.call75 (callV_tmp (by simp only [upd_ap, Nat.reduceEqDiff, if_true, if_false, ↓reduceIte]; rfl)) (by simp only [go_sem, seval, List.nil_append, List.append_nil, eq_false c42, eq_true c135, eq_true c163, natOf_le hx164a, hx164b, ix_lt hx164b, natOf_le hx165a, hx165b, ix_lt hx165b]) (by simp only [go_sem, seval]) ?_
     simp only [go_sem, seval, natOf_le hx164a, hx164b, ix_lt hx164b, natOf_le hx165a, hx165b, ix_lt hx165b]
     subst hK
     rcases iteO h with ⟨c167, h⟩ | ⟨c167, h⟩
     ·refine AW.ifNF rfl c167 <| AW.sY [0, 2, 4, 14, 15] ?_
      refine block_n <| thenA_n ?_
      refine ⟨_, oj h, ?_⟩
      exact Ent.canq [] RF.any.qo.qv.qt.qv.qv (.ce (.nil _)) (.nil _)
     ·refine AW.ifNT rfl c167 <| AW.sY [0, 2, 4, 14, 15] ?_
      refine block_n <| thenA_n ?_
      refine ⟨_, oj h, ?_⟩
      exact Ent.canq [] RF.any.qo.qv.qt.qv.qv (.ce (.nil _)) (.nil _)
    ·refine AW.ifF rfl c163 <| AW.exit <| thenA_x <| thenA_x ?_
     refine ⟨_, oj h, _, ?_, rfl, rfl⟩
     exact Ent.canq [] RF.any.qo.qv.qv (.ce (.nil _)) (.nil _)
   ·intro e st' hX
    try dsimp only at h
    try dsimp only at hX
    obtain ⟨rfl, rfl⟩ := hX
    refine ⟨_, Ent.refl, ?_⟩
    refine block_x <| thenA_n <| AW.seq <| AW.sX [0, 14, 17] ?_
    refine AW.block ?_
    obtain ⟨y186, hy186, h⟩ := bO h
    refine AW.loopO (fun s => ⟨(upd (upd (upd anyF 0 (.own 0 0 s.1.length)) 14 (.val (.int .i64 y169))) 17 (.val (.int .i64 s.2))), hpL [some (.row 3 true (List.map encRes s.1))] [], 8⟩) (fun z e st' => e = Exit.exit 6 ∧ st' = ⟨anyF, hpL [some (.row 3 true (List.map encRes z))] [], 8⟩) hy186 ?_ ?_ ?_
    ·exact Ent.canq [] RF.any.qo.qv.qv (.ce (.nil _)) (.nil _)
    ·clear h hy186
     rintro ⟨s12_0, s12_1⟩ x h
     rw [f130_75_s12] at h
     refine AW.seq <| AW.sX [0, 14, 17, 110] ?_
     rcases iteO h with ⟨c181, h⟩ | ⟨c181, h⟩
     ·refine AW.ifT rfl c181 <| AW.skip <| thenA_n <| AW.seq <| AW.block ?_
      obtain ⟨x182, hx182, h⟩ := bO h
      obtain ⟨hx182a, hx182b⟩ := ix_some.1 hx182
      obtain ⟨x183, hx183, h⟩ := bO h
      obtain ⟨hx183a, hx183b⟩ := ix_some.1 hx183
      obtain ⟨x184, hx184, h⟩ := bO h
      obtain ⟨hx184a, hx184b⟩ := ix_some.1 hx184
      refine AW.rf [0, 14, 17] [0,0,0,0,8,0,0,64,224,480,0,0,3072,7168,16355,32739,65535,131071] ?_
      generalize hK : inBlockA _ _ Exit.normal = K
      simp only [go_sem, seval, natOf_le hx182a, hx182b, ix_lt hx182b, natOf_le hx183a, hx183b, ix_lt hx183b, set_row (enc := encRes) (y := x182) (r := [.val (.string x182.Key), .val (.string x182.Val), .sl (List.map enc3 x182.Offs)]) rfl, natOf_le hx184a, hx184b, ix_lt hx184b, set_row (enc := encRes) (y := x183) (r := [.val (.string x183.Key), .val (.string x183.Val), .sl (List.map enc3 x183.Offs)]) rfl]
      subst hK
      refine block_n <| thenA_n <| AW.sY [0, 14, 17] ?_
      refine thenA_n ?_
      refine ⟨_, oj h, ?_⟩
      exact Ent.canq [] RF.any.qo.qv.qv (.ce (.nil _)) (.nil _)
     ·refine AW.ifF rfl c181 <| AW.exit <| thenA_x <| thenA_x ?_
      refine ⟨_, oj h, _, ?_, rfl, rfl⟩
      exact Ent.canq [] RF.any (.ce (.nil _)) (.nil _)
    ·intro e st' hX
     try dsimp only at h
     try dsimp only at hX
     obtain ⟨rfl, rfl⟩ := hX
     refine ⟨_, Ent.refl, ?_⟩
     refine block_x <| thenA_n ?_
     refine AW.ent (st' := ⟨anyF, hpL [some (.row 3 true (List.map encRes y186))] [], 8⟩) ?_ ?_
     · refine Ent.can [] _ _ _ rfl (by first | decide | simp) rfl ?_ ?_ ?_
       · exact RF.any
       · exact .ce (.nil _)
       · exact .nil _
     refine AW.ret <| thenA_r ?_
     obtain rfl := oi h
     exact ⟨_, Ent.refl, rfl, rfl, _, rfl, by first | rfl | simp [resOf, upd_ap, bytesI_len]⟩
  ·refine AW.ifF rfl c135 <| AW.skip <| thenA_n <| AW.tX [0, 1, 2, 3, 4, 18] ?_
   refine AW.tX [0, 1, 2, 3, 4, 18, 19] ?_
   refine AW.tX [0, 1, 2, 3, 4, 18, 19] ?_
   refine AW.join (fun s => ⟨(upd (upd (upd (upd (upd (upd (upd (upd (upd anyF 0 (.own 0 0 a0.length)) 1 (.val (.int .i64 a1))) 2 (.val (.int .i64 a2))) 3 (.val (.int .i64 a3))) 4 (.clo (.func 75) [] [])) 18 (.val (.int .i64 (IntKind.i64.wrap (shrV .u64 (IntKind.u64.wrap (IntKind.i64.wrap (a1 + a3))) 1))))) 19 (.val (.int .i64 (IntKind.i64.wrap ((IntKind.i64.wrap (shrV .u64 (IntKind.u64.wrap (IntKind.i64.wrap (a1 + a3))) 1)) + a2))))) 20 (.val (.int .i64 s.1))) 21 (.val (.int .i64 s.2))), hpL [some (.row 3 true (List.map encRes a0))] [], 8⟩) (fun s => f130_75_j1 a0 a1 a2 a3 rec130 s = some r) ?_ ?_
   ·refine AW.tX [0, 1, 2, 3, 4, 18, 19, 140] ?_
    rcases iteO h with ⟨c242, h⟩ | ⟨c242, h⟩
    ·refine AW.ifT rfl c242 <| AW.sX [0, 1, 2, 3, 4, 18, 19, 20] ?_
     refine AW.sY [0, 1, 2, 3, 4, 18, 19, 20, 21] ?_
     refine thenA_n ?_
     refine ⟨_, h, ?_⟩
     exact Ent.canq [] RF.any.qo.qv.qv.qv.qt.qv.qv.qv.qv (.ce (.nil _)) (.nil _)
    ·refine AW.ifF rfl c242 <| AW.sX [0, 1, 2, 3, 4, 18, 19, 20] ?_
     refine AW.sY [0, 1, 2, 3, 4, 18, 19, 20, 21] ?_
     refine thenA_n ?_
     refine ⟨_, h, ?_⟩
     exact Ent.canq [] RF.any.qo.qv.qv.qv.qt.qv.qv.qv.qv (.ce (.nil _)) (.nil _)
   ·clear h
    rintro ⟨j1_0, j1_1⟩ h
    rw [f130_75_j1] at h
    refine AW.sX [0, 1, 2, 3, 4, 18, 19, 20, 21, 22] ?_
    refine AW.seq <| AW.block ?_
    obtain ⟨y221, hy221, h⟩ := bO h
    refine AW.loopO (fun s => ⟨(upd (upd (upd (upd (upd (upd (upd (upd (upd (upd anyF 0 (.own 0 0 a0.length)) 1 (.val (.int .i64 a1))) 2 (.val (.int .i64 a2))) 3 (.val (.int .i64 a3))) 4 (.clo (.func 75) [] [])) 18 (.val (.int .i64 (IntKind.i64.wrap (shrV .u64 (IntKind.u64.wrap (IntKind.i64.wrap (a1 + a3))) 1))))) 19 (.val (.int .i64 (IntKind.i64.wrap ((IntKind.i64.wrap (shrV .u64 (IntKind.u64.wrap (IntKind.i64.wrap (a1 + a3))) 1)) + a2))))) 20 (.val (.int .i64 s.2))) 21 (.val (.int .i64 s.1))) 22 (.val (.int .i64 (IntKind.i64.wrap ((IntKind.i64.wrap ((IntKind.i64.wrap (shrV .u64 (IntKind.u64.wrap (IntKind.i64.wrap (a1 + a3))) 1)) + a2)) - 1))))), hpL [some (.row 3 true (List.map encRes a0))] [], 8⟩) (fun z e st' => e = Exit.exit 8 ∧ st' = ⟨(upd (upd (upd (upd (upd (upd (upd (upd anyF 0 (.own 0 0 a0.length)) 1 (.val (.int .i64 a1))) 2 (.val (.int .i64 a2))) 3 (.val (.int .i64 a3))) 4 (.clo (.func 75) [] [])) 18 (.val (.int .i64 (IntKind.i64.wrap (shrV .u64 (IntKind.u64.wrap (IntKind.i64.wrap (a1 + a3))) 1))))) 19 (.val (.int .i64 (IntKind.i64.wrap ((IntKind.i64.wrap (shrV .u64 (IntKind.u64.wrap (IntKind.i64.wrap (a1 + a3))) 1)) + a2))))) 20 (.val (.int .i64 z))), hpL [some (.row 3 true (List.map encRes a0))] [], 8⟩) hy221 ?_ ?_ ?_
    ·exact Ent.canq [] RF.any.qo.qv.qv.qv.qt.qv.qv.qv.qv.qv (.ce (.nil _)) (.nil _)
    ·clear h hy221
     rintro ⟨s14_0, s14_1⟩ x h
     rw [f130_75_s14] at h
     refine AW.seq <| AW.sX [0, 1, 2, 3, 4, 18, 19, 20, 21, 22, 151] ?_
     rcases iteO h with ⟨c215, h⟩ | ⟨c215, h⟩
     ·refine AW.ifT rfl c215 <| AW.skip <| thenA_n <| AW.block <| AW.tX [0, 1, 2, 3, 4, 18, 19, 20, 21, 22, 23] ?_
      obtain ⟨x216, hx216, h⟩ := bO h
      obtain ⟨hx216a, hx216b⟩ := ix_some.1 hx216
      obtain ⟨x217, hx217, h⟩ := bO h
      obtain ⟨hx217a, hx217b⟩ := ix_some.1 hx217
      obtain ⟨x218, hx218, h⟩ := bO h
      refine AW.re [0, 1, 2, 3, 4, 18, 19, 20, 21, 22, 23, 171] [0,0,0,0,12,30,62,0,0,384,896,2047,4095,8191] ?_
      generalize hK : AW Tryz.prog _ _ _ = K
      simp only [go_sem, seval, natOf_le hx216a, hx216b, ix_lt hx216b, natOf_le hx217a, hx217b, ix_lt hx217b]
      refine adN.pc (ok75 x216 x217 x218 hx218) Tryz.call75 (callV_tmp (by simp only [upd_ap, Nat.reduceEqDiff, if_true, if_false, ↓reduceIte]; rfl)) (by simp only [go_sem, seval, List.nil_append, List.append_nil, eq_false c42, eq_false c135, eq_true c215, natOf_le hx216a, hx216b, ix_lt hx216b, natOf_le hx217a, hx217b, ix_lt hx217b]) (by simp only [go_sem, seval]) ?_
      simp only [go_sem, seval, natOf_le hx216a, hx216b, ix_lt hx216b, natOf_le hx217a, hx217b, ix_lt hx217b]
      subst hK
      rcases iteO h with ⟨c219, h⟩ | ⟨c219, h⟩
      ·refine AW.ifNF rfl c219 <| AW.sY [0, 1, 2, 3, 4, 18, 19, 20, 21, 22] ?_
       refine block_n <| thenA_n ?_
       refine ⟨_, oj h, ?_⟩
       exact Ent.canq [] RF.any.qo.qv.qv.qv.qt.qv.qv.qv.qv.qv (.ce (.nil _)) (.nil _)
      ·refine AW.ifNT rfl c219 <| AW.sY [0, 1, 2, 3, 4, 18, 19, 20, 21, 22] ?_
       refine block_n <| thenA_n ?_
       refine ⟨_, oj h, ?_⟩
       exact Ent.canq [] RF.any.qo.qv.qv.qv.qt.qv.qv.qv.qv.qv (.ce (.nil _)) (.nil _)
     ·refine AW.ifF rfl c215 <| AW.exit <| thenA_x <| thenA_x ?_
      refine ⟨_, oj h, _, ?_, rfl, rfl⟩
      exact Ent.canq [] RF.any.qo.qv.qv.qv.qt.qv.qv.qv (.ce (.nil _)) (.nil _)
    ·intro e st' hX
     try dsimp only at h
     try dsimp only at hX
     obtain ⟨rfl, rfl⟩ := hX
     refine ⟨_, Ent.refl, ?_⟩
     refine block_x <| thenA_n <| AW.sX [0, 1, 2, 3, 4, 18, 20, 24] ?_
     refine AW.join (fun s => ⟨(upd (upd (upd (upd (upd (upd (upd anyF 0 (.own 0 0 s.length)) 1 (.val (.int .i64 a1))) 3 (.val (.int .i64 a3))) 4 (.clo (.func 75) [] [])) 18 (.val (.int .i64 (IntKind.i64.wrap (shrV .u64 (IntKind.u64.wrap (IntKind.i64.wrap (a1 + a3))) 1))))) 20 (.val (.int .i64 y221))) 24 (.val (.int .i64 (IntKind.i64.wrap ((IntKind.i64.wrap ((IntKind.i64.wrap (shrV .u64 (IntKind.u64.wrap (IntKind.i64.wrap (a1 + a3))) 1)) + a2)) - y221))))), hpL [some (.row 3 true (List.map encRes s))] [], 8⟩) (fun s => f130_75_j2 a1 a2 a3 rec130 y221 s = some r) ?_ ?_
     ·rcases iteO h with ⟨c238, h⟩ | ⟨c238, h⟩
      ·refine AW.sX [0, 1, 2, 3, 4, 18, 20, 24, 185] ?_
       rcases iteO h with ⟨c239, h⟩ | ⟨c239, h⟩
       ·refine AW.ifT rfl c239 ?_
        obtain ⟨x240, hx240, h⟩ := bO h
        obtain ⟨x241, hx241, h⟩ := bO h
        have lenhx240 : x240.length = a0.length := guardO_some.1 hx241
        refine AW.rL [0, 1, 3, 4, 18, 20, 24] fun K hK => ?_
        simp only [go_sem, seval, lenhx240]
        refine arC.ok (CallOk.ic (us' := _) (ok149_75 a0 y221 a2 (IntKind.i64.wrap ((IntKind.i64.wrap ((IntKind.i64.wrap (shrV .u64 (IntKind.u64.wrap (IntKind.i64.wrap (a1 + a3))) 1)) + a2)) - y221)) x240 hx240) [0] rfl (by decide) (by simp) (by simp) (by simp) (by simp) (.cons (.eq (by simp only [go_sem]) (by first | rfl | simp [upd_ap, hpL_ap, sg_ap])) (.nil _)) (by simp only [mapTL_cons, mapTL_nil, mapT_ptr, mapT_own, mapT_val, mapT_sl, mapT_agg, mapT_ip, mapT_clo, mapT_ifc, sg_ap, List.getD_cons_zero, List.getD_cons_succ]; exact (.cons (.of (by first | rfl | simp [mapT_own, sg_ap, eq_false c42, eq_false c135, eq_true c238, eq_true c239])) (.cons (.of rfl) (.cons (.of rfl) (.cons (.of rfl) (.cons (.of rfl) .nil)))))) (by simp only [go_sem, List.length_cons, List.length_nil, Nat.reduceAdd, Nat.reduceLT, decide_true]) (by simp [AObj.isMut]) (by simp [go_sem]) (by simp [go_sem])) Tryz.call149 ?_
        simp only [go_sem, seval, lenhx240]
        subst hK
        refine thenA_n ?_
        refine ⟨_, h, ?_⟩
        exact Ent.canq [] RF.any.qo.qv.qv.qt.qv.qv.qv (.ce (.nil _)) (.nil _)
       ·refine AW.ifF rfl c239 <| AW.skip <| thenA_n ?_
        refine ⟨_, h, ?_⟩
        exact Ent.canq [] RF.any.qo.qv.qv.qt.qv.qv.qv (.ce (.nil _)) (.nil _)
      ·refine AW.sX [0, 1, 2, 3, 4, 18, 20, 24, 185] ?_
       refine AW.ifBF rfl rfl <| AW.skip <| thenA_n ?_
       refine ⟨_, h, ?_⟩
       exact Ent.canq [] RF.any.qo.qv.qv.qt.qv.qv.qv (.ce (.nil _)) (.nil _)
     ·clear h
      rintro j2_0 h
      rw [f130_75_j2] at h
      refine AW.join (fun s => ⟨(upd (upd (upd (upd (upd anyF 0 (.own 0 0 s.length)) 3 (.val (.int .i64 a3))) 4 (.clo (.func 75) [] [])) 18 (.val (.int .i64 (IntKind.i64.wrap (shrV .u64 (IntKind.u64.wrap (IntKind.i64.wrap (a1 + a3))) 1))))) 24 (.val (.int .i64 (IntKind.i64.wrap ((IntKind.i64.wrap ((IntKind.i64.wrap (shrV .u64 (IntKind.u64.wrap (IntKind.i64.wrap (a1 + a3))) 1)) + a2)) - y221))))), hpL [some (.row 3 true (List.map encRes s))] [], 8⟩) (fun s => f130_75_j3 a1 a2 a3 rec130 y221 s = some r) ?_ ?_
      ·rcases iteO h with ⟨c234, h⟩ | ⟨c234, h⟩
       ·refine AW.sX [0, 1, 3, 4, 18, 20, 24, 199] ?_
        rcases iteO h with ⟨c235, h⟩ | ⟨c235, h⟩
        ·refine AW.ifT rfl c235 ?_
         obtain ⟨x236, hx236, h⟩ := bO h
         obtain ⟨x237, hx237, h⟩ := bO h
         have lenhx236 : x236.length = j2_0.length := guardO_some.1 hx237
         refine AW.rL [0, 3, 4, 18, 24] fun K hK => ?_
         simp only [go_sem, seval, lenhx236]
         refine arC.ok (CallOk.icr (us' := _) (hrec130 j2_0 a1 y221 (IntKind.i64.wrap (shrV .u64 (IntKind.u64.wrap (IntKind.i64.wrap (a1 + a3))) 1)) x236 hx236) [0] (.cons (.eq (by simp only [go_sem]) (by first | rfl | simp [upd_ap, hpL_ap, sg_ap])) (.nil _)) (.cons (.of (by first | rfl | simp [mapT_own, sg_ap, eq_false c42, eq_false c135, eq_true c234, eq_true c235])) (.cons (.of rfl) (.cons (.of rfl) (.cons (.of rfl) (.cons (.of rfl) .nil)))))) Tryz.call130 ?_
         simp only [go_sem, seval, lenhx236]
         subst hK
         refine thenA_n ?_
         refine ⟨_, h, ?_⟩
         exact Ent.canq [] RF.any.qo.qv.qt.qv.qv (.ce (.nil _)) (.nil _)
        ·refine AW.ifF rfl c235 <| AW.skip <| thenA_n ?_
         refine ⟨_, h, ?_⟩
         exact Ent.canq [] RF.any.qo.qv.qt.qv.qv (.ce (.nil _)) (.nil _)
       ·refine AW.sX [0, 1, 3, 4, 18, 20, 24, 199] ?_
        refine AW.ifBF rfl rfl <| AW.skip <| thenA_n ?_
        refine ⟨_, h, ?_⟩
        exact Ent.canq [] RF.any.qo.qv.qt.qv.qv (.ce (.nil _)) (.nil _)
      ·clear h
       rintro j3_0 h
       rw [f130_75_j3] at h
       rcases iteO h with ⟨c230, h⟩ | ⟨c230, h⟩
       ·refine AW.sX [0, 3, 4, 18, 24, 213] ?_
        rcases iteO h with ⟨c231, h⟩ | ⟨c231, h⟩
        ·refine AW.ifT rfl c231 ?_
         obtain ⟨x232, hx232, h⟩ := bO h
         obtain ⟨x233, hx233, h⟩ := bO h
         have lenhx232 : x232.length = j3_0.length := guardO_some.1 hx233
         refine AW.rL [] fun K hK => ?_
         simp only [go_sem, seval, lenhx232]
         refine arC.ok (CallOk.ic (us' := _) (hrec130 j3_0 (IntKind.i64.wrap (shrV .u64 (IntKind.u64.wrap (IntKind.i64.wrap (a1 + a3))) 1)) (IntKind.i64.wrap ((IntKind.i64.wrap ((IntKind.i64.wrap (shrV .u64 (IntKind.u64.wrap (IntKind.i64.wrap (a1 + a3))) 1)) + a2)) - y221)) a3 x232 hx232) [0] rfl (by decide) (by simp) (by simp) (by simp) (by simp) (.cons (.eq (by simp only [go_sem]) (by first | rfl | simp [upd_ap, hpL_ap, sg_ap])) (.nil _)) (by simp only [mapTL_cons, mapTL_nil, mapT_ptr, mapT_own, mapT_val, mapT_sl, mapT_agg, mapT_ip, mapT_clo, mapT_ifc, sg_ap, List.getD_cons_zero, List.getD_cons_succ]; exact (.cons (.of (by first | rfl | simp [mapT_own, sg_ap, eq_false c42, eq_false c135, eq_true c230, eq_true c231])) (.cons (.of rfl) (.cons (.of rfl) (.cons (.of rfl) (.cons (.of rfl) .nil)))))) (by simp only [go_sem, List.length_cons, List.length_nil, Nat.reduceAdd, Nat.reduceLT, decide_true]) (by simp [AObj.isMut]) (by simp [go_sem]) (by simp [go_sem])) Tryz.call130 ?_
         simp only [go_sem, seval, lenhx232]
         subst hK
         refine ⟨⟨anyF, hpL [some (.row 3 true (List.map encRes x232))] [], 8⟩, ?_, ?_⟩
         · refine Ent.can [] _ _ _ rfl (by first | decide | simp) rfl ?_ ?_ ?_
           · exact RF.any
           · exact .ce (.nil _)
           · exact .nil _
         obtain rfl := oi h
         exact ⟨rfl, rfl, _, rfl, by first | rfl | simp [resOf, upd_ap, bytesI_len]⟩
        ·refine AW.ifF rfl c231 <| AW.skip ?_
         refine ⟨⟨anyF, hpL [some (.row 3 true (List.map encRes j3_0))] [], 8⟩, ?_, ?_⟩
         · refine Ent.can [] _ _ _ rfl (by first | decide | simp) rfl ?_ ?_ ?_
           · exact RF.any
           · exact .ce (.nil _)
           · exact .nil _
         obtain rfl := oi h
         exact ⟨rfl, rfl, _, rfl, by first | rfl | simp [resOf, upd_ap, bytesI_len]⟩
       ·refine AW.sX [0, 3, 4, 18, 24, 213] ?_
        refine AW.ifBF rfl rfl <| AW.skip ?_
        refine ⟨⟨anyF, hpL [some (.row 3 true (List.map encRes j3_0))] [], 8⟩, ?_, ?_⟩
        · refine Ent.can [] _ _ _ rfl (by first | decide | simp) rfl ?_ ?_ ?_
          · exact RF.any
          · exact .ce (.nil _)
          · exact .nil _
        obtain rfl := oi h
        exact ⟨rfl, rfl, _, rfl, by first | rfl | simp [resOf, upd_ap, bytesI_len]⟩
def f130_75 : Nat → (List Res) → Int → Int → Int → Option (List Res)
  | 0 => fun _ _ _ _ => none
  | n + 1 => fun a0 a1 a2 a3 => f130_75b (f130_75 n) a0 a1 a2 a3
theorem ok130_75 : ∀ (n : Nat) (a0 : List Res) (a1 : Int) (a2 : Int) (a3 : Int) (r : (List Res)), f130_75 n a0 a1 a2 a3 = some r → IC Tryz.prog 130 [some (.row 3 true (List.map encRes a0))] [.own 0 0 a0.length, .val (.int .i64 a1), .val (.int .i64 a2), .val (.int .i64 a3), .clo (.func 75) [] []] (.tup []) [some (.row 3 true (List.map encRes r))] []
  | 0, a0, a1, a2, a3, r, h => by cases h
  | n + 1, a0, a1, a2, a3, r, h => ok130_75b (f130_75 n) (ok130_75 n) a0 a1 a2 a3 r h
def f105_75_s2 (a1 : Int) : (List Res) × Int × Int → Option (((List Res) × Int × Int) ⊕ (Int × (List Res)))
  | (s2_0, s2_1, s2_2) => (if s2_2 ≤ a1 then ((f129_75 s2_0 s2_1 s2_2).bind fun x22 => ((guardO (x22.length = s2_0.length)).bind fun x23 => some (.inl (x22, s2_2, IntKind.i64.wrap (s2_2 + 20))))) else some (.inr (s2_1, s2_0)))
def f105_75_s9 (a1 : Int) (s3_1 : Int) : (List Res) × Int × Int → Option (((List Res) × Int × Int) ⊕ (Int × (List Res)))
  | (s9_0, s9_1, s9_2) => (if s9_2 ≤ a1 then ((f130_75 fuel s9_0 s9_1 (IntKind.i64.wrap (s9_1 + s3_1)) s9_2).bind fun x106 => ((guardO (x106.length = s9_0.length)).bind fun x107 => some (.inl (x106, s9_2, IntKind.i64.wrap (s9_2 + (IntKind.i64.wrap (2 * s3_1))))))) else some (.inr (s9_1, s9_0)))
def f105_75_s3 (a1 : Int) : (List Res) × Int → Option (((List Res) × Int) ⊕ (List Res))
  | (s3_0, s3_1) => (if s3_1 < a1 then ((loopO (f105_75_s9 a1 s3_1) (s3_0, 0, IntKind.i64.wrap (2 * s3_1))).bind fun y108 => match y108 with | (y109, y110) => (if (IntKind.i64.wrap (y109 + s3_1)) < a1 then ((f130_75 fuel y110 y109 (IntKind.i64.wrap (y109 + s3_1)) a1).bind fun x112 => ((guardO (x112.length = y110.length)).bind fun x113 => some (.inl (x112, IntKind.i64.wrap (s3_1 * 2))))) else some (.inl (y110, IntKind.i64.wrap (s3_1 * 2))))) else some (.inr s3_0))
def f105_75 (a0 : List Res) (a1 : Int) : Option (List Res) := ((loopO (f105_75_s2 a1) (a0, 0, 20)).bind fun y24 => match y24 with | (y25, y26) => ((f129_75 y26 y25 a1).bind fun x27 => ((guardO (x27.length = y26.length)).bind fun x28 => ((loopO (f105_75_s3 a1) (x27, 20)).bind fun y115 => some y115))))
theorem ok105_75 (a0 : List Res) (a1 : Int) (r : (List Res)) (h : f105_75 a0 a1 = some r) : IC Tryz.prog 105 [some (.row 3 true (List.map encRes a0))] [.own 0 0 a0.length, .val (.int .i64 a1), .clo (.func 75) [] []] (.tup []) [some (.row 3 true (List.map encRes r))] [] := by
 rw [f105_75] at h
 refine ic_ofJ (N := 63) (rs := []) Tryz.func105 rfl rfl rfl (Nat.le_of_ble_eq_true rfl) <| AW.rX [0, 1, 2, 6] ?_
 refine AW.rX [0, 1, 2, 6, 7, 8] ?_
 refine AW.seq <| AW.block ?_
 obtain ⟨y24, hy24, h⟩ := bO h
 refine AW.loopO (fun s => ⟨(upd (upd (upd (upd (upd (upd anyF 0 (.own 0 0 s.1.length)) 1 (.val (.int .i64 a1))) 2 (.clo (.func 75) [] [])) 6 (.val (.int .i64 20))) 7 (.val (.int .i64 s.2.1))) 8 (.val (.int .i64 s.2.2))), hpL [some (.row 3 true (List.map encRes s.1))] [], 8⟩) (fun z e st' => e = Exit.exit 0 ∧ st' = ⟨(upd (upd (upd (upd (upd anyF 0 (.own 0 0 z.2.length)) 1 (.val (.int .i64 a1))) 2 (.clo (.func 75) [] [])) 6 (.val (.int .i64 20))) 7 (.val (.int .i64 z.1))), hpL [some (.row 3 true (List.map encRes z.2))] [], 8⟩) hy24 ?_ ?_ ?_
 ·exact Ent.canq [] RF.any.qo.qv.qt.qv.qv.qv (.ce (.nil _)) (.nil _)
 ·clear h hy24
  rintro ⟨s2_0, s2_1, s2_2⟩ x h
  rw [f105_75_s2] at h
  refine AW.seq <| AW.rX [0, 1, 2, 6, 7, 8, 13] ?_
  rcases iteO h with ⟨c21, h⟩ | ⟨c21, h⟩
  ·refine AW.ifT rfl c21 <| AW.skip <| thenA_n <| AW.block ?_
   obtain ⟨x22, hx22, h⟩ := bO h
   obtain ⟨x23, hx23, h⟩ := bO h
   have lenhx22 : x22.length = s2_0.length := guardO_some.1 hx23
   refine AW.rK [0, 1, 2, 6, 8] fun K hK => ?_
   simp only [go_sem, seval, lenhx22]
   refine arC.ok (CallOk.icr (us' := _) (ok129_75 s2_0 s2_1 s2_2 x22 hx22) [0] (.cons (.eq (by simp only [go_sem]) (by first | rfl | simp [upd_ap, hpL_ap, sg_ap])) (.nil _)) (.cons (.of (by first | rfl | simp [mapT_own, sg_ap, eq_true c21])) (.cons (.of rfl) (.cons (.of rfl) (.cons (.of rfl) .nil))))) Tryz.call129 ?_
   simp only [go_sem, seval, lenhx22]
   subst hK
   refine AW.sX [0, 1, 2, 6, 7, 8] ?_
   refine AW.sY [0, 1, 2, 6, 7, 8] ?_
   refine block_n <| thenA_n ?_
   refine ⟨_, oj h, ?_⟩
   exact Ent.canq [] RF.any.qo.qv.qt.qv.qv.qv (.ce (.nil _)) (.nil _)
  ·refine AW.ifF rfl c21 <| AW.exit <| thenA_x <| thenA_x ?_
   refine ⟨_, oj h, _, ?_, rfl, rfl⟩
   exact Ent.canq [] RF.any.qo.qv.qt.qv.qv (.ce (.nil _)) (.nil _)
 ·intro e st' hX
  obtain ⟨y25, y26⟩ := y24
  try dsimp only at h
  try dsimp only at hX
  obtain ⟨rfl, rfl⟩ := hX
  refine ⟨_, Ent.refl, ?_⟩
  refine block_x <| thenA_n ?_
  obtain ⟨x27, hx27, h⟩ := bO h
  obtain ⟨x28, hx28, h⟩ := bO h
  have lenhx27 : x27.length = y26.length := guardO_some.1 hx28
  refine AW.rK [0, 1, 2, 6] fun K hK => ?_
  simp only [go_sem, seval, lenhx27]
  refine arC.ok (CallOk.icr (us' := _) (ok129_75 y26 y25 a1 x27 hx27) [0] (.cons (.eq (by simp only [go_sem]) (by first | rfl | simp [upd_ap, hpL_ap, sg_ap])) (.nil _)) (.cons (.of (by first | rfl | simp [mapT_own, sg_ap])) (.cons (.of rfl) (.cons (.of rfl) (.cons (.of rfl) .nil))))) Tryz.call129 ?_
  simp only [go_sem, seval, lenhx27]
  subst hK
  refine AW.block ?_
  obtain ⟨y115, hy115, h⟩ := bO h
  refine AW.loopO (fun s => ⟨(upd (upd (upd (upd anyF 0 (.own 0 0 s.1.length)) 1 (.val (.int .i64 a1))) 2 (.clo (.func 75) [] [])) 6 (.val (.int .i64 s.2))), hpL [some (.row 3 true (List.map encRes s.1))] [], 8⟩) (fun z e st' => e = Exit.exit 2 ∧ st' = ⟨anyF, hpL [some (.row 3 true (List.map encRes z))] [], 8⟩) hy115 ?_ ?_ ?_
  ·exact Ent.canq [] RF.any.qo.qv.qt.qv (.ce (.nil _)) (.nil _)
  ·clear h hy115
   rintro ⟨s3_0, s3_1⟩ x h
   rw [f105_75_s3] at h
   refine AW.seq <| AW.sX [0, 1, 2, 6, 30] ?_
   rcases iteO h with ⟨c84, h⟩ | ⟨c84, h⟩
   ·refine AW.ifT rfl c84 <| AW.skip <| thenA_n <| AW.block <| AW.sX [0, 1, 2, 6, 7, 8] ?_
    refine AW.seq <| AW.block ?_
    obtain ⟨y108, hy108, h⟩ := bO h
    refine AW.loopO (fun s => ⟨(upd (upd (upd (upd (upd (upd anyF 0 (.own 0 0 s.1.length)) 1 (.val (.int .i64 a1))) 2 (.clo (.func 75) [] [])) 6 (.val (.int .i64 s3_1))) 7 (.val (.int .i64 s.2.1))) 8 (.val (.int .i64 s.2.2))), hpL [some (.row 3 true (List.map encRes s.1))] [], 8⟩) (fun z e st' => e = Exit.exit 4 ∧ st' = ⟨(upd (upd (upd (upd (upd anyF 0 (.own 0 0 z.2.length)) 1 (.val (.int .i64 a1))) 2 (.clo (.func 75) [] [])) 6 (.val (.int .i64 s3_1))) 7 (.val (.int .i64 z.1))), hpL [some (.row 3 true (List.map encRes z.2))] [], 8⟩) hy108 ?_ ?_ ?_
    ·exact Ent.canq [] RF.any.qo.qv.qt.qv.qv.qv (.ce (.nil _)) (.nil _)
    ·clear h hy108
     rintro ⟨s9_0, s9_1, s9_2⟩ x h
     rw [f105_75_s9] at h
     refine AW.seq <| AW.sX [0, 1, 2, 6, 7, 8, 35] ?_
     rcases iteO h with ⟨c105, h⟩ | ⟨c105, h⟩
     ·refine AW.ifT rfl c105 <| AW.skip <| thenA_n <| AW.block ?_
      obtain ⟨x106, hx106, h⟩ := bO h
      obtain ⟨x107, hx107, h⟩ := bO h
      have lenhx106 : x106.length = s9_0.length := guardO_some.1 hx107
      refine AW.rK [0, 1, 2, 6, 8] fun K hK => ?_
      simp only [go_sem, seval, lenhx27, eq_true c84, eq_true c105, lenhx106]
      refine arC.ok (CallOk.icr (us' := _) (ok130_75 fuel s9_0 s9_1 (IntKind.i64.wrap (s9_1 + s3_1)) s9_2 x106 hx106) [0] (.cons (.eq (by simp only [go_sem]) (by first | rfl | simp [upd_ap, hpL_ap, sg_ap])) (.nil _)) (.cons (.of (by first | rfl | simp [mapT_own, sg_ap, lenhx27, eq_true c84, eq_true c105])) (.cons (.of rfl) (.cons (.of rfl) (.cons (.of rfl) (.cons (.of rfl) .nil)))))) Tryz.call130 ?_
      simp only [go_sem, seval, lenhx27, eq_true c84, eq_true c105, lenhx106]
      subst hK
      refine AW.sX [0, 1, 2, 6, 7, 8] ?_
      refine AW.sY [0, 1, 2, 6, 7, 8] ?_
      refine block_n <| thenA_n ?_
      refine ⟨_, oj h, ?_⟩
      exact Ent.canq [] RF.any.qo.qv.qt.qv.qv.qv (.ce (.nil _)) (.nil _)
     ·refine AW.ifF rfl c105 <| AW.exit <| thenA_x <| thenA_x ?_
      refine ⟨_, oj h, _, ?_, rfl, rfl⟩
      exact Ent.canq [] RF.any.qo.qv.qt.qv.qv (.ce (.nil _)) (.nil _)
    ·intro e st' hX
     obtain ⟨y109, y110⟩ := y108
     try dsimp only at h
     try dsimp only at hX
     obtain ⟨rfl, rfl⟩ := hX
     refine ⟨_, Ent.refl, ?_⟩
     refine block_x <| thenA_n <| AW.seq <| AW.sX [0, 1, 2, 6, 7, 9] ?_
     refine AW.sX [0, 1, 2, 6, 7, 9, 54] ?_
     rcases iteO h with ⟨c111, h⟩ | ⟨c111, h⟩
     ·refine AW.ifT rfl c111 ?_
      obtain ⟨x112, hx112, h⟩ := bO h
      obtain ⟨x113, hx113, h⟩ := bO h
      have lenhx112 : x112.length = y110.length := guardO_some.1 hx113
      refine AW.rL [0, 1, 2, 6] fun K hK => ?_
      simp only [go_sem, seval, lenhx27, eq_true c84, eq_true c111, lenhx112]
      refine arC.ok (CallOk.icr (us' := _) (ok130_75 fuel y110 y109 (IntKind.i64.wrap (y109 + s3_1)) a1 x112 hx112) [0] (.cons (.eq (by simp only [go_sem]) (by first | rfl | simp [upd_ap, hpL_ap, sg_ap])) (.nil _)) (.cons (.of (by first | rfl | simp [mapT_own, sg_ap, lenhx27, eq_true c84, eq_true c111])) (.cons (.of rfl) (.cons (.of rfl) (.cons (.of rfl) (.cons (.of rfl) .nil)))))) Tryz.call130 ?_
      simp only [go_sem, seval, lenhx27, eq_true c84, eq_true c111, lenhx112]
      subst hK
      refine thenA_n <| AW.sY [0, 1, 2, 6] ?_
      refine block_n <| thenA_n ?_
      refine ⟨_, oj h, ?_⟩
      exact Ent.canq [] RF.any.qo.qv.qt.qv (.ce (.nil _)) (.nil _)
     ·refine AW.ifF rfl c111 <| AW.skip <| thenA_n <| AW.sY [0, 1, 2, 6] ?_
      refine block_n <| thenA_n ?_
      refine ⟨_, oj h, ?_⟩
      exact Ent.canq [] RF.any.qo.qv.qt.qv (.ce (.nil _)) (.nil _)
   ·refine AW.ifF rfl c84 <| AW.exit <| thenA_x <| thenA_x ?_
    refine ⟨_, oj h, _, ?_, rfl, rfl⟩
    exact Ent.canq [] RF.any (.ce (.nil _)) (.nil _)
  ·intro e st' hX
   try dsimp only at h
   try dsimp only at hX
   obtain ⟨rfl, rfl⟩ := hX
   refine ⟨_, Ent.refl, ?_⟩
   refine block_x ?_
   refine ⟨⟨anyF, hpL [some (.row 3 true (List.map encRes y115))] [], 8⟩, ?_, ?_⟩
   · refine Ent.can [] _ _ _ rfl (by first | decide | simp) rfl ?_ ?_ ?_
     · exact RF.any
     · exact .ce (.nil _)
     · exact .nil _
   obtain rfl := oi h
   exact ⟨rfl, rfl, _, rfl, by first | rfl | simp [resOf, upd_ap, bytesI_len]⟩
def f74_75 (a0 : List Res) : Option (List Res) := ((f105_75 a0 ((a0.length : Nat) : Int)).bind fun x1 => ((guardO (x1.length = a0.length)).bind fun x2 => some x1))
theorem ok74_75 (a0 : List Res) (r : (List Res)) (h : f74_75 a0 = some r) : IC Tryz.prog 74 [some (.row 3 true (List.map encRes a0))] [.own 0 0 a0.length, .clo (.func 75) [] []] (.tup []) [some (.row 3 true (List.map encRes r))] [] := by
 rw [f74_75] at h
 refine ic_ofJ (N := 9) (rs := []) Tryz.func74 rfl rfl rfl (Nat.le_of_ble_eq_true rfl) ?_
 obtain ⟨x1, hx1, h⟩ := bO h
 obtain ⟨x2, hx2, h⟩ := bO h
 have lenhx1 : x1.length = a0.length := guardO_some.1 hx2
 refine AW.rL [] fun K hK => ?_
 simp only [go_sem, seval, lenhx1]
 refine arC.ok (CallOk.icr (us' := _) (ok105_75 a0 ((a0.length : Nat) : Int) x1 hx1) [0] (.cons (.eq (by simp only [go_sem]) (by first | rfl | simp [upd_ap, hpL_ap, sg_ap])) (.nil _)) (.cons (.of (by first | rfl | simp [mapT_own, sg_ap])) (.cons (.of rfl) (.cons (.of rfl) .nil)))) Tryz.call105 ?_
 simp only [go_sem, seval, lenhx1]
 subst hK
 refine ⟨⟨anyF, hpL [some (.row 3 true (List.map encRes x1))] [], 8⟩, ?_, ?_⟩
 · refine Ent.can [] _ _ _ rfl (by first | decide | simp) rfl ?_ ?_ ?_
   · exact RF.any
   · exact .ce (.nil _)
   · exact .nil _
 obtain rfl := oi h
 exact ⟨rfl, rfl, _, rfl, by first | rfl | simp [resOf, upd_ap, bytesI_len]⟩
end Au
end Go.Proofs.Yt
namespace Go.Gm
open Go.Sort Go.Proofs Go.RowKit Go.Maps
theorem pc_read {P : Program} {f : FuncId} {u : AV} {us : List Value} {v : Value}
    (h : ∀ (m : Nat → Prop) (w : World) (x : Value), TabH P (fun _ => False) w → Rel (E0 m w) u x → Calls P f (x :: us).toArray w fun e w' => e = .returned v ∧ w.heap.size ≤ w'.heap.size ∧ (∀ b, b < w.heap.size → w'.heap[b]? = w.heap[b]?) ∧ w'.os = w.os ∧ w'.tape = w.tape ∧ w'.output = w.output)
    (hs : sealV (fun _ => none) (.val v) = some (.val v, [])) : PC P f (u :: us.map .val) (.val v) := by
  intro m w vs hm ht hus
  cases hus with
  | cons hu hus =>
  rename_i x vs
  have e := relL_vals_eq hus
  subst e
  refine (h m w x ht hu).mono ?_
  rintro e w' ⟨rfl, k1, k2, k3, k4, k5⟩
  refine ⟨_, fun _ => none, fun _ => False, fun _ => none, .val v, [], rfl, ?_, .val _, hs, List.nodup_nil⟩
  constructor
  · intro t o h; cases h
  · intro t _; rfl
  · intro t l h; cases h
  · intro t t' l l' h; cases h
  · exact k3
  · exact k4
  · exact k5
  · exact k1
  · intro b hb _; exact k2 b hb
  · rintro b ⟨t, o, l, h, _⟩; cases h
  · intro t l h; cases h
  · intro t h; exact absurd h (Nat.not_lt_zero t)
  · intro t l h; exact absurd h (Nat.not_lt_zero t)
def joinS (l : List ByteArray) (sep : ByteArray) : ByteArray := ⟨(Lib.join (l.map (·.data.toList)) sep.data.toList).toArray⟩
def itoaS (n : Int) : ByteArray := ⟨(Lib.itoa n).toArray⟩
end Go.Gm
namespace Go.Gm
open Go.Sort Go.Proofs Go.RowKit Go.Maps
def splitS (s t : ByteArray) : List ByteArray := Lib.splitB t 0 (Lib.countB s t) s
end Go.Gm
namespace Go.Gm
open Go.Lib
theorem i64_id {n : Int} (h0 : -9223372036854775808 ≤ n) (h1 : n < 9223372036854775808) : IntKind.i64.wrap n = n := by
  simp only [IntKind.wrap, IntKind.bits, IntKind.signed, Bool.true_and]
  split
  · rename_i h; simp only [ge_iff_le, decide_eq_true_eq] at h; omega
  · rename_i h; simp only [ge_iff_le, decide_eq_true_eq] at h; omega
theorem u64_wrap (n : Int) : IntKind.u64.wrap n = n % 18446744073709551616 := by
  simp [IntKind.wrap, IntKind.bits, IntKind.signed]
theorem appO_ok' {α : Type} {l r : List α} (h : l.length ≤ 10000000000) (h1 : r.length ≤ 10000000000) : appO? l r = some (l ++ r) := appO?_some.2 ⟨by omega, rfl⟩
theorem wrapN {i : Nat} (h : i ≤ 10000000000) : IntKind.i64.wrap ((i : Int) + 1) = ((i + 1 : Nat) : Int) := by rw [i64_id (by omega) (by omega)]; omega
theorem ixN {α : Type} {l : List α} {i : Nat} (h : i < l.length) : ix l (i : Int) = some l[i] := ix_some.2 ⟨by omega, by simp [List.getElem?_eq_getElem h]⟩
theorem size_bl (a : ByteArray) : a.size = (bl a).length := by cases a; rfl
theorem loopN {τ ρ : Type} {step : τ → Option (τ ⊕ ρ)} (st : Nat → τ) : ∀ (n : Nat), (∀ i, i < n → step (st i) = some (.inl (st (i + 1)))) → loopO step (st 0) = loopO step (st n)
  | 0, _ => rfl
  | n + 1, h => (loopN st n (fun i hi => h i (by omega))).trans (loopO_next (h n (by omega)))
theorem loopN_done {τ ρ : Type} {step : τ → Option (τ ⊕ ρ)} (st : Nat → τ) (n : Nat) {r : ρ} (h : ∀ i, i < n → step (st i) = some (.inl (st (i + 1)))) (hd : step (st n) = some (.inr r)) : loopO step (st 0) = some r := (loopN st n h).trans (loopO_done hd)
def dig (d : Nat) : UInt8 := UInt8.ofNat (48 + d)
theorem cmp0 : ∀ (a b : List UInt8), Lib.compareBytes a b = 0 ↔ a = b
  | [], [] => by simp [Lib.compareBytes]
  | [], _ :: _ => by simp [Lib.compareBytes]
  | _ :: _, [] => by simp [Lib.compareBytes]
  | a :: al, b :: bs => by
    simp only [Lib.compareBytes, List.cons.injEq]
    split
    · rename_i h; simp only [reduceCtorEq, false_iff]; rintro ⟨rfl, _⟩; rw [UInt8.lt_iff_toNat_lt] at h; omega
    · split
      · rename_i h; constructor
        · intro q; cases q
        · rintro ⟨rfl, _⟩; rw [UInt8.lt_iff_toNat_lt] at h; omega
      · rename_i h1 h2
        rw [cmp0 al bs]
        have : a = b := by
          rw [← UInt8.toNat_inj]; rw [UInt8.lt_iff_toNat_lt] at h1 h2; omega
        simp [this]
theorem cmp_lt : ∀ (a b : List UInt8), (a < b → Lib.compareBytes a b = -1) ∧ (Lib.compareBytes a b = -1 ∨ Lib.compareBytes a b = 0 ∨ Lib.compareBytes a b = 1) ∧ (Lib.compareBytes a b = -1 → a < b)
  | [], [] => by simp [Lib.compareBytes]
  | [], _ :: _ => by simp [Lib.compareBytes]
  | _ :: _, [] => by simp [Lib.compareBytes]
  | a :: al, b :: bs => by
    obtain ⟨h1, h2, h3⟩ := cmp_lt al bs
    simp only [Lib.compareBytes, List.cons_lt_cons_iff]
    by_cases h : a < b
    · simp [h]
    · by_cases h' : b < a
      · have : a ≠ b := by rintro rfl; exact h h'
        simp [h, h', this]
      · have : a = b := by
          rw [← UInt8.toNat_inj]; rw [UInt8.lt_iff_toNat_lt] at h h'; omega
        subst this
        simp only [h, if_false, false_or, true_and]
        exact ⟨h1, h2, h3⟩
theorem cmpS_eq (a b : ByteArray) : cmpS a b = if sLt a b = true then -1 else if a = b then 0 else 1 := by
  obtain ⟨h1, h2, h3⟩ := cmp_lt (bl a) (bl b)
  have e : cmpS a b = Lib.compareBytes (bl a) (bl b) := rfl
  rw [e]
  by_cases h : sLt a b = true
  · rw [if_pos h]; exact h1 (sLt_iff.1 h)
  · rw [if_neg h]
    by_cases hab : a = b
    · rw [if_pos hab]; exact (cmp0 _ _).2 (by rw [hab])
    · rw [if_neg hab]
      have n1 : Lib.compareBytes (bl a) (bl b) ≠ -1 := fun q => h (sLt_iff.2 (h3 q))
      have n2 : Lib.compareBytes (bl a) (bl b) ≠ 0 := fun q => hab (bl_inj.1 ((cmp0 _ _).1 q))
      omega
end Go.Gm
namespace Go.Gm
structure SWO {α : Type} (lt : α → α → Bool) : Prop where
  asym : ∀ {x y}, lt x y = true → lt y x = false
  cotr : ∀ {x z} (y), lt x z = true → lt x y = true ∨ lt y z = true
section
variable {α : Type} {lt : α → α → Bool}
def Srt (lt : α → α → Bool) (l : List α) : Prop := l.Pairwise fun x y => lt y x = false
def eqv (lt : α → α → Bool) (k x : α) : Bool := !lt k x && !lt x k
def SF (lt : α → α → Bool) (l m : List α) : Prop := ∀ k, l.filter (eqv lt k) = m.filter (eqv lt k)
theorem SWO.irr (h : SWO lt) (x : α) : lt x x = false := by
  cases hx : lt x x with
  | false => rfl
  | true => rw [h.asym hx] at hx; cases hx
theorem SWO.le_trans (h : SWO lt) {x y z : α} (h1 : lt y x = false) (h2 : lt z y = false) : lt z x = false := by
  cases hz : lt z x with
  | false => rfl
  | true => rcases h.cotr y hz with k | k
            · rw [h2] at k; cases k
            · rw [h1] at k; cases k
theorem SWO.lt_le (h : SWO lt) {x y z : α} (h1 : lt x y = true) (h2 : lt z y = false) : lt x z = true := by
  rcases h.cotr z h1 with k | k
  · exact k
  · rw [h2] at k; cases k
theorem SWO.le_lt (h : SWO lt) {x y z : α} (h1 : lt y x = false) (h2 : lt y z = true) : lt x z = true := by
  rcases h.cotr x h2 with k | k
  · rw [h1] at k; cases k
  · exact k
theorem SWO.eqv_self (h : SWO lt) (x : α) : eqv lt x x = true := by simp [eqv, h.irr]
theorem SF.refl (l : List α) : SF lt l l := fun _ => rfl
theorem SF.symm {l m : List α} (h : SF lt l m) : SF lt m l := fun k => (h k).symm
theorem SF.trans {l m n : List α} (h : SF lt l m) (h2 : SF lt m n) : SF lt l n := fun k => (h k).trans (h2 k)
theorem SF.append {l m l' m' : List α} (h : SF lt l m) (h' : SF lt l' m') : SF lt (l ++ l') (m ++ m') := fun k => by rw [List.filter_append, List.filter_append, h k, h' k]
theorem SF.mem (hw : SWO lt) {l m : List α} (h : SF lt l m) {x : α} (hx : x ∈ l) : x ∈ m := by
  have : x ∈ l.filter (eqv lt x) := List.mem_filter.2 ⟨hx, hw.eqv_self x⟩
  rw [h x] at this
  exact (List.mem_filter.1 this).1
theorem SF.swap (hw : SWO lt) {a b : List α} (h : ∀ x ∈ a, ∀ y ∈ b, lt y x = true) : SF lt (a ++ b) (b ++ a) := fun k => by
  rw [List.filter_append, List.filter_append]
  by_cases ha : a.filter (eqv lt k) = []
  · rw [ha]; simp
  · have hb : b.filter (eqv lt k) = [] := by
      obtain ⟨x, hx⟩ := List.exists_mem_of_ne_nil _ ha
      obtain ⟨hx1, hx2⟩ := List.mem_filter.1 hx
      simp only [eqv, Bool.and_eq_true, Bool.not_eq_true'] at hx2
      apply List.filter_eq_nil_iff.2
      intro y hy
      have hyx := h x hx1 y hy
      have : lt y k = true := hw.lt_le hyx hx2.1
      simp [eqv, this]
    rw [hb]; simp
theorem Srt.append {l m : List α} (h1 : Srt lt l) (h2 : Srt lt m) (h : ∀ x ∈ l, ∀ y ∈ m, lt y x = false) : Srt lt (l ++ m) := List.pairwise_append.2 ⟨h1, h2, h⟩
theorem Srt.left {l m : List α} (h : Srt lt (l ++ m)) : Srt lt l := (List.pairwise_append.1 h).1
theorem Srt.right {l m : List α} (h : Srt lt (l ++ m)) : Srt lt m := (List.pairwise_append.1 h).2.1
theorem Srt.cross {l m : List α} (h : Srt lt (l ++ m)) : ∀ x ∈ l, ∀ y ∈ m, lt y x = false := (List.pairwise_append.1 h).2.2
theorem Srt.one (x : α) : Srt lt [x] := List.pairwise_singleton ..
theorem Srt.nil : Srt lt ([] : List α) := List.Pairwise.nil
theorem Srt.uniq (hw : SWO lt) : ∀ {l m : List α}, Srt lt l → Srt lt m → SF lt l m → l = m
  | [], [], _, _, _ => rfl
  | [], y :: m, _, _, h => absurd (h.symm.mem hw List.mem_cons_self) (List.not_mem_nil)
  | x :: l, [], _, _, h => absurd (h.mem hw List.mem_cons_self) (List.not_mem_nil)
  | x :: l, y :: m, h1, h2, h => by
    have hx : x ∈ y :: m := h.mem hw List.mem_cons_self
    have hy : y ∈ x :: l := h.symm.mem hw List.mem_cons_self
    obtain ⟨p1, p2⟩ := List.pairwise_cons.1 h1
    obtain ⟨q1, q2⟩ := List.pairwise_cons.1 h2
    have yx : lt x y = false := by
      rcases List.mem_cons.1 hx with e | e
      · rw [e]; exact hw.irr y
      · exact q1 x e
    have xy : lt y x = false := by
      rcases List.mem_cons.1 hy with e | e
      · rw [e]; exact hw.irr x
      · exact p1 y e
    have hk := h x
    have ex : eqv lt x x = true := hw.eqv_self x
    have ey : eqv lt x y = true := by simp [eqv, yx, xy]
    rw [List.filter_cons_of_pos ex, List.filter_cons_of_pos ey] at hk
    obtain ⟨rfl, _⟩ := List.cons.inj hk
    have : SF lt l m := fun k => by
      have := h k
      by_cases hkx : eqv lt k x = true
      · rw [List.filter_cons_of_pos hkx, List.filter_cons_of_pos hkx] at this
        exact (List.cons.inj this).2
      · rw [List.filter_cons_of_neg hkx, List.filter_cons_of_neg hkx] at this
        exact this
    rw [Srt.uniq hw p2 q2 this]
structure Sorts (lt : α → α → Bool) (l r : List α) : Prop where
  srt : Srt lt r
  sf : SF lt r l
  len : r.length = l.length
theorem Sorts.uniq (hw : SWO lt) {l r r' : List α} (h : Sorts lt l r) (h' : Sorts lt l r') : r = r' := Srt.uniq hw h.srt h'.srt (h.sf.trans h'.sf.symm)
end
section
variable {α : Type}
theorem at_mid (P : List α) (x : α) (R : List α) : (P ++ x :: R)[P.length]? = some x := by simp
theorem set_mid (P : List α) (x y : α) (R : List α) : (P ++ x :: R).set P.length y = P ++ y :: R := by simp
theorem ix_mid {P R : List α} {x : α} {i : Int} (h : i = (P.length : Int)) : ix (P ++ x :: R) i = some x := by
  subst h
  exact ix_some.2 ⟨by omega, by simp⟩
theorem set_mid' {P R : List α} {x y : α} {n : Nat} (h : n = P.length) : (P ++ x :: R).set n y = P ++ y :: R := by subst h; exact set_mid P x y R
theorem split_at {l : List α} {n : Nat} (h : n ≤ l.length) : ∃ A B, l = A ++ B ∧ A.length = n := ⟨l.take n, l.drop n, (List.take_append_drop n l).symm, by rw [List.length_take]; omega⟩
end
end Go.Gm
namespace Go.Proofs.Yt
open Go.Gm
namespace Au
def ltI (x y : Res) : Bool := sLt x.Key y.Key
theorem sLt_iff (a b : ByteArray) : sLt a b = true ↔ bl a < bl b := by
 have h := (cmp_lt (bl a) (bl b))
 have e := cmpS_eq a b
 constructor
 ·intro hs
  rw [if_pos hs] at e
  exact h.2.2 e
 ·intro hlt
  have e1 := h.1 hlt
  cases hs : sLt a b with
  | true => rfl
  | false =>
   rw [hs] at e
   simp only [Bool.false_eq_true, if_false] at e
   have e2 : cmpS a b = -1 := e1
   rw [e2] at e
   split at e <;> cases e
theorem sLt_asym {a b : ByteArray} (h : sLt a b = true) : sLt b a = false := by
 cases hb : sLt b a with
 | false => rfl
 | true => exact absurd ((sLt_iff a b).1 h) (List.lt_asymm ((sLt_iff b a).1 hb))
theorem sLt_cotr {a c : ByteArray} (b : ByteArray) (h : sLt a c = true) : sLt a b = true ∨ sLt b c = true := by
 rw [sLt_iff] at h
 rw [sLt_iff, sLt_iff]
 by_cases hab : bl a < bl b
 ·exact .inl hab
 ·exact .inr (List.lt_of_le_of_lt (List.not_lt.1 hab) h)
theorem swoI : SWO ltI := ⟨fun {x y} h => sLt_asym h, fun {x z} y h => sLt_cotr y.Key h⟩
theorem cmp_eq (x y : Res) : ∃ c, f75 x y = some c ∧ (c < 0 ↔ ltI x y = true) := by
 unfold f75 f76 ltI
 refine ⟨_, rfl, ?_⟩
 rw [cmpS_eq]
 by_cases h1 : sLt x.Key y.Key = true
 ·rw [if_pos h1]; simp [h1]
 ·rw [if_neg h1]
  split
  ·simp [h1]
  ·simp [h1]
theorem nb_ix0 (Q : List Res) (y x : Res) (R : List Res) : ix (Q ++ y :: x :: R) (Q.length : Int) = some y := ix_mid rfl
theorem nb_ix1 (Q : List Res) (y x : Res) (R : List Res) : ix (Q ++ y :: x :: R) ((Q.length + 1 : Nat) : Int) = some x := by
 rw [show Q ++ y :: x :: R = (Q ++ [y]) ++ x :: R by simp]
 exact ix_mid (by simp)
theorem nb_set1 (Q : List Res) (y x z : Res) (R : List Res) : (Q ++ y :: x :: R).set (Q.length + 1) z = Q ++ y :: z :: R := by
 rw [show Q ++ y :: x :: R = (Q ++ [y]) ++ x :: R by simp, set_mid' (by simp)]
 simp
theorem nb_set0 (Q : List Res) (y x z : Res) (R : List Res) : (Q ++ y :: x :: R).set Q.length z = Q ++ z :: x :: R := set_mid' rfl
theorem wrapS {n : Nat} (h : n ≤ 10000000000) : IntKind.i64.wrap (((n + 1 : Nat) : Int) - 1) = (n : Int) := by rw [i64_id (by omega) (by omega)]; omega
theorem ins_inner (P S : List Res) (x : Res) : ∀ (n : Nat) (A B : List Res), A.length = n → P.length + n ≤ 1000000 → (∀ b ∈ B, ltI x b = true) → Srt ltI (A ++ B) →
  ∃ A' B', loopO (f129_75_s4 (P.length : Int)) (P ++ A ++ x :: (B ++ S), ((P.length + A.length : Nat) : Int)) = some (P ++ (A' ++ x :: B') ++ S) ∧ A ++ B = A' ++ B' ∧ Srt ltI (A' ++ x :: B') ∧ (∀ b ∈ B', ltI x b = true)
 | 0, A, B, hA, hl, hB, hs => by
  obtain rfl := List.eq_nil_of_length_eq_zero hA
  refine ⟨[], B, loopO_done ?_, rfl, ?_, hB⟩
  ·simp [f129_75_s4]
  ·exact List.pairwise_cons.2 ⟨fun b hb => swoI.asym (hB b hb), hs⟩
 | n + 1, A, B, hA, hl, hB, hs => by
  obtain ⟨A1, y, rfl⟩ : ∃ A1 y, A = A1 ++ [y] := by
   rcases List.eq_nil_or_concat A with h | ⟨A1, y, h⟩
   ·rw [h] at hA; simp at hA
   ·exact ⟨A1, y, by rw [h]; simp⟩
  have hA1 : A1.length = n := by simpa using hA
  have e1 : P ++ (A1 ++ [y]) ++ x :: (B ++ S) = (P ++ A1) ++ y :: x :: (B ++ S) := by simp
  have e2 : ((P.length + (A1 ++ [y]).length : Nat) : Int) = (((P ++ A1).length + 1 : Nat) : Int) := by simp; omega
  have hlt : (P.length : Int) < (((P ++ A1).length + 1 : Nat) : Int) := by simp; omega
  have hw : IntKind.i64.wrap ((((P ++ A1).length + 1 : Nat) : Int) - 1) = ((P ++ A1).length : Int) := wrapS (by simp; omega)
  obtain ⟨c, hc, hc2⟩ := cmp_eq x y
  rw [e1, e2]
  by_cases hxy : ltI x y = true
  ·have hstep : f129_75_s4 (P.length : Int) ((P ++ A1) ++ y :: x :: (B ++ S), (((P ++ A1).length + 1 : Nat) : Int)) = some (.inl ((P ++ A1) ++ x :: y :: (B ++ S), ((P ++ A1).length : Int))) := by
    simp only [f129_75_s4, if_pos hlt, nb_ix1, hw, nb_ix0, Option.bind_some, hc, if_pos (hc2.2 hxy), Int.toNat_natCast, nb_set1, nb_set0]
   rw [loopO_next hstep]
   obtain ⟨A', B', h1, h2, h3, h4⟩ := ins_inner P S x n A1 (y :: B) hA1 (by omega) (fun b hb => by
    rcases List.mem_cons.1 hb with rfl | hb
    ·exact hxy
    ·exact hB b hb) (by simpa using hs)
   refine ⟨A', B', ?_, by rw [← h2]; simp, h3, h4⟩
   rw [← h1]
   congr 1
   simp
  ·have hxy' : ltI x y = false := by simpa using hxy
   have hstep : f129_75_s4 (P.length : Int) ((P ++ A1) ++ y :: x :: (B ++ S), (((P ++ A1).length + 1 : Nat) : Int)) = some (.inr ((P ++ A1) ++ y :: x :: (B ++ S))) := by
    simp only [f129_75_s4, if_pos hlt, nb_ix1, hw, nb_ix0, Option.bind_some, hc, if_neg (fun h => hxy (hc2.1 h))]
   refine ⟨A1 ++ [y], B, (loopO_done hstep).trans (by simp), rfl, ?_, hB⟩
   refine Srt.append hs.left (List.pairwise_cons.2 ⟨fun b hb => swoI.asym (hB b hb), hs.right⟩) fun a ha b hb => ?_
   have hay : ltI x a = false := by
    rcases List.mem_append.1 ha with h | h
    ·exact swoI.le_trans (hs.left.cross a h y (by simp)) hxy'
    ·simp at h; subst h; exact hxy'
   rcases List.mem_cons.1 hb with rfl | hb
   ·exact hay
   ·exact hs.cross a ha b hb
theorem ins_outer (P S : List Res) : ∀ (R Y : List Res), Srt ltI Y → P.length + Y.length + R.length ≤ 100000 →
  ∃ M, loopO (f129_75_s1 (P.length : Int) ((P.length + Y.length + R.length : Nat) : Int)) (P ++ Y ++ (R ++ S), ((P.length + Y.length : Nat) : Int)) = some (P ++ M ++ S) ∧ Sorts ltI (Y ++ R) M
 | [], Y, hs, hl => by
  refine ⟨Y, loopO_done ?_, hs, by rw [List.append_nil]; exact SF.refl _, by simp⟩
  simp [f129_75_s1]
 | x :: R, Y, hs, hl => by
  obtain ⟨A', B', h1, h2, h3, h4⟩ := ins_inner P (R ++ S) x Y.length Y [] rfl (by simp at hl; omega) (by simp) (by simpa using hs)
  rw [List.append_nil] at h2
  have e : (A' ++ x :: B').length = Y.length + 1 := by rw [h2]; simp; omega
  obtain ⟨M, k1, k2⟩ := ins_outer P S R (A' ++ x :: B') h3 (by simp at hl e ⊢; omega)
  refine ⟨M, ?_, k2.srt, k2.sf.trans ?_, ?_⟩
  ·have hw : IntKind.i64.wrap (((P.length + Y.length : Nat) : Int) + 1) = ((P.length + (A' ++ x :: B').length : Nat) : Int) := by rw [wrapN (by simp at hl; omega), e]; congr 1
   have hstep : f129_75_s1 (P.length : Int) ((P.length + Y.length + (x :: R).length : Nat) : Int) (P ++ Y ++ (x :: R ++ S), ((P.length + Y.length : Nat) : Int)) = some (.inl (P ++ (A' ++ x :: B') ++ (R ++ S), ((P.length + (A' ++ x :: B').length : Nat) : Int))) := by
    rw [List.nil_append] at h1
    simp only [f129_75_s1, if_pos (show ((P.length + Y.length : Nat) : Int) < ((P.length + Y.length + (x :: R).length : Nat) : Int) by simp; omega), List.cons_append, h1, Option.bind_some, hw]
   rw [loopO_next hstep, ← k1]
   congr 2
   simp at e ⊢; omega
  ·have : SF ltI (A' ++ (x :: B')) (A' ++ (B' ++ [x])) := SF.append (SF.refl _) (SF.swap swoI (a := B') (b := [x]) (fun p hp q hq => by simp at hq; subst hq; exact h4 p hp)).symm
   rw [h2]
   have e3 : A' ++ B' ++ x :: R = (A' ++ (B' ++ [x])) ++ R := by simp
   rw [e3]
   exact SF.append this (SF.refl _)
  ·rw [k2.len]; simp at e ⊢; omega
theorem ins_eq (P X S : List Res) (hl : P.length + X.length ≤ 100000) {a b : Int} (ha : a = (P.length : Int)) (hb : b = ((P.length + X.length : Nat) : Int)) : ∃ M, f129_75 (P ++ X ++ S) a b = some (P ++ M ++ S) ∧ Sorts ltI X M := by
 subst ha hb
 cases X with
 | nil =>
  refine ⟨[], ?_, Srt.nil, SF.refl _, rfl⟩
  unfold f129_75
  rw [loopO_done (r := P ++ [] ++ S) (by simp only [f129_75_s1]; rw [if_neg (by rw [i64_id (by omega) (by omega)]; simp; omega)])]
  rfl
 | cons x R =>
  obtain ⟨M, h1, h2⟩ := ins_outer P S R [x] (Srt.one x) (by simp at hl ⊢; omega)
  refine ⟨M, ?_, by simpa using h2⟩
  unfold f129_75
  have e : IntKind.i64.wrap ((P.length : Int) + 1) = ((P.length + [x].length : Nat) : Int) := wrapN (by simp at hl; omega)
  have e2 : ((P.length + (x :: R).length : Nat) : Int) = ((P.length + [x].length + R.length : Nat) : Int) := by simp; omega
  have e3 : P ++ x :: R ++ S = P ++ [x] ++ (R ++ S) := by simp
  rw [e, e2, e3, h1]
  rfl
theorem swap_loop (P M S : List Res) : ∀ (A2 B2 A1 B1 : List Res), A2.length = B2.length → A1.length = B1.length → P.length + A1.length + A2.length + M.length + B1.length + B2.length ≤ 100000 →
  loopO (f168_75_s1 (P.length : Int) ((P.length + A1.length + A2.length + M.length : Nat) : Int) ((A1.length + A2.length : Nat) : Int)) (P ++ B1 ++ A2 ++ M ++ A1 ++ B2 ++ S, (A1.length : Int)) = some (P ++ (B1 ++ B2) ++ M ++ (A1 ++ A2) ++ S)
 | [], [], A1, B1, _, h1, hl => by
  refine loopO_done ?_
  simp [f168_75_s1]
 | [], b :: B2, _, _, h, _, _ => by simp at h
 | a :: A2, [], _, _, h, _, _ => by simp at h
 | a :: A2, b :: B2, A1, B1, h, h1, hl => by
  have hw1 : IntKind.i64.wrap ((P.length : Int) + (A1.length : Int)) = ((P ++ B1).length : Int) := by rw [i64_id (by omega) (by omega)]; simp; omega
  have hw2 : IntKind.i64.wrap (((P.length + A1.length + (a :: A2).length + M.length : Nat) : Int) + (A1.length : Int)) = ((P ++ B1 ++ a :: A2 ++ M ++ A1).length : Int) := by
   rw [i64_id (by omega) (by simp at hl ⊢; omega)]; simp; omega
  have e1 : P ++ B1 ++ (a :: A2) ++ M ++ A1 ++ (b :: B2) ++ S = (P ++ B1) ++ a :: (A2 ++ M ++ A1 ++ b :: (B2 ++ S)) := by simp
  have e2 : P ++ B1 ++ (a :: A2) ++ M ++ A1 ++ (b :: B2) ++ S = (P ++ B1 ++ a :: A2 ++ M ++ A1) ++ b :: (B2 ++ S) := by simp
  have i1 : ix (P ++ B1 ++ (a :: A2) ++ M ++ A1 ++ (b :: B2) ++ S) ((P ++ B1 ++ a :: A2 ++ M ++ A1).length : Int) = some b := by rw [e2]; exact ix_mid rfl
  have i2 : ix (P ++ B1 ++ (a :: A2) ++ M ++ A1 ++ (b :: B2) ++ S) ((P ++ B1).length : Int) = some a := by rw [e1]; exact ix_mid rfl
  have s1 : (P ++ B1 ++ (a :: A2) ++ M ++ A1 ++ (b :: B2) ++ S).set (P ++ B1).length b = (P ++ B1 ++ b :: A2 ++ M ++ A1) ++ b :: (B2 ++ S) := by rw [e1, set_mid' rfl]; simp
  have hq : (P ++ B1 ++ a :: A2 ++ M ++ A1).length = (P ++ B1 ++ b :: A2 ++ M ++ A1).length := by simp
  have i3 : ix ((P ++ B1 ++ b :: A2 ++ M ++ A1) ++ b :: (B2 ++ S)) ((P ++ B1 ++ a :: A2 ++ M ++ A1).length : Int) = some b := by rw [hq]; exact ix_mid rfl
  have s2 : ((P ++ B1 ++ b :: A2 ++ M ++ A1) ++ b :: (B2 ++ S)).set (P ++ B1 ++ a :: A2 ++ M ++ A1).length a = P ++ (B1 ++ [b]) ++ A2 ++ M ++ (A1 ++ [a]) ++ B2 ++ S := by rw [hq, set_mid' rfl]; simp
  have hstep : f168_75_s1 (P.length : Int) ((P.length + A1.length + (a :: A2).length + M.length : Nat) : Int) ((A1.length + (a :: A2).length : Nat) : Int) (P ++ B1 ++ (a :: A2) ++ M ++ A1 ++ (b :: B2) ++ S, (A1.length : Int)) = some (.inl (P ++ (B1 ++ [b]) ++ A2 ++ M ++ (A1 ++ [a]) ++ B2 ++ S, ((A1 ++ [a]).length : Int))) := by
   simp only [f168_75_s1]
   rw [if_pos (by simp; omega), hw1, hw2, i1, Option.bind_some, i2, Option.bind_some]
   simp only [Int.toNat_natCast, s1, i3, Option.bind_some, s2, wrapN (show A1.length ≤ 10000000000 by omega)]
   simp
  rw [loopO_next hstep]
  have ih := swap_loop P M S A2 B2 (A1 ++ [a]) (B1 ++ [b]) (by simpa using h) (by simp; exact h1) (by simp at hl ⊢; omega)
  have e3 : (P.length + A1.length + (a :: A2).length + M.length : Nat) = P.length + (A1 ++ [a]).length + A2.length + M.length := by simp; omega
  have e4 : (A1.length + (a :: A2).length : Nat) = (A1 ++ [a]).length + A2.length := by simp; omega
  rw [e3, e4, ih]
  simp
theorem swap_eq (P A M B S : List Res) (h : A.length = B.length) (hl : P.length + A.length + M.length + B.length ≤ 100000) {a b n : Int} (ha : a = (P.length : Int)) (hb : b = ((P.length + A.length + M.length : Nat) : Int)) (hn : n = (A.length : Int)) :
  f168_75 (P ++ A ++ M ++ B ++ S) a b n = some (P ++ B ++ M ++ A ++ S) := by
 subst ha hb hn
 have := swap_loop P M S A B [] [] h rfl (by simp; omega)
 simp only [List.length_nil, Nat.add_zero, Nat.zero_add, List.append_nil, List.nil_append] at this
 unfold f168_75
 rw [show (0 : Int) = ((0 : Nat) : Int) from rfl, this]
 rfl
theorem rot_loop (P S : List Res) (m : Int) : ∀ (k : Nat) (L U V R : List Res), U.length + V.length = k → 0 < U.length → 0 < V.length → m = ((P.length + L.length + U.length : Nat) : Int) → P.length + L.length + U.length + V.length + R.length ≤ 100000 →
  ∃ L' U' V' R', loopO (f149_75_s1 m) (P ++ L ++ U ++ V ++ R ++ S, (U.length : Int), (V.length : Int)) = some ((U'.length : Int), P ++ L' ++ U' ++ V' ++ R' ++ S) ∧ U'.length = V'.length ∧ L' ++ V' ++ U' ++ R' = L ++ V ++ U ++ R ∧ m = ((P.length + L'.length + U'.length : Nat) : Int) ∧ P.length + L'.length + U'.length + V'.length + R'.length ≤ 100000 := by
 intro k
 induction k using Nat.strongRecOn with
 | ind k ih =>
  intro L U V R hk hU hV hm hl
  rcases Nat.lt_trichotomy U.length V.length with h | h | h
  ·-- the second is longer
   obtain ⟨V1, V2, rfl, hv1⟩ := split_at (l := V) (n := V.length - U.length) (by omega)
   have hv2 : V2.length = U.length := by simp at hv1 h; omega
   have hv1' : V1.length + U.length = (V1 ++ V2).length := by simp; omega
   have w1 : IntKind.i64.wrap (m - (U.length : Int)) = ((P ++ L).length : Int) := by rw [hm, i64_id (by omega) (by omega)]; rw [show (P ++ L).length = P.length + L.length from List.length_append]; omega
   have w2 : IntKind.i64.wrap (IntKind.i64.wrap (m + ((V1 ++ V2).length : Int)) - (U.length : Int)) = (((P ++ L).length + U.length + V1.length : Nat) : Int) := by
    rw [hm, i64_id (show -9223372036854775808 ≤ ((P.length + L.length + U.length : Nat) : Int) + ((V1 ++ V2).length : Int) by omega) (by omega), i64_id (by omega) (by omega)]; simp; omega
   have hs := swap_eq (P ++ L) U V1 V2 (R ++ S) hv2.symm (by simp at hl ⊢; omega) w1 w2 rfl
   have e1 : P ++ L ++ U ++ (V1 ++ V2) ++ R ++ S = P ++ L ++ U ++ V1 ++ V2 ++ (R ++ S) := by simp
   have w3 : IntKind.i64.wrap (((V1 ++ V2).length : Int) - (U.length : Int)) = (V1.length : Int) := by rw [i64_id (by omega) (by omega)]; omega
   have hstep : f149_75_s1 m (P ++ L ++ U ++ (V1 ++ V2) ++ R ++ S, (U.length : Int), ((V1 ++ V2).length : Int)) = some (.inl (P ++ L ++ V2 ++ V1 ++ (U ++ R) ++ S, (V2.length : Int), (V1.length : Int))) := by
    simp only [f149_75_s1]
    rw [if_neg (by omega), if_neg (by omega), e1, hs, Option.bind_some, guardO_ok (by simp; omega), Option.bind_some, w3, hv2]
    simp
   rw [loopO_next hstep]
   obtain ⟨L', U', V', R', q1, q2, q3, q4, q5⟩ := ih (V2.length + V1.length) (by simp at hk; omega) L V2 V1 (U ++ R) rfl (by omega) (by omega) (by rw [hm]; omega) (by simp at hl ⊢; omega)
   exact ⟨L', U', V', R', q1, q2, by rw [q3]; simp, q4, q5⟩
  ·refine ⟨L, U, V, R, loopO_done ?_, h, rfl, hm, hl⟩
   simp only [f149_75_s1]
   rw [if_pos (by omega)]
  ·-- the first is longer
   obtain ⟨U1, U2, rfl, hu1⟩ := split_at (l := U) (n := V.length) (by omega)
   have hu2 : U2.length + V.length = (U1 ++ U2).length := by simp; omega
   have w1 : IntKind.i64.wrap (m - ((U1 ++ U2).length : Int)) = ((P ++ L).length : Int) := by rw [hm, i64_id (by omega) (by omega)]; rw [show (P ++ L).length = P.length + L.length from List.length_append]; omega
   have w2 : m = (((P ++ L).length + U1.length + U2.length : Nat) : Int) := by rw [hm]; simp; omega
   have hs := swap_eq (P ++ L) U1 U2 V (R ++ S) hu1 (by simp at hl ⊢; omega) w1 w2 (show (V.length : Int) = (U1.length : Int) by omega)
   have e1 : P ++ L ++ (U1 ++ U2) ++ V ++ R ++ S = P ++ L ++ U1 ++ U2 ++ V ++ (R ++ S) := by simp
   have w3 : IntKind.i64.wrap (((U1 ++ U2).length : Int) - (V.length : Int)) = (U2.length : Int) := by rw [i64_id (by omega) (by omega)]; omega
   have hstep : f149_75_s1 m (P ++ L ++ (U1 ++ U2) ++ V ++ R ++ S, ((U1 ++ U2).length : Int), (V.length : Int)) = some (.inl (P ++ (L ++ V) ++ U2 ++ U1 ++ R ++ S, (U2.length : Int), (U1.length : Int))) := by
    simp only [f149_75_s1]
    rw [if_neg (by omega), if_pos (by omega), e1, hs, Option.bind_some, guardO_ok (by simp; omega), Option.bind_some, w3, hu1]
    simp
   rw [loopO_next hstep]
   obtain ⟨L', U', V', R', q1, q2, q3, q4, q5⟩ := ih (U2.length + U1.length) (by simp at hk; omega) (L ++ V) U2 U1 R rfl (by omega) (by omega) (by rw [hm]; simp; omega) (by simp at hl ⊢; omega)
   exact ⟨L', U', V', R', q1, q2, by rw [q3]; simp, q4, q5⟩
theorem rot_eq (P A B S : List Res) (hA : 0 < A.length) (hB : 0 < B.length) (hl : P.length + A.length + B.length ≤ 100000) {a m b : Int} (ha : a = (P.length : Int)) (hm : m = ((P.length + A.length : Nat) : Int)) (hb : b = ((P.length + A.length + B.length : Nat) : Int)) :
  f149_75 (P ++ A ++ B ++ S) a m b = some (P ++ B ++ A ++ S) := by
 obtain ⟨L', U', V', R', q1, q2, q3, q4, q5⟩ := rot_loop P S m (A.length + B.length) [] A B [] rfl hA hB (by rw [hm]; simp) (by simp; omega)
 have w1 : IntKind.i64.wrap (m - a) = (A.length : Int) := by rw [hm, ha, i64_id (by omega) (by omega)]; omega
 have w2 : IntKind.i64.wrap (b - m) = (B.length : Int) := by rw [hm, hb, i64_id (by omega) (by omega)]; omega
 have w3 : IntKind.i64.wrap (m - (U'.length : Int)) = ((P ++ L').length : Int) := by rw [q4, i64_id (by omega) (by omega)]; rw [List.length_append]; omega
 have hs := swap_eq (P ++ L') U' [] V' (R' ++ S) q2 (by simp at q5 ⊢; omega) w3 (show m = (((P ++ L').length + U'.length + ([] : List Res).length : Nat) : Int) by rw [q4]; simp) rfl
 unfold f149_75
 rw [w1, w2]
 simp only [List.append_nil] at q1
 rw [q1, Option.bind_some]
 have e1 : P ++ L' ++ U' ++ V' ++ R' ++ S = P ++ L' ++ U' ++ [] ++ V' ++ (R' ++ S) := by simp
 simp only
 rw [e1, hs, Option.bind_some, guardO_ok (by simp; omega), Option.bind_some]
 congr 1
 have : L' ++ V' ++ U' ++ R' = B ++ A := by rw [q3]; simp
 have e2 : P ++ L' ++ V' ++ [] ++ U' ++ (R' ++ S) = P ++ (L' ++ V' ++ U' ++ R') ++ S := by simp
 rw [e2, this]
 simp
theorem shr1 {v : Int} (h0 : 0 ≤ v) : shrV .u64 v 1 = v / 2 := by
 show v.fdiv (2 ^ (min 1 64)) = _
 rw [Int.fdiv_eq_ediv_of_nonneg _ (by decide)]; rfl
theorem half {i j : Nat} (h : i + j ≤ 1000000) : IntKind.i64.wrap (shrV .u64 (IntKind.u64.wrap (IntKind.i64.wrap ((i : Int) + (j : Int)))) 1) = (((i + j) / 2 : Nat) : Int) := by
 rw [i64_id (show -9223372036854775808 ≤ (i : Int) + (j : Int) by omega) (by omega), u64_wrap, shr1 (by omega), i64_id (by omega) (by omega)]
 omega
theorem bisect {τ : Type} {step : τ → Option (τ ⊕ Int)} (st : Nat → Nat → τ) (p : Nat → Bool) (i0 j0 : Nat) (hij : i0 ≤ j0)
  (h1 : ∀ i j, i0 ≤ i → i < j → j ≤ j0 → step (st i j) = some (.inl (if p ((i + j) / 2) = true then st ((i + j) / 2 + 1) j else st i ((i + j) / 2))))
  (h2 : ∀ i, i0 ≤ i → i ≤ j0 → step (st i i) = some (.inr (i : Int))) :
  ∃ r : Nat, loopO step (st i0 j0) = some (r : Int) ∧ i0 ≤ r ∧ r ≤ j0 ∧ (r = i0 ∨ p (r - 1) = true) ∧ (r = j0 ∨ p r = false) := by
 obtain ⟨r, hr, n, rfl, q⟩ := loopO_of (step := step) (Q := fun r : Int => ∃ n : Nat, r = (n : Int) ∧ i0 ≤ n ∧ n ≤ j0 ∧ (n = i0 ∨ p (n - 1) = true) ∧ (n = j0 ∨ p n = false))
  (fun k s => ∃ i j, s = st i j ∧ k = j - i ∧ i0 ≤ i ∧ i ≤ j ∧ j ≤ j0 ∧ (i = i0 ∨ p (i - 1) = true) ∧ (j = j0 ∨ p j = false)) (by
   rintro k _ ⟨i, j, rfl, rfl, a1, a2, a3, a4, a5⟩
   by_cases hlt : i < j
   ·have h := h1 i j a1 hlt a3
    by_cases hp : p ((i + j) / 2) = true
    ·rw [if_pos hp] at h
     exact .inl ⟨_, j - ((i + j) / 2 + 1), h, by omega, _, _, rfl, rfl, by omega, by omega, a3, .inr (by rw [Nat.add_sub_cancel]; exact hp), a5⟩
    ·rw [if_neg hp] at h
     exact .inl ⟨_, (i + j) / 2 - i, h, by omega, _, _, rfl, rfl, a1, by omega, by omega, a4, .inr (by simpa using hp)⟩
   ·obtain rfl : i = j := by omega
    exact .inr ⟨_, h2 i a1 a3, i, rfl, a1, a3, a4, a5⟩) (k := j0 - i0) ⟨i0, j0, rfl, rfl, Nat.le_refl _, hij, Nat.le_refl _, .inl rfl, .inl rfl⟩
 exact ⟨n, hr, q⟩
def ltAt (l : List Res) (i j : Nat) : Bool := match l[i]?, l[j]? with
 | some y, some x => ltI y x
 | _, _ => false
theorem ltAt_some {l : List Res} {i j : Nat} {x y : Res} (h1 : l[i]? = some y) (h2 : l[j]? = some x) : ltAt l i j = ltI y x := by unfold ltAt; rw [h1, h2]
theorem cmp_at {l : List Res} {i j : Nat} (hi : i < l.length) (hj : j < l.length) : ∃ y x c, ix l (i : Int) = some y ∧ ix l (j : Int) = some x ∧ f75 y x = some c ∧ (c < 0 ↔ ltAt l i j = true) := by
 obtain ⟨c, h1, h2⟩ := cmp_eq l[i] l[j]
 exact ⟨l[i], l[j], c, ixN hi, ixN hj, h1, by rw [h2, ltAt_some (List.getElem?_eq_getElem hi) (List.getElem?_eq_getElem hj)]⟩
theorem right_loop (P S : List Res) (x : Res) (e : Int) : ∀ (B2 B1 : List Res), e = ((P.length + B1.length + B2.length + 1 : Nat) : Int) → P.length + B1.length + B2.length ≤ 100000 →
  loopO (f130_75_s6 e) (P ++ B1 ++ x :: (B2 ++ S), ((P.length + B1.length : Nat) : Int)) = some (P ++ (B1 ++ B2) ++ x :: S)
 | [], B1, he, hl => by
  refine loopO_done ?_
  simp only [f130_75_s6]
  rw [if_neg (by rw [he, i64_id (by omega) (by omega)]; simp), List.append_nil, List.nil_append]
 | b :: B2, B1, he, hl => by
  simp only [List.length_cons] at he hl
  have e1 : P ++ B1 ++ x :: (b :: B2 ++ S) = (P ++ B1) ++ x :: b :: (B2 ++ S) := by simp
  have q : ((P.length + B1.length : Nat) : Int) = ((P ++ B1).length : Int) := by simp
  have w : IntKind.i64.wrap (((P ++ B1).length : Int) + 1) = (((P ++ B1).length + 1 : Nat) : Int) := wrapN (by simp; omega)
  have hstep : f130_75_s6 e (P ++ B1 ++ x :: (b :: B2 ++ S), ((P.length + B1.length : Nat) : Int)) = some (.inl (P ++ (B1 ++ [b]) ++ x :: (B2 ++ S), ((P.length + (B1 ++ [b]).length : Nat) : Int))) := by
   simp only [f130_75_s6]
   rw [if_pos (by rw [he, i64_id (by omega) (by omega)]; omega), e1, q, w, nb_ix1, Option.bind_some, nb_ix0, Option.bind_some]
   simp only [Int.toNat_natCast, nb_set0, nb_ix1, Option.bind_some, nb_set1]
   simp
   omega
  rw [loopO_next hstep, right_loop P S x e B2 (B1 ++ [b]) (by rw [he]; simp; omega) (by simp; omega)]
  simp
theorem left_loop (P S : List Res) (x : Res) : ∀ (n : Nat) (A2 B : List Res), A2.length = n → P.length + n ≤ 100000 →
  loopO (f130_75_s12 (P.length : Int)) (P ++ A2 ++ x :: (B ++ S), ((P.length + A2.length : Nat) : Int)) = some (P ++ x :: (A2 ++ B) ++ S)
 | 0, A2, B, hA, hl => by
  obtain rfl := List.eq_nil_of_length_eq_zero hA
  refine loopO_done ?_
  simp [f130_75_s12]
 | n + 1, A2, B, hA, hl => by
  obtain ⟨A1, y, rfl⟩ : ∃ A1 y, A2 = A1 ++ [y] := by
   rcases List.eq_nil_or_concat A2 with h | ⟨A1, y, h⟩
   ·rw [h] at hA; simp at hA
   ·exact ⟨A1, y, by rw [h]; simp⟩
  have hA1 : A1.length = n := by simpa using hA
  have e1 : P ++ (A1 ++ [y]) ++ x :: (B ++ S) = (P ++ A1) ++ y :: x :: (B ++ S) := by simp
  have e2 : ((P.length + (A1 ++ [y]).length : Nat) : Int) = (((P ++ A1).length + 1 : Nat) : Int) := by simp; omega
  have hlt : (P.length : Int) < (((P ++ A1).length + 1 : Nat) : Int) := by simp; omega
  have hw : IntKind.i64.wrap ((((P ++ A1).length + 1 : Nat) : Int) - 1) = ((P ++ A1).length : Int) := wrapS (by simp; omega)
  have hstep : f130_75_s12 (P.length : Int) ((P ++ A1) ++ y :: x :: (B ++ S), (((P ++ A1).length + 1 : Nat) : Int)) = some (.inl (P ++ A1 ++ x :: (y :: B ++ S), ((P.length + A1.length : Nat) : Int))) := by
   simp only [f130_75_s12, if_pos hlt, hw, nb_ix0, nb_ix1, Option.bind_some, Int.toNat_natCast, nb_set1, nb_set0]
   simp
  rw [e1, e2, loopO_next hstep, left_loop P S x n A1 (y :: B) hA1 (by omega)]
  simp
theorem merge_left (P B S : List Res) (x : Res) (hs : Srt ltI B) (hB : 0 < B.length) (hl : P.length + B.length ≤ 100000) (rec130 : List Res → Int → Int → Int → Option (List Res)) :
  ∃ M, f130_75b rec130 (P ++ [x] ++ B ++ S) (P.length : Int) ((P.length + 1 : Nat) : Int) ((P.length + 1 + B.length : Nat) : Int) = some (P ++ M ++ S) ∧ Sorts ltI ([x] ++ B) M := by
 have hlen : (P ++ [x] ++ B ++ S).length = P.length + 1 + B.length + S.length := by simp; omega
 have hx : (P ++ [x] ++ B ++ S)[P.length]? = some x := by simp
 obtain ⟨r, h1, h2, h3, h4, h5⟩ := bisect (step := f130_75_s5 (P ++ [x] ++ B ++ S) (P.length : Int)) (fun i j => ((i : Int), (j : Int))) (fun h => ltAt (P ++ [x] ++ B ++ S) h P.length) (P.length + 1) (P.length + 1 + B.length) (by omega) (fun i j a1 a2 a3 => by
  obtain ⟨y, x', c, c1, c2, c3, c4⟩ := cmp_at (l := P ++ [x] ++ B ++ S) (i := (i + j) / 2) (j := P.length) (by omega) (by omega)
  simp only [f130_75_s5]
  rw [if_pos (by omega), half (by omega), c1, Option.bind_some, c2, Option.bind_some, c3, Option.bind_some]
  by_cases hc : c < 0
  ·rw [if_pos hc, if_pos (c4.1 hc), wrapN (by omega)]
  ·rw [if_neg hc, if_neg (fun h => hc (c4.2 h))]) (fun i a1 a2 => by simp [f130_75_s5])
 obtain ⟨B1, B2, rfl, hb1⟩ := split_at (l := B) (n := r - (P.length + 1)) (by omega)
 have hr : r = P.length + 1 + B1.length := by omega
 have hlast : ∀ b ∈ B1, ltI b x = true := by
  intro b hb
  obtain ⟨B1', y, rfl⟩ : ∃ B1' y, B1 = B1' ++ [y] := by
   rcases List.eq_nil_or_concat B1 with h | ⟨B1', y, h⟩
   ·rw [h] at hb; cases hb
   ·exact ⟨B1', y, by rw [h]; simp⟩
  rcases h4 with h4 | h4
  ·simp at hr; omega
  ·have hy : (P ++ [x] ++ (B1' ++ [y] ++ B2) ++ S)[r - 1]? = some y := by
    have e : P ++ [x] ++ (B1' ++ [y] ++ B2) ++ S = (P ++ [x] ++ B1') ++ y :: (B2 ++ S) := by simp
    rw [e, show r - 1 = (P ++ [x] ++ B1').length by simp at hr ⊢; omega]
    exact at_mid _ _ _
   rw [ltAt_some hy hx] at h4
   rcases List.mem_append.1 hb with h | h
   ·exact swoI.le_lt (hs.left.cross b h y (by simp)) h4
   ·simp at h; subst h; exact h4
 have hhead : ∀ b ∈ B2, ltI b x = false := by
  intro b hb
  cases B2 with
  | nil => cases hb
  | cons y B2' =>
   rcases h5 with h5 | h5
   ·simp at hr h5; omega
   ·have hy : (P ++ [x] ++ (B1 ++ y :: B2') ++ S)[r]? = some y := by
     have e : P ++ [x] ++ (B1 ++ y :: B2') ++ S = (P ++ [x] ++ B1) ++ y :: (B2' ++ S) := by simp
     rw [e, hr, show P.length + 1 + B1.length = (P ++ [x] ++ B1).length by simp; omega]
     exact at_mid _ _ _
    rw [ltAt_some hy hx] at h5
    rcases List.mem_cons.1 hb with rfl | h
    ·exact h5
    ·exact swoI.le_trans h5 ((List.pairwise_cons.1 hs.right).1 b h)
 refine ⟨B1 ++ x :: B2, ?_, ?_, ?_, by simp; omega⟩
 ·unfold f130_75b
  have e1 : P ++ [x] ++ (B1 ++ B2) ++ S = P ++ [] ++ x :: (B1 ++ (B2 ++ S)) := by simp
  rw [if_pos (by rw [i64_id (by omega) (by omega)]; omega)]
  rw [h1, Option.bind_some, e1]
  have := right_loop P (B2 ++ S) x (r : Int) B1 [] (by rw [hr]; simp; omega) (by simp at hl ⊢; omega)
  simp only [List.length_nil, Nat.add_zero] at this
  rw [this, Option.bind_some]
  simp
 ·refine Srt.append hs.left (List.pairwise_cons.2 ⟨hhead, hs.right⟩) fun a ha b hb => ?_
  rcases List.mem_cons.1 hb with rfl | hb
  ·exact swoI.asym (hlast a ha)
  ·exact hs.cross a ha b hb
 ·have : SF ltI ((B1 ++ [x]) ++ B2) (([x] ++ B1) ++ B2) := SF.append (SF.swap swoI (a := [x]) (b := B1) (fun p hp q hq => by simp at hp; subst hp; exact hlast q hq)).symm (SF.refl _)
  simpa using this
theorem merge_right (P A S : List Res) (x : Res) (hs : Srt ltI A) (hA : 1 < A.length) (hl : P.length + A.length ≤ 100000) (rec130 : List Res → Int → Int → Int → Option (List Res)) :
  ∃ M, f130_75b rec130 (P ++ A ++ [x] ++ S) (P.length : Int) ((P.length + A.length : Nat) : Int) ((P.length + A.length + 1 : Nat) : Int) = some (P ++ M ++ S) ∧ Sorts ltI (A ++ [x]) M := by
 have hlen : (P ++ A ++ [x] ++ S).length = P.length + A.length + 1 + S.length := by simp; omega
 have hx : (P ++ A ++ [x] ++ S)[P.length + A.length]? = some x := by
  rw [show P ++ A ++ [x] ++ S = (P ++ A) ++ x :: S by simp, show P.length + A.length = (P ++ A).length by simp]
  exact at_mid _ _ _
 obtain ⟨r, h1, h2, h3, h4, h5⟩ := bisect (step := f130_75_s11 (P ++ A ++ [x] ++ S) ((P.length + A.length : Nat) : Int)) (fun i j => ((j : Int), (i : Int))) (fun h => !ltAt (P ++ A ++ [x] ++ S) (P.length + A.length) h) P.length (P.length + A.length) (by omega) (fun i j a1 a2 a3 => by
  obtain ⟨y, x', c, c1, c2, c3, c4⟩ := cmp_at (l := P ++ A ++ [x] ++ S) (i := P.length + A.length) (j := (i + j) / 2) (by omega) (by omega)
  simp only [f130_75_s11]
  rw [if_pos (by omega), half (by omega), c1, Option.bind_some, c2, Option.bind_some, c3, Option.bind_some]
  by_cases hc : c < 0
  ·rw [if_pos hc, if_neg (by rw [c4.1 hc]; simp)]
  ·have : ltAt (P ++ A ++ [x] ++ S) (P.length + A.length) ((i + j) / 2) = false := by simpa using fun h => hc (c4.2 h)
   rw [if_neg hc, if_pos (by rw [this]; rfl), wrapN (by omega)]) (fun i a1 a2 => by simp [f130_75_s11])
 obtain ⟨A1, A2, rfl, ha1⟩ := split_at (l := A) (n := r - P.length) (by omega)
 have hr : r = P.length + A1.length := by omega
 have hlast : ∀ a ∈ A1, ltI x a = false := by
  intro a ha
  obtain ⟨A1', y, rfl⟩ : ∃ A1' y, A1 = A1' ++ [y] := by
   rcases List.eq_nil_or_concat A1 with h | ⟨A1', y, h⟩
   ·rw [h] at ha; cases ha
   ·exact ⟨A1', y, by rw [h]; simp⟩
  rcases h4 with h4 | h4
  ·simp at hr; omega
  ·have hy : (P ++ (A1' ++ [y] ++ A2) ++ [x] ++ S)[r - 1]? = some y := by
    have e : P ++ (A1' ++ [y] ++ A2) ++ [x] ++ S = (P ++ A1') ++ y :: (A2 ++ x :: S) := by simp
    rw [e, show r - 1 = (P ++ A1').length by simp at hr ⊢; omega]
    exact at_mid _ _ _
   rw [ltAt_some hx hy] at h4
   have h4' : ltI x y = false := by simpa using h4
   rcases List.mem_append.1 ha with h | h
   ·exact swoI.le_trans (hs.left.cross a h y (by simp)) h4'
   ·simp at h; subst h; exact h4'
 have hhead : ∀ a ∈ A2, ltI x a = true := by
  intro a ha
  cases A2 with
  | nil => cases ha
  | cons y A2' =>
   rcases h5 with h5 | h5
   ·simp at hr h5; omega
   ·have hy : (P ++ (A1 ++ y :: A2') ++ [x] ++ S)[r]? = some y := by
     have e : P ++ (A1 ++ y :: A2') ++ [x] ++ S = (P ++ A1) ++ y :: (A2' ++ x :: S) := by simp
     rw [e, hr, show P.length + A1.length = (P ++ A1).length by simp]
     exact at_mid _ _ _
    rw [ltAt_some hx hy] at h5
    have h5' : ltI x y = true := by simpa using h5
    rcases List.mem_cons.1 ha with rfl | h
    ·exact h5'
    ·exact swoI.lt_le h5' ((List.pairwise_cons.1 hs.right).1 a h)
 refine ⟨A1 ++ x :: A2, ?_, ?_, ?_, by simp⟩
 ·unfold f130_75b
  have e1 : P ++ (A1 ++ A2) ++ [x] ++ S = (P ++ A1) ++ A2 ++ x :: ([] ++ S) := by simp
  rw [if_neg (by rw [i64_id (by omega) (by omega)]; omega), if_pos (by rw [i64_id (by omega) (by omega)]; omega)]
  rw [h1, Option.bind_some, e1]
  have := left_loop (P ++ A1) S x A2.length A2 [] rfl (by simp at hl ⊢; omega)
  rw [show (r : Int) = ((P ++ A1).length : Int) by rw [hr]; simp, show ((P.length + (A1 ++ A2).length : Nat) : Int) = (((P ++ A1).length + A2.length : Nat) : Int) by simp; omega, this, Option.bind_some]
  simp
 ·refine Srt.append hs.left (List.pairwise_cons.2 ⟨fun b hb => swoI.asym (hhead b hb), hs.right⟩) fun a ha b hb => ?_
  rcases List.mem_cons.1 hb with rfl | hb
  ·exact hlast a ha
  ·exact hs.cross a ha b hb
 ·have : SF ltI (A1 ++ ([x] ++ A2)) (A1 ++ (A2 ++ [x])) := SF.append (SF.refl _) (SF.swap swoI (a := A2) (b := [x]) (fun p hp q hq => by simp at hq; subst hq; exact hhead p hp)).symm
  simpa using this
end Au
end Go.Proofs.Yt
set_option maxHeartbeats 2000000
namespace Go.Proofs.Yt
open Go.Gm
namespace Au
def MergesN (rec130 : List Res → Int → Int → Int → Option (List Res)) (n : Nat) : Prop := ∀ (P A B S : List Res), A.length + B.length ≤ n → 0 < A.length → 0 < B.length → Srt ltI A → Srt ltI B → P.length + A.length + B.length ≤ 100000 →
 ∃ M, rec130 (P ++ A ++ B ++ S) (P.length : Int) ((P.length + A.length : Nat) : Int) ((P.length + A.length + B.length : Nat) : Int) = some (P ++ M ++ S) ∧ Sorts ltI (A ++ B) M
theorem part_merge {rec130 : List Res → Int → Int → Int → Option (List Res)} {n : Nat} (h : MergesN rec130 n) (P A B S : List Res) (hn : A.length + B.length ≤ n) (hA : Srt ltI A) (hB : Srt ltI B) (hl : P.length + A.length + B.length ≤ 100000) (F : List Res → Option (List Res)) :
  ∃ M, (if (P.length : Int) < ((P.length + A.length : Nat) : Int) then (if ((P.length + A.length : Nat) : Int) < ((P.length + A.length + B.length : Nat) : Int) then ((rec130 (P ++ A ++ B ++ S) (P.length : Int) ((P.length + A.length : Nat) : Int) ((P.length + A.length + B.length : Nat) : Int)).bind fun x => ((guardO (x.length = (P ++ A ++ B ++ S).length)).bind fun _ => F x)) else F (P ++ A ++ B ++ S)) else F (P ++ A ++ B ++ S)) = F (P ++ M ++ S) ∧ Sorts ltI (A ++ B) M := by
 cases A with
 | nil =>
  refine ⟨B, ?_, by simpa using hB, SF.refl _, rfl⟩
  rw [if_neg (by simp)]; simp
 | cons a A =>
  cases B with
  | nil =>
   refine ⟨a :: A, ?_, by simpa using hA, by rw [List.append_nil]; exact SF.refl _, by simp⟩
   rw [if_pos (by simp; omega), if_neg (by simp)]; simp
  | cons b B =>
   obtain ⟨M, h1, h2⟩ := h P (a :: A) (b :: B) S hn (by simp) (by simp) hA hB hl
   refine ⟨M, ?_, h2⟩
   have hlm := h2.len
   rw [if_pos (by simp; omega), if_pos (by simp; omega), h1, Option.bind_some, guardO_ok (by simp at hlm ⊢; omega), Option.bind_some]
theorem sym_step {rec130 : List Res → Int → Int → Int → Option (List Res)} {n : Nat} (h : MergesN rec130 n) : MergesN (f130_75b rec130) (n + 1) := by
 intro P A B S hn hA hB sA sB hl
 by_cases c1 : A.length = 1
 ·obtain ⟨x, rfl⟩ := List.length_eq_one_iff.1 c1
  exact merge_left P B S x sB hB (by simp at hl; omega) rec130
 by_cases c2 : B.length = 1
 ·obtain ⟨x, rfl⟩ := List.length_eq_one_iff.1 c2
  exact merge_right P A S x sA (by omega) (by simp at hl; omega) rec130
 have hlen : (P ++ A ++ B ++ S).length = P.length + A.length + B.length + S.length := by simp; omega
 have ha : P.length < P.length + A.length := by omega
 have hm : P.length + A.length < P.length + A.length + B.length := by omega
 generalize hma : P.length + A.length = m at *
 generalize hbb : m + B.length = b at *
 generalize hmid : (P.length + b) / 2 = mid
 have hmid1 : P.length < mid := by omega
 have hmid2 : mid < b := by omega
 have hwm : IntKind.i64.wrap (shrV .u64 (IntKind.u64.wrap (IntKind.i64.wrap ((P.length : Int) + (b : Int)))) 1) = (mid : Int) := by rw [half (by omega), hmid]
 have hwn : IntKind.i64.wrap ((mid : Int) + (m : Int)) = ((mid + m : Nat) : Int) := by rw [i64_id (by omega) (by omega)]; omega
 -- where the search begins and ends
 obtain ⟨s0, r0, hs0, e0, b1, b2, b3, b4, b5, b6⟩ : ∃ s0 r0 : Nat, s0 ≤ r0 ∧ (if (mid : Int) < (m : Int) then f130_75_j1 (P ++ A ++ B ++ S) (P.length : Int) (m : Int) (b : Int) rec130 (IntKind.i64.wrap (((mid + m : Nat) : Int) - (b : Int)), (mid : Int)) else f130_75_j1 (P ++ A ++ B ++ S) (P.length : Int) (m : Int) (b : Int) rec130 ((P.length : Int), (m : Int))) = f130_75_j1 (P ++ A ++ B ++ S) (P.length : Int) (m : Int) (b : Int) rec130 ((s0 : Int), (r0 : Int)) ∧
   P.length ≤ s0 ∧ r0 ≤ m ∧ r0 ≤ mid ∧ mid + m ≤ s0 + b ∧ (s0 = P.length ∨ mid + m = s0 + b) ∧ (r0 = m ∨ r0 = mid) := by
  by_cases hc : mid < m
  ·refine ⟨mid + m - b, mid, by omega, ?_, by omega, by omega, by omega, by omega, by omega, by omega⟩
   rw [if_pos (by omega), i64_id (by omega) (by omega), show ((mid + m : Nat) : Int) - (b : Int) = ((mid + m - b : Nat) : Int) by omega]
  ·refine ⟨P.length, m, by omega, ?_, by omega, by omega, by omega, by omega, by omega, by omega⟩
   rw [if_neg (by omega)]
 have hwp : ∀ c : Nat, c < r0 → IntKind.i64.wrap (IntKind.i64.wrap (((mid + m : Nat) : Int) - 1) - (c : Int)) = ((mid + m - 1 - c : Nat) : Int) := fun c hc => by
  rw [i64_id (show -9223372036854775808 ≤ ((mid + m : Nat) : Int) - 1 by omega) (by omega), i64_id (by omega) (by omega)]; omega
 obtain ⟨s, h1, h2, h3, h4, h5⟩ := bisect (step := f130_75_s14 (P ++ A ++ B ++ S) (P.length : Int) (m : Int) (b : Int)) (fun i j => ((j : Int), (i : Int))) (fun c => !ltAt (P ++ A ++ B ++ S) (mid + m - 1 - c) c) s0 r0 hs0 (fun i j a1 a2 a3 => by
  obtain ⟨y, x', c, k1, k2, k3, k4⟩ := cmp_at (l := P ++ A ++ B ++ S) (i := mid + m - 1 - (i + j) / 2) (j := (i + j) / 2) (by omega) (by omega)
  simp only [f130_75_s14]
  rw [if_pos (by omega), hwm, half (i := i) (j := j) (by omega), hwn, hwp _ (by omega), k1, Option.bind_some, k2, Option.bind_some, k3, Option.bind_some]
  by_cases hc : c < 0
  ·rw [if_pos hc, if_neg (by rw [k4.1 hc]; simp)]
  ·have : ltAt (P ++ A ++ B ++ S) (mid + m - 1 - (i + j) / 2) ((i + j) / 2) = false := by simpa using fun h => hc (k4.2 h)
   rw [if_neg hc, if_pos (by rw [this]; rfl), wrapN (by omega)]) (fun i a1 a2 => by simp [f130_75_s14])
 obtain ⟨A1, A2, rfl, hA1⟩ := split_at (l := A) (n := s - P.length) (by omega)
 obtain ⟨B1, B2, rfl, hB1⟩ := split_at (l := B) (n := mid - s) (by omega)
 have hsA : s = P.length + A1.length := by omega
 have hA2 : m = s + A2.length := by simp at hma; omega
 have hmd : mid = s + B1.length := by omega
 have hB2 : b = m + B1.length + B2.length := by simp at hbb; omega
 have hend : IntKind.i64.wrap (((mid + m : Nat) : Int) - (s : Int)) = ((m + B1.length : Nat) : Int) := by rw [i64_id (by omega) (by omega)]; omega
 -- the elements across
 have x12 : ∀ x ∈ A1, ∀ y ∈ B2, ltI y x = false := by
  intro x hx y hy
  obtain ⟨A1', u, rfl⟩ : ∃ A1' u, A1 = A1' ++ [u] := by
   rcases List.eq_nil_or_concat A1 with h | ⟨A1', u, h⟩
   ·rw [h] at hx; cases hx
   ·exact ⟨A1', u, by rw [h]; simp⟩
  cases B2 with
  | nil => cases hy
  | cons v B2' =>
   have huv : ltI v u = false := by
    rcases h4 with h4 | h4
    ·exfalso
     simp at hsA hB2; omega
    ·have hu : (P ++ (A1' ++ [u] ++ A2) ++ (B1 ++ v :: B2') ++ S)[s - 1]? = some u := by
      have e : P ++ (A1' ++ [u] ++ A2) ++ (B1 ++ v :: B2') ++ S = (P ++ A1') ++ u :: (A2 ++ (B1 ++ v :: B2') ++ S) := by simp
      rw [e, show s - 1 = (P ++ A1').length by simp at hsA ⊢; omega]
      exact at_mid _ _ _
     have hv : (P ++ (A1' ++ [u] ++ A2) ++ (B1 ++ v :: B2') ++ S)[mid + m - 1 - (s - 1)]? = some v := by
      have e : P ++ (A1' ++ [u] ++ A2) ++ (B1 ++ v :: B2') ++ S = (P ++ (A1' ++ [u] ++ A2) ++ B1) ++ v :: (B2' ++ S) := by simp
      rw [e, show mid + m - 1 - (s - 1) = (P ++ (A1' ++ [u] ++ A2) ++ B1).length by simp at hsA hma ⊢; omega]
      exact at_mid _ _ _
     rw [ltAt_some hv hu] at h4
     simpa using h4
   have hxu : ltI u x = false := by
    rcases List.mem_append.1 hx with h | h
    ·exact sA.left.cross x h u (by simp)
    ·simp at h; subst h; exact swoI.irr _
   have hvy : ltI y v = false := by
    rcases List.mem_cons.1 hy with rfl | h
    ·exact swoI.irr _
    ·exact (List.pairwise_cons.1 sB.right).1 y h
   exact swoI.le_trans (swoI.le_trans hxu huv) hvy
 have x21 : ∀ x ∈ A2, ∀ y ∈ B1, ltI y x = true := by
  intro x hx y hy
  obtain ⟨B1', v, rfl⟩ : ∃ B1' v, B1 = B1' ++ [v] := by
   rcases List.eq_nil_or_concat B1 with h | ⟨B1', v, h⟩
   ·rw [h] at hy; cases hy
   ·exact ⟨B1', v, by rw [h]; simp⟩
  cases A2 with
  | nil => cases hx
  | cons u A2' =>
   have huv : ltI v u = true := by
    rcases h5 with h5 | h5
    ·exfalso
     simp at hsA hma hmd hA2; omega
    ·have hu : (P ++ (A1 ++ u :: A2') ++ (B1' ++ [v] ++ B2) ++ S)[s]? = some u := by
      have e : P ++ (A1 ++ u :: A2') ++ (B1' ++ [v] ++ B2) ++ S = (P ++ A1) ++ u :: (A2' ++ (B1' ++ [v] ++ B2) ++ S) := by simp
      rw [e, show s = (P ++ A1).length by simp at hsA ⊢; omega]
      exact at_mid _ _ _
     have hv : (P ++ (A1 ++ u :: A2') ++ (B1' ++ [v] ++ B2) ++ S)[mid + m - 1 - s]? = some v := by
      have e : P ++ (A1 ++ u :: A2') ++ (B1' ++ [v] ++ B2) ++ S = (P ++ (A1 ++ u :: A2') ++ B1') ++ v :: (B2 ++ S) := by simp
      rw [e, show mid + m - 1 - s = (P ++ (A1 ++ u :: A2') ++ B1').length by simp at hsA hma hmd ⊢; omega]
      exact at_mid _ _ _
     rw [ltAt_some hv hu] at h5
     simpa using h5
   have hux : ltI x u = false := by
    rcases List.mem_cons.1 hx with rfl | h
    ·exact swoI.irr _
    ·exact (List.pairwise_cons.1 sA.right).1 x h
   have hyv : ltI v y = false := by
    rcases List.mem_append.1 hy with h | h
    ·exact sB.left.cross y h v (by simp)
    ·simp at h; subst h; exact swoI.irr _
   exact swoI.lt_le (swoI.le_lt hyv huv) hux
 -- the parts
 obtain ⟨M1, k1, k2⟩ := part_merge h P A1 B1 (A2 ++ B2 ++ S) (by omega) sA.left sB.left (by omega) (fun l => f130_75_j3 (P.length : Int) (m : Int) (b : Int) rec130 (s : Int) l)
 have hM1 := k2.len
 have hPM : (P ++ M1).length = mid := by simp at hM1 ⊢; omega
 obtain ⟨M2, q1, q2⟩ := part_merge h (P ++ M1) A2 B2 S (by omega) sA.right sB.right (by simp at hM1 ⊢; omega) some
 have q3 := q2.len
 refine ⟨M1 ++ M2, ?_, ?_, ?_, ?_⟩
 ·unfold f130_75b
  rw [if_neg (by rw [i64_id (by omega) (by omega)]; omega), if_neg (by rw [i64_id (by omega) (by omega)]; omega), hwm, hwn, e0]
  simp only [f130_75_j1]
  rw [h1, Option.bind_some]
  simp only [hwm, hwn, hend]
  have stage1 : (if (s : Int) < (m : Int) then (if (m : Int) < ((m + B1.length : Nat) : Int) then ((f149_75 (P ++ (A1 ++ A2) ++ (B1 ++ B2) ++ S) (s : Int) (m : Int) ((m + B1.length : Nat) : Int)).bind fun x240 => ((guardO (x240.length = (P ++ (A1 ++ A2) ++ (B1 ++ B2) ++ S).length)).bind fun x241 => f130_75_j2 (P.length : Int) (m : Int) (b : Int) rec130 (s : Int) x240)) else f130_75_j2 (P.length : Int) (m : Int) (b : Int) rec130 (s : Int) (P ++ (A1 ++ A2) ++ (B1 ++ B2) ++ S)) else f130_75_j2 (P.length : Int) (m : Int) (b : Int) rec130 (s : Int) (P ++ (A1 ++ A2) ++ (B1 ++ B2) ++ S)) = f130_75_j2 (P.length : Int) (m : Int) (b : Int) rec130 (s : Int) (P ++ A1 ++ B1 ++ (A2 ++ B2 ++ S)) := by
   by_cases d1 : A2 = []
   ·subst d1
    rw [if_neg (by simp at hA2; omega)]; simp
   by_cases d2 : B1 = []
   ·subst d2
    rw [if_pos (by have := List.length_pos_iff.2 d1; omega), if_neg (by simp)]; simp
   have p1 := List.length_pos_iff.2 d1
   have p2 := List.length_pos_iff.2 d2
   rw [if_pos (by omega), if_pos (by omega)]
   have e : P ++ (A1 ++ A2) ++ (B1 ++ B2) ++ S = (P ++ A1) ++ A2 ++ B1 ++ (B2 ++ S) := by simp
   rw [e, rot_eq (P ++ A1) A2 B1 (B2 ++ S) p1 p2 (by simp; omega) (by rw [hsA]; simp) (by rw [hA2, hsA]; simp) (by rw [hA2, hsA]; simp), Option.bind_some, guardO_ok (by simp; omega), Option.bind_some]
   simp
  rw [stage1]
  have e2 : ((P.length + A1.length : Nat) : Int) = (s : Int) := by omega
  have e3 : ((P.length + A1.length + B1.length : Nat) : Int) = (mid : Int) := by omega
  rw [e2, e3] at k1
  simp only [f130_75_j2, hwm]
  rw [k1]
  have e4 : (((P ++ M1).length : Nat) : Int) = (mid : Int) := by omega
  have e5 : (((P ++ M1).length + A2.length : Nat) : Int) = ((m + B1.length : Nat) : Int) := by omega
  have e6 : (((P ++ M1).length + A2.length + B2.length : Nat) : Int) = (b : Int) := by omega
  have e7 : P ++ M1 ++ (A2 ++ B2 ++ S) = P ++ M1 ++ A2 ++ B2 ++ S := by simp
  rw [e4, e5, e6] at q1
  simp only [f130_75_j3, hwm, hwn, hend]
  rw [e7, q1]
  simp
 ·refine Srt.append k2.srt q2.srt fun x hx y hy => ?_
  rcases List.mem_append.1 (k2.sf.mem swoI hx) with h | h <;> rcases List.mem_append.1 (q2.sf.mem swoI hy) with h' | h'
  ·exact sA.cross x h y h'
  ·exact x12 x h y h'
  ·exact swoI.asym (x21 y h' x h)
  ·exact sB.cross x h y h'
 ·refine (SF.append k2.sf q2.sf).trans ?_
  have : SF ltI (A1 ++ (B1 ++ A2) ++ B2) (A1 ++ (A2 ++ B1) ++ B2) := SF.append (SF.append (SF.refl _) (SF.swap swoI x21).symm) (SF.refl _)
  simpa using this
 ·simp at hM1 q3 ⊢; omega
theorem sym_all : ∀ n : Nat, MergesN (f130_75 n) n
 | 0 => fun P A B S hn hA hB => by omega
 | n + 1 => sym_step (sym_all n)
theorem sym_eq (P A B S : List Res) (hA : 0 < A.length) (hB : 0 < B.length) (sA : Srt ltI A) (sB : Srt ltI B) (hl : P.length + A.length + B.length ≤ 100000) :
  ∃ M, f130_75 fuel (P ++ A ++ B ++ S) (P.length : Int) ((P.length + A.length : Nat) : Int) ((P.length + A.length + B.length : Nat) : Int) = some (P ++ M ++ S) ∧ Sorts ltI (A ++ B) M :=
 sym_all fuel P A B S (Nat.le_trans (show A.length + B.length ≤ 100000 by omega) (by decide)) hA hB sA sB hl
def AB (bs : Nat) (l : List Res) : Prop := ∀ k, Srt ltI ((l.drop (k * bs)).take bs)
theorem AB.nil (bs : Nat) : AB bs [] := fun k => by simp only [List.drop_nil, List.take_nil]; exact Srt.nil
theorem AB.snoc {bs q : Nat} {D M : List Res} (h : AB bs D) (hD : D.length = q * bs) (hM : M.length ≤ bs) (hs : Srt ltI M) : AB bs (D ++ M) := fun k => by
 rcases Nat.lt_trichotomy k q with hk | hk | hk
 ·have h1 : (k + 1) * bs ≤ q * bs := Nat.mul_le_mul_right bs hk
  rw [Nat.succ_mul] at h1
  rw [List.drop_append_of_le_length (by omega), List.take_append_of_le_length (by rw [List.length_drop]; omega)]
  exact h k
 ·subst hk
  rw [← hD, List.drop_left, List.take_of_length_le hM]
  exact hs
 ·have h1 : (q + 1) * bs ≤ k * bs := Nat.mul_le_mul_right bs hk
  rw [Nat.succ_mul] at h1
  rw [List.drop_eq_nil_of_le (by rw [List.length_append]; omega), List.take_nil]
  exact Srt.nil
theorem AB.head {bs : Nat} {l : List Res} (h : AB bs l) : Srt ltI (l.take bs) := by
 have := h 0
 simpa using this
theorem AB.drop {bs : Nat} {l : List Res} (h : AB bs l) : AB bs (l.drop bs) := fun k => by
 have := h (k + 1)
 rw [List.drop_drop]
 rw [Nat.succ_mul] at this
 rw [Nat.add_comm]
 exact this
def Ev (l l' : List Res) : Prop := SF ltI l l' ∧ l.length = l'.length
theorem Ev.refl (l : List Res) : Ev l l := ⟨SF.refl l, rfl⟩
theorem Ev.trans {a b c : List Res} (h : Ev a b) (k : Ev b c) : Ev a c := ⟨h.1.trans k.1, h.2.trans k.2⟩
theorem Ev.app {a b c d : List Res} (h : Ev a b) (k : Ev c d) : Ev (a ++ c) (b ++ d) := ⟨SF.append h.1 k.1, by rw [List.length_append, List.length_append, h.2, k.2]⟩
theorem ins_phase : ∀ (n : Nat) (D R : List Res) (q : Nat), R.length = n → D.length = q * 20 → AB 20 D → D.length + R.length ≤ 100000 →
  ∃ D' R' q', loopO (f105_75_s2 ((D.length + R.length : Nat) : Int)) (D ++ R, (D.length : Int), ((D.length + 20 : Nat) : Int)) = some ((D'.length : Int), D' ++ R') ∧ D'.length = q' * 20 ∧ AB 20 D' ∧ R'.length < 20 ∧ Ev (D' ++ R') (D ++ R) := by
 intro n
 induction n using Nat.strongRecOn with
 | ind n ih =>
  intro D R q hn hD hA hl
  by_cases h : 20 ≤ R.length
  ·obtain ⟨X, R', rfl, hX⟩ := split_at h
   obtain ⟨M, h1, h2⟩ := ins_eq D X R' (by simp at hl; omega) (a := (D.length : Int)) (b := ((D.length + 20 : Nat) : Int)) rfl (by rw [hX])
   have hM := h2.len
   have hw : IntKind.i64.wrap (((D.length + 20 : Nat) : Int) + 20) = ((D.length + 20 + 20 : Nat) : Int) := by rw [i64_id (by omega) (by omega)]; omega
   have hstep : f105_75_s2 ((D.length + (X ++ R').length : Nat) : Int) (D ++ (X ++ R'), (D.length : Int), ((D.length + 20 : Nat) : Int)) = some (.inl ((D ++ M) ++ R', ((D ++ M).length : Int), (((D ++ M).length + 20 : Nat) : Int))) := by
    simp only [f105_75_s2]
    rw [if_pos (by simp; omega), ← List.append_assoc, h1, Option.bind_some, guardO_ok (by simp; omega), Option.bind_some, hw]
    simp [hM, hX]
   rw [loopO_next hstep]
   obtain ⟨D', R'', q', k1, k2, k3, k4, k5⟩ := ih R'.length (by simp at hn; omega) (D ++ M) R' (q + 1) rfl (by simp; omega) (hA.snoc hD (by omega) h2.srt) (by simp at hl ⊢; omega)
   refine ⟨D', R'', q', ?_, k2, k3, k4, k5.trans ?_⟩
   ·rw [← k1]; congr 2; simp; omega
   ·rw [List.append_assoc]
    exact (Ev.refl D).app (Ev.app ⟨h2.sf, h2.len⟩ (Ev.refl R'))
  ·refine ⟨D, R, q, loopO_done ?_, hD, hA, by omega, Ev.refl _⟩
   simp only [f105_75_s2]
   rw [if_neg (by omega)]
theorem merge_phase (bs : Nat) (hbs : 0 < bs) (hb2 : bs ≤ 100000) : ∀ (n : Nat) (D R : List Res) (q : Nat), R.length = n → D.length = q * (2 * bs) → AB (2 * bs) D → AB bs R → D.length + R.length ≤ 100000 →
  ∃ D' R' q', loopO (f105_75_s9 ((D.length + R.length : Nat) : Int) (bs : Int)) (D ++ R, (D.length : Int), ((D.length + 2 * bs : Nat) : Int)) = some ((D'.length : Int), D' ++ R') ∧ D'.length = q' * (2 * bs) ∧ AB (2 * bs) D' ∧ AB bs R' ∧ R'.length < 2 * bs ∧ Ev (D' ++ R') (D ++ R) := by
 intro n
 induction n using Nat.strongRecOn with
 | ind n ih =>
  intro D R q hn hD hA hR hl
  by_cases h : 2 * bs ≤ R.length
  ·obtain ⟨X, R1, rfl, hX⟩ := split_at (l := R) (n := bs) (by omega)
   obtain ⟨Y, R', rfl, hY⟩ := split_at (l := R1) (n := bs) (by simp at h; omega)
   have sX : Srt ltI X := by have := hR.head; rwa [← hX, List.take_left] at this
   have hR1 : AB bs (Y ++ R') := by have := hR.drop; rwa [← hX, List.drop_left, hX] at this
   have sY : Srt ltI Y := by have := hR1.head; rwa [← hY, List.take_left] at this
   have hR' : AB bs R' := by have := hR1.drop; rwa [← hY, List.drop_left, hY] at this
   obtain ⟨M, h1, h2⟩ := sym_eq D X Y R' (by omega) (by omega) sX sY (by simp at hl; omega)
   have hM := h2.len
   simp only [List.length_append] at hM
   have hw : IntKind.i64.wrap ((D.length : Int) + (bs : Int)) = ((D.length + X.length : Nat) : Int) := by rw [i64_id (by omega) (by omega)]; omega
   have hw2 : IntKind.i64.wrap (((D.length + 2 * bs : Nat) : Int) + IntKind.i64.wrap (2 * (bs : Int))) = ((D.length + 2 * bs + 2 * bs : Nat) : Int) := by rw [i64_id (show -9223372036854775808 ≤ 2 * (bs : Int) by omega) (by omega), i64_id (by omega) (by omega)]; omega
   have hstep : f105_75_s9 ((D.length + (X ++ (Y ++ R')).length : Nat) : Int) (bs : Int) (D ++ (X ++ (Y ++ R')), (D.length : Int), ((D.length + 2 * bs : Nat) : Int)) = some (.inl ((D ++ M) ++ R', ((D ++ M).length : Int), (((D ++ M).length + 2 * bs : Nat) : Int))) := by
    simp only [f105_75_s9]
    have e : D ++ (X ++ (Y ++ R')) = D ++ X ++ Y ++ R' := by simp
    have e2 : ((D.length + 2 * bs : Nat) : Int) = ((D.length + X.length + Y.length : Nat) : Int) := by omega
    have e3 : ((D ++ M).length : Int) = ((D.length + 2 * bs : Nat) : Int) := by simp; omega
    rw [if_pos (by simp; omega), hw2, hw, e2, e, h1, Option.bind_some, guardO_ok (by simp; omega), Option.bind_some]
    simp [hM]
    omega
   rw [loopO_next hstep]
   obtain ⟨D', R'', q', k1, k2, k3, k4, k5, k6⟩ := ih R'.length (by simp at hn; omega) (D ++ M) R' (q + 1) rfl (by rw [Nat.succ_mul]; simp; omega) (hA.snoc hD (by omega) h2.srt) hR' (by simp at hl ⊢; omega)
   refine ⟨D', R'', q', ?_, k2, k3, k4, k5, k6.trans ?_⟩
   ·rw [← k1]; congr 2; simp; omega
   ·have : Ev (D ++ (M ++ R')) (D ++ ((X ++ Y) ++ R')) := (Ev.refl D).app (Ev.app ⟨h2.sf, h2.len⟩ (Ev.refl R'))
    simpa using this
  ·refine ⟨D, R, q, loopO_done ?_, hD, hA, hR, by omega, Ev.refl _⟩
   simp only [f105_75_s9]
   rw [if_neg (by omega)]
theorem passes (N : Nat) (hN : N ≤ 100000) : ∀ (k : Nat) (l : List Res) (bs : Nat), N - bs = k → 0 < bs → bs ≤ 200000 → l.length = N → AB bs l → ∃ r, loopO (f105_75_s3 (N : Int)) (l, (bs : Int)) = some r ∧ Srt ltI r ∧ Ev r l := by
 intro k
 induction k using Nat.strongRecOn with
 | ind k ih =>
  intro l bs hk h0 hb hl hA
  by_cases hlt : bs < N
  ·obtain ⟨D, R, q, h1, h2, h3, h4, h5, h6⟩ := merge_phase bs h0 (by omega) l.length [] l 0 rfl (by simp) (AB.nil _) hA (by simp; omega)
   have hlen := h6.2
   simp only [List.nil_append, List.length_append, List.length_nil, Nat.zero_add] at h1 hlen h6
   have w2 : IntKind.i64.wrap (2 * (bs : Int)) = ((2 * bs : Nat) : Int) := by rw [i64_id (by omega) (by omega)]; omega
   have w3 : IntKind.i64.wrap ((bs : Int) * 2) = ((2 * bs : Nat) : Int) := by rw [i64_id (by omega) (by omega)]; omega
   have w4 : IntKind.i64.wrap ((D.length : Int) + (bs : Int)) = ((D.length + bs : Nat) : Int) := by rw [i64_id (by omega) (by omega)]; omega
   obtain ⟨l', s1, s2, s3⟩ : ∃ l', f105_75_s3 (N : Int) (l, (bs : Int)) = some (.inl (l', ((2 * bs : Nat) : Int))) ∧ AB (2 * bs) l' ∧ Ev l' l := by
    by_cases hc : D.length + bs < N
    ·obtain ⟨X, Y, rfl, hX⟩ := split_at (l := R) (n := bs) (by omega)
     have sX : Srt ltI X := by have := h4.head; rwa [← hX, List.take_left] at this
     have sY : Srt ltI Y := by
      have := (h4.drop).head
      rw [← hX, List.drop_left] at this
      rwa [List.take_of_length_le (by simp at h5; omega)] at this
     simp only [List.length_append] at hlen h5
     obtain ⟨M, m1, m2⟩ := sym_eq D X Y [] (by omega) (by omega) sX sY (by omega)
     have hM := m2.len
     simp only [List.append_nil, List.length_append] at m1 hM
     refine ⟨D ++ M, ?_, h3.snoc h2 (by omega) m2.srt, Ev.trans ?_ h6⟩
     ·simp only [f105_75_s3]
      rw [if_pos (by omega), w2, show (0 : Int) = ((([] : List Res).length : Nat) : Int) from rfl]
      rw [show (N : Int) = ((l.length : Nat) : Int) by omega]
      simp only [List.length_nil]
      rw [h1, Option.bind_some]
      simp only [w4, w3]
      have e1 : ((D.length + bs : Nat) : Int) = ((D.length + X.length : Nat) : Int) := by omega
      have e2 : ((l.length : Nat) : Int) = ((D.length + X.length + Y.length : Nat) : Int) := by omega
      rw [if_pos (by omega), e1, e2, show D ++ (X ++ Y) = D ++ X ++ Y by simp, m1, Option.bind_some, guardO_ok (by simp; omega), Option.bind_some]
     ·exact (Ev.refl D).app ⟨m2.sf, m2.len⟩
    ·refine ⟨D ++ R, ?_, h3.snoc h2 (by omega) ?_, h6⟩
     ·simp only [f105_75_s3]
      rw [if_pos (by omega), w2, show (0 : Int) = ((([] : List Res).length : Nat) : Int) from rfl]
      rw [show (N : Int) = ((l.length : Nat) : Int) by omega]
      simp only [List.length_nil]
      rw [h1, Option.bind_some]
      simp only [w4, w3]
      rw [if_neg (by omega)]
     ·have := h4.head
      rwa [List.take_of_length_le (by omega)] at this
   rw [loopO_next s1]
   obtain ⟨r, t1, t2, t3⟩ := ih (N - 2 * bs) (by omega) l' (2 * bs) rfl (by omega) (by omega) (by rw [s3.2, hl]) s2
   exact ⟨r, t1, t2, t3.trans s3⟩
  ·refine ⟨l, loopO_done ?_, ?_, Ev.refl _⟩
   ·simp only [f105_75_s3]
    rw [if_neg (by omega)]
   ·have := hA.head
    rwa [List.take_of_length_le (by omega)] at this
theorem stable_eq (l : List Res) (hl : l.length ≤ 100000) : ∃ r, f74_75 l = some r ∧ Sorts ltI l r := by
 obtain ⟨D, R, q, h1, h2, h3, h4, h5⟩ := ins_phase l.length [] l 0 rfl (by simp) (AB.nil _) (by simp; omega)
 have hlen := h5.2
 simp only [List.nil_append, List.length_append, List.length_nil, Nat.zero_add] at h1 hlen h5
 obtain ⟨M, m1, m2⟩ := ins_eq D R [] (by omega) (a := (D.length : Int)) (b := (l.length : Int)) rfl (by omega)
 simp only [List.append_nil] at m1
 have hM := m2.len
 obtain ⟨r, t1, t2, t3⟩ := passes l.length hl (l.length - 20) (D ++ M) 20 rfl (by decide) (by decide) (by simp; omega) (h3.snoc h2 (by omega) m2.srt)
 have ev : Ev r l := t3.trans (((Ev.refl D).app ⟨m2.sf, m2.len⟩).trans h5)
 refine ⟨r, ?_, t2, ev.1, ev.2⟩
 unfold f74_75 f105_75
 rw [show ((0 : Int)) = ((0 : Nat) : Int) from rfl, show (20 : Int) = ((20 : Nat) : Int) from rfl, h1, Option.bind_some]
 simp only
 rw [m1, Option.bind_some, guardO_ok (by simp; omega), Option.bind_some, t1, Option.bind_some, Option.bind_some, guardO_ok ev.2, Option.bind_some]
end Au
end Go.Proofs.Yt
