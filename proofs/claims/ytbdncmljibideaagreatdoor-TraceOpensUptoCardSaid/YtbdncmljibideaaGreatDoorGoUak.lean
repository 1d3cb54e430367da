import Derived.Test.YtbdncmljibideaaGreatDoorGoUae
import Derived.Test.YtbdncmljibideaaGreatDoorGoUaj
import Derived.Test.YtbdncmljibideaaGreatDoorGoUaf
import Derived.Test.YtbdncmljibideaaGreatDoorGoUah
import Derived.Test.YtbdncmljibideaaGreatDoorGoUai
set_option linter.all false
noncomputable section
set_option maxRecDepth 8000
set_option maxHeartbeats 1000000
namespace Go.Proofs.Yt
open Go.Gm
namespace Au
def f166_s2 (x1 : Int × Reader) : (List Int) × Int × Int × (List Int) × Int → Option (((List Int) × Int × Int × (List Int) × Int) ⊕ ((List Int) × Int × Int × (List Int)))
  | (s2_0, s2_1, s2_2, s2_3, s2_4) => (if s2_4 < (IntKind.i64.wrap (x1.1.tdiv 2)) then (if s2_2 = 0 then ((f165 ⟨s2_0, s2_1, s2_2⟩).bind fun x39 => ((f176 x39.2 s2_3 x39.1).bind fun x40 => some (.inl (x40.2.b, x40.2.at_, x40.2.e, x40.1, IntKind.i64.wrap (s2_4 + 1))))) else some (.inl (s2_0, s2_1, s2_2, s2_3, IntKind.i64.wrap (s2_4 + 1)))) else some (.inr (s2_0, s2_1, s2_2, s2_3)))
def f166_s3 (x1 : Int × Reader) (x46 : Int × Reader) (x47 : Int × Reader) : (List Int) × Int × Int × (List Int) × Int → Option (((List Int) × Int × Int × (List Int) × Int) ⊕ ((List Int) × Int × Int × (List Int)))
  | (s3_0, s3_1, s3_2, s3_3, s3_4) => (if s3_4 < (IntKind.i64.wrap (x1.1.tdiv 2)) then (if s3_2 = 0 then (if s3_4 = 0 then ((f176 ⟨s3_0, s3_1, s3_2⟩ s3_3 x46.1).bind fun x68 => some (.inl (x68.2.b, x68.2.at_, x68.2.e, x68.1, IntKind.i64.wrap (s3_4 + 1)))) else ((f176 ⟨s3_0, s3_1, s3_2⟩ s3_3 x47.1).bind fun x69 => some (.inl (x69.2.b, x69.2.at_, x69.2.e, x69.1, IntKind.i64.wrap (s3_4 + 1))))) else some (.inr (s3_0, s3_1, s3_2, s3_3))) else some (.inr (s3_0, s3_1, s3_2, s3_3)))
def f166_j1 (a1 : List Int) (x1 : Int × Reader) : Int → Option ((List Int) × Reader)
  | j1_0 => (if j1_0 = 0 then (if (x1.1.tmod 2) = 0 then ((loopO (f166_s2 x1) (x1.2.b, x1.2.at_, j1_0, a1, 0)).bind fun y41 => match y41 with | (y42, y43, y44, y45) => some (y45, ⟨y42, y43, y44⟩)) else ((f165 ⟨x1.2.b, x1.2.at_, j1_0⟩).bind fun x46 => ((f165 x46.2).bind fun x47 => ((loopO (f166_s3 x1 x46 x47) (x47.2.b, x47.2.at_, x47.2.e, a1, 0)).bind fun y70 => match y70 with | (y71, y72, y73, y74) => some (y74, ⟨y71, y72, y73⟩))))) else some (a1, ⟨x1.2.b, x1.2.at_, j1_0⟩))
def f166 (a0 : Reader) (a1 : List Int) : Option ((List Int) × Reader) := ((f165 a0).bind fun x1 => (if 65536 < (IntKind.i64.wrap (x1.1.tdiv 2)) then (if x1.2.e = 0 then f166_j1 a1 x1 9 else f166_j1 a1 x1 x1.2.e) else f166_j1 a1 x1 x1.2.e))
theorem ok166 (a0 : Reader) (a1 : List Int) (r : (List Int) × Reader) (h : f166 a0 a1 = some r) : IC Tryz.prog 166 [some (.row 3 true [[.sl (List.map enc5 a0.b), .val (.int .i64 a0.at_), .val (.int .i64 a0.e)]]), some (.row 1 true (List.map enc3 a1))] [.ptr 0 0 0, .own 1 0 a1.length] (.own 8 0 r.1.length) [some (.row 3 true [[.sl (List.map enc5 r.2.b), .val (.int .i64 r.2.at_), .val (.int .i64 r.2.e)]])] [some (.row 1 true (List.map enc3 r.1))] := by
 rw [f166] at h
 refine ic_of (N := 75) (rs := [.tmp 4]) Tryz.func166 rfl rfl rfl (Nat.le_of_ble_eq_true rfl) <| AW.sX [0, 1] ?_
 obtain ⟨x1, hx1, h⟩ := bO h
 refine AW.rK [0, 1, 5] fun K hK => ?_
 simp only [go_sem, seval]
 refine arC.ok (CallOk.icr (us' := _) (ok165 a0 x1 hx1) [0] (.cons (.eq (by simp only [go_sem]) (by first | rfl | simp [upd_ap, hpL_ap, sg_ap])) (.nil _)) (.cons (.of rfl) .nil)) Tryz.call165 ?_
 simp only [go_sem, seval]
 subst hK
 refine AW.tX [0, 1, 5, 6] ?_
 refine AW.join (fun s => ⟨(upd (upd (upd (upd anyF 0 (.ptr 0 0 0)) 1 (.own 8 0 a1.length)) 5 (.val (.int .i64 x1.1))) 6 (.val (.int .i64 (IntKind.i64.wrap (x1.1.tdiv 2))))), hpL [some (.row 3 true [[.sl (List.map enc5 x1.2.b), .val (.int .i64 x1.2.at_), .val (.int .i64 s)]])] [some (.row 1 true (List.map enc3 a1))], 9⟩) (fun s => f166_j1 a1 x1 s = some r) ?_ ?_
 ·rcases iteO h with ⟨c75, h⟩ | ⟨c75, h⟩
  ·refine AW.vX [0, 1, 5, 6, 22] ?_
   rcases iteO h with ⟨c76, h⟩ | ⟨c76, h⟩
   ·refine AW.ifT rfl c76 <| AW.sY [0, 1, 5, 6] ?_
    refine thenA_n ?_
    refine ⟨_, h, ?_⟩
    exact Ent.canq [1] RF.any.qp.qo.qv.qv (.ce (.nil _)) (.ce (.nil _))
   ·refine AW.ifF rfl c76 <| AW.skip <| thenA_n ?_
    refine ⟨_, h, ?_⟩
    exact Ent.canq [1] RF.any.qp.qo.qv.qv (.ce (.nil _)) (.ce (.nil _))
  ·refine AW.vX [0, 1, 5, 6, 22] ?_
   refine AW.ifBF rfl rfl <| AW.skip <| thenA_n ?_
   refine ⟨_, h, ?_⟩
   exact Ent.canq [1] RF.any.qp.qo.qv.qv (.ce (.nil _)) (.ce (.nil _))
 ·clear h
  rintro j1_0 h
  rw [f166_j1] at h
  refine AW.seq <| AW.sX [0, 1, 5, 6, 30] ?_
  rcases iteO h with ⟨c5, h⟩ | ⟨c5, h⟩
  ·refine AW.ifF rfl (fun q => q c5) ?_
   refine AW.skip <| thenA_n <| AW.seq <| AW.tX [0, 1, 6, 34] ?_
   rcases iteO h with ⟨c23, h⟩ | ⟨c23, h⟩
   ·refine AW.ifT rfl c23 <| AW.seq <| AW.sX [0, 1, 35, 36] ?_
    refine AW.block ?_
    obtain ⟨y41, hy41, h⟩ := bO h
    refine AW.loopO (fun s => ⟨(upd (upd (upd (upd anyF 0 (.ptr 0 0 0)) 1 (.own 8 0 s.2.2.2.1.length)) 35 (.val (.int .i64 (IntKind.i64.wrap (x1.1.tdiv 2))))) 36 (.val (.int .i64 s.2.2.2.2))), hpL [some (.row 3 true [[.sl (List.map enc5 s.1), .val (.int .i64 s.2.1), .val (.int .i64 s.2.2.1)]])] [some (.row 1 true (List.map enc3 s.2.2.2.1))], 9⟩) (fun z e st' => e = Exit.exit 0 ∧ st' = ⟨(upd anyF 1 (.own 8 0 z.2.2.2.length)), hpL [some (.row 3 true [[.sl (List.map enc5 z.1), .val (.int .i64 z.2.1), .val (.int .i64 z.2.2.1)]])] [some (.row 1 true (List.map enc3 z.2.2.2))], 9⟩) hy41 ?_ ?_ ?_
    ·exact Ent.canq [8] RF.any.qp.qo.qv.qv (.ce (.nil _)) (.ce (.nil _))
    ·clear h hy41
     rintro ⟨s2_0, s2_1, s2_2, s2_3, s2_4⟩ x h
     rw [f166_s2] at h
     refine AW.sX [0, 1, 35, 36, 37] ?_
     refine AW.seq ?_
     rcases iteO h with ⟨c37, h⟩ | ⟨c37, h⟩
     ·refine AW.ifT rfl c37 <| AW.skip <| thenA_n <| AW.seq <| AW.block <| AW.sX [0, 1, 35, 36, 42] ?_
      rcases iteO h with ⟨c38, h⟩ | ⟨c38, h⟩
      ·refine AW.ifT rfl c38 ?_
       obtain ⟨x39, hx39, h⟩ := bO h
       obtain ⟨x40, hx40, h⟩ := bO h
       refine AW.rL [0, 1, 35, 36] fun K hK => ?_
       simp only [go_sem, seval]
       refine arC.ok (CallOk.icr (us' := _) (ok165 ⟨s2_0, s2_1, s2_2⟩ x39 hx39) [0] (.cons (.eq (by simp only [go_sem]) (by first | rfl | simp [upd_ap, hpL_ap, sg_ap])) (.nil _)) (.cons (.of rfl) .nil)) Tryz.call165 ?_
       simp only [go_sem, seval]
       refine arC.ok (CallOk.icr (us' := _) (ok176 x39.2 s2_3 x39.1 x40 hx40) [0, 8] (.cons (.eq (by simp only [go_sem]) (by first | rfl | simp [upd_ap, hpL_ap, sg_ap])) (.cons (.eq (by simp only [go_sem]) (by first | rfl | simp [upd_ap, hpL_ap, sg_ap])) (.nil _))) (.cons (.of rfl) (.cons (.of (by first | rfl | simp [mapT_own, sg_ap, eq_true c5, eq_true c23, eq_true c37, eq_true c38])) (.cons (.of rfl) .nil)))) Tryz.call176 ?_
       simp only [go_sem, seval]
       subst hK
       refine block_n <| thenA_n <| AW.sY [0, 1, 35, 36] ?_
       refine thenA_n ?_
       refine ⟨_, oj h, ?_⟩
       exact Ent.canq [89] RF.any.qp.qo.qv.qv (.ce (.nil _)) (.ce (.nil _))
      ·refine AW.ifF rfl c38 <| AW.skip <| block_n <| thenA_n <| AW.sY [0, 1, 35, 36] ?_
       refine thenA_n ?_
       refine ⟨_, oj h, ?_⟩
       exact Ent.canq [8] RF.any.qp.qo.qv.qv (.ce (.nil _)) (.ce (.nil _))
     ·refine AW.ifF rfl c37 <| AW.exit <| thenA_x <| thenA_x ?_
      refine ⟨_, oj h, _, ?_, rfl, rfl⟩
      exact Ent.canq [8] RF.any.qo (.ce (.nil _)) (.ce (.nil _))
    ·intro e st' hX
     obtain ⟨y42, y43, y44, y45⟩ := y41
     try dsimp only at h
     try dsimp only at hX
     obtain ⟨rfl, rfl⟩ := hX
     refine ⟨_, Ent.refl, ?_⟩
     refine block_x <| thenA_n <| AW.sX [4] ?_
     refine AW.ent (st' := ⟨(upd anyF 4 (.own 8 0 y45.length)), hpL [some (.row 3 true [[.sl (List.map enc5 y42), .val (.int .i64 y43), .val (.int .i64 y44)]])] [some (.row 1 true (List.map enc3 y45))], 9⟩) ?_ ?_
     · refine Ent.can [8] _ _ _ rfl (by first | decide | simp) rfl ?_ ?_ ?_
       · exact RF.any.qo
       · exact .ce (.nil _)
       · exact .ce (.nil _)
     refine AW.ret <| thenA_r ?_
     obtain rfl := oi h
     exact ⟨rfl, rfl, _, rfl, by first | rfl | simp [resOf, upd_ap, bytesI_len]⟩
   ·refine AW.ifF rfl c23 <| AW.skip <| thenA_n ?_
    obtain ⟨x46, hx46, h⟩ := bO h
    refine AW.rK [0, 1, 6, 7] fun K hK => ?_
    simp only [go_sem, seval]
    refine arC.ok (CallOk.icr (us' := _) (ok165 ⟨x1.2.b, x1.2.at_, j1_0⟩ x46 hx46) [0] (.cons (.eq (by simp only [go_sem]) (by first | rfl | simp [upd_ap, hpL_ap, sg_ap])) (.nil _)) (.cons (.of rfl) .nil)) Tryz.call165 ?_
    simp only [go_sem, seval]
    subst hK
    obtain ⟨x47, hx47, h⟩ := bO h
    refine AW.rK [0, 1, 6, 7, 8] fun K hK => ?_
    simp only [go_sem, seval]
    refine arC.ok (CallOk.icr (us' := _) (ok165 x46.2 x47 hx47) [0] (.cons (.eq (by simp only [go_sem]) (by first | rfl | simp [upd_ap, hpL_ap, sg_ap])) (.nil _)) (.cons (.of rfl) .nil)) Tryz.call165 ?_
    simp only [go_sem, seval]
    subst hK
    refine AW.seq <| AW.sX [0, 1, 7, 8, 54, 55] ?_
    refine AW.block ?_
    obtain ⟨y70, hy70, h⟩ := bO h
    refine AW.loopO (fun s => ⟨(upd (upd (upd (upd (upd (upd anyF 0 (.ptr 0 0 0)) 1 (.own 8 0 s.2.2.2.1.length)) 7 (.val (.int .i64 x46.1))) 8 (.val (.int .i64 x47.1))) 54 (.val (.int .i64 (IntKind.i64.wrap (x1.1.tdiv 2))))) 55 (.val (.int .i64 s.2.2.2.2))), hpL [some (.row 3 true [[.sl (List.map enc5 s.1), .val (.int .i64 s.2.1), .val (.int .i64 s.2.2.1)]])] [some (.row 1 true (List.map enc3 s.2.2.2.1))], 9⟩) (fun z e st' => e = Exit.exit 2 ∧ st' = ⟨(upd anyF 1 (.own 8 0 z.2.2.2.length)), hpL [some (.row 3 true [[.sl (List.map enc5 z.1), .val (.int .i64 z.2.1), .val (.int .i64 z.2.2.1)]])] [some (.row 1 true (List.map enc3 z.2.2.2))], 9⟩) hy70 ?_ ?_ ?_
    ·exact Ent.canq [8] RF.any.qp.qo.qv.qv.qv.qv (.ce (.nil _)) (.ce (.nil _))
    ·clear h hy70
     rintro ⟨s3_0, s3_1, s3_2, s3_3, s3_4⟩ x h
     rw [f166_s3] at h
     refine AW.sX [0, 1, 7, 8, 54, 55, 56] ?_
     refine AW.seq ?_
     rcases iteO h with ⟨c64, h⟩ | ⟨c64, h⟩
     ·refine AW.ifT rfl c64 <| AW.skip <| thenA_n <| AW.seq <| AW.block <| AW.sX [0, 1, 7, 8, 9, 54, 55] ?_
      refine AW.seq <| AW.sX [0, 1, 7, 8, 9, 54, 55, 62] ?_
      rcases iteO h with ⟨c66, h⟩ | ⟨c66, h⟩
      ·refine AW.ifF rfl (fun q => q c66) <| AW.skip <| thenA_n <| AW.tX [0, 1, 7, 8, 54, 55, 64] ?_
       rcases iteO h with ⟨c67, h⟩ | ⟨c67, h⟩
       ·refine AW.ifT rfl c67 ?_
        obtain ⟨x68, hx68, h⟩ := bO h
        refine AW.rL [0, 1, 7, 8, 54, 55] fun K hK => ?_
        simp only [go_sem, seval]
        refine arC.ok (CallOk.icr (us' := _) (ok176 ⟨s3_0, s3_1, s3_2⟩ s3_3 x46.1 x68 hx68) [0, 8] (.cons (.eq (by simp only [go_sem]) (by first | rfl | simp [upd_ap, hpL_ap, sg_ap])) (.cons (.eq (by simp only [go_sem]) (by first | rfl | simp [upd_ap, hpL_ap, sg_ap])) (.nil _))) (.cons (.of rfl) (.cons (.of (by first | rfl | simp [mapT_own, sg_ap, eq_true c5, eq_false c23, eq_true c64, eq_true c66, eq_true c67])) (.cons (.of rfl) .nil)))) Tryz.call176 ?_
        simp only [go_sem, seval]
        subst hK
        refine block_n <| thenA_n <| AW.sY [0, 1, 7, 8, 54, 55] ?_
        refine thenA_n ?_
        refine ⟨_, oj h, ?_⟩
        exact Ent.canq [113] RF.any.qp.qo.qv.qv.qv.qv (.ce (.nil _)) (.ce (.nil _))
       ·refine AW.ifF rfl c67 ?_
        obtain ⟨x69, hx69, h⟩ := bO h
        refine AW.rL [0, 1, 7, 8, 54, 55] fun K hK => ?_
        simp only [go_sem, seval]
        refine arC.ok (CallOk.icr (us' := _) (ok176 ⟨s3_0, s3_1, s3_2⟩ s3_3 x47.1 x69 hx69) [0, 8] (.cons (.eq (by simp only [go_sem]) (by first | rfl | simp [upd_ap, hpL_ap, sg_ap])) (.cons (.eq (by simp only [go_sem]) (by first | rfl | simp [upd_ap, hpL_ap, sg_ap])) (.nil _))) (.cons (.of rfl) (.cons (.of (by first | rfl | simp [mapT_own, sg_ap, eq_true c5, eq_false c23, eq_true c64, eq_true c66, eq_false c67])) (.cons (.of rfl) .nil)))) Tryz.call176 ?_
        simp only [go_sem, seval]
        subst hK
        refine block_n <| thenA_n <| AW.sY [0, 1, 7, 8, 54, 55] ?_
        refine thenA_n ?_
        refine ⟨_, oj h, ?_⟩
        exact Ent.canq [113] RF.any.qp.qo.qv.qv.qv.qv (.ce (.nil _)) (.ce (.nil _))
      ·refine AW.ifT rfl c66 <| AW.exit <| thenA_x <| block_y rfl <| thenA_x <| thenA_x ?_
       refine ⟨_, oj h, _, ?_, rfl, rfl⟩
       exact Ent.canq [8] RF.any.qo (.ce (.nil _)) (.ce (.nil _))
     ·refine AW.ifF rfl c64 <| AW.exit <| thenA_x <| thenA_x ?_
      refine ⟨_, oj h, _, ?_, rfl, rfl⟩
      exact Ent.canq [8] RF.any.qo (.ce (.nil _)) (.ce (.nil _))
    ·intro e st' hX
     obtain ⟨y71, y72, y73, y74⟩ := y70
     try dsimp only at h
     try dsimp only at hX
     obtain ⟨rfl, rfl⟩ := hX
     refine ⟨_, Ent.refl, ?_⟩
     refine block_x <| thenA_n <| AW.sX [4] ?_
     refine AW.ent (st' := ⟨(upd anyF 4 (.own 8 0 y74.length)), hpL [some (.row 3 true [[.sl (List.map enc5 y71), .val (.int .i64 y72), .val (.int .i64 y73)]])] [some (.row 1 true (List.map enc3 y74))], 9⟩) ?_ ?_
     · refine Ent.can [8] _ _ _ rfl (by first | decide | simp) rfl ?_ ?_ ?_
       · exact RF.any.qo
       · exact .ce (.nil _)
       · exact .ce (.nil _)
     refine AW.ret ?_
     obtain rfl := oi h
     exact ⟨rfl, rfl, _, rfl, by first | rfl | simp [resOf, upd_ap, bytesI_len]⟩
  ·refine AW.ifT rfl c5 <| AW.sX [4] ?_
   refine AW.ent (st' := ⟨(upd anyF 4 (.own 8 0 a1.length)), hpL [some (.row 3 true [[.sl (List.map enc5 x1.2.b), .val (.int .i64 x1.2.at_), .val (.int .i64 j1_0)]])] [some (.row 1 true (List.map enc3 a1))], 9⟩) ?_ ?_
   · refine Ent.can [8] _ _ _ rfl (by first | decide | simp) rfl ?_ ?_ ?_
     · exact RF.any.qo
     · exact .ce (.nil _)
     · exact .ce (.nil _)
   refine AW.ret <| thenA_r ?_
   obtain rfl := oi h
   exact ⟨rfl, rfl, _, rfl, by first | rfl | simp [resOf, upd_ap, bytesI_len]⟩
def f167 (a0 : List Int) (a1 : List Int) : Option Bool := some (decide ((strOfNums a0) = (strOfNums a1)))
theorem ok167 (a0 : List Int) (a1 : List Int) (r : Bool) (h : f167 a0 a1 = some r) : PC Tryz.prog 167 [.sl (List.map enc5 a0), .sl (List.map enc5 a1)] (.val (.bool r)) := by
 rw [f167] at h
 refine pc_of9 (N := 10) (rs := [.tmp 4]) Tryz.func167 ?_
 refine AW.rX [0, 1] ?_
 refine AW.rK [4] fun K hK => ?_
 simp only [go_sem, seval, byteNums_map (enc := enc5) (fun _ => rfl)]
 subst hK
 refine AW.ret ?_
 obtain rfl := oi h
 (simp only [go_sem, seval, finA] <;> try simp)
def f146_s2 (x1 : Int × Reader) : (List Int) × Int × Int × (List Int) × Int → Option (((List Int) × Int × Int × (List Int) × Int) ⊕ ((List Int) × Int × Int × (List Int)))
  | (s2_0, s2_1, s2_2, s2_3, s2_4) => (if s2_4 < x1.1 then (if s2_2 = 0 then ((f166 ⟨s2_0, s2_1, s2_2⟩ s2_3).bind fun x21 => some (.inl (x21.2.b, x21.2.at_, x21.2.e, x21.1, IntKind.i64.wrap (s2_4 + 1)))) else some (.inr (s2_0, s2_1, s2_2, s2_3))) else some (.inr (s2_0, s2_1, s2_2, s2_3)))
def f146_j1 (a0 : List Int) (y26 : List Int) : Int → Option ((List Int) × Int)
  | j1_0 => (if j1_0 = 0 then ((f80 y26).bind fun x31 => (if x31.2 = 0 then ((f167 a0 x31.1).bind fun x33 => (if x33 = true then some (y26, 0) else some ([], 3))) else some ([], 3))) else some ([], j1_0))
def f146 (a0 : List Int) : Option ((List Int) × Int) := ((f165 ⟨a0, 0, 0⟩).bind fun x1 => ((loopO (f146_s2 x1) (x1.2.b, x1.2.at_, x1.2.e, [], 0)).bind fun y22 => match y22 with | (y23, y24, y25, y26) => (if y25 = 0 then (if y24 < (a0.length : Int) then f146_j1 a0 y26 3 else f146_j1 a0 y26 y25) else f146_j1 a0 y26 y25)))
theorem ok146 (a0 : List Int) (r : (List Int) × Int) (h : f146 a0 = some r) : PC Tryz.prog 146 [.sl (List.map enc5 a0)] (.tup [.sl (List.map enc3 r.1), .val (.int .i64 r.2)]) := by
 rw [f146] at h
 refine pc_of9 (N := 70) (rs := [.tmp 2, .tmp 3]) Tryz.func146 ?_
 refine AW.rX [0] ?_
 refine AW.rX [0, 4] ?_
 refine AW.sX [0, 4, 5] ?_
 obtain ⟨x1, hx1, h⟩ := bO h
 refine AW.rK [0, 4, 5, 6] fun K hK => ?_
 simp only [go_sem, seval]
 refine arC.ok (CallOk.icr (us' := _) (ok165 ⟨a0, 0, 0⟩ x1 hx1) [40] (.cons (.eq (by simp only [go_sem]) (by first | rfl | simp [upd_ap, hpL_ap, sg_ap])) (.nil _)) (.cons (.of rfl) .nil)) Tryz.call165 ?_
 simp only [go_sem, seval]
 subst hK
 refine AW.seq <| AW.sX [0, 4, 5, 6, 7] ?_
 refine AW.block ?_
 obtain ⟨y22, hy22, h⟩ := bO h
 refine AW.loopO (fun s => ⟨(upd (upd (upd (upd (upd anyF 0 (.sl (List.map enc5 a0))) 4 (.ptr 8 0 0)) 5 (.own 9 0 s.2.2.2.1.length)) 6 (.val (.int .i64 x1.1))) 7 (.val (.int .i64 s.2.2.2.2))), hpL [] [some (.row 3 true [[.sl (List.map enc5 s.1), .val (.int .i64 s.2.1), .val (.int .i64 s.2.2.1)]]), some (.row 1 true (List.map enc3 s.2.2.2.1))], 10⟩) (fun z e st' => e = Exit.exit 0 ∧ st' = ⟨(upd (upd (upd anyF 0 (.sl (List.map enc5 a0))) 4 (.ptr 8 0 0)) 5 (.own 9 0 z.2.2.2.length)), hpL [] [some (.row 3 true [[.sl (List.map enc5 z.1), .val (.int .i64 z.2.1), .val (.int .i64 z.2.2.1)]]), some (.row 1 true (List.map enc3 z.2.2.2))], 10⟩) hy22 ?_ ?_ ?_
 ·refine Ent.trans (Ent.nilOwn 5 1 (by decide) rfl) ?_
  exact Ent.canq [40, 96] RF.any.qv.qp.qo.qv.qv (.nil _) (.ce (.ce (.nil _)))
 ·clear h hy22
  rintro ⟨s2_0, s2_1, s2_2, s2_3, s2_4⟩ x h
  rw [f146_s2] at h
  refine AW.seq ?_
  rcases iteO h with ⟨c19, h⟩ | ⟨c19, h⟩
  ·refine AW.sX [0, 4, 5, 6, 7, 24] ?_
   rcases iteO h with ⟨c20, h⟩ | ⟨c20, h⟩
   ·refine AW.ifT rfl c20 <| AW.skip <| thenA_n <| AW.seq <| AW.block ?_
    obtain ⟨x21, hx21, h⟩ := bO h
    refine AW.rL [0, 4, 5, 6, 7] fun K hK => ?_
    simp only [go_sem, seval]
    refine arC.ok (CallOk.icr (us' := _) (ok166 ⟨s2_0, s2_1, s2_2⟩ s2_3 x21 hx21) [8, 9] (.cons (.eq (by simp only [go_sem]) (by first | rfl | simp [upd_ap, hpL_ap, sg_ap])) (.cons (.eq (by simp only [go_sem]) (by first | rfl | simp [upd_ap, hpL_ap, sg_ap])) (.nil _))) (.cons (.of rfl) (.cons (.of (by first | rfl | simp [mapT_own, sg_ap, eq_true c19, eq_true c20])) .nil))) Tryz.call166 ?_
    simp only [go_sem, seval]
    subst hK
    refine block_n <| thenA_n <| AW.sY [0, 4, 5, 6, 7] ?_
    refine thenA_n ?_
    refine ⟨_, oj h, ?_⟩
    exact Ent.canq [8, 106] RF.any.qv.qp.qo.qv.qv (.nil _) (.ce (.ce (.nil _)))
   ·refine AW.ifF rfl c20 <| AW.exit <| thenA_x <| thenA_x ?_
    refine ⟨_, oj h, _, ?_, rfl, rfl⟩
    exact Ent.canq [8, 9] RF.any.qv.qp.qo (.nil _) (.ce (.ce (.nil _)))
  ·refine AW.sX [0, 4, 5, 6, 7, 24] ?_
   refine AW.ifBF rfl rfl <| AW.exit <| thenA_x <| thenA_x ?_
   refine ⟨_, oj h, _, ?_, rfl, rfl⟩
   exact Ent.canq [8, 9] RF.any.qv.qp.qo (.nil _) (.ce (.ce (.nil _)))
 ·intro e st' hX
  obtain ⟨y23, y24, y25, y26⟩ := y22
  try dsimp only at h
  try dsimp only at hX
  obtain ⟨rfl, rfl⟩ := hX
  refine ⟨_, Ent.refl, ?_⟩
  refine block_x <| thenA_n ?_
  refine AW.join (fun s => ⟨(upd (upd (upd anyF 0 (.sl (List.map enc5 a0))) 4 (.ptr 8 0 0)) 5 (.own 9 0 y26.length)), hpL [] [some (.row 3 true [[.sl (List.map enc5 y23), .val (.int .i64 y24), .val (.int .i64 s)]]), some (.row 1 true (List.map enc3 y26))], 10⟩) (fun s => f146_j1 a0 y26 s = some r) ?_ ?_
  ·rcases iteO h with ⟨c35, h⟩ | ⟨c35, h⟩
   ·refine AW.sX [0, 4, 5, 43] ?_
    rcases iteO h with ⟨c36, h⟩ | ⟨c36, h⟩
    ·refine AW.ifT rfl c36 <| AW.sY [0, 4, 5] ?_
     refine thenA_n ?_
     refine ⟨_, h, ?_⟩
     exact Ent.canq [8, 9] RF.any.qv.qp.qo (.nil _) (.ce (.ce (.nil _)))
    ·refine AW.ifF rfl c36 <| AW.skip <| thenA_n ?_
     refine ⟨_, h, ?_⟩
     exact Ent.canq [8, 9] RF.any.qv.qp.qo (.nil _) (.ce (.ce (.nil _)))
   ·refine AW.sX [0, 4, 5, 43] ?_
    refine AW.ifBF rfl rfl <| AW.skip <| thenA_n ?_
    refine ⟨_, h, ?_⟩
    exact Ent.canq [8, 9] RF.any.qv.qp.qo (.nil _) (.ce (.ce (.nil _)))
  ·clear h
   rintro j1_0 h
   rw [f146_j1] at h
   refine AW.seq <| AW.sX [0, 4, 5, 51] ?_
   rcases iteO h with ⟨c30, h⟩ | ⟨c30, h⟩
   ·refine AW.ifF rfl (fun q => q c30) <| AW.skip <| thenA_n <| AW.seq ?_
    obtain ⟨x31, hx31, h⟩ := bO h
    refine AW.rC [0, 5, 8, 9] (ok80 y26 x31 hx31) Tryz.call80 ?_
    rcases iteO h with ⟨c32, h⟩ | ⟨c32, h⟩
    ·obtain ⟨x33, hx33, h⟩ := bO h
     refine AW.sC [5, 68] (ok167 a0 x31.1 x33 hx33) Tryz.call167 ?_
     rcases iteO h with ⟨c34, h⟩ | ⟨c34, h⟩
     ·refine AW.ifBF rfl (by first | (rw [c34]; rfl) | simp_all) <| AW.skip <| thenA_n <| AW.sX [2, 3] ?_
      refine AW.ent (Ent.still 2 rfl (own_sl (sz := 1) (m := false) rfl (by first | rfl | (simp [bytesI_len]; done) | (simp [bytesI_len]; omega)) (by simp only [go_sem]))) ?_
      refine AW.ret ?_
      obtain rfl := oi h
      (simp only [go_sem, seval, c34, finA] <;> try simp)
     ·rw [Bool.not_eq_true] at c34
      refine AW.ifBT rfl (by first | (rw [c34]; rfl) | simp_all) <| AW.sX [2, 3] ?_
      refine AW.ent (Ent.w (FrW.put1 (d := 2) Weak.nil)) ?_
      refine AW.ret <| thenA_r ?_
      obtain rfl := oi h
      (simp only [go_sem, seval, c34, finA] <;> try simp)
    ·refine AW.sX [5, 68] ?_
     refine AW.ifBT rfl rfl <| AW.rX [2, 3] ?_
     refine AW.ent (Ent.w (FrW.put1 (d := 2) Weak.nil)) ?_
     refine AW.ret <| thenA_r ?_
     obtain rfl := oi h
     (simp only [go_sem, seval, finA] <;> try simp)
   ·refine AW.ifT rfl c30 <| AW.re [2, 3] [0,1,3,7,0,31] ?_
    generalize hK : AW Tryz.prog _ _ _ = K
    simp only [go_sem, seval]
    subst hK
    refine AW.ent (Ent.w (FrW.put1 (d := 2) Weak.nil)) ?_
    refine AW.ret <| thenA_r ?_
    obtain rfl := oi h
    (simp only [go_sem, seval, finA] <;> try simp)
def f128_j9 (s1_0 : List Int) (s1_2 : Int) (j8_0 : Int) (j8_1 : Int) : Int → Option (((List Int) × Int × Int) ⊕ (((List Int) × Int × Int) ⊕ (Int × (List Int))))
  | j9_0 => (if 65536 ≤ ((s1_0.length : Nat) : Int) then some (.inr (.inl ([], 0, 9))) else (if 1048576 < j8_1 then some (.inr (.inl ([], 0, 9))) else (if 1048576 < (IntKind.i64.wrap ((IntKind.i64.wrap (j9_0 + 1)) + (IntKind.i64.wrap j8_1))) then some (.inr (.inl ([], 0, 9))) else ((appO? s1_0 [IntKind.i64.wrap ((IntKind.i64.wrap (j9_0 + 1)) + (IntKind.i64.wrap j8_1))]).bind fun x57 => some (.inl (x57, j8_0, IntKind.i64.wrap (s1_2 + 1)))))))
def f128_j8 (s1_0 : List Int) (s1_2 : Int) : Int × Int → Option (((List Int) × Int × Int) ⊕ (((List Int) × Int × Int) ⊕ (Int × (List Int))))
  | (j8_0, j8_1) => (if 0 < ((s1_0.length : Nat) : Int) then ((ix s1_0 (IntKind.i64.wrap (((s1_0.length : Nat) : Int) - 1))).bind fun x59 => f128_j9 s1_0 s1_2 j8_0 j8_1 x59) else f128_j9 s1_0 s1_2 j8_0 j8_1 (-1))
def f128_j7 (a0 : List Int) (x1 : Int × Int × Int) (s1_0 : List Int) (s1_1 : Int) (s1_2 : Int) : Int → Option (((List Int) × Int × Int) ⊕ (((List Int) × Int × Int) ⊕ (Int × (List Int))))
  | j7_0 => (if (x1.1.tmod 2) = 0 then ((f99 a0 s1_1).bind fun x61 => (if x61.2.2 = 0 then f128_j8 s1_0 s1_2 (x61.2.1, x61.1) else some (.inr (.inl ([], 0, x61.2.2))))) else f128_j8 s1_0 s1_2 (s1_1, j7_0))
def f128_s1 (a0 : List Int) (x1 : Int × Int × Int) (j1_1 : Int) (j1_2 : Int) : (List Int) × Int × Int → Option (((List Int) × Int × Int) ⊕ (((List Int) × Int × Int) ⊕ (Int × (List Int))))
  | (s1_0, s1_1, s1_2) => (if s1_2 < (IntKind.i64.wrap (IntKind.u64.wrap (x1.1.tdiv 2))) then (if s1_2 = 0 then f128_j7 a0 x1 s1_0 s1_1 s1_2 j1_1 else f128_j7 a0 x1 s1_0 s1_1 s1_2 j1_2) else some (.inr (.inr (s1_1, s1_0))))
def f128_j1 (a0 : List Int) (a2 : List Int) (x1 : Int × Int × Int) : Int × Int × Int → Option ((List Int) × Int × Int)
  | (j1_0, j1_1, j1_2) => ((loopO (f128_s1 a0 x1 j1_1 j1_2) (a2, j1_0, 0)).bind fun y64 => match y64 with | .inl y65 => some y65 | .inr (y66, y67) => some (y67, y66, 0))
def f128 (a0 : List Int) (a1 : Int) (a2 : List Int) : Option ((List Int) × Int × Int) := ((f99 a0 a1).bind fun x1 => (if x1.2.2 = 0 then (if 65536 < (IntKind.u64.wrap (x1.1.tdiv 2)) then some ([], 0, 9) else (if (x1.1.tmod 2) = 1 then ((f99 a0 x1.2.1).bind fun x69 => (if x69.2.2 = 0 then ((f99 a0 x69.2.1).bind fun x72 => (if x72.2.2 = 0 then f128_j1 a0 a2 x1 (x72.2.1, x69.1, x72.1) else some ([], 0, x72.2.2))) else some ([], 0, x69.2.2))) else f128_j1 a0 a2 x1 (x1.2.1, 0, 0))) else some ([], 0, x1.2.2)))
theorem ok128 (a0 : List Int) (a1 : Int) (a2 : List Int) (r : (List Int) × Int × Int) (h : f128 a0 a1 a2 = some r) : IC Tryz.prog 128 [some (.row 1 true (List.map enc3 a2))] [.sl (List.map enc5 a0), .val (.int .i64 a1), .own 0 0 a2.length] (.tup [.own 8 0 r.1.length, .val (.int .i64 r.2.1), .val (.int .i64 r.2.2)]) [] [some (.row 1 true (List.map enc3 r.1))] := by
 rw [f128] at h
 refine ic_of (N := 112) (rs := [.tmp 6, .tmp 7, .tmp 8]) Tryz.func128 rfl rfl rfl (Nat.le_of_ble_eq_true rfl) <| AW.sX [0, 1, 2] ?_
 obtain ⟨x1, hx1, h⟩ := bO h
 refine AW.rC [0, 2, 9, 10, 11] (ok99 a0 a1 x1 hx1) Tryz.call99 ?_
 refine AW.seq <| AW.sX [0, 2, 9, 10, 11, 26] ?_
 rcases iteO h with ⟨c3, h⟩ | ⟨c3, h⟩
 ·refine AW.ifF rfl (fun q => q c3) ?_
  refine AW.skip <| thenA_n <| AW.tX [0, 2, 9, 10, 12] ?_
  refine AW.seq <| AW.tX [0, 2, 9, 10, 12, 31] ?_
  rcases iteO h with ⟨c5, h⟩ | ⟨c5, h⟩
  ·refine AW.ifT rfl c5 <| AW.sX [6, 7, 8] ?_
   refine AW.ent (Ent.nilOwn 6 1 (by decide) rfl) ?_
   refine AW.ent (st' := ⟨(upd (upd (upd anyF 6 (.own 8 0 0)) 7 (.val (.int .i64 0))) 8 (.val (.int .i64 9))), hpL [] [some (.row 1 true [])], 9⟩) ?_ ?_
   · refine Ent.can [192] _ _ _ rfl (by first | decide | simp) rfl ?_ ?_ ?_
     · exact RF.any.qo.qv.qv
     · exact .nil _
     · exact .ce (.nil _)
   refine AW.ret <| thenA_r ?_
   obtain rfl := oi h
   exact ⟨rfl, rfl, _, rfl, by first | rfl | simp [resOf, upd_ap, bytesI_len]⟩
  ·refine AW.ifF rfl c5 <| AW.skip <| thenA_n <| AW.sX [0, 2, 9, 10, 12, 13, 14] ?_
   refine AW.join (fun s => ⟨(upd (upd (upd (upd (upd (upd (upd anyF 0 (.sl (List.map enc5 a0))) 2 (.own 8 0 a2.length)) 9 (.val (.int .u64 x1.1))) 10 (.val (.int .i64 s.1))) 12 (.val (.int .u64 (IntKind.u64.wrap (x1.1.tdiv 2))))) 13 (.val (.int .u64 s.2.1))) 14 (.val (.int .u64 s.2.2))), hpL [] [some (.row 1 true (List.map enc3 a2))], 9⟩) (fun s => f128_j1 a0 a2 x1 s = some r) ?_ ?_
   ·refine AW.tX [0, 2, 9, 10, 12, 13, 14, 34] ?_
    rcases iteO h with ⟨c68, h⟩ | ⟨c68, h⟩
    ·refine AW.ifT rfl c68 ?_
     obtain ⟨x69, hx69, h⟩ := bO h
     refine AW.rC [0, 2, 9, 10, 11, 12, 13] (ok99 a0 x1.2.1 x69 hx69) Tryz.call99 ?_
     refine AW.seq <| AW.sX [0, 2, 9, 10, 11, 12, 13, 43] ?_
     rcases iteO h with ⟨c71, h⟩ | ⟨c71, h⟩
     ·refine AW.ifF rfl (fun q => q c71) <| AW.skip <| thenA_n ?_
      obtain ⟨x72, hx72, h⟩ := bO h
      refine AW.rC [0, 2, 9, 10, 11, 12, 13, 14] (ok99 a0 x69.2.1 x72 hx72) Tryz.call99 ?_
      refine AW.sX [0, 2, 9, 10, 11, 12, 13, 14, 53] ?_
      rcases iteO h with ⟨c73, h⟩ | ⟨c73, h⟩
      ·refine AW.ifF rfl (fun q => q c73) <| AW.skip <| thenA_n ?_
       refine ⟨_, h, ?_⟩
       exact Ent.canq [0] RF.any.qv.qo.qv.qv.qv.qv.qv (.nil _) (.ce (.nil _))
      ·refine AW.ifT rfl c73 <| AW.sX [6, 7, 8] ?_
       refine AW.ent (Ent.nilOwn 6 1 (by decide) rfl) ?_
       refine AW.ent (st' := ⟨(upd (upd (upd anyF 6 (.own 8 0 0)) 7 (.val (.int .i64 0))) 8 (.val (.int .i64 x72.2.2))), hpL [] [some (.row 1 true [])], 9⟩) ?_ ?_
       · refine Ent.can [432] _ _ _ rfl (by first | decide | simp) rfl ?_ ?_ ?_
         · exact RF.any.qo.qv.qv
         · exact .nil _
         · exact .ce (.nil _)
       refine AW.ret <| thenA_r ?_
       obtain rfl := oi h
       exact ⟨rfl, rfl, _, rfl, by first | rfl | simp [resOf, upd_ap, bytesI_len]⟩
     ·refine AW.ifT rfl c71 <| AW.sX [6, 7, 8] ?_
      refine AW.ent (Ent.nilOwn 6 1 (by decide) rfl) ?_
      refine AW.ent (st' := ⟨(upd (upd (upd anyF 6 (.own 8 0 0)) 7 (.val (.int .i64 0))) 8 (.val (.int .i64 x69.2.2))), hpL [] [some (.row 1 true [])], 9⟩) ?_ ?_
      · refine Ent.can [336] _ _ _ rfl (by first | decide | simp) rfl ?_ ?_ ?_
        · exact RF.any.qo.qv.qv
        · exact .nil _
        · exact .ce (.nil _)
      refine AW.ret <| thenA_r <| thenA_r ?_
      obtain rfl := oi h
      exact ⟨rfl, rfl, _, rfl, by first | rfl | simp [resOf, upd_ap, bytesI_len]⟩
    ·refine AW.ifF rfl c68 <| AW.skip <| thenA_n ?_
     refine ⟨_, h, ?_⟩
     exact Ent.canq [0] RF.any.qv.qo.qv.qv.qv.qv.qv (.nil _) (.ce (.nil _))
   ·clear h
    rintro ⟨j1_0, j1_1, j1_2⟩ h
    rw [f128_j1] at h
    refine AW.seq <| AW.sX [0, 2, 9, 10, 12, 13, 14, 15] ?_
    refine AW.block ?_
    obtain ⟨y64, hy64, h⟩ := bO h
    refine AW.loopO (fun s => ⟨(upd (upd (upd (upd (upd (upd (upd (upd anyF 0 (.sl (List.map enc5 a0))) 2 (.own 8 0 s.1.length)) 9 (.val (.int .u64 x1.1))) 10 (.val (.int .i64 s.2.1))) 12 (.val (.int .u64 (IntKind.u64.wrap (x1.1.tdiv 2))))) 13 (.val (.int .u64 j1_1))) 14 (.val (.int .u64 j1_2))) 15 (.val (.int .i64 s.2.2))), hpL [] [some (.row 1 true (List.map enc3 s.1))], 9⟩) (fun y e st' => match y with | .inl z => e = Exit.ret ∧ finI Tryz.prog [.tmp 6, .tmp 7, .tmp 8] (.tup [.own 8 0 z.1.length, .val (.int .i64 z.2.1), .val (.int .i64 z.2.2)]) [] [some (.row 1 true (List.map enc3 z.1))] .ret st' | .inr z => e = Exit.exit 0 ∧ st' = ⟨(upd (upd anyF 2 (.own 8 0 z.2.length)) 10 (.val (.int .i64 z.1))), hpL [] [some (.row 1 true (List.map enc3 z.2))], 9⟩) hy64 ?_ ?_ ?_
    ·exact Ent.canq [8] RF.any.qv.qo.qv.qv.qv.qv.qv.qv (.nil _) (.ce (.nil _))
    ·clear h hy64
     rintro ⟨s1_0, s1_1, s1_2⟩ x h
     rw [f128_s1] at h
     refine AW.seq <| AW.sX [0, 2, 9, 10, 12, 13, 14, 15, 58] ?_
     rcases iteO h with ⟨c47, h⟩ | ⟨c47, h⟩
     ·refine AW.ifT rfl c47 <| AW.skip <| thenA_n <| AW.seq <| AW.block <| AW.sX [0, 2, 9, 10, 12, 13, 14, 15, 16] ?_
      refine AW.join (fun s => ⟨(upd (upd (upd (upd (upd (upd (upd (upd (upd anyF 0 (.sl (List.map enc5 a0))) 2 (.own 8 0 s1_0.length)) 9 (.val (.int .u64 x1.1))) 10 (.val (.int .i64 s1_1))) 12 (.val (.int .u64 (IntKind.u64.wrap (x1.1.tdiv 2))))) 13 (.val (.int .u64 j1_1))) 14 (.val (.int .u64 j1_2))) 15 (.val (.int .i64 s1_2))) 16 (.val (.int .u64 s))), hpL [] [some (.row 1 true (List.map enc3 s1_0))], 9⟩) (fun s => f128_j7 a0 x1 s1_0 s1_1 s1_2 s = some x) ?_ ?_
      ·refine AW.tX [0, 2, 9, 10, 12, 13, 14, 15, 16, 63] ?_
       rcases iteO h with ⟨c63, h⟩ | ⟨c63, h⟩
       ·refine AW.ifT rfl c63 <| AW.sY [0, 2, 9, 10, 12, 13, 14, 15, 16] ?_
        refine thenA_n ?_
        refine ⟨_, h, ?_⟩
        exact Ent.canq [8] RF.any.qv.qo.qv.qv.qv.qv.qv.qv.qv (.nil _) (.ce (.nil _))
       ·refine AW.ifF rfl c63 <| AW.skip <| thenA_n ?_
        refine ⟨_, h, ?_⟩
        exact Ent.canq [8] RF.any.qv.qo.qv.qv.qv.qv.qv.qv.qv (.nil _) (.ce (.nil _))
      ·clear h
       rintro j7_0 h
       rw [f128_j7] at h
       refine AW.join (fun s => ⟨(upd (upd (upd (upd (upd (upd (upd (upd (upd anyF 0 (.sl (List.map enc5 a0))) 2 (.own 8 0 s1_0.length)) 9 (.val (.int .u64 x1.1))) 10 (.val (.int .i64 s.1))) 12 (.val (.int .u64 (IntKind.u64.wrap (x1.1.tdiv 2))))) 13 (.val (.int .u64 j1_1))) 14 (.val (.int .u64 j1_2))) 15 (.val (.int .i64 s1_2))) 16 (.val (.int .u64 s.2))), hpL [] [some (.row 1 true (List.map enc3 s1_0))], 9⟩) (fun s => f128_j8 s1_0 s1_2 s = some x) ?_ ?_
       ·refine AW.tX [0, 2, 9, 10, 12, 13, 14, 15, 16, 67] ?_
        rcases iteO h with ⟨c60, h⟩ | ⟨c60, h⟩
        ·refine AW.ifT rfl c60 ?_
         obtain ⟨x61, hx61, h⟩ := bO h
         refine AW.rC [0, 2, 9, 10, 11, 12, 13, 14, 15, 16] (ok99 a0 s1_1 x61 hx61) Tryz.call99 ?_
         refine AW.sX [0, 2, 9, 10, 11, 12, 13, 14, 15, 16, 76] ?_
         rcases iteO h with ⟨c62, h⟩ | ⟨c62, h⟩
         ·refine AW.ifF rfl (fun q => q c62) <| AW.skip <| thenA_n ?_
          refine ⟨_, h, ?_⟩
          exact Ent.canq [8] RF.any.qv.qo.qv.qv.qv.qv.qv.qv.qv (.nil _) (.ce (.nil _))
         ·refine AW.ifT rfl c62 <| AW.sX [6, 7, 8] ?_
          refine AW.ent (Ent.nilOwn 6 1 (by decide) rfl) ?_
          refine AW.ent (st' := ⟨(upd (upd (upd anyF 6 (.own 8 0 0)) 7 (.val (.int .i64 0))) 8 (.val (.int .i64 x61.2.2))), hpL [] [some (.row 1 true [])], 9⟩) ?_ ?_
          · refine Ent.can [161] _ _ _ rfl (by first | decide | simp) rfl ?_ ?_ ?_
            · exact RF.any.qo.qv.qv
            · exact .nil _
            · exact .ce (.nil _)
          refine AW.ret <| thenA_r <| block_r <| thenA_r <| thenA_r ?_
          refine ⟨_, oj h, _, Ent.refl, rfl, ?_⟩
          exact ⟨rfl, rfl, _, rfl, by first | rfl | simp [resOf, upd_ap, bytesI_len]⟩
        ·refine AW.ifF rfl c60 <| AW.skip <| thenA_n ?_
         refine ⟨_, h, ?_⟩
         exact Ent.canq [8] RF.any.qv.qo.qv.qv.qv.qv.qv.qv.qv (.nil _) (.ce (.nil _))
       ·clear h
        rintro ⟨j8_0, j8_1⟩ h
        rw [f128_j8] at h
        refine AW.tX [0, 2, 9, 10, 12, 13, 14, 15, 16, 17] ?_
        refine AW.join (fun s => ⟨(upd (upd (upd (upd (upd (upd (upd (upd (upd (upd anyF 0 (.sl (List.map enc5 a0))) 2 (.own 8 0 s1_0.length)) 9 (.val (.int .u64 x1.1))) 10 (.val (.int .i64 j8_0))) 12 (.val (.int .u64 (IntKind.u64.wrap (x1.1.tdiv 2))))) 13 (.val (.int .u64 j1_1))) 14 (.val (.int .u64 j1_2))) 15 (.val (.int .i64 s1_2))) 16 (.val (.int .u64 j8_1))) 17 (.val (.int .i64 s))), hpL [] [some (.row 1 true (List.map enc3 s1_0))], 9⟩) (fun s => f128_j9 s1_0 s1_2 j8_0 j8_1 s = some x) ?_ ?_
        ·refine AW.tX [0, 2, 9, 10, 12, 13, 14, 15, 16, 17, 80] ?_
         rcases iteO h with ⟨c58, h⟩ | ⟨c58, h⟩
         ·refine AW.ifT rfl c58 ?_
          obtain ⟨x59, hx59, h⟩ := bO h
          obtain ⟨hx59a, hx59b⟩ := ix_some.1 hx59
          refine AW.rL [0, 2, 9, 10, 12, 13, 14, 15, 16, 17] fun K hK => ?_
          simp only [go_sem, seval, natOf_le hx59a, hx59b, ix_lt hx59b]
          subst hK
          refine thenA_n ?_
          refine ⟨_, h, ?_⟩
          exact Ent.canq [8] RF.any.qv.qo.qv.qv.qv.qv.qv.qv.qv.qv (.nil _) (.ce (.nil _))
         ·refine AW.ifF rfl c58 <| AW.skip <| thenA_n ?_
          refine ⟨_, h, ?_⟩
          exact Ent.canq [8] RF.any.qv.qo.qv.qv.qv.qv.qv.qv.qv.qv (.nil _) (.ce (.nil _))
        ·clear h
         rintro j9_0 h
         rw [f128_j9] at h
         refine AW.seq ?_
         rcases iteO h with ⟨c54, h⟩ | ⟨c54, h⟩
         ·refine AW.sX [0, 2, 9, 10, 12, 13, 14, 15, 16, 17, 101] ?_
          refine AW.ifBT rfl rfl <| AW.sX [6, 7, 8] ?_
          refine AW.ent (Ent.nilOwn 6 1 (by decide) rfl) ?_
          refine AW.ent (st' := ⟨(upd (upd (upd anyF 6 (.own 8 0 0)) 7 (.val (.int .i64 0))) 8 (.val (.int .i64 9))), hpL [] [some (.row 1 true [])], 9⟩) ?_ ?_
          · refine Ent.can [153] _ _ _ rfl (by first | decide | simp) rfl ?_ ?_ ?_
            · exact RF.any.qo.qv.qv
            · exact .nil _
            · exact .ce (.nil _)
          refine AW.ret <| thenA_r <| block_r <| thenA_r <| thenA_r ?_
          refine ⟨_, oj h, _, Ent.refl, rfl, ?_⟩
          exact ⟨rfl, rfl, _, rfl, by first | rfl | simp [resOf, upd_ap, bytesI_len]⟩
         ·rcases iteO h with ⟨c55, h⟩ | ⟨c55, h⟩
          ·refine AW.sX [0, 2, 9, 10, 12, 13, 14, 15, 16, 17, 101] ?_
           refine AW.ifBT rfl rfl <| AW.sX [6, 7, 8] ?_
           refine AW.ent (Ent.nilOwn 6 1 (by decide) rfl) ?_
           refine AW.ent (st' := ⟨(upd (upd (upd anyF 6 (.own 8 0 0)) 7 (.val (.int .i64 0))) 8 (.val (.int .i64 9))), hpL [] [some (.row 1 true [])], 9⟩) ?_ ?_
           · refine Ent.can [153] _ _ _ rfl (by first | decide | simp) rfl ?_ ?_ ?_
             · exact RF.any.qo.qv.qv
             · exact .nil _
             · exact .ce (.nil _)
           refine AW.ret <| thenA_r <| block_r <| thenA_r <| thenA_r ?_
           refine ⟨_, oj h, _, Ent.refl, rfl, ?_⟩
           exact ⟨rfl, rfl, _, rfl, by first | rfl | simp [resOf, upd_ap, bytesI_len]⟩
          ·refine AW.sX [0, 2, 9, 10, 12, 13, 14, 15, 16, 17, 101] ?_
           rcases iteO h with ⟨c56, h⟩ | ⟨c56, h⟩
           ·refine AW.ifT rfl c56 <| AW.sX [6, 7, 8] ?_
            refine AW.ent (Ent.nilOwn 6 1 (by decide) rfl) ?_
            refine AW.ent (st' := ⟨(upd (upd (upd anyF 6 (.own 8 0 0)) 7 (.val (.int .i64 0))) 8 (.val (.int .i64 9))), hpL [] [some (.row 1 true [])], 9⟩) ?_ ?_
            · refine Ent.can [153] _ _ _ rfl (by first | decide | simp) rfl ?_ ?_ ?_
              · exact RF.any.qo.qv.qv
              · exact .nil _
              · exact .ce (.nil _)
            refine AW.ret <| thenA_r <| block_r <| thenA_r <| thenA_r ?_
            refine ⟨_, oj h, _, Ent.refl, rfl, ?_⟩
            exact ⟨rfl, rfl, _, rfl, by first | rfl | simp [resOf, upd_ap, bytesI_len]⟩
           ·refine AW.ifF rfl c56 <| AW.skip <| thenA_n ?_
            obtain ⟨x57, hx57, h⟩ := bO h
            obtain ⟨hx57b, hx57e⟩ := appO?_some.1 hx57
            have hx57f : ∀ id o : Nat, appO 1 8 id ([[.val (.int .i64 (IntKind.i64.wrap ((IntKind.i64.wrap (j9_0 + 1)) + (IntKind.i64.wrap j8_1))))]]) 0 s1_0.length o (some (.row 1 true (List.map enc3 s1_0))) = some ⟨.own id 0 x57.length, [(o, none), (id, some (.row 1 true (List.map enc3 x57)))]⟩ := fun id o => by
              subst hx57e; rw [appO_ok (by simp) (by simpa using hx57b) (by decide)]; first | (simp [enc3]; done) | (simp [enc3]; omega)
            refine AW.sY [0, 2, 9, 10, 12, 13, 14, 15] ?_
            refine block_n <| thenA_n <| AW.sY [0, 2, 9, 10, 12, 13, 14, 15] ?_
            refine thenA_n ?_
            refine ⟨_, oj h, ?_⟩
            exact Ent.canq [185] RF.any.qv.qo.qv.qv.qv.qv.qv.qv (.nil _) (.ce (.nil _))
     ·refine AW.ifF rfl c47 <| AW.exit <| thenA_x <| thenA_x ?_
      refine ⟨_, oj h, _, ?_, rfl, rfl⟩
      exact Ent.canq [8] RF.any.qo.qv (.nil _) (.ce (.nil _))
    ·intro e st' hX
     rcases y64 with y65 | ⟨y66, y67⟩ <;> dsimp only at h hX
     ·obtain ⟨rfl, hf⟩ := hX
      refine ⟨_, Ent.refl, ?_⟩
      refine block_r <| thenA_r ?_
      obtain rfl := oi h
      exact hf
     ·obtain ⟨rfl, rfl⟩ := hX
      refine ⟨_, Ent.refl, ?_⟩
      refine block_x <| thenA_n <| AW.sX [6, 7, 8] ?_
      refine AW.ent (st' := ⟨(upd (upd (upd anyF 6 (.own 8 0 y67.length)) 7 (.val (.int .i64 y66))) 8 (.val (.int .i64 0))), hpL [] [some (.row 1 true (List.map enc3 y67))], 9⟩) ?_ ?_
      · refine Ent.can [8] _ _ _ rfl (by first | decide | simp) rfl ?_ ?_ ?_
        · exact RF.any.qo.qv.qv
        · exact .nil _
        · exact .ce (.nil _)
      refine AW.ret ?_
      obtain rfl := oi h
      exact ⟨rfl, rfl, _, rfl, by first | rfl | simp [resOf, upd_ap, bytesI_len]⟩
 ·refine AW.ifT rfl c3 <| AW.sX [6, 7, 8] ?_
  refine AW.ent (Ent.nilOwn 6 1 (by decide) rfl) ?_
  refine AW.ent (st' := ⟨(upd (upd (upd anyF 6 (.own 8 0 0)) 7 (.val (.int .i64 0))) 8 (.val (.int .i64 x1.2.2))), hpL [] [some (.row 1 true [])], 9⟩) ?_ ?_
  · refine Ent.can [160] _ _ _ rfl (by first | decide | simp) rfl ?_ ?_ ?_
    · exact RF.any.qo.qv.qv
    · exact .nil _
    · exact .ce (.nil _)
  refine AW.ret <| thenA_r ?_
  obtain rfl := oi h
  exact ⟨rfl, rfl, _, rfl, by first | rfl | simp [resOf, upd_ap, bytesI_len]⟩
def f103_s2 (a0 : List Int) (x1 : Int × Int × Int) : Int × (List Int) × Int → Option ((Int × (List Int) × Int) ⊕ (((List Int) × Int) ⊕ (Int × (List Int))))
  | (s2_0, s2_1, s2_2) => (if s2_2 < x1.1 then ((f128 a0 s2_0 s2_1).bind fun x26 => (if x26.2.2 = 0 then some (.inl (x26.2.1, x26.1, IntKind.u64.wrap (s2_2 + 1))) else some (.inr (.inl ([], x26.2.2))))) else some (.inr (.inr (s2_0, s2_1))))
def f103 (a0 : List Int) : Option ((List Int) × Int) := ((f99 a0 0).bind fun x1 => (if x1.2.2 = 0 then ((loopO (f103_s2 a0 x1) (x1.2.1, [], 0)).bind fun y28 => match y28 with | .inl y29 => some y29 | .inr (y30, y31) => (if y30 < (a0.length : Int) then some ([], 3) else ((f52 y31).bind fun x33 => (if (strOfNums x33) = (strOfNums a0) then some (y31, 0) else some ([], 3))))) else some ([], x1.2.2)))
theorem ok103 (a0 : List Int) (r : (List Int) × Int) (h : f103 a0 = some r) : PC Tryz.prog 103 [.sl (List.map enc5 a0)] (.tup [.sl (List.map enc3 r.1), .val (.int .i64 r.2)]) := by
 rw [f103] at h
 refine pc_of9 (N := 52) (rs := [.tmp 2, .tmp 3]) Tryz.func103 ?_
 refine AW.rX [0] ?_
 obtain ⟨x1, hx1, h⟩ := bO h
 refine AW.rC [0, 4, 5, 6] (ok99 a0 0 x1 hx1) Tryz.call99 ?_
 refine AW.seq <| AW.rX [0, 4, 5, 6, 19] ?_
 rcases iteO h with ⟨c3, h⟩ | ⟨c3, h⟩
 ·refine AW.ifF rfl (fun q => q c3) ?_
  refine AW.skip <| thenA_n <| AW.rX [0, 4, 5, 7] ?_
  refine AW.seq <| AW.rX [0, 4, 5, 7, 8] ?_
  refine AW.block ?_
  obtain ⟨y28, hy28, h⟩ := bO h
  refine AW.loopO (fun s => ⟨(upd (upd (upd (upd (upd anyF 0 (.sl (List.map enc5 a0))) 4 (.val (.int .u64 x1.1))) 5 (.val (.int .i64 s.1))) 7 (.own 8 0 s.2.1.length)) 8 (.val (.int .u64 s.2.2))), hpL [] [some (.row 1 true (List.map enc3 s.2.1))], 9⟩) (fun y e st' => match y with | .inl z => e = Exit.ret ∧ finA Tryz.prog [.tmp 2, .tmp 3] (.tup [.sl (List.map enc3 z.1), .val (.int .i64 z.2)]) .ret st' | .inr z => e = Exit.exit 0 ∧ st' = ⟨(upd (upd (upd anyF 0 (.sl (List.map enc5 a0))) 5 (.val (.int .i64 z.1))) 7 (.own 8 0 z.2.length)), hpL [] [some (.row 1 true (List.map enc3 z.2))], 9⟩) hy28 ?_ ?_ ?_
  ·refine Ent.trans (Ent.nilOwn 7 1 (by decide) rfl) ?_
   exact Ent.canq [128] RF.any.qv.qv.qv.qo.qv (.nil _) (.ce (.nil _))
  ·clear h hy28
   rintro ⟨s2_0, s2_1, s2_2⟩ x h
   rw [f103_s2] at h
   refine AW.seq <| AW.rX [0, 4, 5, 7, 8, 23] ?_
   rcases iteO h with ⟨c25, h⟩ | ⟨c25, h⟩
   ·refine AW.ifT rfl c25 <| AW.skip <| thenA_n <| AW.seq <| AW.block ?_
    obtain ⟨x26, hx26, h⟩ := bO h
    refine AW.rK [0, 4, 8, 9, 10, 11] fun K hK => ?_
    simp only [go_sem, seval]
    refine arC.ok (CallOk.icr (us' := _) (ok128 a0 s2_0 s2_1 x26 hx26) [8] (.cons (.eq (by simp only [go_sem]) (by first | rfl | simp [upd_ap, hpL_ap, sg_ap])) (.nil _)) (.cons (.of rfl) (.cons (.of rfl) (.cons (.of (by first | rfl | simp [mapT_own, sg_ap, eq_true c3, eq_true c25])) .nil)))) Tryz.call128 ?_
    simp only [go_sem, seval]
    subst hK
    refine AW.seq <| AW.rX [0, 4, 8, 9, 10, 11, 35] ?_
    rcases iteO h with ⟨c27, h⟩ | ⟨c27, h⟩
    ·refine AW.ifF rfl (fun q => q c27) <| AW.skip <| thenA_n <| AW.rY [0, 4, 5, 7, 8] ?_
     refine block_n <| thenA_n <| AW.rY [0, 4, 5, 7, 8] ?_
     refine thenA_n ?_
     refine ⟨_, oj h, ?_⟩
     exact Ent.canq [57] RF.any.qv.qv.qv.qo.qv (.nil _) (.ce (.nil _))
    ·refine AW.ifT rfl c27 <| AW.rX [2, 3] ?_
     refine AW.ent (Ent.w (FrW.put1 (d := 2) Weak.nil)) ?_
     refine AW.ret <| thenA_r <| block_r <| thenA_r <| thenA_r ?_
     refine ⟨_, oj h, _, Ent.refl, rfl, ?_⟩
     (simp only [go_sem, seval, finA] <;> try simp)
   ·refine AW.ifF rfl c25 <| AW.exit <| thenA_x <| thenA_x ?_
    refine ⟨_, oj h, _, ?_, rfl, rfl⟩
    exact Ent.canq [8] RF.any.qv.qv.qo (.nil _) (.ce (.nil _))
  ·intro e st' hX
   rcases y28 with y29 | ⟨y30, y31⟩ <;> dsimp only at h hX
   ·obtain ⟨rfl, hf⟩ := hX
    refine ⟨_, Ent.refl, ?_⟩
    refine block_r <| thenA_r ?_
    obtain rfl := oi h
    exact hf
   ·obtain ⟨rfl, rfl⟩ := hX
    refine ⟨_, Ent.refl, ?_⟩
    refine block_x <| thenA_n <| AW.seq ?_
    rcases iteO h with ⟨c32, h⟩ | ⟨c32, h⟩
    ·refine AW.re [7, 50] [0,0,2,7,15,31,63,127,31,287,1023,2047] ?_
     generalize hK : AW Tryz.prog _ _ _ = K
     simp only [go_sem, seval, eq_true c3, eq_true c32]
     subst hK
     refine AW.ifBT rfl rfl <| AW.rX [2, 3] ?_
     refine AW.ent (Ent.w (FrW.put1 (d := 2) Weak.nil)) ?_
     refine AW.ret <| thenA_r ?_
     obtain rfl := oi h
     (simp only [go_sem, seval, finA] <;> try simp)
    ·obtain ⟨x33, hx33, h⟩ := bO h
     refine AW.rG [7, 50] [0,0,2,7,15,31,63,127,31,287,1023,2047] (ok52 y31 x33 hx33) Tryz.call52 ?_
     generalize hK : AW Tryz.prog _ _ _ = K
     simp only [go_sem, seval, eq_true c3, eq_false c32, byteNums_map (enc := enc5) (fun _ => rfl)]
     subst hK
     rcases iteO h with ⟨c34, h⟩ | ⟨c34, h⟩
     ·refine AW.ifF rfl (fun q => q c34) <| AW.skip <| thenA_n <| AW.rX [2, 3] ?_
      refine AW.ent (Ent.still 2 rfl (own_sl (sz := 1) (m := false) rfl (by first | rfl | (simp [bytesI_len]; done) | (simp [bytesI_len]; omega)) (by simp only [go_sem]))) ?_
      refine AW.ret ?_
      obtain rfl := oi h
      (simp only [go_sem, seval, eq_true c3, eq_false c32, eq_true c34, finA] <;> try simp)
     ·refine AW.ifT rfl c34 <| AW.rX [2, 3] ?_
      refine AW.ent (Ent.w (FrW.put1 (d := 2) Weak.nil)) ?_
      refine AW.ret <| thenA_r ?_
      obtain rfl := oi h
      (simp only [go_sem, seval, finA] <;> try simp)
 ·refine AW.ifT rfl c3 <| AW.rX [2, 3] ?_
  refine AW.ent (Ent.w (FrW.put1 (d := 2) Weak.nil)) ?_
  refine AW.ret <| thenA_r ?_
  obtain rfl := oi h
  (simp only [go_sem, seval, finA] <;> try simp)
def cap (v : Int) : Int := if v < 1099511627776 then v else 1099511627776
theorem cap_rng {v : Int} (h : 0 ≤ v) : 0 ≤ cap v ∧ cap v ≤ 1099511627776 := by unfold cap; split <;> omega
theorem cap_wrap {v : Int} (h : 0 ≤ v) : IntKind.i64.wrap (minI v 1099511627776) = cap v := by
 have e : minI v 1099511627776 = cap v := by unfold minI cap; split <;> split <;> omega
 rw [e]; have := cap_rng h; exact i64_id (by omega) (by omega)
def la (l : List Int) : Int := l.getLast?.getD (-1)
theorem la_ix {l : List Int} (h : 0 < l.length) (hl : l.length ≤ 1000000) : ix l (IntKind.i64.wrap ((l.length : Int) - 1)) = some (la l) := by
 rw [wrapM h (by omega), ixN (by omega : l.length - 1 < l.length)]
 simp [la, List.getLast?_eq_getElem?, show l.length - 1 < l.length by omega]
theorem la_rng {l : List Int} (h : RightN l) : -1 ≤ la l ∧ la l ≤ 1048576 := by
 by_cases hn : l = []
 ·subst hn; exact ⟨by decide, by decide⟩
 ·have h0 : 0 < l.length := List.length_pos_iff.2 hn
  have := h.2 (l.length - 1) (by omega)
  have e : l.getD (l.length - 1) 0 = la l := by
   simp [la, List.getLast?_eq_getElem?, List.getD, show l.length - 1 < l.length by omega]
  simp only [numOk, decide_eq_true_eq, e] at this
  omega
theorem right_snoc {l : List Int} {x : Int} (h : RightN l) (hl : l.length < 65536) (hx : la l < x) (h0 : 0 ≤ x) (h1 : x ≤ 1048576) : RightN (l ++ [x]) := by
 refine ⟨by simp; omega, fun i hi => ?_⟩
 simp only [List.length_append, List.length_singleton] at hi
 have gd : ∀ j, j < l.length → (l ++ [x]).getD j 0 = l.getD j 0 := fun j hj => by simp [List.getD, List.getElem?_append_left hj]
 by_cases hlt : i < l.length
 ·have := h.2 i hlt
  simp only [numOk, decide_eq_true_eq] at this ⊢
  rw [gd i hlt]
  refine ⟨this.1, this.2.1, fun h0 => ?_⟩
  rw [gd (i - 1) (by omega)]; exact this.2.2 h0
 ·have e : i = l.length := by omega
  subst e
  have ex : (l ++ [x]).getD l.length 0 = x := by simp [List.getD]
  simp only [numOk, decide_eq_true_eq, ex]
  refine ⟨h0, h1, fun hp => ?_⟩
  rw [gd _ (by omega)]
  have e : l.getD (l.length - 1) 0 = la l := by
   simp [la, List.getLast?_eq_getElem?, List.getD, show l.length - 1 < l.length by omega]
  rw [e]; exact hx
theorem add_ok {b : List Int} {at_ : Int} {l : List Int} {v : Int} (h : RightN l) (h0 : 0 ≤ v) :
  (f176 ⟨b, at_, 0⟩ l (cap v) = some (l, ⟨b, at_, 9⟩) ∧ (65536 ≤ (l.length : Int) ∨ 1048576 < la l + 1 + v)) ∨
  (f176 ⟨b, at_, 0⟩ l (cap v) = some (l ++ [la l + 1 + v], ⟨b, at_, 0⟩) ∧ l.length < 65536 ∧ la l + 1 + v ≤ 1048576 ∧ RightN (l ++ [la l + 1 + v])) := by
 have hl := la_rng h
 have hc := cap_rng h0
 have w1 : IntKind.i64.wrap (la l + 1) = la l + 1 := i64_id (by omega) (by omega)
 have w2 : IntKind.i64.wrap (la l + 1 + cap v) = la l + 1 + cap v := i64_id (by omega) (by omega)
 have e : f176 ⟨b, at_, 0⟩ l (cap v) = f176_j1 ⟨b, at_, 0⟩ l (cap v) (la l) := by
  unfold f176
  by_cases hp : 0 < ((l.length : Nat) : Int)
  ·rw [if_pos hp, la_ix (by omega) (by have := h.1; omega)]; rfl
  ·rw [if_neg hp]
   have : l = [] := List.eq_nil_of_length_eq_zero (by omega)
   subst this; rfl
 rw [e]
 simp only [f176_j1, if_true, w1, w2]
 by_cases c1 : 65536 ≤ ((l.length : Nat) : Int)
 ·rw [if_pos c1]
  exact .inl ⟨by simp only [f176_j2, if_neg (show ¬ (9 : Int) = 0 by decide)], .inl c1⟩
 ·rw [if_neg c1]
  by_cases c2 : 1048576 < la l + 1 + cap v
  ·rw [if_pos c2]
   refine .inl ⟨by simp only [f176_j2, if_neg (show ¬ (9 : Int) = 0 by decide)], .inr ?_⟩
   unfold cap at c2; split at c2 <;> omega
  ·rw [if_neg c2]
   have e2 : cap v = v := by
    unfold cap at c2 ⊢
    by_cases hh : v < 1099511627776
    ·rw [if_pos hh]
    ·rw [if_neg hh] at c2; omega
   rw [e2] at c2 ⊢
   refine .inr ⟨?_, by omega, by omega, right_snoc h (by omega) (by omega) (by omega) (by omega)⟩
   simp only [f176_j2, if_true, e2 ▸ w2, w1, appO_ok' (l := l) (r := [la l + 1 + v]) (by omega) (by simp), Option.bind_some]
theorem add_bad {b : List Int} {at_ e : Int} {l : List Int} {v : Int} (h : l.length ≤ 1000000) (he : e ≠ 0) : f176 ⟨b, at_, e⟩ l v = some (l, ⟨b, at_, e⟩) := by
 have k : ∀ x, f176_j1 ⟨b, at_, e⟩ l v x = some (l, ⟨b, at_, e⟩) := fun x => by simp only [f176_j1, if_neg he, f176_j2]
 unfold f176
 by_cases hp : 0 < ((l.length : Nat) : Int)
 ·rw [if_pos hp, la_ix (by omega) h]; exact k _
 ·rw [if_neg hp]; exact k _
theorem ref_add {b : List Int} {at_ i v : Int} {l : List Int} (h : RightN l) (h0 : 0 ≤ v) (h1 : v < 18446744073709551616) (hi : 0 ≤ i ∧ i ≤ 1000000) :
  ((65536 ≤ (l.length : Int) ∨ 1048576 < la l + 1 + v) → f128_j8 l i (at_, v) = some (.inr (.inl ([], 0, 9)))) ∧
  (l.length < 65536 ∧ la l + 1 + v ≤ 1048576 → f128_j8 l i (at_, v) = some (.inl (l ++ [la l + 1 + v], at_, i + 1))) := by
 have hl := la_rng h
 have e : f128_j8 l i (at_, v) = f128_j9 l i at_ v (la l) := by
  simp only [f128_j8]
  by_cases hp : 0 < ((l.length : Nat) : Int)
  ·rw [if_pos hp, la_ix (by omega) (by have := h.1; omega)]; rfl
  ·rw [if_neg hp]
   have : l = [] := List.eq_nil_of_length_eq_zero (by omega)
   subst this; rfl
 rw [e]
 have w1 : IntKind.i64.wrap (la l + 1) = la l + 1 := i64_id (by omega) (by omega)
 simp only [f128_j9, w1]
 constructor
 ·intro hc
  by_cases c1 : 65536 ≤ ((l.length : Nat) : Int)
  ·rw [if_pos c1]
  ·rw [if_neg c1]
   by_cases c2 : 1048576 < v
   ·rw [if_pos c2]
   ·rw [if_neg c2]
    have w2 : IntKind.i64.wrap v = v := i64_id (by omega) (by omega)
    have w3 : IntKind.i64.wrap (la l + 1 + v) = la l + 1 + v := i64_id (by omega) (by omega)
    rw [w2, w3, if_pos (by omega)]
 ·rintro ⟨c1, c2⟩
  have w2 : IntKind.i64.wrap v = v := i64_id (by omega) (by omega)
  have w3 : IntKind.i64.wrap (la l + 1 + v) = la l + 1 + v := i64_id (by omega) (by omega)
  have w4 : IntKind.i64.wrap (i + 1) = i + 1 := i64_id (by omega) (by omega)
  rw [if_neg (by omega), if_neg (by omega), w2, w3, if_neg (by omega), appO_ok' (by omega) (by simp), w4]
  rfl
theorem next_ok {b : List Int} (hb : Byt b) (hl : b.length ≤ 1000000) (at_ : Int) :
  (∃ v p, f165 ⟨b, at_, 0⟩ = some (cap v, ⟨b, p, 0⟩) ∧ f99 b at_ = some (v, p, 0) ∧ 0 ≤ v ∧ v < 18446744073709551616 ∧ 0 ≤ at_ ∧ at_ < p ∧ p ≤ b.length) ∨
  (∃ e, e ≠ 0 ∧ f165 ⟨b, at_, 0⟩ = some (0, ⟨b, 0, e⟩) ∧ f99 b at_ = some (0, 0, e)) := by
 obtain ⟨⟨v, p, e⟩, h1, h2, h3⟩ := uv_eq hb hl at_
 rcases h3 with ⟨q1, q2, q3, q4, q5, q6⟩ | ⟨q1, q2, q3⟩
 ·simp only at q1 q2 q3 q4 q5 q6
  subst q1
  exact .inl ⟨v, p, by simp only [f165, if_true, h1, Option.bind_some, cap_wrap q2], h2, q2, q3, q4, q5, q6⟩
 ·simp only at q1 q2 q3
  subst q2 q3
  refine .inr ⟨e, q1, ?_, h2⟩
  simp only [f165, if_true, h1, Option.bind_some, cap_wrap (show (0 : Int) ≤ 0 by decide)]
  rfl
theorem skip2 {x1 : Int × Reader} {b : List Int} {at_ e : Int} {l : List Int} (he : e ≠ 0) {n : Int} (hn : IntKind.i64.wrap (x1.1.tdiv 2) = n) (hn2 : n ≤ 65536) : ∀ (j : Nat) (i : Int), 0 ≤ i → n - i ≤ j → loopO (f166_s2 x1) (b, at_, e, l, i) = some (b, at_, e, l)
 | 0, i, h0, h => loopO_done (by simp only [f166_s2, hn]; rw [if_neg (by omega)])
 | j + 1, i, h0, h => by
  by_cases c : i < n
  ·refine (loopO_next (s' := (b, at_, e, l, i + 1)) ?_).trans (skip2 he hn hn2 j (i + 1) (by omega) (by omega))
   simp only [f166_s2, hn, if_pos c, if_neg he]
   rw [i64_id (by omega) (by omega)]
  ·exact loopO_done (by simp only [f166_s2, hn, if_neg c])
theorem even_loop {b : List Int} (hb : Byt b) (hl : b.length ≤ 1000000) {x1 : Int × Reader} {y1 : Int × Int × Int} {n j1 j2 : Int} (hn : IntKind.i64.wrap (x1.1.tdiv 2) = n) (hn2 : n ≤ 65536) (hy : IntKind.i64.wrap (IntKind.u64.wrap (y1.1.tdiv 2)) = n) (hev : y1.1.tmod 2 = 0) :
  ∀ (j : Nat) (i at_ : Int) (l : List Int), 0 ≤ i → n - i ≤ j → 0 ≤ at_ → at_ ≤ b.length → RightN l →
  ∃ at' e' l', loopO (f166_s2 x1) (b, at_, 0, l, i) = some (b, at', e', l') ∧ ((e' = 0 ∧ loopO (f128_s1 b y1 j1 j2) (l, at_, i) = some (.inr (at', l')) ∧ RightN l' ∧ at_ ≤ at' ∧ at' ≤ b.length) ∨ (e' ≠ 0 ∧ loopO (f128_s1 b y1 j1 j2) (l, at_, i) = some (.inl ([], 0, e'))))
 | j, i, at_, l, h0, h, ha, hal, hr => by
  by_cases c : i < n
  ·have er : ∀ q, f128_s1 b y1 j1 j2 (l, at_, i) = q ↔ f128_j7 b y1 l at_ i 0 = q := fun q => by
    simp only [f128_s1, hy, if_pos c]
    split <;> simp only [f128_j7, if_pos hev]
   have ej : f128_j7 b y1 l at_ i 0 = (f99 b at_).bind fun x61 => (if x61.2.2 = 0 then f128_j8 l i (x61.2.1, x61.1) else some (.inr (.inl ([], 0, x61.2.2)))) := by simp only [f128_j7, if_pos hev]
   rcases next_ok hb hl at_ with ⟨v, p, n1, n2, n3, n4, n5, n6, n7⟩ | ⟨e, n1, n2, n3⟩
   ·have ej2 : f128_j7 b y1 l at_ i 0 = f128_j8 l i (p, v) := by rw [ej, n2]; rfl
    obtain ⟨ra, rb⟩ := ref_add (b := b) (at_ := p) (i := i) hr n3 n4 ⟨h0, by omega⟩
    rcases add_ok (b := b) (at_ := p) hr n3 with ⟨a1, a2⟩ | ⟨a1, a2, a3, a4⟩
    ·refine ⟨p, 9, l, ?_, .inr ⟨by decide, loopO_done ((er _).2 (ej2.trans (ra a2)))⟩⟩
     refine (loopO_next (s' := (b, p, 9, l, i + 1)) ?_).trans (skip2 (by decide) hn hn2 n.toNat (i + 1) (by omega) (by omega))
     simp only [f166_s2, hn, if_pos c, if_true, n1, Option.bind_some, a1]
     rw [i64_id (by omega) (by omega)]
    ·cases j with
     | zero => omega
     | succ j =>
      obtain ⟨at', e', l', k1, k2⟩ := even_loop hb hl (j1 := j1) (j2 := j2) hn hn2 hy hev j (i + 1) p (l ++ [la l + 1 + v]) (by omega) (by omega) (by omega) n7 a4
      have s1 : f166_s2 x1 (b, at_, 0, l, i) = some (.inl (b, p, 0, l ++ [la l + 1 + v], i + 1)) := by
       simp only [f166_s2, hn, if_pos c, if_true, n1, Option.bind_some, a1]
       rw [i64_id (by omega) (by omega)]
      have s2 : f128_s1 b y1 j1 j2 (l, at_, i) = some (.inl (l ++ [la l + 1 + v], p, i + 1)) := (er _).2 (ej2.trans (rb ⟨a2, a3⟩))
      refine ⟨at', e', l', (loopO_next s1).trans k1, ?_⟩
      rcases k2 with ⟨q1, q2, q3, q4, q5⟩ | ⟨q1, q2⟩
      ·exact .inl ⟨q1, (loopO_next s2).trans q2, q3, by omega, q5⟩
      ·exact .inr ⟨q1, (loopO_next s2).trans q2⟩
   ·refine ⟨0, e, l, ?_, .inr ⟨n1, loopO_done ((er _).2 ?_)⟩⟩
    ·refine (loopO_next (s' := (b, 0, e, l, i + 1)) ?_).trans (skip2 n1 hn hn2 n.toNat (i + 1) (by omega) (by omega))
     simp only [f166_s2, hn, if_pos c, if_true, n2, Option.bind_some, add_bad (show l.length ≤ 1000000 by have := hr.1; omega) n1]
     rw [i64_id (by omega) (by omega)]
    ·rw [ej, n3]; simp only [Option.bind_some, if_neg n1]
  ·refine ⟨at_, 0, l, loopO_done ?_, .inl ⟨rfl, loopO_done ?_, hr, by omega, hal⟩⟩
   ·simp only [f166_s2, hn, if_neg c]
   ·simp only [f128_s1, hy, if_neg c]
theorem odd_loop {b : List Int} {x1 x46 x47 : Int × Reader} {y1 : Int × Int × Int} {n f s : Int} (hn : IntKind.i64.wrap (x1.1.tdiv 2) = n) (hn2 : n ≤ 65536) (hy : IntKind.i64.wrap (IntKind.u64.wrap (y1.1.tdiv 2)) = n) (hod : ¬ y1.1.tmod 2 = 0)
  (hf : x46.1 = cap f) (hs : x47.1 = cap s) (hf0 : 0 ≤ f ∧ f < 18446744073709551616) (hs0 : 0 ≤ s ∧ s < 18446744073709551616) {at_ : Int} :
  ∀ (j : Nat) (i : Int) (l : List Int), 0 ≤ i → n - i ≤ j → RightN l →
  ∃ e' l', loopO (f166_s3 x1 x46 x47) (b, at_, 0, l, i) = some (b, at_, e', l') ∧ ((e' = 0 ∧ loopO (f128_s1 b y1 f s) (l, at_, i) = some (.inr (at_, l')) ∧ RightN l') ∨ (e' ≠ 0 ∧ loopO (f128_s1 b y1 f s) (l, at_, i) = some (.inl ([], 0, e'))))
 | j, i, l, h0, h, hr => by
  by_cases c : i < n
  ·obtain ⟨g, g0, g1, er⟩ : ∃ g, (0 ≤ g ∧ g < 18446744073709551616) ∧ f166_s3 x1 x46 x47 (b, at_, 0, l, i) = ((f176 ⟨b, at_, 0⟩ l (cap g)).bind fun x68 => some (.inl (x68.2.b, x68.2.at_, x68.2.e, x68.1, IntKind.i64.wrap (i + 1)))) ∧ f128_s1 b y1 f s (l, at_, i) = f128_j8 l i (at_, g) := by
    by_cases hz : i = 0
    ·refine ⟨f, hf0, ?_, ?_⟩
     ·simp only [f166_s3, hn, if_pos c, if_true, if_pos hz, hf]
     ·simp only [f128_s1, hy, if_pos c, if_pos hz, f128_j7, if_neg hod]
    ·refine ⟨s, hs0, ?_, ?_⟩
     ·simp only [f166_s3, hn, if_pos c, if_true, if_neg hz, hs]
     ·simp only [f128_s1, hy, if_pos c, if_neg hz, f128_j7, if_neg hod]
   have w : IntKind.i64.wrap (i + 1) = i + 1 := i64_id (by omega) (by omega)
   obtain ⟨ra, rb⟩ := ref_add (b := b) (at_ := at_) (i := i) hr g0.1 g0.2 ⟨h0, by omega⟩
   rcases add_ok (b := b) (at_ := at_) hr g0.1 with ⟨a1, a2⟩ | ⟨a1, a2, a3, a4⟩
   ·refine ⟨9, l, ?_, .inr ⟨by decide, loopO_done (er.trans (ra a2))⟩⟩
    refine (loopO_next (s' := (b, at_, 9, l, i + 1)) (by rw [g1, a1, w]; rfl)).trans (loopO_done ?_)
    simp only [f166_s3, hn, if_neg (show ¬ (9 : Int) = 0 by decide)]
    split <;> rfl
   ·cases j with
    | zero => omega
    | succ j =>
     obtain ⟨e', l', k1, k2⟩ := odd_loop (b := b) (at_ := at_) hn hn2 hy hod hf hs hf0 hs0 j (i + 1) (l ++ [la l + 1 + g]) (by omega) (by omega) a4
     have s1 : f166_s3 x1 x46 x47 (b, at_, 0, l, i) = some (.inl (b, at_, 0, l ++ [la l + 1 + g], i + 1)) := by rw [g1, a1, w]; rfl
     have s2 : f128_s1 b y1 f s (l, at_, i) = some (.inl (l ++ [la l + 1 + g], at_, i + 1)) := er.trans (rb ⟨a2, a3⟩)
     refine ⟨e', l', (loopO_next s1).trans k1, ?_⟩
     rcases k2 with ⟨q1, q2, q3⟩ | ⟨q1, q2⟩
     ·exact .inl ⟨q1, (loopO_next s2).trans q2, q3⟩
     ·exact .inr ⟨q1, (loopO_next s2).trans q2⟩
  ·refine ⟨0, l, loopO_done ?_, .inl ⟨rfl, loopO_done ?_, hr⟩⟩
   ·simp only [f166_s3, hn, if_neg c]
   ·simp only [f128_s1, hy, if_neg c]
def f123 (a0 : List Int) (a1 : Int) : Option (Res × Int × Int) := ((f145 a0 a1 65536).bind fun x1 => (if x1.2.2 = 0 then ((f145 a0 x1.2.1 65536).bind fun x4 => (if x4.2.2 = 0 then ((f146 (bytesI x4.1)).bind fun x7 => some (⟨x1.1, ⟨#[]⟩, x7.1⟩, x4.2.1, x7.2)) else some (⟨⟨#[]⟩, ⟨#[]⟩, []⟩, 0, x4.2.2))) else some (⟨⟨#[]⟩, ⟨#[]⟩, []⟩, 0, x1.2.2)))
theorem ok123 (a0 : List Int) (a1 : Int) (r : Res × Int × Int) (h : f123 a0 a1 = some r) : PC Tryz.prog 123 [.sl (List.map enc5 a0), .val (.int .i64 a1)] (.tup [.agg (encRes r.1), .val (.int .i64 r.2.1), .val (.int .i64 r.2.2)]) := by
 rw [f123] at h
 refine pc_of9 (N := 43) (rs := [.cell 4 50, .tmp 5, .tmp 6]) Tryz.func123 ?_
 refine AW.rX [0, 1, 4] ?_
 obtain ⟨x1, hx1, h⟩ := bO h
 refine AW.rC [0, 4, 5, 6, 7] (ok145 a0 a1 65536 x1 hx1) Tryz.call145 ?_
 refine AW.seq <| AW.rX [0, 4, 5, 6, 7, 18] ?_
 rcases iteO h with ⟨c3, h⟩ | ⟨c3, h⟩
 ·refine AW.ifF rfl (fun q => q c3) ?_
  refine AW.skip <| thenA_n ?_
  obtain ⟨x4, hx4, h⟩ := bO h
  refine AW.rC [4, 5, 6, 7, 8] (ok145 a0 x1.2.1 65536 x4 hx4) Tryz.call145 ?_
  refine AW.seq <| AW.rX [4, 5, 6, 7, 8, 29] ?_
  rcases iteO h with ⟨c6, h⟩ | ⟨c6, h⟩
  ·refine AW.ifF rfl (fun q => q c6) ?_
   refine AW.skip <| thenA_n ?_
   obtain ⟨x7, hx7, h⟩ := bO h
   refine AW.rK [4, 5, 6, 7, 9] fun K hK => ?_
   simp only [go_sem, seval, bytesRows_map (enc := enc5) (fun _ => rfl)]
   refine arC.of (ok146 (bytesI x4.1) x7 hx7) Tryz.call146 ?_
   simp only [go_sem, seval, bytesRows_map (enc := enc5) (fun _ => rfl)]
   subst hK
   refine AW.rX [4, 5, 6] ?_
   refine AW.ret ?_
   obtain rfl := oi h
   (simp only [go_sem, seval, finA] <;> try simp)
  ·refine AW.ifT rfl c6 <| AW.rX [4, 5, 6] ?_
   refine AW.ent (Ent.weakObj 8 rfl rfl (.cons (.of rfl) (.cons (.of rfl) (.cons Weak.nil WeakL.nil)))) ?_
   refine AW.ret <| thenA_r ?_
   obtain rfl := oi h
   (simp only [go_sem, seval, finA] <;> try simp)
 ·refine AW.ifT rfl c3 <| AW.rX [4, 5, 6] ?_
  refine AW.ent (Ent.weakObj 8 rfl rfl (.cons (.of rfl) (.cons (.of rfl) (.cons Weak.nil WeakL.nil)))) ?_
  refine AW.ret <| thenA_r ?_
  obtain rfl := oi h
  (simp only [go_sem, seval, finA] <;> try simp)
def f97_s2 (a0 : List Int) (x1 : Int × Int × Int) : Int × (List Res) × Int → Option ((Int × (List Res) × Int) ⊕ (((List Res) × Int) ⊕ (Int × (List Res))))
  | (s2_0, s2_1, s2_2) => (if s2_2 < x1.1 then ((f123 a0 s2_0).bind fun x35 => (if x35.2.2 = 0 then ((appO? s2_1 [x35.1]).bind fun x37 => some (.inl (x35.2.1, x37, IntKind.u64.wrap (s2_2 + 1)))) else some (.inr (.inl ([], x35.2.2))))) else some (.inr (.inr (s2_0, s2_1))))
def f97 (a0 : List Int) : Option ((List Res) × Int) := ((f122 a0 0).bind fun x1 => (if x1.2.2 = 0 then (if 65536 < x1.1 then some ([], 9) else ((loopO (f97_s2 a0 x1) (x1.2.1, [], 0)).bind fun y38 => match y38 with | .inl y39 => some y39 | .inr (y40, y41) => (if y40 < (a0.length : Int) then some ([], 3) else ((f32 y41).bind fun x43 => (if x43 = true then some (y41, 0) else some ([], 3)))))) else some ([], x1.2.2)))
theorem ok97 (a0 : List Int) (r : (List Res) × Int) (h : f97 a0 = some r) : PC Tryz.prog 97 [.sl (List.map enc5 a0)] (.tup [.fr 3 (List.map encRes r.1), .val (.int .i64 r.2)]) := by
 rw [f97] at h
 refine pc_of9 (N := 53) (rs := [.tmp 2, .tmp 3]) Tryz.func97 ?_
 refine AW.rX [0] ?_
 obtain ⟨x1, hx1, h⟩ := bO h
 refine AW.rC [0, 4, 5, 6] (ok122 a0 0 x1 hx1) Tryz.call122 ?_
 refine AW.seq <| AW.block <| AW.rX [0, 4, 5, 6, 17] ?_
 rcases iteO h with ⟨c4, h⟩ | ⟨c4, h⟩
 ·refine AW.ifF rfl (fun q => q c4) ?_
  refine AW.rX [0, 4, 5, 21] ?_
  rcases iteO h with ⟨c5, h⟩ | ⟨c5, h⟩
  ·refine AW.ifT rfl c5 <| AW.rX [2, 3] ?_
   refine AW.ent (Ent.nilOwn 2 3 (by decide) rfl) ?_
   refine AW.ret <| block_r <| thenA_r ?_
   obtain rfl := oi h
   (simp only [go_sem, seval, finA] <;> try simp)
  ·refine AW.ifF rfl c5 <| AW.skip <| block_n <| thenA_n <| AW.rX [0, 4, 5, 7] ?_
   refine AW.seq <| AW.rX [0, 5, 7, 24, 25] ?_
   refine AW.block ?_
   obtain ⟨y38, hy38, h⟩ := bO h
   refine AW.loopO (fun s => ⟨(upd (upd (upd (upd (upd anyF 0 (.sl (List.map enc5 a0))) 5 (.val (.int .i64 s.1))) 7 (.own 8 0 s.2.1.length)) 24 (.val (.int .u64 x1.1))) 25 (.val (.int .u64 s.2.2))), hpL [] [some (.row 3 true (List.map encRes s.2.1))], 9⟩) (fun y e st' => match y with | .inl z => e = Exit.ret ∧ finA Tryz.prog [.tmp 2, .tmp 3] (.tup [.fr 3 (List.map encRes z.1), .val (.int .i64 z.2)]) .ret st' | .inr z => e = Exit.exit 1 ∧ st' = ⟨(upd (upd (upd anyF 0 (.sl (List.map enc5 a0))) 5 (.val (.int .i64 z.1))) 7 (.own 8 0 z.2.length)), hpL [] [some (.row 3 true (List.map encRes z.2))], 9⟩) hy38 ?_ ?_ ?_
   ·refine Ent.trans (Ent.nilOwn 7 3 (by decide) rfl) ?_
    exact Ent.canq [168] RF.any.qv.qv.qo.qv.qv (.nil _) (.ce (.nil _))
   ·clear h hy38
    rintro ⟨s2_0, s2_1, s2_2⟩ x h
    rw [f97_s2] at h
    refine AW.rX [0, 5, 7, 24, 25, 26] ?_
    refine AW.seq ?_
    rcases iteO h with ⟨c34, h⟩ | ⟨c34, h⟩
    ·refine AW.ifT rfl c34 <| AW.skip <| thenA_n <| AW.seq <| AW.block ?_
     obtain ⟨x35, hx35, h⟩ := bO h
     refine AW.rC [0, 7, 8, 9, 10, 24, 25] (ok123 a0 s2_0 x35 hx35) Tryz.call123 ?_
     refine AW.seq <| AW.rX [0, 7, 8, 9, 10, 24, 25, 35] ?_
     rcases iteO h with ⟨c36, h⟩ | ⟨c36, h⟩
     ·refine AW.ifF rfl (fun q => q c36) <| AW.skip <| thenA_n ?_
      obtain ⟨x37, hx37, h⟩ := bO h
      obtain ⟨hx37b, hx37e⟩ := appO?_some.1 hx37
      have hx37f : ∀ id o : Nat, appO 3 56 id ([[.val (.string x35.1.Key), .val (.string x35.1.Val), .sl (List.map enc3 x35.1.Offs)]]) 0 s2_1.length o (some (.row 3 true (List.map encRes s2_1))) = some ⟨.own id 0 x37.length, [(o, none), (id, some (.row 3 true (List.map encRes x37)))]⟩ := fun id o => by
        subst hx37e; rw [appO_ok (by simp) (by simpa using hx37b) (by decide)]; first | (simp [encRes]; done) | (simp [encRes]; omega)
      refine AW.sY [0, 5, 7, 24, 25] ?_
      refine block_n <| thenA_n <| AW.rY [0, 5, 7, 24, 25] ?_
      refine thenA_n ?_
      refine ⟨_, oj h, ?_⟩
      exact Ent.canq [145] RF.any.qv.qv.qo.qv.qv (.nil _) (.ce (.nil _))
     ·refine AW.ifT rfl c36 <| AW.sX [2, 3] ?_
      refine AW.ent (Ent.nilOwn 2 3 (by decide) rfl) ?_
      refine AW.ret <| thenA_r <| block_r <| thenA_r <| thenA_r ?_
      refine ⟨_, oj h, _, Ent.refl, rfl, ?_⟩
      (simp only [go_sem, seval, finA] <;> try simp)
    ·refine AW.ifF rfl c34 <| AW.exit <| thenA_x <| thenA_x ?_
     refine ⟨_, oj h, _, ?_, rfl, rfl⟩
     exact Ent.canq [8] RF.any.qv.qv.qo (.nil _) (.ce (.nil _))
   ·intro e st' hX
    rcases y38 with y39 | ⟨y40, y41⟩ <;> dsimp only at h hX
    ·obtain ⟨rfl, hf⟩ := hX
     refine ⟨_, Ent.refl, ?_⟩
     refine block_r <| thenA_r ?_
     obtain rfl := oi h
     exact hf
    ·obtain ⟨rfl, rfl⟩ := hX
     refine ⟨_, Ent.refl, ?_⟩
     refine block_x <| thenA_n <| AW.seq ?_
     rcases iteO h with ⟨c42, h⟩ | ⟨c42, h⟩
     ·refine AW.sX [7, 51] ?_
      refine AW.ifBT rfl rfl <| AW.rX [2, 3] ?_
      refine AW.ent (Ent.nilOwn 2 3 (by decide) rfl) ?_
      refine AW.ret <| thenA_r ?_
      obtain rfl := oi h
      (simp only [go_sem, seval, finA] <;> try simp)
     ·obtain ⟨x43, hx43, h⟩ := bO h
      refine AW.sC [7, 51] (ok32 y41 x43 hx43) Tryz.call32 ?_
      rcases iteO h with ⟨c44, h⟩ | ⟨c44, h⟩
      ·refine AW.ifBF rfl (by first | (rw [c44]; rfl) | simp_all) <| AW.skip <| thenA_n <| AW.sX [2, 3] ?_
       refine AW.ret ?_
       obtain rfl := oi h
       (simp only [go_sem, seval, c44, finA] <;> try simp)
      ·rw [Bool.not_eq_true] at c44
       refine AW.ifBT rfl (by first | (rw [c44]; rfl) | simp_all) <| AW.sX [2, 3] ?_
       refine AW.ent (Ent.nilOwn 2 3 (by decide) rfl) ?_
       refine AW.ret <| thenA_r ?_
       obtain rfl := oi h
       (simp only [go_sem, seval, c44, finA] <;> try simp)
 ·refine AW.ifT rfl c4 <| AW.rX [2, 3] ?_
  refine AW.ent (Ent.nilOwn 2 3 (by decide) rfl) ?_
  refine AW.ret <| block_r <| thenA_r ?_
  obtain rfl := oi h
  (simp only [go_sem, seval, finA] <;> try simp)
def f66_s2 (a0 : List Int) (x1 : Int × Int × Int) : Int × (List Res) × Int → Option ((Int × (List Res) × Int) ⊕ (((List Res) × Int) ⊕ (Int × (List Res))))
  | (s2_0, s2_1, s2_2) => (if s2_2 < (IntKind.i64.wrap x1.1) then ((f102 a0 s2_0 65536).bind fun x58 => (if x58.2.2 = 0 then ((f102 a0 x58.2.1 65536).bind fun x61 => (if x61.2.2 = 0 then ((f103 (bytesI x61.1)).bind fun x64 => (if x64.2 = 0 then ((appO? s2_1 [⟨x58.1, ⟨#[]⟩, x64.1⟩]).bind fun x67 => some (.inl (x61.2.1, x67, IntKind.i64.wrap (s2_2 + 1)))) else some (.inr (.inl ([], x64.2))))) else some (.inr (.inl ([], x61.2.2))))) else some (.inr (.inl ([], x58.2.2))))) else some (.inr (.inr (s2_0, s2_1))))
def f66 (a0 : List Int) : Option ((List Res) × Int) := ((f99 a0 0).bind fun x1 => (if x1.2.2 = 0 then (if 65536 < x1.1 then some ([], 9) else ((loopO (f66_s2 a0 x1) (x1.2.1, [], 0)).bind fun y68 => match y68 with | .inl y69 => some y69 | .inr (y70, y71) => (if y70 < (a0.length : Int) then some ([], 3) else ((f38 y71).bind fun x73 => (if x73 = true then some (y71, 0) else some ([], 3)))))) else some ([], x1.2.2)))
theorem ok66 (a0 : List Int) (r : (List Res) × Int) (h : f66 a0 = some r) : PC Tryz.prog 66 [.sl (List.map enc5 a0)] (.tup [.fr 3 (List.map encRes r.1), .val (.int .i64 r.2)]) := by
 rw [f66] at h
 refine pc_of9 (N := 80) (rs := [.tmp 2, .tmp 3]) Tryz.func66 ?_
 refine AW.rX [0] ?_
 obtain ⟨x1, hx1, h⟩ := bO h
 refine AW.rC [0, 4, 5, 6] (ok99 a0 0 x1 hx1) Tryz.call99 ?_
 refine AW.seq <| AW.rX [0, 4, 5, 6, 24] ?_
 rcases iteO h with ⟨c3, h⟩ | ⟨c3, h⟩
 ·refine AW.ifF rfl (fun q => q c3) ?_
  refine AW.skip <| thenA_n <| AW.seq <| AW.rX [0, 4, 5, 27] ?_
  rcases iteO h with ⟨c5, h⟩ | ⟨c5, h⟩
  ·refine AW.ifT rfl c5 <| AW.rX [2, 3] ?_
   refine AW.ent (Ent.nilOwn 2 3 (by decide) rfl) ?_
   refine AW.ret <| thenA_r ?_
   obtain rfl := oi h
   (simp only [go_sem, seval, finA] <;> try simp)
  ·refine AW.ifF rfl c5 <| AW.skip <| thenA_n <| AW.rX [0, 4, 5, 7] ?_
   refine AW.seq <| AW.rX [0, 4, 5, 7, 8] ?_
   refine AW.block ?_
   obtain ⟨y68, hy68, h⟩ := bO h
   refine AW.loopO (fun s => ⟨(upd (upd (upd (upd (upd anyF 0 (.sl (List.map enc5 a0))) 4 (.val (.int .u64 x1.1))) 5 (.val (.int .i64 s.1))) 7 (.own 8 0 s.2.1.length)) 8 (.val (.int .i64 s.2.2))), hpL [] [some (.row 3 true (List.map encRes s.2.1))], 9⟩) (fun y e st' => match y with | .inl z => e = Exit.ret ∧ finA Tryz.prog [.tmp 2, .tmp 3] (.tup [.fr 3 (List.map encRes z.1), .val (.int .i64 z.2)]) .ret st' | .inr z => e = Exit.exit 0 ∧ st' = ⟨(upd (upd (upd anyF 0 (.sl (List.map enc5 a0))) 5 (.val (.int .i64 z.1))) 7 (.own 8 0 z.2.length)), hpL [] [some (.row 3 true (List.map encRes z.2))], 9⟩) hy68 ?_ ?_ ?_
   ·refine Ent.trans (Ent.nilOwn 7 3 (by decide) rfl) ?_
    exact Ent.canq [144] RF.any.qv.qv.qv.qo.qv (.nil _) (.ce (.nil _))
   ·clear h hy68
    rintro ⟨s2_0, s2_1, s2_2⟩ x h
    rw [f66_s2] at h
    refine AW.seq <| AW.rX [0, 4, 5, 7, 8, 31] ?_
    rcases iteO h with ⟨c57, h⟩ | ⟨c57, h⟩
    ·refine AW.ifT rfl c57 <| AW.skip <| thenA_n <| AW.seq <| AW.block ?_
     obtain ⟨x58, hx58, h⟩ := bO h
     refine AW.rC [0, 4, 7, 8, 9, 10, 11] (ok102 a0 s2_0 65536 x58 hx58) Tryz.call102 ?_
     refine AW.seq <| AW.rX [0, 4, 7, 8, 9, 10, 11, 42] ?_
     rcases iteO h with ⟨c60, h⟩ | ⟨c60, h⟩
     ·refine AW.ifF rfl (fun q => q c60) <| AW.skip <| thenA_n ?_
      obtain ⟨x61, hx61, h⟩ := bO h
      refine AW.rC [0, 4, 7, 8, 9, 12, 13, 14] (ok102 a0 x58.2.1 65536 x61 hx61) Tryz.call102 ?_
      refine AW.seq <| AW.rX [0, 4, 7, 8, 9, 12, 13, 14, 52] ?_
      rcases iteO h with ⟨c63, h⟩ | ⟨c63, h⟩
      ·refine AW.ifF rfl (fun q => q c63) <| AW.skip <| thenA_n ?_
       obtain ⟨x64, hx64, h⟩ := bO h
       refine AW.rK [0, 4, 7, 8, 9, 13, 15, 16] fun K hK => ?_
       simp only [go_sem, seval, bytesRows_map (enc := enc5) (fun _ => rfl)]
       refine arC.of (ok103 (bytesI x61.1) x64 hx64) Tryz.call103 ?_
       simp only [go_sem, seval, bytesRows_map (enc := enc5) (fun _ => rfl)]
       subst hK
       refine AW.seq <| AW.rX [0, 4, 7, 8, 9, 13, 15, 16, 61] ?_
       rcases iteO h with ⟨c66, h⟩ | ⟨c66, h⟩
       ·refine AW.ifF rfl (fun q => q c66) <| AW.skip <| thenA_n ?_
        obtain ⟨x67, hx67, h⟩ := bO h
        obtain ⟨hx67b, hx67e⟩ := appO?_some.1 hx67
        have hx67f : ∀ id o : Nat, appO 3 56 id ([[.val (.string x58.1), .val (.string ⟨#[]⟩), .sl (List.map enc3 x64.1)]]) 0 s2_1.length o (some (.row 3 true (List.map encRes s2_1))) = some ⟨.own id 0 x67.length, [(o, none), (id, some (.row 3 true (List.map encRes x67)))]⟩ := fun id o => by
          subst hx67e; rw [appO_ok (by simp) (by simpa using hx67b) (by decide)]; first | (simp [encRes]; done) | (simp [encRes]; omega)
        refine AW.sX [0, 4, 7, 8, 13] ?_
        refine AW.rY [0, 4, 5, 7, 8] ?_
        refine block_n <| thenA_n <| AW.rY [0, 4, 5, 7, 8] ?_
        refine thenA_n ?_
        refine ⟨_, oj h, ?_⟩
        exact Ent.canq [353] RF.any.qv.qv.qv.qo.qv (.nil _) (.ce (.nil _))
       ·refine AW.ifT rfl c66 <| AW.rX [2, 3] ?_
        refine AW.ent (Ent.nilOwn 2 3 (by decide) rfl) ?_
        refine AW.ret <| thenA_r <| block_r <| thenA_r <| thenA_r ?_
        refine ⟨_, oj h, _, Ent.refl, rfl, ?_⟩
        (simp only [go_sem, seval, finA] <;> try simp)
      ·refine AW.ifT rfl c63 <| AW.rX [2, 3] ?_
       refine AW.ent (Ent.nilOwn 2 3 (by decide) rfl) ?_
       refine AW.ret <| thenA_r <| block_r <| thenA_r <| thenA_r ?_
       refine ⟨_, oj h, _, Ent.refl, rfl, ?_⟩
       (simp only [go_sem, seval, finA] <;> try simp)
     ·refine AW.ifT rfl c60 <| AW.sX [2, 3] ?_
      refine AW.ent (Ent.nilOwn 2 3 (by decide) rfl) ?_
      refine AW.ret <| thenA_r <| block_r <| thenA_r <| thenA_r ?_
      refine ⟨_, oj h, _, Ent.refl, rfl, ?_⟩
      (simp only [go_sem, seval, finA] <;> try simp)
    ·refine AW.ifF rfl c57 <| AW.exit <| thenA_x <| thenA_x ?_
     refine ⟨_, oj h, _, ?_, rfl, rfl⟩
     exact Ent.canq [8] RF.any.qv.qv.qo (.nil _) (.ce (.nil _))
   ·intro e st' hX
    rcases y68 with y69 | ⟨y70, y71⟩ <;> dsimp only at h hX
    ·obtain ⟨rfl, hf⟩ := hX
     refine ⟨_, Ent.refl, ?_⟩
     refine block_r <| thenA_r ?_
     obtain rfl := oi h
     exact hf
    ·obtain ⟨rfl, rfl⟩ := hX
     refine ⟨_, Ent.refl, ?_⟩
     refine block_x <| thenA_n <| AW.seq ?_
     rcases iteO h with ⟨c72, h⟩ | ⟨c72, h⟩
     ·refine AW.sX [7, 78] ?_
      refine AW.ifBT rfl rfl <| AW.rX [2, 3] ?_
      refine AW.ent (Ent.nilOwn 2 3 (by decide) rfl) ?_
      refine AW.ret <| thenA_r ?_
      obtain rfl := oi h
      (simp only [go_sem, seval, finA] <;> try simp)
     ·obtain ⟨x73, hx73, h⟩ := bO h
      refine AW.sC [7, 78] (ok38 y71 x73 hx73) Tryz.call38 ?_
      rcases iteO h with ⟨c74, h⟩ | ⟨c74, h⟩
      ·refine AW.ifBF rfl (by first | (rw [c74]; rfl) | simp_all) <| AW.skip <| thenA_n <| AW.sX [2, 3] ?_
       refine AW.ret ?_
       obtain rfl := oi h
       (simp only [go_sem, seval, c74, finA] <;> try simp)
      ·rw [Bool.not_eq_true] at c74
       refine AW.ifBT rfl (by first | (rw [c74]; rfl) | simp_all) <| AW.sX [2, 3] ?_
       refine AW.ent (Ent.nilOwn 2 3 (by decide) rfl) ?_
       refine AW.ret <| thenA_r ?_
       obtain rfl := oi h
       (simp only [go_sem, seval, c74, finA] <;> try simp)
 ·refine AW.ifT rfl c3 <| AW.rX [2, 3] ?_
  refine AW.ent (Ent.nilOwn 2 3 (by decide) rfl) ?_
  refine AW.ret <| thenA_r ?_
  obtain rfl := oi h
  (simp only [go_sem, seval, finA] <;> try simp)
theorem half_eq {v : Int} (h0 : 0 ≤ v) (h1 : v < 18446744073709551616) : IntKind.u64.wrap (v.tdiv 2) = v / 2 ∧ IntKind.i64.wrap ((cap v).tdiv 2) = cap v / 2 := by
 have hc := cap_rng h0
 constructor
 ·rw [Int.tdiv_eq_ediv_of_nonneg h0, u64_wrap]; omega
 ·rw [Int.tdiv_eq_ediv_of_nonneg hc.1, i64_id (by omega) (by omega)]
theorem run_eq {b : List Int} (hb : Byt b) (hl : b.length ≤ 1000000) (at_ : Int) (l : List Int) (hr : RightN l) :
  ∃ at' e' l', f166 ⟨b, at_, 0⟩ l = some (l', ⟨b, at', e'⟩) ∧ ((e' = 0 ∧ f128 b at_ l = some (l', at', 0) ∧ RightN l' ∧ at_ < at' ∧ at' ≤ b.length) ∨ (e' ≠ 0 ∧ f128 b at_ l = some ([], 0, e'))) := by
 rcases next_ok hb hl at_ with ⟨v, p, n1, n2, n3, n4, n5, n6, n7⟩ | ⟨e, n1, n2, n3⟩
 rotate_left
 ·refine ⟨0, e, l, ?_, .inr ⟨n1, ?_⟩⟩
  ·simp only [f166, n2, Option.bind_some]
   rw [if_neg (by decide)]
   simp only [f166_j1, if_neg n1]
  ·simp only [f128, n3, Option.bind_some, if_neg n1]
 obtain ⟨hh1, hh2⟩ := half_eq n3 n4
 have hc := cap_rng n3
 by_cases c : 65536 < v / 2
 ·have c' : 65536 < cap v / 2 := by unfold cap; split <;> omega
  refine ⟨p, 9, l, ?_, .inr ⟨by decide, ?_⟩⟩
  ·simp only [f166, n1, Option.bind_some, hh2, if_pos c', if_true, f166_j1, if_neg (show ¬ (9 : Int) = 0 by decide)]
  ·simp only [f128, n2, Option.bind_some, if_true, hh1, if_pos c]
 have ev : cap v = v := by unfold cap; rw [if_pos (by omega)]
 rw [ev] at hh2 n1
 have c2 : ¬ 65536 < v / 2 := c
 have hm : v.tmod 2 = v % 2 := Int.tmod_eq_emod_of_nonneg n3
 have hy : IntKind.i64.wrap (IntKind.u64.wrap (v.tdiv 2)) = v / 2 := by rw [hh1, i64_id (by omega) (by omega)]
 by_cases hev : v.tmod 2 = 0
 ·obtain ⟨at', e', l', k1, k2⟩ := even_loop hb hl (x1 := (v, ⟨b, p, 0⟩)) (y1 := (v, p, 0)) (j1 := 0) (j2 := 0) hh2 (by omega) hy hev (v / 2).toNat 0 p l (by omega) (by omega) (by omega) n7 hr
  refine ⟨at', e', l', ?_, ?_⟩
  ·simp only [f166, n1, Option.bind_some, hh2, if_neg c2, f166_j1, if_true, if_pos hev, k1]
  ·have r : f128 b at_ l = f128_j1 b l (v, p, 0) (p, 0, 0) := by
    simp only [f128, n2, Option.bind_some, if_true, hh1, if_neg c2]
    rw [if_neg (by omega)]
   rcases k2 with ⟨q1, q2, q3, q4, q5⟩ | ⟨q1, q2⟩
   ·exact .inl ⟨q1, by rw [r]; simp only [f128_j1, q2, Option.bind_some], q3, by omega, q5⟩
   ·exact .inr ⟨q1, by rw [r]; simp only [f128_j1, q2, Option.bind_some]⟩
 ·have hod : v.tmod 2 = 1 := by omega
  have r0 : f128 b at_ l = (f99 b p).bind fun x69 => (if x69.2.2 = 0 then ((f99 b x69.2.1).bind fun x72 => (if x72.2.2 = 0 then f128_j1 b l (v, p, 0) (x72.2.1, x69.1, x72.1) else some ([], 0, x72.2.2))) else some ([], 0, x69.2.2)) := by
   simp only [f128, n2, Option.bind_some, if_true, hh1, if_neg c2, if_pos hod]
  have p0 : f166 ⟨b, at_, 0⟩ l = ((f165 ⟨b, p, 0⟩).bind fun x46 => ((f165 x46.2).bind fun x47 => ((loopO (f166_s3 (v, ⟨b, p, 0⟩) x46 x47) (x47.2.b, x47.2.at_, x47.2.e, l, 0)).bind fun y70 => match y70 with | (y71, y72, y73, y74) => some (y74, ⟨y71, y72, y73⟩)))) := by
   simp only [f166, n1, Option.bind_some, hh2, if_neg c2, f166_j1, if_true, if_neg hev]
  have stop : ∀ (x46 x47 : Int × Reader) (a e : Int), e ≠ 0 → loopO (f166_s3 (v, ⟨b, p, 0⟩) x46 x47) (b, a, e, l, 0) = some (b, a, e, l) := fun x46 x47 a e he => loopO_done (by
   simp only [f166_s3, if_neg he]; split <;> rfl)
  rcases next_ok hb hl p with ⟨f, p2, m1, m2, m3, m4, m5, m6, m7⟩ | ⟨e, m1, m2, m3⟩
  rotate_left
  ·refine ⟨0, e, l, ?_, .inr ⟨m1, by rw [r0, m3]; simp only [Option.bind_some, if_neg m1]⟩⟩
   have z : f165 ⟨b, 0, e⟩ = some (0, ⟨b, 0, e⟩) := by simp only [f165, if_neg m1]
   rw [p0, m2]
   simp only [Option.bind_some, z, stop _ _ _ _ m1]
  rcases next_ok hb hl p2 with ⟨s, p3, o1, o2, o3, o4, o5, o6, o7⟩ | ⟨e, o1, o2, o3⟩
  rotate_left
  ·refine ⟨0, e, l, ?_, .inr ⟨o1, by rw [r0, m2]; simp only [Option.bind_some, if_true, o3, if_neg o1]⟩⟩
   rw [p0, m1]
   simp only [Option.bind_some, o2, stop _ _ _ _ o1]
  obtain ⟨e', l', k1, k2⟩ := odd_loop (b := b) (at_ := p3) (x1 := (v, ⟨b, p, 0⟩)) (x46 := (cap f, ⟨b, p2, 0⟩)) (x47 := (cap s, ⟨b, p3, 0⟩)) (y1 := (v, p, 0)) hh2 (by omega) hy hev rfl rfl ⟨m3, m4⟩ ⟨o3, o4⟩ (v / 2).toNat 0 l (by omega) (by omega) hr
  have r : f128 b at_ l = f128_j1 b l (v, p, 0) (p3, f, s) := by rw [r0, m2]; simp only [Option.bind_some, if_true, o2]
  refine ⟨p3, e', l', ?_, ?_⟩
  ·rw [p0, m1]
   simp only [Option.bind_some, o1, k1]
  ·rcases k2 with ⟨q1, q2, q3⟩ | ⟨q1, q2⟩
   ·exact .inl ⟨q1, by rw [r]; simp only [f128_j1, q2, Option.bind_some], q3, by omega, o7⟩
   ·exact .inr ⟨q1, by rw [r]; simp only [f128_j1, q2, Option.bind_some]⟩
theorem rightN_nil : RightN [] := ⟨by simp, fun i h => by simp at h⟩
theorem runs_eq {b : List Int} (hb : Byt b) (hl : b.length ≤ 1000000) : ∃ r, f146 b = some r ∧ f103 b = some r ∧ RightN r.1 := by
 rcases next_ok hb hl 0 with ⟨v, p, n1, n2, n3, n4, n5, n6, n7⟩ | ⟨e, n1, n2, n3⟩
 rotate_left
 ·refine ⟨([], e), ?_, ?_, rightN_nil⟩
  ·have : loopO (f146_s2 (0, ⟨b, 0, e⟩)) (b, 0, e, [], 0) = some (b, 0, e, []) := loopO_done (by simp only [f146_s2]; rw [if_neg (by decide)])
   simp only [f146, n2, Option.bind_some, this, if_neg n1, f146_j1]
  ·simp only [f103, n3, Option.bind_some, if_neg n1]
 have hc := cap_rng n3
 have key : ∃ r r', loopO (f146_s2 (cap v, ⟨b, p, 0⟩)) (b, p, 0, [], 0) = some r ∧ loopO (f103_s2 b (v, p, 0)) (p, [], 0) = some r' ∧ (∃ at' e' l', r = (b, at', e', l') ∧ ((e' = 0 ∧ r' = .inr (at', l') ∧ RightN l' ∧ at' ≤ b.length) ∨ (e' ≠ 0 ∧ r' = .inl ([], e')))) := by
  refine loopO_two (fun k s t => ∃ (at_ i : Int) (l : List Int), s = (b, at_, 0, l, i) ∧ t = (at_, l, i) ∧ 0 ≤ i ∧ i < at_ ∧ at_ ≤ b.length ∧ RightN l ∧ (k : Int) = b.length - at_) ?_ (k := (b.length - p).toNat) ⟨p, 0, [], rfl, rfl, by omega, by omega, n7, rightN_nil, by omega⟩
  rintro k _ _ ⟨at_, i, l, rfl, rfl, h0, h1, h2, hr, hk⟩
  by_cases c : i < v
  ·have c' : i < cap v := by unfold cap; split <;> omega
   have w1 : IntKind.i64.wrap (i + 1) = i + 1 := i64_id (by omega) (by omega)
   have w2 : IntKind.u64.wrap (i + 1) = i + 1 := by rw [u64_wrap]; omega
   obtain ⟨at', e', l', k1, k2⟩ := run_eq hb hl at_ l hr
   have s1 : f146_s2 (cap v, ⟨b, p, 0⟩) (b, at_, 0, l, i) = some (.inl (b, at', e', l', i + 1)) := by simp only [f146_s2, if_pos c', if_true, k1, Option.bind_some, w1]
   rcases k2 with ⟨q1, q2, q3, q4, q5⟩ | ⟨q1, q2⟩
   ·subst q1
    exact .inl ⟨_, _, (b.length - at').toNat, s1, by simp only [f103_s2, if_pos c, q2, Option.bind_some, if_true, w2], by omega, at', i + 1, l', rfl, rfl, by omega, by omega, q5, q3, by omega⟩
   ·refine .inr ⟨(b, at', e', l'), .inl ([], e'), (loopO_next s1).trans (loopO_done ?_), loopO_done ?_, at', e', l', rfl, .inr ⟨q1, rfl⟩⟩
    ·simp only [f146_s2, if_neg q1]; split <;> rfl
    ·simp only [f103_s2, if_pos c, q2, Option.bind_some, if_neg q1]
  ·have c' : ¬ i < cap v := by unfold cap; split <;> omega
   exact .inr ⟨(b, at_, 0, l), .inr (at_, l), loopO_done (by simp only [f146_s2, if_neg c']), loopO_done (by simp only [f103_s2, if_neg c]), at_, 0, l, rfl, .inl ⟨rfl, rfl, hr, h2⟩⟩
 obtain ⟨_, _, k1, k2, at', e', l', rfl, k3⟩ := key
 rcases k3 with ⟨rfl, rfl, hr, h2⟩ | ⟨he, rfl⟩
 ·by_cases c : at' < (b.length : Int)
  ·refine ⟨([], 3), ?_, ?_, rightN_nil⟩
   ·simp only [f146, n1, Option.bind_some, k1, if_true, if_pos c, f146_j1, if_neg (show ¬ (3 : Int) = 0 by decide)]
   ·simp only [f103, n2, Option.bind_some, if_true, k2, if_pos c]
  ·obtain ⟨x, x1, x2, x3⟩ := put_eq l' hr
   have e167 : f167 b x = some (decide (x = b)) := by
    simp only [f167, str_eq hb x3]
    congr 1
    by_cases h : x = b
    ·subst h; simp
    ·rw [decide_eq_false h, decide_eq_false (fun q => h q.symm)]
   by_cases hx : x = b
   ·refine ⟨(l', 0), ?_, ?_, hr⟩
    ·simp only [f146, n1, Option.bind_some, k1, if_true, if_neg c, f146_j1, x1, e167, decide_eq_true hx]
    ·simp only [f103, n2, Option.bind_some, if_true, k2, if_neg c, x2, str_eq x3 hb, if_pos hx]
   ·refine ⟨([], 3), ?_, ?_, rightN_nil⟩
    ·simp only [f146, n1, Option.bind_some, k1, if_true, if_neg c, f146_j1, x1, e167, decide_eq_false hx, Bool.false_eq_true, if_false]
    ·simp only [f103, n2, Option.bind_some, if_true, k2, if_neg c, x2, str_eq x3 hb, if_neg hx]
 ·refine ⟨([], e'), ?_, ?_, rightN_nil⟩
  ·simp only [f146, n1, Option.bind_some, k1, if_neg he, f146_j1]
  ·simp only [f103, n2, Option.bind_some, if_true, k2]
theorem SzR.nil : SzR [] := ⟨by simp, (fun r h => by cases h), (fun r h => by cases h)⟩
theorem index_eq {b : List Int} (hb : Byt b) (hl : b.length ≤ 1000000) : ∃ r, f97 b = some r ∧ f66 b = some r ∧ SzR r.1 ∧ r.1.length ≤ b.length ∧ (r.2 = 0 → RightR r.1) ∧ (r.2 ≠ 0 → r.1 = []) := by
 obtain ⟨⟨v, p, e⟩, h1, h2, h3⟩ := uv_eq hb hl 0
 rcases h3 with ⟨q1, q2, q3, q4, q5, q6⟩ | ⟨q1, q2, q3⟩
 rotate_left
 ·simp only at q1 q2 q3
  refine ⟨([], e), ?_, ?_, SzR.nil, by simp, (fun h => absurd h q1), fun _ => rfl⟩
  ·simp only [f97, h1, Option.bind_some, if_neg q1]
  ·simp only [f66, h2, Option.bind_some, if_neg q1]
 simp only at q1 q2 q3 q4 q5 q6
 subst q1
 by_cases c : 65536 < v
 ·refine ⟨([], 9), ?_, ?_, SzR.nil, by simp, (fun h => absurd h (by decide)), fun _ => rfl⟩
  ·simp only [f97, h1, Option.bind_some, if_true, if_pos c]
  ·simp only [f66, h2, Option.bind_some, if_true, if_pos c]
 have wv : IntKind.i64.wrap v = v := i64_id (by omega) (by omega)
 have key : ∃ r r', loopO (f97_s2 b (v, p, 0)) (p, [], 0) = some r ∧ loopO (f66_s2 b (v, p, 0)) (p, [], 0) = some r' ∧ (r = r' ∧ ((∃ e, e ≠ 0 ∧ r = .inl ([], e)) ∨ ∃ at' l, r = .inr (at', l) ∧ SzR l ∧ (l.length : Int) ≤ at' ∧ at' ≤ b.length)) := by
  refine loopO_two (fun k s t => s = t ∧ ∃ (at_ i : Int) (l : List Res), s = (at_, l, i) ∧ 0 ≤ i ∧ i ≤ v ∧ (l.length : Int) ≤ at_ ∧ at_ ≤ b.length ∧ SzR l ∧ (k : Int) = v - i) ?_ (k := v.toNat) ⟨rfl, p, 0, [], rfl, by omega, by omega, by simp; omega, q6, SzR.nil, by omega⟩
  rintro k _ _ ⟨rfl, at_, i, l, rfl, h0, hv, hla, hal, hs, hk⟩
  by_cases ci : i < v
  ·have w1 : IntKind.i64.wrap (i + 1) = i + 1 := i64_id (by omega) (by omega)
   have w2 : IntKind.u64.wrap (i + 1) = i + 1 := by rw [u64_wrap]; omega
   obtain ⟨⟨s1, a1, e1⟩, t1, t2, t3⟩ := sv_eq hb hl at_
   have k1 := sv_size t2
   rcases t3 with ⟨g1, g2, g3, g4⟩ | ⟨g1, g2⟩
   rotate_left
   ·simp only at g1 g2
    refine .inr ⟨.inl ([], e1), .inl ([], e1), loopO_done ?_, loopO_done ?_, rfl, .inl ⟨e1, g1, rfl⟩⟩
    ·simp only [f97_s2, if_pos ci, f123, t1, Option.bind_some, if_neg g1]
    ·simp only [f66_s2, wv, if_pos ci, t2, Option.bind_some, if_neg g1]
   simp only at g1 g2 g3 g4 k1
   subst g1
   obtain ⟨⟨s2, a2, e2⟩, u1, u2, u3⟩ := sv_eq hb hl a1
   have k2 := sv_size u2
   rcases u3 with ⟨g1', g2', g3', g4'⟩ | ⟨g1', g2'⟩
   rotate_left
   ·simp only at g1' g2'
    refine .inr ⟨.inl ([], e2), .inl ([], e2), loopO_done ?_, loopO_done ?_, rfl, .inl ⟨e2, g1', rfl⟩⟩
    ·simp only [f97_s2, if_pos ci, f123, t1, Option.bind_some, if_true, u1, if_neg g1']
    ·simp only [f66_s2, wv, if_pos ci, t2, Option.bind_some, if_true, u2, if_neg g1']
   simp only at g1' g2' g3' g4' k2
   subst g1'
   obtain ⟨⟨o, e3⟩, o1, o2, o3⟩ := runs_eq (byt_bytesI s2) (show (bytesI s2).length ≤ 1000000 by rw [bytesI_len]; omega)
   simp only at o3
   have hap : appO? l [(⟨s1, ⟨#[]⟩, o⟩ : Res)] = some (l ++ [⟨s1, ⟨#[]⟩, o⟩]) := appO_ok' (by have := hs.len; omega) (by simp)
   by_cases he : e3 = 0
   ·subst he
    refine .inl ⟨(a2, l ++ [⟨s1, ⟨#[]⟩, o⟩], i + 1), (a2, l ++ [⟨s1, ⟨#[]⟩, o⟩], i + 1), k - 1, ?_, ?_, by omega, rfl, a2, i + 1, _, rfl, by omega, by omega, by simp; omega, by omega, ⟨by simp; omega, fun r hr => ?_, fun r hr => ?_⟩, by omega⟩
    ·simp only [f97_s2, if_pos ci, f123, t1, Option.bind_some, if_true, u1, o1, hap, w2]
    ·simp only [f66_s2, wv, if_pos ci, t2, Option.bind_some, if_true, u2, o2, hap, w1]
    ·rcases List.mem_append.1 hr with hr | hr
     ·exact hs.key r hr
     ·simp at hr; subst hr; simp only; omega
    ·rcases List.mem_append.1 hr with hr | hr
     ·exact hs.off r hr
     ·simp at hr; subst hr; have := o3.1; simp only; omega
   ·refine .inr ⟨.inl ([], e3), .inl ([], e3), loopO_done ?_, loopO_done ?_, rfl, .inl ⟨e3, he, rfl⟩⟩
    ·simp only [f97_s2, if_pos ci, f123, t1, Option.bind_some, if_true, u1, o1, if_neg he]
    ·simp only [f66_s2, wv, if_pos ci, t2, Option.bind_some, if_true, u2, o2, if_neg he]
  ·exact .inr ⟨.inr (at_, l), .inr (at_, l), loopO_done (by simp only [f97_s2, if_neg ci]), loopO_done (by simp only [f66_s2, wv, if_neg ci]), rfl, .inr ⟨at_, l, rfl, hs, hla, hal⟩⟩
 obtain ⟨r, _, k1, k2, rfl, k3⟩ := key
 rcases k3 with ⟨e, he, rfl⟩ | ⟨at', l, rfl, hs, hla, hal⟩
 ·refine ⟨([], e), ?_, ?_, SzR.nil, by simp, (fun h => absurd h he), fun _ => rfl⟩
  ·simp only [f97, h1, Option.bind_some, if_true, if_neg c, k1]
  ·simp only [f66, h2, Option.bind_some, if_true, if_neg c, k2]
 ·by_cases ca : at' < (b.length : Int)
  ·refine ⟨([], 3), ?_, ?_, SzR.nil, by simp, (fun h => absurd h (by decide)), fun _ => rfl⟩
   ·simp only [f97, h1, Option.bind_some, if_true, if_neg c, k1, if_pos ca]
   ·simp only [f66, h2, Option.bind_some, if_true, if_neg c, k2, if_pos ca]
  ·obtain ⟨w, w1, w2, w3⟩ := right_eq l hs
   cases w with
   | true =>
    refine ⟨(l, 0), ?_, ?_, hs, by simp only; omega, (fun _ => w3.1 rfl), fun h => absurd rfl h⟩
    ·simp only [f97, h1, Option.bind_some, if_true, if_neg c, k1, if_neg ca, w1]
    ·simp only [f66, h2, Option.bind_some, if_true, if_neg c, k2, if_neg ca, w2]
   | false =>
    refine ⟨([], 3), ?_, ?_, SzR.nil, by simp, (fun h => absurd h (by decide)), fun _ => rfl⟩
    ·simp only [f97, h1, Option.bind_some, if_true, if_neg c, k1, if_neg ca, w1, Bool.false_eq_true, if_false]
    ·simp only [f66, h2, Option.bind_some, if_true, if_neg c, k2, if_neg ca, w2, Bool.false_eq_true, if_false]
def f95 (a0 : List Int) : Option ((List Pair) × Int) := ((f120 a0 0).bind fun x1 => (if x1.2.2 = 0 then (if x1.2.1 < (a0.length : Int) then some ([], 3) else ((f121 x1.1).bind fun x4 => (if x4 = true then some (x1.1, x1.2.2) else some ([], 3)))) else some (x1.1, x1.2.2)))
theorem ok95 (a0 : List Int) (r : (List Pair) × Int) (h : f95 a0 = some r) : PC Tryz.prog 95 [.sl (List.map enc5 a0)] (.tup [.fr 2 (List.map encPair r.1), .val (.int .i64 r.2)]) := by
 rw [f95] at h
 refine pc_of9 (N := 28) (rs := [.tmp 2, .tmp 3]) Tryz.func95 ?_
 refine AW.tX [0] ?_
 obtain ⟨x1, hx1, h⟩ := bO h
 refine AW.tC [0, 4, 5, 6] (ok120 a0 0 x1 hx1) Tryz.call120 ?_
 refine AW.seq ?_
 rcases iteO h with ⟨c2, h⟩ | ⟨c2, h⟩
 ·rcases iteO h with ⟨c3, h⟩ | ⟨c3, h⟩
  ·refine AW.vX [4, 6, 25] ?_
   refine AW.ifBT rfl rfl <| AW.vX [2, 3] ?_
   refine AW.ent (Ent.nilOwn 2 2 (by decide) rfl) ?_
   refine AW.ret <| thenA_r ?_
   obtain rfl := oi h
   (simp only [go_sem, seval, finA] <;> try simp)
  ·obtain ⟨x4, hx4, h⟩ := bO h
   refine AW.rK [4, 6, 25] fun K hK => ?_
   simp only [go_sem, seval, eq_true c2, eq_false c3]
   refine arC.of (ok121 x1.1 x4 hx4) Tryz.call121 ?_
   simp only [go_sem, seval]
   subst hK
   rcases iteO h with ⟨c5, h⟩ | ⟨c5, h⟩
   ·refine AW.ifBF rfl (by first | (rw [c5]; rfl) | simp_all) <| AW.skip <| thenA_n <| AW.rK [2, 3] fun K hK => ?_
    simp only [go_sem, seval, c5]
    subst hK
    refine AW.ret ?_
    obtain rfl := oi h
    (simp only [go_sem, seval, c5, finA] <;> try simp)
   ·rw [Bool.not_eq_true] at c5
    refine AW.ifBT rfl (by first | (rw [c5]; rfl) | simp_all) <| AW.sX [2, 3] ?_
    refine AW.ent (Ent.nilOwn 2 2 (by decide) rfl) ?_
    refine AW.ret <| thenA_r ?_
    obtain rfl := oi h
    (simp only [go_sem, seval, c5, finA] <;> try simp)
 ·refine AW.sX [4, 6, 25] ?_
  refine AW.ifBF rfl rfl <| AW.skip <| thenA_n <| AW.rX [2, 3] ?_
  refine AW.ret ?_
  obtain rfl := oi h
  (simp only [go_sem, seval, finA] <;> try simp)
def f94_95_j1 (x1 : (List Int) × Int × Int) : Int → Option ((List Pair) × Int)
  | j1_0 => (if j1_0 = 0 then ((f95 x1.1).bind fun x5 => some (x5.1, x5.2)) else some ([], j1_0))
def f94_95 (a0 : List Int) : Option ((List Pair) × Int) := ((f119 a0 0).bind fun x1 => (if x1.2.2 = 0 then (if x1.2.1 < (a0.length : Int) then f94_95_j1 x1 3 else f94_95_j1 x1 x1.2.2) else f94_95_j1 x1 x1.2.2))
theorem ok94_95 (a0 : List Int) (r : (List Pair) × Int) (h : f94_95 a0 = some r) : PC Tryz.prog 94 [.sl (List.map enc5 a0), .clo (.func 95) [] []] (.tup [.fr 2 (List.map encPair r.1), .val (.int .i64 r.2)]) := by
 rw [f94_95] at h
 refine pc_of9 (N := 33) (rs := [.tmp 4, .tmp 5]) Tryz.func94 ?_
 refine AW.rX [0, 1] ?_
 refine AW.sX [0, 1, 6] ?_
 obtain ⟨x1, hx1, h⟩ := bO h
 refine AW.rC [0, 1, 6, 7, 8, 9] (ok119 a0 0 x1 hx1) Tryz.call119 ?_
 refine AW.join (fun s => ⟨(upd (upd (upd (upd anyF 1 (.clo (.func 95) [] [])) 6 (.val (.slice none 0 0))) 7 (.own 8 0 x1.1.length)) 9 (.val (.int .i64 s))), hpL [] [some (.row 1 true (List.map enc5 x1.1))], 9⟩) (fun s => f94_95_j1 x1 s = some r) ?_ ?_
 ·rcases iteO h with ⟨c6, h⟩ | ⟨c6, h⟩
  ·refine AW.sX [1, 6, 7, 9, 23] ?_
   rcases iteO h with ⟨c7, h⟩ | ⟨c7, h⟩
   ·refine AW.ifT rfl c7 <| AW.sY [1, 6, 7, 9] ?_
    refine thenA_n ?_
    refine ⟨_, h, ?_⟩
    exact Ent.canq [40] RF.any.qt.qv.qo.qv (.nil _) (.ce (.nil _))
   ·refine AW.ifF rfl c7 <| AW.skip <| thenA_n ?_
    refine ⟨_, h, ?_⟩
    exact Ent.canq [40] RF.any.qt.qv.qo.qv (.nil _) (.ce (.nil _))
  ·refine AW.sX [1, 6, 7, 9, 23] ?_
   refine AW.ifBF rfl rfl <| AW.skip <| thenA_n ?_
   refine ⟨_, h, ?_⟩
   exact Ent.canq [40] RF.any.qt.qv.qo.qv (.nil _) (.ce (.nil _))
 ·clear h
  rintro j1_0 h
  rw [f94_95_j1] at h
  refine AW.seq <| AW.rX [1, 6, 7, 9, 25] ?_
  rcases iteO h with ⟨c4, h⟩ | ⟨c4, h⟩
  ·refine AW.ifF rfl (fun q => q c4) ?_
   refine AW.skip <| thenA_n ?_
   obtain ⟨x5, hx5, h⟩ := bO h
   refine AW.rC [4, 5] (ok95 x1.1 x5 hx5) Tryz.call95 ?_
   refine AW.ret ?_
   obtain rfl := oi h
   (simp only [go_sem, seval, finA] <;> try simp)
  ·refine AW.ifT rfl c4 <| AW.rX [4, 5] ?_
   refine AW.ent (Ent.nilOwn 4 2 (by decide) rfl) ?_
   refine AW.ret <| thenA_r ?_
   obtain rfl := oi h
   (simp only [go_sem, seval, finA] <;> try simp)
def f96_97_j1 (x1 : (List Int) × Int × Int) : Int → Option ((List Res) × Int)
  | j1_0 => (if j1_0 = 0 then ((f97 x1.1).bind fun x5 => some (x5.1, x5.2)) else some ([], j1_0))
def f96_97 (a0 : List Int) : Option ((List Res) × Int) := ((f119 a0 0).bind fun x1 => (if x1.2.2 = 0 then (if x1.2.1 < (a0.length : Int) then f96_97_j1 x1 3 else f96_97_j1 x1 x1.2.2) else f96_97_j1 x1 x1.2.2))
theorem ok96_97 (a0 : List Int) (r : (List Res) × Int) (h : f96_97 a0 = some r) : PC Tryz.prog 96 [.sl (List.map enc5 a0), .clo (.func 97) [] []] (.tup [.fr 3 (List.map encRes r.1), .val (.int .i64 r.2)]) := by
 rw [f96_97] at h
 refine pc_of9 (N := 33) (rs := [.tmp 4, .tmp 5]) Tryz.func96 ?_
 refine AW.rX [0, 1] ?_
 refine AW.sX [0, 1, 6] ?_
 obtain ⟨x1, hx1, h⟩ := bO h
 refine AW.rC [0, 1, 6, 7, 8, 9] (ok119 a0 0 x1 hx1) Tryz.call119 ?_
 refine AW.join (fun s => ⟨(upd (upd (upd (upd anyF 1 (.clo (.func 97) [] [])) 6 (.val (.slice none 0 0))) 7 (.own 8 0 x1.1.length)) 9 (.val (.int .i64 s))), hpL [] [some (.row 1 true (List.map enc5 x1.1))], 9⟩) (fun s => f96_97_j1 x1 s = some r) ?_ ?_
 ·rcases iteO h with ⟨c6, h⟩ | ⟨c6, h⟩
  ·refine AW.sX [1, 6, 7, 9, 23] ?_
   rcases iteO h with ⟨c7, h⟩ | ⟨c7, h⟩
   ·refine AW.ifT rfl c7 <| AW.sY [1, 6, 7, 9] ?_
    refine thenA_n ?_
    refine ⟨_, h, ?_⟩
    exact Ent.canq [40] RF.any.qt.qv.qo.qv (.nil _) (.ce (.nil _))
   ·refine AW.ifF rfl c7 <| AW.skip <| thenA_n ?_
    refine ⟨_, h, ?_⟩
    exact Ent.canq [40] RF.any.qt.qv.qo.qv (.nil _) (.ce (.nil _))
  ·refine AW.sX [1, 6, 7, 9, 23] ?_
   refine AW.ifBF rfl rfl <| AW.skip <| thenA_n ?_
   refine ⟨_, h, ?_⟩
   exact Ent.canq [40] RF.any.qt.qv.qo.qv (.nil _) (.ce (.nil _))
 ·clear h
  rintro j1_0 h
  rw [f96_97_j1] at h
  refine AW.seq <| AW.rX [1, 6, 7, 9, 25] ?_
  rcases iteO h with ⟨c4, h⟩ | ⟨c4, h⟩
  ·refine AW.ifF rfl (fun q => q c4) ?_
   refine AW.skip <| thenA_n ?_
   obtain ⟨x5, hx5, h⟩ := bO h
   refine AW.rC [4, 5] (ok97 x1.1 x5 hx5) Tryz.call97 ?_
   refine AW.ret ?_
   obtain rfl := oi h
   (simp only [go_sem, seval, finA] <;> try simp)
  ·refine AW.ifT rfl c4 <| AW.rX [4, 5] ?_
   refine AW.ent (Ent.nilOwn 4 3 (by decide) rfl) ?_
   refine AW.ret <| thenA_r ?_
   obtain rfl := oi h
   (simp only [go_sem, seval, finA] <;> try simp)
def f56_s1 (x1 : (List Pair) × Int) : (List Res) × Int → Option (((List Res) × Int) ⊕ (((List Res) × Int) ⊕ (List Res)))
  | (s1_0, s1_1) => (if s1_1 < ((x1.1.length : Nat) : Int) then ((ix x1.1 s1_1).bind fun x24 => ((ix s1_0 s1_1).bind fun x25 => (if x25.Key = x24.Key then some (.inl ((s1_0.set s1_1.toNat (⟨x25.Key, x24.Val, x25.Offs⟩ : Res)), IntKind.i64.wrap (s1_1 + 1))) else some (.inr (.inl ([], 3)))))) else some (.inr (.inr s1_0)))
def f56 (a0 : List Int) (a1 : List Int) : Option ((List Res) × Int) := ((f94_95 a0).bind fun x1 => (if x1.2 = 0 then ((f96_97 a1).bind fun x4 => (if x4.2 = 0 then (if ((x1.1.length : Nat) : Int) = ((x4.1.length : Nat) : Int) then ((loopO (f56_s1 x1) (x4.1, 0)).bind fun y27 => match y27 with | .inl y28 => some y28 | .inr y29 => some (y29, 0)) else some ([], 3)) else some ([], x4.2))) else some ([], x1.2)))
theorem ok56 (a0 : List Int) (a1 : List Int) (r : (List Res) × Int) (h : f56 a0 a1 = some r) : PC Tryz.prog 56 [.sl (List.map enc5 a0), .sl (List.map enc5 a1)] (.tup [.fr 3 (List.map encRes r.1), .val (.int .i64 r.2)]) := by
 rw [f56] at h
 refine pc_of9 (N := 55) (rs := [.tmp 4, .tmp 5]) Tryz.func56 ?_
 refine AW.rX [0, 1] ?_
 obtain ⟨x1, hx1, h⟩ := bO h
 refine AW.rC [1, 6, 7] (PC.norm (us := [.sl (List.map enc5 a0), .val (.func (.func 95) #[] #[])]) (ok94_95 a0 x1 hx1) (by first | rfl | simp [norm, normL, normR, go_sem])) Tryz.call94 ?_
 refine AW.seq <| AW.rX [1, 6, 7, 17] ?_
 rcases iteO h with ⟨c3, h⟩ | ⟨c3, h⟩
 ·refine AW.ifF rfl (fun q => q c3) ?_
  refine AW.skip <| thenA_n ?_
  obtain ⟨x4, hx4, h⟩ := bO h
  refine AW.rC [6, 7, 8] (PC.norm (us := [.sl (List.map enc5 a1), .val (.func (.func 97) #[] #[])]) (ok96_97 a1 x4 hx4) (by first | rfl | simp [norm, normL, normR, go_sem])) Tryz.call96 ?_
  refine AW.seq <| AW.rX [6, 7, 8, 25] ?_
  rcases iteO h with ⟨c6, h⟩ | ⟨c6, h⟩
  ·refine AW.ifF rfl (fun q => q c6) ?_
   refine AW.skip <| thenA_n <| AW.seq <| AW.rX [6, 8, 31] ?_
   rcases iteO h with ⟨c8, h⟩ | ⟨c8, h⟩
   ·refine AW.ifF rfl (fun q => q c8) ?_
    refine AW.skip <| thenA_n <| AW.seq <| AW.rX [8, 32, 33, 34] ?_
    refine AW.block ?_
    obtain ⟨y27, hy27, h⟩ := bO h
    refine AW.loopO (fun s => ⟨(upd (upd (upd (upd anyF 8 (.own 8 0 s.1.length)) 32 (.own 9 0 x1.1.length)) 33 (.val (.int .i64 ((x1.1.length : Nat) : Int)))) 34 (.val (.int .i64 s.2))), hpL [] [some (.row 3 true (List.map encRes s.1)), some (.row 2 true (List.map encPair x1.1))], 10⟩) (fun y e st' => match y with | .inl z => e = Exit.ret ∧ finA Tryz.prog [.tmp 4, .tmp 5] (.tup [.fr 3 (List.map encRes z.1), .val (.int .i64 z.2)]) .ret st' | .inr z => e = Exit.exit 0 ∧ st' = ⟨(upd anyF 8 (.own 8 0 z.length)), hpL [] [some (.row 3 true (List.map encRes z))], 9⟩) hy27 ?_ ?_ ?_
    ·exact Ent.canq [104, 32] RF.any.qo.qo.qv.qv (.nil _) (.ce (.ce (.nil _)))
    ·clear h hy27
     rintro ⟨s1_0, s1_1⟩ x h
     rw [f56_s1] at h
     refine AW.rX [8, 32, 33, 34, 35] ?_
     refine AW.seq ?_
     rcases iteO h with ⟨c23, h⟩ | ⟨c23, h⟩
     ·refine AW.ifT rfl c23 <| AW.skip <| thenA_n <| AW.seq <| AW.block ?_
      obtain ⟨x24, hx24, h⟩ := bO h
      obtain ⟨hx24a, hx24b⟩ := ix_some.1 hx24
      refine AW.rK [8, 9, 10, 32, 33, 34] fun K hK => ?_
      simp only [go_sem, seval, natOf_le hx24a, hx24b, ix_lt hx24b]
      subst hK
      refine AW.seq ?_
      obtain ⟨x25, hx25, h⟩ := bO h
      obtain ⟨hx25a, hx25b⟩ := ix_some.1 hx25
      refine AW.re [8, 9, 10, 32, 33, 34, 46] [0,0,3,7,15,0,32,127] ?_
      generalize hK : AW Tryz.prog _ _ _ = K
      simp only [go_sem, seval, natOf_le hx25a, hx25b, ix_lt hx25b]
      subst hK
      rcases iteO h with ⟨c26, h⟩ | ⟨c26, h⟩
      ·refine AW.ifF rfl (fun q => q c26) <| AW.skip <| thenA_n <| AW.rL [8, 32, 33, 34] fun K hK => ?_
       simp only [go_sem, seval, natOf_le hx25a, hx25b, ix_lt hx25b, set_row (enc := encRes) (y := (⟨x25.Key, x24.Val, x25.Offs⟩ : Res)) (r := [.val (.string x25.Key), .val (.string x24.Val), .sl (List.map enc3 x25.Offs)]) rfl]
       subst hK
       refine block_n <| thenA_n <| AW.rY [8, 32, 33, 34] ?_
       refine thenA_n ?_
       refine ⟨_, oj h, ?_⟩
       exact Ent.canq [8, 9] RF.any.qo.qo.qv.qv (.nil _) (.ce (.ce (.nil _)))
      ·refine AW.ifT rfl c26 <| AW.rX [4, 5] ?_
       refine AW.ent (Ent.nilOwn 4 3 (by decide) rfl) ?_
       refine AW.ret <| thenA_r <| block_r <| thenA_r <| thenA_r ?_
       refine ⟨_, oj h, _, Ent.refl, rfl, ?_⟩
       (simp only [go_sem, seval, finA] <;> try simp)
     ·refine AW.ifF rfl c23 <| AW.exit <| thenA_x <| thenA_x ?_
      refine ⟨_, oj h, _, ?_, rfl, rfl⟩
      exact Ent.canq [8] RF.any.qo (.nil _) (.ce (.nil _))
    ·intro e st' hX
     rcases y27 with y28 | y29 <;> dsimp only at h hX
     ·obtain ⟨rfl, hf⟩ := hX
      refine ⟨_, Ent.refl, ?_⟩
      refine block_r <| thenA_r ?_
      obtain rfl := oi h
      exact hf
     ·obtain ⟨rfl, rfl⟩ := hX
      refine ⟨_, Ent.refl, ?_⟩
      refine block_x <| thenA_n <| AW.rX [4, 5] ?_
      refine AW.ret ?_
      obtain rfl := oi h
      (simp only [go_sem, seval, finA] <;> try simp)
   ·refine AW.ifT rfl c8 <| AW.rX [4, 5] ?_
    refine AW.ent (Ent.nilOwn 4 3 (by decide) rfl) ?_
    refine AW.ret <| thenA_r ?_
    obtain rfl := oi h
    (simp only [go_sem, seval, finA] <;> try simp)
  ·refine AW.ifT rfl c6 <| AW.rX [4, 5] ?_
   refine AW.ent (Ent.nilOwn 4 3 (by decide) rfl) ?_
   refine AW.ret <| thenA_r ?_
   obtain rfl := oi h
   (simp only [go_sem, seval, finA] <;> try simp)
 ·refine AW.ifT rfl c3 <| AW.rX [4, 5] ?_
  refine AW.ent (Ent.nilOwn 4 3 (by decide) rfl) ?_
  refine AW.ret <| thenA_r ?_
  obtain rfl := oi h
  (simp only [go_sem, seval, finA] <;> try simp)
end Au
end Go.Proofs.Yt
