import Derived.Test.YtbdncmljibideaaGreatDoorGoUae
import Derived.Test.YtbdncmljibideaaGreatDoorGoUaf
import Derived.Test.YtbdncmljibideaaGreatDoorGoUag
set_option linter.all false
noncomputable section
set_option maxRecDepth 8000
set_option maxHeartbeats 1000000
namespace Go.Proofs.Yt
open Go.Gm
namespace Au
def f67_s1 (a0 : ByteArray) (a1 : ByteArray) : Int → Option (Int ⊕ (Bool ⊕ Unit))
  | s1_0 => (if s1_0 < (a0.size : Int) then (if s1_0 < (a1.size : Int) then ((ix (bl a0) s1_0).bind fun x19 => ((ix (bl a1) s1_0).bind fun x20 => (if (x19.toNat : Int) = (x20.toNat : Int) then some (.inl (IntKind.i64.wrap (s1_0 + 1))) else some (.inr (.inl (decide ((x19.toNat : Int) < (x20.toNat : Int)))))))) else some (.inr (.inr ()))) else some (.inr (.inr ())))
def f67 (a0 : ByteArray) (a1 : ByteArray) : Option Bool := ((loopO (f67_s1 a0 a1) 0).bind fun y22 => match y22 with | .inl y23 => some y23 | .inr _ => some (decide ((a0.size : Int) < (a1.size : Int))))
theorem ok67 (a0 : ByteArray) (a1 : ByteArray) (r : Bool) (h : f67 a0 a1 = some r) : PC Tryz.prog 67 [.val (.string a0), .val (.string a1)] (.val (.bool r)) := by
 rw [f67] at h
 refine pc_of9 (N := 37) (rs := [.tmp 4]) Tryz.func67 ?_
 refine AW.rX [0, 1] ?_
 refine AW.seq <| AW.sX [0, 1, 5] ?_
 refine AW.block ?_
 obtain ⟨y22, hy22, h⟩ := bO h
 refine AW.loopO (fun s => ⟨(upd (upd (upd anyF 0 (.val (.string a0))) 1 (.val (.string a1))) 5 (.val (.int .i64 s))), hpL [] [], 8⟩) (fun y e st' => match y with | .inl z => e = Exit.ret ∧ finA Tryz.prog [.tmp 4] (.val (.bool z)) .ret st' | .inr z => e = Exit.exit 0 ∧ st' = ⟨(upd (upd anyF 0 (.val (.string a0))) 1 (.val (.string a1))), hpL [] [], 8⟩) hy22 ?_ ?_ ?_
 ·exact Ent.cq RF.any.qv.qv.qv
 ·clear h hy22
  rintro s1_0 x h
  rw [f67_s1] at h
  refine AW.seq ?_
  rcases iteO h with ⟨c17, h⟩ | ⟨c17, h⟩
  ·refine AW.sX [0, 1, 5, 15] ?_
   rcases iteO h with ⟨c18, h⟩ | ⟨c18, h⟩
   ·refine AW.ifT rfl c18 <| AW.skip <| thenA_n <| AW.seq <| AW.block ?_
    obtain ⟨x19, hx19, h⟩ := bO h
    obtain ⟨hx19a, hx19b⟩ := ix_some.1 hx19
    obtain ⟨x20, hx20, h⟩ := bO h
    obtain ⟨hx20a, hx20b⟩ := ix_some.1 hx20
    refine AW.re [0, 1, 5, 24] [0,0,3,0,0,24,63] ?_
    generalize hK : AW Tryz.prog _ _ _ = K
    simp only [go_sem, seval, idxO_some st9 hx19a hx19b, idxO_some st9 hx20a hx20b]
    subst hK
    rcases iteO h with ⟨c21, h⟩ | ⟨c21, h⟩
    ·refine AW.ifF rfl (fun q => q c21) <| AW.skip <| block_n <| thenA_n <| AW.sY [0, 1, 5] ?_
     refine thenA_n ?_
     refine ⟨_, oj h, ?_⟩
     exact Ent.cq RF.any.qv.qv.qv
    ·refine AW.ifT rfl c21 <| AW.re [4] [0,0,3,0,0,24,63,127] ?_
     generalize hK : AW Tryz.prog _ _ _ = K
     simp only [go_sem, seval, idxO_some st9 hx19a hx19b, idxO_some st9 hx20a hx20b]
     subst hK
     refine AW.ret <| block_r <| thenA_r <| thenA_r ?_
     refine ⟨_, oj h, _, Ent.refl, rfl, ?_⟩
     (simp only [go_sem, seval, finA] <;> try simp)
   ·refine AW.ifF rfl c18 <| AW.exit <| thenA_x <| thenA_x ?_
    refine ⟨_, oj h, _, ?_, rfl, rfl⟩
    exact Ent.cq RF.any.qv.qv
  ·refine AW.sX [0, 1, 5, 15] ?_
   refine AW.ifBF rfl rfl <| AW.exit <| thenA_x <| thenA_x ?_
   refine ⟨_, oj h, _, ?_, rfl, rfl⟩
   exact Ent.cq RF.any.qv.qv
 ·intro e st' hX
  rcases y22 with y23 | _ <;> dsimp only at h hX
  ·obtain ⟨rfl, hf⟩ := hX
   refine ⟨_, Ent.refl, ?_⟩
   refine block_r <| thenA_r ?_
   obtain rfl := oi h
   exact hf
  ·obtain ⟨rfl, rfl⟩ := hX
   refine ⟨_, Ent.refl, ?_⟩
   refine block_x <| thenA_n <| AW.rX [4] ?_
   refine AW.ret ?_
   obtain rfl := oi h
   (simp only [go_sem, seval, finA] <;> try simp)
def f180_s1 : Int × Int → Option ((Int × Int) ⊕ Int)
  | (s1_0, s1_1) => (if s1_1 < 8 then some (.inl (xorV .u32 (shrV .u32 s1_0 1) (andV .u32 3988292384 (IntKind.u32.wrap (0 - (andV .u32 s1_0 1)))), IntKind.i64.wrap (s1_1 + 1))) else some (.inr s1_0))
def f180 (a0 : Int) (a1 : Int) : Option Int := ((loopO f180_s1 (xorV .u32 a0 (IntKind.u32.wrap a1), 0)).bind fun y8 => some y8)
theorem ok180 (a0 : Int) (a1 : Int) (r : Int) (h : f180 a0 a1 = some r) : PC Tryz.prog 180 [.val (.int .u32 a0), .val (.int .u8 a1)] (.val (.int .u32 r)) := by
 rw [f180] at h
 refine pc_of9 (N := 20) (rs := [.tmp 4]) Tryz.func180 ?_
 refine AW.sX [0, 1] ?_
 refine AW.sX [0] ?_
 refine AW.seq <| AW.sX [0, 9] ?_
 refine AW.block ?_
 obtain ⟨y8, hy8, h⟩ := bO h
 refine AW.loopO (fun s => ⟨(upd (upd anyF 0 (.val (.int .u32 s.1))) 9 (.val (.int .i64 s.2))), hpL [] [], 8⟩) (fun z e st' => e = Exit.exit 0 ∧ st' = ⟨(upd anyF 0 (.val (.int .u32 z))), hpL [] [], 8⟩) hy8 ?_ ?_ ?_
 ·exact Ent.cq RF.any.qv.qv
 ·clear h hy8
  rintro ⟨s1_0, s1_1⟩ x h
  rw [f180_s1] at h
  refine AW.tX [0, 9, 10] ?_
  refine AW.seq ?_
  rcases iteO h with ⟨c6, h⟩ | ⟨c6, h⟩
  ·refine AW.ifT rfl c6 <| AW.skip <| thenA_n <| AW.seq <| AW.block <| AW.tY [0, 9] ?_
   refine block_n <| thenA_n <| AW.tY [0, 9] ?_
   refine thenA_n ?_
   refine ⟨_, oj h, ?_⟩
   exact Ent.cq RF.any.qv.qv
  ·refine AW.ifF rfl c6 <| AW.exit <| thenA_x <| thenA_x ?_
   refine ⟨_, oj h, _, ?_, rfl, rfl⟩
   exact Ent.cq RF.any.qv
 ·intro e st' hX
  try dsimp only at h
  try dsimp only at hX
  obtain ⟨rfl, rfl⟩ := hX
  refine ⟨_, Ent.refl, ?_⟩
  refine block_x <| thenA_n <| AW.sX [4] ?_
  refine AW.ret ?_
  obtain rfl := oi h
  (simp only [go_sem, seval, finA] <;> try simp)
def f179 (a0 : Int) (a1 : Int) : Option Int := ((f180 a1 a0).bind fun x1 => some x1)
theorem ok179 (a0 : Int) (a1 : Int) (r : Int) (h : f179 a0 a1 = some r) : IC Tryz.prog 179 [some (.row 1 true [[.val (.int .u32 a1)]])] [.val (.int .u8 a0), .ptr 0 0 0] (.tup []) [some (.row 1 true [[.val (.int .u32 r)]])] [] := by
 rw [f179] at h
 refine ic_ofJ (N := 6) (rs := []) Tryz.func179 rfl rfl rfl (Nat.le_of_ble_eq_true rfl) ?_
 obtain ⟨x1, hx1, h⟩ := bO h
 refine AW.rD [] (ok180 a1 a0 x1 hx1) Tryz.call180 ?_
 refine ⟨⟨anyF, hpL [some (.row 1 true [[.val (.int .u32 x1)]])] [], 8⟩, ?_, ?_⟩
 · refine Ent.can [] _ _ _ rfl (by first | decide | simp) rfl ?_ ?_ ?_
   · exact RF.any
   · exact .ce (.nil _)
   · exact .nil _
 obtain rfl := oi h
 exact ⟨rfl, rfl, _, rfl, by first | rfl | simp [resOf, upd_ap, bytesI_len]⟩
def f178_s1 (a1 : List Int) : Int × Int → Option ((Int × Int) ⊕ Int)
  | (s1_0, s1_1) => (if s1_1 < (a1.length : Int) then ((ix a1 s1_1).bind fun x14 => ((f179 x14 s1_0).bind fun x15 => some (.inl (x15, IntKind.i64.wrap (s1_1 + 1))))) else some (.inr s1_0))
def f178 (a0 : Int) (a1 : List Int) : Option Int := ((loopO (f178_s1 a1) (xorV .u32 (allV .u32) a0, 0)).bind fun y17 => some (xorV .u32 (allV .u32) y17))
theorem ok178 (a0 : Int) (a1 : List Int) (r : Int) (h : f178 a0 a1 = some r) : PC Tryz.prog 178 [.val (.int .u32 a0), .sl (List.map enc5 a1)] (.val (.int .u32 r)) := by
 rw [f178] at h
 refine pc_of9 (N := 24) (rs := [.tmp 4]) Tryz.func178 ?_
 refine AW.rX [0, 1] ?_
 refine AW.rX [1, 5] ?_
 refine AW.rX [1, 5, 6] ?_
 refine AW.seq <| AW.rX [5, 6, 12, 13, 14] ?_
 refine AW.block ?_
 obtain ⟨y17, hy17, h⟩ := bO h
 refine AW.loopO (fun s => ⟨(upd (upd (upd (upd (upd anyF 5 (.ptr 8 0 0)) 6 (.clo (.func 179) [] [.ptr 8 0 0])) 12 (.sl (List.map enc5 a1))) 13 (.val (.int .i64 (a1.length : Int)))) 14 (.val (.int .i64 s.2))), hpL [] [some (.row 1 true [[.val (.int .u32 s.1)]])], 9⟩) (fun z e st' => e = Exit.exit 0 ∧ st' = ⟨(upd anyF 5 (.ptr 8 0 0)), hpL [] [some (.row 1 true [[.val (.int .u32 z)]])], 9⟩) hy17 ?_ ?_ ?_
 ·exact Ent.canq [32] RF.any.qp.qt.qv.qv.qv (.nil _) (.ce (.nil _))
 ·clear h hy17
  rintro ⟨s1_0, s1_1⟩ x h
  rw [f178_s1] at h
  refine AW.rX [5, 6, 12, 13, 14, 15] ?_
  refine AW.seq ?_
  rcases iteO h with ⟨c13, h⟩ | ⟨c13, h⟩
  ·refine AW.ifT rfl c13 <| AW.skip <| thenA_n <| AW.seq <| AW.block ?_
   obtain ⟨x14, hx14, h⟩ := bO h
   obtain ⟨hx14a, hx14b⟩ := ix_some.1 hx14
   refine AW.sX [5, 6, 8, 12, 13, 14] ?_
   obtain ⟨x15, hx15, h⟩ := bO h
   refine AW.rL [5, 6, 12, 13, 14] fun K hK => ?_
   simp only [go_sem, seval]
   refine arC.ok (CallOk.icr (us' := _) (ok179 x14 s1_0 x15 hx15) [8] (.cons (.eq (by simp only [go_sem]) (by first | rfl | simp [upd_ap, hpL_ap, sg_ap])) (.nil _)) (.cons (.of rfl) (.cons (.of rfl) .nil))) Tryz.call179 ?_
   simp only [go_sem, seval]
   subst hK
   refine block_n <| thenA_n <| AW.rY [5, 6, 12, 13, 14] ?_
   refine thenA_n ?_
   refine ⟨_, oj h, ?_⟩
   exact Ent.canq [8] RF.any.qp.qt.qv.qv.qv (.nil _) (.ce (.nil _))
  ·refine AW.ifF rfl c13 <| AW.exit <| thenA_x <| thenA_x ?_
   refine ⟨_, oj h, _, ?_, rfl, rfl⟩
   exact Ent.canq [8] RF.any.qp (.nil _) (.ce (.nil _))
 ·intro e st' hX
  try dsimp only at h
  try dsimp only at hX
  obtain ⟨rfl, rfl⟩ := hX
  refine ⟨_, Ent.refl, ?_⟩
  refine block_x <| thenA_n <| AW.rX [4] ?_
  refine AW.ret ?_
  obtain rfl := oi h
  (simp only [go_sem, seval, finA] <;> try simp)
def f175 (a0 : List Int) : Option Int := ((f178 0 a0).bind fun x1 => some x1)
theorem ok175 (a0 : List Int) (r : Int) (h : f175 a0 = some r) : PC Tryz.prog 175 [.sl (List.map enc5 a0)] (.val (.int .u32 r)) := by
 rw [f175] at h
 refine pc_of9 (N := 5) (rs := [.tmp 2]) Tryz.func175 ?_
 refine AW.rX [0] ?_
 obtain ⟨x1, hx1, h⟩ := bO h
 refine AW.rC [2] (ok178 0 a0 x1 hx1) Tryz.call178 ?_
 refine AW.ret ?_
 obtain rfl := oi h
 (simp only [go_sem, seval, finA] <;> try simp)
def f162_s1 (x1 : Int) : (List Int) × Int → Option (((List Int) × Int) ⊕ (List Int))
  | (s1_0, s1_1) => (if s1_1 < 4 then ((guardO (0 ≤ (IntKind.i64.wrap (8 * s1_1)))).bind fun x13 => ((appO? s1_0 [IntKind.u8.wrap (shrV .u32 x1 (IntKind.i64.wrap (8 * s1_1)).toNat)]).bind fun x14 => some (.inl (x14, IntKind.i64.wrap (s1_1 + 1))))) else some (.inr s1_0))
def f162 (a0 : List Int) : Option (List Int) := ((f175 a0).bind fun x1 => ((f133 a0).bind fun x2 => ((loopO (f162_s1 x1) (x2, 0)).bind fun y16 => some y16)))
theorem ok162 (a0 : List Int) (r : (List Int)) (h : f162 a0 = some r) : PC Tryz.prog 162 [.sl (List.map enc5 a0)] (.fr 1 (List.map enc5 r)) := by
 rw [f162] at h
 refine pc_of9 (N := 23) (rs := [.tmp 2]) Tryz.func162 ?_
 refine AW.rX [0] ?_
 obtain ⟨x1, hx1, h⟩ := bO h
 refine AW.rC [0, 3] (ok175 a0 x1 hx1) Tryz.call175 ?_
 obtain ⟨x2, hx2, h⟩ := bO h
 refine AW.tC [3, 4] (ok133 a0 x2 hx2) Tryz.call133 ?_
 refine AW.seq <| AW.rX [3, 4, 10] ?_
 refine AW.block ?_
 obtain ⟨y16, hy16, h⟩ := bO h
 refine AW.loopO (fun s => ⟨(upd (upd (upd anyF 3 (.val (.int .u32 x1))) 4 (.own 8 0 s.1.length)) 10 (.val (.int .i64 s.2))), hpL [] [some (.row 1 true (List.map enc5 s.1))], 9⟩) (fun z e st' => e = Exit.exit 0 ∧ st' = ⟨(upd anyF 4 (.own 8 0 z.length)), hpL [] [some (.row 1 true (List.map enc5 z))], 9⟩) hy16 ?_ ?_ ?_
 ·exact Ent.canq [48] RF.any.qv.qo.qv (.nil _) (.ce (.nil _))
 ·clear h hy16
  rintro ⟨s1_0, s1_1⟩ x h
  rw [f162_s1] at h
  refine AW.rX [3, 4, 10, 11] ?_
  refine AW.seq ?_
  rcases iteO h with ⟨c12, h⟩ | ⟨c12, h⟩
  ·refine AW.ifT rfl c12 <| AW.skip <| thenA_n <| AW.seq <| AW.block <| AW.rX [3, 4, 5, 10] ?_
   obtain ⟨x13, hx13, h⟩ := bO h
   obtain ⟨x14, hx14, h⟩ := bO h
   obtain ⟨hx14b, hx14e⟩ := appO?_some.1 hx14
   have hx14f : ∀ id o : Nat, appO 1 1 id ([[.val (.int .u8 (IntKind.u8.wrap (shrV .u32 x1 (IntKind.i64.wrap (8 * s1_1)).toNat)))]]) 0 s1_0.length o (some (.row 1 true (List.map enc5 s1_0))) = some ⟨.own id 0 x14.length, [(o, none), (id, some (.row 1 true (List.map enc5 x14)))]⟩ := fun id o => by
     subst hx14e; rw [appO_ok (by simp) (by simpa using hx14b) (by decide)]; first | (simp [enc5]; done) | (simp [enc5]; omega)
   refine AW.rL [3, 4, 10] fun K hK => ?_
   simp only [go_sem, seval, eq_true c12, eq_false (Int.not_lt.2 (guardO_some.1 hx13)), hx14f]
   subst hK
   refine block_n <| thenA_n <| AW.rY [3, 4, 10] ?_
   refine thenA_n ?_
   refine ⟨_, oj h, ?_⟩
   exact Ent.canq [89] RF.any.qv.qo.qv (.nil _) (.ce (.nil _))
  ·refine AW.ifF rfl c12 <| AW.exit <| thenA_x <| thenA_x ?_
   refine ⟨_, oj h, _, ?_, rfl, rfl⟩
   exact Ent.canq [8] RF.any.qo (.nil _) (.ce (.nil _))
 ·intro e st' hX
  try dsimp only at h
  try dsimp only at hX
  obtain ⟨rfl, rfl⟩ := hX
  refine ⟨_, Ent.refl, ?_⟩
  refine block_x <| thenA_n <| AW.rX [2] ?_
  refine AW.ret ?_
  obtain rfl := oi h
  (simp only [go_sem, seval, finA] <;> try simp)
def f161_s1 (a0 : List Int) (a1 : List Int) : Int → Option (Int ⊕ (Bool ⊕ Unit))
  | s1_0 => (if s1_0 < (a0.length : Int) then ((ix a0 s1_0).bind fun x18 => ((ix a1 s1_0).bind fun x19 => (if x18 = x19 then some (.inl (IntKind.i64.wrap (s1_0 + 1))) else some (.inr (.inl false))))) else some (.inr (.inr ())))
def f161 (a0 : List Int) (a1 : List Int) : Option Bool := (if (a0.length : Int) = (a1.length : Int) then ((loopO (f161_s1 a0 a1) 0).bind fun y21 => match y21 with | .inl y22 => some y22 | .inr _ => some true) else some false)
theorem ok161 (a0 : List Int) (a1 : List Int) (r : Bool) (h : f161 a0 a1 = some r) : PC Tryz.prog 161 [.sl (List.map enc5 a0), .sl (List.map enc5 a1)] (.val (.bool r)) := by
 rw [f161] at h
 refine pc_of9 (N := 26) (rs := [.tmp 4]) Tryz.func161 ?_
 refine AW.rX [0, 1] ?_
 refine AW.seq <| AW.rX [0, 1, 10] ?_
 rcases iteO h with ⟨c2, h⟩ | ⟨c2, h⟩
 ·refine AW.ifF rfl (fun q => q c2) ?_
  refine AW.skip <| thenA_n <| AW.seq <| AW.rX [0, 1, 12, 13] ?_
  refine AW.block ?_
  obtain ⟨y21, hy21, h⟩ := bO h
  refine AW.loopO (fun s => ⟨(upd (upd (upd (upd anyF 0 (.sl (List.map enc5 a0))) 1 (.sl (List.map enc5 a1))) 12 (.val (.int .i64 (a0.length : Int)))) 13 (.val (.int .i64 s))), hpL [] [], 8⟩) (fun y e st' => match y with | .inl z => e = Exit.ret ∧ finA Tryz.prog [.tmp 4] (.val (.bool z)) .ret st' | .inr z => e = Exit.exit 0 ∧ st' = ⟨anyF, hpL [] [], 8⟩) hy21 ?_ ?_ ?_
  ·exact Ent.cq RF.any.qv.qv.qv.qv
  ·clear h hy21
   rintro s1_0 x h
   rw [f161_s1] at h
   refine AW.rX [0, 1, 12, 13, 14] ?_
   refine AW.seq ?_
   rcases iteO h with ⟨c17, h⟩ | ⟨c17, h⟩
   ·refine AW.ifT rfl c17 <| AW.skip <| thenA_n <| AW.seq <| AW.block <| AW.rX [0, 1, 5, 12, 13] ?_
    obtain ⟨x18, hx18, h⟩ := bO h
    obtain ⟨hx18a, hx18b⟩ := ix_some.1 hx18
    obtain ⟨x19, hx19, h⟩ := bO h
    obtain ⟨hx19a, hx19b⟩ := ix_some.1 hx19
    refine AW.re [0, 1, 12, 13, 24] [0,0,3,7,0,0,48,112,255] ?_
    generalize hK : AW Tryz.prog _ _ _ = K
    simp only [go_sem, seval, natOf_le hx18a, hx18b, natOf_le hx19a, hx19b]
    subst hK
    rcases iteO h with ⟨c20, h⟩ | ⟨c20, h⟩
    ·refine AW.ifF rfl (fun q => q c20) <| AW.skip <| block_n <| thenA_n <| AW.rY [0, 1, 12, 13] ?_
     refine thenA_n ?_
     refine ⟨_, oj h, ?_⟩
     exact Ent.cq RF.any.qv.qv.qv.qv
    ·refine AW.ifT rfl c20 <| AW.rX [4] ?_
     refine AW.ret <| block_r <| thenA_r <| thenA_r ?_
     refine ⟨_, oj h, _, Ent.refl, rfl, ?_⟩
     (simp only [go_sem, seval, finA] <;> try simp)
   ·refine AW.ifF rfl c17 <| AW.exit <| thenA_x <| thenA_x ?_
    refine ⟨_, oj h, _, ?_, rfl, rfl⟩
    exact Ent.cq RF.any
  ·intro e st' hX
   rcases y21 with y22 | _ <;> dsimp only at h hX
   ·obtain ⟨rfl, hf⟩ := hX
    refine ⟨_, Ent.refl, ?_⟩
    refine block_r <| thenA_r ?_
    obtain rfl := oi h
    exact hf
   ·obtain ⟨rfl, rfl⟩ := hX
    refine ⟨_, Ent.refl, ?_⟩
    refine block_x <| thenA_n <| AW.rX [4] ?_
    refine AW.ret ?_
    obtain rfl := oi h
    (simp only [go_sem, seval, finA] <;> try simp)
 ·refine AW.ifT rfl c2 <| AW.rX [4] ?_
  refine AW.ret <| thenA_r ?_
  obtain rfl := oi h
  (simp only [go_sem, seval, finA] <;> try simp)
def f139 (a0 : List Int) : Option ((List Int) × Int) := (if (a0.length : Int) < 4 then some ([], 2) else ((cutO? a0 0 (IntKind.i64.wrap ((a0.length : Int) - 4))).bind fun x3 => ((f133 x3).bind fun x4 => ((f162 x4).bind fun x5 => ((f161 x5 a0).bind fun x6 => (if x6 = true then some (x4, 0) else some ([], 4)))))))
theorem ok139 (a0 : List Int) (r : (List Int) × Int) (h : f139 a0 = some r) : PC Tryz.prog 139 [.sl (List.map enc5 a0)] (.tup [.sl (List.map enc5 r.1), .val (.int .i64 r.2)]) := by
 rw [f139] at h
 refine pc_of9 (N := 20) (rs := [.tmp 2, .tmp 3]) Tryz.func139 ?_
 refine AW.rX [0] ?_
 refine AW.seq <| AW.rX [0, 7] ?_
 rcases iteO h with ⟨c2, h⟩ | ⟨c2, h⟩
 ·refine AW.ifT rfl c2 <| AW.rX [2, 3] ?_
  refine AW.ent (Ent.w (FrW.put1 (d := 2) Weak.nil)) ?_
  refine AW.ret <| thenA_r ?_
  obtain rfl := oi h
  (simp only [go_sem, seval, finA] <;> try simp)
 ·refine AW.ifF rfl c2 <| AW.skip <| thenA_n ?_
  obtain ⟨x3, hx3, h⟩ := bO h
  obtain ⟨x4, hx4, h⟩ := bO h
  refine AW.rK [0, 4] fun K hK => ?_
  simp only [go_sem, seval, cut_ns el23 sz5 (ml_enc5 _) hx3]
  refine arC.of (ok133 x3 x4 hx4) Tryz.call133 ?_
  simp only [go_sem, seval, cut_ns el23 sz5 (ml_enc5 _) hx3]
  subst hK
  refine AW.seq ?_
  obtain ⟨x5, hx5, h⟩ := bO h
  obtain ⟨x6, hx6, h⟩ := bO h
  refine AW.rK [4, 18] fun K hK => ?_
  simp only [go_sem, seval]
  refine arC.of (ok162 x4 x5 hx5) Tryz.call162 ?_
  simp only [go_sem, seval]
  refine arC.of (ok161 x5 a0 x6 hx6) Tryz.call161 ?_
  simp only [go_sem, seval]
  subst hK
  rcases iteO h with ⟨c7, h⟩ | ⟨c7, h⟩
  ·refine AW.ifBF rfl (by first | (rw [c7]; rfl) | simp_all) <| AW.skip <| thenA_n <| AW.sX [2, 3] ?_
   refine AW.ent (Ent.still 2 rfl (own_sl (sz := 1) (m := false) rfl (by first | rfl | (simp [bytesI_len]; done) | (simp [bytesI_len]; omega)) (by simp only [go_sem]))) ?_
   refine AW.ret ?_
   obtain rfl := oi h
   (simp only [go_sem, seval, c7, finA] <;> try simp)
  ·rw [Bool.not_eq_true] at c7
   refine AW.ifBT rfl (by first | (rw [c7]; rfl) | simp_all) <| AW.sX [2, 3] ?_
   refine AW.ent (Ent.w (FrW.put1 (d := 2) Weak.nil)) ?_
   refine AW.ret <| thenA_r ?_
   obtain rfl := oi h
   (simp only [go_sem, seval, c7, finA] <;> try simp)
def f148_s1 : Int × Int → Option ((Int × Int) ⊕ Int)
  | (s1_0, s1_1) => (if s1_1 < 8 then (if (s1_0.tmod 2) = 1 then some (.inl (xorV .u32 (IntKind.u32.wrap (s1_0.tdiv 2)) 3988292384, IntKind.i64.wrap (s1_1 + 1))) else some (.inl (IntKind.u32.wrap (s1_0.tdiv 2), IntKind.i64.wrap (s1_1 + 1)))) else some (.inr s1_0))
def f148 (a0 : Int) (a1 : Int) : Option Int := ((loopO f148_s1 (xorV .u32 a0 (IntKind.u32.wrap a1), 0)).bind fun y9 => some y9)
theorem ok148 (a0 : Int) (a1 : Int) (r : Int) (h : f148 a0 a1 = some r) : PC Tryz.prog 148 [.val (.int .u32 a0), .val (.int .u8 a1)] (.val (.int .u32 r)) := by
 rw [f148] at h
 refine pc_of9 (N := 24) (rs := [.tmp 4]) Tryz.func148 ?_
 refine AW.sX [0, 1] ?_
 refine AW.sX [0] ?_
 refine AW.seq <| AW.sX [0, 5] ?_
 refine AW.block ?_
 obtain ⟨y9, hy9, h⟩ := bO h
 refine AW.loopO (fun s => ⟨(upd (upd anyF 0 (.val (.int .u32 s.1))) 5 (.val (.int .i64 s.2))), hpL [] [], 8⟩) (fun z e st' => e = Exit.exit 0 ∧ st' = ⟨(upd anyF 0 (.val (.int .u32 z))), hpL [] [], 8⟩) hy9 ?_ ?_ ?_
 ·exact Ent.cq RF.any.qv.qv
 ·clear h hy9
  rintro ⟨s1_0, s1_1⟩ x h
  rw [f148_s1] at h
  refine AW.seq <| AW.sX [0, 5, 12] ?_
  rcases iteO h with ⟨c6, h⟩ | ⟨c6, h⟩
  ·refine AW.ifT rfl c6 <| AW.skip <| thenA_n <| AW.seq <| AW.block <| AW.tX [0, 5, 6] ?_
   refine AW.tX [0, 5, 6] ?_
   refine AW.tX [0, 5, 20] ?_
   rcases iteO h with ⟨c7, h⟩ | ⟨c7, h⟩
   ·refine AW.ifT rfl c7 <| AW.sY [0, 5] ?_
    refine block_n <| thenA_n <| AW.sY [0, 5] ?_
    refine thenA_n ?_
    refine ⟨_, oj h, ?_⟩
    exact Ent.cq RF.any.qv.qv
   ·refine AW.ifF rfl c7 <| AW.skip <| block_n <| thenA_n <| AW.sY [0, 5] ?_
    refine thenA_n ?_
    refine ⟨_, oj h, ?_⟩
    exact Ent.cq RF.any.qv.qv
  ·refine AW.ifF rfl c6 <| AW.exit <| thenA_x <| thenA_x ?_
   refine ⟨_, oj h, _, ?_, rfl, rfl⟩
   exact Ent.cq RF.any.qv
 ·intro e st' hX
  try dsimp only at h
  try dsimp only at hX
  obtain ⟨rfl, rfl⟩ := hX
  refine ⟨_, Ent.refl, ?_⟩
  refine block_x <| thenA_n <| AW.sX [4] ?_
  refine AW.ret ?_
  obtain rfl := oi h
  (simp only [go_sem, seval, finA] <;> try simp)
def f127_s1 (a0 : List Int) : Int × Int → Option ((Int × Int) ⊕ Int)
  | (s1_0, s1_1) => (if s1_1 < (a0.length : Int) then ((ix a0 s1_1).bind fun x11 => ((f148 s1_0 x11).bind fun x12 => some (.inl (x12, IntKind.i64.wrap (s1_1 + 1))))) else some (.inr s1_0))
def f127 (a0 : List Int) : Option Int := ((loopO (f127_s1 a0) (4294967295, 0)).bind fun y14 => some (IntKind.u32.wrap (4294967295 - y14)))
theorem ok127 (a0 : List Int) (r : Int) (h : f127 a0 = some r) : PC Tryz.prog 127 [.sl (List.map enc5 a0)] (.val (.int .u32 r)) := by
 rw [f127] at h
 refine pc_of9 (N := 19) (rs := [.tmp 2]) Tryz.func127 ?_
 refine AW.rX [0] ?_
 refine AW.rX [0, 3] ?_
 refine AW.seq <| AW.rX [0, 3, 4] ?_
 refine AW.block ?_
 obtain ⟨y14, hy14, h⟩ := bO h
 refine AW.loopO (fun s => ⟨(upd (upd (upd anyF 0 (.sl (List.map enc5 a0))) 3 (.val (.int .u32 s.1))) 4 (.val (.int .i64 s.2))), hpL [] [], 8⟩) (fun z e st' => e = Exit.exit 0 ∧ st' = ⟨(upd anyF 3 (.val (.int .u32 z))), hpL [] [], 8⟩) hy14 ?_ ?_ ?_
 ·exact Ent.cq RF.any.qv.qv.qv
 ·clear h hy14
  rintro ⟨s1_0, s1_1⟩ x h
  rw [f127_s1] at h
  refine AW.seq <| AW.rX [0, 3, 4, 8] ?_
  rcases iteO h with ⟨c10, h⟩ | ⟨c10, h⟩
  ·refine AW.ifT rfl c10 <| AW.skip <| thenA_n <| AW.seq <| AW.block ?_
   obtain ⟨x11, hx11, h⟩ := bO h
   obtain ⟨hx11a, hx11b⟩ := ix_some.1 hx11
   obtain ⟨x12, hx12, h⟩ := bO h
   refine AW.vD [0, 3, 4] (ok148 s1_0 x11 x12 hx12) Tryz.call148 ?_
   refine block_n <| thenA_n <| AW.rY [0, 3, 4] ?_
   refine thenA_n ?_
   refine ⟨_, oj h, ?_⟩
   exact Ent.cq RF.any.qv.qv.qv
  ·refine AW.ifF rfl c10 <| AW.exit <| thenA_x <| thenA_x ?_
   refine ⟨_, oj h, _, ?_, rfl, rfl⟩
   exact Ent.cq RF.any.qv
 ·intro e st' hX
  try dsimp only at h
  try dsimp only at hX
  obtain ⟨rfl, rfl⟩ := hX
  refine ⟨_, Ent.refl, ?_⟩
  refine block_x <| thenA_n <| AW.rX [2] ?_
  refine AW.ret ?_
  obtain rfl := oi h
  (simp only [go_sem, seval, finA] <;> try simp)
def f100_s1 : Int × (List Int) × Int → Option ((Int × (List Int) × Int) ⊕ (List Int))
  | (s1_0, s1_1, s1_2) => (if s1_2 < 4 then ((appO? s1_1 [IntKind.u8.wrap (s1_0.tmod 256)]).bind fun x9 => some (.inl (IntKind.u32.wrap (s1_0.tdiv 256), x9, IntKind.i64.wrap (s1_2 + 1)))) else some (.inr s1_1))
def f100 (a0 : List Int) : Option (List Int) := ((f127 a0).bind fun x1 => ((appO? ([] : List Int) a0).bind fun x2 => ((loopO f100_s1 (x1, x2, 0)).bind fun y11 => some y11)))
theorem ok100 (a0 : List Int) (r : (List Int)) (h : f100 a0 = some r) : PC Tryz.prog 100 [.sl (List.map enc5 a0)] (.fr 1 (List.map enc5 r)) := by
 rw [f100] at h
 refine pc_of9 (N := 24) (rs := [.tmp 2]) Tryz.func100 ?_
 refine AW.sX [0] ?_
 obtain ⟨x1, hx1, h⟩ := bO h
 refine AW.rC [0, 3] (ok127 a0 x1 hx1) Tryz.call127 ?_
 obtain ⟨x2, hx2, h⟩ := bO h
 obtain ⟨hx2b, hx2e⟩ := appO?_some.1 hx2
 have hx2f : ∀ id o : Nat, appO 1 1 id (List.map enc5 a0) 0 0 o (some (.row 1 true (([] : List (List AV))))) = some ⟨.own id 0 x2.length, [(o, none), (id, some (.row 1 true (List.map enc5 x2)))]⟩ := fun id o => by
   subst hx2e; rw [appO_ok (by simp) (by simpa using hx2b) (by decide)]; first | (simp [enc5]; done) | (simp [enc5]; omega)
 refine AW.sX [3, 4] ?_
 refine AW.seq <| AW.sX [3, 4, 5] ?_
 refine AW.block ?_
 obtain ⟨y11, hy11, h⟩ := bO h
 refine AW.loopO (fun s => ⟨(upd (upd (upd anyF 3 (.val (.int .u32 s.1))) 4 (.own 8 0 s.2.1.length)) 5 (.val (.int .i64 s.2.2))), hpL [] [some (.row 1 true (List.map enc5 s.2.1))], 9⟩) (fun z e st' => e = Exit.exit 0 ∧ st' = ⟨(upd anyF 4 (.own 8 0 z.length)), hpL [] [some (.row 1 true (List.map enc5 z))], 9⟩) hy11 ?_ ?_ ?_
 ·exact Ent.canq [56] RF.any.qv.qo.qv (.nil _) (.ce (.nil _))
 ·clear h hy11
  rintro ⟨s1_0, s1_1, s1_2⟩ x h
  rw [f100_s1] at h
  refine AW.seq <| AW.tX [3, 4, 5, 12] ?_
  rcases iteO h with ⟨c8, h⟩ | ⟨c8, h⟩
  ·refine AW.ifT rfl c8 <| AW.skip <| thenA_n <| AW.seq <| AW.block ?_
   obtain ⟨x9, hx9, h⟩ := bO h
   obtain ⟨hx9b, hx9e⟩ := appO?_some.1 hx9
   have hx9f : ∀ id o : Nat, appO 1 1 id ([[.val (.int .u8 (IntKind.u8.wrap (s1_0.tmod 256)))]]) 0 s1_1.length o (some (.row 1 true (List.map enc5 s1_1))) = some ⟨.own id 0 x9.length, [(o, none), (id, some (.row 1 true (List.map enc5 x9)))]⟩ := fun id o => by
     subst hx9e; rw [appO_ok (by simp) (by simpa using hx9b) (by decide)]; first | (simp [enc5]; done) | (simp [enc5]; omega)
   refine AW.vX [3, 4, 5] ?_
   refine AW.vY [3, 4, 5] ?_
   refine block_n <| thenA_n <| AW.vY [3, 4, 5] ?_
   refine thenA_n ?_
   refine ⟨_, oj h, ?_⟩
   exact Ent.canq [65] RF.any.qv.qo.qv (.nil _) (.ce (.nil _))
  ·refine AW.ifF rfl c8 <| AW.exit <| thenA_x <| thenA_x ?_
   refine ⟨_, oj h, _, ?_, rfl, rfl⟩
   exact Ent.canq [8] RF.any.qo (.nil _) (.ce (.nil _))
 ·intro e st' hX
  try dsimp only at h
  try dsimp only at hX
  obtain ⟨rfl, rfl⟩ := hX
  refine ⟨_, Ent.refl, ?_⟩
  refine block_x <| thenA_n <| AW.sX [2] ?_
  refine AW.ret ?_
  obtain rfl := oi h
  (simp only [go_sem, seval, finA] <;> try simp)
theorem less {a b : ByteArray} (h : a.size ≤ 4000000000) : f67 a b = some (sLt a b) := by
 have key : ∀ (k : Nat) (i : Nat), i ≤ a.size → a.size - i ≤ k → (∀ j, j < i → (bl a)[j]? = (bl b)[j]?) → (loopO (f67_s1 a b) (i : Int)).bind (fun y => match y with | .inl y => some y | .inr _ => some (decide ((a.size : Int) < (b.size : Int)))) = some (decide ((bl a).drop i < (bl b).drop i)) := by
  intro k
  induction k with
  | zero =>
   intro i hi hk hp
   have hia : i = a.size := by omega
   have hs : f67_s1 a b (i : Int) = some (.inr (.inr ())) := by
    unfold f67_s1; rw [if_neg (by omega)]
   rw [loopO_done hs]
   simp only [Option.bind_some]
   rw [List.drop_of_length_le (l := bl a) (by rw [← size_bl]; omega)]
   by_cases hb : a.size < b.size
   ·have : (bl b).drop i ≠ [] := by rw [ne_eq, List.drop_eq_nil_iff, ← size_bl]; omega
    obtain ⟨x, l, e⟩ := List.exists_cons_of_ne_nil this
    rw [e]; simp; omega
   ·rw [List.drop_of_length_le (l := bl b) (by rw [← size_bl]; omega)]; simp; omega
  | succ k ih =>
   intro i hi hk hp
   by_cases hia : i < a.size
   ·by_cases hib : i < b.size
    ·have ha : i < (bl a).length := by rw [← size_bl]; exact hia
     have hb : i < (bl b).length := by rw [← size_bl]; exact hib
     by_cases he : (bl a)[i] = (bl b)[i]
     ·have hs : f67_s1 a b (i : Int) = some (.inl ((i + 1 : Nat) : Int)) := by
       unfold f67_s1
       rw [if_pos (by omega), if_pos (by omega), ixN ha, ixN hb]
       simp only [Option.bind_some]
       rw [if_pos (by rw [he]), wrapN (by omega)]
      rw [loopO_next hs, ih (i + 1) (by omega) (by omega) (fun j hj => by
       by_cases e : j = i
       ·subst e; rw [List.getElem?_eq_getElem ha, List.getElem?_eq_getElem hb, he]
       ·exact hp j (by omega))]
      rw [List.drop_eq_getElem_cons ha, List.drop_eq_getElem_cons hb, he]
      simp only [List.cons_lt_cons_iff, Nat.lt_irrefl, true_and, UInt8.lt_iff_toNat_lt, false_or]
     ·have hs : f67_s1 a b (i : Int) = some (.inr (.inl (decide (((bl a)[i]).toNat < ((bl b)[i]).toNat)))) := by
       unfold f67_s1
       rw [if_pos (by omega), if_pos (by omega), ixN ha, ixN hb]
       simp only [Option.bind_some]
       rw [if_neg (fun h => he (UInt8.toNat_inj.1 (by omega)))]
       simp
      rw [loopO_done hs]
      simp only [Option.bind_some]
      rw [List.drop_eq_getElem_cons ha, List.drop_eq_getElem_cons hb]
      simp only [List.cons_lt_cons_iff, he, false_and, or_false, UInt8.lt_iff_toNat_lt]
    ·have hs : f67_s1 a b (i : Int) = some (.inr (.inr ())) := by
      unfold f67_s1; rw [if_pos (by omega), if_neg (by omega)]
     rw [loopO_done hs]
     simp only [Option.bind_some]
     rw [List.drop_of_length_le (l := bl b) (by rw [← size_bl]; omega)]
     simp; omega
   ·have hs : f67_s1 a b (i : Int) = some (.inr (.inr ())) := by
     unfold f67_s1; rw [if_neg (by omega)]
    rw [loopO_done hs]
    simp only [Option.bind_some]
    rw [List.drop_of_length_le (l := bl a) (by rw [← size_bl]; omega)]
    by_cases hb : a.size < b.size
    ·have : (bl b).drop i ≠ [] := by rw [ne_eq, List.drop_eq_nil_iff, ← size_bl]; omega
     obtain ⟨x, l, e⟩ := List.exists_cons_of_ne_nil this
     rw [e]; simp; omega
    ·rw [List.drop_of_length_le (l := bl b) (by rw [← size_bl]; omega)]; simp; omega
 have := key a.size 0 (by omega) (by omega) (fun j hj => absurd hj (by omega))
 simp only [List.drop_zero] at this
 unfold f67
 refine this.trans (congrArg some ?_)
 by_cases h : sLt a b = true
 ·rw [h, decide_eq_true ((sLt_iff _ _).1 h)]
 ·rw [Bool.not_eq_true] at h
  rw [h, decide_eq_false (fun q => by rw [(sLt_iff _ _).2 q] at h; cases h)]
theorem sLt_self (a : ByteArray) : sLt a a = false := by
 cases h : sLt a a with
 | false => rfl
 | true => have := sLt_asym h; rw [h] at this; cases this
theorem strI {l : List Int} (h : Byt l) : bytesI (strOfNums l) = l := by
 unfold bytesI bl
 rw [strOfNums_data, List.map_map]
 conv => rhs; rw [← List.map_id l]
 apply List.map_congr_left
 intro x hx
 obtain ⟨h0, h1⟩ := h x hx
 simp only [Function.comp, UInt8.toNat_ofNat', id]
 omega
theorem str_eq {a b : List Int} (ha : Byt a) (hb : Byt b) : strOfNums a = strOfNums b ↔ a = b := ⟨fun h => by rw [← strI ha, h, strI hb], fun h => by rw [h]⟩
theorem byt_bytesI (s : ByteArray) : Byt (bytesI s) := fun x hx => by
 unfold bytesI at hx
 obtain ⟨u, _, rfl⟩ := List.mem_map.1 hx
 have := u.toNat_lt
 omega
theorem Byt.cut {b c : List Int} (h : Byt b) {lo hi : Int} (hc : cutO? b lo hi = some c) : Byt c := fun x hx => by
 obtain ⟨_, rfl⟩ := cutO?_some.1 hc
 exact h x (List.mem_of_mem_drop (List.mem_of_mem_take hx))
theorem cut_len {α : Type} {b c : List α} {lo hi : Int} (hc : cutO? b lo hi = some c) : (c.length : Int) = hi - lo := by
 obtain ⟨⟨h1, h2, h3⟩, rfl⟩ := cutO?_some.1 hc
 simp only [List.length_take, List.length_drop]
 omega
theorem cut_ok {α : Type} {b : List α} {lo hi : Int} (h1 : 0 ≤ lo) (h2 : lo ≤ hi) (h3 : hi ≤ (b.length : Int)) : ∃ c, cutO? b lo hi = some c := ⟨_, cutO?_some.2 ⟨⟨h1, h2, h3⟩, rfl⟩⟩
theorem listEq {α : Type} [DecidableEq α] {step : Int → Option (Int ⊕ (Bool ⊕ Unit))} (a b : List α) (hl : a.length = b.length) (hb : a.length ≤ 1000000)
  (hs : ∀ i : Nat, step (i : Int) = if (i : Int) < (a.length : Int) then (ix a (i : Int)).bind fun x => (ix b (i : Int)).bind fun y => if x = y then some (.inl (IntKind.i64.wrap ((i : Int) + 1))) else some (.inr (.inl false)) else some (.inr (.inr ()))) :
  ∃ r, loopO step 0 = some r ∧ (r = .inl false ∧ a ≠ b ∨ r = .inr () ∧ a = b) := by
 refine loopO_of (fun n s => ∃ i : Nat, s = (i : Int) ∧ i ≤ a.length ∧ n = a.length - i ∧ a.take i = b.take i) ?_ (k := a.length) ⟨0, rfl, by omega, by omega, by simp⟩
 rintro n _ ⟨i, rfl, hi, hn, he⟩
 rw [hs i]
 by_cases hlt : i < a.length
 ·rw [if_pos (by omega), ixN hlt, ixN (by omega : i < b.length)]
  simp only [Option.bind_some]
  by_cases e : a[i] = b[i]'(by omega)
  ·rw [if_pos e, wrapN (by omega)]
   refine .inl ⟨_, n - 1, rfl, by omega, i + 1, rfl, by omega, by omega, ?_⟩
   rw [List.take_succ_eq_append_getElem hlt, List.take_succ_eq_append_getElem (by omega : i < b.length), he, e]
  ·rw [if_neg e]
   exact .inr ⟨_, rfl, .inl ⟨rfl, fun h => e (by subst h; rfl)⟩⟩
 ·rw [if_neg (by omega)]
  refine .inr ⟨_, rfl, .inr ⟨rfl, ?_⟩⟩
  rwa [List.take_of_length_le (by omega), List.take_of_length_le (by omega)] at he
theorem eq161 (a b : List Int) (h : a.length ≤ 1000000) : f161 a b = some (decide (a = b)) := by
 unfold f161
 by_cases hl : a.length = b.length
 ·rw [if_pos (by omega)]
  obtain ⟨r, h1, h2⟩ := listEq (step := f161_s1 a b) a b hl h (fun i => rfl)
  rw [h1]
  rcases h2 with ⟨rfl, h2⟩ | ⟨rfl, h2⟩ <;> simp [h2]
 ·rw [if_neg (by omega)]
  have : a ≠ b := fun e => hl (by rw [e])
  simp [this]
theorem u32_wrap (n : Int) : IntKind.u32.wrap n = n % 4294967296 := by simp [IntKind.wrap, IntKind.bits, IntKind.signed]
theorem xorN {n m : Nat} (hn : n < 2 ^ 32) (hm : m < 2 ^ 32) : xorV .u32 (n : Int) (m : Int) = ((n ^^^ m : Nat) : Int) := by
 show IntKind.u32.wrap (((BitVec.ofInt 32 (n : Int) ^^^ BitVec.ofInt 32 (m : Int)).toNat : Nat) : Int) = _
 rw [u32_wrap, BitVec.toNat_xor, BitVec.ofInt_natCast, BitVec.ofInt_natCast, BitVec.toNat_ofNat, BitVec.toNat_ofNat, Nat.mod_eq_of_lt hn, Nat.mod_eq_of_lt hm]
 have : n ^^^ m < 2 ^ 32 := Nat.xor_lt_two_pow hn hm
 omega
theorem andN1 {n : Nat} (hn : n < 2 ^ 32) : andV .u32 (n : Int) 1 = ((n % 2 : Nat) : Int) := by
 show IntKind.u32.wrap (((BitVec.ofInt 32 (n : Int) &&& BitVec.ofInt 32 1).toNat : Nat) : Int) = _
 rw [u32_wrap, BitVec.toNat_and, BitVec.ofInt_natCast, BitVec.toNat_ofNat, Nat.mod_eq_of_lt hn]
 have : (BitVec.ofInt 32 1).toNat = 1 := by decide
 rw [this, Nat.and_one_is_mod]
 omega
theorem shrN1 {n : Nat} : shrV .u32 (n : Int) 1 = ((n / 2 : Nat) : Int) := by
 show (n : Int).fdiv (2 ^ (min 1 32)) = _
 rw [Int.fdiv_eq_ediv_of_nonneg _ (by decide)]; simp
def U32 (v : Int) : Prop := 0 ≤ v ∧ v < 4294967296
theorem u32_nat {v : Int} (h : U32 v) : ∃ n : Nat, v = (n : Int) ∧ n < 2 ^ 32 := by
 obtain ⟨n, rfl⟩ := Int.eq_ofNat_of_zero_le h.1
 exact ⟨n, rfl, by have := h.2; omega⟩
theorem xor_u32 {v w : Int} (h : U32 v) (k : U32 w) : U32 (xorV .u32 v w) := by
 obtain ⟨n, rfl, hn⟩ := u32_nat h
 obtain ⟨m, rfl, hm⟩ := u32_nat k
 rw [xorN hn hm]
 have : n ^^^ m < 2 ^ 32 := Nat.xor_lt_two_pow hn hm
 exact ⟨by omega, by omega⟩
theorem crc_bit {v : Int} (h : U32 v) : xorV .u32 (shrV .u32 v 1) (andV .u32 3988292384 (IntKind.u32.wrap (0 - (andV .u32 v 1)))) = (if (v.tmod 2) = 1 then xorV .u32 (IntKind.u32.wrap (v.tdiv 2)) 3988292384 else IntKind.u32.wrap (v.tdiv 2)) := by
 obtain ⟨n, rfl, hn⟩ := u32_nat h
 have e1 : ((n : Int).tdiv 2) = ((n / 2 : Nat) : Int) := by rw [Int.tdiv_eq_ediv_of_nonneg (by omega)]; omega
 have e2 : ((n : Int).tmod 2) = ((n % 2 : Nat) : Int) := by rw [Int.tmod_eq_emod_of_nonneg (by omega)]; omega
 have e3 : IntKind.u32.wrap ((n / 2 : Nat) : Int) = ((n / 2 : Nat) : Int) := by rw [u32_wrap]; omega
 rw [shrN1, andN1 hn, e1, e2, e3]
 by_cases hp : n % 2 = 1
 ·rw [hp, if_pos (show ((1 : Nat) : Int) = 1 from rfl)]
  have : andV .u32 3988292384 (IntKind.u32.wrap (0 - ((1 : Nat) : Int))) = 3988292384 := by decide
  rw [this]
 ·have hz : n % 2 = 0 := by omega
  rw [hz, if_neg (by decide)]
  have : andV .u32 3988292384 (IntKind.u32.wrap (0 - ((0 : Nat) : Int))) = ((0 : Nat) : Int) := by decide
  rw [this, xorN (by omega) (by omega)]
  simp
theorem crc_step {v : Int} (h : U32 v) : U32 (if (v.tmod 2) = 1 then xorV .u32 (IntKind.u32.wrap (v.tdiv 2)) 3988292384 else IntKind.u32.wrap (v.tdiv 2)) := by
 have : U32 (IntKind.u32.wrap (v.tdiv 2)) := by rw [u32_wrap]; exact ⟨by omega, by omega⟩
 split
 ·exact xor_u32 this ⟨by decide, by decide⟩
 ·exact this
theorem byte_eq {v c : Int} (h : U32 v) (hc : 0 ≤ c ∧ c < 256) : ∃ r, f180 v c = some r ∧ f148 v c = some r ∧ U32 r := by
 have hc2 : U32 (IntKind.u32.wrap c) := by rw [u32_wrap]; exact ⟨by omega, by omega⟩
 have key : ∃ r r', loopO f180_s1 (xorV .u32 v (IntKind.u32.wrap c), 0) = some r ∧ loopO f148_s1 (xorV .u32 v (IntKind.u32.wrap c), 0) = some r' ∧ (r = r' ∧ U32 r) := by
  refine loopO_two (fun k s t => s = t ∧ U32 s.1 ∧ 0 ≤ s.2 ∧ s.2 ≤ 8 ∧ (k : Int) = 8 - s.2) ?_ (k := 8) ⟨rfl, xor_u32 h hc2, by simp, by simp, by simp⟩
  rintro k ⟨u, i⟩ _ ⟨rfl, hu, h0, h8, hk⟩
  simp only at hu h0 h8 hk
  by_cases hi : i < 8
  ·have w : IntKind.i64.wrap (i + 1) = i + 1 := i64_id (by omega) (by omega)
   have e1 : f180_s1 (u, i) = some (.inl (if (u.tmod 2) = 1 then xorV .u32 (IntKind.u32.wrap (u.tdiv 2)) 3988292384 else IntKind.u32.wrap (u.tdiv 2), i + 1)) := by
    simp only [f180_s1, if_pos hi, crc_bit hu, w]
   have e2 : f148_s1 (u, i) = some (.inl (if (u.tmod 2) = 1 then xorV .u32 (IntKind.u32.wrap (u.tdiv 2)) 3988292384 else IntKind.u32.wrap (u.tdiv 2), i + 1)) := by
    simp only [f148_s1, if_pos hi, w]; split <;> rfl
   exact .inl ⟨_, _, k - 1, e1, e2, by omega, rfl, crc_step hu, by simp only; omega, by simp only; omega, by simp only; omega⟩
  ·exact .inr ⟨u, u, loopO_done (by simp only [f180_s1, if_neg hi]), loopO_done (by simp only [f148_s1, if_neg hi]), rfl, hu⟩
 obtain ⟨r, _, h1, h2, rfl, h3⟩ := key
 exact ⟨r, by simp only [f180, h1, Option.bind_some], by simp only [f148, h2, Option.bind_some], h3⟩
theorem xorAll {v : Int} (h : U32 v) : xorV .u32 (allV .u32) v = IntKind.u32.wrap (4294967295 - v) := by
 obtain ⟨n, rfl, hn⟩ := u32_nat h
 show IntKind.u32.wrap (((BitVec.ofInt 32 4294967295 ^^^ BitVec.ofInt 32 (n : Int)).toNat : Nat) : Int) = _
 have : BitVec.ofInt 32 4294967295 = BitVec.allOnes 32 := by decide
 rw [this, BitVec.xor_comm, BitVec.xor_allOnes, BitVec.toNat_not, BitVec.ofInt_natCast, BitVec.toNat_ofNat, Nat.mod_eq_of_lt hn]
 congr 1; omega
theorem of_eq {b : List Int} (hb : Byt b) (hl : b.length ≤ 1000000) : ∃ r, f175 b = some r ∧ f127 b = some r ∧ U32 r := by
 have key : ∃ r r', loopO (f178_s1 b) (4294967295, 0) = some r ∧ loopO (f127_s1 b) (4294967295, 0) = some r' ∧ (r = r' ∧ U32 r) := by
  refine loopO_two (fun k s t => s = t ∧ U32 s.1 ∧ 0 ≤ s.2 ∧ s.2 ≤ (b.length : Int) ∧ (k : Int) = (b.length : Int) - s.2) ?_ (k := b.length) ⟨rfl, ⟨by decide, by decide⟩, by simp, by simp, by simp⟩
  rintro k ⟨u, i⟩ _ ⟨rfl, hu, h0, h8, hk⟩
  simp only at hu h0 h8 hk
  by_cases hi : i < b.length
  ·have w : IntKind.i64.wrap (i + 1) = i + 1 := i64_id (by omega) (by omega)
   have hlt : i.toNat < b.length := by omega
   have hx : ix b i = some b[i.toNat] := ix_some.2 ⟨h0, List.getElem?_eq_getElem hlt⟩
   obtain ⟨r, r1, r2, r3⟩ := byte_eq hu (hb _ (List.getElem_mem hlt))
   refine .inl ⟨(r, i + 1), (r, i + 1), k - 1, ?_, ?_, by omega, rfl, r3, by simp only; omega, by simp only; omega, by simp only; omega⟩
   ·simp only [f178_s1, if_pos hi, hx, Option.bind_some, f179, r1, w]
   ·simp only [f127_s1, if_pos hi, hx, Option.bind_some, r2, w]
  ·exact .inr ⟨u, u, loopO_done (by simp only [f178_s1, if_neg hi]), loopO_done (by simp only [f127_s1, if_neg hi]), rfl, hu⟩
 obtain ⟨r, _, h1, h2, rfl, h3⟩ := key
 have e0 : xorV .u32 (allV .u32) 0 = 4294967295 := by decide
 refine ⟨IntKind.u32.wrap (4294967295 - r), ?_, ?_, ?_⟩
 ·simp only [f175, f178, e0, h1, Option.bind_some, xorAll h3]
 ·simp only [f127, h2, Option.bind_some]
 ·rw [u32_wrap]; exact ⟨by omega, by omega⟩
theorem put_crc {b : List Int} (hb : Byt b) (hl : b.length ≤ 1000000) : ∃ c, f162 b = some c ∧ f100 b = some c ∧ Byt c ∧ c.length = b.length + 4 := by
 obtain ⟨v, v1, v2, v3⟩ := of_eq hb hl
 obtain ⟨n, rfl, hn⟩ := u32_nat v3
 have sh : ∀ k : Nat, k ≤ 32 → shrV .u32 (n : Int) k = ((n / 2 ^ k : Nat) : Int) := fun k hk => by
  show (n : Int).fdiv (2 ^ (min k 32)) = _
  rw [Nat.min_eq_left hk, Int.fdiv_eq_ediv_of_nonneg _ (Int.le_of_lt (Int.pow_pos (by decide)))]
  simp
 have td : ∀ m : Nat, m < 2 ^ 32 → IntKind.u32.wrap ((m : Int).tdiv 256) = ((m / 256 : Nat) : Int) := fun m hm => by
  rw [Int.tdiv_eq_ediv_of_nonneg (by omega), u32_wrap]; omega
 have tm : ∀ m : Nat, IntKind.u8.wrap ((m : Int).tmod 256) = ((m % 256 : Nat) : Int) := fun m => by
  rw [Int.tmod_eq_emod_of_nonneg (by omega), u8_wrap]; omega
 have w8 : ∀ m : Nat, IntKind.u8.wrap (m : Int) = ((m % 256 : Nat) : Int) := fun m => by rw [u8_wrap]; omega
 have ap : ∀ (l : List Int) (x : Int), l.length ≤ 1000100 → appO? l [x] = some (l ++ [x]) := fun l x h => appO?_some.2 ⟨by simp; omega, rfl⟩
 have h0 : appO? ([] : List Int) b = some b := appO?_some.2 ⟨by simp; omega, by simp⟩
 let x0 : Int := ((n % 256 : Nat) : Int)
 let x1 : Int := ((n / 256 % 256 : Nat) : Int)
 let x2 : Int := ((n / 256 / 256 % 256 : Nat) : Int)
 let x3 : Int := ((n / 256 / 256 / 256 % 256 : Nat) : Int)
 refine ⟨b ++ [x0] ++ [x1] ++ [x2] ++ [x3], ?_, ?_, ?_, by simp⟩
 ·have st : ∀ (l : List Int) (i : Int) (k : Nat) (x : Int), l.length ≤ 1000100 → i < 4 → IntKind.i64.wrap (8 * i) = (k : Int) → k ≤ 32 → IntKind.u8.wrap ((n / 2 ^ k : Nat) : Int) = x → f162_s1 (n : Int) (l, i) = some (.inl (l ++ [x], IntKind.i64.wrap (i + 1))) := fun l i k x hl hi hk hk2 hx => by
   simp only [f162_s1, if_pos hi, hk, guardO_ok (show (0 : Int) ≤ (k : Int) by omega), Option.bind_some, Int.toNat_natCast, sh k hk2, hx, ap l x hl]
  have e0 := st b 0 0 x0 (by omega) (by decide) (by decide) (by decide) (by rw [w8]; simp [x0])
  have e1 := st (b ++ [x0]) 1 8 x1 (by simp; omega) (by decide) (by decide) (by decide) (by rw [w8])
  have e2 := st (b ++ [x0] ++ [x1]) 2 16 x2 (by simp; omega) (by decide) (by decide) (by decide) (by rw [w8]; simp only [x2]; omega)
  have e3 := st (b ++ [x0] ++ [x1] ++ [x2]) 3 24 x3 (by simp; omega) (by decide) (by decide) (by decide) (by rw [w8]; simp only [x3]; omega)
  have e4 : f162_s1 (n : Int) (b ++ [x0] ++ [x1] ++ [x2] ++ [x3], 4) = some (.inr (b ++ [x0] ++ [x1] ++ [x2] ++ [x3])) := by simp only [f162_s1, if_neg (show ¬ (4 : Int) < 4 by decide)]
  have k1 : IntKind.i64.wrap (0 + 1) = 1 := by decide
  have k2 : IntKind.i64.wrap (1 + 1) = 2 := by decide
  have k3 : IntKind.i64.wrap (2 + 1) = 3 := by decide
  have k4 : IntKind.i64.wrap (3 + 1) = 4 := by decide
  rw [k1] at e0; rw [k2] at e1; rw [k3] at e2; rw [k4] at e3
  simp only [f162, v1, f133, h0, Option.bind_some, loopO_next e0, loopO_next e1, loopO_next e2, loopO_next e3, loopO_done e4]
 ·have st : ∀ (m : Nat) (l : List Int) (i : Int) (x : Int), m < 2 ^ 32 → l.length ≤ 1000100 → i < 4 → ((m % 256 : Nat) : Int) = x → f100_s1 ((m : Int), l, i) = some (.inl (((m / 256 : Nat) : Int), l ++ [x], IntKind.i64.wrap (i + 1))) := fun m l i x hm hl hi hx => by
   simp only [f100_s1, if_pos hi, tm, td m hm, hx, ap l x hl, Option.bind_some]
  have e0 := st n b 0 x0 hn (by omega) (by decide) rfl
  have e1 := st (n / 256) (b ++ [x0]) 1 x1 (by omega) (by simp; omega) (by decide) rfl
  have e2 := st (n / 256 / 256) (b ++ [x0] ++ [x1]) 2 x2 (by omega) (by simp; omega) (by decide) rfl
  have e3 := st (n / 256 / 256 / 256) (b ++ [x0] ++ [x1] ++ [x2]) 3 x3 (by omega) (by simp; omega) (by decide) rfl
  have e4 : f100_s1 (((n / 256 / 256 / 256 / 256 : Nat) : Int), b ++ [x0] ++ [x1] ++ [x2] ++ [x3], 4) = some (.inr (b ++ [x0] ++ [x1] ++ [x2] ++ [x3])) := by simp only [f100_s1, if_neg (show ¬ (4 : Int) < 4 by decide)]
  have k1 : IntKind.i64.wrap (0 + 1) = 1 := by decide
  have k2 : IntKind.i64.wrap (1 + 1) = 2 := by decide
  have k3 : IntKind.i64.wrap (2 + 1) = 3 := by decide
  have k4 : IntKind.i64.wrap (3 + 1) = 4 := by decide
  rw [k1] at e0; rw [k2] at e1; rw [k3] at e2; rw [k4] at e3
  simp only [f100, v2, h0, Option.bind_some, loopO_next e0, loopO_next e1, loopO_next e2, loopO_next e3, loopO_done e4]
 ·intro x hx
  simp only [List.mem_append, List.mem_singleton] at hx
  rcases hx with (((hx | rfl) | rfl) | rfl) | rfl
  ·exact hb x hx
  ·simp only [x0]; omega
  ·simp only [x1]; omega
  ·simp only [x2]; omega
  ·simp only [x3]; omega
def f119 (a0 : List Int) (a1 : Int) : Option ((List Int) × Int × Int) := ((f122 a0 a1).bind fun x1 => (if x1.2.2 = 0 then (if 1048576 < x1.1 then some ([], 0, 5) else (if (IntKind.i64.wrap ((a0.length : Int) - x1.2.1)) < (IntKind.i64.wrap ((IntKind.i64.wrap x1.1) + 4)) then some ([], 0, 2) else ((cutO? a0 a1 (IntKind.i64.wrap ((IntKind.i64.wrap (x1.2.1 + (IntKind.i64.wrap x1.1))) + 4))).bind fun x8 => ((f139 x8).bind fun x9 => (if x9.2 = 0 then ((cutO? a0 x1.2.1 (IntKind.i64.wrap ((IntKind.i64.wrap ((IntKind.i64.wrap (x1.2.1 + (IntKind.i64.wrap x1.1))) + 4)) - 4))).bind fun x11 => ((f133 x11).bind fun x12 => some (x12, IntKind.i64.wrap ((IntKind.i64.wrap (x1.2.1 + (IntKind.i64.wrap x1.1))) + 4), 0))) else some ([], 0, x9.2)))))) else some ([], 0, x1.2.2)))
theorem ok119 (a0 : List Int) (a1 : Int) (r : (List Int) × Int × Int) (h : f119 a0 a1 = some r) : PC Tryz.prog 119 [.sl (List.map enc5 a0), .val (.int .i64 a1)] (.tup [.fr 1 (List.map enc5 r.1), .val (.int .i64 r.2.1), .val (.int .i64 r.2.2)]) := by
 rw [f119] at h
 refine pc_of9 (N := 57) (rs := [.tmp 4, .tmp 5, .tmp 6]) Tryz.func119 ?_
 refine AW.rX [0, 1] ?_
 obtain ⟨x1, hx1, h⟩ := bO h
 refine AW.rC [0, 1, 6, 7, 8] (ok122 a0 a1 x1 hx1) Tryz.call122 ?_
 refine AW.seq <| AW.block <| AW.rX [0, 1, 6, 7, 8, 18] ?_
 rcases iteO h with ⟨c5, h⟩ | ⟨c5, h⟩
 ·refine AW.ifF rfl (fun q => q c5) ?_
  refine AW.rX [0, 1, 7, 8, 22] ?_
  rcases iteO h with ⟨c6, h⟩ | ⟨c6, h⟩
  ·refine AW.ifT rfl c6 <| AW.rX [4, 5, 6] ?_
   refine AW.ent (Ent.nilOwn 4 1 (by decide) rfl) ?_
   refine AW.ret <| block_r <| thenA_r ?_
   obtain rfl := oi h
   (simp only [go_sem, seval, finA] <;> try simp)
  ·refine AW.ifF rfl c6 <| AW.rX [0, 1, 7, 8, 25] ?_
   rcases iteO h with ⟨c7, h⟩ | ⟨c7, h⟩
   ·refine AW.ifT rfl c7 <| AW.rX [4, 5, 6] ?_
    refine AW.ent (Ent.nilOwn 4 1 (by decide) rfl) ?_
    refine AW.ret <| block_r <| thenA_r ?_
    obtain rfl := oi h
    (simp only [go_sem, seval, finA] <;> try simp)
   ·refine AW.ifF rfl c7 <| AW.skip <| block_n <| thenA_n <| AW.rX [0, 1, 5, 8] ?_
    refine AW.seq ?_
    obtain ⟨x8, hx8, h⟩ := bO h
    obtain ⟨x9, hx9, h⟩ := bO h
    refine AW.rK [0, 5, 8, 10] fun K hK => ?_
    simp only [go_sem, seval, cut_ss el23 sz5 (ml_enc5 _) hx8]
    refine arC.of (ok139 x8 x9 hx9) Tryz.call139 ?_
    simp only [go_sem, seval, cut_ss el23 sz5 (ml_enc5 _) hx8]
    subst hK
    refine AW.rX [0, 5, 8, 10, 48] ?_
    rcases iteO h with ⟨c10, h⟩ | ⟨c10, h⟩
    ·refine AW.ifF rfl (fun q => q c10) <| AW.skip <| thenA_n ?_
     obtain ⟨x11, hx11, h⟩ := bO h
     obtain ⟨x12, hx12, h⟩ := bO h
     refine AW.rK [4, 5, 6] fun K hK => ?_
     simp only [go_sem, seval, cut_ss el23 sz5 (ml_enc5 _) hx11]
     refine arC.of (ok133 x11 x12 hx12) Tryz.call133 ?_
     simp only [go_sem, seval, cut_ss el23 sz5 (ml_enc5 _) hx11]
     subst hK
     refine AW.ret ?_
     obtain rfl := oi h
     (simp only [go_sem, seval, finA] <;> try simp)
    ·refine AW.ifT rfl c10 <| AW.rX [4, 5, 6] ?_
     refine AW.ent (Ent.nilOwn 4 1 (by decide) rfl) ?_
     refine AW.ret <| thenA_r ?_
     obtain rfl := oi h
     (simp only [go_sem, seval, finA] <;> try simp)
 ·refine AW.ifT rfl c5 <| AW.rX [4, 5, 6] ?_
  refine AW.ent (Ent.nilOwn 4 1 (by decide) rfl) ?_
  refine AW.ret <| block_r <| thenA_r ?_
  obtain rfl := oi h
  (simp only [go_sem, seval, finA] <;> try simp)
def f63 (a0 : List Int) (a1 : Int) : Option ((List Int) × Int × Int) := ((f99 a0 a1).bind fun x1 => (if x1.2.2 = 0 then (if 1048576 < x1.1 then some ([], 0, 5) else (if (IntKind.i64.wrap ((a0.length : Int) - x1.2.1)) < (IntKind.i64.wrap ((IntKind.i64.wrap x1.1) + 4)) then some ([], 0, 2) else ((cutO? a0 a1 (IntKind.i64.wrap ((IntKind.i64.wrap ((IntKind.i64.wrap (x1.2.1 + (IntKind.i64.wrap x1.1))) + 4)) - 4))).bind fun x8 => ((f100 x8).bind fun x9 => ((cutO? a0 a1 (IntKind.i64.wrap ((IntKind.i64.wrap (x1.2.1 + (IntKind.i64.wrap x1.1))) + 4))).bind fun x10 => (if (strOfNums x9) = (strOfNums x10) then ((cutO? a0 x1.2.1 (IntKind.i64.wrap ((IntKind.i64.wrap ((IntKind.i64.wrap (x1.2.1 + (IntKind.i64.wrap x1.1))) + 4)) - 4))).bind fun x12 => some (x12, IntKind.i64.wrap ((IntKind.i64.wrap (x1.2.1 + (IntKind.i64.wrap x1.1))) + 4), 0)) else some ([], 0, 4))))))) else some ([], 0, x1.2.2)))
theorem ok63 (a0 : List Int) (a1 : Int) (r : (List Int) × Int × Int) (h : f63 a0 a1 = some r) : PC Tryz.prog 63 [.sl (List.map enc5 a0), .val (.int .i64 a1)] (.tup [.sl (List.map enc5 r.1), .val (.int .i64 r.2.1), .val (.int .i64 r.2.2)]) := by
 rw [f63] at h
 refine pc_of9 (N := 55) (rs := [.tmp 4, .tmp 5, .tmp 6]) Tryz.func63 ?_
 refine AW.rX [0, 1] ?_
 obtain ⟨x1, hx1, h⟩ := bO h
 refine AW.rC [0, 1, 7, 8, 9] (ok99 a0 a1 x1 hx1) Tryz.call99 ?_
 refine AW.seq <| AW.rX [0, 1, 7, 8, 9, 19] ?_
 rcases iteO h with ⟨c3, h⟩ | ⟨c3, h⟩
 ·refine AW.ifF rfl (fun q => q c3) ?_
  refine AW.skip <| thenA_n <| AW.seq <| AW.rX [0, 1, 7, 8, 22] ?_
  rcases iteO h with ⟨c5, h⟩ | ⟨c5, h⟩
  ·refine AW.ifT rfl c5 <| AW.rX [4, 5, 6] ?_
   refine AW.ent (Ent.w (FrW.put1 (d := 4) Weak.nil)) ?_
   refine AW.ret <| thenA_r ?_
   obtain rfl := oi h
   (simp only [go_sem, seval, finA] <;> try simp)
  ·refine AW.ifF rfl c5 <| AW.skip <| thenA_n <| AW.seq <| AW.rX [0, 1, 7, 8, 30] ?_
   rcases iteO h with ⟨c7, h⟩ | ⟨c7, h⟩
   ·refine AW.ifT rfl c7 <| AW.rX [4, 5, 6] ?_
    refine AW.ent (Ent.w (FrW.put1 (d := 4) Weak.nil)) ?_
    refine AW.ret <| thenA_r ?_
    obtain rfl := oi h
    (simp only [go_sem, seval, finA] <;> try simp)
   ·refine AW.ifF rfl c7 <| AW.skip <| thenA_n <| AW.rX [0, 1, 8, 10] ?_
    refine AW.seq ?_
    obtain ⟨x8, hx8, h⟩ := bO h
    obtain ⟨x9, hx9, h⟩ := bO h
    obtain ⟨x10, hx10, h⟩ := bO h
    refine AW.rG [0, 8, 10, 48] [0,0,0,4,15,31,63,0,0,0,896,1920,4095] (ok100 x8 x9 hx9) Tryz.call100 ?_
    generalize hK : AW Tryz.prog _ _ _ = K
    simp only [go_sem, seval, cut_ss el23 sz5 (ml_enc5 _) hx8, byteNums_map (enc := enc5) (fun _ => rfl), cut_ss el23 sz5 (ml_enc5 _) hx10]
    subst hK
    rcases iteO h with ⟨c11, h⟩ | ⟨c11, h⟩
    ·refine AW.ifF rfl (fun q => q c11) <| AW.skip <| thenA_n ?_
     obtain ⟨x12, hx12, h⟩ := bO h
     refine AW.rK [4, 5, 6] fun K hK => ?_
     simp only [go_sem, seval, cut_ss el23 sz5 (ml_enc5 _) hx12]
     subst hK
     refine AW.ret ?_
     obtain rfl := oi h
     (simp only [go_sem, seval, finA] <;> try simp)
    ·refine AW.ifT rfl c11 <| AW.rX [4, 5, 6] ?_
     refine AW.ent (Ent.w (FrW.put1 (d := 4) Weak.nil)) ?_
     refine AW.ret <| thenA_r ?_
     obtain rfl := oi h
     (simp only [go_sem, seval, finA] <;> try simp)
 ·refine AW.ifT rfl c3 <| AW.rX [4, 5, 6] ?_
  refine AW.ent (Ent.w (FrW.put1 (d := 4) Weak.nil)) ?_
  refine AW.ret <| thenA_r ?_
  obtain rfl := oi h
  (simp only [go_sem, seval, finA] <;> try simp)
def f141 (a0 : List ByteArray) : Option Pair := ((a0[0]?).bind fun x1 => ((a0[1]?).bind fun x2 => some ⟨x1, x2⟩))
theorem ok141 (a0 : List ByteArray) (r : Pair) (h : f141 a0 = some r) : PC Tryz.prog 141 [.sl (List.map enc9 a0)] (.agg (encPair r)) := by
 rw [f141] at h
 refine pc_of9 (N := 10) (rs := [.cell 2 134]) Tryz.func141 ?_
 refine AW.rX [0, 2] ?_
 obtain ⟨x1, hx1, h⟩ := bO h
 obtain ⟨x2, hx2, h⟩ := bO h
 refine AW.re [2] [0,1,3,0,8,24,63,127] ?_
 generalize hK : AW Tryz.prog _ _ _ = K
 simp only [go_sem, seval, hx1, hx2]
 subst hK
 refine AW.ret ?_
 obtain rfl := oi h
 (simp only [go_sem, seval, finA] <;> try simp)
def f140_141_s4 (a0 : List Int) (a2 : Int) : Int × (List ByteArray) × Int → Option ((Int × (List ByteArray) × Int) ⊕ (((List Pair) × Int × Int) ⊕ (Int × (List ByteArray))))
  | (s4_0, s4_1, s4_2) => (if s4_2 < a2 then ((f145 a0 s4_0 65536).bind fun x62 => (if x62.2.2 = 0 then ((appO? s4_1 [x62.1]).bind fun x64 => some (.inl (x62.2.1, x64, IntKind.i64.wrap (s4_2 + 1)))) else some (.inr (.inl ([], 0, x62.2.2))))) else some (.inr (.inr (s4_0, s4_1))))
def f140_141_s1 (a0 : List Int) (a2 : Int) (x1 : Int × Int × Int) : Int × (List Pair) × Int → Option ((Int × (List Pair) × Int) ⊕ (((List Pair) × Int × Int) ⊕ (Int × (List Pair))))
  | (s1_0, s1_1, s1_2) => (if s1_2 < x1.1 then ((loopO (f140_141_s4 a0 a2) (s1_0, [], 0)).bind fun y65 => match y65 with | .inl y66 => some (.inr (.inl y66)) | .inr (y67, y68) => ((f141 y68).bind fun x69 => ((appO? s1_1 [x69]).bind fun x70 => some (.inl (y67, x70, IntKind.u64.wrap (s1_2 + 1)))))) else some (.inr (.inr (s1_0, s1_1))))
def f140_141_j1 (a0 : List Int) (a2 : Int) (x1 : Int × Int × Int) : Int → Option ((List Pair) × Int × Int)
  | j1_0 => (if j1_0 = 0 then ((loopO (f140_141_s1 a0 a2 x1) (x1.2.1, [], 0)).bind fun y71 => match y71 with | .inl y72 => some y72 | .inr (y73, y74) => some (y74, y73, 0)) else some ([], 0, j1_0))
def f140_141 (a0 : List Int) (a1 : Int) (a2 : Int) : Option ((List Pair) × Int × Int) := ((f122 a0 a1).bind fun x1 => (if x1.2.2 = 0 then (if 65536 < x1.1 then f140_141_j1 a0 a2 x1 9 else f140_141_j1 a0 a2 x1 x1.2.2) else f140_141_j1 a0 a2 x1 x1.2.2))
theorem ok140_141 (a0 : List Int) (a1 : Int) (a2 : Int) (r : (List Pair) × Int × Int) (h : f140_141 a0 a1 a2 = some r) : PC Tryz.prog 140 [.sl (List.map enc5 a0), .val (.int .i64 a1), .val (.int .i64 a2), .clo (.func 141) [] []] (.tup [.fr 2 (List.map encPair r.1), .val (.int .i64 r.2.1), .val (.int .i64 r.2.2)]) := by
 rw [f140_141] at h
 refine pc_of9 (N := 63) (rs := [.tmp 8, .tmp 9, .tmp 10]) Tryz.func140 ?_
 refine AW.sX [0, 1, 2, 3, 8] ?_
 obtain ⟨x1, hx1, h⟩ := bO h
 refine AW.rC [0, 1, 2, 3, 8, 10, 11] (ok122 a0 a1 x1 hx1) Tryz.call122 ?_
 refine AW.join (fun s => ⟨(upd (upd (upd (upd (upd (upd (upd anyF 0 (.sl (List.map enc5 a0))) 1 (.val (.int .i64 x1.2.1))) 2 (.val (.int .i64 a2))) 3 (.clo (.func 141) [] [])) 8 (.val (.slice none 0 0))) 10 (.val (.int .i64 s))) 11 (.val (.int .u64 x1.1))), hpL [] [], 8⟩) (fun s => f140_141_j1 a0 a2 x1 s = some r) ?_ ?_
 ·rcases iteO h with ⟨c75, h⟩ | ⟨c75, h⟩
  ·refine AW.sX [0, 1, 2, 3, 8, 10, 11, 28] ?_
   rcases iteO h with ⟨c76, h⟩ | ⟨c76, h⟩
   ·refine AW.ifT rfl c76 <| AW.sY [0, 1, 2, 3, 8, 10, 11] ?_
    refine thenA_n ?_
    refine ⟨_, h, ?_⟩
    exact Ent.cq RF.any.qv.qv.qv.qt.qv.qv.qv
   ·refine AW.ifF rfl c76 <| AW.skip <| thenA_n ?_
    refine ⟨_, h, ?_⟩
    exact Ent.cq RF.any.qv.qv.qv.qt.qv.qv.qv
  ·refine AW.sX [0, 1, 2, 3, 8, 10, 11, 28] ?_
   refine AW.ifBF rfl rfl <| AW.skip <| thenA_n ?_
   refine ⟨_, h, ?_⟩
   exact Ent.cq RF.any.qv.qv.qv.qt.qv.qv.qv
 ·clear h
  rintro j1_0 h
  rw [f140_141_j1] at h
  refine AW.seq <| AW.rX [0, 1, 2, 3, 8, 10, 11, 30] ?_
  rcases iteO h with ⟨c5, h⟩ | ⟨c5, h⟩
  ·refine AW.ifF rfl (fun q => q c5) ?_
   refine AW.skip <| thenA_n <| AW.seq <| AW.rX [0, 1, 2, 3, 8, 32, 33] ?_
   refine AW.block ?_
   obtain ⟨y71, hy71, h⟩ := bO h
   refine AW.loopO (fun s => ⟨(upd (upd (upd (upd (upd (upd (upd anyF 0 (.sl (List.map enc5 a0))) 1 (.val (.int .i64 s.1))) 2 (.val (.int .i64 a2))) 3 (.clo (.func 141) [] [])) 8 (.own 8 0 s.2.1.length)) 32 (.val (.int .u64 x1.1))) 33 (.val (.int .u64 s.2.2))), hpL [] [some (.row 2 true (List.map encPair s.2.1))], 9⟩) (fun y e st' => match y with | .inl z => e = Exit.ret ∧ finA Tryz.prog [.tmp 8, .tmp 9, .tmp 10] (.tup [.fr 2 (List.map encPair z.1), .val (.int .i64 z.2.1), .val (.int .i64 z.2.2)]) .ret st' | .inr z => e = Exit.exit 0 ∧ st' = ⟨(upd (upd anyF 1 (.val (.int .i64 z.1))) 8 (.own 8 0 z.2.length)), hpL [] [some (.row 2 true (List.map encPair z.2))], 9⟩) hy71 ?_ ?_ ?_
   ·refine Ent.trans (Ent.nilOwn 8 2 (by decide) rfl) ?_
    exact Ent.canq [40] RF.any.qv.qv.qv.qt.qo.qv.qv (.nil _) (.ce (.nil _))
   ·clear h hy71
    rintro ⟨s1_0, s1_1, s1_2⟩ x h
    rw [f140_141_s1] at h
    refine AW.rX [0, 1, 2, 3, 8, 32, 33, 34] ?_
    refine AW.seq ?_
    rcases iteO h with ⟨c47, h⟩ | ⟨c47, h⟩
    ·refine AW.ifT rfl c47 <| AW.skip <| thenA_n <| AW.seq <| AW.block <| AW.rX [0, 1, 2, 3, 8, 12, 32, 33] ?_
     refine AW.seq <| AW.rX [0, 1, 2, 3, 8, 12, 32, 33, 35, 36] ?_
     refine AW.block ?_
     obtain ⟨y65, hy65, h⟩ := bO h
     refine AW.loopO (fun s => ⟨(upd (upd (upd (upd (upd (upd (upd (upd (upd (upd anyF 0 (.sl (List.map enc5 a0))) 1 (.val (.int .i64 s.1))) 2 (.val (.int .i64 a2))) 3 (.clo (.func 141) [] [])) 8 (.own 8 0 s1_1.length)) 12 (.own 9 0 s.2.1.length)) 32 (.val (.int .u64 x1.1))) 33 (.val (.int .u64 s1_2))) 35 (.val (.int .i64 a2))) 36 (.val (.int .i64 s.2.2))), hpL [] [some (.row 2 true (List.map encPair s1_1)), some (.row 1 true (List.map enc9 s.2.1))], 10⟩) (fun y e st' => match y with | .inl z => e = Exit.ret ∧ finA Tryz.prog [.tmp 8, .tmp 9, .tmp 10] (.tup [.fr 2 (List.map encPair z.1), .val (.int .i64 z.2.1), .val (.int .i64 z.2.2)]) .ret st' | .inr z => e = Exit.exit 2 ∧ st' = ⟨(upd (upd (upd (upd (upd (upd (upd (upd anyF 0 (.sl (List.map enc5 a0))) 1 (.val (.int .i64 z.1))) 2 (.val (.int .i64 a2))) 3 (.clo (.func 141) [] [])) 8 (.own 8 0 s1_1.length)) 12 (.own 9 0 z.2.length)) 32 (.val (.int .u64 x1.1))) 33 (.val (.int .u64 s1_2))), hpL [] [some (.row 2 true (List.map encPair s1_1)), some (.row 1 true (List.map enc9 z.2))], 10⟩) hy65 ?_ ?_ ?_
     ·refine Ent.trans (Ent.nilOwn 12 1 (by decide) rfl) ?_
      exact Ent.canq [8, 41] RF.any.qv.qv.qv.qt.qo.qo.qv.qv.qv.qv (.nil _) (.ce (.ce (.nil _)))
     ·clear h hy65
      rintro ⟨s4_0, s4_1, s4_2⟩ x h
      rw [f140_141_s4] at h
      refine AW.rX [0, 1, 2, 3, 8, 12, 32, 33, 35, 36, 37] ?_
      refine AW.seq ?_
      rcases iteO h with ⟨c61, h⟩ | ⟨c61, h⟩
      ·refine AW.ifT rfl c61 <| AW.skip <| thenA_n <| AW.seq <| AW.block ?_
       obtain ⟨x62, hx62, h⟩ := bO h
       refine AW.rC [0, 2, 3, 8, 12, 13, 14, 15, 32, 33, 35, 36] (ok145 a0 s4_0 65536 x62 hx62) Tryz.call145 ?_
       refine AW.seq <| AW.rX [0, 2, 3, 8, 12, 13, 14, 15, 32, 33, 35, 36, 46] ?_
       rcases iteO h with ⟨c63, h⟩ | ⟨c63, h⟩
       ·refine AW.ifF rfl (fun q => q c63) <| AW.skip <| thenA_n ?_
        obtain ⟨x64, hx64, h⟩ := bO h
        obtain ⟨hx64b, hx64e⟩ := appO?_some.1 hx64
        have hx64f : ∀ id o : Nat, appO 1 16 id ([[.val (.string x62.1)]]) 0 s4_1.length o (some (.row 1 true (List.map enc9 s4_1))) = some ⟨.own id 0 x64.length, [(o, none), (id, some (.row 1 true (List.map enc9 x64)))]⟩ := fun id o => by
          subst hx64e; rw [appO_ok (by simp) (by simpa using hx64b) (by decide)]; first | (simp [enc9]; done) | (simp [enc9]; omega)
        refine AW.vY [0, 1, 2, 3, 8, 12, 32, 33, 35, 36] ?_
        refine block_n <| thenA_n <| AW.rY [0, 1, 2, 3, 8, 12, 32, 33, 35, 36] ?_
        refine thenA_n ?_
        refine ⟨_, oj h, ?_⟩
        exact Ent.canq [8, 138] RF.any.qv.qv.qv.qt.qo.qo.qv.qv.qv.qv (.nil _) (.ce (.ce (.nil _)))
       ·refine AW.ifT rfl c63 <| AW.rX [8, 9, 10] ?_
        refine AW.ent (Ent.nilOwn 8 2 (by decide) rfl) ?_
        refine AW.ret <| thenA_r <| block_r <| thenA_r <| thenA_r ?_
        refine ⟨_, oj h, _, Ent.refl, rfl, ?_⟩
        (simp only [go_sem, seval, finA] <;> try simp)
      ·refine AW.ifF rfl c61 <| AW.exit <| thenA_x <| thenA_x ?_
       refine ⟨_, oj h, _, ?_, rfl, rfl⟩
       exact Ent.canq [8, 9] RF.any.qv.qv.qv.qt.qo.qo.qv.qv (.nil _) (.ce (.ce (.nil _)))
     ·intro e st' hX
      rcases y65 with y66 | ⟨y67, y68⟩ <;> dsimp only at h hX
      ·obtain ⟨rfl, hf⟩ := hX
       refine ⟨_, Ent.refl, ?_⟩
       refine block_r <| thenA_r <| block_r <| thenA_r <| thenA_r ?_
       refine ⟨_, oj h, _, Ent.refl, rfl, ?_⟩
       exact hf
      ·obtain ⟨rfl, rfl⟩ := hX
       refine ⟨_, Ent.refl, ?_⟩
       refine block_x <| thenA_n ?_
       obtain ⟨x69, hx69, h⟩ := bO h
       obtain ⟨x70, hx70, h⟩ := bO h
       obtain ⟨hx70b, hx70e⟩ := appO?_some.1 hx70
       have hx70f : ∀ id o : Nat, appO 2 32 id ([[.val (.string x69.Key), .val (.string x69.Val)]]) 0 s1_1.length o (some (.row 2 true (List.map encPair s1_1))) = some ⟨.own id 0 x70.length, [(o, none), (id, some (.row 2 true (List.map encPair x70)))]⟩ := fun id o => by
         subst hx70e; rw [appO_ok (by simp) (by simpa using hx70b) (by decide)]; first | (simp [encPair]; done) | (simp [encPair]; omega)
       refine AW.vD [0, 1, 2, 3, 8, 32, 33] (ok141 y68 x69 hx69) Tryz.call141 ?_
       refine block_n <| thenA_n <| AW.rY [0, 1, 2, 3, 8, 32, 33] ?_
       refine thenA_n ?_
       refine ⟨_, oj h, ?_⟩
       exact Ent.canq [50] RF.any.qv.qv.qv.qt.qo.qv.qv (.nil _) (.ce (.nil _))
    ·refine AW.ifF rfl c47 <| AW.exit <| thenA_x <| thenA_x ?_
     refine ⟨_, oj h, _, ?_, rfl, rfl⟩
     exact Ent.canq [8] RF.any.qv.qo (.nil _) (.ce (.nil _))
   ·intro e st' hX
    rcases y71 with y72 | ⟨y73, y74⟩ <;> dsimp only at h hX
    ·obtain ⟨rfl, hf⟩ := hX
     refine ⟨_, Ent.refl, ?_⟩
     refine block_r <| thenA_r ?_
     obtain rfl := oi h
     exact hf
    ·obtain ⟨rfl, rfl⟩ := hX
     refine ⟨_, Ent.refl, ?_⟩
     refine block_x <| thenA_n <| AW.rX [8, 9, 10] ?_
     refine AW.ret ?_
     obtain rfl := oi h
     (simp only [go_sem, seval, finA] <;> try simp)
  ·refine AW.ifT rfl c5 <| AW.rX [8, 9, 10] ?_
   refine AW.ent (Ent.nilOwn 8 2 (by decide) rfl) ?_
   refine AW.ret <| thenA_r ?_
   obtain rfl := oi h
   (simp only [go_sem, seval, finA] <;> try simp)
def f120 (a0 : List Int) (a1 : Int) : Option ((List Pair) × Int × Int) := ((f140_141 a0 a1 2).bind fun x1 => some (x1.1, x1.2.1, x1.2.2))
theorem ok120 (a0 : List Int) (a1 : Int) (r : (List Pair) × Int × Int) (h : f120 a0 a1 = some r) : PC Tryz.prog 120 [.sl (List.map enc5 a0), .val (.int .i64 a1)] (.tup [.fr 2 (List.map encPair r.1), .val (.int .i64 r.2.1), .val (.int .i64 r.2.2)]) := by
 rw [f120] at h
 refine pc_of9 (N := 13) (rs := [.tmp 4, .tmp 5, .tmp 6]) Tryz.func120 ?_
 refine AW.rX [0, 1] ?_
 obtain ⟨x1, hx1, h⟩ := bO h
 refine AW.rC [4, 5, 6] (PC.norm (us := [.sl (List.map enc5 a0), .val (.int .i64 a1), .val (.int .i64 2), .val (.func (.func 141) #[] #[])]) (ok140_141 a0 a1 2 x1 hx1) (by first | rfl | simp [norm, normL, normR, go_sem])) Tryz.call140 ?_
 refine AW.ret ?_
 obtain rfl := oi h
 (simp only [go_sem, seval, finA] <;> try simp)
def f101_s1 (a0 : List Int) (a2 : Int) (x1 : Int × Int × Int) : Int × (List ByteArray) × Int → Option ((Int × (List ByteArray) × Int) ⊕ (((List ByteArray) × Int × Int) ⊕ (Int × (List ByteArray))))
  | (s1_0, s1_1, s1_2) => (if s1_2 < (IntKind.i64.wrap ((IntKind.i64.wrap x1.1) * a2)) then ((f102 a0 s1_0 65536).bind fun x17 => (if x17.2.2 = 0 then ((appO? s1_1 [x17.1]).bind fun x19 => some (.inl (x17.2.1, x19, IntKind.i64.wrap (s1_2 + 1)))) else some (.inr (.inl ([], 0, x17.2.2))))) else some (.inr (.inr (s1_0, s1_1))))
def f101 (a0 : List Int) (a1 : Int) (a2 : Int) : Option ((List ByteArray) × Int × Int) := ((f99 a0 a1).bind fun x1 => (if x1.2.2 = 0 then (if 65536 < x1.1 then some ([], 0, 9) else ((loopO (f101_s1 a0 a2 x1) (x1.2.1, [], 0)).bind fun y20 => match y20 with | .inl y21 => some y21 | .inr (y22, y23) => some (y23, y22, 0))) else some ([], 0, x1.2.2)))
theorem ok101 (a0 : List Int) (a1 : Int) (a2 : Int) (r : (List ByteArray) × Int × Int) (h : f101 a0 a1 a2 = some r) : PC Tryz.prog 101 [.sl (List.map enc5 a0), .val (.int .i64 a1), .val (.int .i64 a2)] (.tup [.fr 1 (List.map enc9 r.1), .val (.int .i64 r.2.1), .val (.int .i64 r.2.2)]) := by
 rw [f101] at h
 refine pc_of9 (N := 54) (rs := [.tmp 6, .tmp 7, .tmp 8]) Tryz.func101 ?_
 refine AW.rX [0, 1, 2] ?_
 obtain ⟨x1, hx1, h⟩ := bO h
 refine AW.rC [0, 2, 9, 10, 11] (ok99 a0 a1 x1 hx1) Tryz.call99 ?_
 refine AW.seq <| AW.rX [0, 2, 9, 10, 11, 25] ?_
 rcases iteO h with ⟨c3, h⟩ | ⟨c3, h⟩
 ·refine AW.ifF rfl (fun q => q c3) ?_
  refine AW.skip <| thenA_n <| AW.seq <| AW.rX [0, 2, 9, 10, 28] ?_
  rcases iteO h with ⟨c5, h⟩ | ⟨c5, h⟩
  ·refine AW.ifT rfl c5 <| AW.rX [6, 7, 8] ?_
   refine AW.ent (Ent.nilOwn 6 1 (by decide) rfl) ?_
   refine AW.ret <| thenA_r ?_
   obtain rfl := oi h
   (simp only [go_sem, seval, finA] <;> try simp)
  ·refine AW.ifF rfl c5 <| AW.skip <| thenA_n <| AW.rX [0, 2, 9, 10, 12] ?_
   refine AW.seq <| AW.rX [0, 2, 9, 10, 12, 13] ?_
   refine AW.block ?_
   obtain ⟨y20, hy20, h⟩ := bO h
   refine AW.loopO (fun s => ⟨(upd (upd (upd (upd (upd (upd anyF 0 (.sl (List.map enc5 a0))) 2 (.val (.int .i64 a2))) 9 (.val (.int .u64 x1.1))) 10 (.val (.int .i64 s.1))) 12 (.own 8 0 s.2.1.length)) 13 (.val (.int .i64 s.2.2))), hpL [] [some (.row 1 true (List.map enc9 s.2.1))], 9⟩) (fun y e st' => match y with | .inl z => e = Exit.ret ∧ finA Tryz.prog [.tmp 6, .tmp 7, .tmp 8] (.tup [.fr 1 (List.map enc9 z.1), .val (.int .i64 z.2.1), .val (.int .i64 z.2.2)]) .ret st' | .inr z => e = Exit.exit 0 ∧ st' = ⟨(upd (upd anyF 10 (.val (.int .i64 z.1))) 12 (.own 8 0 z.2.length)), hpL [] [some (.row 1 true (List.map enc9 z.2))], 9⟩) hy20 ?_ ?_ ?_
   ·refine Ent.trans (Ent.nilOwn 12 1 (by decide) rfl) ?_
    exact Ent.canq [160] RF.any.qv.qv.qv.qv.qo.qv (.nil _) (.ce (.nil _))
   ·clear h hy20
    rintro ⟨s1_0, s1_1, s1_2⟩ x h
    rw [f101_s1] at h
    refine AW.seq <| AW.rX [0, 2, 9, 10, 12, 13, 34] ?_
    rcases iteO h with ⟨c16, h⟩ | ⟨c16, h⟩
    ·refine AW.ifT rfl c16 <| AW.skip <| thenA_n <| AW.seq <| AW.block ?_
     obtain ⟨x17, hx17, h⟩ := bO h
     refine AW.rC [0, 2, 9, 12, 13, 14, 15, 16] (ok102 a0 s1_0 65536 x17 hx17) Tryz.call102 ?_
     refine AW.seq <| AW.rX [0, 2, 9, 12, 13, 14, 15, 16, 45] ?_
     rcases iteO h with ⟨c18, h⟩ | ⟨c18, h⟩
     ·refine AW.ifF rfl (fun q => q c18) <| AW.skip <| thenA_n ?_
      obtain ⟨x19, hx19, h⟩ := bO h
      obtain ⟨hx19b, hx19e⟩ := appO?_some.1 hx19
      have hx19f : ∀ id o : Nat, appO 1 16 id ([[.val (.string x17.1)]]) 0 s1_1.length o (some (.row 1 true (List.map enc9 s1_1))) = some ⟨.own id 0 x19.length, [(o, none), (id, some (.row 1 true (List.map enc9 x19)))]⟩ := fun id o => by
        subst hx19e; rw [appO_ok (by simp) (by simpa using hx19b) (by decide)]; first | (simp [enc9]; done) | (simp [enc9]; omega)
      refine AW.sX [0, 2, 9, 12, 13, 15] ?_
      refine AW.rY [0, 2, 9, 10, 12, 13] ?_
      refine block_n <| thenA_n <| AW.rY [0, 2, 9, 10, 12, 13] ?_
      refine thenA_n ?_
      refine ⟨_, oj h, ?_⟩
      exact Ent.canq [177] RF.any.qv.qv.qv.qv.qo.qv (.nil _) (.ce (.nil _))
     ·refine AW.ifT rfl c18 <| AW.rX [6, 7, 8] ?_
      refine AW.ent (Ent.nilOwn 6 1 (by decide) rfl) ?_
      refine AW.ret <| thenA_r <| block_r <| thenA_r <| thenA_r ?_
      refine ⟨_, oj h, _, Ent.refl, rfl, ?_⟩
      (simp only [go_sem, seval, finA] <;> try simp)
    ·refine AW.ifF rfl c16 <| AW.exit <| thenA_x <| thenA_x ?_
     refine ⟨_, oj h, _, ?_, rfl, rfl⟩
     exact Ent.canq [8] RF.any.qv.qo (.nil _) (.ce (.nil _))
   ·intro e st' hX
    rcases y20 with y21 | ⟨y22, y23⟩ <;> dsimp only at h hX
    ·obtain ⟨rfl, hf⟩ := hX
     refine ⟨_, Ent.refl, ?_⟩
     refine block_r <| thenA_r ?_
     obtain rfl := oi h
     exact hf
    ·obtain ⟨rfl, rfl⟩ := hX
     refine ⟨_, Ent.refl, ?_⟩
     refine block_x <| thenA_n <| AW.rX [6, 7, 8] ?_
     refine AW.ret ?_
     obtain rfl := oi h
     (simp only [go_sem, seval, finA] <;> try simp)
 ·refine AW.ifT rfl c3 <| AW.rX [6, 7, 8] ?_
  refine AW.ent (Ent.nilOwn 6 1 (by decide) rfl) ?_
  refine AW.ret <| thenA_r ?_
  obtain rfl := oi h
  (simp only [go_sem, seval, finA] <;> try simp)
def f64_s1 (x1 : (List ByteArray) × Int × Int) : (List Pair) × Int → Option (((List Pair) × Int) ⊕ (List Pair))
  | (s1_0, s1_1) => (if (IntKind.i64.wrap (s1_1 + 1)) < ((x1.1.length : Nat) : Int) then ((ix x1.1 s1_1).bind fun x13 => ((ix x1.1 (IntKind.i64.wrap (s1_1 + 1))).bind fun x14 => ((appO? s1_0 [⟨x13, x14⟩]).bind fun x15 => some (.inl (x15, IntKind.i64.wrap (s1_1 + 2)))))) else some (.inr s1_0))
def f64 (a0 : List Int) (a1 : Int) : Option ((List Pair) × Int × Int) := ((f101 a0 a1 2).bind fun x1 => ((loopO (f64_s1 x1) ([], 0)).bind fun y17 => some (y17, x1.2.1, x1.2.2)))
theorem ok64 (a0 : List Int) (a1 : Int) (r : (List Pair) × Int × Int) (h : f64 a0 a1 = some r) : PC Tryz.prog 64 [.sl (List.map enc5 a0), .val (.int .i64 a1)] (.tup [.fr 2 (List.map encPair r.1), .val (.int .i64 r.2.1), .val (.int .i64 r.2.2)]) := by
 rw [f64] at h
 refine pc_of9 (N := 42) (rs := [.tmp 4, .tmp 5, .tmp 6]) Tryz.func64 ?_
 refine AW.rX [0, 1] ?_
 obtain ⟨x1, hx1, h⟩ := bO h
 refine AW.rC [7, 8, 9] (ok101 a0 a1 2 x1 hx1) Tryz.call101 ?_
 refine AW.rX [7, 8, 9, 10] ?_
 refine AW.seq <| AW.rX [7, 8, 9, 10, 11] ?_
 refine AW.block ?_
 obtain ⟨y17, hy17, h⟩ := bO h
 refine AW.loopO (fun s => ⟨(upd (upd (upd (upd (upd anyF 7 (.own 8 0 x1.1.length)) 8 (.val (.int .i64 x1.2.1))) 9 (.val (.int .i64 x1.2.2))) 10 (.own 9 0 s.1.length)) 11 (.val (.int .i64 s.2))), hpL [] [some (.row 1 true (List.map enc9 x1.1)), some (.row 2 true (List.map encPair s.1))], 10⟩) (fun z e st' => e = Exit.exit 0 ∧ st' = ⟨(upd (upd (upd anyF 8 (.val (.int .i64 x1.2.1))) 9 (.val (.int .i64 x1.2.2))) 10 (.own 8 0 z.length)), hpL [] [some (.row 2 true (List.map encPair z))], 9⟩) hy17 ?_ ?_ ?_
 ·refine Ent.trans (Ent.nilOwn 10 2 (by decide) rfl) ?_
  exact Ent.canq [48, 128] RF.any.qo.qv.qv.qo.qv (.nil _) (.ce (.ce (.nil _)))
 ·clear h hy17
  rintro ⟨s1_0, s1_1⟩ x h
  rw [f64_s1] at h
  refine AW.seq <| AW.rX [7, 8, 9, 10, 11, 23] ?_
  rcases iteO h with ⟨c12, h⟩ | ⟨c12, h⟩
  ·refine AW.ifT rfl c12 <| AW.skip <| thenA_n <| AW.seq <| AW.block ?_
   obtain ⟨x13, hx13, h⟩ := bO h
   obtain ⟨hx13a, hx13b⟩ := ix_some.1 hx13
   obtain ⟨x14, hx14, h⟩ := bO h
   obtain ⟨hx14a, hx14b⟩ := ix_some.1 hx14
   obtain ⟨x15, hx15, h⟩ := bO h
   obtain ⟨hx15b, hx15e⟩ := appO?_some.1 hx15
   have hx15f : ∀ id o : Nat, appO 2 32 id ([[.val (.string x13), .val (.string x14)]]) 0 s1_0.length o (some (.row 2 true (List.map encPair s1_0))) = some ⟨.own id 0 x15.length, [(o, none), (id, some (.row 2 true (List.map encPair x15)))]⟩ := fun id o => by
     subst hx15e; rw [appO_ok (by simp) (by simpa using hx15b) (by decide)]; first | (simp [encPair]; done) | (simp [encPair]; omega)
   refine AW.rf [7, 8, 9, 10, 11] [0,0,0,6,14,0,0,64,224,480,1022,2046,4095,8191] ?_
   generalize hK : inBlockA _ _ Exit.normal = K
   simp only [go_sem, seval, natOf_le hx13a, hx13b, ix_lt hx13b, natOf_le hx14a, hx14b, ix_lt hx14b, hx15f]
   subst hK
   refine block_n <| thenA_n <| AW.rY [7, 8, 9, 10, 11] ?_
   refine thenA_n ?_
   refine ⟨_, oj h, ?_⟩
   exact Ent.canq [8, 146] RF.any.qo.qv.qv.qo.qv (.nil _) (.ce (.ce (.nil _)))
  ·refine AW.ifF rfl c12 <| AW.exit <| thenA_x <| thenA_x ?_
   refine ⟨_, oj h, _, ?_, rfl, rfl⟩
   exact Ent.canq [9] RF.any.qv.qv.qo (.nil _) (.ce (.nil _))
 ·intro e st' hX
  try dsimp only at h
  try dsimp only at hX
  obtain ⟨rfl, rfl⟩ := hX
  refine ⟨_, Ent.refl, ?_⟩
  refine block_x <| thenA_n <| AW.rX [4, 5, 6] ?_
  refine AW.ret ?_
  obtain rfl := oi h
  (simp only [go_sem, seval, finA] <;> try simp)
def f163_s1 (a0 : List Int) : Int → Option (Int ⊕ (Int ⊕ Unit))
  | s1_0 => (if s1_0 < (a0.length : Int) then ((ix a0 s1_0).bind fun x14 => (if x14 = 0 then some (.inl (IntKind.i64.wrap (s1_0 + 1))) else some (.inr (.inl x14)))) else some (.inr (.inr ())))
def f163 (a0 : List Int) : Option Int := ((loopO (f163_s1 a0) 0).bind fun y16 => match y16 with | .inl y17 => some y17 | .inr _ => some 0)
theorem ok163 (a0 : List Int) (r : Int) (h : f163 a0 = some r) : PC Tryz.prog 163 [.sl (List.map enc3 a0)] (.val (.int .i64 r)) := by
 rw [f163] at h
 refine pc_of9 (N := 18) (rs := [.tmp 2]) Tryz.func163 ?_
 refine AW.rX [0] ?_
 refine AW.rX [0, 3] ?_
 refine AW.seq <| AW.rX [3, 6, 7, 8] ?_
 refine AW.block ?_
 obtain ⟨y16, hy16, h⟩ := bO h
 refine AW.loopO (fun s => ⟨(upd (upd (upd (upd anyF 3 (.val (.int .i64 0))) 6 (.sl (List.map enc3 a0))) 7 (.val (.int .i64 (a0.length : Int)))) 8 (.val (.int .i64 s))), hpL [] [], 8⟩) (fun y e st' => match y with | .inl z => e = Exit.ret ∧ finA Tryz.prog [.tmp 2] (.val (.int .i64 z)) .ret st' | .inr z => e = Exit.exit 0 ∧ st' = ⟨(upd anyF 3 (.val (.int .i64 0))), hpL [] [], 8⟩) hy16 ?_ ?_ ?_
 ·exact Ent.cq RF.any.qv.qv.qv.qv
 ·clear h hy16
  rintro s1_0 x h
  rw [f163_s1] at h
  refine AW.rX [3, 6, 7, 8, 9] ?_
  refine AW.seq ?_
  rcases iteO h with ⟨c13, h⟩ | ⟨c13, h⟩
  ·refine AW.ifT rfl c13 <| AW.skip <| thenA_n <| AW.seq <| AW.block ?_
   obtain ⟨x14, hx14, h⟩ := bO h
   obtain ⟨hx14a, hx14b⟩ := ix_some.1 hx14
   refine AW.sX [3, 5, 6, 7, 8] ?_
   refine AW.rX [3, 5, 6, 7, 8, 14] ?_
   rcases iteO h with ⟨c15, h⟩ | ⟨c15, h⟩
   ·refine AW.ifF rfl (fun q => q c15) <| AW.skip <| block_n <| thenA_n <| AW.rY [3, 6, 7, 8] ?_
    refine thenA_n ?_
    refine ⟨_, oj h, ?_⟩
    exact Ent.cq RF.any.qv.qv.qv.qv
   ·refine AW.ifT rfl c15 <| AW.rX [2] ?_
    refine AW.ret <| block_r <| thenA_r <| thenA_r ?_
    refine ⟨_, oj h, _, Ent.refl, rfl, ?_⟩
    (simp only [go_sem, seval, finA] <;> try simp)
  ·refine AW.ifF rfl c13 <| AW.exit <| thenA_x <| thenA_x ?_
   refine ⟨_, oj h, _, ?_, rfl, rfl⟩
   exact Ent.cq RF.any.qv
 ·intro e st' hX
  rcases y16 with y17 | _ <;> dsimp only at h hX
  ·obtain ⟨rfl, hf⟩ := hX
   refine ⟨_, Ent.refl, ?_⟩
   refine block_r <| thenA_r ?_
   obtain rfl := oi h
   exact hf
  ·obtain ⟨rfl, rfl⟩ := hX
   refine ⟨_, Ent.refl, ?_⟩
   refine block_x <| thenA_n <| AW.rX [2] ?_
   refine AW.ret ?_
   obtain rfl := oi h
   (simp only [go_sem, seval, finA] <;> try simp)
def f143 (a0 : Pair) (a1 : Pair) : Option Int := ((f76 a0.Key a1.Key).bind fun x1 => ((f76 a0.Val a1.Val).bind fun x2 => ((f163 [x1, x2]).bind fun x3 => some x3)))
theorem ok143 (a0 : Pair) (a1 : Pair) (r : Int) (h : f143 a0 a1 = some r) : PC Tryz.prog 143 [.agg (encPair a0), .agg (encPair a1)] (.val (.int .i64 r)) := by
 rw [f143] at h
 refine pc_of9 (N := 17) (rs := [.tmp 4]) Tryz.func143 ?_
 refine AW.rX [2, 3] ?_
 obtain ⟨x1, hx1, h⟩ := bO h
 obtain ⟨x2, hx2, h⟩ := bO h
 obtain ⟨x3, hx3, h⟩ := bO h
 refine AW.re [4] [0,1,0,4,15,0,32,0,128,511,1023,2047,4095] ?_
 generalize hK : AW Tryz.prog _ _ _ = K
 simp only [go_sem, seval]
 refine adN.pc (ok76 a0.Key a1.Key x1 hx1) Tryz.call76 callV_fn (by simp only [go_sem, seval]) (by simp only [go_sem, seval]) ?_
 simp only [go_sem, seval]
 refine adN.pc (ok76 a0.Val a1.Val x2 hx2) Tryz.call76 callV_fn (by simp only [go_sem, seval]) (by simp only [go_sem, seval]) ?_
 simp only [go_sem, seval]
 refine adN.pc (ok163 [x1, x2] x3 hx3) Tryz.call163 callV_fn (by simp only [go_sem, seval]) (by simp only [go_sem, seval]) ?_
 simp only [go_sem, seval]
 subst hK
 refine AW.ret ?_
 obtain rfl := oi h
 (simp only [go_sem, seval, finA] <;> try simp)
def f142_143_s1 (a0 : List Pair) : Int → Option (Int ⊕ (Bool ⊕ Unit))
  | s1_0 => (if 0 < s1_0 then ((ix a0 s1_0).bind fun x15 => ((ix a0 (IntKind.i64.wrap (s1_0 - 1))).bind fun x16 => ((f143 x15 x16).bind fun x17 => (if x17 < 0 then some (.inr (.inl false)) else some (.inl (IntKind.i64.wrap (s1_0 - 1))))))) else some (.inr (.inr ())))
def f142_143 (a0 : List Pair) : Option Bool := ((loopO (f142_143_s1 a0) (IntKind.i64.wrap ((a0.length : Int) - 1))).bind fun y19 => match y19 with | .inl y20 => some y20 | .inr _ => some true)
theorem ok142_143 (a0 : List Pair) (r : Bool) (h : f142_143 a0 = some r) : PC Tryz.prog 142 [.sl (List.map encPair a0), .clo (.func 143) [] []] (.val (.bool r)) := by
 rw [f142_143] at h
 refine pc_of9 (N := 25) (rs := [.tmp 4]) Tryz.func142 ?_
 refine AW.rX [0, 1] ?_
 refine AW.seq <| AW.rX [0, 1, 5] ?_
 refine AW.block ?_
 obtain ⟨y19, hy19, h⟩ := bO h
 refine AW.loopO (fun s => ⟨(upd (upd (upd anyF 0 (.sl (List.map encPair a0))) 1 (.clo (.func 143) [] [])) 5 (.val (.int .i64 s))), hpL [] [], 8⟩) (fun y e st' => match y with | .inl z => e = Exit.ret ∧ finA Tryz.prog [.tmp 4] (.val (.bool z)) .ret st' | .inr z => e = Exit.exit 0 ∧ st' = ⟨anyF, hpL [] [], 8⟩) hy19 ?_ ?_ ?_
 ·exact Ent.cq RF.any.qv.qt.qv
 ·clear h hy19
  rintro s1_0 x h
  rw [f142_143_s1] at h
  refine AW.seq <| AW.rX [0, 1, 5, 10] ?_
  rcases iteO h with ⟨c14, h⟩ | ⟨c14, h⟩
  ·refine AW.ifT rfl c14 <| AW.skip <| thenA_n <| AW.seq <| AW.block ?_
   obtain ⟨x15, hx15, h⟩ := bO h
   obtain ⟨hx15a, hx15b⟩ := ix_some.1 hx15
   obtain ⟨x16, hx16, h⟩ := bO h
   obtain ⟨hx16a, hx16b⟩ := ix_some.1 hx16
   obtain ⟨x17, hx17, h⟩ := bO h
   refine AW.re [0, 1, 5, 24] [0,0,0,6,14,0,0,64,224,480,1023,2047] ?_
   generalize hK : AW Tryz.prog _ _ _ = K
   simp only [go_sem, seval, natOf_le hx15a, hx15b, natOf_le hx16a, hx16b]
   refine adN.pc (ok143 x15 x16 x17 hx17) Tryz.call143 (callV_tmp (by simp only [upd_ap, Nat.reduceEqDiff, if_true, if_false, ↓reduceIte]; rfl)) (by simp only [go_sem, seval, List.nil_append, List.append_nil, eq_true c14, natOf_le hx15a, hx15b, natOf_le hx16a, hx16b]) (by simp only [go_sem, seval]) ?_
   simp only [go_sem, seval, natOf_le hx15a, hx15b, natOf_le hx16a, hx16b]
   subst hK
   rcases iteO h with ⟨c18, h⟩ | ⟨c18, h⟩
   ·refine AW.ifT rfl c18 <| AW.rX [4] ?_
    refine AW.ret <| block_r <| thenA_r <| thenA_r ?_
    refine ⟨_, oj h, _, Ent.refl, rfl, ?_⟩
    (simp only [go_sem, seval, finA] <;> try simp)
   ·refine AW.ifF rfl c18 <| AW.skip <| block_n <| thenA_n <| AW.rY [0, 1, 5] ?_
    refine thenA_n ?_
    refine ⟨_, oj h, ?_⟩
    exact Ent.cq RF.any.qv.qt.qv
  ·refine AW.ifF rfl c14 <| AW.exit <| thenA_x <| thenA_x ?_
   refine ⟨_, oj h, _, ?_, rfl, rfl⟩
   exact Ent.cq RF.any
 ·intro e st' hX
  rcases y19 with y20 | _ <;> dsimp only at h hX
  ·obtain ⟨rfl, hf⟩ := hX
   refine ⟨_, Ent.refl, ?_⟩
   refine block_r <| thenA_r ?_
   obtain rfl := oi h
   exact hf
  ·obtain ⟨rfl, rfl⟩ := hX
   refine ⟨_, Ent.refl, ?_⟩
   refine block_x <| thenA_n <| AW.rX [4] ?_
   refine AW.ret ?_
   obtain rfl := oi h
   (simp only [go_sem, seval, finA] <;> try simp)
def f121_s1 (a0 : List Pair) : Int → Option (Int ⊕ (Bool ⊕ Unit))
  | s1_0 => (if s1_0 < (a0.length : Int) then (if 0 < s1_0 then ((ix a0 (IntKind.i64.wrap (s1_0 - 1))).bind fun x15 => ((ix a0 s1_0).bind fun x16 => (if (sLt x15.Key x16.Key) = true then some (.inl (IntKind.i64.wrap (s1_0 + 1))) else some (.inr (.inl false))))) else some (.inl (IntKind.i64.wrap (s1_0 + 1)))) else some (.inr (.inr ())))
def f121 (a0 : List Pair) : Option Bool := ((loopO (f121_s1 a0) 0).bind fun y18 => match y18 with | .inl y19 => some y19 | .inr _ => ((f142_143 a0).bind fun x20 => some x20))
theorem ok121 (a0 : List Pair) (r : Bool) (h : f121 a0 = some r) : PC Tryz.prog 121 [.sl (List.map encPair a0)] (.val (.bool r)) := by
 rw [f121] at h
 refine pc_of9 (N := 28) (rs := [.tmp 2]) Tryz.func121 ?_
 refine AW.rX [0] ?_
 refine AW.seq <| AW.rX [0, 5, 6] ?_
 refine AW.block ?_
 obtain ⟨y18, hy18, h⟩ := bO h
 refine AW.loopO (fun s => ⟨(upd (upd (upd anyF 0 (.sl (List.map encPair a0))) 5 (.val (.int .i64 (a0.length : Int)))) 6 (.val (.int .i64 s))), hpL [] [], 8⟩) (fun y e st' => match y with | .inl z => e = Exit.ret ∧ finA Tryz.prog [.tmp 2] (.val (.bool z)) .ret st' | .inr z => e = Exit.exit 0 ∧ st' = ⟨(upd anyF 0 (.sl (List.map encPair a0))), hpL [] [], 8⟩) hy18 ?_ ?_ ?_
 ·exact Ent.cq RF.any.qv.qv.qv
 ·clear h hy18
  rintro s1_0 x h
  rw [f121_s1] at h
  refine AW.rX [0, 5, 6, 7] ?_
  refine AW.seq ?_
  rcases iteO h with ⟨c13, h⟩ | ⟨c13, h⟩
  ·refine AW.ifT rfl c13 <| AW.skip <| thenA_n <| AW.seq <| AW.block <| AW.rX [0, 3, 5, 6] ?_
   rcases iteO h with ⟨c14, h⟩ | ⟨c14, h⟩
   ·obtain ⟨x15, hx15, h⟩ := bO h
    obtain ⟨hx15a, hx15b⟩ := ix_some.1 hx15
    obtain ⟨x16, hx16, h⟩ := bO h
    obtain ⟨hx16a, hx16b⟩ := ix_some.1 hx16
    refine AW.re [0, 5, 6, 24] [0,1,3,7,7,23,63,127,255,7,7,1543,3591,7687,16383,32767] ?_
    generalize hK : AW Tryz.prog _ _ _ = K
    simp only [go_sem, seval, eq_true c13, eq_true c14, natOf_le hx15a, hx15b, natOf_le hx16a, hx16b]
    subst hK
    rcases iteO h with ⟨c17, h⟩ | ⟨c17, h⟩
    ·refine AW.ifBF rfl (by first | (rw [c17]; rfl) | simp_all) <| AW.skip <| block_n <| thenA_n <| AW.sY [0, 5, 6] ?_
     refine thenA_n ?_
     refine ⟨_, oj h, ?_⟩
     exact Ent.cq RF.any.qv.qv.qv
    ·rw [Bool.not_eq_true] at c17
     refine AW.ifBT rfl (by first | (rw [c17]; rfl) | simp_all) <| AW.sX [2] ?_
     refine AW.ret <| block_r <| thenA_r <| thenA_r ?_
     refine ⟨_, oj h, _, Ent.refl, rfl, ?_⟩
     (simp only [go_sem, seval, c17, finA] <;> try simp)
   ·refine AW.re [0, 5, 6, 24] [0,1,3,7,7,23,63,127,255,7,7,1543,3591,7687,16383,32767] ?_
    generalize hK : AW Tryz.prog _ _ _ = K
    simp only [go_sem, seval, eq_true c13, eq_false c14]
    subst hK
    refine AW.ifBF rfl rfl <| AW.skip <| block_n <| thenA_n <| AW.rY [0, 5, 6] ?_
    refine thenA_n ?_
    refine ⟨_, oj h, ?_⟩
    exact Ent.cq RF.any.qv.qv.qv
  ·refine AW.ifF rfl c13 <| AW.exit <| thenA_x <| thenA_x ?_
   refine ⟨_, oj h, _, ?_, rfl, rfl⟩
   exact Ent.cq RF.any.qv
 ·intro e st' hX
  rcases y18 with y19 | _ <;> dsimp only at h hX
  ·obtain ⟨rfl, hf⟩ := hX
   refine ⟨_, Ent.refl, ?_⟩
   refine block_r <| thenA_r ?_
   obtain rfl := oi h
   exact hf
  ·obtain ⟨rfl, rfl⟩ := hX
   refine ⟨_, Ent.refl, ?_⟩
   refine block_x <| thenA_n ?_
   obtain ⟨x20, hx20, h⟩ := bO h
   refine AW.rC [2] (PC.norm (us := [.sl (List.map encPair a0), .val (.func (.func 143) #[] #[])]) (ok142_143 a0 x20 hx20) (by first | rfl | simp [norm, normL, normR, go_sem])) Tryz.call142 ?_
   refine AW.ret ?_
   obtain rfl := oi h
   (simp only [go_sem, seval, finA] <;> try simp)
def f65_s1 (a0 : List Pair) : Int → Option (Int ⊕ (Bool ⊕ Unit))
  | s1_0 => (if s1_0 < (a0.length : Int) then ((ix a0 (IntKind.i64.wrap (s1_0 - 1))).bind fun x15 => ((ix a0 s1_0).bind fun x16 => ((f67 x15.Key x16.Key).bind fun x17 => (if x17 = true then some (.inl (IntKind.i64.wrap (s1_0 + 1))) else some (.inr (.inl false)))))) else some (.inr (.inr ())))
def f65 (a0 : List Pair) : Option Bool := ((loopO (f65_s1 a0) 1).bind fun y19 => match y19 with | .inl y20 => some y20 | .inr _ => some true)
theorem ok65 (a0 : List Pair) (r : Bool) (h : f65 a0 = some r) : PC Tryz.prog 65 [.sl (List.map encPair a0)] (.val (.bool r)) := by
 rw [f65] at h
 refine pc_of9 (N := 23) (rs := [.tmp 2]) Tryz.func65 ?_
 refine AW.rX [0] ?_
 refine AW.seq <| AW.rX [0, 3] ?_
 refine AW.block ?_
 obtain ⟨y19, hy19, h⟩ := bO h
 refine AW.loopO (fun s => ⟨(upd (upd anyF 0 (.sl (List.map encPair a0))) 3 (.val (.int .i64 s))), hpL [] [], 8⟩) (fun y e st' => match y with | .inl z => e = Exit.ret ∧ finA Tryz.prog [.tmp 2] (.val (.bool z)) .ret st' | .inr z => e = Exit.exit 0 ∧ st' = ⟨anyF, hpL [] [], 8⟩) hy19 ?_ ?_ ?_
 ·exact Ent.cq RF.any.qv.qv
 ·clear h hy19
  rintro s1_0 x h
  rw [f65_s1] at h
  refine AW.seq <| AW.rX [0, 3, 7] ?_
  rcases iteO h with ⟨c14, h⟩ | ⟨c14, h⟩
  ·refine AW.ifT rfl c14 <| AW.skip <| thenA_n <| AW.seq <| AW.block ?_
   obtain ⟨x15, hx15, h⟩ := bO h
   obtain ⟨hx15a, hx15b⟩ := ix_some.1 hx15
   obtain ⟨x16, hx16, h⟩ := bO h
   obtain ⟨hx16a, hx16b⟩ := ix_some.1 hx16
   obtain ⟨x17, hx17, h⟩ := bO h
   refine AW.rG [0, 3, 22] [0,0,2,7,15,31,0,0,192,448,960,2047,4095] (ok67 x15.Key x16.Key x17 hx17) Tryz.call67 ?_
   generalize hK : AW Tryz.prog _ _ _ = K
   simp only [go_sem, seval, natOf_le hx15a, hx15b, natOf_le hx16a, hx16b]
   subst hK
   rcases iteO h with ⟨c18, h⟩ | ⟨c18, h⟩
   ·refine AW.ifBF rfl (by first | (rw [c18]; rfl) | simp_all) <| AW.skip <| block_n <| thenA_n <| AW.sY [0, 3] ?_
    refine thenA_n ?_
    refine ⟨_, oj h, ?_⟩
    exact Ent.cq RF.any.qv.qv
   ·rw [Bool.not_eq_true] at c18
    refine AW.ifBT rfl (by first | (rw [c18]; rfl) | simp_all) <| AW.sX [2] ?_
    refine AW.ret <| block_r <| thenA_r <| thenA_r ?_
    refine ⟨_, oj h, _, Ent.refl, rfl, ?_⟩
    (simp only [go_sem, seval, c18, finA] <;> try simp)
  ·refine AW.ifF rfl c14 <| AW.exit <| thenA_x <| thenA_x ?_
   refine ⟨_, oj h, _, ?_, rfl, rfl⟩
   exact Ent.cq RF.any
 ·intro e st' hX
  rcases y19 with y20 | _ <;> dsimp only at h hX
  ·obtain ⟨rfl, hf⟩ := hX
   refine ⟨_, Ent.refl, ?_⟩
   refine block_r <| thenA_r ?_
   obtain rfl := oi h
   exact hf
  ·obtain ⟨rfl, rfl⟩ := hX
   refine ⟨_, Ent.refl, ?_⟩
   refine block_x <| thenA_n <| AW.rX [2] ?_
   refine AW.ret ?_
   obtain rfl := oi h
   (simp only [go_sem, seval, finA] <;> try simp)
def f58_s1 (a0 : List Int) : Int → Option (Int ⊕ (Bool ⊕ Unit))
  | s1_0 => (if s1_0 < (a0.length : Int) then ((ix a0 s1_0).bind fun x21 => (if x21 < 0 then some (.inr (.inl false)) else (if 1048576 < x21 then some (.inr (.inl false)) else (if 0 < s1_0 then ((ix a0 (IntKind.i64.wrap (s1_0 - 1))).bind fun x25 => (if x21 ≤ x25 then some (.inr (.inl false)) else some (.inl (IntKind.i64.wrap (s1_0 + 1))))) else some (.inl (IntKind.i64.wrap (s1_0 + 1))))))) else some (.inr (.inr ())))
def f58 (a0 : List Int) : Option Bool := (if 65536 < (a0.length : Int) then some false else ((loopO (f58_s1 a0) 0).bind fun y27 => match y27 with | .inl y28 => some y28 | .inr _ => some true))
theorem ok58 (a0 : List Int) (r : Bool) (h : f58 a0 = some r) : PC Tryz.prog 58 [.sl (List.map enc3 a0)] (.val (.bool r)) := by
 rw [f58] at h
 refine pc_of9 (N := 35) (rs := [.tmp 2]) Tryz.func58 ?_
 refine AW.rX [0] ?_
 refine AW.seq <| AW.rX [0, 7] ?_
 rcases iteO h with ⟨c2, h⟩ | ⟨c2, h⟩
 ·refine AW.ifT rfl c2 <| AW.rX [2] ?_
  refine AW.ret <| thenA_r ?_
  obtain rfl := oi h
  (simp only [go_sem, seval, finA] <;> try simp)
 ·refine AW.ifF rfl c2 <| AW.skip <| thenA_n <| AW.seq <| AW.rX [0, 8, 9, 10] ?_
  refine AW.block ?_
  obtain ⟨y27, hy27, h⟩ := bO h
  refine AW.loopO (fun s => ⟨(upd (upd (upd (upd anyF 0 (.sl (List.map enc3 a0))) 8 (.sl (List.map enc3 a0))) 9 (.val (.int .i64 (a0.length : Int)))) 10 (.val (.int .i64 s))), hpL [] [], 8⟩) (fun y e st' => match y with | .inl z => e = Exit.ret ∧ finA Tryz.prog [.tmp 2] (.val (.bool z)) .ret st' | .inr z => e = Exit.exit 0 ∧ st' = ⟨anyF, hpL [] [], 8⟩) hy27 ?_ ?_ ?_
  ·exact Ent.cq RF.any.qv.qv.qv.qv
  ·clear h hy27
   rintro s1_0 x h
   rw [f58_s1] at h
   refine AW.sX [0, 8, 9, 10, 11] ?_
   refine AW.seq ?_
   rcases iteO h with ⟨c20, h⟩ | ⟨c20, h⟩
   ·refine AW.ifT rfl c20 <| AW.skip <| thenA_n <| AW.seq <| AW.block ?_
    obtain ⟨x21, hx21, h⟩ := bO h
    obtain ⟨hx21a, hx21b⟩ := ix_some.1 hx21
    refine AW.sX [0, 3, 4, 8, 9, 10] ?_
    rcases iteO h with ⟨c22, h⟩ | ⟨c22, h⟩
    ·refine AW.sX [0, 8, 9, 10, 33] ?_
     refine AW.ifBT rfl rfl <| AW.sX [2] ?_
     refine AW.ret <| block_r <| thenA_r <| thenA_r ?_
     refine ⟨_, oj h, _, Ent.refl, rfl, ?_⟩
     (simp only [go_sem, seval, finA] <;> try simp)
    ·rcases iteO h with ⟨c23, h⟩ | ⟨c23, h⟩
     ·refine AW.sX [0, 8, 9, 10, 33] ?_
      refine AW.ifBT rfl rfl <| AW.rX [2] ?_
      refine AW.ret <| block_r <| thenA_r <| thenA_r ?_
      refine ⟨_, oj h, _, Ent.refl, rfl, ?_⟩
      (simp only [go_sem, seval, finA] <;> try simp)
     ·rcases iteO h with ⟨c24, h⟩ | ⟨c24, h⟩
      ·obtain ⟨x25, hx25, h⟩ := bO h
       obtain ⟨hx25a, hx25b⟩ := ix_some.1 hx25
       refine AW.sX [0, 8, 9, 10, 33] ?_
       rcases iteO h with ⟨c26, h⟩ | ⟨c26, h⟩
       ·refine AW.ifT rfl c26 <| AW.rX [2] ?_
        refine AW.ret <| block_r <| thenA_r <| thenA_r ?_
        refine ⟨_, oj h, _, Ent.refl, rfl, ?_⟩
        (simp only [go_sem, seval, finA] <;> try simp)
       ·refine AW.ifF rfl c26 <| AW.skip <| block_n <| thenA_n <| AW.sY [0, 8, 9, 10] ?_
        refine thenA_n ?_
        refine ⟨_, oj h, ?_⟩
        exact Ent.cq RF.any.qv.qv.qv.qv
      ·refine AW.sX [0, 8, 9, 10, 33] ?_
       refine AW.ifBF rfl rfl <| AW.skip <| block_n <| thenA_n <| AW.rY [0, 8, 9, 10] ?_
       refine thenA_n ?_
       refine ⟨_, oj h, ?_⟩
       exact Ent.cq RF.any.qv.qv.qv.qv
   ·refine AW.ifF rfl c20 <| AW.exit <| thenA_x <| thenA_x ?_
    refine ⟨_, oj h, _, ?_, rfl, rfl⟩
    exact Ent.cq RF.any
  ·intro e st' hX
   rcases y27 with y28 | _ <;> dsimp only at h hX
   ·obtain ⟨rfl, hf⟩ := hX
    refine ⟨_, Ent.refl, ?_⟩
    refine block_r <| thenA_r ?_
    obtain rfl := oi h
    exact hf
   ·obtain ⟨rfl, rfl⟩ := hX
    refine ⟨_, Ent.refl, ?_⟩
    refine block_x <| thenA_n <| AW.rX [2] ?_
    refine AW.ret ?_
    obtain rfl := oi h
    (simp only [go_sem, seval, finA] <;> try simp)
def f68_s1 (a0 : List Int) : Int → Option (Int ⊕ (Bool ⊕ Unit))
  | s1_0 => (if s1_0 < (a0.length : Int) then ((ix a0 s1_0).bind fun x16 => (if x16 < 0 then some (.inr (.inl false)) else (if 1048576 < x16 then some (.inr (.inl false)) else (if 0 < s1_0 then ((ix a0 (IntKind.i64.wrap (s1_0 - 1))).bind fun x20 => (if x16 ≤ x20 then some (.inr (.inl false)) else some (.inl (IntKind.i64.wrap (s1_0 + 1))))) else some (.inl (IntKind.i64.wrap (s1_0 + 1))))))) else some (.inr (.inr ())))
def f68 (a0 : List Int) : Option Bool := ((loopO (f68_s1 a0) 0).bind fun y22 => match y22 with | .inl y23 => some y23 | .inr _ => some (decide ((a0.length : Int) ≤ 65536)))
theorem ok68 (a0 : List Int) (r : Bool) (h : f68 a0 = some r) : PC Tryz.prog 68 [.sl (List.map enc3 a0)] (.val (.bool r)) := by
 rw [f68] at h
 refine pc_of9 (N := 41) (rs := [.tmp 2]) Tryz.func68 ?_
 refine AW.rX [0] ?_
 refine AW.seq <| AW.rX [0, 3] ?_
 refine AW.block ?_
 obtain ⟨y22, hy22, h⟩ := bO h
 refine AW.loopO (fun s => ⟨(upd (upd anyF 0 (.sl (List.map enc3 a0))) 3 (.val (.int .i64 s))), hpL [] [], 8⟩) (fun y e st' => match y with | .inl z => e = Exit.ret ∧ finA Tryz.prog [.tmp 2] (.val (.bool z)) .ret st' | .inr z => e = Exit.exit 0 ∧ st' = ⟨(upd anyF 0 (.sl (List.map enc3 a0))), hpL [] [], 8⟩) hy22 ?_ ?_ ?_
 ·exact Ent.cq RF.any.qv.qv
 ·clear h hy22
  rintro s1_0 x h
  rw [f68_s1] at h
  refine AW.seq <| AW.rX [0, 3, 7] ?_
  rcases iteO h with ⟨c15, h⟩ | ⟨c15, h⟩
  ·refine AW.ifT rfl c15 <| AW.skip <| thenA_n <| AW.seq <| AW.block ?_
   obtain ⟨x16, hx16, h⟩ := bO h
   obtain ⟨hx16a, hx16b⟩ := ix_some.1 hx16
   rcases iteO h with ⟨c17, h⟩ | ⟨c17, h⟩
   ·refine AW.re [0, 3, 37] [0,0,3,7,15,31,63,63,255,511,1023,2047,4095,8191,16383,32767,65535,65535,262143,524287,65535,65535,2162687,7405567,15794175,33554431,67108863,134217727] ?_
    generalize hK : AW Tryz.prog _ _ _ = K
    simp only [go_sem, seval, natOf_le hx16a, hx16b, eq_true c17]
    subst hK
    refine AW.ifBT rfl rfl <| AW.rX [2] ?_
    refine AW.ret <| block_r <| thenA_r <| thenA_r ?_
    refine ⟨_, oj h, _, Ent.refl, rfl, ?_⟩
    (simp only [go_sem, seval, finA] <;> try simp)
   ·rcases iteO h with ⟨c18, h⟩ | ⟨c18, h⟩
    ·refine AW.re [0, 3, 37] [0,0,3,7,15,31,63,63,255,511,1023,2047,4095,8191,16383,32767,65535,65535,262143,524287,65535,65535,2162687,7405567,15794175,33554431,67108863,134217727] ?_
     generalize hK : AW Tryz.prog _ _ _ = K
     simp only [go_sem, seval, natOf_le hx16a, hx16b, eq_false c17, eq_true c18]
     subst hK
     refine AW.ifBT rfl rfl <| AW.rX [2] ?_
     refine AW.ret <| block_r <| thenA_r <| thenA_r ?_
     refine ⟨_, oj h, _, Ent.refl, rfl, ?_⟩
     (simp only [go_sem, seval, finA] <;> try simp)
    ·rcases iteO h with ⟨c19, h⟩ | ⟨c19, h⟩
     ·obtain ⟨x20, hx20, h⟩ := bO h
      obtain ⟨hx20a, hx20b⟩ := ix_some.1 hx20
      refine AW.re [0, 3, 37] [0,0,3,7,15,31,63,63,255,511,1023,2047,4095,8191,16383,32767,65535,65535,262143,524287,65535,65535,2162687,7405567,15794175,33554431,67108863,134217727] ?_
      generalize hK : AW Tryz.prog _ _ _ = K
      simp only [go_sem, seval, natOf_le hx16a, hx16b, eq_false c17, eq_false c18, eq_true c19, natOf_le hx20a, hx20b]
      subst hK
      rcases iteO h with ⟨c21, h⟩ | ⟨c21, h⟩
      ·refine AW.ifT rfl c21 <| AW.rX [2] ?_
       refine AW.ret <| block_r <| thenA_r <| thenA_r ?_
       refine ⟨_, oj h, _, Ent.refl, rfl, ?_⟩
       (simp only [go_sem, seval, finA] <;> try simp)
      ·refine AW.ifF rfl c21 <| AW.skip <| block_n <| thenA_n <| AW.rY [0, 3] ?_
       refine thenA_n ?_
       refine ⟨_, oj h, ?_⟩
       exact Ent.cq RF.any.qv.qv
     ·refine AW.re [0, 3, 37] [0,0,3,7,15,31,63,63,255,511,1023,2047,4095,8191,16383,32767,65535,65535,262143,524287,65535,65535,2162687,7405567,15794175,33554431,67108863,134217727] ?_
      generalize hK : AW Tryz.prog _ _ _ = K
      simp only [go_sem, seval, natOf_le hx16a, hx16b, eq_false c17, eq_false c18, eq_false c19]
      subst hK
      refine AW.ifBF rfl rfl <| AW.skip <| block_n <| thenA_n <| AW.rY [0, 3] ?_
      refine thenA_n ?_
      refine ⟨_, oj h, ?_⟩
      exact Ent.cq RF.any.qv.qv
  ·refine AW.ifF rfl c15 <| AW.exit <| thenA_x <| thenA_x ?_
   refine ⟨_, oj h, _, ?_, rfl, rfl⟩
   exact Ent.cq RF.any.qv
 ·intro e st' hX
  rcases y22 with y23 | _ <;> dsimp only at h hX
  ·obtain ⟨rfl, hf⟩ := hX
   refine ⟨_, Ent.refl, ?_⟩
   refine block_r <| thenA_r ?_
   obtain rfl := oi h
   exact hf
  ·obtain ⟨rfl, rfl⟩ := hX
   refine ⟨_, Ent.refl, ?_⟩
   refine block_x <| thenA_n <| AW.rX [2] ?_
   refine AW.ret ?_
   obtain rfl := oi h
   (simp only [go_sem, seval, finA] <;> try simp)
def f60 (a0 : Res) : Option ByteArray := some a0.Key
theorem ok60 (a0 : Res) (r : ByteArray) (h : f60 a0 = some r) : PC Tryz.prog 60 [.agg (encRes a0)] (.val (.string r)) := by
 rw [f60] at h
 refine pc_of9 (N := 5) (rs := [.tmp 2]) Tryz.func60 ?_
 refine AW.rX [1] ?_
 refine AW.rX [2] ?_
 refine AW.ret ?_
 obtain rfl := oi h
 (simp only [go_sem, seval, finA] <;> try simp)
def f59_60_s1 (a0 : List Res) : Int → Option (Int ⊕ (Bool ⊕ Unit))
  | s1_0 => (if s1_0 < (a0.length : Int) then (if 0 < s1_0 then ((ix a0 (IntKind.i64.wrap (s1_0 - 1))).bind fun x17 => ((f60 x17).bind fun x18 => ((ix a0 s1_0).bind fun x19 => ((f60 x19).bind fun x20 => (if (sLt x18 x20) = true then some (.inl (IntKind.i64.wrap (s1_0 + 1))) else some (.inr (.inl false))))))) else some (.inl (IntKind.i64.wrap (s1_0 + 1)))) else some (.inr (.inr ())))
def f59_60 (a0 : List Res) : Option Bool := ((loopO (f59_60_s1 a0) 0).bind fun y22 => match y22 with | .inl y23 => some y23 | .inr _ => some true)
theorem ok59_60 (a0 : List Res) (r : Bool) (h : f59_60 a0 = some r) : PC Tryz.prog 59 [.sl (List.map encRes a0), .clo (.func 60) [] []] (.val (.bool r)) := by
 rw [f59_60] at h
 refine pc_of9 (N := 30) (rs := [.tmp 4]) Tryz.func59 ?_
 refine AW.rX [0, 1] ?_
 refine AW.seq <| AW.rX [0, 1, 7, 8] ?_
 refine AW.block ?_
 obtain ⟨y22, hy22, h⟩ := bO h
 refine AW.loopO (fun s => ⟨(upd (upd (upd (upd anyF 0 (.sl (List.map encRes a0))) 1 (.clo (.func 60) [] [])) 7 (.val (.int .i64 (a0.length : Int)))) 8 (.val (.int .i64 s))), hpL [] [], 8⟩) (fun y e st' => match y with | .inl z => e = Exit.ret ∧ finA Tryz.prog [.tmp 4] (.val (.bool z)) .ret st' | .inr z => e = Exit.exit 0 ∧ st' = ⟨anyF, hpL [] [], 8⟩) hy22 ?_ ?_ ?_
 ·exact Ent.cq RF.any.qv.qt.qv.qv
 ·clear h hy22
  rintro s1_0 x h
  rw [f59_60_s1] at h
  refine AW.rX [0, 1, 7, 8, 9] ?_
  refine AW.seq ?_
  rcases iteO h with ⟨c15, h⟩ | ⟨c15, h⟩
  ·refine AW.ifT rfl c15 <| AW.skip <| thenA_n <| AW.seq <| AW.block <| AW.rX [0, 1, 5, 7, 8] ?_
   rcases iteO h with ⟨c16, h⟩ | ⟨c16, h⟩
   ·obtain ⟨x17, hx17, h⟩ := bO h
    obtain ⟨hx17a, hx17b⟩ := ix_some.1 hx17
    obtain ⟨x18, hx18, h⟩ := bO h
    obtain ⟨x19, hx19, h⟩ := bO h
    obtain ⟨hx19a, hx19b⟩ := ix_some.1 hx19
    obtain ⟨x20, hx20, h⟩ := bO h
    refine AW.re [0, 1, 7, 8, 28] [0,1,3,7,7,7,39,119,247,511,7,7,7,6151,14343,32767,65535,131071] ?_
    generalize hK : AW Tryz.prog _ _ _ = K
    simp only [go_sem, seval, eq_true c15, eq_true c16, natOf_le hx17a, hx17b, natOf_le hx19a, hx19b]
    refine adN.pc (ok60 x17 x18 hx18) Tryz.call60 (callV_tmp (by simp only [upd_ap, Nat.reduceEqDiff, if_true, if_false, ↓reduceIte]; rfl)) (by simp only [go_sem, seval, List.nil_append, List.append_nil, eq_true c15, eq_true c16, natOf_le hx17a, hx17b, natOf_le hx19a, hx19b]) (by simp only [go_sem, seval]) ?_
    simp only [go_sem, seval, natOf_le hx17a, hx17b, natOf_le hx19a, hx19b]
    refine adN.pc (ok60 x19 x20 hx20) Tryz.call60 (callV_tmp (by simp only [upd_ap, Nat.reduceEqDiff, if_true, if_false, ↓reduceIte]; rfl)) (by simp only [go_sem, seval, List.nil_append, List.append_nil, eq_true c15, eq_true c16, natOf_le hx17a, hx17b, natOf_le hx19a, hx19b]) (by simp only [go_sem, seval]) ?_
    simp only [go_sem, seval, natOf_le hx17a, hx17b, natOf_le hx19a, hx19b]
    subst hK
    rcases iteO h with ⟨c21, h⟩ | ⟨c21, h⟩
    ·refine AW.ifBF rfl (by first | (rw [c21]; rfl) | simp_all) <| AW.skip <| block_n <| thenA_n <| AW.sY [0, 1, 7, 8] ?_
     refine thenA_n ?_
     refine ⟨_, oj h, ?_⟩
     exact Ent.cq RF.any.qv.qt.qv.qv
    ·rw [Bool.not_eq_true] at c21
     refine AW.ifBT rfl (by first | (rw [c21]; rfl) | simp_all) <| AW.sX [4] ?_
     refine AW.ret <| block_r <| thenA_r <| thenA_r ?_
     refine ⟨_, oj h, _, Ent.refl, rfl, ?_⟩
     (simp only [go_sem, seval, c21, finA] <;> try simp)
   ·refine AW.re [0, 1, 7, 8, 28] [0,1,3,7,7,7,39,119,247,511,7,7,7,6151,14343,32767,65535,131071] ?_
    generalize hK : AW Tryz.prog _ _ _ = K
    simp only [go_sem, seval, eq_true c15, eq_false c16]
    subst hK
    refine AW.ifBF rfl rfl <| AW.skip <| block_n <| thenA_n <| AW.rY [0, 1, 7, 8] ?_
    refine thenA_n ?_
    refine ⟨_, oj h, ?_⟩
    exact Ent.cq RF.any.qv.qt.qv.qv
  ·refine AW.ifF rfl c15 <| AW.exit <| thenA_x <| thenA_x ?_
   refine ⟨_, oj h, _, ?_, rfl, rfl⟩
   exact Ent.cq RF.any
 ·intro e st' hX
  rcases y22 with y23 | _ <;> dsimp only at h hX
  ·obtain ⟨rfl, hf⟩ := hX
   refine ⟨_, Ent.refl, ?_⟩
   refine block_r <| thenA_r ?_
   obtain rfl := oi h
   exact hf
  ·obtain ⟨rfl, rfl⟩ := hX
   refine ⟨_, Ent.refl, ?_⟩
   refine block_x <| thenA_n <| AW.rX [4] ?_
   refine AW.ret ?_
   obtain rfl := oi h
   (simp only [go_sem, seval, finA] <;> try simp)
def f32_s1 (a0 : List Res) : Int → Option (Int ⊕ (Bool ⊕ Unit))
  | s1_0 => (if s1_0 < (a0.length : Int) then ((ix a0 s1_0).bind fun x18 => (if (x18.Offs.length : Int) = 0 then some (.inr (.inl false)) else ((f58 x18.Offs).bind fun x20 => (if x20 = true then some (.inl (IntKind.i64.wrap (s1_0 + 1))) else some (.inr (.inl false)))))) else some (.inr (.inr ())))
def f32 (a0 : List Res) : Option Bool := ((loopO (f32_s1 a0) 0).bind fun y22 => match y22 with | .inl y23 => some y23 | .inr _ => ((f59_60 a0).bind fun x24 => some x24))
theorem ok32 (a0 : List Res) (r : Bool) (h : f32 a0 = some r) : PC Tryz.prog 32 [.sl (List.map encRes a0)] (.val (.bool r)) := by
 rw [f32] at h
 refine pc_of9 (N := 24) (rs := [.tmp 2]) Tryz.func32 ?_
 refine AW.rX [0] ?_
 refine AW.seq <| AW.rX [0, 5, 6, 7] ?_
 refine AW.block ?_
 obtain ⟨y22, hy22, h⟩ := bO h
 refine AW.loopO (fun s => ⟨(upd (upd (upd (upd anyF 0 (.sl (List.map encRes a0))) 5 (.sl (List.map encRes a0))) 6 (.val (.int .i64 (a0.length : Int)))) 7 (.val (.int .i64 s))), hpL [] [], 8⟩) (fun y e st' => match y with | .inl z => e = Exit.ret ∧ finA Tryz.prog [.tmp 2] (.val (.bool z)) .ret st' | .inr z => e = Exit.exit 0 ∧ st' = ⟨(upd anyF 0 (.sl (List.map encRes a0))), hpL [] [], 8⟩) hy22 ?_ ?_ ?_
 ·exact Ent.cq RF.any.qv.qv.qv.qv
 ·clear h hy22
  rintro s1_0 x h
  rw [f32_s1] at h
  refine AW.sX [0, 5, 6, 7, 8] ?_
  refine AW.seq ?_
  rcases iteO h with ⟨c17, h⟩ | ⟨c17, h⟩
  ·refine AW.ifT rfl c17 <| AW.skip <| thenA_n <| AW.seq <| AW.block ?_
   obtain ⟨x18, hx18, h⟩ := bO h
   obtain ⟨hx18a, hx18b⟩ := ix_some.1 hx18
   refine AW.sX [0, 4, 5, 6, 7] ?_
   rcases iteO h with ⟨c19, h⟩ | ⟨c19, h⟩
   ·refine AW.sX [0, 5, 6, 7, 20] ?_
    refine AW.ifBT rfl rfl <| AW.rX [2] ?_
    refine AW.ret <| block_r <| thenA_r <| thenA_r ?_
    refine ⟨_, oj h, _, Ent.refl, rfl, ?_⟩
    (simp only [go_sem, seval, finA] <;> try simp)
   ·obtain ⟨x20, hx20, h⟩ := bO h
    refine AW.sC [0, 5, 6, 7, 20] (ok58 x18.Offs x20 hx20) Tryz.call58 ?_
    rcases iteO h with ⟨c21, h⟩ | ⟨c21, h⟩
    ·refine AW.ifBF rfl (by first | (rw [c21]; rfl) | simp_all) <| AW.skip <| block_n <| thenA_n <| AW.sY [0, 5, 6, 7] ?_
     refine thenA_n ?_
     refine ⟨_, oj h, ?_⟩
     exact Ent.cq RF.any.qv.qv.qv.qv
    ·rw [Bool.not_eq_true] at c21
     refine AW.ifBT rfl (by first | (rw [c21]; rfl) | simp_all) <| AW.sX [2] ?_
     refine AW.ret <| block_r <| thenA_r <| thenA_r ?_
     refine ⟨_, oj h, _, Ent.refl, rfl, ?_⟩
     (simp only [go_sem, seval, c21, finA] <;> try simp)
  ·refine AW.ifF rfl c17 <| AW.exit <| thenA_x <| thenA_x ?_
   refine ⟨_, oj h, _, ?_, rfl, rfl⟩
   exact Ent.cq RF.any.qv
 ·intro e st' hX
  rcases y22 with y23 | _ <;> dsimp only at h hX
  ·obtain ⟨rfl, hf⟩ := hX
   refine ⟨_, Ent.refl, ?_⟩
   refine block_r <| thenA_r ?_
   obtain rfl := oi h
   exact hf
  ·obtain ⟨rfl, rfl⟩ := hX
   refine ⟨_, Ent.refl, ?_⟩
   refine block_x <| thenA_n ?_
   obtain ⟨x24, hx24, h⟩ := bO h
   refine AW.rC [2] (PC.norm (us := [.sl (List.map encRes a0), .val (.func (.func 60) #[] #[])]) (ok59_60 a0 x24 hx24) (by first | rfl | simp [norm, normL, normR, go_sem])) Tryz.call59 ?_
   refine AW.ret ?_
   obtain rfl := oi h
   (simp only [go_sem, seval, finA] <;> try simp)
end Au
end Go.Proofs.Yt
