import Derived.Test.YtbdncmljibideaaGreatDoorGoUae
import Derived.Sort.OwnSorted
import Derived.Lib.SlicesCompact
import Derived.Shelf.Small.Strs
import Derived.Shelf.Sort.Plain
import Derived.Shelf.Small.Bits
import Derived.Shelf.Strconv.Itoa0
import Derived.Ground.Names2Prog
import Derived.Shelf.Slices.Clone
import Derived.Shelf.Slices.CompactI
import Derived.Shelf.Slices.SearchI
import Derived.Shelf.Slices.Cells
import Derived.Shelf.Slices.In.SortNone
import Derived.Ground.SlgnProg
import Derived.Shelf.SlicesE.Clone
import Derived.Shelf.Bytes.IndexByte
import Derived.Test.YtbdncmljibideaaGreatDoorProg
set_option linter.all false
noncomputable section
set_option maxRecDepth 8000
set_option maxHeartbeats 1000000
namespace Go.Proofs.Yt
open Go.Gm
namespace Au
def f122_s2 (x24 : List Int) : Int × Int → Option ((Int × Int) ⊕ Int)
  | (s2_0, s2_1) => (if s2_1 < (x24.length : Int) then ((ix x24 s2_1).bind fun x36 => some (.inl (orV .u64 (shlV .u64 s2_0 8) (IntKind.u64.wrap x36), IntKind.i64.wrap (s2_1 + 1)))) else some (.inr s2_0))
def f122_j1 (a0 : List Int) (a1 : Int) (x8 : Int) : Int → Option (Int × Int × Int)
  | j1_0 => ((cutO? a0 (IntKind.i64.wrap (a1 + 1)) (IntKind.i64.wrap (a1 + (IntKind.i64.wrap (1 + x8))))).bind fun x24 => ((loopO (f122_s2 x24) (j1_0, 0)).bind fun y38 => ((f132 y38).bind fun x39 => (if x39 = (IntKind.i64.wrap (1 + x8)) then some (y38, IntKind.i64.wrap (a1 + (IntKind.i64.wrap (1 + x8))), 0) else some (0, 0, 3)))))
def f122 (a0 : List Int) (a1 : Int) : Option (Int × Int × Int) := (if a1 < 0 then some (0, 0, 8) else (if (a0.length : Int) < a1 then some (0, 0, 8) else (if a1 = (a0.length : Int) then some (0, 0, 2) else ((ix a0 a1).bind fun x7 => ((f144 (xorV .u8 (allV .u8) x7)).bind fun x8 => (if (IntKind.i64.wrap ((a0.length : Int) - a1)) < (IntKind.i64.wrap (1 + x8)) then some (0, 0, 2) else (if (IntKind.i64.wrap (1 + x8)) < 9 then ((guardO (0 ≤ (IntKind.i64.wrap (1 + x8)))).bind fun x42 => f122_j1 a0 a1 x8 (andV .u64 (IntKind.u64.wrap x7) (shrV .u64 255 (IntKind.i64.wrap (1 + x8)).toNat))) else f122_j1 a0 a1 x8 0)))))))
theorem ok122 (a0 : List Int) (a1 : Int) (r : Int × Int × Int) (h : f122 a0 a1 = some r) : PC Tryz.prog 122 [.sl (List.map enc5 a0), .val (.int .i64 a1)] (.tup [.val (.int .u64 r.1), .val (.int .i64 r.2.1), .val (.int .i64 r.2.2)]) := by
 rw [f122] at h
 refine pc_of9 (N := 71) (rs := [.tmp 4, .tmp 5, .tmp 6]) Tryz.func122 ?_
 refine AW.sX [0, 1, 4] ?_
 refine AW.seq ?_
 rcases iteO h with ⟨c3, h⟩ | ⟨c3, h⟩
 ·refine AW.sX [0, 1, 4, 17] ?_
  refine AW.ifBT rfl rfl <| AW.sX [4, 5, 6] ?_
  refine AW.ret <| thenA_r ?_
  obtain rfl := oi h
  (simp only [go_sem, seval, finA] <;> try simp)
 ·refine AW.sX [0, 1, 4, 17] ?_
  rcases iteO h with ⟨c4, h⟩ | ⟨c4, h⟩
  ·refine AW.ifT rfl c4 <| AW.sX [4, 5, 6] ?_
   refine AW.ret <| thenA_r ?_
   obtain rfl := oi h
   (simp only [go_sem, seval, finA] <;> try simp)
  ·refine AW.ifF rfl c4 <| AW.skip <| thenA_n <| AW.seq <| AW.sX [0, 1, 4, 21] ?_
   rcases iteO h with ⟨c6, h⟩ | ⟨c6, h⟩
   ·refine AW.ifT rfl c6 <| AW.sX [4, 5, 6] ?_
    refine AW.ret <| thenA_r ?_
    obtain rfl := oi h
    (simp only [go_sem, seval, finA] <;> try simp)
   ·refine AW.ifF rfl c6 <| AW.skip <| thenA_n ?_
    obtain ⟨x7, hx7, h⟩ := bO h
    obtain ⟨hx7a, hx7b⟩ := ix_some.1 hx7
    obtain ⟨x8, hx8, h⟩ := bO h
    refine AW.sC [0, 1, 4, 7] (ok144 (xorV .u8 (allV .u8) x7) x8 hx8) Tryz.call144 ?_
    refine AW.seq <| AW.tX [0, 1, 4, 7, 34] ?_
    rcases iteO h with ⟨c10, h⟩ | ⟨c10, h⟩
    ·refine AW.ifT rfl c10 <| AW.tX [4, 5, 6] ?_
     refine AW.ret <| thenA_r ?_
     obtain rfl := oi h
     (simp only [go_sem, seval, finA] <;> try simp)
    ·refine AW.ifF rfl c10 <| AW.skip <| thenA_n ?_
     refine AW.join (fun s => ⟨(upd (upd (upd (upd anyF 0 (.sl (List.map enc5 a0))) 1 (.val (.int .i64 a1))) 4 (.val (.int .u64 s))) 7 (.val (.int .i64 (IntKind.i64.wrap (1 + x8))))), hpL [] [], 8⟩) (fun s => f122_j1 a0 a1 x8 s = some r) ?_ ?_
     ·refine AW.tX [0, 1, 4, 7, 36] ?_
      rcases iteO h with ⟨c41, h⟩ | ⟨c41, h⟩
      ·refine AW.ifT rfl c41 ?_
       obtain ⟨x42, hx42, h⟩ := bO h
       refine AW.rf [0, 1, 4, 7] [0,0,3,7,15,0,32,127,255] ?_
       generalize hK : thenA _ _ Exit.normal = K
       simp only [go_sem, seval, natOf_le hx7a, hx7b, eq_false (Int.not_lt.2 (guardO_some.1 hx42))]
       subst hK
       refine thenA_n ?_
       refine ⟨_, h, ?_⟩
       exact Ent.cq RF.any.qv.qv.qv.qv
      ·refine AW.ifF rfl c41 <| AW.skip <| thenA_n ?_
       refine ⟨_, h, ?_⟩
       exact Ent.cq RF.any.qv.qv.qv.qv
     ·clear h
      rintro j1_0 h
      rw [f122_j1] at h
      refine AW.seq ?_
      obtain ⟨x24, hx24, h⟩ := bO h
      refine AW.rK [1, 4, 7, 51, 52, 53] fun K hK => ?_
      simp only [go_sem, seval, cut_ss el23 sz5 (ml_enc5 _) hx24]
      subst hK
      refine AW.block ?_
      obtain ⟨y38, hy38, h⟩ := bO h
      refine AW.loopO (fun s => ⟨(upd (upd (upd (upd (upd (upd anyF 1 (.val (.int .i64 a1))) 4 (.val (.int .u64 s.1))) 7 (.val (.int .i64 (IntKind.i64.wrap (1 + x8))))) 51 (.sl (List.map enc5 x24))) 52 (.val (.int .i64 (x24.length : Int)))) 53 (.val (.int .i64 s.2))), hpL [] [], 8⟩) (fun z e st' => e = Exit.exit 0 ∧ st' = ⟨(upd (upd (upd anyF 1 (.val (.int .i64 a1))) 4 (.val (.int .u64 z))) 7 (.val (.int .i64 (IntKind.i64.wrap (1 + x8))))), hpL [] [], 8⟩) hy38 ?_ ?_ ?_
      ·exact Ent.cq RF.any.qv.qv.qv.qv.qv.qv
      ·clear h hy38
       rintro ⟨s2_0, s2_1⟩ x h
       rw [f122_s2] at h
       refine AW.sX [1, 4, 7, 51, 52, 53, 54] ?_
       refine AW.seq ?_
       rcases iteO h with ⟨c35, h⟩ | ⟨c35, h⟩
       ·refine AW.ifT rfl c35 <| AW.skip <| thenA_n <| AW.seq <| AW.block ?_
        obtain ⟨x36, hx36, h⟩ := bO h
        obtain ⟨hx36a, hx36b⟩ := ix_some.1 hx36
        refine AW.vX [1, 4, 7, 9, 51, 52, 53] ?_
        refine AW.vY [1, 4, 7, 51, 52, 53] ?_
        refine block_n <| thenA_n <| AW.vY [1, 4, 7, 51, 52, 53] ?_
        refine thenA_n ?_
        refine ⟨_, oj h, ?_⟩
        exact Ent.cq RF.any.qv.qv.qv.qv.qv.qv
       ·refine AW.ifF rfl c35 <| AW.exit <| thenA_x <| thenA_x ?_
        refine ⟨_, oj h, _, ?_, rfl, rfl⟩
        exact Ent.cq RF.any.qv.qv.qv
      ·intro e st' hX
       try dsimp only at h
       try dsimp only at hX
       obtain ⟨rfl, rfl⟩ := hX
       refine ⟨_, Ent.refl, ?_⟩
       refine block_x <| thenA_n <| AW.seq ?_
       obtain ⟨x39, hx39, h⟩ := bO h
       refine AW.rC [1, 4, 7, 66] (ok132 y38 x39 hx39) Tryz.call132 ?_
       rcases iteO h with ⟨c40, h⟩ | ⟨c40, h⟩
       ·refine AW.ifF rfl (fun q => q c40) <| AW.skip <| thenA_n <| AW.sX [4, 5, 6] ?_
        refine AW.ret ?_
        obtain rfl := oi h
        (simp only [go_sem, seval, finA] <;> try simp)
       ·refine AW.ifT rfl c40 <| AW.sX [4, 5, 6] ?_
        refine AW.ret <| thenA_r ?_
        obtain rfl := oi h
        (simp only [go_sem, seval, finA] <;> try simp)
def f118_s1 (a0 : Int) : Int × Int → Option ((Int × Int) ⊕ Int)
  | (s1_0, s1_1) => (if s1_1 < a0 then some (.inl (IntKind.u64.wrap (2 * s1_0), IntKind.i64.wrap (s1_1 + 1))) else some (.inr s1_0))
def f118 (a0 : Int) : Option Int := ((loopO (f118_s1 a0) (1, 0)).bind fun y5 => some y5)
theorem ok118 (a0 : Int) (r : Int) (h : f118 a0 = some r) : PC Tryz.prog 118 [.val (.int .i64 a0)] (.val (.int .u64 r)) := by
 rw [f118] at h
 refine pc_of9 (N := 13) (rs := [.tmp 2]) Tryz.func118 ?_
 refine AW.rX [0] ?_
 refine AW.rX [0, 3] ?_
 refine AW.seq <| AW.rX [0, 3, 4] ?_
 refine AW.block ?_
 obtain ⟨y5, hy5, h⟩ := bO h
 refine AW.loopO (fun s => ⟨(upd (upd (upd anyF 0 (.val (.int .i64 a0))) 3 (.val (.int .u64 s.1))) 4 (.val (.int .i64 s.2))), hpL [] [], 8⟩) (fun z e st' => e = Exit.exit 0 ∧ st' = ⟨(upd anyF 3 (.val (.int .u64 z))), hpL [] [], 8⟩) hy5 ?_ ?_ ?_
 ·exact Ent.cq RF.any.qv.qv.qv
 ·clear h hy5
  rintro ⟨s1_0, s1_1⟩ x h
  rw [f118_s1] at h
  refine AW.seq <| AW.rX [0, 3, 4, 7] ?_
  rcases iteO h with ⟨c3, h⟩ | ⟨c3, h⟩
  ·refine AW.ifT rfl c3 <| AW.skip <| thenA_n <| AW.seq <| AW.block <| AW.rY [0, 3, 4] ?_
   refine block_n <| thenA_n <| AW.rY [0, 3, 4] ?_
   refine thenA_n ?_
   refine ⟨_, oj h, ?_⟩
   exact Ent.cq RF.any.qv.qv.qv
  ·refine AW.ifF rfl c3 <| AW.exit <| thenA_x <| thenA_x ?_
   refine ⟨_, oj h, _, ?_, rfl, rfl⟩
   exact Ent.cq RF.any.qv
 ·intro e st' hX
  try dsimp only at h
  try dsimp only at hX
  obtain ⟨rfl, rfl⟩ := hX
  refine ⟨_, Ent.refl, ?_⟩
  refine block_x <| thenA_n <| AW.rX [2] ?_
  refine AW.ret ?_
  obtain rfl := oi h
  (simp only [go_sem, seval, finA] <;> try simp)
def f117_s1 (a0 : Int) : Int → Option (Int ⊕ (Int ⊕ Unit))
  | s1_0 => (if s1_0 ≤ 8 then ((f118 (IntKind.i64.wrap (7 * s1_0))).bind fun x9 => (if a0 < x9 then some (.inr (.inl s1_0)) else some (.inl (IntKind.i64.wrap (s1_0 + 1))))) else some (.inr (.inr ())))
def f117 (a0 : Int) : Option Int := ((loopO (f117_s1 a0) 1).bind fun y11 => match y11 with | .inl y12 => some y12 | .inr _ => some 9)
theorem ok117 (a0 : Int) (r : Int) (h : f117 a0 = some r) : PC Tryz.prog 117 [.val (.int .u64 a0)] (.val (.int .i64 r)) := by
 rw [f117] at h
 refine pc_of9 (N := 14) (rs := [.tmp 2]) Tryz.func117 ?_
 refine AW.rX [0] ?_
 refine AW.seq <| AW.rX [0, 3] ?_
 refine AW.block ?_
 obtain ⟨y11, hy11, h⟩ := bO h
 refine AW.loopO (fun s => ⟨(upd (upd anyF 0 (.val (.int .u64 a0))) 3 (.val (.int .i64 s))), hpL [] [], 8⟩) (fun y e st' => match y with | .inl z => e = Exit.ret ∧ finA Tryz.prog [.tmp 2] (.val (.int .i64 z)) .ret st' | .inr z => e = Exit.exit 0 ∧ st' = ⟨anyF, hpL [] [], 8⟩) hy11 ?_ ?_ ?_
 ·exact Ent.cq RF.any.qv.qv
 ·clear h hy11
  rintro s1_0 x h
  rw [f117_s1] at h
  refine AW.seq <| AW.rX [0, 3, 5] ?_
  rcases iteO h with ⟨c8, h⟩ | ⟨c8, h⟩
  ·refine AW.ifT rfl c8 <| AW.skip <| thenA_n <| AW.seq <| AW.block ?_
   obtain ⟨x9, hx9, h⟩ := bO h
   refine AW.rC [0, 3, 12] (ok118 (IntKind.i64.wrap (7 * s1_0)) x9 hx9) Tryz.call118 ?_
   rcases iteO h with ⟨c10, h⟩ | ⟨c10, h⟩
   ·refine AW.ifT rfl c10 <| AW.rX [2] ?_
    refine AW.ret <| block_r <| thenA_r <| thenA_r ?_
    refine ⟨_, oj h, _, Ent.refl, rfl, ?_⟩
    (simp only [go_sem, seval, finA] <;> try simp)
   ·refine AW.ifF rfl c10 <| AW.skip <| block_n <| thenA_n <| AW.rY [0, 3] ?_
    refine thenA_n ?_
    refine ⟨_, oj h, ?_⟩
    exact Ent.cq RF.any.qv.qv
  ·refine AW.ifF rfl c8 <| AW.exit <| thenA_x <| thenA_x ?_
   refine ⟨_, oj h, _, ?_, rfl, rfl⟩
   exact Ent.cq RF.any
 ·intro e st' hX
  rcases y11 with y12 | _ <;> dsimp only at h hX
  ·obtain ⟨rfl, hf⟩ := hX
   refine ⟨_, Ent.refl, ?_⟩
   refine block_r <| thenA_r ?_
   obtain rfl := oi h
   exact hf
  ·obtain ⟨rfl, rfl⟩ := hX
   refine ⟨_, Ent.refl, ?_⟩
   refine block_x <| thenA_n <| AW.rX [2] ?_
   refine AW.ret ?_
   obtain rfl := oi h
   (simp only [go_sem, seval, finA] <;> try simp)
def f126_s1 : Int × Int → Option ((Int × Int) ⊕ Int)
  | (s1_0, s1_1) => (if 128 ≤ s1_0 then some (.inl (IntKind.u8.wrap ((IntKind.i64.wrap ((IntKind.i64.wrap s1_0) * 2)).tmod 256), IntKind.i64.wrap (s1_1 + 1))) else some (.inr s1_1))
def f126 (a0 : Int) : Option Int := ((loopO f126_s1 (a0, 0)).bind fun y8 => some y8)
theorem ok126 (a0 : Int) (r : Int) (h : f126 a0 = some r) : PC Tryz.prog 126 [.val (.int .u8 a0)] (.val (.int .i64 r)) := by
 rw [f126] at h
 refine pc_of9 (N := 14) (rs := [.tmp 2]) Tryz.func126 ?_
 refine AW.sX [0] ?_
 refine AW.sX [0, 3] ?_
 refine AW.seq <| AW.block ?_
 obtain ⟨y8, hy8, h⟩ := bO h
 refine AW.loopO (fun s => ⟨(upd (upd anyF 0 (.val (.int .u8 s.1))) 3 (.val (.int .i64 s.2))), hpL [] [], 8⟩) (fun z e st' => e = Exit.exit 0 ∧ st' = ⟨(upd anyF 3 (.val (.int .i64 z))), hpL [] [], 8⟩) hy8 ?_ ?_ ?_
 ·exact Ent.cq RF.any.qv.qv
 ·clear h hy8
  rintro ⟨s1_0, s1_1⟩ x h
  rw [f126_s1] at h
  refine AW.seq <| AW.sX [0, 3, 5] ?_
  rcases iteO h with ⟨c6, h⟩ | ⟨c6, h⟩
  ·refine AW.ifT rfl c6 <| AW.skip <| thenA_n <| AW.block <| AW.tX [0, 3] ?_
   refine AW.tY [0, 3] ?_
   refine block_n <| thenA_n ?_
   refine ⟨_, oj h, ?_⟩
   exact Ent.cq RF.any.qv.qv
  ·refine AW.ifF rfl c6 <| AW.exit <| thenA_x <| thenA_x ?_
   refine ⟨_, oj h, _, ?_, rfl, rfl⟩
   exact Ent.cq RF.any.qv
 ·intro e st' hX
  try dsimp only at h
  try dsimp only at hX
  obtain ⟨rfl, rfl⟩ := hX
  refine ⟨_, Ent.refl, ?_⟩
  refine block_x <| thenA_n <| AW.sX [2] ?_
  refine AW.ret ?_
  obtain rfl := oi h
  (simp only [go_sem, seval, finA] <;> try simp)
def f99_s2 (a0 : List Int) (a1 : Int) (x8 : Int) : Int × Int → Option ((Int × Int) ⊕ Int)
  | (s2_0, s2_1) => (if s2_1 < (IntKind.i64.wrap (a1 + (IntKind.i64.wrap (x8 + 1)))) then ((ix a0 s2_1).bind fun x30 => some (.inl (IntKind.u64.wrap ((IntKind.u64.wrap (256 * s2_0)) + (IntKind.u64.wrap x30)), IntKind.i64.wrap (s2_1 + 1)))) else some (.inr s2_0))
def f99_j1 (a0 : List Int) (a1 : Int) (x8 : Int) : Int → Option (Int × Int × Int)
  | j1_0 => ((loopO (f99_s2 a0 a1 x8) (j1_0, IntKind.i64.wrap (a1 + 1))).bind fun y32 => ((f117 y32).bind fun x33 => (if x33 = (IntKind.i64.wrap (x8 + 1)) then some (y32, IntKind.i64.wrap (a1 + (IntKind.i64.wrap (x8 + 1))), 0) else some (0, 0, 3))))
def f99 (a0 : List Int) (a1 : Int) : Option (Int × Int × Int) := (if a1 < 0 then some (0, 0, 8) else (if (a0.length : Int) < a1 then some (0, 0, 8) else (if a1 = (a0.length : Int) then some (0, 0, 2) else ((ix a0 a1).bind fun x7 => ((f126 x7).bind fun x8 => (if (IntKind.i64.wrap ((a0.length : Int) - a1)) < (IntKind.i64.wrap (x8 + 1)) then some (0, 0, 2) else (if (IntKind.i64.wrap (x8 + 1)) ≤ 8 then ((f118 (IntKind.i64.wrap (8 - (IntKind.i64.wrap (x8 + 1))))).bind fun x36 => ((guardO (¬ x36 = 0)).bind fun x37 => f99_j1 a0 a1 x8 ((IntKind.u64.wrap x7).tmod x36))) else f99_j1 a0 a1 x8 0)))))))
theorem ok99 (a0 : List Int) (a1 : Int) (r : Int × Int × Int) (h : f99 a0 a1 = some r) : PC Tryz.prog 99 [.sl (List.map enc5 a0), .val (.int .i64 a1)] (.tup [.val (.int .u64 r.1), .val (.int .i64 r.2.1), .val (.int .i64 r.2.2)]) := by
 rw [f99] at h
 refine pc_of9 (N := 70) (rs := [.tmp 4, .tmp 5, .tmp 6]) Tryz.func99 ?_
 refine AW.sX [0, 1] ?_
 refine AW.seq ?_
 rcases iteO h with ⟨c3, h⟩ | ⟨c3, h⟩
 ·refine AW.sX [0, 1, 17] ?_
  refine AW.ifBT rfl rfl <| AW.sX [4, 5, 6] ?_
  refine AW.ret <| thenA_r ?_
  obtain rfl := oi h
  (simp only [go_sem, seval, finA] <;> try simp)
 ·refine AW.sX [0, 1, 17] ?_
  rcases iteO h with ⟨c4, h⟩ | ⟨c4, h⟩
  ·refine AW.ifT rfl c4 <| AW.rX [4, 5, 6] ?_
   refine AW.ret <| thenA_r ?_
   obtain rfl := oi h
   (simp only [go_sem, seval, finA] <;> try simp)
  ·refine AW.ifF rfl c4 <| AW.skip <| thenA_n <| AW.seq <| AW.rX [0, 1, 21] ?_
   rcases iteO h with ⟨c6, h⟩ | ⟨c6, h⟩
   ·refine AW.ifT rfl c6 <| AW.rX [4, 5, 6] ?_
    refine AW.ret <| thenA_r ?_
    obtain rfl := oi h
    (simp only [go_sem, seval, finA] <;> try simp)
   ·refine AW.ifF rfl c6 <| AW.skip <| thenA_n ?_
    obtain ⟨x7, hx7, h⟩ := bO h
    obtain ⟨hx7a, hx7b⟩ := ix_some.1 hx7
    obtain ⟨x8, hx8, h⟩ := bO h
    refine AW.vC [0, 1, 7] (ok126 x7 x8 hx8) Tryz.call126 ?_
    refine AW.seq <| AW.rX [0, 1, 7, 33] ?_
    rcases iteO h with ⟨c10, h⟩ | ⟨c10, h⟩
    ·refine AW.ifT rfl c10 <| AW.rX [4, 5, 6] ?_
     refine AW.ret <| thenA_r ?_
     obtain rfl := oi h
     (simp only [go_sem, seval, finA] <;> try simp)
    ·refine AW.ifF rfl c10 <| AW.skip <| thenA_n <| AW.rX [0, 1, 7, 8] ?_
     refine AW.join (fun s => ⟨(upd (upd (upd (upd anyF 0 (.sl (List.map enc5 a0))) 1 (.val (.int .i64 a1))) 7 (.val (.int .i64 (IntKind.i64.wrap (x8 + 1))))) 8 (.val (.int .u64 s))), hpL [] [], 8⟩) (fun s => f99_j1 a0 a1 x8 s = some r) ?_ ?_
     ·refine AW.tX [0, 1, 7, 8, 35] ?_
      rcases iteO h with ⟨c35, h⟩ | ⟨c35, h⟩
      ·refine AW.ifT rfl c35 ?_
       obtain ⟨x36, hx36, h⟩ := bO h
       obtain ⟨x37, hx37, h⟩ := bO h
       refine AW.rH [0, 1, 7, 8] [0,0,3,7,15,0,32,96,255,511] (ok118 (IntKind.i64.wrap (8 - (IntKind.i64.wrap (x8 + 1)))) x36 hx36) Tryz.call118 ?_
       generalize hK : thenA _ _ Exit.normal = K
       simp only [go_sem, seval, natOf_le hx7a, hx7b, eq_false (guardO_some.1 hx37)]
       subst hK
       refine thenA_n ?_
       refine ⟨_, h, ?_⟩
       exact Ent.cq RF.any.qv.qv.qv.qv
      ·refine AW.ifF rfl c35 <| AW.skip <| thenA_n ?_
       refine ⟨_, h, ?_⟩
       exact Ent.cq RF.any.qv.qv.qv.qv
     ·clear h
      rintro j1_0 h
      rw [f99_j1] at h
      refine AW.seq <| AW.rX [0, 1, 7, 8, 9] ?_
      refine AW.block ?_
      obtain ⟨y32, hy32, h⟩ := bO h
      refine AW.loopO (fun s => ⟨(upd (upd (upd (upd (upd anyF 0 (.sl (List.map enc5 a0))) 1 (.val (.int .i64 a1))) 7 (.val (.int .i64 (IntKind.i64.wrap (x8 + 1))))) 8 (.val (.int .u64 s.1))) 9 (.val (.int .i64 s.2))), hpL [] [], 8⟩) (fun z e st' => e = Exit.exit 0 ∧ st' = ⟨(upd (upd (upd anyF 1 (.val (.int .i64 a1))) 7 (.val (.int .i64 (IntKind.i64.wrap (x8 + 1))))) 8 (.val (.int .u64 z))), hpL [] [], 8⟩) hy32 ?_ ?_ ?_
      ·exact Ent.cq RF.any.qv.qv.qv.qv.qv
      ·clear h hy32
       rintro ⟨s2_0, s2_1⟩ x h
       rw [f99_s2] at h
       refine AW.seq <| AW.rX [0, 1, 7, 8, 9, 51] ?_
       rcases iteO h with ⟨c29, h⟩ | ⟨c29, h⟩
       ·refine AW.ifT rfl c29 <| AW.skip <| thenA_n <| AW.seq <| AW.block ?_
        obtain ⟨x30, hx30, h⟩ := bO h
        obtain ⟨hx30a, hx30b⟩ := ix_some.1 hx30
        refine AW.sY [0, 1, 7, 8, 9] ?_
        refine block_n <| thenA_n <| AW.rY [0, 1, 7, 8, 9] ?_
        refine thenA_n ?_
        refine ⟨_, oj h, ?_⟩
        exact Ent.cq RF.any.qv.qv.qv.qv.qv
       ·refine AW.ifF rfl c29 <| AW.exit <| thenA_x <| thenA_x ?_
        refine ⟨_, oj h, _, ?_, rfl, rfl⟩
        exact Ent.cq RF.any.qv.qv.qv
      ·intro e st' hX
       try dsimp only at h
       try dsimp only at hX
       obtain ⟨rfl, rfl⟩ := hX
       refine ⟨_, Ent.refl, ?_⟩
       refine block_x <| thenA_n <| AW.seq ?_
       obtain ⟨x33, hx33, h⟩ := bO h
       refine AW.rC [1, 7, 8, 65] (ok117 y32 x33 hx33) Tryz.call117 ?_
       rcases iteO h with ⟨c34, h⟩ | ⟨c34, h⟩
       ·refine AW.ifF rfl (fun q => q c34) <| AW.skip <| thenA_n <| AW.rX [4, 5, 6] ?_
        refine AW.ret ?_
        obtain rfl := oi h
        (simp only [go_sem, seval, finA] <;> try simp)
       ·refine AW.ifT rfl c34 <| AW.rX [4, 5, 6] ?_
        refine AW.ret <| thenA_r ?_
        obtain rfl := oi h
        (simp only [go_sem, seval, finA] <;> try simp)
def leadB (i : Nat) : Bool := match iterO f126_s1 10 ((i : Int), 0) with
  | some k => decide (f144 (xorV .u8 (allV .u8) (i : Int)) = some k) && decide (0 ≤ k) && decide (k ≤ 8)
  | none => false
theorem leadAll : (List.range 256).all leadB = true := by kernel_rfl
theorem lead {x : Int} (h0 : 0 ≤ x) (h1 : x < 256) : ∃ k, f126 x = some k ∧ f144 (xorV .u8 (allV .u8) x) = some k ∧ 0 ≤ k ∧ k ≤ 8 := by
  have h := List.all_eq_true.1 leadAll x.toNat (by simp; omega)
  unfold leadB at h
  have e : ((x.toNat : Nat) : Int) = x := by omega
  rw [e] at h
  split at h
  · rename_i k hk
    simp only [Bool.and_eq_true, decide_eq_true_eq] at h
    exact ⟨k, by rw [f126, loopO_iff.2 ⟨10, hk⟩]; rfl, h.1.1, h.1.2, h.2⟩
  · cases h
def powB (k : Nat) : Bool := decide (iterO (f118_s1 (k : Int)) 70 (1, 0) = some (IntKind.u64.wrap (2 ^ k)))
theorem powAll : (List.range 65).all powB = true := by kernel_rfl
theorem pow {k : Int} (h0 : 0 ≤ k) (h1 : k < 65) : f118 k = some (IntKind.u64.wrap (2 ^ k.toNat)) := by
  have h := List.all_eq_true.1 powAll k.toNat (by simp; omega)
  unfold powB at h
  have e : ((k.toNat : Nat) : Int) = k := by omega
  rw [e, decide_eq_true_eq] at h
  rw [f118, loopO_iff.2 ⟨70, h⟩]; rfl
def firstB (x n : Nat) : Bool := decide (andV .u64 (IntKind.u64.wrap (x : Int)) (shrV .u64 255 n) = (IntKind.u64.wrap (x : Int)).tmod (IntKind.u64.wrap (2 ^ (8 - n))))
theorem firstAll : ((List.range 256).all fun x => (List.range 9).all fun n => firstB x n) = true := by kernel_rfl
theorem first {x : Int} {n : Nat} (h0 : 0 ≤ x) (h1 : x < 256) (hn : n < 9) : andV .u64 (IntKind.u64.wrap x) (shrV .u64 255 n) = (IntKind.u64.wrap x).tmod (IntKind.u64.wrap (2 ^ (8 - n))) := by
  have h := List.all_eq_true.1 (List.all_eq_true.1 firstAll x.toNat (by simp; omega)) n (by simpa using hn)
  unfold firstB at h
  have e : ((x.toNat : Nat) : Int) = x := by omega
  rw [e, decide_eq_true_eq] at h
  exact h
theorem u64_wrap (n : Int) : IntKind.u64.wrap n = n % 18446744073709551616 := by
  simp [IntKind.wrap, IntKind.bits, IntKind.signed]
theorem i64_id {n : Int} (h0 : -9223372036854775808 ≤ n) (h1 : n < 9223372036854775808) : IntKind.i64.wrap n = n := by
  simp only [IntKind.wrap, IntKind.bits, IntKind.signed, Bool.true_and]
  split
  · rename_i h; simp only [ge_iff_le, decide_eq_true_eq] at h; omega
  · rename_i h; simp only [ge_iff_le, decide_eq_true_eq] at h; omega
theorem orN {n m : Nat} (hn : n < 2 ^ 64) (hm : m < 2 ^ 64) : orV .u64 (n : Int) (m : Int) = ((n ||| m : Nat) : Int) := by
  show IntKind.u64.wrap (((BitVec.ofInt 64 (n : Int) ||| BitVec.ofInt 64 (m : Int)).toNat : Nat) : Int) = _
  rw [u64_wrap, BitVec.toNat_or, BitVec.ofInt_natCast, BitVec.ofInt_natCast, BitVec.toNat_ofNat, BitVec.toNat_ofNat, Nat.mod_eq_of_lt hn, Nat.mod_eq_of_lt hm]
  have : n ||| m < 2 ^ 64 := Nat.or_lt_two_pow hn hm
  omega
theorem nextByte {v x : Int} (h0 : 0 ≤ v) (hx : 0 ≤ x) (hx1 : x < 256) :
    orV .u64 (shlV .u64 v 8) (IntKind.u64.wrap x) = IntKind.u64.wrap (IntKind.u64.wrap (256 * v) + IntKind.u64.wrap x) := by
  obtain ⟨n, rfl⟩ := Int.eq_ofNat_of_zero_le h0
  obtain ⟨m, rfl⟩ := Int.eq_ofNat_of_zero_le hx
  have e1 : shlV .u64 (n : Int) 8 = (((n % 72057594037927936) * 256 : Nat) : Int) := by
    show IntKind.u64.wrap ((n : Int) * 2 ^ (min 8 64)) = _
    rw [u64_wrap]
    simp only [Nat.reduceLeDiff, Nat.min_eq_left, Int.reducePow]
    omega
  have e2 : IntKind.u64.wrap (m : Int) = (m : Int) := by rw [u64_wrap]; omega
  rw [e1, e2, orN (by omega) (by omega)]
  have e3 : (n % 72057594037927936) * 256 ||| m = (n % 72057594037927936) * 256 + m := by
    have := Nat.shiftLeft_add_eq_or_of_lt (i := 8) (b := m) (by omega) (n % 72057594037927936)
    rw [Nat.shiftLeft_eq] at this
    simpa using this.symm
  rw [e3, u64_wrap, u64_wrap]
  omega
theorem shr_nat {v : Int} {k : Nat} (h0 : 0 ≤ v) (hk : k ≤ 64) : shrV .u64 v k = 0 ↔ v < 2 ^ k := by
  show v.fdiv (2 ^ (min k 64)) = 0 ↔ _
  rw [Nat.min_eq_left hk]
  obtain ⟨n, rfl⟩ := Int.eq_ofNat_of_zero_le h0
  have hp : (2 : Int) ^ k = ((2 ^ k : Nat) : Int) := by simp
  have hq := Nat.two_pow_pos k
  have := Nat.div_eq_zero_iff_lt (x := n) hq
  rw [hp]
  generalize 2 ^ k = q at *
  rw [Int.fdiv_eq_ediv_of_nonneg _ (by omega), ← Int.natCast_ediv]
  omega
theorem loopO_two {σ τ ρ π : Type} {s1 : σ → Option (σ ⊕ ρ)} {s2 : τ → Option (τ ⊕ π)} (I : Nat → σ → τ → Prop) {Q : ρ → π → Prop}
    (h : ∀ k s t, I k s t → (∃ s' t' k', s1 s = some (.inl s') ∧ s2 t = some (.inl t') ∧ k' < k ∧ I k' s' t') ∨ (∃ r r', loopO s1 s = some r ∧ loopO s2 t = some r' ∧ Q r r')) :
    ∀ {k : Nat} {s : σ} {t : τ}, I k s t → ∃ r r', loopO s1 s = some r ∧ loopO s2 t = some r' ∧ Q r r' := by
  intro k
  induction k using Nat.strongRecOn with
  | ind k ih =>
    intro s t hI
    rcases h k s t hI with ⟨s', t', k', h1, h2, hlt, hI'⟩ | h
    · rw [loopO_next h1, loopO_next h2]; exact ih k' hlt hI'
    · exact h
theorem size_eq {v : Int} (h0 : 0 ≤ v) : ∃ k, f132 v = some k ∧ f117 v = some k := by
  have key : ∃ r r', loopO (f132_s1 v) 1 = some r ∧ loopO (f117_s1 v) 1 = some r' ∧ r = r' := by
    refine loopO_two (fun k s t => s = t ∧ 1 ≤ s ∧ s ≤ 9 ∧ (k : Int) = 9 - s) ?_ (k := 8) ⟨rfl, by omega, by omega, by omega⟩
    rintro k s _ ⟨rfl, h1, h9, hk⟩
    by_cases h8 : s ≤ 8
    · have hw : IntKind.i64.wrap (7 * s) = 7 * s := i64_id (by omega) (by omega)
      have hw1 : IntKind.i64.wrap (s + 1) = s + 1 := i64_id (by omega) (by omega)
      have e1 : f132_s1 v s = if v < 2 ^ (7 * s).toNat then some (.inr (.inl s)) else some (.inl (s + 1)) := by
        rw [f132_s1, if_pos h8, hw, guardO_ok (by omega), hw1]
        simp only [Option.bind_some, shr_nat h0 (by omega : (7 * s).toNat ≤ 64)]
      have e2 : f117_s1 v s = if v < 2 ^ (7 * s).toNat then some (.inr (.inl s)) else some (.inl (s + 1)) := by
        rw [f117_s1, if_pos h8, hw, pow (by omega) (by omega), hw1]
        have : IntKind.u64.wrap (2 ^ (7 * s).toNat) = 2 ^ (7 * s).toNat := by
          rw [u64_wrap]
          have hle : (2 : Nat) ^ (7 * s).toNat ≤ 2 ^ 56 := Nat.pow_le_pow_right (by omega) (by omega)
          have hp : (2 : Int) ^ (7 * s).toNat = ((2 ^ (7 * s).toNat : Nat) : Int) := by simp
          rw [hp]
          generalize 2 ^ (7 * s).toNat = q at *
          omega
        simp only [Option.bind_some, this]
      by_cases hv : v < 2 ^ (7 * s).toNat
      · rw [if_pos hv] at e1 e2
        exact .inr ⟨_, _, loopO_done e1, loopO_done e2, rfl⟩
      · rw [if_neg hv] at e1 e2
        exact .inl ⟨_, _, k - 1, e1, e2, by omega, rfl, by omega, by omega, by omega⟩
    · exact .inr ⟨_, _, loopO_done (by rw [f132_s1, if_neg h8]), loopO_done (by rw [f117_s1, if_neg h8]), rfl⟩
  obtain ⟨r, _, h1, h2, rfl⟩ := key
  cases r with
  | inl k => exact ⟨k, by rw [f132, h1]; rfl, by rw [f117, h2]; rfl⟩
  | inr u => exact ⟨9, by rw [f132, h1]; rfl, by rw [f117, h2]; rfl⟩
def Byt (b : List Int) : Prop := ∀ x ∈ b, 0 ≤ x ∧ x < 256
def UV (b : List Int) (a : Int) (r : Int × Int × Int) : Prop := (r.2.2 = 0 ∧ 0 ≤ r.1 ∧ r.1 < 18446744073709551616 ∧ 0 ≤ a ∧ a < r.2.1 ∧ r.2.1 ≤ b.length) ∨ (r.2.2 ≠ 0 ∧ r.1 = 0 ∧ r.2.1 = 0)
theorem u64_rng (n : Int) : 0 ≤ IntKind.u64.wrap n ∧ IntKind.u64.wrap n < 18446744073709551616 := by rw [u64_wrap]; omega
theorem uv_j {b : List Int} (hb : Byt b) (hl : b.length ≤ 1000000) {a x8 v : Int} (h0 : 0 ≤ a) (hx : 0 ≤ x8) (hx8 : x8 ≤ 8) (hn : a + (1 + x8) ≤ b.length) (hv : 0 ≤ v) (hv1 : v < 18446744073709551616) :
    ∃ r, f122_j1 b a x8 v = some r ∧ f99_j1 b a x8 v = some r ∧ UV b a r := by
  have w1 : IntKind.i64.wrap (1 + x8) = 1 + x8 := i64_id (by omega) (by omega)
  have w1' : IntKind.i64.wrap (x8 + 1) = 1 + x8 := by rw [i64_id (by omega) (by omega)]; omega
  have w2 : IntKind.i64.wrap (a + 1) = a + 1 := i64_id (by omega) (by omega)
  have w3 : IntKind.i64.wrap (a + (1 + x8)) = a + (1 + x8) := i64_id (by omega) (by omega)
  let c := (b.drop (a + 1).toNat).take ((a + (1 + x8)).toNat - (a + 1).toNat)
  have hc : cutO? b (a + 1) (a + (1 + x8)) = some c := cutO?_some.2 ⟨⟨by omega, by omega, by omega⟩, rfl⟩
  have hcl : (c.length : Int) = x8 := by simp only [c, List.length_take, List.length_drop]; omega
  have key : ∃ r r', loopO (f122_s2 c) (v, 0) = some r ∧ loopO (f99_s2 b a x8) (v, a + 1) = some r' ∧ (r = r' ∧ 0 ≤ r ∧ r < 18446744073709551616) := by
    refine loopO_two (fun k s t => s.1 = t.1 ∧ 0 ≤ s.1 ∧ s.1 < 18446744073709551616 ∧ 0 ≤ s.2 ∧ s.2 ≤ x8 ∧ t.2 = a + 1 + s.2 ∧ (k : Int) = x8 - s.2) ?_ (k := x8.toNat) ⟨rfl, hv, hv1, by omega, by omega, by simp, by simp; omega⟩
    rintro k ⟨v, i⟩ ⟨v', j⟩ ⟨e1, e2, e3, e4, e5, e6, e7⟩
    simp only at e1 e2 e3 e4 e5 e6 e7
    subst e1 e6
    by_cases hi : i < x8
    · have hlt : i.toNat < c.length := by omega
      have hlt2 : (a + 1 + i).toNat < b.length := by omega
      have hget : c[i.toNat] = b[(a + 1 + i).toNat] := by
        simp only [c, List.getElem_take, List.getElem_drop]
        congr 1; omega
      obtain ⟨b0, b1⟩ := hb _ (List.getElem_mem hlt2)
      have i1 : ix c i = some b[(a + 1 + i).toNat] := ix_some.2 ⟨e4, by rw [← hget]; exact List.getElem?_eq_getElem hlt⟩
      have i2 : ix b (a + 1 + i) = some b[(a + 1 + i).toNat] := ix_some.2 ⟨by omega, List.getElem?_eq_getElem hlt2⟩
      refine .inl ⟨(IntKind.u64.wrap (IntKind.u64.wrap (256 * v) + IntKind.u64.wrap b[(a + 1 + i).toNat]), i + 1), (IntKind.u64.wrap (IntKind.u64.wrap (256 * v) + IntKind.u64.wrap b[(a + 1 + i).toNat]), a + 1 + i + 1), k - 1, ?_, ?_, by omega, rfl, (u64_rng _).1, (u64_rng _).2, by simp only; omega, by simp only; omega, by simp only; omega, by simp only; omega⟩
      · simp only [f122_s2, hcl, if_pos hi, i1, Option.bind_some, nextByte e2 b0 b1, i64_id (show -9223372036854775808 ≤ i + 1 by omega) (by omega)]
      · simp only [f99_s2, w1', w3, if_pos (show a + 1 + i < a + (1 + x8) by omega), i2, Option.bind_some, i64_id (show -9223372036854775808 ≤ a + 1 + i + 1 by omega) (by omega)]
    · refine .inr ⟨v, v, loopO_done ?_, loopO_done ?_, rfl, e2, e3⟩
      · simp only [f122_s2, hcl, if_neg hi]
      · simp only [f99_s2, w1', w3, if_neg (show ¬ a + 1 + i < a + (1 + x8) by omega)]
  obtain ⟨y, _, k1, k2, rfl, k3, k4⟩ := key
  obtain ⟨z, z1, z2⟩ := size_eq k3
  by_cases hz : z = 1 + x8
  · refine ⟨(y, a + (1 + x8), 0), ?_, ?_, .inl ⟨rfl, k3, k4, h0, by simp only; omega, by simp only; omega⟩⟩
    · simp only [f122_j1, w1, w2, w3, hc, Option.bind_some, k1, z1, if_pos hz]
    · simp only [f99_j1, w1', w2, w3, Option.bind_some, k2, z2, if_pos hz]
  · refine ⟨(0, 0, 3), ?_, ?_, .inr ⟨by simp, rfl, rfl⟩⟩
    · simp only [f122_j1, w1, w2, w3, hc, Option.bind_some, k1, z1, if_neg hz]
    · simp only [f99_j1, w1', w2, w3, Option.bind_some, k2, z2, if_neg hz]
theorem uv_eq {b : List Int} (hb : Byt b) (hl : b.length ≤ 1000000) (a : Int) : ∃ r, f122 b a = some r ∧ f99 b a = some r ∧ UV b a r := by
  unfold f122 f99
  by_cases h1 : a < 0
  · simp only [if_pos h1]; exact ⟨_, rfl, rfl, .inr ⟨by simp, rfl, rfl⟩⟩
  simp only [if_neg h1]
  by_cases h2 : (b.length : Int) < a
  · simp only [if_pos h2]; exact ⟨_, rfl, rfl, .inr ⟨by simp, rfl, rfl⟩⟩
  simp only [if_neg h2]
  by_cases h3 : a = (b.length : Int)
  · simp only [if_pos h3]; exact ⟨_, rfl, rfl, .inr ⟨by simp, rfl, rfl⟩⟩
  simp only [if_neg h3]
  have hlt : a.toNat < b.length := by omega
  have i1 : ix b a = some b[a.toNat] := ix_some.2 ⟨by omega, List.getElem?_eq_getElem hlt⟩
  obtain ⟨b0, b1⟩ := hb _ (List.getElem_mem hlt)
  generalize b[a.toNat] = x7 at i1 b0 b1
  obtain ⟨x8, l1, l2, l3, l4⟩ := lead b0 b1
  have w1 : IntKind.i64.wrap (1 + x8) = 1 + x8 := i64_id (by omega) (by omega)
  have w1' : IntKind.i64.wrap (x8 + 1) = 1 + x8 := by rw [i64_id (by omega) (by omega)]; omega
  have w2 : IntKind.i64.wrap ((b.length : Int) - a) = (b.length : Int) - a := i64_id (by omega) (by omega)
  simp only [i1, Option.bind_some, l1, l2, w1, w1', w2]
  by_cases h4 : (b.length : Int) - a < 1 + x8
  · simp only [if_pos h4]; exact ⟨_, rfl, rfl, .inr ⟨by simp, rfl, rfl⟩⟩
  simp only [if_neg h4]
  by_cases h5 : 1 + x8 < 9
  · have h5' : 1 + x8 ≤ 8 := by omega
    have w4 : IntKind.i64.wrap (8 - (1 + x8)) = 8 - (1 + x8) := i64_id (by omega) (by omega)
    have hp : ¬ IntKind.u64.wrap (2 ^ (8 - (1 + x8)).toNat) = 0 := by
      rw [u64_wrap]
      have hle : (2 : Nat) ^ (8 - (1 + x8)).toNat ≤ 2 ^ 8 := Nat.pow_le_pow_right (by omega) (by omega)
      have hq := Nat.two_pow_pos (8 - (1 + x8)).toNat
      have hp : (2 : Int) ^ (8 - (1 + x8)).toNat = ((2 ^ (8 - (1 + x8)).toNat : Nat) : Int) := by simp
      rw [hp]
      generalize 2 ^ (8 - (1 + x8)).toNat = q at *
      omega
    simp only [if_pos h5, if_pos h5', w4, pow (show 0 ≤ 8 - (1 + x8) by omega) (by omega), Option.bind_some, guardO_ok hp, guardO_ok (show 0 ≤ 1 + x8 by omega)]
    rw [first b0 b1 (by omega : (1 + x8).toNat < 9), show 8 - (1 + x8).toNat = (8 - (1 + x8)).toNat by omega]
    have r1 := u64_rng x7
    have r2 := u64_rng (2 ^ (8 - (1 + x8)).toNat)
    generalize IntKind.u64.wrap x7 = u at *
    generalize IntKind.u64.wrap (2 ^ (8 - (1 + x8)).toNat) = q at *
    refine uv_j hb hl (by omega) l3 l4 (by omega) ?_ ?_
    · exact Int.tmod_nonneg _ r1.1
    · have := Int.tmod_lt_of_pos u (show 0 < q by omega); omega
  · have h5' : ¬ 1 + x8 ≤ 8 := by omega
    simp only [if_neg h5, if_neg h5']
    exact uv_j hb hl (by omega) l3 l4 (by omega) (by omega) (by omega)
def f145 (a0 : List Int) (a1 : Int) (a2 : Int) : Option (ByteArray × Int × Int) := ((f122 a0 a1).bind fun x1 => (if x1.2.2 = 0 then (if a2 < 0 then some (⟨#[]⟩, 0, 5) else (if (IntKind.u64.wrap a2) < x1.1 then some (⟨#[]⟩, 0, 5) else (if (IntKind.u64.wrap (IntKind.i64.wrap ((a0.length : Int) - x1.2.1))) < x1.1 then some (⟨#[]⟩, 0, 2) else ((cutO? a0 x1.2.1 (IntKind.i64.wrap (x1.2.1 + (IntKind.i64.wrap x1.1)))).bind fun x10 => some (strOfNums x10, IntKind.i64.wrap (x1.2.1 + (IntKind.i64.wrap x1.1)), 0))))) else some (⟨#[]⟩, 0, x1.2.2)))
theorem ok145 (a0 : List Int) (a1 : Int) (a2 : Int) (r : ByteArray × Int × Int) (h : f145 a0 a1 a2 = some r) : PC Tryz.prog 145 [.sl (List.map enc5 a0), .val (.int .i64 a1), .val (.int .i64 a2)] (.tup [.val (.string r.1), .val (.int .i64 r.2.1), .val (.int .i64 r.2.2)]) := by
 rw [f145] at h
 refine pc_of9 (N := 50) (rs := [.tmp 6, .tmp 7, .tmp 8]) Tryz.func145 ?_
 refine AW.rX [0, 1, 2] ?_
 obtain ⟨x1, hx1, h⟩ := bO h
 refine AW.rC [0, 2, 7, 8, 9] (ok122 a0 a1 x1 hx1) Tryz.call122 ?_
 refine AW.seq <| AW.block <| AW.sX [0, 2, 7, 8, 9, 17] ?_
 rcases iteO h with ⟨c6, h⟩ | ⟨c6, h⟩
 ·refine AW.ifF rfl (fun q => q c6) ?_
  rcases iteO h with ⟨c7, h⟩ | ⟨c7, h⟩
  ·refine AW.sX [0, 7, 9, 21] ?_
   refine AW.ifBT rfl rfl <| AW.sX [6, 7, 8] ?_
   refine AW.ret <| block_r <| thenA_r ?_
   obtain rfl := oi h
   (simp only [go_sem, seval, finA] <;> try simp)
  ·refine AW.sX [0, 7, 9, 21] ?_
   rcases iteO h with ⟨c8, h⟩ | ⟨c8, h⟩
   ·refine AW.ifT rfl c8 <| AW.rX [6, 7, 8] ?_
    refine AW.ret <| block_r <| thenA_r ?_
    obtain rfl := oi h
    (simp only [go_sem, seval, finA] <;> try simp)
   ·refine AW.ifF rfl c8 <| AW.rX [0, 7, 9, 30] ?_
    rcases iteO h with ⟨c9, h⟩ | ⟨c9, h⟩
    ·refine AW.ifT rfl c9 <| AW.rX [6, 7, 8] ?_
     refine AW.ret <| block_r <| thenA_r ?_
     obtain rfl := oi h
     (simp only [go_sem, seval, finA] <;> try simp)
    ·refine AW.ifF rfl c9 <| AW.skip <| block_n <| thenA_n ?_
     obtain ⟨x10, hx10, h⟩ := bO h
     refine AW.rK [6, 7, 8] fun K hK => ?_
     simp only [go_sem, seval, cut_ss el23 sz5 (ml_enc5 _) hx10, byteNums_map (enc := enc5) (fun _ => rfl)]
     subst hK
     refine AW.ret ?_
     obtain rfl := oi h
     (simp only [go_sem, seval, finA] <;> try simp)
 ·refine AW.ifT rfl c6 <| AW.rX [6, 7, 8] ?_
  refine AW.ret <| block_r <| thenA_r ?_
  obtain rfl := oi h
  (simp only [go_sem, seval, finA] <;> try simp)
def f102 (a0 : List Int) (a1 : Int) (a2 : Int) : Option (ByteArray × Int × Int) := ((f99 a0 a1).bind fun x1 => (if x1.2.2 = 0 then (if a2 < 0 then some (⟨#[]⟩, 0, 5) else (if (IntKind.u64.wrap a2) < x1.1 then some (⟨#[]⟩, 0, 5) else (if (IntKind.u64.wrap (IntKind.i64.wrap ((a0.length : Int) - x1.2.1))) < x1.1 then some (⟨#[]⟩, 0, 2) else ((cutO? a0 x1.2.1 (IntKind.i64.wrap (x1.2.1 + (IntKind.i64.wrap x1.1)))).bind fun x10 => some (strOfNums x10, IntKind.i64.wrap (x1.2.1 + (IntKind.i64.wrap x1.1)), 0))))) else some (⟨#[]⟩, 0, x1.2.2)))
theorem ok102 (a0 : List Int) (a1 : Int) (a2 : Int) (r : ByteArray × Int × Int) (h : f102 a0 a1 a2 = some r) : PC Tryz.prog 102 [.sl (List.map enc5 a0), .val (.int .i64 a1), .val (.int .i64 a2)] (.tup [.val (.string r.1), .val (.int .i64 r.2.1), .val (.int .i64 r.2.2)]) := by
 rw [f102] at h
 refine pc_of9 (N := 49) (rs := [.tmp 6, .tmp 7, .tmp 8]) Tryz.func102 ?_
 refine AW.rX [0, 1, 2] ?_
 obtain ⟨x1, hx1, h⟩ := bO h
 refine AW.rC [0, 2, 9, 10, 11] (ok99 a0 a1 x1 hx1) Tryz.call99 ?_
 refine AW.seq <| AW.sX [0, 2, 9, 10, 11, 20] ?_
 rcases iteO h with ⟨c3, h⟩ | ⟨c3, h⟩
 ·refine AW.ifF rfl (fun q => q c3) ?_
  refine AW.skip <| thenA_n <| AW.seq ?_
  rcases iteO h with ⟨c6, h⟩ | ⟨c6, h⟩
  ·refine AW.sX [0, 9, 10, 29] ?_
   refine AW.ifBT rfl rfl <| AW.sX [6, 7, 8] ?_
   refine AW.ret <| thenA_r ?_
   obtain rfl := oi h
   (simp only [go_sem, seval, finA] <;> try simp)
  ·refine AW.sX [0, 9, 10, 29] ?_
   rcases iteO h with ⟨c7, h⟩ | ⟨c7, h⟩
   ·refine AW.ifT rfl c7 <| AW.rX [6, 7, 8] ?_
    refine AW.ret <| thenA_r ?_
    obtain rfl := oi h
    (simp only [go_sem, seval, finA] <;> try simp)
   ·refine AW.ifF rfl c7 <| AW.skip <| thenA_n <| AW.seq <| AW.rX [0, 9, 10, 36] ?_
    rcases iteO h with ⟨c9, h⟩ | ⟨c9, h⟩
    ·refine AW.ifT rfl c9 <| AW.rX [6, 7, 8] ?_
     refine AW.ret <| thenA_r ?_
     obtain rfl := oi h
     (simp only [go_sem, seval, finA] <;> try simp)
    ·refine AW.ifF rfl c9 <| AW.skip <| thenA_n ?_
     obtain ⟨x10, hx10, h⟩ := bO h
     refine AW.rK [6, 7, 8] fun K hK => ?_
     simp only [go_sem, seval, cut_ss el23 sz5 (ml_enc5 _) hx10, byteNums_map (enc := enc5) (fun _ => rfl)]
     subst hK
     refine AW.ret ?_
     obtain rfl := oi h
     (simp only [go_sem, seval, finA] <;> try simp)
 ·refine AW.ifT rfl c3 <| AW.rX [6, 7, 8] ?_
  refine AW.ret <| thenA_r ?_
  obtain rfl := oi h
  (simp only [go_sem, seval, finA] <;> try simp)
def SV' (b : List Int) (a : Int) (r : ByteArray × Int × Int) : Prop := (r.2.2 = 0 ∧ 0 ≤ a ∧ a < r.2.1 ∧ r.2.1 ≤ b.length) ∨ (r.2.2 ≠ 0 ∧ r.2.1 = 0)
theorem sv_eq {b : List Int} (hb : Byt b) (hl : b.length ≤ 1000000) (a : Int) : ∃ r, f145 b a 65536 = some r ∧ f102 b a 65536 = some r ∧ SV' b a r := by
  obtain ⟨⟨v, p, e⟩, h1, h2, h3⟩ := uv_eq hb hl a
  simp only [f145, f102, h1, h2, Option.bind_some]
  rcases h3 with ⟨q1, q2, q3, q4, q5, q6⟩ | ⟨q1, q2, q3⟩
  · simp only at q1 q2 q3 q4 q5 q6
    subst q1
    simp only [if_true, if_neg (show ¬ (65536 : Int) < 0 by decide)]
    have w0 : IntKind.u64.wrap 65536 = 65536 := by decide
    have w1 : IntKind.u64.wrap (IntKind.i64.wrap ((b.length : Int) - p)) = (b.length : Int) - p := by rw [i64_id (by omega) (by omega), u64_wrap]; omega
    rw [w0, w1]
    by_cases c1 : 65536 < v
    · simp only [if_pos c1]; exact ⟨_, rfl, rfl, .inr ⟨by simp, rfl⟩⟩
    simp only [if_neg c1]
    by_cases c2 : (b.length : Int) - p < v
    · simp only [if_pos c2]; exact ⟨_, rfl, rfl, .inr ⟨by simp, rfl⟩⟩
    simp only [if_neg c2]
    have w2 : IntKind.i64.wrap v = v := i64_id (by omega) (by omega)
    have w3 : IntKind.i64.wrap (p + v) = p + v := i64_id (by omega) (by omega)
    rw [w2, w3, cutO?_some.2 ⟨⟨by omega, by omega, by omega⟩, rfl⟩]
    exact ⟨_, rfl, rfl, .inl ⟨rfl, q4, by simp only; omega, by simp only; omega⟩⟩
  · simp only at q1 q2 q3
    rw [if_neg q1]
    exact ⟨_, rfl, rfl, .inr ⟨q1, rfl⟩⟩
def f133 (a0 : List Int) : Option (List Int) := appO? [] a0
theorem ok133 (a0 : List Int) (r : List Int) (h : f133 a0 = some r) : PC Tryz.prog 133 [.sl (List.map enc5 a0)] (.fr 1 (List.map enc5 r)) := by
  obtain ⟨hl, hr⟩ := appO?_some.1 h
  rw [List.nil_append] at hr
  subst hr
  have hb : a0.length ≤ 34359738368 := by simpa using hl
  refine pc_of (N := 8) (rs := [.tmp 2]) Tryz.func133 rfl rfl rfl (Nat.le_of_ble_eq_true rfl) ?_
  refine AW.reg ?_
  generalize hK : AW Tryz.prog _ _ _ = K
  simp only [go_sem, seval]
  subst hK
  refine AW.seq ?_
  refine AW.nilq el23 rfl (by decide) (by decide) (fun bn hbn => ?_)
  refine AW.if rfl (fun hc4 => ?_) (fun hc4 => ?_)
  · have hl0 : a0 = [] := by simpa using hbn (by simpa using hc4)
    subst hl0
    refine AW.reg ?_
    generalize hK : AW Tryz.prog _ _ _ = K
    simp only [go_sem, seval]
    subst hK
    refine AW.ent (Ent.nilOwn 2 1 (by decide) rfl) ?_
    refine AW.ret <| thenA_r ?_
    exact fin_own (.inl rfl) rfl (by simp only [upd_ap, if_true]; rfl) rfl rfl rfl
  · refine AW.skip ?_
    refine thenA_n <| AW.reg ?_
    generalize hK : AW Tryz.prog _ _ _ = K
    simp (disch := first | omega | (simp only [List.length_map, List.length_cons, List.length_nil, List.length_append] <;> omega)) only [go_sem, seval]
    subst hK
    refine AW.ret ?_
    exact fin_own (.inl rfl) rfl (by simp only [upd_ap]; rfl) (by simp) (by simp only [go_sem]) rfl
def f109_s1 (a1 : Int) (j1_1 : Int) (j1_2 : Int) : (List Int) × Int → Option (((List Int) × Int) ⊕ (List Int))
  | (s1_0, s1_1) => (if s1_1 < j1_1 then ((guardO (0 ≤ (IntKind.i64.wrap (8 * (IntKind.i64.wrap ((IntKind.i64.wrap (j1_1 - 1)) - s1_1)))))).bind fun x21 => (if s1_1 = 0 then ((appO? s1_0 [orV .u8 (IntKind.u8.wrap (shrV .u64 a1 (IntKind.i64.wrap (8 * (IntKind.i64.wrap ((IntKind.i64.wrap (j1_1 - 1)) - s1_1)))).toNat)) j1_2]).bind fun x23 => some (.inl (x23, IntKind.i64.wrap (s1_1 + 1)))) else ((appO? s1_0 [IntKind.u8.wrap (shrV .u64 a1 (IntKind.i64.wrap (8 * (IntKind.i64.wrap ((IntKind.i64.wrap (j1_1 - 1)) - s1_1)))).toNat)]).bind fun x24 => some (.inl (x24, IntKind.i64.wrap (s1_1 + 1)))))) else some (.inr s1_0))
def f109_j1 (a1 : Int) : (List Int) × Int × Int → Option (List Int)
  | (j1_0, j1_1, j1_2) => ((loopO (f109_s1 a1 j1_1 j1_2) (j1_0, 0)).bind fun y26 => some y26)
def f109 (a0 : List Int) (a1 : Int) : Option (List Int) := ((f132 a1).bind fun x1 => ((f133 a0).bind fun x2 => ((guardO (0 ≤ (IntKind.i64.wrap (9 - x1)))).bind fun x3 => (if x1 = 9 then ((appO? x2 [255]).bind fun x28 => f109_j1 a1 (x28, 8, 0)) else f109_j1 a1 (x2, x1, (shlV .u8 255 (IntKind.i64.wrap (9 - x1)).toNat))))))
theorem ok109 (a0 : List Int) (a1 : Int) (r : (List Int)) (h : f109 a0 a1 = some r) : PC Tryz.prog 109 [.sl (List.map enc5 a0), .val (.int .u64 a1)] (.fr 1 (List.map enc5 r)) := by
 rw [f109] at h
 refine pc_of9 (N := 45) (rs := [.tmp 4]) Tryz.func109 ?_
 refine AW.sX [0, 1] ?_
 obtain ⟨x1, hx1, h⟩ := bO h
 refine AW.rC [0, 1, 5] (ok132 a1 x1 hx1) Tryz.call132 ?_
 obtain ⟨x2, hx2, h⟩ := bO h
 refine AW.rC [1, 5, 6] (ok133 a0 x2 hx2) Tryz.call133 ?_
 obtain ⟨x3, hx3, h⟩ := bO h
 refine AW.rK [1, 5, 6, 7] fun K hK => ?_
 simp only [go_sem, seval, eq_false (Int.not_lt.2 (guardO_some.1 hx3))]
 subst hK
 refine AW.join (fun s => ⟨(upd (upd (upd (upd anyF 1 (.val (.int .u64 a1))) 5 (.val (.int .i64 s.2.1))) 6 (.own 8 0 s.1.length)) 7 (.val (.int .u8 s.2.2))), hpL [] [some (.row 1 true (List.map enc5 s.1))], 9⟩) (fun s => f109_j1 a1 s = some r) ?_ ?_
 ·refine AW.rK [1, 5, 6, 7, 18] fun K hK => ?_
  simp only [go_sem, seval]
  subst hK
  rcases iteO h with ⟨c27, h⟩ | ⟨c27, h⟩
  ·refine AW.ifT rfl c27 ?_
   obtain ⟨x28, hx28, h⟩ := bO h
   obtain ⟨hx28b, hx28e⟩ := appO?_some.1 hx28
   have hx28f : ∀ id o : Nat, appO 1 1 id ([[.val (.int .u8 255)]]) 0 x2.length o (some (.row 1 true (List.map enc5 x2))) = some ⟨.own id 0 x28.length, [(o, none), (id, some (.row 1 true (List.map enc5 x28)))]⟩ := fun id o => by
     subst hx28e; rw [appO_ok (by simp) (by simpa using hx28b) (by decide)]; first | (simp [enc5]; done) | (simp [enc5]; omega)
   refine AW.sX [1, 6] ?_
   refine AW.tY [1, 5, 6, 7] ?_
   refine thenA_n ?_
   refine ⟨_, h, ?_⟩
   exact Ent.canq [128] RF.any.qv.qv.qo.qv (.nil _) (.ce (.nil _))
  ·refine AW.ifF rfl c27 <| AW.skip <| thenA_n ?_
   refine ⟨_, h, ?_⟩
   exact Ent.canq [48] RF.any.qv.qv.qo.qv (.nil _) (.ce (.nil _))
 ·clear h
  rintro ⟨j1_0, j1_1, j1_2⟩ h
  rw [f109_j1] at h
  refine AW.seq <| AW.rX [1, 5, 6, 7, 22, 23] ?_
  refine AW.block ?_
  obtain ⟨y26, hy26, h⟩ := bO h
  refine AW.loopO (fun s => ⟨(upd (upd (upd (upd (upd (upd anyF 1 (.val (.int .u64 a1))) 5 (.val (.int .i64 j1_1))) 6 (.own 8 0 s.1.length)) 7 (.val (.int .u8 j1_2))) 22 (.val (.int .i64 j1_1))) 23 (.val (.int .i64 s.2))), hpL [] [some (.row 1 true (List.map enc5 s.1))], 9⟩) (fun z e st' => e = Exit.exit 0 ∧ st' = ⟨(upd anyF 6 (.own 8 0 z.length)), hpL [] [some (.row 1 true (List.map enc5 z))], 9⟩) hy26 ?_ ?_ ?_
  ·exact Ent.canq [8] RF.any.qv.qv.qo.qv.qv.qv (.nil _) (.ce (.nil _))
  ·clear h hy26
   rintro ⟨s1_0, s1_1⟩ x h
   rw [f109_s1] at h
   refine AW.rX [1, 5, 6, 7, 22, 23, 24] ?_
   refine AW.seq ?_
   rcases iteO h with ⟨c20, h⟩ | ⟨c20, h⟩
   ·refine AW.ifT rfl c20 <| AW.skip <| thenA_n <| AW.seq <| AW.block <| AW.tX [1, 5, 6, 7, 8, 22, 23] ?_
    obtain ⟨x21, hx21, h⟩ := bO h
    refine AW.rK [1, 5, 6, 7, 8, 9, 22, 23] fun K hK => ?_
    simp only [go_sem, seval, eq_true c20, eq_false (Int.not_lt.2 (guardO_some.1 hx21))]
    subst hK
    refine AW.seq <| AW.rK [1, 5, 6, 7, 9, 22, 23, 35] fun K hK => ?_
    simp only [go_sem, seval]
    subst hK
    rcases iteO h with ⟨c22, h⟩ | ⟨c22, h⟩
    ·refine AW.ifT rfl c22 <| AW.rY [1, 5, 6, 7, 9, 22, 23] ?_
     refine thenA_n ?_
     obtain ⟨x23, hx23, h⟩ := bO h
     obtain ⟨hx23b, hx23e⟩ := appO?_some.1 hx23
     have hx23f : ∀ id o : Nat, appO 1 1 id ([[.val (.int .u8 (orV .u8 (IntKind.u8.wrap (shrV .u64 a1 (IntKind.i64.wrap (8 * (IntKind.i64.wrap ((IntKind.i64.wrap (j1_1 - 1)) - s1_1)))).toNat)) j1_2))]]) 0 s1_0.length o (some (.row 1 true (List.map enc5 s1_0))) = some ⟨.own id 0 x23.length, [(o, none), (id, some (.row 1 true (List.map enc5 x23)))]⟩ := fun id o => by
       subst hx23e; rw [appO_ok (by simp) (by simpa using hx23b) (by decide)]; first | (simp [enc5]; done) | (simp [enc5]; omega)
     refine AW.rL [1, 5, 6, 7, 22, 23] fun K hK => ?_
     simp only [go_sem, seval, hx23f]
     subst hK
     refine block_n <| thenA_n <| AW.rY [1, 5, 6, 7, 22, 23] ?_
     refine thenA_n ?_
     refine ⟨_, oj h, ?_⟩
     exact Ent.canq [177] RF.any.qv.qv.qo.qv.qv.qv (.nil _) (.ce (.nil _))
    ·refine AW.ifF rfl c22 <| AW.skip <| thenA_n ?_
     obtain ⟨x24, hx24, h⟩ := bO h
     obtain ⟨hx24b, hx24e⟩ := appO?_some.1 hx24
     have hx24f : ∀ id o : Nat, appO 1 1 id ([[.val (.int .u8 (IntKind.u8.wrap (shrV .u64 a1 (IntKind.i64.wrap (8 * (IntKind.i64.wrap ((IntKind.i64.wrap (j1_1 - 1)) - s1_1)))).toNat)))]]) 0 s1_0.length o (some (.row 1 true (List.map enc5 s1_0))) = some ⟨.own id 0 x24.length, [(o, none), (id, some (.row 1 true (List.map enc5 x24)))]⟩ := fun id o => by
       subst hx24e; rw [appO_ok (by simp) (by simpa using hx24b) (by decide)]; first | (simp [enc5]; done) | (simp [enc5]; omega)
     refine AW.sY [1, 5, 6, 7, 22, 23] ?_
     refine block_n <| thenA_n <| AW.rY [1, 5, 6, 7, 22, 23] ?_
     refine thenA_n ?_
     refine ⟨_, oj h, ?_⟩
     exact Ent.canq [145] RF.any.qv.qv.qo.qv.qv.qv (.nil _) (.ce (.nil _))
   ·refine AW.ifF rfl c20 <| AW.exit <| thenA_x <| thenA_x ?_
    refine ⟨_, oj h, _, ?_, rfl, rfl⟩
    exact Ent.canq [8] RF.any.qo (.nil _) (.ce (.nil _))
  ·intro e st' hX
   try dsimp only at h
   try dsimp only at hX
   obtain ⟨rfl, rfl⟩ := hX
   refine ⟨_, Ent.refl, ?_⟩
   refine block_x <| thenA_n <| AW.rX [4] ?_
   refine AW.ret ?_
   obtain rfl := oi h
   (simp only [go_sem, seval, finA] <;> try simp)
def f88_s2 : Int × (List Int) × Int → Option ((Int × (List Int) × Int) ⊕ (List Int))
  | (s2_0, s2_1, s2_2) => (if 0 ≤ s2_2 then ((ix s2_1 s2_2).bind fun x21 => some (.inl (IntKind.u64.wrap (s2_0.tdiv 256), (s2_1.set s2_2.toNat (IntKind.u8.wrap (s2_0.tmod 256))), IntKind.i64.wrap (s2_2 - 1)))) else some (.inr s2_1))
def f88_j1 (a0 : Int) (x1 : Int) : Int × Int → Option (List Int)
  | (j1_0, j1_1) => ((mkO j1_0 (0 : Int)).bind fun x4 => ((loopO f88_s2 (a0, x4, IntKind.i64.wrap (j1_0 - 1))).bind fun y23 => (if x1 = 9 then ((appO? [255] y23).bind fun x27 => some x27) else ((y23[0]?).bind fun x28 => some (y23.set 0 (IntKind.u8.wrap (IntKind.i64.wrap (j1_1 + (IntKind.i64.wrap x28)))))))))
def f88 (a0 : Int) : Option (List Int) := ((f117 a0).bind fun x1 => ((f118 (IntKind.i64.wrap (9 - x1))).bind fun x2 => (if x1 = 9 then f88_j1 a0 x1 (8, 0) else f88_j1 a0 x1 (x1, (IntKind.i64.wrap (256 - (IntKind.i64.wrap x2)))))))
theorem ok88 (a0 : Int) (r : (List Int)) (h : f88 a0 = some r) : PC Tryz.prog 88 [.val (.int .u64 a0)] (.fr 1 (List.map enc5 r)) := by
 rw [f88] at h
 refine pc_of9 (N := 49) (rs := [.tmp 2]) Tryz.func88 ?_
 refine AW.sX [0] ?_
 obtain ⟨x1, hx1, h⟩ := bO h
 refine AW.rC [0, 3] (ok117 a0 x1 hx1) Tryz.call117 ?_
 refine AW.sX [0, 3, 4] ?_
 obtain ⟨x2, hx2, h⟩ := bO h
 refine AW.rC [0, 3, 4, 5] (ok118 (IntKind.i64.wrap (9 - x1)) x2 hx2) Tryz.call118 ?_
 refine AW.join (fun s => ⟨(upd (upd (upd (upd anyF 0 (.val (.int .u64 a0))) 3 (.val (.int .i64 x1))) 4 (.val (.int .i64 s.1))) 5 (.val (.int .i64 s.2))), hpL [] [], 8⟩) (fun s => f88_j1 a0 x1 s = some r) ?_ ?_
 ·refine AW.tX [0, 3, 4, 5, 17] ?_
  rcases iteO h with ⟨c29, h⟩ | ⟨c29, h⟩
  ·refine AW.ifT rfl c29 <| AW.tY [0, 3, 4, 5] ?_
   refine thenA_n ?_
   refine ⟨_, h, ?_⟩
   exact Ent.cq RF.any.qv.qv.qv.qv
  ·refine AW.ifF rfl c29 <| AW.skip <| thenA_n ?_
   refine ⟨_, h, ?_⟩
   exact Ent.cq RF.any.qv.qv.qv.qv
 ·clear h
  rintro ⟨j1_0, j1_1⟩ h
  rw [f88_j1] at h
  obtain ⟨x4, hx4, h⟩ := bO h
  refine AW.rK [0, 3, 4, 5, 6] fun K hK => ?_
  simp only [go_sem, seval, make_ok mk23 (enc := enc5) rfl (by decide) hx4]
  subst hK
  refine AW.seq <| AW.rK [0, 3, 5, 6, 7] fun K hK => ?_
  simp only [go_sem, seval]
  subst hK
  refine AW.block ?_
  obtain ⟨y23, hy23, h⟩ := bO h
  refine AW.loopO (fun s => ⟨(upd (upd (upd (upd (upd anyF 0 (.val (.int .u64 s.1))) 3 (.val (.int .i64 x1))) 5 (.val (.int .i64 j1_1))) 6 (.own 8 0 s.2.1.length)) 7 (.val (.int .i64 s.2.2))), hpL [] [some (.row 1 true (List.map enc5 s.2.1))], 9⟩) (fun z e st' => e = Exit.exit 0 ∧ st' = ⟨(upd (upd (upd anyF 3 (.val (.int .i64 x1))) 5 (.val (.int .i64 j1_1))) 6 (.own 8 0 z.length)), hpL [] [some (.row 1 true (List.map enc5 z))], 9⟩) hy23 ?_ ?_ ?_
  ·exact Ent.canq [16] RF.any.qv.qv.qv.qo.qv (.nil _) (.ce (.nil _))
  ·clear h hy23
   rintro ⟨s2_0, s2_1, s2_2⟩ x h
   rw [f88_s2] at h
   refine AW.seq <| AW.tX [0, 3, 5, 6, 7, 23] ?_
   rcases iteO h with ⟨c20, h⟩ | ⟨c20, h⟩
   ·refine AW.ifT rfl c20 <| AW.skip <| thenA_n <| AW.seq <| AW.block ?_
    obtain ⟨x21, hx21, h⟩ := bO h
    obtain ⟨hx21a, hx21b⟩ := ix_some.1 hx21
    refine AW.rK [0, 3, 5, 6, 7] fun K hK => ?_
    simp only [go_sem, seval, natOf_le hx21a, hx21b, ix_lt hx21b, set_enc (enc := enc5) (fun _ => rfl)]
    subst hK
    refine AW.rL [0, 3, 5, 6, 7] fun K hK => ?_
    simp only [go_sem, seval]
    subst hK
    refine block_n <| thenA_n <| AW.rL [0, 3, 5, 6, 7] fun K hK => ?_
    simp only [go_sem, seval]
    subst hK
    refine thenA_n ?_
    refine ⟨_, oj h, ?_⟩
    exact Ent.canq [8] RF.any.qv.qv.qv.qo.qv (.nil _) (.ce (.nil _))
   ·refine AW.ifF rfl c20 <| AW.exit <| thenA_x <| thenA_x ?_
    refine ⟨_, oj h, _, ?_, rfl, rfl⟩
    exact Ent.canq [8] RF.any.qv.qv.qo (.nil _) (.ce (.nil _))
  ·intro e st' hX
   try dsimp only at h
   try dsimp only at hX
   obtain ⟨rfl, rfl⟩ := hX
   refine ⟨_, Ent.refl, ?_⟩
   refine block_x <| thenA_n <| AW.seq <| AW.sX [5, 6, 35] ?_
   rcases iteO h with ⟨c26, h⟩ | ⟨c26, h⟩
   ·refine AW.ifT rfl c26 ?_
    obtain ⟨x27, hx27, h⟩ := bO h
    obtain ⟨hx27b, hx27e⟩ := appO?_some.1 hx27
    have hx27f : ∀ id o : Nat, appO 1 1 id (List.map enc5 y23) 0 1 o (some (.row 1 true ([[.val (.int .u8 255)]]))) = some ⟨.own id 0 x27.length, [(o, none), (id, some (.row 1 true (List.map enc5 x27)))]⟩ := fun id o => by
      subst hx27e; rw [appO_ok (by simp) (by simpa using hx27b) (by decide)]; first | (simp [enc5]; done) | (simp [enc5]; omega)
    refine AW.sX [2] ?_
    refine AW.ret <| thenA_r ?_
    obtain rfl := oi h
    (simp only [go_sem, seval, finA] <;> try simp)
   ·refine AW.ifF rfl c26 <| AW.skip <| thenA_n ?_
    obtain ⟨x28, hx28, h⟩ := bO h
    refine AW.rK [6] fun K hK => ?_
    simp only [go_sem, seval, hx28, ix_lt hx28, set_enc (enc := enc5) (fun _ => rfl)]
    subst hK
    refine AW.rK [2] fun K hK => ?_
    simp only [go_sem, seval]
    subst hK
    refine AW.ret ?_
    obtain rfl := oi h
    (simp only [go_sem, seval, finA] <;> try simp)
theorem appO_one' {α : Type} {l : List α} {x : α} (h : l.length ≤ 200000000) : appO? l [x] = some (l ++ [x]) := appO?_some.2 ⟨by simp; omega, rfl⟩
theorem appO_two' {α : Type} {l r : List α} (h : l.length ≤ 200000000) (h1 : r.length ≤ 200000000) : appO? l r = some (l ++ r) := appO?_some.2 ⟨by omega, rfl⟩
theorem u8_wrap (n : Int) : IntKind.u8.wrap n = n % 256 := by simp [IntKind.wrap, IntKind.bits, IntKind.signed]
theorem pow8 {n : Nat} (h : n ≤ 8) : (2 : Int) ^ (8 * n) = 256 ^ n := by
 have : n = 0 ∨ n = 1 ∨ n = 2 ∨ n = 3 ∨ n = 4 ∨ n = 5 ∨ n = 6 ∨ n = 7 ∨ n = 8 := by omega
 rcases this with rfl | rfl | rfl | rfl | rfl | rfl | rfl | rfl | rfl <;> decide
theorem p256_pos (n : Nat) : (0 : Int) < 256 ^ n := Int.pow_pos (by decide)
theorem shr8 {v : Int} {n : Nat} (h0 : 0 ≤ v) (h : n ≤ 8) : shrV .u64 v (8 * n) = v / 256 ^ n := by
 show v.fdiv (2 ^ (min (8 * n) 64)) = _
 rw [Nat.min_eq_left (by omega), pow8 h, Int.fdiv_eq_ediv_of_nonneg _ (Int.le_of_lt (p256_pos n))]
def D (v : Int) (m i : Nat) : Int := v / 256 ^ (m - 1 - i) % 256
theorem D_rng (v : Int) (m i : Nat) : 0 ≤ D v m i ∧ D v m i < 256 := by
 unfold D; generalize v / 256 ^ (m - 1 - i) = q; omega
def mk (k : Nat) : Int := 256 - 2 ^ (9 - k)
def E (v : Int) (k : Nat) : List Int := if k = 9 then 255 :: (List.range 8).map (D v 8) else (List.range k).map fun i => if i = 0 then mk k + D v k 0 else D v k i
theorem E_len {v : Int} {k : Nat} : (E v k).length = k := by
 unfold E; split
 ·rename_i h; subst h; simp
 ·simp
theorem D_top {v : Int} {k : Nat} (h0 : 0 ≤ v) (h1 : 1 ≤ k) (h8 : k ≤ 8) (hv : v < 2 ^ (7 * k)) : D v k 0 < 2 ^ (8 - k) := by
 have : k = 1 ∨ k = 2 ∨ k = 3 ∨ k = 4 ∨ k = 5 ∨ k = 6 ∨ k = 7 ∨ k = 8 := by omega
 unfold D
 rcases this with rfl | rfl | rfl | rfl | rfl | rfl | rfl | rfl <;> simp only [Nat.reduceMul, Nat.reduceSub, Int.reducePow] at hv ⊢ <;> omega
def orB (k x : Nat) : Bool := !(decide (1 ≤ k)) || !(decide (x < 2 ^ (8 - k))) || decide (orV .u8 (x : Int) (shlV .u8 255 (9 - k)) = mk k + x) && decide (orV .u8 (x : Int) 0 = x)
theorem orAll : ((List.range 9).all fun k => (List.range 256).all fun x => orB k x) = true := by kernel_rfl
theorem orMark {x : Int} {k : Nat} (h1 : 1 ≤ k) (h8 : k ≤ 8) (h0 : 0 ≤ x) (hx : x < 2 ^ (8 - k)) : orV .u8 x (shlV .u8 255 (9 - k)) = mk k + x ∧ orV .u8 x 0 = x := by
 obtain ⟨n, rfl⟩ := Int.eq_ofNat_of_zero_le h0
 have hn : n < 2 ^ (8 - k) := by exact_mod_cast hx
 have hle : (2 : Nat) ^ (8 - k) ≤ 2 ^ 8 := Nat.pow_le_pow_right (by omega) (by omega)
 have h := List.all_eq_true.1 (List.all_eq_true.1 orAll k (by simp; omega)) n (by simp; omega)
 unfold orB at h
 simpa [h1, hn] using h
def orZ (x : Nat) : Bool := decide (orV .u8 (x : Int) 0 = x)
theorem orZAll : (List.range 256).all orZ = true := by kernel_rfl
theorem orZero {x : Int} (h0 : 0 ≤ x) (hx : x < 256) : orV .u8 x 0 = x := by
 obtain ⟨n, rfl⟩ := Int.eq_ofNat_of_zero_le h0
 have h := List.all_eq_true.1 orZAll n (by simp; omega)
 unfold orZ at h
 simpa using h
theorem size_ok {v : Int} (h0 : 0 ≤ v) : ∃ k : Nat, 1 ≤ k ∧ k ≤ 9 ∧ f132 v = some (k : Int) ∧ f117 v = some (k : Int) ∧ (k ≤ 8 → v < 2 ^ (7 * k)) := by
 obtain ⟨z, z1, z2⟩ := size_eq h0
 have key : ∃ r, loopO (f132_s1 v) 1 = some r ∧ ((∃ k : Nat, r = .inl (k : Int) ∧ 1 ≤ k ∧ k ≤ 8 ∧ v < 2 ^ (7 * k)) ∨ r = .inr ()) := by
  refine loopO_of (fun n s => ∃ k : Nat, s = (k : Int) ∧ 1 ≤ k ∧ k ≤ 9 ∧ n = 9 - k) ?_ (k := 8) ⟨1, rfl, by omega, by omega, by omega⟩
  rintro n _ ⟨k, rfl, h1, h9, hn⟩
  by_cases h8 : (k : Int) ≤ 8
  ·have hw : IntKind.i64.wrap (7 * (k : Int)) = 7 * (k : Int) := i64_id (by omega) (by omega)
   have hw1 : IntKind.i64.wrap ((k : Int) + 1) = ((k + 1 : Nat) : Int) := by rw [i64_id (by omega) (by omega)]; omega
   have ht : (7 * (k : Int)).toNat = 7 * k := by omega
   have e1 : f132_s1 v k = if v < 2 ^ (7 * k) then some (.inr (.inl (k : Int))) else some (.inl ((k + 1 : Nat) : Int)) := by
    rw [f132_s1, if_pos h8, hw, guardO_ok (by omega), hw1, ht]
    simp only [Option.bind_some, shr_nat h0 (by omega : 7 * k ≤ 64)]
   by_cases hv : v < 2 ^ (7 * k)
   ·rw [if_pos hv] at e1; exact .inr ⟨_, e1, .inl ⟨k, rfl, h1, by omega, hv⟩⟩
   ·rw [if_neg hv] at e1; exact .inl ⟨_, n - 1, e1, by omega, k + 1, rfl, by omega, by omega, by omega⟩
  ·exact .inr ⟨_, by rw [f132_s1, if_neg h8], .inr rfl⟩
 obtain ⟨r, h1, h2⟩ := key
 rcases h2 with ⟨k, rfl, h3, h4, h5⟩ | rfl
 ·have e : f132 v = some (k : Int) := by rw [f132, h1]; rfl
  rw [e, Option.some.injEq] at z1
  exact ⟨k, h3, by omega, e, z1 ▸ z2, fun _ => h5⟩
 ·have e : f132 v = some ((9 : Nat) : Int) := by rw [f132, h1]; rfl
  rw [e, Option.some.injEq] at z1
  exact ⟨9, by omega, by omega, e, z1 ▸ z2, fun h => by omega⟩
theorem put_loop {v mark : Int} {b : List Int} {m : Nat} (h0 : 0 ≤ v) (hm : m ≤ 8) (hb : b.length ≤ 100000001) :
  loopO (f109_s1 v m mark) (b, 0) = some (b ++ (List.range m).map fun i => if i = 0 then orV .u8 (D v m 0) mark else D v m i) := by
 have key : ∃ r, loopO (f109_s1 v m mark) (b, 0) = some r ∧ r = b ++ (List.range m).map fun i => if i = 0 then orV .u8 (D v m 0) mark else D v m i := by
  refine loopO_of (fun n s => ∃ i : Nat, s = (b ++ (List.range i).map (fun i => if i = 0 then orV .u8 (D v m 0) mark else D v m i), (i : Int)) ∧ i ≤ m ∧ n = m - i) ?_ (k := m) ⟨0, by simp, by omega, by omega⟩
  rintro n _ ⟨i, rfl, hi, hn⟩
  by_cases hlt : i < m
  ·have w1 : IntKind.i64.wrap ((m : Int) - 1) = (m : Int) - 1 := i64_id (by omega) (by omega)
   have w2 : IntKind.i64.wrap ((m : Int) - 1 - i) = (m : Int) - 1 - i := i64_id (by omega) (by omega)
   have w3 : IntKind.i64.wrap (8 * ((m : Int) - 1 - i)) = 8 * ((m : Int) - 1 - i) := i64_id (by omega) (by omega)
   have w4 : (8 * ((m : Int) - 1 - i)).toNat = 8 * (m - 1 - i) := by omega
   have w5 : IntKind.i64.wrap ((i : Int) + 1) = ((i + 1 : Nat) : Int) := by rw [i64_id (by omega) (by omega)]; omega
   have w6 : IntKind.u8.wrap (shrV .u64 v (8 * (m - 1 - i))) = D v m i := by rw [shr8 h0 (by omega), u8_wrap]; rfl
   refine .inl ⟨(b ++ (List.range (i + 1)).map (fun i => if i = 0 then orV .u8 (D v m 0) mark else D v m i), ((i + 1 : Nat) : Int)), n - 1, ?_, by omega, i + 1, rfl, by omega, by omega⟩
   simp only [f109_s1, if_pos (show (i : Int) < m by omega), w1, w2, w3, guardO_ok (show 0 ≤ 8 * ((m : Int) - 1 - i) by omega), Option.bind_some, w4, w5, w6]
   by_cases hz : i = 0
   ·subst hz
    simp only [show ((0 : Nat) : Int) = 0 from rfl, if_true, List.range_zero, List.map_nil, List.append_nil, appO_one' (show b.length ≤ 200000000 by omega), Option.bind_some, List.range_one, List.map_cons, Nat.zero_add]
   ·rw [if_neg (show ¬ (i : Int) = 0 by omega), appO_one' (by simp; omega)]
    simp only [Option.bind_some, List.range_succ, List.map_append, List.map_cons, List.map_nil, if_neg hz, List.append_assoc]
  ·have : i = m := by omega
   subst this
   exact .inr ⟨_, by simp only [f109_s1, if_neg (show ¬ (i : Int) < i by omega)], rfl⟩
 obtain ⟨r, h, rfl⟩ := key
 exact h
theorem clone_id {b : List Int} (hb : b.length ≤ 100000000) : f133 b = some b := by rw [f133, appO?_some.2 ⟨by simp; omega, rfl⟩]; rfl
theorem put_ok {v : Int} {b : List Int} {k : Nat} (h0 : 0 ≤ v) (hb : b.length ≤ 100000000) (h1 : 1 ≤ k) (h9 : k ≤ 9) (hk : f132 v = some (k : Int)) (hv : k ≤ 8 → v < 2 ^ (7 * k)) : f109 b v = some (b ++ E v k) := by
 have w1 : IntKind.i64.wrap (9 - (k : Int)) = 9 - (k : Int) := i64_id (by omega) (by omega)
 have w2 : (9 - (k : Int)).toNat = 9 - k := by omega
 rw [f109, hk]
 simp only [Option.bind_some, clone_id hb, w1, guardO_ok (show 0 ≤ 9 - (k : Int) by omega), w2]
 by_cases h : k = 9
 ·subst h
  rw [if_pos (by rfl), appO_one' (by omega)]
  have hp := put_loop (v := v) (mark := 0) (b := b ++ [255]) (m := 8) h0 (by omega) (by simp; omega)
  simp only [Option.bind_some, f109_j1]
  rw [show ((8 : Int)) = ((8 : Nat) : Int) from rfl, hp]
  simp only [Option.bind_some, E, if_true, List.append_assoc, List.cons_append, List.nil_append]
  congr 3
  apply List.map_congr_left
  intro i _
  by_cases hi : i = 0
  ·subst hi; rw [if_pos rfl, orZero (D_rng v 8 0).1 (D_rng v 8 0).2]
  ·rw [if_neg hi]
 ·rw [if_neg (show ¬ (k : Int) = 9 by omega)]
  simp only [f109_j1, put_loop h0 (show k ≤ 8 by omega) (show b.length ≤ 100000001 by omega), Option.bind_some, E, if_neg h]
  congr 2
  apply List.map_congr_left
  intro i _
  rw [(orMark h1 (by omega) (D_rng v k 0).1 (D_top h0 h1 (by omega) (hv (by omega)))).1]
theorem div_p {v : Int} (n : Nat) : v / 256 ^ n / 256 = v / 256 ^ (n + 1) := by
 rw [Int.pow_succ, Int.ediv_ediv_of_nonneg (Int.le_of_lt (p256_pos n))]
theorem ref_loop {v : Int} {m : Nat} (h0 : 0 ≤ v) (hv : v < 18446744073709551616) (h1 : 1 ≤ m) (hm : m ≤ 8) : loopO f88_s2 (v, List.replicate m (0 : Int), (m : Int) - 1) = some ((List.range m).map (D v m)) := by
 have key : ∃ r, loopO f88_s2 (v, List.replicate m (0 : Int), (m : Int) - 1) = some r ∧ r = (List.range m).map (D v m) := by
  refine loopO_of (fun n (s : Int × List Int × Int) => ∃ j : Nat, s.1 = v / 256 ^ j ∧ s.2.1.length = m ∧ (∀ q, q < m → m - j ≤ q → s.2.1[q]? = some (D v m q)) ∧ s.2.2 = (m : Int) - 1 - j ∧ j ≤ m ∧ n = m - j) ?_ (k := m) ⟨0, by simp, by simp, fun q hq h => by omega, by simp, by omega, by omega⟩
  rintro n ⟨u, l, i⟩ ⟨j, e1, e2, e3, e4, hj, hn⟩
  simp only at e1 e2 e3 e4
  subst e4
  have hu : 0 ≤ v / 256 ^ j := Int.ediv_nonneg h0 (Int.le_of_lt (p256_pos j))
  have hu1 : v / 256 ^ j ≤ v := Int.ediv_le_self _ h0
  by_cases hlt : j < m
  ·have hi : ((m : Int) - 1 - j).toNat = m - 1 - j := by omega
   have hx : ix l ((m : Int) - 1 - j) = some (l[m - 1 - j]'(by omega)) := ix_some.2 ⟨by omega, by rw [hi]; exact List.getElem?_eq_getElem (by omega)⟩
   have w1 : IntKind.i64.wrap ((m : Int) - 1 - j - 1) = (m : Int) - 1 - ((j + 1 : Nat) : Int) := by rw [i64_id (by omega) (by omega)]; omega
   have w2 : IntKind.u64.wrap (u.tdiv 256) = v / 256 ^ (j + 1) := by
    rw [e1, Int.tdiv_eq_ediv_of_nonneg hu, u64_wrap, ← div_p j]; omega
   have w3 : IntKind.u8.wrap (u.tmod 256) = D v m (m - 1 - j) := by
    rw [e1, Int.tmod_eq_emod_of_nonneg hu, u8_wrap, D, show m - 1 - (m - 1 - j) = j by omega]; omega
   refine .inl ⟨(v / 256 ^ (j + 1), l.set (m - 1 - j) (D v m (m - 1 - j)), (m : Int) - 1 - ((j + 1 : Nat) : Int)), n - 1, ?_, by omega, j + 1, rfl, by simp [e2], ?_, rfl, by omega, by omega⟩
   ·simp only [f88_s2, if_pos (show 0 ≤ (m : Int) - 1 - j by omega), hx, Option.bind_some, w1, w2, w3, hi]
   ·intro q hq hge
    simp only [List.getElem?_set]
    by_cases hqe : m - 1 - j = q
    ·subst hqe; rw [if_pos rfl, if_pos (by omega)]
    ·rw [if_neg hqe]; exact e3 q hq (by omega)
  ·have hjm : j = m := by omega
   subst hjm
   refine .inr ⟨l, by simp only [f88_s2, if_neg (show ¬ 0 ≤ (j : Int) - 1 - j by omega)], ?_⟩
   apply List.ext_getElem?
   intro q
   by_cases hq : q < j
   ·rw [e3 q hq (by omega), List.getElem?_map, List.getElem?_range hq]; rfl
   ·rw [List.getElem?_eq_none (by omega), List.getElem?_eq_none (by simp; omega)]
 obtain ⟨r, h, rfl⟩ := key
 exact h
theorem ref_ok {v : Int} {k : Nat} (h0 : 0 ≤ v) (hv64 : v < 18446744073709551616) (h1 : 1 ≤ k) (h9 : k ≤ 9) (hk : f117 v = some (k : Int)) (hv : k ≤ 8 → v < 2 ^ (7 * k)) : f88 v = some (E v k) := by
 have w1 : IntKind.i64.wrap (9 - (k : Int)) = 9 - (k : Int) := i64_id (by omega) (by omega)
 have w2 : (9 - (k : Int)).toNat = 9 - k := by omega
 have w3 : IntKind.u64.wrap (2 ^ (9 - k)) = 2 ^ (9 - k) ∧ IntKind.i64.wrap (2 ^ (9 - k)) = 2 ^ (9 - k) ∧ IntKind.i64.wrap (256 - 2 ^ (9 - k)) = mk k ∧ 0 ≤ mk k ∧ mk k ≤ 256 - 2 ^ (8 - k) := by
  have : k = 1 ∨ k = 2 ∨ k = 3 ∨ k = 4 ∨ k = 5 ∨ k = 6 ∨ k = 7 ∨ k = 8 ∨ k = 9 := by omega
  rcases this with rfl | rfl | rfl | rfl | rfl | rfl | rfl | rfl | rfl <;> decide
 obtain ⟨w4, w5, w6, w7, w8⟩ := w3
 rw [f88, hk]
 simp only [Option.bind_some, w1, pow (show 0 ≤ 9 - (k : Int) by omega) (by omega), w2, w4, w5, w6]
 by_cases h : k = 9
 ·subst h
  rw [if_pos (by rfl), f88_j1]
  have hm : mkO (8 : Int) (0 : Int) = some (List.replicate 8 0) := mkO_some.2 ⟨by omega, rfl⟩
  have hw : IntKind.i64.wrap ((8 : Int) - 1) = ((8 : Nat) : Int) - 1 := by rw [i64_id (by omega) (by omega)]; rfl
  simp only [hm, Option.bind_some, hw, ref_loop h0 hv64 (show 1 ≤ 8 by omega) (show 8 ≤ 8 by omega)]
  rw [if_pos (by rfl), appO_two' (by simp) (by simp)]
  simp only [Option.bind_some, E, if_true, List.cons_append, List.nil_append]
 ·rw [if_neg (show ¬ (k : Int) = 9 by omega), f88_j1]
  have hm : mkO (k : Int) (0 : Int) = some (List.replicate k 0) := mkO_some.2 ⟨by omega, by simp⟩
  have hw : IntKind.i64.wrap ((k : Int) - 1) = (k : Int) - 1 := i64_id (by omega) (by omega)
  simp only [hm, Option.bind_some, hw, ref_loop h0 hv64 h1 (show k ≤ 8 by omega)]
  rw [if_neg (show ¬ (k : Int) = 9 by omega)]
  have d0 := D_rng v k 0
  have dt := D_top h0 h1 (by omega) (hv (by omega))
  have hg : ((List.range k).map (D v k))[0]? = some (D v k 0) := by rw [List.getElem?_map, List.getElem?_range (by omega)]; rfl
  simp only [hg, Option.bind_some, i64_id (show -9223372036854775808 ≤ D v k 0 by omega) (by omega), i64_id (show -9223372036854775808 ≤ mk k + D v k 0 by omega) (by omega), u8_wrap, E, if_neg h]
  congr 1
  apply List.ext_getElem?
  intro q
  by_cases hq : q < k
  ·simp only [List.getElem?_set, List.length_map, List.length_range, List.getElem?_map, List.getElem?_range hq, Option.map_some]
   by_cases hz : q = 0
   ·subst hz; rw [if_pos rfl, if_pos (by omega)]
    simp only [if_true]
    congr 1; omega
   ·rw [if_neg (fun h => hz h.symm), if_neg hz]
  ·rw [List.getElem?_eq_none (by simp; omega), List.getElem?_eq_none (by simp; omega)]
end Au
end Go.Proofs.Yt
namespace Go.Gm
open Go.Sort
variable {α : Type} [Inhabited α]
def rowsV (enc : α → Value) (d : List α) : List (List AV) := d.map fun x => [.val (enc x)]
theorem relL_vals_eq {E : Env} : ∀ {us vs : List Value}, RelL E (us.map .val) vs → vs = us
 | [], _, h => by cases h; rfl
 | u :: us, _, h => by
  cases h with
  | cons h1 h2 => rw [rel_val h1, relL_vals_eq h2]
end Go.Gm
namespace Go.Gm
open Go.Sort Go.Proofs
def lb (l : List UInt8) : ByteArray := ⟨l.toArray⟩
def sortS (l : List ByteArray) : List ByteArray := ((l.map bl).mergeSort fun x y => decide (x ≤ y)).map lb
def sortI (l : List Int) : List Int := l.mergeSort fun x y => decide (x ≤ y)
def compS (l : List ByteArray) : List ByteArray := (Lib.compact (l.map bl)).map lb
def compI (l : List Int) : List Int := Lib.compact l
def cmpS (a b : ByteArray) : Int := Lib.compareBytes a.data.toList b.data.toList
theorem pc_scmp {P : Program} (f : FuncId) {a b : ByteArray} (h : ∀ w, Calls P f #[.string a, .string b] w fun e w' => e = .returned (.int .i64 (Lib.compareBytes a.data.toList b.data.toList)) ∧ w' = w) : PC P f [.val (.string a), .val (.string b)] (.val (.int .i64 (cmpS a b))) := by
  intro m w vs hm ht hus
  have e : vs = [.string a, .string b] := relL_vals_eq (us := [.string a, .string b]) hus
  subst e
  refine (h w).mono ?_
  rintro e w' ⟨rfl, rfl⟩
  refine ⟨_, fun _ => none, fun _ => False, fun _ => none, .val (.int .i64 (cmpS a b)), [], rfl, ?_, .val _, by simp only [sealV_val], List.nodup_nil⟩
  constructor
  · intro t o h; cases h
  · intro t _; rfl
  · intro t l h; cases h
  · intro t t' l l' h; cases h
  · rfl
  · rfl
  · rfl
  · exact Nat.le_refl _
  · intro _ _ _; rfl
  · rintro b ⟨t, o, l, h, _⟩; cases h
  · intro t l h; cases h
  · intro t h; exact absurd h (Nat.not_lt_zero t)
  · intro t l h; exact absurd h (Nat.not_lt_zero t)
end Go.Gm
namespace Go.Proofs
open Go.Shelf
def Tryz.lays126_ren : Go.Shelf.Ren := ⟨fun | 126 => 164 | n => n, fun | 5 => 5 | 3 => 3 | 9 => 9 | n => n, fun | n => n⟩
def Tryz.lays128_ren : Go.Shelf.Ren := ⟨fun | 128 => 159 | n => n, fun | 51 => 213 | 3 => 3 | 4 => 4 | 46 => 224 | 5 => 5 | 9 => 9 | n => n, fun | n => n⟩
def Tryz.lays125_ren : Go.Shelf.Ren := ⟨fun | 125 => 138 | 128 => 159 | 129 => 160 | n => n, fun | 46 => 224 | 3 => 3 | 51 => 213 | 53 => 168 | 4 => 4 | 5 => 5 | 9 => 9 | n => n, fun | n => n⟩
def Tryz.lays131_ren : Go.Shelf.Ren := ⟨fun | 131 => 144 | 126 => 164 | n => n, fun | 5 => 5 | 3 => 3 | 9 => 9 | n => n, fun | n => n⟩
def Tryz.lays213_ren : Go.Shelf.Ren := ⟨fun | 213 => 106 | 265 => 131 | n => n, fun | 9 => 9 | 3 => 3 | n => n, fun | n => n⟩
def Tryz.lays106_ren : Go.Shelf.Ren := ⟨fun | 106 => 76 | 213 => 106 | 265 => 131 | n => n, fun | 9 => 9 | 3 => 3 | n => n, fun | n => n⟩
theorem Tryz.lays106 : Go.Proofs.Lays.n106 Tryz.prog Tryz.lays106_ren := {
 mixed := by kernel_rfl
 f106 := Tryz.func76.trans (congrArg some (by kernel_rfl))
 f213 := Tryz.func106.trans (congrArg some (by kernel_rfl))
 f265 := Tryz.func131.trans (congrArg some (by kernel_rfl))
 t3 := Tryz.underlying3
 a3 := Tryz.isAgg3
 z3 := Tryz.sizeOf3
 v3 := Tryz.zeroValue3
 t9 := Tryz.underlying9
 a9 := Tryz.isAgg9
 z9 := Tryz.sizeOf9
 v9 := Tryz.zeroValue9 }
open Go.RowKit in
theorem Tryz.strings_Compare (a b : ByteArray) (w : World) :
  Calls Tryz.prog 76 #[.string a, .string b] w fun e w' => e = .returned (.int .i64 (Lib.compareBytes a.data.toList b.data.toList)) ∧ w' = w := Any.strings_Compare Tryz.lays106 a b w
def Tryz.lays129_ren : Go.Shelf.Ren := ⟨fun | 129 => 160 | n => n, fun | 53 => 168 | 3 => 3 | 4 => 4 | 46 => 224 | 5 => 5 | 9 => 9 | n => n, fun | n => n⟩
def Tryz.lays189_ren : Go.Shelf.Ren := ⟨fun | 189 => 114 | 125 => 138 | 257 => 137 | 128 => 159 | 129 => 160 | 294 => 150 | 295 => 151 | 296 => 152 | 297 => 153 | 298 => 154 | 299 => 155 | 216 => 156 | 300 => 157 | 301 => 158 | 328 => 169 | 329 => 170 | 330 => 171 | 331 => 172 | 332 => 173 | 215 => 174 | 343 => 177 | n => n, fun | 28 => 48 | 3 => 3 | 46 => 224 | 0 => 0 | 51 => 213 | 53 => 168 | 4 => 4 | 183 => 237 | 182 => 236 | 131 => 57 | 5 => 5 | 9 => 9 | 218 => 250 | 222 => 254 | 228 => 257 | 229 => 258 | n => n, fun | n => n⟩
def Tryz.laysNm215_ren : Go.Shelf.Ren := ⟨fun | 15 => 73 | n => n, fun | 22 => 48 | 3 => 3 | 4 => 4 | n => n, fun | n => n⟩
def Tryz.laysNm220_ren : Go.Shelf.Ren := ⟨fun | 20 => 83 | n => n, fun | 22 => 48 | 3 => 3 | 4 => 4 | 0 => 0 | n => n, fun | n => n⟩
def Tryz.laysNm237_ren : Go.Shelf.Ren := ⟨fun | 37 => 174 | n => n, fun | 3 => 3 | 4 => 4 | n => n, fun | n => n⟩
def Tryz.laysNm231_ren : Go.Shelf.Ren := ⟨fun | 31 => 156 | 37 => 174 | n => n, fun | 3 => 3 | 4 => 4 | n => n, fun | n => n⟩
def Tryz.laysSlE041_f73_ren : Go.Shelf.Ren := ⟨fun | 41 => 73 | n => n, fun | 22 => 48 | 23 => 3 | 4 => 4 | n => n, fun | n => n⟩
def Tryz.lays187_ren : Go.Shelf.Ren := ⟨fun | 187 => 125 | 255 => 147 | n => n, fun | 37 => 23 | 5 => 5 | 3 => 3 | n => n, fun | n => n⟩
theorem Tryz.lays187 : Go.Proofs.Lays.n187 Tryz.prog Tryz.lays187_ren := {
 mixed := by kernel_rfl
 f187 := Tryz.func125.trans (congrArg some (by kernel_rfl))
 f255 := Tryz.func147.trans (congrArg some (by kernel_rfl))
 t3 := Tryz.underlying3
 a3 := Tryz.isAgg3
 z3 := Tryz.sizeOf3
 v3 := Tryz.zeroValue3
 t5 := Tryz.underlying5
 a5 := Tryz.isAgg5
 z5 := Tryz.sizeOf5
 v5 := Tryz.zeroValue5
 t37 := Tryz.underlying23
 a37 := Tryz.isAgg23
 z37 := Tryz.sizeOf23
 v37 := Tryz.zeroValue23 }
theorem Tryz.bytes_IndexByte (b o n c : Nat) (xs : List Int) (cv : Int) (w : World) (hx : xs.length = n) (hc : ∀ i, i < n → w.cell? ⟨b, o + i, none⟩ = some (.int .u8 (xs.getD i 0))) :
  Calls Tryz.prog 125 #[.slice (some ⟨b, o, none⟩) n c, .int .u8 cv] w fun e w' => e = .returned (.int .i64 (Lib.indexByte (Lib.bytesOf xs) cv.toNat.toUInt8)) ∧ w' = w := Any.bytes_IndexByte Tryz.lays187 b o n c xs cv w hx hc
end Go.Proofs
namespace Go.Proofs.Yt
open Go.Gm
namespace Au
def f76 (a0 a1 : ByteArray) : Option Int := some (cmpS a0 a1)
theorem ok76 (a0 a1 : ByteArray) (r : Int) (h : f76 a0 a1 = some r) : PC Tryz.prog 76 [.val (.string a0), .val (.string a1)] (.val (.int .i64 r)) := by
  obtain rfl := Option.some.inj h
  exact pc_scmp 76 (fun w => Tryz.strings_Compare a0 a1 w)
def f75 (a0 : Res) (a1 : Res) : Option Int := ((f76 a0.Key a1.Key).bind fun x1 => some x1)
theorem ok75 (a0 : Res) (a1 : Res) (r : Int) (h : f75 a0 a1 = some r) : PC Tryz.prog 75 [.agg (encRes a0), .agg (encRes a1)] (.val (.int .i64 r)) := by
 rw [f75] at h
 refine pc_of9 (N := 10) (rs := [.tmp 4]) Tryz.func75 ?_
 refine AW.rX [2, 3] ?_
 obtain ⟨x1, hx1, h⟩ := bO h
 refine AW.rC [4] (ok76 a0.Key a1.Key x1 hx1) Tryz.call76 ?_
 refine AW.ret ?_
 obtain rfl := oi h
 (simp only [go_sem, seval, finA] <;> try simp)
def f129_75_s4 (a1 : Int) : (List Res) × Int → Option (((List Res) × Int) ⊕ (List Res))
  | (s4_0, s4_1) => (if a1 < s4_1 then ((ix s4_0 s4_1).bind fun x83 => ((ix s4_0 (IntKind.i64.wrap (s4_1 - 1))).bind fun x84 => ((f75 x83 x84).bind fun x85 => (if x85 < 0 then ((ix (s4_0.set s4_1.toNat x84) (IntKind.i64.wrap (s4_1 - 1))).bind fun x87 => some (.inl (((s4_0.set s4_1.toNat x84).set ((IntKind.i64.wrap (s4_1 - 1)).toNat) x83), IntKind.i64.wrap (s4_1 - 1)))) else some (.inr s4_0))))) else some (.inr s4_0))
def f129_75_s1 (a1 : Int) (a2 : Int) : (List Res) × Int → Option (((List Res) × Int) ⊕ (List Res))
  | (s1_0, s1_1) => (if s1_1 < a2 then ((loopO (f129_75_s4 a1) (s1_0, s1_1)).bind fun y89 => some (.inl (y89, IntKind.i64.wrap (s1_1 + 1)))) else some (.inr s1_0))
def f129_75 (a0 : List Res) (a1 : Int) (a2 : Int) : Option (List Res) := ((loopO (f129_75_s1 a1 a2) (a0, IntKind.i64.wrap (a1 + 1))).bind fun y91 => some y91)
theorem ok129_75 (a0 : List Res) (a1 : Int) (a2 : Int) (r : (List Res)) (h : f129_75 a0 a1 a2 = some r) : IC Tryz.prog 129 [some (.row 3 true (List.map encRes a0))] [.own 0 0 a0.length, .val (.int .i64 a1), .val (.int .i64 a2), .clo (.func 75) [] []] (.tup []) [some (.row 3 true (List.map encRes r))] [] := by
 rw [f129_75] at h
 refine ic_ofJ (N := 53) (rs := []) Tryz.func129 rfl rfl rfl (Nat.le_of_ble_eq_true rfl) <| AW.rX [0, 1, 2, 3, 8] ?_
 refine AW.block ?_
 obtain ⟨y91, hy91, h⟩ := bO h
 refine AW.loopO (fun s => ⟨(upd (upd (upd (upd (upd anyF 0 (.own 0 0 s.1.length)) 1 (.val (.int .i64 a1))) 2 (.val (.int .i64 a2))) 3 (.clo (.func 75) [] [])) 8 (.val (.int .i64 s.2))), hpL [some (.row 3 true (List.map encRes s.1))] [], 8⟩) (fun z e st' => e = Exit.exit 0 ∧ st' = ⟨anyF, hpL [some (.row 3 true (List.map encRes z))] [], 8⟩) hy91 ?_ ?_ ?_
 ·exact Ent.canq [] RF.any.qo.qv.qv.qt.qv (.ce (.nil _)) (.nil _)
 ·clear h hy91
  rintro ⟨s1_0, s1_1⟩ x h
  rw [f129_75_s1] at h
  refine AW.seq <| AW.rX [0, 1, 2, 3, 8, 14] ?_
  rcases iteO h with ⟨c54, h⟩ | ⟨c54, h⟩
  ·refine AW.ifT rfl c54 <| AW.skip <| thenA_n <| AW.seq <| AW.block <| AW.rX [0, 1, 2, 3, 8, 9] ?_
   refine AW.block ?_
   obtain ⟨y89, hy89, h⟩ := bO h
   refine AW.loopO (fun s => ⟨(upd (upd (upd (upd (upd (upd anyF 0 (.own 0 0 s.1.length)) 1 (.val (.int .i64 a1))) 2 (.val (.int .i64 a2))) 3 (.clo (.func 75) [] [])) 8 (.val (.int .i64 s1_1))) 9 (.val (.int .i64 s.2))), hpL [some (.row 3 true (List.map encRes s.1))] [], 8⟩) (fun z e st' => e = Exit.exit 2 ∧ st' = ⟨(upd (upd (upd (upd (upd anyF 0 (.own 0 0 z.length)) 1 (.val (.int .i64 a1))) 2 (.val (.int .i64 a2))) 3 (.clo (.func 75) [] [])) 8 (.val (.int .i64 s1_1))), hpL [some (.row 3 true (List.map encRes z))] [], 8⟩) hy89 ?_ ?_ ?_
   ·exact Ent.canq [] RF.any.qo.qv.qv.qt.qv.qv (.ce (.nil _)) (.nil _)
   ·clear h hy89
    rintro ⟨s4_0, s4_1⟩ x h
    rw [f129_75_s4] at h
    refine AW.seq ?_
    rcases iteO h with ⟨c82, h⟩ | ⟨c82, h⟩
    ·obtain ⟨x83, hx83, h⟩ := bO h
     obtain ⟨hx83a, hx83b⟩ := ix_some.1 hx83
     obtain ⟨x84, hx84, h⟩ := bO h
     obtain ⟨hx84a, hx84b⟩ := ix_some.1 hx84
     obtain ⟨x85, hx85, h⟩ := bO h
     refine AW.re [0, 1, 2, 3, 8, 9, 34] [0,0,3,7,15,15,15,111,239,15,15,1039,3599,7695,16383,32767,65535] ?_
     generalize hK : AW Tryz.prog _ _ _ = K
     simp only [go_sem, seval, eq_true c54, eq_true c82, natOf_le hx83a, hx83b, ix_lt hx83b, natOf_le hx84a, hx84b, ix_lt hx84b]
     refine adN.pc (ok75 x83 x84 x85 hx85) Tryz.call75 (callV_tmp (by simp only [upd_ap, Nat.reduceEqDiff, if_true, if_false, ↓reduceIte]; rfl)) (by simp only [go_sem, seval, List.nil_append, List.append_nil, eq_true c54, eq_true c82, natOf_le hx83a, hx83b, ix_lt hx83b, natOf_le hx84a, hx84b, ix_lt hx84b]) (by simp only [go_sem, seval]) ?_
     simp only [go_sem, seval, natOf_le hx83a, hx83b, ix_lt hx83b, natOf_le hx84a, hx84b, ix_lt hx84b]
     subst hK
     rcases iteO h with ⟨c86, h⟩ | ⟨c86, h⟩
     ·refine AW.ifT rfl c86 <| AW.skip <| thenA_n <| AW.seq <| AW.block ?_
      obtain ⟨x87, hx87, h⟩ := bO h
      obtain ⟨hx87a, hx87b⟩ := ix_some.1 hx87
      refine AW.rf [0, 1, 2, 3, 8, 9] [0,0,0,0,8,0,0,64,224,480,0,0,3072,7168,16355,32739,65535,131071] ?_
      generalize hK : inBlockA _ _ Exit.normal = K
      simp only [go_sem, seval, natOf_le hx84a, hx84b, ix_lt hx84b, natOf_le hx83a, hx83b, ix_lt hx83b, set_row (enc := encRes) (y := x84) (r := [.val (.string x84.Key), .val (.string x84.Val), .sl (List.map enc3 x84.Offs)]) rfl, natOf_le hx87a, hx87b, ix_lt hx87b, set_row (enc := encRes) (y := x83) (r := [.val (.string x83.Key), .val (.string x83.Val), .sl (List.map enc3 x83.Offs)]) rfl]
      subst hK
      refine block_n <| thenA_n <| AW.rY [0, 1, 2, 3, 8, 9] ?_
      refine thenA_n ?_
      refine ⟨_, oj h, ?_⟩
      exact Ent.canq [] RF.any.qo.qv.qv.qt.qv.qv (.ce (.nil _)) (.nil _)
     ·refine AW.ifF rfl c86 <| AW.exit <| thenA_x <| thenA_x ?_
      refine ⟨_, oj h, _, ?_, rfl, rfl⟩
      exact Ent.canq [] RF.any.qo.qv.qv.qt.qv (.ce (.nil _)) (.nil _)
    ·refine AW.re [0, 1, 2, 3, 8, 9, 34] [0,0,3,7,15,15,15,111,239,15,15,1039,3599,7695,16383,32767,65535] ?_
     generalize hK : AW Tryz.prog _ _ _ = K
     simp only [go_sem, seval, eq_true c54, eq_false c82]
     subst hK
     refine AW.ifBF rfl rfl <| AW.exit <| thenA_x <| thenA_x ?_
     refine ⟨_, oj h, _, ?_, rfl, rfl⟩
     exact Ent.canq [] RF.any.qo.qv.qv.qt.qv (.ce (.nil _)) (.nil _)
   ·intro e st' hX
    try dsimp only at h
    try dsimp only at hX
    obtain ⟨rfl, rfl⟩ := hX
    refine ⟨_, Ent.refl, ?_⟩
    refine block_x <| block_n <| thenA_n <| AW.rY [0, 1, 2, 3, 8] ?_
    refine thenA_n ?_
    refine ⟨_, oj h, ?_⟩
    exact Ent.canq [] RF.any.qo.qv.qv.qt.qv (.ce (.nil _)) (.nil _)
  ·refine AW.ifF rfl c54 <| AW.exit <| thenA_x <| thenA_x ?_
   refine ⟨_, oj h, _, ?_, rfl, rfl⟩
   exact Ent.canq [] RF.any (.ce (.nil _)) (.nil _)
 ·intro e st' hX
  try dsimp only at h
  try dsimp only at hX
  obtain ⟨rfl, rfl⟩ := hX
  refine ⟨_, Ent.refl, ?_⟩
  refine block_x ?_
  refine ⟨⟨anyF, hpL [some (.row 3 true (List.map encRes y91))] [], 8⟩, ?_, ?_⟩
  · refine Ent.can [] _ _ _ rfl (by first | decide | simp) rfl ?_ ?_ ?_
    · exact RF.any
    · exact .ce (.nil _)
    · exact .nil _
  obtain rfl := oi h
  exact ⟨rfl, rfl, _, rfl, by first | rfl | simp [resOf, upd_ap, bytesI_len]⟩
def f168_75_s1 (a1 : Int) (a2 : Int) (a3 : Int) : (List Res) × Int → Option (((List Res) × Int) ⊕ (List Res))
  | (s1_0, s1_1) => (if s1_1 < a3 then ((ix s1_0 (IntKind.i64.wrap (a2 + s1_1))).bind fun x13 => ((ix s1_0 (IntKind.i64.wrap (a1 + s1_1))).bind fun x14 => ((ix (s1_0.set ((IntKind.i64.wrap (a1 + s1_1)).toNat) x13) (IntKind.i64.wrap (a2 + s1_1))).bind fun x15 => some (.inl (((s1_0.set ((IntKind.i64.wrap (a1 + s1_1)).toNat) x13).set ((IntKind.i64.wrap (a2 + s1_1)).toNat) x14), IntKind.i64.wrap (s1_1 + 1)))))) else some (.inr s1_0))
def f168_75 (a0 : List Res) (a1 : Int) (a2 : Int) (a3 : Int) : Option (List Res) := ((loopO (f168_75_s1 a1 a2 a3) (a0, 0)).bind fun y17 => some y17)
theorem ok168_75 (a0 : List Res) (a1 : Int) (a2 : Int) (a3 : Int) (r : (List Res)) (h : f168_75 a0 a1 a2 a3 = some r) : IC Tryz.prog 168 [some (.row 3 true (List.map encRes a0))] [.own 0 0 a0.length, .val (.int .i64 a1), .val (.int .i64 a2), .val (.int .i64 a3), .clo (.func 75) [] []] (.tup []) [some (.row 3 true (List.map encRes r))] [] := by
 rw [f168_75] at h
 refine ic_ofJ (N := 38) (rs := []) Tryz.func168 rfl rfl rfl (Nat.le_of_ble_eq_true rfl) <| AW.rX [0, 1, 2, 3, 10] ?_
 refine AW.block ?_
 obtain ⟨y17, hy17, h⟩ := bO h
 refine AW.loopO (fun s => ⟨(upd (upd (upd (upd (upd anyF 0 (.own 0 0 s.1.length)) 1 (.val (.int .i64 a1))) 2 (.val (.int .i64 a2))) 3 (.val (.int .i64 a3))) 10 (.val (.int .i64 s.2))), hpL [some (.row 3 true (List.map encRes s.1))] [], 8⟩) (fun z e st' => e = Exit.exit 0 ∧ st' = ⟨anyF, hpL [some (.row 3 true (List.map encRes z))] [], 8⟩) hy17 ?_ ?_ ?_
 ·exact Ent.canq [] RF.any.qo.qv.qv.qv.qv (.ce (.nil _)) (.nil _)
 ·clear h hy17
  rintro ⟨s1_0, s1_1⟩ x h
  rw [f168_75_s1] at h
  refine AW.seq <| AW.rX [0, 1, 2, 3, 10, 13] ?_
  rcases iteO h with ⟨c12, h⟩ | ⟨c12, h⟩
  ·refine AW.ifT rfl c12 <| AW.skip <| thenA_n <| AW.seq <| AW.block ?_
   obtain ⟨x13, hx13, h⟩ := bO h
   obtain ⟨hx13a, hx13b⟩ := ix_some.1 hx13
   obtain ⟨x14, hx14, h⟩ := bO h
   obtain ⟨hx14a, hx14b⟩ := ix_some.1 hx14
   obtain ⟨x15, hx15, h⟩ := bO h
   obtain ⟨hx15a, hx15b⟩ := ix_some.1 hx15
   refine AW.rf [0, 1, 2, 3, 10] [0,0,0,6,0,0,0,96,0,0,0,1536,3840,7936,0,0,0,98304,245760,507904,1048335,2096911,4194303,8388607] ?_
   generalize hK : inBlockA _ _ Exit.normal = K
   simp only [go_sem, seval, natOf_le hx13a, hx13b, ix_lt hx13b, natOf_le hx14a, hx14b, ix_lt hx14b, set_row (enc := encRes) (y := x13) (r := [.val (.string x13.Key), .val (.string x13.Val), .sl (List.map enc3 x13.Offs)]) rfl, natOf_le hx15a, hx15b, ix_lt hx15b, set_row (enc := encRes) (y := x14) (r := [.val (.string x14.Key), .val (.string x14.Val), .sl (List.map enc3 x14.Offs)]) rfl]
   subst hK
   refine block_n <| thenA_n <| AW.rY [0, 1, 2, 3, 10] ?_
   refine thenA_n ?_
   refine ⟨_, oj h, ?_⟩
   exact Ent.canq [] RF.any.qo.qv.qv.qv.qv (.ce (.nil _)) (.nil _)
  ·refine AW.ifF rfl c12 <| AW.exit <| thenA_x <| thenA_x ?_
   refine ⟨_, oj h, _, ?_, rfl, rfl⟩
   exact Ent.canq [] RF.any (.ce (.nil _)) (.nil _)
 ·intro e st' hX
  try dsimp only at h
  try dsimp only at hX
  obtain ⟨rfl, rfl⟩ := hX
  refine ⟨_, Ent.refl, ?_⟩
  refine block_x ?_
  refine ⟨⟨anyF, hpL [some (.row 3 true (List.map encRes y17))] [], 8⟩, ?_, ?_⟩
  · refine Ent.can [] _ _ _ rfl (by first | decide | simp) rfl ?_ ?_ ?_
    · exact RF.any
    · exact .ce (.nil _)
    · exact .nil _
  obtain rfl := oi h
  exact ⟨rfl, rfl, _, rfl, by first | rfl | simp [resOf, upd_ap, bytesI_len]⟩
def f149_75_s1 (a2 : Int) : (List Res) × Int × Int → Option (((List Res) × Int × Int) ⊕ (Int × (List Res)))
  | (s1_0, s1_1, s1_2) => (if s1_1 = s1_2 then some (.inr (s1_1, s1_0)) else (if s1_2 < s1_1 then ((f168_75 s1_0 (IntKind.i64.wrap (a2 - s1_1)) a2 s1_2).bind fun x18 => ((guardO (x18.length = s1_0.length)).bind fun x19 => some (.inl (x18, IntKind.i64.wrap (s1_1 - s1_2), s1_2)))) else ((f168_75 s1_0 (IntKind.i64.wrap (a2 - s1_1)) (IntKind.i64.wrap ((IntKind.i64.wrap (a2 + s1_2)) - s1_1)) s1_1).bind fun x20 => ((guardO (x20.length = s1_0.length)).bind fun x21 => some (.inl (x20, s1_1, IntKind.i64.wrap (s1_2 - s1_1)))))))
def f149_75 (a0 : List Res) (a1 : Int) (a2 : Int) (a3 : Int) : Option (List Res) := ((loopO (f149_75_s1 a2) (a0, IntKind.i64.wrap (a2 - a1), IntKind.i64.wrap (a3 - a2))).bind fun y22 => match y22 with | (y23, y24) => ((f168_75 y24 (IntKind.i64.wrap (a2 - y23)) a2 y23).bind fun x25 => ((guardO (x25.length = y24.length)).bind fun x26 => some x25)))
theorem ok149_75 (a0 : List Res) (a1 : Int) (a2 : Int) (a3 : Int) (r : (List Res)) (h : f149_75 a0 a1 a2 a3 = some r) : IC Tryz.prog 149 [some (.row 3 true (List.map encRes a0))] [.own 0 0 a0.length, .val (.int .i64 a1), .val (.int .i64 a2), .val (.int .i64 a3), .clo (.func 75) [] []] (.tup []) [some (.row 3 true (List.map encRes r))] [] := by
 rw [f149_75] at h
 refine ic_ofJ (N := 58) (rs := []) Tryz.func149 rfl rfl rfl (Nat.le_of_ble_eq_true rfl) <| AW.rX [0, 2, 3, 4, 10] ?_
 refine AW.rX [0, 2, 4, 10, 11] ?_
 refine AW.seq <| AW.block ?_
 obtain ⟨y22, hy22, h⟩ := bO h
 refine AW.loopO (fun s => ⟨(upd (upd (upd (upd (upd anyF 0 (.own 0 0 s.1.length)) 2 (.val (.int .i64 a2))) 4 (.clo (.func 75) [] [])) 10 (.val (.int .i64 s.2.1))) 11 (.val (.int .i64 s.2.2))), hpL [some (.row 3 true (List.map encRes s.1))] [], 8⟩) (fun z e st' => e = Exit.exit 0 ∧ st' = ⟨(upd (upd (upd (upd anyF 0 (.own 0 0 z.2.length)) 2 (.val (.int .i64 a2))) 4 (.clo (.func 75) [] [])) 10 (.val (.int .i64 z.1))), hpL [some (.row 3 true (List.map encRes z.2))] [], 8⟩) hy22 ?_ ?_ ?_
 ·exact Ent.canq [] RF.any.qo.qv.qt.qv.qv (.ce (.nil _)) (.nil _)
 ·clear h hy22
  rintro ⟨s1_0, s1_1, s1_2⟩ x h
  rw [f149_75_s1] at h
  refine AW.seq <| AW.rX [0, 2, 4, 10, 11, 20] ?_
  rcases iteO h with ⟨c16, h⟩ | ⟨c16, h⟩
  ·refine AW.ifF rfl (fun q => q c16) <| AW.exit <| thenA_x <| thenA_x ?_
   refine ⟨_, oj h, _, ?_, rfl, rfl⟩
   exact Ent.canq [] RF.any.qo.qv.qt.qv (.ce (.nil _)) (.nil _)
  ·refine AW.ifT rfl c16 <| AW.skip <| thenA_n <| AW.block <| AW.rX [0, 2, 4, 10, 11, 23] ?_
   rcases iteO h with ⟨c17, h⟩ | ⟨c17, h⟩
   ·refine AW.ifT rfl c17 ?_
    obtain ⟨x18, hx18, h⟩ := bO h
    obtain ⟨x19, hx19, h⟩ := bO h
    have lenhx18 : x18.length = s1_0.length := guardO_some.1 hx19
    refine AW.rK [0, 2, 4, 10, 11] fun K hK => ?_
    simp only [go_sem, seval, lenhx18]
    refine arC.ok (CallOk.icr (us' := _) (ok168_75 s1_0 (IntKind.i64.wrap (a2 - s1_1)) a2 s1_2 x18 hx18) [0] (.cons (.eq (by simp only [go_sem]) (by first | rfl | simp [upd_ap, hpL_ap, sg_ap])) (.nil _)) (.cons (.of (by first | rfl | simp [mapT_own, sg_ap, eq_false c16, eq_true c17])) (.cons (.of rfl) (.cons (.of rfl) (.cons (.of rfl) (.cons (.of rfl) .nil)))))) Tryz.call168 ?_
    simp only [go_sem, seval, lenhx18]
    subst hK
    refine AW.sY [0, 2, 4, 10, 11] ?_
    refine block_n <| thenA_n ?_
    refine ⟨_, oj h, ?_⟩
    exact Ent.canq [] RF.any.qo.qv.qt.qv.qv (.ce (.nil _)) (.nil _)
   ·refine AW.ifF rfl c17 ?_
    obtain ⟨x20, hx20, h⟩ := bO h
    obtain ⟨x21, hx21, h⟩ := bO h
    have lenhx20 : x20.length = s1_0.length := guardO_some.1 hx21
    refine AW.rK [0, 2, 4, 10, 11] fun K hK => ?_
    simp only [go_sem, seval, lenhx20]
    refine arC.ok (CallOk.icr (us' := _) (ok168_75 s1_0 (IntKind.i64.wrap (a2 - s1_1)) (IntKind.i64.wrap ((IntKind.i64.wrap (a2 + s1_2)) - s1_1)) s1_1 x20 hx20) [0] (.cons (.eq (by simp only [go_sem]) (by first | rfl | simp [upd_ap, hpL_ap, sg_ap])) (.nil _)) (.cons (.of (by first | rfl | simp [mapT_own, sg_ap, eq_false c16, eq_false c17])) (.cons (.of rfl) (.cons (.of rfl) (.cons (.of rfl) (.cons (.of rfl) .nil)))))) Tryz.call168 ?_
    simp only [go_sem, seval, lenhx20]
    subst hK
    refine AW.sY [0, 2, 4, 10, 11] ?_
    refine block_n <| thenA_n ?_
    refine ⟨_, oj h, ?_⟩
    exact Ent.canq [] RF.any.qo.qv.qt.qv.qv (.ce (.nil _)) (.nil _)
 ·intro e st' hX
  obtain ⟨y23, y24⟩ := y22
  try dsimp only at h
  try dsimp only at hX
  obtain ⟨rfl, rfl⟩ := hX
  refine ⟨_, Ent.refl, ?_⟩
  refine block_x <| thenA_n ?_
  obtain ⟨x25, hx25, h⟩ := bO h
  obtain ⟨x26, hx26, h⟩ := bO h
  have lenhx25 : x25.length = y24.length := guardO_some.1 hx26
  refine AW.rL [] fun K hK => ?_
  simp only [go_sem, seval, lenhx25]
  refine arC.ok (CallOk.icr (us' := _) (ok168_75 y24 (IntKind.i64.wrap (a2 - y23)) a2 y23 x25 hx25) [0] (.cons (.eq (by simp only [go_sem]) (by first | rfl | simp [upd_ap, hpL_ap, sg_ap])) (.nil _)) (.cons (.of (by first | rfl | simp [mapT_own, sg_ap])) (.cons (.of rfl) (.cons (.of rfl) (.cons (.of rfl) (.cons (.of rfl) .nil)))))) Tryz.call168 ?_
  simp only [go_sem, seval, lenhx25]
  subst hK
  refine ⟨⟨anyF, hpL [some (.row 3 true (List.map encRes x25))] [], 8⟩, ?_, ?_⟩
  · refine Ent.can [] _ _ _ rfl (by first | decide | simp) rfl ?_ ?_ ?_
    · exact RF.any
    · exact .ce (.nil _)
    · exact .nil _
  obtain rfl := oi h
  exact ⟨rfl, rfl, _, rfl, by first | rfl | simp [resOf, upd_ap, bytesI_len]⟩
end Au
end Go.Proofs.Yt
