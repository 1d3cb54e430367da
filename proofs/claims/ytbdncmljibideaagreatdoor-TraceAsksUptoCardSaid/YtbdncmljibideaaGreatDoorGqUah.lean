import Derived.Test.YtbdncmljibideaaGreatDoorGqUae
import Derived.Test.YtbdncmljibideaaGreatDoorGqUag
import Derived.Test.YtbdncmljibideaaGreatDoorGqUaf
import Derived.Test.YtbdncmljibideaaGreatDoorGqUad
import Derived.RangeFuncFrom
set_option linter.all false
noncomputable section
set_option maxRecDepth 8000
set_option maxHeartbeats 1000000
namespace Go.Proofs.Yt
open Go.Gm
namespace Au
def Iu (a0:List Pair):Int→Option (Int⊕(Bool⊕Unit))
  | s1_0=>(if 0<s1_0 then ((ix a0 s1_0).bind fun x15=>((ix a0 (IntKind.i64.wrap (s1_0-1))).bind fun x16=>((f143 x15 x16).bind fun x17=>(if x17<0 then some (.inr (.inl false)) else some (.inl (IntKind.i64.wrap (s1_0-1))))))) else some (.inr (.inr ())))
def Nq (a0:List Pair):Option Bool:=((loopO (Iu a0) (IntKind.i64.wrap ((a0.length:Int)-1))).bind fun y19=>match y19 with|.inl y20=>some y20|.inr _=>some true)
theorem ok142_143 (a0:List Pair) (r:Bool) (h:Nq a0=some r):PC Tryz.prog 142 [.sl (List.map Ca a0),.clo (.func 143) [] []] (.val (.bool r)):=by
 rw [Nq] at h
 refine Bi (N:=25) (rs:=[.tmp 4]) Tryz.func142 ?_
 refine Ac [0,1] ?_
 refine AW.seq<|Ac [0,1,5] ?_
 refine AW.block ?_
 obtain ⟨y19,hy19,h⟩:=bO h
 refine AW.loopO (fun s=>⟨(Ag (Ag (Ag Az 0 (.sl (List.map Ca a0))) 1 (.clo (.func 143) [] [])) 5 (.val (.int .i64 s))),Bo [] [],8⟩) (fun y e st'=>match y with|.inl z=>e=Exit.ret∧Ay Tryz.prog [.tmp 4] (.val (.bool z)) .ret st'|.inr z=>e=Exit.exit 0∧st'=⟨Az,Bo [] [],8⟩) hy19 ?_ ?_ ?_
 ·exact Bg RF.any.qv.qt.qv
 ·clear h hy19
  rintro s1_0 x h
  rw [Iu] at h
  refine AW.seq<|Ac [0,1,5,10] ?_
  rcases Aq h with ⟨c14,h⟩|⟨c14,h⟩
  ·refine Aj rfl c14<|AW.skip<|Aa<|AW.seq<|AW.block ?_
   obtain ⟨x15,hx15,h⟩:=bO h
   obtain ⟨hx15a,hx15b⟩:=ix_some.1 hx15
   obtain ⟨x16,hx16,h⟩:=bO h
   obtain ⟨hx16a,hx16b⟩:=ix_some.1 hx16
   obtain ⟨x17,hx17,h⟩:=bO h
   refine Dm [0,1,5,24] [0,0,0,6,14,0,0,64,224,480,1023,2047] ?_
   generalize hK:AW Tryz.prog _ _ _=K
   simp only [go_sem,seval,Ah hx15a,hx15b,Ah hx16a,hx16b]
   refine Em (ok143 x15 x16 x17 hx17) Tryz.call143 (Fw (by simp only [Ae,Nat.reduceEqDiff,if_true,if_false,↓reduceIte];rfl)) (by simp only [go_sem,seval,List.nil_append,List.append_nil,eq_true c14,Ah hx15a,hx15b,Ah hx16a,hx16b]) (by simp only [go_sem,seval]) ?_
   simp only [go_sem,seval,Ah hx15a,hx15b,Ah hx16a,hx16b]
   subst hK
   rcases Aq h with ⟨c18,h⟩|⟨c18,h⟩
   ·refine Aj rfl c18<|Ac [4] ?_
    refine AW.ret<|Bd<|Ad<|Ad ?_
    refine ⟨_,oj h,_,Ent.refl,rfl,?_⟩
    (simp only [go_sem,seval,Ay]<;>try simp)
   ·refine Ai rfl c18<|AW.skip<|Ax<|Aa<|Cd [0,1,5] ?_
    refine Aa ?_
    refine ⟨_,oj h,?_⟩
    exact Bg RF.any.qv.qt.qv
  ·refine Ai rfl c14<|AW.exit<|Af<|Af ?_
   refine ⟨_,oj h,_,?_,rfl,rfl⟩
   exact Bg RF.any
 ·intro e st' hX
  rcases y19 with y20|_<;>dsimp only at h hX
  ·obtain ⟨rfl,hf⟩:=hX
   refine ⟨_,Ent.refl,?_⟩
   refine Bd<|Ad ?_
   obtain rfl:=oi h
   exact hf
  ·obtain ⟨rfl,rfl⟩:=hX
   refine ⟨_,Ent.refl,?_⟩
   refine Bc<|Aa<|Ac [4] ?_
   refine AW.ret ?_
   obtain rfl:=oi h
   (simp only [go_sem,seval,Ay]<;>try simp)
def Ub (a0:List Pair):Int→Option (Int⊕(Bool⊕Unit))
  | s1_0=>(if s1_0<(a0.length:Int) then (if 0<s1_0 then ((ix a0 (IntKind.i64.wrap (s1_0-1))).bind fun x15=>((ix a0 s1_0).bind fun x16=>(if (Pv x15.Key x16.Key)=true then some (.inl (IntKind.i64.wrap (s1_0+1))) else some (.inr (.inl false))))) else some (.inl (IntKind.i64.wrap (s1_0+1)))) else some (.inr (.inr ())))
def f121 (a0:List Pair):Option Bool:=((loopO (Ub a0) 0).bind fun y18=>match y18 with|.inl y19=>some y19|.inr _=>((Nq a0).bind fun x20=>some x20))
theorem ok121 (a0:List Pair) (r:Bool) (h:f121 a0=some r):PC Tryz.prog 121 [.sl (List.map Ca a0)] (.val (.bool r)):=by
 rw [f121] at h
 refine Bi (N:=28) (rs:=[.tmp 2]) Tryz.func121 ?_
 refine Ac [0] ?_
 refine AW.seq<|Ac [0,5,6] ?_
 refine AW.block ?_
 obtain ⟨y18,hy18,h⟩:=bO h
 refine AW.loopO (fun s=>⟨(Ag (Ag (Ag Az 0 (.sl (List.map Ca a0))) 5 (.val (.int .i64 (a0.length:Int)))) 6 (.val (.int .i64 s))),Bo [] [],8⟩) (fun y e st'=>match y with|.inl z=>e=Exit.ret∧Ay Tryz.prog [.tmp 2] (.val (.bool z)) .ret st'|.inr z=>e=Exit.exit 0∧st'=⟨(Ag Az 0 (.sl (List.map Ca a0))),Bo [] [],8⟩) hy18 ?_ ?_ ?_
 ·exact Bg RF.any.qv.qv.qv
 ·clear h hy18
  rintro s1_0 x h
  rw [Ub] at h
  refine Ac [0,5,6,7] ?_
  refine AW.seq ?_
  rcases Aq h with ⟨c13,h⟩|⟨c13,h⟩
  ·refine Aj rfl c13<|AW.skip<|Aa<|AW.seq<|AW.block<|Ac [0,3,5,6] ?_
   rcases Aq h with ⟨c14,h⟩|⟨c14,h⟩
   ·obtain ⟨x15,hx15,h⟩:=bO h
    obtain ⟨hx15a,hx15b⟩:=ix_some.1 hx15
    obtain ⟨x16,hx16,h⟩:=bO h
    obtain ⟨hx16a,hx16b⟩:=ix_some.1 hx16
    refine Dm [0,5,6,24] [0,1,3,7,7,23,63,127,255,7,7,1543,3591,7687,16383,32767] ?_
    generalize hK:AW Tryz.prog _ _ _=K
    simp only [go_sem,seval,eq_true c13,eq_true c14,Ah hx15a,hx15b,Ah hx16a,hx16b]
    subst hK
    rcases Aq h with ⟨c17,h⟩|⟨c17,h⟩
    ·refine Bl rfl (by first|(rw [c17];rfl)|simp_all)<|AW.skip<|Ax<|Aa<|Bz [0,5,6] ?_
     refine Aa ?_
     refine ⟨_,oj h,?_⟩
     exact Bg RF.any.qv.qv.qv
    ·rw [Bool.not_eq_true] at c17
     refine Bp rfl (by first|(rw [c17];rfl)|simp_all)<|Ao [2] ?_
     refine AW.ret<|Bd<|Ad<|Ad ?_
     refine ⟨_,oj h,_,Ent.refl,rfl,?_⟩
     (simp only [go_sem,seval,c17,Ay]<;>try simp)
   ·refine Dm [0,5,6,24] [0,1,3,7,7,23,63,127,255,7,7,1543,3591,7687,16383,32767] ?_
    generalize hK:AW Tryz.prog _ _ _=K
    simp only [go_sem,seval,eq_true c13,eq_false c14]
    subst hK
    refine Bl rfl rfl<|AW.skip<|Ax<|Aa<|Cd [0,5,6] ?_
    refine Aa ?_
    refine ⟨_,oj h,?_⟩
    exact Bg RF.any.qv.qv.qv
  ·refine Ai rfl c13<|AW.exit<|Af<|Af ?_
   refine ⟨_,oj h,_,?_,rfl,rfl⟩
   exact Bg RF.any.qv
 ·intro e st' hX
  rcases y18 with y19|_<;>dsimp only at h hX
  ·obtain ⟨rfl,hf⟩:=hX
   refine ⟨_,Ent.refl,?_⟩
   refine Bd<|Ad ?_
   obtain rfl:=oi h
   exact hf
  ·obtain ⟨rfl,rfl⟩:=hX
   refine ⟨_,Ent.refl,?_⟩
   refine Bc<|Aa ?_
   obtain ⟨x20,hx20,h⟩:=bO h
   refine Bx [2] (Pc (us:=[.sl (List.map Ca a0),.val (.func (.func 143) #[] #[])]) (ok142_143 a0 x20 hx20) (by first|rfl|simp [norm,Du,Fp,go_sem])) Tryz.call142 ?_
   refine AW.ret ?_
   obtain rfl:=oi h
   (simp only [go_sem,seval,Ay]<;>try simp)
def Sq (a0:List Pair):Int→Option (Int⊕(Bool⊕Unit))
  | s1_0=>(if s1_0<(a0.length:Int) then ((ix a0 (IntKind.i64.wrap (s1_0-1))).bind fun x15=>((ix a0 s1_0).bind fun x16=>((f67 x15.Key x16.Key).bind fun x17=>(if x17=true then some (.inl (IntKind.i64.wrap (s1_0+1))) else some (.inr (.inl false)))))) else some (.inr (.inr ())))
def f65 (a0:List Pair):Option Bool:=((loopO (Sq a0) 1).bind fun y19=>match y19 with|.inl y20=>some y20|.inr _=>some true)
theorem ok65 (a0:List Pair) (r:Bool) (h:f65 a0=some r):PC Tryz.prog 65 [.sl (List.map Ca a0)] (.val (.bool r)):=by
 rw [f65] at h
 refine Bi (N:=23) (rs:=[.tmp 2]) Tryz.func65 ?_
 refine Ac [0] ?_
 refine AW.seq<|Ac [0,3] ?_
 refine AW.block ?_
 obtain ⟨y19,hy19,h⟩:=bO h
 refine AW.loopO (fun s=>⟨(Ag (Ag Az 0 (.sl (List.map Ca a0))) 3 (.val (.int .i64 s))),Bo [] [],8⟩) (fun y e st'=>match y with|.inl z=>e=Exit.ret∧Ay Tryz.prog [.tmp 2] (.val (.bool z)) .ret st'|.inr z=>e=Exit.exit 0∧st'=⟨Az,Bo [] [],8⟩) hy19 ?_ ?_ ?_
 ·exact Bg RF.any.qv.qv
 ·clear h hy19
  rintro s1_0 x h
  rw [Sq] at h
  refine AW.seq<|Ac [0,3,7] ?_
  rcases Aq h with ⟨c14,h⟩|⟨c14,h⟩
  ·refine Aj rfl c14<|AW.skip<|Aa<|AW.seq<|AW.block ?_
   obtain ⟨x15,hx15,h⟩:=bO h
   obtain ⟨hx15a,hx15b⟩:=ix_some.1 hx15
   obtain ⟨x16,hx16,h⟩:=bO h
   obtain ⟨hx16a,hx16b⟩:=ix_some.1 hx16
   obtain ⟨x17,hx17,h⟩:=bO h
   refine Sb [0,3,22] [0,0,2,7,15,31,0,0,192,448,960,2047,4095] (ok67 x15.Key x16.Key x17 hx17) Tryz.call67 ?_
   generalize hK:AW Tryz.prog _ _ _=K
   simp only [go_sem,seval,Ah hx15a,hx15b,Ah hx16a,hx16b]
   subst hK
   rcases Aq h with ⟨c18,h⟩|⟨c18,h⟩
   ·refine Bl rfl (by first|(rw [c18];rfl)|simp_all)<|AW.skip<|Ax<|Aa<|Bz [0,3] ?_
    refine Aa ?_
    refine ⟨_,oj h,?_⟩
    exact Bg RF.any.qv.qv
   ·rw [Bool.not_eq_true] at c18
    refine Bp rfl (by first|(rw [c18];rfl)|simp_all)<|Ao [2] ?_
    refine AW.ret<|Bd<|Ad<|Ad ?_
    refine ⟨_,oj h,_,Ent.refl,rfl,?_⟩
    (simp only [go_sem,seval,c18,Ay]<;>try simp)
  ·refine Ai rfl c14<|AW.exit<|Af<|Af ?_
   refine ⟨_,oj h,_,?_,rfl,rfl⟩
   exact Bg RF.any
 ·intro e st' hX
  rcases y19 with y20|_<;>dsimp only at h hX
  ·obtain ⟨rfl,hf⟩:=hX
   refine ⟨_,Ent.refl,?_⟩
   refine Bd<|Ad ?_
   obtain rfl:=oi h
   exact hf
  ·obtain ⟨rfl,rfl⟩:=hX
   refine ⟨_,Ent.refl,?_⟩
   refine Bc<|Aa<|Ac [2] ?_
   refine AW.ret ?_
   obtain rfl:=oi h
   (simp only [go_sem,seval,Ay]<;>try simp)
def Vt (a0:List Int):Int→Option (Int⊕(Bool⊕Unit))
  | s1_0=>(if s1_0<(a0.length:Int) then ((ix a0 s1_0).bind fun x21=>(if x21<0 then some (.inr (.inl false)) else (if 1048576<x21 then some (.inr (.inl false)) else (if 0<s1_0 then ((ix a0 (IntKind.i64.wrap (s1_0-1))).bind fun x25=>(if x21≤x25 then some (.inr (.inl false)) else some (.inl (IntKind.i64.wrap (s1_0+1))))) else some (.inl (IntKind.i64.wrap (s1_0+1))))))) else some (.inr (.inr ())))
def f58 (a0:List Int):Option Bool:=(if 65536<(a0.length:Int) then some false else ((loopO (Vt a0) 0).bind fun y27=>match y27 with|.inl y28=>some y28|.inr _=>some true))
theorem ok58 (a0:List Int) (r:Bool) (h:f58 a0=some r):PC Tryz.prog 58 [.sl (List.map Bk a0)] (.val (.bool r)):=by
 rw [f58] at h
 refine Bi (N:=35) (rs:=[.tmp 2]) Tryz.func58 ?_
 refine Ac [0] ?_
 refine AW.seq<|Ac [0,7] ?_
 rcases Aq h with ⟨c2,h⟩|⟨c2,h⟩
 ·refine Aj rfl c2<|Ac [2] ?_
  refine AW.ret<|Ad ?_
  obtain rfl:=oi h
  (simp only [go_sem,seval,Ay]<;>try simp)
 ·refine Ai rfl c2<|AW.skip<|Aa<|AW.seq<|Ac [0,8,9,10] ?_
  refine AW.block ?_
  obtain ⟨y27,hy27,h⟩:=bO h
  refine AW.loopO (fun s=>⟨(Ag (Ag (Ag (Ag Az 0 (.sl (List.map Bk a0))) 8 (.sl (List.map Bk a0))) 9 (.val (.int .i64 (a0.length:Int)))) 10 (.val (.int .i64 s))),Bo [] [],8⟩) (fun y e st'=>match y with|.inl z=>e=Exit.ret∧Ay Tryz.prog [.tmp 2] (.val (.bool z)) .ret st'|.inr z=>e=Exit.exit 0∧st'=⟨Az,Bo [] [],8⟩) hy27 ?_ ?_ ?_
  ·exact Bg RF.any.qv.qv.qv.qv
  ·clear h hy27
   rintro s1_0 x h
   rw [Vt] at h
   refine Ao [0,8,9,10,11] ?_
   refine AW.seq ?_
   rcases Aq h with ⟨c20,h⟩|⟨c20,h⟩
   ·refine Aj rfl c20<|AW.skip<|Aa<|AW.seq<|AW.block ?_
    obtain ⟨x21,hx21,h⟩:=bO h
    obtain ⟨hx21a,hx21b⟩:=ix_some.1 hx21
    refine Ao [0,3,4,8,9,10] ?_
    rcases Aq h with ⟨c22,h⟩|⟨c22,h⟩
    ·refine Ao [0,8,9,10,33] ?_
     refine Bp rfl rfl<|Ao [2] ?_
     refine AW.ret<|Bd<|Ad<|Ad ?_
     refine ⟨_,oj h,_,Ent.refl,rfl,?_⟩
     (simp only [go_sem,seval,Ay]<;>try simp)
    ·rcases Aq h with ⟨c23,h⟩|⟨c23,h⟩
     ·refine Ao [0,8,9,10,33] ?_
      refine Bp rfl rfl<|Ac [2] ?_
      refine AW.ret<|Bd<|Ad<|Ad ?_
      refine ⟨_,oj h,_,Ent.refl,rfl,?_⟩
      (simp only [go_sem,seval,Ay]<;>try simp)
     ·rcases Aq h with ⟨c24,h⟩|⟨c24,h⟩
      ·obtain ⟨x25,hx25,h⟩:=bO h
       obtain ⟨hx25a,hx25b⟩:=ix_some.1 hx25
       refine Ao [0,8,9,10,33] ?_
       rcases Aq h with ⟨c26,h⟩|⟨c26,h⟩
       ·refine Aj rfl c26<|Ac [2] ?_
        refine AW.ret<|Bd<|Ad<|Ad ?_
        refine ⟨_,oj h,_,Ent.refl,rfl,?_⟩
        (simp only [go_sem,seval,Ay]<;>try simp)
       ·refine Ai rfl c26<|AW.skip<|Ax<|Aa<|Bz [0,8,9,10] ?_
        refine Aa ?_
        refine ⟨_,oj h,?_⟩
        exact Bg RF.any.qv.qv.qv.qv
      ·refine Ao [0,8,9,10,33] ?_
       refine Bl rfl rfl<|AW.skip<|Ax<|Aa<|Cd [0,8,9,10] ?_
       refine Aa ?_
       refine ⟨_,oj h,?_⟩
       exact Bg RF.any.qv.qv.qv.qv
   ·refine Ai rfl c20<|AW.exit<|Af<|Af ?_
    refine ⟨_,oj h,_,?_,rfl,rfl⟩
    exact Bg RF.any
  ·intro e st' hX
   rcases y27 with y28|_<;>dsimp only at h hX
   ·obtain ⟨rfl,hf⟩:=hX
    refine ⟨_,Ent.refl,?_⟩
    refine Bd<|Ad ?_
    obtain rfl:=oi h
    exact hf
   ·obtain ⟨rfl,rfl⟩:=hX
    refine ⟨_,Ent.refl,?_⟩
    refine Bc<|Aa<|Ac [2] ?_
    refine AW.ret ?_
    obtain rfl:=oi h
    (simp only [go_sem,seval,Ay]<;>try simp)
def f68_s1 (a0:List Int):Int→Option (Int⊕(Bool⊕Unit))
  | s1_0=>(if s1_0<(a0.length:Int) then ((ix a0 s1_0).bind fun x16=>(if x16<0 then some (.inr (.inl false)) else (if 1048576<x16 then some (.inr (.inl false)) else (if 0<s1_0 then ((ix a0 (IntKind.i64.wrap (s1_0-1))).bind fun x20=>(if x16≤x20 then some (.inr (.inl false)) else some (.inl (IntKind.i64.wrap (s1_0+1))))) else some (.inl (IntKind.i64.wrap (s1_0+1))))))) else some (.inr (.inr ())))
def f68 (a0:List Int):Option Bool:=((loopO (f68_s1 a0) 0).bind fun y22=>match y22 with|.inl y23=>some y23|.inr _=>some (decide ((a0.length:Int)≤65536)))
theorem ok68 (a0:List Int) (r:Bool) (h:f68 a0=some r):PC Tryz.prog 68 [.sl (List.map Bk a0)] (.val (.bool r)):=by
 rw [f68] at h
 refine Bi (N:=41) (rs:=[.tmp 2]) Tryz.func68 ?_
 refine Ac [0] ?_
 refine AW.seq<|Ac [0,3] ?_
 refine AW.block ?_
 obtain ⟨y22,hy22,h⟩:=bO h
 refine AW.loopO (fun s=>⟨(Ag (Ag Az 0 (.sl (List.map Bk a0))) 3 (.val (.int .i64 s))),Bo [] [],8⟩) (fun y e st'=>match y with|.inl z=>e=Exit.ret∧Ay Tryz.prog [.tmp 2] (.val (.bool z)) .ret st'|.inr z=>e=Exit.exit 0∧st'=⟨(Ag Az 0 (.sl (List.map Bk a0))),Bo [] [],8⟩) hy22 ?_ ?_ ?_
 ·exact Bg RF.any.qv.qv
 ·clear h hy22
  rintro s1_0 x h
  rw [f68_s1] at h
  refine AW.seq<|Ac [0,3,7] ?_
  rcases Aq h with ⟨c15,h⟩|⟨c15,h⟩
  ·refine Aj rfl c15<|AW.skip<|Aa<|AW.seq<|AW.block ?_
   obtain ⟨x16,hx16,h⟩:=bO h
   obtain ⟨hx16a,hx16b⟩:=ix_some.1 hx16
   rcases Aq h with ⟨c17,h⟩|⟨c17,h⟩
   ·refine Dm [0,3,37] [0,0,3,7,15,31,63,63,255,511,1023,2047,4095,8191,16383,32767,65535,65535,262143,524287,65535,65535,2162687,7405567,15794175,33554431,67108863,134217727] ?_
    generalize hK:AW Tryz.prog _ _ _=K
    simp only [go_sem,seval,Ah hx16a,hx16b,eq_true c17]
    subst hK
    refine Bp rfl rfl<|Ac [2] ?_
    refine AW.ret<|Bd<|Ad<|Ad ?_
    refine ⟨_,oj h,_,Ent.refl,rfl,?_⟩
    (simp only [go_sem,seval,Ay]<;>try simp)
   ·rcases Aq h with ⟨c18,h⟩|⟨c18,h⟩
    ·refine Dm [0,3,37] [0,0,3,7,15,31,63,63,255,511,1023,2047,4095,8191,16383,32767,65535,65535,262143,524287,65535,65535,2162687,7405567,15794175,33554431,67108863,134217727] ?_
     generalize hK:AW Tryz.prog _ _ _=K
     simp only [go_sem,seval,Ah hx16a,hx16b,eq_false c17,eq_true c18]
     subst hK
     refine Bp rfl rfl<|Ac [2] ?_
     refine AW.ret<|Bd<|Ad<|Ad ?_
     refine ⟨_,oj h,_,Ent.refl,rfl,?_⟩
     (simp only [go_sem,seval,Ay]<;>try simp)
    ·rcases Aq h with ⟨c19,h⟩|⟨c19,h⟩
     ·obtain ⟨x20,hx20,h⟩:=bO h
      obtain ⟨hx20a,hx20b⟩:=ix_some.1 hx20
      refine Dm [0,3,37] [0,0,3,7,15,31,63,63,255,511,1023,2047,4095,8191,16383,32767,65535,65535,262143,524287,65535,65535,2162687,7405567,15794175,33554431,67108863,134217727] ?_
      generalize hK:AW Tryz.prog _ _ _=K
      simp only [go_sem,seval,Ah hx16a,hx16b,eq_false c17,eq_false c18,eq_true c19,Ah hx20a,hx20b]
      subst hK
      rcases Aq h with ⟨c21,h⟩|⟨c21,h⟩
      ·refine Aj rfl c21<|Ac [2] ?_
       refine AW.ret<|Bd<|Ad<|Ad ?_
       refine ⟨_,oj h,_,Ent.refl,rfl,?_⟩
       (simp only [go_sem,seval,Ay]<;>try simp)
      ·refine Ai rfl c21<|AW.skip<|Ax<|Aa<|Cd [0,3] ?_
       refine Aa ?_
       refine ⟨_,oj h,?_⟩
       exact Bg RF.any.qv.qv
     ·refine Dm [0,3,37] [0,0,3,7,15,31,63,63,255,511,1023,2047,4095,8191,16383,32767,65535,65535,262143,524287,65535,65535,2162687,7405567,15794175,33554431,67108863,134217727] ?_
      generalize hK:AW Tryz.prog _ _ _=K
      simp only [go_sem,seval,Ah hx16a,hx16b,eq_false c17,eq_false c18,eq_false c19]
      subst hK
      refine Bl rfl rfl<|AW.skip<|Ax<|Aa<|Cd [0,3] ?_
      refine Aa ?_
      refine ⟨_,oj h,?_⟩
      exact Bg RF.any.qv.qv
  ·refine Ai rfl c15<|AW.exit<|Af<|Af ?_
   refine ⟨_,oj h,_,?_,rfl,rfl⟩
   exact Bg RF.any.qv
 ·intro e st' hX
  rcases y22 with y23|_<;>dsimp only at h hX
  ·obtain ⟨rfl,hf⟩:=hX
   refine ⟨_,Ent.refl,?_⟩
   refine Bd<|Ad ?_
   obtain rfl:=oi h
   exact hf
  ·obtain ⟨rfl,rfl⟩:=hX
   refine ⟨_,Ent.refl,?_⟩
   refine Bc<|Aa<|Ac [2] ?_
   refine AW.ret ?_
   obtain rfl:=oi h
   (simp only [go_sem,seval,Ay]<;>try simp)
def f60 (a0:Res):Option ByteArray:=some a0.Key
theorem ok60 (a0:Res) (r:ByteArray) (h:f60 a0=some r):PC Tryz.prog 60 [.agg (Ak a0)] (.val (.string r)):=by
 rw [f60] at h
 refine Bi (N:=5) (rs:=[.tmp 2]) Tryz.func60 ?_
 refine Ac [1] ?_
 refine Ac [2] ?_
 refine AW.ret ?_
 obtain rfl:=oi h
 (simp only [go_sem,seval,Ay]<;>try simp)
def Np (a0:List Res):Int→Option (Int⊕(Bool⊕Unit))
  | s1_0=>(if s1_0<(a0.length:Int) then (if 0<s1_0 then ((ix a0 (IntKind.i64.wrap (s1_0-1))).bind fun x17=>((f60 x17).bind fun x18=>((ix a0 s1_0).bind fun x19=>((f60 x19).bind fun x20=>(if (Pv x18 x20)=true then some (.inl (IntKind.i64.wrap (s1_0+1))) else some (.inr (.inl false))))))) else some (.inl (IntKind.i64.wrap (s1_0+1)))) else some (.inr (.inr ())))
def f59_60 (a0:List Res):Option Bool:=((loopO (Np a0) 0).bind fun y22=>match y22 with|.inl y23=>some y23|.inr _=>some true)
theorem ok59_60 (a0:List Res) (r:Bool) (h:f59_60 a0=some r):PC Tryz.prog 59 [.sl (List.map Ak a0),.clo (.func 60) [] []] (.val (.bool r)):=by
 rw [f59_60] at h
 refine Bi (N:=30) (rs:=[.tmp 4]) Tryz.func59 ?_
 refine Ac [0,1] ?_
 refine AW.seq<|Ac [0,1,7,8] ?_
 refine AW.block ?_
 obtain ⟨y22,hy22,h⟩:=bO h
 refine AW.loopO (fun s=>⟨(Ag (Ag (Ag (Ag Az 0 (.sl (List.map Ak a0))) 1 (.clo (.func 60) [] [])) 7 (.val (.int .i64 (a0.length:Int)))) 8 (.val (.int .i64 s))),Bo [] [],8⟩) (fun y e st'=>match y with|.inl z=>e=Exit.ret∧Ay Tryz.prog [.tmp 4] (.val (.bool z)) .ret st'|.inr z=>e=Exit.exit 0∧st'=⟨Az,Bo [] [],8⟩) hy22 ?_ ?_ ?_
 ·exact Bg RF.any.qv.qt.qv.qv
 ·clear h hy22
  rintro s1_0 x h
  rw [Np] at h
  refine Ac [0,1,7,8,9] ?_
  refine AW.seq ?_
  rcases Aq h with ⟨c15,h⟩|⟨c15,h⟩
  ·refine Aj rfl c15<|AW.skip<|Aa<|AW.seq<|AW.block<|Ac [0,1,5,7,8] ?_
   rcases Aq h with ⟨c16,h⟩|⟨c16,h⟩
   ·obtain ⟨x17,hx17,h⟩:=bO h
    obtain ⟨hx17a,hx17b⟩:=ix_some.1 hx17
    obtain ⟨x18,hx18,h⟩:=bO h
    obtain ⟨x19,hx19,h⟩:=bO h
    obtain ⟨hx19a,hx19b⟩:=ix_some.1 hx19
    obtain ⟨x20,hx20,h⟩:=bO h
    refine Dm [0,1,7,8,28] [0,1,3,7,7,7,39,119,247,511,7,7,7,6151,14343,32767,65535,131071] ?_
    generalize hK:AW Tryz.prog _ _ _=K
    simp only [go_sem,seval,eq_true c15,eq_true c16,Ah hx17a,hx17b,Ah hx19a,hx19b]
    refine Em (ok60 x17 x18 hx18) Tryz.call60 (Fw (by simp only [Ae,Nat.reduceEqDiff,if_true,if_false,↓reduceIte];rfl)) (by simp only [go_sem,seval,List.nil_append,List.append_nil,eq_true c15,eq_true c16,Ah hx17a,hx17b,Ah hx19a,hx19b]) (by simp only [go_sem,seval]) ?_
    simp only [go_sem,seval,Ah hx17a,hx17b,Ah hx19a,hx19b]
    refine Em (ok60 x19 x20 hx20) Tryz.call60 (Fw (by simp only [Ae,Nat.reduceEqDiff,if_true,if_false,↓reduceIte];rfl)) (by simp only [go_sem,seval,List.nil_append,List.append_nil,eq_true c15,eq_true c16,Ah hx17a,hx17b,Ah hx19a,hx19b]) (by simp only [go_sem,seval]) ?_
    simp only [go_sem,seval,Ah hx17a,hx17b,Ah hx19a,hx19b]
    subst hK
    rcases Aq h with ⟨c21,h⟩|⟨c21,h⟩
    ·refine Bl rfl (by first|(rw [c21];rfl)|simp_all)<|AW.skip<|Ax<|Aa<|Bz [0,1,7,8] ?_
     refine Aa ?_
     refine ⟨_,oj h,?_⟩
     exact Bg RF.any.qv.qt.qv.qv
    ·rw [Bool.not_eq_true] at c21
     refine Bp rfl (by first|(rw [c21];rfl)|simp_all)<|Ao [4] ?_
     refine AW.ret<|Bd<|Ad<|Ad ?_
     refine ⟨_,oj h,_,Ent.refl,rfl,?_⟩
     (simp only [go_sem,seval,c21,Ay]<;>try simp)
   ·refine Dm [0,1,7,8,28] [0,1,3,7,7,7,39,119,247,511,7,7,7,6151,14343,32767,65535,131071] ?_
    generalize hK:AW Tryz.prog _ _ _=K
    simp only [go_sem,seval,eq_true c15,eq_false c16]
    subst hK
    refine Bl rfl rfl<|AW.skip<|Ax<|Aa<|Cd [0,1,7,8] ?_
    refine Aa ?_
    refine ⟨_,oj h,?_⟩
    exact Bg RF.any.qv.qt.qv.qv
  ·refine Ai rfl c15<|AW.exit<|Af<|Af ?_
   refine ⟨_,oj h,_,?_,rfl,rfl⟩
   exact Bg RF.any
 ·intro e st' hX
  rcases y22 with y23|_<;>dsimp only at h hX
  ·obtain ⟨rfl,hf⟩:=hX
   refine ⟨_,Ent.refl,?_⟩
   refine Bd<|Ad ?_
   obtain rfl:=oi h
   exact hf
  ·obtain ⟨rfl,rfl⟩:=hX
   refine ⟨_,Ent.refl,?_⟩
   refine Bc<|Aa<|Ac [4] ?_
   refine AW.ret ?_
   obtain rfl:=oi h
   (simp only [go_sem,seval,Ay]<;>try simp)
def f32_s1 (a0:List Res):Int→Option (Int⊕(Bool⊕Unit))
  | s1_0=>(if s1_0<(a0.length:Int) then ((ix a0 s1_0).bind fun x18=>(if (x18.Offs.length:Int)=0 then some (.inr (.inl false)) else ((f58 x18.Offs).bind fun x20=>(if x20=true then some (.inl (IntKind.i64.wrap (s1_0+1))) else some (.inr (.inl false)))))) else some (.inr (.inr ())))
def f32 (a0:List Res):Option Bool:=((loopO (f32_s1 a0) 0).bind fun y22=>match y22 with|.inl y23=>some y23|.inr _=>((f59_60 a0).bind fun x24=>some x24))
theorem ok32 (a0:List Res) (r:Bool) (h:f32 a0=some r):PC Tryz.prog 32 [.sl (List.map Ak a0)] (.val (.bool r)):=by
 rw [f32] at h
 refine Bi (N:=24) (rs:=[.tmp 2]) Tryz.func32 ?_
 refine Ac [0] ?_
 refine AW.seq<|Ac [0,5,6,7] ?_
 refine AW.block ?_
 obtain ⟨y22,hy22,h⟩:=bO h
 refine AW.loopO (fun s=>⟨(Ag (Ag (Ag (Ag Az 0 (.sl (List.map Ak a0))) 5 (.sl (List.map Ak a0))) 6 (.val (.int .i64 (a0.length:Int)))) 7 (.val (.int .i64 s))),Bo [] [],8⟩) (fun y e st'=>match y with|.inl z=>e=Exit.ret∧Ay Tryz.prog [.tmp 2] (.val (.bool z)) .ret st'|.inr z=>e=Exit.exit 0∧st'=⟨(Ag Az 0 (.sl (List.map Ak a0))),Bo [] [],8⟩) hy22 ?_ ?_ ?_
 ·exact Bg RF.any.qv.qv.qv.qv
 ·clear h hy22
  rintro s1_0 x h
  rw [f32_s1] at h
  refine Ao [0,5,6,7,8] ?_
  refine AW.seq ?_
  rcases Aq h with ⟨c17,h⟩|⟨c17,h⟩
  ·refine Aj rfl c17<|AW.skip<|Aa<|AW.seq<|AW.block ?_
   obtain ⟨x18,hx18,h⟩:=bO h
   obtain ⟨hx18a,hx18b⟩:=ix_some.1 hx18
   refine Ao [0,4,5,6,7] ?_
   rcases Aq h with ⟨c19,h⟩|⟨c19,h⟩
   ·refine Ao [0,5,6,7,20] ?_
    refine Bp rfl rfl<|Ac [2] ?_
    refine AW.ret<|Bd<|Ad<|Ad ?_
    refine ⟨_,oj h,_,Ent.refl,rfl,?_⟩
    (simp only [go_sem,seval,Ay]<;>try simp)
   ·obtain ⟨x20,hx20,h⟩:=bO h
    refine Kw [0,5,6,7,20] (ok58 x18.Offs x20 hx20) Tryz.call58 ?_
    rcases Aq h with ⟨c21,h⟩|⟨c21,h⟩
    ·refine Bl rfl (by first|(rw [c21];rfl)|simp_all)<|AW.skip<|Ax<|Aa<|Bz [0,5,6,7] ?_
     refine Aa ?_
     refine ⟨_,oj h,?_⟩
     exact Bg RF.any.qv.qv.qv.qv
    ·rw [Bool.not_eq_true] at c21
     refine Bp rfl (by first|(rw [c21];rfl)|simp_all)<|Ao [2] ?_
     refine AW.ret<|Bd<|Ad<|Ad ?_
     refine ⟨_,oj h,_,Ent.refl,rfl,?_⟩
     (simp only [go_sem,seval,c21,Ay]<;>try simp)
  ·refine Ai rfl c17<|AW.exit<|Af<|Af ?_
   refine ⟨_,oj h,_,?_,rfl,rfl⟩
   exact Bg RF.any.qv
 ·intro e st' hX
  rcases y22 with y23|_<;>dsimp only at h hX
  ·obtain ⟨rfl,hf⟩:=hX
   refine ⟨_,Ent.refl,?_⟩
   refine Bd<|Ad ?_
   obtain rfl:=oi h
   exact hf
  ·obtain ⟨rfl,rfl⟩:=hX
   refine ⟨_,Ent.refl,?_⟩
   refine Bc<|Aa ?_
   obtain ⟨x24,hx24,h⟩:=bO h
   refine Bx [2] (Pc (us:=[.sl (List.map Ak a0),.val (.func (.func 60) #[] #[])]) (ok59_60 a0 x24 hx24) (by first|rfl|simp [norm,Du,Fp,go_sem])) Tryz.call59 ?_
   refine AW.ret ?_
   obtain rfl:=oi h
   (simp only [go_sem,seval,Ay]<;>try simp)
def St (a0:List Res):Int→Option (Int⊕(Bool⊕Unit))
  | s1_0=>(if s1_0<(a0.length:Int) then ((ix a0 s1_0).bind fun x19=>(if (x19.Offs.length:Int)=0 then some (.inr (.inl false)) else ((f68 x19.Offs).bind fun x21=>(if x21=true then (if 0<s1_0 then ((ix a0 (IntKind.i64.wrap (s1_0-1))).bind fun x24=>((f67 x24.Key x19.Key).bind fun x25=>(if x25=true then some (.inl (IntKind.i64.wrap (s1_0+1))) else some (.inr (.inl false))))) else some (.inl (IntKind.i64.wrap (s1_0+1)))) else some (.inr (.inl false)))))) else some (.inr (.inr ())))
def f38 (a0:List Res):Option Bool:=((loopO (St a0) 0).bind fun y27=>match y27 with|.inl y28=>some y28|.inr _=>some true)
theorem ok38 (a0:List Res) (r:Bool) (h:f38 a0=some r):PC Tryz.prog 38 [.sl (List.map Ak a0)] (.val (.bool r)):=by
 rw [f38] at h
 refine Bi (N:=45) (rs:=[.tmp 2]) Tryz.func38 ?_
 refine Ac [0] ?_
 refine AW.seq<|Ac [0,3] ?_
 refine AW.block ?_
 obtain ⟨y27,hy27,h⟩:=bO h
 refine AW.loopO (fun s=>⟨(Ag (Ag Az 0 (.sl (List.map Ak a0))) 3 (.val (.int .i64 s))),Bo [] [],8⟩) (fun y e st'=>match y with|.inl z=>e=Exit.ret∧Ay Tryz.prog [.tmp 2] (.val (.bool z)) .ret st'|.inr z=>e=Exit.exit 0∧st'=⟨Az,Bo [] [],8⟩) hy27 ?_ ?_ ?_
 ·exact Bg RF.any.qv.qv
 ·clear h hy27
  rintro s1_0 x h
  rw [St] at h
  refine AW.seq<|Ac [0,3,7] ?_
  rcases Aq h with ⟨c18,h⟩|⟨c18,h⟩
  ·refine Aj rfl c18<|AW.skip<|Aa<|AW.seq<|AW.block ?_
   obtain ⟨x19,hx19,h⟩:=bO h
   obtain ⟨hx19a,hx19b⟩:=ix_some.1 hx19
   rcases Aq h with ⟨c20,h⟩|⟨c20,h⟩
   ·refine Dm [0,3,44] [0,0,3,7,15,31,63,127,255,255,1023,2047,4095,8191,16383,32767,65535,131071,262143,524287,1048575,1048575,3145727,8388607,16777215,33554431,1048575,1048575,202375167,470810623,1007681535,2147483647,4294967295,8589934591,17179869183] ?_
    generalize hK:AW Tryz.prog _ _ _=K
    simp only [go_sem,seval,Ah hx19a,hx19b,eq_true c20]
    subst hK
    refine Bp rfl rfl<|Ac [2] ?_
    refine AW.ret<|Bd<|Ad<|Ad ?_
    refine ⟨_,oj h,_,Ent.refl,rfl,?_⟩
    (simp only [go_sem,seval,Ay]<;>try simp)
   ·obtain ⟨x21,hx21,h⟩:=bO h
    rcases Aq h with ⟨c22,h⟩|⟨c22,h⟩
    ·rcases Aq h with ⟨c23,h⟩|⟨c23,h⟩
     ·obtain ⟨x24,hx24,h⟩:=bO h
      obtain ⟨hx24a,hx24b⟩:=ix_some.1 hx24
      obtain ⟨x25,hx25,h⟩:=bO h
      refine Dm [0,3,44] [0,0,3,7,15,31,63,127,255,255,1023,2047,4095,8191,16383,32767,65535,131071,262143,524287,1048575,1048575,3145727,8388607,16777215,33554431,1048575,1048575,202375167,470810623,1007681535,2147483647,4294967295,8589934591,17179869183] ?_
      generalize hK:AW Tryz.prog _ _ _=K
      simp only [go_sem,seval,Ah hx19a,hx19b,eq_false c20,c22,eq_true c23,Ah hx24a,hx24b]
      refine Em (ok68 x19.Offs x21 hx21) Tryz.call68 El (by simp only [go_sem,seval,Ah hx19a,hx19b,eq_false c20,c22,eq_true c23,Ah hx24a,hx24b]) (by simp only [go_sem,seval]) ?_
      simp only [go_sem,seval,Ah hx19a,hx19b,eq_false c20,c22,eq_true c23,Ah hx24a,hx24b]
      refine Em (ok67 x24.Key x19.Key x25 hx25) Tryz.call67 El (by simp only [go_sem,seval,Ah hx19a,hx19b,eq_false c20,c22,eq_true c23,Ah hx24a,hx24b]) (by simp only [go_sem,seval]) ?_
      simp only [go_sem,seval,Ah hx19a,hx19b,eq_false c20,c22,eq_true c23,Ah hx24a,hx24b]
      subst hK
      rcases Aq h with ⟨c26,h⟩|⟨c26,h⟩
      ·refine Bl rfl (by first|(rw [c26];rfl)|simp_all)<|AW.skip<|Ax<|Aa<|Bz [0,3] ?_
       refine Aa ?_
       refine ⟨_,oj h,?_⟩
       exact Bg RF.any.qv.qv
      ·rw [Bool.not_eq_true] at c26
       refine Bp rfl (by first|(rw [c26];rfl)|simp_all)<|Ao [2] ?_
       refine AW.ret<|Bd<|Ad<|Ad ?_
       refine ⟨_,oj h,_,Ent.refl,rfl,?_⟩
       (simp only [go_sem,seval,c22,eq_true c23,c26,Ay]<;>try simp)
     ·refine Sb [0,3,44] [0,0,3,7,15,31,63,127,255,255,1023,2047,4095,8191,16383,32767,65535,131071,262143,524287,1048575,1048575,3145727,8388607,16777215,33554431,1048575,1048575,202375167,470810623,1007681535,2147483647,4294967295,8589934591,17179869183] (ok68 x19.Offs x21 hx21) Tryz.call68 ?_
      generalize hK:AW Tryz.prog _ _ _=K
      simp only [go_sem,seval,Ah hx19a,hx19b,eq_false c20,c22,eq_false c23]
      subst hK
      refine Bl rfl rfl<|AW.skip<|Ax<|Aa<|Bz [0,3] ?_
      refine Aa ?_
      refine ⟨_,oj h,?_⟩
      exact Bg RF.any.qv.qv
    ·rw [Bool.not_eq_true] at c22
     refine Sb [0,3,44] [0,0,3,7,15,31,63,127,255,255,1023,2047,4095,8191,16383,32767,65535,131071,262143,524287,1048575,1048575,3145727,8388607,16777215,33554431,1048575,1048575,202375167,470810623,1007681535,2147483647,4294967295,8589934591,17179869183] (ok68 x19.Offs x21 hx21) Tryz.call68 ?_
     generalize hK:AW Tryz.prog _ _ _=K
     simp only [go_sem,seval,Ah hx19a,hx19b,eq_false c20,c22]
     subst hK
     refine Bp rfl rfl<|Ao [2] ?_
     refine AW.ret<|Bd<|Ad<|Ad ?_
     refine ⟨_,oj h,_,Ent.refl,rfl,?_⟩
     (simp only [go_sem,seval,c22,Ay]<;>try simp)
  ·refine Ai rfl c18<|AW.exit<|Af<|Af ?_
   refine ⟨_,oj h,_,?_,rfl,rfl⟩
   exact Bg RF.any
 ·intro e st' hX
  rcases y27 with y28|_<;>dsimp only at h hX
  ·obtain ⟨rfl,hf⟩:=hX
   refine ⟨_,Ent.refl,?_⟩
   refine Bd<|Ad ?_
   obtain rfl:=oi h
   exact hf
  ·obtain ⟨rfl,rfl⟩:=hX
   refine ⟨_,Ent.refl,?_⟩
   refine Bc<|Aa<|Ac [2] ?_
   refine AW.ret ?_
   obtain rfl:=oi h
   (simp only [go_sem,seval,Ay]<;>try simp)
theorem scan {step:Int→Option (Int⊕(Bool⊕Unit))} (n:Nat) (p:Nat→Bool) (k:Nat)
  (hs:∀i:Nat,k≤i→step (i:Int)=if i<n then (if p i=true then some (.inl (((i+1:Nat):Int))) else some (.inr (.inl false))) else some (.inr (.inr ()))) :
  ∃r,loopO step (k:Int)=some r∧((r=.inl false∧∃i,k≤i∧i<n∧p i=false)∨(r=.inr ()∧∀i,k≤i→i<n→p i=true)):=by
 have key:∀(m j:Nat),k≤j→n-j≤m→∃r,loopO step (j:Int)=some r∧((r=.inl false∧∃i,j≤i∧i<n∧p i=false)∨(r=.inr ()∧∀i,j≤i→i<n→p i=true)):=by
  intro m
  induction m with
  | zero =>
   intro j hkj hk
   refine ⟨.inr (),Al (by rw [hs j hkj,if_neg (by omega)]),.inr ⟨rfl,fun i h1 h2=>by omega⟩⟩
  | succ m ih =>
   intro j hkj hk
   by_cases hlt:j<n
   ·by_cases hp:p j=true
    ·obtain ⟨r,h1,h2⟩:=ih (j+1) (by omega) (by omega)
     refine ⟨r,(Bj (by rw [hs j hkj,if_pos hlt,if_pos hp])).trans h1,?_⟩
     rcases h2 with ⟨rfl,i,h3,h4,h5⟩|⟨rfl,h3⟩
     ·exact .inl ⟨rfl,i,by omega,h4,h5⟩
     ·refine .inr ⟨rfl,fun i h4 h5=>?_⟩
      by_cases e:i=j
      ·rw [e];exact hp
      ·exact h3 i (by omega) h5
    ·refine ⟨.inl false,Al (by rw [hs j hkj,if_pos hlt,if_neg hp]),.inl ⟨rfl,j,by omega,hlt,by simpa using hp⟩⟩
   ·exact ⟨.inr (),Al (by rw [hs j hkj,if_neg hlt]),.inr ⟨rfl,fun i h1 h2=>by omega⟩⟩
 exact key (n-k) k (Nat.le_refl _) (Nat.le_refl _)
theorem scanB {step:Int→Option (Int⊕(Bool⊕Unit))} {g:Bool⊕Unit→Option Bool} (n:Nat) (p:Nat→Bool) (k:Nat) (hg:g (.inl false)=some false)
  (hs:∀i:Nat,k≤i→step (i:Int)=if i<n then (if p i=true then some (.inl (((i+1:Nat):Int))) else some (.inr (.inl false))) else some (.inr (.inr ()))) {v:Bool} (hv:(∀i,k≤i→i<n→p i=true)→g (.inr ())=some v) :
  ∃w:Bool,(loopO step (k:Int)).bind g=some w∧(w=true↔(∀i,k≤i→i<n→p i=true)∧v=true):=by
 obtain ⟨r,h1,h2⟩:=scan n p k hs
 rcases h2 with ⟨rfl,i,h3,h4,h5⟩|⟨rfl,h3⟩
 ·refine ⟨false,by rw [h1];exact hg,?_⟩
  constructor
  ·intro h;cases h
  ·rintro ⟨h,_⟩;rw [h i h3 h4] at h5;cases h5
 ·exact ⟨v,by rw [h1];exact hv h3,fun h=>⟨h3,h⟩,fun h=>h.2⟩
theorem Pf {i:Nat} (h:0<i) (h1:i≤10000000000):IntKind.i64.wrap ((i:Int)-1)=((i-1:Nat):Int):=by rw [Bf (by omega) (by omega)];omega
theorem frame_eq {b:List Int} (hb:Byt b) (hl:b.length≤1000000) (a:Int):∃r,f119 b a=some r∧f63 b a=some r∧Byt r.1∧r.1.length≤b.length:=by
 obtain ⟨⟨v,p,e⟩,h1,h2,h3⟩:=uv_eq hb hl a
 simp only [f119,f63,h1,h2,Option.bind_some]
 have nil:Byt []:=fun x h=>by cases h
 rcases h3 with ⟨q1,q2,q3,q4,q5,q6⟩|⟨q1,q2,q3⟩
 ·simp only at q1 q2 q3 q4 q5 q6
  subst q1
  simp only [if_true]
  by_cases c1:1048576<v
  ·simp only [if_pos c1];exact ⟨_,rfl,rfl,nil,by simp⟩
  simp only [if_neg c1]
  have w1:IntKind.i64.wrap v=v:=Bf (by omega) (by omega)
  have w2:IntKind.i64.wrap (v+4)=v+4:=Bf (by omega) (by omega)
  have w3:IntKind.i64.wrap ((b.length:Int)-p)=(b.length:Int)-p:=Bf (by omega) (by omega)
  have w4:IntKind.i64.wrap (p+v)=p+v:=Bf (by omega) (by omega)
  have w5:IntKind.i64.wrap (p+v+4)=p+v+4:=Bf (by omega) (by omega)
  have w6:IntKind.i64.wrap (p+v+4-4)=p+v:=by rw [Bf (by omega) (by omega)];omega
  simp only [w1,w2,w3,w4,w5,w6]
  by_cases c2:(b.length:Int)-p<v+4
  ·simp only [if_pos c2];exact ⟨_,rfl,rfl,nil,by simp⟩
  simp only [if_neg c2]
  obtain ⟨x8,hx8⟩:=Wf (b:=b) (lo:=a) (hi:=p+v+4) q4 (by omega) (by omega)
  obtain ⟨x3,hx3⟩:=Wf (b:=b) (lo:=a) (hi:=p+v) q4 (by omega) (by omega)
  obtain ⟨d,hd⟩:=Wf (b:=b) (lo:=p) (hi:=p+v) (by omega) (by omega) (by omega)
  have l8:=Yo hx8
  have l3:=Yo hx3
  have ld:=Yo hd
  have h83:Dl x8 0 (IntKind.i64.wrap ((x8.length:Int)-4))=some x3:=by
   rw [Bf (by omega) (by omega)]
   refine cutO?_some.2 ⟨⟨by omega,by omega,by omega⟩,?_⟩
   obtain ⟨_,e8⟩:=cutO?_some.1 hx8
   obtain ⟨_,e3⟩:=cutO?_some.1 hx3
   rw [←e8,←e3]
   simp only [Int.toNat_zero,List.drop_zero,List.take_take]
   congr 1;simp only [List.length_take,List.length_drop];omega
  obtain ⟨c,c1',c2',c3,c4⟩:=put_crc (hb.cut hx3) (by omega)
  have e133:∀l:List Int,l.length≤1000000→f133 l=some l:=fun l h=>clone_id (by omega)
  have e139:f139 x8=if c=x8 then some (x3,0) else some ([],4):=by
   simp only [f139,if_neg (show ¬(x8.length:Int)<4 by omega),h83,Option.bind_some,e133 x3 (by omega),c1',eq161 c x8 (by omega)]
   by_cases hc:c=x8<;>simp [hc]
  simp only [hx8,hx3,hd,Option.bind_some,e139,c2',str_eq c3 (hb.cut hx8)]
  by_cases hc:c=x8
  ·simp only [if_pos hc,Option.bind_some,if_true,e133 d (by omega)]
   exact ⟨_,rfl,rfl,hb.cut hd,by simp only;omega⟩
  ·simp only [if_neg hc,Option.bind_some,if_neg (show ¬(4:Int)=0 by decide)]
   exact ⟨_,rfl,rfl,nil,by simp⟩
 ·simp only at q1 q2 q3
  simp only [if_neg q1]
  exact ⟨_,rfl,rfl,nil,by simp⟩
theorem Xy {b:List Int} {a:Int} {r:ByteArray×Int×Int} (h:f102 b a 65536=some r):r.1.size≤b.length:=by
 unfold f102 at h
 obtain ⟨x1,_,h⟩:=Option.bind_eq_some_iff.1 h
 have e0:(⟨#[]⟩:ByteArray).size=0:=rfl
 split at h
 ·split at h
  ·obtain rfl:=Option.some.inj h;simp only [e0];omega
  ·split at h
   ·obtain rfl:=Option.some.inj h;simp only [e0];omega
   ·split at h
    ·obtain rfl:=Option.some.inj h;simp only [e0];omega
    ·obtain ⟨c,hc,h⟩:=Option.bind_eq_some_iff.1 h
     obtain rfl:=Option.some.inj h
     have:(strOfNums c).size=c.length:=by rw [Iz];unfold bl;rw [strOfNums_data];simp
     rw [this]
     obtain ⟨⟨h1,h2,h3⟩,rfl⟩:=cutO?_some.1 hc
     simp only [List.length_take,List.length_drop];omega
 ·obtain rfl:=Option.some.inj h;simp only [e0];omega
def Wv (l:List Pair):List ByteArray:=l.flatMap fun p=>[p.Key,p.Val]
theorem unp_len (l:List Pair):(Wv l).length=2*l.length:=by induction l with
 | nil=>rfl
 | cons p l ih=>simp only [Wv,List.flatMap_cons,List.length_append,List.length_cons,List.length_nil] at *;omega
theorem unp_get:∀(l:List Pair) (i:Nat) (h:i<l.length),(Wv l)[2*i]?=some l[i].Key∧(Wv l)[2*i+1]?=some l[i].Val
 | p::l,0,_=>by simp [Wv]
 | p::l,i+1,h=>by
  obtain ⟨h1,h2⟩:=unp_get l i (by simpa using h)
  have e:Wv (p::l)=p.Key::p.Val::Wv l:=by simp [Wv]
  rw [e,show 2*(i+1)=2*i+1+1 by omega,List.getElem?_cons_succ,List.getElem?_cons_succ,List.getElem?_cons_succ,List.getElem?_cons_succ]
  exact ⟨h1,h2⟩
theorem unp_app (l:List Pair) (p:Pair):Wv (l++[p])=Wv l++[p.Key]++[p.Val]:=by simp [Wv]
theorem Yb {ps:List Pair} {q:Int×Int} (hl:ps.length≤1000000):loopO (Mz (Wv ps,q)) ([],0)=some ps:=by
 have key:∃r,loopO (Mz (Wv ps,q)) ([],0)=some r∧r=ps:=by
  refine Dv (fun n s=>∃i:Nat,s=(ps.take i,((2*i:Nat):Int))∧i≤ps.length∧n=ps.length-i) ?_ (k:=ps.length) ⟨0,by simp,by omega,by omega⟩
  rintro n _ ⟨i,rfl,hi,hn⟩
  have hu:=unp_len ps
  have w1:IntKind.i64.wrap (((2*i:Nat):Int)+1)=((2*i+1:Nat):Int):=by rw [Bf (by omega) (by omega)];omega
  have w2:IntKind.i64.wrap (((2*i:Nat):Int)+2)=((2*(i+1):Nat):Int):=by rw [Bf (by omega) (by omega)];omega
  by_cases hlt:i<ps.length
  ·obtain ⟨g1,g2⟩:=unp_get ps i hlt
   have ha:Bq (ps.take i) [⟨ps[i].Key,ps[i].Val⟩]=some (ps.take (i+1)):=appO?_some.2 ⟨by simp;omega,by rw [List.take_succ_eq_append_getElem hlt]⟩
   refine .inl ⟨(ps.take (i+1),((2*(i+1):Nat):Int)),n-1,?_,by omega,i+1,rfl,by omega,by omega⟩
   simp only [Mz,w1,if_pos (show ((2*i+1:Nat):Int)<((Wv ps).length:Int) by omega),ix_nat,g1,g2,Option.bind_some,ha,w2]
  ·refine .inr ⟨ps,?_,rfl⟩
   simp only [Mz,w1,if_neg (show ¬((2*i+1:Nat):Int)<((Wv ps).length:Int) by omega)]
   rw [List.take_of_length_le (by omega)]
 obtain ⟨r,h,rfl⟩:=key
 exact h
def Sz (b:List Int) (l:List Pair):Prop:=∀p∈l,p.Key.size≤b.length∧p.Val.size≤b.length
theorem pairs_loop {b:List Int} (hb:Byt b) (hl:b.length≤1000000) {v p0:Int} (h0:0≤v) (hv:v≤65536):∀(j:Nat) (p:Int) (ps:List Pair),(j:Int)=v-ps.length→(ps.length:Int)≤p→p≤b.length→Sz b ps →
  ∃R R',loopO (Ey b 2 (v,p0,0)) (p,ps,(ps.length:Int))=some R∧loopO (Hq b 2 (v,p0,0)) (p,Wv ps,((2*ps.length:Nat):Int))=some R' ∧
   ((∃e,e≠0∧R=.inl ([],0,e)∧R'=.inl ([],0,e))∨∃p' ps',R=.inr (p',ps')∧R'=.inr (p',Wv ps')∧(ps'.length:Int)≤p'∧p'≤b.length∧Sz b ps')
 | 0,p,ps,hj,h1,h2,h3=>by
  have w1:IntKind.i64.wrap v=v:=Bf (by omega) (by omega)
  have w2:IntKind.i64.wrap (v*2)=v*2:=Bf (by omega) (by omega)
  refine ⟨_,_,Al (r:=.inr (p,ps)) ?_,Al (r:=.inr (p,Wv ps)) ?_,.inr ⟨p,ps,rfl,rfl,h1,h2,h3⟩⟩
  ·simp only [Ey];rw [if_neg (by omega)]
  ·simp only [Hq,w1,w2];rw [if_neg (by omega)]
 | j+1,p,ps,hj,h1,h2,h3=>by
  have w1:IntKind.i64.wrap v=v:=Bf (by omega) (by omega)
  have w2:IntKind.i64.wrap (v*2)=v*2:=Bf (by omega) (by omega)
  have hu:=unp_len ps
  obtain ⟨⟨s1,q1,e1⟩,t1,t2,t3⟩:=sv_eq hb hl p
  have k1:=Xy t2
  have z1:IntKind.i64.wrap (0+1)=1:=by decide
  have z2:IntKind.i64.wrap (1+1)=2:=by decide
  have a1:Bq ([]:List ByteArray) [s1]=some [s1]:=appO?_some.2 ⟨by simp,rfl⟩
  rcases t3 with ⟨g1,g2,g3,g4⟩|⟨g1,g2⟩
  rotate_left
  ·simp only at g1 g2
   refine ⟨.inl ([],0,e1),.inl ([],0,e1),Al ?_,Al ?_,.inl ⟨e1,g1,rfl,rfl⟩⟩
   ·have hin:loopO (Ed b 2) (p,[],0)=some (.inl ([],0,e1)):=Al (by simp only [Ed,if_pos (show (0:Int)<2 by decide),t1,Option.bind_some,if_neg g1])
    simp only [Ey];rw [if_pos (by omega),hin];rfl
   ·simp only [Hq,w1,w2];rw [if_pos (by omega)]
    simp only [t2,Option.bind_some,if_neg g1]
  simp only at g1 g2 g3 g4 k1
  subst g1
  obtain ⟨⟨s2,q2,e2⟩,u1,u2,u3⟩:=sv_eq hb hl q1
  have k2:=Xy u2
  have hin1:Ed b 2 (p,[],0)=some (.inl (q1,[s1],1)):=by simp only [Ed,if_pos (show (0:Int)<2 by decide),t1,Option.bind_some,if_true,a1,z1]
  have w3:IntKind.i64.wrap (((2*ps.length:Nat):Int)+1)=((2*ps.length+1:Nat):Int):=by rw [Bf (by omega) (by omega)];omega
  have w4:IntKind.i64.wrap (((2*ps.length+1:Nat):Int)+1)=((2*(ps.length+1):Nat):Int):=by rw [Bf (by omega) (by omega)];omega
  have hr1:Hq b 2 (v,p0,0) (p,Wv ps,((2*ps.length:Nat):Int))=some (.inl (q1,Wv ps++[s1],((2*ps.length+1:Nat):Int))):=by
   simp only [Hq,w1,w2];rw [if_pos (by omega)]
   simp only [t2,Option.bind_some,if_true,appO?_some.2 (⟨by simp;omega,rfl⟩:_∧Wv ps++[s1]=Wv ps++[s1]),w3]
  rcases u3 with ⟨g1',g2',g3',g4'⟩|⟨g1',g2'⟩
  rotate_left
  ·simp only at g1' g2'
   refine ⟨.inl ([],0,e2),.inl ([],0,e2),Al ?_,(Bj hr1).trans (Al ?_),.inl ⟨e2,g1',rfl,rfl⟩⟩
   ·have hin:loopO (Ed b 2) (p,[],0)=some (.inl ([],0,e2)):=(Bj hin1).trans (Al (by simp only [Ed,if_pos (show (1:Int)<2 by decide),u1,Option.bind_some,if_neg g1']))
    simp only [Ey];rw [if_pos (by omega),hin];rfl
   ·simp only [Hq,w1,w2];rw [if_pos (by omega)]
    simp only [u2,Option.bind_some,if_neg g1']
  simp only at g1' g2' g3' g4' k2
  subst g1'
  have a2:Bq [s1] [s2]=some [s1,s2]:=appO?_some.2 ⟨by simp,rfl⟩
  have hin:loopO (Ed b 2) (p,[],0)=some (.inr (q2,[s1,s2])):=(Bj hin1).trans ((Bj (s':=(q2,[s1,s2],2)) (by simp only [Ed,if_pos (show (1:Int)<2 by decide),u1,Option.bind_some,if_true,a2,z2])).trans (Al (by simp only [Ed,if_neg (show ¬(2:Int)<2 by decide)])))
  have w5:IntKind.u64.wrap ((ps.length:Int)+1)=((ps.length+1:Nat):Int):=by rw [Eg];omega
  have hp1:Ey b 2 (v,p0,0) (p,ps,(ps.length:Int))=some (.inl (q2,ps++[⟨s1,s2⟩],(((ps++[(⟨s1,s2⟩:Pair)]).length:Nat):Int))):=by
   simp only [Ey];rw [if_pos (by omega),hin]
   simp only [Option.bind_some,f141,List.getElem?_cons_zero,List.getElem?_cons_succ,appO?_some.2 (⟨by simp;omega,rfl⟩:_∧ps++[(⟨s1,s2⟩:Pair)]=ps++[⟨s1,s2⟩]),w5,List.length_append,List.length_cons,List.length_nil,Nat.zero_add]
  have hr2:Hq b 2 (v,p0,0) (q1,Wv ps++[s1],((2*ps.length+1:Nat):Int))=some (.inl (q2,Wv (ps++[⟨s1,s2⟩]),((2*(ps++[(⟨s1,s2⟩:Pair)]).length:Nat):Int))):=by
   simp only [Hq,w1,w2];rw [if_pos (by omega)]
   simp only [u2,Option.bind_some,if_true,appO?_some.2 (⟨by simp;omega,rfl⟩:_∧(Wv ps++[s1])++[s2]=(Wv ps++[s1])++[s2]),w4,unp_app,List.length_append,List.length_cons,List.length_nil,Nat.zero_add]
  obtain ⟨R,R',r1,r2,r3⟩:=pairs_loop hb hl h0 hv j q2 (ps++[⟨s1,s2⟩]) (by simp;omega) (by simp;omega) (by omega) (fun x hx=>by
   rcases List.mem_append.1 hx with hx|hx
   ·exact h3 x hx
   ·simp at hx;subst hx;exact ⟨k1,k2⟩)
  exact ⟨R,R',(Bj hp1).trans r1,(Bj hr1).trans ((Bj hr2).trans r2),r3⟩
theorem pairs_eq {b:List Int} (hb:Byt b) (hl:b.length≤1000000):∃r,f120 b 0=some r∧f64 b 0=some r∧r.1.length≤b.length∧Sz b r.1∧(r.2.2≠0→r.1=[]):=by
 obtain ⟨⟨v,p,e⟩,h1,h2,h3⟩:=uv_eq hb hl 0
 have nl:loopO (Mz (([]:List ByteArray),0,e)) ([],0)=some []:=Yb (ps:=[]) (q:=(0,e)) (by simp)
 have nl9:loopO (Mz (([]:List ByteArray),0,9)) ([],0)=some []:=Yb (ps:=[]) (q:=(0,9)) (by simp)
 rcases h3 with ⟨q1,q2,q3,q4,q5,q6⟩|⟨q1,q2,q3⟩
 ·simp only at q1 q2 q3 q4 q5 q6
  subst q1
  by_cases c1:65536<v
  ·refine ⟨([],0,9),?_,?_,by simp,(fun x hx=>by cases hx),fun _=>rfl⟩
   ·simp only [f120,Mb,h1,Option.bind_some,if_true,if_pos c1,Ez,if_neg (show ¬(9:Int)=0 by decide)]
   ·simp only [f64,f101,h2,Option.bind_some,if_true,if_pos c1,nl9]
  ·obtain ⟨R,R',r1,r2,r3⟩:=pairs_loop hb hl (p0:=p) q2 (by omega) v.toNat p [] (by simp;omega) (by simp;omega) q6 (fun x hx=>by cases hx)
   have r1':loopO (Ey b 2 (v,p,0)) (p,[],0)=some R:=r1
   have r2':loopO (Hq b 2 (v,p,0)) (p,[],0)=some R':=r2
   rcases r3 with ⟨e,he,rfl,rfl⟩|⟨p',ps',rfl,rfl,g1,g2,g3⟩
   ·have nl':loopO (Mz (([]:List ByteArray),0,e)) ([],0)=some []:=Yb (ps:=[]) (q:=(0,e)) (by simp)
    refine ⟨([],0,e),?_,?_,by simp,(fun x hx=>by cases hx),fun _=>rfl⟩
    ·simp only [f120,Mb,h1,Option.bind_some,if_true,if_neg c1,Ez,r1']
    ·simp only [f64,f101,h2,Option.bind_some,if_true,if_neg c1,r2',nl']
   ·have pu:=Yb (ps:=ps') (q:=(p',0)) (by omega)
    refine ⟨(ps',p',0),?_,?_,by simp only;omega,g3,fun h=>absurd rfl h⟩
    ·simp only [f120,Mb,h1,Option.bind_some,if_true,if_neg c1,Ez,r1']
    ·simp only [f64,f101,h2,Option.bind_some,if_true,if_neg c1,r2',pu]
 ·simp only at q1 q2 q3
  subst q2 q3
  refine ⟨([],0,e),?_,?_,by simp,(fun x hx=>by cases hx),fun _=>rfl⟩
  ·simp only [f120,Mb,h1,Option.bind_some,if_neg q1,Ez]
  ·simp only [f64,f101,h2,Option.bind_some,if_neg q1,nl]
def adjK (k:Nat→Option ByteArray) (i:Nat):Bool:=match k (i-1),k i with
  | some x,some y=>Pv x y
  | _,_=>false
def kP (l:List Pair) (i:Nat):Option ByteArray:=l[i]?.map (·.Key)
def kR (l:List Res) (i:Nat):Option ByteArray:=l[i]?.map (·.Key)
theorem adjP_at {l:List Pair} {i:Nat} (h0:0<i) (h:i<l.length):adjK (kP l) i=Pv (l[i-1]'(by omega)).Key l[i].Key:=by
  simp [adjK,kP,List.getElem?_eq_getElem h,List.getElem?_eq_getElem (show i-1<l.length by omega)]
theorem adjR_at {l:List Res} {i:Nat} (h0:0<i) (h:i<l.length):adjK (kR l) i=Pv (l[i-1]'(by omega)).Key l[i].Key:=by
  simp [adjK,kR,List.getElem?_eq_getElem h,List.getElem?_eq_getElem (show i-1<l.length by omega)]
def Asc (k:Nat→Option ByteArray) (n:Nat):Prop:=∀i,1≤i→i<n→adjK k i=true
theorem f65_scan (l:List Pair) (hl:l.length≤1000000) (hz:∀p∈l,p.Key.size≤1000000):∃v:Bool,f65 l=some v∧(v=true↔Asc (kP l) l.length):=by
  obtain ⟨w,h1,h2⟩:=scanB (step:=Sq l) (g:=fun y19=>match y19 with|.inl y20=>some y20|.inr _=>some true) l.length (adjK (kP l)) 1 rfl (fun i hi=>by
    by_cases h:i<l.length
    · rw [if_pos h,Sq,if_pos (by omega),Pf (by omega) (by omega),Ch (by omega),Ep (by omega:i-1<l.length),Ep h]
      simp only [Option.bind_some,less (show (l[i-1]'(by omega)).Key.size≤4000000000 by have:=hz _ (List.getElem_mem (show i-1<l.length by omega));omega),adjP_at (show 0<i by omega) h]
    · rw [if_neg h,Sq,if_neg (by omega)]) (v:=true) (fun _=>rfl)
  exact ⟨w,h1,by rw [h2];simp [Asc]⟩
theorem cmpS_gt {a b:ByteArray} (h:Pv a b=true):cmpS b a=1:=by
  rw [cmpS_eq,if_neg (by rw [sLt_asym h];decide),if_neg]
  intro e;subst e;rw [sLt_self] at h;cases h
theorem order_up {x y:Pair} (h:Pv x.Key y.Key=true):f143 y x=some 1:=by
  simp only [f143,f76,cmpS_gt h,Option.bind_some]
  have:loopO (Yj [1,cmpS y.Val x.Val]) 0=some (.inl 1):=Al (by simp [Yj,ix])
  simp only [f163,this,Option.bind_some]
theorem isSorted {l:List Pair} (hl:l.length≤1000000) (h:Asc (kP l) l.length):Nq l=some true:=by
  have key:∀(m:Nat) (i:Int),i≤m→i<l.length→loopO (Iu l) i=some (.inr ()):=by
    intro m
    induction m with
    | zero=>intro i hi hl';exact Al (by rw [Iu,if_neg (by omega)])
    | succ m ih =>
      intro i hi hl'
      by_cases h0:0<i
      · obtain ⟨n,rfl⟩:=Int.eq_ofNat_of_zero_le (by omega:0≤i)
        have hs:=h n (by omega) (by omega)
        rw [adjP_at (by omega) (by omega)] at hs
        refine (Bj (s':=((n-1:Nat):Int)) ?_).trans (ih _ (by omega) (by omega))
        rw [Iu,if_pos h0,Pf (by omega) (by omega),Ep (by omega:n<l.length),Ep (by omega:n-1<l.length)]
        simp only [Option.bind_some,order_up hs]
        rfl
      · exact Al (by rw [Iu,if_neg h0])
  unfold Nq
  have w:IntKind.i64.wrap ((l.length:Int)-1)=(l.length:Int)-1:=Bf (by omega) (by omega)
  rw [w,key l.length _ (by omega) (by omega)]
  rfl
theorem sorted_eq (l:List Pair) (hl:l.length≤1000000) (hz:∀p∈l,p.Key.size≤1000000):∃v:Bool,f121 l=some v∧f65 l=some v∧(v=true↔Asc (kP l) l.length):=by
  obtain ⟨v,h1,h2⟩:=f65_scan l hl hz
  obtain ⟨w,h3,h4⟩:=scanB (step:=Ub l) (g:=fun y18=>match y18 with|.inl y19=>some y19|.inr _=>((Nq l).bind fun x20=>some x20)) l.length (fun i=>i == 0 || adjK (kP l) i) 0 rfl (fun i hi=>by
    by_cases h:i<l.length
    · rw [if_pos h,Ub,if_pos (by omega),Ch (by omega)]
      by_cases h0:i=0
      · subst h0;rw [if_neg (by simp)];simp
      · rw [if_pos (by omega),Pf (by omega) (by omega),Ep (by omega:i-1<l.length),Ep h]
        simp only [Option.bind_some,adjP_at (show 0<i by omega) h]
        have:(i == 0)=false:=by simpa using h0
        rw [this,Bool.false_or]
    · rw [if_neg h,Ub,if_neg (by omega)]) (v:=true) (fun h=>by
      rw [isSorted hl (fun i h1 h2 => by have := h i (by omega) h2; have e : (i == 0) = false := by simp; omega
                                         rwa [e,Bool.false_or] at this)];rfl)
  have e:v=w:=by
    rw [Bool.eq_iff_iff,h2,h4]
    constructor
    · intro h;refine ⟨fun i _ hi=>?_,rfl⟩
      by_cases h0:i=0
      · simp [h0]
      · rw [h i (by omega) hi];simp
    · rintro ⟨h,_⟩ i h1 hi
      have:=h i (by omega) hi
      have e:(i == 0)=false:=by simp;omega
      rwa [e,Bool.false_or] at this
  subst e
  exact ⟨v,h3,h1,h2⟩
def Lv (l:List Int) (i:Nat):Bool:=decide (0≤l.getD i 0∧l.getD i 0≤1048576∧(0<i→l.getD (i-1) 0<l.getD i 0))
def Dg (l:List Int):Prop:=l.length≤65536∧∀i,i<l.length→Lv l i=true
theorem ixD {l:List Int} {i:Nat} (h:i<l.length):ix l (i:Int)=some (l.getD i 0):=by rw [Ep h];simp [List.getD,h]
theorem f58_step (l:List Int) (hl:l.length≤1000000) (i:Nat):Vt l (i:Int)=if i<l.length then (if Lv l i=true then some (.inl (((i+1:Nat):Int))) else some (.inr (.inl false))) else some (.inr (.inr ())):=by
  by_cases h:i<l.length
  · rw [if_pos h,Vt,if_pos (by omega),ixD h]
    simp only [Option.bind_some,Ch (show i≤10000000000 by omega)]
    by_cases h1:l.getD i 0<0
    · rw [if_pos h1,if_neg (by simp only [Lv,decide_eq_true_eq];omega)]
    · rw [if_neg h1]
      by_cases h2:1048576<l.getD i 0
      · rw [if_pos h2,if_neg (by simp only [Lv,decide_eq_true_eq];omega)]
      · rw [if_neg h2]
        by_cases h0:0<i
        · rw [if_pos (by omega),Pf h0 (by omega),ixD (show i-1<l.length by omega)]
          simp only [Option.bind_some]
          by_cases h3:l.getD i 0≤l.getD (i-1) 0
          · rw [if_pos h3,if_neg (by simp only [Lv,decide_eq_true_eq];omega)]
          · rw [if_neg h3,if_pos (by simp only [Lv,decide_eq_true_eq];omega)]
        · rw [if_neg (by omega),if_pos (by simp only [Lv,decide_eq_true_eq];omega)]
  · rw [if_neg h,Vt,if_neg (by omega)]
theorem nums_eq (l:List Int) (hl:l.length≤1000000):∃v:Bool,f58 l=some v∧f68 l=some v∧(v=true↔Dg l):=by
  obtain ⟨w,h1,h2⟩:=scanB (step:=Vt l) (g:=fun y27=>match y27 with|.inl y28=>some y28|.inr _=>some true) l.length (Lv l) 0 rfl (fun i _=>f58_step l hl i) (v:=true) (fun _=>rfl)
  obtain ⟨v,h3,h4⟩:=scanB (step:=f68_s1 l) (g:=fun y22=>match y22 with|.inl y23=>some y23|.inr _=>some (decide ((l.length:Int)≤65536))) l.length (Lv l) 0 rfl (fun i _=>f58_step l hl i) (v:=decide ((l.length:Int)≤65536)) (fun _=>rfl)
  have hv:v=true↔Dg l:=by
    rw [h4,decide_eq_true_eq]
    exact ⟨fun ⟨a,b⟩=>⟨by omega,fun i hi=>a i (by omega) hi⟩,fun ⟨a,b⟩=>⟨fun i _ hi=>b i hi,by omega⟩⟩
  refine ⟨v,?_,h3,hv⟩
  unfold f58
  by_cases h:65536<(l.length:Int)
  · rw [if_pos h]
    cases v with
    | false=>rfl
    | true=>have:=(hv.1 rfl).1;omega
  · rw [if_neg h]
    refine h1.trans (congrArg some ?_)
    rw [Bool.eq_iff_iff,h2,h4]
    simp;omega
def resOk (l:List Res) (i:Nat):Prop:=∀r,l[i]?=some r→r.Offs≠[]∧Dg r.Offs
def Wu (l:List Res):Prop:=(∀r∈l,r.Offs≠[]∧Dg r.Offs)∧Asc (kR l) l.length
open Classical in
def resB (l:List Res) (i:Nat):Bool:=match l[i]? with
  | some r=>decide (r.Offs≠[]∧Dg r.Offs)
  | none=>false
theorem Mg {l:List Res} {i:Nat} (h:i<l.length):resB l i=true↔l[i].Offs≠[]∧Dg l[i].Offs:=by
  classical
  simp [resB,List.getElem?_eq_getElem h]
structure SzB (n:Nat) (l:List Res):Prop where
  len:l.length≤1000000
  key:∀r∈l,r.Key.size≤n
  off:∀r∈l,r.Offs.length≤1000000
abbrev SzR:=SzB 1000000
theorem SzB.le {m n:Nat} {l:List Res} (h:SzB m l) (hn:m≤n):SzB n l:=⟨h.len,fun r hr=>Nat.le_trans (h.key r hr) hn,h.off⟩
theorem rises_eq (l:List Res) (h:SzR l):∃v:Bool,f59_60 l=some v∧(v=true↔Asc (kR l) l.length):=by
  obtain ⟨w,h3,h4⟩:=scanB (step:=Np l) (g:=fun y22=>match y22 with|.inl y23=>some y23|.inr _=>some true) l.length (fun i=>i == 0 || adjK (kR l) i) 0 rfl (fun i hi=>by
    have hl:=h.len
    by_cases h:i<l.length
    · rw [if_pos h,Np,if_pos (by omega),Ch (by omega)]
      by_cases h0:i=0
      · subst h0;rw [if_neg (by simp)];simp
      · rw [if_pos (by omega),Pf (by omega) (by omega),Ep (by omega:i-1<l.length),Ep h]
        simp only [Option.bind_some,f60,adjR_at (show 0<i by omega) h]
        have:(i == 0)=false:=by simpa using h0
        rw [this,Bool.false_or]
    · rw [if_neg h,Np,if_neg (by omega)]) (v:=true) (fun _=>rfl)
  refine ⟨w,h3,?_⟩
  rw [h4]
  constructor
  · rintro ⟨h,_⟩ i h1 hi
    have:=h i (by omega) hi
    have e:(i == 0)=false:=by simp;omega
    rwa [e,Bool.false_or] at this
  · intro h;refine ⟨fun i _ hi=>?_,rfl⟩
    by_cases h0:i=0
    · simp [h0]
    · rw [h i (by omega) hi];simp
theorem right_eq (l:List Res) (h:SzR l):∃v:Bool,f32 l=some v∧f38 l=some v∧(v=true↔Wu l):=by
  have hl:=h.len
  obtain ⟨u,u1,u2⟩:=rises_eq l h
  have num:∀(i:Nat) (hi:i<l.length),∃v:Bool,f58 l[i].Offs=some v∧f68 l[i].Offs=some v∧(v=true↔Dg l[i].Offs):=fun i hi=>nums_eq _ (h.off _ (List.getElem_mem hi))
  obtain ⟨w,h1,h2⟩:=scanB (step:=f32_s1 l) (g:=fun y22=>match y22 with|.inl y23=>some y23|.inr _=>((f59_60 l).bind fun x24=>some x24)) l.length (resB l) 0 rfl (fun i hi=>by
    by_cases h:i<l.length
    · rw [if_pos h,f32_s1,if_pos (by omega),Ep h]
      obtain ⟨v,v1,v2,v3⟩:=num i h
      simp only [Option.bind_some,v1,Ch (show i≤10000000000 by omega)]
      by_cases e:(l[i].Offs.length:Int)=0
      · rw [if_pos e,if_neg (by rw [Mg h];intro q;exact q.1 (List.eq_nil_of_length_eq_zero (by omega)))]
      · rw [if_neg e]
        have ne:l[i].Offs≠[]:=fun q=>e (by rw [q];rfl)
        by_cases hv:v=true
        · rw [if_pos hv,if_pos ((Mg h).2 ⟨ne,v3.1 hv⟩)]
        · rw [if_neg hv,if_neg (fun q=>hv (v3.2 ((Mg h).1 q).2))]
    · rw [if_neg h,f32_s1,if_neg (by omega)]) (v:=u) (fun _=>by simp only [u1,Option.bind_some])
  obtain ⟨w',h3,h4⟩:=scanB (step:=St l) (g:=fun y27=>match y27 with|.inl y28=>some y28|.inr _=>some true) l.length (fun i=>resB l i && (i == 0 || adjK (kR l) i)) 0 rfl (fun i hi=>by
    by_cases h':i<l.length
    · rw [if_pos h',St,if_pos (by omega),Ep h']
      obtain ⟨v,v1,v2,v3⟩:=num i h'
      simp only [Option.bind_some,v2,Ch (show i≤10000000000 by omega),Bool.and_eq_true]
      by_cases e:(l[i].Offs.length:Int)=0
      · rw [if_pos e,if_neg (by rw [Mg h'];intro q;exact q.1.1 (List.eq_nil_of_length_eq_zero (by omega)))]
      · rw [if_neg e]
        have ne:l[i].Offs≠[]:=fun q=>e (by rw [q];rfl)
        by_cases hv:v=true
        · rw [if_pos hv]
          have ok:=(Mg h').2 ⟨ne,v3.1 hv⟩
          by_cases h0:i=0
          · subst h0;rw [if_neg (by simp),if_pos ⟨ok,by simp⟩]
          · rw [if_pos (by omega),Pf (by omega) (by omega),Ep (by omega:i-1<l.length)]
            have e0:(i == 0)=false:=by simpa using h0
            simp only [Option.bind_some,less (show (l[i-1]'(by omega)).Key.size≤4000000000 by have:=h.key _ (List.getElem_mem (show i-1<l.length by omega));omega),e0,Bool.false_or,adjR_at (show 0<i by omega) h',ok,true_and]
        · rw [if_neg hv,if_neg (fun q=>hv (v3.2 ((Mg h').1 q.1).2))]
    · rw [if_neg h',St,if_neg (by omega)]) (v:=true) (fun _=>rfl)
  have hw:w=true↔Wu l:=by
    rw [h2,u2]
    constructor
    · rintro ⟨a,b⟩
      refine ⟨fun r hr=>?_,b⟩
      obtain ⟨i,hi,rfl⟩:=List.getElem_of_mem hr
      exact (Mg hi).1 (a i (by omega) hi)
    · rintro ⟨a,b⟩
      exact ⟨fun i _ hi=>(Mg hi).2 (a _ (List.getElem_mem hi)),b⟩
  refine ⟨w,h1,?_,hw⟩
  refine h3.trans (congrArg some ?_)
  rw [Bool.eq_iff_iff,h4,h2,u2]
  simp only [Bool.and_eq_true]
  constructor
  · rintro ⟨a,_⟩
    refine ⟨fun i h0 hi=>(a i h0 hi).1,fun i h1 hi=>?_⟩
    have:=(a i (by omega) hi).2
    have e:(i == 0)=false:=by simp;omega
    rwa [e,Bool.false_or] at this
  · rintro ⟨a,b⟩
    refine ⟨fun i h0 hi=>⟨a i h0 hi,?_⟩,trivial⟩
    by_cases e:i=0
    · simp [e]
    · rw [b i (by omega) hi];simp
end Au
end Go.Proofs.Yt
namespace Go.Proofs.Yt
open Go.Gm Go.Proofs
namespace Au
theorem relL_u8 {E:Env}:∀{l:List Int} {vs:List Value},RelL E (l.map Aw).flatten vs→vs=l.map (Value.int .u8)
  | [],vs,h=>by cases h;rfl
  | a::l,vs,h=>by
    simp only [List.map_cons,List.flatten_cons,Aw,List.cons_append,List.nil_append] at h
    cases h with
    | cons h1 hs=>cases h1;rw [List.map_cons,relL_u8 hs]
def f125 (a0:List Int) (a1:Int):Option Int:=if 0<a0.length then some (Lib.indexByte (Lib.bytesOf a0) a1.toNat.toUInt8) else none
theorem ok125 (a0:List Int) (a1 r:Int) (h:f125 a0 a1=some r):PC Tryz.prog 125 [.sl (List.map Aw a0),.val (.int .u8 a1)] (.val (.int .i64 r)):=by
  unfold f125 at h
  split at h
  rotate_left
  · cases h
  rename_i hl
  obtain rfl:=Option.some.inj h
  refine pc_read (u:=.sl (List.map Aw a0)) (us:=[.int .u8 a1]) (fun m w x ht hx=>?_) (by simp only [Vb])
  generalize hrows:List.map Aw a0=rows at hx
  cases hx with
  | sl0=>cases a0 with
    | nil=>simp at hl
    | cons a l=>cases hrows
  | sl hb hm hr hsz h0 hcap h1 hc hrel =>
    rename_i b o Cc sz vs
    subst hrows
    have e:=relL_u8 hrel
    subst e
    have hlen:(List.map Aw a0).length=a0.length:=by simp
    rw [hlen]
    refine (Tryz.bytes_IndexByte b o a0.length Cc a0 a1 w rfl (fun i hi=>?_)).mono ?_
    · refine hc i _ ?_
      simp [List.getD,hi]
    · rintro e w' ⟨rfl,rfl⟩
      exact ⟨rfl,Nat.le_refl _,fun _ _=>rfl,rfl,rfl,rfl⟩
end Au
end Go.Proofs.Yt
namespace Go.Gm
theorem Lj {N nx sz:Nat} {mu:Bool} {fr:Nat→AV} {hp:Am} {pre post:List AV} {R1 R2:List (List AV)} {x:AV} {q off len:Nat} (t:Nat) (h:hp t=some (.row sz mu (R1++(pre++.own q off len::post)::R2))) (hx:Fj hp (.own q off len)=some x) (hne:t≠q) :
  Ent N ⟨fr,hp,nx⟩ ⟨fr,Ag (Ag hp q none) t (some (.row sz mu (R1++(pre++x::post)::R2))),nx⟩:=fun P G a w hc=>by
 obtain ⟨c1,c2,loc,hM,hr⟩:=conc_iff.1 hc
 clear hc
 let hp':Am:=Ag (Ag hp q none) t (some (.row sz mu (R1++(pre++x::post)::R2)))
 let loc':=Ag loc q none
 have hother:∀t',t'≠t→t'≠q→hp' t'=hp t':=fun t' h1 h2=>by simp only [hp',An _ _ h1,An _ _ h2]
 have hq:hp' q=none:=by simp only [hp',An _ _ (Ne.symm hne),Ba]
 have ht:hp' t=some (.row sz mu (R1++(pre++x::post)::R2)):=by simp only [hp',Ba]
 have hmt:∀b,Cs hp' loc' b→Cs hp loc b:=by
  rintro b ⟨t',o',l',h1,h2,h3,h4,h5⟩
  by_cases e2:t'=q
  ·subst e2;rw [hq] at h1;cases h1
  ·have h3':loc t'=some l':=by simpa only [loc',An _ _ e2] using h3
   by_cases e:t'=t
   ·subst e;rw [ht] at h1;cases h1;exact ⟨t',_,l',h,h2,h3',h4,h5⟩
   ·rw [hother t' e e2] at h1;exact ⟨t',o',l',h1,h2,h3',h4,h5⟩
 have xx:Ext (Bv G.m1 hp (fun t=>t<nx) loc w) (Bv G.m1 hp' (fun t=>t<nx) loc' w):=Fh (fun _ h=>h) (fun t' l ha hl=>by
  by_cases e:t'=q
  ·subst e;simp only [loc',Ba] at hl;cases hl
  ·simpa only [loc',An _ _ e] using hl) (Nat.le_refl _) (fun b _=>hmt b) (fun _ _ _=>rfl)
 have hin:inl x=true:=by
  simp only [Fj] at hx
  split at hx
  ·split at hx
   ·rename_i hc;cases hx;simp [inl,hc.2]
   ·cases hx
  ·cases hx
 have hval:∀v,Rel (Bv G.m1 hp (fun t=>t<nx) loc w) (.own q off len) v→Rel (Bv G.m1 hp' (fun t=>t<nx) loc' w) x v:=fun v hv=>by
  have hb:=Ny (G:=G) hM (m:=fun b=>G.m1 b∨Cs hp' loc' b) (fun b hb=>hb.imp id (hmt b)) hv hx (fun t1 o1 n1 l he hl hlt=>by
   cases he
   rintro (hb|⟨t',o',l',k1,k2,k3,k4,k5⟩)
   ·exact hM.fgn q l hl hlt hb
   ·by_cases e:t'=q
    ·subst e;rw [hq] at k1;cases k1
    ·have k3':loc t'=some l':=by simpa only [loc',An _ _ e] using k3
     exact e (hM.inj _ _ _ _ k3' hl k5 hlt k4))
  have mv:Move (E0 (fun b=>G.m1 b∨Cs hp' loc' b) w) (Bv G.m1 hp' (fun t=>t<nx) loc' w) :=
   ⟨Nat.le_refl _,fun b _ hn=>⟨fun hm=>hn (Or.inr (hm.elim Or.inr Or.inl)),rfl⟩⟩
  exact Rel.move mv hin hb
 refine conc_iff.2 ⟨c1,c2,loc',hM.change xx (fun t' o' ho=>?_) (fun t' ho=>?_) (fun t' l hl=>?_) (fun t1 t2 l1 l2 k1 k2=>?_) rfl rfl rfl (fun b hb=>.inl (hmt b hb)) (fun t' l k1 k2=>?_),fun d=>(hr d).ext xx⟩
 ·by_cases e2:t'=q
  ·subst e2;exact absurd ho (by rw [show Ag (Ag hp t' none) t (some (.row sz mu (R1++(pre++x::post)::R2))) t'=none from hq];simp)
  ·by_cases e:t'=t
   ·subst e
    have ho':o'=.row sz mu (R1++(pre++x::post)::R2):=by
     have:hp' t'=some o':=ho
     rw [ht] at this;cases this;rfl
    subst ho'
    obtain ⟨l,hl',g1,g2,g3,g4,g5,g6⟩:=hM.obj t' _ h
    refine .inr ⟨l,by simpa only [loc',An _ _ e2] using hl',g1,g2,fun r hr=>?_,by simpa using g4,g5,fun hpos=>?_⟩
    ·have:=g3 (pre++.own q off len::post) (by simp)
     rcases List.mem_append.1 hr with hr|hr
     ·exact g3 r (List.mem_append_left _ hr)
     ·rcases List.mem_cons.1 hr with rfl|hr
      ·simpa using this
      ·exact g3 r (List.mem_append_right _ (List.mem_cons_of_mem _ hr))
    ·obtain ⟨c,e,fz,vs,k1,k2,k3,k4,k5,k6⟩:=g6 hpos
     refine ⟨c,e,fz,vs,k1,k2,?_,k4,k5,k6⟩
     simp only [List.flatten_append,List.flatten_cons] at k3 ⊢
     obtain ⟨v0,v3,rfl,hv0,hv3⟩:=k3.split
     obtain ⟨v4,v5,rfl,hv4,hv5⟩:=hv3.split
     obtain ⟨v1,v2,rfl,hv1,hv2⟩:=hv4.split
     cases hv2 with
     | cons ho hs=>exact (hv0.ext xx).append (((hv1.ext xx).append (.cons (hval _ ho) (hs.ext xx))).append (hv5.ext xx))
   ·exact .inl ⟨(hother t' e e2).symm.trans ho,by simp only [loc',An _ _ e2],fun _ _ _=>rfl⟩
 ·by_cases e2:t'=q
  ·subst e2;simp only [loc',Ba]
  ·simp only [loc',An _ _ e2]
   by_cases e:t'=t
   ·subst e;have:hp' t'=none:=ho;rw [ht] at this;cases this
   ·exact hM.none_ t' ((hother t' e e2).symm.trans ho)
 ·by_cases e2:t'=q
  ·subst e2;simp only [loc',Ba] at hl;cases hl
  ·exact hM.al_ t' l (by simpa only [loc',An _ _ e2] using hl)
 ·have g:∀t l,loc' t=some l→loc t=some l:=fun t l hl=>by
   by_cases e2:t=q
   ·subst e2;simp only [loc',Ba] at hl;cases hl
   ·simpa only [loc',An _ _ e2] using hl
  exact hM.inj _ _ _ _ (g _ _ k1) (g _ _ k2)
 ·by_cases e2:t'=q
  ·subst e2;simp only [loc',Ba] at k1;cases k1
  ·exact .inl ⟨t',l,by simpa only [loc',An _ _ e2] using k1,k2,rfl⟩
end Go.Gm
namespace Go.Gm
section
variable {P:Program} {ft:FuncId→List AV→Option AV} {N:Nat} {ops:List Oper} {base:Nat}
structure LeftT (A:List (List Nat)) (ord:List Nat) (ops:List Oper) (last:Nat) (listed:Array Bool) (L:List Ev):Prop where
 size:listed.size=ops.length
 left:∀i,i<ops.length→i≠last→listed.getD i true=false→∃e∈L,e.i=i
 un:∀e∈L,e.i<ops.length∧e.i≠last∧listed.getD e.i true=false∧ops[e.i]?=some e.o
 lastUn:listed.getD last true=false
 sorted:L.Pairwise fun e1 e2=>ord.idxOf e1.i<ord.idxOf e2.i
 pairs:L.Pairwise fun e1 e2=>e1.i∈A.getD e2.i []∨Indep ops e1 e2
 closed:∀i,listed.getD i false=true→∀k∈A.getD i [],listed.getD k false=true
end
end Go.Gm
namespace Go.Gm
structure ExtW (E E':Env):Prop where
  al:∀t,E.al t→E'.al t
  loc:∀t l,E.al t→E'.loc t=some l→E.loc t=some l
  size:E.w.heap.size≤E'.w.heap.size
  keep:∀b,b<E.w.heap.size→¬E.mt b→¬E'.mt b∧E'.w.heap[b]?=E.w.heap[b]?
mutual
theorem Rel.extW {E E':Env} (x:ExtW E E'):∀{u:AV} {v:Value},Rel E u v→Rel E' u v
  | _,_,.any v=>.any v
  | _,_,.val v=>.val v
  | _,_,.agg h=>.agg (RelL.extW x h)
  | _,_,.tup h=>.tup (RelL.extW x h)
  | _,_,.sl0 a c=>.sl0 a c
  | _,_,.sl hb hm hr hsz h0 hcap h1 hc hl =>
    .sl (Nat.lt_of_lt_of_le hb x.size) (x.keep _ hb hm).1 hr hsz h0 hcap h1 (fun k v hk=>(Gi (x.keep _ hb hm).2).trans (hc k v hk)) (RelL.extW x hl)
  | _,_,.own ha h=>.own (x.al _ ha) fun l hl=>h l (x.loc _ l ha hl)
  | _,_,.ptr ha h=>.ptr (x.al _ ha) fun l hl=>h l (x.loc _ l ha hl)
  | _,_,.ip hb hm h1 hc hl =>
    .ip (Nat.lt_of_lt_of_le hb x.size) (x.keep _ hb hm).1 h1 (fun k v hk=>(Gi (x.keep _ hb hm).2).trans (hc k v hk)) (RelL.extW x hl)
  | _,_,.clo hf hc=>.clo (RelL.extW x hf) (RelL.extW x hc)
  | _,_,.ifc h=>.ifc (Rel.extW x h)
  | _,_,.mp ha h=>.mp (x.al _ ha) fun l hl=>h l (x.loc _ l ha hl)
  | _,_,.im hb hm h he hx hl=>.im (Nat.lt_of_lt_of_le hb x.size) (x.keep _ hb hm).1 ((x.keep _ hb hm).2.trans h) he hx (RelL.extW x hl)
  | _,_,.im0=>.im0
theorem RelL.extW {E E':Env} (x:ExtW E E'):∀{us:List AV} {vs:List Value},RelL E us vs→RelL E' us vs
  | _,_,.nil=>.nil
  | _,_,.cons h hs=>.cons (Rel.extW x h) (RelL.extW x hs)
end
theorem ObjAt.extW {E E':Env} (x:ExtW E E') {l:Loc} (hb:l.st<l.n→E'.w.heap[l.b]?=E.w.heap[l.b]?):∀{o:AObj},ObjAt E l o→ObjAt E' l o
  | .row sz m rows,⟨h1,h2,h3,h6,h11,h⟩=>⟨h1,h2,h3,h6,h11,fun hlt=>by
    obtain ⟨c,e,fz,vs,h4,h5,h7,h8,h9,h10⟩:=h hlt
    exact ⟨c,e,fz,vs,(hb hlt).trans h4,h5,h7.extW x,h8,h9,h10⟩⟩
  | .mapo ..,⟨h0,ens,clock,xs,h1,h2,h3,h4⟩=>⟨h0,ens,clock,xs,(hb h0).trans h1,h2,h3,h4.extW x⟩
end Go.Gm
namespace Go.Gm
mutual
theorem Yc:∀u:AV,Bh (fun t=>t) u=u
  | .own ..=>by simp only [Bh]
  | .ptr ..=>by simp only [Bh]
  | .mp ..=>by simp only [Bh]
  | .agg cs=>by simp only [Bh,Nk cs]
  | .tup cs=>by simp only [Bh,Nk cs]
  | .clo fn f c=>by simp only [Bh,Nk f,Nk c]
  | .ifc ty u=>by simp only [Bh,Yc u]
  | .val _=>by simp only [Bh]
  | .sl _=>by simp only [Bh]
  | .fr _ _=>by simp only [Bh]
  | .ip _=>by simp only [Bh]
  | .any=>by simp only [Bh]
  | .im ..=>by simp only [Bh]
theorem Nk:∀us:List AV,Bb (fun t=>t) us=us
  | []=>by simp only [Bb]
  | u::us=>by simp only [Bb,Yc u,Nk us]
end
structure MemB (P:Program) (m1:Nat→Prop) (hp:Am) (al:Nat→Prop) (loc:Nat→Option Loc) (w:World):Prop where
  obj:∀t o,hp t=some o→∃l,loc t=some l∧ObjAt (Bv m1 hp al loc w) l o
  none_:∀t,hp t=none→loc t=none
  al_:∀t l,loc t=some l→al t
  inj:∀t t' l l',loc t=some l→loc t'=some l'→l.st<l.n→l'.st<l'.n→l.b=l'.b→t=t'
  fgn:∀t l,loc t=some l→l.st<l.n→¬m1 l.b
  m1lt:∀b,m1 b→b<w.heap.size
  tab:TabH P (Cs hp loc) w
structure Hist {P:Program} (G:Ghost P) (hp:Am) (al:Nat→Prop) (loc:Nat→Option Loc) (w:World):Prop where
  os:w.os=G.w0.os
  tape:w.tape=G.w0.tape
  output:w.output=G.w0.output
  size:G.w0.heap.size≤w.heap.size
  keep:∀b,b<G.w0.heap.size→¬G.m0 b→w.heap[b]?=G.w0.heap[b]?
  muts:∀b,Cs hp loc b→b<G.w0.heap.size→G.m0 b
  aln:∀t,t<G.n0→al t
  idn:∀t l,t<G.n0→loc t=some l→G.l0 t=some l
section
variable {P:Program} {G:Ghost P} {m1 m2:Nat→Prop} {hp hp':Am} {al al':Nat→Prop} {loc loc':Nat→Option Loc} {w w':World}
theorem Mem.base (h:Mem G hp al loc w):MemB P G.m1 hp al loc w:=⟨h.obj,h.none_,h.al_,h.inj,h.fgn,fun b hb=>Nat.lt_of_lt_of_le (G.m1lt b hb) h.size,h.tab⟩
theorem Mem.hist (h:Mem G hp al loc w):Hist G hp al loc w:=⟨h.os,h.tape,h.output,h.size,h.keep,h.muts,h.aln,h.idn⟩
theorem MemB.with (h:MemB P G.m1 hp al loc w) (k:Hist G hp al loc w):Mem G hp al loc w :=
  ⟨h.obj,h.none_,h.al_,h.inj,k.os,k.tape,k.output,k.size,k.keep,k.muts,h.fgn,k.aln,k.idn⟩
def MemB.g (h:MemB P m1 hp al loc w):Ghost P:=⟨w,Cs hp loc,m1,h.m1lt,8,loc,Nat.le_refl _,h.tab⟩
theorem MemB.mem (h:MemB P m1 hp al loc w) (h8:∀t,t<8→al t):Mem h.g hp al loc w :=
  ⟨h.obj,h.none_,h.al_,h.inj,rfl,rfl,rfl,Nat.le_refl _,fun _ _ _=>rfl,fun b hb _=>hb,h.fgn,h8,fun t l _ hl=>hl⟩
theorem MemB.back (h:MemB P m1 hp al loc w) (h':Mem h.g hp' al' loc' w'):MemB P m1 hp' al' loc' w':=h'.base
theorem Hist.back (k:Hist G hp al loc w) (h:MemB P m1 hp al loc w) (h':Mem h.g hp' al' loc' w'):Hist G hp' al' loc' w' :=
  ⟨h'.os.trans k.os,h'.tape.trans k.tape,h'.output.trans k.output,Nat.le_trans k.size h'.size,
   fun b hb hn=>(h'.keep b (Nat.lt_of_lt_of_le hb k.size) fun hm=>hn (k.muts b hm hb)).trans (k.keep b hb hn),
   fun b hm hb=>k.muts b (h'.muts b hm (Nat.lt_of_lt_of_le hb k.size)) hb,
   fun t ht=>h'.aln t (Nat.lt_of_lt_of_le ht G.n8),fun t l ht hl=>k.idn t l ht (h'.idn t l (Nat.lt_of_lt_of_le ht G.n8) hl)⟩
theorem MemB.stable (h:MemB P m1 hp al loc w) (h':Mem h.g hp' al' loc' w') {u:AV} {v:Value} (ht:Bn 8 u=true) (hr:Rel (Bv m1 hp al loc w) u v):Rel (Bv m1 hp' al' loc' w') u v:=by
  have:=Ya (τ:=fun t=>t) (m:=8) (E:=Bv m1 hp al loc w) (E':=Bv m1 hp' al' loc' w')
    ⟨h'.size,fun b hb hn=>⟨fun hc=>hn (hc.elim (fun k=>.inl (h'.muts b k hb)) .inr),h'.keep b hb fun k=>hn (.inl k)⟩⟩ h'.aln (fun t l ht hl=>h'.idn t l ht hl) ht hr
  rwa [Yc] at this
theorem MemB.kept (h:MemB P m1 hp al loc w) (h':Mem h.g hp' al' loc' w') {b:Nat} (hb:m1 b):w'.heap[b]?=w.heap[b]? :=
  h'.keep b (h.m1lt b hb) fun ⟨t,o,l,h1,h2,h3,h4,h5⟩=>h.fgn t l h3 h5 (h4▸hb)
theorem MemB.to (h:MemB P m1 hp al loc w) (hsz:w.heap.size≤w'.heap.size) (hm:∀b,b<w.heap.size→m2 b→m1 b) (hm2:∀b,m2 b→b<w'.heap.size)
    (hk:∀b,b<w.heap.size→w'.heap[b]?=w.heap[b]?∨(m1 b∧∃o:Obj,w.heap[b]?=some o∧o.isCells=false)):MemB P m2 hp al loc w'∧ExtW (Bv m1 hp al loc w) (Bv m2 hp al loc w'):=by
  have hno:∀t l,loc t=some l→l.st<l.n→l.b<w.heap.size:=fun t l hl hlt=>by
    cases ho:hp t with
    | none=>rw [h.none_ t ho] at hl;cases hl
    | some o=>obtain ⟨l',hl',hob⟩:=h.obj t o ho;rw [hl] at hl';cases hl';exact hob.lt hlt
  have x:ExtW (Bv m1 hp al loc w) (Bv m2 hp al loc w'):=⟨fun _ h=>h,fun _ _ _ h=>h,hsz,fun b hb hn =>
    ⟨fun hc=>hn (hc.elim .inl fun k=>.inr (hm b hb k)),(hk b hb).elim id fun k=>absurd (.inr k.1) hn⟩⟩
  refine ⟨⟨fun t o ho=>?_,h.none_,h.al_,h.inj,fun t l hl hlt hc=>h.fgn t l hl hlt (hm _ (hno t l hl hlt) hc),hm2,fun g p hg=>?_⟩,x⟩
  · obtain ⟨l,hl,hob⟩:=h.obj t o ho
    exact ⟨l,hl,hob.extW x fun hlt=>(hk _ (hno t l hl hlt)).elim id fun k=>absurd k.1 (h.fgn t l hl hlt)⟩
  · obtain ⟨h1,h2,c,t,fz,h3,h4⟩:=h.tab g p hg
    refine ⟨Nat.lt_of_lt_of_le h1 hsz,h2,c,t,fz,?_,h4⟩
    rcases hk g h1 with k|⟨_,o,ho,hc⟩
    · exact k.trans h3
    · rw [h3] at ho;cases ho;cases hc
theorem Hist.to (k:Hist G hp al loc w) (hsz:w.heap.size≤w'.heap.size) (hk:∀b,b<G.w0.heap.size→w'.heap[b]?=w.heap[b]?) (h1:w'.os=w.os) (h2:w'.tape=w.tape) (h3:w'.output=w.output):Hist G hp al loc w' :=
  ⟨h1.trans k.os,h2.trans k.tape,h3.trans k.output,Nat.le_trans k.size hsz,fun b hb hn=>(hk b hb).trans (k.keep b hb hn),k.muts,k.aln,k.idn⟩
theorem MemB.put (h:MemB P m1 hp al loc w) {L:Nat} {o:Obj} (hL:m1 L) (hl:w.heap[L]?=some o) (ho:o.isCells=false) (o':Obj) :
    MemB P m1 hp al loc (w.putObj L o')∧ExtW (Bv m1 hp al loc w) (Bv m1 hp al loc (w.putObj L o')) :=
  h.to (by simp) (fun _ _ h=>h) (fun b hb=>by simpa using h.m1lt b hb) fun b hb=>by
    by_cases e:b=L
    · subst e;exact .inr ⟨hL,o,hl,ho⟩
    · exact .inl (World.putObj_heap_other e)
theorem Hist.put (k:Hist G hp al loc w) {L:Nat} (hL:G.w0.heap.size≤L) (o':Obj):Hist G hp al loc (w.putObj L o') :=
  k.to (by simp) (fun b hb=>World.putObj_heap_other (by omega)) rfl rfl rfl
end
theorem MemB.ren {P:Program} {G:Ghost P} {m1:Nat→Prop} {nx m:Nat} {hp hp':Am} {loc:Nat→Option Loc} {w:World} (hM:MemB P m1 hp (fun t=>t<nx) loc w) (hH:Hist G hp (fun t=>t<nx) loc w) (hn0:G.n0=0) (τ:Nat→Nat)
    (hinj:∀i j,i<m→j<m→hp' i≠none→hp' j≠none→τ i=τ j→i=j) (hhp:∀t,t<m→ORen τ m (hp (τ t)) (hp' t)) (hno:∀t,m≤t→hp' t=none) :
    ∃loc',MemB P m1 hp' (fun t=>t<m) loc' w∧Hist G hp' (fun t=>t<m) loc' w∧Ren τ m (Bv m1 hp (fun t=>t<nx) loc w) (Bv m1 hp' (fun t=>t<m) loc' w):=by
  classical
  let loc':Nat→Option Loc:=fun t=>if hp' t=none then none else loc (τ t)
  have hsome:∀t l,loc' t=some l→t<m∧loc (τ t)=some l∧hp' t≠none:=fun t l hl=>by
    simp only [loc'] at hl
    split at hl
    · cases hl
    · rename_i hn
      refine ⟨?_,hl,hn⟩
      by_cases hlt:t<m
      · exact hlt
      · exact absurd (hno t (by omega)) hn
  have hmut:∀t o',hp' t=some o'→t<m∧∃o,hp (τ t)=some o∧o.isMut=o'.isMut:=fun t o' ho=>by
    have hlt:t<m:=by
      by_cases hlt:t<m
      · exact hlt
      · rw [hno t (by omega)] at ho;cases ho
    refine ⟨hlt,?_⟩
    have:=hhp t hlt
    rw [ho] at this
    generalize hq:hp (τ t)=q at this
    cases this with
    | inl h=>exact ⟨_,rfl,rfl⟩
    | map h=>exact ⟨_,rfl,rfl⟩
    | mp=>exact ⟨_,rfl,rfl⟩
  have hmt:∀b,Cs hp' loc' b→Cs hp loc b:=by
    rintro b ⟨t,o',l,h1,h2,h3,h4,h5⟩
    obtain ⟨_,o,ho,hm⟩:=hmut t o' h1
    exact ⟨τ t,o,l,ho,by rw [hm];exact h2,(hsome t l h3).2.1,h4,h5⟩
  have x:Ren τ m (Bv m1 hp (fun t=>t<nx) loc w) (Bv m1 hp' (fun t=>t<m) loc' w) :=
    ⟨⟨Nat.le_refl _,fun b _ hn=>⟨fun hm=>hn (hm.elim (fun h=>.inl (hmt b h)) .inr),rfl⟩⟩,fun t ht=>ht,fun t l ht hl=>(hsome t l hl).2.1⟩
  refine ⟨loc',⟨fun t o' ho=>?_,fun t ho=>by simp only [loc',ho,if_true],fun t l hl=>(hsome t l hl).1,fun t1 t2 l1 l2 k1 k2 p1 p2 hb=>?_,fun t l hl=>hM.fgn (τ t) l (hsome t l hl).2.1,hM.m1lt,hM.tab.sub hmt⟩,
    ⟨hH.os,hH.tape,hH.output,hH.size,hH.keep,fun b hb=>hH.muts b (hmt b hb),fun t ht=>by omega,fun t l ht hl=>by omega⟩,x⟩
  · have hlt:=(hmut t o' ho).1
    have hO:=hhp t hlt
    rw [ho] at hO
    generalize hq:hp (τ t)=q at hO
    cases hO with
    | inl hin =>
      obtain ⟨l,hl,g1,g2,g3,g4,g5,g6⟩:=hM.obj (τ t) _ hq
      refine ⟨l,by simp only [loc',ho];simpa using hl,g1,g2,g3,g4,g5,fun hpos=>?_⟩
      obtain ⟨c,e,fz,vs,k1,k2,k3,k4,k5,k6⟩:=g6 hpos
      exact ⟨c,e,fz,vs,k1,k2,RelL.move x.mv (by rw [←Ex];exact hin) k3,k4,k5,k6⟩
    | map hin =>
      rename_i sz mu rows
      obtain ⟨l,hl,g1,g2,g3,g4,g5,g6⟩:=hM.obj (τ t) _ hq
      refine ⟨l,by simp only [loc',ho];simpa using hl,g1,g2,fun r hr=>?_,by simpa using g4,g5,fun hpos=>?_⟩
      · have:=g3 (Bb τ r) (List.mem_map.2 ⟨r,hr,rfl⟩)
        rwa [Jc] at this
      · obtain ⟨c,e,fz,vs,k1,k2,k3,k4,k5,k6⟩:=g6 hpos
        rw [Ql] at k3
        exact ⟨c,e,fz,vs,k1,k2,Gl x (Qk m hin) k3,k4,k5,k6⟩
    | mp hin =>
      obtain ⟨l,hl,g0,ens,clock,xs,g1,g2,g3,g4⟩:=hM.obj (τ t) _ hq
      exact ⟨l,by simp only [loc',ho];simpa using hl,g0,ens,clock,xs,g1,g2,g3,Gl x hin g4⟩
  · have h1:=hsome t1 l1 k1
    have h2:=hsome t2 l2 k2
    exact hinj t1 t2 h1.1 h2.1 h1.2.2 h2.2.2 (hM.inj _ _ _ _ h1.2.1 h2.2.1 p1 p2 hb)
theorem oper_wideN {P:Program} {n:Nat} {o:Oper} {a:Act} {w:World} {K K' R:Act→World→Prop} {Q:Exit→Act→World→Prop} (hk:∀a w,K a w→K' a w)
    (h:o.wp P a w K (fun e a w=>e=.normal∧R a w)):o.wpIn Fence.wide n P a w K' Q:=by
  refine ⟨fun _ _=>trivial,?_⟩
  have e:o.semAt Fence.wide.round a.eval=execOp a.eval o:=rfl
  rw [e]
  unfold Oper.wp at h
  generalize (execOp a.eval o).run P w=r at h ⊢
  cases r with
  | ok x w' =>
    cases x<;>first
      | exact hk _ _ h
      | exact h.elim
      | exact ⟨(fun hh=>by cases hh),callsIn_wide.2 (Calls.mono h fun e w' he=>by
          cases e with
          | returned v=>exact hk _ _ he
          | panicked ch=>exact absurd he.1 (by simp)
          | outgrown=>obtain ⟨a,w,h,_⟩:=he;cases h)⟩
      | exact ⟨(fun hh=>by cases hh),fun c cs _=>by
          obtain ⟨v,w',r,s⟩:=h c cs
          exact ⟨v,w',hk _ _ r,stepsIn_wide.2 s⟩⟩
  | halt x w' =>
    cases x<;>first
      | exact absurd h.1 (by simp)
      | exact h.elim
theorem Tl {P:Program} {n:Nat} {ops:Array Oper} {K:Act→World→Prop} {Q:Exit→Act→World→Prop} {rest:List Oper} (hk:∀a w,K a w→wpListIn Fence.wide n P ops Q rest a w) :
    ∀(pre:List Oper) (a:Act) (w:World),wpList P ops (fun e a w=>e=.normal∧K a w) pre a w→wpListIn Fence.wide n P ops Q (pre++rest) a w
  | [],a,w,h=>hk a w h.2
  | o::L,a,w,h=>by
    have hl:¬LetsOut (fun e (a:Act) (w:World)=>e=Exit.normal∧K a w):=by rintro ⟨_,_,h,_⟩;cases h
    show wpListIn Fence.wide n P ops Q (o::(L++rest)) a w
    unfold wpList at h
    unfold wpListIn
    split
    · rename_i hw
      rw [if_pos hw] at h
      rcases h with h|h
      · exact oper_wideN (fun a w h=>Tl hk L a w h) h
      · exact absurd h.2 hl
    · rename_i hw
      rw [if_neg hw] at h
      exact ⟨fun _ _=>trivial,Tl hk L _ _ h⟩
structure Host where
  fr:Nat→AV
  L:Nat
  D:Nat
  fn:FuncId
  p:Tmp
  tmps:Array Value
  assign:Code
  body:Code
  m1:Nat→Prop
def Host.rcd (H:Host) (s:LoopState) (j:Option Code):Loop:={ state:=s,pending:=j,fn:=H.fn,tmps:=H.tmps,params := #[H.p],assign:=H.assign,body:=H.body,defers:=H.D }
structure HostOk {P:Program} (G:Ghost P) (H:Host):Prop where
  mL:H.m1 H.L
  mD:H.m1 H.D
  ne:H.D≠H.L
  lL:G.w0.heap.size≤H.L
  tok:∀d,Bn 8 (H.fr d)=true
  n0:G.n0=0
def ConcH {P:Program} (G:Ghost P) (N:Nat) (H:Host) (st:ASt) (a:Act) (w:World):Prop :=
  a.defers=[]∧a.tmps.size=N∧w.heap[H.L]?=some (.loop (H.rcd .ready none))∧w.heap[H.D]?=some (.deferred (some [])) ∧
  ∃loc,MemB P H.m1 st.hp (fun t=>t<st.nx) loc w∧Hist G st.hp (fun t=>t<st.nx) loc w ∧
    (∀d,Rel (Bv H.m1 st.hp (fun t=>t<st.nx) loc w) (st.fr d) (a.tmps.getD d undef))∧(∀d,Rel (Bv H.m1 st.hp (fun t=>t<st.nx) loc w) (H.fr d) (H.tmps.getD d undef))
def AWH (P:Program) (N:Nat) (H:Host) (c:Code) (Q:Exit→ASt→Prop) (st:ASt):Prop :=
  ∀(G:Ghost P) (a:Act) (w:World),HostOk G H→ConcH G N H st a w→c.wp P (fun e a' w'=>∃st',Q e st'∧ConcH G N H st' a' w') a w
section
variable {P:Program} {N:Nat} {H:Host} {Q Q':Exit→ASt→Prop} {st:ASt} {c x y:Code}
end
end Go.Gm
namespace Go.Gm
theorem setIn_rel {E:Env} {fr:Nat→AV} {t:Array Value} {p:Tmp} {u:AV} {v:Value} (hp:p<t.size) (h:∀d,Rel E (fr d) (t.getD d undef)) (hv:Rel E u v):∀d,Rel E (Ag fr p u d) ((t.setIfInBounds p v).getD d undef):=fun d=>by
  simp only [Ag]
  by_cases e:d=p
  · subst e;simp [hp];exact hv
  · have:=h d
    simp [e,Array.getElem?_setIfInBounds_ne (Ne.symm e)] at this ⊢
    exact this
section
variable {P:Program} {N:Nat} {H:Host} {Q:Exit→ASt→Prop} {st:ASt}
def YK (P:Program) (N:Nat) (H:Host) (ops:List Oper) (oy:Oper) (post:List Oper) (ty tx:Tmp) (dd:Nat) (Q:Exit→ASt→Prop) (s0:ASt):Prop :=
  8≤s0.nx∧Ee ops s0.fr oy=some true∧s0.fr ty=.val (.func (.yield H.L) #[] #[])∧(∀d,Bn 8 (s0.fr d)=true) ∧
    AW P H.tmps.size H.assign (fun e s1=>e=.normal∧8≤s1.nx∧AW P H.tmps.size H.body (fun e s2=>e=.normal∧8≤s2.nx∧Co P N ops post ⟨Ag s0.fr dd (.val (.bool true)),s2.hp,s2.nx⟩ (Q .normal)) s1) ⟨Ag H.fr H.p (s0.fr tx),s0.hp,s0.nx⟩
theorem Te:∀d,Bn 8 (Az d)=true:=fun d=>by simp [Az,Bn]
theorem Hi {f:Nat→AV} {k:Nat} {v:AV} (h:∀d,Bn 8 (f d)=true) (hv:Bn 8 v=true):∀d,Bn 8 (Ag f k v d)=true:=fun d=>by
  simp only [Ag];split
  · exact hv
  · exact h d
theorem AW.toK {K:ASt→Prop} {c:Code} (h:AW P N c (fun e s=>e=.normal∧∃s',Ent N s s'∧K s') st):AW P N c (fun e s=>e=.normal∧K s) st :=
  h.mono fun e s ⟨he,s',hE,hK⟩=>⟨s',hE,he,hK⟩
theorem Ent.low {nx nx0:Nat} {fr fr':Nat→AV} {hp:Am} (h8:8≤nx0) (hno:∀t,nx0≤t→hp t=none) (hob:∀t o,hp t=some o→∃sz mu rows,o=.row sz mu rows∧rows.all (By nx0)=true)
    (hfr:∀d,Bn nx0 (fr' d)=true∧(fr' d=.any∨Weak (fr d) (fr' d))):Ent N ⟨fr,hp,nx⟩ ⟨fr',hp,nx0⟩ :=
  Ent.ren (fun t=>t) h8 (fun _ _=>rfl) (fun _ _ _ _ _ _ h=>h) (fun d=>⟨(hfr d).1,by rw [Yc];exact (hfr d).2⟩) (fun t _=>by
    cases ho:hp t with
    | none=>exact .none _
    | some o =>
      obtain ⟨sz,mu,rows,rfl,hr⟩:=hob t o ho
      have:=ORen.map (τ:=fun t=>t) (m:=nx0) (sz:=sz) (mu:=mu) hr
      rwa [show rows.map (Bb fun t=>t)=rows by
        have:Bb (fun t=>t)=id:=by funext x;exact Nk x
        rw [this];simp] at this) hno
end
end Go.Gm
namespace Go.Gm
theorem results_none {P:Program} {fn:Func} {tmps:Array Value} {w:World} (h:fn.results = #[]):(results fn tmps).run P w=.ok (.tuple #[]) w:=by
 rw [Nx,h];simp
section
variable {P:Program} {G:Ghost P} {N:Nat} {st:ASt} {a:Act} {w:World}
end
theorem Ra {P:Program} {N:Nat} {ops:List Oper} {G:Ghost P} {ds:List Deferred} {Q:ASt→Prop} {Q':Exit→Act→World→Prop} (hQ:∀st a w,Q st→a.defers=ds→Kz G N st { a with defers:=[] } w→Q' .normal a w) :
  ∀{rest:List Oper} {st:ASt} {a:Act} {w:World},a.defers=ds→Kz G N st { a with defers:=[] } w→Co P N ops rest st Q→wpList P ops.toArray Q' rest a w
 | [],st,a,w,hd0,hc,h=>hQ st a w h hd0 hc
 | o::rest,st,a,w,hd0,hc,h=>by
  unfold Co at h
  split at h
  ·exact h.elim
  ·rename_i b hw
   have hwant:Region.wanted o (yielded ops.toArray a.tmps)=b:=Sc (a:={ a with defers:=[] }) hc hw
   obtain ⟨h1,h2,loc,hM,hrel⟩:=hc
   have hev:∀x,Rel (Bv G.m1 st.hp (fun t=>t<st.nx) loc w) (Fk st.fr x) (a.eval x):=Fo (a:=a) hrel
   cases b with
   | false =>
    simp only [Bool.false_eq_true,if_false] at h
    obtain ⟨hd,h⟩:=h
    show wpList P ops.toArray Q' (o::rest) a w
    unfold wpList
    rw [hwant]
    refine Ra hQ (st:=⟨Ff st.fr o.dst (.val undef),st.hp,st.nx+8⟩) (by rw [Gc];exact hd0) ?_ h
    obtain ⟨hM2,x2⟩:=hM.more (al':=fun t=>t<st.nx+8) (fun t ht=>by omega)
    obtain ⟨g1,g2⟩:=Lc (a:=a) (u:=.val undef) (v:=undef) hd h2 (fun d=>(hrel d).ext x2) (.val _)
    exact ⟨rfl,g1,loc,hM2,g2⟩
   | true =>
    simp only [if_true] at h
    have next:∀(r:AR) v w' loc',Pk N o.dst=true→Co P N ops rest ⟨Ff st.fr o.dst r.v,Be st.hp r.eff,st.nx+8⟩ Q→Mem G (Be st.hp r.eff) (Ku (fun t=>t<st.nx) st.nx) loc' w' →
      Ext (Bv G.m1 st.hp (fun t=>t<st.nx) loc w) (Bv G.m1 (Be st.hp r.eff) (Ku (fun t=>t<st.nx) st.nx) loc' w')→Rel (Bv G.m1 (Be st.hp r.eff) (Ku (fun t=>t<st.nx) st.nx) loc' w') r.v v →
      wpList P ops.toArray Q' rest (a.put o.dst v) w':=fun r v w' loc' hd hk hM' x hv=>by
     refine Ra hQ (by rw [Gc];exact hd0) ?_ hk
     obtain ⟨hM2,x2⟩:=hM'.more (al':=fun t=>t<st.nx+8) (fun t ht=>by rcases ht with ht|ht<;>omega)
     obtain ⟨g1,g2⟩:=Lc (a:=a) (u:=r.v) (v:=v) hd h2 (fun d=>(hrel d).ext (x.trans x2)) (hv.ext x2)
     exact ⟨rfl,g1,loc',hM2,g2⟩
    show wpList P ops.toArray Q' (o::rest) a w
    unfold wpList
    rw [hwant]
    refine .inl ?_
    split at h
    ·rename_i f us hco
     rcases h with ⟨xs,X,hres,hpc,hent,hlen,hd,hk⟩|⟨r,hok,hent,hd,hk⟩
     ·exact Ui hM Lx hev hco hent (Pd hpc hres hlen) fun v w' loc' hM' x hv=>next _ v w' loc' hd hk hM' x hv
     ·exact Ui hM Lx hev hco hent hok fun v w' loc' hM' x hv=>next _ v w' loc' hd hk hM' x hv
    ·split at h
     ·rename_i r hr
      exact aop_wp hM Lx (fun _ _ _ h=>by simp [Fq] at h) hev hr fun v w' loc' hM' x hv=>next r v w' loc' h.1 h.2 hM' x hv
     ·exact h.elim
end Go.Gm
namespace Go.Gm
section
variable {P:Program} {G:Ghost P} {N:Nat} {st st':ASt} {Q:Exit→Act→World→Prop} {x y:Code} {ops:List Oper} {id:Nat}
def Cont {P:Program} (G:Ghost P) (N:Nat) (y:Code) (Q:Exit→Act→World→Prop) (s:ASt):Prop:=∀a w,Kz G N s a w→y.wp P Q a w
theorem Cont.ent (h:Ent N st st') (k:Cont G N y Q st'):Cont G N y Q st:=fun a w hc=>k a w (h P G a w hc)
theorem Cont.reg (l:List Nat) (h:Co P N ops ops st (fun st'=>Cont G N y Q ⟨restr st'.fr l,st'.hp,st'.nx⟩)):Cont G N (.seq (.region id ops.toArray false) y) Q st:=fun a w hc=>by
  have:=Hh (Q:=fun e s=>e=.normal∧Cont G N y Q s) (id:=id) l (by
    have e:(fun st':ASt=>(fun e s=>e=Exit.normal∧Cont G N y Q s) Exit.normal ⟨restr st'.fr l,st'.hp,st'.nx⟩)=(fun st'=>Cont G N y Q ⟨restr st'.fr l,st'.hp,st'.nx⟩):=by funext s;simp
    rw [e];exact h)
  refine wp_seq (wp_mono (this none G a w hc) ?_)
  rintro e a' w' ⟨s,⟨rfl,hk⟩,hc'⟩
  exact hk a' w' hc'
theorem Cont.seq (h:Cont G N x (Exit.then (fun a w=>y.wp P Q a w) Q) st):Cont G N (.seq x y) Q st:=fun a w hc=>wp_seq (h a w hc)
theorem Cont.block {t:Nat} (h:Cont G N x (Exit.inBlock t Q) st):Cont G N (.block t x) Q st:=fun a w hc=>wp_block (h a w hc)
theorem Cont.ren (hn0:G.n0=0) (τ:Nat→Nat) (hinj:∀i j,i<st'.nx→j<st'.nx→st'.hp i≠none→st'.hp j≠none→τ i=τ j→i=j) (hhp:∀t,t<st'.nx→ORen τ st'.nx (st.hp (τ t)) (st'.hp t)) (hno:∀t,st'.nx≤t→st'.hp t=none)
    (hfr:∀d,Bn st'.nx (st'.fr d)=true∧(st'.fr d=.any∨Weak (st.fr d) (Bh τ (st'.fr d)))) (k:Cont G N x Q st'):Cont G N x Q st:=fun a w hc=>by
  obtain ⟨c1,c2,loc,hM,hr⟩:=hc
  obtain ⟨loc',hB',hHi',x⟩:=hM.base.ren hM.hist hn0 τ hinj hhp hno
  refine k a w ⟨c1,c2,loc',hB'.with hHi',fun d=>?_⟩
  obtain ⟨h1,h2⟩:=hfr d
  rcases h2 with h2|h2
  · rw [h2];exact .any _
  · exact Xz x h1 (h2 _ _ (hr d))
def FinM (G:Ghost P) (rs:List ResultVar) (X:AV) (e:Exit) (a':Act) (w':World):Prop :=
  (e=.normal∨e=.ret)∧∃D s loc,a'.defers=[{ target:=.collected D,args := #[] }]∧w'.heap[D]?=some (.deferred (some []))∧G.w0.heap.size≤D∧MemB P (fun b=>G.m1 b∨b=D∨b=D+1) s.hp (fun t=>t<s.nx) loc w' ∧
    Hist G s.hp (fun t=>t<s.nx) loc w'∧(∀d,Rel (Bv (fun b=>G.m1 b∨b=D∨b=D+1) s.hp (fun t=>t<s.nx) loc w') (s.fr d) (a'.tmps.getD d undef))∧Ay P rs X .ret s
theorem Wy {f:FuncId} {fn:Func} {c:Code} {us:List AV} {X:AV} {rs:List ResultVar} (hf:P.funcs[f]?=some fn) (hb:fn.body=some c) (hN:fn.ntmps=N) (hrs:fn.results.toList=rs) (hn:us.length≤N)
    (h:∀G:Ghost P,G.n0=0→Cont G N c (FinM G rs X) ⟨Ht us,Bo [] [],8⟩):PC P f us X:=by
  subst hN;subst hrs
  intro m w vs hm ht hus
  have hM0:Mem ⟨w,fun _=>False,m,hm,0,fun _=>none,Nat.zero_le _,ht⟩ (fun _=>none) (fun t=>t<0) (fun _=>none) w :=
    ⟨fun _ _ h=>by simp at h,fun _ _=>rfl,fun _ _ h=>by simp at h,fun _ _ _ _ h=>by simp at h,rfl,rfl,rfl,Nat.le_refl _,fun _ _ _=>rfl,fun b h=>by obtain ⟨t,o,l,h,_⟩:=h;simp at h,fun _ _ h=>by simp at h,fun t ht=>absurd ht (Nat.not_lt_zero t),fun t l ht _=>absurd ht (Nat.not_lt_zero t)⟩
  have hc0:Kz ⟨w,fun _=>False,m,hm,0,fun _=>none,Nat.zero_le _,ht⟩ fn.ntmps ⟨Ht us,fun _=>none,0⟩ { tmps:=vs.toArray++Array.replicate (fn.ntmps-vs.toArray.size) undef,defers:=[] } w:=by
    refine ⟨rfl,?_,fun _=>none,hM0,fun d=>?_⟩
    · have:=hus.length
      simp;omega
    · have x:Ext (E0 m w) (Bv m (fun _=>none) (fun t=>t<0) (fun _=>none) w):=Fh (fun _ h=>h.elim) (fun _ _ h=>h.elim) (Nat.le_refl _) (fun _ _ h=>h) (fun _ _ _=>rfl)
      simp only [Ht]
      cases hd:us[d]? with
      | none=>exact .any _
      | some u =>
        obtain ⟨v,hv,hr⟩:=hus.get d u hd
        have hlt:d<vs.length:=(List.getElem?_eq_some_iff.1 hv).1
        have:((vs.toArray++Array.replicate (fn.ntmps-vs.toArray.size) undef).getD d undef)=v:=by
          rw [Array.getD_eq_getD_getElem?,Array.getElem?_append_left (by simpa using hlt)]
          simp [hv]
        simp only [Option.getD_some]
        rw [this]
        exact hr.ext x
  have hst:Ent fn.ntmps ⟨Ht us,fun _=>none,0⟩ ⟨Ht us,Bo [] [],8⟩:=by
    rw [hpL_nil];exact Ent.st .refl .refl (by omega)
  refine (callsIn_wide (n:=0)).1 (callsIn_of_wp_marks hf hb trivial ((wpIn_wide (n:=0)).2 (wp_mono (h _ rfl _ w (hst P _ _ w hc0)) ?_)) rfl)
  rintro e a' w' ⟨he,D,s,loc,hd,hD,hGD,hB,hH,hr,hfin⟩
  have fin:LeavesInM Fence.wide 0 P fn a'.tmps (fun e w'=>∃v hp al loc r ts,e=.returned v∧Mem ⟨w,fun _=>False,m,hm,0,fun _=>none,Nat.zero_le _,ht⟩ hp al loc w'∧Rel (Bv m hp al loc w') r v∧Cl hp r=some (X,ts)∧ts.Nodup) a'.defers .returning w':=by
    rw [hd]
    refine ⟨by simp,.inl ⟨D,_,rfl,run_takeDeferred hD,?_⟩⟩
    obtain ⟨hB2,x2⟩:=hB.put (.inr (.inl rfl)) hD rfl (.deferred none)
    have hH2:=hH.put hGD (.deferred none)
    obtain ⟨hB3,x3⟩:=hB2.to (m2:=m) (w':=w'.putObj D (.deferred none)) (Nat.le_refl _) (fun b _ hm=>.inl hm) (fun b hb=>hB2.m1lt b (.inl hb)) (fun _ _=>.inl rfl)
    have hM3:=hB3.with (G:=⟨w,fun _=>False,m,hm,0,fun _=>none,Nat.zero_le _,ht⟩) hH2
    simp only [Ay] at hfin
    split at hfin
    · rename_i l hl
      split at hfin
      · rename_i Y ts hs
        obtain ⟨rfl,hnd⟩:=hfin
        obtain ⟨vs',hv,hrl⟩:=Km (a:=a') hM3 (fun d=>((hr d).extW x2).extW x3) hl
        have hrun:(results fn a'.tmps).run P (w'.putObj D (.deferred none))=.ok (if h:vs'.toArray.size=1 then vs'.toArray[0] else .tuple vs'.toArray) (w'.putObj D (.deferred none)):=by
          rw [Nx,Sem.run_bind]
          have hm:(fn.results.mapM (Mf a'.tmps)).run P (w'.putObj D (.deferred none))=.ok vs'.toArray (w'.putObj D (.deferred none)):=by
            rw [Array.mapM_eq_mapM_toList,Sem.run_map,hv];rfl
          rw [hm];rfl
        exact ⟨_,hrun,_,s.hp,_,loc,Cu l,ts,rfl,hM3,Sf hrl,hs,hnd⟩
      · exact hfin.elim
    · exact hfin.elim
  rcases he with rfl|rfl
  · exact fin
  · exact fin
def RetK (P:Program) (N:Nat) (rs:List ResultVar) (X:AV) (s:ASt):Prop:=∃s',Ent N s s'∧Ay P rs X .ret s'
theorem RetK.fin {s:ASt} {rs:List ResultVar} {X:AV} (h:Ay P rs X .ret s):RetK P N rs X s:=⟨s,Ent.refl,h⟩
theorem tail_wp {D:Nat} {rs:List ResultVar} {X:AV} {loc:Nat→Option Loc} {a:Act} {w:World} (hd:a.defers=[{ target:=.collected D,args := #[] }]) (hD:w.heap[D]?=some (.deferred (some []))) (hGD:G.w0.heap.size≤D)
    (hB:MemB P (fun b=>G.m1 b∨b=D∨b=D+1) st.hp (fun t=>t<st.nx) loc w) (hH:Hist G st.hp (fun t=>t<st.nx) loc w) (hr:∀d,Rel (Bv (fun b=>G.m1 b∨b=D∨b=D+1) st.hp (fun t=>t<st.nx) loc w) (st.fr d) (a.tmps.getD d undef))
    (h8:8≤st.nx) (hsz:a.tmps.size=N) (l:List Nat) (h:Co P N ops ops st (fun s=>RetK P N rs X ⟨restr s.fr l,s.hp,s.nx⟩)):(Code.seq (.region id ops.toArray false) .ret).wp P (FinM G rs X) a w:=by
  have hM:=hB.mem (fun t (ht:t<8)=>Nat.lt_of_lt_of_le ht h8)
  refine wp_seq (wp_region_list ?_)
  show wpList P ops.toArray _ ops a w
  refine Ra (fun s a' w' hs hd' hc'=>?_) hd (G:=hB.g) ⟨rfl,hsz,loc,hM,hr⟩ h
  obtain ⟨s2,hE,hfin⟩:=hs
  obtain ⟨e1,e2,loc1,hM1,hr1⟩:=hE P _ _ _ (Ent.restr l P _ _ _ hc')
  refine wp_ret ⟨.inr rfl,D,s2,loc1,hd',(hB.kept hM1 (.inr (.inl rfl))).trans hD,hGD,hB.back hM1,hH.back hB hM1,hr1,hfin⟩
end
end Go.Gm
namespace Go.Gm.Two
open Go.Gm
structure Host where
 fr:Nat→AV
 L:Nat
 D:Nat
 fn:FuncId
 p:Tmp
 p2:Tmp
 tmps:Array Value
 assign:Code
 body:Code
 m1:Nat→Prop
def Host.rcd (H:Host) (s:LoopState) (j:Option Code):Loop:={ state:=s,pending:=j,fn:=H.fn,tmps:=H.tmps,params := #[H.p,H.p2],assign:=H.assign,body:=H.body,defers:=H.D }
structure HostOk {P:Program} (G:Ghost P) (H:Host):Prop where
 mL:H.m1 H.L
 mD:H.m1 H.D
 ne:H.D≠H.L
 lL:G.w0.heap.size≤H.L
 tok:∀d,Bn 8 (H.fr d)=true
 n0:G.n0=0
def ConcH {P:Program} (G:Ghost P) (N:Nat) (H:Host) (st:ASt) (a:Act) (w:World):Prop :=
 a.defers=[]∧a.tmps.size=N∧w.heap[H.L]?=some (.loop (H.rcd .ready none))∧w.heap[H.D]?=some (.deferred (some [])) ∧
 ∃loc,MemB P H.m1 st.hp (fun t=>t<st.nx) loc w∧Hist G st.hp (fun t=>t<st.nx) loc w ∧
  (∀d,Rel (Bv H.m1 st.hp (fun t=>t<st.nx) loc w) (st.fr d) (a.tmps.getD d undef))∧(∀d,Rel (Bv H.m1 st.hp (fun t=>t<st.nx) loc w) (H.fr d) (H.tmps.getD d undef))
def AWH (P:Program) (N:Nat) (H:Host) (c:Code) (Q:Exit→ASt→Prop) (st:ASt):Prop :=
 ∀(G:Ghost P) (a:Act) (w:World),HostOk G H→ConcH G N H st a w→c.wp P (fun e a' w'=>∃st',Q e st'∧ConcH G N H st' a' w') a w
section
variable {P:Program} {N:Nat} {H:Host} {Q Q':Exit→ASt→Prop} {st:ASt} {c x y:Code}
theorem ConcH.of {G:Ghost P} {a a':Act} {w w':World} {loc:Nat→Option Loc} {st':ASt} (hok:HostOk G H) (hL:w.heap[H.L]?=some (.loop (H.rcd .ready none))) (hD:w.heap[H.D]?=some (.deferred (some [])))
  (hB:MemB P H.m1 st.hp (fun t=>t<st.nx) loc w) (hH:Hist G st.hp (fun t=>t<st.nx) loc w) (hf:∀d,Rel (Bv H.m1 st.hp (fun t=>t<st.nx) loc w) (H.fr d) (H.tmps.getD d undef)) (h:Kz hB.g N st' a' w'):ConcH G N H st' a' w':=by
 obtain ⟨c1,c2,loc',hM',hr'⟩:=h
 exact ⟨c1,c2,(hB.kept hM' hok.mL).trans hL,(hB.kept hM' hok.mD).trans hD,loc',hB.back hM',hH.back hB hM',hr',fun d=>hB.stable hM' (hok.tok d) (hf d)⟩
theorem AWH.of (h8:8≤st.nx) (h:AW P N c Q st):AWH P N H c Q st:=by
 rintro G a w hok ⟨c1,c2,hL,hD,loc,hB,hH,hr,hf⟩
 have hM:=hB.mem (fun t (ht:t<8)=>Nat.lt_of_lt_of_le ht h8)
 refine wp_mono (h none hB.g a w ⟨c1,c2,loc,hM,hr⟩) ?_
 rintro e a' w' ⟨st',hq,hc'⟩
 exact ⟨st',hq,ConcH.of (a:=a) hok hL hD hB hH hf hc'⟩
theorem AWH.seq (h:AWH P N H x (Kj (AWH P N H y Q) Q) st):AWH P N H (.seq x y) Q st:=fun G a w hok hc=>by
 refine wp_seq (wp_mono (h G a w hok hc) ?_)
 rintro e a' w' ⟨st',hq,hc'⟩
 cases e with
 | normal=>exact hq G a' w' hok hc'
 | _=>exact ⟨st',hq,hc'⟩
theorem AWH.cond {o:Operand} {b:Bool} (hc:Fk st.fr o=.val (.bool b)) (h:AWH P N H (if b then x else y) Q st):AWH P N H (.cond o x y) Q st:=fun G a w hok hcc=>by
 obtain ⟨c1,c2,hL,hD,loc,hB,hH,hr,hf⟩:=hcc
 exact wp_cond (Gw (hc▸Fo hr o)) (h G a w hok ⟨c1,c2,hL,hD,loc,hB,hH,hr,hf⟩)
theorem AWH.block {id:Nat} (h:AWH P N H c (Dk id Q) st):AWH P N H (.block id c) Q st:=fun G a w hok hc=>by
 refine wp_block (wp_mono (h G a w hok hc) ?_)
 rintro e a' w' ⟨st',hq,hc'⟩
 cases e with
 | exit id' =>
  simp only [Dk] at hq
  simp only [Exit.inBlock]
  split
  ·rename_i hid;rw [if_pos hid] at hq;exact ⟨st',hq,hc'⟩
  ·rename_i hid;rw [if_neg hid] at hq;exact ⟨st',hq,hc'⟩
 | _=>exact ⟨st',hq,hc'⟩
theorem AWH.loop (I:Nat→ASt→Prop) (n₀:Nat) (h0:I n₀ st)
  (round:∀k st,I k st→AWH P N H c (Kj (fun st'=>∃k',k'<k∧I k' st') Q) st):AWH P N H (.loop c) Q st:=fun G a w hok hc=>by
 refine wp_loop_ghost (fun n a w=>∃st,I n st∧ConcH G N H st a w) n₀ ⟨st,h0,hc⟩ ?_
 rintro n a w ⟨st,hI,hc⟩
 refine wp_mono (round n st hI G a w hok hc) ?_
 rintro e a' w' ⟨st',hq,hc'⟩
 cases e with
 | normal =>
  obtain ⟨k',hlt,hI'⟩:=hq
  exact ⟨k',hlt,st',hI',hc'⟩
 | _=>exact ⟨st',hq,hc'⟩
end
theorem run_yieldOp {P:Program} {o:Oper} {a:Act} {w:World} {ty tx tx2:Tmp} {tys:Array TypeId} {L:Nat} (hop:o.op=.call { callee:=.value (.tmp ty),args := #[.tmp tx,.tmp tx2],argTypes:=tys })
  (hv:a.eval (.tmp ty)=.func (.yield L) #[] #[]):(execOp a.eval o).run P w=(Instr.yield L #[a.eval (.tmp tx),a.eval (.tmp tx2)]).run P w:=by
 obtain ⟨dst,op,t,pos,after,guard⟩:=o
 simp only at hop
 subst hop
 simp [execOp,resolve,Deferred.ofValue,hv,invoke]
section
variable {P:Program} {N:Nat} {H:Host} {Q:Exit→ASt→Prop} {st:ASt}
theorem round_in {G:Ghost P} {a:Act} {w:World} {loc:Nat→Option Loc} {n:Nat} {X X2:AV} {x x2v:Value} {K:Am→Nat→Prop} (hok:HostOk G H) (hc:ConcH G N H st a w) (h8:8≤st.nx) (hp:H.p<H.tmps.size) (hp2:H.p2<H.tmps.size)
  (htok:∀d,Bn 8 (st.fr d)=true) (hx:∀(E:Env),(∀d,Rel E (st.fr d) (a.tmps.getD d undef))→Rel E X x) (hx2:∀(E:Env),(∀d,Rel E (st.fr d) (a.tmps.getD d undef))→Rel E X2 x2v)
  (h:AW P H.tmps.size H.assign (fun e s1=>e=.normal∧8≤s1.nx∧AW P H.tmps.size H.body (fun e s2=>e=.normal∧K s2.hp s2.nx) s1) ⟨Ag (Ag H.fr H.p X) H.p2 X2,st.hp,st.nx⟩) :
  RoundIn Fence.wide n P H.L H.fn ((H.tmps.setIfInBounds H.p x).setIfInBounds H.p2 x2v) H.assign H.body w fun e w'=>e=.returned (.bool true)∧∃hp' nx',K hp' nx'∧ConcH G N H ⟨st.fr,hp',nx'⟩ a w':=by
 obtain ⟨c1,c2,hL,hD,loc,hB,hH,hr,hf⟩:=hc
 refine roundIn_of_wpIn trivial ?_
 have hM:=hB.mem (fun t (ht:t<8)=>Nat.lt_of_lt_of_le ht h8)
 refine wpIn_mono (h (some (H.L,n)) hB.g { tmps:=(H.tmps.setIfInBounds H.p x).setIfInBounds H.p2 x2v,defers:=[] } w ⟨rfl,by simp,loc,hM,setIn_rel (by simpa using hp2) (setIn_rel hp hf (hx _ hr)) (hx2 _ hr)⟩) ?_
 rintro e a1 w1 ⟨s1,⟨rfl,h81,hbody⟩,hc1⟩
 obtain ⟨d1,d2,loc1,hM1,hr1⟩:=hc1
 have hB1:=hB.back hM1
 have hH1:=hH.back hB hM1
 have hL1:=(hB.kept hM1 hok.mL).trans hL
 have hD1:=(hB.kept hM1 hok.mD).trans hD
 have hf1:=fun d=>hB.stable hM1 (hok.tok d) (hf d)
 have hg1:=fun d=>hB.stable hM1 (htok d) (hr d)
 refine ⟨_,run_beginRound hL1 rfl,?_⟩
 obtain ⟨hB2,x2⟩:=hB1.put hok.mL hL1 rfl (.loop { H.rcd .ready none with state:=.busy })
 have hH2:=hH1.put hok.lL (.loop { H.rcd .ready none with state:=.busy })
 have hL2:(w1.putObj H.L (.loop { H.rcd .ready none with state:=.busy })).heap[H.L]?=some (.loop { H.rcd .ready none with state:=.busy }):=World.putObj_heap_same (Array.getElem?_eq_some_iff.1 hL1).1
 have hD2:(w1.putObj H.L (.loop { H.rcd .ready none with state:=.busy })).heap[H.D]?=some (.deferred (some [])):=(World.putObj_heap_other hok.ne).trans hD1
 have hM2:=hB2.mem (fun t (ht:t<8)=>Nat.lt_of_lt_of_le ht h81)
 refine wpIn_mono (hbody (some (H.L,n)) hB2.g a1 _ ⟨d1,d2,loc1,hM2,fun d=>(hr1 d).extW x2⟩) ?_
 rintro e a3 w3 ⟨s3,⟨rfl,hK⟩,hc3⟩
 obtain ⟨e1,e2,loc3,hM3,hr3⟩:=hc3
 have hB3:=hB2.back hM3
 have hH3:=hH2.back hB2 hM3
 have hL3:=(hB2.kept hM3 hok.mL).trans hL2
 have hD3:=(hB2.kept hM3 hok.mD).trans hD2
 refine ⟨_,_,run_endRound none hL3,?_⟩
 obtain ⟨hB4,x4⟩:=hB3.put hok.mL hL3 rfl (.loop { { H.rcd .ready none with state:=.busy } with state:=if (none:Option Code).isNone=true then .ready else .done,pending:=none })
 have hH4:=hH3.put hok.lL (.loop { { H.rcd .ready none with state:=.busy } with state:=if (none:Option Code).isNone=true then .ready else .done,pending:=none })
 refine ⟨rfl,s3.hp,s3.nx,hK,c1,c2,World.putObj_heap_same (Array.getElem?_eq_some_iff.1 hL3).1,(World.putObj_heap_other hok.ne).trans hD3,loc3,hB4,hH4,fun d=>?_,fun d=>?_⟩
 ·exact (hB2.stable hM3 (htok d) ((hg1 d).extW x2)).extW x4
 ·exact (hB2.stable hM3 (hok.tok d) ((hf1 d).extW x2)).extW x4
theorem AWH.regionY {ops pre post:List Oper} {oy:Oper} {id:Nat} {ty tx tx2:Tmp} {tys:Array TypeId} {dd:Nat} (hops:ops=pre++oy::post)
  (hoy:oy.op=.call { callee:=.value (.tmp ty),args := #[.tmp tx,.tmp tx2],argTypes:=tys }) (hdst:oy.dst=some dd) (h8:8≤st.nx) (hdd:dd<N) (hpt:H.p<H.tmps.size) (hpt2:H.p2<H.tmps.size)
  (Kp:ASt→Prop) (hKp:∀s0,Kp s0→8≤s0.nx∧Ee ops s0.fr oy=some true∧s0.fr ty=.val (.func (.yield H.L) #[] #[])∧(∀d,Bn 8 (s0.fr d)=true) ∧
   AW P H.tmps.size H.assign (fun e s1=>e=.normal∧8≤s1.nx∧AW P H.tmps.size H.body (fun e s2=>e=.normal∧8≤s2.nx∧Co P N ops post ⟨Ag s0.fr dd (.val (.bool true)),s2.hp,s2.nx⟩ (Q .normal)) s1) ⟨Ag (Ag H.fr H.p (s0.fr tx)) H.p2 (s0.fr tx2),s0.hp,s0.nx⟩)
  (h:Co P N ops pre st Kp) :
  AWH P N H (.region id ops.toArray false) Q st:=fun G a w hok hc=>by
 obtain ⟨c1,c2,hL,hD,loc,hB,hH,hr,hf⟩:=hc
 have hM:=hB.mem (fun t (ht:t<8)=>Nat.lt_of_lt_of_le ht h8)
 refine (wpIn_wide (n:=1)).1 (wpIn_region_list ?_)
 suffices hs:∀l,l=pre++oy::post→wpListIn Fence.wide 1 P ops.toArray (fun e a' w'=>∃st',Q e st'∧ConcH G N H st' a' w') l a w by exact hs ops hops
 rintro l rfl
 have hp1:=Iq (md:=none) (Q':=fun e a' w'=>e=.normal∧∃s0,Kp s0∧Kz hB.g N s0 a' w') (fun s0 a' w' hq hc=>⟨rfl,s0,hq,hc⟩) ⟨c1,c2,loc,hM,hr⟩ h
 refine (Tl (rest:=oy::post) ?_ pre a w hp1)
 rintro a1 w1 ⟨s0,hk0,hc1⟩
 obtain ⟨h81,hw,hty,htok,hround⟩:=hKp s0 hk0
 have hcH:ConcH G N H s0 a1 w1:=ConcH.of (a:=a) hok hL hD hB hH hf hc1
 have hwant:=Sc hc1 hw
 obtain ⟨d1,d2,hL1,hD1,loc1,hB1,hH1,hr1,hf1⟩:=hcH
 have hvy:a1.eval (.tmp ty)=.func (.yield H.L) #[] #[]:=by
  have h:=Fo hr1 (.tmp ty)
  rw [show Fk s0.fr (.tmp ty)=s0.fr ty from rfl,hty] at h
  exact Gw h
 unfold wpListIn
 rw [if_pos hwant]
 refine ⟨fun _ _=>trivial,?_⟩
 have e:oy.semAt Fence.wide.round a1.eval=execOp a1.eval oy:=rfl
 have hfold:((H.rcd .ready none).params.zip #[a1.eval (.tmp tx),a1.eval (.tmp tx2)]).foldl (fun tmps (t,a)=>tmps.setIfInBounds t a) (H.rcd .ready none).tmps=(H.tmps.setIfInBounds H.p (a1.eval (.tmp tx))).setIfInBounds H.p2 (a1.eval (.tmp tx2)):=by simp [Host.rcd]
 rw [e,run_yieldOp hoy hvy,run_yield hL1 (by rfl),hfold]
 refine ⟨(fun hh=>by cases hh),RoundIn.mono (round_in (K:=fun hp' nx'=>8≤nx'∧Co P N ops post ⟨Ag s0.fr dd (.val (.bool true)),hp',nx'⟩ (Q .normal)) (X:=s0.fr tx) (x:=a1.eval (.tmp tx)) (X2:=s0.fr tx2) (x2v:=a1.eval (.tmp tx2)) (loc:=loc1) hok ⟨d1,d2,hL1,hD1,loc1,hB1,hH1,hr1,hf1⟩ h81 hpt hpt2 htok (fun E hE=>hE tx) (fun E hE=>hE tx2) hround) ?_⟩
 rintro e' w2 ⟨rfl,hp',nx',⟨h82,hpost⟩,hc2⟩
 obtain ⟨k1,k2,hL2,hD2,loc2,hB2,hH2,hr2,hf2⟩:=hc2
 have hM2:=hB2.mem (fun t (ht:t<8)=>Nat.lt_of_lt_of_le ht h82)
 obtain ⟨g1,g2⟩:=Lc (d:=some dd) (u:=.val (.bool true)) (v:=.bool true) (by simpa [Pk] using hdd) k2 hr2 (.val _)
 have hp2:=Iq (md:=none) (Q':=fun e a' w'=>e=.normal∧∃s0,Q .normal s0∧Kz hB2.g N s0 a' w') (fun s0 a' w' hq hc=>⟨rfl,s0,hq,hc⟩) (a:=a1.put (some dd) (.bool true)) (w:=w2) (st:=⟨Ag s0.fr dd (.val (.bool true)),hp',nx'⟩) ⟨by rw [Gc];exact k1,g1,loc2,hM2,g2⟩ hpost
 rw [hdst]
 have hfin:=Tl (n:=1) (ops:=ops.toArray) (rest:=[]) (Q:=fun e a' w'=>∃st',Q e st'∧ConcH G N H st' a' w') (fun a3 w3 hk=>?_) post _ _ hp2
 ·simpa using hfin
 ·obtain ⟨s3,hq3,hc3⟩:=hk
  exact ⟨s3,hq3,ConcH.of (a:=a) hok hL2 hD2 hB2 hH2 hf2 hc3⟩
def YK (P:Program) (N:Nat) (H:Host) (ops:List Oper) (oy:Oper) (post:List Oper) (ty tx tx2:Tmp) (dd:Nat) (Q:Exit→ASt→Prop) (s0:ASt):Prop :=
 8≤s0.nx∧Ee ops s0.fr oy=some true∧s0.fr ty=.val (.func (.yield H.L) #[] #[])∧(∀d,Bn 8 (s0.fr d)=true) ∧
  AW P H.tmps.size H.assign (fun e s1=>e=.normal∧8≤s1.nx∧AW P H.tmps.size H.body (fun e s2=>e=.normal∧8≤s2.nx∧Co P N ops post ⟨Ag s0.fr dd (.val (.bool true)),s2.hp,s2.nx⟩ (Q .normal)) s1) ⟨Ag (Ag H.fr H.p (s0.fr tx)) H.p2 (s0.fr tx2),s0.hp,s0.nx⟩
theorem AWH.yield (k:Nat) {ops:List Oper} {oy:Oper} {id:Nat} {ty tx tx2:Tmp} {tys:Array TypeId} {dd:Nat} (hk:ops[k]?=some oy)
  (hoy:oy.op=.call { callee:=.value (.tmp ty),args := #[.tmp tx,.tmp tx2],argTypes:=tys }) (hdst:oy.dst=some dd) (h8:8≤st.nx) (hdd:dd<N) (hpt:H.p<H.tmps.size) (hpt2:H.p2<H.tmps.size)
  (h:Co P N ops (ops.take k) st (YK P N H ops oy (ops.drop (k+1)) ty tx tx2 dd Q)):AWH P N H (.region id ops.toArray false) Q st:=by
 have hlt:=(List.getElem?_eq_some_iff.1 hk).1
 have hops:ops=ops.take k++oy::ops.drop (k+1):=by
  have e:ops[k]=oy:=(List.getElem?_eq_some_iff.1 hk).2
  rw [←e,List.getElem_cons_drop,List.take_append_drop]
 exact AWH.regionY hops hoy hdst h8 hdd hpt hpt2 _ (fun _ h=>h) h
end
section
variable {P:Program} {G:Ghost P} {N:Nat} {st:ASt} {a:Act} {w:World}
theorem range_wp {g:Operand} {p p2:Tmp} {assign body:Code} {gf:FuncId} {fg:Func} {cg:Code} {caps:List AV} {K:Am→Nat→Prop} {Q:Exit→Act→World→Prop}
  (hc:Kz G N st a w) (hg:Fk st.fr g=.clo (.func gf) [] caps) (hgf:P.funcs[gf]?=some fg) (hbg:fg.body=some cg) (eg:Ga P gf) (hres:fg.results = #[]) (hp:p<N)
  (htok:∀d,Bn 8 (st.fr d)=true) (h8:8≤st.nx) (hlen:caps.length+1≤fg.ntmps)
  (hn0:G.n0=0) (hbody:∀H:Host,H.fr=st.fr→H.assign=assign→H.body=body→H.p=p→H.p2=p2→H.tmps.size=N →
   AWH P fg.ntmps H cg (fun e s=>(e=.normal∨e=.ret)∧K s.hp s.nx) ⟨Ht (.val (.func (.yield H.L) #[] #[])::caps),st.hp,st.nx⟩)
  (hQ:∀D hp' nx' loc' w',K hp' nx'→w'.heap[D]?=some (.deferred (some []))→G.w0.heap.size≤D→MemB P (fun b=>G.m1 b∨b=D∨b=D+1) hp' (fun t=>t<nx') loc' w'→Hist G hp' (fun t=>t<nx') loc' w' →
   (∀d,Rel (Bv (fun b=>G.m1 b∨b=D∨b=D+1) hp' (fun t=>t<nx') loc' w') (st.fr d) (a.tmps.getD d undef))→Q .normal { a with defers:=[{ target:=.collected D,args := #[] }]++a.defers } w') :
  (Code.rangeFunc g #[p,p2] assign body).wp P Q a w:=by
 obtain ⟨c1,c2,loc,hM,hr⟩:=hc
 refine (wpIn_wide (n:=2)).1 (wpIn_rangeFunc ?_)
 intro fn _
 have hv:=Fo hr g
 rw [hg] at hv
 generalize hev:a.eval g=vg at hv
 cases hv with
 | clo hf hcap =>
  rename_i f' lb
  cases hf
  let H:Host:=⟨st.fr,w.heap.size+1,w.heap.size,fn,p,p2,a.tmps,assign,body,fun b=>G.m1 b∨b=w.heap.size∨b=w.heap.size+1⟩
  obtain ⟨W1,hW1⟩:∃W1,(w.alloc (.deferred (some []))).alloc (.loop (H.rcd .ready none))=W1:=⟨_,rfl⟩
  have hs1:W1.heap.size=w.heap.size+2:=by rw [←hW1];simp
  have hold:∀k,k<w.heap.size→W1.heap[k]?=w.heap[k]?:=fun k hk=>by
   rw [←hW1];exact (Gu _ _ k (by simp;omega)).trans (Gu _ _ k hk)
  have hL:W1.heap[H.L]?=some (.loop (H.rcd .ready none)):=by
   rw [←hW1];have:=World.alloc_heap_new (w.alloc (.deferred (some []))) (.loop (H.rcd .ready none));rwa [World.size_alloc] at this
  have hD:W1.heap[H.D]?=some (.deferred (some [])):=by
   rw [←hW1];exact (Gu _ _ _ (by simp [H])).trans (World.alloc_heap_new w _)
  have ho1:W1.os=w.os:=by rw [←hW1];rfl
  have ho2:W1.tape=w.tape:=by rw [←hW1];rfl
  have ho3:W1.output=w.output:=by rw [←hW1];rfl
  have hB:=hM.base
  obtain ⟨hB1,x1⟩:=hB.to (m2:=H.m1) (w':=W1) (by omega) (fun b hb hm=>by
   rcases hm with hm|hm|hm
   ·exact hm
   ·omega
   ·omega) (fun b hm=>by
   rcases hm with hm|hm|hm
   ·have:=hB.m1lt b hm;omega
   ·omega
   ·omega) (fun b hb=>.inl (hold b hb))
  have hH1:Hist G st.hp (fun t=>t<st.nx) loc W1:=hM.hist.to (by omega) (fun b hb=>hold b (Nat.lt_of_lt_of_le hb hM.size)) ho1 ho2 ho3
  have hok:HostOk G H:=⟨.inr (.inr rfl),.inr (.inl rfl),by simp [H],by have:=hM.size;simp only [H];omega,htok,hn0⟩
  refine ⟨w.heap.size+1,[{ target:=.collected w.heap.size,args := #[] }],W1,{ target:=.fn (.func gf) lb.toArray,args := #[.func (.yield (w.heap.size+1)) #[] #[]] },W1,gf,
   #[.func (.yield (w.heap.size + 1)) #[] #[]] ++ lb.toArray, W1, ?_, ?_, fun _ _ => trivial, ?_, (fun h => by cases h), callsIn_wide.2 ?_⟩
  ·rw [←hW1];exact run_enterLoop_outer _ _ _ _ _
  ·simp only [resolve,hev]
   simp [go_sem]
  ·have:=eg (#[.func (.yield (w.heap.size+1)) #[] #[]]++lb.toArray) W1
   simp only [invoke];exact this
  ·have hll:=hcap.length
   refine calls_of_wp hgf hbg (wp_mono (hbody H rfl rfl rfl rfl rfl c2 G _ W1 hok ⟨rfl,?_,hL,hD,loc,hB1,hH1,fun d=>?_,fun d=>(hr d).extW x1⟩) ?_)
   ·simp;omega
   ·simp only [Ht]
    have hrl:RelL (Bv H.m1 st.hp (fun t=>t<st.nx) loc W1) (.val (.func (.yield H.L) #[] #[])::caps) (.func (.yield H.L) #[] #[]::lb):=.cons (.val _) (hcap.extW x1)
    cases hd:(AV.val (.func (.yield H.L) #[] #[])::caps)[d]? with
    | none=>exact .any _
    | some u =>
     obtain ⟨v,hv,hrv⟩:=hrl.get d u hd
     have hlt:d<(Value.func (.yield H.L) #[] #[]::lb).length:=(List.getElem?_eq_some_iff.1 hv).1
     have:((#[Value.func (.yield (w.heap.size+1)) #[] #[]]++lb.toArray++Array.replicate (fg.ntmps-(#[Value.func (.yield (w.heap.size+1)) #[] #[]]++lb.toArray).size) undef).getD d undef)=v:=by
      rw [Array.getD_eq_getD_getElem?,Array.getElem?_append_left (by simpa [Nat.add_comm] using hlt)]
      have:(#[Value.func (.yield (w.heap.size+1)) #[] #[]]++lb.toArray)=(Value.func (.yield H.L) #[] #[]::lb).toArray:=by simp [H]
      rw [this];simp [hv]
     simp only [Option.getD_some]
     rw [this];exact hrv
   ·rintro e a' w' ⟨s,⟨he,hK⟩,d1,d2,hL2,hD2,loc2,hB2,hH2,hr2,hf2⟩
    have fin:a'.defers=[]∧∃v,(results fg a'.tmps).run P w'=.ok v w'∧rangePost Fence.wide 2 P (w.heap.size+1) Q { a with defers:=[{ target:=.collected w.heap.size,args := #[] }]++a.defers } (.returned v) w':=by
     refine ⟨d1,_,results_none hres,none,_,run_endLoop hL2 (by simp [Host.rcd]),?_⟩
     obtain ⟨hB3,x3⟩:=hB2.put hok.mL hL2 rfl (.loop { H.rcd .ready none with state:=.exhausted })
     have hH3:=hH2.put hok.lL (.loop { H.rcd .ready none with state:=.exhausted })
     exact hQ w.heap.size s.hp s.nx loc2 _ hK ((World.putObj_heap_other hok.ne).trans hD2) hM.size hB3 hH3 (fun d=>(hf2 d).extW x3)
    rcases he with rfl|rfl
    ·exact fin
    ·exact fin
end
end Go.Gm.Two
