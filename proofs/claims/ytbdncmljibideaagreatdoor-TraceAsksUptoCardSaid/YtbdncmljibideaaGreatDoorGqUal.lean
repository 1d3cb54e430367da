import Derived.Test.YtbdncmljibideaaGreatDoorGqUae
import Derived.Test.YtbdncmljibideaaGreatDoorGqUai
import Derived.Test.YtbdncmljibideaaGreatDoorGqUak
import Derived.Test.YtbdncmljibideaaGreatDoorGqUah
import Derived.Test.YtbdncmljibideaaGreatDoorGqUag
import Derived.Test.YtbdncmljibideaaGreatDoorGqUaf
import Derived.Test.YtbdncmljibideaaGreatDoorGqUaj
import Derived.Test.YtbdncmljibideaaGreatDoorProg
import Derived.Shelf.Spec.SlicesGrow
set_option linter.all false
noncomputable section
set_option maxRecDepth 8000
set_option maxHeartbeats 1000000
namespace Go.Proofs.Yt
open Go.Gm
namespace Au
def Rn (s1_0:List Int) (s1_2:Int) (j8_0:Int) (j8_1:Int):Int→Option (((List Int)×Int×Int)⊕(((List Int)×Int×Int)⊕(Int×(List Int))))
  | j9_0=>(if 65536≤((s1_0.length:Nat):Int) then some (.inr (.inl ([],0,9))) else (if 1048576<j8_1 then some (.inr (.inl ([],0,9))) else (if 1048576<(IntKind.i64.wrap ((IntKind.i64.wrap (j9_0+1))+(IntKind.i64.wrap j8_1))) then some (.inr (.inl ([],0,9))) else ((Bq s1_0 [IntKind.i64.wrap ((IntKind.i64.wrap (j9_0+1))+(IntKind.i64.wrap j8_1))]).bind fun x57=>some (.inl (x57,j8_0,IntKind.i64.wrap (s1_2+1)))))))
def Hn (s1_0:List Int) (s1_2:Int):Int×Int→Option (((List Int)×Int×Int)⊕(((List Int)×Int×Int)⊕(Int×(List Int))))
  | (j8_0,j8_1)=>(if 0<((s1_0.length:Nat):Int) then ((ix s1_0 (IntKind.i64.wrap (((s1_0.length:Nat):Int)-1))).bind fun x59=>Rn s1_0 s1_2 j8_0 j8_1 x59) else Rn s1_0 s1_2 j8_0 j8_1 (-1))
def Ho (a0:List Int) (x1:Int×Int×Int) (s1_0:List Int) (s1_1:Int) (s1_2:Int):Int→Option (((List Int)×Int×Int)⊕(((List Int)×Int×Int)⊕(Int×(List Int))))
  | j7_0=>(if (x1.1.tmod 2)=0 then ((f99 a0 s1_1).bind fun x61=>(if x61.2.2=0 then Hn s1_0 s1_2 (x61.2.1,x61.1) else some (.inr (.inl ([],0,x61.2.2))))) else Hn s1_0 s1_2 (s1_1,j7_0))
def Fa (a0:List Int) (x1:Int×Int×Int) (j1_1:Int) (j1_2:Int):(List Int)×Int×Int→Option (((List Int)×Int×Int)⊕(((List Int)×Int×Int)⊕(Int×(List Int))))
  | (s1_0,s1_1,s1_2)=>(if s1_2<(IntKind.i64.wrap (IntKind.u64.wrap (x1.1.tdiv 2))) then (if s1_2=0 then Ho a0 x1 s1_0 s1_1 s1_2 j1_1 else Ho a0 x1 s1_0 s1_1 s1_2 j1_2) else some (.inr (.inr (s1_1,s1_0))))
def Hp (a0:List Int) (a2:List Int) (x1:Int×Int×Int):Int×Int×Int→Option ((List Int)×Int×Int)
  | (j1_0,j1_1,j1_2)=>((loopO (Fa a0 x1 j1_1 j1_2) (a2,j1_0,0)).bind fun y64=>match y64 with|.inl y65=>some y65|.inr (y66,y67)=>some (y67,y66,0))
def f128 (a0:List Int) (a1:Int) (a2:List Int):Option ((List Int)×Int×Int):=((f99 a0 a1).bind fun x1=>(if x1.2.2=0 then (if 65536<(IntKind.u64.wrap (x1.1.tdiv 2)) then some ([],0,9) else (if (x1.1.tmod 2)=1 then ((f99 a0 x1.2.1).bind fun x69=>(if x69.2.2=0 then ((f99 a0 x69.2.1).bind fun x72=>(if x72.2.2=0 then Hp a0 a2 x1 (x72.2.1,x69.1,x72.1) else some ([],0,x72.2.2))) else some ([],0,x69.2.2))) else Hp a0 a2 x1 (x1.2.1,0,0))) else some ([],0,x1.2.2)))
theorem ok128 (a0:List Int) (a1:Int) (a2:List Int) (r:(List Int)×Int×Int) (h:f128 a0 a1 a2=some r):IC Tryz.prog 128 [some (.row 1 true (List.map Bk a2))] [.sl (List.map Aw a0),.val (.int .i64 a1),.own 0 0 a2.length] (.tup [.own 8 0 r.1.length,.val (.int .i64 r.2.1),.val (.int .i64 r.2.2)]) [] [some (.row 1 true (List.map Bk r.1))]:=by
 rw [f128] at h
 refine Qg (N:=112) (rs:=[.tmp 6,.tmp 7,.tmp 8]) Tryz.func128 rfl rfl rfl (Nat.le_of_ble_eq_true rfl)<|Ao [0,1,2] ?_
 obtain ⟨x1,hx1,h⟩:=bO h
 refine Bx [0,2,9,10,11] (ok99 a0 a1 x1 hx1) Tryz.call99 ?_
 refine AW.seq<|Ao [0,2,9,10,11,26] ?_
 rcases Aq h with ⟨c3,h⟩|⟨c3,h⟩
 ·refine Ai rfl (fun q=>q c3) ?_
  refine AW.skip<|Aa<|Eb [0,2,9,10,12] ?_
  refine AW.seq<|Eb [0,2,9,10,12,31] ?_
  rcases Aq h with ⟨c5,h⟩|⟨c5,h⟩
  ·refine Aj rfl c5<|Ao [6,7,8] ?_
   refine AW.ent (Av 6 1 (by decide) rfl) ?_
   refine AW.ent (st':=⟨(Ag (Ag (Ag Az 6 (.own 8 0 0)) 7 (.val (.int .i64 0))) 8 (.val (.int .i64 9))),Bo [] [some (.row 1 true [])],9⟩) ?_ ?_
   · refine Bu [192] _ _ _ rfl (by first|decide|simp) rfl ?_ ?_ ?_
     · exact RF.any.qo.qv.qv
     · exact .nil _
     · exact .ce (.nil _)
   refine AW.ret<|Ad ?_
   obtain rfl:=oi h
   exact ⟨rfl,rfl,_,rfl,by first|rfl|simp [Cu,Ae,Ar]⟩
  ·refine Ai rfl c5<|AW.skip<|Aa<|Ao [0,2,9,10,12,13,14] ?_
   refine AW.join (fun s=>⟨(Ag (Ag (Ag (Ag (Ag (Ag (Ag Az 0 (.sl (List.map Aw a0))) 2 (.own 8 0 a2.length)) 9 (.val (.int .u64 x1.1))) 10 (.val (.int .i64 s.1))) 12 (.val (.int .u64 (IntKind.u64.wrap (x1.1.tdiv 2))))) 13 (.val (.int .u64 s.2.1))) 14 (.val (.int .u64 s.2.2))),Bo [] [some (.row 1 true (List.map Bk a2))],9⟩) (fun s=>Hp a0 a2 x1 s=some r) ?_ ?_
   ·refine Eb [0,2,9,10,12,13,14,34] ?_
    rcases Aq h with ⟨c68,h⟩|⟨c68,h⟩
    ·refine Aj rfl c68 ?_
     obtain ⟨x69,hx69,h⟩:=bO h
     refine Bx [0,2,9,10,11,12,13] (ok99 a0 x1.2.1 x69 hx69) Tryz.call99 ?_
     refine AW.seq<|Ao [0,2,9,10,11,12,13,43] ?_
     rcases Aq h with ⟨c71,h⟩|⟨c71,h⟩
     ·refine Ai rfl (fun q=>q c71)<|AW.skip<|Aa ?_
      obtain ⟨x72,hx72,h⟩:=bO h
      refine Bx [0,2,9,10,11,12,13,14] (ok99 a0 x69.2.1 x72 hx72) Tryz.call99 ?_
      refine Ao [0,2,9,10,11,12,13,14,53] ?_
      rcases Aq h with ⟨c73,h⟩|⟨c73,h⟩
      ·refine Ai rfl (fun q=>q c73)<|AW.skip<|Aa ?_
       refine ⟨_,h,?_⟩
       exact Ab [0] RF.any.qv.qo.qv.qv.qv.qv.qv (.nil _) (.ce (.nil _))
      ·refine Aj rfl c73<|Ao [6,7,8] ?_
       refine AW.ent (Av 6 1 (by decide) rfl) ?_
       refine AW.ent (st':=⟨(Ag (Ag (Ag Az 6 (.own 8 0 0)) 7 (.val (.int .i64 0))) 8 (.val (.int .i64 x72.2.2))),Bo [] [some (.row 1 true [])],9⟩) ?_ ?_
       · refine Bu [432] _ _ _ rfl (by first|decide|simp) rfl ?_ ?_ ?_
         · exact RF.any.qo.qv.qv
         · exact .nil _
         · exact .ce (.nil _)
       refine AW.ret<|Ad ?_
       obtain rfl:=oi h
       exact ⟨rfl,rfl,_,rfl,by first|rfl|simp [Cu,Ae,Ar]⟩
     ·refine Aj rfl c71<|Ao [6,7,8] ?_
      refine AW.ent (Av 6 1 (by decide) rfl) ?_
      refine AW.ent (st':=⟨(Ag (Ag (Ag Az 6 (.own 8 0 0)) 7 (.val (.int .i64 0))) 8 (.val (.int .i64 x69.2.2))),Bo [] [some (.row 1 true [])],9⟩) ?_ ?_
      · refine Bu [336] _ _ _ rfl (by first|decide|simp) rfl ?_ ?_ ?_
        · exact RF.any.qo.qv.qv
        · exact .nil _
        · exact .ce (.nil _)
      refine AW.ret<|Ad<|Ad ?_
      obtain rfl:=oi h
      exact ⟨rfl,rfl,_,rfl,by first|rfl|simp [Cu,Ae,Ar]⟩
    ·refine Ai rfl c68<|AW.skip<|Aa ?_
     refine ⟨_,h,?_⟩
     exact Ab [0] RF.any.qv.qo.qv.qv.qv.qv.qv (.nil _) (.ce (.nil _))
   ·clear h
    rintro ⟨j1_0,j1_1,j1_2⟩ h
    rw [Hp] at h
    refine AW.seq<|Ao [0,2,9,10,12,13,14,15] ?_
    refine AW.block ?_
    obtain ⟨y64,hy64,h⟩:=bO h
    refine AW.loopO (fun s=>⟨(Ag (Ag (Ag (Ag (Ag (Ag (Ag (Ag Az 0 (.sl (List.map Aw a0))) 2 (.own 8 0 s.1.length)) 9 (.val (.int .u64 x1.1))) 10 (.val (.int .i64 s.2.1))) 12 (.val (.int .u64 (IntKind.u64.wrap (x1.1.tdiv 2))))) 13 (.val (.int .u64 j1_1))) 14 (.val (.int .u64 j1_2))) 15 (.val (.int .i64 s.2.2))),Bo [] [some (.row 1 true (List.map Bk s.1))],9⟩) (fun y e st'=>match y with|.inl z=>e=Exit.ret∧finI Tryz.prog [.tmp 6,.tmp 7,.tmp 8] (.tup [.own 8 0 z.1.length,.val (.int .i64 z.2.1),.val (.int .i64 z.2.2)]) [] [some (.row 1 true (List.map Bk z.1))] .ret st'|.inr z=>e=Exit.exit 0∧st'=⟨(Ag (Ag Az 2 (.own 8 0 z.2.length)) 10 (.val (.int .i64 z.1))),Bo [] [some (.row 1 true (List.map Bk z.2))],9⟩) hy64 ?_ ?_ ?_
    ·exact Ab [8] RF.any.qv.qo.qv.qv.qv.qv.qv.qv (.nil _) (.ce (.nil _))
    ·clear h hy64
     rintro ⟨s1_0,s1_1,s1_2⟩ x h
     rw [Fa] at h
     refine AW.seq<|Ao [0,2,9,10,12,13,14,15,58] ?_
     rcases Aq h with ⟨c47,h⟩|⟨c47,h⟩
     ·refine Aj rfl c47<|AW.skip<|Aa<|AW.seq<|AW.block<|Ao [0,2,9,10,12,13,14,15,16] ?_
      refine AW.join (fun s=>⟨(Ag (Ag (Ag (Ag (Ag (Ag (Ag (Ag (Ag Az 0 (.sl (List.map Aw a0))) 2 (.own 8 0 s1_0.length)) 9 (.val (.int .u64 x1.1))) 10 (.val (.int .i64 s1_1))) 12 (.val (.int .u64 (IntKind.u64.wrap (x1.1.tdiv 2))))) 13 (.val (.int .u64 j1_1))) 14 (.val (.int .u64 j1_2))) 15 (.val (.int .i64 s1_2))) 16 (.val (.int .u64 s))),Bo [] [some (.row 1 true (List.map Bk s1_0))],9⟩) (fun s=>Ho a0 x1 s1_0 s1_1 s1_2 s=some x) ?_ ?_
      ·refine Eb [0,2,9,10,12,13,14,15,16,63] ?_
       rcases Aq h with ⟨c63,h⟩|⟨c63,h⟩
       ·refine Aj rfl c63<|Bz [0,2,9,10,12,13,14,15,16] ?_
        refine Aa ?_
        refine ⟨_,h,?_⟩
        exact Ab [8] RF.any.qv.qo.qv.qv.qv.qv.qv.qv.qv (.nil _) (.ce (.nil _))
       ·refine Ai rfl c63<|AW.skip<|Aa ?_
        refine ⟨_,h,?_⟩
        exact Ab [8] RF.any.qv.qo.qv.qv.qv.qv.qv.qv.qv (.nil _) (.ce (.nil _))
      ·clear h
       rintro j7_0 h
       rw [Ho] at h
       refine AW.join (fun s=>⟨(Ag (Ag (Ag (Ag (Ag (Ag (Ag (Ag (Ag Az 0 (.sl (List.map Aw a0))) 2 (.own 8 0 s1_0.length)) 9 (.val (.int .u64 x1.1))) 10 (.val (.int .i64 s.1))) 12 (.val (.int .u64 (IntKind.u64.wrap (x1.1.tdiv 2))))) 13 (.val (.int .u64 j1_1))) 14 (.val (.int .u64 j1_2))) 15 (.val (.int .i64 s1_2))) 16 (.val (.int .u64 s.2))),Bo [] [some (.row 1 true (List.map Bk s1_0))],9⟩) (fun s=>Hn s1_0 s1_2 s=some x) ?_ ?_
       ·refine Eb [0,2,9,10,12,13,14,15,16,67] ?_
        rcases Aq h with ⟨c60,h⟩|⟨c60,h⟩
        ·refine Aj rfl c60 ?_
         obtain ⟨x61,hx61,h⟩:=bO h
         refine Bx [0,2,9,10,11,12,13,14,15,16] (ok99 a0 s1_1 x61 hx61) Tryz.call99 ?_
         refine Ao [0,2,9,10,11,12,13,14,15,16,76] ?_
         rcases Aq h with ⟨c62,h⟩|⟨c62,h⟩
         ·refine Ai rfl (fun q=>q c62)<|AW.skip<|Aa ?_
          refine ⟨_,h,?_⟩
          exact Ab [8] RF.any.qv.qo.qv.qv.qv.qv.qv.qv.qv (.nil _) (.ce (.nil _))
         ·refine Aj rfl c62<|Ao [6,7,8] ?_
          refine AW.ent (Av 6 1 (by decide) rfl) ?_
          refine AW.ent (st':=⟨(Ag (Ag (Ag Az 6 (.own 8 0 0)) 7 (.val (.int .i64 0))) 8 (.val (.int .i64 x61.2.2))),Bo [] [some (.row 1 true [])],9⟩) ?_ ?_
          · refine Bu [161] _ _ _ rfl (by first|decide|simp) rfl ?_ ?_ ?_
            · exact RF.any.qo.qv.qv
            · exact .nil _
            · exact .ce (.nil _)
          refine AW.ret<|Ad<|Bd<|Ad<|Ad ?_
          refine ⟨_,oj h,_,Ent.refl,rfl,?_⟩
          exact ⟨rfl,rfl,_,rfl,by first|rfl|simp [Cu,Ae,Ar]⟩
        ·refine Ai rfl c60<|AW.skip<|Aa ?_
         refine ⟨_,h,?_⟩
         exact Ab [8] RF.any.qv.qo.qv.qv.qv.qv.qv.qv.qv (.nil _) (.ce (.nil _))
       ·clear h
        rintro ⟨j8_0,j8_1⟩ h
        rw [Hn] at h
        refine Eb [0,2,9,10,12,13,14,15,16,17] ?_
        refine AW.join (fun s=>⟨(Ag (Ag (Ag (Ag (Ag (Ag (Ag (Ag (Ag (Ag Az 0 (.sl (List.map Aw a0))) 2 (.own 8 0 s1_0.length)) 9 (.val (.int .u64 x1.1))) 10 (.val (.int .i64 j8_0))) 12 (.val (.int .u64 (IntKind.u64.wrap (x1.1.tdiv 2))))) 13 (.val (.int .u64 j1_1))) 14 (.val (.int .u64 j1_2))) 15 (.val (.int .i64 s1_2))) 16 (.val (.int .u64 j8_1))) 17 (.val (.int .i64 s))),Bo [] [some (.row 1 true (List.map Bk s1_0))],9⟩) (fun s=>Rn s1_0 s1_2 j8_0 j8_1 s=some x) ?_ ?_
        ·refine Eb [0,2,9,10,12,13,14,15,16,17,80] ?_
         rcases Aq h with ⟨c58,h⟩|⟨c58,h⟩
         ·refine Aj rfl c58 ?_
          obtain ⟨x59,hx59,h⟩:=bO h
          obtain ⟨hx59a,hx59b⟩:=ix_some.1 hx59
          refine Dq [0,2,9,10,12,13,14,15,16,17] fun K hK=>?_
          simp only [go_sem,seval,Ah hx59a,hx59b,Cm hx59b]
          subst hK
          refine Aa ?_
          refine ⟨_,h,?_⟩
          exact Ab [8] RF.any.qv.qo.qv.qv.qv.qv.qv.qv.qv.qv (.nil _) (.ce (.nil _))
         ·refine Ai rfl c58<|AW.skip<|Aa ?_
          refine ⟨_,h,?_⟩
          exact Ab [8] RF.any.qv.qo.qv.qv.qv.qv.qv.qv.qv.qv (.nil _) (.ce (.nil _))
        ·clear h
         rintro j9_0 h
         rw [Rn] at h
         refine AW.seq ?_
         rcases Aq h with ⟨c54,h⟩|⟨c54,h⟩
         ·refine Ao [0,2,9,10,12,13,14,15,16,17,101] ?_
          refine Bp rfl rfl<|Ao [6,7,8] ?_
          refine AW.ent (Av 6 1 (by decide) rfl) ?_
          refine AW.ent (st':=⟨(Ag (Ag (Ag Az 6 (.own 8 0 0)) 7 (.val (.int .i64 0))) 8 (.val (.int .i64 9))),Bo [] [some (.row 1 true [])],9⟩) ?_ ?_
          · refine Bu [153] _ _ _ rfl (by first|decide|simp) rfl ?_ ?_ ?_
            · exact RF.any.qo.qv.qv
            · exact .nil _
            · exact .ce (.nil _)
          refine AW.ret<|Ad<|Bd<|Ad<|Ad ?_
          refine ⟨_,oj h,_,Ent.refl,rfl,?_⟩
          exact ⟨rfl,rfl,_,rfl,by first|rfl|simp [Cu,Ae,Ar]⟩
         ·rcases Aq h with ⟨c55,h⟩|⟨c55,h⟩
          ·refine Ao [0,2,9,10,12,13,14,15,16,17,101] ?_
           refine Bp rfl rfl<|Ao [6,7,8] ?_
           refine AW.ent (Av 6 1 (by decide) rfl) ?_
           refine AW.ent (st':=⟨(Ag (Ag (Ag Az 6 (.own 8 0 0)) 7 (.val (.int .i64 0))) 8 (.val (.int .i64 9))),Bo [] [some (.row 1 true [])],9⟩) ?_ ?_
           · refine Bu [153] _ _ _ rfl (by first|decide|simp) rfl ?_ ?_ ?_
             · exact RF.any.qo.qv.qv
             · exact .nil _
             · exact .ce (.nil _)
           refine AW.ret<|Ad<|Bd<|Ad<|Ad ?_
           refine ⟨_,oj h,_,Ent.refl,rfl,?_⟩
           exact ⟨rfl,rfl,_,rfl,by first|rfl|simp [Cu,Ae,Ar]⟩
          ·refine Ao [0,2,9,10,12,13,14,15,16,17,101] ?_
           rcases Aq h with ⟨c56,h⟩|⟨c56,h⟩
           ·refine Aj rfl c56<|Ao [6,7,8] ?_
            refine AW.ent (Av 6 1 (by decide) rfl) ?_
            refine AW.ent (st':=⟨(Ag (Ag (Ag Az 6 (.own 8 0 0)) 7 (.val (.int .i64 0))) 8 (.val (.int .i64 9))),Bo [] [some (.row 1 true [])],9⟩) ?_ ?_
            · refine Bu [153] _ _ _ rfl (by first|decide|simp) rfl ?_ ?_ ?_
              · exact RF.any.qo.qv.qv
              · exact .nil _
              · exact .ce (.nil _)
            refine AW.ret<|Ad<|Bd<|Ad<|Ad ?_
            refine ⟨_,oj h,_,Ent.refl,rfl,?_⟩
            exact ⟨rfl,rfl,_,rfl,by first|rfl|simp [Cu,Ae,Ar]⟩
           ·refine Ai rfl c56<|AW.skip<|Aa ?_
            obtain ⟨x57,hx57,h⟩:=bO h
            obtain ⟨hx57b,hx57e⟩:=appO?_some.1 hx57
            have hx57f:∀id o:Nat,Dw 1 8 id ([[.val (.int .i64 (IntKind.i64.wrap ((IntKind.i64.wrap (j9_0+1))+(IntKind.i64.wrap j8_1))))]]) 0 s1_0.length o (some (.row 1 true (List.map Bk s1_0)))=some ⟨.own id 0 x57.length,[(o,none),(id,some (.row 1 true (List.map Bk x57)))]⟩:=fun id o=>by
              subst hx57e;rw [Bw (by simp) (by simpa using hx57b) (by decide)];first|(simp [Bk];done)|(simp [Bk];omega)
            refine Bz [0,2,9,10,12,13,14,15] ?_
            refine Ax<|Aa<|Bz [0,2,9,10,12,13,14,15] ?_
            refine Aa ?_
            refine ⟨_,oj h,?_⟩
            exact Ab [185] RF.any.qv.qo.qv.qv.qv.qv.qv.qv (.nil _) (.ce (.nil _))
     ·refine Ai rfl c47<|AW.exit<|Af<|Af ?_
      refine ⟨_,oj h,_,?_,rfl,rfl⟩
      exact Ab [8] RF.any.qo.qv (.nil _) (.ce (.nil _))
    ·intro e st' hX
     rcases y64 with y65|⟨y66,y67⟩<;>dsimp only at h hX
     ·obtain ⟨rfl,hf⟩:=hX
      refine ⟨_,Ent.refl,?_⟩
      refine Bd<|Ad ?_
      obtain rfl:=oi h
      exact hf
     ·obtain ⟨rfl,rfl⟩:=hX
      refine ⟨_,Ent.refl,?_⟩
      refine Bc<|Aa<|Ao [6,7,8] ?_
      refine AW.ent (st':=⟨(Ag (Ag (Ag Az 6 (.own 8 0 y67.length)) 7 (.val (.int .i64 y66))) 8 (.val (.int .i64 0))),Bo [] [some (.row 1 true (List.map Bk y67))],9⟩) ?_ ?_
      · refine Bu [8] _ _ _ rfl (by first|decide|simp) rfl ?_ ?_ ?_
        · exact RF.any.qo.qv.qv
        · exact .nil _
        · exact .ce (.nil _)
      refine AW.ret ?_
      obtain rfl:=oi h
      exact ⟨rfl,rfl,_,rfl,by first|rfl|simp [Cu,Ae,Ar]⟩
 ·refine Aj rfl c3<|Ao [6,7,8] ?_
  refine AW.ent (Av 6 1 (by decide) rfl) ?_
  refine AW.ent (st':=⟨(Ag (Ag (Ag Az 6 (.own 8 0 0)) 7 (.val (.int .i64 0))) 8 (.val (.int .i64 x1.2.2))),Bo [] [some (.row 1 true [])],9⟩) ?_ ?_
  · refine Bu [160] _ _ _ rfl (by first|decide|simp) rfl ?_ ?_ ?_
    · exact RF.any.qo.qv.qv
    · exact .nil _
    · exact .ce (.nil _)
  refine AW.ret<|Ad ?_
  obtain rfl:=oi h
  exact ⟨rfl,rfl,_,rfl,by first|rfl|simp [Cu,Ae,Ar]⟩
def Ms (a0:List Int) (x1:Int×Int×Int):Int×(List Int)×Int→Option ((Int×(List Int)×Int)⊕(((List Int)×Int)⊕(Int×(List Int))))
  | (s2_0,s2_1,s2_2)=>(if s2_2<x1.1 then ((f128 a0 s2_0 s2_1).bind fun x26=>(if x26.2.2=0 then some (.inl (x26.2.1,x26.1,IntKind.u64.wrap (s2_2+1))) else some (.inr (.inl ([],x26.2.2))))) else some (.inr (.inr (s2_0,s2_1))))
def f103 (a0:List Int):Option ((List Int)×Int):=((f99 a0 0).bind fun x1=>(if x1.2.2=0 then ((loopO (Ms a0 x1) (x1.2.1,[],0)).bind fun y28=>match y28 with|.inl y29=>some y29|.inr (y30,y31)=>(if y30<(a0.length:Int) then some ([],3) else ((f52 y31).bind fun x33=>(if (strOfNums x33)=(strOfNums a0) then some (y31,0) else some ([],3))))) else some ([],x1.2.2)))
theorem ok103 (a0:List Int) (r:(List Int)×Int) (h:f103 a0=some r):PC Tryz.prog 103 [.sl (List.map Aw a0)] (.tup [.sl (List.map Bk r.1),.val (.int .i64 r.2)]):=by
 rw [f103] at h
 refine Bi (N:=52) (rs:=[.tmp 2,.tmp 3]) Tryz.func103 ?_
 refine Ac [0] ?_
 obtain ⟨x1,hx1,h⟩:=bO h
 refine Bx [0,4,5,6] (ok99 a0 0 x1 hx1) Tryz.call99 ?_
 refine AW.seq<|Ac [0,4,5,6,19] ?_
 rcases Aq h with ⟨c3,h⟩|⟨c3,h⟩
 ·refine Ai rfl (fun q=>q c3) ?_
  refine AW.skip<|Aa<|Ac [0,4,5,7] ?_
  refine AW.seq<|Ac [0,4,5,7,8] ?_
  refine AW.block ?_
  obtain ⟨y28,hy28,h⟩:=bO h
  refine AW.loopO (fun s=>⟨(Ag (Ag (Ag (Ag (Ag Az 0 (.sl (List.map Aw a0))) 4 (.val (.int .u64 x1.1))) 5 (.val (.int .i64 s.1))) 7 (.own 8 0 s.2.1.length)) 8 (.val (.int .u64 s.2.2))),Bo [] [some (.row 1 true (List.map Bk s.2.1))],9⟩) (fun y e st'=>match y with|.inl z=>e=Exit.ret∧Ay Tryz.prog [.tmp 2,.tmp 3] (.tup [.sl (List.map Bk z.1),.val (.int .i64 z.2)]) .ret st'|.inr z=>e=Exit.exit 0∧st'=⟨(Ag (Ag (Ag Az 0 (.sl (List.map Aw a0))) 5 (.val (.int .i64 z.1))) 7 (.own 8 0 z.2.length)),Bo [] [some (.row 1 true (List.map Bk z.2))],9⟩) hy28 ?_ ?_ ?_
  ·refine Ent.trans (Av 7 1 (by decide) rfl) ?_
   exact Ab [128] RF.any.qv.qv.qv.qo.qv (.nil _) (.ce (.nil _))
  ·clear h hy28
   rintro ⟨s2_0,s2_1,s2_2⟩ x h
   rw [Ms] at h
   refine AW.seq<|Ac [0,4,5,7,8,23] ?_
   rcases Aq h with ⟨c25,h⟩|⟨c25,h⟩
   ·refine Aj rfl c25<|AW.skip<|Aa<|AW.seq<|AW.block ?_
    obtain ⟨x26,hx26,h⟩:=bO h
    refine Cb [0,4,8,9,10,11] fun K hK=>?_
    simp only [go_sem,seval]
    refine arC.ok (Br (us':=_) (ok128 a0 s2_0 s2_1 x26 hx26) [8] (.cons (.eq (by simp only [go_sem]) (by first|rfl|simp [Ae,Ap,Cf])) (.nil _)) (.cons (.of rfl) (.cons (.of rfl) (.cons (.of (by first|rfl|simp [Cq,Cf,eq_true c3,eq_true c25])) .nil)))) Tryz.call128 ?_
    simp only [go_sem,seval]
    subst hK
    refine AW.seq<|Ac [0,4,8,9,10,11,35] ?_
    rcases Aq h with ⟨c27,h⟩|⟨c27,h⟩
    ·refine Ai rfl (fun q=>q c27)<|AW.skip<|Aa<|Cd [0,4,5,7,8] ?_
     refine Ax<|Aa<|Cd [0,4,5,7,8] ?_
     refine Aa ?_
     refine ⟨_,oj h,?_⟩
     exact Ab [57] RF.any.qv.qv.qv.qo.qv (.nil _) (.ce (.nil _))
    ·refine Aj rfl c27<|Ac [2,3] ?_
     refine AW.ent (Ent.w (Fe (d:=2) Weak.nil)) ?_
     refine AW.ret<|Ad<|Bd<|Ad<|Ad ?_
     refine ⟨_,oj h,_,Ent.refl,rfl,?_⟩
     (simp only [go_sem,seval,Ay]<;>try simp)
   ·refine Ai rfl c25<|AW.exit<|Af<|Af ?_
    refine ⟨_,oj h,_,?_,rfl,rfl⟩
    exact Ab [8] RF.any.qv.qv.qo (.nil _) (.ce (.nil _))
  ·intro e st' hX
   rcases y28 with y29|⟨y30,y31⟩<;>dsimp only at h hX
   ·obtain ⟨rfl,hf⟩:=hX
    refine ⟨_,Ent.refl,?_⟩
    refine Bd<|Ad ?_
    obtain rfl:=oi h
    exact hf
   ·obtain ⟨rfl,rfl⟩:=hX
    refine ⟨_,Ent.refl,?_⟩
    refine Bc<|Aa<|AW.seq ?_
    rcases Aq h with ⟨c32,h⟩|⟨c32,h⟩
    ·refine Dm [7,50] [0,0,2,7,15,31,63,127,31,287,1023,2047] ?_
     generalize hK:AW Tryz.prog _ _ _=K
     simp only [go_sem,seval,eq_true c3,eq_true c32]
     subst hK
     refine Bp rfl rfl<|Ac [2,3] ?_
     refine AW.ent (Ent.w (Fe (d:=2) Weak.nil)) ?_
     refine AW.ret<|Ad ?_
     obtain rfl:=oi h
     (simp only [go_sem,seval,Ay]<;>try simp)
    ·obtain ⟨x33,hx33,h⟩:=bO h
     refine Sb [7,50] [0,0,2,7,15,31,63,127,31,287,1023,2047] (ok52 y31 x33 hx33) Tryz.call52 ?_
     generalize hK:AW Tryz.prog _ _ _=K
     simp only [go_sem,seval,eq_true c3,eq_false c32,Ce (enc:=Aw) (fun _=>rfl)]
     subst hK
     rcases Aq h with ⟨c34,h⟩|⟨c34,h⟩
     ·refine Ai rfl (fun q=>q c34)<|AW.skip<|Aa<|Ac [2,3] ?_
      refine AW.ent (Ent.still 2 rfl (Fg (sz:=1) (m:=false) rfl (by first|rfl|(simp [Ar];done)|(simp [Ar];omega)) (by simp only [go_sem]))) ?_
      refine AW.ret ?_
      obtain rfl:=oi h
      (simp only [go_sem,seval,eq_true c3,eq_false c32,eq_true c34,Ay]<;>try simp)
     ·refine Aj rfl c34<|Ac [2,3] ?_
      refine AW.ent (Ent.w (Fe (d:=2) Weak.nil)) ?_
      refine AW.ret<|Ad ?_
      obtain rfl:=oi h
      (simp only [go_sem,seval,Ay]<;>try simp)
 ·refine Aj rfl c3<|Ac [2,3] ?_
  refine AW.ent (Ent.w (Fe (d:=2) Weak.nil)) ?_
  refine AW.ret<|Ad ?_
  obtain rfl:=oi h
  (simp only [go_sem,seval,Ay]<;>try simp)
def Cc (v:Int):Int:=if v<1099511627776 then v else 1099511627776
theorem Uh {v:Int} (h:0≤v):0≤Cc v∧Cc v≤1099511627776:=by unfold Cc;split<;>omega
theorem cap_wrap {v:Int} (h:0≤v):IntKind.i64.wrap (minI v 1099511627776)=Cc v:=by
 have e:minI v 1099511627776=Cc v:=by unfold minI Cc;split<;>split<;>omega
 rw [e];have:=Uh h;exact Bf (by omega) (by omega)
def la (l:List Int):Int:=l.getLast?.getD (-1)
theorem la_ix {l:List Int} (h:0<l.length) (hl:l.length≤1000000):ix l (IntKind.i64.wrap ((l.length:Int)-1))=some (la l):=by
 rw [Pf h (by omega),Ep (by omega:l.length-1<l.length)]
 simp [la,List.getLast?_eq_getElem?,show l.length-1<l.length by omega]
theorem la_rng {l:List Int} (h:Dg l) : -1≤la l∧la l≤1048576:=by
 by_cases hn:l=[]
 ·subst hn;exact ⟨by decide,by decide⟩
 ·have h0:0<l.length:=List.length_pos_iff.2 hn
  have:=h.2 (l.length-1) (by omega)
  have e:l.getD (l.length-1) 0=la l:=by
   simp [la,List.getLast?_eq_getElem?,List.getD,show l.length-1<l.length by omega]
  simp only [Lv,decide_eq_true_eq,e] at this
  omega
theorem right_snoc {l:List Int} {x:Int} (h:Dg l) (hl:l.length<65536) (hx:la l<x) (h0:0≤x) (h1:x≤1048576):Dg (l++[x]):=by
 refine ⟨by simp;omega,fun i hi=>?_⟩
 simp only [List.length_append,List.length_singleton] at hi
 have gd:∀j,j<l.length→(l++[x]).getD j 0=l.getD j 0:=fun j hj=>by simp [List.getD,List.getElem?_append_left hj]
 by_cases hlt:i<l.length
 ·have:=h.2 i hlt
  simp only [Lv,decide_eq_true_eq] at this ⊢
  rw [gd i hlt]
  refine ⟨this.1,this.2.1,fun h0=>?_⟩
  rw [gd (i-1) (by omega)];exact this.2.2 h0
 ·have e:i=l.length:=by omega
  subst e
  have ex:(l++[x]).getD l.length 0=x:=by simp [List.getD]
  simp only [Lv,decide_eq_true_eq,ex]
  refine ⟨h0,h1,fun hp=>?_⟩
  rw [gd _ (by omega)]
  have e:l.getD (l.length-1) 0=la l:=by
   simp [la,List.getLast?_eq_getElem?,List.getD,show l.length-1<l.length by omega]
  rw [e];exact hx
theorem add_ok {b:List Int} {at_:Int} {l:List Int} {v:Int} (h:Dg l) (h0:0≤v) :
  (f176 ⟨b,at_,0⟩ l (Cc v)=some (l,⟨b,at_,9⟩)∧(65536≤(l.length:Int)∨1048576<la l+1+v)) ∨
  (f176 ⟨b,at_,0⟩ l (Cc v)=some (l++[la l+1+v],⟨b,at_,0⟩)∧l.length<65536∧la l+1+v≤1048576∧Dg (l++[la l+1+v])):=by
 have hl:=la_rng h
 have hc:=Uh h0
 have w1:IntKind.i64.wrap (la l+1)=la l+1:=Bf (by omega) (by omega)
 have w2:IntKind.i64.wrap (la l+1+Cc v)=la l+1+Cc v:=Bf (by omega) (by omega)
 have e:f176 ⟨b,at_,0⟩ l (Cc v)=Mq ⟨b,at_,0⟩ l (Cc v) (la l):=by
  unfold f176
  by_cases hp:0<((l.length:Nat):Int)
  ·rw [if_pos hp,la_ix (by omega) (by have:=h.1;omega)];rfl
  ·rw [if_neg hp]
   have:l=[]:=List.eq_nil_of_length_eq_zero (by omega)
   subst this;rfl
 rw [e]
 simp only [Mq,if_true,w1,w2]
 by_cases c1:65536≤((l.length:Nat):Int)
 ·rw [if_pos c1]
  exact .inl ⟨by simp only [Ke,if_neg (show ¬(9:Int)=0 by decide)],.inl c1⟩
 ·rw [if_neg c1]
  by_cases c2:1048576<la l+1+Cc v
  ·rw [if_pos c2]
   refine .inl ⟨by simp only [Ke,if_neg (show ¬(9:Int)=0 by decide)],.inr ?_⟩
   unfold Cc at c2;split at c2<;>omega
  ·rw [if_neg c2]
   have e2:Cc v=v:=by
    unfold Cc at c2 ⊢
    by_cases hh:v<1099511627776
    ·rw [if_pos hh]
    ·rw [if_neg hh] at c2;omega
   rw [e2] at c2 ⊢
   refine .inr ⟨?_,by omega,by omega,right_snoc h (by omega) (by omega) (by omega) (by omega)⟩
   simp only [Ke,if_true,e2▸w2,w1,Ct (l:=l) (r:=[la l+1+v]) (by omega) (by simp),Option.bind_some]
theorem add_bad {b:List Int} {at_ e:Int} {l:List Int} {v:Int} (h:l.length≤1000000) (he:e≠0):f176 ⟨b,at_,e⟩ l v=some (l,⟨b,at_,e⟩):=by
 have k:∀x,Mq ⟨b,at_,e⟩ l v x=some (l,⟨b,at_,e⟩):=fun x=>by simp only [Mq,if_neg he,Ke]
 unfold f176
 by_cases hp:0<((l.length:Nat):Int)
 ·rw [if_pos hp,la_ix (by omega) h];exact k _
 ·rw [if_neg hp];exact k _
theorem ref_add {b:List Int} {at_ i v:Int} {l:List Int} (h:Dg l) (h0:0≤v) (h1:v<18446744073709551616) (hi:0≤i∧i≤1000000) :
  ((65536≤(l.length:Int)∨1048576<la l+1+v)→Hn l i (at_,v)=some (.inr (.inl ([],0,9)))) ∧
  (l.length<65536∧la l+1+v≤1048576→Hn l i (at_,v)=some (.inl (l++[la l+1+v],at_,i+1))):=by
 have hl:=la_rng h
 have e:Hn l i (at_,v)=Rn l i at_ v (la l):=by
  simp only [Hn]
  by_cases hp:0<((l.length:Nat):Int)
  ·rw [if_pos hp,la_ix (by omega) (by have:=h.1;omega)];rfl
  ·rw [if_neg hp]
   have:l=[]:=List.eq_nil_of_length_eq_zero (by omega)
   subst this;rfl
 rw [e]
 have w1:IntKind.i64.wrap (la l+1)=la l+1:=Bf (by omega) (by omega)
 simp only [Rn,w1]
 constructor
 ·intro hc
  by_cases c1:65536≤((l.length:Nat):Int)
  ·rw [if_pos c1]
  ·rw [if_neg c1]
   by_cases c2:1048576<v
   ·rw [if_pos c2]
   ·rw [if_neg c2]
    have w2:IntKind.i64.wrap v=v:=Bf (by omega) (by omega)
    have w3:IntKind.i64.wrap (la l+1+v)=la l+1+v:=Bf (by omega) (by omega)
    rw [w2,w3,if_pos (by omega)]
 ·rintro ⟨c1,c2⟩
  have w2:IntKind.i64.wrap v=v:=Bf (by omega) (by omega)
  have w3:IntKind.i64.wrap (la l+1+v)=la l+1+v:=Bf (by omega) (by omega)
  have w4:IntKind.i64.wrap (i+1)=i+1:=Bf (by omega) (by omega)
  rw [if_neg (by omega),if_neg (by omega),w2,w3,if_neg (by omega),Ct (by omega) (by simp),w4]
  rfl
theorem Tq {b:List Int} (hb:Byt b) (hl:b.length≤1000000) (at_:Int) :
  (∃v p,f165 ⟨b,at_,0⟩=some (Cc v,⟨b,p,0⟩)∧f99 b at_=some (v,p,0)∧0≤v∧v<18446744073709551616∧0≤at_∧at_<p∧p≤b.length) ∨
  (∃e,e≠0∧f165 ⟨b,at_,0⟩=some (0,⟨b,0,e⟩)∧f99 b at_=some (0,0,e)):=by
 obtain ⟨⟨v,p,e⟩,h1,h2,h3⟩:=uv_eq hb hl at_
 rcases h3 with ⟨q1,q2,q3,q4,q5,q6⟩|⟨q1,q2,q3⟩
 ·simp only at q1 q2 q3 q4 q5 q6
  subst q1
  exact .inl ⟨v,p,by simp only [f165,if_true,h1,Option.bind_some,cap_wrap q2],h2,q2,q3,q4,q5,q6⟩
 ·simp only at q1 q2 q3
  subst q2 q3
  refine .inr ⟨e,q1,?_,h2⟩
  simp only [f165,if_true,h1,Option.bind_some,cap_wrap (show (0:Int)≤0 by decide)]
  rfl
theorem skip2 {x1:Int×Reader} {b:List Int} {at_ e:Int} {l:List Int} (he:e≠0) {n:Int} (hn:IntKind.i64.wrap (x1.1.tdiv 2)=n) (hn2:n≤65536):∀(j:Nat) (i:Int),0≤i→n-i≤j→loopO (Ic x1) (b,at_,e,l,i)=some (b,at_,e,l)
 | 0,i,h0,h=>Al (by simp only [Ic,hn];rw [if_neg (by omega)])
 | j+1,i,h0,h=>by
  by_cases c:i<n
  ·refine (Bj (s':=(b,at_,e,l,i+1)) ?_).trans (skip2 he hn hn2 j (i+1) (by omega) (by omega))
   simp only [Ic,hn,if_pos c,if_neg he]
   rw [Bf (by omega) (by omega)]
  ·exact Al (by simp only [Ic,hn,if_neg c])
theorem even_loop {b:List Int} (hb:Byt b) (hl:b.length≤1000000) {x1:Int×Reader} {y1:Int×Int×Int} {n j1 j2:Int} (hn:IntKind.i64.wrap (x1.1.tdiv 2)=n) (hn2:n≤65536) (hy:IntKind.i64.wrap (IntKind.u64.wrap (y1.1.tdiv 2))=n) (hev:y1.1.tmod 2=0) :
  ∀(j:Nat) (i at_:Int) (l:List Int),0≤i→n-i≤j→0≤at_→at_≤b.length→Dg l →
  ∃at' e' l',loopO (Ic x1) (b,at_,0,l,i)=some (b,at',e',l')∧((e'=0∧loopO (Fa b y1 j1 j2) (l,at_,i)=some (.inr (at',l'))∧Dg l'∧at_≤at'∧at'≤b.length)∨(e'≠0∧loopO (Fa b y1 j1 j2) (l,at_,i)=some (.inl ([],0,e'))))
 | j,i,at_,l,h0,h,ha,hal,hr=>by
  by_cases c:i<n
  ·have er:∀q,Fa b y1 j1 j2 (l,at_,i)=q↔Ho b y1 l at_ i 0=q:=fun q=>by
    simp only [Fa,hy,if_pos c]
    split<;>simp only [Ho,if_pos hev]
   have ej:Ho b y1 l at_ i 0=(f99 b at_).bind fun x61=>(if x61.2.2=0 then Hn l i (x61.2.1,x61.1) else some (.inr (.inl ([],0,x61.2.2)))):=by simp only [Ho,if_pos hev]
   rcases Tq hb hl at_ with ⟨v,p,n1,n2,n3,n4,n5,n6,n7⟩|⟨e,n1,n2,n3⟩
   ·have ej2:Ho b y1 l at_ i 0=Hn l i (p,v):=by rw [ej,n2];rfl
    obtain ⟨ra,rb⟩:=ref_add (b:=b) (at_:=p) (i:=i) hr n3 n4 ⟨h0,by omega⟩
    rcases add_ok (b:=b) (at_:=p) hr n3 with ⟨a1,a2⟩|⟨a1,a2,a3,a4⟩
    ·refine ⟨p,9,l,?_,.inr ⟨by decide,Al ((er _).2 (ej2.trans (ra a2)))⟩⟩
     refine (Bj (s':=(b,p,9,l,i+1)) ?_).trans (skip2 (by decide) hn hn2 n.toNat (i+1) (by omega) (by omega))
     simp only [Ic,hn,if_pos c,if_true,n1,Option.bind_some,a1]
     rw [Bf (by omega) (by omega)]
    ·cases j with
     | zero=>omega
     | succ j =>
      obtain ⟨at',e',l',k1,k2⟩:=even_loop hb hl (j1:=j1) (j2:=j2) hn hn2 hy hev j (i+1) p (l++[la l+1+v]) (by omega) (by omega) (by omega) n7 a4
      have s1:Ic x1 (b,at_,0,l,i)=some (.inl (b,p,0,l++[la l+1+v],i+1)):=by
       simp only [Ic,hn,if_pos c,if_true,n1,Option.bind_some,a1]
       rw [Bf (by omega) (by omega)]
      have s2:Fa b y1 j1 j2 (l,at_,i)=some (.inl (l++[la l+1+v],p,i+1)):=(er _).2 (ej2.trans (rb ⟨a2,a3⟩))
      refine ⟨at',e',l',(Bj s1).trans k1,?_⟩
      rcases k2 with ⟨q1,q2,q3,q4,q5⟩|⟨q1,q2⟩
      ·exact .inl ⟨q1,(Bj s2).trans q2,q3,by omega,q5⟩
      ·exact .inr ⟨q1,(Bj s2).trans q2⟩
   ·refine ⟨0,e,l,?_,.inr ⟨n1,Al ((er _).2 ?_)⟩⟩
    ·refine (Bj (s':=(b,0,e,l,i+1)) ?_).trans (skip2 n1 hn hn2 n.toNat (i+1) (by omega) (by omega))
     simp only [Ic,hn,if_pos c,if_true,n2,Option.bind_some,add_bad (show l.length≤1000000 by have:=hr.1;omega) n1]
     rw [Bf (by omega) (by omega)]
    ·rw [ej,n3];simp only [Option.bind_some,if_neg n1]
  ·refine ⟨at_,0,l,Al ?_,.inl ⟨rfl,Al ?_,hr,by omega,hal⟩⟩
   ·simp only [Ic,hn,if_neg c]
   ·simp only [Fa,hy,if_neg c]
theorem odd_loop {b:List Int} {x1 x46 x47:Int×Reader} {y1:Int×Int×Int} {n f s:Int} (hn:IntKind.i64.wrap (x1.1.tdiv 2)=n) (hn2:n≤65536) (hy:IntKind.i64.wrap (IntKind.u64.wrap (y1.1.tdiv 2))=n) (hod:¬y1.1.tmod 2=0)
  (hf:x46.1=Cc f) (hs:x47.1=Cc s) (hf0:0≤f∧f<18446744073709551616) (hs0:0≤s∧s<18446744073709551616) {at_:Int} :
  ∀(j:Nat) (i:Int) (l:List Int),0≤i→n-i≤j→Dg l →
  ∃e' l',loopO (Ib x1 x46 x47) (b,at_,0,l,i)=some (b,at_,e',l')∧((e'=0∧loopO (Fa b y1 f s) (l,at_,i)=some (.inr (at_,l'))∧Dg l')∨(e'≠0∧loopO (Fa b y1 f s) (l,at_,i)=some (.inl ([],0,e'))))
 | j,i,l,h0,h,hr=>by
  by_cases c:i<n
  ·obtain ⟨g,g0,g1,er⟩:∃g,(0≤g∧g<18446744073709551616)∧Ib x1 x46 x47 (b,at_,0,l,i)=((f176 ⟨b,at_,0⟩ l (Cc g)).bind fun x68=>some (.inl (x68.2.b,x68.2.at_,x68.2.e,x68.1,IntKind.i64.wrap (i+1))))∧Fa b y1 f s (l,at_,i)=Hn l i (at_,g):=by
    by_cases hz:i=0
    ·refine ⟨f,hf0,?_,?_⟩
     ·simp only [Ib,hn,if_pos c,if_true,if_pos hz,hf]
     ·simp only [Fa,hy,if_pos c,if_pos hz,Ho,if_neg hod]
    ·refine ⟨s,hs0,?_,?_⟩
     ·simp only [Ib,hn,if_pos c,if_true,if_neg hz,hs]
     ·simp only [Fa,hy,if_pos c,if_neg hz,Ho,if_neg hod]
   have w:IntKind.i64.wrap (i+1)=i+1:=Bf (by omega) (by omega)
   obtain ⟨ra,rb⟩:=ref_add (b:=b) (at_:=at_) (i:=i) hr g0.1 g0.2 ⟨h0,by omega⟩
   rcases add_ok (b:=b) (at_:=at_) hr g0.1 with ⟨a1,a2⟩|⟨a1,a2,a3,a4⟩
   ·refine ⟨9,l,?_,.inr ⟨by decide,Al (er.trans (ra a2))⟩⟩
    refine (Bj (s':=(b,at_,9,l,i+1)) (by rw [g1,a1,w];rfl)).trans (Al ?_)
    simp only [Ib,hn,if_neg (show ¬(9:Int)=0 by decide)]
    split<;>rfl
   ·cases j with
    | zero=>omega
    | succ j =>
     obtain ⟨e',l',k1,k2⟩:=odd_loop (b:=b) (at_:=at_) hn hn2 hy hod hf hs hf0 hs0 j (i+1) (l++[la l+1+g]) (by omega) (by omega) a4
     have s1:Ib x1 x46 x47 (b,at_,0,l,i)=some (.inl (b,at_,0,l++[la l+1+g],i+1)):=by rw [g1,a1,w];rfl
     have s2:Fa b y1 f s (l,at_,i)=some (.inl (l++[la l+1+g],at_,i+1)):=er.trans (rb ⟨a2,a3⟩)
     refine ⟨e',l',(Bj s1).trans k1,?_⟩
     rcases k2 with ⟨q1,q2,q3⟩|⟨q1,q2⟩
     ·exact .inl ⟨q1,(Bj s2).trans q2,q3⟩
     ·exact .inr ⟨q1,(Bj s2).trans q2⟩
  ·refine ⟨0,l,Al ?_,.inl ⟨rfl,Al ?_,hr⟩⟩
   ·simp only [Ib,hn,if_neg c]
   ·simp only [Fa,hy,if_neg c]
def f123 (a0:List Int) (a1:Int):Option (Res×Int×Int):=((f145 a0 a1 65536).bind fun x1=>(if x1.2.2=0 then ((f145 a0 x1.2.1 65536).bind fun x4=>(if x4.2.2=0 then ((f146 (Eh x4.1)).bind fun x7=>some (⟨x1.1,⟨#[]⟩,x7.1⟩,x4.2.1,x7.2)) else some (⟨⟨#[]⟩,⟨#[]⟩,[]⟩,0,x4.2.2))) else some (⟨⟨#[]⟩,⟨#[]⟩,[]⟩,0,x1.2.2)))
theorem ok123 (a0:List Int) (a1:Int) (r:Res×Int×Int) (h:f123 a0 a1=some r):PC Tryz.prog 123 [.sl (List.map Aw a0),.val (.int .i64 a1)] (.tup [.agg (Ak r.1),.val (.int .i64 r.2.1),.val (.int .i64 r.2.2)]):=by
 rw [f123] at h
 refine Bi (N:=43) (rs:=[.cell 4 50,.tmp 5,.tmp 6]) Tryz.func123 ?_
 refine Ac [0,1,4] ?_
 obtain ⟨x1,hx1,h⟩:=bO h
 refine Bx [0,4,5,6,7] (ok145 a0 a1 65536 x1 hx1) Tryz.call145 ?_
 refine AW.seq<|Ac [0,4,5,6,7,18] ?_
 rcases Aq h with ⟨c3,h⟩|⟨c3,h⟩
 ·refine Ai rfl (fun q=>q c3) ?_
  refine AW.skip<|Aa ?_
  obtain ⟨x4,hx4,h⟩:=bO h
  refine Bx [4,5,6,7,8] (ok145 a0 x1.2.1 65536 x4 hx4) Tryz.call145 ?_
  refine AW.seq<|Ac [4,5,6,7,8,29] ?_
  rcases Aq h with ⟨c6,h⟩|⟨c6,h⟩
  ·refine Ai rfl (fun q=>q c6) ?_
   refine AW.skip<|Aa ?_
   obtain ⟨x7,hx7,h⟩:=bO h
   refine Cb [4,5,6,7,9] fun K hK=>?_
   simp only [go_sem,seval,Ei (enc:=Aw) (fun _=>rfl)]
   refine arC.of (ok146 (Eh x4.1) x7 hx7) Tryz.call146 ?_
   simp only [go_sem,seval,Ei (enc:=Aw) (fun _=>rfl)]
   subst hK
   refine Ac [4,5,6] ?_
   refine AW.ret ?_
   obtain rfl:=oi h
   (simp only [go_sem,seval,Ay]<;>try simp)
  ·refine Aj rfl c6<|Ac [4,5,6] ?_
   refine AW.ent (Kv 8 rfl rfl (.cons (.of rfl) (.cons (.of rfl) (.cons Weak.nil WeakL.nil)))) ?_
   refine AW.ret<|Ad ?_
   obtain rfl:=oi h
   (simp only [go_sem,seval,Ay]<;>try simp)
 ·refine Aj rfl c3<|Ac [4,5,6] ?_
  refine AW.ent (Kv 8 rfl rfl (.cons (.of rfl) (.cons (.of rfl) (.cons Weak.nil WeakL.nil)))) ?_
  refine AW.ret<|Ad ?_
  obtain rfl:=oi h
  (simp only [go_sem,seval,Ay]<;>try simp)
def Qm (a0:List Int) (x1:Int×Int×Int):Int×(List Res)×Int→Option ((Int×(List Res)×Int)⊕(((List Res)×Int)⊕(Int×(List Res))))
  | (s2_0,s2_1,s2_2)=>(if s2_2<x1.1 then ((f123 a0 s2_0).bind fun x35=>(if x35.2.2=0 then ((Bq s2_1 [x35.1]).bind fun x37=>some (.inl (x35.2.1,x37,IntKind.u64.wrap (s2_2+1)))) else some (.inr (.inl ([],x35.2.2))))) else some (.inr (.inr (s2_0,s2_1))))
def f97 (a0:List Int):Option ((List Res)×Int):=((f122 a0 0).bind fun x1=>(if x1.2.2=0 then (if 65536<x1.1 then some ([],9) else ((loopO (Qm a0 x1) (x1.2.1,[],0)).bind fun y38=>match y38 with|.inl y39=>some y39|.inr (y40,y41)=>(if y40<(a0.length:Int) then some ([],3) else ((f32 y41).bind fun x43=>(if x43=true then some (y41,0) else some ([],3)))))) else some ([],x1.2.2)))
theorem ok97 (a0:List Int) (r:(List Res)×Int) (h:f97 a0=some r):PC Tryz.prog 97 [.sl (List.map Aw a0)] (.tup [.fr 3 (List.map Ak r.1),.val (.int .i64 r.2)]):=by
 rw [f97] at h
 refine Bi (N:=53) (rs:=[.tmp 2,.tmp 3]) Tryz.func97 ?_
 refine Ac [0] ?_
 obtain ⟨x1,hx1,h⟩:=bO h
 refine Bx [0,4,5,6] (ok122 a0 0 x1 hx1) Tryz.call122 ?_
 refine AW.seq<|AW.block<|Ac [0,4,5,6,17] ?_
 rcases Aq h with ⟨c4,h⟩|⟨c4,h⟩
 ·refine Ai rfl (fun q=>q c4) ?_
  refine Ac [0,4,5,21] ?_
  rcases Aq h with ⟨c5,h⟩|⟨c5,h⟩
  ·refine Aj rfl c5<|Ac [2,3] ?_
   refine AW.ent (Av 2 3 (by decide) rfl) ?_
   refine AW.ret<|Bd<|Ad ?_
   obtain rfl:=oi h
   (simp only [go_sem,seval,Ay]<;>try simp)
  ·refine Ai rfl c5<|AW.skip<|Ax<|Aa<|Ac [0,4,5,7] ?_
   refine AW.seq<|Ac [0,5,7,24,25] ?_
   refine AW.block ?_
   obtain ⟨y38,hy38,h⟩:=bO h
   refine AW.loopO (fun s=>⟨(Ag (Ag (Ag (Ag (Ag Az 0 (.sl (List.map Aw a0))) 5 (.val (.int .i64 s.1))) 7 (.own 8 0 s.2.1.length)) 24 (.val (.int .u64 x1.1))) 25 (.val (.int .u64 s.2.2))),Bo [] [some (.row 3 true (List.map Ak s.2.1))],9⟩) (fun y e st'=>match y with|.inl z=>e=Exit.ret∧Ay Tryz.prog [.tmp 2,.tmp 3] (.tup [.fr 3 (List.map Ak z.1),.val (.int .i64 z.2)]) .ret st'|.inr z=>e=Exit.exit 1∧st'=⟨(Ag (Ag (Ag Az 0 (.sl (List.map Aw a0))) 5 (.val (.int .i64 z.1))) 7 (.own 8 0 z.2.length)),Bo [] [some (.row 3 true (List.map Ak z.2))],9⟩) hy38 ?_ ?_ ?_
   ·refine Ent.trans (Av 7 3 (by decide) rfl) ?_
    exact Ab [168] RF.any.qv.qv.qo.qv.qv (.nil _) (.ce (.nil _))
   ·clear h hy38
    rintro ⟨s2_0,s2_1,s2_2⟩ x h
    rw [Qm] at h
    refine Ac [0,5,7,24,25,26] ?_
    refine AW.seq ?_
    rcases Aq h with ⟨c34,h⟩|⟨c34,h⟩
    ·refine Aj rfl c34<|AW.skip<|Aa<|AW.seq<|AW.block ?_
     obtain ⟨x35,hx35,h⟩:=bO h
     refine Bx [0,7,8,9,10,24,25] (ok123 a0 s2_0 x35 hx35) Tryz.call123 ?_
     refine AW.seq<|Ac [0,7,8,9,10,24,25,35] ?_
     rcases Aq h with ⟨c36,h⟩|⟨c36,h⟩
     ·refine Ai rfl (fun q=>q c36)<|AW.skip<|Aa ?_
      obtain ⟨x37,hx37,h⟩:=bO h
      obtain ⟨hx37b,hx37e⟩:=appO?_some.1 hx37
      have hx37f:∀id o:Nat,Dw 3 56 id ([[.val (.string x35.1.Key),.val (.string x35.1.Val),.sl (List.map Bk x35.1.Offs)]]) 0 s2_1.length o (some (.row 3 true (List.map Ak s2_1)))=some ⟨.own id 0 x37.length,[(o,none),(id,some (.row 3 true (List.map Ak x37)))]⟩:=fun id o=>by
        subst hx37e;rw [Bw (by simp) (by simpa using hx37b) (by decide)];first|(simp [Ak];done)|(simp [Ak];omega)
      refine Bz [0,5,7,24,25] ?_
      refine Ax<|Aa<|Cd [0,5,7,24,25] ?_
      refine Aa ?_
      refine ⟨_,oj h,?_⟩
      exact Ab [145] RF.any.qv.qv.qo.qv.qv (.nil _) (.ce (.nil _))
     ·refine Aj rfl c36<|Ao [2,3] ?_
      refine AW.ent (Av 2 3 (by decide) rfl) ?_
      refine AW.ret<|Ad<|Bd<|Ad<|Ad ?_
      refine ⟨_,oj h,_,Ent.refl,rfl,?_⟩
      (simp only [go_sem,seval,Ay]<;>try simp)
    ·refine Ai rfl c34<|AW.exit<|Af<|Af ?_
     refine ⟨_,oj h,_,?_,rfl,rfl⟩
     exact Ab [8] RF.any.qv.qv.qo (.nil _) (.ce (.nil _))
   ·intro e st' hX
    rcases y38 with y39|⟨y40,y41⟩<;>dsimp only at h hX
    ·obtain ⟨rfl,hf⟩:=hX
     refine ⟨_,Ent.refl,?_⟩
     refine Bd<|Ad ?_
     obtain rfl:=oi h
     exact hf
    ·obtain ⟨rfl,rfl⟩:=hX
     refine ⟨_,Ent.refl,?_⟩
     refine Bc<|Aa<|AW.seq ?_
     rcases Aq h with ⟨c42,h⟩|⟨c42,h⟩
     ·refine Ao [7,51] ?_
      refine Bp rfl rfl<|Ac [2,3] ?_
      refine AW.ent (Av 2 3 (by decide) rfl) ?_
      refine AW.ret<|Ad ?_
      obtain rfl:=oi h
      (simp only [go_sem,seval,Ay]<;>try simp)
     ·obtain ⟨x43,hx43,h⟩:=bO h
      refine Kw [7,51] (ok32 y41 x43 hx43) Tryz.call32 ?_
      rcases Aq h with ⟨c44,h⟩|⟨c44,h⟩
      ·refine Bl rfl (by first|(rw [c44];rfl)|simp_all)<|AW.skip<|Aa<|Ao [2,3] ?_
       refine AW.ret ?_
       obtain rfl:=oi h
       (simp only [go_sem,seval,c44,Ay]<;>try simp)
      ·rw [Bool.not_eq_true] at c44
       refine Bp rfl (by first|(rw [c44];rfl)|simp_all)<|Ao [2,3] ?_
       refine AW.ent (Av 2 3 (by decide) rfl) ?_
       refine AW.ret<|Ad ?_
       obtain rfl:=oi h
       (simp only [go_sem,seval,c44,Ay]<;>try simp)
 ·refine Aj rfl c4<|Ac [2,3] ?_
  refine AW.ent (Av 2 3 (by decide) rfl) ?_
  refine AW.ret<|Bd<|Ad ?_
  obtain rfl:=oi h
  (simp only [go_sem,seval,Ay]<;>try simp)
def My (a0:List Int) (x1:Int×Int×Int):Int×(List Res)×Int→Option ((Int×(List Res)×Int)⊕(((List Res)×Int)⊕(Int×(List Res))))
  | (s2_0,s2_1,s2_2)=>(if s2_2<(IntKind.i64.wrap x1.1) then ((f102 a0 s2_0 65536).bind fun x58=>(if x58.2.2=0 then ((f102 a0 x58.2.1 65536).bind fun x61=>(if x61.2.2=0 then ((f103 (Eh x61.1)).bind fun x64=>(if x64.2=0 then ((Bq s2_1 [⟨x58.1,⟨#[]⟩,x64.1⟩]).bind fun x67=>some (.inl (x61.2.1,x67,IntKind.i64.wrap (s2_2+1)))) else some (.inr (.inl ([],x64.2))))) else some (.inr (.inl ([],x61.2.2))))) else some (.inr (.inl ([],x58.2.2))))) else some (.inr (.inr (s2_0,s2_1))))
def f66 (a0:List Int):Option ((List Res)×Int):=((f99 a0 0).bind fun x1=>(if x1.2.2=0 then (if 65536<x1.1 then some ([],9) else ((loopO (My a0 x1) (x1.2.1,[],0)).bind fun y68=>match y68 with|.inl y69=>some y69|.inr (y70,y71)=>(if y70<(a0.length:Int) then some ([],3) else ((f38 y71).bind fun x73=>(if x73=true then some (y71,0) else some ([],3)))))) else some ([],x1.2.2)))
theorem ok66 (a0:List Int) (r:(List Res)×Int) (h:f66 a0=some r):PC Tryz.prog 66 [.sl (List.map Aw a0)] (.tup [.fr 3 (List.map Ak r.1),.val (.int .i64 r.2)]):=by
 rw [f66] at h
 refine Bi (N:=80) (rs:=[.tmp 2,.tmp 3]) Tryz.func66 ?_
 refine Ac [0] ?_
 obtain ⟨x1,hx1,h⟩:=bO h
 refine Bx [0,4,5,6] (ok99 a0 0 x1 hx1) Tryz.call99 ?_
 refine AW.seq<|Ac [0,4,5,6,24] ?_
 rcases Aq h with ⟨c3,h⟩|⟨c3,h⟩
 ·refine Ai rfl (fun q=>q c3) ?_
  refine AW.skip<|Aa<|AW.seq<|Ac [0,4,5,27] ?_
  rcases Aq h with ⟨c5,h⟩|⟨c5,h⟩
  ·refine Aj rfl c5<|Ac [2,3] ?_
   refine AW.ent (Av 2 3 (by decide) rfl) ?_
   refine AW.ret<|Ad ?_
   obtain rfl:=oi h
   (simp only [go_sem,seval,Ay]<;>try simp)
  ·refine Ai rfl c5<|AW.skip<|Aa<|Ac [0,4,5,7] ?_
   refine AW.seq<|Ac [0,4,5,7,8] ?_
   refine AW.block ?_
   obtain ⟨y68,hy68,h⟩:=bO h
   refine AW.loopO (fun s=>⟨(Ag (Ag (Ag (Ag (Ag Az 0 (.sl (List.map Aw a0))) 4 (.val (.int .u64 x1.1))) 5 (.val (.int .i64 s.1))) 7 (.own 8 0 s.2.1.length)) 8 (.val (.int .i64 s.2.2))),Bo [] [some (.row 3 true (List.map Ak s.2.1))],9⟩) (fun y e st'=>match y with|.inl z=>e=Exit.ret∧Ay Tryz.prog [.tmp 2,.tmp 3] (.tup [.fr 3 (List.map Ak z.1),.val (.int .i64 z.2)]) .ret st'|.inr z=>e=Exit.exit 0∧st'=⟨(Ag (Ag (Ag Az 0 (.sl (List.map Aw a0))) 5 (.val (.int .i64 z.1))) 7 (.own 8 0 z.2.length)),Bo [] [some (.row 3 true (List.map Ak z.2))],9⟩) hy68 ?_ ?_ ?_
   ·refine Ent.trans (Av 7 3 (by decide) rfl) ?_
    exact Ab [144] RF.any.qv.qv.qv.qo.qv (.nil _) (.ce (.nil _))
   ·clear h hy68
    rintro ⟨s2_0,s2_1,s2_2⟩ x h
    rw [My] at h
    refine AW.seq<|Ac [0,4,5,7,8,31] ?_
    rcases Aq h with ⟨c57,h⟩|⟨c57,h⟩
    ·refine Aj rfl c57<|AW.skip<|Aa<|AW.seq<|AW.block ?_
     obtain ⟨x58,hx58,h⟩:=bO h
     refine Bx [0,4,7,8,9,10,11] (ok102 a0 s2_0 65536 x58 hx58) Tryz.call102 ?_
     refine AW.seq<|Ac [0,4,7,8,9,10,11,42] ?_
     rcases Aq h with ⟨c60,h⟩|⟨c60,h⟩
     ·refine Ai rfl (fun q=>q c60)<|AW.skip<|Aa ?_
      obtain ⟨x61,hx61,h⟩:=bO h
      refine Bx [0,4,7,8,9,12,13,14] (ok102 a0 x58.2.1 65536 x61 hx61) Tryz.call102 ?_
      refine AW.seq<|Ac [0,4,7,8,9,12,13,14,52] ?_
      rcases Aq h with ⟨c63,h⟩|⟨c63,h⟩
      ·refine Ai rfl (fun q=>q c63)<|AW.skip<|Aa ?_
       obtain ⟨x64,hx64,h⟩:=bO h
       refine Cb [0,4,7,8,9,13,15,16] fun K hK=>?_
       simp only [go_sem,seval,Ei (enc:=Aw) (fun _=>rfl)]
       refine arC.of (ok103 (Eh x61.1) x64 hx64) Tryz.call103 ?_
       simp only [go_sem,seval,Ei (enc:=Aw) (fun _=>rfl)]
       subst hK
       refine AW.seq<|Ac [0,4,7,8,9,13,15,16,61] ?_
       rcases Aq h with ⟨c66,h⟩|⟨c66,h⟩
       ·refine Ai rfl (fun q=>q c66)<|AW.skip<|Aa ?_
        obtain ⟨x67,hx67,h⟩:=bO h
        obtain ⟨hx67b,hx67e⟩:=appO?_some.1 hx67
        have hx67f:∀id o:Nat,Dw 3 56 id ([[.val (.string x58.1),.val (.string ⟨#[]⟩),.sl (List.map Bk x64.1)]]) 0 s2_1.length o (some (.row 3 true (List.map Ak s2_1)))=some ⟨.own id 0 x67.length,[(o,none),(id,some (.row 3 true (List.map Ak x67)))]⟩:=fun id o=>by
          subst hx67e;rw [Bw (by simp) (by simpa using hx67b) (by decide)];first|(simp [Ak];done)|(simp [Ak];omega)
        refine Ao [0,4,7,8,13] ?_
        refine Cd [0,4,5,7,8] ?_
        refine Ax<|Aa<|Cd [0,4,5,7,8] ?_
        refine Aa ?_
        refine ⟨_,oj h,?_⟩
        exact Ab [353] RF.any.qv.qv.qv.qo.qv (.nil _) (.ce (.nil _))
       ·refine Aj rfl c66<|Ac [2,3] ?_
        refine AW.ent (Av 2 3 (by decide) rfl) ?_
        refine AW.ret<|Ad<|Bd<|Ad<|Ad ?_
        refine ⟨_,oj h,_,Ent.refl,rfl,?_⟩
        (simp only [go_sem,seval,Ay]<;>try simp)
      ·refine Aj rfl c63<|Ac [2,3] ?_
       refine AW.ent (Av 2 3 (by decide) rfl) ?_
       refine AW.ret<|Ad<|Bd<|Ad<|Ad ?_
       refine ⟨_,oj h,_,Ent.refl,rfl,?_⟩
       (simp only [go_sem,seval,Ay]<;>try simp)
     ·refine Aj rfl c60<|Ao [2,3] ?_
      refine AW.ent (Av 2 3 (by decide) rfl) ?_
      refine AW.ret<|Ad<|Bd<|Ad<|Ad ?_
      refine ⟨_,oj h,_,Ent.refl,rfl,?_⟩
      (simp only [go_sem,seval,Ay]<;>try simp)
    ·refine Ai rfl c57<|AW.exit<|Af<|Af ?_
     refine ⟨_,oj h,_,?_,rfl,rfl⟩
     exact Ab [8] RF.any.qv.qv.qo (.nil _) (.ce (.nil _))
   ·intro e st' hX
    rcases y68 with y69|⟨y70,y71⟩<;>dsimp only at h hX
    ·obtain ⟨rfl,hf⟩:=hX
     refine ⟨_,Ent.refl,?_⟩
     refine Bd<|Ad ?_
     obtain rfl:=oi h
     exact hf
    ·obtain ⟨rfl,rfl⟩:=hX
     refine ⟨_,Ent.refl,?_⟩
     refine Bc<|Aa<|AW.seq ?_
     rcases Aq h with ⟨c72,h⟩|⟨c72,h⟩
     ·refine Ao [7,78] ?_
      refine Bp rfl rfl<|Ac [2,3] ?_
      refine AW.ent (Av 2 3 (by decide) rfl) ?_
      refine AW.ret<|Ad ?_
      obtain rfl:=oi h
      (simp only [go_sem,seval,Ay]<;>try simp)
     ·obtain ⟨x73,hx73,h⟩:=bO h
      refine Kw [7,78] (ok38 y71 x73 hx73) Tryz.call38 ?_
      rcases Aq h with ⟨c74,h⟩|⟨c74,h⟩
      ·refine Bl rfl (by first|(rw [c74];rfl)|simp_all)<|AW.skip<|Aa<|Ao [2,3] ?_
       refine AW.ret ?_
       obtain rfl:=oi h
       (simp only [go_sem,seval,c74,Ay]<;>try simp)
      ·rw [Bool.not_eq_true] at c74
       refine Bp rfl (by first|(rw [c74];rfl)|simp_all)<|Ao [2,3] ?_
       refine AW.ent (Av 2 3 (by decide) rfl) ?_
       refine AW.ret<|Ad ?_
       obtain rfl:=oi h
       (simp only [go_sem,seval,c74,Ay]<;>try simp)
 ·refine Aj rfl c3<|Ac [2,3] ?_
  refine AW.ent (Av 2 3 (by decide) rfl) ?_
  refine AW.ret<|Ad ?_
  obtain rfl:=oi h
  (simp only [go_sem,seval,Ay]<;>try simp)
theorem half_eq {v:Int} (h0:0≤v) (h1:v<18446744073709551616):IntKind.u64.wrap (v.tdiv 2)=v / 2∧IntKind.i64.wrap ((Cc v).tdiv 2)=Cc v / 2:=by
 have hc:=Uh h0
 constructor
 ·rw [Int.tdiv_eq_ediv_of_nonneg h0,Eg];omega
 ·rw [Int.tdiv_eq_ediv_of_nonneg hc.1,Bf (by omega) (by omega)]
theorem run_eq {b:List Int} (hb:Byt b) (hl:b.length≤1000000) (at_:Int) (l:List Int) (hr:Dg l) :
  ∃at' e' l',f166 ⟨b,at_,0⟩ l=some (l',⟨b,at',e'⟩)∧((e'=0∧f128 b at_ l=some (l',at',0)∧Dg l'∧at_<at'∧at'≤b.length)∨(e'≠0∧f128 b at_ l=some ([],0,e'))):=by
 rcases Tq hb hl at_ with ⟨v,p,n1,n2,n3,n4,n5,n6,n7⟩|⟨e,n1,n2,n3⟩
 rotate_left
 ·refine ⟨0,e,l,?_,.inr ⟨n1,?_⟩⟩
  ·simp only [f166,n2,Option.bind_some]
   rw [if_neg (by decide)]
   simp only [Lg,if_neg n1]
  ·simp only [f128,n3,Option.bind_some,if_neg n1]
 obtain ⟨hh1,hh2⟩:=half_eq n3 n4
 have hc:=Uh n3
 by_cases c:65536<v / 2
 ·have c':65536<Cc v / 2:=by unfold Cc;split<;>omega
  refine ⟨p,9,l,?_,.inr ⟨by decide,?_⟩⟩
  ·simp only [f166,n1,Option.bind_some,hh2,if_pos c',if_true,Lg,if_neg (show ¬(9:Int)=0 by decide)]
  ·simp only [f128,n2,Option.bind_some,if_true,hh1,if_pos c]
 have ev:Cc v=v:=by unfold Cc;rw [if_pos (by omega)]
 rw [ev] at hh2 n1
 have c2:¬ 65536<v / 2:=c
 have hm:v.tmod 2=v % 2:=Int.tmod_eq_emod_of_nonneg n3
 have hy:IntKind.i64.wrap (IntKind.u64.wrap (v.tdiv 2))=v / 2:=by rw [hh1,Bf (by omega) (by omega)]
 by_cases hev:v.tmod 2=0
 ·obtain ⟨at',e',l',k1,k2⟩:=even_loop hb hl (x1:=(v,⟨b,p,0⟩)) (y1:=(v,p,0)) (j1:=0) (j2:=0) hh2 (by omega) hy hev (v / 2).toNat 0 p l (by omega) (by omega) (by omega) n7 hr
  refine ⟨at',e',l',?_,?_⟩
  ·simp only [f166,n1,Option.bind_some,hh2,if_neg c2,Lg,if_true,if_pos hev,k1]
  ·have r:f128 b at_ l=Hp b l (v,p,0) (p,0,0):=by
    simp only [f128,n2,Option.bind_some,if_true,hh1,if_neg c2]
    rw [if_neg (by omega)]
   rcases k2 with ⟨q1,q2,q3,q4,q5⟩|⟨q1,q2⟩
   ·exact .inl ⟨q1,by rw [r];simp only [Hp,q2,Option.bind_some],q3,by omega,q5⟩
   ·exact .inr ⟨q1,by rw [r];simp only [Hp,q2,Option.bind_some]⟩
 ·have hod:v.tmod 2=1:=by omega
  have r0:f128 b at_ l=(f99 b p).bind fun x69=>(if x69.2.2=0 then ((f99 b x69.2.1).bind fun x72=>(if x72.2.2=0 then Hp b l (v,p,0) (x72.2.1,x69.1,x72.1) else some ([],0,x72.2.2))) else some ([],0,x69.2.2)):=by
   simp only [f128,n2,Option.bind_some,if_true,hh1,if_neg c2,if_pos hod]
  have p0:f166 ⟨b,at_,0⟩ l=((f165 ⟨b,p,0⟩).bind fun x46=>((f165 x46.2).bind fun x47=>((loopO (Ib (v,⟨b,p,0⟩) x46 x47) (x47.2.b,x47.2.at_,x47.2.e,l,0)).bind fun y70=>match y70 with|(y71,y72,y73,y74)=>some (y74,⟨y71,y72,y73⟩)))):=by
   simp only [f166,n1,Option.bind_some,hh2,if_neg c2,Lg,if_true,if_neg hev]
  have stop:∀(x46 x47:Int×Reader) (a e:Int),e≠0→loopO (Ib (v,⟨b,p,0⟩) x46 x47) (b,a,e,l,0)=some (b,a,e,l):=fun x46 x47 a e he=>Al (by
   simp only [Ib,if_neg he];split<;>rfl)
  rcases Tq hb hl p with ⟨f,p2,m1,m2,m3,m4,m5,m6,m7⟩|⟨e,m1,m2,m3⟩
  rotate_left
  ·refine ⟨0,e,l,?_,.inr ⟨m1,by rw [r0,m3];simp only [Option.bind_some,if_neg m1]⟩⟩
   have z:f165 ⟨b,0,e⟩=some (0,⟨b,0,e⟩):=by simp only [f165,if_neg m1]
   rw [p0,m2]
   simp only [Option.bind_some,z,stop _ _ _ _ m1]
  rcases Tq hb hl p2 with ⟨s,p3,o1,o2,o3,o4,o5,o6,o7⟩|⟨e,o1,o2,o3⟩
  rotate_left
  ·refine ⟨0,e,l,?_,.inr ⟨o1,by rw [r0,m2];simp only [Option.bind_some,if_true,o3,if_neg o1]⟩⟩
   rw [p0,m1]
   simp only [Option.bind_some,o2,stop _ _ _ _ o1]
  obtain ⟨e',l',k1,k2⟩:=odd_loop (b:=b) (at_:=p3) (x1:=(v,⟨b,p,0⟩)) (x46:=(Cc f,⟨b,p2,0⟩)) (x47:=(Cc s,⟨b,p3,0⟩)) (y1:=(v,p,0)) hh2 (by omega) hy hev rfl rfl ⟨m3,m4⟩ ⟨o3,o4⟩ (v / 2).toNat 0 l (by omega) (by omega) hr
  have r:f128 b at_ l=Hp b l (v,p,0) (p3,f,s):=by rw [r0,m2];simp only [Option.bind_some,if_true,o2]
  refine ⟨p3,e',l',?_,?_⟩
  ·rw [p0,m1]
   simp only [Option.bind_some,o1,k1]
  ·rcases k2 with ⟨q1,q2,q3⟩|⟨q1,q2⟩
   ·exact .inl ⟨q1,by rw [r];simp only [Hp,q2,Option.bind_some],q3,by omega,o7⟩
   ·exact .inr ⟨q1,by rw [r];simp only [Hp,q2,Option.bind_some]⟩
theorem Lu:Dg []:=⟨by simp,fun i h=>by simp at h⟩
theorem runs_eq {b:List Int} (hb:Byt b) (hl:b.length≤1000000):∃r,f146 b=some r∧f103 b=some r∧Dg r.1:=by
 rcases Tq hb hl 0 with ⟨v,p,n1,n2,n3,n4,n5,n6,n7⟩|⟨e,n1,n2,n3⟩
 rotate_left
 ·refine ⟨([],e),?_,?_,Lu⟩
  ·have:loopO (Lh (0,⟨b,0,e⟩)) (b,0,e,[],0)=some (b,0,e,[]):=Al (by simp only [Lh];rw [if_neg (by decide)])
   simp only [f146,n2,Option.bind_some,this,if_neg n1,Kf]
  ·simp only [f103,n3,Option.bind_some,if_neg n1]
 have hc:=Uh n3
 have key:∃r r',loopO (Lh (Cc v,⟨b,p,0⟩)) (b,p,0,[],0)=some r∧loopO (Ms b (v,p,0)) (p,[],0)=some r'∧(∃at' e' l',r=(b,at',e',l')∧((e'=0∧r'=.inr (at',l')∧Dg l'∧at'≤b.length)∨(e'≠0∧r'=.inl ([],e')))):=by
  refine Dr (fun k s t=>∃(at_ i:Int) (l:List Int),s=(b,at_,0,l,i)∧t=(at_,l,i)∧0≤i∧i<at_∧at_≤b.length∧Dg l∧(k:Int)=b.length-at_) ?_ (k:=(b.length-p).toNat) ⟨p,0,[],rfl,rfl,by omega,by omega,n7,Lu,by omega⟩
  rintro k _ _ ⟨at_,i,l,rfl,rfl,h0,h1,h2,hr,hk⟩
  by_cases c:i<v
  ·have c':i<Cc v:=by unfold Cc;split<;>omega
   have w1:IntKind.i64.wrap (i+1)=i+1:=Bf (by omega) (by omega)
   have w2:IntKind.u64.wrap (i+1)=i+1:=by rw [Eg];omega
   obtain ⟨at',e',l',k1,k2⟩:=run_eq hb hl at_ l hr
   have s1:Lh (Cc v,⟨b,p,0⟩) (b,at_,0,l,i)=some (.inl (b,at',e',l',i+1)):=by simp only [Lh,if_pos c',if_true,k1,Option.bind_some,w1]
   rcases k2 with ⟨q1,q2,q3,q4,q5⟩|⟨q1,q2⟩
   ·subst q1
    exact .inl ⟨_,_,(b.length-at').toNat,s1,by simp only [Ms,if_pos c,q2,Option.bind_some,if_true,w2],by omega,at',i+1,l',rfl,rfl,by omega,by omega,q5,q3,by omega⟩
   ·refine .inr ⟨(b,at',e',l'),.inl ([],e'),(Bj s1).trans (Al ?_),Al ?_,at',e',l',rfl,.inr ⟨q1,rfl⟩⟩
    ·simp only [Lh,if_neg q1];split<;>rfl
    ·simp only [Ms,if_pos c,q2,Option.bind_some,if_neg q1]
  ·have c':¬i<Cc v:=by unfold Cc;split<;>omega
   exact .inr ⟨(b,at_,0,l),.inr (at_,l),Al (by simp only [Lh,if_neg c']),Al (by simp only [Ms,if_neg c]),at_,0,l,rfl,.inl ⟨rfl,rfl,hr,h2⟩⟩
 obtain ⟨_,_,k1,k2,at',e',l',rfl,k3⟩:=key
 rcases k3 with ⟨rfl,rfl,hr,h2⟩|⟨he,rfl⟩
 ·by_cases c:at'<(b.length:Int)
  ·refine ⟨([],3),?_,?_,Lu⟩
   ·simp only [f146,n1,Option.bind_some,k1,if_true,if_pos c,Kf,if_neg (show ¬(3:Int)=0 by decide)]
   ·simp only [f103,n2,Option.bind_some,if_true,k2,if_pos c]
  ·obtain ⟨x,x1,x2,x3⟩:=put_eq l' hr
   have e167:f167 b x=some (decide (x=b)):=by
    simp only [f167,str_eq hb x3]
    congr 1
    by_cases h:x=b
    ·subst h;simp
    ·rw [decide_eq_false h,decide_eq_false (fun q=>h q.symm)]
   by_cases hx:x=b
   ·refine ⟨(l',0),?_,?_,hr⟩
    ·simp only [f146,n1,Option.bind_some,k1,if_true,if_neg c,Kf,x1,e167,decide_eq_true hx]
    ·simp only [f103,n2,Option.bind_some,if_true,k2,if_neg c,x2,str_eq x3 hb,if_pos hx]
   ·refine ⟨([],3),?_,?_,Lu⟩
    ·simp only [f146,n1,Option.bind_some,k1,if_true,if_neg c,Kf,x1,e167,decide_eq_false hx,Bool.false_eq_true,if_false]
    ·simp only [f103,n2,Option.bind_some,if_true,k2,if_neg c,x2,str_eq x3 hb,if_neg hx]
 ·refine ⟨([],e'),?_,?_,Lu⟩
  ·simp only [f146,n1,Option.bind_some,k1,if_neg he,Kf]
  ·simp only [f103,n2,Option.bind_some,if_true,k2]
theorem SzB.nil {n:Nat}:SzB n []:=⟨by simp,(fun r h=>by cases h),(fun r h=>by cases h)⟩
theorem index_eq {b:List Int} (hb:Byt b) (hl:b.length≤1000000):∃r,f97 b=some r∧f66 b=some r∧SzB b.length r.1∧r.1.length≤b.length∧(r.2=0→Wu r.1)∧(r.2≠0→r.1=[]):=by
 obtain ⟨⟨v,p,e⟩,h1,h2,h3⟩:=uv_eq hb hl 0
 rcases h3 with ⟨q1,q2,q3,q4,q5,q6⟩|⟨q1,q2,q3⟩
 rotate_left
 ·simp only at q1 q2 q3
  refine ⟨([],e),?_,?_,SzB.nil,by simp,(fun h=>absurd h q1),fun _=>rfl⟩
  ·simp only [f97,h1,Option.bind_some,if_neg q1]
  ·simp only [f66,h2,Option.bind_some,if_neg q1]
 simp only at q1 q2 q3 q4 q5 q6
 subst q1
 by_cases c:65536<v
 ·refine ⟨([],9),?_,?_,SzB.nil,by simp,(fun h=>absurd h (by decide)),fun _=>rfl⟩
  ·simp only [f97,h1,Option.bind_some,if_true,if_pos c]
  ·simp only [f66,h2,Option.bind_some,if_true,if_pos c]
 have wv:IntKind.i64.wrap v=v:=Bf (by omega) (by omega)
 have key:∃r r',loopO (Qm b (v,p,0)) (p,[],0)=some r∧loopO (My b (v,p,0)) (p,[],0)=some r'∧(r=r'∧((∃e,e≠0∧r=.inl ([],e))∨∃at' l,r=.inr (at',l)∧SzB b.length l∧(l.length:Int)≤at'∧at'≤b.length)):=by
  refine Dr (fun k s t=>s=t∧∃(at_ i:Int) (l:List Res),s=(at_,l,i)∧0≤i∧i≤v∧(l.length:Int)≤at_∧at_≤b.length∧SzB b.length l∧(k:Int)=v-i) ?_ (k:=v.toNat) ⟨rfl,p,0,[],rfl,by omega,by omega,by simp;omega,q6,SzB.nil,by omega⟩
  rintro k _ _ ⟨rfl,at_,i,l,rfl,h0,hv,hla,hal,hs,hk⟩
  by_cases ci:i<v
  ·have w1:IntKind.i64.wrap (i+1)=i+1:=Bf (by omega) (by omega)
   have w2:IntKind.u64.wrap (i+1)=i+1:=by rw [Eg];omega
   obtain ⟨⟨s1,a1,e1⟩,t1,t2,t3⟩:=sv_eq hb hl at_
   have k1:=Xy t2
   rcases t3 with ⟨g1,g2,g3,g4⟩|⟨g1,g2⟩
   rotate_left
   ·simp only at g1 g2
    refine .inr ⟨.inl ([],e1),.inl ([],e1),Al ?_,Al ?_,rfl,.inl ⟨e1,g1,rfl⟩⟩
    ·simp only [Qm,if_pos ci,f123,t1,Option.bind_some,if_neg g1]
    ·simp only [My,wv,if_pos ci,t2,Option.bind_some,if_neg g1]
   simp only at g1 g2 g3 g4 k1
   subst g1
   obtain ⟨⟨s2,a2,e2⟩,u1,u2,u3⟩:=sv_eq hb hl a1
   have k2:=Xy u2
   rcases u3 with ⟨g1',g2',g3',g4'⟩|⟨g1',g2'⟩
   rotate_left
   ·simp only at g1' g2'
    refine .inr ⟨.inl ([],e2),.inl ([],e2),Al ?_,Al ?_,rfl,.inl ⟨e2,g1',rfl⟩⟩
    ·simp only [Qm,if_pos ci,f123,t1,Option.bind_some,if_true,u1,if_neg g1']
    ·simp only [My,wv,if_pos ci,t2,Option.bind_some,if_true,u2,if_neg g1']
   simp only at g1' g2' g3' g4' k2
   subst g1'
   obtain ⟨⟨o,e3⟩,o1,o2,o3⟩:=runs_eq (byt_bytesI s2) (show (Eh s2).length≤1000000 by rw [Ar];omega)
   simp only at o3
   have hap:Bq l [(⟨s1,⟨#[]⟩,o⟩:Res)]=some (l++[⟨s1,⟨#[]⟩,o⟩]):=Ct (by have:=hs.len;omega) (by simp)
   by_cases he:e3=0
   ·subst he
    refine .inl ⟨(a2,l++[⟨s1,⟨#[]⟩,o⟩],i+1),(a2,l++[⟨s1,⟨#[]⟩,o⟩],i+1),k-1,?_,?_,by omega,rfl,a2,i+1,_,rfl,by omega,by omega,by simp;omega,by omega,⟨by simp;omega,fun r hr=>?_,fun r hr=>?_⟩,by omega⟩
    ·simp only [Qm,if_pos ci,f123,t1,Option.bind_some,if_true,u1,o1,hap,w2]
    ·simp only [My,wv,if_pos ci,t2,Option.bind_some,if_true,u2,o2,hap,w1]
    ·rcases List.mem_append.1 hr with hr|hr
     ·exact hs.key r hr
     ·simp at hr;subst hr;simp only;omega
    ·rcases List.mem_append.1 hr with hr|hr
     ·exact hs.off r hr
     ·simp at hr;subst hr;have:=o3.1;simp only;omega
   ·refine .inr ⟨.inl ([],e3),.inl ([],e3),Al ?_,Al ?_,rfl,.inl ⟨e3,he,rfl⟩⟩
    ·simp only [Qm,if_pos ci,f123,t1,Option.bind_some,if_true,u1,o1,if_neg he]
    ·simp only [My,wv,if_pos ci,t2,Option.bind_some,if_true,u2,o2,if_neg he]
  ·exact .inr ⟨.inr (at_,l),.inr (at_,l),Al (by simp only [Qm,if_neg ci]),Al (by simp only [My,wv,if_neg ci]),rfl,.inr ⟨at_,l,rfl,hs,hla,hal⟩⟩
 obtain ⟨r,_,k1,k2,rfl,k3⟩:=key
 rcases k3 with ⟨e,he,rfl⟩|⟨at',l,rfl,hs,hla,hal⟩
 ·refine ⟨([],e),?_,?_,SzB.nil,by simp,(fun h=>absurd h he),fun _=>rfl⟩
  ·simp only [f97,h1,Option.bind_some,if_true,if_neg c,k1]
  ·simp only [f66,h2,Option.bind_some,if_true,if_neg c,k2]
 ·by_cases ca:at'<(b.length:Int)
  ·refine ⟨([],3),?_,?_,SzB.nil,by simp,(fun h=>absurd h (by decide)),fun _=>rfl⟩
   ·simp only [f97,h1,Option.bind_some,if_true,if_neg c,k1,if_pos ca]
   ·simp only [f66,h2,Option.bind_some,if_true,if_neg c,k2,if_pos ca]
  ·obtain ⟨w,w1,w2,w3⟩:=right_eq l (hs.le hl)
   cases w with
   | true =>
    refine ⟨(l,0),?_,?_,hs,by simp only;omega,(fun _=>w3.1 rfl),fun h=>absurd rfl h⟩
    ·simp only [f97,h1,Option.bind_some,if_true,if_neg c,k1,if_neg ca,w1]
    ·simp only [f66,h2,Option.bind_some,if_true,if_neg c,k2,if_neg ca,w2]
   | false =>
    refine ⟨([],3),?_,?_,SzB.nil,by simp,(fun h=>absurd h (by decide)),fun _=>rfl⟩
    ·simp only [f97,h1,Option.bind_some,if_true,if_neg c,k1,if_neg ca,w1,Bool.false_eq_true,if_false]
    ·simp only [f66,h2,Option.bind_some,if_true,if_neg c,k2,if_neg ca,w2,Bool.false_eq_true,if_false]
def f95 (a0:List Int):Option ((List Pair)×Int):=((f120 a0 0).bind fun x1=>(if x1.2.2=0 then (if x1.2.1<(a0.length:Int) then some ([],3) else ((f121 x1.1).bind fun x4=>(if x4=true then some (x1.1,x1.2.2) else some ([],3)))) else some (x1.1,x1.2.2)))
theorem ok95 (a0:List Int) (r:(List Pair)×Int) (h:f95 a0=some r):PC Tryz.prog 95 [.sl (List.map Aw a0)] (.tup [.fr 2 (List.map Ca r.1),.val (.int .i64 r.2)]):=by
 rw [f95] at h
 refine Bi (N:=28) (rs:=[.tmp 2,.tmp 3]) Tryz.func95 ?_
 refine Eb [0] ?_
 obtain ⟨x1,hx1,h⟩:=bO h
 refine AW.tC [0,4,5,6] (ok120 a0 0 x1 hx1) Tryz.call120 ?_
 refine AW.seq ?_
 rcases Aq h with ⟨c2,h⟩|⟨c2,h⟩
 ·rcases Aq h with ⟨c3,h⟩|⟨c3,h⟩
  ·refine Re [4,6,25] ?_
   refine Bp rfl rfl<|Re [2,3] ?_
   refine AW.ent (Av 2 2 (by decide) rfl) ?_
   refine AW.ret<|Ad ?_
   obtain rfl:=oi h
   (simp only [go_sem,seval,Ay]<;>try simp)
  ·obtain ⟨x4,hx4,h⟩:=bO h
   refine Cb [4,6,25] fun K hK=>?_
   simp only [go_sem,seval,eq_true c2,eq_false c3]
   refine arC.of (ok121 x1.1 x4 hx4) Tryz.call121 ?_
   simp only [go_sem,seval]
   subst hK
   rcases Aq h with ⟨c5,h⟩|⟨c5,h⟩
   ·refine Bl rfl (by first|(rw [c5];rfl)|simp_all)<|AW.skip<|Aa<|Cb [2,3] fun K hK=>?_
    simp only [go_sem,seval,c5]
    subst hK
    refine AW.ret ?_
    obtain rfl:=oi h
    (simp only [go_sem,seval,c5,Ay]<;>try simp)
   ·rw [Bool.not_eq_true] at c5
    refine Bp rfl (by first|(rw [c5];rfl)|simp_all)<|Ao [2,3] ?_
    refine AW.ent (Av 2 2 (by decide) rfl) ?_
    refine AW.ret<|Ad ?_
    obtain rfl:=oi h
    (simp only [go_sem,seval,c5,Ay]<;>try simp)
 ·refine Ao [4,6,25] ?_
  refine Bl rfl rfl<|AW.skip<|Aa<|Ac [2,3] ?_
  refine AW.ret ?_
  obtain rfl:=oi h
  (simp only [go_sem,seval,Ay]<;>try simp)
def Fs (x1:(List Int)×Int×Int):Int→Option ((List Pair)×Int)
  | j1_0=>(if j1_0=0 then ((f95 x1.1).bind fun x5=>some (x5.1,x5.2)) else some ([],j1_0))
def Ly (a0:List Int):Option ((List Pair)×Int):=((f119 a0 0).bind fun x1=>(if x1.2.2=0 then (if x1.2.1<(a0.length:Int) then Fs x1 3 else Fs x1 x1.2.2) else Fs x1 x1.2.2))
theorem ok94_95 (a0:List Int) (r:(List Pair)×Int) (h:Ly a0=some r):PC Tryz.prog 94 [.sl (List.map Aw a0),.clo (.func 95) [] []] (.tup [.fr 2 (List.map Ca r.1),.val (.int .i64 r.2)]):=by
 rw [Ly] at h
 refine Bi (N:=33) (rs:=[.tmp 4,.tmp 5]) Tryz.func94 ?_
 refine Ac [0,1] ?_
 refine Ao [0,1,6] ?_
 obtain ⟨x1,hx1,h⟩:=bO h
 refine Bx [0,1,6,7,8,9] (ok119 a0 0 x1 hx1) Tryz.call119 ?_
 refine AW.join (fun s=>⟨(Ag (Ag (Ag (Ag Az 1 (.clo (.func 95) [] [])) 6 (.val (.slice none 0 0))) 7 (.own 8 0 x1.1.length)) 9 (.val (.int .i64 s))),Bo [] [some (.row 1 true (List.map Aw x1.1))],9⟩) (fun s=>Fs x1 s=some r) ?_ ?_
 ·rcases Aq h with ⟨c6,h⟩|⟨c6,h⟩
  ·refine Ao [1,6,7,9,23] ?_
   rcases Aq h with ⟨c7,h⟩|⟨c7,h⟩
   ·refine Aj rfl c7<|Bz [1,6,7,9] ?_
    refine Aa ?_
    refine ⟨_,h,?_⟩
    exact Ab [40] RF.any.qt.qv.qo.qv (.nil _) (.ce (.nil _))
   ·refine Ai rfl c7<|AW.skip<|Aa ?_
    refine ⟨_,h,?_⟩
    exact Ab [40] RF.any.qt.qv.qo.qv (.nil _) (.ce (.nil _))
  ·refine Ao [1,6,7,9,23] ?_
   refine Bl rfl rfl<|AW.skip<|Aa ?_
   refine ⟨_,h,?_⟩
   exact Ab [40] RF.any.qt.qv.qo.qv (.nil _) (.ce (.nil _))
 ·clear h
  rintro j1_0 h
  rw [Fs] at h
  refine AW.seq<|Ac [1,6,7,9,25] ?_
  rcases Aq h with ⟨c4,h⟩|⟨c4,h⟩
  ·refine Ai rfl (fun q=>q c4) ?_
   refine AW.skip<|Aa ?_
   obtain ⟨x5,hx5,h⟩:=bO h
   refine Bx [4,5] (ok95 x1.1 x5 hx5) Tryz.call95 ?_
   refine AW.ret ?_
   obtain rfl:=oi h
   (simp only [go_sem,seval,Ay]<;>try simp)
  ·refine Aj rfl c4<|Ac [4,5] ?_
   refine AW.ent (Av 4 2 (by decide) rfl) ?_
   refine AW.ret<|Ad ?_
   obtain rfl:=oi h
   (simp only [go_sem,seval,Ay]<;>try simp)
def Hm (x1:(List Int)×Int×Int):Int→Option ((List Res)×Int)
  | j1_0=>(if j1_0=0 then ((f97 x1.1).bind fun x5=>some (x5.1,x5.2)) else some ([],j1_0))
def Og (a0:List Int):Option ((List Res)×Int):=((f119 a0 0).bind fun x1=>(if x1.2.2=0 then (if x1.2.1<(a0.length:Int) then Hm x1 3 else Hm x1 x1.2.2) else Hm x1 x1.2.2))
theorem ok96_97 (a0:List Int) (r:(List Res)×Int) (h:Og a0=some r):PC Tryz.prog 96 [.sl (List.map Aw a0),.clo (.func 97) [] []] (.tup [.fr 3 (List.map Ak r.1),.val (.int .i64 r.2)]):=by
 rw [Og] at h
 refine Bi (N:=33) (rs:=[.tmp 4,.tmp 5]) Tryz.func96 ?_
 refine Ac [0,1] ?_
 refine Ao [0,1,6] ?_
 obtain ⟨x1,hx1,h⟩:=bO h
 refine Bx [0,1,6,7,8,9] (ok119 a0 0 x1 hx1) Tryz.call119 ?_
 refine AW.join (fun s=>⟨(Ag (Ag (Ag (Ag Az 1 (.clo (.func 97) [] [])) 6 (.val (.slice none 0 0))) 7 (.own 8 0 x1.1.length)) 9 (.val (.int .i64 s))),Bo [] [some (.row 1 true (List.map Aw x1.1))],9⟩) (fun s=>Hm x1 s=some r) ?_ ?_
 ·rcases Aq h with ⟨c6,h⟩|⟨c6,h⟩
  ·refine Ao [1,6,7,9,23] ?_
   rcases Aq h with ⟨c7,h⟩|⟨c7,h⟩
   ·refine Aj rfl c7<|Bz [1,6,7,9] ?_
    refine Aa ?_
    refine ⟨_,h,?_⟩
    exact Ab [40] RF.any.qt.qv.qo.qv (.nil _) (.ce (.nil _))
   ·refine Ai rfl c7<|AW.skip<|Aa ?_
    refine ⟨_,h,?_⟩
    exact Ab [40] RF.any.qt.qv.qo.qv (.nil _) (.ce (.nil _))
  ·refine Ao [1,6,7,9,23] ?_
   refine Bl rfl rfl<|AW.skip<|Aa ?_
   refine ⟨_,h,?_⟩
   exact Ab [40] RF.any.qt.qv.qo.qv (.nil _) (.ce (.nil _))
 ·clear h
  rintro j1_0 h
  rw [Hm] at h
  refine AW.seq<|Ac [1,6,7,9,25] ?_
  rcases Aq h with ⟨c4,h⟩|⟨c4,h⟩
  ·refine Ai rfl (fun q=>q c4) ?_
   refine AW.skip<|Aa ?_
   obtain ⟨x5,hx5,h⟩:=bO h
   refine Bx [4,5] (ok97 x1.1 x5 hx5) Tryz.call97 ?_
   refine AW.ret ?_
   obtain rfl:=oi h
   (simp only [go_sem,seval,Ay]<;>try simp)
  ·refine Aj rfl c4<|Ac [4,5] ?_
   refine AW.ent (Av 4 3 (by decide) rfl) ?_
   refine AW.ret<|Ad ?_
   obtain rfl:=oi h
   (simp only [go_sem,seval,Ay]<;>try simp)
def Sr (x1:(List Pair)×Int):(List Res)×Int→Option (((List Res)×Int)⊕(((List Res)×Int)⊕(List Res)))
  | (s1_0,s1_1)=>(if s1_1<((x1.1.length:Nat):Int) then ((ix x1.1 s1_1).bind fun x24=>((ix s1_0 s1_1).bind fun x25=>(if x25.Key=x24.Key then some (.inl ((s1_0.set s1_1.toNat (⟨x25.Key,x24.Val,x25.Offs⟩:Res)),IntKind.i64.wrap (s1_1+1))) else some (.inr (.inl ([],3)))))) else some (.inr (.inr s1_0)))
def f56 (a0:List Int) (a1:List Int):Option ((List Res)×Int):=((Ly a0).bind fun x1=>(if x1.2=0 then ((Og a1).bind fun x4=>(if x4.2=0 then (if ((x1.1.length:Nat):Int)=((x4.1.length:Nat):Int) then ((loopO (Sr x1) (x4.1,0)).bind fun y27=>match y27 with|.inl y28=>some y28|.inr y29=>some (y29,0)) else some ([],3)) else some ([],x4.2))) else some ([],x1.2)))
theorem ok56 (a0:List Int) (a1:List Int) (r:(List Res)×Int) (h:f56 a0 a1=some r):PC Tryz.prog 56 [.sl (List.map Aw a0),.sl (List.map Aw a1)] (.tup [.fr 3 (List.map Ak r.1),.val (.int .i64 r.2)]):=by
 rw [f56] at h
 refine Bi (N:=55) (rs:=[.tmp 4,.tmp 5]) Tryz.func56 ?_
 refine Ac [0,1] ?_
 obtain ⟨x1,hx1,h⟩:=bO h
 refine Bx [1,6,7] (Pc (us:=[.sl (List.map Aw a0),.val (.func (.func 95) #[] #[])]) (ok94_95 a0 x1 hx1) (by first|rfl|simp [norm,Du,Fp,go_sem])) Tryz.call94 ?_
 refine AW.seq<|Ac [1,6,7,17] ?_
 rcases Aq h with ⟨c3,h⟩|⟨c3,h⟩
 ·refine Ai rfl (fun q=>q c3) ?_
  refine AW.skip<|Aa ?_
  obtain ⟨x4,hx4,h⟩:=bO h
  refine Bx [6,7,8] (Pc (us:=[.sl (List.map Aw a1),.val (.func (.func 97) #[] #[])]) (ok96_97 a1 x4 hx4) (by first|rfl|simp [norm,Du,Fp,go_sem])) Tryz.call96 ?_
  refine AW.seq<|Ac [6,7,8,25] ?_
  rcases Aq h with ⟨c6,h⟩|⟨c6,h⟩
  ·refine Ai rfl (fun q=>q c6) ?_
   refine AW.skip<|Aa<|AW.seq<|Ac [6,8,31] ?_
   rcases Aq h with ⟨c8,h⟩|⟨c8,h⟩
   ·refine Ai rfl (fun q=>q c8) ?_
    refine AW.skip<|Aa<|AW.seq<|Ac [8,32,33,34] ?_
    refine AW.block ?_
    obtain ⟨y27,hy27,h⟩:=bO h
    refine AW.loopO (fun s=>⟨(Ag (Ag (Ag (Ag Az 8 (.own 8 0 s.1.length)) 32 (.own 9 0 x1.1.length)) 33 (.val (.int .i64 ((x1.1.length:Nat):Int)))) 34 (.val (.int .i64 s.2))),Bo [] [some (.row 3 true (List.map Ak s.1)),some (.row 2 true (List.map Ca x1.1))],10⟩) (fun y e st'=>match y with|.inl z=>e=Exit.ret∧Ay Tryz.prog [.tmp 4,.tmp 5] (.tup [.fr 3 (List.map Ak z.1),.val (.int .i64 z.2)]) .ret st'|.inr z=>e=Exit.exit 0∧st'=⟨(Ag Az 8 (.own 8 0 z.length)),Bo [] [some (.row 3 true (List.map Ak z))],9⟩) hy27 ?_ ?_ ?_
    ·exact Ab [104,32] RF.any.qo.qo.qv.qv (.nil _) (.ce (.ce (.nil _)))
    ·clear h hy27
     rintro ⟨s1_0,s1_1⟩ x h
     rw [Sr] at h
     refine Ac [8,32,33,34,35] ?_
     refine AW.seq ?_
     rcases Aq h with ⟨c23,h⟩|⟨c23,h⟩
     ·refine Aj rfl c23<|AW.skip<|Aa<|AW.seq<|AW.block ?_
      obtain ⟨x24,hx24,h⟩:=bO h
      obtain ⟨hx24a,hx24b⟩:=ix_some.1 hx24
      refine Cb [8,9,10,32,33,34] fun K hK=>?_
      simp only [go_sem,seval,Ah hx24a,hx24b,Cm hx24b]
      subst hK
      refine AW.seq ?_
      obtain ⟨x25,hx25,h⟩:=bO h
      obtain ⟨hx25a,hx25b⟩:=ix_some.1 hx25
      refine Dm [8,9,10,32,33,34,46] [0,0,3,7,15,0,32,127] ?_
      generalize hK:AW Tryz.prog _ _ _=K
      simp only [go_sem,seval,Ah hx25a,hx25b,Cm hx25b]
      subst hK
      rcases Aq h with ⟨c26,h⟩|⟨c26,h⟩
      ·refine Ai rfl (fun q=>q c26)<|AW.skip<|Aa<|Dq [8,32,33,34] fun K hK=>?_
       simp only [go_sem,seval,Ah hx25a,hx25b,Cm hx25b,Hz (enc:=Ak) (y:=(⟨x25.Key,x24.Val,x25.Offs⟩:Res)) (r:=[.val (.string x25.Key),.val (.string x24.Val),.sl (List.map Bk x25.Offs)]) rfl]
       subst hK
       refine Ax<|Aa<|Cd [8,32,33,34] ?_
       refine Aa ?_
       refine ⟨_,oj h,?_⟩
       exact Ab [8,9] RF.any.qo.qo.qv.qv (.nil _) (.ce (.ce (.nil _)))
      ·refine Aj rfl c26<|Ac [4,5] ?_
       refine AW.ent (Av 4 3 (by decide) rfl) ?_
       refine AW.ret<|Ad<|Bd<|Ad<|Ad ?_
       refine ⟨_,oj h,_,Ent.refl,rfl,?_⟩
       (simp only [go_sem,seval,Ay]<;>try simp)
     ·refine Ai rfl c23<|AW.exit<|Af<|Af ?_
      refine ⟨_,oj h,_,?_,rfl,rfl⟩
      exact Ab [8] RF.any.qo (.nil _) (.ce (.nil _))
    ·intro e st' hX
     rcases y27 with y28|y29<;>dsimp only at h hX
     ·obtain ⟨rfl,hf⟩:=hX
      refine ⟨_,Ent.refl,?_⟩
      refine Bd<|Ad ?_
      obtain rfl:=oi h
      exact hf
     ·obtain ⟨rfl,rfl⟩:=hX
      refine ⟨_,Ent.refl,?_⟩
      refine Bc<|Aa<|Ac [4,5] ?_
      refine AW.ret ?_
      obtain rfl:=oi h
      (simp only [go_sem,seval,Ay]<;>try simp)
   ·refine Aj rfl c8<|Ac [4,5] ?_
    refine AW.ent (Av 4 3 (by decide) rfl) ?_
    refine AW.ret<|Ad ?_
    obtain rfl:=oi h
    (simp only [go_sem,seval,Ay]<;>try simp)
  ·refine Aj rfl c6<|Ac [4,5] ?_
   refine AW.ent (Av 4 3 (by decide) rfl) ?_
   refine AW.ret<|Ad ?_
   obtain rfl:=oi h
   (simp only [go_sem,seval,Ay]<;>try simp)
 ·refine Aj rfl c3<|Ac [4,5] ?_
  refine AW.ent (Av 4 3 (by decide) rfl) ?_
  refine AW.ret<|Ad ?_
  obtain rfl:=oi h
  (simp only [go_sem,seval,Ay]<;>try simp)
def Na (x6:(List Pair)×Int×Int):(List Res)×Int→Option (((List Res)×Int)⊕(((List Res)×Int)⊕(List Res)))
  | (s1_0,s1_1)=>(if s1_1<((x6.1.length:Nat):Int) then ((ix x6.1 s1_1).bind fun x37=>((ix s1_0 s1_1).bind fun x38=>(if x37.Key=x38.Key then some (.inl ((s1_0.set s1_1.toNat (⟨x38.Key,x37.Val,x38.Offs⟩:Res)),IntKind.i64.wrap (s1_1+1))) else some (.inr (.inl ([],3)))))) else some (.inr (.inr s1_0)))
def f36 (a0:List Int) (a1:List Int):Option ((List Res)×Int):=((f63 a0 0).bind fun x1=>(if x1.2.2=0 then (if x1.2.1<(a0.length:Int) then some ([],3) else ((f64 x1.1 0).bind fun x6=>(if x6.2.2=0 then (if x6.2.1<(x1.1.length:Int) then some ([],3) else ((f65 x6.1).bind fun x13=>(if x13=true then ((f63 a1 0).bind fun x15=>(if x15.2.2=0 then (if x15.2.1<(a1.length:Int) then some ([],3) else ((f66 x15.1).bind fun x20=>(if x20.2=0 then (if ((x6.1.length:Nat):Int)=((x20.1.length:Nat):Int) then ((loopO (Na x6) (x20.1,0)).bind fun y40=>match y40 with|.inl y41=>some y41|.inr y42=>some (y42,0)) else some ([],3)) else some ([],x20.2)))) else some ([],x15.2.2))) else some ([],3)))) else some ([],x6.2.2)))) else some ([],x1.2.2)))
theorem ok36 (a0:List Int) (a1:List Int) (r:(List Res)×Int) (h:f36 a0 a1=some r):PC Tryz.prog 36 [.sl (List.map Aw a0),.sl (List.map Aw a1)] (.tup [.fr 3 (List.map Ak r.1),.val (.int .i64 r.2)]):=by
 rw [f36] at h
 refine Bi (N:=102) (rs:=[.tmp 4,.tmp 5]) Tryz.func36 ?_
 refine Ac [0,1] ?_
 obtain ⟨x1,hx1,h⟩:=bO h
 refine Bx [0,1,6,7,8] (ok63 a0 0 x1 hx1) Tryz.call63 ?_
 refine AW.seq<|Ac [0,1,6,7,8,25] ?_
 rcases Aq h with ⟨c3,h⟩|⟨c3,h⟩
 ·refine Ai rfl (fun q=>q c3) ?_
  refine AW.skip<|Aa<|AW.seq<|Ac [1,6,30] ?_
  rcases Aq h with ⟨c5,h⟩|⟨c5,h⟩
  ·refine Aj rfl c5<|Ac [4,5] ?_
   refine AW.ent (Av 4 3 (by decide) rfl) ?_
   refine AW.ret<|Ad ?_
   obtain rfl:=oi h
   (simp only [go_sem,seval,Ay]<;>try simp)
  ·refine Ai rfl c5<|AW.skip<|Aa ?_
   obtain ⟨x6,hx6,h⟩:=bO h
   refine Bx [1,6,9,10,11] (ok64 x1.1 0 x6 hx6) Tryz.call64 ?_
   refine AW.seq<|Ao [1,6,9,10,11,38] ?_
   rcases Aq h with ⟨c8,h⟩|⟨c8,h⟩
   ·refine Ai rfl (fun q=>q c8) ?_
    refine AW.skip<|Aa<|AW.seq ?_
    rcases Aq h with ⟨c12,h⟩|⟨c12,h⟩
    ·refine Ao [1,9,48] ?_
     refine Bp rfl rfl<|Ac [4,5] ?_
     refine AW.ent (Av 4 3 (by decide) rfl) ?_
     refine AW.ret<|Ad ?_
     obtain rfl:=oi h
     (simp only [go_sem,seval,Ay]<;>try simp)
    ·obtain ⟨x13,hx13,h⟩:=bO h
     refine Kw [1,9,48] (ok65 x6.1 x13 hx13) Tryz.call65 ?_
     rcases Aq h with ⟨c14,h⟩|⟨c14,h⟩
     ·refine Bl rfl (by first|(rw [c14];rfl)|simp_all)<|AW.skip<|Aa ?_
      obtain ⟨x15,hx15,h⟩:=bO h
      refine Bx [1,9,12,13,14] (ok63 a1 0 x15 hx15) Tryz.call63 ?_
      refine AW.seq<|Ao [1,9,12,13,14,56] ?_
      rcases Aq h with ⟨c17,h⟩|⟨c17,h⟩
      ·refine Ai rfl (fun q=>q c17)<|AW.skip<|Aa<|AW.seq<|Ao [9,12,61] ?_
       rcases Aq h with ⟨c19,h⟩|⟨c19,h⟩
       ·refine Aj rfl c19<|Ao [4,5] ?_
        refine AW.ent (Av 4 3 (by decide) rfl) ?_
        refine AW.ret<|Ad ?_
        obtain rfl:=oi h
        (simp only [go_sem,seval,c14,eq_true c17,eq_true c19,Ay]<;>try simp)
       ·refine Ai rfl c19<|AW.skip<|Aa ?_
        obtain ⟨x20,hx20,h⟩:=bO h
        refine Bx [9,15,16] (ok66 x15.1 x20 hx20) Tryz.call66 ?_
        refine AW.seq<|Ao [9,15,16,68] ?_
        rcases Aq h with ⟨c22,h⟩|⟨c22,h⟩
        ·refine Ai rfl (fun q=>q c22)<|AW.skip<|Aa<|AW.seq<|Ao [9,15,74] ?_
         rcases Aq h with ⟨c24,h⟩|⟨c24,h⟩
         ·refine Ai rfl (fun q=>q c24)<|AW.skip<|Aa<|AW.seq<|Ao [9,15,17] ?_
          refine AW.block ?_
          obtain ⟨y40,hy40,h⟩:=bO h
          refine AW.loopO (fun s=>⟨(Ag (Ag (Ag Az 9 (.own 8 0 x6.1.length)) 15 (.own 9 0 s.1.length)) 17 (.val (.int .i64 s.2))),Bo [] [some (.row 2 true (List.map Ca x6.1)),some (.row 3 true (List.map Ak s.1))],10⟩) (fun y e st'=>match y with|.inl z=>e=Exit.ret∧Ay Tryz.prog [.tmp 4,.tmp 5] (.tup [.fr 3 (List.map Ak z.1),.val (.int .i64 z.2)]) .ret st'|.inr z=>e=Exit.exit 0∧st'=⟨(Ag Az 15 (.own 8 0 z.length)),Bo [] [some (.row 3 true (List.map Ak z))],9⟩) hy40 ?_ ?_ ?_
          ·exact Ab [152,432] RF.any.qo.qo.qv (.nil _) (.ce (.ce (.nil _)))
          ·clear h hy40
           rintro ⟨s1_0,s1_1⟩ x h
           rw [Na] at h
           refine AW.seq<|Eb [9,15,17,78] ?_
           rcases Aq h with ⟨c36,h⟩|⟨c36,h⟩
           ·refine Aj rfl c36<|AW.skip<|Aa<|AW.seq<|AW.block<|AW.seq ?_
            obtain ⟨x37,hx37,h⟩:=bO h
            obtain ⟨hx37a,hx37b⟩:=ix_some.1 hx37
            obtain ⟨x38,hx38,h⟩:=bO h
            obtain ⟨hx38a,hx38b⟩:=ix_some.1 hx38
            refine Dm [9,15,17,91] [0,0,3,7,15,0,0,96,224,480,1023] ?_
            generalize hK:AW Tryz.prog _ _ _=K
            simp only [go_sem,seval,c14,eq_true c17,eq_false c19,eq_true c22,eq_true c24,eq_true c36,Ah hx37a,hx37b,Cm hx37b,Ah hx38a,hx38b,Cm hx38b]
            subst hK
            rcases Aq h with ⟨c39,h⟩|⟨c39,h⟩
            ·refine Ai rfl (fun q=>q c39)<|AW.skip<|Aa<|Dq [9,15,17] fun K hK=>?_
             simp only [go_sem,seval,c14,eq_true c17,eq_false c19,eq_true c22,eq_true c24,eq_true c36,eq_true c39,Ah hx37a,hx37b,Cm hx37b,Ah hx38a,hx38b,Cm hx38b,Hz (enc:=Ak) (y:=(⟨x38.Key,x37.Val,x38.Offs⟩:Res)) (r:=[.val (.string x38.Key),.val (.string x37.Val),.sl (List.map Bk x38.Offs)]) rfl]
             subst hK
             refine Ax<|Aa<|Bz [9,15,17] ?_
             refine Aa ?_
             refine ⟨_,oj h,?_⟩
             exact Ab [8,9] RF.any.qo.qo.qv (.nil _) (.ce (.ce (.nil _)))
            ·refine Aj rfl c39<|Ao [4,5] ?_
             refine AW.ent (Av 4 3 (by decide) rfl) ?_
             refine AW.ret<|Ad<|Bd<|Ad<|Ad ?_
             refine ⟨_,oj h,_,Ent.refl,rfl,?_⟩
             (simp only [go_sem,seval,c14,eq_true c17,eq_false c19,eq_true c22,eq_true c24,eq_true c36,eq_false c39,Ay]<;>try simp)
           ·refine Ai rfl c36<|AW.exit<|Af<|Af ?_
            refine ⟨_,oj h,_,?_,rfl,rfl⟩
            exact Ab [9] RF.any.qo (.nil _) (.ce (.nil _))
          ·intro e st' hX
           rcases y40 with y41|y42<;>dsimp only at h hX
           ·obtain ⟨rfl,hf⟩:=hX
            refine ⟨_,Ent.refl,?_⟩
            refine Bd<|Ad ?_
            obtain rfl:=oi h
            exact hf
           ·obtain ⟨rfl,rfl⟩:=hX
            refine ⟨_,Ent.refl,?_⟩
            refine Bc<|Aa<|Ao [4,5] ?_
            refine AW.ret ?_
            obtain rfl:=oi h
            (simp only [go_sem,seval,c14,eq_true c17,eq_false c19,eq_true c22,eq_true c24,Ay]<;>try simp)
         ·refine Aj rfl c24<|Ao [4,5] ?_
          refine AW.ent (Av 4 3 (by decide) rfl) ?_
          refine AW.ret<|Ad ?_
          obtain rfl:=oi h
          (simp only [go_sem,seval,c14,eq_true c17,eq_false c19,eq_true c22,eq_false c24,Ay]<;>try simp)
        ·refine Aj rfl c22<|Ao [4,5] ?_
         refine AW.ent (Av 4 3 (by decide) rfl) ?_
         refine AW.ret<|Ad ?_
         obtain rfl:=oi h
         (simp only [go_sem,seval,c14,eq_true c17,eq_false c19,eq_false c22,Ay]<;>try simp)
      ·refine Aj rfl c17<|Ao [4,5] ?_
       refine AW.ent (Av 4 3 (by decide) rfl) ?_
       refine AW.ret<|Ad ?_
       obtain rfl:=oi h
       (simp only [go_sem,seval,c14,eq_false c17,Ay]<;>try simp)
     ·rw [Bool.not_eq_true] at c14
      refine Bp rfl (by first|(rw [c14];rfl)|simp_all)<|Ao [4,5] ?_
      refine AW.ent (Av 4 3 (by decide) rfl) ?_
      refine AW.ret<|Ad ?_
      obtain rfl:=oi h
      (simp only [go_sem,seval,c14,Ay]<;>try simp)
   ·refine Aj rfl c8<|Ac [4,5] ?_
    refine AW.ent (Av 4 3 (by decide) rfl) ?_
    refine AW.ret<|Ad ?_
    obtain rfl:=oi h
    (simp only [go_sem,seval,Ay]<;>try simp)
 ·refine Aj rfl c3<|Ac [4,5] ?_
  refine AW.ent (Av 4 3 (by decide) rfl) ?_
  refine AW.ret<|Ad ?_
  obtain rfl:=oi h
  (simp only [go_sem,seval,Ay]<;>try simp)
def Se (x6:(List Pair)×Int×Int) (a1:List Int):Option ((List Res)×Int):=((f63 a1 0).bind fun x15=>(if x15.2.2=0 then (if x15.2.1<(a1.length:Int) then some ([],3) else ((f66 x15.1).bind fun x20=>(if x20.2=0 then (if ((x6.1.length:Nat):Int)=((x20.1.length:Nat):Int) then ((loopO (Na x6) (x20.1,0)).bind fun y40=>match y40 with|.inl y41=>some y41|.inr y42=>some (y42,0)) else some ([],3)) else some ([],x20.2)))) else some ([],x15.2.2)))
theorem out_eq {b:List Int} (hb:Byt b) (hl:b.length≤1000000) :
  (∃e,e≠0∧Ly b=some ([],e)∧∀a1,f36 b a1=some ([],e))∨(∃l q,Ly b=some (l,0)∧l.length≤1000000∧∀a1,f36 b a1=Se (l,q) a1):=by
 obtain ⟨⟨d,p,e⟩,h1,h2,h3,h4⟩:=frame_eq hb hl 0
 simp only at h3 h4
 by_cases he:e=0
 rotate_left
 ·refine .inl ⟨e,he,?_,fun a1=>?_⟩
  ·simp only [Ly,h1,Option.bind_some,if_neg he,Fs]
  ·simp only [f36,h2,Option.bind_some,if_neg he]
 subst he
 by_cases c:p<(b.length:Int)
 ·refine .inl ⟨3,by decide,?_,fun a1=>?_⟩
  ·simp only [Ly,h1,Option.bind_some,if_true,if_pos c,Fs,if_neg (show ¬(3:Int)=0 by decide)]
  ·simp only [f36,h2,Option.bind_some,if_true,if_pos c]
 obtain ⟨⟨l,q,e⟩,k1,k2,k3,k4,k5⟩:=pairs_eq h3 (show d.length≤1000000 by omega)
 simp only at k3 k4 k5
 by_cases he:e=0
 rotate_left
 ·have:=k5 he
  subst this
  refine .inl ⟨e,he,?_,fun a1=>?_⟩
  ·simp only [Ly,h1,Option.bind_some,if_true,if_neg c,Fs,f95,k1,if_neg he]
  ·simp only [f36,h2,Option.bind_some,if_true,if_neg c,k2,if_neg he]
 subst he
 by_cases c2:q<(d.length:Int)
 ·refine .inl ⟨3,by decide,?_,fun a1=>?_⟩
  ·simp only [Ly,h1,Option.bind_some,if_true,if_neg c,Fs,f95,k1,if_pos c2]
  ·simp only [f36,h2,Option.bind_some,if_true,if_neg c,k2,if_pos c2]
 obtain ⟨v,v1,v2,v3⟩:=sorted_eq l (by omega) (fun p hp=>by have:=(k4 p hp).1;omega)
 cases v with
 | true =>
  refine .inr ⟨l,(q,0),?_,by omega,fun a1=>?_⟩
  ·simp only [Ly,h1,Option.bind_some,if_true,if_neg c,Fs,f95,k1,if_neg c2,v1]
  ·simp only [f36,h2,Option.bind_some,if_true,if_neg c,k2,if_neg c2,v2]
   rfl
 | false =>
  refine .inl ⟨3,by decide,?_,fun a1=>?_⟩
  ·simp only [Ly,h1,Option.bind_some,if_true,if_neg c,Fs,f95,k1,if_neg c2,v1,Bool.false_eq_true,if_false]
  ·simp only [f36,h2,Option.bind_some,if_true,if_neg c,k2,if_neg c2,v2,Bool.false_eq_true,if_false]
theorem idx_eq {b:List Int} (hb:Byt b) (hl:b.length≤1000000) :
  (∃e,e≠0∧Og b=some ([],e)∧∀x6,Se x6 b=some ([],e))∨(∃m,Og b=some (m,0)∧SzB b.length m∧m.length≤b.length∧∀x6,Se x6 b=(if ((x6.1.length:Nat):Int)=((m.length:Nat):Int) then ((loopO (Na x6) (m,0)).bind fun y40=>match y40 with|.inl y41=>some y41|.inr y42=>some (y42,0)) else some ([],3))):=by
 obtain ⟨⟨d,p,e⟩,h1,h2,h3,h4⟩:=frame_eq hb hl 0
 simp only at h3 h4
 by_cases he:e=0
 rotate_left
 ·refine .inl ⟨e,he,?_,fun a1=>?_⟩
  ·simp only [Og,h1,Option.bind_some,if_neg he,Hm]
  ·simp only [Se,h2,Option.bind_some,if_neg he]
 subst he
 by_cases c:p<(b.length:Int)
 ·refine .inl ⟨3,by decide,?_,fun a1=>?_⟩
  ·simp only [Og,h1,Option.bind_some,if_true,if_pos c,Hm,if_neg (show ¬(3:Int)=0 by decide)]
  ·simp only [Se,h2,Option.bind_some,if_true,if_pos c]
 obtain ⟨⟨m,e⟩,k1,k2,k3,k4,k5,k6⟩:=index_eq h3 (show d.length≤1000000 by omega)
 simp only at k3 k4 k5 k6
 by_cases he:e=0
 ·subst he
  refine .inr ⟨m,?_,k3.le (by omega),by omega,fun x6=>?_⟩
  ·simp only [Og,h1,Option.bind_some,if_true,if_neg c,Hm,k1]
  ·simp only [Se,h2,Option.bind_some,if_true,if_neg c,k2]
 ·have:=k6 he
  subst this
  refine .inl ⟨e,he,?_,fun x6=>?_⟩
  ·simp only [Og,h1,Option.bind_some,if_true,if_neg c,Hm,k1]
  ·simp only [Se,h2,Option.bind_some,if_true,if_neg c,k2,if_neg he]
theorem vals_eq (l:List Pair) (x1:(List Pair)×Int) (x6:(List Pair)×Int×Int) (e1:x1.1=l) (e6:x6.1=l) {m:List Res} {n:Nat} (hm:SzB n m) (hlm:l.length=m.length) :
  ∃r,loopO (Sr x1) (m,0)=some r∧loopO (Na x6) (m,0)=some r∧(r=.inl ([],3)∨∃m',r=.inr m'∧SzB n m'∧m'.length=m.length):=by
 have hml:=hm.len
 have key:∃r r',loopO (Sr x1) (m,0)=some r∧loopO (Na x6) (m,0)=some r'∧(r=r'∧(r=.inl ([],3)∨∃m',r=.inr m'∧SzB n m'∧m'.length=m.length)):=by
  refine Dr (fun k s t=>s=t∧∃(m':List Res) (i:Nat),s=(m',(i:Int))∧SzB n m'∧m'.length=m.length∧i≤l.length∧k=l.length-i) ?_ (k:=l.length) ⟨rfl,m,0,rfl,hm,rfl,by omega,rfl⟩
  rintro k _ _ ⟨rfl,m',i,rfl,hs,hlen,hi,hk⟩
  by_cases c:i<l.length
  ·have hx:ix l (i:Int)=some l[i]:=Ep c
   have hy:ix m' (i:Int)=some (m'[i]'(by omega)):=Ep (by omega)
   by_cases e:(m'[i]'(by omega)).Key=l[i].Key
   ·refine .inl ⟨(m'.set i ⟨(m'[i]'(by omega)).Key,l[i].Val,(m'[i]'(by omega)).Offs⟩,((i+1:Nat):Int)),(m'.set i ⟨(m'[i]'(by omega)).Key,l[i].Val,(m'[i]'(by omega)).Offs⟩,((i+1:Nat):Int)),k-1,?_,?_,by omega,rfl,_,i+1,rfl,⟨by simp;omega,fun r hr=>?_,fun r hr=>?_⟩,by simp [hlen],by omega,by omega⟩
    ·simp only [Sr,e1,if_pos (show (i:Int)<((l.length:Nat):Int) by omega),hx,hy,Option.bind_some,if_pos e,Int.toNat_natCast,Ch (show i≤10000000000 by omega)]
    ·simp only [Na,e6,if_pos (show (i:Int)<((l.length:Nat):Int) by omega),hx,hy,Option.bind_some,if_pos e.symm,Int.toNat_natCast,Ch (show i≤10000000000 by omega)]
    ·rcases List.mem_or_eq_of_mem_set hr with h|h
     ·exact hs.key r h
     ·subst h;have:=hs.key _ (List.getElem_mem (show i<m'.length by omega));exact this
    ·rcases List.mem_or_eq_of_mem_set hr with h|h
     ·exact hs.off r h
     ·subst h;have:=hs.off _ (List.getElem_mem (show i<m'.length by omega));exact this
   ·refine .inr ⟨.inl ([],3),.inl ([],3),Al ?_,Al ?_,rfl,.inl rfl⟩
    ·simp only [Sr,e1,if_pos (show (i:Int)<((l.length:Nat):Int) by omega),hx,hy,Option.bind_some,if_neg e]
    ·simp only [Na,e6,if_pos (show (i:Int)<((l.length:Nat):Int) by omega),hx,hy,Option.bind_some,if_neg (fun q=>e (Eq.symm q))]
  ·refine .inr ⟨.inr m',.inr m',Al ?_,Al ?_,rfl,.inr ⟨m',rfl,hs,hlen⟩⟩
   ·simp only [Sr,e1,if_neg (show ¬(i:Int)<((l.length:Nat):Int) by omega)]
   ·simp only [Na,e6,if_neg (show ¬(i:Int)<((l.length:Nat):Int) by omega)]
 obtain ⟨r,_,k1,k2,rfl,k3⟩:=key
 exact ⟨r,k1,k2,k3⟩
theorem read_eq {a b:List Int} (ha:Byt a) (hb:Byt b) (hla:a.length≤1000000) (hlb:b.length≤1000000):∃r,f56 a b=some r∧f36 a b=some r∧SzB b.length r.1∧r.1.length≤b.length:=by
 rcases out_eq ha hla with ⟨e,he,h1,h2⟩|⟨l,q,h1,hl,h2⟩
 ·exact ⟨([],e),by simp only [f56,h1,Option.bind_some,if_neg he],h2 b,SzB.nil,by simp⟩
 rcases idx_eq hb hlb with ⟨e,he,k1,k2⟩|⟨m,k1,k3,k4,k2⟩
 ·exact ⟨([],e),by simp only [f56,h1,Option.bind_some,if_true,k1,if_neg he],by rw [h2,k2],SzB.nil,by simp⟩
 by_cases c:((l.length:Nat):Int)=((m.length:Nat):Int)
 ·obtain ⟨r,r1,r2,r3⟩:=vals_eq l (l,0) (l,q) rfl rfl k3 (by omega)
  rcases r3 with rfl|⟨m',rfl,hs,hlen⟩
  ·refine ⟨([],3),?_,?_,SzB.nil,by simp⟩
   ·simp only [f56,h1,Option.bind_some,if_true,k1,if_pos c,r1]
   ·rw [h2,k2,if_pos c,r2];rfl
  ·refine ⟨(m',0),?_,?_,hs,by simp only;omega⟩
   ·simp only [f56,h1,Option.bind_some,if_true,k1,if_pos c,r1]
   ·rw [h2,k2,if_pos c,r2];rfl
 ·refine ⟨([],3),?_,?_,SzB.nil,by simp⟩
  ·simp only [f56,h1,Option.bind_some,if_true,k1,if_neg c]
  ·rw [h2,k2,if_neg c]
end Au
end Go.Proofs.Yt
namespace Go.Gm
theorem CallOk.of_vals {P:Program} {f:FuncId} {us0:List Value} {X:AV} {hp:Am} {id:Nat} (h:PC P f (us0.map .val) X) (hl:(Bt X id).2.length≤8) :
    CallOk P f (us0.map .val) hp id ⟨(Bt X id).1,Hu (Bt X id).2 id⟩:=fun G al loc w vs hM hf hr=>by
  have e:=Gb hr
  subst e
  have hm1:∀b,(G.m1 b∨Cs hp loc b)→b<w.heap.size:=fun b hb=>by
    rcases hb with hb|⟨t,o,l,h1,h2,h3,h4,h5⟩
    · exact Nat.lt_of_lt_of_le (G.m1lt b hb) hM.size
    · exact h4▸hM.lt h3 h5
  have hx:RelL (E0 (fun b=>G.m1 b∨Cs hp loc b) w) (vs.map .val) vs:=Is vs
  refine (Wh (G:=G) (id:=id) (X:=X) (us:=vs.map .val) hM hf h hm1 hx (fun _ b hb=>hb) hl).mono ?_
  rintro e w' ⟨v,loc',rfl,a,b,c⟩
  exact ⟨v,loc',rfl,a,b,c⟩
end Go.Gm
namespace Go.Gm
open Go.RowKit
theorem pc_own0 {P:Program} {f:FuncId} {us:List AV} {sz:Nat} (hsz:0<sz)
    (h:∀(m:Nat→Prop) (w:World) (vs:List Value),(∀b,m b→b<w.heap.size)→RelL (E0 m w) us vs→Calls P f vs.toArray w fun e w'=>∃a Cc,e=.returned (.slice a 0 Cc) ∧
      (Cc=0∨∃c ety,w'.heap[w.heap.size]?=some (.cells c ety (0,0))∧c.size=Cc*sz∧a=some ⟨w.heap.size,0,none⟩)∧Below w.heap.size w w'):PC P f us (.fr sz []):=by
  intro m w vs hm ht hr
  refine (h m w vs hm hr).mono ?_
  rintro e w' ⟨a,Cc,rfl,hrow,hb⟩
  let v:Value:=.slice a 0 Cc
  let hp:Am:=fun t=>if t=0 then some (.row sz true []) else none
  have main:∀(L:Loc),(L.st<L.n→w.heap.size≤L.b)→ObjAt (Bv m hp (fun t=>t=0) (fun t=>if t=0 then some L else none) w') L (.row sz true []) →
      (∃a Cc,v=.slice a 0 Cc∧0<L.sz∧L.st+(0+Cc)*L.sz=L.n∧0≤Cc∧(0<Cc→a=some ⟨L.b,L.st+0*L.sz,none⟩)) →
      ∃v' hp' al loc r ts,Ending.returned v=.returned v'∧Mem ⟨w,fun _=>False,m,hm,0,fun _=>none,Nat.zero_le _,ht⟩ hp' al loc w'∧Rel (Bv m hp' al loc w') r v'∧Cl hp' r=some (.fr sz [],ts)∧ts.Nodup:=fun L hLb hob hv=>by
    have hz:∀t o,hp t=some o→t=0∧o=.row sz true []:=fun t o ho=>by
      by_cases ht:t=0
      · subst ht;simp [hp] at ho;exact ⟨rfl,ho.symm⟩
      · simp [hp,ht] at ho
    have hlz:∀t L',(if t=0 then some L else none)=some L'→t=0∧L'=L:=fun t L' hL=>by
      by_cases ht:t=0
      · subst ht;simp at hL;exact ⟨rfl,hL.symm⟩
      · simp [ht] at hL
    refine ⟨v,hp,fun t=>t=0,fun t=>if t=0 then some L else none,.own 0 0 0,[0],rfl,?_,?_,?_,by simp⟩
    · constructor
      · intro t o ho
        obtain ⟨rfl,rfl⟩:=hz t o ho
        exact ⟨L,rfl,hob⟩
      · intro t ht
        by_cases h0:t=0
        · subst h0;simp [hp] at ht
        · simp [h0]
      · intro t L' hL;exact (hlz t L' hL).1
      · intro t t' L1 L2 h1 h2 _ _ _
        rw [(hlz t L1 h1).1,(hlz t' L2 h2).1]
      · exact hb.os
      · exact hb.tape
      · exact hb.output
      · exact hb.size
      · intro b hlt _;exact hb.block b hlt
      · rintro b ⟨t,o,L',h1,h2,h3,h4,h5⟩ hlt
        obtain ⟨_,rfl⟩:=hlz t L' h3
        have h9:=hLb h5
        have h10:b<w.heap.size:=hlt
        show False
        omega
      · intro t L' hL hpos hmb
        obtain ⟨_,rfl⟩:=hlz t L' hL
        have:=hLb hpos
        have:=hm _ hmb
        omega
      · intro t ht;exact absurd ht (Nat.not_lt_zero t)
      · intro t L' ht;exact absurd ht (Nat.not_lt_zero t)
    · refine .own rfl fun L' hL=>?_
      obtain ⟨_,rfl⟩:=hlz 0 L' hL
      exact hv
    · have:=own_fr (hp:=hp) (t:=0) (n:=0) (sz:=sz) (rows:=[]) rfl (by simp) rfl
      simpa only [Tj] using this
  rcases hrow with rfl|⟨c,ety,hg,hcs,rfl⟩
  · exact main ⟨0,0,sz,0⟩ (fun h=>absurd h (Nat.lt_irrefl _)) ⟨rfl,hsz,by simp,by simp,⟨0,by simp⟩,fun h=>absurd h (Nat.lt_irrefl _)⟩ ⟨a,0,rfl,hsz,by simp,Nat.le_refl _,fun h=>absurd h (Nat.lt_irrefl _)⟩
  · refine main ⟨w.heap.size,0,sz,Cc*sz⟩ (fun _=>Nat.le_refl _) ⟨rfl,hsz,by simp,by simp,⟨Cc,by simp⟩,fun _=>⟨c,ety,(0,0),[],hg,by simpa using hcs,.nil,by simp,by simp,fun k _=>by simp⟩⟩ ⟨some ⟨w.heap.size,0,none⟩,Cc,rfl,hsz,by simp,Nat.zero_le _,fun _=>by simp⟩
end Go.Gm
namespace Go.Proofs
open Go.RowKit Go.Shelf Go.Gm
def Tryz.grow_ren:Go.Shelf.Ren:=⟨fun|4=>104|n=>n,fun|0=>0|3=>3|4=>4|9=>9|20=>20|22=>31|25=>50|n=>n,fun|n=>n⟩
theorem Tryz.growL:Lays8.n4 Tryz.prog Tryz.grow_ren:={
  mixed:=by kernel_rfl
  f4:=⟨Tryz.f104.name,by decide,Tryz.func104.trans (congrArg some (by kernel_rfl))⟩
  t0:=Tryz.underlying0
  a0:=Tryz.isAgg0
  z0:=Tryz.sizeOf0
  v0:=Tryz.zeroValue0
  t3:=Tryz.underlying3
  a3:=Tryz.isAgg3
  z3:=Tryz.sizeOf3
  v3:=Tryz.zeroValue3
  t4:=Tryz.underlying4
  a4:=Tryz.isAgg4
  z4:=Tryz.sizeOf4
  v4:=Tryz.zeroValue4
  t9:=Tryz.underlying9
  a9:=Tryz.isAgg9
  z9:=Tryz.sizeOf9
  v9:=Tryz.zeroValue9
  t20:=Tryz.underlying20
  a20:=Tryz.isAgg20
  z20:=Tryz.sizeOf20
  v20:=Tryz.zeroValue20
  t22:=Tryz.underlying31
  a22:=Tryz.isAgg31
  z22:=Tryz.sizeOf31
  v22:=Tryz.zeroValue31 }
theorem Tryz.growI:(Tryz.prog.info? 50).map (fun i=>(i.zero,i.size,i.bytes))=some (some (.agg #[.string ⟨#[]⟩,.string ⟨#[]⟩,.slice none 0 0]),3,56):=by kernel_rfl
theorem Tryz.grow_new (n:Nat) (hn:n≤1000000) (w:World) :
    Calls Tryz.prog 104 #[.slice none 0 0,.int .i64 n] w fun e w'=>∃a Cc,e=.returned (.slice a 0 Cc) ∧
      (Cc=0∨∃c ety,w'.heap[w.heap.size]?=some (.cells c ety (0,0))∧c.size=Cc*3∧a=some ⟨w.heap.size,0,none⟩)∧Below w.heap.size w w':=by
  by_cases h0:n=0
  · subst h0
    refine (Any8.slices_Grow_room Tryz.growL none 0 0 0 w (by omega) (by omega) (by omega) (by omega)).mono ?_
    rintro e w' ⟨rfl,rfl⟩
    exact ⟨none,0,rfl,.inl rfl,Below.refl _ _⟩
  · obtain ⟨i0,hi,hz,hs,hb⟩:=info_parts Tryz.growI
    refine (Any8.slices_Grow_grow Tryz.growL i0 _ hi hz (by rw [hs];decide) none 0 0 n [] w (by omega) (by omega) (by rw [hb];omega) (by omega) (by simp) (fun _=>rfl) (fun a h=>by cases h)).mono ?_
    rintro e w' ⟨rfl,rfl⟩
    have hcap:=Go.grownCap_ge w (0+n) 0 (Tryz.grow_ren.t 25)
    refine ⟨_,_,rfl,.inr ⟨_,_,World.alloc_heap_new w.drew _,?_,rfl⟩,?_⟩
    · simp [Builtin.zeroCells,Value.cells]
      simp at hcap
      omega
    · exact ((Below.refl _ w).drew).alloc (Nat.le_refl _) _
end Go.Proofs
namespace Go.Proofs.Yt
open Go.Gm
namespace Au
def f104 (a0:List Res) (a1:Int):Option (List Res):=if 0≤a1∧a1≤1000000 then some [] else none
theorem ok104 (a0:List Res) (a1:Int) (r:List Res) (h:f104 a0 a1=some r):PC Tryz.prog 104 [.val (.slice none 0 0),.val (.int .i64 a1)] (.fr 3 (List.map Ak r)):=by
  unfold f104 at h
  split at h
  rotate_left
  · cases h
  rename_i hl
  obtain rfl:=Option.some.inj h
  obtain ⟨n,rfl⟩:=Int.eq_ofNat_of_zero_le hl.1
  refine pc_own0 (sz:=3) (by decide) fun m w vs hm hv=>?_
  have e:=Gb (us:=[.slice none 0 0,.int .i64 n]) hv
  subst e
  exact Tryz.grow_new n (by omega) w
def Vs (a0:List (List Res)):Int×Int→Option ((Int×Int)⊕Int)
  | (s2_0,s2_1)=>(if s2_1<(a0.length:Int) then ((ix a0 s2_1).bind fun x26=>(if (IntKind.i64.wrap (s2_0+(x26.length:Int)))<0 then none else some (.inl (IntKind.i64.wrap (s2_0+(x26.length:Int)),IntKind.i64.wrap (s2_1+1))))) else some (.inr s2_0))
def Vr (a0:List (List Res)):(List Res)×Int→Option (((List Res)×Int)⊕(List Res))
  | (s3_0,s3_1)=>(if s3_1<(a0.length:Int) then ((ix a0 s3_1).bind fun x44=>((Bq s3_0 x44).bind fun x45=>some (.inl (x45,IntKind.i64.wrap (s3_1+1))))) else some (.inr s3_0))
def f72 (a0:List (List Res)):Option (List Res):=((loopO (Vs a0) (0,0)).bind fun y29=>((f104 [] y29).bind fun x30=>((loopO (Vr a0) (x30,0)).bind fun y47=>some y47)))
theorem ok72 (a0:List (List Res)) (r:(List Res)) (h:f72 a0=some r):PC Tryz.prog 72 [.sl (List.map Fv a0)] (.fr 3 (List.map Ak r)):=by
 rw [f72] at h
 refine Bi (N:=36) (rs:=[.tmp 2]) Tryz.func72 ?_
 refine Ac [0] ?_
 refine Ac [0,3] ?_
 refine AW.seq<|Ac [0,3,9,10,11] ?_
 refine AW.block ?_
 obtain ⟨y29,hy29,h⟩:=bO h
 refine AW.loopO (fun s=>⟨(Ag (Ag (Ag (Ag (Ag Az 0 (.sl (List.map Fv a0))) 3 (.val (.int .i64 s.1))) 9 (.sl (List.map Fv a0))) 10 (.val (.int .i64 (a0.length:Int)))) 11 (.val (.int .i64 s.2))),Bo [] [],8⟩) (fun z e st'=>e=Exit.exit 0∧st'=⟨(Ag (Ag Az 0 (.sl (List.map Fv a0))) 3 (.val (.int .i64 z))),Bo [] [],8⟩) hy29 ?_ ?_ ?_
 ·exact Bg RF.any.qv.qv.qv.qv.qv
 ·clear h hy29
  rintro ⟨s2_0,s2_1⟩ x h
  rw [Vs] at h
  refine Ac [0,3,9,10,11,12] ?_
  refine AW.seq ?_
  rcases Aq h with ⟨c25,h⟩|⟨c25,h⟩
  ·refine Aj rfl c25<|AW.skip<|Aa<|AW.seq<|AW.block ?_
   obtain ⟨x26,hx26,h⟩:=bO h
   obtain ⟨hx26a,hx26b⟩:=ix_some.1 hx26
   refine Ao [0,3,5,9,10,11] ?_
   refine Ac [0,3,9,10,11] ?_
   refine Ac [0,3,9,10,11,20] ?_
   rcases Aq h with ⟨c27,h⟩|⟨c27,h⟩
   ·refine Aj rfl c27 ?_
    cases h
   ·refine Ai rfl c27<|AW.skip<|Ax<|Aa<|Cd [0,3,9,10,11] ?_
    refine Aa ?_
    refine ⟨_,oj h,?_⟩
    exact Bg RF.any.qv.qv.qv.qv.qv
  ·refine Ai rfl c25<|AW.exit<|Af<|Af ?_
   refine ⟨_,oj h,_,?_,rfl,rfl⟩
   exact Bg RF.any.qv.qv
 ·intro e st' hX
  try dsimp only at h
  try dsimp only at hX
  obtain ⟨rfl,rfl⟩:=hX
  refine ⟨_,Ent.refl,?_⟩
  refine Bc<|Aa ?_
  obtain ⟨x30,hx30,h⟩:=bO h
  refine Cb [0,6] fun K hK=>?_
  simp only [go_sem,seval]
  refine arC.ok (CallOk.of_vals (us0:=[.slice none 0 0,.int .i64 y29]) (ok104 [] y29 x30 hx30) (by first|decide|simp [go_sem])) Tryz.call104 ?_
  simp only [go_sem,seval]
  subst hK
  refine AW.seq<|Ac [6,25,26,27] ?_
  refine AW.block ?_
  obtain ⟨y47,hy47,h⟩:=bO h
  refine AW.loopO (fun s=>⟨(Ag (Ag (Ag (Ag Az 6 (.own 8 0 s.1.length)) 25 (.sl (List.map Fv a0))) 26 (.val (.int .i64 (a0.length:Int)))) 27 (.val (.int .i64 s.2))),Bo [] [some (.row 3 true (List.map Ak s.1))],9⟩) (fun z e st'=>e=Exit.exit 2∧st'=⟨(Ag Az 6 (.own 8 0 z.length)),Bo [] [some (.row 3 true (List.map Ak z))],9⟩) hy47 ?_ ?_ ?_
  ·exact Ab [16] RF.any.qo.qv.qv.qv (.nil _) (.ce (.nil _))
  ·clear h hy47
   rintro ⟨s3_0,s3_1⟩ x h
   rw [Vr] at h
   refine Ac [6,25,26,27,28] ?_
   refine AW.seq ?_
   rcases Aq h with ⟨c43,h⟩|⟨c43,h⟩
   ·refine Aj rfl c43<|AW.skip<|Aa<|AW.seq<|AW.block ?_
    obtain ⟨x44,hx44,h⟩:=bO h
    obtain ⟨hx44a,hx44b⟩:=ix_some.1 hx44
    refine Ao [6,8,25,26,27] ?_
    obtain ⟨x45,hx45,h⟩:=bO h
    obtain ⟨hx45b,hx45e⟩:=appO?_some.1 hx45
    have hx45f:∀id o:Nat,Dw 3 56 id (List.map Ak x44) 0 s3_0.length o (some (.row 3 true (List.map Ak s3_0)))=some ⟨.own id 0 x45.length,[(o,none),(id,some (.row 3 true (List.map Ak x45)))]⟩:=fun id o=>by
      subst hx45e;rw [Bw (by simp) (by simpa using hx45b) (by decide)];first|(simp [Ak];done)|(simp [Ak];omega)
    refine Bz [6,25,26,27] ?_
    refine Ax<|Aa<|Cd [6,25,26,27] ?_
    refine Aa ?_
    refine ⟨_,oj h,?_⟩
    exact Ab [57] RF.any.qo.qv.qv.qv (.nil _) (.ce (.nil _))
   ·refine Ai rfl c43<|AW.exit<|Af<|Af ?_
    refine ⟨_,oj h,_,?_,rfl,rfl⟩
    exact Ab [8] RF.any.qo (.nil _) (.ce (.nil _))
  ·intro e st' hX
   try dsimp only at h
   try dsimp only at hX
   obtain ⟨rfl,rfl⟩:=hX
   refine ⟨_,Ent.refl,?_⟩
   refine Bc<|Aa<|Ac [2] ?_
   refine AW.ret ?_
   obtain rfl:=oi h
   (simp only [go_sem,seval,Ay]<;>try simp)
def Vw (x1:(List Res)):(List Res)×Int→Option (((List Res)×Int)⊕(List Res))
  | (s1_0,s1_1)=>(if s1_1<((x1.length:Nat):Int) then ((ix s1_0 s1_1).bind fun x15=>((f73 x15.Offs).bind fun x16=>some (.inl ((s1_0.set s1_1.toNat (⟨x15.Key,x15.Val,x16⟩:Res)),IntKind.i64.wrap (s1_1+1))))) else some (.inr s1_0))
def f43 (a0:List (List Res)):Option (List Res):=((f72 a0).bind fun x1=>((loopO (Vw x1) (x1,0)).bind fun y18=>((f74_75 y18).bind fun x19=>((Dt (x19.length=y18.length)).bind fun x20=>some x19))))
theorem ok43 (a0:List (List Res)) (r:(List Res)) (h:f43 a0=some r):PC Tryz.prog 43 [.sl (List.map Fv a0)] (.fr 3 (List.map Ak r)):=by
 rw [f43] at h
 refine Bi (N:=26) (rs:=[.tmp 2]) Tryz.func43 ?_
 refine Ac [0] ?_
 obtain ⟨x1,hx1,h⟩:=bO h
 refine Bx [3] (ok72 a0 x1 hx1) Tryz.call72 ?_
 refine AW.seq<|Ac [3,8,9] ?_
 refine AW.block ?_
 obtain ⟨y18,hy18,h⟩:=bO h
 refine AW.loopO (fun s=>⟨(Ag (Ag (Ag Az 3 (.own 8 0 s.1.length)) 8 (.val (.int .i64 ((x1.length:Nat):Int)))) 9 (.val (.int .i64 s.2))),Bo [] [some (.row 3 true (List.map Ak s.1))],9⟩) (fun z e st'=>e=Exit.exit 0∧st'=⟨(Ag Az 3 (.own 8 0 z.length)),Bo [] [some (.row 3 true (List.map Ak z))],9⟩) hy18 ?_ ?_ ?_
 ·exact Ab [24] RF.any.qo.qv.qv (.nil _) (.ce (.nil _))
 ·clear h hy18
  rintro ⟨s1_0,s1_1⟩ x h
  rw [Vw] at h
  refine Ac [3,8,9,10] ?_
  refine AW.seq ?_
  rcases Aq h with ⟨c14,h⟩|⟨c14,h⟩
  ·refine Aj rfl c14<|AW.skip<|Aa<|AW.seq<|AW.block<|Ac [3,4,8,9] ?_
   obtain ⟨x15,hx15,h⟩:=bO h
   obtain ⟨hx15a,hx15b⟩:=ix_some.1 hx15
   obtain ⟨x16,hx16,h⟩:=bO h
   refine Dq [3,8,9] fun K hK=>?_
   simp only [go_sem,seval,Ah hx15a,hx15b,Cm hx15b,Hz (enc:=Ak) (y:=(⟨x15.Key,x15.Val,x16⟩:Res)) (r:=[.val (.string x15.Key),.val (.string x15.Val),.sl (List.map Bk x16)]) rfl]
   refine arC.of (ok73 x15.Offs x16 hx16) Tryz.call73 ?_
   simp only [go_sem,seval,Ah hx15a,hx15b,Cm hx15b,Hz (enc:=Ak) (y:=(⟨x15.Key,x15.Val,x16⟩:Res)) (r:=[.val (.string x15.Key),.val (.string x15.Val),.sl (List.map Bk x16)]) rfl]
   subst hK
   refine Ax<|Aa<|Cd [3,8,9] ?_
   refine Aa ?_
   refine ⟨_,oj h,?_⟩
   exact Ab [8] RF.any.qo.qv.qv (.nil _) (.ce (.nil _))
  ·refine Ai rfl c14<|AW.exit<|Af<|Af ?_
   refine ⟨_,oj h,_,?_,rfl,rfl⟩
   exact Ab [8] RF.any.qo (.nil _) (.ce (.nil _))
 ·intro e st' hX
  try dsimp only at h
  try dsimp only at hX
  obtain ⟨rfl,rfl⟩:=hX
  refine ⟨_,Ent.refl,?_⟩
  refine Bc<|Aa ?_
  obtain ⟨x19,hx19,h⟩:=bO h
  obtain ⟨x20,hx20,h⟩:=bO h
  have lenhx19:x19.length=y18.length:=guardO_some.1 hx20
  refine Cb [3] fun K hK=>?_
  simp only [go_sem,seval,lenhx19]
  refine arC.ok (Br (us':=_) (ok74_75 y18 x19 hx19) [8] (.cons (.eq (by simp only [go_sem]) (by first|rfl|simp [Ae,Ap,Cf])) (.nil _)) (.cons (.of (by first|rfl|simp [Cq,Cf])) (.cons Weak.fnclo .nil))) Tryz.call74 ?_
  simp only [go_sem,seval,lenhx19]
  subst hK
  refine Ao [2] ?_
  refine AW.ret ?_
  obtain rfl:=oi h
  (simp only [go_sem,seval,lenhx19,Ay]<;>try simp)<;>try omega
end Au
end Go.Proofs.Yt
