import Derived.Test.YtbdncmljibideaaGreatDoorGqUae
import Derived.Test.YtbdncmljibideaaGreatDoorGqUag
import Derived.Test.YtbdncmljibideaaGreatDoorGqUah
import Derived.Test.YtbdncmljibideaaGreatDoorGqUai
import Derived.Test.YtbdncmljibideaaGreatDoorGqUaj
set_option linter.all false
noncomputable section
set_option maxRecDepth 8000
set_option maxHeartbeats 1000000
namespace Go.Proofs.Yt
open Go.Gm
namespace Au
def f51 (a0:ByteArray):Option (List Int):=((f88 (IntKind.u64.wrap (a0.size:Int))).bind fun x1=>((Bq x1 (Eh a0)).bind fun x2=>some x2))
theorem ok51 (a0:ByteArray) (r:(List Int)) (h:f51 a0=some r):PC Tryz.prog 51 [.val (.string a0)] (.fr 1 (List.map Aw r)):=by
 rw [f51] at h
 refine Bi (N:=9) (rs:=[.tmp 2]) Tryz.func51 ?_
 refine Ac [0] ?_
 obtain ⟨x1,hx1,h⟩:=bO h
 obtain ⟨x2,hx2,h⟩:=bO h
 obtain ⟨hx2b,hx2e⟩:=appO?_some.1 hx2
 have hx2f:∀id o:Nat,Dw 1 1 id (List.map Aw (Eh a0)) 0 x1.length o (some (.row 1 true (List.map Aw x1)))=some ⟨.own id 0 x2.length,[(o,none),(id,some (.row 1 true (List.map Aw x2)))]⟩:=fun id o=>by
   subst hx2e;rw [Bw (by simp) (by simpa using hx2b) (by decide)];first|(simp [Aw];done)|(simp [Aw];omega)
 refine Cb [2] fun K hK=>?_
 simp only [go_sem,seval,Ei (enc:=Aw) (fun _=>rfl),hx2f]
 refine arC.of (ok88 (IntKind.u64.wrap (a0.size:Int)) x1 hx1) Tryz.call88 ?_
 simp only [go_sem,seval,Ei (enc:=Aw) (fun _=>rfl),hx2f]
 subst hK
 refine AW.ret ?_
 obtain rfl:=oi h
 (simp only [go_sem,seval,Ay]<;>try simp)
def Vq (a0:List ByteArray):Int→Option (Int⊕(Bool⊕Unit))
  | s1_0=>(if s1_0<(a0.length:Int) then ((ix a0 (IntKind.i64.wrap (s1_0-1))).bind fun x15=>((ix a0 s1_0).bind fun x16=>((f67 x15 x16).bind fun x17=>(if x17=true then some (.inl (IntKind.i64.wrap (s1_0+1))) else some (.inr (.inl false)))))) else some (.inr (.inr ())))
def f87 (a0:List ByteArray):Option Bool:=((loopO (Vq a0) 1).bind fun y19=>match y19 with|.inl y20=>some y20|.inr _=>some (decide (0<(a0.length:Int))))
theorem ok87 (a0:List ByteArray) (r:Bool) (h:f87 a0=some r):PC Tryz.prog 87 [.sl (List.map Cr a0)] (.val (.bool r)):=by
 rw [f87] at h
 refine Bi (N:=24) (rs:=[.tmp 2]) Tryz.func87 ?_
 refine Ac [0] ?_
 refine AW.seq<|Ac [0,3] ?_
 refine AW.block ?_
 obtain ⟨y19,hy19,h⟩:=bO h
 refine AW.loopO (fun s=>⟨(Ag (Ag Az 0 (.sl (List.map Cr a0))) 3 (.val (.int .i64 s))),Bo [] [],8⟩) (fun y e st'=>match y with|.inl z=>e=Exit.ret∧Ay Tryz.prog [.tmp 2] (.val (.bool z)) .ret st'|.inr z=>e=Exit.exit 0∧st'=⟨(Ag Az 0 (.sl (List.map Cr a0))),Bo [] [],8⟩) hy19 ?_ ?_ ?_
 ·exact Bg RF.any.qv.qv
 ·clear h hy19
  rintro s1_0 x h
  rw [Vq] at h
  refine AW.seq<|Ac [0,3,7] ?_
  rcases Aq h with ⟨c14,h⟩|⟨c14,h⟩
  ·refine Aj rfl c14<|AW.skip<|Aa<|AW.seq<|AW.block ?_
   obtain ⟨x15,hx15,h⟩:=bO h
   obtain ⟨hx15a,hx15b⟩:=ix_some.1 hx15
   obtain ⟨x16,hx16,h⟩:=bO h
   obtain ⟨hx16a,hx16b⟩:=ix_some.1 hx16
   obtain ⟨x17,hx17,h⟩:=bO h
   refine Sb [0,3,20] [0,0,2,7,15,0,0,96,224,511,1023] (ok67 x15 x16 x17 hx17) Tryz.call67 ?_
   generalize hK:AW Tryz.prog _ _ _=K
   simp only [go_sem,seval,Ah hx15a,hx15b,Ah hx16a,hx16b]
   subst hK
   rcases Aq h with ⟨c18,h⟩|⟨c18,h⟩
   ·refine Bl rfl (by first|(rw [c18];rfl)|simp_all)<|AW.skip<|Ax<|Aa<|Bz [0,3] ?_
    refine Aa ?_
    refine ⟨_,oj h,?_⟩
    exact Bg RF.any.qv.qv
   ·rw [Bool.not_eq_true] at c18
    refine Bp rfl (by first|(rw [c18];rfl)|simp_all)<|Ao [2] ?_
    refine AW.ret<|Bd<|Ad<|Ad ?_
    refine ⟨_,oj h,_,Ent.refl,rfl,?_⟩
    (simp only [go_sem,seval,c18,Ay]<;>try simp)
  ·refine Ai rfl c14<|AW.exit<|Af<|Af ?_
   refine ⟨_,oj h,_,?_,rfl,rfl⟩
   exact Bg RF.any.qv
 ·intro e st' hX
  rcases y19 with y20|_<;>dsimp only at h hX
  ·obtain ⟨rfl,hf⟩:=hX
   refine ⟨_,Ent.refl,?_⟩
   refine Bd<|Ad ?_
   obtain rfl:=oi h
   exact hf
  ·obtain ⟨rfl,rfl⟩:=hX
   refine ⟨_,Ent.refl,?_⟩
   refine Bc<|Aa<|Ac [2] ?_
   refine AW.ret ?_
   obtain rfl:=oi h
   (simp only [go_sem,seval,Ay]<;>try simp)
def Vu (a0:List Fwd):(List Int)×Int→Option (((List Int)×Int)⊕(((List Int)×Bool)⊕(List Int)))
  | (s1_0,s1_1)=>(if s1_1<(a0.length:Int) then ((ix a0 s1_1).bind fun x14=>((Bq s1_0 [x14.Off]).bind fun x15=>((f87 x14.Keys).bind fun x16=>(if x16=true then some (.inl (x15,IntKind.i64.wrap (s1_1+1))) else some (.inr (.inl ([],false))))))) else some (.inr (.inr s1_0)))
def f50 (a0:List Fwd):Option ((List Int)×Bool):=((loopO (Vu a0) ([],0)).bind fun y18=>match y18 with|.inl y19=>some y19|.inr y20=>((f68 y20).bind fun x21=>some (y20,x21)))
theorem ok50 (a0:List Fwd) (r:(List Int)×Bool) (h:f50 a0=some r):PC Tryz.prog 50 [.sl (List.map Dp a0)] (.tup [.fr 1 (List.map Bk r.1),.val (.bool r.2)]):=by
 rw [f50] at h
 refine Bi (N:=30) (rs:=[.tmp 2,.tmp 3]) Tryz.func50 ?_
 refine Ac [0] ?_
 refine Ac [0,4] ?_
 refine AW.seq<|Ac [0,4,5] ?_
 refine AW.block ?_
 obtain ⟨y18,hy18,h⟩:=bO h
 refine AW.loopO (fun s=>⟨(Ag (Ag (Ag Az 0 (.sl (List.map Dp a0))) 4 (.own 8 0 s.1.length)) 5 (.val (.int .i64 s.2))),Bo [] [some (.row 1 true (List.map Bk s.1))],9⟩) (fun y e st'=>match y with|.inl z=>e=Exit.ret∧Ay Tryz.prog [.tmp 2,.tmp 3] (.tup [.fr 1 (List.map Bk z.1),.val (.bool z.2)]) .ret st'|.inr z=>e=Exit.exit 0∧st'=⟨(Ag Az 4 (.own 8 0 z.length)),Bo [] [some (.row 1 true (List.map Bk z))],9⟩) hy18 ?_ ?_ ?_
 ·refine Ent.trans (Av 4 1 (by decide) rfl) ?_
  exact Ab [40] RF.any.qv.qo.qv (.nil _) (.ce (.nil _))
 ·clear h hy18
  rintro ⟨s1_0,s1_1⟩ x h
  rw [Vu] at h
  refine AW.seq<|Ac [0,4,5,9] ?_
  rcases Aq h with ⟨c13,h⟩|⟨c13,h⟩
  ·refine Aj rfl c13<|AW.skip<|Aa<|AW.seq<|AW.block ?_
   obtain ⟨x14,hx14,h⟩:=bO h
   obtain ⟨hx14a,hx14b⟩:=ix_some.1 hx14
   obtain ⟨x15,hx15,h⟩:=bO h
   obtain ⟨hx15b,hx15e⟩:=appO?_some.1 hx15
   have hx15f:∀id o:Nat,Dw 1 8 id ([[.val (.int .i64 x14.Off)]]) 0 s1_0.length o (some (.row 1 true (List.map Bk s1_0)))=some ⟨.own id 0 x15.length,[(o,none),(id,some (.row 1 true (List.map Bk x15)))]⟩:=fun id o=>by
     subst hx15e;rw [Bw (by simp) (by simpa using hx15b) (by decide)];first|(simp [Bk];done)|(simp [Bk];omega)
   refine Ao [0,4,5] ?_
   obtain ⟨x16,hx16,h⟩:=bO h
   refine Kw [0,4,5,26] (ok87 x14.Keys x16 hx16) Tryz.call87 ?_
   rcases Aq h with ⟨c17,h⟩|⟨c17,h⟩
   ·refine Bl rfl (by first|(rw [c17];rfl)|simp_all)<|AW.skip<|Ax<|Aa<|Bz [0,4,5] ?_
    refine Aa ?_
    refine ⟨_,oj h,?_⟩
    exact Ab [97] RF.any.qv.qo.qv (.nil _) (.ce (.nil _))
   ·rw [Bool.not_eq_true] at c17
    refine Bp rfl (by first|(rw [c17];rfl)|simp_all)<|Ao [2,3] ?_
    refine AW.ent (Av 2 1 (by decide) rfl) ?_
    refine AW.ret<|Bd<|Ad<|Ad ?_
    refine ⟨_,oj h,_,Ent.refl,rfl,?_⟩
    (simp only [go_sem,seval,c17,Ay]<;>try simp)
  ·refine Ai rfl c13<|AW.exit<|Af<|Af ?_
   refine ⟨_,oj h,_,?_,rfl,rfl⟩
   exact Ab [8] RF.any.qo (.nil _) (.ce (.nil _))
 ·intro e st' hX
  rcases y18 with y19|y20<;>dsimp only at h hX
  ·obtain ⟨rfl,hf⟩:=hX
   refine ⟨_,Ent.refl,?_⟩
   refine Bd<|Ad ?_
   obtain rfl:=oi h
   exact hf
  ·obtain ⟨rfl,rfl⟩:=hX
   refine ⟨_,Ent.refl,?_⟩
   refine Bc<|Aa ?_
   obtain ⟨x21,hx21,h⟩:=bO h
   refine Bx [2,3] (ok68 y20 x21 hx21) Tryz.call68 ?_
   refine AW.ret ?_
   obtain rfl:=oi h
   (simp only [go_sem,seval,Ay]<;>try simp)
def f53_s1 (a0:List ByteArray):(List Int)×Int→Option (((List Int)×Int)⊕(List Int))
  | (s1_0,s1_1)=>(if s1_1<(a0.length:Int) then ((ix a0 s1_1).bind fun x14=>((f51 x14).bind fun x15=>((Bq s1_0 x15).bind fun x16=>some (.inl (x16,IntKind.i64.wrap (s1_1+1)))))) else some (.inr s1_0))
def f53 (a0:List ByteArray):Option (List Int):=((f88 (IntKind.u64.wrap (a0.length:Int))).bind fun x1=>((loopO (f53_s1 a0) (x1,0)).bind fun y18=>some y18))
theorem ok53 (a0:List ByteArray) (r:(List Int)) (h:f53 a0=some r):PC Tryz.prog 53 [.sl (List.map Cr a0)] (.fr 1 (List.map Aw r)):=by
 rw [f53] at h
 refine Bi (N:=23) (rs:=[.tmp 2]) Tryz.func53 ?_
 refine Ac [0] ?_
 obtain ⟨x1,hx1,h⟩:=bO h
 refine Kw [0,3] (ok88 (IntKind.u64.wrap (a0.length:Int)) x1 hx1) Tryz.call88 ?_
 refine AW.seq<|Ac [0,3,4] ?_
 refine AW.block ?_
 obtain ⟨y18,hy18,h⟩:=bO h
 refine AW.loopO (fun s=>⟨(Ag (Ag (Ag Az 0 (.sl (List.map Cr a0))) 3 (.own 8 0 s.1.length)) 4 (.val (.int .i64 s.2))),Bo [] [some (.row 1 true (List.map Aw s.1))],9⟩) (fun z e st'=>e=Exit.exit 0∧st'=⟨(Ag Az 3 (.own 8 0 z.length)),Bo [] [some (.row 1 true (List.map Aw z))],9⟩) hy18 ?_ ?_ ?_
 ·exact Ab [40] RF.any.qv.qo.qv (.nil _) (.ce (.nil _))
 ·clear h hy18
  rintro ⟨s1_0,s1_1⟩ x h
  rw [f53_s1] at h
  refine AW.seq<|Ac [0,3,4,12] ?_
  rcases Aq h with ⟨c13,h⟩|⟨c13,h⟩
  ·refine Aj rfl c13<|AW.skip<|Aa<|AW.seq<|AW.block ?_
   obtain ⟨x14,hx14,h⟩:=bO h
   obtain ⟨hx14a,hx14b⟩:=ix_some.1 hx14
   obtain ⟨x15,hx15,h⟩:=bO h
   obtain ⟨x16,hx16,h⟩:=bO h
   obtain ⟨hx16b,hx16e⟩:=appO?_some.1 hx16
   have hx16f:∀id o:Nat,Dw 1 1 id (List.map Aw x15) 0 s1_0.length o (some (.row 1 true (List.map Aw s1_0)))=some ⟨.own id 0 x16.length,[(o,none),(id,some (.row 1 true (List.map Aw x16)))]⟩:=fun id o=>by
     subst hx16e;rw [Bw (by simp) (by simpa using hx16b) (by decide)];first|(simp [Aw];done)|(simp [Aw];omega)
   refine AW.vD [0,3,4] (ok51 x14 x15 hx15) Tryz.call51 ?_
   refine Ax<|Aa<|Cd [0,3,4] ?_
   refine Aa ?_
   refine ⟨_,oj h,?_⟩
   exact Ab [89] RF.any.qv.qo.qv (.nil _) (.ce (.nil _))
  ·refine Ai rfl c13<|AW.exit<|Af<|Af ?_
   refine ⟨_,oj h,_,?_,rfl,rfl⟩
   exact Ab [8] RF.any.qo (.nil _) (.ce (.nil _))
 ·intro e st' hX
  try dsimp only at h
  try dsimp only at hX
  obtain ⟨rfl,rfl⟩:=hX
  refine ⟨_,Ent.refl,?_⟩
  refine Bc<|Aa<|Ac [2] ?_
  refine AW.ret ?_
  obtain rfl:=oi h
  (simp only [go_sem,seval,Ay]<;>try simp)
def f27_s1 (a0:List Fwd):(List Int)×Int→Option (((List Int)×Int)⊕(List Int))
  | (s1_0,s1_1)=>(if s1_1<(a0.length:Int) then ((ix a0 s1_1).bind fun x16=>((f53 x16.Keys).bind fun x17=>((Bq s1_0 x17).bind fun x18=>some (.inl (x18,IntKind.i64.wrap (s1_1+1)))))) else some (.inr s1_0))
def f27 (a0:List Fwd):Option (List Int):=((f50 a0).bind fun x1=>((f52 x1.1).bind fun x2=>((f51 (strOfNums x2)).bind fun x3=>((loopO (f27_s1 a0) (x3,0)).bind fun y20=>some y20))))
theorem ok27 (a0:List Fwd) (r:(List Int)) (h:f27 a0=some r):PC Tryz.prog 27 [.sl (List.map Dp a0)] (.fr 1 (List.map Aw r)):=by
 rw [f27] at h
 refine Bi (N:=31) (rs:=[.tmp 2]) Tryz.func27 ?_
 refine Ac [0] ?_
 obtain ⟨x1,hx1,h⟩:=bO h
 refine Kw [0,3] (ok50 a0 x1 hx1) Tryz.call50 ?_
 obtain ⟨x2,hx2,h⟩:=bO h
 obtain ⟨x3,hx3,h⟩:=bO h
 refine Cb [0,5] fun K hK=>?_
 simp only [go_sem,seval,Ce (enc:=Aw) (fun _=>rfl)]
 refine arC.of (ok52 x1.1 x2 hx2) Tryz.call52 ?_
 simp only [go_sem,seval,Ce (enc:=Aw) (fun _=>rfl)]
 refine arC.of (ok51 (strOfNums x2) x3 hx3) Tryz.call51 ?_
 simp only [go_sem,seval,Ce (enc:=Aw) (fun _=>rfl)]
 subst hK
 refine AW.seq<|Ac [0,5,6] ?_
 refine AW.block ?_
 obtain ⟨y20,hy20,h⟩:=bO h
 refine AW.loopO (fun s=>⟨(Ag (Ag (Ag Az 0 (.sl (List.map Dp a0))) 5 (.own 8 0 s.1.length)) 6 (.val (.int .i64 s.2))),Bo [] [some (.row 1 true (List.map Aw s.1))],9⟩) (fun z e st'=>e=Exit.exit 0∧st'=⟨(Ag Az 5 (.own 8 0 z.length)),Bo [] [some (.row 1 true (List.map Aw z))],9⟩) hy20 ?_ ?_ ?_
 ·exact Ab [96] RF.any.qv.qo.qv (.nil _) (.ce (.nil _))
 ·clear h hy20
  rintro ⟨s1_0,s1_1⟩ x h
  rw [f27_s1] at h
  refine AW.seq<|Ac [0,5,6,19] ?_
  rcases Aq h with ⟨c15,h⟩|⟨c15,h⟩
  ·refine Aj rfl c15<|AW.skip<|Aa<|AW.seq<|AW.block ?_
   obtain ⟨x16,hx16,h⟩:=bO h
   obtain ⟨hx16a,hx16b⟩:=ix_some.1 hx16
   obtain ⟨x17,hx17,h⟩:=bO h
   obtain ⟨x18,hx18,h⟩:=bO h
   obtain ⟨hx18b,hx18e⟩:=appO?_some.1 hx18
   have hx18f:∀id o:Nat,Dw 1 1 id (List.map Aw x17) 0 s1_0.length o (some (.row 1 true (List.map Aw s1_0)))=some ⟨.own id 0 x18.length,[(o,none),(id,some (.row 1 true (List.map Aw x18)))]⟩:=fun id o=>by
     subst hx18e;rw [Bw (by simp) (by simpa using hx18b) (by decide)];first|(simp [Aw];done)|(simp [Aw];omega)
   refine AW.vD [0,5,6] (ok53 x16.Keys x17 hx17) Tryz.call53 ?_
   refine Ax<|Aa<|Cd [0,5,6] ?_
   refine Aa ?_
   refine ⟨_,oj h,?_⟩
   exact Ab [97] RF.any.qv.qo.qv (.nil _) (.ce (.nil _))
  ·refine Ai rfl c15<|AW.exit<|Af<|Af ?_
   refine ⟨_,oj h,_,?_,rfl,rfl⟩
   exact Ab [8] RF.any.qo (.nil _) (.ce (.nil _))
 ·intro e st' hX
  try dsimp only at h
  try dsimp only at hX
  obtain ⟨rfl,rfl⟩:=hX
  refine ⟨_,Ent.refl,?_⟩
  refine Bc<|Aa<|Ac [2] ?_
  refine AW.ret ?_
  obtain rfl:=oi h
  (simp only [go_sem,seval,Ay]<;>try simp)
abbrev Ups (l:List ByteArray):Prop:=l.Pairwise fun a b=>Pv a b=true
theorem keys_pw {J:List Res} (h:Asc (kR J) J.length):J.Pairwise fun x y=>Pv x.Key y.Key=true:=by
 have st:∀i (hi:i+1<J.length),Pv (J[i]'(by omega)).Key J[i+1].Key=true:=fun i hi=>by
  have:=h (i+1) (by omega) hi
  rwa [adjR_at (by omega) hi] at this
 have key:∀k i (hi:i+k+1<J.length),Pv (J[i]'(by omega)).Key J[i+k+1].Key=true:=fun k=>by
  induction k with
  | zero=>intro i hi;exact st i hi
  | succ k ih=>intro i hi;exact Go.Gm.sLt_trans (ih i (by omega)) (st (i+k+1) hi)
 refine List.pairwise_iff_getElem.2 fun i j hi hj hij=>?_
 have:=key (j-i-1) i (by omega)
 simpa only [show i+(j-i-1)+1=j by omega] using this
structure KeyOk (l:List ByteArray):Prop where
 ups:Ups l
 ne:l≠[]
 len:l.length≤2500
 sz:∀s∈l,s.size≤2500
theorem fw_ok {J:List Res} {ks:List Int} (hs:SzB 2500 J) (hl:J.length≤2500) (ha:Asc (kR J) J.length) (hk:IsOffs J ks) {o:Int} (ho:o∈ks):KeyOk (fw J o):=by
 refine ⟨List.pairwise_map.2 ((keys_pw ha).filter _),fun e=>?_,Nat.le_trans (Vm J o) hl,fun s h=>?_⟩
 · obtain ⟨r,r1,r2⟩:=(hk.mem o).1 ho
   have:r.Key∈fw J o:=List.mem_map.2 ⟨r,List.mem_filter.2 ⟨r1,by simpa using r2⟩,rfl⟩
   rw [e] at this;cases this
 · obtain ⟨r,r1,rfl⟩:=List.mem_map.1 h
   exact hs.key r (List.mem_filter.1 r1).1
theorem ups_prog {l:List ByteArray} (h:KeyOk l):f78_79 l=some true:=by
 have hl:=h.len
 have:=Da (step:=Jr l) (fun i=>(i:Int)) l.length (r:=.inr ()) (fun i hi=>by
  rcases Nat.eq_zero_or_pos i with e|e
  · subst e;simp only [Jr,if_pos (show ((0:Nat):Int)<(l.length:Int) by omega),if_neg (show ¬(0:Int)<((0:Nat):Int) by omega)];rfl
  · have hlt:=List.pairwise_iff_getElem.1 h.ups (i-1) i (by omega) hi (by omega)
    simp only [Jr,if_pos (show (i:Int)<(l.length:Int) by omega),if_pos (show (0:Int)<(i:Int) by omega),Pf e (by omega),Ep (show i-1<l.length by omega),Ep hi,Option.bind_some,f79,hlt,if_true,Ch (show i≤10000000000 by omega)]) (by
  simp only [Jr,if_neg (show ¬(l.length:Int)<(l.length:Int) by omega)])
 have h0:loopO (Jr l) 0=some (.inr ()):=this
 simp only [f78_79,h0,Option.bind_some]
theorem ups_ref {l:List ByteArray} (h:KeyOk l):f87 l=some true:=by
 have hl:=h.len
 have hne:0<l.length:=List.length_pos_iff.2 h.ne
 have:=Da (step:=Vq l) (fun i=>((i+1:Nat):Int)) (l.length-1) (r:=.inr ()) (fun i hi=>by
  have hlt:=List.pairwise_iff_getElem.1 h.ups i (i+1) (by omega) (by omega) (by omega)
  have hz:=h.sz _ (List.getElem_mem (show i<l.length by omega))
  have hw:IntKind.i64.wrap (((i+1:Nat):Int)-1)=((i:Nat):Int):=Pf (by omega) (by omega)
  simp only [Vq,if_pos (show ((i+1:Nat):Int)<(l.length:Int) by omega),hw,Ep (show i<l.length by omega),Ep (show i+1<l.length by omega),Option.bind_some,less (show (l[i]'(by omega)).size≤4000000000 by omega),hlt,if_true,Ch (show i+1≤10000000000 by omega)]) (by
  simp only [Vq,if_neg (show ¬((l.length-1+1:Nat):Int)<(l.length:Int) by omega)])
 have h0:loopO (Vq l) 1=some (.inr ()):=this
 simp only [f87,h0,Option.bind_some,decide_eq_true (show (0:Int)<(l.length:Int) by omega)]
theorem text_eq (s:ByteArray) (h:s.size≤4000000000):∃c,f81 [] s=some c∧f51 s=some c∧c.length≤9+s.size:=by
 obtain ⟨c,c1,c2,c3,_⟩:=vput (Hy (s.size:Int)).1 (Hy (s.size:Int)).2
 have hap:Bq c (Eh s)=some (c++Eh s):=Ct (by omega) (by rw [Ar];omega)
 refine ⟨c++Eh s,?_,?_,by rw [List.length_append,Ar];omega⟩
 · simp only [f81,c2 [] (by simp),List.nil_append,Option.bind_some,hap]
 · simp only [f51,c1,Option.bind_some,hap]
theorem list_eq {l:List ByteArray} (h:KeyOk l) (b:List Int) (hb:b.length≤20000000000):∃c,f82 b l=some (b++c,0)∧f53 l=some c∧c.length≤6272509:=by
 have hl:=h.len
 obtain ⟨c,c1,c2,c3,_⟩:=vput (Hy (l.length:Int)).1 (Hy (l.length:Int)).2
 have key:∃r r',loopO (Ks l) (b++c,0)=some r∧loopO (f53_s1 l) (c,0)=some r'∧∃p,r=.inr (b++p)∧r'=p∧p.length≤6272509:=by
  refine Dr (fun k s t=>∃(i:Nat) (p:List Int),s=(b++p,(i:Int))∧t=(p,(i:Int))∧i≤l.length∧p.length≤9+2509*i∧k=l.length-i) ?_ (k:=l.length) ⟨0,c,rfl,rfl,by omega,by omega,rfl⟩
  rintro k _ _ ⟨i,p,rfl,rfl,hi,hp,hk⟩
  by_cases ci:i<l.length
  · have hz:=h.sz _ (List.getElem_mem ci)
    obtain ⟨t,t1,t2,t3⟩:=text_eq l[i] (by omega)
    have a1:Bq (b++p) t=some (b++p++t):=appO?_some.2 ⟨by rw [List.length_append];omega,rfl⟩
    have a2:Bq p t=some (p++t):=Ct (by omega) (by omega)
    have x1:(([l[i]]:List ByteArray).length:Int)=1:=rfl
    have i0:ix [l[i]] 0=some l[i]:=rfl
    have w1:IntKind.i64.wrap (0+1)=1:=by decide
    have in1:loopO (Kr [l[i]]) (b++p,0)=some (.inr (b++p++t)):=(Bj (s':=(b++p++t,1)) (by
     simp only [Kr,x1,if_pos (show (0:Int)<1 by decide),i0,Option.bind_some,if_neg (show ¬(65536:Int)<(l[i].size:Int) by omega),t1,a1,w1])).trans (Al (by
     simp only [Kr,x1,if_neg (show ¬(1:Int)<1 by decide)]))
    refine .inl ⟨(b++(p++t),((i+1:Nat):Int)),(p++t,((i+1:Nat):Int)),k-1,?_,?_,by omega,i+1,_,rfl,rfl,by omega,by rw [List.length_append];omega,by omega⟩
    · simp only [Ks,if_pos (show (i:Int)<(l.length:Int) by omega),Ep ci,Option.bind_some,f112,in1,Ch (show i≤10000000000 by omega),List.append_assoc]
    · simp only [f53_s1,if_pos (show (i:Int)<(l.length:Int) by omega),Ep ci,Option.bind_some,t2,a2,Ch (show i≤10000000000 by omega)]
  · exact .inr ⟨.inr (b++p),p,Al (by simp only [Ks,if_neg (show ¬(i:Int)<(l.length:Int) by omega)]),Al (by simp only [f53_s1,if_neg (show ¬(i:Int)<(l.length:Int) by omega)]),p,rfl,rfl,by omega⟩
 obtain ⟨_,_,k1,k2,p,rfl,rfl,k3⟩:=key
 refine ⟨_,?_,?_,k3⟩
 · simp only [f82,Ud,if_neg (show ¬(65536:Int)<(l.length:Int) by omega),c2 b (by omega),Option.bind_some,k1]
 · simp only [f53,c1,Option.bind_some,k2]
theorem fwd_eq {J:List Res} {ks:List Int} (hs:SzB 2500 J) (hl:J.length≤2500) (ha:Asc (kR J) J.length) (hk:IsOffs J ks) (hr:∀x∈ks,0≤x∧x≤2500):∃B,f48 (Ie J ks)=some (B,0)∧f27 (Ie J ks)=some B:=by
 have hlen:=Py (n:=2500) hk.rise hr
 have hRN:=right_of hk.rise hr
 have tl:(Ie J ks).length=ks.length:=by simp [Ie]
 have tx:∀i (hi:i<ks.length),ix (Ie J ks) (i:Int)=some ⟨ks[i],fw J ks[i]⟩:=fun i hi=>by rw [Ep (by omega)];simp [Ie]
 have hok:∀i (hi:i<ks.length),KeyOk (fw J ks[i]):=fun i hi=>fw_ok hs hl ha hk (List.getElem_mem hi)
 have hap:∀i (hi:i<ks.length),Bq (ks.take i) [ks[i]]=some (ks.take (i+1)):=fun i hi=>by
  rw [Ct (by rw [List.length_take];omega) (by simp),List.take_succ_eq_append_getElem hi]
 have l2:loopO (Vv (Ie J ks)) ([],0)=some (.inr ks):=by
  have:=Da (step:=Vv (Ie J ks)) (fun i=>(ks.take i,(i:Int))) ks.length (r:=.inr ks) (fun i hi=>by
   have hne:=List.length_pos_iff.2 (hok i hi).ne
   simp only [Vv,tl,if_pos (show (i:Int)<(ks.length:Int) by omega),tx i hi,Option.bind_some,hap i hi,if_neg (show ¬((fw J ks[i]).length:Int)=0 by omega),ups_prog (hok i hi),if_true,Ch (show i≤10000000000 by omega)]) (by
   simp only [Vv,tl,if_neg (show ¬(ks.length:Int)<(ks.length:Int) by omega),List.take_length])
  simpa using this
 have l1:loopO (Vu (Ie J ks)) ([],0)=some (.inr ks):=by
  have:=Da (step:=Vu (Ie J ks)) (fun i=>(ks.take i,(i:Int))) ks.length (r:=.inr ks) (fun i hi=>by
   simp only [Vu,tl,if_pos (show (i:Int)<(ks.length:Int) by omega),tx i hi,Option.bind_some,hap i hi,ups_ref (hok i hi),if_true,Ch (show i≤10000000000 by omega)]) (by
   simp only [Vu,tl,if_neg (show ¬(ks.length:Int)<(ks.length:Int) by omega),List.take_length])
  simpa using this
 obtain ⟨c,p1,p2,p3,p4⟩:=put_eqL ks hRN
 obtain ⟨v,_,v2,_⟩:=nums_eq ks (by omega)
 have hsz:(strOfNums c).size=c.length:=by rw [Iz];unfold bl;rw [strOfNums_data];simp
 obtain ⟨t,t1,t2,t3⟩:=text_eq (strOfNums c) (by omega)
 have key:∃r r',loopO (f48_s3 (Ie J ks)) (t,0)=some r∧loopO (f27_s1 (Ie J ks)) (t,0)=some r'∧r=.inr r':=by
  refine Dr (fun k s u=>s=u∧∃(i:Nat) (p:List Int),s=(p,(i:Int))∧i≤ks.length∧p.length≤2000000+6272509*i∧k=ks.length-i) ?_ (k:=ks.length) ⟨rfl,0,t,rfl,by omega,by omega,rfl⟩
  rintro k _ _ ⟨rfl,i,p,rfl,hi,hp,hk'⟩
  by_cases ci:i<ks.length
  · obtain ⟨d,d1,d2,d3⟩:=list_eq (hok i ci) p (by omega)
    have a2:Bq p d=some (p++d):=appO?_some.2 ⟨by omega,rfl⟩
    refine .inl ⟨(p++d,((i+1:Nat):Int)),(p++d,((i+1:Nat):Int)),k-1,?_,?_,by omega,rfl,i+1,_,rfl,by omega,by rw [List.length_append];omega,by omega⟩
    · simp only [f48_s3,tl,if_pos (show (i:Int)<(ks.length:Int) by omega),tx i ci,Option.bind_some,d1,if_true,Ch (show i≤10000000000 by omega)]
    · simp only [f27_s1,tl,if_pos (show (i:Int)<(ks.length:Int) by omega),tx i ci,Option.bind_some,d2,a2,Ch (show i≤10000000000 by omega)]
  · exact .inr ⟨.inr p,p,Al (by simp only [f48_s3,tl,if_neg (show ¬(i:Int)<(ks.length:Int) by omega)]),Al (by simp only [f27_s1,tl,if_neg (show ¬(i:Int)<(ks.length:Int) by omega)]),rfl⟩
 obtain ⟨_,B,k1,k2,rfl⟩:=key
 refine ⟨B,?_,?_⟩
 · simp only [f48,l2,Option.bind_some,p1,if_true,t1,k1]
 · simp only [f27,f50,l1,Option.bind_some,v2,p2,t2,k2]
def f44 (a0:Int):Option Er:=(if a0=0 then some Er.nil else some (Er.no a0))
theorem ok44 (a0:Int) (r:Er) (h:f44 a0=some r):PC Tryz.prog 44 [.val (.int .i64 a0)] (.val (Ph r)):=by
 rw [f44] at h
 refine Bi (N:=7) (rs:=[.tmp 2]) Tryz.func44 ?_
 refine Ac [0] ?_
 refine AW.seq<|Ac [0,4] ?_
 rcases Aq h with ⟨c1,h⟩|⟨c1,h⟩
 ·refine Aj rfl c1<|Ac [2] ?_
  refine AW.ret<|Ad ?_
  obtain rfl:=oi h
  (simp only [go_sem,seval,Ay]<;>try simp)
 ·refine Ai rfl c1<|AW.skip<|Aa<|Ac [2] ?_
  refine AW.ret ?_
  obtain rfl:=oi h
  (simp only [go_sem,seval,Ay]<;>try simp)
def f73 (a0:List Int):Option (List Int):=Bq [] a0
theorem ok73f (a0:List Int) (r:List Int) (h:f73 a0=some r):PC Tryz.prog 73 [.sl (List.map Bk a0)] (.fr 1 (List.map Bk r)):=by
  obtain ⟨hl,hr⟩:=appO?_some.1 h
  rw [List.nil_append] at hr
  subst hr
  have hb:a0.length≤34359738368:=by simpa using hl
  refine pc_of (N:=8) (rs:=[.tmp 2]) Tryz.func73 rfl rfl rfl (Nat.le_of_ble_eq_true rfl) ?_
  refine AW.reg ?_
  generalize hK:AW Tryz.prog _ _ _=K
  simp only [go_sem,seval]
  subst hK
  refine AW.seq ?_
  refine AW.nilq el48 rfl (by decide) (by decide) (fun bn hbn=>?_)
  refine AW.if rfl (fun hc4=>?_) (fun hc4=>?_)
  · have hl0:a0=[]:=by simpa using hbn (by simpa using hc4)
    subst hl0
    refine AW.reg ?_
    generalize hK:AW Tryz.prog _ _ _=K
    simp only [go_sem,seval]
    subst hK
    refine AW.ent (Av 2 1 (by decide) rfl) ?_
    refine AW.ret<|Ad ?_
    exact Yh (.inl rfl) rfl (by simp only [Ae,if_true];rfl) rfl rfl rfl
  · refine AW.skip ?_
    refine Aa<|AW.reg ?_
    generalize hK:AW Tryz.prog _ _ _=K
    simp (disch:=first|omega|(simp only [List.length_map,List.length_cons,List.length_nil,List.length_append]<;>omega)) only [go_sem,seval]
    subst hK
    refine AW.ret ?_
    exact Yh (.inl rfl) rfl (by simp only [Ae];rfl) (by simp) (by simp only [go_sem]) rfl
theorem ok73 (a0:List Int) (r:List Int) (h:f73 a0=some r):PC Tryz.prog 73 [.sl (List.map Bk a0)] (.sl (List.map Bk r)):=PC.fr_sl (ok73f a0 r h)
def Ss (a0:List Res) (a1:ByteArray):Int→Option (Int⊕((Res×Bool)⊕Unit))
  | s1_0=>(if s1_0<(a0.length:Int) then ((ix a0 s1_0).bind fun x16=>(if x16.Key=a1 then ((f73 x16.Offs).bind fun x18=>some (.inr (.inl (⟨x16.Key,x16.Val,x18⟩,true)))) else some (.inl (IntKind.i64.wrap (s1_0+1))))) else some (.inr (.inr ())))
def f45 (a0:List Res) (a1:ByteArray):Option (Res×Bool):=((loopO (Ss a0 a1) 0).bind fun y19=>match y19 with|.inl y20=>some y20|.inr _=>some (⟨⟨#[]⟩,⟨#[]⟩,[]⟩,false))
theorem ok45 (a0:List Res) (a1:ByteArray) (r:Res×Bool) (h:f45 a0 a1=some r):PC Tryz.prog 45 [.sl (List.map Ak a0),.val (.string a1)] (.tup [.agg (Ak r.1),.val (.bool r.2)]):=by
 rw [f45] at h
 refine Bi (N:=25) (rs:=[.cell 4 50,.tmp 5]) Tryz.func45 ?_
 refine Ac [0,1,4] ?_
 refine AW.seq<|Ac [1,4,8,9,10] ?_
 refine AW.block ?_
 obtain ⟨y19,hy19,h⟩:=bO h
 refine AW.loopO (fun s=>⟨(Ag (Ag (Ag (Ag (Ag Az 1 (.val (.string a1))) 4 (.ptr 8 0 0)) 8 (.sl (List.map Ak a0))) 9 (.val (.int .i64 (a0.length:Int)))) 10 (.val (.int .i64 s))),Bo [] [some (.row 3 true [[.val (.string ⟨#[]⟩),.val (.string ⟨#[]⟩),.val (.slice none 0 0)]])],9⟩) (fun y e st'=>match y with|.inl z=>e=Exit.ret∧Ay Tryz.prog [.cell 4 50,.tmp 5] (.tup [.agg (Ak z.1),.val (.bool z.2)]) .ret st'|.inr z=>e=Exit.exit 0∧st'=⟨(Ag Az 4 (.ptr 8 0 0)),Bo [] [some (.row 3 true [[.val (.string ⟨#[]⟩),.val (.string ⟨#[]⟩),.val (.slice none 0 0)]])],9⟩) hy19 ?_ ?_ ?_
 ·exact Ab [8] RF.any.qv.qp.qv.qv.qv (.nil _) (.ce (.nil _))
 ·clear h hy19
  rintro s1_0 x h
  rw [Ss] at h
  refine Ac [1,4,8,9,10,11] ?_
  refine AW.seq ?_
  rcases Aq h with ⟨c15,h⟩|⟨c15,h⟩
  ·refine Aj rfl c15<|AW.skip<|Aa<|AW.seq<|AW.block ?_
   obtain ⟨x16,hx16,h⟩:=bO h
   obtain ⟨hx16a,hx16b⟩:=ix_some.1 hx16
   refine Ao [1,4,7,8,9,10] ?_
   refine Ac [1,4,7,8,9,10,17] ?_
   rcases Aq h with ⟨c17,h⟩|⟨c17,h⟩
   ·refine Aj rfl c17 ?_
    obtain ⟨x18,hx18,h⟩:=bO h
    refine Bx [4,7] (ok73 x16.Offs x18 hx18) Tryz.call73 ?_
    refine Ac [4,5] ?_
    refine AW.ret<|Bd<|Ad<|Ad ?_
    refine ⟨_,oj h,_,Ent.refl,rfl,?_⟩
    (simp only [go_sem,seval,Ay]<;>try simp)
   ·refine Ai rfl c17<|AW.skip<|Ax<|Aa<|Cd [1,4,8,9,10] ?_
    refine Aa ?_
    refine ⟨_,oj h,?_⟩
    exact Ab [8] RF.any.qv.qp.qv.qv.qv (.nil _) (.ce (.nil _))
  ·refine Ai rfl c15<|AW.exit<|Af<|Af ?_
   refine ⟨_,oj h,_,?_,rfl,rfl⟩
   exact Ab [8] RF.any.qp (.nil _) (.ce (.nil _))
 ·intro e st' hX
  rcases y19 with y20|_<;>dsimp only at h hX
  ·obtain ⟨rfl,hf⟩:=hX
   refine ⟨_,Ent.refl,?_⟩
   refine Bd<|Ad ?_
   obtain rfl:=oi h
   exact hf
  ·obtain ⟨rfl,rfl⟩:=hX
   refine ⟨_,Ent.refl,?_⟩
   refine Bc<|Aa<|Ac [4,5] ?_
   refine AW.ent (Kv 8 rfl rfl (.cons (.of rfl) (.cons (.of rfl) (.cons Weak.nil WeakL.nil)))) ?_
   refine AW.ret ?_
   obtain rfl:=oi h
   (simp only [go_sem,seval,Ay]<;>try simp)
def f16 (a0:Trace) (a1:ByteArray):Option (ByteArray×Er×Trace):=((f45 a0.l a1).bind fun x1=>(if x1.2=true then some (x1.1.Val,Er.nil,a0) else ((f44 330).bind fun x3=>some (⟨#[]⟩,x3,a0))))
theorem ok16 (a0:Trace) (a1:ByteArray) (r:ByteArray×Er×Trace) (h:f16 a0 a1=some r):IC Tryz.prog 16 [some (.row 2 true [[.sl (List.map Ak a0.l),Iy a0.offs]])] [.ptr 0 0 0,.val (.string a1)] (.tup [.val (.string r.1),.val (Ph r.2.1)]) [some (.row 2 true [[.sl (List.map Ak r.2.2.l),Iy r.2.2.offs]])] []:=by
 rw [f16] at h
 refine Qg (N:=25) (rs:=[.tmp 4,.tmp 5]) Tryz.func16 rfl rfl rfl (Nat.le_of_ble_eq_true rfl)<|Ac [0,1] ?_
 refine AW.seq<|Ac [0,1,9] ?_
 refine Bl rfl rfl<|AW.skip<|Aa ?_
 obtain ⟨x1,hx1,h⟩:=bO h
 refine Bx [6,7] (ok45 a0.l a1 x1 hx1) Tryz.call45 ?_
 refine AW.seq<|Ac [6,21] ?_
 rcases Aq h with ⟨c2,h⟩|⟨c2,h⟩
 ·refine Bl rfl (by first|(rw [c2];rfl)|simp_all)<|AW.skip<|Aa<|Ao [4,5] ?_
  refine AW.ent (st':=⟨(Ag (Ag Az 4 (.val (.string x1.1.Val))) 5 (.val (.nilIface))),Bo [some (.row 2 true [[.sl (List.map Ak a0.l),Iy a0.offs]])] [],8⟩) ?_ ?_
  · refine Bu [] _ _ _ rfl (by first|decide|simp) rfl ?_ ?_ ?_
    · exact RF.any.qv.qv
    · exact .ce (.nil _)
    · exact .nil _
  refine AW.ret ?_
  obtain rfl:=oi h
  exact ⟨rfl,rfl,_,rfl,by first|rfl|simp [Cu,Ae,Ar]⟩
 ·rw [Bool.not_eq_true] at c2
  refine Bp rfl (by first|(rw [c2];rfl)|simp_all) ?_
  obtain ⟨x3,hx3,h⟩:=bO h
  refine Bx [4,5] (ok44 330 x3 hx3) Tryz.call44 ?_
  refine AW.ent (st':=⟨(Ag (Ag Az 4 (.val (.string ⟨#[]⟩))) 5 (.val (Ph x3))),Bo [some (.row 2 true [[.sl (List.map Ak a0.l),Iy a0.offs]])] [],8⟩) ?_ ?_
  · refine Bu [] _ _ _ rfl (by first|decide|simp) rfl ?_ ?_ ?_
    · exact RF.any.qv.qv
    · exact .ce (.nil _)
    · exact .nil _
  refine AW.ret<|Ad ?_
  obtain rfl:=oi h
  exact ⟨rfl,rfl,_,rfl,by first|rfl|simp [Cu,Ae,Ar]⟩
def Wc (a0:List Res) (a1:ByteArray):Int→Option (Int⊕((Res×Bool)⊕Unit))
  | s1_0=>(if s1_0<(a0.length:Int) then ((ix a0 s1_0).bind fun x11=>(if x11.Key=a1 then some (.inr (.inl (x11,true))) else some (.inl (IntKind.i64.wrap (s1_0+1))))) else some (.inr (.inr ())))
def f17 (a0:List Res) (a1:ByteArray):Option (Res×Bool):=((loopO (Wc a0 a1) 0).bind fun y13=>match y13 with|.inl y14=>some y14|.inr _=>some (⟨⟨#[]⟩,⟨#[]⟩,[]⟩,false))
theorem ok17 (a0:List Res) (a1:ByteArray) (r:Res×Bool) (h:f17 a0 a1=some r):PC Tryz.prog 17 [.sl (List.map Ak a0),.val (.string a1)] (.tup [.agg (Ak r.1),.val (.bool r.2)]):=by
 rw [f17] at h
 refine Bi (N:=25) (rs:=[.cell 4 50,.tmp 5]) Tryz.func17 ?_
 refine Ac [0,1,4] ?_
 refine AW.seq<|Ac [0,1,4,6] ?_
 refine AW.block ?_
 obtain ⟨y13,hy13,h⟩:=bO h
 refine AW.loopO (fun s=>⟨(Ag (Ag (Ag (Ag Az 0 (.sl (List.map Ak a0))) 1 (.val (.string a1))) 4 (.ptr 8 0 0)) 6 (.val (.int .i64 s))),Bo [] [some (.row 3 true [[.val (.string ⟨#[]⟩),.val (.string ⟨#[]⟩),.val (.slice none 0 0)]])],9⟩) (fun y e st'=>match y with|.inl z=>e=Exit.ret∧Ay Tryz.prog [.cell 4 50,.tmp 5] (.tup [.agg (Ak z.1),.val (.bool z.2)]) .ret st'|.inr z=>e=Exit.exit 0∧st'=⟨(Ag Az 4 (.ptr 8 0 0)),Bo [] [some (.row 3 true [[.val (.string ⟨#[]⟩),.val (.string ⟨#[]⟩),.val (.slice none 0 0)]])],9⟩) hy13 ?_ ?_ ?_
 ·exact Ab [8] RF.any.qv.qv.qp.qv (.nil _) (.ce (.nil _))
 ·clear h hy13
  rintro s1_0 x h
  rw [Wc] at h
  refine AW.seq<|Ac [0,1,4,6,10] ?_
  rcases Aq h with ⟨c10,h⟩|⟨c10,h⟩
  ·refine Aj rfl c10<|AW.skip<|Aa<|AW.seq<|AW.block ?_
   obtain ⟨x11,hx11,h⟩:=bO h
   obtain ⟨hx11a,hx11b⟩:=ix_some.1 hx11
   refine Re [0,1,4,6,19] ?_
   rcases Aq h with ⟨c12,h⟩|⟨c12,h⟩
   ·refine Aj rfl c12<|Cb [4,5] fun K hK=>?_
    simp only [go_sem,seval,Ah hx11a,hx11b]
    subst hK
    refine AW.ret<|Bd<|Ad<|Ad ?_
    refine ⟨_,oj h,_,Ent.refl,rfl,?_⟩
    (simp only [go_sem,seval,Ay]<;>try simp)
   ·refine Ai rfl c12<|AW.skip<|Ax<|Aa<|Cd [0,1,4,6] ?_
    refine Aa ?_
    refine ⟨_,oj h,?_⟩
    exact Ab [8] RF.any.qv.qv.qp.qv (.nil _) (.ce (.nil _))
  ·refine Ai rfl c10<|AW.exit<|Af<|Af ?_
   refine ⟨_,oj h,_,?_,rfl,rfl⟩
   exact Ab [8] RF.any.qp (.nil _) (.ce (.nil _))
 ·intro e st' hX
  rcases y13 with y14|_<;>dsimp only at h hX
  ·obtain ⟨rfl,hf⟩:=hX
   refine ⟨_,Ent.refl,?_⟩
   refine Bd<|Ad ?_
   obtain rfl:=oi h
   exact hf
  ·obtain ⟨rfl,rfl⟩:=hX
   refine ⟨_,Ent.refl,?_⟩
   refine Bc<|Aa<|Ac [4,5] ?_
   refine AW.ent (Kv 8 rfl rfl (.cons (.of rfl) (.cons (.of rfl) (.cons Weak.nil WeakL.nil)))) ?_
   refine AW.ret ?_
   obtain rfl:=oi h
   (simp only [go_sem,seval,Ay]<;>try simp)
def f46 (a0:List Res) (a1:ByteArray):Option (List Int):=((f45 a0 a1).bind fun x1=>some x1.1.Offs)
theorem ok46 (a0:List Res) (a1:ByteArray) (r:(List Int)) (h:f46 a0 a1=some r):PC Tryz.prog 46 [.sl (List.map Ak a0),.val (.string a1)] (.sl (List.map Bk r)):=by
 rw [f46] at h
 refine Bi (N:=15) (rs:=[.tmp 4]) Tryz.func46 ?_
 refine Ac [0,1] ?_
 obtain ⟨x1,hx1,h⟩:=bO h
 refine Bx [5] (ok45 a0 a1 x1 hx1) Tryz.call45 ?_
 refine Ac [4] ?_
 refine AW.ret ?_
 obtain rfl:=oi h
 (simp only [go_sem,seval,Ay]<;>try simp)
def f18 (a0:Trace) (a1:ByteArray):Option ((List Int)×Trace):=((f46 a0.l a1).bind fun x1=>some (x1,a0))
theorem ok18 (a0:Trace) (a1:ByteArray) (r:(List Int)×Trace) (h:f18 a0 a1=some r):IC Tryz.prog 18 [some (.row 2 true [[.sl (List.map Ak a0.l),Iy a0.offs]])] [.ptr 0 0 0,.val (.string a1)] (.sl (List.map Bk r.1)) [some (.row 2 true [[.sl (List.map Ak r.2.l),Iy r.2.offs]])] []:=by
 rw [f18] at h
 refine Qg (N:=13) (rs:=[.tmp 4]) Tryz.func18 rfl rfl rfl (Nat.le_of_ble_eq_true rfl)<|Ac [0,1] ?_
 refine AW.seq<|Ac [0,1,6] ?_
 refine Bl rfl rfl<|AW.skip<|Aa ?_
 obtain ⟨x1,hx1,h⟩:=bO h
 refine Bx [4] (ok46 a0.l a1 x1 hx1) Tryz.call46 ?_
 refine AW.ent (st':=⟨(Ag Az 4 (.sl (List.map Bk x1))),Bo [some (.row 2 true [[.sl (List.map Ak a0.l),Iy a0.offs]])] [],8⟩) ?_ ?_
 · refine Bu [] _ _ _ rfl (by first|decide|simp) rfl ?_ ?_ ?_
   · exact RF.any.qv
   · exact .ce (.nil _)
   · exact .nil _
 refine AW.ret ?_
 obtain rfl:=oi h
 exact ⟨rfl,rfl,_,rfl,by first|rfl|simp [Cu,Ae,Ar]⟩
def Ov (a0:List Int) (a1:Int):Int→Option (Int⊕(Int⊕Unit))
  | s1_0=>(if s1_0<(a0.length:Int) then ((ix a0 s1_0).bind fun x14=>(if a1=x14 then some (.inr (.inl s1_0)) else some (.inl (IntKind.i64.wrap (s1_0+1))))) else some (.inr (.inr ())))
def f107 (a0:List Int) (a1:Int):Option Int:=((loopO (Ov a0 a1) 0).bind fun y16=>match y16 with|.inl y17=>some y17|.inr _=>some (-1))
theorem ok107 (a0:List Int) (a1:Int) (r:Int) (h:f107 a0 a1=some r):PC Tryz.prog 107 [.sl (List.map Bk a0),.val (.int .i64 a1)] (.val (.int .i64 r)):=by
 rw [f107] at h
 refine Bi (N:=19) (rs:=[.tmp 4]) Tryz.func107 ?_
 refine Ac [0,1] ?_
 refine AW.seq<|Ac [0,1,7,8] ?_
 refine AW.block ?_
 obtain ⟨y16,hy16,h⟩:=bO h
 refine AW.loopO (fun s=>⟨(Ag (Ag (Ag (Ag Az 0 (.sl (List.map Bk a0))) 1 (.val (.int .i64 a1))) 7 (.val (.int .i64 (a0.length:Int)))) 8 (.val (.int .i64 s))),Bo [] [],8⟩) (fun y e st'=>match y with|.inl z=>e=Exit.ret∧Ay Tryz.prog [.tmp 4] (.val (.int .i64 z)) .ret st'|.inr z=>e=Exit.exit 0∧st'=⟨Az,Bo [] [],8⟩) hy16 ?_ ?_ ?_
 ·exact Bg RF.any.qv.qv.qv.qv
 ·clear h hy16
  rintro s1_0 x h
  rw [Ov] at h
  refine Ac [0,1,7,8,9] ?_
  refine AW.seq ?_
  rcases Aq h with ⟨c13,h⟩|⟨c13,h⟩
  ·refine Aj rfl c13<|AW.skip<|Aa<|AW.seq<|AW.block<|Ac [0,1,5,7,8] ?_
   obtain ⟨x14,hx14,h⟩:=bO h
   obtain ⟨hx14a,hx14b⟩:=ix_some.1 hx14
   refine Ao [0,1,5,7,8,16] ?_
   rcases Aq h with ⟨c15,h⟩|⟨c15,h⟩
   ·refine Aj rfl c15<|Ac [4] ?_
    refine AW.ret<|Bd<|Ad<|Ad ?_
    refine ⟨_,oj h,_,Ent.refl,rfl,?_⟩
    (simp only [go_sem,seval,Ay]<;>try simp)
   ·refine Ai rfl c15<|AW.skip<|Ax<|Aa<|Cd [0,1,7,8] ?_
    refine Aa ?_
    refine ⟨_,oj h,?_⟩
    exact Bg RF.any.qv.qv.qv.qv
  ·refine Ai rfl c13<|AW.exit<|Af<|Af ?_
   refine ⟨_,oj h,_,?_,rfl,rfl⟩
   exact Bg RF.any
 ·intro e st' hX
  rcases y16 with y17|_<;>dsimp only at h hX
  ·obtain ⟨rfl,hf⟩:=hX
   refine ⟨_,Ent.refl,?_⟩
   refine Bd<|Ad ?_
   obtain rfl:=oi h
   exact hf
  ·obtain ⟨rfl,rfl⟩:=hX
   refine ⟨_,Ent.refl,?_⟩
   refine Bc<|Aa<|Ac [4] ?_
   refine AW.ret ?_
   obtain rfl:=oi h
   (simp only [go_sem,seval,Ay]<;>try simp)
def f77 (a0:List Int) (a1:Int):Option Bool:=((f107 a0 a1).bind fun x1=>some (decide (0≤x1)))
theorem ok77 (a0:List Int) (a1:Int) (r:Bool) (h:f77 a0 a1=some r):PC Tryz.prog 77 [.sl (List.map Bk a0),.val (.int .i64 a1)] (.val (.bool r)):=by
 rw [f77] at h
 refine Bi (N:=9) (rs:=[.tmp 4]) Tryz.func77 ?_
 refine Ac [0,1] ?_
 obtain ⟨x1,hx1,h⟩:=bO h
 refine Bx [4] (ok107 a0 a1 x1 hx1) Tryz.call107 ?_
 refine AW.ret ?_
 obtain rfl:=oi h
 (simp only [go_sem,seval,Ay]<;>try simp)
def Oj (a0:List Res) (a1:Int):(List ByteArray)×Int→Option (((List ByteArray)×Int)⊕(List ByteArray))
  | (s1_0,s1_1)=>(if s1_1<(a0.length:Int) then ((ix a0 s1_1).bind fun x17=>((f77 x17.Offs a1).bind fun x18=>(if x18=true then ((Bq s1_0 [x17.Key]).bind fun x20=>some (.inl (x20,IntKind.i64.wrap (s1_1+1)))) else some (.inl (s1_0,IntKind.i64.wrap (s1_1+1)))))) else some (.inr s1_0))
def f47 (a0:List Res) (a1:Int):Option (List ByteArray):=((loopO (Oj a0 a1) ([],0)).bind fun y22=>some y22)
theorem ok47 (a0:List Res) (a1:Int) (r:(List ByteArray)) (h:f47 a0 a1=some r):PC Tryz.prog 47 [.sl (List.map Ak a0),.val (.int .i64 a1)] (.fr 1 (List.map Cr r)):=by
 rw [f47] at h
 refine Bi (N:=25) (rs:=[.tmp 4]) Tryz.func47 ?_
 refine Ac [0,1] ?_
 refine Ac [0,1,5] ?_
 refine AW.seq<|Ac [1,5,8,9,10] ?_
 refine AW.block ?_
 obtain ⟨y22,hy22,h⟩:=bO h
 refine AW.loopO (fun s=>⟨(Ag (Ag (Ag (Ag (Ag Az 1 (.val (.int .i64 a1))) 5 (.own 8 0 s.1.length)) 8 (.sl (List.map Ak a0))) 9 (.val (.int .i64 (a0.length:Int)))) 10 (.val (.int .i64 s.2))),Bo [] [some (.row 1 true (List.map Cr s.1))],9⟩) (fun z e st'=>e=Exit.exit 0∧st'=⟨(Ag Az 5 (.own 8 0 z.length)),Bo [] [some (.row 1 true (List.map Cr z))],9⟩) hy22 ?_ ?_ ?_
 ·refine Ent.trans (Av 5 1 (by decide) rfl) ?_
  exact Ab [48] RF.any.qv.qo.qv.qv.qv (.nil _) (.ce (.nil _))
 ·clear h hy22
  rintro ⟨s1_0,s1_1⟩ x h
  rw [Oj] at h
  refine Ac [1,5,8,9,10,11] ?_
  refine AW.seq ?_
  rcases Aq h with ⟨c16,h⟩|⟨c16,h⟩
  ·refine Aj rfl c16<|AW.skip<|Aa<|AW.seq<|AW.block ?_
   obtain ⟨x17,hx17,h⟩:=bO h
   obtain ⟨hx17a,hx17b⟩:=ix_some.1 hx17
   refine Ao [1,5,7,8,9,10] ?_
   obtain ⟨x18,hx18,h⟩:=bO h
   refine Bx [1,5,7,8,9,10,17] (ok77 x17.Offs a1 x18 hx18) Tryz.call77 ?_
   rcases Aq h with ⟨c19,h⟩|⟨c19,h⟩
   ·refine Bp rfl c19 ?_
    obtain ⟨x20,hx20,h⟩:=bO h
    obtain ⟨hx20b,hx20e⟩:=appO?_some.1 hx20
    have hx20f:∀id o:Nat,Dw 1 16 id ([[.val (.string x17.Key)]]) 0 s1_0.length o (some (.row 1 true (List.map Cr s1_0)))=some ⟨.own id 0 x20.length,[(o,none),(id,some (.row 1 true (List.map Cr x20)))]⟩:=fun id o=>by
      subst hx20e;rw [Bw (by simp) (by simpa using hx20b) (by decide)];first|(simp [Cr];done)|(simp [Cr];omega)
    refine Bz [1,5,8,9,10] ?_
    refine Ax<|Aa<|Bz [1,5,8,9,10] ?_
    refine Aa ?_
    refine ⟨_,oj h,?_⟩
    exact Ab [113] RF.any.qv.qo.qv.qv.qv (.nil _) (.ce (.nil _))
   ·rw [Bool.not_eq_true] at c19
    refine Bl rfl c19<|AW.skip<|Ax<|Aa<|Bz [1,5,8,9,10] ?_
    refine Aa ?_
    refine ⟨_,oj h,?_⟩
    exact Ab [8] RF.any.qv.qo.qv.qv.qv (.nil _) (.ce (.nil _))
  ·refine Ai rfl c16<|AW.exit<|Af<|Af ?_
   refine ⟨_,oj h,_,?_,rfl,rfl⟩
   exact Ab [8] RF.any.qo (.nil _) (.ce (.nil _))
 ·intro e st' hX
  try dsimp only at h
  try dsimp only at hX
  obtain ⟨rfl,rfl⟩:=hX
  refine ⟨_,Ent.refl,?_⟩
  refine Bc<|Aa<|Ac [4] ?_
  refine AW.ret ?_
  obtain rfl:=oi h
  (simp only [go_sem,seval,Ay]<;>try simp)
def f19 (a0:Trace) (a1:Int):Option ((List ByteArray)×Er×Trace):=(if a1∈a0.offs then ((f47 a0.l a1).bind fun x2=>some (x2,Er.nil,a0)) else ((f44 320).bind fun x3=>some ([],x3,a0)))
theorem ok19 (a0:Trace) (a1:Int) (r:(List ByteArray)×Er×Trace) (h:f19 a0 a1=some r):IC Tryz.prog 19 [some (.row 2 true [[.sl (List.map Ak a0.l),Iy a0.offs]])] [.ptr 0 0 0,.val (.int .i64 a1)] (.tup [.own 8 0 r.1.length,.val (Ph r.2.1)]) [some (.row 2 true [[.sl (List.map Ak r.2.2.l),Iy r.2.2.offs]])] [some (.row 1 true (List.map Cr r.1))]:=by
 rw [f19] at h
 refine Qg (N:=23) (rs:=[.tmp 4,.tmp 5]) Tryz.func19 rfl rfl rfl (Nat.le_of_ble_eq_true rfl)<|Ac [0,1] ?_
 refine AW.seq<|Ac [0,1,7] ?_
 refine Bl rfl rfl<|AW.skip<|Aa<|AW.seq<|Cb [0,1,15] fun K hK=>?_
 simp only [go_sem,seval,look_encM mi75]
 subst hK
 rcases Aq h with ⟨c1,h⟩|⟨c1,h⟩
 ·refine Pe rfl c1<|AW.skip<|Aa ?_
  obtain ⟨x2,hx2,h⟩:=bO h
  refine Bx [4,5] (ok47 a0.l a1 x2 hx2) Tryz.call47 ?_
  refine AW.ent (st':=⟨(Ag (Ag Az 4 (.own 8 0 x2.length)) 5 (.val (.nilIface))),Bo [some (.row 2 true [[.sl (List.map Ak a0.l),Iy a0.offs]])] [some (.row 1 true (List.map Cr x2))],9⟩) ?_ ?_
  · refine Bu [136] _ _ _ rfl (by first|decide|simp) rfl ?_ ?_ ?_
    · exact RF.any.qo.qv
    · exact .ce (.nil _)
    · exact .ce (.nil _)
  refine AW.ret ?_
  obtain rfl:=oi h
  exact ⟨rfl,rfl,_,rfl,by first|rfl|simp [Cu,Ae,Ar]⟩
 ·refine AW.ifNT rfl c1 ?_
  obtain ⟨x3,hx3,h⟩:=bO h
  refine Bx [4,5] (ok44 320 x3 hx3) Tryz.call44 ?_
  refine AW.ent (Av 4 1 (by decide) rfl) ?_
  refine AW.ent (st':=⟨(Ag (Ag Az 4 (.own 8 0 0)) 5 (.val (Ph x3))),Bo [some (.row 2 true [[.sl (List.map Ak a0.l),Iy a0.offs]])] [some (.row 1 true [])],9⟩) ?_ ?_
  · refine Bu [120] _ _ _ rfl (by first|decide|simp) rfl ?_ ?_ ?_
    · exact RF.any.qo.qv
    · exact .ce (.nil _)
    · exact .ce (.nil _)
  refine AW.ret<|Ad ?_
  obtain rfl:=oi h
  exact ⟨rfl,rfl,_,rfl,by first|rfl|simp [Cu,Ae,Ar]⟩
def f22_s1 (a0:List ByteArray) (a1:List ByteArray):Int→Option (Int⊕(Bool⊕Unit))
  | s1_0=>(if s1_0<(a0.length:Int) then ((ix a0 s1_0).bind fun x15=>((ix a1 s1_0).bind fun x16=>(if x15=x16 then some (.inl (IntKind.i64.wrap (s1_0+1))) else some (.inr (.inl false))))) else some (.inr (.inr ())))
def f22 (a0:List ByteArray) (a1:List ByteArray):Option Bool:=(if (a0.length:Int)=(a1.length:Int) then ((loopO (f22_s1 a0 a1) 0).bind fun y18=>match y18 with|.inl y19=>some y19|.inr _=>some true) else some false)
theorem ok22 (a0:List ByteArray) (a1:List ByteArray) (r:Bool) (h:f22 a0 a1=some r):PC Tryz.prog 22 [.sl (List.map Cr a0),.sl (List.map Cr a1)] (.val (.bool r)):=by
 rw [f22] at h
 refine Bi (N:=26) (rs:=[.tmp 4]) Tryz.func22 ?_
 refine Ac [0,1] ?_
 refine AW.seq<|Ac [0,1,10] ?_
 rcases Aq h with ⟨c2,h⟩|⟨c2,h⟩
 ·refine Ai rfl (fun q=>q c2) ?_
  refine AW.skip<|Aa<|AW.seq<|Ac [0,1,5] ?_
  refine AW.block ?_
  obtain ⟨y18,hy18,h⟩:=bO h
  refine AW.loopO (fun s=>⟨(Ag (Ag (Ag Az 0 (.sl (List.map Cr a0))) 1 (.sl (List.map Cr a1))) 5 (.val (.int .i64 s))),Bo [] [],8⟩) (fun y e st'=>match y with|.inl z=>e=Exit.ret∧Ay Tryz.prog [.tmp 4] (.val (.bool z)) .ret st'|.inr z=>e=Exit.exit 0∧st'=⟨Az,Bo [] [],8⟩) hy18 ?_ ?_ ?_
  ·exact Bg RF.any.qv.qv.qv
  ·clear h hy18
   rintro s1_0 x h
   rw [f22_s1] at h
   refine AW.seq<|Ac [0,1,5,14] ?_
   rcases Aq h with ⟨c14,h⟩|⟨c14,h⟩
   ·refine Aj rfl c14<|AW.skip<|Aa<|AW.seq<|AW.block ?_
    obtain ⟨x15,hx15,h⟩:=bO h
    obtain ⟨hx15a,hx15b⟩:=ix_some.1 hx15
    obtain ⟨x16,hx16,h⟩:=bO h
    obtain ⟨hx16a,hx16b⟩:=ix_some.1 hx16
    refine Dm [0,1,5,25] [0,0,3,7,0,0,48,112,255] ?_
    generalize hK:AW Tryz.prog _ _ _=K
    simp only [go_sem,seval,Ah hx15a,hx15b,Ah hx16a,hx16b]
    subst hK
    rcases Aq h with ⟨c17,h⟩|⟨c17,h⟩
    ·refine Ai rfl (fun q=>q c17)<|AW.skip<|Ax<|Aa<|Cd [0,1,5] ?_
     refine Aa ?_
     refine ⟨_,oj h,?_⟩
     exact Bg RF.any.qv.qv.qv
    ·refine Aj rfl c17<|Ac [4] ?_
     refine AW.ret<|Bd<|Ad<|Ad ?_
     refine ⟨_,oj h,_,Ent.refl,rfl,?_⟩
     (simp only [go_sem,seval,Ay]<;>try simp)
   ·refine Ai rfl c14<|AW.exit<|Af<|Af ?_
    refine ⟨_,oj h,_,?_,rfl,rfl⟩
    exact Bg RF.any
  ·intro e st' hX
   rcases y18 with y19|_<;>dsimp only at h hX
   ·obtain ⟨rfl,hf⟩:=hX
    refine ⟨_,Ent.refl,?_⟩
    refine Bd<|Ad ?_
    obtain rfl:=oi h
    exact hf
   ·obtain ⟨rfl,rfl⟩:=hX
    refine ⟨_,Ent.refl,?_⟩
    refine Bc<|Aa<|Ac [4] ?_
    refine AW.ret ?_
    obtain rfl:=oi h
    (simp only [go_sem,seval,Ay]<;>try simp)
 ·refine Aj rfl c2<|Ac [4] ?_
  refine AW.ret<|Ad ?_
  obtain rfl:=oi h
  (simp only [go_sem,seval,Ay]<;>try simp)
def Sv (a0:List Res) (a1:Int):(List ByteArray)×Int→Option (((List ByteArray)×Int)⊕(List ByteArray))
  | (s1_0,s1_1)=>(if s1_1<(a0.length:Int) then ((ix a0 s1_1).bind fun x14=>((f24 x14.Offs a1).bind fun x15=>(if x15=true then ((Bq s1_0 [x14.Key]).bind fun x17=>some (.inl (x17,IntKind.i64.wrap (s1_1+1)))) else some (.inl (s1_0,IntKind.i64.wrap (s1_1+1)))))) else some (.inr s1_0))
def f23 (a0:List Res) (a1:Int):Option (List ByteArray):=((loopO (Sv a0 a1) ([],0)).bind fun y19=>some y19)
theorem ok23 (a0:List Res) (a1:Int) (r:(List ByteArray)) (h:f23 a0 a1=some r):PC Tryz.prog 23 [.sl (List.map Ak a0),.val (.int .i64 a1)] (.fr 1 (List.map Cr r)):=by
 rw [f23] at h
 refine Bi (N:=29) (rs:=[.tmp 4]) Tryz.func23 ?_
 refine Ac [0,1] ?_
 refine Ac [0,1,5] ?_
 refine AW.seq<|Ac [0,1,5,6] ?_
 refine AW.block ?_
 obtain ⟨y19,hy19,h⟩:=bO h
 refine AW.loopO (fun s=>⟨(Ag (Ag (Ag (Ag Az 0 (.sl (List.map Ak a0))) 1 (.val (.int .i64 a1))) 5 (.own 8 0 s.1.length)) 6 (.val (.int .i64 s.2))),Bo [] [some (.row 1 true (List.map Cr s.1))],9⟩) (fun z e st'=>e=Exit.exit 0∧st'=⟨(Ag Az 5 (.own 8 0 z.length)),Bo [] [some (.row 1 true (List.map Cr z))],9⟩) hy19 ?_ ?_ ?_
 ·refine Ent.trans (Av 5 1 (by decide) rfl) ?_
  exact Ab [32] RF.any.qv.qv.qo.qv (.nil _) (.ce (.nil _))
 ·clear h hy19
  rintro ⟨s1_0,s1_1⟩ x h
  rw [Sv] at h
  refine AW.seq<|Ac [0,1,5,6,10] ?_
  rcases Aq h with ⟨c13,h⟩|⟨c13,h⟩
  ·refine Aj rfl c13<|AW.skip<|Aa<|AW.seq<|AW.block ?_
   obtain ⟨x14,hx14,h⟩:=bO h
   obtain ⟨hx14a,hx14b⟩:=ix_some.1 hx14
   obtain ⟨x15,hx15,h⟩:=bO h
   refine Kw [0,1,5,6,19] (ok24 x14.Offs a1 x15 hx15) Tryz.call24 ?_
   rcases Aq h with ⟨c16,h⟩|⟨c16,h⟩
   ·refine Bp rfl c16 ?_
    obtain ⟨x17,hx17,h⟩:=bO h
    obtain ⟨hx17b,hx17e⟩:=appO?_some.1 hx17
    have hx17f:∀id o:Nat,Dw 1 16 id ([[.val (.string x14.Key)]]) 0 s1_0.length o (some (.row 1 true (List.map Cr s1_0)))=some ⟨.own id 0 x17.length,[(o,none),(id,some (.row 1 true (List.map Cr x17)))]⟩:=fun id o=>by
      subst hx17e;rw [Bw (by simp) (by simpa using hx17b) (by decide)];first|(simp [Cr];done)|(simp [Cr];omega)
    refine Bz [0,1,5,6] ?_
    refine Ax<|Aa<|Bz [0,1,5,6] ?_
    refine Aa ?_
    refine ⟨_,oj h,?_⟩
    exact Ab [153] RF.any.qv.qv.qo.qv (.nil _) (.ce (.nil _))
   ·rw [Bool.not_eq_true] at c16
    refine Bl rfl c16<|AW.skip<|Ax<|Aa<|Bz [0,1,5,6] ?_
    refine Aa ?_
    refine ⟨_,oj h,?_⟩
    exact Ab [8] RF.any.qv.qv.qo.qv (.nil _) (.ce (.nil _))
  ·refine Ai rfl c13<|AW.exit<|Af<|Af ?_
   refine ⟨_,oj h,_,?_,rfl,rfl⟩
   exact Ab [8] RF.any.qo (.nil _) (.ce (.nil _))
 ·intro e st' hX
  try dsimp only at h
  try dsimp only at hX
  obtain ⟨rfl,rfl⟩:=hX
  refine ⟨_,Ent.refl,?_⟩
  refine Bc<|Aa<|Ac [4] ?_
  refine AW.ret ?_
  obtain rfl:=oi h
  (simp only [go_sem,seval,Ay]<;>try simp)
def f61 (a0:ByteArray) (a1:Int) (a2:Er):Option Er:=(if (Er.isNil a2)=true then some Er.nil else some (Er.slip a0 a1 a2))
theorem ok61 (a0:ByteArray) (a1:Int) (a2:Er) (r:Er) (h:f61 a0 a1 a2=some r):PC Tryz.prog 61 [.val (.string a0),.val (.int .i64 a1),.val (Ph a2)] (.val (Ph r)):=by
 rw [f61] at h
 refine Bi (N:=14) (rs:=[.tmp 6]) Tryz.func61 ?_
 refine Ac [0,1,2] ?_
 refine AW.seq<|Ao [0,1,2,8] ?_
 rcases Aq h with ⟨c1,h⟩|⟨c1,h⟩
 ·refine Bp rfl c1<|Ao [6] ?_
  refine AW.ret<|Ad ?_
  obtain rfl:=oi h
  (simp only [go_sem,seval,c1,Ay]<;>try simp)
 ·rw [Bool.not_eq_true] at c1
  refine Bl rfl c1<|AW.skip<|Aa<|Ao [6] ?_
  refine AW.ret ?_
  obtain rfl:=oi h
  (simp only [go_sem,seval,c1,Ay]<;>try simp)
def f33 (a0:ByteArray) (a1:Int) (a2:Int):Option Er:=((f44 a2).bind fun x1=>((f61 a0 a1 x1).bind fun x2=>some x2))
theorem ok33 (a0:ByteArray) (a1:Int) (a2:Int) (r:Er) (h:f33 a0 a1 a2=some r):PC Tryz.prog 33 [.val (.string a0),.val (.int .i64 a1),.val (.int .i64 a2)] (.val (Ph r)):=by
 rw [f33] at h
 refine Bi (N:=12) (rs:=[.tmp 6]) Tryz.func33 ?_
 refine Ac [0,1,2] ?_
 obtain ⟨x1,hx1,h⟩:=bO h
 obtain ⟨x2,hx2,h⟩:=bO h
 refine Cb [6] fun K hK=>?_
 simp only [go_sem,seval]
 refine arC.of (ok44 a2 x1 hx1) Tryz.call44 ?_
 simp only [go_sem,seval]
 refine arC.of (ok61 a0 a1 x1 x2 hx2) Tryz.call61 ?_
 simp only [go_sem,seval]
 subst hK
 refine AW.ret ?_
 obtain rfl:=oi h
 (simp only [go_sem,seval,Ay]<;>try simp)
def tmA (a0:List Res) (s:MT×Int):ASt:=⟨Ag (Ag (Ag (Ag Az 14 (.val (.int .i64 s.2))) 13 (.val (.int .i64 (a0.length:Int)))) 12 (.sl (List.map Ak a0))) 3 (.mp 8),hpT s.1,9+s.1.length⟩
def tmB (a0:List Res) (i:Int) (r:Res) (cs:List Int) (s:MT×Int):ASt:=⟨Ag (Ag (Ag (Ag (Ag (Ag (Ag (Ag Az 24 (.val (.int .i64 s.2))) 23 (.val (.int .i64 (cs.length:Int)))) 22 (.sl (List.map Bk cs))) 14 (.val (.int .i64 i))) 13 (.val (.int .i64 (a0.length:Int)))) 12 (.sl (List.map Ak a0))) 5 (.ip (Ak r))) 3 (.mp 8),hpT s.1,9+s.1.length⟩
def tmC (T:MT) (ks:List Int) (s:List Fwd×Int):ASt:=⟨Ag (Ag (Ag (Ag (Ag Az 43 (.val (.int .i64 s.2))) 42 (.val (.int .i64 (ks.length:Int)))) 41 (.sl (List.map Bk ks))) 8 (.own 8 0 s.1.length)) 3 (.im (Ew T) (T.map slT)),Bo [] [some (.row 2 true (List.map Dp s.1))],9⟩
theorem mi160:Qb Tryz.prog 160=some (.i64,.slice none 0 0):=by kernel_rfl
theorem ok49 (a0:List Res) (r:List Fwd) (h:f49 a0=some r):PC Tryz.prog 49 [.sl (List.map Ak a0)] (.fr 2 (List.map Dp r)):=by
 rw [f49] at h
 refine Bi (N:=57) (rs:=[.tmp 2]) Tryz.func49 ?_
 refine Ac [0] ?_
 refine Ac [0,3] ?_
 refine AW.seq<|Ac [3,12,13,14] ?_
 refine AW.block ?_
 obtain ⟨T,hT,h⟩:=bO h
 refine AW.loopO (tmA a0) (fun T e st'=>e=Exit.exit 0∧st'=⟨Ag Az 3 (.mp 8),hpT T,9+T.length⟩) hT ?_ ?_ ?_
 ·unfold tmA
  exact Ab (b:=[some (moM [])]) [16] (RF.any.qv.qv.qv.pm (by decide) rfl) (.nil _) (.cons (.mpe (by simp [Cv,Ae];rfl)) (.nil _))
 ·clear h hT
  rintro ⟨T,i⟩ x h
  rw [f49_a] at h
  unfold tmA
  dsimp only
  refine Ao [3,12,13,14,15] ?_
  refine AW.seq ?_
  rcases Aq h with ⟨c1,h⟩|⟨c1,h⟩
  ·refine Aj rfl c1<|AW.skip<|Aa<|AW.seq<|AW.block ?_
   obtain ⟨y,hy,h⟩:=bO h
   obtain ⟨hya,hyb⟩:=ix_some.1 hy
   obtain ⟨n,hn⟩:∃n,n=9+T.length:=⟨_,rfl⟩
   rw [←hn]
   refine Cb [3,5,12,13,14] fun K hK=>?_
   simp only [go_sem,seval,Ah,hya,hyb]
   subst hK
   refine AW.ent (Jh (sz:=3) (mu:=true) (cs:=Ak y) 5 rfl (by simp [Ae,Ak]) (by first|rfl|simp only [go_sem]) (by simp [Ak])) ?_
   refine AW.ent (Rc T (by simp [Ae,hpT_8,show ¬ 8=n+8+8+8 by omega]) (fun t h1 h2=>by simp [Ae,show ¬t=n+8+8+8 by omega]) (((((RF.any.pm (d:=3) (t:=8) (by omega) rfl).qv (d:=5) (v:=.ip (Ak y))).qv (d:=12) (v:=.sl (List.map Ak a0))).qv (d:=13) (v:=.val (.int .i64 (a0.length:Int)))).qv (d:=14) (v:=.val (.int .i64 i)))) ?_
   rw [←hn]
   obtain ⟨v,hv,h⟩:=bO h
   obtain ⟨s,hs,h⟩:=bO h
   obtain ⟨c,hc,h⟩:=bO h
   obtain ⟨T',hT',h⟩:=bO h
   refine Cb [3,5,12,13,14,22,23,24] fun K hK=>?_
   simp only [go_sem,seval]
   refine arC.of (ok85 y.Offs v hv) Tryz.call85 ?_
   simp only [go_sem,seval]
   refine arC.of (ok84_115 v s hs) Tryz.call84 ?_
   simp only [go_sem,seval]
   refine arC.ok (Br (ok83 s c hc) [n+8+8+8] (.ce (.nil _) (h:=by simp [sg,Ae])) (.cons (.of rfl) .nil) (hnd:=by simp)) Tryz.call83 ?_
   simp only [go_sem,seval]
   subst hK
   refine AW.ent (Ent.still 22 rfl (Fg (sz:=1) (m:=true) (rows:=List.map Bk c) (by simp [Ae]) (by simp) (by simp only [go_sem]))) ?_
   refine AW.ent (st':=tmB a0 i y c (T,0)) ?_ ?_
   ·unfold tmB
    exact Rc T (by simp [Ae,hpT_8,show ¬ 8=n+8+8+8 by omega]) (fun t h1 h2=>by simp [Ae,show ¬t=n+8+8+8 by omega]) ((((((((RF.any.qv).qv).qv).qv).qv).qv).qv).pm (by omega) rfl)
   refine AW.block ?_
   refine AW.loopO (tmB a0 i y c) (fun T' e st'=>e=Exit.exit 2∧st'=tmA a0 (T',i)) hT' Ent.refl ?_ ?_
   ·clear h hT' hn
    rintro ⟨U,j⟩ x h
    rw [f49_b] at h
    unfold tmB
    dsimp only
    refine Ao [3,5,12,13,14,22,23,24,25] ?_
    refine AW.seq ?_
    rcases Aq h with ⟨c2,h⟩|⟨c2,h⟩
    ·refine Aj rfl c2<|AW.skip<|Aa<|AW.seq<|AW.block ?_
     obtain ⟨o,ho,h⟩:=bO h
     obtain ⟨hoa,hob⟩:=ix_some.1 ho
     refine Ao [3,5,7,12,13,14,22,23,24] ?_
     obtain ⟨gg,hg,h⟩:=bO h
     have hg:=(appO?_some.1 hg).1
     obtain ⟨m,hm⟩:∃m,m=9+U.length:=⟨_,rfl⟩
     rw [←hm]
     rcases split_T o y.Key U with ⟨T1,T2,l,hU,h1,h2,h3⟩|⟨h1,h2,h3⟩
     ·have e8:hpT U 8=some (.mapo (Ew (T1++(o,l)::T2)) (Hk (List.range' 9 T1.length) T1++.own (9+T1.length) 0 l.length::Hk (List.range' (10+T1.length) T2.length) T2)):=by rw [hU,hpT_8,mapO,own_split]
      have eq:hpT U (9+T1.length)=some (.row 1 true (l.map strS)):=hpT_j U (x:=(o,l)) (by rw [hU];simp)
      have k1:=look_T mi160 (T2:=T2) (l:=l) (v1:=Hk (List.range' 9 T1.length) T1) (u:=.own (9+T1.length) 0 l.length) (v2:=Hk (List.range' (10+T1.length) T2.length) T2) (Pz (by simp)) h1
      have k2:=fun v=>upd_T mi160 (T2:=T2) (l:=l) (v1:=Hk (List.range' 9 T1.length) T1) (u:=.own (9+T1.length) 0 l.length) (v2:=Hk (List.range' (10+T1.length) T2.length) T2) (Pz (by simp)) h1 8 v (l++[y.Key])
      have hml:9+T1.length<m:=by rw [hU] at hm;simp at hm;omega
      have n1:∀k,(9+T1.length=m+k)=False:=fun k=>eq_false (by omega)
      have n2:(8=9+T1.length)=False:=eq_false (by omega)
      have n3:∀k,(8=m+k)=False:=fun k=>eq_false (by omega)
      have hap:∀id q:Nat,Dw 1 16 id [[.val (.string y.Key)]] 0 l.length q (some (.row 1 true (l.map strS)))=some ⟨.own id 0 (l.length+1),[(q,none),(id,some (.row 1 true ((l++[y.Key]).map strS)))]⟩:=fun id q=>by
       rw [Bw (by simp) (by rw [h2] at hg;simpa using hg) (by decide)];simp [strS]
      refine Dq [3,5,12,13,14,22,23,24] fun K hK=>?_
      simp only [go_sem,seval,lookA_mp,lookO_mapo,e8,eq,k1,k2,n1,n2,n3,hap,Nat.add_assoc]
      subst hK
      refine Ax<|Aa<|Cd [3,5,12,13,14,22,23,24] ?_
      refine Aa ?_
      refine ⟨_,oj h,?_⟩
      rw [h3]
      have el:(l++[y.Key]).length=l.length+1:=by simp
      exact Ent.foundT (q:=m+96) hU (by omega) (by simp [Ae,el]) (by simp [Ae,rowT,n3]) (fun t g1 g2 g3=>by simp [Ae,g3,show ¬t=8 by omega,show ∀k,¬t=m+k by omega]) ((((((((RF.any.qv).qv).qv).qv).qv).qv).qv).pm (by omega) rfl)
     ·have e8:hpT U 8=some (.mapo (Ew U) (Hk (List.range' 9 U.length) U)):=rfl
      have k1:=look_N mi160 (v1:=Hk (List.range' 9 U.length) U) (Pz (by simp)) h1
      have k2:=fun v=>upd_N mi160 (v1:=Hk (List.range' 9 U.length) U) (Pz (by simp)) h1 8 v [y.Key]
      have n3:∀k,(8=m+k)=False:=fun k=>eq_false (by omega)
      refine Dq [3,5,12,13,14,22,23,24] fun K hK=>?_
      simp only [go_sem,seval,lookA_mp,lookO_mapo,e8,k1,k2,n3,Nat.add_assoc]
      subst hK
      refine Ax<|Aa<|Cd [3,5,12,13,14,22,23,24] ?_
      refine Aa ?_
      refine ⟨_,oj h,?_⟩
      rw [h3]
      exact Ent.newT (q:=m+96) (by omega) (by simp [Ae]) (by simp [Ae,rowT,strS,n3]) (fun t g1 g2=>by simp [Ae,show ¬t=8 by omega,show ∀k,¬t=m+k by omega]) ((((((((RF.any.qv).qv).qv).qv).qv).qv).qv).pm (by omega) rfl)
    ·refine Ai rfl c2<|AW.exit<|Af<|Af ?_
     refine ⟨_,oj h,_,?_,rfl,rfl⟩
     unfold tmA
     exact Rc U rfl (fun _ _ _=>rfl) (RF.any.qv.qv.qv.pm (by omega) rfl)
   ·rintro e st' ⟨rfl,rfl⟩
    refine ⟨_,Ent.refl,?_⟩
    refine Bc<|Ax<|Aa ?_
    unfold tmA
    dsimp only
    refine Cd [3,12,13,14] ?_
    refine Aa ?_
    refine ⟨_,oj h,?_⟩
    exact Rc _ rfl (fun _ _ _=>rfl) (RF.any.qv.qv.qv.pm (by omega) rfl)
  ·refine Ai rfl c1<|AW.exit<|Af<|Af ?_
   refine ⟨_,oj h,_,?_,rfl,rfl⟩
   exact Rc T rfl (fun _ _ _=>rfl) (RF.any.pm (by omega) rfl)
 ·rintro e st' ⟨rfl,rfl⟩
  refine ⟨_,Ent.refl,?_⟩
  refine Bc<|Aa ?_
  refine AW.ent (Ent.freezeT 3 T rfl) ?_
  obtain ⟨ks,hk,h⟩:=bO h
  have hkm:∀o∈ks,o∈T.map (·.1):=fun o ho=>by
   unfold Tx at hk
   split at hk
   ·obtain rfl:=Option.some.inj hk
    exact List.mem_mergeSort.1 ho
   ·cases hk
  have h86:=ok86 (Ew T) (T.map slT) (inl_slT T)
  have h84:=ok84_116 _ (T.map slT) ks hk
  rw [show (T.map (·.1)).map Gp=Ew T by simp [Ew,Function.comp_def]] at h84
  have htv:Hj (.im (Ew T) (T.map slT))=[]:=by simp only [Hj,Cn]
  have hin:inl (.im (Ew T) (T.map slT))=true:=by simp only [inl,inl_slT]
  have hi:∀hp:Am,Fj hp (.im (Ew T) (T.map slT))=some (.im (Ew T) (T.map slT)):=fun hp=>by simp [Fj,inl,inl_slT]
  refine Ac [3,8] ?_
  refine AW.seq<|Cb [3,8,41,42,43] fun K hK=>?_
  simp only [go_sem,seval,hi]
  refine arC.of h86 Tryz.call86 ?_
  simp only [go_sem,seval,hi,hin,htv]
  refine arC.of h84 Tryz.call84 ?_
  simp only [go_sem,seval]
  subst hK
  refine AW.ent (Ent.still 41 rfl (Fg (sz:=1) (m:=true) (rows:=List.map Bk ks) (by simp [Ae]) (by simp) (by simp only [go_sem]))) ?_
  refine AW.ent (Av 8 2 (by decide) rfl) ?_
  refine AW.block ?_
  refine AW.loopO (tmC T ks) (fun z e st'=>e=Exit.exit 4∧st'=⟨Ag Az 8 (.own 8 0 z.length),Bo [] [some (.row 2 true (List.map Dp z))],9⟩) h ?_ ?_ ?_
  ·unfold tmC
   exact Ab [56] ((((RF.any.qv).qv).qv).qo.qv hin) (.nil _) (.ce (.nil _))
  ·clear h
   rintro ⟨out,i⟩ x h
   rw [f49_c] at h
   unfold tmC
   dsimp only
   refine Ao [3,8,41,42,43,44] ?_
   refine AW.seq ?_
   rcases Aq h with ⟨c1,h⟩|⟨c1,h⟩
   ·refine Aj rfl c1<|AW.skip<|Aa<|AW.seq<|AW.block ?_
    obtain ⟨o,ho,h⟩:=bO h
    obtain ⟨hoa,hob⟩:=ix_some.1 ho
    obtain ⟨z,hz,h⟩:=bO h
    obtain ⟨hzb,hze⟩:=appO?_some.1 hz
    have k1:=look_S mi160 (hkm o (List.mem_of_getElem? hob))
    refine Ao [3,8,10,41,42,43] ?_
    have hap:∀id q:Nat,Dw 2 32 id [[.val (.int .i64 o),.sl ((Ik o T).map strS)]] 0 out.length q (some (.row 2 true (List.map Dp out)))=some ⟨.own id 0 z.length,[(q,none),(id,some (.row 2 true (List.map Dp z)))]⟩:=fun id q=>by
     subst hze;rw [Bw (by simp) (by simpa using hzb) (by decide)];simp [Dp];exact fun _ _=>rfl
    refine Dq [3,8,41,42,43] fun K hK=>?_
    simp only [go_sem,seval,lookA_im,k1,hap]
    subst hK
    refine Ax<|Aa<|Cd [3,8,41,42,43] ?_
    refine Aa ?_
    refine ⟨_,oj h,?_⟩
    exact Ab [97] ((((RF.any.qv).qv).qv).qo.qv hin) (.nil _) (.ce (.nil _))
   ·refine Ai rfl c1<|AW.exit<|Af<|Af ?_
    refine ⟨_,oj h,_,?_,rfl,rfl⟩
    exact Ab [8] RF.any.qo (.nil _) (.ce (.nil _))
  ·rintro e st' ⟨rfl,rfl⟩
   refine ⟨_,Ent.refl,?_⟩
   refine Bc<|Aa<|Ac [2] ?_
   refine AW.ret ?_
   (simp only [go_sem,seval,Ay]<;>try simp)
def f25 (a0:Trace):Option ((List Int)×Er×Trace):=((f49 a0.l).bind fun x1=>((f48 x1).bind fun x2=>((f33 ⟨#[105,110,100,101,120]⟩ 0 x2.2).bind fun x3=>some (x2.1,x3,a0))))
theorem ok25 (a0:Trace) (r:(List Int)×Er×Trace) (h:f25 a0=some r):IC Tryz.prog 25 [some (.row 2 true [[.sl (List.map Ak a0.l),Iy a0.offs]])] [.ptr 0 0 0] (.tup [.own 8 0 r.1.length,.val (Ph r.2.1)]) [some (.row 2 true [[.sl (List.map Ak r.2.2.l),Iy r.2.2.offs]])] [some (.row 1 true (List.map Aw r.1))]:=by
 rw [f25] at h
 refine Qg (N:=21) (rs:=[.tmp 2,.tmp 3]) Tryz.func25 rfl rfl rfl (Nat.le_of_ble_eq_true rfl)<|Ac [0] ?_
 refine AW.seq<|Ac [0,7] ?_
 refine Bl rfl rfl<|AW.skip<|Aa ?_
 obtain ⟨x1,hx1,h⟩:=bO h
 obtain ⟨x2,hx2,h⟩:=bO h
 refine Cb [4,5] fun K hK=>?_
 simp only [go_sem,seval]
 refine arC.of (ok49 a0.l x1 hx1) Tryz.call49 ?_
 simp only [go_sem,seval]
 refine arC.of (ok48 x1 x2 hx2) Tryz.call48 ?_
 simp only [go_sem,seval]
 subst hK
 obtain ⟨x3,hx3,h⟩:=bO h
 refine Bx [2,3] (ok33 ⟨#[105,110,100,101,120]⟩ 0 x2.2 x3 hx3) Tryz.call33 ?_
 refine AW.ent (st':=⟨(Ag (Ag Az 2 (.own 8 0 x2.1.length)) 3 (.val (Ph x3))),Bo [some (.row 2 true [[.sl (List.map Ak a0.l),Iy a0.offs]])] [some (.row 1 true (List.map Aw x2.1))],9⟩) ?_ ?_
 · refine Bu [80] _ _ _ rfl (by first|decide|simp) rfl ?_ ?_ ?_
   · exact RF.any.qo.qv
   · exact .ce (.nil _)
   · exact .ce (.nil _)
 refine AW.ret ?_
 obtain rfl:=oi h
 exact ⟨rfl,rfl,_,rfl,by first|rfl|simp [Cu,Ae,Ar]⟩
def Wa (a0:Trace):(List ByteArray)×Int→Option (((List ByteArray)×Int)⊕(List ByteArray))
  | (s1_0,s1_1)=>(if s1_1<(a0.l.length:Int) then ((ix a0.l s1_1).bind fun x13=>((Bq s1_0 [x13.Key]).bind fun x14=>some (.inl (x14,IntKind.i64.wrap (s1_1+1))))) else some (.inr s1_0))
def f26 (a0:Trace):Option ((List ByteArray)×Trace):=((loopO (Wa a0) ([],0)).bind fun y16=>some (y16,a0))
theorem ok26 (a0:Trace) (r:(List ByteArray)×Trace) (h:f26 a0=some r):IC Tryz.prog 26 [some (.row 2 true [[.sl (List.map Ak a0.l),Iy a0.offs]])] [.ptr 0 0 0] (.own 8 0 r.1.length) [some (.row 2 true [[.sl (List.map Ak r.2.l),Iy r.2.offs]])] [some (.row 1 true (List.map Cr r.1))]:=by
 rw [f26] at h
 refine Qg (N:=24) (rs:=[.tmp 2]) Tryz.func26 rfl rfl rfl (Nat.le_of_ble_eq_true rfl)<|Ac [0] ?_
 refine AW.seq<|Ac [0,7] ?_
 refine Bl rfl rfl<|AW.skip<|Aa<|Ac [0,3] ?_
 refine AW.seq<|Ac [3,11,12,13] ?_
 refine AW.block ?_
 obtain ⟨y16,hy16,h⟩:=bO h
 refine AW.loopO (fun s=>⟨(Ag (Ag (Ag (Ag Az 3 (.own 8 0 s.1.length)) 11 (.sl (List.map Ak a0.l))) 12 (.val (.int .i64 (a0.l.length:Int)))) 13 (.val (.int .i64 s.2))),Bo [some (.row 2 true [[.sl (List.map Ak a0.l),Iy a0.offs]])] [some (.row 1 true (List.map Cr s.1))],9⟩) (fun z e st'=>e=Exit.exit 0∧st'=⟨(Ag Az 3 (.own 8 0 z.length)),Bo [some (.row 2 true [[.sl (List.map Ak a0.l),Iy a0.offs]])] [some (.row 1 true (List.map Cr z))],9⟩) hy16 ?_ ?_ ?_
 ·refine Ent.trans (Av 3 1 (by decide) rfl) ?_
  exact Ab [88] RF.any.qo.qv.qv.qv (.ce (.nil _)) (.ce (.nil _))
 ·clear h hy16
  rintro ⟨s1_0,s1_1⟩ x h
  rw [Wa] at h
  refine Ac [3,11,12,13,14] ?_
  refine AW.seq ?_
  rcases Aq h with ⟨c12,h⟩|⟨c12,h⟩
  ·refine Aj rfl c12<|AW.skip<|Aa<|AW.seq<|AW.block ?_
   obtain ⟨x13,hx13,h⟩:=bO h
   obtain ⟨hx13a,hx13b⟩:=ix_some.1 hx13
   refine Ao [3,5,11,12,13] ?_
   obtain ⟨x14,hx14,h⟩:=bO h
   obtain ⟨hx14b,hx14e⟩:=appO?_some.1 hx14
   have hx14f:∀id o:Nat,Dw 1 16 id ([[.val (.string x13.Key)]]) 0 s1_0.length o (some (.row 1 true (List.map Cr s1_0)))=some ⟨.own id 0 x14.length,[(o,none),(id,some (.row 1 true (List.map Cr x14)))]⟩:=fun id o=>by
     subst hx14e;rw [Bw (by simp) (by simpa using hx14b) (by decide)];first|(simp [Cr];done)|(simp [Cr];omega)
   refine Bz [3,11,12,13] ?_
   refine Ax<|Aa<|Cd [3,11,12,13] ?_
   refine Aa ?_
   refine ⟨_,oj h,?_⟩
   exact Ab [81] RF.any.qo.qv.qv.qv (.ce (.nil _)) (.ce (.nil _))
  ·refine Ai rfl c12<|AW.exit<|Af<|Af ?_
   refine ⟨_,oj h,_,?_,rfl,rfl⟩
   exact Ab [8] RF.any.qo (.ce (.nil _)) (.ce (.nil _))
 ·intro e st' hX
  try dsimp only at h
  try dsimp only at hX
  obtain ⟨rfl,rfl⟩:=hX
  refine ⟨_,Ent.refl,?_⟩
  refine Bc<|Aa<|Ac [2] ?_
  refine AW.ent (st':=⟨(Ag Az 2 (.own 8 0 y16.length)),Bo [some (.row 2 true [[.sl (List.map Ak a0.l),Iy a0.offs]])] [some (.row 1 true (List.map Cr y16))],9⟩) ?_ ?_
  · refine Bu [8] _ _ _ rfl (by first|decide|simp) rfl ?_ ?_ ?_
    · exact RF.any.qo
    · exact .ce (.nil _)
    · exact .ce (.nil _)
  refine AW.ret ?_
  obtain rfl:=oi h
  exact ⟨rfl,rfl,_,rfl,by first|rfl|simp [Cu,Ae,Ar]⟩
theorem get_eq (J:List Res) (hl:J.length≤1000000) (ho:∀r∈J,r.Offs.length≤1000000) (k:ByteArray):∃x ok,f45 J k=some (x,ok)∧f17 J k=some (x,ok)∧((ok=true∧x∈J∧x.Key=k)∨(ok=false∧x=⟨⟨#[]⟩,⟨#[]⟩,[]⟩∧∀r∈J,r.Key≠k)):=by
 have key:∃r r',loopO (Ss J k) 0=some r∧loopO (Wc J k) 0=some r'∧(r=r'∧((∃x,r=.inl (x,true)∧x∈J∧x.Key=k)∨(r=.inr ()∧∀r∈J,r.Key≠k))):=by
  refine Dr (fun n s t=>s=t∧∃i:Nat,s=(i:Int)∧i≤J.length∧(∀r∈J.take i,r.Key≠k)∧n=J.length-i) ?_ (k:=J.length) ⟨rfl,0,rfl,by omega,by simp,rfl⟩
  rintro n _ _ ⟨rfl,i,rfl,hi,hm,hn⟩
  by_cases c:i<J.length
  · by_cases e:J[i].Key=k
    · have hoi:=ho _ (List.getElem_mem c)
      have e73:f73 J[i].Offs=some J[i].Offs:=by rw [f73,Ct (by simp) (by omega)];rfl
      refine .inr ⟨.inl (J[i],true),.inl (J[i],true),Al ?_,Al ?_,rfl,.inl ⟨_,rfl,List.getElem_mem c,e⟩⟩
      · simp only [Ss,if_pos (show (i:Int)<(J.length:Int) by omega),Ep c,Option.bind_some,if_pos e,e73]
      · simp only [Wc,if_pos (show (i:Int)<(J.length:Int) by omega),Ep c,Option.bind_some,if_pos e]
    · refine .inl ⟨((i+1:Nat):Int),((i+1:Nat):Int),n-1,?_,?_,by omega,rfl,i+1,rfl,by omega,fun r hr=>?_,by omega⟩
      · simp only [Ss,if_pos (show (i:Int)<(J.length:Int) by omega),Ep c,Option.bind_some,if_neg e,Ch (show i≤10000000000 by omega)]
      · simp only [Wc,if_pos (show (i:Int)<(J.length:Int) by omega),Ep c,Option.bind_some,if_neg e,Ch (show i≤10000000000 by omega)]
      · rw [List.take_succ_eq_append_getElem c] at hr
        rcases List.mem_append.1 hr with hr|hr
        · exact hm r hr
        · rw [List.mem_singleton] at hr;subst hr;exact e
  · refine .inr ⟨.inr (),.inr (),Al ?_,Al ?_,rfl,.inr ⟨rfl,?_⟩⟩
    · simp only [Ss,if_neg (show ¬(i:Int)<(J.length:Int) by omega)]
    · simp only [Wc,if_neg (show ¬(i:Int)<(J.length:Int) by omega)]
    · rwa [List.take_of_length_le (by omega)] at hm
 obtain ⟨r,_,k1,k2,rfl,k3⟩:=key
 rcases k3 with ⟨x,rfl,h1,h2⟩|⟨rfl,h⟩
 · exact ⟨x,true,by simp only [f45,k1,Option.bind_some],by simp only [f17,k2,Option.bind_some],.inl ⟨rfl,h1,h2⟩⟩
 · exact ⟨_,false,by simp only [f45,k1,Option.bind_some],by simp only [f17,k2,Option.bind_some],.inr ⟨rfl,rfl,h⟩⟩
theorem index_of (l:List Int) (o:Int) (hl:l.length≤1000000):f77 l o=some (decide (o∈l)):=by
 have key:∃r,loopO (Ov l o) 0=some r∧((∃i:Nat,r=.inl (i:Int)∧o∈l)∨r=.inr ()∧o∉l):=by
  refine Dv (fun n s=>∃i:Nat,s=(i:Int)∧i≤l.length∧o∉l.take i∧n=l.length-i) ?_ (k:=l.length) ⟨0,rfl,by omega,by simp,rfl⟩
  rintro n _ ⟨i,rfl,hi,hm,hn⟩
  by_cases c:i<l.length
  · by_cases e:o=l[i]
    · exact .inr ⟨_,by simp only [Ov,if_pos (show (i:Int)<(l.length:Int) by omega),Ep c,Option.bind_some,if_pos e],.inl ⟨i,rfl,e▸List.getElem_mem c⟩⟩
    · refine .inl ⟨((i+1:Nat):Int),n-1,by simp only [Ov,if_pos (show (i:Int)<(l.length:Int) by omega),Ep c,Option.bind_some,if_neg e,Ch (show i≤10000000000 by omega)],by omega,i+1,rfl,by omega,fun ho=>?_,by omega⟩
      rw [List.take_succ_eq_append_getElem c] at ho
      rcases List.mem_append.1 ho with ho|ho
      · exact hm ho
      · rw [List.mem_singleton] at ho;exact e ho
  · refine .inr ⟨_,by simp only [Ov,if_neg (show ¬(i:Int)<(l.length:Int) by omega)],.inr ⟨rfl,?_⟩⟩
    rwa [List.take_of_length_le (by omega)] at hm
 obtain ⟨r,k1,k2⟩:=key
 rcases k2 with ⟨i,rfl,h⟩|⟨rfl,h⟩
 · simp only [f77,f107,k1,Option.bind_some,h,decide_true,decide_eq_true (show (0:Int)≤(i:Int) by omega)]
 · simp only [f77,f107,k1,Option.bind_some,h,decide_false];rfl
theorem fw_in {J:List Res} {o:Int} {i:Nat} (hi:i<J.length) (e:o∈J[i].Offs) (hl:J.length≤1000000):Bq (fw (J.take i) o) [J[i].Key]=some (fw (J.take (i+1)) o):=by
 have h1:=Vm (J.take i) o
 have h2:=List.length_take_le i J
 rw [Ct (by omega) (by simp),List.take_succ_eq_append_getElem hi];simp only [fw,List.filter_append,List.map_append,List.filter_cons,e,decide_true,if_true,List.filter_nil,List.map_cons,List.map_nil]
theorem fw_out {J:List Res} {o:Int} {i:Nat} (hi:i<J.length) (e:o∉J[i].Offs):fw (J.take (i+1)) o=fw (J.take i) o:=by
 rw [List.take_succ_eq_append_getElem hi];simp only [fw,List.filter_append,List.map_append,List.filter_cons,e,decide_false,Bool.false_eq_true,if_false,List.filter_nil,List.map_nil,List.append_nil]
theorem forth_eq (J:List Res) (hl:J.length≤1000000) (ho:∀r∈J,r.Offs.length≤1000000) (o:Int):f47 J o=some (fw J o)∧f23 J o=some (fw J o):=by
 have h47:=Da (step:=Oj J o) (fun i=>(fw (J.take i) o,(i:Int))) J.length (r:=fw J o) (fun i hi=>by
  have h:=index_of J[i].Offs o (ho _ (List.getElem_mem hi))
  by_cases e:o∈J[i].Offs
  · simp only [Oj,if_pos (show (i:Int)<(J.length:Int) by omega),Ep hi,Option.bind_some,h,e,decide_true,if_true,fw_in hi e hl,Ch (show i≤10000000000 by omega)]
  · simp only [Oj,if_pos (show (i:Int)<(J.length:Int) by omega),Ep hi,Option.bind_some,h,e,decide_false,Bool.false_eq_true,if_false,fw_out hi e,Ch (show i≤10000000000 by omega)]) (by
  simp only [Oj,if_neg (show ¬(J.length:Int)<(J.length:Int) by omega),List.take_length])
 have h23:=Da (step:=Sv J o) (fun i=>(fw (J.take i) o,(i:Int))) J.length (r:=fw J o) (fun i hi=>by
  have h:=has_eq J[i].Offs o (ho _ (List.getElem_mem hi))
  by_cases e:o∈J[i].Offs
  · simp only [Sv,if_pos (show (i:Int)<(J.length:Int) by omega),Ep hi,Option.bind_some,h,e,decide_true,if_true,fw_in hi e hl,Ch (show i≤10000000000 by omega)]
  · simp only [Sv,if_pos (show (i:Int)<(J.length:Int) by omega),Ep hi,Option.bind_some,h,e,decide_false,Bool.false_eq_true,if_false,fw_out hi e,Ch (show i≤10000000000 by omega)]) (by
  simp only [Sv,if_neg (show ¬(J.length:Int)<(J.length:Int) by omega),List.take_length])
 have h47':loopO (Oj J o) ([],0)=some (fw J o):=by simpa [fw] using h47
 have h23':loopO (Sv J o) ([],0)=some (fw J o):=by simpa [fw] using h23
 exact ⟨by simp only [f47,h47',Option.bind_some],by simp only [f23,h23',Option.bind_some]⟩
theorem key_inj {J:List Res} (h:Asc (kR J) J.length) {x y:Res} (hx:x∈J) (hy:y∈J) (e:x.Key=y.Key):x=y:=by
 obtain ⟨i,hi,rfl⟩:=List.getElem_of_mem hx
 obtain ⟨j,hj,rfl⟩:=List.getElem_of_mem hy
 have hp:=List.pairwise_iff_getElem.1 (keys_pw h)
 rcases Nat.lt_trichotomy i j with c|c|c
 · have:=hp i j hi hj c;rw [e,sLt_self] at this;cases this
 · subst c;rfl
 · have:=hp j i hj hi c;rw [e,sLt_self] at this;cases this
theorem same_strs (l:List ByteArray) (h:l.length≤1000000):f22 l l=some true:=by
 unfold f22
 rw [if_pos rfl]
 obtain ⟨r,h1,h2⟩:=listEq (step:=f22_s1 l l) l l rfl h (fun i=>rfl)
 rw [h1]
 rcases h2 with ⟨_,h2⟩|⟨rfl,_⟩
 · exact absurd rfl h2
 · rfl
theorem keys_eq (J:List Res) (m:List Int) (hl:J.length≤1000000):f26 ⟨J,m⟩=some (J.map (·.Key),⟨J,m⟩):=by
 have:=Da (step:=Wa ⟨J,m⟩) (fun i=>((J.take i).map (·.Key),(i:Int))) J.length (r:=J.map (·.Key)) (fun i hi=>by
  have hap:Bq ((J.take i).map (·.Key)) [J[i].Key]=some ((J.take (i+1)).map (·.Key)):=by
   rw [Ct (by simp;omega) (by simp),List.take_succ_eq_append_getElem hi];simp only [List.map_append,List.map_cons,List.map_nil]
  simp only [Wa,if_pos (show (i:Int)<(J.length:Int) by omega),Ep hi,Option.bind_some,hap,Ch (show i≤10000000000 by omega)]) (by
  simp only [Wa,if_neg (show ¬(J.length:Int)<(J.length:Int) by omega),List.take_length])
 have h0:loopO (Wa ⟨J,m⟩) ([],0)=some (J.map (·.Key)):=by simpa using this
 simp only [f26,h0,Option.bind_some]
theorem index_bytes {J:List Res} (m:List Int) (hs:SzB 2500 J) (hl:J.length≤2500) (hR:Wu J) (ho:∀r∈J,∀o∈r.Offs,o≤2500):∃B R,f25 ⟨J,m⟩=some (B,Er.nil,⟨J,m⟩)∧f28 J=some R∧f27 R=some B:=by
 obtain ⟨ks,h1,h2,h3,h4⟩:=turn_eq J (by omega) (fun r hr=>(hR.1 r hr).2) ho
 obtain ⟨B,b1,b2⟩:=fwd_eq hs hl hR.2 h3 h4
 refine ⟨B,_,?_,h2,b2⟩
 simp only [f25,h1,Option.bind_some,b1,f33,f44,if_true,f61,Er.isNil]
def f165 (a0:Reader):Option (Int×Reader):=(if a0.e=0 then ((f122 a0.b a0.at_).bind fun x3=>some (IntKind.i64.wrap (minI x3.1 1099511627776),⟨a0.b,x3.2.1,x3.2.2⟩)) else some (0,a0))
theorem ok165 (a0:Reader) (r:Int×Reader) (h:f165 a0=some r):IC Tryz.prog 165 [some (.row 3 true [[.sl (List.map Aw a0.b),.val (.int .i64 a0.at_),.val (.int .i64 a0.e)]])] [.ptr 0 0 0] (.val (.int .i64 r.1)) [some (.row 3 true [[.sl (List.map Aw r.2.b),.val (.int .i64 r.2.at_),.val (.int .i64 r.2.e)]])] []:=by
 rw [f165] at h
 refine Qg (N:=35) (rs:=[.tmp 2]) Tryz.func165 rfl rfl rfl (Nat.le_of_ble_eq_true rfl)<|Ac [0] ?_
 refine AW.seq<|Ac [0,10] ?_
 rcases Aq h with ⟨c2,h⟩|⟨c2,h⟩
 ·refine Ai rfl (fun q=>q c2) ?_
  refine AW.skip<|Aa ?_
  obtain ⟨x3,hx3,h⟩:=bO h
  refine Sb [0,3,4,5] [0,1,3,7,0,16,48,112,255,511,1023,1023,1023,2047,12287,32767] (ok122 a0.b a0.at_ x3 hx3) Tryz.call122 ?_
  generalize hK:AW Tryz.prog _ _ _=K
  simp only [go_sem,seval]
  subst hK
  refine Ac [3] ?_
  refine Ac [2] ?_
  refine AW.ent (st':=⟨(Ag Az 2 (.val (.int .i64 (IntKind.i64.wrap (minI x3.1 1099511627776))))),Bo [some (.row 3 true [[.sl (List.map Aw a0.b),.val (.int .i64 x3.2.1),.val (.int .i64 x3.2.2)]])] [],8⟩) ?_ ?_
  · refine Bu [] _ _ _ rfl (by first|decide|simp) rfl ?_ ?_ ?_
    · exact RF.any.qv
    · exact .ce (.nil _)
    · exact .nil _
  refine AW.ret ?_
  obtain rfl:=oi h
  exact ⟨rfl,rfl,_,rfl,by first|rfl|simp [Cu,Ae,Ar]⟩
 ·refine Aj rfl c2<|Ac [2] ?_
  refine AW.ent (st':=⟨(Ag Az 2 (.val (.int .i64 0))),Bo [some (.row 3 true [[.sl (List.map Aw a0.b),.val (.int .i64 a0.at_),.val (.int .i64 a0.e)]])] [],8⟩) ?_ ?_
  · refine Bu [] _ _ _ rfl (by first|decide|simp) rfl ?_ ?_ ?_
    · exact RF.any.qv
    · exact .ce (.nil _)
    · exact .nil _
  refine AW.ret<|Ad ?_
  obtain rfl:=oi h
  exact ⟨rfl,rfl,_,rfl,by first|rfl|simp [Cu,Ae,Ar]⟩
def Ke (a0:Reader) (a1:List Int) (a2:Int) (j1_0:Int):Int→Option ((List Int)×Reader)
  | j2_0=>(if j2_0=0 then ((Bq a1 [IntKind.i64.wrap ((IntKind.i64.wrap (j1_0+1))+a2)]).bind fun x7=>some (x7,⟨a0.b,a0.at_,j2_0⟩)) else some (a1,⟨a0.b,a0.at_,j2_0⟩))
def Mq (a0:Reader) (a1:List Int) (a2:Int):Int→Option ((List Int)×Reader)
  | j1_0=>(if a0.e=0 then (if 65536≤((a1.length:Nat):Int) then Ke a0 a1 a2 j1_0 9 else (if 1048576<(IntKind.i64.wrap ((IntKind.i64.wrap (j1_0+1))+a2)) then Ke a0 a1 a2 j1_0 9 else Ke a0 a1 a2 j1_0 a0.e)) else Ke a0 a1 a2 j1_0 a0.e)
def f176 (a0:Reader) (a1:List Int) (a2:Int):Option ((List Int)×Reader):=(if 0<((a1.length:Nat):Int) then ((ix a1 (IntKind.i64.wrap (((a1.length:Nat):Int)-1))).bind fun x12=>Mq a0 a1 a2 x12) else Mq a0 a1 a2 (-1))
theorem ok176 (a0:Reader) (a1:List Int) (a2:Int) (r:(List Int)×Reader) (h:f176 a0 a1 a2=some r):IC Tryz.prog 176 [some (.row 3 true [[.sl (List.map Aw a0.b),.val (.int .i64 a0.at_),.val (.int .i64 a0.e)]]),some (.row 1 true (List.map Bk a1))] [.ptr 0 0 0,.own 1 0 a1.length,.val (.int .i64 a2)] (.own 8 0 r.1.length) [some (.row 3 true [[.sl (List.map Aw r.2.b),.val (.int .i64 r.2.at_),.val (.int .i64 r.2.e)]])] [some (.row 1 true (List.map Bk r.1))]:=by
 rw [f176] at h
 refine Qg (N:=50) (rs:=[.tmp 6]) Tryz.func176 rfl rfl rfl (Nat.le_of_ble_eq_true rfl)<|Ac [0,1,2] ?_
 refine Eb [0,1,2,7] ?_
 refine AW.join (fun s=>⟨(Ag (Ag (Ag (Ag Az 0 (.ptr 0 0 0)) 1 (.own 8 0 a1.length)) 2 (.val (.int .i64 a2))) 7 (.val (.int .i64 s))),Bo [some (.row 3 true [[.sl (List.map Aw a0.b),.val (.int .i64 a0.at_),.val (.int .i64 a0.e)]])] [some (.row 1 true (List.map Bk a1))],9⟩) (fun s=>Mq a0 a1 a2 s=some r) ?_ ?_
 ·refine Eb [0,1,2,7,10] ?_
  rcases Aq h with ⟨c11,h⟩|⟨c11,h⟩
  ·refine Aj rfl c11 ?_
   obtain ⟨x12,hx12,h⟩:=bO h
   obtain ⟨hx12a,hx12b⟩:=ix_some.1 hx12
   refine Dq [0,1,2,7] fun K hK=>?_
   simp only [go_sem,seval,Ah hx12a,hx12b,Cm hx12b]
   subst hK
   refine Aa ?_
   refine ⟨_,h,?_⟩
   exact Ab [1] RF.any.qp.qo.qv.qv (.ce (.nil _)) (.ce (.nil _))
  ·refine Ai rfl c11<|AW.skip<|Aa ?_
   refine ⟨_,h,?_⟩
   exact Ab [1] RF.any.qp.qo.qv.qv (.ce (.nil _)) (.ce (.nil _))
 ·clear h
  rintro j1_0 h
  rw [Mq] at h
  refine AW.join (fun s=>⟨(Ag (Ag (Ag (Ag Az 0 (.ptr 0 0 0)) 1 (.own 8 0 a1.length)) 2 (.val (.int .i64 a2))) 7 (.val (.int .i64 j1_0))),Bo [some (.row 3 true [[.sl (List.map Aw a0.b),.val (.int .i64 a0.at_),.val (.int .i64 s)]])] [some (.row 1 true (List.map Bk a1))],9⟩) (fun s=>Ke a0 a1 a2 j1_0 s=some r) ?_ ?_
  ·rcases Aq h with ⟨c8,h⟩|⟨c8,h⟩
   ·rcases Aq h with ⟨c9,h⟩|⟨c9,h⟩
    ·refine Ao [0,1,2,7,33] ?_
     refine Bp rfl rfl<|Bz [0,1,2,7] ?_
     refine Aa ?_
     refine ⟨_,h,?_⟩
     exact Ab [8] RF.any.qp.qo.qv.qv (.ce (.nil _)) (.ce (.nil _))
    ·refine Ao [0,1,2,7,33] ?_
     rcases Aq h with ⟨c10,h⟩|⟨c10,h⟩
     ·refine Aj rfl c10<|Bz [0,1,2,7] ?_
      refine Aa ?_
      refine ⟨_,h,?_⟩
      exact Ab [8] RF.any.qp.qo.qv.qv (.ce (.nil _)) (.ce (.nil _))
     ·refine Ai rfl c10<|AW.skip<|Aa ?_
      refine ⟨_,h,?_⟩
      exact Ab [8] RF.any.qp.qo.qv.qv (.ce (.nil _)) (.ce (.nil _))
   ·refine Ao [0,1,2,7,33] ?_
    refine Bl rfl rfl<|AW.skip<|Aa ?_
    refine ⟨_,h,?_⟩
    exact Ab [8] RF.any.qp.qo.qv.qv (.ce (.nil _)) (.ce (.nil _))
  ·clear h
   rintro j2_0 h
   rw [Ke] at h
   refine AW.seq<|Ac [1,2,7,41] ?_
   rcases Aq h with ⟨c6,h⟩|⟨c6,h⟩
   ·refine Ai rfl (fun q=>q c6) ?_
    refine AW.skip<|Aa ?_
    obtain ⟨x7,hx7,h⟩:=bO h
    obtain ⟨hx7b,hx7e⟩:=appO?_some.1 hx7
    have hx7f:∀id o:Nat,Dw 1 8 id ([[.val (.int .i64 (IntKind.i64.wrap ((IntKind.i64.wrap (j1_0+1))+a2)))]]) 0 a1.length o (some (.row 1 true (List.map Bk a1)))=some ⟨.own id 0 x7.length,[(o,none),(id,some (.row 1 true (List.map Bk x7)))]⟩:=fun id o=>by
      subst hx7e;rw [Bw (by simp) (by simpa using hx7b) (by decide)];first|(simp [Bk];done)|(simp [Bk];omega)
    refine Ao [6] ?_
    refine AW.ent (st':=⟨(Ag Az 6 (.own 8 0 x7.length)),Bo [some (.row 3 true [[.sl (List.map Aw a0.b),.val (.int .i64 a0.at_),.val (.int .i64 j2_0)]])] [some (.row 1 true (List.map Bk x7))],9⟩) ?_ ?_
    · refine Bu [97] _ _ _ rfl (by first|decide|simp) rfl ?_ ?_ ?_
      · exact RF.any.qo
      · exact .ce (.nil _)
      · exact .ce (.nil _)
    refine AW.ret ?_
    obtain rfl:=oi h
    exact ⟨rfl,rfl,_,rfl,by first|rfl|simp [Cu,Ae,Ar]⟩
   ·refine Aj rfl c6<|Ac [6] ?_
    refine AW.ent (st':=⟨(Ag Az 6 (.own 8 0 a1.length)),Bo [some (.row 3 true [[.sl (List.map Aw a0.b),.val (.int .i64 a0.at_),.val (.int .i64 j2_0)]])] [some (.row 1 true (List.map Bk a1))],9⟩) ?_ ?_
    · refine Bu [8] _ _ _ rfl (by first|decide|simp) rfl ?_ ?_ ?_
      · exact RF.any.qo
      · exact .ce (.nil _)
      · exact .ce (.nil _)
    refine AW.ret<|Ad ?_
    obtain rfl:=oi h
    exact ⟨rfl,rfl,_,rfl,by first|rfl|simp [Cu,Ae,Ar]⟩
def Ic (x1:Int×Reader):(List Int)×Int×Int×(List Int)×Int→Option (((List Int)×Int×Int×(List Int)×Int)⊕((List Int)×Int×Int×(List Int)))
  | (s2_0,s2_1,s2_2,s2_3,s2_4)=>(if s2_4<(IntKind.i64.wrap (x1.1.tdiv 2)) then (if s2_2=0 then ((f165 ⟨s2_0,s2_1,s2_2⟩).bind fun x39=>((f176 x39.2 s2_3 x39.1).bind fun x40=>some (.inl (x40.2.b,x40.2.at_,x40.2.e,x40.1,IntKind.i64.wrap (s2_4+1))))) else some (.inl (s2_0,s2_1,s2_2,s2_3,IntKind.i64.wrap (s2_4+1)))) else some (.inr (s2_0,s2_1,s2_2,s2_3)))
def Ib (x1:Int×Reader) (x46:Int×Reader) (x47:Int×Reader):(List Int)×Int×Int×(List Int)×Int→Option (((List Int)×Int×Int×(List Int)×Int)⊕((List Int)×Int×Int×(List Int)))
  | (s3_0,s3_1,s3_2,s3_3,s3_4)=>(if s3_4<(IntKind.i64.wrap (x1.1.tdiv 2)) then (if s3_2=0 then (if s3_4=0 then ((f176 ⟨s3_0,s3_1,s3_2⟩ s3_3 x46.1).bind fun x68=>some (.inl (x68.2.b,x68.2.at_,x68.2.e,x68.1,IntKind.i64.wrap (s3_4+1)))) else ((f176 ⟨s3_0,s3_1,s3_2⟩ s3_3 x47.1).bind fun x69=>some (.inl (x69.2.b,x69.2.at_,x69.2.e,x69.1,IntKind.i64.wrap (s3_4+1))))) else some (.inr (s3_0,s3_1,s3_2,s3_3))) else some (.inr (s3_0,s3_1,s3_2,s3_3)))
def Lg (a1:List Int) (x1:Int×Reader):Int→Option ((List Int)×Reader)
  | j1_0=>(if j1_0=0 then (if (x1.1.tmod 2)=0 then ((loopO (Ic x1) (x1.2.b,x1.2.at_,j1_0,a1,0)).bind fun y41=>match y41 with|(y42,y43,y44,y45)=>some (y45,⟨y42,y43,y44⟩)) else ((f165 ⟨x1.2.b,x1.2.at_,j1_0⟩).bind fun x46=>((f165 x46.2).bind fun x47=>((loopO (Ib x1 x46 x47) (x47.2.b,x47.2.at_,x47.2.e,a1,0)).bind fun y70=>match y70 with|(y71,y72,y73,y74)=>some (y74,⟨y71,y72,y73⟩))))) else some (a1,⟨x1.2.b,x1.2.at_,j1_0⟩))
def f166 (a0:Reader) (a1:List Int):Option ((List Int)×Reader):=((f165 a0).bind fun x1=>(if 65536<(IntKind.i64.wrap (x1.1.tdiv 2)) then (if x1.2.e=0 then Lg a1 x1 9 else Lg a1 x1 x1.2.e) else Lg a1 x1 x1.2.e))
theorem ok166 (a0:Reader) (a1:List Int) (r:(List Int)×Reader) (h:f166 a0 a1=some r):IC Tryz.prog 166 [some (.row 3 true [[.sl (List.map Aw a0.b),.val (.int .i64 a0.at_),.val (.int .i64 a0.e)]]),some (.row 1 true (List.map Bk a1))] [.ptr 0 0 0,.own 1 0 a1.length] (.own 8 0 r.1.length) [some (.row 3 true [[.sl (List.map Aw r.2.b),.val (.int .i64 r.2.at_),.val (.int .i64 r.2.e)]])] [some (.row 1 true (List.map Bk r.1))]:=by
 rw [f166] at h
 refine Qg (N:=75) (rs:=[.tmp 4]) Tryz.func166 rfl rfl rfl (Nat.le_of_ble_eq_true rfl)<|Ao [0,1] ?_
 obtain ⟨x1,hx1,h⟩:=bO h
 refine Cb [0,1,5] fun K hK=>?_
 simp only [go_sem,seval]
 refine arC.ok (Br (us':=_) (ok165 a0 x1 hx1) [0] (.cons (.eq (by simp only [go_sem]) (by first|rfl|simp [Ae,Ap,Cf])) (.nil _)) (.cons (.of rfl) .nil)) Tryz.call165 ?_
 simp only [go_sem,seval]
 subst hK
 refine Eb [0,1,5,6] ?_
 refine AW.join (fun s=>⟨(Ag (Ag (Ag (Ag Az 0 (.ptr 0 0 0)) 1 (.own 8 0 a1.length)) 5 (.val (.int .i64 x1.1))) 6 (.val (.int .i64 (IntKind.i64.wrap (x1.1.tdiv 2))))),Bo [some (.row 3 true [[.sl (List.map Aw x1.2.b),.val (.int .i64 x1.2.at_),.val (.int .i64 s)]])] [some (.row 1 true (List.map Bk a1))],9⟩) (fun s=>Lg a1 x1 s=some r) ?_ ?_
 ·rcases Aq h with ⟨c75,h⟩|⟨c75,h⟩
  ·refine Re [0,1,5,6,22] ?_
   rcases Aq h with ⟨c76,h⟩|⟨c76,h⟩
   ·refine Aj rfl c76<|Bz [0,1,5,6] ?_
    refine Aa ?_
    refine ⟨_,h,?_⟩
    exact Ab [1] RF.any.qp.qo.qv.qv (.ce (.nil _)) (.ce (.nil _))
   ·refine Ai rfl c76<|AW.skip<|Aa ?_
    refine ⟨_,h,?_⟩
    exact Ab [1] RF.any.qp.qo.qv.qv (.ce (.nil _)) (.ce (.nil _))
  ·refine Re [0,1,5,6,22] ?_
   refine Bl rfl rfl<|AW.skip<|Aa ?_
   refine ⟨_,h,?_⟩
   exact Ab [1] RF.any.qp.qo.qv.qv (.ce (.nil _)) (.ce (.nil _))
 ·clear h
  rintro j1_0 h
  rw [Lg] at h
  refine AW.seq<|Ao [0,1,5,6,30] ?_
  rcases Aq h with ⟨c5,h⟩|⟨c5,h⟩
  ·refine Ai rfl (fun q=>q c5) ?_
   refine AW.skip<|Aa<|AW.seq<|Eb [0,1,6,34] ?_
   rcases Aq h with ⟨c23,h⟩|⟨c23,h⟩
   ·refine Aj rfl c23<|AW.seq<|Ao [0,1,35,36] ?_
    refine AW.block ?_
    obtain ⟨y41,hy41,h⟩:=bO h
    refine AW.loopO (fun s=>⟨(Ag (Ag (Ag (Ag Az 0 (.ptr 0 0 0)) 1 (.own 8 0 s.2.2.2.1.length)) 35 (.val (.int .i64 (IntKind.i64.wrap (x1.1.tdiv 2))))) 36 (.val (.int .i64 s.2.2.2.2))),Bo [some (.row 3 true [[.sl (List.map Aw s.1),.val (.int .i64 s.2.1),.val (.int .i64 s.2.2.1)]])] [some (.row 1 true (List.map Bk s.2.2.2.1))],9⟩) (fun z e st'=>e=Exit.exit 0∧st'=⟨(Ag Az 1 (.own 8 0 z.2.2.2.length)),Bo [some (.row 3 true [[.sl (List.map Aw z.1),.val (.int .i64 z.2.1),.val (.int .i64 z.2.2.1)]])] [some (.row 1 true (List.map Bk z.2.2.2))],9⟩) hy41 ?_ ?_ ?_
    ·exact Ab [8] RF.any.qp.qo.qv.qv (.ce (.nil _)) (.ce (.nil _))
    ·clear h hy41
     rintro ⟨s2_0,s2_1,s2_2,s2_3,s2_4⟩ x h
     rw [Ic] at h
     refine Ao [0,1,35,36,37] ?_
     refine AW.seq ?_
     rcases Aq h with ⟨c37,h⟩|⟨c37,h⟩
     ·refine Aj rfl c37<|AW.skip<|Aa<|AW.seq<|AW.block<|Ao [0,1,35,36,42] ?_
      rcases Aq h with ⟨c38,h⟩|⟨c38,h⟩
      ·refine Aj rfl c38 ?_
       obtain ⟨x39,hx39,h⟩:=bO h
       obtain ⟨x40,hx40,h⟩:=bO h
       refine Dq [0,1,35,36] fun K hK=>?_
       simp only [go_sem,seval]
       refine arC.ok (Br (us':=_) (ok165 ⟨s2_0,s2_1,s2_2⟩ x39 hx39) [0] (.cons (.eq (by simp only [go_sem]) (by first|rfl|simp [Ae,Ap,Cf])) (.nil _)) (.cons (.of rfl) .nil)) Tryz.call165 ?_
       simp only [go_sem,seval]
       refine arC.ok (Br (us':=_) (ok176 x39.2 s2_3 x39.1 x40 hx40) [0,8] (.cons (.eq (by simp only [go_sem]) (by first|rfl|simp [Ae,Ap,Cf])) (.cons (.eq (by simp only [go_sem]) (by first|rfl|simp [Ae,Ap,Cf])) (.nil _))) (.cons (.of rfl) (.cons (.of (by first|rfl|simp [Cq,Cf,eq_true c5,eq_true c23,eq_true c37,eq_true c38])) (.cons (.of rfl) .nil)))) Tryz.call176 ?_
       simp only [go_sem,seval]
       subst hK
       refine Ax<|Aa<|Bz [0,1,35,36] ?_
       refine Aa ?_
       refine ⟨_,oj h,?_⟩
       exact Ab [89] RF.any.qp.qo.qv.qv (.ce (.nil _)) (.ce (.nil _))
      ·refine Ai rfl c38<|AW.skip<|Ax<|Aa<|Bz [0,1,35,36] ?_
       refine Aa ?_
       refine ⟨_,oj h,?_⟩
       exact Ab [8] RF.any.qp.qo.qv.qv (.ce (.nil _)) (.ce (.nil _))
     ·refine Ai rfl c37<|AW.exit<|Af<|Af ?_
      refine ⟨_,oj h,_,?_,rfl,rfl⟩
      exact Ab [8] RF.any.qo (.ce (.nil _)) (.ce (.nil _))
    ·intro e st' hX
     obtain ⟨y42,y43,y44,y45⟩:=y41
     try dsimp only at h
     try dsimp only at hX
     obtain ⟨rfl,rfl⟩:=hX
     refine ⟨_,Ent.refl,?_⟩
     refine Bc<|Aa<|Ao [4] ?_
     refine AW.ent (st':=⟨(Ag Az 4 (.own 8 0 y45.length)),Bo [some (.row 3 true [[.sl (List.map Aw y42),.val (.int .i64 y43),.val (.int .i64 y44)]])] [some (.row 1 true (List.map Bk y45))],9⟩) ?_ ?_
     · refine Bu [8] _ _ _ rfl (by first|decide|simp) rfl ?_ ?_ ?_
       · exact RF.any.qo
       · exact .ce (.nil _)
       · exact .ce (.nil _)
     refine AW.ret<|Ad ?_
     obtain rfl:=oi h
     exact ⟨rfl,rfl,_,rfl,by first|rfl|simp [Cu,Ae,Ar]⟩
   ·refine Ai rfl c23<|AW.skip<|Aa ?_
    obtain ⟨x46,hx46,h⟩:=bO h
    refine Cb [0,1,6,7] fun K hK=>?_
    simp only [go_sem,seval]
    refine arC.ok (Br (us':=_) (ok165 ⟨x1.2.b,x1.2.at_,j1_0⟩ x46 hx46) [0] (.cons (.eq (by simp only [go_sem]) (by first|rfl|simp [Ae,Ap,Cf])) (.nil _)) (.cons (.of rfl) .nil)) Tryz.call165 ?_
    simp only [go_sem,seval]
    subst hK
    obtain ⟨x47,hx47,h⟩:=bO h
    refine Cb [0,1,6,7,8] fun K hK=>?_
    simp only [go_sem,seval]
    refine arC.ok (Br (us':=_) (ok165 x46.2 x47 hx47) [0] (.cons (.eq (by simp only [go_sem]) (by first|rfl|simp [Ae,Ap,Cf])) (.nil _)) (.cons (.of rfl) .nil)) Tryz.call165 ?_
    simp only [go_sem,seval]
    subst hK
    refine AW.seq<|Ao [0,1,7,8,54,55] ?_
    refine AW.block ?_
    obtain ⟨y70,hy70,h⟩:=bO h
    refine AW.loopO (fun s=>⟨(Ag (Ag (Ag (Ag (Ag (Ag Az 0 (.ptr 0 0 0)) 1 (.own 8 0 s.2.2.2.1.length)) 7 (.val (.int .i64 x46.1))) 8 (.val (.int .i64 x47.1))) 54 (.val (.int .i64 (IntKind.i64.wrap (x1.1.tdiv 2))))) 55 (.val (.int .i64 s.2.2.2.2))),Bo [some (.row 3 true [[.sl (List.map Aw s.1),.val (.int .i64 s.2.1),.val (.int .i64 s.2.2.1)]])] [some (.row 1 true (List.map Bk s.2.2.2.1))],9⟩) (fun z e st'=>e=Exit.exit 2∧st'=⟨(Ag Az 1 (.own 8 0 z.2.2.2.length)),Bo [some (.row 3 true [[.sl (List.map Aw z.1),.val (.int .i64 z.2.1),.val (.int .i64 z.2.2.1)]])] [some (.row 1 true (List.map Bk z.2.2.2))],9⟩) hy70 ?_ ?_ ?_
    ·exact Ab [8] RF.any.qp.qo.qv.qv.qv.qv (.ce (.nil _)) (.ce (.nil _))
    ·clear h hy70
     rintro ⟨s3_0,s3_1,s3_2,s3_3,s3_4⟩ x h
     rw [Ib] at h
     refine Ao [0,1,7,8,54,55,56] ?_
     refine AW.seq ?_
     rcases Aq h with ⟨c64,h⟩|⟨c64,h⟩
     ·refine Aj rfl c64<|AW.skip<|Aa<|AW.seq<|AW.block<|Ao [0,1,7,8,9,54,55] ?_
      refine AW.seq<|Ao [0,1,7,8,9,54,55,62] ?_
      rcases Aq h with ⟨c66,h⟩|⟨c66,h⟩
      ·refine Ai rfl (fun q=>q c66)<|AW.skip<|Aa<|Eb [0,1,7,8,54,55,64] ?_
       rcases Aq h with ⟨c67,h⟩|⟨c67,h⟩
       ·refine Aj rfl c67 ?_
        obtain ⟨x68,hx68,h⟩:=bO h
        refine Dq [0,1,7,8,54,55] fun K hK=>?_
        simp only [go_sem,seval]
        refine arC.ok (Br (us':=_) (ok176 ⟨s3_0,s3_1,s3_2⟩ s3_3 x46.1 x68 hx68) [0,8] (.cons (.eq (by simp only [go_sem]) (by first|rfl|simp [Ae,Ap,Cf])) (.cons (.eq (by simp only [go_sem]) (by first|rfl|simp [Ae,Ap,Cf])) (.nil _))) (.cons (.of rfl) (.cons (.of (by first|rfl|simp [Cq,Cf,eq_true c5,eq_false c23,eq_true c64,eq_true c66,eq_true c67])) (.cons (.of rfl) .nil)))) Tryz.call176 ?_
        simp only [go_sem,seval]
        subst hK
        refine Ax<|Aa<|Bz [0,1,7,8,54,55] ?_
        refine Aa ?_
        refine ⟨_,oj h,?_⟩
        exact Ab [113] RF.any.qp.qo.qv.qv.qv.qv (.ce (.nil _)) (.ce (.nil _))
       ·refine Ai rfl c67 ?_
        obtain ⟨x69,hx69,h⟩:=bO h
        refine Dq [0,1,7,8,54,55] fun K hK=>?_
        simp only [go_sem,seval]
        refine arC.ok (Br (us':=_) (ok176 ⟨s3_0,s3_1,s3_2⟩ s3_3 x47.1 x69 hx69) [0,8] (.cons (.eq (by simp only [go_sem]) (by first|rfl|simp [Ae,Ap,Cf])) (.cons (.eq (by simp only [go_sem]) (by first|rfl|simp [Ae,Ap,Cf])) (.nil _))) (.cons (.of rfl) (.cons (.of (by first|rfl|simp [Cq,Cf,eq_true c5,eq_false c23,eq_true c64,eq_true c66,eq_false c67])) (.cons (.of rfl) .nil)))) Tryz.call176 ?_
        simp only [go_sem,seval]
        subst hK
        refine Ax<|Aa<|Bz [0,1,7,8,54,55] ?_
        refine Aa ?_
        refine ⟨_,oj h,?_⟩
        exact Ab [113] RF.any.qp.qo.qv.qv.qv.qv (.ce (.nil _)) (.ce (.nil _))
      ·refine Aj rfl c66<|AW.exit<|Af<|block_y rfl<|Af<|Af ?_
       refine ⟨_,oj h,_,?_,rfl,rfl⟩
       exact Ab [8] RF.any.qo (.ce (.nil _)) (.ce (.nil _))
     ·refine Ai rfl c64<|AW.exit<|Af<|Af ?_
      refine ⟨_,oj h,_,?_,rfl,rfl⟩
      exact Ab [8] RF.any.qo (.ce (.nil _)) (.ce (.nil _))
    ·intro e st' hX
     obtain ⟨y71,y72,y73,y74⟩:=y70
     try dsimp only at h
     try dsimp only at hX
     obtain ⟨rfl,rfl⟩:=hX
     refine ⟨_,Ent.refl,?_⟩
     refine Bc<|Aa<|Ao [4] ?_
     refine AW.ent (st':=⟨(Ag Az 4 (.own 8 0 y74.length)),Bo [some (.row 3 true [[.sl (List.map Aw y71),.val (.int .i64 y72),.val (.int .i64 y73)]])] [some (.row 1 true (List.map Bk y74))],9⟩) ?_ ?_
     · refine Bu [8] _ _ _ rfl (by first|decide|simp) rfl ?_ ?_ ?_
       · exact RF.any.qo
       · exact .ce (.nil _)
       · exact .ce (.nil _)
     refine AW.ret ?_
     obtain rfl:=oi h
     exact ⟨rfl,rfl,_,rfl,by first|rfl|simp [Cu,Ae,Ar]⟩
  ·refine Aj rfl c5<|Ao [4] ?_
   refine AW.ent (st':=⟨(Ag Az 4 (.own 8 0 a1.length)),Bo [some (.row 3 true [[.sl (List.map Aw x1.2.b),.val (.int .i64 x1.2.at_),.val (.int .i64 j1_0)]])] [some (.row 1 true (List.map Bk a1))],9⟩) ?_ ?_
   · refine Bu [8] _ _ _ rfl (by first|decide|simp) rfl ?_ ?_ ?_
     · exact RF.any.qo
     · exact .ce (.nil _)
     · exact .ce (.nil _)
   refine AW.ret<|Ad ?_
   obtain rfl:=oi h
   exact ⟨rfl,rfl,_,rfl,by first|rfl|simp [Cu,Ae,Ar]⟩
def f167 (a0:List Int) (a1:List Int):Option Bool:=some (decide ((strOfNums a0)=(strOfNums a1)))
theorem ok167 (a0:List Int) (a1:List Int) (r:Bool) (h:f167 a0 a1=some r):PC Tryz.prog 167 [.sl (List.map Aw a0),.sl (List.map Aw a1)] (.val (.bool r)):=by
 rw [f167] at h
 refine Bi (N:=10) (rs:=[.tmp 4]) Tryz.func167 ?_
 refine Ac [0,1] ?_
 refine Cb [4] fun K hK=>?_
 simp only [go_sem,seval,Ce (enc:=Aw) (fun _=>rfl)]
 subst hK
 refine AW.ret ?_
 obtain rfl:=oi h
 (simp only [go_sem,seval,Ay]<;>try simp)
def Lh (x1:Int×Reader):(List Int)×Int×Int×(List Int)×Int→Option (((List Int)×Int×Int×(List Int)×Int)⊕((List Int)×Int×Int×(List Int)))
  | (s2_0,s2_1,s2_2,s2_3,s2_4)=>(if s2_4<x1.1 then (if s2_2=0 then ((f166 ⟨s2_0,s2_1,s2_2⟩ s2_3).bind fun x21=>some (.inl (x21.2.b,x21.2.at_,x21.2.e,x21.1,IntKind.i64.wrap (s2_4+1)))) else some (.inr (s2_0,s2_1,s2_2,s2_3))) else some (.inr (s2_0,s2_1,s2_2,s2_3)))
def Kf (a0:List Int) (y26:List Int):Int→Option ((List Int)×Int)
  | j1_0=>(if j1_0=0 then ((f80 y26).bind fun x31=>(if x31.2=0 then ((f167 a0 x31.1).bind fun x33=>(if x33=true then some (y26,0) else some ([],3))) else some ([],3))) else some ([],j1_0))
def f146 (a0:List Int):Option ((List Int)×Int):=((f165 ⟨a0,0,0⟩).bind fun x1=>((loopO (Lh x1) (x1.2.b,x1.2.at_,x1.2.e,[],0)).bind fun y22=>match y22 with|(y23,y24,y25,y26)=>(if y25=0 then (if y24<(a0.length:Int) then Kf a0 y26 3 else Kf a0 y26 y25) else Kf a0 y26 y25)))
theorem ok146 (a0:List Int) (r:(List Int)×Int) (h:f146 a0=some r):PC Tryz.prog 146 [.sl (List.map Aw a0)] (.tup [.sl (List.map Bk r.1),.val (.int .i64 r.2)]):=by
 rw [f146] at h
 refine Bi (N:=70) (rs:=[.tmp 2,.tmp 3]) Tryz.func146 ?_
 refine Ac [0] ?_
 refine Ac [0,4] ?_
 refine Ao [0,4,5] ?_
 obtain ⟨x1,hx1,h⟩:=bO h
 refine Cb [0,4,5,6] fun K hK=>?_
 simp only [go_sem,seval]
 refine arC.ok (Br (us':=_) (ok165 ⟨a0,0,0⟩ x1 hx1) [40] (.cons (.eq (by simp only [go_sem]) (by first|rfl|simp [Ae,Ap,Cf])) (.nil _)) (.cons (.of rfl) .nil)) Tryz.call165 ?_
 simp only [go_sem,seval]
 subst hK
 refine AW.seq<|Ao [0,4,5,6,7] ?_
 refine AW.block ?_
 obtain ⟨y22,hy22,h⟩:=bO h
 refine AW.loopO (fun s=>⟨(Ag (Ag (Ag (Ag (Ag Az 0 (.sl (List.map Aw a0))) 4 (.ptr 8 0 0)) 5 (.own 9 0 s.2.2.2.1.length)) 6 (.val (.int .i64 x1.1))) 7 (.val (.int .i64 s.2.2.2.2))),Bo [] [some (.row 3 true [[.sl (List.map Aw s.1),.val (.int .i64 s.2.1),.val (.int .i64 s.2.2.1)]]),some (.row 1 true (List.map Bk s.2.2.2.1))],10⟩) (fun z e st'=>e=Exit.exit 0∧st'=⟨(Ag (Ag (Ag Az 0 (.sl (List.map Aw a0))) 4 (.ptr 8 0 0)) 5 (.own 9 0 z.2.2.2.length)),Bo [] [some (.row 3 true [[.sl (List.map Aw z.1),.val (.int .i64 z.2.1),.val (.int .i64 z.2.2.1)]]),some (.row 1 true (List.map Bk z.2.2.2))],10⟩) hy22 ?_ ?_ ?_
 ·refine Ent.trans (Av 5 1 (by decide) rfl) ?_
  exact Ab [40,96] RF.any.qv.qp.qo.qv.qv (.nil _) (.ce (.ce (.nil _)))
 ·clear h hy22
  rintro ⟨s2_0,s2_1,s2_2,s2_3,s2_4⟩ x h
  rw [Lh] at h
  refine AW.seq ?_
  rcases Aq h with ⟨c19,h⟩|⟨c19,h⟩
  ·refine Ao [0,4,5,6,7,24] ?_
   rcases Aq h with ⟨c20,h⟩|⟨c20,h⟩
   ·refine Aj rfl c20<|AW.skip<|Aa<|AW.seq<|AW.block ?_
    obtain ⟨x21,hx21,h⟩:=bO h
    refine Dq [0,4,5,6,7] fun K hK=>?_
    simp only [go_sem,seval]
    refine arC.ok (Br (us':=_) (ok166 ⟨s2_0,s2_1,s2_2⟩ s2_3 x21 hx21) [8,9] (.cons (.eq (by simp only [go_sem]) (by first|rfl|simp [Ae,Ap,Cf])) (.cons (.eq (by simp only [go_sem]) (by first|rfl|simp [Ae,Ap,Cf])) (.nil _))) (.cons (.of rfl) (.cons (.of (by first|rfl|simp [Cq,Cf,eq_true c19,eq_true c20])) .nil))) Tryz.call166 ?_
    simp only [go_sem,seval]
    subst hK
    refine Ax<|Aa<|Bz [0,4,5,6,7] ?_
    refine Aa ?_
    refine ⟨_,oj h,?_⟩
    exact Ab [8,106] RF.any.qv.qp.qo.qv.qv (.nil _) (.ce (.ce (.nil _)))
   ·refine Ai rfl c20<|AW.exit<|Af<|Af ?_
    refine ⟨_,oj h,_,?_,rfl,rfl⟩
    exact Ab [8,9] RF.any.qv.qp.qo (.nil _) (.ce (.ce (.nil _)))
  ·refine Ao [0,4,5,6,7,24] ?_
   refine Bl rfl rfl<|AW.exit<|Af<|Af ?_
   refine ⟨_,oj h,_,?_,rfl,rfl⟩
   exact Ab [8,9] RF.any.qv.qp.qo (.nil _) (.ce (.ce (.nil _)))
 ·intro e st' hX
  obtain ⟨y23,y24,y25,y26⟩:=y22
  try dsimp only at h
  try dsimp only at hX
  obtain ⟨rfl,rfl⟩:=hX
  refine ⟨_,Ent.refl,?_⟩
  refine Bc<|Aa ?_
  refine AW.join (fun s=>⟨(Ag (Ag (Ag Az 0 (.sl (List.map Aw a0))) 4 (.ptr 8 0 0)) 5 (.own 9 0 y26.length)),Bo [] [some (.row 3 true [[.sl (List.map Aw y23),.val (.int .i64 y24),.val (.int .i64 s)]]),some (.row 1 true (List.map Bk y26))],10⟩) (fun s=>Kf a0 y26 s=some r) ?_ ?_
  ·rcases Aq h with ⟨c35,h⟩|⟨c35,h⟩
   ·refine Ao [0,4,5,43] ?_
    rcases Aq h with ⟨c36,h⟩|⟨c36,h⟩
    ·refine Aj rfl c36<|Bz [0,4,5] ?_
     refine Aa ?_
     refine ⟨_,h,?_⟩
     exact Ab [8,9] RF.any.qv.qp.qo (.nil _) (.ce (.ce (.nil _)))
    ·refine Ai rfl c36<|AW.skip<|Aa ?_
     refine ⟨_,h,?_⟩
     exact Ab [8,9] RF.any.qv.qp.qo (.nil _) (.ce (.ce (.nil _)))
   ·refine Ao [0,4,5,43] ?_
    refine Bl rfl rfl<|AW.skip<|Aa ?_
    refine ⟨_,h,?_⟩
    exact Ab [8,9] RF.any.qv.qp.qo (.nil _) (.ce (.ce (.nil _)))
  ·clear h
   rintro j1_0 h
   rw [Kf] at h
   refine AW.seq<|Ao [0,4,5,51] ?_
   rcases Aq h with ⟨c30,h⟩|⟨c30,h⟩
   ·refine Ai rfl (fun q=>q c30)<|AW.skip<|Aa<|AW.seq ?_
    obtain ⟨x31,hx31,h⟩:=bO h
    refine Bx [0,5,8,9] (ok80 y26 x31 hx31) Tryz.call80 ?_
    rcases Aq h with ⟨c32,h⟩|⟨c32,h⟩
    ·obtain ⟨x33,hx33,h⟩:=bO h
     refine Kw [5,68] (ok167 a0 x31.1 x33 hx33) Tryz.call167 ?_
     rcases Aq h with ⟨c34,h⟩|⟨c34,h⟩
     ·refine Bl rfl (by first|(rw [c34];rfl)|simp_all)<|AW.skip<|Aa<|Ao [2,3] ?_
      refine AW.ent (Ent.still 2 rfl (Fg (sz:=1) (m:=false) rfl (by first|rfl|(simp [Ar];done)|(simp [Ar];omega)) (by simp only [go_sem]))) ?_
      refine AW.ret ?_
      obtain rfl:=oi h
      (simp only [go_sem,seval,c34,Ay]<;>try simp)
     ·rw [Bool.not_eq_true] at c34
      refine Bp rfl (by first|(rw [c34];rfl)|simp_all)<|Ao [2,3] ?_
      refine AW.ent (Ent.w (Fe (d:=2) Weak.nil)) ?_
      refine AW.ret<|Ad ?_
      obtain rfl:=oi h
      (simp only [go_sem,seval,c34,Ay]<;>try simp)
    ·refine Ao [5,68] ?_
     refine Bp rfl rfl<|Ac [2,3] ?_
     refine AW.ent (Ent.w (Fe (d:=2) Weak.nil)) ?_
     refine AW.ret<|Ad ?_
     obtain rfl:=oi h
     (simp only [go_sem,seval,Ay]<;>try simp)
   ·refine Aj rfl c30<|Dm [2,3] [0,1,3,7,0,31] ?_
    generalize hK:AW Tryz.prog _ _ _=K
    simp only [go_sem,seval]
    subst hK
    refine AW.ent (Ent.w (Fe (d:=2) Weak.nil)) ?_
    refine AW.ret<|Ad ?_
    obtain rfl:=oi h
    (simp only [go_sem,seval,Ay]<;>try simp)
end Au
end Go.Proofs.Yt
