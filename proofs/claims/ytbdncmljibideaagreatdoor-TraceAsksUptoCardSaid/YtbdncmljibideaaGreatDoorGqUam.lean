import Derived.Test.YtbdncmljibideaaGreatDoorGqUae
import Derived.Test.YtbdncmljibideaaGreatDoorGqUag
import Derived.Test.YtbdncmljibideaaGreatDoorGqUal
import Derived.Test.YtbdncmljibideaaGreatDoorGqUai
import Derived.Lib.IndexLaws
import Derived.Test.YtbdncmljibideaaGreatDoorGqUak
import Derived.Test.YtbdncmljibideaaGreatDoorGqUah
set_option linter.all false
noncomputable section
set_option maxRecDepth 8000
set_option maxHeartbeats 1000000
namespace Go.Proofs.Yt
open Go.Gm
namespace Au
def Mo (s12_0:List Res) (s12_1:Int) (x190:List Res):Int→Option (Int⊕Int)
  | s18_0=>(if 0<s18_0 then ((ix x190 s12_1).bind fun x215=>((ix s12_0 (IntKind.i64.wrap (s18_0-1))).bind fun x216=>((f67 x215.Key x216.Key).bind fun x217=>(if x217=true then some (.inl (IntKind.i64.wrap (s18_0-1))) else some (.inr s18_0))))) else some (.inr s18_0))
def Mp (a0:List (List Res)) (s1_1:Int):(List Res)×Int→Option (((List Res)×Int)⊕(List Res))
  | (s12_0,s12_1)=>((ix a0 s1_1).bind fun x190=>(if s12_1<(x190.length:Int) then ((loopO (Mo s12_0 s12_1 x190) ((s12_0.length:Nat):Int)).bind fun y220=>((Dl s12_0 0 y220).bind fun x221=>((Bq ([]:List Res) x221).bind fun x222=>((ix x190 s12_1).bind fun x223=>((Bq x222 [x223]).bind fun x224=>((Dl s12_0 y220 (s12_0.length:Int)).bind fun x225=>((Bq x224 x225).bind fun x226=>some (.inl (x226,IntKind.i64.wrap (s12_1+1)))))))))) else some (.inr s12_0)))
def Su (a0:List (List Res)):(List Res)×Int→Option (((List Res)×Int)⊕(List Res))
  | (s1_0,s1_1)=>(if s1_1<(a0.length:Int) then ((loopO (Mp a0 s1_1) (s1_0,0)).bind fun y228=>some (.inl (y228,IntKind.i64.wrap (s1_1+1)))) else some (.inr s1_0))
def f37 (a0:List (List Res)):Option (List Res):=((loopO (Su a0) ([],0)).bind fun y230=>some y230)
theorem ok37 (a0:List (List Res)) (r:(List Res)) (h:f37 a0=some r):PC Tryz.prog 37 [.sl (List.map Fv a0)] (.fr 3 (List.map Ak r)):=by
 rw [f37] at h
 refine Bi (N:=67) (rs:=[.tmp 2]) Tryz.func37 ?_
 refine Ac [0] ?_
 refine Ac [0,3] ?_
 refine AW.seq<|Ac [0,3,4] ?_
 refine AW.block ?_
 obtain ⟨y230,hy230,h⟩:=bO h
 refine AW.loopO (fun s=>⟨(Ag (Ag (Ag Az 0 (.sl (List.map Fv a0))) 3 (.own 8 0 s.1.length)) 4 (.val (.int .i64 s.2))),Bo [] [some (.row 3 true (List.map Ak s.1))],9⟩) (fun z e st'=>e=Exit.exit 0∧st'=⟨(Ag Az 3 (.own 8 0 z.length)),Bo [] [some (.row 3 true (List.map Ak z))],9⟩) hy230 ?_ ?_ ?_
 ·refine Ent.trans (Av 3 3 (by decide) rfl) ?_
  exact Ab [32] RF.any.qv.qo.qv (.nil _) (.ce (.nil _))
 ·clear h hy230
  rintro ⟨s1_0,s1_1⟩ x h
  rw [Su] at h
  refine AW.seq<|Ac [0,3,4,11] ?_
  rcases Aq h with ⟨c119,h⟩|⟨c119,h⟩
  ·refine Aj rfl c119<|AW.skip<|Aa<|AW.seq<|AW.block<|Ac [0,3,4,5] ?_
   refine AW.block ?_
   obtain ⟨y228,hy228,h⟩:=bO h
   refine AW.loopO (fun s=>⟨(Ag (Ag (Ag (Ag Az 0 (.sl (List.map Fv a0))) 3 (.own 8 0 s.1.length)) 4 (.val (.int .i64 s1_1))) 5 (.val (.int .i64 s.2))),Bo [] [some (.row 3 true (List.map Ak s.1))],9⟩) (fun z e st'=>e=Exit.exit 2∧st'=⟨(Ag (Ag (Ag Az 0 (.sl (List.map Fv a0))) 3 (.own 8 0 z.length)) 4 (.val (.int .i64 s1_1))),Bo [] [some (.row 3 true (List.map Ak z))],9⟩) hy228 ?_ ?_ ?_
   ·exact Ab [8] RF.any.qv.qo.qv.qv (.nil _) (.ce (.nil _))
   ·clear h hy228
    rintro ⟨s12_0,s12_1⟩ x h
    rw [Mp] at h
    refine AW.seq ?_
    obtain ⟨x190,hx190,h⟩:=bO h
    obtain ⟨hx190a,hx190b⟩:=ix_some.1 hx190
    refine Re [0,3,4,5,20] ?_
    rcases Aq h with ⟨c191,h⟩|⟨c191,h⟩
    ·refine Aj rfl c191<|AW.skip<|Aa<|AW.seq<|AW.block<|Ac [0,3,4,5,6] ?_
     refine AW.seq<|AW.block ?_
     obtain ⟨y220,hy220,h⟩:=bO h
     refine AW.loopO (fun s=>⟨(Ag (Ag (Ag (Ag (Ag Az 0 (.sl (List.map Fv a0))) 3 (.own 8 0 s12_0.length)) 4 (.val (.int .i64 s1_1))) 5 (.val (.int .i64 s12_1))) 6 (.val (.int .i64 s))),Bo [] [some (.row 3 true (List.map Ak s12_0))],9⟩) (fun z e st'=>e=Exit.exit 4∧st'=⟨(Ag (Ag (Ag (Ag (Ag Az 0 (.sl (List.map Fv a0))) 3 (.own 8 0 s12_0.length)) 4 (.val (.int .i64 s1_1))) 5 (.val (.int .i64 s12_1))) 6 (.val (.int .i64 z))),Bo [] [some (.row 3 true (List.map Ak s12_0))],9⟩) hy220 ?_ ?_ ?_
     ·exact Ab [8] RF.any.qv.qo.qv.qv.qv (.nil _) (.ce (.nil _))
     ·clear h hy220
      rintro s18_0 x h
      rw [Mo] at h
      refine AW.seq ?_
      rcases Aq h with ⟨c214,h⟩|⟨c214,h⟩
      ·obtain ⟨x215,hx215,h⟩:=bO h
       obtain ⟨hx215a,hx215b⟩:=ix_some.1 hx215
       obtain ⟨x216,hx216,h⟩:=bO h
       obtain ⟨hx216a,hx216b⟩:=ix_some.1 hx216
       obtain ⟨x217,hx217,h⟩:=bO h
       refine Sb [0,3,4,5,6,43] [0,1,3,7,7,31,63,7,255,511,1023,7,7,4103,14343,30727,63495,131071,262143] (ok67 x215.Key x216.Key x217 hx217) Tryz.call67 ?_
       generalize hK:AW Tryz.prog _ _ _=K
       simp only [go_sem,seval,eq_true c119,eq_true c191,eq_true c214,Ah hx190a,hx190b,Ah hx215a,hx215b,Ah hx216a,hx216b,Cm hx216b]
       subst hK
       rcases Aq h with ⟨c218,h⟩|⟨c218,h⟩
       ·refine Bp rfl c218<|AW.skip<|Aa<|AW.block<|Uw [0,3,4,5,6] ?_
        refine Ax<|Aa ?_
        refine ⟨_,oj h,?_⟩
        exact Ab [8] RF.any.qv.qo.qv.qv.qv (.nil _) (.ce (.nil _))
       ·rw [Bool.not_eq_true] at c218
        refine Bl rfl c218<|AW.exit<|Af<|Af ?_
        refine ⟨_,oj h,_,?_,rfl,rfl⟩
        exact Ab [8] RF.any.qv.qo.qv.qv.qv (.nil _) (.ce (.nil _))
      ·refine Dm [0,3,4,5,6,43] [0,1,3,7,7,31,63,7,255,511,1023,7,7,4103,14343,30727,63495,131071,262143] ?_
       generalize hK:AW Tryz.prog _ _ _=K
       simp only [go_sem,seval,eq_true c119,eq_true c191,eq_false c214]
       subst hK
       refine Bl rfl rfl<|AW.exit<|Af<|Af ?_
       refine ⟨_,oj h,_,?_,rfl,rfl⟩
       exact Ab [8] RF.any.qv.qo.qv.qv.qv (.nil _) (.ce (.nil _))
     ·intro e st' hX
      try dsimp only at h
      try dsimp only at hX
      obtain ⟨rfl,rfl⟩:=hX
      refine ⟨_,Ent.refl,?_⟩
      refine Bc<|Aa<|AW.ent (Ent.still 3 rfl (Fg (sz:=3) (m:=true) rfl (by first|rfl|simp [Ar,eq_true c119,eq_true c191]) (by simp only [go_sem]))) ?_
      obtain ⟨x221,hx221,h⟩:=bO h
      obtain ⟨x222,hx222,h⟩:=bO h
      obtain ⟨hx222b,hx222e⟩:=appO?_some.1 hx222
      have hx222f:∀id o:Nat,Dw 3 56 id (List.map Ak x221) 0 0 o (some (.row 3 true (([]:List (List AV)))))=some ⟨.own id 0 x222.length,[(o,none),(id,some (.row 3 true (List.map Ak x222)))]⟩:=fun id o=>by
        subst hx222e;rw [Bw (by simp) (by simpa using hx222b) (by decide)];first|(simp [Ak];done)|(simp [Ak];omega)
      refine Cb [0,3,4,5,6,7] fun K hK=>?_
      simp only [go_sem,seval,cut_ns el31 sz50 (Vf _) hx221,hx222f]
      subst hK
      obtain ⟨x223,hx223,h⟩:=bO h
      obtain ⟨hx223a,hx223b⟩:=ix_some.1 hx223
      obtain ⟨x224,hx224,h⟩:=bO h
      obtain ⟨hx224b,hx224e⟩:=appO?_some.1 hx224
      have hx224f:∀id o:Nat,Dw 3 56 id ([[.val (.string x223.Key),.val (.string x223.Val),.sl (List.map Bk x223.Offs)]]) 0 x222.length o (some (.row 3 true (List.map Ak x222)))=some ⟨.own id 0 x224.length,[(o,none),(id,some (.row 3 true (List.map Ak x224)))]⟩:=fun id o=>by
        subst hx224e;rw [Bw (by simp) (by simpa using hx224b) (by decide)];first|(simp [Ak];done)|(simp [Ak];omega)
      refine Cb [0,3,4,5,6,7] fun K hK=>?_
      simp only [go_sem,seval,Ah hx190a,hx190b,Ah hx223a,hx223b,hx224f]
      subst hK
      obtain ⟨x225,hx225,h⟩:=bO h
      obtain ⟨x226,hx226,h⟩:=bO h
      obtain ⟨hx226b,hx226e⟩:=appO?_some.1 hx226
      have hx226f:∀id o:Nat,Dw 3 56 id (List.map Ak x225) 0 x224.length o (some (.row 3 true (List.map Ak x224)))=some ⟨.own id 0 x226.length,[(o,none),(id,some (.row 3 true (List.map Ak x226)))]⟩:=fun id o=>by
        subst hx226e;rw [Bw (by simp) (by simpa using hx226b) (by decide)];first|(simp [Ak];done)|(simp [Ak];omega)
      refine Dq [0,3,4,5] fun K hK=>?_
      simp only [go_sem,seval,Sy el31 sz50 (Vf _) hx225,hx226f]
      subst hK
      refine Ax<|Aa<|Cd [0,3,4,5] ?_
      refine Aa ?_
      refine ⟨_,oj h,?_⟩
      exact Ab [177] RF.any.qv.qo.qv.qv (.nil _) (.ce (.nil _))
    ·refine Ai rfl c191<|AW.exit<|Af<|Af ?_
     refine ⟨_,oj h,_,?_,rfl,rfl⟩
     exact Ab [8] RF.any.qv.qo.qv (.nil _) (.ce (.nil _))
   ·intro e st' hX
    try dsimp only at h
    try dsimp only at hX
    obtain ⟨rfl,rfl⟩:=hX
    refine ⟨_,Ent.refl,?_⟩
    refine Bc<|Ax<|Aa<|Cd [0,3,4] ?_
    refine Aa ?_
    refine ⟨_,oj h,?_⟩
    exact Ab [8] RF.any.qv.qo.qv (.nil _) (.ce (.nil _))
  ·refine Ai rfl c119<|AW.exit<|Af<|Af ?_
   refine ⟨_,oj h,_,?_,rfl,rfl⟩
   exact Ab [8] RF.any.qo (.nil _) (.ce (.nil _))
 ·intro e st' hX
  try dsimp only at h
  try dsimp only at hX
  obtain ⟨rfl,rfl⟩:=hX
  refine ⟨_,Ent.refl,?_⟩
  refine Bc<|Aa<|Ac [2] ?_
  refine AW.ret ?_
  obtain rfl:=oi h
  (simp only [go_sem,seval,Ay]<;>try simp)
theorem Vn (ps:List (List Res)) (i:Nat) (h:i<ps.length):(ps.take (i+1)).flatten=(ps.take i).flatten++ps[i]:=by
 rw [List.take_succ_eq_append_getElem h,List.flatten_append];simp
theorem flat_le (ps:List (List Res)) (i:Nat):(ps.take i).flatten.length≤ps.flatten.length:=by
 have:ps.flatten=(ps.take i).flatten++(ps.drop i).flatten:=by rw [←List.flatten_append,List.take_append_drop]
 rw [this,List.length_append];omega
theorem concat_eq (ps:List (List Res)) (h1:ps.length≤100000) (h2:ps.flatten.length≤100000):f72 ps=some ps.flatten:=by
 have k1:loopO (Vs ps) (0,0)=some (ps.flatten.length:Int):=by
  have:=Da (step:=Vs ps) (fun i=>((((ps.take i).flatten.length:Nat):Int),(i:Int))) ps.length (r:=(ps.flatten.length:Int)) (fun i hi=>by
   have hle:=flat_le ps (i+1)
   have e:=Vn ps i hi
   have el:((ps.take (i+1)).flatten.length:Int)=((ps.take i).flatten.length:Int)+(ps[i].length:Int):=by rw [e,List.length_append];omega
   simp only [Vs,if_pos (show (i:Int)<(ps.length:Int) by omega),Ep hi,Option.bind_some]
   rw [←el,Bf (by omega) (by omega),if_neg (by omega),Ch (by omega)]) (by
   simp only [Vs,if_neg (show ¬(ps.length:Int)<(ps.length:Int) by omega),List.take_length])
  simpa using this
 have k2:loopO (Vr ps) ([],0)=some ps.flatten:=by
  have:=Da (step:=Vr ps) (fun i=>((ps.take i).flatten,(i:Int))) ps.length (r:=ps.flatten) (fun i hi=>by
   have hle:=flat_le ps (i+1)
   have e:=Vn ps i hi
   have el:(ps.take (i+1)).flatten.length=(ps.take i).flatten.length+ps[i].length:=by rw [e,List.length_append]
   simp only [Vr,if_pos (show (i:Int)<(ps.length:Int) by omega),Ep hi,Option.bind_some,Ct (l:=(ps.take i).flatten) (r:=ps[i]) (by omega) (by omega),←e,Ch (show i≤10000000000 by omega)]) (by
   simp only [Vr,if_neg (show ¬(ps.length:Int)<(ps.length:Int) by omega),List.take_length])
  simpa using this
 simp only [f72,k1,Option.bind_some,f104]
 rw [if_pos ⟨by omega,by omega⟩]
 simp only [Option.bind_some,k2]
theorem join_prog (ps:List (List Res)) (h1:ps.length≤100000) (h2:ps.flatten.length≤100000) (h3:∀r∈ps.flatten,r.Offs.length≤1000000):∃r,f43 ps=some r∧Sorts Fy ps.flatten r:=by
 obtain ⟨r,r1,r2⟩:=stable_eq ps.flatten h2
 have k:loopO (Vw ps.flatten) (ps.flatten,0)=some ps.flatten:=by
  have:=Da (step:=Vw ps.flatten) (fun i=>(ps.flatten,(i:Int))) ps.flatten.length (r:=ps.flatten) (fun i hi=>by
   have ho:=h3 _ (List.getElem_mem hi)
   have e73:f73 ps.flatten[i].Offs=some ps.flatten[i].Offs:=by rw [f73,Ct (by simp) (by omega)];rfl
   have hs:ps.flatten.set i ⟨ps.flatten[i].Key,ps.flatten[i].Val,ps.flatten[i].Offs⟩=ps.flatten:=List.set_getElem_self hi
   simp only [Vw,if_pos (show (i:Int)<((ps.flatten.length:Nat):Int) by omega),Ep hi,Option.bind_some,e73,Int.toNat_natCast,hs,Ch (show i≤10000000000 by omega)]) (by
   simp only [Vw,if_neg (show ¬(ps.flatten.length:Int)<((ps.flatten.length:Nat):Int) by omega)])
  simpa using this
 refine ⟨r,?_,r2⟩
 simp only [f43,concat_eq ps h1 h2,Option.bind_some,k,r1,Cw r2.len]
theorem ins_back (x:Res) (xs:List Res) (j:Int) (hx:ix xs j=some x) (hk:x.Key.size≤1000000):∀(n:Nat) (A B:List Res),A.length=n→(A++B).length≤1000000→Srt Fy (A++B)→(∀b∈B,Fy x b=true) →
  ∃A' B',A++B=A'++B'∧loopO (Mo (A++B) j xs) (n:Int)=some (A'.length:Int)∧(∀b∈B',Fy x b=true)∧(∀a∈A',Fy x a=false)
 | 0,A,B,hA,hl,hs,hB=>by
  obtain rfl:=List.eq_nil_of_length_eq_zero hA
  exact ⟨[],B,rfl,Al (by simp only [Mo];rw [if_neg (by decide)];rfl),hB,fun a h=>by cases h⟩
 | n+1,A,B,hA,hl,hs,hB=>by
  obtain ⟨A1,y,rfl⟩:∃A1 y,A=A1++[y]:=by
   rcases List.eq_nil_or_concat A with rfl|⟨A1,y,rfl⟩
   ·simp at hA
   ·exact ⟨A1,y,by simp⟩
  have hA1:A1.length=n:=by simpa using hA
  have hy:ix ((A1++[y])++B) (IntKind.i64.wrap (((n+1:Nat):Int)-1))=some y:=by
   rw [Pf (by omega) (by simp at hl;omega),List.append_assoc]
   exact Vj (by simp [hA1])
  have hst:Mo ((A1++[y])++B) j xs ((n+1:Nat):Int)=if Fy x y=true then some (.inl (n:Int)) else some (.inr ((n+1:Nat):Int)):=by
   simp only [Mo]
   rw [if_pos (by omega),hx]
   simp only [Option.bind_some,hy,less (show x.Key.size≤4000000000 by omega)]
   have:IntKind.i64.wrap (((n+1:Nat):Int)-1)=(n:Int):=by rw [Pf (by omega) (by simp at hl;omega)];rfl
   rw [this];rfl
  by_cases c:Fy x y=true
  ·rw [if_pos c] at hst
   obtain ⟨A',B',e1,e2,e3,e4⟩:=ins_back x xs j hx hk n A1 (y::B) hA1 (by simpa using hl) (by simpa using hs) (fun b hb=>by
    rcases List.mem_cons.1 hb with rfl|hb
    ·exact c
    ·exact hB b hb)
   refine ⟨A',B',by rw [←e1];simp,?_,e3,e4⟩
   rw [Bj hst]
   have:(A1++[y])++B=A1++y::B:=by simp
   rw [this];exact e2
  ·rw [if_neg c] at hst
   refine ⟨A1++[y],B,rfl,by rw [Al hst];simp [hA1],hB,fun a ha=>?_⟩
   have hs':=(Srt.left hs)
   rcases List.mem_append.1 ha with ha|ha
   ·have h1:Fy y a=false:=Srt.cross hs' a ha y (by simp)
    exact swoI.le_trans h1 (by simpa using c)
   ·simp at ha;subst ha;simpa using c
theorem Sorts.ins {D A B:List Res} {x:Res} (h:Sorts Fy D (A++B)) (hB:∀b∈B,Fy x b=true) (hA:∀a∈A,Fy x a=false):Sorts Fy (D++[x]) (A++x::B):=by
 refine ⟨?_,?_,by have:=h.len;simp at this ⊢;omega⟩
 ·have hs:=h.srt
  refine Srt.append (Srt.left hs) (List.pairwise_cons.2 ⟨fun b hb=>swoI.asym (hB b hb),Srt.right hs⟩) (fun a ha b hb=>?_)
  rcases List.mem_cons.1 hb with rfl|hb
  ·exact hA a ha
  ·exact Srt.cross hs a ha b hb
 ·have s1:SF Fy (B++[x]) ([x]++B):=Uu swoI (fun b hb y hy=>by simp at hy;subst hy;exact hB b hb)
  have s2:SF Fy (A++([x]++B)) (A++(B++[x])):=SF.append (SF.refl A) s1.symm
  have s3:SF Fy ((A++B)++[x]) (D++[x]):=SF.append h.sf (SF.refl [x])
  refine SF.trans (m:=A++(B++[x])) ?_ ?_
  ·simpa using s2
  ·simpa using s3
theorem join_item (ps:List (List Res)) (i:Nat) (hi:i<ps.length) (hk:∀r∈ps[i],r.Key.size≤1000000) (D out:List Res) (j:Nat) (hj:j<ps[i].length) (hs:Sorts Fy D out) (hl:out.length≤900000) (hl2:ps[i].length≤900000) :
  ∃out',Mp ps (i:Int) (out,(j:Int))=some (.inl (out',((j+1:Nat):Int)))∧Sorts Fy (D++[ps[i][j]]) out':=by
 have hx:ix ps[i] (j:Int)=some ps[i][j]:=Ep hj
 obtain ⟨A,B,e1,e2,e3,e4⟩:=ins_back ps[i][j] ps[i] (j:Int) hx (hk _ (List.getElem_mem hj)) out.length out [] rfl (by simp;omega) (by simpa using hs.srt) (fun b hb=>by cases hb)
 simp only [List.append_nil] at e1 e2
 subst e1
 have c1:Dl (A++B) 0 (A.length:Int)=some A:=cutO?_some.2 ⟨⟨by omega,by omega,by rw [List.length_append];omega⟩,by simp⟩
 have c2:Dl (A++B) (A.length:Int) ((A++B).length:Int)=some B:=cutO?_some.2 ⟨⟨by omega,by rw [List.length_append];omega,by omega⟩,by rw [Int.toNat_natCast,Int.toNat_natCast,List.drop_left,List.take_of_length_le (by rw [List.length_append];omega)]⟩
 rw [List.length_append] at hl
 refine ⟨A++ps[i][j]::B,?_,Sorts.ins hs e3 e4⟩
 simp only [Mp,Ep hi,Option.bind_some,if_pos (show (j:Int)<(ps[i].length:Int) by omega),e2,c1,Ct (l:=([]:List Res)) (r:=A) (by simp) (by omega),List.nil_append,hx,Ct (l:=A) (r:=[ps[i][j]]) (by omega) (by simp),c2,Ct (l:=A++[ps[i][j]]) (r:=B) (by simp;omega) (by omega),Ch (show j≤10000000000 by omega)]
 simp
theorem join_ref (ps:List (List Res)) (h1:ps.length≤100000) (h2:ps.flatten.length≤100000) (h3:∀r∈ps.flatten,r.Key.size≤1000000):∃r,f37 ps=some r∧Sorts Fy ps.flatten r:=by
 have key:∃r,loopO (Su ps) ([],0)=some r∧Sorts Fy ps.flatten r:=by
  refine Dv (fun n s=>∃(i:Nat) (out:List Res),s=(out,(i:Int))∧i≤ps.length∧Sorts Fy (ps.take i).flatten out∧n=ps.length-i) ?_ (k:=ps.length) ⟨0,[],rfl,by omega,⟨Srt.nil,SF.refl _,rfl⟩,rfl⟩
  rintro n _ ⟨i,out,rfl,hi,hs,hn⟩
  by_cases c:i<ps.length
  ·have e:=Vn ps i c
   have hle:=flat_le ps (i+1)
   have el:(ps.take (i+1)).flatten.length=(ps.take i).flatten.length+ps[i].length:=by rw [e,List.length_append]
   have hlo:=hs.len
   have inner:∃r,loopO (Mp ps (i:Int)) (out,0)=some r∧Sorts Fy ((ps.take i).flatten++ps[i]) r:=by
    refine Dv (fun n s=>∃(j:Nat) (o:List Res),s=(o,(j:Int))∧j≤ps[i].length∧Sorts Fy ((ps.take i).flatten++ps[i].take j) o∧n=ps[i].length-j) ?_ (k:=ps[i].length) ⟨0,out,rfl,by omega,by simpa using hs,rfl⟩
    rintro n _ ⟨j,o,rfl,hj,ho,hn⟩
    by_cases cj:j<ps[i].length
    ·have hol:=ho.len
     simp only [List.length_append,List.length_take] at hol
     obtain ⟨o',o1,o2⟩:=join_item ps i c (fun r hr=>h3 r (List.mem_flatten.2 ⟨_,List.getElem_mem c,hr⟩)) _ o j cj ho (by omega) (by omega)
     refine .inl ⟨(o',((j+1:Nat):Int)),n-1,o1,by omega,j+1,o',rfl,by omega,?_,by omega⟩
     rw [List.take_succ_eq_append_getElem cj,←List.append_assoc];exact o2
    ·refine .inr ⟨o,?_,?_⟩
     ·simp only [Mp,Ep c,Option.bind_some,if_neg (show ¬(j:Int)<(ps[i].length:Int) by omega)]
     ·rwa [List.take_of_length_le (l:=ps[i]) (by omega)] at ho
   obtain ⟨r,r1,r2⟩:=inner
   refine .inl ⟨(r,((i+1:Nat):Int)),n-1,?_,by omega,i+1,r,rfl,by omega,by rw [e];exact r2,by omega⟩
   simp only [Su,if_pos (show (i:Int)<(ps.length:Int) by omega),r1,Option.bind_some,Ch (show i≤10000000000 by omega)]
  ·refine .inr ⟨out,?_,?_⟩
   ·simp only [Su,if_neg (show ¬(i:Int)<(ps.length:Int) by omega)]
   ·rwa [List.take_of_length_le (l:=ps) (by omega)] at hs
 obtain ⟨r,r1,r2⟩:=key
 exact ⟨r,by simp only [f37,r1,Option.bind_some],r2⟩
theorem join_eq (ps:List (List Res)) (h1:ps.length≤100000) (h2:ps.flatten.length≤100000) (h3:∀r∈ps.flatten,r.Key.size≤1000000∧r.Offs.length≤1000000):∃r,f43 ps=some r∧f37 ps=some r∧Sorts Fy ps.flatten r:=by
 obtain ⟨r,r1,r2⟩:=join_prog ps h1 h2 (fun r hr=>(h3 r hr).2)
 obtain ⟨r',q1,q2⟩:=join_ref ps h1 h2 (fun r hr=>(h3 r hr).1)
 obtain rfl:=Sorts.uniq swoI r2 q2
 exact ⟨r,r1,q1,r2⟩
def Qr (a0:List Int) (s1_0:List Record) (s1_1:Int) (s1_2:Int):Unit→Option (((List Record)×Int×Int)⊕(((List Record)×Int×Int)⊕(List Record)))
  | _=>(if 65536<(IntKind.i64.wrap (s1_2-s1_1)) then some (.inr (.inl ([],s1_1,5))) else (if ((s1_0.length:Nat):Int)=65536 then some (.inr (.inl ([],s1_1,9))) else ((Dl a0 s1_1 s1_2).bind fun x53=>((Bq s1_0 [⟨s1_1,strOfNums x53⟩]).bind fun x54=>some (.inl (x54,IntKind.i64.wrap (s1_2+1),IntKind.i64.wrap (s1_2+1)))))))
def Jf (a0:List Int):(List Record)×Int×Int→Option (((List Record)×Int×Int)⊕(((List Record)×Int×Int)⊕(List Record)))
  | (s1_0,s1_1,s1_2)=>(if s1_2≤(a0.length:Int) then (if s1_2<(a0.length:Int) then ((ix a0 s1_2).bind fun x56=>(if x56=10 then (if s1_2=(a0.length:Int) then (if s1_1=s1_2 then some (.inl (s1_0,s1_1,IntKind.i64.wrap (s1_2+1))) else Qr a0 s1_0 s1_1 s1_2 ()) else Qr a0 s1_0 s1_1 s1_2 ()) else some (.inl (s1_0,s1_1,IntKind.i64.wrap (s1_2+1))))) else (if s1_2=(a0.length:Int) then (if s1_1=s1_2 then some (.inl (s1_0,s1_1,IntKind.i64.wrap (s1_2+1))) else Qr a0 s1_0 s1_1 s1_2 ()) else Qr a0 s1_0 s1_1 s1_2 ())) else some (.inr (.inr s1_0)))
def f15 (a0:List Int):Option ((List Record)×Int×Int):=(if 1048576<(a0.length:Int) then some ([],0,5) else ((loopO (Jf a0) ([],0,0)).bind fun y62=>match y62 with|.inl y63=>some y63|.inr y64=>some (y64,(a0.length:Int),0)))
theorem ok15 (a0:List Int) (r:(List Record)×Int×Int) (h:f15 a0=some r):PC Tryz.prog 15 [.sl (List.map Aw a0)] (.tup [.fr 2 (List.map Cp r.1),.val (.int .i64 r.2.1),.val (.int .i64 r.2.2)]):=by
 rw [f15] at h
 refine Bi (N:=63) (rs:=[.tmp 2,.tmp 3,.tmp 4]) Tryz.func15 ?_
 refine Ac [0] ?_
 refine AW.seq<|Ac [0,10] ?_
 rcases Aq h with ⟨c2,h⟩|⟨c2,h⟩
 ·refine Aj rfl c2<|Ac [2,3,4] ?_
  refine AW.ent (Av 2 2 (by decide) rfl) ?_
  refine AW.ret<|Ad ?_
  obtain rfl:=oi h
  (simp only [go_sem,seval,Ay]<;>try simp)
 ·refine Ai rfl c2<|AW.skip<|Aa<|Ac [0,5] ?_
  refine Ac [0,5,6] ?_
  refine AW.seq<|Ac [0,5,6,7] ?_
  refine AW.block ?_
  obtain ⟨y62,hy62,h⟩:=bO h
  refine AW.loopO (fun s=>⟨(Ag (Ag (Ag (Ag Az 0 (.sl (List.map Aw a0))) 5 (.own 8 0 s.1.length)) 6 (.val (.int .i64 s.2.1))) 7 (.val (.int .i64 s.2.2))),Bo [] [some (.row 2 true (List.map Cp s.1))],9⟩) (fun y e st'=>match y with|.inl z=>e=Exit.ret∧Ay Tryz.prog [.tmp 2,.tmp 3,.tmp 4] (.tup [.fr 2 (List.map Cp z.1),.val (.int .i64 z.2.1),.val (.int .i64 z.2.2)]) .ret st'|.inr z=>e=Exit.exit 0∧st'=⟨(Ag (Ag Az 0 (.sl (List.map Aw a0))) 5 (.own 8 0 z.length)),Bo [] [some (.row 2 true (List.map Cp z))],9⟩) hy62 ?_ ?_ ?_
  ·refine Ent.trans (Av 5 2 (by decide) rfl) ?_
   exact Ab [80] RF.any.qv.qo.qv.qv (.nil _) (.ce (.nil _))
  ·clear h hy62
   rintro ⟨s1_0,s1_1,s1_2⟩ x h
   rw [Jf] at h
   refine AW.seq<|Ac [0,5,6,7,14] ?_
   rcases Aq h with ⟨c41,h⟩|⟨c41,h⟩
   ·refine Aj rfl c41<|AW.skip<|Aa<|AW.seq<|AW.block ?_
    refine AW.join (fun s=>⟨(Ag (Ag (Ag (Ag Az 0 (.sl (List.map Aw a0))) 5 (.own 8 0 s1_0.length)) 6 (.val (.int .i64 s1_1))) 7 (.val (.int .i64 s1_2))),Bo [] [some (.row 2 true (List.map Cp s1_0))],9⟩) (fun s=>Qr a0 s1_0 s1_1 s1_2 s=some x) ?_ ?_
    ·rcases Aq h with ⟨c55,h⟩|⟨c55,h⟩
     ·obtain ⟨x56,hx56,h⟩:=bO h
      obtain ⟨hx56a,hx56b⟩:=ix_some.1 hx56
      rcases Aq h with ⟨c57,h⟩|⟨c57,h⟩
      ·rcases Aq h with ⟨c58,h⟩|⟨c58,h⟩
       ·refine Cb [0,5,6,7,38] fun K hK=>?_
        simp only [go_sem,seval,eq_false c2,eq_true c41,eq_true c55,Ah hx56a,hx56b,eq_true c57,eq_true c58]
        subst hK
        rcases Aq h with ⟨c59,h⟩|⟨c59,h⟩
        ·refine Aj rfl c59<|AW.exit<|Af<|Bc<|Aa<|Cd [0,5,6,7] ?_
         refine Aa ?_
         refine ⟨_,oj h,?_⟩
         exact Ab [8] RF.any.qv.qo.qv.qv (.nil _) (.ce (.nil _))
        ·refine Ai rfl c59<|AW.skip<|Aa ?_
         refine ⟨_,h,?_⟩
         exact Ab [8] RF.any.qv.qo.qv.qv (.nil _) (.ce (.nil _))
       ·refine Ao [0,5,6,7,38] ?_
        refine Bl rfl rfl<|AW.skip<|Aa ?_
        refine ⟨_,h,?_⟩
        exact Ab [8] RF.any.qv.qo.qv.qv (.nil _) (.ce (.nil _))
      ·refine Ao [0,5,6,7,38] ?_
       refine Bp rfl rfl<|AW.exit<|Af<|Bc<|Aa<|Uw [0,5,6,7] ?_
       refine Aa ?_
       refine ⟨_,oj h,?_⟩
       exact Ab [8] RF.any.qv.qo.qv.qv (.nil _) (.ce (.nil _))
     ·rcases Aq h with ⟨c60,h⟩|⟨c60,h⟩
      ·refine Cb [0,5,6,7,38] fun K hK=>?_
       simp only [go_sem,seval,eq_false c2,eq_true c41,eq_false c55,eq_true c60]
       subst hK
       rcases Aq h with ⟨c61,h⟩|⟨c61,h⟩
       ·refine Aj rfl c61<|AW.exit<|Af<|Bc<|Aa<|Dq [0,5,6,7] fun K hK=>?_
        simp only [go_sem,seval]
        subst hK
        refine Aa ?_
        refine ⟨_,oj h,?_⟩
        exact Ab [8] RF.any.qv.qo.qv.qv (.nil _) (.ce (.nil _))
       ·refine Ai rfl c61<|AW.skip<|Aa ?_
        refine ⟨_,h,?_⟩
        exact Ab [8] RF.any.qv.qo.qv.qv (.nil _) (.ce (.nil _))
      ·refine Re [0,5,6,7,38] ?_
       refine Bl rfl rfl<|AW.skip<|Aa ?_
       refine ⟨_,h,?_⟩
       exact Ab [8] RF.any.qv.qo.qv.qv (.nil _) (.ce (.nil _))
    ·clear h
     rintro ⟨⟩ h
     rw [Qr] at h
     refine AW.seq<|Ac [0,5,6,7,42] ?_
     rcases Aq h with ⟨c50,h⟩|⟨c50,h⟩
     ·refine Aj rfl c50<|Ac [2,3,4] ?_
      refine AW.ent (Av 2 2 (by decide) rfl) ?_
      refine AW.ret<|Ad<|Bd<|Ad<|Ad ?_
      refine ⟨_,oj h,_,Ent.refl,rfl,?_⟩
      (simp only [go_sem,seval,Ay]<;>try simp)
     ·refine Ai rfl c50<|AW.skip<|Aa<|AW.seq<|Ac [0,5,6,7,46] ?_
      rcases Aq h with ⟨c52,h⟩|⟨c52,h⟩
      ·refine Aj rfl c52<|Ac [2,3,4] ?_
       refine AW.ent (Av 2 2 (by decide) rfl) ?_
       refine AW.ret<|Ad<|Bd<|Ad<|Ad ?_
       refine ⟨_,oj h,_,Ent.refl,rfl,?_⟩
       (simp only [go_sem,seval,Ay]<;>try simp)
      ·refine Ai rfl c52<|AW.skip<|Aa ?_
       obtain ⟨x53,hx53,h⟩:=bO h
       obtain ⟨x54,hx54,h⟩:=bO h
       obtain ⟨hx54b,hx54e⟩:=appO?_some.1 hx54
       have hx54f:∀id o:Nat,Dw 2 24 id ([[.val (.int .i64 s1_1),.val (.string (strOfNums x53))]]) 0 s1_0.length o (some (.row 2 true (List.map Cp s1_0)))=some ⟨.own id 0 x54.length,[(o,none),(id,some (.row 2 true (List.map Cp x54)))]⟩:=fun id o=>by
         subst hx54e;rw [Bw (by simp) (by simpa using hx54b) (by decide)];first|(simp [Cp];done)|(simp [Cp];omega)
       refine Cb [0,5,7] fun K hK=>?_
       simp only [go_sem,seval,Jw Pn sz5 (Eu _) hx53,Ce (enc:=Aw) (fun _=>rfl),hx54f]
       subst hK
       refine Cd [0,5,6,7] ?_
       refine Ax<|Aa<|Cd [0,5,6,7] ?_
       refine Aa ?_
       refine ⟨_,oj h,?_⟩
       exact Ab [137] RF.any.qv.qo.qv.qv (.nil _) (.ce (.nil _))
   ·refine Ai rfl c41<|AW.exit<|Af<|Af ?_
    refine ⟨_,oj h,_,?_,rfl,rfl⟩
    exact Ab [8] RF.any.qv.qo (.nil _) (.ce (.nil _))
  ·intro e st' hX
   rcases y62 with y63|y64<;>dsimp only at h hX
   ·obtain ⟨rfl,hf⟩:=hX
    refine ⟨_,Ent.refl,?_⟩
    refine Bd<|Ad ?_
    obtain rfl:=oi h
    exact hf
   ·obtain ⟨rfl,rfl⟩:=hX
    refine ⟨_,Ent.refl,?_⟩
    refine Bc<|Aa<|Ac [2,3,4] ?_
    refine AW.ret ?_
    obtain rfl:=oi h
    (simp only [go_sem,seval,Ay]<;>try simp)
theorem line_at {b:List Int} (hb:Byt b) {a:Nat} (h:a<b.length):∃(n:Nat) (n0:Int),a+n≤b.length∧(∀j (hj:j<n) (hj2:a+j<b.length),b[a+j]≠10)∧(∀h2:a+n<b.length,b[a+n]=10) ∧
  f125 (b.drop a) 10=some n0∧(if n0<0 then ((b.length:Int)-a) else n0)=(n:Int):=by
 have hl:(b.drop a).length=b.length-a:=by simp
 have hg:∀j (hj:a+j<b.length),(Lib.bytesOf (b.drop a))[j]?=some (UInt8.ofNat b[a+j].toNat):=fun j hj=>by
  simp [Lib.bytesOf,hj]
 have he:∀j (hj:a+j<b.length),(UInt8.ofNat b[a+j].toNat=10↔b[a+j]=10):=fun j hj=>by
  obtain ⟨h0,h1⟩:=hb _ (List.getElem_mem hj)
  constructor
  ·intro h
   have:=congrArg UInt8.toNat h
   rw [UInt8.toNat_ofNat'] at this
   have e:(10:UInt8).toNat=10:=rfl
   rw [e] at this
   omega
  ·intro h;rw [h];rfl
 have hf:f125 (b.drop a) 10=some (Lib.indexByte (Lib.bytesOf (b.drop a)) 10):=by
  rw [f125,if_pos (by omega)];rfl
 have hge:=Lib.indexByte_ge (Lib.bytesOf (b.drop a)) 10
 by_cases hn:Lib.indexByte (Lib.bytesOf (b.drop a)) 10 = -1
 ·have k:=Lib.indexByte_none hn
  refine ⟨b.length-a, -1,by omega,fun j hj hj2 e=>?_,fun h2=>by omega,by rw [hf,hn],by rw [if_pos (by decide)];omega⟩
  exact k j (by rw [hg j hj2,(he j hj2).2 e])
 ·obtain ⟨n,hnn⟩:=Int.eq_ofNat_of_zero_le (show 0≤Lib.indexByte (Lib.bytesOf (b.drop a)) 10 by omega)
  obtain ⟨k1,k2⟩:=Lib.indexByte_some hnn
  have hlt:a+n<b.length:=by
   have:=(List.getElem?_eq_some_iff.1 k1).1
   simp [Lib.bytesOf] at this;omega
  refine ⟨n,(n:Int),by omega,fun j hj hj2 e=>?_,fun h2=>?_,by rw [hf,hnn],by rw [if_neg (by omega)]⟩
  ·exact k2 j hj (by rw [hg j hj2,(he j hj2).2 e])
  ·rw [hg n h2] at k1
   exact (he n h2).1 (Option.some.inj k1)
theorem Tk {b:List Int} (hb:Byt b) (hl:b.length≤60000):∀(m a:Nat) (recs:List Record),b.length+1-a≤m→a≤b.length+1→recs.length≤a→(∀r∈recs,0≤r.Off∧r.Off≤b.length) →
  ∃L,loopO (Jz b) ((a:Int),recs)=some L∧loopO (Jf b) (recs,(a:Int),(a:Int))=some (.inr L)∧L.length≤b.length+1∧∀r∈L,0≤r.Off∧r.Off≤b.length
 | m,a,recs,hm,ha,hr,ho=>by
  by_cases h:a<b.length
  ·cases m with
   | zero=>omega
   | succ m =>
    obtain ⟨n,n0,h1,h2,h3,h4,h5⟩:=line_at hb h
    obtain ⟨line,hline⟩:=Wf (b:=b) (lo:=(a:Int)) (hi:=((a+n:Nat):Int)) (by omega) (by omega) (by omega)
    have hll:=Yo hline
    have ht:Dl b (a:Int) (b.length:Int)=some (b.drop a):=cutO?_some.2 ⟨⟨by omega,by omega,by omega⟩,by
     rw [Int.toNat_natCast,Int.toNat_natCast,List.take_of_length_le (by rw [List.length_drop];omega)]⟩
    obtain ⟨L,l1,l2,l3⟩:=Tk hb hl m (a+n+1) (recs++[⟨(a:Int),strOfNums line⟩]) (by omega) (by omega) (by simp;omega) (fun r hr=>by
     rcases List.mem_append.1 hr with hr|hr
     ·exact ho r hr
     ·simp at hr;subst hr;simp only;omega)
    have hp:Jz b ((a:Int),recs)=some (.inl (((a+n+1:Nat):Int),recs++[⟨(a:Int),strOfNums line⟩])):=by
     have w0:IntKind.i64.wrap ((b.length:Int)-(a:Int))=(b.length:Int)-(a:Int):=Bf (by omega) (by omega)
     have w1:IntKind.i64.wrap ((a:Int)+(n:Int))=((a+n:Nat):Int):=by rw [Bf (by omega) (by omega)];omega
     have w2:IntKind.i64.wrap ((n:Int)+1)=(n:Int)+1:=Bf (by omega) (by omega)
     have w3:IntKind.i64.wrap ((a:Int)+((n:Int)+1))=((a+n+1:Nat):Int):=by rw [Bf (by omega) (by omega)];omega
     simp only [Jz,if_pos (show (a:Int)<(b.length:Int) by omega),ht,Option.bind_some,h4,w0,h5,w1,hline,Cw (show ¬ 65536<(line.length:Int)∧¬(65536:Int)≤(recs.length:Int) by omega),w2,w3]
    refine ⟨L,(Bj hp).trans l1,?_,l3⟩
    have hq:loopO (Jf b) (recs,(a:Int),(a:Int))=loopO (Jf b) (recs,(a:Int),((a+n:Nat):Int)):=by
     refine loopN (fun j=>(recs,(a:Int),((a+j:Nat):Int))) n (fun j hj=>?_)
     have hlt:a+j<b.length:=by omega
     simp only [Jf,if_pos (show ((a+j:Nat):Int)≤(b.length:Int) by omega),if_pos (show ((a+j:Nat):Int)<(b.length:Int) by omega),Ep hlt,Option.bind_some,if_neg (h2 j hj hlt)]
     rw [Ch (by omega)];rfl
    have hj3:Qr b recs (a:Int) ((a+n:Nat):Int) ()=some (.inl (recs++[⟨(a:Int),strOfNums line⟩],((a+n+1:Nat):Int),((a+n+1:Nat):Int))):=by
     have w1:IntKind.i64.wrap (((a+n:Nat):Int)-(a:Int))=(n:Int):=by rw [Bf (by omega) (by omega)];omega
     simp only [Qr,w1,if_neg (show ¬(65536:Int)<(n:Int) by omega),if_neg (show ¬((recs.length:Nat):Int)=65536 by omega),hline,Option.bind_some,Ct (l:=recs) (r:=[(⟨(a:Int),strOfNums line⟩:Record)]) (by omega) (by simp)]
     rw [Ch (by omega)]
    have hs:Jf b (recs,(a:Int),((a+n:Nat):Int))=some (.inl (recs++[⟨(a:Int),strOfNums line⟩],((a+n+1:Nat):Int),((a+n+1:Nat):Int))):=by
     by_cases c:a+n<b.length
     ·simp only [Jf,if_pos (show ((a+n:Nat):Int)≤(b.length:Int) by omega),if_pos (show ((a+n:Nat):Int)<(b.length:Int) by omega),Ep c,Option.bind_some,if_pos (h3 c),if_neg (show ¬((a+n:Nat):Int)=(b.length:Int) by omega),hj3]
     ·simp only [Jf,if_pos (show ((a+n:Nat):Int)≤(b.length:Int) by omega),if_neg (show ¬((a+n:Nat):Int)<(b.length:Int) by omega),if_pos (show ((a+n:Nat):Int)=(b.length:Int) by omega),if_neg (show ¬(a:Int)=((a+n:Nat):Int) by omega),hj3]
    rw [hq,Bj hs];exact l2
  ·refine ⟨recs,Al (by simp only [Jz,if_neg (show ¬(a:Int)<(b.length:Int) by omega)]),?_,by omega,ho⟩
   have fin:Jf b (recs,(a:Int),((b.length+1:Nat):Int))=some (.inr (.inr recs)):=by
    simp only [Jf,if_neg (show ¬((b.length+1:Nat):Int)≤(b.length:Int) by omega)]
   by_cases e:a=b.length
   ·subst e
    refine (Bj (s':=(recs,(b.length:Int),((b.length+1:Nat):Int))) ?_).trans (Al fin)
    simp only [Jf,if_pos (show (b.length:Int)≤(b.length:Int) by omega),if_neg (show ¬(b.length:Int)<(b.length:Int) by omega),if_true,Ch (show b.length≤10000000000 by omega)]
   ·have:a=b.length+1:=by omega
    subst this
    exact Al fin
theorem records_eq {b:List Int} (hb:Byt b) (hl:b.length≤60000):∃L:List Record,f57 b=some (L,(b.length:Int),0)∧f15 b=some (L,(b.length:Int),0)∧L.length≤b.length+1∧∀r∈L,0≤r.Off∧r.Off≤b.length:=by
 obtain ⟨L,h1,h2,h3⟩:=Tk hb hl (b.length+1) 0 [] (by omega) (by omega) (by simp) (by simp)
 have h1':loopO (Jz b) (0,[])=some L:=h1
 have h2':loopO (Jf b) ([],0,0)=some (.inr L):=h2
 refine ⟨L,?_,?_,h3⟩
 ·simp only [f57,Cw (show b.length≤1048576 by omega),Option.bind_some,h1']
 ·simp only [f15,if_neg (show ¬(1048576:Int)<(b.length:Int) by omega),h2',Option.bind_some]
def f35 (a0:Int) (a1:List Int):Option Bool:=some (!(decide (a0∈a1)))
theorem ok35 (a0:Int) (a1:List Int) (r:Bool) (h:f35 a0 a1=some r):PC Tryz.prog 35 [.val (.int .i64 a0),.ip [Iy a1]] (.val (.bool r)):=by
 rw [f35] at h
 refine Bi (N:=8) (rs:=[.tmp 3]) Tryz.func35 ?_
 refine Ac [0,1] ?_
 refine Cb [3] fun K hK=>?_
 simp only [go_sem,seval,look_encM mi75]
 subst hK
 refine AW.ret ?_
 obtain rfl:=oi h
 (simp only [go_sem,seval,Ay]<;>try simp)
def Lp (a0:List Int) (c1_0:List Int):Int→Option (Int⊕(Int⊕Unit))
  | s1_0=>(if s1_0<(a0.length:Int) then ((ix a0 s1_0).bind fun x16=>((f35 x16 c1_0).bind fun x17=>(if x17=true then some (.inr (.inl s1_0)) else some (.inl (IntKind.i64.wrap (s1_0+1)))))) else some (.inr (.inr ())))
def f62_35 (a0:List Int) (c1_0:List Int):Option Int:=((loopO (Lp a0 c1_0) 0).bind fun y19=>match y19 with|.inl y20=>some y20|.inr _=>some (-1))
theorem ok62_35 (a0:List Int) (c1_0:List Int) (r:Int) (h:f62_35 a0 c1_0=some r):PC Tryz.prog 62 [.sl (List.map Bk a0),.clo (.func 35) [] [.ip [Iy c1_0]]] (.val (.int .i64 r)):=by
 rw [f62_35] at h
 refine Bi (N:=19) (rs:=[.tmp 4]) Tryz.func62 ?_
 refine Ac [0,1] ?_
 refine AW.seq<|Ac [0,1,7,8] ?_
 refine AW.block ?_
 obtain ⟨y19,hy19,h⟩:=bO h
 refine AW.loopO (fun s=>⟨(Ag (Ag (Ag (Ag Az 0 (.sl (List.map Bk a0))) 1 (.clo (.func 35) [] [.ip [Iy c1_0]])) 7 (.val (.int .i64 (a0.length:Int)))) 8 (.val (.int .i64 s))),Bo [] [],8⟩) (fun y e st'=>match y with|.inl z=>e=Exit.ret∧Ay Tryz.prog [.tmp 4] (.val (.int .i64 z)) .ret st'|.inr z=>e=Exit.exit 0∧st'=⟨Az,Bo [] [],8⟩) hy19 ?_ ?_ ?_
 ·exact Bg RF.any.qv.qt.qv.qv
 ·clear h hy19
  rintro s1_0 x h
  rw [Lp] at h
  refine Ac [0,1,7,8,9] ?_
  refine AW.seq ?_
  rcases Aq h with ⟨c15,h⟩|⟨c15,h⟩
  ·refine Aj rfl c15<|AW.skip<|Aa<|AW.seq<|AW.block<|Ac [0,1,5,7,8] ?_
   obtain ⟨x16,hx16,h⟩:=bO h
   obtain ⟨hx16a,hx16b⟩:=ix_some.1 hx16
   obtain ⟨x17,hx17,h⟩:=bO h
   refine Kw [0,1,5,7,8,16] (ok35 x16 c1_0 x17 hx17) Tryz.call35 ?_
   rcases Aq h with ⟨c18,h⟩|⟨c18,h⟩
   ·refine Bp rfl c18<|Ao [4] ?_
    refine AW.ret<|Bd<|Ad<|Ad ?_
    refine ⟨_,oj h,_,Ent.refl,rfl,?_⟩
    (simp only [go_sem,seval,c18,Ay]<;>try simp)
   ·rw [Bool.not_eq_true] at c18
    refine Bl rfl c18<|AW.skip<|Ax<|Aa<|Bz [0,1,7,8] ?_
    refine Aa ?_
    refine ⟨_,oj h,?_⟩
    exact Bg RF.any.qv.qt.qv.qv
  ·refine Ai rfl c15<|AW.exit<|Af<|Af ?_
   refine ⟨_,oj h,_,?_,rfl,rfl⟩
   exact Bg RF.any
 ·intro e st' hX
  rcases y19 with y20|_<;>dsimp only at h hX
  ·obtain ⟨rfl,hf⟩:=hX
   refine ⟨_,Ent.refl,?_⟩
   refine Bd<|Ad ?_
   obtain rfl:=oi h
   exact hf
  ·obtain ⟨rfl,rfl⟩:=hX
   refine ⟨_,Ent.refl,?_⟩
   refine Bc<|Aa<|Ac [4] ?_
   refine AW.ret ?_
   obtain rfl:=oi h
   (simp only [go_sem,seval,Ay]<;>try simp)
def Vx (a0:List Int) (c1_0:List Int):Option Bool:=((f62_35 a0 c1_0).bind fun x1=>some (decide (0≤x1)))
theorem ok34_35 (a0:List Int) (c1_0:List Int) (r:Bool) (h:Vx a0 c1_0=some r):PC Tryz.prog 34 [.sl (List.map Bk a0),.clo (.func 35) [] [.ip [Iy c1_0]]] (.val (.bool r)):=by
 rw [Vx] at h
 refine Bi (N:=9) (rs:=[.tmp 4]) Tryz.func34 ?_
 refine Ac [0,1] ?_
 obtain ⟨x1,hx1,h⟩:=bO h
 refine Bx [4] (ok62_35 a0 c1_0 x1 hx1) Tryz.call62 ?_
 refine AW.ret ?_
 obtain rfl:=oi h
 (simp only [go_sem,seval,Ay]<;>try simp)
def Vy (a0:List (A2 (List Int))):(List (List Res))×Int→Option (((List (List Res))×Int)⊕(((List Res)×Er)⊕(List (List Res))))
  | (s1_0,s1_1)=>(if s1_1<(a0.length:Int) then ((ix a0 s1_1).bind fun x19=>((f56 x19.e0 x19.e1).bind fun x20=>(if x20.2=0 then ((Bq s1_0 [x20.1]).bind fun x22=>some (.inl (x22,IntKind.i64.wrap (s1_1+1)))) else ((f33 ⟨#[112,97,114,116]⟩ s1_1 x20.2).bind fun x23=>some (.inr (.inl ([],x23))))))) else some (.inr (.inr s1_0)))
def f30 (a0:List (A2 (List Int))):Option ((List Res)×Er):=((loopO (Vy a0) ([],0)).bind fun y24=>match y24 with|.inl y25=>some y25|.inr y26=>((f43 y26).bind fun x27=>some (x27,Er.nil)))
theorem ok30 (a0:List (A2 (List Int))) (r:(List Res)×Er) (h:f30 a0=some r):PC Tryz.prog 30 [.sl (List.map Md a0)] (.tup [.fr 3 (List.map Ak r.1),.val (Ph r.2)]):=by
 rw [f30] at h
 refine Bi (N:=36) (rs:=[.tmp 2,.tmp 3]) Tryz.func30 ?_
 refine Ac [0] ?_
 refine Ac [0,4] ?_
 refine AW.seq<|Ac [4,9,10,11] ?_
 refine AW.block ?_
 obtain ⟨y24,hy24,h⟩:=bO h
 refine AW.loopO (fun s=>⟨(Ag (Ag (Ag (Ag Az 4 (.own 8 0 s.1.length)) 9 (.sl (List.map Md a0))) 10 (.val (.int .i64 (a0.length:Int)))) 11 (.val (.int .i64 s.2))),Bo [] [some (.row 1 true (List.map Fv s.1))],9⟩) (fun y e st'=>match y with|.inl z=>e=Exit.ret∧Ay Tryz.prog [.tmp 2,.tmp 3] (.tup [.fr 3 (List.map Ak z.1),.val (Ph z.2)]) .ret st'|.inr z=>e=Exit.exit 0∧st'=⟨(Ag Az 4 (.own 8 0 z.length)),Bo [] [some (.row 1 true (List.map Fv z))],9⟩) hy24 ?_ ?_ ?_
 ·refine Ent.trans (Av 4 1 (by decide) rfl) ?_
  exact Ab [56] RF.any.qo.qv.qv.qv (.nil _) (.ce (.nil _))
 ·clear h hy24
  rintro ⟨s1_0,s1_1⟩ x h
  rw [Vy] at h
  refine Ac [4,9,10,11,12] ?_
  refine AW.seq ?_
  rcases Aq h with ⟨c18,h⟩|⟨c18,h⟩
  ·refine Aj rfl c18<|AW.skip<|Aa<|AW.seq<|AW.block ?_
   obtain ⟨x19,hx19,h⟩:=bO h
   obtain ⟨hx19a,hx19b⟩:=ix_some.1 hx19
   refine Ao [4,5,6,9,10,11] ?_
   obtain ⟨x20,hx20,h⟩:=bO h
   refine Bx [4,5,7,8,9,10,11] (ok56 x19.e0 x19.e1 x20 hx20) Tryz.call56 ?_
   refine AW.seq<|Ac [4,5,7,8,9,10,11,25] ?_
   rcases Aq h with ⟨c21,h⟩|⟨c21,h⟩
   ·refine Ai rfl (fun q=>q c21)<|AW.skip<|Aa<|AW.ent (Ent.still 7 rfl (Fg (sz:=3) (m:=true) rfl (by first|rfl|simp [Ar,eq_true c18,eq_true c21]) (by simp only [go_sem]))) ?_
    obtain ⟨x22,hx22,h⟩:=bO h
    obtain ⟨hx22b,hx22e⟩:=appO?_some.1 hx22
    have hx22f:∀id o:Nat,Dw 1 24 id ([[.sl (List.map Ak x20.1)]]) 0 s1_0.length o (some (.row 1 true (List.map Fv s1_0)))=some ⟨.own id 0 x22.length,[(o,none),(id,some (.row 1 true (List.map Fv x22)))]⟩:=fun id o=>by
      subst hx22e;rw [Bw (by simp) (by simpa using hx22b) (by decide)];first|(simp [Fv];done)|(simp [Fv];omega)
    refine Bz [4,9,10,11] ?_
    refine Ax<|Aa<|Cd [4,9,10,11] ?_
    refine Aa ?_
    refine ⟨_,oj h,?_⟩
    exact Ab [185] RF.any.qo.qv.qv.qv (.nil _) (.ce (.nil _))
   ·refine Aj rfl c21 ?_
    obtain ⟨x23,hx23,h⟩:=bO h
    refine Bx [2,3] (ok33 ⟨#[112,97,114,116]⟩ s1_1 x20.2 x23 hx23) Tryz.call33 ?_
    refine AW.ent (Av 2 3 (by decide) rfl) ?_
    refine AW.ret<|Ad<|Bd<|Ad<|Ad ?_
    refine ⟨_,oj h,_,Ent.refl,rfl,?_⟩
    (simp only [go_sem,seval,Ay]<;>try simp)
  ·refine Ai rfl c18<|AW.exit<|Af<|Af ?_
   refine ⟨_,oj h,_,?_,rfl,rfl⟩
   exact Ab [8] RF.any.qo (.nil _) (.ce (.nil _))
 ·intro e st' hX
  rcases y24 with y25|y26<;>dsimp only at h hX
  ·obtain ⟨rfl,hf⟩:=hX
   refine ⟨_,Ent.refl,?_⟩
   refine Bd<|Ad ?_
   obtain rfl:=oi h
   exact hf
  ·obtain ⟨rfl,rfl⟩:=hX
   refine ⟨_,Ent.refl,?_⟩
   refine Bc<|Aa ?_
   obtain ⟨x27,hx27,h⟩:=bO h
   refine Bx [2,3] (ok43 y26 x27 hx27) Tryz.call43 ?_
   refine AW.ret ?_
   obtain rfl:=oi h
   (simp only [go_sem,seval,Ay]<;>try simp)
def f31_s1 (x1:(List Record)×Int×Int):(List Int)×Int→Option (((List Int)×Int)⊕(List Int))
  | (s1_0,s1_1)=>(if s1_1<((x1.1.length:Nat):Int) then ((ix x1.1 s1_1).bind fun x16=>some (.inl ((insM x16.Off s1_0),IntKind.i64.wrap (s1_1+1)))) else some (.inr s1_0))
def f31 (a0:List Int):Option ((List Int)×Er):=((f57 a0).bind fun x1=>(if x1.2.2=0 then ((loopO (f31_s1 x1) ([],0)).bind fun y18=>some (y18,Er.nil)) else ((f33 ⟨#[105,110,112,117,116]⟩ 0 x1.2.2).bind fun x19=>some ([],x19))))
theorem ok31 (a0:List Int) (r:(List Int)×Er) (h:f31 a0=some r):PC Tryz.prog 31 [.sl (List.map Aw a0)] (.tup [Iy r.1,.val (Ph r.2)]):=by
 rw [f31] at h
 refine Bi (N:=32) (rs:=[.tmp 2,.tmp 3]) Tryz.func31 ?_
 refine Ac [0] ?_
 obtain ⟨x1,hx1,h⟩:=bO h
 refine AW.tC [4,6] (ok57 a0 x1 hx1) Tryz.call57 ?_
 refine AW.seq<|Ac [4,6,17] ?_
 rcases Aq h with ⟨c4,h⟩|⟨c4,h⟩
 ·refine Ai rfl (fun q=>q c4) ?_
  refine AW.skip<|Aa<|Ac [4,7] ?_
  refine AW.seq<|Ac [7,21,22,23] ?_
  refine AW.block ?_
  obtain ⟨y18,hy18,h⟩:=bO h
  refine AW.loopO (fun s=>⟨(Ag (Ag (Ag (Ag Az 7 (.mp 8)) 21 (.own 9 0 x1.1.length)) 22 (.val (.int .i64 ((x1.1.length:Nat):Int)))) 23 (.val (.int .i64 s.2))),Bo [] [some (moM s.1),some (.row 2 true (List.map Cp x1.1))],10⟩) (fun z e st'=>e=Exit.exit 0∧st'=⟨(Ag Az 7 (.mp 8)),Bo [] [some (moM z)],9⟩) hy18 ?_ ?_ ?_
  ·exact Ab [112,32] ((((RF.any.put (by simp [Bn]) (.of (by first|rfl|simp [Ae,Ap,Cv,Bh,Bb,Mj,Ar,eq_true c4]))).qo).qv).qv) (.nil _) (.cons (.mpe (by first|rfl|simp [Ae,Ap,Cv,Bh,Bb,Mj,Ar,eq_true c4])) (.ce (.nil _)))
  ·clear h hy18
   rintro ⟨s1_0,s1_1⟩ x h
   rw [f31_s1] at h
   refine Ac [7,21,22,23,24] ?_
   refine AW.seq ?_
   rcases Aq h with ⟨c15,h⟩|⟨c15,h⟩
   ·refine Aj rfl c15<|AW.skip<|Aa<|AW.seq<|AW.block ?_
    obtain ⟨x16,hx16,h⟩:=bO h
    obtain ⟨hx16a,hx16b⟩:=ix_some.1 hx16
    refine Cb [7,9,21,22,23] fun K hK=>?_
    simp only [go_sem,seval,Ah hx16a,hx16b,Cm hx16b]
    subst hK
    refine Dq [7,21,22,23] fun K hK=>?_
    simp only [go_sem,seval,upd_encM mi75,upd_encM0 mi75]
    subst hK
    refine Ax<|Aa<|Cd [7,21,22,23] ?_
    refine Aa ?_
    refine ⟨_,oj h,?_⟩
    exact Ab [8,9] ((((RF.any.put (by simp [Bn]) (.of (by first|rfl|simp [Ae,Ap,Cv,Bh,Bb,Mj,Ar,eq_true c4,eq_true c15]))).qo).qv).qv) (.nil _) (.cons (.mpe (by first|rfl|simp [Ae,Ap,Cv,Bh,Bb,Mj,Ar,eq_true c4,eq_true c15])) (.ce (.nil _)))
   ·refine Ai rfl c15<|AW.exit<|Af<|Af ?_
    refine ⟨_,oj h,_,?_,rfl,rfl⟩
    exact Ab [8] (RF.any.put (by simp [Bn]) (.of (by first|rfl|simp [Ae,Ap,Cv,Bh,Bb,Mj,Ar,eq_true c4,eq_false c15]))) (.nil _) (.cons (.mpe (by first|rfl|simp [Ae,Ap,Cv,Bh,Bb,Mj,Ar,eq_true c4,eq_false c15])) (.nil _))
  ·intro e st' hX
   try dsimp only at h
   try dsimp only at hX
   obtain ⟨rfl,rfl⟩:=hX
   refine ⟨_,Ent.refl,?_⟩
   refine Bc<|Aa<|Ac [2,3] ?_
   refine AW.ent (Ent.stillMap 2 rfl (by first|rfl|simp [Ae])) ?_
   refine AW.ret ?_
   obtain rfl:=oi h
   (simp only [go_sem,seval,Ay]<;>try simp)
 ·refine Aj rfl c4 ?_
  obtain ⟨x19,hx19,h⟩:=bO h
  refine Bx [2,3] (ok33 ⟨#[105,110,112,117,116]⟩ 0 x1.2.2 x19 hx19) Tryz.call33 ?_
  refine AW.ent (Ent.w (Fe (d:=2) Weak.nilM)) ?_
  refine AW.ret<|Ad ?_
  obtain rfl:=oi h
  (simp only [go_sem,seval,Ay]<;>try simp)
def f8_s2 (x1:(List Res)×Er) (x4:(List Int)×Er):Int→Option (Int⊕(((Option Trace)×Er)⊕Unit))
  | s2_0=>(if s2_0<((x1.1.length:Nat):Int) then ((ix x1.1 s2_0).bind fun x36=>((Vx x36.Offs x4.1).bind fun x37=>(if x37=true then ((f33 ⟨#[107,101,121]⟩ s2_0 320).bind fun x39=>some (.inr (.inl (none,x39)))) else some (.inl (IntKind.i64.wrap (s2_0+1)))))) else some (.inr (.inr ())))
def f8 (a0:List (A2 (List Int))) (a1:List Int):Option ((Option Trace)×Er):=((f30 a0).bind fun x1=>(if (Er.isNil x1.2)=true then ((f31 a1).bind fun x4=>(if (Er.isNil x4.2)=true then ((f32 x1.1).bind fun x10=>(if x10=true then ((loopO (f8_s2 x1 x4) 0).bind fun y40=>match y40 with|.inl y41=>some y41|.inr _=>some ((some ⟨x1.1,x4.1⟩),Er.nil)) else ((f33 ⟨#[106,111,105,110]⟩ 0 3).bind fun x42=>some (none,x42)))) else some (none,x4.2))) else some (none,x1.2)))
theorem ok8 (a0:List (A2 (List Int))) (a1:List Int) (r:(Option Trace)×Er) (h:f8 a0 a1=some r):IC Tryz.prog 8 [] [.sl (List.map Md a0),.sl (List.map Aw a1)] (match r.1 with|none=>.tup [.val (.pointer none),.val (Ph r.2)]|some _=>.tup [.ptr 8 0 0,.val (Ph r.2)]) [] (match r.1 with|none=>[]|some b=>[some (.row 2 true [[.own 9 0 b.l.length,Iy b.offs]]),some (.row 3 true (List.map Ak b.l))]):=by
 rw [f8] at h
 refine Qg (N:=49) (rs:=[.tmp 4,.tmp 5]) Tryz.func8 rfl rfl rfl (Nat.le_of_ble_eq_true rfl)<|Ac [0,1] ?_
 obtain ⟨x1,hx1,h⟩:=bO h
 refine Bx [1,6,7] (ok30 a0 x1 hx1) Tryz.call30 ?_
 refine AW.seq<|Ao [1,6,7,17] ?_
 rcases Aq h with ⟨c3,h⟩|⟨c3,h⟩
 ·refine Bl rfl (by first|(rw [c3];rfl)|simp_all)<|AW.skip<|Aa ?_
  obtain ⟨x4,hx4,h⟩:=bO h
  refine Bx [6,7,8] (ok31 a1 x4 hx4) Tryz.call31 ?_
  refine AW.seq<|Ao [6,7,8,25] ?_
  rcases Aq h with ⟨c6,h⟩|⟨c6,h⟩
  ·refine Bl rfl (by first|(rw [c6];rfl)|simp_all)<|AW.skip<|Aa<|AW.seq ?_
   obtain ⟨x10,hx10,h⟩:=bO h
   refine Bx [6,8,29] (ok32 x1.1 x10 hx10) Tryz.call32 ?_
   rcases Aq h with ⟨c11,h⟩|⟨c11,h⟩
   ·refine Bl rfl (by first|(rw [c11];rfl)|simp_all)<|AW.skip<|Aa<|AW.seq<|Ao [6,8,31,32,33] ?_
    refine AW.block<|AW.ent (Jh 8 rfl (by first|rfl|simp [Ae]) (by first|rfl|simp only [go_sem]) (by simp)) ?_
    obtain ⟨y40,hy40,h⟩:=bO h
    refine AW.loopO (fun s=>⟨(Ag (Ag (Ag (Ag (Ag Az 6 (.own 8 0 x1.1.length)) 8 (.ip [Iy x4.1])) 31 (.own 8 0 x1.1.length)) 32 (.val (.int .i64 ((x1.1.length:Nat):Int)))) 33 (.val (.int .i64 s))),Bo [] [some (.row 3 true (List.map Ak x1.1))],9⟩) (fun y e st'=>match y with|.inl z=>e=Exit.ret∧finI Tryz.prog [.tmp 4,.tmp 5] (match z.1 with|none=>.tup [.val (.pointer none),.val (Ph z.2)]|some _=>.tup [.ptr 8 0 0,.val (Ph z.2)]) [] (match z.1 with|none=>[]|some b=>[some (.row 2 true [[.own 9 0 b.l.length,Iy b.offs]]),some (.row 3 true (List.map Ak b.l))]) .ret st'|.inr z=>e=Exit.exit 0∧st'=⟨(Ag (Ag Az 6 (.own 8 0 x1.1.length)) 8 (.ip [Iy x4.1])),Bo [] [some (.row 3 true (List.map Ak x1.1))],9⟩) hy40 ?_ ?_ ?_
    ·exact Ab [32] RF.any.qo.qv.qo.qv.qv (.nil _) (.ce (.nil _))
    ·clear h hy40
     rintro s2_0 x h
     rw [f8_s2] at h
     refine Ao [6,8,31,32,33,34] ?_
     refine AW.seq ?_
     rcases Aq h with ⟨c35,h⟩|⟨c35,h⟩
     ·refine Aj rfl c35<|AW.skip<|Aa<|AW.seq<|AW.block ?_
      obtain ⟨x36,hx36,h⟩:=bO h
      obtain ⟨hx36a,hx36b⟩:=ix_some.1 hx36
      refine Cb [6,8,9,10,31,32,33] fun K hK=>?_
      simp only [go_sem,seval,c3,c6,c11,eq_true c35,Ah hx36a,hx36b,Cm hx36b]
      subst hK
      obtain ⟨x37,hx37,h⟩:=bO h
      refine Kw [6,8,9,31,32,33,41] (ok34_35 x36.Offs x4.1 x37 hx37) Tryz.call34 ?_
      rcases Aq h with ⟨c38,h⟩|⟨c38,h⟩
      ·refine Bp rfl c38 ?_
       obtain ⟨x39,hx39,h⟩:=bO h
       refine Bx [4,5] (ok33 ⟨#[107,101,121]⟩ s2_0 320 x39 hx39) Tryz.call33 ?_
       refine AW.ent (st':=⟨(Ag (Ag Az 4 (.val (.pointer none))) 5 (.val (Ph x39))),Bo [] [],8⟩) ?_ ?_
       · refine Bu [] _ _ _ rfl (by first|decide|simp) rfl ?_ ?_ ?_
         · exact RF.any.qv.qv
         · exact .nil _
         · exact .nil _
       refine AW.ret<|Bd<|Ad<|Ad ?_
       refine ⟨_,oj h,_,Ent.refl,rfl,?_⟩
       exact ⟨rfl,rfl,_,rfl,by first|rfl|simp [Cu,Ae,Ar]⟩
      ·rw [Bool.not_eq_true] at c38
       refine Bl rfl c38<|AW.skip<|Ax<|Aa<|Bz [6,8,31,32,33] ?_
       refine Aa ?_
       refine ⟨_,oj h,?_⟩
       exact Ab [8] RF.any.qo.qv.qo.qv.qv (.nil _) (.ce (.nil _))
     ·refine Ai rfl c35<|AW.exit<|Af<|Af ?_
      refine ⟨_,oj h,_,?_,rfl,rfl⟩
      exact Ab [8] RF.any.qo.qv (.nil _) (.ce (.nil _))
    ·intro e st' hX
     rcases y40 with y41|_<;>dsimp only at h hX
     ·obtain ⟨rfl,hf⟩:=hX
      refine ⟨_,Ent.refl,?_⟩
      refine Bd<|Ad ?_
      obtain rfl:=oi h
      exact hf
     ·obtain ⟨rfl,rfl⟩:=hX
      refine ⟨_,Ent.refl,?_⟩
      refine Bc<|Aa<|Ao [4,5] ?_
      refine AW.ent (st':=⟨(Ag (Ag Az 4 (.ptr 8 0 0)) 5 (.val (.nilIface))),Bo [] [some (.row 2 true [[.own 9 0 x1.1.length,Iy x4.1]]),some (.row 3 true (List.map Ak x1.1))],10⟩) ?_ ?_
      · refine Bu [33,8] _ _ _ rfl (by first|decide|simp) rfl ?_ ?_ ?_
        · exact RF.any.qp.qv
        · exact .nil _
        · exact .cons (.tok (by simp [Bn,By,Cy,tokL_im]) (by first|rfl|simp [Ae,Ap,Cv,Bh,Bb,Mj,Ar,c3,c6,c11])) (.ce (.nil _))
      refine AW.ret ?_
      obtain rfl:=oi h
      exact ⟨rfl,rfl,_,rfl,by first|rfl|simp [Cu,Ae,Ar]⟩
   ·rw [Bool.not_eq_true] at c11
    refine Bp rfl (by first|(rw [c11];rfl)|simp_all) ?_
    obtain ⟨x42,hx42,h⟩:=bO h
    refine Bx [4,5] (ok33 ⟨#[106,111,105,110]⟩ 0 3 x42 hx42) Tryz.call33 ?_
    refine AW.ent (st':=⟨(Ag (Ag Az 4 (.val (.pointer none))) 5 (.val (Ph x42))),Bo [] [],8⟩) ?_ ?_
    · refine Bu [] _ _ _ rfl (by first|decide|simp) rfl ?_ ?_ ?_
      · exact RF.any.qv.qv
      · exact .nil _
      · exact .nil _
    refine AW.ret<|Ad ?_
    obtain rfl:=oi h
    exact ⟨rfl,rfl,_,rfl,by first|rfl|simp [Cu,Ae,Ar]⟩
  ·rw [Bool.not_eq_true] at c6
   refine Bp rfl (by first|(rw [c6];rfl)|simp_all)<|Ao [4,5] ?_
   refine AW.ent (st':=⟨(Ag (Ag Az 4 (.val (.pointer none))) 5 (.val (Ph x4.2))),Bo [] [],8⟩) ?_ ?_
   · refine Bu [] _ _ _ rfl (by first|decide|simp) rfl ?_ ?_ ?_
     · exact RF.any.qv.qv
     · exact .nil _
     · exact .nil _
   refine AW.ret<|Ad ?_
   obtain rfl:=oi h
   exact ⟨rfl,rfl,_,rfl,by first|rfl|simp [Cu,Ae,Ar]⟩
 ·rw [Bool.not_eq_true] at c3
  refine Bp rfl (by first|(rw [c3];rfl)|simp_all)<|Ao [4,5] ?_
  refine AW.ent (st':=⟨(Ag (Ag Az 4 (.val (.pointer none))) 5 (.val (Ph x1.2))),Bo [] [],8⟩) ?_ ?_
  · refine Bu [] _ _ _ rfl (by first|decide|simp) rfl ?_ ?_ ?_
    · exact RF.any.qv.qv
    · exact .nil _
    · exact .nil _
  refine AW.ret<|Ad ?_
  obtain rfl:=oi h
  exact ⟨rfl,rfl,_,rfl,by first|rfl|simp [Cu,Ae,Ar]⟩
def Sw (a0:List Record) (a1:Int):Int→Option (Int⊕((Int×Bool)⊕Unit))
  | s1_0=>(if s1_0<(a0.length:Int) then ((ix a0 s1_0).bind fun x11=>(if x11.Off=a1 then some (.inr (.inl (s1_0,true))) else some (.inl (IntKind.i64.wrap (s1_0+1))))) else some (.inr (.inr ())))
def f20 (a0:List Record) (a1:Int):Option (Int×Bool):=((loopO (Sw a0 a1) 0).bind fun y13=>match y13 with|.inl y14=>some y14|.inr _=>some (0,false))
theorem ok20 (a0:List Record) (a1:Int) (r:Int×Bool) (h:f20 a0 a1=some r):PC Tryz.prog 20 [.sl (List.map Cp a0),.val (.int .i64 a1)] (.tup [.val (.int .i64 r.1),.val (.bool r.2)]):=by
 rw [f20] at h
 refine Bi (N:=21) (rs:=[.tmp 4,.tmp 5]) Tryz.func20 ?_
 refine Ac [0,1] ?_
 refine AW.seq<|Ac [0,1,6] ?_
 refine AW.block ?_
 obtain ⟨y13,hy13,h⟩:=bO h
 refine AW.loopO (fun s=>⟨(Ag (Ag (Ag Az 0 (.sl (List.map Cp a0))) 1 (.val (.int .i64 a1))) 6 (.val (.int .i64 s))),Bo [] [],8⟩) (fun y e st'=>match y with|.inl z=>e=Exit.ret∧Ay Tryz.prog [.tmp 4,.tmp 5] (.tup [.val (.int .i64 z.1),.val (.bool z.2)]) .ret st'|.inr z=>e=Exit.exit 0∧st'=⟨Az,Bo [] [],8⟩) hy13 ?_ ?_ ?_
 ·exact Bg RF.any.qv.qv.qv
 ·clear h hy13
  rintro s1_0 x h
  rw [Sw] at h
  refine AW.seq<|Ac [0,1,6,10] ?_
  rcases Aq h with ⟨c10,h⟩|⟨c10,h⟩
  ·refine Aj rfl c10<|AW.skip<|Aa<|AW.seq<|AW.block ?_
   obtain ⟨x11,hx11,h⟩:=bO h
   obtain ⟨hx11a,hx11b⟩:=ix_some.1 hx11
   refine Ao [0,1,6,19] ?_
   rcases Aq h with ⟨c12,h⟩|⟨c12,h⟩
   ·refine Aj rfl c12<|Ac [4,5] ?_
    refine AW.ret<|Bd<|Ad<|Ad ?_
    refine ⟨_,oj h,_,Ent.refl,rfl,?_⟩
    (simp only [go_sem,seval,Ay]<;>try simp)
   ·refine Ai rfl c12<|AW.skip<|Ax<|Aa<|Cd [0,1,6] ?_
    refine Aa ?_
    refine ⟨_,oj h,?_⟩
    exact Bg RF.any.qv.qv.qv
  ·refine Ai rfl c10<|AW.exit<|Af<|Af ?_
   refine ⟨_,oj h,_,?_,rfl,rfl⟩
   exact Bg RF.any
 ·intro e st' hX
  rcases y13 with y14|_<;>dsimp only at h hX
  ·obtain ⟨rfl,hf⟩:=hX
   refine ⟨_,Ent.refl,?_⟩
   refine Bd<|Ad ?_
   obtain rfl:=oi h
   exact hf
  ·obtain ⟨rfl,rfl⟩:=hX
   refine ⟨_,Ent.refl,?_⟩
   refine Bc<|Aa<|Ac [4,5] ?_
   refine AW.ret ?_
   obtain rfl:=oi h
   (simp only [go_sem,seval,Ay]<;>try simp)
def Ry (a0:List (A2 (List Int))):(List (List Res))×Int→Option (((List (List Res))×Int)⊕(((List Res)×Int×ByteArray×Int)⊕(List (List Res))))
  | (s2_0,s2_1)=>(if s2_1<(a0.length:Int) then ((ix a0 s2_1).bind fun x28=>((f36 x28.e0 x28.e1).bind fun x29=>(if x29.2=0 then ((Bq s2_0 [x29.1]).bind fun x31=>some (.inl (x31,IntKind.i64.wrap (s2_1+1)))) else some (.inr (.inl ([],x29.2,⟨#[112,97,114,116]⟩,s2_1)))))) else some (.inr (.inr s2_0)))
def Rx (x35:(List Record)×Int×Int) (x38:(List Res)) (s3_0:Int):Int→Option (Int⊕(((List Res)×Int×ByteArray×Int)⊕Unit))
  | s6_0=>((ix x38 s3_0).bind fun x97=>(if s6_0<(x97.Offs.length:Int) then ((ix x97.Offs s6_0).bind fun x99=>((f20 x35.1 x99).bind fun x100=>(if x100.2=true then some (.inl (IntKind.i64.wrap (s6_0+1))) else some (.inr (.inl ([],320,⟨#[107,101,121]⟩,s3_0)))))) else some (.inr (.inr ()))))
def Tw (x35:(List Record)×Int×Int) (x38:(List Res)):Int→Option (Int⊕(((List Res)×Int×ByteArray×Int)⊕Unit))
  | s3_0=>(if s3_0<((x38.length:Nat):Int) then ((loopO (Rx x35 x38 s3_0) 0).bind fun y102=>match y102 with|.inl y103=>some (.inr (.inl y103))|.inr _=>some (.inl (IntKind.i64.wrap (s3_0+1)))) else some (.inr (.inr ())))
def f9 (a0:List (A2 (List Int))) (a1:List Int):Option ((List Res)×Int×ByteArray×Int):=((loopO (Ry a0) ([],0)).bind fun y32=>match y32 with|.inl y33=>some y33|.inr y34=>((f15 a1).bind fun x35=>(if x35.2.2=0 then ((f37 y34).bind fun x38=>((f38 x38).bind fun x41=>(if x41=true then ((loopO (Tw x35 x38) 0).bind fun y104=>match y104 with|.inl y105=>some y105|.inr _=>some (x38,0,⟨#[]⟩,0)) else some ([],3,⟨#[106,111,105,110]⟩,0)))) else some ([],x35.2.2,⟨#[105,110,112,117,116]⟩,0))))
theorem ok9 (a0:List (A2 (List Int))) (a1:List Int) (r:(List Res)×Int×ByteArray×Int) (h:f9 a0 a1=some r):PC Tryz.prog 9 [.sl (List.map Md a0),.sl (List.map Aw a1)] (.tup [.fr 3 (List.map Ak r.1),.val (.int .i64 r.2.1),.val (.string r.2.2.1),.val (.int .i64 r.2.2.2)]):=by
 rw [f9] at h
 refine Bi (N:=95) (rs:=[.tmp 4,.tmp 5,.tmp 6,.tmp 7]) Tryz.func9 ?_
 refine Ac [0,1] ?_
 refine Ac [0,1,8] ?_
 refine AW.seq<|Ac [0,1,8,9] ?_
 refine AW.block ?_
 obtain ⟨y32,hy32,h⟩:=bO h
 refine AW.loopO (fun s=>⟨(Ag (Ag (Ag (Ag Az 0 (.sl (List.map Md a0))) 1 (.sl (List.map Aw a1))) 8 (.own 8 0 s.1.length)) 9 (.val (.int .i64 s.2))),Bo [] [some (.row 1 true (List.map Fv s.1))],9⟩) (fun y e st'=>match y with|.inl z=>e=Exit.ret∧Ay Tryz.prog [.tmp 4,.tmp 5,.tmp 6,.tmp 7] (.tup [.fr 3 (List.map Ak z.1),.val (.int .i64 z.2.1),.val (.string z.2.2.1),.val (.int .i64 z.2.2.2)]) .ret st'|.inr z=>e=Exit.exit 0∧st'=⟨(Ag (Ag Az 1 (.sl (List.map Aw a1))) 8 (.own 8 0 z.length)),Bo [] [some (.row 1 true (List.map Fv z))],9⟩) hy32 ?_ ?_ ?_
 ·refine Ent.trans (Av 8 1 (by decide) rfl) ?_
  exact Ab [56] RF.any.qv.qv.qo.qv (.nil _) (.ce (.nil _))
 ·clear h hy32
  rintro ⟨s2_0,s2_1⟩ x h
  rw [Ry] at h
  refine AW.seq<|Ac [0,1,8,9,23] ?_
  rcases Aq h with ⟨c27,h⟩|⟨c27,h⟩
  ·refine Aj rfl c27<|AW.skip<|Aa<|AW.seq<|AW.block ?_
   obtain ⟨x28,hx28,h⟩:=bO h
   obtain ⟨hx28a,hx28b⟩:=ix_some.1 hx28
   obtain ⟨x29,hx29,h⟩:=bO h
   refine Sb [0,1,8,9,10,11] [0,0,3,7,15,0,0,96,224,480,1023,2047,4095,4095,8191,32767] (ok36 x28.e0 x28.e1 x29 hx29) Tryz.call36 ?_
   generalize hK:AW Tryz.prog _ _ _=K
   simp only [go_sem,seval,Ah hx28a,hx28b]
   subst hK
   refine AW.seq<|Ac [0,1,8,9,10,11,41] ?_
   rcases Aq h with ⟨c30,h⟩|⟨c30,h⟩
   ·refine Ai rfl (fun q=>q c30)<|AW.skip<|Aa<|AW.ent (Ent.still 10 rfl (Fg (sz:=3) (m:=true) rfl (by first|rfl|simp [Ar,eq_true c27,eq_true c30]) (by simp only [go_sem]))) ?_
    obtain ⟨x31,hx31,h⟩:=bO h
    obtain ⟨hx31b,hx31e⟩:=appO?_some.1 hx31
    have hx31f:∀id o:Nat,Dw 1 24 id ([[.sl (List.map Ak x29.1)]]) 0 s2_0.length o (some (.row 1 true (List.map Fv s2_0)))=some ⟨.own id 0 x31.length,[(o,none),(id,some (.row 1 true (List.map Fv x31)))]⟩:=fun id o=>by
      subst hx31e;rw [Bw (by simp) (by simpa using hx31b) (by decide)];first|(simp [Fv];done)|(simp [Fv];omega)
    refine Bz [0,1,8,9] ?_
    refine Ax<|Aa<|Cd [0,1,8,9] ?_
    refine Aa ?_
    refine ⟨_,oj h,?_⟩
    exact Ab [209] RF.any.qv.qv.qo.qv (.nil _) (.ce (.nil _))
   ·refine Aj rfl c30<|Ac [4,5,6,7] ?_
    refine AW.ent (Av 4 3 (by decide) rfl) ?_
    refine AW.ret<|Ad<|Bd<|Ad<|Ad ?_
    refine ⟨_,oj h,_,Ent.refl,rfl,?_⟩
    (simp only [go_sem,seval,Ay]<;>try simp)
  ·refine Ai rfl c27<|AW.exit<|Af<|Af ?_
   refine ⟨_,oj h,_,?_,rfl,rfl⟩
   exact Ab [8] RF.any.qv.qo (.nil _) (.ce (.nil _))
 ·intro e st' hX
  rcases y32 with y33|y34<;>dsimp only at h hX
  ·obtain ⟨rfl,hf⟩:=hX
   refine ⟨_,Ent.refl,?_⟩
   refine Bd<|Ad ?_
   obtain rfl:=oi h
   exact hf
  ·obtain ⟨rfl,rfl⟩:=hX
   refine ⟨_,Ent.refl,?_⟩
   refine Bc<|Aa ?_
   obtain ⟨x35,hx35,h⟩:=bO h
   refine Bx [8,12,14] (ok15 a1 x35 hx35) Tryz.call15 ?_
   refine AW.seq<|Ac [8,12,14,55] ?_
   rcases Aq h with ⟨c37,h⟩|⟨c37,h⟩
   ·refine Ai rfl (fun q=>q c37)<|AW.skip<|Aa ?_
    obtain ⟨x38,hx38,h⟩:=bO h
    refine Bx [12,15] (ok37 y34 x38 hx38) Tryz.call37 ?_
    refine AW.seq ?_
    obtain ⟨x41,hx41,h⟩:=bO h
    refine Bx [12,15,61] (ok38 x38 x41 hx41) Tryz.call38 ?_
    rcases Aq h with ⟨c42,h⟩|⟨c42,h⟩
    ·refine Bl rfl (by first|(rw [c42];rfl)|simp_all)<|AW.skip<|Aa<|AW.seq<|Ao [12,15,16] ?_
     refine AW.block ?_
     obtain ⟨y104,hy104,h⟩:=bO h
     refine AW.loopO (fun s=>⟨(Ag (Ag (Ag Az 12 (.own 8 0 x35.1.length)) 15 (.own 9 0 x38.length)) 16 (.val (.int .i64 s))),Bo [] [some (.row 2 true (List.map Cp x35.1)),some (.row 3 true (List.map Ak x38))],10⟩) (fun y e st'=>match y with|.inl z=>e=Exit.ret∧Ay Tryz.prog [.tmp 4,.tmp 5,.tmp 6,.tmp 7] (.tup [.fr 3 (List.map Ak z.1),.val (.int .i64 z.2.1),.val (.string z.2.2.1),.val (.int .i64 z.2.2.2)]) .ret st'|.inr z=>e=Exit.exit 2∧st'=⟨(Ag Az 15 (.own 8 0 x38.length)),Bo [] [some (.row 3 true (List.map Ak x38))],9⟩) hy104 ?_ ?_ ?_
     ·exact Ab [17,105] RF.any.qo.qo.qv (.nil _) (.ce (.ce (.nil _)))
     ·clear h hy104
      rintro s3_0 x h
      rw [Tw] at h
      refine AW.seq<|Ao [12,15,16,65] ?_
      rcases Aq h with ⟨c80,h⟩|⟨c80,h⟩
      ·refine Aj rfl c80<|AW.skip<|Aa<|AW.seq<|AW.block<|Ao [12,15,16,17] ?_
       refine AW.block ?_
       obtain ⟨y102,hy102,h⟩:=bO h
       refine AW.loopO (fun s=>⟨(Ag (Ag (Ag (Ag Az 12 (.own 8 0 x35.1.length)) 15 (.own 9 0 x38.length)) 16 (.val (.int .i64 s3_0))) 17 (.val (.int .i64 s))),Bo [] [some (.row 2 true (List.map Cp x35.1)),some (.row 3 true (List.map Ak x38))],10⟩) (fun y e st'=>match y with|.inl z=>e=Exit.ret∧Ay Tryz.prog [.tmp 4,.tmp 5,.tmp 6,.tmp 7] (.tup [.fr 3 (List.map Ak z.1),.val (.int .i64 z.2.1),.val (.string z.2.2.1),.val (.int .i64 z.2.2.2)]) .ret st'|.inr z=>e=Exit.exit 4∧st'=⟨(Ag (Ag (Ag Az 12 (.own 8 0 x35.1.length)) 15 (.own 9 0 x38.length)) 16 (.val (.int .i64 s3_0))),Bo [] [some (.row 2 true (List.map Cp x35.1)),some (.row 3 true (List.map Ak x38))],10⟩) hy102 ?_ ?_ ?_
       ·exact Ab [8,9] RF.any.qo.qo.qv.qv (.nil _) (.ce (.ce (.nil _)))
       ·clear h hy102
        rintro s6_0 x h
        rw [Rx] at h
        refine AW.seq ?_
        obtain ⟨x97,hx97,h⟩:=bO h
        obtain ⟨hx97a,hx97b⟩:=ix_some.1 hx97
        refine Cb [12,15,16,17,75] fun K hK=>?_
        simp only [go_sem,seval,c42,eq_true c80,Ah hx97a,hx97b,Cm hx97b]
        subst hK
        rcases Aq h with ⟨c98,h⟩|⟨c98,h⟩
        ·refine Aj rfl c98<|AW.skip<|Aa<|AW.seq<|AW.block ?_
         obtain ⟨x99,hx99,h⟩:=bO h
         obtain ⟨hx99a,hx99b⟩:=ix_some.1 hx99
         obtain ⟨x100,hx100,h⟩:=bO h
         refine Cb [12,15,16,17,19] fun K hK=>?_
         simp only [go_sem,seval,c42,eq_true c80,eq_true c98,Ah hx97a,hx97b,Cm hx97b,Ah hx99a,hx99b]
         refine arC.of (ok20 x35.1 x99 x100 hx100) Tryz.call20 ?_
         simp only [go_sem,seval,c42,eq_true c80,eq_true c98,Ah hx97a,hx97b,Cm hx97b,Ah hx99a,hx99b]
         subst hK
         refine Cb [12,15,16,17,92] fun K hK=>?_
         simp only [go_sem,seval,c42,eq_true c80,eq_true c98]
         subst hK
         rcases Aq h with ⟨c101,h⟩|⟨c101,h⟩
         ·refine Bl rfl (by first|(rw [c101];rfl)|simp_all)<|AW.skip<|Ax<|Aa<|Bz [12,15,16,17] ?_
          refine Aa ?_
          refine ⟨_,oj h,?_⟩
          exact Ab [8,9] RF.any.qo.qo.qv.qv (.nil _) (.ce (.ce (.nil _)))
         ·rw [Bool.not_eq_true] at c101
          refine Bp rfl (by first|(rw [c101];rfl)|simp_all)<|Ao [4,5,6,7] ?_
          refine AW.ent (Av 4 3 (by decide) rfl) ?_
          refine AW.ret<|Bd<|Ad<|Ad ?_
          refine ⟨_,oj h,_,Ent.refl,rfl,?_⟩
          (simp only [go_sem,seval,c42,eq_true c80,eq_true c98,c101,Ay]<;>try simp)
        ·refine Ai rfl c98<|AW.exit<|Af<|Af ?_
         refine ⟨_,oj h,_,?_,rfl,rfl⟩
         exact Ab [8,9] RF.any.qo.qo.qv (.nil _) (.ce (.ce (.nil _)))
       ·intro e st' hX
        rcases y102 with y103|_<;>dsimp only at h hX
        ·obtain ⟨rfl,hf⟩:=hX
         refine ⟨_,Ent.refl,?_⟩
         refine Bd<|Bd<|Ad<|Ad ?_
         refine ⟨_,oj h,_,Ent.refl,rfl,?_⟩
         exact hf
        ·obtain ⟨rfl,rfl⟩:=hX
         refine ⟨_,Ent.refl,?_⟩
         refine Bc<|Ax<|Aa<|Bz [12,15,16] ?_
         refine Aa ?_
         refine ⟨_,oj h,?_⟩
         exact Ab [8,9] RF.any.qo.qo.qv (.nil _) (.ce (.ce (.nil _)))
      ·refine Ai rfl c80<|AW.exit<|Af<|Af ?_
       refine ⟨_,oj h,_,?_,rfl,rfl⟩
       exact Ab [9] RF.any.qo (.nil _) (.ce (.nil _))
     ·intro e st' hX
      rcases y104 with y105|_<;>dsimp only at h hX
      ·obtain ⟨rfl,hf⟩:=hX
       refine ⟨_,Ent.refl,?_⟩
       refine Bd<|Ad ?_
       obtain rfl:=oi h
       exact hf
      ·obtain ⟨rfl,rfl⟩:=hX
       refine ⟨_,Ent.refl,?_⟩
       refine Bc<|Aa<|Ao [4,5,6,7] ?_
       refine AW.ret ?_
       obtain rfl:=oi h
       (simp only [go_sem,seval,c42,Ay]<;>try simp)
    ·rw [Bool.not_eq_true] at c42
     refine Bp rfl (by first|(rw [c42];rfl)|simp_all)<|Ao [4,5,6,7] ?_
     refine AW.ent (Av 4 3 (by decide) rfl) ?_
     refine AW.ret<|Ad ?_
     obtain rfl:=oi h
     (simp only [go_sem,seval,c42,Ay]<;>try simp)
   ·refine Aj rfl c37<|Ac [4,5,6,7] ?_
    refine AW.ent (Av 4 3 (by decide) rfl) ?_
    refine AW.ret<|Ad ?_
    obtain rfl:=oi h
    (simp only [go_sem,seval,Ay]<;>try simp)
def Va (a:List (A2 (List Int))):Nat:=(a.map fun p=>p.e0.length+p.e1.length).sum
theorem sumL_take {a:List (A2 (List Int))} {i:Nat} (h:i<a.length):Va (a.take (i+1))=Va (a.take i)+(a[i].e0.length+a[i].e1.length):=by
 unfold Va
 rw [List.take_succ_eq_append_getElem h,List.map_append,List.sum_append];simp
structure Small (a:List (A2 (List Int))) (b:List Int):Prop where
 n:a.length≤8
 l0:∀p∈a,p.e0.length≤2500∧p.e1.length≤2500
 b0:∀p∈a,Byt p.e0∧Byt p.e1
 lb:b.length≤2500
 bb:Byt b
 tot:Va a≤2500
theorem f33_eq (s:ByteArray) (k:Int) {e:Int} (he:e≠0):f33 s k e=some (Er.slip s k (Er.no e)):=by
 simp only [f33,f44,if_neg he,Option.bind_some,f61]
 rfl
theorem reads_eq {a:List (A2 (List Int))} {b:List Int} (h:Small a b) :
  (∃e i,e≠0∧f30 a=some ([],Er.slip ⟨#[112,97,114,116]⟩ i (Er.no e))∧loopO (Ry a) ([],0)=some (.inl ([],e,⟨#[112,97,114,116]⟩,i))) ∨
  (∃ps J,loopO (Ry a) ([],0)=some (.inr ps)∧f30 a=some (J,Er.nil)∧f37 ps=some J∧SzB 2500 J∧J.length≤2500∧Srt Fy J):=by
 have hn:=h.n
 have key:∃r r',loopO (Vy a) ([],0)=some r∧loopO (Ry a) ([],0)=some r'∧((∃e i,e≠0∧r=.inl ([],Er.slip ⟨#[112,97,114,116]⟩ i (Er.no e))∧r'=.inl ([],e,⟨#[112,97,114,116]⟩,i))∨∃ps,r=.inr ps∧r'=.inr ps∧ps.length≤8∧ps.flatten.length≤2500∧∀p∈ps,SzB 2500 p):=by
  refine Dr (fun k s t=>s=t∧∃(i:Nat) (ps:List (List Res)),s=(ps,(i:Int))∧i≤a.length∧ps.length=i∧ps.flatten.length≤Va (a.take i)∧(∀p∈ps,SzB 2500 p)∧k=a.length-i) ?_ (k:=a.length) ⟨rfl,0,[],rfl,by omega,rfl,by simp,(fun p hp=>by cases hp),rfl⟩
  rintro k _ _ ⟨rfl,i,ps,rfl,hi,hpl,hpf,hps,hk⟩
  by_cases c:i<a.length
  ·obtain ⟨l0,l1⟩:=h.l0 _ (List.getElem_mem c)
   obtain ⟨b0,b1⟩:=h.b0 _ (List.getElem_mem c)
   obtain ⟨⟨m,e⟩,r1,r2,r3,r4⟩:=read_eq b0 b1 (by omega) (by omega)
   simp only at r3 r4
   by_cases he:e=0
   ·subst he
    have hap:Bq ps [m]=some (ps++[m]):=Ct (by omega) (by simp)
    refine .inl ⟨(ps++[m],((i+1:Nat):Int)),(ps++[m],((i+1:Nat):Int)),k-1,?_,?_,by omega,rfl,i+1,ps++[m],rfl,by omega,by simp [hpl],by rw [sumL_take c];simp only [List.flatten_append,List.flatten_cons,List.flatten_nil,List.append_nil,List.length_append];omega,fun p hp=>?_,by omega⟩
    ·simp only [Vy,if_pos (show (i:Int)<(a.length:Int) by omega),Ep c,Option.bind_some,r1,if_true,hap,Ch (show i≤10000000000 by omega)]
    ·simp only [Ry,if_pos (show (i:Int)<(a.length:Int) by omega),Ep c,Option.bind_some,r2,if_true,hap,Ch (show i≤10000000000 by omega)]
    ·rcases List.mem_append.1 hp with hp|hp
     ·exact hps p hp
     ·simp at hp;subst hp;exact r3.le l1
   ·refine .inr ⟨_,_,Al ?_,Al ?_,.inl ⟨e,(i:Int),he,rfl,rfl⟩⟩
    ·simp only [Vy,if_pos (show (i:Int)<(a.length:Int) by omega),Ep c,Option.bind_some,r1,if_neg he,f33_eq _ _ he]
    ·simp only [Ry,if_pos (show (i:Int)<(a.length:Int) by omega),Ep c,Option.bind_some,r2,if_neg he]
  ·refine .inr ⟨_,_,Al ?_,Al ?_,.inr ⟨ps,rfl,rfl,by omega,by rw [List.take_of_length_le (by omega)] at hpf;have:=h.tot;omega,hps⟩⟩
   ·simp only [Vy,if_neg (show ¬(i:Int)<(a.length:Int) by omega)]
   ·simp only [Ry,if_neg (show ¬(i:Int)<(a.length:Int) by omega)]
 obtain ⟨_,_,k1,k2,k3⟩:=key
 rcases k3 with ⟨e,i,he,rfl,rfl⟩|⟨ps,rfl,rfl,hpl,hfl,hps⟩
 ·exact .inl ⟨e,i,he,by simp only [f30,k1,Option.bind_some],k2⟩
 ·have hel:∀r∈ps.flatten,r.Key.size≤2500∧r.Offs.length≤1000000:=fun r hr=>by
   obtain ⟨p,hp,hr⟩:=List.mem_flatten.1 hr
   exact ⟨(hps p hp).key r hr,(hps p hp).off r hr⟩
  obtain ⟨J,j1,j2,j3⟩:=join_eq ps (by omega) (by omega) fun r hr=>⟨Nat.le_trans (hel r hr).1 (by decide),(hel r hr).2⟩
  have hmem:∀r∈J,r∈ps.flatten:=fun r hr=>j3.sf.mem swoI hr
  have hJl:=j3.len
  refine .inr ⟨ps,J,k2,by simp only [f30,k1,Option.bind_some,j1],j2,⟨by omega,fun r hr=>(hel r (hmem r hr)).1,fun r hr=>(hel r (hmem r hr)).2⟩,by omega,j3.srt⟩
theorem insM_mem (x:Int) (l:List Int) (y:Int):y∈insM x l↔y=x∨y∈l:=by
 unfold insM
 split
 ·rename_i h
  constructor
  ·exact .inr
  ·rintro (rfl|h')
   ·exact h
   ·exact h'
 ·simp [or_comm]
theorem offs_eq {L:List Record} {q:Int×Int} (hl:L.length≤1000000):∃m,loopO (f31_s1 (L,q)) ([],0)=some m∧∀o,o∈m↔∃r∈L,r.Off=o:=by
 refine Dv (fun n s=>∃(i:Nat) (m:List Int),s=(m,(i:Int))∧i≤L.length∧(∀o,o∈m↔∃r∈L.take i,r.Off=o)∧n=L.length-i) ?_ (k:=L.length) ⟨0,[],rfl,by omega,by simp,rfl⟩
 rintro n _ ⟨i,m,rfl,hi,hm,hn⟩
 by_cases c:i<L.length
 ·refine .inl ⟨(insM L[i].Off m,((i+1:Nat):Int)),n-1,?_,by omega,i+1,_,rfl,by omega,fun o=>?_,by omega⟩
  ·simp only [f31_s1,if_pos (show (i:Int)<((L.length:Nat):Int) by omega),Ep c,Option.bind_some,Ch (show i≤10000000000 by omega)]
  ·rw [insM_mem,hm,List.take_succ_eq_append_getElem c]
   constructor
   ·rintro (rfl|⟨r,hr,rfl⟩)
    ·exact ⟨L[i],List.mem_append_right _ (List.mem_singleton.2 rfl),rfl⟩
    ·exact ⟨r,List.mem_append_left _ hr,rfl⟩
   ·rintro ⟨r,hr,rfl⟩
    rcases List.mem_append.1 hr with hr|hr
    ·exact .inr ⟨r,hr,rfl⟩
    ·simp at hr;subst hr;exact .inl rfl
 ·refine .inr ⟨m,by simp only [f31_s1,if_neg (show ¬(i:Int)<((L.length:Nat):Int) by omega)],?_⟩
  rwa [List.take_of_length_le (by omega)] at hm
theorem which_eq (L:List Record) (hl:L.length≤1000000) (o:Int):(∃i:Nat,i<L.length∧f20 L o=some ((i:Int),true)∧∃r∈L,r.Off=o)∨(f20 L o=some (0,false)∧¬ ∃r∈L,r.Off=o):=by
 have key:∃r,loopO (Sw L o) 0=some r∧((∃i:Nat,i<L.length∧r=.inl ((i:Int),true)∧∃r∈L,r.Off=o)∨(r=.inr ()∧¬ ∃r∈L,r.Off=o)):=by
  refine Dv (fun n s=>∃(i:Nat),s=(i:Int)∧i≤L.length∧(∀r∈L.take i,r.Off≠o)∧n=L.length-i) ?_ (k:=L.length) ⟨0,rfl,by omega,by simp,rfl⟩
  rintro n _ ⟨i,rfl,hi,hm,hn⟩
  by_cases c:i<L.length
  ·by_cases e:L[i].Off=o
   ·exact .inr ⟨_,by simp only [Sw,if_pos (show (i:Int)<(L.length:Int) by omega),Ep c,Option.bind_some,if_pos e],.inl ⟨i,c,rfl,_,List.getElem_mem c,e⟩⟩
   ·refine .inl ⟨((i+1:Nat):Int),n-1,by simp only [Sw,if_pos (show (i:Int)<(L.length:Int) by omega),Ep c,Option.bind_some,if_neg e,Ch (show i≤10000000000 by omega)],by omega,i+1,rfl,by omega,fun r hr=>?_,by omega⟩
    rw [List.take_succ_eq_append_getElem c] at hr
    rcases List.mem_append.1 hr with hr|hr
    ·exact hm r hr
    ·simp at hr;subst hr;exact e
  ·refine .inr ⟨_,by simp only [Sw,if_neg (show ¬(i:Int)<(L.length:Int) by omega)],.inr ⟨rfl,?_⟩⟩
   rw [List.take_of_length_le (by omega)] at hm
   rintro ⟨r,hr,e⟩;exact hm r hr e
 obtain ⟨_,k1,k2⟩:=key
 rcases k2 with ⟨i,hi,rfl,hx⟩|⟨rfl,hx⟩
 ·exact .inl ⟨i,hi,by simp only [f20,k1,Option.bind_some],hx⟩
 ·exact .inr ⟨by simp only [f20,k1,Option.bind_some],hx⟩
theorem any_eq (l m:List Int) (hl:l.length≤1000000):∃v:Bool,Vx l m=some v∧(v=true↔∃o∈l,o∉m):=by
 have key:∃r,loopO (Lp l m) 0=some r∧((∃i:Nat,r=.inl (i:Int)∧∃o∈l,o∉m)∨(r=.inr ()∧¬ ∃o∈l,o∉m)):=by
  refine Dv (fun n s=>∃(i:Nat),s=(i:Int)∧i≤l.length∧(∀o∈l.take i,o∈m)∧n=l.length-i) ?_ (k:=l.length) ⟨0,rfl,by omega,by simp,rfl⟩
  rintro n _ ⟨i,rfl,hi,hm,hn⟩
  by_cases c:i<l.length
  ·by_cases e:l[i]∈m
   ·have hd:(!(decide (l[i]∈m)))=false:=by simp [e]
    refine .inl ⟨((i+1:Nat):Int),n-1,by simp only [Lp,if_pos (show (i:Int)<(l.length:Int) by omega),Ep c,Option.bind_some,f35,hd,Bool.false_eq_true,if_false,Ch (show i≤10000000000 by omega)],by omega,i+1,rfl,by omega,fun o ho=>?_,by omega⟩
    rw [List.take_succ_eq_append_getElem c] at ho
    rcases List.mem_append.1 ho with ho|ho
    ·exact hm o ho
    ·simp at ho;subst ho;exact e
   ·have hd:(!(decide (l[i]∈m)))=true:=by simp [e]
    exact .inr ⟨_,by simp only [Lp,if_pos (show (i:Int)<(l.length:Int) by omega),Ep c,Option.bind_some,f35,hd,if_true],.inl ⟨i,rfl,_,List.getElem_mem c,e⟩⟩
  ·refine .inr ⟨_,by simp only [Lp,if_neg (show ¬(i:Int)<(l.length:Int) by omega)],.inr ⟨rfl,?_⟩⟩
   rw [List.take_of_length_le (by omega)] at hm
   rintro ⟨o,ho,e⟩;exact e (hm o ho)
 obtain ⟨_,k1,k2⟩:=key
 rcases k2 with ⟨i,rfl,hx⟩|⟨rfl,hx⟩
 ·exact ⟨decide ((0:Int)≤(i:Int)),by simp only [Vx,f62_35,k1,Option.bind_some],by simp only [decide_eq_true_eq];exact ⟨fun _=>hx,fun _=>by omega⟩⟩
 ·exact ⟨decide ((0:Int) ≤ -1),by simp only [Vx,f62_35,k1,Option.bind_some],by simp only [decide_eq_true_eq];exact ⟨fun h=>by omega,fun h=>absurd h hx⟩⟩
theorem ref_offs {L:List Record} {q:Int×Int} (hl:L.length≤1000000) {J:List Res} {i:Nat} (hi:i<J.length) (ho:J[i].Offs.length≤1000000) :
  (loopO (Rx (L,q) J (i:Int)) 0=some (.inr ())∧∀o∈J[i].Offs,∃r∈L,r.Off=o)∨(loopO (Rx (L,q) J (i:Int)) 0=some (.inl ([],320,⟨#[107,101,121]⟩,(i:Int)))∧∃o∈J[i].Offs,¬ ∃r∈L,r.Off=o):=by
 have key:∃r,loopO (Rx (L,q) J (i:Int)) 0=some r∧((r=.inr ()∧∀o∈J[i].Offs,∃r∈L,r.Off=o)∨(r=.inl ([],320,⟨#[107,101,121]⟩,(i:Int))∧∃o∈J[i].Offs,¬ ∃r∈L,r.Off=o)):=by
  refine Dv (fun n s=>∃(k:Nat),s=(k:Int)∧k≤J[i].Offs.length∧(∀o∈J[i].Offs.take k,∃r∈L,r.Off=o)∧n=J[i].Offs.length-k) ?_ (k:=J[i].Offs.length) ⟨0,rfl,by omega,by simp,rfl⟩
  rintro n _ ⟨k,rfl,hk,hm,hn⟩
  by_cases c:k<J[i].Offs.length
  ·rcases which_eq L hl J[i].Offs[k] with ⟨w,_,w1,w2⟩|⟨w1,w2⟩
   ·refine .inl ⟨((k+1:Nat):Int),n-1,by simp only [Rx,Ep hi,Option.bind_some,if_pos (show (k:Int)<(J[i].Offs.length:Int) by omega),Ep c,w1,if_true,Ch (show k≤10000000000 by omega)],by omega,k+1,rfl,by omega,fun o ho=>?_,by omega⟩
    rw [List.take_succ_eq_append_getElem c] at ho
    rcases List.mem_append.1 ho with ho|ho
    ·exact hm o ho
    ·simp at ho;subst ho;exact w2
   ·exact .inr ⟨_,by simp only [Rx,Ep hi,Option.bind_some,if_pos (show (k:Int)<(J[i].Offs.length:Int) by omega),Ep c,w1,Bool.false_eq_true,if_false],.inr ⟨rfl,_,List.getElem_mem c,w2⟩⟩
  ·refine .inr ⟨_,by simp only [Rx,Ep hi,Option.bind_some,if_neg (show ¬(k:Int)<(J[i].Offs.length:Int) by omega)],.inl ⟨rfl,?_⟩⟩
   rwa [List.take_of_length_le (by omega)] at hm
 obtain ⟨_,k1,k2⟩:=key
 rcases k2 with ⟨rfl,h⟩|⟨rfl,h⟩
 ·exact .inl ⟨k1,h⟩
 ·exact .inr ⟨k1,h⟩
theorem open_eq {a:List (A2 (List Int))} {b:List Int} (h:Small a b) :
  (∃e st k,e≠0∧f8 a b=some (none,Er.slip st k (Er.no e))∧f9 a b=some ([],e,st,k)) ∨
  (∃J m L,f8 a b=some (some ⟨J,m⟩,Er.nil)∧f9 a b=some (J,0,⟨#[]⟩,0)∧SzB 2500 J∧J.length≤2500∧Srt Fy J∧Wu J∧f15 b=some (L,(b.length:Int),0)∧L.length≤2501∧(∀r∈L,0≤r.Off∧r.Off≤2500)∧(∀o,o∈m↔∃r∈L,r.Off=o)∧∀r∈J,∀o∈r.Offs,o∈m):=by
 have hlb:=h.lb
 rcases reads_eq h with ⟨e,i,he,p1,p2⟩|⟨ps,J,p1,p2,p3,p4,p5,p6⟩
 ·refine .inl ⟨e,⟨#[112,97,114,116]⟩,i,he,?_,?_⟩
  ·simp only [f8,p1,Option.bind_some,Er.isNil,Bool.false_eq_true,if_false]
  ·simp only [f9,p2,Option.bind_some]
 obtain ⟨L,l1,l2,l3,l4⟩:=records_eq h.bb (by omega)
 obtain ⟨m,m1,m2⟩:=offs_eq (L:=L) (q:=((b.length:Int),0)) (by omega)
 have e31:f31 b=some (m,Er.nil):=by simp only [f31,l1,Option.bind_some,if_true,m1]
 obtain ⟨v,v1,v2,v3⟩:=right_eq J (p4.le (by decide))
 have e8:f8 a b=(if v=true then ((loopO (f8_s2 (J,Er.nil) (m,Er.nil)) 0).bind fun y40=>match y40 with|.inl y41=>some y41|.inr _=>some ((some ⟨J,m⟩),Er.nil)) else ((f33 ⟨#[106,111,105,110]⟩ 0 3).bind fun x42=>some (none,x42))):=by
  simp only [f8,p2,Option.bind_some,Er.isNil,if_true,e31,v1]
  try rfl
 have e9:f9 a b=(if v=true then ((loopO (Tw (L,((b.length:Int),0)) J) 0).bind fun y104=>match y104 with|.inl y105=>some y105|.inr _=>some (J,0,⟨#[]⟩,0)) else some ([],3,⟨#[106,111,105,110]⟩,0)):=by
  simp only [f9,p1,Option.bind_some,l2,if_true,p3,v2]
  try rfl
 cases v with
 | false =>
  refine .inl ⟨3,⟨#[106,111,105,110]⟩,0,by decide,?_,?_⟩
  ·rw [e8,if_neg (by decide),f33_eq _ _ (by decide)];rfl
  ·rw [e9,if_neg (by decide)]
 | true =>
  have hR:=v3.1 rfl
  have key:∃r r',loopO (f8_s2 (J,Er.nil) (m,Er.nil)) 0=some r∧loopO (Tw (L,((b.length:Int),0)) J) 0=some r'∧((r=.inr ()∧r'=.inr ()∧∀x∈J,∀o∈x.Offs,o∈m)∨∃i:Nat,r=.inl (none,Er.slip ⟨#[107,101,121]⟩ (i:Int) (Er.no 320))∧r'=.inl ([],320,⟨#[107,101,121]⟩,(i:Int))):=by
   refine Dr (fun k s t=>s=t∧∃i:Nat,s=(i:Int)∧i≤J.length∧(∀x∈J.take i,∀o∈x.Offs,o∈m)∧k=J.length-i) ?_ (k:=J.length) ⟨rfl,0,rfl,by omega,by simp,rfl⟩
   rintro k _ _ ⟨rfl,i,rfl,hi,hm,hk⟩
   by_cases c:i<J.length
   ·have ho:=p4.off _ (List.getElem_mem c)
    obtain ⟨w,w1,w2⟩:=any_eq J[i].Offs m ho
    rcases ref_offs (L:=L) (q:=((b.length:Int),0)) (by omega) c ho with ⟨r1,r2⟩|⟨r1,r2⟩
    ·have hw:w=false:=by
      cases w with
      | false=>rfl
      | true =>
       obtain ⟨o,o1,o2⟩:=w2.1 rfl
       exact absurd ((m2 o).2 (r2 o o1)) o2
     subst hw
     refine .inl ⟨((i+1:Nat):Int),((i+1:Nat):Int),k-1,?_,?_,by omega,rfl,i+1,rfl,by omega,fun x hx=>?_,by omega⟩
     ·simp only [f8_s2,if_pos (show (i:Int)<((J.length:Nat):Int) by omega),Ep c,Option.bind_some,w1,Bool.false_eq_true,if_false,Ch (show i≤10000000000 by omega)]
     ·simp only [Tw,if_pos (show (i:Int)<((J.length:Nat):Int) by omega),r1,Option.bind_some,Ch (show i≤10000000000 by omega)]
     ·rw [List.take_succ_eq_append_getElem c] at hx
      rcases List.mem_append.1 hx with hx|hx
      ·exact hm x hx
      ·simp at hx;subst hx;exact fun o h'=>(m2 o).2 (r2 o h')
    ·have hw:w=true:=by
      obtain ⟨o,o1,o2⟩:=r2
      exact w2.2 ⟨o,o1,fun h'=>o2 ((m2 o).1 h')⟩
     subst hw
     refine .inr ⟨_,_,Al ?_,Al ?_,.inr ⟨i,rfl,rfl⟩⟩
     ·simp only [f8_s2,if_pos (show (i:Int)<((J.length:Nat):Int) by omega),Ep c,Option.bind_some,w1,if_true,f33_eq _ _ (show (320:Int)≠0 by decide)]
     ·simp only [Tw,if_pos (show (i:Int)<((J.length:Nat):Int) by omega),r1,Option.bind_some]
   ·refine .inr ⟨_,_,Al ?_,Al ?_,.inl ⟨rfl,rfl,?_⟩⟩
    ·simp only [f8_s2,if_neg (show ¬(i:Int)<((J.length:Nat):Int) by omega)]
    ·simp only [Tw,if_neg (show ¬(i:Int)<((J.length:Nat):Int) by omega)]
    ·rwa [List.take_of_length_le (by omega)] at hm
  obtain ⟨_,_,k1,k2,k3⟩:=key
  rcases k3 with ⟨rfl,rfl,k4⟩|⟨i,rfl,rfl⟩
  ·refine .inr ⟨J,m,L,?_,?_,p4,p5,p6,hR,l2,by omega,(fun r hr=>by have:=l4 r hr;omega),m2,k4⟩
   ·rw [e8,if_pos rfl,k1];rfl
   ·rw [e9,if_pos rfl,k2];rfl
  ·refine .inl ⟨320,⟨#[107,101,121]⟩,(i:Int),by decide,?_,?_⟩
   ·rw [e8,if_pos rfl,k1];rfl
   ·rw [e9,if_pos rfl,k2];rfl
def f21_s1 (a0:List Int) (a1:List Int):Int→Option (Int⊕(Bool⊕Unit))
  | s1_0=>(if s1_0<(a0.length:Int) then ((ix a0 s1_0).bind fun x15=>((ix a1 s1_0).bind fun x16=>(if x15=x16 then some (.inl (IntKind.i64.wrap (s1_0+1))) else some (.inr (.inl false))))) else some (.inr (.inr ())))
def f21 (a0:List Int) (a1:List Int):Option Bool:=(if (a0.length:Int)=(a1.length:Int) then ((loopO (f21_s1 a0 a1) 0).bind fun y18=>match y18 with|.inl y19=>some y19|.inr _=>some true) else some false)
theorem ok21 (a0:List Int) (a1:List Int) (r:Bool) (h:f21 a0 a1=some r):PC Tryz.prog 21 [.sl (List.map Bk a0),.sl (List.map Bk a1)] (.val (.bool r)):=by
 rw [f21] at h
 refine Bi (N:=26) (rs:=[.tmp 4]) Tryz.func21 ?_
 refine Ac [0,1] ?_
 refine AW.seq<|Ac [0,1,10] ?_
 rcases Aq h with ⟨c2,h⟩|⟨c2,h⟩
 ·refine Ai rfl (fun q=>q c2) ?_
  refine AW.skip<|Aa<|AW.seq<|Ac [0,1,5] ?_
  refine AW.block ?_
  obtain ⟨y18,hy18,h⟩:=bO h
  refine AW.loopO (fun s=>⟨(Ag (Ag (Ag Az 0 (.sl (List.map Bk a0))) 1 (.sl (List.map Bk a1))) 5 (.val (.int .i64 s))),Bo [] [],8⟩) (fun y e st'=>match y with|.inl z=>e=Exit.ret∧Ay Tryz.prog [.tmp 4] (.val (.bool z)) .ret st'|.inr z=>e=Exit.exit 0∧st'=⟨Az,Bo [] [],8⟩) hy18 ?_ ?_ ?_
  ·exact Bg RF.any.qv.qv.qv
  ·clear h hy18
   rintro s1_0 x h
   rw [f21_s1] at h
   refine AW.seq<|Ac [0,1,5,14] ?_
   rcases Aq h with ⟨c14,h⟩|⟨c14,h⟩
   ·refine Aj rfl c14<|AW.skip<|Aa<|AW.seq<|AW.block ?_
    obtain ⟨x15,hx15,h⟩:=bO h
    obtain ⟨hx15a,hx15b⟩:=ix_some.1 hx15
    obtain ⟨x16,hx16,h⟩:=bO h
    obtain ⟨hx16a,hx16b⟩:=ix_some.1 hx16
    refine Dm [0,1,5,25] [0,0,3,7,0,0,48,112,255] ?_
    generalize hK:AW Tryz.prog _ _ _=K
    simp only [go_sem,seval,Ah hx15a,hx15b,Ah hx16a,hx16b]
    subst hK
    rcases Aq h with ⟨c17,h⟩|⟨c17,h⟩
    ·refine Ai rfl (fun q=>q c17)<|AW.skip<|Ax<|Aa<|Cd [0,1,5] ?_
     refine Aa ?_
     refine ⟨_,oj h,?_⟩
     exact Bg RF.any.qv.qv.qv
    ·refine Aj rfl c17<|Ac [4] ?_
     refine AW.ret<|Bd<|Ad<|Ad ?_
     refine ⟨_,oj h,_,Ent.refl,rfl,?_⟩
     (simp only [go_sem,seval,Ay]<;>try simp)
   ·refine Ai rfl c14<|AW.exit<|Af<|Af ?_
    refine ⟨_,oj h,_,?_,rfl,rfl⟩
    exact Bg RF.any
  ·intro e st' hX
   rcases y18 with y19|_<;>dsimp only at h hX
   ·obtain ⟨rfl,hf⟩:=hX
    refine ⟨_,Ent.refl,?_⟩
    refine Bd<|Ad ?_
    obtain rfl:=oi h
    exact hf
   ·obtain ⟨rfl,rfl⟩:=hX
    refine ⟨_,Ent.refl,?_⟩
    refine Bc<|Aa<|Ac [4] ?_
    refine AW.ret ?_
    obtain rfl:=oi h
    (simp only [go_sem,seval,Ay]<;>try simp)
 ·refine Aj rfl c2<|Ac [4] ?_
  refine AW.ret<|Ad ?_
  obtain rfl:=oi h
  (simp only [go_sem,seval,Ay]<;>try simp)
def f92_s1 (a0:List Res):(List Pair)×Int→Option (((List Pair)×Int)⊕(List Pair))
  | (s1_0,s1_1)=>(if s1_1<(a0.length:Int) then ((ix a0 s1_1).bind fun x10=>((Bq s1_0 [⟨x10.Key,x10.Val⟩]).bind fun x11=>some (.inl (x11,IntKind.i64.wrap (s1_1+1))))) else some (.inr s1_0))
def f92 (a0:List Res):Option (List Pair):=((loopO (f92_s1 a0) ([],0)).bind fun y13=>some y13)
theorem ok92 (a0:List Res) (r:(List Pair)) (h:f92 a0=some r):PC Tryz.prog 92 [.sl (List.map Ak a0)] (.fr 2 (List.map Ca r)):=by
 rw [f92] at h
 refine Bi (N:=26) (rs:=[.tmp 2]) Tryz.func92 ?_
 refine Ac [0] ?_
 refine Ac [0,3] ?_
 refine AW.seq<|Ac [0,3,4] ?_
 refine AW.block ?_
 obtain ⟨y13,hy13,h⟩:=bO h
 refine AW.loopO (fun s=>⟨(Ag (Ag (Ag Az 0 (.sl (List.map Ak a0))) 3 (.own 8 0 s.1.length)) 4 (.val (.int .i64 s.2))),Bo [] [some (.row 2 true (List.map Ca s.1))],9⟩) (fun z e st'=>e=Exit.exit 0∧st'=⟨(Ag Az 3 (.own 8 0 z.length)),Bo [] [some (.row 2 true (List.map Ca z))],9⟩) hy13 ?_ ?_ ?_
 ·refine Ent.trans (Av 3 2 (by decide) rfl) ?_
  exact Ab [32] RF.any.qv.qo.qv (.nil _) (.ce (.nil _))
 ·clear h hy13
  rintro ⟨s1_0,s1_1⟩ x h
  rw [f92_s1] at h
  refine AW.seq<|Ac [0,3,4,8] ?_
  rcases Aq h with ⟨c9,h⟩|⟨c9,h⟩
  ·refine Aj rfl c9<|AW.skip<|Aa<|AW.seq<|AW.block ?_
   obtain ⟨x10,hx10,h⟩:=bO h
   obtain ⟨hx10a,hx10b⟩:=ix_some.1 hx10
   obtain ⟨x11,hx11,h⟩:=bO h
   obtain ⟨hx11b,hx11e⟩:=appO?_some.1 hx11
   have hx11f:∀id o:Nat,Dw 2 32 id ([[.val (.string x10.Key),.val (.string x10.Val)]]) 0 s1_0.length o (some (.row 2 true (List.map Ca s1_0)))=some ⟨.own id 0 x11.length,[(o,none),(id,some (.row 2 true (List.map Ca x11)))]⟩:=fun id o=>by
     subst hx11e;rw [Bw (by simp) (by simpa using hx11b) (by decide)];first|(simp [Ca];done)|(simp [Ca];omega)
   refine Nt [0,3,4] [0,0,0,6,14,30,0,0,192,448,960,2046,4094,8191,16383] ?_
   generalize hK:Dk _ _ Exit.normal=K
   simp only [go_sem,seval,Ah hx10a,hx10b,hx11f]
   subst hK
   refine Ax<|Aa<|Cd [0,3,4] ?_
   refine Aa ?_
   refine ⟨_,oj h,?_⟩
   exact Ab [145] RF.any.qv.qo.qv (.nil _) (.ce (.nil _))
  ·refine Ai rfl c9<|AW.exit<|Af<|Af ?_
   refine ⟨_,oj h,_,?_,rfl,rfl⟩
   exact Ab [8] RF.any.qo (.nil _) (.ce (.nil _))
 ·intro e st' hX
  try dsimp only at h
  try dsimp only at hX
  obtain ⟨rfl,rfl⟩:=hX
  refine ⟨_,Ent.refl,?_⟩
  refine Bc<|Aa<|Ac [2] ?_
  refine AW.ret ?_
  obtain rfl:=oi h
  (simp only [go_sem,seval,Ay]<;>try simp)
def f91_s1 (a0:List Pair):(List Int)×Int→Option (((List Int)×Int)⊕(List Int))
  | (s1_0,s1_1)=>(if s1_1<(a0.length:Int) then ((ix a0 s1_1).bind fun x18=>((f51 x18.Key).bind fun x19=>((Bq s1_0 x19).bind fun x20=>((f51 x18.Val).bind fun x21=>((Bq x20 x21).bind fun x22=>some (.inl (x22,IntKind.i64.wrap (s1_1+1)))))))) else some (.inr s1_0))
def f91 (a0:List Pair):Option (List Int):=((f88 (IntKind.u64.wrap (a0.length:Int))).bind fun x1=>((loopO (f91_s1 a0) (x1,0)).bind fun y24=>some y24))
theorem ok91 (a0:List Pair) (r:(List Int)) (h:f91 a0=some r):PC Tryz.prog 91 [.sl (List.map Ca a0)] (.fr 1 (List.map Aw r)):=by
 rw [f91] at h
 refine Bi (N:=31) (rs:=[.tmp 2]) Tryz.func91 ?_
 refine Ac [0] ?_
 obtain ⟨x1,hx1,h⟩:=bO h
 refine Bx [0,3] (ok88 (IntKind.u64.wrap (a0.length:Int)) x1 hx1) Tryz.call88 ?_
 refine AW.seq<|Ac [0,3,4] ?_
 refine AW.block ?_
 obtain ⟨y24,hy24,h⟩:=bO h
 refine AW.loopO (fun s=>⟨(Ag (Ag (Ag Az 0 (.sl (List.map Ca a0))) 3 (.own 8 0 s.1.length)) 4 (.val (.int .i64 s.2))),Bo [] [some (.row 1 true (List.map Aw s.1))],9⟩) (fun z e st'=>e=Exit.exit 0∧st'=⟨(Ag Az 3 (.own 8 0 z.length)),Bo [] [some (.row 1 true (List.map Aw z))],9⟩) hy24 ?_ ?_ ?_
 ·exact Ab [40] RF.any.qv.qo.qv (.nil _) (.ce (.nil _))
 ·clear h hy24
  rintro ⟨s1_0,s1_1⟩ x h
  rw [f91_s1] at h
  refine AW.seq<|Ac [0,3,4,12] ?_
  rcases Aq h with ⟨c17,h⟩|⟨c17,h⟩
  ·refine Aj rfl c17<|AW.skip<|Aa<|AW.seq<|AW.block ?_
   obtain ⟨x18,hx18,h⟩:=bO h
   obtain ⟨hx18a,hx18b⟩:=ix_some.1 hx18
   obtain ⟨x19,hx19,h⟩:=bO h
   obtain ⟨x20,hx20,h⟩:=bO h
   obtain ⟨hx20b,hx20e⟩:=appO?_some.1 hx20
   have hx20f:∀id o:Nat,Dw 1 1 id (List.map Aw x19) 0 s1_0.length o (some (.row 1 true (List.map Aw s1_0)))=some ⟨.own id 0 x20.length,[(o,none),(id,some (.row 1 true (List.map Aw x20)))]⟩:=fun id o=>by
     subst hx20e;rw [Bw (by simp) (by simpa using hx20b) (by decide)];first|(simp [Aw];done)|(simp [Aw];omega)
   obtain ⟨x21,hx21,h⟩:=bO h
   obtain ⟨x22,hx22,h⟩:=bO h
   obtain ⟨hx22b,hx22e⟩:=appO?_some.1 hx22
   have hx22f:∀id o:Nat,Dw 1 1 id (List.map Aw x21) 0 x20.length o (some (.row 1 true (List.map Aw x20)))=some ⟨.own id 0 x22.length,[(o,none),(id,some (.row 1 true (List.map Aw x22)))]⟩:=fun id o=>by
     subst hx22e;rw [Bw (by simp) (by simpa using hx22b) (by decide)];first|(simp [Aw];done)|(simp [Aw];omega)
   refine Nt [0,3,4] [0,0,0,6,14,30,62,127,0,0,768,1792,3840,8191,16383,32767] ?_
   generalize hK:Dk _ _ Exit.normal=K
   simp only [go_sem,seval,Ah hx18a,hx18b,hx20f,hx22f]
   refine Em (ok51 x18.Key x19 hx19) Tryz.call51 El (by simp only [go_sem,seval,Ah hx18a,hx18b,hx20f,hx22f]) (by simp only [go_sem,seval]) ?_
   simp only [go_sem,seval,Ah hx18a,hx18b,hx20f,hx22f]
   refine Em (ok51 x18.Val x21 hx21) Tryz.call51 El (by simp only [go_sem,seval,Ah hx18a,hx18b,hx20f,hx22f]) (by simp only [go_sem,seval]) ?_
   simp only [go_sem,seval,Ah hx18a,hx18b,hx20f,hx22f]
   subst hK
   refine Ax<|Aa<|Cd [0,3,4] ?_
   refine Aa ?_
   refine ⟨_,oj h,?_⟩
   exact Ab [153] RF.any.qv.qo.qv (.nil _) (.ce (.nil _))
  ·refine Ai rfl c17<|AW.exit<|Af<|Af ?_
   refine ⟨_,oj h,_,?_,rfl,rfl⟩
   exact Ab [8] RF.any.qo (.nil _) (.ce (.nil _))
 ·intro e st' hX
  try dsimp only at h
  try dsimp only at hX
  obtain ⟨rfl,rfl⟩:=hX
  refine ⟨_,Ent.refl,?_⟩
  refine Bc<|Aa<|Ac [2] ?_
  refine AW.ret ?_
  obtain rfl:=oi h
  (simp only [go_sem,seval,Ay]<;>try simp)
def f90 (a0:List Int):Option (List Int):=((f88 (IntKind.u64.wrap (a0.length:Int))).bind fun x1=>((Bq x1 a0).bind fun x2=>((f100 x2).bind fun x3=>some x3)))
theorem ok90 (a0:List Int) (r:(List Int)) (h:f90 a0=some r):PC Tryz.prog 90 [.sl (List.map Aw a0)] (.fr 1 (List.map Aw r)):=by
 rw [f90] at h
 refine Bi (N:=10) (rs:=[.tmp 2]) Tryz.func90 ?_
 refine Ac [0] ?_
 obtain ⟨x1,hx1,h⟩:=bO h
 obtain ⟨x2,hx2,h⟩:=bO h
 obtain ⟨hx2b,hx2e⟩:=appO?_some.1 hx2
 have hx2f:∀id o:Nat,Dw 1 1 id (List.map Aw a0) 0 x1.length o (some (.row 1 true (List.map Aw x1)))=some ⟨.own id 0 x2.length,[(o,none),(id,some (.row 1 true (List.map Aw x2)))]⟩:=fun id o=>by
   subst hx2e;rw [Bw (by simp) (by simpa using hx2b) (by decide)];first|(simp [Aw];done)|(simp [Aw];omega)
 obtain ⟨x3,hx3,h⟩:=bO h
 refine Cb [2] fun K hK=>?_
 simp only [go_sem,seval,hx2f]
 refine arC.of (ok88 (IntKind.u64.wrap (a0.length:Int)) x1 hx1) Tryz.call88 ?_
 simp only [go_sem,seval,hx2f]
 refine arC.of (ok100 x2 x3 hx3) Tryz.call100 ?_
 simp only [go_sem,seval,hx2f]
 subst hK
 refine AW.ret ?_
 obtain rfl:=oi h
 (simp only [go_sem,seval,Ay]<;>try simp)
def f93_s1 (a0:List Res):(List Int)×Int→Option (((List Int)×Int)⊕(List Int))
  | (s1_0,s1_1)=>(if s1_1<(a0.length:Int) then ((ix a0 s1_1).bind fun x20=>((f51 x20.Key).bind fun x21=>((Bq s1_0 x21).bind fun x22=>((f52 x20.Offs).bind fun x23=>((f51 (strOfNums x23)).bind fun x24=>((Bq x22 x24).bind fun x25=>some (.inl (x25,IntKind.i64.wrap (s1_1+1))))))))) else some (.inr s1_0))
def f93 (a0:List Res):Option (List Int):=((f88 (IntKind.u64.wrap (a0.length:Int))).bind fun x1=>((loopO (f93_s1 a0) (x1,0)).bind fun y27=>some y27))
theorem ok93 (a0:List Res) (r:(List Int)) (h:f93 a0=some r):PC Tryz.prog 93 [.sl (List.map Ak a0)] (.fr 1 (List.map Aw r)):=by
 rw [f93] at h
 refine Bi (N:=33) (rs:=[.tmp 2]) Tryz.func93 ?_
 refine Ac [0] ?_
 obtain ⟨x1,hx1,h⟩:=bO h
 refine Bx [0,3] (ok88 (IntKind.u64.wrap (a0.length:Int)) x1 hx1) Tryz.call88 ?_
 refine AW.seq<|Ac [0,3,4] ?_
 refine AW.block ?_
 obtain ⟨y27,hy27,h⟩:=bO h
 refine AW.loopO (fun s=>⟨(Ag (Ag (Ag Az 0 (.sl (List.map Ak a0))) 3 (.own 8 0 s.1.length)) 4 (.val (.int .i64 s.2))),Bo [] [some (.row 1 true (List.map Aw s.1))],9⟩) (fun z e st'=>e=Exit.exit 0∧st'=⟨(Ag Az 3 (.own 8 0 z.length)),Bo [] [some (.row 1 true (List.map Aw z))],9⟩) hy27 ?_ ?_ ?_
 ·exact Ab [40] RF.any.qv.qo.qv (.nil _) (.ce (.nil _))
 ·clear h hy27
  rintro ⟨s1_0,s1_1⟩ x h
  rw [f93_s1] at h
  refine AW.seq<|Ac [0,3,4,12] ?_
  rcases Aq h with ⟨c19,h⟩|⟨c19,h⟩
  ·refine Aj rfl c19<|AW.skip<|Aa<|AW.seq<|AW.block ?_
   obtain ⟨x20,hx20,h⟩:=bO h
   obtain ⟨hx20a,hx20b⟩:=ix_some.1 hx20
   obtain ⟨x21,hx21,h⟩:=bO h
   obtain ⟨x22,hx22,h⟩:=bO h
   obtain ⟨hx22b,hx22e⟩:=appO?_some.1 hx22
   have hx22f:∀id o:Nat,Dw 1 1 id (List.map Aw x21) 0 s1_0.length o (some (.row 1 true (List.map Aw s1_0)))=some ⟨.own id 0 x22.length,[(o,none),(id,some (.row 1 true (List.map Aw x22)))]⟩:=fun id o=>by
     subst hx22e;rw [Bw (by simp) (by simpa using hx22b) (by decide)];first|(simp [Aw];done)|(simp [Aw];omega)
   obtain ⟨x23,hx23,h⟩:=bO h
   obtain ⟨x24,hx24,h⟩:=bO h
   obtain ⟨x25,hx25,h⟩:=bO h
   obtain ⟨hx25b,hx25e⟩:=appO?_some.1 hx25
   have hx25f:∀id o:Nat,Dw 1 1 id (List.map Aw x24) 0 x22.length o (some (.row 1 true (List.map Aw x22)))=some ⟨.own id 0 x25.length,[(o,none),(id,some (.row 1 true (List.map Aw x25)))]⟩:=fun id o=>by
     subst hx25e;rw [Bw (by simp) (by simpa using hx25b) (by decide)];first|(simp [Aw];done)|(simp [Aw];omega)
   refine Nt [0,3,4] [0,0,0,6,14,30,62,127,0,0,768,1792,3840,8191,16383,32767,65535,131071] ?_
   generalize hK:Dk _ _ Exit.normal=K
   simp only [go_sem,seval,Ah hx20a,hx20b,hx22f,Ce (enc:=Aw) (fun _=>rfl),hx25f]
   refine Em (ok51 x20.Key x21 hx21) Tryz.call51 El (by simp only [go_sem,seval,Ah hx20a,hx20b,hx22f,Ce (enc:=Aw) (fun _=>rfl),hx25f]) (by simp only [go_sem,seval]) ?_
   simp only [go_sem,seval,Ah hx20a,hx20b,hx22f,Ce (enc:=Aw) (fun _=>rfl),hx25f]
   refine Em (ok52 x20.Offs x23 hx23) Tryz.call52 El (by simp only [go_sem,seval,Ah hx20a,hx20b,hx22f,Ce (enc:=Aw) (fun _=>rfl),hx25f]) (by simp only [go_sem,seval]) ?_
   simp only [go_sem,seval,Ah hx20a,hx20b,hx22f,Ce (enc:=Aw) (fun _=>rfl),hx25f]
   refine Em (ok51 (strOfNums x23) x24 hx24) Tryz.call51 El (by simp only [go_sem,seval,Ah hx20a,hx20b,hx22f,Ce (enc:=Aw) (fun _=>rfl),hx25f]) (by simp only [go_sem,seval]) ?_
   simp only [go_sem,seval,Ah hx20a,hx20b,hx22f,Ce (enc:=Aw) (fun _=>rfl),hx25f]
   subst hK
   refine Ax<|Aa<|Cd [0,3,4] ?_
   refine Aa ?_
   refine ⟨_,oj h,?_⟩
   exact Ab [169] RF.any.qv.qo.qv (.nil _) (.ce (.nil _))
  ·refine Ai rfl c19<|AW.exit<|Af<|Af ?_
   refine ⟨_,oj h,_,?_,rfl,rfl⟩
   exact Ab [8] RF.any.qo (.nil _) (.ce (.nil _))
 ·intro e st' hX
  try dsimp only at h
  try dsimp only at hX
  obtain ⟨rfl,rfl⟩:=hX
  refine ⟨_,Ent.refl,?_⟩
  refine Bc<|Aa<|Ac [2] ?_
  refine AW.ret ?_
  obtain rfl:=oi h
  (simp only [go_sem,seval,Ay]<;>try simp)
def f55 (a0:List Res):Option ((List Int)×(List Int)):=((f92 a0).bind fun x1=>((f91 x1).bind fun x2=>((f90 x2).bind fun x3=>((f93 a0).bind fun x4=>((f90 x4).bind fun x5=>some (x3,x5))))))
theorem ok55 (a0:List Res) (r:(List Int)×(List Int)) (h:f55 a0=some r):PC Tryz.prog 55 [.sl (List.map Ak a0)] (.tup [.fr 1 (List.map Aw r.1),.fr 1 (List.map Aw r.2)]):=by
 rw [f55] at h
 refine Bi (N:=11) (rs:=[.tmp 2,.tmp 3]) Tryz.func55 ?_
 refine Ac [0] ?_
 obtain ⟨x1,hx1,h⟩:=bO h
 obtain ⟨x2,hx2,h⟩:=bO h
 obtain ⟨x3,hx3,h⟩:=bO h
 obtain ⟨x4,hx4,h⟩:=bO h
 obtain ⟨x5,hx5,h⟩:=bO h
 refine Cb [2,3] fun K hK=>?_
 simp only [go_sem,seval]
 refine arC.of (ok92 a0 x1 hx1) Tryz.call92 ?_
 simp only [go_sem,seval]
 refine arC.of (ok91 x1 x2 hx2) Tryz.call91 ?_
 simp only [go_sem,seval]
 refine arC.of (ok90 x2 x3 hx3) Tryz.call90 ?_
 simp only [go_sem,seval]
 refine arC.of (ok93 a0 x4 hx4) Tryz.call93 ?_
 simp only [go_sem,seval]
 refine arC.of (ok90 x4 x5 hx5) Tryz.call90 ?_
 simp only [go_sem,seval]
 subst hK
 refine AW.ret ?_
 obtain rfl:=oi h
 (simp only [go_sem,seval,Ay]<;>try simp)
def f29 (a0:List Res):Option (List (A2 (List Int))):=((f55 a0).bind fun x1=>some [⟨x1.1,x1.2⟩])
theorem ok29 (a0:List Res) (r:(List (A2 (List Int)))) (h:f29 a0=some r):PC Tryz.prog 29 [.sl (List.map Ak a0)] (.fr 2 (List.map Md r)):=by
 rw [f29] at h
 refine Bi (N:=14) (rs:=[.tmp 2]) Tryz.func29 ?_
 refine Ac [0] ?_
 obtain ⟨x1,hx1,h⟩:=bO h
 refine Bx [3,4] (ok55 a0 x1 hx1) Tryz.call55 ?_
 refine AW.ent (Ent.still 3 rfl (Fg (sz:=1) (m:=true) rfl (by first|rfl|simp [Ar]) (by simp only [go_sem]))) ?_
 refine AW.ent (Ent.still 4 rfl (Fg (sz:=1) (m:=true) rfl (by first|rfl|simp [Ar]) (by simp only [go_sem]))) ?_
 refine Ac [2] ?_
 refine AW.ret ?_
 obtain rfl:=oi h
 (simp only [go_sem,seval,Ay]<;>try simp)
end Au
end Go.Proofs.Yt
