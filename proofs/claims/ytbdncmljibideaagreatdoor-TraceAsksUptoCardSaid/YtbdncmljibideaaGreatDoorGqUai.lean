import Derived.Test.YtbdncmljibideaaGreatDoorGqUah
import Derived.Test.YtbdncmljibideaaGreatDoorGqUae
set_option linter.all false
noncomputable section
set_option maxRecDepth 8000
set_option maxHeartbeats 1000000
namespace Go.Proofs.Yt
open Go.Gm Go.Gm.Two
namespace Au
def Lw:Code→Option (Code×Code)
  | .rangeFunc _ _ a b=>some (a,b)
  | .seq x y=>match Lw x with
    | some r=>some r
    | none=>Lw y
  | .block _ c=>Lw c
  | _=>none
def Ye (l:List Record):Am:=Bo [some (.row 1 true [[.own 8 0 l.length]]),some (.row 1 true [[.val (.int .i64 0)]]),some (.row 1 true [[.val (.int .i64 0)]])] [some (.row 2 true (l.map Cp))]
def frR (b:List Int):Nat→AV:=Ag (Ag (Ag (Ag (Ag Az 0 (.sl (b.map Aw))) 2 (.ptr 0 0 0)) 3 (.ptr 1 0 0)) 4 (.ptr 2 0 0)) 11 (.clo (.func 124) [] [.ip [.sl (b.map Aw)]])
theorem round_aw (A B:Code) (hcode:Lw Tryz.f57.body.get!=some (A,B)) (b line:List Int) (at_:Int) (l:List Record) (h1:¬ 65536<(line.length:Int)) (h2:¬(65536:Int)≤(l.length:Int)) (hadd:Bq l [⟨at_,strOfNums line⟩]=some (l++[⟨at_,strOfNums line⟩])) :
    AW Tryz.prog 34 A (fun e s1=>e=.normal∧8≤s1.nx∧AW Tryz.prog 34 B (fun e s2=>e=.normal∧s2.hp=Ye (l++[⟨at_,strOfNums line⟩])∧s2.nx=9) s1) ⟨Ag (Ag (frR b) 12 (.val (.int .i64 at_))) 13 (.sl (line.map Aw)),Ye l,9⟩:=by
 obtain ⟨rfl,rfl⟩:=Prod.mk.inj (Option.some.inj (hcode.symm.trans rfl))
 unfold frR Ye
 refine AW.seq ?_
 refine Cd [0,2,3,4,5,13] ?_
 refine Aa ?_
 refine Cd [0,2,3,4,5,6] ?_
 refine ⟨rfl,by simp,?_⟩
 refine AW.toK (K:=fun s=>s.hp=Ye (l++[⟨at_,strOfNums line⟩])∧s.nx=9) ?_
 refine AW.block ?_
 refine AW.seq ?_
 refine AW.block ?_
 refine Ao [0,2,3,4,5,6,14] ?_
 refine Bl rfl rfl ?_
 refine Ao [0,2,3,4,5,6,19] ?_
 refine Bl rfl rfl ?_
 refine AW.skip ?_
 refine Ax ?_
 refine Aa ?_
 have hap:Bq l [⟨at_,strOfNums line⟩]=some (l++[⟨at_,strOfNums line⟩]):=hadd
 have hf:∀id o:Nat,Dw 2 24 id ([[.val (.int .i64 at_),.val (.string (strOfNums line))]]) 0 l.length o (some (.row 2 true (List.map Cp l)))=some ⟨.own id 0 (l++[(⟨at_,strOfNums line⟩:Record)]).length,[(o,none),(id,some (.row 2 true (List.map Cp (l++[⟨at_,strOfNums line⟩]))))]⟩:=fun id o=>by
   rw [Bw (by simp) (by simpa using (appO?_some.1 hap).1) (by decide)];simp [Cp]
 refine Dq [0,2,3,4] fun K hK=>?_
 simp only [go_sem,seval,hf,Ce (enc:=Aw) (fun _=>rfl)]
 subst hK
 refine Ax ?_
 refine ⟨rfl,⟨Az,Ye (l++[⟨at_,strOfNums line⟩]),9⟩,?_,rfl,rfl⟩
 unfold Ye
 refine Bu [137] _ _ _ rfl (by first|decide|simp) rfl RF.any (.cons (.tok (by simp [Bn,By,Cy]) (by simp [Ae,Ap,Cv,Bh,Bb])) (.cons (.eq (by simp only [go_sem]) (by simp [Ae,Ap,Cv])) (.cons (.eq (by simp only [go_sem]) (by simp [Ae,Ap,Cv])) (.nil _)))) (.cons (.eq (by simp only [go_sem]) (by simp [Ae,Ap,Cv])) (.nil _))
def RFl (m:Nat) (fr fr':Nat→AV):Prop:=∀q,Bn m (fr' q)=true∧(fr' q=.any∨Weak (fr q) (fr' q))
theorem RFl.any {m:Nat} {fr:Nat→AV}:RFl m fr Az:=fun _=>⟨by simp [Az,Bn],.inl rfl⟩
theorem RFl.put {m:Nat} {fr fr':Nat→AV} {q:Nat} {v:AV} (h:RFl m fr fr') (ht:Bn m v=true) (hv:fr q=v):RFl m fr (Ag fr' q v):=fun q'=>by
  simp only [Ag];split
  · rename_i e;subst e;exact ⟨ht,.inr (.of hv)⟩
  · exact h q'
theorem low_R {N nx:Nat} {fr fr':Nat→AV} (l:List Record) (hfr:RFl 9 fr fr'):Ent N ⟨fr,Ye l,nx⟩ ⟨fr',Ye l,9⟩:=by
  refine Ent.low (by decide) (fun q hq=>?_) (fun q o ho=>?_) hfr
  · simp only [Ye,Ap]
    rw [if_neg (by omega),List.getElem?_eq_none (by simp;omega)];rfl
  · simp only [Ye,Ap] at ho
    split at ho
    · rename_i h8
      obtain _|_|_|q:=q
      · simp at ho;subst ho;exact ⟨_,_,_,rfl,by simp [Bn,By]⟩
      · simp at ho;subst ho;exact ⟨_,_,_,rfl,by simp [Bn,By]⟩
      · simp at ho;subst ho;exact ⟨_,_,_,rfl,by simp [Bn,By]⟩
      · simp at ho
    · rename_i h8
      obtain ⟨j,rfl⟩:∃j,q=j+8:=⟨q-8,by omega⟩
      obtain _|j:=j
      · simp at ho;subst ho;exact ⟨_,_,_,rfl,by simp only [go_sem]⟩
      · simp at ho
def Jz (b:List Int):Int×List Record→Option ((Int×List Record)⊕List Record)
  | (at_,l)=>if at_<(b.length:Int) then (Dl b at_ (b.length:Int)).bind fun tl=>(f125 tl 10).bind fun n0=>(some (if n0<0 then IntKind.i64.wrap ((b.length:Int)-at_) else n0)).bind fun n=>(Dl b at_ (IntKind.i64.wrap (at_+n))).bind fun line=>(Dt (¬ 65536<(line.length:Int)∧¬(65536:Int)≤(l.length:Int))).bind fun _=>some (.inl (IntKind.i64.wrap (at_+IntKind.i64.wrap (n+1)),l++[(⟨at_,strOfNums line⟩:Record)])) else some (.inr l)
def tmR (yv:AV) (b:List Int) (s:Int×List Record):ASt:=⟨Ag (Ag (Ag Az 3 (.val (.int .i64 s.1))) 1 (.ip [.sl (b.map Aw)])) 0 yv,Ye s.2,9⟩
theorem lines_aw (b:List Int) (r:List Record) (hmain:loopO (Jz b) (0,[])=some r) (H:Two.Host) (hHfr:H.fr=frR b) (hcode:Lw Tryz.f57.body.get!=some (H.assign,H.body)) (hHp:H.p=12) (hHp2:H.p2=13) (hsz:H.tmps.size=34) (cg:Code) (hcg:Tryz.f124.body=some cg) :
    Two.AWH Tryz.prog 33 H cg (fun e s=>(e=.normal∨e=.ret)∧s.hp=Ye r∧9≤s.nx) ⟨Ht [.val (.func (.yield H.L) #[] #[]),.ip [.sl (b.map Aw)]],Ye [],9⟩:=by
 obtain rfl:=Option.some.inj (hcg.symm.trans (rfl:Tryz.f124.body=some _))
 clear hcg
 generalize hyv:AV.val (.func (.yield H.L) #[] #[])=yv
 have htyv:∀m,Bn m yv=true:=fun m=>by rw [←hyv];simp [Bn]
 refine Two.AWH.seq (Two.AWH.of (Nat.le_of_ble_eq_true rfl) ?_)
 refine Cd [0,1,3] ?_
 refine Aa ?_
 obtain ⟨n,hn⟩:=loopO_iff.1 hmain
 refine Two.AWH.block ?_
 refine Two.AWH.loop (fun k st=>∃s,Hs (Jz b) k s=some r∧∃nx,9≤nx∧st=⟨(tmR yv b s).fr,(tmR yv b s).hp,nx⟩) n ⟨_,hn,17,by decide,rfl⟩ ?_
 rintro k _ ⟨⟨at_,l⟩,hk,nx,hnx,rfl⟩
 obtain _|k:=k
 · cases hk
 simp only [Hs] at hk
 cases hs:Jz b (at_,l) with
 | none=>rw [hs] at hk;cases hk
 | some x=>?_
 rw [hs] at hk
 rw [Jz] at hs
 unfold tmR
 dsimp only
 have hn8:8≤nx:=by omega
 refine Two.AWH.seq (Two.AWH.seq (Two.AWH.of hn8 ?_))
 by_cases c1:at_<(b.length:Int)
 ·rw [if_pos c1] at hs
  obtain ⟨tl,htl,hs⟩:=bO hs
  obtain ⟨n0,hn0,hs⟩:=bO hs
  obtain ⟨n,hnn,hs⟩:=bO hs
  obtain ⟨line,hline,hs⟩:=bO hs
  obtain ⟨gu,hg,hs⟩:=bO hs
  obtain ⟨hg1,hg2⟩:=guardO_some.1 hg
  have hg3:Bq l [(⟨at_,strOfNums line⟩:Record)]=some (l++[(⟨at_,strOfNums line⟩:Record)]):=appO?_some.2 ⟨by simp;omega,rfl⟩
  obtain rfl:=oi hs
  obtain rfl:=oi hnn
  dsimp only at hk
  refine Bz [0,1,3,8] ?_
  refine Aa<|Two.AWH.cond (b:=true) rfl ?_
  refine Two.AWH.of (by dsimp only;omega) ?_
  refine AW.skip<|Aa<|Two.AWH.block ?_
  refine Two.AWH.seq (Two.AWH.of (by dsimp only;omega) ?_)
  refine Dq [0,1,3,4] fun K hK=>?_
  simp only [go_sem,seval,Sy Pn sz5 (Eu _) htl]
  refine arC.of (ok125 tl 10 n0 hn0) Tryz.call125 ?_
  simp only [go_sem,seval]
  subst hK
  refine Aa ?_
  by_cases c2:n0<0
  ·rw [if_pos c2] at hline hk
   refine Two.AWH.seq (Two.AWH.seq (Two.AWH.of (by dsimp only;omega) ?_))
   refine Dq [0,1,3,4,14] fun K hK=>?_
   simp only [go_sem,seval,eq_true c2]
   subst hK
   refine Aa<|Two.AWH.cond (b:=true) rfl ?_
   refine Two.AWH.of (by dsimp only;omega) ?_
   refine Cd [0,1,3,4] ?_
   refine Aa ?_
   refine Two.AWH.seq (Two.AWH.seq (Two.AWH.yield 8 rfl rfl rfl (by dsimp only;omega) (by decide) (by rw [hHp,hsz];decide) (by rw [hHp2,hsz];decide) ?_))
   generalize hK:Two.YK _ _ _ _ _ _ _ _ _ _ _=K
   simp only [go_sem,seval,Jw Pn sz5 (Eu _) hline]
   subst hK
   refine ⟨by dsimp only;omega,rfl,by simp [Ae,hyv],?_,?_⟩
   · show ∀q,Bn 8 (Ag _ _ _ q)=true
     repeat' (first|exact Te|apply Hi)
     all_goals first|exact htyv _|(simp [Bn,By,Cy,Di,go_sem];done)
   rw [hsz,hHfr,hHp,hHp2]
   refine AW.ent (low_R l (fr':=Ag (Ag (frR b) 12 (.val (.int .i64 at_))) 13 (.sl (line.map Aw))) ?_) ?_
   · exact (((((((RFl.any.put (by simp [Bn,go_sem]) (by simp [Ae,frR])).put (by simp [Bn]) (by simp [Ae,frR])).put (by simp [Bn]) (by simp [Ae,frR])).put (by simp [Bn]) (by simp [Ae,frR])).put (by simp [Bn,By,go_sem]) (by simp [Ae,frR])).put (by simp [Bn]) (by simp [Ae,frR])).put (by simp [Bn,go_sem]) (by simp [Ae,frR]))
   refine (round_aw H.assign H.body hcode b line at_ l hg1 hg2 hg3).mono ?_
   rintro e s1 ⟨he,h8,hbody⟩
   refine ⟨s1,Ent.refl,he,h8,hbody.mono ?_⟩
   rintro e s2 ⟨he,hhp,hnx2⟩
   refine ⟨s2,Ent.refl,he,by rw [hnx2];decide,?_⟩
   rw [hhp,hnx2]
   clear hhp hnx2 hbody
   generalize hK:Kj _ _ Exit.normal=K
   simp only [go_sem,seval]
   subst hK
   refine Aa<|Two.AWH.cond (b:=false) rfl ?_
   refine Two.AWH.of (by dsimp only;omega) ?_
   refine AW.skip<|Aa<|Two.AWH.of (by dsimp only;omega) ?_
   refine Cd [0,1,3] ?_
   refine Ax ?_
   refine ⟨k,Nat.lt_succ_self k,_,hk,_,?_,rfl⟩
   first|exact Nat.le_of_ble_eq_true rfl|(dsimp only;omega)
  ·rw [if_neg c2] at hline hk
   refine Two.AWH.seq (Two.AWH.seq (Two.AWH.of (by dsimp only;omega) ?_))
   refine Dq [0,1,3,4,14] fun K hK=>?_
   simp only [go_sem,seval,eq_false c2]
   subst hK
   refine Aa<|Two.AWH.cond (b:=false) rfl ?_
   refine Two.AWH.of (by dsimp only;omega) ?_
   refine AW.skip<|Aa ?_
   refine Two.AWH.seq (Two.AWH.seq (Two.AWH.yield 8 rfl rfl rfl (by dsimp only;omega) (by decide) (by rw [hHp,hsz];decide) (by rw [hHp2,hsz];decide) ?_))
   generalize hK:Two.YK _ _ _ _ _ _ _ _ _ _ _=K
   simp only [go_sem,seval,Jw Pn sz5 (Eu _) hline]
   subst hK
   refine ⟨by dsimp only;omega,rfl,by simp [Ae,hyv],?_,?_⟩
   · show ∀q,Bn 8 (Ag _ _ _ q)=true
     repeat' (first|exact Te|apply Hi)
     all_goals first|exact htyv _|(simp [Bn,By,Cy,Di,go_sem];done)
   rw [hsz,hHfr,hHp,hHp2]
   refine AW.ent (low_R l (fr':=Ag (Ag (frR b) 12 (.val (.int .i64 at_))) 13 (.sl (line.map Aw))) ?_) ?_
   · exact (((((((RFl.any.put (by simp [Bn,go_sem]) (by simp [Ae,frR])).put (by simp [Bn]) (by simp [Ae,frR])).put (by simp [Bn]) (by simp [Ae,frR])).put (by simp [Bn]) (by simp [Ae,frR])).put (by simp [Bn,By,go_sem]) (by simp [Ae,frR])).put (by simp [Bn]) (by simp [Ae,frR])).put (by simp [Bn,go_sem]) (by simp [Ae,frR]))
   refine (round_aw H.assign H.body hcode b line at_ l hg1 hg2 hg3).mono ?_
   rintro e s1 ⟨he,h8,hbody⟩
   refine ⟨s1,Ent.refl,he,h8,hbody.mono ?_⟩
   rintro e s2 ⟨he,hhp,hnx2⟩
   refine ⟨s2,Ent.refl,he,by rw [hnx2];decide,?_⟩
   rw [hhp,hnx2]
   clear hhp hnx2 hbody
   generalize hK:Kj _ _ Exit.normal=K
   simp only [go_sem,seval]
   subst hK
   refine Aa<|Two.AWH.cond (b:=false) rfl ?_
   refine Two.AWH.of (by dsimp only;omega) ?_
   refine AW.skip<|Aa<|Two.AWH.of (by dsimp only;omega) ?_
   refine Cd [0,1,3] ?_
   refine Ax ?_
   refine ⟨k,Nat.lt_succ_self k,_,hk,_,?_,rfl⟩
   first|exact Nat.le_of_ble_eq_true rfl|(dsimp only;omega)
 ·rw [if_neg c1] at hs
  obtain rfl:=oi hs
  obtain rfl:=oi hk
  refine Bz [0,1,3,8] ?_
  refine Aa<|Two.AWH.cond (b:=false) rfl ?_
  refine Two.AWH.of (by dsimp only;omega) ?_
  refine AW.exit<|Af<|Af<|Bc ?_
  exact ⟨.inl rfl,rfl,by dsimp only;omega⟩
def f98 (a0:List Int):Option (List Int):=some a0
theorem ok98 (a0:List Int) (r:(List Int)) (h:f98 a0=some r):PC Tryz.prog 98 [.sl (List.map Aw a0)] (.clo (.func 124) [] [.ip [.sl (List.map Aw r)]]):=by
 rw [f98] at h
 refine Bi (N:=4) (rs:=[.tmp 2]) Tryz.func98 ?_
 refine Ac [1] ?_
 refine AW.ent (Jh 1 rfl (by first|rfl|simp [Ae]) (by first|rfl|simp only [go_sem]) (by simp)) ?_
 refine Ac [2] ?_
 refine AW.ret ?_
 obtain rfl:=oi h
 (simp only [go_sem,seval,Ay]<;>try simp)
end Au
end Go.Proofs.Yt
namespace Go.Gm
theorem Cont.condF {P:Program} {G:Ghost P} {N:Nat} {y x:Code} {o:Operand} {Q:Exit→Act→World→Prop} {st:ASt} (hv:Fk st.fr o=.val (.bool false)) (k:Cont G N y Q st):Cont G N (.cond o x .skip) (Exit.then (fun a w=>y.wp P Q a w) Q) st:=fun a w hc=>by
  obtain ⟨c1,c2,loc,hM,hr⟩:=id hc
  have hv':a.eval o=.bool false:=Gw (hv▸Fo hr o)
  exact wp_cond hv' (show Code.wp P .skip _ a w from wp_skip (k a w hc))
end Go.Gm
namespace Go.Proofs.Yt
open Go.Gm
namespace Au
def f57 (a0:List Int):Option (List Record×Int×Int):=(Dt (a0.length≤1048576)).bind fun _=>(loopO (Jz a0) (0,[])).bind fun l=>some (l,(a0.length:Int),0)
theorem ok57 (a0:List Int) (r:List Record×Int×Int) (h:f57 a0=some r):PC Tryz.prog 57 [.sl (List.map Aw a0)] (.tup [.fr 2 (List.map Cp r.1),.val (.int .i64 r.2.1),.val (.int .i64 r.2.2)]):=by
 obtain ⟨gu,hg,h⟩:=bO h
 have hg:=guardO_some.1 hg
 obtain ⟨l,hl,h⟩:=bO h
 obtain rfl:=Option.some.inj h
 dsimp only
 have c1:¬(1048576:Int)<(a0.length:Int):=by omega
 refine Wy (N:=34) (rs:=[.cell 2 43,.cell 3 3,.cell 4 35]) Tryz.func57 rfl rfl rfl (Nat.le_of_ble_eq_true rfl) fun G hn0=>?_
 refine Cont.reg [0,2,3,4] ?_
 generalize hK:Cont G _ _ _=K
 simp only [go_sem,seval]
 subst hK
 refine Cont.seq ?_
 refine Cont.reg [0,2,3,4,9] ?_
 generalize hK:Cont G _ _ _=K
 simp only [go_sem,seval,eq_false c1]
 subst hK
 refine Cont.condF rfl ?_
 refine Cont.seq ?_
 refine Cont.reg [0,2,3,4,11] ?_
 generalize hK:Cont G _ _ _=K
 simp only [go_sem,seval]
 refine arC.of (ok98 a0 a0 rfl) Tryz.call98 ?_
 simp only [go_sem,seval]
 subst hK
 refine Cont.ent (Xg 8 0 2 (by decide) (by first|rfl|simp [Ae,Ap]) rfl) ?_
 refine Cont.ren (st':=⟨frR a0,Ye [],9⟩) hn0 (fun t=>if t=0 then 8 else if t=1 then 16 else if t=2 then 24 else if t=8 then 72 else t) ?_ ?_ ?_ ?_ ?_
 · intro i j (hi:i<9) (hj:j<9) hni hnj h
   have key:∀q,q<9→Ye [] q≠none→q=0∨q=1∨q=2∨q=8:=fun q hq hne=>by
     rcases (show q=0∨q=1∨q=2∨q=8∨(2<q∧q<8) by omega) with e|e|e|e|e
     · exact .inl e
     · exact .inr (.inl e)
     · exact .inr (.inr (.inl e))
     · exact .inr (.inr (.inr e))
     · refine absurd ?_ hne
       simp only [Ye,Ap]
       rw [if_pos e.2,List.getElem?_eq_none (by simp;omega)];rfl
   rcases key i hi hni with rfl|rfl|rfl|rfl<;>rcases key j hj hnj with rfl|rfl|rfl|rfl<;>first|rfl|(exfalso;revert h;decide)
 · intro t (ht:t<9)
   rcases (show t=0∨t=1∨t=2∨t=8∨(2<t∧t<8) by omega) with rfl|rfl|rfl|rfl|e
   · exact ORen.tok (by simp [Bn,By,Cy]) (by simp [Ae,Ap,Bh,Bb])
   · exact ORen.eq (by simp only [go_sem]) (by simp [Ae,Ap])
   · exact ORen.eq (by simp only [go_sem]) (by simp [Ae,Ap])
   · exact ORen.eq (by simp only [go_sem]) (by simp [Ae,Ap])
   · have hnone:Ye [] t=none:=by
       simp only [Ye,Ap]
       rw [if_pos e.2,List.getElem?_eq_none (by simp;omega)];rfl
     show ORen _ _ _ (Ye [] t)
     rw [hnone];exact .none _
 · intro t (ht:9≤t)
   simp only [Ye,Ap]
   rw [if_neg (by omega),List.getElem?_eq_none (by simp;omega)];rfl
 · exact ((((RF.any.put (by simp [Bn,go_sem]) (.of (by simp [Ae,Bh]))).put (by simp [Bn]) (.of (by simp [Ae,Bh]))).put (by simp [Bn]) (.of (by simp [Ae,Bh]))).put (by simp [Bn]) (.of (by simp [Ae,Bh]))).put (by simp [Bn,By,go_sem]) (.of (by simp [Ae,Bh,Bb]))
 refine Cont.block ?_
 intro a w hc
 have hc0:a.defers=[]:=hc.1
 have hcs:a.tmps.size=34:=hc.2.1
 refine Two.range_wp (gf:=124) (fg:=Tryz.f124) (caps:=[.ip [.sl (a0.map Aw)]]) (K:=fun hp nx=>hp=Ye l∧9≤nx) hc rfl Tryz.func124 rfl Tryz.call124 rfl (by decide) ?_ (Nat.le_of_ble_eq_true rfl) (Nat.le_of_ble_eq_true rfl) hn0 (fun H h1 h2 h3 h4 h5 h6=>?_) ?_
 · exact Hi (Hi (Hi (Hi (Hi Te (by simp [Bn,go_sem])) (by simp [Bn])) (by simp [Bn])) (by simp [Bn])) (by simp [Bn,By,go_sem])
 · exact lines_aw a0 l hl H h1 (by rw [h2,h3];rfl) h4 h5 h6 _ rfl
 · rintro D hp' nx' loc' w' ⟨rfl,hnx⟩ hD hGD hB hH hr
   refine tail_wp (N:=34) (st:=⟨frR a0,Ye l,nx'⟩) (by rw [hc0];rfl) hD hGD hB hH hr (by dsimp only;omega) hcs [2,3,4] ?_
   generalize hK:(fun (s:ASt)=>_)=K
   show Co Tryz.prog 34 _ _ ⟨frR a0,Ye l,nx'⟩ K
   unfold frR Ye
   simp only [go_sem,seval]
   subst hK
   refine RetK.fin ?_
   simp only [go_sem,seval,Ay]<;>try simp
def f108 (a0:Int) (a1:List Int):Option (List Int):=((f109 a1 (IntKind.u64.wrap a0)).bind fun x1=>some x1)
theorem ok108 (a0:Int) (a1:List Int) (r:(List Int)) (h:f108 a0 a1=some r):IC Tryz.prog 108 [some (.row 1 true [[.sl (List.map Aw a1)]])] [.val (.int .i64 a0),.ptr 0 0 0] (.tup []) [some (.row 1 true [[.sl (List.map Aw r)]])] []:=by
 rw [f108] at h
 refine Oe (N:=7) (rs:=[]) Tryz.func108 rfl rfl rfl (Nat.le_of_ble_eq_true rfl) ?_
 obtain ⟨x1,hx1,h⟩:=bO h
 refine AW.rD [] (ok109 a1 (IntKind.u64.wrap a0) x1 hx1) Tryz.call109 ?_
 refine ⟨⟨Az,Bo [some (.row 1 true [[.sl (List.map Aw x1)]])] [],8⟩,?_,?_⟩
 · refine Ent.trans (Lk (pre:=[]) (post:=[]) (q:=32) (off:=0) (len:=x1.length) 0 rfl (Fg (sz:=1) (m:=true) rfl (by first|rfl|(simp [Ar];done)|(simp [Ar];omega)) (by simp only [go_sem])) (by decide)) ?_
   exact Ab [] RF.any (.ce (.nil _)) (.nil _)
 obtain rfl:=oi h
 exact ⟨rfl,rfl,_,rfl,by first|rfl|simp [Cu,Ae,Ar]⟩
def Rm (a0:List Int) (x8:Int) (x9:Int):Int→Option (Int⊕Int)
  | s1_0=>(if s1_0<(a0.length:Int) then ((ix a0 s1_0).bind fun x20=>((ix a0 (IntKind.i64.wrap (s1_0-1))).bind fun x21=>(if (IntKind.i64.wrap (x20-x21))=(IntKind.i64.wrap (x8-x9)) then some (.inl (IntKind.i64.wrap (s1_0+1))) else some (.inr s1_0)))) else some (.inr s1_0))
def f135 (a0:List Int):Option Int:=(if (a0.length:Int)<3 then some 0 else ((a0[2]?).bind fun x7=>((a0[1]?).bind fun x8=>((a0[0]?).bind fun x9=>(if (IntKind.i64.wrap (x7-x8))=(IntKind.i64.wrap (x8-x9)) then ((loopO (Rm a0 x8 x9) 3).bind fun y24=>some y24) else some 0)))))
theorem ok135 (a0:List Int) (r:Int) (h:f135 a0=some r):PC Tryz.prog 135 [.sl (List.map Bk a0)] (.val (.int .i64 r)):=by
 rw [f135] at h
 refine Bi (N:=51) (rs:=[.tmp 2]) Tryz.func135 ?_
 refine Ac [0] ?_
 refine AW.seq ?_
 rcases Aq h with ⟨c6,h⟩|⟨c6,h⟩
 ·refine Dm [0,23] [0,1,3,7,15,31,63,15,143,399,1023,15,2063,6159,15,16399,49167,129039,262143,524287] ?_
  generalize hK:AW Tryz.prog _ _ _=K
  simp only [go_sem,seval,eq_true c6]
  subst hK
  refine Bp rfl rfl<|Ac [2] ?_
  refine AW.ret<|Ad ?_
  obtain rfl:=oi h
  (simp only [go_sem,seval,Ay]<;>try simp)
 ·obtain ⟨x7,hx7,h⟩:=bO h
  obtain ⟨x8,hx8,h⟩:=bO h
  obtain ⟨x9,hx9,h⟩:=bO h
  refine Dm [0,23] [0,1,3,7,15,31,63,15,143,399,1023,15,2063,6159,15,16399,49167,129039,262143,524287] ?_
  generalize hK:AW Tryz.prog _ _ _=K
  simp only [go_sem,seval,eq_false c6,hx7,hx8,hx9]
  subst hK
  rcases Aq h with ⟨c10,h⟩|⟨c10,h⟩
  ·refine Ai rfl (fun q=>q c10)<|AW.skip<|Aa<|Ac [0,3] ?_
   refine AW.seq<|AW.block ?_
   obtain ⟨y24,hy24,h⟩:=bO h
   refine AW.loopO (fun s=>⟨(Ag (Ag Az 0 (.sl (List.map Bk a0))) 3 (.val (.int .i64 s))),Bo [] [],8⟩) (fun z e st'=>e=Exit.exit 0∧st'=⟨(Ag Az 3 (.val (.int .i64 z))),Bo [] [],8⟩) hy24 ?_ ?_ ?_
   ·exact Bg RF.any.qv.qv
   ·clear h hy24
    rintro s1_0 x h
    rw [Rm] at h
    refine AW.seq ?_
    rcases Aq h with ⟨c19,h⟩|⟨c19,h⟩
    ·obtain ⟨x20,hx20,h⟩:=bO h
     obtain ⟨hx20a,hx20b⟩:=ix_some.1 hx20
     obtain ⟨x21,hx21,h⟩:=bO h
     obtain ⟨hx21a,hx21b⟩:=ix_some.1 hx21
     refine Dm [0,3,47] [0,0,2,7,15,31,31,127,255,31,31,1055,3615,7711,16383,31,32799,98335,31,262175,786463,2064415,4194303,8388607] ?_
     generalize hK:AW Tryz.prog _ _ _=K
     simp only [go_sem,seval,eq_false c6,eq_true c10,eq_true c19,Ah hx20a,hx20b,Ah hx21a,hx21b,hx8,hx9]
     subst hK
     rcases Aq h with ⟨c22,h⟩|⟨c22,h⟩
     ·refine Aj rfl c22<|AW.skip<|Aa<|AW.block<|Cd [0,3] ?_
      refine Ax<|Aa ?_
      refine ⟨_,oj h,?_⟩
      exact Bg RF.any.qv.qv
     ·refine Ai rfl c22<|AW.exit<|Af<|Af ?_
      refine ⟨_,oj h,_,?_,rfl,rfl⟩
      exact Bg RF.any.qv
    ·refine Dm [0,3,47] [0,0,2,7,15,31,31,127,255,31,31,1055,3615,7711,16383,31,32799,98335,31,262175,786463,2064415,4194303,8388607] ?_
     generalize hK:AW Tryz.prog _ _ _=K
     simp only [go_sem,seval,eq_false c6,eq_true c10,eq_false c19]
     subst hK
     refine Bl rfl rfl<|AW.exit<|Af<|Af ?_
     refine ⟨_,oj h,_,?_,rfl,rfl⟩
     exact Bg RF.any.qv
   ·intro e st' hX
    try dsimp only at h
    try dsimp only at hX
    obtain ⟨rfl,rfl⟩:=hX
    refine ⟨_,Ent.refl,?_⟩
    refine Bc<|Aa<|Ac [2] ?_
    refine AW.ret ?_
    obtain rfl:=oi h
    (simp only [go_sem,seval,eq_false c6,eq_true c10,Ay]<;>try simp)
  ·refine Aj rfl c10<|Ac [2] ?_
   refine AW.ret<|Ad ?_
   obtain rfl:=oi h
   (simp only [go_sem,seval,Ay]<;>try simp)
end Au
end Go.Proofs.Yt
namespace Go.Proofs.Yt
open Go.Gm Go.Gm.Two
namespace Au
def Db (b:List Int) (many last:Int) (l:List Int):Am:=Bo [some (.row 1 true [[.sl (List.map Aw b)]]),some (.row 1 true [[.clo (.func 108) [] [.ptr 0 0 0]]]),some (.row 1 true [[.val (.int .i64 many)]]),some (.row 1 true [[.val (.int .i64 last)]]),some (.row 1 true [[.sl (List.map Bk l)]])] []
def frP:Nat→AV:=Ag (Ag (Ag (Ag (Ag Az 4 (.ptr 0 0 0)) 5 (.ptr 1 0 0)) 6 (.ptr 2 0 0)) 7 (.ptr 3 0 0)) 17 (.clo (.func 134) [] [.ptr 4 0 0])
def put_s (run:List Int):Int×List Int×Int→Option ((Int×List Int×Int)⊕(List Int×Int))
  | (i,b,last)=>if i<(run.length:Int) then (ix run i).bind fun n=>(f108 (IntKind.i64.wrap (IntKind.i64.wrap (n-last)-1)) b).bind fun b1=>some (.inl (IntKind.i64.wrap (i+1),b1,n)) else some (.inr (b,last))
def put_a (run:List Int) (b:List Int) (last:Int):Option (List Int):=(f108 (IntKind.i64.wrap (IntKind.i64.wrap (2*(run.length:Int))+1)) b).bind fun b1=>(run[0]?).bind fun r0=>(f108 (IntKind.i64.wrap (IntKind.i64.wrap (r0-last)-1)) b1).bind fun b2=>(run[1]?).bind fun r1=>f108 (IntKind.i64.wrap (IntKind.i64.wrap (r1-r0)-1)) b2
def put_b (run:List Int) (b:List Int) (last:Int):Option (List Int×Int):=(f108 (IntKind.i64.wrap (2*(run.length:Int))) b).bind fun b1=>loopO (put_s run) (0,b1,last)
def put_r (run:List Int) (is:Bool) (b:List Int) (many last:Int):Option (List Int×Int×Int) :=
  (if is=true then put_a run b last else (put_b run b last).bind fun q=>some q.1).bind fun b'=>(ix run (IntKind.i64.wrap ((run.length:Int)-1))).bind fun z=>some (b',IntKind.i64.wrap (many+1),z)
theorem put_aw (A B:Code) (hcode:Lw Tryz.f80.body.get!=some (A,B)) (run:List Int) (is:Bool) (b:List Int) (many last:Int) (l:List Int) (r:List Int×Int×Int) (h:put_r run is b many last=some r) :
    AW Tryz.prog 77 A (fun e s1=>e=.normal∧8≤s1.nx∧AW Tryz.prog 77 B (fun e s2=>e=.normal∧s2.hp=Db r.1 r.2.1 r.2.2 l∧s2.nx=8) s1) ⟨Ag (Ag frP 18 (.sl (List.map Bk run))) 19 (.val (.bool is)),Db b many last l,8⟩:=by
 obtain ⟨rfl,rfl⟩:=Prod.mk.inj (Option.some.inj (hcode.symm.trans rfl))
 unfold frP Db
 rw [put_r] at h
 obtain ⟨b',hb',h⟩:=bO h
 obtain ⟨z,hz,h⟩:=bO h
 obtain ⟨hza,hzb⟩:=ix_some.1 hz
 obtain rfl:=oi h
 dsimp only
 refine AW.seq<|Cd [4,5,6,7,8,19] ?_
 refine Aa<|Cd [4,5,6,7,8,9] ?_
 refine ⟨rfl,by simp,?_⟩
 refine AW.toK (K:=fun s=>s.hp=Db b' (IntKind.i64.wrap (many+1)) z l∧s.nx=8)<|AW.block<|Ac [4,5,6,7,8,9] ?_
 refine AW.seq ?_
 cases is with
 | true =>
  rw [if_pos rfl] at hb'
  obtain ⟨b1,hb1,hb'⟩:=bO hb'
  obtain ⟨r0,hr0,hb'⟩:=bO hb'
  obtain ⟨b2,hb2,hb'⟩:=bO hb'
  obtain ⟨r1,hr1,hb3⟩:=bO hb'
  refine Ac [4,5,6,7,8,22] ?_
  refine Bp rfl rfl<|Cb [4,5,6,7,8] fun K hK=>?_
  simp only [go_sem,seval]
  refine arC.ok (CallOk.ic (us':=_) (ok108 _ b b1 hb1) [0] rfl (by decide) (by simp) (by simp) (by simp) (by simp) (.cons (.eq (by simp only [go_sem]) (by first|rfl|simp [Ae,Ap,Cf])) (.nil _)) (by simp only [Dy,Ek,Gn,Cq,Gy,Ia,Ha,Jb,Gz,Hw,Cf,List.getD_cons_zero,List.getD_cons_succ];exact (.cons (.of rfl) (.cons (.of rfl) .nil))) (by simp only [go_sem,List.length_cons,List.length_nil,Nat.reduceAdd,Nat.reduceLT,decide_true]) (by simp [AObj.isMut]) (by simp [go_sem]) (by simp [go_sem])) Tryz.call108 ?_
  simp only [go_sem,seval]
  subst hK
  refine Dm [4,5,6,7,8] [0,0,2,6,0,30,62,127] ?_
  generalize hK:AW Tryz.prog _ _ _=K
  simp only [go_sem,seval,hr0]
  refine adN.ic (ok108 _ b1 b2 hb2) Tryz.call108 (Fw (by simp only [Ae,Nat.reduceEqDiff,if_true,if_false,↓reduceIte];rfl)) [0] rfl (by decide) (by simp) (by simp) (by simp) (by simp) (.cons (.eq (by simp only [go_sem]) (by first|rfl|simp [Ae,Ap,Cf])) (.nil _)) (by simp only [List.nil_append,List.append_nil,List.cons_append,List.map_cons,List.map_nil,Yn,Rq,Ae,Nat.reduceEqDiff,if_true,if_false,↓reduceIte,Dy,Ek,Gn,Cq,Gy,Ia,Ha,Jb,Gz,Hw,Cf,List.getD_cons_zero,List.getD_cons_succ];exact (.cons (.of rfl) (.cons (.of rfl) .nil))) (by simp only [go_sem,List.length_cons,List.length_nil,Nat.reduceAdd,Nat.reduceLT,decide_true]) (by simp [AObj.isMut]) (by simp [go_sem]) (by simp [go_sem]) ?_
  simp only [go_sem,seval,hr0]
  subst hK
  refine Nt [4,5,6,7,8] [0,0,2,6,0,16,48,126,254,511] ?_
  generalize hK:Kj _ _ Exit.normal=K
  simp only [go_sem,seval,hr0,hr1]
  refine adN.ic (ok108 _ b2 b' hb3) Tryz.call108 (Fw (by simp only [Ae,Nat.reduceEqDiff,if_true,if_false,↓reduceIte];rfl)) [0] rfl (by decide) (by simp) (by simp) (by simp) (by simp) (.cons (.eq (by simp only [go_sem]) (by first|rfl|simp [Ae,Ap,Cf])) (.nil _)) (by simp only [List.nil_append,List.append_nil,List.cons_append,List.map_cons,List.map_nil,Yn,Rq,Ae,Nat.reduceEqDiff,if_true,if_false,↓reduceIte,Dy,Ek,Gn,Cq,Gy,Ia,Ha,Jb,Gz,Hw,Cf,List.getD_cons_zero,List.getD_cons_succ];exact (.cons (.of rfl) (.cons (.of rfl) .nil))) (by simp only [go_sem,List.length_cons,List.length_nil,Nat.reduceAdd,Nat.reduceLT,decide_true]) (by simp [AObj.isMut]) (by simp [go_sem]) (by simp [go_sem]) ?_
  simp only [go_sem,seval,hr0,hr1]
  subst hK
  refine Aa<|Bz [] ?_
  refine Ax ?_
  refine ⟨rfl,⟨Az,Db b' (IntKind.i64.wrap (many+1)) z l,8⟩,?_,rfl,rfl⟩
  unfold Db
  exact Bu [] _ _ _ rfl (by first|decide|simp) rfl RF.any (.cons (.eq (by simp only [go_sem]) (by first|rfl|simp [Ae,Ap,Cv,Bh,Bb,Db])) (.cons (.tok (by simp [Bn,By,Cy]) (by first|rfl|simp [Ae,Ap,Cv,Bh,Bb,Db])) (.cons (.eq (by simp only [go_sem]) (by first|rfl|simp [Ae,Ap,Cv,Bh,Bb,Db])) (.cons (.eq (by simp only [go_sem]) (by first|rfl|simp [Ae,Ap,Cv,Bh,Bb,Db])) (.cons (.eq (by simp only [go_sem]) (by first|rfl|simp [Ae,Ap,Cv,Bh,Bb,Db])) (.nil _)))))) (.nil _)
 | false =>
  rw [if_neg (by decide)] at hb'
  obtain ⟨q,hq,hb'⟩:=bO hb'
  obtain rfl:=oi hb'
  obtain ⟨b1,hb1,hq⟩:=bO hq
  refine Ac [4,5,6,7,8,22] ?_
  refine Bl rfl rfl<|Cb [4,5,6,7,8] fun K hK=>?_
  simp only [go_sem,seval]
  refine arC.ok (CallOk.ic (us':=_) (ok108 _ b b1 hb1) [0] rfl (by decide) (by simp) (by simp) (by simp) (by simp) (.cons (.eq (by simp only [go_sem]) (by first|rfl|simp [Ae,Ap,Cf])) (.nil _)) (by simp only [Dy,Ek,Gn,Cq,Gy,Ia,Ha,Jb,Gz,Hw,Cf,List.getD_cons_zero,List.getD_cons_succ];exact (.cons (.of rfl) (.cons (.of rfl) .nil))) (by simp only [go_sem,List.length_cons,List.length_nil,Nat.reduceAdd,Nat.reduceLT,decide_true]) (by simp [AObj.isMut]) (by simp [go_sem]) (by simp [go_sem])) Tryz.call108 ?_
  simp only [go_sem,seval]
  subst hK
  refine Ac [4,5,6,7,8,52,53,54] ?_
  refine AW.block ?_
  refine AW.loopO (fun s=>⟨Ag (Ag (Ag (Ag (Ag (Ag (Ag (Ag Az 4 (.ptr 0 0 0)) 5 (.ptr 1 0 0)) 6 (.ptr 2 0 0)) 7 (.ptr 3 0 0)) 8 (.sl (List.map Bk run))) 52 (.sl (List.map Bk run))) 53 (.val (.int .i64 (run.length:Int)))) 54 (.val (.int .i64 s.1)),Db s.2.1 (IntKind.i64.wrap (many+1)) s.2.2 l,8⟩) (fun z e st'=>e=Exit.exit 2∧st'=⟨Ag (Ag (Ag (Ag (Ag Az 4 (.ptr 0 0 0)) 5 (.ptr 1 0 0)) 6 (.ptr 2 0 0)) 7 (.ptr 3 0 0)) 8 (.sl (List.map Bk run)),Db z.1 (IntKind.i64.wrap (many+1)) z.2 l,8⟩) hq ?_ ?_ ?_
  · unfold Db
    exact Bu [] _ _ _ rfl (by first|decide|simp) rfl ((((((((RF.any.pp (by decide) (by first|rfl|simp [Ae,Ap,Cv,Bh,Bb,Db])).pp (by decide) (by first|rfl|simp [Ae,Ap,Cv,Bh,Bb,Db])).pp (by decide) (by first|rfl|simp [Ae,Ap,Cv,Bh,Bb,Db])).pp (by decide) (by first|rfl|simp [Ae,Ap,Cv,Bh,Bb,Db])).pv (by first|rfl|simp only [go_sem]) (by first|rfl|simp [Ae,Ap,Cv,Bh,Bb,Db])).pv (by first|rfl|simp only [go_sem]) (by first|rfl|simp [Ae,Ap,Cv,Bh,Bb,Db])).pv (by first|rfl|simp only [go_sem]) (by first|rfl|simp [Ae,Ap,Cv,Bh,Bb,Db])).pv (by first|rfl|simp only [go_sem]) (by first|rfl|simp [Ae,Ap,Cv,Bh,Bb,Db])) (.cons (.eq (by simp only [go_sem]) (by first|rfl|simp [Ae,Ap,Cv,Bh,Bb,Db])) (.cons (.tok (by simp [Bn,By,Cy]) (by first|rfl|simp [Ae,Ap,Cv,Bh,Bb,Db])) (.cons (.eq (by simp only [go_sem]) (by first|rfl|simp [Ae,Ap,Cv,Bh,Bb,Db])) (.cons (.eq (by simp only [go_sem]) (by first|rfl|simp [Ae,Ap,Cv,Bh,Bb,Db])) (.cons (.eq (by simp only [go_sem]) (by first|rfl|simp [Ae,Ap,Cv,Bh,Bb,Db])) (.nil _)))))) (.nil _)
  · clear hq hz hza hzb
    rintro ⟨i,bb,la⟩ x h
    rw [put_s] at h
    unfold Db
    refine Ac [4,5,6,7,8,52,53,54,55] ?_
    refine AW.seq ?_
    by_cases c:i<(run.length:Int)
    · rw [if_pos c] at h
      obtain ⟨n,hn,h⟩:=bO h
      obtain ⟨hna,hnb⟩:=ix_some.1 hn
      obtain ⟨bn,hbn,h⟩:=bO h
      refine Aj rfl c<|AW.skip<|Aa<|AW.seq<|AW.block<|Ao [4,5,6,7,8,11,52,53,54] ?_
      refine Cb [4,5,6,7,8,11,52,53,54] fun K hK=>?_
      simp only [go_sem,seval,eq_true c]
      refine arC.ok (CallOk.ic (us':=_) (ok108 _ bb bn hbn) [0] rfl (by decide) (by simp) (by simp) (by simp) (by simp) (.cons (.eq (by simp only [go_sem]) (by first|rfl|simp [Ae,Ap,Cf])) (.nil _)) (by simp only [Dy,Ek,Gn,Cq,Gy,Ia,Ha,Jb,Gz,Hw,Cf,List.getD_cons_zero,List.getD_cons_succ];exact (.cons (.of rfl) (.cons (.of rfl) .nil))) (by simp only [go_sem,List.length_cons,List.length_nil,Nat.reduceAdd,Nat.reduceLT,decide_true]) (by simp [AObj.isMut]) (by simp [go_sem]) (by simp [go_sem])) Tryz.call108 ?_
      simp only [go_sem,seval,eq_true c]
      subst hK
      refine Cd [4,5,6,7,8,52,53,54] ?_
      refine Ax<|Aa<|Cd [4,5,6,7,8,52,53,54] ?_
      refine Aa ?_
      refine ⟨_,oj h,?_⟩
      exact Bu [] _ _ _ rfl (by first|decide|simp) rfl ((((((((RF.any.pp (by decide) (by first|rfl|simp [Ae,Ap,Cv,Bh,Bb,Db])).pp (by decide) (by first|rfl|simp [Ae,Ap,Cv,Bh,Bb,Db])).pp (by decide) (by first|rfl|simp [Ae,Ap,Cv,Bh,Bb,Db])).pp (by decide) (by first|rfl|simp [Ae,Ap,Cv,Bh,Bb,Db])).pv (by first|rfl|simp only [go_sem]) (by first|rfl|simp [Ae,Ap,Cv,Bh,Bb,Db])).pv (by first|rfl|simp only [go_sem]) (by first|rfl|simp [Ae,Ap,Cv,Bh,Bb,Db])).pv (by first|rfl|simp only [go_sem]) (by first|rfl|simp [Ae,Ap,Cv,Bh,Bb,Db])).pv (by first|rfl|simp only [go_sem]) (by first|rfl|simp [Ae,Ap,Cv,Bh,Bb,Db])) (.cons (.eq (by simp only [go_sem]) (by first|rfl|simp [Ae,Ap,Cv,Bh,Bb,Db])) (.cons (.tok (by simp [Bn,By,Cy]) (by first|rfl|simp [Ae,Ap,Cv,Bh,Bb,Db])) (.cons (.eq (by simp only [go_sem]) (by first|rfl|simp [Ae,Ap,Cv,Bh,Bb,Db])) (.cons (.eq (by simp only [go_sem]) (by first|rfl|simp [Ae,Ap,Cv,Bh,Bb,Db])) (.cons (.eq (by simp only [go_sem]) (by first|rfl|simp [Ae,Ap,Cv,Bh,Bb,Db])) (.nil _)))))) (.nil _)
    · rw [if_neg c] at h
      refine Ai rfl c<|AW.exit<|Af<|Af ?_
      refine ⟨_,oj h,_,?_,rfl,rfl⟩
      exact Bu [] _ _ _ rfl (by first|decide|simp) rfl (((((RF.any.pp (by decide) (by first|rfl|simp [Ae,Ap,Cv,Bh,Bb,Db])).pp (by decide) (by first|rfl|simp [Ae,Ap,Cv,Bh,Bb,Db])).pp (by decide) (by first|rfl|simp [Ae,Ap,Cv,Bh,Bb,Db])).pp (by decide) (by first|rfl|simp [Ae,Ap,Cv,Bh,Bb,Db])).pv (by first|rfl|simp only [go_sem]) (by first|rfl|simp [Ae,Ap,Cv,Bh,Bb,Db])) (.cons (.eq (by simp only [go_sem]) (by first|rfl|simp [Ae,Ap,Cv,Bh,Bb,Db])) (.cons (.tok (by simp [Bn,By,Cy]) (by first|rfl|simp [Ae,Ap,Cv,Bh,Bb,Db])) (.cons (.eq (by simp only [go_sem]) (by first|rfl|simp [Ae,Ap,Cv,Bh,Bb,Db])) (.cons (.eq (by simp only [go_sem]) (by first|rfl|simp [Ae,Ap,Cv,Bh,Bb,Db])) (.cons (.eq (by simp only [go_sem]) (by first|rfl|simp [Ae,Ap,Cv,Bh,Bb,Db])) (.nil _)))))) (.nil _)
  · rintro e st' ⟨rfl,rfl⟩
    refine ⟨_,Ent.refl,?_⟩
    refine Bc ?_
    unfold Db
    refine Aa<|Bz [] ?_
    refine Ax ?_
    refine ⟨rfl,⟨Az,Db q.1 (IntKind.i64.wrap (many+1)) z l,8⟩,?_,rfl,rfl⟩
    unfold Db
    exact Bu [] _ _ _ rfl (by first|decide|simp) rfl RF.any (.cons (.eq (by simp only [go_sem]) (by first|rfl|simp [Ae,Ap,Cv,Bh,Bb,Db])) (.cons (.tok (by simp [Bn,By,Cy]) (by first|rfl|simp [Ae,Ap,Cv,Bh,Bb,Db])) (.cons (.eq (by simp only [go_sem]) (by first|rfl|simp [Ae,Ap,Cv,Bh,Bb,Db])) (.cons (.eq (by simp only [go_sem]) (by first|rfl|simp [Ae,Ap,Cv,Bh,Bb,Db])) (.cons (.eq (by simp only [go_sem]) (by first|rfl|simp [Ae,Ap,Cv,Bh,Bb,Db])) (.nil _)))))) (.nil _)
theorem low_P {N nx:Nat} {fr fr':Nat→AV} (b:List Int) (many last:Int) (l:List Int) (hfr:RFl 8 fr fr'):Ent N ⟨fr,Db b many last l,nx⟩ ⟨fr',Db b many last l,8⟩:=by
  refine Ent.low (by decide) (fun q hq=>?_) (fun q o ho=>?_) hfr
  · simp only [Db,Ap]
    rw [if_neg (by omega),List.getElem?_eq_none (by simp)];rfl
  · simp only [Db,Ap] at ho
    split at ho
    · obtain _|_|_|_|_|q:=q
      · simp at ho;subst ho;exact ⟨_,_,_,rfl,by simp [Bn,By,go_sem]⟩
      · simp at ho;subst ho;exact ⟨_,_,_,rfl,by simp [Bn,By]⟩
      · simp at ho;subst ho;exact ⟨_,_,_,rfl,by simp [Bn,By]⟩
      · simp at ho;subst ho;exact ⟨_,_,_,rfl,by simp [Bn,By]⟩
      · simp at ho;subst ho;exact ⟨_,_,_,rfl,by simp [Bn,By,go_sem]⟩
      · simp at ho
    · simp at ho
def Rz (l:List Int) (is:Bool) (n:Int):Option (Int⊕Int) :=
  if n=0 then some (.inl (IntKind.i64.wrap (n+1))) else if is=true then some (.inr n) else if n<(l.length:Int) then (Dl l n (l.length:Int)).bind fun tl=>(f135 tl).bind fun e=>if e=0 then some (.inl (IntKind.i64.wrap (n+1))) else some (.inr n) else some (.inr n)
def Nb:List Int×List Int×Int×Int→Option ((List Int×List Int×Int×Int)⊕(List Int×Int×Int×List Int))
  | (l,b,many,last)=>if 0<(l.length:Int) then (f135 l).bind fun n0=>(loopO (Rz l (decide (0<n0))) n0).bind fun n=>(Dl l 0 n).bind fun run=>(put_r run (decide (0<n0)) b many last).bind fun r=>(Dl l n (l.length:Int)).bind fun tl=>some (.inl (tl,r.1,r.2.1,r.2.2)) else some (.inr (b,many,last,l))
def tmP (yv:AV) (s:List Int×List Int×Int×Int):ASt:=⟨Ag (Ag Az 0 yv) 1 (.ptr 4 0 0),Db s.2.1 s.2.2.1 s.2.2.2 s.1,8⟩
theorem cuts_aw (a0:List Int) (r:List Int×Int×Int×List Int) (hmain:loopO Nb (a0,[],0, -1)=some r) (H:Two.Host) (hHfr:H.fr=frP) (hcode:Lw Tryz.f80.body.get!=some (H.assign,H.body)) (hHp:H.p=18) (hHp2:H.p2=19) (hsz:H.tmps.size=77) (cg:Code) (hcg:Tryz.f134.body=some cg) :
    Two.AWH Tryz.prog 43 H cg (fun e s=>(e=.normal∨e=.ret)∧s.hp=Db r.1 r.2.1 r.2.2.1 r.2.2.2∧8≤s.nx) ⟨Ht [.val (.func (.yield H.L) #[] #[]),.ptr 4 0 0],Db [] 0 (-1) a0,8⟩:=by
 obtain rfl:=Option.some.inj (hcg.symm.trans (rfl:Tryz.f134.body=some _))
 clear hcg
 generalize hyv:AV.val (.func (.yield H.L) #[] #[])=yv
 have htyv:∀m,Bn m yv=true:=fun m=>by rw [←hyv];simp [Bn]
 have hmyv:∀ τ:Nat→Nat,Bh τ yv=yv:=fun τ=>by rw [←hyv];simp only [Bh]
 obtain ⟨n,hn⟩:=loopO_iff.1 hmain
 refine Two.AWH.block ?_
 refine Two.AWH.loop (fun k st=>∃s,Hs Nb k s=some r∧∃fr nx,fr 0=yv∧fr 1=.ptr 4 0 0∧8≤nx∧st=⟨fr,(tmP yv s).hp,nx⟩) n ⟨_,hn,_,8,by simp [Ht],by simp [Ht],by decide,rfl⟩ ?_
 rintro k _ ⟨⟨l,b,many,last⟩,hk,fr0,nx,hfr0,hfr1,hnx,rfl⟩
 obtain _|k:=k
 · cases hk
 simp only [Hs] at hk
 cases hs:Nb (l,b,many,last) with
 | none=>rw [hs] at hk;cases hk
 | some x=>?_
 rw [hs] at hk
 rw [Nb] at hs
 unfold tmP
 dsimp only
 refine Two.AWH.seq (Two.AWH.seq (Two.AWH.of hnx ?_))
 refine AW.ent (low_P b many last l (fr':=Ag (Ag Az 0 yv) 1 (.ptr 4 0 0)) ?_) ?_
 · exact (RFl.any.put (htyv _) hfr0).put (by simp [Bn]) hfr1
 clear hfr0 hfr1 hnx
 unfold Db
 by_cases c1:0<(l.length:Int)
 · rw [if_pos c1] at hs
   obtain ⟨n0,hn0,hs⟩:=bO hs
   obtain ⟨n,hnn,hs⟩:=bO hs
   obtain ⟨run,hrun,hs⟩:=bO hs
   obtain ⟨rr,hrr,hs⟩:=bO hs
   obtain ⟨tl,htl,hs⟩:=bO hs
   obtain rfl:=oi hs
   dsimp only at hk
   refine Bz [0,1,7] ?_
   refine Aa<|Two.AWH.cond (b:=true) rfl ?_
   refine Two.AWH.of (by dsimp only;omega) ?_
   refine AW.skip<|Aa<|Two.AWH.block ?_
   refine Two.AWH.seq (Two.AWH.of (by dsimp only;omega) ?_)
   refine AW.rD [0,1,3] (ok135 l n0 hn0) Tryz.call135 ?_
   refine Aa ?_
   refine Two.AWH.seq (Two.AWH.of (by dsimp only;omega) ?_)
   refine Bz [0,1,3,4] ?_
   refine Aa ?_
   generalize hisd:decide (0<n0)=is at hnn hrr
   refine Two.AWH.seq (Two.AWH.of (by dsimp only;omega) ?_)
   refine AW.mono (Q:=fun e st'=>e=.normal∧st'=⟨Ag (Ag (Ag (Ag Az 0 yv) 1 (.ptr 4 0 0)) 3 (.val (.int .i64 n))) 4 (.val (.bool is)),Db b many last l,8⟩) ?_ ?_
   rotate_left
   · rintro e st' ⟨rfl,rfl⟩
     refine ⟨_,Ent.refl,?_⟩
     refine Aa ?_
     refine Two.AWH.seq (Two.AWH.seq (Two.AWH.yield 5 rfl rfl rfl (by dsimp only;omega) (by decide) (by rw [hHp,hsz];decide) (by rw [hHp2,hsz];decide) ?_))
     unfold Db
     generalize hK:Two.YK _ _ _ _ _ _ _ _ _ _ _=K
     simp only [go_sem,seval,cut_ns el48 sz3 (Oc _) hrun]
     subst hK
     refine ⟨by dsimp only;omega,rfl,by simp [Ae,hyv],?_,?_⟩
     · show ∀q,Bn 8 (Ag _ _ _ q)=true
       repeat' (first|exact Te|apply Hi)
       all_goals first|exact htyv _|(simp [Bn,By,Cy,Di,go_sem];done)
     rw [hsz,hHfr,hHp,hHp2]
     refine AW.ent (st':=⟨Ag (Ag frP 18 (.sl (List.map Bk run))) 19 (.val (.bool is)),Db b many last l,8⟩) (low_P b many last l ?_) ?_
     · exact (((((((RFl.any.put (by simp [Bn]) (by simp [Ae,frP])).put (by simp [Bn]) (by simp [Ae,frP])).put (by simp [Bn]) (by simp [Ae,frP])).put (by simp [Bn]) (by simp [Ae,frP])).put (by simp [Bn,By]) (by simp [Ae,frP])).put (by simp [Bn,go_sem]) (by simp [Ae,frP])).put (by simp [Bn]) (by simp [Ae,frP]))
     refine (put_aw H.assign H.body hcode run is b many last l rr hrr).mono ?_
     rintro e s1 ⟨he,h8,hbody⟩
     refine ⟨s1,Ent.refl,he,h8,hbody.mono ?_⟩
     rintro e s2 ⟨he,hhp,hnx2⟩
     refine ⟨s2,Ent.refl,he,by rw [hnx2];decide,?_⟩
     rw [hhp,hnx2]
     clear hhp hnx2 hbody
     unfold Db
     generalize hK:Kj _ _ Exit.normal=K
     simp only [go_sem,seval]
     subst hK
     refine Aa<|Two.AWH.cond (b:=false) rfl ?_
     refine Two.AWH.of (by dsimp only;omega) ?_
     refine AW.skip<|Aa<|Two.AWH.of (by dsimp only;omega) ?_
     refine AW.mono (Q:=fun e st'=>e=.normal∧st'=⟨Ag (Ag Az 0 yv) 1 (.ptr 4 0 0),Db rr.1 rr.2.1 rr.2.2 tl,8⟩) ?_ ?_
     rotate_left
     · rintro e st' ⟨rfl,rfl⟩
       refine ⟨_,Ent.refl,?_⟩
       refine Ax ?_
       exact ⟨k,Nat.lt_succ_self k,_,hk,_,8,by simp [Ae],by simp [Ae],Nat.le_refl _,rfl⟩
     refine AW.toK (K:=fun st'=>st'=⟨Ag (Ag Az 0 yv) 1 (.ptr 4 0 0),Db rr.1 rr.2.1 rr.2.2 tl,8⟩)<|Dq [0,1] fun K hK=>?_
     simp only [go_sem,seval,Sy el48 sz3 (Oc _) htl]
     subst hK
     refine ⟨rfl,_,?_,rfl⟩
     exact Bu [] _ _ _ rfl (by first|decide|simp) rfl ((RF.any.put (htyv _) (.of (by simp [Dx,Ej,Ae,hmyv]))).pp (by decide) (by first|rfl|simp [Ae,Ap,Cv,Bh,Bb,Db])) (.cons (.eq (by simp only [go_sem]) (by first|rfl|simp [Ae,Ap,Cv,Bh,Bb,Db])) (.cons (.tok (by simp [Bn,By,Cy]) (by first|rfl|simp [Ae,Ap,Cv,Bh,Bb,Db])) (.cons (.eq (by simp only [go_sem]) (by first|rfl|simp [Ae,Ap,Cv,Bh,Bb,Db])) (.cons (.eq (by simp only [go_sem]) (by first|rfl|simp [Ae,Ap,Cv,Bh,Bb,Db])) (.cons (.eq (by simp only [go_sem]) (by first|rfl|simp [Ae,Ap,Cv,Bh,Bb,Db])) (.nil _)))))) (.nil _)
   refine AW.toK (K:=fun st'=>st'=⟨Ag (Ag (Ag (Ag Az 0 yv) 1 (.ptr 4 0 0)) 3 (.val (.int .i64 n))) 4 (.val (.bool is)),Db b many last l,8⟩)<|AW.block ?_
   refine AW.loopO (fun s=>⟨Ag (Ag (Ag (Ag Az 0 yv) 1 (.ptr 4 0 0)) 3 (.val (.int .i64 s))) 4 (.val (.bool is)),Db b many last l,8⟩) (fun z e st'=>e=Exit.exit 2∧st'=⟨Ag (Ag (Ag (Ag Az 0 yv) 1 (.ptr 4 0 0)) 3 (.val (.int .i64 z))) 4 (.val (.bool is)),Db b many last l,8⟩) hnn ?_ ?_ ?_
   · unfold Db
     subst hisd
     exact Bu [] _ _ _ rfl (by first|decide|simp) rfl ((((RF.any.put (htyv _) (.of (by simp [Dx,Ej,Ae,hmyv]))).pp (by decide) (by first|rfl|simp [Ae,Ap,Cv,Bh,Bb,Db])).pv (by first|rfl|simp only [go_sem]) (by first|rfl|simp [Ae,Ap,Cv,Bh,Bb,Db])).pv (by first|rfl|simp only [go_sem]) (by first|rfl|simp [Ae,Ap,Cv,Bh,Bb,Db])) (.cons (.eq (by simp only [go_sem]) (by first|rfl|simp [Ae,Ap,Cv,Bh,Bb,Db])) (.cons (.tok (by simp [Bn,By,Cy]) (by first|rfl|simp [Ae,Ap,Cv,Bh,Bb,Db])) (.cons (.eq (by simp only [go_sem]) (by first|rfl|simp [Ae,Ap,Cv,Bh,Bb,Db])) (.cons (.eq (by simp only [go_sem]) (by first|rfl|simp [Ae,Ap,Cv,Bh,Bb,Db])) (.cons (.eq (by simp only [go_sem]) (by first|rfl|simp [Ae,Ap,Cv,Bh,Bb,Db])) (.nil _)))))) (.nil _)
   · clear hnn hrun hrr htl hk
     rintro s x h
     rw [Rz] at h
     unfold Db
     by_cases c2:s=0
     · rw [if_pos c2] at h
       refine AW.seq (AW.seq ?_)
       refine Dq [0,1,3,4,30] fun K hK=>?_
       simp only [go_sem,seval,eq_true c2]
       subst hK
       refine Aa<|Bp rfl rfl<|AW.skip<|Aa<|AW.block<|Dq [0,1,3,4] fun K hK=>?_
       simp only [go_sem,seval]
       subst hK
       refine Ax<|Aa ?_
       refine ⟨_,oj h,?_⟩
       exact Bu [] _ _ _ rfl (by first|decide|simp) rfl ((((RF.any.put (htyv _) (.of (by simp [Dx,Ej,Ae,hmyv]))).pp (by decide) (by first|rfl|simp [Ae,Ap,Cv,Bh,Bb,Db])).pv (by first|rfl|simp only [go_sem]) (by first|rfl|simp [Ae,Ap,Cv,Bh,Bb,Db])).pv (by first|rfl|simp only [go_sem]) (by first|rfl|simp [Ae,Ap,Cv,Bh,Bb,Db])) (.cons (.eq (by simp only [go_sem]) (by first|rfl|simp [Ae,Ap,Cv,Bh,Bb,Db])) (.cons (.tok (by simp [Bn,By,Cy]) (by first|rfl|simp [Ae,Ap,Cv,Bh,Bb,Db])) (.cons (.eq (by simp only [go_sem]) (by first|rfl|simp [Ae,Ap,Cv,Bh,Bb,Db])) (.cons (.eq (by simp only [go_sem]) (by first|rfl|simp [Ae,Ap,Cv,Bh,Bb,Db])) (.cons (.eq (by simp only [go_sem]) (by first|rfl|simp [Ae,Ap,Cv,Bh,Bb,Db])) (.nil _)))))) (.nil _)
     · rw [if_neg c2] at h
       cases is with
       | true =>
         rw [if_pos rfl] at h
         refine AW.seq (AW.seq ?_)
         refine Bz [0,1,3,4,30] ?_
         refine Aa<|Bl rfl rfl<|AW.exit<|Af<|Af ?_
         refine ⟨_,oj h,_,?_,rfl,rfl⟩
         exact Bu [] _ _ _ rfl (by first|decide|simp) rfl ((((RF.any.put (htyv _) (.of (by simp [Dx,Ej,Ae,hmyv]))).pp (by decide) (by first|rfl|simp [Ae,Ap,Cv,Bh,Bb,Db])).pv (by first|rfl|simp only [go_sem]) (by first|rfl|simp [Ae,Ap,Cv,Bh,Bb,Db])).pv (by first|rfl|simp only [go_sem]) (by first|rfl|simp [Ae,Ap,Cv,Bh,Bb,Db])) (.cons (.eq (by simp only [go_sem]) (by first|rfl|simp [Ae,Ap,Cv,Bh,Bb,Db])) (.cons (.tok (by simp [Bn,By,Cy]) (by first|rfl|simp [Ae,Ap,Cv,Bh,Bb,Db])) (.cons (.eq (by simp only [go_sem]) (by first|rfl|simp [Ae,Ap,Cv,Bh,Bb,Db])) (.cons (.eq (by simp only [go_sem]) (by first|rfl|simp [Ae,Ap,Cv,Bh,Bb,Db])) (.cons (.eq (by simp only [go_sem]) (by first|rfl|simp [Ae,Ap,Cv,Bh,Bb,Db])) (.nil _)))))) (.nil _)
       | false =>
         rw [if_neg (by decide)] at h
         by_cases c3:s<(l.length:Int)
         · rw [if_pos c3] at h
           obtain ⟨tl2,htl2,h⟩:=bO h
           obtain ⟨e2,he2,h⟩:=bO h
           by_cases c4:e2=0
           · rw [if_pos c4] at h
             refine AW.seq (AW.seq ?_)
             refine Dq [0,1,3,4,30] fun K hK=>?_
             simp only [go_sem,seval,eq_false c2,eq_true c3,eq_true c4,Sy el48 sz3 (Oc _) htl2]
             refine arC.of (ok135 tl2 e2 he2) Tryz.call135 ?_
             simp only [go_sem,seval,eq_false c2,eq_true c3,eq_true c4,Sy el48 sz3 (Oc _) htl2]
             subst hK
             refine Aa<|Bp rfl rfl<|AW.skip<|Aa<|AW.block<|Bz [0,1,3,4] ?_
             refine Ax<|Aa ?_
             refine ⟨_,oj h,?_⟩
             exact Bu [] _ _ _ rfl (by first|decide|simp) rfl ((((RF.any.put (htyv _) (.of (by simp [Dx,Ej,Ae,hmyv]))).pp (by decide) (by first|rfl|simp [Ae,Ap,Cv,Bh,Bb,Db])).pv (by first|rfl|simp only [go_sem]) (by first|rfl|simp [Ae,Ap,Cv,Bh,Bb,Db])).pv (by first|rfl|simp only [go_sem]) (by first|rfl|simp [Ae,Ap,Cv,Bh,Bb,Db])) (.cons (.eq (by simp only [go_sem]) (by first|rfl|simp [Ae,Ap,Cv,Bh,Bb,Db])) (.cons (.tok (by simp [Bn,By,Cy]) (by first|rfl|simp [Ae,Ap,Cv,Bh,Bb,Db])) (.cons (.eq (by simp only [go_sem]) (by first|rfl|simp [Ae,Ap,Cv,Bh,Bb,Db])) (.cons (.eq (by simp only [go_sem]) (by first|rfl|simp [Ae,Ap,Cv,Bh,Bb,Db])) (.cons (.eq (by simp only [go_sem]) (by first|rfl|simp [Ae,Ap,Cv,Bh,Bb,Db])) (.nil _)))))) (.nil _)
           · rw [if_neg c4] at h
             refine AW.seq (AW.seq ?_)
             refine Dq [0,1,3,4,30] fun K hK=>?_
             simp only [go_sem,seval,eq_false c2,eq_true c3,eq_false c4,Sy el48 sz3 (Oc _) htl2]
             refine arC.of (ok135 tl2 e2 he2) Tryz.call135 ?_
             simp only [go_sem,seval,eq_false c2,eq_true c3,eq_false c4,Sy el48 sz3 (Oc _) htl2]
             subst hK
             refine Aa<|Bl rfl rfl<|AW.exit<|Af<|Af ?_
             refine ⟨_,oj h,_,?_,rfl,rfl⟩
             exact Bu [] _ _ _ rfl (by first|decide|simp) rfl ((((RF.any.put (htyv _) (.of (by simp [Dx,Ej,Ae,hmyv]))).pp (by decide) (by first|rfl|simp [Ae,Ap,Cv,Bh,Bb,Db])).pv (by first|rfl|simp only [go_sem]) (by first|rfl|simp [Ae,Ap,Cv,Bh,Bb,Db])).pv (by first|rfl|simp only [go_sem]) (by first|rfl|simp [Ae,Ap,Cv,Bh,Bb,Db])) (.cons (.eq (by simp only [go_sem]) (by first|rfl|simp [Ae,Ap,Cv,Bh,Bb,Db])) (.cons (.tok (by simp [Bn,By,Cy]) (by first|rfl|simp [Ae,Ap,Cv,Bh,Bb,Db])) (.cons (.eq (by simp only [go_sem]) (by first|rfl|simp [Ae,Ap,Cv,Bh,Bb,Db])) (.cons (.eq (by simp only [go_sem]) (by first|rfl|simp [Ae,Ap,Cv,Bh,Bb,Db])) (.cons (.eq (by simp only [go_sem]) (by first|rfl|simp [Ae,Ap,Cv,Bh,Bb,Db])) (.nil _)))))) (.nil _)
         · rw [if_neg c3] at h
           refine AW.seq (AW.seq ?_)
           refine Bz [0,1,3,4,30] ?_
           refine Aa<|Bl rfl rfl<|AW.exit<|Af<|Af ?_
           refine ⟨_,oj h,_,?_,rfl,rfl⟩
           exact Bu [] _ _ _ rfl (by first|decide|simp) rfl ((((RF.any.put (htyv _) (.of (by simp [Dx,Ej,Ae,hmyv]))).pp (by decide) (by first|rfl|simp [Ae,Ap,Cv,Bh,Bb,Db])).pv (by first|rfl|simp only [go_sem]) (by first|rfl|simp [Ae,Ap,Cv,Bh,Bb,Db])).pv (by first|rfl|simp only [go_sem]) (by first|rfl|simp [Ae,Ap,Cv,Bh,Bb,Db])) (.cons (.eq (by simp only [go_sem]) (by first|rfl|simp [Ae,Ap,Cv,Bh,Bb,Db])) (.cons (.tok (by simp [Bn,By,Cy]) (by first|rfl|simp [Ae,Ap,Cv,Bh,Bb,Db])) (.cons (.eq (by simp only [go_sem]) (by first|rfl|simp [Ae,Ap,Cv,Bh,Bb,Db])) (.cons (.eq (by simp only [go_sem]) (by first|rfl|simp [Ae,Ap,Cv,Bh,Bb,Db])) (.cons (.eq (by simp only [go_sem]) (by first|rfl|simp [Ae,Ap,Cv,Bh,Bb,Db])) (.nil _)))))) (.nil _)
   · rintro e st' ⟨rfl,rfl⟩
     refine ⟨_,Ent.refl,?_⟩
     refine Bc ?_
     exact ⟨rfl,_,Ent.refl,rfl⟩
 · rw [if_neg c1] at hs
   obtain rfl:=oi hs
   obtain rfl:=oi hk
   refine Bz [0,1,7] ?_
   refine Aa<|Two.AWH.cond (b:=false) rfl ?_
   refine Two.AWH.of (by dsimp only;omega) ?_
   refine AW.exit<|Af<|Af<|Bc ?_
   exact ⟨.inl rfl,rfl,by dsimp only;omega⟩
end Au
end Go.Proofs.Yt
namespace Go.Gm
def Act.app (ds:List Deferred) (a:Act):Act:={ a with defers:=a.defers++ds }
theorem Rr {ds:List Deferred} {a:Act} {d:Option Tmp} {v:Value}:(Act.app ds a).put d v=Act.app ds (a.put d v):=by cases d<;>rfl
theorem app_eval {ds:List Deferred} {a:Act}:(Act.app ds a).eval=a.eval:=by funext o;cases o<;>rfl
theorem oper_app {P:Program} {ds:List Deferred} {o:Oper} {a:Act} {w:World} {K K':Act→World→Prop} {Q Q':Exit→Act→World→Prop} (hQ:∀e a w,Q e a w→e=.normal) (hk:∀a w,K a w→K' (Act.app ds a) w)
    (h:o.wp P a w K Q):o.wp P (Act.app ds a) w K' Q':=by
  unfold Oper.wp at h ⊢
  rw [app_eval]
  generalize (execOp a.eval o).run P w=r at h ⊢
  cases r with
  | ok x w' =>
    cases x with
    | value v=>rw [Oper.upon_value] at h ⊢;rw [Rr];exact hk _ _ h
    | skip=>rw [Oper.upon_skip] at h ⊢;rw [Rr];exact hk _ _ h
    | «defer» d =>
      rw [Oper.upon_defer] at h ⊢
      have e:({ Act.app ds a with defers:=d::(Act.app ds a).defers }:Act)=Act.app ds { a with defers:=d::a.defers }:=rfl
      rw [e,Rr];exact hk _ _ h
    | enter f args =>
      rw [Oper.upon_enter] at h ⊢
      refine Calls.mono h fun e w' he=>?_
      cases e with
      | returned v=>simp only at he ⊢;rw [Rr];exact hk _ _ he
      | panicked ch=>exact absurd (hQ _ _ _ he) (by simp)
      | outgrown=>obtain ⟨a,w,h⟩:=he;exact absurd (hQ _ _ _ h) (by simp)
    | row row args =>
      rw [Oper.upon_row] at h ⊢
      intro c cs
      obtain ⟨v,w',r,s⟩:=h c cs
      exact ⟨v,w',by dsimp only;rw [Rr];exact hk _ _ r,s⟩
    | _=>exact h.elim
  | halt x w' =>
    cases x with
    | panic v=>exact absurd (hQ _ _ _ h) (by simp)
    | _=>exact h.elim
theorem op_app {P:Program} {ds:List Deferred} {ops:Array Oper} {Q Q':Exit→Act→World→Prop} (hQ:∀e a w,Q e a w→e=.normal) {i:Nat} {K K':Act→World→Prop} (hk:∀a w,K a w→K' (Act.app ds a) w) {a:Act} {w:World} (h:wpOp P ops Q i K a w):wpOp P ops Q' i K' (Act.app ds a) w:=by
  unfold wpOp at h ⊢
  split
  · rename_i ho
    simp only [ho] at h
    exact hk _ _ h
  · rename_i o ho
    simp only [ho] at h
    have ht:(Act.app ds a).tmps=a.tmps:=rfl
    rw [ht]
    split
    · rename_i hw
      rw [if_pos hw] at h
      rcases h with h|h
      · exact .inl (oper_app hQ hk h)
      · obtain ⟨_,a,w,h⟩:=h
        exact absurd (hQ _ _ _ h) (by simp)
    · rename_i hw
      rw [if_neg hw] at h
      rw [Rr]
      exact hk _ _ h
theorem any_app {P:Program} {ds:List Deferred} {ops:Array Oper} {Q Q':Exit→Act→World→Prop} {md:Region.Mode} (hQ:∀e a w,Q e a w→e=.normal) (hk:∀a w,Q .normal a w→Q' .normal (Act.app ds a) w):∀(k:Nat) (listed:Array Bool) (a:Act) (w:World),wpAny P md ops Q k listed a w→wpAny P md ops Q' k listed (Act.app ds a) w
  | 0,listed,a,w,h=>⟨h.1,hk _ _ h.2⟩
  | k+1,listed,a,w,h=>⟨fun e=>hk _ _ (h.1 e),fun i hi=>op_app hQ (fun a w h=>any_app hQ hk k _ a w h) (h.2 i hi)⟩
theorem tail_draw {P:Program} {G:Ghost P} {N id:Nat} {ops:List Oper} {st:ASt} {D:Nat} {rs:List ResultVar} {X:AV} {loc:Nat→Option Loc} {a:Act} {w:World} (hd:a.defers=[{ target:=.collected D,args := #[] }]) (hD:w.heap[D]?=some (.deferred (some []))) (hGD:G.w0.heap.size≤D)
    (hB:MemB P (fun b=>G.m1 b∨b=D∨b=D+1) st.hp (fun t=>t<st.nx) loc w) (hH:Hist G st.hp (fun t=>t<st.nx) loc w) (hr:∀d,Rel (Bv (fun b=>G.m1 b∨b=D∨b=D+1) st.hp (fun t=>t<st.nx) loc w) (st.fr d) (a.tmps.getD d undef))
    (h8:8≤st.nx) (hsz:a.tmps.size=N) (l:List Nat) (A:List (List Nat)) (ord:List Nat) (ft:FuncId→List AV→Option AV) (hft:Uv P ft) (hm:P.follows .mixedOrders=true) (hs:Ls A ord ops=true) (hp:Mi A ord ops=true)
    (h:Ea P ft N ops A st.nx (pick ops ord) st.fr st.hp [] fun fr hp=>RetK P N rs X ⟨restr fr l,hp,st.nx+8*ops.length⟩):(Code.seq (.region id ops.toArray true) .ret).wp P (FinM G rs X) a w:=by
  have hM:=hB.mem (fun t (ht:t<8)=>Nat.lt_of_lt_of_le ht h8)
  refine wp_seq (wp_region_any hm ?_)
  have hc:Kz hB.g N st { a with defers:=[] } w:=⟨rfl,hsz,loc,hM,hr⟩
  have ha:a=Act.app [{ target:=.collected D,args := #[] }] { a with defers:=[] }:=by simp only [Act.app,List.nil_append];rw [←hd]
  have h1:=draw_any (Q:=fun s=>RetK P N rs X ⟨restr s.fr l,s.hp,s.nx⟩) A ord ft hft hs hp hc h
  rw [ha]
  refine any_app (fun e a w h=>h.1) ?_ _ _ _ _ h1
  rintro a' w' ⟨-,s,hs,hc'⟩
  obtain ⟨s2,hE,hfin⟩:=hs
  have hd':a'.defers=[]:=hc'.1
  obtain ⟨e1,e2,loc1,hM1,hr1⟩:=hE P _ _ _ (Ent.restr l P _ _ _ hc')
  refine wp_ret ⟨.inr rfl,D,s2,loc1,?_,(hB.kept hM1 (.inr (.inl rfl))).trans hD,hGD,hB.back hM1,hH.back hB hM1,hr1,hfin⟩
  simp only [Act.app,hd',List.nil_append]
end Go.Gm
namespace Go.Gm
theorem oneAV_clo {hp:Am} (g:Fn) (f c:List AV):Dj hp (.clo g f c)=true:=by simp only [Dj]
theorem cellsOf_clo (g:Fn) (f c:List AV):cellsOf (.clo g f c)=[.clo g f c]:=rfl
end Go.Gm
namespace Go.Proofs.Yt
open Go.Gm
namespace Au
theorem ic110 (l:List Int):IC Tryz.prog 110 [] [.sl (List.map Bk l)] (.clo (.func 134) [] [.ptr 8 0 0]) [] [some (.row 1 true [[.sl (List.map Bk l)]])]:=by
 refine Oe (N:=4) (rs:=[.tmp 2]) Tryz.func110 rfl rfl rfl (Nat.le_of_ble_eq_true rfl)<|Ac [1] ?_
 refine Ac [2] ?_
 refine AW.ret ?_
 refine ⟨⟨Ag Az 2 (.clo (.func 134) [] [.ptr 8 0 0]),Bo [] [some (.row 1 true [[.sl (List.map Bk l)]])],9⟩,?_,?_⟩
 · refine Bu [8] _ _ _ rfl (by first|decide|simp) rfl ?_ (.nil _) (.cons (.eq (by simp only [go_sem]) (by first|rfl|simp [Ae,Ap,Cv])) (.nil _))
   exact RF.any.put (by simp [Bn,By]) (.of (by simp [Ae,Cv,Bh,Bb]))
 exact ⟨rfl,rfl,_,rfl,by first|rfl|simp [Cu,Ae]⟩
def f80 (a0:List Int):Option (List Int×Int):=(f58 a0).bind fun ok=>(Dt (ok=true)).bind fun _=>(loopO Nb (a0,[],0, -1)).bind fun r=>(f109 [] (IntKind.u64.wrap r.2.1)).bind fun h=>(Bq h r.1).bind fun o=>some (o,0)
theorem ok80 (a0:List Int) (r:List Int×Int) (h:f80 a0=some r):PC Tryz.prog 80 [.sl (List.map Bk a0)] (.tup [.fr 1 (List.map Aw r.1),.val (.int .i64 r.2)]):=by
 obtain ⟨ok,hok,h⟩:=bO h
 obtain ⟨gu,hg,h2⟩:=bO h
 clear h
 have hg2:ok=true:=guardO_some.1 hg
 rw [hg2] at hok
 clear hg hg2
 obtain ⟨q,hq,h⟩:=bO h2
 obtain ⟨hd,hhd,h⟩:=bO h
 obtain ⟨o,ho,h⟩:=bO h
 obtain rfl:=Option.some.inj h
 dsimp only
 refine Wy (N:=77) (rs:=[.tmp 2,.tmp 3]) Tryz.func80 rfl rfl rfl (Nat.le_of_ble_eq_true rfl) fun G hn0=>?_
 refine Cont.reg [0] ?_
 generalize hK:Cont G _ _ _=K
 simp only [go_sem,seval]
 subst hK
 refine Cont.seq ?_
 refine Cont.reg [0,14] ?_
 generalize hK:Cont G _ _ _=K
 simp only [go_sem,seval]
 refine arC.of (ok58 a0 true hok) Tryz.call58 ?_
 simp only [go_sem,seval]
 subst hK
 refine Cont.condF rfl ?_
 refine Cont.reg [0,4] ?_
 generalize hK:Cont G _ _ _=K
 simp only [go_sem,seval]
 subst hK
 refine Cont.reg [0,4,5] ?_
 generalize hK:Cont G _ _ _=K
 simp only [go_sem,seval,oneAV_clo,cellsOf_clo]
 subst hK
 refine Cont.reg [0,4,5,6,7] ?_
 generalize hK:Cont G _ _ _=K
 simp only [go_sem,seval]
 subst hK
 refine Cont.seq ?_
 refine Cont.reg [4,5,6,7,17] ?_
 generalize hK:Cont G _ _ _=K
 simp only [go_sem,seval]
 refine arC.ok (CallOk.ic (us':=_) (ic110 a0) [] rfl (by decide) (by simp) (by simp) (by simp) (by simp) (.nil _) (by simp only [Dy,Ek,Ia];exact (.cons (.of rfl) .nil)) (by simp only [go_sem]) (by simp [AObj.isMut]) (by simp [go_sem]) (by simp [Bn,By])) Tryz.call110 ?_
 simp only [go_sem,seval]
 subst hK
 simp only [Gz,Gn,Dy,Ek,Rs,List.length_nil,Nat.not_lt_zero,if_false,Nat.reduceLT,Nat.reduceSub,Nat.reduceAdd]
 refine Cont.ent (Kv (cs':=[.sl (List.map Aw [])]) 48 (by simp [Ae];rfl) rfl (.cons Weak.nil .nil)) ?_
 refine Cont.ren (st':=⟨frP,Db [] 0 (-1) a0,8⟩) hn0 (fun t=>if t=0 then 48 else if t=1 then 64 else if t=2 then 80 else if t=3 then 88 else if t=4 then 120 else t) ?_ ?_ ?_ ?_ ?_
 · intro i j (hi:i<8) (hj:j<8) hni hnj h
   have key:∀q,q<8→Db [] 0 (-1) a0 q≠none→q<5:=fun q hq hne=>by
     rcases (show q<5∨(4<q∧q<8) by omega) with e|e
     · exact e
     · refine absurd ?_ hne
       simp only [Db,Ap]
       rw [if_pos e.2,List.getElem?_eq_none (by simp;omega)];rfl
   have h1:=key i hi hni
   have h2:=key j hj hnj
   rcases (show i=0∨i=1∨i=2∨i=3∨i=4 by omega) with rfl|rfl|rfl|rfl|rfl<;>rcases (show j=0∨j=1∨j=2∨j=3∨j=4 by omega) with rfl|rfl|rfl|rfl|rfl<;>first|rfl|(exfalso;revert h;decide)
 · intro t (ht:t<8)
   rcases (show t=0∨t=1∨t=2∨t=3∨t=4∨(4<t∧t<8) by omega) with rfl|rfl|rfl|rfl|rfl|e
   · exact ORen.eq (by simp only [go_sem]) (by simp [Ae,Ap])
   · exact ORen.tok (by simp [Bn,By,Cy]) (by simp [Ae,Ap,Bh,Bb])
   · exact ORen.eq (by simp only [go_sem]) (by simp [Ae,Ap])
   · exact ORen.eq (by simp only [go_sem]) (by simp [Ae,Ap])
   · exact ORen.eq (by simp only [go_sem]) (by simp [Ae,Ap])
   · have hnone:Db [] 0 (-1) a0 t=none:=by
       simp only [Db,Ap]
       rw [if_pos e.2,List.getElem?_eq_none (by simp;omega)];rfl
     show ORen _ _ _ (Db [] 0 (-1) a0 t)
     rw [hnone];exact .none _
 · intro t (ht:8≤t)
   simp only [Db,Ap]
   rw [if_neg (by omega),List.getElem?_eq_none (by simp)];rfl
 · exact (((((RF.any.put (by simp [Bn]) (.of (by simp [Dx,Ej,Ae,Bh]))).put (by simp [Bn]) (.of (by simp [Dx,Ej,Ae,Bh]))).put (by simp [Bn]) (.of (by simp [Dx,Ej,Ae,Bh]))).put (by simp [Bn]) (.of (by simp [Dx,Ej,Ae,Bh]))).put (by simp [Bn,By]) (.of (by simp [Dx,Ej,Ae,Bh,Bb])))
 refine Cont.block ?_
 intro a w hc
 have hc0:a.defers=[]:=hc.1
 have hcs:a.tmps.size=77:=hc.2.1
 refine Two.range_wp (gf:=134) (fg:=Tryz.f134) (caps:=[.ptr 4 0 0]) (K:=fun hp nx=>hp=Db q.1 q.2.1 q.2.2.1 q.2.2.2∧8≤nx) hc rfl Tryz.func134 rfl Tryz.call134 rfl (by decide) ?_ (Nat.le_of_ble_eq_true rfl) (Nat.le_of_ble_eq_true rfl) hn0 (fun H h1 h2 h3 h4 h5 h6=>?_) ?_
 · exact Hi (Hi (Hi (Hi (Hi Te (by simp [Bn])) (by simp [Bn])) (by simp [Bn])) (by simp [Bn])) (by simp [Bn,By])
 · exact cuts_aw a0 q hq H h1 (by rw [h2,h3];rfl) h4 h5 h6 _ rfl
 · rintro D hp' nx' loc' w' ⟨rfl,hnx⟩ hD hGD hB hH hr
   obtain ⟨hob,hoe⟩:=appO?_some.1 ho
   have hf:∀id z:Nat,Dw 1 1 id (List.map Aw q.1) 0 hd.length z (some (.row 1 true (List.map Aw hd)))=some ⟨.own id 0 o.length,[(z,none),(id,some (.row 1 true (List.map Aw o)))]⟩:=fun id z=>by
     subst hoe;rw [Bw (by simp) (by simpa using hob) (by decide)];simp
   refine tail_draw (N:=77) (st:=⟨frP,Db q.1 q.2.1 q.2.2.1 q.2.2.2,nx'⟩) (by rw [hc0];rfl) hD hGD hB hH hr (by dsimp only;omega) hcs [2,3] [[],[0],[0,1],[],[0,1,2,3],[0,1,2,3,4],[0,1,2,3,4,5]] [0,1,2,3,4,5,6] Fq (fun _ _ _ h=>by simp [Fq] at h) draws (by kernel_rfl) (by kernel_rfl) ?_
   generalize hK:(fun (fr:Nat→AV) (hp:Am)=>_)=K
   unfold frP Db
   simp only [go_sem,seval,hf]
   refine Em (ok109 [] _ hd hhd) Tryz.call109 El (by simp only [go_sem,seval,List.nil_append,List.append_nil]) (by simp only [go_sem,seval]) ?_
   simp only [go_sem,seval,hf]
   subst hK
   refine RetK.fin ?_
   simp only [go_sem,seval,Ay]<;>try simp
def Lz (a0:List Int) (a1:Int):Int→Option (Int⊕Int)
  | s2_0=>(if (IntKind.i64.wrap (a1+s2_0))<(a0.length:Int) then ((ix a0 (IntKind.i64.wrap (a1+s2_0))).bind fun x28=>((ix a0 (IntKind.i64.wrap ((IntKind.i64.wrap (a1+s2_0))-1))).bind fun x29=>((ix a0 (IntKind.i64.wrap (a1+1))).bind fun x30=>((ix a0 a1).bind fun x31=>(if (IntKind.i64.wrap (x28-x29))=(IntKind.i64.wrap (x30-x31)) then some (.inl (IntKind.i64.wrap (s2_0+1))) else some (.inr s2_0)))))) else some (.inr s2_0))
def f89 (a0:List Int) (a1:Int):Option Int:=((loopO (Lz a0 a1) 2).bind fun y34=>(if y34<3 then some 0 else (if (a0.length:Int)≤(IntKind.i64.wrap (a1+2)) then some 0 else some y34)))
theorem ok89 (a0:List Int) (a1:Int) (r:Int) (h:f89 a0 a1=some r):PC Tryz.prog 89 [.sl (List.map Bk a0),.val (.int .i64 a1)] (.val (.int .i64 r)):=by
 rw [f89] at h
 refine Bi (N:=51) (rs:=[.tmp 4]) Tryz.func89 ?_
 refine Ac [0,1] ?_
 refine Ac [0,1,5] ?_
 refine AW.seq<|AW.block ?_
 obtain ⟨y34,hy34,h⟩:=bO h
 refine AW.loopO (fun s=>⟨(Ag (Ag (Ag Az 0 (.sl (List.map Bk a0))) 1 (.val (.int .i64 a1))) 5 (.val (.int .i64 s))),Bo [] [],8⟩) (fun z e st'=>e=Exit.exit 0∧st'=⟨(Ag (Ag (Ag Az 0 (.sl (List.map Bk a0))) 1 (.val (.int .i64 a1))) 5 (.val (.int .i64 z))),Bo [] [],8⟩) hy34 ?_ ?_ ?_
 ·exact Bg RF.any.qv.qv.qv
 ·clear h hy34
  rintro s2_0 x h
  rw [Lz] at h
  refine AW.seq ?_
  rcases Aq h with ⟨c27,h⟩|⟨c27,h⟩
  ·obtain ⟨x28,hx28,h⟩:=bO h
   obtain ⟨hx28a,hx28b⟩:=ix_some.1 hx28
   obtain ⟨x29,hx29,h⟩:=bO h
   obtain ⟨hx29a,hx29b⟩:=ix_some.1 hx29
   obtain ⟨x30,hx30,h⟩:=bO h
   obtain ⟨hx30a,hx30b⟩:=ix_some.1 hx30
   obtain ⟨x31,hx31,h⟩:=bO h
   obtain ⟨hx31a,hx31b⟩:=ix_some.1 hx31
   refine Dm [0,1,5,38] [0,0,3,0,8,31,63,127,127,127,895,2047,4095,127,127,127,49279,114815,254079,516223,1048575,127,127,4194431,14680191,31457407,127,127,201326719,469762175,1071644799,2147483647,4294967295] ?_
   generalize hK:AW Tryz.prog _ _ _=K
   simp only [go_sem,seval,eq_true c27,Ah hx28a,hx28b,Ah hx29a,hx29b,Ah hx30a,hx30b,Ah hx31a,hx31b]
   subst hK
   rcases Aq h with ⟨c32,h⟩|⟨c32,h⟩
   ·refine Aj rfl c32<|AW.skip<|Aa<|AW.block<|Bz [0,1,5] ?_
    refine Ax<|Aa ?_
    refine ⟨_,oj h,?_⟩
    exact Bg RF.any.qv.qv.qv
   ·refine Ai rfl c32<|AW.exit<|Af<|Af ?_
    refine ⟨_,oj h,_,?_,rfl,rfl⟩
    exact Bg RF.any.qv.qv.qv
  ·refine Dm [0,1,5,38] [0,0,3,0,8,31,63,127,127,127,895,2047,4095,127,127,127,49279,114815,254079,516223,1048575,127,127,4194431,14680191,31457407,127,127,201326719,469762175,1071644799,2147483647,4294967295] ?_
   generalize hK:AW Tryz.prog _ _ _=K
   simp only [go_sem,seval,eq_false c27]
   subst hK
   refine Bl rfl rfl<|AW.exit<|Af<|Af ?_
   refine ⟨_,oj h,_,?_,rfl,rfl⟩
   exact Bg RF.any.qv.qv.qv
 ·intro e st' hX
  try dsimp only at h
  try dsimp only at hX
  obtain ⟨rfl,rfl⟩:=hX
  refine ⟨_,Ent.refl,?_⟩
  refine Bc<|Aa<|AW.seq ?_
  rcases Aq h with ⟨c35,h⟩|⟨c35,h⟩
  ·refine Ao [5,49] ?_
   refine Bp rfl rfl<|Ao [4] ?_
   refine AW.ret<|Ad ?_
   obtain rfl:=oi h
   (simp only [go_sem,seval,Ay]<;>try simp)
  ·refine Ao [5,49] ?_
   rcases Aq h with ⟨c36,h⟩|⟨c36,h⟩
   ·refine Aj rfl c36<|Ac [4] ?_
    refine AW.ret<|Ad ?_
    obtain rfl:=oi h
    (simp only [go_sem,seval,Ay]<;>try simp)
   ·refine Ai rfl c36<|AW.skip<|Aa<|Ac [4] ?_
    refine AW.ret ?_
    obtain rfl:=oi h
    (simp only [go_sem,seval,Ay]<;>try simp)
def Lf (a0:List Int) (s1_3:Int):Int→Option (Int⊕Int)
  | s18_0=>(if (IntKind.i64.wrap (s1_3+s18_0))<(a0.length:Int) then ((f89 a0 (IntKind.i64.wrap (s1_3+s18_0))).bind fun x232=>(if x232=0 then some (.inl (IntKind.i64.wrap (s18_0+1))) else some (.inr s18_0))) else some (.inr s18_0))
def Mn (a0:List Int) (s1_3:Int) (y235:Int):(List Int)×Int×Int→Option (((List Int)×Int×Int)⊕(List Int))
  | (s19_0,s19_1,s19_2)=>(if s19_2<(IntKind.i64.wrap (s1_3+y235)) then ((ix a0 s19_2).bind fun x250=>((f88 (IntKind.u64.wrap (IntKind.i64.wrap ((IntKind.i64.wrap (x250-s19_1))-1)))).bind fun x251=>((Bq s19_0 x251).bind fun x252=>some (.inl (x252,x250,IntKind.i64.wrap (s19_2+1)))))) else some (.inr s19_0))
def Qq (a0:List Int) (s1_1:Int) (s1_3:Int):(List Int)×Int→Option (((List Int)×Int×Int×Int)⊕(Int×(List Int)))
  | (j3_0,j3_1)=>((ix a0 (IntKind.i64.wrap ((IntKind.i64.wrap (s1_3+j3_1))-1))).bind fun x207=>some (.inl (j3_0,IntKind.i64.wrap (s1_1+1),x207,IntKind.i64.wrap (s1_3+j3_1))))
def Oi (a0:List Int):(List Int)×Int×Int×Int→Option (((List Int)×Int×Int×Int)⊕(Int×(List Int)))
  | (s1_0,s1_1,s1_2,s1_3)=>(if s1_3<(a0.length:Int) then ((f89 a0 s1_3).bind fun x167=>(if 0<x167 then ((f88 (IntKind.u64.wrap (IntKind.i64.wrap ((IntKind.i64.wrap (2*x167))+1)))).bind fun x209=>((Bq s1_0 x209).bind fun x210=>((ix a0 s1_3).bind fun x211=>((f88 (IntKind.u64.wrap (IntKind.i64.wrap ((IntKind.i64.wrap (x211-s1_2))-1)))).bind fun x212=>((Bq x210 x212).bind fun x213=>((ix a0 (IntKind.i64.wrap (s1_3+1))).bind fun x214=>((f88 (IntKind.u64.wrap (IntKind.i64.wrap ((IntKind.i64.wrap (x214-x211))-1)))).bind fun x215=>((Bq x213 x215).bind fun x216=>Qq a0 s1_1 s1_3 (x216,x167))))))))) else ((loopO (Lf a0 s1_3) 1).bind fun y235=>((f88 (IntKind.u64.wrap (IntKind.i64.wrap (2*y235)))).bind fun x236=>((Bq s1_0 x236).bind fun x237=>((loopO (Mn a0 s1_3 y235) (x237,s1_2,s1_3)).bind fun y254=>Qq a0 s1_1 s1_3 (y254,y235))))))) else some (.inr (s1_1,s1_0)))
def f52 (a0:List Int):Option (List Int):=((loopO (Oi a0) ([],0,(-1),0)).bind fun y255=>match y255 with|(y256,y257)=>((f88 (IntKind.u64.wrap y256)).bind fun x258=>((Bq x258 y257).bind fun x259=>some x259)))
theorem ok52 (a0:List Int) (r:(List Int)) (h:f52 a0=some r):PC Tryz.prog 52 [.sl (List.map Bk a0)] (.fr 1 (List.map Aw r)):=by
 rw [f52] at h
 refine Bi (N:=111) (rs:=[.tmp 2]) Tryz.func52 ?_
 refine Ac [0] ?_
 refine Ac [0,3] ?_
 refine Ac [0,3,4,5,6] ?_
 refine AW.seq<|AW.block ?_
 obtain ⟨y255,hy255,h⟩:=bO h
 refine AW.loopO (fun s=>⟨(Ag (Ag (Ag (Ag (Ag Az 0 (.sl (List.map Bk a0))) 3 (.own 8 0 s.1.length)) 4 (.val (.int .i64 s.2.1))) 5 (.val (.int .i64 s.2.2.1))) 6 (.val (.int .i64 s.2.2.2))),Bo [] [some (.row 1 true (List.map Aw s.1))],9⟩) (fun z e st'=>e=Exit.exit 0∧st'=⟨(Ag (Ag Az 3 (.own 8 0 z.2.length)) 4 (.val (.int .i64 z.1))),Bo [] [some (.row 1 true (List.map Aw z.2))],9⟩) hy255 ?_ ?_ ?_
 ·refine Ent.trans (Av 3 1 (by decide) rfl) ?_
  exact Ab [48] RF.any.qv.qo.qv.qv.qv (.nil _) (.ce (.nil _))
 ·clear h hy255
  rintro ⟨s1_0,s1_1,s1_2,s1_3⟩ x h
  rw [Oi] at h
  refine AW.seq<|Ac [0,3,4,5,6,13] ?_
  rcases Aq h with ⟨c166,h⟩|⟨c166,h⟩
  ·refine Aj rfl c166<|AW.skip<|Aa<|AW.block<|Ac [0,3,4,5,6] ?_
   obtain ⟨x167,hx167,h⟩:=bO h
   refine Bx [0,3,4,5,6,7] (ok89 a0 s1_3 x167 hx167) Tryz.call89 ?_
   refine AW.join (fun s=>⟨(Ag (Ag (Ag (Ag (Ag Az 0 (.sl (List.map Bk a0))) 3 (.own 8 0 s.1.length)) 4 (.val (.int .i64 (IntKind.i64.wrap (s1_1+1))))) 6 (.val (.int .i64 s1_3))) 7 (.val (.int .i64 s.2))),Bo [] [some (.row 1 true (List.map Aw s.1))],9⟩) (fun s=>Qq a0 s1_1 s1_3 s=some x) ?_ ?_
   ·refine Eb [0,3,4,5,6,7,20] ?_
    rcases Aq h with ⟨c208,h⟩|⟨c208,h⟩
    ·refine Aj rfl c208 ?_
     obtain ⟨x209,hx209,h⟩:=bO h
     obtain ⟨x210,hx210,h⟩:=bO h
     obtain ⟨hx210b,hx210e⟩:=appO?_some.1 hx210
     have hx210f:∀id o:Nat,Dw 1 1 id (List.map Aw x209) 0 s1_0.length o (some (.row 1 true (List.map Aw s1_0)))=some ⟨.own id 0 x210.length,[(o,none),(id,some (.row 1 true (List.map Aw x210)))]⟩:=fun id o=>by
       subst hx210e;rw [Bw (by simp) (by simpa using hx210b) (by decide)];first|(simp [Aw];done)|(simp [Aw];omega)
     obtain ⟨x211,hx211,h⟩:=bO h
     obtain ⟨hx211a,hx211b⟩:=ix_some.1 hx211
     obtain ⟨x212,hx212,h⟩:=bO h
     obtain ⟨x213,hx213,h⟩:=bO h
     obtain ⟨hx213b,hx213e⟩:=appO?_some.1 hx213
     have hx213f:∀id o:Nat,Dw 1 1 id (List.map Aw x212) 0 x210.length o (some (.row 1 true (List.map Aw x210)))=some ⟨.own id 0 x213.length,[(o,none),(id,some (.row 1 true (List.map Aw x213)))]⟩:=fun id o=>by
       subst hx213e;rw [Bw (by simp) (by simpa using hx213b) (by decide)];first|(simp [Aw];done)|(simp [Aw];omega)
     obtain ⟨x214,hx214,h⟩:=bO h
     obtain ⟨hx214a,hx214b⟩:=ix_some.1 hx214
     obtain ⟨x215,hx215,h⟩:=bO h
     obtain ⟨x216,hx216,h⟩:=bO h
     obtain ⟨hx216b,hx216e⟩:=appO?_some.1 hx216
     have hx216f:∀id o:Nat,Dw 1 1 id (List.map Aw x215) 0 x213.length o (some (.row 1 true (List.map Aw x213)))=some ⟨.own id 0 x216.length,[(o,none),(id,some (.row 1 true (List.map Aw x216)))]⟩:=fun id o=>by
       subst hx216e;rw [Bw (by simp) (by simpa using hx216b) (by decide)];first|(simp [Aw];done)|(simp [Aw];omega)
     refine Nt [0,3,4,6,7] [0,0,2,6,14,30,63,0,0,384,896,0,3968,8064,16256,32767,65535,0,0,262144,917504,1966080,0,0,12582912,29360128,66977792,134086656,268304384,536870911,1073741823,2147483647] ?_
     generalize hK:Kj _ _ Exit.normal=K
     simp only [go_sem,seval,hx210f,Ah hx211a,hx211b,hx213f,Ah hx214a,hx214b,hx216f]
     refine Em (ok88 (IntKind.u64.wrap (IntKind.i64.wrap ((IntKind.i64.wrap (2*x167))+1))) x209 hx209) Tryz.call88 El (by simp only [go_sem,seval,hx210f,Ah hx211a,hx211b,hx213f,Ah hx214a,hx214b,hx216f]) (by simp only [go_sem,seval]) ?_
     simp only [go_sem,seval,hx210f,Ah hx211a,hx211b,hx213f,Ah hx214a,hx214b,hx216f]
     refine Em (ok88 (IntKind.u64.wrap (IntKind.i64.wrap ((IntKind.i64.wrap (x211-s1_2))-1))) x212 hx212) Tryz.call88 El (by simp only [go_sem,seval,hx210f,Ah hx211a,hx211b,hx213f,Ah hx214a,hx214b,hx216f]) (by simp only [go_sem,seval]) ?_
     simp only [go_sem,seval,hx210f,Ah hx211a,hx211b,hx213f,Ah hx214a,hx214b,hx216f]
     refine Em (ok88 (IntKind.u64.wrap (IntKind.i64.wrap ((IntKind.i64.wrap (x214-x211))-1))) x215 hx215) Tryz.call88 El (by simp only [go_sem,seval,hx210f,Ah hx211a,hx211b,hx213f,Ah hx214a,hx214b,hx216f]) (by simp only [go_sem,seval]) ?_
     simp only [go_sem,seval,hx210f,Ah hx211a,hx211b,hx213f,Ah hx214a,hx214b,hx216f]
     subst hK
     refine Aa ?_
     refine ⟨_,h,?_⟩
     exact Ab [353] RF.any.qv.qo.qv.qv.qv (.nil _) (.ce (.nil _))
    ·refine Ai rfl c208<|Ac [0,3,4,5,6,7] ?_
     refine AW.seq<|AW.block ?_
     obtain ⟨y235,hy235,h⟩:=bO h
     refine AW.loopO (fun s=>⟨(Ag (Ag (Ag (Ag (Ag (Ag Az 0 (.sl (List.map Bk a0))) 3 (.own 8 0 s1_0.length)) 4 (.val (.int .i64 (IntKind.i64.wrap (s1_1+1))))) 5 (.val (.int .i64 s1_2))) 6 (.val (.int .i64 s1_3))) 7 (.val (.int .i64 s))),Bo [] [some (.row 1 true (List.map Aw s1_0))],9⟩) (fun z e st'=>e=Exit.exit 2∧st'=⟨(Ag (Ag (Ag (Ag (Ag (Ag Az 0 (.sl (List.map Bk a0))) 3 (.own 8 0 s1_0.length)) 4 (.val (.int .i64 (IntKind.i64.wrap (s1_1+1))))) 5 (.val (.int .i64 s1_2))) 6 (.val (.int .i64 s1_3))) 7 (.val (.int .i64 z))),Bo [] [some (.row 1 true (List.map Aw s1_0))],9⟩) hy235 ?_ ?_ ?_
     ·exact Ab [8] RF.any.qv.qo.qv.qv.qv.qv (.nil _) (.ce (.nil _))
     ·clear h hy235
      rintro s18_0 x h
      rw [Lf] at h
      refine AW.seq ?_
      rcases Aq h with ⟨c231,h⟩|⟨c231,h⟩
      ·obtain ⟨x232,hx232,h⟩:=bO h
       refine AW.vC [0,3,4,5,6,7,65] (ok89 a0 (IntKind.i64.wrap (s1_3+s18_0)) x232 hx232) Tryz.call89 ?_
       rcases Aq h with ⟨c233,h⟩|⟨c233,h⟩
       ·refine Aj rfl c233<|AW.skip<|Aa<|AW.block<|AW.vY [0,3,4,5,6,7] ?_
        refine Ax<|Aa ?_
        refine ⟨_,oj h,?_⟩
        exact Ab [8] RF.any.qv.qo.qv.qv.qv.qv (.nil _) (.ce (.nil _))
       ·refine Ai rfl c233<|AW.exit<|Af<|Af ?_
        refine ⟨_,oj h,_,?_,rfl,rfl⟩
        exact Ab [8] RF.any.qv.qo.qv.qv.qv.qv (.nil _) (.ce (.nil _))
      ·refine Re [0,3,4,5,6,7,65] ?_
       refine Bl rfl rfl<|AW.exit<|Af<|Af ?_
       refine ⟨_,oj h,_,?_,rfl,rfl⟩
       exact Ab [8] RF.any.qv.qo.qv.qv.qv.qv (.nil _) (.ce (.nil _))
     ·intro e st' hX
      try dsimp only at h
      try dsimp only at hX
      obtain ⟨rfl,rfl⟩:=hX
      refine ⟨_,Ent.refl,?_⟩
      refine Bc<|Aa ?_
      obtain ⟨x236,hx236,h⟩:=bO h
      obtain ⟨x237,hx237,h⟩:=bO h
      obtain ⟨hx237b,hx237e⟩:=appO?_some.1 hx237
      have hx237f:∀id o:Nat,Dw 1 1 id (List.map Aw x236) 0 s1_0.length o (some (.row 1 true (List.map Aw s1_0)))=some ⟨.own id 0 x237.length,[(o,none),(id,some (.row 1 true (List.map Aw x237)))]⟩:=fun id o=>by
        subst hx237e;rw [Bw (by simp) (by simpa using hx237b) (by decide)];first|(simp [Aw];done)|(simp [Aw];omega)
      refine AW.vC [0,3,4,5,6,7] (ok88 (IntKind.u64.wrap (IntKind.i64.wrap (2*y235))) x236 hx236) Tryz.call88 ?_
      refine Ac [0,3,4,6,7,8] ?_
      refine Ac [0,3,4,6,7,8,9] ?_
      refine AW.block ?_
      obtain ⟨y254,hy254,h⟩:=bO h
      refine AW.loopO (fun s=>⟨(Ag (Ag (Ag (Ag (Ag (Ag (Ag Az 0 (.sl (List.map Bk a0))) 3 (.own 8 0 s.1.length)) 4 (.val (.int .i64 (IntKind.i64.wrap (s1_1+1))))) 6 (.val (.int .i64 s1_3))) 7 (.val (.int .i64 y235))) 8 (.val (.int .i64 s.2.1))) 9 (.val (.int .i64 s.2.2))),Bo [] [some (.row 1 true (List.map Aw s.1))],9⟩) (fun z e st'=>e=Exit.exit 4∧st'=⟨(Ag (Ag (Ag (Ag (Ag Az 0 (.sl (List.map Bk a0))) 3 (.own 8 0 z.length)) 4 (.val (.int .i64 (IntKind.i64.wrap (s1_1+1))))) 6 (.val (.int .i64 s1_3))) 7 (.val (.int .i64 y235))),Bo [] [some (.row 1 true (List.map Aw z))],9⟩) hy254 ?_ ?_ ?_
      ·exact Ab [49] RF.any.qv.qo.qv.qv.qv.qv.qv (.nil _) (.ce (.nil _))
      ·clear h hy254
       rintro ⟨s19_0,s19_1,s19_2⟩ x h
       rw [Mn] at h
       refine AW.seq<|Ac [0,3,4,6,7,8,9,80] ?_
       rcases Aq h with ⟨c249,h⟩|⟨c249,h⟩
       ·refine Aj rfl c249<|AW.skip<|Aa<|AW.seq<|AW.block ?_
        obtain ⟨x250,hx250,h⟩:=bO h
        obtain ⟨hx250a,hx250b⟩:=ix_some.1 hx250
        obtain ⟨x251,hx251,h⟩:=bO h
        obtain ⟨x252,hx252,h⟩:=bO h
        obtain ⟨hx252b,hx252e⟩:=appO?_some.1 hx252
        have hx252f:∀id o:Nat,Dw 1 1 id (List.map Aw x251) 0 s19_0.length o (some (.row 1 true (List.map Aw s19_0)))=some ⟨.own id 0 x252.length,[(o,none),(id,some (.row 1 true (List.map Aw x252)))]⟩:=fun id o=>by
          subst hx252e;rw [Bw (by simp) (by simpa using hx252b) (by decide)];first|(simp [Aw];done)|(simp [Aw];omega)
        refine AW.vC [0,3,4,6,7,9] (ok88 (IntKind.u64.wrap (IntKind.i64.wrap ((IntKind.i64.wrap (x250-s19_1))-1))) x251 hx251) Tryz.call88 ?_
        refine AW.vY [0,3,4,6,7,8,9] ?_
        refine Ax<|Aa<|Cd [0,3,4,6,7,8,9] ?_
        refine Aa ?_
        refine ⟨_,oj h,?_⟩
        exact Ab [129] RF.any.qv.qo.qv.qv.qv.qv.qv (.nil _) (.ce (.nil _))
       ·refine Ai rfl c249<|AW.exit<|Af<|Af ?_
        refine ⟨_,oj h,_,?_,rfl,rfl⟩
        exact Ab [8] RF.any.qv.qo.qv.qv.qv (.nil _) (.ce (.nil _))
      ·intro e st' hX
       try dsimp only at h
       try dsimp only at hX
       obtain ⟨rfl,rfl⟩:=hX
       refine ⟨_,Ent.refl,?_⟩
       refine Bc<|Aa ?_
       refine ⟨_,h,?_⟩
       exact Ab [8] RF.any.qv.qo.qv.qv.qv (.nil _) (.ce (.nil _))
   ·clear h
    rintro ⟨j3_0,j3_1⟩ h
    rw [Qq] at h
    refine Ac [0,3,4,6] ?_
    obtain ⟨x207,hx207,h⟩:=bO h
    obtain ⟨hx207a,hx207b⟩:=ix_some.1 hx207
    refine Bz [0,3,4,5,6] ?_
    refine Ax<|Aa ?_
    refine ⟨_,oj h,?_⟩
    exact Ab [8] RF.any.qv.qo.qv.qv.qv (.nil _) (.ce (.nil _))
  ·refine Ai rfl c166<|AW.exit<|Af<|Af ?_
   refine ⟨_,oj h,_,?_,rfl,rfl⟩
   exact Ab [8] RF.any.qo.qv (.nil _) (.ce (.nil _))
 ·intro e st' hX
  obtain ⟨y256,y257⟩:=y255
  try dsimp only at h
  try dsimp only at hX
  obtain ⟨rfl,rfl⟩:=hX
  refine ⟨_,Ent.refl,?_⟩
  refine Bc<|Aa ?_
  obtain ⟨x258,hx258,h⟩:=bO h
  obtain ⟨x259,hx259,h⟩:=bO h
  obtain ⟨hx259b,hx259e⟩:=appO?_some.1 hx259
  have hx259f:∀id o:Nat,Dw 1 1 id (List.map Aw y257) 0 x258.length o (some (.row 1 true (List.map Aw x258)))=some ⟨.own id 0 x259.length,[(o,none),(id,some (.row 1 true (List.map Aw x259)))]⟩:=fun id o=>by
    subst hx259e;rw [Bw (by simp) (by simpa using hx259b) (by decide)];first|(simp [Aw];done)|(simp [Aw];omega)
  refine Kw [2] (ok88 (IntKind.u64.wrap y256) x258 hx258) Tryz.call88 ?_
  refine AW.ret ?_
  obtain rfl:=oi h
  (simp only [go_sem,seval,Ay]<;>try simp)
theorem E_byt {v:Int} {k:Nat} (h0:0≤v) (h1:1≤k) (h9:k≤9) (hb:k≤8→v<2 ^ (7*k)):Byt (E v k):=by
 intro x hx
 unfold E at hx
 split at hx
 ·rcases List.mem_cons.1 hx with rfl|hx
  ·omega
  ·obtain ⟨i,_,rfl⟩:=List.mem_map.1 hx;exact D_rng v 8 i
 ·rename_i h
  obtain ⟨i,hi,rfl⟩:=List.mem_map.1 hx
  by_cases hz:i=0
  ·rw [if_pos hz]
   have d0:=D_rng v k 0
   have dt:=D_top h0 h1 (by omega) (hb (by omega))
   have facts:0≤mk k∧mk k+2 ^ (8-k)≤256:=by
    have:k=1∨k=2∨k=3∨k=4∨k=5∨k=6∨k=7∨k=8:=by omega
    rcases this with rfl|rfl|rfl|rfl|rfl|rfl|rfl|rfl<;>decide
   omega
  ·rw [if_neg hz];exact D_rng v k i
theorem vput {v:Int} (h0:0≤v) (h1:v<18446744073709551616):∃c,f88 v=some c∧(∀b:List Int,b.length≤30000000000→f109 b v=some (b++c))∧c.length≤9∧Byt c:=by
 obtain ⟨k,k1,k2,k3,k4,k5⟩:=size_ok h0
 exact ⟨E v k,ref_ok h0 h1 k1 k2 k4 k5,fun b hb=>put_ok h0 hb k1 k2 k3 k5,by rw [E_len];exact k2,E_byt h0 k1 k2 k5⟩
theorem vput64 (n:Int):∃c,f88 (IntKind.u64.wrap n)=some c∧(∀b:List Int,b.length≤30000000000→f108 n b=some (b++c))∧c.length≤9∧Byt c:=by
 obtain ⟨c,c1,c2,c3,c4⟩:=vput (Hy n).1 (Hy n).2
 exact ⟨c,c1,fun b hb=>by simp only [f108,c2 b hb,Option.bind_some],c3,c4⟩
theorem Ri {a:List Int} {at_ s:Nat} (h:at_+s<a.length):ix a ((at_+s:Nat):Int)=some a[at_+s]∧ix (a.drop at_) (s:Int)=some a[at_+s]:=by
 refine ⟨Ep h,?_⟩
 rw [Ep (show s<(a.drop at_).length by simp;omega)]
 simp
theorem even_eq (a:List Int) (hl:a.length≤1000000) (at_:Nat) (h:at_<a.length):∃n:Nat,f135 (a.drop at_)=some (n:Int)∧f89 a (at_:Int)=some (n:Int)∧(n=0∨3≤n∧at_+n≤a.length):=by
 have hd:(a.drop at_).length=a.length-at_:=by simp
 have wr:∀i:Nat,i≤2000000→IntKind.i64.wrap ((at_:Int)+(i:Int))=((at_+i:Nat):Int):=fun i hi=>by rw [Bf (by omega) (by omega)];omega
 have wr1:∀i:Nat,0<i→i≤2000000→IntKind.i64.wrap (((at_+i:Nat):Int)-1)=((at_+(i-1):Nat):Int):=fun i h0 hi=>by rw [Bf (by omega) (by omega)];omega
 have w1:IntKind.i64.wrap ((at_:Int)+1)=((at_+1:Nat):Int):=wr 1 (by omega)
 have w2:IntKind.i64.wrap ((at_:Int)+2)=((at_+2:Nat):Int):=wr 2 (by omega)
 have st:∀i:Nat,2≤i→i≤1000000→at_+i<a.length→∃(h1:at_+i<a.length) (h2:at_+(i-1)<a.length) (h3:at_+1<a.length),Lz a (at_:Int) (i:Int)=if IntKind.i64.wrap (a[at_+i]-a[at_+(i-1)])=IntKind.i64.wrap (a[at_+1]-a[at_+0]) then some (.inl ((i+1:Nat):Int)) else some (.inr (i:Int)):=fun i h2 hi hlt=>by
  refine ⟨hlt,by omega,by omega,?_⟩
  rw [Lz,wr i (by omega),if_pos (by omega),wr1 i (by omega) (by omega),w1,Ch (by omega),(Ri hlt).1,(Ri (show at_+(i-1)<a.length by omega)).1,(Ri (show at_+1<a.length by omega)).1]
  have:=(Ri (show at_+0<a.length by omega)).1
  simp only [Nat.add_zero] at this
  simp only [Option.bind_some,this,Nat.add_zero]
 have sx:∀i:Nat,¬at_+i<a.length→i≤1000000→Lz a (at_:Int) (i:Int)=some (.inr (i:Int)):=fun i hn hi=>by
  rw [Lz,wr i (by omega),if_neg (by omega)]
 by_cases h3:a.length-at_<3
 ·refine ⟨0,?_,?_,.inl rfl⟩
  ·rw [f135,if_pos (by omega)];rfl
  ·have:loopO (Lz a (at_:Int)) 2=some 2:=Al (sx 2 (by omega) (by omega))
   rw [f89,this];rfl
 ·obtain ⟨a1,a2,a3,e2⟩:=st 2 (by omega) (by omega) (by omega)
  have g0:(a.drop at_)[0]?=some a[at_+0]:=by simp [show at_<a.length by omega]
  have g1:(a.drop at_)[1]?=some a[at_+1]:=by simp [show at_+1<a.length by omega]
  have g2:(a.drop at_)[2]?=some a[at_+2]:=by simp [show at_+2<a.length by omega]
  by_cases hc:IntKind.i64.wrap (a[at_+2]-a[at_+1])=IntKind.i64.wrap (a[at_+1]-a[at_+0])
  ·have key:∃r r',loopO (Rm (a.drop at_) a[at_+1] a[at_+0]) 3=some r∧loopO (Lz a (at_:Int)) 3=some r'∧(∃n:Nat,r=(n:Int)∧r'=(n:Int)∧3≤n∧at_+n≤a.length):=by
    refine Dr (fun k s t=>s=t∧∃i:Nat,s=(i:Int)∧3≤i∧at_+i≤a.length∧k=a.length-i) ?_ (k:=a.length-3) ⟨rfl,3,rfl,by omega,by omega,rfl⟩
    rintro k _ _ ⟨rfl,i,rfl,h1,h2,hk⟩
    by_cases hlt:at_+i<a.length
    ·obtain ⟨b1,b2,b3,e⟩:=st i (by omega) (by omega) hlt
     have e':Rm (a.drop at_) a[at_+1] a[at_+0] (i:Int)=if IntKind.i64.wrap (a[at_+i]-a[at_+(i-1)])=IntKind.i64.wrap (a[at_+1]-a[at_+0]) then some (.inl ((i+1:Nat):Int)) else some (.inr (i:Int)):=by
      rw [Rm,if_pos (by omega),Pf (by omega) (by omega),Ch (by omega),(Ri hlt).2,(Ri (show at_+(i-1)<a.length by omega)).2]
      simp only [Option.bind_some]
     by_cases hq:IntKind.i64.wrap (a[at_+i]-a[at_+(i-1)])=IntKind.i64.wrap (a[at_+1]-a[at_+0])
     ·rw [if_pos hq] at e e'
      exact .inl ⟨_,_,k-1,e',e,by omega,rfl,i+1,rfl,by omega,by omega,by omega⟩
     ·rw [if_neg hq] at e e'
      exact .inr ⟨_,_,Al e',Al e,i,rfl,rfl,h1,h2⟩
    ·refine .inr ⟨_,_,Al ?_,Al (sx i hlt (by omega)),i,rfl,rfl,h1,h2⟩
     rw [Rm,if_neg (by omega)]
   obtain ⟨_,_,k1,k2,n,rfl,rfl,k3,k4⟩:=key
   refine ⟨n,?_,?_,.inr ⟨k3,k4⟩⟩
   ·rw [f135,if_neg (by omega)]
    simp only [g0,g1,g2,Option.bind_some]
    rw [if_pos hc,k1];rfl
   ·have e2':Lz a (at_:Int) 2=some (.inl 3):=by rw [if_pos hc] at e2;exact e2
    rw [f89,Bj e2',k2]
    simp only [Option.bind_some]
    rw [if_neg (by omega),w2,if_neg (by omega)]
  ·refine ⟨0,?_,?_,.inl rfl⟩
   ·rw [f135,if_neg (by omega)]
    simp only [g0,g1,g2,Option.bind_some]
    rw [if_neg hc];rfl
   ·have e2':Lz a (at_:Int) 2=some (.inr 2):=by rw [if_neg hc] at e2;exact e2
    rw [f89,Al e2'];rfl
theorem run_get {a:List Int} {at_ n:Nat} (h:at_+n≤a.length) {run:List Int} (hr:Dl (a.drop at_) 0 (n:Int)=some run):run.length=n∧∀i,(hi:i<n)→ix run (i:Int)=some (a[at_+i]'(by omega))∧run[i]?=some (a[at_+i]'(by omega)):=by
 obtain ⟨_,e⟩:=cutO?_some.1 hr
 have e':run=(a.drop at_).take n:=by rw [←e];simp
 subst e'
 have hlen:((a.drop at_).take n).length=n:=by simp;omega
 refine ⟨hlen,fun i hi=>?_⟩
 have:((a.drop at_).take n)[i]?=some (a[at_+i]'(by omega)):=by
  rw [List.getElem?_take_of_lt hi,List.getElem?_drop];simp [show at_+i<a.length by omega]
 exact ⟨by rw [ix_nat];exact this,this⟩
theorem even_s (a:List Int) (hl:a.length≤1000000) (at_:Nat) (h:at_<a.length):∃n:Nat,1≤n∧at_+n≤a.length∧loopO (Rz (a.drop at_) false) 0=some (n:Int)∧loopO (Lf a (at_:Int)) 1=some (n:Int):=by
 have hd:(a.drop at_).length=a.length-at_:=by simp
 have key:∃r r',loopO (Rz (a.drop at_) false) 1=some r∧loopO (Lf a (at_:Int)) 1=some r'∧(∃n:Nat,r=(n:Int)∧r'=(n:Int)∧1≤n∧at_+n≤a.length):=by
  refine Dr (fun k s t=>s=t∧∃i:Nat,s=(i:Int)∧1≤i∧at_+i≤a.length∧k=a.length-i) ?_ (k:=a.length-1) ⟨rfl,1,rfl,by omega,by omega,rfl⟩
  rintro k _ _ ⟨rfl,i,rfl,h1,h2,hk⟩
  have wr:IntKind.i64.wrap ((at_:Int)+(i:Int))=((at_+i:Nat):Int):=by rw [Bf (by omega) (by omega)];omega
  by_cases hlt:at_+i<a.length
  ·obtain ⟨m,m1,m2,_⟩:=even_eq a hl (at_+i) hlt
   have hc:Dl (a.drop at_) (i:Int) ((a.drop at_).length:Int)=some (a.drop (at_+i)):=cutO?_some.2 ⟨⟨by omega,by omega,by omega⟩,by
    rw [List.take_of_length_le (by simp;omega)];simp [List.drop_drop]⟩
   have e1:Rz (a.drop at_) false (i:Int)=if (m:Int)=0 then some (.inl ((i+1:Nat):Int)) else some (.inr (i:Int)):=by
    rw [Rz,if_neg (by omega),if_neg (by decide),if_pos (by omega),hc]
    simp only [Option.bind_some,m1,Ch (show i≤10000000000 by omega)]
   have e2:Lf a (at_:Int) (i:Int)=if (m:Int)=0 then some (.inl ((i+1:Nat):Int)) else some (.inr (i:Int)):=by
    rw [Lf,wr,if_pos (by omega),m2]
    simp only [Option.bind_some,Ch (show i≤10000000000 by omega)]
   by_cases hm:(m:Int)=0
   ·rw [if_pos hm] at e1 e2
    exact .inl ⟨_,_,k-1,e1,e2,by omega,rfl,i+1,rfl,by omega,by omega,by omega⟩
   ·rw [if_neg hm] at e1 e2
    exact .inr ⟨_,_,Al e1,Al e2,i,rfl,rfl,h1,h2⟩
  ·refine .inr ⟨_,_,Al ?_,Al ?_,i,rfl,rfl,h1,h2⟩
   ·rw [Rz,if_neg (by omega),if_neg (by decide),if_neg (by omega)]
   ·rw [Lf,wr,if_neg (by omega)]
 obtain ⟨_,_,k1,k2,n,rfl,rfl,k3,k4⟩:=key
 refine ⟨n,k3,k4,(Bj ?_).trans k1,k2⟩
 rw [Rz,if_pos rfl];rfl
theorem loose_eq (a:List Int) (hl:a.length≤1000000) (at_ n:Nat) (h:at_+n≤a.length) {run:List Int} (hr:Dl (a.drop at_) 0 (n:Int)=some run) (y:Int) (hy:IntKind.i64.wrap ((at_:Int)+y)=((at_+n:Nat):Int)) (b:List Int) (last:Int) (hb:b.length≤80000000) :
  ∃c l',loopO (put_s run) (0,b,last)=some (b++c,l')∧loopO (Mn a (at_:Int) y) (b,last,(at_:Int))=some (b++c)∧c.length≤9*n∧Byt c:=by
 obtain ⟨rl,rg⟩:=run_get h hr
 have key:∃r r',loopO (put_s run) (0,b,last)=some r∧loopO (Mn a (at_:Int) y) (b,last,(at_:Int))=some r'∧(∃c l',r=(b++c,l')∧r'=b++c∧c.length≤9*n∧Byt c):=by
  refine Dr (fun k s t=>∃(i:Nat) (c:List Int) (la:Int),s=((i:Int),b++c,la)∧t=(b++c,la,((at_+i:Nat):Int))∧i≤n∧c.length≤9*i∧Byt c∧k=n-i) ?_ (k:=n) ⟨0,[],last,by simp,by simp,by omega,by simp,(fun x hx=>by cases hx),rfl⟩
  rintro k _ _ ⟨i,c,la,rfl,rfl,hi,hc,hbc,hk⟩
  by_cases hlt:i<n
  ·obtain ⟨g1,g2⟩:=rg i hlt
   obtain ⟨d,d1,d2,d3,d4⟩:=vput64 (IntKind.i64.wrap (IntKind.i64.wrap (a[at_+i]'(by omega)-la)-1))
   have hap:Bq (b++c) d=some (b++(c++d)):=appO?_some.2 ⟨by simp;omega,by simp⟩
   refine .inl ⟨(((i+1:Nat):Int),b++(c++d),a[at_+i]'(by omega)),(b++(c++d),a[at_+i]'(by omega),((at_+(i+1):Nat):Int)),k-1,?_,?_,by omega,i+1,c++d,_,rfl,rfl,by omega,by simp;omega,fun x hx=>by
    rcases List.mem_append.1 hx with hx|hx
    ·exact hbc x hx
    ·exact d4 x hx,by omega⟩
   ·rw [put_s,if_pos (by omega),g1]
    simp only [Option.bind_some,d2 (b++c) (by simp;omega),Ch (show i≤10000000000 by omega),List.append_assoc]
   ·rw [Mn,hy,if_pos (by omega),Ep (show at_+i<a.length by omega)]
    simp only [Option.bind_some,d1,hap]
    rw [Ch (by omega)];rfl
  ·have:i=n:=by omega
   subst this
   refine .inr ⟨(b++c,la),b++c,Al ?_,Al ?_,c,la,rfl,rfl,hc,hbc⟩
   ·rw [put_s,if_neg (by omega)]
   ·rw [Mn,hy,if_neg (by omega)]
 obtain ⟨_,_,k1,k2,c,l',rfl,rfl,k3,k4⟩:=key
 exact ⟨c,l',k1,k2,k3,k4⟩
theorem Byt.app {a b:List Int} (ha:Byt a) (hb:Byt b):Byt (a++b):=fun x hx=>(List.mem_append.1 hx).elim (ha x) (hb x)
theorem step_eq (a:List Int) (hl:a.length≤1000000) (at_:Nat) (h:at_<a.length) (b:List Int) (many last:Int) (hb:b.length≤18*at_) (hm:0≤many∧many≤at_) :
  ∃(n:Nat) (c:List Int) (l':Int),1≤n∧at_+n≤a.length∧c.length≤18*n∧Byt c∧Nb (a.drop at_,b,many,last)=some (.inl (a.drop (at_+n),b++c,many+1,l'))∧Oi a (b,many,last,(at_:Int))=some (.inl (b++c,many+1,l',((at_+n:Nat):Int))):=by
 have hd:(a.drop at_).length=a.length-at_:=by simp
 have wm:IntKind.i64.wrap (many+1)=many+1:=Bf (by omega) (by omega)
 obtain ⟨m,m1,m2,m3⟩:=even_eq a hl at_ h
 have tail:∀n:Nat,at_+n≤a.length→Dl (a.drop at_) (n:Int) ((a.drop at_).length:Int)=some (a.drop (at_+n)):=fun n hn=>cutO?_some.2 ⟨⟨by omega,by omega,by omega⟩,by
  rw [List.take_of_length_le (by simp;omega)];simp [List.drop_drop]⟩
 have hx:∀n:Nat,1≤n→at_+n≤a.length→IntKind.i64.wrap (((at_+n:Nat):Int)-1)=((at_+(n-1):Nat):Int):=fun n h1 h2=>by rw [Bf (by omega) (by omega)];omega
 have wn:∀n:Nat,at_+n≤a.length→IntKind.i64.wrap ((at_:Int)+(n:Int))=((at_+n:Nat):Int):=fun n h2=>by rw [Bf (by omega) (by omega)];omega
 rcases m3 with rfl|⟨m3,m4⟩
 ·-- numbers one by one
  obtain ⟨n,n1,n2,n3,n4⟩:=even_s a hl at_ h
  obtain ⟨run,hr⟩:=Wf (b:=a.drop at_) (lo:=0) (hi:=(n:Int)) (by omega) (by omega) (by omega)
  obtain ⟨rl,rg⟩:=run_get n2 hr
  obtain ⟨d,d1,d2,d3,d4⟩:=vput64 (IntKind.i64.wrap (2*(n:Int)))
  obtain ⟨c,l',c1,c2,c3,c4⟩:=loose_eq a hl at_ n n2 hr (n:Int) (wn n n2) (b++d) last (by simp;omega)
  refine ⟨n,d++c,a[at_+(n-1)]'(by omega),n1,n2,by simp;omega,d4.app c4,?_,?_⟩
  ·rw [Nb,if_pos (by omega)]
   have e0:decide ((0:Int)<0)=false:=by decide
   have m1':f135 (a.drop at_)=some 0:=m1
   simp only [m1',Option.bind_some,e0,n3,hr,tail n n2,put_r]
   rw [if_neg (by decide)]
   have w:IntKind.i64.wrap ((run.length:Int)-1)=((n-1:Nat):Int):=by rw [rl,Bf (by omega) (by omega)];omega
   simp only [put_b,rl,d2 b (by omega),Option.bind_some,c1,List.append_assoc]
   have w':IntKind.i64.wrap ((n:Int)-1)=((n-1:Nat):Int):=by rw [Bf (by omega) (by omega)];omega
   simp only [w',(rg (n-1) (by omega)).1,Option.bind_some,wm]
  ·have m2':f89 a (at_:Int)=some 0:=m2
   rw [Oi,if_pos (by omega),m2']
   simp only [Option.bind_some]
   rw [if_neg (by decide),n4]
   simp only [Option.bind_some,d1,Ct (l:=b) (r:=d) (by omega) (by omega),c2,Qq,hx n n1 n2,Ep (show at_+(n-1)<a.length by omega),wm,wn n n2,List.append_assoc]
 ·obtain ⟨run,hr⟩:=Wf (b:=a.drop at_) (lo:=0) (hi:=(m:Int)) (by omega) (by omega) (by omega)
  obtain ⟨rl,rg⟩:=run_get m4 hr
  have hn:loopO (Rz (a.drop at_) true) (m:Int)=some (m:Int):=Al (by rw [Rz,if_neg (by omega),if_pos rfl])
  have ed:decide ((0:Int)<(m:Int))=true:=by simp;omega
  obtain ⟨d,d1,d2,d3,d4⟩:=vput64 (IntKind.i64.wrap (IntKind.i64.wrap (2*(m:Int))+1))
  obtain ⟨e,e1,e2,e3,e4⟩:=vput64 (IntKind.i64.wrap (IntKind.i64.wrap (a[at_+0]'(by omega)-last)-1))
  obtain ⟨g,g1,g2,g3,g4⟩:=vput64 (IntKind.i64.wrap (IntKind.i64.wrap (a[at_+1]'(by omega)-a[at_+0]'(by omega))-1))
  refine ⟨m,d++e++g,a[at_+(m-1)]'(by omega),by omega,m4,by simp;omega,(d4.app e4).app g4,?_,?_⟩
  ·rw [Nb,if_pos (by omega)]
   simp only [m1,Option.bind_some,ed,hn,hr,tail m m4,put_r,if_true]
   have w':IntKind.i64.wrap ((m:Int)-1)=((m-1:Nat):Int):=by rw [Bf (by omega) (by omega)];omega
   simp only [put_a,rl,d2 b (by omega),Option.bind_some,(rg 0 (by omega)).2,(rg 1 (by omega)).2,e2 (b++d) (by simp;omega),g2 (b++(d++e)) (by simp;omega),w',(rg (m-1) (by omega)).1,wm,List.append_assoc]
  ·rw [Oi,if_pos (by omega),m2]
   simp only [Option.bind_some]
   have w1:IntKind.i64.wrap ((at_:Int)+1)=((at_+1:Nat):Int):=wn 1 (by omega)
   have i0:ix a (at_:Int)=some (a[at_+0]'(by omega)):=Ep (by omega)
   rw [if_pos (by omega)]
   simp only [d1,Option.bind_some,Ct (l:=b) (r:=d) (by omega) (by omega),i0,e1,Ct (l:=b++d) (r:=e) (by simp;omega) (by omega),w1,Ep (show at_+1<a.length by omega),g1,Ct (l:=b++(d++e)) (r:=g) (by simp;omega) (by omega),Qq,hx m (by omega) m4,Ep (show at_+(m-1)<a.length by omega),wm,wn m m4,List.append_assoc]
theorem put_eqL (a:List Int) (h:Dg a):∃c,f80 a=some (c,0)∧f52 a=some c∧Byt c∧c.length≤1200000:=by
 have hll:=h.1
 have hl:a.length≤1000000:=by have:=h.1;omega
 have key:∃r r',loopO Nb (a,[],0, -1)=some r∧loopO (Oi a) ([],0, -1,0)=some r'∧(r.1=r'.2∧r.2.1=r'.1∧Byt r.1∧r.1.length≤18*a.length):=by
  refine Dr (fun k s t=>∃(at_:Nat) (b:List Int) (many last:Int),s=(a.drop at_,b,many,last)∧t=(b,many,last,(at_:Int))∧at_≤a.length∧b.length≤18*at_∧(0≤many∧many≤at_)∧Byt b∧k=a.length-at_) ?_ (k:=a.length) ⟨0,[],0, -1,by simp,rfl,by omega,by simp,⟨by omega,by omega⟩,(fun x hx=>by cases hx),rfl⟩
  rintro k _ _ ⟨at_,b,many,last,rfl,rfl,h1,h2,h3,h4,hk⟩
  by_cases hlt:at_<a.length
  ·obtain ⟨n,c,l',n1,n2,n3,n4,n5,n6⟩:=step_eq a hl at_ hlt b many last h2 h3
   exact .inl ⟨_,_,k-n,n5,n6,by omega,at_+n,b++c,many+1,l',rfl,rfl,n2,by simp;omega,⟨by omega,by omega⟩,h4.app n4,by omega⟩
  ·have:at_=a.length:=by omega
   subst this
   refine .inr ⟨(b,many,last,a.drop a.length),(many,b),Al ?_,Al ?_,rfl,rfl,h4,h2⟩
   ·rw [Nb,if_neg (by simp)]
   ·rw [Oi,if_neg (by omega)]
 obtain ⟨⟨b,many,last,rest⟩,⟨many',b'⟩,k1,k2,rfl,rfl,k3,k4⟩:=key
 simp only at k3 k4
 obtain ⟨c,c1,c2,c3,c4⟩:=vput (Hy many).1 (Hy many).2
 obtain ⟨v,v1,_,v2⟩:=nums_eq a hl
 have hv:v=true:=v2.2 h
 subst hv
 have hap:Bq c b=some (c++b):=appO?_some.2 ⟨by omega,rfl⟩
 refine ⟨c++b,?_,?_,c4.app k3,by rw [List.length_append];omega⟩
 ·simp only [f80,v1,Option.bind_some,Cw,k1,c2 [] (by simp),List.nil_append,hap]
 ·simp only [f52,k2,Option.bind_some,c1,hap]
theorem put_eq (a:List Int) (h:Dg a):∃c,f80 a=some (c,0)∧f52 a=some c∧Byt c :=
 let ⟨c,h1,h2,h3,_⟩:=put_eqL a h
 ⟨c,h1,h2,h3⟩
end Au
end Go.Proofs.Yt
namespace Go.Gm
abbrev MT:=List (Int×List ByteArray)
def strS (s:ByteArray):List AV:=[.val (.string s)]
theorem Tv (l:List ByteArray):Cy (l.map strS)=true:=Gq (fun _=>rfl) l
def rowT (x:Int×List ByteArray):Option AObj:=some (.row 1 true (x.2.map strS))
def Ew (T:MT):List Value:=T.map fun x=>Gp x.1
def Hk:List Nat→MT→List AV
 | i::I,x::T=>.own i 0 x.2.length::Hk I T
 | _,_=>[]
def mapO (T:MT):Option AObj:=some (.mapo (Ew T) (Hk (List.range' 9 T.length) T))
def hpT (T:MT):Am:=Bo [] (mapO T::T.map rowT)
theorem hpT_8 (T:MT):hpT T 8=mapO T:=rfl
theorem hpT_j (T:MT) {j:Nat} {x:Int×List ByteArray} (h:T[j]?=some x):hpT T (9+j)=rowT x:=by
 simp only [hpT,Ap,show ¬ 9+j<8 by omega,if_false,show 9+j-8=j+1 by omega,List.getElem?_cons_succ,List.getElem?_map,h,Option.map_some,Option.getD_some]
theorem Pz:∀{I:List Nat} {T:MT},I.length=T.length→(Hk I T).length=T.length
 | [],[],_=>rfl
 | i::I,x::T,h=>by simp [Hk,Pz (I:=I) (T:=T) (by simpa using h)]
theorem Tm:∀{I J:List Nat} {T U:MT},I.length=T.length→Hk (I++J) (T++U)=Hk I T++Hk J U
 | [],_,[],_,_=>rfl
 | i::I,_,x::T,_,h=>by simp [Hk,Tm (I:=I) (T:=T) (by simpa using h)]
theorem own_split (T1 T2:MT) (x:Int×List ByteArray):Hk (List.range' 9 (T1++x::T2).length) (T1++x::T2)=Hk (List.range' 9 T1.length) T1++.own (9+T1.length) 0 x.2.length::Hk (List.range' (10+T1.length) T2.length) T2:=by
 rw [List.length_append,←List.range'_append_1,Tm (by simp),List.length_cons,List.range'_succ,show 9+T1.length+1=10+T1.length by omega]
 rfl
theorem tokLL_own {m:Nat}:∀{I:List Nat} {T:MT},(∀i∈I,i<m)→By m (Hk I T)=true
 | [],T,_=>by cases T<;>simp only [Hk,By]
 | i::I,[],_=>by simp only [Hk,By]
 | i::I,x::T,h=>by
  simp only [Hk,By,Bn,Bool.and_eq_true,decide_eq_true_eq]
  exact ⟨h i (by simp),tokLL_own fun j hj=>h j (by simp [hj])⟩
theorem ownI_map {τ:Nat→Nat}:∀{I J:List Nat} {T:MT},J.map τ=I→Bb τ (Hk J T)=Hk I T
 | _,[],T,h=>by subst h;cases T<;>simp only [Hk,Bb,List.map_nil]
 | _,j::J,[],h=>by subst h;simp only [Hk,Bb,List.map_cons]
 | _,j::J,x::T,h=>by
  subst h
  simp only [Hk,Bb,Bh,List.map_cons,ownI_map (J:=J) (T:=T) rfl]
theorem tau_cons (I:List Nat):(List.range' 9 I.length).map (Cv (8::I))=I:=by
 apply List.ext_getElem
 · simp
 · intro j h1 h2
   simp only [List.getElem_map,List.getElem_range',Cv,show ¬ 9+1*j<8 by omega,if_false,show 9+1*j-8=j+1 by omega,List.getD_cons_succ]
   simp [List.getD,h2]
theorem hren_T {τ:Nat→Nat} {m:Nat} {hp:Am}:∀{k:Nat} {T:MT},(∀j x,T[j]?=some x→hp (τ (k+j))=rowT x)→HRen τ m hp k (T.map rowT)
 | _,[],_=>.nil _
 | k,x::T,h=>by
  refine .cons ?_ (hren_T fun j y hy=>by rw [show k+1+j=k+(j+1) by omega];exact h (j+1) y (by simpa using hy))
  rw [show hp (τ k)=rowT x from h 0 x rfl]
  exact .inl (Tv x.2)
theorem Ent.canI {N nx:Nat} {fr fr':Nat→AV} {hp:Am} (I:List Nat) (T:MT) (hl:I.length=T.length) (hnd:I.Nodup) (h8:∀x∈I,8<x) (hM:hp 8=some (.mapo (Ew T) (Hk I T)))
  (hT:∀(j i:Nat) (x:Int×List ByteArray),I[j]?=some i→T[j]?=some x→hp i=rowT x) (hf:RF (Cv (8::I)) (9+T.length) fr fr'):Ent N ⟨fr,hp,nx⟩ ⟨fr',hpT T,9+T.length⟩:=by
 refine Bu (8::I) [] _ _ (by simp [hl];omega) ⟨?_,fun x hx=>.inl ?_⟩ (by simp [hl]) hf (.nil _) (.cons ?_ (hren_T fun j x hx=>?_))
 · exact List.nodup_cons.2 ⟨fun h=>by have:=h8 8 h;omega,hnd⟩
 · rcases List.mem_cons.1 hx with h|h
   · omega
   · have:=h8 x h;omega
 · rw [show Cv (8::I) 8=8 from rfl,hM,←ownI_map (τ:=Cv (8::I)) (J:=List.range' 9 T.length) (T:=T) (by rw [←hl];exact tau_cons I)]
   exact .mp (tokLL_own fun i hi=>by simp only [List.mem_range'_1] at hi;omega)
 · have hj:j<I.length:=by rw [hl];exact (List.getElem?_eq_some_iff.1 hx).1
   rw [show Cv (8::I) (8+1+j)=I[j] by simp only [Cv,show ¬ 8+1+j<8 by omega,if_false,show 8+1+j-8=j+1 by omega,List.getD_cons_succ];simp [List.getD,hj]]
   exact hT j _ x (List.getElem?_eq_getElem hj) hx
theorem Rc {N nx:Nat} {fr fr':Nat→AV} {hp:Am} (T:MT) (hM:hp 8=mapO T) (hT:∀t,8<t→t<9+T.length→hp t=hpT T t) (hf:RF (Cv (8::List.range' 9 T.length)) (9+T.length) fr fr'):Ent N ⟨fr,hp,nx⟩ ⟨fr',hpT T,9+T.length⟩:=by
 refine Ent.canI (List.range' 9 T.length) T (by simp) (List.nodup_range' ..) (fun x hx=>by simp only [List.mem_range'_1] at hx;omega) hM (fun j i x (hi:(List.range' 9 T.length)[j]?=some i) hx=>?_) hf
 have hj:=(List.getElem?_eq_some_iff.1 hx).1
 rw [List.getElem?_range' hj] at hi
 obtain rfl:=Option.some.inj hi
 rw [Nat.one_mul,hT _ (by omega) (by omega),hpT_j T hx]
theorem Ent.foundT {N nx q:Nat} {fr fr':Nat→AV} {hp:Am} {o:Int} {l l':List ByteArray} {U T1 T2:MT} (hU:U=T1++(o,l)::T2) (hq:9+U.length≤q)
  (hM:hp 8=some (.mapo (Ew (T1++(o,l')::T2)) (Hk (List.range' 9 T1.length) T1++.own q 0 l'.length::Hk (List.range' (10+T1.length) T2.length) T2))) (hr:hp q=rowT (o,l'))
  (hT:∀t,8<t→t<9+U.length→t≠9+T1.length→hp t=hpT U t) (hf:RF (Cv (8::(List.range' 9 T1.length++q::List.range' (10+T1.length) T2.length))) (9+(T1++(o,l')::T2).length) fr fr') :
  Ent N ⟨fr,hp,nx⟩ ⟨fr',hpT (T1++(o,l')::T2),9+(T1++(o,l')::T2).length⟩:=by
 have hUl:U.length=T1.length+T2.length+1:=by rw [hU];simp;omega
 refine Ent.canI _ _ (by simp) ?_ (fun x hx=>?_) (by rw [hM,Tm (by simp)];rfl) (fun j i x hi hx=>?_) hf
 · refine List.nodup_append.2 ⟨List.nodup_range' ..,List.nodup_cons.2 ⟨fun h=>?_,List.nodup_range' ..⟩,fun a ha b hb e=>?_⟩
   · simp only [List.mem_range'_1] at h;omega
   · subst e
     simp only [List.mem_cons,List.mem_range'_1] at ha hb;omega
 · simp only [List.mem_append,List.mem_cons,List.mem_range'_1] at hx;omega
 · rcases Nat.lt_trichotomy j T1.length with h|h|h
   · rw [List.getElem?_append_left (by simpa using h),List.getElem?_range' h] at hi
     obtain rfl:=Option.some.inj hi
     rw [Nat.one_mul,hT _ (by omega) (by omega) (by omega)]
     refine hpT_j U ?_
     rw [hU,List.getElem?_append_left h];rwa [List.getElem?_append_left h] at hx
   · subst h
     simp at hi hx
     subst hi hx
     exact hr
   · obtain ⟨k,rfl⟩:∃k,j=T1.length+(k+1):=⟨j-T1.length-1,by omega⟩
     rw [List.getElem?_append_right (by simp)] at hi
     rw [List.getElem?_append_right (by omega)] at hx
     simp only [List.length_range',Nat.add_sub_cancel_left,List.getElem?_cons_succ] at hi hx
     have hk:=(List.getElem?_eq_some_iff.1 hx).1
     rw [List.getElem?_range' hk] at hi
     obtain rfl:=Option.some.inj hi
     rw [Nat.one_mul,hT _ (by omega) (by omega) (by omega),show 10+T1.length+k=9+(T1.length+(k+1)) by omega]
     refine hpT_j U ?_
     rw [hU,List.getElem?_append_right (by omega)]
     simpa using hx
theorem Ent.newT {N nx q:Nat} {fr fr':Nat→AV} {hp:Am} {o:Int} {l':List ByteArray} {U:MT} (hq:9+U.length≤q)
  (hM:hp 8=some (.mapo (Ew (U++[(o,l')])) (Hk (List.range' 9 U.length) U++[.own q 0 l'.length]))) (hr:hp q=rowT (o,l'))
  (hT:∀t,8<t→t<9+U.length→hp t=hpT U t) (hf:RF (Cv (8::(List.range' 9 U.length++[q]))) (9+(U++[(o,l')]).length) fr fr') :
  Ent N ⟨fr,hp,nx⟩ ⟨fr',hpT (U++[(o,l')]),9+(U++[(o,l')]).length⟩:=by
 refine Ent.canI _ _ (by simp) ?_ (fun x hx=>?_) (by rw [hM,Tm (by simp)];rfl) (fun j i x hi hx=>?_) hf
 · refine List.nodup_append.2 ⟨List.nodup_range' ..,by simp,fun a ha b hb e=>?_⟩
   subst e
   simp only [List.mem_cons,List.not_mem_nil,or_false,List.mem_range'_1] at ha hb;omega
 · simp only [List.mem_append,List.mem_cons,List.not_mem_nil,or_false,List.mem_range'_1] at hx;omega
 · by_cases h:j<U.length
   · rw [List.getElem?_append_left (by simpa using h),List.getElem?_range' h] at hi
     obtain rfl:=Option.some.inj hi
     rw [List.getElem?_append_left h] at hx
     rw [Nat.one_mul,hT _ (by omega) (by omega),hpT_j U hx]
   · have hj:=(List.getElem?_eq_some_iff.1 hx).1
     simp at hj
     obtain rfl:j=U.length:=by omega
     simp at hi hx
     subst hi hx
     exact hr
theorem RF.pm {τ:Nat→Nat} {m d t:Nat} {fr fr':Nat→AV} (h:RF τ m fr fr') (ht:t<m) (hv:fr d=.mp (τ t)):RF τ m fr (Ag fr' d (.mp t)):=h.put (by simp [Bn,ht]) (by simp only [Bh];exact .of hv)
theorem lookA_mp {P:Program} {hp:Am} {t:TypeId} {o:Nat} {k:AV}:Qc P hp t (.mp o) k=lookO P t (hp o) k:=(rfl)
theorem lookA_im {P:Program} {hp:Am} {t:TypeId} {ks:List Value} {us:List AV} {k:AV}:Qc P hp t (.im ks us) k=Nl P t ks us k:=(rfl)
theorem lookO_mapo {P:Program} {t:TypeId} {ks:List Value} {us:List AV} {k:AV}:lookO P t (some (.mapo ks us)) k=Nl P t ks us k:=(rfl)
def Ik (o:Int):MT→List ByteArray
 | []=>[]
 | (k,l)::T=>if k=o then l else Ik o T
def Li (o:Int) (s:ByteArray):MT→MT
 | []=>[(o,[s])]
 | (k,l)::T=>if k=o then (k,l++[s])::T else (k,l)::Li o s T
theorem split_T (o:Int) (s:ByteArray):∀T:MT,(∃T1 T2 l,T=T1++(o,l)::T2∧(∀x∈T1,x.1≠o)∧Ik o T=l∧Li o s T=T1++(o,l++[s])::T2)∨((∀x∈T,x.1≠o)∧Ik o T=[]∧Li o s T=T++[(o,[s])])
 | []=>.inr ⟨by simp,rfl,rfl⟩
 | (k,l)::T=>by
  by_cases e:k=o
  · subst e;exact .inl ⟨[],T,l,rfl,by simp,by simp [Ik],by simp [Li]⟩
  · rcases split_T o s T with ⟨T1,T2,l',rfl,h1,h2,h3⟩|⟨h1,h2,h3⟩
    · refine .inl ⟨(k,l)::T1,T2,l',rfl,fun x hx=>?_,by simp only [List.cons_append,Ik,if_neg e,h2],by simp only [List.cons_append,Li,if_neg e,h3]⟩
      rcases List.mem_cons.1 hx with rfl|hx
      · exact e
      · exact h1 x hx
    · refine .inr ⟨fun x hx=>?_,by simp only [Ik,if_neg e,h2],by simp only [List.cons_append,Li,if_neg e,h3]⟩
      rcases List.mem_cons.1 hx with rfl|hx
      · exact e
      · exact h1 x hx
theorem keys_T (T:MT):(Ew T).all (isK .i64)=true:=by
 rw [show Ew T=(T.map (·.1)).map Gp by simp [Ew,List.map_map,Function.comp_def]];exact Vh _
theorem Lo {o:Int} {ks:List Value} {us:List AV}:∀{T:MT} {vs:List AV},vs.length=T.length→(∀x∈T,x.1≠o)→Mm o (Ew T++ks) (vs++us)=Mm o ks us∧Pt .i64 o (Ew T++ks)=Ew T++Pt .i64 o ks∧∀v,Ps o v (Ew T++ks) (vs++us)=vs++Ps o v ks us
 | [],[],_,_=>⟨rfl,rfl,fun _=>rfl⟩
 | x::T,v::vs,hl,h=>by
  obtain ⟨h1,h2,h3⟩:=Lo (o:=o) (ks:=ks) (us:=us) (T:=T) (vs:=vs) (by simpa using hl) fun y hy=>h y (by simp [hy])
  have e:x.1≠o:=h x (by simp)
  simp only [Ew] at h1 h2 h3
  refine ⟨?_,?_,fun w=>?_⟩
  · simp only [Ew,List.map_cons,List.cons_append,Mm,Gp,eqK,e,decide_false,Bool.false_eq_true,if_false];exact h1
  · simp only [Ew,List.map_cons,List.cons_append,Pt,Gp,eqK,e,decide_false,Bool.false_eq_true,if_false];exact congrArg _ h2
  · simp only [Ew,List.map_cons,List.cons_append,Ps,Gp,eqK,e,decide_false,Bool.false_eq_true,if_false];exact congrArg _ (h3 w)
section
variable {P:Program} {t:TypeId} (hm:Qb P t=some (.i64,.slice none 0 0)) {o:Int} {T1 T2:MT} {l:List ByteArray} {v1 v2:List AV} {u:AV}
include hm
theorem look_T (hl:v1.length=T1.length) (h:∀x∈T1,x.1≠o):Nl P t (Ew (T1++(o,l)::T2)) (v1++u::v2) (.val (.int .i64 o))=some u:=by
 have e:Ew (T1++(o,l)::T2)=Ew T1++Gp o::Ew T2:=by simp [Ew]
 have hk:=keys_T (T1++(o,l)::T2)
 rw [e] at hk ⊢
 simp only [Nl,hm,hk,and_self,if_true,(Lo hl h).1]
 simp [Mm,Gp,eqK]
theorem upd_T (hl:v1.length=T1.length) (h:∀x∈T1,x.1≠o) (q:Nat) (v:AV) (l':List ByteArray):Xi P t q (some (.mapo (Ew (T1++(o,l)::T2)) (v1++u::v2))) (.val (.int .i64 o)) v=some [(q,some (.mapo (Ew (T1++(o,l')::T2)) (v1++v::v2)))]:=by
 have e:∀l,Ew (T1++(o,l)::T2)=Ew T1++Gp o::Ew T2:=fun l=>by simp [Ew]
 have hk:=keys_T (T1++(o,l)::T2)
 rw [e] at hk
 rw [e,e]
 simp only [Xi,hm,hk,and_self,if_true,(Lo (us:=u::v2) (ks:=Gp o::Ew T2) hl h).2.1,(Lo (us:=u::v2) (ks:=Gp o::Ew T2) hl h).2.2]
 simp [Pt,Ps,Gp,eqK]
theorem look_N (hl:v1.length=T1.length) (h:∀x∈T1,x.1≠o):Nl P t (Ew T1) v1 (.val (.int .i64 o))=some (.val (.slice none 0 0)):=by
 have:=(Lo (us:=[]) (ks:=[]) hl h).1
 rw [List.append_nil,List.append_nil] at this
 simp only [Nl,hm,keys_T,and_self,if_true,this]
 rfl
theorem upd_N (hl:v1.length=T1.length) (h:∀x∈T1,x.1≠o) (q:Nat) (v:AV) (l':List ByteArray):Xi P t q (some (.mapo (Ew T1) v1)) (.val (.int .i64 o)) v=some [(q,some (.mapo (Ew (T1++[(o,l')])) (v1++[v])))]:=by
 obtain ⟨_,h2,h3⟩:=Lo (us:=[]) (ks:=[]) hl h
 rw [List.append_nil] at h2
 simp only [List.append_nil] at h3
 simp only [Xi,hm,keys_T,and_self,if_true,h2,h3]
 simp [Pt,Ps,Ew,Gp]
end
def slT (x:Int×List ByteArray):AV:=.sl (x.2.map strS)
theorem look_S {P:Program} {t:TypeId} (hm:Qb P t=some (.i64,.slice none 0 0)) {T:MT} {o:Int} (h:o∈T.map (·.1)):Nl P t (Ew T) (T.map slT) (.val (.int .i64 o))=some (.sl ((Ik o T).map strS)):=by
 rcases split_T o default T with ⟨T1,T2,l,rfl,h1,h2,_⟩|⟨h1,_⟩
 · rw [h2,List.map_append,List.map_cons]
   exact look_T hm (by simp) h1
 · obtain ⟨x,hx,e⟩:=List.mem_map.1 h
   exact absurd e (h1 x hx)
theorem inl_slT (T:MT):Di (T.map slT)=true:=by
 induction T with
 | nil=>simp only [List.map_nil,Di]
 | cons x T ih=>simp only [List.map_cons,Di,ih,slT,inl,Tv,Bool.and_self]
theorem Ent.freezeT {N nx:Nat} {fr:Nat→AV} (d:Nat) (T:MT) (hd:fr d=.mp 8):Ent N ⟨fr,hpT T,nx⟩ ⟨Ag Az d (.im (Ew T) (T.map slT)),Bo [] [],8⟩:=fun P G a w hc=>by
 rw [hpL_nil]
 obtain ⟨h1,h2,loc,hM,hr⟩:=conc_iff.1 hc
 clear hc
 have hno:∀b,¬Cs (fun _=>none) (fun _=>none) b:=fun b ⟨t,o,l,k1,_⟩=>by cases k1
 refine conc_iff.2 ⟨h1,h2,fun _=>none,⟨(fun t o ho=>by cases ho),(fun _ _=>rfl),(fun t l hl=>by cases hl),(fun t t' l l' hl=>by cases hl),hM.os,hM.tape,hM.output,hM.size,hM.keep,fun b hb=>absurd hb (hno b),(fun t l hl=>by cases hl),(fun t ht=>by have:=G.n8;show t<8;omega),(fun t l _ hl=>by cases hl)⟩,fun d'=>?_⟩
 by_cases e:d'=d
 · subst e
   rw [Ba]
   obtain ⟨l,hl,hlt,ens,clock,xs,hh,he,hx,hrl⟩:=hM.obj 8 _ (show hpT T 8=some _ from rfl)
   have hv:=hd▸hr d'
   have hlb:l.b<w.heap.size:=hM.lt hl hlt
   generalize a.tmps.getD d' undef=v at hv
   have:v=.map (some l.b):=by cases hv with|mp ha hh=>exact hh l hl
   subst this
   refine .im hlb (fun hb=>hb.elim (hno l.b) (hM.fgn 8 l hl hlt)) hh he hx ?_
   have key:∀(T0:MT) (k:Nat) (xs:List Value),(∀j x,T0[j]?=some x→hpT T (k+j)=rowT x)→RelL (Bv G.m1 (hpT T) (fun t=>t<nx) loc w) (Hk (List.range' k T0.length) T0) xs→RelL (Bv G.m1 (fun _=>none) (fun t=>t<8) (fun _=>none) w) (T0.map slT) xs:=fun T0=>by
     induction T0 with
     | nil=>intro k xs _ h;cases h;exact .nil
     | cons x T0 ih =>
       intro k xs hk h
       rw [List.length_cons,List.range'_succ] at h
       cases h with
       | cons h hs =>
       refine .cons ?_ (ih (k+1) _ (fun j y hy=>by rw [show k+1+j=k+(j+1) by omega];exact hk (j+1) y (by simpa using hy)) hs)
       have ho:hpT T k=some (.row 1 true (x.2.map strS)):=hk 0 x rfl
       have hx:Fj (hpT T) (.own k 0 x.2.length)=some (slT x):=Fg (sz:=1) (m:=true) ho (by simp) (Tv _)
       have hb:=Ny hM (m:=G.m1) (fun b hb=>.inl hb) h hx (fun t off len l he hl hlt=>by cases he;exact hM.fgn k l hl hlt)
       exact Rel.move (E:=E0 G.m1 w) (E':=Bv G.m1 (fun _=>none) (fun t=>t<8) (fun _=>none) w) ⟨Nat.le_refl _,fun b _ hn=>⟨hn,rfl⟩⟩ (by simp only [slT,inl,Tv]) hb
   exact key T 9 xs (fun j x hx=>hpT_j T hx) hrl
 · rw [An _ _ e];exact .any _
end Go.Gm
