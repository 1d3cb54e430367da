import Derived.Test.YtbdncmljibideaaGreatDoorGqUaa
import Derived.MapKept
import GoSem.Instr.Lookup
import Derived.Scope
import Derived.Deep.LoopGhost
import Derived.OrdersIn
import Derived.TacticsIn
import Derived.RangeFuncCalls
set_option linter.all false
namespace Go.Gm
mutual
def inl:AV→Bool
 | .val _=>true
 | .agg cs=>Di cs
 | .tup cs=>Di cs
 | .sl rows=>Cy rows
 | .ip cs=>Di cs
 | .clo _ f c=>Di f && Di c
 | .ifc _ u=>inl u
 | .any=>true
 | .im _ vs=>Di vs
 | _=>false
def Di:List AV→Bool
 | []=>true
 | c::cs=>inl c && Di cs
def Cy:List (List AV)→Bool
 | []=>true
 | r::rs=>Di r && Cy rs
end
theorem Wz:∀(a b:List AV),Di (a++b)=(Di a && Di b)
 | [],b=>by simp [Di]
 | c::cs,b=>by simp [Di,Wz cs b,Bool.and_assoc]
theorem Ex:∀(rows:List (List AV)),Cy rows=Di rows.flatten
 | []=>rfl
 | r::rs=>by simp [Cy,Ex rs,Wz]
theorem inlR_of:∀{rows:List (List AV)},(∀r∈rows,Di r=true)→Cy rows=true
 | [],_=>rfl
 | r::rs,h=>by
  have h2:Cy rs=true:=inlR_of fun x hx=>h x (List.mem_cons_of_mem _ hx)
  simp [Cy,h r (by simp),h2]
structure Move (E E':Env):Prop where
 size:E.w.heap.size≤E'.w.heap.size
 keep:∀b,b<E.w.heap.size→¬E.mt b→¬E'.mt b∧E'.w.heap[b]?=E.w.heap[b]?
mutual
theorem Rel.move {E E':Env} (x:Move E E'):∀{u:AV} {v:Value},inl u=true→Rel E u v→Rel E' u v
 | _,_,_,.any v=>.any v
 | _,_,_,.val v=>.val v
 | _,_,h,.agg hl=>.agg (RelL.move x (by simpa [inl] using h) hl)
 | _,_,h,.tup hl=>.tup (RelL.move x (by simpa [inl] using h) hl)
 | _,_,_,.sl0 a c=>.sl0 a c
 | _,_,h,.sl hb hm hr hsz h0 hcap h1 hc hl =>
  .sl (Nat.lt_of_lt_of_le hb x.size) (x.keep _ hb hm).1 hr hsz h0 hcap h1 (fun k v hk=>(Gi (x.keep _ hb hm).2).trans (hc k v hk)) (RelL.move x (by rw [inl,Ex] at h;exact h) hl)
 | _,_,h,.own ..=>by simp [inl] at h
 | _,_,h,.ptr ..=>by simp [inl] at h
 | _,_,h,.ip hb hm h1 hc hl =>
  .ip (Nat.lt_of_lt_of_le hb x.size) (x.keep _ hb hm).1 h1 (fun k v hk=>(Gi (x.keep _ hb hm).2).trans (hc k v hk)) (RelL.move x (by simpa [inl] using h) hl)
 | _,_,h,.clo hf hc=>.clo (RelL.move x (by simp [inl] at h;exact h.1) hf) (RelL.move x (by simp [inl] at h;exact h.2) hc)
 | _,_,h,.ifc hu=>.ifc (Rel.move x (by simpa [inl] using h) hu)
 | _,_,h,.mp ..=>by simp [inl] at h
 | _,_,hi,.im hb hm h he hx hl=>.im (Nat.lt_of_lt_of_le hb x.size) (x.keep _ hb hm).1 ((x.keep _ hb hm).2.trans h) he hx (RelL.move x (by simpa [inl] using hi) hl)
 | _,_,_,.im0=>.im0
theorem RelL.move {E E':Env} (x:Move E E'):∀{us:List AV} {vs:List Value},Di us=true→RelL E us vs→RelL E' us vs
 | _,_,_,.nil=>.nil
 | _,_,h,.cons hu hs=>.cons (Rel.move x (by simp [Di] at h;exact h.1) hu) (RelL.move x (by simp [Di] at h;exact h.2) hs)
end
mutual
def Ci:AV→Bool
 | .val _=>false
 | .fr _ _=>true
 | .agg cs=>Dh cs
 | .tup cs=>Dh cs
 | _=>true
def Dh:List AV→Bool
 | []=>false
 | c::cs=>Ci c || Dh cs
def Nw:List (List AV)→Bool
 | []=>false
 | r::rs=>Dh r || Nw rs
end
theorem Pr:∀(a b:List AV),Dh (a++b)=(Dh a || Dh b)
 | [],b=>by simp [Dh]
 | c::cs,b=>by simp [Dh,Pr cs b,Bool.or_assoc]
theorem Pg:∀(rows:List (List AV)),Nw rows=Dh rows.flatten
 | []=>rfl
 | r::rs=>by simp [Nw,Pg rs,Pr]
mutual
theorem Rel.alone {E E':Env}:∀{u:AV} {v:Value},Ci u=false→Rel E u v→Rel E' u v
 | _,_,_,.val v=>.val v
 | _,_,h,.agg hl=>.agg (RelL.alone (by simpa [Ci] using h) hl)
 | _,_,h,.tup hl=>.tup (RelL.alone (by simpa [Ci] using h) hl)
 | _,_,h,.any v=>by simp [Ci] at h
 | _,_,h,.sl0 ..=>by simp [Ci] at h
 | _,_,h,.sl ..=>by simp [Ci] at h
 | _,_,h,.own ..=>by simp [Ci] at h
 | _,_,h,.ptr ..=>by simp [Ci] at h
 | _,_,h,.ip ..=>by simp [Ci] at h
 | _,_,h,.clo ..=>by simp [Ci] at h
 | _,_,h,.ifc ..=>by simp [Ci] at h
 | _,_,h,.mp ..=>by simp [Ci] at h
 | _,_,h,.im ..=>by simp [Ci] at h
 | _,_,h,.im0=>by simp [Ci] at h
theorem RelL.alone {E E':Env}:∀{us:List AV} {vs:List Value},Dh us=false→RelL E us vs→RelL E' us vs
 | _,_,_,.nil=>.nil
 | _,_,h,.cons hu hs=>by
  simp only [Dh,Bool.or_eq_false_iff] at h
  exact .cons (Rel.alone h.1 hu) (RelL.alone h.2 hs)
end
mutual
def Bt:AV→Nat→AV×List AObj
 | .fr sz rows,k=>(.own k 0 rows.length,[.row sz true rows])
 | .agg cs,k=>(.agg (Es cs k).1,(Es cs k).2)
 | .tup cs,k=>(.tup (Es cs k).1,(Es cs k).2)
 | u,_=>(u,[])
def Es:List AV→Nat→List AV×List AObj
 | [],_=>([],[])
 | c::cs,k=>((Bt c k).1::(Es cs (k+(Bt c k).2.length)).1,(Bt c k).2++(Es cs (k+(Bt c k).2.length)).2)
end
mutual
def Cl (hp:Am):AV→Option (AV×List Nat)
 | .own t off len=>match hp t with
  | some (.row sz true rows)=>if off=0∧len=rows.length∧Cy rows=true then some (.fr sz rows,[t]) else none
  | _=>none
 | .agg cs=>(Ir hp cs).map fun x=>(.agg x.1,x.2)
 | .tup cs=>(Ir hp cs).map fun x=>(.tup x.1,x.2)
 | .val v=>some (.val v,[])
 | .sl rows=>if Cy rows=true then some (.sl rows,[]) else none
 | .ip cs=>if Di cs=true then some (.ip cs,[]) else none
 | .ifc t u=>if inl u=true then some (.ifc t u,[]) else none
 | .clo fn f c=>if Di f=true∧Di c=true then some (.clo fn f c,[]) else none
 | .any=>some (.any,[])
 | .im ks vs=>if Di vs=true then some (.im ks vs,[]) else none
 | _=>none
def Ir (hp:Am):List AV→Option (List AV×List Nat)
 | []=>some ([],[])
 | c::cs=>match Cl hp c,Ir hp cs with
  | some (x,ts),some (xs,ts')=>some (x::xs,ts++ts')
  | _,_=>none
end
mutual
theorem Sd {hp:Am} {E E':Env}:∀{u X:AV} {ts:List Nat} {k:Nat} {v:Value},(Ci X=true→Move E E')→Cl hp u=some (X,ts)→Rel E u v →
  (∀(i t:Nat),ts[i]?=some t→E'.loc (k+i)=E.loc t∧E'.al (k+i)) →
  Rel E' (Bt X k).1 v∧(Bt X k).2.length=ts.length∧∀(i t:Nat),ts[i]?=some t→(Bt X k).2[i]?=hp t
 | .own t off len,X,ts,k,v,mv,h,hr,hk=>by
  simp only [Cl] at h
  split at h
  ·rename_i sz rows ho
   split at h
   ·rename_i hc
    obtain ⟨c1,c2,c3⟩:=hc
    cases h
    subst c1
    obtain ⟨hl,ha⟩:=hk 0 t rfl
    simp only [Nat.add_zero] at hl ha
    refine ⟨?_,rfl,fun i t' hi=>?_⟩
    ·cases hr with
     | own _ hh=>simp only [Bt];rw [←c2];exact .own ha fun l hl'=>hh l (hl▸hl')
    ·cases i with
     | zero=>simp at hi;subst hi;simp [Bt,ho]
     | succ i=>simp at hi
   ·cases h
  ·cases h
 | .agg cs,X,ts,k,v,mv,h,hr,hk=>by
  simp only [Cl,Option.map_eq_some_iff] at h
  obtain ⟨⟨xs,ts'⟩,h1,h2⟩:=h
  cases h2
  cases hr with
  | agg hl =>
   obtain ⟨a,b,c⟩:=Pu (by simpa [Ci] using mv) h1 hl hk
   exact ⟨.agg a,b,c⟩
 | .tup cs,X,ts,k,v,mv,h,hr,hk=>by
  simp only [Cl,Option.map_eq_some_iff] at h
  obtain ⟨⟨xs,ts'⟩,h1,h2⟩:=h
  cases h2
  cases hr with
  | tup hl =>
   obtain ⟨a,b,c⟩:=Pu (by simpa [Ci] using mv) h1 hl hk
   exact ⟨.tup a,b,c⟩
 | .val v',X,ts,k,v,mv,h,hr,hk=>by
  simp only [Cl,Option.some.injEq,Prod.mk.injEq] at h
  obtain ⟨rfl,rfl⟩:=h
  exact ⟨by cases hr;exact .val _,rfl,by simp⟩
 | .sl rows,X,ts,k,v,mv,h,hr,hk=>by
  simp only [Cl] at h
  split at h
  ·rename_i hi
   cases h
   exact ⟨by simp only [Bt];exact Rel.move (mv rfl) (by simpa [inl] using hi) hr,rfl,by simp⟩
  ·cases h
 | .ip cs,X,ts,k,v,mv,h,hr,hk=>by
  simp only [Cl] at h
  split at h
  ·rename_i hi
   cases h
   exact ⟨by simp only [Bt];exact Rel.move (mv rfl) (by simpa [inl] using hi) hr,rfl,by simp⟩
  ·cases h
 | .ifc t u,X,ts,k,v,mv,h,hr,hk=>by
  simp only [Cl] at h
  split at h
  ·rename_i hi
   cases h
   exact ⟨by simp only [Bt];exact Rel.move (mv rfl) (by simpa [inl] using hi) hr,rfl,by simp⟩
  ·cases h
 | .any,X,ts,k,v,mv,h,hr,hk=>by
  simp only [Cl,Option.some.injEq,Prod.mk.injEq] at h
  obtain ⟨rfl,rfl⟩:=h
  exact ⟨.any v,rfl,by simp⟩
 | .fr ..,X,ts,k,v,mv,h,hr,hk=>by simp [Cl] at h
 | .ptr ..,X,ts,k,v,mv,h,hr,hk=>by simp [Cl] at h
 | .clo fn f c,X,ts,k,v,mv,h,hr,hk=>by
  simp only [Cl] at h
  split at h
  ·rename_i hi
   cases h
   exact ⟨by simp only [Bt];exact Rel.move (mv rfl) (by simp [inl,hi.1,hi.2]) hr,rfl,by simp⟩
  ·cases h
 | .mp ..,X,ts,k,v,mv,h,hr,hk=>by simp [Cl] at h
 | .im ks vs,X,ts,k,v,mv,h,hr,hk=>by
  simp only [Cl] at h
  split at h
  ·rename_i hi
   cases h
   exact ⟨by simp only [Bt];exact Rel.move (mv rfl) (by simpa [inl] using hi) hr,rfl,by simp⟩
  ·cases h
theorem Pu {hp:Am} {E E':Env}:∀{us Xs:List AV} {ts:List Nat} {k:Nat} {vs:List Value},(Dh Xs=true→Move E E')→Ir hp us=some (Xs,ts)→RelL E us vs →
  (∀(i t:Nat),ts[i]?=some t→E'.loc (k+i)=E.loc t∧E'.al (k+i)) →
  RelL E' (Es Xs k).1 vs∧(Es Xs k).2.length=ts.length∧∀(i t:Nat),ts[i]?=some t→(Es Xs k).2[i]?=hp t
 | [],Xs,ts,k,vs,mv,h,hr,hk=>by
  simp only [Ir,Option.some.injEq,Prod.mk.injEq] at h
  obtain ⟨rfl,rfl⟩:=h
  cases hr
  exact ⟨.nil,rfl,by simp⟩
 | c::cs,Xs,ts,k,vs,mv,h,hr,hk=>by
  simp only [Ir] at h
  split at h
  ·rename_i x t1 xs t2 h1 h2
   cases h
   cases hr with
   | cons hc hcs =>
    obtain ⟨a1,b1,c1⟩:=Sd (k:=k) (fun hx=>mv (by simp [Dh,hx])) h1 hc (fun i t hi=>hk i t (by rw [List.getElem?_append_left (List.getElem?_eq_some_iff.1 hi).1];exact hi))
    obtain ⟨a2,b2,c2⟩:=Pu (k:=k+(Bt x k).2.length) (fun hx=>mv (by simp [Dh,hx])) h2 hcs (fun i t hi=>by
     have:=hk (t1.length+i) t (by rw [List.getElem?_append_right (by omega)];simpa using hi)
     rw [b1,Nat.add_assoc];exact this)
    rw [b1] at a2 b2 c2
    refine ⟨by simp only [Es,b1];exact .cons a1 a2,by simp [Es,b1,b2],fun i t hi=>?_⟩
    simp only [Es,b1]
    by_cases hlt:i<t1.length
    ·rw [List.getElem?_append_left hlt] at hi
     rw [List.getElem?_append_left (by omega)];exact c1 i t hi
    ·rw [List.getElem?_append_right (by omega)] at hi
     rw [List.getElem?_append_right (by rw [b1];omega),b1];exact c2 _ t hi
  ·cases h
end
mutual
theorem seal_obj {hp:Am}:∀{u X:AV} {ts:List Nat},Cl hp u=some (X,ts)→∀t∈ts,∃sz rows,hp t=some (.row sz true rows)∧Cy rows=true∧(Nw rows=true→Ci X=true)
 | .own t off len,X,ts,h,q,hq=>by
  simp only [Cl] at h
  split at h
  ·rename_i sz rows ho
   split at h
   ·rename_i hc
    cases h
    simp at hq;subst hq
    exact ⟨sz,rows,ho,hc.2.2,fun h=>by simpa [Ci] using h⟩
   ·cases h
  ·cases h
 | .agg cs,X,ts,h,q,hq=>by
  simp only [Cl,Option.map_eq_some_iff] at h
  obtain ⟨⟨xs,ts'⟩,h1,h2⟩:=h
  cases h2
  obtain ⟨a,b,c,d,e⟩:=Vc h1 q hq
  exact ⟨a,b,c,d,fun h=>by simpa [Ci] using e h⟩
 | .tup cs,X,ts,h,q,hq=>by
  simp only [Cl,Option.map_eq_some_iff] at h
  obtain ⟨⟨xs,ts'⟩,h1,h2⟩:=h
  cases h2
  obtain ⟨a,b,c,d,e⟩:=Vc h1 q hq
  exact ⟨a,b,c,d,fun h=>by simpa [Ci] using e h⟩
 | .val v',X,ts,h,q,hq=>by simp only [Cl,Option.some.injEq,Prod.mk.injEq] at h;obtain ⟨rfl,rfl⟩:=h;cases hq
 | .sl rows,X,ts,h,q,hq=>by simp only [Cl] at h;split at h<;>cases h;cases hq
 | .ip cs,X,ts,h,q,hq=>by simp only [Cl] at h;split at h<;>cases h;cases hq
 | .ifc t u,X,ts,h,q,hq=>by simp only [Cl] at h;split at h<;>cases h;cases hq
 | .any,X,ts,h,q,hq=>by simp only [Cl,Option.some.injEq,Prod.mk.injEq] at h;obtain ⟨rfl,rfl⟩:=h;cases hq
 | .fr ..,X,ts,h,q,hq=>by simp [Cl] at h
 | .ptr ..,X,ts,h,q,hq=>by simp [Cl] at h
 | .clo fn f c,X,ts,h,q,hq=>by simp only [Cl] at h;split at h<;>cases h;cases hq
 | .mp ..,X,ts,h,q,hq=>by simp [Cl] at h
 | .im ks vs,X,ts,h,q,hq=>by simp only [Cl] at h;split at h<;>cases h;cases hq
theorem Vc {hp:Am}:∀{us Xs:List AV} {ts:List Nat},Ir hp us=some (Xs,ts)→∀t∈ts,∃sz rows,hp t=some (.row sz true rows)∧Cy rows=true∧(Nw rows=true→Dh Xs=true)
 | [],Xs,ts,h,q,hq=>by simp only [Ir,Option.some.injEq,Prod.mk.injEq] at h;obtain ⟨rfl,rfl⟩:=h;cases hq
 | c::cs,Xs,ts,h,q,hq=>by
  simp only [Ir] at h
  split at h
  ·rename_i x t1 xs t2 h1 h2
   cases h
   rcases List.mem_append.1 hq with hq|hq
   ·obtain ⟨a,b,c,d,e⟩:=seal_obj h1 q hq
    exact ⟨a,b,c,d,fun h=>by simp [Dh,e h]⟩
   ·obtain ⟨a,b,c,d,e⟩:=Vc h2 q hq
    exact ⟨a,b,c,d,fun h=>by simp [Dh,e h]⟩
  ·cases h
end
def E0 (m:Nat→Prop) (w:World):Env:=Bv m (fun _=>none) (fun _=>False) (fun _=>none) w
def PC (P:Program) (f:FuncId) (us:List AV) (X:AV):Prop :=
 ∀(m:Nat→Prop) (w:World) (vs:List Value) (hm:∀b,m b→b<w.heap.size) (ht:TabH P (fun _=>False) w),RelL (E0 m w) us vs→Calls P f vs.toArray w fun e w' =>
  ∃v hp al loc r ts,e=.returned v∧Mem ⟨w,fun _=>False,m,hm,0,fun _=>none,Nat.zero_le _,ht⟩ hp al loc w'∧Rel (Bv m hp al loc w') r v∧Cl hp r=some (X,ts)∧ts.Nodup
section
variable {P:Program} {G:Ghost P} {hp:Am} {al:Nat→Prop} {loc:Nat→Option Loc} {w:World} {id:Nat}
def Fj (hp:Am):AV→Option AV
 | .own t off len=>match hp t with
  | some (.row _ _ rows)=>if off+len≤rows.length∧Cy ((rows.drop off).take len)=true then some (.sl ((rows.drop off).take len)) else none
  | _=>none
 | .val (.slice none 0 0)=>some (.sl [])
 | u=>if inl u=true then some u else none
def Lb (hp:Am):List AV→Option (List AV)
 | []=>some []
 | u::us=>match Fj hp u,Lb hp us with
  | some x,some xs=>some (x::xs)
  | _,_=>none
theorem move0 (m:Nat→Prop) (hm:∀b,m b→G.m1 b∨Cs hp loc b):Move (Bv G.m1 hp al loc w) (E0 m w) :=
 ⟨Nat.le_refl _,fun b _ hn=>⟨fun h=>by
  rcases h with ⟨t,o,l,h1,_⟩|h
  ·cases h1
  ·rcases hm b h with h|h
   ·exact hn (.inr h)
   ·exact hn (.inl h),rfl⟩⟩
theorem Ny (hM:Mem G hp al loc w) {m:Nat→Prop} (hm:∀b,m b→G.m1 b∨Cs hp loc b) {u x:AV} {v:Value} (hr:Rel (Bv G.m1 hp al loc w) u v) (h:Fj hp u=some x)
  (hfz:∀t off len l,u=.own t off len→loc t=some l→l.st<l.n→¬m l.b):Rel (E0 m w) x v:=by
 have mv:=move0 (G:=G) (hp:=hp) (al:=al) (loc:=loc) (w:=w) m hm
 unfold Fj at h
 split at h
 ·rename_i t off len
  split at h
  ·rename_i sz mu rows ho
   split at h
   ·rename_i hc
    obtain ⟨hle,hin⟩:=hc
    cases h
    have hrows:Ja hp (.own t off len)=some ((rows.drop off).take len):=by simp [Ja,ho,hle]
    obtain ⟨l,hl,g1,g2,g3,g4,g5⟩:=mem_loc hM ho
    have hlen:((rows.drop off).take len).length=len:=by simp;omega
    by_cases hne:(rows.drop off).take len=[]
    ·obtain ⟨p,c,rfl,hc,_⟩:=rel_rows hM hr hrows
     rw [hne];exact .sl0 _ _
    ·have hne2:rows≠[]:=fun e=>hne (by rw [e];simp)
     obtain ⟨l2,c,ec,fz,vs,hl2,_,_,_,h4,h5,_,h7,h8,h9,_,_,_,hlt⟩:=Tr hM ho hne2
     have:l2=l:=Option.some.inj (hl2.symm.trans hl)
     subst this
     have hv:ownV l2 off len v:=by cases hr with|own _ hh=>exact hh l2 hl
     obtain ⟨a,Cc,rfl,q1,q2,q3,q4⟩:=hv
     have hpos:0<len:=by
      rcases Nat.eq_zero_or_pos len with e|e
      ·subst e;simp at hne
      ·exact e
     have ha:=q4 (by omega)
     subst ha
     have:=Rel.sl (E:=E0 m w) (rows:=(rows.drop off).take len) (b:=l2.b) (o:=l2.st+off*l2.sz) (Cc:=Cc) (sz:=sz) (vs:=(vs.drop (off*sz)).take (len*sz)) (Array.getElem?_eq_some_iff.1 h4).1
      (by rintro (⟨t',o',l',h1,_⟩|h);cases h1;exact hfz t off len l2 rfl hl hlt h) hne (fun r hr=>g3 r (List.mem_of_mem_drop (List.mem_of_mem_take hr))) g2 (by rw [hlen];exact q3)
      (fun v hv=>h8 v (List.mem_of_mem_drop (List.mem_of_mem_take hv))) (by rw [g1];exact (CellsIn.drop (w:=w) h9 (off*sz)).take _)
      (RelL.move mv (by rw [←Ex];exact hin) (by rw [Gf (fun r hr=>g3 r (List.mem_of_mem_drop hr)),Gg g3];exact (h7.drop _).take _))
     rw [hlen] at this
     exact this
   ·cases h
  ·cases h
 ·cases h;cases hr;exact .sl0 _ _
 ·split at h
  ·rename_i hi
   cases h;exact Rel.move mv hi hr
  ·cases h
def Hj:AV→List Nat
 | .own t _ _=>[t]
 | _=>[]
def Dd (hp:Am):List Nat→List (Nat×Option AObj)
 | []=>[]
 | t::ts=>match hp t with
  | some (.row sz true rows)=>(t,some (.row sz false rows))::Dd hp ts
  | _=>Dd hp ts
def Hu (os:List AObj) (k:Nat):List (Nat×Option AObj):=match os with
 | []=>[]
 | o::os=>(k,some o)::Hu os (k+1)
theorem Ve {ts:List Nat} (h:ts.Nodup):∀{i j t:Nat},ts[i]?=some t→ts[j]?=some t→i=j:=by
 intro i j t hi hj
 have h1:=List.getElem?_eq_some_iff.1 hi
 have h2:=List.getElem?_eq_some_iff.1 hj
 exact (List.getElem?_inj h1.1 h).1 (hi.trans hj.symm)
theorem effOf_app:∀(os:List AObj) (k:Nat) (hp:Am),(∀(i:Nat) (o:AObj),os[i]?=some o→Be hp (Hu os k) (k+i)=some o)∧(∀t,(t<k∨k+os.length≤t)→Be hp (Hu os k) t=hp t)
 | [],k,hp=>⟨by simp,fun t _=>rfl⟩
 | o::os,k,hp=>by
  obtain ⟨h1,h2⟩:=effOf_app os (k+1) (Ag hp k (some o))
  refine ⟨fun i o' hi=>?_,fun t ht=>?_⟩
  ·simp only [Hu,Be]
   cases i with
   | zero=>simp at hi;subst hi;show Be _ _ k=_;rw [h2 k (.inl (by omega)),Ba]
   | succ i =>
    rw [show k+(i+1)=k+1+i by omega]
    exact h1 i o' (by simpa using hi)
  ·simp only [Hu,Be,List.length_cons] at ht ⊢
   rw [h2 t (by omega),An _ _ (by omega)]
theorem Wh {f:FuncId} {us xs:List AV} {X:AV} {vs:List Value} {m:Nat→Prop} (hM:Mem G hp al loc w) (hf:Fresh al id) (hpc:PC P f xs X) (hml:∀b,m b→b<w.heap.size) (hx:RelL (E0 m w) xs vs)
  (hm:Ci X=true→∀b,G.m1 b∨Cs hp loc b→m b) (hn:(Bt X id).2.length≤8) :
  Calls P f vs.toArray w fun e w'=>∃v loc',e=.returned v∧Mem G (Be hp (Hu (Bt X id).2 id)) (Ku al id) loc' w' ∧
   Ext (Bv G.m1 hp al loc w) (Bv G.m1 (Be hp (Hu (Bt X id).2 id)) (Ku al id) loc' w')∧Rel (Bv G.m1 (Be hp (Hu (Bt X id).2 id)) (Ku al id) loc' w') (Bt X id).1 v:=by
 refine (hpc m w vs hml (hM.tab.sub fun _ h=>h.elim) hx).mono ?_
 rintro e w' ⟨v,hpc,alc,locc,r,ts,rfl,hMc,hr,hs,hnd⟩
 let n:=ts.length
 let loc':Nat→Option Loc:=fun t=>if id≤t∧t<id+ts.length then (ts[t-id]?).bind locc else loc t
 let hp':=Be hp (Hu (Bt X id).2 id)
 -- what is claimed
 have hclaim:=Sd (hp:=hpc) (E:=Bv m hpc alc locc w') (E':=Bv G.m1 hp' (Ku al id) loc' w') (u:=r) (X:=X) (ts:=ts) (k:=id) (v:=v)
 have hlen0:(Bt X id).2.length=ts.length∧∀(i t:Nat),ts[i]?=some t→(Bt X id).2[i]?=hpc t:=by
  have h1:=Sd (hp:=hpc) (E:=Bv m hpc alc locc w') (E':=⟨w',fun t=>(ts[t-id]?).bind locc,fun _=>False,fun _=>False,fun _=>True⟩) (u:=r) (X:=X) (ts:=ts) (k:=id) (v:=v)
   (fun _=>⟨Nat.le_refl _,fun b _ _=>⟨fun h=>h,rfl⟩⟩) hs hr (fun i t hi=>⟨by simp [hi,Bv],trivial⟩)
  exact h1.2
 obtain ⟨hlen,hget⟩:=hlen0
 obtain ⟨happ1,happ2⟩:=effOf_app (Bt X id).2 id hp
 have hts:∀(i t:Nat),ts[i]?=some t→∃o,hpc t=some o∧hp' (id+i)=some o∧loc' (id+i)=locc t:=by
  intro i t hi
  have hlt:i<ts.length:=(List.getElem?_eq_some_iff.1 hi).1
  have h1:=hget i t hi
  have h2:i<(Bt X id).2.length:=by omega
  refine ⟨(Bt X id).2[i],?_,happ1 i _ (by simp [h2]),by simp only [loc'];rw [if_pos (by omega)];simp [hi]⟩
  rw [←h1];simp [h2]
 have hold:∀t,¬(id≤t∧t<id+ts.length)→hp' t=hp t∧loc' t=loc t:=fun t ht=>⟨happ2 t (by omega),by simp only [loc'];rw [if_neg ht]⟩
 have hrange:∀t,id≤t∧t<id+ts.length→∃q,ts[t-id]?=some q∧hp' t=hpc q∧loc' t=locc q:=fun t ht=>by
  have hlt:t-id<ts.length:=by omega
  obtain ⟨o,h1,h2,h3⟩:=hts (t-id) ts[t-id] (by simp [hlt])
  rw [show id+(t-id)=t by omega] at h2 h3
  exact ⟨ts[t-id],by simp [hlt],by rw [h2,h1],h3⟩
 have hmt:∀b,b<w.heap.size→Cs hp' loc' b→Cs hp loc b:=by
  rintro b hb ⟨t,o,l,h1,h2,h3,h4,h5⟩
  by_cases ht:id≤t∧t<id+ts.length
  ·obtain ⟨q,hq,e1,e2⟩:=hrange t ht
   exact (hMc.muts b ⟨q,o,l,e1▸h1,h2,e2▸h3,h4,h5⟩ hb).elim
  ·obtain ⟨e1,e2⟩:=hold t ht
   exact ⟨t,o,l,e1▸h1,h2,e2▸h3,h4,h5⟩
 have hmtc:∀b,Cs hp' loc' b→Cs hpc locc b∨Cs hp loc b:=by
  rintro b ⟨t,o,l,h1,h2,h3,h4,h5⟩
  by_cases ht:id≤t∧t<id+ts.length
  ·obtain ⟨q,hq,e1,e2⟩:=hrange t ht
   exact .inl ⟨q,o,l,e1▸h1,h2,e2▸h3,h4,h5⟩
  ·obtain ⟨e1,e2⟩:=hold t ht
   exact .inr ⟨t,o,l,e1▸h1,h2,e2▸h3,h4,h5⟩
 have x:Ext (Bv G.m1 hp al loc w) (Bv G.m1 hp' (Ku al id) loc' w'):=by
  refine Fh (fun t ht=>.inl ht) (fun t l ha hl=>?_) hMc.size hmt (fun b hb _=>hMc.keep b hb (fun h=>h))
  have:¬(id≤t∧t<id+ts.length):=fun h=>hf t h.1 (by omega) ha
  rw [(hold t this).2] at hl;exact hl
 have mv:Ci X=true→Move (Bv m hpc alc locc w') (Bv G.m1 hp' (Ku al id) loc' w'):=fun hs=>⟨Nat.le_refl _,fun b _ hn=>⟨fun h=>by
  rcases h with h|h
  ·rcases hmtc b h with h|h
   ·exact hn (.inl h)
   ·exact hn (.inr (hm hs b (.inr h)))
  ·exact hn (.inr (hm hs b (.inl h))),rfl⟩⟩
 have hrel:=hclaim mv hs hr (fun i t hi=>by
  have hlt:i<ts.length:=(List.getElem?_eq_some_iff.1 hi).1
  obtain ⟨o,_,_,h3⟩:=hts i t hi
  exact ⟨h3,.inr ⟨Nat.le_add_right _ _,by omega⟩⟩)
 -- what the callee's rows are, seen from here
 have hobjc:∀t,id≤t∧t<id+ts.length→∃q sz rows,ts[t-id]?=some q∧hp' t=some (.row sz true rows)∧hpc q=some (.row sz true rows)∧loc' t=locc q∧Cy rows=true∧(Nw rows=true→Ci X=true):=fun t ht=>by
  obtain ⟨q,hq,e1,e2⟩:=hrange t ht
  obtain ⟨sz,rows,h1,h2,h3⟩:=seal_obj hs q (List.mem_of_getElem? hq)
  exact ⟨q,sz,rows,hq,e1.trans h1,h1,e2,h2,h3⟩
 have hnew:∀t l,id≤t∧t<id+ts.length→loc' t=some l→l.st<l.n→¬l.b<w.heap.size:=fun t l ht hl hpos hlt=>by
  obtain ⟨q,sz,rows,hq,h1,h2,h3,_⟩:=hobjc t ht
  exact hMc.muts l.b ⟨q,_,l,h2,rfl,h3▸hl,rfl,hpos⟩ hlt
 refine ⟨v,loc',rfl,?_,x,hrel.1⟩
 refine hM.change x (fun t o ho=>?_) (fun t ho=>?_) (fun t l hl=>?_) (fun t1 t2 l1 l2 h1 h2 hp1 hp2 hb=>?_) hMc.os hMc.tape hMc.output (fun b hb=>?_) (fun t l h1 h2=>?_)
 ·by_cases ht:id≤t∧t<id+ts.length
  ·obtain ⟨q,sz,rows,hq,h1,h2,h3,h4,h5⟩:=hobjc t ht
   have:o=.row sz true rows:=Option.some.inj (ho.symm.trans h1)
   subst this
   obtain ⟨l,hl,g1,g2,g3,g4,g5,g6⟩:=hMc.obj q _ h2
   refine .inr ⟨l,h3.trans hl,g1,g2,g3,g4,g5,fun hpos=>?_⟩
   obtain ⟨c,e,fz,us,k1,k2,k3,k4,k5,k6⟩:=g6 hpos
   refine ⟨c,e,fz,us,k1,k2,?_,k4,k5,k6⟩
   by_cases hsh:Nw rows=true
   ·exact RelL.move (mv (h5 hsh)) (by rw [←Ex];exact h4) k3
   ·exact RelL.alone (by rw [←Pg];simpa using hsh) k3
  ·obtain ⟨e1,e2⟩:=hold t ht
   refine .inl ⟨e1▸ho,e2,fun l hl hpos=>hMc.keep _ (hM.lt hl hpos) (fun h=>h)⟩
 ·by_cases ht:id≤t∧t<id+ts.length
  ·obtain ⟨q,hq,e1,e2⟩:=hrange t ht
   rw [e2];exact hMc.none_ q (e1▸ho)
  ·obtain ⟨e1,e2⟩:=hold t ht
   rw [e2];exact hM.none_ t (e1▸ho)
 ·by_cases ht:id≤t∧t<id+ts.length
  ·exact .inr ⟨ht.1,by omega⟩
  ·exact .inl (hM.al_ t l ((hold t ht).2▸hl))
 ·by_cases e1:id≤t1∧t1<id+ts.length<;>by_cases e2:id≤t2∧t2<id+ts.length
  ·obtain ⟨q1,hq1,_,a1⟩:=hrange t1 e1
   obtain ⟨q2,hq2,_,a2⟩:=hrange t2 e2
   have hqq:q1=q2:=hMc.inj _ _ _ _ (a1▸h1) (a2▸h2) hp1 hp2 hb
   subst hqq
   obtain ⟨i1,j1⟩:=List.getElem?_eq_some_iff.1 hq1
   obtain ⟨i2,j2⟩:=List.getElem?_eq_some_iff.1 hq2
   have:=Ve hnd hq1 hq2
   omega
  ·exact absurd (hb▸hM.lt ((hold t2 e2).2▸h2) hp2) (hnew t1 l1 e1 h1 hp1)
  ·exact absurd (hb▸hM.lt ((hold t1 e1).2▸h1) hp1) (hnew t2 l2 e2 h2 hp2)
  ·exact hM.inj _ _ _ _ ((hold t1 e1).2▸h1) ((hold t2 e2).2▸h2) hp1 hp2 hb
 ·by_cases hlt:b<w.heap.size
  ·exact .inl (hmt b hlt hb)
  ·exact .inr (by omega)
 ·by_cases e:id≤t∧t<id+ts.length
  ·exact .inr (Nat.le_of_not_lt (hnew t l e h1 h2))
  ·exact .inl ⟨t,l,(hold t e).2▸h1,h2,rfl⟩
end
end Go.Gm
namespace Go.Gm
section
variable {P:Program} {G:Ghost P} {hp:Am} {al:Nat→Prop} {loc:Nat→Option Loc} {w:World} {id:Nat}
theorem Gt:∀(a b:List (Nat×Option AObj)) (hp:Am),Be hp (a++b)=Be (Be hp a) b
 | [],_,_=>rfl
 | (t,o)::a,b,hp=>by simp [Be,Gt a b]
def frz (hp:Am) (ts:List Nat):Am:=fun t=>if t∈ts then (match hp t with
 | some (.row sz _ rows)=>some (.row sz false rows)
 | o=>o) else hp t
theorem Ky (hp:Am):∀(ts:List Nat) (h:Am) (t:Nat),Be h (Dd hp ts) t=if t∈ts then (match hp t with
  | some (.row sz true rows)=>some (.row sz false rows)
  | _=>h t) else h t
 | [],h,t=>by simp [Dd,Be]
 | q::ts,h,t=>by
  simp only [Dd]
  split
  ·rename_i sz rows hq
   simp only [Be]
   rw [Ky hp ts]
   by_cases e:t=q
   ·subst e;simp [hq,Ag]
   ·by_cases e2:t∈ts<;>simp [e,e2,Ag]
  ·rename_i hq
   rw [Ky hp ts]
   by_cases e:t=q
   ·subst e
    by_cases e2:t∈ts
    ·simp [e2]
    ·simp only [e2,if_false,List.mem_cons,true_or,if_true]
   ·simp [e]
theorem freeze_eq (hp:Am) (ts:List Nat):Be hp (Dd hp ts)=frz hp ts:=by
 funext t
 rw [Ky,frz]
 split
 ·split
  ·rename_i hh;rw [hh]
  ·rename_i hh
   split
   ·rename_i sz m rows h2
    cases m with
    | true=>exact absurd h2 (hh sz rows)
    | false=>exact h2
   ·rfl
 ·rfl
theorem Mem.frz (hM:Mem G hp al loc w) (ts:List Nat):Mem G (frz hp ts) al loc w∧Ext (Bv G.m1 hp al loc w) (Bv G.m1 (Gm.frz hp ts) al loc w):=by
 have hsome:∀t o',Gm.frz hp ts t=some o'→∃o,hp t=some o∧(o'=o∨∃sz m rows,o=.row sz m rows∧o'=.row sz false rows):=by
  intro t o' h
  unfold Gm.frz at h
  split at h
  ·split at h
   ·rename_i sz m rows h2;cases h;exact ⟨_,h2,.inr ⟨sz,m,rows,rfl,rfl⟩⟩
   ·exact ⟨o',h,.inl rfl⟩
  ·exact ⟨o',h,.inl rfl⟩
 have hmt:∀b,Cs (Gm.frz hp ts) loc b→Cs hp loc b:=by
  rintro b ⟨t,o',l,h1,h2,h3,h4,h5⟩
  obtain ⟨o,ho,rfl|⟨sz,m,rows,rfl,rfl⟩⟩:=hsome t o' h1
  ·exact ⟨t,_,l,ho,h2,h3,h4,h5⟩
  ·simp [AObj.isMut] at h2
 have x:Ext (Bv G.m1 hp al loc w) (Bv G.m1 (Gm.frz hp ts) al loc w):=Fh (fun _ h=>h) (fun _ _ _ h=>h) (Nat.le_refl _) (fun b _=>hmt b) (fun _ _ _=>rfl)
 refine ⟨hM.change x (fun t o' ho=>?_) (fun t ho=>?_) hM.al_ hM.inj rfl rfl rfl (fun b hb=>.inl (hmt b hb)) (fun t l h1 h2=>.inl ⟨t,l,h1,h2,rfl⟩),x⟩
 ·obtain ⟨o,h1,rfl|⟨sz,m,rows,rfl,rfl⟩⟩:=hsome t o' ho
  ·exact .inl ⟨h1,rfl,fun _ _ _=>rfl⟩
  ·obtain ⟨l,hl,hob⟩:=hM.obj t _ h1
   exact .inr ⟨l,hl,ObjAt.ext (o:=.row sz false rows) x (fun _=>rfl) hob⟩
 ·apply hM.none_
  unfold Gm.frz at ho
  split at ho
  ·split at ho
   ·cases ho
   ·exact ho
  ·exact ho
def Qz (ft:FuncId→List AV→Option AV) (hp:Am) (id:Nat) (f:FuncId) (us:List AV):Option AR :=
 match Lb hp us with
 | some xs=>match ft f xs with
  | some X=>if (Bt X id).2.length≤8 then some ⟨(Bt X id).1,(if Ci X=true then Dd hp (us.flatMap Hj) else [])++Hu (Bt X id).2 id⟩ else none
  | none=>none
 | none=>none
theorem resL_rel (hM:Mem G hp al loc w) {m:Nat→Prop} (hm:∀b,m b→G.m1 b∨Cs hp loc b):∀{us xs:List AV} {vs:List Value},RelL (Bv G.m1 hp al loc w) us vs→Lb hp us=some xs →
  (∀t∈us.flatMap Hj,∀l,loc t=some l→l.st<l.n→¬m l.b)→RelL (E0 m w) xs vs
 | [],xs,_,.nil,h,_=>by simp [Lb] at h;subst h;exact .nil
 | u::us,xs,_,.cons hu hus,h,hfz=>by
  simp only [Lb] at h
  split at h
  ·rename_i x ys h1 h2
   cases h
   exact .cons (Ny hM hm hu h1 (fun t off len l e hl hpos=>hfz t (by subst e;simp [Hj]) l hl hpos)) (resL_rel hM hm hus h2 (fun t ht=>hfz t (by simp only [List.flatMap_cons,List.mem_append];exact .inr ht)))
  ·cases h
theorem resV_frz (ts:List Nat) (u:AV):Fj (frz hp ts) u=Fj hp u:=by
 cases u with
 | own t off len =>
  simp only [Fj,frz]
  by_cases e:t∈ts
  ·simp only [e,if_true]
   cases hp t with
   | none=>rfl
   | some o=>cases o<;>rfl
  ·simp only [e,if_false]
 | val v=>cases v with
  | slice a n c=>cases a<;>cases n<;>cases c<;>rfl
  | _=>rfl
 | _=>rfl
theorem resL_frz (ts:List Nat):∀(us:List AV),Lb (frz hp ts) us=Lb hp us
 | []=>rfl
 | u::us=>by simp only [Lb,resV_frz,resL_frz ts us]
theorem resL_rows:∀{us xs:List AV},Lb hp us=some xs→∀t∈us.flatMap Hj,∃sz m rows,hp t=some (.row sz m rows)
 | [],_,_,t,ht=>by cases ht
 | u::us,xs,h,t,ht=>by
  simp only [Lb] at h
  split at h
  ·rename_i x ys h1 h2
   simp only [List.flatMap_cons,List.mem_append] at ht
   rcases ht with ht|ht
   ·cases u with
    | own q off len =>
     simp [Hj] at ht;subst ht
     simp only [Fj] at h1
     split at h1
     ·rename_i sz m rows ho;exact ⟨sz,m,rows,ho⟩
     ·cases h1
    | _=>simp [Hj] at ht
   ·exact resL_rows h2 t ht
  ·cases h
theorem call_rule {ft:FuncId→List AV→Option AV} {f:FuncId} {us:List AV} {vs:List Value} {r:AR} (hM:Mem G hp al loc w) (hf:Fresh al id) (hft:∀xs X,ft f xs=some X→PC P f xs X)
  (hr:RelL (Bv G.m1 hp al loc w) us vs) (h:Qz ft hp id f us=some r) :
  Calls P f vs.toArray w fun e w'=>∃v loc',e=.returned v∧Mem G (Be hp r.eff) (Ku al id) loc' w' ∧
   Ext (Bv G.m1 hp al loc w) (Bv G.m1 (Be hp r.eff) (Ku al id) loc' w')∧Rel (Bv G.m1 (Be hp r.eff) (Ku al id) loc' w') r.v v:=by
 unfold Qz at h
 split at h
 ·rename_i xs hres
  split at h
  ·rename_i X hX
   split at h
   ·rename_i hlen
    cases h
    by_cases hsh:Ci X=true
    ·simp only [hsh,if_true]
     obtain ⟨hM1,x1⟩:=hM.frz (us.flatMap Hj)
     have hm1:∀b,(G.m1 b∨Cs (frz hp (us.flatMap Hj)) loc b)→b<w.heap.size:=fun b hb=>by
      rcases hb with hb|⟨t,o,l,h1,h2,h3,h4,h5⟩
      ·exact Nat.lt_of_lt_of_le (G.m1lt b hb) hM.size
      ·exact h4▸hM1.lt h3 h5
     have hx:=resL_rel (m:=fun b=>G.m1 b∨Cs (frz hp (us.flatMap Hj)) loc b) hM1 (fun b h=>h) (RelL.ext x1 hr) (by rw [resL_frz];exact hres) (fun t ht l hl hpos hm=>by
      rcases hm with hm|⟨t',o',l',h1,h2,h3,h4,h5⟩
      ·exact hM1.fgn t l hl hpos hm
      ·have:t'=t:=hM1.inj _ _ _ _ h3 hl h5 hpos h4
       subst this
       obtain ⟨sz,mm,rows,hrow⟩:=resL_rows hres t' ht
       simp only [frz,ht,if_true,hrow] at h1
       cases h1;simp [AObj.isMut] at h2)
     have:=Wh (G:=G) (id:=id) (X:=X) (us:=us) hM1 hf (hft _ _ hX) hm1 hx (fun _ b hb=>hb) hlen
     refine this.mono ?_
     rintro e w' ⟨v,loc',rfl,a,b,c⟩
     rw [←freeze_eq,←Gt] at a b c
     exact ⟨v,loc',rfl,a,(x1.trans (by rw [←freeze_eq];exact b)),c⟩
    ·have hsh':Ci X=false:=by simpa using hsh
     simp only [hsh',Bool.false_eq_true,if_false,List.nil_append]
     let m:Nat→Prop:=fun b=>G.m1 b∨∃t o l,hp t=some o∧o.isMut=true∧loc t=some l∧l.b=b∧l.st<l.n∧t∉us.flatMap Hj
     have hml:∀b,m b→b<w.heap.size:=fun b hb=>by
      rcases hb with hb|⟨t,o,l,h1,h2,h3,h4,h5,_⟩
      ·exact Nat.lt_of_lt_of_le (G.m1lt b hb) hM.size
      ·exact h4▸hM.lt h3 h5
     have hx:=resL_rel (m:=m) hM (fun b hb=>by
      rcases hb with hb|⟨t,o,l,h1,h2,h3,h4,h5,_⟩
      ·exact .inl hb
      ·exact .inr ⟨t,o,l,h1,h2,h3,h4,h5⟩) hr hres (fun t ht l hl hpos hm=>by
      rcases hm with hm|⟨t',o',l',h1,h2,h3,h4,h5,h6⟩
      ·exact hM.fgn t l hl hpos hm
      ·have:t'=t:=hM.inj _ _ _ _ h3 hl h5 hpos h4
       subst this
       exact h6 ht)
     refine (Wh (G:=G) (id:=id) (X:=X) (us:=us) hM hf (hft _ _ hX) hml hx (fun h=>absurd h hsh) hlen).mono ?_
     rintro e w' ⟨v,loc',rfl,a,b,c⟩
     exact ⟨v,loc',rfl,a,b,c⟩
   ·cases h
  ·cases h
 ·cases h
def CallOk (P:Program) (f:FuncId) (us:List AV) (hp:Am) (id:Nat) (r:AR):Prop :=
 ∀(G:Ghost P) (al:Nat→Prop) (loc:Nat→Option Loc) (w:World) (vs:List Value),Mem G hp al loc w→Fresh al id→RelL (Bv G.m1 hp al loc w) us vs →
  Calls P f vs.toArray w fun e w'=>∃v loc',e=.returned v∧Mem G (Be hp r.eff) (Ku al id) loc' w' ∧
   Ext (Bv G.m1 hp al loc w) (Bv G.m1 (Be hp r.eff) (Ku al id) loc' w')∧Rel (Bv G.m1 (Be hp r.eff) (Ku al id) loc' w') r.v v
theorem Pd {P:Program} {f:FuncId} {us xs:List AV} {X:AV} {hp:Am} {id:Nat} (h:PC P f xs X) (hx:Lb hp us=some xs) (hl:(Bt X id).2.length≤8) :
  CallOk P f us hp id ⟨(Bt X id).1,(if Ci X=true then Dd hp (us.flatMap Hj) else [])++Hu (Bt X id).2 id⟩:=fun G al loc w vs hM hf hr=>by
 classical
 refine call_rule (ft:=fun g ys=>if g=f∧ys=xs then some X else none) hM hf (fun ys Y hY=>?_) hr ?_
 ·split at hY
  ·rename_i hc;cases hY;rw [hc.2];exact h
  ·cases hY
 ·simp only [Qz,hx,and_self,if_true,hl]
end
end Go.Gm
namespace Go.Gm
open MapKept
def isK (q:IntKind):Value→Bool
 | .int k _=>decide (k=q)
 | _=>false
def eqK (a:Int):Value→Bool
 | .int _ b=>decide (b=a)
 | _=>false
def Mm (a:Int):List Value→List AV→Option AV
 | k::ks,v::vs=>if eqK a k=true then some v else Mm a ks vs
 | _,_=>none
def Pt (q:IntKind) (a:Int):List Value→List Value
 | []=>[.int q a]
 | k::ks=>if eqK a k=true then .int q a::ks else k::Pt q a ks
def Ps (a:Int) (v:AV):List Value→List AV→List AV
 | k::ks,x::xs=>if eqK a k=true then v::xs else x::Ps a v ks xs
 | _,xs=>xs++[v]
theorem Vo {E:Env} (q:IntKind) (a:Int):∀(l:List MapEntry) (us:List AV) (i:Nat),(l.map fun e=>e.key).all (isK q)=true→RelL E us (l.map fun e=>e.val) →
  (Instr.findNow (.int q) (.int q a) l i=some none∧Mm a (l.map fun e=>e.key) us=none∧Pt q a (l.map fun e=>e.key)=(l.map fun e=>e.key)++[.int q a]∧∀v,Ps a v (l.map fun e=>e.key) us=us++[v]) ∨
  ∃j e u,Instr.findNow (.int q) (.int q a) l i=some (some (i+j,e.val))∧l[j]?=some e∧e.key=.int q a∧Mm a (l.map fun e=>e.key) us=some u∧Rel E u e.val ∧
   ∀v x,Rel E v x→Pt q a (l.map fun e=>e.key)=(l.modify j fun e=>{ e with key:=.int q a,val:=x }).map (fun e=>e.key)∧RelL E (Ps a v (l.map fun e=>e.key) us) ((l.modify j fun e=>{ e with key:=.int q a,val:=x }).map fun e=>e.val)
 | [],_,_,_,.nil=>.inl ⟨rfl,rfl,rfl,fun _=>rfl⟩
 | e::es,_,i,h,.cons (c:=u) (cs:=us) hu hs=>by
  simp only [List.map_cons,List.all_cons,Bool.and_eq_true] at h
  obtain ⟨h1,h2⟩:=h
  have hk:∃b,e.key=.int q b:=by
   unfold isK at h1
   split at h1
   ·rename_i k b hb;exact ⟨b,by rw [hb,of_decide_eq_true h1]⟩
   ·cases h1
  obtain ⟨b,hb⟩:=hk
  by_cases e0:b=a
  ·subst e0
   exact .inr ⟨0,e,u,by simp [Instr.findNow,hb,Instr.sameNow],rfl,hb,by simp [Mm,hb,eqK],hu,fun v x hv=>⟨by simp [Pt,hb,eqK],by simp only [List.map_cons,Ps,hb,eqK,decide_true,if_true];exact .cons hv hs⟩⟩
  ·have e1:(a == b)=false:=by simpa using fun x=>e0 x.symm
   rcases Vo q a es us (i+1) h2 hs with ⟨g1,g2,g3,g4⟩|⟨j,e',u',g1,g2,g3,g4,g5,g6⟩
   ·exact .inl ⟨by simp only [Instr.findNow,hb,Instr.sameNow,if_true,e1,g1],by simp [Mm,hb,eqK,e0];exact g2,by simp [Pt,hb,eqK,e0];exact g3,fun v=>by simp [Ps,hb,eqK,e0];exact g4 v⟩
   ·refine .inr ⟨j+1,e',u',by simp [Instr.findNow,hb,Instr.sameNow,e1,g1];omega,by simpa using g2,g3,by simp [Mm,hb,eqK,e0];exact g4,g5,fun v x hv=>⟨by simp [Pt,hb,eqK,e0];exact (g6 v x hv).1,?_⟩⟩
    simp only [List.map_cons,Ps,hb,eqK,e0,decide_false,List.modify_succ_cons]
    exact .cons hu (g6 v x hv).2
def Qb (P:Program) (t:TypeId):Option (IntKind×Value) :=
 match P.underlying t with
 | some (.map k e)=>match P.underlying k,P.info? e with
  | some (.int q),some i=>i.zero.map fun z=>(q,z)
  | _,_=>none
 | _=>none
theorem Si {P:Program} {t:TypeId} {q:IntKind} {z:Value} (h:Qb P t=some (q,z)):∃k e,P.underlying t=some (.map k e)∧P.underlying k=some (.int q)∧∀w,(zeroValue e).run P w=.ok z w:=by
 unfold Qb at h
 split at h
 ·rename_i k e hu
  split at h
  ·rename_i q' i hk hi
   simp only [Option.map_eq_some_iff,Prod.mk.injEq] at h
   obtain ⟨z',hz,rfl,rfl⟩:=h
   exact ⟨k,e,hu,hk,fun w=>by simp [zeroValue,typeInfo,hi,hz]⟩
  ·cases h
 ·cases h
def Nl (P:Program) (t:TypeId) (ks:List Value) (us:List AV) (k:AV):Option AV :=
 match k with
 | .val (.int q a)=>match Qb P t with
  | some (q',z)=>if q'=q∧ks.all (isK q)=true then some ((Mm a ks us).getD (.val z)) else none
  | none=>none
 | _=>none
def lookO (P:Program) (t:TypeId) (ob:Option AObj) (k:AV):Option AV :=
 match ob with
 | some (.mapo ks us)=>Nl P t ks us k
 | _=>none
def Qc (P:Program) (hp:Am) (t:TypeId) (x k:AV):Option AV :=
 match x with
 | .im ks us=>Nl P t ks us k
 | .mp o=>lookO P t (hp o) k
 | _=>none
def Xi (P:Program) (t:TypeId) (o:Nat) (ob:Option AObj) (k x:AV):Option (List (Nat×Option AObj)) :=
 match k with
 | .val (.int q a)=>match Qb P t,ob with
  | some (q',_),some (.mapo ks us)=>if q'=q∧ks.all (isK q)=true then some [(o,some (.mapo (Pt q a ks) (Ps a x ks us)))] else none
  | _,_=>none
 | _=>none
def updA (P:Program) (hp:Am) (t:TypeId) (m k x:AV):Option (List (Nat×Option AObj)) :=
 match m with
 | .mp o=>Xi P t o (hp o) k x
 | _=>none
section
variable {P:Program} {G:Ghost P} {hp:Am} {al:Nat→Prop} {loc:Nat→Option Loc} {w:World} {id:Nat}
theorem look_run {E:Env} (hw:E.w=w) {t:TypeId} {ks:List Value} {us:List AV} {k u:AV} {kvv:Value} {b clock:Nat} {ens:Array MapEntry} (hh:w.heap[b]?=some (.map ens clock)) (he:ens.toList.map (fun e=>e.key)=ks) (hl:RelL E us (ens.toList.map fun e=>e.val))
  (hk:Rel E k kvv) (h:Nl P t ks us k=some u):∃v,(Instr.lookup t (.map (some b)) kvv false).run P w=.ok v w∧Rel E u v:=by
 unfold Nl at h
 split at h
 ·rename_i q a
  split at h
  ·rename_i q' z hq
   split at h
   ·rename_i hc
    obtain ⟨rfl,hall⟩:=hc
    cases h
    cases hk
    subst he
    obtain ⟨kt,et,hu,hku,hz⟩:=Si hq
    have hck:∀e,(Instr.checkKey e 10000 kt (.int q' a)).run P w=.ok () w:=fun e=>run_checkKey (n:=9999) hku (by simp [IsKey]) e
    have hgo:(getObj b).run P w=.ok (.map ens clock) w:=MapKept.run_getObj_map hh
    rcases Vo q' a ens.toList us 0 hall hl with ⟨g1,g2,_⟩|⟨j,e,u,g1,_,_,g2,g3,_⟩
    ·have hfk:=run_findKey (w:=w) hku g1
     rw [g2]
     exact ⟨z,by simp [Instr.lookup,run_underlying hu,hgo,hck,hfk,hz],.val _⟩
    ·have hfk:=run_findKey (w:=w) hku g1
     rw [g2]
     exact ⟨e.val,by simp [Instr.lookup,run_underlying hu,hgo,hck,hfk],g3⟩
   ·cases h
  ·cases h
 ·cases h
theorem does_lookup {t:TypeId} {x k u:AV} {xv kvv:Value} (hM:Mem G hp al loc w) (hx:Rel (Bv G.m1 hp al loc w) x xv) (hk:Rel (Bv G.m1 hp al loc w) k kvv) (h:Qc P hp t x k=some u) :
  Ix P (do pure (.value (←Instr.lookup t xv kvv false))) G hp al loc w id ⟨u,[]⟩:=by
 unfold Qc at h
 split at h
 ·rename_i ks us
  cases hx with
  | im hb hm hh he hx hl =>
   subst hx
   obtain ⟨v,hv,hr⟩:=look_run (P:=P) rfl (by simpa [Bv] using hh) he.1 hl hk h
   exact Cg hM (v:=v) (by simp [Bv] at hv;simp [hv]) hr
  | im0 =>
   unfold Nl at h
   split at h
   ·rename_i q a
    split at h
    ·rename_i q' z hq
     split at h
     ·rename_i hc
      obtain ⟨rfl,_⟩:=hc
      cases h
      cases hk
      obtain ⟨kt,et,hu,hku,hz⟩:=Si hq
      refine Cg hM (v:=z) ?_ (.val _)
      have hck:∀e,(Instr.checkKey e 10000 kt (.int q' a)).run P w=.ok () w:=fun e=>run_checkKey (n:=9999) hku (by simp [IsKey]) e
      have hfk:=run_findKey (w:=w) (k:=.int q' a) (l:=[]) (a:=none) hku rfl
      simp [Instr.lookup,run_underlying hu,hck,hfk,hz]
     ·cases h
    ·cases h
   ·cases h
 ·rename_i o
  unfold lookO at h
  split at h
  ·rename_i ks us ho
   obtain ⟨l,hl,hlt,ens,clock,xs,hh,he,hx',hrl⟩:=hM.obj o _ ho
   subst hx'
   have hmv:xv=.map (some l.b):=by cases hx with|mp ha hh=>exact hh l hl
   subst hmv
   obtain ⟨v,hv,hr⟩:=look_run (P:=P) rfl (by simpa [Bv] using hh) he.1 hrl hk h
   exact Cg hM (v:=v) (by simp [Bv] at hv;simp [hv]) hr
  ·cases h
 ·cases h
theorem does_makeMap {t:TypeId} (hM:Mem G hp al loc w) (hf:¬al id):Ix P (do pure (.value (←Instr.makeMap t none))) G hp al loc w id ⟨.mp id,[(id,some (.mapo [] []))]⟩:=by
 have hM':=hM.alloc hf (.map #[] 0) (.mapo [] []) ⟨w.heap.size,0,1,1⟩ rfl ⟨Nat.zero_lt_one,#[],0,[],(show (w.heap.push (Obj.map #[] 0))[w.heap.size]?=_ by simp),⟨rfl,stamped_empty 0⟩,rfl,.nil⟩
 have x:=Ext.alloc hM hf (.map #[] 0) (.mapo [] []) ⟨w.heap.size,0,1,1⟩ rfl
 obtain ⟨hM2,x2⟩:=hM'.more (al':=Ku al id) (fun t ht=>by
  by_cases e:t=id
  ·subst e;exact .inr ⟨Nat.le_refl _,by omega⟩
  ·rw [An _ _ e] at ht;exact .inl ht)
 refine ⟨_,.map (some w.heap.size),_,_,by simp [Instr.makeMap],.inl rfl,hM2,x.trans x2,.mp (.inr ⟨Nat.le_refl _,by omega⟩) fun l hl=>?_⟩
 have:l=⟨w.heap.size,0,1,1⟩:=Option.some.inj (hl.symm.trans (Ba ..))
 subst this;rfl
theorem does_update {t:TypeId} {m k x:AV} {mv kvv xv:Value} {eff:List (Nat×Option AObj)} (hM:Mem G hp al loc w) (hm:Rel (Bv G.m1 hp al loc w) m mv) (hk:Rel (Bv G.m1 hp al loc w) k kvv) (hx:Rel (Bv G.m1 hp al loc w) x xv)
  (h:updA P hp t m k x=some eff):Ix P (do Instr.mapUpdate t mv kvv xv;pure .skip) G hp al loc w id ⟨.any,eff⟩:=by
 unfold updA at h
 split at h
 rotate_left
 ·cases h
 rename_i o
 unfold Xi at h
 split at h
 ·rename_i q a
  split at h
  ·rename_i q' z ks us hq ho
   split at h
   ·rename_i hc
    obtain ⟨rfl,hall⟩:=hc
    cases h
    cases hk
    obtain ⟨l,hl,hlt,ens,clock,xs,hh,he,hx',hrl⟩:=hM.obj o _ ho
    obtain ⟨he,hst⟩:=he
    subst he hx'
    have hmv:mv=.map (some l.b):=by cases hm with|mp ha hh=>exact hh l hl
    subst hmv
    obtain ⟨kt,et,hu,hku,hz⟩:=Si hq
    have hck:∀e,(Instr.checkKey e 10000 kt (.int q' a)).run P w=.ok () w:=fun e=>run_checkKey (n:=9999) hku (by simp [IsKey]) e
    have hh':w.heap[l.b]?=some (.map ens clock):=by simpa [Bv] using hh
    have hgo:(getObj l.b).run P w=.ok (.map ens clock) w:=MapKept.run_getObj_map hh'
    have hset:∀o,(setObj l.b o).run P w=.ok () { w with heap:=w.heap.setIfInBounds l.b o }:=fun o=>run_setObj_map o hh'
    have hlb:l.b<w.heap.size:=(Array.getElem?_eq_some_iff.1 hh').1
    have hks:∀x∈ens.toList,IsKey (.int q') x.key:=fun x hx=>by
     have h:=List.all_eq_true.1 hall x.key (List.mem_map.2 ⟨x,hx,rfl⟩)
     unfold isK at h
     split at h
     ·rename_i k b hb;rw [hb];simpa [IsKey] using h
     ·cases h
    have key:∃ens' clock',(Instr.mapUpdate t (.map (some l.b)) (.int q' a) xv).run P w=.ok () { w with heap:=w.heap.setIfInBounds l.b (.map ens' clock') }∧ens'.toList.map (fun e=>e.key)=Pt q' a (ens.toList.map fun e=>e.key)∧Stamped ens' clock' ∧
      RelL (Bv G.m1 hp al loc w) (Ps a x (ens.toList.map fun e=>e.key) us) (ens'.toList.map fun e=>e.val):=by
     rcases Vo q' a ens.toList us 0 hall hrl with ⟨g1,_,g2,g3⟩|⟨j,e,u,g1,gj,ge,_,_,g2⟩
     ·have hfk:=run_findKey (w:=w) hku g1
      refine ⟨ens.push { key:=.int q' a,val:=xv,born:=clock },clock+1,?_,?_,stamped_push hst ?_,?_⟩
      ·simp [Instr.mapUpdate,run_underlying hu,hgo,hck,hfk,hset]
      ·rw [g2];simp
      ·rcases findNow_spec (d:=.int q') (k:=.int q' a) (by simp [IsKey]) ens.toList 0 hks with ⟨_,h2⟩|⟨j,e,h1,_⟩
       ·exact h2
       ·rw [g1] at h1;cases h1
      ·rw [g3];simp only [Array.toList_push,List.map_append,List.map_cons,List.map_nil];exact hrl.append (.cons hx .nil)
     ·have hfk:=run_findKey (w:=w) hku g1
      refine ⟨ens.modify j fun e=>{ e with key:=.int q' a,val:=xv },clock,?_,?_,stamped_modify hst _ _ (fun _ _=>rfl) (fun e' _ he'=>?_),?_⟩
      ·have gj':ens[j]?=some e:=by simpa using gj
       have hth:∀w:World,(Instr.keyThatStays (.int q' a) (.int q' a)).run P w=.ok (.int q' a) w:=fun w=>by
        simp [Instr.keyThatStays,Instr.sameBits]
       simp [Instr.mapUpdate,run_underlying hu,hgo,hck,hfk,hset,gj',ge,hth]
      ·rw [(g2 x xv hx).1,Array.toList_modify]
      ·have gj':ens[j]?=some e:=by simpa using gj
       rw [gj'] at he';cases he';exact ge.symm
      ·rw [Array.toList_modify];exact (g2 x xv hx).2
    obtain ⟨ens',clock',hrun,hens,hst',hrl'⟩:=key
    have hM':=hM.write (t:=o) (ob':=.mapo (Pt q' a (ens.toList.map fun e=>e.key)) (Ps a x (ens.toList.map fun e=>e.key) us)) ho rfl rfl hl hlt (w':={ w with heap:=w.heap.setIfInBounds l.b (.map ens' clock') }) (by simp)
     (fun b hb=>by simp [Array.getElem?_setIfInBounds_ne (Ne.symm hb)]) rfl rfl rfl (fun xx=>⟨hlt,ens',clock',_,by simp [Bv,hlb],⟨hens,hst'⟩,rfl,hrl'.ext xx⟩)
    obtain ⟨hM1,x1⟩:=hM'
    obtain ⟨hM2,x2⟩:=hM1.more (al':=Ku al id) (fun t ht=>alR_of ht)
    exact ⟨.skip,undef,_,loc,by simp [hrun],.inr ⟨rfl,rfl⟩,hM2,x1.trans x2,.any _⟩
   ·cases h
  ·cases h
 ·cases h
end
end Go.Gm
namespace Go.Gm
section
variable {P:Program} {G:Ghost P} {hp:Am} {al:Nat→Prop} {loc:Nat→Option Loc} {w:World} {id:Nat}
theorem Mem.dropW (h:Mem G hp al loc w) {t:Nat} {o:AObj} {l:Loc} (ho:hp t=some o) (hm:o.isMut=true) (hl:loc t=some l) (hlt:l.st<l.n) {w':World}
  (hsize:w'.heap.size=w.heap.size) (hother:∀b,b≠l.b→w'.heap[b]?=w.heap[b]?) (hos:w'.os=w.os) (htape:w'.tape=w.tape) (hout:w'.output=w.output) :
  Mem G (Ag hp t none) al (Ag loc t none) w'∧Ext (Bv G.m1 hp al loc w) (Bv G.m1 (Ag hp t none) al (Ag loc t none) w'):=by
 have hmt:∀b,Cs (Ag hp t none) (Ag loc t none) b→Cs hp loc b:=by
  rintro b ⟨t',o',l',h1,h2,h3,h4,h5⟩
  by_cases e:t'=t
  ·subst e;rw [Ba] at h1;cases h1
  ·rw [An _ _ e] at h1 h3;exact ⟨t',o',l',h1,h2,h3,h4,h5⟩
 have x:Ext (Bv G.m1 hp al loc w) (Bv G.m1 (Ag hp t none) al (Ag loc t none) w'):=by
  refine Fh (fun _ h=>h) (fun t' l' ha hl'=>?_) (by simp [hsize]) (fun b _=>hmt b) (fun b _ hn=>hother b fun e=>hn ⟨t,o,l,ho,hm,hl,e.symm,hlt⟩)
  by_cases e:t'=t
  ·subst e;simp [Ag] at hl'
  ·simpa [Ag,e] using hl'
 refine ⟨h.change x (fun t' o' ho'=>?_) (fun t' ho'=>?_) (fun t' l' hl'=>?_) (fun t1 t2 l1 l2 h1 h2 hp1 hp2 hb=>?_) hos htape hout (fun b hb=>.inl (hmt b hb)) (fun t' l' h1 h2=>?_),x⟩
 ·by_cases e:t'=t
  ·subst e;rw [Ba] at ho';cases ho'
  ·rw [An _ _ e] at ho';exact .inl ⟨ho',An _ _ e,fun l' hl' hlt'=>hother _ fun eb=>e (h.inj _ _ _ _ hl' hl hlt' hlt eb)⟩
 ·by_cases e:t'=t
  ·subst e;exact Ba ..
  ·rw [An _ _ e] at ho';rw [An _ _ e];exact h.none_ t' ho'
 ·by_cases e:t'=t
  ·subst e;rw [Ba] at hl';cases hl'
  ·rw [An _ _ e] at hl';exact h.al_ t' l' hl'
 ·by_cases e1:t1=t
  ·subst e1;rw [Ba] at h1;cases h1
  ·by_cases e2:t2=t
   ·subst e2;rw [Ba] at h2;cases h2
   ·rw [An _ _ e1] at h1;rw [An _ _ e2] at h2;exact h.inj _ _ _ _ h1 h2 hp1 hp2 hb
 ·by_cases e:t'=t
  ·subst e;rw [Ba] at h1;cases h1
  ·rw [An _ _ e] at h1;exact .inl ⟨t',l',h1,h2,rfl⟩
def u8O (P:Program) (d:TypeId):Bool:=match P.underlying d with
 | some (.slice e)=>match P.underlying e with
  | some (.int .u8)=>true
  | _=>false
 | _=>false
def convT (P:Program) (d:TypeId) (t off len:Nat):Option AObj→Option AR
 | some (.row 1 true rows)=>if off=0∧len=rows.length∧0<len∧Cy rows=true∧u8O P d=true then some ⟨.sl rows,[(t,none)]⟩ else none
 | _=>none
def Uf (P:Program) (hp:Am) (d:TypeId) (t off len:Nat):Option AR:=convT P d t off len (hp t)
theorem convS_ap {d:TypeId} {t off len:Nat}:Uf P hp d t off len=convT P d t off len (hp t):=rfl
theorem convT_row {d:TypeId} {t off len:Nat} {rows:List (List AV)}:convT P d t off len (some (.row 1 true rows))=if off=0∧len=rows.length∧0<len∧Cy rows=true∧u8O P d=true then some ⟨.sl rows,[(t,none)]⟩ else none:=rfl
theorem does_convS {d:TypeId} {t off len:Nat} {v:Value} {r:AR} (hM:Mem G hp al loc w) (hv:Rel (Bv G.m1 hp al loc w) (.own t off len) v) (h:Uf P hp d t off len=some r) :
  Ix P (do pure (.value (←convert d d v))) G hp al loc w id r:=by
 unfold Uf at h
 generalize ho:hp t=ob at h
 unfold convT at h
 split at h
 rotate_left
 ·cases h
 rename_i rows
 split at h
 rotate_left
 ·cases h
 rename_i hc
 obtain ⟨rfl,rfl,hpos,hin,hu⟩:=hc
 cases h
 obtain ⟨l,hl,g1,g2,g3,g4,g5,g6⟩:=hM.obj t _ ho
 have hlt:l.st<l.n:=by omega
 obtain ⟨c,e,fz,vs,k1,k2,k3,k4,k5,k6⟩:=g6 hlt
 have hva:∃Cc,v=.slice (some ⟨l.b,l.st,none⟩) rows.length Cc∧rows.length≤Cc:=by
  cases hv with
  | own ha hh =>
   obtain ⟨a,Cc,rfl,_,_,hle,hs⟩:=hh l hl
   rw [hs (by omega)]
   exact ⟨Cc,by simp,hle⟩
 obtain ⟨Cc,rfl,hcap⟩:=hva
 have hk1:w.heap[l.b]?=some (.cells c e fz):=by simpa [Bv] using k1
 have hlb:l.b<w.heap.size:=(Array.getElem?_eq_some_iff.1 hk1).1
 have hrun:(convert d d (.slice (some ⟨l.b,l.st,none⟩) rows.length Cc)).run P w=.ok (.slice (some ⟨l.b,l.st,none⟩) rows.length Cc) (w.freeze ⟨l.b,c.size,none⟩ 1):=by
  unfold u8O at hu
  split at hu
  ·rename_i e' he'
   split at hu
   ·rename_i hq
    have hsh:w.shape? l.b=some (e,c.size):=by simp [World.shape?,hk1]
    simp [convert,run_underlying he',run_underlying hq,markStringish,shape,freeze,Sem.run,hsh]
   ·cases hu
  ·cases hu
 have hfr:∃fz',(w.freeze ⟨l.b,c.size,none⟩ 1).heap[l.b]?=some (.cells c e fz'):=by
  obtain ⟨lo,hi⟩:=fz
  refine ⟨if lo == hi then (c.size,c.size+1) else (min lo c.size,max hi (c.size+1)),?_⟩
  simp only [World.freeze,Nat.one_ne_zero,if_false,Array.getElem?_modify,if_true,hk1]
  rfl
 obtain ⟨fz',hk2⟩:=hfr
 have hoth:∀b,b≠l.b→(w.freeze ⟨l.b,c.size,none⟩ 1).heap[b]?=w.heap[b]?:=fun b hb=>by
  simp only [World.freeze,Nat.one_ne_zero,if_false,Array.getElem?_modify]
  rw [if_neg (fun e=>hb e.symm)]
 obtain ⟨hM',x⟩:=hM.dropW ho rfl hl hlt (w':=w.freeze ⟨l.b,c.size,none⟩ 1) (by simp [World.freeze]) hoth rfl rfl rfl
 obtain ⟨hM2,x2⟩:=hM'.more (al':=Ku al id) (fun t ht=>alR_of ht)
 refine ⟨.value (.slice (some ⟨l.b,l.st,none⟩) rows.length Cc),.slice (some ⟨l.b,l.st,none⟩) rows.length Cc,w.freeze ⟨l.b,c.size,none⟩ 1,Ag loc t none,by rw [Sem.run_bind,hrun];rfl,.inl rfl,hM2,x.trans x2,?_⟩
 refine .sl (sz:=1) (vs:=vs) ?_ ?_ ?_ g3 (by decide) hcap k4 ?_ ?_
 ·simpa [Bv,World.freeze] using hlb
 ·rintro (⟨t',o',l',q1,q2,q3,q4,q5⟩|hb)
  ·have q1':Ag hp t none t'=some o':=q1
   by_cases e:t'=t
   ·subst e;rw [Ba] at q1';cases q1'
   ·rw [An _ _ e] at q3;exact e (hM.inj _ _ _ _ q3 hl q5 hlt q4)
  ·exact hM.fgn t l hl hlt hb
 ·intro e;rw [e] at hpos;exact absurd hpos (by simp)
 ·intro k u hk
  have:=k5 k u hk
  simp only [Bv,World.cell?,hk2]
  simpa using this
 ·have mv:Move (Bv G.m1 hp al loc w) (Bv G.m1 (Ag hp t none) (Ku al id) (Ag loc t none) (w.freeze ⟨l.b,c.size,none⟩ 1)) :=
   ⟨(x.trans x2).size,fun b hb hn=>(x.trans x2).keep b hb hn⟩
  exact RelL.move mv (by rw [←Ex];exact hin) k3
end
end Go.Gm
namespace Go.Gm
def Ii (fr:Operand→AV) (ps:Array (Nat×Operand)):List (Nat×AV):=ps.toList.map fun x=>(x.1,fr x.2)
def liveV (hp:Am):AV→Bool
 | .ptr t _ _=>(hp t).isSome
 | _=>true
def Mx (P:Program) (hp:Am) (sz:Nat) (tx:TypeId) (x:AV):Option (List (List AV)) :=
 match x with
 | .val (.string s)=>if Gd P tx=true∧sz=1 then some (Ds s) else none
 | x=>match Ja hp x,Cz P tx with
  | some rows,some _=>if (∀r∈rows,r.length=sz) then some rows else none
  | _,_=>none
def Eo (P:Program) (hp:Am) (id:Nat) (t tx:TypeId) (s x:AV):Option AR :=
 match Cz P t with
 | some e=>match Rw P e with
  | some (sz,by_)=>match Mx P hp sz tx x with
   | some ys=>match s with
    | .val (.slice none 0 0)=>if ys.length*by_≤140737488355328∧0<by_ then some ⟨.own id 0 ys.length,[(id+1,none),(id,some (.row sz true ys))]⟩ else none
    | .own o off len=>match hp o with
     | some (.row sz' true rows)=>if sz'=sz∧off+len≤rows.length∧(len+ys.length)*by_≤140737488355328∧0<by_ then
       some ⟨.own id 0 (len+ys.length),[(o,none),(id,some (.row sz true ((rows.drop off).take len++ys)))]⟩ else none
     | _=>none
    | _=>none
   | none=>none
  | none=>none
 | none=>none
def Qs (x:AV) (i:Nat):Option AV :=
 match x with
 | .tup vs=>vs[i]?
 | .val (.tuple vs)=>(vs[i]?).map .val
 | _=>none
def partA (P:Program) (t:TypeId) (cs:List AV) (off:Nat):Option AV:=mkv P t (cs.drop off)
def Ij (P:Program) (t:TypeId):Bool:=match P.underlying t with
 | some (.interface _)=>false
 | some _=>true
 | none=>false
def Cx (P:Program) (fr:Operand→AV) (o:Oper):Option AR:=(Mh P o fun x=>Mw (fr x)).map fun v=>⟨v,[]⟩
def Jp:AV→Bool
 | .val (.string _)=>true
 | _=>false
def lenA (P:Program) (fr:Operand→AV) (hp:Am) (o:Oper) (x:Operand) (t:TypeId):Option AR :=
 match fr x with
 | .val (.slice none 0 0)=>(Pm P hp t (fr x)).map fun v=>⟨v,[]⟩
 | .sl _=>(Pm P hp t (fr x)).map fun v=>⟨v,[]⟩
 | .own _ _ _=>(Pm P hp t (fr x)).map fun v=>⟨v,[]⟩
 | _=>Cx P fr o
def callOp (P:Program) (ft:FuncId→List AV→Option AV) (fr:Operand→AV) (hp:Am) (id:Nat) (o:Oper) (c:Call):Option AR :=
 match c.callee with
 | .builtin .len=>match c.args.toList,c.argTypes.toList with
  | [x],[t]=>lenA P fr hp o x t
  | _,_=>none
 | .builtin .append=>match c.args.toList,c.argTypes.toList with
  | [s,x],[t,tx]=>Eo P hp id t tx (fr s) (fr x)
  | _,_=>none
 | .builtin .max=>Cx P fr o
 | .builtin .min=>Cx P fr o
 | .value (.func f)=>Qz ft hp id f (c.args.toList.map fr)
 | _=>none
def Qd (P:Program) (t:TypeId):Bool:=match P.underlying t with
 | some (.pointer _)=>true
 | _=>false
def nilOp (op:BinOp) (r:Option AR):Option AR:=match op with
 | .eql=>some ⟨.val (.bool false),[]⟩
 | .neq=>some ⟨.val (.bool true),[]⟩
 | _=>r
def Qe:AV→Bool
 | .val (.pointer none)=>true
 | _=>false
def Xm (P:Program) (hp:Am) (op:BinOp) (t:TypeId) (x y:AV) (r:Option AR):Option AR:=match x with
 | .ptr o _ _=>if Qe y=true∧Qd P t=true∧(hp o).isSome=true then nilOp op r else r
 | .ip _=>if Qe y=true∧Qd P t=true then nilOp op r else r
 | _=>r
def mkI (t:TypeId) (u:AV):AV:=match Mw u with
 | some v=>.val (.iface t v)
 | none=>.ifc t u
theorem mkI_rel {E:Env} {t:TypeId} {u:AV} {v:Value} (h:Rel E u v):Rel E (mkI t u) (.iface t v):=by
 unfold mkI
 cases e:Mw u with
 | none=>exact .ifc h
 | some x=>have:=Xx h e;subst this;exact .val _
theorem mkI_val {t:TypeId} {v:Value}:mkI t (.val v)=.val (.iface t v):=rfl
theorem mkI_ptr {t:TypeId} {q i off:Nat}:mkI t (.ptr q i off)=.ifc t (.ptr q i off):=rfl
theorem mkI_agg3 {t:TypeId} {a b c:Value}:mkI t (.agg [.val a,.val b,.val c])=.val (.iface t (.agg #[a,b,c])):=rfl
def Et (P:Program) (ft:FuncId→List AV→Option AV) (fr:Operand→AV) (hp:Am) (id:Nat) (o:Oper):Option AR :=
 match o.op with
 | .move x=>some ⟨fr x,[]⟩
 | .assign x=>some ⟨fr x,[]⟩
 | .pick c a b=>match fr c with
  | .val (.bool t)=>some ⟨if t then fr a else fr b,[]⟩
  | _=>none
 | .alloc e=>(Fm P e).map fun zs=>⟨.ptr id 0 0,[(id,some (.row zs.length true [zs]))]⟩
 | .box _ x=>if (cellsOf (fr x)).all (Dj hp)=true∧0<(cellsOf (fr x)).length then some ⟨.ptr id 0 0,[(id,some (.row (cellsOf (fr x)).length true [cellsOf (fr x)]))]⟩ else none
 | .build t ps=>(Hg P hp t (Ii fr ps)).map fun v=>⟨v,[]⟩
 | .buildSlice t n ps=>Iw P hp id t n (Ii fr ps)
 | .load t x=>(Nc hp (fr x)).bind fun cs=>(mkv P t cs).map fun v=>⟨v,[]⟩
 | .store t x u=>(Pq P hp t (fr x) (fr u)).map fun eff=>⟨.any,eff⟩
 | .nilCheck x=>match fr x with
  | .ptr t i off=>if (hp t).isSome=true then some ⟨.ptr t i off,[]⟩ else none
  | .ip cs=>some ⟨.ip cs,[]⟩
  | _=>Cx P fr o
 | .fieldAddr s x f=>if liveV hp (fr x)=true then (fieldP P s f (fr x)).map fun v=>⟨v,[]⟩ else none
 | .indexAddr t x i=>(Qf P hp t (fr x) (fr i)).map fun v=>⟨v,[]⟩
 | .slice t x lo hi none=>if Jp (fr x)=true then Cx P fr o else (Xp P hp t (fr x) (lo.map fr) (hi.map fr)).map fun v=>⟨v,[]⟩
 | .extract t i=>(Qs (fr t) i).map fun v=>⟨v,[]⟩
 | .makeFunc fn first captured=>some ⟨.clo fn (first.toList.map fr) (captured.toList.map fr),[]⟩
 | .makeInterface t x=>if Ij P t=true then some ⟨mkI t (fr x),[]⟩ else none
 | .makeMap t none=>some ⟨.mp id,[(id,some (.mapo [] []))]⟩
 | .lookup t x k false=>(Qc P hp t (fr x) (fr k)).map fun v=>⟨v,[]⟩
 | .mapUpdate t m k x=>(updA P hp t (fr m) (fr k) (fr x)).map fun eff=>⟨.any,eff⟩
 | .makeSlice t l c=>makeA P id t (fr l) (fr c)
 | .convert s d x=>if Jp (fr x)=true∧(Cz P d).isSome=true then Lr P id s d (fr x) else match fr x with
  | .val (.slice none 0 0)=>(Gx P hp s d (fr x)).map fun v=>⟨v,[]⟩
  | .sl _=>(Gx P hp s d (fr x)).map fun v=>⟨v,[]⟩
  | .own t off len=>if s=d then Uf P hp d t off len else (Gx P hp s d (fr x)).map fun v=>⟨v,[]⟩
  | _=>Cx P fr o
 | .binOp op t x y _=>Xm P hp op t (fr x) (fr y) (Cx P fr o)
 | .unOp ..=>Cx P fr o
 | .index ..=>Cx P fr o
 | .call c=>callOp P ft fr hp id o c
 | _=>none
def Uv (P:Program) (ft:FuncId→List AV→Option AV):Prop :=
 ∀f xs X,ft f xs=some X→PC P f xs X∧∀args w,(callFunc f args).run P w=.ok (.enter f args) w
section
variable {P:Program} {G:Ghost P} {hp:Am} {al:Nat→Prop} {loc:Nat→Option Loc} {w:World} {id:Nat}
theorem Gw {E:Env} {v x:Value} (h:Rel E (.val v) x):x=v:=by cases h;rfl
theorem rel_ip {E:Env} {cs:List AV} {x:Value} (h:Rel E (.ip cs) x):∃b o,x=.pointer (some ⟨b,o,none⟩):=by cases h;exact ⟨_,_,rfl⟩
theorem Cj {o:Oper} {a:Act} {r:AR} {s:Sem Next} {K:Act→World→Prop} {Q:Exit→Act→World→Prop} (h:Ix P s G hp al loc w id r) (he:execOp a.eval o=s)
  (hK:∀v w' loc',Mem G (Be hp r.eff) (Ku al id) loc' w'→Ext (Bv G.m1 hp al loc w) (Bv G.m1 (Be hp r.eff) (Ku al id) loc' w') →
   Rel (Bv G.m1 (Be hp r.eff) (Ku al id) loc' w') r.v v→K (a.put o.dst v) w'):o.wp P a w K Q:=by
 obtain ⟨nx,v,w',loc',hr,hv,hM,x,hrel⟩:=h
 unfold Oper.wp
 rw [he,hr]
 rcases hv with rfl|⟨rfl,rfl⟩
 ·exact hK v w' loc' hM x hrel
 ·exact hK _ w' loc' hM x hrel
theorem Nj {E:Env} {fr:Operand→AV} {ρ:Operand→Value}:∀(xs:List Operand),(∀x∈xs,Rel E (fr x) (ρ x))→RelL E (xs.map fr) (xs.map ρ)
 | [],_=>.nil
 | x::xs,h=>.cons (h x (by simp)) (Nj xs fun y hy=>h y (by simp [hy]))
theorem relP_map {E:Env} {fr:Operand→AV} {ρ:Operand→Value}:∀(xs:List (Nat×Operand)),(∀x∈xs,Rel E (fr x.2) (ρ x.2))→RelP E (xs.map fun x=>(x.1,fr x.2)) (xs.map fun x=>(x.1,ρ x.2))
 | [],_=>.nil
 | x::xs,h=>.cons (h x (by simp)) (relP_map xs fun y hy=>h y (by simp [hy]))
theorem Gh {o:Oper} {a:Act} {fr:Operand→AV} {r:AR} (hM:Mem G hp al loc w) (hr:∀x∈o.op.operands,Rel (Bv G.m1 hp al loc w) (fr x) (a.eval x)) (hs:∀cs b,o.op≠.select cs b) (h:Cx P fr o=some r) :
  Ix P (execOp a.eval o) G hp al loc w id r:=by
 unfold Cx Mh at h
 split at h
 ·rename_i hall
  split at h
  ·rename_i v hev
   cases h
   have hc:execOp a.eval o=execOp (fun x=>(Mw (fr x)).getD undef) o:=execOp_congr o hs fun x hx=>by
    have hx':(Mw (fr x)).isSome=true:=by
     have:=Array.all_eq_true.1 hall
     obtain ⟨k,hk,rfl⟩:=Array.mem_iff_getElem.1 hx
     exact this k hk
    obtain ⟨v,hv⟩:=Option.isSome_iff_exists.1 hx'
    rw [hv];exact Xx (hr x hx) hv
   rw [hc]
   exact Cg hM (evS_run hev w) (.val v)
  ·cases h
 ·cases h
theorem nil_bin {t e:TypeId} {a:Addr} {x y:Operand} (hu:P.underlying t=some (.pointer e)) (w:World) :
  (do eqGuard .eql t x y (.pointer (some a)) (.pointer none);binOp .eql t (.pointer (some a)) (.pointer none)).run P w=.ok (.bool false) w ∧
  (do eqGuard .neq t x y (.pointer (some a)) (.pointer none);binOp .neq t (.pointer (some a)) (.pointer none)).run P w=.ok (.bool true) w:=by
 have he:(Op.equal t (.pointer (some a)) (.pointer none)).run P w=.ok false w:=by
  have:∀d,(Op.equalIn (d+1) t (.pointer (some a)) (.pointer none)).run P w=.ok false w:=by
   intro d;rw [Op.equalIn];simp [underlying,hu]
  exact this 9999
 have g1:(eqGuard .eql t x y (.pointer (some a)) (.pointer none))=pure ():=(rfl)
 have g2:(eqGuard .neq t x y (.pointer (some a)) (.pointer none))=pure ():=(rfl)
 have h1:binOp .eql t (.pointer (some a)) (.pointer none)=(do pure (.bool (←Op.equal t (.pointer (some a)) (.pointer none)))):=(rfl)
 have h2:binOp .neq t (.pointer (some a)) (.pointer none)=(do pure (.bool (!(←Op.equal t (.pointer (some a)) (.pointer none))))):=(rfl)
 rw [g1,g2,h1,h2]
 constructor<;>simp [he]
theorem isPtrT_eq {t:TypeId} (h:Qd P t=true):∃e,P.underlying t=some (.pointer e):=by
 unfold Qd at h;split at h
 ·exact ⟨_,by assumption⟩
 ·cases h
theorem isNilV_eq {y:AV} (h:Qe y=true):y=.val (.pointer none):=by
 unfold Qe at h;split at h
 ·rfl
 ·cases h
theorem does_nilB {op:BinOp} {t u ty:TypeId} {x y:Operand} {d:Option Tmp} {pos:String} {af:Array Edge} {g:Option (Nat×Bool)} {a:Act} {fr:Operand→AV} {r:AR} (hM:Mem G hp al loc w) (hr:∀z∈(⟨d,.binOp op t x y u,ty,pos,af,g⟩:Oper).op.operands,Rel (Bv G.m1 hp al loc w) (fr z) (a.eval z))
  (h:Xm P hp op t (fr x) (fr y) (Cx P fr ⟨d,.binOp op t x y u,ty,pos,af,g⟩)=some r):Ix P (execOp a.eval ⟨d,.binOp op t x y u,ty,pos,af,g⟩) G hp al loc w id r:=by
 have hx:=hr x (by simp [Op.operands])
 have hy:=hr y (by simp [Op.operands])
 have hpl:∀{q:Option AR},q=Cx P fr ⟨d,.binOp op t x y u,ty,pos,af,g⟩→q=some r→Ix P (execOp a.eval ⟨d,.binOp op t x y u,ty,pos,af,g⟩) G hp al loc w id r:=fun e hq=>Gh hM hr (by intro cs b hh;cases hh) (e▸hq)
 have key:∀(p:Addr),a.eval x=.pointer (some p)→Qe (fr y)=true→Qd P t=true→nilOp op (Cx P fr ⟨d,.binOp op t x y u,ty,pos,af,g⟩)=some r→Ix P (execOp a.eval ⟨d,.binOp op t x y u,ty,pos,af,g⟩) G hp al loc w id r:=fun p hp hn ht hh=>by
  obtain ⟨e,he⟩:=isPtrT_eq ht
  rw [isNilV_eq hn] at hy
  have hyv:=Gw hy
  obtain ⟨q1,q2⟩:=nil_bin (P:=P) (x:=x) (y:=y) (a:=p) he w
  cases op with
  | eql=>cases hh;exact Cg (v:=.bool false) hM (by simp only [execOp,hp,hyv,Sem.run_bind,q1];rfl) (.val _)
  | neq=>cases hh;exact Cg (v:=.bool true) hM (by simp only [execOp,hp,hyv,Sem.run_bind,q2];rfl) (.val _)
  | _=>exact hpl rfl hh
 unfold Xm at h
 split at h
 ·rename_i o i off hfx
  split at h
  ·rename_i hc
   obtain ⟨ob,hob⟩:=Option.isSome_iff_exists.1 hc.2.2
   obtain ⟨l,hl,_⟩:=hM.obj _ _ hob
   rw [hfx] at hx
   have hv:a.eval x=.pointer (some ⟨l.b,l.st+i*l.sz+off,none⟩):=by cases hx with|ptr _ hh=>exact hh l hl
   exact key _ hv hc.1 hc.2.1 h
  ·exact hpl rfl h
 ·rename_i cs hfx
  split at h
  ·rename_i hc
   rw [hfx] at hx
   obtain ⟨b,o,hv⟩:=rel_ip hx
   exact key _ hv hc.1 hc.2 h
  ·exact hpl rfl h
 ·exact hpl rfl h
theorem does_extract {x:AV} {v:Value} {i:Nat} {u:AV} (hM:Mem G hp al loc w) (hr:Rel (Bv G.m1 hp al loc w) x v) (h:Qs x i=some u):Ix P (do pure (.value (←Instr.extract v i))) G hp al loc w id ⟨u,[]⟩:=by
 unfold Qs at h
 split at h
 ·cases hr with
  | tup hl =>
   obtain ⟨v,hv,hrel⟩:=hl.get i u h
   exact Cg hM (by simp [Instr.extract,hv]) hrel
 ·cases hr
  rename_i vs
  cases hv:vs[i]? with
  | none=>rw [hv] at h;cases h
  | some v=>rw [hv] at h;cases h;exact Cg hM (by simp [Instr.extract,hv]) (.val v)
 ·cases h
theorem src_rel {sz:Nat} {tx:TypeId} {x:AV} {v:Value} {ys:List (List AV)} (hM:Mem G hp al loc w) (hr:Rel (Bv G.m1 hp al loc w) x v) (h:Mx P hp sz tx x=some ys):Ut P (Bv G.m1 hp al loc w) sz tx v ys:=by
 unfold Mx at h
 split at h
 ·split at h
  ·rename_i hc
   cases h
   cases hr
   obtain ⟨c1,rfl⟩:=hc
   exact src_string _ (Jq c1)
  ·cases h
 ·split at h
  ·rename_i rows e h1 h2
   split at h
   ·rename_i hz;cases h;exact src_slice hM hr h1 (Gr h2) hz
   ·cases h
  ·cases h
theorem does_append {t tx ty:TypeId} {s x:AV} {sv xv:Value} {r:AR} (hM:Mem G hp al loc w) (hf:Fresh al id) (hs:Rel (Bv G.m1 hp al loc w) s sv) (hx:Rel (Bv G.m1 hp al loc w) x xv) (h:Eo P hp id t tx s x=some r) :
  Ix P (do pure (.value (←Builtin.append_ #[t,tx] ty #[sv,xv]))) G hp al loc w id r:=by
 unfold Eo at h
 split at h
 ·rename_i e he
  split at h
  ·rename_i sz by_ hz
   split at h
   ·rename_i ys hys
    have hsrc:=src_rel (P:=P) hM hx hys
    split at h
    ·split at h
     ·rename_i hc
      cases h;cases hs
      exact append_nil hM hf (Gr he) hz hsrc hc.1 hc.2
     ·cases h
    ·split at h
     ·rename_i sz' rows ho
      split at h
      ·rename_i hc
       obtain ⟨rfl,c2,c3,c4⟩:=hc
       cases h
       exact append_own hM hf.at (Gr he) hz ho c2 hs hsrc c3 c4
      ·cases h
     ·cases h
    ·cases h
   ·cases h
  ·cases h
 ·cases h
end
end Go.Gm
namespace Go.Gm
section
variable {P:Program} {G:Ghost P} {hp:Am} {al:Nat→Prop} {loc:Nat→Option Loc} {w:World} {id:Nat}
theorem isNotIface_run {t:TypeId} (h:Ij P t=true) (x:Value):(Instr.makeInterface t x).run P w=.ok (.iface t x) w:=by
 unfold Ij at h
 cases hu:P.underlying t with
 | none=>rw [hu] at h;cases h
 | some d=>rw [hu] at h;cases d<;>simp_all [Instr.makeInterface,underlying]
theorem relO_map {E:Env} {fr:Operand→AV} {ρ:Operand→Value}:∀(x:Option Operand),(∀y,x=some y→Rel E (fr y) (ρ y))→RelO E (x.map fr) (x.map ρ)
 | none,_=>.none
 | some y,h=>.some (h y rfl)
theorem aop_wp {ft:FuncId→List AV→Option AV} {fr:Operand→AV} {o:Oper} {a:Act} {r:AR} {K:Act→World→Prop} {Q:Exit→Act→World→Prop} (hM:Mem G hp al loc w) (hf:Fresh al id) (hft:Uv P ft)
  (hr:∀x,Rel (Bv G.m1 hp al loc w) (fr x) (a.eval x)) (h:Et P ft fr hp id o=some r)
  (hK:∀v w' loc',Mem G (Be hp r.eff) (Ku al id) loc' w'→Ext (Bv G.m1 hp al loc w) (Bv G.m1 (Be hp r.eff) (Ku al id) loc' w') →
   Rel (Bv G.m1 (Be hp r.eff) (Ku al id) loc' w') r.v v→K (a.put o.dst v) w'):o.wp P a w K Q:=by
 have hr':∀x∈o.op.operands,Rel (Bv G.m1 hp al loc w) (fr x) (a.eval x):=fun x _=>hr x
 obtain ⟨dst,op,ty,pos,after,guard⟩:=o
 unfold Et at h
 split at h
 ·-- move
  rename_i x ho;simp only at ho;subst ho;cases h
  exact Cj (s:=pure (.value (a.eval x))) (Cg hM rfl (hr x)) rfl hK
 ·rename_i x ho;simp only at ho;subst ho;cases h
  exact Cj (s:=pure (.value (a.eval x))) (Cg hM rfl (hr x)) rfl hK
 ·-- pick
  rename_i c x y ho;simp only at ho;subst ho
  split at h
  ·rename_i t hc
   cases h
   have hcv:a.eval c=.bool t:=Gw (hc▸hr c)
   refine Cj (s:=execOp a.eval ⟨dst,.pick c x y,ty,pos,after,guard⟩) (Cg (v:=if t then a.eval x else a.eval y) hM (by cases t<;>simp [execOp,hcv,asBool]) ?_) rfl hK
   cases t
   ·exact hr y
   ·exact hr x
  ·cases h
 ·-- alloc
  rename_i e ho;simp only at ho;subst ho
  simp only [Option.map_eq_some_iff] at h
  obtain ⟨zs,hz,rfl⟩:=h
  exact Cj (does_alloc hM hf.at hz) rfl hK
 ·-- box
  rename_i e x ho;simp only at ho;subst ho
  split at h
  ·rename_i hc
   cases h
   exact Cj (does_box hM hf.at (hr x) hc.1 hc.2) rfl hK
  ·cases h
 ·-- build
  rename_i t ps ho;simp only at ho;subst ho
  simp only [Option.map_eq_some_iff] at h
  obtain ⟨v,hb,rfl⟩:=h
  refine Cj (does_build (P:=P) (t:=t) (parts':=ps.map fun (x:Nat×Operand)=>(x.1,a.eval x.2)) hM ?_ hb) rfl hK
  have:=relP_map (fr:=fr) (ρ:=a.eval) ps.toList (fun x _=>hr x.2)
  simpa [Ii] using this
 ·-- buildSlice
  rename_i t n ps ho;simp only at ho;subst ho
  refine Cj (Xo (P:=P) (t:=t) (parts':=ps.map fun (x:Nat×Operand)=>(x.1,a.eval x.2)) hM hf.at ?_ h) rfl hK
  have:=relP_map (fr:=fr) (ρ:=a.eval) ps.toList (fun x _=>hr x.2)
  simpa [Ii] using this
 ·-- load
  rename_i t x ho;simp only at ho;subst ho
  simp only [Option.bind_eq_some_iff,Option.map_eq_some_iff] at h
  obtain ⟨cs,hc,u,hu,rfl⟩:=h
  exact Cj (does_load hM (hr x) hc hu) rfl hK
 ·-- store
  rename_i t x u ho;simp only at ho;subst ho
  simp only [Option.map_eq_some_iff] at h
  obtain ⟨eff,he,rfl⟩:=h
  exact Cj (does_store hM (hr x) (hr u) he) rfl hK
 ·-- nilCheck
  rename_i x ho;simp only at ho;subst ho
  split at h
  ·rename_i t i off hx
   split at h
   ·rename_i hs
    cases h
    obtain ⟨ob,hob⟩:=Option.isSome_iff_exists.1 hs
    obtain ⟨l,hl,_⟩:=hM.obj t ob hob
    have hrx:=hr x
    rw [hx] at hrx
    have hv:a.eval x=.pointer (some ⟨l.b,l.st+i*l.sz+off,none⟩):=by cases hrx with|ptr _ hh=>exact hh l hl
    exact Cj (s:=execOp a.eval ⟨dst,.nilCheck x,ty,pos,after,guard⟩) (Cg (v:=a.eval x) hM (by simp [execOp,hv]) hrx) rfl hK
   ·cases h
  ·rename_i cs hx
   cases h
   have hrx:=hr x
   rw [hx] at hrx
   have hv:=rel_ip hrx
   obtain ⟨b,o,hv⟩:=hv
   exact Cj (s:=execOp a.eval ⟨dst,.nilCheck x,ty,pos,after,guard⟩) (Cg (v:=a.eval x) hM (by simp [execOp,hv]) hrx) rfl hK
  ·exact Cj (Gh hM hr' (by intro cs b hh;cases hh) h) rfl hK
 ·-- fieldAddr
  rename_i s x f ho;simp only at ho;subst ho
  split at h
  ·rename_i hlv
   simp only [Option.map_eq_some_iff] at h
   obtain ⟨u,hu,rfl⟩:=h
   exact Cj (does_fieldAddr hM (hr x) hu (fun t i off e=>by rw [e] at hlv;exact hlv)) rfl hK
  ·cases h
 ·-- indexAddr
  rename_i t x i ho;simp only at ho;subst ho
  simp only [Option.map_eq_some_iff] at h
  obtain ⟨u,hu,rfl⟩:=h
  exact Cj (does_indexS hM (hr x) (hr i) hu) rfl hK
 ·-- slice
  rename_i t x lo hi ho;simp only at ho;subst ho
  split at h
  ·exact Cj (Gh hM hr' (by intro cs b hh;cases hh) h) rfl hK
  ·simp only [Option.map_eq_some_iff] at h
   obtain ⟨u,hu,rfl⟩:=h
   exact Cj (does_cut hM (hr x) (relO_map lo fun y _=>hr y) (relO_map hi fun y _=>hr y) hu) rfl hK
 ·-- extract
  rename_i t i ho;simp only at ho;subst ho
  simp only [Option.map_eq_some_iff] at h
  obtain ⟨u,hu,rfl⟩:=h
  exact Cj (does_extract hM (hr t) hu) rfl hK
 ·-- makeFunc
  rename_i fn first captured ho;simp only at ho;subst ho;cases h
  refine Cj (s:=execOp a.eval ⟨dst,.makeFunc fn first captured,ty,pos,after,guard⟩) (Cg (v:=.func fn (first.map a.eval) (captured.map a.eval)) hM (by simp [execOp,Instr.makeFunc]) ?_) rfl hK
  have h1:=Nj (fr:=fr) (ρ:=a.eval) first.toList (fun x _=>hr x)
  have h2:=Nj (fr:=fr) (ρ:=a.eval) captured.toList (fun x _=>hr x)
  have:=Rel.clo (fn:=fn) h1 h2
  have e1:∀xs:Array Operand,(xs.toList.map a.eval).toArray=xs.map a.eval:=fun xs=>by apply Array.ext';exact (Array.toList_map ..).symm
  rw [e1,e1] at this
  exact this
 ·-- makeInterface
  rename_i t x ho;simp only at ho;subst ho
  split at h
  ·rename_i hi
   cases h
   exact Cj (s:=execOp a.eval ⟨dst,.makeInterface t x,ty,pos,after,guard⟩) (Cg (v:=.iface t (a.eval x)) hM (by simp [execOp,isNotIface_run hi]) (mkI_rel (hr x))) rfl hK
  ·cases h
 ·-- makeMap
  rename_i t ho;simp only at ho;subst ho;cases h
  exact Cj (does_makeMap (t:=t) hM hf.at) rfl hK
 ·-- lookup
  rename_i t x k ho;simp only at ho;subst ho
  simp only [Option.map_eq_some_iff] at h
  obtain ⟨u,hu,rfl⟩:=h
  exact Cj (does_lookup hM (hr x) (hr k) hu) rfl hK
 ·-- mapUpdate
  rename_i t m k x ho;simp only at ho;subst ho
  simp only [Option.map_eq_some_iff] at h
  obtain ⟨eff,hu,rfl⟩:=h
  exact Cj (does_update hM (hr m) (hr k) (hr x) hu) rfl hK
 ·-- makeSlice
  rename_i t l c ho;simp only at ho;subst ho
  exact Cj (does_make hM hf.at (hr l) (hr c) h) rfl hK
 ·-- convert
  rename_i s d x ho;simp only at ho;subst ho
  split at h
  ·exact Cj (does_toBytes hM hf.at (hr x) h) rfl hK
  ·split at h
   ·simp only [Option.map_eq_some_iff] at h
    obtain ⟨u,hu,rfl⟩:=h
    exact Cj (Sx hM (hr x) hu) rfl hK
   ·simp only [Option.map_eq_some_iff] at h
    obtain ⟨u,hu,rfl⟩:=h
    exact Cj (Sx hM (hr x) hu) rfl hK
   ·rename_i t off len hx
    split at h
    ·rename_i hsd
     subst hsd
     exact Cj (does_convS hM (hx▸hr x) h) rfl hK
    ·simp only [Option.map_eq_some_iff] at h
     obtain ⟨u,hu,rfl⟩:=h
     exact Cj (Sx hM (hr x) hu) rfl hK
   ·exact Cj (Gh hM hr' (by intro cs b hh;cases hh) h) rfl hK
 ·rename_i ho;simp only at ho;subst ho
  exact Cj (does_nilB hM hr' h) rfl hK
 ·rename_i ho;simp only at ho;subst ho
  exact Cj (Gh hM hr' (by intro cs b hh;cases hh) h) rfl hK
 ·rename_i ho;simp only at ho;subst ho
  exact Cj (Gh hM hr' (by intro cs b hh;cases hh) h) rfl hK
 ·-- a call
  rename_i c ho;simp only at ho;subst ho
  obtain ⟨callee,args,tys⟩:=c
  unfold callOp at h
  split at h
  ·-- len
   rename_i hc;simp only at hc;subst hc
   split at h
   ·rename_i x t h1 h2
    have e1:args = #[x]:=by simpa using congrArg List.toArray h1
    have e2:tys = #[t]:=by simpa using congrArg List.toArray h2
    subst e1;subst e2
    have hl:∀u,Pm P hp t (fr x)=some u→Ix P (execOp a.eval ⟨dst,.call { callee:=.builtin .len,args := #[x],argTypes := #[t] },ty,pos,after,guard⟩) G hp al loc w id ⟨u,[]⟩:=fun u hu=>by
     have:=does_len (P:=P) (G:=G) (id:=id) (ty:=ty) hM (hr x) hu
     simpa [execOp,resolve,invoke,builtin] using this
    unfold lenA at h
    split at h
    ·simp only [Option.map_eq_some_iff] at h
     obtain ⟨u,hu,rfl⟩:=h
     exact Cj (hl u hu) rfl hK
    ·simp only [Option.map_eq_some_iff] at h
     obtain ⟨u,hu,rfl⟩:=h
     exact Cj (hl u hu) rfl hK
    ·simp only [Option.map_eq_some_iff] at h
     obtain ⟨u,hu,rfl⟩:=h
     exact Cj (hl u hu) rfl hK
    ·exact Cj (Gh hM hr' (by intro cs b hh;cases hh) h) rfl hK
   ·cases h
  ·-- append
   rename_i hc;simp only at hc;subst hc
   split at h
   ·rename_i s x t tx h1 h2
    have e1:args = #[s,x]:=by simpa using congrArg List.toArray h1
    have e2:tys = #[t,tx]:=by simpa using congrArg List.toArray h2
    subst e1;subst e2
    have:=does_append (P:=P) (G:=G) (id:=id) (ty:=ty) hM hf (hr s) (hr x) h
    exact Cj (s:=execOp a.eval ⟨dst,.call { callee:=.builtin .append,args := #[s,x],argTypes := #[t,tx] },ty,pos,after,guard⟩) (by simpa [execOp,resolve,invoke,builtin] using this) rfl hK
   ·cases h
  ·exact Cj (Gh hM hr' (by intro cs b hh;cases hh) h) rfl hK
  ·exact Cj (Gh hM hr' (by intro cs b hh;cases hh) h) rfl hK
  ·-- a function
   rename_i f hc;simp only at hc;subst hc
   have hrl:=Nj (fr:=fr) (ρ:=a.eval) args.toList (fun x _=>hr x)
   have hent:∃xs X,ft f xs=some X:=by
    unfold Qz at h
    split at h
    ·split at h
     ·rename_i xs _ X hX;exact ⟨_,_,hX⟩
     ·cases h
    ·cases h
   obtain ⟨xs,X,hX⟩:=hent
   have henter:=(hft f xs X hX).2
   have hc:=call_rule (P:=P) hM hf (f:=f) (fun xs X hX=>(hft f xs X hX).1) hrl h
   have hargs:(args.toList.map a.eval).toArray=args.map a.eval:=by apply Array.ext';exact (Array.toList_map ..).symm
   rw [hargs] at hc
   unfold Oper.wp
   have hrun:(execOp a.eval ⟨dst,.call { callee:=.value (.func f),args:=args,argTypes:=tys },ty,pos,after,guard⟩).run P w=.ok (.enter f (args.map a.eval)) w:=by
    simp [execOp,resolve,Deferred.ofValue,Act.eval,invoke,henter]
   rw [hrun,Oper.upon_enter]
   refine hc.mono ?_
   rintro e w' ⟨v,loc',rfl,h1,h2,h3⟩
   exact hK v w' loc' h1 h2 h3
  ·cases h
 ·cases h
def Hx (fr:Operand→AV) (o:Oper):Option (FuncId×List AV):=match o.op with
 | .call c=>match c.callee with
  | .value (.func f)=>some (f,c.args.toList.map fr)
  | .value (.tmp t)=>match fr (.tmp t) with
   | .clo (.func f) first captured=>some (f,first++c.args.toList.map fr++captured)
   | _=>none
  | _=>none
 | _=>none
theorem Ui {o:Oper} {a:Act} {fr:Operand→AV} {f:FuncId} {us:List AV} {r:AR} {K:Act→World→Prop} {Q:Exit→Act→World→Prop} (hM:Mem G hp al loc w) (hf:Fresh al id) (hr:∀x,Rel (Bv G.m1 hp al loc w) (fr x) (a.eval x))
  (hc:Hx fr o=some (f,us)) (he:∀args w,(callFunc f args).run P w=.ok (.enter f args) w) (h:CallOk P f us hp id r)
  (hK:∀v w' loc',Mem G (Be hp r.eff) (Ku al id) loc' w'→Ext (Bv G.m1 hp al loc w) (Bv G.m1 (Be hp r.eff) (Ku al id) loc' w')→Rel (Bv G.m1 (Be hp r.eff) (Ku al id) loc' w') r.v v→K (a.put o.dst v) w'):o.wp P a w K Q:=by
 obtain ⟨dst,op,ty,pos,after,guard⟩:=o
 unfold Hx at hc
 split at hc
 ·rename_i c hop
  simp only at hop;subst hop
  obtain ⟨callee,args,tys⟩:=c
  have hargs:(args.toList.map a.eval).toArray=args.map a.eval:=by apply Array.ext';exact (Array.toList_map ..).symm
  split at hc
  ·rename_i f' hce
   simp only at hce;subst hce
   cases hc
   have hrl:=Nj (fr:=fr) (ρ:=a.eval) args.toList (fun x _=>hr x)
   have hcc:=h G al loc w _ hM hf hrl
   rw [hargs] at hcc
   unfold Oper.wp
   have hrun:(execOp a.eval ⟨dst,.call { callee:=.value (.func f),args:=args,argTypes:=tys },ty,pos,after,guard⟩).run P w=.ok (.enter f (args.map a.eval)) w:=by
    simp [execOp,resolve,Deferred.ofValue,Act.eval,invoke,he]
   rw [hrun,Oper.upon_enter]
   refine hcc.mono ?_
   rintro e w' ⟨v,loc',rfl,h1,h2,h3⟩
   exact hK v w' loc' h1 h2 h3
  ·rename_i t hce
   simp only at hce;subst hce
   split at hc
   ·rename_i f' first captured hfr
    cases hc
    have hv:=hr (.tmp t)
    rw [hfr] at hv
    generalize hev:a.eval (.tmp t)=vt at hv
    cases hv with
    | clo hfirst hcap =>
     rename_i f1 c1
     have hrl:=(hfirst.append (Nj (fr:=fr) (ρ:=a.eval) args.toList (fun x _=>hr x))).append hcap
     have hcc:=h G al loc w _ hM hf hrl
     have hargs2:(f1++args.toList.map a.eval++c1).toArray=f1.toArray++args.map a.eval++c1.toArray:=by
      rw [←hargs];simp
     rw [hargs2] at hcc
     unfold Oper.wp
     have hrun:(execOp a.eval ⟨dst,.call { callee:=.value (.tmp t),args:=args,argTypes:=tys },ty,pos,after,guard⟩).run P w=.ok (.enter f (f1.toArray++args.map a.eval++c1.toArray)) w:=by
      simp [execOp,resolve,Deferred.ofValue,hev,invoke,he]
     rw [hrun,Oper.upon_enter]
     refine hcc.mono ?_
     rintro e w' ⟨v,loc',rfl,h1,h2,h3⟩
     exact hK v w' loc' h1 h2 h3
   ·cases hc
  ·cases hc
 ·cases hc
end
end Go.Gm
namespace Go.Gm
variable {P:Program} {l n:Nat}
abbrev FR (l:Nat):Fence:=Fence.wide.inRound l
theorem calls_in {f:FuncId} {args:Array Value} {w:World} {R:Ending→World→Prop} (h:Calls P f args w R):CallsIn (FR l) n P f args w R:=CallsIn.inRound l (callsIn_wide.2 h)
theorem rows_in {row:String} {args:Array Value} {w:World} {R:Value→World→Prop} (h:Rows P row args w R):RowsIn (FR l) n P row args w R:=fun c cs _=>by
  obtain ⟨v,w',r,s⟩:=h c cs
  exact ⟨v,w',r,stepsIn_wide.2 s⟩
theorem oper_in {o:Oper} {a:Act} {w:World} {K:Act→World→Prop} {Q:Exit→Act→World→Prop} (hd:∀c,o.op≠.defer c) (h:o.wp P a w K Q):o.wpIn (FR l) n P a w K Q:=by
  refine ⟨fun _ _=>trivial,?_⟩
  have e:o.semAt (FR l).round a.eval=execOp a.eval o:=Oper.semAt_some l _ _ hd
  rw [e]
  unfold Oper.wp at h
  generalize (execOp a.eval o).run P w=r at h ⊢
  cases r with
  | ok x w' =>
    cases x<;>first
      | exact h
      | exact h.elim
      | exact ⟨(fun hh=>by cases hh),calls_in h⟩
      | exact ⟨(fun hh=>by cases hh),rows_in h⟩
  | halt x w'=>cases x<;>first|exact h|exact h.elim
def Rh (o:Oper):Bool:=match o.op with
  | .defer _=>false
  | _=>true
theorem noDefer_spec {o:Oper} (h:Rh o=true):∀c,o.op≠.defer c:=fun c e=>by unfold Rh at h;rw [e] at h;cases h
theorem op_in {ops:Array Oper} {Q:Exit→Act→World→Prop} (hq:¬LetsOut Q) {i:Nat} {K K':Act→World→Prop} (hd:∀o,ops[i]?=some o→Rh o=true) (hk:∀a w,K a w→K' a w) {a:Act} {w:World} (h:wpOp P ops Q i K a w):wpOpIn (FR l) n P ops Q i K' a w:=by
  unfold wpOp at h
  unfold wpOpIn
  split
  · rename_i ho
    simp only [ho] at h
    exact hk _ _ h
  · rename_i o ho
    simp only [ho] at h
    split
    · rename_i hw
      rw [if_pos hw] at h
      rcases h with h|h
      · exact Oper.wpIn_mono hk (oper_in (noDefer_spec (hd o ho)) h)
      · exact absurd h.2 hq
    · rename_i hw
      rw [if_neg hw] at h
      exact ⟨fun _ _=>trivial,hk _ _ h⟩
theorem any_in {ops:Array Oper} {Q:Exit→Act→World→Prop} (hq:¬LetsOut Q) (hd:∀(i:Nat) o,ops[i]?=some o→Rh o=true) {md:Region.Mode}:∀(k:Nat) (listed:Array Bool) (a:Act) (w:World),wpAny P md ops Q k listed a w→wpAnyIn (FR l) n P md ops Q k listed a w
  | 0,listed,a,w,h=>h
  | k+1,listed,a,w,h=>⟨h.1,fun i hi=>op_in hq (hd i) (fun a w h=>any_in hq hd k _ a w h) (h.2 i hi)⟩
section
variable {F:Fence} {Q:Exit→Act→World→Prop} {a:Act} {w:World}
theorem Xh {c:Code} (I:Nat→Act→World→Prop) (n₀:Nat) (h₀:I n₀ a w)
    (round:∀k a w,I k a w→c.wpIn F n P (Exit.then (fun a' w'=>∃k',k'<k∧I k' a' w') Q) a w):(Code.loop c).wpIn F n P Q a w:=by
  refine wpIn_loop (fun a w=>∃n,I n a w) (fun a w=>leastOf (fun n=>I n a w)) ⟨n₀,h₀⟩ ?_
  intro a w hI
  refine wpIn_mono (round _ a w (leastOf_spec hI).1) ?_
  intro e a' w' hq
  cases e with
  | normal =>
    obtain ⟨n',hlt,hI'⟩:=hq
    exact show (∃n,I n a' w')∧leastOf (fun n=>I n a' w')<leastOf (fun n=>I n a w) from ⟨⟨n',hI'⟩,Nat.lt_of_le_of_lt ((leastOf_spec ⟨n',hI'⟩).2 n' hI') hlt⟩
  | exit id=>exact hq
  | goto l=>exact hq
  | ret=>exact hq
  | panic ch=>exact hq
  | outgrown=>exact hq
end
def WP (md:Option (Nat×Nat)) (P:Program) (c:Code) (Q:Exit→Act→World→Prop) (a:Act) (w:World):Prop:=match md with
  | none=>c.wp P Q a w
  | some x=>c.wpIn (FR x.1) x.2 P Q a w
def WL (md:Option (Nat×Nat)) (P:Program) (ops:Array Oper) (Q:Exit→Act→World→Prop) (L:List Oper) (a:Act) (w:World):Prop:=match md with
  | none=>wpList P ops Q L a w
  | some x=>wpListIn (FR x.1) x.2 P ops Q L a w
section
variable {md:Option (Nat×Nat)} {Q Q':Exit→Act→World→Prop} {a:Act} {w:World} {c x y:Code}
theorem WP.mono (h:WP md P c Q a w) (hq:∀e a w,Q e a w→Q' e a w):WP md P c Q' a w:=by
  cases md with
  | none=>exact wp_mono h hq
  | some x=>exact wpIn_mono h hq
theorem WP.skip (h:Q .normal a w):WP md P .skip Q a w:=by
  cases md with
  | none=>exact wp_skip h
  | some x=>exact wpIn_skip h
theorem WP.exit {t:Nat} (h:Q (.exit t) a w):WP md P (.exit t) Q a w:=by
  cases md with
  | none=>exact wp_exit h
  | some x=>exact wpIn_exit h
theorem WP.ret (h:Q .ret a w):WP md P .ret Q a w:=by
  cases md with
  | none=>exact wp_ret h
  | some x=>exact wpIn_ret h
theorem WP.seq (h:WP md P x (Exit.then (WP md P y Q) Q) a w):WP md P (.seq x y) Q a w:=by
  cases md with
  | none=>exact wp_seq h
  | some x=>exact wpIn_seq h
theorem WP.cond {o:Operand} {t:Bool} (hc:a.eval o=.bool t) (h:WP md P (if t then x else y) Q a w):WP md P (.cond o x y) Q a w:=by
  cases md with
  | none=>exact wp_cond hc h
  | some x=>exact wpIn_cond hc h
theorem WP.block {t:Nat} (h:WP md P c (Exit.inBlock t Q) a w):WP md P (.block t c) Q a w:=by
  cases md with
  | none=>exact wp_block h
  | some x=>exact wpIn_block h
theorem WP.loop (I:Nat→Act→World→Prop) (n₀:Nat) (h₀:I n₀ a w)
    (round:∀k a w,I k a w→WP md P c (Exit.then (fun a' w'=>∃k',k'<k∧I k' a' w') Q) a w):WP md P (.loop c) Q a w:=by
  cases md with
  | none=>exact wp_loop_ghost I n₀ h₀ round
  | some x=>exact Xh I n₀ h₀ round
theorem WP.list {id:Nat} {ops:Array Oper} (h:WL md P ops Q ops.toList a w):WP md P (.region id ops false) Q a w:=by
  cases md with
  | none=>exact wp_region_list h
  | some x=>exact wpIn_region_list h
theorem WP.any {id:Nat} {ops:Array Oper} (hm:P.follows .mixedOrders=true) (hd:∀(i:Nat) o,ops[i]?=some o→Rh o=true)
    (h:wpAny P .any ops (fun e a w=>e=.normal∧Q .normal a w) ops.size (Array.replicate ops.size false) a { w with drawn:=w.drawn+1 }):WP md P (.region id ops true) Q a w:=by
  have hq:¬LetsOut (fun e a w=>e=Exit.normal∧Q .normal a w):=by rintro ⟨_,_,h,_⟩;cases h
  cases md with
  | none=>exact wp_mono (wp_region_any hm h) (by rintro e a w ⟨rfl,h⟩;exact h)
  | some x=>exact wpIn_mono (wpIn_region_any hm (any_in hq hd _ _ _ _ h)) (by rintro e a w ⟨rfl,h⟩;exact h)
theorem WL.nil {ops:Array Oper} (h:Q .normal a w):WL md P ops Q [] a w:=by
  cases md with
  | none=>exact h
  | some x=>exact h
theorem WL.op {ops:Array Oper} {o:Oper} {L:List Oper} (hw:Region.wanted o (yielded ops a.tmps)=true) (hd:∀c,o.op≠.defer c) (h:o.wp P a w (WL md P ops Q L) Q):WL md P ops Q (o::L) a w:=by
  cases md with
  | none=>show wpList P ops Q (o::L) a w;unfold wpList;rw [if_pos hw];exact .inl h
  | some x=>show wpListIn _ _ P ops Q (o::L) a w;unfold wpListIn;rw [if_pos hw];exact oper_in hd h
theorem WL.not {ops:Array Oper} {o:Oper} {L:List Oper} (hw:Region.wanted o (yielded ops a.tmps)=false) (h:WL md P ops Q L (a.put o.dst undef) w):WL md P ops Q (o::L) a w:=by
  cases md with
  | none=>show wpList P ops Q (o::L) a w;unfold wpList;rw [hw];exact h
  | some x=>show wpListIn _ _ P ops Q (o::L) a w;unfold wpListIn;rw [hw];exact ⟨fun _ _=>trivial,h⟩
end
end Go.Gm
namespace Go.Gm
structure ASt where
 fr:Nat→AV
 hp:Am
 nx:Nat
def Kz {P:Program} (G:Ghost P) (N:Nat) (st:ASt) (a:Act) (w:World):Prop :=
 a.defers=[]∧a.tmps.size=N∧∃loc,Mem G st.hp (fun t=>t<st.nx) loc w∧∀d,Rel (Bv G.m1 st.hp (fun t=>t<st.nx) loc w) (st.fr d) (a.tmps.getD d undef)
def AW (P:Program) (N:Nat) (c:Code) (Q:Exit→ASt→Prop) (st:ASt):Prop :=
 ∀(md:Option (Nat×Nat)) (G:Ghost P) (a:Act) (w:World),Kz G N st a w→WP md P c (fun e a' w'=>∃st',Q e st'∧Kz G N st' a' w') a w
def Ent (N:Nat) (st st':ASt):Prop:=∀(P:Program) (G:Ghost P) (a:Act) (w:World),Kz G N st a w→Kz G N st' a w
theorem AW.ent {P:Program} {N:Nat} {c:Code} {Q:Exit→ASt→Prop} {st st':ASt} (h:Ent N st st') (k:AW P N c Q st'):AW P N c Q st:=fun md G a w hc=>k md G a w (h P G a w hc)
theorem AW.mono {P:Program} {N:Nat} {c:Code} {Q Q':Exit→ASt→Prop} {st:ASt} (k:AW P N c Q st) (h:∀e st,Q e st→∃st',Ent N st st'∧Q' e st'):AW P N c Q' st:=fun md G a w hc =>
 (k md G a w hc).mono fun e a' w' ⟨st1,hq,hc1⟩=>let ⟨st2,he,hq2⟩:=h e st1 hq;⟨st2,hq2,he P G a' w' hc1⟩
def Ee (ops:List Oper) (fr:Nat→AV) (o:Oper):Option Bool :=
 match o.guard with
 | none=>some true
 | some (j,want)=>match (ops[j]?).bind (·.dst) with
  | some d=>match fr d with
   | .val (.bool b)=>some (b == want)
   | .val (.tuple _)=>some false
   | _=>none
  | none=>none
def Ff (fr:Nat→AV) (d:Option Tmp) (v:AV):Nat→AV:=match d with
 | some d=>Ag fr d v
 | none=>fr
def Pk (N:Nat):Option Tmp→Bool
 | some d=>decide (d<N)
 | none=>true
def Ga (P:Program) (f:FuncId):Prop:=∀args w,(callFunc f args).run P w=.ok (.enter f args) w
def Ask (P:Program) (f:FuncId) (oxs:Option (List AV)) (k:AV→Prop):Prop:=∃xs X,oxs=some xs∧PC P f xs X∧Ga P f∧k X
def Dz (o:Oper):Option (FuncId×List Operand) :=
 match o.op with
 | .call c=>match c.callee with
  | .value (.func f)=>some (f,c.args.toList)
  | _=>none
 | _=>none
def Fq:FuncId→List AV→Option AV:=fun _ _=>none
def Wo (us:List AV) (X:AV) (hp:Am) (nx:Nat):Am:=Be hp ((if Ci X=true then Dd hp (us.flatMap Hj) else [])++Hu (Bt X nx).2 nx)
def CallK (P:Program) (f:FuncId) (us:List AV) (hp:Am) (nx:Nat) (oxs:Option (List AV)) (k:AV→Am→Prop):Prop :=
 (∃xs X,oxs=some xs∧PC P f xs X∧Ga P f∧(Bt X nx).2.length≤8∧k (Bt X nx).1 (Wo us X hp nx))∨(∃r:AR,CallOk P f us hp nx r∧Ga P f∧k r.v (Be hp r.eff))
def Co (P:Program) (N:Nat) (ops:List Oper):List Oper→ASt→(ASt→Prop)→Prop
 | [],st,Q=>Q st
 | o::rest,st,Q=>match Ee ops st.fr o with
  | none=>False
  | some b=>if b=true then
    match Hx (Fk st.fr) o with
    | some (f,us)=>CallK P f us st.hp st.nx (Lb st.hp us) fun v hp'=>Pk N o.dst=true∧Co P N ops rest ⟨Ff st.fr o.dst v,hp',st.nx+8⟩ Q
    | none=>match Et P Fq (Fk st.fr) st.hp st.nx o with
     | some r=>Pk N o.dst=true∧Co P N ops rest ⟨Ff st.fr o.dst r.v,Be st.hp r.eff,st.nx+8⟩ Q
     | none=>False
   else Pk N o.dst=true∧Co P N ops rest ⟨Ff st.fr o.dst (.val undef),st.hp,st.nx+8⟩ Q
theorem Fo {E:Env} {fr:Nat→AV} {a:Act} (h:∀d,Rel E (fr d) (a.tmps.getD d undef)) (x:Operand):Rel E (Fk fr x) (a.eval x):=by
 cases x with
 | tmp t=>exact h t
 | const v=>exact .val v
 | global g=>exact .val _
 | func f=>exact .val _
theorem Lc {E:Env} {fr:Nat→AV} {a:Act} {d:Option Tmp} {u:AV} {v:Value} {N:Nat} (hd:Pk N d=true) (hN:a.tmps.size=N) (h:∀d,Rel E (fr d) (a.tmps.getD d undef)) (hv:Rel E u v) :
  (a.put d v).tmps.size=N∧∀d',Rel E (Ff fr d u d') ((a.put d v).tmps.getD d' undef):=by
 cases d with
 | none=>exact ⟨hN,h⟩
 | some d =>
  simp only [Pk,decide_eq_true_eq] at hd
  refine ⟨by simpa [Act.put] using hN,fun d'=>?_⟩
  simp only [Act.put,Ff,Ag]
  by_cases e:d'=d
  ·subst e
   simp [hN,hd];exact hv
  ·have:=h d'
   simp [e,Array.getElem?_setIfInBounds_ne (Ne.symm e)] at this ⊢
   exact this
theorem Gc (a:Act) (d:Option Tmp) (v:Value):(a.put d v).defers=a.defers:=by cases d<;>rfl
theorem Sc {P:Program} {G:Ghost P} {N:Nat} {st:ASt} {a:Act} {w:World} {ops:List Oper} {o:Oper} {b:Bool} (hc:Kz G N st a w) (h:Ee ops st.fr o=some b):Region.wanted o (yielded ops.toArray a.tmps)=b:=by
 unfold Ee at h
 unfold Region.wanted
 split at h
 ·rename_i hg;cases h;rw [hg]
 ·rename_i j want hg
  rw [hg]
  simp only
  split at h
  ·rename_i d hd
   split at h
   ·rename_i b' hb
    cases h
    obtain ⟨_,_,loc,_,hr⟩:=hc
    have:=Gw (hb▸hr d)
    have hx:a.tmps[d]?=some (.bool b'):=by
     cases hq:a.tmps[d]? with
     | none=>simp [hq,undef] at this
     | some q=>simp [hq] at this;rw [this]
    simp only [yielded,hd,Option.bind_some,hx]
    have e:([]:List Nat)=[]:=rfl
    have hops:(ops.toArray[j]?).bind (·.dst)=some d:=by simpa using hd
    simp only [hops,Option.bind_some,hx]
    cases b'<;>cases want<;>rfl
   ·rename_i vs hb
    cases h
    obtain ⟨_,_,loc,_,hr⟩:=hc
    have:=Gw (hb▸hr d)
    have hops:(ops.toArray[j]?).bind (·.dst)=some d:=by simpa using hd
    simp only [yielded,hops,Option.bind_some]
    cases hq:a.tmps[d]? with
    | none=>simp
    | some q=>simp [hq] at this;rw [this];simp
   ·cases h
  ·cases h
theorem Lx {nx:Nat}:Fresh (fun t=>t<nx) nx:=fun t h1 _ h2=>by omega
theorem callV_plain {fr:Operand→AV} {o:Oper} {x:FuncId×List AV} (h:Hx fr o=some x):∀c,o.op≠.defer c:=fun c e=>by
 unfold Hx at h;rw [e] at h;simp at h
theorem aop_plain {P:Program} {ft:FuncId→List AV→Option AV} {fr:Operand→AV} {hp:Am} {id:Nat} {o:Oper} {r:AR} (h:Et P ft fr hp id o=some r):∀c,o.op≠.defer c:=fun c e=>by
 unfold Et at h;rw [e] at h;simp at h
theorem Iq {md:Option (Nat×Nat)} {P:Program} {N:Nat} {ops:List Oper} {G:Ghost P} {Q:ASt→Prop} {Q':Exit→Act→World→Prop} (hQ:∀st a w,Q st→Kz G N st a w→Q' .normal a w) :
  ∀{rest:List Oper} {st:ASt} {a:Act} {w:World},Kz G N st a w→Co P N ops rest st Q→WL md P ops.toArray Q' rest a w
 | [],st,a,w,hc,h=>WL.nil (hQ st a w h hc)
 | o::rest,st,a,w,hc,h=>by
  unfold Co at h
  split at h
  ·exact h.elim
  ·rename_i b hw
   have hwant:=Sc hc hw
   obtain ⟨h1,h2,loc,hM,hrel⟩:=hc
   cases b with
   | false =>
    simp only [Bool.false_eq_true,if_false] at h
    obtain ⟨hd,h⟩:=h
    refine WL.not hwant ?_
    refine Iq hQ (st:=⟨Ff st.fr o.dst (.val undef),st.hp,st.nx+8⟩) ?_ h
    obtain ⟨hM2,x2⟩:=hM.more (al':=fun t=>t<st.nx+8) (fun t ht=>by omega)
    obtain ⟨g1,g2⟩:=Lc (u:=.val undef) (v:=undef) hd h2 (fun d=>(hrel d).ext x2) (.val _)
    exact ⟨by rw [Gc];exact h1,g1,loc,hM2,g2⟩
   | true =>
    simp only [if_true] at h
    -- behind the operation
    have next:∀(r:AR) v w' loc',Pk N o.dst=true→Co P N ops rest ⟨Ff st.fr o.dst r.v,Be st.hp r.eff,st.nx+8⟩ Q→Mem G (Be st.hp r.eff) (Ku (fun t=>t<st.nx) st.nx) loc' w' →
      Ext (Bv G.m1 st.hp (fun t=>t<st.nx) loc w) (Bv G.m1 (Be st.hp r.eff) (Ku (fun t=>t<st.nx) st.nx) loc' w')→Rel (Bv G.m1 (Be st.hp r.eff) (Ku (fun t=>t<st.nx) st.nx) loc' w') r.v v →
      WL md P ops.toArray Q' rest (a.put o.dst v) w':=fun r v w' loc' hd hk hM' x hv=>by
     refine Iq hQ ?_ hk
     obtain ⟨hM2,x2⟩:=hM'.more (al':=fun t=>t<st.nx+8) (fun t ht=>by rcases ht with ht|ht<;>omega)
     obtain ⟨g1,g2⟩:=Lc (u:=r.v) (v:=v) hd h2 (fun d=>(hrel d).ext (x.trans x2)) (hv.ext x2)
     exact ⟨by rw [Gc];exact h1,g1,loc',hM2,g2⟩
    split at h
    ·rename_i f us hco
     refine WL.op hwant (callV_plain hco) ?_
     rcases h with ⟨xs,X,hres,hpc,hent,hlen,hd,hk⟩|⟨r,hok,hent,hd,hk⟩
     ·exact Ui hM Lx (Fo hrel) hco hent (Pd hpc hres hlen) fun v w' loc' hM' x hv=>next _ v w' loc' hd hk hM' x hv
     ·exact Ui hM Lx (Fo hrel) hco hent hok fun v w' loc' hM' x hv=>next _ v w' loc' hd hk hM' x hv
    ·split at h
     ·rename_i r hr
      exact WL.op hwant (aop_plain hr)<|aop_wp hM Lx (fun _ _ _ h=>by simp [Fq] at h) (Fo hrel) hr fun v w' loc' hM' x hv=>next r v w' loc' h.1 h.2 hM' x hv
     ·exact h.elim
def Kj (k:ASt→Prop) (Q:Exit→ASt→Prop):Exit→ASt→Prop
 | .normal,st=>k st
 | e,st=>Q e st
def Dk (id:Nat) (Q:Exit→ASt→Prop):Exit→ASt→Prop
 | .exit id',st=>if id'=id then Q .normal st else Q (.exit id') st
 | e,st=>Q e st
section
variable {P:Program} {N:Nat} {Q:Exit→ASt→Prop} {st:ASt}
theorem AW.skip (h:Q .normal st):AW P N .skip Q st:=fun md G a w hc=>WP.skip ⟨st,h,hc⟩
theorem AW.ret (h:Q .ret st):AW P N .ret Q st:=fun md G a w hc=>WP.ret ⟨st,h,hc⟩
theorem AW.exit {id:Nat} (h:Q (.exit id) st):AW P N (.exit id) Q st:=fun md G a w hc=>WP.exit ⟨st,h,hc⟩
theorem AW.seq {x y:Code} (h:AW P N x (Kj (AW P N y Q) Q) st):AW P N (.seq x y) Q st:=fun md G a w hc=>by
 refine WP.seq ((h md G a w hc).mono ?_)
 rintro e a' w' ⟨st',hq,hc'⟩
 cases e with
 | normal=>exact hq md G a' w' hc'
 | _=>exact ⟨st',hq,hc'⟩
theorem AW.cond {c:Operand} {x y:Code} {b:Bool} (hc:Fk st.fr c=.val (.bool b)) (h:AW P N (if b then x else y) Q st):AW P N (.cond c x y) Q st:=fun md G a w hcc=>by
 obtain ⟨_,_,loc,hM,hrel⟩:=hcc
 exact WP.cond (Gw (hc▸Fo hrel c)) (h md G a w ⟨by assumption,by assumption,loc,hM,hrel⟩)
theorem AW.block {id:Nat} {c:Code} (h:AW P N c (Dk id Q) st):AW P N (.block id c) Q st:=fun md G a w hc=>by
 refine WP.block ((h md G a w hc).mono ?_)
 rintro e a' w' ⟨st',hq,hc'⟩
 cases e with
 | exit id' =>
  simp only [Dk] at hq
  simp only [Exit.inBlock]
  split
  ·rename_i hid;rw [if_pos hid] at hq;exact ⟨st',hq,hc'⟩
  ·rename_i hid;rw [if_neg hid] at hq;exact ⟨st',hq,hc'⟩
 | _=>exact ⟨st',hq,hc'⟩
theorem AW.region {id:Nat} {ops:List Oper} (h:Co P N ops ops st (Q .normal)):AW P N (.region id ops.toArray false) Q st:=fun md G a w hc =>
 WP.list (by simpa using Iq (Q':=fun e a' w'=>∃st',Q e st'∧Kz G N st' a' w') (fun st a w hq hc=>⟨st,hq,hc⟩) hc h)
theorem AW.loop {c:Code} (I:Nat→ASt→Prop) (n₀:Nat) (st0:ASt) (he:Ent N st st0) (h0:I n₀ st0)
  (round:∀k st,I k st→AW P N c (Kj (fun st'=>∃k' st'',k'<k∧Ent N st' st''∧I k' st'') Q) st):AW P N (.loop c) Q st:=fun md G a w hc=>by
 refine WP.loop (fun n a w=>∃st,I n st∧Kz G N st a w) n₀ ⟨st0,h0,he P G a w hc⟩ ?_
 rintro n a w ⟨st,hI,hc⟩
 refine (round n st hI md G a w hc).mono ?_
 rintro e a' w' ⟨st',hq,hc'⟩
 cases e with
 | normal =>
  obtain ⟨k',st'',hlt,he',hI'⟩:=hq
  exact ⟨k',hlt,st'',hI',he' P G a' w' hc'⟩
 | _=>exact ⟨st',hq,hc'⟩
end
def Ht (us:List AV):Nat→AV:=fun d=>(us[d]?).getD .any
def resA (P:Program) (st:ASt):List ResultVar→Option (List AV)
 | []=>some []
 | .tmp t::rs=>(resA P st rs).map fun l=>st.fr t::l
 | .cell a t::rs=>match Nc st.hp (st.fr a),resA P st rs with
  | some cs,some l=>(mkv P t cs).map fun u=>u::l
  | _,_=>none
def Cu:List AV→AV
 | [u]=>u
 | us=>.tup us
def Ay (P:Program) (rs:List ResultVar) (X:AV):Exit→ASt→Prop
 | .normal,st|.ret,st=>match resA P st rs with
  | some l=>match Cl st.hp (Cu l) with
   | some (Y,ts)=>Y=X∧ts.Nodup
   | none=>False
  | none=>False
 | _,_=>False
def Mf (tmps:Array Value):ResultVar→Sem Value
 | .tmp t=>pure (tmps.getD t undef)
 | .cell a t=>do loadVar t (←asAddr (tmps.getD a undef))
theorem Nx (fn:Func) (tmps:Array Value):results fn tmps=(do
  let vs ←fn.results.mapM (Mf tmps)
  pure (if h:vs.size=1 then vs[0] else .tuple vs)):=by
 unfold results
 congr 1
theorem Km {P:Program} {G:Ghost P} {al:Nat→Prop} {loc:Nat→Option Loc} {w:World} {st:ASt} {a:Act} (hM:Mem G st.hp al loc w) (hrel:∀d,Rel (Bv G.m1 st.hp al loc w) (st.fr d) (a.tmps.getD d undef)) :
  ∀{rs:List ResultVar} {l:List AV},resA P st rs=some l→∃vs,(rs.mapM (Mf a.tmps)).run P w=.ok vs w∧RelL (Bv G.m1 st.hp al loc w) l vs
 | [],l,h=>by simp [resA] at h;subst h;exact ⟨[],by simp,.nil⟩
 | .tmp t::rs,l,h=>by
  simp only [resA,Option.map_eq_some_iff] at h
  obtain ⟨l',h1,rfl⟩:=h
  obtain ⟨vs,h2,h3⟩:=Km hM hrel h1
  exact ⟨_::vs,by simp only [List.mapM_cons,Sem.run_bind,Mf,Sem.run_pure,Result.andThen_ok];rw [h2];rfl,.cons (hrel t) h3⟩
 | .cell b t::rs,l,h=>by
  simp only [resA] at h
  split at h
  ·rename_i cs l' h1 h2
   simp only [Option.map_eq_some_iff] at h
   obtain ⟨u,hu,rfl⟩:=h
   obtain ⟨vs,h3,h4⟩:=Km hM hrel h2
   obtain ⟨bb,oo,ws,hv,hl,hci,_⟩:=mem_cells hM (hrel b) h1
   obtain ⟨v,hv2,hr2⟩:=Pw (P:=P) hu hl hci
   refine ⟨v::vs,?_,.cons hr2 h4⟩
   have hi:(Mf a.tmps (.cell b t)).run P w=.ok v w:=by simp only [Mf,hv,Sem.run_bind,asAddr,Sem.run_pure,Result.andThen_ok,hv2]
   simp only [List.mapM_cons,Sem.run_bind,hi,Result.andThen_ok]
   rw [h3];rfl
  ·cases h
theorem Sf {E:Env} {l:List AV} {vs:List Value} (h:RelL E l vs):Rel E (Cu l) (if h:vs.toArray.size=1 then vs.toArray[0] else .tuple vs.toArray):=by
 cases h with
 | nil=>exact .tup .nil
 | cons h1 hs =>
  cases hs with
  | nil=>exact h1
  | cons h2 hs =>
   have:=Rel.tup (.cons h1 (.cons h2 hs))
   simpa [Cu] using this
theorem pc_of_body {P:Program} {f:FuncId} {fn:Func} {c:Code} {us:List AV} {X:AV} (hf:P.funcs[f]?=some fn) (hb:fn.body=some c) (hn:us.length≤fn.ntmps)
  (h:AW P fn.ntmps c (Ay P fn.results.toList X) ⟨Ht us,fun _=>none,0⟩):PC P f us X:=by
 intro m w vs hm ht hus
 have hM0:Mem ⟨w,fun _=>False,m,hm,0,fun _=>none,Nat.zero_le _,ht⟩ (fun _=>none) (fun t=>t<0) (fun _=>none) w :=
  ⟨fun _ _ h=>by simp at h,fun _ _=>rfl,fun _ _ h=>by simp at h,fun _ _ _ _ h=>by simp at h,rfl,rfl,rfl,Nat.le_refl _,fun _ _ _=>rfl,fun b h=>by obtain ⟨t,o,l,h,_⟩:=h;simp at h,fun _ _ h=>by simp at h,fun t ht=>absurd ht (Nat.not_lt_zero t),fun t l ht _=>absurd ht (Nat.not_lt_zero t)⟩
 have hc0:Kz ⟨w,fun _=>False,m,hm,0,fun _=>none,Nat.zero_le _,ht⟩ fn.ntmps ⟨Ht us,fun _=>none,0⟩ { tmps:=vs.toArray++Array.replicate (fn.ntmps-vs.toArray.size) undef,defers:=[] } w:=by
  refine ⟨rfl,?_,fun _=>none,hM0,fun d=>?_⟩
  ·have:=hus.length
   simp;omega
  ·have x:Ext (E0 m w) (Bv m (fun _=>none) (fun t=>t<0) (fun _=>none) w):=Fh (fun _ h=>h.elim) (fun _ _ h=>h.elim) (Nat.le_refl _) (fun _ _ h=>h) (fun _ _ _=>rfl)
   simp only [Ht]
   cases hd:us[d]? with
   | none=>exact .any _
   | some u =>
    obtain ⟨v,hv,hr⟩:=hus.get d u hd
    have hlt:d<vs.length:=(List.getElem?_eq_some_iff.1 hv).1
    have:((vs.toArray++Array.replicate (fn.ntmps-vs.toArray.size) undef).getD d undef)=v:=by
     rw [Array.getD_eq_getD_getElem?,Array.getElem?_append_left (by simpa using hlt)]
     simp [hv]
    simp only [Option.getD_some]
    rw [this]
    exact hr.ext x
 refine calls_of_wp hf hb (wp_mono (h none _ _ w hc0) ?_)
 rintro e a' w' ⟨st',hq,hdf,hsz,loc,hM,hrel⟩
 have fin:Ay P fn.results.toList X .ret st' →
   a'.defers=[]∧∃v,(results fn a'.tmps).run P w'=.ok v w'∧∃v' hp al loc r ts,Ending.returned v=.returned v'∧Mem ⟨w,fun _=>False,m,hm,0,fun _=>none,Nat.zero_le _,ht⟩ hp al loc w'∧Rel (Bv m hp al loc w') r v'∧Cl hp r=some (X,ts)∧ts.Nodup:=by
  intro hh
  simp only [Ay] at hh
  split at hh
  ·rename_i l hl
   split at hh
   ·rename_i Y ts hs
    obtain ⟨rfl,hnd⟩:=hh
    obtain ⟨vs',hv,hrl⟩:=Km hM hrel hl
    have hrun:(results fn a'.tmps).run P w'=.ok (if h:vs'.toArray.size=1 then vs'.toArray[0] else .tuple vs'.toArray) w':=by
     rw [Nx,Sem.run_bind]
     have hm:(fn.results.mapM (Mf a'.tmps)).run P w'=.ok vs'.toArray w':=by
      rw [Array.mapM_eq_mapM_toList,Sem.run_map,hv];rfl
     rw [hm];rfl
    exact ⟨hdf,_,hrun,_,st'.hp,_,loc,Cu l,ts,rfl,hM,Sf hrl,hs,hnd⟩
   ·exact hh.elim
  ·exact hh.elim
 cases e with
 | normal=>exact fin hq
 | ret=>exact fin hq
 | _=>exact hq.elim
end Go.Gm
