import Derived.Test.YtbdncmljibideaaGreatDoorGqUab
import Derived.Scope
set_option linter.all false
namespace Go.Gm
mutual
def Cn:AV→List Nat
  | .own t _ _=>[t]
  | .ptr t _ _=>[t]
  | .mp t=>[t]
  | .agg cs=>Xl cs
  | .tup cs=>Xl cs
  | .ifc _ u=>Cn u
  | _=>[]
def Xl:List AV→List Nat
  | []=>[]
  | c::cs=>Cn c++Xl cs
end
def Gv (o:Oper):Bool:=match o.op with
  | .move _=>true
  | .assign _=>true
  | _=>false
def Dc (fr:Operand→AV) (o:Oper):List Nat:=if Gv o=true then [] else o.op.operands.toList.flatMap fun x=>Cn (fr x)
def Agree (hp hp':Am) (ts:List Nat):Prop:=∀t∈ts,hp t=hp' t
section
variable {P:Program} {hp hp':Am}
theorem Agree.sub {ts us:List Nat} (h:Agree hp hp' ts) (k:∀t∈us,t∈ts):Agree hp hp' us:=fun t ht=>h t (k t ht)
theorem cellsP_loc {x:AV} (h:Agree hp hp' (Cn x)):Nc hp x=Nc hp' x:=by
  cases x<;>simp_all [Nc,Agree,Cn]
theorem lenOf_loc {x:AV} (h:Agree hp hp' (Cn x)):Ml hp x=Ml hp' x:=by
  cases x with
  | own t off len=>simp_all [Ml,Agree,Cn]
  | val v=>cases v with
    | slice a n c=>cases a<;>cases n<;>cases c<;>rfl
    | _=>rfl
  | _=>rfl
theorem rowsOf_loc {x:AV} (h:Agree hp hp' (Cn x)):Ja hp x=Ja hp' x:=by
  cases x with
  | own t off len=>simp_all [Ja,Agree,Cn]
  | val v=>cases v with
    | slice a n c=>cases a<;>cases n<;>cases c<;>rfl
    | _=>rfl
  | _=>rfl
theorem liveV_loc {x:AV} (h:Agree hp hp' (Cn x)):liveV hp x=liveV hp' x:=by cases x<;>simp_all [liveV,Agree,Cn]
theorem indexS_loc {t:TypeId} {x i:AV} (h:Agree hp hp' (Cn x)):Qf P hp t x i=Qf P hp' t x i:=by
  have:∀z n,Vk z hp n x=Vk z hp' n x:=fun z n=>by
    cases x with
    | own o off len=>simp only [Vk,h o (by simp [Cn])]
    | _=>rfl
  have h2:∀z n m,Vl z hp n m x=Vl z hp' n m x:=fun z n m=>by
    cases x with
    | ptr o i off=>simp only [Vl,h o (by simp [Cn])]
    | _=>rfl
  simp only [Qf,this,h2]
theorem nilB_loc {op:BinOp} {t:TypeId} {x y:AV} {r:Option AR} (h:Agree hp hp' (Cn x)):Xm P hp op t x y r=Xm P hp' op t x y r:=by
  cases x with
  | ptr o i off=>simp only [Xm,h o (by simp [Cn])]
  | _=>rfl
theorem cutS_loc {t:TypeId} {x:AV} {lo hi:Option AV} (h:Agree hp hp' (Cn x)):Xp P hp t x lo hi=Xp P hp' t x lo hi:=by
  unfold Xp
  rw [lenOf_loc h]
  cases x with
  | own o off len=>simp only [h o (by simp [Cn])]
  | val v=>cases v with
    | slice a n c=>cases a<;>cases n<;>cases c<;>rfl
    | _=>rfl
  | _=>rfl
theorem oneAV_loc {x:AV} (h:Agree hp hp' (Cn x)):Dj hp x=Dj hp' x:=by cases x<;>simp_all [Dj,Agree,Cn]
theorem ones_loc:∀{xs:List AV},Agree hp hp' (Xl xs)→xs.all (Dj hp)=xs.all (Dj hp')
  | [],_=>rfl
  | x::xs,h=>by
    simp only [Xl] at h
    rw [List.all_cons,List.all_cons,oneAV_loc (h.sub fun t ht=>by simp [ht]),ones_loc (h.sub fun t ht=>by simp [ht])]
theorem Mu {x:AV} (h:Agree hp hp' (Cn x)):(cellsOf x).all (Dj hp)=(cellsOf x).all (Dj hp'):=by
  cases x with
  | agg cs=>exact ones_loc h
  | _=>simp only [cellsOf,List.all_cons,List.all_nil,oneAV_loc h]
theorem storeP_loc {t:TypeId} {x u:AV} (h:Agree hp hp' (Cn x)) (k:Agree hp hp' (Cn u)):Pq P hp t x u=Pq P hp' t x u:=by
  unfold Pq
  rw [Mu k]
  cases x with
  | ptr o i off=>simp only [h o (by simp [Cn])]
  | _=>rfl
theorem updA_loc {t:TypeId} {m k x:AV} (h:Agree hp hp' (Cn m)):updA P hp t m k x=updA P hp' t m k x:=by
  unfold updA
  cases m with
  | mp o=>show Xi P t o (hp o) k x=Xi P t o (hp' o) k x;rw [h o (by simp [Cn])]
  | _=>rfl
theorem lookA_loc {t:TypeId} {x k:AV} (h:Agree hp hp' (Cn x)):Qc P hp t x k=Qc P hp' t x k:=by
  unfold Qc
  cases x with
  | mp o=>show lookO P t (hp o) k=lookO P t (hp' o) k;rw [h o (by simp [Cn])]
  | _=>rfl
theorem fillA_loc {pl:Nat→Option (Nat×Nat)}:∀{ps:List (Nat×AV)} {cs:List AV},(∀p∈ps,Agree hp hp' (Cn p.2))→Fz hp pl cs ps=Fz hp' pl cs ps
  | [],_,_=>rfl
  | (i,u)::ps,cs,h=>by
    simp only [Fz]
    rw [Mu (h (i,u) (by simp))]
    split
    · rfl
    · split
      · exact fillA_loc fun p hp=>h p (by simp [hp])
      · rfl
theorem rowsP_loc {sz:Nat}:∀{ps:List (Nat×AV)} {rows:List (List AV)},(∀p∈ps,Agree hp hp' (Cn p.2))→Px hp sz rows ps=Px hp' sz rows ps
  | [],_,_=>rfl
  | (i,u)::ps,rows,h=>by
    simp only [Px]
    rw [Mu (h (i,u) (by simp))]
    split
    · exact rowsP_loc fun p hp=>h p (by simp [hp])
    · rfl
theorem resV_loc {x:AV} (h:Agree hp hp' (Cn x)):Fj hp x=Fj hp' x:=by
  cases x with
  | own t off len=>simp only [Fj,h t (by simp [Cn])]
  | val v=>cases v with
    | slice a n c=>cases a<;>cases n<;>cases c<;>rfl
    | _=>rfl
  | _=>rfl
theorem resL_loc:∀{xs:List AV},(∀x∈xs,Agree hp hp' (Cn x))→Lb hp xs=Lb hp' xs
  | [],_=>rfl
  | x::xs,h=>by simp only [Lb];rw [resV_loc (h x (by simp)),resL_loc fun y hy=>h y (by simp [hy])]
theorem Qi:∀{ts:List Nat},Agree hp hp' ts→Dd hp ts=Dd hp' ts
  | [],_=>rfl
  | t::ts,h=>by
    simp only [Dd]
    rw [h t (by simp),Qi (h.sub fun q hq=>by simp [hq])]
theorem tidV_sub {x:AV}:∀t∈Hj x,t∈Cn x:=by cases x<;>simp [Hj,Cn]
theorem callA_loc {ft:FuncId→List AV→Option AV} {id f:Nat} {xs:List AV} (h:∀x∈xs,Agree hp hp' (Cn x)):Qz ft hp id f xs=Qz ft hp' id f xs:=by
  have h2:Dd hp (xs.flatMap Hj)=Dd hp' (xs.flatMap Hj):=Qi fun t ht=>by
    obtain ⟨x,hx,ht⟩:=List.mem_flatMap.1 ht
    exact h x hx t (tidV_sub t ht)
  simp only [Qz,resL_loc h,h2]
theorem srcA_loc {sz:Nat} {tx:TypeId} {x:AV} (h:Agree hp hp' (Cn x)):Mx P hp sz tx x=Mx P hp' sz tx x:=by
  have hr:=rowsOf_loc h
  cases x with
  | val v=>cases v with
    | string s=>rfl
    | _=>simp only [Mx,hr]
  | _=>simp only [Mx,hr]
theorem appendA_loc {id:Nat} {t tx:TypeId} {s x:AV} (h:Agree hp hp' (Cn s)) (k:Agree hp hp' (Cn x)):Eo P hp id t tx s x=Eo P hp' id t tx s x:=by
  unfold Eo
  simp only [srcA_loc k]
  cases s with
  | own o off len=>simp only [h o (by simp [Cn])]
  | val v=>cases v with
    | slice a n c=>cases a<;>cases n<;>cases c<;>rfl
    | _=>rfl
  | _=>rfl
theorem toStrA_loc {s d:TypeId} {x:AV} (h:Agree hp hp' (Cn x)):Gx P hp s d x=Gx P hp' s d x:=by simp only [Gx,rowsOf_loc h]
theorem lenS_loc {t:TypeId} {x:AV} (h:Agree hp hp' (Cn x)):Pm P hp t x=Pm P hp' t x:=by simp only [Pm,lenOf_loc h]
theorem Ih {fr fr':Operand→AV} {o:Oper} (hs:∀cs b,o.op≠.select cs b) (h:∀x∈o.op.operands,fr x=fr' x):Cx P fr o=Cx P fr' o:=by
  unfold Cx Mh
  have h1:(o.op.operands.all fun x=>(Mw (fr x)).isSome)=(o.op.operands.all fun x=>(Mw (fr' x)).isSome):=by
    rw [Bool.eq_iff_iff,Array.all_eq_true,Array.all_eq_true]
    constructor
    · intro hh i hi;rw [←h _ (Array.getElem_mem hi)];exact hh i hi
    · intro hh i hi;rw [h _ (Array.getElem_mem hi)];exact hh i hi
  rw [h1,execOp_congr (ρ:=fun x=>(Mw (fr x)).getD undef) (ρ':=fun x=>(Mw (fr' x)).getD undef) o hs fun x hx=>by simp only [h x hx]]
theorem aop_loc {ft:FuncId→List AV→Option AV} {fr fr':Operand→AV} {id:Nat} {o:Oper} (h:∀x∈o.op.operands,fr x=fr' x) (k:Agree hp hp' (Dc fr o)):Et P ft fr hp id o=Et P ft fr' hp' id o:=by
  by_cases hmv:Gv o=true
  · obtain ⟨dst,op,ty,pos,after,guard⟩:=o
    cases op with
    | move x=>simp only [Et,h x (by simp [Op.operands])]
    | assign x=>simp only [Et,h x (by simp [Op.operands])]
    | _=>cases hmv
  unfold Dc at k
  rw [if_neg hmv] at k
  clear hmv
  have ha:∀x∈o.op.operands,Agree hp hp' (Cn (fr' x)):=fun x hx t ht=>k t (List.mem_flatMap.2 ⟨x,by simpa using hx,by rw [h x hx];exact ht⟩)
  obtain ⟨dst,op,ty,pos,after,guard⟩:=o
  cases op with
  | move x=>simp only [Et,h x (by simp [Op.operands])]
  | assign x=>simp only [Et,h x (by simp [Op.operands])]
  | pick c a b=>simp only [Et,h c (by simp [Op.operands]),h a (by simp [Op.operands]),h b (by simp [Op.operands])]
  | alloc e=>rfl
  | box e x=>simp only [Et,h x (by simp [Op.operands]),Mu (ha x (by simp [Op.operands]))]
  | build t ps =>
    have hp1:Ii fr ps=Ii fr' ps:=List.map_congr_left fun p hp=>by rw [h p.2 (by simp only [Op.operands,List.mem_toArray];exact List.mem_map.2 ⟨p,hp,rfl⟩)]
    simp only [Et,hp1,Hg]
    have:∀pl zs,Fz hp pl zs (Ii fr' ps)=Fz hp' pl zs (Ii fr' ps):=fun pl zs=>fillA_loc fun p hp=>by
      obtain ⟨q,hq,rfl⟩:=List.mem_map.1 hp
      exact ha q.2 (by simp only [Op.operands,List.mem_toArray];exact List.mem_map.2 ⟨q,hq,rfl⟩)
    simp only [this]
  | buildSlice t n ps =>
    have hp1:Ii fr ps=Ii fr' ps:=List.map_congr_left fun p hp=>by rw [h p.2 (by simp only [Op.operands,List.mem_toArray];exact List.mem_map.2 ⟨p,hp,rfl⟩)]
    simp only [Et,hp1,Iw]
    have:∀sz rows,Px hp sz rows (Ii fr' ps)=Px hp' sz rows (Ii fr' ps):=fun sz rows=>rowsP_loc fun p hp=>by
      obtain ⟨q,hq,rfl⟩:=List.mem_map.1 hp
      exact ha q.2 (by simp only [Op.operands,List.mem_toArray];exact List.mem_map.2 ⟨q,hq,rfl⟩)
    simp only [this]
  | load t x=>simp only [Et,h x (by simp [Op.operands]),cellsP_loc (ha x (by simp [Op.operands]))]
  | store t x u=>simp only [Et,h x (by simp [Op.operands]),h u (by simp [Op.operands]),storeP_loc (ha x (by simp [Op.operands])) (ha u (by simp [Op.operands]))]
  | nilCheck x =>
    have hx:=h x (by simp [Op.operands])
    have hpl:=Ih (P:=P) (fr:=fr) (fr':=fr') (o:=⟨dst,.nilCheck x,ty,pos,after,guard⟩) (by intro cs b hh;cases hh) h
    simp only [Et,hx,hpl]
    cases hq:fr' x with
    | ptr t i off=>have:=ha x (by simp [Op.operands]) t (by rw [hq];simp [Cn]);simp only [this]
    | _=>rfl
  | fieldAddr s x f=>simp only [Et,h x (by simp [Op.operands]),liveV_loc (ha x (by simp [Op.operands]))]
  | indexAddr t x i=>simp only [Et,h x (by simp [Op.operands]),h i (by simp [Op.operands]),indexS_loc (ha x (by simp [Op.operands]))]
  | slice t x lo hi mx =>
    cases mx with
    | some _=>rfl
    | none =>
      have hpl:=Ih (P:=P) (fr:=fr) (fr':=fr') (o:=⟨dst,.slice t x lo hi none,ty,pos,after,guard⟩) (by intro cs b hh;cases hh) h
      have h1:lo.map fr=lo.map fr':=by cases lo with
        | none=>rfl
        | some y=>simp only [Option.map_some];rw [h y (by simp [Op.operands])]
      have h2:hi.map fr=hi.map fr':=by cases hi with
        | none=>rfl
        | some y=>simp only [Option.map_some];rw [h y (by simp [Op.operands])]
      simp only [Et,h x (by simp [Op.operands]),hpl,h1,h2,cutS_loc (ha x (by simp [Op.operands]))]
  | extract t i=>simp only [Et,h t (by simp [Op.operands])]
  | makeFunc fn first captured =>
    have h1:first.toList.map fr=first.toList.map fr':=List.map_congr_left fun x hx=>h x (by simp only [Op.operands,Array.mem_append];exact .inl (by simpa using hx))
    have h2:captured.toList.map fr=captured.toList.map fr':=List.map_congr_left fun x hx=>h x (by simp only [Op.operands,Array.mem_append];exact .inr (by simpa using hx))
    simp only [Et,h1,h2]
  | makeInterface t x=>simp only [Et,h x (by simp [Op.operands])]
  | makeMap t r=>cases r<;>rfl
  | lookup t x y ok => cases ok
                       · simp only [Et,h x (by simp [Op.operands]),h y (by simp [Op.operands]),lookA_loc (ha x (by simp [Op.operands]))]
                       · rfl
  | mapUpdate t m y x=>simp only [Et,h m (by simp [Op.operands]),h y (by simp [Op.operands]),h x (by simp [Op.operands]),updA_loc (ha m (by simp [Op.operands]))]
  | makeSlice t l c=>simp only [Et,h l (by simp [Op.operands]),h c (by simp [Op.operands])]
  | convert s d x =>
    have hpl:=Ih (P:=P) (fr:=fr) (fr':=fr') (o:=⟨dst,.convert s d x,ty,pos,after,guard⟩) (by intro cs b hh;cases hh) h
    simp only [Et,h x (by simp [Op.operands]),hpl,toStrA_loc (ha x (by simp [Op.operands]))]
    have hc:∀t off len,fr' x=.own t off len→Uf P hp d t off len=Uf P hp' d t off len:=fun t off len hq=>by
      have:=ha x (by simp [Op.operands]) t (by rw [hq];simp [Cn])
      simp only [Uf,this]
    split
    · rfl
    · split<;>first|rfl|(rename_i t off len hq;rw [hc _ _ _ hq])
  | binOp op t x y u =>
    have hpl:=Ih (P:=P) (fr:=fr) (fr':=fr') (o:=⟨dst,.binOp op t x y u,ty,pos,after,guard⟩) (by intro cs b hh;cases hh) h
    simp only [Et,h x (by simp [Op.operands]),h y (by simp [Op.operands]),hpl,nilB_loc (ha x (by simp [Op.operands]))]
  | unOp op t x=>exact Ih (by intro cs b hh;cases hh) h
  | index t x i=>exact Ih (by intro cs b hh;cases hh) h
  | call c =>
    obtain ⟨callee,args,tys⟩:=c
    have hpl:=Ih (P:=P) (fr:=fr) (fr':=fr') (o:=⟨dst,.call ⟨callee,args,tys⟩,ty,pos,after,guard⟩) (by intro cs b hh;cases hh) h
    have hop:∀x∈args.toList,x∈(Op.call ⟨callee,args,tys⟩).operands:=fun x hx=>by
      simp only [Op.operands,Call.operands]
      exact Array.mem_append.2 (.inr (by simpa using hx))
    simp only [Et,callOp]
    cases callee with
    | value f =>
      cases f with
      | func f =>
        have h1:args.toList.map fr=args.toList.map fr':=List.map_congr_left fun x hx=>h x (hop x hx)
        simp only [h1]
        exact callA_loc fun y hy=>by obtain ⟨x,hx,rfl⟩:=List.mem_map.1 hy;exact ha x (hop x hx)
      | _=>rfl
    | invoke r m=>rfl
    | builtin b =>
      cases b with
      | len =>
        simp only
        split
        · rename_i x t h1 h2
          have hx:x∈args.toList:=by rw [h1];simp
          simp only [lenA,h x (hop x hx),hpl,lenS_loc (ha x (hop x hx))]
        · rfl
      | append =>
        simp only
        split
        · rename_i s x t tx h1 h2
          have hs:s∈args.toList:=by rw [h1];simp
          have hx:x∈args.toList:=by rw [h1];simp
          rw [h s (hop s hs),h x (hop x hx)]
          exact appendA_loc (ha s (hop s hs)) (ha x (hop x hx))
        · rfl
      | max=>exact hpl
      | min=>exact hpl
      | _=>rfl
  | _=>rfl
end
end Go.Gm
namespace Go.Gm
structure Ev where
 i:Nat
 o:Oper
 b:Bool
 r:AR
 T:List Nat
section
variable (P:Program) (ft:FuncId→List AV→Option AV) (N:Nat) (ops:List Oper) (base:Nat)
def evOk (fr:Nat→AV) (hp:Am) (e:Ev):Prop :=
 (Et P ft (Fk fr) hp (base+8*e.i) e.o=some e.r∧Dc (Fk fr) e.o=e.T) ∨
  ∃f us,Hx (Fk fr) e.o=some (f,us)∧Ga P f∧∀hp',Agree hp hp' e.T→CallOk P f us hp' (base+8*e.i) e.r
def Nv (fr:Nat→AV) (hp:Am) (e:Ev):Prop :=
 Ee ops fr e.o=some e.b∧Pk N e.o.dst=true∧(e.b=true→evOk P ft base fr hp e)∧(e.b=false→e.r=⟨.val undef,[]⟩)
def Oz (fr:Nat→AV) (e:Ev):Nat→AV:=Ff fr e.o.dst e.r.v
def Nr (hp:Am) (e:Ev):Am:=Be hp e.r.eff
def SV:List Ev→(Nat→AV)→Am→Prop
 | [],_,_=>True
 | e::es,fr,hp=>Nv P ft N ops base fr hp e∧SV es (Oz fr e) (Nr hp e)
def finF:List Ev→(Nat→AV)→(Nat→AV)
 | [],fr=>fr
 | e::es,fr=>finF es (Oz fr e)
def finH:List Ev→Am→Am
 | [],hp=>hp
 | e::es,hp=>finH es (Nr hp e)
def Pp (e:Ev):List Nat:=e.r.eff.map (·.1)
structure Indep (e1 e2:Ev):Prop where
 s1:∀d,e1.o.dst=some d→d∉e2.o.looksAt ops.toArray
 s2:∀d,e1.o.dst=some d→e2.o.dst≠some d
 s3:∀d,e2.o.dst=some d→d∉e1.o.looksAt ops.toArray
 w1:∀t∈Pp e1,t∉e2.T
 w2:∀t∈Pp e1,t∉Pp e2
 w3:∀t∈Pp e2,t∉e1.T
end
section
variable {P:Program} {ft:FuncId→List AV→Option AV} {N:Nat} {ops:List Oper} {base:Nat}
theorem Df:∀{eff:List (Nat×Option AObj)} {hp:Am} {t:Nat},t∉eff.map (·.1)→Be hp eff t=hp t
 | [],_,_,_=>rfl
 | (q,o)::eff,hp,t,h=>by
  simp only [List.map_cons,List.mem_cons,not_or] at h
  simp only [Be]
  rw [Df h.2,An _ _ h.1]
theorem Nd:∀{eff:List (Nat×Option AObj)} {hp hp':Am} {t:Nat},t∈eff.map (·.1)→Be hp eff t=Be hp' eff t
 | [],_,_,_,h=>by cases h
 | (q,o)::eff,hp,hp',t,h=>by
  simp only [Be]
  by_cases h2:t∈eff.map (·.1)
  ·exact Nd h2
  ·simp only [List.map_cons,List.mem_cons] at h
   have e:t=q:=h.resolve_right h2
   subst e
   rw [Df h2,Df h2,Ba,Ba]
theorem Ob {fr:Nat→AV} {d:Option Tmp} {v:AV} {d':Nat} (h:∀x,d=some x→x≠d'):Ff fr d v d'=fr d':=by
 cases d with
 | none=>rfl
 | some x=>exact An _ _ (Ne.symm (h x rfl))
theorem evF_agree {fr fr':Nat→AV} {o:Oper} (h:∀d∈o.looksAt ops.toArray,fr d=fr' d):∀x∈o.op.operands,Fk fr x=Fk fr' x:=by
 intro x hx
 cases x with
 | tmp t=>exact h t (List.mem_append_left _ (List.mem_filterMap.2 ⟨.tmp t,by simpa using hx,rfl⟩))
 | _=>rfl
theorem wantedA_agree {fr fr':Nat→AV} {o:Oper} (h:∀d∈o.looksAt ops.toArray,fr d=fr' d):Ee ops fr o=Ee ops fr' o:=by
 unfold Ee
 cases hg:o.guard with
 | none=>rfl
 | some g =>
  obtain ⟨j,want⟩:=g
  simp only
  cases hd:(ops[j]?).bind (·.dst) with
  | none=>rfl
  | some d =>
   have:d∈o.looksAt ops.toArray:=by
    unfold Oper.looksAt
    rw [hg]
    refine List.mem_append_right _ ?_
    simp only [List.getElem?_toArray,hd]
    simp
   simp only [h d this]
theorem callV_agree {fr fr':Operand→AV} {o:Oper} (h:∀x∈o.op.operands,fr x=fr' x):Hx fr o=Hx fr' o:=by
 obtain ⟨dst,op,ty,pos,after,guard⟩:=o
 cases op with
 | call c =>
  obtain ⟨callee,args,tys⟩:=c
  cases callee with
  | value v =>
   have ha:args.toList.map fr=args.toList.map fr':=List.map_congr_left fun x hx=>h x (by simp [Op.operands,Call.operands] at hx ⊢;exact .inr hx)
   cases v with
   | func f=>simp only [Hx,ha]
   | tmp t =>
    have ht:=h (.tmp t) (by simp [Op.operands,Call.operands])
    simp only [Hx,ha,ht]
   | _=>rfl
  | _=>rfl
 | _=>rfl
theorem validE_loc {fr fr':Nat→AV} {hp hp':Am} {e:Ev} (h:Nv P ft N ops base fr hp e) (hf:∀d∈e.o.looksAt ops.toArray,fr d=fr' d) (hh:∀t∈e.T,hp t=hp' t):Nv P ft N ops base fr' hp' e:=by
 obtain ⟨h1,h2,h3,h4⟩:=h
 have he:=evF_agree hf
 refine ⟨by rw [←wantedA_agree hf];exact h1,h2,fun hb=>?_,h4⟩
 rcases h3 hb with ⟨h5,h6⟩|⟨f,us,h5,h6,h7⟩
 ·have ht:Dc (Fk fr') e.o=Dc (Fk fr) e.o:=by
   unfold Dc
   split
   ·rfl
   have:∀(xs:List Operand),(∀x∈xs,Fk fr x=Fk fr' x)→(xs.flatMap fun x=>Cn (Fk fr' x))=xs.flatMap fun x=>Cn (Fk fr x):=by
    intro xs hx
    induction xs with
    | nil=>rfl
    | cons x xs ih=>rw [List.flatMap_cons,List.flatMap_cons,hx x (by simp),ih fun y hy=>hx y (by simp [hy])]
   exact this _ fun x hx=>he x (by simpa using hx)
  refine .inl ⟨?_,by rw [ht];exact h6⟩
  rw [←h5]
  exact (aop_loc he (fun t ht'=>hh t (h6▸ht'))).symm
 ·exact .inr ⟨f,us,(callV_agree he)▸h5,h6,fun hp2 ha=>h7 hp2 fun t ht=>(hh t ht).trans (ha t ht)⟩
theorem swapE {fr:Nat→AV} {hp:Am} {e1 e2:Ev} (h1:Nv P ft N ops base fr hp e1) (h2:Nv P ft N ops base (Oz fr e1) (Nr hp e1) e2) (hi:Indep ops e1 e2) :
  Nv P ft N ops base fr hp e2∧Nv P ft N ops base (Oz fr e2) (Nr hp e2) e1∧Oz (Oz fr e2) e1=Oz (Oz fr e1) e2∧Nr (Nr hp e2) e1=Nr (Nr hp e1) e2:=by
 refine ⟨validE_loc h2 (fun d hd=>?_) (fun t ht=>?_),validE_loc h1 (fun d hd=>?_) (fun t ht=>?_),?_,?_⟩
 ·exact Ob fun x hx e=>hi.s1 x hx (e▸hd)
 ·exact Df fun h=>hi.w1 t h ht
 ·exact (Ob fun x hx e=>hi.s3 x hx (e▸hd)).symm
 ·exact (Df fun h=>hi.w3 t h ht).symm
 ·funext d
  simp only [Oz]
  by_cases ha:e1.o.dst=some d
  ·have hb:e2.o.dst≠some d:=hi.s2 d ha
   rw [ha];simp only [Ff]
   rw [Ba]
   have:∀f:Nat→AV,Ff f e2.o.dst e2.r.v d=f d:=fun f=>Ob fun x hx e=>hb (by rw [hx,e])
   exact ((this _).trans (Ba ..)).symm
  ·have h3:∀f:Nat→AV,Ff f e1.o.dst e1.r.v d=f d:=fun f=>Ob fun x hx e=>ha (by rw [hx,e])
   rw [h3]
   cases hd2:e2.o.dst with
   | none=>simp only [Ff];exact (h3 fr).symm
   | some x =>
    simp only [Ff,Ag]
    by_cases e:d=x
    ·simp [e]
    ·simp only [e,if_false];exact (h3 fr).symm
 ·funext t
  simp only [Nr]
  by_cases ha:t∈Pp e1
  ·have hb:t∉Pp e2:=hi.w2 t ha
   rw [Df (hp:=Be hp e1.r.eff) hb]
   exact Nd ha
  ·rw [Df ha]
   by_cases hb:t∈Pp e2
   ·exact Nd hb
   ·rw [Df hb,Df hb,Df ha]
theorem frontE:∀{L1 L2:List Ev} {e:Ev} {fr:Nat→AV} {hp:Am},SV P ft N ops base (L1++e::L2) fr hp→(∀k∈L1,Indep ops k e) →
  Nv P ft N ops base fr hp e∧SV P ft N ops base (L1++L2) (Oz fr e) (Nr hp e)∧finF (L1++e::L2) fr=finF (L1++L2) (Oz fr e)∧finH (L1++e::L2) hp=finH (L1++L2) (Nr hp e)
 | [],L2,e,fr,hp,h,_=>⟨h.1,h.2,rfl,rfl⟩
 | k::L1,L2,e,fr,hp,h,hi=>by
  obtain ⟨h1,h2⟩:=h
  obtain ⟨g1,g2,g3,g4⟩:=frontE h2 fun q hq=>hi q (by simp [hq])
  obtain ⟨s1,s2,s3,s4⟩:=swapE h1 g1 (hi k (by simp))
  refine ⟨s1,⟨s2,?_⟩,?_,?_⟩
  ·show SV P ft N ops base (L1++L2) (Oz (Oz fr e) k) (Nr (Nr hp e) k)
   rw [s3,s4];exact g2
  ·show finF (L1++e::L2) (Oz fr k)=finF (L1++L2) (Oz (Oz fr e) k)
   rw [s3];exact g3
  ·show finH (L1++e::L2) (Nr hp k)=finH (L1++L2) (Nr (Nr hp e) k)
   rw [s4];exact g4
def Mt (o:Oper):List Nat:=(o.after.toList.filter (Region.binds .any)).map (·.on)
def permB (ord:List Nat) (n:Nat):Bool:=decide (ord.length=n) && decide ord.Nodup && (ord.all (fun i=>decide (i<n))) && (List.range n).all fun i=>ord.contains i
def Ls (A:List (List Nat)) (ord:List Nat) (ops:List Oper):Bool :=
 permB ord ops.length && (List.range ops.length).all fun i=>match ops[i]? with
  | none=>false
  | some o=>(Mt o).all (fun k=>decide (k<ops.length) && decide (ord.idxOf k<ord.idxOf i)) && (A.getD i []).all fun k=>(Mt o).contains k || (Mt o).any fun j=>(A.getD j []).contains k
def Mi (A:List (List Nat)) (ord:List Nat) (ops:List Oper):Bool :=
 ops.all Rh && (List.range ord.length).all fun q=>match ord[q]? with
  | none=>false
  | some j=>match ops[j]? with
   | none=>false
   | some oj=>(ord.take q).all fun i=>match ops[i]? with
    | none=>false
    | some oi=>(A.getD j []).contains i || oi.apart ops.toArray oj
def alD (base:Nat) (listed:Array Bool) (t:Nat):Prop:=t<base∨∃i,listed.getD i false=true∧base+8*i≤t∧t<base+8*i+8
def ConcM {P:Program} (G:Ghost P) (N:Nat) (fr:Nat→AV) (hp:Am) (al:Nat→Prop) (a:Act) (w:World):Prop :=
 a.defers=[]∧a.tmps.size=N∧∃loc,Mem G hp al loc w∧∀d,Rel (Bv G.m1 hp al loc w) (fr d) (a.tmps.getD d undef)
theorem wantedM {G:Ghost P} {fr:Nat→AV} {hp:Am} {al:Nat→Prop} {a:Act} {w:World} {o:Oper} {b:Bool} (hc:ConcM G N fr hp al a w) (h:Ee ops fr o=some b):Region.wanted o (yielded ops.toArray a.tmps)=b:=by
 obtain ⟨h1,h2,loc,hM,hr⟩:=hc
 unfold Ee at h
 unfold Region.wanted
 split at h
 ·rename_i hg;cases h;rw [hg]
 ·rename_i j want hg
  rw [hg]
  simp only
  split at h
  ·rename_i d hd
   split at h
   ·rename_i b' hb
    cases h
    have:=Gw (hb▸hr d)
    have hx:a.tmps[d]?=some (.bool b'):=by
     cases hq:a.tmps[d]? with
     | none=>simp [hq,undef] at this
     | some q=>simp [hq] at this;rw [this]
    have hops:(ops.toArray[j]?).bind (·.dst)=some d:=by simpa using hd
    simp only [yielded,hops,Option.bind_some,hx]
    cases b'<;>cases want<;>rfl
   ·rename_i vs hb
    cases h
    have:=Gw (hb▸hr d)
    have hops:(ops.toArray[j]?).bind (·.dst)=some d:=by simpa using hd
    simp only [yielded,hops,Option.bind_some]
    cases hq:a.tmps[d]? with
    | none=>simp
    | some q=>simp [hq] at this;rw [this];simp
   ·cases h
  ·cases h
theorem opE {G:Ghost P} {fr:Nat→AV} {hp:Am} {al:Nat→Prop} {a:Act} {w:World} {e:Ev} {K:Act→World→Prop} {Q':Exit→Act→World→Prop} (hft:Uv P ft) (hc:ConcM G N fr hp al a w) (hv:Nv P ft N ops base fr hp e)
  (ho:ops[e.i]?=some e.o) (hf:Fresh al (base+8*e.i)) (hK:∀a' w',ConcM G N (Oz fr e) (Nr hp e) (Ku al (base+8*e.i)) a' w'→K a' w'):wpOp P ops.toArray Q' e.i K a w:=by
 obtain ⟨h1,h2,h3,h4⟩:=hv
 have hwant:=wantedM hc h1
 obtain ⟨c1,c2,loc,hM,hrel⟩:=hc
 unfold wpOp
 simp only [List.getElem?_toArray,ho,hwant]
 cases hb:e.b with
 | true =>
  simp only [if_true]
  have fin:∀v w' loc',Mem G (Be hp e.r.eff) (Ku al (base+8*e.i)) loc' w'→Ext (Bv G.m1 hp al loc w) (Bv G.m1 (Be hp e.r.eff) (Ku al (base+8*e.i)) loc' w')→Rel (Bv G.m1 (Be hp e.r.eff) (Ku al (base+8*e.i)) loc' w') e.r.v v→K (a.put e.o.dst v) w':=fun v w' loc' hM' x hv=>hK _ _ (by
   obtain ⟨g1,g2⟩:=Lc (u:=e.r.v) (v:=v) h2 c2 (fun d=>(hrel d).ext x) hv
   exact ⟨by rw [Gc];exact c1,g1,loc',hM',g2⟩)
  rcases h3 hb with ⟨h5,h6⟩|⟨f,us,h5,h6,h7⟩
  ·exact .inl (aop_wp hM hf hft (Fo hrel) h5 fin)
  ·exact .inl (Ui hM hf (Fo hrel) h5 h6 (h7 hp fun _ _=>rfl) fin)
 | false =>
  simp only [Bool.false_eq_true,if_false]
  refine hK _ _ ?_
  obtain ⟨hM2,x2⟩:=hM.more (al':=Ku al (base+8*e.i)) (fun t ht=>.inl ht)
  have hr:=h4 hb
  obtain ⟨g1,g2⟩:=Lc (u:=.val undef) (v:=undef) h2 c2 (fun d=>(hrel d).ext x2) (.val _)
  refine ⟨by rw [Gc];exact c1,g1,loc,?_,?_⟩
  ·simp only [Nr,hr,Be];exact hM2
  ·simp only [Nr,Oz,hr,Be];exact g2
theorem mem_ready {i:Nat} {listed:Array Bool} (h:i∈Region.ready .any ops.toArray listed):i<ops.length∧listed.getD i true=false∧∃o,ops[i]?=some o∧∀k∈Mt o,listed.getD k false=true:=by
 unfold Region.ready at h
 simp only [List.mem_filter,List.mem_range,List.size_toArray,Bool.and_eq_true,Bool.not_eq_true',List.getElem?_toArray] at h
 obtain ⟨h1,h2,h3⟩:=h
 refine ⟨h1,h2,?_⟩
 cases ho:ops[i]? with
 | none=>rw [ho] at h3;simp at h3
 | some o =>
  rw [ho] at h3
  refine ⟨o,rfl,fun k hk=>?_⟩
  simp only [Option.map_some,Option.getD_some,Array.all_eq_true] at h3
  obtain ⟨e,he,rfl⟩:=List.mem_map.1 hk
  obtain ⟨he1,he2⟩:=List.mem_filter.1 he
  obtain ⟨q,hq,rfl⟩:=List.getElem_of_mem he1
  have:=h3 q (by simpa using hq)
  simp only [Array.getElem_toList] at he2 ⊢
  simpa [he2] using this
theorem ready_of {i:Nat} {listed:Array Bool} {o:Oper} (h1:i<ops.length) (h2:listed.getD i true=false) (ho:ops[i]?=some o) (h3:∀k∈Mt o,listed.getD k false=true):i∈Region.ready .any ops.toArray listed:=by
 unfold Region.ready
 simp only [List.mem_filter,List.mem_range,List.size_toArray,Bool.and_eq_true,Bool.not_eq_true',List.getElem?_toArray]
 refine ⟨h1,h2,?_⟩
 rw [ho]
 simp only [Option.map_some,Option.getD_some,Array.all_eq_true]
 intro q hq
 by_cases hb:Region.binds .any o.after[q]=true
 ·have:=h3 o.after[q].on (List.mem_map.2 ⟨o.after[q],List.mem_filter.2 ⟨by simp,hb⟩,rfl⟩)
  simp [hb,this]
 ·simp [hb]
theorem statB_at {A:List (List Nat)} {ord:List Nat} (h:Ls A ord ops=true) {i:Nat} {o:Oper} (ho:ops[i]?=some o):(∀k∈Mt o,k<ops.length∧ord.idxOf k<ord.idxOf i)∧∀k∈A.getD i [],k∈Mt o∨∃j∈Mt o,k∈A.getD j []:=by
 unfold Ls at h
 rw [Bool.and_eq_true,List.all_eq_true] at h
 have hi:i<ops.length:=(List.getElem?_eq_some_iff.1 ho).1
 have:=h.2 i (by simpa using hi)
 rw [ho] at this
 simp only [Bool.and_eq_true,List.all_eq_true,decide_eq_true_eq,Bool.or_eq_true,List.contains_iff_mem,List.any_eq_true] at this
 exact ⟨this.1,this.2⟩
structure Left (A:List (List Nat)) (ord:List Nat) (ops:List Oper) (listed:Array Bool) (L:List Ev):Prop where
 size:listed.size=ops.length
 left:∀i,i<ops.length→listed.getD i true=false→∃e∈L,e.i=i
 un:∀e∈L,e.i<ops.length∧listed.getD e.i true=false∧ops[e.i]?=some e.o
 sorted:L.Pairwise fun e1 e2=>ord.idxOf e1.i<ord.idxOf e2.i
 pairs:L.Pairwise fun e1 e2=>e1.i∈A.getD e2.i []∨Indep ops e1 e2
 closed:∀i,listed.getD i false=true→∀k∈A.getD i [],listed.getD k false=true
theorem getD_tf {l:Array Bool} {i:Nat} (h:i<l.size):l.getD i true=l.getD i false:=by simp [h]
theorem any_sound {G:Ghost P} {A:List (List Nat)} {ord:List Nat} {Q':Exit→Act→World→Prop} (hft:Uv P ft) (hst:Ls A ord ops=true) :
  ∀(n:Nat) (L:List Ev) (listed:Array Bool) (fr:Nat→AV) (hp:Am) (a:Act) (w:World),L.length=n→Left A ord ops listed L→SV P ft N ops base L fr hp→ConcM G N fr hp (alD base listed) a w →
   (∀(listed':Array Bool) (a':Act) (w':World),ConcM G N (finF L fr) (finH L hp) (alD base listed') a' w'→listed'.size=ops.length→Q' .normal a' w')→wpAny P .any ops.toArray Q' n listed a w:=by
 intro n
 induction n with
 | zero =>
  intro L listed fr hp a w hn hL hsv hc hQ
  obtain rfl:L=[]:=List.eq_nil_of_length_eq_zero hn
  refine ⟨?_,hQ listed a w hc hL.size⟩
  apply List.eq_nil_iff_forall_not_mem.2
  intro i hi
  obtain ⟨h1,h2,_⟩:=mem_ready hi
  obtain ⟨e,he,_⟩:=hL.left i h1 h2
  cases he
 | succ n ih =>
  intro L listed fr hp a w hn hL hsv hc hQ
  refine ⟨fun hr=>?_,fun i hi=>?_⟩
  ·-- the first one is ready
   exfalso
   cases L with
   | nil=>simp at hn
   | cons e L =>
    obtain ⟨u1,u2,u3⟩:=hL.un e (by simp)
    have:e.i∈Region.ready .any ops.toArray listed:=ready_of u1 u2 u3 fun k hk=>by
     obtain ⟨hkn,hki⟩:=(statB_at hst u3).1 k hk
     have hks:k<listed.size:=by rw [hL.size];omega
     rw [←getD_tf hks]
     by_cases hl:listed.getD k true=true
     ·exact hl
     ·obtain ⟨e',he',rfl⟩:=hL.left k hkn (by simpa using hl)
      exfalso
      rcases List.mem_cons.1 he' with rfl|he'
      ·omega
      ·have:=(List.pairwise_cons.1 hL.sorted).1 e' he';omega
    rw [hr] at this;cases this
  ·obtain ⟨h1,h2,o,ho,h3⟩:=mem_ready hi
   obtain ⟨e,he,hei⟩:=hL.left i h1 h2
   subst hei
   obtain ⟨L1,L2,rfl⟩:=List.append_of_mem he
   have hidx:∀k∈L1,Indep ops k e:=fun k hk=>by
    have hp:=(List.pairwise_append.1 hL.pairs).2.2 k hk e (by simp)
    rcases hp with hp|hp
    ·exfalso
     obtain ⟨_,k2,_⟩:=hL.un k (by simp [hk])
     have hlk:listed.getD k.i false=true:=by
      rcases (statB_at hst ho).2 k.i hp with h|⟨j,hj,hkj⟩
      ·exact h3 _ h
      ·exact hL.closed j (h3 j hj) _ hkj
     rw [getD_tf (by rw [hL.size];exact (hL.un k (by simp [hk])).1)] at k2
     rw [k2] at hlk;cases hlk
    ·exact hp
   obtain ⟨g1,g2,g3,g4⟩:=frontE hsv hidx
   have hoe:ops[e.i]?=some e.o:=(hL.un e (by simp)).2.2
   have hes:e.i<listed.size:=by rw [hL.size];exact h1
   have hfresh:Fresh (alD base listed) (base+8*e.i):=by
    intro t t1 t2 ht
    rcases ht with ht|⟨j,hj,j1,j2⟩
    ·omega
    ·have:j=e.i:=by omega
     subst this
     rw [←getD_tf hes,h2] at hj;cases hj
   refine opE hft hc g1 hoe hfresh fun a' w' hc'=>?_
   have hset:∀k,(listed.setIfInBounds e.i true).getD k false=if k=e.i then true else listed.getD k false:=fun k=>by
    by_cases hk:k=e.i
    ·subst hk;simp [hes]
    ·simp [hk,Array.getElem?_setIfInBounds_ne (Ne.symm hk)]
   have hsett:∀k,(listed.setIfInBounds e.i true).getD k true=if k=e.i then true else listed.getD k true:=fun k=>by
    by_cases hk:k=e.i
    ·subst hk;simp [hes]
    ·simp [hk,Array.getElem?_setIfInBounds_ne (Ne.symm hk)]
   have hsub:∀x,x∈L1++L2→x∈L1++e::L2:=fun x hx=>by
    rcases List.mem_append.1 hx with h|h
    ·exact List.mem_append_left _ h
    ·exact List.mem_append_right _ (List.mem_cons_of_mem _ h)
   have hsl:(L1++L2).Sublist (L1++e::L2):=List.Sublist.append (List.Sublist.refl _) (List.sublist_cons_self _ _)
   have hne:∀x∈L1++L2,x.i≠e.i:=fun x hx=>by
    have hs:=hL.sorted
    rcases List.mem_append.1 hx with h|h
    ·have:=(List.pairwise_append.1 hs).2.2 x h e (by simp);intro hxe;rw [hxe] at this;omega
    ·have:=(List.pairwise_cons.1 (List.pairwise_append.1 hs).2.1).1 x h;intro hxe;rw [hxe] at this;omega
   refine ih (L1++L2) (listed.setIfInBounds e.i true) (Oz fr e) (Nr hp e) a' w' (by simp at hn ⊢;omega) ?_ g2 ?_ ?_
   ·refine ⟨by simpa using hL.size,fun k hk hkl=>?_,fun x hx=>?_,hL.sorted.sublist hsl,hL.pairs.sublist hsl,fun k hk q hq=>?_⟩
    ·rw [hsett] at hkl
     split at hkl
     ·cases hkl
     ·rename_i hke
      obtain ⟨x,hx,rfl⟩:=hL.left k hk hkl
      refine ⟨x,?_,rfl⟩
      rcases List.mem_append.1 hx with h|h
      ·exact List.mem_append_left _ h
      ·rcases List.mem_cons.1 h with rfl|h
       ·exact absurd rfl hke
       ·exact List.mem_append_right _ h
    ·obtain ⟨x1,x2,x3⟩:=hL.un x (hsub x hx)
     exact ⟨x1,by rw [hsett,if_neg (hne x hx)];exact x2,x3⟩
    ·rw [hset] at hk ⊢
     split
     ·rfl
     ·split at hk
      ·rename_i hke
       subst hke
       rcases (statB_at hst ho).2 q hq with h|⟨j,hj,hkj⟩
       ·exact h3 _ h
       ·exact hL.closed j (h3 j hj) _ hkj
      ·exact hL.closed k hk q hq
   ·obtain ⟨c1,c2,loc,hM,hrel⟩:=hc'
    obtain ⟨hM2,x2⟩:=hM.more (al':=alD base (listed.setIfInBounds e.i true)) (fun t ht=>by
     rcases ht with (ht|⟨j,hj,hjt⟩)|ht
     ·exact .inl ht
     ·exact .inr ⟨j,by rw [hset];split<;>simp_all,hjt⟩
     ·exact .inr ⟨e.i,by rw [hset];simp,by omega⟩)
    exact ⟨c1,c2,loc,hM2,fun d=>(hrel d).ext x2⟩
   ·intro listed' a2 w2 hc2 hs2
    rw [←g3,←g4] at hc2
    exact hQ listed' a2 w2 hc2 hs2
end
end Go.Gm
namespace Go.Gm
def Rt (l m:List Nat):Prop:=∀t∈l,t∉m
def Jy (A:List (List Nat)) (j:Nat) (T W:List Nat) (acc:List (Nat×List Nat×List Nat)):Prop :=
 ∀x∈acc,x.1∈A.getD j []∨(Rt x.2.2 T∧Rt x.2.2 W∧Rt W x.2.1)
def Wp (i:Nat) (T W:List Nat) (acc:List (Nat×List Nat×List Nat)):List (Nat×List Nat×List Nat):=if T.isEmpty && W.isEmpty then acc else (i,T,W)::acc
def pick (ops:List Oper):List Nat→List (Nat×Oper)
 | []=>[]
 | i::l=>match ops[i]? with
  | some o=>(i,o)::pick ops l
  | none=>pick ops l
def Ea (P:Program) (ft:FuncId→List AV→Option AV) (N:Nat) (ops:List Oper) (A:List (List Nat)) (base:Nat):List (Nat×Oper)→(Nat→AV)→Am→List (Nat×List Nat×List Nat)→((Nat→AV)→Am→Prop)→Prop
 | [],fr,hp,_,Q=>Q fr hp
 | (i,o)::rest,fr,hp,acc,Q=>match Ee ops fr o with
  | none=>False
  | some b=>if b=true then
    match Et P ft (Fk fr) hp (base+8*i) o with
    | some r=>Pk N o.dst=true∧Jy A i (Dc (Fk fr) o) (r.eff.map (·.1)) acc ∧
      Ea P ft N ops A base rest (Ff fr o.dst r.v) (Be hp r.eff) (Wp i (Dc (Fk fr) o) (r.eff.map (·.1)) acc) Q
    | none=>∃f us r T,Hx (Fk fr) o=some (f,us)∧Ga P f∧(∀hp',Agree hp hp' T→CallOk P f us hp' (base+8*i) r)∧Pk N o.dst=true∧Jy A i T (r.eff.map (·.1)) acc ∧
      Ea P ft N ops A base rest (Ff fr o.dst r.v) (Be hp r.eff) (Wp i T (r.eff.map (·.1)) acc) Q
   else Pk N o.dst=true∧Ea P ft N ops A base rest (Ff fr o.dst (.val undef)) hp acc Q
section
variable {P:Program} {ft:FuncId→List AV→Option AV} {N:Nat} {ops:List Oper} {A:List (List Nat)} {base:Nat}
def IdsOk (A:List (List Nat)) (x:Nat×List Nat×List Nat) (e:Ev):Prop:=x.1∈A.getD e.i []∨(Rt x.2.2 e.T∧Rt x.2.2 (Pp e)∧Rt (Pp e) x.2.1)
theorem Pa {Q:(Nat→AV)→Am→Prop}:∀(rest:List (Nat×Oper)) (fr:Nat→AV) (hp:Am) (acc:List (Nat×List Nat×List Nat)),Ea P ft N ops A base rest fr hp acc Q→(∀x∈rest,ops[x.1]?=some x.2) →
  ∃L,Q (finF L fr) (finH L hp)∧SV P ft N ops base L fr hp∧L.map (·.i)=rest.map (·.1)∧(∀e∈L,ops[e.i]?=some e.o)∧(∀x∈acc,∀e∈L,IdsOk A x e) ∧
   L.Pairwise fun e1 e2=>IdsOk A (e1.i,e1.T,Pp e1) e2
 | [],fr,hp,acc,h,_=>⟨[],h,trivial,rfl,by simp,by simp,.nil⟩
 | (i,o)::rest,fr,hp,acc,h,hd=>by
  have hoi:ops[i]?=some o:=hd (i,o) (by simp)
  have hd':∀x∈rest,ops[x.1]?=some x.2:=fun x hx=>hd x (by simp [hx])
  unfold Ea at h
  split at h
  ·exact h.elim
  ·rename_i b hw
   cases b with
   | false =>
    simp only [Bool.false_eq_true,if_false] at h
    obtain ⟨h1,h2⟩:=h
    obtain ⟨L,q1,q2,q3,q4,q5,q6⟩:=Pa rest _ _ acc h2 hd'
    let e:Ev:=⟨i,o,false,⟨.val undef,[]⟩,[]⟩
    have hE:∀x:Nat×List Nat×List Nat,IdsOk A x e:=fun x=>.inr ⟨fun t _=>by simp [e],fun t _=>by simp [e,Pp],fun t ht=>by simp [e,Pp] at ht⟩
    refine ⟨e::L,q1,⟨⟨hw,h1,fun hh=>(by cases hh),fun _=>rfl⟩,q2⟩,?_,?_,?_,?_⟩
    ·simp [q3,e]
    ·intro x hx;rcases List.mem_cons.1 hx with rfl|hx
     ·exact hoi
     ·exact q4 x hx
    ·intro x hx y hy;rcases List.mem_cons.1 hy with rfl|hy
     ·exact hE x
     ·exact q5 x hx y hy
    ·refine List.pairwise_cons.2 ⟨fun y hy=>?_,q6⟩
     exact .inr ⟨fun t ht=>by simp [e,Pp] at ht,fun t ht=>by simp [e,Pp] at ht,fun t _=>by simp [e]⟩
   | true =>
    simp only [if_true] at h
    have ev:∀(r:AR) (T:List Nat),Pk N o.dst=true→Jy A i T (r.eff.map (·.1)) acc→Ea P ft N ops A base rest (Ff fr o.dst r.v) (Be hp r.eff) (Wp i T (r.eff.map (·.1)) acc) Q→evOk P ft base fr hp ⟨i,o,true,r,T⟩ →
      ∃L,Q (finF L fr) (finH L hp)∧SV P ft N ops base L fr hp∧L.map (·.i)=((i,o)::rest).map (·.1)∧(∀e∈L,ops[e.i]?=some e.o)∧(∀x∈acc,∀e∈L,IdsOk A x e)∧L.Pairwise fun e1 e2=>IdsOk A (e1.i,e1.T,Pp e1) e2:=fun r T h1 h2 h3 hv=>by
     obtain ⟨L,q1,q2,q3,q4,q5,q6⟩:=Pa rest _ _ _ h3 hd'
     let e:Ev:=⟨i,o,true,r,T⟩
     refine ⟨e::L,q1,⟨⟨hw,h1,fun _=>hv,fun hh=>(by cases hh)⟩,q2⟩,?_,?_,?_,?_⟩
     ·simp [q3,e]
     ·intro x hx;rcases List.mem_cons.1 hx with rfl|hx
      ·exact hoi
      ·exact q4 x hx
     ·intro x hx y hy;rcases List.mem_cons.1 hy with rfl|hy
      ·exact h2 x hx
      ·refine q5 x ?_ y hy
       unfold Wp;split
       ·exact hx
       ·exact List.mem_cons_of_mem _ hx
     ·refine List.pairwise_cons.2 ⟨fun y hy=>?_,q6⟩
      by_cases hem:(T.isEmpty && (r.eff.map (·.1)).isEmpty)=true
      ·simp only [Bool.and_eq_true,List.isEmpty_iff] at hem
       refine .inr ⟨fun t ht=>?_,fun t ht=>?_,fun t _=>?_⟩
       ·simp only [e,Pp,hem.2] at ht;cases ht
       ·simp only [e,Pp,hem.2] at ht;cases ht
       ·simp only [e,hem.1];simp
      ·refine q5 (i,T,r.eff.map (·.1)) ?_ y hy
       unfold Wp;rw [if_neg hem];exact List.mem_cons_self ..
    split at h
    ·rename_i r hr
     obtain ⟨h1,h2,h3⟩:=h
     exact ev r (Dc (Fk fr) o) h1 h2 h3 (.inl ⟨hr,rfl⟩)
    ·obtain ⟨f,us,r,T,c1,c2,c3,h1,h2,h3⟩:=h
     exact ev r T h1 h2 h3 (.inr ⟨f,us,c1,c2,c3⟩)
theorem pairB_at {ord:List Nat} (h:Mi A ord ops=true) {p q i j:Nat} {oi oj:Oper} (hpq:p<q) (hp:ord[p]?=some i) (hq:ord[q]?=some j) (hi:ops[i]?=some oi) (hj:ops[j]?=some oj):i∈A.getD j []∨oi.apart ops.toArray oj=true:=by
 unfold Mi at h
 rw [Bool.and_eq_true] at h
 replace h:=h.2
 rw [List.all_eq_true] at h
 have:=h q (by simpa using (List.getElem?_eq_some_iff.1 hq).1)
 rw [hq] at this
 simp only [hj,List.all_eq_true] at this
 have:=this i (by
  have:(ord.take q)[p]?=some i:=by rw [List.getElem?_take_of_lt hpq];exact hp
  exact List.mem_of_getElem? this)
 rw [hi] at this
 simpa using this
theorem pick_map:∀(l:List Nat),(∀i∈l,i<ops.length)→(pick ops l).map (·.1)=l∧∀x∈pick ops l,ops[x.1]?=some x.2
 | [],_=>⟨rfl,by simp [pick]⟩
 | i::l,h=>by
  obtain ⟨h1,h2⟩:=pick_map l fun j hj=>h j (by simp [hj])
  have hi:ops[i]?=some (ops[i]'(h i (by simp))):=List.getElem?_eq_getElem _
  simp only [pick,hi]
  refine ⟨by simp [h1],fun x hx=>?_⟩
  rcases List.mem_cons.1 hx with rfl|hx
  ·exact hi
  ·exact h2 x hx
theorem draw_any {G:Ghost P} {st:ASt} {Q:ASt→Prop} (A:List (List Nat)) (ord:List Nat) (ft:FuncId→List AV→Option AV) (hft:Uv P ft) (hs:Ls A ord ops=true) (hp:Mi A ord ops=true) {a:Act} {w:World} (hc:Kz G N st a w)
  (h:Ea P ft N ops A st.nx (pick ops ord) st.fr st.hp [] fun fr hp=>Q ⟨fr,hp,st.nx+8*ops.length⟩):wpAny P .any ops.toArray (fun e a' w'=>e=.normal∧∃st',Q st'∧Kz G N st' a' w') ops.toArray.size (Array.replicate ops.toArray.size false) a { w with drawn:=w.drawn+1 }:=by
 have hperm:permB ord ops.length=true:=by unfold Ls at hs;simp only [Bool.and_eq_true] at hs;exact hs.1
 simp only [permB,Bool.and_eq_true,decide_eq_true_eq,List.all_eq_true] at hperm
 obtain ⟨⟨⟨ho1,ho2⟩,ho3⟩,ho4⟩:=hperm
 obtain ⟨hpm1,hpm2⟩:=pick_map (ops:=ops) ord ho3
 obtain ⟨L,q1,q2,q3,q4,_,q6⟩:=Pa _ _ _ _ h hpm2
 rw [hpm1] at q3
 obtain ⟨c1,c2,loc,hM,hrel⟩:=hc
 have hMd:=hM.world (w':={ w with drawn:=w.drawn+1 }) rfl rfl rfl rfl
 have xd:Ext (Bv G.m1 st.hp (fun t=>t<st.nx) loc w) (Bv G.m1 st.hp (fun t=>t<st.nx) loc { w with drawn:=w.drawn+1 }):=Ext.world rfl
 have hlen:L.length=ops.length:=by have:=congrArg List.length q3;simp at this;omega
 have hord:∀k (hk:k<L.length),ord[k]?=some L[k].i:=fun k hk=>by
  rw [←q3];simp [hk]
 have hrk:∀k (hk:k<L.length),ord.idxOf L[k].i=k:=fun k hk=>by
  have h1:k<ord.length:=by omega
  have h2:ord[k]=L[k].i:=by have:=hord k hk;rw [List.getElem?_eq_getElem h1] at this;exact Option.some.inj this
  rw [←h2];exact ho2.idxOf_getElem k h1
 have hfalse:∀i,(Array.replicate ops.toArray.size false).getD i false=false:=fun i=>by
  by_cases hi:i<ops.length<;>simp [hi]
 obtain ⟨hM2,x2⟩:=hMd.more (al':=alD st.nx (Array.replicate ops.toArray.size false)) (fun t ht=>.inl ht)
 have hsz:ops.toArray.size=ops.length:=by simp
 rw [show ops.toArray.size=ops.length from hsz]
 refine any_sound (G:=G) (A:=A) (ord:=ord) hft hs ops.length L (Array.replicate ops.length false) st.fr st.hp a { w with drawn:=w.drawn+1 } hlen ?_ q2 ?_ ?_
 ·refine ⟨by simp,fun i hi _=>?_,fun e he=>?_,?_,?_,fun i hi=>?_⟩
  ·have:i∈ord:=by
    simpa using ho4 i (by simpa using hi)
   rw [←q3] at this
   obtain ⟨e,he,rfl⟩:=List.mem_map.1 this
   exact ⟨e,he,rfl⟩
  ·obtain ⟨k,hk,rfl⟩:=List.getElem_of_mem he
   have hlt:L[k].i<ops.length:=(List.getElem?_eq_some_iff.1 (q4 _ he)).1
   exact ⟨hlt,by simp [hlt],q4 _ he⟩
  ·rw [List.pairwise_iff_getElem]
   intro i j hi hj hij
   rw [hrk i hi,hrk j hj];exact hij
  ·rw [List.pairwise_iff_getElem]
   intro i j hi hj hij
   have h6:=(List.pairwise_iff_getElem.1 q6) i j hi hj hij
   have h7:=pairB_at hp hij (hord i hi) (hord j hj) (q4 _ (List.getElem_mem hi)) (q4 _ (List.getElem_mem hj))
   rcases h7 with h7|h7
   ·exact .inl h7
   ·rcases h6 with h6|⟨a1,a2,a3⟩
    ·exact .inl h6
    ·obtain ⟨s1,s2,s3⟩:=Oper.apart_spec h7
     exact .inr ⟨s1,s2,s3,a1,a2,a3⟩
  ·rw [←hsz,hfalse] at hi;cases hi
 ·rw [←hsz]
  exact ⟨c1,c2,loc,hM2,fun d=>((hrel d).ext xd).ext x2⟩
 ·rintro listed a' w' ⟨d1,d2,loc',hM',hrel'⟩ hls
  obtain ⟨hM3,x3⟩:=hM'.more (al':=fun t=>t<st.nx+8*ops.length) (fun t ht=>by
   rcases ht with ht|⟨i,hi,h1,h2⟩
   ·omega
   ·have:i<ops.length:=by
     rw [←hls]
     by_cases hlt:i<listed.size
     ·exact hlt
     ·simp [hlt] at hi
    omega)
  exact ⟨rfl,_,q1,d1,d2,loc',hM3,fun d=>(hrel' d).ext x3⟩
theorem AW.draw {st:ASt} {id:Nat} {Q:Exit→ASt→Prop} (A:List (List Nat)) (ord:List Nat) (ft:FuncId→List AV→Option AV) (hft:Uv P ft) (hm:P.follows .mixedOrders=true) (hs:Ls A ord ops=true) (hp:Mi A ord ops=true)
  (h:Ea P ft N ops A st.nx (pick ops ord) st.fr st.hp [] fun fr hp=>Q .normal ⟨fr,hp,st.nx+8*ops.length⟩):AW P N (.region id ops.toArray true) Q st:=fun md G a w hc=>by
 refine WP.any hm (fun i o ho=>?_) ?_
 ·unfold Mi at hp
  rw [Bool.and_eq_true,List.all_eq_true] at hp
  exact hp.1 o (List.mem_of_getElem? (by simpa using ho))
 ·exact draw_any (Q:=Q .normal) A ord ft hft hs hp hc h
end
end Go.Gm
namespace Go.Gm
abbrev I (n:Int):AV:=.val (.int .i64 n)
abbrev B (b:Bool):AV:=.val (.bool b)
abbrev S (s:ByteArray):AV:=.val (.string s)
abbrev nilS:AV:=.val (.slice none 0 0)
theorem putF_some (fr:Nat→AV) (d:Nat) (v:AV):Ff fr (some d) v=Ag fr d v:=(rfl)
theorem putF_none (fr:Nat→AV) (v:AV):Ff fr none v=fr:=(rfl)
theorem Ae {α:Type} (f:Nat→α) (t:Nat) (v:α) (t':Nat):Ag f t v t'=if t'=t then v else f t':=(rfl)
theorem Yn (fr:Nat→AV) (t:Nat):Fk fr (.tmp t)=fr t:=(rfl)
theorem Rq (fr:Nat→AV) (v:Value):Fk fr (.const v)=.val v:=(rfl)
theorem evF_func (fr:Nat→AV) (f:Nat):Fk fr (.func f)=.val (.func (.func f) #[] #[]):=(rfl)
theorem okD_some (N d:Nat):Pk N (some d)=decide (d<N):=(rfl)
theorem okD_none (N:Nat):Pk N none=true:=(rfl)
section
variable {P:Program} {ft:FuncId→List AV→Option AV} {fr:Operand→AV} {hp:Am} {id:Nat} {d:Option Tmp} {ty:TypeId} {pos:String} {af:Array Edge} {g:Option (Nat×Bool)}
theorem wantedA_some {ops:List Oper} {f:Nat→AV} {op:Op} {j:Nat} {b:Bool}:Ee ops f ⟨d,op,ty,pos,af,some (j,b)⟩=match (ops[j]?).bind (·.dst) with
    | some d=>match f d with
      | .val (.bool c)=>some (c == b)
      | .val (.tuple _)=>some false
      | _=>none
    | none=>none:=(rfl)
theorem callOf_fn {f:FuncId} {args:Array Operand} {tys:Array TypeId}:Dz ⟨d,.call ⟨.value (.func f),args,tys⟩,ty,pos,af,g⟩=some (f,args.toList):=(rfl)
theorem callOf_builtin {b:Builtin} {args:Array Operand} {tys:Array TypeId}:Dz ⟨d,.call ⟨.builtin b,args,tys⟩,ty,pos,af,g⟩=none:=(rfl)
theorem callOf_tmp {t:Nat} {args:Array Operand} {tys:Array TypeId}:Dz ⟨d,.call ⟨.value (.tmp t),args,tys⟩,ty,pos,af,g⟩=none:=(rfl)
theorem callOf_move {x:Operand}:Dz ⟨d,.move x,ty,pos,af,g⟩=none:=(rfl)
theorem callOf_assign {x:Operand}:Dz ⟨d,.assign x,ty,pos,af,g⟩=none:=(rfl)
theorem callOf_pick {x y z:Operand}:Dz ⟨d,.pick x y z,ty,pos,af,g⟩=none:=(rfl)
theorem callOf_alloc {e:TypeId}:Dz ⟨d,.alloc e,ty,pos,af,g⟩=none:=(rfl)
theorem callOf_box {e:TypeId} {x:Operand}:Dz ⟨d,.box e x,ty,pos,af,g⟩=none:=(rfl)
theorem callOf_build {e:TypeId} {x:Array (Nat×Operand)}:Dz ⟨d,.build e x,ty,pos,af,g⟩=none:=(rfl)
theorem Uj {e:TypeId} {n:Nat} {x:Array (Nat×Operand)}:Dz ⟨d,.buildSlice e n x,ty,pos,af,g⟩=none:=(rfl)
theorem callOf_load {e:TypeId} {x:Operand}:Dz ⟨d,.load e x,ty,pos,af,g⟩=none:=(rfl)
theorem callOf_store {e:TypeId} {x y:Operand}:Dz ⟨d,.store e x y,ty,pos,af,g⟩=none:=(rfl)
theorem Xr {x:Operand}:Dz ⟨d,.nilCheck x,ty,pos,af,g⟩=none:=(rfl)
theorem Wl {e:TypeId} {x:Operand} {f:Nat}:Dz ⟨d,.fieldAddr e x f,ty,pos,af,g⟩=none:=(rfl)
theorem Wk {e:TypeId} {x y:Operand}:Dz ⟨d,.indexAddr e x y,ty,pos,af,g⟩=none:=(rfl)
theorem callOf_index {e:TypeId} {x y:Operand}:Dz ⟨d,.index e x y,ty,pos,af,g⟩=none:=(rfl)
theorem callOf_slice {e:TypeId} {x:Operand} {l h m:Option Operand}:Dz ⟨d,.slice e x l h m,ty,pos,af,g⟩=none:=(rfl)
theorem callOf_extract {x:Operand} {i:Nat}:Dz ⟨d,.extract x i,ty,pos,af,g⟩=none:=(rfl)
theorem callOf_binOp {o:BinOp} {t u:TypeId} {x y:Operand}:Dz ⟨d,.binOp o t x y u,ty,pos,af,g⟩=none:=(rfl)
theorem callOf_unOp {o:UnOp} {t:TypeId} {x:Operand}:Dz ⟨d,.unOp o t x,ty,pos,af,g⟩=none:=(rfl)
theorem callOf_convert {s t:TypeId} {x:Operand}:Dz ⟨d,.convert s t x,ty,pos,af,g⟩=none:=(rfl)
theorem Xt {f:Fn} {x y:Array Operand}:Dz ⟨d,.makeFunc f x y,ty,pos,af,g⟩=none:=(rfl)
theorem Qy {t:TypeId} {x:Operand}:Dz ⟨d,.makeInterface t x,ty,pos,af,g⟩=none:=(rfl)
theorem callOf_makeMap {t:TypeId}:Dz ⟨d,.makeMap t none,ty,pos,af,g⟩=none:=(rfl)
theorem callOf_lookup {t:TypeId} {x y:Operand}:Dz ⟨d,.lookup t x y false,ty,pos,af,g⟩=none:=(rfl)
theorem Wi {t:TypeId} {x y z:Operand}:Dz ⟨d,.mapUpdate t x y z,ty,pos,af,g⟩=none:=(rfl)
theorem Wj {t:TypeId} {x y:Operand}:Dz ⟨d,.makeSlice t x y,ty,pos,af,g⟩=none:=(rfl)
theorem aop_move {x:Operand}:Et P ft fr hp id ⟨d,.move x,ty,pos,af,g⟩=some ⟨fr x,[]⟩:=(rfl)
theorem aop_assign {x:Operand}:Et P ft fr hp id ⟨d,.assign x,ty,pos,af,g⟩=some ⟨fr x,[]⟩:=(rfl)
def pickE (c a b:AV):Option AR:=match c with
  | .val (.bool t)=>some ⟨if t then a else b,[]⟩
  | _=>none
theorem aop_pick {x y z:Operand}:Et P ft fr hp id ⟨d,.pick x y z,ty,pos,af,g⟩=pickE (fr x) (fr y) (fr z):=(rfl)
theorem pickE_tt (a b:AV):pickE (.val (.bool true)) a b=some ⟨a,[]⟩:=(rfl)
theorem pickE_ff (a b:AV):pickE (.val (.bool false)) a b=some ⟨b,[]⟩:=(rfl)
theorem pickE_t (c b:Bool):pickE (.val (.bool c)) (.val (.bool true)) (.val (.bool b))=some ⟨.val (.bool (c || b)),[]⟩:=by cases c<;>rfl
theorem pickE_f (c b:Bool):pickE (.val (.bool c)) (.val (.bool b)) (.val (.bool false))=some ⟨.val (.bool (c && b)),[]⟩:=by cases c<;>rfl
theorem aop_alloc {e:TypeId}:Et P ft fr hp id ⟨d,.alloc e,ty,pos,af,g⟩=(Fm P e).map fun zs=>⟨.ptr id 0 0,[(id,some (.row zs.length true [zs]))]⟩:=(rfl)
theorem aop_box {e:TypeId} {x:Operand}:Et P ft fr hp id ⟨d,.box e x,ty,pos,af,g⟩=if (cellsOf (fr x)).all (Dj hp)=true∧0<(cellsOf (fr x)).length then some ⟨.ptr id 0 0,[(id,some (.row (cellsOf (fr x)).length true [cellsOf (fr x)]))]⟩ else none:=(rfl)
theorem aop_build {e:TypeId} {x:Array (Nat×Operand)}:Et P ft fr hp id ⟨d,.build e x,ty,pos,af,g⟩=(Hg P hp e (Ii fr x)).map fun v=>⟨v,[]⟩:=(rfl)
theorem aop_buildSlice {e:TypeId} {n:Nat} {x:Array (Nat×Operand)}:Et P ft fr hp id ⟨d,.buildSlice e n x,ty,pos,af,g⟩=Iw P hp id e n (Ii fr x):=(rfl)
theorem aop_load {e:TypeId} {x:Operand}:Et P ft fr hp id ⟨d,.load e x,ty,pos,af,g⟩=(Nc hp (fr x)).bind fun cs=>(mkv P e cs).map fun v=>⟨v,[]⟩:=(rfl)
theorem aop_store {e:TypeId} {x y:Operand}:Et P ft fr hp id ⟨d,.store e x y,ty,pos,af,g⟩=(Pq P hp e (fr x) (fr y)).map fun eff=>⟨.any,eff⟩:=(rfl)
theorem aop_fieldAddr {e:TypeId} {x:Operand} {f:Nat}:Et P ft fr hp id ⟨d,.fieldAddr e x f,ty,pos,af,g⟩=if liveV hp (fr x)=true then (fieldP P e f (fr x)).map fun v=>⟨v,[]⟩ else none:=(rfl)
theorem aop_indexAddr {e:TypeId} {x y:Operand}:Et P ft fr hp id ⟨d,.indexAddr e x y,ty,pos,af,g⟩=(Qf P hp e (fr x) (fr y)).map fun v=>⟨v,[]⟩:=(rfl)
theorem aop_extract {x:Operand} {i:Nat}:Et P ft fr hp id ⟨d,.extract x i,ty,pos,af,g⟩=(Qs (fr x) i).map fun v=>⟨v,[]⟩:=(rfl)
theorem aop_makeFunc {f:Fn} {x y:Array Operand}:Et P ft fr hp id ⟨d,.makeFunc f x y,ty,pos,af,g⟩=some ⟨.clo f (x.toList.map fr) (y.toList.map fr),[]⟩:=(rfl)
theorem Un {t:TypeId} {x:Operand}:Et P ft fr hp id ⟨d,.makeInterface t x,ty,pos,af,g⟩=if Ij P t=true then some ⟨mkI t (fr x),[]⟩ else none:=(rfl)
theorem aop_makeMap {t:TypeId}:Et P ft fr hp id ⟨d,.makeMap t none,ty,pos,af,g⟩=some ⟨.mp id,[(id,some (.mapo [] []))]⟩:=(rfl)
theorem aop_lookup {t:TypeId} {x y:Operand}:Et P ft fr hp id ⟨d,.lookup t x y false,ty,pos,af,g⟩=(Qc P hp t (fr x) (fr y)).map fun v=>⟨v,[]⟩:=(rfl)
theorem aop_mapUpdate {t:TypeId} {x y z:Operand}:Et P ft fr hp id ⟨d,.mapUpdate t x y z,ty,pos,af,g⟩=(updA P hp t (fr x) (fr y) (fr z)).map fun eff=>⟨.any,eff⟩:=(rfl)
theorem aop_makeSlice {t:TypeId} {x y:Operand}:Et P ft fr hp id ⟨d,.makeSlice t x y,ty,pos,af,g⟩=makeA P id t (fr x) (fr y):=(rfl)
theorem aop_call {f:FuncId} {args:Array Operand} {tys:Array TypeId}:Et P ft fr hp id ⟨d,.call ⟨.value (.func f),args,tys⟩,ty,pos,af,g⟩=Qz ft hp id f (args.toList.map fr):=(rfl)
theorem aop_append {s x:Operand} {t u:TypeId}:Et P ft fr hp id ⟨d,.call ⟨.builtin .append,#[s,x],#[t,u]⟩,ty,pos,af,g⟩=Eo P hp id t u (fr s) (fr x):=(rfl)
theorem Ck {α:Type} (a:α):Qu P (pure a:Sem α)=some a:=(rfl)
theorem Fu {α β:Type}:∀(x:Sem α) (f:α→Sem β),Qu P (x >>= f)=(Qu P x).bind fun a=>Qu P (f a):=by
  intro x f
  show Qu P (x.bind f)=_
  induction x with
  | pure a=>rfl
  | program k ih=>exact ih P
  | mark m k ih=>exact ih
  | _=>rfl
theorem Ox {α β:Type} (x:Sem α) (f:α→β):Qu P (f <$> x)=(Qu P x).map f:=by
  show Qu P (x >>= fun a=>pure (f a))=_
  rw [Fu]
  cases Qu P x<;>rfl
def Gs (P:Program) (op:BinOp) (t:TypeId) (x y:Operand) (a b:Value):Option Value:=Qu P (do eqGuard op t x y a b;binOp op t a b)
def binE (P:Program) (op:BinOp) (t:TypeId) (x y:Operand) (a b:Option Value):Option AR:=match a,b with
  | some a,some b=>(Gs P op t x y a b).map fun v=>⟨.val v,[]⟩
  | _,_=>none
theorem aop_bin {op:BinOp} {t u:TypeId} {x y:Operand}:Et P ft fr hp id ⟨d,.binOp op t x y u,ty,pos,af,g⟩=Xm P hp op t (fr x) (fr y) (binE P op t x y (Mw (fr x)) (Mw (fr y))):=by
  show Xm P hp op t (fr x) (fr y) (Cx P fr _)=_
  congr 1
  unfold Cx Mh binE
  cases ha:Mw (fr x)<;>cases hb:Mw (fr y)<;>simp [Op.operands,ha,hb,execOp,Fu,Ck,Gs]
  rename_i a b
  cases Qu P (eqGuard op t x y a b)<;>simp [Ox]
  cases Qu P (binOp op t a b)<;>rfl
theorem nilB_val {op:BinOp} {t:TypeId} {v:Value} {y:AV} {r:Option AR}:Xm P hp op t (.val v) y r=r:=(rfl)
theorem nilB_agg {op:BinOp} {t:TypeId} {v:List AV} {y:AV} {r:Option AR}:Xm P hp op t (.agg v) y r=r:=(rfl)
theorem nilB_ptr {op:BinOp} {t:TypeId} {o i off:Nat} {y:AV} {r:Option AR}:Xm P hp op t (.ptr o i off) y r=if Qe y=true∧Qd P t=true∧(hp o).isSome=true then nilOp op r else r:=(rfl)
theorem nilB_ip {op:BinOp} {t:TypeId} {cs:List AV} {y:AV} {r:Option AR}:Xm P hp op t (.ip cs) y r=if Qe y=true∧Qd P t=true then nilOp op r else r:=(rfl)
theorem isNilV_nil:Qe (.val (.pointer none))=true:=(rfl)
theorem nilOp_eql (r:Option AR):nilOp .eql r=some ⟨.val (.bool false),[]⟩:=(rfl)
theorem nilOp_neq (r:Option AR):nilOp .neq r=some ⟨.val (.bool true),[]⟩:=(rfl)
theorem beq_dec {α:Type} [BEq α] [LawfulBEq α] [DecidableEq α] (a b:α):(a == b)=decide (a=b):=by rw [Bool.eq_iff_iff];simp
theorem Fc {op:BinOp} {t:TypeId} {x y:Operand} {k:IntKind} {a b:Int}:Gs P op t x y (.int k a) (.int k b)=Qu P (binOp op t (.int k a) (.int k b)):=by
  unfold Gs eqGuard
  cases op<;>simp [Fu,Ck]
theorem binV_add {t:TypeId} {x y:Operand} {k:IntKind} {a b:Int}:Gs P .add t x y (.int k a) (.int k b)=some (.int k (k.wrap (a+b))):=by rw [Fc];simp [binOp,Op.intArith,Ck]
theorem binV_sub {t:TypeId} {x y:Operand} {k:IntKind} {a b:Int}:Gs P .sub t x y (.int k a) (.int k b)=some (.int k (k.wrap (a-b))):=by rw [Fc];simp [binOp,Op.intArith,Ck]
theorem binV_mul {t:TypeId} {x y:Operand} {k:IntKind} {a b:Int}:Gs P .mul t x y (.int k a) (.int k b)=some (.int k (k.wrap (a*b))):=by rw [Fc];simp [binOp,Op.intArith,Ck]
theorem binV_eql {t:TypeId} {x y:Operand} {k:IntKind} {a b:Int}:Gs P .eql t x y (.int k a) (.int k b)=some (.bool (decide (a=b))):=by rw [Fc];simp [binOp,Op.intCmp,Ck,beq_dec]
theorem binV_neq {t:TypeId} {x y:Operand} {k:IntKind} {a b:Int}:Gs P .neq t x y (.int k a) (.int k b)=some (.bool (decide (a≠b))):=by rw [Fc];simp [binOp,Op.intCmp,Ck,bne,beq_dec]
theorem binV_lss {t:TypeId} {x y:Operand} {k:IntKind} {a b:Int}:Gs P .lss t x y (.int k a) (.int k b)=some (.bool (decide (a<b))):=by rw [Fc];simp [binOp,Op.intCmp,Ck]
theorem binV_leq {t:TypeId} {x y:Operand} {k:IntKind} {a b:Int}:Gs P .leq t x y (.int k a) (.int k b)=some (.bool (decide (a≤b))):=by rw [Fc];simp [binOp,Op.intCmp,Ck]
theorem binV_gtr {t:TypeId} {x y:Operand} {k:IntKind} {a b:Int}:Gs P .gtr t x y (.int k a) (.int k b)=some (.bool (decide (b<a))):=by rw [Fc];simp [binOp,Op.intCmp,Ck]
theorem binV_geq {t:TypeId} {x y:Operand} {k:IntKind} {a b:Int}:Gs P .geq t x y (.int k a) (.int k b)=some (.bool (decide (b≤a))):=by rw [Fc];simp [binOp,Op.intCmp,Ck]
def Pv (a b:ByteArray):Bool:=Op.bytesLess a.toList b.toList
theorem toList_beq (a b:ByteArray):(a.toList == b.toList)=decide (a=b):=by
  have:a.toList=b.toList↔a=b:=by
    rw [ByteArray.toList_eq,ByteArray.toList_eq]
    constructor
    · intro h;cases a;cases b;simp at h;simp [h]
    · intro h;rw [h]
  rw [Bool.eq_iff_iff];simp [this]
theorem binV_str {op:BinOp} {t:TypeId} {x y:Operand} {a b:ByteArray}:Gs P op t x y (.string a) (.string b)=Qu P (Op.stringOp op a b):=by
  unfold Gs eqGuard
  cases op<;>simp [Fu,Ck,binOp]
theorem binV_seq {t:TypeId} {x y:Operand} {a b:ByteArray}:Gs P .eql t x y (.string a) (.string b)=some (.bool (decide (a=b))):=by rw [binV_str];simp [Op.stringOp,Ck,toList_beq]
theorem binV_sne {t:TypeId} {x y:Operand} {a b:ByteArray}:Gs P .neq t x y (.string a) (.string b)=some (.bool (decide (a≠b))):=by rw [binV_str];simp [Op.stringOp,Ck,toList_beq]
theorem binV_sge {t:TypeId} {x y:Operand} {a b:ByteArray}:Gs P .geq t x y (.string a) (.string b)=some (.bool (!Pv a b)):=by rw [binV_str];simp [Op.stringOp,Ck,Pv]
def unE (P:Program) (op:UnOp) (a:Option Value):Option AR:=match a with
  | some a=>(Qu P (Op.unary op a)).map fun v=>⟨.val v,[]⟩
  | none=>none
theorem aop_un {op:UnOp} {t:TypeId} {x:Operand}:Et P ft fr hp id ⟨d,.unOp op t x,ty,pos,af,g⟩=unE P op (Mw (fr x)):=by
  show Cx P fr _=_
  unfold Cx Mh unE
  cases ha:Mw (fr x)<;>simp [Op.operands,ha,execOp,Ox,Fu,Ck]
  cases Qu P (Op.unary op _)<;>rfl
theorem unE_not {b:Bool}:unE P .not (some (.bool b))=some ⟨.val (.bool (!b)),[]⟩:=(rfl)
theorem unE_neg {k:IntKind} {n:Int}:unE P .neg (some (.int k n))=some ⟨.val (.int k (k.wrap (0-n))),[]⟩:=(rfl)
def lenE (P:Program) (hp:Am) (t:TypeId) (x:AV) (pl:Option AR):Option AR:=match x with
  | .val (.slice none 0 0)=>(Pm P hp t x).map fun v=>⟨v,[]⟩
  | .sl _=>(Pm P hp t x).map fun v=>⟨v,[]⟩
  | .own _ _ _=>(Pm P hp t x).map fun v=>⟨v,[]⟩
  | .val (.string s)=>if Gd P t=true then some ⟨.val (.int .i64 s.size),[]⟩ else none
  | _=>pl
theorem Tg (v:Value):Mw (.val v)=some v:=by simp [Mw]
end
end Go.Gm
namespace Go.Gm
def Az:Nat→AV:=fun _=>.any
section
variable {P:Program} {N:Nat} {ops rest:List Oper} {d:Option Tmp} {op:Op} {ty:TypeId} {pos:String} {af:Array Edge} {fr:Nat→AV} {hp:Am} {nx:Nat} {Q:ASt→Prop}
def Ux (P:Program) (N:Nat) (ops rest:List Oper) (d:Option Tmp) (fr:Nat→AV) (hp:Am) (nx:Nat) (Q:ASt→Prop) (r:Option AR):Prop:=match r with
  | some r=>Pk N d=true∧Co P N ops rest ⟨Ff fr d r.v,Be hp r.eff,nx+8⟩ Q
  | none=>False
theorem arK_some {v:AV} {eff:List (Nat×Option AObj)}:Ux P N ops rest d fr hp nx Q (some ⟨v,eff⟩)=(Pk N d=true∧Co P N ops rest ⟨Ff fr d v,Be hp eff,nx+8⟩ Q):=(rfl)
theorem Kt (h:Hx (Fk fr) ⟨d,op,ty,pos,af,none⟩=none):Co P N ops (⟨d,op,ty,pos,af,none⟩::rest) ⟨fr,hp,nx⟩ Q=Ux P N ops rest d fr hp nx Q (Et P Fq (Fk fr) hp nx ⟨d,op,ty,pos,af,none⟩):=by
  simp only [Co,Ee,h,if_true]
  rfl
theorem ar_move {x:Operand}:Co P N ops (⟨d,.move x,ty,pos,af,none⟩::rest) ⟨fr,hp,nx⟩ Q=Ux P N ops rest d fr hp nx Q (Et P Fq (Fk fr) hp nx ⟨d,.move x,ty,pos,af,none⟩):=Kt rfl
theorem ar_assign {x:Operand}:Co P N ops (⟨d,.assign x,ty,pos,af,none⟩::rest) ⟨fr,hp,nx⟩ Q=Ux P N ops rest d fr hp nx Q (Et P Fq (Fk fr) hp nx ⟨d,.assign x,ty,pos,af,none⟩):=Kt rfl
theorem ar_pick {x y z:Operand}:Co P N ops (⟨d,.pick x y z,ty,pos,af,none⟩::rest) ⟨fr,hp,nx⟩ Q=Ux P N ops rest d fr hp nx Q (Et P Fq (Fk fr) hp nx ⟨d,.pick x y z,ty,pos,af,none⟩):=Kt rfl
theorem ar_alloc {e:TypeId}:Co P N ops (⟨d,.alloc e,ty,pos,af,none⟩::rest) ⟨fr,hp,nx⟩ Q=Ux P N ops rest d fr hp nx Q (Et P Fq (Fk fr) hp nx ⟨d,.alloc e,ty,pos,af,none⟩):=Kt rfl
theorem ar_box {e:TypeId} {x:Operand}:Co P N ops (⟨d,.box e x,ty,pos,af,none⟩::rest) ⟨fr,hp,nx⟩ Q=Ux P N ops rest d fr hp nx Q (Et P Fq (Fk fr) hp nx ⟨d,.box e x,ty,pos,af,none⟩):=Kt rfl
theorem ar_build {e:TypeId} {x:Array (Nat×Operand)}:Co P N ops (⟨d,.build e x,ty,pos,af,none⟩::rest) ⟨fr,hp,nx⟩ Q=Ux P N ops rest d fr hp nx Q (Et P Fq (Fk fr) hp nx ⟨d,.build e x,ty,pos,af,none⟩):=Kt rfl
theorem ar_buildSlice {e:TypeId} {n:Nat} {x:Array (Nat×Operand)}:Co P N ops (⟨d,.buildSlice e n x,ty,pos,af,none⟩::rest) ⟨fr,hp,nx⟩ Q=Ux P N ops rest d fr hp nx Q (Et P Fq (Fk fr) hp nx ⟨d,.buildSlice e n x,ty,pos,af,none⟩):=Kt rfl
theorem ar_load {e:TypeId} {x:Operand}:Co P N ops (⟨d,.load e x,ty,pos,af,none⟩::rest) ⟨fr,hp,nx⟩ Q=Ux P N ops rest d fr hp nx Q (Et P Fq (Fk fr) hp nx ⟨d,.load e x,ty,pos,af,none⟩):=Kt rfl
theorem ar_store {e:TypeId} {x y:Operand}:Co P N ops (⟨d,.store e x y,ty,pos,af,none⟩::rest) ⟨fr,hp,nx⟩ Q=Ux P N ops rest d fr hp nx Q (Et P Fq (Fk fr) hp nx ⟨d,.store e x y,ty,pos,af,none⟩):=Kt rfl
theorem ar_nilCheck {x:Operand}:Co P N ops (⟨d,.nilCheck x,ty,pos,af,none⟩::rest) ⟨fr,hp,nx⟩ Q=Ux P N ops rest d fr hp nx Q (Et P Fq (Fk fr) hp nx ⟨d,.nilCheck x,ty,pos,af,none⟩):=Kt rfl
theorem ar_fieldAddr {e:TypeId} {x:Operand} {f:Nat}:Co P N ops (⟨d,.fieldAddr e x f,ty,pos,af,none⟩::rest) ⟨fr,hp,nx⟩ Q=Ux P N ops rest d fr hp nx Q (Et P Fq (Fk fr) hp nx ⟨d,.fieldAddr e x f,ty,pos,af,none⟩):=Kt rfl
theorem ar_indexAddr {e:TypeId} {x y:Operand}:Co P N ops (⟨d,.indexAddr e x y,ty,pos,af,none⟩::rest) ⟨fr,hp,nx⟩ Q=Ux P N ops rest d fr hp nx Q (Et P Fq (Fk fr) hp nx ⟨d,.indexAddr e x y,ty,pos,af,none⟩):=Kt rfl
theorem ar_index {e:TypeId} {x y:Operand}:Co P N ops (⟨d,.index e x y,ty,pos,af,none⟩::rest) ⟨fr,hp,nx⟩ Q=Ux P N ops rest d fr hp nx Q (Et P Fq (Fk fr) hp nx ⟨d,.index e x y,ty,pos,af,none⟩):=Kt rfl
theorem ar_slice {e:TypeId} {x:Operand} {l h m:Option Operand}:Co P N ops (⟨d,.slice e x l h m,ty,pos,af,none⟩::rest) ⟨fr,hp,nx⟩ Q=Ux P N ops rest d fr hp nx Q (Et P Fq (Fk fr) hp nx ⟨d,.slice e x l h m,ty,pos,af,none⟩):=Kt rfl
theorem ar_extract {x:Operand} {i:Nat}:Co P N ops (⟨d,.extract x i,ty,pos,af,none⟩::rest) ⟨fr,hp,nx⟩ Q=Ux P N ops rest d fr hp nx Q (Et P Fq (Fk fr) hp nx ⟨d,.extract x i,ty,pos,af,none⟩):=Kt rfl
theorem ar_bin {o:BinOp} {t u:TypeId} {x y:Operand}:Co P N ops (⟨d,.binOp o t x y u,ty,pos,af,none⟩::rest) ⟨fr,hp,nx⟩ Q=Ux P N ops rest d fr hp nx Q (Et P Fq (Fk fr) hp nx ⟨d,.binOp o t x y u,ty,pos,af,none⟩):=Kt rfl
theorem ar_un {o:UnOp} {t:TypeId} {x:Operand}:Co P N ops (⟨d,.unOp o t x,ty,pos,af,none⟩::rest) ⟨fr,hp,nx⟩ Q=Ux P N ops rest d fr hp nx Q (Et P Fq (Fk fr) hp nx ⟨d,.unOp o t x,ty,pos,af,none⟩):=Kt rfl
theorem ar_convert {s t:TypeId} {x:Operand}:Co P N ops (⟨d,.convert s t x,ty,pos,af,none⟩::rest) ⟨fr,hp,nx⟩ Q=Ux P N ops rest d fr hp nx Q (Et P Fq (Fk fr) hp nx ⟨d,.convert s t x,ty,pos,af,none⟩):=Kt rfl
theorem ar_makeFunc {f:Fn} {x y:Array Operand}:Co P N ops (⟨d,.makeFunc f x y,ty,pos,af,none⟩::rest) ⟨fr,hp,nx⟩ Q=Ux P N ops rest d fr hp nx Q (Et P Fq (Fk fr) hp nx ⟨d,.makeFunc f x y,ty,pos,af,none⟩):=Kt rfl
theorem Wm {t:TypeId} {x:Operand}:Co P N ops (⟨d,.makeInterface t x,ty,pos,af,none⟩::rest) ⟨fr,hp,nx⟩ Q=Ux P N ops rest d fr hp nx Q (Et P Fq (Fk fr) hp nx ⟨d,.makeInterface t x,ty,pos,af,none⟩):=Kt rfl
theorem ar_makeMap {t:TypeId}:Co P N ops (⟨d,.makeMap t none,ty,pos,af,none⟩::rest) ⟨fr,hp,nx⟩ Q=Ux P N ops rest d fr hp nx Q (Et P Fq (Fk fr) hp nx ⟨d,.makeMap t none,ty,pos,af,none⟩):=Kt rfl
theorem ar_lookup {t:TypeId} {x y:Operand}:Co P N ops (⟨d,.lookup t x y false,ty,pos,af,none⟩::rest) ⟨fr,hp,nx⟩ Q=Ux P N ops rest d fr hp nx Q (Et P Fq (Fk fr) hp nx ⟨d,.lookup t x y false,ty,pos,af,none⟩):=Kt rfl
theorem ar_mapUpdate {t:TypeId} {x y z:Operand}:Co P N ops (⟨d,.mapUpdate t x y z,ty,pos,af,none⟩::rest) ⟨fr,hp,nx⟩ Q=Ux P N ops rest d fr hp nx Q (Et P Fq (Fk fr) hp nx ⟨d,.mapUpdate t x y z,ty,pos,af,none⟩):=Kt rfl
theorem ar_makeSlice {t:TypeId} {x y:Operand}:Co P N ops (⟨d,.makeSlice t x y,ty,pos,af,none⟩::rest) ⟨fr,hp,nx⟩ Q=Ux P N ops rest d fr hp nx Q (Et P Fq (Fk fr) hp nx ⟨d,.makeSlice t x y,ty,pos,af,none⟩):=Kt rfl
theorem ar_builtin {b:Builtin} {args:Array Operand} {tys:Array TypeId}:Co P N ops (⟨d,.call ⟨.builtin b,args,tys⟩,ty,pos,af,none⟩::rest) ⟨fr,hp,nx⟩ Q=Ux P N ops rest d fr hp nx Q (Et P Fq (Fk fr) hp nx ⟨d,.call ⟨.builtin b,args,tys⟩,ty,pos,af,none⟩):=Kt rfl
def arC (P:Program) (N:Nat) (ops rest:List Oper) (d:Option Tmp) (fr:Nat→AV) (hp:Am) (nx:Nat) (Q:ASt→Prop) (f:FuncId) (us:List AV) (o:Option (List AV)):Prop :=
  CallK P f us hp nx o fun v hp'=>Pk N d=true∧Co P N ops rest ⟨Ff fr d v,hp',nx+8⟩ Q
theorem ar_call {f:FuncId} {args:Array Operand} {tys:Array TypeId}:Co P N ops (⟨d,.call ⟨.value (.func f),args,tys⟩,ty,pos,af,none⟩::rest) ⟨fr,hp,nx⟩ Q=arC P N ops rest d fr hp nx Q f (args.toList.map (Fk fr)) (Lb hp (args.toList.map (Fk fr))):=by
  simp only [Co,Ee,Hx,if_true]
  rfl
def arV (P:Program) (N:Nat) (ops rest:List Oper) (d:Option Tmp) (fr:Nat→AV) (hp:Am) (nx:Nat) (Q:ASt→Prop) (args:List AV) (v:AV) (other:Prop):Prop:=match v with
  | .clo (.func f) first captured=>arC P N ops rest d fr hp nx Q f (first++args++captured) (Lb hp (first++args++captured))
  | _=>other
theorem ar_callV {t:Tmp} {args:Array Operand} {tys:Array TypeId}:Co P N ops (⟨d,.call ⟨.value (.tmp t),args,tys⟩,ty,pos,af,none⟩::rest) ⟨fr,hp,nx⟩ Q=arV P N ops rest d fr hp nx Q (args.toList.map (Fk fr)) (fr t) (Ux P N ops rest d fr hp nx Q (Et P Fq (Fk fr) hp nx ⟨d,.call ⟨.value (.tmp t),args,tys⟩,ty,pos,af,none⟩)):=by
  unfold arV
  split
  · rename_i f first captured h
    have hv:Hx (Fk fr) ⟨d,.call ⟨.value (.tmp t),args,tys⟩,ty,pos,af,none⟩=some (f,first++args.toList.map (Fk fr)++captured):=by
      simp only [Hx,Fk,h]
    simp only [Co,Ee,hv,if_true]
    rfl
  · rename_i h
    refine Kt ?_
    show (match fr t with
      | .clo (.func f) first captured=>some (f,first++args.toList.map (Fk fr)++captured)
      | _=>none)=none
    split
    · rename_i f first captured h2;exact absurd h2 (h f first captured)
    · rfl
theorem arC.of {f:FuncId} {us xs:List AV} {X:AV} (h:PC P f xs X) (he:Ga P f) (hk:Pk N d=true∧(Bt X nx).2.length≤8∧Co P N ops rest ⟨Ff fr d (Bt X nx).1,Wo us X hp nx,nx+8⟩ Q):arC P N ops rest d fr hp nx Q f us (some xs):=.inl ⟨xs,X,rfl,h,he,hk.2.1,hk.1,hk.2.2⟩
theorem arC.ok {f:FuncId} {us:List AV} {o:Option (List AV)} {r:AR} (h:CallOk P f us hp nx r) (he:Ga P f) (hk:Pk N d=true∧Co P N ops rest ⟨Ff fr d r.v,Be hp r.eff,nx+8⟩ Q):arC P N ops rest d fr hp nx Q f us o:=.inr ⟨r,h,he,hk⟩
def gval (fr:Nat→AV):Option Tmp→AV
  | some d=>fr d
  | none=>.any
theorem gval_some {d:Tmp}:gval fr (some d)=fr d:=(rfl)
def arG (P:Program) (N:Nat) (ops:List Oper) (d:Option Tmp) (op:Op) (ty:TypeId) (pos:String) (af:Array Edge) (rest:List Oper) (fr:Nat→AV) (hp:Am) (nx:Nat) (Q:ASt→Prop) (w:AV) (b:Bool):Prop:=match w with
  | .val (.bool c)=>if (c == b)=true then Co P N ops (⟨d,op,ty,pos,af,none⟩::rest) ⟨fr,hp,nx⟩ Q else Pk N d=true∧Co P N ops rest ⟨Ff fr d (.val undef),hp,nx+8⟩ Q
  | .val (.tuple _)=>Pk N d=true∧Co P N ops rest ⟨Ff fr d (.val undef),hp,nx+8⟩ Q
  | _=>False
theorem ar_g {j:Nat} {b:Bool}:Co P N ops (⟨d,op,ty,pos,af,some (j,b)⟩::rest) ⟨fr,hp,nx⟩ Q=arG P N ops d op ty pos af rest fr hp nx Q (gval fr ((ops[j]?).bind (·.dst))) b:=by
  unfold arG
  conv=>lhs;unfold Co
  simp only [Ee]
  cases hj:(ops[j]?).bind (·.dst) with
  | none=>simp [gval]
  | some dj =>
    simp only [gval]
    cases hv:fr dj with
    | val v =>
      cases v with
      | bool c =>
        simp only
        by_cases hcb:(c == b)=true
        · rw [if_pos hcb,if_pos hcb,Co];rfl
        · rw [if_neg hcb,if_neg hcb]
      | tuple vs=>simp
      | _=>rfl
    | _=>rfl
theorem arG_tt:arG P N ops d op ty pos af rest fr hp nx Q (.val (.bool true)) true=Co P N ops (⟨d,op,ty,pos,af,none⟩::rest) ⟨fr,hp,nx⟩ Q:=(rfl)
theorem arG_ff:arG P N ops d op ty pos af rest fr hp nx Q (.val (.bool false)) false=Co P N ops (⟨d,op,ty,pos,af,none⟩::rest) ⟨fr,hp,nx⟩ Q:=(rfl)
theorem arG_un {b:Bool}:arG P N ops d op ty pos af rest fr hp nx Q (.val undef) b=(Pk N d=true∧Co P N ops rest ⟨Ff fr d (.val undef),hp,nx+8⟩ Q):=(rfl)
theorem arG_tf:arG P N ops d op ty pos af rest fr hp nx Q (.val (.bool true)) false=(Pk N d=true∧Co P N ops rest ⟨Ff fr d (.val undef),hp,nx+8⟩ Q):=(rfl)
theorem arG_ft:arG P N ops d op ty pos af rest fr hp nx Q (.val (.bool false)) true=(Pk N d=true∧Co P N ops rest ⟨Ff fr d (.val undef),hp,nx+8⟩ Q):=(rfl)
end
theorem ar_nil {P:Program} {N:Nat} {ops:List Oper} {fr:Nat→AV} {hp:Am} {nx:Nat} {Q:ASt→Prop}:Co P N ops [] ⟨fr,hp,nx⟩ Q=Q ⟨fr,hp,nx⟩:=(rfl)
theorem applyEff_nil (hp:Am):Be hp []=hp:=(rfl)
theorem applyEff_cons (hp:Am) (t:Nat) (o:Option AObj) (l:List (Nat×Option AObj)):Be hp ((t,o)::l)=Be (Ag hp t o) l:=(rfl)
section
variable {P:Program} {ft:FuncId→List AV→Option AV} {N:Nat} {ops:List Oper} {rest:List (Nat×Oper)} {A:List (List Nat)} {base i:Nat} {d:Option Tmp} {op:Op} {ty:TypeId} {pos:String} {af:Array Edge} {fr:Nat→AV} {hp:Am}
  {acc:List (Nat×List Nat×List Nat)} {Q:(Nat→AV)→Am→Prop}
theorem pick_nil:pick ops []=[]:=(rfl)
def pickO (ops:List Oper) (i:Nat) (l:List Nat) (o:Option Oper):List (Nat×Oper):=match o with
  | some o=>(i,o)::pick ops l
  | none=>pick ops l
theorem pick_cons {l:List Nat}:pick ops (i::l)=pickO ops i l (ops[i]?):=(rfl)
theorem pickO_some {l:List Nat} {o:Oper}:pickO ops i l (some o)=(i,o)::pick ops l:=(rfl)
def adN (P:Program) (ft:FuncId→List AV→Option AV) (N:Nat) (ops:List Oper) (A:List (List Nat)) (base:Nat) (rest:List (Nat×Oper)) (i:Nat) (d:Option Tmp) (fr:Nat→AV) (hp:Am) (acc:List (Nat×List Nat×List Nat)) (Q:(Nat→AV)→Am→Prop) (o:Oper):Prop :=
  ∃f us r T,Hx (Fk fr) o=some (f,us)∧Ga P f∧(∀hp',Agree hp hp' T→CallOk P f us hp' (base+8*i) r)∧Pk N d=true∧Jy A i T (r.eff.map (·.1)) acc ∧
    Ea P ft N ops A base rest (Ff fr d r.v) (Be hp r.eff) (Wp i T (r.eff.map (·.1)) acc) Q
def adK (P:Program) (ft:FuncId→List AV→Option AV) (N:Nat) (ops:List Oper) (A:List (List Nat)) (base:Nat) (rest:List (Nat×Oper)) (i:Nat) (d:Option Tmp) (fr:Nat→AV) (hp:Am) (acc:List (Nat×List Nat×List Nat)) (Q:(Nat→AV)→Am→Prop) (o:Oper) (T:List Nat) (r:Option AR):Prop:=match r with
  | some r=>Pk N d=true∧Jy A i T (r.eff.map (·.1)) acc∧Ea P ft N ops A base rest (Ff fr d r.v) (Be hp r.eff) (Wp i T (r.eff.map (·.1)) acc) Q
  | none=>adN P ft N ops A base rest i d fr hp acc Q o
theorem adK_some {T:List Nat} {o:Oper} {v:AV} {eff:List (Nat×Option AObj)}:adK P ft N ops A base rest i d fr hp acc Q o T (some ⟨v,eff⟩)=(Pk N d=true∧Jy A i T (eff.map (·.1)) acc∧Ea P ft N ops A base rest (Ff fr d v) (Be hp eff) (Wp i T (eff.map (·.1)) acc) Q):=(rfl)
theorem adK_none {T:List Nat} {o:Oper}:adK P ft N ops A base rest i d fr hp acc Q o T none=adN P ft N ops A base rest i d fr hp acc Q o:=(rfl)
theorem ad_o:Ea P ft N ops A base ((i,⟨d,op,ty,pos,af,none⟩)::rest) fr hp acc Q=adK P ft N ops A base rest i d fr hp acc Q ⟨d,op,ty,pos,af,none⟩ (Dc (Fk fr) ⟨d,op,ty,pos,af,none⟩) (Et P ft (Fk fr) hp (base+8*i) ⟨d,op,ty,pos,af,none⟩):=by
  simp only [Ea,Ee,if_true]
  rfl
def adG (P:Program) (ft:FuncId→List AV→Option AV) (N:Nat) (ops:List Oper) (A:List (List Nat)) (base:Nat) (d:Option Tmp) (op:Op) (ty:TypeId) (pos:String) (af:Array Edge) (rest:List (Nat×Oper)) (i:Nat) (fr:Nat→AV) (hp:Am) (acc:List (Nat×List Nat×List Nat)) (Q:(Nat→AV)→Am→Prop) (w:AV) (b:Bool):Prop:=match w with
  | .val (.bool c)=>if (c == b)=true then Ea P ft N ops A base ((i,⟨d,op,ty,pos,af,none⟩)::rest) fr hp acc Q else Pk N d=true∧Ea P ft N ops A base rest (Ff fr d (.val undef)) hp acc Q
  | .val (.tuple _)=>Pk N d=true∧Ea P ft N ops A base rest (Ff fr d (.val undef)) hp acc Q
  | _=>False
theorem ad_g {j:Nat} {b:Bool}:Ea P ft N ops A base ((i,⟨d,op,ty,pos,af,some (j,b)⟩)::rest) fr hp acc Q=adG P ft N ops A base d op ty pos af rest i fr hp acc Q (gval fr ((ops[j]?).bind (·.dst))) b:=by
  unfold adG
  conv=>lhs;unfold Ea
  simp only [Ee]
  cases hj:(ops[j]?).bind (·.dst) with
  | none=>simp [gval]
  | some dj =>
    simp only [gval]
    cases hv:fr dj with
    | val v =>
      cases v with
      | bool c =>
        simp only
        by_cases hcb:(c == b)=true
        · rw [if_pos hcb,if_pos hcb,Ea];rfl
        · rw [if_neg hcb,if_neg hcb]
      | tuple vs=>simp
      | _=>rfl
    | _=>rfl
theorem adG_tt:adG P ft N ops A base d op ty pos af rest i fr hp acc Q (.val (.bool true)) true=Ea P ft N ops A base ((i,⟨d,op,ty,pos,af,none⟩)::rest) fr hp acc Q:=(rfl)
theorem adG_ff:adG P ft N ops A base d op ty pos af rest i fr hp acc Q (.val (.bool false)) false=Ea P ft N ops A base ((i,⟨d,op,ty,pos,af,none⟩)::rest) fr hp acc Q:=(rfl)
theorem adG_un {b:Bool}:adG P ft N ops A base d op ty pos af rest i fr hp acc Q (.val undef) b=(Pk N d=true∧Ea P ft N ops A base rest (Ff fr d (.val undef)) hp acc Q):=(rfl)
theorem adG_tf:adG P ft N ops A base d op ty pos af rest i fr hp acc Q (.val (.bool true)) false=(Pk N d=true∧Ea P ft N ops A base rest (Ff fr d (.val undef)) hp acc Q):=(rfl)
theorem adG_ft:adG P ft N ops A base d op ty pos af rest i fr hp acc Q (.val (.bool false)) true=(Pk N d=true∧Ea P ft N ops A base rest (Ff fr d (.val undef)) hp acc Q):=(rfl)
theorem ad_nil:Ea P ft N ops A base [] fr hp acc Q=Q fr hp:=(rfl)
theorem okPair_nil {j:Nat} {T W:List Nat}:Jy A j T W []=True:=by simp [Jy]
theorem okPair_cons {j k:Nat} {T W t w:List Nat}:Jy A j T W ((k,t,w)::acc)=((k∈A.getD j []∨(Rt w T∧Rt w W∧Rt W t))∧Jy A j T W acc):=by simp [Jy]
theorem disj_nil {l:List Nat}:Rt [] l=True:=by simp [Rt]
theorem disj_nil2 {l:List Nat}:Rt l []=True:=by simp [Rt]
theorem disj_cons {t:Nat} {l m:List Nat}:Rt (t::l) m=(t∉m∧Rt l m):=by simp [Rt]
theorem accE_nil {j:Nat}:Wp j [] [] acc=acc:=(rfl)
theorem accE_t {j t:Nat} {T W:List Nat}:Wp j (t::T) W acc=(j,t::T,W)::acc:=(rfl)
theorem accE_w {j t:Nat} {T W:List Nat}:Wp j T (t::W) acc=(j,T,t::W)::acc:=by cases T<;>rfl
end
def touchO (fr:Operand→AV):Option Operand→List Nat
  | none=>[]
  | some x=>Cn (fr x)
theorem touchO_none (fr:Operand→AV):touchO fr none=[]:=(rfl)
theorem touchO_some (fr:Operand→AV) (x:Operand):touchO fr (some x)=Cn (fr x):=(rfl)
section
variable {d:Option Tmp} {ty:TypeId} {pos:String} {af:Array Edge} {g:Option (Nat×Bool)} {fr:Operand→AV}
theorem touch_move {x:Operand}:Dc fr ⟨d,.move x,ty,pos,af,g⟩=[]:=(rfl)
theorem touch_assign {x:Operand}:Dc fr ⟨d,.assign x,ty,pos,af,g⟩=[]:=(rfl)
theorem touch_un {o:UnOp} {t:TypeId} {x:Operand}:Dc fr ⟨d,.unOp o t x,ty,pos,af,g⟩=Cn (fr x):=by simp [Dc,Gv,Op.operands]
theorem touch_bin {o:BinOp} {t u:TypeId} {x y:Operand}:Dc fr ⟨d,.binOp o t x y u,ty,pos,af,g⟩=Cn (fr x)++Cn (fr y):=by simp [Dc,Gv,Op.operands]
theorem touch_pick {x y z:Operand}:Dc fr ⟨d,.pick x y z,ty,pos,af,g⟩=Cn (fr x)++(Cn (fr y)++Cn (fr z)):=by simp [Dc,Gv,Op.operands]
theorem touch_load {t:TypeId} {x:Operand}:Dc fr ⟨d,.load t x,ty,pos,af,g⟩=Cn (fr x):=by simp [Dc,Gv,Op.operands]
theorem touch_nilCheck {x:Operand}:Dc fr ⟨d,.nilCheck x,ty,pos,af,g⟩=Cn (fr x):=by simp [Dc,Gv,Op.operands]
theorem touch_store {t:TypeId} {x y:Operand}:Dc fr ⟨d,.store t x y,ty,pos,af,g⟩=Cn (fr x)++Cn (fr y):=by simp [Dc,Gv,Op.operands]
theorem Xk {t:TypeId} {x:Operand} {f:Nat}:Dc fr ⟨d,.fieldAddr t x f,ty,pos,af,g⟩=Cn (fr x):=by simp [Dc,Gv,Op.operands]
theorem Xj {t:TypeId} {x y:Operand}:Dc fr ⟨d,.indexAddr t x y,ty,pos,af,g⟩=Cn (fr x)++Cn (fr y):=by simp [Dc,Gv,Op.operands]
theorem touch_index {t:TypeId} {x y:Operand}:Dc fr ⟨d,.index t x y,ty,pos,af,g⟩=Cn (fr x)++Cn (fr y):=by simp [Dc,Gv,Op.operands]
theorem touch_extract {x:Operand} {i:Nat}:Dc fr ⟨d,.extract x i,ty,pos,af,g⟩=Cn (fr x):=by simp [Dc,Gv,Op.operands]
theorem touch_convert {s t:TypeId} {x:Operand}:Dc fr ⟨d,.convert s t x,ty,pos,af,g⟩=Cn (fr x):=by simp [Dc,Gv,Op.operands]
theorem touch_builtin {b:Builtin} {args:Array Operand} {tys:Array TypeId}:Dc fr ⟨d,.call ⟨.builtin b,args,tys⟩,ty,pos,af,g⟩=args.toList.flatMap fun x=>Cn (fr x):=by simp [Dc,Gv,Op.operands,Call.operands]
theorem touch_call {f:FuncId} {fr:Nat→AV} {args:Array Operand} {tys:Array TypeId}:Dc (Fk fr) ⟨d,.call ⟨.value (.func f),args,tys⟩,ty,pos,af,g⟩=args.toList.flatMap fun x=>Cn (Fk fr x):=by simp [Dc,Gv,Op.operands,Call.operands,evF_func,Cn]
theorem touch_slice {t:TypeId} {x:Operand} {l h:Option Operand}:Dc fr ⟨d,.slice t x l h none,ty,pos,af,g⟩=Cn (fr x)++(touchO fr l++touchO fr h):=by
  cases l<;>cases h<;>simp [Dc,Gv,Op.operands,touchO]
theorem touch_build {t:TypeId} {x:List (Nat×Operand)}:Dc fr ⟨d,.build t x.toArray,ty,pos,af,g⟩=x.flatMap fun y=>Cn (fr y.2):=by simp [Dc,Gv,Op.operands,List.flatMap_map]
theorem Uz {t:TypeId} {n:Nat} {x:List (Nat×Operand)}:Dc fr ⟨d,.buildSlice t n x.toArray,ty,pos,af,g⟩=x.flatMap fun y=>Cn (fr y.2):=by simp [Dc,Gv,Op.operands,List.flatMap_map]
theorem tidA_val (v:Value):Cn (.val v)=[]:=by simp [Cn]
theorem tidA_sl (r:List (List AV)):Cn (.sl r)=[]:=by simp [Cn]
theorem tidA_ip (r:List AV):Cn (.ip r)=[]:=by simp [Cn]
theorem tidA_own (t o l:Nat):Cn (.own t o l)=[t]:=by simp [Cn]
theorem tidA_ptr (t o l:Nat):Cn (.ptr t o l)=[t]:=by simp [Cn]
theorem tidA_agg (l:List AV):Cn (.agg l)=Xl l:=by simp [Cn]
theorem tidA_tup (l:List AV):Cn (.tup l)=Xl l:=by simp [Cn]
theorem tidL_nil:Xl []=[]:=by simp [Xl]
theorem tidL_cons (u:AV) (l:List AV):Xl (u::l)=Cn u++Xl l:=by simp [Xl]
end
section
variable {P:Program} {N:Nat} {Q:Exit→ASt→Prop} {k:ASt→Prop} {st:ASt} {id j:Nat}
theorem Aa (h:k st):Kj k Q .normal st:=h
theorem Af (h:Q (.exit id) st):Kj k Q (.exit id) st:=h
theorem Ad (h:Q .ret st):Kj k Q .ret st:=h
theorem Ax (h:Q .normal st):Dk id Q .normal st:=h
theorem Bd (h:Q .ret st):Dk id Q .ret st:=h
theorem Bc (h:Q .normal st):Dk id Q (.exit id) st:=by simpa [Dk] using h
theorem block_y (hj:(j == id)=false) (h:Q (.exit j) st):Dk id Q (.exit j) st:=by
  simp only [Dk,beq_eq_false_iff_ne.1 hj,if_false];exact h
theorem AW.reg {ops:List Oper} {y:Code} (h:Co P N ops ops st (AW P N y Q)):AW P N (.seq (.region id ops.toArray false) y) Q st:=AW.seq (AW.region h)
theorem AW.if {c:Operand} {x y:Code} {b:Bool} (hc:Fk st.fr c=.val (.bool b)) (h1:b=true→AW P N x Q st) (h2:b=false→AW P N y Q st):AW P N (.cond c x y) Q st :=
  AW.cond hc (by cases b;exact h2 rfl;exact h1 rfl)
end
def FrLe (fr fr':Nat→AV):Prop:=∀d,fr' d=fr d∨fr' d=.any
theorem Ent.refl {N:Nat} {st:ASt}:Ent N st st:=fun _ _ _ _ h=>h
theorem Ent.trans {N:Nat} {st st' st'':ASt} (h:Ent N st st') (k:Ent N st' st''):Ent N st st'':=fun P G a w hc=>k P G a w (h P G a w hc)
end Go.Gm
namespace Go.Gm
section
variable {P:Program} {ft:FuncId→List AV→Option AV} {fr:Operand→AV} {hp:Am} {id:Nat} {d:Option Tmp} {ty:TypeId} {pos:String} {af:Array Edge} {g:Option (Nat×Bool)}
theorem Qt:Qu P program=some P:=(rfl)
theorem Vd {o:Oper} {v:Value} (h:o.op.operands.all (fun x=>(Mw (fr x)).isSome)=true) (he:Qu P (execOp (fun x=>(Mw (fr x)).getD undef) o)=some (.value v)):Cx P fr o=some ⟨.val v,[]⟩:=by
  unfold Cx Mh;rw [if_pos h,he];rfl
def lenO (P:Program) (hp:Am) (t:TypeId) (x:AV) (pl:Option AR):Option AR:=match x with
  | .val (.slice none 0 0)=>if (Cz P t).isSome=true then some ⟨I 0,[]⟩ else none
  | .sl rows=>if (Cz P t).isSome=true then some ⟨I rows.length,[]⟩ else none
  | .own o off n=>(Pm P hp t (.own o off n)).map fun v=>⟨v,[]⟩
  | .val (.string s)=>if Gd P t=true then some ⟨I s.size,[]⟩ else pl
  | _=>pl
theorem plain_len_str {x:Operand} {t:TypeId} {s:ByteArray} (h:fr x=.val (.string s)) (hu:Gd P t=true):Cx P fr ⟨d,.call ⟨.builtin .len,#[x],#[t]⟩,ty,pos,af,g⟩=some ⟨.val (.int .i64 s.size),[]⟩:=by
  have hu:=Jq hu
  refine Vd (by simp [Op.operands,Call.operands,h,Tg]) ?_
  simp [execOp,resolve,invoke,builtin,Builtin.len_,Fu,Ck,Ox,Qt,h,Tg,underlying,hu,Qu,goInt]
theorem aop_len {x:Operand} {t:TypeId}:Et P ft fr hp id ⟨d,.call ⟨.builtin .len,#[x],#[t]⟩,ty,pos,af,g⟩=lenO P hp t (fr x) (Cx P fr ⟨d,.call ⟨.builtin .len,#[x],#[t]⟩,ty,pos,af,g⟩):=by
  show lenA P fr hp _ x t=_
  unfold lenA lenO
  split
  · rename_i h;rw [h];simp only [Pm,Ml];cases Cz P t<;>rfl
  · rename_i rows h;rw [h];simp only [Pm,Ml];cases Cz P t<;>rfl
  · rename_i h;rw [h]
  · rename_i h1 h2 h3
    split
    · exact absurd ‹_› h1
    · exact absurd ‹_› (h2 _)
    · exact absurd ‹_› (h3 _ _ _)
    · rename_i s hs
      split
      · rename_i hu;rw [plain_len_str hs hu]
      · rfl
    · rfl
theorem lenO_nil {t:TypeId} {pl:Option AR}:lenO P hp t (.val (.slice none 0 0)) pl=if (Cz P t).isSome=true then some ⟨I 0,[]⟩ else none:=(rfl)
theorem lenO_sl {t:TypeId} {rows:List (List AV)} {pl:Option AR}:lenO P hp t (.sl rows) pl=if (Cz P t).isSome=true then some ⟨I rows.length,[]⟩ else none:=(rfl)
theorem lenO_own {t:TypeId} {o off n:Nat} {pl:Option AR}:lenO P hp t (.own o off n) pl=(Pm P hp t (.own o off n)).map fun v=>⟨v,[]⟩:=(rfl)
theorem lenO_str {t:TypeId} {s:ByteArray} {pl:Option AR}:lenO P hp t (.val (.string s)) pl=if Gd P t=true then some ⟨I s.size,[]⟩ else pl:=(rfl)
def idxE (s:ByteArray) (i:Int):Option AR:=if 0≤i then (s[i.toNat]?).map fun b=>⟨.val (.int .u8 b.toNat),[]⟩ else none
theorem aop_index_str {x y:Operand} {t:TypeId} {s:ByteArray} {k:IntKind} {i:Int} {r:AR} (h:fr x=.val (.string s)) (hy:fr y=.val (.int k i)) (hu:Gd P t=true) (hr:idxE s i=some r):Et P ft fr hp id ⟨d,.index t x y,ty,pos,af,g⟩=some r:=by
  show Cx P fr _=_
  have hu:=Jq hu
  unfold idxE at hr
  split at hr
  · rename_i hi
    cases hb:s[i.toNat]? with
    | none=>rw [hb] at hr;cases hr
    | some b =>
      rw [hb] at hr;cases hr
      refine Vd (by simp [Op.operands,h,hy,Tg]) ?_
      simp [execOp,Instr.index,Fu,Ck,Ox,Qt,h,hy,Tg,underlying,hu,Qu,asIntOf,hi,hb]
  · cases hr
end
theorem binE_some {P:Program} {op:BinOp} {t:TypeId} {x y:Operand} {a b:Value}:binE P op t x y (some a) (some b)=(Gs P op t x y a b).map fun v=>⟨.val v,[]⟩:=(rfl)
theorem initF_ap (us:List AV) (d:Nat):Ht us d=(us[d]?).getD .any:=(rfl)
theorem pc_of {P:Program} {f:FuncId} {fn:Func} {c:Code} {us:List AV} {X:AV} {N:Nat} {rs:List ResultVar} (hf:P.funcs[f]?=some fn) (hb:fn.body=some c) (hN:fn.ntmps=N) (hr:fn.results.toList=rs) (hn:us.length≤N)
    (h:AW P N c (Ay P rs X) ⟨Ht us,fun _=>none,0⟩):PC P f us X:=by
  subst hN;subst hr;exact pc_of_body hf hb hn h
theorem natOf_cast {k:IntKind} {n:Nat}:La (.val (.int k (n:Int)))=some n:=by simp [La]
theorem natOf_0 {k:IntKind}:La (.val (.int k 0))=some 0:=(rfl)
theorem natOf_1 {k:IntKind}:La (.val (.int k 1))=some 1:=(rfl)
theorem fin_of {P:Program} {rs:List ResultVar} {X Y:AV} {e:Exit} {st:ASt} {l:List AV} {ts:List Nat} (he:e=.ret∨e=.normal) (hr:resA P st rs=some l) (hs:Cl st.hp (Cu l)=some (Y,ts)) (hn:ts.Nodup) (hY:Y=X):Ay P rs X e st:=by
  rcases he with rfl|rfl <;> · simp only [Ay,hr,hs];exact ⟨hY,hn⟩
end Go.Gm
namespace Go.Gm
def Weak (u u':AV):Prop:=∀E v,Rel E u v→Rel E u' v
theorem Weak.of {u u':AV} (h:u=u'):Weak u u':=fun _ _ k=>h▸k
theorem Weak.any {u:AV}:Weak u .any:=fun _ v _=>.any v
theorem Weak.nil:Weak (.val (.slice none 0 0)) (.sl []):=fun _ _ h=>by cases h;exact .sl0 _ _
def FrW (fr fr':Nat→AV):Prop:=∀d,Weak (fr d) (fr' d)
theorem FrW.any {fr:Nat→AV}:FrW fr Az:=fun _=>.any
theorem FrW.put {fr fr':Nat→AV} {d:Nat} {v:AV} (h:FrW fr fr') (hv:Weak (fr d) v):FrW fr (Ag fr' d v):=fun d'=>by
 simp only [Ag];split
 ·rename_i e;subst e;exact hv
 ·exact h d'
theorem FrW.put' {fr fr':Nat→AV} {d:Nat} {v:AV} (h:FrW fr fr') (hv:fr d=v):FrW fr (Ag fr' d v):=h.put (.of hv)
theorem FrW.refl {fr:Nat→AV}:FrW fr fr:=fun _=>.of rfl
def HpLe (hp hp':Am):Prop:=∀t,hp' t=hp t∨hp' t=none
theorem HpLe.refl {hp:Am}:HpLe hp hp:=fun _=>.inl rfl
section
variable {P:Program} {G:Ghost P} {hp hp':Am} {al:Nat→Prop} {loc:Nat→Option Loc} {w:World}
theorem Mem.some_ (h:Mem G hp al loc w) (hl:HpLe hp hp'):∃loc',Mem G hp' al loc' w∧Ext (Bv G.m1 hp al loc w) (Bv G.m1 hp' al loc' w):=by
 classical
 let loc':Nat→Option Loc:=fun t=>if hp' t=none then none else loc t
 have hsome:∀t l,loc' t=some l→loc t=some l∧hp' t=hp t:=fun t l h'=>by
  simp only [loc'] at h'
  split at h'
  ·cases h'
  ·rename_i hn;rcases hl t with e|e
   ·exact ⟨h',e⟩
   ·exact absurd e hn
 have hmt:∀b,Cs hp' loc' b→Cs hp loc b:=by
  rintro b ⟨t',o',l',h1,h2,h3,h4,h5⟩
  obtain ⟨a,e⟩:=hsome _ _ h3
  exact ⟨t',o',l',e▸h1,h2,a,h4,h5⟩
 have x:Ext (Bv G.m1 hp al loc w) (Bv G.m1 hp' al loc' w):=Fh (fun _ h=>h) (fun t' l' _ hl'=>(hsome _ _ hl').1) (Nat.le_refl _) (fun b _=>hmt b) (fun _ _ _=>rfl)
 refine ⟨loc',h.change x (fun t o ho=>?_) (fun t ho=>by simp only [loc',ho,if_true]) (fun t l hl'=>h.al_ t l (hsome _ _ hl').1) (fun t1 t2 l1 l2 h1 h2=>h.inj _ _ _ _ (hsome _ _ h1).1 (hsome _ _ h2).1) rfl rfl rfl (fun b hb=>.inl (hmt b hb)) (fun t l h1 h2=>.inl ⟨t,l,(hsome _ _ h1).1,h2,rfl⟩),x⟩
 rcases hl t with e|e
 ·exact .inl ⟨e▸ho,by simp only [loc',ho];simp,fun _ _ _=>rfl⟩
 ·rw [e] at ho;cases ho
end
theorem conc_iff {P:Program} {G:Ghost P} {N nx:Nat} {fr:Nat→AV} {hp:Am} {a:Act} {w:World}:Kz G N ⟨fr,hp,nx⟩ a w↔a.defers=[]∧a.tmps.size=N∧∃loc,Mem G hp (fun t=>t<nx) loc w∧∀d,Rel (Bv G.m1 hp (fun t=>t<nx) loc w) (fr d) (a.tmps.getD d undef):=Iff.rfl
theorem Ent.st {N nx nx':Nat} {fr fr':Nat→AV} {hp hp':Am} (h:FrW fr fr') (hh:HpLe hp hp') (hn:nx≤nx'):Ent N ⟨fr,hp,nx⟩ ⟨fr',hp',nx'⟩:=fun P G a w hc=>by
 obtain ⟨h1,h2,loc,hM,hr⟩:=conc_iff.1 hc
 obtain ⟨loc',hM1,x1⟩:=hM.some_ hh
 obtain ⟨hM2,x2⟩:=hM1.more (al':=fun t=>t<nx') (fun t ht=>by omega)
 exact conc_iff.2 ⟨h1,h2,loc',hM2,fun d=>h d _ _ (((hr d).ext x1).ext x2)⟩
theorem Ent.w {N nx:Nat} {fr fr':Nat→AV} {hp:Am} (h:FrW fr fr'):Ent N ⟨fr,hp,nx⟩ ⟨fr',hp,nx⟩:=.st h .refl (Nat.le_refl _)
theorem Av {N nx:Nat} {fr:Nat→AV} {hp:Am} (d sz:Nat) (hz:0<sz) (hd:fr d=.val (.slice none 0 0)):Ent N ⟨fr,hp,nx⟩ ⟨Ag fr d (.own nx 0 0),Ag hp nx (some (.row sz true [])),nx+1⟩:=fun P G a w hc=>by
 obtain ⟨h1,h2,loc,hM,hr⟩:=conc_iff.1 hc
 clear hc
 refine conc_iff.2 ?_
 have hno:hp nx=none:=by
  cases ho:hp nx with
  | none=>rfl
  | some o=>obtain ⟨l,hl,_⟩:=hM.obj nx o ho;exact absurd (hM.al_ nx l hl) (Nat.lt_irrefl _)
 have hl0:=hM.none_ nx hno
 let l0:Loc:=⟨0,0,sz,0⟩
 have hmt:∀b,Cs (Ag hp nx (some (.row sz true []))) (Ag loc nx (some l0)) b→Cs hp loc b:=by
  rintro b ⟨t',o',l',h1,h2,h3,h4,h5⟩
  by_cases e:t'=nx
  ·subst e;rw [Ba] at h3;cases h3;exact absurd h5 (Nat.lt_irrefl _)
  ·rw [An _ _ e] at h1 h3;exact ⟨t',o',l',h1,h2,h3,h4,h5⟩
 have x:Ext (Bv G.m1 hp (fun t=>t<nx) loc w) (Bv G.m1 (Ag hp nx (some (.row sz true []))) (fun t=>t<nx+1) (Ag loc nx (some l0)) w) :=
  Fh (fun _ h=>Nat.lt_succ_of_lt h) (fun t' l' ha hl'=>by rwa [An _ _ (Nat.ne_of_lt ha)] at hl') (Nat.le_refl _) (fun b _=>hmt b) (fun _ _ _=>rfl)
 refine ⟨h1,h2,Ag loc nx (some l0),hM.change x (fun t o ho=>?_) (fun t ho=>?_) (fun t l hl=>?_) (fun t1 t2 l1 l2 k1 k2 p1 p2 hb=>?_) rfl rfl rfl (fun b hb=>.inl (hmt b hb)) (fun t l k1 k2=>?_),fun d'=>?_⟩
 ·by_cases e:t=nx
  ·subst e;rw [Ba] at ho;cases ho
   exact .inr ⟨l0,Ba ..,rfl,hz,by simp,by simp [l0],⟨0,by simp [l0]⟩,fun h=>absurd h (Nat.lt_irrefl _)⟩
  ·rw [An _ _ e] at ho;exact .inl ⟨ho,An _ _ e,fun _ _ _=>rfl⟩
 ·by_cases e:t=nx
  ·subst e;rw [Ba] at ho;cases ho
  ·rw [An _ _ e] at ho;rw [An _ _ e];exact hM.none_ t ho
 ·by_cases e:t=nx
  ·subst e;exact Nat.lt_succ_self _
  ·rw [An _ _ e] at hl;exact Nat.lt_succ_of_lt (hM.al_ t l hl)
 ·by_cases e1:t1=nx
  ·subst e1;rw [Ba] at k1;cases k1;exact absurd p1 (Nat.lt_irrefl _)
  ·by_cases e2:t2=nx
   ·subst e2;rw [Ba] at k2;cases k2;exact absurd p2 (Nat.lt_irrefl _)
   ·rw [An _ _ e1] at k1;rw [An _ _ e2] at k2;exact hM.inj _ _ _ _ k1 k2 p1 p2 hb
 ·by_cases e:t=nx
  ·subst e;rw [Ba] at k1;cases k1;exact absurd k2 (Nat.lt_irrefl _)
  ·rw [An _ _ e] at k1;exact .inl ⟨t,l,k1,k2,rfl⟩
 ·by_cases e:d'=d
  ·subst e
   show Rel _ (Ag fr d' _ d') _
   rw [Ba]
   have:=hr d'
   have hv:=Gw (show Rel _ (.val (.slice none 0 0)) _ from hd▸this)
   rw [hv]
   refine .own (Nat.lt_succ_self _) fun l hl=>?_
   have:l=l0:=by simpa [Bv,Ag] using hl.symm
   subst this
   exact ⟨none,0,rfl,hz,by simp [l0],Nat.le_refl _,fun h=>absurd h (Nat.lt_irrefl _)⟩
  ·show Rel _ (Ag fr d _ d') _
   rw [An _ _ e];exact (hr d').ext x
theorem Ent.still {N nx:Nat} {fr:Nat→AV} {hp:Am} {x:AV} {t off len:Nat} (d:Nat) (hd:fr d=.own t off len) (hx:Fj hp (.own t off len)=some x):Ent N ⟨fr,hp,nx⟩ ⟨Ag fr d x,Ag hp t none,nx⟩:=fun P G a w hc=>by
 obtain ⟨h1,h2,loc,hM,hr⟩:=conc_iff.1 hc
 clear hc
 refine conc_iff.2 ?_
 obtain ⟨hM',x'⟩:=hM.drop t
 refine ⟨h1,h2,_,hM',fun d'=>?_⟩
 by_cases e:d'=d
 ·subst e
  show Rel _ (Ag fr d' x d') _
  rw [Ba]
  have hb:=Ny (G:=G) hM (m:=fun b=>G.m1 b∨Cs (Ag hp t none) (Ag loc t none) b) (fun b hb=>hb.imp id fun ⟨t',o',l',k1,k2,k3,k4,k5⟩=>by
   by_cases e:t'=t
   ·subst e;rw [Ba] at k1;cases k1
   ·rw [An _ _ e] at k1 k3;exact ⟨t',o',l',k1,k2,k3,k4,k5⟩) (hd▸hr d') hx (fun t1 o1 n1 l he hl hlt=>by
    cases he
    rintro (hb|⟨t',o',l',k1,k2,k3,k4,k5⟩)
    ·exact hM.fgn t l hl hlt hb
    ·by_cases e:t'=t
     ·subst e;rw [Ba] at k1;cases k1
     ·rw [An _ _ e] at k3;exact e (hM.inj _ _ _ _ k3 hl k5 hlt k4))
  have mv:Move (E0 (fun b=>G.m1 b∨Cs (Ag hp t none) (Ag loc t none) b) w) (Bv G.m1 (Ag hp t none) (fun t=>t<nx) (Ag loc t none) w) :=
   ⟨Nat.le_refl _,fun b _ hn=>⟨fun hm=>hn (Or.inr (hm.elim Or.inr Or.inl)),rfl⟩⟩
  refine Rel.move mv ?_ hb
  simp only [Fj] at hx
  split at hx
  ·split at hx
   ·rename_i hc;cases hx;simp [inl,hc.2]
   ·cases hx
  ·cases hx
 ·show Rel _ (Ag fr d x d') _
  rw [An _ _ e];exact (hr d').ext x'
end Go.Gm
namespace Go.Gm
def straightA (Q:Exit→ASt→Prop):Exit→ASt→Prop
  | .goto _,_=>False
  | e,st=>Q e st
section
variable {P:Program} {N:Nat} {Q:Exit→ASt→Prop} {st:ASt} {id:Nat}
theorem equal_nil {t e:TypeId} {a:Option Addr} {n c:Nat} (he:Cz P t=some e) (w:World):(Op.equal t (.slice a n c) (.slice none 0 0)).run P w=.ok a.isNone w:=by
  have hu:=Gr he
  have:∀d,(Op.equalIn (d+1) t (.slice a n c) (.slice none 0 0)).run P w=.ok a.isNone w:=by
    intro d;rw [Op.equalIn];cases a<;>simp [underlying,hu]
  exact this 9999
theorem nil_run {t e u:TypeId} {x y:Operand} {a:Option Addr} {n c:Nat} (he:Cz P t=some e) (w:World) :
    (do let r ←(do eqGuard .eql t x y (.slice a n c) (.slice none 0 0);binOp .eql t (.slice a n c) (.slice none 0 0));pure (Next.value r):Sem Next).run P w=.ok (.value (.bool a.isNone)) w:=by
  have h1:(eqGuard .eql t x y (.slice a n c) (.slice none 0 0))=pure ():=(rfl)
  have h2:binOp .eql t (.slice a n c) (.slice none 0 0)=(do pure (.bool (←Op.equal t (.slice a n c) (.slice none 0 0)))):=(rfl)
  rw [h1,h2]
  simp [equal_nil he w]
theorem AW.nilq {d1 d2:Nat} {x:Operand} {rows:List (List AV)} {t e u ty1 ty2:TypeId} {pos1 pos2:String} {af1 af2:Array Edge} {y:Code} (he:Cz P t=some e) (hx:Fk st.fr x=.sl rows) (h1:d1<N) (h2:d2<N)
    (h:∀b:Bool,(b=true→rows=[])→AW P N y Q ⟨Ag (Ag st.fr d1 (.sl rows)) d2 (.val (.bool b)),st.hp,st.nx+8+8⟩) :
    AW P N (.seq (.region id #[⟨some d1,.move x,ty1,pos1,af1,none⟩,⟨some d2,.binOp .eql t (.tmp d1) (.const (.slice none 0 0)) u,ty2,pos2,af2,none⟩] false) y) Q st:=by
  refine AW.seq fun md G a w hc=>WP.list ?_
  obtain ⟨c1,c2,loc,hM,hrel⟩:=hc
  have hxr:=hx▸Fo hrel x
  show WL md P _ _ [_,_] a w
  refine WL.op rfl (by intro c e;cases e) ?_
  refine aop_wp (ft:=Fq) hM Lx (fun _ _ _ h=>by simp [Fq] at h) (Fo hrel) (r:=⟨Fk st.fr x,[]⟩) rfl fun v w1 loc1 hM1 x1 hv=>?_
  obtain ⟨hM1,xx⟩:=hM1.more (al':=fun t=>t<st.nx+8) (fun t ht=>by rcases ht with ht|ht<;>omega)
  have hv:=hv.ext xx
  obtain ⟨g1,g2⟩:=Lc (d:=some d1) (u:=Fk st.fr x) (v:=v) (by simpa [Pk] using h1) c2 (fun d=>(hrel d).ext (x1.trans xx)) hv
  refine WL.op rfl (by intro c e;cases e) ?_
  have hslice:∃p n c,v=.slice p n c∧(p.isNone=true→rows=[]):=by
    rw [hx] at hv
    cases hv with
    | sl0 p c=>exact ⟨p,0,c,rfl,fun _=>rfl⟩
    | sl=>exact ⟨_,_,_,rfl,fun h=>by cases h⟩
  obtain ⟨p,n,c,rfl,hp⟩:=hslice
  have hev:(a.put (some d1) (.slice p n c)).eval (.tmp d1)=.slice p n c:=by
    simp [Act.put,Act.eval,c2,h1]
  have hD:Ix P (execOp (a.put (some d1) (.slice p n c)).eval ⟨some d2,.binOp .eql t (.tmp d1) (.const (.slice none 0 0)) u,ty2,pos2,af2,none⟩) G (Be st.hp []) (fun t=>t<st.nx+8) loc1 w1 (st.nx+8) ⟨.val (.bool p.isNone),[]⟩:=by
    refine Cg hM1 ?_ (.val _)
    have:=nil_run (P:=P) (u:=u) (x:=.tmp d1) (y:=.const (.slice none 0 0)) (a:=p) (n:=n) (c:=c) he w1
    simp only [execOp,hev]
    exact this
  refine Cj hD rfl fun v2 w2 loc2 hM2 x2 hv2=>?_
  obtain ⟨hM2,xy⟩:=hM2.more (al':=fun t=>t<st.nx+8+8) (fun t ht=>by rcases ht with ht|ht<;>omega)
  obtain ⟨k1,k2⟩:=Lc (d:=some d2) (u:=.val (.bool p.isNone)) (v:=v2) (by simpa [Pk] using h2) g1 (fun d=>(g2 d).ext (x2.trans xy)) (hv2.ext xy)
  refine WL.nil ⟨_,h p.isNone hp,?_⟩
  refine ⟨by rw [Gc,Gc];exact c1,k1,loc2,hM2,fun d=>?_⟩
  have:=k2 d
  simp only [Ff,hx] at this
  exact this
end
end Go.Gm
namespace Go.Gm
theorem claimV_val (v:Value) (k:Nat):Bt (.val v) k=(.val v,[]):=by simp [Bt]
theorem claimV_sl (r:List (List AV)) (k:Nat):Bt (.sl r) k=(.sl r,[]):=by simp [Bt]
theorem claimV_fr (sz:Nat) (r:List (List AV)) (k:Nat):Bt (.fr sz r) k=(.own k 0 r.length,[.row sz true r]):=by simp [Bt]
theorem claimV_agg (l:List AV) (k:Nat):Bt (.agg l) k=(.agg (Es l k).1,(Es l k).2):=by simp [Bt]
theorem claimV_tup (l:List AV) (k:Nat):Bt (.tup l) k=(.tup (Es l k).1,(Es l k).2):=by simp [Bt]
theorem claimL_nil (k:Nat):Es [] k=([],[]):=by simp [Es]
theorem claimL_cons (c:AV) (cs:List AV) (k:Nat):Es (c::cs) k=((Bt c k).1::(Es cs (k+(Bt c k).2.length)).1,(Bt c k).2++(Es cs (k+(Bt c k).2.length)).2):=by simp [Es]
theorem shares_val (v:Value):Ci (.val v)=false:=by simp [Ci]
theorem shares_sl (r:List (List AV)):Ci (.sl r)=true:=by simp [Ci]
theorem shares_fr (sz:Nat) (r:List (List AV)):Ci (.fr sz r)=true:=by simp [Ci]
theorem shares_agg (l:List AV):Ci (.agg l)=Dh l:=by simp [Ci]
theorem shares_tup (l:List AV):Ci (.tup l)=Dh l:=by simp [Ci]
theorem sharesL_nil:Dh []=false:=by simp [Dh]
theorem sharesL_cons (c:AV) (l:List AV):Dh (c::l)=(Ci c || Dh l):=by simp [Dh]
theorem tidV_own (t o n:Nat):Hj (.own t o n)=[t]:=(rfl)
theorem tidV_val (v:Value):Hj (.val v)=[]:=(rfl)
theorem tidV_sl (r:List (List AV)):Hj (.sl r)=[]:=(rfl)
theorem tidV_ip (r:List AV):Hj (.ip r)=[]:=(rfl)
theorem tidV_agg (r:List AV):Hj (.agg r)=[]:=(rfl)
theorem tidV_any:Hj .any=[]:=(rfl)
theorem freezeL_nil (hp:Am):Dd hp []=[]:=(rfl)
theorem freezeL_cons (hp:Am) (t:Nat) (ts:List Nat):Dd hp (t::ts)=match hp t with
    | some (.row sz true rows)=>(t,some (.row sz false rows))::Dd hp ts
    | _=>Dd hp ts:=(rfl)
theorem effOf_nil (k:Nat):Hu [] k=[]:=(rfl)
theorem effOf_cons (o:AObj) (os:List AObj) (k:Nat):Hu (o::os) k=(k,some o)::Hu os (k+1):=(rfl)
theorem afterCall_eq (us:List AV) (X:AV) (hp:Am) (nx:Nat):Wo us X hp nx=Be hp ((if Ci X=true then Dd hp (us.flatMap Hj) else [])++Hu (Bt X nx).2 nx):=(rfl)
theorem resV_int (hp:Am) (k:IntKind) (n:Int):Fj hp (.val (.int k n))=some (.val (.int k n)):=(rfl)
theorem resV_bool (hp:Am) (b:Bool):Fj hp (.val (.bool b))=some (.val (.bool b)):=(rfl)
theorem resV_str (hp:Am) (s:ByteArray):Fj hp (.val (.string s))=some (.val (.string s)):=(rfl)
theorem resV_nil (hp:Am):Fj hp (.val (.slice none 0 0))=some (.sl []):=(rfl)
theorem resV_sl (hp:Am) (r:List (List AV)):Fj hp (.sl r)=if Cy r=true then some (.sl r) else none:=by simp only [Fj,inl];rfl
theorem resV_ip (hp:Am) (r:List AV):Fj hp (.ip r)=if Di r=true then some (.ip r) else none:=by simp only [Fj,inl];rfl
theorem resV_agg (hp:Am) (r:List AV):Fj hp (.agg r)=if Di r=true then some (.agg r) else none:=by simp only [Fj,inl];rfl
theorem resV_own (hp:Am) (t o n:Nat):Fj hp (.own t o n)=match hp t with
    | some (.row _ _ rows)=>if o+n≤rows.length∧Cy ((rows.drop o).take n)=true then some (.sl ((rows.drop o).take n)) else none
    | _=>none:=(rfl)
theorem resL_nil (hp:Am):Lb hp []=some []:=(rfl)
theorem resL_cons (hp:Am) (u:AV) (us:List AV):Lb hp (u::us)=match Fj hp u,Lb hp us with
    | some x,some xs=>some (x::xs)
    | _,_=>none:=(rfl)
theorem inl_val (v:Value):inl (.val v)=true:=by simp [inl]
theorem inl_sl (r:List (List AV)):inl (.sl r)=Cy r:=by simp [inl]
theorem inl_ip (r:List AV):inl (.ip r)=Di r:=by simp [inl]
theorem inlL_nil:Di []=true:=by simp [Di]
theorem inlL_cons (c:AV) (l:List AV):Di (c::l)=(inl c && Di l):=by simp [Di]
theorem inlR_nil:Cy []=true:=by simp [Cy]
theorem inlR_cons (c:List AV) (l:List (List AV)):Cy (c::l)=(Di c && Cy l):=by simp [Cy]
theorem Gq {α:Type} {f:α→List AV} (h:∀x,Di (f x)=true):∀l:List α,Cy (l.map f)=true:=fun l=>inlR_of fun r hr=>by
  obtain ⟨x,_,rfl⟩:=List.mem_map.1 hr;exact h x
theorem Vb (hp:Am) (v:Value):Cl hp (.val v)=some (.val v,[]):=by simp [Cl]
theorem sealV_sl (hp:Am) (r:List (List AV)):Cl hp (.sl r)=if Cy r=true then some (.sl r,[]) else none:=by simp [Cl]
theorem sealV_agg (hp:Am) (r:List AV):Cl hp (.agg r)=(Ir hp r).map fun x=>(.agg x.1,x.2):=by simp [Cl]
theorem sealV_tup (hp:Am) (r:List AV):Cl hp (.tup r)=(Ir hp r).map fun x=>(.tup x.1,x.2):=by simp [Cl]
theorem sealV_own (hp:Am) (t o n:Nat):Cl hp (.own t o n)=match hp t with
    | some (.row sz true rows)=>if o=0∧n=rows.length∧Cy rows=true then some (.fr sz rows,[t]) else none
    | _=>none:=by simp only [Cl];rfl
theorem sealL_nil (hp:Am):Ir hp []=some ([],[]):=by simp [Ir]
theorem sealL_cons (hp:Am) (u:AV) (us:List AV):Ir hp (u::us)=match Cl hp u,Ir hp us with
    | some (x,ts),some (xs,ts')=>some (x::xs,ts++ts')
    | _,_=>none:=by simp only [Ir];rfl
theorem Tj (u:AV):Cu [u]=u:=(rfl)
theorem resOf_2 (u v:AV) (l:List AV):Cu (u::v::l)=.tup (u::v::l):=(rfl)
open Classical in
noncomputable def tab:List (FuncId×List AV×AV)→FuncId→List AV→Option AV
  | [],_,_=>none
  | (g,xs,X)::l,f,us=>if f=g∧us=xs then some X else tab l f us
theorem tab_nil {P:Program}:Uv P (tab []):=fun _ _ _ h=>by cases h
theorem Ng {P:Program} {g:FuncId} {xs:List AV} {X:AV} {l:List (FuncId×List AV×AV)} (h:PC P g xs X) (he:Ga P g) (hl:Uv P (tab l)):Uv P (tab ((g,xs,X)::l)):=fun f us Y hY=>by
  simp only [tab] at hY
  split at hY
  · rename_i hc;obtain ⟨rfl,rfl⟩:=hc;cases hY;exact ⟨h,he⟩
  · exact hl f us Y hY
theorem tab_head {f:FuncId} {xs:List AV} {X:AV} {l:List (FuncId×List AV×AV)}:tab ((f,xs,X)::l) f xs=some X:=by simp [tab]
theorem Gk {f g:FuncId} {xs us:List AV} {X:AV} {l:List (FuncId×List AV×AV)} (h:(f == g)=false):tab ((g,xs,X)::l) f us=tab l f us:=by
  have:f≠g:=by simpa using h
  simp [tab,this]
def callR (hp:Am) (id:Nat) (us:List AV) (X:Option AV):Option AR:=match X with
  | some X=>if (Bt X id).2.length≤8 then some ⟨(Bt X id).1,(if Ci X=true then Dd hp (us.flatMap Hj) else [])++Hu (Bt X id).2 id⟩ else none
  | none=>none
def callQ (ft:FuncId→List AV→Option AV) (hp:Am) (id:Nat) (f:FuncId) (us:List AV) (o:Option (List AV)):Option AR:=match o with
  | some xs=>callR hp id us (ft f xs)
  | none=>none
theorem callA_eq (ft:FuncId→List AV→Option AV) (hp:Am) (id:Nat) (f:FuncId) (us:List AV):Qz ft hp id f us=callQ ft hp id f us (Lb hp us):=by
  unfold Qz callQ callR
  cases Lb hp us<;>rfl
theorem callQ_some (ft:FuncId→List AV→Option AV) (hp:Am) (id:Nat) (f:FuncId) (us xs:List AV):callQ ft hp id f us (some xs)=callR hp id us (ft f xs):=(rfl)
theorem callR_some (hp:Am) (id:Nat) (us:List AV) (X:AV):callR hp id us (some X)=if (Bt X id).2.length≤8 then some ⟨(Bt X id).1,(if Ci X=true then Dd hp (us.flatMap Hj) else [])++Hu (Bt X id).2 id⟩ else none:=(rfl)
def plf (l:List (Nat×Nat)):Nat→Option (Nat×Nat):=fun i=>l[i]?
def placeL (P:Program) (t:TypeId):Option (List (Nat×Nat)):=match P.underlying t with
  | some (.struct fields)=>fields.toList.mapM (fun f=>(P.info? f.type).map fun i=>(f.offset,i.size))
  | _=>none
theorem Jx {P:Program} {hp:Am} {t:TypeId} {zs:List AV} {l:List (Nat×Nat)} {parts:List (Nat×AV)} (hz:Fm P t=some zs) (hl:placeL P t=some l):Hg P hp t parts=(Fz hp (plf l) zs parts).map .agg:=by
  have:Sg P t=some (plf l):=by
    unfold placeL at hl
    unfold Sg
    split at hl
    · rename_i fields hu
      rw [hu]
      simp only [hl,Option.map_some]
      congr 1
      funext i
      simp [plf]
    · cases hl
  unfold Hg
  rw [hz,this]
theorem fillA_nil (hp:Am) (pl:Nat→Option (Nat×Nat)) (cs:List AV):Fz hp pl cs []=some cs:=(rfl)
theorem fillA_cons (hp:Am) (pl:Nat→Option (Nat×Nat)) (cs:List AV) (i:Nat) (u:AV) (r:List (Nat×AV)):Fz hp pl cs ((i,u)::r)=match pl i with
    | none=>none
    | some (off,sz)=>if (cellsOf u).length=sz∧off+sz≤cs.length∧(cellsOf u).all (Dj hp)=true then Fz hp pl (Ld cs off (cellsOf u)) r else none:=(rfl)
theorem plf_ap (l:List (Nat×Nat)) (i:Nat):plf l i=l[i]?:=(rfl)
theorem cellsOf_val (v:Value):cellsOf (.val v)=[.val v]:=(rfl)
theorem cellsOf_sl (r:List (List AV)):cellsOf (.sl r)=[.sl r]:=(rfl)
theorem cellsOf_own (t o n:Nat):cellsOf (.own t o n)=[.own t o n]:=(rfl)
theorem cellsOf_ptr (t o n:Nat):cellsOf (.ptr t o n)=[.ptr t o n]:=(rfl)
theorem cellsOf_ip (l:List AV):cellsOf (.ip l)=[.ip l]:=(rfl)
theorem cellsOf_agg (l:List AV):cellsOf (.agg l)=l:=(rfl)
theorem oneAV_int (hp:Am) (k:IntKind) (n:Int):Dj hp (.val (.int k n))=true:=(rfl)
theorem oneAV_bool (hp:Am) (b:Bool):Dj hp (.val (.bool b))=true:=(rfl)
theorem oneAV_str (hp:Am) (s:ByteArray):Dj hp (.val (.string s))=true:=(rfl)
theorem oneAV_slice (hp:Am) (p:Option Addr) (n c:Nat):Dj hp (.val (.slice p n c))=true:=(rfl)
theorem oneAV_ptr0 (hp:Am):Dj hp (.val (.pointer none))=true:=(rfl)
theorem oneAV_sl (hp:Am) (r:List (List AV)):Dj hp (.sl r)=true:=(rfl)
theorem oneAV_ip (hp:Am) (r:List AV):Dj hp (.ip r)=true:=(rfl)
theorem oneAV_own (hp:Am) (t o n:Nat):Dj hp (.own t o n)=(hp t).isSome:=(rfl)
theorem oneAV_ptr (hp:Am) (t o n:Nat):Dj hp (.ptr t o n)=(hp t).isSome:=(rfl)
theorem over_eq (r:List AV) (off:Nat) (cs:List AV):Ld r off cs=r.take off++(cs++r.drop (off+cs.length)):=(rfl)
theorem storeP_ptr (P:Program) (hp:Am) (t:TypeId) (o i off:Nat) (u:AV):Pq P hp t (.ptr o i off) u=match hp o,Nu P t with
    | some (.row sz true rows),some n=>match rows[i]? with
      | some r=>if (cellsOf u).length=n∧off+n≤r.length∧(cellsOf u).all (Dj hp)=true then some [(o,some (.row sz true (rows.set i (Ld r off (cellsOf u)))))] else none
      | none=>none
    | _,_=>none:=(rfl)
theorem partsF_eq (fr:Operand→AV) (l:List (Nat×Operand)):Ii fr l.toArray=l.map fun x=>(x.1,fr x.2):=(rfl)
theorem Sn {α:Type} {f:α→List AV} {sz:Nat} (h:∀x,(f x).length=sz) (l:List α):(∀r∈l.map f,r.length=sz)=True:=by
  refine eq_true fun r hr=>?_
  obtain ⟨x,_,rfl⟩:=List.mem_map.1 hr
  exact h x
theorem Fg {hp:Am} {t n sz:Nat} {m:Bool} {rows:List (List AV)} (h:hp t=some (.row sz m rows)) (hn:n=rows.length) (hi:Cy rows=true):Fj hp (.own t 0 n)=some (.sl rows):=by
  subst hn
  simp only [Fj,h,List.drop_zero,List.take_length]
  rw [if_pos ⟨by omega,hi⟩]
theorem own_fr {hp:Am} {t n sz:Nat} {rows:List (List AV)} (h:hp t=some (.row sz true rows)) (hn:n=rows.length) (hi:Cy rows=true):Cl hp (Cu [.own t 0 n])=some (.fr sz rows,[t]):=by
  subst hn
  simp only [Tj,sealV_own,h]
  rw [if_pos ⟨trivial,trivial,hi⟩]
theorem Yh {P:Program} {X:AV} {e:Exit} {fr:Nat→AV} {hp:Am} {nx t k n sz:Nat} {rows:List (List AV)} (he:e=.ret∨e=.normal) (hr:fr t=.own k 0 n) (hh:hp k=some (.row sz true rows)) (hn:n=rows.length) (hi:Cy rows=true) (hX:AV.fr sz rows=X):Ay P [.tmp t] X e ⟨fr,hp,nx⟩ :=
  fin_of (l:=[.own k 0 n]) he (by simp only [resA,hr,Option.map_some]) (own_fr hh hn hi) (by simp) hX
section
variable {P:Program} {ft:FuncId→List AV→Option AV} {fr:Operand→AV} {hp:Am} {id:Nat} {d:Option Tmp} {ty:TypeId} {pos:String} {af:Array Edge} {g:Option (Nat×Bool)}
theorem aop_slice {t:TypeId} {x:Operand} {lo hi:Option Operand}:Et P ft fr hp id ⟨d,.slice t x lo hi none,ty,pos,af,g⟩=if Jp (fr x)=true then Cx P fr ⟨d,.slice t x lo hi none,ty,pos,af,g⟩ else (Xp P hp t (fr x) (lo.map fr) (hi.map fr)).map fun v=>⟨v,[]⟩:=(rfl)
theorem isStrV_sl (r:List (List AV)):Jp (.sl r)=false:=(rfl)
theorem isStrV_own (t o n:Nat):Jp (.own t o n)=false:=(rfl)
theorem isStrV_nil:Jp (.val (.slice none 0 0))=false:=(rfl)
theorem isStrV_str (s:ByteArray):Jp (.val (.string s))=true:=(rfl)
end
theorem nat_zero:((0:Nat):Int)=0:=(rfl)
def Dw (sz by_ id:Nat) (ys:List (List AV)) (off len o:Nat) (ob:Option AObj):Option AR:=match ob with
  | some (.row sz' true rows)=>if sz'=sz∧off+len≤rows.length∧(len+ys.length)*by_≤140737488355328∧0<by_ then
      some ⟨.own id 0 (len+ys.length),[(o,none),(id,some (.row sz true ((rows.drop off).take len++ys)))]⟩ else none
  | _=>none
def Um (sz by_:Nat) (hp:Am) (id:Nat) (s:AV) (src:Option (List (List AV))):Option AR:=match src with
  | some ys=>match s with
    | .val (.slice none 0 0)=>if ys.length*by_≤140737488355328∧0<by_ then some ⟨.own id 0 ys.length,[(id+1,none),(id,some (.row sz true ys))]⟩ else none
    | .own o off len=>Dw sz by_ id ys off len o (hp o)
    | _=>none
  | none=>none
theorem Gj {P:Program} {hp:Am} {id:Nat} {t tx e:TypeId} {sz by_:Nat} {s x:AV} (he:Cz P t=some e) (hi:Rw P e=some (sz,by_)):Eo P hp id t tx s x=Um sz by_ hp id s (Mx P hp sz tx x):=by
  unfold Eo Um
  simp only [he,hi]
  rfl
theorem appS_nil {sz by_:Nat} {hp:Am} {id:Nat} {ys:List (List AV)} (h:ys.length≤34359738368) (hb:0<by_∧by_≤4096):Um sz by_ hp id (.val (.slice none 0 0)) (some ys)=some ⟨.own id 0 ys.length,[(id+1,none),(id,some (.row sz true ys))]⟩:=by
  have:ys.length*by_≤34359738368*4096:=Nat.mul_le_mul h hb.2
  simp only [Um]
  rw [if_pos ⟨by omega,hb.1⟩]
theorem appS_own {sz by_:Nat} {hp:Am} {id o off len:Nat} {ys:List (List AV)}:Um sz by_ hp id (.own o off len) (some ys)=Dw sz by_ id ys off len o (hp o):=(rfl)
theorem Bw {sz by_ id o len:Nat} {rows ys:List (List AV)} (hl:len=rows.length) (h:len+ys.length≤34359738368) (hb:0<by_∧by_≤4096):Dw sz by_ id ys 0 len o (some (.row sz true rows))=some ⟨.own id 0 (len+ys.length),[(o,none),(id,some (.row sz true (rows++ys)))]⟩:=by
  have:(len+ys.length)*by_≤34359738368*4096:=Nat.mul_le_mul h hb.2
  subst hl
  unfold Dw
  refine (if_pos ⟨rfl,by omega,by omega,hb.1⟩).trans ?_
  simp
theorem srcA_own {P:Program} {hp:Am} {sz tx o off len:Nat}:Mx P hp sz tx (.own o off len)=match (match hp o with
    | some (.row _ _ rows)=>if off+len≤rows.length then some ((rows.drop off).take len) else none
    | _=>none),Cz P tx with
  | some rows,some _=>if (∀r∈rows,r.length=sz) then some rows else none
  | _,_=>none:=(rfl)
theorem srcA_sl {P:Program} {hp:Am} {sz tx:Nat} {rows:List (List AV)}:Mx P hp sz tx (.sl rows)=if (∀r∈rows,r.length=sz)∧(Cz P tx).isSome=true then some rows else none:=by
  simp only [Mx,Ja]
  cases Cz P tx with
  | none=>simp
  | some e=>simp
theorem srcA_str {P:Program} {hp:Am} {sz tx:Nat} {s:ByteArray}:Mx P hp sz tx (.val (.string s))=if Gd P tx=true∧sz=1 then some (Ds s) else none:=(rfl)
end Go.Gm
namespace Go.Gm
def bl (s:ByteArray):List UInt8:=s.data.toList
theorem bl_len (s:ByteArray):(bl s).length=s.size:=(rfl)
theorem bl_inj {a b:ByteArray}:bl a=bl b↔a=b:=by
  constructor
  · intro h;cases a;cases b;simp [bl] at h;simp [h]
  · intro h;rw [h]
theorem bl_get (s:ByteArray) (i:Nat):s[i]?=(bl s)[i]?:=by
  unfold bl
  by_cases h:i<s.size
  · have h':i<s.data.toList.length:=h
    rw [getElem?_pos s i h,List.getElem?_eq_getElem h']
    rfl
  · have h':¬i<s.data.toList.length:=h
    rw [getElem?_neg s i h,List.getElem?_eq_none (by omega)]
theorem u8_ord (a b:UInt8):a<b∨a=b∨b<a:=by
  simp only [UInt8.lt_iff_toNat_lt,←UInt8.toNat_inj];omega
theorem less_eq:∀(x y:List UInt8),Op.bytesLess x y=true↔x<y
  | [],[]=>by simp [Op.bytesLess]
  | _::_,[]=>by simp [Op.bytesLess]
  | [],_::_=>by simp [Op.bytesLess]
  | a::x,b::y=>by
    have ih:=less_eq x y
    simp only [Op.bytesLess,Bool.or_eq_true,decide_eq_true_eq,Bool.and_eq_true,beq_iff_eq,ih]
    exact List.cons_lt_cons_iff.symm
theorem sLt_iff {a b:ByteArray}:Pv a b=true↔bl a<bl b:=by
  unfold Pv;rw [less_eq,ByteArray.toList_eq,ByteArray.toList_eq];rfl
theorem l_trans:∀{x y z:List UInt8},x<y→y<z→x<z
  | _,[],_,h,_=>by simp at h
  | [],_::_,[],_,h=>by simp at h
  | _::_,_::_,[],_,h=>by simp at h
  | [],_::_,_::_,_,_=>by simp
  | a::x,b::y,c::z,h,k=>by
    rw [List.cons_lt_cons_iff] at h k ⊢
    rcases h with h|⟨rfl,h⟩
    · rcases k with k|⟨rfl,k⟩
      · exact .inl (by simp only [UInt8.lt_iff_toNat_lt] at *;omega)
      · exact .inl h
    · rcases k with k|⟨rfl,k⟩
      · exact .inl k
      · exact .inr ⟨rfl,l_trans h k⟩
theorem sLt_trans {a b c:ByteArray} (h:Pv a b=true) (k:Pv b c=true):Pv a c=true:=sLt_iff.2 (l_trans (sLt_iff.1 h) (sLt_iff.1 k))
section
variable {P:Program} {ft:FuncId→List AV→Option AV} {fr:Operand→AV} {hp:Am} {id:Nat} {d:Option Tmp} {ty:TypeId} {pos:String} {af:Array Edge} {g:Option (Nat×Bool)}
abbrev U8 (b:UInt8):AV:=.val (.int .u8 (b.toNat:Int))
def idxO (P:Program) (t:TypeId) (x y:AV) (pl:Option AR):Option AR:=match x,y with
  | .val (.string s),.val (.int _ i)=>if Gd P t=true∧(idxE s i).isSome=true then idxE s i else pl
  | _,_=>pl
theorem aop_index {x y:Operand} {t:TypeId}:Et P ft fr hp id ⟨d,.index t x y,ty,pos,af,g⟩=idxO P t (fr x) (fr y) (Cx P fr ⟨d,.index t x y,ty,pos,af,g⟩):=by
  unfold idxO
  split
  · rename_i s k i hx hy
    split
    · rename_i hc
      obtain ⟨r,hr⟩:=Option.isSome_iff_exists.1 hc.2
      rw [aop_index_str hx hy hc.1 hr,hr]
    · rfl
  · rfl
theorem idxO_nat {t:TypeId} {s:ByteArray} {k:IntKind} {n:Nat} {pl:Option AR}:idxO P t (.val (.string s)) (.val (.int k (n:Int))) pl=if Gd P t=true∧((bl s)[n]?).isSome=true then ((bl s)[n]?).map fun b=>⟨U8 b,[]⟩ else pl:=by
  have h0:(0:Int)≤(n:Int):=by omega
  simp only [idxO,idxE,Int.toNat_natCast,bl_get,h0,if_true]
  cases (bl s)[n]?<;>simp
end
end Go.Gm
