import Derived.Orders
import Derived.Below
import Derived.WalkKit
import Derived.MapKept
import Derived.Lib.LaidTab
import Derived.Lib.ItoaNum
import Derived.Deep.AppendSrc
import Derived.Laws.MakeOwn
import Derived.Laws.Tables
import Derived.Lib.ConvBytes
import Derived.Laws.BytesArg
set_option linter.all false
namespace Go.Gm
inductive AV where
  | val (v:Value)
  | agg (cs:List AV)
  | tup (vs:List AV)
  | sl (rows:List (List AV))
  | fr (sz:Nat) (rows:List (List AV))
  | own (t off len:Nat)
  | ptr (t i off:Nat)
  | ip (cs:List AV)
  | clo (fn:Fn) (first captured:List AV)
  | ifc (ty:TypeId) (v:AV)
  | mp (t:Nat)
  | im (ks:List Value) (vs:List AV)
  | any
instance : Inhabited AV := ⟨.any⟩
inductive AObj where
  | row (sz:Nat) (mu:Bool) (rows:List (List AV))
  | mapo (ks:List Value) (vs:List AV)
def AObj.isMut:AObj→Bool
  | .row _ m _=>m
  | .mapo ..=>true
structure Loc where
  b:Nat
  st:Nat
  sz:Nat
  n:Nat
structure Env where
  w:World
  loc:Nat→Option Loc
  mo:Nat→Prop
  mt:Nat→Prop
  al:Nat→Prop
def KS (ens:Array MapEntry) (clock:Nat) (ks:List Value):Prop:=ens.toList.map (fun e=>e.key)=ks∧MapKept.Stamped ens clock
mutual
inductive Rel (E:Env):AV→Value→Prop
  | any (v:Value):Rel E .any v
  | val (v:Value):Rel E (.val v) v
  | agg {cs:List AV} {vs:List Value} (h:RelL E cs vs):Rel E (.agg cs) (.agg vs.toArray)
  | tup {cs:List AV} {vs:List Value} (h:RelL E cs vs):Rel E (.tup cs) (.tuple vs.toArray)
  | sl0 (a:Option Addr) (Cc:Nat):Rel E (.sl []) (.slice a 0 Cc)
  | sl {rows:List (List AV)} {b o Cc sz:Nat} {vs:List Value} (hb:b<E.w.heap.size) (hm:¬E.mt b) (hr:rows≠[]) (hsz:∀r∈rows,r.length=sz) (h0:0<sz)
      (hcap:rows.length≤Cc) (h1:∀v∈vs,v.oneCell'=true) (hc:∀k v,vs[k]?=some v→E.w.cell? ⟨b,o+k,none⟩=some v) (hl:RelL E rows.flatten vs):Rel E (.sl rows) (.slice (some ⟨b,o,none⟩) rows.length Cc)
  | own {t off len:Nat} {v:Value} (ha:E.al t) (h:∀l,E.loc t=some l→∃a Cc,v=.slice a len Cc∧0<l.sz∧l.st+(off+Cc)*l.sz=l.n∧len≤Cc∧(0<Cc→a=some ⟨l.b,l.st+off*l.sz,none⟩)):Rel E (.own t off len) v
  | ptr {t i off:Nat} {v:Value} (ha:E.al t) (h:∀l,E.loc t=some l→v=.pointer (some ⟨l.b,l.st+i*l.sz+off,none⟩)):Rel E (.ptr t i off) v
  | ip {cs:List AV} {b o:Nat} {vs:List Value} (hb:b<E.w.heap.size) (hm:¬E.mt b) (h1:∀v∈vs,v.oneCell'=true) (hc:∀k v,vs[k]?=some v→E.w.cell? ⟨b,o+k,none⟩=some v) (hl:RelL E cs vs):Rel E (.ip cs) (.pointer (some ⟨b,o,none⟩))
  | clo {fn:Fn} {f c:List AV} {f' c':List Value} (hf:RelL E f f') (hc:RelL E c c'):Rel E (.clo fn f c) (.func fn f'.toArray c'.toArray)
  | ifc {ty:TypeId} {u:AV} {v:Value} (h:Rel E u v):Rel E (.ifc ty u) (.iface ty v)
  | mp {t:Nat} {v:Value} (ha:E.al t) (h:∀l,E.loc t=some l→v=.map (some l.b)):Rel E (.mp t) v
  | im {ks:List Value} {us:List AV} {xs:List Value} {b clock:Nat} {ens:Array MapEntry} (hb:b<E.w.heap.size) (hm:¬E.mt b) (h:E.w.heap[b]?=some (.map ens clock)) (he:KS ens clock ks) (hx:ens.toList.map (fun e=>e.val)=xs) (hl:RelL E us xs):Rel E (.im ks us) (.map (some b))
  | im0:Rel E (.im [] []) (.map none)
inductive RelL (E:Env):List AV→List Value→Prop
  | nil:RelL E [] []
  | cons {c:AV} {cs:List AV} {v:Value} {vs:List Value} (h:Rel E c v) (hs:RelL E cs vs):RelL E (c::cs) (v::vs)
end
structure Ext (E E':Env):Prop where
  al:∀t,E.al t→E'.al t
  loc:∀t l,E.al t→E'.loc t=some l→E.loc t=some l
  size:E.w.heap.size≤E'.w.heap.size
  sub:∀b,E.mo b→E.mt b
  mt:∀b,b<E.w.heap.size→¬E.mt b→¬E'.mt b
  mo:∀b,b<E.w.heap.size→¬E.mo b→¬E'.mo b∧E'.w.heap[b]?=E.w.heap[b]?
theorem Ext.keep {E E':Env} (x:Ext E E') (b:Nat) (hb:b<E.w.heap.size) (hm:¬E.mt b):¬E'.mt b∧E'.w.heap[b]?=E.w.heap[b]? :=
  ⟨x.mt b hb hm,(x.mo b hb fun h=>hm (x.sub b h)).2⟩
theorem Ext.trans {E F G:Env} (h:Ext E F) (k:Ext F G):Ext E G :=
  ⟨fun t ht=>k.al t (h.al t ht),fun t l ht hl=>h.loc t l ht (k.loc t l (h.al t ht) hl),Nat.le_trans h.size k.size,h.sub,
   fun b hb hm=>k.mt b (Nat.lt_of_lt_of_le hb h.size) (h.mt b hb hm),
   fun b hb hm=>⟨(k.mo b (Nat.lt_of_lt_of_le hb h.size) (h.mo b hb hm).1).1,(k.mo b (Nat.lt_of_lt_of_le hb h.size) (h.mo b hb hm).1).2.trans (h.mo b hb hm).2⟩⟩
theorem Gi {w w':World} {b o:Nat} (h:w'.heap[b]?=w.heap[b]?):w'.cell? ⟨b,o,none⟩=w.cell? ⟨b,o,none⟩:=by
  unfold World.cell?;rw [h]
mutual
theorem Rel.ext {E E':Env} (x:Ext E E'):∀{u:AV} {v:Value},Rel E u v→Rel E' u v
  | _,_,.any v=>.any v
  | _,_,.val v=>.val v
  | _,_,.agg h=>.agg (RelL.ext x h)
  | _,_,.tup h=>.tup (RelL.ext x h)
  | _,_,.sl0 a c=>.sl0 a c
  | _,_,.sl hb hm hr hsz h0 hcap h1 hc hl =>
    .sl (Nat.lt_of_lt_of_le hb x.size) (x.keep _ hb hm).1 hr hsz h0 hcap h1 (fun k v hk=>(Gi (x.keep _ hb hm).2).trans (hc k v hk)) (RelL.ext x hl)
  | _,_,.own ha h=>.own (x.al _ ha) fun l hl=>h l (x.loc _ l ha hl)
  | _,_,.ptr ha h=>.ptr (x.al _ ha) fun l hl=>h l (x.loc _ l ha hl)
  | _,_,.ip hb hm h1 hc hl =>
    .ip (Nat.lt_of_lt_of_le hb x.size) (x.keep _ hb hm).1 h1 (fun k v hk=>(Gi (x.keep _ hb hm).2).trans (hc k v hk)) (RelL.ext x hl)
  | _,_,.clo hf hc=>.clo (RelL.ext x hf) (RelL.ext x hc)
  | _,_,.ifc h=>.ifc (Rel.ext x h)
  | _,_,.mp ha h=>.mp (x.al _ ha) fun l hl=>h l (x.loc _ l ha hl)
  | _,_,.im hb hm h he hx hl=>.im (Nat.lt_of_lt_of_le hb x.size) (x.keep _ hb hm).1 ((x.keep _ hb hm).2.trans h) he hx (RelL.ext x hl)
  | _,_,.im0=>.im0
theorem RelL.ext {E E':Env} (x:Ext E E'):∀{us:List AV} {vs:List Value},RelL E us vs→RelL E' us vs
  | _,_,.nil=>.nil
  | _,_,.cons h hs=>.cons (Rel.ext x h) (RelL.ext x hs)
end
theorem RelL.length {E:Env}:∀{us:List AV} {vs:List Value},RelL E us vs→us.length=vs.length
  | _,_,.nil=>rfl
  | _,_,.cons _ hs=>by simp [RelL.length hs]
theorem RelL.get {E:Env}:∀{us:List AV} {vs:List Value},RelL E us vs→∀(i:Nat) (u:AV),us[i]?=some u→∃v,vs[i]?=some v∧Rel E u v
  | _,_,.nil,i,u,h=>by simp at h
  | _,_,.cons h hs,0,u,hu=>by simp at hu;subst hu;exact ⟨_,rfl,h⟩
  | _,_,.cons h hs,i+1,u,hu=>by simpa using RelL.get hs i u (by simpa using hu)
theorem RelL.append {E:Env}:∀{us:List AV} {vs:List Value} {us':List AV} {vs':List Value},RelL E us vs→RelL E us' vs'→RelL E (us++us') (vs++vs')
  | _,_,_,_,.nil,k=>k
  | _,_,_,_,.cons h hs,k=>.cons h (RelL.append hs k)
theorem RelL.drop {E:Env}:∀(n:Nat) {us:List AV} {vs:List Value},RelL E us vs→RelL E (us.drop n) (vs.drop n)
  | 0,_,_,h=>by simpa using h
  | n+1,_,_,.nil=>.nil
  | n+1,_,_,.cons _ hs=>by simpa using RelL.drop n hs
theorem RelL.take {E:Env}:∀(n:Nat) {us:List AV} {vs:List Value},RelL E us vs→RelL E (us.take n) (vs.take n)
  | 0,_,_,_=>.nil
  | n+1,_,_,.nil=>.nil
  | n+1,_,_,.cons h hs=>.cons h (RelL.take n hs)
theorem RelL.split {E:Env}:∀{us us':List AV} {vs:List Value},RelL E (us++us') vs→∃v1 v2,vs=v1++v2∧RelL E us v1∧RelL E us' v2
  | [],_,vs,h=>⟨[],vs,rfl,.nil,h⟩
  | u::us,us',_,.cons h hs=>by
    obtain ⟨v1,v2,rfl,h1,h2⟩:=RelL.split (us:=us) hs
    exact ⟨_::v1,v2,rfl,.cons h h1,h2⟩
theorem Ec {sz:Nat}:∀{rows:List (List AV)},(∀r∈rows,r.length=sz)→rows.flatten.length=rows.length*sz
  | [],_=>by simp
  | r::rs,h=>by
    have:=Ec (rows:=rs) (fun x hx=>h x (by simp [hx]))
    simp [h r (by simp),this,Nat.succ_mul];omega
theorem Gg {sz:Nat}:∀{rows:List (List AV)} (_:∀r∈rows,r.length=sz) (n:Nat),(rows.drop n).flatten=rows.flatten.drop (n*sz)
  | rows,_,0=>by simp
  | [],_,n+1=>by simp
  | r::rs,h,n+1=>by
    have hr:=h r (by simp)
    have:=Gg (rows:=rs) (fun x hx=>h x (by simp [hx])) n
    simp only [List.drop_succ_cons,this,List.flatten_cons,Nat.succ_mul]
    rw [Nat.add_comm,←hr,List.drop_append];simp
theorem Gf {sz:Nat}:∀{rows:List (List AV)} (_:∀r∈rows,r.length=sz) (n:Nat),(rows.take n).flatten=rows.flatten.take (n*sz)
  | rows,_,0=>by simp
  | [],_,n+1=>by simp
  | r::rs,h,n+1=>by
    have hr:=h r (by simp)
    have:=Gf (rows:=rs) (fun x hx=>h x (by simp [hx])) n
    simp only [List.take_succ_cons,this,List.flatten_cons,Nat.succ_mul]
    rw [Nat.add_comm,←hr,List.take_append];simp;rw [List.take_of_length_le (by omega)]
theorem flatten_at {sz:Nat} {rows:List (List AV)} (h:∀r∈rows,r.length=sz) {i:Nat} {r:List AV} (hr:rows[i]?=some r):(rows.flatten.drop (i*sz)).take sz=r:=by
  rw [←Gg h,←Nat.one_mul sz,←Gf (fun x hx=>h x (List.mem_of_mem_drop hx))]
  have hi:i<rows.length:=(List.getElem?_eq_some_iff.1 hr).1
  have e:rows[i]=r:=(List.getElem?_eq_some_iff.1 hr).2
  rw [List.drop_eq_getElem_cons hi,e];simp
theorem row_cells {E:Env} {sz:Nat} {rows:List (List AV)} (h:∀r∈rows,r.length=sz) {vs:List Value} (hl:RelL E rows.flatten vs) {i:Nat} {r:List AV} (hr:rows[i]?=some r) :
    RelL E r ((vs.drop (i*sz)).take sz):=by
  have:=(hl.drop (i*sz)).take sz
  rwa [flatten_at h hr] at this
end Go.Gm
namespace Go.Gm
def tyN (P:Program) (s:String):Option TypeId:=P.types.findIdx? fun i=>match i.desc with
 | .named n _=>n == s
 | _=>false
def errT (P : Program) : Option Value := (tyN P "internal/reflectlite.rtype").bind fun T => (tyN P "error").map fun E => .iface T (.agg #[.pointer (some ⟨P.globals.size, E, none⟩)])
def libTabs (P : Program) : List (String × (Array Value → Prop)) := [("internal/strconv.uint64pow10", fun cs => cs = (Lib.pow10Tab.map fun z => Value.int .u64 z).toArray), ("internal/bytealg.MaxLen", fun cs => ∃ m : Int, cs[0]? = some (.int .i64 m)), ("errors.errorType", fun cs => cs[0]? = errT P ∧ (errT P).isSome = true)]
def tabs (P:Program) (g:Nat):Option (Array Value→Prop):=((libTabs P).find? fun x=>P.globalNamed x.1 == some g).map (·.2)
def TabH (P:Program) (m0:Nat→Prop) (w:World):Prop:=∀g p,tabs P g=some p→g<w.heap.size∧¬m0 g∧∃cs t fz,w.heap[g]?=some (.cells cs t fz)∧p cs
structure Ghost (P:Program) where
 w0:World
 m0:Nat→Prop
 m1:Nat→Prop
 m1lt:∀b,m1 b→b<w0.heap.size
 n0:Nat
 l0:Nat→Option Loc
 n8:n0≤8
 tab:TabH P m0 w0
abbrev Am:=Nat→Option AObj
def Cs (hp:Am) (loc:Nat→Option Loc) (b:Nat):Prop:=∃t o l,hp t=some o∧o.isMut=true∧loc t=some l∧l.b=b∧l.st<l.n
def Bv (m1:Nat→Prop) (hp:Am) (al:Nat→Prop) (loc:Nat→Option Loc) (w:World):Env:=⟨w,loc,Cs hp loc,fun b=>Cs hp loc b∨m1 b,al⟩
theorem Fh {m1:Nat→Prop} {hp hp':Am} {al al':Nat→Prop} {loc loc':Nat→Option Loc} {w w':World} (h1:∀t,al t→al' t) (h2:∀t l,al t→loc' t=some l→loc t=some l) (h3:w.heap.size≤w'.heap.size)
  (h4:∀b,b<w.heap.size→Cs hp' loc' b→Cs hp loc b) (h5:∀b,b<w.heap.size→¬Cs hp loc b→w'.heap[b]?=w.heap[b]?):Ext (Bv m1 hp al loc w) (Bv m1 hp' al' loc' w') :=
 ⟨h1,h2,h3,fun _ h=>.inl h,fun b hb hn hc=>hn (hc.elim (fun h=>.inl (h4 b hb h)) .inr),fun b hb hn=>⟨fun hc=>hn (h4 b hb hc),h5 b hb hn⟩⟩
def ObjAt (E:Env) (l:Loc):AObj→Prop
 | .row sz _ rows=>l.sz=sz∧0<sz∧(∀r∈rows,r.length=sz)∧l.st+rows.length*sz≤l.n∧(∃m,l.n=l.st+m*sz) ∧
   (l.st<l.n→∃c e fz vs,E.w.heap[l.b]?=some (.cells c e fz)∧c.size=l.n ∧
   RelL E rows.flatten vs∧(∀v∈vs,v.oneCell'=true)∧(∀k v,vs[k]?=some v→c[l.st+k]?=some v)∧(∀k,(k<l.n∨1<l.sz∧k=l.n)→¬(fz.1≤k∧k<fz.2)))
 | .mapo ks us=>l.st<l.n∧∃ens clock xs,E.w.heap[l.b]?=some (.map ens clock)∧KS ens clock ks∧ens.toList.map (fun e=>e.val)=xs∧RelL E us xs
theorem ObjAt.ext {E E':Env} (x:Ext E E') {l:Loc} (hb:l.st<l.n→E'.w.heap[l.b]?=E.w.heap[l.b]?):∀{o:AObj},ObjAt E l o→ObjAt E' l o
 | .row sz m rows,⟨h1,h2,h3,h6,h11,h⟩=>⟨h1,h2,h3,h6,h11,fun hlt=>by
  obtain ⟨c,e,fz,vs,h4,h5,h7,h8,h9,h10⟩:=h hlt
  exact ⟨c,e,fz,vs,(hb hlt).trans h4,h5,h7.ext x,h8,h9,h10⟩⟩
 | .mapo ..,⟨h0,ens,clock,xs,h1,h2,h3,h4⟩=>⟨h0,ens,clock,xs,(hb h0).trans h1,h2,h3,h4.ext x⟩
theorem ObjAt.lt {E:Env} {l:Loc} (hlt:l.st<l.n):∀{o:AObj},ObjAt E l o→l.b<E.w.heap.size
 | .row _ _ _,⟨_,_,_,_,_,h⟩=>by obtain ⟨c,e,fz,vs,h,_⟩:=h hlt;exact (Array.getElem?_eq_some_iff.1 h).1
 | .mapo ..,⟨_,_,_,_,h,_⟩=>(Array.getElem?_eq_some_iff.1 h).1
structure Mem {P:Program} (G:Ghost P) (hp:Am) (al:Nat→Prop) (loc:Nat→Option Loc) (w:World):Prop where
 obj:∀t o,hp t=some o→∃l,loc t=some l∧ObjAt (Bv G.m1 hp al loc w) l o
 none_:∀t,hp t=none→loc t=none
 al_:∀t l,loc t=some l→al t
 inj:∀t t' l l',loc t=some l→loc t'=some l'→l.st<l.n→l'.st<l'.n→l.b=l'.b→t=t'
 os:w.os=G.w0.os
 tape:w.tape=G.w0.tape
 output:w.output=G.w0.output
 size:G.w0.heap.size≤w.heap.size
 keep:∀b,b<G.w0.heap.size→¬G.m0 b→w.heap[b]?=G.w0.heap[b]?
 muts:∀b,Cs hp loc b→b<G.w0.heap.size→G.m0 b
 fgn:∀t l,loc t=some l→l.st<l.n→¬G.m1 l.b
 aln:∀t,t<G.n0→al t
 idn:∀t l,t<G.n0→loc t=some l→G.l0 t=some l
theorem Mem.tab {P:Program} {G:Ghost P} {hp:Am} {al:Nat→Prop} {loc:Nat→Option Loc} {w:World} (h:Mem G hp al loc w):TabH P (Cs hp loc) w:=fun g cs hg=>by
 obtain ⟨h1,h2,c,t,fz,h3,h4⟩:=G.tab g cs hg
 exact ⟨Nat.lt_of_lt_of_le h1 h.size,fun hm=>h2 (h.muts g hm h1),c,t,fz,(h.keep g h1 h2).trans h3,h4⟩
theorem TabH.sub {P:Program} {m m':Nat→Prop} {w:World} (h:TabH P m w) (hm:∀b,m' b→m b):TabH P m' w:=fun g cs hg=>by
 obtain ⟨h1,h2,h3⟩:=h g cs hg
 exact ⟨h1,fun h=>h2 (hm g h),h3⟩
theorem Mem.lt {P:Program} {G:Ghost P} {hp:Am} {al:Nat→Prop} {loc:Nat→Option Loc} {w:World} (h:Mem G hp al loc w) {t:Nat} {l:Loc} (hl:loc t=some l) (hlt:l.st<l.n):l.b<w.heap.size:=by
 cases ho:hp t with
 | none=>rw [h.none_ t ho] at hl;cases hl
 | some o=>obtain ⟨l',hl',hob⟩:=h.obj t o ho;rw [hl] at hl';cases hl';exact hob.lt hlt
theorem Gu (w:World) (o:Obj) (b:Nat) (h:b<w.heap.size):(w.alloc o).heap[b]?=w.heap[b]?:=by
 show (w.heap.push o)[b]?=_
 rw [Array.getElem?_push_lt h,Array.getElem?_eq_getElem h]
theorem Mem.change {P:Program} {G:Ghost P} {hp hp':Am} {al al':Nat→Prop} {loc loc':Nat→Option Loc} {w w':World} (h:Mem G hp al loc w) (x:Ext (Bv G.m1 hp al loc w) (Bv G.m1 hp' al' loc' w'))
  (hobj:∀t o,hp' t=some o→(hp t=some o∧loc' t=loc t∧∀l,loc t=some l→l.st<l.n→w'.heap[l.b]?=w.heap[l.b]?)∨∃l,loc' t=some l∧ObjAt (Bv G.m1 hp' al' loc' w') l o)
  (hnone:∀t,hp' t=none→loc' t=none) (hal:∀t l,loc' t=some l→al' t)
  (hinj:∀t t' l l',loc' t=some l→loc' t'=some l'→l.st<l.n→l'.st<l'.n→l.b=l'.b→t=t')
  (hos:w'.os=w.os) (htape:w'.tape=w.tape) (hout:w'.output=w.output)
  (hmut:∀b,Cs hp' loc' b→Cs hp loc b∨w.heap.size≤b)
  (hnb:∀t l,loc' t=some l→l.st<l.n→(∃t0 l0,loc t0=some l0∧l0.st<l0.n∧l0.b=l.b)∨w.heap.size≤l.b):Mem G hp' al' loc' w':=by
 refine ⟨?_,hnone,hal,hinj,hos.trans h.os,htape.trans h.tape,hout.trans h.output,Nat.le_trans h.size x.size,?_,?_,?_,fun t ht=>x.al t (h.aln t ht),fun t l ht hl=>h.idn t l ht (x.loc t l (h.aln t ht) hl)⟩
 ·intro t o ho
  rcases hobj t o ho with ⟨h1,h2,h3⟩|h1
  ·obtain ⟨l,hl,hob⟩:=h.obj t o h1
   exact ⟨l,h2.trans hl,hob.ext x (h3 l hl)⟩
  ·exact h1
 ·intro b hb hm
  have hlt:b<w.heap.size:=Nat.lt_of_lt_of_le hb h.size
  exact ((x.mo b hlt fun hmt=>hm (h.muts b hmt hb)).2).trans (h.keep b hb hm)
 ·intro b hb hlt
  rcases hmut b hb with h1|h1
  ·exact h.muts b h1 hlt
  ·exact absurd (Nat.lt_of_lt_of_le hlt h.size) (by omega)
 ·intro t l hl hpos hm
  rcases hnb t l hl hpos with ⟨t0,l0,h1,h2,h3⟩|h1
  ·exact h.fgn t0 l0 h1 h2 (h3▸hm)
  ·exact absurd (G.m1lt _ hm) (by have:=h.size;omega)
theorem Ext.world {P:Program} {G:Ghost P} {hp:Am} {al:Nat→Prop} {loc:Nat→Option Loc} {w w':World} (hh:w'.heap=w.heap):Ext (Bv G.m1 hp al loc w) (Bv G.m1 hp al loc w') :=
 Fh (fun _ h=>h) (fun _ _ _ h=>h) (by simp [hh]) (fun _ _ h=>h) (fun b _ _=>by simp [hh])
theorem Mem.world {P:Program} {G:Ghost P} {hp:Am} {al:Nat→Prop} {loc:Nat→Option Loc} {w w':World} (h:Mem G hp al loc w) (hh:w'.heap=w.heap) (hos:w'.os=w.os) (htape:w'.tape=w.tape) (hout:w'.output=w.output):Mem G hp al loc w' :=
 h.change (Ext.world hh) (fun t o ho=>.inl ⟨ho,rfl,fun l _ _=>by rw [hh]⟩) h.none_ h.al_ h.inj hos htape hout (fun b hb=>.inl hb) (fun t l h1 h2=>.inl ⟨t,l,h1,h2,rfl⟩)
theorem Mem.more {P:Program} {G:Ghost P} {hp:Am} {al al':Nat→Prop} {loc:Nat→Option Loc} {w:World} (h:Mem G hp al loc w) (ha:∀t,al t→al' t):Mem G hp al' loc w∧Ext (Bv G.m1 hp al loc w) (Bv G.m1 hp al' loc w):=by
 have x:Ext (Bv G.m1 hp al loc w) (Bv G.m1 hp al' loc w):=Fh ha (fun _ _ _ h=>h) (Nat.le_refl _) (fun _ _ h=>h) (fun _ _ _=>rfl)
 exact ⟨h.change x (fun t o ho=>.inl ⟨ho,rfl,fun _ _ _=>rfl⟩) h.none_ (fun t l hl=>ha t (h.al_ t l hl)) h.inj rfl rfl rfl (fun b hb=>.inl hb) (fun t l h1 h2=>.inl ⟨t,l,h1,h2,rfl⟩),x⟩
def Ag {α:Type} (f:Nat→α) (t:Nat) (v:α):Nat→α:=fun t'=>if t'=t then v else f t'
theorem Ba {α:Type} (f:Nat→α) (t:Nat) (v:α):Ag f t v t=v:=by simp [Ag]
theorem An {α:Type} (f:Nat→α) {t t':Nat} (v:α) (h:t'≠t):Ag f t v t'=f t':=by simp [Ag,h]
section
variable {P:Program} {G:Ghost P} {hp:Am} {al:Nat→Prop} {loc:Nat→Option Loc} {w:World}
theorem Ext.alloc (h:Mem G hp al loc w) {t:Nat} (ht:¬al t) (o:Obj) (ob:AObj) (l:Loc) (hl:l.b=w.heap.size):Ext (Bv G.m1 hp al loc w) (Bv G.m1 (Ag hp t (some ob)) (Ag al t True) (Ag loc t (some l)) (w.alloc o)):=by
 refine Fh (fun t' h'=>?_) (fun t' l' ha hl'=>?_) (by simp) (fun b hb=>?_) (fun b hb _=>Gu w o b hb)
 ·simp only [Ag];split<;>simp_all
 ·have hne:t'≠t:=fun e=>ht (e▸ha)
  simpa [Ag,hne] using hl'
 ·rintro ⟨t',o',l',h1,h2,h3,h4,h5⟩
  simp only [Ag] at h1 h3
  split at h3
  ·cases h3;omega
  ·rename_i hne;rw [if_neg hne] at h1;exact ⟨t',o',l',h1,h2,h3,h4,h5⟩
theorem Mem.alloc (h:Mem G hp al loc w) {t:Nat} (ht:¬al t) (o:Obj) (ob:AObj) (l:Loc) (hl:l.b=w.heap.size)
  (hob:ObjAt (Bv G.m1 (Ag hp t (some ob)) (Ag al t True) (Ag loc t (some l)) (w.alloc o)) l ob) :
  Mem G (Ag hp t (some ob)) (Ag al t True) (Ag loc t (some l)) (w.alloc o):=by
 refine h.change (Ext.alloc h ht o ob l hl) (fun t' o' ho=>?_) (fun t' ho=>?_) (fun t' l' hl'=>?_) (fun t1 t2 l1 l2 h1 h2 hp1 hp2 hb=>?_) rfl rfl rfl (fun b hb=>?_) (fun t' l' h1 h2=>?_)
 ·by_cases e:t'=t
  ·subst e;rw [Ba] at ho;cases ho;exact .inr ⟨l,Ba ..,hob⟩
  ·rw [An _ _ e] at ho
   exact .inl ⟨ho,An _ _ e,fun l' hl' hlt=>Gu w o _ (h.lt hl' hlt)⟩
 ·by_cases e:t'=t
  ·subst e;rw [Ba] at ho;cases ho
  ·rw [An _ _ e] at ho;rw [An _ _ e];exact h.none_ t' ho
 ·by_cases e:t'=t
  ·subst e;simp [Ag]
  ·rw [An _ _ e] at hl';rw [An _ _ e];exact h.al_ t' l' hl'
 ·by_cases e1:t1=t<;>by_cases e2:t2=t
  ·rw [e1,e2]
  ·rw [e1,Ba] at h1;rw [An _ _ e2] at h2;cases h1;have:=h.lt h2 hp2;omega
  ·rw [e2,Ba] at h2;rw [An _ _ e1] at h1;cases h2;have:=h.lt h1 hp1;omega
  ·rw [An _ _ e1] at h1;rw [An _ _ e2] at h2;exact h.inj _ _ _ _ h1 h2 hp1 hp2 hb
 ·obtain ⟨t',o',l',h1,h2,h3,h4,h5⟩:=hb
  by_cases e:t'=t
  ·subst e;rw [Ba] at h3;cases h3;right;omega
  ·rw [An _ _ e] at h1 h3;left;exact ⟨t',o',l',h1,h2,h3,h4,h5⟩
 ·by_cases e:t'=t
  ·subst e;rw [Ba] at h1;cases h1;right;omega
  ·rw [An _ _ e] at h1;exact .inl ⟨t',l',h1,h2,rfl⟩
theorem Mem.write (h:Mem G hp al loc w) {t:Nat} {ob ob':AObj} {l:Loc} (ht:hp t=some ob) (hm:ob.isMut=true) (hm':ob'.isMut=true) (hl:loc t=some l) (hlt:l.st<l.n) {w':World}
  (hsize:w'.heap.size=w.heap.size) (hother:∀b,b≠l.b→w'.heap[b]?=w.heap[b]?) (hos:w'.os=w.os) (htape:w'.tape=w.tape) (hout:w'.output=w.output)
  (hob:Ext (Bv G.m1 hp al loc w) (Bv G.m1 (Ag hp t (some ob')) al loc w')→ObjAt (Bv G.m1 (Ag hp t (some ob')) al loc w') l ob') :
  Mem G (Ag hp t (some ob')) al loc w'∧Ext (Bv G.m1 hp al loc w) (Bv G.m1 (Ag hp t (some ob')) al loc w'):=by
 have hmt:∀b,Cs (Ag hp t (some ob')) loc b↔Cs hp loc b:=fun b=>by
  constructor
  ·rintro ⟨t',o',l',h1,h2,h3,h4,h5⟩
   by_cases e:t'=t
   ·subst e;exact ⟨t',ob,l',ht,hm,h3,h4,h5⟩
   ·rw [An _ _ e] at h1;exact ⟨t',o',l',h1,h2,h3,h4,h5⟩
  ·rintro ⟨t',o',l',h1,h2,h3,h4,h5⟩
   by_cases e:t'=t
   ·subst e;exact ⟨t',ob',l',Ba ..,hm',h3,h4,h5⟩
   ·exact ⟨t',o',l',by rw [An _ _ e];exact h1,h2,h3,h4,h5⟩
 have x:Ext (Bv G.m1 hp al loc w) (Bv G.m1 (Ag hp t (some ob')) al loc w') :=
  Fh (fun _ h=>h) (fun _ _ _ h=>h) (by simp [hsize]) (fun b _ hc=>(hmt b).1 hc) (fun b hb hn=>hother b fun e=>hn ⟨t,ob,l,ht,hm,hl,e.symm,hlt⟩)
 refine ⟨h.change x (fun t' o' ho=>?_) (fun t' ho=>?_) h.al_ h.inj hos htape hout (fun b hb=>.inl ((hmt b).1 hb)) (fun t l h1 h2=>.inl ⟨t,l,h1,h2,rfl⟩),x⟩
 ·by_cases e:t'=t
  ·subst e;rw [Ba] at ho;cases ho;exact .inr ⟨l,hl,hob x⟩
  ·rw [An _ _ e] at ho
   exact .inl ⟨ho,rfl,fun l' hl' hlt'=>hother _ fun eb=>e (h.inj _ _ _ _ hl' hl hlt' hlt eb)⟩
 ·by_cases e:t'=t
  ·subst e;rw [Ba] at ho;cases ho
  ·rw [An _ _ e] at ho;exact h.none_ t' ho
theorem Mem.drop (h:Mem G hp al loc w) (t:Nat):Mem G (Ag hp t none) al (Ag loc t none) w∧Ext (Bv G.m1 hp al loc w) (Bv G.m1 (Ag hp t none) al (Ag loc t none) w):=by
 have hmt:∀b,Cs (Ag hp t none) (Ag loc t none) b→Cs hp loc b:=by
  rintro b ⟨t',o',l',h1,h2,h3,h4,h5⟩
  by_cases e:t'=t
  ·subst e;rw [Ba] at h1;cases h1
  ·rw [An _ _ e] at h1 h3;exact ⟨t',o',l',h1,h2,h3,h4,h5⟩
 have x:Ext (Bv G.m1 hp al loc w) (Bv G.m1 (Ag hp t none) al (Ag loc t none) w):=by
  refine Fh (fun _ h=>h) (fun t' l' ha hl'=>?_) (Nat.le_refl _) (fun b _=>hmt b) (fun _ _ _=>rfl)
  by_cases e:t'=t
  ·subst e;simp [Ag] at hl'
  ·simpa [Ag,e] using hl'
 refine ⟨h.change x (fun t' o' ho=>?_) (fun t' ho=>?_) (fun t' l' hl'=>?_) (fun t1 t2 l1 l2 h1 h2 hp1 hp2 hb=>?_) rfl rfl rfl (fun b hb=>.inl (hmt b hb)) (fun t' l' h1 h2=>?_),x⟩
 ·by_cases e:t'=t
  ·subst e;rw [Ba] at ho;cases ho
  ·rw [An _ _ e] at ho;exact .inl ⟨ho,An _ _ e,fun _ _ _=>rfl⟩
 ·by_cases e:t'=t
  ·subst e;exact Ba ..
  ·rw [An _ _ e] at ho;rw [An _ _ e];exact h.none_ t' ho
 ·by_cases e:t'=t
  ·subst e;rw [Ba] at hl';cases hl'
  ·rw [An _ _ e] at hl';exact h.al_ t' l' hl'
 ·by_cases e1:t1=t
  ·subst e1;rw [Ba] at h1;cases h1
  ·by_cases e2:t2=t
   ·subst e2;rw [Ba] at h2;cases h2
   ·rw [An _ _ e1] at h1;rw [An _ _ e2] at h2;exact h.inj _ _ _ _ h1 h2 hp1 hp2 hb
 ·by_cases e:t'=t
  ·subst e;rw [Ba] at h1;cases h1
  ·rw [An _ _ e] at h1;exact .inl ⟨t',l',h1,h2,rfl⟩
end
end Go.Gm
namespace Go.Gm
def Fk (fr:Nat→AV):Operand→AV
 | .tmp t=>fr t
 | .const v=>.val v
 | .global g=>.val (.pointer (some ⟨g,0,none⟩))
 | .func f=>.val (.func (.func f) #[] #[])
structure AR where
 v:AV
 eff:List (Nat×Option AObj):=[]
def Be (hp:Am):List (Nat×Option AObj)→Am
 | []=>hp
 | (t,o)::r=>Be (Ag hp t o) r
def Ku (al:Nat→Prop) (id:Nat):Nat→Prop:=fun t=>al t∨(id≤t∧t<id+8)
def Fresh (al:Nat→Prop) (id:Nat):Prop:=∀t,id≤t→t<id+8→¬al t
def Ix (P:Program) (s:Sem Next) (G:Ghost P) (hp:Am) (al:Nat→Prop) (loc:Nat→Option Loc) (w:World) (id:Nat) (r:AR):Prop :=
 ∃nx v w' loc',s.run P w=.ok nx w'∧(nx=.value v∨(nx=.skip∧v=undef))∧Mem G (Be hp r.eff) (Ku al id) loc' w' ∧
  Ext (Bv G.m1 hp al loc w) (Bv G.m1 (Be hp r.eff) (Ku al id) loc' w')∧Rel (Bv G.m1 (Be hp r.eff) (Ku al id) loc' w') r.v v
section
variable {P:Program} {G:Ghost P} {hp:Am} {al:Nat→Prop} {loc:Nat→Option Loc} {w:World} {id:Nat}
theorem alR_of {t:Nat} (h:al t):Ku al id t:=.inl h
theorem Cg {s:Sem Next} {v:Value} {u:AV} (hM:Mem G hp al loc w) (hr:s.run P w=.ok (.value v) w) (hu:Rel (Bv G.m1 hp al loc w) u v):Ix P s G hp al loc w id ⟨u,[]⟩:=by
 obtain ⟨hm,x⟩:=hM.more (al':=Ku al id) (fun t ht=>alR_of ht)
 exact ⟨_,v,w,loc,hr,.inl rfl,hm,x,hu.ext x⟩
def Nu (P:Program) (t:TypeId):Option Nat:=(P.info? t).map (·.size)
def isAggD:TypeDesc→Bool
 | .struct _|.array _ _=>true
 | _=>false
def Ns (P:Program) (t:TypeId):Option Bool:=(P.underlying t).map isAggD
def Hc (P:Program) (t:TypeId) (f:Nat):Option (Nat×TypeId) :=
 match P.underlying t with
 | some (.struct fs)=>(fs[f]?).map fun x=>(x.offset,x.type)
 | _=>none
theorem Ef {t:TypeId} {n:Nat} (h:Nu P t=some n):(sizeOf t).run P w=.ok n w:=by
 unfold Nu at h
 cases hi:P.info? t with
 | none=>rw [hi] at h;cases h
 | some i=>rw [hi] at h;cases h;simp [sizeOf,typeInfo,hi]
theorem run_isAgg {t:TypeId} {b:Bool} (h:Ns P t=some b):(isAgg t).run P w=.ok b w:=by
 unfold Ns at h
 cases hi:P.underlying t with
 | none=>rw [hi] at h;cases h
 | some d=>rw [hi] at h;cases h;cases d<;>simp [isAgg,underlying,hi,isAggD]
theorem Fx (b o n:Nat):(⟨b,o,none⟩:Addr).add n=⟨b,o+n,none⟩:=by unfold Addr.add;split<;>simp_all
def CellsIn (w:World) (b o:Nat) (vs:List Value):Prop:=∀k v,vs[k]?=some v→w.cell? ⟨b,o+k,none⟩=some v
theorem CellsIn.drop {b o:Nat} {vs:List Value} (h:CellsIn w b o vs) (n:Nat):CellsIn w b (o+n) (vs.drop n):=fun k v hk=>by
 rw [List.getElem?_drop] at hk
 have:=h _ _ hk
 rwa [←Nat.add_assoc] at this
theorem CellsIn.take {b o:Nat} {vs:List Value} (h:CellsIn w b o vs) (n:Nat):CellsIn w b o (vs.take n):=fun k v hk=>by
 rw [List.getElem?_take] at hk
 split at hk
 ·exact h _ _ hk
 ·cases hk
theorem Nh {b o n:Nat} {vs:List Value} (h:CellsIn w b o vs) (hn:vs.length=n):(loadCells ⟨b,o,none⟩ n).run P w=.ok vs.toArray w:=by
 have:=run_loadCells_list (P:=P) (w:=w) ⟨b,o,none⟩ vs (fun j v hj=>by rw [Fx];exact h j v hj)
 rwa [hn] at this
def mkv (P:Program) (t:TypeId) (cs:List AV):Option AV :=
 match Ns P t,Nu P t with
 | some true,some n=>if n≤cs.length then some (.agg (cs.take n)) else none
 | some false,some _=>cs.head?
 | _,_=>none
theorem Pw {t:TypeId} {b o:Nat} {E:Env} {cs:List AV} {vs:List Value} {u:AV} (hu:mkv P t cs=some u) (hl:RelL E cs vs) (hc:CellsIn w b o vs) :
  ∃v,(loadVar t ⟨b,o,none⟩).run P w=.ok v w∧Rel E u v:=by
 unfold mkv at hu
 split at hu
 ·rename_i n ha hs
  split at hu
  ·rename_i hn
   cases hu
   refine ⟨.agg (vs.take n).toArray,?_,.agg (hl.take n)⟩
   have hlen:(vs.take n).length=n:=by rw [List.length_take,←hl.length];omega
   simp [loadVar,run_isAgg ha,Ef hs,Nh (P:=P) (hc.take n) hlen]
  ·cases hu
 ·rename_i n ha hs
  obtain ⟨v,hv,hr⟩:=hl.get 0 u (by simpa [List.head?_eq_getElem?] using hu)
  refine ⟨v,?_,hr⟩
  have:=hc 0 v hv
  simp only [Nat.add_zero] at this
  simp [loadVar,run_isAgg ha,run_load,this]
 ·cases hu
def Nc (hp:Am):AV→Option (List AV)
 | .ptr t i off=>match hp t with
  | some (.row _ _ rows)=>(rows[i]?).map (·.drop off)
  | _=>none
 | .ip cs=>some cs
 | _=>none
theorem mem_loc {t sz:Nat} {m:Bool} {rows:List (List AV)} (hM:Mem G hp al loc w) (h:hp t=some (.row sz m rows)) :
  ∃l,loc t=some l∧l.sz=sz∧0<sz∧(∀r∈rows,r.length=sz)∧l.st+rows.length*sz≤l.n∧(∃m,l.n=l.st+m*sz):=by
 obtain ⟨l,hl,h1,h2,h3,h6,h11,_⟩:=hM.obj t _ h
 exact ⟨l,hl,h1,h2,h3,h6,h11⟩
theorem Tr {t sz:Nat} {m:Bool} {rows:List (List AV)} (hM:Mem G hp al loc w) (h:hp t=some (.row sz m rows)) (hne:rows≠[]) :
  ∃l c e fz vs,loc t=some l∧l.sz=sz∧0<sz∧(∀r∈rows,r.length=sz)∧w.heap[l.b]?=some (.cells c e fz)∧c.size=l.n∧l.st+rows.length*sz≤l.n ∧
   RelL (Bv G.m1 hp al loc w) rows.flatten vs∧(∀v∈vs,v.oneCell'=true)∧CellsIn w l.b l.st vs∧(∀k v,vs[k]?=some v→c[l.st+k]?=some v)∧(∀k,(k<l.n∨1<l.sz∧k=l.n)→¬(fz.1≤k∧k<fz.2))∧(∃m,l.n=l.st+m*sz)∧l.st<l.n:=by
 obtain ⟨l,hl,h1,h2,h3,h6,h11,hh⟩:=hM.obj t _ h
 have hlt:l.st<l.n:=by
  have:0<rows.length:=List.length_pos_iff.2 hne
  have:=Nat.mul_pos this h2
  omega
 obtain ⟨c,e,fz,vs,h4,h5,h7,h8,h9,h10⟩:=hh hlt
 refine ⟨l,c,e,fz,vs,hl,h1,h2,h3,h4,h5,h6,h7,h8,fun k v hk=>?_,h9,h10,h11,hlt⟩
 have:=h9 k v hk
 simp only [World.cell?,show w.heap[l.b]?=some (.cells c e fz) from h4]
 simpa using this
theorem mem_cells {u:AV} {cs:List AV} {v:Value} (hM:Mem G hp al loc w) (hr:Rel (Bv G.m1 hp al loc w) u v) (h:Nc hp u=some cs) :
  ∃b o vs,v=.pointer (some ⟨b,o,none⟩)∧RelL (Bv G.m1 hp al loc w) cs vs∧CellsIn w b o vs∧(∀v∈vs,v.oneCell'=true):=by
 unfold Nc at h
 split at h
 ·rename_i t i off
  split at h
  ·rename_i sz m rows ht
   cases hri:rows[i]? with
   | none=>rw [hri] at h;cases h
   | some r =>
    obtain ⟨l,c,e,fz,vs,hl,h1,h2,h3,h4,h5,h6,h7,h8,h9,_⟩:=Tr hM ht (fun e=>by rw [e] at hri;simp at hri)
    rw [hri] at h;simp at h;subst h
    cases hr with
    | ptr ha hh =>
     have hv:=hh l hl
     refine ⟨l.b,l.st+i*l.sz+off,(((vs.drop (i*sz)).take sz).drop off),hv,(row_cells h3 h7 hri).drop off,?_,fun v hv=>h8 v ?_⟩
     ·rw [h1];exact ((h9.drop (i*sz)).take sz).drop off
     ·exact List.mem_of_mem_drop (List.mem_of_mem_take (List.mem_of_mem_drop hv))
  ·cases h
 ·rename_i cs'
  cases h
  cases hr with
  | ip hb hm h1 hc hl=>exact ⟨_,_,_,rfl,hl,hc,h1⟩
 ·cases h
theorem does_load {t:TypeId} {u:AV} {cs:List AV} {x:AV} {a:Value} (hM:Mem G hp al loc w) (hr:Rel (Bv G.m1 hp al loc w) x a) (hc:Nc hp x=some cs) (hu:mkv P t cs=some u) :
  Ix P (do pure (.value (←Instr.loadAt t a))) G hp al loc w id ⟨u,[]⟩:=by
 obtain ⟨b,o,vs,rfl,hl,hci,_⟩:=mem_cells hM hr hc
 obtain ⟨v,hv,hrel⟩:=Pw (P:=P) hu hl hci
 exact Cg hM (by simp [Instr.loadAt,Instr.sureAddr,hv]) hrel
def fieldP (P:Program) (s f:Nat):AV→Option AV
 | .ptr t i off=>match Hc P s f with
  | some (o,ft)=>match Nu P ft with
   | some (_+1)=>some (.ptr t i (off+o))
   | _=>none
  | none=>none
 | .ip cs=>match Hc P s f with
  | some (o,ft)=>match Nu P ft with
   | some (_+1)=>some (.ip (cs.drop o))
   | _=>none
  | none=>none
 | _=>none
theorem Wx {s f o n:Nat} {ft:TypeId} {b of:Nat} (h:Hc P s f=some (o,ft)) (hs:Nu P ft=some (n+1)) :
  (Instr.fieldAt s (.pointer (some ⟨b,of,none⟩)) f).run P w=.ok (.pointer (some ⟨b,of+o,none⟩)) w:=by
 unfold Hc at h
 split at h
 ·rename_i fs hu
  cases hf:fs[f]? with
  | none=>rw [hf] at h;cases h
  | some x =>
   rw [hf] at h;simp at h;obtain ⟨rfl,rfl⟩:=h
   simp [Instr.fieldAt,underlying,hu,hf,Instr.sureAddr,fieldPlace,Ef hs,Fx]
 ·cases h
theorem does_fieldAddr {s f:Nat} {u x:AV} {a:Value} (hM:Mem G hp al loc w) (hr:Rel (Bv G.m1 hp al loc w) x a) (hu:fieldP P s f x=some u) (hlive:∀t i off,x=.ptr t i off→(hp t).isSome=true) :
  Ix P (do pure (.value (←Instr.fieldAt s a f))) G hp al loc w id ⟨u,[]⟩:=by
 unfold fieldP at hu
 split at hu
 ·rename_i t i off
  split at hu
  ·rename_i o ft hf
   split at hu
   ·rename_i n hs
    cases hu
    cases hr with
    | ptr ha hh =>
     have hsome:=hlive t i off rfl
     cases ho:hp t with
     | none=>rw [ho] at hsome;cases hsome
     | some ob =>
      obtain ⟨l,hl,_⟩:=hM.obj t ob ho
      have hv:=hh l hl
      subst hv
      refine Cg (v:=.pointer (some ⟨l.b,l.st+i*l.sz+off+o,none⟩)) hM (by simp [Wx hf hs]) (.ptr ha fun l' hl'=>?_)
      have:l'=l:=by have:=hl'.symm.trans hl;injection this
      subst this
      simp [Nat.add_assoc]
   ·cases hu
  ·cases hu
 ·rename_i cs
  split at hu
  ·rename_i o ft hf
   split at hu
   ·rename_i n hs
    cases hu
    cases hr with
    | ip hb hm h1 hc hl =>
     rename_i b of vs
     refine Cg (v:=.pointer (some ⟨b,of+o,none⟩)) hM (by simp [Wx hf hs]) (.ip hb hm (fun v hv=>h1 v (List.mem_of_mem_drop hv)) (CellsIn.drop (w:=w) hc o) (hl.drop o))
   ·cases hu
  ·cases hu
 ·cases hu
def Ja (hp:Am):AV→Option (List (List AV))
 | .val (.slice none 0 0)=>some []
 | .sl rows=>some rows
 | .own t off len=>match hp t with
  | some (.row _ _ rows)=>if off+len≤rows.length then some ((rows.drop off).take len) else none
  | _=>none
 | _=>none
def Ml (hp:Am):AV→Option Nat
 | .val (.slice none 0 0)=>some 0
 | .sl rows=>some rows.length
 | .own t _ len=>match hp t with
  | some (.row _ _ _)=>some len
  | _=>none
 | _=>none
theorem rel_len {x:AV} {a:Value} {n:Nat} (hM:Mem G hp al loc w) (hr:Rel (Bv G.m1 hp al loc w) x a) (h:Ml hp x=some n):∃p c,a=.slice p n c:=by
 unfold Ml at h
 split at h
 ·cases h;cases hr;exact ⟨_,_,rfl⟩
 ·cases h;cases hr with
  | sl0=>exact ⟨_,_,rfl⟩
  | sl=>exact ⟨_,_,rfl⟩
 ·split at h
  ·rename_i ho
   cases h
   obtain ⟨l,hl,_⟩:=hM.obj _ _ ho
   cases hr with
   | own ha hh=>obtain ⟨p,c,hv,_⟩:=hh l hl;exact ⟨p,c,hv⟩
  ·cases h
 ·cases h
theorem rel_rows {x:AV} {a:Value} {rows:List (List AV)} (hM:Mem G hp al loc w) (hr:Rel (Bv G.m1 hp al loc w) x a) (h:Ja hp x=some rows) :
  ∃p c,a=.slice p rows.length c∧rows.length≤c∧(rows≠[]→∃b o sz vs,p=some ⟨b,o,none⟩∧0<sz∧(∀r∈rows,r.length=sz)∧RelL (Bv G.m1 hp al loc w) rows.flatten vs∧CellsIn w b o vs∧(∀v∈vs,v.oneCell'=true)):=by
 unfold Ja at h
 split at h
 ·cases h;cases hr;exact ⟨_,_,rfl,Nat.le_refl _,fun h=>absurd rfl h⟩
 ·cases h
  cases hr with
  | sl0 a c=>exact ⟨_,_,rfl,Nat.zero_le _,fun h=>absurd rfl h⟩
  | sl hb hm hr hsz h0 hcap h1 hc hl=>exact ⟨_,_,rfl,hcap,fun _=>⟨_,_,_,_,rfl,h0,hsz,hl,hc,h1⟩⟩
 ·rename_i t off len
  split at h
  ·rename_i sz m rs ht
   split at h
   ·rename_i hle
    cases h
    obtain ⟨l,hl,h1,h2,h3,h6,_⟩:=mem_loc hM ht
    cases hr with
    | own ha hh =>
     obtain ⟨p,Cc,rfl,hz,hcap,hlc,hp⟩:=hh l hl
     have hlen:((rs.drop off).take len).length=len:=by simp;omega
     refine ⟨p,Cc,by rw [hlen],by rw [hlen];exact hlc,fun hne=>?_⟩
     obtain ⟨l2,c,e,fz,vs,hl2,_,_,_,h4,h5,_,h7,h8,h9,_⟩:=Tr hM ht (fun e=>by rw [e] at hne;simp at hne)
     have:l2=l:=Option.some.inj (hl2.symm.trans hl)
     subst this
     have hpos:0<len:=by
      rcases Nat.eq_zero_or_pos len with e0|e0
      ·subst e0;simp at hne
      ·exact e0
     refine ⟨l2.b,l2.st+off*l2.sz,sz,(vs.drop (off*sz)).take (len*sz),hp (by omega),h2,fun r hr=>h3 r (List.mem_of_mem_drop (List.mem_of_mem_take hr)),?_,?_,fun v hv=>h8 v (List.mem_of_mem_drop (List.mem_of_mem_take hv))⟩
     ·rw [Gf (fun r hr=>h3 r (List.mem_of_mem_drop hr)),Gg h3]
      exact (h7.drop _).take _
     ·rw [h1];exact (h9.drop _).take _
   ·cases h
  ·cases h
 ·cases h
def La:AV→Option Nat
 | .val (.int _ n)=>if 0≤n then some n.toNat else none
 | _=>none
theorem Oa {E:Env} {x:AV} {a:Value} {n:Nat} (hr:Rel E x a) (h:La x=some n):∃k,a=.int k (n:Int):=by
 unfold La at h
 split at h
 ·split at h
  ·cases h;cases hr;exact ⟨_,by congr 1;omega⟩
  ·cases h
 ·cases h
def Cz (P:Program) (t:TypeId):Option TypeId :=
 match P.underlying t with
 | some (.slice e)=>some e
 | _=>none
def arrO (P:Program) (t:TypeId):Option (Nat×TypeId) :=
 match P.underlying t with
 | some (.array n e)=>some (n,e)
 | _=>none
theorem Gr {t e:TypeId} (h:Cz P t=some e):P.underlying t=some (.slice e):=by
 unfold Cz at h;split at h
 ·cases h;assumption
 ·cases h
theorem arrO_eq {t e:TypeId} {n:Nat} (h:arrO P t=some (n,e)):P.underlying t=some (.array n e):=by
 unfold arrO at h;split at h
 ·cases h;assumption
 ·cases h
def Vk (osz:Option Nat) (hp:Am) (n:Nat):AV→Option AV
 | .sl rows=>match osz,rows[n]? with
  | some sz,some r=>if r.length=sz then some (.ip r) else none
  | _,_=>none
 | .own o off len=>match osz,hp o with
  | some sz,some (.row sz' _ _)=>if n<len∧sz=sz' then some (.ptr o (off+n) 0) else none
  | _,_=>none
 | _=>none
def Vl (osz:Option Nat) (hp:Am) (n m:Nat):AV→Option AV
 | .ptr o i off=>match osz with
  | some 1=>if n<m∧(hp o).isSome=true then some (.ptr o i (off+n)) else none
  | _=>none
 | .ip cs=>match osz with
  | some 1=>if n<m then some (.ip (cs.drop n)) else none
  | _=>none
 | _=>none
def Qf (P:Program) (hp:Am) (t:TypeId) (x i:AV):Option AV :=
 match Cz P t,La i with
 | some e,some n=>Vk (Nu P e) hp n x
 | none,some n=>match arrO P t with
  | some (m,e)=>Vl (Nu P e) hp n m x
  | none=>none
 | _,_=>none
theorem does_indexS {t:TypeId} {x i u:AV} {a b:Value} (hM:Mem G hp al loc w) (hr:Rel (Bv G.m1 hp al loc w) x a) (hi:Rel (Bv G.m1 hp al loc w) i b) (h:Qf P hp t x i=some u) :
  Ix P (do pure (.value (←Instr.indexAt t a b))) G hp al loc w id ⟨u,[]⟩:=by
 unfold Qf at h
 split at h
 ·rename_i e n he hn
  obtain ⟨k,rfl⟩:=Oa hi hn
  have hu:=Gr he
  unfold Vk at h
  split at h
  ·rename_i rows
   split at h
   ·rename_i sz r hsz hrow
    split at h
    ·rename_i hlen
     cases h
     have hlt:n<rows.length:=(List.getElem?_eq_some_iff.1 hrow).1
     cases hr with
     | sl0=>simp at hlt
     | sl hb hm hr hs h0 hcap h1 hc hl =>
      have he2:=hs r (List.mem_of_getElem? hrow)
      rename_i b o Cc sz' vs
      have hzz:sz'=sz:=by omega
      subst hzz
      refine Cg (v:=.pointer (some ⟨b,o+n*sz',none⟩)) hM ?_ (.ip hb hm (vs:=(vs.drop (n*sz')).take sz') (fun v hv=>h1 v (List.mem_of_mem_drop (List.mem_of_mem_take hv))) ?_ (row_cells hs hl hrow))
      ·have hlt':(n:Int)<(rows.length:Int):=by omega
       simp [Instr.indexAt,asIntOf,underlying,hu,Ef hsz,hlt',Fx]
       intro hge;omega
      ·exact (CellsIn.drop (w:=w) hc _).take _
    ·cases h
   ·cases h
  ·rename_i o off len
   split at h
   ·rename_i sz sz' m rs hsz ho
    split at h
    ·rename_i hc
     obtain ⟨hlt,rfl⟩:=hc
     cases h
     obtain ⟨l,hl,h1,_⟩:=hM.obj _ _ ho
     cases hr with
     | own ha hh =>
      obtain ⟨p,Cc,rfl,hz,hcap,hlc,hp⟩:=hh l hl
      have hp':=hp (by omega)
      subst hp'
      refine Cg (v:=.pointer (some ⟨l.b,l.st+off*l.sz+n*sz,none⟩)) hM ?_ (.ptr ha fun l' hl'=>?_)
      ·have hlt':(n:Int)<(len:Int):=by omega
       simp [Instr.indexAt,asIntOf,underlying,hu,Ef hsz,hlt',Fx]
       intro hge;omega
      ·have:l'=l:=by have:=hl'.symm.trans hl;injection this
       subst this
       rw [h1];simp [Nat.add_mul,Nat.add_assoc]
    ·cases h
   ·cases h
  ·cases h
 ·rename_i n he hn
  obtain ⟨k,rfl⟩:=Oa hi hn
  split at h
  ·rename_i m e har
   have hu:=arrO_eq har
   unfold Vl at h
   split at h
   ·rename_i o i off
    split at h
    ·rename_i hsz
     split at h
     ·rename_i hc
      cases h
      cases hr with
      | ptr ha hh =>
       obtain ⟨ob,hob⟩:=Option.isSome_iff_exists.1 hc.2
       obtain ⟨l,hl,_⟩:=hM.obj _ _ hob
       have hv:=hh l hl
       subst hv
       refine Cg (v:=.pointer (some ⟨l.b,l.st+i*l.sz+off+n,none⟩)) hM ?_ (.ptr ha fun l' hl'=>?_)
       ·have hlt':(n:Int)<(m:Int):=by omega
        simp [Instr.indexAt,asIntOf,underlying,hu,Ef hsz,hlt',Fx,Instr.sureAddr]
        intro hge;omega
       ·have:l'=l:=by have:=hl'.symm.trans hl;injection this
        subst this
        simp [Nat.add_assoc]
     ·cases h
    ·cases h
   ·rename_i cs
    split at h
    ·rename_i hsz
     split at h
     ·rename_i hc
      cases h
      cases hr with
      | ip hb hm h1 hcc hl =>
       rename_i b of vs
       refine Cg (v:=.pointer (some ⟨b,of+n,none⟩)) hM ?_ (.ip hb hm (fun v hv=>h1 v (List.mem_of_mem_drop hv)) (CellsIn.drop (w:=w) hcc n) (hl.drop n))
       have hlt':(n:Int)<(m:Int):=by omega
       simp [Instr.indexAt,asIntOf,underlying,hu,Ef hsz,hlt',Fx,Instr.sureAddr]
       intro hge;omega
     ·cases h
    ·cases h
   ·cases h
  ·cases h
 ·cases h
def sliceS (P:Program) (hp:Am) (t:TypeId) (x:AV) (lo hi:Option AV):Option AV :=
 match Cz P t,(match lo with|none=>some 0|some a=>La a),Ml hp x with
 | some e,some l,some n=>match Nu P e,(match hi with|none=>some n|some a=>La a) with
  | some sz,some h=>if l≤h∧h≤n then
    match x with
    | .sl rows=>if (∀r∈rows,r.length=sz) then some (.sl ((rows.drop l).take (h-l))) else none
    | .own o off _=>match hp o with
     | some (.row sz' _ _)=>if sz=sz' then some (.own o (off+l) (h-l)) else none
     | _=>none
    | .val (.slice none 0 0)=>some (.val (.slice none 0 0))
    | _=>none
   else none
  | _,_=>none
 | _,_,_=>none
end
end Go.Gm
namespace Go.Gm
section
variable {P:Program} {G:Ghost P} {hp:Am} {al:Nat→Prop} {loc:Nat→Option Loc} {w:World} {id:Nat}
theorem Rg {k:IntKind} {n y:Nat} (code:BoundsCode) (h:n≤y):(Instr.sliceBound (.int k (n:Int)) y code).run P w=.ok n w:=by
 have:(0:Int)≤(n:Int)∧(n:Int)≤(y:Int):=by omega
 simp [Instr.sliceBound,asIntOf,this]
def loOf:Option AV→Option Nat
 | none=>some 0
 | some a=>La a
def hiOf (n:Nat):Option AV→Option Nat
 | none=>some n
 | some a=>La a
inductive RelO (E:Env):Option AV→Option Value→Prop
 | none:RelO E none none
 | some {u:AV} {v:Value} (h:Rel E u v):RelO E (some u) (some v)
theorem run_bounds {E:Env} {len Cc l h:Nat} {lo hi:Option AV} {lo' hi':Option Value} (hlo:RelO E lo lo') (hhi:RelO E hi hi') (hl:loOf lo=some l) (hh:hiOf len hi=some h) (h1:l≤h) (h2:h≤len) (h3:len≤Cc) :
  (Instr.sliceBounds true len Cc lo' hi' none).run P w=.ok (l,h,Cc) w:=by
 cases hlo with
 | none =>
  cases hl
  cases hhi with
  | none=>cases hh;simp [Instr.sliceBounds]
  | some hb =>
   obtain ⟨k,rfl⟩:=Oa hb hh
   simp [Instr.sliceBounds,Rg (P:=P) (w:=w) _ (Nat.le_trans h2 h3)]
 | some ha =>
  obtain ⟨k,rfl⟩:=Oa ha hl
  cases hhi with
  | none=>cases hh;simp [Instr.sliceBounds,Rg (P:=P) (w:=w) _ h1]
  | some hb =>
   obtain ⟨k',rfl⟩:=Oa hb hh
   simp [Instr.sliceBounds,Rg (P:=P) (w:=w) _ (Nat.le_trans h2 h3),Rg (P:=P) (w:=w) _ h1]
def Xp (P:Program) (hp:Am) (t:TypeId) (x:AV) (lo hi:Option AV):Option AV :=
 match Cz P t,loOf lo,Ml hp x with
 | some e,some l,some n=>match Nu P e,hiOf n hi with
  | some sz,some h=>if l≤h∧h≤n then
    match x with
    | .sl rows=>if (∀r∈rows,r.length=sz) then some (.sl ((rows.drop l).take (h-l))) else none
    | .own o off _=>match hp o with
     | some (.row sz' _ _)=>if sz=sz' then some (.own o (off+l) (h-l)) else none
     | _=>none
    | .val (.slice none 0 0)=>some (.val (.slice none 0 0))
    | _=>none
   else none
  | _,_=>none
 | _,_,_=>none
theorem run_cut {E:Env} {t e:TypeId} {p:Option Addr} {len Cc l h sz:Nat} {lo hi:Option AV} {lo' hi':Option Value} (hu:P.underlying t=some (.slice e)) (hs:Nu P e=some sz)
  (hlo:RelO E lo lo') (hhi:RelO E hi hi') (hl:loOf lo=some l) (hh:hiOf len hi=some h) (h1:l≤h) (h2:h≤len) (h3:len≤Cc) :
  (Instr.sliceAt t (.slice p len Cc) lo' hi' none).run P w=.ok (.slice (if Cc=l then p else p.map (·.add (l*sz))) (h-l) (Cc-l)) w:=by
 simp [Instr.sliceAt,Instr.slice,underlying,hu,run_bounds (P:=P) (w:=w) hlo hhi hl hh h1 h2 h3,Ef hs]
theorem does_cut {t:TypeId} {x u:AV} {lo hi:Option AV} {a:Value} {lo' hi':Option Value} (hM:Mem G hp al loc w) (hr:Rel (Bv G.m1 hp al loc w) x a) (hlo:RelO (Bv G.m1 hp al loc w) lo lo') (hhi:RelO (Bv G.m1 hp al loc w) hi hi')
  (hc:Xp P hp t x lo hi=some u):Ix P (do pure (.value (←Instr.sliceAt t a lo' hi' none))) G hp al loc w id ⟨u,[]⟩:=by
 unfold Xp at hc
 split at hc
 ·rename_i e l n he hl hn
  have hu:=Gr he
  obtain ⟨p,c,rfl⟩:=rel_len hM hr hn
  split at hc
  ·rename_i sz h hs hh
   split at hc
   ·rename_i hle
    obtain ⟨h1,h2⟩:=hle
    split at hc
    ·rename_i rows
     split at hc
     ·rename_i hrows
      cases hc
      simp [Ml] at hn;subst hn
      cases hr with
      | sl0 =>
       simp at h2 ⊢
       subst h2
       have h0:l=0:=by simpa using h1
       subst h0
       -- an empty slice cut: its capacity may be anything
       have hb:=run_bounds (P:=P) (w:=w) (len:=0) (Cc:=c) hlo hhi hl hh (Nat.le_refl 0) (Nat.le_refl 0) (Nat.zero_le _)
       refine Cg hM (v:=.slice (if c=0 then p else p.map (·.add 0)) 0 c) ?_ (.sl0 _ _)
       simp [Instr.sliceAt,Instr.slice,underlying,hu,hb,Ef hs]
      | sl hb hm hr' hsz h0 hcap hone hc' hl' =>
       rename_i b o sz' vs
       have hzz:sz'=sz:=by
        cases rows with
        | nil=>exact absurd rfl hr'
        | cons r rs=>have:=hsz r (by simp);have:=hrows r (by simp);omega
       subst hzz
       refine Cg hM (by simp [run_cut (P:=P) (w:=w) hu hs hlo hhi hl hh h1 h2 hcap];rfl) ?_
       by_cases hz:h-l=0
       ·rw [hz];simp;exact .sl0 _ _
       ·have hlen:((rows.drop l).take (h-l)).length=h-l:=by simp;omega
        have hne:(rows.drop l).take (h-l)≠[]:=fun e0=>by rw [e0] at hlen;simp at hlen;omega
        have hcl:c≠l:=by omega
        rw [if_neg hcl]
        simp only [Option.map_some,Fx]
        have:=Rel.sl (E:=Bv G.m1 hp al loc w) (rows:=(rows.drop l).take (h-l)) (Cc:=c-l) (vs:=(vs.drop (l*sz')).take ((h-l)*sz')) hb hm hne (fun r hr=>hsz r (List.mem_of_mem_drop (List.mem_of_mem_take hr))) h0 (by rw [hlen];omega)
         (fun v hv=>hone v (List.mem_of_mem_drop (List.mem_of_mem_take hv))) ((CellsIn.drop (w:=w) hc' (l*sz')).take _) (by rw [Gf (fun r hr=>hsz r (List.mem_of_mem_drop hr)),Gg hsz];exact (hl'.drop _).take _)
        rw [hlen] at this
        exact this
     ·cases hc
    ·rename_i o off len
     split at hc
     ·rename_i sz' m rs ho
      split at hc
      ·rename_i hzz
       subst hzz
       cases hc
       simp [Ml,ho] at hn;subst hn
       obtain ⟨lc,hlc,h3,h4,_⟩:=hM.obj _ _ ho
       cases hr with
       | own ha hh' =>
        obtain ⟨p',Cc,hv,hz,hcap,hlcap,hp⟩:=hh' lc hlc
        cases hv
        refine Cg hM (by simp [run_cut (P:=P) (w:=w) hu hs hlo hhi hl hh h1 h2 hlcap];rfl) (.own ha fun l' hl'=>?_)
        have:l'=lc:=by have:=hl'.symm.trans hlc;injection this
        subst this
        refine ⟨_,c-l,rfl,hz,?_,by omega,fun hpos=>?_⟩
        ·rw [←hcap];congr 2;omega
        ·have hcl:c≠l:=by omega
         rw [if_neg hcl,hp (by omega)]
         simp [Fx,h3,Nat.add_mul,Nat.add_assoc]
      ·cases hc
     ·cases hc
    ·cases hc
     cases hr
     have hh0:h=0:=by omega
     have hl0:l=0:=by omega
     subst hh0;subst hl0
     refine Cg hM (v:=.slice none 0 0) ?_ (.val _)
     simp [run_cut (P:=P) (w:=w) hu hs hlo hhi hl hh h1 h2 (Nat.le_refl 0)]
    ·cases hc
   ·cases hc
  ·cases hc
 ·cases hc
def Pm (P:Program) (hp:Am) (t:TypeId) (x:AV):Option AV :=
 match Cz P t,Ml hp x with
 | some _,some n=>some (.val (.int .i64 n))
 | _,_=>none
theorem does_len {t ty:TypeId} {x u:AV} {a:Value} (hM:Mem G hp al loc w) (hr:Rel (Bv G.m1 hp al loc w) x a) (h:Pm P hp t x=some u) :
  Ix P (do pure (.value (←Builtin.len_ #[t] ty #[a]))) G hp al loc w id ⟨u,[]⟩:=by
 unfold Pm at h
 split at h
 ·rename_i e n he hn
  cases h
  obtain ⟨p,c,rfl⟩:=rel_len hM hr hn
  exact Cg hM (by simp [Builtin.len_,underlying,Gr he,goInt]) (.val _)
 ·cases h
def Qu (P:Program) {α:Type}:Sem α→Option α
 | .pure a=>some a
 | .program k=>Qu P (k P)
 | .mark _ k=>Qu P k
 | _=>none
theorem evS_run {α:Type}:∀{s:Sem α} {a:α},Qu P s=some a→∀w,s.run P w=.ok a w
 | .pure _,_,h,w=>by cases h;rfl
 | .program k,a,h,w=>by simp only [Sem.run];exact evS_run (s:=k P) h w
 | .mark _ k,a,h,w=>by simp only [Sem.run];exact evS_run (s:=k) h w
 | .load ..,_,h,_=>by cases h
 | .store ..,_,h,_=>by cases h
 | .new ..,_,h,_=>by cases h
 | .shape ..,_,h,_=>by cases h
 | .freeze ..,_,h,_=>by cases h
 | .frozen ..,_,h,_=>by cases h
 | .getObj ..,_,h,_=>by cases h
 | .setObj ..,_,h,_=>by cases h
 | .choose ..,_,h,_=>by cases h
 | .sys ..,_,h,_=>by cases h
 | .halt ..,_,h,_=>by cases h
mutual
def Mw:AV→Option Value
 | .val v=>some v
 | .agg cs=>(toVs cs).map fun vs=>.agg vs.toArray
 | .tup cs=>(toVs cs).map fun vs=>.tuple vs.toArray
 | .ifc t u=>(Mw u).map fun v=>.iface t v
 | _=>none
def toVs:List AV→Option (List Value)
 | []=>some []
 | c::cs=>match Mw c,toVs cs with
  | some v,some vs=>some (v::vs)
  | _,_=>none
end
mutual
theorem Xx {E:Env}:∀{u:AV} {x v:Value},Rel E u v→Mw u=some x→v=x
 | _,_,_,.val v,h=>by simp [Mw] at h;exact h
 | _,x,_,.agg (cs:=cs) hl,h=>by
  simp only [Mw,Option.map_eq_some_iff] at h
  obtain ⟨vs,h1,rfl⟩:=h
  rw [toVs_rel hl h1]
 | _,x,_,.tup (cs:=cs) hl,h=>by
  simp only [Mw,Option.map_eq_some_iff] at h
  obtain ⟨vs,h1,rfl⟩:=h
  rw [toVs_rel hl h1]
 | _,x,_,.ifc hu,h=>by
  simp only [Mw,Option.map_eq_some_iff] at h
  obtain ⟨vs,h1,rfl⟩:=h
  rw [Xx hu h1]
 | _,_,_,.any _,h=>by simp [Mw] at h
 | _,_,_,.sl0 ..,h=>by simp [Mw] at h
 | _,_,_,.sl ..,h=>by simp [Mw] at h
 | _,_,_,.own ..,h=>by simp [Mw] at h
 | _,_,_,.ptr ..,h=>by simp [Mw] at h
 | _,_,_,.ip ..,h=>by simp [Mw] at h
 | _,_,_,.clo ..,h=>by simp [Mw] at h
 | _,_,_,.mp ..,h=>by simp [Mw] at h
 | _,_,_,.im ..,h=>by simp [Mw] at h
 | _,_,_,.im0,h=>by simp [Mw] at h
theorem toVs_rel {E:Env}:∀{us:List AV} {xs vs:List Value},RelL E us vs→toVs us=some xs→vs=xs
 | _,_,_,.nil,h=>by simp [toVs] at h;exact h.symm
 | _,_,_,.cons h hs,k=>by
  simp only [toVs] at k
  split at k
  ·rename_i v vs h1 h2
   cases k
   rw [Xx h h1,toVs_rel hs h2]
  ·cases k
end
def Mh (P:Program) (o:Oper) (ρ:Operand→Option Value):Option AV :=
 if o.op.operands.all (fun x=>(ρ x).isSome) then
  match Qu P (execOp (fun x=>(ρ x).getD undef) o) with
  | some (.value v)=>some (.val v)
  | _=>none
 else none
end
end Go.Gm
namespace Go.Gm
section
variable {P:Program} {G:Ghost P} {hp:Am} {al:Nat→Prop} {loc:Nat→Option Loc} {w:World} {id:Nat}
theorem Fresh.at (h:Fresh al id):¬al id:=h id (Nat.le_refl _) (by omega)
theorem Ts (hM:Mem G hp al loc w) (hf:¬al id) {w1:World} (hh:w1.heap=w.heap) (hos:w1.os=w.os) (htape:w1.tape=w.tape) (hout:w1.output=w.output)
    {c:Array Value} {e:TypeId} {fz:Nat×Nat} {sz:Nat} {rows:List (List AV)} {vs:List Value} (h0:0<sz) (hrows:∀r∈rows,r.length=sz)
    (hl:RelL (Bv G.m1 hp al loc w) rows.flatten vs) (h1:∀v∈vs,v.oneCell'=true) (hpre:∀(k:Nat) (v:Value),vs[k]?=some v→c[k]?=some v) (hfit:rows.length*sz≤c.size)
    (hfz:∀k,(k<c.size∨1<sz∧k=c.size)→¬(fz.1≤k∧k<fz.2)) (hdiv:∃m,c.size=m*sz) :
    ∃loc',Mem G (Ag hp id (some (.row sz true rows))) (Ku al id) loc' (w1.alloc (.cells c e fz)) ∧
      Ext (Bv G.m1 hp al loc w) (Bv G.m1 (Ag hp id (some (.row sz true rows))) (Ku al id) loc' (w1.alloc (.cells c e fz)))∧loc' id=some ⟨w.heap.size,0,sz,c.size⟩:=by
  have hM1:=hM.world hh hos htape hout
  have x1:Ext (Bv G.m1 hp al loc w) (Bv G.m1 hp al loc w1):=Ext.world hh
  have hsz:w1.heap.size=w.heap.size:=by rw [hh]
  let l:Loc:=⟨w.heap.size,0,sz,c.size⟩
  have x2:=Ext.alloc hM1 hf (.cells c e fz) (.row sz true rows) l hsz.symm
  have hM2:=hM1.alloc hf (.cells c e fz) (.row sz true rows) l hsz.symm
    ⟨rfl,h0,hrows,by simpa [l] using hfit,by obtain ⟨m,hm⟩:=hdiv;exact ⟨m,by simp [l,hm]⟩,fun _=>⟨c,e,fz,vs,by simp only [Bv,l];rw [←hsz];exact heap_alloc_new w1 _,rfl,hl.ext (x1.trans x2),h1,fun k v hk=>by simpa [l] using hpre k v hk,hfz⟩⟩
  obtain ⟨hM3,x3⟩:=hM2.more (al':=Ku al id) (fun t ht=>by
    by_cases e:t=id
    · subst e;exact .inr ⟨Nat.le_refl _,by omega⟩
    · rw [An _ _ e] at ht;exact .inl ht)
  exact ⟨_,hM3,(x1.trans x2).trans x3,Ba ..⟩
def cellsOf:AV→List AV
  | .agg cs=>cs
  | u=>[u]
def Dj (hp:Am):AV→Bool
  | .val v=>v.oneCell'
  | .sl _=>true
  | .own t _ _=>(hp t).isSome
  | .ptr t _ _=>(hp t).isSome
  | .ip _=>true
  | .clo ..=>true
  | .ifc ..=>true
  | .mp t=>(hp t).isSome
  | .im ..=>true
  | _=>false
theorem one_rel (hM:Mem G hp al loc w) {u:AV} {v:Value} (hr:Rel (Bv G.m1 hp al loc w) u v) (h:Dj hp u=true):v.oneCell'=true:=by
  cases hr with
  | any=>simp [Dj] at h
  | val=>exact h
  | agg=>simp [Dj] at h
  | tup=>simp [Dj] at h
  | sl0=>rfl
  | sl=>rfl
  | own ha hh =>
    rename_i t off len
    simp only [Dj] at h
    cases ho:hp t with
    | none=>rw [ho] at h;cases h
    | some o=>obtain ⟨l,hl,_⟩:=hM.obj _ _ ho;obtain ⟨a,c,rfl,_⟩:=hh l hl;rfl
  | ptr ha hh =>
    rename_i t i off
    simp only [Dj] at h
    cases ho:hp t with
    | none=>rw [ho] at h;cases h
    | some o=>obtain ⟨l,hl,_⟩:=hM.obj _ _ ho;rw [hh l hl];rfl
  | ip=>rfl
  | clo=>rfl
  | ifc=>rfl
  | mp ha hh =>
    rename_i t
    simp only [Dj] at h
    cases ho:hp t with
    | none=>rw [ho] at h;cases h
    | some o=>obtain ⟨l,hl,_⟩:=hM.obj _ _ ho;rw [hh l hl];rfl
  | im=>rfl
  | im0=>rfl
theorem one_rels (hM:Mem G hp al loc w):∀{us:List AV} {vs:List Value},RelL (Bv G.m1 hp al loc w) us vs→us.all (Dj hp)=true→∀v∈vs,v.oneCell'=true
  | _,_,.nil,_,v,hv=>by cases hv
  | _,_,.cons h hs,hu,v,hv=>by
    simp at hu
    cases hv with
    | head=>exact one_rel hM h hu.1
    | tail _ hv=>exact one_rels hM hs (by simpa using hu.2) v hv
theorem cells_one {v:Value} (h:v.oneCell'=true):v.cells = #[v]:=by cases v<;>simp_all [Value.cells,Value.oneCell']
theorem cells_single (hM:Mem G hp al loc w) {u:AV} {v:Value} (hr:Rel (Bv G.m1 hp al loc w) u v) (h:Dj hp u=true) :
    RelL (Bv G.m1 hp al loc w) [u] v.cells.toList∧(∀x∈v.cells.toList,x.oneCell'=true):=by
  have h2:=one_rel hM hr h
  rw [cells_one h2]
  exact ⟨.cons hr .nil,by simpa using h2⟩
theorem Qx (hM:Mem G hp al loc w) {u:AV} {v:Value} (hr:Rel (Bv G.m1 hp al loc w) u v) (h:(cellsOf u).all (Dj hp)=true) :
    RelL (Bv G.m1 hp al loc w) (cellsOf u) v.cells.toList∧(∀x∈v.cells.toList,x.oneCell'=true):=by
  cases u with
  | agg cs =>
    cases hr with
    | agg hl =>
      refine ⟨by simpa [cellsOf,Value.cells] using hl,?_⟩
      simp only [cellsOf] at h
      have:=one_rels hM hl h
      intro x hx
      exact this x (by simpa [Value.cells] using hx)
  | _=>exact cells_single hM hr (by simpa [cellsOf] using h)
def Fm (P:Program) (t:TypeId):Option (List AV) :=
  match P.info? t with
  | some i=>match i.zero with
    | some z=>if z.cells.all (·.oneCell')∧0<z.cells.size then some (z.cells.toList.map .val) else none
    | none=>none
  | none=>none
theorem Is {E:Env}:∀(vs:List Value),RelL E (vs.map .val) vs
  | []=>.nil
  | v::vs=>.cons (.val v) (Is vs)
theorem zeroC_run {t:TypeId} {zs:List AV} (h:Fm P t=some zs):∃z:Value,(∀w,(zeroValue t).run P w=.ok z w)∧zs=z.cells.toList.map .val∧(∀v∈z.cells.toList,v.oneCell'=true)∧0<z.cells.size:=by
  unfold Fm at h
  split at h
  · rename_i i hi
    split at h
    · rename_i z hz
      split at h
      · rename_i hc
        cases h
        refine ⟨z,fun w=>by simp [zeroValue,typeInfo,hi,hz],rfl,fun v hv=>?_,hc.2⟩
        have:=Array.all_eq_true.1 hc.1
        obtain ⟨k,hk,rfl⟩:=List.getElem_of_mem hv
        exact this k (by simpa using hk)
      · cases h
    · cases h
  · cases h
theorem does_new {s:Sem Next} {v:Value} {c:Array Value} {e:TypeId} {cs:List AV} (hM:Mem G hp al loc w) (hf:¬al id)
    (hrun:s.run P w=.ok (.value (.pointer (some ⟨w.heap.size,0,none⟩))) (w.alloc (.cells c e))) (hl:RelL (Bv G.m1 hp al loc w) cs c.toList) (h1:∀x∈c.toList,x.oneCell'=true) (h0:0<cs.length) :
    Ix P s G hp al loc w id ⟨.ptr id 0 0,[(id,some (.row cs.length true [cs]))]⟩:=by
  have hlen:cs.length=c.size:=by rw [hl.length];simp
  obtain ⟨loc',hM',x,hl'⟩:=Ts (vs:=c.toList) hM hf (w1:=w) rfl rfl rfl rfl (c:=c) (e:=e) (fz:=(0,0)) (rows:=[cs]) h0 (by simp) (by simpa using hl) h1 (fun k v hk=>by simpa using hk) (by simp [hlen]) (by simp) ⟨1,by omega⟩
  refine ⟨_,_,_,loc',hrun,.inl rfl,hM',x,.ptr (.inr ⟨Nat.le_refl _,by omega⟩) fun l hl=>?_⟩
  have:l=_:=Option.some.inj (hl.symm.trans hl')
  subst this
  simp
theorem does_alloc {t:TypeId} {zs:List AV} (hM:Mem G hp al loc w) (hf:¬al id) (h:Fm P t=some zs) :
    Ix P (do pure (.value (←Instr.alloc t true (.tuple #[])))) G hp al loc w id ⟨.ptr id 0 0,[(id,some (.row zs.length true [zs]))]⟩:=by
  obtain ⟨z,hz,rfl,h1,h0⟩:=zeroC_run h
  exact does_new (v:=z) (c:=z.cells) (e:=t) hM hf (by simp [Instr.alloc,hz,newVar,newRow]) (Is _) h1 (by simpa using h0)
theorem does_box {t:TypeId} {u:AV} {v:Value} (hM:Mem G hp al loc w) (hf:¬al id) (hr:Rel (Bv G.m1 hp al loc w) u v) (h:(cellsOf u).all (Dj hp)=true) (h0:0<(cellsOf u).length) :
    Ix P (do pure (.value (←Instr.box t v))) G hp al loc w id ⟨.ptr id 0 0,[(id,some (.row (cellsOf u).length true [cellsOf u]))]⟩:=by
  obtain ⟨hl,h1⟩:=Qx hM hr h
  exact does_new (v:=v) (c:=v.cells) (e:=t) hM hf (by simp [Instr.box,newVar,newRow]) hl h1 h0
end
end Go.Gm
namespace Go.Gm
section
variable {P:Program} {G:Ghost P} {hp:Am} {al:Nat→Prop} {loc:Nat→Option Loc} {w:World} {id:Nat}
theorem Xn {g o:Nat} {v:Value} {c:Array Value} {e:TypeId} {fz:Nat×Nat} (h:w.heap[g]?=some (.cells c e fz)) :
  (w.setCell ⟨g,o,none⟩ v).heap[g]?=some (.cells (c.setIfInBounds o v) e fz):=by
 simp [World.setCell,Array.getElem?_modify,h]
theorem Sk {a:Addr} {v:Value} {b:Nat} (h:b≠a.block):(w.setCell a v).heap[b]?=w.heap[b]?:=by
 simp [World.setCell,Array.getElem?_modify,Ne.symm h]
theorem Ig {g o:Nat}:∀(vs:List Value) (i:Nat) (w:World) (c:Array Value) (e:TypeId) (fz:Nat×Nat),w.heap[g]?=some (.cells c e fz)→o+i+vs.length≤c.size →
  (∀k,k<c.size→¬(fz.1≤k∧k<fz.2))→(∀v∈vs,v.oneCell'=true) →
  ∃w',(storeCells ⟨g,o,none⟩ vs i).run P w=.ok () w'∧w'.heap.size=w.heap.size∧(∀b,b≠g→w'.heap[b]?=w.heap[b]?)∧w'.os=w.os∧w'.tape=w.tape∧w'.output=w.output ∧
   ∃c',w'.heap[g]?=some (.cells c' e fz)∧c'.size=c.size∧∀k,c'[k]?=if o+i≤k∧k<o+i+vs.length then vs[k-(o+i)]? else c[k]?
 | [],i,w,c,e,fz,h,_,_,_=>by
  refine ⟨w,by simp [storeCells],rfl,fun _ _=>rfl,rfl,rfl,rfl,c,h,rfl,fun k=>?_⟩
  rw [if_neg (by simp)]
 | v::vs,i,w,c,e,fz,h,hlen,hfz,h1=>by
  simp only [List.length_cons] at hlen
  have hlt:o+i<c.size:=by omega
  have hcell:w.cell? ⟨g,o+i,none⟩=some c[o+i]:=by simp [World.cell?,h,hlt]
  have hfr:w.frozen? ⟨g,o+i,none⟩=false:=by
   have:=hfz (o+i) hlt
   simp only [World.frozen?,h,decide_eq_true_eq,Bool.and_eq_false_iff,decide_eq_false_iff_not]
   omega
  have hw1:=Xn (o:=o+i) (v:=v) h
  obtain ⟨w',hr,hs,ho,a1,a2,a3,c',hc',hcs,hck⟩:=Ig (o:=o) vs (i+1) (w.setCell ⟨g,o+i,none⟩ v) _ e fz hw1 (by simp;omega) (by simpa using hfz) (fun x hx=>h1 x (List.mem_cons_of_mem _ hx))
  refine ⟨w',?_,by rw [hs];simp,fun b hb=>?_,a1,a2,a3,c',hc',by simpa using hcs,fun k=>?_⟩
  ·simp [storeCells,Fx,run_store P w _ v .plain (h1 v (List.mem_cons_self ..)),hcell,hfr,hr]
  ·rw [ho b hb,Sk hb]
  ·rw [hck k,Array.getElem?_setIfInBounds]
   by_cases hk:o+i=k
   ·subst hk
    rw [if_neg (by omega),if_pos rfl,if_pos hlt,if_pos (by simp)];simp
   ·by_cases hk2:o+(i+1)≤k∧k<o+(i+1)+vs.length
    ·rw [if_pos hk2,if_pos (by simp;omega)]
     rw [show k-(o+i)=(k-(o+(i+1)))+1 by omega];simp
    ·rw [if_neg hk2,if_neg (fun h=>hk h),if_neg (by simp;omega)]
def Ld (r:List AV) (off:Nat) (cs:List AV):List AV:=r.take off++(cs++r.drop (off+cs.length))
theorem over_length {r cs:List AV} {off:Nat} (h:off+cs.length≤r.length):(Ld r off cs).length=r.length:=by
 simp [Ld];omega
theorem Qj {sz:Nat}:∀{rows:List (List AV)} (_:∀r∈rows,r.length=sz) {i:Nat} {r:List AV} (_:rows[i]?=some r) (r':List AV) (_:r'.length=sz),
  (rows.set i r').flatten=rows.flatten.take (i*sz)++(r'++rows.flatten.drop (i*sz+sz))
 | [],_,i,r,hr,_,_=>by simp at hr
 | a::rows,h,0,r,hr,r',hl=>by
  simp at hr;subst hr
  have ha:=h a (by simp)
  simp [List.flatten_cons,←ha,List.drop_append]
 | a::rows,h,i+1,r,hr,r',hl=>by
  have ha:=h a (by simp)
  have ih:=Qj (rows:=rows) (fun x hx=>h x (by simp [hx])) (i:=i) (r:=r) (by simpa using hr) r' hl
  simp only [List.set_cons_succ,List.flatten_cons,ih]
  have e1:(i+1)*sz=a.length+i*sz:=by rw [ha,Nat.succ_mul];omega
  have e2:(i+1)*sz+sz=a.length+(i*sz+sz):=by omega
  rw [e2,e1,List.take_length_add_append,List.drop_length_add_append,List.append_assoc]
def Pq (P:Program) (hp:Am) (t:TypeId) (x u:AV):Option (List (Nat×Option AObj)) :=
 match x with
 | .ptr o i off=>match hp o,Nu P t with
  | some (.row sz true rows),some n=>match rows[i]? with
   | some r=>if (cellsOf u).length=n∧off+n≤r.length∧(cellsOf u).all (Dj hp)=true then
     some [(o,some (.row sz true (rows.set i (Ld r off (cellsOf u)))))]
    else none
   | none=>none
  | _,_=>none
 | _=>none
theorem does_store {t:TypeId} {x u:AV} {a v:Value} {eff:List (Nat×Option AObj)} (hM:Mem G hp al loc w) (hx:Rel (Bv G.m1 hp al loc w) x a) (hu:Rel (Bv G.m1 hp al loc w) u v) (h:Pq P hp t x u=some eff) :
  Ix P (do Instr.storeAt t a v;pure .skip) G hp al loc w id ⟨.any,eff⟩:=by
 unfold Pq at h
 split at h
 ·rename_i o i off
  split at h
  ·rename_i sz rows n ho hn
   split at h
   ·rename_i r hr
    split at h
    ·rename_i hc
     obtain ⟨hlen,hoff,hone⟩:=hc
     cases h
     obtain ⟨l,c,e,fz,vs,hl,h1,h2,h3,h4,h5,h6,h7,h8,h9,h10,h11,h12,hlt0⟩:=Tr hM ho (fun e=>by rw [e] at hr;simp at hr)
     obtain ⟨hlc,hvo⟩:=Qx hM hu hone
     have hrl:r.length=sz:=h3 r (List.mem_of_getElem? hr)
     have hil:i<rows.length:=(List.getElem?_eq_some_iff.1 hr).1
     have hbound:l.st+i*sz+sz≤l.n:=by
      have:(i+1)*sz≤rows.length*sz:=Nat.mul_le_mul_right _ hil
      rw [Nat.succ_mul] at this;omega
     have hvlen:v.cells.toList.length=n:=by rw [←hlc.length];exact hlen
     have hva:a=.pointer (some ⟨l.b,l.st+i*l.sz+off,none⟩):=by cases hx with|ptr ha hh=>exact hh l hl
     subst hva
     obtain ⟨w',hrun,hs,hoth,a1,a2,a3,c',hc',hcs,hck⟩:=Ig (P:=P) (g:=l.b) (o:=l.st+i*l.sz+off) v.cells.toList 0 w c e fz h4 (by rw [hvlen,h1];omega) (by rw [h5];exact fun k hk=>h11 k (.inl hk)) hvo
     have hM':=hM.write (t:=o) (ob':=.row sz true (rows.set i (Ld r off (cellsOf u)))) ho rfl rfl hl hlt0 hs hoth a1 a2 a3 ?_
     ·obtain ⟨hM',x'⟩:=hM'
      obtain ⟨hM2,x2⟩:=hM'.more (al':=Ku al id) (fun t ht=>alR_of ht)
      refine ⟨.skip,undef,w',loc,?_,.inr ⟨rfl,rfl⟩,hM2,x'.trans x2,.any _⟩
      have hz:v.cells.size=n:=by simpa using hvlen
      simp [Instr.storeAt,Instr.sureAddr,storeVar,Ef hn,hz,hrun]
     ·intro xx
      have hov:(Ld r off (cellsOf u)).length=sz:=by rw [over_length (by omega)];exact hrl
      have hrows:∀q∈rows.set i (Ld r off (cellsOf u)),q.length=sz:=fun q hq=>by
       rcases List.mem_or_eq_of_mem_set hq with h|h
       ·exact h3 q h
       ·subst h;exact hov
      have hflen:rows.flatten.length=rows.length*sz:=Ec h3
      have hvsl:vs.length=rows.length*sz:=by rw [←h7.length];exact hflen
      have hisz:i*sz+sz≤rows.length*sz:=by
       have:(i+1)*sz≤rows.length*sz:=Nat.mul_le_mul_right _ hil
       rw [Nat.succ_mul] at this;omega
      -- the cells behind the store
      refine ⟨h1,h2,hrows,by simpa using h6,h12,fun _=>⟨c',e,fz,vs.take (i*sz+off)++(v.cells.toList++vs.drop (i*sz+off+n)),hc',by rw [hcs];exact h5,?_,?_,?_,h11⟩⟩
      ·rw [Qj h3 hr _ hov]
       have e1:rows.flatten.take (i*sz)++(Ld r off (cellsOf u)++rows.flatten.drop (i*sz+sz)) =
         rows.flatten.take (i*sz+off)++(cellsOf u++rows.flatten.drop (i*sz+off+n)):=by
        have hrr:r=(rows.flatten.drop (i*sz)).take sz:=(flatten_at h3 hr).symm
        simp only [Ld]
        rw [hrr]
        apply List.ext_getElem?
        intro k
        simp only [List.getElem?_append,List.length_append,List.length_take,List.length_drop,List.getElem?_take,List.getElem?_drop,hflen,hlen]
        grind
       rw [e1]
       exact ((h7.take _).append ((hlc).append (h7.drop _))).ext xx
      ·intro y hy
       simp only [List.mem_append] at hy
       rcases hy with hy|hy|hy
       ·exact h8 y (List.mem_of_mem_take hy)
       ·exact hvo y hy
       ·exact h8 y (List.mem_of_mem_drop hy)
      ·intro k y hk
       rw [hck]
       simp only [Nat.add_zero,hvlen,h1]
       simp only [List.getElem?_append,List.length_take,List.getElem?_take,List.getElem?_drop,hvlen,hvsl] at hk
       by_cases ha:k<i*sz+off
       ·rw [if_neg (by omega)]
        rw [if_pos (by omega),if_pos ha] at hk
        exact h10 k y hk
       ·rw [if_neg (by omega)] at hk
        by_cases hb:k<i*sz+off+n
        ·rw [if_pos (by omega)]
         rw [if_pos (by omega)] at hk
         rw [←hk];congr 1;omega
        ·rw [if_neg (by omega)]
         rw [if_neg (by omega)] at hk
         have:=h10 _ y hk
         rw [←this];congr 1;omega
    ·cases h
   ·cases h
  ·cases h
 ·cases h
end
end Go.Gm
namespace Go.Gm
section
variable {P:Program} {G:Ghost P} {hp:Am} {al:Nat→Prop} {loc:Nat→Option Loc} {w:World} {id:Nat}
theorem mem_regrow (hM:Mem G hp al loc w) (hf:¬al id) {o sz:Nat} {rows rows':List (List AV)} {l:Loc} (ho:hp o=some (.row sz true rows)) (hl:loc o=some l) {w':World}
  (hsize:w'.heap.size=w.heap.size) (hother:∀b,¬(b=l.b∧l.st<l.n)→w'.heap[b]?=w.heap[b]?) (hos:w'.os=w.os) (htape:w'.tape=w.tape) (hout:w'.output=w.output)
  {st':Nat} (hst:l.st≤st')
  (hob:∀E',Ext (Bv G.m1 hp al loc w) E'→E'.w=w'→ObjAt E' ⟨l.b,st',l.sz,l.n⟩ (.row sz true rows')) :
  ∃loc',Mem G (Ag (Ag hp o none) id (some (.row sz true rows'))) (Ku al id) loc' w'∧Ext (Bv G.m1 hp al loc w) (Bv G.m1 (Ag (Ag hp o none) id (some (.row sz true rows'))) (Ku al id) loc' w') ∧
   loc' id=some ⟨l.b,st',l.sz,l.n⟩:=by
 have hoid:o≠id:=fun e=>hf (e▸hM.al_ o l hl)
 let hp':Am:=Ag (Ag hp o none) id (some (.row sz true rows'))
 let loc':Nat→Option Loc:=Ag (Ag loc o none) id (some ⟨l.b,st',l.sz,l.n⟩)
 have hid:loc' id=some ⟨l.b,st',l.sz,l.n⟩:=Ba ..
 have hoth:∀t,t≠id→t≠o→loc' t=loc t∧hp' t=hp t:=fun t h1 h2=>⟨by simp [loc',Ag,h1,h2],by simp [hp',Ag,h1,h2]⟩
 have ho':loc' o=none∧hp' o=none:=⟨by simp [loc',Ag,hoid],by simp [hp',Ag,hoid]⟩
 have hmt:∀b,Cs hp' loc' b→Cs hp loc b:=by
  rintro b ⟨t,ob,lt,h1,h2,h3,h4,h5⟩
  by_cases e:t=id
  ·subst e
   rw [hid] at h3;cases h3
   exact ⟨o,_,l,ho,rfl,hl,h4,by simp only at h5;omega⟩
  ·by_cases e2:t=o
   ·subst e2;rw [ho'.2] at h1;cases h1
   ·rw [(hoth t e e2).1] at h3;rw [(hoth t e e2).2] at h1;exact ⟨t,ob,lt,h1,h2,h3,h4,h5⟩
 have x:Ext (Bv G.m1 hp al loc w) (Bv G.m1 hp' (Ku al id) loc' w'):=by
  refine Fh (fun t ht=>.inl ht) (fun t lt ha hlt=>?_) (by simp [hsize]) (fun b _=>hmt b) (fun b hb hn=>hother b fun ⟨e,hlt⟩=>hn ⟨o,_,l,ho,rfl,hl,e.symm,hlt⟩)
  by_cases e:t=id
  ·subst e;exact absurd ha hf
  ·by_cases e2:t=o
   ·subst e2;rw [ho'.1] at hlt;cases hlt
   ·rw [(hoth t e e2).1] at hlt;exact hlt
 refine ⟨loc',hM.change x (fun t ob hob'=>?_) (fun t hn=>?_) (fun t lt hlt=>?_) (fun t1 t2 l1 l2 h1 h2 hp1 hp2 hb=>?_) hos htape hout (fun b hb=>.inl (hmt b hb)) (fun t lt h1 h2=>?_),x,hid⟩
 ·by_cases e:t=id
  ·subst e
   have:ob=.row sz true rows':=by
    have:hp' t=some (.row sz true rows'):=Ba ..
    exact Option.some.inj (hob'.symm.trans this)
   subst this
   exact .inr ⟨_,hid,hob _ x rfl⟩
  ·by_cases e2:t=o
   ·subst e2;have:=hob'.symm.trans ho'.2;cases this
   ·have h2:=(hoth t e e2).2
    refine .inl ⟨h2.symm.trans hob',(hoth t e e2).1,fun lt hlt hpos=>hother _ fun ⟨eb,hlp⟩=>e2 (hM.inj _ _ _ _ hlt hl hpos hlp eb)⟩
 ·by_cases e:t=id
  ·subst e
   have:hp' t=some (.row sz true rows'):=Ba ..
   have:=hn.symm.trans this;cases this
  ·by_cases e2:t=o
   ·subst e2;exact ho'.1
   ·rw [(hoth t e e2).1];exact hM.none_ t ((hoth t e e2).2.symm.trans hn)
 ·by_cases e:t=id
  ·subst e;exact .inr ⟨Nat.le_refl _,by omega⟩
  ·by_cases e2:t=o
   ·subst e2;rw [ho'.1] at hlt;cases hlt
   ·rw [(hoth t e e2).1] at hlt;exact .inl (hM.al_ t lt hlt)
 ·by_cases e1:t1=id<;>by_cases e2:t2=id
  ·rw [e1,e2]
  ·exfalso
   rw [e1,hid] at h1;cases h1
   by_cases e3:t2=o
   ·rw [e3,ho'.1] at h2;cases h2
   ·rw [(hoth t2 e2 e3).1] at h2
    exact e3 (hM.inj _ _ _ _ h2 hl hp2 (by simp only at hp1;omega) hb.symm)
  ·exfalso
   rw [e2,hid] at h2;cases h2
   by_cases e3:t1=o
   ·rw [e3,ho'.1] at h1;cases h1
   ·rw [(hoth t1 e1 e3).1] at h1
    exact e3 (hM.inj _ _ _ _ h1 hl hp1 (by simp only at hp2;omega) hb)
  ·by_cases e3:t1=o
   ·rw [e3,ho'.1] at h1;cases h1
   ·by_cases e4:t2=o
    ·rw [e4,ho'.1] at h2;cases h2
    ·rw [(hoth t1 e1 e3).1] at h1;rw [(hoth t2 e2 e4).1] at h2
     exact hM.inj _ _ _ _ h1 h2 hp1 hp2 hb
 ·by_cases e:t=id
  ·subst e;rw [hid] at h1;cases h1
   exact .inl ⟨o,l,hl,by simp only at h2;omega,rfl⟩
  ·by_cases e2:t=o
   ·rw [e2,ho'.1] at h1;cases h1
   ·rw [(hoth t e e2).1] at h1;exact .inl ⟨t,lt,h1,h2,rfl⟩
def Ds (s:ByteArray):List (List AV):=s.data.toList.map fun b=>[.val (.int .u8 b.toNat)]
def Rw (P : Program) (e : TypeId) : Option (Nat × Nat) :=     -- an element's cells and bytes
 match P.info? e,Fm P e with
 | some i,some zs=>if zs.length=i.size then some (i.size,i.bytes) else none
 | _,_=>none
def Ut (P:Program) (E:Env) (sz:Nat) (tx:TypeId) (v:Value) (rows:List (List AV)):Prop :=
 ∃ws,Src P sz tx v rows.length ws E.w∧RelL E rows.flatten ws∧(∀r∈rows,r.length=sz)
theorem relL_bytes {E:Env} (s:ByteArray):RelL E (Ds s).flatten (byteCells s):=by
 unfold Ds byteCells
 induction s.data.toList with
 | nil=>exact .nil
 | cons b bs ih=>exact .cons (.val _) ih
theorem Hr (s:ByteArray):(Ds s).length=s.size:=by simp [Ds]
theorem src_string {E:Env} {tx:TypeId} (s:ByteArray) (hd:P.underlying tx=some .string):Ut P E 1 tx (.string s) (Ds s) :=
 ⟨_,by rw [Hr];exact Src.ofString E.w hd s,relL_bytes s,by simp [Ds]⟩
theorem src_slice {u:AV} {x:Value} {rows:List (List AV)} {tx e:TypeId} {sz:Nat} (hM:Mem G hp al loc w) (hr:Rel (Bv G.m1 hp al loc w) u x) (h:Ja hp u=some rows) (hd:P.underlying tx=some (.slice e)) (hsz:∀r∈rows,r.length=sz) :
  Ut P (Bv G.m1 hp al loc w) sz tx x rows:=by
 obtain ⟨p,c,rfl,hc,hh⟩:=rel_rows hM hr h
 by_cases hne:rows=[]
 ·subst hne
  refine ⟨[],⟨.inl ⟨e,hd⟩,fun _=>rfl,?_,?_,by simp,by simp⟩,.nil,by simp⟩<;>cases p<;>simp [Builtin.firstCells,loadCells,loadCellsFrom]
 ·obtain ⟨b,o,sz',vs,rfl,h0,hr',hl,hci,h1⟩:=hh hne
  have hzz:sz'=sz:=by
   cases rows with
   | nil=>exact absurd rfl hne
   | cons r rs=>rw [←hr' r (by simp),hsz r (by simp)]
  subst hzz
  have hlen:vs.length=rows.length*sz':=by rw [←hl.length];exact Ec hr'
  exact ⟨vs,Src.ofSlice w hd _ _ _ vs hlen (fun j u hu=>by rw [Fx];exact hci j u hu) h1,hl,hr'⟩
theorem Rf {e:TypeId} {sz by_:Nat} (h:Rw P e=some (sz,by_)):∃(i:TypeInfo) (z:Value),P.info? e=some i∧i.zero=some z∧i.size=sz∧i.bytes=by_∧z.cells.size=sz∧0<sz:=by
 unfold Rw at h
 split at h
 ·rename_i i zs hi hz
  split at h
  ·rename_i hl
   cases h
   unfold Fm at hz
   rw [hi] at hz
   simp only at hz
   split at hz
   ·rename_i z hzz
    split at hz
    ·rename_i hc
     cases hz
     simp at hl
     exact ⟨i,z,hi,hzz,rfl,rfl,hl,by omega⟩
    ·cases hz
   ·cases hz
  ·cases h
 ·cases h
def ownV (l:Loc) (off len:Nat) (v:Value):Prop:=∃a Cc,v=.slice a len Cc∧0<l.sz∧l.st+(off+Cc)*l.sz=l.n∧len≤Cc∧(0<Cc→a=some ⟨l.b,l.st+off*l.sz,none⟩)
theorem Ti {t tx ty e:TypeId} {i:TypeInfo} {b:Addr} {len Cc n:Nat} {x:Value} {ws:List Value} {w':World} (hu:P.underlying t=some (.slice e))
  (hi:P.info? e=some i) (hs:Src P i.size tx x n ws w) (hroom:len+n≤Cc)
  (hst:(storeCells (b.add (len*i.size)) ws).run P w=.ok () w') :
  (Builtin.append_ #[t,tx] ty #[.slice (some b) len Cc,x]).run P w=.ok (.slice (some b) (len+n) Cc) w':=by
 rcases hs.kind with ⟨e',hk⟩|hk<;>simp [Builtin.append_,run_underlying hu,run_underlying hk,sizeOf,typeInfo,hi,hs.len,hroom,hs.cells,hst]
theorem run_app_none {t tx ty e:TypeId} {i:TypeInfo} {len Cc n:Nat} {x:Value} {ws:List Value} (hu:P.underlying t=some (.slice e))
  (hi:P.info? e=some i) (hs:Src P i.size tx x n ws w) (hroom:len+n≤Cc) :
  (Builtin.append_ #[t,tx] ty #[.slice none len Cc,x]).run P w=.ok (.slice none (len+n) Cc) w:=by
 rcases hs.kind with ⟨e',hk⟩|hk<;>simp [Builtin.append_,run_underlying hu,run_underlying hk,sizeOf,typeInfo,hi,hs.len,hroom,hs.cells]
theorem append_own {t tx ty e:TypeId} {o off len sz by_:Nat} {rows ys:List (List AV)} {v x:Value} (hM:Mem G hp al loc w) (hf:¬al id) (hu:P.underlying t=some (.slice e)) (hz:Rw P e=some (sz,by_))
  (ho:hp o=some (.row sz true rows)) (hlen:off+len≤rows.length) (hv:Rel (Bv G.m1 hp al loc w) (.own o off len) v) (hx:Ut P (Bv G.m1 hp al loc w) sz tx x ys) (hby:(len+ys.length)*by_≤140737488355328) (h0:0<by_) :
  Ix P (do pure (.value (←Builtin.append_ #[t,tx] ty #[v,x]))) G hp al loc w id ⟨.own id 0 (len+ys.length),[(o,none),(id,some (.row sz true ((rows.drop off).take len++ys)))]⟩:=by
 obtain ⟨i,z,hi,hzz,hs,hb,hzs,hsz⟩:=Rf hz
 subst hs hb
 obtain ⟨ws,hsrc,hwr,hyr⟩:=hx
 have hw1:=hsrc.one
 obtain ⟨l,hl,g1,g2,g3,g4,g5⟩:=mem_loc hM ho
 have hwl:ws.length=ys.length*i.size:=by rw [←hwr.length];exact Ec hyr
 obtain ⟨a,Cc,rfl,g6,g7,g8,g9⟩:ownV l off len v:=by cases hv with|own ha hh=>exact hh l hl
 have hsz63:len+ys.length≤140737488355328:=Nat.le_trans (Nat.le_mul_of_pos_right _ h0) hby
 have hrr:∀r∈(rows.drop off).take len++ys,r.length=i.size:=fun r hr=>by
  rcases List.mem_append.1 hr with h|h
  ·exact g3 r (List.mem_of_mem_drop (List.mem_of_mem_take h))
  ·exact hyr r h
 have hrl:((rows.drop off).take len++ys).length=len+ys.length:=by simp;omega
 by_cases hroom:len+ys.length≤Cc
 ·-- in place
  by_cases hcap:Cc=0
  ·-- nothing at all
   have hl0:len=0:=by omega
   have hy0:ys=[]:=List.eq_nil_of_length_eq_zero (by omega)
   subst hl0;subst hy0
   have hws:ws=[]:=List.eq_nil_of_length_eq_zero (by simpa using hwl)
   subst hws
   have hrun:(Builtin.append_ #[t,tx] ty #[.slice a 0 Cc,x]).run P w=.ok (.slice a 0 Cc) w:=by
    subst hcap
    cases a with
    | none=>exact run_app_none (P:=P) (ty:=ty) (len:=0) (Cc:=0) hu hi hsrc (Nat.le_refl _)
    | some b=>exact Ti (P:=P) (ty:=ty) (len:=0) (Cc:=0) (b:=b) (w':=w) hu hi hsrc (Nat.le_refl _) (by simp [storeCells,Bv])
   obtain ⟨loc',hM',xx,hid⟩:=mem_regrow hM hf (rows':=(rows.drop off).take 0++[]) ho hl (w':=w) rfl (fun _ _=>rfl) rfl rfl rfl (st':=l.st+off*l.sz) (by omega)
    (fun E' _ hw'=>⟨g1,g2,by simp,by simp [g1,←g7,hcap],⟨0,by rw [←g7,hcap];simp⟩,fun hlt=>absurd hlt (by simp only;rw [←g7,hcap];simp)⟩)
   refine ⟨.value (.slice a 0 Cc),.slice a 0 Cc,w,loc',by simp [hrun],.inl rfl,hM',xx,.own (.inr ⟨Nat.le_refl _,by omega⟩) fun l' hl'=>?_⟩
   have:l'=_:=Option.some.inj (hl'.symm.trans hid)
   subst this
   exact ⟨a,Cc,rfl,g6,by simp only;rw [←g7];simp [Nat.add_mul,Nat.add_assoc],by simp,fun h=>absurd h (by omega)⟩
  ·have ha:=g9 (by omega)
   subst ha
   have hpos:l.st<l.n:=by
    rw [←g7]
    have:0<(off+Cc)*l.sz:=Nat.mul_pos (by omega) g6
    omega
   obtain ⟨l2,hl2,_,_,_,_,_,hh⟩:=hM.obj o _ ho
   have:l2=l:=Option.some.inj (hl2.symm.trans hl)
   subst this
   obtain ⟨c,ec,fz,vs,h4,h5,h7,h8,h10,h11⟩:=hh hpos
   have hfit:l2.st+off*l2.sz+len*i.size+0+ws.length≤c.size:=by
    rw [h5,hwl,←g7,g1]
    have:(len+ys.length)*i.size≤Cc*i.size:=Nat.mul_le_mul_right _ hroom
    simp only [Nat.add_mul] at this ⊢
    omega
   obtain ⟨w',hrun,hsw,hoth,a1,a2,a3,c',hc',hcs,hck⟩:=Ig (P:=P) (g:=l2.b) (o:=l2.st+off*l2.sz+len*i.size) ws 0 w c ec fz h4 hfit (by rw [h5];exact fun k hk=>h11 k (.inl hk)) hw1
   have hrun2:(Builtin.append_ #[t,tx] ty #[.slice (some ⟨l2.b,l2.st+off*l2.sz,none⟩) len Cc,x]).run P w=.ok (.slice (some ⟨l2.b,l2.st+off*l2.sz,none⟩) (len+ys.length) Cc) w':=by
    exact Ti (P:=P) hu hi hsrc hroom (by rw [Fx];exact hrun)
   have hvsl:vs.length=rows.length*i.size:=by rw [←h7.length];exact Ec g3
   obtain ⟨loc',hM',xx,hid⟩:=mem_regrow hM hf (rows':=(rows.drop off).take len++ys) ho hl (w':=w') hsw (fun b hb=>hoth b fun e=>hb ⟨e,hpos⟩) a1 a2 a3 (st':=l2.st+off*l2.sz) (by omega) (fun E' xE hw'=>by
    refine ⟨g1,g2,hrr,by rw [hrl,←g7,g1];simp only [Nat.add_mul];have:(len+ys.length)*i.size≤Cc*i.size:=Nat.mul_le_mul_right _ hroom;simp only [Nat.add_mul] at this;omega,
     ⟨Cc,by simp only;rw [←g7,g1];simp [Nat.add_mul,Nat.add_assoc]⟩,fun _=>⟨c',ec,fz,(vs.drop (off*i.size)).take (len*i.size)++ws,by rw [hw'];exact hc',by rw [hcs];exact h5,?_,?_,?_,h11⟩⟩
    ·rw [List.flatten_append,Gf (fun r hr=>g3 r (List.mem_of_mem_drop hr)),Gg g3]
     exact (((h7.drop _).take _).append hwr).ext xE
    ·intro y hy
     rcases List.mem_append.1 hy with h|h
     ·exact h8 y (List.mem_of_mem_drop (List.mem_of_mem_take h))
     ·exact hw1 y h
    ·intro k y hk
     rw [hck]
     have hll:((vs.drop (off*i.size)).take (len*i.size)).length=len*i.size:=by
      simp only [List.length_take,List.length_drop,hvsl]
      have:(off+len)*i.size≤rows.length*i.size:=Nat.mul_le_mul_right _ hlen
      simp only [Nat.add_mul] at this
      omega
     simp only [Nat.add_zero]
     by_cases hk1:k<len*i.size
     ·rw [if_neg (by omega)]
      rw [List.getElem?_append_left (by omega),List.getElem?_take,if_pos hk1,List.getElem?_drop] at hk
      have:=h10 _ y hk
      rw [←this,g1];congr 1;omega
     ·rw [List.getElem?_append_right (by omega),hll] at hk
      have hlt:k-len*i.size<ws.length:=(List.getElem?_eq_some_iff.1 hk).1
      rw [if_pos (by omega),←hk];congr 1;omega)
   refine ⟨.value (.slice (some ⟨l2.b,l2.st+off*l2.sz,none⟩) (len+ys.length) Cc),.slice (some ⟨l2.b,l2.st+off*l2.sz,none⟩) (len+ys.length) Cc,w',loc',by simp [hrun2],.inl rfl,hM',xx,.own (.inr ⟨Nat.le_refl _,by omega⟩) fun l' hl'=>?_⟩
   have:l'=_:=Option.some.inj (hl'.symm.trans hid)
   subst this
   exact ⟨_,Cc,rfl,g6,by simp only;rw [←g7];simp [Nat.add_mul,Nat.add_assoc],by omega,fun _=>by simp⟩
 ·-- a new row
  obtain ⟨hMd,xd⟩:=hM.drop o
  have hidal:∀t,al t→al t:=fun _ h=>h
  have hold:∃olds,RelL (Bv G.m1 hp al loc w) ((rows.drop off).take len).flatten olds∧(∀v∈olds,v.oneCell'=true)∧olds.length=len*i.size ∧
    (Builtin.firstCells i.size len (.slice a len Cc)).run P w.drew=.ok olds.toArray w.drew:=by
   by_cases hl0:len=0
   ·subst hl0
    refine ⟨[],by simpa using RelL.nil,by simp,by simp,?_⟩
    cases a<;>simp [Builtin.firstCells,loadCells,loadCellsFrom]
   ·have hne:rows≠[]:=fun e=>by rw [e] at hlen;simp at hlen;omega
    obtain ⟨l2,c,ec,fz,vs,hl2,_,_,_,h4,h5,_,h7,h8,h9,_⟩:=Tr hM ho hne
    have:l2=l:=Option.some.inj (hl2.symm.trans hl)
    subst this
    have ha:=g9 (by omega)
    subst ha
    have hvsl:vs.length=rows.length*i.size:=by rw [←h7.length];exact Ec g3
    have hll:((vs.drop (off*i.size)).take (len*i.size)).length=len*i.size:=by
     simp only [List.length_take,List.length_drop,hvsl]
     have:(off+len)*i.size≤rows.length*i.size:=Nat.mul_le_mul_right _ hlen
     simp only [Nat.add_mul] at this
     omega
    refine ⟨(vs.drop (off*i.size)).take (len*i.size),?_,fun v hv=>h8 v (List.mem_of_mem_drop (List.mem_of_mem_take hv)),hll,?_⟩
    ·rw [Gf (fun r hr=>g3 r (List.mem_of_mem_drop hr)),Gg g3];exact (h7.drop _).take _
    ·have hci:CellsIn w.drew l2.b (l2.st+off*l2.sz) ((vs.drop (off*i.size)).take (len*i.size)):=by
      rw [g1];exact (CellsIn.drop (w:=w.drew) (fun k v hk=>h9 k v hk) (off*i.size)).take _
     simp [Builtin.firstCells,Nh (P:=P) hci hll]
  obtain ⟨olds,hol,ho1,holen,hof⟩:=hold
  have hrun:=run_append_grow_src (P:=P) w t tx ty e i z hu hi hzz a len Cc olds hof x ys.length ws hsrc (by omega) (by omega) (growslice_fits (by omega) hby)
  have hge:=grownCap_ge w (len+ys.length) Cc e
  have hf':¬al id:=hf
  obtain ⟨loc',hM',xx,hid⟩:=Ts (vs:=olds++ws) hMd hf' (w1:=w.drew) rfl rfl rfl rfl (c:=(olds++ws).toArray++Builtin.zeroCells z.cells (grownCap w (len+ys.length) Cc e-(len+ys.length))) (e:=e) (fz:=(0,0)) (rows:=(rows.drop off).take len++ys) g2 hrr
   (by rw [List.flatten_append];exact (hol.append hwr).ext xd) (fun v hv=>by rcases List.mem_append.1 hv with h|h;exact ho1 v h;exact hw1 v h)
   (fun k v hk=>by
    have hlt:k<(olds++ws).length:=(List.getElem?_eq_some_iff.1 hk).1
    rw [Array.getElem?_append_left (by simpa using hlt)];simpa using hk)
   (by rw [hrl,Array.size_append,size_zeroCells,hzs];simp only [List.size_toArray,List.length_append,holen,hwl,←Nat.add_mul];exact Nat.mul_le_mul_right _ (by omega))
   (by simp) ⟨grownCap w (len+ys.length) Cc e,by rw [Array.size_append,size_zeroCells,hzs];simp only [List.size_toArray,List.length_append,holen,hwl,←Nat.add_mul];congr 1;omega⟩
  refine ⟨.value (.slice (some ⟨w.heap.size,0,none⟩) (len+ys.length) (grownCap w (len+ys.length) Cc e)),_,_,loc',by simp [hrun],.inl rfl,hM',xd.trans xx,.own (.inr ⟨Nat.le_refl _,by omega⟩) fun l' hl'=>?_⟩
  have:l'=_:=Option.some.inj (hl'.symm.trans hid)
  subst this
  refine ⟨_,_,rfl,g2,?_,hge,fun _=>by simp⟩
  rw [Array.size_append,size_zeroCells,hzs];simp only [List.size_toArray,List.length_append,holen,hwl,←Nat.add_mul,Nat.zero_add];congr 1;omega
theorem mem_nil (hM:Mem G hp al loc w) {al':Nat→Prop} (hf:¬al id) (hal:∀t,al t→al' t) (hid:al' id) {sz:Nat} (h0:0<sz) :
  ∃loc',Mem G (Ag hp id (some (.row sz true []))) al' loc' w∧Ext (Bv G.m1 hp al loc w) (Bv G.m1 (Ag hp id (some (.row sz true []))) al' loc' w)∧loc' id=some ⟨0,0,sz,0⟩:=by
 let loc':Nat→Option Loc:=Ag loc id (some ⟨0,0,sz,0⟩)
 have hmt:∀b,Cs (Ag hp id (some (.row sz true []))) loc' b→Cs hp loc b:=by
  rintro b ⟨t,o,l,h1,h2,h3,h4,h5⟩
  by_cases e:t=id
  ·subst e;have:l=⟨0,0,sz,0⟩:=Option.some.inj (h3.symm.trans (Ba ..));subst this;simp at h5
  ·rw [An _ _ e] at h1;simp only [loc',An _ _ e] at h3;exact ⟨t,o,l,h1,h2,h3,h4,h5⟩
 have x:Ext (Bv G.m1 hp al loc w) (Bv G.m1 (Ag hp id (some (.row sz true []))) al' loc' w):=by
  refine Fh hal (fun t l ha hl=>?_) (Nat.le_refl _) (fun b _=>hmt b) (fun _ _ _=>rfl)
  have e:t≠id:=fun e=>hf (e▸ha)
  simpa [loc',Ag,e] using hl
 refine ⟨loc',hM.change x (fun t o ho=>?_) (fun t ho=>?_) (fun t l hl=>?_) (fun t1 t2 l1 l2 h1 h2 hp1 hp2 hb=>?_) rfl rfl rfl (fun b hb=>.inl (hmt b hb)) (fun t l h1 h2=>?_),x,Ba ..⟩
 ·by_cases e:t=id
  ·subst e;rw [Ba] at ho;cases ho
   exact .inr ⟨⟨0,0,sz,0⟩,Ba ..,rfl,h0,by simp,by simp,⟨0,by simp⟩,fun h=>absurd h (by simp)⟩
  ·rw [An _ _ e] at ho;exact .inl ⟨ho,An _ _ e,fun _ _ _=>rfl⟩
 ·by_cases e:t=id
  ·subst e;rw [Ba] at ho;cases ho
  ·rw [An _ _ e] at ho;simp only [loc',An _ _ e];exact hM.none_ t ho
 ·by_cases e:t=id
  ·subst e;exact hid
  ·simp only [loc',An _ _ e] at hl;exact hal t (hM.al_ t l hl)
 ·by_cases e1:t1=id
  ·subst e1;have:l1=⟨0,0,sz,0⟩:=Option.some.inj (h1.symm.trans (Ba ..));subst this;simp at hp1
  ·by_cases e2:t2=id
   ·subst e2;have:l2=⟨0,0,sz,0⟩:=Option.some.inj (h2.symm.trans (Ba ..));subst this;simp at hp2
   ·simp only [loc',An _ _ e1] at h1;simp only [loc',An _ _ e2] at h2;exact hM.inj _ _ _ _ h1 h2 hp1 hp2 hb
 ·by_cases e:t=id
  ·subst e;have:l=⟨0,0,sz,0⟩:=Option.some.inj (h1.symm.trans (Ba ..));subst this;simp at h2
  ·simp only [loc',An _ _ e] at h1;exact .inl ⟨t,l,h1,h2,rfl⟩
theorem append_nil {t tx ty e:TypeId} {sz by_:Nat} {ys:List (List AV)} {x:Value} (hM:Mem G hp al loc w) (hf:Fresh al id) (hu:P.underlying t=some (.slice e)) (hz:Rw P e=some (sz,by_))
  (hx:Ut P (Bv G.m1 hp al loc w) sz tx x ys) (hby:ys.length*by_≤140737488355328) (h0:0<by_) :
  Ix P (do pure (.value (←Builtin.append_ #[t,tx] ty #[.slice none 0 0,x]))) G hp al loc w id ⟨.own id 0 ys.length,[(id+1,none),(id,some (.row sz true ys))]⟩:=by
 obtain ⟨i,z,hi,hzz,hs,hb,hzs,hsz⟩:=Rf hz
 have hal1:¬al (id+1):=hf (id+1) (by omega) (by omega)
 obtain ⟨loc1,hM1,x1,hl1⟩:=mem_nil (id:=id+1) (al':=fun t=>al t∨t=id+1) (sz:=sz) hM hal1 (fun t h=>.inl h) (.inr rfl) hsz
 obtain ⟨ws,hsrc,hwr,hyr⟩:=hx
 have hown:Rel (Bv G.m1 (Ag hp (id+1) (some (.row sz true []))) (fun t=>al t∨t=id+1) loc1 w) (.own (id+1) 0 0) (.slice none 0 0) :=
  .own (.inr rfl) fun l hl=>by
   have:l=⟨0,0,sz,0⟩:=Option.some.inj (hl.symm.trans hl1)
   subst this
   exact ⟨none,0,rfl,hsz,by simp,Nat.le_refl _,fun h=>absurd h (by omega)⟩
 have hd:=append_own (P:=P) (G:=G) (id:=id) (t:=t) (tx:=tx) (ty:=ty) (len:=0) (rows:=[]) (off:=0) (v:=.slice none 0 0) (x:=x) (ys:=ys) hM1 (by intro h;rcases h with h|h;exact hf id (Nat.le_refl _) (by omega) h;omega) hu hz (Ba ..) (by simp) hown ⟨ws,hsrc,hwr.ext x1,hyr⟩ (by simpa using hby) h0
 obtain ⟨nx,v,w',loc',hrun,hv,hM',x',hr⟩:=hd
 simp only [Nat.zero_add,List.drop_nil,List.take_nil,List.nil_append,Be] at hM' x' hr
 have hhp:Ag (Ag (Ag hp (id+1) (some (.row sz true []))) (id+1) none) id (some (.row sz true ys))=Ag (Ag hp (id+1) none) id (some (.row sz true ys)):=by
  funext t;simp [Ag]
  by_cases e:t=id<;>by_cases e2:t=id+1<;>simp [e,e2]
 rw [hhp] at hM' x' hr
 obtain ⟨hM2,x2⟩:=hM'.more (al':=Ku al id) (fun t ht=>by rcases ht with (h|h)|h;exact .inl h;exact .inr (by omega);exact .inr h)
 exact ⟨nx,v,w',loc',hrun,hv,hM2,(x1.trans x').trans x2,hr.ext x2⟩
def Mk (P : Program) (t : TypeId) : Option (TypeId × Nat × Nat × List AV) :=   -- element, cells, bytes, zero cells
 match Cz P t with
 | some e=>match Rw P e,Fm P e with
  | some (sz,b),some zs=>some (e,sz,b,zs)
  | _,_=>none
 | none=>none
theorem makeC_eq {t e:TypeId} {sz b:Nat} {zs:List AV} (h:Mk P t=some (e,sz,b,zs)):P.underlying t=some (.slice e)∧Rw P e=some (sz,b)∧Fm P e=some zs∧zs.length=sz:=by
 unfold Mk at h
 split at h
 ·rename_i e' he
  split at h
  ·rename_i sz' b' zs' hi hz
   cases h
   refine ⟨Gr he,hi,hz,?_⟩
   unfold Rw at hi
   rw [hz] at hi
   split at hi
   ·rename_i i zs2 _ hz2
    cases hz2
    split at hi
    ·cases hi;assumption
    ·cases hi
   ·cases hi
  ·cases h
 ·cases h
theorem Jd (n:Nat) (zs:List Value):RelL (Bv G.m1 hp al loc w) (List.replicate n (zs.map AV.val)).flatten (List.replicate n zs).flatten:=by
 induction n with
 | zero=>exact .nil
 | succ n ih=>simp only [List.replicate_succ,List.flatten_cons];exact (Is zs).append ih
theorem modRow (z:Array Value) (hz:0<z.size) (n:Nat):((Array.range (n*z.size)).map (z[· % z.size]!)).toList=(List.replicate n z.toList).flatten:=by
 induction n with
 | zero=>simp
 | succ n ih =>
  rw [List.replicate_succ',List.flatten_append,←ih]
  apply List.ext_getElem?
  intro k
  have hsz:(n+1)*z.size=n*z.size+z.size:=Nat.succ_mul ..
  by_cases h1:k<n*z.size
  ·rw [List.getElem?_append_left (by simpa using h1)]
   simp [Array.getElem?_map,Array.getElem?_range,h1,hsz,Nat.lt_of_lt_of_le h1 (Nat.le_add_right _ _)]
  ·rw [List.getElem?_append_right (by simpa using h1)]
   simp only [Array.toList_map,List.getElem?_map,List.length_map,Array.length_toList,Array.size_range,List.flatten_cons,List.flatten_nil,List.append_nil]
   by_cases h2:k<n*z.size+z.size
   ·have h3:k-n*z.size<z.size:=by omega
    have h4:k % z.size=k-n*z.size:=by
     have:k=z.size*n+(k-n*z.size):=by rw [Nat.mul_comm];omega
     rw [this,Nat.mul_add_mod,Nat.mod_eq_of_lt (by omega)];omega
    simp [hsz,h2,h4,h3]
   ·simp [hsz,h2]
    omega
end
end Go.Gm
namespace Go.Gm
section
variable {P:Program} {G:Ghost P} {hp:Am} {al:Nat→Prop} {loc:Nat→Option Loc} {w:World} {id:Nat}
def Sg (P:Program) (t:TypeId):Option (Nat→Option (Nat×Nat)) :=
 match P.underlying t with
 | some (.array _ e)=>(P.info? e).map fun ie=>fun i=>some (i*ie.size,ie.size)
 | some (.struct fields)=>(fields.toList.mapM (fun f=>(P.info? f.type).map fun i=>(f.offset,i.size))).map fun places=>fun i=>places.toArray[i]?
 | _=>none
def Fz (hp:Am) (pl:Nat→Option (Nat×Nat)) (cs:List AV):List (Nat×AV)→Option (List AV)
 | []=>some cs
 | (i,u)::r=>match pl i with
  | none=>none
  | some (off,sz)=>if (cellsOf u).length=sz∧off+sz≤cs.length∧(cellsOf u).all (Dj hp)=true then Fz hp pl (Ld cs off (cellsOf u)) r else none
inductive RelP (E:Env):List (Nat×AV)→List (Nat×Value)→Prop
 | nil:RelP E [] []
 | cons {i:Nat} {u:AV} {v:Value} {us:List (Nat×AV)} {vs:List (Nat×Value)} (h:Rel E u v) (hs:RelP E us vs):RelP E ((i,u)::us) ((i,v)::vs)
theorem foldl_set (vs:List Value):∀(k off:Nat) (cs:Array Value),off+k+vs.length≤cs.size →
  ((vs.zipIdx k).foldl (fun cs (x:Value×Nat)=>cs.setIfInBounds (off+x.2) x.1) cs).toList=cs.toList.take (off+k)++(vs++cs.toList.drop (off+k+vs.length)):=by
 induction vs with
 | nil=>intro k off cs _;simp
 | cons v vs ih =>
  intro k off cs h
  simp only [List.length_cons] at h
  simp only [List.zipIdx_cons,List.foldl_cons]
  rw [ih (k+1) off _ (by simp;omega)]
  apply List.ext_getElem?
  intro n
  have hl:off+k<cs.size:=by omega
  simp only [List.getElem?_append,List.length_take,List.getElem?_take,List.getElem?_drop,Array.toList_setIfInBounds,List.getElem?_set,List.length_set,Array.length_toList,List.getElem?_cons,List.length_cons]
  grind
theorem fill_rel (hM:Mem G hp al loc w) (pl:Nat→Option (Nat×Nat)):∀{parts:List (Nat×AV)} {parts':List (Nat×Value)} {cs cs':List AV} {cells:Array Value},RelL (Bv G.m1 hp al loc w) cs cells.toList→(∀v∈cells.toList,v.oneCell'=true) →
  RelP (Bv G.m1 hp al loc w) parts parts'→Fz hp pl cs parts=some cs'→∃cells',Instr.fill pl cells parts'=some cells'∧RelL (Bv G.m1 hp al loc w) cs' cells'.toList∧(∀v∈cells'.toList,v.oneCell'=true)
 | _,_,cs,_,cells,hl,h1,.nil,h=>by
  simp [Fz] at h;subst h
  exact ⟨cells,by simp [Instr.fill],hl,h1⟩
 | _,_,cs,cs',cells,hl,h1,.cons (i:=i) (u:=u) (v:=v) hu hs,h=>by
  simp only [Fz] at h
  split at h
  ·cases h
  ·rename_i off sz hpl
   split at h
   ·rename_i hc
    obtain ⟨c1,c2,c3⟩:=hc
    obtain ⟨hcl,hc1⟩:=Qx hM hu c3
    have hvl:v.cells.toList.length=sz:=by rw [←hcl.length];exact c1
    have hcs:cs.length=cells.size:=by rw [hl.length];simp
    have hf:=foldl_set v.cells.toList 0 off cells (by simp only [hvl];omega)
    simp only [Nat.add_zero,hvl] at hf
    have hzip:v.cells.zipIdx.foldl (fun cs (x:Value×Nat)=>cs.setIfInBounds (off+x.2) x.1) cells=(v.cells.toList.zipIdx 0).foldl (fun cs (x:Value×Nat)=>cs.setIfInBounds (off+x.2) x.1) cells:=by
     rw [←Array.foldl_toList];simp
    have hrel:RelL (Bv G.m1 hp al loc w) (Ld cs off (cellsOf u)) (v.cells.zipIdx.foldl (fun cs (x:Value×Nat)=>cs.setIfInBounds (off+x.2) x.1) cells).toList:=by
     rw [hzip,hf,Ld,c1]
     exact (hl.take _).append (hcl.append (hl.drop _))
    have hone:∀x∈(v.cells.zipIdx.foldl (fun cs (x:Value×Nat)=>cs.setIfInBounds (off+x.2) x.1) cells).toList,x.oneCell'=true:=by
     rw [hzip,hf]
     intro x hx
     simp only [List.mem_append] at hx
     rcases hx with hx|hx|hx
     ·exact h1 x (List.mem_of_mem_take hx)
     ·exact hc1 x hx
     ·exact h1 x (List.mem_of_mem_drop hx)
    obtain ⟨cells',hf',hr',ho'⟩:=fill_rel hM pl hrel hone hs h
    refine ⟨cells',?_,hr',ho'⟩
    have hvs:v.cells.size=sz:=by simpa using hvl
    simp only [Instr.fill,hpl]
    rw [if_neg (by simp [hvs];omega)]
    exact hf'
   ·cases h
def Hg (P:Program) (hp:Am) (t:TypeId) (parts:List (Nat×AV)):Option AV :=
 match Fm P t,Sg P t with
 | some zs,some pl=>(Fz hp pl zs parts).map .agg
 | _,_=>none
theorem built_eq {t:TypeId} {zs:List AV} {pl:Nat→Option (Nat×Nat)} (hz:Fm P t=some zs) (hp:Sg P t=some pl) :
  ∃z:Value,zs=z.cells.toList.map .val∧(∀v∈z.cells.toList,v.oneCell'=true)∧∀parts,P.built t parts=Instr.fill pl z.cells parts:=by
 unfold Fm at hz
 split at hz
 ·rename_i i hi
  split at hz
  ·rename_i z hzz
   split at hz
   ·rename_i hc
    cases hz
    refine ⟨z,rfl,fun v hv=>?_,fun parts=>?_⟩
    ·have:=Array.all_eq_true.1 hc.1
     obtain ⟨k,hk,rfl⟩:=List.getElem_of_mem hv
     exact this k (by simpa using hk)
    ·unfold Sg at hp
     unfold Program.built
     rw [hi]
     split at hp
     ·rename_i n e hu
      cases hie:P.info? e with
      | none=>rw [hie] at hp;cases hp
      | some ie=>rw [hie] at hp;cases hp;simp [hu,hzz,hie]
     ·rename_i fields hu
      cases hm:fields.toList.mapM (fun f=>(P.info? f.type).map fun i=>(f.offset,i.size)) with
      | none=>rw [hm] at hp;cases hp
      | some places=>rw [hm] at hp;cases hp;simp [hu,hzz,hm]
     ·cases hp
   ·cases hz
  ·cases hz
 ·cases hz
theorem does_build {t:TypeId} {parts:List (Nat×AV)} {parts':Array (Nat×Value)} {u:AV} (hM:Mem G hp al loc w) (hr:RelP (Bv G.m1 hp al loc w) parts parts'.toList) (h:Hg P hp t parts=some u) :
  Ix P (do pure (.value (←Instr.build t parts'))) G hp al loc w id ⟨u,[]⟩:=by
 unfold Hg at h
 split at h
 ·rename_i zs pl hz hpl
  obtain ⟨z,rfl,h1,hb⟩:=built_eq hz hpl
  cases hfa:Fz hp pl (z.cells.toList.map .val) parts with
  | none=>rw [hfa] at h;cases h
  | some cs =>
   rw [hfa] at h;cases h
   obtain ⟨cells,hf,hrel,_⟩:=fill_rel hM pl (cells:=z.cells) (Is _) h1 hr hfa
   have hrun:=run_build (P:=P) w t parts' cells (by rw [hb];exact hf)
   refine Cg (v:=.agg cells) hM (by simp [hrun]) ?_
   have:=Rel.agg hrel
   simpa using this
 ·cases h
def Po (n:Nat) (zs:List AV):List (List AV):=List.replicate n zs
def Px (hp:Am) (sz:Nat) (rows:List (List AV)):List (Nat×AV)→Option (List (List AV))
 | []=>some rows
 | (i,u)::r=>if i<rows.length∧(cellsOf u).length=sz∧(cellsOf u).all (Dj hp)=true then Px hp sz (rows.set i (cellsOf u)) r else none
theorem rowsP_fill:∀{parts:List (Nat×AV)} {rows rows':List (List AV)} {sz:Nat},(∀r∈rows,r.length=sz)→Px hp sz rows parts=some rows' →
  Fz hp (fun i=>some (i*sz,sz)) rows.flatten parts=some rows'.flatten∧(∀r∈rows',r.length=sz)∧rows'.length=rows.length
 | [],rows,rows',sz,h,he=>by simp [Px] at he;subst he;exact ⟨rfl,h,rfl⟩
 | (i,u)::r,rows,rows',sz,h,he=>by
  simp only [Px] at he
  split at he
  ·rename_i hc
   obtain ⟨c1,c2,c3⟩:=hc
   have hrow:rows[i]?=some rows[i]:=by simp [c1]
   have hset:∀q∈rows.set i (cellsOf u),q.length=sz:=fun q hq=>by
    rcases List.mem_or_eq_of_mem_set hq with hq|hq
    ·exact h q hq
    ·subst hq;exact c2
   obtain ⟨h1,h2,h3⟩:=rowsP_fill hset he
   refine ⟨?_,h2,by simpa using h3⟩
   simp only [Fz]
   have hle:(i+1)*sz≤rows.length*sz:=Nat.mul_le_mul_right _ c1
   rw [if_pos ⟨c2,by rw [Ec h];rw [Nat.succ_mul] at hle;exact hle,c3⟩]
   have:=Qj h hrow (cellsOf u) c2
   rw [Ld,c2,←this]
   exact h1
  ·cases he
def Iw (P:Program) (hp:Am) (id:Nat) (t:TypeId) (len:Nat) (parts:List (Nat×AV)):Option AR :=
 match Mk P t with
 | some (_,sz,_,zs)=>if len*sz≤16777216 then
   match Px hp sz (Po len zs) parts with
   | some rows=>some ⟨.own id 0 len,[(id,some (.row sz true rows))]⟩
   | none=>none
  else none
 | none=>none
theorem zeroV {e:TypeId} {zs:List AV} (h:Fm P e=some zs):∃z:Value,(∀w,(zeroValue e).run P w=.ok z w)∧zs=z.cells.toList.map .val∧(∀v∈z.cells.toList,v.oneCell'=true)∧0<z.cells.size:=zeroC_run h
theorem own_new {sz:Nat} {rows:List (List AV)} {c:Array Value} {loc':Nat→Option Loc} {hp':Am} {w':World} {Cc n:Nat} (hl':loc' id=some ⟨n,0,sz,c.size⟩) (h0:0<sz) (hc:c.size=Cc*sz) (hlen:rows.length≤Cc) :
  Rel (Bv G.m1 hp' (Ku al id) loc' w') (.own id 0 rows.length) (.slice (some ⟨n,0,none⟩) rows.length Cc) :=
 .own (.inr ⟨Nat.le_refl _,by omega⟩) fun l hl=>by
  have:l=_:=Option.some.inj (hl.symm.trans hl')
  subst this
  exact ⟨_,Cc,rfl,h0,by simp [hc],hlen,fun _=>by simp⟩
theorem infoZ_sz {e:TypeId} {sz b:Nat} (h:Rw P e=some (sz,b)):Nu P e=some sz:=by
 obtain ⟨i,z,hi,_,hs,_⟩:=Rf h
 simp [Nu,hi,hs]
theorem Xo {t:TypeId} {len:Nat} {parts:List (Nat×AV)} {parts':Array (Nat×Value)} {r:AR} (hM:Mem G hp al loc w) (hf:¬al id) (hr:RelP (Bv G.m1 hp al loc w) parts parts'.toList) (h:Iw P hp id t len parts=some r) :
  Ix P (do pure (.value (←Instr.buildSlice t len parts'))) G hp al loc w id r:=by
 unfold Iw at h
 split at h
 ·rename_i e sz by_ zs hmk
  obtain ⟨hu,hi,hz,hzl⟩:=makeC_eq hmk
  split at h
  ·rename_i hbig
   split at h
   ·rename_i rows hrows
    cases h
    obtain ⟨z,hzr,hzz,hz1,hz0⟩:=zeroV hz
    have hzs:z.cells.size=sz:=by rw [hzz] at hzl;simpa using hzl
    obtain ⟨hfill,hrsz,hrl⟩:=rowsP_fill (hp:=hp) (sz:=sz) (by simp [Po,hzl]) hrows
    simp only [Po,List.length_replicate] at hrl
    have hrl0:RelL (Bv G.m1 hp al loc w) (Po len zs).flatten ((Array.range (len*sz)).map (z.cells[· % z.cells.size]!)).toList:=by
     rw [←hzs,modRow z.cells hz0,Po,hzz];exact Jd _ _
    have hone0:∀v∈((Array.range (len*sz)).map (z.cells[· % z.cells.size]!)).toList,v.oneCell'=true:=by
     rw [←hzs,modRow z.cells hz0]
     intro v hv
     obtain ⟨l,hl,hvl⟩:=List.mem_flatten.1 hv
     rw [List.eq_of_mem_replicate hl] at hvl
     exact hz1 v hvl
    obtain ⟨cells,hfl,hrel,hone⟩:=fill_rel hM _ hrl0 hone0 hr hfill
    have hcs:cells.size=len*sz:=by
     have h1:=hrel.length
     rw [Ec hrsz,hrl] at h1
     simpa using h1.symm
    obtain ⟨loc',hM',x,hl'⟩:=Ts (vs:=cells.toList) hM hf (w1:=w) rfl rfl rfl rfl (c:=cells) (e:=e) (fz:=(0,0)) (rows:=rows) (by omega) hrsz hrel hone (fun k v hk=>by simpa using hk) (by rw [hcs,hrl];exact Nat.le_refl _) (by simp) ⟨len,hcs⟩
    refine ⟨.value (.slice (some ⟨w.heap.size,0,none⟩) len len),_,_,loc',?_,.inl rfl,hM',x,?_⟩
    ·have hb':¬(16777216<len*sz):=by omega
     have hr0:Array.range 0 = #[]:=rfl
     by_cases h0:len=0
     ·subst h0
      simp only [Nat.zero_mul,hr0,List.map_toArray,List.map_nil] at hfl
      simp [Instr.buildSlice,underlying,hu,Ef (infoZ_sz hi),hr0,newRow]
      simp [hfl]
     ·have hne:¬(len*sz=0):=Nat.mul_ne_zero h0 (by omega)
      simp only [Instr.buildSlice,underlying,hu,Ef (infoZ_sz hi),hb',hne,Sem.run_bind,Sem.run_ite,run_program,Result.andThen_ok,Sem.run_pure,if_false,hzr]
      simp [hb',hne,hzr,hfl,newRow,Ef (infoZ_sz hi)]
    ·have:=own_new (G:=G) (al:=al) (id:=id) (rows:=rows) (c:=cells) (loc':=loc') (hp':=Ag hp id (some (.row sz true rows))) (w':=w.alloc (.cells cells e)) (Cc:=len) hl' (by omega) hcs (by omega)
     rw [hrl] at this
     exact this
   ·cases h
  ·cases h
 ·cases h
end
end Go.Gm
namespace Go.Gm
section
variable {P:Program} {G:Ghost P} {hp:Am} {al:Nat→Prop} {loc:Nat→Option Loc} {w:World} {id:Nat}
def makeA (P:Program) (id:Nat) (t:TypeId) (l c:AV):Option AR :=
 match Mk P t,La l,La c with
 | some (_,sz,by_,zs),some l,some c=>if l≤c∧by_*c≤281474976710656∧c≤140737488355328 then some ⟨.own id 0 l,[(id,some (.row sz true (Po l zs)))]⟩ else none
 | _,_,_=>none
theorem does_make {t:TypeId} {l c:AV} {l' c':Value} {r:AR} (hM:Mem G hp al loc w) (hf:¬al id) (hl:Rel (Bv G.m1 hp al loc w) l l') (hc:Rel (Bv G.m1 hp al loc w) c c') (h:makeA P id t l c=some r) :
  Ix P (do pure (.value (←Instr.makeSlice t l' c'))) G hp al loc w id r:=by
 unfold makeA at h
 split at h
 ·rename_i e sz by_ zs n m hmk hn hm
  obtain ⟨hu,hi,hz,hzl⟩:=makeC_eq hmk
  split at h
  ·rename_i hcond
   obtain ⟨h1,h2,h3⟩:=hcond
   cases h
   obtain ⟨kl,rfl⟩:=Oa hl hn
   obtain ⟨kc,rfl⟩:=Oa hc hm
   obtain ⟨i,z,hii,hzz,hs,hb,hzs,hsz⟩:=Rf hi
   obtain ⟨z2,hzr,hzl2,hz1,hz0⟩:=zeroV hz
   have hz2:z2=z:=by
    have:=hzr w
    simp [zeroValue,typeInfo,hii,hzz] at this
    exact this.symm
   subst hz2
   have hb':(i.bytes:Int)*(m:Int)≤281474976710656:=by
    have:((by_*m:Nat):Int)≤281474976710656:=by omega
    rw [hb];rwa [Int.natCast_mul] at this
   have hrun:=run_make (P:=P) w t e i z2 hu hii hzz kl kc n m (by omega) (by omega) hb' (by omega)
   simp only [Int.toNat_natCast,hs] at hrun
   have hcs:(madeCells z2.cells (m*sz)).size=m*sz:=size_madeCells _ _
   have hmt:(madeCells z2.cells (m*sz)).toList=(List.replicate m z2.cells.toList).flatten:=by rw [madeCells,←hzs];exact modRow z2.cells hz0 m
   have hrl:RelL (Bv G.m1 hp al loc w) (Po n zs).flatten (List.replicate n z2.cells.toList).flatten:=by rw [Po,hzl2];exact Jd _ _
   obtain ⟨loc',hM',x,hl'⟩:=Ts (vs:=(List.replicate n z2.cells.toList).flatten) hM hf (w1:=w) rfl rfl rfl rfl (c:=madeCells z2.cells (m*sz)) (e:=e) (fz:=(0,0)) (rows:=Po n zs) hsz (by simp [Po,hzl]) hrl
    (fun v hv=>by
     obtain ⟨q,hq,hvq⟩:=List.mem_flatten.1 hv
     rw [List.eq_of_mem_replicate hq] at hvq
     exact hz1 v hvq)
    (fun k v hk=>by
     rw [←Array.getElem?_toList,hmt]
     have:(List.replicate m z2.cells.toList).flatten=(List.replicate n z2.cells.toList).flatten++(List.replicate (m-n) z2.cells.toList).flatten:=by
      rw [←List.flatten_append,List.replicate_append_replicate];congr 2;omega
     rw [this,List.getElem?_append_left (List.getElem?_eq_some_iff.1 hk).1];exact hk)
    (by rw [hcs];simp only [Po,List.length_replicate];exact Nat.mul_le_mul_right _ h1) (by simp) ⟨m,hcs⟩
   refine ⟨.value (.slice (some ⟨w.heap.size,0,none⟩) n m),_,_,loc',by simp [hrun],.inl rfl,hM',x,?_⟩
   have:=own_new (G:=G) (al:=al) (id:=id) (rows:=Po n zs) (c:=madeCells z2.cells (m*sz)) (loc':=loc') (hp':=Ag hp id (some (.row sz true (Po n zs)))) (w':=w.alloc (.cells (madeCells z2.cells (m*sz)) e)) (Cc:=m) hl' hsz hcs (by simpa [Po] using h1)
   simp only [Po,List.length_replicate] at this ⊢
   exact this
  ·cases h
 ·cases h
def isU8 (P:Program) (e:TypeId):Bool:=match P.underlying e with
 | some (.int .u8)=>true
 | _=>false
def Gd (P:Program) (e:TypeId):Bool:=match P.underlying e with
 | some .string=>true
 | _=>false
theorem Yd {e:TypeId} (h:isU8 P e=true):P.underlying e=some (.int .u8):=by unfold isU8 at h;split at h<;>simp_all
theorem Jq {e:TypeId} (h:Gd P e=true):P.underlying e=some .string:=by unfold Gd at h;split at h<;>simp_all
theorem bytesWorld_eq (w:World) (e:TypeId) (s:ByteArray):Lib.bytesWorld w e s=w.drew.alloc (.cells (Lib.bytesCells w e s) e ((Lib.bytesCells w e s).size,(Lib.bytesCells w e s).size+1)):=by
 have hh:(Lib.bytesWorld w e s).heap=(w.drew.alloc (.cells (Lib.bytesCells w e s) e ((Lib.bytesCells w e s).size,(Lib.bytesCells w e s).size+1))).heap:=by
  apply Array.ext_getElem?
  intro j
  by_cases h1:j<w.heap.size
  ·rw [Lib.bytesWorld_at_old w e s j h1,Gu w.drew _ j h1];rfl
  ·by_cases h2:j=w.heap.size
   ·subst h2;rw [Lib.bytesWorld_at_new];exact (heap_alloc_new w.drew _).symm
   ·rw [Array.getElem?_eq_none,Array.getElem?_eq_none]
    ·simp;omega
    ·rw [Lib.bytesWorld_size];omega
 have e1:(Lib.bytesWorld w e s)={ (Lib.bytesWorld w e s) with heap:=(Lib.bytesWorld w e s).heap }:=rfl
 rw [e1,hh]
 rfl
def Lr (P:Program) (id:Nat) (src dst:TypeId) (x:AV):Option AR :=
 match x,Cz P dst with
 | .val (.string s),some e=>if Gd P src=true∧isU8 P e=true∧Nu P e=some 1 then some ⟨.own id 0 s.size,[(id,some (.row 1 true (Ds s)))]⟩ else none
 | _,_=>none
theorem does_toBytes {src dst:TypeId} {x:AV} {v:Value} {r:AR} (hM:Mem G hp al loc w) (hf:¬al id) (hr:Rel (Bv G.m1 hp al loc w) x v) (h:Lr P id src dst x=some r) :
  Ix P (do pure (.value (←convert src dst v))) G hp al loc w id r:=by
 unfold Lr at h
 split at h
 ·rename_i s e hd
  split at h
  ·rename_i hc
   obtain ⟨c1,c2,c3⟩:=hc
   cases h
   cases hr
   have hrun:=Lib.run_convert_string_bytes (P:=P) w src dst e s (Jq c1) (Gr hd) (Yd c2)
   rw [bytesWorld_eq] at hrun
   have hge:=grownCap_ge w s.size 0 e
   have hcs:(Lib.bytesCells w e s).size=grownCap w s.size 0 e*1:=by simp [Lib.bytesCells];omega
   obtain ⟨loc',hM',xx,hl'⟩:=Ts (vs:=byteCells s) hM hf (w1:=w.drew) rfl rfl rfl rfl (c:=Lib.bytesCells w e s) (e:=e) (fz:=((Lib.bytesCells w e s).size,(Lib.bytesCells w e s).size+1)) (rows:=Ds s) (by omega) (by simp [Ds])
    (relL_bytes s) (by simp [byteCells];intro a _;rfl) (fun k u hk=>by
     have hlt:k<(byteCells s).length:=(List.getElem?_eq_some_iff.1 hk).1
     rw [byteCells_length] at hlt
     rw [←hk,Lib.bytesCells,Array.getElem?_append_left (by simpa using hlt),←Array.getElem?_toList]
     simp [byteCells])
    (by rw [hcs,Hr];omega) (fun k hk=>by simp;omega) ⟨_,hcs⟩
   refine ⟨.value (.slice (some ⟨w.heap.size,0,none⟩) s.size (grownCap w s.size 0 e)),_,_,loc',by simp [hrun],.inl rfl,hM',xx,?_⟩
   have:=own_new (G:=G) (al:=al) (id:=id) (rows:=Ds s) (c:=Lib.bytesCells w e s) (loc':=loc') (hp':=Ag hp id (some (.row 1 true (Ds s)))) (w':=w.drew.alloc (.cells (Lib.bytesCells w e s) e ((Lib.bytesCells w e s).size,(Lib.bytesCells w e s).size+1))) (Cc:=grownCap w s.size 0 e) hl' (by omega) hcs (by rw [Hr];exact hge)
   rw [Hr] at this
   exact this
  ·cases h
 ·cases h
def byteRow:List AV→Option Int
 | [.val (.int .u8 n)]=>some n
 | _=>none
def Fb:List (List AV)→Option (List Int)
 | []=>some []
 | r::rs=>match byteRow r,Fb rs with
  | some n,some ns=>some (n::ns)
  | _,_=>none
theorem Uk {E:Env}:∀{rows:List (List AV)} {ns:List Int} {vs:List Value},Fb rows=some ns→RelL E rows.flatten vs→vs=ns.map (Value.int .u8 ·)
 | [],ns,vs,h,hl=>by simp [Fb] at h;subst h;cases hl;rfl
 | r::rs,ns,vs,h,hl=>by
  simp only [Fb] at h
  split at h
  ·rename_i n ns' hr hrs
   cases h
   unfold byteRow at hr
   split at hr
   ·rename_i m
    cases hr
    simp only [List.flatten_cons,List.cons_append,List.nil_append] at hl
    cases hl with
    | cons h1 hs=>cases h1;simp [Uk hrs hs]
   ·cases hr
  ·cases h
theorem Pj:∀{rows:List (List AV)} {ns:List Int},Fb rows=some ns→ns.length=rows.length
 | [],ns,h=>by simp [Fb] at h;subst h;rfl
 | r::rs,ns,h=>by
  simp only [Fb] at h
  split at h
  ·rename_i n ns' hr hrs;cases h;simp [Pj hrs]
  ·cases h
def Gx (P:Program) (hp:Am) (src dst:TypeId) (x:AV):Option AV :=
 match Ja hp x,Cz P src with
 | some rows,some e=>if Gd P dst=true∧isU8 P e=true then (Fb rows).map fun ns=>.val (.string (strOfNums ns)) else none
 | _,_=>none
theorem Sx {src dst:TypeId} {x u:AV} {v:Value} (hM:Mem G hp al loc w) (hr:Rel (Bv G.m1 hp al loc w) x v) (h:Gx P hp src dst x=some u) :
  Ix P (do pure (.value (←convert src dst v))) G hp al loc w id ⟨u,[]⟩:=by
 unfold Gx at h
 split at h
 ·rename_i rows e hrows he
  split at h
  ·rename_i hc
   obtain ⟨c1,c2⟩:=hc
   cases hb:Fb rows with
   | none=>rw [hb] at h;cases h
   | some ns =>
    rw [hb] at h;cases h
    obtain ⟨p,c,rfl,hcap,hh⟩:=rel_rows hM hr hrows
    have hnl:=Pj hb
    refine Cg (v:=.string (strOfNums ns)) hM ?_ (.val _)
    by_cases hne:rows=[]
    ·subst hne
     have:ns=[]:=List.eq_nil_of_length_eq_zero (by simpa using hnl)
     subst this
     cases p with
     | none=>simp [convert,underlying,Gr he,Jq c1,Yd c2,Conv.bytesToString,strOfNums];rfl
     | some a =>
      obtain ⟨b,o,sp⟩:=a
      simp [convert,underlying,Gr he,Jq c1,Yd c2,Conv.bytesToString,strOfNums,loadCells,loadCellsFrom];rfl
    ·obtain ⟨b,o,sz,vs,rfl,h0,hsz,hl,hci,h1⟩:=hh hne
     have hvs:=Uk hb hl
     subst hvs
     have:=run_convert_bytes_arg (P:=P) w src e (Gr he) (Yd c2) b o rows.length c ns hnl (fun i hi=>by
      refine hci i _ ?_
      rw [List.getElem?_map,List.getD_eq_getElem?_getD,List.getElem?_eq_getElem (by omega)];rfl) dst (Jq c1)
     simp [this]
  ·cases h
 ·cases h
end
end Go.Gm
