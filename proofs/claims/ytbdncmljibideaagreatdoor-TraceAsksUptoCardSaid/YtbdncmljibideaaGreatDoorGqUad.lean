import Derived.Test.YtbdncmljibideaaGreatDoorGqUac
import Derived.ProofKit
import Derived.OpenShut
import Derived.JoinedCond
import Derived.WideKeyArgs
import Derived.Deep.Slices
set_option linter.all false
namespace Go.Gm
mutual
def norm:AV→AV
  | .val (.slice none 0 0)=>.sl []
  | .val (.func f ⟨[]⟩ ⟨[]⟩)=>.clo f [] []
  | .sl rows=>.sl (Fp rows)
  | .agg cs=>.agg (Du cs)
  | .tup cs=>.tup (Du cs)
  | .ip cs=>.ip (Du cs)
  | u=>u
def Du:List AV→List AV
  | []=>[]
  | c::cs=>norm c::Du cs
def Fp:List (List AV)→List (List AV)
  | []=>[]
  | r::rs=>Du r::Fp rs
end
theorem Tp:∀(a b:List AV),Du (a++b)=Du a++Du b
  | [],b=>by simp [Du]
  | c::cs,b=>by simp [Du,Tp cs b]
theorem To:∀(a:List AV),(Du a).length=a.length
  | []=>by simp [Du]
  | c::cs=>by simp [Du,To cs]
theorem Tn:∀(a:List (List AV)),(Fp a).length=a.length
  | []=>by simp [Fp]
  | c::cs=>by simp [Fp,Tn cs]
theorem Rv:∀(a:List (List AV)),(Fp a).flatten=Du a.flatten
  | []=>by simp [Fp,Du]
  | c::cs=>by simp [Fp,Rv cs,Tp]
theorem normR_sz:∀{a:List (List AV)} {sz:Nat},(∀r∈a,r.length=sz)→∀r∈Fp a,r.length=sz
  | [],_,_,r,hr=>by simp [Fp] at hr
  | c::cs,sz,h,r,hr=>by
    simp only [Fp,List.mem_cons] at hr
    rcases hr with rfl|hr
    · rw [To];exact h c (by simp)
    · exact normR_sz (fun x hx=>h x (by simp [hx])) r hr
mutual
theorem rel_norm {E:Env}:∀{u:AV} {v:Value},Rel E u v→Rel E (norm u) v
  | _,_,.any v=>by simp only [norm];exact .any v
  | _,_,.val v=>by
    unfold norm
    split
    · rename_i h;cases h;exact .sl0 _ _
    · rename_i h;cases h;exact .clo (f':=[]) (c':=[]) .nil .nil
    · rename_i h;cases h
    · rename_i h;cases h
    · rename_i h;cases h
    · rename_i h;cases h
    · exact .val v
  | _,_,.agg hl=>by simp only [norm];exact .agg (Lm hl)
  | _,_,.tup hl=>by simp only [norm];exact .tup (Lm hl)
  | _,_,.sl0 a c=>by simp only [norm,Fp];exact .sl0 a c
  | _,_,.sl (rows:=rows) hb hm hr hsz h0 hcap h1 hc hl=>by
    simp only [norm]
    have hlen:=Tn rows
    rw [←hlen] at hcap ⊢
    exact .sl hb hm (fun h=>hr (by rw [h] at hlen;exact List.eq_nil_of_length_eq_zero hlen.symm)) (normR_sz hsz) h0 hcap h1 hc (by rw [Rv];exact Lm hl)
  | _,_,.own ha h=>by simp only [norm];exact .own ha h
  | _,_,.ptr ha h=>by simp only [norm];exact .ptr ha h
  | _,_,.ip hb hm h1 hc hl=>by simp only [norm];exact .ip hb hm h1 hc (Lm hl)
  | _,_,.clo hf hc=>by simp only [norm];exact .clo hf hc
  | _,_,.ifc hu=>by simp only [norm];exact .ifc hu
  | _,_,.mp ha h=>by simp only [norm];exact .mp ha h
  | _,_,.im hb hm h he hx hl=>by simp only [norm];exact .im hb hm h he hx hl
  | _,_,.im0=>by simp only [norm];exact .im0
theorem Lm {E:Env}:∀{us:List AV} {vs:List Value},RelL E us vs→RelL E (Du us) vs
  | _,_,.nil=>by simp only [Du];exact .nil
  | _,_,.cons h hs=>by simp only [Du];exact .cons (rel_norm h) (Lm hs)
end
theorem Pc {P:Program} {f:FuncId} {us xs:List AV} {X:AV} (h:PC P f xs X) (hx:Du us=xs):PC P f us X:=fun m w vs hm ht hr=>h m w vs hm ht (hx▸Lm hr)
end Go.Gm
namespace Go.Gm
open Go.ChangeShapes Go.WideShapes Go.ChangeAt Go.RowKit Go.Deep
structure BulkOk (B:(H:Type)→DataW H→Nat):Prop where
 str:∀{H:Type} (bs:List UInt8),bs.length≤B H (.lit (.string bs))
 len:∀{H:Type} (l s:List (DataW H)),l.length≤B H (.slice l s)
 elem:∀{H:Type} (l s:List (DataW H)) (d:DataW H),d∈l→B H d≤B H (.slice l s)
 part:∀{H:Type} (l:List (DataW H)) (d:DataW H),d∈l→B H d≤B H (.agg l)
 ptr:∀{H:Type} (d:DataW H),B H d≤B H (.ptr d)
abbrev W0 (w:World):Env:=E0 (fun _=>False) w
theorem w0_mt {w:World} {b:Nat}:¬(W0 w).mt b:=by
 rintro (⟨t,o,l,h,_⟩|h)
 ·cases h
 ·exact h
variable {B:(H:Type)→DataW H→Nat} {P:Program}
def Wq {α:Type} (B:(H:Type)→DataW H→Nat) (P:Program) (t:TypeId) (enc:α→List AV) (V:Nat→α→Prop):Prop :=
 ∀{H:Type} (e:TypeId×Value→H) (w:World) (Qh:Nat) (cs:List Value) (d:DataW H) (ps:List MemPlace),
  DataW.trod e P w 0 (fun _=>true) true Qh t cs=some (d,ps)→∃x:α,RelL (W0 w) (enc x) cs∧(∀v∈cs,v.oneCell'=true)∧∀n,B H d≤n→V n x
theorem typ_int {t:TypeId} {k:IntKind} (ht:P.underlying t=some (.int k)):Wq B P t (fun n:Int=>[.val (.int k n)]) (fun _ n=>k.min≤n∧n≤k.max):=fun e w Qh cs d ps h=>by
 obtain ⟨n,rfl,_,hw⟩:=DataW.trod_int ht h
 refine ⟨n,.cons (.val _) .nil,by simp [Value.oneCell'],fun _ _=>?_⟩
 simpa [Lit.wf] using hw
theorem typ_str (hB:BulkOk B) {t:TypeId} (ht:P.underlying t=some .string):Wq B P t (fun s:ByteArray=>[.val (.string s)]) (fun n s=>s.size≤n):=@fun H e w Qh cs d ps h=>by
 obtain ⟨s,rfl,hx,_⟩:=DataW.trod_string ht h
 refine ⟨s,.cons (.val _) .nil,by simp [Value.oneCell'],fun n hn=>?_⟩
 have hd:d=.lit (.string s.data.toList):=(Prod.mk.inj hx).1
 have h1:=hB.str (H:=H) s.data.toList
 rw [←hd] at h1
 have h2:s.data.toList.length=s.size:=rfl
 omega
theorem cells_at {w:World} {base b o n:Nat} {cs:List Value} {s:Option Nat} (h:w.cells? base ⟨b,o,s⟩ n=some cs) (h0:0<n):s=none∧cs.length=n∧∀k v,cs[k]?=some v→w.cell? ⟨b,o+k,none⟩=some v:=by
 obtain ⟨hb,hl,hc⟩:=World.cells?_some h
 have hs:s=none:=by
  have h1:=hc 0 h0
  cases s with
  | none=>rfl
  | some q =>
   have:w.cell? ((⟨b,o,some q⟩:Addr).add 0)=none:=by
    simp only [Addr.add,if_true,World.cell?]
    cases w.heap[b]? with
    | none=>rfl
    | some ob=>cases ob<;>simp
   rw [this] at h1
   have:=List.getElem?_eq_none_iff.1 h1.symm
   omega
 subst hs
 refine ⟨rfl,hl,fun k v hk=>?_⟩
 have hlt:k<n:=by have:=(List.getElem?_eq_some_iff.1 hk).1;omega
 have:=hc k hlt
 rw [Fx] at this
 rw [this,hk]
theorem typ_slice {α:Type} (hB:BulkOk B) {t e:TypeId} {enc:α→List AV} {V:Nat→α→Prop} (ht:P.underlying t=some (.slice e)) (he:Wq B P e enc V) {sz:Nat} (hc:P.cellsOf e=sz) (h0:0<sz) :
  Wq B P t (fun l:List α=>[.sl (l.map enc)]) (fun n l=>l.length≤n∧∀x∈l,V n x):=fun en w Qh cs d ps h=>by
 rcases open_slice ht h with ⟨rfl,_⟩|⟨a,len,Cc,m,n,D,Pl,rfl,hb,hl,hm,hmm,hx,hel⟩
 ·refine ⟨[],.cons (.sl0 _ _) .nil,by simp [Value.oneCell'],fun n hn=>⟨Nat.zero_le _,fun x hx=>by cases hx⟩⟩
 ·subst hc
  have hmc:m=Cc:=by simpa using hmm
  subst hmc
  have hex:∀i,i<len→∃x:α,∃cs',w.cells? 0 (a.add (i*P.cellsOf e)) (P.cellsOf e)=some cs'∧RelL (W0 w) (enc x) cs'∧(∀v∈cs',v.oneCell'=true)∧∀n,B _ (D i)≤n→V n x:=fun i hi=>by
   obtain ⟨cs',h1,h2⟩:=hel i (by omega)
   obtain ⟨x,h3,h4,h5⟩:=he en w n cs' (D i) (Pl i) h2
   exact ⟨x,cs',h1,h3,h4,h5⟩
  obtain ⟨b,o,s⟩:=a
  by_cases hz:len=0
  ·subst hz
   refine ⟨[],.cons (.sl0 _ _) .nil,by simp [Value.oneCell'],fun n hn=>⟨Nat.zero_le _,fun x hx=>by cases hx⟩⟩
  ·have hs:s=none:=by
    obtain ⟨x,cs',h1,_⟩:=hex 0 (by omega)
    simp only [Nat.zero_mul] at h1
    have:(⟨b,o,s⟩:Addr).add 0=⟨b,o,s⟩:=rfl
    rw [this] at h1
    exact (cells_at h1 h0).1
   subst hs
   -- the list
   have hlist:∀k,k≤len→∃(l:List α) (vs:List Value),l.length=k∧(∀x∈l,(enc x).length=P.cellsOf e)∧RelL (W0 w) (l.map enc).flatten vs∧(∀v∈vs,v.oneCell'=true)∧(∀j v,vs[j]?=some v→w.cell? ⟨b,o+j,none⟩=some v)∧vs.length=k*P.cellsOf e ∧
     ∀x∈l,∃i,i<len∧∀n,B _ (D i)≤n→V n x:=by
    intro k
    induction k with
    | zero=>intro _;exact ⟨[],[],rfl,by simp,.nil,by simp,by simp,by simp,by simp⟩
    | succ k ih =>
     intro hk
     obtain ⟨l,vs,g1,g2,g3,g4,g5,g6,g7⟩:=ih (by omega)
     obtain ⟨x,cs',h1,h2,h3,h4⟩:=hex k (by omega)
     rw [Fx] at h1
     obtain ⟨_,hlen,hcell⟩:=cells_at h1 h0
     refine ⟨l++[x],vs++cs',by simp [g1],?_,?_,?_,?_,by rw [List.length_append,g6,hlen,Nat.succ_mul],?_⟩
     ·intro y hy
      rcases List.mem_append.1 hy with hy|hy
      ·exact g2 y hy
      ·simp at hy;subst hy;rw [h2.length];exact hlen
     ·simp only [List.map_append,List.map_cons,List.map_nil,List.flatten_append,List.flatten_cons,List.flatten_nil,List.append_nil]
      exact g3.append h2
     ·intro v hv
      rcases List.mem_append.1 hv with hv|hv
      ·exact g4 v hv
      ·exact h3 v hv
     ·intro j v hj
      by_cases hlt:j<vs.length
      ·rw [List.getElem?_append_left hlt] at hj;exact g5 j v hj
      ·rw [List.getElem?_append_right (by omega)] at hj
       have:=hcell _ _ hj
       rw [g6] at this hlt
       rw [show o+j=o+k*P.cellsOf e+(j-k*P.cellsOf e) by omega]
       exact this
     ·intro y hy
      rcases List.mem_append.1 hy with hy|hy
      ·exact g7 y hy
      ·simp at hy;subst hy;exact ⟨k,by omega,h4⟩
   obtain ⟨l,vs,g1,g2,g3,g4,g5,g6,g7⟩:=hlist len (Nat.le_refl _)
   have hne:l.map enc≠[]:=by
    intro hh;have:=congrArg List.length hh;simp at this;rw [this] at g1;exact hz g1.symm
   have hblt:b<(W0 w).w.heap.size:=by
    cases vs with
    | nil=>simp at g6;have:=Nat.mul_pos (Nat.pos_of_ne_zero hz) h0;omega
    | cons v vs =>
     have:=g5 0 v rfl
     simp only [World.cell?] at this
     show b<w.heap.size
     cases hq:w.heap[b]? with
     | none=>simp [hq] at this
     | some ob=>exact (Array.getElem?_eq_some_iff.1 hq).1
   have hR:Rel (W0 w) (.sl (l.map enc)) (.slice (some ⟨b,o,none⟩) (l.map enc).length m) :=
    .sl (sz:=P.cellsOf e) hblt w0_mt hne (fun r hr=>by obtain ⟨x,hx,rfl⟩:=List.mem_map.1 hr;exact g2 x hx) h0 (by simp [g1];exact hl) g4 g5 g3
   rw [List.length_map,g1] at hR
   refine ⟨l,.cons hR .nil,by simp [Value.oneCell'],fun n hn=>?_⟩
   have hd:d=.slice ((List.range len).map D) ((List.range (m-len)).map fun j=>D (len+j)):=(Prod.mk.inj hx).1
   subst hd
   refine ⟨?_,fun x hx=>?_⟩
   ·have:=hB.len ((List.range len).map D) ((List.range (m-len)).map fun j=>D (len+j))
    simp at this
    omega
   ·obtain ⟨i,hi,hV⟩:=g7 x hx
    exact hV n (Nat.le_trans (hB.elem _ _ (D i) (List.mem_map.2 ⟨i,by simpa using hi,rfl⟩)) hn)
def FldR {α:Type} (B:(H:Type)→DataW H→Nat) (P:Program) (L:Nat) (fs:List (TypeId×Nat)) (o:Nat) (enc:α→List AV) (V:Nat→α→Prop):Prop :=
 ∀{H:Type} (e:TypeId×Value→H) (w:World) (Qh:Nat) (cs:List Value) (ds:List (DataW H×List MemPlace)),cs.length=L→ds.length=fs.length →
  (∀(i:Nat) (f:TypeId×Nat),fs[i]?=some f→DataW.trod e P w 0 (fun _=>true) true Qh f.1 ((cs.drop f.2).take (P.cellsOf f.1))=ds[i]?) →
  ∃x:α,RelL (W0 w) (enc x) (cs.drop o)∧(∀v∈cs.drop o,v.oneCell'=true)∧∀n,(∀d∈ds,B H d.1≤n)→V n x
def isAg:TypeDesc→Bool
 | .struct _=>true
 | .array _ _=>true
 | _=>false
def wrapA (ag:Bool) (cs:List AV):List AV:=if ag then [.agg cs] else cs
def ArgR {α:Type} (B:(H:Type)→DataW H→Nat) (P:Program) (ts:List TypeId) (enc:α→List AV) (V:Nat→α→Prop):Prop :=
 ∀{H:Type} (e:TypeId×Value→H) (w:World) (base:Nat) (vs:List Value) (ds:List (DataW H)) (ps:List MemPlace),(∀(j:Nat) t v,ts[j]?=some t→vs[j]?=some v→Value.okWide P w .any base t v) →
  DataW.TrodAll e P w 0 (fun _=>true) true ts vs ds ps→∃x:α,RelL (W0 w) (enc x) vs∧∀n,(∀d∈ds,B H d≤n)→V n x
theorem arg_nil:ArgR B P [] (fun _:Unit=>[]) (fun _ _=>True):=fun e w base vs ds ps _ h=>by
 obtain ⟨rfl,rfl,rfl⟩:=trodAll_nil h
 exact ⟨(),.nil,fun _ _=>trivial⟩
theorem Ul {α β:Type} {t:Nat} {d:TypeDesc} {ag:Bool} {ts:List TypeId} {enc1:α→List AV} {enc2:β→List AV} {V1:Nat→α→Prop} {V2:Nat→β→Prop} (hu:P.underlying t=some d) (ha:isAg d=ag) (h1:Wq B P t enc1 V1) (h2:ArgR B P ts enc2 V2) :
  ArgR B P (t::ts) (fun x:α×β=>wrapA ag (enc1 x.1)++enc2 x.2) (fun n x=>V1 n x.1∧V2 n x.2):=fun e w base vs ds ps hok h=>by
 obtain ⟨v,vs',d',ds',p,q,rfl,rfl,rfl,⟨Qh,hd⟩,hr⟩:=trodAll_cons h
 obtain ⟨x,g1,g2,g3⟩:=h1 e w Qh _ d' p hd
 obtain ⟨y,k1,k2⟩:=h2 e w base vs' ds' q (fun j t v ht hv=>hok (j+1) t v (by simpa using ht) (by simpa using hv)) hr
 have hv:=hok 0 t v rfl rfl
 refine ⟨(x,y),RelL.append (vs:=[v]) ?_ k1,fun n hn=>⟨g3 n (hn d' (by simp)),k2 n fun d hd=>hn d (by simp [hd])⟩⟩
 subst ha
 unfold wrapA
 cases hag:isAg d with
 | true =>
  rw [if_pos rfl]
  have:∃cs,v=.agg cs:=by
   unfold Value.okWide at hv
   rw [hu] at hv
   cases d<;>simp [isAg] at hag
   ·obtain ⟨cs,h,_⟩:=hv;exact ⟨cs,h⟩
   ·obtain ⟨cs,h,_⟩:=hv;exact ⟨cs,h⟩
  obtain ⟨cs,rfl⟩:=this
  exact .cons (.agg g1) .nil
 | false =>
  simp only [Bool.false_eq_true,if_false]
  have:v.cells.toList=[v]:=by
   unfold Value.okWide at hv
   rw [hu] at hv
   cases d<;>simp [isAg] at hag<;>(simp only [Cell.okWide,hu] at hv)<;>(cases v<;>simp_all [Cell.ok,Value.cells])
  rw [this] at g1
  exact g1
theorem post_same {H:Type} {enc:TypeId×Value→H} {f:Func} {s:ChangeSpec} {apart fresh handsOn again:Bool} {W W':World} {args:Array Value} {v:Value} {ds gs:List (DataW H)} {before pa pv:List MemPlace}
  (hW:DataW.Whole enc P f.params.toList s.vars apart W args.toList ds gs before)
  (hres:∀(b:Nat) (sp:Nat→Bool) (hd:Bool),DataW.TrodAll enc P W' b sp hd f.resultTypes.toList (v.resultList f.resultTypes.size) (s.fn H (ds++gs)).results [])
  (hargs:∀sp:Nat→Bool,(∀p∈before,sp p.block=true)→DataW.TrodAll enc P W' 0 sp true f.params.toList args.toList (s.fn H (ds++gs)).args pa)
  (hvars:∀sp:Nat→Bool,(∀p∈before,sp p.block=true)→DataW.TrodVars enc P W' sp s.vars (s.fn H (ds++gs)).vars pv)
  (hps:before=pa++pv) (hk:W.keptBut W' (· ∈ before)) (hfz:∀a:Addr,a.block<W.heap.size→W'.frozen? a=W.frozen? a)
  (hok:∀(j:Nat) (t:TypeId) (r:Value),f.resultTypes[j]?=some t→(v.resultList f.resultTypes.size)[j]?=some r→Value.okWide P W' .any 0 t r) :
  s.post enc P f apart fresh handsOn again W args v W':=by
 have hold:∀p∈before,(fun b=>decide (b<W.heap.size)) p.block=true:=fun p hp=>by simpa using hW.lt p hp
 refine ⟨ds,gs,before,[],pa,pv,hW,hres _ _ _,hargs _ hold,hvars _ hold,World.keptBut_mono (fun p hp=>⟨hp,?_⟩) hk,fun _=>?_⟩
 ·rw [hps,List.mem_append] at hp
  exact Or.inr hp
 ·have hlt:=hW.lt
  obtain ⟨_,_,_,_,_,hz,hn⟩:=hW
  refine ⟨hok,_,_,([]++pa)++pv,⟨[]++pa,pv,trodAll_append (hargs _ (fun _ _=>rfl)) (hres _ _ _),hvars _ (fun _ _=>rfl),rfl,?_,?_⟩,?_⟩
  ·intro b off hp
   have hb:MemPlace.cell b off∈before:=by rw [hps];simpa using hp
   rw [hfz _ (hlt _ hb)]
   exact hz b off hb
  ·intro ha
   have:=hn ha
   rw [hps] at this
   simpa using this
  ·intro p hp _
   rw [hps]
   simpa using hp
theorem Ru {H:Type} {enc:TypeId×Value→H} (hl:laidOutB P=true) {W W':World} (hb:∀b,b<W.heap.size→W'.heap[b]?=W.heap[b]?) (sp:Nat→Bool) :
  ∀{ts:List TypeId} {vs:List Value} {ds:List (DataW H)} {ps:List MemPlace},(∀t∈ts,P.readableRec t=true∧t<P.types.size)→DataW.TrodAll enc P W 0 (fun _=>true) true ts vs ds ps→(∀p∈ps,p.block<W.heap.size)→(∀p∈ps,sp p.block=true) →
   DataW.TrodAll enc P W' 0 sp true ts vs ds ps
 | [],_,_,_,_,h,_,_=>by
  obtain ⟨rfl,rfl,rfl⟩:=trodAll_nil h
  exact trodAll_mk0
 | t::ts,_,_,_,ht,h,hlt,hs=>by
  obtain ⟨v,vs',d,ds',p,q,rfl,rfl,rfl,h1,h2⟩:=trodAll_cons h
  refine ⟨p,q,WideElems.Trod_stays hl (ht t (by simp)).1 (ht t (by simp)).2 h1 (fun x hx=>?_) (fun x hx=>hs x (by simp [hx])),Ru hl hb sp (fun t ht'=>ht t (by simp [ht'])) h2 (fun p hp=>hlt p (by simp [hp])) (fun p hp=>hs p (by simp [hp])),rfl⟩
  have hx':=hlt x (by simp [hx])
  cases x with
  | cell b off=>exact Gi (hb b hx')
  | map b=>exact hb b hx'
theorem law_contract {H:Type} {enc:TypeId×Value→H} {f:FuncId} {fn:Func} {s:ChangeSpec} {W:World} {args:Array Value} {ds gs:List (DataW H)} {before:List MemPlace} {us:List AV} {apart fresh handsOn again:Bool} {tb:TypeId}
  (hl:laidOutB P=true) (hT:(fn.params.toList.all fun t=>P.readableRec t && decide (t<P.types.size))=true) (hvars:s.vars=[]) (hres:fn.resultTypes = #[tb]) (htb:P.underlying tb=some .bool)
  (hfn:(s.fn H ds)={ results:=[.lit (.bool true)],args:=ds })
  (hW:DataW.Whole enc P fn.params.toList s.vars apart W args.toList ds gs before) (hrel:RelL (W0 W) us args.toList) (hpc:PC P f us (.val (.bool true))) (htab:TabH P (fun _=>False) W) :
  Calls P f args W fun e W'=>∃v,e=.returned v∧s.post enc P fn apart fresh handsOn again W args v W':=by
 have hT':∀t∈fn.params.toList,P.readableRec t=true∧t<P.types.size:=fun t ht=>by
  have:=List.all_eq_true.1 hT t ht;simpa using this
 have hlt:=hW.lt
 have hW':=hW
 obtain ⟨p,q,hA,hV,rfl,hfz,hnd⟩:=hW
 rw [hvars] at hV
 obtain ⟨rfl,rfl⟩:=trodVars_none hV
 have hc:=hpc (fun _=>False) W args.toList (fun _ h=>h.elim) htab hrel
 have:args.toList.toArray=args:=by simp
 rw [this] at hc
 refine hc.mono ?_
 rintro e W' ⟨v,hp,al,loc,r,ts,rfl,hM,hr,hs,_⟩
 have hv:v=.bool true:=by
  cases r with
  | val x=>simp only [Cl,Option.some.injEq,Prod.mk.injEq,AV.val.injEq] at hs;rw [hs.1] at hr;exact Gw hr
  | agg l=>simp only [Cl] at hs;cases hq:Ir hp l<;>simp [hq] at hs
  | tup l=>simp only [Cl] at hs;cases hq:Ir hp l<;>simp [hq] at hs
  | sl l=>simp only [Cl] at hs;split at hs<;>simp at hs
  | ip l=>simp only [Cl] at hs;split at hs<;>simp at hs
  | own t o n=>simp only [Cl] at hs;split at hs<;>(try split at hs)<;>simp at hs
  | clo fn f c=>simp only [Cl] at hs;split at hs<;>simp at hs
  | _=>simp [Cl] at hs
 subst hv
 have hkeep:∀b,b<W.heap.size→W'.heap[b]?=W.heap[b]?:=fun b hb=>hM.keep b hb (fun h=>h)
 refine ⟨_,rfl,post_same (pa:=p) (pv:=[]) hW' ?_ ?_ ?_ rfl ?_ ?_ ?_⟩
 ·intro b sp hd
  rw [hres]
  simp only [List.append_nil,hfn]
  exact trodAll_cons_mk (shut_bool htb _) trodAll_mk0
 ·intro sp hsp
  simp only [List.append_nil,hfn]
  exact Ru hl hkeep sp hT' hA (fun x hx=>hlt x (by simp [hx])) (fun x hx=>hsp x (by simp [hx]))
 ·intro sp _
  rw [hvars]
  simp only [List.append_nil,hfn]
  rfl
 ·refine ⟨hM.os,hM.output,fun i hi=>?_⟩
  rw [hkeep i hi]
  cases W.heap[i]? with
  | none=>rfl
  | some o=>cases o<;>simp
 ·intro a ha
  simp only [World.frozen?,hkeep _ ha]
 ·exact ok_one hres rfl (okWide_bool_mk htb _)
theorem Ww {H:Type} {enc:TypeId×Value→H} {W:World} {base:Nat} {sp:Nat→Bool} {held:Bool}:∀{ts:List TypeId} {vs:List Value} {ds:List (DataW H)} {ps:List MemPlace},DataW.TrodAll enc P W base sp held ts vs ds ps→ds.length=ts.length
 | [],_,_,_,h=>by obtain ⟨rfl,rfl,rfl⟩:=trodAll_nil h;rfl
 | _::_,_,_,_,h=>by
  obtain ⟨v,vs',d,ds',p,q,rfl,rfl,rfl,h1,h2⟩:=trodAll_cons h
  simp [Ww h2]
theorem law_end {α H:Type} {enc:TypeId×Value→H} {f:FuncId} {fn:Func} {s:ChangeSpec} {W:World} {base n:Nat} {args:Array Value} {ds gs:List (DataW H)} {before:List MemPlace} {apart fresh handsOn again:Bool} {tb:TypeId} {ts:List TypeId} {encA:α→List AV} {V:Nat→α→Prop}
  (hA:ArgR B P ts encA V) (hpc:∀x,V n x→PC P f (encA x) (.val (.bool true)))
  (hl:laidOutB P=true) (hT:(ts.all fun t=>P.readableRec t && decide (t<P.types.size))=true) (hvars:s.vars=[]) (hres:fn.resultTypes = #[tb]) (htb:P.underlying tb=some .bool) (hts:fn.params=ts.toArray)
  (hfn:∀ds:List (DataW H),ds.length=ts.length→(s.fn H ds)={ results:=[.lit (.bool true)],args:=ds })
  (hval:∀(j:Nat) t v,fn.params[j]?=some t→args[j]?=some v→Value.okWide P W .any base t v)
  (hW:DataW.Whole enc P fn.params.toList s.vars apart W args.toList ds gs before) (hb:∀d∈ds,B H d≤n) (htab:TabH P (fun _=>False) W) :
  Calls P f args W fun e W'=>∃v,e=.returned v∧s.post enc P fn apart fresh handsOn again W args v W':=by
 have hts':fn.params.toList=ts:=by rw [hts]
 obtain ⟨p,q,hR,_⟩:=id hW
 rw [hts'] at hR
 obtain ⟨x,hrel,hB⟩:=hA enc W base args.toList ds p (fun j t v ht hv=>hval j t v (by rw [hts,←Array.getElem?_toList];exact ht) (by rw [←Array.getElem?_toList];exact hv)) hR
 exact law_contract hl (by rw [hts'];exact hT) hvars hres htb (hfn ds (Ww hR)) hW hrel (hpc x (hB n hb)) htab
end Go.Gm
namespace Go.Gm
attribute [go_sem] ar_nil ar_move ar_assign ar_pick ar_alloc ar_box ar_build ar_buildSlice ar_load ar_store ar_nilCheck ar_fieldAddr ar_indexAddr ar_index ar_slice ar_extract ar_bin ar_un ar_convert ar_makeFunc Wm mkI_val mkI_ptr mkI_agg3 convS_ap convT_row ar_makeMap ar_lookup ar_mapUpdate ar_makeSlice ar_builtin ar_call arK_some ar_g gval_some arG_tt arG_ff arG_tf arG_ft arG_un pick_nil pick_cons pickO_some ad_nil ad_o ad_g adK_some adG_tt adG_ff adG_tf adG_ft adG_un okPair_nil okPair_cons disj_nil disj_nil2 accE_nil accE_t accE_w touch_move touch_assign touch_un touch_bin touch_pick touch_load touch_nilCheck touch_store Xk Xj touch_index touch_extract touch_convert touch_builtin touch_call touch_slice touchO_none touchO_some touch_build Uz tidA_val tidA_sl tidA_ip tidA_own tidA_ptr tidA_agg tidA_tup tidL_nil tidL_cons applyEff_nil applyEff_cons okD_some okD_none putF_some putF_none Ae Yn Rq evF_func callOf_fn callOf_builtin callOf_tmp callOf_move callOf_assign callOf_pick callOf_alloc callOf_box callOf_build Uj callOf_load callOf_store Xr Wl Wk callOf_index callOf_slice callOf_extract callOf_binOp callOf_unOp callOf_convert Xt Qy callOf_makeMap callOf_lookup Wi Wj aop_move aop_assign aop_pick pickE_tt pickE_ff pickE_t pickE_f aop_alloc aop_box aop_build aop_buildSlice aop_load aop_store aop_fieldAddr aop_indexAddr aop_extract aop_makeFunc Un aop_makeMap aop_lookup aop_mapUpdate aop_makeSlice aop_call aop_append aop_bin aop_un nilB_val nilB_agg nilB_ptr nilB_ip isNilV_nil nilOp_eql nilOp_neq Vl aop_len lenO_nil lenO_sl lenO_own lenO_str binE_some binV_add binV_sub binV_mul binV_eql binV_neq binV_lss binV_leq binV_gtr binV_geq binV_seq binV_sne binV_sge unE_not unE_neg Tg natOf_cast natOf_0 natOf_1 Qf Vk fieldP mkv Nc liveV Qs initF_ap List.getElem?_cons_zero List.getElem?_cons_succ List.getElem?_nil List.map_cons List.map_nil List.length_cons List.length_nil List.append_nil List.nil_append List.cons_append List.flatMap_cons List.flatMap_nil List.getElem?_map List.length_map List.drop_zero List.drop_succ_cons List.take_succ_cons List.take_zero List.head?_cons Option.map_some Option.map_none Option.bind_some Option.bind_none Option.getD_some Option.getD_none Option.isSome_some Option.isSome_none true_and and_true if_true if_false ite_true ite_false decide_true decide_false eq_self Nat.le_refl Bool.true_eq_false Bool.false_eq_true Bool.not_true Bool.not_false true_or or_true Nat.left_eq_add Nat.add_eq_left Bool.or_false Bool.or_true Bool.false_or Bool.true_or Bool.and_true Bool.true_and Bool.and_false Bool.false_and claimV_val claimV_sl claimV_fr claimV_agg claimV_tup claimL_nil claimL_cons shares_val shares_sl shares_fr shares_agg shares_tup sharesL_nil sharesL_cons tidV_own tidV_val tidV_sl tidV_ip tidV_agg tidV_any freezeL_nil freezeL_cons effOf_nil effOf_cons afterCall_eq resV_int resV_bool resV_str resV_nil resV_sl resV_ip resV_agg resV_own resL_nil resL_cons inl_val inl_sl inl_ip inlL_nil inlL_cons inlR_nil inlR_cons tab_head callA_eq callQ_some callR_some fillA_nil fillA_cons plf_ap cellsOf_val cellsOf_sl cellsOf_own cellsOf_ptr cellsOf_ip cellsOf_agg oneAV_int oneAV_bool oneAV_str oneAV_slice oneAV_ptr0 oneAV_sl oneAV_ip oneAV_own oneAV_ptr over_eq storeP_ptr partsF_eq appS_own appS_nil Bw srcA_own srcA_sl srcA_str Iw Px Po List.all_cons List.all_nil List.set_cons_zero List.set_cons_succ List.replicate_succ List.replicate_zero List.drop_nil List.take_nil List.length_append List.length_set and_self ite_self Nat.zero_add Nat.add_zero Nat.zero_le aop_slice isStrV_sl isStrV_own isStrV_nil isStrV_str nat_zero Int.cast_ofNat_Int aop_index idxO_nat disj_cons List.getD_cons_zero List.getD_cons_succ List.getD_nil List.mem_cons List.not_mem_nil or_false false_or not_or forall_eq forall_eq_or_imp ne_eq not_true_eq_false not_false_eq_true
end Go.Gm
namespace Go.Gm
section
variable {σ ρ:Type}
def Hs (step:σ→Option (σ⊕ρ)):Nat→σ→Option ρ
  | 0,_=>none
  | n+1,s=>match step s with
    | some (.inl s')=>Hs step n s'
    | some (.inr r)=>some r
    | none=>none
theorem iterO_det {step:σ→Option (σ⊕ρ)}:∀{n m:Nat} {s:σ} {r r':ρ},Hs step n s=some r→Hs step m s=some r'→r=r'
  | 0,_,_,_,_,h,_=>by cases h
  | _+1,0,_,_,_,_,h=>by cases h
  | n+1,m+1,s,r,r',h,k=>by
    simp only [Hs] at h k
    cases hs:step s with
    | none=>rw [hs] at h;cases h
    | some x =>
      rw [hs] at h k
      cases x with
      | inl s'=>exact iterO_det h k
      | inr q=>cases h;cases k;rfl
open Classical in
noncomputable def loopO (step:σ→Option (σ⊕ρ)) (s:σ):Option ρ:=if h:∃r n,Hs step n s=some r then some h.choose else none
theorem loopO_iff {step:σ→Option (σ⊕ρ)} {s:σ} {r:ρ}:loopO step s=some r↔∃n,Hs step n s=some r:=by
  unfold loopO
  constructor
  · intro h
    split at h
    · rename_i hc;cases h;exact hc.choose_spec
    · cases h
  · rintro ⟨n,hn⟩
    have hc:∃r n,Hs step n s=some r:=⟨r,n,hn⟩
    rw [dif_pos hc]
    obtain ⟨m,hm⟩:=hc.choose_spec
    rw [iterO_det hm hn]
theorem Bj {step:σ→Option (σ⊕ρ)} {s s':σ} (h:step s=some (.inl s')):loopO step s=loopO step s':=by
  apply Option.ext
  intro r
  rw [loopO_iff,loopO_iff]
  constructor
  · rintro ⟨n,hn⟩
    cases n with
    | zero=>cases hn
    | succ n=>simp only [Hs,h] at hn;exact ⟨n,hn⟩
  · rintro ⟨n,hn⟩
    exact ⟨n+1,by simp only [Hs,h];exact hn⟩
theorem Al {step:σ→Option (σ⊕ρ)} {s:σ} {r:ρ} (h:step s=some (.inr r)):loopO step s=some r:=loopO_iff.2 ⟨1,by simp only [Hs,h]⟩
theorem Dv {step:σ→Option (σ⊕ρ)} (I:Nat→σ→Prop) {Q:ρ→Prop} (h:∀k s,I k s→(∃s' k',step s=some (.inl s')∧k'<k∧I k' s')∨(∃r,step s=some (.inr r)∧Q r)) :
    ∀{k:Nat} {s:σ},I k s→∃r,loopO step s=some r∧Q r:=by
  intro k
  induction k using Nat.strongRecOn with
  | ind k ih =>
    intro s hs
    rcases h k s hs with ⟨s',k',h1,h2,h3⟩|⟨r,h1,h2⟩
    · obtain ⟨r,h4,h5⟩:=ih k' h2 h3
      exact ⟨r,(Bj h1).trans h4,h5⟩
    · exact ⟨r,Al h1,h2⟩
end
section
variable {P:Program} {N:Nat} {Q:Exit→ASt→Prop} {st:ASt} {σ ρ:Type}
theorem AW.loopO {c:Code} {step:σ→Option (σ⊕ρ)} (tm:σ→ASt) (X:ρ→Exit→ASt→Prop) {s0:σ} {r:ρ} (h:Gm.loopO step s0=some r) (he:Ent N st (tm s0))
    (round:∀s x,step s=some x→AW P N c (Kj (fun st'=>∃s',x=.inl s'∧Ent N st' (tm s')) (fun e st'=>∃r,x=.inr r∧∃st'',Ent N st' st''∧X r e st'')) (tm s))
    (fin:∀e st',X r e st'→∃st'',Ent N st' st''∧Q e st''):AW P N (.loop c) Q st:=by
  obtain ⟨n,hn⟩:=loopO_iff.1 h
  refine AW.loop (fun k st=>∃s,Hs step k s=some r∧st=tm s) n (tm s0) he ⟨s0,hn,rfl⟩ ?_
  rintro k _ ⟨s,hk,rfl⟩
  cases k with
  | zero=>cases hk
  | succ k =>
    simp only [Hs] at hk
    cases hs:step s with
    | none=>rw [hs] at hk;cases hk
    | some x =>
      rw [hs] at hk
      refine (round s x hs).mono ?_
      intro e st' hq
      cases e with
      | normal =>
        obtain ⟨s',rfl,he'⟩:=hq
        exact ⟨st',Ent.refl,k,tm s',Nat.lt_succ_self k,he',s',hk,rfl⟩
      | _ =>
        obtain ⟨r',rfl,st'',he',hX⟩:=hq
        cases hk
        obtain ⟨st3,h3,hq3⟩:=fin _ _ hX
        exact ⟨st3,he'.trans h3,hq3⟩
theorem AW.join {x y:Code} (tm:σ→ASt) (g:σ→Prop) (h1:AW P N x (Kj (fun st'=>∃s,g s∧Ent N st' (tm s)) Q) st) (h2:∀s,g s→AW P N y Q (tm s)):AW P N (.seq x y) Q st :=
  AW.seq (h1.mono fun e st' hq=>by
    cases e with
    | normal =>
      obtain ⟨s,hs,he⟩:=hq
      exact ⟨tm s,he,h2 s hs⟩
    | _=>exact ⟨st',Ent.refl,hq⟩)
end
def restr (fr:Nat→AV):List Nat→(Nat→AV)
  | []=>Az
  | d::l=>Ag (restr fr l) d (fr d)
theorem Ej (fr:Nat→AV):restr fr []=Az:=(rfl)
theorem Dx (fr:Nat→AV) (d:Nat) (l:List Nat):restr fr (d::l)=Ag (restr fr l) d (fr d):=(rfl)
theorem restr_w (fr:Nat→AV):∀l,FrW fr (restr fr l)
  | []=>.any
  | d::l=>(restr_w fr l).put' rfl
theorem Ent.restr {N nx:Nat} {fr:Nat→AV} {hp:Am} (l:List Nat):Ent N ⟨fr,hp,nx⟩ ⟨Gm.restr fr l,hp,nx⟩:=.w (restr_w fr l)
section
variable {P:Program} {N id:Nat} {y:Code} {Q:Exit→ASt→Prop} {st:ASt}
end
end Go.Gm
namespace Go.Gm
mutual
def Bh (τ:Nat→Nat):AV→AV
 | .own t off len=>.own (τ t) off len
 | .ptr t i off=>.ptr (τ t) i off
 | .mp t=>.mp (τ t)
 | .agg cs=>.agg (Bb τ cs)
 | .tup cs=>.tup (Bb τ cs)
 | .clo fn f c=>.clo fn (Bb τ f) (Bb τ c)
 | .ifc ty u=>.ifc ty (Bh τ u)
 | .val v=>.val v
 | .sl rows=>.sl rows
 | .fr sz rows=>.fr sz rows
 | .ip cs=>.ip cs
 | .any=>.any
 | .im ks vs=>.im ks vs
def Bb (τ:Nat→Nat):List AV→List AV
 | []=>[]
 | c::cs=>Bh τ c::Bb τ cs
end
mutual
def Bn (m:Nat):AV→Bool
 | .own t _ _=>decide (t<m)
 | .ptr t _ _=>decide (t<m)
 | .mp t=>decide (t<m)
 | .agg cs=>By m cs
 | .tup cs=>By m cs
 | .clo _ f c=>By m f && By m c
 | .ifc _ u=>Bn m u
 | .val _=>true
 | .any=>true
 | .im _ vs=>Di vs
 | .sl rows=>Cy rows
 | .ip cs=>Di cs
 | .fr _ _=>false
def By (m:Nat):List AV→Bool
 | []=>true
 | c::cs=>Bn m c && By m cs
end
structure Ren (τ:Nat→Nat) (m:Nat) (E E':Env):Prop where
 mv:Move E E'
 al:∀t,t<m→E'.al t
 loc:∀t l,t<m→E'.loc t=some l→E.loc (τ t)=some l
mutual
theorem Xz {τ:Nat→Nat} {m:Nat} {E E':Env} (x:Ren τ m E E'):∀{u:AV} {v:Value},Bn m u=true→Rel E (Bh τ u) v→Rel E' u v
 | .own t off len,v,h,hr=>by
  simp only [Bn,decide_eq_true_eq] at h
  simp only [Bh] at hr
  cases hr with
  | own ha hh=>exact .own (x.al t h) fun l hl=>hh l (x.loc t l h hl)
 | .ptr t off len,v,h,hr=>by
  simp only [Bn,decide_eq_true_eq] at h
  simp only [Bh] at hr
  cases hr with
  | ptr ha hh=>exact .ptr (x.al t h) fun l hl=>hh l (x.loc t l h hl)
 | .mp t,v,h,hr=>by
  simp only [Bn,decide_eq_true_eq] at h
  simp only [Bh] at hr
  cases hr with
  | mp ha hh=>exact .mp (x.al t h) fun l hl=>hh l (x.loc t l h hl)
 | .agg cs,v,h,hr=>by
  simp only [Bn] at h
  simp only [Bh] at hr
  cases hr with
  | agg hl=>exact .agg (Gl x h hl)
 | .tup cs,v,h,hr=>by
  simp only [Bn] at h
  simp only [Bh] at hr
  cases hr with
  | tup hl=>exact .tup (Gl x h hl)
 | .clo fn f c,v,h,hr=>by
  simp only [Bn,Bool.and_eq_true] at h
  simp only [Bh] at hr
  cases hr with
  | clo hf hc=>exact .clo (Gl x h.1 hf) (Gl x h.2 hc)
 | .ifc ty u,v,h,hr=>by
  simp only [Bn] at h
  simp only [Bh] at hr
  cases hr with
  | ifc hu=>exact .ifc (Xz x h hu)
 | .val w,v,h,hr=>by
  simp only [Bh] at hr
  cases hr
  exact .val _
 | .any,v,h,hr=>.any _
 | .im ks vs,v,h,hr=>by
  simp only [Bh] at hr
  exact Rel.move x.mv (by simpa [inl,Bn] using h) hr
 | .sl rows,v,h,hr=>by
  simp only [Bh] at hr
  exact Rel.move x.mv (by simpa [inl,Bn] using h) hr
 | .ip cs,v,h,hr=>by
  simp only [Bh] at hr
  exact Rel.move x.mv (by simpa [inl,Bn] using h) hr
 | .fr sz rows,v,h,hr=>by simp [Bn] at h
theorem Gl {τ:Nat→Nat} {m:Nat} {E E':Env} (x:Ren τ m E E'):∀{us:List AV} {vs:List Value},By m us=true→RelL E (Bb τ us) vs→RelL E' us vs
 | [],vs,_,hr=>by
  simp only [Bb] at hr
  cases hr;exact .nil
 | u::us,vs,h,hr=>by
  simp only [By,Bool.and_eq_true] at h
  simp only [Bb] at hr
  cases hr with
  | cons h1 hs=>exact .cons (Xz x h.1 h1) (Gl x h.2 hs)
end
theorem Tt (τ:Nat→Nat):∀(a b:List AV),Bb τ (a++b)=Bb τ a++Bb τ b
 | [],b=>by simp [Bb]
 | c::cs,b=>by simp [Bb,Tt τ cs b]
theorem Tf (m:Nat):∀(a b:List AV),By m (a++b)=(By m a && By m b)
 | [],b=>by simp [By]
 | c::cs,b=>by simp [By,Tf m cs b,Bool.and_assoc]
theorem Jc (τ:Nat→Nat):∀(a:List AV),(Bb τ a).length=a.length
 | []=>by simp [Bb]
 | c::cs=>by simp [Bb,Jc τ cs]
theorem Ql (τ:Nat→Nat):∀rows:List (List AV),(rows.map (Bb τ)).flatten=Bb τ rows.flatten
 | []=>by simp [Bb]
 | r::rs=>by simp [Ql τ rs,Tt]
theorem Qk (m:Nat):∀{rows:List (List AV)},rows.all (By m)=true→By m rows.flatten=true
 | [],_=>by simp [By]
 | r::rs,h=>by
  simp only [List.all_cons,Bool.and_eq_true] at h
  simp [Tf,h.1,Qk m h.2]
inductive ORen (τ:Nat→Nat) (m:Nat):Option AObj→Option AObj→Prop
 | none (o:Option AObj):ORen τ m o none
 | inl {sz:Nat} {mu:Bool} {rows:List (List AV)} (h:Cy rows=true):ORen τ m (some (.row sz mu rows)) (some (.row sz mu rows))
 | map {sz:Nat} {mu:Bool} {rows:List (List AV)} (h:rows.all (By m)=true):ORen τ m (some (.row sz mu (rows.map (Bb τ)))) (some (.row sz mu rows))
 | mp {ks:List Value} {vs:List AV} (h:By m vs=true):ORen τ m (some (.mapo ks (Bb τ vs))) (some (.mapo ks vs))
theorem Ent.ren {N nx m:Nat} {fr fr':Nat→AV} {hp hp':Am} (τ:Nat→Nat) (h8:8≤m) (hfix:∀t,t<8→τ t=t) (hinj:∀i j,i<m→j<m→hp' i≠none→hp' j≠none→τ i=τ j→i=j)
  (hfr:∀d,Bn m (fr' d)=true∧(fr' d=.any∨Weak (fr d) (Bh τ (fr' d)))) (hhp:∀t,t<m→ORen τ m (hp (τ t)) (hp' t)) (hno:∀t,m≤t→hp' t=none):Ent N ⟨fr,hp,nx⟩ ⟨fr',hp',m⟩:=fun P G a w hc=>by
 classical
 obtain ⟨c1,c2,loc,hM,hr⟩:=conc_iff.1 hc
 clear hc
 let loc':Nat→Option Loc:=fun t=>if hp' t=none then none else loc (τ t)
 have hsome:∀t l,loc' t=some l→t<m∧loc (τ t)=some l∧hp' t≠none:=fun t l hl=>by
  simp only [loc'] at hl
  split at hl
  ·cases hl
  ·rename_i hn
   refine ⟨?_,hl,hn⟩
   by_cases hlt:t<m
   ·exact hlt
   ·exact absurd (hno t (by omega)) hn
 have hmut:∀t o',hp' t=some o'→t<m∧∃o,hp (τ t)=some o∧o.isMut=o'.isMut:=fun t o' ho=>by
  have hlt:t<m:=by
   by_cases hlt:t<m
   ·exact hlt
   ·rw [hno t (by omega)] at ho;cases ho
  refine ⟨hlt,?_⟩
  have:=hhp t hlt
  rw [ho] at this
  generalize hq:hp (τ t)=q at this
  cases this with
  | inl h=>exact ⟨_,rfl,rfl⟩
  | map h=>exact ⟨_,rfl,rfl⟩
  | mp=>exact ⟨_,rfl,rfl⟩
 have hmt:∀b,Cs hp' loc' b→Cs hp loc b:=by
  rintro b ⟨t,o',l,h1,h2,h3,h4,h5⟩
  obtain ⟨_,o,ho,hm⟩:=hmut t o' h1
  exact ⟨τ t,o,l,ho,by rw [hm];exact h2,(hsome t l h3).2.1,h4,h5⟩
 have x:Ren τ m (Bv G.m1 hp (fun t=>t<nx) loc w) (Bv G.m1 hp' (fun t=>t<m) loc' w) :=
  ⟨⟨Nat.le_refl _,fun b _ hn=>⟨fun hm=>hn (hm.elim (fun h=>.inl (hmt b h)) .inr),rfl⟩⟩,fun t ht=>ht,fun t l ht hl=>(hsome t l hl).2.1⟩
 refine conc_iff.2 ⟨c1,c2,loc',?_,fun d=>?_⟩
 ·refine ⟨fun t o' ho=>?_,fun t ho=>by simp only [loc',ho,if_true],fun t l hl=>(hsome t l hl).1,fun t1 t2 l1 l2 k1 k2 p1 p2 hb=>?_,hM.os,hM.tape,hM.output,hM.size,hM.keep,fun b hb=>hM.muts b (hmt b hb),fun t l hl=>hM.fgn (τ t) l (hsome t l hl).2.1,
   fun t ht=>Nat.lt_of_lt_of_le ht (Nat.le_trans G.n8 h8),fun t l ht hl=>hM.idn t l ht ?_⟩
  ·have hlt:=(hmut t o' ho).1
   have hO:=hhp t hlt
   rw [ho] at hO
   generalize hq:hp (τ t)=q at hO
   cases hO with
   | inl hin =>
    obtain ⟨l,hl,g1,g2,g3,g4,g5,g6⟩:=hM.obj (τ t) _ hq
    refine ⟨l,by simp only [loc',ho];simpa using hl,g1,g2,g3,g4,g5,fun hpos=>?_⟩
    obtain ⟨c,e,fz,vs,k1,k2,k3,k4,k5,k6⟩:=g6 hpos
    exact ⟨c,e,fz,vs,k1,k2,RelL.move x.mv (by rw [←Ex];exact hin) k3,k4,k5,k6⟩
   | map hin =>
    rename_i sz mu rows
    obtain ⟨l,hl,g1,g2,g3,g4,g5,g6⟩:=hM.obj (τ t) _ hq
    refine ⟨l,by simp only [loc',ho];simpa using hl,g1,g2,fun r hr=>?_,by simpa using g4,g5,fun hpos=>?_⟩
    ·have:=g3 (Bb τ r) (List.mem_map.2 ⟨r,hr,rfl⟩)
     rwa [Jc] at this
    ·obtain ⟨c,e,fz,vs,k1,k2,k3,k4,k5,k6⟩:=g6 hpos
     rw [Ql] at k3
     exact ⟨c,e,fz,vs,k1,k2,Gl x (Qk m hin) k3,k4,k5,k6⟩
   | mp hin =>
    obtain ⟨l,hl,g0,ens,clock,xs,g1,g2,g3,g4⟩:=hM.obj (τ t) _ hq
    exact ⟨l,by simp only [loc',ho];simpa using hl,g0,ens,clock,xs,g1,g2,g3,Gl x hin g4⟩
  ·have h1:=hsome t1 l1 k1
   have h2:=hsome t2 l2 k2
   exact hinj t1 t2 h1.1 h2.1 h1.2.2 h2.2.2 (hM.inj _ _ _ _ h1.2.1 h2.2.1 p1 p2 hb)
  ·have h1:=hsome t l hl
   rw [hfix t (Nat.lt_of_lt_of_le ht G.n8)] at h1
   exact h1.2.1
 ·obtain ⟨h1,h2⟩:=hfr d
  rcases h2 with h2|h2
  ·rw [h2];exact .any _
  ·exact Xz x h1 (h2 _ _ (hr d))
def Cv (l:List Nat) (t:Nat):Nat:=if t<8 then t else l.getD (t-8) 0
def Bo (a b:List (Option AObj)):Am:=fun t=>if t<8 then (a[t]?).getD none else (b[t-8]?).getD none
theorem Ap (a b:List (Option AObj)) (t:Nat):Bo a b t=if t<8 then (a[t]?).getD none else (b[t-8]?).getD none:=(rfl)
theorem hpL_nil:Bo [] []=fun _=>none:=by funext t;simp [Bo]
def RF (τ:Nat→Nat) (m:Nat) (fr fr':Nat→AV):Prop:=∀d,Bn m (fr' d)=true∧(fr' d=.any∨Weak (fr d) (Bh τ (fr' d)))
theorem RF.any {τ:Nat→Nat} {m:Nat} {fr:Nat→AV}:RF τ m fr Az:=fun _=>⟨by simp [Az,Bn],.inl rfl⟩
theorem RF.put {τ:Nat→Nat} {m:Nat} {fr fr':Nat→AV} {d:Nat} {v:AV} (h:RF τ m fr fr') (ht:Bn m v=true) (hv:Weak (fr d) (Bh τ v)):RF τ m fr (Ag fr' d v):=fun d'=>by
 simp only [Ag];split
 ·rename_i e;subst e;exact ⟨ht,.inr hv⟩
 ·exact h d'
inductive HRen (τ:Nat→Nat) (m:Nat) (hp:Am):Nat→List (Option AObj)→Prop
 | nil (k:Nat):HRen τ m hp k []
 | cons {k:Nat} {o:Option AObj} {l:List (Option AObj)} (h:ORen τ m (hp (τ k)) o) (hs:HRen τ m hp (k+1) l):HRen τ m hp k (o::l)
theorem HRen.get {τ:Nat→Nat} {m:Nat} {hp:Am}:∀{l:List (Option AObj)} {k:Nat},HRen τ m hp k l→∀i,ORen τ m (hp (τ (k+i))) ((l[i]?).getD none)
 | [],_,_,i=>by simp;exact .none _
 | o::l,k,.cons h hs,0=>by simpa using h
 | o::l,k,.cons h hs,i+1=>by
  have:=HRen.get hs i
  rw [show k+(i+1)=k+1+i by omega]
  simpa using this
theorem Bu {N nx:Nat} {fr fr':Nat→AV} {hp:Am} (l:List Nat) (a b:List (Option AObj)) (m:Nat) (hm:m=8+l.length) (hl:l.Nodup∧∀x∈l,8≤x∨(a[x]?).getD none=none) (hb:b.length=l.length) (hf:RF (Cv l) m fr fr') (h0:HRen (Cv l) m hp 0 a) (h1:HRen (Cv l) m hp 8 b) :
  Ent N ⟨fr,hp,nx⟩ ⟨fr',Bo a b,m⟩:=by
 subst hm
 refine Ent.ren (Cv l) (by omega) (fun t ht=>by simp [Cv,ht]) (fun i j hi hj hni hnj he=>?_) hf (fun t ht=>?_) (fun t ht=>?_)
 ·have hget:∀k,8≤k→k<8+l.length→∃h:k-8<l.length,Cv l k=l[k-8]:=fun k h8 hk=>⟨by omega,by
   unfold Cv;rw [if_neg (by omega)];simp [List.getD,show k-8<l.length by omega]⟩
  by_cases hi8:i<8<;>by_cases hj8:j<8
  ·simpa [Cv,hi8,hj8] using he
  ·obtain ⟨h,e⟩:=hget j (by omega) hj
   rw [e] at he
   have e2:Cv l i=i:=by simp [Cv,hi8]
   rw [e2] at he
   rcases hl.2 _ (List.getElem_mem h) with h3|h3
   ·omega
   ·rw [←he] at h3
    exact absurd (by simp only [Bo,hi8,if_true];exact h3) hni
  ·obtain ⟨h,e⟩:=hget i (by omega) hi
   rw [e] at he
   have e2:Cv l j=j:=by simp [Cv,hj8]
   rw [e2] at he
   rcases hl.2 _ (List.getElem_mem h) with h3|h3
   ·omega
   ·rw [he] at h3
    exact absurd (by simp only [Bo,hj8,if_true];exact h3) hnj
  ·obtain ⟨h,e⟩:=hget i (by omega) hi
   obtain ⟨h',e'⟩:=hget j (by omega) hj
   rw [e,e'] at he
   have:=(List.getElem_inj hl.1).1 he
   omega
 ·by_cases h8:t<8
  ·have:=h0.get t
   simp only [Bo,h8,if_true]
   simpa using this
  ·have:=h1.get (t-8)
   simp only [Bo,h8,if_false]
   rwa [show 8+(t-8)=t by omega] at this
 ·have:¬t<8:=by omega
  simp only [Bo,this,if_false]
  rw [List.getElem?_eq_none (by omega)];rfl
theorem pc_of8 {P:Program} {f:FuncId} {us:List AV} {X:AV} {fn:Func} {c:Code} {N:Nat} {rs:List ResultVar} (hf:P.funcs[f]?=some fn) (hb:fn.body=some c) (hN:fn.ntmps=N) (hr:fn.results.toList=rs) (hn:us.length≤N)
  (h:AW P N c (Ay P rs X) ⟨Ht us,Bo [] [],8⟩):PC P f us X:=by
 subst hN;subst hr
 refine pc_of_body hf hb hn ?_
 rw [←hpL_nil]
 exact AW.ent (Ent.st .refl .refl (by omega)) h
end Go.Gm
namespace Go.Gm
section
variable {P:Program} {N id:Nat} {x y:Code} {Q:Exit→ASt→Prop} {st:ASt} {c:Operand} {ops:List Oper} {k:ASt→Prop}
theorem Kh {R:Code} {K:ASt→Prop} (l:List Nat) (h:AW P N R (fun e st'=>e=.normal∧K ⟨restr st'.fr l,st'.hp,st'.nx⟩) st) (hQ:∀st',K st'→Q .normal st'):AW P N R Q st :=
  h.mono fun e st' ⟨he,hk⟩=>⟨_,Ent.restr l,by subst he;exact hQ _ hk⟩
theorem Ll (l:List Nat) (h:Co P N ops ops st (fun st'=>AW P N y Q ⟨restr st'.fr l,st'.hp,st'.nx⟩)):AW P N (.seq (.region id ops.toArray false) y) Q st :=
  AW.seq (Kh (K:=AW P N y Q) l (AW.region (Q:=fun e st'=>e=.normal∧AW P N y Q ⟨restr st'.fr l,st'.hp,st'.nx⟩) (by simpa using h)) fun _ h=>h)
theorem Hh (l:List Nat) (h:Co P N ops ops st (fun st'=>Q .normal ⟨restr st'.fr l,st'.hp,st'.nx⟩)):AW P N (.region id ops.toArray false) Q st :=
  Kh (K:=Q .normal) l (AW.region (Q:=fun e st'=>e=.normal∧Q .normal ⟨restr st'.fr l,st'.hp,st'.nx⟩) (by simpa using h)) fun _ h=>h
theorem AW.regdL (l:List Nat) (A:List (List Nat)) (ord:List Nat) (ft:FuncId→List AV→Option AV) (hft:Uv P ft) (hm:P.follows .mixedOrders=true) (hs:Ls A ord ops=true) (hp:Mi A ord ops=true)
    (h:Ea P ft N ops A st.nx (pick ops ord) st.fr st.hp [] fun fr hp=>AW P N y Q ⟨restr fr l,hp,st.nx+8*ops.length⟩):AW P N (.seq (.region id ops.toArray true) y) Q st :=
  AW.seq (Kh (K:=AW P N y Q) l (AW.draw (Q:=fun e st'=>e=.normal∧AW P N y Q ⟨restr st'.fr l,st'.hp,st'.nx⟩) A ord ft hft hm hs hp (by simpa using h)) fun _ h=>h)
theorem AW.drawL (l:List Nat) (A:List (List Nat)) (ord:List Nat) (ft:FuncId→List AV→Option AV) (hft:Uv P ft) (hm:P.follows .mixedOrders=true) (hs:Ls A ord ops=true) (hp:Mi A ord ops=true)
    (h:Ea P ft N ops A st.nx (pick ops ord) st.fr st.hp [] fun fr hp=>Q .normal ⟨restr fr l,hp,st.nx+8*ops.length⟩):AW P N (.region id ops.toArray true) Q st :=
  Kh (K:=Q .normal) l (AW.draw (Q:=fun e st'=>e=.normal∧Q .normal ⟨restr st'.fr l,st'.hp,st'.nx⟩) A ord ft hft hm hs hp (by simpa using h)) fun _ h=>h
theorem Aj {p:Prop} [Decidable p] (e:Fk st.fr c=.val (.bool (decide p))) (hp:p) (h:AW P N x Q st):AW P N (.cond c x y) Q st:=AW.cond (b:=true) (by rw [e,decide_eq_true hp]) h
theorem Ai {p:Prop} [Decidable p] (e:Fk st.fr c=.val (.bool (decide p))) (hp:¬p) (h:AW P N y Q st):AW P N (.cond c x y) Q st:=AW.cond (b:=false) (by rw [e,decide_eq_false hp]) h
theorem AW.ifNT {p:Prop} [Decidable p] (e:Fk st.fr c=.val (.bool (!decide p))) (hp:¬p) (h:AW P N x Q st):AW P N (.cond c x y) Q st:=AW.cond (b:=true) (by rw [e,decide_eq_false hp];rfl) h
theorem Pe {p:Prop} [Decidable p] (e:Fk st.fr c=.val (.bool (!decide p))) (hp:p) (h:AW P N y Q st):AW P N (.cond c x y) Q st:=AW.cond (b:=false) (by rw [e,decide_eq_true hp];rfl) h
theorem Bp {b:Bool} (e:Fk st.fr c=.val (.bool b)) (hb:b=true) (h:AW P N x Q st):AW P N (.cond c x y) Q st:=AW.cond (b:=true) (by rw [e,hb]) h
theorem Bl {b:Bool} (e:Fk st.fr c=.val (.bool b)) (hb:b=false) (h:AW P N y Q st):AW P N (.cond c x y) Q st:=AW.cond (b:=false) (by rw [e,hb]) h
end
def ix {α:Type} (l:List α) (i:Int):Option α:=if 0≤i then l[i.toNat]? else none
theorem ix_some {α:Type} {l:List α} {i:Int} {x:α}:ix l i=some x↔0≤i∧l[i.toNat]?=some x:=by
  unfold ix;split
  · rename_i h;simp [h]
  · rename_i h;constructor
    · intro k;cases k
    · intro k;exact absurd k.1 h
theorem ix_nat {α:Type} {l:List α} {n:Nat}:ix l (n:Int)=l[n]?:=by
  unfold ix;rw [if_pos (by omega)];simp
theorem Cm {α:Type} {l:List α} {n:Nat} {x:α} (h:l[n]?=some x):n<l.length:=(List.getElem?_eq_some_iff.1 h).1
def Bq {α:Type} (a b:List α):Option (List α):=if a.length+b.length≤34359738368 then some (a++b) else none
theorem appO?_some {α:Type} {a b c:List α}:Bq a b=some c↔a.length+b.length≤34359738368∧a++b=c:=by
  unfold Bq;split
  · rename_i h;simp [h]
  · rename_i h;constructor
    · intro k;cases k
    · intro k;exact absurd k.1 h
def Dl {α:Type} (l:List α) (lo hi:Int):Option (List α):=if 0≤lo∧lo≤hi∧hi≤(l.length:Int) then some ((l.drop lo.toNat).take (hi.toNat-lo.toNat)) else none
theorem cutO?_some {α:Type} {l c:List α} {lo hi:Int}:Dl l lo hi=some c↔(0≤lo∧lo≤hi∧hi≤(l.length:Int))∧(l.drop lo.toNat).take (hi.toNat-lo.toNat)=c:=by
  unfold Dl;split
  · rename_i h;simp [h]
  · rename_i h;constructor
    · intro k;cases k
    · intro k;exact absurd k.1 h
def setO? {α:Type} (l:List α) (i:Int) (x:α):Option (List α):=if 0≤i∧i.toNat<l.length then some (l.set i.toNat x) else none
theorem natOf_int {k:IntKind} {n:Int}:La (.val (.int k n))=if 0≤n then some n.toNat else none:=(rfl)
theorem Ah {k:IntKind} {n:Int} (h:0≤n):La (.val (.int k n))=some n.toNat:=by rw [natOf_int,if_pos h]
section
variable {hp:Am} {t e sz:Nat} {rows:List (List AV)} {P:Program}
theorem cut_sl {lo hi:Option AV} {l h:Nat} (he:Cz P t=some e) (hz:Nu P e=some sz) (hr:∀r∈rows,r.length=sz) (hl:loOf lo=some l) (hh:hiOf rows.length hi=some h) (h1:l≤h) (h2:h≤rows.length):Xp P hp t (.sl rows) lo hi=some (.sl ((rows.drop l).take (h-l))):=by
  unfold Xp
  simp only [he,hl,Ml,hz,hh]
  rw [if_pos ⟨h1,h2⟩,if_pos hr]
end
attribute [go_sem] Dx Ej
attribute [go_sem] Ap List.getElem?_nil
end Go.Gm
namespace Go.Gm
mutual
theorem mapT_inl (τ:Nat→Nat):∀{u:AV},inl u=true→Bh τ u=u
  | .own ..,h=>by simp [inl] at h
  | .ptr ..,h=>by simp [inl] at h
  | .mp ..,h=>by simp [inl] at h
  | .agg cs,h=>by simp only [inl] at h;simp only [Bh,Jn τ h]
  | .tup cs,h=>by simp only [inl] at h;simp only [Bh,Jn τ h]
  | .clo fn f c,h=>by simp only [inl,Bool.and_eq_true] at h;simp only [Bh,Jn τ h.1,Jn τ h.2]
  | .ifc ty u,h=>by simp only [inl] at h;simp only [Bh,mapT_inl τ h]
  | .val v,_=>by simp only [Bh]
  | .sl rows,_=>by simp only [Bh]
  | .fr sz rows,_=>by simp only [Bh]
  | .ip cs,_=>by simp only [Bh]
  | .any,_=>by simp only [Bh]
  | .im ..,_=>by simp only [Bh]
theorem Jn (τ:Nat→Nat):∀{us:List AV},Di us=true→Bb τ us=us
  | [],_=>by simp only [Bb]
  | u::us,h=>by
    simp only [Di,Bool.and_eq_true] at h
    simp only [Bb,mapT_inl τ h.1,Jn τ h.2]
end
mutual
theorem tokL_inl (m:Nat):∀{u:AV},inl u=true→Bn m u=true
  | .own ..,h=>by simp [inl] at h
  | .ptr ..,h=>by simp [inl] at h
  | .mp ..,h=>by simp [inl] at h
  | .agg cs,h=>by simp only [inl] at h;simp only [Bn,Jj m h]
  | .tup cs,h=>by simp only [inl] at h;simp only [Bn,Jj m h]
  | .clo fn f c,h=>by simp only [inl,Bool.and_eq_true] at h;simp only [Bn,Jj m h.1,Jj m h.2,Bool.and_self]
  | .ifc ty u,h=>by simp only [inl] at h;simp only [Bn,tokL_inl m h]
  | .val v,_=>by simp only [Bn]
  | .sl rows,h=>by simpa only [Bn,inl] using h
  | .fr sz rows,h=>by simp [inl] at h
  | .ip cs,h=>by simpa only [Bn,inl] using h
  | .any,_=>by simp only [Bn]
  | .im ..,h=>by simpa only [Bn,inl] using h
theorem Jj (m:Nat):∀{us:List AV},Di us=true→By m us=true
  | [],_=>by simp only [By]
  | u::us,h=>by
    simp only [Di,Bool.and_eq_true] at h
    simp only [By,tokL_inl m h.1,Jj m h.2,Bool.and_self]
end
section
variable {τ:Nat→Nat} {l:List Nat} {m d:Nat} {fr fr':Nat→AV} {hp:Am}
theorem RF.pv {v:AV} (h:RF τ m fr fr') (hi:inl v=true) (hv:fr d=v):RF τ m fr (Ag fr' d v):=h.put (tokL_inl m hi) (by rw [mapT_inl τ hi];exact .of hv)
theorem RF.po {t off n:Nat} (h:RF τ m fr fr') (ht:t<m) (hv:fr d=.own (τ t) off n):RF τ m fr (Ag fr' d (.own t off n)):=h.put (by simp [Bn,ht]) (by simp only [Bh];exact .of hv)
theorem RF.pp {t i off:Nat} (h:RF τ m fr fr') (ht:t<m) (hv:fr d=.ptr (τ t) i off):RF τ m fr (Ag fr' d (.ptr t i off)):=h.put (by simp [Bn,ht]) (by simp only [Bh];exact .of hv)
theorem ORen.eq {t sz:Nat} {mu:Bool} {rows:List (List AV)} (hi:Cy rows=true) (h:hp t=some (.row sz mu rows)):ORen τ m (hp t) (some (.row sz mu rows)):=by rw [h];exact .inl hi
theorem ORen.tok {t sz:Nat} {mu:Bool} {rows:List (List AV)} (hi:rows.all (By m)=true) (h:hp t=some (.row sz mu (rows.map (Bb τ)))):ORen τ m (hp t) (some (.row sz mu rows)):=by rw [h];exact .map hi
end
def WeakL (us us':List AV):Prop:=∀E vs,RelL E us vs→RelL E us' vs
theorem WeakL.nil:WeakL [] []:=fun _ _ h=>h
theorem WeakL.cons {u u':AV} {us us':List AV} (h:Weak u u') (hs:WeakL us us'):WeakL (u::us) (u'::us'):=fun E vs k=>by
  cases k with
  | cons a b=>exact .cons (h E _ a) (hs E _ b)
theorem Fe {fr:Nat→AV} {d:Nat} {v:AV} (hv:Weak (fr d) v):FrW fr (Ag fr d v):=FrW.refl.put hv
end Go.Gm
namespace Go.Gm
attribute [go_sem] Ap
end Go.Gm
namespace Go.Gm
theorem Nn {P:Program} {t:TypeId} {s:ByteArray} {k:IntKind} {i:Int} {b:UInt8} {pl:Option AR} (ht:Gd P t=true) (h0:0≤i) (hx:(bl s)[i.toNat]?=some b):idxO P t (.val (.string s)) (.val (.int k i)) pl=some ⟨U8 b,[]⟩:=by
  obtain ⟨n,rfl⟩:=Int.eq_ofNat_of_zero_le h0
  rw [idxO_nat]
  simp only [Int.toNat_natCast] at hx
  simp [ht,hx]
end Go.Gm
namespace Go.Gm
theorem Kv {N nx sz:Nat} {mu:Bool} {fr:Nat→AV} {hp:Am} {cs cs':List AV} (t:Nat) (h:hp t=some (.row sz mu [cs])) (hl:cs'.length=sz) (hw:WeakL cs cs'):Ent N ⟨fr,hp,nx⟩ ⟨fr,Ag hp t (some (.row sz mu [cs'])),nx⟩:=fun P G a w hc=>by
  obtain ⟨c1,c2,loc,hM,hr⟩:=conc_iff.1 hc
  clear hc
  have hmt:∀b,Cs (Ag hp t (some (.row sz mu [cs']))) loc b→Cs hp loc b:=by
    rintro b ⟨t',o',l',h1,h2,h3,h4,h5⟩
    by_cases e:t'=t
    · subst e;rw [Ba] at h1;cases h1;exact ⟨t',_,l',h,h2,h3,h4,h5⟩
    · rw [An _ _ e] at h1;exact ⟨t',o',l',h1,h2,h3,h4,h5⟩
  have x:Ext (Bv G.m1 hp (fun t=>t<nx) loc w) (Bv G.m1 (Ag hp t (some (.row sz mu [cs']))) (fun t=>t<nx) loc w):=Fh (fun _ h=>h) (fun _ _ _ h=>h) (Nat.le_refl _) (fun b _=>hmt b) (fun _ _ _=>rfl)
  refine conc_iff.2 ⟨c1,c2,loc,hM.change x (fun t' o' ho=>?_) (fun t' ho=>?_) hM.al_ hM.inj rfl rfl rfl (fun b hb=>.inl (hmt b hb)) (fun t l k1 k2=>.inl ⟨t,l,k1,k2,rfl⟩),fun d=>(hr d).ext x⟩
  · by_cases e:t'=t
    · subst e
      rw [Ba] at ho;cases ho
      obtain ⟨l,hl',g1,g2,g3,g4,g5,g6⟩:=hM.obj t' _ h
      refine .inr ⟨l,hl',g1,g2,by simpa using hl,by simpa using g4,g5,fun hpos=>?_⟩
      obtain ⟨c,e,fz,vs,k1,k2,k3,k4,k5,k6⟩:=g6 hpos
      refine ⟨c,e,fz,vs,k1,k2,?_,k4,k5,k6⟩
      simp only [List.flatten_cons,List.flatten_nil,List.append_nil] at k3 ⊢
      exact (hw _ _ k3).ext x
    · rw [An _ _ e] at ho;exact .inl ⟨ho,rfl,fun _ _ _=>rfl⟩
  · by_cases e:t'=t
    · subst e;rw [Ba] at ho;cases ho
    · rw [An _ _ e] at ho;exact hM.none_ t' ho
end Go.Gm
namespace Go.Gm
section
variable {α:Type} {enc:α→List AV} {l x:List α} {P:Program} {hp:Am} {t e sz:Nat} {k k':IntKind} {lo hi:Int}
theorem Jw (he:Cz P t=some e) (hz:Nu P e=some sz) (hr:(∀r∈l.map enc,r.length=sz)=True) (h:Dl l lo hi=some x):Xp P hp t (.sl (l.map enc)) (some (.val (.int k lo))) (some (.val (.int k' hi)))=some (.sl (x.map enc)):=by
  obtain ⟨⟨h1,h2,h3⟩,rfl⟩:=cutO?_some.1 h
  rw [cut_sl (l:=lo.toNat) (h:=hi.toNat) he hz (of_eq_true hr) (by simp [loOf,Ah h1]) (by simp [hiOf,Ah (show 0≤hi by omega)]) (by omega) (by simp only [List.length_map];omega),←List.map_drop,←List.map_take]
theorem Sy (he:Cz P t=some e) (hz:Nu P e=some sz) (hr:(∀r∈l.map enc,r.length=sz)=True) (h:Dl l lo (l.length:Int)=some x):Xp P hp t (.sl (l.map enc)) (some (.val (.int k lo))) none=some (.sl (x.map enc)):=by
  obtain ⟨⟨h1,h2,h3⟩,rfl⟩:=cutO?_some.1 h
  rw [cut_sl (l:=lo.toNat) (h:=l.length) he hz (of_eq_true hr) (by simp [loOf,Ah h1]) (by simp [hiOf]) (by omega) (by simp only [List.length_map];omega),←List.map_drop,←List.map_take]
  simp
theorem cut_ns (he:Cz P t=some e) (hz:Nu P e=some sz) (hr:(∀r∈l.map enc,r.length=sz)=True) (h:Dl l 0 hi=some x):Xp P hp t (.sl (l.map enc)) none (some (.val (.int k' hi)))=some (.sl (x.map enc)):=by
  obtain ⟨⟨h1,h2,h3⟩,rfl⟩:=cutO?_some.1 h
  rw [cut_sl (l:=0) (h:=hi.toNat) he hz (of_eq_true hr) (by simp [loOf]) (by simp [hiOf,Ah (show 0≤hi by omega)]) (by omega) (by simp only [List.length_map];omega),←List.map_drop,←List.map_take]
  simp
end
end Go.Gm
namespace Go.Gm
def lenSO (n:Nat):Option TypeId→Option AObj→Option AV
  | some _,some (.row _ _ _)=>some (.val (.int .i64 n))
  | _,_=>none
theorem lenS_own {P:Program} {hp:Am} {t o off n:Nat}:Pm P hp t (.own o off n)=lenSO n (Cz P t) (hp o):=by
  unfold Pm lenSO
  simp only [Ml]
  cases Cz P t with
  | none=>rfl
  | some e =>
    cases hp o with
    | none=>rfl
    | some ob=>cases ob<;>rfl
theorem lenSO_some {n e sz:Nat} {mu:Bool} {rows:List (List AV)}:lenSO n (some e) (some (.row sz mu rows))=some (.val (.int .i64 (n:Int))):=(rfl)
attribute [go_sem] lenS_own lenSO_some
end Go.Gm
namespace Go.Gm
theorem take_map_self {α β:Type} {f:α→β} {l:List α}:(l.map f).take l.length=l.map f:=List.take_of_length_le (by simp)
attribute [go_sem] take_map_self
end Go.Gm
namespace Go.Gm
def shlV (k:IntKind) (x:Int) (n:Nat):Int:=k.wrap (x*2 ^ (min n k.bits))
def Dn (k:IntKind) (x:Int) (n:Nat):Int:=x.fdiv (2 ^ (min n k.bits))
def Xu (k:IntKind) (x y:Int):Int:=k.wrap (BitVec.ofInt k.bits x &&& BitVec.ofInt k.bits y).toNat
def orV (k:IntKind) (x y:Int):Int:=k.wrap (BitVec.ofInt k.bits x ||| BitVec.ofInt k.bits y).toNat
def Ki (k:IntKind) (x y:Int):Int:=k.wrap (BitVec.ofInt k.bits x ^^^ BitVec.ofInt k.bits y).toNat
def andNotV (k:IntKind) (x y:Int):Int:=k.wrap (BitVec.ofInt k.bits x &&& ~~~ BitVec.ofInt k.bits y).toNat
def allV (k:IntKind):Int:=if k.signed then -1 else k.max
def Dt (p:Prop) [Decidable p]:Option Unit:=if p then some () else none
theorem guardO_some {p:Prop} [Decidable p] {u:Unit}:Dt p=some u↔p:=by unfold Dt;split<;>simp_all
theorem Cw {p:Prop} [Decidable p] (h:p):Dt p=some ():=by rw [Dt,if_pos h]
section
variable {P:Program} {ft:FuncId→List AV→Option AV} {fr:Operand→AV} {hp:Am} {id:Nat} {d:Option Tmp} {ty:TypeId} {pos:String} {af:Array Edge} {g:Option (Nat×Bool)}
theorem binV_quo {t:TypeId} {x y:Operand} {k:IntKind} {a b:Int}:Gs P .quo t x y (.int k a) (.int k b)=if b=0 then none else some (.int k (k.wrap (a.tdiv b))):=by
 rw [Fc];by_cases h:b=0<;>simp [binOp,Op.intDiv,Ck,h];rfl
theorem binV_rem {t:TypeId} {x y:Operand} {k:IntKind} {a b:Int}:Gs P .rem t x y (.int k a) (.int k b)=if b=0 then none else some (.int k (a.tmod b)):=by
 rw [Fc];by_cases h:b=0<;>simp [binOp,Op.intDiv,Ck,h];rfl
theorem binV_and {t:TypeId} {x y:Operand} {k:IntKind} {a b:Int}:Gs P .and t x y (.int k a) (.int k b)=some (.int k (Xu k a b)):=by rw [Fc];simp [binOp,Op.intBits,Ck,Xu]
theorem binV_or {t:TypeId} {x y:Operand} {k:IntKind} {a b:Int}:Gs P .or t x y (.int k a) (.int k b)=some (.int k (orV k a b)):=by rw [Fc];simp [binOp,Op.intBits,Ck,orV]
theorem binV_xor {t:TypeId} {x y:Operand} {k:IntKind} {a b:Int}:Gs P .xor t x y (.int k a) (.int k b)=some (.int k (Ki k a b)):=by rw [Fc];simp [binOp,Op.intBits,Ck,Ki]
theorem binV_int2 {op:BinOp} {t:TypeId} {x y:Operand} {k k':IntKind} {a b:Int}:Gs P op t x y (.int k a) (.int k' b)=Qu P (binOp op t (.int k a) (.int k' b)):=by
 unfold Gs eqGuard
 cases op<;>simp [Fu,Ck]
theorem binV_shl {t:TypeId} {x y:Operand} {k k':IntKind} {a b:Int}:Gs P .shl t x y (.int k a) (.int k' b)=if b<0 then none else some (.int k (shlV k a b.toNat)):=by
 rw [binV_int2];by_cases h:b<0<;>simp [binOp,Op.shift,Ck,h,shlV];rfl
theorem binV_shr {t:TypeId} {x y:Operand} {k k':IntKind} {a b:Int}:Gs P .shr t x y (.int k a) (.int k' b)=if b<0 then none else some (.int k (Dn k a b.toNat)):=by
 rw [binV_int2];by_cases h:b<0<;>simp [binOp,Op.shift,Ck,h,Dn];rfl
theorem unE_xor {k:IntKind} {n:Int}:unE P .xor (some (.int k n))=some ⟨.val (.int k (Ki k (allV k) n)),[]⟩:=by
 simp [unE,Op.unary,Op.intBits,Ck,Ki,allV]
def Kn (P:Program) (t:TypeId):Option IntKind:=match P.underlying t with
 | some (.int k)=>some k
 | _=>none
def convI (n:Int):Option IntKind→Option AR
 | some k=>some ⟨.val (.int k (k.wrap n)),[]⟩
 | none=>none
def convA (P:Program) (hp:Am) (id:Nat) (s d:TypeId) (x:AV) (pl:Option AR):Option AR:=match x with
 | .val (.int k n)=>if (Kn P d).isSome∧(P.underlying s).isSome then convI n (Kn P d) else pl
 | .val (.string s')=>if (Cz P d).isSome=true then Lr P id s d (.val (.string s')) else pl
 | .val (.slice none 0 0)=>(Gx P hp s d (.val (.slice none 0 0))).map fun v=>⟨v,[]⟩
 | .sl r=>(Gx P hp s d (.sl r)).map fun v=>⟨v,[]⟩
 | .own a b c=>if s=d then Uf P hp d a b c else (Gx P hp s d (.own a b c)).map fun v=>⟨v,[]⟩
 | _=>pl
theorem We {t:TypeId} {u:TypeDesc} (h:P.underlying t=some u):Qu P (underlying t)=some u:=by
 have h0:Qu P (underlying t)=Qu P (match P.underlying t with
  | some d=>pure d
  | none => stuck "no such type" : Sem TypeDesc) := rfl
 rw [h0,h];rfl
theorem aop_convert {s t:TypeId} {x:Operand}:Et P ft fr hp id ⟨d,.convert s t x,ty,pos,af,g⟩=convA P hp id s t (fr x) (Cx P fr ⟨d,.convert s t x,ty,pos,af,g⟩):=by
 show (if Jp (fr x)=true∧(Cz P t).isSome=true then Lr P id s t (fr x) else match fr x with
  | .val (.slice none 0 0)=>(Gx P hp s t (fr x)).map fun v=>⟨v,[]⟩
  | .sl _=>(Gx P hp s t (fr x)).map fun v=>⟨v,[]⟩
  | .own a b c=>if s=t then Uf P hp t a b c else (Gx P hp s t (fr x)).map fun v=>⟨v,[]⟩
  | _=>Cx P fr ⟨d,.convert s t x,ty,pos,af,g⟩)=_
 unfold convA
 generalize hx:fr x=u
 cases u with
 | val v =>
  cases v with
  | int k n =>
   simp only [Jp,Bool.false_eq_true,false_and,if_false]
   split
   ·rename_i hc
    obtain ⟨k',hk⟩:=Option.isSome_iff_exists.1 hc.1
    obtain ⟨us,hus⟩:=Option.isSome_iff_exists.1 hc.2
    have hd:P.underlying t=some (.int k'):=by
     unfold Kn at hk;split at hk
     ·cases hk;assumption
     ·cases hk
    rw [hk]
    unfold Cx Mh
    simp [Op.operands,hx,Mw,execOp,Fu,Ck,convI,convert,We hus,We hd,Conv.intToInt]
   ·rfl
  | string s'=>simp [Jp]
  | slice a n c=>cases a<;>cases n<;>cases c<;>simp [Jp]
  | _=>simp [Jp]
 | _=>simp [Jp]
end
def Eh (s:ByteArray):List Int:=(bl s).map fun b=>(b.toNat:Int)
theorem Ar (s:ByteArray):(Eh s).length=s.size:=by simp [Eh,bl_len]
theorem Ei {enc:Int→List AV} (h:∀x,enc x=[.val (.int .u8 x)]) (s:ByteArray):Ds s=(Eh s).map enc:=by
 unfold Ds Eh bl;simp [h,Function.comp_def]
theorem Ce {enc:Int→List AV} (h:∀x,enc x=[.val (.int .u8 x)]):∀l:List Int,Fb (l.map enc)=some l
 | []=>by simp [Fb]
 | x::l=>by simp [Fb,byteRow,h,Ce h l]
theorem take_bytes {α:Type} {f:Int→α} {s:ByteArray}:((Eh s).map f).take s.size=(Eh s).map f:=List.take_of_length_le (by simp [Ar])
theorem toStrA_sl {P:Program} {hp:Am} {s d:TypeId} {r:List (List AV)}:Gx P hp s d (.sl r)=match Cz P s with
 | some e=>if Gd P d=true∧isU8 P e=true then (Fb r).map fun ns=>.val (.string (strOfNums ns)) else none
 | none=>none:=by
 unfold Gx;simp only [Ja];cases Cz P s<;>rfl
theorem toStrA_own {P:Program} {hp:Am} {s d:TypeId} {t off len:Nat}:Gx P hp s d (.own t off len)=match Ja hp (.own t off len),Cz P s with
 | some r,some e=>if Gd P d=true∧isU8 P e=true then (Fb r).map fun ns=>.val (.string (strOfNums ns)) else none
 | _,_=>none:=(rfl)
theorem rowsOf_own {hp:Am} {t off len:Nat}:Ja hp (.own t off len)=match hp t with
 | some (.row _ _ rows)=>if off+len≤rows.length then some ((rows.drop off).take len) else none
 | _=>none:=(rfl)
theorem toBytesA_str {P:Program} {id:Nat} {src dst:TypeId} {s:ByteArray}:Lr P id src dst (.val (.string s))=match Cz P dst with
 | some e=>if Gd P src=true∧isU8 P e=true∧Nu P e=some 1 then some ⟨.own id 0 s.size,[(id,some (.row 1 true (Ds s)))]⟩ else none
 | none=>none:=by
 unfold Lr;cases Cz P dst<;>rfl
attribute [go_sem] binV_quo binV_rem binV_and binV_or binV_xor binV_shl binV_shr unE_xor aop_convert convA convI take_bytes toStrA_sl toStrA_own rowsOf_own toBytesA_str Ar
end Go.Gm
namespace Go.Gm
theorem natOf_lit {k:IntKind} {n:Nat}:La (.val (.int k (no_index (OfNat.ofNat n:Int))))=some (OfNat.ofNat n:Nat):=by
 have:(OfNat.ofNat n:Int)=((n:Nat):Int):=rfl
 rw [this,natOf_cast];rfl
attribute [go_sem] natOf_lit
end Go.Gm
namespace Go.Gm
theorem Lk {N nx sz:Nat} {mu:Bool} {fr:Nat→AV} {hp:Am} {pre post:List AV} {x:AV} {q off len:Nat} (t:Nat) (h:hp t=some (.row sz mu [pre++.own q off len::post])) (hx:Fj hp (.own q off len)=some x) (hne:t≠q) :
  Ent N ⟨fr,hp,nx⟩ ⟨fr,Ag (Ag hp q none) t (some (.row sz mu [pre++x::post])),nx⟩:=fun P G a w hc=>by
 obtain ⟨c1,c2,loc,hM,hr⟩:=conc_iff.1 hc
 clear hc
 let hp':Am:=Ag (Ag hp q none) t (some (.row sz mu [pre++x::post]))
 let loc':=Ag loc q none
 have hother:∀t',t'≠t→t'≠q→hp' t'=hp t':=fun t' h1 h2=>by simp only [hp',An _ _ h1,An _ _ h2]
 have hq:hp' q=none:=by simp only [hp',An _ _ (Ne.symm hne),Ba]
 have ht:hp' t=some (.row sz mu [pre++x::post]):=by simp only [hp',Ba]
 have hmt:∀b,Cs hp' loc' b→Cs hp loc b:=by
  rintro b ⟨t',o',l',h1,h2,h3,h4,h5⟩
  by_cases e2:t'=q
  ·subst e2;rw [hq] at h1;cases h1
  ·have h3':loc t'=some l':=by simpa only [loc',An _ _ e2] using h3
   by_cases e:t'=t
   ·subst e;rw [ht] at h1;cases h1;exact ⟨t',_,l',h,h2,h3',h4,h5⟩
   ·rw [hother t' e e2] at h1;exact ⟨t',o',l',h1,h2,h3',h4,h5⟩
 have xx:Ext (Bv G.m1 hp (fun t=>t<nx) loc w) (Bv G.m1 hp' (fun t=>t<nx) loc' w):=Fh (fun _ h=>h) (fun t' l ha hl=>by
  by_cases e:t'=q
  ·subst e;simp only [loc',Ba] at hl;cases hl
  ·simpa only [loc',An _ _ e] using hl) (Nat.le_refl _) (fun b _=>hmt b) (fun _ _ _=>rfl)
 have hin:inl x=true:=by
  simp only [Fj] at hx
  split at hx
  ·split at hx
   ·rename_i hc;cases hx;simp [inl,hc.2]
   ·cases hx
  ·cases hx
 have hval:∀v,Rel (Bv G.m1 hp (fun t=>t<nx) loc w) (.own q off len) v→Rel (Bv G.m1 hp' (fun t=>t<nx) loc' w) x v:=fun v hv=>by
  have hb:=Ny (G:=G) hM (m:=fun b=>G.m1 b∨Cs hp' loc' b) (fun b hb=>hb.imp id (hmt b)) hv hx (fun t1 o1 n1 l he hl hlt=>by
   cases he
   rintro (hb|⟨t',o',l',k1,k2,k3,k4,k5⟩)
   ·exact hM.fgn q l hl hlt hb
   ·by_cases e:t'=q
    ·subst e;rw [hq] at k1;cases k1
    ·have k3':loc t'=some l':=by simpa only [loc',An _ _ e] using k3
     exact e (hM.inj _ _ _ _ k3' hl k5 hlt k4))
  have mv:Move (E0 (fun b=>G.m1 b∨Cs hp' loc' b) w) (Bv G.m1 hp' (fun t=>t<nx) loc' w) :=
   ⟨Nat.le_refl _,fun b _ hn=>⟨fun hm=>hn (Or.inr (hm.elim Or.inr Or.inl)),rfl⟩⟩
  exact Rel.move mv hin hb
 refine conc_iff.2 ⟨c1,c2,loc',hM.change xx (fun t' o' ho=>?_) (fun t' ho=>?_) (fun t' l hl=>?_) (fun t1 t2 l1 l2 k1 k2=>?_) rfl rfl rfl (fun b hb=>.inl (hmt b hb)) (fun t' l k1 k2=>?_),fun d=>(hr d).ext xx⟩
 ·by_cases e2:t'=q
  ·subst e2;exact absurd ho (by rw [show Ag (Ag hp t' none) t (some (.row sz mu [pre++x::post])) t'=none from hq];simp)
  ·by_cases e:t'=t
   ·subst e
    have ho':o'=.row sz mu [pre++x::post]:=by
     have:hp' t'=some o':=ho
     rw [ht] at this;cases this;rfl
    subst ho'
    obtain ⟨l,hl',g1,g2,g3,g4,g5,g6⟩:=hM.obj t' _ h
    refine .inr ⟨l,by simpa only [loc',An _ _ e2] using hl',g1,g2,fun r hr=>?_,by simpa using g4,g5,fun hpos=>?_⟩
    ·have:=g3 (pre++.own q off len::post) (by simp)
     simp at hr;subst hr;simpa using this
    ·obtain ⟨c,e,fz,vs,k1,k2,k3,k4,k5,k6⟩:=g6 hpos
     refine ⟨c,e,fz,vs,k1,k2,?_,k4,k5,k6⟩
     simp only [List.flatten_cons,List.flatten_nil,List.append_nil] at k3 ⊢
     obtain ⟨v1,v2,rfl,hv1,hv2⟩:=k3.split
     cases hv2 with
     | cons ho hs=>exact (hv1.ext xx).append (.cons (hval _ ho) (hs.ext xx))
   ·exact .inl ⟨(hother t' e e2).symm.trans ho,by simp only [loc',An _ _ e2],fun _ _ _=>rfl⟩
 ·by_cases e2:t'=q
  ·subst e2;simp only [loc',Ba]
  ·simp only [loc',An _ _ e2]
   by_cases e:t'=t
   ·subst e;have:hp' t'=none:=ho;rw [ht] at this;cases this
   ·exact hM.none_ t' ((hother t' e e2).symm.trans ho)
 ·by_cases e2:t'=q
  ·subst e2;simp only [loc',Ba] at hl;cases hl
  ·exact hM.al_ t' l (by simpa only [loc',An _ _ e2] using hl)
 ·have g:∀t l,loc' t=some l→loc t=some l:=fun t l hl=>by
   by_cases e2:t=q
   ·subst e2;simp only [loc',Ba] at hl;cases hl
   ·simpa only [loc',An _ _ e2] using hl
  exact hM.inj _ _ _ _ (g _ _ k1) (g _ _ k2)
 ·by_cases e2:t'=q
  ·subst e2;simp only [loc',Ba] at k1;cases k1
  ·exact .inl ⟨t',l,by simpa only [loc',An _ _ e2] using k1,k2,rfl⟩
end Go.Gm
namespace Go.Gm
end Go.Gm
namespace Go.Gm
def IC (P:Program) (f:FuncId) (a0:List (Option AObj)) (us:List AV) (X:AV) (a1 b1:List (Option AObj)):Prop :=
 ∀(m:Nat→Prop) (w:World) (loc:Nat→Option Loc) (vs:List Value) (hm:∀b,m b→b<w.heap.size) (h8:a0.length≤8) (ht:TabH P (Cs (Bo a0 []) loc) w),
  Mem ⟨w,Cs (Bo a0 []) loc,m,hm,a0.length,loc,h8,ht⟩ (Bo a0 []) (fun t=>t<8) loc w→RelL (Bv m (Bo a0 []) (fun t=>t<8) loc w) us vs →
  Calls P f vs.toArray w fun e w'=>∃v loc',e=.returned v∧Mem ⟨w,Cs (Bo a0 []) loc,m,hm,a0.length,loc,h8,ht⟩ (Bo a1 b1) (fun t=>t<8+b1.length) loc' w' ∧
   Rel (Bv m (Bo a1 b1) (fun t=>t<8+b1.length) loc' w') X v
def finI (P:Program) (rs:List ResultVar) (X:AV) (a1 b1:List (Option AObj)):Exit→ASt→Prop
 | .normal,st|.ret,st=>st.hp=Bo a1 b1∧st.nx=8+b1.length∧∃l,resA P st rs=some l∧Cu l=X
 | _,_=>False
theorem Qg {P:Program} {f:FuncId} {fn:Func} {c:Code} {us:List AV} {X:AV} {a0 a1 b1:List (Option AObj)} {N:Nat} {rs:List ResultVar} (hf:P.funcs[f]?=some fn) (hb:fn.body=some c) (hN:fn.ntmps=N) (hrs:fn.results.toList=rs) (hn:us.length≤N)
  (h:AW P N c (finI P rs X a1 b1) ⟨Ht us,Bo a0 [],8⟩):IC P f a0 us X a1 b1:=by
 subst hN;subst hrs
 intro m w loc vs hm h8 ht hM0 hus
 have hc0:Kz ⟨w,Cs (Bo a0 []) loc,m,hm,a0.length,loc,h8,ht⟩ fn.ntmps ⟨Ht us,Bo a0 [],8⟩ { tmps:=vs.toArray++Array.replicate (fn.ntmps-vs.toArray.size) undef,defers:=[] } w:=by
  refine ⟨rfl,?_,loc,hM0,fun d=>?_⟩
  ·have:=hus.length
   simp;omega
  ·simp only [Ht]
   cases hd:us[d]? with
   | none=>exact .any _
   | some u =>
    obtain ⟨v,hv,hr⟩:=hus.get d u hd
    have hlt:d<vs.length:=(List.getElem?_eq_some_iff.1 hv).1
    have:((vs.toArray++Array.replicate (fn.ntmps-vs.toArray.size) undef).getD d undef)=v:=by
     rw [Array.getD_eq_getD_getElem?,Array.getElem?_append_left (by simpa using hlt)]
     simp [hv]
    simp only [Option.getD_some]
    rw [this]
    exact hr
 refine calls_of_wp hf hb (wp_mono (h none _ _ w hc0) ?_)
 rintro e a' w' ⟨st',hq,hdf,hsz,loc',hM,hrel⟩
 have fin:finI P fn.results.toList X a1 b1 .ret st' →
   a'.defers=[]∧∃v,(results fn a'.tmps).run P w'=.ok v w'∧∃v' loc',Ending.returned v=.returned v'∧Mem ⟨w,Cs (Bo a0 []) loc,m,hm,a0.length,loc,h8,ht⟩ (Bo a1 b1) (fun t=>t<8+b1.length) loc' w' ∧
    Rel (Bv m (Bo a1 b1) (fun t=>t<8+b1.length) loc' w') X v':=by
  rintro ⟨h1,h2,l,hl,hX⟩
  obtain ⟨vs',hv,hrl⟩:=Km hM hrel hl
  have hrun:(results fn a'.tmps).run P w'=.ok (if h:vs'.toArray.size=1 then vs'.toArray[0] else .tuple vs'.toArray) w':=by
   rw [Nx,Sem.run_bind]
   have hm:(fn.results.mapM (Mf a'.tmps)).run P w'=.ok vs'.toArray w':=by
    rw [Array.mapM_eq_mapM_toList,Sem.run_map,hv];rfl
   rw [hm];rfl
  refine ⟨hdf,_,hrun,_,loc',rfl,?_,?_⟩
  ·rw [h1,h2] at hM;exact hM
  ·have:=Sf hrl
   rw [h1,h2,hX] at this;exact this
 cases e with
 | normal=>exact fin hq
 | ret=>exact fin hq
 | _=>exact hq.elim
mutual
theorem Ya {τ:Nat→Nat} {m:Nat} {E E':Env} (mv:Move E E') (al:∀t,t<m→E'.al (τ t)) (lo:∀t l,t<m→E'.loc (τ t)=some l→E.loc t=some l):∀{u:AV} {v:Value},Bn m u=true→Rel E u v→Rel E' (Bh τ u) v
 | .own t off len,v,h,hr=>by
  simp only [Bn,decide_eq_true_eq] at h
  simp only [Bh]
  cases hr with
  | own ha hh=>exact .own (al t h) fun l hl=>hh l (lo t l h hl)
 | .ptr t off len,v,h,hr=>by
  simp only [Bn,decide_eq_true_eq] at h
  simp only [Bh]
  cases hr with
  | ptr ha hh=>exact .ptr (al t h) fun l hl=>hh l (lo t l h hl)
 | .mp t,v,h,hr=>by
  simp only [Bn,decide_eq_true_eq] at h
  simp only [Bh]
  cases hr with
  | mp ha hh=>exact .mp (al t h) fun l hl=>hh l (lo t l h hl)
 | .agg cs,v,h,hr=>by
  simp only [Bn] at h
  simp only [Bh]
  cases hr with
  | agg hl=>exact .agg (Jm mv al lo h hl)
 | .tup cs,v,h,hr=>by
  simp only [Bn] at h
  simp only [Bh]
  cases hr with
  | tup hl=>exact .tup (Jm mv al lo h hl)
 | .clo fn f c,v,h,hr=>by
  simp only [Bn,Bool.and_eq_true] at h
  simp only [Bh]
  cases hr with
  | clo hf hc=>exact .clo (Jm mv al lo h.1 hf) (Jm mv al lo h.2 hc)
 | .ifc ty u,v,h,hr=>by
  simp only [Bn] at h
  simp only [Bh]
  cases hr with
  | ifc hu=>exact .ifc (Ya mv al lo h hu)
 | .val w,v,h,hr=>by
  simp only [Bh]
  cases hr
  exact .val _
 | .any,v,h,hr=>by simp only [Bh];exact .any _
 | .im ks vs,v,h,hr=>by
  simp only [Bh]
  exact Rel.move mv (by simpa [inl,Bn] using h) hr
 | .sl rows,v,h,hr=>by
  simp only [Bh]
  exact Rel.move mv (by simpa [inl,Bn] using h) hr
 | .ip cs,v,h,hr=>by
  simp only [Bh]
  exact Rel.move mv (by simpa [inl,Bn] using h) hr
 | .fr sz rows,v,h,hr=>by simp [Bn] at h
theorem Jm {τ:Nat→Nat} {m:Nat} {E E':Env} (mv:Move E E') (al:∀t,t<m→E'.al (τ t)) (lo:∀t l,t<m→E'.loc (τ t)=some l→E.loc t=some l):∀{us:List AV} {vs:List Value},By m us=true→RelL E us vs→RelL E' (Bb τ us) vs
 | [],vs,_,hr=>by
  simp only [Bb]
  cases hr;exact .nil
 | u::us,vs,h,hr=>by
  simp only [By,Bool.and_eq_true] at h
  simp only [Bb]
  cases hr with
  | cons h1 hs=>exact .cons (Ya mv al lo h.1 h1) (Jm mv al lo h.2 hs)
end
def Ni (τ:Nat→Nat):Option AObj→Option AObj
 | some (.row sz mu rows)=>some (.row sz mu (rows.map (Bb τ)))
 | some (.mapo ks vs)=>some (.mapo ks (Bb τ vs))
 | none=>none
def tokO (m:Nat):Option AObj→Bool
 | some (.row _ _ rows)=>rows.all (By m)
 | some (.mapo _ vs)=>By m vs
 | none=>true
def Rs (s:List Nat) (id t:Nat):Nat:=if t<s.length then s.getD t 0 else if t<8 then id+7 else id+(t-8)
def sg (s:List Nat) (t:Nat):Nat:=s.getD t 0
def Me (τ:Nat→Nat):List Nat→List (Option AObj)→List (Nat×Option AObj)
 | [],_=>[]
 | t::s,o::a=>(t,Ni τ o)::Me τ s a
 | t::s,[]=>(t,none)::Me τ s []
def Qw (τ:Nat→Nat):Nat→List (Option AObj)→List (Nat×Option AObj)
 | _,[]=>[]
 | id,o::b=>(id,Ni τ o)::Qw τ (id+1) b
theorem Qv (τ:Nat→Nat):∀(s:List Nat) (a:List (Option AObj)) (hp:Am) (t:Nat),t∉s→Be hp (Me τ s a) t=hp t
 | [],_,_,_,_=>rfl
 | q::s,o::a,hp,t,h=>by
  simp only [List.mem_cons,not_or] at h
  simp only [Me,Be]
  rw [Qv τ s a _ t h.2,An _ _ h.1]
 | q::s,[],hp,t,h=>by
  simp only [List.mem_cons,not_or] at h
  simp only [Me,Be]
  rw [Qv τ s [] _ t h.2,An _ _ h.1]
theorem effS_in (τ:Nat→Nat):∀(s:List Nat) (a:List (Option AObj)) (hp:Am) (i t:Nat),s.Nodup→s[i]?=some t→Be hp (Me τ s a) t=Ni τ ((a[i]?).getD none)
 | [],_,_,_,_,_,h=>by simp at h
 | q::s,o::a,hp,0,t,hn,h=>by
  simp at h;subst h
  simp only [Me,Be]
  rw [Qv τ s a _ q (List.nodup_cons.1 hn).1,Ba];simp
 | q::s,[],hp,0,t,hn,h=>by
  simp at h;subst h
  simp only [Me,Be]
  rw [Qv τ s [] _ q (List.nodup_cons.1 hn).1,Ba];simp [Ni]
 | q::s,o::a,hp,i+1,t,hn,h=>by
  simp only [Me,Be]
  rw [effS_in τ s a _ i t (List.nodup_cons.1 hn).2 (by simpa using h)];simp
 | q::s,[],hp,i+1,t,hn,h=>by
  simp only [Me,Be]
  rw [effS_in τ s [] _ i t (List.nodup_cons.1 hn).2 (by simpa using h)];simp
theorem Ue (τ:Nat→Nat):∀(b:List (Option AObj)) (id:Nat) (hp:Am) (t:Nat),¬(id≤t∧t<id+b.length)→Be hp (Qw τ id b) t=hp t
 | [],_,_,_,_=>rfl
 | o::b,id,hp,t,h=>by
  simp only [List.length_cons] at h
  simp only [Qw,Be]
  rw [Ue τ b (id+1) _ t (by omega),An _ _ (by omega)]
theorem effB_in (τ:Nat→Nat):∀(b:List (Option AObj)) (id:Nat) (hp:Am) (j:Nat),j<b.length→Be hp (Qw τ id b) (id+j)=Ni τ ((b[j]?).getD none)
 | [],_,_,_,h=>by simp at h
 | o::b,id,hp,0,h=>by
  simp only [Qw,Be]
  rw [Ue τ b (id+1) _ _ (by omega)];simp [Ba]
 | o::b,id,hp,j+1,h=>by
  simp only [Qw,Be]
  rw [show id+(j+1)=id+1+j by omega,effB_in τ b (id+1) _ j (by simpa using h)];simp
theorem Nz {τ:Nat→Nat} {o:Option AObj} {x:AObj} (h:Ni τ o=some x):∃y,o=some y∧y.isMut=x.isMut:=by
 unfold Ni at h
 split at h
 ·cases h;exact ⟨_,rfl,rfl⟩
 ·cases h;exact ⟨_,rfl,rfl⟩
 ·cases h
theorem objAt_map {τ:Nat→Nat} {m:Nat} {E E':Env} {l:Loc} (mv:Move E E') (al:∀t,t<m→E'.al (τ t)) (lo:∀t l,t<m→E'.loc (τ t)=some l→E.loc t=some l) (hh:E'.w.heap=E.w.heap) {o:AObj} {x:AObj} (hx:Ni τ (some o)=some x) (ht:tokO m (some o)=true) (h:ObjAt E l o):ObjAt E' l x:=by
 cases o with
 | mapo ks vs=>simp only [Ni] at hx;cases hx;simp only [tokO] at ht;obtain ⟨h0,ens,clock,xs,h1,h2,h3,h4⟩:=h;exact ⟨h0,ens,clock,xs,by rw [hh];exact h1,h2,h3,Jm mv al lo ht h4⟩
 | row sz mu rows =>
  simp only [Ni] at hx;cases hx
  simp only [tokO] at ht
  obtain ⟨g1,g2,g3,g4,g5,g6⟩:=h
  refine ⟨g1,g2,fun r hr=>?_,by simpa using g4,g5,fun hpos=>?_⟩
  ·obtain ⟨r',hr',rfl⟩:=List.mem_map.1 hr
   rw [Jc];exact g3 r' hr'
  ·obtain ⟨c,e,fz,vs,k1,k2,k3,k4,k5,k6⟩:=g6 hpos
   exact ⟨c,e,fz,vs,by rw [hh];exact k1,k2,by rw [Ql];exact Jm mv al lo (Qk m ht) k3,k4,k5,k6⟩
theorem Sh {τ:Nat→Nat} {m:Nat} {o:Option AObj} {x:AObj} (h:ORen τ m o (some x)):∃y,o=some y∧y.isMut=x.isMut:=by
 cases h with
 | inl=>exact ⟨_,rfl,rfl⟩
 | map=>exact ⟨_,rfl,rfl⟩
 | mp=>exact ⟨_,rfl,rfl⟩
theorem objAt_ren {τ:Nat→Nat} {m:Nat} {E E':Env} {l:Loc} (x:Ren τ m E E') (hh:E'.w.heap=E.w.heap) {o o':AObj} (hO:ORen τ m (some o) (some o')) (h:ObjAt E l o):ObjAt E' l o':=by
 cases hO with
 | inl hin =>
  obtain ⟨g1,g2,g3,g4,g5,g6⟩:=h
  refine ⟨g1,g2,g3,g4,g5,fun hpos=>?_⟩
  obtain ⟨c,e,fz,vs,k1,k2,k3,k4,k5,k6⟩:=g6 hpos
  exact ⟨c,e,fz,vs,by rw [hh];exact k1,k2,RelL.move x.mv (by rw [←Ex];exact hin) k3,k4,k5,k6⟩
 | map hin =>
  rename_i rows
  obtain ⟨g1,g2,g3,g4,g5,g6⟩:=h
  refine ⟨g1,g2,fun r hr=>?_,by simpa using g4,g5,fun hpos=>?_⟩
  ·have:=g3 (Bb τ r) (List.mem_map.2 ⟨r,hr,rfl⟩)
   rwa [Jc] at this
  ·obtain ⟨c,e,fz,vs,k1,k2,k3,k4,k5,k6⟩:=g6 hpos
   rw [Ql] at k3
   exact ⟨c,e,fz,vs,by rw [hh];exact k1,k2,Gl x (Qk m hin) k3,k4,k5,k6⟩
 | mp hin=>obtain ⟨h0,ens,clock,xs,h1,h2,h3,h4⟩:=h;exact ⟨h0,ens,clock,xs,by rw [hh];exact h1,h2,h3,Gl x hin h4⟩
theorem CallOk.of_ic {P:Program} {f:FuncId} {a0 a1 b1:List (Option AObj)} {us us':List AV} {X:AV} {hp:Am} {id:Nat} (h:IC P f a0 us X a1 b1) (s:List Nat) (hs:s.length=a0.length) (hnd:s.Nodup) (h8:a0.length≤8) (hk:b1.length≤7) (hla:a1.length≤a0.length)
  (hobj:∀i o,a0[i]?=some o→(∃x,o=some x)∧ORen (sg s) a0.length (hp (sg s i)) o) (hus:WeakL us' (Bb (sg s) us)) (htok:By a0.length us=true)
  (hb1:∀o∈b1,∃x,o=some x∧x.isMut=true) (ht1:∀o∈a1++b1,tokO (8+b1.length) o=true) (htX:Bn (8+b1.length) X=true) :
  CallOk P f us' hp id ⟨Bh (Rs s id) X,Me (Rs s id) s a1++Qw (Rs s id) id b1⟩:=fun G al loc w vs hM hf hr=>by
 classical
 -- the callee's view
 let locc:Nat→Option Loc:=fun i=>if i<a0.length then loc (sg s i) else none
 let mF:Nat→Prop:=fun b=>G.m1 b∨∃t o l,hp t=some o∧o.isMut=true∧loc t=some l∧l.b=b∧l.st<l.n∧t∉s
 have hmF:∀b,mF b→b<w.heap.size:=fun b hb=>by
  rcases hb with hb|⟨t,o,l,h1,h2,h3,h4,h5,h6⟩
  ·exact Nat.lt_of_lt_of_le (G.m1lt b hb) hM.size
  ·rw [←h4];exact hM.lt h3 h5
 have hsg:∀i,i<a0.length→s[i]?=some (sg s i):=fun i hi=>by
  have:i<s.length:=by omega
  simp [sg,List.getD,this]
 have hsmem:∀i,i<a0.length→sg s i∈s:=fun i hi=>List.mem_of_getElem? (hsg i hi)
 have hsinj:∀i j,i<a0.length→j<a0.length→sg s i=sg s j→i=j:=fun i j hi hj e=>by
  have h1:=hsg i hi
  have h2:=hsg j hj
  rw [e] at h1
  exact Ve hnd h1 h2
 have ha0:∀i,i<a0.length→∃x,a0[i]?=some (some x)∧ORen (sg s) a0.length (hp (sg s i)) (some x):=fun i hi=>by
  obtain ⟨⟨x,hx⟩,hO⟩:=hobj i a0[i] (by simp [hi])
  exact ⟨x,by rw [←hx];simp [hi],hx▸hO⟩
 have hpa0:∀t o,Bo a0 [] t=some o→t<a0.length∧a0[t]?=some (some o):=fun t o ho=>by
  simp only [Bo] at ho
  split at ho
  ·cases hq:a0[t]? with
   | none=>rw [hq] at ho;cases ho
   | some q=>rw [hq] at ho;simp at ho;subst ho;exact ⟨(List.getElem?_eq_some_iff.1 hq).1,rfl⟩
  ·simp at ho
 have hmt0:∀b,Cs (Bo a0 []) locc b→Cs hp loc b∧∃i l,i<a0.length∧loc (sg s i)=some l∧l.b=b∧l.st<l.n:=by
  rintro b ⟨t,o,l,h1,h2,h3,h4,h5⟩
  obtain ⟨hlt,ho⟩:=hpa0 t o h1
  obtain ⟨x,hx,hO⟩:=ha0 t hlt
  rw [ho] at hx;cases hx
  obtain ⟨y,hy,hmu⟩:=Sh hO
  simp only [locc,hlt,if_true] at h3
  exact ⟨⟨sg s t,y,l,hy,by rw [hmu];exact h2,h3,h4,h5⟩,t,l,hlt,h3,h4,h5⟩
 have hren:Ren (sg s) a0.length (Bv G.m1 hp al loc w) (Bv mF (Bo a0 []) (fun t=>t<8) locc w) :=
  ⟨⟨Nat.le_refl _,fun b _ hn=>⟨fun hc=>hn (by
   rcases hc with hc|hc|⟨t,o,l,h1,h2,h3,h4,h5,h6⟩
   ·exact .inl (hmt0 b hc).1
   ·exact .inr hc
   ·exact .inl ⟨t,o,l,h1,h2,h3,h4,h5⟩),rfl⟩⟩,fun t ht=>show t<8 by omega,fun t l ht hl=>by simpa only [Bv,locc,ht,if_true] using hl⟩
 have htb:TabH P (Cs (Bo a0 []) locc) w:=hM.tab.sub fun b hb=>(hmt0 b hb).1
 have hMc:Mem ⟨w,Cs (Bo a0 []) locc,mF,hmF,a0.length,locc,h8,htb⟩ (Bo a0 []) (fun t=>t<8) locc w:=by
  refine ⟨fun t o ho=>?_,fun t ho=>?_,fun t l hl=>?_,fun t t' l l' h1 h2 p1 p2 hb=>?_,rfl,rfl,rfl,Nat.le_refl _,fun _ _ _=>rfl,fun b hb _=>hb,fun t l hl hpos hmm=>?_,fun t ht=>show t<8 by have:t<a0.length:=ht;omega,fun t l _ hl=>hl⟩
  ·obtain ⟨hlt,ho'⟩:=hpa0 t o ho
   obtain ⟨x,hx,hO⟩:=ha0 t hlt
   rw [ho'] at hx;cases hx
   obtain ⟨y,hy,_⟩:=Sh hO
   obtain ⟨l,hl,hob⟩:=hM.obj _ _ hy
   exact ⟨l,by simp only [locc,hlt,if_true];exact hl,objAt_ren hren rfl (hy▸hO) hob⟩
  ·simp only [locc]
   split
   ·rename_i hlt
    obtain ⟨x,hx,_⟩:=ha0 t hlt
    have:Bo a0 [] t=some x:=by simp only [Bo];rw [if_pos (by omega),hx];rfl
    rw [this] at ho;cases ho
   ·rfl
  ·simp only [locc] at hl
   split at hl
   ·show t<8;omega
   ·cases hl
  ·simp only [locc] at h1 h2
   split at h1
   ·split at h2
    ·rename_i g1 g2;exact hsinj t t' g1 g2 (hM.inj _ _ _ _ h1 h2 p1 p2 hb)
    ·cases h2
   ·cases h1
  ·simp only [locc] at hl
   split at hl
   ·rename_i hlt
    rcases hmm with hmm|⟨t',o',l',k1,k2,k3,k4,k5,k6⟩
    ·exact hM.fgn _ l hl hpos hmm
    ·exact k6 (hM.inj _ _ _ _ k3 hl k5 hpos k4▸hsmem t hlt)
   ·cases hl
 have hargs:RelL (Bv mF (Bo a0 []) (fun t=>t<8) locc w) us vs:=Gl hren htok (hus _ _ hr)
 refine (h mF w locc vs hmF h8 htb hMc hargs).mono ?_
 rintro e w' ⟨v,loc1,rfl,hM1,hv⟩
 -- the caller's view afterwards
 let k:=b1.length
 let hp2:=Be hp (Me (Rs s id) s a1++Qw (Rs s id) id b1)
 let loc2:Nat→Option Loc:=fun t=>if t∈s then loc1 (s.idxOf t) else if id≤t∧t<id+b1.length then loc1 (8+(t-id)) else loc t
 have hsal:∀t∈s,al t:=fun t ht=>by
  obtain ⟨i,hi⟩:=List.getElem?_of_mem ht
  have hlt:i<a0.length:=by have:=(List.getElem?_eq_some_iff.1 hi).1;omega
  obtain ⟨x,hx,hO⟩:=ha0 i hlt
  have:sg s i=t:=by have:=hsg i hlt;rw [hi] at this;exact (Option.some.inj this).symm
  obtain ⟨y,hy,_⟩:=Sh hO
  obtain ⟨l,hl,_⟩:=hM.obj _ _ hy
  rw [this] at hl
  exact hM.al_ t l hl
 have hidx:∀i,i<a0.length→s.idxOf (sg s i)=i:=fun i hi=>by
  have hm:=hsmem i hi
  have h1:s[s.idxOf (sg s i)]?=some (sg s i):=by
   have hl:=List.idxOf_lt_length_of_mem hm
   rw [List.getElem?_eq_getElem hl];simp
  exact Ve hnd h1 (hsg i hi)
 have hsnew:∀t∈s,¬(id≤t∧t<id+b1.length):=fun t ht hc=>hf t hc.1 (by omega) (hsal t ht)
 have hp2s:∀i,i<a0.length→hp2 (sg s i)=Ni (Rs s id) ((a1[i]?).getD none):=fun i hi=>by
  simp only [hp2]
  rw [Gt,Ue _ _ _ _ _ (hsnew _ (hsmem i hi)),effS_in _ s a1 hp i _ hnd (hsg i hi)]
 have hp2n:∀j,j<b1.length→hp2 (id+j)=Ni (Rs s id) ((b1[j]?).getD none):=fun j hj=>by
  simp only [hp2]
  rw [Gt,effB_in _ _ _ _ _ hj]
 have hp2o:∀t,t∉s→¬(id≤t∧t<id+b1.length)→hp2 t=hp t:=fun t h1 h2=>by
  simp only [hp2]
  rw [Gt,Ue _ _ _ _ _ h2,Qv _ _ _ _ _ h1]
 have loc2s:∀i,i<a0.length→loc2 (sg s i)=loc1 i:=fun i hi=>by simp only [loc2,hsmem i hi,if_true,hidx i hi]
 have loc2n:∀j,j<b1.length→loc2 (id+j)=loc1 (8+j):=fun j hj=>by
  have:id+j∉s:=fun hm=>hsnew _ hm ⟨by omega,by omega⟩
  simp only [loc2,this,if_false]
  rw [if_pos ⟨by omega,by omega⟩];congr 1;omega
 have loc2o:∀t,t∉s→¬(id≤t∧t<id+b1.length)→loc2 t=loc t:=fun t h1 h2=>by simp only [loc2,h1,h2,if_false]
 -- every id is of one kind
 have kind:∀t,(∃i,i<a0.length∧t=sg s i)∨(∃j,j<b1.length∧t=id+j)∨(t∉s∧¬(id≤t∧t<id+b1.length)):=fun t=>by
  by_cases h1:t∈s
  ·obtain ⟨i,hi⟩:=List.getElem?_of_mem h1
   have hlt:i<a0.length:=by have:=(List.getElem?_eq_some_iff.1 hi).1;omega
   exact .inl ⟨i,hlt,by have:=hsg i hlt;rw [hi] at this;exact Option.some.inj this⟩
  ·by_cases h2:id≤t∧t<id+b1.length
   ·exact .inr (.inl ⟨t-id,by omega,by omega⟩)
   ·exact .inr (.inr ⟨h1,h2⟩)
 have hpa1:∀i,i<a0.length→Bo a1 b1 i=(a1[i]?).getD none:=fun i hi=>by simp only [Bo];rw [if_pos (by omega)]
 have hpb1:∀j,Bo a1 b1 (8+j)=(b1[j]?).getD none:=fun j=>by simp only [Bo];rw [if_neg (by omega)];simp
 have oldloc:∀i l,i<a0.length→loc1 i=some l→loc (sg s i)=some l:=fun i l hi hl=>by
  have:=hM1.idn i l hi hl
  simpa only [locc,hi,if_true] using this
 have hmt2:∀b,Cs hp2 loc2 b→Cs (Bo a1 b1) loc1 b∨∃t o l,hp t=some o∧o.isMut=true∧loc t=some l∧l.b=b∧l.st<l.n∧t∉s:=by
  rintro b ⟨t,o,l,h1,h2,h3,h4,h5⟩
  rcases kind t with ⟨i,hi,rfl⟩|⟨j,hj,rfl⟩|⟨g1,g2⟩
  ·rw [hp2s i hi] at h1
   obtain ⟨y,hy,hmu⟩:=Nz h1
   rw [loc2s i hi] at h3
   exact .inl ⟨i,y,l,by rw [hpa1 i hi];exact hy,by rw [hmu];exact h2,h3,h4,h5⟩
  ·rw [hp2n j hj] at h1
   obtain ⟨y,hy,hmu⟩:=Nz h1
   rw [loc2n j hj] at h3
   exact .inl ⟨8+j,y,l,by rw [hpb1 j];exact hy,by rw [hmu];exact h2,h3,h4,h5⟩
  ·rw [hp2o t g1 g2] at h1
   rw [loc2o t g1 g2] at h3
   exact .inr ⟨t,o,l,h1,h2,h3,h4,h5,g1⟩
 have hmt2':∀b,b<w.heap.size→Cs hp2 loc2 b→Cs hp loc b:=fun b hb hm=>by
  rcases hmt2 b hm with hm|⟨t,o,l,h1,h2,h3,h4,h5,_⟩
  ·exact (hmt0 b (hM1.muts b hm hb)).1
  ·exact ⟨t,o,l,h1,h2,h3,h4,h5⟩
 have hxx:Ext (Bv G.m1 hp al loc w) (Bv G.m1 hp2 (Ku al id) loc2 w'):=by
  refine Fh (fun _ h=>.inl h) (fun t l ha hl=>?_) hM1.size hmt2' (fun b hb hn=>?_)
  ·rcases kind t with ⟨i,hi,rfl⟩|⟨j,hj,rfl⟩|⟨g1,g2⟩
   ·rw [loc2s i hi] at hl;exact oldloc i l hi hl
   ·exact absurd ha (hf _ (by omega) (by omega))
   ·rwa [loc2o t g1 g2] at hl
  ·exact hM1.keep b hb fun hm=>hn (hmt0 b hm).1
 have hmv:Move (Bv mF (Bo a1 b1) (fun t=>t<8+b1.length) loc1 w') (Bv G.m1 hp2 (Ku al id) loc2 w') :=
  ⟨Nat.le_refl _,fun b _ hn=>⟨fun hc=>hn (by
   rcases hc with hc|hc
   ·rcases hmt2 b hc with hc|hc
    ·exact .inl hc
    ·exact .inr (.inr hc)
   ·exact .inr (.inl hc)),rfl⟩⟩
 have hrho1:∀i,i<a0.length→Rs s id i=sg s i:=fun i hi=>by simp only [Rs,hs,hi,if_true,sg]
 have hrho2:∀j,Rs s id (8+j)=id+j:=fun j=>by
  simp only [Rs];rw [if_neg (by omega),if_neg (by omega)];congr 1;omega
 have hrho3:∀i,¬i<a0.length→i<8→Rs s id i=id+7:=fun i h1 h2=>by simp only [Rs,hs,h1,if_false,h2,if_true]
 have halr:∀t,t<8+b1.length→Ku al id (Rs s id t):=fun t ht=>by
  by_cases h1:t<a0.length
  ·rw [hrho1 t h1];exact .inl (hsal _ (hsmem t h1))
  ·by_cases h2:t<8
   ·rw [hrho3 t h1 h2];exact .inr ⟨by omega,by omega⟩
   ·obtain ⟨j,rfl⟩:∃j,t=8+j:=⟨t-8,by omega⟩
    rw [hrho2];exact .inr ⟨by omega,by omega⟩
 have hlor:∀t l,t<8+b1.length→loc2 (Rs s id t)=some l→loc1 t=some l:=fun t l ht hl=>by
  by_cases h1:t<a0.length
  ·rw [hrho1 t h1,loc2s t h1] at hl;exact hl
  ·by_cases h2:t<8
   ·rw [hrho3 t h1 h2] at hl
    have hno:¬al (id+7):=hf _ (by omega) (by omega)
    rw [loc2o _ (fun hm=>hno (hsal _ hm)) (by omega)] at hl
    exact absurd (hM.al_ _ l hl) hno
   ·obtain ⟨j,rfl⟩:∃j,t=8+j:=⟨t-8,by omega⟩
    rw [hrho2,loc2n j (by omega)] at hl;exact hl
 refine ⟨v,loc2,rfl,?_,hxx,Ya hmv halr hlor htX hv⟩
 refine ⟨fun t o ho=>?_,fun t ho=>?_,fun t l hl=>?_,fun t1 t2 l1 l2 k1 k2 p1 p2 hb=>?_,hM1.os.trans hM.os,hM1.tape.trans hM.tape,hM1.output.trans hM.output,Nat.le_trans hM.size hM1.size,fun b hb hn=>?_,fun b hb hlt=>?_,fun t l hl hpos=>?_,fun t ht=>.inl (hM.aln t ht),fun t l ht hl=>?_⟩
 ·change hp2 t=some o at ho
  rcases kind t with ⟨i,hi,rfl⟩|⟨j,hj,rfl⟩|⟨g1,g2⟩
  ·rw [hp2s i hi] at ho
   obtain ⟨y,hy,_⟩:=Nz ho
   obtain ⟨l,hl,hob⟩:=hM1.obj i y (by rw [hpa1 i hi];exact hy)
   refine ⟨l,(loc2s i hi).trans hl,objAt_map hmv halr hlor rfl (hy▸ho) ?_ hob⟩
   cases hq:a1[i]? with
   | none=>rw [hq] at hy;cases hy
   | some q=>rw [hq] at hy;simp at hy;subst hy;exact ht1 _ (List.mem_append_left _ (List.mem_of_getElem? hq))
  ·rw [hp2n j hj] at ho
   obtain ⟨y,hy,_⟩:=Nz ho
   obtain ⟨l,hl,hob⟩:=hM1.obj (8+j) y (by rw [hpb1 j];exact hy)
   refine ⟨l,(loc2n j hj).trans hl,objAt_map hmv halr hlor rfl (hy▸ho) ?_ hob⟩
   cases hq:b1[j]? with
   | none=>rw [hq] at hy;cases hy
   | some q=>rw [hq] at hy;simp at hy;subst hy;exact ht1 _ (List.mem_append_right _ (List.mem_of_getElem? hq))
  ·rw [hp2o t g1 g2] at ho
   obtain ⟨l,hl,hob⟩:=hM.obj t o ho
   refine ⟨l,(loc2o t g1 g2).trans hl,hob.ext hxx fun hpos=>hM1.keep l.b (hM.lt hl hpos) fun hm=>?_⟩
   obtain ⟨_,i,l',hi,hl',hb',hp'⟩:=hmt0 l.b hm
   exact g1 (hM.inj _ _ _ _ hl' hl hp' hpos hb'▸hsmem i hi)
 ·change hp2 t=none at ho
  rcases kind t with ⟨i,hi,rfl⟩|⟨j,hj,rfl⟩|⟨g1,g2⟩
  ·rw [loc2s i hi]
   refine hM1.none_ i ?_
   rw [hp2s i hi] at ho
   rw [hpa1 i hi]
   cases hq:a1[i]? with
   | none=>rfl
   | some q =>
    rw [hq] at ho;simp only [Option.getD_some] at ho ⊢
    cases q with
    | none=>rfl
    | some q =>
     have:=ht1 _ (List.mem_append_left _ (List.mem_of_getElem? hq))
     cases q with
     | row=>simp [Ni] at ho
     | mapo=>simp [Ni] at ho
  ·rw [hp2n j hj] at ho
   obtain ⟨x,hx,hmu⟩:=hb1 b1[j] (List.getElem_mem hj)
   have ht:=ht1 _ (List.mem_append_right _ (List.getElem_mem hj))
   rw [List.getElem?_eq_getElem hj] at ho
   simp only [Option.getD_some] at ho
   rw [hx] at ho ht
   cases x with
   | row=>simp [Ni] at ho
   | mapo=>simp [Ni] at ho
  ·rw [loc2o t g1 g2];rw [hp2o t g1 g2] at ho;exact hM.none_ t ho
 ·rcases kind t with ⟨i,hi,rfl⟩|⟨j,hj,rfl⟩|⟨g1,g2⟩
  ·exact .inl (hsal _ (hsmem i hi))
  ·exact .inr ⟨by omega,by omega⟩
  ·rw [loc2o t g1 g2] at hl;exact .inl (hM.al_ t l hl)
 ·have newold:∀j t l l',j<b1.length→t∉s→¬(id≤t∧t<id+b1.length)→loc1 (8+j)=some l→loc t=some l'→l.st<l.n→l'.st<l'.n→l.b=l'.b→False:=fun j t l l' hj g1 g2 h1 h2 q1 q2 hbb=>by
   obtain ⟨x,hx,hmu⟩:=hb1 b1[j] (List.getElem_mem hj)
   have hmm:Cs (Bo a1 b1) loc1 l'.b:=⟨8+j,x,l,by rw [hpb1 j,List.getElem?_eq_getElem hj,hx];rfl,hmu,h1,hbb,q1⟩
   obtain ⟨_,i,l3,hi,hl3,hb3,hp3⟩:=hmt0 _ (hM1.muts _ hmm (hM.lt h2 q2))
   exact g1 (hM.inj _ _ _ _ hl3 h2 hp3 q2 hb3▸hsmem i hi)
  rcases kind t1 with ⟨i,hi,rfl⟩|⟨j,hj,rfl⟩|⟨g1,g2⟩
  ·rw [loc2s i hi] at k1
   rcases kind t2 with ⟨i',hi',rfl⟩|⟨j',hj',rfl⟩|⟨g1',g2'⟩
   ·rw [loc2s i' hi'] at k2;rw [hM1.inj _ _ _ _ k1 k2 p1 p2 hb]
   ·rw [loc2n j' hj'] at k2;have:=hM1.inj _ _ _ _ k1 k2 p1 p2 hb;omega
   ·rw [loc2o t2 g1' g2'] at k2
    exact absurd (hM.inj _ _ _ _ (oldloc i l1 hi k1) k2 p1 p2 hb▸hsmem i hi) g1'
  ·rw [loc2n j hj] at k1
   rcases kind t2 with ⟨i',hi',rfl⟩|⟨j',hj',rfl⟩|⟨g1',g2'⟩
   ·rw [loc2s i' hi'] at k2;have:=hM1.inj _ _ _ _ k1 k2 p1 p2 hb;omega
   ·rw [loc2n j' hj'] at k2;have:=hM1.inj _ _ _ _ k1 k2 p1 p2 hb;omega
   ·rw [loc2o t2 g1' g2'] at k2
    exact (newold j t2 l1 l2 hj g1' g2' k1 k2 p1 p2 hb).elim
  ·rw [loc2o t1 g1 g2] at k1
   rcases kind t2 with ⟨i',hi',rfl⟩|⟨j',hj',rfl⟩|⟨g1',g2'⟩
   ·rw [loc2s i' hi'] at k2
    exact absurd (hM.inj _ _ _ _ (oldloc i' l2 hi' k2) k1 p2 p1 hb.symm▸hsmem i' hi') g1
   ·rw [loc2n j' hj'] at k2
    exact (newold j' t1 l2 l1 hj' g1 g2 k2 k1 p2 p1 hb.symm).elim
   ·rw [loc2o t2 g1' g2'] at k2;exact hM.inj _ _ _ _ k1 k2 p1 p2 hb
 ·have hlt:b<w.heap.size:=Nat.lt_of_lt_of_le hb hM.size
  exact (hM1.keep b hlt fun hm=>hn (hM.muts b (hmt0 b hm).1 hb)).trans (hM.keep b hb hn)
 ·exact hM.muts b (hmt2' b (Nat.lt_of_lt_of_le hlt hM.size) hb) hlt
 ·rcases kind t with ⟨i,hi,rfl⟩|⟨j,hj,rfl⟩|⟨g1,g2⟩
  ·rw [loc2s i hi] at hl;exact fun hm=>hM1.fgn i l hl hpos (.inl hm)
  ·rw [loc2n j hj] at hl;exact fun hm=>hM1.fgn _ l hl hpos (.inl hm)
  ·rw [loc2o t g1 g2] at hl;exact hM.fgn t l hl hpos
 ·rcases kind t with ⟨i,hi,rfl⟩|⟨j,hj,rfl⟩|⟨g1,g2⟩
  ·rw [loc2s i hi] at hl;exact hM.idn _ l ht (oldloc i l hi hl)
  ·exact absurd (hM.aln _ ht) (hf _ (by omega) (by omega))
  ·rw [loc2o t g1 g2] at hl;exact hM.idn t l ht hl
end Go.Gm
namespace Go.Gm
theorem arV_clo {P:Program} {N:Nat} {ops rest:List Oper} {d:Option Tmp} {fr:Nat→AV} {hp:Am} {nx:Nat} {Q:ASt→Prop} {args:List AV} {f:FuncId} {first captured:List AV} {o:Prop} :
  arV P N ops rest d fr hp nx Q args (.clo (.func f) first captured) o=arC P N ops rest d fr hp nx Q f (first++args++captured) (Lb hp (first++args++captured)):=(rfl)
theorem Qa (τ:Nat→Nat):∀{rows:List (List AV)},Cy rows=true→rows.map (Bb τ)=rows
 | [],_=>rfl
 | r::rs,h=>by
  simp only [Cy,Bool.and_eq_true] at h
  rw [List.map_cons,Jn τ h.1,Qa τ h.2]
theorem Cq (τ:Nat→Nat) (t o n:Nat):Bh τ (.own t o n)=.own (τ t) o n:=by simp only [Bh]
theorem Gn (τ:Nat→Nat) (t o n:Nat):Bh τ (.ptr t o n)=.ptr (τ t) o n:=by simp only [Bh]
theorem Hw (τ:Nat→Nat) (t:TypeId) (u:AV):Bh τ (.ifc t u)=.ifc t (Bh τ u):=by simp only [Bh]
theorem Ha (τ:Nat→Nat) (l:List AV):Bh τ (.agg l)=.agg (Bb τ l):=by simp only [Bh]
theorem mapT_tup (τ:Nat→Nat) (l:List AV):Bh τ (.tup l)=.tup (Bb τ l):=by simp only [Bh]
theorem Gy (τ:Nat→Nat) (v:Value):Bh τ (.val v)=.val v:=by simp only [Bh]
theorem Ia (τ:Nat→Nat) (l:List (List AV)):Bh τ (.sl l)=.sl l:=by simp only [Bh]
theorem Jb (τ:Nat→Nat) (l:List AV):Bh τ (.ip l)=.ip l:=by simp only [Bh]
theorem Ek (τ:Nat→Nat):Bb τ []=[]:=by simp only [Bb]
theorem Dy (τ:Nat→Nat) (c:AV) (l:List AV):Bb τ (c::l)=Bh τ c::Bb τ l:=by simp only [Bb]
theorem rho_ap (s:List Nat) (id t:Nat):Rs s id t=if t<s.length then s.getD t 0 else if t<8 then id+7 else id+(t-8):=(rfl)
theorem Cf (s:List Nat) (t:Nat):sg s t=s.getD t 0:=(rfl)
theorem effS_nil (τ:Nat→Nat) (a:List (Option AObj)):Me τ [] a=[]:=(rfl)
theorem effS_cons (τ:Nat→Nat) (t:Nat) (s:List Nat) (o:Option AObj) (a:List (Option AObj)):Me τ (t::s) (o::a)=(t,Ni τ o)::Me τ s a:=(rfl)
theorem effS_cons0 (τ:Nat→Nat) (t:Nat) (s:List Nat):Me τ (t::s) []=(t,none)::Me τ s []:=(rfl)
theorem effB_nil (τ:Nat→Nat) (id:Nat):Qw τ id []=[]:=(rfl)
theorem effB_cons (τ:Nat→Nat) (id:Nat) (o:Option AObj) (b:List (Option AObj)):Qw τ id (o::b)=(id,Ni τ o)::Qw τ (id+1) b:=(rfl)
theorem renO_row (τ:Nat→Nat) (sz:Nat) (mu:Bool) (rows:List (List AV)):Ni τ (some (.row sz mu rows))=some (.row sz mu (rows.map (Bb τ))):=(rfl)
theorem renO_none (τ:Nat→Nat):Ni τ none=none:=(rfl)
attribute [go_sem] ar_callV arV_clo Cq Gn Ha mapT_tup Gy Ia Jb Ek Dy rho_ap effS_nil effS_cons effS_cons0 effB_nil effB_cons renO_row renO_none
theorem CallOk.ic {P:Program} {f:FuncId} {a0 a1 b1:List (Option AObj)} {us us':List AV} {X:AV} {hp:Am} {id:Nat} (h:IC P f a0 us X a1 b1) (s:List Nat) (hs:s.length=a0.length) (hnd:s.Nodup) (h8:a0.length≤8) (hk:b1.length≤7) (hla:a1.length≤a0.length)
  (hso:∀o∈a0,∃x,o=some x) (hobj:HRen (sg s) a0.length hp 0 a0) (hus:WeakL us' (Bb (sg s) us)) (htok:By a0.length us=true)
  (hb1:∀o∈b1,∃x,o=some x∧x.isMut=true) (ht1:∀o∈a1++b1,tokO (8+b1.length) o=true) (htX:Bn (8+b1.length) X=true) :
  CallOk P f us' hp id ⟨Bh (Rs s id) X,Me (Rs s id) s a1++Qw (Rs s id) id b1⟩ :=
 CallOk.of_ic h s hs hnd h8 hk hla (fun i o hi=>⟨hso o (List.mem_of_getElem? hi),by have:=hobj.get i;rw [hi] at this;simpa using this⟩) hus htok hb1 ht1 htX
theorem tokR_inl (m:Nat):∀{rows:List (List AV)},Cy rows=true→rows.all (By m)=true
 | [],_=>rfl
 | r::rs,h=>by
  simp only [Cy,Bool.and_eq_true] at h
  rw [List.all_cons,Jj m h.1,tokR_inl m h.2];rfl
theorem tokL_own (m t o n:Nat):Bn m (.own t o n)=decide (t<m):=by simp only [Bn]
theorem tokL_ptr (m t o n:Nat):Bn m (.ptr t o n)=decide (t<m):=by simp only [Bn]
theorem tokL_tup (m:Nat) (l:List AV):Bn m (.tup l)=By m l:=by simp only [Bn]
theorem tokL_val (m:Nat) (v:Value):Bn m (.val v)=true:=by simp only [Bn]
theorem tokL_sl (m:Nat) (l:List (List AV)):Bn m (.sl l)=Cy l:=by simp only [Bn]
theorem tokLL_nil (m:Nat):By m []=true:=by simp only [By]
theorem tokLL_cons (m:Nat) (c:AV) (l:List AV):By m (c::l)=(Bn m c && By m l):=by simp only [By]
theorem tokO_row (m sz:Nat) (mu:Bool) (rows:List (List AV)):tokO m (some (.row sz mu rows))=rows.all (By m):=(rfl)
theorem tokO_none (m:Nat):tokO m none=true:=(rfl)
attribute [go_sem] tokL_own tokL_ptr tokL_tup tokL_val tokL_sl tokLL_nil tokLL_cons tokO_row tokO_none
def nilCk (hp:Am) (v:AV) (r:Option AR):Option AR:=match v with
 | .ptr t i off=>if (hp t).isSome=true then some ⟨.ptr t i off,[]⟩ else none
 | .ip cs=>some ⟨.ip cs,[]⟩
 | _=>r
theorem aop_nilCheck {P:Program} {ft:FuncId→List AV→Option AV} {fr:Operand→AV} {hp:Am} {id:Nat} {d:Option Tmp} {x:Operand} {ty:TypeId} {pos:String} {af:Array Edge} {g:Option (Nat×Bool)}:Et P ft fr hp id ⟨d,.nilCheck x,ty,pos,af,g⟩=nilCk hp (fr x) (Cx P fr ⟨d,.nilCheck x,ty,pos,af,g⟩):=by
 unfold Et nilCk;rfl
theorem nilCk_ptr {hp:Am} {t i off:Nat} {r:Option AR}:nilCk hp (.ptr t i off) r=if (hp t).isSome=true then some ⟨.ptr t i off,[]⟩ else none:=(rfl)
theorem nilCk_ip {hp:Am} {cs:List AV} {r:Option AR}:nilCk hp (.ip cs) r=some ⟨.ip cs,[]⟩:=(rfl)
attribute [go_sem] aop_nilCheck nilCk_ptr nilCk_ip
theorem HRen.agree {τ:Nat→Nat} {n:Nat} {hp hp':Am}:∀{a:List (Option AObj)} {k:Nat},(∀i,i<a.length→hp (τ (k+i))=hp' (τ (k+i)))→HRen τ n hp k a→HRen τ n hp' k a
 | [],_,_,h=>.nil _
 | o::a,k,hh,h=>by
  cases h with
  | cons h1 h2=>exact .cons ((hh 0 (by simp))▸h1) (HRen.agree (fun i hi=>by have:=hh (i+1) (by simpa using hi);simpa [Nat.add_assoc,Nat.add_comm 1 i] using this) h2)
theorem adN.ic {P:Program} {ft:FuncId→List AV→Option AV} {N:Nat} {ops:List Oper} {A:List (List Nat)} {base:Nat} {rest:List (Nat×Oper)} {i:Nat} {d:Option Tmp} {fr:Nat→AV} {hp:Am} {acc:List (Nat×List Nat×List Nat)} {Q:(Nat→AV)→Am→Prop} {o:Oper}
  {f:FuncId} {a0 a1 b1:List (Option AObj)} {us us':List AV} {X:AV} (h:IC P f a0 us X a1 b1) (he:Ga P f) (hcv:Hx (Fk fr) o=some (f,us')) (s:List Nat) (hs:s.length=a0.length) (hnd:s.Nodup) (h8:a0.length≤8) (hk:b1.length≤7) (hla:a1.length≤a0.length)
  (hso:∀o∈a0,∃x,o=some x) (hobj:HRen (sg s) a0.length hp 0 a0) (hus:WeakL us' (Bb (sg s) us)) (htok:By a0.length us=true)
  (hb1:∀o∈b1,∃x,o=some x∧x.isMut=true) (ht1:∀o∈a1++b1,tokO (8+b1.length) o=true) (htX:Bn (8+b1.length) X=true)
  (k:Pk N d=true∧Jy A i s ((Me (Rs s (base+8*i)) s a1++Qw (Rs s (base+8*i)) (base+8*i) b1).map (·.1)) acc ∧
   Ea P ft N ops A base rest (Ff fr d (Bh (Rs s (base+8*i)) X)) (Be hp (Me (Rs s (base+8*i)) s a1++Qw (Rs s (base+8*i)) (base+8*i) b1)) (Wp i s ((Me (Rs s (base+8*i)) s a1++Qw (Rs s (base+8*i)) (base+8*i) b1).map (·.1)) acc) Q):adN P ft N ops A base rest i d fr hp acc Q o :=
 ⟨f,us',⟨_,_⟩,s,hcv,he,fun hp' ha=>CallOk.ic h s hs hnd h8 hk hla hso (hobj.agree fun j hj=>ha _ (by
  have:j<s.length:=by omega
  simp [sg,List.getD,this])) hus htok hb1 ht1 htX,k⟩
theorem Fw {fr:Nat→AV} {d:Option Tmp} {t:Tmp} {args:Array Operand} {tys:Array TypeId} {ty:TypeId} {pos:String} {af:Array Edge} {g:Option (Nat×Bool)} {f:FuncId} {first Cc:List AV} (h:fr t=.clo (.func f) first Cc):Hx (Fk fr) ⟨d,.call ⟨.value (.tmp t),args,tys⟩,ty,pos,af,g⟩=some (f,first++args.toList.map (Fk fr)++Cc):=by
 simp only [Hx,Fk,h]
theorem El {fr:Nat→AV} {d:Option Tmp} {f:FuncId} {args:Array Operand} {tys:Array TypeId} {ty:TypeId} {pos:String} {af:Array Edge} {g:Option (Nat×Bool)}:Hx (Fk fr) ⟨d,.call ⟨.value (.func f),args,tys⟩,ty,pos,af,g⟩=some (f,args.toList.map (Fk fr)):=(rfl)
theorem aop_callT {P:Program} {ft:FuncId→List AV→Option AV} {fr:Operand→AV} {hp:Am} {id:Nat} {d:Option Tmp} {t:Tmp} {args:Array Operand} {tys:Array TypeId} {ty:TypeId} {pos:String} {af:Array Edge} {g:Option (Nat×Bool)}:Et P ft fr hp id ⟨d,.call ⟨.value (.tmp t),args,tys⟩,ty,pos,af,g⟩=none:=(rfl)
theorem resV_ptr (hp:Am) (t o n:Nat):Fj hp (.ptr t o n)=none:=by simp [Fj,inl]
theorem callQ_none (ft:FuncId→List AV→Option AV) (hp:Am) (id:Nat) (f:FuncId) (us:List AV):callQ ft hp id f us none=none:=(rfl)
attribute [go_sem] adK_none aop_callT resV_ptr callQ_none
end Go.Gm
namespace Go.Gm
theorem relL_set {E:Env} {u u':AV} (hu:∀v,Rel E u v→Rel E u' v):∀{cs:List AV} {vs:List Value} {i:Nat},RelL E cs vs→cs[i]?=some u→RelL E (cs.set i u') vs
 | [],_,_,_,hi=>by simp at hi
 | c::cs,vs,0,h,hi=>by
  cases h with
  | cons h1 h2 =>
   simp at hi;subst hi
   exact .cons (hu _ h1) h2
 | c::cs,vs,i+1,h,hi=>by
  cases h with
  | cons h1 h2=>exact .cons h1 (relL_set hu h2 (by simpa using hi))
theorem Xg {N nx sz:Nat} {mu:Bool} {fr:Nat→AV} {hp:Am} {cs:List AV} (t i sz':Nat) (hz:0<sz') (h:hp t=some (.row sz mu [cs])) (hi:cs[i]?=some (.val (.slice none 0 0))):Ent N ⟨fr,hp,nx⟩ ⟨fr,Ag (Ag hp t (some (.row sz mu [cs.set i (.own nx 0 0)]))) nx (some (.row sz' true [])),nx+1⟩:=fun P G a w hc=>by
 obtain ⟨c1,c2,loc,hM,hr⟩:=conc_iff.1 hc
 clear hc
 have hno:hp nx=none:=by
  cases ho:hp nx with
  | none=>rfl
  | some o=>obtain ⟨l,hl,_⟩:=hM.obj nx o ho;exact absurd (hM.al_ nx l hl) (Nat.lt_irrefl _)
 have htn:t≠nx:=fun e=>by rw [e,hno] at h;cases h
 let l0:Loc:=⟨0,0,sz',0⟩
 have hmt:∀b,Cs (Ag (Ag hp t (some (.row sz mu [cs.set i (.own nx 0 0)]))) nx (some (.row sz' true []))) (Ag loc nx (some l0)) b→Cs hp loc b:=by
  rintro b ⟨t',o',l',h1,h2,h3,h4,h5⟩
  by_cases e:t'=nx
  ·subst e;rw [Ba] at h3;cases h3;exact absurd h5 (Nat.lt_irrefl _)
  ·rw [An _ _ e] at h1 h3
   by_cases e2:t'=t
   ·subst e2;rw [Ba] at h1;cases h1;exact ⟨t',_,l',h,h2,h3,h4,h5⟩
   ·rw [An _ _ e2] at h1;exact ⟨t',o',l',h1,h2,h3,h4,h5⟩
 have x:Ext (Bv G.m1 hp (fun t=>t<nx) loc w) (Bv G.m1 (Ag (Ag hp t (some (.row sz mu [cs.set i (.own nx 0 0)]))) nx (some (.row sz' true []))) (fun t=>t<nx+1) (Ag loc nx (some l0)) w) :=
  Fh (fun _ h=>Nat.lt_succ_of_lt h) (fun t' l' ha hl'=>by rwa [An _ _ (Nat.ne_of_lt ha)] at hl') (Nat.le_refl _) (fun b _=>hmt b) (fun _ _ _=>rfl)
 refine conc_iff.2 ⟨c1,c2,Ag loc nx (some l0),hM.change x (fun t' o' ho=>?_) (fun t' ho=>?_) (fun t' l hl=>?_) (fun t1 t2 l1 l2 k1 k2 p1 p2 hb=>?_) rfl rfl rfl (fun b hb=>.inl (hmt b hb)) (fun t' l k1 k2=>?_),fun d=>(hr d).ext x⟩
 ·by_cases e:t'=nx
  ·subst e;rw [Ba] at ho;cases ho
   exact .inr ⟨l0,Ba ..,rfl,hz,by simp,by simp [l0],⟨0,by simp [l0]⟩,fun h=>absurd h (Nat.lt_irrefl _)⟩
  ·rw [An _ _ e] at ho
   by_cases e2:t'=t
   ·subst e2
    rw [Ba] at ho;cases ho
    obtain ⟨l,hl',g1,g2,g3,g4,g5,g6⟩:=hM.obj t' _ h
    refine .inr ⟨l,by rw [An _ _ e];exact hl',g1,g2,by simpa using g3,by simpa using g4,g5,fun hpos=>?_⟩
    obtain ⟨c,e,fz,vs,k1,k2,k3,k4,k5,k6⟩:=g6 hpos
    refine ⟨c,e,fz,vs,k1,k2,?_,k4,k5,k6⟩
    simp only [List.flatten_cons,List.flatten_nil,List.append_nil] at k3 ⊢
    refine relL_set (fun v hv=>?_) (k3.ext x) hi
    rw [Gw hv]
    refine .own (Nat.lt_succ_self _) fun l hl=>?_
    have:l=l0:=by simpa [Bv,Ag] using hl.symm
    subst this
    exact ⟨none,0,rfl,hz,by simp [l0],Nat.le_refl _,fun h=>absurd h (Nat.lt_irrefl _)⟩
   ·rw [An _ _ e2] at ho;exact .inl ⟨ho,An _ _ e,fun _ _ _=>rfl⟩
 ·by_cases e:t'=nx
  ·subst e;rw [Ba] at ho;cases ho
  ·rw [An _ _ e] at ho
   by_cases e2:t'=t
   ·subst e2;rw [Ba] at ho;cases ho
   ·rw [An _ _ e2] at ho;rw [An _ _ e];exact hM.none_ t' ho
 ·by_cases e:t'=nx
  ·subst e;exact Nat.lt_succ_self _
  ·rw [An _ _ e] at hl;exact Nat.lt_succ_of_lt (hM.al_ t' l hl)
 ·by_cases e1:t1=nx
  ·subst e1;rw [Ba] at k1;cases k1;exact absurd p1 (Nat.lt_irrefl _)
  ·by_cases e2:t2=nx
   ·subst e2;rw [Ba] at k2;cases k2;exact absurd p2 (Nat.lt_irrefl _)
   ·rw [An _ _ e1] at k1;rw [An _ _ e2] at k2;exact hM.inj _ _ _ _ k1 k2 p1 p2 hb
 ·by_cases e:t'=nx
  ·subst e;rw [Ba] at k1;cases k1;exact absurd k2 (Nat.lt_irrefl _)
  ·rw [An _ _ e] at k1;exact .inl ⟨t',l,k1,k2,rfl⟩
theorem Ln {α:Type} {f:α→List AV} (h:∀x,Du (f x)=f x):∀l:List α,Fp (l.map f)=l.map f
 | []=>by simp [Fp]
 | x::l=>by simp [Fp,h x,Ln h l]
end Go.Gm
namespace Go.Gm
def fldS (d:Nat) (xs ys:Array Value) (f:Field):Sem Bool:=do Op.equalIn d f.type (←part f.type xs f.offset) (←part f.type ys f.offset)
def fldsE (P:Program) (d:Nat) (xs ys:Array Value):List Field→Option Bool
 | []=>some true
 | f :: fs => if f.name = "_" then fldsE P d xs ys fs else (Qu P (fldS d xs ys f)).bind fun r => if r = true then fldsE P d xs ys fs else some false
def cmpB (P:Program) (t:TypeId):Option (List (Nat×TypeId)):=match P.underlying t with
 | some (.struct fs) => if P.stoodInHeld t || P.eqGuardType P.depth t || fs.toList.any (fun f => decide (f.name = "_")) then none else some (fs.toList.map fun f => (f.offset, f.type))
 | _=>none
inductive EqL (P:Program) (xs ys:Array Value):List (Nat×TypeId)→Bool→Prop
 | nil:EqL P xs ys [] true
 | int {o:Nat} {t:TypeId} {k:IntKind} {a b:Int} {l:List (Nat×TypeId)} {r:Bool} (hu:P.underlying t=some (.int k)) (hx:xs[o]?=some (.int k a)) (hy:ys[o]?=some (.int k b)) (h:EqL P xs ys l r):EqL P xs ys ((o,t)::l) (decide (a=b) && r)
 | bool {o:Nat} {t:TypeId} {a b:Bool} {l:List (Nat×TypeId)} {r:Bool} (hu:P.underlying t=some .bool) (hx:xs[o]?=some (.bool a)) (hy:ys[o]?=some (.bool b)) (h:EqL P xs ys l r):EqL P xs ys ((o,t)::l) (decide (a=b) && r)
def maxI (a b:Int):Int:=if b>a then b else a
def maxK (u v:AV) (r:Option AR):Option AR:=match u,v with
 | .val (.int k a),.val (.int _ b)=>some ⟨.val (.int k (maxI a b)),[]⟩
 | _,_=>r
theorem maxK_int {k k':IntKind} {a b:Int} {r:Option AR}:maxK (.val (.int k a)) (.val (.int k' b)) r=some ⟨.val (.int k (maxI a b)),[]⟩:=(rfl)
attribute [go_sem] maxK_int
theorem Em {P:Program} {ft:FuncId→List AV→Option AV} {N:Nat} {ops:List Oper} {A:List (List Nat)} {base:Nat} {rest:List (Nat×Oper)} {i:Nat} {d:Option Tmp} {fr:Nat→AV} {hp:Am} {acc:List (Nat×List Nat×List Nat)} {Q:(Nat→AV)→Am→Prop} {o:Oper}
  {f:FuncId} {us xs:List AV} {X:AV} (h:PC P f xs X) (he:Ga P f) (hcv:Hx (Fk fr) o=some (f,us)) (hres:Lb hp us=some xs) (hlen:(Bt X (base+8*i)).2.length≤8)
  (k:Pk N d=true∧Jy A i (us.flatMap Cn) (((if Ci X=true then Dd hp (us.flatMap Hj) else [])++Hu (Bt X (base+8*i)).2 (base+8*i)).map (·.1)) acc ∧
   Ea P ft N ops A base rest (Ff fr d (Bt X (base+8*i)).1) (Be hp ((if Ci X=true then Dd hp (us.flatMap Hj) else [])++Hu (Bt X (base+8*i)).2 (base+8*i))) (Wp i (us.flatMap Cn) (((if Ci X=true then Dd hp (us.flatMap Hj) else [])++Hu (Bt X (base+8*i)).2 (base+8*i)).map (·.1)) acc) Q):adN P ft N ops A base rest i d fr hp acc Q o:=by
 refine ⟨f,us,⟨_,_⟩,us.flatMap Cn,hcv,he,fun hp' ha=>?_,k⟩
 have hx:∀x∈us,Agree hp hp' (Cn x):=fun x hx t ht=>ha t (List.mem_flatMap.2 ⟨x,hx,ht⟩)
 have h2:Dd hp (us.flatMap Hj)=Dd hp' (us.flatMap Hj):=Qi fun t ht=>by
  obtain ⟨x,hx',ht⟩:=List.mem_flatMap.1 ht
  exact hx x hx' t (tidV_sub t ht)
 rw [h2]
 exact Pd h ((resL_loc hx).symm.trans hres) hlen
theorem callR_none (hp:Am) (id:Nat) (us:List AV):callR hp id us none=none:=(rfl)
theorem noFt_ap (f:FuncId) (xs:List AV):Fq f xs=none:=(rfl)
attribute [go_sem] callR_none noFt_ap
def mkO {α:Type} (n:Int) (x:α):Option (List α):=if 0≤n∧n≤2147483648 then some (List.replicate n.toNat x) else none
theorem mkO_some {α:Type} {n:Int} {x:α} {l:List α}:mkO n x=some l↔(0≤n∧n≤2147483648)∧List.replicate n.toNat x=l:=by
 unfold mkO;split
 ·rename_i h;simp [h]
 ·rename_i h;simp [h]
theorem make_ok {P:Program} {α:Type} {enc:α→List AV} {x:α} {n:Int} {l:List α} {t e sz by_:Nat} {zs:List AV} {k k':IntKind} (hm:Mk P t=some (e,sz,by_,zs)) (hz:enc x=zs) (hby:by_≤65536) (h:mkO n x=some l) (id:Nat) :
  makeA P id t (.val (.int k n)) (.val (.int k' n))=some ⟨.own id 0 l.length,[(id,some (.row sz true (l.map enc)))]⟩:=by
 obtain ⟨⟨h0,h1⟩,rfl⟩:=mkO_some.1 h
 have hb:by_*n.toNat≤65536*2147483648:=Nat.mul_le_mul hby (by omega)
 unfold makeA
 simp only [hm,Ah h0]
 rw [if_pos ⟨Nat.le_refl _,by omega,by omega⟩]
 simp [Po,hz]
theorem set_enc {enc:Int→List AV} {k:IntKind} (h:∀v,enc v=[.val (.int k v)]) (l:List Int) (i:Nat) (v:Int):(l.map enc).set i [.val (.int k v)]=(l.set i v).map enc:=by
 rw [←h,List.map_set]
end Go.Gm
namespace Go.Gm
theorem Jh {N nx sz:Nat} {mu:Bool} {fr:Nat→AV} {hp:Am} {cs:List AV} {t:Nat} (d:Nat) (hd:fr d=.ptr t 0 0) (h:hp t=some (.row sz mu [cs])) (hin:Di cs=true) (hpos:0<cs.length):Ent N ⟨fr,hp,nx⟩ ⟨Ag fr d (.ip cs),Ag hp t none,nx⟩:=fun P G a w hc=>by
  obtain ⟨h1,h2,loc,hM,hr⟩:=conc_iff.1 hc
  clear hc
  refine conc_iff.2 ?_
  obtain ⟨hM',x'⟩:=hM.drop t
  refine ⟨h1,h2,_,hM',fun d'=>?_⟩
  by_cases e:d'=d
  · subst e
    show Rel _ (Ag fr d' (.ip cs) d') _
    rw [Ba]
    have hp0:=hr d'
    rw [hd] at hp0
    obtain ⟨l,hl,hob⟩:=hM.obj t _ h
    have hlt:l.st<l.n:=by
      obtain ⟨g1,g2,g3,g4,g5,g6⟩:=hob
      simp only [List.length_cons,List.length_nil] at g4
      omega
    have hlb:=hob.lt hlt
    obtain ⟨g1,g2,g3,g4,g5,g6⟩:=hob
    obtain ⟨c,e,fz,vs,k1,k2,k3,k4,k5,k6⟩:=g6 hlt
    generalize (a.tmps.getD d' undef)=v at hp0 ⊢
    cases hp0 with
    | ptr ha hh =>
      rw [hh l hl,Nat.zero_mul,Nat.add_zero]
      have hnm:¬(Bv G.m1 (Ag hp t none) (fun t=>t<nx) (Ag loc t none) w).mt l.b:=by
        rintro (⟨t',o',l',q1,q2,q3,q4,q5⟩|hm)
        · by_cases e:t'=t
          · subst e;rw [Ba] at q1;cases q1
          · rw [An _ _ e] at q3;exact e (hM.inj _ _ _ _ q3 hl q5 hlt q4)
        · exact hM.fgn t l hl hlt hm
      have mv:Move (Bv G.m1 hp (fun t=>t<nx) loc w) (Bv G.m1 (Ag hp t none) (fun t=>t<nx) (Ag loc t none) w) :=
        ⟨Nat.le_refl _,fun b _ hn=>⟨fun hm=>hn (by
          rcases hm with ⟨t',o',l',q1,q2,q3,q4,q5⟩|hm
          · by_cases e:t'=t
            · subst e;rw [Ba] at q1;cases q1
            · rw [An _ _ e] at q1 q3;exact .inl ⟨t',o',l',q1,q2,q3,q4,q5⟩
          · exact .inr hm),rfl⟩⟩
      have k1':w.heap[l.b]?=some (.cells c e fz):=k1
      simp only [List.flatten_cons,List.flatten_nil,List.append_nil] at k3
      refine .ip hlb hnm k4 (fun q u hq=>?_) (RelL.move mv hin k3)
      show w.cell? ⟨l.b,l.st+q,none⟩=some u
      simp only [World.cell?,k1',Option.isSome_none,Bool.false_eq_true,if_false]
      exact k5 q u hq
  · show Rel _ (Ag fr d (.ip cs) d') _
    rw [An _ _ e];exact (hr d').ext x'
theorem resV_clo (hp:Am) (fn:Fn) (f c:List AV):Fj hp (.clo fn f c)=if Di f=true∧Di c=true then some (.clo fn f c) else none:=by
  simp only [Fj,inl,Bool.and_eq_true]
theorem sealV_clo (hp:Am) (fn:Fn) (f c:List AV):Cl hp (.clo fn f c)=if Di f=true∧Di c=true then some (.clo fn f c,[]) else none:=by simp only [Cl]
theorem claimV_clo (k:Nat) (fn:Fn) (f c:List AV):Bt (.clo fn f c) k=(.clo fn f c,[]):=by simp only [Bt]
theorem shares_clo (fn:Fn) (f c:List AV):Ci (.clo fn f c)=true:=by simp only [Ci]
theorem tidV_clo (fn:Fn) (f c:List AV):Hj (.clo fn f c)=[]:=by simp [Hj]
theorem resOf_clo (fn:Fn) (f c:List AV):Cu [.clo fn f c]=.clo fn f c:=(rfl)
attribute [go_sem] resV_clo sealV_clo claimV_clo shares_clo tidV_clo
end Go.Gm
namespace Go.Gm
section
variable {P:Program} {ft:FuncId→List AV→Option AV} {fr:Operand→AV} {hp:Am} {id:Nat} {d:Option Tmp} {ty:TypeId} {pos:String} {af:Array Edge} {g:Option (Nat×Bool)}
def catO (a b:ByteArray):Option ByteArray:=if a.size+b.size≤9223372036854775807 then some (a++b) else none
theorem binV_nbool {t:TypeId} {x y:Operand} {a b:Bool} (hu:P.underlying t=some .bool):Gs P .neq t x y (.bool a) (.bool b)=some (.bool (!decide (a=b))):=by
 have h:Qu P (Op.equalIn (9999+1) t (.bool a) (.bool b))=some (decide (a=b)):=by
  unfold Op.equalIn
  rw [Fu,We hu]
  simp [Ck,beq_dec]
 unfold Gs eqGuard
 rw [show (9999+1)=Op.maxDepth from rfl] at h
 simp [binOp,Fu,Ck,Qt,Ox,Op.equal,h]
def minI (a b:Int):Int:=if b<a then b else a
def minK (u v:AV) (r:Option AR):Option AR:=match u,v with
 | .val (.int k a),.val (.int _ b)=>some ⟨.val (.int k (minI a b)),[]⟩
 | _,_=>r
theorem aop_min {x y:Operand} {tys:Array TypeId}:Et P ft fr hp id ⟨d,.call ⟨.builtin .min,#[x,y],tys⟩,ty,pos,af,g⟩=minK (fr x) (fr y) (Cx P fr ⟨d,.call ⟨.builtin .min,#[x,y],tys⟩,ty,pos,af,g⟩):=by
 show Cx P fr _=_
 unfold minK
 split
 ·rename_i k a k' b hx hy
  refine Vd ?_ ?_
  ·simp [Op.operands,Call.operands,hx,hy,Mw]
  ·simp [execOp,hx,hy,Mw,Builtin.min_,Builtin.min2,Fu,Ck,Ox,builtin,resolve,invoke,minI]
 ·rfl
theorem minK_int {k k':IntKind} {a b:Int} {r:Option AR}:minK (.val (.int k a)) (.val (.int k' b)) r=some ⟨.val (.int k (minI a b)),[]⟩:=(rfl)
def plainA2 (P:Program) (fr:Operand→AV) (o:Oper):Option AR:=Cx P fr o
def strCut (P:Program) (t:TypeId) (x:AV) (lo hi:Option AV) (r:Option AR):Option AR:=match x with
 | .val (.string s)=>match loOf lo,hiOf s.size hi with
  | some l,some h=>if Gd P t=true∧l≤h∧h≤s.size then some ⟨.val (.string (s.extract l h)),[]⟩ else r
  | _,_=>r
 | _=>r
def cutSO? (s:ByteArray) (lo hi:Int):Option ByteArray:=if 0≤lo∧lo≤hi∧hi≤s.size then some (s.extract lo.toNat hi.toNat) else none
attribute [go_sem] aop_min minK_int
end
end Go.Gm
