import Derived.Test.YtbdncmljibideaaGreatDoorGqUak
import Derived.Test.YtbdncmljibideaaGreatDoorGqUan
import Derived.Test.YtbdncmljibideaaGreatDoorGqUad
import Derived.Test.YtbdncmljibideaaGreatDoorGqUae
import Derived.OpenShut
import Derived.Lib.LaidTab
import Derived.LaidSub
import Derived.LaidHandle
import Derived.Shelf.Vars
set_option linter.all false
set_option maxRecDepth 8000
set_option maxHeartbeats 1000000
namespace Go.Proofs.Yt
open Go.Gm
namespace Au
structure Meets (a:List (A2 (List Int))) (b:List Int):Prop where
  n:a.length≤1048576
  l0:∀p∈a,p.e0.length≤1048576∧p.e1.length≤1048576
  b0:∀p∈a,Byt p.e0∧Byt p.e1
  lb:b.length≤1048576
  bb:Byt b
theorem sumL_mem {a:List (A2 (List Int))} {p:A2 (List Int)} (h:p∈a):p.e0.length+p.e1.length≤Va a:=by
 induction a with
 | nil=>cases h
 | cons q a ih =>
  have e:Va (q::a)=q.e0.length+q.e1.length+Va a:=by simp [Va]
  rcases List.mem_cons.1 h with rfl|h
  · omega
  · have:=ih h;omega
theorem much_eq {a:List (A2 (List Int))} {b:List Int} (h:Meets a b):∃v:Bool,f6 a b=some v∧(v=false→Small a b):=by
  have hn:=h.n
  have hlb:=h.lb
  have key:∃r,loopO (f6_s1 a) ((b.length:Int),0)=some r∧(8<a.length∨r=(b.length:Int)+(Va a:Int)):=by
    refine Dv (fun n s=>∃i:Nat,s.2=(i:Int)∧i≤a.length∧i≤8∧s.1≤(2*(i:Int)+1)*1048576∧s.1=(b.length:Int)+(Va (a.take i):Int)∧n=a.length-i) ?_ (k:=a.length) ⟨0,rfl,by omega,by omega,by simp;omega,by simp [Va],rfl⟩
    rintro n ⟨y,_⟩ ⟨i,rfl,hi,h8,h2,h3,hk⟩
    simp only at h2 h3
    by_cases c:i<a.length
    · by_cases c8:i<8
      · obtain ⟨l0,l1⟩:=h.l0 _ (List.getElem_mem c)
        have w1:IntKind.i64.wrap (y+(a[i].e0.length:Int))=y+(a[i].e0.length:Int):=Bf (by omega) (by omega)
        have w2:IntKind.i64.wrap (y+(a[i].e0.length:Int)+(a[i].e1.length:Int))=y+(a[i].e0.length:Int)+(a[i].e1.length:Int):=Bf (by omega) (by omega)
        refine .inl ⟨(y+(a[i].e0.length:Int)+(a[i].e1.length:Int),((i+1:Nat):Int)),n-1,?_,by omega,i+1,rfl,by omega,by omega,by simp only;omega,by simp only;rw [sumL_take c];omega,by omega⟩
        · simp only [f6_s1,if_pos (show (i:Int)<(a.length:Int) by omega),if_pos (show (i:Int)<8 by omega),Ep c,Option.bind_some,w1,w2,Ch (show i≤10000000000 by omega)]
      · exact .inr ⟨y,by simp only [f6_s1,if_pos (show (i:Int)<(a.length:Int) by omega),if_neg (show ¬(i:Int)<8 by omega)],.inl (by omega)⟩
    · refine .inr ⟨y,by simp only [f6_s1,if_neg (show ¬(i:Int)<(a.length:Int) by omega)],.inr ?_⟩
      rwa [List.take_of_length_le (by omega)] at h3
  obtain ⟨y,k1,k2⟩:=key
  by_cases c:8<(a.length:Int)
  · exact ⟨true,by simp only [f6,k1,Option.bind_some,if_pos c],fun h=>by cases h⟩
  · refine ⟨decide (2500<y),by simp only [f6,k1,Option.bind_some,if_neg c],fun hv=>?_⟩
    rw [decide_eq_false_iff_not] at hv
    rcases k2 with k2|k2
    · omega
    · exact ⟨by omega,fun p hp=>by have:=sumL_mem hp;omega,h.b0,by omega,h.bb,by omega⟩
theorem same_nums (l:List Int) (h:l.length≤1000000):f21 l l=some true:=by
  unfold f21
  rw [if_pos rfl]
  obtain ⟨r,h1,h2⟩:=listEq (step:=f21_s1 l l) l l rfl h (fun i=>rfl)
  rw [h1]
  rcases h2 with ⟨_,h2⟩|⟨rfl,_⟩
  · exact absurd rfl h2
  · rfl
def hasS (k:ByteArray) (l:List ByteArray):Bool:=l.any fun x=>decide (x=k)
theorem hasS_iff {k:ByteArray} {l:List ByteArray}:hasS k l=true↔k∈l:=by simp [hasS]
theorem there_eq (l:List ByteArray) (hl:l.length≤1000000) (k:ByteArray) (e:Er) (t:Trace):loopO (f4_s2 k (l,e,t)) (false,0)=some (hasS k l):=by
 have:=Da (step:=f4_s2 k (l,e,t)) (fun i=>(hasS k (l.take i),(i:Int))) l.length (r:=hasS k l) (fun i hi=>by
  have e1:hasS k (l.take (i+1))=(hasS k (l.take i) || decide (l[i]=k)):=by rw [List.take_succ_eq_append_getElem hi];simp only [hasS,List.any_append,List.any_cons,List.any_nil,Bool.or_false]
  rw [e1]
  cases hasS k (l.take i)
  · simp only [f4_s2,if_pos (show (i:Int)<((l.length:Nat):Int) by omega),Bool.false_eq_true,if_false,Ep hi,Option.bind_some,Ch (show i≤10000000000 by omega),Bool.false_or]
  · simp only [f4_s2,if_pos (show (i:Int)<((l.length:Nat):Int) by omega),if_true,Ch (show i≤10000000000 by omega),Bool.true_or]) (by
  simp only [f4_s2,if_neg (show ¬((l.length:Nat):Int)<((l.length:Nat):Int) by omega),List.take_length])
 simpa [hasS] using this
theorem j1_eq {J:List Res} (m:List Int) (hs:SzB 2500 J) (hl:J.length≤2500) (hR:Wu J) (ho:∀r∈J,∀o∈r.Offs,o≤2500) (n:Int) (st:ByteArray) (no:Int) (l:List ByteArray) (e:Er):Xa (J,n,st,no) (l,e,⟨J,m⟩) ()=some true:=by
 obtain ⟨B,R,b1,b2,b3⟩:=index_bytes m hs hl hR ho
 have h4:loopO (f4_s4 (J,n,st,no)) ([],0)=some (J.map (·.Key)):=by
  have:=Da (step:=f4_s4 (J,n,st,no)) (fun i=>((J.take i).map (·.Key),(i:Int))) J.length (r:=J.map (·.Key)) (fun i hi=>by
   have hap:Bq ((J.take i).map (·.Key)) [J[i].Key]=some ((J.take (i+1)).map (·.Key)):=by
    rw [Ct (by simp;omega) (by simp),List.take_succ_eq_append_getElem hi];simp only [List.map_append,List.map_cons,List.map_nil]
   simp only [f4_s4,if_pos (show (i:Int)<((J.length:Nat):Int) by omega),Ep hi,Option.bind_some,hap,Ch (show i≤10000000000 by omega)]) (by
   simp only [f4_s4,if_neg (show ¬((J.length:Nat):Int)<((J.length:Nat):Int) by omega),List.take_length])
  simpa using this
 have h22:=same_strs (J.map (·.Key)) (by simp;omega)
 simp only [Xa,h4,Option.bind_some,b1,keys_eq J m (by omega),h22,if_true,Er.isNil,b2,b3,Yi]
theorem law4 {a:List (A2 (List Int))} {b:List Int} (h:Meets a b) (k:ByteArray) (o:Int):f4 a b k o=some true:=by
 obtain ⟨v,v1,v2⟩:=much_eq h
 cases v with
 | true=>simp only [f4,v1,Option.bind_some,if_true,Yi]
 | false =>
  by_cases ck:500<(k.size:Int)
  · simp only [f4,v1,Option.bind_some,Bool.false_eq_true,if_false,if_pos ck,Yi]
  rcases open_eq (v2 rfl) with ⟨e,st,n,he,p1,p2⟩|⟨J,m,L,p1,p2,p3,p4,p5,p6,p7,p8,p9,p10,p11⟩
  · simp only [f4,v1,Option.bind_some,Bool.false_eq_true,if_false,if_neg ck,p1,p2,if_neg he,Yi]
  · have hoff:=p3.off
    have hle:∀r∈J,∀o∈r.Offs,o≤2500:=fun r hr o ho=>by
     obtain ⟨q,q1,q2⟩:=(p10 o).1 (p11 r hr o ho)
     have:=p9 q q1;omega
    obtain ⟨x,ok,g1,g2,g3⟩:=get_eq J (by omega) hoff k
    obtain ⟨t1,t2⟩:=forth_eq J (by omega) hoff o
    have t3:=same_strs (fw J o) (by have:=Vm J o;omega)
    have hx:x.Offs.length≤1000000:=by
     rcases g3 with ⟨_,g3,_⟩|⟨_,rfl,_⟩
     · exact hoff x g3
     · simp
    have s1:=same_nums x.Offs hx
    have s2:=has_eq x.Offs o hx
    have hmem:∀l,(l=fw J o∧o∈m)∨(l=[]∧o∉m)→hasS k l=decide (o∈x.Offs):=fun l hl=>by
     refine Bool.eq_iff_iff.2 ?_
     rw [hasS_iff,decide_eq_true_eq]
     rcases hl with ⟨rfl,hm⟩|⟨rfl,hm⟩
     · constructor
       · intro hk
         obtain ⟨r,r1,r2⟩:=List.mem_map.1 hk
         obtain ⟨r1,r3⟩:=List.mem_filter.1 r1
         have r3:=of_decide_eq_true r3
         rcases g3 with ⟨_,g3,g4⟩|⟨_,_,g4⟩
         · rw [←key_inj p6.2 r1 g3 (r2.trans g4.symm)];exact r3
         · exact absurd r2 (g4 r r1)
       · intro hk
         rcases g3 with ⟨_,g3,g4⟩|⟨_,rfl,g4⟩
         · exact List.mem_map.2 ⟨x,List.mem_filter.2 ⟨g3,by simpa using hk⟩,g4⟩
         · cases hk
     · constructor
       · intro hk;cases hk
       · intro hk
         rcases g3 with ⟨_,g3,g4⟩|⟨_,rfl,g4⟩
         · exact absurd (p11 x g3 o hk) hm
         · cases hk
    have n1:f10 (Er.no 330)=some 330:=by simp only [f10,Er.isNil,Bool.false_eq_true,if_false,Wd,Option.bind_some,if_true]
    have n2:f10 (Er.no 320)=some 320:=by simp only [f10,Er.isNil,Bool.false_eq_true,if_false,Wd,Option.bind_some,if_true]
    have z1:¬(330:Int)=0:=by decide
    have z2:¬(320:Int)=0:=by decide
    have e16:f16 ⟨J,m⟩ k=some (x.Val,(if ok=true then Er.nil else Er.no 330),⟨J,m⟩):=by
     rcases g3 with ⟨rfl,_,_⟩|⟨rfl,rfl,_⟩
     · simp only [f16,g1,Option.bind_some,if_true]
     · simp only [f16,g1,Option.bind_some,Bool.false_eq_true,if_false,f44,if_neg z1]
    have e18:f18 ⟨J,m⟩ k=some (x.Offs,⟨J,m⟩):=by simp only [f18,f46,g1,Option.bind_some]
    have jj:=fun l e=>j1_eq m p3 p4 p6 hle 0 ⟨#[]⟩ 0 l e
    have tail:∀(i:Int) (is:Bool) (l:List ByteArray) (e:Er),f20 L o=some (i,is)→f19 ⟨J,m⟩ o=some (l,e,⟨J,m⟩)→(is=true∧l=fw J o∧e=Er.nil∧o∈m∨is=false∧l=[]∧e=Er.no 320∧o∉m)→f4 a b k o=some true:=fun i is l e q1 q2 q3=>by
     have hl:l.length≤1000000:=by
      rcases q3 with ⟨_,rfl,_⟩|⟨_,rfl,_⟩
      · have:=Vm J o;omega
      · simp
     have th:=there_eq l hl k e ⟨J,m⟩
     rw [hmem l (by
      rcases q3 with ⟨_,h1,_,h2⟩|⟨_,h1,_,h2⟩
      ·exact .inl ⟨h1,h2⟩
      ·exact .inr ⟨h1,h2⟩)] at th
     rcases q3 with ⟨rfl,rfl,rfl,_⟩|⟨rfl,rfl,rfl,_⟩<;>cases ok <;>
      simp only [f4,v1,Option.bind_some,Bool.false_eq_true,reduceCtorEq,if_false,if_neg ck,p1,p2,if_true,Er.isNil,p7,e16,g2,e18,q1,q2,th,s1,s2,t2,t3,n1,n2,jj]
    rcases which_eq L (by omega) o with ⟨w,_,w1,w2⟩|⟨w1,w2⟩
    · have hm:=(p10 o).2 w2
      exact tail w true (fw J o) Er.nil w1 (by simp only [f19,if_pos hm,t1,Option.bind_some]) (.inl ⟨rfl,rfl,rfl,hm⟩)
    · have hm:o∉m:=fun hm=>w2 ((p10 o).1 hm)
      exact tail 0 false [] (Er.no 320) w1 (by simp only [f19,if_neg hm,f44,if_neg z2,Option.bind_some]) (.inr ⟨rfl,rfl,rfl,hm⟩)
end Au
end Go.Proofs.Yt
namespace Go.Gm
theorem max_shapedT {P:Program} {W:World} {g:Nat} {t:TypeId} {zero:Array Value} (hsh:W.ShapedOpen P) (hgs:g<P.globals.size) (hz:((begin P (fun _ _=>0) default).world.heap[g]?).bind Obj.row?=some (zero,t)) (hsz:zero.size=1)
    (hb:P.buildable t=true) (hc:P.cellTypes P.depth t=some [t]) (hu:P.underlying t=some (.int .i64)):g<W.heap.size∧∃cs t fz,∃m:Int,W.heap[g]?=some (.cells cs t fz)∧cs[0]?=some (.int .i64 m):=by
  obtain ⟨cs,h1,h2,_⟩:=hsh.1 g zero t hgs hz
  obtain ⟨m,hm⟩:=Go.Proofs.cell_of_shapedOpen_int hsh hgs hz hsz hb hc hu
  refine ⟨(Array.getElem?_eq_some_iff.1 h1).1,cs,_,_,m,h1,?_⟩
  simpa [World.cell?,h1] using hm
theorem typ_arr2 {B:(H:Type)→DataW H→Nat} {P:Program} {α:Type} (f:α→AV) (hB:BulkOk B) {t e:TypeId} {V:Nat→α→Prop} (ht:P.underlying t=some (.array 2 e)) (he:Wq B P e (fun x=>[f x]) V) (hce:P.cellsOf e=1) (hct:P.cellsOf t=2) :
    Wq B P t (fun x:Go.Proofs.Yt.Au.A2 α=>[f x.e0,f x.e1]) (fun n x=>V n x.e0∧V n x.e1):=fun en w Qh cs d ps h=>by
  obtain ⟨xs,m,rfl,hx,hlen,hxl,hel⟩:=DataW.trod_array ht h
  rw [hct] at hlen
  rw [hce] at hel
  match cs,hlen with
  | [c0,c1],_ =>
    match xs,hxl with
    | [q0,q1],_ =>
      have h0:DataW.trod en P w 0 (fun _=>true) true m e [c0]=some q0:=hel 0 (by decide)
      have h1:DataW.trod en P w 0 (fun _=>true) true m e [c1]=some q1:=hel 1 (by decide)
      obtain ⟨x0,a1,a2,a3⟩:=he en w m [c0] q0.1 q0.2 h0
      obtain ⟨x1,b1,b2,b3⟩:=he en w m [c1] q1.1 q1.2 h1
      have ed:d=.agg [q0.1,q1.1]:=(Prod.mk.inj hx).1
      subst ed
      refine ⟨⟨x0,x1⟩,?_,?_,fun n hn=>⟨a3 n ?_,b3 n ?_⟩⟩
      · cases a1 with
        | cons a1 _=>exact .cons a1 b1
      · intro v hv
        rcases List.mem_cons.1 hv with rfl|hv
        · exact a2 _ (by simp)
        · exact b2 v hv
      · exact Nat.le_trans (hB.part _ _ (by simp)) hn
      · exact Nat.le_trans (hB.part _ _ (by simp)) hn
end Go.Gm
namespace Go.Proofs.Yt
open Go.Gm
namespace Au
theorem g_pow : Tryz.prog.globalNamed "internal/strconv.uint64pow10" = none := by kernel_rfl
theorem g_max : Tryz.prog.globalNamed "internal/bytealg.MaxLen" = some 1 := by kernel_rfl
theorem g_err : Tryz.prog.globalNamed "errors.errorType" = some 0 := by kernel_rfl
theorem t_rt : (Tryz.prog.cutTypes.find? (·.1 == "internal/reflectlite.rtype")).map (·.2) = some 137 := by kernel_rfl
theorem t_size:Tryz.prog.types.size=290:=by kernel_rfl
theorem t_one:((List.range 290).filter fun t=>Tryz.prog.rowNamed t [101,114,114,111,114])=[28]:=by kernel_rfl
theorem errT_val:errT Tryz.prog=some (.iface 137 (.agg #[.pointer (some ⟨2,28,none⟩)])):=by kernel_rfl
def laidE {H : Type} : DataW H := .iface "internal/reflectlite.rtype" (.agg [.ptr (.lit (.string [101, 114, 114, 111, 114]))])
theorem tables_of {W : World} (h : laidMetH Tryz.prog [("errors.errorType", laidE)] W) (hsh : W.ShapedOpen Tryz.prog) : TabH Tryz.prog (fun _ => False) W := by
  have h' : laidMet Tryz.prog [] W ∧ handlesMet Tryz.prog [("errors.errorType", laidE)] W := h
  obtain ⟨name,u,ty,e1,e2,e3,e4,e5⟩:=h'.2 _ (List.mem_singleton.2 rfl)
  have en:name=[101,114,114,111,114]:=(Option.some.inj e1).symm
  subst en
  obtain rfl:=Option.some.inj (t_rt.symm.trans e2)
  have hm:ty∈(List.range 290).filter fun t=>Tryz.prog.rowNamed t [101,114,114,111,114]:=List.mem_filter.2 ⟨List.mem_range.2 (by rw [←t_size];exact e3),e4⟩
  rw [t_one] at hm
  obtain rfl:=List.mem_singleton.1 hm
  have hh:typeHandle Tryz.prog 28=.pointer (some ⟨2,28,none⟩):=by kernel_rfl
  rw [hh] at e5
  have hmax:=max_shapedT (g:=1) (t:=3) (zero := #[.int .i64 0]) hsh (by decide +kernel) (by kernel_rfl) rfl (by kernel_rfl) (by kernel_rfl) Tryz.underlying3
  intro g p hg
  have k1 : (Tryz.prog.globalNamed "internal/strconv.uint64pow10" == some g) = false := by rw [g_pow]; rfl
  simp only [tabs,libTabs,List.find?_cons,k1,g_max,g_err] at hg
  by_cases h1:g=1
  · subst h1
    have e:((some 1:Option Nat) == some 1)=true:=rfl
    simp only [e,Option.map_some,Option.some.injEq] at hg
    subst hg
    obtain ⟨a1,cs,t,fz,m,a2,a3⟩:=hmax
    exact ⟨a1,fun h=>h,_,t,fz,a2,m,a3⟩
  · have e:((some 1:Option Nat) == some g)=false:=by simp;exact fun h=>h1 h.symm
    simp only [e] at hg
    by_cases h0:g=0
    · subst h0
      have e:((some 0:Option Nat) == some 0)=true:=rfl
      simp only [e,Option.map_some,Option.some.injEq] at hg
      subst hg
      unfold World.var? at e5
      rw [g_err,Option.bind_some] at e5
      cases hq:W.heap[0]? with
      | none=>rw [hq] at e5;cases e5
      | some o =>
        rw [hq] at e5
        cases o with
        | cells cs t fz =>
          simp only [Option.some.injEq] at e5
          subst e5
          exact ⟨(Array.getElem?_eq_some_iff.1 hq).1,fun h=>h,_,t,fz,rfl,by rw [errT_val];rfl,by rw [errT_val];rfl⟩
        | _=>cases e5
    · have e:((some 0:Option Nat) == some g)=false:=by simp;exact fun h=>h0 h.symm
      simp only [e,List.find?_nil,Option.map_none] at hg
      cases hg
end Au
end Go.Proofs.Yt
