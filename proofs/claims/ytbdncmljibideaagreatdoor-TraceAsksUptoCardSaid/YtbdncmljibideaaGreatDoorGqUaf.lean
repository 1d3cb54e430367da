import Derived.Test.YtbdncmljibideaaGreatDoorGqUae
import Derived.Test.YtbdncmljibideaaGreatDoorGqUad
import Derived.Sort.OwnSorted
import Derived.Lib.SlicesCompact
import Derived.Shelf.Small.Strs
import Derived.Shelf.Sort.Plain
import Derived.Shelf.Small.Bits
import Derived.Shelf.Strconv.Itoa0
import Derived.Ground.Names2Prog
import Derived.Shelf.Slices.Clone
import Derived.Shelf.Slices.CompactI
import Derived.Shelf.Slices.SearchI
import Derived.Shelf.Slices.Cells
import Derived.Shelf.Slices.In.SortNone
import Derived.Ground.SlgnProg
import Derived.Shelf.SlicesE.Clone
import Derived.Shelf.Bytes.IndexByte
import Derived.Test.YtbdncmljibideaaGreatDoorProg
import Derived.Lib.LaidTab
import Derived.Lib.ItoaNum
import Derived.Below
import Derived.Lib.Join
import Derived.Lib.Index
import Derived.Lib.Split
import Derived.KernelRfl
import Derived.Lib.CountLaws
import Derived.Lib.IndexLaws
import Derived.Lib.SplitLaws
set_option linter.all false
noncomputable section
set_option maxRecDepth 8000
namespace Go.Proofs.Yt
open Go.Gm
namespace Au
theorem Wn {α:Type} {l:List α} {x:α} (h:l.length≤34359738367):Bq l [x]=some (l++[x]):=appO?_some.2 ⟨by simp;omega,rfl⟩
theorem appO_two' {α:Type} {l r:List α} (h:l.length≤200000000) (h1:r.length≤200000000):Bq l r=some (l++r):=appO?_some.2 ⟨by omega,rfl⟩
theorem Tc (n:Int):IntKind.u8.wrap n=n % 256:=by simp [IntKind.wrap,IntKind.bits,IntKind.signed]
theorem pow8 {n:Nat} (h:n≤8):(2:Int) ^ (8*n)=256 ^ n:=by
 have:n=0∨n=1∨n=2∨n=3∨n=4∨n=5∨n=6∨n=7∨n=8:=by omega
 rcases this with rfl|rfl|rfl|rfl|rfl|rfl|rfl|rfl|rfl<;>decide
theorem p256_pos (n:Nat):(0:Int)<256 ^ n:=Int.pow_pos (by decide)
theorem shr8 {v:Int} {n:Nat} (h0:0≤v) (h:n≤8):Dn .u64 v (8*n)=v / 256 ^ n:=by
 show v.fdiv (2 ^ (min (8*n) 64))=_
 rw [Nat.min_eq_left (by omega),pow8 h,Int.fdiv_eq_ediv_of_nonneg _ (Int.le_of_lt (p256_pos n))]
def D (v:Int) (m i:Nat):Int:=v / 256 ^ (m-1-i) % 256
theorem D_rng (v:Int) (m i:Nat):0≤D v m i∧D v m i<256:=by
 unfold D;generalize v / 256 ^ (m-1-i)=q;omega
def mk (k:Nat):Int:=256-2 ^ (9-k)
def E (v:Int) (k:Nat):List Int:=if k=9 then 255::(List.range 8).map (D v 8) else (List.range k).map fun i=>if i=0 then mk k+D v k 0 else D v k i
theorem E_len {v:Int} {k:Nat}:(E v k).length=k:=by
 unfold E;split
 ·rename_i h;subst h;simp
 ·simp
theorem D_top {v:Int} {k:Nat} (h0:0≤v) (h1:1≤k) (h8:k≤8) (hv:v<2 ^ (7*k)):D v k 0<2 ^ (8-k):=by
 have:k=1∨k=2∨k=3∨k=4∨k=5∨k=6∨k=7∨k=8:=by omega
 unfold D
 rcases this with rfl|rfl|rfl|rfl|rfl|rfl|rfl|rfl<;>simp only [Nat.reduceMul,Nat.reduceSub,Int.reducePow] at hv ⊢ <;> omega
def orB (k x:Nat):Bool := !(decide (1≤k)) || !(decide (x<2 ^ (8-k))) || decide (orV .u8 (x:Int) (shlV .u8 255 (9-k))=mk k+x) && decide (orV .u8 (x:Int) 0=x)
theorem orAll:((List.range 9).all fun k=>(List.range 256).all fun x=>orB k x)=true:=by kernel_rfl
theorem orMark {x:Int} {k:Nat} (h1:1≤k) (h8:k≤8) (h0:0≤x) (hx:x<2 ^ (8-k)):orV .u8 x (shlV .u8 255 (9-k))=mk k+x∧orV .u8 x 0=x:=by
 obtain ⟨n,rfl⟩:=Int.eq_ofNat_of_zero_le h0
 have hn:n<2 ^ (8-k):=by exact_mod_cast hx
 have hle:(2:Nat) ^ (8-k)≤2 ^ 8:=Nat.pow_le_pow_right (by omega) (by omega)
 have h:=List.all_eq_true.1 (List.all_eq_true.1 orAll k (by simp;omega)) n (by simp;omega)
 unfold orB at h
 simpa [h1,hn] using h
def orZ (x:Nat):Bool:=decide (orV .u8 (x:Int) 0=x)
theorem orZAll:(List.range 256).all orZ=true:=by kernel_rfl
theorem orZero {x:Int} (h0:0≤x) (hx:x<256):orV .u8 x 0=x:=by
 obtain ⟨n,rfl⟩:=Int.eq_ofNat_of_zero_le h0
 have h:=List.all_eq_true.1 orZAll n (by simp;omega)
 unfold orZ at h
 simpa using h
theorem size_ok {v:Int} (h0:0≤v):∃k:Nat,1≤k∧k≤9∧f132 v=some (k:Int)∧f117 v=some (k:Int)∧(k≤8→v<2 ^ (7*k)):=by
 obtain ⟨z,z1,z2⟩:=size_eq h0
 have key:∃r,loopO (Kg v) 1=some r∧((∃k:Nat,r=.inl (k:Int)∧1≤k∧k≤8∧v<2 ^ (7*k))∨r=.inr ()):=by
  refine Dv (fun n s=>∃k:Nat,s=(k:Int)∧1≤k∧k≤9∧n=9-k) ?_ (k:=8) ⟨1,rfl,by omega,by omega,by omega⟩
  rintro n _ ⟨k,rfl,h1,h9,hn⟩
  by_cases h8:(k:Int)≤8
  ·have hw:IntKind.i64.wrap (7*(k:Int))=7*(k:Int):=Bf (by omega) (by omega)
   have hw1:IntKind.i64.wrap ((k:Int)+1)=((k+1:Nat):Int):=by rw [Bf (by omega) (by omega)];omega
   have ht:(7*(k:Int)).toNat=7*k:=by omega
   have e1:Kg v k=if v<2 ^ (7*k) then some (.inr (.inl (k:Int))) else some (.inl ((k+1:Nat):Int)):=by
    rw [Kg,if_pos h8,hw,Cw (by omega),hw1,ht]
    simp only [Option.bind_some,shr_nat h0 (by omega:7*k≤64)]
   by_cases hv:v<2 ^ (7*k)
   ·rw [if_pos hv] at e1;exact .inr ⟨_,e1,.inl ⟨k,rfl,h1,by omega,hv⟩⟩
   ·rw [if_neg hv] at e1;exact .inl ⟨_,n-1,e1,by omega,k+1,rfl,by omega,by omega,by omega⟩
  ·exact .inr ⟨_,by rw [Kg,if_neg h8],.inr rfl⟩
 obtain ⟨r,h1,h2⟩:=key
 rcases h2 with ⟨k,rfl,h3,h4,h5⟩|rfl
 ·have e:f132 v=some (k:Int):=by rw [f132,h1];rfl
  rw [e,Option.some.injEq] at z1
  exact ⟨k,h3,by omega,e,z1▸z2,fun _=>h5⟩
 ·have e:f132 v=some ((9:Nat):Int):=by rw [f132,h1];rfl
  rw [e,Option.some.injEq] at z1
  exact ⟨9,by omega,by omega,e,z1▸z2,fun h=>by omega⟩
theorem put_loop {v mark:Int} {b:List Int} {m:Nat} (h0:0≤v) (hm:m≤8) (hb:b.length≤30000000001) :
  loopO (Ro v m mark) (b,0)=some (b++(List.range m).map fun i=>if i=0 then orV .u8 (D v m 0) mark else D v m i):=by
 have key:∃r,loopO (Ro v m mark) (b,0)=some r∧r=b++(List.range m).map fun i=>if i=0 then orV .u8 (D v m 0) mark else D v m i:=by
  refine Dv (fun n s=>∃i:Nat,s=(b++(List.range i).map (fun i=>if i=0 then orV .u8 (D v m 0) mark else D v m i),(i:Int))∧i≤m∧n=m-i) ?_ (k:=m) ⟨0,by simp,by omega,by omega⟩
  rintro n _ ⟨i,rfl,hi,hn⟩
  by_cases hlt:i<m
  ·have w1:IntKind.i64.wrap ((m:Int)-1)=(m:Int)-1:=Bf (by omega) (by omega)
   have w2:IntKind.i64.wrap ((m:Int)-1-i)=(m:Int)-1-i:=Bf (by omega) (by omega)
   have w3:IntKind.i64.wrap (8*((m:Int)-1-i))=8*((m:Int)-1-i):=Bf (by omega) (by omega)
   have w4:(8*((m:Int)-1-i)).toNat=8*(m-1-i):=by omega
   have w5:IntKind.i64.wrap ((i:Int)+1)=((i+1:Nat):Int):=by rw [Bf (by omega) (by omega)];omega
   have w6:IntKind.u8.wrap (Dn .u64 v (8*(m-1-i)))=D v m i:=by rw [shr8 h0 (by omega),Tc];rfl
   refine .inl ⟨(b++(List.range (i+1)).map (fun i=>if i=0 then orV .u8 (D v m 0) mark else D v m i),((i+1:Nat):Int)),n-1,?_,by omega,i+1,rfl,by omega,by omega⟩
   simp only [Ro,if_pos (show (i:Int)<m by omega),w1,w2,w3,Cw (show 0≤8*((m:Int)-1-i) by omega),Option.bind_some,w4,w5,w6]
   by_cases hz:i=0
   ·subst hz
    simp only [show ((0:Nat):Int)=0 from rfl,if_true,List.range_zero,List.map_nil,List.append_nil,Wn (show b.length≤34359738367 by omega),Option.bind_some,List.range_one,List.map_cons,Nat.zero_add]
   ·rw [if_neg (show ¬(i:Int)=0 by omega),Wn (by simp;omega)]
    simp only [Option.bind_some,List.range_succ,List.map_append,List.map_cons,List.map_nil,if_neg hz,List.append_assoc]
  ·have:i=m:=by omega
   subst this
   exact .inr ⟨_,by simp only [Ro,if_neg (show ¬(i:Int)<i by omega)],rfl⟩
 obtain ⟨r,h,rfl⟩:=key
 exact h
theorem clone_id {b:List Int} (hb:b.length≤30000000000):f133 b=some b:=by rw [f133,appO?_some.2 ⟨by simp;omega,rfl⟩];rfl
theorem put_ok {v:Int} {b:List Int} {k:Nat} (h0:0≤v) (hb:b.length≤30000000000) (h1:1≤k) (h9:k≤9) (hk:f132 v=some (k:Int)) (hv:k≤8→v<2 ^ (7*k)):f109 b v=some (b++E v k):=by
 have w1:IntKind.i64.wrap (9-(k:Int))=9-(k:Int):=Bf (by omega) (by omega)
 have w2:(9-(k:Int)).toNat=9-k:=by omega
 rw [f109,hk]
 simp only [Option.bind_some,clone_id hb,w1,Cw (show 0≤9-(k:Int) by omega),w2]
 by_cases h:k=9
 ·subst h
  rw [if_pos (by rfl),Wn (by omega)]
  have hp:=put_loop (v:=v) (mark:=0) (b:=b++[255]) (m:=8) h0 (by omega) (by simp;omega)
  simp only [Option.bind_some,Rp]
  rw [show ((8:Int))=((8:Nat):Int) from rfl,hp]
  simp only [Option.bind_some,E,if_true,List.append_assoc,List.cons_append,List.nil_append]
  congr 3
  apply List.map_congr_left
  intro i _
  by_cases hi:i=0
  ·subst hi;rw [if_pos rfl,orZero (D_rng v 8 0).1 (D_rng v 8 0).2]
  ·rw [if_neg hi]
 ·rw [if_neg (show ¬(k:Int)=9 by omega)]
  simp only [Rp,put_loop h0 (show k≤8 by omega) (show b.length≤30000000001 by omega),Option.bind_some,E,if_neg h]
  congr 2
  apply List.map_congr_left
  intro i _
  rw [(orMark h1 (by omega) (D_rng v k 0).1 (D_top h0 h1 (by omega) (hv (by omega)))).1]
theorem div_p {v:Int} (n:Nat):v / 256 ^ n / 256=v / 256 ^ (n+1):=by
 rw [Int.pow_succ,Int.ediv_ediv_of_nonneg (Int.le_of_lt (p256_pos n))]
theorem ref_loop {v:Int} {m:Nat} (h0:0≤v) (hv:v<18446744073709551616) (h1:1≤m) (hm:m≤8):loopO Sp (v,List.replicate m (0:Int),(m:Int)-1)=some ((List.range m).map (D v m)):=by
 have key:∃r,loopO Sp (v,List.replicate m (0:Int),(m:Int)-1)=some r∧r=(List.range m).map (D v m):=by
  refine Dv (fun n (s:Int×List Int×Int)=>∃j:Nat,s.1=v / 256 ^ j∧s.2.1.length=m∧(∀q,q<m→m-j≤q→s.2.1[q]?=some (D v m q))∧s.2.2=(m:Int)-1-j∧j≤m∧n=m-j) ?_ (k:=m) ⟨0,by simp,by simp,fun q hq h=>by omega,by simp,by omega,by omega⟩
  rintro n ⟨u,l,i⟩ ⟨j,e1,e2,e3,e4,hj,hn⟩
  simp only at e1 e2 e3 e4
  subst e4
  have hu:0≤v / 256 ^ j:=Int.ediv_nonneg h0 (Int.le_of_lt (p256_pos j))
  have hu1:v / 256 ^ j≤v:=Int.ediv_le_self _ h0
  by_cases hlt:j<m
  ·have hi:((m:Int)-1-j).toNat=m-1-j:=by omega
   have hx:ix l ((m:Int)-1-j)=some (l[m-1-j]'(by omega)):=ix_some.2 ⟨by omega,by rw [hi];exact List.getElem?_eq_getElem (by omega)⟩
   have w1:IntKind.i64.wrap ((m:Int)-1-j-1)=(m:Int)-1-((j+1:Nat):Int):=by rw [Bf (by omega) (by omega)];omega
   have w2:IntKind.u64.wrap (u.tdiv 256)=v / 256 ^ (j+1):=by
    rw [e1,Int.tdiv_eq_ediv_of_nonneg hu,Eg,←div_p j];omega
   have w3:IntKind.u8.wrap (u.tmod 256)=D v m (m-1-j):=by
    rw [e1,Int.tmod_eq_emod_of_nonneg hu,Tc,D,show m-1-(m-1-j)=j by omega];omega
   refine .inl ⟨(v / 256 ^ (j+1),l.set (m-1-j) (D v m (m-1-j)),(m:Int)-1-((j+1:Nat):Int)),n-1,?_,by omega,j+1,rfl,by simp [e2],?_,rfl,by omega,by omega⟩
   ·simp only [Sp,if_pos (show 0≤(m:Int)-1-j by omega),hx,Option.bind_some,w1,w2,w3,hi]
   ·intro q hq hge
    simp only [List.getElem?_set]
    by_cases hqe:m-1-j=q
    ·subst hqe;rw [if_pos rfl,if_pos (by omega)]
    ·rw [if_neg hqe];exact e3 q hq (by omega)
  ·have hjm:j=m:=by omega
   subst hjm
   refine .inr ⟨l,by simp only [Sp,if_neg (show ¬ 0≤(j:Int)-1-j by omega)],?_⟩
   apply List.ext_getElem?
   intro q
   by_cases hq:q<j
   ·rw [e3 q hq (by omega),List.getElem?_map,List.getElem?_range hq];rfl
   ·rw [List.getElem?_eq_none (by omega),List.getElem?_eq_none (by simp;omega)]
 obtain ⟨r,h,rfl⟩:=key
 exact h
theorem ref_ok {v:Int} {k:Nat} (h0:0≤v) (hv64:v<18446744073709551616) (h1:1≤k) (h9:k≤9) (hk:f117 v=some (k:Int)) (hv:k≤8→v<2 ^ (7*k)):f88 v=some (E v k):=by
 have w1:IntKind.i64.wrap (9-(k:Int))=9-(k:Int):=Bf (by omega) (by omega)
 have w2:(9-(k:Int)).toNat=9-k:=by omega
 have w3:IntKind.u64.wrap (2 ^ (9-k))=2 ^ (9-k)∧IntKind.i64.wrap (2 ^ (9-k))=2 ^ (9-k)∧IntKind.i64.wrap (256-2 ^ (9-k))=mk k∧0≤mk k∧mk k≤256-2 ^ (8-k):=by
  have:k=1∨k=2∨k=3∨k=4∨k=5∨k=6∨k=7∨k=8∨k=9:=by omega
  rcases this with rfl|rfl|rfl|rfl|rfl|rfl|rfl|rfl|rfl<;>decide
 obtain ⟨w4,w5,w6,w7,w8⟩:=w3
 rw [f88,hk]
 simp only [Option.bind_some,w1,pow (show 0≤9-(k:Int) by omega) (by omega),w2,w4,w5,w6]
 by_cases h:k=9
 ·subst h
  rw [if_pos (by rfl),Qn]
  have hm:mkO (8:Int) (0:Int)=some (List.replicate 8 0):=mkO_some.2 ⟨by omega,rfl⟩
  have hw:IntKind.i64.wrap ((8:Int)-1)=((8:Nat):Int)-1:=by rw [Bf (by omega) (by omega)];rfl
  simp only [hm,Option.bind_some,hw,ref_loop h0 hv64 (show 1≤8 by omega) (show 8≤8 by omega)]
  rw [if_pos (by rfl),appO_two' (by simp) (by simp)]
  simp only [Option.bind_some,E,if_true,List.cons_append,List.nil_append]
 ·rw [if_neg (show ¬(k:Int)=9 by omega),Qn]
  have hm:mkO (k:Int) (0:Int)=some (List.replicate k 0):=mkO_some.2 ⟨by omega,by simp⟩
  have hw:IntKind.i64.wrap ((k:Int)-1)=(k:Int)-1:=Bf (by omega) (by omega)
  simp only [hm,Option.bind_some,hw,ref_loop h0 hv64 h1 (show k≤8 by omega)]
  rw [if_neg (show ¬(k:Int)=9 by omega)]
  have d0:=D_rng v k 0
  have dt:=D_top h0 h1 (by omega) (hv (by omega))
  have hg:((List.range k).map (D v k))[0]?=some (D v k 0):=by rw [List.getElem?_map,List.getElem?_range (by omega)];rfl
  simp only [hg,Option.bind_some,Bf (show -9223372036854775808≤D v k 0 by omega) (by omega),Bf (show -9223372036854775808≤mk k+D v k 0 by omega) (by omega),Tc,E,if_neg h]
  congr 1
  apply List.ext_getElem?
  intro q
  by_cases hq:q<k
  ·simp only [List.getElem?_set,List.length_map,List.length_range,List.getElem?_map,List.getElem?_range hq,Option.map_some]
   by_cases hz:q=0
   ·subst hz;rw [if_pos rfl,if_pos (by omega)]
    simp only [if_true]
    congr 1;omega
   ·rw [if_neg (fun h=>hz h.symm),if_neg hz]
  ·rw [List.getElem?_eq_none (by simp;omega),List.getElem?_eq_none (by simp;omega)]
end Au
end Go.Proofs.Yt
namespace Go.Gm
open Go.Sort
variable {α:Type} [Inhabited α]
theorem heap_put {enc:α→Value} {w:World} {g st n:Nat} {os:Array Obj} {cur:Array Value} {e:TypeId} {fr:Nat×Nat} (d:Array α) (hb:w.heap[g]?=some (.cells cur e fr)) :
  (grow (putRow enc (Sort.ahead w n) g st d) os).heap[g]?=some (.cells (putCells enc st d cur) e fr):=by
 have hg:g<w.heap.size:=(Array.getElem?_eq_some_iff.1 hb).1
 rw [heap_grow_old _ _ (by simpa using hg)]
 simp [putRow,mapBlock,Sort.ahead,Array.getElem?_modify,hb,onCells]
theorem heap_put_other {enc:α→Value} {w:World} {g st n k:Nat} {os:Array Obj} (d:Array α) (hk:k<w.heap.size) (hne:g≠k):(grow (putRow enc (Sort.ahead w n) g st d) os).heap[k]?=w.heap[k]?:=by
 rw [heap_grow_old _ _ (by simpa using hk)]
 simp [putRow,mapBlock,Sort.ahead,Array.getElem?_modify,hne]
theorem size_put {enc:α→Value} {w:World} {g st n:Nat} {os:Array Obj} (d:Array α):w.heap.size≤(grow (putRow enc (Sort.ahead w n) g st d) os).heap.size:=by simp
def Ji (enc:α→Value) (d:List α):List (List AV):=d.map fun x=>[.val (enc x)]
theorem Jl (enc:α→Value):∀d:List α,(Ji enc d).flatten=(d.map enc).map .val
 | []=>rfl
 | x::d=>by simp only [Ji,List.map_cons,List.flatten_cons,List.cons_append,List.nil_append] ;exact congrArg _ (Jl enc d)
theorem Gb {E:Env}:∀{us vs:List Value},RelL E (us.map .val) vs→vs=us
 | [],_,h=>by cases h;rfl
 | u::us,_,h=>by
  cases h with
  | cons h1 h2=>rw [Gw h1,Gb h2]
theorem rowsV_len {enc:α→Value} {d:List α}:(Ji enc d).length=d.length:=by simp [Ji]
theorem ic_row {P:Program} {f:FuncId} {enc:α→Value} (h1:∀x,(enc x).oneCell'=true) {d d':List α} {k:Nat} {X:AV} {R:Option Addr→Nat→Value} (hl:d'.length=d.length) (hk:k≤d.length)
  (hX:∀(E:Env) (a:Option Addr) (Cc:Nat),Rel E (.own 0 0 d.length) (.slice a d.length Cc)→Rel E X (R a Cc))
  (hc:d≠[]→∀blk off Cc (w:World),Holds enc w blk off d.toArray→blk<w.heap.size→d.length≤Cc→Calls P f #[.slice (some ⟨blk,off,none⟩) d.length Cc] w fun e w'=>e=.returned (R (some ⟨blk,off,none⟩) Cc)∧∃n os,w'=grow (putRow enc (Sort.ahead w n) blk off d'.toArray) os)
  (h0:d=[]→∀a Cc (w:World),Calls P f #[.slice a 0 Cc] w fun e w'=>e=.returned (R a Cc)∧w'=w) :
  IC P f [some (.row 1 true (Ji enc d))] [.own 0 0 d.length] X [some (.row 1 true (Ji enc (d'.take k)))] []:=by
 intro m w loc vs hm h8 ht hM hus
 cases hus with
 | cons hv hnil =>
 cases hnil
 rename_i v
 cases hv with
 | own ha hh =>
 obtain ⟨l,hloc,hob⟩:=hM.obj 0 _ rfl
 obtain ⟨a,Cc,rfl,hsz0,hcap,hlen,hadr⟩:=hh l hloc
 obtain ⟨g1,g2,g3,g4,g5,g6⟩:=hob
 rw [g1,Nat.mul_one] at hcap
 rw [rowsV_len,Nat.mul_one] at g4
 have hown:∀(E:Env),E.al 0→(∀l',E.loc 0=some l'→l'=l)→Rel E (.own 0 0 d.length) (.slice a d.length Cc):=fun E h2 h3=>.own h2 fun l' hl'=>by
  rw [h3 l' hl']
  exact ⟨a,Cc,rfl,by omega,by rw [g1,Nat.mul_one];exact hcap,hlen,hadr⟩
 have halt:∀(hp:Am) (lc:Nat→Option Loc) (w':World),(Bv m hp (fun t=>t<8+([]:List (Option AObj)).length) lc w').al 0:=fun _ _ _=>by show 0<8+0;omega
 by_cases hd:d=[]
 ·subst hd
  have hd':d'=[]:=List.eq_nil_of_length_eq_zero hl
  subst hd'
  refine (h0 rfl a Cc w).mono ?_
  rintro e w' ⟨rfl,rfl⟩
  exact ⟨_,loc,rfl,by simpa [Ji] using hM,hX _ a Cc (hown _ (halt _ _ _) fun l' hl'=>by simpa [Bv,hloc] using hl'.symm)⟩
 ·have hpos:0<d.length:=List.length_pos_iff.2 hd
  have hlt:l.st<l.n:=by omega
  obtain ⟨c,e,fz,vs,k1,k2,k3,k4,k5,k6⟩:=g6 hlt
  rw [Jl] at k3
  have:=Gb k3
  subst this
  simp only [g1,Nat.mul_one,Nat.zero_mul,Nat.add_zero] at hadr
  have ha':=hadr (by omega)
  subst ha'
  have hblk:l.b<w.heap.size:=(Array.getElem?_eq_some_iff.1 k1).1
  have k1':w.heap[l.b]?=some (.cells c e fz):=k1
  have hH:Holds enc w l.b l.st d.toArray:=by
   intro j hj
   have hj':j<d.length:=by simpa using hj
   refine ⟨?_,?_⟩
   ·simp only [World.cell?,k1',Option.isSome_none,Bool.false_eq_true,if_false]
    rw [k5 j (enc d[j]) (by simp [hj'])]
    simp [hj']
   ·simp only [World.frozen?,k1']
    have:=k6 (l.st+j) (by omega)
    simp only [Bool.and_eq_false_imp,decide_eq_true_eq,decide_eq_false_iff_not]
    first|(intro h;omega)|(simp;omega)|omega
  refine (hc hd l.b l.st Cc w hH hblk hlen).mono ?_
  rintro e' w' ⟨rfl,n,os,rfl⟩
  have hhp:Bo [some (.row 1 true (Ji enc d))] [] 0=some (.row 1 true (Ji enc d)):=rfl
  have hmt0:Cs (Bo [some (.row 1 true (Ji enc d))] []) loc l.b:=⟨0,_,l,hhp,rfl,hloc,rfl,hlt⟩
  have hzero:∀(rows:List (List AV)) t o,Bo [some (.row 1 true rows)] [] t=some o→t=0∧o=.row 1 true rows:=fun rows t o ho=>by
   simp only [Bo] at ho
   by_cases ht:t=0
   ·subst ht;simp at ho;exact ⟨rfl,ho.symm⟩
   ·split at ho
    ·rw [List.getElem?_eq_none (by simp;omega)] at ho;cases ho
    ·simp at ho
  have hmt:∀b,Cs (Bo [some (.row 1 true (Ji enc (d'.take k)))] []) loc b→Cs (Bo [some (.row 1 true (Ji enc d))] []) loc b:=by
   rintro b ⟨t,o,l',q1,q2,q3,q4,q5⟩
   obtain ⟨rfl,rfl⟩:=hzero _ t o q1
   exact ⟨0,_,l',hhp,rfl,q3,q4,q5⟩
  have hx:Ext (Bv m (Bo [some (.row 1 true (Ji enc d))] []) (fun t=>t<8) loc w) (Bv m (Bo [some (.row 1 true (Ji enc (d'.take k)))] []) (fun t=>t<8+([]:List (Option AObj)).length) loc (grow (putRow enc (Sort.ahead w n) l.b l.st d'.toArray) os)) :=
   Fh (fun t ht=>by show t<8+0;exact ht) (fun _ _ _ h=>h) (size_put _) (fun b _=>hmt b) (fun b hb hn=>heap_put_other _ hb fun hc=>hn (hc▸hmt0))
  refine ⟨_,loc,rfl,?_,hX _ _ Cc (hown _ (halt _ _ _) fun l' hl'=>by simpa [Bv,hloc] using hl'.symm)⟩
  refine hM.change hx (fun t o ho=>?_) (fun t ht=>?_) (fun t l' hl'=>?_) hM.inj rfl rfl rfl (fun b hb=>.inl (hmt b hb)) (fun t l' q1 q2=>.inl ⟨t,l',q1,q2,rfl⟩)
  ·obtain ⟨rfl,rfl⟩:=hzero _ t o ho
   have hkl:(d'.take k).length=k:=by rw [List.length_take];omega
   refine .inr ⟨l,hloc,g1,g2,fun r hr=>?_,?_,g5,fun _=>⟨_,e,fz,(d'.take k).map enc,heap_put _ k1',?_,?_,?_,?_,k6⟩⟩
   ·obtain ⟨x,_,rfl⟩:=List.mem_map.1 hr;rfl
   ·rw [rowsV_len,hkl];omega
   ·simpa [putCells] using k2
   ·rw [Jl];exact Is _
   ·intro v hv;obtain ⟨x,_,rfl⟩:=List.mem_map.1 hv;exact h1 x
   ·intro q v hv
    have hq:q<k:=by
     have:=(List.getElem?_eq_some_iff.1 hv).1
     rw [List.length_map,hkl] at this;exact this
    have hqd:q<d'.length:=by omega
    have e1:((d'.take k).map enc)[q]?=some (enc d'[q]):=by
     rw [List.getElem?_map,List.getElem?_take_of_lt hq,List.getElem?_eq_getElem hqd];rfl
    rw [e1,Option.some.injEq] at hv
    subst hv
    have hcl:l.st+q<c.size:=by rw [k2];omega
    simp only [putCells,Array.getElem?_mapIdx,Array.getElem?_eq_getElem hcl,Option.map_some,List.size_toArray]
    rw [if_pos ⟨by omega,by omega⟩,show l.st+q-l.st=q by omega]
    simp [hqd]
  ·have:t≠0:=fun e=>by subst e;simp [Bo] at ht
   refine hM.none_ t ?_
   simp only [Bo]
   split
   ·rw [List.getElem?_eq_none (by simp;omega)];rfl
   ·simp
  ·exact hx.al t (hM.al_ t l' hl')
end Go.Gm
namespace Go.Gm
open Go.Sort Go.Proofs
def lb (l:List UInt8):ByteArray:=⟨l.toArray⟩
def sortS (l:List ByteArray):List ByteArray:=((l.map bl).mergeSort fun x y=>decide (x≤y)).map lb
def Kk (l:List Int):List Int:=l.mergeSort fun x y=>decide (x≤y)
theorem sortI_len (l:List Int):(Kk l).length=l.length:=by simp [Kk]
def compS (l:List ByteArray):List ByteArray:=(Lib.compact (l.map bl)).map lb
def compI (l:List Int):List Int:=Lib.compact l
theorem Jk {enc:Int→List AV} (he:∀x,enc x=[.val (.int .i64 x)]) (l:List Int):Ji (Value.int .i64) l=l.map enc:=by
  simp only [Ji]
  apply List.map_congr_left
  intro x _
  rw [he]
theorem ic_sortI {P:Program} {enc:Int→List AV} (he:∀x,enc x=[.val (.int .i64 x)]) (f:FuncId)
    (hs:∀blk off Cc (l:List Int) (w:World),Holds (Value.int .i64) w blk off l.toArray→blk<w.heap.size→l.length<4611686018427387904→Calls P f #[.slice (some ⟨blk,off,none⟩) l.length Cc] w fun e w'=>e=.returned (.tuple #[])∧∃n os,w'=grow (putRow (Value.int .i64) (Sort.ahead w n) blk off (l.mergeSort fun x y=>decide (x≤y)).toArray) os)
    (hn:∀p Cc (w:World),Calls P f #[.slice p 0 Cc] w fun e w'=>e=.returned (.tuple #[])∧w'=w) (l:List Int) (hl:l.length<4611686018427387904) :
    IC P f [some (.row 1 true (l.map enc))] [.own 0 0 l.length] (.tup []) [some (.row 1 true ((Kk l).map enc))] []:=by
  have h:=ic_row (P:=P) (f:=f) (enc:=Value.int .i64) (fun _=>rfl) (d:=l) (d':=l.mergeSort fun x y=>decide (x≤y)) (k:=l.length) (X:=.tup []) (R:=fun _ _=>.tuple #[]) (by simp) (Nat.le_refl _)
    (fun E a Cc _=>Rel.tup (vs:=[]) .nil) (fun _ blk off Cc w hH hb _=>hs blk off Cc _ w hH hb hl) (fun _ a Cc w=>hn a Cc w)
  rw [List.take_of_length_le (by simp),Jk he,Jk he] at h
  exact h
theorem compact_le {α:Type} [Inhabited α] [DecidableEq α] (l:List α):(Lib.compact l).length≤l.length:=by
  unfold Lib.compact Lib.compactUpTo
  rw [List.length_map]
  exact Nat.le_trans (List.length_filter_le _ _) (by simp)
theorem rel_cut {E:Env} {a:Option Addr} {n k Cc:Nat} (hk:k≤n) (h:Rel E (.own 0 0 n) (.slice a n Cc)):Rel E (.own 0 0 k) (.slice a k Cc):=by
  cases h with
  | own ha hh =>
    refine .own ha fun l hl=>?_
    obtain ⟨a',cap',e,h1,h2,h3,h4⟩:=hh l hl
    cases e
    exact ⟨a,Cc,rfl,h1,h2,by omega,h4⟩
theorem ic_compI {P:Program} {enc:Int→List AV} (he:∀x,enc x=[.val (.int .i64 x)]) (f:FuncId)
    (hs:∀blk off Cc (l:List Int) (w:World),Holds (Value.int .i64) w blk off l.toArray→l.length≤9223372036854775807→l.length≤Cc→Calls P f #[.slice (some ⟨blk,off,none⟩) l.length Cc] w fun e w'=>e=.returned (.slice (some ⟨blk,off,none⟩) (Lib.compact l).length Cc)∧∃q,w'=putRow (Value.int .i64) (Sort.ahead w q) blk off (Lib.compact l++List.replicate (l.length-(Lib.compact l).length) 0).toArray)
    (hn:∀a Cc (w:World),Calls P f #[.slice a 0 Cc] w fun e w'=>e=.returned (.slice a 0 Cc)∧w'=w) (l:List Int) (hl:l.length<4611686018427387904) :
    IC P f [some (.row 1 true (l.map enc))] [.own 0 0 l.length] (.own 0 0 (compI l).length) [some (.row 1 true ((compI l).map enc))] []:=by
  have hle:=compact_le l
  have h:=ic_row (P:=P) (f:=f) (enc:=Value.int .i64) (fun _=>rfl) (d:=l) (d':=Lib.compact l++List.replicate (l.length-(Lib.compact l).length) 0) (k:=(Lib.compact l).length) (X:=.own 0 0 (compI l).length)
    (R:=fun a Cc=>.slice a (Lib.compact l).length Cc) (by simp;omega) hle
    (fun E a Cc hr=>rel_cut hle hr)
    (fun _ blk off Cc w hH hb hc=>(hs blk off Cc _ w hH (by omega) hc).mono (by rintro e w' ⟨h1,q,h2⟩;exact ⟨h1,q,#[],by rw [h2,grow_empty]⟩))
    (fun hd a Cc w=>by subst hd;exact hn a Cc w)
  rw [List.take_left,Jk he,Jk he] at h
  exact h
def cmpS (a b:ByteArray):Int:=Lib.compareBytes a.data.toList b.data.toList
theorem pc_scmp {P:Program} (f:FuncId) {a b:ByteArray} (h:∀w,Calls P f #[.string a,.string b] w fun e w'=>e=.returned (.int .i64 (Lib.compareBytes a.data.toList b.data.toList))∧w'=w):PC P f [.val (.string a),.val (.string b)] (.val (.int .i64 (cmpS a b))):=by
  intro m w vs hm ht hus
  have e:vs=[.string a,.string b]:=Gb (us:=[.string a,.string b]) hus
  subst e
  refine (h w).mono ?_
  rintro e w' ⟨rfl,rfl⟩
  refine ⟨_,fun _=>none,fun _=>False,fun _=>none,.val (.int .i64 (cmpS a b)),[],rfl,?_,.val _,by simp only [Vb],List.nodup_nil⟩
  constructor
  · intro t o h;cases h
  · intro t _;rfl
  · intro t l h;cases h
  · intro t t' l l' h;cases h
  · rfl
  · rfl
  · rfl
  · exact Nat.le_refl _
  · intro _ _ _;rfl
  · rintro b ⟨t,o,l,h,_⟩;cases h
  · intro t l h;cases h
  · intro t h;exact absurd h (Nat.not_lt_zero t)
  · intro t l h;exact absurd h (Nat.not_lt_zero t)
end Go.Gm
namespace Go.Proofs
open Go.Shelf
def Tryz.lays126_ren:Go.Shelf.Ren:=⟨fun|126=>164|n=>n,fun|5=>5|3=>3|9=>9|n=>n,fun|n=>n⟩
def Tryz.lays128_ren:Go.Shelf.Ren:=⟨fun|128=>159|n=>n,fun|51=>213|3=>3|4=>4|46=>224|5=>5|9=>9|n=>n,fun|n=>n⟩
def Tryz.lays125_ren:Go.Shelf.Ren:=⟨fun|125=>138|128=>159|129=>160|n=>n,fun|46=>224|3=>3|51=>213|53=>168|4=>4|5=>5|9=>9|n=>n,fun|n=>n⟩
def Tryz.lays131_ren:Go.Shelf.Ren:=⟨fun|131=>144|126=>164|n=>n,fun|5=>5|3=>3|9=>9|n=>n,fun|n=>n⟩
def Tryz.lays213_ren:Go.Shelf.Ren:=⟨fun|213=>106|265=>131|n=>n,fun|9=>9|3=>3|n=>n,fun|n=>n⟩
def Wt:Go.Shelf.Ren:=⟨fun|106=>76|213=>106|265=>131|n=>n,fun|9=>9|3=>3|n=>n,fun|n=>n⟩
theorem Tryz.lays106:Go.Proofs.Lays.n106 Tryz.prog Wt:={
 mixed:=by kernel_rfl
 f106:=Tryz.func76.trans (congrArg some (by kernel_rfl))
 f213:=Tryz.func106.trans (congrArg some (by kernel_rfl))
 f265:=Tryz.func131.trans (congrArg some (by kernel_rfl))
 t3:=Tryz.underlying3
 a3:=Tryz.isAgg3
 z3:=Tryz.sizeOf3
 v3:=Tryz.zeroValue3
 t9:=Tryz.underlying9
 a9:=Tryz.isAgg9
 z9:=Tryz.sizeOf9
 v9:=Tryz.zeroValue9 }
open Go.RowKit in
theorem Tryz.strings_Compare (a b:ByteArray) (w:World) :
  Calls Tryz.prog 76 #[.string a,.string b] w fun e w'=>e=.returned (.int .i64 (Lib.compareBytes a.data.toList b.data.toList))∧w'=w:=Any.strings_Compare Tryz.lays106 a b w
def Tryz.lays129_ren:Go.Shelf.Ren:=⟨fun|129=>160|n=>n,fun|53=>168|3=>3|4=>4|46=>224|5=>5|9=>9|n=>n,fun|n=>n⟩
def Wr:Go.Shelf.Ren:=⟨fun|189=>114|125=>138|257=>137|128=>159|129=>160|294=>150|295=>151|296=>152|297=>153|298=>154|299=>155|216=>156|300=>157|301=>158|328=>169|329=>170|330=>171|331=>172|332=>173|215=>174|343=>177|n=>n,fun|28=>48|3=>3|46=>224|0=>0|51=>213|53=>168|4=>4|183=>237|182=>236|131=>57|5=>5|9=>9|218=>250|222=>254|228=>257|229=>258|n=>n,fun|n=>n⟩
theorem Us:Go.Proofs.Lays.n189 Tryz.prog Wr:={
 mixed:=by kernel_rfl
 f125:=Tryz.func138.trans (congrArg some (by kernel_rfl))
 f128:=Tryz.func159.trans (congrArg some (by kernel_rfl))
 f129:=Tryz.func160.trans (congrArg some (by kernel_rfl))
 f189:=Tryz.func114.trans (congrArg some (by kernel_rfl))
 f215:=Tryz.func174.trans (congrArg some (by kernel_rfl))
 f216:=Tryz.func156.trans (congrArg some (by kernel_rfl))
 f257:=Tryz.func137.trans (congrArg some (by kernel_rfl))
 f294:=Tryz.func150.trans (congrArg some (by kernel_rfl))
 f295:=Tryz.func151.trans (congrArg some (by kernel_rfl))
 f296:=Tryz.func152.trans (congrArg some (by kernel_rfl))
 f297:=Tryz.func153.trans (congrArg some (by kernel_rfl))
 f298:=Tryz.func154.trans (congrArg some (by kernel_rfl))
 f299:=Tryz.func155.trans (congrArg some (by kernel_rfl))
 f300:=Tryz.func157.trans (congrArg some (by kernel_rfl))
 f301:=Tryz.func158.trans (congrArg some (by kernel_rfl))
 f328:=Tryz.func169.trans (congrArg some (by kernel_rfl))
 f329:=Tryz.func170.trans (congrArg some (by kernel_rfl))
 f330:=Tryz.func171.trans (congrArg some (by kernel_rfl))
 f331:=Tryz.func172.trans (congrArg some (by kernel_rfl))
 f332:=Tryz.func173.trans (congrArg some (by kernel_rfl))
 f343:=Tryz.func177.trans (congrArg some (by kernel_rfl))
 t0:=Tryz.underlying0
 a0:=Tryz.isAgg0
 z0:=Tryz.sizeOf0
 v0:=Tryz.zeroValue0
 t3:=Tryz.underlying3
 a3:=Tryz.isAgg3
 z3:=Tryz.sizeOf3
 v3:=Tryz.zeroValue3
 t4:=Tryz.underlying4
 a4:=Tryz.isAgg4
 z4:=Tryz.sizeOf4
 v4:=Tryz.zeroValue4
 t5:=Tryz.underlying5
 a5:=Tryz.isAgg5
 z5:=Tryz.sizeOf5
 v5:=Tryz.zeroValue5
 t9:=Tryz.underlying9
 a9:=Tryz.isAgg9
 z9:=Tryz.sizeOf9
 v9:=Tryz.zeroValue9
 t28:=Tryz.underlying48
 a28:=Tryz.isAgg48
 z28:=Tryz.sizeOf48
 v28:=Tryz.zeroValue48
 t46:=Tryz.underlying224
 a46:=Tryz.isAgg224
 z46:=Tryz.sizeOf224
 v46:=Tryz.zeroValue224
 t51:=Tryz.underlying213
 a51:=Tryz.isAgg213
 z51:=Tryz.sizeOf213
 v51:=Tryz.zeroValue213
 t53:=Tryz.underlying168
 a53:=Tryz.isAgg168
 z53:=Tryz.sizeOf168
 v53:=Tryz.zeroValue168
 t131:=Tryz.underlying57
 a131:=Tryz.isAgg57
 z131:=Tryz.sizeOf57
 v131:=Tryz.zeroValue57
 t182:=Tryz.underlying236
 a182:=Tryz.isAgg236
 z182:=Tryz.sizeOf236
 v182:=Tryz.zeroValue236
 t183:=Tryz.underlying237
 a183:=Tryz.isAgg237
 z183:=Tryz.sizeOf237
 v183:=Tryz.zeroValue237
 t218:=Tryz.underlying250
 a218:=Tryz.isAgg250
 z218:=Tryz.sizeOf250
 v218:=Tryz.zeroValue250
 t222:=Tryz.underlying254
 a222:=Tryz.isAgg254
 z222:=Tryz.sizeOf254
 v222:=Tryz.zeroValue254
 t228:=Tryz.underlying257
 a228:=Tryz.isAgg257
 z228:=Tryz.sizeOf257
 v228:=Tryz.zeroValue257
 t229:=Tryz.underlying258
 a229:=Tryz.isAgg258
 z229:=Tryz.sizeOf258
 v229:=Tryz.zeroValue258 }
open Go.Sort Go.RowKit in
theorem Tryz.slices_Sort_int (blk off Cc:Nat) (zs:List Int) (w:World) (hH:Holds (Value.int .i64) w blk off zs.toArray) (hblk:blk<w.heap.size) (hsz:zs.length<4611686018427387904) :
  Calls Tryz.prog 114 #[.slice (some ⟨blk,off,none⟩) zs.length Cc] w fun e w' =>
   e=.returned (.tuple #[])∧∃n os,w'=grow (putRow (Value.int .i64) (Sort.ahead w n) blk off (zs.mergeSort fun x y=>decide (x≤y)).toArray) os:=Any.slices_Sort_int Us blk off Cc zs w hH hblk hsz
def Tryz.laysNm215_ren:Go.Shelf.Ren:=⟨fun|15=>73|n=>n,fun|22=>48|3=>3|4=>4|n=>n,fun|n=>n⟩
def Tb:Go.Shelf.Ren:=⟨fun|20=>83|n=>n,fun|22=>48|3=>3|4=>4|0=>0|n=>n,fun|n=>n⟩
theorem Rb:Go.Proofs.Lays2.n20 Tryz.prog Tb:={
 mixed:=by kernel_rfl
 f20:=Tryz.func83.trans (congrArg some (by kernel_rfl))
 t0:=Tryz.underlying0
 a0:=Tryz.isAgg0
 z0:=Tryz.sizeOf0
 v0:=Tryz.zeroValue0
 t3:=Tryz.underlying3
 a3:=Tryz.isAgg3
 z3:=Tryz.sizeOf3
 v3:=Tryz.zeroValue3
 t4:=Tryz.underlying4
 a4:=Tryz.isAgg4
 z4:=Tryz.sizeOf4
 v4:=Tryz.zeroValue4
 t22:=Tryz.underlying48
 a22:=Tryz.isAgg48
 z22:=Tryz.sizeOf48
 v22:=Tryz.zeroValue48
 i3:=by kernel_rfl }
open Go.RowKit Go.Lib Go.Sort in
theorem Tryz.slices_Compact_int (blk off Cc:Nat) (zs:List Int) (w:World) (hH:Holds (Value.int .i64) w blk off zs.toArray) (hsz:zs.length≤9223372036854775807) (hcap:zs.length≤Cc) :
  Calls Tryz.prog 83 #[.slice (some ⟨blk,off,none⟩) zs.length Cc] w fun e w'=>e=.returned (.slice (some ⟨blk,off,none⟩) (Lib.compact zs).length Cc)∧∃q,w'=putRow (Value.int .i64) (Sort.ahead w q) blk off (Lib.compact zs++List.replicate (zs.length-(Lib.compact zs).length) 0).toArray:=Any.slices_Compact_int Rb blk off Cc zs w hH hsz hcap
open Go.RowKit Go.Lib Go.Sort in
theorem Tryz.slices_Compact_int_empty (a:Option Addr) (Cc:Nat) (w:World) :
  Calls Tryz.prog 83 #[.slice a 0 Cc] w fun e w'=>e=.returned (.slice a 0 Cc)∧w'=w:=Any.slices_Compact_int_empty Rb a Cc w
def Tryz.laysNm237_ren:Go.Shelf.Ren:=⟨fun|37=>174|n=>n,fun|3=>3|4=>4|n=>n,fun|n=>n⟩
def Tryz.laysNm231_ren:Go.Shelf.Ren:=⟨fun|31=>156|37=>174|n=>n,fun|3=>3|4=>4|n=>n,fun|n=>n⟩
open Go.RowKit Go.Sort in
theorem Tryz.slices_Sort_int_none (p:Option Addr) (Cc:Nat) (w:World) :
  Calls Tryz.prog 114 #[.slice p 0 Cc] w fun e w'=>e=.returned (.tuple #[])∧w'=w:=Any.slices_Sort_int_none Us p Cc w
def Tryz.laysSlE041_f73_ren:Go.Shelf.Ren:=⟨fun|41=>73|n=>n,fun|22=>48|23=>3|4=>4|n=>n,fun|n=>n⟩
def Ws:Go.Shelf.Ren:=⟨fun|187=>125|255=>147|n=>n,fun|37=>23|5=>5|3=>3|n=>n,fun|n=>n⟩
theorem Tryz.lays187:Go.Proofs.Lays.n187 Tryz.prog Ws:={
 mixed:=by kernel_rfl
 f187:=Tryz.func125.trans (congrArg some (by kernel_rfl))
 f255:=Tryz.func147.trans (congrArg some (by kernel_rfl))
 t3:=Tryz.underlying3
 a3:=Tryz.isAgg3
 z3:=Tryz.sizeOf3
 v3:=Tryz.zeroValue3
 t5:=Tryz.underlying5
 a5:=Tryz.isAgg5
 z5:=Tryz.sizeOf5
 v5:=Tryz.zeroValue5
 t37:=Tryz.underlying23
 a37:=Tryz.isAgg23
 z37:=Tryz.sizeOf23
 v37:=Tryz.zeroValue23 }
theorem Tryz.bytes_IndexByte (b o n c:Nat) (xs:List Int) (cv:Int) (w:World) (hx:xs.length=n) (hc:∀i,i<n→w.cell? ⟨b,o+i,none⟩=some (.int .u8 (xs.getD i 0))) :
  Calls Tryz.prog 125 #[.slice (some ⟨b,o,none⟩) n c,.int .u8 cv] w fun e w'=>e=.returned (.int .i64 (Lib.indexByte (Lib.bytesOf xs) cv.toNat.toUInt8))∧w'=w:=Any.bytes_IndexByte Tryz.lays187 b o n c xs cv w hx hc
end Go.Proofs
set_option maxHeartbeats 1000000
namespace Go.Proofs.Yt
open Go.Gm
namespace Au
def f76 (a0 a1:ByteArray):Option Int:=some (cmpS a0 a1)
theorem ok76 (a0 a1:ByteArray) (r:Int) (h:f76 a0 a1=some r):PC Tryz.prog 76 [.val (.string a0),.val (.string a1)] (.val (.int .i64 r)):=by
  obtain rfl:=Option.some.inj h
  exact pc_scmp 76 (fun w=>Tryz.strings_Compare a0 a1 w)
def f75 (a0:Res) (a1:Res):Option Int:=((f76 a0.Key a1.Key).bind fun x1=>some x1)
theorem ok75 (a0:Res) (a1:Res) (r:Int) (h:f75 a0 a1=some r):PC Tryz.prog 75 [.agg (Ak a0),.agg (Ak a1)] (.val (.int .i64 r)):=by
 rw [f75] at h
 refine Bi (N:=10) (rs:=[.tmp 4]) Tryz.func75 ?_
 refine Ac [2,3] ?_
 obtain ⟨x1,hx1,h⟩:=bO h
 refine Bx [4] (ok76 a0.Key a1.Key x1 hx1) Tryz.call76 ?_
 refine AW.ret ?_
 obtain rfl:=oi h
 (simp only [go_sem,seval,Ay]<;>try simp)
def Hf (a1:Int):(List Res)×Int→Option (((List Res)×Int)⊕(List Res))
  | (s4_0,s4_1)=>(if a1<s4_1 then ((ix s4_0 s4_1).bind fun x83=>((ix s4_0 (IntKind.i64.wrap (s4_1-1))).bind fun x84=>((f75 x83 x84).bind fun x85=>(if x85<0 then ((ix (s4_0.set s4_1.toNat x84) (IntKind.i64.wrap (s4_1-1))).bind fun x87=>some (.inl (((s4_0.set s4_1.toNat x84).set ((IntKind.i64.wrap (s4_1-1)).toNat) x83),IntKind.i64.wrap (s4_1-1)))) else some (.inr s4_0))))) else some (.inr s4_0))
def Im (a1:Int) (a2:Int):(List Res)×Int→Option (((List Res)×Int)⊕(List Res))
  | (s1_0,s1_1)=>(if s1_1<a2 then ((loopO (Hf a1) (s1_0,s1_1)).bind fun y89=>some (.inl (y89,IntKind.i64.wrap (s1_1+1)))) else some (.inr s1_0))
def Oq (a0:List Res) (a1:Int) (a2:Int):Option (List Res):=((loopO (Im a1 a2) (a0,IntKind.i64.wrap (a1+1))).bind fun y91=>some y91)
theorem ok129_75 (a0:List Res) (a1:Int) (a2:Int) (r:(List Res)) (h:Oq a0 a1 a2=some r):IC Tryz.prog 129 [some (.row 3 true (List.map Ak a0))] [.own 0 0 a0.length,.val (.int .i64 a1),.val (.int .i64 a2),.clo (.func 75) [] []] (.tup []) [some (.row 3 true (List.map Ak r))] []:=by
 rw [Oq] at h
 refine Oe (N:=53) (rs:=[]) Tryz.func129 rfl rfl rfl (Nat.le_of_ble_eq_true rfl)<|Ac [0,1,2,3,8] ?_
 refine AW.block ?_
 obtain ⟨y91,hy91,h⟩:=bO h
 refine AW.loopO (fun s=>⟨(Ag (Ag (Ag (Ag (Ag Az 0 (.own 0 0 s.1.length)) 1 (.val (.int .i64 a1))) 2 (.val (.int .i64 a2))) 3 (.clo (.func 75) [] [])) 8 (.val (.int .i64 s.2))),Bo [some (.row 3 true (List.map Ak s.1))] [],8⟩) (fun z e st'=>e=Exit.exit 0∧st'=⟨Az,Bo [some (.row 3 true (List.map Ak z))] [],8⟩) hy91 ?_ ?_ ?_
 ·exact Ab [] RF.any.qo.qv.qv.qt.qv (.ce (.nil _)) (.nil _)
 ·clear h hy91
  rintro ⟨s1_0,s1_1⟩ x h
  rw [Im] at h
  refine AW.seq<|Ac [0,1,2,3,8,14] ?_
  rcases Aq h with ⟨c54,h⟩|⟨c54,h⟩
  ·refine Aj rfl c54<|AW.skip<|Aa<|AW.seq<|AW.block<|Ac [0,1,2,3,8,9] ?_
   refine AW.block ?_
   obtain ⟨y89,hy89,h⟩:=bO h
   refine AW.loopO (fun s=>⟨(Ag (Ag (Ag (Ag (Ag (Ag Az 0 (.own 0 0 s.1.length)) 1 (.val (.int .i64 a1))) 2 (.val (.int .i64 a2))) 3 (.clo (.func 75) [] [])) 8 (.val (.int .i64 s1_1))) 9 (.val (.int .i64 s.2))),Bo [some (.row 3 true (List.map Ak s.1))] [],8⟩) (fun z e st'=>e=Exit.exit 2∧st'=⟨(Ag (Ag (Ag (Ag (Ag Az 0 (.own 0 0 z.length)) 1 (.val (.int .i64 a1))) 2 (.val (.int .i64 a2))) 3 (.clo (.func 75) [] [])) 8 (.val (.int .i64 s1_1))),Bo [some (.row 3 true (List.map Ak z))] [],8⟩) hy89 ?_ ?_ ?_
   ·exact Ab [] RF.any.qo.qv.qv.qt.qv.qv (.ce (.nil _)) (.nil _)
   ·clear h hy89
    rintro ⟨s4_0,s4_1⟩ x h
    rw [Hf] at h
    refine AW.seq ?_
    rcases Aq h with ⟨c82,h⟩|⟨c82,h⟩
    ·obtain ⟨x83,hx83,h⟩:=bO h
     obtain ⟨hx83a,hx83b⟩:=ix_some.1 hx83
     obtain ⟨x84,hx84,h⟩:=bO h
     obtain ⟨hx84a,hx84b⟩:=ix_some.1 hx84
     obtain ⟨x85,hx85,h⟩:=bO h
     refine Dm [0,1,2,3,8,9,34] [0,0,3,7,15,15,15,111,239,15,15,1039,3599,7695,16383,32767,65535] ?_
     generalize hK:AW Tryz.prog _ _ _=K
     simp only [go_sem,seval,eq_true c54,eq_true c82,Ah hx83a,hx83b,Cm hx83b,Ah hx84a,hx84b,Cm hx84b]
     refine Em (ok75 x83 x84 x85 hx85) Tryz.call75 (Fw (by simp only [Ae,Nat.reduceEqDiff,if_true,if_false,↓reduceIte];rfl)) (by simp only [go_sem,seval,List.nil_append,List.append_nil,eq_true c54,eq_true c82,Ah hx83a,hx83b,Cm hx83b,Ah hx84a,hx84b,Cm hx84b]) (by simp only [go_sem,seval]) ?_
     simp only [go_sem,seval,Ah hx83a,hx83b,Cm hx83b,Ah hx84a,hx84b,Cm hx84b]
     subst hK
     rcases Aq h with ⟨c86,h⟩|⟨c86,h⟩
     ·refine Aj rfl c86<|AW.skip<|Aa<|AW.seq<|AW.block ?_
      obtain ⟨x87,hx87,h⟩:=bO h
      obtain ⟨hx87a,hx87b⟩:=ix_some.1 hx87
      refine Nt [0,1,2,3,8,9] [0,0,0,0,8,0,0,64,224,480,0,0,3072,7168,16355,32739,65535,131071] ?_
      generalize hK:Dk _ _ Exit.normal=K
      simp only [go_sem,seval,Ah hx84a,hx84b,Cm hx84b,Ah hx83a,hx83b,Cm hx83b,Hz (enc:=Ak) (y:=x84) (r:=[.val (.string x84.Key),.val (.string x84.Val),.sl (List.map Bk x84.Offs)]) rfl,Ah hx87a,hx87b,Cm hx87b,Hz (enc:=Ak) (y:=x83) (r:=[.val (.string x83.Key),.val (.string x83.Val),.sl (List.map Bk x83.Offs)]) rfl]
      subst hK
      refine Ax<|Aa<|Cd [0,1,2,3,8,9] ?_
      refine Aa ?_
      refine ⟨_,oj h,?_⟩
      exact Ab [] RF.any.qo.qv.qv.qt.qv.qv (.ce (.nil _)) (.nil _)
     ·refine Ai rfl c86<|AW.exit<|Af<|Af ?_
      refine ⟨_,oj h,_,?_,rfl,rfl⟩
      exact Ab [] RF.any.qo.qv.qv.qt.qv (.ce (.nil _)) (.nil _)
    ·refine Dm [0,1,2,3,8,9,34] [0,0,3,7,15,15,15,111,239,15,15,1039,3599,7695,16383,32767,65535] ?_
     generalize hK:AW Tryz.prog _ _ _=K
     simp only [go_sem,seval,eq_true c54,eq_false c82]
     subst hK
     refine Bl rfl rfl<|AW.exit<|Af<|Af ?_
     refine ⟨_,oj h,_,?_,rfl,rfl⟩
     exact Ab [] RF.any.qo.qv.qv.qt.qv (.ce (.nil _)) (.nil _)
   ·intro e st' hX
    try dsimp only at h
    try dsimp only at hX
    obtain ⟨rfl,rfl⟩:=hX
    refine ⟨_,Ent.refl,?_⟩
    refine Bc<|Ax<|Aa<|Cd [0,1,2,3,8] ?_
    refine Aa ?_
    refine ⟨_,oj h,?_⟩
    exact Ab [] RF.any.qo.qv.qv.qt.qv (.ce (.nil _)) (.nil _)
  ·refine Ai rfl c54<|AW.exit<|Af<|Af ?_
   refine ⟨_,oj h,_,?_,rfl,rfl⟩
   exact Ab [] RF.any (.ce (.nil _)) (.nil _)
 ·intro e st' hX
  try dsimp only at h
  try dsimp only at hX
  obtain ⟨rfl,rfl⟩:=hX
  refine ⟨_,Ent.refl,?_⟩
  refine Bc ?_
  refine ⟨⟨Az,Bo [some (.row 3 true (List.map Ak y91))] [],8⟩,?_,?_⟩
  · refine Bu [] _ _ _ rfl (by first|decide|simp) rfl ?_ ?_ ?_
    · exact RF.any
    · exact .ce (.nil _)
    · exact .nil _
  obtain rfl:=oi h
  exact ⟨rfl,rfl,_,rfl,by first|rfl|simp [Cu,Ae,Ar]⟩
def Js (a1:Int) (a2:Int) (a3:Int):(List Res)×Int→Option (((List Res)×Int)⊕(List Res))
  | (s1_0,s1_1)=>(if s1_1<a3 then ((ix s1_0 (IntKind.i64.wrap (a2+s1_1))).bind fun x13=>((ix s1_0 (IntKind.i64.wrap (a1+s1_1))).bind fun x14=>((ix (s1_0.set ((IntKind.i64.wrap (a1+s1_1)).toNat) x13) (IntKind.i64.wrap (a2+s1_1))).bind fun x15=>some (.inl (((s1_0.set ((IntKind.i64.wrap (a1+s1_1)).toNat) x13).set ((IntKind.i64.wrap (a2+s1_1)).toNat) x14),IntKind.i64.wrap (s1_1+1)))))) else some (.inr s1_0))
def Om (a0:List Res) (a1:Int) (a2:Int) (a3:Int):Option (List Res):=((loopO (Js a1 a2 a3) (a0,0)).bind fun y17=>some y17)
theorem ok168_75 (a0:List Res) (a1:Int) (a2:Int) (a3:Int) (r:(List Res)) (h:Om a0 a1 a2 a3=some r):IC Tryz.prog 168 [some (.row 3 true (List.map Ak a0))] [.own 0 0 a0.length,.val (.int .i64 a1),.val (.int .i64 a2),.val (.int .i64 a3),.clo (.func 75) [] []] (.tup []) [some (.row 3 true (List.map Ak r))] []:=by
 rw [Om] at h
 refine Oe (N:=38) (rs:=[]) Tryz.func168 rfl rfl rfl (Nat.le_of_ble_eq_true rfl)<|Ac [0,1,2,3,10] ?_
 refine AW.block ?_
 obtain ⟨y17,hy17,h⟩:=bO h
 refine AW.loopO (fun s=>⟨(Ag (Ag (Ag (Ag (Ag Az 0 (.own 0 0 s.1.length)) 1 (.val (.int .i64 a1))) 2 (.val (.int .i64 a2))) 3 (.val (.int .i64 a3))) 10 (.val (.int .i64 s.2))),Bo [some (.row 3 true (List.map Ak s.1))] [],8⟩) (fun z e st'=>e=Exit.exit 0∧st'=⟨Az,Bo [some (.row 3 true (List.map Ak z))] [],8⟩) hy17 ?_ ?_ ?_
 ·exact Ab [] RF.any.qo.qv.qv.qv.qv (.ce (.nil _)) (.nil _)
 ·clear h hy17
  rintro ⟨s1_0,s1_1⟩ x h
  rw [Js] at h
  refine AW.seq<|Ac [0,1,2,3,10,13] ?_
  rcases Aq h with ⟨c12,h⟩|⟨c12,h⟩
  ·refine Aj rfl c12<|AW.skip<|Aa<|AW.seq<|AW.block ?_
   obtain ⟨x13,hx13,h⟩:=bO h
   obtain ⟨hx13a,hx13b⟩:=ix_some.1 hx13
   obtain ⟨x14,hx14,h⟩:=bO h
   obtain ⟨hx14a,hx14b⟩:=ix_some.1 hx14
   obtain ⟨x15,hx15,h⟩:=bO h
   obtain ⟨hx15a,hx15b⟩:=ix_some.1 hx15
   refine Nt [0,1,2,3,10] [0,0,0,6,0,0,0,96,0,0,0,1536,3840,7936,0,0,0,98304,245760,507904,1048335,2096911,4194303,8388607] ?_
   generalize hK:Dk _ _ Exit.normal=K
   simp only [go_sem,seval,Ah hx13a,hx13b,Cm hx13b,Ah hx14a,hx14b,Cm hx14b,Hz (enc:=Ak) (y:=x13) (r:=[.val (.string x13.Key),.val (.string x13.Val),.sl (List.map Bk x13.Offs)]) rfl,Ah hx15a,hx15b,Cm hx15b,Hz (enc:=Ak) (y:=x14) (r:=[.val (.string x14.Key),.val (.string x14.Val),.sl (List.map Bk x14.Offs)]) rfl]
   subst hK
   refine Ax<|Aa<|Cd [0,1,2,3,10] ?_
   refine Aa ?_
   refine ⟨_,oj h,?_⟩
   exact Ab [] RF.any.qo.qv.qv.qv.qv (.ce (.nil _)) (.nil _)
  ·refine Ai rfl c12<|AW.exit<|Af<|Af ?_
   refine ⟨_,oj h,_,?_,rfl,rfl⟩
   exact Ab [] RF.any (.ce (.nil _)) (.nil _)
 ·intro e st' hX
  try dsimp only at h
  try dsimp only at hX
  obtain ⟨rfl,rfl⟩:=hX
  refine ⟨_,Ent.refl,?_⟩
  refine Bc ?_
  refine ⟨⟨Az,Bo [some (.row 3 true (List.map Ak y17))] [],8⟩,?_,?_⟩
  · refine Bu [] _ _ _ rfl (by first|decide|simp) rfl ?_ ?_ ?_
    · exact RF.any
    · exact .ce (.nil _)
    · exact .nil _
  obtain rfl:=oi h
  exact ⟨rfl,rfl,_,rfl,by first|rfl|simp [Cu,Ae,Ar]⟩
def Hd (a2:Int):(List Res)×Int×Int→Option (((List Res)×Int×Int)⊕(Int×(List Res)))
  | (s1_0,s1_1,s1_2)=>(if s1_1=s1_2 then some (.inr (s1_1,s1_0)) else (if s1_2<s1_1 then ((Om s1_0 (IntKind.i64.wrap (a2-s1_1)) a2 s1_2).bind fun x18=>((Dt (x18.length=s1_0.length)).bind fun x19=>some (.inl (x18,IntKind.i64.wrap (s1_1-s1_2),s1_2)))) else ((Om s1_0 (IntKind.i64.wrap (a2-s1_1)) (IntKind.i64.wrap ((IntKind.i64.wrap (a2+s1_2))-s1_1)) s1_1).bind fun x20=>((Dt (x20.length=s1_0.length)).bind fun x21=>some (.inl (x20,s1_1,IntKind.i64.wrap (s1_2-s1_1)))))))
def Rl (a0:List Res) (a1:Int) (a2:Int) (a3:Int):Option (List Res):=((loopO (Hd a2) (a0,IntKind.i64.wrap (a2-a1),IntKind.i64.wrap (a3-a2))).bind fun y22=>match y22 with|(y23,y24)=>((Om y24 (IntKind.i64.wrap (a2-y23)) a2 y23).bind fun x25=>((Dt (x25.length=y24.length)).bind fun x26=>some x25)))
theorem ok149_75 (a0:List Res) (a1:Int) (a2:Int) (a3:Int) (r:(List Res)) (h:Rl a0 a1 a2 a3=some r):IC Tryz.prog 149 [some (.row 3 true (List.map Ak a0))] [.own 0 0 a0.length,.val (.int .i64 a1),.val (.int .i64 a2),.val (.int .i64 a3),.clo (.func 75) [] []] (.tup []) [some (.row 3 true (List.map Ak r))] []:=by
 rw [Rl] at h
 refine Oe (N:=58) (rs:=[]) Tryz.func149 rfl rfl rfl (Nat.le_of_ble_eq_true rfl)<|Ac [0,2,3,4,10] ?_
 refine Ac [0,2,4,10,11] ?_
 refine AW.seq<|AW.block ?_
 obtain ⟨y22,hy22,h⟩:=bO h
 refine AW.loopO (fun s=>⟨(Ag (Ag (Ag (Ag (Ag Az 0 (.own 0 0 s.1.length)) 2 (.val (.int .i64 a2))) 4 (.clo (.func 75) [] [])) 10 (.val (.int .i64 s.2.1))) 11 (.val (.int .i64 s.2.2))),Bo [some (.row 3 true (List.map Ak s.1))] [],8⟩) (fun z e st'=>e=Exit.exit 0∧st'=⟨(Ag (Ag (Ag (Ag Az 0 (.own 0 0 z.2.length)) 2 (.val (.int .i64 a2))) 4 (.clo (.func 75) [] [])) 10 (.val (.int .i64 z.1))),Bo [some (.row 3 true (List.map Ak z.2))] [],8⟩) hy22 ?_ ?_ ?_
 ·exact Ab [] RF.any.qo.qv.qt.qv.qv (.ce (.nil _)) (.nil _)
 ·clear h hy22
  rintro ⟨s1_0,s1_1,s1_2⟩ x h
  rw [Hd] at h
  refine AW.seq<|Ac [0,2,4,10,11,20] ?_
  rcases Aq h with ⟨c16,h⟩|⟨c16,h⟩
  ·refine Ai rfl (fun q=>q c16)<|AW.exit<|Af<|Af ?_
   refine ⟨_,oj h,_,?_,rfl,rfl⟩
   exact Ab [] RF.any.qo.qv.qt.qv (.ce (.nil _)) (.nil _)
  ·refine Aj rfl c16<|AW.skip<|Aa<|AW.block<|Ac [0,2,4,10,11,23] ?_
   rcases Aq h with ⟨c17,h⟩|⟨c17,h⟩
   ·refine Aj rfl c17 ?_
    obtain ⟨x18,hx18,h⟩:=bO h
    obtain ⟨x19,hx19,h⟩:=bO h
    have lenhx18:x18.length=s1_0.length:=guardO_some.1 hx19
    refine Cb [0,2,4,10,11] fun K hK=>?_
    simp only [go_sem,seval,lenhx18]
    refine arC.ok (Br (us':=_) (ok168_75 s1_0 (IntKind.i64.wrap (a2-s1_1)) a2 s1_2 x18 hx18) [0] (.cons (.eq (by simp only [go_sem]) (by first|rfl|simp [Ae,Ap,Cf])) (.nil _)) (.cons (.of (by first|rfl|simp [Cq,Cf,eq_false c16,eq_true c17])) (.cons (.of rfl) (.cons (.of rfl) (.cons (.of rfl) (.cons (.of rfl) .nil)))))) Tryz.call168 ?_
    simp only [go_sem,seval,lenhx18]
    subst hK
    refine Bz [0,2,4,10,11] ?_
    refine Ax<|Aa ?_
    refine ⟨_,oj h,?_⟩
    exact Ab [] RF.any.qo.qv.qt.qv.qv (.ce (.nil _)) (.nil _)
   ·refine Ai rfl c17 ?_
    obtain ⟨x20,hx20,h⟩:=bO h
    obtain ⟨x21,hx21,h⟩:=bO h
    have lenhx20:x20.length=s1_0.length:=guardO_some.1 hx21
    refine Cb [0,2,4,10,11] fun K hK=>?_
    simp only [go_sem,seval,lenhx20]
    refine arC.ok (Br (us':=_) (ok168_75 s1_0 (IntKind.i64.wrap (a2-s1_1)) (IntKind.i64.wrap ((IntKind.i64.wrap (a2+s1_2))-s1_1)) s1_1 x20 hx20) [0] (.cons (.eq (by simp only [go_sem]) (by first|rfl|simp [Ae,Ap,Cf])) (.nil _)) (.cons (.of (by first|rfl|simp [Cq,Cf,eq_false c16,eq_false c17])) (.cons (.of rfl) (.cons (.of rfl) (.cons (.of rfl) (.cons (.of rfl) .nil)))))) Tryz.call168 ?_
    simp only [go_sem,seval,lenhx20]
    subst hK
    refine Bz [0,2,4,10,11] ?_
    refine Ax<|Aa ?_
    refine ⟨_,oj h,?_⟩
    exact Ab [] RF.any.qo.qv.qt.qv.qv (.ce (.nil _)) (.nil _)
 ·intro e st' hX
  obtain ⟨y23,y24⟩:=y22
  try dsimp only at h
  try dsimp only at hX
  obtain ⟨rfl,rfl⟩:=hX
  refine ⟨_,Ent.refl,?_⟩
  refine Bc<|Aa ?_
  obtain ⟨x25,hx25,h⟩:=bO h
  obtain ⟨x26,hx26,h⟩:=bO h
  have lenhx25:x25.length=y24.length:=guardO_some.1 hx26
  refine Dq [] fun K hK=>?_
  simp only [go_sem,seval,lenhx25]
  refine arC.ok (Br (us':=_) (ok168_75 y24 (IntKind.i64.wrap (a2-y23)) a2 y23 x25 hx25) [0] (.cons (.eq (by simp only [go_sem]) (by first|rfl|simp [Ae,Ap,Cf])) (.nil _)) (.cons (.of (by first|rfl|simp [Cq,Cf])) (.cons (.of rfl) (.cons (.of rfl) (.cons (.of rfl) (.cons (.of rfl) .nil)))))) Tryz.call168 ?_
  simp only [go_sem,seval,lenhx25]
  subst hK
  refine ⟨⟨Az,Bo [some (.row 3 true (List.map Ak x25))] [],8⟩,?_,?_⟩
  · refine Bu [] _ _ _ rfl (by first|decide|simp) rfl ?_ ?_ ?_
    · exact RF.any
    · exact .ce (.nil _)
    · exact .nil _
  obtain rfl:=oi h
  exact ⟨rfl,rfl,_,rfl,by first|rfl|simp [Cu,Ae,Ar]⟩
def Mc (a0:List Res) (a1:Int):Int×Int→Option ((Int×Int)⊕Int)
  | (s5_0,s5_1)=>(if s5_0<s5_1 then ((ix a0 (IntKind.i64.wrap (Dn .u64 (IntKind.u64.wrap (IntKind.i64.wrap (s5_0+s5_1))) 1))).bind fun x71=>((ix a0 a1).bind fun x72=>((f75 x71 x72).bind fun x73=>(if x73<0 then some (.inl (IntKind.i64.wrap ((IntKind.i64.wrap (Dn .u64 (IntKind.u64.wrap (IntKind.i64.wrap (s5_0+s5_1))) 1))+1),s5_1)) else some (.inl (s5_0,IntKind.i64.wrap (Dn .u64 (IntKind.u64.wrap (IntKind.i64.wrap (s5_0+s5_1))) 1))))))) else some (.inr s5_0))
def Jt (y76:Int):(List Res)×Int→Option (((List Res)×Int)⊕(List Res))
  | (s6_0,s6_1)=>(if s6_1<(IntKind.i64.wrap (y76-1)) then ((ix s6_0 (IntKind.i64.wrap (s6_1+1))).bind fun x89=>((ix s6_0 s6_1).bind fun x90=>((ix (s6_0.set s6_1.toNat x89) (IntKind.i64.wrap (s6_1+1))).bind fun x91=>some (.inl (((s6_0.set s6_1.toNat x89).set ((IntKind.i64.wrap (s6_1+1)).toNat) x90),IntKind.i64.wrap (s6_1+1)))))) else some (.inr s6_0))
def Kq (a0:List Res) (a2:Int):Int×Int→Option ((Int×Int)⊕Int)
  | (s11_0,s11_1)=>(if s11_1<s11_0 then ((ix a0 a2).bind fun x164=>((ix a0 (IntKind.i64.wrap (Dn .u64 (IntKind.u64.wrap (IntKind.i64.wrap (s11_1+s11_0))) 1))).bind fun x165=>((f75 x164 x165).bind fun x166=>(if x166<0 then some (.inl (IntKind.i64.wrap (Dn .u64 (IntKind.u64.wrap (IntKind.i64.wrap (s11_1+s11_0))) 1),s11_1)) else some (.inl (s11_0,IntKind.i64.wrap ((IntKind.i64.wrap (Dn .u64 (IntKind.u64.wrap (IntKind.i64.wrap (s11_1+s11_0))) 1))+1))))))) else some (.inr s11_1))
def Iv (y169:Int):(List Res)×Int→Option (((List Res)×Int)⊕(List Res))
  | (s12_0,s12_1)=>(if y169<s12_1 then ((ix s12_0 (IntKind.i64.wrap (s12_1-1))).bind fun x182=>((ix s12_0 s12_1).bind fun x183=>((ix (s12_0.set s12_1.toNat x182) (IntKind.i64.wrap (s12_1-1))).bind fun x184=>some (.inl (((s12_0.set s12_1.toNat x182).set ((IntKind.i64.wrap (s12_1-1)).toNat) x183),IntKind.i64.wrap (s12_1-1)))))) else some (.inr s12_0))
def Ko (a0:List Res) (a1:Int) (a2:Int) (a3:Int):Int×Int→Option ((Int×Int)⊕Int)
  | (s14_0,s14_1)=>(if s14_1<s14_0 then ((ix a0 (IntKind.i64.wrap ((IntKind.i64.wrap ((IntKind.i64.wrap ((IntKind.i64.wrap (Dn .u64 (IntKind.u64.wrap (IntKind.i64.wrap (a1+a3))) 1))+a2))-1))-(IntKind.i64.wrap (Dn .u64 (IntKind.u64.wrap (IntKind.i64.wrap (s14_1+s14_0))) 1))))).bind fun x216=>((ix a0 (IntKind.i64.wrap (Dn .u64 (IntKind.u64.wrap (IntKind.i64.wrap (s14_1+s14_0))) 1))).bind fun x217=>((f75 x216 x217).bind fun x218=>(if x218<0 then some (.inl (IntKind.i64.wrap (Dn .u64 (IntKind.u64.wrap (IntKind.i64.wrap (s14_1+s14_0))) 1),s14_1)) else some (.inl (s14_0,IntKind.i64.wrap ((IntKind.i64.wrap (Dn .u64 (IntKind.u64.wrap (IntKind.i64.wrap (s14_1+s14_0))) 1))+1))))))) else some (.inr s14_1))
def Il (a1:Int) (a2:Int) (a3:Int) (rec130:(List Res)→Int→Int→Int→Option (List Res)) (y221:Int):(List Res)→Option (List Res)
  | j3_0=>(if (IntKind.i64.wrap (Dn .u64 (IntKind.u64.wrap (IntKind.i64.wrap (a1+a3))) 1))<(IntKind.i64.wrap ((IntKind.i64.wrap ((IntKind.i64.wrap (Dn .u64 (IntKind.u64.wrap (IntKind.i64.wrap (a1+a3))) 1))+a2))-y221)) then (if (IntKind.i64.wrap ((IntKind.i64.wrap ((IntKind.i64.wrap (Dn .u64 (IntKind.u64.wrap (IntKind.i64.wrap (a1+a3))) 1))+a2))-y221))<a3 then ((rec130 j3_0 (IntKind.i64.wrap (Dn .u64 (IntKind.u64.wrap (IntKind.i64.wrap (a1+a3))) 1)) (IntKind.i64.wrap ((IntKind.i64.wrap ((IntKind.i64.wrap (Dn .u64 (IntKind.u64.wrap (IntKind.i64.wrap (a1+a3))) 1))+a2))-y221)) a3).bind fun x232=>((Dt (x232.length=j3_0.length)).bind fun x233=>some x232)) else some j3_0) else some j3_0)
def Fi (a1:Int) (a2:Int) (a3:Int) (rec130:(List Res)→Int→Int→Int→Option (List Res)) (y221:Int):(List Res)→Option (List Res)
  | j2_0=>(if a1<y221 then (if y221<(IntKind.i64.wrap (Dn .u64 (IntKind.u64.wrap (IntKind.i64.wrap (a1+a3))) 1)) then ((rec130 j2_0 a1 y221 (IntKind.i64.wrap (Dn .u64 (IntKind.u64.wrap (IntKind.i64.wrap (a1+a3))) 1))).bind fun x236=>((Dt (x236.length=j2_0.length)).bind fun x237=>Il a1 a2 a3 rec130 y221 x236)) else Il a1 a2 a3 rec130 y221 j2_0) else Il a1 a2 a3 rec130 y221 j2_0)
def He (a0:List Res) (a1:Int) (a2:Int) (a3:Int) (rec130:(List Res)→Int→Int→Int→Option (List Res)):Int×Int→Option (List Res)
  | (j1_0,j1_1)=>((loopO (Ko a0 a1 a2 a3) (j1_1,j1_0)).bind fun y221=>(if y221<a2 then (if a2<(IntKind.i64.wrap ((IntKind.i64.wrap ((IntKind.i64.wrap (Dn .u64 (IntKind.u64.wrap (IntKind.i64.wrap (a1+a3))) 1))+a2))-y221)) then ((Rl a0 y221 a2 (IntKind.i64.wrap ((IntKind.i64.wrap ((IntKind.i64.wrap (Dn .u64 (IntKind.u64.wrap (IntKind.i64.wrap (a1+a3))) 1))+a2))-y221))).bind fun x240=>((Dt (x240.length=a0.length)).bind fun x241=>Fi a1 a2 a3 rec130 y221 x240)) else Fi a1 a2 a3 rec130 y221 a0) else Fi a1 a2 a3 rec130 y221 a0))
def Jg (rec130:(List Res)→Int→Int→Int→Option (List Res)) (a0:List Res) (a1:Int) (a2:Int) (a3:Int):Option (List Res):=(if (IntKind.i64.wrap (a2-a1))=1 then ((loopO (Mc a0 a1) (a2,a3)).bind fun y76=>((loopO (Jt y76) (a0,a1)).bind fun y93=>some y93)) else (if (IntKind.i64.wrap (a3-a2))=1 then ((loopO (Kq a0 a2) (a2,a1)).bind fun y169=>((loopO (Iv y169) (a0,a2)).bind fun y186=>some y186)) else (if (IntKind.i64.wrap (Dn .u64 (IntKind.u64.wrap (IntKind.i64.wrap (a1+a3))) 1))<a2 then He a0 a1 a2 a3 rec130 ((IntKind.i64.wrap ((IntKind.i64.wrap ((IntKind.i64.wrap (Dn .u64 (IntKind.u64.wrap (IntKind.i64.wrap (a1+a3))) 1))+a2))-a3)),(IntKind.i64.wrap (Dn .u64 (IntKind.u64.wrap (IntKind.i64.wrap (a1+a3))) 1))) else He a0 a1 a2 a3 rec130 (a1,a2))))
theorem ok130_75b (rec130:(List Res)→Int→Int→Int→Option (List Res)) (hrec130:∀(a0:List Res) (a1:Int) (a2:Int) (a3:Int) (r:(List Res)),rec130 a0 a1 a2 a3=some r→IC Tryz.prog 130 [some (.row 3 true (List.map Ak a0))] [.own 0 0 a0.length,.val (.int .i64 a1),.val (.int .i64 a2),.val (.int .i64 a3),.clo (.func 75) [] []] (.tup []) [some (.row 3 true (List.map Ak r))] []) (a0:List Res) (a1:Int) (a2:Int) (a3:Int) (r:(List Res)) (h:Jg rec130 a0 a1 a2 a3=some r):IC Tryz.prog 130 [some (.row 3 true (List.map Ak a0))] [.own 0 0 a0.length,.val (.int .i64 a1),.val (.int .i64 a2),.val (.int .i64 a3),.clo (.func 75) [] []] (.tup []) [some (.row 3 true (List.map Ak r))] []:=by
 rw [Jg] at h
 refine Oe (N:=220) (rs:=[]) Tryz.func130 rfl rfl rfl (Nat.le_of_ble_eq_true rfl)<|AW.seq<|Ao [0,1,2,3,4,28] ?_
 rcases Aq h with ⟨c42,h⟩|⟨c42,h⟩
 ·refine Aj rfl c42<|Ao [0,1,3,4,10] ?_
  refine Ao [0,1,4,10,11] ?_
  refine AW.seq<|AW.block ?_
  obtain ⟨y76,hy76,h⟩:=bO h
  refine AW.loopO (fun s=>⟨(Ag (Ag (Ag (Ag (Ag Az 0 (.own 0 0 a0.length)) 1 (.val (.int .i64 a1))) 4 (.clo (.func 75) [] [])) 10 (.val (.int .i64 s.1))) 11 (.val (.int .i64 s.2))),Bo [some (.row 3 true (List.map Ak a0))] [],8⟩) (fun z e st'=>e=Exit.exit 0∧st'=⟨(Ag (Ag (Ag Az 0 (.own 0 0 a0.length)) 1 (.val (.int .i64 a1))) 10 (.val (.int .i64 z))),Bo [some (.row 3 true (List.map Ak a0))] [],8⟩) hy76 ?_ ?_ ?_
  ·exact Ab [] RF.any.qo.qv.qt.qv.qv (.ce (.nil _)) (.nil _)
  ·clear h hy76
   rintro ⟨s5_0,s5_1⟩ x h
   rw [Mc] at h
   refine AW.seq<|Ao [0,1,4,10,11,33] ?_
   rcases Aq h with ⟨c70,h⟩|⟨c70,h⟩
   ·refine Aj rfl c70<|AW.skip<|Aa<|AW.block<|Eb [0,1,4,10,11,12] ?_
    obtain ⟨x71,hx71,h⟩:=bO h
    obtain ⟨hx71a,hx71b⟩:=ix_some.1 hx71
    obtain ⟨x72,hx72,h⟩:=bO h
    obtain ⟨hx72a,hx72b⟩:=ix_some.1 hx72
    obtain ⟨x73,hx73,h⟩:=bO h
    refine Dm [0,1,4,10,11,12,50] [0,0,0,6,14,0,0,96,224,511,1023] ?_
    generalize hK:AW Tryz.prog _ _ _=K
    simp only [go_sem,seval,Ah hx71a,hx71b,Cm hx71b,Ah hx72a,hx72b,Cm hx72b]
    refine Em (ok75 x71 x72 x73 hx73) Tryz.call75 (Fw (by simp only [Ae,Nat.reduceEqDiff,if_true,if_false,↓reduceIte];rfl)) (by simp only [go_sem,seval,List.nil_append,List.append_nil,eq_true c42,eq_true c70,Ah hx71a,hx71b,Cm hx71b,Ah hx72a,hx72b,Cm hx72b]) (by simp only [go_sem,seval]) ?_
    simp only [go_sem,seval,Ah hx71a,hx71b,Cm hx71b,Ah hx72a,hx72b,Cm hx72b]
    subst hK
    rcases Aq h with ⟨c74,h⟩|⟨c74,h⟩
    ·refine Aj rfl c74<|Bz [0,1,4,10,11] ?_
     refine Ax<|Aa ?_
     refine ⟨_,oj h,?_⟩
     exact Ab [] RF.any.qo.qv.qt.qv.qv (.ce (.nil _)) (.nil _)
    ·refine Ai rfl c74<|Bz [0,1,4,10,11] ?_
     refine Ax<|Aa ?_
     refine ⟨_,oj h,?_⟩
     exact Ab [] RF.any.qo.qv.qt.qv.qv (.ce (.nil _)) (.nil _)
   ·refine Ai rfl c70<|AW.exit<|Af<|Af ?_
    refine ⟨_,oj h,_,?_,rfl,rfl⟩
    exact Ab [] RF.any.qo.qv.qv (.ce (.nil _)) (.nil _)
  ·intro e st' hX
   try dsimp only at h
   try dsimp only at hX
   obtain ⟨rfl,rfl⟩:=hX
   refine ⟨_,Ent.refl,?_⟩
   refine Bc<|Aa<|AW.seq<|Ao [0,10,13] ?_
   refine AW.block ?_
   obtain ⟨y93,hy93,h⟩:=bO h
   refine AW.loopO (fun s=>⟨(Ag (Ag (Ag Az 0 (.own 0 0 s.1.length)) 10 (.val (.int .i64 y76))) 13 (.val (.int .i64 s.2))),Bo [some (.row 3 true (List.map Ak s.1))] [],8⟩) (fun z e st'=>e=Exit.exit 2∧st'=⟨Az,Bo [some (.row 3 true (List.map Ak z))] [],8⟩) hy93 ?_ ?_ ?_
   ·exact Ab [] RF.any.qo.qv.qv (.ce (.nil _)) (.nil _)
   ·clear h hy93
    rintro ⟨s6_0,s6_1⟩ x h
    rw [Jt] at h
    refine AW.seq<|Ao [0,10,13,58] ?_
    rcases Aq h with ⟨c88,h⟩|⟨c88,h⟩
    ·refine Aj rfl c88<|AW.skip<|Aa<|AW.seq<|AW.block ?_
     obtain ⟨x89,hx89,h⟩:=bO h
     obtain ⟨hx89a,hx89b⟩:=ix_some.1 hx89
     obtain ⟨x90,hx90,h⟩:=bO h
     obtain ⟨hx90a,hx90b⟩:=ix_some.1 hx90
     obtain ⟨x91,hx91,h⟩:=bO h
     obtain ⟨hx91a,hx91b⟩:=ix_some.1 hx91
     refine Nt [0,10,13] [0,0,0,0,8,0,0,64,224,480,0,0,3072,7168,16355,32739,65535,131071] ?_
     generalize hK:Dk _ _ Exit.normal=K
     simp only [go_sem,seval,Ah hx89a,hx89b,Cm hx89b,Ah hx90a,hx90b,Cm hx90b,Hz (enc:=Ak) (y:=x89) (r:=[.val (.string x89.Key),.val (.string x89.Val),.sl (List.map Bk x89.Offs)]) rfl,Ah hx91a,hx91b,Cm hx91b,Hz (enc:=Ak) (y:=x90) (r:=[.val (.string x90.Key),.val (.string x90.Val),.sl (List.map Bk x90.Offs)]) rfl]
     subst hK
     refine Ax<|Aa<|Bz [0,10,13] ?_
     refine Aa ?_
     refine ⟨_,oj h,?_⟩
     exact Ab [] RF.any.qo.qv.qv (.ce (.nil _)) (.nil _)
    ·refine Ai rfl c88<|AW.exit<|Af<|Af ?_
     refine ⟨_,oj h,_,?_,rfl,rfl⟩
     exact Ab [] RF.any (.ce (.nil _)) (.nil _)
   ·intro e st' hX
    try dsimp only at h
    try dsimp only at hX
    obtain ⟨rfl,rfl⟩:=hX
    refine ⟨_,Ent.refl,?_⟩
    refine Bc<|Aa ?_
    refine AW.ent (st':=⟨Az,Bo [some (.row 3 true (List.map Ak y93))] [],8⟩) ?_ ?_
    · refine Bu [] _ _ _ rfl (by first|decide|simp) rfl ?_ ?_ ?_
      · exact RF.any
      · exact .ce (.nil _)
      · exact .nil _
    refine AW.ret<|Ad ?_
    obtain rfl:=oi h
    exact ⟨_,Ent.refl,rfl,rfl,_,rfl,by first|rfl|simp [Cu,Ae,Ar]⟩
 ·refine Ai rfl c42<|AW.skip<|Aa<|AW.seq<|Ao [0,1,2,3,4,80] ?_
  rcases Aq h with ⟨c135,h⟩|⟨c135,h⟩
  ·refine Aj rfl c135<|Ao [0,2,4,14] ?_
   refine Ao [0,2,4,14,15] ?_
   refine AW.seq<|AW.block ?_
   obtain ⟨y169,hy169,h⟩:=bO h
   refine AW.loopO (fun s=>⟨(Ag (Ag (Ag (Ag (Ag Az 0 (.own 0 0 a0.length)) 2 (.val (.int .i64 a2))) 4 (.clo (.func 75) [] [])) 14 (.val (.int .i64 s.2))) 15 (.val (.int .i64 s.1))),Bo [some (.row 3 true (List.map Ak a0))] [],8⟩) (fun z e st'=>e=Exit.exit 4∧st'=⟨(Ag (Ag (Ag Az 0 (.own 0 0 a0.length)) 2 (.val (.int .i64 a2))) 14 (.val (.int .i64 z))),Bo [some (.row 3 true (List.map Ak a0))] [],8⟩) hy169 ?_ ?_ ?_
   ·exact Ab [] RF.any.qo.qv.qt.qv.qv (.ce (.nil _)) (.nil _)
   ·clear h hy169
    rintro ⟨s11_0,s11_1⟩ x h
    rw [Kq] at h
    refine AW.seq<|Ao [0,2,4,14,15,85] ?_
    rcases Aq h with ⟨c163,h⟩|⟨c163,h⟩
    ·refine Aj rfl c163<|AW.skip<|Aa<|AW.block<|Eb [0,2,4,14,15,16] ?_
     obtain ⟨x164,hx164,h⟩:=bO h
     obtain ⟨hx164a,hx164b⟩:=ix_some.1 hx164
     obtain ⟨x165,hx165,h⟩:=bO h
     obtain ⟨hx165a,hx165b⟩:=ix_some.1 hx165
     obtain ⟨x166,hx166,h⟩:=bO h
     refine Dm [0,2,4,14,15,16,103] [0,0,0,6,14,0,0,96,224,511,1023,2047] ?_
     generalize hK:AW Tryz.prog _ _ _=K
     simp only [go_sem,seval,Ah hx164a,hx164b,Cm hx164b,Ah hx165a,hx165b,Cm hx165b]
     refine Em (ok75 x164 x165 x166 hx166) Tryz.call75 (Fw (by simp only [Ae,Nat.reduceEqDiff,if_true,if_false,↓reduceIte];rfl)) (by simp only [go_sem,seval,List.nil_append,List.append_nil,eq_false c42,eq_true c135,eq_true c163,Ah hx164a,hx164b,Cm hx164b,Ah hx165a,hx165b,Cm hx165b]) (by simp only [go_sem,seval]) ?_
     simp only [go_sem,seval,Ah hx164a,hx164b,Cm hx164b,Ah hx165a,hx165b,Cm hx165b]
     subst hK
     rcases Aq h with ⟨c167,h⟩|⟨c167,h⟩
     ·refine Pe rfl c167<|Bz [0,2,4,14,15] ?_
      refine Ax<|Aa ?_
      refine ⟨_,oj h,?_⟩
      exact Ab [] RF.any.qo.qv.qt.qv.qv (.ce (.nil _)) (.nil _)
     ·refine AW.ifNT rfl c167<|Bz [0,2,4,14,15] ?_
      refine Ax<|Aa ?_
      refine ⟨_,oj h,?_⟩
      exact Ab [] RF.any.qo.qv.qt.qv.qv (.ce (.nil _)) (.nil _)
    ·refine Ai rfl c163<|AW.exit<|Af<|Af ?_
     refine ⟨_,oj h,_,?_,rfl,rfl⟩
     exact Ab [] RF.any.qo.qv.qv (.ce (.nil _)) (.nil _)
   ·intro e st' hX
    try dsimp only at h
    try dsimp only at hX
    obtain ⟨rfl,rfl⟩:=hX
    refine ⟨_,Ent.refl,?_⟩
    refine Bc<|Aa<|AW.seq<|Ao [0,14,17] ?_
    refine AW.block ?_
    obtain ⟨y186,hy186,h⟩:=bO h
    refine AW.loopO (fun s=>⟨(Ag (Ag (Ag Az 0 (.own 0 0 s.1.length)) 14 (.val (.int .i64 y169))) 17 (.val (.int .i64 s.2))),Bo [some (.row 3 true (List.map Ak s.1))] [],8⟩) (fun z e st'=>e=Exit.exit 6∧st'=⟨Az,Bo [some (.row 3 true (List.map Ak z))] [],8⟩) hy186 ?_ ?_ ?_
    ·exact Ab [] RF.any.qo.qv.qv (.ce (.nil _)) (.nil _)
    ·clear h hy186
     rintro ⟨s12_0,s12_1⟩ x h
     rw [Iv] at h
     refine AW.seq<|Ao [0,14,17,110] ?_
     rcases Aq h with ⟨c181,h⟩|⟨c181,h⟩
     ·refine Aj rfl c181<|AW.skip<|Aa<|AW.seq<|AW.block ?_
      obtain ⟨x182,hx182,h⟩:=bO h
      obtain ⟨hx182a,hx182b⟩:=ix_some.1 hx182
      obtain ⟨x183,hx183,h⟩:=bO h
      obtain ⟨hx183a,hx183b⟩:=ix_some.1 hx183
      obtain ⟨x184,hx184,h⟩:=bO h
      obtain ⟨hx184a,hx184b⟩:=ix_some.1 hx184
      refine Nt [0,14,17] [0,0,0,0,8,0,0,64,224,480,0,0,3072,7168,16355,32739,65535,131071] ?_
      generalize hK:Dk _ _ Exit.normal=K
      simp only [go_sem,seval,Ah hx182a,hx182b,Cm hx182b,Ah hx183a,hx183b,Cm hx183b,Hz (enc:=Ak) (y:=x182) (r:=[.val (.string x182.Key),.val (.string x182.Val),.sl (List.map Bk x182.Offs)]) rfl,Ah hx184a,hx184b,Cm hx184b,Hz (enc:=Ak) (y:=x183) (r:=[.val (.string x183.Key),.val (.string x183.Val),.sl (List.map Bk x183.Offs)]) rfl]
      subst hK
      refine Ax<|Aa<|Bz [0,14,17] ?_
      refine Aa ?_
      refine ⟨_,oj h,?_⟩
      exact Ab [] RF.any.qo.qv.qv (.ce (.nil _)) (.nil _)
     ·refine Ai rfl c181<|AW.exit<|Af<|Af ?_
      refine ⟨_,oj h,_,?_,rfl,rfl⟩
      exact Ab [] RF.any (.ce (.nil _)) (.nil _)
    ·intro e st' hX
     try dsimp only at h
     try dsimp only at hX
     obtain ⟨rfl,rfl⟩:=hX
     refine ⟨_,Ent.refl,?_⟩
     refine Bc<|Aa ?_
     refine AW.ent (st':=⟨Az,Bo [some (.row 3 true (List.map Ak y186))] [],8⟩) ?_ ?_
     · refine Bu [] _ _ _ rfl (by first|decide|simp) rfl ?_ ?_ ?_
       · exact RF.any
       · exact .ce (.nil _)
       · exact .nil _
     refine AW.ret<|Ad ?_
     obtain rfl:=oi h
     exact ⟨_,Ent.refl,rfl,rfl,_,rfl,by first|rfl|simp [Cu,Ae,Ar]⟩
  ·refine Ai rfl c135<|AW.skip<|Aa<|Eb [0,1,2,3,4,18] ?_
   refine Eb [0,1,2,3,4,18,19] ?_
   refine Eb [0,1,2,3,4,18,19] ?_
   refine AW.join (fun s=>⟨(Ag (Ag (Ag (Ag (Ag (Ag (Ag (Ag (Ag Az 0 (.own 0 0 a0.length)) 1 (.val (.int .i64 a1))) 2 (.val (.int .i64 a2))) 3 (.val (.int .i64 a3))) 4 (.clo (.func 75) [] [])) 18 (.val (.int .i64 (IntKind.i64.wrap (Dn .u64 (IntKind.u64.wrap (IntKind.i64.wrap (a1+a3))) 1))))) 19 (.val (.int .i64 (IntKind.i64.wrap ((IntKind.i64.wrap (Dn .u64 (IntKind.u64.wrap (IntKind.i64.wrap (a1+a3))) 1))+a2))))) 20 (.val (.int .i64 s.1))) 21 (.val (.int .i64 s.2))),Bo [some (.row 3 true (List.map Ak a0))] [],8⟩) (fun s=>He a0 a1 a2 a3 rec130 s=some r) ?_ ?_
   ·refine Eb [0,1,2,3,4,18,19,140] ?_
    rcases Aq h with ⟨c242,h⟩|⟨c242,h⟩
    ·refine Aj rfl c242<|Ao [0,1,2,3,4,18,19,20] ?_
     refine Bz [0,1,2,3,4,18,19,20,21] ?_
     refine Aa ?_
     refine ⟨_,h,?_⟩
     exact Ab [] RF.any.qo.qv.qv.qv.qt.qv.qv.qv.qv (.ce (.nil _)) (.nil _)
    ·refine Ai rfl c242<|Ao [0,1,2,3,4,18,19,20] ?_
     refine Bz [0,1,2,3,4,18,19,20,21] ?_
     refine Aa ?_
     refine ⟨_,h,?_⟩
     exact Ab [] RF.any.qo.qv.qv.qv.qt.qv.qv.qv.qv (.ce (.nil _)) (.nil _)
   ·clear h
    rintro ⟨j1_0,j1_1⟩ h
    rw [He] at h
    refine Ao [0,1,2,3,4,18,19,20,21,22] ?_
    refine AW.seq<|AW.block ?_
    obtain ⟨y221,hy221,h⟩:=bO h
    refine AW.loopO (fun s=>⟨(Ag (Ag (Ag (Ag (Ag (Ag (Ag (Ag (Ag (Ag Az 0 (.own 0 0 a0.length)) 1 (.val (.int .i64 a1))) 2 (.val (.int .i64 a2))) 3 (.val (.int .i64 a3))) 4 (.clo (.func 75) [] [])) 18 (.val (.int .i64 (IntKind.i64.wrap (Dn .u64 (IntKind.u64.wrap (IntKind.i64.wrap (a1+a3))) 1))))) 19 (.val (.int .i64 (IntKind.i64.wrap ((IntKind.i64.wrap (Dn .u64 (IntKind.u64.wrap (IntKind.i64.wrap (a1+a3))) 1))+a2))))) 20 (.val (.int .i64 s.2))) 21 (.val (.int .i64 s.1))) 22 (.val (.int .i64 (IntKind.i64.wrap ((IntKind.i64.wrap ((IntKind.i64.wrap (Dn .u64 (IntKind.u64.wrap (IntKind.i64.wrap (a1+a3))) 1))+a2))-1))))),Bo [some (.row 3 true (List.map Ak a0))] [],8⟩) (fun z e st'=>e=Exit.exit 8∧st'=⟨(Ag (Ag (Ag (Ag (Ag (Ag (Ag (Ag Az 0 (.own 0 0 a0.length)) 1 (.val (.int .i64 a1))) 2 (.val (.int .i64 a2))) 3 (.val (.int .i64 a3))) 4 (.clo (.func 75) [] [])) 18 (.val (.int .i64 (IntKind.i64.wrap (Dn .u64 (IntKind.u64.wrap (IntKind.i64.wrap (a1+a3))) 1))))) 19 (.val (.int .i64 (IntKind.i64.wrap ((IntKind.i64.wrap (Dn .u64 (IntKind.u64.wrap (IntKind.i64.wrap (a1+a3))) 1))+a2))))) 20 (.val (.int .i64 z))),Bo [some (.row 3 true (List.map Ak a0))] [],8⟩) hy221 ?_ ?_ ?_
    ·exact Ab [] RF.any.qo.qv.qv.qv.qt.qv.qv.qv.qv.qv (.ce (.nil _)) (.nil _)
    ·clear h hy221
     rintro ⟨s14_0,s14_1⟩ x h
     rw [Ko] at h
     refine AW.seq<|Ao [0,1,2,3,4,18,19,20,21,22,151] ?_
     rcases Aq h with ⟨c215,h⟩|⟨c215,h⟩
     ·refine Aj rfl c215<|AW.skip<|Aa<|AW.block<|Eb [0,1,2,3,4,18,19,20,21,22,23] ?_
      obtain ⟨x216,hx216,h⟩:=bO h
      obtain ⟨hx216a,hx216b⟩:=ix_some.1 hx216
      obtain ⟨x217,hx217,h⟩:=bO h
      obtain ⟨hx217a,hx217b⟩:=ix_some.1 hx217
      obtain ⟨x218,hx218,h⟩:=bO h
      refine Dm [0,1,2,3,4,18,19,20,21,22,23,171] [0,0,0,0,12,30,62,0,0,384,896,2047,4095,8191] ?_
      generalize hK:AW Tryz.prog _ _ _=K
      simp only [go_sem,seval,Ah hx216a,hx216b,Cm hx216b,Ah hx217a,hx217b,Cm hx217b]
      refine Em (ok75 x216 x217 x218 hx218) Tryz.call75 (Fw (by simp only [Ae,Nat.reduceEqDiff,if_true,if_false,↓reduceIte];rfl)) (by simp only [go_sem,seval,List.nil_append,List.append_nil,eq_false c42,eq_false c135,eq_true c215,Ah hx216a,hx216b,Cm hx216b,Ah hx217a,hx217b,Cm hx217b]) (by simp only [go_sem,seval]) ?_
      simp only [go_sem,seval,Ah hx216a,hx216b,Cm hx216b,Ah hx217a,hx217b,Cm hx217b]
      subst hK
      rcases Aq h with ⟨c219,h⟩|⟨c219,h⟩
      ·refine Pe rfl c219<|Bz [0,1,2,3,4,18,19,20,21,22] ?_
       refine Ax<|Aa ?_
       refine ⟨_,oj h,?_⟩
       exact Ab [] RF.any.qo.qv.qv.qv.qt.qv.qv.qv.qv.qv (.ce (.nil _)) (.nil _)
      ·refine AW.ifNT rfl c219<|Bz [0,1,2,3,4,18,19,20,21,22] ?_
       refine Ax<|Aa ?_
       refine ⟨_,oj h,?_⟩
       exact Ab [] RF.any.qo.qv.qv.qv.qt.qv.qv.qv.qv.qv (.ce (.nil _)) (.nil _)
     ·refine Ai rfl c215<|AW.exit<|Af<|Af ?_
      refine ⟨_,oj h,_,?_,rfl,rfl⟩
      exact Ab [] RF.any.qo.qv.qv.qv.qt.qv.qv.qv (.ce (.nil _)) (.nil _)
    ·intro e st' hX
     try dsimp only at h
     try dsimp only at hX
     obtain ⟨rfl,rfl⟩:=hX
     refine ⟨_,Ent.refl,?_⟩
     refine Bc<|Aa<|Ao [0,1,2,3,4,18,20,24] ?_
     refine AW.join (fun s=>⟨(Ag (Ag (Ag (Ag (Ag (Ag (Ag Az 0 (.own 0 0 s.length)) 1 (.val (.int .i64 a1))) 3 (.val (.int .i64 a3))) 4 (.clo (.func 75) [] [])) 18 (.val (.int .i64 (IntKind.i64.wrap (Dn .u64 (IntKind.u64.wrap (IntKind.i64.wrap (a1+a3))) 1))))) 20 (.val (.int .i64 y221))) 24 (.val (.int .i64 (IntKind.i64.wrap ((IntKind.i64.wrap ((IntKind.i64.wrap (Dn .u64 (IntKind.u64.wrap (IntKind.i64.wrap (a1+a3))) 1))+a2))-y221))))),Bo [some (.row 3 true (List.map Ak s))] [],8⟩) (fun s=>Fi a1 a2 a3 rec130 y221 s=some r) ?_ ?_
     ·rcases Aq h with ⟨c238,h⟩|⟨c238,h⟩
      ·refine Ao [0,1,2,3,4,18,20,24,185] ?_
       rcases Aq h with ⟨c239,h⟩|⟨c239,h⟩
       ·refine Aj rfl c239 ?_
        obtain ⟨x240,hx240,h⟩:=bO h
        obtain ⟨x241,hx241,h⟩:=bO h
        have lenhx240:x240.length=a0.length:=guardO_some.1 hx241
        refine Dq [0,1,3,4,18,20,24] fun K hK=>?_
        simp only [go_sem,seval,lenhx240]
        refine arC.ok (CallOk.ic (us':=_) (ok149_75 a0 y221 a2 (IntKind.i64.wrap ((IntKind.i64.wrap ((IntKind.i64.wrap (Dn .u64 (IntKind.u64.wrap (IntKind.i64.wrap (a1+a3))) 1))+a2))-y221)) x240 hx240) [0] rfl (by decide) (by simp) (by simp) (by simp) (by simp) (.cons (.eq (by simp only [go_sem]) (by first|rfl|simp [Ae,Ap,Cf])) (.nil _)) (by simp only [Dy,Ek,Gn,Cq,Gy,Ia,Ha,Jb,Gz,Hw,Cf,List.getD_cons_zero,List.getD_cons_succ];exact (.cons (.of (by first|rfl|simp [Cq,Cf,eq_false c42,eq_false c135,eq_true c238,eq_true c239])) (.cons (.of rfl) (.cons (.of rfl) (.cons (.of rfl) (.cons (.of rfl) .nil)))))) (by simp only [go_sem,List.length_cons,List.length_nil,Nat.reduceAdd,Nat.reduceLT,decide_true]) (by simp [AObj.isMut]) (by simp [go_sem]) (by simp [go_sem])) Tryz.call149 ?_
        simp only [go_sem,seval,lenhx240]
        subst hK
        refine Aa ?_
        refine ⟨_,h,?_⟩
        exact Ab [] RF.any.qo.qv.qv.qt.qv.qv.qv (.ce (.nil _)) (.nil _)
       ·refine Ai rfl c239<|AW.skip<|Aa ?_
        refine ⟨_,h,?_⟩
        exact Ab [] RF.any.qo.qv.qv.qt.qv.qv.qv (.ce (.nil _)) (.nil _)
      ·refine Ao [0,1,2,3,4,18,20,24,185] ?_
       refine Bl rfl rfl<|AW.skip<|Aa ?_
       refine ⟨_,h,?_⟩
       exact Ab [] RF.any.qo.qv.qv.qt.qv.qv.qv (.ce (.nil _)) (.nil _)
     ·clear h
      rintro j2_0 h
      rw [Fi] at h
      refine AW.join (fun s=>⟨(Ag (Ag (Ag (Ag (Ag Az 0 (.own 0 0 s.length)) 3 (.val (.int .i64 a3))) 4 (.clo (.func 75) [] [])) 18 (.val (.int .i64 (IntKind.i64.wrap (Dn .u64 (IntKind.u64.wrap (IntKind.i64.wrap (a1+a3))) 1))))) 24 (.val (.int .i64 (IntKind.i64.wrap ((IntKind.i64.wrap ((IntKind.i64.wrap (Dn .u64 (IntKind.u64.wrap (IntKind.i64.wrap (a1+a3))) 1))+a2))-y221))))),Bo [some (.row 3 true (List.map Ak s))] [],8⟩) (fun s=>Il a1 a2 a3 rec130 y221 s=some r) ?_ ?_
      ·rcases Aq h with ⟨c234,h⟩|⟨c234,h⟩
       ·refine Ao [0,1,3,4,18,20,24,199] ?_
        rcases Aq h with ⟨c235,h⟩|⟨c235,h⟩
        ·refine Aj rfl c235 ?_
         obtain ⟨x236,hx236,h⟩:=bO h
         obtain ⟨x237,hx237,h⟩:=bO h
         have lenhx236:x236.length=j2_0.length:=guardO_some.1 hx237
         refine Dq [0,3,4,18,24] fun K hK=>?_
         simp only [go_sem,seval,lenhx236]
         refine arC.ok (Br (us':=_) (hrec130 j2_0 a1 y221 (IntKind.i64.wrap (Dn .u64 (IntKind.u64.wrap (IntKind.i64.wrap (a1+a3))) 1)) x236 hx236) [0] (.cons (.eq (by simp only [go_sem]) (by first|rfl|simp [Ae,Ap,Cf])) (.nil _)) (.cons (.of (by first|rfl|simp [Cq,Cf,eq_false c42,eq_false c135,eq_true c234,eq_true c235])) (.cons (.of rfl) (.cons (.of rfl) (.cons (.of rfl) (.cons (.of rfl) .nil)))))) Tryz.call130 ?_
         simp only [go_sem,seval,lenhx236]
         subst hK
         refine Aa ?_
         refine ⟨_,h,?_⟩
         exact Ab [] RF.any.qo.qv.qt.qv.qv (.ce (.nil _)) (.nil _)
        ·refine Ai rfl c235<|AW.skip<|Aa ?_
         refine ⟨_,h,?_⟩
         exact Ab [] RF.any.qo.qv.qt.qv.qv (.ce (.nil _)) (.nil _)
       ·refine Ao [0,1,3,4,18,20,24,199] ?_
        refine Bl rfl rfl<|AW.skip<|Aa ?_
        refine ⟨_,h,?_⟩
        exact Ab [] RF.any.qo.qv.qt.qv.qv (.ce (.nil _)) (.nil _)
      ·clear h
       rintro j3_0 h
       rw [Il] at h
       rcases Aq h with ⟨c230,h⟩|⟨c230,h⟩
       ·refine Ao [0,3,4,18,24,213] ?_
        rcases Aq h with ⟨c231,h⟩|⟨c231,h⟩
        ·refine Aj rfl c231 ?_
         obtain ⟨x232,hx232,h⟩:=bO h
         obtain ⟨x233,hx233,h⟩:=bO h
         have lenhx232:x232.length=j3_0.length:=guardO_some.1 hx233
         refine Dq [] fun K hK=>?_
         simp only [go_sem,seval,lenhx232]
         refine arC.ok (CallOk.ic (us':=_) (hrec130 j3_0 (IntKind.i64.wrap (Dn .u64 (IntKind.u64.wrap (IntKind.i64.wrap (a1+a3))) 1)) (IntKind.i64.wrap ((IntKind.i64.wrap ((IntKind.i64.wrap (Dn .u64 (IntKind.u64.wrap (IntKind.i64.wrap (a1+a3))) 1))+a2))-y221)) a3 x232 hx232) [0] rfl (by decide) (by simp) (by simp) (by simp) (by simp) (.cons (.eq (by simp only [go_sem]) (by first|rfl|simp [Ae,Ap,Cf])) (.nil _)) (by simp only [Dy,Ek,Gn,Cq,Gy,Ia,Ha,Jb,Gz,Hw,Cf,List.getD_cons_zero,List.getD_cons_succ];exact (.cons (.of (by first|rfl|simp [Cq,Cf,eq_false c42,eq_false c135,eq_true c230,eq_true c231])) (.cons (.of rfl) (.cons (.of rfl) (.cons (.of rfl) (.cons (.of rfl) .nil)))))) (by simp only [go_sem,List.length_cons,List.length_nil,Nat.reduceAdd,Nat.reduceLT,decide_true]) (by simp [AObj.isMut]) (by simp [go_sem]) (by simp [go_sem])) Tryz.call130 ?_
         simp only [go_sem,seval,lenhx232]
         subst hK
         refine ⟨⟨Az,Bo [some (.row 3 true (List.map Ak x232))] [],8⟩,?_,?_⟩
         · refine Bu [] _ _ _ rfl (by first|decide|simp) rfl ?_ ?_ ?_
           · exact RF.any
           · exact .ce (.nil _)
           · exact .nil _
         obtain rfl:=oi h
         exact ⟨rfl,rfl,_,rfl,by first|rfl|simp [Cu,Ae,Ar]⟩
        ·refine Ai rfl c231<|AW.skip ?_
         refine ⟨⟨Az,Bo [some (.row 3 true (List.map Ak j3_0))] [],8⟩,?_,?_⟩
         · refine Bu [] _ _ _ rfl (by first|decide|simp) rfl ?_ ?_ ?_
           · exact RF.any
           · exact .ce (.nil _)
           · exact .nil _
         obtain rfl:=oi h
         exact ⟨rfl,rfl,_,rfl,by first|rfl|simp [Cu,Ae,Ar]⟩
       ·refine Ao [0,3,4,18,24,213] ?_
        refine Bl rfl rfl<|AW.skip ?_
        refine ⟨⟨Az,Bo [some (.row 3 true (List.map Ak j3_0))] [],8⟩,?_,?_⟩
        · refine Bu [] _ _ _ rfl (by first|decide|simp) rfl ?_ ?_ ?_
          · exact RF.any
          · exact .ce (.nil _)
          · exact .nil _
        obtain rfl:=oi h
        exact ⟨rfl,rfl,_,rfl,by first|rfl|simp [Cu,Ae,Ar]⟩
def Oo:Nat→(List Res)→Int→Int→Int→Option (List Res)
  | 0=>fun _ _ _ _=>none
  | n+1=>fun a0 a1 a2 a3=>Jg (Oo n) a0 a1 a2 a3
theorem ok130_75:∀(n:Nat) (a0:List Res) (a1:Int) (a2:Int) (a3:Int) (r:(List Res)),Oo n a0 a1 a2 a3=some r→IC Tryz.prog 130 [some (.row 3 true (List.map Ak a0))] [.own 0 0 a0.length,.val (.int .i64 a1),.val (.int .i64 a2),.val (.int .i64 a3),.clo (.func 75) [] []] (.tup []) [some (.row 3 true (List.map Ak r))] []
  | 0,a0,a1,a2,a3,r,h=>by cases h
  | n+1,a0,a1,a2,a3,r,h=>ok130_75b (Oo n) (ok130_75 n) a0 a1 a2 a3 r h
def Jv (a1:Int):(List Res)×Int×Int→Option (((List Res)×Int×Int)⊕(Int×(List Res)))
  | (s2_0,s2_1,s2_2)=>(if s2_2≤a1 then ((Oq s2_0 s2_1 s2_2).bind fun x22=>((Dt (x22.length=s2_0.length)).bind fun x23=>some (.inl (x22,s2_2,IntKind.i64.wrap (s2_2+20))))) else some (.inr (s2_1,s2_0)))
def Ju (a1:Int) (s3_1:Int):(List Res)×Int×Int→Option (((List Res)×Int×Int)⊕(Int×(List Res)))
  | (s9_0,s9_1,s9_2)=>(if s9_2≤a1 then ((Oo Qh s9_0 s9_1 (IntKind.i64.wrap (s9_1+s3_1)) s9_2).bind fun x106=>((Dt (x106.length=s9_0.length)).bind fun x107=>some (.inl (x106,s9_2,IntKind.i64.wrap (s9_2+(IntKind.i64.wrap (2*s3_1))))))) else some (.inr (s9_1,s9_0)))
def Ip (a1:Int):(List Res)×Int→Option (((List Res)×Int)⊕(List Res))
  | (s3_0,s3_1)=>(if s3_1<a1 then ((loopO (Ju a1 s3_1) (s3_0,0,IntKind.i64.wrap (2*s3_1))).bind fun y108=>match y108 with|(y109,y110)=>(if (IntKind.i64.wrap (y109+s3_1))<a1 then ((Oo Qh y110 y109 (IntKind.i64.wrap (y109+s3_1)) a1).bind fun x112=>((Dt (x112.length=y110.length)).bind fun x113=>some (.inl (x112,IntKind.i64.wrap (s3_1*2))))) else some (.inl (y110,IntKind.i64.wrap (s3_1*2))))) else some (.inr s3_0))
def Ym (a0:List Res) (a1:Int):Option (List Res):=((loopO (Jv a1) (a0,0,20)).bind fun y24=>match y24 with|(y25,y26)=>((Oq y26 y25 a1).bind fun x27=>((Dt (x27.length=y26.length)).bind fun x28=>((loopO (Ip a1) (x27,20)).bind fun y115=>some y115))))
theorem ok105_75 (a0:List Res) (a1:Int) (r:(List Res)) (h:Ym a0 a1=some r):IC Tryz.prog 105 [some (.row 3 true (List.map Ak a0))] [.own 0 0 a0.length,.val (.int .i64 a1),.clo (.func 75) [] []] (.tup []) [some (.row 3 true (List.map Ak r))] []:=by
 rw [Ym] at h
 refine Oe (N:=63) (rs:=[]) Tryz.func105 rfl rfl rfl (Nat.le_of_ble_eq_true rfl)<|Ac [0,1,2,6] ?_
 refine Ac [0,1,2,6,7,8] ?_
 refine AW.seq<|AW.block ?_
 obtain ⟨y24,hy24,h⟩:=bO h
 refine AW.loopO (fun s=>⟨(Ag (Ag (Ag (Ag (Ag (Ag Az 0 (.own 0 0 s.1.length)) 1 (.val (.int .i64 a1))) 2 (.clo (.func 75) [] [])) 6 (.val (.int .i64 20))) 7 (.val (.int .i64 s.2.1))) 8 (.val (.int .i64 s.2.2))),Bo [some (.row 3 true (List.map Ak s.1))] [],8⟩) (fun z e st'=>e=Exit.exit 0∧st'=⟨(Ag (Ag (Ag (Ag (Ag Az 0 (.own 0 0 z.2.length)) 1 (.val (.int .i64 a1))) 2 (.clo (.func 75) [] [])) 6 (.val (.int .i64 20))) 7 (.val (.int .i64 z.1))),Bo [some (.row 3 true (List.map Ak z.2))] [],8⟩) hy24 ?_ ?_ ?_
 ·exact Ab [] RF.any.qo.qv.qt.qv.qv.qv (.ce (.nil _)) (.nil _)
 ·clear h hy24
  rintro ⟨s2_0,s2_1,s2_2⟩ x h
  rw [Jv] at h
  refine AW.seq<|Ac [0,1,2,6,7,8,13] ?_
  rcases Aq h with ⟨c21,h⟩|⟨c21,h⟩
  ·refine Aj rfl c21<|AW.skip<|Aa<|AW.block ?_
   obtain ⟨x22,hx22,h⟩:=bO h
   obtain ⟨x23,hx23,h⟩:=bO h
   have lenhx22:x22.length=s2_0.length:=guardO_some.1 hx23
   refine Cb [0,1,2,6,8] fun K hK=>?_
   simp only [go_sem,seval,lenhx22]
   refine arC.ok (Br (us':=_) (ok129_75 s2_0 s2_1 s2_2 x22 hx22) [0] (.cons (.eq (by simp only [go_sem]) (by first|rfl|simp [Ae,Ap,Cf])) (.nil _)) (.cons (.of (by first|rfl|simp [Cq,Cf,eq_true c21])) (.cons (.of rfl) (.cons (.of rfl) (.cons (.of rfl) .nil))))) Tryz.call129 ?_
   simp only [go_sem,seval,lenhx22]
   subst hK
   refine Ao [0,1,2,6,7,8] ?_
   refine Bz [0,1,2,6,7,8] ?_
   refine Ax<|Aa ?_
   refine ⟨_,oj h,?_⟩
   exact Ab [] RF.any.qo.qv.qt.qv.qv.qv (.ce (.nil _)) (.nil _)
  ·refine Ai rfl c21<|AW.exit<|Af<|Af ?_
   refine ⟨_,oj h,_,?_,rfl,rfl⟩
   exact Ab [] RF.any.qo.qv.qt.qv.qv (.ce (.nil _)) (.nil _)
 ·intro e st' hX
  obtain ⟨y25,y26⟩:=y24
  try dsimp only at h
  try dsimp only at hX
  obtain ⟨rfl,rfl⟩:=hX
  refine ⟨_,Ent.refl,?_⟩
  refine Bc<|Aa ?_
  obtain ⟨x27,hx27,h⟩:=bO h
  obtain ⟨x28,hx28,h⟩:=bO h
  have lenhx27:x27.length=y26.length:=guardO_some.1 hx28
  refine Cb [0,1,2,6] fun K hK=>?_
  simp only [go_sem,seval,lenhx27]
  refine arC.ok (Br (us':=_) (ok129_75 y26 y25 a1 x27 hx27) [0] (.cons (.eq (by simp only [go_sem]) (by first|rfl|simp [Ae,Ap,Cf])) (.nil _)) (.cons (.of (by first|rfl|simp [Cq,Cf])) (.cons (.of rfl) (.cons (.of rfl) (.cons (.of rfl) .nil))))) Tryz.call129 ?_
  simp only [go_sem,seval,lenhx27]
  subst hK
  refine AW.block ?_
  obtain ⟨y115,hy115,h⟩:=bO h
  refine AW.loopO (fun s=>⟨(Ag (Ag (Ag (Ag Az 0 (.own 0 0 s.1.length)) 1 (.val (.int .i64 a1))) 2 (.clo (.func 75) [] [])) 6 (.val (.int .i64 s.2))),Bo [some (.row 3 true (List.map Ak s.1))] [],8⟩) (fun z e st'=>e=Exit.exit 2∧st'=⟨Az,Bo [some (.row 3 true (List.map Ak z))] [],8⟩) hy115 ?_ ?_ ?_
  ·exact Ab [] RF.any.qo.qv.qt.qv (.ce (.nil _)) (.nil _)
  ·clear h hy115
   rintro ⟨s3_0,s3_1⟩ x h
   rw [Ip] at h
   refine AW.seq<|Ao [0,1,2,6,30] ?_
   rcases Aq h with ⟨c84,h⟩|⟨c84,h⟩
   ·refine Aj rfl c84<|AW.skip<|Aa<|AW.block<|Ao [0,1,2,6,7,8] ?_
    refine AW.seq<|AW.block ?_
    obtain ⟨y108,hy108,h⟩:=bO h
    refine AW.loopO (fun s=>⟨(Ag (Ag (Ag (Ag (Ag (Ag Az 0 (.own 0 0 s.1.length)) 1 (.val (.int .i64 a1))) 2 (.clo (.func 75) [] [])) 6 (.val (.int .i64 s3_1))) 7 (.val (.int .i64 s.2.1))) 8 (.val (.int .i64 s.2.2))),Bo [some (.row 3 true (List.map Ak s.1))] [],8⟩) (fun z e st'=>e=Exit.exit 4∧st'=⟨(Ag (Ag (Ag (Ag (Ag Az 0 (.own 0 0 z.2.length)) 1 (.val (.int .i64 a1))) 2 (.clo (.func 75) [] [])) 6 (.val (.int .i64 s3_1))) 7 (.val (.int .i64 z.1))),Bo [some (.row 3 true (List.map Ak z.2))] [],8⟩) hy108 ?_ ?_ ?_
    ·exact Ab [] RF.any.qo.qv.qt.qv.qv.qv (.ce (.nil _)) (.nil _)
    ·clear h hy108
     rintro ⟨s9_0,s9_1,s9_2⟩ x h
     rw [Ju] at h
     refine AW.seq<|Ao [0,1,2,6,7,8,35] ?_
     rcases Aq h with ⟨c105,h⟩|⟨c105,h⟩
     ·refine Aj rfl c105<|AW.skip<|Aa<|AW.block ?_
      obtain ⟨x106,hx106,h⟩:=bO h
      obtain ⟨x107,hx107,h⟩:=bO h
      have lenhx106:x106.length=s9_0.length:=guardO_some.1 hx107
      refine Cb [0,1,2,6,8] fun K hK=>?_
      simp only [go_sem,seval,lenhx27,eq_true c84,eq_true c105,lenhx106]
      refine arC.ok (Br (us':=_) (ok130_75 Qh s9_0 s9_1 (IntKind.i64.wrap (s9_1+s3_1)) s9_2 x106 hx106) [0] (.cons (.eq (by simp only [go_sem]) (by first|rfl|simp [Ae,Ap,Cf])) (.nil _)) (.cons (.of (by first|rfl|simp [Cq,Cf,lenhx27,eq_true c84,eq_true c105])) (.cons (.of rfl) (.cons (.of rfl) (.cons (.of rfl) (.cons (.of rfl) .nil)))))) Tryz.call130 ?_
      simp only [go_sem,seval,lenhx27,eq_true c84,eq_true c105,lenhx106]
      subst hK
      refine Ao [0,1,2,6,7,8] ?_
      refine Bz [0,1,2,6,7,8] ?_
      refine Ax<|Aa ?_
      refine ⟨_,oj h,?_⟩
      exact Ab [] RF.any.qo.qv.qt.qv.qv.qv (.ce (.nil _)) (.nil _)
     ·refine Ai rfl c105<|AW.exit<|Af<|Af ?_
      refine ⟨_,oj h,_,?_,rfl,rfl⟩
      exact Ab [] RF.any.qo.qv.qt.qv.qv (.ce (.nil _)) (.nil _)
    ·intro e st' hX
     obtain ⟨y109,y110⟩:=y108
     try dsimp only at h
     try dsimp only at hX
     obtain ⟨rfl,rfl⟩:=hX
     refine ⟨_,Ent.refl,?_⟩
     refine Bc<|Aa<|AW.seq<|Ao [0,1,2,6,7,9] ?_
     refine Ao [0,1,2,6,7,9,54] ?_
     rcases Aq h with ⟨c111,h⟩|⟨c111,h⟩
     ·refine Aj rfl c111 ?_
      obtain ⟨x112,hx112,h⟩:=bO h
      obtain ⟨x113,hx113,h⟩:=bO h
      have lenhx112:x112.length=y110.length:=guardO_some.1 hx113
      refine Dq [0,1,2,6] fun K hK=>?_
      simp only [go_sem,seval,lenhx27,eq_true c84,eq_true c111,lenhx112]
      refine arC.ok (Br (us':=_) (ok130_75 Qh y110 y109 (IntKind.i64.wrap (y109+s3_1)) a1 x112 hx112) [0] (.cons (.eq (by simp only [go_sem]) (by first|rfl|simp [Ae,Ap,Cf])) (.nil _)) (.cons (.of (by first|rfl|simp [Cq,Cf,lenhx27,eq_true c84,eq_true c111])) (.cons (.of rfl) (.cons (.of rfl) (.cons (.of rfl) (.cons (.of rfl) .nil)))))) Tryz.call130 ?_
      simp only [go_sem,seval,lenhx27,eq_true c84,eq_true c111,lenhx112]
      subst hK
      refine Aa<|Bz [0,1,2,6] ?_
      refine Ax<|Aa ?_
      refine ⟨_,oj h,?_⟩
      exact Ab [] RF.any.qo.qv.qt.qv (.ce (.nil _)) (.nil _)
     ·refine Ai rfl c111<|AW.skip<|Aa<|Bz [0,1,2,6] ?_
      refine Ax<|Aa ?_
      refine ⟨_,oj h,?_⟩
      exact Ab [] RF.any.qo.qv.qt.qv (.ce (.nil _)) (.nil _)
   ·refine Ai rfl c84<|AW.exit<|Af<|Af ?_
    refine ⟨_,oj h,_,?_,rfl,rfl⟩
    exact Ab [] RF.any (.ce (.nil _)) (.nil _)
  ·intro e st' hX
   try dsimp only at h
   try dsimp only at hX
   obtain ⟨rfl,rfl⟩:=hX
   refine ⟨_,Ent.refl,?_⟩
   refine Bc ?_
   refine ⟨⟨Az,Bo [some (.row 3 true (List.map Ak y115))] [],8⟩,?_,?_⟩
   · refine Bu [] _ _ _ rfl (by first|decide|simp) rfl ?_ ?_ ?_
     · exact RF.any
     · exact .ce (.nil _)
     · exact .nil _
   obtain rfl:=oi h
   exact ⟨rfl,rfl,_,rfl,by first|rfl|simp [Cu,Ae,Ar]⟩
def f74_75 (a0:List Res):Option (List Res):=((Ym a0 ((a0.length:Nat):Int)).bind fun x1=>((Dt (x1.length=a0.length)).bind fun x2=>some x1))
theorem ok74_75 (a0:List Res) (r:(List Res)) (h:f74_75 a0=some r):IC Tryz.prog 74 [some (.row 3 true (List.map Ak a0))] [.own 0 0 a0.length,.clo (.func 75) [] []] (.tup []) [some (.row 3 true (List.map Ak r))] []:=by
 rw [f74_75] at h
 refine Oe (N:=9) (rs:=[]) Tryz.func74 rfl rfl rfl (Nat.le_of_ble_eq_true rfl) ?_
 obtain ⟨x1,hx1,h⟩:=bO h
 obtain ⟨x2,hx2,h⟩:=bO h
 have lenhx1:x1.length=a0.length:=guardO_some.1 hx2
 refine Dq [] fun K hK=>?_
 simp only [go_sem,seval,lenhx1]
 refine arC.ok (Br (us':=_) (ok105_75 a0 ((a0.length:Nat):Int) x1 hx1) [0] (.cons (.eq (by simp only [go_sem]) (by first|rfl|simp [Ae,Ap,Cf])) (.nil _)) (.cons (.of (by first|rfl|simp [Cq,Cf])) (.cons (.of rfl) (.cons (.of rfl) .nil)))) Tryz.call105 ?_
 simp only [go_sem,seval,lenhx1]
 subst hK
 refine ⟨⟨Az,Bo [some (.row 3 true (List.map Ak x1))] [],8⟩,?_,?_⟩
 · refine Bu [] _ _ _ rfl (by first|decide|simp) rfl ?_ ?_ ?_
   · exact RF.any
   · exact .ce (.nil _)
   · exact .nil _
 obtain rfl:=oi h
 exact ⟨rfl,rfl,_,rfl,by first|rfl|simp [Cu,Ae,Ar]⟩
end Au
end Go.Proofs.Yt
namespace Go.Gm
open Go.Sort Go.Proofs Go.RowKit Go.Maps
theorem pc_read {P:Program} {f:FuncId} {u:AV} {us:List Value} {v:Value}
    (h:∀(m:Nat→Prop) (w:World) (x:Value),TabH P (fun _=>False) w→Rel (E0 m w) u x→Calls P f (x::us).toArray w fun e w'=>e=.returned v∧w.heap.size≤w'.heap.size∧(∀b,b<w.heap.size→w'.heap[b]?=w.heap[b]?)∧w'.os=w.os∧w'.tape=w.tape∧w'.output=w.output)
    (hs:Cl (fun _=>none) (.val v)=some (.val v,[])):PC P f (u::us.map .val) (.val v):=by
  intro m w vs hm ht hus
  cases hus with
  | cons hu hus =>
  rename_i x vs
  have e:=Gb hus
  subst e
  refine (h m w x ht hu).mono ?_
  rintro e w' ⟨rfl,k1,k2,k3,k4,k5⟩
  refine ⟨_,fun _=>none,fun _=>False,fun _=>none,.val v,[],rfl,?_,.val _,hs,List.nodup_nil⟩
  constructor
  · intro t o h;cases h
  · intro t _;rfl
  · intro t l h;cases h
  · intro t t' l l' h;cases h
  · exact k3
  · exact k4
  · exact k5
  · exact k1
  · intro b hb _;exact k2 b hb
  · rintro b ⟨t,o,l,h,_⟩;cases h
  · intro t l h;cases h
  · intro t h;exact absurd h (Nat.not_lt_zero t)
  · intro t l h;exact absurd h (Nat.not_lt_zero t)
def joinS (l:List ByteArray) (sep:ByteArray):ByteArray:=⟨(Lib.join (l.map (·.data.toList)) sep.data.toList).toArray⟩
def itoaS (n:Int):ByteArray:=⟨(Lib.itoa n).toArray⟩
end Go.Gm
namespace Go.Gm
open Go.Sort Go.Proofs Go.RowKit Go.Maps
def splitS (s t:ByteArray):List ByteArray:=Lib.splitB t 0 (Lib.countB s t) s
end Go.Gm
namespace Go.Gm
open Go.Lib
theorem Bf {n:Int} (h0 : -9223372036854775808≤n) (h1:n<9223372036854775808):IntKind.i64.wrap n=n:=by
  simp only [IntKind.wrap,IntKind.bits,IntKind.signed,Bool.true_and]
  split
  · rename_i h;simp only [ge_iff_le,decide_eq_true_eq] at h;omega
  · rename_i h;simp only [ge_iff_le,decide_eq_true_eq] at h;omega
theorem Eg (n:Int):IntKind.u64.wrap n=n % 18446744073709551616:=by
  simp [IntKind.wrap,IntKind.bits,IntKind.signed]
theorem Ct {α:Type} {l r:List α} (h:l.length≤10000000000) (h1:r.length≤10000000000):Bq l r=some (l++r):=appO?_some.2 ⟨by omega,rfl⟩
theorem Ch {i:Nat} (h:i≤10000000000):IntKind.i64.wrap ((i:Int)+1)=((i+1:Nat):Int):=by rw [Bf (by omega) (by omega)];omega
theorem Ep {α:Type} {l:List α} {i:Nat} (h:i<l.length):ix l (i:Int)=some l[i]:=ix_some.2 ⟨by omega,by simp [List.getElem?_eq_getElem h]⟩
theorem Iz (a:ByteArray):a.size=(bl a).length:=by cases a;rfl
theorem loopN {τ ρ:Type} {step:τ→Option (τ⊕ρ)} (st:Nat→τ):∀(n:Nat),(∀i,i<n→step (st i)=some (.inl (st (i+1))))→loopO step (st 0)=loopO step (st n)
  | 0,_=>rfl
  | n+1,h=>(loopN st n (fun i hi=>h i (by omega))).trans (Bj (h n (by omega)))
theorem Da {τ ρ:Type} {step:τ→Option (τ⊕ρ)} (st:Nat→τ) (n:Nat) {r:ρ} (h:∀i,i<n→step (st i)=some (.inl (st (i+1)))) (hd:step (st n)=some (.inr r)):loopO step (st 0)=some r:=(loopN st n h).trans (Al hd)
def dig (d:Nat):UInt8:=UInt8.ofNat (48+d)
theorem cmp0:∀(a b:List UInt8),Lib.compareBytes a b=0↔a=b
  | [],[]=>by simp [Lib.compareBytes]
  | [],_::_=>by simp [Lib.compareBytes]
  | _::_,[]=>by simp [Lib.compareBytes]
  | a::al,b::bs=>by
    simp only [Lib.compareBytes,List.cons.injEq]
    split
    · rename_i h;simp only [reduceCtorEq,false_iff];rintro ⟨rfl,_⟩;rw [UInt8.lt_iff_toNat_lt] at h;omega
    · split
      · rename_i h;constructor
        · intro q;cases q
        · rintro ⟨rfl,_⟩;rw [UInt8.lt_iff_toNat_lt] at h;omega
      · rename_i h1 h2
        rw [cmp0 al bs]
        have:a=b:=by
          rw [←UInt8.toNat_inj];rw [UInt8.lt_iff_toNat_lt] at h1 h2;omega
        simp [this]
theorem cmp_lt:∀(a b:List UInt8),(a<b→Lib.compareBytes a b = -1)∧(Lib.compareBytes a b = -1∨Lib.compareBytes a b=0∨Lib.compareBytes a b=1)∧(Lib.compareBytes a b = -1→a<b)
  | [],[]=>by simp [Lib.compareBytes]
  | [],_::_=>by simp [Lib.compareBytes]
  | _::_,[]=>by simp [Lib.compareBytes]
  | a::al,b::bs=>by
    obtain ⟨h1,h2,h3⟩:=cmp_lt al bs
    simp only [Lib.compareBytes,List.cons_lt_cons_iff]
    by_cases h:a<b
    · simp [h]
    · by_cases h':b<a
      · have:a≠b:=by rintro rfl;exact h h'
        simp [h,h',this]
      · have:a=b:=by
          rw [←UInt8.toNat_inj];rw [UInt8.lt_iff_toNat_lt] at h h';omega
        subst this
        simp only [h,if_false,false_or,true_and]
        exact ⟨h1,h2,h3⟩
theorem cmpS_eq (a b:ByteArray):cmpS a b=if Pv a b=true then -1 else if a=b then 0 else 1:=by
  obtain ⟨h1,h2,h3⟩:=cmp_lt (bl a) (bl b)
  have e:cmpS a b=Lib.compareBytes (bl a) (bl b):=rfl
  rw [e]
  by_cases h:Pv a b=true
  · rw [if_pos h];exact h1 (sLt_iff.1 h)
  · rw [if_neg h]
    by_cases hab:a=b
    · rw [if_pos hab];exact (cmp0 _ _).2 (by rw [hab])
    · rw [if_neg hab]
      have n1:Lib.compareBytes (bl a) (bl b) ≠ -1:=fun q=>h (sLt_iff.2 (h3 q))
      have n2:Lib.compareBytes (bl a) (bl b)≠0:=fun q=>hab (bl_inj.1 ((cmp0 _ _).1 q))
      omega
end Go.Gm
namespace Go.Gm
structure SWO {α:Type} (lt:α→α→Bool):Prop where
  asym:∀{x y},lt x y=true→lt y x=false
  cotr:∀{x z} (y),lt x z=true→lt x y=true∨lt y z=true
section
variable {α:Type} {lt:α→α→Bool}
def Srt (lt:α→α→Bool) (l:List α):Prop:=l.Pairwise fun x y=>lt y x=false
def eqv (lt:α→α→Bool) (k x:α):Bool := !lt k x && !lt x k
def SF (lt:α→α→Bool) (l m:List α):Prop:=∀k,l.filter (eqv lt k)=m.filter (eqv lt k)
theorem SWO.irr (h:SWO lt) (x:α):lt x x=false:=by
  cases hx:lt x x with
  | false=>rfl
  | true=>rw [h.asym hx] at hx;cases hx
theorem SWO.le_trans (h:SWO lt) {x y z:α} (h1:lt y x=false) (h2:lt z y=false):lt z x=false:=by
  cases hz:lt z x with
  | false=>rfl
  | true => rcases h.cotr y hz with k | k
            · rw [h2] at k;cases k
            · rw [h1] at k;cases k
theorem SWO.lt_le (h:SWO lt) {x y z:α} (h1:lt x y=true) (h2:lt z y=false):lt x z=true:=by
  rcases h.cotr z h1 with k|k
  · exact k
  · rw [h2] at k;cases k
theorem SWO.le_lt (h:SWO lt) {x y z:α} (h1:lt y x=false) (h2:lt y z=true):lt x z=true:=by
  rcases h.cotr x h2 with k|k
  · rw [h1] at k;cases k
  · exact k
theorem SWO.eqv_self (h:SWO lt) (x:α):eqv lt x x=true:=by simp [eqv,h.irr]
theorem SF.refl (l:List α):SF lt l l:=fun _=>rfl
theorem SF.symm {l m:List α} (h:SF lt l m):SF lt m l:=fun k=>(h k).symm
theorem SF.trans {l m n:List α} (h:SF lt l m) (h2:SF lt m n):SF lt l n:=fun k=>(h k).trans (h2 k)
theorem SF.append {l m l' m':List α} (h:SF lt l m) (h':SF lt l' m'):SF lt (l++l') (m++m'):=fun k=>by rw [List.filter_append,List.filter_append,h k,h' k]
theorem SF.mem (hw:SWO lt) {l m:List α} (h:SF lt l m) {x:α} (hx:x∈l):x∈m:=by
  have:x∈l.filter (eqv lt x):=List.mem_filter.2 ⟨hx,hw.eqv_self x⟩
  rw [h x] at this
  exact (List.mem_filter.1 this).1
theorem Uu (hw:SWO lt) {a b:List α} (h:∀x∈a,∀y∈b,lt y x=true):SF lt (a++b) (b++a):=fun k=>by
  rw [List.filter_append,List.filter_append]
  by_cases ha:a.filter (eqv lt k)=[]
  · rw [ha];simp
  · have hb:b.filter (eqv lt k)=[]:=by
      obtain ⟨x,hx⟩:=List.exists_mem_of_ne_nil _ ha
      obtain ⟨hx1,hx2⟩:=List.mem_filter.1 hx
      simp only [eqv,Bool.and_eq_true,Bool.not_eq_true'] at hx2
      apply List.filter_eq_nil_iff.2
      intro y hy
      have hyx:=h x hx1 y hy
      have:lt y k=true:=hw.lt_le hyx hx2.1
      simp [eqv,this]
    rw [hb];simp
theorem Srt.append {l m:List α} (h1:Srt lt l) (h2:Srt lt m) (h:∀x∈l,∀y∈m,lt y x=false):Srt lt (l++m):=List.pairwise_append.2 ⟨h1,h2,h⟩
theorem Srt.left {l m:List α} (h:Srt lt (l++m)):Srt lt l:=(List.pairwise_append.1 h).1
theorem Srt.right {l m:List α} (h:Srt lt (l++m)):Srt lt m:=(List.pairwise_append.1 h).2.1
theorem Srt.cross {l m:List α} (h:Srt lt (l++m)):∀x∈l,∀y∈m,lt y x=false:=(List.pairwise_append.1 h).2.2
theorem Srt.one (x:α):Srt lt [x]:=List.pairwise_singleton ..
theorem Srt.nil:Srt lt ([]:List α):=List.Pairwise.nil
theorem Srt.uniq (hw:SWO lt):∀{l m:List α},Srt lt l→Srt lt m→SF lt l m→l=m
  | [],[],_,_,_=>rfl
  | [],y::m,_,_,h=>absurd (h.symm.mem hw List.mem_cons_self) (List.not_mem_nil)
  | x::l,[],_,_,h=>absurd (h.mem hw List.mem_cons_self) (List.not_mem_nil)
  | x::l,y::m,h1,h2,h=>by
    have hx:x∈y::m:=h.mem hw List.mem_cons_self
    have hy:y∈x::l:=h.symm.mem hw List.mem_cons_self
    obtain ⟨p1,p2⟩:=List.pairwise_cons.1 h1
    obtain ⟨q1,q2⟩:=List.pairwise_cons.1 h2
    have yx:lt x y=false:=by
      rcases List.mem_cons.1 hx with e|e
      · rw [e];exact hw.irr y
      · exact q1 x e
    have xy:lt y x=false:=by
      rcases List.mem_cons.1 hy with e|e
      · rw [e];exact hw.irr x
      · exact p1 y e
    have hk:=h x
    have ex:eqv lt x x=true:=hw.eqv_self x
    have ey:eqv lt x y=true:=by simp [eqv,yx,xy]
    rw [List.filter_cons_of_pos ex,List.filter_cons_of_pos ey] at hk
    obtain ⟨rfl,_⟩:=List.cons.inj hk
    have:SF lt l m:=fun k=>by
      have:=h k
      by_cases hkx:eqv lt k x=true
      · rw [List.filter_cons_of_pos hkx,List.filter_cons_of_pos hkx] at this
        exact (List.cons.inj this).2
      · rw [List.filter_cons_of_neg hkx,List.filter_cons_of_neg hkx] at this
        exact this
    rw [Srt.uniq hw p2 q2 this]
structure Sorts (lt:α→α→Bool) (l r:List α):Prop where
  srt:Srt lt r
  sf:SF lt r l
  len:r.length=l.length
theorem Sorts.uniq (hw:SWO lt) {l r r':List α} (h:Sorts lt l r) (h':Sorts lt l r'):r=r':=Srt.uniq hw h.srt h'.srt (h.sf.trans h'.sf.symm)
end
section
variable {α:Type}
theorem Oy (P:List α) (x:α) (R:List α):(P++x::R)[P.length]?=some x:=by simp
theorem set_mid (P:List α) (x y:α) (R:List α):(P++x::R).set P.length y=P++y::R:=by simp
theorem Vj {P R:List α} {x:α} {i:Int} (h:i=(P.length:Int)):ix (P++x::R) i=some x:=by
  subst h
  exact ix_some.2 ⟨by omega,by simp⟩
theorem Th {P R:List α} {x y:α} {n:Nat} (h:n=P.length):(P++x::R).set n y=P++y::R:=by subst h;exact set_mid P x y R
theorem Hv {l:List α} {n:Nat} (h:n≤l.length):∃A B,l=A++B∧A.length=n:=⟨l.take n,l.drop n,(List.take_append_drop n l).symm,by rw [List.length_take];omega⟩
end
end Go.Gm
namespace Go.Proofs.Yt
open Go.Gm
namespace Au
def Fy (x y:Res):Bool:=Pv x.Key y.Key
theorem sLt_iff (a b:ByteArray):Pv a b=true↔bl a<bl b:=by
 have h:=(cmp_lt (bl a) (bl b))
 have e:=cmpS_eq a b
 constructor
 ·intro hs
  rw [if_pos hs] at e
  exact h.2.2 e
 ·intro hlt
  have e1:=h.1 hlt
  cases hs:Pv a b with
  | true=>rfl
  | false =>
   rw [hs] at e
   simp only [Bool.false_eq_true,if_false] at e
   have e2:cmpS a b = -1:=e1
   rw [e2] at e
   split at e<;>cases e
theorem sLt_asym {a b:ByteArray} (h:Pv a b=true):Pv b a=false:=by
 cases hb:Pv b a with
 | false=>rfl
 | true=>exact absurd ((sLt_iff a b).1 h) (List.lt_asymm ((sLt_iff b a).1 hb))
theorem sLt_cotr {a c:ByteArray} (b:ByteArray) (h:Pv a c=true):Pv a b=true∨Pv b c=true:=by
 rw [sLt_iff] at h
 rw [sLt_iff,sLt_iff]
 by_cases hab:bl a<bl b
 ·exact .inl hab
 ·exact .inr (List.lt_of_le_of_lt (List.not_lt.1 hab) h)
theorem swoI:SWO Fy:=⟨fun {x y} h=>sLt_asym h,fun {x z} y h=>sLt_cotr y.Key h⟩
theorem cmp_eq (x y:Res):∃c,f75 x y=some c∧(c<0↔Fy x y=true):=by
 unfold f75 f76 Fy
 refine ⟨_,rfl,?_⟩
 rw [cmpS_eq]
 by_cases h1:Pv x.Key y.Key=true
 ·rw [if_pos h1];simp [h1]
 ·rw [if_neg h1]
  split
  ·simp [h1]
  ·simp [h1]
theorem nb_ix0 (Q:List Res) (y x:Res) (R:List Res):ix (Q++y::x::R) (Q.length:Int)=some y:=Vj rfl
theorem nb_ix1 (Q:List Res) (y x:Res) (R:List Res):ix (Q++y::x::R) ((Q.length+1:Nat):Int)=some x:=by
 rw [show Q++y::x::R=(Q++[y])++x::R by simp]
 exact Vj (by simp)
theorem nb_set1 (Q:List Res) (y x z:Res) (R:List Res):(Q++y::x::R).set (Q.length+1) z=Q++y::z::R:=by
 rw [show Q++y::x::R=(Q++[y])++x::R by simp,Th (by simp)]
 simp
theorem nb_set0 (Q:List Res) (y x z:Res) (R:List Res):(Q++y::x::R).set Q.length z=Q++z::x::R:=Th rfl
theorem wrapS {n:Nat} (h:n≤10000000000):IntKind.i64.wrap (((n+1:Nat):Int)-1)=(n:Int):=by rw [Bf (by omega) (by omega)];omega
theorem ins_inner (P S:List Res) (x:Res):∀(n:Nat) (A B:List Res),A.length=n→P.length+n≤1000000→(∀b∈B,Fy x b=true)→Srt Fy (A++B) →
  ∃A' B',loopO (Hf (P.length:Int)) (P++A++x::(B++S),((P.length+A.length:Nat):Int))=some (P++(A'++x::B')++S)∧A++B=A'++B'∧Srt Fy (A'++x::B')∧(∀b∈B',Fy x b=true)
 | 0,A,B,hA,hl,hB,hs=>by
  obtain rfl:=List.eq_nil_of_length_eq_zero hA
  refine ⟨[],B,Al ?_,rfl,?_,hB⟩
  ·simp [Hf]
  ·exact List.pairwise_cons.2 ⟨fun b hb=>swoI.asym (hB b hb),hs⟩
 | n+1,A,B,hA,hl,hB,hs=>by
  obtain ⟨A1,y,rfl⟩:∃A1 y,A=A1++[y]:=by
   rcases List.eq_nil_or_concat A with h|⟨A1,y,h⟩
   ·rw [h] at hA;simp at hA
   ·exact ⟨A1,y,by rw [h];simp⟩
  have hA1:A1.length=n:=by simpa using hA
  have e1:P++(A1++[y])++x::(B++S)=(P++A1)++y::x::(B++S):=by simp
  have e2:((P.length+(A1++[y]).length:Nat):Int)=(((P++A1).length+1:Nat):Int):=by simp;omega
  have hlt:(P.length:Int)<(((P++A1).length+1:Nat):Int):=by simp;omega
  have hw:IntKind.i64.wrap ((((P++A1).length+1:Nat):Int)-1)=((P++A1).length:Int):=wrapS (by simp;omega)
  obtain ⟨c,hc,hc2⟩:=cmp_eq x y
  rw [e1,e2]
  by_cases hxy:Fy x y=true
  ·have hstep:Hf (P.length:Int) ((P++A1)++y::x::(B++S),(((P++A1).length+1:Nat):Int))=some (.inl ((P++A1)++x::y::(B++S),((P++A1).length:Int))):=by
    simp only [Hf,if_pos hlt,nb_ix1,hw,nb_ix0,Option.bind_some,hc,if_pos (hc2.2 hxy),Int.toNat_natCast,nb_set1,nb_set0]
   rw [Bj hstep]
   obtain ⟨A',B',h1,h2,h3,h4⟩:=ins_inner P S x n A1 (y::B) hA1 (by omega) (fun b hb=>by
    rcases List.mem_cons.1 hb with rfl|hb
    ·exact hxy
    ·exact hB b hb) (by simpa using hs)
   refine ⟨A',B',?_,by rw [←h2];simp,h3,h4⟩
   rw [←h1]
   congr 1
   simp
  ·have hxy':Fy x y=false:=by simpa using hxy
   have hstep:Hf (P.length:Int) ((P++A1)++y::x::(B++S),(((P++A1).length+1:Nat):Int))=some (.inr ((P++A1)++y::x::(B++S))):=by
    simp only [Hf,if_pos hlt,nb_ix1,hw,nb_ix0,Option.bind_some,hc,if_neg (fun h=>hxy (hc2.1 h))]
   refine ⟨A1++[y],B,(Al hstep).trans (by simp),rfl,?_,hB⟩
   refine Srt.append hs.left (List.pairwise_cons.2 ⟨fun b hb=>swoI.asym (hB b hb),hs.right⟩) fun a ha b hb=>?_
   have hay:Fy x a=false:=by
    rcases List.mem_append.1 ha with h|h
    ·exact swoI.le_trans (hs.left.cross a h y (by simp)) hxy'
    ·simp at h;subst h;exact hxy'
   rcases List.mem_cons.1 hb with rfl|hb
   ·exact hay
   ·exact hs.cross a ha b hb
theorem ins_outer (P S:List Res):∀(R Y:List Res),Srt Fy Y→P.length+Y.length+R.length≤100000 →
  ∃M,loopO (Im (P.length:Int) ((P.length+Y.length+R.length:Nat):Int)) (P++Y++(R++S),((P.length+Y.length:Nat):Int))=some (P++M++S)∧Sorts Fy (Y++R) M
 | [],Y,hs,hl=>by
  refine ⟨Y,Al ?_,hs,by rw [List.append_nil];exact SF.refl _,by simp⟩
  simp [Im]
 | x::R,Y,hs,hl=>by
  obtain ⟨A',B',h1,h2,h3,h4⟩:=ins_inner P (R++S) x Y.length Y [] rfl (by simp at hl;omega) (by simp) (by simpa using hs)
  rw [List.append_nil] at h2
  have e:(A'++x::B').length=Y.length+1:=by rw [h2];simp;omega
  obtain ⟨M,k1,k2⟩:=ins_outer P S R (A'++x::B') h3 (by simp at hl e ⊢;omega)
  refine ⟨M,?_,k2.srt,k2.sf.trans ?_,?_⟩
  ·have hw:IntKind.i64.wrap (((P.length+Y.length:Nat):Int)+1)=((P.length+(A'++x::B').length:Nat):Int):=by rw [Ch (by simp at hl;omega),e];congr 1
   have hstep:Im (P.length:Int) ((P.length+Y.length+(x::R).length:Nat):Int) (P++Y++(x::R++S),((P.length+Y.length:Nat):Int))=some (.inl (P++(A'++x::B')++(R++S),((P.length+(A'++x::B').length:Nat):Int))):=by
    rw [List.nil_append] at h1
    simp only [Im,if_pos (show ((P.length+Y.length:Nat):Int)<((P.length+Y.length+(x::R).length:Nat):Int) by simp;omega),List.cons_append,h1,Option.bind_some,hw]
   rw [Bj hstep,←k1]
   congr 2
   simp at e ⊢;omega
  ·have:SF Fy (A'++(x::B')) (A'++(B'++[x])):=SF.append (SF.refl _) (Uu swoI (a:=B') (b:=[x]) (fun p hp q hq=>by simp at hq;subst hq;exact h4 p hp)).symm
   rw [h2]
   have e3:A'++B'++x::R=(A'++(B'++[x]))++R:=by simp
   rw [e3]
   exact SF.append this (SF.refl _)
  ·rw [k2.len];simp at e ⊢;omega
theorem ins_eq (P X S:List Res) (hl:P.length+X.length≤100000) {a b:Int} (ha:a=(P.length:Int)) (hb:b=((P.length+X.length:Nat):Int)):∃M,Oq (P++X++S) a b=some (P++M++S)∧Sorts Fy X M:=by
 subst ha hb
 cases X with
 | nil =>
  refine ⟨[],?_,Srt.nil,SF.refl _,rfl⟩
  unfold Oq
  rw [Al (r:=P++[]++S) (by simp only [Im];rw [if_neg (by rw [Bf (by omega) (by omega)];simp;omega)])]
  rfl
 | cons x R =>
  obtain ⟨M,h1,h2⟩:=ins_outer P S R [x] (Srt.one x) (by simp at hl ⊢;omega)
  refine ⟨M,?_,by simpa using h2⟩
  unfold Oq
  have e:IntKind.i64.wrap ((P.length:Int)+1)=((P.length+[x].length:Nat):Int):=Ch (by simp at hl;omega)
  have e2:((P.length+(x::R).length:Nat):Int)=((P.length+[x].length+R.length:Nat):Int):=by simp;omega
  have e3:P++x::R++S=P++[x]++(R++S):=by simp
  rw [e,e2,e3,h1]
  rfl
end Au
end Go.Proofs.Yt
