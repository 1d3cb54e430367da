import Derived.Test.YtbdncmljibideaaGreatDoorGqUaf
import Derived.Shelf.SlIterI.Collect
import Derived.Ground.GgzProg
import Derived.RangeFuncLeaves
import Derived.WalkKit
import Derived.OwnWalkIn
import Derived.TacticsInMore
import Derived.LoopNIn
import Derived.LoopIn
import Derived.Test.YtbdncmljibideaaGreatDoorProg
import Derived.Shelf.SlIterI.Sorted
import Derived.KernelRfl
import Derived.Test.YtbdncmljibideaaGreatDoorGqUae
import Derived.Shelf.SlIter.Nil
import Derived.Test.YtbdncmljibideaaGreatDoorGqUai
import Derived.Test.YtbdncmljibideaaGreatDoorGqUah
set_option linter.all false
noncomputable section
namespace Go.Proofs
open Go.RowKit Go.Shelf Go.Maps Go.Sort
attribute [local go_sem] Oper.semAt_some
def Vi.upto {α:Type} (f:Nat→α) (k:Nat):List α:=(List.range k).map f
theorem Vi.upto_succ {α:Type} (f:Nat→α) (k:Nat):Vi.upto f (k+1)=Vi.upto f k++[f k]:=by simp [Vi.upto,List.range_succ]
theorem Vi.upto_length {α:Type} (f:Nat→α) (k:Nat):(Vi.upto f k).length=k:=by simp [Vi.upto]
theorem Vi.upto_all (zs:List Int):Vi.upto (fun j=>zs[j]?.getD 0) zs.length=zs:=by
  apply List.ext_getElem
  · simp [Vi.upto]
  · intro i h1 h2
    simp [Vi.upto,h2]
set_option maxRecDepth 100000 in
set_option maxHeartbeats 2000000 in
theorem Vi.values1_in (F:Fence) (n:Nat) (h7:F.fn 115) (hro:F.round=none) (hn:1≤n) (l Bs o n₀ b off len Cc:Nat) (zs:List Int) (hreach:len*8≤140737488351232) (hb:b<n₀) (hB:Bs<n₀) (J:List Int→World→Prop)
    (hY:∀pre x W,J pre W→pre.length<len→YieldAt F (n-1) Tryz.prog l #[.int .i64 x] W fun e W' =>
      e=.returned (.bool true)∧J (pre++[x]) W'∧Below n₀ W W')
    (W:World) (hBs:W.cell? ⟨Bs,o,none⟩=some (.slice (some ⟨b,off,none⟩) len Cc)) (hc:∀j,j<len→W.cell? ⟨b,off+j,none⟩=some (.int .i64 (zs[j]?.getD 0))) (h0:J [] W) :
    CallsIn F n Tryz.prog 115 #[.func (.yield l) #[] #[],.pointer (some ⟨Bs,o,none⟩)] W fun e W'=>(∃v,e=.returned v) ∧
      ∃ys,ys=Vi.upto (fun j=>zs[j]?.getD 0) len∧J ys W':=by
  refine callsIn_of_wp Tryz.func115 rfl h7 ?_ hro
  simp only [Tryz.ntmps115,List.size_toArray,List.length_cons,List.length_nil,Nat.reduceAdd,Nat.reduceSub,Array.replicate_succ,Array.replicate_zero,List.push_toArray,List.append_toArray,List.nil_append,List.cons_append]
  gi_wp2
  gi_loopw [7] (fun i wr=>∃k:Nat,k≤len∧i=.int .i64 k∧J (Vi.upto (fun j=>zs[j]?.getD 0) k) wr∧Below n₀ W wr)
    (fun i _=>len-(intOf i).toNat)
  case atStart=>exact ⟨0,Nat.zero_le _,rfl,h0,Below.refl _ _⟩
  case round =>
    obtain ⟨k,hk,rfl,hJs,hnx⟩:=hrel
    have hcx:k<len→wr.cell? ⟨b,off+k,none⟩=some (.int .i64 (zs[k]?.getD 0)):=fun h=>(hnx.cell (p:=⟨b,off+k,none⟩) hb).trans (hc k h)
    by_cases hlt:k<len
    · obtain ⟨fn,tmps,assign,body,hy,hR⟩:=hY _ (zs[k]?.getD 0) wr hJs (by rw [Vi.upto_length];exact hlt)
      have hcx':=hcx hlt
      gi_wp2
      refine hR.mono ?_
      rintro e W3 ⟨rfl,hJ3,hk3⟩
      gi_wp2
      go_roundw
      case rel=>exact ⟨k+1,by omega,by simp,by rw [Vi.upto_succ];exact hJ3,hnx.trans hk3⟩
      case measure=>simp [intOf];omega
    · obtain rfl:k=len:=by omega
      gi_wp2
      go_end0
      exact ⟨⟨_,rfl⟩,_,rfl,hJs⟩
set_option maxRecDepth 100000 in
set_option maxHeartbeats 1000000 in
theorem Uo (F:Fence) (n:Nat) (h7:F.fn 115) (hro:F.round=none) (l Bs o:Nat) (a:Option Addr) (Cc:Nat) (J:List Int→World→Prop) (W:World) (hBs:W.cell? ⟨Bs,o,none⟩=some (.slice a 0 Cc)) (h0:J [] W) :
    CallsIn F n Tryz.prog 115 #[.func (.yield l) #[] #[],.pointer (some ⟨Bs,o,none⟩)] W fun e W'=>(∃v,e=.returned v)∧J [] W':=by
  refine callsIn_of_wp Tryz.func115 rfl h7 ?_ hro
  simp only [Tryz.ntmps115,List.size_toArray,List.length_cons,List.length_nil,Nat.reduceAdd,Nat.reduceSub,Array.replicate_succ,Array.replicate_zero,List.push_toArray,List.append_toArray,List.nil_append,List.cons_append]
  gi_wp2
  gi_loopw [7] (fun i wr=>i=.int .i64 0∧J [] wr) (fun _ _=>0)
  case atStart=>exact ⟨rfl,h0⟩
  case round =>
    obtain ⟨rfl,hJs⟩:=hrel
    gi_wp2
    go_end0
    exact ⟨⟨_,rfl⟩,hJs⟩
section
variable {P:Program} {ρ:Ren}
set_option maxRecDepth 100000 in
set_option maxHeartbeats 2000000 in
theorem Xw (L:SlLaysZI.n11 P ρ) (F:Fence) (n:Nat) (h11:F.fn (ρ.f 11)) (hro:F.round=none) (hn:2≤n) (g:Nat) (lb:Array Value) (hFg:F.fn g) (eg:∀args w,(callFunc g args).run P w=.ok (.enter g args) w)
    (S:List Int→Prop) (N:Nat) (hN:N≤maxLen) (hNb:N*8≤140737488355328) (w:World) (hseq:∀(l:Nat) (J:List Int→World→Prop) (W:World),(∀pre W',J pre W'→Below w.heap.size w W')→AbidesFrom W.heap.size J→(∀pre x W1,J pre W1→pre.length<N→YieldAt F ((n-1)-1) P l #[encZ x] W1 fun e W'=>e=.returned (.bool true)∧J (pre++[x]) W'∧KeepsWalks W1 W')→J [] W→CallsIn F (n-1) P g (#[.func (.yield l) #[] #[]]++lb) W fun e W'=>(∃v,e=.returned v)∧∃xs,S xs∧J xs W') :
    CallsIn F n P (ρ.f 11) #[.slice none 0 0,.func (.func g) #[] lb] w fun e w'=>∃(v:Value) (ss:List Int),e=.returned v∧S ss∧w'.ownsRow w.heap.size (ρ.t 26) 1 v ss.length (ss.map encZ)∧(v=.slice none 0 0↔ss=[])∧Below w.heap.size w w':=by
  have h1:1≤n:=by omega
  have mixed:=L.mixed;have t0:=L.t0;have a0:=L.a0;have z0:=L.z0;have v0:=L.v0;have t24:=L.t24;have a24:=L.a24;have z24:=L.z24;have v24:=L.v24;have t26:=L.t26;have a26:=L.a26;have z26:=L.z26;have v26:=L.v26;have t28:=L.t28;have a28:=L.a28;have z28:=L.z28;have v28:=L.v28
  have hne:ρ.t 24≠ρ.t 26:=fun e=>by have h:=L.t24;rw [e,L.t26] at h;cases h
  have u0:=run_underlying L.t0;have u24:=run_underlying L.t24;have u26:=run_underlying L.t26;have u28:=run_underlying L.t28
  obtain ⟨_,_,FG⟩:=L.f11
  refine callsIn_of_wp_marks FG rfl h11 ?_ hro
  simp only [SlBodyZ.n11_ntmps ρ,List.size_toArray,List.length_cons,List.length_nil,Nat.reduceAdd,Nat.reduceSub,Array.replicate_succ,Array.replicate_zero,List.push_toArray,List.append_toArray,List.nil_append,List.cons_append]
  gi_wp2
  refine wpIn_rangeFunc ?_
  intro fn hfn
  rw [hro]
  obtain ⟨W0,hW0⟩:∃W0,w.alloc (.cells #[.slice none 0 0] (ρ.t 24))=W0:=⟨_,rfl⟩
  have hs0:W0.heap.size=w.heap.size+1:=by rw [←hW0];simp
  have hv0:W0.heap[w.heap.size]?=some (.cells #[.slice none 0 0] (ρ.t 24) (0,0)):=by rw [←hW0];exact World.alloc_heap_new w _
  have hb0:Below w.heap.size w W0:=by rw [←hW0];exact (Below.refl _ w).alloc (Nat.le_refl _) _
  rw [hW0]
  obtain ⟨W1,hW1⟩:∃W1,(W0.alloc (.deferred (some []))).alloc (.loop (AnyZI.apRec ρ fn (.func (.func g) #[] lb) w.heap.size W0.heap.size .ready none))=W1:=⟨_,rfl⟩
  have hold:∀k,k<W0.heap.size→W1.heap[k]?=W0.heap[k]?:=fun k hk=>by
    rw [←hW1];exact (Below.heap_alloc _ _ k (by simp;omega)).trans (Below.heap_alloc _ _ k hk)
  have hb1:Below w.heap.size w W1:=by rw [←hW1];exact (hb0.alloc hb0.size _).alloc (by have:=hb0.size;simp;omega) _
  have hs1:W1.heap.size=W0.heap.size+2:=by rw [←hW1];simp
  have hM:AnyZI.ApAt ρ w fn (.func (.func g) #[] lb) w.heap.size (W0.heap.size+1) W0.heap.size [] W1 :=
    ⟨⟨_,(hold w.heap.size (by omega)).trans hv0,⟨rfl,.inl ⟨rfl,rfl⟩⟩,by simp⟩,
     by rw [←hW1];have:=World.alloc_heap_new (W0.alloc (.deferred (some []))) (.loop (AnyZI.apRec ρ fn (.func (.func g) #[] lb) w.heap.size W0.heap.size .ready none));rwa [World.size_alloc] at this,
     by rw [←hW1];exact (Below.heap_alloc _ _ _ (by simp)).trans (World.alloc_heap_new W0 _),hb1⟩
  refine ⟨W0.heap.size+1,[{ target:=.collected W0.heap.size,args := #[] }],W1,{ target:=.fn (.func g) lb,args := #[.func (.yield (W0.heap.size+1)) #[] #[]] },W1,g,
    #[.func (.yield (W0.heap.size + 1)) #[] #[]] ++ lb, W1, ?_, ?_, ?_, ?_, fun _ => h1, ?_⟩
  · rw [←hW1];exact run_enterLoop_outer _ _ _ _ _
  · simp [resolve,go_sem]
  · intro f' hf';simp [Target.leads] at hf';subst hf';exact hFg
  · simp [invoke,go_sem,eg]
  · refine (hseq (W0.heap.size+1) (AnyZI.ApAt ρ w fn (.func (.func g) #[] lb) w.heap.size (W0.heap.size+1) W0.heap.size) W1 (fun _ _ h=>h.below) (AnyZI.ap_abides ρ _ _ _ _ _ _ _ hb1.size)
      (fun pre x W hJ hl=>AnyZI.apYield { L with } F (n-1-1) w fn hfn _ w.heap.size (W0.heap.size+1) W0.heap.size (by omega) (by omega) (by omega) (Nat.le_refl _) (by omega) N hN hNb pre x W hJ hl) hM).mono ?_
    rintro e W2 ⟨⟨v0,rfl⟩,ss,hS,h2⟩
    obtain ⟨v,hv,hrow,hnil⟩:=h2.box
    have hend:=run_endLoop (P:=P) h2.L (by simp [AnyZI.apRec])
    obtain ⟨W3,hW3⟩:∃W3,W2.putObj (W0.heap.size+1) (.loop { AnyZI.apRec ρ fn (.func (.func g) #[] lb) w.heap.size W0.heap.size .ready none with state:=.exhausted })=W3:=⟨_,rfl⟩
    rw [hW3] at hend
    have hg3:W2.grownBy W3 (some (W0.heap.size+1)):=by rw [←hW3];exact grownBy_putObj_a _ _ _
    have hv3:W3.heap[w.heap.size]?=some (.cells #[v] (ρ.t 24) (0,0)):=by rw [←hW3];exact (World.putObj_heap_other (by omega)).trans hv
    have hK3:W3.heap[W0.heap.size]?=some (.deferred (some [])):=by rw [←hW3];exact (World.putObj_heap_other (by omega)).trans h2.K
    have hrow3:=hrow.kept hg3 (ownsRow_ne_a hrow h2.L (fun cur e=>by first|cases e|exact hne (Obj.cells.inj e).2.1))
    have hb3:Below w.heap.size w W3:=h2.below.grown hg3 h2.below.size (fun k e=>by cases e;omega)
    obtain ⟨hc3,hf3⟩:=cell_of_box_a hv3
    clear hW3
    refine ⟨none,W3,hend,?_⟩
    gi_wp2
    rw [←hs0]
    refine ⟨by simp,.inl ⟨_,_,rfl,run_takeDeferred hK3,?_⟩⟩
    exact ⟨_,results_tmp rfl _ _ _,v,ss,rfl,hS,hrow3.kept (grownBy_putObj_a _ _ _) (ownsRow_ne_a hrow3 hK3 (fun cur e=>by first|cases e|exact hne (Obj.cells.inj e).2.1)),hnil,hb3.grown (grownBy_putObj_a _ _ _) hb3.size (fun k e=>by cases e;omega)⟩
set_option maxHeartbeats 1000000 in
theorem Vi.collect_in (L:SlLaysZI.n8 P ρ) (F:Fence) (n:Nat) (h8:F.fn (ρ.f 8)) (h11:F.fn (ρ.f 11)) (hro:F.round=none) (hn:3≤n) (g:Nat) (lb:Array Value) (hFg:F.fn g) (eg:∀args w,(callFunc g args).run P w=.ok (.enter g args) w)
    (S:List Int→Prop) (N:Nat) (hN:N≤maxLen) (hNb:N*8≤140737488355328) (w:World) (hseq:∀(l:Nat) (J:List Int→World→Prop) (W:World),(∀pre W',J pre W'→Below w.heap.size w W')→AbidesFrom W.heap.size J→(∀pre x W1,J pre W1→pre.length<N→YieldAt F ((n-1-1)-1) P l #[encZ x] W1 fun e W'=>e=.returned (.bool true)∧J (pre++[x]) W'∧KeepsWalks W1 W')→J [] W→CallsIn F (n-1-1) P g (#[.func (.yield l) #[] #[]]++lb) W fun e W'=>(∃v,e=.returned v)∧∃xs,S xs∧J xs W') :
    CallsIn F n P (ρ.f 8) #[.func (.func g) #[] lb] w fun e w'=>∃(v:Value) (ss:List Int),e=.returned v∧S ss∧w'.ownsRow w.heap.size (ρ.t 26) 1 v ss.length (ss.map encZ)∧(v=.slice none 0 0↔ss=[])∧Below w.heap.size w w':=by
  have h1:1≤n:=by omega
  have e11:∀args w,(callFunc (ρ.f 11) args).run P w=.ok (.enter (ρ.f 11) args) w:=L.f11.enters rfl
  have mixed:=L.mixed;have t0:=L.t0;have a0:=L.a0;have z0:=L.z0;have v0:=L.v0;have t24:=L.t24;have a24:=L.a24;have z24:=L.z24;have v24:=L.v24;have t26:=L.t26;have a26:=L.a26;have z26:=L.z26;have v26:=L.v26;have t28:=L.t28;have a28:=L.a28;have z28:=L.z28;have v28:=L.v28
  have u0:=run_underlying L.t0;have u24:=run_underlying L.t24;have u26:=run_underlying L.t26;have u28:=run_underlying L.t28
  obtain ⟨_,_,FG⟩:=L.f8
  refine callsIn_of_wp FG rfl h8 ?_ hro
  simp only [SlBodyZ.n8_ntmps ρ,List.size_toArray,List.length_cons,List.length_nil,Nat.reduceAdd,Nat.reduceSub,Array.replicate_succ,Array.replicate_zero,List.push_toArray,List.append_toArray,List.nil_append,List.cons_append]
  gi_wp2_with (gi_at_fn (ρ.f 11);refine (Xw { L with } F (n-1) h11 hro (by omega) g lb hFg eg S N hN hNb _ hseq).mono ?_;rintro e w' ⟨v,ss,rfl,hS,hrow,hnil,hb⟩)
  go_ret
  exact ⟨v,ss,rfl,hS,hrow,hnil,hb⟩
end
end Go.Proofs
namespace Go.Proofs
open Go.Shelf
def Pb:Go.Shelf.Ren:=⟨fun|6=>84|8=>113|9=>114|10=>116|11=>136|n=>n,fun|26=>3|28=>163|24=>48|0=>0|33=>81|4=>4|23=>160|3=>54|n=>n,fun|n=>n⟩
theorem Xd:Go.Proofs.SlLaysZI.n6 Tryz.prog Pb:={
  mixed:=by kernel_rfl
  f6:=⟨Tryz.f84.name,by decide,Tryz.func84.trans (congrArg some (by kernel_rfl))⟩
  f8:=⟨Tryz.f113.name,by decide,Tryz.func113.trans (congrArg some (by kernel_rfl))⟩
  f11:=⟨Tryz.f136.name,by decide,Tryz.func136.trans (congrArg some (by kernel_rfl))⟩
  t0:=Tryz.underlying0
  a0:=Tryz.isAgg0
  z0:=Tryz.sizeOf0
  v0:=Tryz.zeroValue0
  t24:=Tryz.underlying48
  a24:=Tryz.isAgg48
  z24:=Tryz.sizeOf48
  v24:=Tryz.zeroValue48
  t26:=Tryz.underlying3
  a26:=Tryz.isAgg3
  z26:=Tryz.sizeOf3
  v26:=Tryz.zeroValue3
  t28:=Tryz.underlying163
  a28:=Tryz.isAgg163
  z28:=Tryz.sizeOf163
  v28:=Tryz.zeroValue163
  i26:=by kernel_rfl }
theorem Tryz.lzi_n8:Go.Proofs.SlLaysZI.n8 Tryz.prog Pb:={
  mixed:=by kernel_rfl
  f8:=⟨Tryz.f113.name,by decide,Tryz.func113.trans (congrArg some (by kernel_rfl))⟩
  f11:=⟨Tryz.f136.name,by decide,Tryz.func136.trans (congrArg some (by kernel_rfl))⟩
  t0:=Tryz.underlying0
  a0:=Tryz.isAgg0
  z0:=Tryz.sizeOf0
  v0:=Tryz.zeroValue0
  t24:=Tryz.underlying48
  a24:=Tryz.isAgg48
  z24:=Tryz.sizeOf48
  v24:=Tryz.zeroValue48
  t26:=Tryz.underlying3
  a26:=Tryz.isAgg3
  z26:=Tryz.sizeOf3
  v26:=Tryz.zeroValue3
  t28:=Tryz.underlying163
  a28:=Tryz.isAgg163
  z28:=Tryz.sizeOf163
  v28:=Tryz.zeroValue163
  i26:=by kernel_rfl }
end Go.Proofs
namespace Go.Gm
open Go.Proofs Go.RowKit Go.Shelf Go.Maps Go.Sort
theorem pc_own {P:Program} {f:FuncId} {us:List AV} {l:List Int} {ety:TypeId} {enc:Int→List AV} (he:∀x,enc x=[.val (.int .i64 x)])
  (h:∀(m:Nat→Prop) (w:World) (vs:List Value),(∀b,m b→b<w.heap.size)→RelL (E0 m w) us vs→Calls P f vs.toArray w fun e w'=>∃v,e=.returned v∧w'.ownsRow w.heap.size ety 1 v l.length (l.map (Value.int .i64))∧Below w.heap.size w w'):PC P f us (.fr 1 (l.map enc)):=by
 intro m w vs hm ht hr
 refine (h m w vs hm hr).mono ?_
 rintro e w' ⟨v,rfl,hrow,hb⟩
 have hrows:l.map enc=Ji (Value.int .i64) l:=(Jk he l).symm
 have hinl:Cy (l.map enc)=true:=Gq (fun x=>by rw [he];rfl) l
 let hp:Am:=fun t=>if t=0 then some (.row 1 true (l.map enc)) else none
 have main:∀(L:Loc),(L.st<L.n→w.heap.size≤L.b)→ObjAt (Bv m hp (fun t=>t=0) (fun t=>if t=0 then some L else none) w') L (.row 1 true (l.map enc)) →
   (∃a Cc,v=.slice a l.length Cc∧0<L.sz∧L.st+(0+Cc)*L.sz=L.n∧l.length≤Cc∧(0<Cc→a=some ⟨L.b,L.st+0*L.sz,none⟩)) →
   ∃v' hp' al loc r ts,Ending.returned v=.returned v'∧Mem ⟨w,fun _=>False,m,hm,0,fun _=>none,Nat.zero_le _,ht⟩ hp' al loc w'∧Rel (Bv m hp' al loc w') r v'∧Cl hp' r=some (.fr 1 (l.map enc),ts)∧ts.Nodup:=fun L hLb hob hv=>by
  have hz:∀t o,hp t=some o→t=0∧o=.row 1 true (l.map enc):=fun t o ho=>by
   by_cases ht:t=0
   ·subst ht;simp [hp] at ho;exact ⟨rfl,ho.symm⟩
   ·simp [hp,ht] at ho
  have hlz:∀t L',(if t=0 then some L else none)=some L'→t=0∧L'=L:=fun t L' hL=>by
   by_cases ht:t=0
   ·subst ht;simp at hL;exact ⟨rfl,hL.symm⟩
   ·simp [ht] at hL
  refine ⟨v,hp,fun t=>t=0,fun t=>if t=0 then some L else none,.own 0 0 l.length,[0],rfl,?_,?_,?_,by simp⟩
  ·constructor
   ·intro t o ho
    obtain ⟨rfl,rfl⟩:=hz t o ho
    exact ⟨L,rfl,hob⟩
   ·intro t ht
    by_cases h0:t=0
    ·subst h0;simp [hp] at ht
    ·simp [h0]
   ·intro t L' hL;exact (hlz t L' hL).1
   ·intro t t' L1 L2 h1 h2 _ _ _
    rw [(hlz t L1 h1).1,(hlz t' L2 h2).1]
   ·exact hb.os
   ·exact hb.tape
   ·exact hb.output
   ·exact hb.size
   ·intro b hlt _;exact hb.block b hlt
   ·rintro b ⟨t,o,L',h1,h2,h3,h4,h5⟩ hlt
    obtain ⟨_,rfl⟩:=hlz t L' h3
    have h9:=hLb h5
    have h10:b<w.heap.size:=hlt
    show False
    omega
   ·intro t L' hL hpos hmb
    obtain ⟨_,rfl⟩:=hlz t L' hL
    have:=hLb hpos
    have:=hm _ hmb
    omega
   ·intro t ht;exact absurd ht (Nat.not_lt_zero t)
   ·intro t L' ht;exact absurd ht (Nat.not_lt_zero t)
  ·refine .own rfl fun L' hL=>?_
   obtain ⟨_,rfl⟩:=hlz 0 L' hL
   exact hv
  ·have:=own_fr (hp:=hp) (t:=0) (n:=l.length) (sz:=1) (rows:=l.map enc) rfl (by simp) hinl
   simpa only [Tj] using this
 rcases hrow.2 with ⟨rfl,hn⟩|⟨g,Cc,cur,rfl,hbase,hg,hle,_,hcs,htk⟩
 ·have:l=[]:=List.eq_nil_of_length_eq_zero hn
  subst this
  exact main ⟨0,0,1,0⟩ (fun h=>absurd h (Nat.lt_irrefl _)) ⟨rfl,by decide,by simp,by simp,⟨0,rfl⟩,fun h=>absurd h (Nat.lt_irrefl _)⟩ ⟨none,0,rfl,by decide,rfl,Nat.le_refl _,fun h=>absurd h (Nat.lt_irrefl _)⟩
 ·refine main ⟨g,0,1,Cc⟩ (fun _=>hbase) ⟨rfl,by decide,fun r hr=>?_,?_,⟨Cc,by simp⟩,fun _=>⟨cur,ety,(0,0),l.map (Value.int .i64),hg,by simpa using hcs,?_,?_,?_,fun k _=>by simp⟩⟩ ⟨some ⟨g,0,none⟩,Cc,rfl,Nat.one_pos,by simp,hle,fun _=>rfl⟩
  ·obtain ⟨x,_,rfl⟩:=List.mem_map.1 hr;rw [he];rfl
  ·simpa using hle
  ·rw [hrows,Jl];exact Is _
  ·intro u hu;obtain ⟨x,_,rfl⟩:=List.mem_map.1 hu;rfl
  ·intro k u hu
   rw [←htk] at hu
   have hk:k<l.length*1:=by
    have:=(List.getElem?_eq_some_iff.1 hu).1
    rw [List.length_take] at this;omega
   rw [List.getElem?_take_of_lt hk,Array.getElem?_toList] at hu
   simpa using hu
end Go.Gm
namespace Go.Gm
open Go.Proofs Go.RowKit Go.Shelf Go.Maps Go.Sort
theorem below_of {B:Nat} {w A C:World} (h:Below B w A) (k:Below B w C) (hs:A.heap.size≤C.heap.size):Below B A C :=
  ⟨k.os.trans h.os.symm,k.tape.trans h.tape.symm,k.output.trans h.output.symm,hs,fun q hq=>(k.block q hq).trans (h.block q hq).symm⟩
theorem calls_collect (l:List Int) (w:World) {Bs o Cc:Nat} {a:Option Addr} (hBs:w.cell? ⟨Bs,o,none⟩=some (.slice a l.length Cc)) (hBlt:Bs<w.heap.size)
    (hc:l≠[]→∃b off,a=some ⟨b,off,none⟩∧b<w.heap.size∧∀(j:Nat) x,l[j]?=some x→w.cell? ⟨b,off+j,none⟩=some (.int .i64 x)) (hl:l.length≤2147483648) :
    Calls Tryz.prog 113 #[.func (.func 115) #[] #[.pointer (some ⟨Bs,o,none⟩)]] w fun e w'=>∃v,e=.returned v∧w'.ownsRow w.heap.size 3 1 v l.length (l.map (Value.int .i64))∧Below w.heap.size w w':=by
  have hmax:l.length≤maxLen:=by unfold maxLen;omega
  have h:=Vi.collect_in Tryz.lzi_n8 Fence.wide 3 trivial trivial rfl (by omega) 115 #[.pointer (some ⟨Bs,o,none⟩)] trivial (enters_of Tryz.func115 (by kernel_rfl) rfl) (fun ss=>ss=l) l.length hmax (by omega) w (fun ll J W hJ hab hY h0=>by
    have hW:=hJ [] W h0
    have hBs':=(hW.cell (p:=⟨Bs,o,none⟩) hBlt).trans hBs
    by_cases hn:l=[]
    · subst hn
      exact (Uo Fence.wide _ trivial rfl ll Bs o a Cc J W hBs' h0).mono fun e W' ⟨he,hj⟩=>⟨he,[],rfl,hj⟩
    · obtain ⟨b,off,rfl,hb,hcs⟩:=hc hn
      refine (Vi.values1_in Fence.wide _ trivial rfl (by omega) ll Bs o w.heap.size b off l.length Cc l (by omega) hb hBlt J (fun pre x W1 hp hlt=>?_) W hBs' (fun j hj=>?_) h0).mono fun e W' ⟨he,ys,hy,hj⟩=>⟨he,ys,by rw [hy,Vi.upto_all],hj⟩
      · obtain ⟨fn,tmps,asg,body,q1,q2⟩:=hY pre x W1 hp hlt
        exact ⟨fn,tmps,asg,body,q1,q2.mono fun e W' ⟨r1,r2,r3⟩=>⟨r1,r2,below_of (hJ _ _ hp) (hJ _ _ r2) r3.1⟩⟩
      · exact (hW.cell (p:=⟨b,off+j,none⟩) hb).trans (hcs j _ (by simp [hj])))
  refine (callsIn_wide.1 h).mono ?_
  rintro e w' ⟨v,ss,rfl,rfl,hrow,_,hb⟩
  exact ⟨v,rfl,hrow,hb⟩
theorem pc_collect {enc:Int→List AV} (he:∀x,enc x=[.val (.int .i64 x)]) (l:List Int) (hl:l.length≤2147483648):PC Tryz.prog 113 [.clo (.func 115) [] [.ip [.sl (l.map enc)]]] (.fr 1 (l.map enc)):=by
  refine pc_own (ety:=3) he fun m w vs hm hr=>?_
  cases hr with
  | cons h1 h2 =>
  cases h2
  rename_i v
  cases h1 with
  | clo hf hcap =>
  cases hf
  cases hcap with
  | cons h3 h4 =>
  cases h4
  cases h3 with
  | ip hb hmt h1c hcell hrl =>
  rename_i b o vs'
  cases hrl with
  | cons h5 h6 =>
  cases h6
  rename_i u
  have hBs:w.cell? ⟨b,o,none⟩=some u:=hcell 0 u rfl
  have hz:∀(rows:List (List AV)),Rel (E0 m w) (.sl rows) u→rows=l.map enc→∃a Cc,u=.slice a l.length Cc∧(l≠[]→∃b off,a=some ⟨b,off,none⟩∧b<w.heap.size∧∀(j:Nat) x,l[j]?=some x→w.cell? ⟨b,off+j,none⟩=some (.int .i64 x)):=fun rows h hr=>by
    cases h with
    | sl0 a Cc =>
      have:l=[]:=by cases l with
        | nil=>rfl
        | cons x l=>cases hr
      subst this
      exact ⟨a,Cc,rfl,fun h=>absurd rfl h⟩
    | sl hb2 hm2 hr2 hsz h0 hcap2 h12 hc2 hl2 =>
      subst hr
      rename_i b2 o2 cap2 sz2 vs2
      refine ⟨some ⟨b2,o2,none⟩,cap2,by rw [List.length_map],fun _=>⟨b2,o2,rfl,hb2,fun j x hx=>?_⟩⟩
      rw [←Jk he,Jl] at hl2
      have:=Gb hl2
      subst this
      exact hc2 j _ (by rw [List.getElem?_map,hx];rfl)
  obtain ⟨a,Cc,rfl,hcs⟩:=hz _ h5 rfl
  exact calls_collect l w hBs hb hcs hl
end Go.Gm
namespace Go.Proofs
open Go.RowKit Go.Shelf Go.Maps Go.Sort
attribute [local go_sem] Oper.semAt_some
set_option maxRecDepth 100000 in
set_option maxHeartbeats 2000000 in
theorem Vi.keys1N_in {H:Type} (F:Fence) (n:Nat) (h10:F.fn 116) (hro:F.round=none) (hn:1≤n) (l Bm o b nn:Nat) (D0:DataW H) {R:Value→Option (DataW H×List MemPlace)} (J:List Int→World→Prop)
    (hY:∀pre x W,J pre W→pre.length<Maps.size D0→YieldAt F (n-1) Tryz.prog l #[encZ x] W fun e W'=>e=.returned (.bool true)∧J (pre++[x]) W'∧KeepsWalks W W')
    (W:World) (hJ:AbidesFrom W.heap.size J) (hm:W.cell? ⟨Bm,o,none⟩=some (.map (some b))) (hown:W.ownsMap Tryz.prog 3 R b nn D0) (h0:J [] W) :
    CallsIn F n Tryz.prog 116 #[.func (.yield l) #[] #[],.pointer (some ⟨Bm,o,none⟩)] W fun e W'=>(∃v,e=.returned v)∧∃ss:List Int,ss.Perm (intKeys D0)∧J ss W':=by
  refine callsIn_of_wp Tryz.func116 rfl h10 ?_ hro
  simp only [Tryz.ntmps116,List.size_toArray,List.length_cons,List.length_nil,Nat.reduceAdd,Nat.reduceSub,Array.replicate_succ,Array.replicate_zero,List.push_toArray,List.append_toArray,List.nil_append,List.cons_append]
  gi_wp2_with (first
    | (gi_at_range;refine wpListIn_range_own _ rfl _ 160 rfl 3 54 (int_keyed Tryz.underlying3) Tryz.underlying160 _ b nn _ rfl hown ?_;intro w0 hrg0 hg0 hs0)
    | gi_in)
  go_frame
  gi_loopw [3] (fun _ wr=>∃(left:Lit→Bool) (cnt:Nat) (ss:List Int),wr.ranges Tryz.prog 3 R b W.heap.size nn D0 left cnt∧ss.length+cnt≤Maps.size D0∧CollectedI D0 left ss∧J ss wr)
    (fun _ wr=>wr.rangeLeft b W.heap.size)
  case atStart =>
    exact ⟨_,_,[],hrg0,by simp,CollectedI.start D0,hJ [] W w0 none h0 hg0 (fun r e=>by cases e)⟩
  case round =>
    obtain ⟨left,cnt,ss,hrg,hcs,hC,hJs⟩:=hrel
    gi_wp2_with (first
      | (gi_at_next;refine wpListIn_next_ranges _ rfl _ rfl 3 (int_keyed Tryz.underlying3) R encZ id (fun key kl hk=>by obtain ⟨x,hx,_⟩:=Maps.keyOf_i64 Tryz.underlying3 hk;exact ⟨x,hx⟩) (fun v _ _=>⟨v,rfl⟩) b W.heap.size nn _ _ _ rfl hrg ?_ ?_)
      | gi_in)
    · intro hc0 hl0
      gi_wp2
      go_end0
      exact ⟨⟨_,rfl⟩,ss,hC.perm hown (int_keyed Tryz.underlying3) Tryz.underlying3 hl0,hJs⟩
    · intro x c kl yd yp w2 cnt2 hkey hlk hv hat hrg2 hlt hg2 hs2 hen
      obtain ⟨x',ex,rfl,_⟩:=Maps.keyOf_i64 Tryz.underlying3 hkey
      obtain rfl:x=x':=encZ_inj ex
      have hJ2:J ss w2:=hJ ss wr w2 (some W.heap.size) hJs hg2 (fun r e=>by cases e;exact ⟨Nat.le_refl _,hrg.iter_walk⟩)
      obtain ⟨fn,tmps,assign,body,hy,hR⟩:=hY ss x w2 hJ2 (by omega)
      clear hs2
      gi_wp2
      refine hR.mono ?_
      rintro e W3 ⟨rfl,hJ3,hk3⟩
      gi_wp2
      have hrg3:=hrg2.of_walks hk3
      go_roundw
      case rel=>exact ⟨_,cnt2,ss++[x],hrg3,by simp;omega,hC.step hlk hat,hJ3⟩
      case measure=>rw [hrg3.left_eq,hrg.left_eq];exact hlt
theorem Vi.keys_gives {H:Type} (F:Fence) (n:Nat) (h10:F.fn 116) (hro:F.round=none) (hn:1≤n) (Bm o b nn:Nat) (D0:DataW H) {R:Value→Option (DataW H×List MemPlace)} (w:World) (hBm:Bm<w.heap.size)
    (hm:w.cell? ⟨Bm,o,none⟩=some (.map (some b))) (hown:w.ownsMap Tryz.prog 3 R b nn D0) :
    SeqGives F n Tryz.prog 116 #[.pointer (some ⟨Bm,o,none⟩)] encZ (fun ss=>ss.Perm (intKeys D0)) (Maps.size D0) w:=fun l J W hW hJ hY h0=>by
  have hown':W.ownsMap Tryz.prog 3 R b nn D0:=by
    have hbl:=hown.lt
    obtain ⟨es,clock,hb,Ft,hs,hD⟩:=hown
    exact ⟨es,clock,(hW.block b hbl).trans hb,Ft,hs,hD⟩
  exact Vi.keys1N_in F n h10 hro hn l Bm o b nn D0 J hY W hJ ((hW.cell (p:=⟨Bm,o,none⟩) hBm).trans hm) hown' h0
set_option maxRecDepth 100000 in
set_option maxHeartbeats 1000000 in
theorem Xv (F:Fence) (n:Nat) (h10:F.fn 116) (hro:F.round=none) (l Bm o:Nat) (J:List Int→World→Prop) (W:World) (hJ:AbidesFrom W.heap.size J)
    (hm:W.cell? ⟨Bm,o,none⟩=some (.map none)) (h0:J [] W) :
    CallsIn F n Tryz.prog 116 #[.func (.yield l) #[] #[],.pointer (some ⟨Bm,o,none⟩)] W fun e W'=>(∃v,e=.returned v)∧∃ss:List Int,ss=[]∧J ss W':=by
  refine callsIn_of_wp Tryz.func116 rfl h10 ?_ hro
  simp only [Tryz.ntmps116,List.size_toArray,List.length_cons,List.length_nil,Nat.reduceAdd,Nat.reduceSub,Array.replicate_succ,Array.replicate_zero,List.push_toArray,List.append_toArray,List.nil_append,List.cons_append]
  have hrg:=run_range_nilMap (P:=Tryz.prog) W 160 3 54 Tryz.underlying160
  have hnx:∀ty,(Instr.next (.pointer (some ⟨W.heap.size,0,none⟩)) false ty).run Tryz.prog (W.alloc (.mapIter none 0 #[] 0))=_:=fun ty=>run_next_nilMap _ ty 0 0 #[]
  gi_wp2
  refine wpIn_loop_rounds 1 ?_
  rw [roundsIn_succ]
  gi_wp2
  go_end0
  exact ⟨⟨_,rfl⟩,[],rfl,hJ [] W _ none h0 (World.grownBy_alloc W _ none) (fun r e=>by cases e)⟩
theorem Up (F:Fence) (n:Nat) (h10:F.fn 116) (hro:F.round=none) (Bm o:Nat) (w:World) (hBm:Bm<w.heap.size) (hm:w.cell? ⟨Bm,o,none⟩=some (.map none)) :
    SeqGives F n Tryz.prog 116 #[.pointer (some ⟨Bm,o,none⟩)] encZ (fun ss:List Int=>ss=[]) 0 w:=fun l J W hW hJ _ h0 =>
  Xv F n h10 hro l Bm o J W hJ ((hW.cell (p:=⟨Bm,o,none⟩) hBm).trans hm) h0
theorem Vi.sortsIn (m:Nat):AnyZI.SortsIn Tryz.prog Pb Fence.wide m :=
  ⟨fun blk off Cc ss W hH hb hs=>callsIn_wide.2 (Tryz.slices_Sort_int blk off Cc ss W hH hb hs),fun p Cc W=>callsIn_wide.2 (Tryz.slices_Sort_int_none p Cc W)⟩
end Go.Proofs
namespace Go.Gm
open Go.Proofs Go.RowKit Go.Shelf Go.Maps Go.Sort Go.WideElems
def anyR:Value→Option (DataW Unit×List MemPlace):=fun _=>some (.lit (.bool true),[])
theorem ownsMap_im {w:World} {K:List Int} {b clock:Nat} {ens:Array MapEntry} (hb:w.heap[b]?=some (.map ens clock)) (he:KS ens clock (K.map Gp)) (hl:K.length≤1000000) (hw:∀k∈K,(Lit.int .i64 k).wf=true) :
    w.ownsMap Tryz.prog 3 anyR b 1000000 (.map ((ens.toList.map (rg Tryz.prog 3 anyR)).foldr DataW.insert []))∧(intKeys (H:=Unit) (.map ((ens.toList.map (rg Tryz.prog 3 anyR)).foldr DataW.insert []))).Perm K:=by
  have hlen:ens.size=K.length:=by have:=congrArg List.length he.1;simpa using this
  have hrd:∀x∈ens.toList,∃k∈K,x.key=.int .i64 k∧rd Tryz.prog 3 anyR x=some (.int .i64 k,.lit (.bool true)):=fun x hx=>by
    have h1:x.key∈K.map Gp:=by rw [←he.1];exact List.mem_map.2 ⟨x,hx,rfl⟩
    obtain ⟨k,hk,h2⟩:=List.mem_map.1 h1
    refine ⟨k,hk,h2.symm,?_⟩
    have h3:keyOf Tryz.prog 3 x.key=some (.int .i64 k):=by
      rw [←h2]
      have:=hw k hk
      simp [keyOf,Gp,Tryz.underlying3,mapKey,this]
    unfold Go.WideElems.rd
    rw [h3];rfl
  refine ⟨⟨ens,clock,hb,⟨by unfold maxLen;omega,he.2,fun x hx=>?_⟩,by omega,rfl⟩,?_⟩
  · obtain ⟨k,_,_,h⟩:=hrd x hx
    exact ⟨_,h⟩
  · have e1:(ens.toList.map (rg Tryz.prog 3 anyR)).map (fun p=>intOf p.1)=K:=by
      have e2:((ens.toList.map (rg Tryz.prog 3 anyR)).map fun p=>intOf p.1).map Gp=K.map Gp:=by
        rw [←he.1,List.map_map,List.map_map]
        refine List.map_congr_left fun x hx=>?_
        obtain ⟨k,_,h1,h2⟩:=hrd x hx
        simp [rg_of h2,intOf,Gp,h1]
      exact List.map_inj_right (f:=Gp) (fun a b h=>by simpa [Gp] using h) |>.1 e2
    show (((ens.toList.map (rg Tryz.prog 3 anyR)).foldr DataW.insert []).map fun p=>intOf p.1).Perm K
    have:=(Go.WideShapes.sorted_perm (ens.toList.map (rg Tryz.prog 3 anyR))).map fun p=>intOf p.1
    rwa [e1] at this
theorem Wg {K:List Int} {w:World} {Bm o b clock:Nat} {ens:Array MapEntry} (hBm:w.cell? ⟨Bm,o,none⟩=some (.map (some b))) (hlt:Bm<w.heap.size) (hb:w.heap[b]?=some (.map ens clock)) (he:KS ens clock (K.map Gp)) (hl:K.length≤1000000) (hw:∀k∈K,(Lit.int .i64 k).wf=true) :
    Calls Tryz.prog 84 #[.func (.func 116) #[] #[.pointer (some ⟨Bm,o,none⟩)]] w fun e w'=>∃v,e=.returned v∧w'.ownsRow w.heap.size 3 1 v (K.mergeSort leI).length ((K.mergeSort leI).map (Value.int .i64))∧Below w.heap.size w w':=by
  obtain ⟨hown,hperm⟩:=ownsMap_im hb he hl hw
  have hsz:Maps.size (DataW.map ((ens.toList.map (rg Tryz.prog 3 anyR)).foldr DataW.insert []))≤1000000:=by
    have h1:ens.size=K.length:=by have:=congrArg List.length he.1;simpa using this
    simp only [Maps.size,length_sorted,List.length_map,Array.length_toList];omega
  have h:=AnyZI.sorted_in Xd Fence.wide 4 trivial trivial trivial trivial rfl (by omega) (Vi.sortsIn 3) (enters_of Tryz.func114 (by kernel_rfl) rfl) 116 #[.pointer (some ⟨Bm,o,none⟩)] trivial (enters_of Tryz.func116 (by kernel_rfl) rfl) _ _ (by unfold maxLen;omega) (by omega) w
    (Vi.keys_gives Fence.wide 1 trivial rfl (by omega) Bm o b 1000000 _ w hlt hBm hown)
  refine (callsIn_wide.1 h).mono ?_
  rintro e w' ⟨v,ss,rfl,hS,hrow,_,hbl⟩
  have e1:ss.mergeSort leI=K.mergeSort leI:=mergeSort_of_perm_i (hS.trans hperm)
  have e2:ss.length=(K.mergeSort leI).length:=by rw [List.length_mergeSort];exact (hS.trans hperm).length_eq
  have hrow':w'.ownsRow w.heap.size 3 1 v ss.length ((ss.mergeSort leI).map (Value.int .i64)):=hrow
  rw [e2,e1] at hrow'
  exact ⟨v,rfl,hrow',hbl⟩
theorem Xq {w:World} {Bm o:Nat} (hBm:w.cell? ⟨Bm,o,none⟩=some (.map none)) (hlt:Bm<w.heap.size) :
    Calls Tryz.prog 84 #[.func (.func 116) #[] #[.pointer (some ⟨Bm,o,none⟩)]] w fun e w'=>∃v,e=.returned v∧w'.ownsRow w.heap.size 3 1 v 0 (([]:List Int).map (Value.int .i64))∧Below w.heap.size w w':=by
  have h:=AnyZI.sorted_in Xd Fence.wide 4 trivial trivial trivial trivial rfl (by omega) (Vi.sortsIn 3) (enters_of Tryz.func114 (by kernel_rfl) rfl) 116 #[.pointer (some ⟨Bm,o,none⟩)] trivial (enters_of Tryz.func116 (by kernel_rfl) rfl) _ 0 (by unfold maxLen;omega) (by omega) w
    (Up Fence.wide 1 trivial rfl Bm o w hlt hBm)
  refine (callsIn_wide.1 h).mono ?_
  rintro e w' ⟨v,ss,rfl,rfl,hrow,_,hbl⟩
  refine ⟨v,rfl,?_,hbl⟩
  have hrow':w'.ownsRow w.heap.size 3 1 v 0 ((([]:List Int).mergeSort leI).map (Value.int .i64)):=hrow
  simpa using hrow'
theorem pc_sortedKeys {enc:Int→List AV} (he:∀x,enc x=[.val (.int .i64 x)]) (K:List Int) (vs:List AV) (hl:K.length≤1000000) (hw:∀k∈K,(Lit.int .i64 k).wf=true) :
    PC Tryz.prog 84 [.clo (.func 116) [] [.ip [.im (K.map Gp) vs]]] (.fr 1 ((Kk K).map enc)):=by
  refine pc_own (ety:=3) he fun m w vs' hm hr=>?_
  cases hr with
  | cons h1 h2 =>
  cases h2
  cases h1 with
  | clo hf hcap =>
  cases hf
  cases hcap with
  | cons h3 h4 =>
  cases h4
  cases h3 with
  | ip hb hmt h1c hcell hrl =>
  rename_i b o vs2
  cases hrl with
  | cons h5 h6 =>
  cases h6
  rename_i u
  have hBs:w.cell? ⟨b,o,none⟩=some u:=hcell 0 u rfl
  have key:∀ks,Rel (E0 m w) (.im ks vs) u→ks=K.map Gp→(∃b2 clock ens,u=.map (some b2)∧w.heap[b2]?=some (.map ens clock)∧KS ens clock (K.map Gp))∨(u=.map none∧K=[]):=fun ks h hk=>by
    cases h with
    | im hb2 hm2 hh he2 hx hl2=>subst hk;exact .inl ⟨_,_,_,rfl,hh,he2⟩
    | im0 =>
      refine .inr ⟨rfl,?_⟩
      cases K with
      | nil=>rfl
      | cons=>cases hk
  rcases key _ h5 rfl with ⟨b2,clock,ens,rfl,hh,hk⟩|⟨rfl,rfl⟩
  · exact Wg hBs hb hh hk hl hw
  · have e:Kk []=[]:=by simp [Kk]
    rw [e];exact Xq hBs hb
end Go.Gm
set_option maxRecDepth 8000
set_option maxHeartbeats 1000000
namespace Go.Proofs.Yt
open Go.Gm
namespace Au
def f83 (a0:List Int):Option (List Int):=if a0.length<4611686018427387904 then some (compI a0) else none
theorem ok83 (a0:List Int) (r:List Int) (h:f83 a0=some r):IC Tryz.prog 83 [some (.row 1 true (List.map Bk a0))] [.own 0 0 a0.length] (.own 0 0 r.length) [some (.row 1 true (List.map Bk r))] []:=by
  unfold f83 at h
  split at h
  rotate_left
  · cases h
  rename_i hl
  obtain rfl:=Option.some.inj h
  exact ic_compI (fun _=>rfl) 83 (fun blk off Cc l w hH hs hc=>Tryz.slices_Compact_int blk off Cc l w hH hs hc) (fun a Cc w=>Tryz.slices_Compact_int_empty a Cc w) a0 hl
def f85 (a0:List Int):Option (List Int):=some a0
theorem ok85 (a0:List Int) (r:(List Int)) (h:f85 a0=some r):PC Tryz.prog 85 [.sl (List.map Bk a0)] (.clo (.func 115) [] [.ip [.sl (List.map Bk r)]]):=by
 rw [f85] at h
 refine Bi (N:=4) (rs:=[.tmp 2]) Tryz.func85 ?_
 refine Ac [1] ?_
 refine AW.ent (Jh 1 rfl (by first|rfl|simp [Ae]) (by first|rfl|simp only [go_sem]) (by simp)) ?_
 refine Ac [2] ?_
 refine AW.ret ?_
 obtain rfl:=oi h
 (simp only [go_sem,seval,Ay]<;>try simp)
def Uc (a0:List Int):Option (List Int):=if a0.length≤2147483648 then some a0 else none
theorem ok113_115 (a0:List Int) (r:List Int) (h:Uc a0=some r):PC Tryz.prog 113 [.clo (.func 115) [] [.ip [.sl (List.map Bk a0)]]] (.fr 1 (List.map Bk r)):=by
  unfold Uc at h
  split at h
  rotate_left
  · cases h
  rename_i hl
  obtain rfl:=Option.some.inj h
  exact pc_collect (fun _=>rfl) a0 hl
def f114 (a0:List Int):Option (List Int):=if a0.length<4611686018427387904 then some (Kk a0) else none
theorem len114 {a r:List Int} (h:f114 a=some r):r.length=a.length:=by
  unfold f114 at h
  split at h
  · rw [←Option.some.inj h];exact sortI_len a
  · cases h
theorem ok114 (a0:List Int) (r:List Int) (h:f114 a0=some r):IC Tryz.prog 114 [some (.row 1 true (List.map Bk a0))] [.own 0 0 a0.length] (.tup []) [some (.row 1 true (List.map Bk r))] []:=by
  unfold f114 at h
  split at h
  rotate_left
  · cases h
  rename_i hl
  obtain rfl:=Option.some.inj h
  exact ic_sortI (fun _=>rfl) 114 (fun blk off Cc l w hH hb hs=>Tryz.slices_Sort_int blk off Cc l w hH hb hs) (fun p Cc w=>Tryz.slices_Sort_int_none p Cc w) a0 hl
def Ty (c0_0:List Int):Option (List Int):=((Uc c0_0).bind fun x1=>((f114 x1).bind fun x2=>some x2))
theorem ok84_115 (c0_0:List Int) (r:(List Int)) (h:Ty c0_0=some r):PC Tryz.prog 84 [.clo (.func 115) [] [.ip [.sl (List.map Bk c0_0)]]] (.fr 1 (List.map Bk r)):=by
 rw [Ty] at h
 refine Bi (N:=9) (rs:=[.tmp 2]) Tryz.func84 ?_
 refine Ac [0] ?_
 obtain ⟨x1,hx1,h⟩:=bO h
 refine Bx [3] (ok113_115 c0_0 x1 hx1) Tryz.call113 ?_
 obtain ⟨x2,hx2,h⟩:=bO h
 have lenhx2:x2.length=x1.length:=len114 hx2
 refine Cb [3] fun K hK=>?_
 simp only [go_sem,seval,lenhx2]
 refine arC.ok (Br (us':=_) (ok114 x1 x2 hx2) [24] (.cons (.eq (by simp only [go_sem]) (by first|rfl|simp [Ae,Ap,Cf])) (.nil _)) (.cons (.of (by first|rfl|simp [Cq,Cf])) .nil)) Tryz.call114 ?_
 simp only [go_sem,seval,lenhx2]
 subst hK
 refine Ao [2] ?_
 refine AW.ret ?_
 obtain rfl:=oi h
 (simp only [go_sem,seval,lenhx2,Ay]<;>try simp)<;>try omega
def Tx (K:List Int):Option (List Int):=if K.length≤1000000∧∀k∈K,(Lit.int .i64 k).wf=true then some (Kk K) else none
theorem ok84_116 (K:List Int) (vs:List AV) (r:List Int) (h:Tx K=some r):PC Tryz.prog 84 [.clo (.func 116) [] [.ip [.im (K.map Gp) vs]]] (.fr 1 (List.map Bk r)):=by
 unfold Tx at h
 split at h
 ·rename_i c
  obtain rfl:=Option.some.inj h
  exact pc_sortedKeys (fun _=>rfl) K vs c.1 c.2
 ·cases h
theorem ok86 (ks:List Value) (vs:List AV) (hv:Di vs=true):PC Tryz.prog 86 [.im ks vs] (.clo (.func 116) [] [.ip [.im ks vs]]):=by
 refine Bi (N:=4) (rs:=[.tmp 2]) Tryz.func86 ?_
 have h1:inl (.im ks vs)=true:=by simp only [inl,hv]
 have h2:∀hp:Am,Dj hp (.im ks vs)=true:=fun hp=>by simp only [Dj]
 have h3:cellsOf (.im ks vs)=[.im ks vs]:=rfl
 refine Ao [1] ?_
 refine AW.ent (Jh 1 rfl (by first|rfl|simp [Ae]) (by simp [Di,h1]) (by simp)) ?_
 refine Ac [2] ?_
 refine AW.ret ?_
 (simp only [go_sem,seval,Ay,h1]<;>try simp)
def f49_b (cs:List Int) (key:ByteArray):MT×Int→Option ((MT×Int)⊕MT)
 | (T,i)=>if i<(cs.length:Int) then (ix cs i).bind fun o=>(Bq (Ik o T) [key]).bind fun _=>some (.inl (Li o key T,IntKind.i64.wrap (i+1))) else some (.inr T)
def f49_a (a0:List Res):MT×Int→Option ((MT×Int)⊕MT)
 | (T,i)=>if i<(a0.length:Int) then (ix a0 i).bind fun r=>(f85 r.Offs).bind fun v=>(Ty v).bind fun s=>(f83 s).bind fun c=>(loopO (f49_b c r.Key) (T,0)).bind fun T'=>some (.inl (T',IntKind.i64.wrap (i+1))) else some (.inr T)
def f49_c (T:MT) (ks:List Int):List Fwd×Int→Option ((List Fwd×Int)⊕List Fwd)
 | (out,i)=>if i<(ks.length:Int) then (ix ks i).bind fun o=>(Bq out [⟨o,Ik o T⟩]).bind fun out'=>some (.inl (out',IntKind.i64.wrap (i+1))) else some (.inr out)
def f49 (a0:List Res):Option (List Fwd):=(loopO (f49_a a0) ([],0)).bind fun T=>(Tx (T.map (·.1))).bind fun ks=>loopO (f49_c T ks) ([],0)
def Wb (a0:List Int) (a1:Int):Int→Option (Int⊕(Bool⊕Unit))
  | s1_0=>(if s1_0<(a0.length:Int) then ((ix a0 s1_0).bind fun x11=>(if x11=a1 then some (.inr (.inl true)) else some (.inl (IntKind.i64.wrap (s1_0+1))))) else some (.inr (.inr ())))
def f24 (a0:List Int) (a1:Int):Option Bool:=((loopO (Wb a0 a1) 0).bind fun y13=>match y13 with|.inl y14=>some y14|.inr _=>some false)
theorem ok24 (a0:List Int) (a1:Int) (r:Bool) (h:f24 a0 a1=some r):PC Tryz.prog 24 [.sl (List.map Bk a0),.val (.int .i64 a1)] (.val (.bool r)):=by
 rw [f24] at h
 refine Bi (N:=18) (rs:=[.tmp 4]) Tryz.func24 ?_
 refine Ac [0,1] ?_
 refine AW.seq<|Ac [0,1,5] ?_
 refine AW.block ?_
 obtain ⟨y13,hy13,h⟩:=bO h
 refine AW.loopO (fun s=>⟨(Ag (Ag (Ag Az 0 (.sl (List.map Bk a0))) 1 (.val (.int .i64 a1))) 5 (.val (.int .i64 s))),Bo [] [],8⟩) (fun y e st'=>match y with|.inl z=>e=Exit.ret∧Ay Tryz.prog [.tmp 4] (.val (.bool z)) .ret st'|.inr z=>e=Exit.exit 0∧st'=⟨Az,Bo [] [],8⟩) hy13 ?_ ?_ ?_
 ·exact Bg RF.any.qv.qv.qv
 ·clear h hy13
  rintro s1_0 x h
  rw [Wb] at h
  refine AW.seq<|Ac [0,1,5,9] ?_
  rcases Aq h with ⟨c10,h⟩|⟨c10,h⟩
  ·refine Aj rfl c10<|AW.skip<|Aa<|AW.seq<|AW.block ?_
   obtain ⟨x11,hx11,h⟩:=bO h
   obtain ⟨hx11a,hx11b⟩:=ix_some.1 hx11
   refine Ao [0,1,5,17] ?_
   rcases Aq h with ⟨c12,h⟩|⟨c12,h⟩
   ·refine Aj rfl c12<|Ac [4] ?_
    refine AW.ret<|Bd<|Ad<|Ad ?_
    refine ⟨_,oj h,_,Ent.refl,rfl,?_⟩
    (simp only [go_sem,seval,Ay]<;>try simp)
   ·refine Ai rfl c12<|AW.skip<|Ax<|Aa<|Cd [0,1,5] ?_
    refine Aa ?_
    refine ⟨_,oj h,?_⟩
    exact Bg RF.any.qv.qv.qv
  ·refine Ai rfl c10<|AW.exit<|Af<|Af ?_
   refine ⟨_,oj h,_,?_,rfl,rfl⟩
   exact Bg RF.any
 ·intro e st' hX
  rcases y13 with y14|_<;>dsimp only at h hX
  ·obtain ⟨rfl,hf⟩:=hX
   refine ⟨_,Ent.refl,?_⟩
   refine Bd<|Ad ?_
   obtain rfl:=oi h
   exact hf
  ·obtain ⟨rfl,rfl⟩:=hX
   refine ⟨_,Ent.refl,?_⟩
   refine Bc<|Aa<|Ac [4] ?_
   refine AW.ret ?_
   obtain rfl:=oi h
   (simp only [go_sem,seval,Ay]<;>try simp)
def Qo (a0:List Int) (j6_0:Int):Int→Option (Int⊕Int)
  | s9_0=>(if s9_0<(a0.length:Int) then ((ix a0 s9_0).bind fun x110=>(if x110=j6_0 then some (.inl (IntKind.i64.wrap (s9_0+1))) else some (.inr s9_0))) else some (.inr s9_0))
def f54_s10 (a1:List Int) (j6_0:Int):Int→Option (Int⊕Int)
  | s10_0=>(if s10_0<(a1.length:Int) then ((ix a1 s10_0).bind fun x121=>(if x121=j6_0 then some (.inl (IntKind.i64.wrap (s10_0+1))) else some (.inr s10_0))) else some (.inr s10_0))
def Oh (a0:List Int) (a1:List Int) (s1_0:List Int) (s1_1:Int) (s1_2:Int):Int→Option (((List Int)×Int×Int)⊕(List Int))
  | j6_0=>((loopO (Qo a0 j6_0) s1_1).bind fun y113=>((loopO (f54_s10 a1 j6_0) s1_2).bind fun y124=>((Bq s1_0 [j6_0]).bind fun x125=>some (.inl (x125,y113,y124)))))
def Qp (a0:List Int) (a1:List Int) (s1_0:List Int) (s1_1:Int) (s1_2:Int):Unit→Option (((List Int)×Int×Int)⊕(List Int))
  | _=>(if (a1.length:Int)≤s1_2 then ((ix a0 s1_1).bind fun x127=>Oh a0 a1 s1_0 s1_1 s1_2 x127) else (if s1_1<(a0.length:Int) then ((ix a0 s1_1).bind fun x129=>((ix a1 s1_2).bind fun x130=>(if x129≤x130 then Oh a0 a1 s1_0 s1_1 s1_2 x129 else Oh a0 a1 s1_0 s1_1 s1_2 x130))) else ((ix a1 s1_2).bind fun x132=>Oh a0 a1 s1_0 s1_1 s1_2 x132)))
def Ma (a0:List Int) (a1:List Int):(List Int)×Int×Int→Option (((List Int)×Int×Int)⊕(List Int))
  | (s1_0,s1_1,s1_2)=>(if s1_1<(a0.length:Int) then Qp a0 a1 s1_0 s1_1 s1_2 () else (if s1_2<(a1.length:Int) then Qp a0 a1 s1_0 s1_1 s1_2 () else some (.inr s1_0)))
def f54 (a0:List Int) (a1:List Int):Option (List Int):=((loopO (Ma a0 a1) ([],0,0)).bind fun y136=>some y136)
theorem ok54 (a0:List Int) (a1:List Int) (r:(List Int)) (h:f54 a0 a1=some r):PC Tryz.prog 54 [.sl (List.map Bk a0),.sl (List.map Bk a1)] (.fr 1 (List.map Bk r)):=by
 rw [f54] at h
 refine Bi (N:=81) (rs:=[.tmp 4]) Tryz.func54 ?_
 refine Ac [0,1] ?_
 refine Ao [0,1,5] ?_
 refine Ao [0,1,5,6,7] ?_
 refine AW.seq<|AW.block ?_
 obtain ⟨y136,hy136,h⟩:=bO h
 refine AW.loopO (fun s=>⟨(Ag (Ag (Ag (Ag (Ag Az 0 (.sl (List.map Bk a0))) 1 (.sl (List.map Bk a1))) 5 (.own 8 0 s.1.length)) 6 (.val (.int .i64 s.2.1))) 7 (.val (.int .i64 s.2.2))),Bo [] [some (.row 1 true (List.map Bk s.1))],9⟩) (fun z e st'=>e=Exit.exit 0∧st'=⟨(Ag Az 5 (.own 8 0 z.length)),Bo [] [some (.row 1 true (List.map Bk z))],9⟩) hy136 ?_ ?_ ?_
 ·refine Ent.trans (Av 5 1 (by decide) rfl) ?_
  exact Ab [40] RF.any.qv.qv.qo.qv.qv (.nil _) (.ce (.nil _))
 ·clear h hy136
  rintro ⟨s1_0,s1_1,s1_2⟩ x h
  rw [Ma] at h
  refine AW.join (fun s=>⟨(Ag (Ag (Ag (Ag (Ag Az 0 (.sl (List.map Bk a0))) 1 (.sl (List.map Bk a1))) 5 (.own 8 0 s1_0.length)) 6 (.val (.int .i64 s1_1))) 7 (.val (.int .i64 s1_2))),Bo [] [some (.row 1 true (List.map Bk s1_0))],9⟩) (fun s=>Qp a0 a1 s1_0 s1_1 s1_2 s=some x) ?_ ?_
  ·rcases Aq h with ⟨c133,h⟩|⟨c133,h⟩
   ·refine Ao [0,1,5,6,7,18] ?_
    refine Bp rfl rfl<|AW.skip<|Aa ?_
    refine ⟨_,h,?_⟩
    exact Ab [8] RF.any.qv.qv.qo.qv.qv (.nil _) (.ce (.nil _))
   ·refine Ao [0,1,5,6,7,18] ?_
    rcases Aq h with ⟨c134,h⟩|⟨c134,h⟩
    ·refine Aj rfl c134<|AW.skip<|Aa ?_
     refine ⟨_,h,?_⟩
     exact Ab [8] RF.any.qv.qv.qo.qv.qv (.nil _) (.ce (.nil _))
    ·refine Ai rfl c134<|AW.exit<|Af<|Af ?_
     refine ⟨_,oj h,_,?_,rfl,rfl⟩
     exact Ab [8] RF.any.qo (.nil _) (.ce (.nil _))
  ·clear h
   rintro ⟨⟩ h
   rw [Qp] at h
   refine AW.block<|Ac [0,1,5,6,7] ?_
   refine AW.join (fun s=>⟨(Ag (Ag (Ag (Ag (Ag (Ag Az 0 (.sl (List.map Bk a0))) 1 (.sl (List.map Bk a1))) 5 (.own 8 0 s1_0.length)) 6 (.val (.int .i64 s1_1))) 7 (.val (.int .i64 s1_2))) 8 (.val (.int .i64 s))),Bo [] [some (.row 1 true (List.map Bk s1_0))],9⟩) (fun s=>Oh a0 a1 s1_0 s1_1 s1_2 s=some x) ?_ ?_
   ·rcases Aq h with ⟨c126,h⟩|⟨c126,h⟩
    ·refine Dm [0,1,5,6,7,39] [0,0,2,7,15,31,31,95,255,511,1023,1023,4095,8191,1023,1023,50175,115711,262143,524287,1048575] ?_
     generalize hK:AW Tryz.prog _ _ _=K
     simp only [go_sem,seval,eq_true c126]
     subst hK
     refine Bp rfl rfl ?_
     obtain ⟨x127,hx127,h⟩:=bO h
     obtain ⟨hx127a,hx127b⟩:=ix_some.1 hx127
     refine Bz [0,1,5,6,7,8] ?_
     refine Aa ?_
     refine ⟨_,h,?_⟩
     exact Ab [8] RF.any.qv.qv.qo.qv.qv.qv (.nil _) (.ce (.nil _))
    ·rcases Aq h with ⟨c128,h⟩|⟨c128,h⟩
     ·obtain ⟨x129,hx129,h⟩:=bO h
      obtain ⟨hx129a,hx129b⟩:=ix_some.1 hx129
      obtain ⟨x130,hx130,h⟩:=bO h
      obtain ⟨hx130a,hx130b⟩:=ix_some.1 hx130
      refine Dm [0,1,5,6,7,39] [0,0,2,7,15,31,31,95,255,511,1023,1023,4095,8191,1023,1023,50175,115711,262143,524287,1048575] ?_
      generalize hK:AW Tryz.prog _ _ _=K
      simp only [go_sem,seval,eq_false c126,eq_true c128,Ah hx129a,hx129b,Ah hx130a,hx130b]
      subst hK
      rcases Aq h with ⟨c131,h⟩|⟨c131,h⟩
      ·refine Aj rfl c131<|Bz [0,1,5,6,7,8] ?_
       refine Aa ?_
       refine ⟨_,h,?_⟩
       exact Ab [8] RF.any.qv.qv.qo.qv.qv.qv (.nil _) (.ce (.nil _))
      ·refine Ai rfl c131<|Bz [0,1,5,6,7,8] ?_
       refine Aa ?_
       refine ⟨_,h,?_⟩
       exact Ab [8] RF.any.qv.qv.qo.qv.qv.qv (.nil _) (.ce (.nil _))
     ·refine Dm [0,1,5,6,7,39] [0,0,2,7,15,31,31,95,255,511,1023,1023,4095,8191,1023,1023,50175,115711,262143,524287,1048575] ?_
      generalize hK:AW Tryz.prog _ _ _=K
      simp only [go_sem,seval,eq_false c126,eq_false c128]
      subst hK
      refine Bl rfl rfl ?_
      obtain ⟨x132,hx132,h⟩:=bO h
      obtain ⟨hx132a,hx132b⟩:=ix_some.1 hx132
      refine Bz [0,1,5,6,7,8] ?_
      refine Aa ?_
      refine ⟨_,h,?_⟩
      exact Ab [8] RF.any.qv.qv.qo.qv.qv.qv (.nil _) (.ce (.nil _))
   ·clear h
    rintro j6_0 h
    rw [Oh] at h
    refine AW.seq<|AW.block ?_
    obtain ⟨y113,hy113,h⟩:=bO h
    refine AW.loopO (fun s=>⟨(Ag (Ag (Ag (Ag (Ag (Ag Az 0 (.sl (List.map Bk a0))) 1 (.sl (List.map Bk a1))) 5 (.own 8 0 s1_0.length)) 6 (.val (.int .i64 s))) 7 (.val (.int .i64 s1_2))) 8 (.val (.int .i64 j6_0))),Bo [] [some (.row 1 true (List.map Bk s1_0))],9⟩) (fun z e st'=>e=Exit.exit 2∧st'=⟨(Ag (Ag (Ag (Ag (Ag (Ag Az 0 (.sl (List.map Bk a0))) 1 (.sl (List.map Bk a1))) 5 (.own 8 0 s1_0.length)) 6 (.val (.int .i64 z))) 7 (.val (.int .i64 s1_2))) 8 (.val (.int .i64 j6_0))),Bo [] [some (.row 1 true (List.map Bk s1_0))],9⟩) hy113 ?_ ?_ ?_
    ·exact Ab [8] RF.any.qv.qv.qo.qv.qv.qv (.nil _) (.ce (.nil _))
    ·clear h hy113
     rintro s9_0 x h
     rw [Qo] at h
     refine AW.seq ?_
     rcases Aq h with ⟨c109,h⟩|⟨c109,h⟩
     ·obtain ⟨x110,hx110,h⟩:=bO h
      obtain ⟨hx110a,hx110b⟩:=ix_some.1 hx110
      refine Ao [0,1,5,6,7,8,59] ?_
      rcases Aq h with ⟨c111,h⟩|⟨c111,h⟩
      ·refine Aj rfl c111<|AW.skip<|Aa<|AW.block<|Bz [0,1,5,6,7,8] ?_
       refine Ax<|Aa ?_
       refine ⟨_,oj h,?_⟩
       exact Ab [8] RF.any.qv.qv.qo.qv.qv.qv (.nil _) (.ce (.nil _))
      ·refine Ai rfl c111<|AW.exit<|Af<|Af ?_
       refine ⟨_,oj h,_,?_,rfl,rfl⟩
       exact Ab [8] RF.any.qv.qv.qo.qv.qv.qv (.nil _) (.ce (.nil _))
     ·refine Ao [0,1,5,6,7,8,59] ?_
      refine Bl rfl rfl<|AW.exit<|Af<|Af ?_
      refine ⟨_,oj h,_,?_,rfl,rfl⟩
      exact Ab [8] RF.any.qv.qv.qo.qv.qv.qv (.nil _) (.ce (.nil _))
    ·intro e st' hX
     try dsimp only at h
     try dsimp only at hX
     obtain ⟨rfl,rfl⟩:=hX
     refine ⟨_,Ent.refl,?_⟩
     refine Bc<|Aa<|AW.seq<|AW.block ?_
     obtain ⟨y124,hy124,h⟩:=bO h
     refine AW.loopO (fun s=>⟨(Ag (Ag (Ag (Ag (Ag (Ag Az 0 (.sl (List.map Bk a0))) 1 (.sl (List.map Bk a1))) 5 (.own 8 0 s1_0.length)) 6 (.val (.int .i64 y113))) 7 (.val (.int .i64 s))) 8 (.val (.int .i64 j6_0))),Bo [] [some (.row 1 true (List.map Bk s1_0))],9⟩) (fun z e st'=>e=Exit.exit 4∧st'=⟨(Ag (Ag (Ag (Ag (Ag (Ag Az 0 (.sl (List.map Bk a0))) 1 (.sl (List.map Bk a1))) 5 (.own 8 0 s1_0.length)) 6 (.val (.int .i64 y113))) 7 (.val (.int .i64 z))) 8 (.val (.int .i64 j6_0))),Bo [] [some (.row 1 true (List.map Bk s1_0))],9⟩) hy124 ?_ ?_ ?_
     ·exact Ab [8] RF.any.qv.qv.qo.qv.qv.qv (.nil _) (.ce (.nil _))
     ·clear h hy124
      rintro s10_0 x h
      rw [f54_s10] at h
      refine AW.seq ?_
      rcases Aq h with ⟨c120,h⟩|⟨c120,h⟩
      ·obtain ⟨x121,hx121,h⟩:=bO h
       obtain ⟨hx121a,hx121b⟩:=ix_some.1 hx121
       refine Ao [0,1,5,6,7,8,73] ?_
       rcases Aq h with ⟨c122,h⟩|⟨c122,h⟩
       ·refine Aj rfl c122<|AW.skip<|Aa<|AW.block<|Bz [0,1,5,6,7,8] ?_
        refine Ax<|Aa ?_
        refine ⟨_,oj h,?_⟩
        exact Ab [8] RF.any.qv.qv.qo.qv.qv.qv (.nil _) (.ce (.nil _))
       ·refine Ai rfl c122<|AW.exit<|Af<|Af ?_
        refine ⟨_,oj h,_,?_,rfl,rfl⟩
        exact Ab [8] RF.any.qv.qv.qo.qv.qv.qv (.nil _) (.ce (.nil _))
      ·refine Ao [0,1,5,6,7,8,73] ?_
       refine Bl rfl rfl<|AW.exit<|Af<|Af ?_
       refine ⟨_,oj h,_,?_,rfl,rfl⟩
       exact Ab [8] RF.any.qv.qv.qo.qv.qv.qv (.nil _) (.ce (.nil _))
     ·intro e st' hX
      try dsimp only at h
      try dsimp only at hX
      obtain ⟨rfl,rfl⟩:=hX
      refine ⟨_,Ent.refl,?_⟩
      refine Bc<|Aa ?_
      obtain ⟨x125,hx125,h⟩:=bO h
      obtain ⟨hx125b,hx125e⟩:=appO?_some.1 hx125
      have hx125f:∀id o:Nat,Dw 1 8 id ([[.val (.int .i64 j6_0)]]) 0 s1_0.length o (some (.row 1 true (List.map Bk s1_0)))=some ⟨.own id 0 x125.length,[(o,none),(id,some (.row 1 true (List.map Bk x125)))]⟩:=fun id o=>by
        subst hx125e;rw [Bw (by simp) (by simpa using hx125b) (by decide)];first|(simp [Bk];done)|(simp [Bk];omega)
      refine Bz [0,1,5,6,7] ?_
      refine Ax<|Aa ?_
      refine ⟨_,oj h,?_⟩
      exact Ab [33] RF.any.qv.qv.qo.qv.qv (.nil _) (.ce (.nil _))
 ·intro e st' hX
  try dsimp only at h
  try dsimp only at hX
  obtain ⟨rfl,rfl⟩:=hX
  refine ⟨_,Ent.refl,?_⟩
  refine Bc<|Aa<|Ac [4] ?_
  refine AW.ret ?_
  obtain rfl:=oi h
  (simp only [go_sem,seval,Ay]<;>try simp)
def f28_s7 (a0:List Res) (s4_1:Int):(List Int)×Int→Option (((List Int)×Int)⊕(List Int))
  | (s7_0,s7_1)=>((ix a0 s4_1).bind fun x83=>(if s7_1<(x83.Offs.length:Int) then ((ix x83.Offs s7_1).bind fun x85=>((f54 s7_0 [x85]).bind fun x86=>some (.inl (x86,IntKind.i64.wrap (s7_1+1))))) else some (.inr s7_0)))
def f28_s4 (a0:List Res):(List Int)×Int→Option (((List Int)×Int)⊕(List Int))
  | (s4_0,s4_1)=>(if s4_1<(a0.length:Int) then ((loopO (f28_s7 a0 s4_1) (s4_0,0)).bind fun y88=>some (.inl (y88,IntKind.i64.wrap (s4_1+1)))) else some (.inr s4_0))
def Ol (a0:List Res) (x126:Int):(List ByteArray)×Int→Option (((List ByteArray)×Int)⊕(List ByteArray))
  | (s11_0,s11_1)=>(if s11_1<(a0.length:Int) then ((ix a0 s11_1).bind fun x140=>((f24 x140.Offs x126).bind fun x141=>(if x141=true then ((Bq s11_0 [x140.Key]).bind fun x143=>some (.inl (x143,IntKind.i64.wrap (s11_1+1)))) else some (.inl (s11_0,IntKind.i64.wrap (s11_1+1)))))) else some (.inr s11_0))
def Vz (a0:List Res) (y90:List Int):(List Fwd)×Int→Option (((List Fwd)×Int)⊕(List Fwd))
  | (s8_0,s8_1)=>(if s8_1<((y90.length:Nat):Int) then ((ix y90 s8_1).bind fun x126=>((loopO (Ol a0 x126) ([],0)).bind fun y145=>((Bq s8_0 [⟨x126,y145⟩]).bind fun x146=>some (.inl (x146,IntKind.i64.wrap (s8_1+1)))))) else some (.inr s8_0))
def f28 (a0:List Res):Option (List Fwd):=((loopO (f28_s4 a0) ([],0)).bind fun y90=>((loopO (Vz a0 y90) ([],0)).bind fun y148=>some y148))
theorem ok28 (a0:List Res) (r:(List Fwd)) (h:f28 a0=some r):PC Tryz.prog 28 [.sl (List.map Ak a0)] (.fr 2 (List.map Dp r)):=by
 rw [f28] at h
 refine Bi (N:=79) (rs:=[.tmp 2]) Tryz.func28 ?_
 refine Ac [0] ?_
 refine Ac [0,3] ?_
 refine AW.seq<|Ac [0,3,4] ?_
 refine AW.block ?_
 obtain ⟨y90,hy90,h⟩:=bO h
 refine AW.loopO (fun s=>⟨(Ag (Ag (Ag Az 0 (.sl (List.map Ak a0))) 3 (.own 8 0 s.1.length)) 4 (.val (.int .i64 s.2))),Bo [] [some (.row 1 true (List.map Bk s.1))],9⟩) (fun z e st'=>e=Exit.exit 0∧st'=⟨(Ag (Ag Az 0 (.sl (List.map Ak a0))) 3 (.own 8 0 z.length)),Bo [] [some (.row 1 true (List.map Bk z))],9⟩) hy90 ?_ ?_ ?_
 ·refine Ent.trans (Av 3 1 (by decide) rfl) ?_
  exact Ab [32] RF.any.qv.qo.qv (.nil _) (.ce (.nil _))
 ·clear h hy90
  rintro ⟨s4_0,s4_1⟩ x h
  rw [f28_s4] at h
  refine AW.seq<|Ac [0,3,4,13] ?_
  rcases Aq h with ⟨c68,h⟩|⟨c68,h⟩
  ·refine Aj rfl c68<|AW.skip<|Aa<|AW.seq<|AW.block<|Ac [0,3,4,5] ?_
   refine AW.block ?_
   obtain ⟨y88,hy88,h⟩:=bO h
   refine AW.loopO (fun s=>⟨(Ag (Ag (Ag (Ag Az 0 (.sl (List.map Ak a0))) 3 (.own 8 0 s.1.length)) 4 (.val (.int .i64 s4_1))) 5 (.val (.int .i64 s.2))),Bo [] [some (.row 1 true (List.map Bk s.1))],9⟩) (fun z e st'=>e=Exit.exit 2∧st'=⟨(Ag (Ag (Ag Az 0 (.sl (List.map Ak a0))) 3 (.own 8 0 z.length)) 4 (.val (.int .i64 s4_1))),Bo [] [some (.row 1 true (List.map Bk z))],9⟩) hy88 ?_ ?_ ?_
   ·exact Ab [8] RF.any.qv.qo.qv.qv (.nil _) (.ce (.nil _))
   ·clear h hy88
    rintro ⟨s7_0,s7_1⟩ x h
    rw [f28_s7] at h
    refine AW.seq ?_
    obtain ⟨x83,hx83,h⟩:=bO h
    obtain ⟨hx83a,hx83b⟩:=ix_some.1 hx83
    refine Re [0,3,4,5,23] ?_
    rcases Aq h with ⟨c84,h⟩|⟨c84,h⟩
    ·refine Aj rfl c84<|AW.skip<|Aa<|AW.seq<|AW.block ?_
     obtain ⟨x85,hx85,h⟩:=bO h
     obtain ⟨hx85a,hx85b⟩:=ix_some.1 hx85
     obtain ⟨x86,hx86,h⟩:=bO h
     refine AW.vD [0,3,4,5] (ok54 s7_0 [x85] x86 hx86) Tryz.call54 ?_
     refine Ax<|Aa<|Cd [0,3,4,5] ?_
     refine Aa ?_
     refine ⟨_,oj h,?_⟩
     exact Ab [153] RF.any.qv.qo.qv.qv (.nil _) (.ce (.nil _))
    ·refine Ai rfl c84<|AW.exit<|Af<|Af ?_
     refine ⟨_,oj h,_,?_,rfl,rfl⟩
     exact Ab [8] RF.any.qv.qo.qv (.nil _) (.ce (.nil _))
   ·intro e st' hX
    try dsimp only at h
    try dsimp only at hX
    obtain ⟨rfl,rfl⟩:=hX
    refine ⟨_,Ent.refl,?_⟩
    refine Bc<|Ax<|Aa<|Cd [0,3,4] ?_
    refine Aa ?_
    refine ⟨_,oj h,?_⟩
    exact Ab [8] RF.any.qv.qo.qv (.nil _) (.ce (.nil _))
  ·refine Ai rfl c68<|AW.exit<|Af<|Af ?_
   refine ⟨_,oj h,_,?_,rfl,rfl⟩
   exact Ab [8] RF.any.qv.qo (.nil _) (.ce (.nil _))
 ·intro e st' hX
  try dsimp only at h
  try dsimp only at hX
  obtain ⟨rfl,rfl⟩:=hX
  refine ⟨_,Ent.refl,?_⟩
  refine Bc<|Aa<|Ac [0,3,6] ?_
  refine AW.seq<|Ac [0,3,6,7] ?_
  refine AW.block ?_
  obtain ⟨y148,hy148,h⟩:=bO h
  refine AW.loopO (fun s=>⟨(Ag (Ag (Ag (Ag Az 0 (.sl (List.map Ak a0))) 3 (.own 8 0 y90.length)) 6 (.own 9 0 s.1.length)) 7 (.val (.int .i64 s.2))),Bo [] [some (.row 1 true (List.map Bk y90)),some (.row 2 true (List.map Dp s.1))],10⟩) (fun z e st'=>e=Exit.exit 4∧st'=⟨(Ag Az 6 (.own 8 0 z.length)),Bo [] [some (.row 2 true (List.map Dp z))],9⟩) hy148 ?_ ?_ ?_
  ·refine Ent.trans (Av 6 2 (by decide) rfl) ?_
   exact Ab [8,25] RF.any.qv.qo.qo.qv (.nil _) (.ce (.ce (.nil _)))
  ·clear h hy148
   rintro ⟨s8_0,s8_1⟩ x h
   rw [Vz] at h
   refine AW.seq<|Ac [0,3,6,7,40] ?_
   rcases Aq h with ⟨c125,h⟩|⟨c125,h⟩
   ·refine Aj rfl c125<|AW.skip<|Aa<|AW.seq<|AW.block ?_
    obtain ⟨x126,hx126,h⟩:=bO h
    obtain ⟨hx126a,hx126b⟩:=ix_some.1 hx126
    refine Cb [0,3,6,7,8] fun K hK=>?_
    simp only [go_sem,seval,Ah hx126a,hx126b,Cm hx126b]
    subst hK
    refine AW.seq<|Ac [0,3,6,7,8,9] ?_
    refine AW.block ?_
    obtain ⟨y145,hy145,h⟩:=bO h
    refine AW.loopO (fun s=>⟨(Ag (Ag (Ag (Ag (Ag (Ag Az 0 (.sl (List.map Ak a0))) 3 (.own 8 0 y90.length)) 6 (.own 9 0 s8_0.length)) 7 (.val (.int .i64 s8_1))) 8 (.ptr 10 0 0)) 9 (.val (.int .i64 s.2))),Bo [] [some (.row 1 true (List.map Bk y90)),some (.row 2 true (List.map Dp s8_0)),some (.row 2 true [[.val (.int .i64 x126),.own 11 0 s.1.length]]),some (.row 1 true (List.map Cr s.1))],12⟩) (fun z e st'=>e=Exit.exit 6∧st'=⟨(Ag (Ag (Ag (Ag (Ag Az 0 (.sl (List.map Ak a0))) 3 (.own 8 0 y90.length)) 6 (.own 9 0 s8_0.length)) 7 (.val (.int .i64 s8_1))) 8 (.ptr 10 0 0)),Bo [] [some (.row 1 true (List.map Bk y90)),some (.row 2 true (List.map Dp s8_0)),some (.row 2 true [[.val (.int .i64 x126),.own 11 0 z.length]]),some (.row 1 true (List.map Cr z))],12⟩) hy145 ?_ ?_ ?_
    ·refine Ent.trans (Xg 82 1 1 (by decide) (by first|rfl|simp [Ae]) rfl) ?_
     exact Ab [8,9,82,106] RF.any.qv.qo.qo.qv.qp.qv (.nil _) (.ce (.ce (.cons (.tok (by simp [Bn,By,Cy]) (by first|rfl|simp [Ae,Ap,Cv,Bh,Bb,Ar,eq_true c125])) (.ce (.nil _)))))
    ·clear h hy145
     rintro ⟨s11_0,s11_1⟩ x h
     rw [Ol] at h
     refine AW.seq<|Ac [0,3,6,7,8,9,51] ?_
     rcases Aq h with ⟨c139,h⟩|⟨c139,h⟩
     ·refine Aj rfl c139<|AW.skip<|Aa<|AW.seq<|AW.block ?_
      obtain ⟨x140,hx140,h⟩:=bO h
      obtain ⟨hx140a,hx140b⟩:=ix_some.1 hx140
      obtain ⟨x141,hx141,h⟩:=bO h
      refine Sb [0,3,6,7,8,9,63] [0,0,3,7,15,0,0,96,224,511] (ok24 x140.Offs x126 x141 hx141) Tryz.call24 ?_
      generalize hK:AW Tryz.prog _ _ _=K
      simp only [go_sem,seval,Ah hx140a,hx140b,Ah hx126a,hx126b,Cm hx126b]
      subst hK
      rcases Aq h with ⟨c142,h⟩|⟨c142,h⟩
      ·refine Bp rfl c142 ?_
       obtain ⟨x143,hx143,h⟩:=bO h
       obtain ⟨hx143b,hx143e⟩:=appO?_some.1 hx143
       have hx143f:∀id o:Nat,Dw 1 16 id ([[.val (.string x140.Key)]]) 0 s11_0.length o (some (.row 1 true (List.map Cr s11_0)))=some ⟨.own id 0 x143.length,[(o,none),(id,some (.row 1 true (List.map Cr x143)))]⟩:=fun id o=>by
         subst hx143e;rw [Bw (by simp) (by simpa using hx143b) (by decide)];first|(simp [Cr];done)|(simp [Cr];omega)
       refine Nt [0,3,6,7,8,9] [0,1,0,0,12,28,60,124,255,511,1023] ?_
       generalize hK:Dk _ _ Exit.normal=K
       simp only [go_sem,seval,c142,Ah hx140a,hx140b,hx143f]
       subst hK
       refine Ax<|Aa<|Uw [0,3,6,7,8,9] ?_
       refine Aa ?_
       refine ⟨_,oj h,?_⟩
       exact Ab [8,9,10,188] RF.any.qv.qo.qo.qv.qp.qv (.nil _) (.ce (.ce (.cons (.tok (by simp [Bn,By,Cy]) (by first|rfl|simp [Ae,Ap,Cv,Bh,Bb,Ar,eq_true c125,eq_true c139,c142])) (.ce (.nil _)))))
      ·rw [Bool.not_eq_true] at c142
       refine Bl rfl c142<|AW.skip<|Ax<|Aa<|Bz [0,3,6,7,8,9] ?_
       refine Aa ?_
       refine ⟨_,oj h,?_⟩
       exact Ab [8,9,10,11] RF.any.qv.qo.qo.qv.qp.qv (.nil _) (.ce (.ce (.cons (.tok (by simp [Bn,By,Cy]) (by first|rfl|simp [Ae,Ap,Cv,Bh,Bb,Ar,eq_true c125,eq_true c139,c142])) (.ce (.nil _)))))
     ·refine Ai rfl c139<|AW.exit<|Af<|Af ?_
      refine ⟨_,oj h,_,?_,rfl,rfl⟩
      exact Ab [8,9,10,11] RF.any.qv.qo.qo.qv.qp (.nil _) (.ce (.ce (.cons (.tok (by simp [Bn,By,Cy]) (by first|rfl|simp [Ae,Ap,Cv,Bh,Bb,Ar,eq_true c125,eq_false c139])) (.ce (.nil _)))))
    ·intro e st' hX
     try dsimp only at h
     try dsimp only at hX
     obtain ⟨rfl,rfl⟩:=hX
     refine ⟨_,Ent.refl,?_⟩
     refine Bc<|Aa<|AW.ent (Lk (pre:=[.val (.int .i64 x126)]) (post:=[]) (q:=11) (off:=0) (len:=y145.length) 10 rfl (Fg (sz:=1) (m:=true) rfl (by first|rfl|(simp [Ar];done)|(simp [Ar];omega)) (by simp only [go_sem])) (by decide)) ?_
     obtain ⟨x146,hx146,h⟩:=bO h
     obtain ⟨hx146b,hx146e⟩:=appO?_some.1 hx146
     have hx146f:∀id o:Nat,Dw 2 32 id ([[.val (.int .i64 x126),.sl (List.map Cr y145)]]) 0 s8_0.length o (some (.row 2 true (List.map Dp s8_0)))=some ⟨.own id 0 x146.length,[(o,none),(id,some (.row 2 true (List.map Dp x146)))]⟩:=fun id o=>by
       subst hx146e;rw [Bw (by simp) (by simpa using hx146b) (by decide)];first|(simp [Dp];done)|(simp [Dp];omega)
     refine Bz [0,3,6,7] ?_
     refine Ax<|Aa<|Cd [0,3,6,7] ?_
     refine Aa ?_
     refine ⟨_,oj h,?_⟩
     exact Ab [8,36] RF.any.qv.qo.qo.qv (.nil _) (.ce (.ce (.nil _)))
   ·refine Ai rfl c125<|AW.exit<|Af<|Af ?_
    refine ⟨_,oj h,_,?_,rfl,rfl⟩
    exact Ab [9] RF.any.qo (.nil _) (.ce (.nil _))
  ·intro e st' hX
   try dsimp only at h
   try dsimp only at hX
   obtain ⟨rfl,rfl⟩:=hX
   refine ⟨_,Ent.refl,?_⟩
   refine Bc<|Aa<|Ac [2] ?_
   refine AW.ret ?_
   obtain rfl:=oi h
   (simp only [go_sem,seval,Ay]<;>try simp)
abbrev Nf (l:List Int):Prop:=l.Pairwise (· < ·)
theorem rise_of {l:List Int} (h:Dg l):Nf l:=by
 have key:∀k i,i+k+1<l.length→l.getD i 0<l.getD (i+k+1) 0:=fun k=>by
  have st:∀j,j+1<l.length→l.getD j 0<l.getD (j+1) 0:=fun j hj=>by
   have:=h.2 (j+1) hj
   simp only [Lv,decide_eq_true_eq] at this
   exact this.2.2 (by omega)
  induction k with
  | zero=>intro i hi;exact st i hi
  | succ k ih =>
   intro i hi
   have h1:=ih i (by omega)
   have h2:=st (i+k+1) hi
   rw [show i+(k+1)+1=i+k+1+1 by omega]
   omega
 refine List.pairwise_iff_getElem.2 fun i j hi hj hij=>?_
 have:=key (j-i-1) i (by omega)
 rw [show i+(j-i-1)+1=j by omega] at this
 simpa [List.getD,hi,hj] using this
theorem rise_rng {l:List Int} (h:Dg l):∀x∈l,0≤x∧x≤1048576:=fun x hx=>by
 obtain ⟨i,hi,rfl⟩:=List.getElem_of_mem hx
 have:=h.2 i hi
 simp only [Lv,decide_eq_true_eq] at this
 simp [List.getD,hi] at this
 omega
theorem Lt {l:List Int} (h:Nf l):l.Nodup:=h.imp fun h e=>by omega
theorem rise_ge {l:List Int} (h:Nf l) (h0:∀x∈l,0≤x):∀i (hi:i<l.length),(i:Int)≤l[i]:=fun i=>by
 induction i with
 | zero=>intro hi;exact h0 _ (List.getElem_mem hi)
 | succ i ih =>
  intro hi
  have h1:=ih (by omega)
  have h2:=List.pairwise_iff_getElem.1 h i (i+1) (by omega) hi (by omega)
  omega
theorem Py {l:List Int} {n:Nat} (h:Nf l) (hr:∀x∈l,0≤x∧x≤n):l.length≤n+1:=by
 rcases Nat.eq_zero_or_pos l.length with e|e
 · omega
 · have h1:=rise_ge h (fun x hx=>(hr x hx).1) (l.length-1) (by omega)
   have h2:=(hr _ (List.getElem_mem (show l.length-1<l.length by omega))).2
   omega
theorem right_of {l:List Int} (h:Nf l) (hr:∀x∈l,0≤x∧x≤2500):Dg l:=by
 have hl:=Py (n:=2500) h hr
 refine ⟨by omega,fun i hi=>?_⟩
 have:=hr _ (List.getElem_mem hi)
 simp only [Lv,decide_eq_true_eq]
 refine ⟨by simp [List.getD,hi];omega,by simp [List.getD,hi];omega,fun h0=>?_⟩
 have h2:=List.pairwise_iff_getElem.1 h (i-1) i (by omega) hi (by omega)
 simpa [List.getD,hi,show i-1<l.length by omega] using h2
theorem rise_uniq {a b:List Int} (ha:Nf a) (hb:Nf b) (h:∀x,x∈a↔x∈b):a=b :=
 List.Perm.eq_of_pairwise (le:=fun a b=>a<b) (fun a b _ _ h1 h2=>by omega) ha hb ((List.perm_ext_iff_of_nodup (Lt ha) (Lt hb)).2 h)
theorem sort_rise {l:List Int} (h:Nf l):Kk l=l:=List.mergeSort_of_pairwise (h.imp fun h=>decide_eq_true (by omega))
theorem comp_rise {l:List Int} (h:Nf l):compI l=l:=by
 have hf:(List.range l.length).filter (Lib.keeps l.toArray)=List.range l.length:=List.filter_eq_self.2 fun j hj=>by
  have hj:=List.mem_range.1 hj
  rcases Nat.eq_zero_or_pos j with e|e
  · subst e;simp [Lib.keeps]
  · have h2:=List.pairwise_iff_getElem.1 h (j-1) j (by omega) hj (by omega)
    simp [Lib.keeps,hj,show j-1<l.length by omega]
    omega
 unfold compI Lib.compact Lib.compactUpTo
 rw [hf]
 apply List.ext_getElem
 · simp
 · intro i h1 h2
   simp [h2]
theorem sort_nodup {l:List Int} (h:l.Nodup):Nf (Kk l):=by
 have h1:(Kk l).Pairwise (fun a b=>decide (a≤b)=true):=List.pairwise_mergeSort (fun a b c h1 h2=>by simp only [decide_eq_true_eq] at *;omega) (fun a b=>by simp only [Bool.or_eq_true,decide_eq_true_eq];omega) l
 have h2:(Kk l).Nodup:=(List.mergeSort_perm l _).nodup_iff.2 h
 refine (List.Pairwise.and h1 h2).imp fun {a b} h=>?_
 have:=of_decide_eq_true h.1
 have:=h.2
 omega
theorem getT_add (o x:Int) (s:ByteArray):∀T:MT,Ik x (Li o s T)=if x=o then Ik x T++[s] else Ik x T
 | []=>by
  by_cases e:x=o
  · subst e;simp [Li,Ik]
  · simp [Li,Ik,e,show ¬o=x from fun q=>e q.symm]
 | (k,l)::T=>by
  have ih:=getT_add o x s T
  by_cases e:k=o
  · subst e
    by_cases e2:x=k
    · subst e2;simp [Li,Ik]
    · simp [Li,Ik,e2,show ¬k=x from fun q=>e2 q.symm]
  · simp only [Li,if_neg e,Ik]
    by_cases e2:k=x
    · subst e2;simp [e]
    · simp only [if_neg e2,ih]
theorem keys_add (o:Int) (s:ByteArray):∀T:MT,(Li o s T).map (·.1)=if o∈T.map (·.1) then T.map (·.1) else T.map (·.1)++[o]
 | []=>by simp [Li]
 | (k,l)::T=>by
  have ih:=keys_add o s T
  by_cases e:k=o
  · subst e;simp [Li]
  · simp only [Li,if_neg e,List.map_cons,ih,List.mem_cons,show ¬o=k from fun q=>e q.symm,false_or]
    split<;>rfl
theorem mem_add (o x:Int) (s:ByteArray) (T:MT):x∈(Li o s T).map (·.1)↔x=o∨x∈T.map (·.1):=by
 rw [keys_add]
 split
 · rename_i h
   exact ⟨.inr,fun h'=>h'.elim (fun e=>e▸h) id⟩
 · rw [List.mem_append,List.mem_singleton,or_comm]
theorem nodup_add (o:Int) (s:ByteArray) (T:MT) (h:(T.map (·.1)).Nodup):((Li o s T).map (·.1)).Nodup:=by
 rw [keys_add]
 split
 · exact h
 · rename_i hn
   exact List.nodup_append.2 ⟨h,by simp,fun a ha b hb e=>by rw [List.mem_singleton] at hb;subst hb;subst e;exact hn ha⟩
def It (key:ByteArray) (l:List Int) (T:MT):MT:=l.foldl (fun T o=>Li o key T) T
theorem foldO_take {key:ByteArray} {l:List Int} {T:MT} {i:Nat} (h:i<l.length):It key (l.take (i+1)) T=Li l[i] key (It key (l.take i) T):=by
 rw [List.take_succ_eq_append_getElem h];simp only [It,List.foldl_append,List.foldl_cons,List.foldl_nil]
theorem Sl {key:ByteArray} {x:Int}:∀{l:List Int} {T:MT},l.Nodup→Ik x (It key l T)=Ik x T++(if x∈l then [key] else [])
 | [],T,_=>by simp [It]
 | o::l,T,h=>by
  obtain ⟨h1,h2⟩:=List.nodup_cons.1 h
  have ih:=Sl (key:=key) (x:=x) (l:=l) (T:=Li o key T) h2
  show Ik x (It key l (Li o key T))=_
  rw [ih,getT_add]
  by_cases e:x=o
  · subst e;simp [h1]
  · simp [e]
theorem keys_foldO {key:ByteArray}:∀{l:List Int} {T:MT},(∀x,x∈(It key l T).map (·.1)↔x∈l∨x∈T.map (·.1))∧((T.map (·.1)).Nodup→((It key l T).map (·.1)).Nodup)
 | [],T=>⟨by simp [It],id⟩
 | o::l,T=>by
  obtain ⟨h1,h2⟩:=keys_foldO (key:=key) (l:=l) (T:=Li o key T)
  refine ⟨fun x=>(h1 x).trans ?_,fun h=>h2 (nodup_add o key T h)⟩
  rw [mem_add,List.mem_cons]
  constructor
  · rintro (h|h|h)
    · exact .inl (.inr h)
    · exact .inl (.inl h)
    · exact .inr h
  · rintro ((h|h)|h)
    · exact .inr (.inl h)
    · exact .inl h
    · exact .inr (.inr h)
def fw (J:List Res) (o:Int):List ByteArray:=(J.filter fun r=>decide (o∈r.Offs)).map (·.Key)
def Hb (J:List Res) (T:MT):MT:=J.foldl (fun T r=>It r.Key r.Offs T) T
theorem foldA_take {J:List Res} {T:MT} {i:Nat} (h:i<J.length):Hb (J.take (i+1)) T=It J[i].Key J[i].Offs (Hb (J.take i) T):=by
 rw [List.take_succ_eq_append_getElem h];simp only [Hb,List.foldl_append,List.foldl_cons,List.foldl_nil]
theorem Sm {x:Int}:∀{J:List Res} {T:MT},(∀r∈J,r.Offs.Nodup)→Ik x (Hb J T)=Ik x T++fw J x
 | [],T,_=>by simp [Hb,fw]
 | r::J,T,h=>by
  have ih:=Sm (x:=x) (J:=J) (T:=It r.Key r.Offs T) fun q hq=>h q (by simp [hq])
  show Ik x (Hb J (It r.Key r.Offs T))=_
  rw [ih,Sl (h r (by simp))]
  by_cases e:x∈r.Offs<;>simp [fw,e]
theorem keys_foldA:∀{J:List Res} {T:MT},(∀x,x∈(Hb J T).map (·.1)↔(∃r∈J,x∈r.Offs)∨x∈T.map (·.1))∧((T.map (·.1)).Nodup→((Hb J T).map (·.1)).Nodup)
 | [],T=>⟨by simp [Hb],id⟩
 | r::J,T=>by
  obtain ⟨h1,h2⟩:=keys_foldA (J:=J) (T:=It r.Key r.Offs T)
  obtain ⟨h3,h4⟩:=keys_foldO (key:=r.Key) (l:=r.Offs) (T:=T)
  refine ⟨fun x=>(h1 x).trans ?_,fun h=>h2 (h4 h)⟩
  rw [h3]
  constructor
  · rintro (⟨q,hq,hx⟩|h|h)
    · exact .inl ⟨q,by simp [hq],hx⟩
    · exact .inl ⟨r,by simp,h⟩
    · exact .inr h
  · rintro (⟨q,hq,hx⟩|h)
    · rcases List.mem_cons.1 hq with rfl|hq
      · exact .inr (.inl hx)
      · exact .inl ⟨q,hq,hx⟩
    · exact .inr (.inr h)
theorem Vm (J:List Res) (o:Int):(fw J o).length≤J.length:=by
 simp only [fw,List.length_map];exact List.length_filter_le ..
theorem inner_eq (cs:List Int) (key:ByteArray) (T:MT) (hn:cs.Nodup) (hl:cs.length≤1000000) (hT:∀o,(Ik o T).length≤1000000):loopO (f49_b cs key) (T,0)=some (It key cs T):=by
 have:=Da (step:=f49_b cs key) (fun i=>(It key (cs.take i) T,(i:Int))) cs.length (r:=It key cs T) (fun i hi=>by
  have hnt:(cs.take i).Nodup:=hn.sublist (List.take_sublist ..)
  have hg:Ik cs[i] (It key (cs.take i) T)=Ik cs[i] T:=by
   rw [Sl hnt,if_neg ?_,List.append_nil]
   intro h
   have h2:(cs.take i++[cs[i]]).Nodup:=by rw [←List.take_succ_eq_append_getElem hi];exact hn.sublist (List.take_sublist ..)
   exact (List.nodup_append.1 h2).2.2 _ h _ (List.mem_singleton.2 rfl) rfl
  have hap:Bq (Ik cs[i] (It key (cs.take i) T)) [key]=some (Ik cs[i] T++[key]):=by rw [hg];exact Ct (by have:=hT cs[i];omega) (by simp)
  simp only [f49_b,if_pos (show (i:Int)<(cs.length:Int) by omega),Ep hi,Option.bind_some,hap,foldO_take hi,Ch (show i≤10000000000 by omega)]) (by
  simp only [f49_b,if_neg (show ¬(cs.length:Int)<(cs.length:Int) by omega),List.take_length])
 simpa [It] using this
theorem outer_eq (J:List Res) (hl:J.length≤1000000) (hr:∀r∈J,Dg r.Offs):loopO (f49_a J) ([],0)=some (Hb J []):=by
 have hno:∀r∈J,r.Offs.Nodup:=fun r hr'=>Lt (rise_of (hr r hr'))
 have:=Da (step:=f49_a J) (fun i=>(Hb (J.take i) [],(i:Int))) J.length (r:=Hb J []) (fun i hi=>by
  have hR:=hr _ (List.getElem_mem hi)
  have hri:=rise_of hR
  have hrl:=hR.1
  have e84:Ty J[i].Offs=some J[i].Offs:=by
   simp only [Ty,Uc,if_pos (show J[i].Offs.length≤2147483648 by omega),Option.bind_some,f114,if_pos (show J[i].Offs.length<4611686018427387904 by omega),sort_rise hri]
  have e83:f83 J[i].Offs=some J[i].Offs:=by simp only [f83,if_pos (show J[i].Offs.length<4611686018427387904 by omega),comp_rise hri]
  have hin:=inner_eq J[i].Offs J[i].Key (Hb (J.take i) []) (Lt hri) (by omega) (fun o=>by
   rw [Sm (fun r hr'=>hno r (List.mem_of_mem_take hr'))]
   have:=Vm (J.take i) o
   have h2:(Ik o []).length=0:=rfl
   have h3:=List.length_take_le i J
   rw [List.length_append];omega)
  simp only [f49_a,if_pos (show (i:Int)<(J.length:Int) by omega),Ep hi,Option.bind_some,f85,e84,e83,hin,foldA_take hi,Ch (show i≤10000000000 by omega)]) (by
  simp only [f49_a,if_neg (show ¬(J.length:Int)<(J.length:Int) by omega),List.take_length])
 simpa [Hb] using this
structure IsOffs (J:List Res) (ks:List Int):Prop where
 rise:Nf ks
 mem:∀x,x∈ks↔∃r∈J,x∈r.Offs
def Ie (J:List Res) (ks:List Int):List Fwd:=ks.map fun o=>⟨o,fw J o⟩
theorem wf_small {k:Int} (h0:0≤k) (h:k≤2500):(Lit.int .i64 k).wf=true:=by
 have h1:IntKind.i64.min = -9223372036854775808:=by decide
 have h2:IntKind.i64.max=9223372036854775807:=by decide
 simp only [Lit.wf,h1,h2,Bool.and_eq_true,decide_eq_true_eq];omega
theorem turn_prog (J:List Res) (hl:J.length≤1000000) (hr:∀r∈J,Dg r.Offs) (ho:∀r∈J,∀o∈r.Offs,o≤2500):∃ks,f49 J=some (Ie J ks)∧IsOffs J ks∧∀x∈ks,0≤x∧x≤2500:=by
 have hno:∀r∈J,r.Offs.Nodup:=fun r hr'=>Lt (rise_of (hr r hr'))
 obtain ⟨k1,k2⟩:=keys_foldA (J:=J) (T:=[])
 have k2:=k2 .nil
 have hm:∀x,x∈Kk ((Hb J []).map (·.1))↔∃r∈J,x∈r.Offs:=fun x=>by
  rw [show x∈Kk ((Hb J []).map (·.1))↔x∈(Hb J []).map (·.1) from List.mem_mergeSort,k1];simp
 have hrg:∀x,(∃r∈J,x∈r.Offs)→0≤x∧x≤2500:=fun x ⟨r,h1,h2⟩=>⟨(rise_rng (hr r h1) x h2).1,ho r h1 x h2⟩
 have hR:=sort_nodup k2
 have hlen:=Py (n:=2500) hR fun x hx=>hrg x ((hm x).1 hx)
 refine ⟨Kk ((Hb J []).map (·.1)),?_,⟨hR,hm⟩,fun x hx=>hrg x ((hm x).1 hx)⟩
 have e84:Tx ((Hb J []).map (·.1))=some (Kk ((Hb J []).map (·.1))):=by
  refine if_pos ⟨by rw [sortI_len] at hlen;omega,fun k hk=>?_⟩
  have:=hrg k (by have:=(k1 k).1 hk;simpa using this)
  exact wf_small this.1 this.2
 have hT:∀o,Ik o (Hb J [])=fw J o:=fun o=>by rw [Sm hno];rfl
 generalize Kk ((Hb J []).map (·.1))=ks at *
 have hc:=Da (step:=f49_c (Hb J []) ks) (fun i=>(Ie J (ks.take i),(i:Int))) ks.length (r:=Ie J ks) (fun i hi=>by
  have hap:Bq (Ie J (ks.take i)) [⟨ks[i],fw J ks[i]⟩]=some (Ie J (ks.take (i+1))):=by
   rw [Ct (by simp [Ie];omega) (by simp),List.take_succ_eq_append_getElem hi];simp only [Ie,List.map_append,List.map_cons,List.map_nil]
  simp only [f49_c,if_pos (show (i:Int)<(ks.length:Int) by omega),Ep hi,Option.bind_some,hT,hap,Ch (show i≤10000000000 by omega)]) (by
  simp only [f49_c,if_neg (show ¬(ks.length:Int)<(ks.length:Int) by omega),List.take_length])
 simp only [f49,outer_eq J hl hr,Option.bind_some,e84]
 simpa [Ie] using hc
theorem has_eq (l:List Int) (o:Int) (hl:l.length≤1000000):f24 l o=some (decide (o∈l)):=by
 have key:∃r,loopO (Wb l o) 0=some r∧(r=.inl true∧o∈l∨r=.inr ()∧o∉l):=by
  refine Dv (fun n s=>∃i:Nat,s=(i:Int)∧i≤l.length∧o∉l.take i∧n=l.length-i) ?_ (k:=l.length) ⟨0,rfl,by omega,by simp,rfl⟩
  rintro n _ ⟨i,rfl,hi,hm,hn⟩
  by_cases c:i<l.length
  · by_cases e:l[i]=o
    · exact .inr ⟨_,by simp only [Wb,if_pos (show (i:Int)<(l.length:Int) by omega),Ep c,Option.bind_some,if_pos e],.inl ⟨rfl,e▸List.getElem_mem c⟩⟩
    · refine .inl ⟨((i+1:Nat):Int),n-1,by simp only [Wb,if_pos (show (i:Int)<(l.length:Int) by omega),Ep c,Option.bind_some,if_neg e,Ch (show i≤10000000000 by omega)],by omega,i+1,rfl,by omega,fun ho=>?_,by omega⟩
      rw [List.take_succ_eq_append_getElem c] at ho
      rcases List.mem_append.1 ho with ho|ho
      · exact hm ho
      · rw [List.mem_singleton] at ho;exact e ho.symm
  · refine .inr ⟨_,by simp only [Wb,if_neg (show ¬(i:Int)<(l.length:Int) by omega)],.inr ⟨rfl,?_⟩⟩
    rwa [List.take_of_length_le (by omega)] at hm
 obtain ⟨r,k1,k2⟩:=key
 rcases k2 with ⟨rfl,h⟩|⟨rfl,h⟩
 · simp only [f24,k1,Option.bind_some,h,decide_true]
 · simp only [f24,k1,Option.bind_some,h,decide_false]
theorem s9_eq {a:List Int} (hl:a.length≤1000000) (h:Nf a) (i:Nat) (v:Int):∃j:Nat,loopO (Qo a v) (i:Int)=some (j:Int)∧((∃c:i<a.length,a[i]=v∧j=i+1)∨(j=i∧∀c:i<a.length,a[i]≠v)):=by
 by_cases c:i<a.length
 · by_cases e:a[i]=v
   · refine ⟨i+1,(Bj (s':=((i+1:Nat):Int)) ?_).trans (Al ?_),.inl ⟨c,e,rfl⟩⟩
     · simp only [Qo,if_pos (show (i:Int)<(a.length:Int) by omega),Ep c,Option.bind_some,if_pos e,Ch (show i≤10000000000 by omega)]
     · by_cases c2:i+1<a.length
       · have:=List.pairwise_iff_getElem.1 h i (i+1) c c2 (by omega)
         simp only [Qo,if_pos (show ((i+1:Nat):Int)<(a.length:Int) by omega),Ep c2,Option.bind_some,if_neg (show ¬a[i+1]=v by omega)]
       · simp only [Qo,if_neg (show ¬((i+1:Nat):Int)<(a.length:Int) by omega)]
   · exact ⟨i,Al (by simp only [Qo,if_pos (show (i:Int)<(a.length:Int) by omega),Ep c,Option.bind_some,if_neg e]),.inr ⟨rfl,fun _=>e⟩⟩
 · exact ⟨i,Al (by simp only [Qo,if_neg (show ¬(i:Int)<(a.length:Int) by omega)]),.inr ⟨rfl,fun h=>absurd h c⟩⟩
structure BI (a:List Int) (x:Int) (n:Nat) (out:List Int) (i k:Nat):Prop where
 i1:i≤a.length
 k1:k≤1
 rise:Nf out
 mem:∀y,y∈out↔y∈a.take i∨(k=1∧y=x)
 lo:∀y∈out,∀q (hq:q<a.length),i≤q→y<a[q]
 lx:k=0→∀y∈out,y<x
 len:out.length≤i+k
 m:n=(a.length-i)+(1-k)
theorem j6_eq {a:List Int} (hl:a.length≤1000000) (h:Nf a) (x:Int) (n:Nat) (out:List Int) (i k:Nat) (hI:BI a x n out i k) (v:Int) (hv:∀q (hq:q<a.length),i≤q→v≤a[q]) (hx:k=0→v≤x) (hin:(∃c:i<a.length,a[i]=v)∨(k=0∧x=v)) :
  ∃i' k' n':Nat,Oh a [x] out (i:Int) (k:Int) v=some (.inl (out++[v],(i':Int),(k':Int)))∧n'<n∧BI a x n' (out++[v]) i' k':=by
 obtain ⟨h1,h2,h3,h4,h5,h6,h7,h8⟩:=hI
 obtain ⟨i',e1,e2⟩:=s9_eq hl h i v
 obtain ⟨k',g1,g2⟩:=s9_eq (a:=[x]) (by simp) (by simp [Nf]) k v
 have g1':loopO (f54_s10 [x] v) (k:Int)=some (k':Int):=g1
 have hap:Bq out [v]=some (out++[v]):=Ct (by omega) (by simp)
 have hk:(k=0∧x=v∧k'=1)∨(k'=k∧(k=0→x≠v)):=by
  rcases g2 with ⟨c,c2,c3⟩|⟨c,c2⟩
  · simp at c;subst c;simp at c2;exact .inl ⟨rfl,c2,by omega⟩
  · exact .inr ⟨c,fun e=>by subst e;simpa using c2⟩
 clear g2 g1
 have hlt:∀y∈out,y<v:=fun y hy=>by
  rcases hin with ⟨c,rfl⟩|⟨c,rfl⟩
  · exact h5 y hy i c (Nat.le_refl _)
  · exact h6 c y hy
 refine ⟨i',k',(a.length-i')+(1-k'),by simp only [Oh,e1,Option.bind_some,g1',hap],?_,⟨?_,?_,?_,fun y=>?_,fun y hy q hq hiq=>?_,fun hk0 y hy=>?_,?_,rfl⟩⟩
 · rcases e2 with ⟨c,_,rfl⟩|⟨rfl,c⟩
   · omega
   · rcases hin with ⟨c2,c3⟩|⟨c2,c3⟩
     · exact absurd c3 (c c2)
     · rcases hk with ⟨_,_,_⟩|⟨_,c4⟩
       · omega
       · exact absurd c3 (c4 c2)
 · rcases e2 with ⟨c,_,rfl⟩|⟨rfl,c⟩<;>omega
 · omega
 · exact List.pairwise_append.2 ⟨h3,by simp,fun y hy z hz=>by rw [List.mem_singleton] at hz;subst hz;exact hlt y hy⟩
 · rw [List.mem_append,h4,List.mem_singleton]
   have hi:y∈a.take i'↔y∈a.take i∨(∃c:i<a.length,a[i]=v∧y=v):=by
    rcases e2 with ⟨c,c2,rfl⟩|⟨rfl,c⟩
    · rw [List.take_succ_eq_append_getElem c,List.mem_append,List.mem_singleton,c2]
      exact ⟨fun h=>h.imp id fun h=>⟨c,c2,h⟩,fun h=>h.imp id fun h=>h.2.2⟩
    · exact ⟨.inl,fun h=>h.elim id fun ⟨c2,c3,_⟩=>absurd c3 (c c2)⟩
   rw [hi]
   constructor
   · rintro ((h|⟨rfl,rfl⟩)|rfl)
     · exact .inl (.inl h)
     · rcases hk with ⟨h,_⟩|⟨h,_⟩
       · omega
       · exact .inr ⟨h,rfl⟩
     · rcases hin with ⟨c,c2⟩|⟨c,c2⟩
       · exact .inl (.inr ⟨c,c2,rfl⟩)
       · rcases hk with ⟨_,_,h⟩|⟨_,h⟩
         · exact .inr ⟨h,c2.symm⟩
         · exact absurd c2 (h c)
   · rintro ((h|⟨_,_,rfl⟩)|⟨h,rfl⟩)
     · exact .inl (.inl h)
     · exact .inr rfl
     · rcases hk with ⟨_,c,_⟩|⟨c,_⟩
       · exact .inr c
       · exact .inl (.inr ⟨by omega,rfl⟩)
 · rcases List.mem_append.1 hy with hy|hy
   · exact h5 y hy q hq (by rcases e2 with ⟨_,_,rfl⟩|⟨rfl,_⟩<;>omega)
   · rw [List.mem_singleton] at hy;subst hy
     rcases e2 with ⟨c,c2,rfl⟩|⟨rfl,c⟩
     · have:=List.pairwise_iff_getElem.1 h i q c hq (by omega);omega
     · have h9:=hv q hq hiq
       rcases Nat.eq_or_lt_of_le hiq with e|e
       · subst e;have:=c hq;omega
       · have:=hv i' (by omega) (Nat.le_refl _)
         have:=List.pairwise_iff_getElem.1 h i' q (by omega) hq e;omega
 · rcases List.mem_append.1 hy with hy|hy
   · exact h6 (by omega) y hy
   · rw [List.mem_singleton] at hy;subst hy
     rcases hk with ⟨_,_,h⟩|⟨h,c⟩
     · omega
     · have:=hx (by omega);have:=c (by omega);omega
 · rw [List.length_append,List.length_singleton]
   rcases e2 with ⟨c,_,rfl⟩|⟨rfl,c⟩
   · omega
   · rcases hin with ⟨c2,c3⟩|⟨c2,c3⟩
     · exact absurd c3 (c c2)
     · rcases hk with ⟨_,_,_⟩|⟨_,c4⟩
       · omega
       · exact absurd c3 (c4 c2)
theorem both_eq {a:List Int} (hl:a.length≤1000000) (h:Nf a) (x:Int):∃r,f54 a [x]=some r∧Nf r∧∀y,y∈r↔y∈a∨y=x:=by
 have key:∃r,loopO (Ma a [x]) ([],0,0)=some r∧(Nf r∧∀y,y∈r↔y∈a∨y=x):=by
  refine Dv (fun n s=>∃(out:List Int) (i k:Nat),s=(out,(i:Int),(k:Int))∧BI a x n out i k) ?_ (k:=a.length+1) ⟨[],0,0,rfl,by omega,by omega,.nil,by simp,(fun y h=>by cases h),(fun _ y h=>by cases h),by simp,by omega⟩
  rintro n _ ⟨out,i,k,rfl,hI⟩
  have hk1:=hI.k1
  have hi1:=hI.i1
  have x1:([x]:List Int).length=1:=rfl
  have fin:∀v,(∀q (hq:q<a.length),i≤q→v≤a[q])→(k=0→v≤x)→((∃c:i<a.length,a[i]=v)∨(k=0∧x=v))→Ma a [x] (out,(i:Int),(k:Int))=Oh a [x] out (i:Int) (k:Int) v→(∃s' k',Ma a [x] (out,(i:Int),(k:Int))=some (.inl s')∧k'<n∧∃(out:List Int) (i k:Nat),s'=(out,(i:Int),(k:Int))∧BI a x k' out i k)∨(∃r,Ma a [x] (out,(i:Int),(k:Int))=some (.inr r)∧(Nf r∧∀y,y∈r↔y∈a∨y=x)):=fun v v1 v2 v3 v4=>by
   obtain ⟨i',k',n',w1,w2,w3⟩:=j6_eq hl h x n out i k hI v v1 v2 v3
   exact .inl ⟨_,n',v4.trans w1,w2,_,i',k',rfl,w3⟩
  have hle:∀c:i<a.length,∀q (hq:q<a.length),i≤q→a[i]≤a[q]:=fun c q hq hiq=>by
   rcases Nat.eq_or_lt_of_le hiq with e|e
   · subst e;exact Int.le_refl _
   · have:=List.pairwise_iff_getElem.1 h i q c hq e;omega
  have hx0:k=0→ix ([x]:List Int) (k:Int)=some x:=fun e=>by subst e;rfl
  by_cases c:i<a.length
  · by_cases ck:k=1
    · exact fin a[i] (hle c) (fun e=>by omega) (.inl ⟨c,rfl⟩) (by
       simp only [Ma,if_pos (show (i:Int)<(a.length:Int) by omega),Qp,x1,if_pos (show ((1:Nat):Int)≤(k:Int) by omega),Ep c,Option.bind_some])
    · have k0:k=0:=by omega
      by_cases cx:a[i]≤x
      · exact fin a[i] (hle c) (fun e=>cx) (.inl ⟨c,rfl⟩) (by
         simp only [Ma,if_pos (show (i:Int)<(a.length:Int) by omega),Qp,x1,if_neg (show ¬((1:Nat):Int)≤(k:Int) by omega),Ep c,Option.bind_some,hx0 k0,if_pos cx])
      · exact fin x (fun q hq hiq=>by have:=hle c q hq hiq;omega) (fun _=>Int.le_refl _) (.inr ⟨k0,rfl⟩) (by
         simp only [Ma,if_pos (show (i:Int)<(a.length:Int) by omega),Qp,x1,if_neg (show ¬((1:Nat):Int)≤(k:Int) by omega),Ep c,Option.bind_some,hx0 k0,if_neg cx])
  · by_cases ck:k=1
    · refine .inr ⟨out,by simp only [Ma,if_neg (show ¬(i:Int)<(a.length:Int) by omega),x1,if_neg (show ¬(k:Int)<((1:Nat):Int) by omega)],hI.rise,fun y=>?_⟩
      rw [hI.mem,List.take_of_length_le (by omega)]
      simp [ck]
    · have k0:k=0:=by omega
      exact fin x (fun q hq hiq=>by omega) (fun _=>Int.le_refl _) (.inr ⟨k0,rfl⟩) (by
       simp only [Ma,if_neg (show ¬(i:Int)<(a.length:Int) by omega),x1,if_pos (show (k:Int)<((1:Nat):Int) by omega),Qp,if_neg (show ¬((1:Nat):Int)≤(k:Int) by omega),hx0 k0,Option.bind_some])
 obtain ⟨r,h1,h2⟩:=key
 exact ⟨r,by simp only [f54,h1,Option.bind_some],h2⟩
theorem turn_ref (J:List Res) (hl:J.length≤1000000) (hr:∀r∈J,Dg r.Offs) (ho:∀r∈J,∀o∈r.Offs,o≤2500):∃ks,f28 J=some (Ie J ks)∧IsOffs J ks:=by
 have hrg:∀r∈J,∀x∈r.Offs,0≤x∧x≤2500:=fun r h1 x h2=>⟨(rise_rng (hr r h1) x h2).1,ho r h1 x h2⟩
 have key:∃ks,loopO (f28_s4 J) ([],0)=some ks∧IsOffs J ks:=by
  refine Dv (fun n s=>∃(i:Nat) (ks:List Int),s=(ks,(i:Int))∧i≤J.length∧IsOffs (J.take i) ks∧n=J.length-i) ?_ (k:=J.length) ⟨0,[],rfl,by omega,⟨.nil,by simp⟩,rfl⟩
  rintro n _ ⟨i,ks,rfl,hi,hI,hn⟩
  by_cases c:i<J.length
  · have hR:=hr _ (List.getElem_mem c)
    have hRl:=hR.1
    have inn:∃ks',loopO (f28_s7 J (i:Int)) (ks,0)=some ks'∧(Nf ks'∧∀x,x∈ks'↔x∈ks∨x∈J[i].Offs):=by
     refine Dv (fun n s=>∃(j:Nat) (ks':List Int),s=(ks',(j:Int))∧j≤J[i].Offs.length∧Nf ks'∧(∀x,x∈ks'↔x∈ks∨x∈J[i].Offs.take j)∧n=J[i].Offs.length-j) ?_ (k:=J[i].Offs.length) ⟨0,ks,rfl,by omega,hI.rise,by simp,rfl⟩
     rintro n _ ⟨j,ks',rfl,hj,h1,h2,hn⟩
     by_cases c2:j<J[i].Offs.length
     · have hlen:=Py (n:=2500) h1 (fun x hx=>by
        rcases (h2 x).1 hx with hx|hx
        · obtain ⟨r,r1,r2⟩:=(hI.mem x).1 hx
          exact hrg r (List.mem_of_mem_take r1) x r2
        · exact hrg _ (List.getElem_mem c) x (List.mem_of_mem_take hx))
       obtain ⟨r,r1,r2,r3⟩:=both_eq (by omega) h1 J[i].Offs[j]
       refine .inl ⟨(r,((j+1:Nat):Int)),n-1,?_,by omega,j+1,r,rfl,by omega,r2,fun x=>?_,by omega⟩
       · simp only [f28_s7,Ep c,Option.bind_some,if_pos (show (j:Int)<(J[i].Offs.length:Int) by omega),Ep c2,r1,Ch (show j≤10000000000 by omega)]
       · rw [r3,h2,List.take_succ_eq_append_getElem c2,List.mem_append,List.mem_singleton,or_assoc]
     · refine .inr ⟨ks',by simp only [f28_s7,Ep c,Option.bind_some,if_neg (show ¬(j:Int)<(J[i].Offs.length:Int) by omega)],h1,?_⟩
       rwa [List.take_of_length_le (by omega)] at h2
    obtain ⟨ks',i1,i2,i3⟩:=inn
    refine .inl ⟨(ks',((i+1:Nat):Int)),n-1,?_,by omega,i+1,ks',rfl,by omega,⟨i2,fun x=>?_⟩,by omega⟩
    · simp only [f28_s4,if_pos (show (i:Int)<(J.length:Int) by omega),i1,Option.bind_some,Ch (show i≤10000000000 by omega)]
    · rw [i3,hI.mem,List.take_succ_eq_append_getElem c]
      constructor
      · rintro (⟨r,h1,h2⟩|h)
        · exact ⟨r,List.mem_append_left _ h1,h2⟩
        · exact ⟨_,List.mem_append_right _ (List.mem_singleton.2 rfl),h⟩
      · rintro ⟨r,h1,h2⟩
        rcases List.mem_append.1 h1 with h1|h1
        · exact .inl ⟨r,h1,h2⟩
        · rw [List.mem_singleton] at h1;subst h1;exact .inr h2
  · refine .inr ⟨ks,by simp only [f28_s4,if_neg (show ¬(i:Int)<(J.length:Int) by omega)],?_⟩
    rwa [List.take_of_length_le (by omega)] at hI
 obtain ⟨ks,k1,k2⟩:=key
 have hlen:=Py (n:=2500) k2.rise fun x hx=>by obtain ⟨r,r1,r2⟩:=(k2.mem x).1 hx;exact hrg r r1 x r2
 have hf:∀o,loopO (Ol J o) ([],0)=some (fw J o):=fun o=>by
  have:=Da (step:=Ol J o) (fun i=>(fw (J.take i) o,(i:Int))) J.length (r:=fw J o) (fun i hi=>by
   have hR:=(hr _ (List.getElem_mem hi)).1
   have h24:=has_eq J[i].Offs o (by omega)
   have h1:=Vm (J.take i) o
   have h2:=List.length_take_le i J
   by_cases e:o∈J[i].Offs
   · have hap:Bq (fw (J.take i) o) [J[i].Key]=some (fw (J.take (i+1)) o):=by
      rw [Ct (by omega) (by simp),List.take_succ_eq_append_getElem hi];simp only [fw,List.filter_append,List.map_append,List.filter_cons,e,decide_true,if_true,List.filter_nil,List.map_cons,List.map_nil]
     simp only [Ol,if_pos (show (i:Int)<(J.length:Int) by omega),Ep hi,Option.bind_some,h24,e,decide_true,if_true,hap,Ch (show i≤10000000000 by omega)]
   · have hap:fw (J.take (i+1)) o=fw (J.take i) o:=by
      rw [List.take_succ_eq_append_getElem hi];simp only [fw,List.filter_append,List.map_append,List.filter_cons,e,decide_false,Bool.false_eq_true,if_false,List.filter_nil,List.map_nil,List.append_nil]
     simp only [Ol,if_pos (show (i:Int)<(J.length:Int) by omega),Ep hi,Option.bind_some,h24,e,decide_false,Bool.false_eq_true,if_false,hap,Ch (show i≤10000000000 by omega)]) (by
   simp only [Ol,if_neg (show ¬(J.length:Int)<(J.length:Int) by omega),List.take_length])
  simpa [fw] using this
 refine ⟨ks,?_,k2⟩
 have hc:=Da (step:=Vz J ks) (fun i=>(Ie J (ks.take i),(i:Int))) ks.length (r:=Ie J ks) (fun i hi=>by
  have hap:Bq (Ie J (ks.take i)) [⟨ks[i],fw J ks[i]⟩]=some (Ie J (ks.take (i+1))):=by
   rw [Ct (by simp [Ie];omega) (by simp),List.take_succ_eq_append_getElem hi];simp only [Ie,List.map_append,List.map_cons,List.map_nil]
  simp only [Vz,if_pos (show (i:Int)<((ks.length:Nat):Int) by omega),Ep hi,Option.bind_some,hf,hap,Ch (show i≤10000000000 by omega)]) (by
  simp only [Vz,if_neg (show ¬((ks.length:Nat):Int)<((ks.length:Nat):Int) by omega),List.take_length])
 have hc':loopO (Vz J ks) ([],0)=some (Ie J ks):=by simpa [Ie] using hc
 simp only [f28,k1,Option.bind_some,hc']
theorem turn_eq (J:List Res) (hl:J.length≤1000000) (hr:∀r∈J,Dg r.Offs) (ho:∀r∈J,∀o∈r.Offs,o≤2500):∃ks,f49 J=some (Ie J ks)∧f28 J=some (Ie J ks)∧IsOffs J ks∧∀x∈ks,0≤x∧x≤2500:=by
 obtain ⟨ks,h1,h2,h3⟩:=turn_prog J hl hr ho
 obtain ⟨ks',g1,g2⟩:=turn_ref J hl hr ho
 have e:ks=ks':=rise_uniq h2.rise g2.rise fun x=>(h2.mem x).trans (g2.mem x).symm
 subst e
 exact ⟨ks,h1,g1,h2,h3⟩
def f81 (a0:List Int) (a1:ByteArray):Option (List Int):=((f109 a0 (IntKind.u64.wrap (a1.size:Int))).bind fun x1=>((Bq x1 (Eh a1)).bind fun x2=>some x2))
theorem ok81 (a0:List Int) (a1:ByteArray) (r:(List Int)) (h:f81 a0 a1=some r):PC Tryz.prog 81 [.sl (List.map Aw a0),.val (.string a1)] (.fr 1 (List.map Aw r)):=by
 rw [f81] at h
 refine Bi (N:=12) (rs:=[.tmp 4]) Tryz.func81 ?_
 refine Ac [0,1] ?_
 obtain ⟨x1,hx1,h⟩:=bO h
 obtain ⟨x2,hx2,h⟩:=bO h
 obtain ⟨hx2b,hx2e⟩:=appO?_some.1 hx2
 have hx2f:∀id o:Nat,Dw 1 1 id (List.map Aw (Eh a1)) 0 x1.length o (some (.row 1 true (List.map Aw x1)))=some ⟨.own id 0 x2.length,[(o,none),(id,some (.row 1 true (List.map Aw x2)))]⟩:=fun id o=>by
   subst hx2e;rw [Bw (by simp) (by simpa using hx2b) (by decide)];first|(simp [Aw];done)|(simp [Aw];omega)
 refine Cb [4] fun K hK=>?_
 simp only [go_sem,seval,Ei (enc:=Aw) (fun _=>rfl),hx2f]
 refine arC.of (ok109 a0 (IntKind.u64.wrap (a1.size:Int)) x1 hx1) Tryz.call109 ?_
 simp only [go_sem,seval,Ei (enc:=Aw) (fun _=>rfl),hx2f]
 subst hK
 refine AW.ret ?_
 obtain rfl:=oi h
 (simp only [go_sem,seval,Ay]<;>try simp)
def f112 (a0:ByteArray):Option (List ByteArray):=some [a0]
theorem ok112 (a0:ByteArray) (r:(List ByteArray)) (h:f112 a0=some r):PC Tryz.prog 112 [.val (.string a0)] (.fr 1 (List.map Cr r)):=by
 rw [f112] at h
 refine Bi (N:=5) (rs:=[.tmp 2]) Tryz.func112 ?_
 refine Ac [0] ?_
 refine Ac [2] ?_
 refine AW.ret ?_
 obtain rfl:=oi h
 (simp only [go_sem,seval,Ay]<;>try simp)
def Kr (x52:(List ByteArray)):(List Int)×Int→Option (((List Int)×Int)⊕(((List Int)×Int)⊕(List Int)))
  | (s4_0,s4_1)=>(if s4_1<((x52.length:Nat):Int) then ((ix x52 s4_1).bind fun x70=>(if 65536<(x70.size:Int) then some (.inr (.inl ([],5))) else ((f81 [] x70).bind fun x72=>((Bq s4_0 x72).bind fun x73=>some (.inl (x73,IntKind.i64.wrap (s4_1+1))))))) else some (.inr (.inr s4_0)))
def Ks (a1:List ByteArray):(List Int)×Int→Option (((List Int)×Int)⊕(((List Int)×Int)⊕(List Int)))
  | (s1_0,s1_1)=>(if s1_1<(a1.length:Int) then ((ix a1 s1_1).bind fun x51=>((f112 x51).bind fun x52=>((loopO (Kr x52) (s1_0,0)).bind fun y74=>match y74 with|.inl y75=>some (.inr (.inl y75))|.inr y76=>some (.inl (y76,IntKind.i64.wrap (s1_1+1)))))) else some (.inr (.inr s1_0)))
def Ud (a0:List Int) (a1:List ByteArray):Option ((List Int)×Int):=(if 65536<(a1.length:Int) then some ([],9) else ((f109 a0 (IntKind.u64.wrap (a1.length:Int))).bind fun x3=>((loopO (Ks a1) (x3,0)).bind fun y77=>match y77 with|.inl y78=>some y78|.inr y79=>some (y79,0))))
theorem ok111_112 (a0:List Int) (a1:List ByteArray) (r:(List Int)×Int) (h:Ud a0 a1=some r):PC Tryz.prog 111 [.sl (List.map Aw a0),.sl (List.map Cr a1),.clo (.func 112) [] []] (.tup [.fr 1 (List.map Aw r.1),.val (.int .i64 r.2)]):=by
 rw [Ud] at h
 refine Bi (N:=45) (rs:=[.tmp 6,.tmp 7]) Tryz.func111 ?_
 refine Ac [0,1,2] ?_
 refine AW.seq<|Ac [0,1,2,15] ?_
 rcases Aq h with ⟨c2,h⟩|⟨c2,h⟩
 ·refine Aj rfl c2<|Ac [6,7] ?_
  refine AW.ent (Av 6 1 (by decide) rfl) ?_
  refine AW.ret<|Ad ?_
  obtain rfl:=oi h
  (simp only [go_sem,seval,Ay]<;>try simp)
 ·refine Ai rfl c2<|AW.skip<|Aa ?_
  obtain ⟨x3,hx3,h⟩:=bO h
  refine Bx [1,2,8] (ok109 a0 (IntKind.u64.wrap (a1.length:Int)) x3 hx3) Tryz.call109 ?_
  refine AW.seq<|Ac [2,8,21,22,23] ?_
  refine AW.block ?_
  obtain ⟨y77,hy77,h⟩:=bO h
  refine AW.loopO (fun s=>⟨(Ag (Ag (Ag (Ag (Ag Az 2 (.clo (.func 112) [] [])) 8 (.own 8 0 s.1.length)) 21 (.sl (List.map Cr a1))) 22 (.val (.int .i64 (a1.length:Int)))) 23 (.val (.int .i64 s.2))),Bo [] [some (.row 1 true (List.map Aw s.1))],9⟩) (fun y e st'=>match y with|.inl z=>e=Exit.ret∧Ay Tryz.prog [.tmp 6,.tmp 7] (.tup [.fr 1 (List.map Aw z.1),.val (.int .i64 z.2)]) .ret st'|.inr z=>e=Exit.exit 0∧st'=⟨(Ag Az 8 (.own 8 0 z.length)),Bo [] [some (.row 1 true (List.map Aw z))],9⟩) hy77 ?_ ?_ ?_
  ·exact Ab [80] RF.any.qt.qo.qv.qv.qv (.nil _) (.ce (.nil _))
  ·clear h hy77
   rintro ⟨s1_0,s1_1⟩ x h
   rw [Ks] at h
   refine Ac [2,8,21,22,23,24] ?_
   refine AW.seq ?_
   rcases Aq h with ⟨c50,h⟩|⟨c50,h⟩
   ·refine Aj rfl c50<|AW.skip<|Aa<|AW.seq<|AW.block ?_
    obtain ⟨x51,hx51,h⟩:=bO h
    obtain ⟨hx51a,hx51b⟩:=ix_some.1 hx51
    refine Ao [2,8,10,21,22,23] ?_
    obtain ⟨x52,hx52,h⟩:=bO h
    refine AW.tC [2,8,21,22,23,29,30,31] (ok112 x51 x52 hx52) Tryz.call112 ?_
    refine AW.block ?_
    obtain ⟨y74,hy74,h⟩:=bO h
    refine AW.loopO (fun s=>⟨(Ag (Ag (Ag (Ag (Ag (Ag (Ag (Ag Az 2 (.clo (.func 112) [] [])) 8 (.own 8 0 s.1.length)) 21 (.sl (List.map Cr a1))) 22 (.val (.int .i64 (a1.length:Int)))) 23 (.val (.int .i64 s1_1))) 29 (.own 9 0 x52.length)) 30 (.val (.int .i64 ((x52.length:Nat):Int)))) 31 (.val (.int .i64 s.2))),Bo [] [some (.row 1 true (List.map Aw s.1)),some (.row 1 true (List.map Cr x52))],10⟩) (fun y e st'=>match y with|.inl z=>e=Exit.ret∧Ay Tryz.prog [.tmp 6,.tmp 7] (.tup [.fr 1 (List.map Aw z.1),.val (.int .i64 z.2)]) .ret st'|.inr z=>e=Exit.exit 2∧st'=⟨(Ag (Ag (Ag (Ag (Ag Az 2 (.clo (.func 112) [] [])) 8 (.own 8 0 z.length)) 21 (.sl (List.map Cr a1))) 22 (.val (.int .i64 (a1.length:Int)))) 23 (.val (.int .i64 s1_1))),Bo [] [some (.row 1 true (List.map Aw z))],9⟩) hy74 ?_ ?_ ?_
    ·exact Ab [8,57] RF.any.qt.qo.qv.qv.qv.qo.qv.qv (.nil _) (.ce (.ce (.nil _)))
    ·clear h hy74
     rintro ⟨s4_0,s4_1⟩ x h
     rw [Kr] at h
     refine Ac [2,8,21,22,23,29,30,31,32] ?_
     refine AW.seq ?_
     rcases Aq h with ⟨c69,h⟩|⟨c69,h⟩
     ·refine Aj rfl c69<|AW.skip<|Aa<|AW.seq<|AW.block ?_
      obtain ⟨x70,hx70,h⟩:=bO h
      obtain ⟨hx70a,hx70b⟩:=ix_some.1 hx70
      refine Cb [2,8,12,21,22,23,29,30,31] fun K hK=>?_
      simp only [go_sem,seval,Ah hx70a,hx70b,Cm hx70b]
      subst hK
      refine AW.seq<|Ac [2,8,12,21,22,23,29,30,31,37] ?_
      rcases Aq h with ⟨c71,h⟩|⟨c71,h⟩
      ·refine Aj rfl c71<|Ac [6,7] ?_
       refine AW.ent (Av 6 1 (by decide) rfl) ?_
       refine AW.ret<|Ad<|Bd<|Ad<|Ad ?_
       refine ⟨_,oj h,_,Ent.refl,rfl,?_⟩
       (simp only [go_sem,seval,Ay]<;>try simp)
      ·refine Ai rfl c71<|AW.skip<|Aa ?_
       obtain ⟨x72,hx72,h⟩:=bO h
       obtain ⟨x73,hx73,h⟩:=bO h
       obtain ⟨hx73b,hx73e⟩:=appO?_some.1 hx73
       have hx73f:∀id o:Nat,Dw 1 1 id (List.map Aw x72) 0 s4_0.length o (some (.row 1 true (List.map Aw s4_0)))=some ⟨.own id 0 x73.length,[(o,none),(id,some (.row 1 true (List.map Aw x73)))]⟩:=fun id o=>by
         subst hx73e;rw [Bw (by simp) (by simpa using hx73b) (by decide)];first|(simp [Aw];done)|(simp [Aw];omega)
       refine AW.vD [2,8,21,22,23,29,30,31] (ok81 [] x70 x72 hx72) Tryz.call81 ?_
       refine Ax<|Aa<|Cd [2,8,21,22,23,29,30,31] ?_
       refine Aa ?_
       refine ⟨_,oj h,?_⟩
       exact Ab [90,9] RF.any.qt.qo.qv.qv.qv.qo.qv.qv (.nil _) (.ce (.ce (.nil _)))
     ·refine Ai rfl c69<|AW.exit<|Af<|Af ?_
      refine ⟨_,oj h,_,?_,rfl,rfl⟩
      exact Ab [8] RF.any.qt.qo.qv.qv.qv (.nil _) (.ce (.nil _))
    ·intro e st' hX
     rcases y74 with y75|y76<;>dsimp only at h hX
     ·obtain ⟨rfl,hf⟩:=hX
      refine ⟨_,Ent.refl,?_⟩
      refine Bd<|Bd<|Ad<|Ad ?_
      refine ⟨_,oj h,_,Ent.refl,rfl,?_⟩
      exact hf
     ·obtain ⟨rfl,rfl⟩:=hX
      refine ⟨_,Ent.refl,?_⟩
      refine Bc<|Ax<|Aa<|Cd [2,8,21,22,23] ?_
      refine Aa ?_
      refine ⟨_,oj h,?_⟩
      exact Ab [8] RF.any.qt.qo.qv.qv.qv (.nil _) (.ce (.nil _))
   ·refine Ai rfl c50<|AW.exit<|Af<|Af ?_
    refine ⟨_,oj h,_,?_,rfl,rfl⟩
    exact Ab [8] RF.any.qo (.nil _) (.ce (.nil _))
  ·intro e st' hX
   rcases y77 with y78|y79<;>dsimp only at h hX
   ·obtain ⟨rfl,hf⟩:=hX
    refine ⟨_,Ent.refl,?_⟩
    refine Bd<|Ad ?_
    obtain rfl:=oi h
    exact hf
   ·obtain ⟨rfl,rfl⟩:=hX
    refine ⟨_,Ent.refl,?_⟩
    refine Bc<|Aa<|Ac [6,7] ?_
    refine AW.ret ?_
    obtain rfl:=oi h
    (simp only [go_sem,seval,Ay]<;>try simp)
def f82 (a0:List Int) (a1:List ByteArray):Option ((List Int)×Int):=((Ud a0 a1).bind fun x1=>some (x1.1,x1.2))
theorem ok82 (a0:List Int) (a1:List ByteArray) (r:(List Int)×Int) (h:f82 a0 a1=some r):PC Tryz.prog 82 [.sl (List.map Aw a0),.sl (List.map Cr a1)] (.tup [.fr 1 (List.map Aw r.1),.val (.int .i64 r.2)]):=by
 rw [f82] at h
 refine Bi (N:=11) (rs:=[.tmp 4,.tmp 5]) Tryz.func82 ?_
 refine Ac [0,1] ?_
 obtain ⟨x1,hx1,h⟩:=bO h
 refine Bx [4,5] (Pc (us:=[.sl (List.map Aw a0),.sl (List.map Cr a1),.val (.func (.func 112) #[] #[])]) (ok111_112 a0 a1 x1 hx1) (by first|rfl|simp [norm,Du,Fp,go_sem])) Tryz.call111 ?_
 refine AW.ret ?_
 obtain rfl:=oi h
 (simp only [go_sem,seval,Ay]<;>try simp)
def f79 (a0:ByteArray):Option ByteArray:=some a0
theorem ok79 (a0:ByteArray) (r:ByteArray) (h:f79 a0=some r):PC Tryz.prog 79 [.val (.string a0)] (.val (.string r)):=by
 rw [f79] at h
 refine Bi (N:=4) (rs:=[.tmp 2]) Tryz.func79 ?_
 refine Ac [0] ?_
 refine Ac [2] ?_
 refine AW.ret ?_
 obtain rfl:=oi h
 (simp only [go_sem,seval,Ay]<;>try simp)
def Jr (a0:List ByteArray):Int→Option (Int⊕(Bool⊕Unit))
  | s1_0=>(if s1_0<(a0.length:Int) then (if 0<s1_0 then ((ix a0 (IntKind.i64.wrap (s1_0-1))).bind fun x17=>((f79 x17).bind fun x18=>((ix a0 s1_0).bind fun x19=>((f79 x19).bind fun x20=>(if (Pv x18 x20)=true then some (.inl (IntKind.i64.wrap (s1_0+1))) else some (.inr (.inl false))))))) else some (.inl (IntKind.i64.wrap (s1_0+1)))) else some (.inr (.inr ())))
def f78_79 (a0:List ByteArray):Option Bool:=((loopO (Jr a0) 0).bind fun y22=>match y22 with|.inl y23=>some y23|.inr _=>some true)
theorem ok78_79 (a0:List ByteArray) (r:Bool) (h:f78_79 a0=some r):PC Tryz.prog 78 [.sl (List.map Cr a0),.clo (.func 79) [] []] (.val (.bool r)):=by
 rw [f78_79] at h
 refine Bi (N:=30) (rs:=[.tmp 4]) Tryz.func78 ?_
 refine Ac [0,1] ?_
 refine AW.seq<|Ac [0,1,7,8] ?_
 refine AW.block ?_
 obtain ⟨y22,hy22,h⟩:=bO h
 refine AW.loopO (fun s=>⟨(Ag (Ag (Ag (Ag Az 0 (.sl (List.map Cr a0))) 1 (.clo (.func 79) [] [])) 7 (.val (.int .i64 (a0.length:Int)))) 8 (.val (.int .i64 s))),Bo [] [],8⟩) (fun y e st'=>match y with|.inl z=>e=Exit.ret∧Ay Tryz.prog [.tmp 4] (.val (.bool z)) .ret st'|.inr z=>e=Exit.exit 0∧st'=⟨Az,Bo [] [],8⟩) hy22 ?_ ?_ ?_
 ·exact Bg RF.any.qv.qt.qv.qv
 ·clear h hy22
  rintro s1_0 x h
  rw [Jr] at h
  refine Ac [0,1,7,8,9] ?_
  refine AW.seq ?_
  rcases Aq h with ⟨c15,h⟩|⟨c15,h⟩
  ·refine Aj rfl c15<|AW.skip<|Aa<|AW.seq<|AW.block<|Ac [0,1,5,7,8] ?_
   rcases Aq h with ⟨c16,h⟩|⟨c16,h⟩
   ·obtain ⟨x17,hx17,h⟩:=bO h
    obtain ⟨hx17a,hx17b⟩:=ix_some.1 hx17
    obtain ⟨x18,hx18,h⟩:=bO h
    obtain ⟨x19,hx19,h⟩:=bO h
    obtain ⟨hx19a,hx19b⟩:=ix_some.1 hx19
    obtain ⟨x20,hx20,h⟩:=bO h
    refine Dm [0,1,7,8,28] [0,1,3,7,7,7,39,119,247,511,7,7,7,6151,14343,32767,65535,131071] ?_
    generalize hK:AW Tryz.prog _ _ _=K
    simp only [go_sem,seval,eq_true c15,eq_true c16,Ah hx17a,hx17b,Ah hx19a,hx19b]
    refine Em (ok79 x17 x18 hx18) Tryz.call79 (Fw (by simp only [Ae,Nat.reduceEqDiff,if_true,if_false,↓reduceIte];rfl)) (by simp only [go_sem,seval,List.nil_append,List.append_nil,eq_true c15,eq_true c16,Ah hx17a,hx17b,Ah hx19a,hx19b]) (by simp only [go_sem,seval]) ?_
    simp only [go_sem,seval,Ah hx17a,hx17b,Ah hx19a,hx19b]
    refine Em (ok79 x19 x20 hx20) Tryz.call79 (Fw (by simp only [Ae,Nat.reduceEqDiff,if_true,if_false,↓reduceIte];rfl)) (by simp only [go_sem,seval,List.nil_append,List.append_nil,eq_true c15,eq_true c16,Ah hx17a,hx17b,Ah hx19a,hx19b]) (by simp only [go_sem,seval]) ?_
    simp only [go_sem,seval,Ah hx17a,hx17b,Ah hx19a,hx19b]
    subst hK
    rcases Aq h with ⟨c21,h⟩|⟨c21,h⟩
    ·refine Bl rfl (by first|(rw [c21];rfl)|simp_all)<|AW.skip<|Ax<|Aa<|Bz [0,1,7,8] ?_
     refine Aa ?_
     refine ⟨_,oj h,?_⟩
     exact Bg RF.any.qv.qt.qv.qv
    ·rw [Bool.not_eq_true] at c21
     refine Bp rfl (by first|(rw [c21];rfl)|simp_all)<|Ao [4] ?_
     refine AW.ret<|Bd<|Ad<|Ad ?_
     refine ⟨_,oj h,_,Ent.refl,rfl,?_⟩
     (simp only [go_sem,seval,c21,Ay]<;>try simp)
   ·refine Dm [0,1,7,8,28] [0,1,3,7,7,7,39,119,247,511,7,7,7,6151,14343,32767,65535,131071] ?_
    generalize hK:AW Tryz.prog _ _ _=K
    simp only [go_sem,seval,eq_true c15,eq_false c16]
    subst hK
    refine Bl rfl rfl<|AW.skip<|Ax<|Aa<|Cd [0,1,7,8] ?_
    refine Aa ?_
    refine ⟨_,oj h,?_⟩
    exact Bg RF.any.qv.qt.qv.qv
  ·refine Ai rfl c15<|AW.exit<|Af<|Af ?_
   refine ⟨_,oj h,_,?_,rfl,rfl⟩
   exact Bg RF.any
 ·intro e st' hX
  rcases y22 with y23|_<;>dsimp only at h hX
  ·obtain ⟨rfl,hf⟩:=hX
   refine ⟨_,Ent.refl,?_⟩
   refine Bd<|Ad ?_
   obtain rfl:=oi h
   exact hf
  ·obtain ⟨rfl,rfl⟩:=hX
   refine ⟨_,Ent.refl,?_⟩
   refine Bc<|Aa<|Ac [4] ?_
   refine AW.ret ?_
   obtain rfl:=oi h
   (simp only [go_sem,seval,Ay]<;>try simp)
def Vv (a0:List Fwd):(List Int)×Int→Option (((List Int)×Int)⊕(((List Int)×Int)⊕(List Int)))
  | (s2_0,s2_1)=>(if s2_1<(a0.length:Int) then ((ix a0 s2_1).bind fun x37=>((Bq s2_0 [x37.Off]).bind fun x38=>(if (x37.Keys.length:Int)=0 then some (.inr (.inl ([],3))) else ((f78_79 x37.Keys).bind fun x40=>(if x40=true then some (.inl (x38,IntKind.i64.wrap (s2_1+1))) else some (.inr (.inl ([],3)))))))) else some (.inr (.inr s2_0)))
def f48_s3 (a0:List Fwd):(List Int)×Int→Option (((List Int)×Int)⊕(((List Int)×Int)⊕(List Int)))
  | (s3_0,s3_1)=>(if s3_1<(a0.length:Int) then ((ix a0 s3_1).bind fun x64=>((f82 s3_0 x64.Keys).bind fun x65=>(if x65.2=0 then some (.inl (x65.1,IntKind.i64.wrap (s3_1+1))) else some (.inr (.inl ([],x65.2)))))) else some (.inr (.inr s3_0)))
def f48 (a0:List Fwd):Option ((List Int)×Int):=((loopO (Vv a0) ([],0)).bind fun y42=>match y42 with|.inl y43=>some y43|.inr y44=>((f80 y44).bind fun x45=>(if x45.2=0 then ((f81 [] (strOfNums x45.1)).bind fun x48=>((loopO (f48_s3 a0) (x48,0)).bind fun y67=>match y67 with|.inl y68=>some y68|.inr y69=>some (y69,0))) else some ([],x45.2))))
theorem ok48 (a0:List Fwd) (r:(List Int)×Int) (h:f48 a0=some r):PC Tryz.prog 48 [.sl (List.map Dp a0)] (.tup [.fr 1 (List.map Aw r.1),.val (.int .i64 r.2)]):=by
 rw [f48] at h
 refine Bi (N:=63) (rs:=[.tmp 2,.tmp 3]) Tryz.func48 ?_
 refine Ac [0] ?_
 refine Ac [0,4] ?_
 refine AW.seq<|Ac [0,4,12,13,14] ?_
 refine AW.block ?_
 obtain ⟨y42,hy42,h⟩:=bO h
 refine AW.loopO (fun s=>⟨(Ag (Ag (Ag (Ag (Ag Az 0 (.sl (List.map Dp a0))) 4 (.own 8 0 s.1.length)) 12 (.sl (List.map Dp a0))) 13 (.val (.int .i64 (a0.length:Int)))) 14 (.val (.int .i64 s.2))),Bo [] [some (.row 1 true (List.map Bk s.1))],9⟩) (fun y e st'=>match y with|.inl z=>e=Exit.ret∧Ay Tryz.prog [.tmp 2,.tmp 3] (.tup [.fr 1 (List.map Aw z.1),.val (.int .i64 z.2)]) .ret st'|.inr z=>e=Exit.exit 0∧st'=⟨(Ag (Ag Az 0 (.sl (List.map Dp a0))) 4 (.own 8 0 z.length)),Bo [] [some (.row 1 true (List.map Bk z))],9⟩) hy42 ?_ ?_ ?_
 ·refine Ent.trans (Av 4 1 (by decide) rfl) ?_
  exact Ab [56] RF.any.qv.qo.qv.qv.qv (.nil _) (.ce (.nil _))
 ·clear h hy42
  rintro ⟨s2_0,s2_1⟩ x h
  rw [Vv] at h
  refine Ao [0,4,12,13,14,15] ?_
  refine AW.seq ?_
  rcases Aq h with ⟨c36,h⟩|⟨c36,h⟩
  ·refine Aj rfl c36<|AW.skip<|Aa<|AW.seq<|AW.block ?_
   obtain ⟨x37,hx37,h⟩:=bO h
   obtain ⟨hx37a,hx37b⟩:=ix_some.1 hx37
   refine Ao [0,4,6,12,13,14] ?_
   obtain ⟨x38,hx38,h⟩:=bO h
   obtain ⟨hx38b,hx38e⟩:=appO?_some.1 hx38
   have hx38f:∀id o:Nat,Dw 1 8 id ([[.val (.int .i64 x37.Off)]]) 0 s2_0.length o (some (.row 1 true (List.map Bk s2_0)))=some ⟨.own id 0 x38.length,[(o,none),(id,some (.row 1 true (List.map Bk x38)))]⟩:=fun id o=>by
     subst hx38e;rw [Bw (by simp) (by simpa using hx38b) (by decide)];first|(simp [Bk];done)|(simp [Bk];omega)
   refine Ao [0,4,6,12,13,14] ?_
   rcases Aq h with ⟨c39,h⟩|⟨c39,h⟩
   ·refine Ao [0,4,12,13,14,32] ?_
    refine Bp rfl rfl<|Ac [2,3] ?_
    refine AW.ent (Av 2 1 (by decide) rfl) ?_
    refine AW.ret<|Bd<|Ad<|Ad ?_
    refine ⟨_,oj h,_,Ent.refl,rfl,?_⟩
    (simp only [go_sem,seval,Ay]<;>try simp)
   ·obtain ⟨x40,hx40,h⟩:=bO h
    refine Kw [0,4,12,13,14,32] (Pc (us:=[.sl (List.map Cr x37.Keys),.val (.func (.func 79) #[] #[])]) (ok78_79 x37.Keys x40 hx40) (by first|rfl|simp [norm,Du,Fp,go_sem])) Tryz.call78 ?_
    rcases Aq h with ⟨c41,h⟩|⟨c41,h⟩
    ·refine Bl rfl (by first|(rw [c41];rfl)|simp_all)<|AW.skip<|Ax<|Aa<|Bz [0,4,12,13,14] ?_
     refine Aa ?_
     refine ⟨_,oj h,?_⟩
     exact Ab [81] RF.any.qv.qo.qv.qv.qv (.nil _) (.ce (.nil _))
    ·rw [Bool.not_eq_true] at c41
     refine Bp rfl (by first|(rw [c41];rfl)|simp_all)<|Ao [2,3] ?_
     refine AW.ent (Av 2 1 (by decide) rfl) ?_
     refine AW.ret<|Bd<|Ad<|Ad ?_
     refine ⟨_,oj h,_,Ent.refl,rfl,?_⟩
     (simp only [go_sem,seval,c41,Ay]<;>try simp)
  ·refine Ai rfl c36<|AW.exit<|Af<|Af ?_
   refine ⟨_,oj h,_,?_,rfl,rfl⟩
   exact Ab [8] RF.any.qv.qo (.nil _) (.ce (.nil _))
 ·intro e st' hX
  rcases y42 with y43|y44<;>dsimp only at h hX
  ·obtain ⟨rfl,hf⟩:=hX
   refine ⟨_,Ent.refl,?_⟩
   refine Bd<|Ad ?_
   obtain rfl:=oi h
   exact hf
  ·obtain ⟨rfl,rfl⟩:=hX
   refine ⟨_,Ent.refl,?_⟩
   refine Bc<|Aa ?_
   obtain ⟨x45,hx45,h⟩:=bO h
   refine Kw [0,7,8] (ok80 y44 x45 hx45) Tryz.call80 ?_
   refine AW.seq<|Ac [0,7,8,40] ?_
   rcases Aq h with ⟨c47,h⟩|⟨c47,h⟩
   ·refine Ai rfl (fun q=>q c47)<|AW.skip<|Aa ?_
    obtain ⟨x48,hx48,h⟩:=bO h
    refine Cb [0,9] fun K hK=>?_
    simp only [go_sem,seval,Ce (enc:=Aw) (fun _=>rfl)]
    refine arC.of (ok81 [] (strOfNums x45.1) x48 hx48) Tryz.call81 ?_
    simp only [go_sem,seval,Ce (enc:=Aw) (fun _=>rfl)]
    subst hK
    refine AW.seq<|Ac [9,45,46,47] ?_
    refine AW.block ?_
    obtain ⟨y67,hy67,h⟩:=bO h
    refine AW.loopO (fun s=>⟨(Ag (Ag (Ag (Ag Az 9 (.own 8 0 s.1.length)) 45 (.sl (List.map Dp a0))) 46 (.val (.int .i64 (a0.length:Int)))) 47 (.val (.int .i64 s.2))),Bo [] [some (.row 1 true (List.map Aw s.1))],9⟩) (fun y e st'=>match y with|.inl z=>e=Exit.ret∧Ay Tryz.prog [.tmp 2,.tmp 3] (.tup [.fr 1 (List.map Aw z.1),.val (.int .i64 z.2)]) .ret st'|.inr z=>e=Exit.exit 2∧st'=⟨(Ag Az 9 (.own 8 0 z.length)),Bo [] [some (.row 1 true (List.map Aw z))],9⟩) hy67 ?_ ?_ ?_
    ·exact Ab [97] RF.any.qo.qv.qv.qv (.nil _) (.ce (.nil _))
    ·clear h hy67
     rintro ⟨s3_0,s3_1⟩ x h
     rw [f48_s3] at h
     refine Ac [9,45,46,47,48] ?_
     refine AW.seq ?_
     rcases Aq h with ⟨c63,h⟩|⟨c63,h⟩
     ·refine Aj rfl c63<|AW.skip<|Aa<|AW.seq<|AW.block ?_
      obtain ⟨x64,hx64,h⟩:=bO h
      obtain ⟨hx64a,hx64b⟩:=ix_some.1 hx64
      refine Ao [9,11,45,46,47] ?_
      obtain ⟨x65,hx65,h⟩:=bO h
      refine Bx [8,9,45,46,47] (ok82 s3_0 x64.Keys x65 hx65) Tryz.call82 ?_
      refine Ac [8,9,45,46,47,59] ?_
      rcases Aq h with ⟨c66,h⟩|⟨c66,h⟩
      ·refine Ai rfl (fun q=>q c66)<|AW.skip<|Ax<|Aa<|Cd [9,45,46,47] ?_
       refine Aa ?_
       refine ⟨_,oj h,?_⟩
       exact Ab [73] RF.any.qo.qv.qv.qv (.nil _) (.ce (.nil _))
      ·refine Aj rfl c66<|Ac [2,3] ?_
       refine AW.ent (Av 2 1 (by decide) rfl) ?_
       refine AW.ret<|Bd<|Ad<|Ad ?_
       refine ⟨_,oj h,_,Ent.refl,rfl,?_⟩
       (simp only [go_sem,seval,Ay]<;>try simp)
     ·refine Ai rfl c63<|AW.exit<|Af<|Af ?_
      refine ⟨_,oj h,_,?_,rfl,rfl⟩
      exact Ab [8] RF.any.qo (.nil _) (.ce (.nil _))
    ·intro e st' hX
     rcases y67 with y68|y69<;>dsimp only at h hX
     ·obtain ⟨rfl,hf⟩:=hX
      refine ⟨_,Ent.refl,?_⟩
      refine Bd<|Ad ?_
      obtain rfl:=oi h
      exact hf
     ·obtain ⟨rfl,rfl⟩:=hX
      refine ⟨_,Ent.refl,?_⟩
      refine Bc<|Aa<|Ac [2,3] ?_
      refine AW.ret ?_
      obtain rfl:=oi h
      (simp only [go_sem,seval,Ay]<;>try simp)
   ·refine Aj rfl c47<|Ac [2,3] ?_
    refine AW.ent (Av 2 1 (by decide) rfl) ?_
    refine AW.ret<|Ad ?_
    obtain rfl:=oi h
    (simp only [go_sem,seval,Ay]<;>try simp)
end Au
end Go.Proofs.Yt
