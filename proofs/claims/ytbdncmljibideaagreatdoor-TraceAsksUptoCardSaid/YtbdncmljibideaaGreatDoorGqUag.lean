import Derived.Test.YtbdncmljibideaaGreatDoorGqUaf
import Derived.Test.YtbdncmljibideaaGreatDoorGqUae
set_option linter.all false
noncomputable section
set_option maxRecDepth 8000
set_option maxHeartbeats 1000000
namespace Go.Proofs.Yt
open Go.Gm
namespace Au
theorem swap_loop (P M S:List Res):∀(A2 B2 A1 B1:List Res),A2.length=B2.length→A1.length=B1.length→P.length+A1.length+A2.length+M.length+B1.length+B2.length≤100000 →
  loopO (Js (P.length:Int) ((P.length+A1.length+A2.length+M.length:Nat):Int) ((A1.length+A2.length:Nat):Int)) (P++B1++A2++M++A1++B2++S,(A1.length:Int))=some (P++(B1++B2)++M++(A1++A2)++S)
 | [],[],A1,B1,_,h1,hl=>by
  refine Al ?_
  simp [Js]
 | [],b::B2,_,_,h,_,_=>by simp at h
 | a::A2,[],_,_,h,_,_=>by simp at h
 | a::A2,b::B2,A1,B1,h,h1,hl=>by
  have hw1:IntKind.i64.wrap ((P.length:Int)+(A1.length:Int))=((P++B1).length:Int):=by rw [Bf (by omega) (by omega)];simp;omega
  have hw2:IntKind.i64.wrap (((P.length+A1.length+(a::A2).length+M.length:Nat):Int)+(A1.length:Int))=((P++B1++a::A2++M++A1).length:Int):=by
   rw [Bf (by omega) (by simp at hl ⊢;omega)];simp;omega
  have e1:P++B1++(a::A2)++M++A1++(b::B2)++S=(P++B1)++a::(A2++M++A1++b::(B2++S)):=by simp
  have e2:P++B1++(a::A2)++M++A1++(b::B2)++S=(P++B1++a::A2++M++A1)++b::(B2++S):=by simp
  have i1:ix (P++B1++(a::A2)++M++A1++(b::B2)++S) ((P++B1++a::A2++M++A1).length:Int)=some b:=by rw [e2];exact Vj rfl
  have i2:ix (P++B1++(a::A2)++M++A1++(b::B2)++S) ((P++B1).length:Int)=some a:=by rw [e1];exact Vj rfl
  have s1:(P++B1++(a::A2)++M++A1++(b::B2)++S).set (P++B1).length b=(P++B1++b::A2++M++A1)++b::(B2++S):=by rw [e1,Th rfl];simp
  have hq:(P++B1++a::A2++M++A1).length=(P++B1++b::A2++M++A1).length:=by simp
  have i3:ix ((P++B1++b::A2++M++A1)++b::(B2++S)) ((P++B1++a::A2++M++A1).length:Int)=some b:=by rw [hq];exact Vj rfl
  have s2:((P++B1++b::A2++M++A1)++b::(B2++S)).set (P++B1++a::A2++M++A1).length a=P++(B1++[b])++A2++M++(A1++[a])++B2++S:=by rw [hq,Th rfl];simp
  have hstep:Js (P.length:Int) ((P.length+A1.length+(a::A2).length+M.length:Nat):Int) ((A1.length+(a::A2).length:Nat):Int) (P++B1++(a::A2)++M++A1++(b::B2)++S,(A1.length:Int))=some (.inl (P++(B1++[b])++A2++M++(A1++[a])++B2++S,((A1++[a]).length:Int))):=by
   simp only [Js]
   rw [if_pos (by simp;omega),hw1,hw2,i1,Option.bind_some,i2,Option.bind_some]
   simp only [Int.toNat_natCast,s1,i3,Option.bind_some,s2,Ch (show A1.length≤10000000000 by omega)]
   simp
  rw [Bj hstep]
  have ih:=swap_loop P M S A2 B2 (A1++[a]) (B1++[b]) (by simpa using h) (by simp;exact h1) (by simp at hl ⊢;omega)
  have e3:(P.length+A1.length+(a::A2).length+M.length:Nat)=P.length+(A1++[a]).length+A2.length+M.length:=by simp;omega
  have e4:(A1.length+(a::A2).length:Nat)=(A1++[a]).length+A2.length:=by simp;omega
  rw [e3,e4,ih]
  simp
theorem swap_eq (P A M B S:List Res) (h:A.length=B.length) (hl:P.length+A.length+M.length+B.length≤100000) {a b n:Int} (ha:a=(P.length:Int)) (hb:b=((P.length+A.length+M.length:Nat):Int)) (hn:n=(A.length:Int)) :
  Om (P++A++M++B++S) a b n=some (P++B++M++A++S):=by
 subst ha hb hn
 have:=swap_loop P M S A B [] [] h rfl (by simp;omega)
 simp only [List.length_nil,Nat.add_zero,Nat.zero_add,List.append_nil,List.nil_append] at this
 unfold Om
 rw [show (0:Int)=((0:Nat):Int) from rfl,this]
 rfl
theorem rot_loop (P S:List Res) (m:Int):∀(k:Nat) (L U V R:List Res),U.length+V.length=k→0<U.length→0<V.length→m=((P.length+L.length+U.length:Nat):Int)→P.length+L.length+U.length+V.length+R.length≤100000 →
  ∃L' U' V' R',loopO (Hd m) (P++L++U++V++R++S,(U.length:Int),(V.length:Int))=some ((U'.length:Int),P++L'++U'++V'++R'++S)∧U'.length=V'.length∧L'++V'++U'++R'=L++V++U++R∧m=((P.length+L'.length+U'.length:Nat):Int)∧P.length+L'.length+U'.length+V'.length+R'.length≤100000:=by
 intro k
 induction k using Nat.strongRecOn with
 | ind k ih =>
  intro L U V R hk hU hV hm hl
  rcases Nat.lt_trichotomy U.length V.length with h|h|h
  ·-- the second is longer
   obtain ⟨V1,V2,rfl,hv1⟩:=Hv (l:=V) (n:=V.length-U.length) (by omega)
   have hv2:V2.length=U.length:=by simp at hv1 h;omega
   have hv1':V1.length+U.length=(V1++V2).length:=by simp;omega
   have w1:IntKind.i64.wrap (m-(U.length:Int))=((P++L).length:Int):=by rw [hm,Bf (by omega) (by omega)];rw [show (P++L).length=P.length+L.length from List.length_append];omega
   have w2:IntKind.i64.wrap (IntKind.i64.wrap (m+((V1++V2).length:Int))-(U.length:Int))=(((P++L).length+U.length+V1.length:Nat):Int):=by
    rw [hm,Bf (show -9223372036854775808≤((P.length+L.length+U.length:Nat):Int)+((V1++V2).length:Int) by omega) (by omega),Bf (by omega) (by omega)];simp;omega
   have hs:=swap_eq (P++L) U V1 V2 (R++S) hv2.symm (by simp at hl ⊢;omega) w1 w2 rfl
   have e1:P++L++U++(V1++V2)++R++S=P++L++U++V1++V2++(R++S):=by simp
   have w3:IntKind.i64.wrap (((V1++V2).length:Int)-(U.length:Int))=(V1.length:Int):=by rw [Bf (by omega) (by omega)];omega
   have hstep:Hd m (P++L++U++(V1++V2)++R++S,(U.length:Int),((V1++V2).length:Int))=some (.inl (P++L++V2++V1++(U++R)++S,(V2.length:Int),(V1.length:Int))):=by
    simp only [Hd]
    rw [if_neg (by omega),if_neg (by omega),e1,hs,Option.bind_some,Cw (by simp;omega),Option.bind_some,w3,hv2]
    simp
   rw [Bj hstep]
   obtain ⟨L',U',V',R',q1,q2,q3,q4,q5⟩:=ih (V2.length+V1.length) (by simp at hk;omega) L V2 V1 (U++R) rfl (by omega) (by omega) (by rw [hm];omega) (by simp at hl ⊢;omega)
   exact ⟨L',U',V',R',q1,q2,by rw [q3];simp,q4,q5⟩
  ·refine ⟨L,U,V,R,Al ?_,h,rfl,hm,hl⟩
   simp only [Hd]
   rw [if_pos (by omega)]
  ·-- the first is longer
   obtain ⟨U1,U2,rfl,hu1⟩:=Hv (l:=U) (n:=V.length) (by omega)
   have hu2:U2.length+V.length=(U1++U2).length:=by simp;omega
   have w1:IntKind.i64.wrap (m-((U1++U2).length:Int))=((P++L).length:Int):=by rw [hm,Bf (by omega) (by omega)];rw [show (P++L).length=P.length+L.length from List.length_append];omega
   have w2:m=(((P++L).length+U1.length+U2.length:Nat):Int):=by rw [hm];simp;omega
   have hs:=swap_eq (P++L) U1 U2 V (R++S) hu1 (by simp at hl ⊢;omega) w1 w2 (show (V.length:Int)=(U1.length:Int) by omega)
   have e1:P++L++(U1++U2)++V++R++S=P++L++U1++U2++V++(R++S):=by simp
   have w3:IntKind.i64.wrap (((U1++U2).length:Int)-(V.length:Int))=(U2.length:Int):=by rw [Bf (by omega) (by omega)];omega
   have hstep:Hd m (P++L++(U1++U2)++V++R++S,((U1++U2).length:Int),(V.length:Int))=some (.inl (P++(L++V)++U2++U1++R++S,(U2.length:Int),(U1.length:Int))):=by
    simp only [Hd]
    rw [if_neg (by omega),if_pos (by omega),e1,hs,Option.bind_some,Cw (by simp;omega),Option.bind_some,w3,hu1]
    simp
   rw [Bj hstep]
   obtain ⟨L',U',V',R',q1,q2,q3,q4,q5⟩:=ih (U2.length+U1.length) (by simp at hk;omega) (L++V) U2 U1 R rfl (by omega) (by omega) (by rw [hm];simp;omega) (by simp at hl ⊢;omega)
   exact ⟨L',U',V',R',q1,q2,by rw [q3];simp,q4,q5⟩
theorem rot_eq (P A B S:List Res) (hA:0<A.length) (hB:0<B.length) (hl:P.length+A.length+B.length≤100000) {a m b:Int} (ha:a=(P.length:Int)) (hm:m=((P.length+A.length:Nat):Int)) (hb:b=((P.length+A.length+B.length:Nat):Int)) :
  Rl (P++A++B++S) a m b=some (P++B++A++S):=by
 obtain ⟨L',U',V',R',q1,q2,q3,q4,q5⟩:=rot_loop P S m (A.length+B.length) [] A B [] rfl hA hB (by rw [hm];simp) (by simp;omega)
 have w1:IntKind.i64.wrap (m-a)=(A.length:Int):=by rw [hm,ha,Bf (by omega) (by omega)];omega
 have w2:IntKind.i64.wrap (b-m)=(B.length:Int):=by rw [hm,hb,Bf (by omega) (by omega)];omega
 have w3:IntKind.i64.wrap (m-(U'.length:Int))=((P++L').length:Int):=by rw [q4,Bf (by omega) (by omega)];rw [List.length_append];omega
 have hs:=swap_eq (P++L') U' [] V' (R'++S) q2 (by simp at q5 ⊢;omega) w3 (show m=(((P++L').length+U'.length+([]:List Res).length:Nat):Int) by rw [q4];simp) rfl
 unfold Rl
 rw [w1,w2]
 simp only [List.append_nil] at q1
 rw [q1,Option.bind_some]
 have e1:P++L'++U'++V'++R'++S=P++L'++U'++[]++V'++(R'++S):=by simp
 simp only
 rw [e1,hs,Option.bind_some,Cw (by simp;omega),Option.bind_some]
 congr 1
 have:L'++V'++U'++R'=B++A:=by rw [q3];simp
 have e2:P++L'++V'++[]++U'++(R'++S)=P++(L'++V'++U'++R')++S:=by simp
 rw [e2,this]
 simp
theorem shr1 {v:Int} (h0:0≤v):Dn .u64 v 1=v / 2:=by
 show v.fdiv (2 ^ (min 1 64))=_
 rw [Int.fdiv_eq_ediv_of_nonneg _ (by decide)];rfl
theorem half {i j:Nat} (h:i+j≤1000000):IntKind.i64.wrap (Dn .u64 (IntKind.u64.wrap (IntKind.i64.wrap ((i:Int)+(j:Int)))) 1)=(((i+j) / 2:Nat):Int):=by
 rw [Bf (show -9223372036854775808≤(i:Int)+(j:Int) by omega) (by omega),Eg,shr1 (by omega),Bf (by omega) (by omega)]
 omega
theorem bisect {τ:Type} {step:τ→Option (τ⊕Int)} (st:Nat→Nat→τ) (p:Nat→Bool) (i0 j0:Nat) (hij:i0≤j0)
  (h1:∀i j,i0≤i→i<j→j≤j0→step (st i j)=some (.inl (if p ((i+j) / 2)=true then st ((i+j) / 2+1) j else st i ((i+j) / 2))))
  (h2:∀i,i0≤i→i≤j0→step (st i i)=some (.inr (i:Int))) :
  ∃r:Nat,loopO step (st i0 j0)=some (r:Int)∧i0≤r∧r≤j0∧(r=i0∨p (r-1)=true)∧(r=j0∨p r=false):=by
 obtain ⟨r,hr,n,rfl,q⟩:=Dv (step:=step) (Q:=fun r:Int=>∃n:Nat,r=(n:Int)∧i0≤n∧n≤j0∧(n=i0∨p (n-1)=true)∧(n=j0∨p n=false))
  (fun k s=>∃i j,s=st i j∧k=j-i∧i0≤i∧i≤j∧j≤j0∧(i=i0∨p (i-1)=true)∧(j=j0∨p j=false)) (by
   rintro k _ ⟨i,j,rfl,rfl,a1,a2,a3,a4,a5⟩
   by_cases hlt:i<j
   ·have h:=h1 i j a1 hlt a3
    by_cases hp:p ((i+j) / 2)=true
    ·rw [if_pos hp] at h
     exact .inl ⟨_,j-((i+j) / 2+1),h,by omega,_,_,rfl,rfl,by omega,by omega,a3,.inr (by rw [Nat.add_sub_cancel];exact hp),a5⟩
    ·rw [if_neg hp] at h
     exact .inl ⟨_,(i+j) / 2-i,h,by omega,_,_,rfl,rfl,a1,by omega,by omega,a4,.inr (by simpa using hp)⟩
   ·obtain rfl:i=j:=by omega
    exact .inr ⟨_,h2 i a1 a3,i,rfl,a1,a3,a4,a5⟩) (k:=j0-i0) ⟨i0,j0,rfl,rfl,Nat.le_refl _,hij,Nat.le_refl _,.inl rfl,.inl rfl⟩
 exact ⟨n,hr,q⟩
def ltAt (l:List Res) (i j:Nat):Bool:=match l[i]?,l[j]? with
 | some y,some x=>Fy y x
 | _,_=>false
theorem Jo {l:List Res} {i j:Nat} {x y:Res} (h1:l[i]?=some y) (h2:l[j]?=some x):ltAt l i j=Fy y x:=by unfold ltAt;rw [h1,h2]
theorem cmp_at {l:List Res} {i j:Nat} (hi:i<l.length) (hj:j<l.length):∃y x c,ix l (i:Int)=some y∧ix l (j:Int)=some x∧f75 y x=some c∧(c<0↔ltAt l i j=true):=by
 obtain ⟨c,h1,h2⟩:=cmp_eq l[i] l[j]
 exact ⟨l[i],l[j],c,Ep hi,Ep hj,h1,by rw [h2,Jo (List.getElem?_eq_getElem hi) (List.getElem?_eq_getElem hj)]⟩
theorem right_loop (P S:List Res) (x:Res) (e:Int):∀(B2 B1:List Res),e=((P.length+B1.length+B2.length+1:Nat):Int)→P.length+B1.length+B2.length≤100000 →
  loopO (Jt e) (P++B1++x::(B2++S),((P.length+B1.length:Nat):Int))=some (P++(B1++B2)++x::S)
 | [],B1,he,hl=>by
  refine Al ?_
  simp only [Jt]
  rw [if_neg (by rw [he,Bf (by omega) (by omega)];simp),List.append_nil,List.nil_append]
 | b::B2,B1,he,hl=>by
  simp only [List.length_cons] at he hl
  have e1:P++B1++x::(b::B2++S)=(P++B1)++x::b::(B2++S):=by simp
  have q:((P.length+B1.length:Nat):Int)=((P++B1).length:Int):=by simp
  have w:IntKind.i64.wrap (((P++B1).length:Int)+1)=(((P++B1).length+1:Nat):Int):=Ch (by simp;omega)
  have hstep:Jt e (P++B1++x::(b::B2++S),((P.length+B1.length:Nat):Int))=some (.inl (P++(B1++[b])++x::(B2++S),((P.length+(B1++[b]).length:Nat):Int))):=by
   simp only [Jt]
   rw [if_pos (by rw [he,Bf (by omega) (by omega)];omega),e1,q,w,nb_ix1,Option.bind_some,nb_ix0,Option.bind_some]
   simp only [Int.toNat_natCast,nb_set0,nb_ix1,Option.bind_some,nb_set1]
   simp
   omega
  rw [Bj hstep,right_loop P S x e B2 (B1++[b]) (by rw [he];simp;omega) (by simp;omega)]
  simp
theorem left_loop (P S:List Res) (x:Res):∀(n:Nat) (A2 B:List Res),A2.length=n→P.length+n≤100000 →
  loopO (Iv (P.length:Int)) (P++A2++x::(B++S),((P.length+A2.length:Nat):Int))=some (P++x::(A2++B)++S)
 | 0,A2,B,hA,hl=>by
  obtain rfl:=List.eq_nil_of_length_eq_zero hA
  refine Al ?_
  simp [Iv]
 | n+1,A2,B,hA,hl=>by
  obtain ⟨A1,y,rfl⟩:∃A1 y,A2=A1++[y]:=by
   rcases List.eq_nil_or_concat A2 with h|⟨A1,y,h⟩
   ·rw [h] at hA;simp at hA
   ·exact ⟨A1,y,by rw [h];simp⟩
  have hA1:A1.length=n:=by simpa using hA
  have e1:P++(A1++[y])++x::(B++S)=(P++A1)++y::x::(B++S):=by simp
  have e2:((P.length+(A1++[y]).length:Nat):Int)=(((P++A1).length+1:Nat):Int):=by simp;omega
  have hlt:(P.length:Int)<(((P++A1).length+1:Nat):Int):=by simp;omega
  have hw:IntKind.i64.wrap ((((P++A1).length+1:Nat):Int)-1)=((P++A1).length:Int):=wrapS (by simp;omega)
  have hstep:Iv (P.length:Int) ((P++A1)++y::x::(B++S),(((P++A1).length+1:Nat):Int))=some (.inl (P++A1++x::(y::B++S),((P.length+A1.length:Nat):Int))):=by
   simp only [Iv,if_pos hlt,hw,nb_ix0,nb_ix1,Option.bind_some,Int.toNat_natCast,nb_set1,nb_set0]
   simp
  rw [e1,e2,Bj hstep,left_loop P S x n A1 (y::B) hA1 (by omega)]
  simp
theorem merge_left (P B S:List Res) (x:Res) (hs:Srt Fy B) (hB:0<B.length) (hl:P.length+B.length≤100000) (rec130:List Res→Int→Int→Int→Option (List Res)) :
  ∃M,Jg rec130 (P++[x]++B++S) (P.length:Int) ((P.length+1:Nat):Int) ((P.length+1+B.length:Nat):Int)=some (P++M++S)∧Sorts Fy ([x]++B) M:=by
 have hlen:(P++[x]++B++S).length=P.length+1+B.length+S.length:=by simp;omega
 have hx:(P++[x]++B++S)[P.length]?=some x:=by simp
 obtain ⟨r,h1,h2,h3,h4,h5⟩:=bisect (step:=Mc (P++[x]++B++S) (P.length:Int)) (fun i j=>((i:Int),(j:Int))) (fun h=>ltAt (P++[x]++B++S) h P.length) (P.length+1) (P.length+1+B.length) (by omega) (fun i j a1 a2 a3=>by
  obtain ⟨y,x',c,c1,c2,c3,c4⟩:=cmp_at (l:=P++[x]++B++S) (i:=(i+j) / 2) (j:=P.length) (by omega) (by omega)
  simp only [Mc]
  rw [if_pos (by omega),half (by omega),c1,Option.bind_some,c2,Option.bind_some,c3,Option.bind_some]
  by_cases hc:c<0
  ·rw [if_pos hc,if_pos (c4.1 hc),Ch (by omega)]
  ·rw [if_neg hc,if_neg (fun h=>hc (c4.2 h))]) (fun i a1 a2=>by simp [Mc])
 obtain ⟨B1,B2,rfl,hb1⟩:=Hv (l:=B) (n:=r-(P.length+1)) (by omega)
 have hr:r=P.length+1+B1.length:=by omega
 have hlast:∀b∈B1,Fy b x=true:=by
  intro b hb
  obtain ⟨B1',y,rfl⟩:∃B1' y,B1=B1'++[y]:=by
   rcases List.eq_nil_or_concat B1 with h|⟨B1',y,h⟩
   ·rw [h] at hb;cases hb
   ·exact ⟨B1',y,by rw [h];simp⟩
  rcases h4 with h4|h4
  ·simp at hr;omega
  ·have hy:(P++[x]++(B1'++[y]++B2)++S)[r-1]?=some y:=by
    have e:P++[x]++(B1'++[y]++B2)++S=(P++[x]++B1')++y::(B2++S):=by simp
    rw [e,show r-1=(P++[x]++B1').length by simp at hr ⊢;omega]
    exact Oy _ _ _
   rw [Jo hy hx] at h4
   rcases List.mem_append.1 hb with h|h
   ·exact swoI.le_lt (hs.left.cross b h y (by simp)) h4
   ·simp at h;subst h;exact h4
 have hhead:∀b∈B2,Fy b x=false:=by
  intro b hb
  cases B2 with
  | nil=>cases hb
  | cons y B2' =>
   rcases h5 with h5|h5
   ·simp at hr h5;omega
   ·have hy:(P++[x]++(B1++y::B2')++S)[r]?=some y:=by
     have e:P++[x]++(B1++y::B2')++S=(P++[x]++B1)++y::(B2'++S):=by simp
     rw [e,hr,show P.length+1+B1.length=(P++[x]++B1).length by simp;omega]
     exact Oy _ _ _
    rw [Jo hy hx] at h5
    rcases List.mem_cons.1 hb with rfl|h
    ·exact h5
    ·exact swoI.le_trans h5 ((List.pairwise_cons.1 hs.right).1 b h)
 refine ⟨B1++x::B2,?_,?_,?_,by simp;omega⟩
 ·unfold Jg
  have e1:P++[x]++(B1++B2)++S=P++[]++x::(B1++(B2++S)):=by simp
  rw [if_pos (by rw [Bf (by omega) (by omega)];omega)]
  rw [h1,Option.bind_some,e1]
  have:=right_loop P (B2++S) x (r:Int) B1 [] (by rw [hr];simp;omega) (by simp at hl ⊢;omega)
  simp only [List.length_nil,Nat.add_zero] at this
  rw [this,Option.bind_some]
  simp
 ·refine Srt.append hs.left (List.pairwise_cons.2 ⟨hhead,hs.right⟩) fun a ha b hb=>?_
  rcases List.mem_cons.1 hb with rfl|hb
  ·exact swoI.asym (hlast a ha)
  ·exact hs.cross a ha b hb
 ·have:SF Fy ((B1++[x])++B2) (([x]++B1)++B2):=SF.append (Uu swoI (a:=[x]) (b:=B1) (fun p hp q hq=>by simp at hp;subst hp;exact hlast q hq)).symm (SF.refl _)
  simpa using this
theorem merge_right (P A S:List Res) (x:Res) (hs:Srt Fy A) (hA:1<A.length) (hl:P.length+A.length≤100000) (rec130:List Res→Int→Int→Int→Option (List Res)) :
  ∃M,Jg rec130 (P++A++[x]++S) (P.length:Int) ((P.length+A.length:Nat):Int) ((P.length+A.length+1:Nat):Int)=some (P++M++S)∧Sorts Fy (A++[x]) M:=by
 have hlen:(P++A++[x]++S).length=P.length+A.length+1+S.length:=by simp;omega
 have hx:(P++A++[x]++S)[P.length+A.length]?=some x:=by
  rw [show P++A++[x]++S=(P++A)++x::S by simp,show P.length+A.length=(P++A).length by simp]
  exact Oy _ _ _
 obtain ⟨r,h1,h2,h3,h4,h5⟩:=bisect (step:=Kq (P++A++[x]++S) ((P.length+A.length:Nat):Int)) (fun i j=>((j:Int),(i:Int))) (fun h => !ltAt (P++A++[x]++S) (P.length+A.length) h) P.length (P.length+A.length) (by omega) (fun i j a1 a2 a3=>by
  obtain ⟨y,x',c,c1,c2,c3,c4⟩:=cmp_at (l:=P++A++[x]++S) (i:=P.length+A.length) (j:=(i+j) / 2) (by omega) (by omega)
  simp only [Kq]
  rw [if_pos (by omega),half (by omega),c1,Option.bind_some,c2,Option.bind_some,c3,Option.bind_some]
  by_cases hc:c<0
  ·rw [if_pos hc,if_neg (by rw [c4.1 hc];simp)]
  ·have:ltAt (P++A++[x]++S) (P.length+A.length) ((i+j) / 2)=false:=by simpa using fun h=>hc (c4.2 h)
   rw [if_neg hc,if_pos (by rw [this];rfl),Ch (by omega)]) (fun i a1 a2=>by simp [Kq])
 obtain ⟨A1,A2,rfl,ha1⟩:=Hv (l:=A) (n:=r-P.length) (by omega)
 have hr:r=P.length+A1.length:=by omega
 have hlast:∀a∈A1,Fy x a=false:=by
  intro a ha
  obtain ⟨A1',y,rfl⟩:∃A1' y,A1=A1'++[y]:=by
   rcases List.eq_nil_or_concat A1 with h|⟨A1',y,h⟩
   ·rw [h] at ha;cases ha
   ·exact ⟨A1',y,by rw [h];simp⟩
  rcases h4 with h4|h4
  ·simp at hr;omega
  ·have hy:(P++(A1'++[y]++A2)++[x]++S)[r-1]?=some y:=by
    have e:P++(A1'++[y]++A2)++[x]++S=(P++A1')++y::(A2++x::S):=by simp
    rw [e,show r-1=(P++A1').length by simp at hr ⊢;omega]
    exact Oy _ _ _
   rw [Jo hx hy] at h4
   have h4':Fy x y=false:=by simpa using h4
   rcases List.mem_append.1 ha with h|h
   ·exact swoI.le_trans (hs.left.cross a h y (by simp)) h4'
   ·simp at h;subst h;exact h4'
 have hhead:∀a∈A2,Fy x a=true:=by
  intro a ha
  cases A2 with
  | nil=>cases ha
  | cons y A2' =>
   rcases h5 with h5|h5
   ·simp at hr h5;omega
   ·have hy:(P++(A1++y::A2')++[x]++S)[r]?=some y:=by
     have e:P++(A1++y::A2')++[x]++S=(P++A1)++y::(A2'++x::S):=by simp
     rw [e,hr,show P.length+A1.length=(P++A1).length by simp]
     exact Oy _ _ _
    rw [Jo hx hy] at h5
    have h5':Fy x y=true:=by simpa using h5
    rcases List.mem_cons.1 ha with rfl|h
    ·exact h5'
    ·exact swoI.lt_le h5' ((List.pairwise_cons.1 hs.right).1 a h)
 refine ⟨A1++x::A2,?_,?_,?_,by simp⟩
 ·unfold Jg
  have e1:P++(A1++A2)++[x]++S=(P++A1)++A2++x::([]++S):=by simp
  rw [if_neg (by rw [Bf (by omega) (by omega)];omega),if_pos (by rw [Bf (by omega) (by omega)];omega)]
  rw [h1,Option.bind_some,e1]
  have:=left_loop (P++A1) S x A2.length A2 [] rfl (by simp at hl ⊢;omega)
  rw [show (r:Int)=((P++A1).length:Int) by rw [hr];simp,show ((P.length+(A1++A2).length:Nat):Int)=(((P++A1).length+A2.length:Nat):Int) by simp;omega,this,Option.bind_some]
  simp
 ·refine Srt.append hs.left (List.pairwise_cons.2 ⟨fun b hb=>swoI.asym (hhead b hb),hs.right⟩) fun a ha b hb=>?_
  rcases List.mem_cons.1 hb with rfl|hb
  ·exact hlast a ha
  ·exact hs.cross a ha b hb
 ·have:SF Fy (A1++([x]++A2)) (A1++(A2++[x])):=SF.append (SF.refl _) (Uu swoI (a:=A2) (b:=[x]) (fun p hp q hq=>by simp at hq;subst hq;exact hhead p hp)).symm
  simpa using this
end Au
end Go.Proofs.Yt
set_option maxHeartbeats 2000000
namespace Go.Proofs.Yt
open Go.Gm
namespace Au
def Yp (rec130:List Res→Int→Int→Int→Option (List Res)) (n:Nat):Prop:=∀(P A B S:List Res),A.length+B.length≤n→0<A.length→0<B.length→Srt Fy A→Srt Fy B→P.length+A.length+B.length≤100000 →
 ∃M,rec130 (P++A++B++S) (P.length:Int) ((P.length+A.length:Nat):Int) ((P.length+A.length+B.length:Nat):Int)=some (P++M++S)∧Sorts Fy (A++B) M
theorem part_merge {rec130:List Res→Int→Int→Int→Option (List Res)} {n:Nat} (h:Yp rec130 n) (P A B S:List Res) (hn:A.length+B.length≤n) (hA:Srt Fy A) (hB:Srt Fy B) (hl:P.length+A.length+B.length≤100000) (F:List Res→Option (List Res)) :
  ∃M,(if (P.length:Int)<((P.length+A.length:Nat):Int) then (if ((P.length+A.length:Nat):Int)<((P.length+A.length+B.length:Nat):Int) then ((rec130 (P++A++B++S) (P.length:Int) ((P.length+A.length:Nat):Int) ((P.length+A.length+B.length:Nat):Int)).bind fun x=>((Dt (x.length=(P++A++B++S).length)).bind fun _=>F x)) else F (P++A++B++S)) else F (P++A++B++S))=F (P++M++S)∧Sorts Fy (A++B) M:=by
 cases A with
 | nil =>
  refine ⟨B,?_,by simpa using hB,SF.refl _,rfl⟩
  rw [if_neg (by simp)];simp
 | cons a A =>
  cases B with
  | nil =>
   refine ⟨a::A,?_,by simpa using hA,by rw [List.append_nil];exact SF.refl _,by simp⟩
   rw [if_pos (by simp;omega),if_neg (by simp)];simp
  | cons b B =>
   obtain ⟨M,h1,h2⟩:=h P (a::A) (b::B) S hn (by simp) (by simp) hA hB hl
   refine ⟨M,?_,h2⟩
   have hlm:=h2.len
   rw [if_pos (by simp;omega),if_pos (by simp;omega),h1,Option.bind_some,Cw (by simp at hlm ⊢;omega),Option.bind_some]
theorem sym_step {rec130:List Res→Int→Int→Int→Option (List Res)} {n:Nat} (h:Yp rec130 n):Yp (Jg rec130) (n+1):=by
 intro P A B S hn hA hB sA sB hl
 by_cases c1:A.length=1
 ·obtain ⟨x,rfl⟩:=List.length_eq_one_iff.1 c1
  exact merge_left P B S x sB hB (by simp at hl;omega) rec130
 by_cases c2:B.length=1
 ·obtain ⟨x,rfl⟩:=List.length_eq_one_iff.1 c2
  exact merge_right P A S x sA (by omega) (by simp at hl;omega) rec130
 have hlen:(P++A++B++S).length=P.length+A.length+B.length+S.length:=by simp;omega
 have ha:P.length<P.length+A.length:=by omega
 have hm:P.length+A.length<P.length+A.length+B.length:=by omega
 generalize hma:P.length+A.length=m at *
 generalize hbb:m+B.length=b at *
 generalize hmid:(P.length+b) / 2=mid
 have hmid1:P.length<mid:=by omega
 have hmid2:mid<b:=by omega
 have hwm:IntKind.i64.wrap (Dn .u64 (IntKind.u64.wrap (IntKind.i64.wrap ((P.length:Int)+(b:Int)))) 1)=(mid:Int):=by rw [half (by omega),hmid]
 have hwn:IntKind.i64.wrap ((mid:Int)+(m:Int))=((mid+m:Nat):Int):=by rw [Bf (by omega) (by omega)];omega
 -- where the search begins and ends
 obtain ⟨s0,r0,hs0,e0,b1,b2,b3,b4,b5,b6⟩:∃s0 r0:Nat,s0≤r0∧(if (mid:Int)<(m:Int) then He (P++A++B++S) (P.length:Int) (m:Int) (b:Int) rec130 (IntKind.i64.wrap (((mid+m:Nat):Int)-(b:Int)),(mid:Int)) else He (P++A++B++S) (P.length:Int) (m:Int) (b:Int) rec130 ((P.length:Int),(m:Int)))=He (P++A++B++S) (P.length:Int) (m:Int) (b:Int) rec130 ((s0:Int),(r0:Int)) ∧
   P.length≤s0∧r0≤m∧r0≤mid∧mid+m≤s0+b∧(s0=P.length∨mid+m=s0+b)∧(r0=m∨r0=mid):=by
  by_cases hc:mid<m
  ·refine ⟨mid+m-b,mid,by omega,?_,by omega,by omega,by omega,by omega,by omega,by omega⟩
   rw [if_pos (by omega),Bf (by omega) (by omega),show ((mid+m:Nat):Int)-(b:Int)=((mid+m-b:Nat):Int) by omega]
  ·refine ⟨P.length,m,by omega,?_,by omega,by omega,by omega,by omega,by omega,by omega⟩
   rw [if_neg (by omega)]
 have hwp:∀c:Nat,c<r0→IntKind.i64.wrap (IntKind.i64.wrap (((mid+m:Nat):Int)-1)-(c:Int))=((mid+m-1-c:Nat):Int):=fun c hc=>by
  rw [Bf (show -9223372036854775808≤((mid+m:Nat):Int)-1 by omega) (by omega),Bf (by omega) (by omega)];omega
 obtain ⟨s,h1,h2,h3,h4,h5⟩:=bisect (step:=Ko (P++A++B++S) (P.length:Int) (m:Int) (b:Int)) (fun i j=>((j:Int),(i:Int))) (fun c => !ltAt (P++A++B++S) (mid+m-1-c) c) s0 r0 hs0 (fun i j a1 a2 a3=>by
  obtain ⟨y,x',c,k1,k2,k3,k4⟩:=cmp_at (l:=P++A++B++S) (i:=mid+m-1-(i+j) / 2) (j:=(i+j) / 2) (by omega) (by omega)
  simp only [Ko]
  rw [if_pos (by omega),hwm,half (i:=i) (j:=j) (by omega),hwn,hwp _ (by omega),k1,Option.bind_some,k2,Option.bind_some,k3,Option.bind_some]
  by_cases hc:c<0
  ·rw [if_pos hc,if_neg (by rw [k4.1 hc];simp)]
  ·have:ltAt (P++A++B++S) (mid+m-1-(i+j) / 2) ((i+j) / 2)=false:=by simpa using fun h=>hc (k4.2 h)
   rw [if_neg hc,if_pos (by rw [this];rfl),Ch (by omega)]) (fun i a1 a2=>by simp [Ko])
 obtain ⟨A1,A2,rfl,hA1⟩:=Hv (l:=A) (n:=s-P.length) (by omega)
 obtain ⟨B1,B2,rfl,hB1⟩:=Hv (l:=B) (n:=mid-s) (by omega)
 have hsA:s=P.length+A1.length:=by omega
 have hA2:m=s+A2.length:=by simp at hma;omega
 have hmd:mid=s+B1.length:=by omega
 have hB2:b=m+B1.length+B2.length:=by simp at hbb;omega
 have hend:IntKind.i64.wrap (((mid+m:Nat):Int)-(s:Int))=((m+B1.length:Nat):Int):=by rw [Bf (by omega) (by omega)];omega
 -- the elements across
 have x12:∀x∈A1,∀y∈B2,Fy y x=false:=by
  intro x hx y hy
  obtain ⟨A1',u,rfl⟩:∃A1' u,A1=A1'++[u]:=by
   rcases List.eq_nil_or_concat A1 with h|⟨A1',u,h⟩
   ·rw [h] at hx;cases hx
   ·exact ⟨A1',u,by rw [h];simp⟩
  cases B2 with
  | nil=>cases hy
  | cons v B2' =>
   have huv:Fy v u=false:=by
    rcases h4 with h4|h4
    ·exfalso
     simp at hsA hB2;omega
    ·have hu:(P++(A1'++[u]++A2)++(B1++v::B2')++S)[s-1]?=some u:=by
      have e:P++(A1'++[u]++A2)++(B1++v::B2')++S=(P++A1')++u::(A2++(B1++v::B2')++S):=by simp
      rw [e,show s-1=(P++A1').length by simp at hsA ⊢;omega]
      exact Oy _ _ _
     have hv:(P++(A1'++[u]++A2)++(B1++v::B2')++S)[mid+m-1-(s-1)]?=some v:=by
      have e:P++(A1'++[u]++A2)++(B1++v::B2')++S=(P++(A1'++[u]++A2)++B1)++v::(B2'++S):=by simp
      rw [e,show mid+m-1-(s-1)=(P++(A1'++[u]++A2)++B1).length by simp at hsA hma ⊢;omega]
      exact Oy _ _ _
     rw [Jo hv hu] at h4
     simpa using h4
   have hxu:Fy u x=false:=by
    rcases List.mem_append.1 hx with h|h
    ·exact sA.left.cross x h u (by simp)
    ·simp at h;subst h;exact swoI.irr _
   have hvy:Fy y v=false:=by
    rcases List.mem_cons.1 hy with rfl|h
    ·exact swoI.irr _
    ·exact (List.pairwise_cons.1 sB.right).1 y h
   exact swoI.le_trans (swoI.le_trans hxu huv) hvy
 have x21:∀x∈A2,∀y∈B1,Fy y x=true:=by
  intro x hx y hy
  obtain ⟨B1',v,rfl⟩:∃B1' v,B1=B1'++[v]:=by
   rcases List.eq_nil_or_concat B1 with h|⟨B1',v,h⟩
   ·rw [h] at hy;cases hy
   ·exact ⟨B1',v,by rw [h];simp⟩
  cases A2 with
  | nil=>cases hx
  | cons u A2' =>
   have huv:Fy v u=true:=by
    rcases h5 with h5|h5
    ·exfalso
     simp at hsA hma hmd hA2;omega
    ·have hu:(P++(A1++u::A2')++(B1'++[v]++B2)++S)[s]?=some u:=by
      have e:P++(A1++u::A2')++(B1'++[v]++B2)++S=(P++A1)++u::(A2'++(B1'++[v]++B2)++S):=by simp
      rw [e,show s=(P++A1).length by simp at hsA ⊢;omega]
      exact Oy _ _ _
     have hv:(P++(A1++u::A2')++(B1'++[v]++B2)++S)[mid+m-1-s]?=some v:=by
      have e:P++(A1++u::A2')++(B1'++[v]++B2)++S=(P++(A1++u::A2')++B1')++v::(B2++S):=by simp
      rw [e,show mid+m-1-s=(P++(A1++u::A2')++B1').length by simp at hsA hma hmd ⊢;omega]
      exact Oy _ _ _
     rw [Jo hv hu] at h5
     simpa using h5
   have hux:Fy x u=false:=by
    rcases List.mem_cons.1 hx with rfl|h
    ·exact swoI.irr _
    ·exact (List.pairwise_cons.1 sA.right).1 x h
   have hyv:Fy v y=false:=by
    rcases List.mem_append.1 hy with h|h
    ·exact sB.left.cross y h v (by simp)
    ·simp at h;subst h;exact swoI.irr _
   exact swoI.lt_le (swoI.le_lt hyv huv) hux
 -- the parts
 obtain ⟨M1,k1,k2⟩:=part_merge h P A1 B1 (A2++B2++S) (by omega) sA.left sB.left (by omega) (fun l=>Il (P.length:Int) (m:Int) (b:Int) rec130 (s:Int) l)
 have hM1:=k2.len
 have hPM:(P++M1).length=mid:=by simp at hM1 ⊢;omega
 obtain ⟨M2,q1,q2⟩:=part_merge h (P++M1) A2 B2 S (by omega) sA.right sB.right (by simp at hM1 ⊢;omega) some
 have q3:=q2.len
 refine ⟨M1++M2,?_,?_,?_,?_⟩
 ·unfold Jg
  rw [if_neg (by rw [Bf (by omega) (by omega)];omega),if_neg (by rw [Bf (by omega) (by omega)];omega),hwm,hwn,e0]
  simp only [He]
  rw [h1,Option.bind_some]
  simp only [hwm,hwn,hend]
  have stage1:(if (s:Int)<(m:Int) then (if (m:Int)<((m+B1.length:Nat):Int) then ((Rl (P++(A1++A2)++(B1++B2)++S) (s:Int) (m:Int) ((m+B1.length:Nat):Int)).bind fun x240=>((Dt (x240.length=(P++(A1++A2)++(B1++B2)++S).length)).bind fun x241=>Fi (P.length:Int) (m:Int) (b:Int) rec130 (s:Int) x240)) else Fi (P.length:Int) (m:Int) (b:Int) rec130 (s:Int) (P++(A1++A2)++(B1++B2)++S)) else Fi (P.length:Int) (m:Int) (b:Int) rec130 (s:Int) (P++(A1++A2)++(B1++B2)++S))=Fi (P.length:Int) (m:Int) (b:Int) rec130 (s:Int) (P++A1++B1++(A2++B2++S)):=by
   by_cases d1:A2=[]
   ·subst d1
    rw [if_neg (by simp at hA2;omega)];simp
   by_cases d2:B1=[]
   ·subst d2
    rw [if_pos (by have:=List.length_pos_iff.2 d1;omega),if_neg (by simp)];simp
   have p1:=List.length_pos_iff.2 d1
   have p2:=List.length_pos_iff.2 d2
   rw [if_pos (by omega),if_pos (by omega)]
   have e:P++(A1++A2)++(B1++B2)++S=(P++A1)++A2++B1++(B2++S):=by simp
   rw [e,rot_eq (P++A1) A2 B1 (B2++S) p1 p2 (by simp;omega) (by rw [hsA];simp) (by rw [hA2,hsA];simp) (by rw [hA2,hsA];simp),Option.bind_some,Cw (by simp;omega),Option.bind_some]
   simp
  rw [stage1]
  have e2:((P.length+A1.length:Nat):Int)=(s:Int):=by omega
  have e3:((P.length+A1.length+B1.length:Nat):Int)=(mid:Int):=by omega
  rw [e2,e3] at k1
  simp only [Fi,hwm]
  rw [k1]
  have e4:(((P++M1).length:Nat):Int)=(mid:Int):=by omega
  have e5:(((P++M1).length+A2.length:Nat):Int)=((m+B1.length:Nat):Int):=by omega
  have e6:(((P++M1).length+A2.length+B2.length:Nat):Int)=(b:Int):=by omega
  have e7:P++M1++(A2++B2++S)=P++M1++A2++B2++S:=by simp
  rw [e4,e5,e6] at q1
  simp only [Il,hwm,hwn,hend]
  rw [e7,q1]
  simp
 ·refine Srt.append k2.srt q2.srt fun x hx y hy=>?_
  rcases List.mem_append.1 (k2.sf.mem swoI hx) with h|h<;>rcases List.mem_append.1 (q2.sf.mem swoI hy) with h'|h'
  ·exact sA.cross x h y h'
  ·exact x12 x h y h'
  ·exact swoI.asym (x21 y h' x h)
  ·exact sB.cross x h y h'
 ·refine (SF.append k2.sf q2.sf).trans ?_
  have:SF Fy (A1++(B1++A2)++B2) (A1++(A2++B1)++B2):=SF.append (SF.append (SF.refl _) (Uu swoI x21).symm) (SF.refl _)
  simpa using this
 ·simp at hM1 q3 ⊢;omega
theorem sym_all:∀n:Nat,Yp (Oo n) n
 | 0=>fun P A B S hn hA hB=>by omega
 | n+1=>sym_step (sym_all n)
theorem sym_eq (P A B S:List Res) (hA:0<A.length) (hB:0<B.length) (sA:Srt Fy A) (sB:Srt Fy B) (hl:P.length+A.length+B.length≤100000) :
  ∃M,Oo Qh (P++A++B++S) (P.length:Int) ((P.length+A.length:Nat):Int) ((P.length+A.length+B.length:Nat):Int)=some (P++M++S)∧Sorts Fy (A++B) M :=
 sym_all Qh P A B S (Nat.le_trans (show A.length+B.length≤100000 by omega) (by decide)) hA hB sA sB hl
def AB (bs:Nat) (l:List Res):Prop:=∀k,Srt Fy ((l.drop (k*bs)).take bs)
theorem AB.nil (bs:Nat):AB bs []:=fun k=>by simp only [List.drop_nil,List.take_nil];exact Srt.nil
theorem AB.snoc {bs q:Nat} {D M:List Res} (h:AB bs D) (hD:D.length=q*bs) (hM:M.length≤bs) (hs:Srt Fy M):AB bs (D++M):=fun k=>by
 rcases Nat.lt_trichotomy k q with hk|hk|hk
 ·have h1:(k+1)*bs≤q*bs:=Nat.mul_le_mul_right bs hk
  rw [Nat.succ_mul] at h1
  rw [List.drop_append_of_le_length (by omega),List.take_append_of_le_length (by rw [List.length_drop];omega)]
  exact h k
 ·subst hk
  rw [←hD,List.drop_left,List.take_of_length_le hM]
  exact hs
 ·have h1:(q+1)*bs≤k*bs:=Nat.mul_le_mul_right bs hk
  rw [Nat.succ_mul] at h1
  rw [List.drop_eq_nil_of_le (by rw [List.length_append];omega),List.take_nil]
  exact Srt.nil
theorem AB.head {bs:Nat} {l:List Res} (h:AB bs l):Srt Fy (l.take bs):=by
 have:=h 0
 simpa using this
theorem AB.drop {bs:Nat} {l:List Res} (h:AB bs l):AB bs (l.drop bs):=fun k=>by
 have:=h (k+1)
 rw [List.drop_drop]
 rw [Nat.succ_mul] at this
 rw [Nat.add_comm]
 exact this
def Ev (l l':List Res):Prop:=SF Fy l l'∧l.length=l'.length
theorem Ev.refl (l:List Res):Ev l l:=⟨SF.refl l,rfl⟩
theorem Ev.trans {a b c:List Res} (h:Ev a b) (k:Ev b c):Ev a c:=⟨h.1.trans k.1,h.2.trans k.2⟩
theorem Ev.app {a b c d:List Res} (h:Ev a b) (k:Ev c d):Ev (a++c) (b++d):=⟨SF.append h.1 k.1,by rw [List.length_append,List.length_append,h.2,k.2]⟩
theorem ins_phase:∀(n:Nat) (D R:List Res) (q:Nat),R.length=n→D.length=q*20→AB 20 D→D.length+R.length≤100000 →
  ∃D' R' q',loopO (Jv ((D.length+R.length:Nat):Int)) (D++R,(D.length:Int),((D.length+20:Nat):Int))=some ((D'.length:Int),D'++R')∧D'.length=q'*20∧AB 20 D'∧R'.length<20∧Ev (D'++R') (D++R):=by
 intro n
 induction n using Nat.strongRecOn with
 | ind n ih =>
  intro D R q hn hD hA hl
  by_cases h:20≤R.length
  ·obtain ⟨X,R',rfl,hX⟩:=Hv h
   obtain ⟨M,h1,h2⟩:=ins_eq D X R' (by simp at hl;omega) (a:=(D.length:Int)) (b:=((D.length+20:Nat):Int)) rfl (by rw [hX])
   have hM:=h2.len
   have hw:IntKind.i64.wrap (((D.length+20:Nat):Int)+20)=((D.length+20+20:Nat):Int):=by rw [Bf (by omega) (by omega)];omega
   have hstep:Jv ((D.length+(X++R').length:Nat):Int) (D++(X++R'),(D.length:Int),((D.length+20:Nat):Int))=some (.inl ((D++M)++R',((D++M).length:Int),(((D++M).length+20:Nat):Int))):=by
    simp only [Jv]
    rw [if_pos (by simp;omega),←List.append_assoc,h1,Option.bind_some,Cw (by simp;omega),Option.bind_some,hw]
    simp [hM,hX]
   rw [Bj hstep]
   obtain ⟨D',R'',q',k1,k2,k3,k4,k5⟩:=ih R'.length (by simp at hn;omega) (D++M) R' (q+1) rfl (by simp;omega) (hA.snoc hD (by omega) h2.srt) (by simp at hl ⊢;omega)
   refine ⟨D',R'',q',?_,k2,k3,k4,k5.trans ?_⟩
   ·rw [←k1];congr 2;simp;omega
   ·rw [List.append_assoc]
    exact (Ev.refl D).app (Ev.app ⟨h2.sf,h2.len⟩ (Ev.refl R'))
  ·refine ⟨D,R,q,Al ?_,hD,hA,by omega,Ev.refl _⟩
   simp only [Jv]
   rw [if_neg (by omega)]
theorem merge_phase (bs:Nat) (hbs:0<bs) (hb2:bs≤100000):∀(n:Nat) (D R:List Res) (q:Nat),R.length=n→D.length=q*(2*bs)→AB (2*bs) D→AB bs R→D.length+R.length≤100000 →
  ∃D' R' q',loopO (Ju ((D.length+R.length:Nat):Int) (bs:Int)) (D++R,(D.length:Int),((D.length+2*bs:Nat):Int))=some ((D'.length:Int),D'++R')∧D'.length=q'*(2*bs)∧AB (2*bs) D'∧AB bs R'∧R'.length<2*bs∧Ev (D'++R') (D++R):=by
 intro n
 induction n using Nat.strongRecOn with
 | ind n ih =>
  intro D R q hn hD hA hR hl
  by_cases h:2*bs≤R.length
  ·obtain ⟨X,R1,rfl,hX⟩:=Hv (l:=R) (n:=bs) (by omega)
   obtain ⟨Y,R',rfl,hY⟩:=Hv (l:=R1) (n:=bs) (by simp at h;omega)
   have sX:Srt Fy X:=by have:=hR.head;rwa [←hX,List.take_left] at this
   have hR1:AB bs (Y++R'):=by have:=hR.drop;rwa [←hX,List.drop_left,hX] at this
   have sY:Srt Fy Y:=by have:=hR1.head;rwa [←hY,List.take_left] at this
   have hR':AB bs R':=by have:=hR1.drop;rwa [←hY,List.drop_left,hY] at this
   obtain ⟨M,h1,h2⟩:=sym_eq D X Y R' (by omega) (by omega) sX sY (by simp at hl;omega)
   have hM:=h2.len
   simp only [List.length_append] at hM
   have hw:IntKind.i64.wrap ((D.length:Int)+(bs:Int))=((D.length+X.length:Nat):Int):=by rw [Bf (by omega) (by omega)];omega
   have hw2:IntKind.i64.wrap (((D.length+2*bs:Nat):Int)+IntKind.i64.wrap (2*(bs:Int)))=((D.length+2*bs+2*bs:Nat):Int):=by rw [Bf (show -9223372036854775808≤2*(bs:Int) by omega) (by omega),Bf (by omega) (by omega)];omega
   have hstep:Ju ((D.length+(X++(Y++R')).length:Nat):Int) (bs:Int) (D++(X++(Y++R')),(D.length:Int),((D.length+2*bs:Nat):Int))=some (.inl ((D++M)++R',((D++M).length:Int),(((D++M).length+2*bs:Nat):Int))):=by
    simp only [Ju]
    have e:D++(X++(Y++R'))=D++X++Y++R':=by simp
    have e2:((D.length+2*bs:Nat):Int)=((D.length+X.length+Y.length:Nat):Int):=by omega
    have e3:((D++M).length:Int)=((D.length+2*bs:Nat):Int):=by simp;omega
    rw [if_pos (by simp;omega),hw2,hw,e2,e,h1,Option.bind_some,Cw (by simp;omega),Option.bind_some]
    simp [hM]
    omega
   rw [Bj hstep]
   obtain ⟨D',R'',q',k1,k2,k3,k4,k5,k6⟩:=ih R'.length (by simp at hn;omega) (D++M) R' (q+1) rfl (by rw [Nat.succ_mul];simp;omega) (hA.snoc hD (by omega) h2.srt) hR' (by simp at hl ⊢;omega)
   refine ⟨D',R'',q',?_,k2,k3,k4,k5,k6.trans ?_⟩
   ·rw [←k1];congr 2;simp;omega
   ·have:Ev (D++(M++R')) (D++((X++Y)++R')):=(Ev.refl D).app (Ev.app ⟨h2.sf,h2.len⟩ (Ev.refl R'))
    simpa using this
  ·refine ⟨D,R,q,Al ?_,hD,hA,hR,by omega,Ev.refl _⟩
   simp only [Ju]
   rw [if_neg (by omega)]
theorem passes (N:Nat) (hN:N≤100000):∀(k:Nat) (l:List Res) (bs:Nat),N-bs=k→0<bs→bs≤200000→l.length=N→AB bs l→∃r,loopO (Ip (N:Int)) (l,(bs:Int))=some r∧Srt Fy r∧Ev r l:=by
 intro k
 induction k using Nat.strongRecOn with
 | ind k ih =>
  intro l bs hk h0 hb hl hA
  by_cases hlt:bs<N
  ·obtain ⟨D,R,q,h1,h2,h3,h4,h5,h6⟩:=merge_phase bs h0 (by omega) l.length [] l 0 rfl (by simp) (AB.nil _) hA (by simp;omega)
   have hlen:=h6.2
   simp only [List.nil_append,List.length_append,List.length_nil,Nat.zero_add] at h1 hlen h6
   have w2:IntKind.i64.wrap (2*(bs:Int))=((2*bs:Nat):Int):=by rw [Bf (by omega) (by omega)];omega
   have w3:IntKind.i64.wrap ((bs:Int)*2)=((2*bs:Nat):Int):=by rw [Bf (by omega) (by omega)];omega
   have w4:IntKind.i64.wrap ((D.length:Int)+(bs:Int))=((D.length+bs:Nat):Int):=by rw [Bf (by omega) (by omega)];omega
   obtain ⟨l',s1,s2,s3⟩:∃l',Ip (N:Int) (l,(bs:Int))=some (.inl (l',((2*bs:Nat):Int)))∧AB (2*bs) l'∧Ev l' l:=by
    by_cases hc:D.length+bs<N
    ·obtain ⟨X,Y,rfl,hX⟩:=Hv (l:=R) (n:=bs) (by omega)
     have sX:Srt Fy X:=by have:=h4.head;rwa [←hX,List.take_left] at this
     have sY:Srt Fy Y:=by
      have:=(h4.drop).head
      rw [←hX,List.drop_left] at this
      rwa [List.take_of_length_le (by simp at h5;omega)] at this
     simp only [List.length_append] at hlen h5
     obtain ⟨M,m1,m2⟩:=sym_eq D X Y [] (by omega) (by omega) sX sY (by omega)
     have hM:=m2.len
     simp only [List.append_nil,List.length_append] at m1 hM
     refine ⟨D++M,?_,h3.snoc h2 (by omega) m2.srt,Ev.trans ?_ h6⟩
     ·simp only [Ip]
      rw [if_pos (by omega),w2,show (0:Int)=((([]:List Res).length:Nat):Int) from rfl]
      rw [show (N:Int)=((l.length:Nat):Int) by omega]
      simp only [List.length_nil]
      rw [h1,Option.bind_some]
      simp only [w4,w3]
      have e1:((D.length+bs:Nat):Int)=((D.length+X.length:Nat):Int):=by omega
      have e2:((l.length:Nat):Int)=((D.length+X.length+Y.length:Nat):Int):=by omega
      rw [if_pos (by omega),e1,e2,show D++(X++Y)=D++X++Y by simp,m1,Option.bind_some,Cw (by simp;omega),Option.bind_some]
     ·exact (Ev.refl D).app ⟨m2.sf,m2.len⟩
    ·refine ⟨D++R,?_,h3.snoc h2 (by omega) ?_,h6⟩
     ·simp only [Ip]
      rw [if_pos (by omega),w2,show (0:Int)=((([]:List Res).length:Nat):Int) from rfl]
      rw [show (N:Int)=((l.length:Nat):Int) by omega]
      simp only [List.length_nil]
      rw [h1,Option.bind_some]
      simp only [w4,w3]
      rw [if_neg (by omega)]
     ·have:=h4.head
      rwa [List.take_of_length_le (by omega)] at this
   rw [Bj s1]
   obtain ⟨r,t1,t2,t3⟩:=ih (N-2*bs) (by omega) l' (2*bs) rfl (by omega) (by omega) (by rw [s3.2,hl]) s2
   exact ⟨r,t1,t2,t3.trans s3⟩
  ·refine ⟨l,Al ?_,?_,Ev.refl _⟩
   ·simp only [Ip]
    rw [if_neg (by omega)]
   ·have:=hA.head
    rwa [List.take_of_length_le (by omega)] at this
theorem stable_eq (l:List Res) (hl:l.length≤100000):∃r,f74_75 l=some r∧Sorts Fy l r:=by
 obtain ⟨D,R,q,h1,h2,h3,h4,h5⟩:=ins_phase l.length [] l 0 rfl (by simp) (AB.nil _) (by simp;omega)
 have hlen:=h5.2
 simp only [List.nil_append,List.length_append,List.length_nil,Nat.zero_add] at h1 hlen h5
 obtain ⟨M,m1,m2⟩:=ins_eq D R [] (by omega) (a:=(D.length:Int)) (b:=(l.length:Int)) rfl (by omega)
 simp only [List.append_nil] at m1
 have hM:=m2.len
 obtain ⟨r,t1,t2,t3⟩:=passes l.length hl (l.length-20) (D++M) 20 rfl (by decide) (by decide) (by simp;omega) (h3.snoc h2 (by omega) m2.srt)
 have ev:Ev r l:=t3.trans (((Ev.refl D).app ⟨m2.sf,m2.len⟩).trans h5)
 refine ⟨r,?_,t2,ev.1,ev.2⟩
 unfold f74_75 Ym
 rw [show ((0:Int))=((0:Nat):Int) from rfl,show (20:Int)=((20:Nat):Int) from rfl,h1,Option.bind_some]
 simp only
 rw [m1,Option.bind_some,Cw (by simp;omega),Option.bind_some,t1,Option.bind_some,Option.bind_some,Cw ev.2,Option.bind_some]
def Je (a0:ByteArray) (a1:ByteArray):Int→Option (Int⊕(Bool⊕Unit))
  | s1_0=>(if s1_0<(a0.size:Int) then (if s1_0<(a1.size:Int) then ((ix (bl a0) s1_0).bind fun x19=>((ix (bl a1) s1_0).bind fun x20=>(if (x19.toNat:Int)=(x20.toNat:Int) then some (.inl (IntKind.i64.wrap (s1_0+1))) else some (.inr (.inl (decide ((x19.toNat:Int)<(x20.toNat:Int)))))))) else some (.inr (.inr ()))) else some (.inr (.inr ())))
def f67 (a0:ByteArray) (a1:ByteArray):Option Bool:=((loopO (Je a0 a1) 0).bind fun y22=>match y22 with|.inl y23=>some y23|.inr _=>some (decide ((a0.size:Int)<(a1.size:Int))))
theorem ok67 (a0:ByteArray) (a1:ByteArray) (r:Bool) (h:f67 a0 a1=some r):PC Tryz.prog 67 [.val (.string a0),.val (.string a1)] (.val (.bool r)):=by
 rw [f67] at h
 refine Bi (N:=37) (rs:=[.tmp 4]) Tryz.func67 ?_
 refine Ac [0,1] ?_
 refine AW.seq<|Ao [0,1,5] ?_
 refine AW.block ?_
 obtain ⟨y22,hy22,h⟩:=bO h
 refine AW.loopO (fun s=>⟨(Ag (Ag (Ag Az 0 (.val (.string a0))) 1 (.val (.string a1))) 5 (.val (.int .i64 s))),Bo [] [],8⟩) (fun y e st'=>match y with|.inl z=>e=Exit.ret∧Ay Tryz.prog [.tmp 4] (.val (.bool z)) .ret st'|.inr z=>e=Exit.exit 0∧st'=⟨(Ag (Ag Az 0 (.val (.string a0))) 1 (.val (.string a1))),Bo [] [],8⟩) hy22 ?_ ?_ ?_
 ·exact Bg RF.any.qv.qv.qv
 ·clear h hy22
  rintro s1_0 x h
  rw [Je] at h
  refine AW.seq ?_
  rcases Aq h with ⟨c17,h⟩|⟨c17,h⟩
  ·refine Ao [0,1,5,15] ?_
   rcases Aq h with ⟨c18,h⟩|⟨c18,h⟩
   ·refine Aj rfl c18<|AW.skip<|Aa<|AW.seq<|AW.block ?_
    obtain ⟨x19,hx19,h⟩:=bO h
    obtain ⟨hx19a,hx19b⟩:=ix_some.1 hx19
    obtain ⟨x20,hx20,h⟩:=bO h
    obtain ⟨hx20a,hx20b⟩:=ix_some.1 hx20
    refine Dm [0,1,5,24] [0,0,3,0,0,24,63] ?_
    generalize hK:AW Tryz.prog _ _ _=K
    simp only [go_sem,seval,Nn st9 hx19a hx19b,Nn st9 hx20a hx20b]
    subst hK
    rcases Aq h with ⟨c21,h⟩|⟨c21,h⟩
    ·refine Ai rfl (fun q=>q c21)<|AW.skip<|Ax<|Aa<|Bz [0,1,5] ?_
     refine Aa ?_
     refine ⟨_,oj h,?_⟩
     exact Bg RF.any.qv.qv.qv
    ·refine Aj rfl c21<|Dm [4] [0,0,3,0,0,24,63,127] ?_
     generalize hK:AW Tryz.prog _ _ _=K
     simp only [go_sem,seval,Nn st9 hx19a hx19b,Nn st9 hx20a hx20b]
     subst hK
     refine AW.ret<|Bd<|Ad<|Ad ?_
     refine ⟨_,oj h,_,Ent.refl,rfl,?_⟩
     (simp only [go_sem,seval,Ay]<;>try simp)
   ·refine Ai rfl c18<|AW.exit<|Af<|Af ?_
    refine ⟨_,oj h,_,?_,rfl,rfl⟩
    exact Bg RF.any.qv.qv
  ·refine Ao [0,1,5,15] ?_
   refine Bl rfl rfl<|AW.exit<|Af<|Af ?_
   refine ⟨_,oj h,_,?_,rfl,rfl⟩
   exact Bg RF.any.qv.qv
 ·intro e st' hX
  rcases y22 with y23|_<;>dsimp only at h hX
  ·obtain ⟨rfl,hf⟩:=hX
   refine ⟨_,Ent.refl,?_⟩
   refine Bd<|Ad ?_
   obtain rfl:=oi h
   exact hf
  ·obtain ⟨rfl,rfl⟩:=hX
   refine ⟨_,Ent.refl,?_⟩
   refine Bc<|Aa<|Ac [4] ?_
   refine AW.ret ?_
   obtain rfl:=oi h
   (simp only [go_sem,seval,Ay]<;>try simp)
def Rj:Int×Int→Option ((Int×Int)⊕Int)
  | (s1_0,s1_1)=>(if s1_1<8 then some (.inl (Ki .u32 (Dn .u32 s1_0 1) (Xu .u32 3988292384 (IntKind.u32.wrap (0-(Xu .u32 s1_0 1)))),IntKind.i64.wrap (s1_1+1))) else some (.inr s1_0))
def f180 (a0:Int) (a1:Int):Option Int:=((loopO Rj (Ki .u32 a0 (IntKind.u32.wrap a1),0)).bind fun y8=>some y8)
theorem ok180 (a0:Int) (a1:Int) (r:Int) (h:f180 a0 a1=some r):PC Tryz.prog 180 [.val (.int .u32 a0),.val (.int .u8 a1)] (.val (.int .u32 r)):=by
 rw [f180] at h
 refine Bi (N:=20) (rs:=[.tmp 4]) Tryz.func180 ?_
 refine Ao [0,1] ?_
 refine Ao [0] ?_
 refine AW.seq<|Ao [0,9] ?_
 refine AW.block ?_
 obtain ⟨y8,hy8,h⟩:=bO h
 refine AW.loopO (fun s=>⟨(Ag (Ag Az 0 (.val (.int .u32 s.1))) 9 (.val (.int .i64 s.2))),Bo [] [],8⟩) (fun z e st'=>e=Exit.exit 0∧st'=⟨(Ag Az 0 (.val (.int .u32 z))),Bo [] [],8⟩) hy8 ?_ ?_ ?_
 ·exact Bg RF.any.qv.qv
 ·clear h hy8
  rintro ⟨s1_0,s1_1⟩ x h
  rw [Rj] at h
  refine Eb [0,9,10] ?_
  refine AW.seq ?_
  rcases Aq h with ⟨c6,h⟩|⟨c6,h⟩
  ·refine Aj rfl c6<|AW.skip<|Aa<|AW.seq<|AW.block<|Uw [0,9] ?_
   refine Ax<|Aa<|Uw [0,9] ?_
   refine Aa ?_
   refine ⟨_,oj h,?_⟩
   exact Bg RF.any.qv.qv
  ·refine Ai rfl c6<|AW.exit<|Af<|Af ?_
   refine ⟨_,oj h,_,?_,rfl,rfl⟩
   exact Bg RF.any.qv
 ·intro e st' hX
  try dsimp only at h
  try dsimp only at hX
  obtain ⟨rfl,rfl⟩:=hX
  refine ⟨_,Ent.refl,?_⟩
  refine Bc<|Aa<|Ao [4] ?_
  refine AW.ret ?_
  obtain rfl:=oi h
  (simp only [go_sem,seval,Ay]<;>try simp)
def f179 (a0:Int) (a1:Int):Option Int:=((f180 a1 a0).bind fun x1=>some x1)
theorem ok179 (a0:Int) (a1:Int) (r:Int) (h:f179 a0 a1=some r):IC Tryz.prog 179 [some (.row 1 true [[.val (.int .u32 a1)]])] [.val (.int .u8 a0),.ptr 0 0 0] (.tup []) [some (.row 1 true [[.val (.int .u32 r)]])] []:=by
 rw [f179] at h
 refine Oe (N:=6) (rs:=[]) Tryz.func179 rfl rfl rfl (Nat.le_of_ble_eq_true rfl) ?_
 obtain ⟨x1,hx1,h⟩:=bO h
 refine AW.rD [] (ok180 a1 a0 x1 hx1) Tryz.call180 ?_
 refine ⟨⟨Az,Bo [some (.row 1 true [[.val (.int .u32 x1)]])] [],8⟩,?_,?_⟩
 · refine Bu [] _ _ _ rfl (by first|decide|simp) rfl ?_ ?_ ?_
   · exact RF.any
   · exact .ce (.nil _)
   · exact .nil _
 obtain rfl:=oi h
 exact ⟨rfl,rfl,_,rfl,by first|rfl|simp [Cu,Ae,Ar]⟩
def Tz (a1:List Int):Int×Int→Option ((Int×Int)⊕Int)
  | (s1_0,s1_1)=>(if s1_1<(a1.length:Int) then ((ix a1 s1_1).bind fun x14=>((f179 x14 s1_0).bind fun x15=>some (.inl (x15,IntKind.i64.wrap (s1_1+1))))) else some (.inr s1_0))
def f178 (a0:Int) (a1:List Int):Option Int:=((loopO (Tz a1) (Ki .u32 (allV .u32) a0,0)).bind fun y17=>some (Ki .u32 (allV .u32) y17))
theorem ok178 (a0:Int) (a1:List Int) (r:Int) (h:f178 a0 a1=some r):PC Tryz.prog 178 [.val (.int .u32 a0),.sl (List.map Aw a1)] (.val (.int .u32 r)):=by
 rw [f178] at h
 refine Bi (N:=24) (rs:=[.tmp 4]) Tryz.func178 ?_
 refine Ac [0,1] ?_
 refine Ac [1,5] ?_
 refine Ac [1,5,6] ?_
 refine AW.seq<|Ac [5,6,12,13,14] ?_
 refine AW.block ?_
 obtain ⟨y17,hy17,h⟩:=bO h
 refine AW.loopO (fun s=>⟨(Ag (Ag (Ag (Ag (Ag Az 5 (.ptr 8 0 0)) 6 (.clo (.func 179) [] [.ptr 8 0 0])) 12 (.sl (List.map Aw a1))) 13 (.val (.int .i64 (a1.length:Int)))) 14 (.val (.int .i64 s.2))),Bo [] [some (.row 1 true [[.val (.int .u32 s.1)]])],9⟩) (fun z e st'=>e=Exit.exit 0∧st'=⟨(Ag Az 5 (.ptr 8 0 0)),Bo [] [some (.row 1 true [[.val (.int .u32 z)]])],9⟩) hy17 ?_ ?_ ?_
 ·exact Ab [32] RF.any.qp.qt.qv.qv.qv (.nil _) (.ce (.nil _))
 ·clear h hy17
  rintro ⟨s1_0,s1_1⟩ x h
  rw [Tz] at h
  refine Ac [5,6,12,13,14,15] ?_
  refine AW.seq ?_
  rcases Aq h with ⟨c13,h⟩|⟨c13,h⟩
  ·refine Aj rfl c13<|AW.skip<|Aa<|AW.seq<|AW.block ?_
   obtain ⟨x14,hx14,h⟩:=bO h
   obtain ⟨hx14a,hx14b⟩:=ix_some.1 hx14
   refine Ao [5,6,8,12,13,14] ?_
   obtain ⟨x15,hx15,h⟩:=bO h
   refine Dq [5,6,12,13,14] fun K hK=>?_
   simp only [go_sem,seval]
   refine arC.ok (Br (us':=_) (ok179 x14 s1_0 x15 hx15) [8] (.cons (.eq (by simp only [go_sem]) (by first|rfl|simp [Ae,Ap,Cf])) (.nil _)) (.cons (.of rfl) (.cons (.of rfl) .nil))) Tryz.call179 ?_
   simp only [go_sem,seval]
   subst hK
   refine Ax<|Aa<|Cd [5,6,12,13,14] ?_
   refine Aa ?_
   refine ⟨_,oj h,?_⟩
   exact Ab [8] RF.any.qp.qt.qv.qv.qv (.nil _) (.ce (.nil _))
  ·refine Ai rfl c13<|AW.exit<|Af<|Af ?_
   refine ⟨_,oj h,_,?_,rfl,rfl⟩
   exact Ab [8] RF.any.qp (.nil _) (.ce (.nil _))
 ·intro e st' hX
  try dsimp only at h
  try dsimp only at hX
  obtain ⟨rfl,rfl⟩:=hX
  refine ⟨_,Ent.refl,?_⟩
  refine Bc<|Aa<|Ac [4] ?_
  refine AW.ret ?_
  obtain rfl:=oi h
  (simp only [go_sem,seval,Ay]<;>try simp)
def f175 (a0:List Int):Option Int:=((f178 0 a0).bind fun x1=>some x1)
theorem ok175 (a0:List Int) (r:Int) (h:f175 a0=some r):PC Tryz.prog 175 [.sl (List.map Aw a0)] (.val (.int .u32 r)):=by
 rw [f175] at h
 refine Bi (N:=5) (rs:=[.tmp 2]) Tryz.func175 ?_
 refine Ac [0] ?_
 obtain ⟨x1,hx1,h⟩:=bO h
 refine Bx [2] (ok178 0 a0 x1 hx1) Tryz.call178 ?_
 refine AW.ret ?_
 obtain rfl:=oi h
 (simp only [go_sem,seval,Ay]<;>try simp)
def Rk (x1:Int):(List Int)×Int→Option (((List Int)×Int)⊕(List Int))
  | (s1_0,s1_1)=>(if s1_1<4 then ((Dt (0≤(IntKind.i64.wrap (8*s1_1)))).bind fun x13=>((Bq s1_0 [IntKind.u8.wrap (Dn .u32 x1 (IntKind.i64.wrap (8*s1_1)).toNat)]).bind fun x14=>some (.inl (x14,IntKind.i64.wrap (s1_1+1))))) else some (.inr s1_0))
def f162 (a0:List Int):Option (List Int):=((f175 a0).bind fun x1=>((f133 a0).bind fun x2=>((loopO (Rk x1) (x2,0)).bind fun y16=>some y16)))
theorem ok162 (a0:List Int) (r:(List Int)) (h:f162 a0=some r):PC Tryz.prog 162 [.sl (List.map Aw a0)] (.fr 1 (List.map Aw r)):=by
 rw [f162] at h
 refine Bi (N:=23) (rs:=[.tmp 2]) Tryz.func162 ?_
 refine Ac [0] ?_
 obtain ⟨x1,hx1,h⟩:=bO h
 refine Bx [0,3] (ok175 a0 x1 hx1) Tryz.call175 ?_
 obtain ⟨x2,hx2,h⟩:=bO h
 refine AW.tC [3,4] (ok133 a0 x2 hx2) Tryz.call133 ?_
 refine AW.seq<|Ac [3,4,10] ?_
 refine AW.block ?_
 obtain ⟨y16,hy16,h⟩:=bO h
 refine AW.loopO (fun s=>⟨(Ag (Ag (Ag Az 3 (.val (.int .u32 x1))) 4 (.own 8 0 s.1.length)) 10 (.val (.int .i64 s.2))),Bo [] [some (.row 1 true (List.map Aw s.1))],9⟩) (fun z e st'=>e=Exit.exit 0∧st'=⟨(Ag Az 4 (.own 8 0 z.length)),Bo [] [some (.row 1 true (List.map Aw z))],9⟩) hy16 ?_ ?_ ?_
 ·exact Ab [48] RF.any.qv.qo.qv (.nil _) (.ce (.nil _))
 ·clear h hy16
  rintro ⟨s1_0,s1_1⟩ x h
  rw [Rk] at h
  refine Ac [3,4,10,11] ?_
  refine AW.seq ?_
  rcases Aq h with ⟨c12,h⟩|⟨c12,h⟩
  ·refine Aj rfl c12<|AW.skip<|Aa<|AW.seq<|AW.block<|Ac [3,4,5,10] ?_
   obtain ⟨x13,hx13,h⟩:=bO h
   obtain ⟨x14,hx14,h⟩:=bO h
   obtain ⟨hx14b,hx14e⟩:=appO?_some.1 hx14
   have hx14f:∀id o:Nat,Dw 1 1 id ([[.val (.int .u8 (IntKind.u8.wrap (Dn .u32 x1 (IntKind.i64.wrap (8*s1_1)).toNat)))]]) 0 s1_0.length o (some (.row 1 true (List.map Aw s1_0)))=some ⟨.own id 0 x14.length,[(o,none),(id,some (.row 1 true (List.map Aw x14)))]⟩:=fun id o=>by
     subst hx14e;rw [Bw (by simp) (by simpa using hx14b) (by decide)];first|(simp [Aw];done)|(simp [Aw];omega)
   refine Dq [3,4,10] fun K hK=>?_
   simp only [go_sem,seval,eq_true c12,eq_false (Int.not_lt.2 (guardO_some.1 hx13)),hx14f]
   subst hK
   refine Ax<|Aa<|Cd [3,4,10] ?_
   refine Aa ?_
   refine ⟨_,oj h,?_⟩
   exact Ab [89] RF.any.qv.qo.qv (.nil _) (.ce (.nil _))
  ·refine Ai rfl c12<|AW.exit<|Af<|Af ?_
   refine ⟨_,oj h,_,?_,rfl,rfl⟩
   exact Ab [8] RF.any.qo (.nil _) (.ce (.nil _))
 ·intro e st' hX
  try dsimp only at h
  try dsimp only at hX
  obtain ⟨rfl,rfl⟩:=hX
  refine ⟨_,Ent.refl,?_⟩
  refine Bc<|Aa<|Ac [2] ?_
  refine AW.ret ?_
  obtain rfl:=oi h
  (simp only [go_sem,seval,Ay]<;>try simp)
def f161_s1 (a0:List Int) (a1:List Int):Int→Option (Int⊕(Bool⊕Unit))
  | s1_0=>(if s1_0<(a0.length:Int) then ((ix a0 s1_0).bind fun x18=>((ix a1 s1_0).bind fun x19=>(if x18=x19 then some (.inl (IntKind.i64.wrap (s1_0+1))) else some (.inr (.inl false))))) else some (.inr (.inr ())))
def f161 (a0:List Int) (a1:List Int):Option Bool:=(if (a0.length:Int)=(a1.length:Int) then ((loopO (f161_s1 a0 a1) 0).bind fun y21=>match y21 with|.inl y22=>some y22|.inr _=>some true) else some false)
theorem ok161 (a0:List Int) (a1:List Int) (r:Bool) (h:f161 a0 a1=some r):PC Tryz.prog 161 [.sl (List.map Aw a0),.sl (List.map Aw a1)] (.val (.bool r)):=by
 rw [f161] at h
 refine Bi (N:=26) (rs:=[.tmp 4]) Tryz.func161 ?_
 refine Ac [0,1] ?_
 refine AW.seq<|Ac [0,1,10] ?_
 rcases Aq h with ⟨c2,h⟩|⟨c2,h⟩
 ·refine Ai rfl (fun q=>q c2) ?_
  refine AW.skip<|Aa<|AW.seq<|Ac [0,1,12,13] ?_
  refine AW.block ?_
  obtain ⟨y21,hy21,h⟩:=bO h
  refine AW.loopO (fun s=>⟨(Ag (Ag (Ag (Ag Az 0 (.sl (List.map Aw a0))) 1 (.sl (List.map Aw a1))) 12 (.val (.int .i64 (a0.length:Int)))) 13 (.val (.int .i64 s))),Bo [] [],8⟩) (fun y e st'=>match y with|.inl z=>e=Exit.ret∧Ay Tryz.prog [.tmp 4] (.val (.bool z)) .ret st'|.inr z=>e=Exit.exit 0∧st'=⟨Az,Bo [] [],8⟩) hy21 ?_ ?_ ?_
  ·exact Bg RF.any.qv.qv.qv.qv
  ·clear h hy21
   rintro s1_0 x h
   rw [f161_s1] at h
   refine Ac [0,1,12,13,14] ?_
   refine AW.seq ?_
   rcases Aq h with ⟨c17,h⟩|⟨c17,h⟩
   ·refine Aj rfl c17<|AW.skip<|Aa<|AW.seq<|AW.block<|Ac [0,1,5,12,13] ?_
    obtain ⟨x18,hx18,h⟩:=bO h
    obtain ⟨hx18a,hx18b⟩:=ix_some.1 hx18
    obtain ⟨x19,hx19,h⟩:=bO h
    obtain ⟨hx19a,hx19b⟩:=ix_some.1 hx19
    refine Dm [0,1,12,13,24] [0,0,3,7,0,0,48,112,255] ?_
    generalize hK:AW Tryz.prog _ _ _=K
    simp only [go_sem,seval,Ah hx18a,hx18b,Ah hx19a,hx19b]
    subst hK
    rcases Aq h with ⟨c20,h⟩|⟨c20,h⟩
    ·refine Ai rfl (fun q=>q c20)<|AW.skip<|Ax<|Aa<|Cd [0,1,12,13] ?_
     refine Aa ?_
     refine ⟨_,oj h,?_⟩
     exact Bg RF.any.qv.qv.qv.qv
    ·refine Aj rfl c20<|Ac [4] ?_
     refine AW.ret<|Bd<|Ad<|Ad ?_
     refine ⟨_,oj h,_,Ent.refl,rfl,?_⟩
     (simp only [go_sem,seval,Ay]<;>try simp)
   ·refine Ai rfl c17<|AW.exit<|Af<|Af ?_
    refine ⟨_,oj h,_,?_,rfl,rfl⟩
    exact Bg RF.any
  ·intro e st' hX
   rcases y21 with y22|_<;>dsimp only at h hX
   ·obtain ⟨rfl,hf⟩:=hX
    refine ⟨_,Ent.refl,?_⟩
    refine Bd<|Ad ?_
    obtain rfl:=oi h
    exact hf
   ·obtain ⟨rfl,rfl⟩:=hX
    refine ⟨_,Ent.refl,?_⟩
    refine Bc<|Aa<|Ac [4] ?_
    refine AW.ret ?_
    obtain rfl:=oi h
    (simp only [go_sem,seval,Ay]<;>try simp)
 ·refine Aj rfl c2<|Ac [4] ?_
  refine AW.ret<|Ad ?_
  obtain rfl:=oi h
  (simp only [go_sem,seval,Ay]<;>try simp)
def f139 (a0:List Int):Option ((List Int)×Int):=(if (a0.length:Int)<4 then some ([],2) else ((Dl a0 0 (IntKind.i64.wrap ((a0.length:Int)-4))).bind fun x3=>((f133 x3).bind fun x4=>((f162 x4).bind fun x5=>((f161 x5 a0).bind fun x6=>(if x6=true then some (x4,0) else some ([],4)))))))
theorem ok139 (a0:List Int) (r:(List Int)×Int) (h:f139 a0=some r):PC Tryz.prog 139 [.sl (List.map Aw a0)] (.tup [.sl (List.map Aw r.1),.val (.int .i64 r.2)]):=by
 rw [f139] at h
 refine Bi (N:=20) (rs:=[.tmp 2,.tmp 3]) Tryz.func139 ?_
 refine Ac [0] ?_
 refine AW.seq<|Ac [0,7] ?_
 rcases Aq h with ⟨c2,h⟩|⟨c2,h⟩
 ·refine Aj rfl c2<|Ac [2,3] ?_
  refine AW.ent (Ent.w (Fe (d:=2) Weak.nil)) ?_
  refine AW.ret<|Ad ?_
  obtain rfl:=oi h
  (simp only [go_sem,seval,Ay]<;>try simp)
 ·refine Ai rfl c2<|AW.skip<|Aa ?_
  obtain ⟨x3,hx3,h⟩:=bO h
  obtain ⟨x4,hx4,h⟩:=bO h
  refine Cb [0,4] fun K hK=>?_
  simp only [go_sem,seval,cut_ns Pn sz5 (Eu _) hx3]
  refine arC.of (ok133 x3 x4 hx4) Tryz.call133 ?_
  simp only [go_sem,seval,cut_ns Pn sz5 (Eu _) hx3]
  subst hK
  refine AW.seq ?_
  obtain ⟨x5,hx5,h⟩:=bO h
  obtain ⟨x6,hx6,h⟩:=bO h
  refine Cb [4,18] fun K hK=>?_
  simp only [go_sem,seval]
  refine arC.of (ok162 x4 x5 hx5) Tryz.call162 ?_
  simp only [go_sem,seval]
  refine arC.of (ok161 x5 a0 x6 hx6) Tryz.call161 ?_
  simp only [go_sem,seval]
  subst hK
  rcases Aq h with ⟨c7,h⟩|⟨c7,h⟩
  ·refine Bl rfl (by first|(rw [c7];rfl)|simp_all)<|AW.skip<|Aa<|Ao [2,3] ?_
   refine AW.ent (Ent.still 2 rfl (Fg (sz:=1) (m:=false) rfl (by first|rfl|(simp [Ar];done)|(simp [Ar];omega)) (by simp only [go_sem]))) ?_
   refine AW.ret ?_
   obtain rfl:=oi h
   (simp only [go_sem,seval,c7,Ay]<;>try simp)
  ·rw [Bool.not_eq_true] at c7
   refine Bp rfl (by first|(rw [c7];rfl)|simp_all)<|Ao [2,3] ?_
   refine AW.ent (Ent.w (Fe (d:=2) Weak.nil)) ?_
   refine AW.ret<|Ad ?_
   obtain rfl:=oi h
   (simp only [go_sem,seval,c7,Ay]<;>try simp)
def On:Int×Int→Option ((Int×Int)⊕Int)
  | (s1_0,s1_1)=>(if s1_1<8 then (if (s1_0.tmod 2)=1 then some (.inl (Ki .u32 (IntKind.u32.wrap (s1_0.tdiv 2)) 3988292384,IntKind.i64.wrap (s1_1+1))) else some (.inl (IntKind.u32.wrap (s1_0.tdiv 2),IntKind.i64.wrap (s1_1+1)))) else some (.inr s1_0))
def f148 (a0:Int) (a1:Int):Option Int:=((loopO On (Ki .u32 a0 (IntKind.u32.wrap a1),0)).bind fun y9=>some y9)
theorem ok148 (a0:Int) (a1:Int) (r:Int) (h:f148 a0 a1=some r):PC Tryz.prog 148 [.val (.int .u32 a0),.val (.int .u8 a1)] (.val (.int .u32 r)):=by
 rw [f148] at h
 refine Bi (N:=24) (rs:=[.tmp 4]) Tryz.func148 ?_
 refine Ao [0,1] ?_
 refine Ao [0] ?_
 refine AW.seq<|Ao [0,5] ?_
 refine AW.block ?_
 obtain ⟨y9,hy9,h⟩:=bO h
 refine AW.loopO (fun s=>⟨(Ag (Ag Az 0 (.val (.int .u32 s.1))) 5 (.val (.int .i64 s.2))),Bo [] [],8⟩) (fun z e st'=>e=Exit.exit 0∧st'=⟨(Ag Az 0 (.val (.int .u32 z))),Bo [] [],8⟩) hy9 ?_ ?_ ?_
 ·exact Bg RF.any.qv.qv
 ·clear h hy9
  rintro ⟨s1_0,s1_1⟩ x h
  rw [On] at h
  refine AW.seq<|Ao [0,5,12] ?_
  rcases Aq h with ⟨c6,h⟩|⟨c6,h⟩
  ·refine Aj rfl c6<|AW.skip<|Aa<|AW.seq<|AW.block<|Eb [0,5,6] ?_
   refine Eb [0,5,6] ?_
   refine Eb [0,5,20] ?_
   rcases Aq h with ⟨c7,h⟩|⟨c7,h⟩
   ·refine Aj rfl c7<|Bz [0,5] ?_
    refine Ax<|Aa<|Bz [0,5] ?_
    refine Aa ?_
    refine ⟨_,oj h,?_⟩
    exact Bg RF.any.qv.qv
   ·refine Ai rfl c7<|AW.skip<|Ax<|Aa<|Bz [0,5] ?_
    refine Aa ?_
    refine ⟨_,oj h,?_⟩
    exact Bg RF.any.qv.qv
  ·refine Ai rfl c6<|AW.exit<|Af<|Af ?_
   refine ⟨_,oj h,_,?_,rfl,rfl⟩
   exact Bg RF.any.qv
 ·intro e st' hX
  try dsimp only at h
  try dsimp only at hX
  obtain ⟨rfl,rfl⟩:=hX
  refine ⟨_,Ent.refl,?_⟩
  refine Bc<|Aa<|Ao [4] ?_
  refine AW.ret ?_
  obtain rfl:=oi h
  (simp only [go_sem,seval,Ay]<;>try simp)
def Ot (a0:List Int):Int×Int→Option ((Int×Int)⊕Int)
  | (s1_0,s1_1)=>(if s1_1<(a0.length:Int) then ((ix a0 s1_1).bind fun x11=>((f148 s1_0 x11).bind fun x12=>some (.inl (x12,IntKind.i64.wrap (s1_1+1))))) else some (.inr s1_0))
def f127 (a0:List Int):Option Int:=((loopO (Ot a0) (4294967295,0)).bind fun y14=>some (IntKind.u32.wrap (4294967295-y14)))
theorem ok127 (a0:List Int) (r:Int) (h:f127 a0=some r):PC Tryz.prog 127 [.sl (List.map Aw a0)] (.val (.int .u32 r)):=by
 rw [f127] at h
 refine Bi (N:=19) (rs:=[.tmp 2]) Tryz.func127 ?_
 refine Ac [0] ?_
 refine Ac [0,3] ?_
 refine AW.seq<|Ac [0,3,4] ?_
 refine AW.block ?_
 obtain ⟨y14,hy14,h⟩:=bO h
 refine AW.loopO (fun s=>⟨(Ag (Ag (Ag Az 0 (.sl (List.map Aw a0))) 3 (.val (.int .u32 s.1))) 4 (.val (.int .i64 s.2))),Bo [] [],8⟩) (fun z e st'=>e=Exit.exit 0∧st'=⟨(Ag Az 3 (.val (.int .u32 z))),Bo [] [],8⟩) hy14 ?_ ?_ ?_
 ·exact Bg RF.any.qv.qv.qv
 ·clear h hy14
  rintro ⟨s1_0,s1_1⟩ x h
  rw [Ot] at h
  refine AW.seq<|Ac [0,3,4,8] ?_
  rcases Aq h with ⟨c10,h⟩|⟨c10,h⟩
  ·refine Aj rfl c10<|AW.skip<|Aa<|AW.seq<|AW.block ?_
   obtain ⟨x11,hx11,h⟩:=bO h
   obtain ⟨hx11a,hx11b⟩:=ix_some.1 hx11
   obtain ⟨x12,hx12,h⟩:=bO h
   refine AW.vD [0,3,4] (ok148 s1_0 x11 x12 hx12) Tryz.call148 ?_
   refine Ax<|Aa<|Cd [0,3,4] ?_
   refine Aa ?_
   refine ⟨_,oj h,?_⟩
   exact Bg RF.any.qv.qv.qv
  ·refine Ai rfl c10<|AW.exit<|Af<|Af ?_
   refine ⟨_,oj h,_,?_,rfl,rfl⟩
   exact Bg RF.any.qv
 ·intro e st' hX
  try dsimp only at h
  try dsimp only at hX
  obtain ⟨rfl,rfl⟩:=hX
  refine ⟨_,Ent.refl,?_⟩
  refine Bc<|Aa<|Ac [2] ?_
  refine AW.ret ?_
  obtain rfl:=oi h
  (simp only [go_sem,seval,Ay]<;>try simp)
def Ow:Int×(List Int)×Int→Option ((Int×(List Int)×Int)⊕(List Int))
  | (s1_0,s1_1,s1_2)=>(if s1_2<4 then ((Bq s1_1 [IntKind.u8.wrap (s1_0.tmod 256)]).bind fun x9=>some (.inl (IntKind.u32.wrap (s1_0.tdiv 256),x9,IntKind.i64.wrap (s1_2+1)))) else some (.inr s1_1))
def f100 (a0:List Int):Option (List Int):=((f127 a0).bind fun x1=>((Bq ([]:List Int) a0).bind fun x2=>((loopO Ow (x1,x2,0)).bind fun y11=>some y11)))
theorem ok100 (a0:List Int) (r:(List Int)) (h:f100 a0=some r):PC Tryz.prog 100 [.sl (List.map Aw a0)] (.fr 1 (List.map Aw r)):=by
 rw [f100] at h
 refine Bi (N:=24) (rs:=[.tmp 2]) Tryz.func100 ?_
 refine Ao [0] ?_
 obtain ⟨x1,hx1,h⟩:=bO h
 refine Bx [0,3] (ok127 a0 x1 hx1) Tryz.call127 ?_
 obtain ⟨x2,hx2,h⟩:=bO h
 obtain ⟨hx2b,hx2e⟩:=appO?_some.1 hx2
 have hx2f:∀id o:Nat,Dw 1 1 id (List.map Aw a0) 0 0 o (some (.row 1 true (([]:List (List AV)))))=some ⟨.own id 0 x2.length,[(o,none),(id,some (.row 1 true (List.map Aw x2)))]⟩:=fun id o=>by
   subst hx2e;rw [Bw (by simp) (by simpa using hx2b) (by decide)];first|(simp [Aw];done)|(simp [Aw];omega)
 refine Ao [3,4] ?_
 refine AW.seq<|Ao [3,4,5] ?_
 refine AW.block ?_
 obtain ⟨y11,hy11,h⟩:=bO h
 refine AW.loopO (fun s=>⟨(Ag (Ag (Ag Az 3 (.val (.int .u32 s.1))) 4 (.own 8 0 s.2.1.length)) 5 (.val (.int .i64 s.2.2))),Bo [] [some (.row 1 true (List.map Aw s.2.1))],9⟩) (fun z e st'=>e=Exit.exit 0∧st'=⟨(Ag Az 4 (.own 8 0 z.length)),Bo [] [some (.row 1 true (List.map Aw z))],9⟩) hy11 ?_ ?_ ?_
 ·exact Ab [56] RF.any.qv.qo.qv (.nil _) (.ce (.nil _))
 ·clear h hy11
  rintro ⟨s1_0,s1_1,s1_2⟩ x h
  rw [Ow] at h
  refine AW.seq<|Eb [3,4,5,12] ?_
  rcases Aq h with ⟨c8,h⟩|⟨c8,h⟩
  ·refine Aj rfl c8<|AW.skip<|Aa<|AW.seq<|AW.block ?_
   obtain ⟨x9,hx9,h⟩:=bO h
   obtain ⟨hx9b,hx9e⟩:=appO?_some.1 hx9
   have hx9f:∀id o:Nat,Dw 1 1 id ([[.val (.int .u8 (IntKind.u8.wrap (s1_0.tmod 256)))]]) 0 s1_1.length o (some (.row 1 true (List.map Aw s1_1)))=some ⟨.own id 0 x9.length,[(o,none),(id,some (.row 1 true (List.map Aw x9)))]⟩:=fun id o=>by
     subst hx9e;rw [Bw (by simp) (by simpa using hx9b) (by decide)];first|(simp [Aw];done)|(simp [Aw];omega)
   refine Re [3,4,5] ?_
   refine AW.vY [3,4,5] ?_
   refine Ax<|Aa<|AW.vY [3,4,5] ?_
   refine Aa ?_
   refine ⟨_,oj h,?_⟩
   exact Ab [65] RF.any.qv.qo.qv (.nil _) (.ce (.nil _))
  ·refine Ai rfl c8<|AW.exit<|Af<|Af ?_
   refine ⟨_,oj h,_,?_,rfl,rfl⟩
   exact Ab [8] RF.any.qo (.nil _) (.ce (.nil _))
 ·intro e st' hX
  try dsimp only at h
  try dsimp only at hX
  obtain ⟨rfl,rfl⟩:=hX
  refine ⟨_,Ent.refl,?_⟩
  refine Bc<|Aa<|Ao [2] ?_
  refine AW.ret ?_
  obtain rfl:=oi h
  (simp only [go_sem,seval,Ay]<;>try simp)
theorem less {a b:ByteArray} (h:a.size≤4000000000):f67 a b=some (Pv a b):=by
 have key:∀(k:Nat) (i:Nat),i≤a.size→a.size-i≤k→(∀j,j<i→(bl a)[j]?=(bl b)[j]?)→(loopO (Je a b) (i:Int)).bind (fun y=>match y with|.inl y=>some y|.inr _=>some (decide ((a.size:Int)<(b.size:Int))))=some (decide ((bl a).drop i<(bl b).drop i)):=by
  intro k
  induction k with
  | zero =>
   intro i hi hk hp
   have hia:i=a.size:=by omega
   have hs:Je a b (i:Int)=some (.inr (.inr ())):=by
    unfold Je;rw [if_neg (by omega)]
   rw [Al hs]
   simp only [Option.bind_some]
   rw [List.drop_of_length_le (l:=bl a) (by rw [←Iz];omega)]
   by_cases hb:a.size<b.size
   ·have:(bl b).drop i≠[]:=by rw [ne_eq,List.drop_eq_nil_iff,←Iz];omega
    obtain ⟨x,l,e⟩:=List.exists_cons_of_ne_nil this
    rw [e];simp;omega
   ·rw [List.drop_of_length_le (l:=bl b) (by rw [←Iz];omega)];simp;omega
  | succ k ih =>
   intro i hi hk hp
   by_cases hia:i<a.size
   ·by_cases hib:i<b.size
    ·have ha:i<(bl a).length:=by rw [←Iz];exact hia
     have hb:i<(bl b).length:=by rw [←Iz];exact hib
     by_cases he:(bl a)[i]=(bl b)[i]
     ·have hs:Je a b (i:Int)=some (.inl ((i+1:Nat):Int)):=by
       unfold Je
       rw [if_pos (by omega),if_pos (by omega),Ep ha,Ep hb]
       simp only [Option.bind_some]
       rw [if_pos (by rw [he]),Ch (by omega)]
      rw [Bj hs,ih (i+1) (by omega) (by omega) (fun j hj=>by
       by_cases e:j=i
       ·subst e;rw [List.getElem?_eq_getElem ha,List.getElem?_eq_getElem hb,he]
       ·exact hp j (by omega))]
      rw [List.drop_eq_getElem_cons ha,List.drop_eq_getElem_cons hb,he]
      simp only [List.cons_lt_cons_iff,Nat.lt_irrefl,true_and,UInt8.lt_iff_toNat_lt,false_or]
     ·have hs:Je a b (i:Int)=some (.inr (.inl (decide (((bl a)[i]).toNat<((bl b)[i]).toNat)))):=by
       unfold Je
       rw [if_pos (by omega),if_pos (by omega),Ep ha,Ep hb]
       simp only [Option.bind_some]
       rw [if_neg (fun h=>he (UInt8.toNat_inj.1 (by omega)))]
       simp
      rw [Al hs]
      simp only [Option.bind_some]
      rw [List.drop_eq_getElem_cons ha,List.drop_eq_getElem_cons hb]
      simp only [List.cons_lt_cons_iff,he,false_and,or_false,UInt8.lt_iff_toNat_lt]
    ·have hs:Je a b (i:Int)=some (.inr (.inr ())):=by
      unfold Je;rw [if_pos (by omega),if_neg (by omega)]
     rw [Al hs]
     simp only [Option.bind_some]
     rw [List.drop_of_length_le (l:=bl b) (by rw [←Iz];omega)]
     simp;omega
   ·have hs:Je a b (i:Int)=some (.inr (.inr ())):=by
     unfold Je;rw [if_neg (by omega)]
    rw [Al hs]
    simp only [Option.bind_some]
    rw [List.drop_of_length_le (l:=bl a) (by rw [←Iz];omega)]
    by_cases hb:a.size<b.size
    ·have:(bl b).drop i≠[]:=by rw [ne_eq,List.drop_eq_nil_iff,←Iz];omega
     obtain ⟨x,l,e⟩:=List.exists_cons_of_ne_nil this
     rw [e];simp;omega
    ·rw [List.drop_of_length_le (l:=bl b) (by rw [←Iz];omega)];simp;omega
 have:=key a.size 0 (by omega) (by omega) (fun j hj=>absurd hj (by omega))
 simp only [List.drop_zero] at this
 unfold f67
 refine this.trans (congrArg some ?_)
 by_cases h:Pv a b=true
 ·rw [h,decide_eq_true ((sLt_iff _ _).1 h)]
 ·rw [Bool.not_eq_true] at h
  rw [h,decide_eq_false (fun q=>by rw [(sLt_iff _ _).2 q] at h;cases h)]
theorem sLt_self (a:ByteArray):Pv a a=false:=by
 cases h:Pv a a with
 | false=>rfl
 | true=>have:=sLt_asym h;rw [h] at this;cases this
theorem strI {l:List Int} (h:Byt l):Eh (strOfNums l)=l:=by
 unfold Eh bl
 rw [strOfNums_data,List.map_map]
 conv=>rhs;rw [←List.map_id l]
 apply List.map_congr_left
 intro x hx
 obtain ⟨h0,h1⟩:=h x hx
 simp only [Function.comp,UInt8.toNat_ofNat',id]
 omega
theorem str_eq {a b:List Int} (ha:Byt a) (hb:Byt b):strOfNums a=strOfNums b↔a=b:=⟨fun h=>by rw [←strI ha,h,strI hb],fun h=>by rw [h]⟩
theorem byt_bytesI (s:ByteArray):Byt (Eh s):=fun x hx=>by
 unfold Eh at hx
 obtain ⟨u,_,rfl⟩:=List.mem_map.1 hx
 have:=u.toNat_lt
 omega
theorem Byt.cut {b c:List Int} (h:Byt b) {lo hi:Int} (hc:Dl b lo hi=some c):Byt c:=fun x hx=>by
 obtain ⟨_,rfl⟩:=cutO?_some.1 hc
 exact h x (List.mem_of_mem_drop (List.mem_of_mem_take hx))
theorem Yo {α:Type} {b c:List α} {lo hi:Int} (hc:Dl b lo hi=some c):(c.length:Int)=hi-lo:=by
 obtain ⟨⟨h1,h2,h3⟩,rfl⟩:=cutO?_some.1 hc
 simp only [List.length_take,List.length_drop]
 omega
theorem Wf {α:Type} {b:List α} {lo hi:Int} (h1:0≤lo) (h2:lo≤hi) (h3:hi≤(b.length:Int)):∃c,Dl b lo hi=some c:=⟨_,cutO?_some.2 ⟨⟨h1,h2,h3⟩,rfl⟩⟩
theorem listEq {α:Type} [DecidableEq α] {step:Int→Option (Int⊕(Bool⊕Unit))} (a b:List α) (hl:a.length=b.length) (hb:a.length≤1000000)
  (hs:∀i:Nat,step (i:Int)=if (i:Int)<(a.length:Int) then (ix a (i:Int)).bind fun x=>(ix b (i:Int)).bind fun y=>if x=y then some (.inl (IntKind.i64.wrap ((i:Int)+1))) else some (.inr (.inl false)) else some (.inr (.inr ()))) :
  ∃r,loopO step 0=some r∧(r=.inl false∧a≠b∨r=.inr ()∧a=b):=by
 refine Dv (fun n s=>∃i:Nat,s=(i:Int)∧i≤a.length∧n=a.length-i∧a.take i=b.take i) ?_ (k:=a.length) ⟨0,rfl,by omega,by omega,by simp⟩
 rintro n _ ⟨i,rfl,hi,hn,he⟩
 rw [hs i]
 by_cases hlt:i<a.length
 ·rw [if_pos (by omega),Ep hlt,Ep (by omega:i<b.length)]
  simp only [Option.bind_some]
  by_cases e:a[i]=b[i]'(by omega)
  ·rw [if_pos e,Ch (by omega)]
   refine .inl ⟨_,n-1,rfl,by omega,i+1,rfl,by omega,by omega,?_⟩
   rw [List.take_succ_eq_append_getElem hlt,List.take_succ_eq_append_getElem (by omega:i<b.length),he,e]
  ·rw [if_neg e]
   exact .inr ⟨_,rfl,.inl ⟨rfl,fun h=>e (by subst h;rfl)⟩⟩
 ·rw [if_neg (by omega)]
  refine .inr ⟨_,rfl,.inr ⟨rfl,?_⟩⟩
  rwa [List.take_of_length_le (by omega),List.take_of_length_le (by omega)] at he
theorem eq161 (a b:List Int) (h:a.length≤1000000):f161 a b=some (decide (a=b)):=by
 unfold f161
 by_cases hl:a.length=b.length
 ·rw [if_pos (by omega)]
  obtain ⟨r,h1,h2⟩:=listEq (step:=f161_s1 a b) a b hl h (fun i=>rfl)
  rw [h1]
  rcases h2 with ⟨rfl,h2⟩|⟨rfl,h2⟩<;>simp [h2]
 ·rw [if_neg (by omega)]
  have:a≠b:=fun e=>hl (by rw [e])
  simp [this]
theorem Lq (n:Int):IntKind.u32.wrap n=n % 4294967296:=by simp [IntKind.wrap,IntKind.bits,IntKind.signed]
theorem xorN {n m:Nat} (hn:n<2 ^ 32) (hm:m<2 ^ 32):Ki .u32 (n:Int) (m:Int)=((n ^^^ m:Nat):Int):=by
 show IntKind.u32.wrap (((BitVec.ofInt 32 (n:Int) ^^^ BitVec.ofInt 32 (m:Int)).toNat:Nat):Int)=_
 rw [Lq,BitVec.toNat_xor,BitVec.ofInt_natCast,BitVec.ofInt_natCast,BitVec.toNat_ofNat,BitVec.toNat_ofNat,Nat.mod_eq_of_lt hn,Nat.mod_eq_of_lt hm]
 have:n ^^^ m<2 ^ 32:=Nat.xor_lt_two_pow hn hm
 omega
theorem andN1 {n:Nat} (hn:n<2 ^ 32):Xu .u32 (n:Int) 1=((n % 2:Nat):Int):=by
 show IntKind.u32.wrap (((BitVec.ofInt 32 (n:Int) &&& BitVec.ofInt 32 1).toNat:Nat):Int)=_
 rw [Lq,BitVec.toNat_and,BitVec.ofInt_natCast,BitVec.toNat_ofNat,Nat.mod_eq_of_lt hn]
 have:(BitVec.ofInt 32 1).toNat=1:=by decide
 rw [this,Nat.and_one_is_mod]
 omega
theorem shrN1 {n:Nat}:Dn .u32 (n:Int) 1=((n / 2:Nat):Int):=by
 show (n:Int).fdiv (2 ^ (min 1 32))=_
 rw [Int.fdiv_eq_ediv_of_nonneg _ (by decide)];simp
def U32 (v:Int):Prop:=0≤v∧v<4294967296
theorem Td {v:Int} (h:U32 v):∃n:Nat,v=(n:Int)∧n<2 ^ 32:=by
 obtain ⟨n,rfl⟩:=Int.eq_ofNat_of_zero_le h.1
 exact ⟨n,rfl,by have:=h.2;omega⟩
theorem xor_u32 {v w:Int} (h:U32 v) (k:U32 w):U32 (Ki .u32 v w):=by
 obtain ⟨n,rfl,hn⟩:=Td h
 obtain ⟨m,rfl,hm⟩:=Td k
 rw [xorN hn hm]
 have:n ^^^ m<2 ^ 32:=Nat.xor_lt_two_pow hn hm
 exact ⟨by omega,by omega⟩
theorem crc_bit {v:Int} (h:U32 v):Ki .u32 (Dn .u32 v 1) (Xu .u32 3988292384 (IntKind.u32.wrap (0-(Xu .u32 v 1))))=(if (v.tmod 2)=1 then Ki .u32 (IntKind.u32.wrap (v.tdiv 2)) 3988292384 else IntKind.u32.wrap (v.tdiv 2)):=by
 obtain ⟨n,rfl,hn⟩:=Td h
 have e1:((n:Int).tdiv 2)=((n / 2:Nat):Int):=by rw [Int.tdiv_eq_ediv_of_nonneg (by omega)];omega
 have e2:((n:Int).tmod 2)=((n % 2:Nat):Int):=by rw [Int.tmod_eq_emod_of_nonneg (by omega)];omega
 have e3:IntKind.u32.wrap ((n / 2:Nat):Int)=((n / 2:Nat):Int):=by rw [Lq];omega
 rw [shrN1,andN1 hn,e1,e2,e3]
 by_cases hp:n % 2=1
 ·rw [hp,if_pos (show ((1:Nat):Int)=1 from rfl)]
  have:Xu .u32 3988292384 (IntKind.u32.wrap (0-((1:Nat):Int)))=3988292384:=by decide
  rw [this]
 ·have hz:n % 2=0:=by omega
  rw [hz,if_neg (by decide)]
  have:Xu .u32 3988292384 (IntKind.u32.wrap (0-((0:Nat):Int)))=((0:Nat):Int):=by decide
  rw [this,xorN (by omega) (by omega)]
  simp
theorem crc_step {v:Int} (h:U32 v):U32 (if (v.tmod 2)=1 then Ki .u32 (IntKind.u32.wrap (v.tdiv 2)) 3988292384 else IntKind.u32.wrap (v.tdiv 2)):=by
 have:U32 (IntKind.u32.wrap (v.tdiv 2)):=by rw [Lq];exact ⟨by omega,by omega⟩
 split
 ·exact xor_u32 this ⟨by decide,by decide⟩
 ·exact this
theorem byte_eq {v c:Int} (h:U32 v) (hc:0≤c∧c<256):∃r,f180 v c=some r∧f148 v c=some r∧U32 r:=by
 have hc2:U32 (IntKind.u32.wrap c):=by rw [Lq];exact ⟨by omega,by omega⟩
 have key:∃r r',loopO Rj (Ki .u32 v (IntKind.u32.wrap c),0)=some r∧loopO On (Ki .u32 v (IntKind.u32.wrap c),0)=some r'∧(r=r'∧U32 r):=by
  refine Dr (fun k s t=>s=t∧U32 s.1∧0≤s.2∧s.2≤8∧(k:Int)=8-s.2) ?_ (k:=8) ⟨rfl,xor_u32 h hc2,by simp,by simp,by simp⟩
  rintro k ⟨u,i⟩ _ ⟨rfl,hu,h0,h8,hk⟩
  simp only at hu h0 h8 hk
  by_cases hi:i<8
  ·have w:IntKind.i64.wrap (i+1)=i+1:=Bf (by omega) (by omega)
   have e1:Rj (u,i)=some (.inl (if (u.tmod 2)=1 then Ki .u32 (IntKind.u32.wrap (u.tdiv 2)) 3988292384 else IntKind.u32.wrap (u.tdiv 2),i+1)):=by
    simp only [Rj,if_pos hi,crc_bit hu,w]
   have e2:On (u,i)=some (.inl (if (u.tmod 2)=1 then Ki .u32 (IntKind.u32.wrap (u.tdiv 2)) 3988292384 else IntKind.u32.wrap (u.tdiv 2),i+1)):=by
    simp only [On,if_pos hi,w];split<;>rfl
   exact .inl ⟨_,_,k-1,e1,e2,by omega,rfl,crc_step hu,by simp only;omega,by simp only;omega,by simp only;omega⟩
  ·exact .inr ⟨u,u,Al (by simp only [Rj,if_neg hi]),Al (by simp only [On,if_neg hi]),rfl,hu⟩
 obtain ⟨r,_,h1,h2,rfl,h3⟩:=key
 exact ⟨r,by simp only [f180,h1,Option.bind_some],by simp only [f148,h2,Option.bind_some],h3⟩
theorem xorAll {v:Int} (h:U32 v):Ki .u32 (allV .u32) v=IntKind.u32.wrap (4294967295-v):=by
 obtain ⟨n,rfl,hn⟩:=Td h
 show IntKind.u32.wrap (((BitVec.ofInt 32 4294967295 ^^^ BitVec.ofInt 32 (n:Int)).toNat:Nat):Int)=_
 have:BitVec.ofInt 32 4294967295=BitVec.allOnes 32:=by decide
 rw [this,BitVec.xor_comm,BitVec.xor_allOnes,BitVec.toNat_not,BitVec.ofInt_natCast,BitVec.toNat_ofNat,Nat.mod_eq_of_lt hn]
 congr 1;omega
theorem of_eq {b:List Int} (hb:Byt b) (hl:b.length≤1000000):∃r,f175 b=some r∧f127 b=some r∧U32 r:=by
 have key:∃r r',loopO (Tz b) (4294967295,0)=some r∧loopO (Ot b) (4294967295,0)=some r'∧(r=r'∧U32 r):=by
  refine Dr (fun k s t=>s=t∧U32 s.1∧0≤s.2∧s.2≤(b.length:Int)∧(k:Int)=(b.length:Int)-s.2) ?_ (k:=b.length) ⟨rfl,⟨by decide,by decide⟩,by simp,by simp,by simp⟩
  rintro k ⟨u,i⟩ _ ⟨rfl,hu,h0,h8,hk⟩
  simp only at hu h0 h8 hk
  by_cases hi:i<b.length
  ·have w:IntKind.i64.wrap (i+1)=i+1:=Bf (by omega) (by omega)
   have hlt:i.toNat<b.length:=by omega
   have hx:ix b i=some b[i.toNat]:=ix_some.2 ⟨h0,List.getElem?_eq_getElem hlt⟩
   obtain ⟨r,r1,r2,r3⟩:=byte_eq hu (hb _ (List.getElem_mem hlt))
   refine .inl ⟨(r,i+1),(r,i+1),k-1,?_,?_,by omega,rfl,r3,by simp only;omega,by simp only;omega,by simp only;omega⟩
   ·simp only [Tz,if_pos hi,hx,Option.bind_some,f179,r1,w]
   ·simp only [Ot,if_pos hi,hx,Option.bind_some,r2,w]
  ·exact .inr ⟨u,u,Al (by simp only [Tz,if_neg hi]),Al (by simp only [Ot,if_neg hi]),rfl,hu⟩
 obtain ⟨r,_,h1,h2,rfl,h3⟩:=key
 have e0:Ki .u32 (allV .u32) 0=4294967295:=by decide
 refine ⟨IntKind.u32.wrap (4294967295-r),?_,?_,?_⟩
 ·simp only [f175,f178,e0,h1,Option.bind_some,xorAll h3]
 ·simp only [f127,h2,Option.bind_some]
 ·rw [Lq];exact ⟨by omega,by omega⟩
theorem put_crc {b:List Int} (hb:Byt b) (hl:b.length≤1000000):∃c,f162 b=some c∧f100 b=some c∧Byt c∧c.length=b.length+4:=by
 obtain ⟨v,v1,v2,v3⟩:=of_eq hb hl
 obtain ⟨n,rfl,hn⟩:=Td v3
 have sh:∀k:Nat,k≤32→Dn .u32 (n:Int) k=((n / 2 ^ k:Nat):Int):=fun k hk=>by
  show (n:Int).fdiv (2 ^ (min k 32))=_
  rw [Nat.min_eq_left hk,Int.fdiv_eq_ediv_of_nonneg _ (Int.le_of_lt (Int.pow_pos (by decide)))]
  simp
 have td:∀m:Nat,m<2 ^ 32→IntKind.u32.wrap ((m:Int).tdiv 256)=((m / 256:Nat):Int):=fun m hm=>by
  rw [Int.tdiv_eq_ediv_of_nonneg (by omega),Lq];omega
 have tm:∀m:Nat,IntKind.u8.wrap ((m:Int).tmod 256)=((m % 256:Nat):Int):=fun m=>by
  rw [Int.tmod_eq_emod_of_nonneg (by omega),Tc];omega
 have w8:∀m:Nat,IntKind.u8.wrap (m:Int)=((m % 256:Nat):Int):=fun m=>by rw [Tc];omega
 have ap:∀(l:List Int) (x:Int),l.length≤1000100→Bq l [x]=some (l++[x]):=fun l x h=>appO?_some.2 ⟨by simp;omega,rfl⟩
 have h0:Bq ([]:List Int) b=some b:=appO?_some.2 ⟨by simp;omega,by simp⟩
 let x0:Int:=((n % 256:Nat):Int)
 let x1:Int:=((n / 256 % 256:Nat):Int)
 let x2:Int:=((n / 256 / 256 % 256:Nat):Int)
 let x3:Int:=((n / 256 / 256 / 256 % 256:Nat):Int)
 refine ⟨b++[x0]++[x1]++[x2]++[x3],?_,?_,?_,by simp⟩
 ·have st:∀(l:List Int) (i:Int) (k:Nat) (x:Int),l.length≤1000100→i<4→IntKind.i64.wrap (8*i)=(k:Int)→k≤32→IntKind.u8.wrap ((n / 2 ^ k:Nat):Int)=x→Rk (n:Int) (l,i)=some (.inl (l++[x],IntKind.i64.wrap (i+1))):=fun l i k x hl hi hk hk2 hx=>by
   simp only [Rk,if_pos hi,hk,Cw (show (0:Int)≤(k:Int) by omega),Option.bind_some,Int.toNat_natCast,sh k hk2,hx,ap l x hl]
  have e0:=st b 0 0 x0 (by omega) (by decide) (by decide) (by decide) (by rw [w8];simp [x0])
  have e1:=st (b++[x0]) 1 8 x1 (by simp;omega) (by decide) (by decide) (by decide) (by rw [w8])
  have e2:=st (b++[x0]++[x1]) 2 16 x2 (by simp;omega) (by decide) (by decide) (by decide) (by rw [w8];simp only [x2];omega)
  have e3:=st (b++[x0]++[x1]++[x2]) 3 24 x3 (by simp;omega) (by decide) (by decide) (by decide) (by rw [w8];simp only [x3];omega)
  have e4:Rk (n:Int) (b++[x0]++[x1]++[x2]++[x3],4)=some (.inr (b++[x0]++[x1]++[x2]++[x3])):=by simp only [Rk,if_neg (show ¬(4:Int)<4 by decide)]
  have k1:IntKind.i64.wrap (0+1)=1:=by decide
  have k2:IntKind.i64.wrap (1+1)=2:=by decide
  have k3:IntKind.i64.wrap (2+1)=3:=by decide
  have k4:IntKind.i64.wrap (3+1)=4:=by decide
  rw [k1] at e0;rw [k2] at e1;rw [k3] at e2;rw [k4] at e3
  simp only [f162,v1,f133,h0,Option.bind_some,Bj e0,Bj e1,Bj e2,Bj e3,Al e4]
 ·have st:∀(m:Nat) (l:List Int) (i:Int) (x:Int),m<2 ^ 32→l.length≤1000100→i<4→((m % 256:Nat):Int)=x→Ow ((m:Int),l,i)=some (.inl (((m / 256:Nat):Int),l++[x],IntKind.i64.wrap (i+1))):=fun m l i x hm hl hi hx=>by
   simp only [Ow,if_pos hi,tm,td m hm,hx,ap l x hl,Option.bind_some]
  have e0:=st n b 0 x0 hn (by omega) (by decide) rfl
  have e1:=st (n / 256) (b++[x0]) 1 x1 (by omega) (by simp;omega) (by decide) rfl
  have e2:=st (n / 256 / 256) (b++[x0]++[x1]) 2 x2 (by omega) (by simp;omega) (by decide) rfl
  have e3:=st (n / 256 / 256 / 256) (b++[x0]++[x1]++[x2]) 3 x3 (by omega) (by simp;omega) (by decide) rfl
  have e4:Ow (((n / 256 / 256 / 256 / 256:Nat):Int),b++[x0]++[x1]++[x2]++[x3],4)=some (.inr (b++[x0]++[x1]++[x2]++[x3])):=by simp only [Ow,if_neg (show ¬(4:Int)<4 by decide)]
  have k1:IntKind.i64.wrap (0+1)=1:=by decide
  have k2:IntKind.i64.wrap (1+1)=2:=by decide
  have k3:IntKind.i64.wrap (2+1)=3:=by decide
  have k4:IntKind.i64.wrap (3+1)=4:=by decide
  rw [k1] at e0;rw [k2] at e1;rw [k3] at e2;rw [k4] at e3
  simp only [f100,v2,h0,Option.bind_some,Bj e0,Bj e1,Bj e2,Bj e3,Al e4]
 ·intro x hx
  simp only [List.mem_append,List.mem_singleton] at hx
  rcases hx with (((hx|rfl)|rfl)|rfl)|rfl
  ·exact hb x hx
  ·simp only [x0];omega
  ·simp only [x1];omega
  ·simp only [x2];omega
  ·simp only [x3];omega
def f119 (a0:List Int) (a1:Int):Option ((List Int)×Int×Int):=((f122 a0 a1).bind fun x1=>(if x1.2.2=0 then (if 1048576<x1.1 then some ([],0,5) else (if (IntKind.i64.wrap ((a0.length:Int)-x1.2.1))<(IntKind.i64.wrap ((IntKind.i64.wrap x1.1)+4)) then some ([],0,2) else ((Dl a0 a1 (IntKind.i64.wrap ((IntKind.i64.wrap (x1.2.1+(IntKind.i64.wrap x1.1)))+4))).bind fun x8=>((f139 x8).bind fun x9=>(if x9.2=0 then ((Dl a0 x1.2.1 (IntKind.i64.wrap ((IntKind.i64.wrap ((IntKind.i64.wrap (x1.2.1+(IntKind.i64.wrap x1.1)))+4))-4))).bind fun x11=>((f133 x11).bind fun x12=>some (x12,IntKind.i64.wrap ((IntKind.i64.wrap (x1.2.1+(IntKind.i64.wrap x1.1)))+4),0))) else some ([],0,x9.2)))))) else some ([],0,x1.2.2)))
theorem ok119 (a0:List Int) (a1:Int) (r:(List Int)×Int×Int) (h:f119 a0 a1=some r):PC Tryz.prog 119 [.sl (List.map Aw a0),.val (.int .i64 a1)] (.tup [.fr 1 (List.map Aw r.1),.val (.int .i64 r.2.1),.val (.int .i64 r.2.2)]):=by
 rw [f119] at h
 refine Bi (N:=57) (rs:=[.tmp 4,.tmp 5,.tmp 6]) Tryz.func119 ?_
 refine Ac [0,1] ?_
 obtain ⟨x1,hx1,h⟩:=bO h
 refine Bx [0,1,6,7,8] (ok122 a0 a1 x1 hx1) Tryz.call122 ?_
 refine AW.seq<|AW.block<|Ac [0,1,6,7,8,18] ?_
 rcases Aq h with ⟨c5,h⟩|⟨c5,h⟩
 ·refine Ai rfl (fun q=>q c5) ?_
  refine Ac [0,1,7,8,22] ?_
  rcases Aq h with ⟨c6,h⟩|⟨c6,h⟩
  ·refine Aj rfl c6<|Ac [4,5,6] ?_
   refine AW.ent (Av 4 1 (by decide) rfl) ?_
   refine AW.ret<|Bd<|Ad ?_
   obtain rfl:=oi h
   (simp only [go_sem,seval,Ay]<;>try simp)
  ·refine Ai rfl c6<|Ac [0,1,7,8,25] ?_
   rcases Aq h with ⟨c7,h⟩|⟨c7,h⟩
   ·refine Aj rfl c7<|Ac [4,5,6] ?_
    refine AW.ent (Av 4 1 (by decide) rfl) ?_
    refine AW.ret<|Bd<|Ad ?_
    obtain rfl:=oi h
    (simp only [go_sem,seval,Ay]<;>try simp)
   ·refine Ai rfl c7<|AW.skip<|Ax<|Aa<|Ac [0,1,5,8] ?_
    refine AW.seq ?_
    obtain ⟨x8,hx8,h⟩:=bO h
    obtain ⟨x9,hx9,h⟩:=bO h
    refine Cb [0,5,8,10] fun K hK=>?_
    simp only [go_sem,seval,Jw Pn sz5 (Eu _) hx8]
    refine arC.of (ok139 x8 x9 hx9) Tryz.call139 ?_
    simp only [go_sem,seval,Jw Pn sz5 (Eu _) hx8]
    subst hK
    refine Ac [0,5,8,10,48] ?_
    rcases Aq h with ⟨c10,h⟩|⟨c10,h⟩
    ·refine Ai rfl (fun q=>q c10)<|AW.skip<|Aa ?_
     obtain ⟨x11,hx11,h⟩:=bO h
     obtain ⟨x12,hx12,h⟩:=bO h
     refine Cb [4,5,6] fun K hK=>?_
     simp only [go_sem,seval,Jw Pn sz5 (Eu _) hx11]
     refine arC.of (ok133 x11 x12 hx12) Tryz.call133 ?_
     simp only [go_sem,seval,Jw Pn sz5 (Eu _) hx11]
     subst hK
     refine AW.ret ?_
     obtain rfl:=oi h
     (simp only [go_sem,seval,Ay]<;>try simp)
    ·refine Aj rfl c10<|Ac [4,5,6] ?_
     refine AW.ent (Av 4 1 (by decide) rfl) ?_
     refine AW.ret<|Ad ?_
     obtain rfl:=oi h
     (simp only [go_sem,seval,Ay]<;>try simp)
 ·refine Aj rfl c5<|Ac [4,5,6] ?_
  refine AW.ent (Av 4 1 (by decide) rfl) ?_
  refine AW.ret<|Bd<|Ad ?_
  obtain rfl:=oi h
  (simp only [go_sem,seval,Ay]<;>try simp)
def f63 (a0:List Int) (a1:Int):Option ((List Int)×Int×Int):=((f99 a0 a1).bind fun x1=>(if x1.2.2=0 then (if 1048576<x1.1 then some ([],0,5) else (if (IntKind.i64.wrap ((a0.length:Int)-x1.2.1))<(IntKind.i64.wrap ((IntKind.i64.wrap x1.1)+4)) then some ([],0,2) else ((Dl a0 a1 (IntKind.i64.wrap ((IntKind.i64.wrap ((IntKind.i64.wrap (x1.2.1+(IntKind.i64.wrap x1.1)))+4))-4))).bind fun x8=>((f100 x8).bind fun x9=>((Dl a0 a1 (IntKind.i64.wrap ((IntKind.i64.wrap (x1.2.1+(IntKind.i64.wrap x1.1)))+4))).bind fun x10=>(if (strOfNums x9)=(strOfNums x10) then ((Dl a0 x1.2.1 (IntKind.i64.wrap ((IntKind.i64.wrap ((IntKind.i64.wrap (x1.2.1+(IntKind.i64.wrap x1.1)))+4))-4))).bind fun x12=>some (x12,IntKind.i64.wrap ((IntKind.i64.wrap (x1.2.1+(IntKind.i64.wrap x1.1)))+4),0)) else some ([],0,4))))))) else some ([],0,x1.2.2)))
theorem ok63 (a0:List Int) (a1:Int) (r:(List Int)×Int×Int) (h:f63 a0 a1=some r):PC Tryz.prog 63 [.sl (List.map Aw a0),.val (.int .i64 a1)] (.tup [.sl (List.map Aw r.1),.val (.int .i64 r.2.1),.val (.int .i64 r.2.2)]):=by
 rw [f63] at h
 refine Bi (N:=55) (rs:=[.tmp 4,.tmp 5,.tmp 6]) Tryz.func63 ?_
 refine Ac [0,1] ?_
 obtain ⟨x1,hx1,h⟩:=bO h
 refine Bx [0,1,7,8,9] (ok99 a0 a1 x1 hx1) Tryz.call99 ?_
 refine AW.seq<|Ac [0,1,7,8,9,19] ?_
 rcases Aq h with ⟨c3,h⟩|⟨c3,h⟩
 ·refine Ai rfl (fun q=>q c3) ?_
  refine AW.skip<|Aa<|AW.seq<|Ac [0,1,7,8,22] ?_
  rcases Aq h with ⟨c5,h⟩|⟨c5,h⟩
  ·refine Aj rfl c5<|Ac [4,5,6] ?_
   refine AW.ent (Ent.w (Fe (d:=4) Weak.nil)) ?_
   refine AW.ret<|Ad ?_
   obtain rfl:=oi h
   (simp only [go_sem,seval,Ay]<;>try simp)
  ·refine Ai rfl c5<|AW.skip<|Aa<|AW.seq<|Ac [0,1,7,8,30] ?_
   rcases Aq h with ⟨c7,h⟩|⟨c7,h⟩
   ·refine Aj rfl c7<|Ac [4,5,6] ?_
    refine AW.ent (Ent.w (Fe (d:=4) Weak.nil)) ?_
    refine AW.ret<|Ad ?_
    obtain rfl:=oi h
    (simp only [go_sem,seval,Ay]<;>try simp)
   ·refine Ai rfl c7<|AW.skip<|Aa<|Ac [0,1,8,10] ?_
    refine AW.seq ?_
    obtain ⟨x8,hx8,h⟩:=bO h
    obtain ⟨x9,hx9,h⟩:=bO h
    obtain ⟨x10,hx10,h⟩:=bO h
    refine Sb [0,8,10,48] [0,0,0,4,15,31,63,0,0,0,896,1920,4095] (ok100 x8 x9 hx9) Tryz.call100 ?_
    generalize hK:AW Tryz.prog _ _ _=K
    simp only [go_sem,seval,Jw Pn sz5 (Eu _) hx8,Ce (enc:=Aw) (fun _=>rfl),Jw Pn sz5 (Eu _) hx10]
    subst hK
    rcases Aq h with ⟨c11,h⟩|⟨c11,h⟩
    ·refine Ai rfl (fun q=>q c11)<|AW.skip<|Aa ?_
     obtain ⟨x12,hx12,h⟩:=bO h
     refine Cb [4,5,6] fun K hK=>?_
     simp only [go_sem,seval,Jw Pn sz5 (Eu _) hx12]
     subst hK
     refine AW.ret ?_
     obtain rfl:=oi h
     (simp only [go_sem,seval,Ay]<;>try simp)
    ·refine Aj rfl c11<|Ac [4,5,6] ?_
     refine AW.ent (Ent.w (Fe (d:=4) Weak.nil)) ?_
     refine AW.ret<|Ad ?_
     obtain rfl:=oi h
     (simp only [go_sem,seval,Ay]<;>try simp)
 ·refine Aj rfl c3<|Ac [4,5,6] ?_
  refine AW.ent (Ent.w (Fe (d:=4) Weak.nil)) ?_
  refine AW.ret<|Ad ?_
  obtain rfl:=oi h
  (simp only [go_sem,seval,Ay]<;>try simp)
def f141 (a0:List ByteArray):Option Pair:=((a0[0]?).bind fun x1=>((a0[1]?).bind fun x2=>some ⟨x1,x2⟩))
theorem ok141 (a0:List ByteArray) (r:Pair) (h:f141 a0=some r):PC Tryz.prog 141 [.sl (List.map Cr a0)] (.agg (Ca r)):=by
 rw [f141] at h
 refine Bi (N:=10) (rs:=[.cell 2 134]) Tryz.func141 ?_
 refine Ac [0,2] ?_
 obtain ⟨x1,hx1,h⟩:=bO h
 obtain ⟨x2,hx2,h⟩:=bO h
 refine Dm [2] [0,1,3,0,8,24,63,127] ?_
 generalize hK:AW Tryz.prog _ _ _=K
 simp only [go_sem,seval,hx1,hx2]
 subst hK
 refine AW.ret ?_
 obtain rfl:=oi h
 (simp only [go_sem,seval,Ay]<;>try simp)
def Ed (a0:List Int) (a2:Int):Int×(List ByteArray)×Int→Option ((Int×(List ByteArray)×Int)⊕(((List Pair)×Int×Int)⊕(Int×(List ByteArray))))
  | (s4_0,s4_1,s4_2)=>(if s4_2<a2 then ((f145 a0 s4_0 65536).bind fun x62=>(if x62.2.2=0 then ((Bq s4_1 [x62.1]).bind fun x64=>some (.inl (x62.2.1,x64,IntKind.i64.wrap (s4_2+1)))) else some (.inr (.inl ([],0,x62.2.2))))) else some (.inr (.inr (s4_0,s4_1))))
def Ey (a0:List Int) (a2:Int) (x1:Int×Int×Int):Int×(List Pair)×Int→Option ((Int×(List Pair)×Int)⊕(((List Pair)×Int×Int)⊕(Int×(List Pair))))
  | (s1_0,s1_1,s1_2)=>(if s1_2<x1.1 then ((loopO (Ed a0 a2) (s1_0,[],0)).bind fun y65=>match y65 with|.inl y66=>some (.inr (.inl y66))|.inr (y67,y68)=>((f141 y68).bind fun x69=>((Bq s1_1 [x69]).bind fun x70=>some (.inl (y67,x70,IntKind.u64.wrap (s1_2+1)))))) else some (.inr (.inr (s1_0,s1_1))))
def Ez (a0:List Int) (a2:Int) (x1:Int×Int×Int):Int→Option ((List Pair)×Int×Int)
  | j1_0=>(if j1_0=0 then ((loopO (Ey a0 a2 x1) (x1.2.1,[],0)).bind fun y71=>match y71 with|.inl y72=>some y72|.inr (y73,y74)=>some (y74,y73,0)) else some ([],0,j1_0))
def Mb (a0:List Int) (a1:Int) (a2:Int):Option ((List Pair)×Int×Int):=((f122 a0 a1).bind fun x1=>(if x1.2.2=0 then (if 65536<x1.1 then Ez a0 a2 x1 9 else Ez a0 a2 x1 x1.2.2) else Ez a0 a2 x1 x1.2.2))
theorem ok140_141 (a0:List Int) (a1:Int) (a2:Int) (r:(List Pair)×Int×Int) (h:Mb a0 a1 a2=some r):PC Tryz.prog 140 [.sl (List.map Aw a0),.val (.int .i64 a1),.val (.int .i64 a2),.clo (.func 141) [] []] (.tup [.fr 2 (List.map Ca r.1),.val (.int .i64 r.2.1),.val (.int .i64 r.2.2)]):=by
 rw [Mb] at h
 refine Bi (N:=63) (rs:=[.tmp 8,.tmp 9,.tmp 10]) Tryz.func140 ?_
 refine Ao [0,1,2,3,8] ?_
 obtain ⟨x1,hx1,h⟩:=bO h
 refine Bx [0,1,2,3,8,10,11] (ok122 a0 a1 x1 hx1) Tryz.call122 ?_
 refine AW.join (fun s=>⟨(Ag (Ag (Ag (Ag (Ag (Ag (Ag Az 0 (.sl (List.map Aw a0))) 1 (.val (.int .i64 x1.2.1))) 2 (.val (.int .i64 a2))) 3 (.clo (.func 141) [] [])) 8 (.val (.slice none 0 0))) 10 (.val (.int .i64 s))) 11 (.val (.int .u64 x1.1))),Bo [] [],8⟩) (fun s=>Ez a0 a2 x1 s=some r) ?_ ?_
 ·rcases Aq h with ⟨c75,h⟩|⟨c75,h⟩
  ·refine Ao [0,1,2,3,8,10,11,28] ?_
   rcases Aq h with ⟨c76,h⟩|⟨c76,h⟩
   ·refine Aj rfl c76<|Bz [0,1,2,3,8,10,11] ?_
    refine Aa ?_
    refine ⟨_,h,?_⟩
    exact Bg RF.any.qv.qv.qv.qt.qv.qv.qv
   ·refine Ai rfl c76<|AW.skip<|Aa ?_
    refine ⟨_,h,?_⟩
    exact Bg RF.any.qv.qv.qv.qt.qv.qv.qv
  ·refine Ao [0,1,2,3,8,10,11,28] ?_
   refine Bl rfl rfl<|AW.skip<|Aa ?_
   refine ⟨_,h,?_⟩
   exact Bg RF.any.qv.qv.qv.qt.qv.qv.qv
 ·clear h
  rintro j1_0 h
  rw [Ez] at h
  refine AW.seq<|Ac [0,1,2,3,8,10,11,30] ?_
  rcases Aq h with ⟨c5,h⟩|⟨c5,h⟩
  ·refine Ai rfl (fun q=>q c5) ?_
   refine AW.skip<|Aa<|AW.seq<|Ac [0,1,2,3,8,32,33] ?_
   refine AW.block ?_
   obtain ⟨y71,hy71,h⟩:=bO h
   refine AW.loopO (fun s=>⟨(Ag (Ag (Ag (Ag (Ag (Ag (Ag Az 0 (.sl (List.map Aw a0))) 1 (.val (.int .i64 s.1))) 2 (.val (.int .i64 a2))) 3 (.clo (.func 141) [] [])) 8 (.own 8 0 s.2.1.length)) 32 (.val (.int .u64 x1.1))) 33 (.val (.int .u64 s.2.2))),Bo [] [some (.row 2 true (List.map Ca s.2.1))],9⟩) (fun y e st'=>match y with|.inl z=>e=Exit.ret∧Ay Tryz.prog [.tmp 8,.tmp 9,.tmp 10] (.tup [.fr 2 (List.map Ca z.1),.val (.int .i64 z.2.1),.val (.int .i64 z.2.2)]) .ret st'|.inr z=>e=Exit.exit 0∧st'=⟨(Ag (Ag Az 1 (.val (.int .i64 z.1))) 8 (.own 8 0 z.2.length)),Bo [] [some (.row 2 true (List.map Ca z.2))],9⟩) hy71 ?_ ?_ ?_
   ·refine Ent.trans (Av 8 2 (by decide) rfl) ?_
    exact Ab [40] RF.any.qv.qv.qv.qt.qo.qv.qv (.nil _) (.ce (.nil _))
   ·clear h hy71
    rintro ⟨s1_0,s1_1,s1_2⟩ x h
    rw [Ey] at h
    refine Ac [0,1,2,3,8,32,33,34] ?_
    refine AW.seq ?_
    rcases Aq h with ⟨c47,h⟩|⟨c47,h⟩
    ·refine Aj rfl c47<|AW.skip<|Aa<|AW.seq<|AW.block<|Ac [0,1,2,3,8,12,32,33] ?_
     refine AW.seq<|Ac [0,1,2,3,8,12,32,33,35,36] ?_
     refine AW.block ?_
     obtain ⟨y65,hy65,h⟩:=bO h
     refine AW.loopO (fun s=>⟨(Ag (Ag (Ag (Ag (Ag (Ag (Ag (Ag (Ag (Ag Az 0 (.sl (List.map Aw a0))) 1 (.val (.int .i64 s.1))) 2 (.val (.int .i64 a2))) 3 (.clo (.func 141) [] [])) 8 (.own 8 0 s1_1.length)) 12 (.own 9 0 s.2.1.length)) 32 (.val (.int .u64 x1.1))) 33 (.val (.int .u64 s1_2))) 35 (.val (.int .i64 a2))) 36 (.val (.int .i64 s.2.2))),Bo [] [some (.row 2 true (List.map Ca s1_1)),some (.row 1 true (List.map Cr s.2.1))],10⟩) (fun y e st'=>match y with|.inl z=>e=Exit.ret∧Ay Tryz.prog [.tmp 8,.tmp 9,.tmp 10] (.tup [.fr 2 (List.map Ca z.1),.val (.int .i64 z.2.1),.val (.int .i64 z.2.2)]) .ret st'|.inr z=>e=Exit.exit 2∧st'=⟨(Ag (Ag (Ag (Ag (Ag (Ag (Ag (Ag Az 0 (.sl (List.map Aw a0))) 1 (.val (.int .i64 z.1))) 2 (.val (.int .i64 a2))) 3 (.clo (.func 141) [] [])) 8 (.own 8 0 s1_1.length)) 12 (.own 9 0 z.2.length)) 32 (.val (.int .u64 x1.1))) 33 (.val (.int .u64 s1_2))),Bo [] [some (.row 2 true (List.map Ca s1_1)),some (.row 1 true (List.map Cr z.2))],10⟩) hy65 ?_ ?_ ?_
     ·refine Ent.trans (Av 12 1 (by decide) rfl) ?_
      exact Ab [8,41] RF.any.qv.qv.qv.qt.qo.qo.qv.qv.qv.qv (.nil _) (.ce (.ce (.nil _)))
     ·clear h hy65
      rintro ⟨s4_0,s4_1,s4_2⟩ x h
      rw [Ed] at h
      refine Ac [0,1,2,3,8,12,32,33,35,36,37] ?_
      refine AW.seq ?_
      rcases Aq h with ⟨c61,h⟩|⟨c61,h⟩
      ·refine Aj rfl c61<|AW.skip<|Aa<|AW.seq<|AW.block ?_
       obtain ⟨x62,hx62,h⟩:=bO h
       refine Bx [0,2,3,8,12,13,14,15,32,33,35,36] (ok145 a0 s4_0 65536 x62 hx62) Tryz.call145 ?_
       refine AW.seq<|Ac [0,2,3,8,12,13,14,15,32,33,35,36,46] ?_
       rcases Aq h with ⟨c63,h⟩|⟨c63,h⟩
       ·refine Ai rfl (fun q=>q c63)<|AW.skip<|Aa ?_
        obtain ⟨x64,hx64,h⟩:=bO h
        obtain ⟨hx64b,hx64e⟩:=appO?_some.1 hx64
        have hx64f:∀id o:Nat,Dw 1 16 id ([[.val (.string x62.1)]]) 0 s4_1.length o (some (.row 1 true (List.map Cr s4_1)))=some ⟨.own id 0 x64.length,[(o,none),(id,some (.row 1 true (List.map Cr x64)))]⟩:=fun id o=>by
          subst hx64e;rw [Bw (by simp) (by simpa using hx64b) (by decide)];first|(simp [Cr];done)|(simp [Cr];omega)
        refine AW.vY [0,1,2,3,8,12,32,33,35,36] ?_
        refine Ax<|Aa<|Cd [0,1,2,3,8,12,32,33,35,36] ?_
        refine Aa ?_
        refine ⟨_,oj h,?_⟩
        exact Ab [8,138] RF.any.qv.qv.qv.qt.qo.qo.qv.qv.qv.qv (.nil _) (.ce (.ce (.nil _)))
       ·refine Aj rfl c63<|Ac [8,9,10] ?_
        refine AW.ent (Av 8 2 (by decide) rfl) ?_
        refine AW.ret<|Ad<|Bd<|Ad<|Ad ?_
        refine ⟨_,oj h,_,Ent.refl,rfl,?_⟩
        (simp only [go_sem,seval,Ay]<;>try simp)
      ·refine Ai rfl c61<|AW.exit<|Af<|Af ?_
       refine ⟨_,oj h,_,?_,rfl,rfl⟩
       exact Ab [8,9] RF.any.qv.qv.qv.qt.qo.qo.qv.qv (.nil _) (.ce (.ce (.nil _)))
     ·intro e st' hX
      rcases y65 with y66|⟨y67,y68⟩<;>dsimp only at h hX
      ·obtain ⟨rfl,hf⟩:=hX
       refine ⟨_,Ent.refl,?_⟩
       refine Bd<|Ad<|Bd<|Ad<|Ad ?_
       refine ⟨_,oj h,_,Ent.refl,rfl,?_⟩
       exact hf
      ·obtain ⟨rfl,rfl⟩:=hX
       refine ⟨_,Ent.refl,?_⟩
       refine Bc<|Aa ?_
       obtain ⟨x69,hx69,h⟩:=bO h
       obtain ⟨x70,hx70,h⟩:=bO h
       obtain ⟨hx70b,hx70e⟩:=appO?_some.1 hx70
       have hx70f:∀id o:Nat,Dw 2 32 id ([[.val (.string x69.Key),.val (.string x69.Val)]]) 0 s1_1.length o (some (.row 2 true (List.map Ca s1_1)))=some ⟨.own id 0 x70.length,[(o,none),(id,some (.row 2 true (List.map Ca x70)))]⟩:=fun id o=>by
         subst hx70e;rw [Bw (by simp) (by simpa using hx70b) (by decide)];first|(simp [Ca];done)|(simp [Ca];omega)
       refine AW.vD [0,1,2,3,8,32,33] (ok141 y68 x69 hx69) Tryz.call141 ?_
       refine Ax<|Aa<|Cd [0,1,2,3,8,32,33] ?_
       refine Aa ?_
       refine ⟨_,oj h,?_⟩
       exact Ab [50] RF.any.qv.qv.qv.qt.qo.qv.qv (.nil _) (.ce (.nil _))
    ·refine Ai rfl c47<|AW.exit<|Af<|Af ?_
     refine ⟨_,oj h,_,?_,rfl,rfl⟩
     exact Ab [8] RF.any.qv.qo (.nil _) (.ce (.nil _))
   ·intro e st' hX
    rcases y71 with y72|⟨y73,y74⟩<;>dsimp only at h hX
    ·obtain ⟨rfl,hf⟩:=hX
     refine ⟨_,Ent.refl,?_⟩
     refine Bd<|Ad ?_
     obtain rfl:=oi h
     exact hf
    ·obtain ⟨rfl,rfl⟩:=hX
     refine ⟨_,Ent.refl,?_⟩
     refine Bc<|Aa<|Ac [8,9,10] ?_
     refine AW.ret ?_
     obtain rfl:=oi h
     (simp only [go_sem,seval,Ay]<;>try simp)
  ·refine Aj rfl c5<|Ac [8,9,10] ?_
   refine AW.ent (Av 8 2 (by decide) rfl) ?_
   refine AW.ret<|Ad ?_
   obtain rfl:=oi h
   (simp only [go_sem,seval,Ay]<;>try simp)
def f120 (a0:List Int) (a1:Int):Option ((List Pair)×Int×Int):=((Mb a0 a1 2).bind fun x1=>some (x1.1,x1.2.1,x1.2.2))
theorem ok120 (a0:List Int) (a1:Int) (r:(List Pair)×Int×Int) (h:f120 a0 a1=some r):PC Tryz.prog 120 [.sl (List.map Aw a0),.val (.int .i64 a1)] (.tup [.fr 2 (List.map Ca r.1),.val (.int .i64 r.2.1),.val (.int .i64 r.2.2)]):=by
 rw [f120] at h
 refine Bi (N:=13) (rs:=[.tmp 4,.tmp 5,.tmp 6]) Tryz.func120 ?_
 refine Ac [0,1] ?_
 obtain ⟨x1,hx1,h⟩:=bO h
 refine Bx [4,5,6] (Pc (us:=[.sl (List.map Aw a0),.val (.int .i64 a1),.val (.int .i64 2),.val (.func (.func 141) #[] #[])]) (ok140_141 a0 a1 2 x1 hx1) (by first|rfl|simp [norm,Du,Fp,go_sem])) Tryz.call140 ?_
 refine AW.ret ?_
 obtain rfl:=oi h
 (simp only [go_sem,seval,Ay]<;>try simp)
def Hq (a0:List Int) (a2:Int) (x1:Int×Int×Int):Int×(List ByteArray)×Int→Option ((Int×(List ByteArray)×Int)⊕(((List ByteArray)×Int×Int)⊕(Int×(List ByteArray))))
  | (s1_0,s1_1,s1_2)=>(if s1_2<(IntKind.i64.wrap ((IntKind.i64.wrap x1.1)*a2)) then ((f102 a0 s1_0 65536).bind fun x17=>(if x17.2.2=0 then ((Bq s1_1 [x17.1]).bind fun x19=>some (.inl (x17.2.1,x19,IntKind.i64.wrap (s1_2+1)))) else some (.inr (.inl ([],0,x17.2.2))))) else some (.inr (.inr (s1_0,s1_1))))
def f101 (a0:List Int) (a1:Int) (a2:Int):Option ((List ByteArray)×Int×Int):=((f99 a0 a1).bind fun x1=>(if x1.2.2=0 then (if 65536<x1.1 then some ([],0,9) else ((loopO (Hq a0 a2 x1) (x1.2.1,[],0)).bind fun y20=>match y20 with|.inl y21=>some y21|.inr (y22,y23)=>some (y23,y22,0))) else some ([],0,x1.2.2)))
theorem ok101 (a0:List Int) (a1:Int) (a2:Int) (r:(List ByteArray)×Int×Int) (h:f101 a0 a1 a2=some r):PC Tryz.prog 101 [.sl (List.map Aw a0),.val (.int .i64 a1),.val (.int .i64 a2)] (.tup [.fr 1 (List.map Cr r.1),.val (.int .i64 r.2.1),.val (.int .i64 r.2.2)]):=by
 rw [f101] at h
 refine Bi (N:=54) (rs:=[.tmp 6,.tmp 7,.tmp 8]) Tryz.func101 ?_
 refine Ac [0,1,2] ?_
 obtain ⟨x1,hx1,h⟩:=bO h
 refine Bx [0,2,9,10,11] (ok99 a0 a1 x1 hx1) Tryz.call99 ?_
 refine AW.seq<|Ac [0,2,9,10,11,25] ?_
 rcases Aq h with ⟨c3,h⟩|⟨c3,h⟩
 ·refine Ai rfl (fun q=>q c3) ?_
  refine AW.skip<|Aa<|AW.seq<|Ac [0,2,9,10,28] ?_
  rcases Aq h with ⟨c5,h⟩|⟨c5,h⟩
  ·refine Aj rfl c5<|Ac [6,7,8] ?_
   refine AW.ent (Av 6 1 (by decide) rfl) ?_
   refine AW.ret<|Ad ?_
   obtain rfl:=oi h
   (simp only [go_sem,seval,Ay]<;>try simp)
  ·refine Ai rfl c5<|AW.skip<|Aa<|Ac [0,2,9,10,12] ?_
   refine AW.seq<|Ac [0,2,9,10,12,13] ?_
   refine AW.block ?_
   obtain ⟨y20,hy20,h⟩:=bO h
   refine AW.loopO (fun s=>⟨(Ag (Ag (Ag (Ag (Ag (Ag Az 0 (.sl (List.map Aw a0))) 2 (.val (.int .i64 a2))) 9 (.val (.int .u64 x1.1))) 10 (.val (.int .i64 s.1))) 12 (.own 8 0 s.2.1.length)) 13 (.val (.int .i64 s.2.2))),Bo [] [some (.row 1 true (List.map Cr s.2.1))],9⟩) (fun y e st'=>match y with|.inl z=>e=Exit.ret∧Ay Tryz.prog [.tmp 6,.tmp 7,.tmp 8] (.tup [.fr 1 (List.map Cr z.1),.val (.int .i64 z.2.1),.val (.int .i64 z.2.2)]) .ret st'|.inr z=>e=Exit.exit 0∧st'=⟨(Ag (Ag Az 10 (.val (.int .i64 z.1))) 12 (.own 8 0 z.2.length)),Bo [] [some (.row 1 true (List.map Cr z.2))],9⟩) hy20 ?_ ?_ ?_
   ·refine Ent.trans (Av 12 1 (by decide) rfl) ?_
    exact Ab [160] RF.any.qv.qv.qv.qv.qo.qv (.nil _) (.ce (.nil _))
   ·clear h hy20
    rintro ⟨s1_0,s1_1,s1_2⟩ x h
    rw [Hq] at h
    refine AW.seq<|Ac [0,2,9,10,12,13,34] ?_
    rcases Aq h with ⟨c16,h⟩|⟨c16,h⟩
    ·refine Aj rfl c16<|AW.skip<|Aa<|AW.seq<|AW.block ?_
     obtain ⟨x17,hx17,h⟩:=bO h
     refine Bx [0,2,9,12,13,14,15,16] (ok102 a0 s1_0 65536 x17 hx17) Tryz.call102 ?_
     refine AW.seq<|Ac [0,2,9,12,13,14,15,16,45] ?_
     rcases Aq h with ⟨c18,h⟩|⟨c18,h⟩
     ·refine Ai rfl (fun q=>q c18)<|AW.skip<|Aa ?_
      obtain ⟨x19,hx19,h⟩:=bO h
      obtain ⟨hx19b,hx19e⟩:=appO?_some.1 hx19
      have hx19f:∀id o:Nat,Dw 1 16 id ([[.val (.string x17.1)]]) 0 s1_1.length o (some (.row 1 true (List.map Cr s1_1)))=some ⟨.own id 0 x19.length,[(o,none),(id,some (.row 1 true (List.map Cr x19)))]⟩:=fun id o=>by
        subst hx19e;rw [Bw (by simp) (by simpa using hx19b) (by decide)];first|(simp [Cr];done)|(simp [Cr];omega)
      refine Ao [0,2,9,12,13,15] ?_
      refine Cd [0,2,9,10,12,13] ?_
      refine Ax<|Aa<|Cd [0,2,9,10,12,13] ?_
      refine Aa ?_
      refine ⟨_,oj h,?_⟩
      exact Ab [177] RF.any.qv.qv.qv.qv.qo.qv (.nil _) (.ce (.nil _))
     ·refine Aj rfl c18<|Ac [6,7,8] ?_
      refine AW.ent (Av 6 1 (by decide) rfl) ?_
      refine AW.ret<|Ad<|Bd<|Ad<|Ad ?_
      refine ⟨_,oj h,_,Ent.refl,rfl,?_⟩
      (simp only [go_sem,seval,Ay]<;>try simp)
    ·refine Ai rfl c16<|AW.exit<|Af<|Af ?_
     refine ⟨_,oj h,_,?_,rfl,rfl⟩
     exact Ab [8] RF.any.qv.qo (.nil _) (.ce (.nil _))
   ·intro e st' hX
    rcases y20 with y21|⟨y22,y23⟩<;>dsimp only at h hX
    ·obtain ⟨rfl,hf⟩:=hX
     refine ⟨_,Ent.refl,?_⟩
     refine Bd<|Ad ?_
     obtain rfl:=oi h
     exact hf
    ·obtain ⟨rfl,rfl⟩:=hX
     refine ⟨_,Ent.refl,?_⟩
     refine Bc<|Aa<|Ac [6,7,8] ?_
     refine AW.ret ?_
     obtain rfl:=oi h
     (simp only [go_sem,seval,Ay]<;>try simp)
 ·refine Aj rfl c3<|Ac [6,7,8] ?_
  refine AW.ent (Av 6 1 (by decide) rfl) ?_
  refine AW.ret<|Ad ?_
  obtain rfl:=oi h
  (simp only [go_sem,seval,Ay]<;>try simp)
def Mz (x1:(List ByteArray)×Int×Int):(List Pair)×Int→Option (((List Pair)×Int)⊕(List Pair))
  | (s1_0,s1_1)=>(if (IntKind.i64.wrap (s1_1+1))<((x1.1.length:Nat):Int) then ((ix x1.1 s1_1).bind fun x13=>((ix x1.1 (IntKind.i64.wrap (s1_1+1))).bind fun x14=>((Bq s1_0 [⟨x13,x14⟩]).bind fun x15=>some (.inl (x15,IntKind.i64.wrap (s1_1+2)))))) else some (.inr s1_0))
def f64 (a0:List Int) (a1:Int):Option ((List Pair)×Int×Int):=((f101 a0 a1 2).bind fun x1=>((loopO (Mz x1) ([],0)).bind fun y17=>some (y17,x1.2.1,x1.2.2)))
theorem ok64 (a0:List Int) (a1:Int) (r:(List Pair)×Int×Int) (h:f64 a0 a1=some r):PC Tryz.prog 64 [.sl (List.map Aw a0),.val (.int .i64 a1)] (.tup [.fr 2 (List.map Ca r.1),.val (.int .i64 r.2.1),.val (.int .i64 r.2.2)]):=by
 rw [f64] at h
 refine Bi (N:=42) (rs:=[.tmp 4,.tmp 5,.tmp 6]) Tryz.func64 ?_
 refine Ac [0,1] ?_
 obtain ⟨x1,hx1,h⟩:=bO h
 refine Bx [7,8,9] (ok101 a0 a1 2 x1 hx1) Tryz.call101 ?_
 refine Ac [7,8,9,10] ?_
 refine AW.seq<|Ac [7,8,9,10,11] ?_
 refine AW.block ?_
 obtain ⟨y17,hy17,h⟩:=bO h
 refine AW.loopO (fun s=>⟨(Ag (Ag (Ag (Ag (Ag Az 7 (.own 8 0 x1.1.length)) 8 (.val (.int .i64 x1.2.1))) 9 (.val (.int .i64 x1.2.2))) 10 (.own 9 0 s.1.length)) 11 (.val (.int .i64 s.2))),Bo [] [some (.row 1 true (List.map Cr x1.1)),some (.row 2 true (List.map Ca s.1))],10⟩) (fun z e st'=>e=Exit.exit 0∧st'=⟨(Ag (Ag (Ag Az 8 (.val (.int .i64 x1.2.1))) 9 (.val (.int .i64 x1.2.2))) 10 (.own 8 0 z.length)),Bo [] [some (.row 2 true (List.map Ca z))],9⟩) hy17 ?_ ?_ ?_
 ·refine Ent.trans (Av 10 2 (by decide) rfl) ?_
  exact Ab [48,128] RF.any.qo.qv.qv.qo.qv (.nil _) (.ce (.ce (.nil _)))
 ·clear h hy17
  rintro ⟨s1_0,s1_1⟩ x h
  rw [Mz] at h
  refine AW.seq<|Ac [7,8,9,10,11,23] ?_
  rcases Aq h with ⟨c12,h⟩|⟨c12,h⟩
  ·refine Aj rfl c12<|AW.skip<|Aa<|AW.seq<|AW.block ?_
   obtain ⟨x13,hx13,h⟩:=bO h
   obtain ⟨hx13a,hx13b⟩:=ix_some.1 hx13
   obtain ⟨x14,hx14,h⟩:=bO h
   obtain ⟨hx14a,hx14b⟩:=ix_some.1 hx14
   obtain ⟨x15,hx15,h⟩:=bO h
   obtain ⟨hx15b,hx15e⟩:=appO?_some.1 hx15
   have hx15f:∀id o:Nat,Dw 2 32 id ([[.val (.string x13),.val (.string x14)]]) 0 s1_0.length o (some (.row 2 true (List.map Ca s1_0)))=some ⟨.own id 0 x15.length,[(o,none),(id,some (.row 2 true (List.map Ca x15)))]⟩:=fun id o=>by
     subst hx15e;rw [Bw (by simp) (by simpa using hx15b) (by decide)];first|(simp [Ca];done)|(simp [Ca];omega)
   refine Nt [7,8,9,10,11] [0,0,0,6,14,0,0,64,224,480,1022,2046,4095,8191] ?_
   generalize hK:Dk _ _ Exit.normal=K
   simp only [go_sem,seval,Ah hx13a,hx13b,Cm hx13b,Ah hx14a,hx14b,Cm hx14b,hx15f]
   subst hK
   refine Ax<|Aa<|Cd [7,8,9,10,11] ?_
   refine Aa ?_
   refine ⟨_,oj h,?_⟩
   exact Ab [8,146] RF.any.qo.qv.qv.qo.qv (.nil _) (.ce (.ce (.nil _)))
  ·refine Ai rfl c12<|AW.exit<|Af<|Af ?_
   refine ⟨_,oj h,_,?_,rfl,rfl⟩
   exact Ab [9] RF.any.qv.qv.qo (.nil _) (.ce (.nil _))
 ·intro e st' hX
  try dsimp only at h
  try dsimp only at hX
  obtain ⟨rfl,rfl⟩:=hX
  refine ⟨_,Ent.refl,?_⟩
  refine Bc<|Aa<|Ac [4,5,6] ?_
  refine AW.ret ?_
  obtain rfl:=oi h
  (simp only [go_sem,seval,Ay]<;>try simp)
def Yj (a0:List Int):Int→Option (Int⊕(Int⊕Unit))
  | s1_0=>(if s1_0<(a0.length:Int) then ((ix a0 s1_0).bind fun x14=>(if x14=0 then some (.inl (IntKind.i64.wrap (s1_0+1))) else some (.inr (.inl x14)))) else some (.inr (.inr ())))
def f163 (a0:List Int):Option Int:=((loopO (Yj a0) 0).bind fun y16=>match y16 with|.inl y17=>some y17|.inr _=>some 0)
theorem ok163 (a0:List Int) (r:Int) (h:f163 a0=some r):PC Tryz.prog 163 [.sl (List.map Bk a0)] (.val (.int .i64 r)):=by
 rw [f163] at h
 refine Bi (N:=18) (rs:=[.tmp 2]) Tryz.func163 ?_
 refine Ac [0] ?_
 refine Ac [0,3] ?_
 refine AW.seq<|Ac [3,6,7,8] ?_
 refine AW.block ?_
 obtain ⟨y16,hy16,h⟩:=bO h
 refine AW.loopO (fun s=>⟨(Ag (Ag (Ag (Ag Az 3 (.val (.int .i64 0))) 6 (.sl (List.map Bk a0))) 7 (.val (.int .i64 (a0.length:Int)))) 8 (.val (.int .i64 s))),Bo [] [],8⟩) (fun y e st'=>match y with|.inl z=>e=Exit.ret∧Ay Tryz.prog [.tmp 2] (.val (.int .i64 z)) .ret st'|.inr z=>e=Exit.exit 0∧st'=⟨(Ag Az 3 (.val (.int .i64 0))),Bo [] [],8⟩) hy16 ?_ ?_ ?_
 ·exact Bg RF.any.qv.qv.qv.qv
 ·clear h hy16
  rintro s1_0 x h
  rw [Yj] at h
  refine Ac [3,6,7,8,9] ?_
  refine AW.seq ?_
  rcases Aq h with ⟨c13,h⟩|⟨c13,h⟩
  ·refine Aj rfl c13<|AW.skip<|Aa<|AW.seq<|AW.block ?_
   obtain ⟨x14,hx14,h⟩:=bO h
   obtain ⟨hx14a,hx14b⟩:=ix_some.1 hx14
   refine Ao [3,5,6,7,8] ?_
   refine Ac [3,5,6,7,8,14] ?_
   rcases Aq h with ⟨c15,h⟩|⟨c15,h⟩
   ·refine Ai rfl (fun q=>q c15)<|AW.skip<|Ax<|Aa<|Cd [3,6,7,8] ?_
    refine Aa ?_
    refine ⟨_,oj h,?_⟩
    exact Bg RF.any.qv.qv.qv.qv
   ·refine Aj rfl c15<|Ac [2] ?_
    refine AW.ret<|Bd<|Ad<|Ad ?_
    refine ⟨_,oj h,_,Ent.refl,rfl,?_⟩
    (simp only [go_sem,seval,Ay]<;>try simp)
  ·refine Ai rfl c13<|AW.exit<|Af<|Af ?_
   refine ⟨_,oj h,_,?_,rfl,rfl⟩
   exact Bg RF.any.qv
 ·intro e st' hX
  rcases y16 with y17|_<;>dsimp only at h hX
  ·obtain ⟨rfl,hf⟩:=hX
   refine ⟨_,Ent.refl,?_⟩
   refine Bd<|Ad ?_
   obtain rfl:=oi h
   exact hf
  ·obtain ⟨rfl,rfl⟩:=hX
   refine ⟨_,Ent.refl,?_⟩
   refine Bc<|Aa<|Ac [2] ?_
   refine AW.ret ?_
   obtain rfl:=oi h
   (simp only [go_sem,seval,Ay]<;>try simp)
def f143 (a0:Pair) (a1:Pair):Option Int:=((f76 a0.Key a1.Key).bind fun x1=>((f76 a0.Val a1.Val).bind fun x2=>((f163 [x1,x2]).bind fun x3=>some x3)))
theorem ok143 (a0:Pair) (a1:Pair) (r:Int) (h:f143 a0 a1=some r):PC Tryz.prog 143 [.agg (Ca a0),.agg (Ca a1)] (.val (.int .i64 r)):=by
 rw [f143] at h
 refine Bi (N:=17) (rs:=[.tmp 4]) Tryz.func143 ?_
 refine Ac [2,3] ?_
 obtain ⟨x1,hx1,h⟩:=bO h
 obtain ⟨x2,hx2,h⟩:=bO h
 obtain ⟨x3,hx3,h⟩:=bO h
 refine Dm [4] [0,1,0,4,15,0,32,0,128,511,1023,2047,4095] ?_
 generalize hK:AW Tryz.prog _ _ _=K
 simp only [go_sem,seval]
 refine Em (ok76 a0.Key a1.Key x1 hx1) Tryz.call76 El (by simp only [go_sem,seval]) (by simp only [go_sem,seval]) ?_
 simp only [go_sem,seval]
 refine Em (ok76 a0.Val a1.Val x2 hx2) Tryz.call76 El (by simp only [go_sem,seval]) (by simp only [go_sem,seval]) ?_
 simp only [go_sem,seval]
 refine Em (ok163 [x1,x2] x3 hx3) Tryz.call163 El (by simp only [go_sem,seval]) (by simp only [go_sem,seval]) ?_
 simp only [go_sem,seval]
 subst hK
 refine AW.ret ?_
 obtain rfl:=oi h
 (simp only [go_sem,seval,Ay]<;>try simp)
end Au
end Go.Proofs.Yt
