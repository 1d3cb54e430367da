import Derived.Test.YtbdncmljibideaaGreatDoorGqUag
import Derived.Test.YtbdncmljibideaaGreatDoorGqUae
import Derived.Test.YtbdncmljibideaaGreatDoorGqUal
import Derived.Test.YtbdncmljibideaaGreatDoorGqUak
import Derived.Test.YtbdncmljibideaaGreatDoorGqUam
import Derived.Test.YtbdncmljibideaaGreatDoorGqUah
import Derived.Test.YtbdncmljibideaaGreatDoorGqUai
import Derived.KernelRfl
import Derived.Test.YtbdncmljibideaaGreatDoorGqUad
import Derived.Below
import Derived.WalkKit
import Derived.Test.YtbdncmljibideaaGreatDoorProg
import Derived.LaidEql
import Derived.Stop.Asserts
import Derived.RowKitTokens
import Derived.Test.YtbdncmljibideaaGreatDoorGqUaj
set_option linter.all false
noncomputable section
set_option maxRecDepth 8000
namespace Go.Gm
def Od {σ ρ:Type} (step:σ→Option (σ⊕ρ)) (s:σ):Option ρ:=Hs step 5000 s
class Le {α:Type} (a b:Option α):Prop where
 h:∀r,a=some r→b=some r
instance (priority:=low) Le.refl {α:Type} (a:Option α):Le a a:=⟨fun _ h=>h⟩
instance Le.bind {α β:Type} {a b:Option α} {f g:α→Option β} [h:Le a b] [k:∀x,Le (f x) (g x)]:Le (a.bind f) (b.bind g):=⟨fun r hr=>by
 obtain ⟨x,hx,hr⟩:=Option.bind_eq_some_iff.1 hr
 rw [h.h x hx];exact (k x).h r hr⟩
instance Le.ite {α:Type} {c:Prop} [Decidable c] {a a' b b':Option α} [h:Le a a'] [k:Le b b']:Le (if c then a else b) (if c then a' else b'):=by
 split
 ·exact h
 ·exact k
theorem Le.iter {σ ρ:Type} {f g:σ→Option (σ⊕ρ)} (h:∀s,Le (f s) (g s)):∀(n:Nat) (s:σ) (r:ρ),Hs f n s=some r→Hs g n s=some r
 | 0,s,_,h=>h
 | n+1,s,r,hr=>by
  simp only [Hs] at hr ⊢
  cases hs:f s with
  | none=>rw [hs] at hr;cases hr
  | some x =>
   rw [hs] at hr
   rw [(h s).h x hs]
   cases x with
   | inl s'=>exact Le.iter h n s' r hr
   | inr q=>exact hr
instance Le.loop {σ ρ:Type} {f g:σ→Option (σ⊕ρ)} [h:∀s,Le (f s) (g s)] (s:σ):Le (Od f s) (loopO g s):=⟨fun r hr=>loopO_iff.2 ⟨_,Le.iter h _ _ r hr⟩⟩
end Go.Gm
namespace Go.Proofs.Yt
open Go.Gm
namespace Au
def g148 (a0:Int) (a1:Int):Option Int:=((Od On (Ki .u32 a0 (IntKind.u32.wrap a1),0)).bind fun y9=>some y9)
instance mf148 (a0:Int) (a1:Int):Le (g148 a0 a1) (f148 a0 a1):=by
 rw [g148,f148]
 infer_instance
def g127_s1 (a0:List Int):Int×Int→Option ((Int×Int)⊕Int)
 | (s1_0,s1_1)=>(if s1_1<(a0.length:Int) then ((ix a0 s1_1).bind fun x11=>((g148 s1_0 x11).bind fun x12=>some (.inl (x12,IntKind.i64.wrap (s1_1+1))))) else some (.inr s1_0))
instance mf127_s1 (a0:List Int) (s):Le (g127_s1 a0 s) (Ot a0 s):=by
 obtain ⟨s1_0,s1_1⟩:=s
 rw [g127_s1,Ot]
 infer_instance
def g127 (a0:List Int):Option Int:=((Od (g127_s1 a0) (4294967295,0)).bind fun y14=>some (IntKind.u32.wrap (4294967295-y14)))
instance mf127 (a0:List Int):Le (g127 a0) (f127 a0):=by
 rw [g127,f127]
 infer_instance
def g100 (a0:List Int):Option (List Int):=((g127 a0).bind fun x1=>((Bq ([]:List Int) a0).bind fun x2=>((Od Ow (x1,x2,0)).bind fun y11=>some y11)))
instance mf100 (a0:List Int):Le (g100 a0) (f100 a0):=by
 rw [g100,f100]
 infer_instance
def g118 (a0:Int):Option Int:=((Od (Yl a0) (1,0)).bind fun y5=>some y5)
instance mf118 (a0:Int):Le (g118 a0) (f118 a0):=by
 rw [g118,f118]
 infer_instance
def g117_s1 (a0:Int):Int→Option (Int⊕(Int⊕Unit))
 | s1_0=>(if s1_0≤8 then ((g118 (IntKind.i64.wrap (7*s1_0))).bind fun x9=>(if a0<x9 then some (.inr (.inl s1_0)) else some (.inl (IntKind.i64.wrap (s1_0+1))))) else some (.inr (.inr ())))
instance mf117_s1 (a0:Int) (s1_0):Le (g117_s1 a0 s1_0) (Mr a0 s1_0):=by
 rw [g117_s1,Mr]
 infer_instance
def g117 (a0:Int):Option Int:=((Od (g117_s1 a0) 1).bind fun y11=>match y11 with|.inl y12=>some y12|.inr _=>some 9)
instance mf117 (a0:Int):Le (g117 a0) (f117 a0):=by
 rw [g117,f117]
 infer_instance
def g88_j1 (a0:Int) (x1:Int):Int×Int→Option (List Int)
 | (j1_0,j1_1)=>((mkO j1_0 (0:Int)).bind fun x4=>((Od Sp (a0,x4,IntKind.i64.wrap (j1_0-1))).bind fun y23=>(if x1=9 then ((Bq [255] y23).bind fun x27=>some x27) else ((y23[0]?).bind fun x28=>some (y23.set 0 (IntKind.u8.wrap (IntKind.i64.wrap (j1_1+(IntKind.i64.wrap x28)))))))))
instance mf88_j1 (a0:Int) (x1:Int) (s):Le (g88_j1 a0 x1 s) (Qn a0 x1 s):=by
 obtain ⟨j1_0,j1_1⟩:=s
 rw [g88_j1,Qn]
 infer_instance
def g88 (a0:Int):Option (List Int):=((g117 a0).bind fun x1=>((g118 (IntKind.i64.wrap (9-x1))).bind fun x2=>(if x1=9 then g88_j1 a0 x1 (8,0) else g88_j1 a0 x1 (x1,(IntKind.i64.wrap (256-(IntKind.i64.wrap x2)))))))
instance mf88 (a0:Int):Le (g88 a0) (f88 a0):=by
 rw [g88,f88]
 infer_instance
def g90 (a0:List Int):Option (List Int):=((g88 (IntKind.u64.wrap (a0.length:Int))).bind fun x1=>((Bq x1 a0).bind fun x2=>((g100 x2).bind fun x3=>some x3)))
instance mf90 (a0:List Int):Le (g90 a0) (f90 a0):=by
 rw [g90,f90]
 infer_instance
def g51 (a0:ByteArray):Option (List Int):=((g88 (IntKind.u64.wrap (a0.size:Int))).bind fun x1=>((Bq x1 (Eh a0)).bind fun x2=>some x2))
instance mf51 (a0:ByteArray):Le (g51 a0) (f51 a0):=by
 rw [g51,f51]
 infer_instance
def g91_s1 (a0:List Pair):(List Int)×Int→Option (((List Int)×Int)⊕(List Int))
 | (s1_0,s1_1)=>(if s1_1<(a0.length:Int) then ((ix a0 s1_1).bind fun x18=>((g51 x18.Key).bind fun x19=>((Bq s1_0 x19).bind fun x20=>((g51 x18.Val).bind fun x21=>((Bq x20 x21).bind fun x22=>some (.inl (x22,IntKind.i64.wrap (s1_1+1)))))))) else some (.inr s1_0))
instance mf91_s1 (a0:List Pair) (s):Le (g91_s1 a0 s) (f91_s1 a0 s):=by
 obtain ⟨s1_0,s1_1⟩:=s
 rw [g91_s1,f91_s1]
 infer_instance
def g91 (a0:List Pair):Option (List Int):=((g88 (IntKind.u64.wrap (a0.length:Int))).bind fun x1=>((Od (g91_s1 a0) (x1,0)).bind fun y24=>some y24))
instance mf91 (a0:List Pair):Le (g91 a0) (f91 a0):=by
 rw [g91,f91]
 infer_instance
def g92 (a0:List Res):Option (List Pair):=((Od (f92_s1 a0) ([],0)).bind fun y13=>some y13)
instance mf92 (a0:List Res):Le (g92 a0) (f92 a0):=by
 rw [g92,f92]
 infer_instance
def g89 (a0:List Int) (a1:Int):Option Int:=((Od (Lz a0 a1) 2).bind fun y34=>(if y34<3 then some 0 else (if (a0.length:Int)≤(IntKind.i64.wrap (a1+2)) then some 0 else some y34)))
instance mf89 (a0:List Int) (a1:Int):Le (g89 a0 a1) (f89 a0 a1):=by
 rw [g89,f89]
 infer_instance
def g52_s18 (a0:List Int) (s1_3:Int):Int→Option (Int⊕Int)
 | s18_0=>(if (IntKind.i64.wrap (s1_3+s18_0))<(a0.length:Int) then ((g89 a0 (IntKind.i64.wrap (s1_3+s18_0))).bind fun x232=>(if x232=0 then some (.inl (IntKind.i64.wrap (s18_0+1))) else some (.inr s18_0))) else some (.inr s18_0))
instance mf52_s18 (a0:List Int) (s1_3:Int) (s18_0):Le (g52_s18 a0 s1_3 s18_0) (Lf a0 s1_3 s18_0):=by
 rw [g52_s18,Lf]
 infer_instance
def g52_s19 (a0:List Int) (s1_3:Int) (y235:Int):(List Int)×Int×Int→Option (((List Int)×Int×Int)⊕(List Int))
 | (s19_0,s19_1,s19_2)=>(if s19_2<(IntKind.i64.wrap (s1_3+y235)) then ((ix a0 s19_2).bind fun x250=>((g88 (IntKind.u64.wrap (IntKind.i64.wrap ((IntKind.i64.wrap (x250-s19_1))-1)))).bind fun x251=>((Bq s19_0 x251).bind fun x252=>some (.inl (x252,x250,IntKind.i64.wrap (s19_2+1)))))) else some (.inr s19_0))
instance mf52_s19 (a0:List Int) (s1_3:Int) (y235:Int) (s):Le (g52_s19 a0 s1_3 y235 s) (Mn a0 s1_3 y235 s):=by
 obtain ⟨s19_0,s19_1,s19_2⟩:=s
 rw [g52_s19,Mn]
 infer_instance
def g52_s1 (a0:List Int):(List Int)×Int×Int×Int→Option (((List Int)×Int×Int×Int)⊕(Int×(List Int)))
 | (s1_0,s1_1,s1_2,s1_3)=>(if s1_3<(a0.length:Int) then ((g89 a0 s1_3).bind fun x167=>(if 0<x167 then ((g88 (IntKind.u64.wrap (IntKind.i64.wrap ((IntKind.i64.wrap (2*x167))+1)))).bind fun x209=>((Bq s1_0 x209).bind fun x210=>((ix a0 s1_3).bind fun x211=>((g88 (IntKind.u64.wrap (IntKind.i64.wrap ((IntKind.i64.wrap (x211-s1_2))-1)))).bind fun x212=>((Bq x210 x212).bind fun x213=>((ix a0 (IntKind.i64.wrap (s1_3+1))).bind fun x214=>((g88 (IntKind.u64.wrap (IntKind.i64.wrap ((IntKind.i64.wrap (x214-x211))-1)))).bind fun x215=>((Bq x213 x215).bind fun x216=>Qq a0 s1_1 s1_3 (x216,x167))))))))) else ((Od (g52_s18 a0 s1_3) 1).bind fun y235=>((g88 (IntKind.u64.wrap (IntKind.i64.wrap (2*y235)))).bind fun x236=>((Bq s1_0 x236).bind fun x237=>((Od (g52_s19 a0 s1_3 y235) (x237,s1_2,s1_3)).bind fun y254=>Qq a0 s1_1 s1_3 (y254,y235))))))) else some (.inr (s1_1,s1_0)))
instance mf52_s1 (a0:List Int) (s):Le (g52_s1 a0 s) (Oi a0 s):=by
 obtain ⟨s1_0,s1_1,s1_2,s1_3⟩:=s
 rw [g52_s1,Oi]
 infer_instance
def g52 (a0:List Int):Option (List Int):=((Od (g52_s1 a0) ([],0,(-1),0)).bind fun y255=>match y255 with|(y256,y257)=>((g88 (IntKind.u64.wrap y256)).bind fun x258=>((Bq x258 y257).bind fun x259=>some x259)))
instance mf52 (a0:List Int):Le (g52 a0) (f52 a0):=by
 rw [g52,f52]
 infer_instance
def g93_s1 (a0:List Res):(List Int)×Int→Option (((List Int)×Int)⊕(List Int))
 | (s1_0,s1_1)=>(if s1_1<(a0.length:Int) then ((ix a0 s1_1).bind fun x20=>((g51 x20.Key).bind fun x21=>((Bq s1_0 x21).bind fun x22=>((g52 x20.Offs).bind fun x23=>((g51 (strOfNums x23)).bind fun x24=>((Bq x22 x24).bind fun x25=>some (.inl (x25,IntKind.i64.wrap (s1_1+1))))))))) else some (.inr s1_0))
instance mf93_s1 (a0:List Res) (s):Le (g93_s1 a0 s) (f93_s1 a0 s):=by
 obtain ⟨s1_0,s1_1⟩:=s
 rw [g93_s1,f93_s1]
 infer_instance
def g93 (a0:List Res):Option (List Int):=((g88 (IntKind.u64.wrap (a0.length:Int))).bind fun x1=>((Od (g93_s1 a0) (x1,0)).bind fun y27=>some y27))
instance mf93 (a0:List Res):Le (g93 a0) (f93 a0):=by
 rw [g93,f93]
 infer_instance
def g55 (a0:List Res):Option ((List Int)×(List Int)):=((g92 a0).bind fun x1=>((g91 x1).bind fun x2=>((g90 x2).bind fun x3=>((g93 a0).bind fun x4=>((g90 x4).bind fun x5=>some (x3,x5))))))
instance mf55 (a0:List Res):Le (g55 a0) (f55 a0):=by
 rw [g55,f55]
 infer_instance
def g29 (a0:List Res):Option (List (A2 (List Int))):=((g55 a0).bind fun x1=>some [⟨x1.1,x1.2⟩])
instance mf29 (a0:List Res):Le (g29 a0) (f29 a0):=by
 rw [g29,f29]
 infer_instance
def g15 (a0:List Int):Option ((List Record)×Int×Int):=(if 1048576<(a0.length:Int) then some ([],0,5) else ((Od (Jf a0) ([],0,0)).bind fun y62=>match y62 with|.inl y63=>some y63|.inr y64=>some (y64,(a0.length:Int),0)))
instance mf15 (a0:List Int):Le (g15 a0) (f15 a0):=by
 rw [g15,f15]
 infer_instance
def g67 (a0:ByteArray) (a1:ByteArray):Option Bool:=((Od (Je a0 a1) 0).bind fun y22=>match y22 with|.inl y23=>some y23|.inr _=>some (decide ((a0.size:Int)<(a1.size:Int))))
instance mf67 (a0:ByteArray) (a1:ByteArray):Le (g67 a0 a1) (f67 a0 a1):=by
 rw [g67,f67]
 infer_instance
def g37_s18 (s12_0:List Res) (s12_1:Int) (x190:List Res):Int→Option (Int⊕Int)
 | s18_0=>(if 0<s18_0 then ((ix x190 s12_1).bind fun x215=>((ix s12_0 (IntKind.i64.wrap (s18_0-1))).bind fun x216=>((g67 x215.Key x216.Key).bind fun x217=>(if x217=true then some (.inl (IntKind.i64.wrap (s18_0-1))) else some (.inr s18_0))))) else some (.inr s18_0))
instance mf37_s18 (s12_0:List Res) (s12_1:Int) (x190:List Res) (s18_0):Le (g37_s18 s12_0 s12_1 x190 s18_0) (Mo s12_0 s12_1 x190 s18_0):=by
 rw [g37_s18,Mo]
 infer_instance
def g37_s12 (a0:List (List Res)) (s1_1:Int):(List Res)×Int→Option (((List Res)×Int)⊕(List Res))
 | (s12_0,s12_1)=>((ix a0 s1_1).bind fun x190=>(if s12_1<(x190.length:Int) then ((Od (g37_s18 s12_0 s12_1 x190) ((s12_0.length:Nat):Int)).bind fun y220=>((Dl s12_0 0 y220).bind fun x221=>((Bq ([]:List Res) x221).bind fun x222=>((ix x190 s12_1).bind fun x223=>((Bq x222 [x223]).bind fun x224=>((Dl s12_0 y220 (s12_0.length:Int)).bind fun x225=>((Bq x224 x225).bind fun x226=>some (.inl (x226,IntKind.i64.wrap (s12_1+1)))))))))) else some (.inr s12_0)))
instance mf37_s12 (a0:List (List Res)) (s1_1:Int) (s):Le (g37_s12 a0 s1_1 s) (Mp a0 s1_1 s):=by
 obtain ⟨s12_0,s12_1⟩:=s
 rw [g37_s12,Mp]
 infer_instance
def g37_s1 (a0:List (List Res)):(List Res)×Int→Option (((List Res)×Int)⊕(List Res))
 | (s1_0,s1_1)=>(if s1_1<(a0.length:Int) then ((Od (g37_s12 a0 s1_1) (s1_0,0)).bind fun y228=>some (.inl (y228,IntKind.i64.wrap (s1_1+1)))) else some (.inr s1_0))
instance mf37_s1 (a0:List (List Res)) (s):Le (g37_s1 a0 s) (Su a0 s):=by
 obtain ⟨s1_0,s1_1⟩:=s
 rw [g37_s1,Su]
 infer_instance
def g37 (a0:List (List Res)):Option (List Res):=((Od (g37_s1 a0) ([],0)).bind fun y230=>some y230)
instance mf37 (a0:List (List Res)):Le (g37 a0) (f37 a0):=by
 rw [g37,f37]
 infer_instance
def g68 (a0:List Int):Option Bool:=((Od (f68_s1 a0) 0).bind fun y22=>match y22 with|.inl y23=>some y23|.inr _=>some (decide ((a0.length:Int)≤65536)))
instance mf68 (a0:List Int):Le (g68 a0) (f68 a0):=by
 rw [g68,f68]
 infer_instance
def g38_s1 (a0:List Res):Int→Option (Int⊕(Bool⊕Unit))
 | s1_0=>(if s1_0<(a0.length:Int) then ((ix a0 s1_0).bind fun x19=>(if (x19.Offs.length:Int)=0 then some (.inr (.inl false)) else ((g68 x19.Offs).bind fun x21=>(if x21=true then (if 0<s1_0 then ((ix a0 (IntKind.i64.wrap (s1_0-1))).bind fun x24=>((g67 x24.Key x19.Key).bind fun x25=>(if x25=true then some (.inl (IntKind.i64.wrap (s1_0+1))) else some (.inr (.inl false))))) else some (.inl (IntKind.i64.wrap (s1_0+1)))) else some (.inr (.inl false)))))) else some (.inr (.inr ())))
instance mf38_s1 (a0:List Res) (s1_0):Le (g38_s1 a0 s1_0) (St a0 s1_0):=by
 rw [g38_s1,St]
 infer_instance
def g38 (a0:List Res):Option Bool:=((Od (g38_s1 a0) 0).bind fun y27=>match y27 with|.inl y28=>some y28|.inr _=>some true)
instance mf38 (a0:List Res):Le (g38 a0) (f38 a0):=by
 rw [g38,f38]
 infer_instance
def g126 (a0:Int):Option Int:=((Od Yk (a0,0)).bind fun y8=>some y8)
instance mf126 (a0:Int):Le (g126 a0) (f126 a0):=by
 rw [g126,f126]
 infer_instance
def g99_j1 (a0:List Int) (a1:Int) (x8:Int):Int→Option (Int×Int×Int)
 | j1_0=>((Od (Vp a0 a1 x8) (j1_0,IntKind.i64.wrap (a1+1))).bind fun y32=>((g117 y32).bind fun x33=>(if x33=(IntKind.i64.wrap (x8+1)) then some (y32,IntKind.i64.wrap (a1+(IntKind.i64.wrap (x8+1))),0) else some (0,0,3))))
instance mf99_j1 (a0:List Int) (a1:Int) (x8:Int) (j1_0):Le (g99_j1 a0 a1 x8 j1_0) (Of a0 a1 x8 j1_0):=by
 rw [g99_j1,Of]
 infer_instance
def g99 (a0:List Int) (a1:Int):Option (Int×Int×Int):=(if a1<0 then some (0,0,8) else (if (a0.length:Int)<a1 then some (0,0,8) else (if a1=(a0.length:Int) then some (0,0,2) else ((ix a0 a1).bind fun x7=>((g126 x7).bind fun x8=>(if (IntKind.i64.wrap ((a0.length:Int)-a1))<(IntKind.i64.wrap (x8+1)) then some (0,0,2) else (if (IntKind.i64.wrap (x8+1))≤8 then ((g118 (IntKind.i64.wrap (8-(IntKind.i64.wrap (x8+1))))).bind fun x36=>((Dt (¬x36=0)).bind fun x37=>g99_j1 a0 a1 x8 ((IntKind.u64.wrap x7).tmod x36))) else g99_j1 a0 a1 x8 0)))))))
instance mf99 (a0:List Int) (a1:Int):Le (g99 a0 a1) (f99 a0 a1):=by
 rw [g99,f99]
 infer_instance
def g63 (a0:List Int) (a1:Int):Option ((List Int)×Int×Int):=((g99 a0 a1).bind fun x1=>(if x1.2.2=0 then (if 1048576<x1.1 then some ([],0,5) else (if (IntKind.i64.wrap ((a0.length:Int)-x1.2.1))<(IntKind.i64.wrap ((IntKind.i64.wrap x1.1)+4)) then some ([],0,2) else ((Dl a0 a1 (IntKind.i64.wrap ((IntKind.i64.wrap ((IntKind.i64.wrap (x1.2.1+(IntKind.i64.wrap x1.1)))+4))-4))).bind fun x8=>((g100 x8).bind fun x9=>((Dl a0 a1 (IntKind.i64.wrap ((IntKind.i64.wrap (x1.2.1+(IntKind.i64.wrap x1.1)))+4))).bind fun x10=>(if (strOfNums x9)=(strOfNums x10) then ((Dl a0 x1.2.1 (IntKind.i64.wrap ((IntKind.i64.wrap ((IntKind.i64.wrap (x1.2.1+(IntKind.i64.wrap x1.1)))+4))-4))).bind fun x12=>some (x12,IntKind.i64.wrap ((IntKind.i64.wrap (x1.2.1+(IntKind.i64.wrap x1.1)))+4),0)) else some ([],0,4))))))) else some ([],0,x1.2.2)))
instance mf63 (a0:List Int) (a1:Int):Le (g63 a0 a1) (f63 a0 a1):=by
 rw [g63,f63]
 infer_instance
def g102 (a0:List Int) (a1:Int) (a2:Int):Option (ByteArray×Int×Int):=((g99 a0 a1).bind fun x1=>(if x1.2.2=0 then (if a2<0 then some (⟨#[]⟩,0,5) else (if (IntKind.u64.wrap a2)<x1.1 then some (⟨#[]⟩,0,5) else (if (IntKind.u64.wrap (IntKind.i64.wrap ((a0.length:Int)-x1.2.1)))<x1.1 then some (⟨#[]⟩,0,2) else ((Dl a0 x1.2.1 (IntKind.i64.wrap (x1.2.1+(IntKind.i64.wrap x1.1)))).bind fun x10=>some (strOfNums x10,IntKind.i64.wrap (x1.2.1+(IntKind.i64.wrap x1.1)),0))))) else some (⟨#[]⟩,0,x1.2.2)))
instance mf102 (a0:List Int) (a1:Int) (a2:Int):Le (g102 a0 a1 a2) (f102 a0 a1 a2):=by
 rw [g102,f102]
 infer_instance
def g101_s1 (a0:List Int) (a2:Int) (x1:Int×Int×Int):Int×(List ByteArray)×Int→Option ((Int×(List ByteArray)×Int)⊕(((List ByteArray)×Int×Int)⊕(Int×(List ByteArray))))
 | (s1_0,s1_1,s1_2)=>(if s1_2<(IntKind.i64.wrap ((IntKind.i64.wrap x1.1)*a2)) then ((g102 a0 s1_0 65536).bind fun x17=>(if x17.2.2=0 then ((Bq s1_1 [x17.1]).bind fun x19=>some (.inl (x17.2.1,x19,IntKind.i64.wrap (s1_2+1)))) else some (.inr (.inl ([],0,x17.2.2))))) else some (.inr (.inr (s1_0,s1_1))))
instance mf101_s1 (a0:List Int) (a2:Int) (x1:Int×Int×Int) (s):Le (g101_s1 a0 a2 x1 s) (Hq a0 a2 x1 s):=by
 obtain ⟨s1_0,s1_1,s1_2⟩:=s
 rw [g101_s1,Hq]
 infer_instance
def g101 (a0:List Int) (a1:Int) (a2:Int):Option ((List ByteArray)×Int×Int):=((g99 a0 a1).bind fun x1=>(if x1.2.2=0 then (if 65536<x1.1 then some ([],0,9) else ((Od (g101_s1 a0 a2 x1) (x1.2.1,[],0)).bind fun y20=>match y20 with|.inl y21=>some y21|.inr (y22,y23)=>some (y23,y22,0))) else some ([],0,x1.2.2)))
instance mf101 (a0:List Int) (a1:Int) (a2:Int):Le (g101 a0 a1 a2) (f101 a0 a1 a2):=by
 rw [g101,f101]
 infer_instance
def g64 (a0:List Int) (a1:Int):Option ((List Pair)×Int×Int):=((g101 a0 a1 2).bind fun x1=>((Od (Mz x1) ([],0)).bind fun y17=>some (y17,x1.2.1,x1.2.2)))
instance mf64 (a0:List Int) (a1:Int):Le (g64 a0 a1) (f64 a0 a1):=by
 rw [g64,f64]
 infer_instance
def g65_s1 (a0:List Pair):Int→Option (Int⊕(Bool⊕Unit))
 | s1_0=>(if s1_0<(a0.length:Int) then ((ix a0 (IntKind.i64.wrap (s1_0-1))).bind fun x15=>((ix a0 s1_0).bind fun x16=>((g67 x15.Key x16.Key).bind fun x17=>(if x17=true then some (.inl (IntKind.i64.wrap (s1_0+1))) else some (.inr (.inl false)))))) else some (.inr (.inr ())))
instance mf65_s1 (a0:List Pair) (s1_0):Le (g65_s1 a0 s1_0) (Sq a0 s1_0):=by
 rw [g65_s1,Sq]
 infer_instance
def g65 (a0:List Pair):Option Bool:=((Od (g65_s1 a0) 1).bind fun y19=>match y19 with|.inl y20=>some y20|.inr _=>some true)
instance mf65 (a0:List Pair):Le (g65 a0) (f65 a0):=by
 rw [g65,f65]
 infer_instance
def Yf (a0:List Int) (x1:Int×Int×Int) (s1_0:List Int) (s1_1:Int) (s1_2:Int):Int→Option (((List Int)×Int×Int)⊕(((List Int)×Int×Int)⊕(Int×(List Int))))
 | j7_0=>(if (x1.1.tmod 2)=0 then ((g99 a0 s1_1).bind fun x61=>(if x61.2.2=0 then Hn s1_0 s1_2 (x61.2.1,x61.1) else some (.inr (.inl ([],0,x61.2.2))))) else Hn s1_0 s1_2 (s1_1,j7_0))
instance mf128_j7 (a0:List Int) (x1:Int×Int×Int) (s1_0:List Int) (s1_1:Int) (s1_2:Int) (j7_0):Le (Yf a0 x1 s1_0 s1_1 s1_2 j7_0) (Ho a0 x1 s1_0 s1_1 s1_2 j7_0):=by
 rw [Yf,Ho]
 infer_instance
def g128_s1 (a0:List Int) (x1:Int×Int×Int) (j1_1:Int) (j1_2:Int):(List Int)×Int×Int→Option (((List Int)×Int×Int)⊕(((List Int)×Int×Int)⊕(Int×(List Int))))
 | (s1_0,s1_1,s1_2)=>(if s1_2<(IntKind.i64.wrap (IntKind.u64.wrap (x1.1.tdiv 2))) then (if s1_2=0 then Yf a0 x1 s1_0 s1_1 s1_2 j1_1 else Yf a0 x1 s1_0 s1_1 s1_2 j1_2) else some (.inr (.inr (s1_1,s1_0))))
instance mf128_s1 (a0:List Int) (x1:Int×Int×Int) (j1_1:Int) (j1_2:Int) (s):Le (g128_s1 a0 x1 j1_1 j1_2 s) (Fa a0 x1 j1_1 j1_2 s):=by
 obtain ⟨s1_0,s1_1,s1_2⟩:=s
 rw [g128_s1,Fa]
 infer_instance
def Yg (a0:List Int) (a2:List Int) (x1:Int×Int×Int):Int×Int×Int→Option ((List Int)×Int×Int)
 | (j1_0,j1_1,j1_2)=>((Od (g128_s1 a0 x1 j1_1 j1_2) (a2,j1_0,0)).bind fun y64=>match y64 with|.inl y65=>some y65|.inr (y66,y67)=>some (y67,y66,0))
instance mf128_j1 (a0:List Int) (a2:List Int) (x1:Int×Int×Int) (s):Le (Yg a0 a2 x1 s) (Hp a0 a2 x1 s):=by
 obtain ⟨j1_0,j1_1,j1_2⟩:=s
 rw [Yg,Hp]
 infer_instance
def g128 (a0:List Int) (a1:Int) (a2:List Int):Option ((List Int)×Int×Int):=((g99 a0 a1).bind fun x1=>(if x1.2.2=0 then (if 65536<(IntKind.u64.wrap (x1.1.tdiv 2)) then some ([],0,9) else (if (x1.1.tmod 2)=1 then ((g99 a0 x1.2.1).bind fun x69=>(if x69.2.2=0 then ((g99 a0 x69.2.1).bind fun x72=>(if x72.2.2=0 then Yg a0 a2 x1 (x72.2.1,x69.1,x72.1) else some ([],0,x72.2.2))) else some ([],0,x69.2.2))) else Yg a0 a2 x1 (x1.2.1,0,0))) else some ([],0,x1.2.2)))
instance mf128 (a0:List Int) (a1:Int) (a2:List Int):Le (g128 a0 a1 a2) (f128 a0 a1 a2):=by
 rw [g128,f128]
 infer_instance
def g103_s2 (a0:List Int) (x1:Int×Int×Int):Int×(List Int)×Int→Option ((Int×(List Int)×Int)⊕(((List Int)×Int)⊕(Int×(List Int))))
 | (s2_0,s2_1,s2_2)=>(if s2_2<x1.1 then ((g128 a0 s2_0 s2_1).bind fun x26=>(if x26.2.2=0 then some (.inl (x26.2.1,x26.1,IntKind.u64.wrap (s2_2+1))) else some (.inr (.inl ([],x26.2.2))))) else some (.inr (.inr (s2_0,s2_1))))
instance mf103_s2 (a0:List Int) (x1:Int×Int×Int) (s):Le (g103_s2 a0 x1 s) (Ms a0 x1 s):=by
 obtain ⟨s2_0,s2_1,s2_2⟩:=s
 rw [g103_s2,Ms]
 infer_instance
def g103 (a0:List Int):Option ((List Int)×Int):=((g99 a0 0).bind fun x1=>(if x1.2.2=0 then ((Od (g103_s2 a0 x1) (x1.2.1,[],0)).bind fun y28=>match y28 with|.inl y29=>some y29|.inr (y30,y31)=>(if y30<(a0.length:Int) then some ([],3) else ((g52 y31).bind fun x33=>(if (strOfNums x33)=(strOfNums a0) then some (y31,0) else some ([],3))))) else some ([],x1.2.2)))
instance mf103 (a0:List Int):Le (g103 a0) (f103 a0):=by
 rw [g103,f103]
 repeat' (first|infer_instance|refine @Le.bind _ _ _ _ _ _ ?_ fun _=>?_|refine @Le.ite _ _ _ _ _ _ _ ?_ ?_|(rename_i y;rcases y with _|_<;>dsimp only))
def g66_s2 (a0:List Int) (x1:Int×Int×Int):Int×(List Res)×Int→Option ((Int×(List Res)×Int)⊕(((List Res)×Int)⊕(Int×(List Res))))
 | (s2_0,s2_1,s2_2)=>(if s2_2<(IntKind.i64.wrap x1.1) then ((g102 a0 s2_0 65536).bind fun x58=>(if x58.2.2=0 then ((g102 a0 x58.2.1 65536).bind fun x61=>(if x61.2.2=0 then ((g103 (Eh x61.1)).bind fun x64=>(if x64.2=0 then ((Bq s2_1 [⟨x58.1,⟨#[]⟩,x64.1⟩]).bind fun x67=>some (.inl (x61.2.1,x67,IntKind.i64.wrap (s2_2+1)))) else some (.inr (.inl ([],x64.2))))) else some (.inr (.inl ([],x61.2.2))))) else some (.inr (.inl ([],x58.2.2))))) else some (.inr (.inr (s2_0,s2_1))))
instance mf66_s2 (a0:List Int) (x1:Int×Int×Int) (s):Le (g66_s2 a0 x1 s) (My a0 x1 s):=by
 obtain ⟨s2_0,s2_1,s2_2⟩:=s
 rw [g66_s2,My]
 infer_instance
def g66 (a0:List Int):Option ((List Res)×Int):=((g99 a0 0).bind fun x1=>(if x1.2.2=0 then (if 65536<x1.1 then some ([],9) else ((Od (g66_s2 a0 x1) (x1.2.1,[],0)).bind fun y68=>match y68 with|.inl y69=>some y69|.inr (y70,y71)=>(if y70<(a0.length:Int) then some ([],3) else ((g38 y71).bind fun x73=>(if x73=true then some (y71,0) else some ([],3)))))) else some ([],x1.2.2)))
instance mf66 (a0:List Int):Le (g66 a0) (f66 a0):=by
 rw [g66,f66]
 repeat' (first|infer_instance|refine @Le.bind _ _ _ _ _ _ ?_ fun _=>?_|refine @Le.ite _ _ _ _ _ _ _ ?_ ?_|(rename_i y;rcases y with _|_<;>dsimp only))
def g36 (a0:List Int) (a1:List Int):Option ((List Res)×Int):=((g63 a0 0).bind fun x1=>(if x1.2.2=0 then (if x1.2.1<(a0.length:Int) then some ([],3) else ((g64 x1.1 0).bind fun x6=>(if x6.2.2=0 then (if x6.2.1<(x1.1.length:Int) then some ([],3) else ((g65 x6.1).bind fun x13=>(if x13=true then ((g63 a1 0).bind fun x15=>(if x15.2.2=0 then (if x15.2.1<(a1.length:Int) then some ([],3) else ((g66 x15.1).bind fun x20=>(if x20.2=0 then (if ((x6.1.length:Nat):Int)=((x20.1.length:Nat):Int) then ((Od (Na x6) (x20.1,0)).bind fun y40=>match y40 with|.inl y41=>some y41|.inr y42=>some (y42,0)) else some ([],3)) else some ([],x20.2)))) else some ([],x15.2.2))) else some ([],3)))) else some ([],x6.2.2)))) else some ([],x1.2.2)))
instance mf36 (a0:List Int) (a1:List Int):Le (g36 a0 a1) (f36 a0 a1):=by
 rw [g36,f36]
 repeat' (first|infer_instance|refine @Le.bind _ _ _ _ _ _ ?_ fun _=>?_|refine @Le.ite _ _ _ _ _ _ _ ?_ ?_|(rename_i y;rcases y with _|_<;>dsimp only))
def g9_s2 (a0:List (A2 (List Int))):(List (List Res))×Int→Option (((List (List Res))×Int)⊕(((List Res)×Int×ByteArray×Int)⊕(List (List Res))))
 | (s2_0,s2_1)=>(if s2_1<(a0.length:Int) then ((ix a0 s2_1).bind fun x28=>((g36 x28.e0 x28.e1).bind fun x29=>(if x29.2=0 then ((Bq s2_0 [x29.1]).bind fun x31=>some (.inl (x31,IntKind.i64.wrap (s2_1+1)))) else some (.inr (.inl ([],x29.2,⟨#[112,97,114,116]⟩,s2_1)))))) else some (.inr (.inr s2_0)))
instance mf9_s2 (a0:List (A2 (List Int))) (s):Le (g9_s2 a0 s) (Ry a0 s):=by
 obtain ⟨s2_0,s2_1⟩:=s
 rw [g9_s2,Ry]
 infer_instance
def g20 (a0:List Record) (a1:Int):Option (Int×Bool):=((Od (Sw a0 a1) 0).bind fun y13=>match y13 with|.inl y14=>some y14|.inr _=>some (0,false))
instance mf20 (a0:List Record) (a1:Int):Le (g20 a0 a1) (f20 a0 a1):=by
 rw [g20,f20]
 infer_instance
def g9_s6 (x35:(List Record)×Int×Int) (x38:(List Res)) (s3_0:Int):Int→Option (Int⊕(((List Res)×Int×ByteArray×Int)⊕Unit))
 | s6_0=>((ix x38 s3_0).bind fun x97=>(if s6_0<(x97.Offs.length:Int) then ((ix x97.Offs s6_0).bind fun x99=>((g20 x35.1 x99).bind fun x100=>(if x100.2=true then some (.inl (IntKind.i64.wrap (s6_0+1))) else some (.inr (.inl ([],320,⟨#[107,101,121]⟩,s3_0)))))) else some (.inr (.inr ()))))
instance mf9_s6 (x35:(List Record)×Int×Int) (x38:(List Res)) (s3_0:Int) (s6_0):Le (g9_s6 x35 x38 s3_0 s6_0) (Rx x35 x38 s3_0 s6_0):=by
 rw [g9_s6,Rx]
 infer_instance
def g9_s3 (x35:(List Record)×Int×Int) (x38:(List Res)):Int→Option (Int⊕(((List Res)×Int×ByteArray×Int)⊕Unit))
 | s3_0=>(if s3_0<((x38.length:Nat):Int) then ((Od (g9_s6 x35 x38 s3_0) 0).bind fun y102=>match y102 with|.inl y103=>some (.inr (.inl y103))|.inr _=>some (.inl (IntKind.i64.wrap (s3_0+1)))) else some (.inr (.inr ())))
instance mf9_s3 (x35:(List Record)×Int×Int) (x38:(List Res)) (s3_0):Le (g9_s3 x35 x38 s3_0) (Tw x35 x38 s3_0):=by
 rw [g9_s3,Tw]
 infer_instance
def g9 (a0:List (A2 (List Int))) (a1:List Int):Option ((List Res)×Int×ByteArray×Int):=((Od (g9_s2 a0) ([],0)).bind fun y32=>match y32 with|.inl y33=>some y33|.inr y34=>((g15 a1).bind fun x35=>(if x35.2.2=0 then ((g37 y34).bind fun x38=>((g38 x38).bind fun x41=>(if x41=true then ((Od (g9_s3 x35 x38) 0).bind fun y104=>match y104 with|.inl y105=>some y105|.inr _=>some (x38,0,⟨#[]⟩,0)) else some ([],3,⟨#[106,111,105,110]⟩,0)))) else some ([],x35.2.2,⟨#[105,110,112,117,116]⟩,0))))
instance mf9 (a0:List (A2 (List Int))) (a1:List Int):Le (g9 a0 a1) (f9 a0 a1):=by
 rw [g9,f9]
 repeat' (first|infer_instance|refine @Le.bind _ _ _ _ _ _ ?_ fun _=>?_|refine @Le.ite _ _ _ _ _ _ _ ?_ ?_|(rename_i y;rcases y with _|_<;>dsimp only))
def g107 (a0:List Int) (a1:Int):Option Int:=((Od (Ov a0 a1) 0).bind fun y16=>match y16 with|.inl y17=>some y17|.inr _=>some (-1))
instance mf107 (a0:List Int) (a1:Int):Le (g107 a0 a1) (f107 a0 a1):=by
 rw [g107,f107]
 infer_instance
def g77 (a0:List Int) (a1:Int):Option Bool:=((g107 a0 a1).bind fun x1=>some (decide (0≤x1)))
instance mf77 (a0:List Int) (a1:Int):Le (g77 a0 a1) (f77 a0 a1):=by
 rw [g77,f77]
 infer_instance
def g47_s1 (a0:List Res) (a1:Int):(List ByteArray)×Int→Option (((List ByteArray)×Int)⊕(List ByteArray))
 | (s1_0,s1_1)=>(if s1_1<(a0.length:Int) then ((ix a0 s1_1).bind fun x17=>((g77 x17.Offs a1).bind fun x18=>(if x18=true then ((Bq s1_0 [x17.Key]).bind fun x20=>some (.inl (x20,IntKind.i64.wrap (s1_1+1)))) else some (.inl (s1_0,IntKind.i64.wrap (s1_1+1)))))) else some (.inr s1_0))
instance mf47_s1 (a0:List Res) (a1:Int) (s):Le (g47_s1 a0 a1 s) (Oj a0 a1 s):=by
 obtain ⟨s1_0,s1_1⟩:=s
 rw [g47_s1,Oj]
 infer_instance
def g47 (a0:List Res) (a1:Int):Option (List ByteArray):=((Od (g47_s1 a0 a1) ([],0)).bind fun y22=>some y22)
instance mf47 (a0:List Res) (a1:Int):Le (g47 a0 a1) (f47 a0 a1):=by
 rw [g47,f47]
 infer_instance
def g45 (a0:List Res) (a1:ByteArray):Option (Res×Bool):=((Od (Ss a0 a1) 0).bind fun y19=>match y19 with|.inl y20=>some y20|.inr _=>some (⟨⟨#[]⟩,⟨#[]⟩,[]⟩,false))
instance mf45 (a0:List Res) (a1:ByteArray):Le (g45 a0 a1) (f45 a0 a1):=by
 rw [g45,f45]
 infer_instance
def g46 (a0:List Res) (a1:ByteArray):Option (List Int):=((g45 a0 a1).bind fun x1=>some x1.1.Offs)
instance mf46 (a0:List Res) (a1:ByteArray):Le (g46 a0 a1) (f46 a0 a1):=by
 rw [g46,f46]
 infer_instance
def g21 (a0:List Int) (a1:List Int):Option Bool:=(if (a0.length:Int)=(a1.length:Int) then ((Od (f21_s1 a0 a1) 0).bind fun y18=>match y18 with|.inl y19=>some y19|.inr _=>some true) else some false)
instance mf21 (a0:List Int) (a1:List Int):Le (g21 a0 a1) (f21 a0 a1):=by
 rw [g21,f21]
 infer_instance
def g22 (a0:List ByteArray) (a1:List ByteArray):Option Bool:=(if (a0.length:Int)=(a1.length:Int) then ((Od (f22_s1 a0 a1) 0).bind fun y18=>match y18 with|.inl y19=>some y19|.inr _=>some true) else some false)
instance mf22 (a0:List ByteArray) (a1:List ByteArray):Le (g22 a0 a1) (f22 a0 a1):=by
 rw [g22,f22]
 infer_instance
end Au
end Go.Proofs.Yt
namespace Go.Gm
theorem oper_normN {P:Program} {o:Oper} {a:Act} {w:World} {K K' R:Act→World→Prop} {Q:Exit→Act→World→Prop} (hk:∀a w,K a w→K' a w)
    (h:o.wp P a w K (fun e a w=>e=.normal∧R a w)):o.wp P a w K' Q:=by
  unfold Oper.wp at *
  generalize (execOp a.eval o).run P w=r at *
  cases r with
  | ok n w' =>
    cases n<;>simp only [Oper.upon] at h ⊢ <;>
      first
        | exact hk _ _ h
        | exact Calls.mono h (fun e w'' he=>by
            cases e with
            | returned v=>exact hk _ _ he
            | panicked ch=>exact absurd he.1 (by simp)
            | outgrown=>obtain ⟨a,w,h,_⟩:=he;cases h)
        | exact Rows.mono h (fun _ _ he=>hk _ _ he)
  | halt x w'=>cases x<;>simp only [Oper.upon] at h ⊢ <;> first|exact absurd h.1 (by simp)|exact h
theorem oper_normI {F:Fence} {n:Nat} {P:Program} {o:Oper} {a:Act} {w:World} {K K' R:Act→World→Prop} {Q:Exit→Act→World→Prop} (hk:∀a w,K a w→K' a w)
    (h:o.wpIn F n P a w K (fun e a w=>e=.normal∧R a w)):o.wpIn F n P a w K' Q:=by
  unfold Oper.wpIn at *
  refine ⟨h.1,?_⟩
  have h:=h.2
  generalize (o.semAt F.round a.eval).run P w=r at *
  cases r with
  | ok x w' =>
    cases x<;>first
      | exact hk _ _ h
      | exact h.elim
      | exact ⟨h.1,RowsIn.mono h.2 fun _ _ he=>hk _ _ he⟩
      | exact ⟨h.1,CallsIn.mono h.2 fun e w' he=>match e,he with
          | .returned _,he=>hk _ _ he
          | .panicked _,he=>absurd he.1 (by simp)
          | .outgrown,he=>absurd he.choose_spec.choose_spec.1 (by simp)⟩
      | exact ⟨h.1,RoundIn.mono h.2 fun e w' he=>match e,he with
          | .returned _,he=>hk _ _ he
          | .panicked _,he=>absurd he.1 (by simp)
          | .outgrown,he=>absurd he.choose_spec.choose_spec.1 (by simp)⟩
  | halt x w'=>cases x<;>first|exact absurd h.1 (by simp)|exact h.elim
theorem Mv {P:Program} {ops:Array Oper} {K:Act→World→Prop} {Q:Exit→Act→World→Prop} {rest:List Oper} (hk:∀a w,K a w→wpList P ops Q rest a w) :
    ∀(pre:List Oper) (a:Act) (w:World),wpList P ops (fun e a w=>e=.normal∧K a w) pre a w→wpList P ops Q (pre++rest) a w
  | [],a,w,h=>hk a w h.2
  | o::L,a,w,h=>by
    have hl:¬LetsOut (fun e (a:Act) (w:World)=>e=Exit.normal∧K a w):=by rintro ⟨_,_,h,_⟩;cases h
    show wpList P ops Q (o::(L++rest)) a w
    unfold wpList at h ⊢
    split
    · rename_i hw
      rw [if_pos hw] at h
      rcases h with h|h
      · exact .inl (oper_normN (fun a w h=>Mv hk L a w h) h)
      · exact absurd h.2 hl
    · rename_i hw
      rw [if_neg hw] at h
      exact Mv hk L _ _ h
theorem Kx {F:Fence} {n:Nat} {P:Program} {ops:Array Oper} {K:Act→World→Prop} {Q:Exit→Act→World→Prop} {rest:List Oper} (hk:∀a w,K a w→wpListIn F n P ops Q rest a w) :
    ∀(pre:List Oper) (a:Act) (w:World),wpListIn F n P ops (fun e a w=>e=.normal∧K a w) pre a w→wpListIn F n P ops Q (pre++rest) a w
  | [],a,w,h=>hk a w h.2
  | o::L,a,w,h=>by
    show wpListIn F n P ops Q (o::(L++rest)) a w
    unfold wpListIn at h ⊢
    split
    · rename_i hw
      rw [if_pos hw] at h
      exact oper_normI (fun a w h=>Kx hk L a w h) h
    · rename_i hw
      rw [if_neg hw] at h
      exact ⟨h.1,Kx hk L _ _ h.2⟩
theorem WL.append {md:Option (Nat×Nat)} {P:Program} {ops:Array Oper} {K:Act→World→Prop} {Q:Exit→Act→World→Prop} {pre rest:List Oper} {a:Act} {w:World} (hk:∀a w,K a w→WL md P ops Q rest a w)
    (h:WL md P ops (fun e a w=>e=.normal∧K a w) pre a w):WL md P ops Q (pre++rest) a w:=by
  cases md with
  | none=>exact Mv hk _ _ _ h
  | some x=>exact Kx hk _ _ _ h
theorem AW.regS {P:Program} {N id:Nat} {y:Code} {Q:Exit→ASt→Prop} {st:ASt} {ops:List Oper} (k:Nat) (l:List Nat)
    (h:Co P N ops (ops.take k) st (fun s1=>∃s2,Ent N s1 s2∧Co P N ops (ops.drop k) s2 (fun s3=>AW P N y Q ⟨restr s3.fr l,s3.hp,s3.nx⟩))):AW P N (.seq (.region id ops.toArray false) y) Q st :=
  AW.seq fun md G a w hc=>WP.list (by
    show WL md P ops.toArray _ ops a w
    have hs:∀L,L=ops.take k++ops.drop k→WL md P ops.toArray (fun e a' w'=>∃st',Kj (AW P N y Q) Q e st'∧Kz G N st' a' w') L a w:=by
      rintro L rfl
      refine WL.append (K:=fun a w=>∃s1,(∃s2,Ent N s1 s2∧Co P N ops (ops.drop k) s2 (fun s3=>AW P N y Q ⟨restr s3.fr l,s3.hp,s3.nx⟩))∧Kz G N s1 a w) ?_ (Iq (fun s a w hq hc=>⟨rfl,s,hq,hc⟩) hc h)
      rintro a1 w1 ⟨s1,⟨s2,hE,hr⟩,hc1⟩
      exact Iq (fun s a w hq hc=>⟨_,hq,Ent.restr l P G a w hc⟩) (hE P G a1 w1 hc1) hr
    exact hs ops (List.take_append_drop k ops).symm)
end Go.Gm
namespace Go.Gm
open Go.RowKit
theorem Mem.grow {P:Program} {G:Ghost P} {hp:Am} {al:Nat→Prop} {loc:Nat→Option Loc} {w w':World} (h:Mem G hp al loc w) (hb:Below w.heap.size w w') :
    Mem G hp al loc w'∧Ext (Bv G.m1 hp al loc w) (Bv G.m1 hp al loc w'):=by
  have x:Ext (Bv G.m1 hp al loc w) (Bv G.m1 hp al loc w'):=Fh (fun _ h=>h) (fun _ _ _ h=>h) hb.size (fun b _ hc=>hc) (fun b hlt _=>hb.block b hlt)
  exact ⟨h.change x (fun t o ho=>.inl ⟨ho,rfl,fun l hl hlt=>hb.block _ (h.lt hl hlt)⟩) h.none_ h.al_ h.inj hb.os hb.tape hb.output (fun b hb=>.inl hb) (fun t l h1 h2=>.inl ⟨t,l,h1,h2,rfl⟩),x⟩
theorem ic_put1 {P:Program} {f:FuncId} {T:TypeId} {x v v' r:Value} {Z:World→Prop} (hv':v'.oneCell'=true) (hZ:∀m w,TabH P m w→Z w)
    (h:∀(w:World) (b o:Nat),w.cell? ⟨b,o,none⟩=some v→w.frozen? ⟨b,o,none⟩=false→Z w →
      Calls P f #[x,.iface T (.pointer (some ⟨b,o,none⟩))] w fun e w'=>e=.returned r∧Below w.heap.size (w.setCell ⟨b,o,none⟩ v') w') :
    IC P f [some (.row 1 true [[.val v]])] [.val x,.ifc T (.ptr 0 0 0)] (.val r) [some (.row 1 true [[.val v']])] []:=by
  intro m w loc vs hm h8 ht hM hus
  obtain ⟨l,hl,g1,g2,g3,g4,g5,g6⟩:=hM.obj 0 (.row 1 true [[.val v]]) rfl
  have hlt:l.st<l.n:=by simp at g4;omega
  obtain ⟨c,e,fz,us,k1,k2,k3,k4,k5,k6⟩:=g6 hlt
  have hus':us=[v]:=by
    cases k3 with
    | cons a b=>cases a;cases b;rfl
  subst hus'
  have hk1:w.heap[l.b]?=some (.cells c e fz):=by simpa [Bv] using k1
  have hcell:w.cell? ⟨l.b,l.st,none⟩=some v:=by
    have:=k5 0 v rfl
    simpa [World.cell?,hk1] using this
  have hfz:w.frozen? ⟨l.b,l.st,none⟩=false:=by
    have:=k6 l.st (.inl hlt)
    obtain ⟨lo,hi⟩:=fz
    simp only [World.frozen?,hk1]
    simp only [Bool.and_eq_false_iff,decide_eq_false_iff_not]
    by_cases h1:lo≤l.st
    · right;intro h2;exact this ⟨h1,h2⟩
    · left;exact h1
  have hvs:vs=[x,.iface T (.pointer (some ⟨l.b,l.st,none⟩))]:=by
    cases hus with
    | cons a b =>
      cases a
      cases b with
      | cons a b =>
        cases b
        cases a with
        | ifc hp =>
          cases hp with
          | ptr ha hh =>
            have:=hh l hl
            rw [this];simp
  subst hvs
  refine (h w l.b l.st hcell hfz (hZ _ _ ht)).mono ?_
  rintro e' w' ⟨rfl,hb⟩
  have hlb:l.b<w.heap.size:=(Array.getElem?_eq_some_iff.1 hk1).1
  have hset:(w.setCell ⟨l.b,l.st,none⟩ v').heap[l.b]?=some (.cells (c.setIfInBounds l.st v') e fz):=by
    simp [World.setCell,Array.getElem?_modify,hk1]
  obtain ⟨hM1,x1⟩:=hM.write (t:=0) (ob:=.row 1 true [[.val v]]) (ob':=.row 1 true [[.val v']]) (l:=l) rfl rfl rfl hl hlt (w':=w.setCell ⟨l.b,l.st,none⟩ v') (by simp [World.setCell])
    (fun b hb=>by
      simp only [World.setCell,Array.getElem?_modify]
      rw [if_neg (fun e=>hb e.symm)]) rfl rfl rfl
    (fun _=>⟨g1,g2,by simp,by simpa using g4,g5,fun _=>⟨c.setIfInBounds l.st v',e,fz,[v'],by simpa [Bv] using hset,by simpa using k2,.cons (.val _) .nil,by simpa using hv',fun k u hk=>by
      cases k with
      | zero=>simp at hk;subst hk;simp [k2,hlt]
      | succ k=>simp at hk,k6⟩⟩)
  obtain ⟨hM2,x2⟩:=hM1.grow (w':=w') (by simpa [World.setCell] using hb)
  have hhp:Ag (Bo [some (.row 1 true [[.val v]])] []) 0 (some (.row 1 true [[.val v']]))=Bo [some (.row 1 true [[.val v']])] []:=by
    funext t
    by_cases e0:t=0
    · subst e0;rfl
    · rw [An _ _ e0]
      cases t with
      | zero=>exact absurd rfl e0
      | succ t=>simp [Bo]
  rw [hhp] at hM2
  exact ⟨r,loc,rfl,hM2,.val _⟩
end Go.Gm
namespace Go.Proofs
open Go.RowKit Go.Extern.Stop Go.Stop Go.Extern
theorem Uq (t:TypeId) (p:Option Addr) (w:World) (ht:t=88∨t=40):(ReflectliteValue.unpack (.iface t (.pointer p))).run Tryz.prog w=.ok (.agg #[.pointer (some ⟨2,t,none⟩),.pointer (some ⟨w.heap.size,0,none⟩),.int .u64 150]) (w.alloc (.cells #[.pointer p] t (0,0))):=by
  rcases ht with rfl|rfl<;>kernel_rfl
theorem Ur (n:Int) (w:World):(ReflectliteValue.unpack (.iface 35 (.int .i64 n))).run Tryz.prog w=.ok (.agg #[.pointer (some ⟨2,35,none⟩),.pointer (some ⟨w.heap.size,0,none⟩),.int .u64 130]) (w.alloc (.cells #[.int .i64 n] 35 (0,0))):=by kernel_rfl
def tyOf := (ReflectliteValue.methodAny (ReflectliteValue.valueError "reflectlite.Value.Type" 0) fun t _ _ _ => ReflectliteType.toType t)
theorem Tryz.typeV (t:TypeId) (a:Addr) (w:World) (ht:t=88∨t=40):(tyOf #[.agg #[.pointer (some ⟨2,t,none⟩),.pointer (some a),.int .u64 150]]).run Tryz.prog w=.ok (.iface 137 (.agg #[.pointer (some ⟨2,t,none⟩)])) w:=by
  rcases ht with rfl|rfl<;>kernel_rfl
theorem Tryz.mKind (v : Value) (w : World) : (Go.method 390 137 (.agg #[v]) "Kind").run Tryz.prog w = .ok (195, v) w := by kernel_rfl
theorem Tryz.mElem (v : Value) (w : World) : (Go.method 390 137 v "Elem").run Tryz.prog w = .ok (207, v) w := by kernel_rfl
theorem Tryz.mImpl (v : Value) (w : World) : (Go.method 390 137 v "Implements").run Tryz.prog w = .ok (208, v) w := by kernel_rfl
theorem Tryz.mAsgn (v : Value) (w : World) : (Go.method 390 137 v "AssignableTo").run Tryz.prog w = .ok (205, v) w := by kernel_rfl
theorem Tryz.mUnw (v : Value) (w : World) : (Go.method 390 38 v "Unwrap").run Tryz.prog w = .ok (200, v) w := by kernel_rfl
def kindM:=ReflectliteType.abiMethod fun t=>do pure (.int .u8 (←Rtype.kind t))
theorem Tryz.kindP (t:TypeId) (w:World) (ht:t=88∨t=40):(kindM #[.pointer (some ⟨2,t,none⟩)]).run Tryz.prog w=.ok (.int .u8 22) w:=by
  rcases ht with rfl|rfl<;>kernel_rfl
theorem Tryz.kindN (w:World):(kindM #[.pointer (some ⟨2,35,none⟩)]).run Tryz.prog w=.ok (.int .u8 2) w:=by kernel_rfl
def elemM:=ReflectliteType.method ReflectliteType.elem
theorem Tryz.elemN (w:World):(elemM #[.agg #[.pointer (some ⟨2,88,none⟩)]]).run Tryz.prog w=.ok (.iface 137 (.agg #[.pointer (some ⟨2,35,none⟩)])) w:=by kernel_rfl
def implM := ReflectliteType.relation "Implements" ReflectliteType.implements_
theorem Tryz.implN (w:World):(implM #[.agg #[.pointer (some ⟨2,35,none⟩)],.iface 137 (.agg #[.pointer (some ⟨2,28,none⟩)])]).run Tryz.prog w=.ok (.bool true) w:=by kernel_rfl
def asgnM := ReflectliteType.relation "AssignableTo" ReflectliteType.assignableTo
theorem Xf (w:World):(asgnM #[.agg #[.pointer (some ⟨2,35,none⟩)],.iface 137 (.agg #[.pointer (some ⟨2,35,none⟩)])]).run Tryz.prog w=.ok (.bool true) w:=by kernel_rfl
theorem Tryz.asgnSN (w:World):(asgnM #[.agg #[.pointer (some ⟨2,38,none⟩)],.iface 137 (.agg #[.pointer (some ⟨2,35,none⟩)])]).run Tryz.prog w=.ok (.bool false) w:=by kernel_rfl
theorem Tryz.tyofN (v:Value) (w:World):(ReflectliteType.typeOf #[.iface 35 v]).run Tryz.prog w=.ok (.iface 137 (.agg #[.pointer (some ⟨2,35,none⟩)])) w:=by kernel_rfl
theorem Tryz.tyofS (v:Value) (w:World):(ReflectliteType.typeOf #[.iface 38 v]).run Tryz.prog w=.ok (.iface 137 (.agg #[.pointer (some ⟨2,38,none⟩)])) w:=by kernel_rfl
def isNilM := ReflectliteValue.method (ReflectliteValue.valueError "reflectlite.Value.IsNil" 0) ReflectliteValue.isNil
theorem Sa (t:TypeId) (a:Addr) (w:World) (ht:t=88∨t=40):(ReflectliteValue.parts (.agg #[.pointer (some ⟨2,t,none⟩),.pointer (some a),.int .u64 150])).run Tryz.prog w=.ok (some (t,a,150)) w:=by
  rcases ht with rfl|rfl<;>kernel_rfl
theorem Xc (a:Addr) (f:Nat) (w:World) (hf:f=130∨f=386):(ReflectliteValue.parts (.agg #[.pointer (some ⟨2,35,none⟩),.pointer (some a),.int .u64 f])).run Tryz.prog w=.ok (some (35,a,f)) w:=by
  rcases hf with rfl|rfl<;>kernel_rfl
theorem Tryz.isAggP (t:TypeId) (ht:t=88∨t=40∨t=35) (w:World):(isAgg t).run Tryz.prog w=.ok false w:=by
  rcases ht with rfl|rfl|rfl<;>kernel_rfl
theorem Tryz.isAggS (w:World):(isAgg 38).run Tryz.prog w=.ok true w:=by kernel_rfl
theorem Tryz.sizeS (w:World):(sizeOf 38).run Tryz.prog w=.ok 3 w:=by kernel_rfl
theorem Tryz.sizeN (w:World):(sizeOf 35).run Tryz.prog w=.ok 1 w:=by kernel_rfl
theorem Tryz.elemQ (t:TypeId) (w:World) (ht:t=88∨t=40):(Rtype.elem? t).run Tryz.prog w=.ok (some (if t=88 then 35 else 38)) w:=by
  rcases ht with rfl|rfl<;>kernel_rfl
end Go.Proofs
namespace Go.Proofs
open Go.RowKit Go.Extern.Stop Go.Stop Go.Extern
theorem method1 (z:Sem Value) (f:TypeId→Addr→Nat→Nat→Sem Value) (v:Value):ReflectliteValue.method z f #[v]=(do match ←ReflectliteValue.parts v with|none=>z|some (t,a,fl)=>f t a fl (fl % 32)):=rfl
theorem set2 (v x:Value):ReflectliteValue.set #[v,x]=(do
    let (some (dst,a,fl),some (src,b,_)):=(←ReflectliteValue.parts v,←ReflectliteValue.parts x)
      | unsupported (.noEntry "extern/(internal/reflectlite.Value).Set.zeroValue")
    if fl / ReflectliteValue.flagAddr % 2 == 0 then unsupported (.noEntry "extern/(internal/reflectlite.Value).Set.unaddressable")
    let val ←loadVar src b
    if ←Rtype.directlyAssignable dst src then storeVar dst a val
    else if ←Rtype.implements dst src then
      if (←Rtype.kind src) == 20 then
        match val with
        | .nilIface => unsupported (.noEntry "extern/reflectlite: a nil value of one interface type handed on as a value of another")
        | _=>storeVar dst a val
      else storeVar dst a (.iface src val)
    else panicString ("reflectlite.Set: value of type " ++ (← Rtype.spelt src) ++ " is not assignable to type " ++ (← Rtype.spelt dst))
    pure (.tuple #[])):=rfl
theorem Ta (t:TypeId) (a:Addr) (v:Value) (w:World) (ht:t=88∨t=40∨t=35) (h:w.cell? a=some v):(loadVar t a).run Tryz.prog w=.ok v w:=by
  simp [loadVar,Tryz.isAggP t ht w,load,Sem.run,h]
theorem Xe (t:TypeId) (a p:Addr) (w:World) (ht:t=88∨t=40) (h:w.cell? a=some (.pointer (some p))):(isNilM #[.agg #[.pointer (some ⟨2,t,none⟩),.pointer (some a),.int .u64 150]]).run Tryz.prog w=.ok (.bool false) w:=by
  have h1:=Sa t a w ht
  have h2:=Ta t a _ w (by rcases ht with rfl|rfl<;>simp) h
  simp [isNilM,method1,h1,ReflectliteValue.isNil,h2]
def velemM := ReflectliteValue.method (ReflectliteValue.valueError "reflectlite.Value.Elem" 0) ReflectliteValue.elem
theorem Xb (a p:Addr) (w:World) (h:w.cell? a=some (.pointer (some p))):(velemM #[.agg #[.pointer (some ⟨2,88,none⟩),.pointer (some a),.int .u64 150]]).run Tryz.prog w=.ok (.agg #[.pointer (some ⟨2,35,none⟩),.pointer (some p),.int .u64 386]) w:=by
  have h1:=Sa 88 a w (.inl rfl)
  have h2:=Ta 88 a _ w (by simp) h
  have h3:=Tryz.elemQ 88 w (.inl rfl)
  have h4:(ReflectliteValue.mk 35 p ReflectliteValue.flagAddr).run Tryz.prog w=.ok (.agg #[.pointer (some ⟨2,35,none⟩),.pointer (some p),.int .u64 386]) w:=by kernel_rfl
  simp [velemM,method1,h1,ReflectliteValue.elem,h2,h3,h4]
theorem Tryz.setN (a p:Addr) (n n0:Int) (w:World) (h:w.cell? a=some (.int .i64 n)) (h0:w.cell? p=some (.int .i64 n0)) (hz:w.frozen? p=false) :
    (ReflectliteValue.set #[.agg #[.pointer (some ⟨2,35,none⟩),.pointer (some p),.int .u64 386],.agg #[.pointer (some ⟨2,35,none⟩),.pointer (some a),.int .u64 130]]).run Tryz.prog w=.ok (.tuple #[]) (w.setCell p (.int .i64 n)):=by
  have h1:(ReflectliteValue.parts (.agg #[.pointer (some ⟨2,35,none⟩),.pointer (some p),.int .u64 386])).run Tryz.prog w=.ok (some (35,p,386)) w:=Xc p 386 w (.inr rfl)
  have h2:(ReflectliteValue.parts (.agg #[.pointer (some ⟨2,35,none⟩),.pointer (some a),.int .u64 130])).run Tryz.prog w=.ok (some (35,a,130)) w:=Xc a 130 w (.inl rfl)
  have h3:=Ta 35 a _ w (by simp) h
  have h4:(Rtype.directlyAssignable 35 35).run Tryz.prog w=.ok true w:=by kernel_rfl
  have h5:(storeVar 35 p (.int .i64 n)).run Tryz.prog w=.ok () (w.setCell p (.int .i64 n)):=by
    simp [storeVar,Tryz.sizeN,Value.cells,storeCells,store,Sem.run,h0,hz,Addr.add_zero']
  simp [set2,h1,h2,h3,h4,h5,ReflectliteValue.flagAddr]
end Go.Proofs
namespace Go.Proofs
open Go.RowKit Go.Extern.Stop Go.Stop Go.Extern
theorem Sj {w:World} {a:Addr} {v:Value} (h:w.cell? a=some v):a.block<w.heap.size:=by
  unfold World.cell? at h
  cases e:w.heap[a.block]? with
  | none=>rw [e] at h;cases h
  | some o=>exact (Array.getElem?_eq_some_iff.1 e).1
theorem heap_al {w:World} {b:Nat} (o:Obj) (h:b<w.heap.size):(w.alloc o).heap[b]?=w.heap[b]?:=by
  show (w.heap.push o)[b]?=_
  rw [Array.getElem?_push_lt h,Array.getElem?_eq_getElem h]
theorem Fl {w:World} (o:Obj):(w.alloc o).heap.size=w.heap.size+1:=by
  show (w.heap.push o).size=_
  simp
theorem En {w:World} {a:Addr} {v:Value} (o:Obj) (h:w.cell? a=some v):(w.alloc o).cell? a=some v:=by
  have hl:=Sj h
  unfold World.cell? at h ⊢
  rw [heap_al o hl];exact h
theorem Hl {w:World} {a:Addr} (o:Obj) (hl:a.block<w.heap.size) (h:w.frozen? a=false):(w.alloc o).frozen? a=false:=by
  unfold World.frozen? at h ⊢
  rw [heap_al o hl];exact h
theorem below_set {n:Nat} {w w':World} {a:Addr} {v:Value} (h:Below n w w') (hl:a.block<n):Below n (w.setCell a v) (w'.setCell a v):=by
  refine ⟨h.os,h.tape,h.output,by simpa [World.setCell] using h.size,fun b hb=>?_⟩
  have:=h.block b hb
  simp only [World.setCell,Array.getElem?_modify,this]
theorem Kl {P:Program} {ti:TypeId} {ms:Array (String×TypeId)} (t:TypeId) (v:Value) (hi:P.underlying ti=some (.interface ms)) (w:World) :
    (binOp .eql ti (.iface t v) .nilIface).run P w=.ok (.bool false) w:=by
  have h:∀d:Nat,(Op.equalIn (d+1) ti (.iface t v) .nilIface).run P w=.ok false w:=fun d=>by simp [Op.equalIn,run_underlying hi]
  simp only [binOp]
  simp [Op.equal,Op.maxDepth,h 9999]
set_option maxHeartbeats 1000000 in
set_option maxRecDepth 100000 in
theorem as_no (b o:Nat) (n n0:Int) (w:World) (hc:w.cell? ⟨b,o,none⟩=some (.int .i64 n0)) (hz:w.frozen? ⟨b,o,none⟩=false) (hE:w.cell? ⟨0,0,none⟩=some (.iface 137 (.agg #[.pointer (some ⟨2,28,none⟩)]))) :
    Calls Tryz.prog 12 #[.iface 35 (.int .i64 n),.iface 88 (.pointer (some ⟨b,o,none⟩))] w fun e w'=>e=.returned (.bool true)∧Below w.heap.size (w.setCell ⟨b,o,none⟩ (.int .i64 n)) w':=by
  have q1:=fun w=>Kl (P:=Tryz.prog) 35 (.int .i64 n) Tryz.underlying28 w
  have q2:=fun w=>Kl (P:=Tryz.prog) 88 (.pointer (some ⟨b,o,none⟩)) Tryz.underlying20 w
  have h39:∀v w,(callFunc 39 #[v]).run Tryz.prog w=((ReflectliteValue.unpack v).run Tryz.prog w).andThen fun v w'=>.ok (.value v) w':=fun v w=>@run_callFunc_extern Tryz.prog 39 _ (fun args=>Extern.ReflectliteValue.unpack (args.getD 0 (.tuple #[]))) Tryz.func39 (by kernel_rfl) (by kernel_rfl) (by kernel_rfl) (by kernel_rfl) #[v] w
  have h40:=@run_callFunc_extern Tryz.prog 40 _ tyOf Tryz.func40 (by kernel_rfl) (by kernel_rfl) (by kernel_rfl) (by kernel_rfl)
  have h41:=@run_callFunc_extern Tryz.prog 41 _ isNilM Tryz.func41 (by kernel_rfl) (by kernel_rfl) (by kernel_rfl) (by kernel_rfl)
  have h195:=@run_callFunc_extern Tryz.prog 195 _ kindM Tryz.func195 (by kernel_rfl) (by kernel_rfl) (by kernel_rfl) (by kernel_rfl)
  have h207:=@run_callFunc_extern Tryz.prog 207 _ elemM Tryz.func207 (by kernel_rfl) (by kernel_rfl) (by kernel_rfl) (by kernel_rfl)
  have h208:=@run_callFunc_extern Tryz.prog 208 _ implM Tryz.func208 (by kernel_rfl) (by kernel_rfl) (by kernel_rfl) (by kernel_rfl)
  have h205:=@run_callFunc_extern Tryz.prog 205 _ asgnM Tryz.func205 (by kernel_rfl) (by kernel_rfl) (by kernel_rfl) (by kernel_rfl)
  have h69:=@run_callFunc_extern Tryz.prog 69 _ ReflectliteType.typeOf Tryz.func69 (by kernel_rfl) (by kernel_rfl) (by kernel_rfl) (by kernel_rfl)
  have h70:=@run_callFunc_extern Tryz.prog 70 _ velemM Tryz.func70 (by kernel_rfl) (by kernel_rfl) (by kernel_rfl) (by kernel_rfl)
  have h71:=@run_callFunc_extern Tryz.prog 71 _ ReflectliteValue.set Tryz.func71 (by kernel_rfl) (by kernel_rfl) (by kernel_rfl) (by kernel_rfl)
  have u88:=fun w=>Uq 88 (some ⟨b,o,none⟩) w (.inl rfl)
  have t88:=fun a w=>Tryz.typeV 88 a w (.inl rfl)
  have mK:=Tryz.mKind
  have mE:=Tryz.mElem
  have mI:=Tryz.mImpl
  have mA:=Tryz.mAsgn
  have kP:=fun w=>Tryz.kindP 88 w (.inl rfl)
  have kN:=Tryz.kindN
  have eN:=Tryz.elemN
  have iN:=Tryz.implN
  have tN:=Tryz.tyofN
  have aNN:=Xf
  have uN:=Ur
  have hlt:b<w.heap.size:=Sj hc
  have c4:∀o1 o2 o3 o4,((((w.alloc o1).alloc o2).alloc o3).alloc o4).cell? ⟨b,o,none⟩=some (.int .i64 n0):=fun _ _ _ _=>En _ (En _ (En _ (En _ hc)))
  have f4:∀o1 o2 o3 o4,((((w.alloc o1).alloc o2).alloc o3).alloc o4).frozen? ⟨b,o,none⟩=false:=fun _ _ _ _=>Hl _ (by simp only [Fl];omega) (Hl _ (by simp only [Fl];omega) (Hl _ (by simp only [Fl];omega) (Hl _ hlt hz)))
  have e2:∀o1 o2,((w.alloc o1).alloc o2).cell? ⟨0,0,none⟩=some (.iface 137 (.agg #[.pointer (some ⟨2,28,none⟩)])):=fun o1 o2=>En o2 (En o1 hE)
  go_enter Tryz.func12,Tryz.ntmps12
  go_wp2
  rw [Xe 88 _ ⟨b,o,none⟩ _ (.inl rfl) (by simp)]
  simp only [Result.andThen]
  rw [Oper.upon_value]
  go_wp2
  refine wp_loop_rounds 1 ?_
  rw [rounds_succ]
  go_wp2
  rw [Xb _ ⟨b,o,none⟩ _ (En _ (En _ (by simp)))]
  simp only [Result.andThen]
  rw [Oper.upon_value]
  go_wp2
  rw [Tryz.setN _ ⟨b,o,none⟩ n n0 _ ?h1 (c4 _ _ _ _) (f4 _ _ _ _)]
  case h1 =>
    show _=(#[Value.int .i64 n]:Array Value)[0]?
    exact World.cell?_alloc_at _ _ _ _ (by simp only [Fl])
  simp only [Result.andThen]
  rw [Oper.upon_value]
  go_wp2
  go_ret
  exact ⟨rfl,below_set ((((Below.refl _ w).alloc (Nat.le_refl _) _).alloc (by simp only [Fl];omega) _ |>.alloc (by simp only [Fl];omega) _).alloc (by simp only [Fl];omega) _) hlt⟩
end Go.Proofs
namespace Go.Proofs
open Go.RowKit Go.Extern.Stop Go.Stop Go.Extern
theorem Tryz.noAs (v:Value) (xT:TypeId) (w:World):(Instr.typeAssert (.iface 38 v) xT 142 true).run Tryz.prog w=.ok (.tuple #[.nilIface,.bool false]) w:=run_typeAssert_lacksB Tryz.underlying142 (by kernel_rfl) (by kernel_rfl) v xT w
theorem Tryz.hasUnw (v:Value) (xT:TypeId) (w:World):(Instr.typeAssert (.iface 38 v) xT 145 true).run Tryz.prog w=.ok (.tuple #[.iface 38 v,.bool true]) w:=run_typeAssert_hasB Tryz.underlying145 (by kernel_rfl) v xT w
set_option maxHeartbeats 2000000 in
set_option maxRecDepth 100000 in
theorem as_slip_no (b o:Nat) (s:ByteArray) (k n n0:Int) (w:World) (hc:w.cell? ⟨b,o,none⟩=some (.int .i64 n0)) (hz:w.frozen? ⟨b,o,none⟩=false) (hE:w.cell? ⟨0,0,none⟩=some (.iface 137 (.agg #[.pointer (some ⟨2,28,none⟩)]))) :
    Calls Tryz.prog 12 #[.iface 38 (.agg #[.string s,.int .i64 k,.iface 35 (.int .i64 n)]),.iface 88 (.pointer (some ⟨b,o,none⟩))] w fun e w'=>e=.returned (.bool true)∧Below w.heap.size (w.setCell ⟨b,o,none⟩ (.int .i64 n)) w':=by
  have q1:=fun w=>Kl (P:=Tryz.prog) 35 (.int .i64 n) Tryz.underlying28 w
  have q3:=fun w=>Kl (P:=Tryz.prog) 38 (.agg #[.string s,.int .i64 k,.iface 35 (.int .i64 n)]) Tryz.underlying28 w
  have q2:=fun w=>Kl (P:=Tryz.prog) 88 (.pointer (some ⟨b,o,none⟩)) Tryz.underlying20 w
  have h39:∀v w,(callFunc 39 #[v]).run Tryz.prog w=((ReflectliteValue.unpack v).run Tryz.prog w).andThen fun v w'=>.ok (.value v) w':=fun v w=>@run_callFunc_extern Tryz.prog 39 _ (fun args=>Extern.ReflectliteValue.unpack (args.getD 0 (.tuple #[]))) Tryz.func39 (by kernel_rfl) (by kernel_rfl) (by kernel_rfl) (by kernel_rfl) #[v] w
  have h40:=@run_callFunc_extern Tryz.prog 40 _ tyOf Tryz.func40 (by kernel_rfl) (by kernel_rfl) (by kernel_rfl) (by kernel_rfl)
  have h41:=@run_callFunc_extern Tryz.prog 41 _ isNilM Tryz.func41 (by kernel_rfl) (by kernel_rfl) (by kernel_rfl) (by kernel_rfl)
  have h195:=@run_callFunc_extern Tryz.prog 195 _ kindM Tryz.func195 (by kernel_rfl) (by kernel_rfl) (by kernel_rfl) (by kernel_rfl)
  have h207:=@run_callFunc_extern Tryz.prog 207 _ elemM Tryz.func207 (by kernel_rfl) (by kernel_rfl) (by kernel_rfl) (by kernel_rfl)
  have h208:=@run_callFunc_extern Tryz.prog 208 _ implM Tryz.func208 (by kernel_rfl) (by kernel_rfl) (by kernel_rfl) (by kernel_rfl)
  have h205:=@run_callFunc_extern Tryz.prog 205 _ asgnM Tryz.func205 (by kernel_rfl) (by kernel_rfl) (by kernel_rfl) (by kernel_rfl)
  have h69:=@run_callFunc_extern Tryz.prog 69 _ ReflectliteType.typeOf Tryz.func69 (by kernel_rfl) (by kernel_rfl) (by kernel_rfl) (by kernel_rfl)
  have h70:=@run_callFunc_extern Tryz.prog 70 _ velemM Tryz.func70 (by kernel_rfl) (by kernel_rfl) (by kernel_rfl) (by kernel_rfl)
  have h71:=@run_callFunc_extern Tryz.prog 71 _ ReflectliteValue.set Tryz.func71 (by kernel_rfl) (by kernel_rfl) (by kernel_rfl) (by kernel_rfl)
  have u88:=fun w=>Uq 88 (some ⟨b,o,none⟩) w (.inl rfl)
  have t88:=fun a w=>Tryz.typeV 88 a w (.inl rfl)
  have mK:=Tryz.mKind
  have mE:=Tryz.mElem
  have mI:=Tryz.mImpl
  have mA:=Tryz.mAsgn
  have mU:=Tryz.mUnw
  have kP:=fun w=>Tryz.kindP 88 w (.inl rfl)
  have kN:=Tryz.kindN
  have eN:=Tryz.elemN
  have iN:=Tryz.implN
  have tN:=Tryz.tyofN
  have tS:=Tryz.tyofS
  have aNN:=Xf
  have aSN:=Tryz.asgnSN
  have uN:=Ur
  have nA:=Tryz.noAs
  have hU:=Tryz.hasUnw
  have hlt:b<w.heap.size:=Sj hc
  have c5:∀o1 o2 o3 o4 o5,(((((w.alloc o1).alloc o2).alloc o3).alloc o4).alloc o5).cell? ⟨b,o,none⟩=some (.int .i64 n0):=fun _ _ _ _ _=>En _ (En _ (En _ (En _ (En _ hc))))
  have f5:∀o1 o2 o3 o4 o5,(((((w.alloc o1).alloc o2).alloc o3).alloc o4).alloc o5).frozen? ⟨b,o,none⟩=false:=fun _ _ _ _ _=>Hl _ (by simp only [Fl];omega) (Hl _ (by simp only [Fl];omega) (Hl _ (by simp only [Fl];omega) (Hl _ (by simp only [Fl];omega) (Hl _ hlt hz))))
  have e2:∀o1 o2,((w.alloc o1).alloc o2).cell? ⟨0,0,none⟩=some (.iface 137 (.agg #[.pointer (some ⟨2,28,none⟩)])):=fun o1 o2=>En o2 (En o1 hE)
  go_enter Tryz.func12,Tryz.ntmps12
  go_wp2
  rw [Xe 88 _ ⟨b,o,none⟩ _ (.inl rfl) (by simp)]
  simp only [Result.andThen]
  rw [Oper.upon_value]
  go_wp2
  refine wp_loop_rounds 2 ?_
  rw [rounds_succ]
  go_wp2
  rw [rounds_succ]
  go_wp2
  rw [Xb _ ⟨b,o,none⟩ _ (En _ (En _ (En _ (by simp))))]
  simp only [Result.andThen]
  rw [Oper.upon_value]
  go_wp2
  rw [Tryz.setN _ ⟨b,o,none⟩ n n0 _ ?h1 (c5 _ _ _ _ _) (f5 _ _ _ _ _)]
  case h1 =>
    show _=(#[Value.int .i64 n]:Array Value)[0]?
    exact World.cell?_alloc_at _ _ _ _ (by simp only [Fl])
  simp only [Result.andThen]
  rw [Oper.upon_value]
  go_wp2
  go_ret
  exact ⟨rfl,below_set (((((Below.refl _ w).alloc (Nat.le_refl _) _).alloc (by simp only [Fl];omega) _ |>.alloc (by simp only [Fl];omega) _).alloc (by simp only [Fl];omega) _).alloc (by simp only [Fl];omega) _) hlt⟩
end Go.Proofs
namespace Go.Proofs
open Go.RowKit Go.Extern.Stop Go.Stop Go.Extern
set_option maxHeartbeats 1000000 in
set_option maxRecDepth 100000 in
theorem as_nil (v:Value) (w:World) :
    Calls Tryz.prog 12 #[.nilIface,v] w fun e w'=>e=.returned (.bool false)∧w'=w:=by
  have hn:∀w,(binOp .eql 28 .nilIface .nilIface).run Tryz.prog w=.ok (.bool true) w:=fun w=>by
    have h:∀d:Nat,(Op.equalIn (d+1) 28 .nilIface .nilIface).run Tryz.prog w=.ok true w:=fun d=>by simp [Op.equalIn,run_underlying Tryz.underlying28]
    simp only [binOp]
    simp [Op.equal,Op.maxDepth,h 9999]
  go_enter Tryz.func12,Tryz.ntmps12
  go_wp2
  go_ret
  exact ⟨rfl,rfl⟩
end Go.Proofs
namespace Go.Gm
theorem ic_same {P:Program} {f:FuncId} {x r:Value} {u:AV} {o:Option AObj} (h:∀(v:Value) (w:World),Calls P f #[x,v] w fun e w'=>e=.returned r∧w'=w) :
    IC P f [o] [.val x,u] (.val r) [o] []:=by
  intro m w loc vs hm h8 ht hM hus
  cases hus with
  | cons a b =>
    cases a
    cases b with
    | cons a b =>
      cases b
      refine (h _ w).mono ?_
      rintro e' w' ⟨rfl,rfl⟩
      exact ⟨r,loc,rfl,hM,.val _⟩
end Go.Gm
namespace Go.Proofs.Yt
open Go.Gm
namespace Au
def Wd (e:Er) (n0:Int):Option (Bool×Int):=match e with
  | .nil=>some (false,n0)
  | .no n=>some (true,n)
  | .slip _ _ (.no n)=>some (true,n)
  | _=>none
def ErrT (w:World):Prop:=w.cell? ⟨0,0,none⟩=some (.iface 137 (.agg #[.pointer (some ⟨2,28,none⟩)]))
theorem errT_is (m:Nat→Prop) (w:World) (h:TabH Tryz.prog m w):ErrT w:=by
  have h1 : (Tryz.prog.globalNamed "internal/strconv.uint64pow10" == some 0) = false := by kernel_rfl
  have h2 : (Tryz.prog.globalNamed "internal/bytealg.MaxLen" == some 0) = false := by kernel_rfl
  have h3 : (Tryz.prog.globalNamed "errors.errorType" == some 0) = true := by kernel_rfl
  have ht:tabs Tryz.prog 0=some (fun cs=>cs[0]?=errT Tryz.prog∧(errT Tryz.prog).isSome=true):=by
    simp only [tabs,libTabs,List.find?_cons,h1,h2,h3,Option.map_some]
  obtain ⟨_,_,cs,t,fz,h4,h5,_⟩:=h 0 _ ht
  have he:errT Tryz.prog=some (.iface 137 (.agg #[.pointer (some ⟨2,28,none⟩)])):=by kernel_rfl
  rw [he] at h5
  unfold ErrT World.cell?
  simp only [h4]
  simpa using h5
theorem ok12asN (a0:Er) (a1:Int) (r:Bool×Int) (h:Wd a0 a1=some r):IC Tryz.prog 12 [some (.row 1 true [[.val (.int .i64 a1)]])] [.val (Ph a0),.ifc 88 (.ptr 0 0 0)] (.val (.bool r.1)) [some (.row 1 true [[.val (.int .i64 r.2)]])] []:=by
  unfold Wd at h
  split at h
  · cases h
    exact ic_same fun v w=>as_nil v w
  · cases h
    exact ic_put1 (Z:=ErrT) rfl errT_is fun w b o hc hz hE=>as_no b o _ a1 w hc hz hE
  · cases h
    exact ic_put1 (Z:=ErrT) rfl errT_is fun w b o hc hz hE=>as_slip_no b o _ _ _ a1 w hc hz hE
  · cases h
end Au
end Go.Proofs.Yt
set_option maxHeartbeats 1000000
namespace Go.Proofs.Yt
open Go.Gm
namespace Au
def f10 (a0:Er):Option Int:=(if (Er.isNil a0)=true then some 0 else ((Wd a0 0).bind fun x3=>(if x3.1=true then some x3.2 else some (-1))))
theorem ok10 (a0:Er) (r:Int) (h:f10 a0=some r):PC Tryz.prog 10 [.val (Ph a0)] (.val (.int .i64 r)):=by
 rw [f10] at h
 refine Bi (N:=11) (rs:=[.tmp 2]) Tryz.func10 ?_
 refine Ac [0] ?_
 refine AW.seq<|Ao [0,5] ?_
 rcases Aq h with ⟨c2,h⟩|⟨c2,h⟩
 ·refine Bp rfl c2<|Ao [2] ?_
  refine AW.ret<|Ad ?_
  obtain rfl:=oi h
  (simp only [go_sem,seval,c2,Ay]<;>try simp)
 ·rw [Bool.not_eq_true] at c2
  refine Bl rfl c2<|AW.skip<|Aa<|Ao [0,3] ?_
  refine AW.seq ?_
  obtain ⟨x3,hx3,h⟩:=bO h
  refine Cb [3,9] fun K hK=>?_
  simp only [go_sem,seval,c2]
  refine arC.ok (Br (us':=_) (ok12asN a0 0 x3 hx3) [32] (.cons (.eq (by simp only [go_sem]) (by first|rfl|simp [Ae,Ap,Cf])) (.nil _)) (.cons (.of rfl) (.cons (.of rfl) .nil))) Tryz.call12 ?_
  simp only [go_sem,seval,c2]
  subst hK
  rcases Aq h with ⟨c4,h⟩|⟨c4,h⟩
  ·refine Bl rfl (by first|(rw [c4];rfl)|simp_all)<|AW.skip<|Aa<|Ao [2] ?_
   refine AW.ret ?_
   obtain rfl:=oi h
   (simp only [go_sem,seval,c2,c4,Ay]<;>try simp)
  ·rw [Bool.not_eq_true] at c4
   refine Bp rfl (by first|(rw [c4];rfl)|simp_all)<|Ao [2] ?_
   refine AW.ret<|Ad ?_
   obtain rfl:=oi h
   (simp only [go_sem,seval,c2,c4,Ay]<;>try simp)
def f7:Option Bool:=((f29 [⟨⟨#[120]⟩,⟨#[50]⟩,[0,4]⟩,⟨⟨#[121]⟩,⟨#[49]⟩,[0]⟩]).bind fun x1=>((f8 x1 [120,32,121,10,120,10]).bind fun x2=>(match x2 with|(none,e3)=>(if (Er.isNil e3)=true then some false else some false)|(some b4,e3)=>(if (Er.isNil e3)=true then ((f19 b4 4).bind fun x9=>((f19 x9.2.2 1).bind fun x10=>((f18 x10.2.2 ⟨#[120]⟩).bind fun x11=>((f21 x11.1 [0,4]).bind fun x12=>(if x12=true then (if (Er.isNil x9.2.1)=true then ((f22 x9.1 [⟨#[120]⟩]).bind fun x15=>(if x15=true then ((f10 x10.2.1).bind fun x17=>some (decide (x17=320))) else some false)) else some false) else some false))))) else some false))))
theorem ok7 (r:Bool) (h:f7=some r):PC Tryz.prog 7 [] (.val (.bool r)):=by
 rw [f7] at h
 refine Bi (N:=53) (rs:=[.tmp 0]) Tryz.func7 ?_
 refine Ac [] ?_
 obtain ⟨x1,hx1,h⟩:=bO h
 obtain ⟨x2,hx2,h⟩:=bO h
 obtain ⟨(_|b4),e3⟩:=x2
 ·dsimp only at h
  refine AW.regS 5 [1,2] ?_
  generalize hK:(fun (s1:ASt)=>_)=K
  simp only [go_sem,seval]
  subst hK
  refine ⟨_,Ent.trans (Lj (sz:=3) (mu:=true) (R1:=[]) (R2:=[[.val (.string ⟨#[121]⟩),.val (.string ⟨#[49]⟩),.own 32 0 1]]) (pre:=[.val (.string ⟨#[120]⟩),.val (.string ⟨#[50]⟩)]) (post:=[]) (q:=16) (off:=0) (len:=2) 48 (by simp [Ae,Ap]) (Fg (sz:=1) (m:=true) (by simp [Ae,Ap];rfl) rfl (by simp only [go_sem])) (by decide))
    (Lj (sz:=3) (mu:=true) (R1:=[[.val (.string ⟨#[120]⟩),.val (.string ⟨#[50]⟩),.sl [[.val (.int .i64 0)],[.val (.int .i64 4)]]]]) (R2:=[]) (pre:=[.val (.string ⟨#[121]⟩),.val (.string ⟨#[49]⟩)]) (post:=[]) (q:=32) (off:=0) (len:=1) 48 (by simp [Ae,Ap]) (Fg (sz:=1) (m:=true) (by simp [Ae,Ap];rfl) rfl (by simp only [go_sem])) (by decide)),?_⟩
  generalize hK:AW Tryz.prog _ _ _=K
  simp only [go_sem,seval]
  refine arC.of (ok29 [⟨⟨#[120]⟩,⟨#[50]⟩,[0,4]⟩,⟨⟨#[121]⟩,⟨#[49]⟩,[0]⟩] x1 hx1) Tryz.call29 ?_
  simp only [go_sem,seval]
  refine arC.ok (CallOk.still (t:=56) (off:=0) (len:=x1.length) (Fg (sz:=2) (m:=true) rfl (by first|rfl|(simp [Ar];done)|(simp [Ar];omega)) (by simp only [go_sem])) (.own (.keep .nil)) (Br (us':=_) (ok8 x1 [120,32,121,10,120,10] (none,e3) hx2) [] (.nil _) (.cons (.of rfl) (.cons (.of rfl) .nil)))) Tryz.call8 ?_
  simp only [go_sem,seval]
  subst hK
  refine AW.seq ?_
  rcases Aq h with ⟨c6,h⟩|⟨c6,h⟩
  ·refine Ao [1,24] ?_
   refine Bp rfl rfl<|Ao [0] ?_
   refine AW.ret<|Ad ?_
   obtain rfl:=oi h
   (simp only [go_sem,seval,c6,Ay]<;>try simp)
  ·rw [Bool.not_eq_true] at c6
   refine Ao [1,24] ?_
   refine Bp rfl rfl<|Ao [0] ?_
   refine AW.ret<|Ad ?_
   obtain rfl:=oi h
   (simp only [go_sem,seval,c6,Ay]<;>try simp)
 ·dsimp only at h
  refine AW.regS 5 [1,2] ?_
  generalize hK:(fun (s1:ASt)=>_)=K
  simp only [go_sem,seval]
  subst hK
  refine ⟨_,Ent.trans (Lj (sz:=3) (mu:=true) (R1:=[]) (R2:=[[.val (.string ⟨#[121]⟩),.val (.string ⟨#[49]⟩),.own 32 0 1]]) (pre:=[.val (.string ⟨#[120]⟩),.val (.string ⟨#[50]⟩)]) (post:=[]) (q:=16) (off:=0) (len:=2) 48 (by simp [Ae,Ap]) (Fg (sz:=1) (m:=true) (by simp [Ae,Ap];rfl) rfl (by simp only [go_sem])) (by decide))
    (Lj (sz:=3) (mu:=true) (R1:=[[.val (.string ⟨#[120]⟩),.val (.string ⟨#[50]⟩),.sl [[.val (.int .i64 0)],[.val (.int .i64 4)]]]]) (R2:=[]) (pre:=[.val (.string ⟨#[121]⟩),.val (.string ⟨#[49]⟩)]) (post:=[]) (q:=32) (off:=0) (len:=1) 48 (by simp [Ae,Ap]) (Fg (sz:=1) (m:=true) (by simp [Ae,Ap];rfl) rfl (by simp only [go_sem])) (by decide)),?_⟩
  generalize hK:AW Tryz.prog _ _ _=K
  simp only [go_sem,seval]
  refine arC.of (ok29 [⟨⟨#[120]⟩,⟨#[50]⟩,[0,4]⟩,⟨⟨#[121]⟩,⟨#[49]⟩,[0]⟩] x1 hx1) Tryz.call29 ?_
  simp only [go_sem,seval]
  refine arC.ok (CallOk.still (t:=56) (off:=0) (len:=x1.length) (Fg (sz:=2) (m:=true) rfl (by first|rfl|(simp [Ar];done)|(simp [Ar];omega)) (by simp only [go_sem])) (.own (.keep .nil)) (Br (us':=_) (ok8 x1 [120,32,121,10,120,10] (some b4,e3) hx2) [] (.nil _) (.cons (.of rfl) (.cons (.of rfl) .nil)))) Tryz.call8 ?_
  simp only [go_sem,seval]
  subst hK
  refine AW.seq ?_
  rcases Aq h with ⟨c8,h⟩|⟨c8,h⟩
  ·refine Ao [1,24] ?_
   refine Bl rfl rfl<|AW.skip<|Aa<|AW.ent (Lk (pre:=[]) (post:=[Iy b4.offs]) (q:=81) (off:=0) (len:=b4.l.length) 80 rfl (Fg (sz:=3) (m:=true) rfl (by first|rfl|(simp [Ar];done)|(simp [Ar];omega)) (by simp only [go_sem])) (by decide)) ?_
   obtain ⟨x9,hx9,h⟩:=bO h
   refine Cb [1,3,4] fun K hK=>?_
   simp only [go_sem,seval,c8]
   refine arC.ok (Br (us':=_) (ok19 b4 4 x9 hx9) [80] (.cons (.eq (by simp only [go_sem]) (by first|rfl|simp [Ae,Ap,Cf])) (.nil _)) (.cons (.of rfl) (.cons (.of rfl) .nil))) Tryz.call19 ?_
   simp only [go_sem,seval,c8]
   subst hK
   obtain ⟨x10,hx10,h⟩:=bO h
   refine Cb [1,3,4,6] fun K hK=>?_
   simp only [go_sem,seval,c8]
   refine arC.ok (Br (us':=_) (ok19 x9.2.2 1 x10 hx10) [80] (.cons (.eq (by simp only [go_sem]) (by first|rfl|simp [Ae,Ap,Cf])) (.nil _)) (.cons (.of rfl) (.cons (.of rfl) .nil))) Tryz.call19 ?_
   simp only [go_sem,seval,c8]
   subst hK
   obtain ⟨x11,hx11,h⟩:=bO h
   obtain ⟨x12,hx12,h⟩:=bO h
   rcases Aq h with ⟨c13,h⟩|⟨c13,h⟩
   ·rcases Aq h with ⟨c14,h⟩|⟨c14,h⟩
    ·obtain ⟨x15,hx15,h⟩:=bO h
     rcases Aq h with ⟨c16,h⟩|⟨c16,h⟩
     ·obtain ⟨x17,hx17,h⟩:=bO h
      refine Cb [0] fun K hK=>?_
      simp only [go_sem,seval,c8,c13,er_eql,c14,c16]
      refine arC.ok (Br (us':=_) (ok18 x10.2.2 ⟨#[120]⟩ x11 hx11) [80] (.cons (.eq (by simp only [go_sem]) (by first|rfl|simp [Ae,Ap,Cf])) (.nil _)) (.cons (.of rfl) (.cons (.of rfl) .nil))) Tryz.call18 ?_
      simp only [go_sem,seval,c8,c13,er_eql,c14,c16]
      refine arC.of (ok21 x11.1 [0,4] x12 hx12) Tryz.call21 ?_
      simp only [go_sem,seval,c8,c13,er_eql,c14,c16]
      refine arC.of (ok22 x9.1 [⟨#[120]⟩] x15 hx15) Tryz.call22 ?_
      simp only [go_sem,seval,c8,c13,er_eql,c14,c16]
      refine arC.of (ok10 x10.2.1 x17 hx17) Tryz.call10 ?_
      simp only [go_sem,seval,c8,c13,er_eql,c14,c16]
      subst hK
      refine AW.ret ?_
      obtain rfl:=oi h
      (simp only [go_sem,seval,c8,c13,c14,c16,Ay]<;>try simp)
     ·rw [Bool.not_eq_true] at c16
      refine Cb [0] fun K hK=>?_
      simp only [go_sem,seval,c8,c13,er_eql,c14,c16]
      refine arC.ok (Br (us':=_) (ok18 x10.2.2 ⟨#[120]⟩ x11 hx11) [80] (.cons (.eq (by simp only [go_sem]) (by first|rfl|simp [Ae,Ap,Cf])) (.nil _)) (.cons (.of rfl) (.cons (.of rfl) .nil))) Tryz.call18 ?_
      simp only [go_sem,seval,c8,c13,er_eql,c14,c16]
      refine arC.of (ok21 x11.1 [0,4] x12 hx12) Tryz.call21 ?_
      simp only [go_sem,seval,c8,c13,er_eql,c14,c16]
      refine arC.of (ok22 x9.1 [⟨#[120]⟩] x15 hx15) Tryz.call22 ?_
      simp only [go_sem,seval,c8,c13,er_eql,c14,c16]
      subst hK
      refine AW.ret ?_
      obtain rfl:=oi h
      (simp only [go_sem,seval,c8,c13,c14,c16,Ay]<;>try simp)
    ·rw [Bool.not_eq_true] at c14
     refine Cb [0] fun K hK=>?_
     simp only [go_sem,seval,c8,c13,er_eql,c14]
     refine arC.ok (Br (us':=_) (ok18 x10.2.2 ⟨#[120]⟩ x11 hx11) [80] (.cons (.eq (by simp only [go_sem]) (by first|rfl|simp [Ae,Ap,Cf])) (.nil _)) (.cons (.of rfl) (.cons (.of rfl) .nil))) Tryz.call18 ?_
     simp only [go_sem,seval,c8,c13,er_eql,c14]
     refine arC.of (ok21 x11.1 [0,4] x12 hx12) Tryz.call21 ?_
     simp only [go_sem,seval,c8,c13,er_eql,c14]
     subst hK
     refine AW.ret ?_
     obtain rfl:=oi h
     (simp only [go_sem,seval,c8,c13,c14,Ay]<;>try simp)
   ·rw [Bool.not_eq_true] at c13
    refine Cb [0] fun K hK=>?_
    simp only [go_sem,seval,c8,c13]
    refine arC.ok (Br (us':=_) (ok18 x10.2.2 ⟨#[120]⟩ x11 hx11) [80] (.cons (.eq (by simp only [go_sem]) (by first|rfl|simp [Ae,Ap,Cf])) (.nil _)) (.cons (.of rfl) (.cons (.of rfl) .nil))) Tryz.call18 ?_
    simp only [go_sem,seval,c8,c13]
    refine arC.of (ok21 x11.1 [0,4] x12 hx12) Tryz.call21 ?_
    simp only [go_sem,seval,c8,c13]
    subst hK
    refine AW.ret ?_
    obtain rfl:=oi h
    (simp only [go_sem,seval,c8,c13,Ay]<;>try simp)
  ·rw [Bool.not_eq_true] at c8
   refine Ao [1,24] ?_
   refine Bp rfl rfl<|Ao [0] ?_
   refine AW.ret<|Ad ?_
   obtain rfl:=oi h
   (simp only [go_sem,seval,c8,Ay]<;>try simp)
def inp:List Int:=[120,32,121,10,120,10]
def liveRes:List Res:=[⟨⟨#[120]⟩,⟨#[50]⟩,[0,4]⟩,⟨⟨#[121]⟩,⟨#[49]⟩,[0]⟩]
def bytB (l:List Int):Bool:=l.all fun x=>decide (0≤x∧x<256)
def smallB (a:List (A2 (List Int))):Bool:=decide (a.length≤8∧Va a≤2500) && a.all fun p=>decide (p.e0.length≤2500∧p.e1.length≤2500) && bytB p.e0 && bytB p.e1
def chk:Bool:=match g29 liveRes with
 | some x=>smallB x && (match g9 x inp,g15 inp with
  | some (J,e,_,_),some (L,_,_)=>decide (e=0) && (L.any fun r=>decide (r.Off=4)) && (L.all fun r=>decide (r.Off≠1)) &&
   (match g47 J 4,g46 J ⟨#[120]⟩ with
    | some k,some o=>decide (g22 k [⟨#[120]⟩]=some true) && decide (g21 o [0,4]=some true)
    | _,_=>false)
  | _,_=>false)
 | none=>false
theorem chk_true:chk=true:=by kernel_rfl
theorem bytB_ok {l:List Int} (h:bytB l=true):Byt l:=fun x hx=>by
 have:=List.all_eq_true.1 h x hx
 simpa using this
theorem Yi:f7=some true:=by
 have h:=chk_true
 unfold chk at h
 split at h
 ·rename_i x hx
  rw [Bool.and_eq_true] at h
  obtain ⟨hs,h⟩:=h
  split at h
  ·rename_i J e q1 q2 L q3 q4 h9 h15
   simp only [Bool.and_eq_true,decide_eq_true_eq] at h
   obtain ⟨⟨⟨he,h4⟩,h1⟩,h⟩:=h
   split at h
   ·rename_i k o h47 h46
    simp only [Bool.and_eq_true,decide_eq_true_eq] at h
    obtain ⟨h22,h21⟩:=h
    subst he
    have k29:=(mf29 _).h _ hx
    have k9:=(mf9 _ _).h _ h9
    have k15:=(mf15 _).h _ h15
    have k47:=(mf47 _ _).h _ h47
    have k46:=(mf46 _ _).h _ h46
    have k22:=(mf22 _ _).h _ h22
    have k21:=(mf21 _ _).h _ h21
    simp only [smallB,Bool.and_eq_true,decide_eq_true_eq] at hs
    have hall:=List.all_eq_true.1 hs.2
    have small:Small x inp:=⟨hs.1.1,fun p hp=>by
     have:=hall p hp;simp only [Bool.and_eq_true,decide_eq_true_eq] at this;exact this.1.1,fun p hp=>by
     have:=hall p hp;simp only [Bool.and_eq_true,decide_eq_true_eq] at this;exact ⟨bytB_ok this.1.2,bytB_ok this.2⟩,by decide,bytB_ok (by decide),hs.1.2⟩
    rcases open_eq small with ⟨e',st,n,he',p1,p2⟩|⟨J',m,L',p1,p2,_,_,_,_,p3,_,_,p4,_⟩
    ·rw [k9] at p2
     have:=oi p2
     simp only [Prod.mk.injEq] at this
     exact absurd this.2.1.symm he'
    ·rw [k9] at p2
     have e1:=(Prod.mk.inj (oi p2)).1
     rw [k15] at p3
     have e2:=(Prod.mk.inj (oi p3)).1
     subst e1 e2
     have m4:(4:Int)∈m:=by
      obtain ⟨r,hr,h⟩:=List.any_eq_true.1 h4
      exact (p4 4).2 ⟨r,hr,by simpa using h⟩
     have m1:(1:Int)∉m:=fun hm=>by
      obtain ⟨r,hr,h⟩:=(p4 1).1 hm
      have:=List.all_eq_true.1 h1 r hr
      simp [h] at this
     have e29:f29 [⟨⟨#[120]⟩,⟨#[50]⟩,[0,4]⟩,⟨⟨#[121]⟩,⟨#[49]⟩,[0]⟩]=some x:=k29
     have e8:f8 x [120,32,121,10,120,10]=some (some ⟨J,m⟩,Er.nil):=p1
     have a1:f19 ⟨J,m⟩ 4=some (k,Er.nil,⟨J,m⟩):=by simp only [f19,if_pos m4,k47,Option.bind_some]
     have a2:f19 ⟨J,m⟩ 1=some ([],Er.no 320,⟨J,m⟩):=by
      simp only [f19,if_neg m1,f44,if_neg (show ¬(320:Int)=0 by decide),Option.bind_some]
     have a3:f18 ⟨J,m⟩ ⟨#[120]⟩=some (o,⟨J,m⟩):=by simp only [f18,k46,Option.bind_some]
     have a4:f10 (Er.no 320)=some 320:=by simp only [f10,Er.isNil,Bool.false_eq_true,if_false,Wd,Option.bind_some,if_true]
     simp only [f7,e29,Option.bind_some,e8,Er.isNil,if_true,a1,a2,a3,k21,k22,a4]
     decide
   ·cases h
  ·cases h
 ·cases h
def f6_s1 (a0:List (A2 (List Int))):Int×Int→Option ((Int×Int)⊕Int)
  | (s1_0,s1_1)=>(if s1_1<(a0.length:Int) then (if s1_1<8 then ((ix a0 s1_1).bind fun x13=>some (.inl (IntKind.i64.wrap ((IntKind.i64.wrap (s1_0+(x13.e0.length:Int)))+(x13.e1.length:Int)),IntKind.i64.wrap (s1_1+1)))) else some (.inr s1_0)) else some (.inr s1_0))
def f6 (a0:List (A2 (List Int))) (a1:List Int):Option Bool:=((loopO (f6_s1 a0) ((a1.length:Int),0)).bind fun y15=>(if 8<(a0.length:Int) then some true else some (decide (2500<y15))))
theorem ok6 (a0:List (A2 (List Int))) (a1:List Int) (r:Bool) (h:f6 a0 a1=some r):PC Tryz.prog 6 [.sl (List.map Md a0),.sl (List.map Aw a1)] (.val (.bool r)):=by
 rw [f6] at h
 refine Bi (N:=41) (rs:=[.tmp 4]) Tryz.func6 ?_
 refine Ao [0,1] ?_
 refine Ao [0,5] ?_
 refine AW.seq<|Ao [0,5,6] ?_
 refine AW.block ?_
 obtain ⟨y15,hy15,h⟩:=bO h
 refine AW.loopO (fun s=>⟨(Ag (Ag (Ag Az 0 (.sl (List.map Md a0))) 5 (.val (.int .i64 s.1))) 6 (.val (.int .i64 s.2))),Bo [] [],8⟩) (fun z e st'=>e=Exit.exit 0∧st'=⟨(Ag (Ag Az 0 (.sl (List.map Md a0))) 5 (.val (.int .i64 z))),Bo [] [],8⟩) hy15 ?_ ?_ ?_
 ·exact Bg RF.any.qv.qv.qv
 ·clear h hy15
  rintro ⟨s1_0,s1_1⟩ x h
  rw [f6_s1] at h
  refine AW.seq ?_
  rcases Aq h with ⟨c11,h⟩|⟨c11,h⟩
  ·refine Ao [0,5,6,16] ?_
   rcases Aq h with ⟨c12,h⟩|⟨c12,h⟩
   ·refine Aj rfl c12<|AW.skip<|Aa<|AW.seq<|AW.block ?_
    obtain ⟨x13,hx13,h⟩:=bO h
    obtain ⟨hx13a,hx13b⟩:=ix_some.1 hx13
    refine Nt [0,5,6] [0,0,0,6,14,30,62,127,0,0,768,1792,3840,7936,16383,32767] ?_
    generalize hK:Dk _ _ Exit.normal=K
    simp only [go_sem,seval,Ah hx13a,hx13b]
    subst hK
    refine Ax<|Aa<|Bz [0,5,6] ?_
    refine Aa ?_
    refine ⟨_,oj h,?_⟩
    exact Bg RF.any.qv.qv.qv
   ·refine Ai rfl c12<|AW.exit<|Af<|Af ?_
    refine ⟨_,oj h,_,?_,rfl,rfl⟩
    exact Bg RF.any.qv.qv
  ·refine Ao [0,5,6,16] ?_
   refine Bl rfl rfl<|AW.exit<|Af<|Af ?_
   refine ⟨_,oj h,_,?_,rfl,rfl⟩
   exact Bg RF.any.qv.qv
 ·intro e st' hX
  try dsimp only at h
  try dsimp only at hX
  obtain ⟨rfl,rfl⟩:=hX
  refine ⟨_,Ent.refl,?_⟩
  refine Bc<|Aa ?_
  rcases Aq h with ⟨c16,h⟩|⟨c16,h⟩
  ·refine Ao [4] ?_
   refine AW.ret ?_
   obtain rfl:=oi h
   (simp only [go_sem,seval,Ay]<;>try simp)
  ·refine Ao [4] ?_
   refine AW.ret ?_
   obtain rfl:=oi h
   (simp only [go_sem,seval,Ay]<;>try simp)
def f4_s2 (a2:ByteArray) (x30:(List ByteArray)×Er×Trace):Bool×Int→Option ((Bool×Int)⊕Bool)
  | (s2_0,s2_1)=>(if s2_1<((x30.1.length:Nat):Int) then (if s2_0=true then some (.inl (true,IntKind.i64.wrap (s2_1+1))) else ((ix x30.1 s2_1).bind fun x51=>some (.inl (decide (x51=a2),IntKind.i64.wrap (s2_1+1))))) else some (.inr s2_0))
def f4_s4 (x21:(List Res)×Int×ByteArray×Int):(List ByteArray)×Int→Option (((List ByteArray)×Int)⊕(List ByteArray))
  | (s4_0,s4_1)=>(if s4_1<((x21.1.length:Nat):Int) then ((ix x21.1 s4_1).bind fun x104=>((Bq s4_0 [x104.Key]).bind fun x105=>some (.inl (x105,IntKind.i64.wrap (s4_1+1))))) else some (.inr s4_0))
def Xa (x21:(List Res)×Int×ByteArray×Int) (x30:(List ByteArray)×Er×Trace):Unit→Option Bool
  | _=>((loopO (f4_s4 x21) ([],0)).bind fun y107=>((f25 x30.2.2).bind fun x108=>((f26 x108.2.2).bind fun x109=>((f22 x109.1 y107).bind fun x110=>(if x110=true then (if (Er.isNil x108.2.1)=true then ((f28 x21.1).bind fun x113=>((f27 x113).bind fun x114=>(if (strOfNums x108.1)=(strOfNums x114) then ((f7).bind fun x116=>some x116) else some false))) else some false) else some false)))))
def f4 (a0:List (A2 (List Int))) (a1:List Int) (a2:ByteArray) (a3:Int):Option Bool:=((f6 a0 a1).bind fun x6=>(if x6=true then ((f7).bind fun x8=>some x8) else (if 500<(a2.size:Int) then ((f7).bind fun x10=>some x10) else ((f8 a0 a1).bind fun x11=>(match x11 with|(none,e12)=>((f9 a0 a1).bind fun x14=>(if x14.2.1=0 then (if (Er.isNil e12)=true then some false else some false) else ((f7).bind fun x20=>some x20)))|(some b13,e12)=>((f9 a0 a1).bind fun x21=>(if x21.2.1=0 then (if (Er.isNil e12)=true then ((f15 a1).bind fun x26=>((f16 b13 a2).bind fun x27=>((f17 x21.1 a2).bind fun x28=>((f18 x27.2.2 a2).bind fun x29=>((f19 x29.2 a3).bind fun x30=>((f20 x26.1 a3).bind fun x31=>((loopO (f4_s2 a2 x30) (false,0)).bind fun y53=>(if x28.2=(Er.isNil x27.2.1) then (if x28.2=true then (if x27.1=x28.1.Val then ((f21 x29.1 x28.1.Offs).bind fun x120=>(if x120=true then (if x31.2=(Er.isNil x30.2.1) then (if x31.2=true then ((f23 x21.1 a3).bind fun x124=>((f22 x30.1 x124).bind fun x125=>(if x125=true then ((f24 x29.1 a3).bind fun x127=>(if y53=x127 then Xa x21 x30 () else some false)) else some false))) else ((f10 x30.2.1).bind fun x129=>(if x129=320 then ((f24 x29.1 a3).bind fun x131=>(if y53=x131 then Xa x21 x30 () else some false)) else some false))) else some false) else some false)) else some false) else ((f10 x27.2.1).bind fun x133=>(if x133=330 then (if x27.1=x28.1.Val then ((f21 x29.1 x28.1.Offs).bind fun x136=>(if x136=true then (if x31.2=(Er.isNil x30.2.1) then (if x31.2=true then ((f23 x21.1 a3).bind fun x140=>((f22 x30.1 x140).bind fun x141=>(if x141=true then ((f24 x29.1 a3).bind fun x143=>(if y53=x143 then Xa x21 x30 () else some false)) else some false))) else ((f10 x30.2.1).bind fun x145=>(if x145=320 then ((f24 x29.1 a3).bind fun x147=>(if y53=x147 then Xa x21 x30 () else some false)) else some false))) else some false) else some false)) else some false) else some false))) else some false)))))))) else some false) else some false)))))))
theorem ok4 (a0:List (A2 (List Int))) (a1:List Int) (a2:ByteArray) (a3:Int) (h:f4 a0 a1 a2 a3=some true):PC Tryz.prog 4 [.sl (List.map Md a0),.sl (List.map Aw a1),.val (.string a2),.val (.int .i64 a3)] (.val (.bool true)):=by
 rw [f4] at h
 refine Bi (N:=215) (rs:=[.tmp 8]) Tryz.func4 ?_
 refine Ac [0,1,2,3] ?_
 refine AW.seq ?_
 obtain ⟨x6,hx6,h⟩:=bO h
 rcases Aq h with ⟨c7,h⟩|⟨c7,h⟩
 ·refine Kw [0,1,2,3,40] (ok6 a0 a1 x6 hx6) Tryz.call6 ?_
  refine Bp rfl rfl ?_
  obtain ⟨x8,hx8,h⟩:=bO h
  refine Bx [8] (ok7  x8 hx8) Tryz.call7 ?_
  refine AW.ret<|Ad ?_
  obtain rfl:=oi h
  (simp only [go_sem,seval,c7,Ay]<;>try simp)
 ·rw [Bool.not_eq_true] at c7
  refine Kw [0,1,2,3,40] (ok6 a0 a1 x6 hx6) Tryz.call6 ?_
  rcases Aq h with ⟨c9,h⟩|⟨c9,h⟩
  ·refine Aj rfl c9 ?_
   obtain ⟨x10,hx10,h⟩:=bO h
   refine Bx [8] (ok7  x10 hx10) Tryz.call7 ?_
   refine AW.ret<|Ad ?_
   obtain rfl:=oi h
   (simp only [go_sem,seval,c7,eq_true c9,Ay]<;>try simp)
  ·refine Ai rfl c9<|AW.skip<|Aa ?_
   obtain ⟨x11,hx11,h⟩:=bO h
   obtain ⟨(_|b13),e12⟩:=x11
   ·dsimp only at h
    refine Cb [0,1,2,3,9,10] fun K hK=>?_
    simp only [go_sem,seval,c7,eq_false c9]
    refine arC.ok (Br (us':=_) (ok8 a0 a1 (none,e12) hx11) [] (.nil _) (.cons (.of rfl) (.cons (.of rfl) .nil))) Tryz.call8 ?_
    simp only [go_sem,seval,c7,eq_false c9]
    subst hK
    obtain ⟨x14,hx14,h⟩:=bO h
    refine Bx [1,2,3,9,10,11,12] (ok9 a0 a1 x14 hx14) Tryz.call9 ?_
    refine AW.seq<|Ao [1,2,3,9,10,11,57] ?_
    rcases Aq h with ⟨c17,h⟩|⟨c17,h⟩
    ·refine Ai rfl (fun q=>q c17)<|AW.skip<|Aa<|AW.seq ?_
     rcases Aq h with ⟨c19,h⟩|⟨c19,h⟩
     ·cases h
     ·cases h
    ·refine Aj rfl c17 ?_
     obtain ⟨x20,hx20,h⟩:=bO h
     refine Bx [8] (ok7  x20 hx20) Tryz.call7 ?_
     refine AW.ret<|Ad ?_
     obtain rfl:=oi h
     (simp only [go_sem,seval,c7,eq_false c9,eq_false c17,Ay]<;>try simp)
   ·dsimp only at h
    refine Cb [0,1,2,3,9,10] fun K hK=>?_
    simp only [go_sem,seval,c7,eq_false c9]
    refine arC.ok (Br (us':=_) (ok8 a0 a1 (some b13,e12) hx11) [] (.nil _) (.cons (.of rfl) (.cons (.of rfl) .nil))) Tryz.call8 ?_
    simp only [go_sem,seval,c7,eq_false c9]
    subst hK
    obtain ⟨x21,hx21,h⟩:=bO h
    refine Bx [1,2,3,9,10,11,12] (ok9 a0 a1 x21 hx21) Tryz.call9 ?_
    refine AW.seq<|Ao [1,2,3,9,10,11,57] ?_
    rcases Aq h with ⟨c23,h⟩|⟨c23,h⟩
    ·refine Ai rfl (fun q=>q c23)<|AW.skip<|Aa<|AW.seq ?_
     rcases Aq h with ⟨c25,h⟩|⟨c25,h⟩
     ·refine Ao [1,2,3,9,11,68] ?_
      refine Bl rfl rfl<|AW.skip<|Aa ?_
      obtain ⟨x26,hx26,h⟩:=bO h
      refine Bx [2,3,9,11,15] (ok15 a1 x26 hx26) Tryz.call15 ?_
      refine AW.ent (Lk (pre:=[]) (post:=[Iy b13.offs]) (q:=97) (off:=0) (len:=b13.l.length) 96 rfl (Fg (sz:=3) (m:=true) rfl (by first|rfl|(simp [Ar];done)|(simp [Ar];omega)) (by simp only [go_sem])) (by decide)) ?_
      obtain ⟨x27,hx27,h⟩:=bO h
      refine Cb [2,3,9,11,15,18,19] fun K hK=>?_
      simp only [go_sem,seval,c7,eq_false c9,eq_true c23,c25]
      refine arC.ok (Br (us':=_) (ok16 b13 a2 x27 hx27) [96] (.cons (.eq (by simp only [go_sem]) (by first|rfl|simp [Ae,Ap,Cf])) (.nil _)) (.cons (.of rfl) (.cons (.of rfl) .nil))) Tryz.call16 ?_
      simp only [go_sem,seval,c7,eq_false c9,eq_true c23,c25]
      subst hK
      obtain ⟨x28,hx28,h⟩:=bO h
      refine Bx [2,3,9,11,15,18,19,20,21] (ok17 x21.1 a2 x28 hx28) Tryz.call17 ?_
      obtain ⟨x29,hx29,h⟩:=bO h
      refine Cb [2,3,9,11,15,18,19,20,21,22] fun K hK=>?_
      simp only [go_sem,seval,c7,eq_false c9,eq_true c23,c25]
      refine arC.ok (Br (us':=_) (ok18 x27.2.2 a2 x29 hx29) [96] (.cons (.eq (by simp only [go_sem]) (by first|rfl|simp [Ae,Ap,Cf])) (.nil _)) (.cons (.of rfl) (.cons (.of rfl) .nil))) Tryz.call18 ?_
      simp only [go_sem,seval,c7,eq_false c9,eq_true c23,c25]
      subst hK
      obtain ⟨x30,hx30,h⟩:=bO h
      refine Cb [2,3,9,11,15,18,19,20,21,22,23,24] fun K hK=>?_
      simp only [go_sem,seval,c7,eq_false c9,eq_true c23,c25]
      refine arC.ok (Br (us':=_) (ok19 x29.2 a3 x30 hx30) [96] (.cons (.eq (by simp only [go_sem]) (by first|rfl|simp [Ae,Ap,Cf])) (.nil _)) (.cons (.of rfl) (.cons (.of rfl) .nil))) Tryz.call19 ?_
      simp only [go_sem,seval,c7,eq_false c9,eq_true c23,c25]
      subst hK
      obtain ⟨x31,hx31,h⟩:=bO h
      refine Bx [2,3,9,11,18,19,20,21,22,23,24,26] (ok20 x26.1 a3 x31 hx31) Tryz.call20 ?_
      refine Ao [2,3,9,11,18,19,20,21,22,23,24,26,27] ?_
      refine AW.seq<|Ao [2,3,9,11,18,19,20,21,22,23,24,26,27,28] ?_
      refine AW.block ?_
      obtain ⟨y53,hy53,h⟩:=bO h
      refine AW.loopO (fun s=>⟨(Ag (Ag (Ag (Ag (Ag (Ag (Ag (Ag (Ag (Ag (Ag (Ag (Ag (Ag Az 2 (.val (.string a2))) 3 (.val (.int .i64 a3))) 9 (.ptr 8 0 0)) 11 (.own 9 0 x21.1.length)) 18 (.val (.string x27.1))) 19 (.val (Ph x27.2.1))) 20 (.ptr 10 0 0)) 21 (.val (.bool x28.2))) 22 (.sl (List.map Bk x29.1))) 23 (.own 11 0 x30.1.length)) 24 (.val (Ph x30.2.1))) 26 (.val (.bool x31.2))) 27 (.val (.bool s.1))) 28 (.val (.int .i64 s.2))),Bo [] [some (.row 2 true [[.sl (List.map Ak x30.2.2.l),Iy x30.2.2.offs]]),some (.row 3 false (List.map Ak x21.1)),some (.row 3 true [[.val (.string x28.1.Key),.val (.string x28.1.Val),.sl (List.map Bk x28.1.Offs)]]),some (.row 1 true (List.map Cr x30.1))],12⟩) (fun z e st'=>e=Exit.exit 0∧st'=⟨(Ag (Ag (Ag (Ag (Ag (Ag (Ag (Ag (Ag (Ag (Ag (Ag Az 3 (.val (.int .i64 a3))) 9 (.ptr 8 0 0)) 11 (.own 9 0 x21.1.length)) 18 (.val (.string x27.1))) 19 (.val (Ph x27.2.1))) 20 (.ptr 10 0 0)) 21 (.val (.bool x28.2))) 22 (.sl (List.map Bk x29.1))) 23 (.own 11 0 x30.1.length)) 24 (.val (Ph x30.2.1))) 26 (.val (.bool x31.2))) 27 (.val (.bool z))),Bo [] [some (.row 2 true [[.sl (List.map Ak x30.2.2.l),Iy x30.2.2.offs]]),some (.row 3 false (List.map Ak x21.1)),some (.row 3 true [[.val (.string x28.1.Key),.val (.string x28.1.Val),.sl (List.map Bk x28.1.Offs)]]),some (.row 1 true (List.map Cr x30.1))],12⟩) hy53 ?_ ?_ ?_
      ·exact Ab [96,160,488,560] RF.any.qv.qv.qp.qo.qv.qv.qp.qv.qv.qo.qv.qv.qv.qv (.nil _) (.ce (.ce (.ce (.ce (.nil _)))))
      ·clear h hy53
       rintro ⟨s2_0,s2_1⟩ x h
       rw [f4_s2] at h
       refine AW.seq<|Ao [2,3,9,11,18,19,20,21,22,23,24,26,27,28,105] ?_
       rcases Aq h with ⟨c49,h⟩|⟨c49,h⟩
       ·refine Aj rfl c49<|AW.skip<|Aa<|AW.seq<|AW.block ?_
        rcases Aq h with ⟨c50,h⟩|⟨c50,h⟩
        ·refine Bz [2,3,9,11,18,19,20,21,22,23,24,26,27,28] ?_
         refine Ax<|Aa<|Uw [2,3,9,11,18,19,20,21,22,23,24,26,27,28] ?_
         refine Aa ?_
         refine ⟨_,oj h,?_⟩
         exact Ab [8,9,10,11] RF.any.qv.qv.qp.qo.qv.qv.qp.qv.qv.qo.qv.qv.qv.qv (.nil _) (.ce (.ce (.ce (.ce (.nil _)))))
        ·rw [Bool.not_eq_true] at c50
         obtain ⟨x51,hx51,h⟩:=bO h
         obtain ⟨hx51a,hx51b⟩:=ix_some.1 hx51
         refine Dq [2,3,9,11,18,19,20,21,22,23,24,26,27,28] fun K hK=>?_
         simp only [go_sem,seval,c7,eq_false c9,eq_true c23,c25,eq_true c49,c50,Ah hx51a,hx51b,Cm hx51b]
         subst hK
         refine Ax<|Aa<|Dq [2,3,9,11,18,19,20,21,22,23,24,26,27,28] fun K hK=>?_
         simp only [go_sem,seval,c7,eq_false c9,eq_true c23,c25,eq_true c49,c50]
         subst hK
         refine Aa ?_
         refine ⟨_,oj h,?_⟩
         exact Ab [8,9,10,11] RF.any.qv.qv.qp.qo.qv.qv.qp.qv.qv.qo.qv.qv.qv.qv (.nil _) (.ce (.ce (.ce (.ce (.nil _)))))
       ·refine Ai rfl c49<|AW.exit<|Af<|Af ?_
        refine ⟨_,oj h,_,?_,rfl,rfl⟩
        exact Ab [8,9,10,11] RF.any.qv.qp.qo.qv.qv.qp.qv.qv.qo.qv.qv.qv (.nil _) (.ce (.ce (.ce (.ce (.nil _)))))
      ·intro e st' hX
       try dsimp only at h
       try dsimp only at hX
       obtain ⟨rfl,rfl⟩:=hX
       refine ⟨_,Ent.refl,?_⟩
       refine Bc<|Aa ?_
       refine AW.join (fun s=>⟨(Ag (Ag Az 9 (.ptr 8 0 0)) 11 (.own 9 0 x21.1.length)),Bo [] [some (.row 2 true [[.sl (List.map Ak x30.2.2.l),Iy x30.2.2.offs]]),some (.row 3 false (List.map Ak x21.1))],10⟩) (fun s=>Xa x21 x30 s=some true) ?_ ?_
       ·rcases Aq h with ⟨c117,h⟩|⟨c117,h⟩
        ·rcases Aq h with ⟨c118,h⟩|⟨c118,h⟩
         ·rcases Aq h with ⟨c119,h⟩|⟨c119,h⟩
          ·obtain ⟨x120,hx120,h⟩:=bO h
           rcases Aq h with ⟨c121,h⟩|⟨c121,h⟩
           ·rcases Aq h with ⟨c122,h⟩|⟨c122,h⟩
            ·rcases Aq h with ⟨c123,h⟩|⟨c123,h⟩
             ·obtain ⟨x124,hx124,h⟩:=bO h
              obtain ⟨x125,hx125,h⟩:=bO h
              rcases Aq h with ⟨c126,h⟩|⟨c126,h⟩
              ·obtain ⟨x127,hx127,h⟩:=bO h
               refine Cb [9,11,175] fun K hK=>?_
               simp only [go_sem,seval,c7,eq_false c9,eq_true c23,c25,er_eql,nb4,eq_true c117,c118,c117.symm.trans c118,eq_true c119,c121,eq_true c122,c123,c122.symm.trans c123,c126]
               refine arC.of (ok21 x29.1 x28.1.Offs x120 hx120) Tryz.call21 ?_
               simp only [go_sem,seval,c7,eq_false c9,eq_true c23,c25,er_eql,nb4,eq_true c117,c118,c117.symm.trans c118,eq_true c119,c121,eq_true c122,c123,c122.symm.trans c123,c126]
               refine arC.of (ok23 x21.1 a3 x124 hx124) Tryz.call23 ?_
               simp only [go_sem,seval,c7,eq_false c9,eq_true c23,c25,er_eql,nb4,eq_true c117,c118,c117.symm.trans c118,eq_true c119,c121,eq_true c122,c123,c122.symm.trans c123,c126]
               refine arC.of (ok22 x30.1 x124 x125 hx125) Tryz.call22 ?_
               simp only [go_sem,seval,c7,eq_false c9,eq_true c23,c25,er_eql,nb4,eq_true c117,c118,c117.symm.trans c118,eq_true c119,c121,eq_true c122,c123,c122.symm.trans c123,c126]
               refine arC.of (ok24 x29.1 a3 x127 hx127) Tryz.call24 ?_
               simp only [go_sem,seval,c7,eq_false c9,eq_true c23,c25,er_eql,nb4,eq_true c117,c118,c117.symm.trans c118,eq_true c119,c121,eq_true c122,c123,c122.symm.trans c123,c126]
               subst hK
               rcases Aq h with ⟨c128,h⟩|⟨c128,h⟩
               ·refine Pe rfl c128<|AW.skip<|Aa ?_
                refine ⟨_,h,?_⟩
                exact Ab [8,9] RF.any.qp.qo (.nil _) (.ce (.ce (.nil _)))
               ·cases h
              ·cases h
             ·rw [Bool.not_eq_true] at c123
              obtain ⟨x129,hx129,h⟩:=bO h
              rcases Aq h with ⟨c130,h⟩|⟨c130,h⟩
              ·obtain ⟨x131,hx131,h⟩:=bO h
               refine Cb [9,11,175] fun K hK=>?_
               simp only [go_sem,seval,c7,eq_false c9,eq_true c23,c25,er_eql,nb4,eq_true c117,c118,c117.symm.trans c118,eq_true c119,c121,eq_true c122,c123,c122.symm.trans c123,eq_true c130]
               refine arC.of (ok21 x29.1 x28.1.Offs x120 hx120) Tryz.call21 ?_
               simp only [go_sem,seval,c7,eq_false c9,eq_true c23,c25,er_eql,nb4,eq_true c117,c118,c117.symm.trans c118,eq_true c119,c121,eq_true c122,c123,c122.symm.trans c123,eq_true c130]
               refine arC.of (ok10 x30.2.1 x129 hx129) Tryz.call10 ?_
               simp only [go_sem,seval,c7,eq_false c9,eq_true c23,c25,er_eql,nb4,eq_true c117,c118,c117.symm.trans c118,eq_true c119,c121,eq_true c122,c123,c122.symm.trans c123,eq_true c130]
               refine arC.of (ok24 x29.1 a3 x131 hx131) Tryz.call24 ?_
               simp only [go_sem,seval,c7,eq_false c9,eq_true c23,c25,er_eql,nb4,eq_true c117,c118,c117.symm.trans c118,eq_true c119,c121,eq_true c122,c123,c122.symm.trans c123,eq_true c130]
               subst hK
               rcases Aq h with ⟨c132,h⟩|⟨c132,h⟩
               ·refine Pe rfl c132<|AW.skip<|Aa ?_
                refine ⟨_,h,?_⟩
                exact Ab [8,9] RF.any.qp.qo (.nil _) (.ce (.ce (.nil _)))
               ·cases h
              ·cases h
            ·cases h
           ·cases h
          ·cases h
         ·rw [Bool.not_eq_true] at c118
          obtain ⟨x133,hx133,h⟩:=bO h
          rcases Aq h with ⟨c134,h⟩|⟨c134,h⟩
          ·rcases Aq h with ⟨c135,h⟩|⟨c135,h⟩
           ·obtain ⟨x136,hx136,h⟩:=bO h
            rcases Aq h with ⟨c137,h⟩|⟨c137,h⟩
            ·rcases Aq h with ⟨c138,h⟩|⟨c138,h⟩
             ·rcases Aq h with ⟨c139,h⟩|⟨c139,h⟩
              ·obtain ⟨x140,hx140,h⟩:=bO h
               obtain ⟨x141,hx141,h⟩:=bO h
               rcases Aq h with ⟨c142,h⟩|⟨c142,h⟩
               ·obtain ⟨x143,hx143,h⟩:=bO h
                refine Cb [9,11,175] fun K hK=>?_
                simp only [go_sem,seval,c7,eq_false c9,eq_true c23,c25,er_eql,nb4,eq_true c117,c118,c117.symm.trans c118,eq_true c134,eq_true c135,c137,eq_true c138,c139,c138.symm.trans c139,c142]
                refine arC.of (ok10 x27.2.1 x133 hx133) Tryz.call10 ?_
                simp only [go_sem,seval,c7,eq_false c9,eq_true c23,c25,er_eql,nb4,eq_true c117,c118,c117.symm.trans c118,eq_true c134,eq_true c135,c137,eq_true c138,c139,c138.symm.trans c139,c142]
                refine arC.of (ok21 x29.1 x28.1.Offs x136 hx136) Tryz.call21 ?_
                simp only [go_sem,seval,c7,eq_false c9,eq_true c23,c25,er_eql,nb4,eq_true c117,c118,c117.symm.trans c118,eq_true c134,eq_true c135,c137,eq_true c138,c139,c138.symm.trans c139,c142]
                refine arC.of (ok23 x21.1 a3 x140 hx140) Tryz.call23 ?_
                simp only [go_sem,seval,c7,eq_false c9,eq_true c23,c25,er_eql,nb4,eq_true c117,c118,c117.symm.trans c118,eq_true c134,eq_true c135,c137,eq_true c138,c139,c138.symm.trans c139,c142]
                refine arC.of (ok22 x30.1 x140 x141 hx141) Tryz.call22 ?_
                simp only [go_sem,seval,c7,eq_false c9,eq_true c23,c25,er_eql,nb4,eq_true c117,c118,c117.symm.trans c118,eq_true c134,eq_true c135,c137,eq_true c138,c139,c138.symm.trans c139,c142]
                refine arC.of (ok24 x29.1 a3 x143 hx143) Tryz.call24 ?_
                simp only [go_sem,seval,c7,eq_false c9,eq_true c23,c25,er_eql,nb4,eq_true c117,c118,c117.symm.trans c118,eq_true c134,eq_true c135,c137,eq_true c138,c139,c138.symm.trans c139,c142]
                subst hK
                rcases Aq h with ⟨c144,h⟩|⟨c144,h⟩
                ·refine Pe rfl c144<|AW.skip<|Aa ?_
                 refine ⟨_,h,?_⟩
                 exact Ab [8,9] RF.any.qp.qo (.nil _) (.ce (.ce (.nil _)))
                ·cases h
               ·cases h
              ·rw [Bool.not_eq_true] at c139
               obtain ⟨x145,hx145,h⟩:=bO h
               rcases Aq h with ⟨c146,h⟩|⟨c146,h⟩
               ·obtain ⟨x147,hx147,h⟩:=bO h
                refine Cb [9,11,175] fun K hK=>?_
                simp only [go_sem,seval,c7,eq_false c9,eq_true c23,c25,er_eql,nb4,eq_true c117,c118,c117.symm.trans c118,eq_true c134,eq_true c135,c137,eq_true c138,c139,c138.symm.trans c139,eq_true c146]
                refine arC.of (ok10 x27.2.1 x133 hx133) Tryz.call10 ?_
                simp only [go_sem,seval,c7,eq_false c9,eq_true c23,c25,er_eql,nb4,eq_true c117,c118,c117.symm.trans c118,eq_true c134,eq_true c135,c137,eq_true c138,c139,c138.symm.trans c139,eq_true c146]
                refine arC.of (ok21 x29.1 x28.1.Offs x136 hx136) Tryz.call21 ?_
                simp only [go_sem,seval,c7,eq_false c9,eq_true c23,c25,er_eql,nb4,eq_true c117,c118,c117.symm.trans c118,eq_true c134,eq_true c135,c137,eq_true c138,c139,c138.symm.trans c139,eq_true c146]
                refine arC.of (ok10 x30.2.1 x145 hx145) Tryz.call10 ?_
                simp only [go_sem,seval,c7,eq_false c9,eq_true c23,c25,er_eql,nb4,eq_true c117,c118,c117.symm.trans c118,eq_true c134,eq_true c135,c137,eq_true c138,c139,c138.symm.trans c139,eq_true c146]
                refine arC.of (ok24 x29.1 a3 x147 hx147) Tryz.call24 ?_
                simp only [go_sem,seval,c7,eq_false c9,eq_true c23,c25,er_eql,nb4,eq_true c117,c118,c117.symm.trans c118,eq_true c134,eq_true c135,c137,eq_true c138,c139,c138.symm.trans c139,eq_true c146]
                subst hK
                rcases Aq h with ⟨c148,h⟩|⟨c148,h⟩
                ·refine Pe rfl c148<|AW.skip<|Aa ?_
                 refine ⟨_,h,?_⟩
                 exact Ab [8,9] RF.any.qp.qo (.nil _) (.ce (.ce (.nil _)))
                ·cases h
               ·cases h
             ·cases h
            ·cases h
           ·cases h
          ·cases h
        ·cases h
       ·clear h
        rintro ⟨⟩ h
        rw [Xa] at h
        refine Ao [9,11,29] ?_
        refine AW.seq<|Ao [9,11,29,30] ?_
        refine AW.block ?_
        obtain ⟨y107,hy107,h⟩:=bO h
        refine AW.loopO (fun s=>⟨(Ag (Ag (Ag (Ag Az 9 (.ptr 8 0 0)) 11 (.own 9 0 x21.1.length)) 29 (.own 10 0 s.1.length)) 30 (.val (.int .i64 s.2))),Bo [] [some (.row 2 true [[.sl (List.map Ak x30.2.2.l),Iy x30.2.2.offs]]),some (.row 3 false (List.map Ak x21.1)),some (.row 1 true (List.map Cr s.1))],11⟩) (fun z e st'=>e=Exit.exit 2∧st'=⟨(Ag (Ag (Ag Az 9 (.ptr 8 0 0)) 11 (.own 9 0 x21.1.length)) 29 (.own 10 0 z.length)),Bo [] [some (.row 2 true [[.sl (List.map Ak x30.2.2.l),Iy x30.2.2.offs]]),some (.row 3 false (List.map Ak x21.1)),some (.row 1 true (List.map Cr z))],11⟩) hy107 ?_ ?_ ?_
        ·refine Ent.trans (Av 29 1 (by decide) rfl) ?_
         exact Ab [8,9,26] RF.any.qp.qo.qo.qv (.nil _) (.ce (.ce (.ce (.nil _))))
        ·clear h hy107
         rintro ⟨s4_0,s4_1⟩ x h
         rw [f4_s4] at h
         refine AW.seq<|Eb [9,11,29,30,179] ?_
         rcases Aq h with ⟨c103,h⟩|⟨c103,h⟩
         ·refine Aj rfl c103<|AW.skip<|Aa<|AW.seq<|AW.block ?_
          obtain ⟨x104,hx104,h⟩:=bO h
          obtain ⟨hx104a,hx104b⟩:=ix_some.1 hx104
          obtain ⟨x105,hx105,h⟩:=bO h
          obtain ⟨hx105b,hx105e⟩:=appO?_some.1 hx105
          have hx105f:∀id o:Nat,Dw 1 16 id ([[.val (.string x104.Key)]]) 0 s4_0.length o (some (.row 1 true (List.map Cr s4_0)))=some ⟨.own id 0 x105.length,[(o,none),(id,some (.row 1 true (List.map Cr x105)))]⟩:=fun id o=>by
            subst hx105e;rw [Bw (by simp) (by simpa using hx105b) (by decide)];first|(simp [Cr];done)|(simp [Cr];omega)
          refine Dq [9,11,29,30] fun K hK=>?_
          simp only [go_sem,seval,c7,eq_false c9,eq_true c23,c25,eq_true c103,Ah hx104a,hx104b,Cm hx104b,hx105f]
          subst hK
          refine Ax<|Aa<|Dq [9,11,29,30] fun K hK=>?_
          simp only [go_sem,seval,c7,eq_false c9,eq_true c23,c25,eq_true c103]
          subst hK
          refine Aa ?_
          refine ⟨_,oj h,?_⟩
          exact Ab [8,9,99] RF.any.qp.qo.qo.qv (.nil _) (.ce (.ce (.ce (.nil _))))
         ·refine Ai rfl c103<|AW.exit<|Af<|Af ?_
          refine ⟨_,oj h,_,?_,rfl,rfl⟩
          exact Ab [8,9,10] RF.any.qp.qo.qo (.nil _) (.ce (.ce (.ce (.nil _))))
        ·intro e st' hX
         try dsimp only at h
         try dsimp only at hX
         obtain ⟨rfl,rfl⟩:=hX
         refine ⟨_,Ent.refl,?_⟩
         refine Bc<|Aa ?_
         obtain ⟨x108,hx108,h⟩:=bO h
         refine Cb [9,11,29,31,32] fun K hK=>?_
         simp only [go_sem,seval,c7,eq_false c9,eq_true c23,c25]
         refine arC.ok (Br (us':=_) (ok25 x30.2.2 x108 hx108) [8] (.cons (.eq (by simp only [go_sem]) (by first|rfl|simp [Ae,Ap,Cf])) (.nil _)) (.cons (.of rfl) .nil)) Tryz.call25 ?_
         simp only [go_sem,seval,c7,eq_false c9,eq_true c23,c25]
         subst hK
         obtain ⟨x109,hx109,h⟩:=bO h
         obtain ⟨x110,hx110,h⟩:=bO h
         rcases Aq h with ⟨c111,h⟩|⟨c111,h⟩
         ·rcases Aq h with ⟨c112,h⟩|⟨c112,h⟩
          ·obtain ⟨x113,hx113,h⟩:=bO h
           obtain ⟨x114,hx114,h⟩:=bO h
           rcases Aq h with ⟨c115,h⟩|⟨c115,h⟩
           ·obtain ⟨x116,hx116,h⟩:=bO h
            refine AW.rE [8] [0,1,0,7,15,31,63,127,255,511,1023,511,2559,6655,14847,32767,65535,131071,262143,524287,1048575] (tab [(22,[.sl (List.map Cr x109.1),.sl (List.map Cr y107)],.val (.bool x110)),(28,[.sl (List.map Ak x21.1)],.fr 2 (List.map Dp x113)),(27,[.sl (List.map Dp x113)],.fr 1 (List.map Aw x114)),(7,[],.val (.bool x116))]) (Ng (ok22 x109.1 y107 x110 hx110) Tryz.call22 (Ng (ok28 x21.1 x113 hx113) Tryz.call28 (Ng (ok27 x113 x114 hx114) Tryz.call27 (Ng (ok7  x116 hx116) Tryz.call7 tab_nil)))) ?_
            generalize hK:AW Tryz.prog _ _ _=K
            simp only [go_sem,seval,c7,eq_false c9,eq_true c23,c25,c111,er_eql,c112,Ce (enc:=Aw) (fun _=>rfl),eq_true c115,Gk (f:=28) (g:=22) (by decide),Gk (f:=27) (g:=22) (by decide),Gk (f:=27) (g:=28) (by decide),Gk (f:=7) (g:=22) (by decide),Gk (f:=7) (g:=28) (by decide),Gk (f:=7) (g:=27) (by decide)]
            refine adN.ic (ok26 x108.2.2 x109 hx109) Tryz.call26 El [8] rfl (by decide) (by simp) (by simp) (by simp) (by simp) (.cons (.eq (by simp only [go_sem]) (by first|rfl|simp [Ae,Ap,Cf])) (.nil _)) (by simp only [List.nil_append,List.append_nil,List.cons_append,List.map_cons,List.map_nil,Yn,Rq,Ae,Nat.reduceEqDiff,if_true,if_false,↓reduceIte,Dy,Ek,Gn,Cq,Gy,Ia,Ha,Jb,Gz,Hw,Cf,List.getD_cons_zero,List.getD_cons_succ];exact (.cons (.of rfl) .nil)) (by simp only [go_sem,List.length_cons,List.length_nil,Nat.reduceAdd,Nat.reduceLT,decide_true]) (by simp [AObj.isMut]) (by simp [go_sem]) (by simp [go_sem]) ?_
            simp only [go_sem,seval,c7,eq_false c9,eq_true c23,c25,c111,er_eql,c112,Ce (enc:=Aw) (fun _=>rfl),eq_true c115,Gk (f:=28) (g:=22) (by decide),Gk (f:=27) (g:=22) (by decide),Gk (f:=27) (g:=28) (by decide),Gk (f:=7) (g:=22) (by decide),Gk (f:=7) (g:=28) (by decide),Gk (f:=7) (g:=27) (by decide)]
            subst hK
            refine AW.ret ?_
            obtain rfl:=oi h
            (simp only [go_sem,seval,c7,eq_false c9,eq_true c23,c25,c111,c112,eq_true c115,Ay]<;>try simp)
           ·cases h
          ·cases h
         ·cases h
     ·cases h
    ·cases h
end Au
end Go.Proofs.Yt
