import Derived.Test.YtbdncmljibideaaGreatDoorGqUad
import Derived.Test.YtbdncmljibideaaGreatDoorProg
import Derived.KernelRfl
set_option linter.all false
noncomputable section
namespace Go.Gm
structure A3 (α:Type) where
 e0:α
 e1:α
 e2:α
structure A8 (α:Type) where
 e0:α
 e1:α
 e2:α
 e3:α
 e4:α
 e5:α
 e6:α
 e7:α
def A8.get {α:Type} (x:A8 α):Nat→α
 | 0=>x.e0
 | 1=>x.e1
 | 2=>x.e2
 | 3=>x.e3
 | 4=>x.e4
 | 5=>x.e5
 | 6=>x.e6
 | _=>x.e7
def A8.set {α:Type} (x:A8 α) (i:Nat) (v:α):A8 α :=
 ⟨if i=0 then v else x.e0,if i=1 then v else x.e1,if i=2 then v else x.e2,if i=3 then v else x.e3,if i=4 then v else x.e4,if i=5 then v else x.e5,if i=6 then v else x.e6,if i=7 then v else x.e7⟩
def pla1:Nat→Option (Nat×Nat):=fun i=>some (i,1)
theorem pla1_ap (i:Nat):pla1 i=some (i,1):=(rfl)
theorem buildA_arr {P:Program} {hp:Am} {t e n:Nat} {zs:List AV} {parts:List (Nat×AV)} (hz:Fm P t=some zs) (hu:arrO P t=some (n,e)) (hs:Nu P e=some 1):Hg P hp t parts=(Fz hp pla1 zs parts).map .agg:=by
 have:Sg P t=some pla1:=by
  unfold Sg
  rw [arrO_eq hu]
  unfold Nu at hs
  cases hi:P.info? e with
  | none=>rw [hi] at hs;cases hs
  | some i =>
   rw [hi] at hs
   simp only [Option.map_some,Option.some.injEq] at hs
   simp only [hi,Option.map_some,hs,Nat.mul_one]
   rfl
 unfold Hg
 rw [hz,this]
attribute [go_sem] pla1_ap
end Go.Gm
namespace Go.Gm
inductive StL (t off len:Nat) (x:AV):List AV→List AV→Prop
 | nil:StL t off len x [] []
 | keep {u:AV} {us us':List AV} (h:StL t off len x us us'):StL t off len x (u::us) (u::us')
 | own {us us':List AV} (h:StL t off len x us us'):StL t off len x (.own t off len::us) (x::us')
theorem CallOk.still {P:Program} {f:FuncId} {us us':List AV} {hp:Am} {id:Nat} {r:AR} {x:AV} {t off len:Nat} (hx:Fj hp (.own t off len)=some x) (hs:StL t off len x us us') (h:CallOk P f us' (Ag hp t none) id r) :
  CallOk P f us hp id ⟨r.v,(t,none)::r.eff⟩:=fun G al loc w vs hM hf hr=>by
 obtain ⟨hM',x'⟩:=hM.drop t
 have one:∀v,Rel (Bv G.m1 hp al loc w) (.own t off len) v→Rel (Bv G.m1 (Ag hp t none) al (Ag loc t none) w) x v:=fun v hv=>by
  have hb:=Ny (G:=G) hM (m:=fun b=>G.m1 b∨Cs (Ag hp t none) (Ag loc t none) b) (fun b hb=>hb.imp (fun h=>h) fun ⟨t',o',l',k1,k2,k3,k4,k5⟩=>by
   by_cases e:t'=t
   ·subst e;rw [Ba] at k1;cases k1
   ·rw [An _ _ e] at k1 k3;exact ⟨t',o',l',k1,k2,k3,k4,k5⟩) hv hx (fun t1 o1 n1 l he hl hlt=>by
    cases he
    rintro (hb|⟨t',o',l',k1,k2,k3,k4,k5⟩)
    ·exact hM.fgn t l hl hlt hb
    ·by_cases e:t'=t
     ·subst e;rw [Ba] at k1;cases k1
     ·rw [An _ _ e] at k3;exact e (hM.inj _ _ _ _ k3 hl k5 hlt k4))
  have mv:Move (E0 (fun b=>G.m1 b∨Cs (Ag hp t none) (Ag loc t none) b) w) (Bv G.m1 (Ag hp t none) al (Ag loc t none) w) :=
   ⟨Nat.le_refl _,fun b _ hn=>⟨fun hm=>hn (Or.inr (hm.elim Or.inr Or.inl)),rfl⟩⟩
  refine Rel.move mv ?_ hb
  simp only [Fj] at hx
  split at hx
  ·split at hx
   ·rename_i hc;cases hx;simp [inl,hc.2]
   ·cases hx
  ·cases hx
 have hall:∀{us us':List AV} {vs:List Value},StL t off len x us us'→RelL (Bv G.m1 hp al loc w) us vs→RelL (Bv G.m1 (Ag hp t none) al (Ag loc t none) w) us' vs:=fun {us us' vs} hs=>by
  induction hs generalizing vs with
  | nil=>intro h;cases h;exact .nil
  | keep _ ih=>intro h;cases h with|cons a b=>exact .cons (a.ext x') (ih b)
  | own _ ih=>intro h;cases h with|cons a b=>exact .cons (one _ a) (ih b)
 refine (h G al _ w vs hM' hf (hall hs hr)).mono ?_
 rintro e w' ⟨v,loc',rfl,h1,h2,h3⟩
 exact ⟨v,loc',rfl,h1,x'.trans h2,h3⟩
end Go.Gm
namespace Go.Gm
end Go.Gm
namespace Go.Gm
end Go.Gm
namespace Go.Gm
theorem lapp_nil {α:Type} (m:List α):List.append [] m=m:=(rfl)
theorem lapp_cons {α:Type} (a:α) (l m:List α):List.append (a::l) m=a::List.append l m:=(rfl)
attribute [go_sem] lapp_nil lapp_cons
end Go.Gm
namespace Go.Proofs.Yt
open Go.Gm
theorem draws:Tryz.prog.follows .mixedOrders=true:=by kernel_rfl
theorem ag3:Ns Tryz.prog 3=some false:=by kernel_rfl
theorem ag5:Ns Tryz.prog 5=some false:=by kernel_rfl
theorem ag9:Ns Tryz.prog 9=some false:=by kernel_rfl
theorem ag23:Ns Tryz.prog 23=some false:=by kernel_rfl
theorem ag31:Ns Tryz.prog 31=some false:=by kernel_rfl
theorem ag35:Ns Tryz.prog 35=some false:=by kernel_rfl
theorem ag43:Ns Tryz.prog 43=some false:=by kernel_rfl
theorem ag48:Ns Tryz.prog 48=some false:=by kernel_rfl
theorem ag50:Ns Tryz.prog 50=some true:=by kernel_rfl
theorem ag54:Ns Tryz.prog 54=some false:=by kernel_rfl
theorem ag71:Ns Tryz.prog 71=some true:=by kernel_rfl
theorem ag75:Ns Tryz.prog 75=some false:=by kernel_rfl
theorem ag102:Ns Tryz.prog 102=some true:=by kernel_rfl
theorem ag113:Ns Tryz.prog 113=some true:=by kernel_rfl
theorem ag134:Ns Tryz.prog 134=some true:=by kernel_rfl
theorem ag193:Ns Tryz.prog 193=some false:=by kernel_rfl
theorem ag213:Ns Tryz.prog 213=some false:=by kernel_rfl
theorem ap23_9 {hp:Am} {id:Nat} {s x:AV}:Eo Tryz.prog hp id 23 9 s x=Um 1 1 hp id s (Mx Tryz.prog hp 1 9 x):=Gj (e:=5) (by kernel_rfl) (by kernel_rfl)
theorem ap23_23 {hp:Am} {id:Nat} {s x:AV}:Eo Tryz.prog hp id 23 23 s x=Um 1 1 hp id s (Mx Tryz.prog hp 1 23 x):=Gj (e:=5) (by kernel_rfl) (by kernel_rfl)
theorem ap31_31 {hp:Am} {id:Nat} {s x:AV}:Eo Tryz.prog hp id 31 31 s x=Um 3 56 hp id s (Mx Tryz.prog hp 3 31 x):=Gj (e:=50) (by kernel_rfl) (by kernel_rfl)
theorem ap43_43 {hp:Am} {id:Nat} {s x:AV}:Eo Tryz.prog hp id 43 43 s x=Um 2 24 hp id s (Mx Tryz.prog hp 2 43 x):=Gj (e:=102) (by kernel_rfl) (by kernel_rfl)
theorem ap48_48 {hp:Am} {id:Nat} {s x:AV}:Eo Tryz.prog hp id 48 48 s x=Um 1 8 hp id s (Mx Tryz.prog hp 1 48 x):=Gj (e:=3) (by kernel_rfl) (by kernel_rfl)
theorem ap54_54 {hp:Am} {id:Nat} {s x:AV}:Eo Tryz.prog hp id 54 54 s x=Um 1 16 hp id s (Mx Tryz.prog hp 1 54 x):=Gj (e:=9) (by kernel_rfl) (by kernel_rfl)
theorem ap67_67 {hp:Am} {id:Nat} {s x:AV}:Eo Tryz.prog hp id 67 67 s x=Um 2 32 hp id s (Mx Tryz.prog hp 2 67 x):=Gj (e:=113) (by kernel_rfl) (by kernel_rfl)
theorem ap84_84 {hp:Am} {id:Nat} {s x:AV}:Eo Tryz.prog hp id 84 84 s x=Um 1 24 hp id s (Mx Tryz.prog hp 1 84 x):=Gj (e:=31) (by kernel_rfl) (by kernel_rfl)
theorem ap128_128 {hp:Am} {id:Nat} {s x:AV}:Eo Tryz.prog hp id 128 128 s x=Um 2 32 hp id s (Mx Tryz.prog hp 2 128 x):=Gj (e:=134) (by kernel_rfl) (by kernel_rfl)
theorem ar71:arrO Tryz.prog 71=some (2,23):=by kernel_rfl
theorem bd38 {hp:Am} {parts:List (Nat×AV)}:Hg Tryz.prog hp 38 parts=(Fz hp (plf [(0,1),(1,1),(2,1)]) [.val (.string ⟨#[]⟩),.val (.int .i64 0),.val .nilIface] parts).map .agg:=Jx (by kernel_rfl) (by kernel_rfl)
theorem bd50 {hp:Am} {parts:List (Nat×AV)}:Hg Tryz.prog hp 50 parts=(Fz hp (plf [(0,1),(1,1),(2,1)]) [.val (.string ⟨#[]⟩),.val (.string ⟨#[]⟩),.val (.slice none 0 0)] parts).map .agg:=Jx (by kernel_rfl) (by kernel_rfl)
theorem bd71 {hp:Am} {parts:List (Nat×AV)}:Hg Tryz.prog hp 71 parts=(Fz hp pla1 [.val (.slice none 0 0),.val (.slice none 0 0)] parts).map .agg:=buildA_arr (n:=2) (e:=23) (by kernel_rfl) (by kernel_rfl) (by kernel_rfl)
theorem bd83 {hp:Am} {parts:List (Nat×AV)}:Hg Tryz.prog hp 83 parts=(Fz hp (plf [(0,1),(1,1)]) [.val (.slice none 0 0),.val (.map none)] parts).map .agg:=Jx (by kernel_rfl) (by kernel_rfl)
theorem bd102 {hp:Am} {parts:List (Nat×AV)}:Hg Tryz.prog hp 102 parts=(Fz hp (plf [(0,1),(1,1)]) [.val (.int .i64 0),.val (.string ⟨#[]⟩)] parts).map .agg:=Jx (by kernel_rfl) (by kernel_rfl)
theorem bd113 {hp:Am} {parts:List (Nat×AV)}:Hg Tryz.prog hp 113 parts=(Fz hp (plf [(0,1),(1,1)]) [.val (.int .i64 0),.val (.slice none 0 0)] parts).map .agg:=Jx (by kernel_rfl) (by kernel_rfl)
theorem bd134 {hp:Am} {parts:List (Nat×AV)}:Hg Tryz.prog hp 134 parts=(Fz hp (plf [(0,1),(1,1)]) [.val (.string ⟨#[]⟩),.val (.string ⟨#[]⟩)] parts).map .agg:=Jx (by kernel_rfl) (by kernel_rfl)
theorem bd248 {hp:Am} {parts:List (Nat×AV)}:Hg Tryz.prog hp 248 parts=(Fz hp (plf [(0,1),(1,1),(2,1)]) [.val (.slice none 0 0),.val (.int .i64 0),.val (.int .i64 0)] parts).map .agg:=Jx (by kernel_rfl) (by kernel_rfl)
theorem el22:Cz Tryz.prog 22=some 71:=by kernel_rfl
theorem Pn:Cz Tryz.prog 23=some 5:=by kernel_rfl
theorem el31:Cz Tryz.prog 31=some 50:=by kernel_rfl
theorem el43:Cz Tryz.prog 43=some 102:=by kernel_rfl
theorem el48:Cz Tryz.prog 48=some 3:=by kernel_rfl
theorem el54:Cz Tryz.prog 54=some 9:=by kernel_rfl
theorem el67:Cz Tryz.prog 67=some 113:=by kernel_rfl
theorem el84:Cz Tryz.prog 84=some 31:=by kernel_rfl
theorem el128:Cz Tryz.prog 128=some 134:=by kernel_rfl
theorem en71:Cz Tryz.prog 71=none:=by kernel_rfl
theorem fl50_0:Hc Tryz.prog 50 0=some (0,9):=by kernel_rfl
theorem fl50_1:Hc Tryz.prog 50 1=some (1,9):=by kernel_rfl
theorem fl50_2:Hc Tryz.prog 50 2=some (2,48):=by kernel_rfl
theorem fl83_0:Hc Tryz.prog 83 0=some (0,31):=by kernel_rfl
theorem fl83_1:Hc Tryz.prog 83 1=some (1,75):=by kernel_rfl
theorem fl102_0:Hc Tryz.prog 102 0=some (0,3):=by kernel_rfl
theorem fl113_0:Hc Tryz.prog 113 0=some (0,3):=by kernel_rfl
theorem fl113_1:Hc Tryz.prog 113 1=some (1,54):=by kernel_rfl
theorem fl134_0:Hc Tryz.prog 134 0=some (0,9):=by kernel_rfl
theorem fl134_1:Hc Tryz.prog 134 1=some (1,9):=by kernel_rfl
theorem fl248_0:Hc Tryz.prog 248 0=some (0,23):=by kernel_rfl
theorem fl248_1:Hc Tryz.prog 248 1=some (1,3):=by kernel_rfl
theorem fl248_2:Hc Tryz.prog 248 2=some (2,35):=by kernel_rfl
theorem ik3:Kn Tryz.prog 3=some .i64:=by kernel_rfl
theorem ik5:Kn Tryz.prog 5=some .u8:=by kernel_rfl
theorem ik168:Kn Tryz.prog 168=some .u64:=by kernel_rfl
theorem ik213:Kn Tryz.prog 213=some .u32:=by kernel_rfl
theorem ik224:Kn Tryz.prog 224=some .u64:=by kernel_rfl
theorem mk22:Mk Tryz.prog 22=some (71,2,48,[.val (.slice none 0 0),.val (.slice none 0 0)]):=by kernel_rfl
theorem mk23:Mk Tryz.prog 23=some (5,1,1,[.val (.int .u8 0)]):=by kernel_rfl
theorem mk31:Mk Tryz.prog 31=some (50,3,56,[.val (.string ⟨#[]⟩),.val (.string ⟨#[]⟩),.val (.slice none 0 0)]):=by kernel_rfl
theorem mk43:Mk Tryz.prog 43=some (102,2,24,[.val (.int .i64 0),.val (.string ⟨#[]⟩)]):=by kernel_rfl
theorem mk48:Mk Tryz.prog 48=some (3,1,8,[.val (.int .i64 0)]):=by kernel_rfl
theorem mk54:Mk Tryz.prog 54=some (9,1,16,[.val (.string ⟨#[]⟩)]):=by kernel_rfl
theorem mk67:Mk Tryz.prog 67=some (113,2,32,[.val (.int .i64 0),.val (.slice none 0 0)]):=by kernel_rfl
theorem mk84:Mk Tryz.prog 84=some (31,1,24,[.val (.slice none 0 0)]):=by kernel_rfl
theorem mk128:Mk Tryz.prog 128=some (134,2,32,[.val (.string ⟨#[]⟩),.val (.string ⟨#[]⟩)]):=by kernel_rfl
theorem ni35:Ij Tryz.prog 35=true:=by kernel_rfl
theorem ni38:Ij Tryz.prog 38=true:=by kernel_rfl
theorem ni88:Ij Tryz.prog 88=true:=by kernel_rfl
theorem nn26 {x y:Operand}:Gs Tryz.prog .eql 26 x y (.pointer none) (.pointer none)=some (.bool true):=by kernel_rfl
theorem pt26:Qd Tryz.prog 26=true:=by kernel_rfl
theorem st9:Gd Tryz.prog 9=true:=by kernel_rfl
theorem sz3:Nu Tryz.prog 3=some 1:=by kernel_rfl
theorem sz5:Nu Tryz.prog 5=some 1:=by kernel_rfl
theorem sz9:Nu Tryz.prog 9=some 1:=by kernel_rfl
theorem sz23:Nu Tryz.prog 23=some 1:=by kernel_rfl
theorem sz31:Nu Tryz.prog 31=some 1:=by kernel_rfl
theorem sz35:Nu Tryz.prog 35=some 1:=by kernel_rfl
theorem sz43:Nu Tryz.prog 43=some 1:=by kernel_rfl
theorem sz48:Nu Tryz.prog 48=some 1:=by kernel_rfl
theorem sz50:Nu Tryz.prog 50=some 3:=by kernel_rfl
theorem sz54:Nu Tryz.prog 54=some 1:=by kernel_rfl
theorem sz71:Nu Tryz.prog 71=some 2:=by kernel_rfl
theorem sz75:Nu Tryz.prog 75=some 1:=by kernel_rfl
theorem sz102:Nu Tryz.prog 102=some 2:=by kernel_rfl
theorem sz113:Nu Tryz.prog 113=some 2:=by kernel_rfl
theorem sz134:Nu Tryz.prog 134=some 2:=by kernel_rfl
theorem sz193:Nu Tryz.prog 193=some 1:=by kernel_rfl
theorem sz213:Nu Tryz.prog 213=some 1:=by kernel_rfl
theorem u85:isU8 Tryz.prog 5=true:=by kernel_rfl
theorem un3:(Tryz.prog.underlying 3).isSome=true:=by kernel_rfl
theorem un5:(Tryz.prog.underlying 5).isSome=true:=by kernel_rfl
theorem un168:(Tryz.prog.underlying 168).isSome=true:=by kernel_rfl
theorem un213:(Tryz.prog.underlying 213).isSome=true:=by kernel_rfl
theorem un224:(Tryz.prog.underlying 224).isSome=true:=by kernel_rfl
theorem zr3:Fm Tryz.prog 3=some [.val (.int .i64 0)]:=by kernel_rfl
theorem zr23:Fm Tryz.prog 23=some [.val (.slice none 0 0)]:=by kernel_rfl
theorem zr35:Fm Tryz.prog 35=some [.val (.int .i64 0)]:=by kernel_rfl
theorem zr43:Fm Tryz.prog 43=some [.val (.slice none 0 0)]:=by kernel_rfl
theorem zr50:Fm Tryz.prog 50=some [.val (.string ⟨#[]⟩),.val (.string ⟨#[]⟩),.val (.slice none 0 0)]:=by kernel_rfl
theorem zr71:Fm Tryz.prog 71=some [.val (.slice none 0 0),.val (.slice none 0 0)]:=by kernel_rfl
theorem zr75:Fm Tryz.prog 75=some [.val (.map none)]:=by kernel_rfl
theorem zr102:Fm Tryz.prog 102=some [.val (.int .i64 0),.val (.string ⟨#[]⟩)]:=by kernel_rfl
theorem zr113:Fm Tryz.prog 113=some [.val (.int .i64 0),.val (.slice none 0 0)]:=by kernel_rfl
theorem zr134:Fm Tryz.prog 134=some [.val (.string ⟨#[]⟩),.val (.string ⟨#[]⟩)]:=by kernel_rfl
theorem zr193:Fm Tryz.prog 193=some [.val .nilFunc]:=by kernel_rfl
theorem zr213:Fm Tryz.prog 213=some [.val (.int .u32 0)]:=by kernel_rfl
attribute [go_sem] ag3 ag5 ag9 ag23 ag31 ag35 ag43 ag48 ag50 ag54 ag71 ag75 ag102 ag113 ag134 ag193 ag213 ap23_9 ap23_23 ap31_31 ap43_43 ap48_48 ap54_54 ap67_67 ap84_84 ap128_128 ar71 bd38 bd50 bd71 bd83 bd102 bd113 bd134 bd248 el22 Pn el31 el43 el48 el54 el67 el84 el128 en71 fl50_0 fl50_1 fl50_2 fl83_0 fl83_1 fl102_0 fl113_0 fl113_1 fl134_0 fl134_1 fl248_0 fl248_1 fl248_2 ik3 ik5 ik168 ik213 ik224 mk22 mk23 mk31 mk43 mk48 mk54 mk67 mk84 mk128 ni35 ni38 ni88 nn26 pt26 st9 sz3 sz5 sz9 sz23 sz31 sz35 sz43 sz48 sz50 sz54 sz71 sz75 sz102 sz113 sz134 sz193 sz213 u85 un3 un5 un168 un213 un224 zr3 zr23 zr35 zr43 zr50 zr71 zr75 zr102 zr113 zr134 zr193 zr213
end Go.Proofs.Yt
namespace Go.Gm
def Gp (n:Int):Value:=.int .i64 n
def Uy (_:Int):AV:=.val (.bool true)
def Iy (l:List Int):AV:=.im (l.map Gp) (l.map Uy)
def moM (l:List Int):AObj:=.mapo (l.map Gp) (l.map Uy)
def insM (a:Int) (l:List Int):List Int:=if a∈l then l else l++[a]
theorem Vh (l:List Int):(l.map Gp).all (isK .i64)=true:=by
 induction l with
 | nil=>rfl
 | cons a l ih=>simp only [List.map_cons,List.all_cons,ih,Bool.and_true];rfl
theorem find_encM (a:Int) (l:List Int):Mm a (l.map Gp) (l.map Uy)=if a∈l then some (.val (.bool true)) else none:=by
 induction l with
 | nil=>rfl
 | cons b l ih =>
  by_cases e:b=a
  ·subst e;simp [Mm,Gp,Uy,eqK]
  ·have e':¬a=b:=fun x=>e x.symm
   simp only [List.map_cons,Mm,ih,List.mem_cons,e',false_or]
   simp [Gp,eqK,e]
theorem set_encM (a:Int) (l:List Int):Pt .i64 a (l.map Gp)=(insM a l).map Gp∧Ps a (.val (.bool true)) (l.map Gp) (l.map Uy)=(insM a l).map Uy:=by
 induction l with
 | nil=>exact ⟨rfl,rfl⟩
 | cons b l ih =>
  by_cases e:b=a
  ·subst e;simp [Pt,Ps,Gp,Uy,eqK,insM]
  ·have e':¬a=b:=fun x=>e x.symm
   simp only [List.map_cons,Pt,Ps,ih.1,ih.2]
   by_cases m:a∈l<;>simp [Gp,Uy,eqK,e,e',insM,m]
theorem look_encM {P:Program} {hp:Am} {t:TypeId} (h:Qb P t=some (.i64,.bool false)) (l:List Int) (a:Int):Qc P hp t (Iy l) (.val (.int .i64 a))=some (.val (.bool (decide (a∈l)))):=by
 simp only [Qc,Iy,Nl,h,Vh,find_encM,and_self,if_true]
 by_cases m:a∈l<;>simp [m]
theorem upd_encM {P:Program} {t:TypeId} (h:Qb P t=some (.i64,.bool false)) (l:List Int) (a:Int) (o:Nat):Xi P t o (some (moM l)) (.val (.int .i64 a)) (.val (.bool true))=some [(o,some (moM (insM a l)))]:=by
 simp only [Xi,moM,h,Vh,(set_encM a l).1,(set_encM a l).2,and_self,if_true]
theorem upd_encM0 {P:Program} {t:TypeId} (h:Qb P t=some (.i64,.bool false)) (a:Int) (o:Nat):Xi P t o (some (.mapo [] [])) (.val (.int .i64 a)) (.val (.bool true))=some [(o,some (moM (insM a [])))]:=upd_encM h [] a o
theorem updA_mp {P:Program} {hp:Am} {t:TypeId} {o:Nat} {k x:AV}:updA P hp t (.mp o) k x=Xi P t o (hp o) k x:=rfl
theorem inl_vM (l:List Int):Di (l.map Uy)=true:=by
 induction l with
 | nil=>simp only [List.map_nil,Di]
 | cons a l ih=>simp only [List.map_cons,Di,ih,Uy,inl,Bool.and_self]
theorem Mj (τ:Nat→Nat) (l:List Int):Bh τ (Iy l)=Iy l:=by simp only [Iy,Bh]
theorem tokL_im (m:Nat) (l:List Int):Bn m (Iy l)=true:=by simp only [Iy,Bn,inl_vM]
theorem inl_im (l:List Int):inl (Iy l)=true:=by simp only [Iy,inl,inl_vM]
theorem sealV_im {hp:Am} (l:List Int):Cl hp (Iy l)=some (Iy l,[]):=by simp only [Iy,Cl,inl_vM,if_true]
theorem claimV_im (l:List Int) (k:Nat):Bt (Iy l) k=(Iy l,[]):=by simp only [Iy,Bt]
theorem oneAV_im {hp:Am} (l:List Int):Dj hp (Iy l)=true:=by simp only [Iy,Dj]
theorem shares_im (l:List Int):Ci (Iy l)=true:=by simp only [Iy,Ci]
theorem cellsOf_im (l:List Int):cellsOf (Iy l)=[Iy l]:=rfl
theorem cellsOf_mp (t:Nat):cellsOf (.mp t)=[.mp t]:=rfl
attribute [go_sem] updA_mp Mj tokL_im inl_im sealV_im claimV_im oneAV_im shares_im cellsOf_im cellsOf_mp
theorem Weak.nilM:Weak (.val (.map none)) (Iy []):=fun _ _ h=>by cases h;exact .im0
theorem Ent.stillMap0 {N nx:Nat} {fr:Nat→AV} {hp:Am} {ks:List Value} {us:List AV} {t:Nat} (d:Nat) (hd:fr d=.mp t) (hx:hp t=some (.mapo ks us)):Ent N ⟨fr,hp,nx⟩ ⟨Ag fr d (.im ks us),Ag hp t none,nx⟩:=fun P G a w hc=>by
 obtain ⟨h1,h2,loc,hM,hr⟩:=conc_iff.1 hc
 clear hc
 refine conc_iff.2 ?_
 obtain ⟨hM',x'⟩:=hM.drop t
 refine ⟨h1,h2,_,hM',fun d'=>?_⟩
 by_cases e:d'=d
 ·subst e
  show Rel _ (Ag fr d' (.im ks us) d') _
  rw [Ba]
  obtain ⟨l,hl,hlt,ens,clock,xs,hh,he,hx',hrl⟩:=hM.obj t _ hx
  have hv:=hd▸hr d'
  have hlb:l.b<w.heap.size:=hM.lt hl hlt
  generalize a.tmps.getD d' undef=v at hv
  have:v=.map (some l.b):=by cases hv with|mp ha hh=>exact hh l hl
  subst this
  refine .im hlb ?_ hh he hx' (hrl.ext x')
  rintro (⟨t',o',l',k1,k2,k3,k4,k5⟩|hb)
  ·by_cases e:t'=t
   ·subst e;rw [Ba] at k1;cases k1
   ·rw [An _ _ e] at k3;exact e (hM.inj _ _ _ _ k3 hl k5 hlt k4)
  ·exact hM.fgn t l hl hlt hb
 ·show Rel _ (Ag fr d (.im ks us) d') _
  rw [An _ _ e];exact (hr d').ext x'
theorem Ent.stillMap {N nx:Nat} {fr:Nat→AV} {hp:Am} {l:List Int} {t:Nat} (d:Nat) (hd:fr d=.mp t) (hx:hp t=some (moM l)):Ent N ⟨fr,hp,nx⟩ ⟨Ag fr d (Iy l),Ag hp t none,nx⟩:=Ent.stillMap0 d hd hx
end Go.Gm
namespace Go.Gm
theorem mapTL_vM (τ:Nat→Nat) (l:List Int):Bb τ (l.map Uy)=l.map Uy:=Jn τ (inl_vM l)
theorem ORen.mpe {τ:Nat→Nat} {m:Nat} {o:Option AObj} {l:List Int} (h:o=some (moM l)):ORen τ m o (some (moM l)):=by rw [h];have:=ORen.mp (τ:=τ) (m:=m) (ks:=l.map Gp) (vs:=l.map Uy) (Jj m (inl_vM l));rwa [mapTL_vM] at this
theorem PC.fr_sl {P:Program} {f:FuncId} {us:List AV} {sz:Nat} {rows:List (List AV)} (h:PC P f us (.fr sz rows)):PC P f us (.sl rows):=fun m w vs hm ht hr=>by
 refine (h m w vs hm ht hr).mono ?_
 rintro e w' ⟨v,hp,al,loc,r,ts,rfl,hM,hv,hs,hn⟩
 unfold Cl at hs
 split at hs
 ·rename_i t off len
  split at hs
  ·rename_i sz' rows' ho
   split at hs
   ·rename_i hc
    obtain ⟨c1,c2,c3⟩:=hc
    cases hs
    subst c1
    obtain ⟨hM',x'⟩:=hM.drop t
    have hx:Fj hp (.own t 0 len)=some (.sl rows):=by simp [Fj,ho,c2,c3]
    have hb:=Ny hM (m:=fun b=>m b∨Cs (Ag hp t none) (Ag loc t none) b) (fun b hb=>hb.imp id fun ⟨t',o',l',k1,k2,k3,k4,k5⟩=>by
     by_cases e:t'=t
     ·subst e;rw [Ba] at k1;cases k1
     ·rw [An _ _ e] at k1 k3;exact ⟨t',o',l',k1,k2,k3,k4,k5⟩) hv hx (fun t1 o1 n1 l he hl hlt=>by
      cases he
      rintro (hb|⟨t',o',l',k1,k2,k3,k4,k5⟩)
      ·exact hM.fgn t l hl hlt hb
      ·by_cases e:t'=t
       ·subst e;rw [Ba] at k1;cases k1
       ·rw [An _ _ e] at k3;exact e (hM.inj _ _ _ _ k3 hl k5 hlt k4))
    have mv:Move (E0 (fun b=>m b∨Cs (Ag hp t none) (Ag loc t none) b) w') (Bv m (Ag hp t none) al (Ag loc t none) w') :=
     ⟨Nat.le_refl _,fun b _ hn=>⟨fun hm=>hn (Or.inr (hm.elim Or.inr Or.inl)),rfl⟩⟩
    exact ⟨v,_,al,_,.sl rows,[],rfl,hM',Rel.move mv (by simp [inl,c3]) hb,by simp [Cl,c3],List.nodup_nil⟩
   ·cases hs
  ·cases hs
 ·cases e:Ir hp _ with
  | none=>rw [e] at hs;cases hs
  | some x=>rw [e] at hs;cases hs
 ·cases e:Ir hp _ with
  | none=>rw [e] at hs;cases hs
  | some x=>rw [e] at hs;cases hs
 all_goals first|(cases hs;done)|(split at hs<;>cases hs)
end Go.Gm
namespace Go.Proofs.Yt
open Go.Gm
namespace Au
structure A2 (α:Type) where
  e0:α
  e1:α
inductive Er where
  | nil
  | no (n:Int)
  | slip (s:ByteArray) (k:Int) (e:Er)
instance : Inhabited Er := ⟨.nil⟩
def Ph:Er→Value
  | .nil=>.nilIface
  | .no n=>.iface 35 (.int .i64 n)
  | .slip s k e=>.iface 38 (.agg #[.string s,.int .i64 k,Ph e])
def Er.isNil:Er→Bool
  | .nil=>true
  | _=>false
@[go_sem] theorem erV_nil:Ph .nil=.nilIface:=rfl
@[go_sem] theorem erV_no (n:Int):Ph (.no n)=.iface 35 (.int .i64 n):=rfl
@[go_sem] theorem erV_slip (s:ByteArray) (k:Int) (e:Er):Ph (.slip s k e)=.iface 38 (.agg #[.string s,.int .i64 k,Ph e]):=rfl
@[go_sem] theorem er_eqlI {x:Operand} {t:TypeId} {v:Value}:Gs Tryz.prog .eql 28 x (.const .nilIface) (.iface t v) .nilIface=some (.bool false):=by kernel_rfl
@[go_sem] theorem er_neqI {x:Operand} {t:TypeId} {v:Value}:Gs Tryz.prog .neq 28 x (.const .nilIface) (.iface t v) .nilIface=some (.bool true):=by kernel_rfl
@[go_sem] theorem er_eqlN {x:Operand}:Gs Tryz.prog .eql 28 x (.const .nilIface) .nilIface .nilIface=some (.bool true):=by cases x<;>kernel_rfl
@[go_sem] theorem er_neqN {x:Operand}:Gs Tryz.prog .neq 28 x (.const .nilIface) .nilIface .nilIface=some (.bool false):=by cases x<;>kernel_rfl
@[go_sem] theorem er_eql {x:Operand} {e:Er}:Gs Tryz.prog .eql 28 x (.const .nilIface) (Ph e) .nilIface=some (.bool e.isNil):=by
  cases e
  · rw [erV_nil];exact er_eqlN
  · rw [erV_no];exact er_eqlI
  · rw [erV_slip];exact er_eqlI
@[go_sem] theorem er_neq {x:Operand} {e:Er}:Gs Tryz.prog .neq 28 x (.const .nilIface) (Ph e) .nilIface=some (.bool (!e.isNil)):=by
  cases e
  · rw [erV_nil];exact er_neqN
  · rw [erV_no];exact er_neqI
  · rw [erV_slip];exact er_neqI
@[go_sem] theorem oneAV_er {hp:Am} (e:Er):Dj hp (.val (Ph e))=true:=by cases e<;>rfl
@[go_sem] theorem resV_er {hp:Am} (e:Er):Fj hp (.val (Ph e))=some (.val (Ph e)):=by cases e<;>rfl
@[go_sem] theorem tokL_ifc (m:Nat) (t:TypeId) (u:AV):Bn m (.ifc t u)=Bn m u:=by simp only [Bn]
@[go_sem] theorem u8o23:u8O Tryz.prog 23=true:=by kernel_rfl
theorem mi75:Qb Tryz.prog 75=some (.i64,.bool false):=by kernel_rfl
end Au
end Go.Proofs.Yt
namespace Go.Gm
structure A32 (α:Type) where
 e0:α
 e1:α
 e2:α
 e3:α
 e4:α
 e5:α
 e6:α
 e7:α
 e8:α
 e9:α
 e10:α
 e11:α
 e12:α
 e13:α
 e14:α
 e15:α
 e16:α
 e17:α
 e18:α
 e19:α
 e20:α
 e21:α
 e22:α
 e23:α
 e24:α
 e25:α
 e26:α
 e27:α
 e28:α
 e29:α
 e30:α
 e31:α
def A32.get {α:Type} (x:A32 α):Nat→α
 | 0=>x.e0
 | 1=>x.e1
 | 2=>x.e2
 | 3=>x.e3
 | 4=>x.e4
 | 5=>x.e5
 | 6=>x.e6
 | 7=>x.e7
 | 8=>x.e8
 | 9=>x.e9
 | 10=>x.e10
 | 11=>x.e11
 | 12=>x.e12
 | 13=>x.e13
 | 14=>x.e14
 | 15=>x.e15
 | 16=>x.e16
 | 17=>x.e17
 | 18=>x.e18
 | 19=>x.e19
 | 20=>x.e20
 | 21=>x.e21
 | 22=>x.e22
 | 23=>x.e23
 | 24=>x.e24
 | 25=>x.e25
 | 26=>x.e26
 | 27=>x.e27
 | 28=>x.e28
 | 29=>x.e29
 | 30=>x.e30
 | _=>x.e31
def idxP (P:Program) (t:TypeId) (a b:Option Value):Option AR:=match a,b with
 | some a,some b=>(Qu P (Instr.index t a b)).map fun v=>⟨.val v,[]⟩
 | _,_=>none
theorem plain_index {P:Program} {fr:Operand→AV} {d:Option Tmp} {t:TypeId} {x i:Operand} {ty:TypeId} {pos:String} {af:Array Edge} {g:Option (Nat×Bool)}:Cx P fr ⟨d,.index t x i,ty,pos,af,g⟩=idxP P t (Mw (fr x)) (Mw (fr i)):=by
 unfold Cx Mh idxP
 cases ha:Mw (fr x)<;>cases hb:Mw (fr i)<;>simp [Op.operands,ha,hb,execOp,Fu,Ck]
 rename_i a b
 simp only [Ox]
 cases Qu P (Instr.index t a b)<;>rfl
attribute [go_sem] plain_index
end Go.Gm
namespace Go.Gm
def cmpI (P:Program) (d:Nat) (e:TypeId) (xs ys:Array Value) (sz:Nat):List Nat→Option Bool
 | []=>some true
 | i::l=>((Qu P (part e xs (i*sz))).bind fun u=>(Qu P (part e ys (i*sz))).bind fun v=>Qu P (Op.equalIn d e u v)).bind fun r=>if r=true then cmpI P d e xs ys sz l else some false
end Go.Gm
namespace Go.Gm
theorem idxO_agg {P:Program} {t:TypeId} {cs:List AV} {y:AV} {pl:Option AR}:idxO P t (.agg cs) y pl=pl:=(rfl)
attribute [go_sem] idxO_agg
end Go.Gm
namespace Go.Gm
theorem Weak.fnclo {f:FuncId}:Weak (.val (.func (.func f) #[] #[])) (.clo (.func f) [] []):=fun _ _ h=>by
  cases h with
  | val=>exact .clo (f':=[]) (c':=[]) .nil .nil
theorem Hz {α:Type} {enc:α→List AV} {y:α} {r:List AV} (h:enc y=r) (l:List α) (i:Nat):(l.map enc).set i r=(l.set i y).map enc:=by rw [←h,List.map_set]
attribute [go_sem] resA Tj resOf_2 Vb sealV_sl sealV_agg sealV_tup sealV_own sealL_nil sealL_cons sealV_clo resOf_clo
def finJ (P:Program) (N:Nat) (rs:List ResultVar) (X:AV) (a1 b1:List (Option AObj)) (e:Exit) (st:ASt):Prop:=∃st',Ent N st st'∧finI P rs X a1 b1 e st'
theorem Oe {P:Program} {f:FuncId} {fn:Func} {c:Code} {us:List AV} {X:AV} {a0 a1 b1:List (Option AObj)} {N:Nat} {rs:List ResultVar} (hf:P.funcs[f]?=some fn) (hb:fn.body=some c) (hN:fn.ntmps=N) (hrs:fn.results.toList=rs) (hn:us.length≤N)
    (h:AW P N c (finJ P N rs X a1 b1) ⟨Ht us,Bo a0 [],8⟩):IC P f a0 us X a1 b1 :=
  Qg hf hb hN hrs hn (h.mono fun _ _ h=>h)
theorem Gz (τ:Nat→Nat) (f:Fn) (a b:List AV):Bh τ (.clo f a b)=.clo f (Bb τ a) (Bb τ b):=by simp only [Bh]
theorem tokL_clo0 (m:Nat) (f:Fn):Bn m (.clo f [] [])=true:=by simp [Bn,By]
attribute [go_sem] tokL_clo0
end Go.Gm
set_option maxRecDepth 8000
set_option maxHeartbeats 1000000
namespace Go.Proofs.Yt
open Go.Gm
namespace Au
def Bk (x:Int):List AV:=[.val (.int .i64 x)]
attribute [go_sem] Bk
theorem inl_enc3 (x:Int):Di (Bk x)=true:=by simp only [go_sem]
theorem Oc (l:List Int):(∀r∈l.map Bk,r.length=1)=True:=Sn (f:=Bk) (fun _=>rfl) l
theorem ir_enc3 (l:List Int):Cy (l.map Bk)=true:=Gq inl_enc3 l
theorem mr_enc3 (τ:Nat→Nat) (l:List Int):(l.map Bk).map (Bb τ)=l.map Bk:=Qa τ (ir_enc3 l)
theorem no_enc3 (x:Int):Du (Bk x)=Bk x:=by simp [Bk,Du,norm,go_sem]
theorem nr_enc3 (l:List Int):Fp (l.map Bk)=l.map Bk:=Ln no_enc3 l
attribute [go_sem] Oc ir_enc3 mr_enc3 nr_enc3
structure Slip where
  Stage:ByteArray
  No:Int
  Err:Er
def encSlip (x:Slip):List AV:=[.val (.string x.Stage),.val (.int .i64 x.No),.val (Ph x.Err)]
attribute [go_sem] encSlip
def Aw (x:Int):List AV:=[.val (.int .u8 x)]
attribute [go_sem] Aw
theorem inl_enc5 (x:Int):Di (Aw x)=true:=by simp only [go_sem]
theorem Eu (l:List Int):(∀r∈l.map Aw,r.length=1)=True:=Sn (f:=Aw) (fun _=>rfl) l
theorem ir_enc5 (l:List Int):Cy (l.map Aw)=true:=Gq inl_enc5 l
theorem mr_enc5 (τ:Nat→Nat) (l:List Int):(l.map Aw).map (Bb τ)=l.map Aw:=Qa τ (ir_enc5 l)
theorem no_enc5 (x:Int):Du (Aw x)=Aw x:=by simp [Aw,Du,norm,go_sem]
theorem nr_enc5 (l:List Int):Fp (l.map Aw)=l.map Aw:=Ln no_enc5 l
attribute [go_sem] Eu ir_enc5 mr_enc5 nr_enc5
def Md (x:A2 (List Int)):List AV:=[.sl (List.map Aw x.e0),.sl (List.map Aw x.e1)]
attribute [go_sem] Md
theorem inl_enc71 (x:A2 (List Int)):Di (Md x)=true:=by simp only [go_sem]
theorem ir_enc71 (l:List (A2 (List Int))):Cy (l.map Md)=true:=Gq inl_enc71 l
attribute [go_sem] ir_enc71
structure Res where
  Key:ByteArray
  Val:ByteArray
  Offs:List Int
def Ak (x:Res):List AV:=[.val (.string x.Key),.val (.string x.Val),.sl (List.map Bk x.Offs)]
attribute [go_sem] Ak
theorem inl_encRes (x:Res):Di (Ak x)=true:=by simp only [go_sem]
theorem Vf (l:List Res):(∀r∈l.map Ak,r.length=3)=True:=Sn (f:=Ak) (fun _=>rfl) l
theorem ir_encRes (l:List Res):Cy (l.map Ak)=true:=Gq inl_encRes l
theorem mr_encRes (τ:Nat→Nat) (l:List Res):(l.map Ak).map (Bb τ)=l.map Ak:=Qa τ (ir_encRes l)
theorem no_encRes (x:Res):Du (Ak x)=Ak x:=by simp [Ak,Du,norm,go_sem]
theorem nr_encRes (l:List Res):Fp (l.map Ak)=l.map Ak:=Ln no_encRes l
attribute [go_sem] Vf ir_encRes mr_encRes nr_encRes
structure Pair where
  Key:ByteArray
  Val:ByteArray
def Ca (x:Pair):List AV:=[.val (.string x.Key),.val (.string x.Val)]
attribute [go_sem] Ca
theorem inl_encPair (x:Pair):Di (Ca x)=true:=by simp only [go_sem]
theorem ir_encPair (l:List Pair):Cy (l.map Ca)=true:=Gq inl_encPair l
theorem no_encPair (x:Pair):Du (Ca x)=Ca x:=by simp [Ca,Du,norm,go_sem]
theorem nr_encPair (l:List Pair):Fp (l.map Ca)=l.map Ca:=Ln no_encPair l
attribute [go_sem] ir_encPair nr_encPair
def Cr (x:ByteArray):List AV:=[.val (.string x)]
attribute [go_sem] Cr
theorem inl_enc9 (x:ByteArray):Di (Cr x)=true:=by simp only [go_sem]
theorem ir_enc9 (l:List ByteArray):Cy (l.map Cr)=true:=Gq inl_enc9 l
theorem mr_enc9 (τ:Nat→Nat) (l:List ByteArray):(l.map Cr).map (Bb τ)=l.map Cr:=Qa τ (ir_enc9 l)
theorem no_enc9 (x:ByteArray):Du (Cr x)=Cr x:=by simp [Cr,Du,norm,go_sem]
theorem nr_enc9 (l:List ByteArray):Fp (l.map Cr)=l.map Cr:=Ln no_enc9 l
attribute [go_sem] ir_enc9 mr_enc9 nr_enc9
structure Record where
  Off:Int
  Line:ByteArray
def Cp (x:Record):List AV:=[.val (.int .i64 x.Off),.val (.string x.Line)]
attribute [go_sem] Cp
theorem inl_encRecord (x:Record):Di (Cp x)=true:=by simp only [go_sem]
theorem Tu (l:List Record):Cy (l.map Cp)=true:=Gq inl_encRecord l
theorem to_encRecord (m:Nat) (l:List Record):(l.map Cp).all (By m)=true:=tokR_inl m (Tu l)
attribute [go_sem] Tu to_encRecord
def Fv (x:List Res):List AV:=[.sl (List.map Ak x)]
attribute [go_sem] Fv
theorem inl_enc31 (x:List Res):Di (Fv x)=true:=by simp only [go_sem]
theorem ir_enc31 (l:List (List Res)):Cy (l.map Fv)=true:=Gq inl_enc31 l
attribute [go_sem] ir_enc31
structure Fwd where
  Off:Int
  Keys:List ByteArray
def Dp (x:Fwd):List AV:=[.val (.int .i64 x.Off),.sl (List.map Cr x.Keys)]
attribute [go_sem] Dp
theorem inl_encFwd (x:Fwd):Di (Dp x)=true:=by simp only [go_sem]
theorem ir_encFwd (l:List Fwd):Cy (l.map Dp)=true:=Gq inl_encFwd l
attribute [go_sem] ir_encFwd
structure Reader where
  b:List Int
  at_:Int
  e:Int
def encReader (x:Reader):List AV:=[.sl (List.map Aw x.b),.val (.int .i64 x.at_),.val (.int .i64 x.e)]
attribute [go_sem] encReader
structure Trace where
  l:List Res
  offs:List Int
def encTrace (x:Trace):List AV:=[.sl (List.map Ak x.l),Iy x.offs]
attribute [go_sem] encTrace
def enc23 (x:List Int):List AV:=[.sl (List.map Aw x)]
attribute [go_sem] enc23
def enc43 (x:List Record):List AV:=[.sl (List.map Cp x)]
attribute [go_sem] enc43
theorem nb4 {x y:Operand} {a b:Bool}:Gs Tryz.prog .neq 4 x y (.bool a) (.bool b)=some (.bool (!decide (a=b))):=binV_nbool (by kernel_rfl)
def Qh:Nat:=4000000
end Au
end Go.Proofs.Yt
namespace Go.Gm
section
variable {τ:Nat→Nat} {m:Nat} {fr fr':Nat→AV} {d:Nat}
theorem RF.qv {v:AV} (h:RF τ m fr fr') (hi:inl v=true:=by first|rfl|simp only [go_sem])
  (hv:fr d=v:=by first|rfl|(simp [Ae,Ap,Cv,Bh,Bb,Ar];done)|simp [Ae,Ap,Cv,Bh,Bb,Ar, *]):RF τ m fr (Ag fr' d v):=h.pv hi hv
theorem RF.qo {t off n:Nat} (h:RF τ m fr fr') (ht:t<m:=by decide)
  (hv:fr d=.own (τ t) off n:=by first|rfl|(simp [Ae,Ap,Cv,Bh,Bb,Ar];done)|simp [Ae,Ap,Cv,Bh,Bb,Ar, *]):RF τ m fr (Ag fr' d (.own t off n)):=h.po ht hv
theorem RF.qp {t i off:Nat} (h:RF τ m fr fr') (ht:t<m:=by decide)
  (hv:fr d=.ptr (τ t) i off:=by first|rfl|(simp [Ae,Ap,Cv,Bh,Bb,Ar];done)|simp [Ae,Ap,Cv,Bh,Bb,Ar, *]):RF τ m fr (Ag fr' d (.ptr t i off)):=h.pp ht hv
theorem RF.qt {v:AV} (h:RF τ m fr fr') (ht:Bn m v=true:=by first|(simp [Bn,By,Cy];done)|simp [go_sem,Bn,By])
  (hv:fr d=Bh τ v:=by first|rfl|(simp [Ae,Ap,Cv,Bh,Bb,Ar];done)|simp [Ae,Ap,Cv,Bh,Bb,Ar, *]):RF τ m fr (Ag fr' d v):=h.put ht (.of hv)
theorem HRen.ce {hp:Am} {k sz:Nat} {mu:Bool} {rows:List (List AV)} {os:List (Option AObj)} (hs:HRen τ m hp (k+1) os) (hi:Cy rows=true:=by first|rfl|simp only [go_sem])
  (h:hp (τ k)=some (.row sz mu rows):=by first|rfl|(simp [Ae,Ap,Cv,Bh,Bb,Ar];done)|simp [Ae,Ap,Cv,Bh,Bb,Ar, *]):HRen τ m hp k (some (.row sz mu rows)::os):=.cons (.eq (t:=τ k) hi h) hs
theorem Ab {N nx:Nat} {hp:Am} {a b:List (Option AObj)} (l:List Nat) (hf:RF (Cv l) m fr fr') (h0:HRen (Cv l) m hp 0 a) (h1:HRen (Cv l) m hp 8 b) (hm:m=8+l.length:=by rfl) (hl:l.Nodup∧∀x∈l,8≤x∨(a[x]?).getD none=none:=by first|decide|simp)
  (hb:b.length=l.length:=by rfl):Ent N ⟨fr,hp,nx⟩ ⟨fr',Bo a b,m⟩:=Bu l a b m hm hl hb hf h0 h1
end
section
variable {P:Program} {N id:Nat} {y:Code} {Q:Exit→ASt→Prop} {st st1:ASt} {ops:List Oper}
theorem De {Q Q':ASt→Prop} (hq:∀s,Q s→Q' s):∀{rest:List Oper} {st:ASt},Co P N ops rest st Q→Co P N ops rest st Q'
 | [],st,h=>hq _ h
 | o::rest,st,h=>by
  unfold Co at h ⊢
  split
  ·rename_i hw;simp only [hw] at h
  ·rename_i b hw
   simp only [hw] at h
   split
   ·rename_i hb
    rw [if_pos hb] at h
    split
    ·rename_i f us hc
     simp only [hc] at h
     rcases h with ⟨xs,X,h1,h2,h3,h4,h5,h6⟩|⟨r,h1,h2,h3,h4⟩
     ·exact .inl ⟨xs,X,h1,h2,h3,h4,h5,De hq h6⟩
     ·exact .inr ⟨r,h1,h2,h3,De hq h4⟩
    ·rename_i hc
     simp only [hc] at h
     split
     ·rename_i r hr
      simp only [hr] at h
      exact ⟨h.1,De hq h.2⟩
     ·rename_i hr
      simp only [hr] at h
   ·rename_i hb
    rw [if_neg hb] at h
    exact ⟨h.1,De hq h.2⟩
theorem Ac (l:List Nat) (k:AW P N y Q st1) (h:Co P N ops ops st (fun st'=>(⟨restr st'.fr l,st'.hp,st'.nx⟩:ASt)=st1):=by
  (simp only [go_sem,↓reduceIte,reduceCtorEq,Nat.reduceAdd,Nat.reduceSub,Nat.reduceMul,Nat.reduceEqDiff,Nat.reduceLT,Nat.reduceLeDiff])<;>exact rfl):AW P N (.seq (.region id ops.toArray false) y) Q st :=
 Ll l (De (fun s e=>by rw [e];exact k) h)
theorem Cd (l:List Nat) (k:Q .normal st1) (h:Co P N ops ops st (fun st'=>(⟨restr st'.fr l,st'.hp,st'.nx⟩:ASt)=st1):=by
  (simp only [go_sem,↓reduceIte,reduceCtorEq,Nat.reduceAdd,Nat.reduceSub,Nat.reduceMul,Nat.reduceEqDiff,Nat.reduceLT,Nat.reduceLeDiff])<;>exact rfl):AW P N (.region id ops.toArray false) Q st :=
 Hh l (De (fun s e=>by rw [e];exact k) h)
variable {f:FuncId} {xs:List AV} {X:AV}
theorem Ao (l:List Nat) (k:AW P N y Q st1) (h:Co P N ops ops st (fun st'=>(⟨restr st'.fr l,st'.hp,st'.nx⟩:ASt)=st1):=by
  (simp only [go_sem,↓reduceIte,reduceCtorEq,Nat.reduceAdd,Nat.reduceSub,Nat.reduceMul,Nat.reduceEqDiff,Nat.reduceLT,Nat.reduceLeDiff,Ah, *])<;>exact rfl):AW P N (.seq (.region id ops.toArray false) y) Q st :=
 Ll l (De (fun s e=>by rw [e];exact k) h)
theorem Bz (l:List Nat) (k:Q .normal st1) (h:Co P N ops ops st (fun st'=>(⟨restr st'.fr l,st'.hp,st'.nx⟩:ASt)=st1):=by
  (simp only [go_sem,↓reduceIte,reduceCtorEq,Nat.reduceAdd,Nat.reduceSub,Nat.reduceMul,Nat.reduceEqDiff,Nat.reduceLT,Nat.reduceLeDiff,Ah, *])<;>exact rfl):AW P N (.region id ops.toArray false) Q st :=
 Hh l (De (fun s e=>by rw [e];exact k) h)
theorem Bx (l:List Nat) (pc:PC P f xs X) (he:Ga P f) (k:AW P N y Q st1) (h:PC P f xs X→Ga P f→Co P N ops ops st (fun st'=>(⟨restr st'.fr l,st'.hp,st'.nx⟩:ASt)=st1):=by
  (intro pc he;simp only [go_sem,↓reduceIte,reduceCtorEq,Nat.reduceAdd,Nat.reduceSub,Nat.reduceMul,Nat.reduceEqDiff,Nat.reduceLT,Nat.reduceLeDiff];refine arC.of pc he ?_;(simp only [go_sem,↓reduceIte,reduceCtorEq,Nat.reduceAdd,Nat.reduceSub,Nat.reduceMul,Nat.reduceEqDiff,Nat.reduceLT,Nat.reduceLeDiff])<;>exact rfl)):AW P N (.seq (.region id ops.toArray false) y) Q st :=
 Ll l (De (fun s e=>by rw [e];exact k) (h pc he))
theorem AW.rD (l:List Nat) (pc:PC P f xs X) (he:Ga P f) (k:Q .normal st1) (h:PC P f xs X→Ga P f→Co P N ops ops st (fun st'=>(⟨restr st'.fr l,st'.hp,st'.nx⟩:ASt)=st1):=by
  (intro pc he;simp only [go_sem,↓reduceIte,reduceCtorEq,Nat.reduceAdd,Nat.reduceSub,Nat.reduceMul,Nat.reduceEqDiff,Nat.reduceLT,Nat.reduceLeDiff];refine arC.of pc he ?_;(simp only [go_sem,↓reduceIte,reduceCtorEq,Nat.reduceAdd,Nat.reduceSub,Nat.reduceMul,Nat.reduceEqDiff,Nat.reduceLT,Nat.reduceLeDiff])<;>exact rfl)):AW P N (.region id ops.toArray false) Q st :=
 Hh l (De (fun s e=>by rw [e];exact k) (h pc he))
theorem Kw (l:List Nat) (pc:PC P f xs X) (he:Ga P f) (k:AW P N y Q st1) (h:PC P f xs X→Ga P f→Co P N ops ops st (fun st'=>(⟨restr st'.fr l,st'.hp,st'.nx⟩:ASt)=st1):=by
  (intro pc he;simp only [go_sem,↓reduceIte,reduceCtorEq,Nat.reduceAdd,Nat.reduceSub,Nat.reduceMul,Nat.reduceEqDiff,Nat.reduceLT,Nat.reduceLeDiff,Ah, *];refine arC.of pc he ?_;(simp only [go_sem,↓reduceIte,reduceCtorEq,Nat.reduceAdd,Nat.reduceSub,Nat.reduceMul,Nat.reduceEqDiff,Nat.reduceLT,Nat.reduceLeDiff,Ah, *])<;>exact rfl)):AW P N (.seq (.region id ops.toArray false) y) Q st :=
 Ll l (De (fun s e=>by rw [e];exact k) (h pc he))
theorem Cb (l:List Nat) (h:∀K,K=AW P N y Q→Co P N ops ops st (fun st'=>K ⟨restr st'.fr l,st'.hp,st'.nx⟩)):AW P N (.seq (.region id ops.toArray false) y) Q st:=Ll l (h _ rfl)
theorem Dq (l:List Nat) (h:∀K,K=Q .normal→Co P N ops ops st (fun st'=>K ⟨restr st'.fr l,st'.hp,st'.nx⟩)):AW P N (.region id ops.toArray false) Q st:=Hh l (h _ rfl)
theorem bO {α β:Type} {o:Option α} {f:α→Option β} {b:β} (h:o.bind f=some b):∃a,o=some a∧f a=some b:=Option.bind_eq_some_iff.1 h
theorem noFt_ok (P:Program):Uv P Fq:=fun _ _ _ h=>by simp [Fq] at h
theorem Eb (l:List Nat) (k:AW P N y Q st1) (h:Co P N ops ops st (fun st'=>(⟨restr st'.fr l,st'.hp,st'.nx⟩:ASt)=st1):=by
  (simp only [go_sem,seval])<;>exact rfl):AW P N (.seq (.region id ops.toArray false) y) Q st :=
 Ll l (De (fun s e=>by rw [e];exact k) h)
theorem Uw (l:List Nat) (k:Q .normal st1) (h:Co P N ops ops st (fun st'=>(⟨restr st'.fr l,st'.hp,st'.nx⟩:ASt)=st1):=by
  (simp only [go_sem,seval])<;>exact rfl):AW P N (.region id ops.toArray false) Q st :=
 Hh l (De (fun s e=>by rw [e];exact k) h)
theorem Re (l:List Nat) (k:AW P N y Q st1) (h:Co P N ops ops st (fun st'=>(⟨restr st'.fr l,st'.hp,st'.nx⟩:ASt)=st1):=by
  (simp only [go_sem,seval,Ah, *])<;>exact rfl):AW P N (.seq (.region id ops.toArray false) y) Q st :=
 Ll l (De (fun s e=>by rw [e];exact k) h)
theorem AW.vY (l:List Nat) (k:Q .normal st1) (h:Co P N ops ops st (fun st'=>(⟨restr st'.fr l,st'.hp,st'.nx⟩:ASt)=st1):=by
  (simp only [go_sem,seval,Ah, *])<;>exact rfl):AW P N (.region id ops.toArray false) Q st :=
 Hh l (De (fun s e=>by rw [e];exact k) h)
theorem AW.tC (l:List Nat) (pc:PC P f xs X) (he:Ga P f) (k:AW P N y Q st1) (h:PC P f xs X→Ga P f→Co P N ops ops st (fun st'=>(⟨restr st'.fr l,st'.hp,st'.nx⟩:ASt)=st1):=by
  (intro pc he;simp only [go_sem,seval];refine arC.of pc he ?_;(simp only [go_sem,seval])<;>exact rfl)):AW P N (.seq (.region id ops.toArray false) y) Q st :=
 Ll l (De (fun s e=>by rw [e];exact k) (h pc he))
theorem AW.vC (l:List Nat) (pc:PC P f xs X) (he:Ga P f) (k:AW P N y Q st1) (h:PC P f xs X→Ga P f→Co P N ops ops st (fun st'=>(⟨restr st'.fr l,st'.hp,st'.nx⟩:ASt)=st1):=by
  (intro pc he;simp only [go_sem,seval,Ah, *];refine arC.of pc he ?_;(simp only [go_sem,seval,Ah, *])<;>exact rfl)):AW P N (.seq (.region id ops.toArray false) y) Q st :=
 Ll l (De (fun s e=>by rw [e];exact k) (h pc he))
theorem AW.vD (l:List Nat) (pc:PC P f xs X) (he:Ga P f) (k:Q .normal st1) (h:PC P f xs X→Ga P f→Co P N ops ops st (fun st'=>(⟨restr st'.fr l,st'.hp,st'.nx⟩:ASt)=st1):=by
  (intro pc he;simp only [go_sem,seval,Ah, *];refine arC.of pc he ?_;(simp only [go_sem,seval,Ah, *])<;>exact rfl)):AW P N (.region id ops.toArray false) Q st :=
 Hh l (De (fun s e=>by rw [e];exact k) (h pc he))
theorem Aq {α:Type} {c:Prop} [Decidable c] {a b:Option α} {r:α} (h:(if c then a else b)=some r):(c∧a=some r)∨(¬c∧b=some r):=by
 by_cases hc:c
 ·rw [if_pos hc] at h;exact .inl ⟨hc,h⟩
 ·rw [if_neg hc] at h;exact .inr ⟨hc,h⟩
theorem oi {α:Type} {a b:α} (h:some a=some b):a=b:=Option.some.inj h
theorem oj {α:Type} {a b:α} (h:some a=some b):b=a:=(Option.some.inj h).symm
end
theorem Bg {N nx:Nat} {fr fr':Nat→AV} {hp:Am} (hf:RF (Cv []) 8 fr fr'):Ent N ⟨fr,hp,nx⟩ ⟨fr',Bo [] [],8⟩:=Ab [] hf (.nil _) (.nil _)
theorem Bi {P:Program} {f:FuncId} {fn:Func} {c:Code} {us:List AV} {X:AV} {N:Nat} {rs:List ResultVar} (hf:P.funcs[f]?=some fn) (h:AW P N c (Ay P rs X) ⟨Ht us,Bo [] [],8⟩) (hb:fn.body=some c:=by rfl) (hN:fn.ntmps=N:=by rfl) (hrs:fn.results.toList=rs:=by rfl) (hn:us.length≤N:=by exact Nat.le_of_ble_eq_true rfl):PC P f us X:=pc_of8 hf hb hN hrs hn h
theorem CallOk.icq {P:Program} {f:FuncId} {a0 a1 b1:List (Option AObj)} {us us':List AV} {X:AV} {hp:Am} {id:Nat} (h:IC P f a0 us X a1 b1) (s:List Nat)
  (hobj:HRen (sg s) a0.length hp 0 a0) (hus:WeakL us' (Bb (sg s) us)) (hs:s.length=a0.length:=by rfl) (hnd:s.Nodup:=by decide) (h8:a0.length≤8:=by simp) (hk:b1.length≤7:=by simp) (hla:a1.length≤a0.length:=by simp) (hso:∀o∈a0,∃x,o=some x:=by simp)
  (htok:By a0.length us=true:=by simp only [go_sem,List.length_cons,List.length_nil,Nat.reduceAdd,Nat.reduceLT,decide_true])
  (hb1:∀o∈b1,∃x,o=some x∧x.isMut=true:=by simp [AObj.isMut]) (ht1:∀o∈a1++b1,tokO (8+b1.length) o=true:=by simp [go_sem]) (htX:Bn (8+b1.length) X=true:=by simp [go_sem]) :
  CallOk P f us' hp id ⟨Bh (Rs s id) X,Me (Rs s id) s a1++Qw (Rs s id) id b1⟩:=CallOk.ic h s hs hnd h8 hk hla hso hobj hus htok hb1 ht1 htX
theorem Br {P:Program} {f:FuncId} {a0 a1 b1:List (Option AObj)} {us us' v:List AV} {X:AV} {hp:Am} {id:Nat} (h:IC P f a0 us X a1 b1) (s:List Nat)
  (hobj:HRen (sg s) a0.length hp 0 a0) (hw:WeakL us' v) (hv:Bb (sg s) us=v:=by first|rfl|(simp only [Dy,Ek,Gn,Cq,Gy,Ia,Ha,Jb,Gz,Hw,Cf,List.getD_cons_zero,List.getD_cons_succ];done)|(simp only [Dy,Ek,Gn,Cq,Gy,Ia,Ha,Jb,Gz,Hw,Cf,List.getD_cons_zero,List.getD_cons_succ];rfl))
  (hs:s.length=a0.length:=by rfl) (hnd:s.Nodup:=by decide) (h8:a0.length≤8:=by simp) (hk:b1.length≤7:=by simp) (hla:a1.length≤a0.length:=by simp) (hso:∀o∈a0,∃x,o=some x:=by simp)
  (htok:By a0.length us=true:=by simp only [go_sem,List.length_cons,List.length_nil,Nat.reduceAdd,Nat.reduceLT,decide_true])
  (hb1:∀o∈b1,∃x,o=some x∧x.isMut=true:=by simp [AObj.isMut]) (ht1:∀o∈a1++b1,tokO (8+b1.length) o=true:=by simp [go_sem]) (htX:Bn (8+b1.length) X=true:=by simp [go_sem]) :
  CallOk P f us' hp id ⟨Bh (Rs s id) X,Me (Rs s id) s a1++Qw (Rs s id) id b1⟩:=CallOk.icq h s hobj (hv▸hw) hs hnd h8 hk hla hso htok hb1 ht1 htX
def bt (n:Nat):List Nat:=(List.range (n.log2+1)).filter fun k=>n / 2 ^ k % 2 == 1
theorem bt_mem {n k:Nat}:k∈bt n↔n / 2 ^ k % 2=1:=by
 simp only [bt,List.mem_filter,List.mem_range,beq_iff_eq,and_iff_right_iff_imp]
 intro h
 have h1:n / 2 ^ k≠0:=fun h0=>by rw [h0] at h;cases h
 have h2:2 ^ k≤n:=(Nat.div_ne_zero_iff.1 h1).2
 have:=(Nat.le_log2 (by have:=Nat.two_pow_pos k;omega)).2 h2
 omega
def an (ms:List Nat):List (List Nat):=ms.map bt
def anT (n k:Nat):Prop:=n / 2 ^ k % 2=1
theorem an_mem (ms:List Nat) (i k:Nat):(k∈(an ms).getD i [])=(ms.getD i 0 / 2 ^ k % 2=1):=by
 have:(an ms).getD i []=bt (ms.getD i 0):=by
  simp only [an,List.getD_eq_getElem?_getD,List.getElem?_map]
  cases ms[i]?<;>rfl
 rw [this];exact propext bt_mem
def pA (i:Nat):List Oper→List (Nat×Oper)
 | []=>[]
 | o::l=>(i,o)::pA (i+1) l
theorem pA_nil (i:Nat):pA i []=[]:=(rfl)
theorem pA_cons (i:Nat) (o:Oper) (l:List Oper):pA i (o::l)=(i,o)::pA (i+1) l:=(rfl)
theorem pick_pA (l:List Oper):∀(m:List Oper) (i:Nat),m=l.drop i→pick l (List.range' i m.length)=pA i m
 | [],i,_=>rfl
 | o::m,i,h=>by
  have h1:l[i]?=some o:=by
   have:=congrArg (·[0]?) h
   simpa using this.symm
  have h2:m=l.drop (i+1):=by
   have:=congrArg List.tail h
   simpa using this
  simp only [List.length_cons,List.range'_succ,pick,h1,pA,pick_pA l m (i+1) h2]
theorem pick_range (l:List Oper):pick l (List.range l.length)=pA 0 l:=by
 rw [List.range_eq_range'];exact pick_pA l l 0 rfl
attribute [go_sem] an_mem pA_nil pA_cons
section
variable {P:Program} {N id:Nat} {y:Code} {Q:Exit→ASt→Prop} {st st1:ASt} {ops:List Oper}
theorem AW.rE (l ms:List Nat) (ft:FuncId→List AV→Option AV) (hft:Uv P ft) (h:Ea P ft N ops (an ms) st.nx (pA 0 ops) st.fr st.hp [] fun fr hp=>AW P N y Q ⟨restr fr l,hp,st.nx+8*ops.length⟩)
 (hm:P.follows .mixedOrders=true:=by kernel_rfl) (hs:Ls (an ms) (List.range ops.length) ops=true:=by kernel_rfl) (hp:Mi (an ms) (List.range ops.length) ops=true:=by kernel_rfl):AW P N (.seq (.region id ops.toArray true) y) Q st :=
 AW.regdL l _ _ ft hft hm hs hp (by rw [pick_range];exact h)
theorem AW.rF (l ms:List Nat) (ft:FuncId→List AV→Option AV) (hft:Uv P ft) (h:Ea P ft N ops (an ms) st.nx (pA 0 ops) st.fr st.hp [] fun fr hp=>Q .normal ⟨restr fr l,hp,st.nx+8*ops.length⟩)
 (hm:P.follows .mixedOrders=true:=by kernel_rfl) (hs:Ls (an ms) (List.range ops.length) ops=true:=by kernel_rfl) (hp:Mi (an ms) (List.range ops.length) ops=true:=by kernel_rfl):AW P N (.region id ops.toArray true) Q st :=
 AW.drawL l _ _ ft hft hm hs hp (by rw [pick_range];exact h)
theorem Dm (l ms:List Nat) (h:Ea P Fq N ops (an ms) st.nx (pA 0 ops) st.fr st.hp [] fun fr hp=>AW P N y Q ⟨restr fr l,hp,st.nx+8*ops.length⟩)
 (hm:P.follows .mixedOrders=true:=by kernel_rfl) (hs:Ls (an ms) (List.range ops.length) ops=true:=by kernel_rfl) (hp:Mi (an ms) (List.range ops.length) ops=true:=by kernel_rfl):AW P N (.seq (.region id ops.toArray true) y) Q st:=AW.rE l ms Fq (noFt_ok P) h hm hs hp
theorem Nt (l ms:List Nat) (h:Ea P Fq N ops (an ms) st.nx (pA 0 ops) st.fr st.hp [] fun fr hp=>Q .normal ⟨restr fr l,hp,st.nx+8*ops.length⟩)
 (hm:P.follows .mixedOrders=true:=by kernel_rfl) (hs:Ls (an ms) (List.range ops.length) ops=true:=by kernel_rfl) (hp:Mi (an ms) (List.range ops.length) ops=true:=by kernel_rfl):AW P N (.region id ops.toArray true) Q st:=AW.rF l ms Fq (noFt_ok P) h hm hs hp
variable {f:FuncId} {xs:List AV} {X:AV}
theorem Sb (l ms:List Nat) (pc:PC P f xs X) (he:Ga P f) (h:Ea P (tab [(f,xs,X)]) N ops (an ms) st.nx (pA 0 ops) st.fr st.hp [] fun fr hp=>AW P N y Q ⟨restr fr l,hp,st.nx+8*ops.length⟩)
 (hm:P.follows .mixedOrders=true:=by kernel_rfl) (hs:Ls (an ms) (List.range ops.length) ops=true:=by kernel_rfl) (hp:Mi (an ms) (List.range ops.length) ops=true:=by kernel_rfl):AW P N (.seq (.region id ops.toArray true) y) Q st:=AW.rE l ms _ (Ng pc he tab_nil) h hm hs hp
theorem AW.rH (l ms:List Nat) (pc:PC P f xs X) (he:Ga P f) (h:Ea P (tab [(f,xs,X)]) N ops (an ms) st.nx (pA 0 ops) st.fr st.hp [] fun fr hp=>Q .normal ⟨restr fr l,hp,st.nx+8*ops.length⟩)
 (hm:P.follows .mixedOrders=true:=by kernel_rfl) (hs:Ls (an ms) (List.range ops.length) ops=true:=by kernel_rfl) (hp:Mi (an ms) (List.range ops.length) ops=true:=by kernel_rfl):AW P N (.region id ops.toArray true) Q st:=AW.rF l ms _ (Ng pc he tab_nil) h hm hs hp
end
end Go.Gm
namespace Go.Proofs.Yt
open Go.Gm
namespace Au
def f164 (a0:Int):Option Int:=((ix (bl Lib.len8tab) a0).bind fun x1=>some (IntKind.i64.wrap (x1.toNat:Int)))
theorem ok164 (a0:Int) (r:Int) (h:f164 a0=some r):PC Tryz.prog 164 [.val (.int .u8 a0)] (.val (.int .i64 r)):=by
 rw [f164] at h
 refine Bi (N:=6) (rs:=[.tmp 2]) Tryz.func164 ?_
 refine Ac [0] ?_
 obtain ⟨x1,hx1,h⟩:=bO h
 obtain ⟨hx1a,hx1b⟩:=ix_some.1 hx1
 refine Cb [2] fun K hK=>?_
 simp only [go_sem,seval,Nn st9 hx1a hx1b]
 subst hK
 refine AW.ret ?_
 obtain rfl:=oi h
 (simp only [go_sem,seval,Ay]<;>try simp)
def f144 (a0:Int):Option Int:=((f164 a0).bind fun x1=>some (IntKind.i64.wrap (8-x1)))
theorem ok144 (a0:Int) (r:Int) (h:f144 a0=some r):PC Tryz.prog 144 [.val (.int .u8 a0)] (.val (.int .i64 r)):=by
 rw [f144] at h
 refine Bi (N:=6) (rs:=[.tmp 2]) Tryz.func144 ?_
 refine Ac [0] ?_
 obtain ⟨x1,hx1,h⟩:=bO h
 refine Bx [2] (ok164 a0 x1 hx1) Tryz.call164 ?_
 refine AW.ret ?_
 obtain rfl:=oi h
 (simp only [go_sem,seval,Ay]<;>try simp)
def Kg (a0:Int):Int→Option (Int⊕(Int⊕Unit))
  | s1_0=>(if s1_0≤8 then ((Dt (0≤(IntKind.i64.wrap (7*s1_0)))).bind fun x9=>(if (Dn .u64 a0 (IntKind.i64.wrap (7*s1_0)).toNat)=0 then some (.inr (.inl s1_0)) else some (.inl (IntKind.i64.wrap (s1_0+1))))) else some (.inr (.inr ())))
def f132 (a0:Int):Option Int:=((loopO (Kg a0) 1).bind fun y11=>match y11 with|.inl y12=>some y12|.inr _=>some 9)
theorem ok132 (a0:Int) (r:Int) (h:f132 a0=some r):PC Tryz.prog 132 [.val (.int .u64 a0)] (.val (.int .i64 r)):=by
 rw [f132] at h
 refine Bi (N:=14) (rs:=[.tmp 2]) Tryz.func132 ?_
 refine Ac [0] ?_
 refine AW.seq<|Ac [0,3] ?_
 refine AW.block ?_
 obtain ⟨y11,hy11,h⟩:=bO h
 refine AW.loopO (fun s=>⟨(Ag (Ag Az 0 (.val (.int .u64 a0))) 3 (.val (.int .i64 s))),Bo [] [],8⟩) (fun y e st'=>match y with|.inl z=>e=Exit.ret∧Ay Tryz.prog [.tmp 2] (.val (.int .i64 z)) .ret st'|.inr z=>e=Exit.exit 0∧st'=⟨Az,Bo [] [],8⟩) hy11 ?_ ?_ ?_
 ·exact Bg RF.any.qv.qv
 ·clear h hy11
  rintro s1_0 x h
  rw [Kg] at h
  refine AW.seq<|Ao [0,3,5] ?_
  rcases Aq h with ⟨c8,h⟩|⟨c8,h⟩
  ·refine Aj rfl c8<|AW.skip<|Aa<|AW.seq<|AW.block ?_
   obtain ⟨x9,hx9,h⟩:=bO h
   refine Cb [0,3,12] fun K hK=>?_
   simp only [go_sem,seval,eq_true c8,eq_false (Int.not_lt.2 (guardO_some.1 hx9))]
   subst hK
   rcases Aq h with ⟨c10,h⟩|⟨c10,h⟩
   ·refine Aj rfl c10<|Ac [2] ?_
    refine AW.ret<|Bd<|Ad<|Ad ?_
    refine ⟨_,oj h,_,Ent.refl,rfl,?_⟩
    (simp only [go_sem,seval,eq_true c8,eq_true c10,Ay]<;>try simp)
   ·refine Ai rfl c10<|AW.skip<|Ax<|Aa<|Cd [0,3] ?_
    refine Aa ?_
    refine ⟨_,oj h,?_⟩
    exact Bg RF.any.qv.qv
  ·refine Ai rfl c8<|AW.exit<|Af<|Af ?_
   refine ⟨_,oj h,_,?_,rfl,rfl⟩
   exact Bg RF.any
 ·intro e st' hX
  rcases y11 with y12|_<;>dsimp only at h hX
  ·obtain ⟨rfl,hf⟩:=hX
   refine ⟨_,Ent.refl,?_⟩
   refine Bd<|Ad ?_
   obtain rfl:=oi h
   exact hf
  ·obtain ⟨rfl,rfl⟩:=hX
   refine ⟨_,Ent.refl,?_⟩
   refine Bc<|Aa<|Ac [2] ?_
   refine AW.ret ?_
   obtain rfl:=oi h
   (simp only [go_sem,seval,Ay]<;>try simp)
def Ua (x24:List Int):Int×Int→Option ((Int×Int)⊕Int)
  | (s2_0,s2_1)=>(if s2_1<(x24.length:Int) then ((ix x24 s2_1).bind fun x36=>some (.inl (orV .u64 (shlV .u64 s2_0 8) (IntKind.u64.wrap x36),IntKind.i64.wrap (s2_1+1)))) else some (.inr s2_0))
def Ou (a0:List Int) (a1:Int) (x8:Int):Int→Option (Int×Int×Int)
  | j1_0=>((Dl a0 (IntKind.i64.wrap (a1+1)) (IntKind.i64.wrap (a1+(IntKind.i64.wrap (1+x8))))).bind fun x24=>((loopO (Ua x24) (j1_0,0)).bind fun y38=>((f132 y38).bind fun x39=>(if x39=(IntKind.i64.wrap (1+x8)) then some (y38,IntKind.i64.wrap (a1+(IntKind.i64.wrap (1+x8))),0) else some (0,0,3)))))
def f122 (a0:List Int) (a1:Int):Option (Int×Int×Int):=(if a1<0 then some (0,0,8) else (if (a0.length:Int)<a1 then some (0,0,8) else (if a1=(a0.length:Int) then some (0,0,2) else ((ix a0 a1).bind fun x7=>((f144 (Ki .u8 (allV .u8) x7)).bind fun x8=>(if (IntKind.i64.wrap ((a0.length:Int)-a1))<(IntKind.i64.wrap (1+x8)) then some (0,0,2) else (if (IntKind.i64.wrap (1+x8))<9 then ((Dt (0≤(IntKind.i64.wrap (1+x8)))).bind fun x42=>Ou a0 a1 x8 (Xu .u64 (IntKind.u64.wrap x7) (Dn .u64 255 (IntKind.i64.wrap (1+x8)).toNat))) else Ou a0 a1 x8 0)))))))
theorem ok122 (a0:List Int) (a1:Int) (r:Int×Int×Int) (h:f122 a0 a1=some r):PC Tryz.prog 122 [.sl (List.map Aw a0),.val (.int .i64 a1)] (.tup [.val (.int .u64 r.1),.val (.int .i64 r.2.1),.val (.int .i64 r.2.2)]):=by
 rw [f122] at h
 refine Bi (N:=71) (rs:=[.tmp 4,.tmp 5,.tmp 6]) Tryz.func122 ?_
 refine Ao [0,1,4] ?_
 refine AW.seq ?_
 rcases Aq h with ⟨c3,h⟩|⟨c3,h⟩
 ·refine Ao [0,1,4,17] ?_
  refine Bp rfl rfl<|Ao [4,5,6] ?_
  refine AW.ret<|Ad ?_
  obtain rfl:=oi h
  (simp only [go_sem,seval,Ay]<;>try simp)
 ·refine Ao [0,1,4,17] ?_
  rcases Aq h with ⟨c4,h⟩|⟨c4,h⟩
  ·refine Aj rfl c4<|Ao [4,5,6] ?_
   refine AW.ret<|Ad ?_
   obtain rfl:=oi h
   (simp only [go_sem,seval,Ay]<;>try simp)
  ·refine Ai rfl c4<|AW.skip<|Aa<|AW.seq<|Ao [0,1,4,21] ?_
   rcases Aq h with ⟨c6,h⟩|⟨c6,h⟩
   ·refine Aj rfl c6<|Ao [4,5,6] ?_
    refine AW.ret<|Ad ?_
    obtain rfl:=oi h
    (simp only [go_sem,seval,Ay]<;>try simp)
   ·refine Ai rfl c6<|AW.skip<|Aa ?_
    obtain ⟨x7,hx7,h⟩:=bO h
    obtain ⟨hx7a,hx7b⟩:=ix_some.1 hx7
    obtain ⟨x8,hx8,h⟩:=bO h
    refine Kw [0,1,4,7] (ok144 (Ki .u8 (allV .u8) x7) x8 hx8) Tryz.call144 ?_
    refine AW.seq<|Eb [0,1,4,7,34] ?_
    rcases Aq h with ⟨c10,h⟩|⟨c10,h⟩
    ·refine Aj rfl c10<|Eb [4,5,6] ?_
     refine AW.ret<|Ad ?_
     obtain rfl:=oi h
     (simp only [go_sem,seval,Ay]<;>try simp)
    ·refine Ai rfl c10<|AW.skip<|Aa ?_
     refine AW.join (fun s=>⟨(Ag (Ag (Ag (Ag Az 0 (.sl (List.map Aw a0))) 1 (.val (.int .i64 a1))) 4 (.val (.int .u64 s))) 7 (.val (.int .i64 (IntKind.i64.wrap (1+x8))))),Bo [] [],8⟩) (fun s=>Ou a0 a1 x8 s=some r) ?_ ?_
     ·refine Eb [0,1,4,7,36] ?_
      rcases Aq h with ⟨c41,h⟩|⟨c41,h⟩
      ·refine Aj rfl c41 ?_
       obtain ⟨x42,hx42,h⟩:=bO h
       refine Nt [0,1,4,7] [0,0,3,7,15,0,32,127,255] ?_
       generalize hK:Kj _ _ Exit.normal=K
       simp only [go_sem,seval,Ah hx7a,hx7b,eq_false (Int.not_lt.2 (guardO_some.1 hx42))]
       subst hK
       refine Aa ?_
       refine ⟨_,h,?_⟩
       exact Bg RF.any.qv.qv.qv.qv
      ·refine Ai rfl c41<|AW.skip<|Aa ?_
       refine ⟨_,h,?_⟩
       exact Bg RF.any.qv.qv.qv.qv
     ·clear h
      rintro j1_0 h
      rw [Ou] at h
      refine AW.seq ?_
      obtain ⟨x24,hx24,h⟩:=bO h
      refine Cb [1,4,7,51,52,53] fun K hK=>?_
      simp only [go_sem,seval,Jw Pn sz5 (Eu _) hx24]
      subst hK
      refine AW.block ?_
      obtain ⟨y38,hy38,h⟩:=bO h
      refine AW.loopO (fun s=>⟨(Ag (Ag (Ag (Ag (Ag (Ag Az 1 (.val (.int .i64 a1))) 4 (.val (.int .u64 s.1))) 7 (.val (.int .i64 (IntKind.i64.wrap (1+x8))))) 51 (.sl (List.map Aw x24))) 52 (.val (.int .i64 (x24.length:Int)))) 53 (.val (.int .i64 s.2))),Bo [] [],8⟩) (fun z e st'=>e=Exit.exit 0∧st'=⟨(Ag (Ag (Ag Az 1 (.val (.int .i64 a1))) 4 (.val (.int .u64 z))) 7 (.val (.int .i64 (IntKind.i64.wrap (1+x8))))),Bo [] [],8⟩) hy38 ?_ ?_ ?_
      ·exact Bg RF.any.qv.qv.qv.qv.qv.qv
      ·clear h hy38
       rintro ⟨s2_0,s2_1⟩ x h
       rw [Ua] at h
       refine Ao [1,4,7,51,52,53,54] ?_
       refine AW.seq ?_
       rcases Aq h with ⟨c35,h⟩|⟨c35,h⟩
       ·refine Aj rfl c35<|AW.skip<|Aa<|AW.seq<|AW.block ?_
        obtain ⟨x36,hx36,h⟩:=bO h
        obtain ⟨hx36a,hx36b⟩:=ix_some.1 hx36
        refine Re [1,4,7,9,51,52,53] ?_
        refine AW.vY [1,4,7,51,52,53] ?_
        refine Ax<|Aa<|AW.vY [1,4,7,51,52,53] ?_
        refine Aa ?_
        refine ⟨_,oj h,?_⟩
        exact Bg RF.any.qv.qv.qv.qv.qv.qv
       ·refine Ai rfl c35<|AW.exit<|Af<|Af ?_
        refine ⟨_,oj h,_,?_,rfl,rfl⟩
        exact Bg RF.any.qv.qv.qv
      ·intro e st' hX
       try dsimp only at h
       try dsimp only at hX
       obtain ⟨rfl,rfl⟩:=hX
       refine ⟨_,Ent.refl,?_⟩
       refine Bc<|Aa<|AW.seq ?_
       obtain ⟨x39,hx39,h⟩:=bO h
       refine Bx [1,4,7,66] (ok132 y38 x39 hx39) Tryz.call132 ?_
       rcases Aq h with ⟨c40,h⟩|⟨c40,h⟩
       ·refine Ai rfl (fun q=>q c40)<|AW.skip<|Aa<|Ao [4,5,6] ?_
        refine AW.ret ?_
        obtain rfl:=oi h
        (simp only [go_sem,seval,Ay]<;>try simp)
       ·refine Aj rfl c40<|Ao [4,5,6] ?_
        refine AW.ret<|Ad ?_
        obtain rfl:=oi h
        (simp only [go_sem,seval,Ay]<;>try simp)
def Yl (a0:Int):Int×Int→Option ((Int×Int)⊕Int)
  | (s1_0,s1_1)=>(if s1_1<a0 then some (.inl (IntKind.u64.wrap (2*s1_0),IntKind.i64.wrap (s1_1+1))) else some (.inr s1_0))
def f118 (a0:Int):Option Int:=((loopO (Yl a0) (1,0)).bind fun y5=>some y5)
theorem ok118 (a0:Int) (r:Int) (h:f118 a0=some r):PC Tryz.prog 118 [.val (.int .i64 a0)] (.val (.int .u64 r)):=by
 rw [f118] at h
 refine Bi (N:=13) (rs:=[.tmp 2]) Tryz.func118 ?_
 refine Ac [0] ?_
 refine Ac [0,3] ?_
 refine AW.seq<|Ac [0,3,4] ?_
 refine AW.block ?_
 obtain ⟨y5,hy5,h⟩:=bO h
 refine AW.loopO (fun s=>⟨(Ag (Ag (Ag Az 0 (.val (.int .i64 a0))) 3 (.val (.int .u64 s.1))) 4 (.val (.int .i64 s.2))),Bo [] [],8⟩) (fun z e st'=>e=Exit.exit 0∧st'=⟨(Ag Az 3 (.val (.int .u64 z))),Bo [] [],8⟩) hy5 ?_ ?_ ?_
 ·exact Bg RF.any.qv.qv.qv
 ·clear h hy5
  rintro ⟨s1_0,s1_1⟩ x h
  rw [Yl] at h
  refine AW.seq<|Ac [0,3,4,7] ?_
  rcases Aq h with ⟨c3,h⟩|⟨c3,h⟩
  ·refine Aj rfl c3<|AW.skip<|Aa<|AW.seq<|AW.block<|Cd [0,3,4] ?_
   refine Ax<|Aa<|Cd [0,3,4] ?_
   refine Aa ?_
   refine ⟨_,oj h,?_⟩
   exact Bg RF.any.qv.qv.qv
  ·refine Ai rfl c3<|AW.exit<|Af<|Af ?_
   refine ⟨_,oj h,_,?_,rfl,rfl⟩
   exact Bg RF.any.qv
 ·intro e st' hX
  try dsimp only at h
  try dsimp only at hX
  obtain ⟨rfl,rfl⟩:=hX
  refine ⟨_,Ent.refl,?_⟩
  refine Bc<|Aa<|Ac [2] ?_
  refine AW.ret ?_
  obtain rfl:=oi h
  (simp only [go_sem,seval,Ay]<;>try simp)
def Mr (a0:Int):Int→Option (Int⊕(Int⊕Unit))
  | s1_0=>(if s1_0≤8 then ((f118 (IntKind.i64.wrap (7*s1_0))).bind fun x9=>(if a0<x9 then some (.inr (.inl s1_0)) else some (.inl (IntKind.i64.wrap (s1_0+1))))) else some (.inr (.inr ())))
def f117 (a0:Int):Option Int:=((loopO (Mr a0) 1).bind fun y11=>match y11 with|.inl y12=>some y12|.inr _=>some 9)
theorem ok117 (a0:Int) (r:Int) (h:f117 a0=some r):PC Tryz.prog 117 [.val (.int .u64 a0)] (.val (.int .i64 r)):=by
 rw [f117] at h
 refine Bi (N:=14) (rs:=[.tmp 2]) Tryz.func117 ?_
 refine Ac [0] ?_
 refine AW.seq<|Ac [0,3] ?_
 refine AW.block ?_
 obtain ⟨y11,hy11,h⟩:=bO h
 refine AW.loopO (fun s=>⟨(Ag (Ag Az 0 (.val (.int .u64 a0))) 3 (.val (.int .i64 s))),Bo [] [],8⟩) (fun y e st'=>match y with|.inl z=>e=Exit.ret∧Ay Tryz.prog [.tmp 2] (.val (.int .i64 z)) .ret st'|.inr z=>e=Exit.exit 0∧st'=⟨Az,Bo [] [],8⟩) hy11 ?_ ?_ ?_
 ·exact Bg RF.any.qv.qv
 ·clear h hy11
  rintro s1_0 x h
  rw [Mr] at h
  refine AW.seq<|Ac [0,3,5] ?_
  rcases Aq h with ⟨c8,h⟩|⟨c8,h⟩
  ·refine Aj rfl c8<|AW.skip<|Aa<|AW.seq<|AW.block ?_
   obtain ⟨x9,hx9,h⟩:=bO h
   refine Bx [0,3,12] (ok118 (IntKind.i64.wrap (7*s1_0)) x9 hx9) Tryz.call118 ?_
   rcases Aq h with ⟨c10,h⟩|⟨c10,h⟩
   ·refine Aj rfl c10<|Ac [2] ?_
    refine AW.ret<|Bd<|Ad<|Ad ?_
    refine ⟨_,oj h,_,Ent.refl,rfl,?_⟩
    (simp only [go_sem,seval,Ay]<;>try simp)
   ·refine Ai rfl c10<|AW.skip<|Ax<|Aa<|Cd [0,3] ?_
    refine Aa ?_
    refine ⟨_,oj h,?_⟩
    exact Bg RF.any.qv.qv
  ·refine Ai rfl c8<|AW.exit<|Af<|Af ?_
   refine ⟨_,oj h,_,?_,rfl,rfl⟩
   exact Bg RF.any
 ·intro e st' hX
  rcases y11 with y12|_<;>dsimp only at h hX
  ·obtain ⟨rfl,hf⟩:=hX
   refine ⟨_,Ent.refl,?_⟩
   refine Bd<|Ad ?_
   obtain rfl:=oi h
   exact hf
  ·obtain ⟨rfl,rfl⟩:=hX
   refine ⟨_,Ent.refl,?_⟩
   refine Bc<|Aa<|Ac [2] ?_
   refine AW.ret ?_
   obtain rfl:=oi h
   (simp only [go_sem,seval,Ay]<;>try simp)
def Yk:Int×Int→Option ((Int×Int)⊕Int)
  | (s1_0,s1_1)=>(if 128≤s1_0 then some (.inl (IntKind.u8.wrap ((IntKind.i64.wrap ((IntKind.i64.wrap s1_0)*2)).tmod 256),IntKind.i64.wrap (s1_1+1))) else some (.inr s1_1))
def f126 (a0:Int):Option Int:=((loopO Yk (a0,0)).bind fun y8=>some y8)
theorem ok126 (a0:Int) (r:Int) (h:f126 a0=some r):PC Tryz.prog 126 [.val (.int .u8 a0)] (.val (.int .i64 r)):=by
 rw [f126] at h
 refine Bi (N:=14) (rs:=[.tmp 2]) Tryz.func126 ?_
 refine Ao [0] ?_
 refine Ao [0,3] ?_
 refine AW.seq<|AW.block ?_
 obtain ⟨y8,hy8,h⟩:=bO h
 refine AW.loopO (fun s=>⟨(Ag (Ag Az 0 (.val (.int .u8 s.1))) 3 (.val (.int .i64 s.2))),Bo [] [],8⟩) (fun z e st'=>e=Exit.exit 0∧st'=⟨(Ag Az 3 (.val (.int .i64 z))),Bo [] [],8⟩) hy8 ?_ ?_ ?_
 ·exact Bg RF.any.qv.qv
 ·clear h hy8
  rintro ⟨s1_0,s1_1⟩ x h
  rw [Yk] at h
  refine AW.seq<|Ao [0,3,5] ?_
  rcases Aq h with ⟨c6,h⟩|⟨c6,h⟩
  ·refine Aj rfl c6<|AW.skip<|Aa<|AW.block<|Eb [0,3] ?_
   refine Uw [0,3] ?_
   refine Ax<|Aa ?_
   refine ⟨_,oj h,?_⟩
   exact Bg RF.any.qv.qv
  ·refine Ai rfl c6<|AW.exit<|Af<|Af ?_
   refine ⟨_,oj h,_,?_,rfl,rfl⟩
   exact Bg RF.any.qv
 ·intro e st' hX
  try dsimp only at h
  try dsimp only at hX
  obtain ⟨rfl,rfl⟩:=hX
  refine ⟨_,Ent.refl,?_⟩
  refine Bc<|Aa<|Ao [2] ?_
  refine AW.ret ?_
  obtain rfl:=oi h
  (simp only [go_sem,seval,Ay]<;>try simp)
def Vp (a0:List Int) (a1:Int) (x8:Int):Int×Int→Option ((Int×Int)⊕Int)
  | (s2_0,s2_1)=>(if s2_1<(IntKind.i64.wrap (a1+(IntKind.i64.wrap (x8+1)))) then ((ix a0 s2_1).bind fun x30=>some (.inl (IntKind.u64.wrap ((IntKind.u64.wrap (256*s2_0))+(IntKind.u64.wrap x30)),IntKind.i64.wrap (s2_1+1)))) else some (.inr s2_0))
def Of (a0:List Int) (a1:Int) (x8:Int):Int→Option (Int×Int×Int)
  | j1_0=>((loopO (Vp a0 a1 x8) (j1_0,IntKind.i64.wrap (a1+1))).bind fun y32=>((f117 y32).bind fun x33=>(if x33=(IntKind.i64.wrap (x8+1)) then some (y32,IntKind.i64.wrap (a1+(IntKind.i64.wrap (x8+1))),0) else some (0,0,3))))
def f99 (a0:List Int) (a1:Int):Option (Int×Int×Int):=(if a1<0 then some (0,0,8) else (if (a0.length:Int)<a1 then some (0,0,8) else (if a1=(a0.length:Int) then some (0,0,2) else ((ix a0 a1).bind fun x7=>((f126 x7).bind fun x8=>(if (IntKind.i64.wrap ((a0.length:Int)-a1))<(IntKind.i64.wrap (x8+1)) then some (0,0,2) else (if (IntKind.i64.wrap (x8+1))≤8 then ((f118 (IntKind.i64.wrap (8-(IntKind.i64.wrap (x8+1))))).bind fun x36=>((Dt (¬x36=0)).bind fun x37=>Of a0 a1 x8 ((IntKind.u64.wrap x7).tmod x36))) else Of a0 a1 x8 0)))))))
theorem ok99 (a0:List Int) (a1:Int) (r:Int×Int×Int) (h:f99 a0 a1=some r):PC Tryz.prog 99 [.sl (List.map Aw a0),.val (.int .i64 a1)] (.tup [.val (.int .u64 r.1),.val (.int .i64 r.2.1),.val (.int .i64 r.2.2)]):=by
 rw [f99] at h
 refine Bi (N:=70) (rs:=[.tmp 4,.tmp 5,.tmp 6]) Tryz.func99 ?_
 refine Ao [0,1] ?_
 refine AW.seq ?_
 rcases Aq h with ⟨c3,h⟩|⟨c3,h⟩
 ·refine Ao [0,1,17] ?_
  refine Bp rfl rfl<|Ao [4,5,6] ?_
  refine AW.ret<|Ad ?_
  obtain rfl:=oi h
  (simp only [go_sem,seval,Ay]<;>try simp)
 ·refine Ao [0,1,17] ?_
  rcases Aq h with ⟨c4,h⟩|⟨c4,h⟩
  ·refine Aj rfl c4<|Ac [4,5,6] ?_
   refine AW.ret<|Ad ?_
   obtain rfl:=oi h
   (simp only [go_sem,seval,Ay]<;>try simp)
  ·refine Ai rfl c4<|AW.skip<|Aa<|AW.seq<|Ac [0,1,21] ?_
   rcases Aq h with ⟨c6,h⟩|⟨c6,h⟩
   ·refine Aj rfl c6<|Ac [4,5,6] ?_
    refine AW.ret<|Ad ?_
    obtain rfl:=oi h
    (simp only [go_sem,seval,Ay]<;>try simp)
   ·refine Ai rfl c6<|AW.skip<|Aa ?_
    obtain ⟨x7,hx7,h⟩:=bO h
    obtain ⟨hx7a,hx7b⟩:=ix_some.1 hx7
    obtain ⟨x8,hx8,h⟩:=bO h
    refine AW.vC [0,1,7] (ok126 x7 x8 hx8) Tryz.call126 ?_
    refine AW.seq<|Ac [0,1,7,33] ?_
    rcases Aq h with ⟨c10,h⟩|⟨c10,h⟩
    ·refine Aj rfl c10<|Ac [4,5,6] ?_
     refine AW.ret<|Ad ?_
     obtain rfl:=oi h
     (simp only [go_sem,seval,Ay]<;>try simp)
    ·refine Ai rfl c10<|AW.skip<|Aa<|Ac [0,1,7,8] ?_
     refine AW.join (fun s=>⟨(Ag (Ag (Ag (Ag Az 0 (.sl (List.map Aw a0))) 1 (.val (.int .i64 a1))) 7 (.val (.int .i64 (IntKind.i64.wrap (x8+1))))) 8 (.val (.int .u64 s))),Bo [] [],8⟩) (fun s=>Of a0 a1 x8 s=some r) ?_ ?_
     ·refine Eb [0,1,7,8,35] ?_
      rcases Aq h with ⟨c35,h⟩|⟨c35,h⟩
      ·refine Aj rfl c35 ?_
       obtain ⟨x36,hx36,h⟩:=bO h
       obtain ⟨x37,hx37,h⟩:=bO h
       refine AW.rH [0,1,7,8] [0,0,3,7,15,0,32,96,255,511] (ok118 (IntKind.i64.wrap (8-(IntKind.i64.wrap (x8+1)))) x36 hx36) Tryz.call118 ?_
       generalize hK:Kj _ _ Exit.normal=K
       simp only [go_sem,seval,Ah hx7a,hx7b,eq_false (guardO_some.1 hx37)]
       subst hK
       refine Aa ?_
       refine ⟨_,h,?_⟩
       exact Bg RF.any.qv.qv.qv.qv
      ·refine Ai rfl c35<|AW.skip<|Aa ?_
       refine ⟨_,h,?_⟩
       exact Bg RF.any.qv.qv.qv.qv
     ·clear h
      rintro j1_0 h
      rw [Of] at h
      refine AW.seq<|Ac [0,1,7,8,9] ?_
      refine AW.block ?_
      obtain ⟨y32,hy32,h⟩:=bO h
      refine AW.loopO (fun s=>⟨(Ag (Ag (Ag (Ag (Ag Az 0 (.sl (List.map Aw a0))) 1 (.val (.int .i64 a1))) 7 (.val (.int .i64 (IntKind.i64.wrap (x8+1))))) 8 (.val (.int .u64 s.1))) 9 (.val (.int .i64 s.2))),Bo [] [],8⟩) (fun z e st'=>e=Exit.exit 0∧st'=⟨(Ag (Ag (Ag Az 1 (.val (.int .i64 a1))) 7 (.val (.int .i64 (IntKind.i64.wrap (x8+1))))) 8 (.val (.int .u64 z))),Bo [] [],8⟩) hy32 ?_ ?_ ?_
      ·exact Bg RF.any.qv.qv.qv.qv.qv
      ·clear h hy32
       rintro ⟨s2_0,s2_1⟩ x h
       rw [Vp] at h
       refine AW.seq<|Ac [0,1,7,8,9,51] ?_
       rcases Aq h with ⟨c29,h⟩|⟨c29,h⟩
       ·refine Aj rfl c29<|AW.skip<|Aa<|AW.seq<|AW.block ?_
        obtain ⟨x30,hx30,h⟩:=bO h
        obtain ⟨hx30a,hx30b⟩:=ix_some.1 hx30
        refine Bz [0,1,7,8,9] ?_
        refine Ax<|Aa<|Cd [0,1,7,8,9] ?_
        refine Aa ?_
        refine ⟨_,oj h,?_⟩
        exact Bg RF.any.qv.qv.qv.qv.qv
       ·refine Ai rfl c29<|AW.exit<|Af<|Af ?_
        refine ⟨_,oj h,_,?_,rfl,rfl⟩
        exact Bg RF.any.qv.qv.qv
      ·intro e st' hX
       try dsimp only at h
       try dsimp only at hX
       obtain ⟨rfl,rfl⟩:=hX
       refine ⟨_,Ent.refl,?_⟩
       refine Bc<|Aa<|AW.seq ?_
       obtain ⟨x33,hx33,h⟩:=bO h
       refine Bx [1,7,8,65] (ok117 y32 x33 hx33) Tryz.call117 ?_
       rcases Aq h with ⟨c34,h⟩|⟨c34,h⟩
       ·refine Ai rfl (fun q=>q c34)<|AW.skip<|Aa<|Ac [4,5,6] ?_
        refine AW.ret ?_
        obtain rfl:=oi h
        (simp only [go_sem,seval,Ay]<;>try simp)
       ·refine Aj rfl c34<|Ac [4,5,6] ?_
        refine AW.ret<|Ad ?_
        obtain rfl:=oi h
        (simp only [go_sem,seval,Ay]<;>try simp)
def leadB (i:Nat):Bool:=match Hs Yk 10 ((i:Int),0) with
  | some k=>decide (f144 (Ki .u8 (allV .u8) (i:Int))=some k) && decide (0≤k) && decide (k≤8)
  | none=>false
theorem leadAll:(List.range 256).all leadB=true:=by kernel_rfl
theorem lead {x:Int} (h0:0≤x) (h1:x<256):∃k,f126 x=some k∧f144 (Ki .u8 (allV .u8) x)=some k∧0≤k∧k≤8:=by
  have h:=List.all_eq_true.1 leadAll x.toNat (by simp;omega)
  unfold leadB at h
  have e:((x.toNat:Nat):Int)=x:=by omega
  rw [e] at h
  split at h
  · rename_i k hk
    simp only [Bool.and_eq_true,decide_eq_true_eq] at h
    exact ⟨k,by rw [f126,loopO_iff.2 ⟨10,hk⟩];rfl,h.1.1,h.1.2,h.2⟩
  · cases h
def powB (k:Nat):Bool:=decide (Hs (Yl (k:Int)) 70 (1,0)=some (IntKind.u64.wrap (2 ^ k)))
theorem powAll:(List.range 65).all powB=true:=by kernel_rfl
theorem pow {k:Int} (h0:0≤k) (h1:k<65):f118 k=some (IntKind.u64.wrap (2 ^ k.toNat)):=by
  have h:=List.all_eq_true.1 powAll k.toNat (by simp;omega)
  unfold powB at h
  have e:((k.toNat:Nat):Int)=k:=by omega
  rw [e,decide_eq_true_eq] at h
  rw [f118,loopO_iff.2 ⟨70,h⟩];rfl
def firstB (x n:Nat):Bool:=decide (Xu .u64 (IntKind.u64.wrap (x:Int)) (Dn .u64 255 n)=(IntKind.u64.wrap (x:Int)).tmod (IntKind.u64.wrap (2 ^ (8-n))))
theorem firstAll:((List.range 256).all fun x=>(List.range 9).all fun n=>firstB x n)=true:=by kernel_rfl
theorem first {x:Int} {n:Nat} (h0:0≤x) (h1:x<256) (hn:n<9):Xu .u64 (IntKind.u64.wrap x) (Dn .u64 255 n)=(IntKind.u64.wrap x).tmod (IntKind.u64.wrap (2 ^ (8-n))):=by
  have h:=List.all_eq_true.1 (List.all_eq_true.1 firstAll x.toNat (by simp;omega)) n (by simpa using hn)
  unfold firstB at h
  have e:((x.toNat:Nat):Int)=x:=by omega
  rw [e,decide_eq_true_eq] at h
  exact h
theorem Eg (n:Int):IntKind.u64.wrap n=n % 18446744073709551616:=by
  simp [IntKind.wrap,IntKind.bits,IntKind.signed]
theorem Bf {n:Int} (h0 : -9223372036854775808≤n) (h1:n<9223372036854775808):IntKind.i64.wrap n=n:=by
  simp only [IntKind.wrap,IntKind.bits,IntKind.signed,Bool.true_and]
  split
  · rename_i h;simp only [ge_iff_le,decide_eq_true_eq] at h;omega
  · rename_i h;simp only [ge_iff_le,decide_eq_true_eq] at h;omega
theorem orN {n m:Nat} (hn:n<2 ^ 64) (hm:m<2 ^ 64):orV .u64 (n:Int) (m:Int)=((n ||| m:Nat):Int):=by
  show IntKind.u64.wrap (((BitVec.ofInt 64 (n:Int) ||| BitVec.ofInt 64 (m:Int)).toNat:Nat):Int)=_
  rw [Eg,BitVec.toNat_or,BitVec.ofInt_natCast,BitVec.ofInt_natCast,BitVec.toNat_ofNat,BitVec.toNat_ofNat,Nat.mod_eq_of_lt hn,Nat.mod_eq_of_lt hm]
  have:n ||| m<2 ^ 64:=Nat.or_lt_two_pow hn hm
  omega
theorem nextByte {v x:Int} (h0:0≤v) (hx:0≤x) (hx1:x<256) :
    orV .u64 (shlV .u64 v 8) (IntKind.u64.wrap x)=IntKind.u64.wrap (IntKind.u64.wrap (256*v)+IntKind.u64.wrap x):=by
  obtain ⟨n,rfl⟩:=Int.eq_ofNat_of_zero_le h0
  obtain ⟨m,rfl⟩:=Int.eq_ofNat_of_zero_le hx
  have e1:shlV .u64 (n:Int) 8=(((n % 72057594037927936)*256:Nat):Int):=by
    show IntKind.u64.wrap ((n:Int)*2 ^ (min 8 64))=_
    rw [Eg]
    simp only [Nat.reduceLeDiff,Nat.min_eq_left,Int.reducePow]
    omega
  have e2:IntKind.u64.wrap (m:Int)=(m:Int):=by rw [Eg];omega
  rw [e1,e2,orN (by omega) (by omega)]
  have e3:(n % 72057594037927936)*256 ||| m=(n % 72057594037927936)*256+m:=by
    have:=Nat.shiftLeft_add_eq_or_of_lt (i:=8) (b:=m) (by omega) (n % 72057594037927936)
    rw [Nat.shiftLeft_eq] at this
    simpa using this.symm
  rw [e3,Eg,Eg]
  omega
theorem shr_nat {v:Int} {k:Nat} (h0:0≤v) (hk:k≤64):Dn .u64 v k=0↔v<2 ^ k:=by
  show v.fdiv (2 ^ (min k 64))=0↔_
  rw [Nat.min_eq_left hk]
  obtain ⟨n,rfl⟩:=Int.eq_ofNat_of_zero_le h0
  have hp:(2:Int) ^ k=((2 ^ k:Nat):Int):=by simp
  have hq:=Nat.two_pow_pos k
  have:=Nat.div_eq_zero_iff_lt (x:=n) hq
  rw [hp]
  generalize 2 ^ k=q at *
  rw [Int.fdiv_eq_ediv_of_nonneg _ (by omega),←Int.natCast_ediv]
  omega
theorem Dr {σ τ ρ π:Type} {s1:σ→Option (σ⊕ρ)} {s2:τ→Option (τ⊕π)} (I:Nat→σ→τ→Prop) {Q:ρ→π→Prop}
    (h:∀k s t,I k s t→(∃s' t' k',s1 s=some (.inl s')∧s2 t=some (.inl t')∧k'<k∧I k' s' t')∨(∃r r',loopO s1 s=some r∧loopO s2 t=some r'∧Q r r')) :
    ∀{k:Nat} {s:σ} {t:τ},I k s t→∃r r',loopO s1 s=some r∧loopO s2 t=some r'∧Q r r':=by
  intro k
  induction k using Nat.strongRecOn with
  | ind k ih =>
    intro s t hI
    rcases h k s t hI with ⟨s',t',k',h1,h2,hlt,hI'⟩|h
    · rw [Bj h1,Bj h2];exact ih k' hlt hI'
    · exact h
theorem size_eq {v:Int} (h0:0≤v):∃k,f132 v=some k∧f117 v=some k:=by
  have key:∃r r',loopO (Kg v) 1=some r∧loopO (Mr v) 1=some r'∧r=r':=by
    refine Dr (fun k s t=>s=t∧1≤s∧s≤9∧(k:Int)=9-s) ?_ (k:=8) ⟨rfl,by omega,by omega,by omega⟩
    rintro k s _ ⟨rfl,h1,h9,hk⟩
    by_cases h8:s≤8
    · have hw:IntKind.i64.wrap (7*s)=7*s:=Bf (by omega) (by omega)
      have hw1:IntKind.i64.wrap (s+1)=s+1:=Bf (by omega) (by omega)
      have e1:Kg v s=if v<2 ^ (7*s).toNat then some (.inr (.inl s)) else some (.inl (s+1)):=by
        rw [Kg,if_pos h8,hw,Cw (by omega),hw1]
        simp only [Option.bind_some,shr_nat h0 (by omega:(7*s).toNat≤64)]
      have e2:Mr v s=if v<2 ^ (7*s).toNat then some (.inr (.inl s)) else some (.inl (s+1)):=by
        rw [Mr,if_pos h8,hw,pow (by omega) (by omega),hw1]
        have:IntKind.u64.wrap (2 ^ (7*s).toNat)=2 ^ (7*s).toNat:=by
          rw [Eg]
          have hle:(2:Nat) ^ (7*s).toNat≤2 ^ 56:=Nat.pow_le_pow_right (by omega) (by omega)
          have hp:(2:Int) ^ (7*s).toNat=((2 ^ (7*s).toNat:Nat):Int):=by simp
          rw [hp]
          generalize 2 ^ (7*s).toNat=q at *
          omega
        simp only [Option.bind_some,this]
      by_cases hv:v<2 ^ (7*s).toNat
      · rw [if_pos hv] at e1 e2
        exact .inr ⟨_,_,Al e1,Al e2,rfl⟩
      · rw [if_neg hv] at e1 e2
        exact .inl ⟨_,_,k-1,e1,e2,by omega,rfl,by omega,by omega,by omega⟩
    · exact .inr ⟨_,_,Al (by rw [Kg,if_neg h8]),Al (by rw [Mr,if_neg h8]),rfl⟩
  obtain ⟨r,_,h1,h2,rfl⟩:=key
  cases r with
  | inl k=>exact ⟨k,by rw [f132,h1];rfl,by rw [f117,h2];rfl⟩
  | inr u=>exact ⟨9,by rw [f132,h1];rfl,by rw [f117,h2];rfl⟩
def Byt (b:List Int):Prop:=∀x∈b,0≤x∧x<256
def UV (b:List Int) (a:Int) (r:Int×Int×Int):Prop:=(r.2.2=0∧0≤r.1∧r.1<18446744073709551616∧0≤a∧a<r.2.1∧r.2.1≤b.length)∨(r.2.2≠0∧r.1=0∧r.2.1=0)
theorem Hy (n:Int):0≤IntKind.u64.wrap n∧IntKind.u64.wrap n<18446744073709551616:=by rw [Eg];omega
theorem uv_j {b:List Int} (hb:Byt b) (hl:b.length≤1000000) {a x8 v:Int} (h0:0≤a) (hx:0≤x8) (hx8:x8≤8) (hn:a+(1+x8)≤b.length) (hv:0≤v) (hv1:v<18446744073709551616) :
    ∃r,Ou b a x8 v=some r∧Of b a x8 v=some r∧UV b a r:=by
  have w1:IntKind.i64.wrap (1+x8)=1+x8:=Bf (by omega) (by omega)
  have w1':IntKind.i64.wrap (x8+1)=1+x8:=by rw [Bf (by omega) (by omega)];omega
  have w2:IntKind.i64.wrap (a+1)=a+1:=Bf (by omega) (by omega)
  have w3:IntKind.i64.wrap (a+(1+x8))=a+(1+x8):=Bf (by omega) (by omega)
  let c:=(b.drop (a+1).toNat).take ((a+(1+x8)).toNat-(a+1).toNat)
  have hc:Dl b (a+1) (a+(1+x8))=some c:=cutO?_some.2 ⟨⟨by omega,by omega,by omega⟩,rfl⟩
  have hcl:(c.length:Int)=x8:=by simp only [c,List.length_take,List.length_drop];omega
  have key:∃r r',loopO (Ua c) (v,0)=some r∧loopO (Vp b a x8) (v,a+1)=some r'∧(r=r'∧0≤r∧r<18446744073709551616):=by
    refine Dr (fun k s t=>s.1=t.1∧0≤s.1∧s.1<18446744073709551616∧0≤s.2∧s.2≤x8∧t.2=a+1+s.2∧(k:Int)=x8-s.2) ?_ (k:=x8.toNat) ⟨rfl,hv,hv1,by omega,by omega,by simp,by simp;omega⟩
    rintro k ⟨v,i⟩ ⟨v',j⟩ ⟨e1,e2,e3,e4,e5,e6,e7⟩
    simp only at e1 e2 e3 e4 e5 e6 e7
    subst e1 e6
    by_cases hi:i<x8
    · have hlt:i.toNat<c.length:=by omega
      have hlt2:(a+1+i).toNat<b.length:=by omega
      have hget:c[i.toNat]=b[(a+1+i).toNat]:=by
        simp only [c,List.getElem_take,List.getElem_drop]
        congr 1;omega
      obtain ⟨b0,b1⟩:=hb _ (List.getElem_mem hlt2)
      have i1:ix c i=some b[(a+1+i).toNat]:=ix_some.2 ⟨e4,by rw [←hget];exact List.getElem?_eq_getElem hlt⟩
      have i2:ix b (a+1+i)=some b[(a+1+i).toNat]:=ix_some.2 ⟨by omega,List.getElem?_eq_getElem hlt2⟩
      refine .inl ⟨(IntKind.u64.wrap (IntKind.u64.wrap (256*v)+IntKind.u64.wrap b[(a+1+i).toNat]),i+1),(IntKind.u64.wrap (IntKind.u64.wrap (256*v)+IntKind.u64.wrap b[(a+1+i).toNat]),a+1+i+1),k-1,?_,?_,by omega,rfl,(Hy _).1,(Hy _).2,by simp only;omega,by simp only;omega,by simp only;omega,by simp only;omega⟩
      · simp only [Ua,hcl,if_pos hi,i1,Option.bind_some,nextByte e2 b0 b1,Bf (show -9223372036854775808≤i+1 by omega) (by omega)]
      · simp only [Vp,w1',w3,if_pos (show a+1+i<a+(1+x8) by omega),i2,Option.bind_some,Bf (show -9223372036854775808≤a+1+i+1 by omega) (by omega)]
    · refine .inr ⟨v,v,Al ?_,Al ?_,rfl,e2,e3⟩
      · simp only [Ua,hcl,if_neg hi]
      · simp only [Vp,w1',w3,if_neg (show ¬a+1+i<a+(1+x8) by omega)]
  obtain ⟨y,_,k1,k2,rfl,k3,k4⟩:=key
  obtain ⟨z,z1,z2⟩:=size_eq k3
  by_cases hz:z=1+x8
  · refine ⟨(y,a+(1+x8),0),?_,?_,.inl ⟨rfl,k3,k4,h0,by simp only;omega,by simp only;omega⟩⟩
    · simp only [Ou,w1,w2,w3,hc,Option.bind_some,k1,z1,if_pos hz]
    · simp only [Of,w1',w2,w3,Option.bind_some,k2,z2,if_pos hz]
  · refine ⟨(0,0,3),?_,?_,.inr ⟨by simp,rfl,rfl⟩⟩
    · simp only [Ou,w1,w2,w3,hc,Option.bind_some,k1,z1,if_neg hz]
    · simp only [Of,w1',w2,w3,Option.bind_some,k2,z2,if_neg hz]
theorem uv_eq {b:List Int} (hb:Byt b) (hl:b.length≤1000000) (a:Int):∃r,f122 b a=some r∧f99 b a=some r∧UV b a r:=by
  unfold f122 f99
  by_cases h1:a<0
  · simp only [if_pos h1];exact ⟨_,rfl,rfl,.inr ⟨by simp,rfl,rfl⟩⟩
  simp only [if_neg h1]
  by_cases h2:(b.length:Int)<a
  · simp only [if_pos h2];exact ⟨_,rfl,rfl,.inr ⟨by simp,rfl,rfl⟩⟩
  simp only [if_neg h2]
  by_cases h3:a=(b.length:Int)
  · simp only [if_pos h3];exact ⟨_,rfl,rfl,.inr ⟨by simp,rfl,rfl⟩⟩
  simp only [if_neg h3]
  have hlt:a.toNat<b.length:=by omega
  have i1:ix b a=some b[a.toNat]:=ix_some.2 ⟨by omega,List.getElem?_eq_getElem hlt⟩
  obtain ⟨b0,b1⟩:=hb _ (List.getElem_mem hlt)
  generalize b[a.toNat]=x7 at i1 b0 b1
  obtain ⟨x8,l1,l2,l3,l4⟩:=lead b0 b1
  have w1:IntKind.i64.wrap (1+x8)=1+x8:=Bf (by omega) (by omega)
  have w1':IntKind.i64.wrap (x8+1)=1+x8:=by rw [Bf (by omega) (by omega)];omega
  have w2:IntKind.i64.wrap ((b.length:Int)-a)=(b.length:Int)-a:=Bf (by omega) (by omega)
  simp only [i1,Option.bind_some,l1,l2,w1,w1',w2]
  by_cases h4:(b.length:Int)-a<1+x8
  · simp only [if_pos h4];exact ⟨_,rfl,rfl,.inr ⟨by simp,rfl,rfl⟩⟩
  simp only [if_neg h4]
  by_cases h5:1+x8<9
  · have h5':1+x8≤8:=by omega
    have w4:IntKind.i64.wrap (8-(1+x8))=8-(1+x8):=Bf (by omega) (by omega)
    have hp:¬IntKind.u64.wrap (2 ^ (8-(1+x8)).toNat)=0:=by
      rw [Eg]
      have hle:(2:Nat) ^ (8-(1+x8)).toNat≤2 ^ 8:=Nat.pow_le_pow_right (by omega) (by omega)
      have hq:=Nat.two_pow_pos (8-(1+x8)).toNat
      have hp:(2:Int) ^ (8-(1+x8)).toNat=((2 ^ (8-(1+x8)).toNat:Nat):Int):=by simp
      rw [hp]
      generalize 2 ^ (8-(1+x8)).toNat=q at *
      omega
    simp only [if_pos h5,if_pos h5',w4,pow (show 0≤8-(1+x8) by omega) (by omega),Option.bind_some,Cw hp,Cw (show 0≤1+x8 by omega)]
    rw [first b0 b1 (by omega:(1+x8).toNat<9),show 8-(1+x8).toNat=(8-(1+x8)).toNat by omega]
    have r1:=Hy x7
    have r2:=Hy (2 ^ (8-(1+x8)).toNat)
    generalize IntKind.u64.wrap x7=u at *
    generalize IntKind.u64.wrap (2 ^ (8-(1+x8)).toNat)=q at *
    refine uv_j hb hl (by omega) l3 l4 (by omega) ?_ ?_
    · exact Int.tmod_nonneg _ r1.1
    · have:=Int.tmod_lt_of_pos u (show 0<q by omega);omega
  · have h5':¬ 1+x8≤8:=by omega
    simp only [if_neg h5,if_neg h5']
    exact uv_j hb hl (by omega) l3 l4 (by omega) (by omega) (by omega)
def f145 (a0:List Int) (a1:Int) (a2:Int):Option (ByteArray×Int×Int):=((f122 a0 a1).bind fun x1=>(if x1.2.2=0 then (if a2<0 then some (⟨#[]⟩,0,5) else (if (IntKind.u64.wrap a2)<x1.1 then some (⟨#[]⟩,0,5) else (if (IntKind.u64.wrap (IntKind.i64.wrap ((a0.length:Int)-x1.2.1)))<x1.1 then some (⟨#[]⟩,0,2) else ((Dl a0 x1.2.1 (IntKind.i64.wrap (x1.2.1+(IntKind.i64.wrap x1.1)))).bind fun x10=>some (strOfNums x10,IntKind.i64.wrap (x1.2.1+(IntKind.i64.wrap x1.1)),0))))) else some (⟨#[]⟩,0,x1.2.2)))
theorem ok145 (a0:List Int) (a1:Int) (a2:Int) (r:ByteArray×Int×Int) (h:f145 a0 a1 a2=some r):PC Tryz.prog 145 [.sl (List.map Aw a0),.val (.int .i64 a1),.val (.int .i64 a2)] (.tup [.val (.string r.1),.val (.int .i64 r.2.1),.val (.int .i64 r.2.2)]):=by
 rw [f145] at h
 refine Bi (N:=50) (rs:=[.tmp 6,.tmp 7,.tmp 8]) Tryz.func145 ?_
 refine Ac [0,1,2] ?_
 obtain ⟨x1,hx1,h⟩:=bO h
 refine Bx [0,2,7,8,9] (ok122 a0 a1 x1 hx1) Tryz.call122 ?_
 refine AW.seq<|AW.block<|Ao [0,2,7,8,9,17] ?_
 rcases Aq h with ⟨c6,h⟩|⟨c6,h⟩
 ·refine Ai rfl (fun q=>q c6) ?_
  rcases Aq h with ⟨c7,h⟩|⟨c7,h⟩
  ·refine Ao [0,7,9,21] ?_
   refine Bp rfl rfl<|Ao [6,7,8] ?_
   refine AW.ret<|Bd<|Ad ?_
   obtain rfl:=oi h
   (simp only [go_sem,seval,Ay]<;>try simp)
  ·refine Ao [0,7,9,21] ?_
   rcases Aq h with ⟨c8,h⟩|⟨c8,h⟩
   ·refine Aj rfl c8<|Ac [6,7,8] ?_
    refine AW.ret<|Bd<|Ad ?_
    obtain rfl:=oi h
    (simp only [go_sem,seval,Ay]<;>try simp)
   ·refine Ai rfl c8<|Ac [0,7,9,30] ?_
    rcases Aq h with ⟨c9,h⟩|⟨c9,h⟩
    ·refine Aj rfl c9<|Ac [6,7,8] ?_
     refine AW.ret<|Bd<|Ad ?_
     obtain rfl:=oi h
     (simp only [go_sem,seval,Ay]<;>try simp)
    ·refine Ai rfl c9<|AW.skip<|Ax<|Aa ?_
     obtain ⟨x10,hx10,h⟩:=bO h
     refine Cb [6,7,8] fun K hK=>?_
     simp only [go_sem,seval,Jw Pn sz5 (Eu _) hx10,Ce (enc:=Aw) (fun _=>rfl)]
     subst hK
     refine AW.ret ?_
     obtain rfl:=oi h
     (simp only [go_sem,seval,Ay]<;>try simp)
 ·refine Aj rfl c6<|Ac [6,7,8] ?_
  refine AW.ret<|Bd<|Ad ?_
  obtain rfl:=oi h
  (simp only [go_sem,seval,Ay]<;>try simp)
def f102 (a0:List Int) (a1:Int) (a2:Int):Option (ByteArray×Int×Int):=((f99 a0 a1).bind fun x1=>(if x1.2.2=0 then (if a2<0 then some (⟨#[]⟩,0,5) else (if (IntKind.u64.wrap a2)<x1.1 then some (⟨#[]⟩,0,5) else (if (IntKind.u64.wrap (IntKind.i64.wrap ((a0.length:Int)-x1.2.1)))<x1.1 then some (⟨#[]⟩,0,2) else ((Dl a0 x1.2.1 (IntKind.i64.wrap (x1.2.1+(IntKind.i64.wrap x1.1)))).bind fun x10=>some (strOfNums x10,IntKind.i64.wrap (x1.2.1+(IntKind.i64.wrap x1.1)),0))))) else some (⟨#[]⟩,0,x1.2.2)))
theorem ok102 (a0:List Int) (a1:Int) (a2:Int) (r:ByteArray×Int×Int) (h:f102 a0 a1 a2=some r):PC Tryz.prog 102 [.sl (List.map Aw a0),.val (.int .i64 a1),.val (.int .i64 a2)] (.tup [.val (.string r.1),.val (.int .i64 r.2.1),.val (.int .i64 r.2.2)]):=by
 rw [f102] at h
 refine Bi (N:=49) (rs:=[.tmp 6,.tmp 7,.tmp 8]) Tryz.func102 ?_
 refine Ac [0,1,2] ?_
 obtain ⟨x1,hx1,h⟩:=bO h
 refine Bx [0,2,9,10,11] (ok99 a0 a1 x1 hx1) Tryz.call99 ?_
 refine AW.seq<|Ao [0,2,9,10,11,20] ?_
 rcases Aq h with ⟨c3,h⟩|⟨c3,h⟩
 ·refine Ai rfl (fun q=>q c3) ?_
  refine AW.skip<|Aa<|AW.seq ?_
  rcases Aq h with ⟨c6,h⟩|⟨c6,h⟩
  ·refine Ao [0,9,10,29] ?_
   refine Bp rfl rfl<|Ao [6,7,8] ?_
   refine AW.ret<|Ad ?_
   obtain rfl:=oi h
   (simp only [go_sem,seval,Ay]<;>try simp)
  ·refine Ao [0,9,10,29] ?_
   rcases Aq h with ⟨c7,h⟩|⟨c7,h⟩
   ·refine Aj rfl c7<|Ac [6,7,8] ?_
    refine AW.ret<|Ad ?_
    obtain rfl:=oi h
    (simp only [go_sem,seval,Ay]<;>try simp)
   ·refine Ai rfl c7<|AW.skip<|Aa<|AW.seq<|Ac [0,9,10,36] ?_
    rcases Aq h with ⟨c9,h⟩|⟨c9,h⟩
    ·refine Aj rfl c9<|Ac [6,7,8] ?_
     refine AW.ret<|Ad ?_
     obtain rfl:=oi h
     (simp only [go_sem,seval,Ay]<;>try simp)
    ·refine Ai rfl c9<|AW.skip<|Aa ?_
     obtain ⟨x10,hx10,h⟩:=bO h
     refine Cb [6,7,8] fun K hK=>?_
     simp only [go_sem,seval,Jw Pn sz5 (Eu _) hx10,Ce (enc:=Aw) (fun _=>rfl)]
     subst hK
     refine AW.ret ?_
     obtain rfl:=oi h
     (simp only [go_sem,seval,Ay]<;>try simp)
 ·refine Aj rfl c3<|Ac [6,7,8] ?_
  refine AW.ret<|Ad ?_
  obtain rfl:=oi h
  (simp only [go_sem,seval,Ay]<;>try simp)
def SV' (b:List Int) (a:Int) (r:ByteArray×Int×Int):Prop:=(r.2.2=0∧0≤a∧a<r.2.1∧r.2.1≤b.length)∨(r.2.2≠0∧r.2.1=0)
theorem sv_eq {b:List Int} (hb:Byt b) (hl:b.length≤1000000) (a:Int):∃r,f145 b a 65536=some r∧f102 b a 65536=some r∧SV' b a r:=by
  obtain ⟨⟨v,p,e⟩,h1,h2,h3⟩:=uv_eq hb hl a
  simp only [f145,f102,h1,h2,Option.bind_some]
  rcases h3 with ⟨q1,q2,q3,q4,q5,q6⟩|⟨q1,q2,q3⟩
  · simp only at q1 q2 q3 q4 q5 q6
    subst q1
    simp only [if_true,if_neg (show ¬(65536:Int)<0 by decide)]
    have w0:IntKind.u64.wrap 65536=65536:=by decide
    have w1:IntKind.u64.wrap (IntKind.i64.wrap ((b.length:Int)-p))=(b.length:Int)-p:=by rw [Bf (by omega) (by omega),Eg];omega
    rw [w0,w1]
    by_cases c1:65536<v
    · simp only [if_pos c1];exact ⟨_,rfl,rfl,.inr ⟨by simp,rfl⟩⟩
    simp only [if_neg c1]
    by_cases c2:(b.length:Int)-p<v
    · simp only [if_pos c2];exact ⟨_,rfl,rfl,.inr ⟨by simp,rfl⟩⟩
    simp only [if_neg c2]
    have w2:IntKind.i64.wrap v=v:=Bf (by omega) (by omega)
    have w3:IntKind.i64.wrap (p+v)=p+v:=Bf (by omega) (by omega)
    rw [w2,w3,cutO?_some.2 ⟨⟨by omega,by omega,by omega⟩,rfl⟩]
    exact ⟨_,rfl,rfl,.inl ⟨rfl,q4,by simp only;omega,by simp only;omega⟩⟩
  · simp only at q1 q2 q3
    rw [if_neg q1]
    exact ⟨_,rfl,rfl,.inr ⟨q1,rfl⟩⟩
def f133 (a0:List Int):Option (List Int):=Bq [] a0
theorem ok133 (a0:List Int) (r:List Int) (h:f133 a0=some r):PC Tryz.prog 133 [.sl (List.map Aw a0)] (.fr 1 (List.map Aw r)):=by
  obtain ⟨hl,hr⟩:=appO?_some.1 h
  rw [List.nil_append] at hr
  subst hr
  have hb:a0.length≤34359738368:=by simpa using hl
  refine pc_of (N:=8) (rs:=[.tmp 2]) Tryz.func133 rfl rfl rfl (Nat.le_of_ble_eq_true rfl) ?_
  refine AW.reg ?_
  generalize hK:AW Tryz.prog _ _ _=K
  simp only [go_sem,seval]
  subst hK
  refine AW.seq ?_
  refine AW.nilq Pn rfl (by decide) (by decide) (fun bn hbn=>?_)
  refine AW.if rfl (fun hc4=>?_) (fun hc4=>?_)
  · have hl0:a0=[]:=by simpa using hbn (by simpa using hc4)
    subst hl0
    refine AW.reg ?_
    generalize hK:AW Tryz.prog _ _ _=K
    simp only [go_sem,seval]
    subst hK
    refine AW.ent (Av 2 1 (by decide) rfl) ?_
    refine AW.ret<|Ad ?_
    exact Yh (.inl rfl) rfl (by simp only [Ae,if_true];rfl) rfl rfl rfl
  · refine AW.skip ?_
    refine Aa<|AW.reg ?_
    generalize hK:AW Tryz.prog _ _ _=K
    simp (disch:=first|omega|(simp only [List.length_map,List.length_cons,List.length_nil,List.length_append]<;>omega)) only [go_sem,seval]
    subst hK
    refine AW.ret ?_
    exact Yh (.inl rfl) rfl (by simp only [Ae];rfl) (by simp) (by simp only [go_sem]) rfl
def Ro (a1:Int) (j1_1:Int) (j1_2:Int):(List Int)×Int→Option (((List Int)×Int)⊕(List Int))
  | (s1_0,s1_1)=>(if s1_1<j1_1 then ((Dt (0≤(IntKind.i64.wrap (8*(IntKind.i64.wrap ((IntKind.i64.wrap (j1_1-1))-s1_1)))))).bind fun x21=>(if s1_1=0 then ((Bq s1_0 [orV .u8 (IntKind.u8.wrap (Dn .u64 a1 (IntKind.i64.wrap (8*(IntKind.i64.wrap ((IntKind.i64.wrap (j1_1-1))-s1_1)))).toNat)) j1_2]).bind fun x23=>some (.inl (x23,IntKind.i64.wrap (s1_1+1)))) else ((Bq s1_0 [IntKind.u8.wrap (Dn .u64 a1 (IntKind.i64.wrap (8*(IntKind.i64.wrap ((IntKind.i64.wrap (j1_1-1))-s1_1)))).toNat)]).bind fun x24=>some (.inl (x24,IntKind.i64.wrap (s1_1+1)))))) else some (.inr s1_0))
def Rp (a1:Int):(List Int)×Int×Int→Option (List Int)
  | (j1_0,j1_1,j1_2)=>((loopO (Ro a1 j1_1 j1_2) (j1_0,0)).bind fun y26=>some y26)
def f109 (a0:List Int) (a1:Int):Option (List Int):=((f132 a1).bind fun x1=>((f133 a0).bind fun x2=>((Dt (0≤(IntKind.i64.wrap (9-x1)))).bind fun x3=>(if x1=9 then ((Bq x2 [255]).bind fun x28=>Rp a1 (x28,8,0)) else Rp a1 (x2,x1,(shlV .u8 255 (IntKind.i64.wrap (9-x1)).toNat))))))
theorem ok109 (a0:List Int) (a1:Int) (r:(List Int)) (h:f109 a0 a1=some r):PC Tryz.prog 109 [.sl (List.map Aw a0),.val (.int .u64 a1)] (.fr 1 (List.map Aw r)):=by
 rw [f109] at h
 refine Bi (N:=45) (rs:=[.tmp 4]) Tryz.func109 ?_
 refine Ao [0,1] ?_
 obtain ⟨x1,hx1,h⟩:=bO h
 refine Bx [0,1,5] (ok132 a1 x1 hx1) Tryz.call132 ?_
 obtain ⟨x2,hx2,h⟩:=bO h
 refine Bx [1,5,6] (ok133 a0 x2 hx2) Tryz.call133 ?_
 obtain ⟨x3,hx3,h⟩:=bO h
 refine Cb [1,5,6,7] fun K hK=>?_
 simp only [go_sem,seval,eq_false (Int.not_lt.2 (guardO_some.1 hx3))]
 subst hK
 refine AW.join (fun s=>⟨(Ag (Ag (Ag (Ag Az 1 (.val (.int .u64 a1))) 5 (.val (.int .i64 s.2.1))) 6 (.own 8 0 s.1.length)) 7 (.val (.int .u8 s.2.2))),Bo [] [some (.row 1 true (List.map Aw s.1))],9⟩) (fun s=>Rp a1 s=some r) ?_ ?_
 ·refine Cb [1,5,6,7,18] fun K hK=>?_
  simp only [go_sem,seval]
  subst hK
  rcases Aq h with ⟨c27,h⟩|⟨c27,h⟩
  ·refine Aj rfl c27 ?_
   obtain ⟨x28,hx28,h⟩:=bO h
   obtain ⟨hx28b,hx28e⟩:=appO?_some.1 hx28
   have hx28f:∀id o:Nat,Dw 1 1 id ([[.val (.int .u8 255)]]) 0 x2.length o (some (.row 1 true (List.map Aw x2)))=some ⟨.own id 0 x28.length,[(o,none),(id,some (.row 1 true (List.map Aw x28)))]⟩:=fun id o=>by
     subst hx28e;rw [Bw (by simp) (by simpa using hx28b) (by decide)];first|(simp [Aw];done)|(simp [Aw];omega)
   refine Ao [1,6] ?_
   refine Uw [1,5,6,7] ?_
   refine Aa ?_
   refine ⟨_,h,?_⟩
   exact Ab [128] RF.any.qv.qv.qo.qv (.nil _) (.ce (.nil _))
  ·refine Ai rfl c27<|AW.skip<|Aa ?_
   refine ⟨_,h,?_⟩
   exact Ab [48] RF.any.qv.qv.qo.qv (.nil _) (.ce (.nil _))
 ·clear h
  rintro ⟨j1_0,j1_1,j1_2⟩ h
  rw [Rp] at h
  refine AW.seq<|Ac [1,5,6,7,22,23] ?_
  refine AW.block ?_
  obtain ⟨y26,hy26,h⟩:=bO h
  refine AW.loopO (fun s=>⟨(Ag (Ag (Ag (Ag (Ag (Ag Az 1 (.val (.int .u64 a1))) 5 (.val (.int .i64 j1_1))) 6 (.own 8 0 s.1.length)) 7 (.val (.int .u8 j1_2))) 22 (.val (.int .i64 j1_1))) 23 (.val (.int .i64 s.2))),Bo [] [some (.row 1 true (List.map Aw s.1))],9⟩) (fun z e st'=>e=Exit.exit 0∧st'=⟨(Ag Az 6 (.own 8 0 z.length)),Bo [] [some (.row 1 true (List.map Aw z))],9⟩) hy26 ?_ ?_ ?_
  ·exact Ab [8] RF.any.qv.qv.qo.qv.qv.qv (.nil _) (.ce (.nil _))
  ·clear h hy26
   rintro ⟨s1_0,s1_1⟩ x h
   rw [Ro] at h
   refine Ac [1,5,6,7,22,23,24] ?_
   refine AW.seq ?_
   rcases Aq h with ⟨c20,h⟩|⟨c20,h⟩
   ·refine Aj rfl c20<|AW.skip<|Aa<|AW.seq<|AW.block<|Eb [1,5,6,7,8,22,23] ?_
    obtain ⟨x21,hx21,h⟩:=bO h
    refine Cb [1,5,6,7,8,9,22,23] fun K hK=>?_
    simp only [go_sem,seval,eq_true c20,eq_false (Int.not_lt.2 (guardO_some.1 hx21))]
    subst hK
    refine AW.seq<|Cb [1,5,6,7,9,22,23,35] fun K hK=>?_
    simp only [go_sem,seval]
    subst hK
    rcases Aq h with ⟨c22,h⟩|⟨c22,h⟩
    ·refine Aj rfl c22<|Cd [1,5,6,7,9,22,23] ?_
     refine Aa ?_
     obtain ⟨x23,hx23,h⟩:=bO h
     obtain ⟨hx23b,hx23e⟩:=appO?_some.1 hx23
     have hx23f:∀id o:Nat,Dw 1 1 id ([[.val (.int .u8 (orV .u8 (IntKind.u8.wrap (Dn .u64 a1 (IntKind.i64.wrap (8*(IntKind.i64.wrap ((IntKind.i64.wrap (j1_1-1))-s1_1)))).toNat)) j1_2))]]) 0 s1_0.length o (some (.row 1 true (List.map Aw s1_0)))=some ⟨.own id 0 x23.length,[(o,none),(id,some (.row 1 true (List.map Aw x23)))]⟩:=fun id o=>by
       subst hx23e;rw [Bw (by simp) (by simpa using hx23b) (by decide)];first|(simp [Aw];done)|(simp [Aw];omega)
     refine Dq [1,5,6,7,22,23] fun K hK=>?_
     simp only [go_sem,seval,hx23f]
     subst hK
     refine Ax<|Aa<|Cd [1,5,6,7,22,23] ?_
     refine Aa ?_
     refine ⟨_,oj h,?_⟩
     exact Ab [177] RF.any.qv.qv.qo.qv.qv.qv (.nil _) (.ce (.nil _))
    ·refine Ai rfl c22<|AW.skip<|Aa ?_
     obtain ⟨x24,hx24,h⟩:=bO h
     obtain ⟨hx24b,hx24e⟩:=appO?_some.1 hx24
     have hx24f:∀id o:Nat,Dw 1 1 id ([[.val (.int .u8 (IntKind.u8.wrap (Dn .u64 a1 (IntKind.i64.wrap (8*(IntKind.i64.wrap ((IntKind.i64.wrap (j1_1-1))-s1_1)))).toNat)))]]) 0 s1_0.length o (some (.row 1 true (List.map Aw s1_0)))=some ⟨.own id 0 x24.length,[(o,none),(id,some (.row 1 true (List.map Aw x24)))]⟩:=fun id o=>by
       subst hx24e;rw [Bw (by simp) (by simpa using hx24b) (by decide)];first|(simp [Aw];done)|(simp [Aw];omega)
     refine Bz [1,5,6,7,22,23] ?_
     refine Ax<|Aa<|Cd [1,5,6,7,22,23] ?_
     refine Aa ?_
     refine ⟨_,oj h,?_⟩
     exact Ab [145] RF.any.qv.qv.qo.qv.qv.qv (.nil _) (.ce (.nil _))
   ·refine Ai rfl c20<|AW.exit<|Af<|Af ?_
    refine ⟨_,oj h,_,?_,rfl,rfl⟩
    exact Ab [8] RF.any.qo (.nil _) (.ce (.nil _))
  ·intro e st' hX
   try dsimp only at h
   try dsimp only at hX
   obtain ⟨rfl,rfl⟩:=hX
   refine ⟨_,Ent.refl,?_⟩
   refine Bc<|Aa<|Ac [4] ?_
   refine AW.ret ?_
   obtain rfl:=oi h
   (simp only [go_sem,seval,Ay]<;>try simp)
def Sp:Int×(List Int)×Int→Option ((Int×(List Int)×Int)⊕(List Int))
  | (s2_0,s2_1,s2_2)=>(if 0≤s2_2 then ((ix s2_1 s2_2).bind fun x21=>some (.inl (IntKind.u64.wrap (s2_0.tdiv 256),(s2_1.set s2_2.toNat (IntKind.u8.wrap (s2_0.tmod 256))),IntKind.i64.wrap (s2_2-1)))) else some (.inr s2_1))
def Qn (a0:Int) (x1:Int):Int×Int→Option (List Int)
  | (j1_0,j1_1)=>((mkO j1_0 (0:Int)).bind fun x4=>((loopO Sp (a0,x4,IntKind.i64.wrap (j1_0-1))).bind fun y23=>(if x1=9 then ((Bq [255] y23).bind fun x27=>some x27) else ((y23[0]?).bind fun x28=>some (y23.set 0 (IntKind.u8.wrap (IntKind.i64.wrap (j1_1+(IntKind.i64.wrap x28)))))))))
def f88 (a0:Int):Option (List Int):=((f117 a0).bind fun x1=>((f118 (IntKind.i64.wrap (9-x1))).bind fun x2=>(if x1=9 then Qn a0 x1 (8,0) else Qn a0 x1 (x1,(IntKind.i64.wrap (256-(IntKind.i64.wrap x2)))))))
theorem ok88 (a0:Int) (r:(List Int)) (h:f88 a0=some r):PC Tryz.prog 88 [.val (.int .u64 a0)] (.fr 1 (List.map Aw r)):=by
 rw [f88] at h
 refine Bi (N:=49) (rs:=[.tmp 2]) Tryz.func88 ?_
 refine Ao [0] ?_
 obtain ⟨x1,hx1,h⟩:=bO h
 refine Bx [0,3] (ok117 a0 x1 hx1) Tryz.call117 ?_
 refine Ao [0,3,4] ?_
 obtain ⟨x2,hx2,h⟩:=bO h
 refine Bx [0,3,4,5] (ok118 (IntKind.i64.wrap (9-x1)) x2 hx2) Tryz.call118 ?_
 refine AW.join (fun s=>⟨(Ag (Ag (Ag (Ag Az 0 (.val (.int .u64 a0))) 3 (.val (.int .i64 x1))) 4 (.val (.int .i64 s.1))) 5 (.val (.int .i64 s.2))),Bo [] [],8⟩) (fun s=>Qn a0 x1 s=some r) ?_ ?_
 ·refine Eb [0,3,4,5,17] ?_
  rcases Aq h with ⟨c29,h⟩|⟨c29,h⟩
  ·refine Aj rfl c29<|Uw [0,3,4,5] ?_
   refine Aa ?_
   refine ⟨_,h,?_⟩
   exact Bg RF.any.qv.qv.qv.qv
  ·refine Ai rfl c29<|AW.skip<|Aa ?_
   refine ⟨_,h,?_⟩
   exact Bg RF.any.qv.qv.qv.qv
 ·clear h
  rintro ⟨j1_0,j1_1⟩ h
  rw [Qn] at h
  obtain ⟨x4,hx4,h⟩:=bO h
  refine Cb [0,3,4,5,6] fun K hK=>?_
  simp only [go_sem,seval,make_ok mk23 (enc:=Aw) rfl (by decide) hx4]
  subst hK
  refine AW.seq<|Cb [0,3,5,6,7] fun K hK=>?_
  simp only [go_sem,seval]
  subst hK
  refine AW.block ?_
  obtain ⟨y23,hy23,h⟩:=bO h
  refine AW.loopO (fun s=>⟨(Ag (Ag (Ag (Ag (Ag Az 0 (.val (.int .u64 s.1))) 3 (.val (.int .i64 x1))) 5 (.val (.int .i64 j1_1))) 6 (.own 8 0 s.2.1.length)) 7 (.val (.int .i64 s.2.2))),Bo [] [some (.row 1 true (List.map Aw s.2.1))],9⟩) (fun z e st'=>e=Exit.exit 0∧st'=⟨(Ag (Ag (Ag Az 3 (.val (.int .i64 x1))) 5 (.val (.int .i64 j1_1))) 6 (.own 8 0 z.length)),Bo [] [some (.row 1 true (List.map Aw z))],9⟩) hy23 ?_ ?_ ?_
  ·exact Ab [16] RF.any.qv.qv.qv.qo.qv (.nil _) (.ce (.nil _))
  ·clear h hy23
   rintro ⟨s2_0,s2_1,s2_2⟩ x h
   rw [Sp] at h
   refine AW.seq<|Eb [0,3,5,6,7,23] ?_
   rcases Aq h with ⟨c20,h⟩|⟨c20,h⟩
   ·refine Aj rfl c20<|AW.skip<|Aa<|AW.seq<|AW.block ?_
    obtain ⟨x21,hx21,h⟩:=bO h
    obtain ⟨hx21a,hx21b⟩:=ix_some.1 hx21
    refine Cb [0,3,5,6,7] fun K hK=>?_
    simp only [go_sem,seval,Ah hx21a,hx21b,Cm hx21b,set_enc (enc:=Aw) (fun _=>rfl)]
    subst hK
    refine Dq [0,3,5,6,7] fun K hK=>?_
    simp only [go_sem,seval]
    subst hK
    refine Ax<|Aa<|Dq [0,3,5,6,7] fun K hK=>?_
    simp only [go_sem,seval]
    subst hK
    refine Aa ?_
    refine ⟨_,oj h,?_⟩
    exact Ab [8] RF.any.qv.qv.qv.qo.qv (.nil _) (.ce (.nil _))
   ·refine Ai rfl c20<|AW.exit<|Af<|Af ?_
    refine ⟨_,oj h,_,?_,rfl,rfl⟩
    exact Ab [8] RF.any.qv.qv.qo (.nil _) (.ce (.nil _))
  ·intro e st' hX
   try dsimp only at h
   try dsimp only at hX
   obtain ⟨rfl,rfl⟩:=hX
   refine ⟨_,Ent.refl,?_⟩
   refine Bc<|Aa<|AW.seq<|Ao [5,6,35] ?_
   rcases Aq h with ⟨c26,h⟩|⟨c26,h⟩
   ·refine Aj rfl c26 ?_
    obtain ⟨x27,hx27,h⟩:=bO h
    obtain ⟨hx27b,hx27e⟩:=appO?_some.1 hx27
    have hx27f:∀id o:Nat,Dw 1 1 id (List.map Aw y23) 0 1 o (some (.row 1 true ([[.val (.int .u8 255)]])))=some ⟨.own id 0 x27.length,[(o,none),(id,some (.row 1 true (List.map Aw x27)))]⟩:=fun id o=>by
      subst hx27e;rw [Bw (by simp) (by simpa using hx27b) (by decide)];first|(simp [Aw];done)|(simp [Aw];omega)
    refine Ao [2] ?_
    refine AW.ret<|Ad ?_
    obtain rfl:=oi h
    (simp only [go_sem,seval,Ay]<;>try simp)
   ·refine Ai rfl c26<|AW.skip<|Aa ?_
    obtain ⟨x28,hx28,h⟩:=bO h
    refine Cb [6] fun K hK=>?_
    simp only [go_sem,seval,hx28,Cm hx28,set_enc (enc:=Aw) (fun _=>rfl)]
    subst hK
    refine Cb [2] fun K hK=>?_
    simp only [go_sem,seval]
    subst hK
    refine AW.ret ?_
    obtain rfl:=oi h
    (simp only [go_sem,seval,Ay]<;>try simp)
end Au
end Go.Proofs.Yt
