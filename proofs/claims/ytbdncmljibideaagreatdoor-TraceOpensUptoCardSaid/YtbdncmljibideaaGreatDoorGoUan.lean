import Derived.Test.YtbdncmljibideaaGreatDoorGoUai
import Derived.Test.YtbdncmljibideaaGreatDoorGoUae
import Derived.Below
import Derived.WalkKit
import Derived.Test.YtbdncmljibideaaGreatDoorProg
import Derived.LaidEql
import Derived.Stop.Asserts
import Derived.RowKitTokens
import Derived.Test.YtbdncmljibideaaGreatDoorGoUal
import Derived.Test.YtbdncmljibideaaGreatDoorGoUam
import Derived.Test.YtbdncmljibideaaGreatDoorGoUaa
import Derived.Test.YtbdncmljibideaaGreatDoorGoUad
import Derived.OpenShut
import Derived.Lib.LaidTab
import Derived.LaidSub
import Derived.LaidHandle
import Derived.Shelf.Vars
set_option linter.all false
noncomputable section
namespace Go.Gm
theorem oper_normN {P : Program} {o : Oper} {a : Act} {w : World} {K K' R : Act → World → Prop} {Q : Exit → Act → World → Prop} (hk : ∀ a w, K a w → K' a w)
    (h : o.wp P a w K (fun e a w => e = .normal ∧ R a w)) : o.wp P a w K' Q := by
  unfold Oper.wp at *
  generalize (execOp a.eval o).run P w = r at *
  cases r with
  | ok n w' =>
    cases n <;> simp only [Oper.upon] at h ⊢ <;>
      first
        | exact hk _ _ h
        | exact Calls.mono h (fun e w'' he => by
            cases e with
            | returned v => exact hk _ _ he
            | panicked ch => exact absurd he.1 (by simp)
            | outgrown => obtain ⟨a, w, h, _⟩ := he; cases h)
        | exact Rows.mono h (fun _ _ he => hk _ _ he)
  | halt x w' => cases x <;> simp only [Oper.upon] at h ⊢ <;> first | exact absurd h.1 (by simp) | exact h
theorem oper_normI {F : Fence} {n : Nat} {P : Program} {o : Oper} {a : Act} {w : World} {K K' R : Act → World → Prop} {Q : Exit → Act → World → Prop} (hk : ∀ a w, K a w → K' a w)
    (h : o.wpIn F n P a w K (fun e a w => e = .normal ∧ R a w)) : o.wpIn F n P a w K' Q := by
  unfold Oper.wpIn at *
  refine ⟨h.1, ?_⟩
  have h := h.2
  generalize (o.semAt F.round a.eval).run P w = r at *
  cases r with
  | ok x w' =>
    cases x <;> first
      | exact hk _ _ h
      | exact h.elim
      | exact ⟨h.1, RowsIn.mono h.2 fun _ _ he => hk _ _ he⟩
      | exact ⟨h.1, CallsIn.mono h.2 fun e w' he => match e, he with
          | .returned _, he => hk _ _ he
          | .panicked _, he => absurd he.1 (by simp)
          | .outgrown, he => absurd he.choose_spec.choose_spec.1 (by simp)⟩
      | exact ⟨h.1, RoundIn.mono h.2 fun e w' he => match e, he with
          | .returned _, he => hk _ _ he
          | .panicked _, he => absurd he.1 (by simp)
          | .outgrown, he => absurd he.choose_spec.choose_spec.1 (by simp)⟩
  | halt x w' => cases x <;> first | exact absurd h.1 (by simp) | exact h.elim
theorem wpList_append {P : Program} {ops : Array Oper} {K : Act → World → Prop} {Q : Exit → Act → World → Prop} {rest : List Oper} (hk : ∀ a w, K a w → wpList P ops Q rest a w) :
    ∀ (pre : List Oper) (a : Act) (w : World), wpList P ops (fun e a w => e = .normal ∧ K a w) pre a w → wpList P ops Q (pre ++ rest) a w
  | [], a, w, h => hk a w h.2
  | o :: L, a, w, h => by
    have hl : ¬ LetsOut (fun e (a : Act) (w : World) => e = Exit.normal ∧ K a w) := by rintro ⟨_, _, h, _⟩; cases h
    show wpList P ops Q (o :: (L ++ rest)) a w
    unfold wpList at h ⊢
    split
    · rename_i hw
      rw [if_pos hw] at h
      rcases h with h | h
      · exact .inl (oper_normN (fun a w h => wpList_append hk L a w h) h)
      · exact absurd h.2 hl
    · rename_i hw
      rw [if_neg hw] at h
      exact wpList_append hk L _ _ h
theorem wpListIn_append {F : Fence} {n : Nat} {P : Program} {ops : Array Oper} {K : Act → World → Prop} {Q : Exit → Act → World → Prop} {rest : List Oper} (hk : ∀ a w, K a w → wpListIn F n P ops Q rest a w) :
    ∀ (pre : List Oper) (a : Act) (w : World), wpListIn F n P ops (fun e a w => e = .normal ∧ K a w) pre a w → wpListIn F n P ops Q (pre ++ rest) a w
  | [], a, w, h => hk a w h.2
  | o :: L, a, w, h => by
    show wpListIn F n P ops Q (o :: (L ++ rest)) a w
    unfold wpListIn at h ⊢
    split
    · rename_i hw
      rw [if_pos hw] at h
      exact oper_normI (fun a w h => wpListIn_append hk L a w h) h
    · rename_i hw
      rw [if_neg hw] at h
      exact ⟨h.1, wpListIn_append hk L _ _ h.2⟩
theorem WL.append {md : Option (Nat × Nat)} {P : Program} {ops : Array Oper} {K : Act → World → Prop} {Q : Exit → Act → World → Prop} {pre rest : List Oper} {a : Act} {w : World} (hk : ∀ a w, K a w → WL md P ops Q rest a w)
    (h : WL md P ops (fun e a w => e = .normal ∧ K a w) pre a w) : WL md P ops Q (pre ++ rest) a w := by
  cases md with
  | none => exact wpList_append hk _ _ _ h
  | some x => exact wpListIn_append hk _ _ _ h
theorem AW.regS {P : Program} {N id : Nat} {y : Code} {Q : Exit → ASt → Prop} {st : ASt} {ops : List Oper} (k : Nat) (l : List Nat)
    (h : arun P N ops (ops.take k) st (fun s1 => ∃ s2, Ent N s1 s2 ∧ arun P N ops (ops.drop k) s2 (fun s3 => AW P N y Q ⟨restr s3.fr l, s3.hp, s3.nx⟩))) : AW P N (.seq (.region id ops.toArray false) y) Q st :=
  AW.seq fun md G a w hc => WP.list (by
    show WL md P ops.toArray _ ops a w
    have hs : ∀ L, L = ops.take k ++ ops.drop k → WL md P ops.toArray (fun e a' w' => ∃ st', thenA (AW P N y Q) Q e st' ∧ Conc G N st' a' w') L a w := by
      rintro L rfl
      refine WL.append (K := fun a w => ∃ s1, (∃ s2, Ent N s1 s2 ∧ arun P N ops (ops.drop k) s2 (fun s3 => AW P N y Q ⟨restr s3.fr l, s3.hp, s3.nx⟩)) ∧ Conc G N s1 a w) ?_ (arun_sound (fun s a w hq hc => ⟨rfl, s, hq, hc⟩) hc h)
      rintro a1 w1 ⟨s1, ⟨s2, hE, hr⟩, hc1⟩
      exact arun_sound (fun s a w hq hc => ⟨_, hq, Ent.restr l P G a w hc⟩) (hE P G a1 w1 hc1) hr
    exact hs ops (List.take_append_drop k ops).symm)
end Go.Gm
namespace Go.Gm
open Go.RowKit
theorem Mem.grow {P : Program} {G : Ghost P} {hp : AHeap} {al : Nat → Prop} {loc : Nat → Option Loc} {w w' : World} (h : Mem G hp al loc w) (hb : Below w.heap.size w w') :
    Mem G hp al loc w' ∧ Ext (mkE G.m1 hp al loc w) (mkE G.m1 hp al loc w') := by
  have x : Ext (mkE G.m1 hp al loc w) (mkE G.m1 hp al loc w') := mk_ext (fun _ h => h) (fun _ _ _ h => h) hb.size (fun b _ hc => hc) (fun b hlt _ => hb.block b hlt)
  exact ⟨h.change x (fun t o ho => .inl ⟨ho, rfl, fun l hl hlt => hb.block _ (h.lt hl hlt)⟩) h.none_ h.al_ h.inj hb.os hb.tape hb.output (fun b hb => .inl hb) (fun t l h1 h2 => .inl ⟨t, l, h1, h2, rfl⟩), x⟩
theorem ic_put1 {P : Program} {f : FuncId} {T : TypeId} {x v v' r : Value} {Z : World → Prop} (hv' : v'.oneCell' = true) (hZ : ∀ m w, TabH P m w → Z w)
    (h : ∀ (w : World) (b o : Nat), w.cell? ⟨b, o, none⟩ = some v → w.frozen? ⟨b, o, none⟩ = false → Z w →
      Calls P f #[x, .iface T (.pointer (some ⟨b, o, none⟩))] w fun e w' => e = .returned r ∧ Below w.heap.size (w.setCell ⟨b, o, none⟩ v') w') :
    IC P f [some (.row 1 true [[.val v]])] [.val x, .ifc T (.ptr 0 0 0)] (.val r) [some (.row 1 true [[.val v']])] [] := by
  intro m w loc vs hm h8 ht hM hus
  obtain ⟨l, hl, g1, g2, g3, g4, g5, g6⟩ := hM.obj 0 (.row 1 true [[.val v]]) rfl
  have hlt : l.st < l.n := by simp at g4; omega
  obtain ⟨c, e, fz, us, k1, k2, k3, k4, k5, k6⟩ := g6 hlt
  have hus' : us = [v] := by
    cases k3 with
    | cons a b => cases a; cases b; rfl
  subst hus'
  have hk1 : w.heap[l.b]? = some (.cells c e fz) := by simpa [mkE] using k1
  have hcell : w.cell? ⟨l.b, l.st, none⟩ = some v := by
    have := k5 0 v rfl
    simpa [World.cell?, hk1] using this
  have hfz : w.frozen? ⟨l.b, l.st, none⟩ = false := by
    have := k6 l.st (.inl hlt)
    obtain ⟨lo, hi⟩ := fz
    simp only [World.frozen?, hk1]
    simp only [Bool.and_eq_false_iff, decide_eq_false_iff_not]
    by_cases h1 : lo ≤ l.st
    · right; intro h2; exact this ⟨h1, h2⟩
    · left; exact h1
  have hvs : vs = [x, .iface T (.pointer (some ⟨l.b, l.st, none⟩))] := by
    cases hus with
    | cons a b =>
      cases a
      cases b with
      | cons a b =>
        cases b
        cases a with
        | ifc hp =>
          cases hp with
          | ptr ha hh =>
            have := hh l hl
            rw [this]; simp
  subst hvs
  refine (h w l.b l.st hcell hfz (hZ _ _ ht)).mono ?_
  rintro e' w' ⟨rfl, hb⟩
  have hlb : l.b < w.heap.size := (Array.getElem?_eq_some_iff.1 hk1).1
  have hset : (w.setCell ⟨l.b, l.st, none⟩ v').heap[l.b]? = some (.cells (c.setIfInBounds l.st v') e fz) := by
    simp [World.setCell, Array.getElem?_modify, hk1]
  obtain ⟨hM1, x1⟩ := hM.write (t := 0) (ob := .row 1 true [[.val v]]) (ob' := .row 1 true [[.val v']]) (l := l) rfl rfl rfl hl hlt (w' := w.setCell ⟨l.b, l.st, none⟩ v') (by simp [World.setCell])
    (fun b hb => by
      simp only [World.setCell, Array.getElem?_modify]
      rw [if_neg (fun e => hb e.symm)]) rfl rfl rfl
    (fun _ => ⟨g1, g2, by simp, by simpa using g4, g5, fun _ => ⟨c.setIfInBounds l.st v', e, fz, [v'], by simpa [mkE] using hset, by simpa using k2, .cons (.val _) .nil, by simpa using hv', fun k u hk => by
      cases k with
      | zero => simp at hk; subst hk; simp [k2, hlt]
      | succ k => simp at hk, k6⟩⟩)
  obtain ⟨hM2, x2⟩ := hM1.grow (w' := w') (by simpa [World.setCell] using hb)
  have hhp : upd (hpL [some (.row 1 true [[.val v]])] []) 0 (some (.row 1 true [[.val v']])) = hpL [some (.row 1 true [[.val v']])] [] := by
    funext t
    by_cases e0 : t = 0
    · subst e0; rfl
    · rw [upd_other _ _ e0]
      cases t with
      | zero => exact absurd rfl e0
      | succ t => simp [hpL]
  rw [hhp] at hM2
  exact ⟨r, loc, rfl, hM2, .val _⟩
end Go.Gm
namespace Go.Proofs
open Go.RowKit Go.Extern.Stop Go.Stop Go.Extern
theorem Tryz.unpackP (t : TypeId) (p : Option Addr) (w : World) (ht : t = 88 ∨ t = 40) : (ReflectliteValue.unpack (.iface t (.pointer p))).run Tryz.prog w = .ok (.agg #[.pointer (some ⟨2, t, none⟩), .pointer (some ⟨w.heap.size, 0, none⟩), .int .u64 150]) (w.alloc (.cells #[.pointer p] t (0, 0))) := by
  rcases ht with rfl | rfl <;> kernel_rfl
theorem Tryz.unpackN (n : Int) (w : World) : (ReflectliteValue.unpack (.iface 35 (.int .i64 n))).run Tryz.prog w = .ok (.agg #[.pointer (some ⟨2, 35, none⟩), .pointer (some ⟨w.heap.size, 0, none⟩), .int .u64 130]) (w.alloc (.cells #[.int .i64 n] 35 (0, 0))) := by kernel_rfl
theorem Tryz.unpackS (s : ByteArray) (k : Int) (e : Value) (w : World) : (ReflectliteValue.unpack (.iface 38 (.agg #[.string s, .int .i64 k, e]))).run Tryz.prog w = .ok (.agg #[.pointer (some ⟨2, 38, none⟩), .pointer (some ⟨w.heap.size, 0, none⟩), .int .u64 153]) (w.alloc (.cells #[.string s, .int .i64 k, e] 38 (0, 0))) := by kernel_rfl
def tyOf := (ReflectliteValue.methodAny (ReflectliteValue.valueError "reflectlite.Value.Type" 0) fun t _ _ _ => ReflectliteType.toType t)
theorem Tryz.typeV (t : TypeId) (a : Addr) (w : World) (ht : t = 88 ∨ t = 40) : (tyOf #[.agg #[.pointer (some ⟨2, t, none⟩), .pointer (some a), .int .u64 150]]).run Tryz.prog w = .ok (.iface 137 (.agg #[.pointer (some ⟨2, t, none⟩)])) w := by
  rcases ht with rfl | rfl <;> kernel_rfl
theorem Tryz.mKind (v : Value) (w : World) : (Go.method 390 137 (.agg #[v]) "Kind").run Tryz.prog w = .ok (195, v) w := by kernel_rfl
theorem Tryz.mElem (v : Value) (w : World) : (Go.method 390 137 v "Elem").run Tryz.prog w = .ok (207, v) w := by kernel_rfl
theorem Tryz.mImpl (v : Value) (w : World) : (Go.method 390 137 v "Implements").run Tryz.prog w = .ok (208, v) w := by kernel_rfl
theorem Tryz.mAsgn (v : Value) (w : World) : (Go.method 390 137 v "AssignableTo").run Tryz.prog w = .ok (205, v) w := by kernel_rfl
theorem Tryz.mUnw (v : Value) (w : World) : (Go.method 390 38 v "Unwrap").run Tryz.prog w = .ok (200, v) w := by kernel_rfl
def kindM := ReflectliteType.abiMethod fun t => do pure (.int .u8 (← Rtype.kind t))
theorem Tryz.kindP (t : TypeId) (w : World) (ht : t = 88 ∨ t = 40) : (kindM #[.pointer (some ⟨2, t, none⟩)]).run Tryz.prog w = .ok (.int .u8 22) w := by
  rcases ht with rfl | rfl <;> kernel_rfl
theorem Tryz.kindN (w : World) : (kindM #[.pointer (some ⟨2, 35, none⟩)]).run Tryz.prog w = .ok (.int .u8 2) w := by kernel_rfl
theorem Tryz.kindS (w : World) : (kindM #[.pointer (some ⟨2, 38, none⟩)]).run Tryz.prog w = .ok (.int .u8 25) w := by kernel_rfl
def elemM := ReflectliteType.method ReflectliteType.elem
theorem Tryz.elemN (w : World) : (elemM #[.agg #[.pointer (some ⟨2, 88, none⟩)]]).run Tryz.prog w = .ok (.iface 137 (.agg #[.pointer (some ⟨2, 35, none⟩)])) w := by kernel_rfl
theorem Tryz.elemS (w : World) : (elemM #[.agg #[.pointer (some ⟨2, 40, none⟩)]]).run Tryz.prog w = .ok (.iface 137 (.agg #[.pointer (some ⟨2, 38, none⟩)])) w := by kernel_rfl
def implM := ReflectliteType.relation "Implements" ReflectliteType.implements_
theorem Tryz.implN (w : World) : (implM #[.agg #[.pointer (some ⟨2, 35, none⟩)], .iface 137 (.agg #[.pointer (some ⟨2, 28, none⟩)])]).run Tryz.prog w = .ok (.bool true) w := by kernel_rfl
theorem Tryz.implS (w : World) : (implM #[.agg #[.pointer (some ⟨2, 38, none⟩)], .iface 137 (.agg #[.pointer (some ⟨2, 28, none⟩)])]).run Tryz.prog w = .ok (.bool true) w := by kernel_rfl
def asgnM := ReflectliteType.relation "AssignableTo" ReflectliteType.assignableTo
theorem Tryz.asgnNN (w : World) : (asgnM #[.agg #[.pointer (some ⟨2, 35, none⟩)], .iface 137 (.agg #[.pointer (some ⟨2, 35, none⟩)])]).run Tryz.prog w = .ok (.bool true) w := by kernel_rfl
theorem Tryz.asgnSS (w : World) : (asgnM #[.agg #[.pointer (some ⟨2, 38, none⟩)], .iface 137 (.agg #[.pointer (some ⟨2, 38, none⟩)])]).run Tryz.prog w = .ok (.bool true) w := by kernel_rfl
theorem Tryz.asgnSN (w : World) : (asgnM #[.agg #[.pointer (some ⟨2, 38, none⟩)], .iface 137 (.agg #[.pointer (some ⟨2, 35, none⟩)])]).run Tryz.prog w = .ok (.bool false) w := by kernel_rfl
theorem Tryz.tyofN (v : Value) (w : World) : (ReflectliteType.typeOf #[.iface 35 v]).run Tryz.prog w = .ok (.iface 137 (.agg #[.pointer (some ⟨2, 35, none⟩)])) w := by kernel_rfl
theorem Tryz.tyofS (v : Value) (w : World) : (ReflectliteType.typeOf #[.iface 38 v]).run Tryz.prog w = .ok (.iface 137 (.agg #[.pointer (some ⟨2, 38, none⟩)])) w := by kernel_rfl
def isNilM := ReflectliteValue.method (ReflectliteValue.valueError "reflectlite.Value.IsNil" 0) ReflectliteValue.isNil
theorem Tryz.parts150 (t : TypeId) (a : Addr) (w : World) (ht : t = 88 ∨ t = 40) : (ReflectliteValue.parts (.agg #[.pointer (some ⟨2, t, none⟩), .pointer (some a), .int .u64 150])).run Tryz.prog w = .ok (some (t, a, 150)) w := by
  rcases ht with rfl | rfl <;> kernel_rfl
theorem Tryz.partsN (a : Addr) (f : Nat) (w : World) (hf : f = 130 ∨ f = 386) : (ReflectliteValue.parts (.agg #[.pointer (some ⟨2, 35, none⟩), .pointer (some a), .int .u64 f])).run Tryz.prog w = .ok (some (35, a, f)) w := by
  rcases hf with rfl | rfl <;> kernel_rfl
theorem Tryz.partsS (a : Addr) (f : Nat) (w : World) (hf : f = 153 ∨ f = 409) : (ReflectliteValue.parts (.agg #[.pointer (some ⟨2, 38, none⟩), .pointer (some a), .int .u64 f])).run Tryz.prog w = .ok (some (38, a, f)) w := by
  rcases hf with rfl | rfl <;> kernel_rfl
theorem Tryz.isAggP (t : TypeId) (ht : t = 88 ∨ t = 40 ∨ t = 35) (w : World) : (isAgg t).run Tryz.prog w = .ok false w := by
  rcases ht with rfl | rfl | rfl <;> kernel_rfl
theorem Tryz.isAggS (w : World) : (isAgg 38).run Tryz.prog w = .ok true w := by kernel_rfl
theorem Tryz.sizeS (w : World) : (sizeOf 38).run Tryz.prog w = .ok 3 w := by kernel_rfl
theorem Tryz.sizeN (w : World) : (sizeOf 35).run Tryz.prog w = .ok 1 w := by kernel_rfl
theorem Tryz.elemQ (t : TypeId) (w : World) (ht : t = 88 ∨ t = 40) : (Rtype.elem? t).run Tryz.prog w = .ok (some (if t = 88 then 35 else 38)) w := by
  rcases ht with rfl | rfl <;> kernel_rfl
end Go.Proofs
namespace Go.Proofs
open Go.RowKit Go.Extern.Stop Go.Stop Go.Extern
theorem method1 (z : Sem Value) (f : TypeId → Addr → Nat → Nat → Sem Value) (v : Value) : ReflectliteValue.method z f #[v] = (do match ← ReflectliteValue.parts v with | none => z | some (t, a, fl) => f t a fl (fl % 32)) := rfl
theorem set2 (v x : Value) : ReflectliteValue.set #[v, x] = (do
    let (some (dst, a, fl), some (src, b, _)) := (← ReflectliteValue.parts v, ← ReflectliteValue.parts x)
      | unsupported (.noEntry "extern/(internal/reflectlite.Value).Set.zeroValue")
    if fl / ReflectliteValue.flagAddr % 2 == 0 then unsupported (.noEntry "extern/(internal/reflectlite.Value).Set.unaddressable")
    let val ← loadVar src b
    if ← Rtype.directlyAssignable dst src then storeVar dst a val
    else if ← Rtype.implements dst src then
      if (← Rtype.kind src) == 20 then
        match val with
        | .nilIface => unsupported (.noEntry "extern/reflectlite: a nil value of one interface type handed on as a value of another")
        | _ => storeVar dst a val
      else storeVar dst a (.iface src val)
    else panicString ("reflectlite.Set: value of type " ++ (← Rtype.spelt src) ++ " is not assignable to type " ++ (← Rtype.spelt dst))
    pure (.tuple #[])) := rfl
theorem Tryz.loadP (t : TypeId) (a : Addr) (v : Value) (w : World) (ht : t = 88 ∨ t = 40 ∨ t = 35) (h : w.cell? a = some v) : (loadVar t a).run Tryz.prog w = .ok v w := by
  simp [loadVar, Tryz.isAggP t ht w, load, Sem.run, h]
theorem Tryz.isNilP (t : TypeId) (a p : Addr) (w : World) (ht : t = 88 ∨ t = 40) (h : w.cell? a = some (.pointer (some p))) : (isNilM #[.agg #[.pointer (some ⟨2, t, none⟩), .pointer (some a), .int .u64 150]]).run Tryz.prog w = .ok (.bool false) w := by
  have h1 := Tryz.parts150 t a w ht
  have h2 := Tryz.loadP t a _ w (by rcases ht with rfl | rfl <;> simp) h
  simp [isNilM, method1, h1, ReflectliteValue.isNil, h2]
def velemM := ReflectliteValue.method (ReflectliteValue.valueError "reflectlite.Value.Elem" 0) ReflectliteValue.elem
theorem Tryz.velemN (a p : Addr) (w : World) (h : w.cell? a = some (.pointer (some p))) : (velemM #[.agg #[.pointer (some ⟨2, 88, none⟩), .pointer (some a), .int .u64 150]]).run Tryz.prog w = .ok (.agg #[.pointer (some ⟨2, 35, none⟩), .pointer (some p), .int .u64 386]) w := by
  have h1 := Tryz.parts150 88 a w (.inl rfl)
  have h2 := Tryz.loadP 88 a _ w (by simp) h
  have h3 := Tryz.elemQ 88 w (.inl rfl)
  have h4 : (ReflectliteValue.mk 35 p ReflectliteValue.flagAddr).run Tryz.prog w = .ok (.agg #[.pointer (some ⟨2, 35, none⟩), .pointer (some p), .int .u64 386]) w := by kernel_rfl
  simp [velemM, method1, h1, ReflectliteValue.elem, h2, h3, h4]
theorem Tryz.velemS (a p : Addr) (w : World) (h : w.cell? a = some (.pointer (some p))) : (velemM #[.agg #[.pointer (some ⟨2, 40, none⟩), .pointer (some a), .int .u64 150]]).run Tryz.prog w = .ok (.agg #[.pointer (some ⟨2, 38, none⟩), .pointer (some p), .int .u64 409]) w := by
  have h1 := Tryz.parts150 40 a w (.inr rfl)
  have h2 := Tryz.loadP 40 a _ w (by simp) h
  have h3 := Tryz.elemQ 40 w (.inr rfl)
  have h4 : (ReflectliteValue.mk 38 p ReflectliteValue.flagAddr).run Tryz.prog w = .ok (.agg #[.pointer (some ⟨2, 38, none⟩), .pointer (some p), .int .u64 409]) w := by kernel_rfl
  simp [velemM, method1, h1, ReflectliteValue.elem, h2, h3, h4]
theorem Tryz.setN (a p : Addr) (n n0 : Int) (w : World) (h : w.cell? a = some (.int .i64 n)) (h0 : w.cell? p = some (.int .i64 n0)) (hz : w.frozen? p = false) :
    (ReflectliteValue.set #[.agg #[.pointer (some ⟨2, 35, none⟩), .pointer (some p), .int .u64 386], .agg #[.pointer (some ⟨2, 35, none⟩), .pointer (some a), .int .u64 130]]).run Tryz.prog w = .ok (.tuple #[]) (w.setCell p (.int .i64 n)) := by
  have h1 : (ReflectliteValue.parts (.agg #[.pointer (some ⟨2, 35, none⟩), .pointer (some p), .int .u64 386])).run Tryz.prog w = .ok (some (35, p, 386)) w := Tryz.partsN p 386 w (.inr rfl)
  have h2 : (ReflectliteValue.parts (.agg #[.pointer (some ⟨2, 35, none⟩), .pointer (some a), .int .u64 130])).run Tryz.prog w = .ok (some (35, a, 130)) w := Tryz.partsN a 130 w (.inl rfl)
  have h3 := Tryz.loadP 35 a _ w (by simp) h
  have h4 : (Rtype.directlyAssignable 35 35).run Tryz.prog w = .ok true w := by kernel_rfl
  have h5 : (storeVar 35 p (.int .i64 n)).run Tryz.prog w = .ok () (w.setCell p (.int .i64 n)) := by
    simp [storeVar, Tryz.sizeN, Value.cells, storeCells, store, Sem.run, h0, hz, Addr.add_zero']
  simp [set2, h1, h2, h3, h4, h5, ReflectliteValue.flagAddr]
end Go.Proofs
namespace Go.Proofs
open Go.RowKit Go.Extern.Stop Go.Stop Go.Extern
theorem lt_of_cell {w : World} {a : Addr} {v : Value} (h : w.cell? a = some v) : a.block < w.heap.size := by
  unfold World.cell? at h
  cases e : w.heap[a.block]? with
  | none => rw [e] at h; cases h
  | some o => exact (Array.getElem?_eq_some_iff.1 e).1
theorem heap_al {w : World} {b : Nat} (o : Obj) (h : b < w.heap.size) : (w.alloc o).heap[b]? = w.heap[b]? := by
  show (w.heap.push o)[b]? = _
  rw [Array.getElem?_push_lt h, Array.getElem?_eq_getElem h]
theorem size_al {w : World} (o : Obj) : (w.alloc o).heap.size = w.heap.size + 1 := by
  show (w.heap.push o).size = _
  simp
theorem cell_al {w : World} {a : Addr} {v : Value} (o : Obj) (h : w.cell? a = some v) : (w.alloc o).cell? a = some v := by
  have hl := lt_of_cell h
  unfold World.cell? at h ⊢
  rw [heap_al o hl]; exact h
theorem frozen_al {w : World} {a : Addr} (o : Obj) (hl : a.block < w.heap.size) (h : w.frozen? a = false) : (w.alloc o).frozen? a = false := by
  unfold World.frozen? at h ⊢
  rw [heap_al o hl]; exact h
theorem below_set {n : Nat} {w w' : World} {a : Addr} {v : Value} (h : Below n w w') (hl : a.block < n) : Below n (w.setCell a v) (w'.setCell a v) := by
  refine ⟨h.os, h.tape, h.output, by simpa [World.setCell] using h.size, fun b hb => ?_⟩
  have := h.block b hb
  simp only [World.setCell, Array.getElem?_modify, this]
theorem run_eql_nil {P : Program} {ti : TypeId} {ms : Array (String × TypeId)} (t : TypeId) (v : Value) (hi : P.underlying ti = some (.interface ms)) (w : World) :
    (binOp .eql ti (.iface t v) .nilIface).run P w = .ok (.bool false) w := by
  have h : ∀ d : Nat, (Op.equalIn (d + 1) ti (.iface t v) .nilIface).run P w = .ok false w := fun d => by simp [Op.equalIn, run_underlying hi]
  simp only [binOp]
  simp [Op.equal, Op.maxDepth, h 9999]
set_option maxHeartbeats 1000000 in
set_option maxRecDepth 100000 in
theorem as_no (b o : Nat) (n n0 : Int) (w : World) (hc : w.cell? ⟨b, o, none⟩ = some (.int .i64 n0)) (hz : w.frozen? ⟨b, o, none⟩ = false) (hE : w.cell? ⟨0, 0, none⟩ = some (.iface 137 (.agg #[.pointer (some ⟨2, 28, none⟩)]))) :
    Calls Tryz.prog 12 #[.iface 35 (.int .i64 n), .iface 88 (.pointer (some ⟨b, o, none⟩))] w fun e w' => e = .returned (.bool true) ∧ Below w.heap.size (w.setCell ⟨b, o, none⟩ (.int .i64 n)) w' := by
  have q1 := fun w => run_eql_nil (P := Tryz.prog) 35 (.int .i64 n) Tryz.underlying28 w
  have q2 := fun w => run_eql_nil (P := Tryz.prog) 88 (.pointer (some ⟨b, o, none⟩)) Tryz.underlying20 w
  have h39 : ∀ v w, (callFunc 39 #[v]).run Tryz.prog w = ((ReflectliteValue.unpack v).run Tryz.prog w).andThen fun v w' => .ok (.value v) w' := fun v w => @run_callFunc_extern Tryz.prog 39 _ (fun args => Extern.ReflectliteValue.unpack (args.getD 0 (.tuple #[]))) Tryz.func39 (by kernel_rfl) (by kernel_rfl) (by kernel_rfl) (by kernel_rfl) #[v] w
  have h40 := @run_callFunc_extern Tryz.prog 40 _ tyOf Tryz.func40 (by kernel_rfl) (by kernel_rfl) (by kernel_rfl) (by kernel_rfl)
  have h41 := @run_callFunc_extern Tryz.prog 41 _ isNilM Tryz.func41 (by kernel_rfl) (by kernel_rfl) (by kernel_rfl) (by kernel_rfl)
  have h195 := @run_callFunc_extern Tryz.prog 195 _ kindM Tryz.func195 (by kernel_rfl) (by kernel_rfl) (by kernel_rfl) (by kernel_rfl)
  have h207 := @run_callFunc_extern Tryz.prog 207 _ elemM Tryz.func207 (by kernel_rfl) (by kernel_rfl) (by kernel_rfl) (by kernel_rfl)
  have h208 := @run_callFunc_extern Tryz.prog 208 _ implM Tryz.func208 (by kernel_rfl) (by kernel_rfl) (by kernel_rfl) (by kernel_rfl)
  have h205 := @run_callFunc_extern Tryz.prog 205 _ asgnM Tryz.func205 (by kernel_rfl) (by kernel_rfl) (by kernel_rfl) (by kernel_rfl)
  have h69 := @run_callFunc_extern Tryz.prog 69 _ ReflectliteType.typeOf Tryz.func69 (by kernel_rfl) (by kernel_rfl) (by kernel_rfl) (by kernel_rfl)
  have h70 := @run_callFunc_extern Tryz.prog 70 _ velemM Tryz.func70 (by kernel_rfl) (by kernel_rfl) (by kernel_rfl) (by kernel_rfl)
  have h71 := @run_callFunc_extern Tryz.prog 71 _ ReflectliteValue.set Tryz.func71 (by kernel_rfl) (by kernel_rfl) (by kernel_rfl) (by kernel_rfl)
  have u88 := fun w => Tryz.unpackP 88 (some ⟨b, o, none⟩) w (.inl rfl)
  have t88 := fun a w => Tryz.typeV 88 a w (.inl rfl)
  have mK := Tryz.mKind
  have mE := Tryz.mElem
  have mI := Tryz.mImpl
  have mA := Tryz.mAsgn
  have kP := fun w => Tryz.kindP 88 w (.inl rfl)
  have kN := Tryz.kindN
  have eN := Tryz.elemN
  have iN := Tryz.implN
  have tN := Tryz.tyofN
  have aNN := Tryz.asgnNN
  have uN := Tryz.unpackN
  have hlt : b < w.heap.size := lt_of_cell hc
  have c4 : ∀ o1 o2 o3 o4, ((((w.alloc o1).alloc o2).alloc o3).alloc o4).cell? ⟨b, o, none⟩ = some (.int .i64 n0) := fun _ _ _ _ => cell_al _ (cell_al _ (cell_al _ (cell_al _ hc)))
  have f4 : ∀ o1 o2 o3 o4, ((((w.alloc o1).alloc o2).alloc o3).alloc o4).frozen? ⟨b, o, none⟩ = false := fun _ _ _ _ => frozen_al _ (by simp only [size_al]; omega) (frozen_al _ (by simp only [size_al]; omega) (frozen_al _ (by simp only [size_al]; omega) (frozen_al _ hlt hz)))
  have e2 : ∀ o1 o2, ((w.alloc o1).alloc o2).cell? ⟨0, 0, none⟩ = some (.iface 137 (.agg #[.pointer (some ⟨2, 28, none⟩)])) := fun o1 o2 => cell_al o2 (cell_al o1 hE)
  go_enter Tryz.func12, Tryz.ntmps12
  go_wp2
  rw [Tryz.isNilP 88 _ ⟨b, o, none⟩ _ (.inl rfl) (by simp)]
  simp only [Result.andThen]
  rw [Oper.upon_value]
  go_wp2
  refine wp_loop_rounds 1 ?_
  rw [rounds_succ]
  go_wp2
  rw [Tryz.velemN _ ⟨b, o, none⟩ _ (cell_al _ (cell_al _ (by simp)))]
  simp only [Result.andThen]
  rw [Oper.upon_value]
  go_wp2
  rw [Tryz.setN _ ⟨b, o, none⟩ n n0 _ ?h1 (c4 _ _ _ _) (f4 _ _ _ _)]
  case h1 =>
    show _ = (#[Value.int .i64 n] : Array Value)[0]?
    exact World.cell?_alloc_at _ _ _ _ (by simp only [size_al])
  simp only [Result.andThen]
  rw [Oper.upon_value]
  go_wp2
  go_ret
  exact ⟨rfl, below_set ((((Below.refl _ w).alloc (Nat.le_refl _) _).alloc (by simp only [size_al]; omega) _ |>.alloc (by simp only [size_al]; omega) _).alloc (by simp only [size_al]; omega) _) hlt⟩
end Go.Proofs
namespace Go.Proofs
open Go.RowKit Go.Extern.Stop Go.Stop Go.Extern
theorem Tryz.noAs (v : Value) (xT : TypeId) (w : World) : (Instr.typeAssert (.iface 38 v) xT 142 true).run Tryz.prog w = .ok (.tuple #[.nilIface, .bool false]) w := run_typeAssert_lacksB Tryz.underlying142 (by kernel_rfl) (by kernel_rfl) v xT w
theorem Tryz.hasUnw (v : Value) (xT : TypeId) (w : World) : (Instr.typeAssert (.iface 38 v) xT 145 true).run Tryz.prog w = .ok (.tuple #[.iface 38 v, .bool true]) w := run_typeAssert_hasB Tryz.underlying145 (by kernel_rfl) v xT w
set_option maxHeartbeats 2000000 in
set_option maxRecDepth 100000 in
theorem as_slip_no (b o : Nat) (s : ByteArray) (k n n0 : Int) (w : World) (hc : w.cell? ⟨b, o, none⟩ = some (.int .i64 n0)) (hz : w.frozen? ⟨b, o, none⟩ = false) (hE : w.cell? ⟨0, 0, none⟩ = some (.iface 137 (.agg #[.pointer (some ⟨2, 28, none⟩)]))) :
    Calls Tryz.prog 12 #[.iface 38 (.agg #[.string s, .int .i64 k, .iface 35 (.int .i64 n)]), .iface 88 (.pointer (some ⟨b, o, none⟩))] w fun e w' => e = .returned (.bool true) ∧ Below w.heap.size (w.setCell ⟨b, o, none⟩ (.int .i64 n)) w' := by
  have q1 := fun w => run_eql_nil (P := Tryz.prog) 35 (.int .i64 n) Tryz.underlying28 w
  have q3 := fun w => run_eql_nil (P := Tryz.prog) 38 (.agg #[.string s, .int .i64 k, .iface 35 (.int .i64 n)]) Tryz.underlying28 w
  have q2 := fun w => run_eql_nil (P := Tryz.prog) 88 (.pointer (some ⟨b, o, none⟩)) Tryz.underlying20 w
  have h39 : ∀ v w, (callFunc 39 #[v]).run Tryz.prog w = ((ReflectliteValue.unpack v).run Tryz.prog w).andThen fun v w' => .ok (.value v) w' := fun v w => @run_callFunc_extern Tryz.prog 39 _ (fun args => Extern.ReflectliteValue.unpack (args.getD 0 (.tuple #[]))) Tryz.func39 (by kernel_rfl) (by kernel_rfl) (by kernel_rfl) (by kernel_rfl) #[v] w
  have h40 := @run_callFunc_extern Tryz.prog 40 _ tyOf Tryz.func40 (by kernel_rfl) (by kernel_rfl) (by kernel_rfl) (by kernel_rfl)
  have h41 := @run_callFunc_extern Tryz.prog 41 _ isNilM Tryz.func41 (by kernel_rfl) (by kernel_rfl) (by kernel_rfl) (by kernel_rfl)
  have h195 := @run_callFunc_extern Tryz.prog 195 _ kindM Tryz.func195 (by kernel_rfl) (by kernel_rfl) (by kernel_rfl) (by kernel_rfl)
  have h207 := @run_callFunc_extern Tryz.prog 207 _ elemM Tryz.func207 (by kernel_rfl) (by kernel_rfl) (by kernel_rfl) (by kernel_rfl)
  have h208 := @run_callFunc_extern Tryz.prog 208 _ implM Tryz.func208 (by kernel_rfl) (by kernel_rfl) (by kernel_rfl) (by kernel_rfl)
  have h205 := @run_callFunc_extern Tryz.prog 205 _ asgnM Tryz.func205 (by kernel_rfl) (by kernel_rfl) (by kernel_rfl) (by kernel_rfl)
  have h69 := @run_callFunc_extern Tryz.prog 69 _ ReflectliteType.typeOf Tryz.func69 (by kernel_rfl) (by kernel_rfl) (by kernel_rfl) (by kernel_rfl)
  have h70 := @run_callFunc_extern Tryz.prog 70 _ velemM Tryz.func70 (by kernel_rfl) (by kernel_rfl) (by kernel_rfl) (by kernel_rfl)
  have h71 := @run_callFunc_extern Tryz.prog 71 _ ReflectliteValue.set Tryz.func71 (by kernel_rfl) (by kernel_rfl) (by kernel_rfl) (by kernel_rfl)
  have u88 := fun w => Tryz.unpackP 88 (some ⟨b, o, none⟩) w (.inl rfl)
  have t88 := fun a w => Tryz.typeV 88 a w (.inl rfl)
  have mK := Tryz.mKind
  have mE := Tryz.mElem
  have mI := Tryz.mImpl
  have mA := Tryz.mAsgn
  have mU := Tryz.mUnw
  have kP := fun w => Tryz.kindP 88 w (.inl rfl)
  have kN := Tryz.kindN
  have eN := Tryz.elemN
  have iN := Tryz.implN
  have tN := Tryz.tyofN
  have tS := Tryz.tyofS
  have aNN := Tryz.asgnNN
  have aSN := Tryz.asgnSN
  have uN := Tryz.unpackN
  have nA := Tryz.noAs
  have hU := Tryz.hasUnw
  have hlt : b < w.heap.size := lt_of_cell hc
  have c5 : ∀ o1 o2 o3 o4 o5, (((((w.alloc o1).alloc o2).alloc o3).alloc o4).alloc o5).cell? ⟨b, o, none⟩ = some (.int .i64 n0) := fun _ _ _ _ _ => cell_al _ (cell_al _ (cell_al _ (cell_al _ (cell_al _ hc))))
  have f5 : ∀ o1 o2 o3 o4 o5, (((((w.alloc o1).alloc o2).alloc o3).alloc o4).alloc o5).frozen? ⟨b, o, none⟩ = false := fun _ _ _ _ _ => frozen_al _ (by simp only [size_al]; omega) (frozen_al _ (by simp only [size_al]; omega) (frozen_al _ (by simp only [size_al]; omega) (frozen_al _ (by simp only [size_al]; omega) (frozen_al _ hlt hz))))
  have e2 : ∀ o1 o2, ((w.alloc o1).alloc o2).cell? ⟨0, 0, none⟩ = some (.iface 137 (.agg #[.pointer (some ⟨2, 28, none⟩)])) := fun o1 o2 => cell_al o2 (cell_al o1 hE)
  go_enter Tryz.func12, Tryz.ntmps12
  go_wp2
  rw [Tryz.isNilP 88 _ ⟨b, o, none⟩ _ (.inl rfl) (by simp)]
  simp only [Result.andThen]
  rw [Oper.upon_value]
  go_wp2
  refine wp_loop_rounds 2 ?_
  rw [rounds_succ]
  go_wp2
  rw [rounds_succ]
  go_wp2
  rw [Tryz.velemN _ ⟨b, o, none⟩ _ (cell_al _ (cell_al _ (cell_al _ (by simp))))]
  simp only [Result.andThen]
  rw [Oper.upon_value]
  go_wp2
  rw [Tryz.setN _ ⟨b, o, none⟩ n n0 _ ?h1 (c5 _ _ _ _ _) (f5 _ _ _ _ _)]
  case h1 =>
    show _ = (#[Value.int .i64 n] : Array Value)[0]?
    exact World.cell?_alloc_at _ _ _ _ (by simp only [size_al])
  simp only [Result.andThen]
  rw [Oper.upon_value]
  go_wp2
  go_ret
  exact ⟨rfl, below_set (((((Below.refl _ w).alloc (Nat.le_refl _) _).alloc (by simp only [size_al]; omega) _ |>.alloc (by simp only [size_al]; omega) _).alloc (by simp only [size_al]; omega) _).alloc (by simp only [size_al]; omega) _) hlt⟩
end Go.Proofs
namespace Go.Proofs
open Go.RowKit Go.Extern.Stop Go.Stop Go.Extern
set_option maxHeartbeats 1000000 in
set_option maxRecDepth 100000 in
theorem as_nil (v : Value) (w : World) :
    Calls Tryz.prog 12 #[.nilIface, v] w fun e w' => e = .returned (.bool false) ∧ w' = w := by
  have hn : ∀ w, (binOp .eql 28 .nilIface .nilIface).run Tryz.prog w = .ok (.bool true) w := fun w => by
    have h : ∀ d : Nat, (Op.equalIn (d + 1) 28 .nilIface .nilIface).run Tryz.prog w = .ok true w := fun d => by simp [Op.equalIn, run_underlying Tryz.underlying28]
    simp only [binOp]
    simp [Op.equal, Op.maxDepth, h 9999]
  go_enter Tryz.func12, Tryz.ntmps12
  go_wp2
  go_ret
  exact ⟨rfl, rfl⟩
theorem Tryz.load3 (a : Addr) (x y z : Value) (w : World) (h0 : w.cell? a = some x) (h1 : w.cell? (a.add 1) = some y) (h2 : w.cell? (a.add 2) = some z) : (loadVar 38 a).run Tryz.prog w = .ok (.agg #[x, y, z]) w := by
  have e0 : a.add 0 = a := Addr.add_zero' a
  have hl : (loadCells a 3).run Tryz.prog w = .ok #[x, y, z] w := by
    simp [loadCells, loadCellsFrom, load, Sem.run, e0, h0, h1, h2]
  simp [loadVar, Tryz.isAggS, Tryz.sizeS, hl]
theorem Tryz.setS (a p : Addr) (x y z : Value) (w w' : World) (h0 : w.cell? a = some x) (h1 : w.cell? (a.add 1) = some y) (h2 : w.cell? (a.add 2) = some z)
    (hst : (storeVar 38 p (.agg #[x, y, z])).run Tryz.prog w = .ok () w') :
    (ReflectliteValue.set #[.agg #[.pointer (some ⟨2, 38, none⟩), .pointer (some p), .int .u64 409], .agg #[.pointer (some ⟨2, 38, none⟩), .pointer (some a), .int .u64 153]]).run Tryz.prog w = .ok (.tuple #[]) w' := by
  have h3 : (ReflectliteValue.parts (.agg #[.pointer (some ⟨2, 38, none⟩), .pointer (some p), .int .u64 409])).run Tryz.prog w = .ok (some (38, p, 409)) w := Tryz.partsS p 409 w (.inr rfl)
  have h4 : (ReflectliteValue.parts (.agg #[.pointer (some ⟨2, 38, none⟩), .pointer (some a), .int .u64 153])).run Tryz.prog w = .ok (some (38, a, 153)) w := Tryz.partsS a 153 w (.inl rfl)
  have h5 := Tryz.load3 a x y z w h0 h1 h2
  have h6 : (Rtype.directlyAssignable 38 38).run Tryz.prog w = .ok true w := by kernel_rfl
  simp [set2, h3, h4, h5, h6, hst, ReflectliteValue.flagAddr]
end Go.Proofs
namespace Go.Gm
theorem ic_same {P : Program} {f : FuncId} {x r : Value} {u : AV} {o : Option AObj} (h : ∀ (v : Value) (w : World), Calls P f #[x, v] w fun e w' => e = .returned r ∧ w' = w) :
    IC P f [o] [.val x, u] (.val r) [o] [] := by
  intro m w loc vs hm h8 ht hM hus
  cases hus with
  | cons a b =>
    cases a
    cases b with
    | cons a b =>
      cases b
      refine (h _ w).mono ?_
      rintro e' w' ⟨rfl, rfl⟩
      exact ⟨r, loc, rfl, hM, .val _⟩
end Go.Gm
namespace Go.Proofs.Yt
open Go.Gm
namespace Au
def f12asN (e : Er) (n0 : Int) : Option (Bool × Int) := match e with
  | .nil => some (false, n0)
  | .no n => some (true, n)
  | .slip _ _ (.no n) => some (true, n)
  | _ => none
def ErrT (w : World) : Prop := w.cell? ⟨0, 0, none⟩ = some (.iface 137 (.agg #[.pointer (some ⟨2, 28, none⟩)]))
theorem errT_is (m : Nat → Prop) (w : World) (h : TabH Tryz.prog m w) : ErrT w := by
  have h1 : (Tryz.prog.globalNamed "internal/strconv.uint64pow10" == some 0) = false := by kernel_rfl
  have h2 : (Tryz.prog.globalNamed "internal/bytealg.MaxLen" == some 0) = false := by kernel_rfl
  have h3 : (Tryz.prog.globalNamed "errors.errorType" == some 0) = true := by kernel_rfl
  have ht : tabs Tryz.prog 0 = some (fun cs => cs[0]? = errT Tryz.prog ∧ (errT Tryz.prog).isSome = true) := by
    simp only [tabs, libTabs, List.find?_cons, h1, h2, h3, Option.map_some]
  obtain ⟨_, _, cs, t, fz, h4, h5, _⟩ := h 0 _ ht
  have he : errT Tryz.prog = some (.iface 137 (.agg #[.pointer (some ⟨2, 28, none⟩)])) := by kernel_rfl
  rw [he] at h5
  unfold ErrT World.cell?
  simp only [h4]
  simpa using h5
theorem ok12asN (a0 : Er) (a1 : Int) (r : Bool × Int) (h : f12asN a0 a1 = some r) : IC Tryz.prog 12 [some (.row 1 true [[.val (.int .i64 a1)]])] [.val (erV a0), .ifc 88 (.ptr 0 0 0)] (.val (.bool r.1)) [some (.row 1 true [[.val (.int .i64 r.2)]])] [] := by
  unfold f12asN at h
  split at h
  · cases h
    exact ic_same fun v w => as_nil v w
  · cases h
    exact ic_put1 (Z := ErrT) rfl errT_is fun w b o hc hz hE => as_no b o _ a1 w hc hz hE
  · cases h
    exact ic_put1 (Z := ErrT) rfl errT_is fun w b o hc hz hE => as_slip_no b o _ _ _ a1 w hc hz hE
  · cases h
end Au
end Go.Proofs.Yt
set_option maxRecDepth 8000
set_option maxHeartbeats 1000000
namespace Go.Proofs.Yt
open Go.Gm
namespace Au
def f10 (a0 : Er) : Option Int := (if (Er.isNil a0) = true then some 0 else ((f12asN a0 0).bind fun x3 => (if x3.1 = true then some x3.2 else some (-1))))
theorem ok10 (a0 : Er) (r : Int) (h : f10 a0 = some r) : PC Tryz.prog 10 [.val (erV a0)] (.val (.int .i64 r)) := by
 rw [f10] at h
 refine pc_of9 (N := 11) (rs := [.tmp 2]) Tryz.func10 ?_
 refine AW.rX [0] ?_
 refine AW.seq <| AW.sX [0, 5] ?_
 rcases iteO h with ⟨c2, h⟩ | ⟨c2, h⟩
 ·refine AW.ifBT rfl c2 <| AW.sX [2] ?_
  refine AW.ret <| thenA_r ?_
  obtain rfl := oi h
  (simp only [go_sem, seval, c2, finA] <;> try simp)
 ·rw [Bool.not_eq_true] at c2
  refine AW.ifBF rfl c2 <| AW.skip <| thenA_n <| AW.sX [0, 3] ?_
  refine AW.seq ?_
  obtain ⟨x3, hx3, h⟩ := bO h
  refine AW.rK [3, 9] fun K hK => ?_
  simp only [go_sem, seval, c2]
  refine arC.ok (CallOk.icr (us' := _) (ok12asN a0 0 x3 hx3) [32] (.cons (.eq (by simp only [go_sem]) (by first | rfl | simp [upd_ap, hpL_ap, sg_ap])) (.nil _)) (.cons (.of rfl) (.cons (.of rfl) .nil))) Tryz.call12 ?_
  simp only [go_sem, seval, c2]
  subst hK
  rcases iteO h with ⟨c4, h⟩ | ⟨c4, h⟩
  ·refine AW.ifBF rfl (by first | (rw [c4]; rfl) | simp_all) <| AW.skip <| thenA_n <| AW.sX [2] ?_
   refine AW.ret ?_
   obtain rfl := oi h
   (simp only [go_sem, seval, c2, c4, finA] <;> try simp)
  ·rw [Bool.not_eq_true] at c4
   refine AW.ifBT rfl (by first | (rw [c4]; rfl) | simp_all) <| AW.sX [2] ?_
   refine AW.ret <| thenA_r ?_
   obtain rfl := oi h
   (simp only [go_sem, seval, c2, c4, finA] <;> try simp)
def f19 (a0 : Trace) (a1 : Int) : Option ((List ByteArray) × Er × Trace) := (if a1 ∈ a0.offs then ((f47 a0.l a1).bind fun x2 => some (x2, Er.nil, a0)) else ((f44 320).bind fun x3 => some ([], x3, a0)))
theorem ok19 (a0 : Trace) (a1 : Int) (r : (List ByteArray) × Er × Trace) (h : f19 a0 a1 = some r) : IC Tryz.prog 19 [some (.row 2 true [[.sl (List.map encRes a0.l), .im (List.map encM a0.offs)]])] [.ptr 0 0 0, .val (.int .i64 a1)] (.tup [.own 8 0 r.1.length, .val (erV r.2.1)]) [some (.row 2 true [[.sl (List.map encRes r.2.2.l), .im (List.map encM r.2.2.offs)]])] [some (.row 1 true (List.map enc9 r.1))] := by
 rw [f19] at h
 refine ic_of (N := 23) (rs := [.tmp 4, .tmp 5]) Tryz.func19 rfl rfl rfl (Nat.le_of_ble_eq_true rfl) <| AW.rX [0, 1] ?_
 refine AW.seq <| AW.rX [0, 1, 7] ?_
 refine AW.ifBF rfl rfl <| AW.skip <| thenA_n <| AW.seq <| AW.rK [0, 1, 15] fun K hK => ?_
 simp only [go_sem, seval, look_encM mi75]
 subst hK
 rcases iteO h with ⟨c1, h⟩ | ⟨c1, h⟩
 ·refine AW.ifNF rfl c1 <| AW.skip <| thenA_n ?_
  obtain ⟨x2, hx2, h⟩ := bO h
  refine AW.rC [4, 5] (ok47 a0.l a1 x2 hx2) Tryz.call47 ?_
  refine AW.ent (st' := ⟨(upd (upd anyF 4 (.own 8 0 x2.length)) 5 (.val (.nilIface))), hpL [some (.row 2 true [[.sl (List.map encRes a0.l), .im (List.map encM a0.offs)]])] [some (.row 1 true (List.map enc9 x2))], 9⟩) ?_ ?_
  · refine Ent.can [136] _ _ _ rfl (by first | decide | simp) rfl ?_ ?_ ?_
    · exact RF.any.qo.qv
    · exact .ce (.nil _)
    · exact .ce (.nil _)
  refine AW.ret ?_
  obtain rfl := oi h
  exact ⟨rfl, rfl, _, rfl, by first | rfl | simp [resOf, upd_ap, bytesI_len]⟩
 ·refine AW.ifNT rfl c1 ?_
  obtain ⟨x3, hx3, h⟩ := bO h
  refine AW.rC [4, 5] (ok44 320 x3 hx3) Tryz.call44 ?_
  refine AW.ent (Ent.nilOwn 4 1 (by decide) rfl) ?_
  refine AW.ent (st' := ⟨(upd (upd anyF 4 (.own 8 0 0)) 5 (.val (erV x3))), hpL [some (.row 2 true [[.sl (List.map encRes a0.l), .im (List.map encM a0.offs)]])] [some (.row 1 true [])], 9⟩) ?_ ?_
  · refine Ent.can [120] _ _ _ rfl (by first | decide | simp) rfl ?_ ?_ ?_
    · exact RF.any.qo.qv
    · exact .ce (.nil _)
    · exact .ce (.nil _)
  refine AW.ret <| thenA_r ?_
  obtain rfl := oi h
  exact ⟨rfl, rfl, _, rfl, by first | rfl | simp [resOf, upd_ap, bytesI_len]⟩
def f18 (a0 : Trace) (a1 : ByteArray) : Option ((List Int) × Trace) := ((f46 a0.l a1).bind fun x1 => some (x1, a0))
theorem ok18 (a0 : Trace) (a1 : ByteArray) (r : (List Int) × Trace) (h : f18 a0 a1 = some r) : IC Tryz.prog 18 [some (.row 2 true [[.sl (List.map encRes a0.l), .im (List.map encM a0.offs)]])] [.ptr 0 0 0, .val (.string a1)] (.sl (List.map enc3 r.1)) [some (.row 2 true [[.sl (List.map encRes r.2.l), .im (List.map encM r.2.offs)]])] [] := by
 rw [f18] at h
 refine ic_of (N := 13) (rs := [.tmp 4]) Tryz.func18 rfl rfl rfl (Nat.le_of_ble_eq_true rfl) <| AW.rX [0, 1] ?_
 refine AW.seq <| AW.rX [0, 1, 6] ?_
 refine AW.ifBF rfl rfl <| AW.skip <| thenA_n ?_
 obtain ⟨x1, hx1, h⟩ := bO h
 refine AW.rC [4] (ok46 a0.l a1 x1 hx1) Tryz.call46 ?_
 refine AW.ent (st' := ⟨(upd anyF 4 (.sl (List.map enc3 x1))), hpL [some (.row 2 true [[.sl (List.map encRes a0.l), .im (List.map encM a0.offs)]])] [], 8⟩) ?_ ?_
 · refine Ent.can [] _ _ _ rfl (by first | decide | simp) rfl ?_ ?_ ?_
   · exact RF.any.qv
   · exact .ce (.nil _)
   · exact .nil _
 refine AW.ret ?_
 obtain rfl := oi h
 exact ⟨rfl, rfl, _, rfl, by first | rfl | simp [resOf, upd_ap, bytesI_len]⟩
def f7 : Option Bool := ((f29 [⟨⟨#[120]⟩, ⟨#[50]⟩, [0, 4]⟩, ⟨⟨#[121]⟩, ⟨#[49]⟩, [0]⟩]).bind fun x1 => ((f8 x1 [120, 32, 121, 10, 120, 10]).bind fun x2 => (match x2 with | (none, e3) => (if (Er.isNil e3) = true then some false else some false) | (some b4, e3) => (if (Er.isNil e3) = true then ((f19 b4 4).bind fun x9 => ((f19 x9.2.2 1).bind fun x10 => ((f18 x10.2.2 ⟨#[120]⟩).bind fun x11 => ((f21 x11.1 [0, 4]).bind fun x12 => (if x12 = true then (if (Er.isNil x9.2.1) = true then ((f22 x9.1 [⟨#[120]⟩]).bind fun x15 => (if x15 = true then ((f10 x10.2.1).bind fun x17 => some (decide (x17 = 320))) else some false)) else some false) else some false))))) else some false))))
theorem ok7 (r : Bool) (h : f7 = some r) : PC Tryz.prog 7 [] (.val (.bool r)) := by
 rw [f7] at h
 refine pc_of9 (N := 53) (rs := [.tmp 0]) Tryz.func7 ?_
 refine AW.rX [] ?_
 obtain ⟨x1, hx1, h⟩ := bO h
 obtain ⟨x2, hx2, h⟩ := bO h
 obtain ⟨(_ | b4), e3⟩ := x2
 ·dsimp only at h
  refine AW.regS 5 [1, 2] ?_
  generalize hK : (fun (s1 : ASt) => _) = K
  simp only [go_sem, seval]
  subst hK
  refine ⟨_, Ent.trans (Ent.stillRow (sz := 3) (mu := true) (R1 := []) (R2 := [[.val (.string ⟨#[121]⟩), .val (.string ⟨#[49]⟩), .own 32 0 1]]) (pre := [.val (.string ⟨#[120]⟩), .val (.string ⟨#[50]⟩)]) (post := []) (q := 16) (off := 0) (len := 2) 48 (by simp [upd_ap, hpL_ap]) (own_sl (sz := 1) (m := true) (by simp [upd_ap, hpL_ap]; rfl) rfl (by simp only [go_sem])) (by decide))
    (Ent.stillRow (sz := 3) (mu := true) (R1 := [[.val (.string ⟨#[120]⟩), .val (.string ⟨#[50]⟩), .sl [[.val (.int .i64 0)], [.val (.int .i64 4)]]]]) (R2 := []) (pre := [.val (.string ⟨#[121]⟩), .val (.string ⟨#[49]⟩)]) (post := []) (q := 32) (off := 0) (len := 1) 48 (by simp [upd_ap, hpL_ap]) (own_sl (sz := 1) (m := true) (by simp [upd_ap, hpL_ap]; rfl) rfl (by simp only [go_sem])) (by decide)), ?_⟩
  generalize hK : AW Tryz.prog _ _ _ = K
  simp only [go_sem, seval]
  refine arC.of (ok29 [⟨⟨#[120]⟩, ⟨#[50]⟩, [0, 4]⟩, ⟨⟨#[121]⟩, ⟨#[49]⟩, [0]⟩] x1 hx1) Tryz.call29 ?_
  simp only [go_sem, seval]
  refine arC.ok (CallOk.still (t := 56) (off := 0) (len := x1.length) (own_sl (sz := 2) (m := true) rfl (by first | rfl | (simp [bytesI_len]; done) | (simp [bytesI_len]; omega)) (by simp only [go_sem])) (.own (.keep .nil)) (CallOk.icr (us' := _) (ok8 x1 [120, 32, 121, 10, 120, 10] (none, e3) hx2) [] (.nil _) (.cons (.of rfl) (.cons (.of rfl) .nil)))) Tryz.call8 ?_
  simp only [go_sem, seval]
  subst hK
  refine AW.seq ?_
  rcases iteO h with ⟨c6, h⟩ | ⟨c6, h⟩
  ·refine AW.sX [1, 24] ?_
   refine AW.ifBT rfl rfl <| AW.sX [0] ?_
   refine AW.ret <| thenA_r ?_
   obtain rfl := oi h
   (simp only [go_sem, seval, c6, finA] <;> try simp)
  ·rw [Bool.not_eq_true] at c6
   refine AW.sX [1, 24] ?_
   refine AW.ifBT rfl rfl <| AW.sX [0] ?_
   refine AW.ret <| thenA_r ?_
   obtain rfl := oi h
   (simp only [go_sem, seval, c6, finA] <;> try simp)
 ·dsimp only at h
  refine AW.regS 5 [1, 2] ?_
  generalize hK : (fun (s1 : ASt) => _) = K
  simp only [go_sem, seval]
  subst hK
  refine ⟨_, Ent.trans (Ent.stillRow (sz := 3) (mu := true) (R1 := []) (R2 := [[.val (.string ⟨#[121]⟩), .val (.string ⟨#[49]⟩), .own 32 0 1]]) (pre := [.val (.string ⟨#[120]⟩), .val (.string ⟨#[50]⟩)]) (post := []) (q := 16) (off := 0) (len := 2) 48 (by simp [upd_ap, hpL_ap]) (own_sl (sz := 1) (m := true) (by simp [upd_ap, hpL_ap]; rfl) rfl (by simp only [go_sem])) (by decide))
    (Ent.stillRow (sz := 3) (mu := true) (R1 := [[.val (.string ⟨#[120]⟩), .val (.string ⟨#[50]⟩), .sl [[.val (.int .i64 0)], [.val (.int .i64 4)]]]]) (R2 := []) (pre := [.val (.string ⟨#[121]⟩), .val (.string ⟨#[49]⟩)]) (post := []) (q := 32) (off := 0) (len := 1) 48 (by simp [upd_ap, hpL_ap]) (own_sl (sz := 1) (m := true) (by simp [upd_ap, hpL_ap]; rfl) rfl (by simp only [go_sem])) (by decide)), ?_⟩
  generalize hK : AW Tryz.prog _ _ _ = K
  simp only [go_sem, seval]
  refine arC.of (ok29 [⟨⟨#[120]⟩, ⟨#[50]⟩, [0, 4]⟩, ⟨⟨#[121]⟩, ⟨#[49]⟩, [0]⟩] x1 hx1) Tryz.call29 ?_
  simp only [go_sem, seval]
  refine arC.ok (CallOk.still (t := 56) (off := 0) (len := x1.length) (own_sl (sz := 2) (m := true) rfl (by first | rfl | (simp [bytesI_len]; done) | (simp [bytesI_len]; omega)) (by simp only [go_sem])) (.own (.keep .nil)) (CallOk.icr (us' := _) (ok8 x1 [120, 32, 121, 10, 120, 10] (some b4, e3) hx2) [] (.nil _) (.cons (.of rfl) (.cons (.of rfl) .nil)))) Tryz.call8 ?_
  simp only [go_sem, seval]
  subst hK
  refine AW.seq ?_
  rcases iteO h with ⟨c8, h⟩ | ⟨c8, h⟩
  ·refine AW.sX [1, 24] ?_
   refine AW.ifBF rfl rfl <| AW.skip <| thenA_n <| AW.ent (Ent.stillObj (pre := []) (post := [.im (List.map encM b4.offs)]) (q := 81) (off := 0) (len := b4.l.length) 80 rfl (own_sl (sz := 3) (m := true) rfl (by first | rfl | (simp [bytesI_len]; done) | (simp [bytesI_len]; omega)) (by simp only [go_sem])) (by decide)) ?_
   obtain ⟨x9, hx9, h⟩ := bO h
   refine AW.rK [1, 3, 4] fun K hK => ?_
   simp only [go_sem, seval, c8]
   refine arC.ok (CallOk.icr (us' := _) (ok19 b4 4 x9 hx9) [80] (.cons (.eq (by simp only [go_sem]) (by first | rfl | simp [upd_ap, hpL_ap, sg_ap])) (.nil _)) (.cons (.of rfl) (.cons (.of rfl) .nil))) Tryz.call19 ?_
   simp only [go_sem, seval, c8]
   subst hK
   obtain ⟨x10, hx10, h⟩ := bO h
   refine AW.rK [1, 3, 4, 6] fun K hK => ?_
   simp only [go_sem, seval, c8]
   refine arC.ok (CallOk.icr (us' := _) (ok19 x9.2.2 1 x10 hx10) [80] (.cons (.eq (by simp only [go_sem]) (by first | rfl | simp [upd_ap, hpL_ap, sg_ap])) (.nil _)) (.cons (.of rfl) (.cons (.of rfl) .nil))) Tryz.call19 ?_
   simp only [go_sem, seval, c8]
   subst hK
   obtain ⟨x11, hx11, h⟩ := bO h
   obtain ⟨x12, hx12, h⟩ := bO h
   rcases iteO h with ⟨c13, h⟩ | ⟨c13, h⟩
   ·rcases iteO h with ⟨c14, h⟩ | ⟨c14, h⟩
    ·obtain ⟨x15, hx15, h⟩ := bO h
     rcases iteO h with ⟨c16, h⟩ | ⟨c16, h⟩
     ·obtain ⟨x17, hx17, h⟩ := bO h
      refine AW.rK [0] fun K hK => ?_
      simp only [go_sem, seval, c8, c13, er_eql, c14, c16]
      refine arC.ok (CallOk.icr (us' := _) (ok18 x10.2.2 ⟨#[120]⟩ x11 hx11) [80] (.cons (.eq (by simp only [go_sem]) (by first | rfl | simp [upd_ap, hpL_ap, sg_ap])) (.nil _)) (.cons (.of rfl) (.cons (.of rfl) .nil))) Tryz.call18 ?_
      simp only [go_sem, seval, c8, c13, er_eql, c14, c16]
      refine arC.of (ok21 x11.1 [0, 4] x12 hx12) Tryz.call21 ?_
      simp only [go_sem, seval, c8, c13, er_eql, c14, c16]
      refine arC.of (ok22 x9.1 [⟨#[120]⟩] x15 hx15) Tryz.call22 ?_
      simp only [go_sem, seval, c8, c13, er_eql, c14, c16]
      refine arC.of (ok10 x10.2.1 x17 hx17) Tryz.call10 ?_
      simp only [go_sem, seval, c8, c13, er_eql, c14, c16]
      subst hK
      refine AW.ret ?_
      obtain rfl := oi h
      (simp only [go_sem, seval, c8, c13, c14, c16, finA] <;> try simp)
     ·rw [Bool.not_eq_true] at c16
      refine AW.rK [0] fun K hK => ?_
      simp only [go_sem, seval, c8, c13, er_eql, c14, c16]
      refine arC.ok (CallOk.icr (us' := _) (ok18 x10.2.2 ⟨#[120]⟩ x11 hx11) [80] (.cons (.eq (by simp only [go_sem]) (by first | rfl | simp [upd_ap, hpL_ap, sg_ap])) (.nil _)) (.cons (.of rfl) (.cons (.of rfl) .nil))) Tryz.call18 ?_
      simp only [go_sem, seval, c8, c13, er_eql, c14, c16]
      refine arC.of (ok21 x11.1 [0, 4] x12 hx12) Tryz.call21 ?_
      simp only [go_sem, seval, c8, c13, er_eql, c14, c16]
      refine arC.of (ok22 x9.1 [⟨#[120]⟩] x15 hx15) Tryz.call22 ?_
      simp only [go_sem, seval, c8, c13, er_eql, c14, c16]
      subst hK
      refine AW.ret ?_
      obtain rfl := oi h
      (simp only [go_sem, seval, c8, c13, c14, c16, finA] <;> try simp)
    ·rw [Bool.not_eq_true] at c14
     refine AW.rK [0] fun K hK => ?_
     simp only [go_sem, seval, c8, c13, er_eql, c14]
     refine arC.ok (CallOk.icr (us' := _) (ok18 x10.2.2 ⟨#[120]⟩ x11 hx11) [80] (.cons (.eq (by simp only [go_sem]) (by first | rfl | simp [upd_ap, hpL_ap, sg_ap])) (.nil _)) (.cons (.of rfl) (.cons (.of rfl) .nil))) Tryz.call18 ?_
     simp only [go_sem, seval, c8, c13, er_eql, c14]
     refine arC.of (ok21 x11.1 [0, 4] x12 hx12) Tryz.call21 ?_
     simp only [go_sem, seval, c8, c13, er_eql, c14]
     subst hK
     refine AW.ret ?_
     obtain rfl := oi h
     (simp only [go_sem, seval, c8, c13, c14, finA] <;> try simp)
   ·rw [Bool.not_eq_true] at c13
    refine AW.rK [0] fun K hK => ?_
    simp only [go_sem, seval, c8, c13]
    refine arC.ok (CallOk.icr (us' := _) (ok18 x10.2.2 ⟨#[120]⟩ x11 hx11) [80] (.cons (.eq (by simp only [go_sem]) (by first | rfl | simp [upd_ap, hpL_ap, sg_ap])) (.nil _)) (.cons (.of rfl) (.cons (.of rfl) .nil))) Tryz.call18 ?_
    simp only [go_sem, seval, c8, c13]
    refine arC.of (ok21 x11.1 [0, 4] x12 hx12) Tryz.call21 ?_
    simp only [go_sem, seval, c8, c13]
    subst hK
    refine AW.ret ?_
    obtain rfl := oi h
    (simp only [go_sem, seval, c8, c13, finA] <;> try simp)
  ·rw [Bool.not_eq_true] at c8
   refine AW.sX [1, 24] ?_
   refine AW.ifBT rfl rfl <| AW.sX [0] ?_
   refine AW.ret <| thenA_r ?_
   obtain rfl := oi h
   (simp only [go_sem, seval, c8, finA] <;> try simp)
def inp : List Int := [120, 32, 121, 10, 120, 10]
def liveRes : List Res := [⟨⟨#[120]⟩, ⟨#[50]⟩, [0, 4]⟩, ⟨⟨#[121]⟩, ⟨#[49]⟩, [0]⟩]
def bytB (l : List Int) : Bool := l.all fun x => decide (0 ≤ x ∧ x < 256)
def smallB (a : List (A2 (List Int))) : Bool := decide (a.length ≤ 8) && a.all fun p => decide (p.e0.length ≤ 2500 ∧ p.e1.length ≤ 2500) && bytB p.e0 && bytB p.e1
def chk : Bool := match g29 liveRes with
 | some x => smallB x && (match g9 x inp, g15 inp with
  | some (J, e, _, _), some (L, _, _) => decide (e = 0) && (L.any fun r => decide (r.Off = 4)) && (L.all fun r => decide (r.Off ≠ 1)) &&
   (match g47 J 4, g46 J ⟨#[120]⟩ with
    | some k, some o => decide (g22 k [⟨#[120]⟩] = some true) && decide (g21 o [0, 4] = some true)
    | _, _ => false)
  | _, _ => false)
 | none => false
theorem chk_true : chk = true := by kernel_rfl
theorem bytB_ok {l : List Int} (h : bytB l = true) : Byt l := fun x hx => by
 have := List.all_eq_true.1 h x hx
 simpa using this
theorem f7_true : f7 = some true := by
 have h := chk_true
 unfold chk at h
 split at h
 ·rename_i x hx
  rw [Bool.and_eq_true] at h
  obtain ⟨hs, h⟩ := h
  split at h
  ·rename_i J e q1 q2 L q3 q4 h9 h15
   simp only [Bool.and_eq_true, decide_eq_true_eq] at h
   obtain ⟨⟨⟨he, h4⟩, h1⟩, h⟩ := h
   split at h
   ·rename_i k o h47 h46
    simp only [Bool.and_eq_true, decide_eq_true_eq] at h
    obtain ⟨h22, h21⟩ := h
    subst he
    have k29 := mf29 _ _ hx
    have k9 := mf9 _ _ _ h9
    have k15 := mf15 _ _ h15
    have k47 := mf47 _ _ _ h47
    have k46 := mf46 _ _ _ h46
    have k22 := mf22 _ _ _ h22
    have k21 := mf21 _ _ _ h21
    simp only [smallB, Bool.and_eq_true, decide_eq_true_eq] at hs
    have hall := List.all_eq_true.1 hs.2
    have small : Small x inp := ⟨hs.1, fun p hp => by
     have := hall p hp; simp only [Bool.and_eq_true, decide_eq_true_eq] at this; exact this.1.1, fun p hp => by
     have := hall p hp; simp only [Bool.and_eq_true, decide_eq_true_eq] at this; exact ⟨bytB_ok this.1.2, bytB_ok this.2⟩, by decide, bytB_ok (by decide)⟩
    rcases open_eq small with ⟨e', st, n, he', p1, p2⟩ | ⟨J', m, L', p1, p2, _, _, _, _, p3, _, p4, _⟩
    ·rw [k9] at p2
     have := oi p2
     simp only [Prod.mk.injEq] at this
     exact absurd this.2.1.symm he'
    ·rw [k9] at p2
     have e1 := (Prod.mk.inj (oi p2)).1
     rw [k15] at p3
     have e2 := (Prod.mk.inj (oi p3)).1
     subst e1 e2
     have m4 : (4 : Int) ∈ m := by
      obtain ⟨r, hr, h⟩ := List.any_eq_true.1 h4
      exact (p4 4).2 ⟨r, hr, by simpa using h⟩
     have m1 : (1 : Int) ∉ m := fun hm => by
      obtain ⟨r, hr, h⟩ := (p4 1).1 hm
      have := List.all_eq_true.1 h1 r hr
      simp [h] at this
     have e29 : f29 [⟨⟨#[120]⟩, ⟨#[50]⟩, [0, 4]⟩, ⟨⟨#[121]⟩, ⟨#[49]⟩, [0]⟩] = some x := k29
     have e8 : f8 x [120, 32, 121, 10, 120, 10] = some (some ⟨J, m⟩, Er.nil) := p1
     have a1 : f19 ⟨J, m⟩ 4 = some (k, Er.nil, ⟨J, m⟩) := by simp only [f19, if_pos m4, k47, Option.bind_some]
     have a2 : f19 ⟨J, m⟩ 1 = some ([], Er.no 320, ⟨J, m⟩) := by
      simp only [f19, if_neg m1, f44, if_neg (show ¬ (320 : Int) = 0 by decide), Option.bind_some]
     have a3 : f18 ⟨J, m⟩ ⟨#[120]⟩ = some (o, ⟨J, m⟩) := by simp only [f18, k46, Option.bind_some]
     have a4 : f10 (Er.no 320) = some 320 := by simp only [f10, Er.isNil, Bool.false_eq_true, if_false, f12asN, Option.bind_some, if_true]
     simp only [f7, e29, Option.bind_some, e8, Er.isNil, if_true, a1, a2, a3, k21, k22, a4]
     decide
   ·cases h
  ·cases h
 ·cases h
end Au
end Go.Proofs.Yt
namespace Go.Gm
open Go.RowKit
theorem ic_put3 {P : Program} {f : FuncId} {T : TypeId} {x r v0 v1 v2 u0 u1 u2 : Value} {Z : World → Prop} (hu0 : u0.oneCell' = true) (hu1 : u1.oneCell' = true) (hu2 : u2.oneCell' = true) (hZ : ∀ m w, TabH P m w → Z w)
    (h : ∀ (w : World) (b o : Nat) (c : Array Value) (ty : TypeId) (fz : Nat × Nat), w.heap[b]? = some (.cells c ty fz) → o + 3 ≤ c.size → (∀ k, k < c.size → ¬ (fz.1 ≤ k ∧ k < fz.2)) → Z w →
      Calls P f #[x, .iface T (.pointer (some ⟨b, o, none⟩))] w fun e w' => e = .returned r ∧
        ∃ c' : Array Value, c'.size = c.size ∧ c'[o]? = some u0 ∧ c'[o + 1]? = some u1 ∧ c'[o + 2]? = some u2 ∧ Below w.heap.size { w with heap := w.heap.setIfInBounds b (.cells c' ty fz) } w') :
    IC P f [some (.row 3 true [[.val v0, .val v1, .val v2]])] [.val x, .ifc T (.ptr 0 0 0)] (.val r) [some (.row 3 true [[.val u0, .val u1, .val u2]])] [] := by
  intro m w loc vs hm h8 ht hM hus
  obtain ⟨l, hl, g1, g2, g3, g4, g5, g6⟩ := hM.obj 0 (.row 3 true [[.val v0, .val v1, .val v2]]) rfl
  have hlt : l.st < l.n := by simp at g4; omega
  obtain ⟨c, e, fz, us, k1, k2, k3, k4, k5, k6⟩ := g6 hlt
  have hk1 : w.heap[l.b]? = some (.cells c e fz) := by simpa [mkE] using k1
  have hvs : vs = [x, .iface T (.pointer (some ⟨l.b, l.st, none⟩))] := by
    cases hus with
    | cons a b =>
      cases a
      cases b with
      | cons a b =>
        cases b
        cases a with
        | ifc hp =>
          cases hp with
          | ptr ha hh =>
            have := hh l hl
            rw [this]; simp
  subst hvs
  refine (h w l.b l.st c e fz hk1 (by rw [k2]; simpa using g4) (fun k hk => k6 k (.inl (by rw [← k2]; exact hk))) (hZ _ _ ht)).mono ?_
  rintro e' w' ⟨rfl, c', q1, q2, q3, q4, hb⟩
  have hlb : l.b < w.heap.size := (Array.getElem?_eq_some_iff.1 hk1).1
  obtain ⟨hM1, x1⟩ := hM.write (t := 0) (ob := .row 3 true [[.val v0, .val v1, .val v2]]) (ob' := .row 3 true [[.val u0, .val u1, .val u2]]) (l := l) rfl rfl rfl hl hlt (w' := { w with heap := w.heap.setIfInBounds l.b (.cells c' e fz) }) (by simp)
    (fun b hb => by simp [Array.getElem?_setIfInBounds_ne (Ne.symm hb)]) rfl rfl rfl
    (fun _ => ⟨g1, g2, by simp, by simpa using g4, g5, fun _ => ⟨c', e, fz, [u0, u1, u2], by simp [mkE, hlb], by rw [q1]; exact k2, .cons (.val _) (.cons (.val _) (.cons (.val _) .nil)), by simp [hu0, hu1, hu2], fun k u hk => by
      match k, hk with
      | 0, hk => simp at hk; subst hk; simpa using q2
      | 1, hk => simp at hk; subst hk; exact q3
      | 2, hk => simp at hk; subst hk; exact q4
      | k + 3, hk => simp at hk, k6⟩⟩)
  obtain ⟨hM2, x2⟩ := hM1.grow (w' := w') (by simpa using hb)
  have hhp : upd (hpL [some (.row 3 true [[.val v0, .val v1, .val v2]])] []) 0 (some (.row 3 true [[.val u0, .val u1, .val u2]])) = hpL [some (.row 3 true [[.val u0, .val u1, .val u2]])] [] := by
    funext t
    by_cases e0 : t = 0
    · subst e0; rfl
    · rw [upd_other _ _ e0]
      cases t with
      | zero => exact absurd rfl e0
      | succ t => simp [hpL]
  rw [hhp] at hM2
  exact ⟨r, loc, rfl, hM2, .val _⟩
end Go.Gm
namespace Go.Proofs
open Go.RowKit Go.Extern.Stop Go.Stop Go.Extern
theorem Tryz.storeS (b o : Nat) (x y z : Value) (c : Array Value) (ty : TypeId) (fz : Nat × Nat) (W : World) (hc : W.heap[b]? = some (.cells c ty fz)) (hsz : o + 3 ≤ c.size) (hz : ∀ k, k < c.size → ¬ (fz.1 ≤ k ∧ k < fz.2))
    (h1 : x.oneCell' = true) (h2 : y.oneCell' = true) (h3 : z.oneCell' = true) :
    ∃ w', (storeVar 38 ⟨b, o, none⟩ (.agg #[x, y, z])).run Tryz.prog W = .ok () w' ∧ w'.heap.size = W.heap.size ∧ (∀ k, k ≠ b → w'.heap[k]? = W.heap[k]?) ∧ w'.os = W.os ∧ w'.tape = W.tape ∧ w'.output = W.output ∧
      ∃ c', w'.heap[b]? = some (.cells c' ty fz) ∧ c'.size = c.size ∧ c'[o]? = some x ∧ c'[o + 1]? = some y ∧ c'[o + 2]? = some z := by
  obtain ⟨w', hrun, a1, a2, a3, a4, a5, c', k1, k2, k3⟩ := Go.Gm.run_storeCells_gen (P := Tryz.prog) (g := b) (o := o) [x, y, z] 0 W c ty fz hc (by simpa using hsz) hz (by simp [h1, h2, h3])
  refine ⟨w', ?_, a1, a2, a3, a4, a5, c', k1, k2, ?_, ?_, ?_⟩
  · simp [storeVar, Tryz.sizeS, Value.cells, hrun]
  · rw [k3, if_pos (by simp)]; simp
  · rw [k3, if_pos (by simp)]; simp
  · rw [k3, if_pos (by simp)]; simp
set_option maxHeartbeats 1000000 in
set_option maxRecDepth 100000 in
theorem as_slip (b o : Nat) (s : ByteArray) (k : Int) (ev : Value) (hev : ev.oneCell' = true) (c : Array Value) (ty : TypeId) (fz : Nat × Nat) (w : World) (hc : w.heap[b]? = some (.cells c ty fz)) (hsz : o + 3 ≤ c.size) (hz : ∀ k, k < c.size → ¬ (fz.1 ≤ k ∧ k < fz.2))
    (hE : w.cell? ⟨0, 0, none⟩ = some (.iface 137 (.agg #[.pointer (some ⟨2, 28, none⟩)]))) :
    Calls Tryz.prog 12 #[.iface 38 (.agg #[.string s, .int .i64 k, ev]), .iface 40 (.pointer (some ⟨b, o, none⟩))] w fun e w' => e = .returned (.bool true) ∧
      ∃ c' : Array Value, c'.size = c.size ∧ c'[o]? = some (.string s) ∧ c'[o + 1]? = some (.int .i64 k) ∧ c'[o + 2]? = some ev ∧ Below w.heap.size { w with heap := w.heap.setIfInBounds b (.cells c' ty fz) } w' := by
  have q3 := fun w => run_eql_nil (P := Tryz.prog) 38 (.agg #[.string s, .int .i64 k, ev]) Tryz.underlying28 w
  have q2 := fun w => run_eql_nil (P := Tryz.prog) 40 (.pointer (some ⟨b, o, none⟩)) Tryz.underlying20 w
  have h39 : ∀ v w, (callFunc 39 #[v]).run Tryz.prog w = ((ReflectliteValue.unpack v).run Tryz.prog w).andThen fun v w' => .ok (.value v) w' := fun v w => @run_callFunc_extern Tryz.prog 39 _ (fun args => Extern.ReflectliteValue.unpack (args.getD 0 (.tuple #[]))) Tryz.func39 (by kernel_rfl) (by kernel_rfl) (by kernel_rfl) (by kernel_rfl) #[v] w
  have h40 := @run_callFunc_extern Tryz.prog 40 _ tyOf Tryz.func40 (by kernel_rfl) (by kernel_rfl) (by kernel_rfl) (by kernel_rfl)
  have h41 := @run_callFunc_extern Tryz.prog 41 _ isNilM Tryz.func41 (by kernel_rfl) (by kernel_rfl) (by kernel_rfl) (by kernel_rfl)
  have h195 := @run_callFunc_extern Tryz.prog 195 _ kindM Tryz.func195 (by kernel_rfl) (by kernel_rfl) (by kernel_rfl) (by kernel_rfl)
  have h207 := @run_callFunc_extern Tryz.prog 207 _ elemM Tryz.func207 (by kernel_rfl) (by kernel_rfl) (by kernel_rfl) (by kernel_rfl)
  have h208 := @run_callFunc_extern Tryz.prog 208 _ implM Tryz.func208 (by kernel_rfl) (by kernel_rfl) (by kernel_rfl) (by kernel_rfl)
  have h205 := @run_callFunc_extern Tryz.prog 205 _ asgnM Tryz.func205 (by kernel_rfl) (by kernel_rfl) (by kernel_rfl) (by kernel_rfl)
  have h69 := @run_callFunc_extern Tryz.prog 69 _ ReflectliteType.typeOf Tryz.func69 (by kernel_rfl) (by kernel_rfl) (by kernel_rfl) (by kernel_rfl)
  have h70 := @run_callFunc_extern Tryz.prog 70 _ velemM Tryz.func70 (by kernel_rfl) (by kernel_rfl) (by kernel_rfl) (by kernel_rfl)
  have h71 := @run_callFunc_extern Tryz.prog 71 _ ReflectliteValue.set Tryz.func71 (by kernel_rfl) (by kernel_rfl) (by kernel_rfl) (by kernel_rfl)
  have u40 := fun w => Tryz.unpackP 40 (some ⟨b, o, none⟩) w (.inr rfl)
  have t40 := fun a w => Tryz.typeV 40 a w (.inr rfl)
  have mK := Tryz.mKind
  have mE := Tryz.mElem
  have mI := Tryz.mImpl
  have mA := Tryz.mAsgn
  have kP := fun w => Tryz.kindP 40 w (.inr rfl)
  have kS := Tryz.kindS
  have eS := Tryz.elemS
  have iS := Tryz.implS
  have tS := Tryz.tyofS
  have aSS := Tryz.asgnSS
  have uS := Tryz.unpackS s k ev
  have hlt : b < w.heap.size := (Array.getElem?_eq_some_iff.1 hc).1
  have e2 : ∀ o1 o2, ((w.alloc o1).alloc o2).cell? ⟨0, 0, none⟩ = some (.iface 137 (.agg #[.pointer (some ⟨2, 28, none⟩)])) := fun o1 o2 => cell_al o2 (cell_al o1 hE)
  go_enter Tryz.func12, Tryz.ntmps12
  go_wp2
  rw [Tryz.isNilP 40 _ ⟨b, o, none⟩ _ (.inr rfl) (by simp)]
  simp only [Result.andThen]
  rw [Oper.upon_value]
  go_wp2
  refine wp_loop_rounds 1 ?_
  rw [rounds_succ]
  go_wp2
  rw [Tryz.velemS _ ⟨b, o, none⟩ _ (cell_al _ (cell_al _ (by simp)))]
  simp only [Result.andThen]
  rw [Oper.upon_value]
  go_wp2
  obtain ⟨w5, hst, a1, a2, a3, a4, a5, c', k1, k2, k3, k4, k5⟩ := Tryz.storeS b o (.string s) (.int .i64 k) ev c ty fz ((((w.alloc (Obj.cells #[Value.pointer (some ⟨b, o, none⟩)] 40)).alloc (Obj.cells #[Value.pointer (some ⟨2, 40, none⟩), Value.pointer (some ⟨w.heap.size, 0, none⟩), Value.int .u64 150] 92)).alloc (Obj.cells #[Value.pointer (some ⟨2, 40, none⟩), Value.pointer (some ⟨w.heap.size, 0, none⟩), Value.int .u64 150] 92)).alloc (Obj.cells #[Value.string s, Value.int .i64 k, ev] 38))
    (by rw [heap_al _ (by simp only [size_al]; omega), heap_al _ (by simp only [size_al]; omega), heap_al _ (by simp only [size_al]; omega), heap_al _ hlt]; exact hc) hsz hz rfl rfl hev
  rw [Tryz.setS _ ⟨b, o, none⟩ (.string s) (.int .i64 k) ev _ w5 ?h1 ?h2 ?h3 hst]
  case h1 =>
    show _ = (#[Value.string s, Value.int .i64 k, ev] : Array Value)[0]?
    exact World.cell?_alloc_at _ _ _ _ (by simp only [size_al])
  case h2 =>
    rw [Addr.add_lit]
    show _ = (#[Value.string s, Value.int .i64 k, ev] : Array Value)[1]?
    exact World.cell?_alloc_at _ _ _ _ (by simp only [size_al])
  case h3 =>
    rw [Addr.add_lit]
    show _ = (#[Value.string s, Value.int .i64 k, ev] : Array Value)[2]?
    exact World.cell?_alloc_at _ _ _ _ (by simp only [size_al])
  simp only [Result.andThen]
  rw [Oper.upon_value]
  go_wp2
  go_ret
  refine ⟨rfl, c', k2, k3, k4, k5, a3, a4, a5, ?_, fun q hq => ?_⟩
  · rw [a1]; simp only [size_al, Array.size_setIfInBounds]; omega
  · have hq' : q < w.heap.size := hq
    by_cases e : q = b
    · subst e
      rw [k1]; simp [hq']
    · rw [a2 q e, heap_al _ (by simp only [size_al]; omega), heap_al _ (by simp only [size_al]; omega), heap_al _ (by simp only [size_al]; omega), heap_al _ hq']
      simp [Array.getElem?_setIfInBounds_ne (Ne.symm e)]
end Go.Proofs
namespace Go.Proofs.Yt
open Go.Gm
namespace Au
def f12asS (e : Er) (s0 : Slip) : Option (Bool × Slip) := match e with
  | .slip s k e => some (true, ⟨s, k, e⟩)
  | _ => none
theorem ok12asS (a0 : Er) (a1 : Slip) (r : Bool × Slip) (h : f12asS a0 a1 = some r) : IC Tryz.prog 12 [some (.row 3 true [[.val (.string a1.Stage), .val (.int .i64 a1.No), .val (erV a1.Err)]])] [.val (erV a0), .ifc 40 (.ptr 0 0 0)] (.val (.bool r.1)) [some (.row 3 true [[.val (.string r.2.Stage), .val (.int .i64 r.2.No), .val (erV r.2.Err)]])] [] := by
  unfold f12asS at h
  split at h
  · cases h
    rename_i e
    exact ic_put3 (Z := ErrT) rfl rfl (oneCell_er e) errT_is fun w b o c ty fz hc hsz hz hE => as_slip b o _ _ _ (oneCell_er e) c ty fz w hc hsz hz hE
  · cases h
def f11 (a0 : Er) : Option Int := ((f12asN a0 0).bind fun x1 => (if x1.1 = true then some x1.2 else some 0))
theorem ok11 (a0 : Er) (r : Int) (h : f11 a0 = some r) : PC Tryz.prog 11 [.val (erV a0)] (.val (.int .i64 r)) := by
 rw [f11] at h
 refine pc_of9 (N := 9) (rs := [.tmp 2]) Tryz.func11 ?_
 refine AW.rX [0] ?_
 refine AW.rX [0, 3] ?_
 refine AW.seq ?_
 obtain ⟨x1, hx1, h⟩ := bO h
 refine AW.rK [3, 7] fun K hK => ?_
 simp only [go_sem, seval]
 refine arC.ok (CallOk.icr (us' := _) (ok12asN a0 0 x1 hx1) [16] (.cons (.eq (by simp only [go_sem]) (by first | rfl | simp [upd_ap, hpL_ap, sg_ap])) (.nil _)) (.cons (.of rfl) (.cons (.of rfl) .nil))) Tryz.call12 ?_
 simp only [go_sem, seval]
 subst hK
 rcases iteO h with ⟨c2, h⟩ | ⟨c2, h⟩
 ·refine AW.ifBF rfl (by first | (rw [c2]; rfl) | simp_all) <| AW.skip <| thenA_n <| AW.sX [2] ?_
  refine AW.ret ?_
  obtain rfl := oi h
  (simp only [go_sem, seval, c2, finA] <;> try simp)
 ·rw [Bool.not_eq_true] at c2
  refine AW.ifBT rfl (by first | (rw [c2]; rfl) | simp_all) <| AW.sX [2] ?_
  refine AW.ret <| thenA_r ?_
  obtain rfl := oi h
  (simp only [go_sem, seval, c2, finA] <;> try simp)
def f6_s1 (a0 : List (A2 (List Int))) : Int × Int → Option ((Int × Int) ⊕ Int)
  | (s1_0, s1_1) => (if s1_1 < (a0.length : Int) then (if s1_1 < 8 then ((ix a0 s1_1).bind fun x13 => some (.inl (IntKind.i64.wrap ((IntKind.i64.wrap (s1_0 + (x13.e0.length : Int))) + (x13.e1.length : Int)), IntKind.i64.wrap (s1_1 + 1)))) else some (.inr s1_0)) else some (.inr s1_0))
def f6 (a0 : List (A2 (List Int))) (a1 : List Int) : Option Bool := ((loopO (f6_s1 a0) ((a1.length : Int), 0)).bind fun y15 => (if 8 < (a0.length : Int) then some true else some (decide (2500 < y15))))
theorem ok6 (a0 : List (A2 (List Int))) (a1 : List Int) (r : Bool) (h : f6 a0 a1 = some r) : PC Tryz.prog 6 [.sl (List.map enc71 a0), .sl (List.map enc5 a1)] (.val (.bool r)) := by
 rw [f6] at h
 refine pc_of9 (N := 41) (rs := [.tmp 4]) Tryz.func6 ?_
 refine AW.sX [0, 1] ?_
 refine AW.sX [0, 5] ?_
 refine AW.seq <| AW.sX [0, 5, 6] ?_
 refine AW.block ?_
 obtain ⟨y15, hy15, h⟩ := bO h
 refine AW.loopO (fun s => ⟨(upd (upd (upd anyF 0 (.sl (List.map enc71 a0))) 5 (.val (.int .i64 s.1))) 6 (.val (.int .i64 s.2))), hpL [] [], 8⟩) (fun z e st' => e = Exit.exit 0 ∧ st' = ⟨(upd (upd anyF 0 (.sl (List.map enc71 a0))) 5 (.val (.int .i64 z))), hpL [] [], 8⟩) hy15 ?_ ?_ ?_
 ·exact Ent.cq RF.any.qv.qv.qv
 ·clear h hy15
  rintro ⟨s1_0, s1_1⟩ x h
  rw [f6_s1] at h
  refine AW.seq ?_
  rcases iteO h with ⟨c11, h⟩ | ⟨c11, h⟩
  ·refine AW.sX [0, 5, 6, 16] ?_
   rcases iteO h with ⟨c12, h⟩ | ⟨c12, h⟩
   ·refine AW.ifT rfl c12 <| AW.skip <| thenA_n <| AW.seq <| AW.block ?_
    obtain ⟨x13, hx13, h⟩ := bO h
    obtain ⟨hx13a, hx13b⟩ := ix_some.1 hx13
    refine AW.rf [0, 5, 6] [0,0,0,6,14,30,62,127,0,0,768,1792,3840,7936,16383,32767] ?_
    generalize hK : inBlockA _ _ Exit.normal = K
    simp only [go_sem, seval, natOf_le hx13a, hx13b]
    subst hK
    refine block_n <| thenA_n <| AW.sY [0, 5, 6] ?_
    refine thenA_n ?_
    refine ⟨_, oj h, ?_⟩
    exact Ent.cq RF.any.qv.qv.qv
   ·refine AW.ifF rfl c12 <| AW.exit <| thenA_x <| thenA_x ?_
    refine ⟨_, oj h, _, ?_, rfl, rfl⟩
    exact Ent.cq RF.any.qv.qv
  ·refine AW.sX [0, 5, 6, 16] ?_
   refine AW.ifBF rfl rfl <| AW.exit <| thenA_x <| thenA_x ?_
   refine ⟨_, oj h, _, ?_, rfl, rfl⟩
   exact Ent.cq RF.any.qv.qv
 ·intro e st' hX
  try dsimp only at h
  try dsimp only at hX
  obtain ⟨rfl, rfl⟩ := hX
  refine ⟨_, Ent.refl, ?_⟩
  refine block_x <| thenA_n ?_
  rcases iteO h with ⟨c16, h⟩ | ⟨c16, h⟩
  ·refine AW.sX [4] ?_
   refine AW.ret ?_
   obtain rfl := oi h
   (simp only [go_sem, seval, finA] <;> try simp)
  ·refine AW.sX [4] ?_
   refine AW.ret ?_
   obtain rfl := oi h
   (simp only [go_sem, seval, finA] <;> try simp)
def f13_s1 (a0 : List Res) (a1 : List Res) : Int → Option (Int ⊕ (Bool ⊕ Unit))
  | s1_0 => (if s1_0 < (a0.length : Int) then ((ix a0 s1_0).bind fun x21 => ((ix a1 s1_0).bind fun x22 => (if x21.Key = x22.Key then (if x21.Val = x22.Val then ((f21 x21.Offs x22.Offs).bind fun x25 => (if x25 = true then some (.inl (IntKind.i64.wrap (s1_0 + 1))) else some (.inr (.inl false)))) else some (.inr (.inl false))) else some (.inr (.inl false))))) else some (.inr (.inr ())))
def f13 (a0 : List Res) (a1 : List Res) : Option Bool := (if (a0.length : Int) = (a1.length : Int) then ((loopO (f13_s1 a0 a1) 0).bind fun y27 => match y27 with | .inl y28 => some y28 | .inr _ => some true) else some false)
theorem ok13 (a0 : List Res) (a1 : List Res) (r : Bool) (h : f13 a0 a1 = some r) : PC Tryz.prog 13 [.sl (List.map encRes a0), .sl (List.map encRes a1)] (.val (.bool r)) := by
 rw [f13] at h
 refine pc_of9 (N := 55) (rs := [.tmp 4]) Tryz.func13 ?_
 refine AW.rX [0, 1] ?_
 refine AW.seq <| AW.rX [0, 1, 10] ?_
 rcases iteO h with ⟨c2, h⟩ | ⟨c2, h⟩
 ·refine AW.ifF rfl (fun q => q c2) ?_
  refine AW.skip <| thenA_n <| AW.seq <| AW.rX [0, 1, 5] ?_
  refine AW.block ?_
  obtain ⟨y27, hy27, h⟩ := bO h
  refine AW.loopO (fun s => ⟨(upd (upd (upd anyF 0 (.sl (List.map encRes a0))) 1 (.sl (List.map encRes a1))) 5 (.val (.int .i64 s))), hpL [] [], 8⟩) (fun y e st' => match y with | .inl z => e = Exit.ret ∧ finA Tryz.prog [.tmp 4] (.val (.bool z)) .ret st' | .inr z => e = Exit.exit 0 ∧ st' = ⟨anyF, hpL [] [], 8⟩) hy27 ?_ ?_ ?_
  ·exact Ent.cq RF.any.qv.qv.qv
  ·clear h hy27
   rintro s1_0 x h
   rw [f13_s1] at h
   refine AW.seq <| AW.rX [0, 1, 5, 14] ?_
   rcases iteO h with ⟨c20, h⟩ | ⟨c20, h⟩
   ·refine AW.ifT rfl c20 <| AW.skip <| thenA_n <| AW.seq <| AW.block ?_
    obtain ⟨x21, hx21, h⟩ := bO h
    obtain ⟨hx21a, hx21b⟩ := ix_some.1 hx21
    obtain ⟨x22, hx22, h⟩ := bO h
    obtain ⟨hx22a, hx22b⟩ := ix_some.1 hx22
    rcases iteO h with ⟨c23, h⟩ | ⟨c23, h⟩
    ·rcases iteO h with ⟨c24, h⟩ | ⟨c24, h⟩
     ·obtain ⟨x25, hx25, h⟩ := bO h
      refine AW.rG [0, 1, 5, 54] [0,0,3,7,15,0,0,96,224,480,1023,2047,4095,4095,16383,32767,65535,4095,4095,397311,921599,1970175,4194303,8388607,16777215,33554431,33554431,134217727,268435455,536870911,33554431,33554431,3254779903,7549747199,16139681791,34359738367,68719476735,137438953471] (ok21 x21.Offs x22.Offs x25 hx25) Tryz.call21 ?_
      generalize hK : AW Tryz.prog _ _ _ = K
      simp only [go_sem, seval, natOf_le hx21a, hx21b, natOf_le hx22a, hx22b, eq_true c23, eq_true c24]
      subst hK
      rcases iteO h with ⟨c26, h⟩ | ⟨c26, h⟩
      ·refine AW.ifBF rfl (by first | (rw [c26]; rfl) | simp_all) <| AW.skip <| block_n <| thenA_n <| AW.sY [0, 1, 5] ?_
       refine thenA_n ?_
       refine ⟨_, oj h, ?_⟩
       exact Ent.cq RF.any.qv.qv.qv
      ·rw [Bool.not_eq_true] at c26
       refine AW.ifBT rfl (by first | (rw [c26]; rfl) | simp_all) <| AW.sX [4] ?_
       refine AW.ret <| block_r <| thenA_r <| thenA_r ?_
       refine ⟨_, oj h, _, Ent.refl, rfl, ?_⟩
       (simp only [go_sem, seval, c26, finA] <;> try simp)
     ·refine AW.re [0, 1, 5, 54] [0,0,3,7,15,0,0,96,224,480,1023,2047,4095,4095,16383,32767,65535,4095,4095,397311,921599,1970175,4194303,8388607,16777215,33554431,33554431,134217727,268435455,536870911,33554431,33554431,3254779903,7549747199,16139681791,34359738367,68719476735,137438953471] ?_
      generalize hK : AW Tryz.prog _ _ _ = K
      simp only [go_sem, seval, natOf_le hx21a, hx21b, natOf_le hx22a, hx22b, eq_true c23, eq_false c24]
      subst hK
      refine AW.ifBT rfl rfl <| AW.rX [4] ?_
      refine AW.ret <| block_r <| thenA_r <| thenA_r ?_
      refine ⟨_, oj h, _, Ent.refl, rfl, ?_⟩
      (simp only [go_sem, seval, finA] <;> try simp)
    ·refine AW.re [0, 1, 5, 54] [0,0,3,7,15,0,0,96,224,480,1023,2047,4095,4095,16383,32767,65535,4095,4095,397311,921599,1970175,4194303,8388607,16777215,33554431,33554431,134217727,268435455,536870911,33554431,33554431,3254779903,7549747199,16139681791,34359738367,68719476735,137438953471] ?_
     generalize hK : AW Tryz.prog _ _ _ = K
     simp only [go_sem, seval, natOf_le hx21a, hx21b, natOf_le hx22a, hx22b, eq_false c23]
     subst hK
     refine AW.ifBT rfl rfl <| AW.rX [4] ?_
     refine AW.ret <| block_r <| thenA_r <| thenA_r ?_
     refine ⟨_, oj h, _, Ent.refl, rfl, ?_⟩
     (simp only [go_sem, seval, finA] <;> try simp)
   ·refine AW.ifF rfl c20 <| AW.exit <| thenA_x <| thenA_x ?_
    refine ⟨_, oj h, _, ?_, rfl, rfl⟩
    exact Ent.cq RF.any
  ·intro e st' hX
   rcases y27 with y28 | _ <;> dsimp only at h hX
   ·obtain ⟨rfl, hf⟩ := hX
    refine ⟨_, Ent.refl, ?_⟩
    refine block_r <| thenA_r ?_
    obtain rfl := oi h
    exact hf
   ·obtain ⟨rfl, rfl⟩ := hX
    refine ⟨_, Ent.refl, ?_⟩
    refine block_x <| thenA_n <| AW.rX [4] ?_
    refine AW.ret ?_
    obtain rfl := oi h
    (simp only [go_sem, seval, finA] <;> try simp)
 ·refine AW.ifT rfl c2 <| AW.rX [4] ?_
  refine AW.ret <| thenA_r ?_
  obtain rfl := oi h
  (simp only [go_sem, seval, finA] <;> try simp)
def f14 (a0 : Trace) : Option ((List Res) × Trace) := ((f43 [a0.l]).bind fun x1 => some (x1, a0))
theorem ok14 (a0 : Trace) (r : (List Res) × Trace) (h : f14 a0 = some r) : IC Tryz.prog 14 [some (.row 2 true [[.sl (List.map encRes a0.l), .im (List.map encM a0.offs)]])] [.ptr 0 0 0] (.own 8 0 r.1.length) [some (.row 2 true [[.sl (List.map encRes r.2.l), .im (List.map encM r.2.offs)]])] [some (.row 3 true (List.map encRes r.1))] := by
 rw [f14] at h
 refine ic_of (N := 11) (rs := [.tmp 2]) Tryz.func14 rfl rfl rfl (Nat.le_of_ble_eq_true rfl) <| AW.rX [0] ?_
 refine AW.seq <| AW.rX [0, 4] ?_
 refine AW.ifBF rfl rfl <| AW.skip <| thenA_n ?_
 obtain ⟨x1, hx1, h⟩ := bO h
 refine AW.rC [2] (ok43 [a0.l] x1 hx1) Tryz.call43 ?_
 refine AW.ent (st' := ⟨(upd anyF 2 (.own 8 0 x1.length)), hpL [some (.row 2 true [[.sl (List.map encRes a0.l), .im (List.map encM a0.offs)]])] [some (.row 3 true (List.map encRes x1))], 9⟩) ?_ ?_
 · refine Ent.can [72] _ _ _ rfl (by first | decide | simp) rfl ?_ ?_ ?_
   · exact RF.any.qo
   · exact .ce (.nil _)
   · exact .ce (.nil _)
 refine AW.ret ?_
 obtain rfl := oi h
 exact ⟨rfl, rfl, _, rfl, by first | rfl | simp [resOf, upd_ap, bytesI_len]⟩
def f14_nil : Option (List Res) := some []
theorem ok14_nil (r : (List Res)) (h : f14_nil = some r) : PC Tryz.prog 14 [.val (.pointer none)] (.sl (List.map encRes r)) := by
 rw [f14_nil] at h
 refine pc_of9 (N := 11) (rs := [.tmp 2]) Tryz.func14 ?_
 refine AW.rX [0] ?_
 refine AW.seq <| AW.rX [0, 4] ?_
 refine AW.ifBT rfl rfl <| AW.rX [2] ?_
 refine AW.ent (Ent.w (FrW.put1 (d := 2) Weak.nil)) ?_
 refine AW.ret <| thenA_r ?_
 obtain rfl := oi h
 (simp only [go_sem, seval, finA] <;> try simp)
def f3 (a0 : List (A2 (List Int))) (a1 : List Int) : Option Bool := ((f6 a0 a1).bind fun x4 => (if x4 = true then ((f7 ).bind fun x6 => some x6) else ((f8 a0 a1).bind fun x7 => (match x7 with | (none, e8) => ((f9 a0 a1).bind fun x10 => ((f10 e8).bind fun x16 => (if x16 = x10.2.1 then ((f11 e8).bind fun x18 => (if x18 = x10.2.1 then (if true = (decide (¬ (x10.2.1 = 0))) then (if x10.2.1 = 0 then ((f14_nil ).bind fun x22 => ((f13 x22 x10.1).bind fun x23 => (if x23 = true then ((f7 ).bind fun x25 => some x25) else some false))) else ((f12asS e8 ⟨⟨#[]⟩, 0, Er.nil⟩).bind fun x26 => (if x26.1 = true then (if x26.2.Stage = x10.2.2.1 then (if x26.2.No = x10.2.2.2 then ((f7 ).bind fun x30 => some x30) else some false) else some false) else some false))) else some false) else some false)) else some false))) | (some b9, e8) => ((f9 a0 a1).bind fun x31 => ((f10 e8).bind fun x37 => (if x37 = x31.2.1 then ((f11 e8).bind fun x39 => (if x39 = x31.2.1 then (if false = (decide (¬ (x31.2.1 = 0))) then (if x31.2.1 = 0 then ((f14 b9).bind fun x43 => ((f13 x43.1 x31.1).bind fun x44 => (if x44 = true then ((f7 ).bind fun x46 => some x46) else some false))) else ((f12asS e8 ⟨⟨#[]⟩, 0, Er.nil⟩).bind fun x47 => (if x47.1 = true then (if x47.2.Stage = x31.2.2.1 then (if x47.2.No = x31.2.2.2 then ((f7 ).bind fun x51 => some x51) else some false) else some false) else some false))) else some false) else some false)) else some false)))))))
theorem ok3 (a0 : List (A2 (List Int))) (a1 : List Int) (r : Bool) (h : f3 a0 a1 = some r) : PC Tryz.prog 3 [.sl (List.map enc71 a0), .sl (List.map enc5 a1)] (.val (.bool r)) := by
 rw [f3] at h
 refine pc_of9 (N := 74) (rs := [.tmp 4]) Tryz.func3 ?_
 refine AW.rX [0, 1] ?_
 refine AW.seq ?_
 obtain ⟨x4, hx4, h⟩ := bO h
 refine AW.rC [0, 1, 14] (ok6 a0 a1 x4 hx4) Tryz.call6 ?_
 rcases iteO h with ⟨c5, h⟩ | ⟨c5, h⟩
 ·refine AW.ifBT rfl c5 ?_
  obtain ⟨x6, hx6, h⟩ := bO h
  refine AW.rC [4] (ok7  x6 hx6) Tryz.call7 ?_
  refine AW.ret <| thenA_r ?_
  obtain rfl := oi h
  (simp only [go_sem, seval, c5, finA] <;> try simp)
 ·rw [Bool.not_eq_true] at c5
  refine AW.ifBF rfl c5 <| AW.skip <| thenA_n ?_
  obtain ⟨x7, hx7, h⟩ := bO h
  obtain ⟨(_ | b9), e8⟩ := x7
  ·dsimp only at h
   refine AW.rK [0, 1, 5, 6] fun K hK => ?_
   simp only [go_sem, seval, c5]
   refine arC.ok (CallOk.icr (us' := _) (ok8 a0 a1 (none, e8) hx7) [] (.nil _) (.cons (.of rfl) (.cons (.of rfl) .nil))) Tryz.call8 ?_
   simp only [go_sem, seval, c5]
   subst hK
   obtain ⟨x10, hx10, h⟩ := bO h
   refine AW.rC [5, 6, 7, 8, 9, 10] (ok9 a0 a1 x10 hx10) Tryz.call9 ?_
   refine AW.seq ?_
   obtain ⟨x16, hx16, h⟩ := bO h
   rcases iteO h with ⟨c17, h⟩ | ⟨c17, h⟩
   ·obtain ⟨x18, hx18, h⟩ := bO h
    rcases iteO h with ⟨c19, h⟩ | ⟨c19, h⟩
    ·refine AW.rK [5, 6, 7, 8, 9, 10, 46] fun K hK => ?_
     simp only [go_sem, seval, c5, eq_true c17, eq_true c19, nb4]
     refine arC.of (ok10 e8 x16 hx16) Tryz.call10 ?_
     simp only [go_sem, seval, c5, eq_true c17, eq_true c19, nb4]
     refine arC.of (ok11 e8 x18 hx18) Tryz.call11 ?_
     simp only [go_sem, seval, c5, eq_true c17, eq_true c19, nb4]
     subst hK
     rcases iteO h with ⟨c20, h⟩ | ⟨c20, h⟩
     ·refine AW.ifNF rfl c20 <| AW.skip <| thenA_n <| AW.seq <| AW.sX [5, 6, 7, 9, 10, 48] ?_
      rcases iteO h with ⟨c21, h⟩ | ⟨c21, h⟩
      ·refine AW.ifF rfl (fun q => q c21) <| AW.skip <| thenA_n ?_
       obtain ⟨x22, hx22, h⟩ := bO h
       obtain ⟨x23, hx23, h⟩ := bO h
       rcases iteO h with ⟨c24, h⟩ | ⟨c24, h⟩
       ·obtain ⟨x25, hx25, h⟩ := bO h
        refine AW.rK [4] fun K hK => ?_
        simp only [go_sem, seval, c5, eq_true c17, eq_true c19, eq_true c20, eq_true c21, c24]
        refine arC.of (ok14_nil  x22 hx22) Tryz.call14 ?_
        simp only [go_sem, seval, c5, eq_true c17, eq_true c19, eq_true c20, eq_true c21, c24]
        refine arC.of (ok13 x22 x10.1 x23 hx23) Tryz.call13 ?_
        simp only [go_sem, seval, c5, eq_true c17, eq_true c19, eq_true c20, eq_true c21, c24]
        refine arC.of (ok7  x25 hx25) Tryz.call7 ?_
        simp only [go_sem, seval, c5, eq_true c17, eq_true c19, eq_true c20, eq_true c21, c24]
        subst hK
        refine AW.ret ?_
        obtain rfl := oi h
        (simp only [go_sem, seval, c5, eq_true c17, eq_true c19, eq_true c20, eq_true c21, c24, finA] <;> try simp)
       ·rw [Bool.not_eq_true] at c24
        refine AW.rK [4] fun K hK => ?_
        simp only [go_sem, seval, c5, eq_true c17, eq_true c19, eq_true c20, eq_true c21, c24]
        refine arC.of (ok14_nil  x22 hx22) Tryz.call14 ?_
        simp only [go_sem, seval, c5, eq_true c17, eq_true c19, eq_true c20, eq_true c21, c24]
        refine arC.of (ok13 x22 x10.1 x23 hx23) Tryz.call13 ?_
        simp only [go_sem, seval, c5, eq_true c17, eq_true c19, eq_true c20, eq_true c21, c24]
        subst hK
        refine AW.ret ?_
        obtain rfl := oi h
        (simp only [go_sem, seval, c5, eq_true c17, eq_true c19, eq_true c20, eq_true c21, c24, finA] <;> try simp)
      ·refine AW.ifT rfl c21 <| AW.tX [6, 9, 10, 11] ?_
       obtain ⟨x26, hx26, h⟩ := bO h
       rcases iteO h with ⟨c27, h⟩ | ⟨c27, h⟩
       ·rcases iteO h with ⟨c28, h⟩ | ⟨c28, h⟩
        ·rcases iteO h with ⟨c29, h⟩ | ⟨c29, h⟩
         ·obtain ⟨x30, hx30, h⟩ := bO h
          refine AW.rK [4] fun K hK => ?_
          simp only [go_sem, seval, c5, eq_true c17, eq_true c19, eq_true c20, eq_false c21, c27, eq_true c28, eq_true c29]
          refine arC.ok (CallOk.icr (us' := _) (ok12asS e8 ⟨⟨#[]⟩, 0, Er.nil⟩ x26 hx26) [352] (.cons (.eq (by simp only [go_sem]) (by first | rfl | simp [upd_ap, hpL_ap, sg_ap])) (.nil _)) (.cons (.of rfl) (.cons (.of rfl) .nil))) Tryz.call12 ?_
          simp only [go_sem, seval, c5, eq_true c17, eq_true c19, eq_true c20, eq_false c21, c27, eq_true c28, eq_true c29]
          refine arC.of (ok7  x30 hx30) Tryz.call7 ?_
          simp only [go_sem, seval, c5, eq_true c17, eq_true c19, eq_true c20, eq_false c21, c27, eq_true c28, eq_true c29]
          subst hK
          refine AW.ret <| thenA_r ?_
          obtain rfl := oi h
          (simp only [go_sem, seval, c5, eq_true c17, eq_true c19, eq_true c20, eq_false c21, c27, eq_true c28, eq_true c29, finA] <;> try simp)
         ·refine AW.rK [4] fun K hK => ?_
          simp only [go_sem, seval, c5, eq_true c17, eq_true c19, eq_true c20, eq_false c21, c27, eq_true c28, eq_false c29]
          refine arC.ok (CallOk.icr (us' := _) (ok12asS e8 ⟨⟨#[]⟩, 0, Er.nil⟩ x26 hx26) [352] (.cons (.eq (by simp only [go_sem]) (by first | rfl | simp [upd_ap, hpL_ap, sg_ap])) (.nil _)) (.cons (.of rfl) (.cons (.of rfl) .nil))) Tryz.call12 ?_
          simp only [go_sem, seval, c5, eq_true c17, eq_true c19, eq_true c20, eq_false c21, c27, eq_true c28, eq_false c29]
          subst hK
          refine AW.ret <| thenA_r ?_
          obtain rfl := oi h
          (simp only [go_sem, seval, c5, eq_true c17, eq_true c19, eq_true c20, eq_false c21, c27, eq_true c28, eq_false c29, finA] <;> try simp)
        ·refine AW.rK [4] fun K hK => ?_
         simp only [go_sem, seval, c5, eq_true c17, eq_true c19, eq_true c20, eq_false c21, c27, eq_false c28]
         refine arC.ok (CallOk.icr (us' := _) (ok12asS e8 ⟨⟨#[]⟩, 0, Er.nil⟩ x26 hx26) [352] (.cons (.eq (by simp only [go_sem]) (by first | rfl | simp [upd_ap, hpL_ap, sg_ap])) (.nil _)) (.cons (.of rfl) (.cons (.of rfl) .nil))) Tryz.call12 ?_
         simp only [go_sem, seval, c5, eq_true c17, eq_true c19, eq_true c20, eq_false c21, c27, eq_false c28]
         subst hK
         refine AW.ret <| thenA_r ?_
         obtain rfl := oi h
         (simp only [go_sem, seval, c5, eq_true c17, eq_true c19, eq_true c20, eq_false c21, c27, eq_false c28, finA] <;> try simp)
       ·rw [Bool.not_eq_true] at c27
        refine AW.rK [4] fun K hK => ?_
        simp only [go_sem, seval, c5, eq_true c17, eq_true c19, eq_true c20, eq_false c21, c27]
        refine arC.ok (CallOk.icr (us' := _) (ok12asS e8 ⟨⟨#[]⟩, 0, Er.nil⟩ x26 hx26) [352] (.cons (.eq (by simp only [go_sem]) (by first | rfl | simp [upd_ap, hpL_ap, sg_ap])) (.nil _)) (.cons (.of rfl) (.cons (.of rfl) .nil))) Tryz.call12 ?_
        simp only [go_sem, seval, c5, eq_true c17, eq_true c19, eq_true c20, eq_false c21, c27]
        subst hK
        refine AW.ret <| thenA_r ?_
        obtain rfl := oi h
        (simp only [go_sem, seval, c5, eq_true c17, eq_true c19, eq_true c20, eq_false c21, c27, finA] <;> try simp)
     ·refine AW.ifNT rfl c20 <| AW.sX [4] ?_
      refine AW.ret <| thenA_r ?_
      obtain rfl := oi h
      (simp only [go_sem, seval, c5, eq_true c17, eq_true c19, eq_false c20, finA] <;> try simp)
    ·refine AW.rK [5, 6, 7, 8, 9, 10, 46] fun K hK => ?_
     simp only [go_sem, seval, c5, eq_true c17, eq_false c19]
     refine arC.of (ok10 e8 x16 hx16) Tryz.call10 ?_
     simp only [go_sem, seval, c5, eq_true c17, eq_false c19]
     refine arC.of (ok11 e8 x18 hx18) Tryz.call11 ?_
     simp only [go_sem, seval, c5, eq_true c17, eq_false c19]
     subst hK
     refine AW.ifBT rfl rfl <| AW.sX [4] ?_
     refine AW.ret <| thenA_r ?_
     obtain rfl := oi h
     (simp only [go_sem, seval, c5, eq_true c17, eq_false c19, finA] <;> try simp)
   ·refine AW.sC [5, 6, 7, 8, 9, 10, 46] (ok10 e8 x16 hx16) Tryz.call10 ?_
    refine AW.ifBT rfl rfl <| AW.sX [4] ?_
    refine AW.ret <| thenA_r ?_
    obtain rfl := oi h
    (simp only [go_sem, seval, c5, eq_false c17, finA] <;> try simp)
  ·dsimp only at h
   refine AW.rK [0, 1, 5, 6] fun K hK => ?_
   simp only [go_sem, seval, c5]
   refine arC.ok (CallOk.icr (us' := _) (ok8 a0 a1 (some b9, e8) hx7) [] (.nil _) (.cons (.of rfl) (.cons (.of rfl) .nil))) Tryz.call8 ?_
   simp only [go_sem, seval, c5]
   subst hK
   obtain ⟨x31, hx31, h⟩ := bO h
   refine AW.rC [5, 6, 7, 8, 9, 10] (ok9 a0 a1 x31 hx31) Tryz.call9 ?_
   refine AW.seq ?_
   obtain ⟨x37, hx37, h⟩ := bO h
   rcases iteO h with ⟨c38, h⟩ | ⟨c38, h⟩
   ·obtain ⟨x39, hx39, h⟩ := bO h
    rcases iteO h with ⟨c40, h⟩ | ⟨c40, h⟩
    ·refine AW.rK [5, 6, 7, 8, 9, 10, 46] fun K hK => ?_
     simp only [go_sem, seval, c5, eq_true c38, eq_true c40, nb4]
     refine arC.of (ok10 e8 x37 hx37) Tryz.call10 ?_
     simp only [go_sem, seval, c5, eq_true c38, eq_true c40, nb4]
     refine arC.of (ok11 e8 x39 hx39) Tryz.call11 ?_
     simp only [go_sem, seval, c5, eq_true c38, eq_true c40, nb4]
     subst hK
     rcases iteO h with ⟨c41, h⟩ | ⟨c41, h⟩
     ·refine AW.ifNF rfl c41 <| AW.skip <| thenA_n <| AW.seq <| AW.sX [5, 6, 7, 9, 10, 48] ?_
      rcases iteO h with ⟨c42, h⟩ | ⟨c42, h⟩
      ·refine AW.ifF rfl (fun q => q c42) <| AW.skip <| thenA_n <| AW.ent (Ent.stillObj (pre := []) (post := [.im (List.map encM b9.offs)]) (q := 57) (off := 0) (len := b9.l.length) 56 rfl (own_sl (sz := 3) (m := true) rfl (by first | rfl | (simp [bytesI_len]; done) | (simp [bytesI_len]; omega)) (by simp only [go_sem])) (by decide)) ?_
       obtain ⟨x43, hx43, h⟩ := bO h
       obtain ⟨x44, hx44, h⟩ := bO h
       rcases iteO h with ⟨c45, h⟩ | ⟨c45, h⟩
       ·obtain ⟨x46, hx46, h⟩ := bO h
        refine AW.rK [4] fun K hK => ?_
        simp only [go_sem, seval, c5, eq_true c38, eq_true c40, eq_true c41, eq_true c42, c45]
        refine arC.ok (CallOk.icr (us' := _) (ok14 b9 x43 hx43) [56] (.cons (.eq (by simp only [go_sem]) (by first | rfl | simp [upd_ap, hpL_ap, sg_ap])) (.nil _)) (.cons (.of rfl) .nil)) Tryz.call14 ?_
        simp only [go_sem, seval, c5, eq_true c38, eq_true c40, eq_true c41, eq_true c42, c45]
        refine arC.of (ok13 x43.1 x31.1 x44 hx44) Tryz.call13 ?_
        simp only [go_sem, seval, c5, eq_true c38, eq_true c40, eq_true c41, eq_true c42, c45]
        refine arC.of (ok7  x46 hx46) Tryz.call7 ?_
        simp only [go_sem, seval, c5, eq_true c38, eq_true c40, eq_true c41, eq_true c42, c45]
        subst hK
        refine AW.ret ?_
        obtain rfl := oi h
        (simp only [go_sem, seval, c5, eq_true c38, eq_true c40, eq_true c41, eq_true c42, c45, finA] <;> try simp)
       ·rw [Bool.not_eq_true] at c45
        refine AW.rK [4] fun K hK => ?_
        simp only [go_sem, seval, c5, eq_true c38, eq_true c40, eq_true c41, eq_true c42, c45]
        refine arC.ok (CallOk.icr (us' := _) (ok14 b9 x43 hx43) [56] (.cons (.eq (by simp only [go_sem]) (by first | rfl | simp [upd_ap, hpL_ap, sg_ap])) (.nil _)) (.cons (.of rfl) .nil)) Tryz.call14 ?_
        simp only [go_sem, seval, c5, eq_true c38, eq_true c40, eq_true c41, eq_true c42, c45]
        refine arC.of (ok13 x43.1 x31.1 x44 hx44) Tryz.call13 ?_
        simp only [go_sem, seval, c5, eq_true c38, eq_true c40, eq_true c41, eq_true c42, c45]
        subst hK
        refine AW.ret ?_
        obtain rfl := oi h
        (simp only [go_sem, seval, c5, eq_true c38, eq_true c40, eq_true c41, eq_true c42, c45, finA] <;> try simp)
      ·refine AW.ifT rfl c42 <| AW.sX [6, 9, 10, 11] ?_
       obtain ⟨x47, hx47, h⟩ := bO h
       rcases iteO h with ⟨c48, h⟩ | ⟨c48, h⟩
       ·rcases iteO h with ⟨c49, h⟩ | ⟨c49, h⟩
        ·rcases iteO h with ⟨c50, h⟩ | ⟨c50, h⟩
         ·obtain ⟨x51, hx51, h⟩ := bO h
          refine AW.rK [4] fun K hK => ?_
          simp only [go_sem, seval, c5, eq_true c38, eq_true c40, eq_true c41, eq_false c42, c48, eq_true c49, eq_true c50]
          refine arC.ok (CallOk.icr (us' := _) (ok12asS e8 ⟨⟨#[]⟩, 0, Er.nil⟩ x47 hx47) [352] (.cons (.eq (by simp only [go_sem]) (by first | rfl | simp [upd_ap, hpL_ap, sg_ap])) (.nil _)) (.cons (.of rfl) (.cons (.of rfl) .nil))) Tryz.call12 ?_
          simp only [go_sem, seval, c5, eq_true c38, eq_true c40, eq_true c41, eq_false c42, c48, eq_true c49, eq_true c50]
          refine arC.of (ok7  x51 hx51) Tryz.call7 ?_
          simp only [go_sem, seval, c5, eq_true c38, eq_true c40, eq_true c41, eq_false c42, c48, eq_true c49, eq_true c50]
          subst hK
          refine AW.ret <| thenA_r ?_
          obtain rfl := oi h
          (simp only [go_sem, seval, c5, eq_true c38, eq_true c40, eq_true c41, eq_false c42, c48, eq_true c49, eq_true c50, finA] <;> try simp)
         ·refine AW.rK [4] fun K hK => ?_
          simp only [go_sem, seval, c5, eq_true c38, eq_true c40, eq_true c41, eq_false c42, c48, eq_true c49, eq_false c50]
          refine arC.ok (CallOk.icr (us' := _) (ok12asS e8 ⟨⟨#[]⟩, 0, Er.nil⟩ x47 hx47) [352] (.cons (.eq (by simp only [go_sem]) (by first | rfl | simp [upd_ap, hpL_ap, sg_ap])) (.nil _)) (.cons (.of rfl) (.cons (.of rfl) .nil))) Tryz.call12 ?_
          simp only [go_sem, seval, c5, eq_true c38, eq_true c40, eq_true c41, eq_false c42, c48, eq_true c49, eq_false c50]
          subst hK
          refine AW.ret <| thenA_r ?_
          obtain rfl := oi h
          (simp only [go_sem, seval, c5, eq_true c38, eq_true c40, eq_true c41, eq_false c42, c48, eq_true c49, eq_false c50, finA] <;> try simp)
        ·refine AW.rK [4] fun K hK => ?_
         simp only [go_sem, seval, c5, eq_true c38, eq_true c40, eq_true c41, eq_false c42, c48, eq_false c49]
         refine arC.ok (CallOk.icr (us' := _) (ok12asS e8 ⟨⟨#[]⟩, 0, Er.nil⟩ x47 hx47) [352] (.cons (.eq (by simp only [go_sem]) (by first | rfl | simp [upd_ap, hpL_ap, sg_ap])) (.nil _)) (.cons (.of rfl) (.cons (.of rfl) .nil))) Tryz.call12 ?_
         simp only [go_sem, seval, c5, eq_true c38, eq_true c40, eq_true c41, eq_false c42, c48, eq_false c49]
         subst hK
         refine AW.ret <| thenA_r ?_
         obtain rfl := oi h
         (simp only [go_sem, seval, c5, eq_true c38, eq_true c40, eq_true c41, eq_false c42, c48, eq_false c49, finA] <;> try simp)
       ·rw [Bool.not_eq_true] at c48
        refine AW.rK [4] fun K hK => ?_
        simp only [go_sem, seval, c5, eq_true c38, eq_true c40, eq_true c41, eq_false c42, c48]
        refine arC.ok (CallOk.icr (us' := _) (ok12asS e8 ⟨⟨#[]⟩, 0, Er.nil⟩ x47 hx47) [352] (.cons (.eq (by simp only [go_sem]) (by first | rfl | simp [upd_ap, hpL_ap, sg_ap])) (.nil _)) (.cons (.of rfl) (.cons (.of rfl) .nil))) Tryz.call12 ?_
        simp only [go_sem, seval, c5, eq_true c38, eq_true c40, eq_true c41, eq_false c42, c48]
        subst hK
        refine AW.ret <| thenA_r ?_
        obtain rfl := oi h
        (simp only [go_sem, seval, c5, eq_true c38, eq_true c40, eq_true c41, eq_false c42, c48, finA] <;> try simp)
     ·refine AW.ifNT rfl c41 <| AW.sX [4] ?_
      refine AW.ret <| thenA_r ?_
      obtain rfl := oi h
      (simp only [go_sem, seval, c5, eq_true c38, eq_true c40, eq_false c41, finA] <;> try simp)
    ·refine AW.rK [5, 6, 7, 8, 9, 10, 46] fun K hK => ?_
     simp only [go_sem, seval, c5, eq_true c38, eq_false c40]
     refine arC.of (ok10 e8 x37 hx37) Tryz.call10 ?_
     simp only [go_sem, seval, c5, eq_true c38, eq_false c40]
     refine arC.of (ok11 e8 x39 hx39) Tryz.call11 ?_
     simp only [go_sem, seval, c5, eq_true c38, eq_false c40]
     subst hK
     refine AW.ifBT rfl rfl <| AW.sX [4] ?_
     refine AW.ret <| thenA_r ?_
     obtain rfl := oi h
     (simp only [go_sem, seval, c5, eq_true c38, eq_false c40, finA] <;> try simp)
   ·refine AW.sC [5, 6, 7, 8, 9, 10, 46] (ok10 e8 x37 hx37) Tryz.call10 ?_
    refine AW.ifBT rfl rfl <| AW.sX [4] ?_
    refine AW.ret <| thenA_r ?_
    obtain rfl := oi h
    (simp only [go_sem, seval, c5, eq_false c38, finA] <;> try simp)
structure Meets (a : List (A2 (List Int))) (b : List Int) : Prop where
  n : a.length ≤ 1048576
  l0 : ∀ p ∈ a, p.e0.length ≤ 1048576 ∧ p.e1.length ≤ 1048576
  b0 : ∀ p ∈ a, Byt p.e0 ∧ Byt p.e1
  lb : b.length ≤ 1048576
  bb : Byt b
theorem much_eq {a : List (A2 (List Int))} {b : List Int} (h : Meets a b) : ∃ v : Bool, f6 a b = some v ∧ (v = false → Small a b) := by
  have hn := h.n
  have hlb := h.lb
  have key : ∃ r, loopO (f6_s1 a) ((b.length : Int), 0) = some r ∧ (8 < a.length ∨ ((b.length : Int) ≤ r ∧ ∀ p ∈ a, (p.e0.length : Int) ≤ r ∧ (p.e1.length : Int) ≤ r)) := by
    refine loopO_of (fun n s => ∃ i : Nat, s.2 = (i : Int) ∧ i ≤ a.length ∧ i ≤ 8 ∧ (b.length : Int) ≤ s.1 ∧ s.1 ≤ (2 * (i : Int) + 1) * 1048576 ∧ (∀ p ∈ a.take i, (p.e0.length : Int) ≤ s.1 ∧ (p.e1.length : Int) ≤ s.1) ∧ n = a.length - i) ?_ (k := a.length) ⟨0, rfl, by omega, by omega, by simp, by simp; omega, by simp, rfl⟩
    rintro n ⟨y, _⟩ ⟨i, rfl, hi, h8, h1, h2, h3, hk⟩
    simp only at h1 h2 h3
    by_cases c : i < a.length
    · by_cases c8 : i < 8
      · obtain ⟨l0, l1⟩ := h.l0 _ (List.getElem_mem c)
        have w1 : IntKind.i64.wrap (y + (a[i].e0.length : Int)) = y + (a[i].e0.length : Int) := i64_id (by omega) (by omega)
        have w2 : IntKind.i64.wrap (y + (a[i].e0.length : Int) + (a[i].e1.length : Int)) = y + (a[i].e0.length : Int) + (a[i].e1.length : Int) := i64_id (by omega) (by omega)
        refine .inl ⟨(y + (a[i].e0.length : Int) + (a[i].e1.length : Int), ((i + 1 : Nat) : Int)), n - 1, ?_, by omega, i + 1, rfl, by omega, by omega, by simp only; omega, by simp only; omega, fun p hp => ?_, by omega⟩
        · simp only [f6_s1, if_pos (show (i : Int) < (a.length : Int) by omega), if_pos (show (i : Int) < 8 by omega), ixN c, Option.bind_some, w1, w2, wrapN (show i ≤ 10000000000 by omega)]
        · rw [List.take_succ_eq_append_getElem c] at hp
          simp only
          rcases List.mem_append.1 hp with hp | hp
          · have := h3 p hp; omega
          · simp at hp; subst hp; omega
      · exact .inr ⟨y, by simp only [f6_s1, if_pos (show (i : Int) < (a.length : Int) by omega), if_neg (show ¬ (i : Int) < 8 by omega)], .inl (by omega)⟩
    · refine .inr ⟨y, by simp only [f6_s1, if_neg (show ¬ (i : Int) < (a.length : Int) by omega)], .inr ⟨h1, ?_⟩⟩
      rwa [List.take_of_length_le (by omega)] at h3
  obtain ⟨y, k1, k2⟩ := key
  by_cases c : 8 < (a.length : Int)
  · exact ⟨true, by simp only [f6, k1, Option.bind_some, if_pos c], fun h => by cases h⟩
  · refine ⟨decide (2500 < y), by simp only [f6, k1, Option.bind_some, if_neg c], fun hv => ?_⟩
    rw [decide_eq_false_iff_not] at hv
    rcases k2 with k2 | ⟨k2, k3⟩
    · omega
    · exact ⟨by omega, fun p hp => by have := k3 p hp; omega, h.b0, by omega, h.bb⟩
theorem same_nums (l : List Int) (h : l.length ≤ 1000000) : f21 l l = some true := by
  unfold f21
  rw [if_pos rfl]
  obtain ⟨r, h1, h2⟩ := listEq (step := f21_s1 l l) l l rfl h (fun i => rfl)
  rw [h1]
  rcases h2 with ⟨_, h2⟩ | ⟨rfl, _⟩
  · exact absurd rfl h2
  · rfl
theorem same_res (l : List Res) (h : SzR l) : f13 l l = some true := by
  have hl := h.len
  have k : loopO (f13_s1 l l) 0 = some (.inr ()) := by
    have := loopN_done (step := f13_s1 l l) (fun i => (i : Int)) l.length (r := .inr ()) (fun i hi => by
      simp only [f13_s1, if_pos (show (i : Int) < (l.length : Int) by omega), ixN hi, Option.bind_some, if_true, same_nums _ (h.off _ (List.getElem_mem hi)), wrapN (show i ≤ 10000000000 by omega)]) (by
      simp only [f13_s1, if_neg (show ¬ (l.length : Int) < (l.length : Int) by omega)])
    simpa using this
  simp only [f13, if_true, k, Option.bind_some]
theorem all_eq {J : List Res} {m : List Int} (h : SzR J) (hl : J.length ≤ 20000) (hs : Srt ltI J) : f14 ⟨J, m⟩ = some (J, ⟨J, m⟩) := by
  have e : [J].flatten = J := by simp
  obtain ⟨r, r1, r2⟩ := join_prog [J] (by simp) (by rw [e]; omega) (by rw [e]; exact h.off)
  rw [e] at r2
  have : r = J := Sorts.uniq swoI r2 ⟨hs, SF.refl J, rfl⟩
  subst this
  simp only [f14, r1, Option.bind_some]
theorem law3 {a : List (A2 (List Int))} {b : List Int} (h : Meets a b) : f3 a b = some true := by
  obtain ⟨v, v1, v2⟩ := much_eq h
  cases v with
  | true => simp only [f3, v1, Option.bind_some, if_true, f7_true]
  | false =>
    rcases open_eq (v2 rfl) with ⟨e, st, k, he, p1, p2⟩ | ⟨J, m, L, p1, p2, p3, p4, p5, _⟩
    · have t1 : f10 (Er.slip st k (Er.no e)) = some e := by
        simp only [f10, Er.isNil, Bool.false_eq_true, if_false, f12asN, Option.bind_some, if_true]
      have t2 : f11 (Er.slip st k (Er.no e)) = some e := by
        simp only [f11, f12asN, Option.bind_some, if_true]
      simp only [f3, v1, Option.bind_some, Bool.false_eq_true, if_false, p1, p2, t1, if_true, t2, decide_eq_true he, if_neg he, f12asS, f7_true]
    · have t1 : f10 Er.nil = some 0 := by simp only [f10, Er.isNil, if_true]
      have t2 : f11 Er.nil = some 0 := by simp only [f11, f12asN, Option.bind_some, Bool.false_eq_true, if_false]
      have d0 : decide (¬ (0 : Int) = 0) = false := by decide
      simp only [f3, v1, Option.bind_some, Bool.false_eq_true, if_false, p1, p2, t1, if_true, t2, d0, all_eq p3 p4 p5, same_res J p3, f7_true]
      decide
end Au
end Go.Proofs.Yt
namespace Go.Gm
theorem max_shapedT {P : Program} {W : World} {g : Nat} {t : TypeId} {zero : Array Value} (hsh : W.ShapedOpen P) (hgs : g < P.globals.size) (hz : ((begin P (fun _ _ => 0) default).world.heap[g]?).bind Obj.row? = some (zero, t)) (hsz : zero.size = 1)
    (hb : P.buildable t = true) (hc : P.cellTypes P.depth t = some [t]) (hu : P.underlying t = some (.int .i64)) : g < W.heap.size ∧ ∃ cs t fz, ∃ m : Int, W.heap[g]? = some (.cells cs t fz) ∧ cs[0]? = some (.int .i64 m) := by
  obtain ⟨cs, h1, h2, _⟩ := hsh.1 g zero t hgs hz
  obtain ⟨m, hm⟩ := Go.Proofs.cell_of_shapedOpen_int hsh hgs hz hsz hb hc hu
  refine ⟨(Array.getElem?_eq_some_iff.1 h1).1, cs, _, _, m, h1, ?_⟩
  simpa [World.cell?, h1] using hm
theorem typ_arr2 {B : (H : Type) → DataW H → Nat} {P : Program} {α : Type} (f : α → AV) (hB : BulkOk B) {t e : TypeId} {V : Nat → α → Prop} (ht : P.underlying t = some (.array 2 e)) (he : TypR B P e (fun x => [f x]) V) (hce : P.cellsOf e = 1) (hct : P.cellsOf t = 2) :
    TypR B P t (fun x : Go.Proofs.Yt.Au.A2 α => [f x.e0, f x.e1]) (fun n x => V n x.e0 ∧ V n x.e1) := fun en w fuel cs d ps h => by
  obtain ⟨xs, m, rfl, hx, hlen, hxl, hel⟩ := DataW.trod_array ht h
  rw [hct] at hlen
  rw [hce] at hel
  match cs, hlen with
  | [c0, c1], _ =>
    match xs, hxl with
    | [q0, q1], _ =>
      have h0 : DataW.trod en P w 0 (fun _ => true) true m e [c0] = some q0 := hel 0 (by decide)
      have h1 : DataW.trod en P w 0 (fun _ => true) true m e [c1] = some q1 := hel 1 (by decide)
      obtain ⟨x0, a1, a2, a3⟩ := he en w m [c0] q0.1 q0.2 h0
      obtain ⟨x1, b1, b2, b3⟩ := he en w m [c1] q1.1 q1.2 h1
      have ed : d = .agg [q0.1, q1.1] := (Prod.mk.inj hx).1
      subst ed
      refine ⟨⟨x0, x1⟩, ?_, ?_, fun n hn => ⟨a3 n ?_, b3 n ?_⟩⟩
      · cases a1 with
        | cons a1 _ => exact .cons a1 b1
      · intro v hv
        rcases List.mem_cons.1 hv with rfl | hv
        · exact a2 _ (by simp)
        · exact b2 v hv
      · exact Nat.le_trans (hB.part _ _ (by simp)) hn
      · exact Nat.le_trans (hB.part _ _ (by simp)) hn
end Go.Gm
namespace Go.Proofs.Yt
open Go.Gm
namespace Au
theorem g_pow : Tryz.prog.globalNamed "internal/strconv.uint64pow10" = none := by kernel_rfl
theorem g_max : Tryz.prog.globalNamed "internal/bytealg.MaxLen" = some 1 := by kernel_rfl
theorem g_err : Tryz.prog.globalNamed "errors.errorType" = some 0 := by kernel_rfl
theorem t_rt : (Tryz.prog.cutTypes.find? (·.1 == "internal/reflectlite.rtype")).map (·.2) = some 137 := by kernel_rfl
theorem t_size : Tryz.prog.types.size = 290 := by kernel_rfl
theorem t_one : ((List.range 290).filter fun t => Tryz.prog.rowNamed t [101, 114, 114, 111, 114]) = [28] := by kernel_rfl
theorem errT_val : errT Tryz.prog = some (.iface 137 (.agg #[.pointer (some ⟨2, 28, none⟩)])) := by kernel_rfl
def laidE {H : Type} : DataW H := .iface "internal/reflectlite.rtype" (.agg [.ptr (.lit (.string [101, 114, 114, 111, 114]))])
theorem tables_of {W : World} (h : laidMetH Tryz.prog [("errors.errorType", laidE)] W) (hsh : W.ShapedOpen Tryz.prog) : TabH Tryz.prog (fun _ => False) W := by
  have h' : laidMet Tryz.prog [] W ∧ handlesMet Tryz.prog [("errors.errorType", laidE)] W := h
  obtain ⟨name, u, ty, e1, e2, e3, e4, e5⟩ := h'.2 _ (List.mem_singleton.2 rfl)
  have en : name = [101, 114, 114, 111, 114] := (Option.some.inj e1).symm
  subst en
  obtain rfl := Option.some.inj (t_rt.symm.trans e2)
  have hm : ty ∈ (List.range 290).filter fun t => Tryz.prog.rowNamed t [101, 114, 114, 111, 114] := List.mem_filter.2 ⟨List.mem_range.2 (by rw [← t_size]; exact e3), e4⟩
  rw [t_one] at hm
  obtain rfl := List.mem_singleton.1 hm
  have hh : typeHandle Tryz.prog 28 = .pointer (some ⟨2, 28, none⟩) := by kernel_rfl
  rw [hh] at e5
  have hmax := max_shapedT (g := 1) (t := 3) (zero := #[.int .i64 0]) hsh (by decide +kernel) (by kernel_rfl) rfl (by kernel_rfl) (by kernel_rfl) Tryz.underlying3
  intro g p hg
  have k1 : (Tryz.prog.globalNamed "internal/strconv.uint64pow10" == some g) = false := by rw [g_pow]; rfl
  simp only [tabs, libTabs, List.find?_cons, k1, g_max, g_err] at hg
  by_cases h1 : g = 1
  · subst h1
    have e : ((some 1 : Option Nat) == some 1) = true := rfl
    simp only [e, Option.map_some, Option.some.injEq] at hg
    subst hg
    obtain ⟨a1, cs, t, fz, m, a2, a3⟩ := hmax
    exact ⟨a1, fun h => h, _, t, fz, a2, m, a3⟩
  · have e : ((some 1 : Option Nat) == some g) = false := by simp; exact fun h => h1 h.symm
    simp only [e] at hg
    by_cases h0 : g = 0
    · subst h0
      have e : ((some 0 : Option Nat) == some 0) = true := rfl
      simp only [e, Option.map_some, Option.some.injEq] at hg
      subst hg
      unfold World.var? at e5
      rw [g_err, Option.bind_some] at e5
      cases hq : W.heap[0]? with
      | none => rw [hq] at e5; cases e5
      | some o =>
        rw [hq] at e5
        cases o with
        | cells cs t fz =>
          simp only [Option.some.injEq] at e5
          subst e5
          exact ⟨(Array.getElem?_eq_some_iff.1 hq).1, fun h => h, _, t, fz, rfl, by rw [errT_val]; rfl, by rw [errT_val]; rfl⟩
        | _ => cases e5
    · have e : ((some 0 : Option Nat) == some g) = false := by simp; exact fun h => h0 h.symm
      simp only [e, List.find?_nil, Option.map_none] at hg
      cases hg
end Au
end Go.Proofs.Yt
