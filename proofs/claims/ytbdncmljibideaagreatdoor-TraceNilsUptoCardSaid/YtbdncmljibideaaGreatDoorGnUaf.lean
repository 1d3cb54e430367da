import Derived.Test.YtbdncmljibideaaGreatDoorGnUae
import Derived.Below
import Derived.WalkKit
import Derived.Test.YtbdncmljibideaaGreatDoorProg
import Derived.LaidEql
import Derived.Stop.Asserts
import Derived.RowKitTokens
import Derived.Sort.OwnSorted
import Derived.Lib.SlicesCompact
import Derived.Shelf.Small.Strs
import Derived.Shelf.Sort.Plain
import Derived.Lib.LaidTab
import Derived.Lib.ItoaNum
import Derived.Lib.Join
import Derived.Shelf.Spec.SlicesGrow
import Derived.Shelf.Small.Bits
import Derived.Shelf.Strconv.Itoa0
import Derived.Ground.Names2Prog
import Derived.Shelf.Slices.Clone
import Derived.Shelf.Slices.CompactI
import Derived.Shelf.Slices.SearchI
import Derived.Shelf.Slices.Cells
import Derived.Shelf.Slices.In.SortNone
import Derived.Ground.SlgnProg
import Derived.Shelf.SlicesE.Clone
import Derived.Shelf.Bytes.IndexByte
set_option linter.all false
set_option linter.unusedVariables false
set_option linter.unusedSimpArgs false
set_option linter.all false
set_option maxRecDepth 8000
set_option maxHeartbeats 1000000
namespace Go.Proofs.Yt
open Go.Gm
namespace Au
def enc3 (x : Int) : List AV := [.val (.int .i64 x)]
attribute [go_sem] enc3
theorem inl_enc3 (x : Int) : inlL (enc3 x) = true := by simp only [go_sem]
theorem ml_enc3 (l : List Int) : (∀ r ∈ l.map enc3, r.length = 1) = True := forall_map (f := enc3) (fun _ => rfl) l
theorem ir_enc3 (l : List Int) : inlR (l.map enc3) = true := inlR_map inl_enc3 l
theorem mr_enc3 (τ : Nat → Nat) (l : List Int) : (l.map enc3).map (mapTL τ) = l.map enc3 := mapR_inl τ (ir_enc3 l)
theorem no_enc3 (x : Int) : normL (enc3 x) = enc3 x := by simp [enc3, normL, norm, go_sem]
theorem nr_enc3 (l : List Int) : normR (l.map enc3) = l.map enc3 := normR_map no_enc3 l
attribute [go_sem] ml_enc3 ir_enc3 mr_enc3 nr_enc3
structure Slip where
  Stage : ByteArray
  No : Int
  Err : Er
def encSlip (x : Slip) : List AV := [.val (.string x.Stage), .val (.int .i64 x.No), .val (erV x.Err)]
attribute [go_sem] encSlip

def enc5 (x : Int) : List AV := [.val (.int .u8 x)]
attribute [go_sem] enc5
theorem inl_enc5 (x : Int) : inlL (enc5 x) = true := by simp only [go_sem]
theorem ml_enc5 (l : List Int) : (∀ r ∈ l.map enc5, r.length = 1) = True := forall_map (f := enc5) (fun _ => rfl) l
theorem ir_enc5 (l : List Int) : inlR (l.map enc5) = true := inlR_map inl_enc5 l
theorem no_enc5 (x : Int) : normL (enc5 x) = enc5 x := by simp [enc5, normL, norm, go_sem]
theorem nr_enc5 (l : List Int) : normR (l.map enc5) = l.map enc5 := normR_map no_enc5 l
attribute [go_sem] ml_enc5 ir_enc5 nr_enc5
def enc71 (x : A2 (List Int)) : List AV := [.sl (List.map enc5 x.e0), .sl (List.map enc5 x.e1)]
attribute [go_sem] enc71
theorem inl_enc71 (x : A2 (List Int)) : inlL (enc71 x) = true := by simp only [go_sem]
theorem ir_enc71 (l : List (A2 (List Int))) : inlR (l.map enc71) = true := inlR_map inl_enc71 l
attribute [go_sem] ir_enc71
structure Res where
  Key : ByteArray
  Val : ByteArray
  Offs : List Int
def encRes (x : Res) : List AV := [.val (.string x.Key), .val (.string x.Val), .sl (List.map enc3 x.Offs)]
attribute [go_sem] encRes
theorem inl_encRes (x : Res) : inlL (encRes x) = true := by simp only [go_sem]
theorem ml_encRes (l : List Res) : (∀ r ∈ l.map encRes, r.length = 3) = True := forall_map (f := encRes) (fun _ => rfl) l
theorem ir_encRes (l : List Res) : inlR (l.map encRes) = true := inlR_map inl_encRes l
theorem mr_encRes (τ : Nat → Nat) (l : List Res) : (l.map encRes).map (mapTL τ) = l.map encRes := mapR_inl τ (ir_encRes l)
theorem no_encRes (x : Res) : normL (encRes x) = encRes x := by simp [encRes, normL, norm, go_sem]
theorem nr_encRes (l : List Res) : normR (l.map encRes) = l.map encRes := normR_map no_encRes l
attribute [go_sem] ml_encRes ir_encRes mr_encRes nr_encRes
structure Pair where
  Key : ByteArray
  Val : ByteArray
def encPair (x : Pair) : List AV := [.val (.string x.Key), .val (.string x.Val)]
attribute [go_sem] encPair
theorem inl_encPair (x : Pair) : inlL (encPair x) = true := by simp only [go_sem]
theorem ir_encPair (l : List Pair) : inlR (l.map encPair) = true := inlR_map inl_encPair l
theorem no_encPair (x : Pair) : normL (encPair x) = encPair x := by simp [encPair, normL, norm, go_sem]
theorem nr_encPair (l : List Pair) : normR (l.map encPair) = l.map encPair := normR_map no_encPair l
attribute [go_sem] ir_encPair nr_encPair
def enc9 (x : ByteArray) : List AV := [.val (.string x)]
attribute [go_sem] enc9
theorem inl_enc9 (x : ByteArray) : inlL (enc9 x) = true := by simp only [go_sem]
theorem ir_enc9 (l : List ByteArray) : inlR (l.map enc9) = true := inlR_map inl_enc9 l
theorem mr_enc9 (τ : Nat → Nat) (l : List ByteArray) : (l.map enc9).map (mapTL τ) = l.map enc9 := mapR_inl τ (ir_enc9 l)
attribute [go_sem] ir_enc9 mr_enc9
structure Record where
  Off : Int
  Line : ByteArray
def encRecord (x : Record) : List AV := [.val (.int .i64 x.Off), .val (.string x.Line)]
attribute [go_sem] encRecord
theorem inl_encRecord (x : Record) : inlL (encRecord x) = true := by simp only [go_sem]
theorem ir_encRecord (l : List Record) : inlR (l.map encRecord) = true := inlR_map inl_encRecord l
theorem to_encRecord (m : Nat) (l : List Record) : (l.map encRecord).all (tokLL m) = true := tokR_inl m (ir_encRecord l)
attribute [go_sem] ir_encRecord to_encRecord
def enc31 (x : List Res) : List AV := [.sl (List.map encRes x)]
attribute [go_sem] enc31
theorem inl_enc31 (x : List Res) : inlL (enc31 x) = true := by simp only [go_sem]
theorem ir_enc31 (l : List (List Res)) : inlR (l.map enc31) = true := inlR_map inl_enc31 l
attribute [go_sem] ir_enc31
structure Fwd where
  Off : Int
  Keys : List ByteArray
def encFwd (x : Fwd) : List AV := [.val (.int .i64 x.Off), .sl (List.map enc9 x.Keys)]
attribute [go_sem] encFwd

structure Reader where
  b : List Int
  at_ : Int
  e : Int
def encReader (x : Reader) : List AV := [.sl (List.map enc5 x.b), .val (.int .i64 x.at_), .val (.int .i64 x.e)]
attribute [go_sem] encReader

structure Trace where
  l : List Res
  offs : List Int
def encTrace (x : Trace) : List AV := [.sl (List.map encRes x.l), .im (List.map encM x.offs)]
attribute [go_sem] encTrace

def enc23 (x : List Int) : List AV := [.sl (List.map enc5 x)]
attribute [go_sem] enc23

def enc43 (x : List Record) : List AV := [.sl (List.map encRecord x)]
attribute [go_sem] enc43

def fuel : Nat := 4000000
end Au
end Go.Proofs.Yt

set_option linter.all false
namespace Go.Gm
section
variable {τ : Nat → Nat} {m : Nat} {fr fr' : Nat → AV} {d : Nat}
theorem RF.qv {v : AV} (h : RF τ m fr fr') (hi : inl v = true := by first | rfl | simp only [go_sem])
    (hv : fr d = v := by first | rfl | (simp [upd_ap, hpL_ap, tau, mapT, mapTL, bytesI_len]; done) | simp [upd_ap, hpL_ap, tau, mapT, mapTL, bytesI_len, *]) : RF τ m fr (upd fr' d v) := h.pv hi hv
theorem RF.qo {t off n : Nat} (h : RF τ m fr fr') (ht : t < m := by decide)
    (hv : fr d = .own (τ t) off n := by first | rfl | (simp [upd_ap, hpL_ap, tau, mapT, mapTL, bytesI_len]; done) | simp [upd_ap, hpL_ap, tau, mapT, mapTL, bytesI_len, *]) : RF τ m fr (upd fr' d (.own t off n)) := h.po ht hv
theorem RF.qp {t i off : Nat} (h : RF τ m fr fr') (ht : t < m := by decide)
    (hv : fr d = .ptr (τ t) i off := by first | rfl | (simp [upd_ap, hpL_ap, tau, mapT, mapTL, bytesI_len]; done) | simp [upd_ap, hpL_ap, tau, mapT, mapTL, bytesI_len, *]) : RF τ m fr (upd fr' d (.ptr t i off)) := h.pp ht hv
theorem RF.qt {v : AV} (h : RF τ m fr fr') (ht : tokL m v = true := by first | (simp [tokL, tokLL, inlR]; done) | simp [go_sem, tokL, tokLL])
    (hv : fr d = mapT τ v := by first | rfl | (simp [upd_ap, hpL_ap, tau, mapT, mapTL, bytesI_len]; done) | simp [upd_ap, hpL_ap, tau, mapT, mapTL, bytesI_len, *]) : RF τ m fr (upd fr' d v) := h.put ht (.of hv)
theorem HRen.ce {hp : AHeap} {k sz : Nat} {mu : Bool} {rows : List (List AV)} {os : List (Option AObj)} (hs : HRen τ m hp (k + 1) os) (hi : inlR rows = true := by first | rfl | simp only [go_sem])
    (h : hp (τ k) = some (.row sz mu rows) := by first | rfl | (simp [upd_ap, hpL_ap, tau, mapT, mapTL, bytesI_len]; done) | simp [upd_ap, hpL_ap, tau, mapT, mapTL, bytesI_len, *]) : HRen τ m hp k (some (.row sz mu rows) :: os) := .cons (.eq (t := τ k) hi h) hs
theorem Ent.canq {N nx : Nat} {hp : AHeap} {a b : List (Option AObj)} (l : List Nat) (hf : RF (tau l) m fr fr') (h0 : HRen (tau l) m hp 0 a) (h1 : HRen (tau l) m hp 8 b) (hm : m = 8 + l.length := by rfl) (hl : l.Nodup ∧ ∀ x ∈ l, 8 ≤ x ∨ (a[x]?).getD none = none := by first | decide | simp)
    (hb : b.length = l.length := by rfl) : Ent N ⟨fr, hp, nx⟩ ⟨fr', hpL a b, m⟩ := Ent.can l a b m hm hl hb hf h0 h1
end
section
variable {P : Program} {N id : Nat} {y : Code} {Q : Exit → ASt → Prop} {st st1 : ASt} {ops : List Oper}
theorem arun_mono {Q Q' : ASt → Prop} (hq : ∀ s, Q s → Q' s) : ∀ {rest : List Oper} {st : ASt}, arun P N ops rest st Q → arun P N ops rest st Q'
  | [], st, h => hq _ h
  | o :: rest, st, h => by
    unfold arun at h ⊢
    split
    · rename_i hw; simp only [hw] at h
    · rename_i b hw
      simp only [hw] at h
      split
      · rename_i hb
        rw [if_pos hb] at h
        split
        · rename_i f us hc
          simp only [hc] at h
          rcases h with ⟨xs, X, h1, h2, h3, h4, h5, h6⟩ | ⟨r, h1, h2, h3, h4⟩
          · exact .inl ⟨xs, X, h1, h2, h3, h4, h5, arun_mono hq h6⟩
          · exact .inr ⟨r, h1, h2, h3, arun_mono hq h4⟩
        · rename_i hc
          simp only [hc] at h
          split
          · rename_i r hr
            simp only [hr] at h
            exact ⟨h.1, arun_mono hq h.2⟩
          · rename_i hr
            simp only [hr] at h
      · rename_i hb
        rw [if_neg hb] at h
        exact ⟨h.1, arun_mono hq h.2⟩
theorem AW.rX (l : List Nat) (k : AW P N y Q st1) (h : arun P N ops ops st (fun st' => (⟨restr st'.fr l, st'.hp, st'.nx⟩ : ASt) = st1) := by
    (simp only [go_sem, ↓reduceIte, reduceCtorEq, Nat.reduceAdd, Nat.reduceSub, Nat.reduceMul, Nat.reduceEqDiff, Nat.reduceLT, Nat.reduceLeDiff]) <;> exact rfl) : AW P N (.seq (.region id ops.toArray false) y) Q st :=
  AW.regL l (arun_mono (fun s e => by rw [e]; exact k) h)
theorem AW.rY (l : List Nat) (k : Q .normal st1) (h : arun P N ops ops st (fun st' => (⟨restr st'.fr l, st'.hp, st'.nx⟩ : ASt) = st1) := by
    (simp only [go_sem, ↓reduceIte, reduceCtorEq, Nat.reduceAdd, Nat.reduceSub, Nat.reduceMul, Nat.reduceEqDiff, Nat.reduceLT, Nat.reduceLeDiff]) <;> exact rfl) : AW P N (.region id ops.toArray false) Q st :=
  AW.regionL l (arun_mono (fun s e => by rw [e]; exact k) h)
end
theorem CallOk.icq {P : Program} {f : FuncId} {a0 a1 b1 : List (Option AObj)} {us us' : List AV} {X : AV} {hp : AHeap} {id : Nat} (h : IC P f a0 us X a1 b1) (s : List Nat)
    (hobj : HRen (sg s) a0.length hp 0 a0) (hus : WeakL us' (mapTL (sg s) us)) (hs : s.length = a0.length := by rfl) (hnd : s.Nodup := by decide) (h8 : a0.length ≤ 8 := by simp) (hk : b1.length ≤ 7 := by simp) (hla : a1.length ≤ a0.length := by simp) (hso : ∀ o ∈ a0, ∃ x, o = some x := by simp)
    (htok : tokLL a0.length us = true := by simp only [go_sem, List.length_cons, List.length_nil, Nat.reduceAdd, Nat.reduceLT, decide_true])
    (hb1 : ∀ o ∈ b1, ∃ x, o = some x ∧ x.isMut = true := by simp [AObj.isMut]) (ht1 : ∀ o ∈ a1 ++ b1, tokO (8 + b1.length) o = true := by simp [go_sem]) (htX : tokL (8 + b1.length) X = true := by simp [go_sem]) :
    CallOk P f us' hp id ⟨mapT (rho s id) X, effS (rho s id) s a1 ++ effB (rho s id) id b1⟩ := CallOk.ic h s hs hnd h8 hk hla hso hobj hus htok hb1 ht1 htX
end Go.Gm

set_option linter.unusedVariables false
set_option linter.unusedSimpArgs false
namespace Go.Gm
open Go.RowKit
theorem Mem.grow {P : Program} {G : Ghost P} {hp : AHeap} {al : Nat → Prop} {loc : Nat → Option Loc} {w w' : World} (h : Mem G hp al loc w) (hb : Below w.heap.size w w') :
    Mem G hp al loc w' ∧ Ext (mkE G.m1 hp al loc w) (mkE G.m1 hp al loc w') := by
  have x : Ext (mkE G.m1 hp al loc w) (mkE G.m1 hp al loc w') := mk_ext (fun _ h => h) (fun _ _ _ h => h) hb.size (fun b _ hc => hc) (fun b hlt _ => hb.block b hlt)
  exact ⟨h.change x (fun t o ho => .inl ⟨ho, rfl, fun l hl hlt => hb.block _ (h.lt hl hlt)⟩) h.none_ h.al_ h.inj hb.os hb.tape hb.output (fun b hb => .inl hb) (fun t l h1 h2 => .inl ⟨t, l, h1, h2, rfl⟩), x⟩
theorem ic_put1 {P : Program} {f : FuncId} {T : TypeId} {x v v' r : Value} {Z : World → Prop} (hv' : v'.oneCell' = true) (hZ : ∀ m w, TabH P m w → Z w)
    (h : ∀ (w : World) (b o : Nat), w.cell? ⟨b, o, none⟩ = some v → w.frozen? ⟨b, o, none⟩ = false → Z w →
      Calls P f #[x, .iface T (.pointer (some ⟨b, o, none⟩))] w fun e w' => e = .returned r ∧ Below w.heap.size (w.setCell ⟨b, o, none⟩ v') w') :
    IC P f [some (.row 1 true [[.val v]])] [.val x, .ifc T (.ptr 0 0 0)] (.val r) [some (.row 1 true [[.val v']])] [] := by
  intro m w loc vs hm h8 ht hM hus
  obtain ⟨l, hl, g1, g2, g3, g4, g5, g6⟩ := hM.obj 0 (.row 1 true [[.val v]]) rfl
  have hlt : l.st < l.n := by simp at g4; omega
  obtain ⟨c, e, fz, us, k1, k2, k3, k4, k5, k6⟩ := g6 hlt
  have hus' : us = [v] := by
    cases k3 with
    | cons a b => cases a; cases b; rfl
  subst hus'
  have hk1 : w.heap[l.b]? = some (.cells c e fz) := by simpa [mkE] using k1
  have hcell : w.cell? ⟨l.b, l.st, none⟩ = some v := by
    have := k5 0 v rfl
    simpa [World.cell?, hk1] using this
  have hfz : w.frozen? ⟨l.b, l.st, none⟩ = false := by
    have := k6 l.st (.inl hlt)
    obtain ⟨lo, hi⟩ := fz
    simp only [World.frozen?, hk1]
    simp only [Bool.and_eq_false_iff, decide_eq_false_iff_not]
    by_cases h1 : lo ≤ l.st
    · right; intro h2; exact this ⟨h1, h2⟩
    · left; exact h1
  have hvs : vs = [x, .iface T (.pointer (some ⟨l.b, l.st, none⟩))] := by
    cases hus with
    | cons a b =>
      cases a
      cases b with
      | cons a b =>
        cases b
        cases a with
        | ifc hp =>
          cases hp with
          | ptr ha hh =>
            have := hh l hl
            rw [this]; simp
  subst hvs
  refine (h w l.b l.st hcell hfz (hZ _ _ ht)).mono ?_
  rintro e' w' ⟨rfl, hb⟩
  have hlb : l.b < w.heap.size := (Array.getElem?_eq_some_iff.1 hk1).1
  have hset : (w.setCell ⟨l.b, l.st, none⟩ v').heap[l.b]? = some (.cells (c.setIfInBounds l.st v') e fz) := by
    simp [World.setCell, Array.getElem?_modify, hk1]
  obtain ⟨hM1, x1⟩ := hM.write (t := 0) (ob := .row 1 true [[.val v]]) (ob' := .row 1 true [[.val v']]) (l := l) rfl rfl rfl hl hlt (w' := w.setCell ⟨l.b, l.st, none⟩ v') (by simp [World.setCell])
    (fun b hb => by
      simp only [World.setCell, Array.getElem?_modify]
      rw [if_neg (fun e => hb e.symm)]) rfl rfl rfl
    (fun _ => ⟨g1, g2, by simp, by simpa using g4, g5, fun _ => ⟨c.setIfInBounds l.st v', e, fz, [v'], by simpa [mkE] using hset, by simpa using k2, .cons (.val _) .nil, by simpa using hv', fun k u hk => by
      cases k with
      | zero => simp at hk; subst hk; simp [k2, hlt]
      | succ k => simp at hk, k6⟩⟩)
  obtain ⟨hM2, x2⟩ := hM1.grow (w' := w') (by simpa [World.setCell] using hb)
  have hhp : upd (hpL [some (.row 1 true [[.val v]])] []) 0 (some (.row 1 true [[.val v']])) = hpL [some (.row 1 true [[.val v']])] [] := by
    funext t
    by_cases e0 : t = 0
    · subst e0; rfl
    · rw [upd_other _ _ e0]
      cases t with
      | zero => exact absurd rfl e0
      | succ t => simp [hpL]
  rw [hhp] at hM2
  exact ⟨r, loc, rfl, hM2, .val _⟩
end Go.Gm

set_option linter.all false
namespace Go.Proofs
open Go.RowKit Go.Extern.Stop Go.Stop Go.Extern
theorem Tryz.unpackP (t : TypeId) (p : Option Addr) (w : World) (ht : t = 88 ∨ t = 40) : (ReflectliteValue.unpack (.iface t (.pointer p))).run Tryz.prog w = .ok (.agg #[.pointer (some ⟨2, t, none⟩), .pointer (some ⟨w.heap.size, 0, none⟩), .int .u64 150]) (w.alloc (.cells #[.pointer p] t (0, 0))) := by
  rcases ht with rfl | rfl <;> kernel_rfl
theorem Tryz.unpackN (n : Int) (w : World) : (ReflectliteValue.unpack (.iface 35 (.int .i64 n))).run Tryz.prog w = .ok (.agg #[.pointer (some ⟨2, 35, none⟩), .pointer (some ⟨w.heap.size, 0, none⟩), .int .u64 130]) (w.alloc (.cells #[.int .i64 n] 35 (0, 0))) := by kernel_rfl
def tyOf := (ReflectliteValue.methodAny (ReflectliteValue.valueError "reflectlite.Value.Type" 0) fun t _ _ _ => ReflectliteType.toType t)
theorem Tryz.typeV (t : TypeId) (a : Addr) (w : World) (ht : t = 88 ∨ t = 40) : (tyOf #[.agg #[.pointer (some ⟨2, t, none⟩), .pointer (some a), .int .u64 150]]).run Tryz.prog w = .ok (.iface 137 (.agg #[.pointer (some ⟨2, t, none⟩)])) w := by
  rcases ht with rfl | rfl <;> kernel_rfl
theorem Tryz.mKind (v : Value) (w : World) : (Go.method 390 137 (.agg #[v]) "Kind").run Tryz.prog w = .ok (195, v) w := by kernel_rfl
theorem Tryz.mElem (v : Value) (w : World) : (Go.method 390 137 v "Elem").run Tryz.prog w = .ok (207, v) w := by kernel_rfl
theorem Tryz.mImpl (v : Value) (w : World) : (Go.method 390 137 v "Implements").run Tryz.prog w = .ok (208, v) w := by kernel_rfl
theorem Tryz.mAsgn (v : Value) (w : World) : (Go.method 390 137 v "AssignableTo").run Tryz.prog w = .ok (205, v) w := by kernel_rfl
theorem Tryz.mUnw (v : Value) (w : World) : (Go.method 390 38 v "Unwrap").run Tryz.prog w = .ok (200, v) w := by kernel_rfl
def kindM := ReflectliteType.abiMethod fun t => do pure (.int .u8 (← Rtype.kind t))
theorem Tryz.kindP (t : TypeId) (w : World) (ht : t = 88 ∨ t = 40) : (kindM #[.pointer (some ⟨2, t, none⟩)]).run Tryz.prog w = .ok (.int .u8 22) w := by
  rcases ht with rfl | rfl <;> kernel_rfl
theorem Tryz.kindN (w : World) : (kindM #[.pointer (some ⟨2, 35, none⟩)]).run Tryz.prog w = .ok (.int .u8 2) w := by kernel_rfl
def elemM := ReflectliteType.method ReflectliteType.elem
theorem Tryz.elemN (w : World) : (elemM #[.agg #[.pointer (some ⟨2, 88, none⟩)]]).run Tryz.prog w = .ok (.iface 137 (.agg #[.pointer (some ⟨2, 35, none⟩)])) w := by kernel_rfl
def implM := ReflectliteType.relation "Implements" ReflectliteType.implements_
theorem Tryz.implN (w : World) : (implM #[.agg #[.pointer (some ⟨2, 35, none⟩)], .iface 137 (.agg #[.pointer (some ⟨2, 28, none⟩)])]).run Tryz.prog w = .ok (.bool true) w := by kernel_rfl
def asgnM := ReflectliteType.relation "AssignableTo" ReflectliteType.assignableTo
theorem Tryz.asgnNN (w : World) : (asgnM #[.agg #[.pointer (some ⟨2, 35, none⟩)], .iface 137 (.agg #[.pointer (some ⟨2, 35, none⟩)])]).run Tryz.prog w = .ok (.bool true) w := by kernel_rfl
theorem Tryz.asgnSN (w : World) : (asgnM #[.agg #[.pointer (some ⟨2, 38, none⟩)], .iface 137 (.agg #[.pointer (some ⟨2, 35, none⟩)])]).run Tryz.prog w = .ok (.bool false) w := by kernel_rfl
theorem Tryz.tyofN (v : Value) (w : World) : (ReflectliteType.typeOf #[.iface 35 v]).run Tryz.prog w = .ok (.iface 137 (.agg #[.pointer (some ⟨2, 35, none⟩)])) w := by kernel_rfl
theorem Tryz.tyofS (v : Value) (w : World) : (ReflectliteType.typeOf #[.iface 38 v]).run Tryz.prog w = .ok (.iface 137 (.agg #[.pointer (some ⟨2, 38, none⟩)])) w := by kernel_rfl
def isNilM := ReflectliteValue.method (ReflectliteValue.valueError "reflectlite.Value.IsNil" 0) ReflectliteValue.isNil
theorem Tryz.parts150 (t : TypeId) (a : Addr) (w : World) (ht : t = 88 ∨ t = 40) : (ReflectliteValue.parts (.agg #[.pointer (some ⟨2, t, none⟩), .pointer (some a), .int .u64 150])).run Tryz.prog w = .ok (some (t, a, 150)) w := by
  rcases ht with rfl | rfl <;> kernel_rfl
theorem Tryz.partsN (a : Addr) (f : Nat) (w : World) (hf : f = 130 ∨ f = 386) : (ReflectliteValue.parts (.agg #[.pointer (some ⟨2, 35, none⟩), .pointer (some a), .int .u64 f])).run Tryz.prog w = .ok (some (35, a, f)) w := by
  rcases hf with rfl | rfl <;> kernel_rfl
theorem Tryz.isAggP (t : TypeId) (ht : t = 88 ∨ t = 40 ∨ t = 35) (w : World) : (isAgg t).run Tryz.prog w = .ok false w := by
  rcases ht with rfl | rfl | rfl <;> kernel_rfl
theorem Tryz.sizeN (w : World) : (sizeOf 35).run Tryz.prog w = .ok 1 w := by kernel_rfl
theorem Tryz.elemQ (t : TypeId) (w : World) (ht : t = 88 ∨ t = 40) : (Rtype.elem? t).run Tryz.prog w = .ok (some (if t = 88 then 35 else 38)) w := by
  rcases ht with rfl | rfl <;> kernel_rfl
end Go.Proofs

set_option linter.all false
namespace Go.Proofs
open Go.RowKit Go.Extern.Stop Go.Stop Go.Extern
theorem method1 (z : Sem Value) (f : TypeId → Addr → Nat → Nat → Sem Value) (v : Value) : ReflectliteValue.method z f #[v] = (do match ← ReflectliteValue.parts v with | none => z | some (t, a, fl) => f t a fl (fl % 32)) := rfl
theorem set2 (v x : Value) : ReflectliteValue.set #[v, x] = (do
    let (some (dst, a, fl), some (src, b, _)) := (← ReflectliteValue.parts v, ← ReflectliteValue.parts x)
      | unsupported (.noEntry "extern/(internal/reflectlite.Value).Set.zeroValue")
    if fl / ReflectliteValue.flagAddr % 2 == 0 then unsupported (.noEntry "extern/(internal/reflectlite.Value).Set.unaddressable")
    let val ← loadVar src b
    if ← Rtype.directlyAssignable dst src then storeVar dst a val
    else if ← Rtype.implements dst src then
      if (← Rtype.kind src) == 20 then
        match val with
        | .nilIface => unsupported (.noEntry "extern/reflectlite: a nil value of one interface type handed on as a value of another")
        | _ => storeVar dst a val
      else storeVar dst a (.iface src val)
    else panicString ("reflectlite.Set: value of type " ++ (← Rtype.spelt src) ++ " is not assignable to type " ++ (← Rtype.spelt dst))
    pure (.tuple #[])) := rfl
theorem Tryz.loadP (t : TypeId) (a : Addr) (v : Value) (w : World) (ht : t = 88 ∨ t = 40 ∨ t = 35) (h : w.cell? a = some v) : (loadVar t a).run Tryz.prog w = .ok v w := by
  simp [loadVar, Tryz.isAggP t ht w, load, Sem.run, h]
theorem Tryz.isNilP (t : TypeId) (a p : Addr) (w : World) (ht : t = 88 ∨ t = 40) (h : w.cell? a = some (.pointer (some p))) : (isNilM #[.agg #[.pointer (some ⟨2, t, none⟩), .pointer (some a), .int .u64 150]]).run Tryz.prog w = .ok (.bool false) w := by
  have h1 := Tryz.parts150 t a w ht
  have h2 := Tryz.loadP t a _ w (by rcases ht with rfl | rfl <;> simp) h
  simp [isNilM, method1, h1, ReflectliteValue.isNil, h2]
def velemM := ReflectliteValue.method (ReflectliteValue.valueError "reflectlite.Value.Elem" 0) ReflectliteValue.elem
theorem Tryz.velemN (a p : Addr) (w : World) (h : w.cell? a = some (.pointer (some p))) : (velemM #[.agg #[.pointer (some ⟨2, 88, none⟩), .pointer (some a), .int .u64 150]]).run Tryz.prog w = .ok (.agg #[.pointer (some ⟨2, 35, none⟩), .pointer (some p), .int .u64 386]) w := by
  have h1 := Tryz.parts150 88 a w (.inl rfl)
  have h2 := Tryz.loadP 88 a _ w (by simp) h
  have h3 := Tryz.elemQ 88 w (.inl rfl)
  have h4 : (ReflectliteValue.mk 35 p ReflectliteValue.flagAddr).run Tryz.prog w = .ok (.agg #[.pointer (some ⟨2, 35, none⟩), .pointer (some p), .int .u64 386]) w := by kernel_rfl
  simp [velemM, method1, h1, ReflectliteValue.elem, h2, h3, h4]
theorem Tryz.setN (a p : Addr) (n n0 : Int) (w : World) (h : w.cell? a = some (.int .i64 n)) (h0 : w.cell? p = some (.int .i64 n0)) (hz : w.frozen? p = false) :
    (ReflectliteValue.set #[.agg #[.pointer (some ⟨2, 35, none⟩), .pointer (some p), .int .u64 386], .agg #[.pointer (some ⟨2, 35, none⟩), .pointer (some a), .int .u64 130]]).run Tryz.prog w = .ok (.tuple #[]) (w.setCell p (.int .i64 n)) := by
  have h1 : (ReflectliteValue.parts (.agg #[.pointer (some ⟨2, 35, none⟩), .pointer (some p), .int .u64 386])).run Tryz.prog w = .ok (some (35, p, 386)) w := Tryz.partsN p 386 w (.inr rfl)
  have h2 : (ReflectliteValue.parts (.agg #[.pointer (some ⟨2, 35, none⟩), .pointer (some a), .int .u64 130])).run Tryz.prog w = .ok (some (35, a, 130)) w := Tryz.partsN a 130 w (.inl rfl)
  have h3 := Tryz.loadP 35 a _ w (by simp) h
  have h4 : (Rtype.directlyAssignable 35 35).run Tryz.prog w = .ok true w := by kernel_rfl
  have h5 : (storeVar 35 p (.int .i64 n)).run Tryz.prog w = .ok () (w.setCell p (.int .i64 n)) := by
    simp [storeVar, Tryz.sizeN, Value.cells, storeCells, store, Sem.run, h0, hz, Addr.add_zero']
  simp [set2, h1, h2, h3, h4, h5, ReflectliteValue.flagAddr]
end Go.Proofs

set_option linter.all false
namespace Go.Proofs
open Go.RowKit Go.Extern.Stop Go.Stop Go.Extern
theorem lt_of_cell {w : World} {a : Addr} {v : Value} (h : w.cell? a = some v) : a.block < w.heap.size := by
  unfold World.cell? at h
  cases e : w.heap[a.block]? with
  | none => rw [e] at h; cases h
  | some o => exact (Array.getElem?_eq_some_iff.1 e).1
theorem heap_al {w : World} {b : Nat} (o : Obj) (h : b < w.heap.size) : (w.alloc o).heap[b]? = w.heap[b]? := by
  show (w.heap.push o)[b]? = _
  rw [Array.getElem?_push_lt h, Array.getElem?_eq_getElem h]
theorem size_al {w : World} (o : Obj) : (w.alloc o).heap.size = w.heap.size + 1 := by
  show (w.heap.push o).size = _
  simp
theorem cell_al {w : World} {a : Addr} {v : Value} (o : Obj) (h : w.cell? a = some v) : (w.alloc o).cell? a = some v := by
  have hl := lt_of_cell h
  unfold World.cell? at h ⊢
  rw [heap_al o hl]; exact h
theorem frozen_al {w : World} {a : Addr} (o : Obj) (hl : a.block < w.heap.size) (h : w.frozen? a = false) : (w.alloc o).frozen? a = false := by
  unfold World.frozen? at h ⊢
  rw [heap_al o hl]; exact h
theorem below_set {n : Nat} {w w' : World} {a : Addr} {v : Value} (h : Below n w w') (hl : a.block < n) : Below n (w.setCell a v) (w'.setCell a v) := by
  refine ⟨h.os, h.tape, h.output, by simpa [World.setCell] using h.size, fun b hb => ?_⟩
  have := h.block b hb
  simp only [World.setCell, Array.getElem?_modify, this]
theorem run_eql_nil {P : Program} {ti : TypeId} {ms : Array (String × TypeId)} (t : TypeId) (v : Value) (hi : P.underlying ti = some (.interface ms)) (w : World) :
    (binOp .eql ti (.iface t v) .nilIface).run P w = .ok (.bool false) w := by
  have h : ∀ d : Nat, (Op.equalIn (d + 1) ti (.iface t v) .nilIface).run P w = .ok false w := fun d => by simp [Op.equalIn, run_underlying hi]
  simp only [binOp]
  simp [Op.equal, Op.maxDepth, h 9999]
set_option maxHeartbeats 1000000 in
set_option maxRecDepth 100000 in
theorem as_no (b o : Nat) (n n0 : Int) (w : World) (hc : w.cell? ⟨b, o, none⟩ = some (.int .i64 n0)) (hz : w.frozen? ⟨b, o, none⟩ = false) (hE : w.cell? ⟨0, 0, none⟩ = some (.iface 137 (.agg #[.pointer (some ⟨2, 28, none⟩)]))) :
    Calls Tryz.prog 12 #[.iface 35 (.int .i64 n), .iface 88 (.pointer (some ⟨b, o, none⟩))] w fun e w' => e = .returned (.bool true) ∧ Below w.heap.size (w.setCell ⟨b, o, none⟩ (.int .i64 n)) w' := by
  have q1 := fun w => run_eql_nil (P := Tryz.prog) 35 (.int .i64 n) Tryz.underlying28 w
  have q2 := fun w => run_eql_nil (P := Tryz.prog) 88 (.pointer (some ⟨b, o, none⟩)) Tryz.underlying20 w
  have h39 : ∀ v w, (callFunc 39 #[v]).run Tryz.prog w = ((ReflectliteValue.unpack v).run Tryz.prog w).andThen fun v w' => .ok (.value v) w' := fun v w => @run_callFunc_extern Tryz.prog 39 _ (fun args => Extern.ReflectliteValue.unpack (args.getD 0 (.tuple #[]))) Tryz.func39 (by kernel_rfl) (by kernel_rfl) (by kernel_rfl) (by kernel_rfl) #[v] w
  have h40 := @run_callFunc_extern Tryz.prog 40 _ tyOf Tryz.func40 (by kernel_rfl) (by kernel_rfl) (by kernel_rfl) (by kernel_rfl)
  have h41 := @run_callFunc_extern Tryz.prog 41 _ isNilM Tryz.func41 (by kernel_rfl) (by kernel_rfl) (by kernel_rfl) (by kernel_rfl)
  have h195 := @run_callFunc_extern Tryz.prog 195 _ kindM Tryz.func195 (by kernel_rfl) (by kernel_rfl) (by kernel_rfl) (by kernel_rfl)
  have h207 := @run_callFunc_extern Tryz.prog 207 _ elemM Tryz.func207 (by kernel_rfl) (by kernel_rfl) (by kernel_rfl) (by kernel_rfl)
  have h208 := @run_callFunc_extern Tryz.prog 208 _ implM Tryz.func208 (by kernel_rfl) (by kernel_rfl) (by kernel_rfl) (by kernel_rfl)
  have h205 := @run_callFunc_extern Tryz.prog 205 _ asgnM Tryz.func205 (by kernel_rfl) (by kernel_rfl) (by kernel_rfl) (by kernel_rfl)
  have h69 := @run_callFunc_extern Tryz.prog 69 _ ReflectliteType.typeOf Tryz.func69 (by kernel_rfl) (by kernel_rfl) (by kernel_rfl) (by kernel_rfl)
  have h70 := @run_callFunc_extern Tryz.prog 70 _ velemM Tryz.func70 (by kernel_rfl) (by kernel_rfl) (by kernel_rfl) (by kernel_rfl)
  have h71 := @run_callFunc_extern Tryz.prog 71 _ ReflectliteValue.set Tryz.func71 (by kernel_rfl) (by kernel_rfl) (by kernel_rfl) (by kernel_rfl)
  have u88 := fun w => Tryz.unpackP 88 (some ⟨b, o, none⟩) w (.inl rfl)
  have t88 := fun a w => Tryz.typeV 88 a w (.inl rfl)
  have mK := Tryz.mKind
  have mE := Tryz.mElem
  have mI := Tryz.mImpl
  have mA := Tryz.mAsgn
  have kP := fun w => Tryz.kindP 88 w (.inl rfl)
  have kN := Tryz.kindN
  have eN := Tryz.elemN
  have iN := Tryz.implN
  have tN := Tryz.tyofN
  have aNN := Tryz.asgnNN
  have uN := Tryz.unpackN
  have hlt : b < w.heap.size := lt_of_cell hc
  have c4 : ∀ o1 o2 o3 o4, ((((w.alloc o1).alloc o2).alloc o3).alloc o4).cell? ⟨b, o, none⟩ = some (.int .i64 n0) := fun _ _ _ _ => cell_al _ (cell_al _ (cell_al _ (cell_al _ hc)))
  have f4 : ∀ o1 o2 o3 o4, ((((w.alloc o1).alloc o2).alloc o3).alloc o4).frozen? ⟨b, o, none⟩ = false := fun _ _ _ _ => frozen_al _ (by simp only [size_al]; omega) (frozen_al _ (by simp only [size_al]; omega) (frozen_al _ (by simp only [size_al]; omega) (frozen_al _ hlt hz)))
  have e2 : ∀ o1 o2, ((w.alloc o1).alloc o2).cell? ⟨0, 0, none⟩ = some (.iface 137 (.agg #[.pointer (some ⟨2, 28, none⟩)])) := fun o1 o2 => cell_al o2 (cell_al o1 hE)
  go_enter Tryz.func12, Tryz.ntmps12
  go_wp2
  rw [Tryz.isNilP 88 _ ⟨b, o, none⟩ _ (.inl rfl) (by simp)]
  simp only [Result.andThen]
  rw [Oper.upon_value]
  go_wp2
  refine wp_loop_rounds 1 ?_
  rw [rounds_succ]
  go_wp2
  rw [Tryz.velemN _ ⟨b, o, none⟩ _ (cell_al _ (cell_al _ (by simp)))]
  simp only [Result.andThen]
  rw [Oper.upon_value]
  go_wp2
  rw [Tryz.setN _ ⟨b, o, none⟩ n n0 _ ?h1 (c4 _ _ _ _) (f4 _ _ _ _)]
  case h1 =>
    show _ = (#[Value.int .i64 n] : Array Value)[0]?
    exact World.cell?_alloc_at _ _ _ _ (by simp only [size_al])
  simp only [Result.andThen]
  rw [Oper.upon_value]
  go_wp2
  go_ret
  exact ⟨rfl, below_set ((((Below.refl _ w).alloc (Nat.le_refl _) _).alloc (by simp only [size_al]; omega) _ |>.alloc (by simp only [size_al]; omega) _).alloc (by simp only [size_al]; omega) _) hlt⟩
end Go.Proofs

set_option linter.all false
namespace Go.Proofs
open Go.RowKit Go.Extern.Stop Go.Stop Go.Extern
theorem Tryz.noAs (v : Value) (xT : TypeId) (w : World) : (Instr.typeAssert (.iface 38 v) xT 142 true).run Tryz.prog w = .ok (.tuple #[.nilIface, .bool false]) w := run_typeAssert_lacksB Tryz.underlying142 (by kernel_rfl) (by kernel_rfl) v xT w
theorem Tryz.hasUnw (v : Value) (xT : TypeId) (w : World) : (Instr.typeAssert (.iface 38 v) xT 145 true).run Tryz.prog w = .ok (.tuple #[.iface 38 v, .bool true]) w := run_typeAssert_hasB Tryz.underlying145 (by kernel_rfl) v xT w
set_option maxHeartbeats 2000000 in
set_option maxRecDepth 100000 in
theorem as_slip_no (b o : Nat) (s : ByteArray) (k n n0 : Int) (w : World) (hc : w.cell? ⟨b, o, none⟩ = some (.int .i64 n0)) (hz : w.frozen? ⟨b, o, none⟩ = false) (hE : w.cell? ⟨0, 0, none⟩ = some (.iface 137 (.agg #[.pointer (some ⟨2, 28, none⟩)]))) :
    Calls Tryz.prog 12 #[.iface 38 (.agg #[.string s, .int .i64 k, .iface 35 (.int .i64 n)]), .iface 88 (.pointer (some ⟨b, o, none⟩))] w fun e w' => e = .returned (.bool true) ∧ Below w.heap.size (w.setCell ⟨b, o, none⟩ (.int .i64 n)) w' := by
  have q1 := fun w => run_eql_nil (P := Tryz.prog) 35 (.int .i64 n) Tryz.underlying28 w
  have q3 := fun w => run_eql_nil (P := Tryz.prog) 38 (.agg #[.string s, .int .i64 k, .iface 35 (.int .i64 n)]) Tryz.underlying28 w
  have q2 := fun w => run_eql_nil (P := Tryz.prog) 88 (.pointer (some ⟨b, o, none⟩)) Tryz.underlying20 w
  have h39 : ∀ v w, (callFunc 39 #[v]).run Tryz.prog w = ((ReflectliteValue.unpack v).run Tryz.prog w).andThen fun v w' => .ok (.value v) w' := fun v w => @run_callFunc_extern Tryz.prog 39 _ (fun args => Extern.ReflectliteValue.unpack (args.getD 0 (.tuple #[]))) Tryz.func39 (by kernel_rfl) (by kernel_rfl) (by kernel_rfl) (by kernel_rfl) #[v] w
  have h40 := @run_callFunc_extern Tryz.prog 40 _ tyOf Tryz.func40 (by kernel_rfl) (by kernel_rfl) (by kernel_rfl) (by kernel_rfl)
  have h41 := @run_callFunc_extern Tryz.prog 41 _ isNilM Tryz.func41 (by kernel_rfl) (by kernel_rfl) (by kernel_rfl) (by kernel_rfl)
  have h195 := @run_callFunc_extern Tryz.prog 195 _ kindM Tryz.func195 (by kernel_rfl) (by kernel_rfl) (by kernel_rfl) (by kernel_rfl)
  have h207 := @run_callFunc_extern Tryz.prog 207 _ elemM Tryz.func207 (by kernel_rfl) (by kernel_rfl) (by kernel_rfl) (by kernel_rfl)
  have h208 := @run_callFunc_extern Tryz.prog 208 _ implM Tryz.func208 (by kernel_rfl) (by kernel_rfl) (by kernel_rfl) (by kernel_rfl)
  have h205 := @run_callFunc_extern Tryz.prog 205 _ asgnM Tryz.func205 (by kernel_rfl) (by kernel_rfl) (by kernel_rfl) (by kernel_rfl)
  have h69 := @run_callFunc_extern Tryz.prog 69 _ ReflectliteType.typeOf Tryz.func69 (by kernel_rfl) (by kernel_rfl) (by kernel_rfl) (by kernel_rfl)
  have h70 := @run_callFunc_extern Tryz.prog 70 _ velemM Tryz.func70 (by kernel_rfl) (by kernel_rfl) (by kernel_rfl) (by kernel_rfl)
  have h71 := @run_callFunc_extern Tryz.prog 71 _ ReflectliteValue.set Tryz.func71 (by kernel_rfl) (by kernel_rfl) (by kernel_rfl) (by kernel_rfl)
  have u88 := fun w => Tryz.unpackP 88 (some ⟨b, o, none⟩) w (.inl rfl)
  have t88 := fun a w => Tryz.typeV 88 a w (.inl rfl)
  have mK := Tryz.mKind
  have mE := Tryz.mElem
  have mI := Tryz.mImpl
  have mA := Tryz.mAsgn
  have mU := Tryz.mUnw
  have kP := fun w => Tryz.kindP 88 w (.inl rfl)
  have kN := Tryz.kindN
  have eN := Tryz.elemN
  have iN := Tryz.implN
  have tN := Tryz.tyofN
  have tS := Tryz.tyofS
  have aNN := Tryz.asgnNN
  have aSN := Tryz.asgnSN
  have uN := Tryz.unpackN
  have nA := Tryz.noAs
  have hU := Tryz.hasUnw
  have hlt : b < w.heap.size := lt_of_cell hc
  have c5 : ∀ o1 o2 o3 o4 o5, (((((w.alloc o1).alloc o2).alloc o3).alloc o4).alloc o5).cell? ⟨b, o, none⟩ = some (.int .i64 n0) := fun _ _ _ _ _ => cell_al _ (cell_al _ (cell_al _ (cell_al _ (cell_al _ hc))))
  have f5 : ∀ o1 o2 o3 o4 o5, (((((w.alloc o1).alloc o2).alloc o3).alloc o4).alloc o5).frozen? ⟨b, o, none⟩ = false := fun _ _ _ _ _ => frozen_al _ (by simp only [size_al]; omega) (frozen_al _ (by simp only [size_al]; omega) (frozen_al _ (by simp only [size_al]; omega) (frozen_al _ (by simp only [size_al]; omega) (frozen_al _ hlt hz))))
  have e2 : ∀ o1 o2, ((w.alloc o1).alloc o2).cell? ⟨0, 0, none⟩ = some (.iface 137 (.agg #[.pointer (some ⟨2, 28, none⟩)])) := fun o1 o2 => cell_al o2 (cell_al o1 hE)
  go_enter Tryz.func12, Tryz.ntmps12
  go_wp2
  rw [Tryz.isNilP 88 _ ⟨b, o, none⟩ _ (.inl rfl) (by simp)]
  simp only [Result.andThen]
  rw [Oper.upon_value]
  go_wp2
  refine wp_loop_rounds 2 ?_
  rw [rounds_succ]
  go_wp2
  rw [rounds_succ]
  go_wp2
  rw [Tryz.velemN _ ⟨b, o, none⟩ _ (cell_al _ (cell_al _ (cell_al _ (by simp))))]
  simp only [Result.andThen]
  rw [Oper.upon_value]
  go_wp2
  rw [Tryz.setN _ ⟨b, o, none⟩ n n0 _ ?h1 (c5 _ _ _ _ _) (f5 _ _ _ _ _)]
  case h1 =>
    show _ = (#[Value.int .i64 n] : Array Value)[0]?
    exact World.cell?_alloc_at _ _ _ _ (by simp only [size_al])
  simp only [Result.andThen]
  rw [Oper.upon_value]
  go_wp2
  go_ret
  exact ⟨rfl, below_set (((((Below.refl _ w).alloc (Nat.le_refl _) _).alloc (by simp only [size_al]; omega) _ |>.alloc (by simp only [size_al]; omega) _).alloc (by simp only [size_al]; omega) _).alloc (by simp only [size_al]; omega) _) hlt⟩
end Go.Proofs

set_option linter.all false
namespace Go.Proofs
open Go.RowKit Go.Extern.Stop Go.Stop Go.Extern
set_option maxHeartbeats 1000000 in
set_option maxRecDepth 100000 in
theorem as_nil (v : Value) (w : World) :
    Calls Tryz.prog 12 #[.nilIface, v] w fun e w' => e = .returned (.bool false) ∧ w' = w := by
  have hn : ∀ w, (binOp .eql 28 .nilIface .nilIface).run Tryz.prog w = .ok (.bool true) w := fun w => by
    have h : ∀ d : Nat, (Op.equalIn (d + 1) 28 .nilIface .nilIface).run Tryz.prog w = .ok true w := fun d => by simp [Op.equalIn, run_underlying Tryz.underlying28]
    simp only [binOp]
    simp [Op.equal, Op.maxDepth, h 9999]
  go_enter Tryz.func12, Tryz.ntmps12
  go_wp2
  go_ret
  exact ⟨rfl, rfl⟩
end Go.Proofs

set_option linter.all false
namespace Go.Gm
theorem ic_same {P : Program} {f : FuncId} {x r : Value} {u : AV} {o : Option AObj} (h : ∀ (v : Value) (w : World), Calls P f #[x, v] w fun e w' => e = .returned r ∧ w' = w) :
    IC P f [o] [.val x, u] (.val r) [o] [] := by
  intro m w loc vs hm h8 ht hM hus
  cases hus with
  | cons a b =>
    cases a
    cases b with
    | cons a b =>
      cases b
      refine (h _ w).mono ?_
      rintro e' w' ⟨rfl, rfl⟩
      exact ⟨r, loc, rfl, hM, .val _⟩
end Go.Gm
namespace Go.Proofs.Yt
open Go.Gm
namespace Au
noncomputable def f12asN (e : Er) (n0 : Int) : Option (Bool × Int) := match e with
  | .nil => some (false, n0)
  | .no n => some (true, n)
  | .slip _ _ (.no n) => some (true, n)
  | _ => none
def ErrT (w : World) : Prop := w.cell? ⟨0, 0, none⟩ = some (.iface 137 (.agg #[.pointer (some ⟨2, 28, none⟩)]))
theorem errT_is (m : Nat → Prop) (w : World) (h : TabH Tryz.prog m w) : ErrT w := by
  have h1 : (Tryz.prog.globalNamed "internal/strconv.uint64pow10" == some 0) = false := by kernel_rfl
  have h2 : (Tryz.prog.globalNamed "internal/bytealg.MaxLen" == some 0) = false := by kernel_rfl
  have h3 : (Tryz.prog.globalNamed "errors.errorType" == some 0) = true := by kernel_rfl
  have ht : tabs Tryz.prog 0 = some (fun cs => cs[0]? = errT Tryz.prog ∧ (errT Tryz.prog).isSome = true) := by
    simp only [tabs, libTabs, List.find?_cons, h1, h2, h3, Option.map_some]
  obtain ⟨_, _, cs, t, fz, h4, h5, _⟩ := h 0 _ ht
  have he : errT Tryz.prog = some (.iface 137 (.agg #[.pointer (some ⟨2, 28, none⟩)])) := by kernel_rfl
  rw [he] at h5
  unfold ErrT World.cell?
  simp only [h4]
  simpa using h5
theorem ok12asN (a0 : Er) (a1 : Int) (r : Bool × Int) (h : f12asN a0 a1 = some r) : IC Tryz.prog 12 [some (.row 1 true [[.val (.int .i64 a1)]])] [.val (erV a0), .ifc 88 (.ptr 0 0 0)] (.val (.bool r.1)) [some (.row 1 true [[.val (.int .i64 r.2)]])] [] := by
  unfold f12asN at h
  split at h
  · cases h
    exact ic_same fun v w => as_nil v w
  · cases h
    exact ic_put1 (Z := ErrT) rfl errT_is fun w b o hc hz hE => as_no b o _ a1 w hc hz hE
  · cases h
    exact ic_put1 (Z := ErrT) rfl errT_is fun w b o hc hz hE => as_slip_no b o _ _ _ a1 w hc hz hE
  · cases h
end Au
end Go.Proofs.Yt

set_option linter.all false
set_option maxRecDepth 8000
set_option maxHeartbeats 1000000
namespace Go.Proofs.Yt
open Go.Gm
namespace Au
/- by hand -/
end Au
end Go.Proofs.Yt

set_option linter.all false
set_option maxRecDepth 8000
set_option maxHeartbeats 1000000
namespace Go.Proofs.Yt
open Go.Gm
namespace Au
noncomputable def f10 (a0 : Er) : Option Int := (if (Er.isNil a0) = true then some 0 else ((f12asN a0 0).bind fun x3 => (if x3.1 = true then some x3.2 else some (-1))))
theorem ok10 (a0 : Er) (r : Int) (h : f10 a0 = some r) : PC Tryz.prog 10 [.val (erV a0)] (.val (.int .i64 r)) := by
 rw [f10] at h
 refine pc_of8 (N := 11) (rs := [.tmp 2]) Tryz.func10 rfl rfl rfl (Nat.le_of_ble_eq_true rfl) ?_
 refine AW.rX [0] ?_
 refine AW.seq ?_
 refine AW.regL [0, 5] ?_
 generalize hK : AW Tryz.prog _ _ _ = K
 simp only [go_sem, ↓reduceIte, reduceCtorEq, Nat.reduceAdd, Nat.reduceSub, Nat.reduceMul, Nat.reduceEqDiff, Nat.reduceLT, Nat.reduceLeDiff, er_eql]
 subst hK
 by_cases c2 : (Er.isNil a0) = true
 ·rw [if_pos c2] at h
  refine AW.ifBT rfl c2 ?_
  refine AW.regL [2] ?_
  generalize hK : AW Tryz.prog _ _ _ = K
  simp only [go_sem, ↓reduceIte, reduceCtorEq, Nat.reduceAdd, Nat.reduceSub, Nat.reduceMul, Nat.reduceEqDiff, Nat.reduceLT, Nat.reduceLeDiff, c2]
  subst hK
  refine AW.ret ?_
  refine thenA_r ?_
  obtain rfl := Option.some.inj h
  (simp only [go_sem, ↓reduceIte, reduceCtorEq, Nat.reduceAdd, Nat.reduceSub, Nat.reduceMul, Nat.reduceEqDiff, Nat.reduceLT, Nat.reduceLeDiff, c2, finA] <;> try simp)
 ·rw [if_neg c2] at h
  rw [Bool.not_eq_true] at c2
  refine AW.ifBF rfl c2 ?_
  refine AW.skip ?_
  refine thenA_n ?_
  refine AW.regL [0, 3] ?_
  generalize hK : AW Tryz.prog _ _ _ = K
  simp only [go_sem, ↓reduceIte, reduceCtorEq, Nat.reduceAdd, Nat.reduceSub, Nat.reduceMul, Nat.reduceEqDiff, Nat.reduceLT, Nat.reduceLeDiff, c2]
  subst hK
  refine AW.seq ?_
  obtain ⟨x3, hx3, h⟩ := Option.bind_eq_some_iff.1 h
  refine AW.regL [3, 9] ?_
  generalize hK : AW Tryz.prog _ _ _ = K
  simp only [go_sem, ↓reduceIte, reduceCtorEq, Nat.reduceAdd, Nat.reduceSub, Nat.reduceMul, Nat.reduceEqDiff, Nat.reduceLT, Nat.reduceLeDiff, c2]
  refine arC.ok (CallOk.icq (us' := _) (ok12asN a0 0 x3 hx3) [32] (.cons (.eq (by simp only [go_sem]) (by first | rfl | simp [upd_ap, hpL_ap, sg_ap])) (.nil _)) (by simp only [mapTL_cons, mapTL_nil, mapT_ptr, mapT_own, mapT_val, mapT_sl, mapT_agg, mapT_ip, mapT_clo, mapT_ifc, sg_ap, List.getD_cons_zero, List.getD_cons_succ]; exact (.cons (.of rfl) (.cons (.of rfl) .nil)))) Tryz.call12 ?_
  simp only [go_sem, ↓reduceIte, reduceCtorEq, Nat.reduceAdd, Nat.reduceSub, Nat.reduceMul, Nat.reduceEqDiff, Nat.reduceLT, Nat.reduceLeDiff, c2]
  subst hK
  by_cases c4 : x3.1 = true
  ·rw [if_pos c4] at h
   refine AW.ifBF rfl (by first | (rw [c4]; rfl) | simp_all) ?_
   refine AW.skip ?_
   refine thenA_n ?_
   refine AW.regL [2] ?_
   generalize hK : AW Tryz.prog _ _ _ = K
   simp only [go_sem, ↓reduceIte, reduceCtorEq, Nat.reduceAdd, Nat.reduceSub, Nat.reduceMul, Nat.reduceEqDiff, Nat.reduceLT, Nat.reduceLeDiff, c2, c4]
   subst hK
   refine AW.ret ?_
   obtain rfl := Option.some.inj h
   (simp only [go_sem, ↓reduceIte, reduceCtorEq, Nat.reduceAdd, Nat.reduceSub, Nat.reduceMul, Nat.reduceEqDiff, Nat.reduceLT, Nat.reduceLeDiff, c2, c4, finA] <;> try simp)
  ·rw [if_neg c4] at h
   rw [Bool.not_eq_true] at c4
   refine AW.ifBT rfl (by first | (rw [c4]; rfl) | simp_all) ?_
   refine AW.regL [2] ?_
   generalize hK : AW Tryz.prog _ _ _ = K
   simp only [go_sem, ↓reduceIte, reduceCtorEq, Nat.reduceAdd, Nat.reduceSub, Nat.reduceMul, Nat.reduceEqDiff, Nat.reduceLT, Nat.reduceLeDiff, c2, c4]
   subst hK
   refine AW.ret ?_
   refine thenA_r ?_
   obtain rfl := Option.some.inj h
   (simp only [go_sem, ↓reduceIte, reduceCtorEq, Nat.reduceAdd, Nat.reduceSub, Nat.reduceMul, Nat.reduceEqDiff, Nat.reduceLT, Nat.reduceLeDiff, c2, c4, finA] <;> try simp)
end Au
end Go.Proofs.Yt

set_option linter.all false
set_option maxRecDepth 8000
set_option maxHeartbeats 1000000
namespace Go.Proofs.Yt
open Go.Gm
namespace Au
noncomputable def f148_s1 : Int × Int → Option ((Int × Int) ⊕ Int)
  | (s1_0, s1_1) => (if s1_1 < 8 then (if (s1_0.tmod 2) = 1 then some (.inl (xorV .u32 (IntKind.u32.wrap (s1_0.tdiv 2)) 3988292384, IntKind.i64.wrap (s1_1 + 1))) else some (.inl (IntKind.u32.wrap (s1_0.tdiv 2), IntKind.i64.wrap (s1_1 + 1)))) else some (.inr s1_0))
noncomputable def f148 (a0 : Int) (a1 : Int) : Option Int := ((loopO f148_s1 (xorV .u32 a0 (IntKind.u32.wrap a1), 0)).bind fun y9 => some y9)
theorem ok148 (a0 : Int) (a1 : Int) (r : Int) (h : f148 a0 a1 = some r) : PC Tryz.prog 148 [.val (.int .u32 a0), .val (.int .u8 a1)] (.val (.int .u32 r)) := by
 rw [f148] at h
 refine pc_of8 (N := 24) (rs := [.tmp 4]) Tryz.func148 rfl rfl rfl (Nat.le_of_ble_eq_true rfl) ?_
 refine AW.regL [0, 1] ?_
 generalize hK : AW Tryz.prog _ _ _ = K
 simp only [go_sem, ↓reduceIte, reduceCtorEq, Nat.reduceAdd, Nat.reduceSub, Nat.reduceMul, Nat.reduceEqDiff, Nat.reduceLT, Nat.reduceLeDiff, Nat.reduceBEq, Int.reduceAdd, Int.reduceSub, Int.reduceLT, Int.reduceLE, Int.reduceEq, Int.reduceToNat]
 subst hK
 refine AW.regL [0] ?_
 generalize hK : AW Tryz.prog _ _ _ = K
 simp only [go_sem, ↓reduceIte, reduceCtorEq, Nat.reduceAdd, Nat.reduceSub, Nat.reduceMul, Nat.reduceEqDiff, Nat.reduceLT, Nat.reduceLeDiff, Nat.reduceBEq, Int.reduceAdd, Int.reduceSub, Int.reduceLT, Int.reduceLE, Int.reduceEq, Int.reduceToNat]
 subst hK
 refine AW.seq ?_
 refine AW.regL [0, 5] ?_
 generalize hK : AW Tryz.prog _ _ _ = K
 simp only [go_sem, ↓reduceIte, reduceCtorEq, Nat.reduceAdd, Nat.reduceSub, Nat.reduceMul, Nat.reduceEqDiff, Nat.reduceLT, Nat.reduceLeDiff, Nat.reduceBEq, Int.reduceAdd, Int.reduceSub, Int.reduceLT, Int.reduceLE, Int.reduceEq, Int.reduceToNat]
 subst hK
 refine AW.block ?_
 obtain ⟨y9, hy9, h⟩ := Option.bind_eq_some_iff.1 h
 refine AW.loopO (fun s => ⟨(upd (upd anyF 0 (.val (.int .u32 s.1))) 5 (.val (.int .i64 s.2))), hpL [] [], 8⟩) (fun z e st' => e = Exit.exit 0 ∧ st' = ⟨(upd anyF 0 (.val (.int .u32 z))), hpL [] [], 8⟩) hy9 ?_ ?_ ?_
 ·exact Ent.canq [] RF.any.qv.qv (.nil _) (.nil _)
 ·clear h hy9
  rintro ⟨s1_0, s1_1⟩ x h
  rw [f148_s1] at h
  refine AW.seq ?_
  refine AW.regL [0, 5, 12] ?_
  generalize hK : AW Tryz.prog _ _ _ = K
  simp only [go_sem, ↓reduceIte, reduceCtorEq, Nat.reduceAdd, Nat.reduceSub, Nat.reduceMul, Nat.reduceEqDiff, Nat.reduceLT, Nat.reduceLeDiff, Nat.reduceBEq, Int.reduceAdd, Int.reduceSub, Int.reduceLT, Int.reduceLE, Int.reduceEq, Int.reduceToNat]
  subst hK
  by_cases c6 : s1_1 < 8
  ·rw [if_pos c6] at h
   refine AW.ifT rfl c6 ?_
   refine AW.skip ?_
   refine thenA_n ?_
   refine AW.seq ?_
   refine AW.block ?_
   refine AW.regL [0, 5, 6] ?_
   generalize hK : AW Tryz.prog _ _ _ = K
   simp only [go_sem, ↓reduceIte, reduceCtorEq, Nat.reduceAdd, Nat.reduceSub, Nat.reduceMul, Nat.reduceEqDiff, Nat.reduceLT, Nat.reduceLeDiff, Nat.reduceBEq, Int.reduceAdd, Int.reduceSub, Int.reduceLT, Int.reduceLE, Int.reduceEq, Int.reduceToNat, eq_true c6]
   subst hK
   refine AW.regL [0, 5, 6] ?_
   generalize hK : AW Tryz.prog _ _ _ = K
   simp only [go_sem, ↓reduceIte, reduceCtorEq, Nat.reduceAdd, Nat.reduceSub, Nat.reduceMul, Nat.reduceEqDiff, Nat.reduceLT, Nat.reduceLeDiff, Nat.reduceBEq, Int.reduceAdd, Int.reduceSub, Int.reduceLT, Int.reduceLE, Int.reduceEq, Int.reduceToNat, eq_true c6]
   subst hK
   refine AW.regL [0, 5, 20] ?_
   generalize hK : AW Tryz.prog _ _ _ = K
   simp only [go_sem, ↓reduceIte, reduceCtorEq, Nat.reduceAdd, Nat.reduceSub, Nat.reduceMul, Nat.reduceEqDiff, Nat.reduceLT, Nat.reduceLeDiff, Nat.reduceBEq, Int.reduceAdd, Int.reduceSub, Int.reduceLT, Int.reduceLE, Int.reduceEq, Int.reduceToNat, eq_true c6]
   subst hK
   by_cases c7 : (s1_0.tmod 2) = 1
   ·rw [if_pos c7] at h
    refine AW.ifT rfl c7 ?_
    refine AW.regionL [0, 5] ?_
    generalize hK : inBlockA _ _ Exit.normal = K
    simp only [go_sem, ↓reduceIte, reduceCtorEq, Nat.reduceAdd, Nat.reduceSub, Nat.reduceMul, Nat.reduceEqDiff, Nat.reduceLT, Nat.reduceLeDiff, Nat.reduceBEq, Int.reduceAdd, Int.reduceSub, Int.reduceLT, Int.reduceLE, Int.reduceEq, Int.reduceToNat, eq_true c6, eq_true c7]
    subst hK
    refine block_n ?_
    refine thenA_n ?_
    refine AW.regionL [0, 5] ?_
    generalize hK : thenA _ _ Exit.normal = K
    simp only [go_sem, ↓reduceIte, reduceCtorEq, Nat.reduceAdd, Nat.reduceSub, Nat.reduceMul, Nat.reduceEqDiff, Nat.reduceLT, Nat.reduceLeDiff, Nat.reduceBEq, Int.reduceAdd, Int.reduceSub, Int.reduceLT, Int.reduceLE, Int.reduceEq, Int.reduceToNat, eq_true c6, eq_true c7]
    subst hK
    refine thenA_n ?_
    refine ⟨_, (Option.some.inj h).symm, ?_⟩
    exact Ent.canq [] RF.any.qv.qv (.nil _) (.nil _)
   ·rw [if_neg c7] at h
    refine AW.ifF rfl c7 ?_
    refine AW.skip ?_
    refine block_n ?_
    refine thenA_n ?_
    refine AW.regionL [0, 5] ?_
    generalize hK : thenA _ _ Exit.normal = K
    simp only [go_sem, ↓reduceIte, reduceCtorEq, Nat.reduceAdd, Nat.reduceSub, Nat.reduceMul, Nat.reduceEqDiff, Nat.reduceLT, Nat.reduceLeDiff, Nat.reduceBEq, Int.reduceAdd, Int.reduceSub, Int.reduceLT, Int.reduceLE, Int.reduceEq, Int.reduceToNat, eq_true c6, eq_false c7]
    subst hK
    refine thenA_n ?_
    refine ⟨_, (Option.some.inj h).symm, ?_⟩
    exact Ent.canq [] RF.any.qv.qv (.nil _) (.nil _)
  ·rw [if_neg c6] at h
   refine AW.ifF rfl c6 ?_
   refine AW.exit ?_
   refine thenA_x ?_
   refine thenA_x ?_
   refine ⟨_, (Option.some.inj h).symm, _, ?_, rfl, rfl⟩
   exact Ent.canq [] RF.any.qv (.nil _) (.nil _)
 ·intro e st' hX
  try dsimp only at h
  try dsimp only at hX
  obtain ⟨rfl, rfl⟩ := hX
  refine ⟨_, Ent.refl, ?_⟩
  refine block_x ?_
  refine thenA_n ?_
  refine AW.regL [4] ?_
  generalize hK : AW Tryz.prog _ _ _ = K
  simp only [go_sem, ↓reduceIte, reduceCtorEq, Nat.reduceAdd, Nat.reduceSub, Nat.reduceMul, Nat.reduceEqDiff, Nat.reduceLT, Nat.reduceLeDiff, Nat.reduceBEq, Int.reduceAdd, Int.reduceSub, Int.reduceLT, Int.reduceLE, Int.reduceEq, Int.reduceToNat]
  subst hK
  refine AW.ret ?_
  obtain rfl := Option.some.inj h
  (simp only [go_sem, ↓reduceIte, reduceCtorEq, Nat.reduceAdd, Nat.reduceSub, Nat.reduceMul, Nat.reduceEqDiff, Nat.reduceLT, Nat.reduceLeDiff, Nat.reduceBEq, Int.reduceAdd, Int.reduceSub, Int.reduceLT, Int.reduceLE, Int.reduceEq, Int.reduceToNat, finA] <;> try simp)
end Au
end Go.Proofs.Yt

set_option linter.all false
set_option maxRecDepth 8000
set_option maxHeartbeats 1000000
namespace Go.Proofs.Yt
open Go.Gm
namespace Au
noncomputable def f127_s1 (a0 : List Int) : Int × Int → Option ((Int × Int) ⊕ Int)
  | (s1_0, s1_1) => (if s1_1 < (a0.length : Int) then ((ix a0 s1_1).bind fun x11 => ((f148 s1_0 x11).bind fun x12 => some (.inl (x12, IntKind.i64.wrap (s1_1 + 1))))) else some (.inr s1_0))
noncomputable def f127 (a0 : List Int) : Option Int := ((loopO (f127_s1 a0) (4294967295, 0)).bind fun y14 => some (IntKind.u32.wrap (4294967295 - y14)))
theorem ok127 (a0 : List Int) (r : Int) (h : f127 a0 = some r) : PC Tryz.prog 127 [.sl (List.map enc5 a0)] (.val (.int .u32 r)) := by
 rw [f127] at h
 refine pc_of8 (N := 19) (rs := [.tmp 2]) Tryz.func127 rfl rfl rfl (Nat.le_of_ble_eq_true rfl) ?_
 refine AW.rX [0] ?_
 refine AW.rX [0, 3] ?_
 refine AW.seq ?_
 refine AW.rX [0, 3, 4] ?_
 refine AW.block ?_
 obtain ⟨y14, hy14, h⟩ := Option.bind_eq_some_iff.1 h
 refine AW.loopO (fun s => ⟨(upd (upd (upd anyF 0 (.sl (List.map enc5 a0))) 3 (.val (.int .u32 s.1))) 4 (.val (.int .i64 s.2))), hpL [] [], 8⟩) (fun z e st' => e = Exit.exit 0 ∧ st' = ⟨(upd anyF 3 (.val (.int .u32 z))), hpL [] [], 8⟩) hy14 ?_ ?_ ?_
 ·exact Ent.canq [] RF.any.qv.qv.qv (.nil _) (.nil _)
 ·clear h hy14
  rintro ⟨s1_0, s1_1⟩ x h
  rw [f127_s1] at h
  refine AW.seq ?_
  refine AW.rX [0, 3, 4, 8] ?_
  by_cases c10 : s1_1 < (a0.length : Int)
  ·rw [if_pos c10] at h
   refine AW.ifT rfl c10 ?_
   refine AW.skip ?_
   refine thenA_n ?_
   refine AW.seq ?_
   refine AW.block ?_
   obtain ⟨x11, hx11, h⟩ := Option.bind_eq_some_iff.1 h
   obtain ⟨hx11a, hx11b⟩ := ix_some.1 hx11
   obtain ⟨x12, hx12, h⟩ := Option.bind_eq_some_iff.1 h
   refine AW.regionL [0, 3, 4] ?_
   generalize hK : inBlockA _ _ Exit.normal = K
   simp only [go_sem, ↓reduceIte, reduceCtorEq, Nat.reduceAdd, Nat.reduceSub, Nat.reduceMul, Nat.reduceEqDiff, Nat.reduceLT, Nat.reduceLeDiff, eq_true c10, natOf_le hx11a, hx11b]
   refine arC.of (ok148 s1_0 x11 x12 hx12) Tryz.call148 ?_
   simp only [go_sem, ↓reduceIte, reduceCtorEq, Nat.reduceAdd, Nat.reduceSub, Nat.reduceMul, Nat.reduceEqDiff, Nat.reduceLT, Nat.reduceLeDiff, eq_true c10, natOf_le hx11a, hx11b]
   subst hK
   refine block_n ?_
   refine thenA_n ?_
   refine AW.rY [0, 3, 4] ?_
   refine thenA_n ?_
   refine ⟨_, (Option.some.inj h).symm, ?_⟩
   exact Ent.canq [] RF.any.qv.qv.qv (.nil _) (.nil _)
  ·rw [if_neg c10] at h
   refine AW.ifF rfl c10 ?_
   refine AW.exit ?_
   refine thenA_x ?_
   refine thenA_x ?_
   refine ⟨_, (Option.some.inj h).symm, _, ?_, rfl, rfl⟩
   exact Ent.canq [] RF.any.qv (.nil _) (.nil _)
 ·intro e st' hX
  try dsimp only at h
  try dsimp only at hX
  obtain ⟨rfl, rfl⟩ := hX
  refine ⟨_, Ent.refl, ?_⟩
  refine block_x ?_
  refine thenA_n ?_
  refine AW.rX [2] ?_
  refine AW.ret ?_
  obtain rfl := Option.some.inj h
  (simp only [go_sem, ↓reduceIte, reduceCtorEq, Nat.reduceAdd, Nat.reduceSub, Nat.reduceMul, Nat.reduceEqDiff, Nat.reduceLT, Nat.reduceLeDiff, finA] <;> try simp)
end Au
end Go.Proofs.Yt

set_option linter.all false
set_option maxRecDepth 8000
set_option maxHeartbeats 1000000
namespace Go.Proofs.Yt
open Go.Gm
namespace Au
noncomputable def f100_s1 : Int × (List Int) × Int → Option ((Int × (List Int) × Int) ⊕ (List Int))
  | (s1_0, s1_1, s1_2) => (if s1_2 < 4 then ((appO? s1_1 [IntKind.u8.wrap (s1_0.tmod 256)]).bind fun x9 => some (.inl (IntKind.u32.wrap (s1_0.tdiv 256), x9, IntKind.i64.wrap (s1_2 + 1)))) else some (.inr s1_1))
noncomputable def f100 (a0 : List Int) : Option (List Int) := ((f127 a0).bind fun x1 => ((appO? ([] : List Int) a0).bind fun x2 => ((loopO f100_s1 (x1, x2, 0)).bind fun y11 => some y11)))
theorem ok100 (a0 : List Int) (r : (List Int)) (h : f100 a0 = some r) : PC Tryz.prog 100 [.sl (List.map enc5 a0)] (.fr 1 (List.map enc5 r)) := by
 rw [f100] at h
 refine pc_of8 (N := 24) (rs := [.tmp 2]) Tryz.func100 rfl rfl rfl (Nat.le_of_ble_eq_true rfl) ?_
 refine AW.regL [0] ?_
 generalize hK : AW Tryz.prog _ _ _ = K
 simp only [go_sem, ↓reduceIte, reduceCtorEq, Nat.reduceAdd, Nat.reduceSub, Nat.reduceMul, Nat.reduceEqDiff, Nat.reduceLT, Nat.reduceLeDiff, Nat.reduceBEq, Int.reduceAdd, Int.reduceSub, Int.reduceLT, Int.reduceLE, Int.reduceEq, Int.reduceToNat]
 subst hK
 obtain ⟨x1, hx1, h⟩ := Option.bind_eq_some_iff.1 h
 refine AW.regL [0, 3] ?_
 generalize hK : AW Tryz.prog _ _ _ = K
 simp only [go_sem, ↓reduceIte, reduceCtorEq, Nat.reduceAdd, Nat.reduceSub, Nat.reduceMul, Nat.reduceEqDiff, Nat.reduceLT, Nat.reduceLeDiff, Nat.reduceBEq, Int.reduceAdd, Int.reduceSub, Int.reduceLT, Int.reduceLE, Int.reduceEq, Int.reduceToNat]
 refine arC.of (ok127 a0 x1 hx1) Tryz.call127 ?_
 simp only [go_sem, ↓reduceIte, reduceCtorEq, Nat.reduceAdd, Nat.reduceSub, Nat.reduceMul, Nat.reduceEqDiff, Nat.reduceLT, Nat.reduceLeDiff, Nat.reduceBEq, Int.reduceAdd, Int.reduceSub, Int.reduceLT, Int.reduceLE, Int.reduceEq, Int.reduceToNat]
 subst hK
 obtain ⟨x2, hx2, h⟩ := Option.bind_eq_some_iff.1 h
 obtain ⟨hx2b, hx2e⟩ := appO?_some.1 hx2
 have hx2f : ∀ id o : Nat, appO 1 1 id (List.map enc5 a0) 0 0 o (some (.row 1 true (([] : List (List AV))))) = some ⟨.own id 0 x2.length, [(o, none), (id, some (.row 1 true (List.map enc5 x2)))]⟩ := fun id o => by
   subst hx2e; rw [appO_ok (by simp) (by simpa using hx2b) (by decide)]; first | (simp [enc5]; done) | (simp [enc5]; omega)
 refine AW.regL [3, 4] ?_
 generalize hK : AW Tryz.prog _ _ _ = K
 simp only [go_sem, ↓reduceIte, reduceCtorEq, Nat.reduceAdd, Nat.reduceSub, Nat.reduceMul, Nat.reduceEqDiff, Nat.reduceLT, Nat.reduceLeDiff, Nat.reduceBEq, Int.reduceAdd, Int.reduceSub, Int.reduceLT, Int.reduceLE, Int.reduceEq, Int.reduceToNat, hx2f]
 subst hK
 refine AW.seq ?_
 refine AW.regL [3, 4, 5] ?_
 generalize hK : AW Tryz.prog _ _ _ = K
 simp only [go_sem, ↓reduceIte, reduceCtorEq, Nat.reduceAdd, Nat.reduceSub, Nat.reduceMul, Nat.reduceEqDiff, Nat.reduceLT, Nat.reduceLeDiff, Nat.reduceBEq, Int.reduceAdd, Int.reduceSub, Int.reduceLT, Int.reduceLE, Int.reduceEq, Int.reduceToNat]
 subst hK
 refine AW.block ?_
 obtain ⟨y11, hy11, h⟩ := Option.bind_eq_some_iff.1 h
 refine AW.loopO (fun s => ⟨(upd (upd (upd anyF 3 (.val (.int .u32 s.1))) 4 (.own 8 0 s.2.1.length)) 5 (.val (.int .i64 s.2.2))), hpL [] [some (.row 1 true (List.map enc5 s.2.1))], 9⟩) (fun z e st' => e = Exit.exit 0 ∧ st' = ⟨(upd anyF 4 (.own 8 0 z.length)), hpL [] [some (.row 1 true (List.map enc5 z))], 9⟩) hy11 ?_ ?_ ?_
 ·exact Ent.canq [56] RF.any.qv.qo.qv (.nil _) (.ce (.nil _))
 ·clear h hy11
  rintro ⟨s1_0, s1_1, s1_2⟩ x h
  rw [f100_s1] at h
  refine AW.seq ?_
  refine AW.regL [3, 4, 5, 12] ?_
  generalize hK : AW Tryz.prog _ _ _ = K
  simp only [go_sem, ↓reduceIte, reduceCtorEq, Nat.reduceAdd, Nat.reduceSub, Nat.reduceMul, Nat.reduceEqDiff, Nat.reduceLT, Nat.reduceLeDiff, Nat.reduceBEq, Int.reduceAdd, Int.reduceSub, Int.reduceLT, Int.reduceLE, Int.reduceEq, Int.reduceToNat]
  subst hK
  by_cases c8 : s1_2 < 4
  ·rw [if_pos c8] at h
   refine AW.ifT rfl c8 ?_
   refine AW.skip ?_
   refine thenA_n ?_
   refine AW.seq ?_
   refine AW.block ?_
   obtain ⟨x9, hx9, h⟩ := Option.bind_eq_some_iff.1 h
   obtain ⟨hx9b, hx9e⟩ := appO?_some.1 hx9
   have hx9f : ∀ id o : Nat, appO 1 1 id ([[.val (.int .u8 (IntKind.u8.wrap (s1_0.tmod 256)))]]) 0 s1_1.length o (some (.row 1 true (List.map enc5 s1_1))) = some ⟨.own id 0 x9.length, [(o, none), (id, some (.row 1 true (List.map enc5 x9)))]⟩ := fun id o => by
     subst hx9e; rw [appO_ok (by simp) (by simpa using hx9b) (by decide)]; first | (simp [enc5]; done) | (simp [enc5]; omega)
   refine AW.regL [3, 4, 5] ?_
   generalize hK : AW Tryz.prog _ _ _ = K
   simp only [go_sem, ↓reduceIte, reduceCtorEq, Nat.reduceAdd, Nat.reduceSub, Nat.reduceMul, Nat.reduceEqDiff, Nat.reduceLT, Nat.reduceLeDiff, Nat.reduceBEq, Int.reduceAdd, Int.reduceSub, Int.reduceLT, Int.reduceLE, Int.reduceEq, Int.reduceToNat, eq_true c8, hx9f]
   subst hK
   refine AW.regionL [3, 4, 5] ?_
   generalize hK : inBlockA _ _ Exit.normal = K
   simp only [go_sem, ↓reduceIte, reduceCtorEq, Nat.reduceAdd, Nat.reduceSub, Nat.reduceMul, Nat.reduceEqDiff, Nat.reduceLT, Nat.reduceLeDiff, Nat.reduceBEq, Int.reduceAdd, Int.reduceSub, Int.reduceLT, Int.reduceLE, Int.reduceEq, Int.reduceToNat, eq_true c8]
   subst hK
   refine block_n ?_
   refine thenA_n ?_
   refine AW.regionL [3, 4, 5] ?_
   generalize hK : thenA _ _ Exit.normal = K
   simp only [go_sem, ↓reduceIte, reduceCtorEq, Nat.reduceAdd, Nat.reduceSub, Nat.reduceMul, Nat.reduceEqDiff, Nat.reduceLT, Nat.reduceLeDiff, Nat.reduceBEq, Int.reduceAdd, Int.reduceSub, Int.reduceLT, Int.reduceLE, Int.reduceEq, Int.reduceToNat, eq_true c8]
   subst hK
   refine thenA_n ?_
   refine ⟨_, (Option.some.inj h).symm, ?_⟩
   exact Ent.canq [65] RF.any.qv.qo.qv (.nil _) (.ce (.nil _))
  ·rw [if_neg c8] at h
   refine AW.ifF rfl c8 ?_
   refine AW.exit ?_
   refine thenA_x ?_
   refine thenA_x ?_
   refine ⟨_, (Option.some.inj h).symm, _, ?_, rfl, rfl⟩
   exact Ent.canq [8] RF.any.qo (.nil _) (.ce (.nil _))
 ·intro e st' hX
  try dsimp only at h
  try dsimp only at hX
  obtain ⟨rfl, rfl⟩ := hX
  refine ⟨_, Ent.refl, ?_⟩
  refine block_x ?_
  refine thenA_n ?_
  refine AW.regL [2] ?_
  generalize hK : AW Tryz.prog _ _ _ = K
  simp only [go_sem, ↓reduceIte, reduceCtorEq, Nat.reduceAdd, Nat.reduceSub, Nat.reduceMul, Nat.reduceEqDiff, Nat.reduceLT, Nat.reduceLeDiff, Nat.reduceBEq, Int.reduceAdd, Int.reduceSub, Int.reduceLT, Int.reduceLE, Int.reduceEq, Int.reduceToNat]
  subst hK
  refine AW.ret ?_
  obtain rfl := Option.some.inj h
  (simp only [go_sem, ↓reduceIte, reduceCtorEq, Nat.reduceAdd, Nat.reduceSub, Nat.reduceMul, Nat.reduceEqDiff, Nat.reduceLT, Nat.reduceLeDiff, Nat.reduceBEq, Int.reduceAdd, Int.reduceSub, Int.reduceLT, Int.reduceLE, Int.reduceEq, Int.reduceToNat, finA] <;> try simp)
end Au
end Go.Proofs.Yt

set_option linter.all false
namespace Go.Gm
open Go.Sort
variable {α : Type} [Inhabited α]
def rowsV (enc : α → Value) (d : List α) : List (List AV) := d.map fun x => [.val (enc x)]
theorem relL_vals_eq {E : Env} : ∀ {us vs : List Value}, RelL E (us.map .val) vs → vs = us
  | [], _, h => by cases h; rfl
  | u :: us, _, h => by
    cases h with
    | cons h1 h2 => rw [rel_val h1, relL_vals_eq h2]
end Go.Gm

set_option linter.all false
namespace Go.Gm
open Go.Sort Go.Proofs
def lb (l : List UInt8) : ByteArray := ⟨l.toArray⟩
def sortS (l : List ByteArray) : List ByteArray := ((l.map bl).mergeSort fun x y => decide (x ≤ y)).map lb
def sortI (l : List Int) : List Int := l.mergeSort fun x y => decide (x ≤ y)
def compS (l : List ByteArray) : List ByteArray := (Lib.compact (l.map bl)).map lb
def compI (l : List Int) : List Int := Lib.compact l
def cmpS (a b : ByteArray) : Int := Lib.compareBytes a.data.toList b.data.toList
theorem pc_scmp {P : Program} (f : FuncId) {a b : ByteArray} (h : ∀ w, Calls P f #[.string a, .string b] w fun e w' => e = .returned (.int .i64 (Lib.compareBytes a.data.toList b.data.toList)) ∧ w' = w) : PC P f [.val (.string a), .val (.string b)] (.val (.int .i64 (cmpS a b))) := by
  intro m w vs hm ht hus
  have e : vs = [.string a, .string b] := relL_vals_eq (us := [.string a, .string b]) hus
  subst e
  refine (h w).mono ?_
  rintro e w' ⟨rfl, rfl⟩
  refine ⟨_, fun _ => none, fun _ => False, fun _ => none, .val (.int .i64 (cmpS a b)), [], rfl, ?_, .val _, by simp only [sealV_val], List.nodup_nil⟩
  constructor
  · intro t o h; cases h
  · intro t _; rfl
  · intro t l h; cases h
  · intro t t' l l' h; cases h
  · rfl
  · rfl
  · rfl
  · exact Nat.le_refl _
  · intro _ _ _; rfl
  · rintro b ⟨t, o, l, h, _⟩; cases h
  · intro t l h; cases h
  · intro t h; exact absurd h (Nat.not_lt_zero t)
  · intro t l h; exact absurd h (Nat.not_lt_zero t)
end Go.Gm

set_option linter.all false
namespace Go.Gm
open Go.Sort Go.Proofs Go.RowKit Go.Maps
theorem pc_read {P : Program} {f : FuncId} {u : AV} {us : List Value} {v : Value}
    (h : ∀ (m : Nat → Prop) (w : World) (x : Value), TabH P (fun _ => False) w → Rel (E0 m w) u x → Calls P f (x :: us).toArray w fun e w' => e = .returned v ∧ w.heap.size ≤ w'.heap.size ∧ (∀ b, b < w.heap.size → w'.heap[b]? = w.heap[b]?) ∧ w'.os = w.os ∧ w'.tape = w.tape ∧ w'.output = w.output)
    (hs : sealV (fun _ => none) (.val v) = some (.val v, [])) : PC P f (u :: us.map .val) (.val v) := by
  intro m w vs hm ht hus
  cases hus with
  | cons hu hus =>
  rename_i x vs
  have e := relL_vals_eq hus
  subst e
  refine (h m w x ht hu).mono ?_
  rintro e w' ⟨rfl, k1, k2, k3, k4, k5⟩
  refine ⟨_, fun _ => none, fun _ => False, fun _ => none, .val v, [], rfl, ?_, .val _, hs, List.nodup_nil⟩
  constructor
  · intro t o h; cases h
  · intro t _; rfl
  · intro t l h; cases h
  · intro t t' l l' h; cases h
  · exact k3
  · exact k4
  · exact k5
  · exact k1
  · intro b hb _; exact k2 b hb
  · rintro b ⟨t, o, l, h, _⟩; cases h
  · intro t l h; cases h
  · intro t h; exact absurd h (Nat.not_lt_zero t)
  · intro t l h; exact absurd h (Nat.not_lt_zero t)
def joinS (l : List ByteArray) (sep : ByteArray) : ByteArray := ⟨(Lib.join (l.map (·.data.toList)) sep.data.toList).toArray⟩
def itoaS (n : Int) : ByteArray := ⟨(Lib.itoa n).toArray⟩
end Go.Gm

set_option linter.all false
namespace Go.Gm
open Go.Proofs Go.RowKit Go.Shelf Go.Maps Go.Sort
end Go.Gm

set_option linter.all false
namespace Go.Gm
theorem CallOk.of_vals {P : Program} {f : FuncId} {us0 : List Value} {X : AV} {hp : AHeap} {id : Nat} (h : PC P f (us0.map .val) X) (hl : (claimV X id).2.length ≤ 8) :
    CallOk P f (us0.map .val) hp id ⟨(claimV X id).1, effOf (claimV X id).2 id⟩ := fun G al loc w vs hM hf hr => by
  have e := relL_vals_eq hr
  subst e
  have hm1 : ∀ b, (G.m1 b ∨ mtOf hp loc b) → b < w.heap.size := fun b hb => by
    rcases hb with hb | ⟨t, o, l, h1, h2, h3, h4, h5⟩
    · exact Nat.lt_of_lt_of_le (G.m1lt b hb) hM.size
    · exact h4 ▸ hM.lt h3 h5
  have hx : RelL (E0 (fun b => G.m1 b ∨ mtOf hp loc b) w) (vs.map .val) vs := relL_vals vs
  refine (call_core (G := G) (id := id) (X := X) (us := vs.map .val) hM hf h hm1 hx (fun _ b hb => hb) hl).mono ?_
  rintro e w' ⟨v, loc', rfl, a, b, c⟩
  exact ⟨v, loc', rfl, a, b, c⟩
end Go.Gm

set_option linter.all false
set_option linter.unusedVariables false
namespace Go.Gm
open Go.RowKit
theorem pc_own0 {P : Program} {f : FuncId} {us : List AV} {sz : Nat} (hsz : 0 < sz)
    (h : ∀ (m : Nat → Prop) (w : World) (vs : List Value), (∀ b, m b → b < w.heap.size) → RelL (E0 m w) us vs → Calls P f vs.toArray w fun e w' => ∃ a cap, e = .returned (.slice a 0 cap) ∧
      (cap = 0 ∨ ∃ c ety, w'.heap[w.heap.size]? = some (.cells c ety (0, 0)) ∧ c.size = cap * sz ∧ a = some ⟨w.heap.size, 0, none⟩) ∧ Below w.heap.size w w') : PC P f us (.fr sz []) := by
  intro m w vs hm ht hr
  refine (h m w vs hm hr).mono ?_
  rintro e w' ⟨a, cap, rfl, hrow, hb⟩
  let v : Value := .slice a 0 cap
  let hp : AHeap := fun t => if t = 0 then some (.row sz true []) else none
  have main : ∀ (L : Loc), (L.st < L.n → w.heap.size ≤ L.b) → ObjAt (mkE m hp (fun t => t = 0) (fun t => if t = 0 then some L else none) w') L (.row sz true []) →
      (∃ a cap, v = .slice a 0 cap ∧ 0 < L.sz ∧ L.st + (0 + cap) * L.sz = L.n ∧ 0 ≤ cap ∧ (0 < cap → a = some ⟨L.b, L.st + 0 * L.sz, none⟩)) →
      ∃ v' hp' al loc r ts, Ending.returned v = .returned v' ∧ Mem ⟨w, fun _ => False, m, hm, 0, fun _ => none, Nat.zero_le _, ht⟩ hp' al loc w' ∧ Rel (mkE m hp' al loc w') r v' ∧ sealV hp' r = some (.fr sz [], ts) ∧ ts.Nodup := fun L hLb hob hv => by
    have hz : ∀ t o, hp t = some o → t = 0 ∧ o = .row sz true [] := fun t o ho => by
      by_cases ht : t = 0
      · subst ht; simp [hp] at ho; exact ⟨rfl, ho.symm⟩
      · simp [hp, ht] at ho
    have hlz : ∀ t L', (if t = 0 then some L else none) = some L' → t = 0 ∧ L' = L := fun t L' hL => by
      by_cases ht : t = 0
      · subst ht; simp at hL; exact ⟨rfl, hL.symm⟩
      · simp [ht] at hL
    refine ⟨v, hp, fun t => t = 0, fun t => if t = 0 then some L else none, .own 0 0 0, [0], rfl, ?_, ?_, ?_, by simp⟩
    · constructor
      · intro t o ho
        obtain ⟨rfl, rfl⟩ := hz t o ho
        exact ⟨L, rfl, hob⟩
      · intro t ht
        by_cases h0 : t = 0
        · subst h0; simp [hp] at ht
        · simp [h0]
      · intro t L' hL; exact (hlz t L' hL).1
      · intro t t' L1 L2 h1 h2 _ _ _
        rw [(hlz t L1 h1).1, (hlz t' L2 h2).1]
      · exact hb.os
      · exact hb.tape
      · exact hb.output
      · exact hb.size
      · intro b hlt _; exact hb.block b hlt
      · rintro b ⟨t, o, L', h1, h2, h3, h4, h5⟩ hlt
        obtain ⟨_, rfl⟩ := hlz t L' h3
        have h9 := hLb h5
        have h10 : b < w.heap.size := hlt
        show False
        omega
      · intro t L' hL hpos hmb
        obtain ⟨_, rfl⟩ := hlz t L' hL
        have := hLb hpos
        have := hm _ hmb
        omega
      · intro t ht; exact absurd ht (Nat.not_lt_zero t)
      · intro t L' ht; exact absurd ht (Nat.not_lt_zero t)
    · refine .own rfl fun L' hL => ?_
      obtain ⟨_, rfl⟩ := hlz 0 L' hL
      exact hv
    · have := own_fr (hp := hp) (t := 0) (n := 0) (sz := sz) (rows := []) rfl (by simp) rfl
      simpa only [resOf_1] using this
  rcases hrow with rfl | ⟨c, ety, hg, hcs, rfl⟩
  · exact main ⟨0, 0, sz, 0⟩ (fun h => absurd h (Nat.lt_irrefl _)) ⟨rfl, hsz, by simp, by simp, ⟨0, by simp⟩, fun h => absurd h (Nat.lt_irrefl _)⟩ ⟨a, 0, rfl, hsz, by simp, Nat.le_refl _, fun h => absurd h (Nat.lt_irrefl _)⟩
  · refine main ⟨w.heap.size, 0, sz, cap * sz⟩ (fun _ => Nat.le_refl _) ⟨rfl, hsz, by simp, by simp, ⟨cap, by simp⟩, fun _ => ⟨c, ety, (0, 0), [], hg, by simpa using hcs, .nil, by simp, by simp, fun k _ => by simp⟩⟩ ⟨some ⟨w.heap.size, 0, none⟩, cap, rfl, hsz, by simp, Nat.zero_le _, fun _ => by simp⟩
end Go.Gm

set_option linter.all false
namespace Go.Proofs
open Go.RowKit Go.Shelf Go.Gm
def Tryz.grow_ren : Go.Shelf.Ren := ⟨fun | 4 => 104 | n => n, fun | 0 => 0 | 3 => 3 | 4 => 4 | 9 => 9 | 20 => 20 | 22 => 31 | 25 => 50 | n => n, fun | n => n⟩
theorem Tryz.growL : Lays8.n4 Tryz.prog Tryz.grow_ren := {
  mixed := by kernel_rfl
  f4 := ⟨Tryz.f104.name, by decide, Tryz.func104.trans (congrArg some (by kernel_rfl))⟩
  t0 := Tryz.underlying0
  a0 := Tryz.isAgg0
  z0 := Tryz.sizeOf0
  v0 := Tryz.zeroValue0
  t3 := Tryz.underlying3
  a3 := Tryz.isAgg3
  z3 := Tryz.sizeOf3
  v3 := Tryz.zeroValue3
  t4 := Tryz.underlying4
  a4 := Tryz.isAgg4
  z4 := Tryz.sizeOf4
  v4 := Tryz.zeroValue4
  t9 := Tryz.underlying9
  a9 := Tryz.isAgg9
  z9 := Tryz.sizeOf9
  v9 := Tryz.zeroValue9
  t20 := Tryz.underlying20
  a20 := Tryz.isAgg20
  z20 := Tryz.sizeOf20
  v20 := Tryz.zeroValue20
  t22 := Tryz.underlying31
  a22 := Tryz.isAgg31
  z22 := Tryz.sizeOf31
  v22 := Tryz.zeroValue31 }
theorem Tryz.growI : (Tryz.prog.info? 50).map (fun i => (i.zero, i.size, i.bytes)) = some (some (.agg #[.string ⟨#[]⟩, .string ⟨#[]⟩, .slice none 0 0]), 3, 56) := by kernel_rfl
theorem Tryz.grow_new (n : Nat) (hn : n ≤ 1000000) (w : World) :
    Calls Tryz.prog 104 #[.slice none 0 0, .int .i64 n] w fun e w' => ∃ a cap, e = .returned (.slice a 0 cap) ∧
      (cap = 0 ∨ ∃ c ety, w'.heap[w.heap.size]? = some (.cells c ety (0, 0)) ∧ c.size = cap * 3 ∧ a = some ⟨w.heap.size, 0, none⟩) ∧ Below w.heap.size w w' := by
  by_cases h0 : n = 0
  · subst h0
    refine (Any8.slices_Grow_room Tryz.growL none 0 0 0 w (by omega) (by omega) (by omega) (by omega)).mono ?_
    rintro e w' ⟨rfl, rfl⟩
    exact ⟨none, 0, rfl, .inl rfl, Below.refl _ _⟩
  · obtain ⟨i0, hi, hz, hs, hb⟩ := info_parts Tryz.growI
    refine (Any8.slices_Grow_grow Tryz.growL i0 _ hi hz (by rw [hs]; decide) none 0 0 n [] w (by omega) (by omega) (by rw [hb]; omega) (by omega) (by simp) (fun _ => rfl) (fun a h => by cases h)).mono ?_
    rintro e w' ⟨rfl, rfl⟩
    have hcap := Go.grownCap_ge w (0 + n) 0 (Tryz.grow_ren.t 25)
    refine ⟨_, _, rfl, .inr ⟨_, _, World.alloc_heap_new w.drew _, ?_, rfl⟩, ?_⟩
    · simp [Builtin.zeroCells, Value.cells]
      simp at hcap
      omega
    · exact ((Below.refl _ w).drew).alloc (Nat.le_refl _) _
end Go.Proofs

set_option linter.all false
set_option maxRecDepth 8000
set_option maxHeartbeats 1000000
namespace Go.Proofs.Yt
open Go.Gm
namespace Au
noncomputable def f104 (a0 : List Res) (a1 : Int) : Option (List Res) := if 0 ≤ a1 ∧ a1 ≤ 1000000 then some [] else none
theorem ok104 (a0 : List Res) (a1 : Int) (r : List Res) (h : f104 a0 a1 = some r) : PC Tryz.prog 104 [.val (.slice none 0 0), .val (.int .i64 a1)] (.fr 3 (List.map encRes r)) := by
  unfold f104 at h
  split at h
  rotate_left
  · cases h
  rename_i hl
  obtain rfl := Option.some.inj h
  obtain ⟨n, rfl⟩ := Int.eq_ofNat_of_zero_le hl.1
  refine pc_own0 (sz := 3) (by decide) fun m w vs hm hv => ?_
  have e := relL_vals_eq (us := [.slice none 0 0, .int .i64 n]) hv
  subst e
  exact Tryz.grow_new n (by omega) w
end Au
end Go.Proofs.Yt

namespace Go.Proofs
open Go.Shelf
def Tryz.lays126_ren : Go.Shelf.Ren := ⟨fun | 126 => 164 | n => n, fun | 5 => 5 | 3 => 3 | 9 => 9 | n => n, fun | n => n⟩
def Tryz.lays128_ren : Go.Shelf.Ren := ⟨fun | 128 => 159 | n => n, fun | 51 => 213 | 3 => 3 | 4 => 4 | 46 => 224 | 5 => 5 | 9 => 9 | n => n, fun | n => n⟩
def Tryz.lays125_ren : Go.Shelf.Ren := ⟨fun | 125 => 138 | 128 => 159 | 129 => 160 | n => n, fun | 46 => 224 | 3 => 3 | 51 => 213 | 53 => 168 | 4 => 4 | 5 => 5 | 9 => 9 | n => n, fun | n => n⟩
def Tryz.lays131_ren : Go.Shelf.Ren := ⟨fun | 131 => 144 | 126 => 164 | n => n, fun | 5 => 5 | 3 => 3 | 9 => 9 | n => n, fun | n => n⟩
def Tryz.lays213_ren : Go.Shelf.Ren := ⟨fun | 213 => 106 | 265 => 131 | n => n, fun | 9 => 9 | 3 => 3 | n => n, fun | n => n⟩
def Tryz.lays106_ren : Go.Shelf.Ren := ⟨fun | 106 => 76 | 213 => 106 | 265 => 131 | n => n, fun | 9 => 9 | 3 => 3 | n => n, fun | n => n⟩
theorem Tryz.lays106 : Go.Proofs.Lays.n106 Tryz.prog Tryz.lays106_ren := {
  mixed := by kernel_rfl
  f106 := Tryz.func76.trans (congrArg some (by kernel_rfl))
  f213 := Tryz.func106.trans (congrArg some (by kernel_rfl))
  f265 := Tryz.func131.trans (congrArg some (by kernel_rfl))
  t3 := Tryz.underlying3
  a3 := Tryz.isAgg3
  z3 := Tryz.sizeOf3
  v3 := Tryz.zeroValue3
  t9 := Tryz.underlying9
  a9 := Tryz.isAgg9
  z9 := Tryz.sizeOf9
  v9 := Tryz.zeroValue9 }
open Go.RowKit in
theorem Tryz.strings_Compare (a b : ByteArray) (w : World) :
    Calls Tryz.prog 76 #[.string a, .string b] w fun e w' => e = .returned (.int .i64 (Lib.compareBytes a.data.toList b.data.toList)) ∧ w' = w := Any.strings_Compare Tryz.lays106 a b w
def Tryz.lays129_ren : Go.Shelf.Ren := ⟨fun | 129 => 160 | n => n, fun | 53 => 168 | 3 => 3 | 4 => 4 | 46 => 224 | 5 => 5 | 9 => 9 | n => n, fun | n => n⟩
def Tryz.lays189_ren : Go.Shelf.Ren := ⟨fun | 189 => 114 | 125 => 138 | 257 => 137 | 128 => 159 | 129 => 160 | 294 => 150 | 295 => 151 | 296 => 152 | 297 => 153 | 298 => 154 | 299 => 155 | 216 => 156 | 300 => 157 | 301 => 158 | 328 => 169 | 329 => 170 | 330 => 171 | 331 => 172 | 332 => 173 | 215 => 174 | 343 => 177 | n => n, fun | 28 => 48 | 3 => 3 | 46 => 224 | 0 => 0 | 51 => 213 | 53 => 168 | 4 => 4 | 183 => 237 | 182 => 236 | 131 => 57 | 5 => 5 | 9 => 9 | 218 => 250 | 222 => 254 | 228 => 257 | 229 => 258 | n => n, fun | n => n⟩
def Tryz.laysNm215_ren : Go.Shelf.Ren := ⟨fun | 15 => 73 | n => n, fun | 22 => 48 | 3 => 3 | 4 => 4 | n => n, fun | n => n⟩
def Tryz.laysNm220_ren : Go.Shelf.Ren := ⟨fun | 20 => 83 | n => n, fun | 22 => 48 | 3 => 3 | 4 => 4 | 0 => 0 | n => n, fun | n => n⟩
def Tryz.laysNm237_ren : Go.Shelf.Ren := ⟨fun | 37 => 174 | n => n, fun | 3 => 3 | 4 => 4 | n => n, fun | n => n⟩
def Tryz.laysNm231_ren : Go.Shelf.Ren := ⟨fun | 31 => 156 | 37 => 174 | n => n, fun | 3 => 3 | 4 => 4 | n => n, fun | n => n⟩
def Tryz.laysSlE041_f73_ren : Go.Shelf.Ren := ⟨fun | 41 => 73 | n => n, fun | 22 => 48 | 23 => 3 | 4 => 4 | n => n, fun | n => n⟩
def Tryz.lays187_ren : Go.Shelf.Ren := ⟨fun | 187 => 125 | 255 => 147 | n => n, fun | 37 => 23 | 5 => 5 | 3 => 3 | n => n, fun | n => n⟩
theorem Tryz.lays187 : Go.Proofs.Lays.n187 Tryz.prog Tryz.lays187_ren := {
  mixed := by kernel_rfl
  f187 := Tryz.func125.trans (congrArg some (by kernel_rfl))
  f255 := Tryz.func147.trans (congrArg some (by kernel_rfl))
  t3 := Tryz.underlying3
  a3 := Tryz.isAgg3
  z3 := Tryz.sizeOf3
  v3 := Tryz.zeroValue3
  t5 := Tryz.underlying5
  a5 := Tryz.isAgg5
  z5 := Tryz.sizeOf5
  v5 := Tryz.zeroValue5
  t37 := Tryz.underlying23
  a37 := Tryz.isAgg23
  z37 := Tryz.sizeOf23
  v37 := Tryz.zeroValue23 }
theorem Tryz.bytes_IndexByte (b o n c : Nat) (xs : List Int) (cv : Int) (w : World) (hx : xs.length = n) (hc : ∀ i, i < n → w.cell? ⟨b, o + i, none⟩ = some (.int .u8 (xs.getD i 0))) :
    Calls Tryz.prog 125 #[.slice (some ⟨b, o, none⟩) n c, .int .u8 cv] w fun e w' => e = .returned (.int .i64 (Lib.indexByte (Lib.bytesOf xs) cv.toNat.toUInt8)) ∧ w' = w := Any.bytes_IndexByte Tryz.lays187 b o n c xs cv w hx hc
end Go.Proofs

set_option linter.all false
set_option maxRecDepth 8000
set_option maxHeartbeats 1000000
namespace Go.Proofs.Yt
open Go.Gm
namespace Au
noncomputable def f76 (a0 a1 : ByteArray) : Option Int := some (cmpS a0 a1)
theorem ok76 (a0 a1 : ByteArray) (r : Int) (h : f76 a0 a1 = some r) : PC Tryz.prog 76 [.val (.string a0), .val (.string a1)] (.val (.int .i64 r)) := by
  obtain rfl := Option.some.inj h
  exact pc_scmp 76 (fun w => Tryz.strings_Compare a0 a1 w)
end Au
end Go.Proofs.Yt

set_option linter.all false
set_option maxRecDepth 8000
set_option maxHeartbeats 1000000
namespace Go.Proofs.Yt
open Go.Gm
namespace Au
noncomputable def f75 (a0 : Res) (a1 : Res) : Option Int := ((f76 a0.Key a1.Key).bind fun x1 => some x1)
theorem ok75 (a0 : Res) (a1 : Res) (r : Int) (h : f75 a0 a1 = some r) : PC Tryz.prog 75 [.agg (encRes a0), .agg (encRes a1)] (.val (.int .i64 r)) := by
 rw [f75] at h
 refine pc_of8 (N := 10) (rs := [.tmp 4]) Tryz.func75 rfl rfl rfl (Nat.le_of_ble_eq_true rfl) ?_
 refine AW.rX [2, 3] ?_
 obtain ⟨x1, hx1, h⟩ := Option.bind_eq_some_iff.1 h
 refine AW.regL [4] ?_
 generalize hK : AW Tryz.prog _ _ _ = K
 simp only [go_sem, ↓reduceIte, reduceCtorEq, Nat.reduceAdd, Nat.reduceSub, Nat.reduceMul, Nat.reduceEqDiff, Nat.reduceLT, Nat.reduceLeDiff]
 refine arC.of (ok76 a0.Key a1.Key x1 hx1) Tryz.call76 ?_
 simp only [go_sem, ↓reduceIte, reduceCtorEq, Nat.reduceAdd, Nat.reduceSub, Nat.reduceMul, Nat.reduceEqDiff, Nat.reduceLT, Nat.reduceLeDiff]
 subst hK
 refine AW.ret ?_
 obtain rfl := Option.some.inj h
 (simp only [go_sem, ↓reduceIte, reduceCtorEq, Nat.reduceAdd, Nat.reduceSub, Nat.reduceMul, Nat.reduceEqDiff, Nat.reduceLT, Nat.reduceLeDiff, finA] <;> try simp)
end Au
end Go.Proofs.Yt

set_option linter.all false
set_option maxRecDepth 8000
set_option maxHeartbeats 1000000
namespace Go.Proofs.Yt
open Go.Gm
namespace Au
noncomputable def f129_75_s4 (a1 : Int) : (List Res) × Int → Option (((List Res) × Int) ⊕ (List Res))
  | (s4_0, s4_1) => (if a1 < s4_1 then ((ix s4_0 s4_1).bind fun x83 => ((ix s4_0 (IntKind.i64.wrap (s4_1 - 1))).bind fun x84 => ((f75 x83 x84).bind fun x85 => (if x85 < 0 then ((ix (s4_0.set s4_1.toNat x84) (IntKind.i64.wrap (s4_1 - 1))).bind fun x87 => some (.inl (((s4_0.set s4_1.toNat x84).set ((IntKind.i64.wrap (s4_1 - 1)).toNat) x83), IntKind.i64.wrap (s4_1 - 1)))) else some (.inr s4_0))))) else some (.inr s4_0))
noncomputable def f129_75_s1 (a1 : Int) (a2 : Int) : (List Res) × Int → Option (((List Res) × Int) ⊕ (List Res))
  | (s1_0, s1_1) => (if s1_1 < a2 then ((loopO (f129_75_s4 a1) (s1_0, s1_1)).bind fun y89 => some (.inl (y89, IntKind.i64.wrap (s1_1 + 1)))) else some (.inr s1_0))
noncomputable def f129_75 (a0 : List Res) (a1 : Int) (a2 : Int) : Option (List Res) := ((loopO (f129_75_s1 a1 a2) (a0, IntKind.i64.wrap (a1 + 1))).bind fun y91 => some y91)
theorem ok129_75 (a0 : List Res) (a1 : Int) (a2 : Int) (r : (List Res)) (h : f129_75 a0 a1 a2 = some r) : IC Tryz.prog 129 [some (.row 3 true (List.map encRes a0))] [.own 0 0 a0.length, .val (.int .i64 a1), .val (.int .i64 a2), .clo (.func 75) [] []] (.tup []) [some (.row 3 true (List.map encRes r))] [] := by
 rw [f129_75] at h
 refine ic_ofJ (N := 53) (rs := []) Tryz.func129 rfl rfl rfl (Nat.le_of_ble_eq_true rfl) ?_
 refine AW.rX [0, 1, 2, 3, 8] ?_
 refine AW.block ?_
 obtain ⟨y91, hy91, h⟩ := Option.bind_eq_some_iff.1 h
 refine AW.loopO (fun s => ⟨(upd (upd (upd (upd (upd anyF 0 (.own 0 0 s.1.length)) 1 (.val (.int .i64 a1))) 2 (.val (.int .i64 a2))) 3 (.clo (.func 75) [] [])) 8 (.val (.int .i64 s.2))), hpL [some (.row 3 true (List.map encRes s.1))] [], 8⟩) (fun z e st' => e = Exit.exit 0 ∧ st' = ⟨anyF, hpL [some (.row 3 true (List.map encRes z))] [], 8⟩) hy91 ?_ ?_ ?_
 ·exact Ent.canq [] RF.any.qo.qv.qv.qt.qv (.ce (.nil _)) (.nil _)
 ·clear h hy91
  rintro ⟨s1_0, s1_1⟩ x h
  rw [f129_75_s1] at h
  refine AW.seq ?_
  refine AW.rX [0, 1, 2, 3, 8, 14] ?_
  by_cases c54 : s1_1 < a2
  ·rw [if_pos c54] at h
   refine AW.ifT rfl c54 ?_
   refine AW.skip ?_
   refine thenA_n ?_
   refine AW.seq ?_
   refine AW.block ?_
   refine AW.rX [0, 1, 2, 3, 8, 9] ?_
   refine AW.block ?_
   obtain ⟨y89, hy89, h⟩ := Option.bind_eq_some_iff.1 h
   refine AW.loopO (fun s => ⟨(upd (upd (upd (upd (upd (upd anyF 0 (.own 0 0 s.1.length)) 1 (.val (.int .i64 a1))) 2 (.val (.int .i64 a2))) 3 (.clo (.func 75) [] [])) 8 (.val (.int .i64 s1_1))) 9 (.val (.int .i64 s.2))), hpL [some (.row 3 true (List.map encRes s.1))] [], 8⟩) (fun z e st' => e = Exit.exit 2 ∧ st' = ⟨(upd (upd (upd (upd (upd anyF 0 (.own 0 0 z.length)) 1 (.val (.int .i64 a1))) 2 (.val (.int .i64 a2))) 3 (.clo (.func 75) [] [])) 8 (.val (.int .i64 s1_1))), hpL [some (.row 3 true (List.map encRes z))] [], 8⟩) hy89 ?_ ?_ ?_
   ·exact Ent.canq [] RF.any.qo.qv.qv.qt.qv.qv (.ce (.nil _)) (.nil _)
   ·clear h hy89
    rintro ⟨s4_0, s4_1⟩ x h
    rw [f129_75_s4] at h
    refine AW.seq ?_
    by_cases c82 : a1 < s4_1
    ·rw [if_pos c82] at h
     obtain ⟨x83, hx83, h⟩ := Option.bind_eq_some_iff.1 h
     obtain ⟨hx83a, hx83b⟩ := ix_some.1 hx83
     obtain ⟨x84, hx84, h⟩ := Option.bind_eq_some_iff.1 h
     obtain ⟨hx84a, hx84b⟩ := ix_some.1 hx84
     obtain ⟨x85, hx85, h⟩ := Option.bind_eq_some_iff.1 h
     refine AW.regdL [0, 1, 2, 3, 8, 9, 34] [[], [], [0, 1], [0, 1, 2], [0, 1, 2, 3], [0, 1, 2, 3], [0, 1, 2, 3], [0, 1, 2, 3, 5, 6], [0, 1, 2, 3, 5, 6, 7], [0, 1, 2, 3], [0, 1, 2, 3], [0, 1, 2, 3, 10], [0, 1, 2, 3, 9, 10, 11], [0, 1, 2, 3, 9, 10, 11, 12], [0, 1, 2, 3, 4, 5, 6, 7, 8, 9, 10, 11, 12, 13], [0, 1, 2, 3, 4, 5, 6, 7, 8, 9, 10, 11, 12, 13, 14], [0, 1, 2, 3, 4, 5, 6, 7, 8, 9, 10, 11, 12, 13, 14, 15]] [0, 1, 2, 3, 4, 5, 6, 7, 8, 9, 10, 11, 12, 13, 14, 15, 16] noFt (fun _ _ _ h => by simp [noFt] at h) draws (by kernel_rfl) (by kernel_rfl) ?_
     generalize hK : AW Tryz.prog _ _ _ = K
     simp only [go_sem, ↓reduceIte, reduceCtorEq, Nat.reduceAdd, Nat.reduceSub, Nat.reduceMul, Nat.reduceEqDiff, Nat.reduceLT, Nat.reduceLeDiff, eq_true c54, eq_true c82, natOf_le hx83a, hx83b, ix_lt hx83b, natOf_le hx84a, hx84b, ix_lt hx84b]
     refine adN.pc (ok75 x83 x84 x85 hx85) Tryz.call75 (callV_tmp (by simp only [upd_ap, Nat.reduceEqDiff, if_true, if_false, ↓reduceIte]; rfl)) (by simp only [go_sem, ↓reduceIte, reduceCtorEq, Nat.reduceAdd, Nat.reduceSub, Nat.reduceMul, Nat.reduceEqDiff, Nat.reduceLT, Nat.reduceLeDiff, List.nil_append, List.append_nil, eq_true c54, eq_true c82, natOf_le hx83a, hx83b, ix_lt hx83b, natOf_le hx84a, hx84b, ix_lt hx84b]) (by simp only [go_sem, ↓reduceIte, reduceCtorEq, Nat.reduceAdd, Nat.reduceSub, Nat.reduceMul, Nat.reduceEqDiff, Nat.reduceLT, Nat.reduceLeDiff]) ?_
     simp only [go_sem, ↓reduceIte, reduceCtorEq, Nat.reduceAdd, Nat.reduceSub, Nat.reduceMul, Nat.reduceEqDiff, Nat.reduceLT, Nat.reduceLeDiff, eq_true c54, eq_true c82, natOf_le hx83a, hx83b, ix_lt hx83b, natOf_le hx84a, hx84b, ix_lt hx84b]
     subst hK
     by_cases c86 : x85 < 0
     ·rw [if_pos c86] at h
      refine AW.ifT rfl c86 ?_
      refine AW.skip ?_
      refine thenA_n ?_
      refine AW.seq ?_
      refine AW.block ?_
      obtain ⟨x87, hx87, h⟩ := Option.bind_eq_some_iff.1 h
      obtain ⟨hx87a, hx87b⟩ := ix_some.1 hx87
      refine AW.drawL [0, 1, 2, 3, 8, 9] [[], [], [], [], [3], [], [], [6], [5, 6, 7], [5, 6, 7, 8], [], [], [10, 11], [10, 11, 12], [0, 1, 5, 6, 7, 8, 9, 10, 11, 12, 13], [0, 1, 5, 6, 7, 8, 9, 10, 11, 12, 13, 14], [0, 1, 2, 3, 4, 5, 6, 7, 8, 9, 10, 11, 12, 13, 14, 15], [0, 1, 2, 3, 4, 5, 6, 7, 8, 9, 10, 11, 12, 13, 14, 15, 16]] [0, 1, 2, 3, 4, 5, 6, 7, 8, 9, 10, 11, 12, 13, 14, 15, 16, 17] noFt (fun _ _ _ h => by simp [noFt] at h) draws (by kernel_rfl) (by kernel_rfl) ?_
      generalize hK : inBlockA _ _ Exit.normal = K
      simp only [go_sem, ↓reduceIte, reduceCtorEq, Nat.reduceAdd, Nat.reduceSub, Nat.reduceMul, Nat.reduceEqDiff, Nat.reduceLT, Nat.reduceLeDiff, eq_true c54, eq_true c82, eq_true c86, natOf_le hx84a, hx84b, ix_lt hx84b, natOf_le hx83a, hx83b, ix_lt hx83b, set_row (enc := encRes) (y := x84) (r := [.val (.string x84.Key), .val (.string x84.Val), .sl (List.map enc3 x84.Offs)]) rfl, natOf_le hx87a, hx87b, ix_lt hx87b, set_row (enc := encRes) (y := x83) (r := [.val (.string x83.Key), .val (.string x83.Val), .sl (List.map enc3 x83.Offs)]) rfl]
      subst hK
      refine block_n ?_
      refine thenA_n ?_
      refine AW.rY [0, 1, 2, 3, 8, 9] ?_
      refine thenA_n ?_
      refine ⟨_, (Option.some.inj h).symm, ?_⟩
      exact Ent.canq [] RF.any.qo.qv.qv.qt.qv.qv (.ce (.nil _)) (.nil _)
     ·rw [if_neg c86] at h
      refine AW.ifF rfl c86 ?_
      refine AW.exit ?_
      refine thenA_x ?_
      refine thenA_x ?_
      refine ⟨_, (Option.some.inj h).symm, _, ?_, rfl, rfl⟩
      exact Ent.canq [] RF.any.qo.qv.qv.qt.qv (.ce (.nil _)) (.nil _)
    ·rw [if_neg c82] at h
     refine AW.regdL [0, 1, 2, 3, 8, 9, 34] [[], [], [0, 1], [0, 1, 2], [0, 1, 2, 3], [0, 1, 2, 3], [0, 1, 2, 3], [0, 1, 2, 3, 5, 6], [0, 1, 2, 3, 5, 6, 7], [0, 1, 2, 3], [0, 1, 2, 3], [0, 1, 2, 3, 10], [0, 1, 2, 3, 9, 10, 11], [0, 1, 2, 3, 9, 10, 11, 12], [0, 1, 2, 3, 4, 5, 6, 7, 8, 9, 10, 11, 12, 13], [0, 1, 2, 3, 4, 5, 6, 7, 8, 9, 10, 11, 12, 13, 14], [0, 1, 2, 3, 4, 5, 6, 7, 8, 9, 10, 11, 12, 13, 14, 15]] [0, 1, 2, 3, 4, 5, 6, 7, 8, 9, 10, 11, 12, 13, 14, 15, 16] noFt (fun _ _ _ h => by simp [noFt] at h) draws (by kernel_rfl) (by kernel_rfl) ?_
     generalize hK : AW Tryz.prog _ _ _ = K
     simp only [go_sem, ↓reduceIte, reduceCtorEq, Nat.reduceAdd, Nat.reduceSub, Nat.reduceMul, Nat.reduceEqDiff, Nat.reduceLT, Nat.reduceLeDiff, eq_true c54, eq_false c82]
     subst hK
     refine AW.ifBF rfl rfl ?_
     refine AW.exit ?_
     refine thenA_x ?_
     refine thenA_x ?_
     refine ⟨_, (Option.some.inj h).symm, _, ?_, rfl, rfl⟩
     exact Ent.canq [] RF.any.qo.qv.qv.qt.qv (.ce (.nil _)) (.nil _)
   ·intro e st' hX
    try dsimp only at h
    try dsimp only at hX
    obtain ⟨rfl, rfl⟩ := hX
    refine ⟨_, Ent.refl, ?_⟩
    refine block_x ?_
    refine block_n ?_
    refine thenA_n ?_
    refine AW.rY [0, 1, 2, 3, 8] ?_
    refine thenA_n ?_
    refine ⟨_, (Option.some.inj h).symm, ?_⟩
    exact Ent.canq [] RF.any.qo.qv.qv.qt.qv (.ce (.nil _)) (.nil _)
  ·rw [if_neg c54] at h
   refine AW.ifF rfl c54 ?_
   refine AW.exit ?_
   refine thenA_x ?_
   refine thenA_x ?_
   refine ⟨_, (Option.some.inj h).symm, _, ?_, rfl, rfl⟩
   exact Ent.canq [] RF.any (.ce (.nil _)) (.nil _)
 ·intro e st' hX
  try dsimp only at h
  try dsimp only at hX
  obtain ⟨rfl, rfl⟩ := hX
  refine ⟨_, Ent.refl, ?_⟩
  refine block_x ?_
  refine ⟨⟨anyF, hpL [some (.row 3 true (List.map encRes y91))] [], 8⟩, ?_, ?_⟩
  · refine Ent.can [] _ _ _ rfl (by first | decide | simp) rfl ?_ ?_ ?_
    · exact RF.any
    · exact .ce (.nil _)
    · exact .nil _
  obtain rfl := Option.some.inj h
  exact ⟨rfl, rfl, _, rfl, by first | rfl | simp [resOf, upd_ap, bytesI_len]⟩
end Au
end Go.Proofs.Yt

set_option linter.all false
set_option maxRecDepth 8000
set_option maxHeartbeats 1000000
namespace Go.Proofs.Yt
open Go.Gm
namespace Au
noncomputable def f168_75_s1 (a1 : Int) (a2 : Int) (a3 : Int) : (List Res) × Int → Option (((List Res) × Int) ⊕ (List Res))
  | (s1_0, s1_1) => (if s1_1 < a3 then ((ix s1_0 (IntKind.i64.wrap (a2 + s1_1))).bind fun x13 => ((ix s1_0 (IntKind.i64.wrap (a1 + s1_1))).bind fun x14 => ((ix (s1_0.set ((IntKind.i64.wrap (a1 + s1_1)).toNat) x13) (IntKind.i64.wrap (a2 + s1_1))).bind fun x15 => some (.inl (((s1_0.set ((IntKind.i64.wrap (a1 + s1_1)).toNat) x13).set ((IntKind.i64.wrap (a2 + s1_1)).toNat) x14), IntKind.i64.wrap (s1_1 + 1)))))) else some (.inr s1_0))
noncomputable def f168_75 (a0 : List Res) (a1 : Int) (a2 : Int) (a3 : Int) : Option (List Res) := ((loopO (f168_75_s1 a1 a2 a3) (a0, 0)).bind fun y17 => some y17)
theorem ok168_75 (a0 : List Res) (a1 : Int) (a2 : Int) (a3 : Int) (r : (List Res)) (h : f168_75 a0 a1 a2 a3 = some r) : IC Tryz.prog 168 [some (.row 3 true (List.map encRes a0))] [.own 0 0 a0.length, .val (.int .i64 a1), .val (.int .i64 a2), .val (.int .i64 a3), .clo (.func 75) [] []] (.tup []) [some (.row 3 true (List.map encRes r))] [] := by
 rw [f168_75] at h
 refine ic_ofJ (N := 38) (rs := []) Tryz.func168 rfl rfl rfl (Nat.le_of_ble_eq_true rfl) ?_
 refine AW.rX [0, 1, 2, 3, 10] ?_
 refine AW.block ?_
 obtain ⟨y17, hy17, h⟩ := Option.bind_eq_some_iff.1 h
 refine AW.loopO (fun s => ⟨(upd (upd (upd (upd (upd anyF 0 (.own 0 0 s.1.length)) 1 (.val (.int .i64 a1))) 2 (.val (.int .i64 a2))) 3 (.val (.int .i64 a3))) 10 (.val (.int .i64 s.2))), hpL [some (.row 3 true (List.map encRes s.1))] [], 8⟩) (fun z e st' => e = Exit.exit 0 ∧ st' = ⟨anyF, hpL [some (.row 3 true (List.map encRes z))] [], 8⟩) hy17 ?_ ?_ ?_
 ·exact Ent.canq [] RF.any.qo.qv.qv.qv.qv (.ce (.nil _)) (.nil _)
 ·clear h hy17
  rintro ⟨s1_0, s1_1⟩ x h
  rw [f168_75_s1] at h
  refine AW.seq ?_
  refine AW.rX [0, 1, 2, 3, 10, 13] ?_
  by_cases c12 : s1_1 < a3
  ·rw [if_pos c12] at h
   refine AW.ifT rfl c12 ?_
   refine AW.skip ?_
   refine thenA_n ?_
   refine AW.seq ?_
   refine AW.block ?_
   obtain ⟨x13, hx13, h⟩ := Option.bind_eq_some_iff.1 h
   obtain ⟨hx13a, hx13b⟩ := ix_some.1 hx13
   obtain ⟨x14, hx14, h⟩ := Option.bind_eq_some_iff.1 h
   obtain ⟨hx14a, hx14b⟩ := ix_some.1 hx14
   obtain ⟨x15, hx15, h⟩ := Option.bind_eq_some_iff.1 h
   obtain ⟨hx15a, hx15b⟩ := ix_some.1 hx15
   refine AW.drawL [0, 1, 2, 3, 10] [[], [], [], [1, 2], [], [], [], [5, 6], [], [], [], [9, 10], [8, 9, 10, 11], [8, 9, 10, 11, 12], [], [], [], [15, 16], [14, 15, 16, 17], [14, 15, 16, 17, 18], [0, 1, 2, 3, 8, 9, 10, 11, 12, 13, 14, 15, 16, 17, 18, 19], [0, 1, 2, 3, 8, 9, 10, 11, 12, 13, 14, 15, 16, 17, 18, 19, 20], [0, 1, 2, 3, 4, 5, 6, 7, 8, 9, 10, 11, 12, 13, 14, 15, 16, 17, 18, 19, 20, 21], [0, 1, 2, 3, 4, 5, 6, 7, 8, 9, 10, 11, 12, 13, 14, 15, 16, 17, 18, 19, 20, 21, 22]] [0, 1, 2, 3, 4, 5, 6, 7, 8, 9, 10, 11, 12, 13, 14, 15, 16, 17, 18, 19, 20, 21, 22, 23] noFt (fun _ _ _ h => by simp [noFt] at h) draws (by kernel_rfl) (by kernel_rfl) ?_
   generalize hK : inBlockA _ _ Exit.normal = K
   simp only [go_sem, ↓reduceIte, reduceCtorEq, Nat.reduceAdd, Nat.reduceSub, Nat.reduceMul, Nat.reduceEqDiff, Nat.reduceLT, Nat.reduceLeDiff, eq_true c12, natOf_le hx13a, hx13b, ix_lt hx13b, natOf_le hx14a, hx14b, ix_lt hx14b, set_row (enc := encRes) (y := x13) (r := [.val (.string x13.Key), .val (.string x13.Val), .sl (List.map enc3 x13.Offs)]) rfl, natOf_le hx15a, hx15b, ix_lt hx15b, set_row (enc := encRes) (y := x14) (r := [.val (.string x14.Key), .val (.string x14.Val), .sl (List.map enc3 x14.Offs)]) rfl]
   subst hK
   refine block_n ?_
   refine thenA_n ?_
   refine AW.rY [0, 1, 2, 3, 10] ?_
   refine thenA_n ?_
   refine ⟨_, (Option.some.inj h).symm, ?_⟩
   exact Ent.canq [] RF.any.qo.qv.qv.qv.qv (.ce (.nil _)) (.nil _)
  ·rw [if_neg c12] at h
   refine AW.ifF rfl c12 ?_
   refine AW.exit ?_
   refine thenA_x ?_
   refine thenA_x ?_
   refine ⟨_, (Option.some.inj h).symm, _, ?_, rfl, rfl⟩
   exact Ent.canq [] RF.any (.ce (.nil _)) (.nil _)
 ·intro e st' hX
  try dsimp only at h
  try dsimp only at hX
  obtain ⟨rfl, rfl⟩ := hX
  refine ⟨_, Ent.refl, ?_⟩
  refine block_x ?_
  refine ⟨⟨anyF, hpL [some (.row 3 true (List.map encRes y17))] [], 8⟩, ?_, ?_⟩
  · refine Ent.can [] _ _ _ rfl (by first | decide | simp) rfl ?_ ?_ ?_
    · exact RF.any
    · exact .ce (.nil _)
    · exact .nil _
  obtain rfl := Option.some.inj h
  exact ⟨rfl, rfl, _, rfl, by first | rfl | simp [resOf, upd_ap, bytesI_len]⟩
end Au
end Go.Proofs.Yt

set_option linter.all false
set_option maxRecDepth 8000
set_option maxHeartbeats 1000000
namespace Go.Proofs.Yt
open Go.Gm
namespace Au
noncomputable def f149_75_s1 (a2 : Int) : (List Res) × Int × Int → Option (((List Res) × Int × Int) ⊕ (Int × (List Res)))
  | (s1_0, s1_1, s1_2) => (if s1_1 = s1_2 then some (.inr (s1_1, s1_0)) else (if s1_2 < s1_1 then ((f168_75 s1_0 (IntKind.i64.wrap (a2 - s1_1)) a2 s1_2).bind fun x18 => ((guardO (x18.length = s1_0.length)).bind fun x19 => some (.inl (x18, IntKind.i64.wrap (s1_1 - s1_2), s1_2)))) else ((f168_75 s1_0 (IntKind.i64.wrap (a2 - s1_1)) (IntKind.i64.wrap ((IntKind.i64.wrap (a2 + s1_2)) - s1_1)) s1_1).bind fun x20 => ((guardO (x20.length = s1_0.length)).bind fun x21 => some (.inl (x20, s1_1, IntKind.i64.wrap (s1_2 - s1_1)))))))
noncomputable def f149_75 (a0 : List Res) (a1 : Int) (a2 : Int) (a3 : Int) : Option (List Res) := ((loopO (f149_75_s1 a2) (a0, IntKind.i64.wrap (a2 - a1), IntKind.i64.wrap (a3 - a2))).bind fun y22 => match y22 with | (y23, y24) => ((f168_75 y24 (IntKind.i64.wrap (a2 - y23)) a2 y23).bind fun x25 => ((guardO (x25.length = y24.length)).bind fun x26 => some x25)))
theorem ok149_75 (a0 : List Res) (a1 : Int) (a2 : Int) (a3 : Int) (r : (List Res)) (h : f149_75 a0 a1 a2 a3 = some r) : IC Tryz.prog 149 [some (.row 3 true (List.map encRes a0))] [.own 0 0 a0.length, .val (.int .i64 a1), .val (.int .i64 a2), .val (.int .i64 a3), .clo (.func 75) [] []] (.tup []) [some (.row 3 true (List.map encRes r))] [] := by
 rw [f149_75] at h
 refine ic_ofJ (N := 58) (rs := []) Tryz.func149 rfl rfl rfl (Nat.le_of_ble_eq_true rfl) ?_
 refine AW.rX [0, 2, 3, 4, 10] ?_
 refine AW.rX [0, 2, 4, 10, 11] ?_
 refine AW.seq ?_
 refine AW.block ?_
 obtain ⟨y22, hy22, h⟩ := Option.bind_eq_some_iff.1 h
 refine AW.loopO (fun s => ⟨(upd (upd (upd (upd (upd anyF 0 (.own 0 0 s.1.length)) 2 (.val (.int .i64 a2))) 4 (.clo (.func 75) [] [])) 10 (.val (.int .i64 s.2.1))) 11 (.val (.int .i64 s.2.2))), hpL [some (.row 3 true (List.map encRes s.1))] [], 8⟩) (fun z e st' => e = Exit.exit 0 ∧ st' = ⟨(upd (upd (upd (upd anyF 0 (.own 0 0 z.2.length)) 2 (.val (.int .i64 a2))) 4 (.clo (.func 75) [] [])) 10 (.val (.int .i64 z.1))), hpL [some (.row 3 true (List.map encRes z.2))] [], 8⟩) hy22 ?_ ?_ ?_
 ·exact Ent.canq [] RF.any.qo.qv.qt.qv.qv (.ce (.nil _)) (.nil _)
 ·clear h hy22
  rintro ⟨s1_0, s1_1, s1_2⟩ x h
  rw [f149_75_s1] at h
  refine AW.seq ?_
  refine AW.rX [0, 2, 4, 10, 11, 20] ?_
  by_cases c16 : s1_1 = s1_2
  ·rw [if_pos c16] at h
   refine AW.ifF rfl (fun q => q c16) ?_
   refine AW.exit ?_
   refine thenA_x ?_
   refine thenA_x ?_
   refine ⟨_, (Option.some.inj h).symm, _, ?_, rfl, rfl⟩
   exact Ent.canq [] RF.any.qo.qv.qt.qv (.ce (.nil _)) (.nil _)
  ·rw [if_neg c16] at h
   refine AW.ifT rfl c16 ?_
   refine AW.skip ?_
   refine thenA_n ?_
   refine AW.block ?_
   refine AW.rX [0, 2, 4, 10, 11, 23] ?_
   by_cases c17 : s1_2 < s1_1
   ·rw [if_pos c17] at h
    refine AW.ifT rfl c17 ?_
    obtain ⟨x18, hx18, h⟩ := Option.bind_eq_some_iff.1 h
    obtain ⟨x19, hx19, h⟩ := Option.bind_eq_some_iff.1 h
    have lenhx18 : x18.length = s1_0.length := guardO_some.1 hx19
    refine AW.regL [0, 2, 4, 10, 11] ?_
    generalize hK : AW Tryz.prog _ _ _ = K
    simp only [go_sem, ↓reduceIte, reduceCtorEq, Nat.reduceAdd, Nat.reduceSub, Nat.reduceMul, Nat.reduceEqDiff, Nat.reduceLT, Nat.reduceLeDiff, eq_false c16, eq_true c17, lenhx18]
    refine arC.ok (CallOk.icq (us' := _) (ok168_75 s1_0 (IntKind.i64.wrap (a2 - s1_1)) a2 s1_2 x18 hx18) [0] (.cons (.eq (by simp only [go_sem]) (by first | rfl | simp [upd_ap, hpL_ap, sg_ap])) (.nil _)) (by simp only [mapTL_cons, mapTL_nil, mapT_ptr, mapT_own, mapT_val, mapT_sl, mapT_agg, mapT_ip, mapT_clo, mapT_ifc, sg_ap, List.getD_cons_zero, List.getD_cons_succ]; exact (.cons (.of (by first | rfl | simp [mapT_own, sg_ap, eq_false c16, eq_true c17])) (.cons (.of rfl) (.cons (.of rfl) (.cons (.of rfl) (.cons (.of rfl) .nil))))))) Tryz.call168 ?_
    simp only [go_sem, ↓reduceIte, reduceCtorEq, Nat.reduceAdd, Nat.reduceSub, Nat.reduceMul, Nat.reduceEqDiff, Nat.reduceLT, Nat.reduceLeDiff, eq_false c16, eq_true c17, lenhx18]
    subst hK
    refine AW.regionL [0, 2, 4, 10, 11] ?_
    generalize hK : inBlockA _ _ Exit.normal = K
    simp only [go_sem, ↓reduceIte, reduceCtorEq, Nat.reduceAdd, Nat.reduceSub, Nat.reduceMul, Nat.reduceEqDiff, Nat.reduceLT, Nat.reduceLeDiff, eq_false c16, eq_true c17, lenhx18]
    subst hK
    refine block_n ?_
    refine thenA_n ?_
    refine ⟨_, (Option.some.inj h).symm, ?_⟩
    exact Ent.canq [] RF.any.qo.qv.qt.qv.qv (.ce (.nil _)) (.nil _)
   ·rw [if_neg c17] at h
    refine AW.ifF rfl c17 ?_
    obtain ⟨x20, hx20, h⟩ := Option.bind_eq_some_iff.1 h
    obtain ⟨x21, hx21, h⟩ := Option.bind_eq_some_iff.1 h
    have lenhx20 : x20.length = s1_0.length := guardO_some.1 hx21
    refine AW.regL [0, 2, 4, 10, 11] ?_
    generalize hK : AW Tryz.prog _ _ _ = K
    simp only [go_sem, ↓reduceIte, reduceCtorEq, Nat.reduceAdd, Nat.reduceSub, Nat.reduceMul, Nat.reduceEqDiff, Nat.reduceLT, Nat.reduceLeDiff, eq_false c16, eq_false c17, lenhx20]
    refine arC.ok (CallOk.icq (us' := _) (ok168_75 s1_0 (IntKind.i64.wrap (a2 - s1_1)) (IntKind.i64.wrap ((IntKind.i64.wrap (a2 + s1_2)) - s1_1)) s1_1 x20 hx20) [0] (.cons (.eq (by simp only [go_sem]) (by first | rfl | simp [upd_ap, hpL_ap, sg_ap])) (.nil _)) (by simp only [mapTL_cons, mapTL_nil, mapT_ptr, mapT_own, mapT_val, mapT_sl, mapT_agg, mapT_ip, mapT_clo, mapT_ifc, sg_ap, List.getD_cons_zero, List.getD_cons_succ]; exact (.cons (.of (by first | rfl | simp [mapT_own, sg_ap, eq_false c16, eq_false c17])) (.cons (.of rfl) (.cons (.of rfl) (.cons (.of rfl) (.cons (.of rfl) .nil))))))) Tryz.call168 ?_
    simp only [go_sem, ↓reduceIte, reduceCtorEq, Nat.reduceAdd, Nat.reduceSub, Nat.reduceMul, Nat.reduceEqDiff, Nat.reduceLT, Nat.reduceLeDiff, eq_false c16, eq_false c17, lenhx20]
    subst hK
    refine AW.regionL [0, 2, 4, 10, 11] ?_
    generalize hK : inBlockA _ _ Exit.normal = K
    simp only [go_sem, ↓reduceIte, reduceCtorEq, Nat.reduceAdd, Nat.reduceSub, Nat.reduceMul, Nat.reduceEqDiff, Nat.reduceLT, Nat.reduceLeDiff, eq_false c16, eq_false c17, lenhx20]
    subst hK
    refine block_n ?_
    refine thenA_n ?_
    refine ⟨_, (Option.some.inj h).symm, ?_⟩
    exact Ent.canq [] RF.any.qo.qv.qt.qv.qv (.ce (.nil _)) (.nil _)
 ·intro e st' hX
  obtain ⟨y23, y24⟩ := y22
  try dsimp only at h
  try dsimp only at hX
  obtain ⟨rfl, rfl⟩ := hX
  refine ⟨_, Ent.refl, ?_⟩
  refine block_x ?_
  refine thenA_n ?_
  obtain ⟨x25, hx25, h⟩ := Option.bind_eq_some_iff.1 h
  obtain ⟨x26, hx26, h⟩ := Option.bind_eq_some_iff.1 h
  have lenhx25 : x25.length = y24.length := guardO_some.1 hx26
  refine AW.regionL [] ?_
  generalize hK : finJ Tryz.prog _ _ _ _ _ Exit.normal = K
  simp only [go_sem, ↓reduceIte, reduceCtorEq, Nat.reduceAdd, Nat.reduceSub, Nat.reduceMul, Nat.reduceEqDiff, Nat.reduceLT, Nat.reduceLeDiff, lenhx25]
  refine arC.ok (CallOk.icq (us' := _) (ok168_75 y24 (IntKind.i64.wrap (a2 - y23)) a2 y23 x25 hx25) [0] (.cons (.eq (by simp only [go_sem]) (by first | rfl | simp [upd_ap, hpL_ap, sg_ap])) (.nil _)) (by simp only [mapTL_cons, mapTL_nil, mapT_ptr, mapT_own, mapT_val, mapT_sl, mapT_agg, mapT_ip, mapT_clo, mapT_ifc, sg_ap, List.getD_cons_zero, List.getD_cons_succ]; exact (.cons (.of (by first | rfl | simp [mapT_own, sg_ap])) (.cons (.of rfl) (.cons (.of rfl) (.cons (.of rfl) (.cons (.of rfl) .nil))))))) Tryz.call168 ?_
  simp only [go_sem, ↓reduceIte, reduceCtorEq, Nat.reduceAdd, Nat.reduceSub, Nat.reduceMul, Nat.reduceEqDiff, Nat.reduceLT, Nat.reduceLeDiff, lenhx25]
  subst hK
  refine ⟨⟨anyF, hpL [some (.row 3 true (List.map encRes x25))] [], 8⟩, ?_, ?_⟩
  · refine Ent.can [] _ _ _ rfl (by first | decide | simp) rfl ?_ ?_ ?_
    · exact RF.any
    · exact .ce (.nil _)
    · exact .nil _
  obtain rfl := Option.some.inj h
  exact ⟨rfl, rfl, _, rfl, by first | rfl | simp [resOf, upd_ap, bytesI_len]⟩
end Au
end Go.Proofs.Yt
