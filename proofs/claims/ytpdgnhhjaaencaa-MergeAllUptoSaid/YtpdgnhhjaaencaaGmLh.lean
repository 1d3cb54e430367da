import Derived.Test.YtpdgnhhjaaencaaGmLg
set_option linter.all false
set_option linter.unusedVariables false
set_option linter.unusedSimpArgs false
set_option linter.all false
namespace Go.Gm
theorem Ent.stillPtr {N nx sz : Nat} {mu : Bool} {fr : Nat → AV} {hp : AHeap} {cs : List AV} {t : Nat} (d : Nat) (hd : fr d = .ptr t 0 0) (h : hp t = some (.row sz mu [cs])) (hin : inlL cs = true) (hpos : 0 < cs.length) : Ent N ⟨fr, hp, nx⟩ ⟨upd fr d (.ip cs), upd hp t none, nx⟩ := fun P G a w hc => by
  obtain ⟨h1, h2, loc, hM, hr⟩ := conc_iff.1 hc
  clear hc
  refine conc_iff.2 ?_
  obtain ⟨hM', x'⟩ := hM.drop t
  refine ⟨h1, h2, _, hM', fun d' => ?_⟩
  by_cases e : d' = d
  · subst e
    show Rel _ (upd fr d' (.ip cs) d') _
    rw [upd_same]
    have hp0 := hr d'
    rw [hd] at hp0
    obtain ⟨l, hl, hob⟩ := hM.obj t _ h
    have hlt : l.st < l.n := by
      obtain ⟨g1, g2, g3, g4, g5, g6⟩ := hob
      simp only [List.length_cons, List.length_nil] at g4
      omega
    have hlb := hob.lt hlt
    obtain ⟨g1, g2, g3, g4, g5, g6⟩ := hob
    obtain ⟨c, e, fz, vs, k1, k2, k3, k4, k5, k6⟩ := g6 hlt
    generalize (a.tmps.getD d' undef) = v at hp0 ⊢
    cases hp0 with
    | ptr ha hh =>
      rw [hh l hl, Nat.zero_mul, Nat.add_zero]
      have hnm : ¬ (mkE G.m1 (upd hp t none) (fun t => t < nx) (upd loc t none) w).mt l.b := by
        rintro (⟨t', o', l', q1, q2, q3, q4, q5⟩ | hm)
        · by_cases e : t' = t
          · subst e; rw [upd_same] at q1; cases q1
          · rw [upd_other _ _ e] at q3; exact e (hM.inj _ _ _ _ q3 hl q5 hlt q4)
        · exact hM.fgn t l hl hlt hm
      have mv : Move (mkE G.m1 hp (fun t => t < nx) loc w) (mkE G.m1 (upd hp t none) (fun t => t < nx) (upd loc t none) w) :=
        ⟨Nat.le_refl _, fun b _ hn => ⟨fun hm => hn (by
          rcases hm with ⟨t', o', l', q1, q2, q3, q4, q5⟩ | hm
          · by_cases e : t' = t
            · subst e; rw [upd_same] at q1; cases q1
            · rw [upd_other _ _ e] at q1 q3; exact .inl ⟨t', o', l', q1, q2, q3, q4, q5⟩
          · exact .inr hm), rfl⟩⟩
      have k1' : w.heap[l.b]? = some (.cells c e fz) := k1
      simp only [List.flatten_cons, List.flatten_nil, List.append_nil] at k3
      refine .ip hlb hnm k4 (fun q u hq => ?_) (RelL.move mv hin k3)
      show w.cell? ⟨l.b, l.st + q, none⟩ = some u
      simp only [World.cell?, k1', Option.isSome_none, Bool.false_eq_true, if_false]
      exact k5 q u hq
  · show Rel _ (upd fr d (.ip cs) d') _
    rw [upd_other _ _ e]; exact (hr d').ext x'
theorem resV_clo (hp : AHeap) (fn : Fn) (f c : List AV) : resV hp (.clo fn f c) = if inlL f = true ∧ inlL c = true then some (.clo fn f c) else none := by
  simp only [resV, inl, Bool.and_eq_true]
theorem sealV_clo (hp : AHeap) (fn : Fn) (f c : List AV) : sealV hp (.clo fn f c) = if inlL f = true ∧ inlL c = true then some (.clo fn f c, []) else none := by simp only [sealV]
theorem claimV_clo (k : Nat) (fn : Fn) (f c : List AV) : claimV (.clo fn f c) k = (.clo fn f c, []) := by simp only [claimV]
theorem shares_clo (fn : Fn) (f c : List AV) : shares (.clo fn f c) = true := by simp only [shares]
theorem tidV_clo (fn : Fn) (f c : List AV) : tidV (.clo fn f c) = [] := by simp [tidV]
theorem resOf_clo (fn : Fn) (f c : List AV) : resOf [.clo fn f c] = .clo fn f c := (rfl)
attribute [go_sem] resV_clo sealV_clo claimV_clo shares_clo tidV_clo
end Go.Gm

set_option linter.all false
namespace Go.Gm
section
variable {P : Program} {ft : FuncId → List AV → Option AV} {fr : Operand → AV} {hp : AHeap} {id : Nat} {d : Option Tmp} {ty : TypeId} {pos : String} {af : Array Edge} {g : Option (Nat × Bool)}
def catO (a b : ByteArray) : Option ByteArray := if a.size + b.size ≤ 9223372036854775807 then some (a ++ b) else none
theorem catO_some {a b c : ByteArray} : catO a b = some c ↔ a.size + b.size ≤ 9223372036854775807 ∧ a ++ b = c := by
  unfold catO; split <;> simp [*]
theorem binV_cat {t : TypeId} {x y : Operand} {a b c : ByteArray} (h : catO a b = some c) : binV P .add t x y (.string a) (.string b) = some (.string c) := by
  obtain ⟨h1, rfl⟩ := catO_some.1 h
  rw [binV_str]
  have : ¬ (IntKind.i64.max < ((a.size + b.size : Nat) : Int)) := by
    have e : IntKind.max .i64 = 9223372036854775807 := rfl
    rw [e]; omega
  simp only [Op.stringOp]
  rw [if_neg this]; rfl
theorem binV_nbool {t : TypeId} {x y : Operand} {a b : Bool} (hu : P.underlying t = some .bool) : binV P .neq t x y (.bool a) (.bool b) = some (.bool (!decide (a = b))) := by
  have h : evS P (Op.equalIn (9999 + 1) t (.bool a) (.bool b)) = some (decide (a = b)) := by
    unfold Op.equalIn
    rw [evS_bind, evS_under hu]
    simp [evS_pure, beq_dec]
  unfold binV eqGuard
  rw [show (9999 + 1) = Op.maxDepth from rfl] at h
  simp [binOp, evS_bind, evS_pure, evS_program, evS_map, Op.equal, h]
def minI (a b : Int) : Int := if b < a then b else a
def minK (u v : AV) (r : Option AR) : Option AR := match u, v with
  | .val (.int k a), .val (.int _ b) => some ⟨.val (.int k (minI a b)), []⟩
  | _, _ => r
theorem aop_min {x y : Operand} {tys : Array TypeId} : aop P ft fr hp id ⟨d, .call ⟨.builtin .min, #[x, y], tys⟩, ty, pos, af, g⟩ = minK (fr x) (fr y) (plainA P fr ⟨d, .call ⟨.builtin .min, #[x, y], tys⟩, ty, pos, af, g⟩) := by
  show plainA P fr _ = _
  unfold minK
  split
  · rename_i k a k' b hx hy
    refine plainA_of ?_ ?_
    · simp [Op.operands, Call.operands, hx, hy, toV]
    · simp [execOp, hx, hy, toV, Builtin.min_, Builtin.min2, evS_bind, evS_pure, evS_map, builtin, resolve, invoke, minI]
  · rfl
theorem minK_int {k k' : IntKind} {a b : Int} {r : Option AR} : minK (.val (.int k a)) (.val (.int k' b)) r = some ⟨.val (.int k (minI a b)), []⟩ := (rfl)
def plainA2 (P : Program) (fr : Operand → AV) (o : Oper) : Option AR := plainA P fr o
def strCut (P : Program) (t : TypeId) (x : AV) (lo hi : Option AV) (r : Option AR) : Option AR := match x with
  | .val (.string s) => match loOf lo, hiOf s.size hi with
    | some l, some h => if isStrT P t = true ∧ l ≤ h ∧ h ≤ s.size then some ⟨.val (.string (s.extract l h)), []⟩ else r
    | _, _ => r
  | _ => r
theorem natOf_is {a : AV} {n : Nat} (h : natOf a = some n) : ∃ k, a = .val (.int k (n : Int)) := by
  cases a with
  | val v =>
    cases v with
    | int k i =>
      unfold natOf at h
      split at h <;> simp_all
      try omega
    | _ => simp [natOf] at h
  | _ => simp [natOf] at h
theorem evS_bound {k : IntKind} {n m : Nat} {c : BoundsCode} (h : n ≤ m) : evS P (Instr.sliceBound (.int k (n : Int)) m c) = some n := by
  unfold Instr.sliceBound
  simp [asIntOf, evS_bind, evS_pure, h]
theorem plainA_slice {t : TypeId} {x : Operand} {lo hi : Option Operand} : plainA P fr ⟨d, .slice t x lo hi none, ty, pos, af, g⟩ = strCut P t (fr x) (lo.map fr) (hi.map fr) (plainA2 P fr ⟨d, .slice t x lo hi none, ty, pos, af, g⟩) := by
  unfold strCut
  split
  · rename_i s hx
    split
    · rename_i l h hl hh
      split
      · rename_i hc
        obtain ⟨hst, h1, h2⟩ := hc
        have hu := isStrT_eq hst
        cases lo with
        | none =>
          simp only [Option.map_none, loOf, Option.some.injEq] at hl
          subst hl
          cases hi with
          | none =>
            simp only [Option.map_none, hiOf, Option.some.injEq] at hh
            subst hh
            refine plainA_of (by simp [Op.operands, hx, toV]) ?_
            simp [execOp, hx, toV, Instr.sliceAt, Instr.slice, Instr.sliceBounds, evS_bind, evS_pure, evS_under hu, evS_map]
          | some b =>
            obtain ⟨k, hb⟩ := natOf_is (show natOf (fr b) = some h from hh)
            refine plainA_of (by simp [Op.operands, hx, hb, toV]) ?_
            simp [execOp, hx, hb, toV, Instr.sliceAt, Instr.slice, Instr.sliceBounds, evS_bind, evS_pure, evS_under hu, evS_map, evS_bound h2]
        | some a =>
          obtain ⟨k, ha⟩ := natOf_is (show natOf (fr a) = some l from hl)
          cases hi with
          | none =>
            simp only [Option.map_none, hiOf, Option.some.injEq] at hh
            subst hh
            refine plainA_of (by simp [Op.operands, hx, ha, toV]) ?_
            simp [execOp, hx, ha, toV, Instr.sliceAt, Instr.slice, Instr.sliceBounds, evS_bind, evS_pure, evS_under hu, evS_map, evS_bound h1]
          | some b =>
            obtain ⟨k', hb⟩ := natOf_is (show natOf (fr b) = some h from hh)
            refine plainA_of (by simp [Op.operands, hx, ha, hb, toV]) ?_
            simp [execOp, hx, ha, hb, toV, Instr.sliceAt, Instr.slice, Instr.sliceBounds, evS_bind, evS_pure, evS_under hu, evS_map, evS_bound h1, evS_bound h2]
      · rfl
    · rfl
  · rfl
def cutSO? (s : ByteArray) (lo hi : Int) : Option ByteArray := if 0 ≤ lo ∧ lo ≤ hi ∧ hi ≤ s.size then some (s.extract lo.toNat hi.toNat) else none
theorem cutSO?_some {s r : ByteArray} {lo hi : Int} : cutSO? s lo hi = some r ↔ (0 ≤ lo ∧ lo ≤ hi ∧ hi ≤ s.size) ∧ s.extract lo.toNat hi.toNat = r := by
  unfold cutSO?; split <;> simp [*]
theorem natOf_nn {k : IntKind} {n : Int} (h : 0 ≤ n) : natOf (.val (.int k n)) = some n.toNat := by
  obtain ⟨m, rfl⟩ := Int.eq_ofNat_of_zero_le h
  simp [natOf]
theorem strCut_ss {t : TypeId} {s r : ByteArray} {lo hi : Int} {k k' : IntKind} {pl : Option AR} (hst : isStrT P t = true) (h : cutSO? s lo hi = some r) : strCut P t (.val (.string s)) (some (.val (.int k lo))) (some (.val (.int k' hi))) pl = some ⟨.val (.string r), []⟩ := by
  obtain ⟨⟨h1, h2, h3⟩, rfl⟩ := cutSO?_some.1 h
  simp only [strCut, loOf, hiOf, natOf_nn h1, natOf_nn (Int.le_trans h1 h2)]
  rw [if_pos ⟨hst, by omega, by omega⟩]
theorem strCut_sn {t : TypeId} {s r : ByteArray} {lo : Int} {k : IntKind} {pl : Option AR} (hst : isStrT P t = true) (h : cutSO? s lo s.size = some r) : strCut P t (.val (.string s)) (some (.val (.int k lo))) none pl = some ⟨.val (.string r), []⟩ := by
  obtain ⟨⟨h1, h2, h3⟩, rfl⟩ := cutSO?_some.1 h
  simp only [strCut, loOf, hiOf, natOf_nn h1]
  rw [if_pos ⟨hst, by omega, by omega⟩]; simp
theorem strCut_ns {t : TypeId} {s r : ByteArray} {hi : Int} {k' : IntKind} {pl : Option AR} (hst : isStrT P t = true) (h : cutSO? s 0 hi = some r) : strCut P t (.val (.string s)) none (some (.val (.int k' hi))) pl = some ⟨.val (.string r), []⟩ := by
  obtain ⟨⟨h1, h2, h3⟩, rfl⟩ := cutSO?_some.1 h
  simp only [strCut, loOf, hiOf, natOf_nn h2]
  rw [if_pos ⟨hst, by omega, by omega⟩]; rfl
attribute [go_sem] aop_min minK_int plainA_slice
theorem make0_ok {t e sz by_ : Nat} {zs : List AV} {k k' : IntKind} {c : Int} {u : Unit} (hm : makeC P t = some (e, sz, by_, zs)) (hby : by_ ≤ 65536) (h : guardO (0 ≤ c ∧ c ≤ 2147483648) = some u) (id : Nat) :
    makeA P id t (.val (.int k 0)) (.val (.int k' c)) = some ⟨.own id 0 0, [(id, some (.row sz true []))]⟩ := by
  obtain ⟨h0, h1⟩ := guardO_some.1 h
  have hb : by_ * c.toNat ≤ 65536 * 2147483648 := Nat.mul_le_mul hby (by omega)
  unfold makeA
  simp only [hm, natOf_le h0, natOf_le (show (0 : Int) ≤ 0 by decide)]
  rw [if_pos ⟨by simp, by omega, by omega⟩]
  simp [zrow]
theorem byteNums_nil : byteNums [] = some [] := by simp only [byteNums]
theorem byteNums_cons (n : Int) (rs : List (List AV)) : byteNums ([.val (.int .u8 n)] :: rs) = (byteNums rs).map (n :: ·) := by
  simp only [byteNums, byteRow]
  cases byteNums rs <;> rfl
attribute [go_sem] byteNums_nil byteNums_cons
end
end Go.Gm

set_option linter.all false
namespace Go.Gm
structure A3 (α : Type) where
  e0 : α
  e1 : α
  e2 : α
structure A8 (α : Type) where
  e0 : α
  e1 : α
  e2 : α
  e3 : α
  e4 : α
  e5 : α
  e6 : α
  e7 : α
def A8.get {α : Type} (x : A8 α) : Nat → α
  | 0 => x.e0
  | 1 => x.e1
  | 2 => x.e2
  | 3 => x.e3
  | 4 => x.e4
  | 5 => x.e5
  | 6 => x.e6
  | _ => x.e7
def A8.set {α : Type} (x : A8 α) (i : Nat) (v : α) : A8 α :=
  ⟨if i = 0 then v else x.e0, if i = 1 then v else x.e1, if i = 2 then v else x.e2, if i = 3 then v else x.e3, if i = 4 then v else x.e4, if i = 5 then v else x.e5, if i = 6 then v else x.e6, if i = 7 then v else x.e7⟩
theorem all8 {p : Nat → Prop} (h0 : p 0) (h1 : p 1) (h2 : p 2) (h3 : p 3) (h4 : p 4) (h5 : p 5) (h6 : p 6) (h7 : p 7) : ∀ {k : Nat}, k < 8 → p k
  | 0, _ => h0
  | 1, _ => h1
  | 2, _ => h2
  | 3, _ => h3
  | 4, _ => h4
  | 5, _ => h5
  | 6, _ => h6
  | 7, _ => h7
  | n + 8, h => absurd h (by omega)
theorem A8.get_set {α : Type} (x : A8 α) (v : α) {i j : Nat} (hi : i < 8) (hj : j < 8) : (x.set i v).get j = if i = j then v else x.get j := by
  revert hj
  refine all8 (p := fun i => j < 8 → (x.set i v).get j = if i = j then v else x.get j) ?_ ?_ ?_ ?_ ?_ ?_ ?_ ?_ hi <;> intro hj <;>
    exact all8 (p := fun j => (x.set _ v).get j = if _ = j then v else x.get j) rfl rfl rfl rfl rfl rfl rfl rfl hj
theorem idx8 {i : Int} {u : Unit} (h : guardO (0 ≤ i ∧ i < 8) = some u) : i.toNat < 8 := by
  have := guardO_some.1 h; omega
theorem natOf_gd {i n : Int} {k : IntKind} {u : Unit} (h : guardO (0 ≤ i ∧ i < n) = some u) : natOf (.val (.int k i)) = some i.toNat := natOf_le (guardO_some.1 h).1
def pla1 : Nat → Option (Nat × Nat) := fun i => some (i, 1)
theorem pla1_ap (i : Nat) : pla1 i = some (i, 1) := (rfl)
theorem buildA_arr {P : Program} {hp : AHeap} {t e n : Nat} {zs : List AV} {parts : List (Nat × AV)} (hz : zeroC P t = some zs) (hu : arrO P t = some (n, e)) (hs : szO P e = some 1) : buildA P hp t parts = (fillA hp pla1 zs parts).map .agg := by
  have : placeF P t = some pla1 := by
    unfold placeF
    rw [arrO_eq hu]
    unfold szO at hs
    cases hi : P.info? e with
    | none => rw [hi] at hs; cases hs
    | some i =>
      rw [hi] at hs
      simp only [Option.map_some, Option.some.injEq] at hs
      simp only [hi, Option.map_some, hs, Nat.mul_one]
      rfl
  unfold buildA
  rw [hz, this]
attribute [go_sem] pla1_ap
theorem binV_narr3 {P : Program} {t e : Nat} {x y : Operand} {k : IntKind} {a0 a1 a2 b0 b1 b2 : Int} (hu : arrO P t = some (3, e)) (he : P.underlying e = some (.int k)) (hs : szO P e = some 1) (hg : P.eqGuardType P.depth t = false) :
    binV P .neq t x y (.agg #[.int k a0, .int k a1, .int k a2]) (.agg #[.int k b0, .int k b1, .int k b2]) = some (.bool (!(decide (a0 = b0) && (decide (a1 = b1) && decide (a2 = b2))))) := by
  have hsz : evS P (sizeOf e) = some 1 := by
    unfold szO at hs
    cases hi : P.info? e with
    | none => rw [hi] at hs; cases hs
    | some i =>
      rw [hi] at hs
      simp only [Option.map_some, Option.some.injEq] at hs
      unfold sizeOf typeInfo
      simp [evS_bind, evS_program, evS_pure, hi, hs]
  have heq : ∀ (d : Nat) (a b : Int), evS P (Op.equalIn (d + 1) e (.int k a) (.int k b)) = some (decide (a = b)) := fun d a b => by
    unfold Op.equalIn
    rw [evS_bind, evS_under he]
    simp [evS_pure, beq_dec]
  have hpt : ∀ (cs : Array Value) (o : Nat) (v : Value), cs[o]? = some v → evS P (part e cs o) = some v := fun cs o v hv => part_cell he (by simp) (by simp) hv
  have h : evS P (Op.equalIn (9999 + 1) t (.agg #[.int k a0, .int k a1, .int k a2]) (.agg #[.int k b0, .int k b1, .int k b2])) = some (decide (a0 = b0) && (decide (a1 = b1) && decide (a2 = b2))) := by
    unfold Op.equalIn
    rw [evS_bind, evS_under (arrO_eq hu)]
    simp only [Option.bind_some, evS_bind, hsz]
    simp only [Std.Legacy.Range.forIn_eq_forIn_range', Std.Legacy.Range.size, List.range', List.forIn_cons, List.forIn_nil, evS_bind, Nat.reduceSub, Nat.reduceAdd, Nat.reduceDiv, Nat.mul_one]
    rw [hpt _ 0 (.int k a0) rfl, hpt _ 0 (.int k b0) rfl]
    simp only [Option.bind_some, heq 9998]
    by_cases h0 : a0 = b0
    · simp only [h0, decide_true, Bool.not_true, Bool.false_eq_true, if_false, evS_pure, Option.bind_some, evS_bind, Bool.true_and]
      rw [hpt _ 1 (.int k a1) rfl, hpt _ 1 (.int k b1) rfl]
      simp only [Option.bind_some, heq 9998]
      by_cases h1 : a1 = b1
      · simp only [h1, decide_true, Bool.not_true, Bool.false_eq_true, if_false, evS_pure, Option.bind_some, evS_bind, Bool.true_and]
        rw [hpt _ 2 (.int k a2) rfl, hpt _ 2 (.int k b2) rfl]
        simp only [Option.bind_some, heq 9998]
        by_cases h2 : a2 = b2
        · simp [h2, evS_pure]
        · simp [h2, evS_pure]
      · simp [h1, evS_pure]
    · simp [h0, evS_pure]
  unfold binV eqGuard
  rw [show (9999 + 1) = Op.maxDepth from rfl] at h
  simp [binOp, evS_bind, evS_pure, evS_program, evS_map, Op.equal, h, hg]
end Go.Gm
namespace Go.Gm
inductive StL (t off len : Nat) (x : AV) : List AV → List AV → Prop
  | nil : StL t off len x [] []
  | keep {u : AV} {us us' : List AV} (h : StL t off len x us us') : StL t off len x (u :: us) (u :: us')
  | own {us us' : List AV} (h : StL t off len x us us') : StL t off len x (.own t off len :: us) (x :: us')
theorem CallOk.still {P : Program} {f : FuncId} {us us' : List AV} {hp : AHeap} {id : Nat} {r : AR} {x : AV} {t off len : Nat} (hx : resV hp (.own t off len) = some x) (hs : StL t off len x us us') (h : CallOk P f us' (upd hp t none) id r) :
    CallOk P f us hp id ⟨r.v, (t, none) :: r.eff⟩ := fun G al loc w vs hM hf hr => by
  obtain ⟨hM', x'⟩ := hM.drop t
  have one : ∀ v, Rel (mkE G.m1 hp al loc w) (.own t off len) v → Rel (mkE G.m1 (upd hp t none) al (upd loc t none) w) x v := fun v hv => by
    have hb := res_rel (G := G) hM (m := fun b => G.m1 b ∨ mtOf (upd hp t none) (upd loc t none) b) (fun b hb => hb.imp (fun h => h) fun ⟨t', o', l', k1, k2, k3, k4, k5⟩ => by
      by_cases e : t' = t
      · subst e; rw [upd_same] at k1; cases k1
      · rw [upd_other _ _ e] at k1 k3; exact ⟨t', o', l', k1, k2, k3, k4, k5⟩) hv hx (fun t1 o1 n1 l he hl hlt => by
        cases he
        rintro (hb | ⟨t', o', l', k1, k2, k3, k4, k5⟩)
        · exact hM.fgn t l hl hlt hb
        · by_cases e : t' = t
          · subst e; rw [upd_same] at k1; cases k1
          · rw [upd_other _ _ e] at k3; exact e (hM.inj _ _ _ _ k3 hl k5 hlt k4))
    have mv : Move (E0 (fun b => G.m1 b ∨ mtOf (upd hp t none) (upd loc t none) b) w) (mkE G.m1 (upd hp t none) al (upd loc t none) w) :=
      ⟨Nat.le_refl _, fun b _ hn => ⟨fun hm => hn (Or.inr (hm.elim Or.inr Or.inl)), rfl⟩⟩
    refine Rel.move mv ?_ hb
    simp only [resV] at hx
    split at hx
    · split at hx
      · rename_i hc; cases hx; simp [inl, hc.2]
      · cases hx
    · cases hx
  have hall : ∀ {us us' : List AV} {vs : List Value}, StL t off len x us us' → RelL (mkE G.m1 hp al loc w) us vs → RelL (mkE G.m1 (upd hp t none) al (upd loc t none) w) us' vs := fun {us us' vs} hs => by
    induction hs generalizing vs with
    | nil => intro h; cases h; exact .nil
    | keep _ ih => intro h; cases h with | cons a b => exact .cons (a.ext x') (ih b)
    | own _ ih => intro h; cases h with | cons a b => exact .cons (one _ a) (ih b)
  refine (h G al _ w vs hM' hf (hall hs hr)).mono ?_
  rintro e w' ⟨v, loc', rfl, h1, h2, h3⟩
  exact ⟨v, loc', rfl, h1, x'.trans h2, h3⟩
end Go.Gm
namespace Go.Gm
theorem callQ_noFt (hp : AHeap) (id : Nat) (f : FuncId) (us : List AV) (q : Option (List AV)) : callQ noFt hp id f us q = none := by
  cases q <;> rfl
attribute [go_sem] callQ_noFt
end Go.Gm
namespace Go.Gm
theorem resV_ptr0 (hp : AHeap) : resV hp (.val (.pointer none)) = some (.val (.pointer none)) := (rfl)
theorem claimV_ptr0 (k : Nat) : claimV (.val (.pointer none)) k = (.val (.pointer none), []) := claimV_val _ _
attribute [go_sem] resV_ptr0
end Go.Gm
namespace Go.Gm
theorem lapp_nil {α : Type} (m : List α) : List.append [] m = m := (rfl)
theorem lapp_cons {α : Type} (a : α) (l m : List α) : List.append (a :: l) m = a :: List.append l m := (rfl)
attribute [go_sem] lapp_nil lapp_cons
end Go.Gm

set_option linter.all false
namespace Go.Gm
structure A32 (α : Type) where
  e0 : α
  e1 : α
  e2 : α
  e3 : α
  e4 : α
  e5 : α
  e6 : α
  e7 : α
  e8 : α
  e9 : α
  e10 : α
  e11 : α
  e12 : α
  e13 : α
  e14 : α
  e15 : α
  e16 : α
  e17 : α
  e18 : α
  e19 : α
  e20 : α
  e21 : α
  e22 : α
  e23 : α
  e24 : α
  e25 : α
  e26 : α
  e27 : α
  e28 : α
  e29 : α
  e30 : α
  e31 : α
def A32.get {α : Type} (x : A32 α) : Nat → α
  | 0 => x.e0
  | 1 => x.e1
  | 2 => x.e2
  | 3 => x.e3
  | 4 => x.e4
  | 5 => x.e5
  | 6 => x.e6
  | 7 => x.e7
  | 8 => x.e8
  | 9 => x.e9
  | 10 => x.e10
  | 11 => x.e11
  | 12 => x.e12
  | 13 => x.e13
  | 14 => x.e14
  | 15 => x.e15
  | 16 => x.e16
  | 17 => x.e17
  | 18 => x.e18
  | 19 => x.e19
  | 20 => x.e20
  | 21 => x.e21
  | 22 => x.e22
  | 23 => x.e23
  | 24 => x.e24
  | 25 => x.e25
  | 26 => x.e26
  | 27 => x.e27
  | 28 => x.e28
  | 29 => x.e29
  | 30 => x.e30
  | _ => x.e31
theorem all32 {p : Nat → Prop} (h0 : p 0) (h1 : p 1) (h2 : p 2) (h3 : p 3) (h4 : p 4) (h5 : p 5) (h6 : p 6) (h7 : p 7) (h8 : p 8) (h9 : p 9) (h10 : p 10) (h11 : p 11) (h12 : p 12) (h13 : p 13) (h14 : p 14) (h15 : p 15) (h16 : p 16) (h17 : p 17) (h18 : p 18) (h19 : p 19) (h20 : p 20) (h21 : p 21) (h22 : p 22) (h23 : p 23) (h24 : p 24) (h25 : p 25) (h26 : p 26) (h27 : p 27) (h28 : p 28) (h29 : p 29) (h30 : p 30) (h31 : p 31) : ∀ {k : Nat}, k < 32 → p k
  | 0, _ => h0
  | 1, _ => h1
  | 2, _ => h2
  | 3, _ => h3
  | 4, _ => h4
  | 5, _ => h5
  | 6, _ => h6
  | 7, _ => h7
  | 8, _ => h8
  | 9, _ => h9
  | 10, _ => h10
  | 11, _ => h11
  | 12, _ => h12
  | 13, _ => h13
  | 14, _ => h14
  | 15, _ => h15
  | 16, _ => h16
  | 17, _ => h17
  | 18, _ => h18
  | 19, _ => h19
  | 20, _ => h20
  | 21, _ => h21
  | 22, _ => h22
  | 23, _ => h23
  | 24, _ => h24
  | 25, _ => h25
  | 26, _ => h26
  | 27, _ => h27
  | 28, _ => h28
  | 29, _ => h29
  | 30, _ => h30
  | 31, _ => h31
  | n + 32, h => absurd h (by omega)
theorem idx32 {i : Int} {u : Unit} (h : guardO (0 ≤ i ∧ i < 32) = some u) : i.toNat < 32 := by
  have := guardO_some.1 h; omega
def idxP (P : Program) (t : TypeId) (a b : Option Value) : Option AR := match a, b with
  | some a, some b => (evS P (Instr.index t a b)).map fun v => ⟨.val v, []⟩
  | _, _ => none
theorem plain_index {P : Program} {fr : Operand → AV} {d : Option Tmp} {t : TypeId} {x i : Operand} {ty : TypeId} {pos : String} {af : Array Edge} {g : Option (Nat × Bool)} : plainA P fr ⟨d, .index t x i, ty, pos, af, g⟩ = idxP P t (toV (fr x)) (toV (fr i)) := by
  unfold plainA plainOp idxP
  cases ha : toV (fr x) <;> cases hb : toV (fr i) <;> simp [Op.operands, ha, hb, execOp, evS_bind, evS_pure]
  rename_i a b
  simp only [evS_map]
  cases evS P (Instr.index t a b) <;> rfl
theorem idxP_arr {P : Program} {t e n : Nat} {k k' : IntKind} {i : Int} {u : Unit} {vs : Array Value} {v : Value} (hu : arrO P t = some (n, e)) (he : P.underlying e = some (.int k)) (hs : szO P e = some 1) (h : guardO (0 ≤ i ∧ i < (n : Int)) = some u) (hv : vs[i.toNat]? = some v) :
    idxP P t (some (.agg vs)) (some (.int k' i)) = some ⟨.val v, []⟩ := by
  have hi := guardO_some.1 h
  have hsz : evS P (sizeOf e) = some 1 := by
    unfold szO at hs
    cases hq : P.info? e with
    | none => rw [hq] at hs; cases hs
    | some i =>
      rw [hq] at hs
      simp only [Option.map_some, Option.some.injEq] at hs
      unfold sizeOf typeInfo
      simp [evS_bind, evS_program, evS_pure, hq, hs]
  have hp : evS P (part e vs (i.toNat * 1)) = some v := by
    rw [Nat.mul_one]; exact part_cell he (by simp) (by simp) hv
  unfold idxP Instr.index
  simp only [asIntOf, evS_bind, evS_pure, Option.bind_some, evS_under (arrO_eq hu), if_pos hi, hsz, hp, Option.map_some]
theorem map_ix {α : Type} {enc : α → List AV} {l : List α} {i : Nat} {x : α} (h : l[i]? = some x) : (l.map enc)[i]? = some (enc x) := by simp [h]
attribute [go_sem] plain_index
end Go.Gm
namespace Go.Gm
def cmpI (P : Program) (d : Nat) (e : TypeId) (xs ys : Array Value) (sz : Nat) : List Nat → Option Bool
  | [] => some true
  | i :: l => ((evS P (part e xs (i * sz))).bind fun u => (evS P (part e ys (i * sz))).bind fun v => evS P (Op.equalIn d e u v)).bind fun r => if r = true then cmpI P d e xs ys sz l else some false
theorem eq_arr {P : Program} {d : Nat} {t e n sz : Nat} {xs ys : Array Value} (hu : P.underlying t = some (.array n e)) (hs : evS P (sizeOf e) = some sz) :
    evS P (Op.equalIn (d + 1) t (.agg xs) (.agg ys)) = cmpI P d e xs ys sz (List.range' 0 n) := by
  unfold Op.equalIn
  rw [evS_bind, evS_under hu]
  simp only [Option.bind_some, evS_bind, hs]
  simp only [Std.Legacy.Range.forIn_eq_forIn_range', Std.Legacy.Range.size, Nat.sub_zero, Nat.add_sub_cancel, Nat.div_one]
  generalize List.range' 0 n = l
  induction l with
  | nil => rfl
  | cons i l ih =>
    rw [List.forIn_cons, evS_bind]
    simp only [cmpI, evS_bind, Option.bind_assoc]
    cases evS P (part e xs (i * sz)) with
    | none => rfl
    | some u =>
      cases evS P (part e ys (i * sz)) with
      | none => rfl
      | some v =>
        simp only [Option.bind_some]
        cases evS P (Op.equalIn d e u v) with
        | none => rfl
        | some r =>
          cases r with
          | true =>
            simp only [Option.bind_some, Bool.not_true, Bool.false_eq_true, if_false, if_true, evS_pure]
            exact ih
          | false =>
            simp only [Option.bind_some, Bool.not_false, Bool.false_eq_true, if_false, if_true, evS_pure]
theorem cmpI_int {P : Program} {d e : Nat} {k : IntKind} {xs ys : Array Value} {a b : Nat → Int} (he : P.underlying e = some (.int k)) : ∀ (l : List Nat), (∀ i ∈ l, xs[i]? = some (.int k (a i)) ∧ ys[i]? = some (.int k (b i))) →
    cmpI P (d + 1) e xs ys 1 l = some (l.all fun i => decide (a i = b i))
  | [], _ => rfl
  | i :: l, h => by
    obtain ⟨h1, h2⟩ := h i (by simp)
    have heq : evS P (Op.equalIn (d + 1) e (.int k (a i)) (.int k (b i))) = some (decide (a i = b i)) := by
      unfold Op.equalIn
      rw [evS_bind, evS_under he]
      simp [evS_pure, beq_dec]
    simp only [cmpI, Nat.mul_one, part_cell he (by simp) (by simp) h1, part_cell he (by simp) (by simp) h2, Option.bind_some, heq, List.all_cons]
    rw [cmpI_int he l (fun j hj => h j (by simp [hj]))]
    by_cases c : a i = b i <;> simp [c]
theorem binV_narr {P : Program} {t e n : Nat} {x y : Operand} {k : IntKind} {xs ys : Array Value} {a b : Nat → Int} (hu : arrO P t = some (n, e)) (he : P.underlying e = some (.int k)) (hs : szO P e = some 1) (hg : P.eqGuardType P.depth t = false)
    (h : ∀ i, i < n → xs[i]? = some (.int k (a i)) ∧ ys[i]? = some (.int k (b i))) :
    binV P .neq t x y (.agg xs) (.agg ys) = some (.bool (!(List.range' 0 n).all fun i => decide (a i = b i))) := by
  have hsz : evS P (sizeOf e) = some 1 := by
    unfold szO at hs
    cases hi : P.info? e with
    | none => rw [hi] at hs; cases hs
    | some i =>
      rw [hi] at hs
      simp only [Option.map_some, Option.some.injEq] at hs
      unfold sizeOf typeInfo
      simp [evS_bind, evS_program, evS_pure, hi, hs]
  have hq : evS P (Op.equalIn (9999 + 1) t (.agg xs) (.agg ys)) = some ((List.range' 0 n).all fun i => decide (a i = b i)) := by
    rw [eq_arr (arrO_eq hu) hsz]
    exact cmpI_int (d := 9998) he _ (fun i hi => h i (by rw [List.mem_range'] at hi; obtain ⟨j, hj, rfl⟩ := hi; omega))
  unfold binV eqGuard
  rw [show (9999 + 1) = Op.maxDepth from rfl] at hq
  simp [binOp, evS_bind, evS_pure, evS_program, evS_map, Op.equal, hq, hg]
end Go.Gm
namespace Go.Gm
theorem idxO_agg {P : Program} {t : TypeId} {cs : List AV} {y : AV} {pl : Option AR} : idxO P t (.agg cs) y pl = pl := (rfl)
attribute [go_sem] idxO_agg
end Go.Gm

set_option linter.all false
namespace Go.Gm
theorem Weak.fnclo {f : FuncId} : Weak (.val (.func (.func f) #[] #[])) (.clo (.func f) [] []) := fun _ _ h => by
  cases h with
  | val => exact .clo (f' := []) (c' := []) .nil .nil
theorem Ent.fnclo {N nx : Nat} {fr : Nat → AV} {hp : AHeap} {f : FuncId} (d : Nat) (h : fr d = .val (.func (.func f) #[] #[])) : Ent N ⟨fr, hp, nx⟩ ⟨upd fr d (.clo (.func f) [] []), hp, nx⟩ := .w (FrW.put1 (by rw [h]; exact Weak.fnclo))
theorem set_row {α : Type} {enc : α → List AV} {y : α} {r : List AV} (h : enc y = r) (l : List α) (i : Nat) : (l.map enc).set i r = (l.set i y).map enc := by rw [← h, List.map_set]
attribute [go_sem] resA resOf_1 resOf_2 sealV_val sealV_sl sealV_ip sealV_agg sealV_tup sealV_own sealL_nil sealL_cons sealV_clo resOf_clo
/-- The end of a function that hands back nothing, up to what a state tells. -/
def finJ (P : Program) (N : Nat) (rs : List ResultVar) (X : AV) (a1 b1 : List (Option AObj)) (e : Exit) (st : ASt) : Prop := ∃ st', Ent N st st' ∧ finI P rs X a1 b1 e st'
theorem ic_ofJ {P : Program} {f : FuncId} {fn : Func} {c : Code} {us : List AV} {X : AV} {a0 a1 b1 : List (Option AObj)} {N : Nat} {rs : List ResultVar} (hf : P.funcs[f]? = some fn) (hb : fn.body = some c) (hN : fn.ntmps = N) (hrs : fn.results.toList = rs) (hn : us.length ≤ N)
    (h : AW P N c (finJ P N rs X a1 b1) ⟨initF us, hpL a0 [], 8⟩) : IC P f a0 us X a1 b1 :=
  ic_of hf hb hN hrs hn (h.mono fun _ _ h => h)
theorem mapT_clo (τ : Nat → Nat) (f : Fn) (a b : List AV) : mapT τ (.clo f a b) = .clo f (mapTL τ a) (mapTL τ b) := by simp only [mapT]
theorem tokL_clo0 (m : Nat) (f : Fn) : tokL m (.clo f [] []) = true := by simp [tokL, tokLL]
attribute [go_sem] tokL_clo0
end Go.Gm

set_option linter.unusedVariables false
set_option linter.unusedSimpArgs false
namespace Go.Gm
/-- Rows that lie in a field: written no more. -/
theorem Ent.stillRow {N nx sz : Nat} {mu : Bool} {fr : Nat → AV} {hp : AHeap} {pre post : List AV} {R1 R2 : List (List AV)} {x : AV} {q off len : Nat} (t : Nat) (h : hp t = some (.row sz mu (R1 ++ (pre ++ .own q off len :: post) :: R2))) (hx : resV hp (.own q off len) = some x) (hne : t ≠ q) :
    Ent N ⟨fr, hp, nx⟩ ⟨fr, upd (upd hp q none) t (some (.row sz mu (R1 ++ (pre ++ x :: post) :: R2))), nx⟩ := fun P G a w hc => by
  obtain ⟨c1, c2, loc, hM, hr⟩ := conc_iff.1 hc
  clear hc
  let hp' : AHeap := upd (upd hp q none) t (some (.row sz mu (R1 ++ (pre ++ x :: post) :: R2)))
  let loc' := upd loc q none
  have hother : ∀ t', t' ≠ t → t' ≠ q → hp' t' = hp t' := fun t' h1 h2 => by simp only [hp', upd_other _ _ h1, upd_other _ _ h2]
  have hq : hp' q = none := by simp only [hp', upd_other _ _ (Ne.symm hne), upd_same]
  have ht : hp' t = some (.row sz mu (R1 ++ (pre ++ x :: post) :: R2)) := by simp only [hp', upd_same]
  have hmt : ∀ b, mtOf hp' loc' b → mtOf hp loc b := by
    rintro b ⟨t', o', l', h1, h2, h3, h4, h5⟩
    by_cases e2 : t' = q
    · subst e2; rw [hq] at h1; cases h1
    · have h3' : loc t' = some l' := by simpa only [loc', upd_other _ _ e2] using h3
      by_cases e : t' = t
      · subst e; rw [ht] at h1; cases h1; exact ⟨t', _, l', h, h2, h3', h4, h5⟩
      · rw [hother t' e e2] at h1; exact ⟨t', o', l', h1, h2, h3', h4, h5⟩
  have xx : Ext (mkE G.m1 hp (fun t => t < nx) loc w) (mkE G.m1 hp' (fun t => t < nx) loc' w) := mk_ext (fun _ h => h) (fun t' l ha hl => by
    by_cases e : t' = q
    · subst e; simp only [loc', upd_same] at hl; cases hl
    · simpa only [loc', upd_other _ _ e] using hl) (Nat.le_refl _) (fun b _ => hmt b) (fun _ _ _ => rfl)
  have hin : inl x = true := by
    simp only [resV] at hx
    split at hx
    · split at hx
      · rename_i hc; cases hx; simp [inl, hc.2]
      · cases hx
    · cases hx
  have hval : ∀ v, Rel (mkE G.m1 hp (fun t => t < nx) loc w) (.own q off len) v → Rel (mkE G.m1 hp' (fun t => t < nx) loc' w) x v := fun v hv => by
    have hb := res_rel (G := G) hM (m := fun b => G.m1 b ∨ mtOf hp' loc' b) (fun b hb => hb.imp id (hmt b)) hv hx (fun t1 o1 n1 l he hl hlt => by
      cases he
      rintro (hb | ⟨t', o', l', k1, k2, k3, k4, k5⟩)
      · exact hM.fgn q l hl hlt hb
      · by_cases e : t' = q
        · subst e; rw [hq] at k1; cases k1
        · have k3' : loc t' = some l' := by simpa only [loc', upd_other _ _ e] using k3
          exact e (hM.inj _ _ _ _ k3' hl k5 hlt k4))
    have mv : Move (E0 (fun b => G.m1 b ∨ mtOf hp' loc' b) w) (mkE G.m1 hp' (fun t => t < nx) loc' w) :=
      ⟨Nat.le_refl _, fun b _ hn => ⟨fun hm => hn (Or.inr (hm.elim Or.inr Or.inl)), rfl⟩⟩
    exact Rel.move mv hin hb
  refine conc_iff.2 ⟨c1, c2, loc', hM.change xx (fun t' o' ho => ?_) (fun t' ho => ?_) (fun t' l hl => ?_) (fun t1 t2 l1 l2 k1 k2 => ?_) rfl rfl rfl (fun b hb => .inl (hmt b hb)) (fun t' l k1 k2 => ?_), fun d => (hr d).ext xx⟩
  · by_cases e2 : t' = q
    · subst e2; exact absurd ho (by rw [show upd (upd hp t' none) t (some (.row sz mu (R1 ++ (pre ++ x :: post) :: R2))) t' = none from hq]; simp)
    · by_cases e : t' = t
      · subst e
        have ho' : o' = .row sz mu (R1 ++ (pre ++ x :: post) :: R2) := by
          have : hp' t' = some o' := ho
          rw [ht] at this; cases this; rfl
        subst ho'
        obtain ⟨l, hl', g1, g2, g3, g4, g5, g6⟩ := hM.obj t' _ h
        refine .inr ⟨l, by simpa only [loc', upd_other _ _ e2] using hl', g1, g2, fun r hr => ?_, by simpa using g4, g5, fun hpos => ?_⟩
        · have := g3 (pre ++ .own q off len :: post) (by simp)
          rcases List.mem_append.1 hr with hr | hr
          · exact g3 r (List.mem_append_left _ hr)
          · rcases List.mem_cons.1 hr with rfl | hr
            · simpa using this
            · exact g3 r (List.mem_append_right _ (List.mem_cons_of_mem _ hr))
        · obtain ⟨c, e, fz, vs, k1, k2, k3, k4, k5, k6⟩ := g6 hpos
          refine ⟨c, e, fz, vs, k1, k2, ?_, k4, k5, k6⟩
          simp only [List.flatten_append, List.flatten_cons] at k3 ⊢
          obtain ⟨v0, v3, rfl, hv0, hv3⟩ := k3.split
          obtain ⟨v4, v5, rfl, hv4, hv5⟩ := hv3.split
          obtain ⟨v1, v2, rfl, hv1, hv2⟩ := hv4.split
          cases hv2 with
          | cons ho hs => exact (hv0.ext xx).append (((hv1.ext xx).append (.cons (hval _ ho) (hs.ext xx))).append (hv5.ext xx))
      · exact .inl ⟨(hother t' e e2).symm.trans ho, by simp only [loc', upd_other _ _ e2], fun _ _ _ => rfl⟩
  · by_cases e2 : t' = q
    · subst e2; simp only [loc', upd_same]
    · simp only [loc', upd_other _ _ e2]
      by_cases e : t' = t
      · subst e; have : hp' t' = none := ho; rw [ht] at this; cases this
      · exact hM.none_ t' ((hother t' e e2).symm.trans ho)
  · by_cases e2 : t' = q
    · subst e2; simp only [loc', upd_same] at hl; cases hl
    · exact hM.al_ t' l (by simpa only [loc', upd_other _ _ e2] using hl)
  · have g : ∀ t l, loc' t = some l → loc t = some l := fun t l hl => by
      by_cases e2 : t = q
      · subst e2; simp only [loc', upd_same] at hl; cases hl
      · simpa only [loc', upd_other _ _ e2] using hl
    exact hM.inj _ _ _ _ (g _ _ k1) (g _ _ k2)
  · by_cases e2 : t' = q
    · subst e2; simp only [loc', upd_same] at k1; cases k1
    · exact .inl ⟨t', l, by simpa only [loc', upd_other _ _ e2] using k1, k2, rfl⟩
end Go.Gm

set_option linter.unusedVariables false
set_option linter.unusedSimpArgs false
namespace Go.Gm
theorem oper_normN {P : Program} {o : Oper} {a : Act} {w : World} {K K' R : Act → World → Prop} {Q : Exit → Act → World → Prop} (hk : ∀ a w, K a w → K' a w)
    (h : o.wp P a w K (fun e a w => e = .normal ∧ R a w)) : o.wp P a w K' Q := by
  unfold Oper.wp at *
  generalize (execOp a.eval o).run P w = r at *
  cases r with
  | ok n w' =>
    cases n <;> simp only [Oper.upon] at h ⊢ <;>
      first
        | exact hk _ _ h
        | exact Calls.mono h (fun e w'' he => by
            cases e with
            | returned v => exact hk _ _ he
            | panicked ch => exact absurd he.1 (by simp)
            | outgrown => obtain ⟨a, w, h, _⟩ := he; cases h)
        | exact Rows.mono h (fun _ _ he => hk _ _ he)
  | halt x w' => cases x <;> simp only [Oper.upon] at h ⊢ <;> first | exact absurd h.1 (by simp) | exact h
theorem oper_normI {F : Fence} {n : Nat} {P : Program} {o : Oper} {a : Act} {w : World} {K K' R : Act → World → Prop} {Q : Exit → Act → World → Prop} (hk : ∀ a w, K a w → K' a w)
    (h : o.wpIn F n P a w K (fun e a w => e = .normal ∧ R a w)) : o.wpIn F n P a w K' Q := by
  unfold Oper.wpIn at *
  refine ⟨h.1, ?_⟩
  have h := h.2
  generalize (o.semAt F.round a.eval).run P w = r at *
  cases r with
  | ok x w' =>
    cases x <;> first
      | exact hk _ _ h
      | exact h.elim
      | exact ⟨h.1, RowsIn.mono h.2 fun _ _ he => hk _ _ he⟩
      | exact ⟨h.1, CallsIn.mono h.2 fun e w' he => match e, he with
          | .returned _, he => hk _ _ he
          | .panicked _, he => absurd he.1 (by simp)
          | .outgrown, he => absurd he.choose_spec.choose_spec.1 (by simp)⟩
      | exact ⟨h.1, RoundIn.mono h.2 fun e w' he => match e, he with
          | .returned _, he => hk _ _ he
          | .panicked _, he => absurd he.1 (by simp)
          | .outgrown, he => absurd he.choose_spec.choose_spec.1 (by simp)⟩
  | halt x w' => cases x <;> first | exact absurd h.1 (by simp) | exact h.elim
theorem wpList_append {P : Program} {ops : Array Oper} {K : Act → World → Prop} {Q : Exit → Act → World → Prop} {rest : List Oper} (hk : ∀ a w, K a w → wpList P ops Q rest a w) :
    ∀ (pre : List Oper) (a : Act) (w : World), wpList P ops (fun e a w => e = .normal ∧ K a w) pre a w → wpList P ops Q (pre ++ rest) a w
  | [], a, w, h => hk a w h.2
  | o :: L, a, w, h => by
    have hl : ¬ LetsOut (fun e (a : Act) (w : World) => e = Exit.normal ∧ K a w) := by rintro ⟨_, _, h, _⟩; cases h
    show wpList P ops Q (o :: (L ++ rest)) a w
    unfold wpList at h ⊢
    split
    · rename_i hw
      rw [if_pos hw] at h
      rcases h with h | h
      · exact .inl (oper_normN (fun a w h => wpList_append hk L a w h) h)
      · exact absurd h.2 hl
    · rename_i hw
      rw [if_neg hw] at h
      exact wpList_append hk L _ _ h
theorem wpListIn_append {F : Fence} {n : Nat} {P : Program} {ops : Array Oper} {K : Act → World → Prop} {Q : Exit → Act → World → Prop} {rest : List Oper} (hk : ∀ a w, K a w → wpListIn F n P ops Q rest a w) :
    ∀ (pre : List Oper) (a : Act) (w : World), wpListIn F n P ops (fun e a w => e = .normal ∧ K a w) pre a w → wpListIn F n P ops Q (pre ++ rest) a w
  | [], a, w, h => hk a w h.2
  | o :: L, a, w, h => by
    show wpListIn F n P ops Q (o :: (L ++ rest)) a w
    unfold wpListIn at h ⊢
    split
    · rename_i hw
      rw [if_pos hw] at h
      exact oper_normI (fun a w h => wpListIn_append hk L a w h) h
    · rename_i hw
      rw [if_neg hw] at h
      exact ⟨h.1, wpListIn_append hk L _ _ h.2⟩
theorem WL.append {md : Option (Nat × Nat)} {P : Program} {ops : Array Oper} {K : Act → World → Prop} {Q : Exit → Act → World → Prop} {pre rest : List Oper} {a : Act} {w : World} (hk : ∀ a w, K a w → WL md P ops Q rest a w)
    (h : WL md P ops (fun e a w => e = .normal ∧ K a w) pre a w) : WL md P ops Q (pre ++ rest) a w := by
  cases md with
  | none => exact wpList_append hk _ _ _ h
  | some x => exact wpListIn_append hk _ _ _ h
theorem AW.regS {P : Program} {N id : Nat} {y : Code} {Q : Exit → ASt → Prop} {st : ASt} {ops : List Oper} (k : Nat) (l : List Nat)
    (h : arun P N ops (ops.take k) st (fun s1 => ∃ s2, Ent N s1 s2 ∧ arun P N ops (ops.drop k) s2 (fun s3 => AW P N y Q ⟨restr s3.fr l, s3.hp, s3.nx⟩))) : AW P N (.seq (.region id ops.toArray false) y) Q st :=
  AW.seq fun md G a w hc => WP.list (by
    show WL md P ops.toArray _ ops a w
    have hs : ∀ L, L = ops.take k ++ ops.drop k → WL md P ops.toArray (fun e a' w' => ∃ st', thenA (AW P N y Q) Q e st' ∧ Conc G N st' a' w') L a w := by
      rintro L rfl
      refine WL.append (K := fun a w => ∃ s1, (∃ s2, Ent N s1 s2 ∧ arun P N ops (ops.drop k) s2 (fun s3 => AW P N y Q ⟨restr s3.fr l, s3.hp, s3.nx⟩)) ∧ Conc G N s1 a w) ?_ (arun_sound (fun s a w hq hc => ⟨rfl, s, hq, hc⟩) hc h)
      rintro a1 w1 ⟨s1, ⟨s2, hE, hr⟩, hc1⟩
      exact arun_sound (fun s a w hq hc => ⟨_, hq, Ent.restr l P G a w hc⟩) (hE P G a1 w1 hc1) hr
    exact hs ops (List.take_append_drop k ops).symm)
end Go.Gm
