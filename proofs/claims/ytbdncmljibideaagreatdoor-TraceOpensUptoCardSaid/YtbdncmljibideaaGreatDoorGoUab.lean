import Derived.Test.YtbdncmljibideaaGreatDoorGoUaa
import Derived.Lib.ConvBytes
import Derived.Laws.BytesArg
import Derived.MapKept
import GoSem.Instr.Lookup
import Derived.Scope
import Derived.Deep.LoopGhost
import Derived.OrdersIn
import Derived.TacticsIn
import Derived.RangeFuncCalls
set_option linter.all false
namespace Go.Gm
section
variable {P : Program} {G : Ghost P} {hp : AHeap} {al : Nat → Prop} {loc : Nat → Option Loc} {w : World} {id : Nat}
def makeA (P : Program) (id : Nat) (t : TypeId) (l c : AV) : Option AR :=
 match makeC P t, natOf l, natOf c with
 | some (_, sz, by_, zs), some l, some c => if l ≤ c ∧ by_ * c ≤ 281474976710656 ∧ c ≤ 140737488355328 then some ⟨.own id 0 l, [(id, some (.row sz true (zrow l zs)))]⟩ else none
 | _, _, _ => none
theorem does_make {t : TypeId} {l c : AV} {l' c' : Value} {r : AR} (hM : Mem G hp al loc w) (hf : ¬ al id) (hl : Rel (mkE G.m1 hp al loc w) l l') (hc : Rel (mkE G.m1 hp al loc w) c c') (h : makeA P id t l c = some r) :
  Does P (do pure (.value (← Instr.makeSlice t l' c'))) G hp al loc w id r := by
 unfold makeA at h
 split at h
 ·rename_i e sz by_ zs n m hmk hn hm
  obtain ⟨hu, hi, hz, hzl⟩ := makeC_eq hmk
  split at h
  ·rename_i hcond
   obtain ⟨h1, h2, h3⟩ := hcond
   cases h
   obtain ⟨kl, rfl⟩ := rel_nat hl hn
   obtain ⟨kc, rfl⟩ := rel_nat hc hm
   obtain ⟨i, z, hii, hzz, hs, hb, hzs, hsz⟩ := zeroC_len hi
   obtain ⟨z2, hzr, hzl2, hz1, hz0⟩ := zeroV hz
   have hz2 : z2 = z := by
    have := hzr w
    simp [zeroValue, typeInfo, hii, hzz] at this
    exact this.symm
   subst hz2
   have hb' : (i.bytes : Int) * (m : Int) ≤ 281474976710656 := by
    have : ((by_ * m : Nat) : Int) ≤ 281474976710656 := by omega
    rw [hb]; rwa [Int.natCast_mul] at this
   have hrun := run_make (P := P) w t e i z2 hu hii hzz kl kc n m (by omega) (by omega) hb' (by omega)
   simp only [Int.toNat_natCast, hs] at hrun
   have hcs : (madeCells z2.cells (m * sz)).size = m * sz := size_madeCells _ _
   have hmt : (madeCells z2.cells (m * sz)).toList = (List.replicate m z2.cells.toList).flatten := by rw [madeCells, ← hzs]; exact modRow z2.cells hz0 m
   have hrl : RelL (mkE G.m1 hp al loc w) (zrow n zs).flatten (List.replicate n z2.cells.toList).flatten := by rw [zrow, hzl2]; exact flatten_replicate_vals _ _
   obtain ⟨loc', hM', x, hl'⟩ := mem_new (vs := (List.replicate n z2.cells.toList).flatten) hM hf (w1 := w) rfl rfl rfl rfl (c := madeCells z2.cells (m * sz)) (e := e) (fz := (0, 0)) (rows := zrow n zs) hsz (by simp [zrow, hzl]) hrl
    (fun v hv => by
     obtain ⟨q, hq, hvq⟩ := List.mem_flatten.1 hv
     rw [List.eq_of_mem_replicate hq] at hvq
     exact hz1 v hvq)
    (fun k v hk => by
     rw [← Array.getElem?_toList, hmt]
     have : (List.replicate m z2.cells.toList).flatten = (List.replicate n z2.cells.toList).flatten ++ (List.replicate (m - n) z2.cells.toList).flatten := by
      rw [← List.flatten_append, List.replicate_append_replicate]; congr 2; omega
     rw [this, List.getElem?_append_left (List.getElem?_eq_some_iff.1 hk).1]; exact hk)
    (by rw [hcs]; simp only [zrow, List.length_replicate]; exact Nat.mul_le_mul_right _ h1) (by simp) ⟨m, hcs⟩
   refine ⟨.value (.slice (some ⟨w.heap.size, 0, none⟩) n m), _, _, loc', by simp [hrun], .inl rfl, hM', x, ?_⟩
   have := own_new (G := G) (al := al) (id := id) (rows := zrow n zs) (c := madeCells z2.cells (m * sz)) (loc' := loc') (hp' := upd hp id (some (.row sz true (zrow n zs)))) (w' := w.alloc (.cells (madeCells z2.cells (m * sz)) e)) (cap := m) hl' hsz hcs (by simpa [zrow] using h1)
   simp only [zrow, List.length_replicate] at this ⊢
   exact this
  ·cases h
 ·cases h
def isU8 (P : Program) (e : TypeId) : Bool := match P.underlying e with
 | some (.int .u8) => true
 | _ => false
def isStrT (P : Program) (e : TypeId) : Bool := match P.underlying e with
 | some .string => true
 | _ => false
theorem isU8_eq {e : TypeId} (h : isU8 P e = true) : P.underlying e = some (.int .u8) := by unfold isU8 at h; split at h <;> simp_all
theorem isStrT_eq {e : TypeId} (h : isStrT P e = true) : P.underlying e = some .string := by unfold isStrT at h; split at h <;> simp_all
theorem bytesWorld_eq (w : World) (e : TypeId) (s : ByteArray) : Lib.bytesWorld w e s = w.drew.alloc (.cells (Lib.bytesCells w e s) e ((Lib.bytesCells w e s).size, (Lib.bytesCells w e s).size + 1)) := by
 have hh : (Lib.bytesWorld w e s).heap = (w.drew.alloc (.cells (Lib.bytesCells w e s) e ((Lib.bytesCells w e s).size, (Lib.bytesCells w e s).size + 1))).heap := by
  apply Array.ext_getElem?
  intro j
  by_cases h1 : j < w.heap.size
  ·rw [Lib.bytesWorld_at_old w e s j h1, heap_alloc_lt w.drew _ j h1]; rfl
  ·by_cases h2 : j = w.heap.size
   ·subst h2; rw [Lib.bytesWorld_at_new]; exact (heap_alloc_new w.drew _).symm
   ·rw [Array.getElem?_eq_none, Array.getElem?_eq_none]
    ·simp; omega
    ·rw [Lib.bytesWorld_size]; omega
 have e1 : (Lib.bytesWorld w e s) = { (Lib.bytesWorld w e s) with heap := (Lib.bytesWorld w e s).heap } := rfl
 rw [e1, hh]
 rfl
def toBytesA (P : Program) (id : Nat) (src dst : TypeId) (x : AV) : Option AR :=
 match x, elemO P dst with
 | .val (.string s), some e => if isStrT P src = true ∧ isU8 P e = true ∧ szO P e = some 1 then some ⟨.own id 0 s.size, [(id, some (.row 1 true (bytesRows s)))]⟩ else none
 | _, _ => none
theorem does_toBytes {src dst : TypeId} {x : AV} {v : Value} {r : AR} (hM : Mem G hp al loc w) (hf : ¬ al id) (hr : Rel (mkE G.m1 hp al loc w) x v) (h : toBytesA P id src dst x = some r) :
  Does P (do pure (.value (← convert src dst v))) G hp al loc w id r := by
 unfold toBytesA at h
 split at h
 ·rename_i s e hd
  split at h
  ·rename_i hc
   obtain ⟨c1, c2, c3⟩ := hc
   cases h
   cases hr
   have hrun := Lib.run_convert_string_bytes (P := P) w src dst e s (isStrT_eq c1) (elemO_eq hd) (isU8_eq c2)
   rw [bytesWorld_eq] at hrun
   have hge := grownCap_ge w s.size 0 e
   have hcs : (Lib.bytesCells w e s).size = grownCap w s.size 0 e * 1 := by simp [Lib.bytesCells]; omega
   obtain ⟨loc', hM', xx, hl'⟩ := mem_new (vs := byteCells s) hM hf (w1 := w.drew) rfl rfl rfl rfl (c := Lib.bytesCells w e s) (e := e) (fz := ((Lib.bytesCells w e s).size, (Lib.bytesCells w e s).size + 1)) (rows := bytesRows s) (by omega) (by simp [bytesRows])
    (relL_bytes s) (by simp [byteCells]; intro a _; rfl) (fun k u hk => by
     have hlt : k < (byteCells s).length := (List.getElem?_eq_some_iff.1 hk).1
     rw [byteCells_length] at hlt
     rw [← hk, Lib.bytesCells, Array.getElem?_append_left (by simpa using hlt), ← Array.getElem?_toList]
     simp [byteCells])
    (by rw [hcs, bytesRows_length]; omega) (fun k hk => by simp; omega) ⟨_, hcs⟩
   refine ⟨.value (.slice (some ⟨w.heap.size, 0, none⟩) s.size (grownCap w s.size 0 e)), _, _, loc', by simp [hrun], .inl rfl, hM', xx, ?_⟩
   have := own_new (G := G) (al := al) (id := id) (rows := bytesRows s) (c := Lib.bytesCells w e s) (loc' := loc') (hp' := upd hp id (some (.row 1 true (bytesRows s)))) (w' := w.drew.alloc (.cells (Lib.bytesCells w e s) e ((Lib.bytesCells w e s).size, (Lib.bytesCells w e s).size + 1))) (cap := grownCap w s.size 0 e) hl' (by omega) hcs (by rw [bytesRows_length]; exact hge)
   rw [bytesRows_length] at this
   exact this
  ·cases h
 ·cases h
def byteRow : List AV → Option Int
 | [.val (.int .u8 n)] => some n
 | _ => none
def byteNums : List (List AV) → Option (List Int)
 | [] => some []
 | r :: rs => match byteRow r, byteNums rs with
  | some n, some ns => some (n :: ns)
  | _, _ => none
theorem byteNums_rel {E : Env} : ∀ {rows : List (List AV)} {ns : List Int} {vs : List Value}, byteNums rows = some ns → RelL E rows.flatten vs → vs = ns.map (Value.int .u8 ·)
 | [], ns, vs, h, hl => by simp [byteNums] at h; subst h; cases hl; rfl
 | r :: rs, ns, vs, h, hl => by
  simp only [byteNums] at h
  split at h
  ·rename_i n ns' hr hrs
   cases h
   unfold byteRow at hr
   split at hr
   ·rename_i m
    cases hr
    simp only [List.flatten_cons, List.cons_append, List.nil_append] at hl
    cases hl with
    | cons h1 hs => cases h1; simp [byteNums_rel hrs hs]
   ·cases hr
  ·cases h
theorem byteNums_length : ∀ {rows : List (List AV)} {ns : List Int}, byteNums rows = some ns → ns.length = rows.length
 | [], ns, h => by simp [byteNums] at h; subst h; rfl
 | r :: rs, ns, h => by
  simp only [byteNums] at h
  split at h
  ·rename_i n ns' hr hrs; cases h; simp [byteNums_length hrs]
  ·cases h
def toStrA (P : Program) (hp : AHeap) (src dst : TypeId) (x : AV) : Option AV :=
 match rowsOf hp x, elemO P src with
 | some rows, some e => if isStrT P dst = true ∧ isU8 P e = true then (byteNums rows).map fun ns => .val (.string (strOfNums ns)) else none
 | _, _ => none
theorem does_toStr {src dst : TypeId} {x u : AV} {v : Value} (hM : Mem G hp al loc w) (hr : Rel (mkE G.m1 hp al loc w) x v) (h : toStrA P hp src dst x = some u) :
  Does P (do pure (.value (← convert src dst v))) G hp al loc w id ⟨u, []⟩ := by
 unfold toStrA at h
 split at h
 ·rename_i rows e hrows he
  split at h
  ·rename_i hc
   obtain ⟨c1, c2⟩ := hc
   cases hb : byteNums rows with
   | none => rw [hb] at h; cases h
   | some ns =>
    rw [hb] at h; cases h
    obtain ⟨p, c, rfl, hcap, hh⟩ := rel_rows hM hr hrows
    have hnl := byteNums_length hb
    refine does_pure (v := .string (strOfNums ns)) hM ?_ (.val _)
    by_cases hne : rows = []
    ·subst hne
     have : ns = [] := List.eq_nil_of_length_eq_zero (by simpa using hnl)
     subst this
     cases p with
     | none => simp [convert, underlying, elemO_eq he, isStrT_eq c1, isU8_eq c2, Conv.bytesToString, strOfNums]; rfl
     | some a =>
      obtain ⟨b, o, sp⟩ := a
      simp [convert, underlying, elemO_eq he, isStrT_eq c1, isU8_eq c2, Conv.bytesToString, strOfNums, loadCells, loadCellsFrom]; rfl
    ·obtain ⟨b, o, sz, vs, rfl, h0, hsz, hl, hci, h1⟩ := hh hne
     have hvs := byteNums_rel hb hl
     subst hvs
     have := run_convert_bytes_arg (P := P) w src e (elemO_eq he) (isU8_eq c2) b o rows.length c ns hnl (fun i hi => by
      refine hci i _ ?_
      rw [List.getElem?_map, List.getD_eq_getElem?_getD, List.getElem?_eq_getElem (by omega)]; rfl) dst (isStrT_eq c1)
     simp [this]
  ·cases h
 ·cases h
end
end Go.Gm
namespace Go.Gm
mutual
def inl : AV → Bool
 | .val _ => true
 | .agg cs => inlL cs
 | .tup cs => inlL cs
 | .sl rows => inlR rows
 | .ip cs => inlL cs
 | .clo _ f c => inlL f && inlL c
 | .ifc _ u => inl u
 | .any => true
 | .im _ => true
 | _ => false
def inlL : List AV → Bool
 | [] => true
 | c :: cs => inl c && inlL cs
def inlR : List (List AV) → Bool
 | [] => true
 | r :: rs => inlL r && inlR rs
end
theorem inlL_append : ∀ (a b : List AV), inlL (a ++ b) = (inlL a && inlL b)
 | [], b => by simp [inlL]
 | c :: cs, b => by simp [inlL, inlL_append cs b, Bool.and_assoc]
theorem inlR_flatten : ∀ (rows : List (List AV)), inlR rows = inlL rows.flatten
 | [] => rfl
 | r :: rs => by simp [inlR, inlR_flatten rs, inlL_append]
theorem inlR_of : ∀ {rows : List (List AV)}, (∀ r ∈ rows, inlL r = true) → inlR rows = true
 | [], _ => rfl
 | r :: rs, h => by
  have h2 : inlR rs = true := inlR_of fun x hx => h x (List.mem_cons_of_mem _ hx)
  simp [inlR, h r (by simp), h2]
structure Move (E E' : Env) : Prop where
 size : E.w.heap.size ≤ E'.w.heap.size
 keep : ∀ b, b < E.w.heap.size → ¬ E.mt b → ¬ E'.mt b ∧ E'.w.heap[b]? = E.w.heap[b]?
mutual
theorem Rel.move {E E' : Env} (x : Move E E') : ∀ {u : AV} {v : Value}, inl u = true → Rel E u v → Rel E' u v
 | _, _, _, .any v => .any v
 | _, _, _, .val v => .val v
 | _, _, h, .agg hl => .agg (RelL.move x (by simpa [inl] using h) hl)
 | _, _, h, .tup hl => .tup (RelL.move x (by simpa [inl] using h) hl)
 | _, _, _, .sl0 a c => .sl0 a c
 | _, _, h, .sl hb hm hr hsz h0 hcap h1 hc hl =>
  .sl (Nat.lt_of_lt_of_le hb x.size) (x.keep _ hb hm).1 hr hsz h0 hcap h1 (fun k v hk => (cell_of_heap (x.keep _ hb hm).2).trans (hc k v hk)) (RelL.move x (by rw [inl, inlR_flatten] at h; exact h) hl)
 | _, _, h, .own .. => by simp [inl] at h
 | _, _, h, .ptr .. => by simp [inl] at h
 | _, _, h, .ip hb hm h1 hc hl =>
  .ip (Nat.lt_of_lt_of_le hb x.size) (x.keep _ hb hm).1 h1 (fun k v hk => (cell_of_heap (x.keep _ hb hm).2).trans (hc k v hk)) (RelL.move x (by simpa [inl] using h) hl)
 | _, _, h, .clo hf hc => .clo (RelL.move x (by simp [inl] at h; exact h.1) hf) (RelL.move x (by simp [inl] at h; exact h.2) hc)
 | _, _, h, .ifc hu => .ifc (Rel.move x (by simpa [inl] using h) hu)
 | _, _, h, .mp .. => by simp [inl] at h
 | _, _, _, .im hb hm h he => .im (Nat.lt_of_lt_of_le hb x.size) (x.keep _ hb hm).1 ((x.keep _ hb hm).2.trans h) he
 | _, _, _, .im0 => .im0
theorem RelL.move {E E' : Env} (x : Move E E') : ∀ {us : List AV} {vs : List Value}, inlL us = true → RelL E us vs → RelL E' us vs
 | _, _, _, .nil => .nil
 | _, _, h, .cons hu hs => .cons (Rel.move x (by simp [inlL] at h; exact h.1) hu) (RelL.move x (by simp [inlL] at h; exact h.2) hs)
end
mutual
def shares : AV → Bool
 | .val _ => false
 | .fr _ _ => true
 | .agg cs => sharesL cs
 | .tup cs => sharesL cs
 | _ => true
def sharesL : List AV → Bool
 | [] => false
 | c :: cs => shares c || sharesL cs
def sharesR : List (List AV) → Bool
 | [] => false
 | r :: rs => sharesL r || sharesR rs
end
theorem sharesL_append : ∀ (a b : List AV), sharesL (a ++ b) = (sharesL a || sharesL b)
 | [], b => by simp [sharesL]
 | c :: cs, b => by simp [sharesL, sharesL_append cs b, Bool.or_assoc]
theorem sharesR_flatten : ∀ (rows : List (List AV)), sharesR rows = sharesL rows.flatten
 | [] => rfl
 | r :: rs => by simp [sharesR, sharesR_flatten rs, sharesL_append]
mutual
theorem Rel.alone {E E' : Env} : ∀ {u : AV} {v : Value}, shares u = false → Rel E u v → Rel E' u v
 | _, _, _, .val v => .val v
 | _, _, h, .agg hl => .agg (RelL.alone (by simpa [shares] using h) hl)
 | _, _, h, .tup hl => .tup (RelL.alone (by simpa [shares] using h) hl)
 | _, _, h, .any v => by simp [shares] at h
 | _, _, h, .sl0 .. => by simp [shares] at h
 | _, _, h, .sl .. => by simp [shares] at h
 | _, _, h, .own .. => by simp [shares] at h
 | _, _, h, .ptr .. => by simp [shares] at h
 | _, _, h, .ip .. => by simp [shares] at h
 | _, _, h, .clo .. => by simp [shares] at h
 | _, _, h, .ifc .. => by simp [shares] at h
 | _, _, h, .mp .. => by simp [shares] at h
 | _, _, h, .im .. => by simp [shares] at h
 | _, _, h, .im0 => by simp [shares] at h
theorem RelL.alone {E E' : Env} : ∀ {us : List AV} {vs : List Value}, sharesL us = false → RelL E us vs → RelL E' us vs
 | _, _, _, .nil => .nil
 | _, _, h, .cons hu hs => by
  simp only [sharesL, Bool.or_eq_false_iff] at h
  exact .cons (Rel.alone h.1 hu) (RelL.alone h.2 hs)
end
mutual
def claimV : AV → Nat → AV × List AObj
 | .fr sz rows, k => (.own k 0 rows.length, [.row sz true rows])
 | .agg cs, k => (.agg (claimL cs k).1, (claimL cs k).2)
 | .tup cs, k => (.tup (claimL cs k).1, (claimL cs k).2)
 | u, _ => (u, [])
def claimL : List AV → Nat → List AV × List AObj
 | [], _ => ([], [])
 | c :: cs, k => ((claimV c k).1 :: (claimL cs (k + (claimV c k).2.length)).1, (claimV c k).2 ++ (claimL cs (k + (claimV c k).2.length)).2)
end
mutual
def sealV (hp : AHeap) : AV → Option (AV × List Nat)
 | .own t off len => match hp t with
  | some (.row sz true rows) => if off = 0 ∧ len = rows.length ∧ inlR rows = true then some (.fr sz rows, [t]) else none
  | _ => none
 | .agg cs => (sealL hp cs).map fun x => (.agg x.1, x.2)
 | .tup cs => (sealL hp cs).map fun x => (.tup x.1, x.2)
 | .val v => some (.val v, [])
 | .sl rows => if inlR rows = true then some (.sl rows, []) else none
 | .ip cs => if inlL cs = true then some (.ip cs, []) else none
 | .ifc t u => if inl u = true then some (.ifc t u, []) else none
 | .clo fn f c => if inlL f = true ∧ inlL c = true then some (.clo fn f c, []) else none
 | .any => some (.any, [])
 | .im es => some (.im es, [])
 | _ => none
def sealL (hp : AHeap) : List AV → Option (List AV × List Nat)
 | [] => some ([], [])
 | c :: cs => match sealV hp c, sealL hp cs with
  | some (x, ts), some (xs, ts') => some (x :: xs, ts ++ ts')
  | _, _ => none
end
mutual
theorem seal_claim {hp : AHeap} {E E' : Env} : ∀ {u X : AV} {ts : List Nat} {k : Nat} {v : Value}, (shares X = true → Move E E') → sealV hp u = some (X, ts) → Rel E u v →
  (∀ (i t : Nat), ts[i]? = some t → E'.loc (k + i) = E.loc t ∧ E'.al (k + i)) →
  Rel E' (claimV X k).1 v ∧ (claimV X k).2.length = ts.length ∧ ∀ (i t : Nat), ts[i]? = some t → (claimV X k).2[i]? = hp t
 | .own t off len, X, ts, k, v, mv, h, hr, hk => by
  simp only [sealV] at h
  split at h
  ·rename_i sz rows ho
   split at h
   ·rename_i hc
    obtain ⟨c1, c2, c3⟩ := hc
    cases h
    subst c1
    obtain ⟨hl, ha⟩ := hk 0 t rfl
    simp only [Nat.add_zero] at hl ha
    refine ⟨?_, rfl, fun i t' hi => ?_⟩
    ·cases hr with
     | own _ hh => simp only [claimV]; rw [← c2]; exact .own ha fun l hl' => hh l (hl ▸ hl')
    ·cases i with
     | zero => simp at hi; subst hi; simp [claimV, ho]
     | succ i => simp at hi
   ·cases h
  ·cases h
 | .agg cs, X, ts, k, v, mv, h, hr, hk => by
  simp only [sealV, Option.map_eq_some_iff] at h
  obtain ⟨⟨xs, ts'⟩, h1, h2⟩ := h
  cases h2
  cases hr with
  | agg hl =>
   obtain ⟨a, b, c⟩ := sealL_claim (by simpa [shares] using mv) h1 hl hk
   exact ⟨.agg a, b, c⟩
 | .tup cs, X, ts, k, v, mv, h, hr, hk => by
  simp only [sealV, Option.map_eq_some_iff] at h
  obtain ⟨⟨xs, ts'⟩, h1, h2⟩ := h
  cases h2
  cases hr with
  | tup hl =>
   obtain ⟨a, b, c⟩ := sealL_claim (by simpa [shares] using mv) h1 hl hk
   exact ⟨.tup a, b, c⟩
 | .val v', X, ts, k, v, mv, h, hr, hk => by
  simp only [sealV, Option.some.injEq, Prod.mk.injEq] at h
  obtain ⟨rfl, rfl⟩ := h
  exact ⟨by cases hr; exact .val _, rfl, by simp⟩
 | .sl rows, X, ts, k, v, mv, h, hr, hk => by
  simp only [sealV] at h
  split at h
  ·rename_i hi
   cases h
   exact ⟨by simp only [claimV]; exact Rel.move (mv rfl) (by simpa [inl] using hi) hr, rfl, by simp⟩
  ·cases h
 | .ip cs, X, ts, k, v, mv, h, hr, hk => by
  simp only [sealV] at h
  split at h
  ·rename_i hi
   cases h
   exact ⟨by simp only [claimV]; exact Rel.move (mv rfl) (by simpa [inl] using hi) hr, rfl, by simp⟩
  ·cases h
 | .ifc t u, X, ts, k, v, mv, h, hr, hk => by
  simp only [sealV] at h
  split at h
  ·rename_i hi
   cases h
   exact ⟨by simp only [claimV]; exact Rel.move (mv rfl) (by simpa [inl] using hi) hr, rfl, by simp⟩
  ·cases h
 | .any, X, ts, k, v, mv, h, hr, hk => by
  simp only [sealV, Option.some.injEq, Prod.mk.injEq] at h
  obtain ⟨rfl, rfl⟩ := h
  exact ⟨.any v, rfl, by simp⟩
 | .fr .., X, ts, k, v, mv, h, hr, hk => by simp [sealV] at h
 | .ptr .., X, ts, k, v, mv, h, hr, hk => by simp [sealV] at h
 | .clo fn f c, X, ts, k, v, mv, h, hr, hk => by
  simp only [sealV] at h
  split at h
  ·rename_i hi
   cases h
   exact ⟨by simp only [claimV]; exact Rel.move (mv rfl) (by simp [inl, hi.1, hi.2]) hr, rfl, by simp⟩
  ·cases h
 | .mp .., X, ts, k, v, mv, h, hr, hk => by simp [sealV] at h
 | .im es, X, ts, k, v, mv, h, hr, hk => by
  simp only [sealV, Option.some.injEq, Prod.mk.injEq] at h
  obtain ⟨rfl, rfl⟩ := h
  exact ⟨by simp only [claimV]; exact Rel.move (mv rfl) (by simp [inl]) hr, rfl, by simp⟩
theorem sealL_claim {hp : AHeap} {E E' : Env} : ∀ {us Xs : List AV} {ts : List Nat} {k : Nat} {vs : List Value}, (sharesL Xs = true → Move E E') → sealL hp us = some (Xs, ts) → RelL E us vs →
  (∀ (i t : Nat), ts[i]? = some t → E'.loc (k + i) = E.loc t ∧ E'.al (k + i)) →
  RelL E' (claimL Xs k).1 vs ∧ (claimL Xs k).2.length = ts.length ∧ ∀ (i t : Nat), ts[i]? = some t → (claimL Xs k).2[i]? = hp t
 | [], Xs, ts, k, vs, mv, h, hr, hk => by
  simp only [sealL, Option.some.injEq, Prod.mk.injEq] at h
  obtain ⟨rfl, rfl⟩ := h
  cases hr
  exact ⟨.nil, rfl, by simp⟩
 | c :: cs, Xs, ts, k, vs, mv, h, hr, hk => by
  simp only [sealL] at h
  split at h
  ·rename_i x t1 xs t2 h1 h2
   cases h
   cases hr with
   | cons hc hcs =>
    obtain ⟨a1, b1, c1⟩ := seal_claim (k := k) (fun hx => mv (by simp [sharesL, hx])) h1 hc (fun i t hi => hk i t (by rw [List.getElem?_append_left (List.getElem?_eq_some_iff.1 hi).1]; exact hi))
    obtain ⟨a2, b2, c2⟩ := sealL_claim (k := k + (claimV x k).2.length) (fun hx => mv (by simp [sharesL, hx])) h2 hcs (fun i t hi => by
     have := hk (t1.length + i) t (by rw [List.getElem?_append_right (by omega)]; simpa using hi)
     rw [b1, Nat.add_assoc]; exact this)
    rw [b1] at a2 b2 c2
    refine ⟨by simp only [claimL, b1]; exact .cons a1 a2, by simp [claimL, b1, b2], fun i t hi => ?_⟩
    simp only [claimL, b1]
    by_cases hlt : i < t1.length
    ·rw [List.getElem?_append_left hlt] at hi
     rw [List.getElem?_append_left (by omega)]; exact c1 i t hi
    ·rw [List.getElem?_append_right (by omega)] at hi
     rw [List.getElem?_append_right (by rw [b1]; omega), b1]; exact c2 _ t hi
  ·cases h
end
mutual
theorem seal_obj {hp : AHeap} : ∀ {u X : AV} {ts : List Nat}, sealV hp u = some (X, ts) → ∀ t ∈ ts, ∃ sz rows, hp t = some (.row sz true rows) ∧ inlR rows = true ∧ (sharesR rows = true → shares X = true)
 | .own t off len, X, ts, h, q, hq => by
  simp only [sealV] at h
  split at h
  ·rename_i sz rows ho
   split at h
   ·rename_i hc
    cases h
    simp at hq; subst hq
    exact ⟨sz, rows, ho, hc.2.2, fun h => by simpa [shares] using h⟩
   ·cases h
  ·cases h
 | .agg cs, X, ts, h, q, hq => by
  simp only [sealV, Option.map_eq_some_iff] at h
  obtain ⟨⟨xs, ts'⟩, h1, h2⟩ := h
  cases h2
  obtain ⟨a, b, c, d, e⟩ := sealL_obj h1 q hq
  exact ⟨a, b, c, d, fun h => by simpa [shares] using e h⟩
 | .tup cs, X, ts, h, q, hq => by
  simp only [sealV, Option.map_eq_some_iff] at h
  obtain ⟨⟨xs, ts'⟩, h1, h2⟩ := h
  cases h2
  obtain ⟨a, b, c, d, e⟩ := sealL_obj h1 q hq
  exact ⟨a, b, c, d, fun h => by simpa [shares] using e h⟩
 | .val v', X, ts, h, q, hq => by simp only [sealV, Option.some.injEq, Prod.mk.injEq] at h; obtain ⟨rfl, rfl⟩ := h; cases hq
 | .sl rows, X, ts, h, q, hq => by simp only [sealV] at h; split at h <;> cases h; cases hq
 | .ip cs, X, ts, h, q, hq => by simp only [sealV] at h; split at h <;> cases h; cases hq
 | .ifc t u, X, ts, h, q, hq => by simp only [sealV] at h; split at h <;> cases h; cases hq
 | .any, X, ts, h, q, hq => by simp only [sealV, Option.some.injEq, Prod.mk.injEq] at h; obtain ⟨rfl, rfl⟩ := h; cases hq
 | .fr .., X, ts, h, q, hq => by simp [sealV] at h
 | .ptr .., X, ts, h, q, hq => by simp [sealV] at h
 | .clo fn f c, X, ts, h, q, hq => by simp only [sealV] at h; split at h <;> cases h; cases hq
 | .mp .., X, ts, h, q, hq => by simp [sealV] at h
 | .im es, X, ts, h, q, hq => by simp only [sealV, Option.some.injEq, Prod.mk.injEq] at h; obtain ⟨rfl, rfl⟩ := h; cases hq
theorem sealL_obj {hp : AHeap} : ∀ {us Xs : List AV} {ts : List Nat}, sealL hp us = some (Xs, ts) → ∀ t ∈ ts, ∃ sz rows, hp t = some (.row sz true rows) ∧ inlR rows = true ∧ (sharesR rows = true → sharesL Xs = true)
 | [], Xs, ts, h, q, hq => by simp only [sealL, Option.some.injEq, Prod.mk.injEq] at h; obtain ⟨rfl, rfl⟩ := h; cases hq
 | c :: cs, Xs, ts, h, q, hq => by
  simp only [sealL] at h
  split at h
  ·rename_i x t1 xs t2 h1 h2
   cases h
   rcases List.mem_append.1 hq with hq | hq
   ·obtain ⟨a, b, c, d, e⟩ := seal_obj h1 q hq
    exact ⟨a, b, c, d, fun h => by simp [sharesL, e h]⟩
   ·obtain ⟨a, b, c, d, e⟩ := sealL_obj h2 q hq
    exact ⟨a, b, c, d, fun h => by simp [sharesL, e h]⟩
  ·cases h
end
def E0 (m : Nat → Prop) (w : World) : Env := mkE m (fun _ => none) (fun _ => False) (fun _ => none) w
def PC (P : Program) (f : FuncId) (us : List AV) (X : AV) : Prop :=
 ∀ (m : Nat → Prop) (w : World) (vs : List Value) (hm : ∀ b, m b → b < w.heap.size) (ht : TabH P (fun _ => False) w), RelL (E0 m w) us vs → Calls P f vs.toArray w fun e w' =>
  ∃ v hp al loc r ts, e = .returned v ∧ Mem ⟨w, fun _ => False, m, hm, 0, fun _ => none, Nat.zero_le _, ht⟩ hp al loc w' ∧ Rel (mkE m hp al loc w') r v ∧ sealV hp r = some (X, ts) ∧ ts.Nodup
section
variable {P : Program} {G : Ghost P} {hp : AHeap} {al : Nat → Prop} {loc : Nat → Option Loc} {w : World} {id : Nat}
def resV (hp : AHeap) : AV → Option AV
 | .own t off len => match hp t with
  | some (.row _ _ rows) => if off + len ≤ rows.length ∧ inlR ((rows.drop off).take len) = true then some (.sl ((rows.drop off).take len)) else none
  | _ => none
 | .val (.slice none 0 0) => some (.sl [])
 | u => if inl u = true then some u else none
def resL (hp : AHeap) : List AV → Option (List AV)
 | [] => some []
 | u :: us => match resV hp u, resL hp us with
  | some x, some xs => some (x :: xs)
  | _, _ => none
theorem move0 (m : Nat → Prop) (hm : ∀ b, m b → G.m1 b ∨ mtOf hp loc b) : Move (mkE G.m1 hp al loc w) (E0 m w) :=
 ⟨Nat.le_refl _, fun b _ hn => ⟨fun h => by
  rcases h with ⟨t, o, l, h1, _⟩ | h
  ·cases h1
  ·rcases hm b h with h | h
   ·exact hn (.inr h)
   ·exact hn (.inl h), rfl⟩⟩
theorem res_rel (hM : Mem G hp al loc w) {m : Nat → Prop} (hm : ∀ b, m b → G.m1 b ∨ mtOf hp loc b) {u x : AV} {v : Value} (hr : Rel (mkE G.m1 hp al loc w) u v) (h : resV hp u = some x)
  (hfz : ∀ t off len l, u = .own t off len → loc t = some l → l.st < l.n → ¬ m l.b) : Rel (E0 m w) x v := by
 have mv := move0 (G := G) (hp := hp) (al := al) (loc := loc) (w := w) m hm
 unfold resV at h
 split at h
 ·rename_i t off len
  split at h
  ·rename_i sz mu rows ho
   split at h
   ·rename_i hc
    obtain ⟨hle, hin⟩ := hc
    cases h
    have hrows : rowsOf hp (.own t off len) = some ((rows.drop off).take len) := by simp [rowsOf, ho, hle]
    obtain ⟨l, hl, g1, g2, g3, g4, g5⟩ := mem_loc hM ho
    have hlen : ((rows.drop off).take len).length = len := by simp; omega
    by_cases hne : (rows.drop off).take len = []
    ·obtain ⟨p, c, rfl, hc, _⟩ := rel_rows hM hr hrows
     rw [hne]; exact .sl0 _ _
    ·have hne2 : rows ≠ [] := fun e => hne (by rw [e]; simp)
     obtain ⟨l2, c, ec, fz, vs, hl2, _, _, _, h4, h5, _, h7, h8, h9, _, _, _, hlt⟩ := mem_row hM ho hne2
     have : l2 = l := Option.some.inj (hl2.symm.trans hl)
     subst this
     have hv : ownV l2 off len v := by cases hr with | own _ hh => exact hh l2 hl
     obtain ⟨a, cap, rfl, q1, q2, q3, q4⟩ := hv
     have hpos : 0 < len := by
      rcases Nat.eq_zero_or_pos len with e | e
      ·subst e; simp at hne
      ·exact e
     have ha := q4 (by omega)
     subst ha
     have := Rel.sl (E := E0 m w) (rows := (rows.drop off).take len) (b := l2.b) (o := l2.st + off * l2.sz) (cap := cap) (sz := sz) (vs := (vs.drop (off * sz)).take (len * sz)) (Array.getElem?_eq_some_iff.1 h4).1
      (by rintro (⟨t', o', l', h1, _⟩ | h); cases h1; exact hfz t off len l2 rfl hl hlt h) hne (fun r hr => g3 r (List.mem_of_mem_drop (List.mem_of_mem_take hr))) g2 (by rw [hlen]; exact q3)
      (fun v hv => h8 v (List.mem_of_mem_drop (List.mem_of_mem_take hv))) (by rw [g1]; exact (CellsIn.drop (w := w) h9 (off * sz)).take _)
      (RelL.move mv (by rw [← inlR_flatten]; exact hin) (by rw [flatten_take (fun r hr => g3 r (List.mem_of_mem_drop hr)), flatten_drop g3]; exact (h7.drop _).take _))
     rw [hlen] at this
     exact this
   ·cases h
  ·cases h
 ·cases h; cases hr; exact .sl0 _ _
 ·split at h
  ·rename_i hi
   cases h; exact Rel.move mv hi hr
  ·cases h
def tidV : AV → List Nat
 | .own t _ _ => [t]
 | _ => []
def freezeL (hp : AHeap) : List Nat → List (Nat × Option AObj)
 | [] => []
 | t :: ts => match hp t with
  | some (.row sz true rows) => (t, some (.row sz false rows)) :: freezeL hp ts
  | _ => freezeL hp ts
def effOf (os : List AObj) (k : Nat) : List (Nat × Option AObj) := match os with
 | [] => []
 | o :: os => (k, some o) :: effOf os (k + 1)
theorem nodup_inj {ts : List Nat} (h : ts.Nodup) : ∀ {i j t : Nat}, ts[i]? = some t → ts[j]? = some t → i = j := by
 intro i j t hi hj
 have h1 := List.getElem?_eq_some_iff.1 hi
 have h2 := List.getElem?_eq_some_iff.1 hj
 exact (List.getElem?_inj h1.1 h).1 (hi.trans hj.symm)
theorem effOf_app : ∀ (os : List AObj) (k : Nat) (hp : AHeap), (∀ (i : Nat) (o : AObj), os[i]? = some o → applyEff hp (effOf os k) (k + i) = some o) ∧ (∀ t, (t < k ∨ k + os.length ≤ t) → applyEff hp (effOf os k) t = hp t)
 | [], k, hp => ⟨by simp, fun t _ => rfl⟩
 | o :: os, k, hp => by
  obtain ⟨h1, h2⟩ := effOf_app os (k + 1) (upd hp k (some o))
  refine ⟨fun i o' hi => ?_, fun t ht => ?_⟩
  ·simp only [effOf, applyEff]
   cases i with
   | zero => simp at hi; subst hi; show applyEff _ _ k = _; rw [h2 k (.inl (by omega)), upd_same]
   | succ i =>
    rw [show k + (i + 1) = k + 1 + i by omega]
    exact h1 i o' (by simpa using hi)
  ·simp only [effOf, applyEff, List.length_cons] at ht ⊢
   rw [h2 t (by omega), upd_other _ _ (by omega)]
theorem call_core {f : FuncId} {us xs : List AV} {X : AV} {vs : List Value} {m : Nat → Prop} (hM : Mem G hp al loc w) (hf : Fresh al id) (hpc : PC P f xs X) (hml : ∀ b, m b → b < w.heap.size) (hx : RelL (E0 m w) xs vs)
  (hm : shares X = true → ∀ b, G.m1 b ∨ mtOf hp loc b → m b) (hn : (claimV X id).2.length ≤ 8) :
  Calls P f vs.toArray w fun e w' => ∃ v loc', e = .returned v ∧ Mem G (applyEff hp (effOf (claimV X id).2 id)) (alR al id) loc' w' ∧
   Ext (mkE G.m1 hp al loc w) (mkE G.m1 (applyEff hp (effOf (claimV X id).2 id)) (alR al id) loc' w') ∧ Rel (mkE G.m1 (applyEff hp (effOf (claimV X id).2 id)) (alR al id) loc' w') (claimV X id).1 v := by
 refine (hpc m w vs hml (hM.tab.sub fun _ h => h.elim) hx).mono ?_
 rintro e w' ⟨v, hpc, alc, locc, r, ts, rfl, hMc, hr, hs, hnd⟩
 let n := ts.length
 let loc' : Nat → Option Loc := fun t => if id ≤ t ∧ t < id + ts.length then (ts[t - id]?).bind locc else loc t
 let hp' := applyEff hp (effOf (claimV X id).2 id)
 -- what is claimed
 have hclaim := seal_claim (hp := hpc) (E := mkE m hpc alc locc w') (E' := mkE G.m1 hp' (alR al id) loc' w') (u := r) (X := X) (ts := ts) (k := id) (v := v)
 have hlen0 : (claimV X id).2.length = ts.length ∧ ∀ (i t : Nat), ts[i]? = some t → (claimV X id).2[i]? = hpc t := by
  have h1 := seal_claim (hp := hpc) (E := mkE m hpc alc locc w') (E' := ⟨w', fun t => (ts[t - id]?).bind locc, fun _ => False, fun _ => False, fun _ => True⟩) (u := r) (X := X) (ts := ts) (k := id) (v := v)
   (fun _ => ⟨Nat.le_refl _, fun b _ _ => ⟨fun h => h, rfl⟩⟩) hs hr (fun i t hi => ⟨by simp [hi, mkE], trivial⟩)
  exact h1.2
 obtain ⟨hlen, hget⟩ := hlen0
 obtain ⟨happ1, happ2⟩ := effOf_app (claimV X id).2 id hp
 have hts : ∀ (i t : Nat), ts[i]? = some t → ∃ o, hpc t = some o ∧ hp' (id + i) = some o ∧ loc' (id + i) = locc t := by
  intro i t hi
  have hlt : i < ts.length := (List.getElem?_eq_some_iff.1 hi).1
  have h1 := hget i t hi
  have h2 : i < (claimV X id).2.length := by omega
  refine ⟨(claimV X id).2[i], ?_, happ1 i _ (by simp [h2]), by simp only [loc']; rw [if_pos (by omega)]; simp [hi]⟩
  rw [← h1]; simp [h2]
 have hold : ∀ t, ¬ (id ≤ t ∧ t < id + ts.length) → hp' t = hp t ∧ loc' t = loc t := fun t ht => ⟨happ2 t (by omega), by simp only [loc']; rw [if_neg ht]⟩
 have hrange : ∀ t, id ≤ t ∧ t < id + ts.length → ∃ q, ts[t - id]? = some q ∧ hp' t = hpc q ∧ loc' t = locc q := fun t ht => by
  have hlt : t - id < ts.length := by omega
  obtain ⟨o, h1, h2, h3⟩ := hts (t - id) ts[t - id] (by simp [hlt])
  rw [show id + (t - id) = t by omega] at h2 h3
  exact ⟨ts[t - id], by simp [hlt], by rw [h2, h1], h3⟩
 have hmt : ∀ b, b < w.heap.size → mtOf hp' loc' b → mtOf hp loc b := by
  rintro b hb ⟨t, o, l, h1, h2, h3, h4, h5⟩
  by_cases ht : id ≤ t ∧ t < id + ts.length
  ·obtain ⟨q, hq, e1, e2⟩ := hrange t ht
   exact (hMc.muts b ⟨q, o, l, e1 ▸ h1, h2, e2 ▸ h3, h4, h5⟩ hb).elim
  ·obtain ⟨e1, e2⟩ := hold t ht
   exact ⟨t, o, l, e1 ▸ h1, h2, e2 ▸ h3, h4, h5⟩
 have hmtc : ∀ b, mtOf hp' loc' b → mtOf hpc locc b ∨ mtOf hp loc b := by
  rintro b ⟨t, o, l, h1, h2, h3, h4, h5⟩
  by_cases ht : id ≤ t ∧ t < id + ts.length
  ·obtain ⟨q, hq, e1, e2⟩ := hrange t ht
   exact .inl ⟨q, o, l, e1 ▸ h1, h2, e2 ▸ h3, h4, h5⟩
  ·obtain ⟨e1, e2⟩ := hold t ht
   exact .inr ⟨t, o, l, e1 ▸ h1, h2, e2 ▸ h3, h4, h5⟩
 have x : Ext (mkE G.m1 hp al loc w) (mkE G.m1 hp' (alR al id) loc' w') := by
  refine mk_ext (fun t ht => .inl ht) (fun t l ha hl => ?_) hMc.size hmt (fun b hb _ => hMc.keep b hb (fun h => h))
  have : ¬ (id ≤ t ∧ t < id + ts.length) := fun h => hf t h.1 (by omega) ha
  rw [(hold t this).2] at hl; exact hl
 have mv : shares X = true → Move (mkE m hpc alc locc w') (mkE G.m1 hp' (alR al id) loc' w') := fun hs => ⟨Nat.le_refl _, fun b _ hn => ⟨fun h => by
  rcases h with h | h
  ·rcases hmtc b h with h | h
   ·exact hn (.inl h)
   ·exact hn (.inr (hm hs b (.inr h)))
  ·exact hn (.inr (hm hs b (.inl h))), rfl⟩⟩
 have hrel := hclaim mv hs hr (fun i t hi => by
  have hlt : i < ts.length := (List.getElem?_eq_some_iff.1 hi).1
  obtain ⟨o, _, _, h3⟩ := hts i t hi
  exact ⟨h3, .inr ⟨Nat.le_add_right _ _, by omega⟩⟩)
 -- what the callee's rows are, seen from here
 have hobjc : ∀ t, id ≤ t ∧ t < id + ts.length → ∃ q sz rows, ts[t - id]? = some q ∧ hp' t = some (.row sz true rows) ∧ hpc q = some (.row sz true rows) ∧ loc' t = locc q ∧ inlR rows = true ∧ (sharesR rows = true → shares X = true) := fun t ht => by
  obtain ⟨q, hq, e1, e2⟩ := hrange t ht
  obtain ⟨sz, rows, h1, h2, h3⟩ := seal_obj hs q (List.mem_of_getElem? hq)
  exact ⟨q, sz, rows, hq, e1.trans h1, h1, e2, h2, h3⟩
 have hnew : ∀ t l, id ≤ t ∧ t < id + ts.length → loc' t = some l → l.st < l.n → ¬ l.b < w.heap.size := fun t l ht hl hpos hlt => by
  obtain ⟨q, sz, rows, hq, h1, h2, h3, _⟩ := hobjc t ht
  exact hMc.muts l.b ⟨q, _, l, h2, rfl, h3 ▸ hl, rfl, hpos⟩ hlt
 refine ⟨v, loc', rfl, ?_, x, hrel.1⟩
 refine hM.change x (fun t o ho => ?_) (fun t ho => ?_) (fun t l hl => ?_) (fun t1 t2 l1 l2 h1 h2 hp1 hp2 hb => ?_) hMc.os hMc.tape hMc.output (fun b hb => ?_) (fun t l h1 h2 => ?_)
 ·by_cases ht : id ≤ t ∧ t < id + ts.length
  ·obtain ⟨q, sz, rows, hq, h1, h2, h3, h4, h5⟩ := hobjc t ht
   have : o = .row sz true rows := Option.some.inj (ho.symm.trans h1)
   subst this
   obtain ⟨l, hl, g1, g2, g3, g4, g5, g6⟩ := hMc.obj q _ h2
   refine .inr ⟨l, h3.trans hl, g1, g2, g3, g4, g5, fun hpos => ?_⟩
   obtain ⟨c, e, fz, us, k1, k2, k3, k4, k5, k6⟩ := g6 hpos
   refine ⟨c, e, fz, us, k1, k2, ?_, k4, k5, k6⟩
   by_cases hsh : sharesR rows = true
   ·exact RelL.move (mv (h5 hsh)) (by rw [← inlR_flatten]; exact h4) k3
   ·exact RelL.alone (by rw [← sharesR_flatten]; simpa using hsh) k3
  ·obtain ⟨e1, e2⟩ := hold t ht
   refine .inl ⟨e1 ▸ ho, e2, fun l hl hpos => hMc.keep _ (hM.lt hl hpos) (fun h => h)⟩
 ·by_cases ht : id ≤ t ∧ t < id + ts.length
  ·obtain ⟨q, hq, e1, e2⟩ := hrange t ht
   rw [e2]; exact hMc.none_ q (e1 ▸ ho)
  ·obtain ⟨e1, e2⟩ := hold t ht
   rw [e2]; exact hM.none_ t (e1 ▸ ho)
 ·by_cases ht : id ≤ t ∧ t < id + ts.length
  ·exact .inr ⟨ht.1, by omega⟩
  ·exact .inl (hM.al_ t l ((hold t ht).2 ▸ hl))
 ·by_cases e1 : id ≤ t1 ∧ t1 < id + ts.length <;> by_cases e2 : id ≤ t2 ∧ t2 < id + ts.length
  ·obtain ⟨q1, hq1, _, a1⟩ := hrange t1 e1
   obtain ⟨q2, hq2, _, a2⟩ := hrange t2 e2
   have hqq : q1 = q2 := hMc.inj _ _ _ _ (a1 ▸ h1) (a2 ▸ h2) hp1 hp2 hb
   subst hqq
   obtain ⟨i1, j1⟩ := List.getElem?_eq_some_iff.1 hq1
   obtain ⟨i2, j2⟩ := List.getElem?_eq_some_iff.1 hq2
   have := nodup_inj hnd hq1 hq2
   omega
  ·exact absurd (hb ▸ hM.lt ((hold t2 e2).2 ▸ h2) hp2) (hnew t1 l1 e1 h1 hp1)
  ·exact absurd (hb ▸ hM.lt ((hold t1 e1).2 ▸ h1) hp1) (hnew t2 l2 e2 h2 hp2)
  ·exact hM.inj _ _ _ _ ((hold t1 e1).2 ▸ h1) ((hold t2 e2).2 ▸ h2) hp1 hp2 hb
 ·by_cases hlt : b < w.heap.size
  ·exact .inl (hmt b hlt hb)
  ·exact .inr (by omega)
 ·by_cases e : id ≤ t ∧ t < id + ts.length
  ·exact .inr (Nat.le_of_not_lt (hnew t l e h1 h2))
  ·exact .inl ⟨t, l, (hold t e).2 ▸ h1, h2, rfl⟩
end
end Go.Gm
namespace Go.Gm
section
variable {P : Program} {G : Ghost P} {hp : AHeap} {al : Nat → Prop} {loc : Nat → Option Loc} {w : World} {id : Nat}
theorem applyEff_append : ∀ (a b : List (Nat × Option AObj)) (hp : AHeap), applyEff hp (a ++ b) = applyEff (applyEff hp a) b
 | [], _, _ => rfl
 | (t, o) :: a, b, hp => by simp [applyEff, applyEff_append a b]
def frz (hp : AHeap) (ts : List Nat) : AHeap := fun t => if t ∈ ts then (match hp t with
 | some (.row sz _ rows) => some (.row sz false rows)
 | o => o) else hp t
theorem applyEff_freeze (hp : AHeap) : ∀ (ts : List Nat) (h : AHeap) (t : Nat), applyEff h (freezeL hp ts) t = if t ∈ ts then (match hp t with
  | some (.row sz true rows) => some (.row sz false rows)
  | _ => h t) else h t
 | [], h, t => by simp [freezeL, applyEff]
 | q :: ts, h, t => by
  simp only [freezeL]
  split
  ·rename_i sz rows hq
   simp only [applyEff]
   rw [applyEff_freeze hp ts]
   by_cases e : t = q
   ·subst e; simp [hq, upd]
   ·by_cases e2 : t ∈ ts <;> simp [e, e2, upd]
  ·rename_i hq
   rw [applyEff_freeze hp ts]
   by_cases e : t = q
   ·subst e
    by_cases e2 : t ∈ ts
    ·simp [e2]
    ·simp only [e2, if_false, List.mem_cons, true_or, if_true]
   ·simp [e]
theorem freeze_eq (hp : AHeap) (ts : List Nat) : applyEff hp (freezeL hp ts) = frz hp ts := by
 funext t
 rw [applyEff_freeze, frz]
 split
 ·split
  ·rename_i hh; rw [hh]
  ·rename_i hh
   split
   ·rename_i sz m rows h2
    cases m with
    | true => exact absurd h2 (hh sz rows)
    | false => exact h2
   ·rfl
 ·rfl
theorem Mem.frz (hM : Mem G hp al loc w) (ts : List Nat) : Mem G (frz hp ts) al loc w ∧ Ext (mkE G.m1 hp al loc w) (mkE G.m1 (Gm.frz hp ts) al loc w) := by
 have hsome : ∀ t o', Gm.frz hp ts t = some o' → ∃ o, hp t = some o ∧ (o' = o ∨ ∃ sz m rows, o = .row sz m rows ∧ o' = .row sz false rows) := by
  intro t o' h
  unfold Gm.frz at h
  split at h
  ·split at h
   ·rename_i sz m rows h2; cases h; exact ⟨_, h2, .inr ⟨sz, m, rows, rfl, rfl⟩⟩
   ·exact ⟨o', h, .inl rfl⟩
  ·exact ⟨o', h, .inl rfl⟩
 have hmt : ∀ b, mtOf (Gm.frz hp ts) loc b → mtOf hp loc b := by
  rintro b ⟨t, o', l, h1, h2, h3, h4, h5⟩
  obtain ⟨o, ho, rfl | ⟨sz, m, rows, rfl, rfl⟩⟩ := hsome t o' h1
  ·exact ⟨t, _, l, ho, h2, h3, h4, h5⟩
  ·simp [AObj.isMut] at h2
 have x : Ext (mkE G.m1 hp al loc w) (mkE G.m1 (Gm.frz hp ts) al loc w) := mk_ext (fun _ h => h) (fun _ _ _ h => h) (Nat.le_refl _) (fun b _ => hmt b) (fun _ _ _ => rfl)
 refine ⟨hM.change x (fun t o' ho => ?_) (fun t ho => ?_) hM.al_ hM.inj rfl rfl rfl (fun b hb => .inl (hmt b hb)) (fun t l h1 h2 => .inl ⟨t, l, h1, h2, rfl⟩), x⟩
 ·obtain ⟨o, h1, rfl | ⟨sz, m, rows, rfl, rfl⟩⟩ := hsome t o' ho
  ·exact .inl ⟨h1, rfl, fun _ _ _ => rfl⟩
  ·obtain ⟨l, hl, hob⟩ := hM.obj t _ h1
   exact .inr ⟨l, hl, ObjAt.ext (o := .row sz false rows) x (fun _ => rfl) hob⟩
 ·apply hM.none_
  unfold Gm.frz at ho
  split at ho
  ·split at ho
   ·cases ho
   ·exact ho
  ·exact ho
def callA (ft : FuncId → List AV → Option AV) (hp : AHeap) (id : Nat) (f : FuncId) (us : List AV) : Option AR :=
 match resL hp us with
 | some xs => match ft f xs with
  | some X => if (claimV X id).2.length ≤ 8 then some ⟨(claimV X id).1, (if shares X = true then freezeL hp (us.flatMap tidV) else []) ++ effOf (claimV X id).2 id⟩ else none
  | none => none
 | none => none
theorem resL_rel (hM : Mem G hp al loc w) {m : Nat → Prop} (hm : ∀ b, m b → G.m1 b ∨ mtOf hp loc b) : ∀ {us xs : List AV} {vs : List Value}, RelL (mkE G.m1 hp al loc w) us vs → resL hp us = some xs →
  (∀ t ∈ us.flatMap tidV, ∀ l, loc t = some l → l.st < l.n → ¬ m l.b) → RelL (E0 m w) xs vs
 | [], xs, _, .nil, h, _ => by simp [resL] at h; subst h; exact .nil
 | u :: us, xs, _, .cons hu hus, h, hfz => by
  simp only [resL] at h
  split at h
  ·rename_i x ys h1 h2
   cases h
   exact .cons (res_rel hM hm hu h1 (fun t off len l e hl hpos => hfz t (by subst e; simp [tidV]) l hl hpos)) (resL_rel hM hm hus h2 (fun t ht => hfz t (by simp only [List.flatMap_cons, List.mem_append]; exact .inr ht)))
  ·cases h
theorem resV_frz (ts : List Nat) (u : AV) : resV (frz hp ts) u = resV hp u := by
 cases u with
 | own t off len =>
  simp only [resV, frz]
  by_cases e : t ∈ ts
  ·simp only [e, if_true]
   cases hp t with
   | none => rfl
   | some o => cases o <;> rfl
  ·simp only [e, if_false]
 | val v => cases v with
  | slice a n c => cases a <;> cases n <;> cases c <;> rfl
  | _ => rfl
 | _ => rfl
theorem resL_frz (ts : List Nat) : ∀ (us : List AV), resL (frz hp ts) us = resL hp us
 | [] => rfl
 | u :: us => by simp only [resL, resV_frz, resL_frz ts us]
theorem resL_rows : ∀ {us xs : List AV}, resL hp us = some xs → ∀ t ∈ us.flatMap tidV, ∃ sz m rows, hp t = some (.row sz m rows)
 | [], _, _, t, ht => by cases ht
 | u :: us, xs, h, t, ht => by
  simp only [resL] at h
  split at h
  ·rename_i x ys h1 h2
   simp only [List.flatMap_cons, List.mem_append] at ht
   rcases ht with ht | ht
   ·cases u with
    | own q off len =>
     simp [tidV] at ht; subst ht
     simp only [resV] at h1
     split at h1
     ·rename_i sz m rows ho; exact ⟨sz, m, rows, ho⟩
     ·cases h1
    | _ => simp [tidV] at ht
   ·exact resL_rows h2 t ht
  ·cases h
theorem call_rule {ft : FuncId → List AV → Option AV} {f : FuncId} {us : List AV} {vs : List Value} {r : AR} (hM : Mem G hp al loc w) (hf : Fresh al id) (hft : ∀ xs X, ft f xs = some X → PC P f xs X)
  (hr : RelL (mkE G.m1 hp al loc w) us vs) (h : callA ft hp id f us = some r) :
  Calls P f vs.toArray w fun e w' => ∃ v loc', e = .returned v ∧ Mem G (applyEff hp r.eff) (alR al id) loc' w' ∧
   Ext (mkE G.m1 hp al loc w) (mkE G.m1 (applyEff hp r.eff) (alR al id) loc' w') ∧ Rel (mkE G.m1 (applyEff hp r.eff) (alR al id) loc' w') r.v v := by
 unfold callA at h
 split at h
 ·rename_i xs hres
  split at h
  ·rename_i X hX
   split at h
   ·rename_i hlen
    cases h
    by_cases hsh : shares X = true
    ·simp only [hsh, if_true]
     obtain ⟨hM1, x1⟩ := hM.frz (us.flatMap tidV)
     have hm1 : ∀ b, (G.m1 b ∨ mtOf (frz hp (us.flatMap tidV)) loc b) → b < w.heap.size := fun b hb => by
      rcases hb with hb | ⟨t, o, l, h1, h2, h3, h4, h5⟩
      ·exact Nat.lt_of_lt_of_le (G.m1lt b hb) hM.size
      ·exact h4 ▸ hM1.lt h3 h5
     have hx := resL_rel (m := fun b => G.m1 b ∨ mtOf (frz hp (us.flatMap tidV)) loc b) hM1 (fun b h => h) (RelL.ext x1 hr) (by rw [resL_frz]; exact hres) (fun t ht l hl hpos hm => by
      rcases hm with hm | ⟨t', o', l', h1, h2, h3, h4, h5⟩
      ·exact hM1.fgn t l hl hpos hm
      ·have : t' = t := hM1.inj _ _ _ _ h3 hl h5 hpos h4
       subst this
       obtain ⟨sz, mm, rows, hrow⟩ := resL_rows hres t' ht
       simp only [frz, ht, if_true, hrow] at h1
       cases h1; simp [AObj.isMut] at h2)
     have := call_core (G := G) (id := id) (X := X) (us := us) hM1 hf (hft _ _ hX) hm1 hx (fun _ b hb => hb) hlen
     refine this.mono ?_
     rintro e w' ⟨v, loc', rfl, a, b, c⟩
     rw [← freeze_eq, ← applyEff_append] at a b c
     exact ⟨v, loc', rfl, a, (x1.trans (by rw [← freeze_eq]; exact b)), c⟩
    ·have hsh' : shares X = false := by simpa using hsh
     simp only [hsh', Bool.false_eq_true, if_false, List.nil_append]
     let m : Nat → Prop := fun b => G.m1 b ∨ ∃ t o l, hp t = some o ∧ o.isMut = true ∧ loc t = some l ∧ l.b = b ∧ l.st < l.n ∧ t ∉ us.flatMap tidV
     have hml : ∀ b, m b → b < w.heap.size := fun b hb => by
      rcases hb with hb | ⟨t, o, l, h1, h2, h3, h4, h5, _⟩
      ·exact Nat.lt_of_lt_of_le (G.m1lt b hb) hM.size
      ·exact h4 ▸ hM.lt h3 h5
     have hx := resL_rel (m := m) hM (fun b hb => by
      rcases hb with hb | ⟨t, o, l, h1, h2, h3, h4, h5, _⟩
      ·exact .inl hb
      ·exact .inr ⟨t, o, l, h1, h2, h3, h4, h5⟩) hr hres (fun t ht l hl hpos hm => by
      rcases hm with hm | ⟨t', o', l', h1, h2, h3, h4, h5, h6⟩
      ·exact hM.fgn t l hl hpos hm
      ·have : t' = t := hM.inj _ _ _ _ h3 hl h5 hpos h4
       subst this
       exact h6 ht)
     refine (call_core (G := G) (id := id) (X := X) (us := us) hM hf (hft _ _ hX) hml hx (fun h => absurd h hsh) hlen).mono ?_
     rintro e w' ⟨v, loc', rfl, a, b, c⟩
     exact ⟨v, loc', rfl, a, b, c⟩
   ·cases h
  ·cases h
 ·cases h
def CallOk (P : Program) (f : FuncId) (us : List AV) (hp : AHeap) (id : Nat) (r : AR) : Prop :=
 ∀ (G : Ghost P) (al : Nat → Prop) (loc : Nat → Option Loc) (w : World) (vs : List Value), Mem G hp al loc w → Fresh al id → RelL (mkE G.m1 hp al loc w) us vs →
  Calls P f vs.toArray w fun e w' => ∃ v loc', e = .returned v ∧ Mem G (applyEff hp r.eff) (alR al id) loc' w' ∧
   Ext (mkE G.m1 hp al loc w) (mkE G.m1 (applyEff hp r.eff) (alR al id) loc' w') ∧ Rel (mkE G.m1 (applyEff hp r.eff) (alR al id) loc' w') r.v v
theorem CallOk.of_pc {P : Program} {f : FuncId} {us xs : List AV} {X : AV} {hp : AHeap} {id : Nat} (h : PC P f xs X) (hx : resL hp us = some xs) (hl : (claimV X id).2.length ≤ 8) :
  CallOk P f us hp id ⟨(claimV X id).1, (if shares X = true then freezeL hp (us.flatMap tidV) else []) ++ effOf (claimV X id).2 id⟩ := fun G al loc w vs hM hf hr => by
 classical
 refine call_rule (ft := fun g ys => if g = f ∧ ys = xs then some X else none) hM hf (fun ys Y hY => ?_) hr ?_
 ·split at hY
  ·rename_i hc; cases hY; rw [hc.2]; exact h
  ·cases hY
 ·simp only [callA, hx, and_self, if_true, hl]
end
end Go.Gm
namespace Go.Gm
open MapKept
def kv (e : MapEntry) : Value × Value := (e.key, e.val)
def isK (q : IntKind) : Value → Bool
 | .int k _ => decide (k = q)
 | _ => false
def eqK (a : Int) : Value → Bool
 | .int _ b => decide (b = a)
 | _ => false
def findI (a : Int) : List (Value × Value) → Option Value
 | [] => none
 | e :: es => if eqK a e.1 = true then some e.2 else findI a es
def setI (q : IntKind) (a : Int) (v : Value) : List (Value × Value) → List (Value × Value)
 | [] => [(.int q a, v)]
 | e :: es => if eqK a e.1 = true then (.int q a, v) :: es else e :: setI q a v es
theorem find_spec (q : IntKind) (a : Int) : ∀ (l : List MapEntry) (i : Nat), (l.map kv).all (fun e => isK q e.1) = true →
  (Instr.findNow (.int q) (.int q a) l i = some none ∧ findI a (l.map kv) = none ∧ ∀ v, setI q a v (l.map kv) = l.map kv ++ [(.int q a, v)]) ∨
  ∃ j e, Instr.findNow (.int q) (.int q a) l i = some (some (i + j, e.val)) ∧ l[j]? = some e ∧ e.key = .int q a ∧ findI a (l.map kv) = some e.val ∧
   ∀ v, setI q a v (l.map kv) = (l.modify j fun e => { e with key := .int q a, val := v }).map kv
 | [], _, _ => .inl ⟨rfl, rfl, fun _ => rfl⟩
 | e :: es, i, h => by
  simp only [List.map_cons, List.all_cons, Bool.and_eq_true] at h
  obtain ⟨h1, h2⟩ := h
  have hk : ∃ b, e.key = .int q b := by
   simp only [kv] at h1
   unfold isK at h1
   split at h1
   ·rename_i k b hb; exact ⟨b, by rw [hb, of_decide_eq_true h1]⟩
   ·cases h1
  obtain ⟨b, hb⟩ := hk
  by_cases e0 : b = a
  ·subst e0
   exact .inr ⟨0, e, by simp [Instr.findNow, hb, Instr.sameNow], rfl, hb, by simp [findI, kv, hb, eqK], fun v => by simp [setI, kv, hb, eqK]⟩
  ·have e1 : (a == b) = false := by simpa using fun x => e0 x.symm
   rcases find_spec q a es (i + 1) h2 with ⟨g1, g2, g3⟩ | ⟨j, e', g1, g2, g3, g4, g5⟩
   ·exact .inl ⟨by simp only [Instr.findNow, hb, Instr.sameNow, if_true, e1, g1], by simp [findI, kv, hb, eqK, e0]; exact g2, fun v => by simp [setI, kv, hb, eqK, e0]; exact g3 v⟩
   ·exact .inr ⟨j + 1, e', by simp [Instr.findNow, hb, Instr.sameNow, e1, g1]; omega, by simpa using g2, g3, by simp [findI, kv, hb, eqK, e0]; exact g4, fun v => by simp [setI, kv, hb, eqK, e0]; exact g5 v⟩
def mapIO (P : Program) (t : TypeId) : Option (IntKind × Value) :=
 match P.underlying t with
 | some (.map k e) => match P.underlying k, P.info? e with
  | some (.int q), some i => i.zero.map fun z => (q, z)
  | _, _ => none
 | _ => none
theorem mapIO_some {P : Program} {t : TypeId} {q : IntKind} {z : Value} (h : mapIO P t = some (q, z)) : ∃ k e, P.underlying t = some (.map k e) ∧ P.underlying k = some (.int q) ∧ ∀ w, (zeroValue e).run P w = .ok z w := by
 unfold mapIO at h
 split at h
 ·rename_i k e hu
  split at h
  ·rename_i q' i hk hi
   simp only [Option.map_eq_some_iff, Prod.mk.injEq] at h
   obtain ⟨z', hz, rfl, rfl⟩ := h
   exact ⟨k, e, hu, hk, fun w => by simp [zeroValue, typeInfo, hi, hz]⟩
  ·cases h
 ·cases h
def lookA (P : Program) (t : TypeId) (x k : AV) : Option AV :=
 match x, k with
 | .im es, .val (.int q a) => match mapIO P t with
  | some (q', z) => if q' = q ∧ es.all (fun e => isK q e.1) = true then some (.val ((findI a es).getD z)) else none
  | none => none
 | _, _ => none
def updB (P : Program) (t : TypeId) (o : Nat) (ob : Option AObj) (k x : AV) : Option (List (Nat × Option AObj)) :=
 match k, toV x with
 | .val (.int q a), some v => match mapIO P t, ob with
  | some (q', _), some (.mapo es) => if q' = q ∧ es.all (fun e => isK q e.1) = true then some [(o, some (.mapo (setI q a v es)))] else none
  | _, _ => none
 | _, _ => none
def updA (P : Program) (hp : AHeap) (t : TypeId) (m k x : AV) : Option (List (Nat × Option AObj)) :=
 match m with
 | .mp o => updB P t o (hp o) k x
 | _ => none
section
variable {P : Program} {G : Ghost P} {hp : AHeap} {al : Nat → Prop} {loc : Nat → Option Loc} {w : World} {id : Nat}
theorem does_lookup {t : TypeId} {x k u : AV} {xv kvv : Value} (hM : Mem G hp al loc w) (hx : Rel (mkE G.m1 hp al loc w) x xv) (hk : Rel (mkE G.m1 hp al loc w) k kvv) (h : lookA P t x k = some u) :
  Does P (do pure (.value (← Instr.lookup t xv kvv false))) G hp al loc w id ⟨u, []⟩ := by
 unfold lookA at h
 split at h
 ·rename_i es q a
  split at h
  ·rename_i q' z hq
   split at h
   ·rename_i hc
    obtain ⟨rfl, hall⟩ := hc
    cases h
    cases hk
    cases hx with
    | im hb hm hh he =>
     rename_i b clock ens
     subst he
     obtain ⟨kt, et, hu, hku, hz⟩ := mapIO_some hq
     refine does_pure hM (v := (findI a (ens.toList.map kv)).getD z) ?_ (.val _)
     have hck : ∀ e, (Instr.checkKey e 10000 kt (.int q' a)).run P w = .ok () w := fun e => run_checkKey (n := 9999) hku (by simp [IsKey]) e
     have hgo : (getObj b).run P w = .ok (.map ens clock) w := MapKept.run_getObj_map (by simpa [mkE] using hh)
     rcases find_spec q' a ens.toList 0 hall with ⟨g1, g2, _⟩ | ⟨j, e, g1, _, _, g2, _⟩
     ·have hfk := run_findKey (w := w) hku g1
      rw [g2]
      simp [Instr.lookup, run_underlying hu, hgo, hck, hfk, hz]
     ·have hfk := run_findKey (w := w) hku g1
      rw [g2]
      simp [Instr.lookup, run_underlying hu, hgo, hck, hfk]
    | im0 =>
     obtain ⟨kt, et, hu, hku, hz⟩ := mapIO_some hq
     refine does_pure hM (v := z) ?_ (.val _)
     have hck : ∀ e, (Instr.checkKey e 10000 kt (.int q' a)).run P w = .ok () w := fun e => run_checkKey (n := 9999) hku (by simp [IsKey]) e
     have hfk := run_findKey (w := w) (k := .int q' a) (l := []) (a := none) hku rfl
     simp [Instr.lookup, run_underlying hu, hck, hfk, hz]
   ·cases h
  ·cases h
 ·cases h
theorem does_makeMap {t : TypeId} (hM : Mem G hp al loc w) (hf : ¬ al id) : Does P (do pure (.value (← Instr.makeMap t none))) G hp al loc w id ⟨.mp id, [(id, some (.mapo []))]⟩ := by
 have hM' := hM.alloc hf (.map #[] 0) (.mapo []) ⟨w.heap.size, 0, 1, 1⟩ rfl ⟨Nat.zero_lt_one, #[], 0, (show (w.heap.push (Obj.map #[] 0))[w.heap.size]? = _ by simp), rfl⟩
 have x := Ext.alloc hM hf (.map #[] 0) (.mapo []) ⟨w.heap.size, 0, 1, 1⟩ rfl
 obtain ⟨hM2, x2⟩ := hM'.more (al' := alR al id) (fun t ht => by
  by_cases e : t = id
  ·subst e; exact .inr ⟨Nat.le_refl _, by omega⟩
  ·rw [upd_other _ _ e] at ht; exact .inl ht)
 refine ⟨_, .map (some w.heap.size), _, _, by simp [Instr.makeMap], .inl rfl, hM2, x.trans x2, .mp (.inr ⟨Nat.le_refl _, by omega⟩) fun l hl => ?_⟩
 have : l = ⟨w.heap.size, 0, 1, 1⟩ := Option.some.inj (hl.symm.trans (upd_same ..))
 subst this; rfl
theorem does_update {t : TypeId} {m k x : AV} {mv kvv xv : Value} {eff : List (Nat × Option AObj)} (hM : Mem G hp al loc w) (hm : Rel (mkE G.m1 hp al loc w) m mv) (hk : Rel (mkE G.m1 hp al loc w) k kvv) (hx : Rel (mkE G.m1 hp al loc w) x xv)
  (h : updA P hp t m k x = some eff) : Does P (do Instr.mapUpdate t mv kvv xv; pure .skip) G hp al loc w id ⟨.any, eff⟩ := by
 unfold updA at h
 split at h
 rotate_left
 ·cases h
 rename_i o
 unfold updB at h
 split at h
 ·rename_i q a v hv
  have hxv := toV_rel hx hv
  subst hxv
  split at h
  ·rename_i q' z es hq ho
   split at h
   ·rename_i hc
    obtain ⟨rfl, hall⟩ := hc
    cases h
    cases hk
    obtain ⟨l, hl, hlt, ens, clock, hh, he⟩ := hM.obj o _ ho
    subst he
    have hmv : mv = .map (some l.b) := by cases hm with | mp ha hh => exact hh l hl
    subst hmv
    obtain ⟨kt, et, hu, hku, hz⟩ := mapIO_some hq
    have hck : ∀ e, (Instr.checkKey e 10000 kt (.int q' a)).run P w = .ok () w := fun e => run_checkKey (n := 9999) hku (by simp [IsKey]) e
    have hh' : w.heap[l.b]? = some (.map ens clock) := by simpa [mkE] using hh
    have hgo : (getObj l.b).run P w = .ok (.map ens clock) w := MapKept.run_getObj_map hh'
    have hset : ∀ o, (setObj l.b o).run P w = .ok () { w with heap := w.heap.setIfInBounds l.b o } := fun o => run_setObj_map o hh'
    have hlb : l.b < w.heap.size := (Array.getElem?_eq_some_iff.1 hh').1
    have key : ∃ ens' clock', (Instr.mapUpdate t (.map (some l.b)) (.int q' a) xv).run P w = .ok () { w with heap := w.heap.setIfInBounds l.b (.map ens' clock') } ∧ ens'.toList.map kv = setI q' a xv (ens.toList.map kv) := by
     rcases find_spec q' a ens.toList 0 hall with ⟨g1, _, g2⟩ | ⟨j, e, g1, gj, ge, _, g2⟩
     ·have hfk := run_findKey (w := w) hku g1
      refine ⟨ens.push { key := .int q' a, val := xv, born := clock }, clock + 1, ?_, ?_⟩
      ·simp [Instr.mapUpdate, run_underlying hu, hgo, hck, hfk, hset]
      ·rw [g2]; simp [kv]
     ·have hfk := run_findKey (w := w) hku g1
      refine ⟨ens.modify j fun e => { e with key := .int q' a, val := xv }, clock, ?_, ?_⟩
      ·have gj' : ens[j]? = some e := by simpa using gj
       have hth : ∀ w : World, (Instr.keyThatStays (.int q' a) (.int q' a)).run P w = .ok (.int q' a) w := fun w => by
        simp [Instr.keyThatStays, Instr.sameBits]
       simp [Instr.mapUpdate, run_underlying hu, hgo, hck, hfk, hset, gj', ge, hth]
      ·rw [g2, Array.toList_modify]
    obtain ⟨ens', clock', hrun, hens⟩ := key
    have hM' := hM.write (t := o) (ob' := .mapo (setI q' a xv (ens.toList.map kv))) ho rfl rfl hl hlt (w' := { w with heap := w.heap.setIfInBounds l.b (.map ens' clock') }) (by simp)
     (fun b hb => by simp [Array.getElem?_setIfInBounds_ne (Ne.symm hb)]) rfl rfl rfl (fun _ => ⟨hlt, ens', clock', by simp [mkE, hlb], hens⟩)
    obtain ⟨hM1, x1⟩ := hM'
    obtain ⟨hM2, x2⟩ := hM1.more (al' := alR al id) (fun t ht => alR_of ht)
    exact ⟨.skip, undef, _, loc, by simp [hrun], .inr ⟨rfl, rfl⟩, hM2, x1.trans x2, .any _⟩
   ·cases h
  ·cases h
 ·cases h
end
end Go.Gm
namespace Go.Gm
section
variable {P : Program} {G : Ghost P} {hp : AHeap} {al : Nat → Prop} {loc : Nat → Option Loc} {w : World} {id : Nat}
theorem Mem.dropW (h : Mem G hp al loc w) {t : Nat} {o : AObj} {l : Loc} (ho : hp t = some o) (hm : o.isMut = true) (hl : loc t = some l) (hlt : l.st < l.n) {w' : World}
  (hsize : w'.heap.size = w.heap.size) (hother : ∀ b, b ≠ l.b → w'.heap[b]? = w.heap[b]?) (hos : w'.os = w.os) (htape : w'.tape = w.tape) (hout : w'.output = w.output) :
  Mem G (upd hp t none) al (upd loc t none) w' ∧ Ext (mkE G.m1 hp al loc w) (mkE G.m1 (upd hp t none) al (upd loc t none) w') := by
 have hmt : ∀ b, mtOf (upd hp t none) (upd loc t none) b → mtOf hp loc b := by
  rintro b ⟨t', o', l', h1, h2, h3, h4, h5⟩
  by_cases e : t' = t
  ·subst e; rw [upd_same] at h1; cases h1
  ·rw [upd_other _ _ e] at h1 h3; exact ⟨t', o', l', h1, h2, h3, h4, h5⟩
 have x : Ext (mkE G.m1 hp al loc w) (mkE G.m1 (upd hp t none) al (upd loc t none) w') := by
  refine mk_ext (fun _ h => h) (fun t' l' ha hl' => ?_) (by simp [hsize]) (fun b _ => hmt b) (fun b _ hn => hother b fun e => hn ⟨t, o, l, ho, hm, hl, e.symm, hlt⟩)
  by_cases e : t' = t
  ·subst e; simp [upd] at hl'
  ·simpa [upd, e] using hl'
 refine ⟨h.change x (fun t' o' ho' => ?_) (fun t' ho' => ?_) (fun t' l' hl' => ?_) (fun t1 t2 l1 l2 h1 h2 hp1 hp2 hb => ?_) hos htape hout (fun b hb => .inl (hmt b hb)) (fun t' l' h1 h2 => ?_), x⟩
 ·by_cases e : t' = t
  ·subst e; rw [upd_same] at ho'; cases ho'
  ·rw [upd_other _ _ e] at ho'; exact .inl ⟨ho', upd_other _ _ e, fun l' hl' hlt' => hother _ fun eb => e (h.inj _ _ _ _ hl' hl hlt' hlt eb)⟩
 ·by_cases e : t' = t
  ·subst e; exact upd_same ..
  ·rw [upd_other _ _ e] at ho'; rw [upd_other _ _ e]; exact h.none_ t' ho'
 ·by_cases e : t' = t
  ·subst e; rw [upd_same] at hl'; cases hl'
  ·rw [upd_other _ _ e] at hl'; exact h.al_ t' l' hl'
 ·by_cases e1 : t1 = t
  ·subst e1; rw [upd_same] at h1; cases h1
  ·by_cases e2 : t2 = t
   ·subst e2; rw [upd_same] at h2; cases h2
   ·rw [upd_other _ _ e1] at h1; rw [upd_other _ _ e2] at h2; exact h.inj _ _ _ _ h1 h2 hp1 hp2 hb
 ·by_cases e : t' = t
  ·subst e; rw [upd_same] at h1; cases h1
  ·rw [upd_other _ _ e] at h1; exact .inl ⟨t', l', h1, h2, rfl⟩
def u8O (P : Program) (d : TypeId) : Bool := match P.underlying d with
 | some (.slice e) => match P.underlying e with
  | some (.int .u8) => true
  | _ => false
 | _ => false
def convT (P : Program) (d : TypeId) (t off len : Nat) : Option AObj → Option AR
 | some (.row 1 true rows) => if off = 0 ∧ len = rows.length ∧ 0 < len ∧ inlR rows = true ∧ u8O P d = true then some ⟨.sl rows, [(t, none)]⟩ else none
 | _ => none
def convS (P : Program) (hp : AHeap) (d : TypeId) (t off len : Nat) : Option AR := convT P d t off len (hp t)
theorem convS_ap {d : TypeId} {t off len : Nat} : convS P hp d t off len = convT P d t off len (hp t) := rfl
theorem convT_row {d : TypeId} {t off len : Nat} {rows : List (List AV)} : convT P d t off len (some (.row 1 true rows)) = if off = 0 ∧ len = rows.length ∧ 0 < len ∧ inlR rows = true ∧ u8O P d = true then some ⟨.sl rows, [(t, none)]⟩ else none := rfl
theorem does_convS {d : TypeId} {t off len : Nat} {v : Value} {r : AR} (hM : Mem G hp al loc w) (hv : Rel (mkE G.m1 hp al loc w) (.own t off len) v) (h : convS P hp d t off len = some r) :
  Does P (do pure (.value (← convert d d v))) G hp al loc w id r := by
 unfold convS at h
 generalize ho : hp t = ob at h
 unfold convT at h
 split at h
 rotate_left
 ·cases h
 rename_i rows
 split at h
 rotate_left
 ·cases h
 rename_i hc
 obtain ⟨rfl, rfl, hpos, hin, hu⟩ := hc
 cases h
 obtain ⟨l, hl, g1, g2, g3, g4, g5, g6⟩ := hM.obj t _ ho
 have hlt : l.st < l.n := by omega
 obtain ⟨c, e, fz, vs, k1, k2, k3, k4, k5, k6⟩ := g6 hlt
 have hva : ∃ cap, v = .slice (some ⟨l.b, l.st, none⟩) rows.length cap ∧ rows.length ≤ cap := by
  cases hv with
  | own ha hh =>
   obtain ⟨a, cap, rfl, _, _, hle, hs⟩ := hh l hl
   rw [hs (by omega)]
   exact ⟨cap, by simp, hle⟩
 obtain ⟨cap, rfl, hcap⟩ := hva
 have hk1 : w.heap[l.b]? = some (.cells c e fz) := by simpa [mkE] using k1
 have hlb : l.b < w.heap.size := (Array.getElem?_eq_some_iff.1 hk1).1
 have hrun : (convert d d (.slice (some ⟨l.b, l.st, none⟩) rows.length cap)).run P w = .ok (.slice (some ⟨l.b, l.st, none⟩) rows.length cap) (w.freeze ⟨l.b, c.size, none⟩ 1) := by
  unfold u8O at hu
  split at hu
  ·rename_i e' he'
   split at hu
   ·rename_i hq
    have hsh : w.shape? l.b = some (e, c.size) := by simp [World.shape?, hk1]
    simp [convert, run_underlying he', run_underlying hq, markStringish, shape, freeze, Sem.run, hsh]
   ·cases hu
  ·cases hu
 have hfr : ∃ fz', (w.freeze ⟨l.b, c.size, none⟩ 1).heap[l.b]? = some (.cells c e fz') := by
  obtain ⟨lo, hi⟩ := fz
  refine ⟨if lo == hi then (c.size, c.size + 1) else (min lo c.size, max hi (c.size + 1)), ?_⟩
  simp only [World.freeze, Nat.one_ne_zero, if_false, Array.getElem?_modify, if_true, hk1]
  rfl
 obtain ⟨fz', hk2⟩ := hfr
 have hoth : ∀ b, b ≠ l.b → (w.freeze ⟨l.b, c.size, none⟩ 1).heap[b]? = w.heap[b]? := fun b hb => by
  simp only [World.freeze, Nat.one_ne_zero, if_false, Array.getElem?_modify]
  rw [if_neg (fun e => hb e.symm)]
 obtain ⟨hM', x⟩ := hM.dropW ho rfl hl hlt (w' := w.freeze ⟨l.b, c.size, none⟩ 1) (by simp [World.freeze]) hoth rfl rfl rfl
 obtain ⟨hM2, x2⟩ := hM'.more (al' := alR al id) (fun t ht => alR_of ht)
 refine ⟨.value (.slice (some ⟨l.b, l.st, none⟩) rows.length cap), .slice (some ⟨l.b, l.st, none⟩) rows.length cap, w.freeze ⟨l.b, c.size, none⟩ 1, upd loc t none, by rw [Sem.run_bind, hrun]; rfl, .inl rfl, hM2, x.trans x2, ?_⟩
 refine .sl (sz := 1) (vs := vs) ?_ ?_ ?_ g3 (by decide) hcap k4 ?_ ?_
 ·simpa [mkE, World.freeze] using hlb
 ·rintro (⟨t', o', l', q1, q2, q3, q4, q5⟩ | hb)
  ·have q1' : upd hp t none t' = some o' := q1
   by_cases e : t' = t
   ·subst e; rw [upd_same] at q1'; cases q1'
   ·rw [upd_other _ _ e] at q3; exact e (hM.inj _ _ _ _ q3 hl q5 hlt q4)
  ·exact hM.fgn t l hl hlt hb
 ·intro e; rw [e] at hpos; exact absurd hpos (by simp)
 ·intro k u hk
  have := k5 k u hk
  simp only [mkE, World.cell?, hk2]
  simpa using this
 ·have mv : Move (mkE G.m1 hp al loc w) (mkE G.m1 (upd hp t none) (alR al id) (upd loc t none) (w.freeze ⟨l.b, c.size, none⟩ 1)) :=
   ⟨(x.trans x2).size, fun b hb hn => (x.trans x2).keep b hb hn⟩
  exact RelL.move mv (by rw [← inlR_flatten]; exact hin) k3
end
end Go.Gm
namespace Go.Gm
def partsF (fr : Operand → AV) (ps : Array (Nat × Operand)) : List (Nat × AV) := ps.toList.map fun x => (x.1, fr x.2)
def liveV (hp : AHeap) : AV → Bool
 | .ptr t _ _ => (hp t).isSome
 | _ => true
def srcA (P : Program) (hp : AHeap) (sz : Nat) (tx : TypeId) (x : AV) : Option (List (List AV)) :=
 match x with
 | .val (.string s) => if isStrT P tx = true ∧ sz = 1 then some (bytesRows s) else none
 | x => match rowsOf hp x, elemO P tx with
  | some rows, some _ => if (∀ r ∈ rows, r.length = sz) then some rows else none
  | _, _ => none
def appendA (P : Program) (hp : AHeap) (id : Nat) (t tx : TypeId) (s x : AV) : Option AR :=
 match elemO P t with
 | some e => match infoZ P e with
  | some (sz, by_) => match srcA P hp sz tx x with
   | some ys => match s with
    | .val (.slice none 0 0) => if ys.length * by_ ≤ 140737488355328 ∧ 0 < by_ then some ⟨.own id 0 ys.length, [(id + 1, none), (id, some (.row sz true ys))]⟩ else none
    | .own o off len => match hp o with
     | some (.row sz' true rows) => if sz' = sz ∧ off + len ≤ rows.length ∧ (len + ys.length) * by_ ≤ 140737488355328 ∧ 0 < by_ then
       some ⟨.own id 0 (len + ys.length), [(o, none), (id, some (.row sz true ((rows.drop off).take len ++ ys)))]⟩ else none
     | _ => none
    | _ => none
   | none => none
  | none => none
 | none => none
def extractA (x : AV) (i : Nat) : Option AV :=
 match x with
 | .tup vs => vs[i]?
 | .val (.tuple vs) => (vs[i]?).map .val
 | _ => none
def partA (P : Program) (t : TypeId) (cs : List AV) (off : Nat) : Option AV := mkv P t (cs.drop off)
def isNotIface (P : Program) (t : TypeId) : Bool := match P.underlying t with
 | some (.interface _) => false
 | some _ => true
 | none => false
def plainA (P : Program) (fr : Operand → AV) (o : Oper) : Option AR := (plainOp P o fun x => toV (fr x)).map fun v => ⟨v, []⟩
def isStrV : AV → Bool
 | .val (.string _) => true
 | _ => false
def lenA (P : Program) (fr : Operand → AV) (hp : AHeap) (o : Oper) (x : Operand) (t : TypeId) : Option AR :=
 match fr x with
 | .val (.slice none 0 0) => (lenS P hp t (fr x)).map fun v => ⟨v, []⟩
 | .sl _ => (lenS P hp t (fr x)).map fun v => ⟨v, []⟩
 | .own _ _ _ => (lenS P hp t (fr x)).map fun v => ⟨v, []⟩
 | _ => plainA P fr o
def callOp (P : Program) (ft : FuncId → List AV → Option AV) (fr : Operand → AV) (hp : AHeap) (id : Nat) (o : Oper) (c : Call) : Option AR :=
 match c.callee with
 | .builtin .len => match c.args.toList, c.argTypes.toList with
  | [x], [t] => lenA P fr hp o x t
  | _, _ => none
 | .builtin .append => match c.args.toList, c.argTypes.toList with
  | [s, x], [t, tx] => appendA P hp id t tx (fr s) (fr x)
  | _, _ => none
 | .builtin .max => plainA P fr o
 | .builtin .min => plainA P fr o
 | .value (.func f) => callA ft hp id f (c.args.toList.map fr)
 | _ => none
def isPtrT (P : Program) (t : TypeId) : Bool := match P.underlying t with
 | some (.pointer _) => true
 | _ => false
def nilOp (op : BinOp) (r : Option AR) : Option AR := match op with
 | .eql => some ⟨.val (.bool false), []⟩
 | .neq => some ⟨.val (.bool true), []⟩
 | _ => r
def isNilV : AV → Bool
 | .val (.pointer none) => true
 | _ => false
def nilB (P : Program) (hp : AHeap) (op : BinOp) (t : TypeId) (x y : AV) (r : Option AR) : Option AR := match x with
 | .ptr o _ _ => if isNilV y = true ∧ isPtrT P t = true ∧ (hp o).isSome = true then nilOp op r else r
 | .ip _ => if isNilV y = true ∧ isPtrT P t = true then nilOp op r else r
 | _ => r
def mkI (t : TypeId) (u : AV) : AV := match toV u with
 | some v => .val (.iface t v)
 | none => .ifc t u
theorem mkI_rel {E : Env} {t : TypeId} {u : AV} {v : Value} (h : Rel E u v) : Rel E (mkI t u) (.iface t v) := by
 unfold mkI
 cases e : toV u with
 | none => exact .ifc h
 | some x => have := toV_rel h e; subst this; exact .val _
theorem mkI_val {t : TypeId} {v : Value} : mkI t (.val v) = .val (.iface t v) := rfl
theorem mkI_ptr {t : TypeId} {q i off : Nat} : mkI t (.ptr q i off) = .ifc t (.ptr q i off) := rfl
theorem mkI_agg3 {t : TypeId} {a b c : Value} : mkI t (.agg [.val a, .val b, .val c]) = .val (.iface t (.agg #[a, b, c])) := rfl
def aop (P : Program) (ft : FuncId → List AV → Option AV) (fr : Operand → AV) (hp : AHeap) (id : Nat) (o : Oper) : Option AR :=
 match o.op with
 | .move x => some ⟨fr x, []⟩
 | .assign x => some ⟨fr x, []⟩
 | .pick c a b => match fr c with
  | .val (.bool t) => some ⟨if t then fr a else fr b, []⟩
  | _ => none
 | .alloc e => (zeroC P e).map fun zs => ⟨.ptr id 0 0, [(id, some (.row zs.length true [zs]))]⟩
 | .box _ x => if (cellsOf (fr x)).all (oneAV hp) = true ∧ 0 < (cellsOf (fr x)).length then some ⟨.ptr id 0 0, [(id, some (.row (cellsOf (fr x)).length true [cellsOf (fr x)]))]⟩ else none
 | .build t ps => (buildA P hp t (partsF fr ps)).map fun v => ⟨v, []⟩
 | .buildSlice t n ps => buildSliceA P hp id t n (partsF fr ps)
 | .load t x => (cellsP hp (fr x)).bind fun cs => (mkv P t cs).map fun v => ⟨v, []⟩
 | .store t x u => (storeP P hp t (fr x) (fr u)).map fun eff => ⟨.any, eff⟩
 | .nilCheck x => match fr x with
  | .ptr t i off => if (hp t).isSome = true then some ⟨.ptr t i off, []⟩ else none
  | .ip cs => some ⟨.ip cs, []⟩
  | _ => plainA P fr o
 | .fieldAddr s x f => if liveV hp (fr x) = true then (fieldP P s f (fr x)).map fun v => ⟨v, []⟩ else none
 | .indexAddr t x i => (indexS P hp t (fr x) (fr i)).map fun v => ⟨v, []⟩
 | .slice t x lo hi none => if isStrV (fr x) = true then plainA P fr o else (cutS P hp t (fr x) (lo.map fr) (hi.map fr)).map fun v => ⟨v, []⟩
 | .extract t i => (extractA (fr t) i).map fun v => ⟨v, []⟩
 | .makeFunc fn first captured => some ⟨.clo fn (first.toList.map fr) (captured.toList.map fr), []⟩
 | .makeInterface t x => if isNotIface P t = true then some ⟨mkI t (fr x), []⟩ else none
 | .makeMap t none => some ⟨.mp id, [(id, some (.mapo []))]⟩
 | .lookup t x k false => (lookA P t (fr x) (fr k)).map fun v => ⟨v, []⟩
 | .mapUpdate t m k x => (updA P hp t (fr m) (fr k) (fr x)).map fun eff => ⟨.any, eff⟩
 | .makeSlice t l c => makeA P id t (fr l) (fr c)
 | .convert s d x => if isStrV (fr x) = true ∧ (elemO P d).isSome = true then toBytesA P id s d (fr x) else match fr x with
  | .val (.slice none 0 0) => (toStrA P hp s d (fr x)).map fun v => ⟨v, []⟩
  | .sl _ => (toStrA P hp s d (fr x)).map fun v => ⟨v, []⟩
  | .own t off len => if s = d then convS P hp d t off len else (toStrA P hp s d (fr x)).map fun v => ⟨v, []⟩
  | _ => plainA P fr o
 | .binOp op t x y _ => nilB P hp op t (fr x) (fr y) (plainA P fr o)
 | .unOp .. => plainA P fr o
 | .index .. => plainA P fr o
 | .call c => callOp P ft fr hp id o c
 | _ => none
def FtOk (P : Program) (ft : FuncId → List AV → Option AV) : Prop :=
 ∀ f xs X, ft f xs = some X → PC P f xs X ∧ ∀ args w, (callFunc f args).run P w = .ok (.enter f args) w
section
variable {P : Program} {G : Ghost P} {hp : AHeap} {al : Nat → Prop} {loc : Nat → Option Loc} {w : World} {id : Nat}
theorem rel_val {E : Env} {v x : Value} (h : Rel E (.val v) x) : x = v := by cases h; rfl
theorem rel_ip {E : Env} {cs : List AV} {x : Value} (h : Rel E (.ip cs) x) : ∃ b o, x = .pointer (some ⟨b, o, none⟩) := by cases h; exact ⟨_, _, rfl⟩
theorem does_wp {o : Oper} {a : Act} {r : AR} {s : Sem Next} {K : Act → World → Prop} {Q : Exit → Act → World → Prop} (h : Does P s G hp al loc w id r) (he : execOp a.eval o = s)
  (hK : ∀ v w' loc', Mem G (applyEff hp r.eff) (alR al id) loc' w' → Ext (mkE G.m1 hp al loc w) (mkE G.m1 (applyEff hp r.eff) (alR al id) loc' w') →
   Rel (mkE G.m1 (applyEff hp r.eff) (alR al id) loc' w') r.v v → K (a.put o.dst v) w') : o.wp P a w K Q := by
 obtain ⟨nx, v, w', loc', hr, hv, hM, x, hrel⟩ := h
 unfold Oper.wp
 rw [he, hr]
 rcases hv with rfl | ⟨rfl, rfl⟩
 ·exact hK v w' loc' hM x hrel
 ·exact hK _ w' loc' hM x hrel
theorem relL_map {E : Env} {fr : Operand → AV} {ρ : Operand → Value} : ∀ (xs : List Operand), (∀ x ∈ xs, Rel E (fr x) (ρ x)) → RelL E (xs.map fr) (xs.map ρ)
 | [], _ => .nil
 | x :: xs, h => .cons (h x (by simp)) (relL_map xs fun y hy => h y (by simp [hy]))
theorem relP_map {E : Env} {fr : Operand → AV} {ρ : Operand → Value} : ∀ (xs : List (Nat × Operand)), (∀ x ∈ xs, Rel E (fr x.2) (ρ x.2)) → RelP E (xs.map fun x => (x.1, fr x.2)) (xs.map fun x => (x.1, ρ x.2))
 | [], _ => .nil
 | x :: xs, h => .cons (h x (by simp)) (relP_map xs fun y hy => h y (by simp [hy]))
theorem does_plain {o : Oper} {a : Act} {fr : Operand → AV} {r : AR} (hM : Mem G hp al loc w) (hr : ∀ x ∈ o.op.operands, Rel (mkE G.m1 hp al loc w) (fr x) (a.eval x)) (hs : ∀ cs b, o.op ≠ .select cs b) (h : plainA P fr o = some r) :
  Does P (execOp a.eval o) G hp al loc w id r := by
 unfold plainA plainOp at h
 split at h
 ·rename_i hall
  split at h
  ·rename_i v hev
   cases h
   have hc : execOp a.eval o = execOp (fun x => (toV (fr x)).getD undef) o := execOp_congr o hs fun x hx => by
    have hx' : (toV (fr x)).isSome = true := by
     have := Array.all_eq_true.1 hall
     obtain ⟨k, hk, rfl⟩ := Array.mem_iff_getElem.1 hx
     exact this k hk
    obtain ⟨v, hv⟩ := Option.isSome_iff_exists.1 hx'
    rw [hv]; exact toV_rel (hr x hx) hv
   rw [hc]
   exact does_pure hM (evS_run hev w) (.val v)
  ·cases h
 ·cases h
theorem nil_bin {t e : TypeId} {a : Addr} {x y : Operand} (hu : P.underlying t = some (.pointer e)) (w : World) :
  (do eqGuard .eql t x y (.pointer (some a)) (.pointer none); binOp .eql t (.pointer (some a)) (.pointer none)).run P w = .ok (.bool false) w ∧
  (do eqGuard .neq t x y (.pointer (some a)) (.pointer none); binOp .neq t (.pointer (some a)) (.pointer none)).run P w = .ok (.bool true) w := by
 have he : (Op.equal t (.pointer (some a)) (.pointer none)).run P w = .ok false w := by
  have : ∀ d, (Op.equalIn (d + 1) t (.pointer (some a)) (.pointer none)).run P w = .ok false w := by
   intro d; rw [Op.equalIn]; simp [underlying, hu]
  exact this 9999
 have g1 : (eqGuard .eql t x y (.pointer (some a)) (.pointer none)) = pure () := (rfl)
 have g2 : (eqGuard .neq t x y (.pointer (some a)) (.pointer none)) = pure () := (rfl)
 have h1 : binOp .eql t (.pointer (some a)) (.pointer none) = (do pure (.bool (← Op.equal t (.pointer (some a)) (.pointer none)))) := (rfl)
 have h2 : binOp .neq t (.pointer (some a)) (.pointer none) = (do pure (.bool (!(← Op.equal t (.pointer (some a)) (.pointer none))))) := (rfl)
 rw [g1, g2, h1, h2]
 constructor <;> simp [he]
theorem isPtrT_eq {t : TypeId} (h : isPtrT P t = true) : ∃ e, P.underlying t = some (.pointer e) := by
 unfold isPtrT at h; split at h
 ·exact ⟨_, by assumption⟩
 ·cases h
theorem isNilV_eq {y : AV} (h : isNilV y = true) : y = .val (.pointer none) := by
 unfold isNilV at h; split at h
 ·rfl
 ·cases h
theorem does_nilB {op : BinOp} {t u ty : TypeId} {x y : Operand} {d : Option Tmp} {pos : String} {af : Array Edge} {g : Option (Nat × Bool)} {a : Act} {fr : Operand → AV} {r : AR} (hM : Mem G hp al loc w) (hr : ∀ z ∈ (⟨d, .binOp op t x y u, ty, pos, af, g⟩ : Oper).op.operands, Rel (mkE G.m1 hp al loc w) (fr z) (a.eval z))
  (h : nilB P hp op t (fr x) (fr y) (plainA P fr ⟨d, .binOp op t x y u, ty, pos, af, g⟩) = some r) : Does P (execOp a.eval ⟨d, .binOp op t x y u, ty, pos, af, g⟩) G hp al loc w id r := by
 have hx := hr x (by simp [Op.operands])
 have hy := hr y (by simp [Op.operands])
 have hpl : ∀ {q : Option AR}, q = plainA P fr ⟨d, .binOp op t x y u, ty, pos, af, g⟩ → q = some r → Does P (execOp a.eval ⟨d, .binOp op t x y u, ty, pos, af, g⟩) G hp al loc w id r := fun e hq => does_plain hM hr (by intro cs b hh; cases hh) (e ▸ hq)
 have key : ∀ (p : Addr), a.eval x = .pointer (some p) → isNilV (fr y) = true → isPtrT P t = true → nilOp op (plainA P fr ⟨d, .binOp op t x y u, ty, pos, af, g⟩) = some r → Does P (execOp a.eval ⟨d, .binOp op t x y u, ty, pos, af, g⟩) G hp al loc w id r := fun p hp hn ht hh => by
  obtain ⟨e, he⟩ := isPtrT_eq ht
  rw [isNilV_eq hn] at hy
  have hyv := rel_val hy
  obtain ⟨q1, q2⟩ := nil_bin (P := P) (x := x) (y := y) (a := p) he w
  cases op with
  | eql => cases hh; exact does_pure (v := .bool false) hM (by simp only [execOp, hp, hyv, Sem.run_bind, q1]; rfl) (.val _)
  | neq => cases hh; exact does_pure (v := .bool true) hM (by simp only [execOp, hp, hyv, Sem.run_bind, q2]; rfl) (.val _)
  | _ => exact hpl rfl hh
 unfold nilB at h
 split at h
 ·rename_i o i off hfx
  split at h
  ·rename_i hc
   obtain ⟨ob, hob⟩ := Option.isSome_iff_exists.1 hc.2.2
   obtain ⟨l, hl, _⟩ := hM.obj _ _ hob
   rw [hfx] at hx
   have hv : a.eval x = .pointer (some ⟨l.b, l.st + i * l.sz + off, none⟩) := by cases hx with | ptr _ hh => exact hh l hl
   exact key _ hv hc.1 hc.2.1 h
  ·exact hpl rfl h
 ·rename_i cs hfx
  split at h
  ·rename_i hc
   rw [hfx] at hx
   obtain ⟨b, o, hv⟩ := rel_ip hx
   exact key _ hv hc.1 hc.2 h
  ·exact hpl rfl h
 ·exact hpl rfl h
theorem does_extract {x : AV} {v : Value} {i : Nat} {u : AV} (hM : Mem G hp al loc w) (hr : Rel (mkE G.m1 hp al loc w) x v) (h : extractA x i = some u) : Does P (do pure (.value (← Instr.extract v i))) G hp al loc w id ⟨u, []⟩ := by
 unfold extractA at h
 split at h
 ·cases hr with
  | tup hl =>
   obtain ⟨v, hv, hrel⟩ := hl.get i u h
   exact does_pure hM (by simp [Instr.extract, hv]) hrel
 ·cases hr
  rename_i vs
  cases hv : vs[i]? with
  | none => rw [hv] at h; cases h
  | some v => rw [hv] at h; cases h; exact does_pure hM (by simp [Instr.extract, hv]) (.val v)
 ·cases h
theorem src_rel {sz : Nat} {tx : TypeId} {x : AV} {v : Value} {ys : List (List AV)} (hM : Mem G hp al loc w) (hr : Rel (mkE G.m1 hp al loc w) x v) (h : srcA P hp sz tx x = some ys) : SrcRows P (mkE G.m1 hp al loc w) sz tx v ys := by
 unfold srcA at h
 split at h
 ·split at h
  ·rename_i hc
   cases h
   cases hr
   obtain ⟨c1, rfl⟩ := hc
   exact src_string _ (isStrT_eq c1)
  ·cases h
 ·split at h
  ·rename_i rows e h1 h2
   split at h
   ·rename_i hz; cases h; exact src_slice hM hr h1 (elemO_eq h2) hz
   ·cases h
  ·cases h
theorem does_append {t tx ty : TypeId} {s x : AV} {sv xv : Value} {r : AR} (hM : Mem G hp al loc w) (hf : Fresh al id) (hs : Rel (mkE G.m1 hp al loc w) s sv) (hx : Rel (mkE G.m1 hp al loc w) x xv) (h : appendA P hp id t tx s x = some r) :
  Does P (do pure (.value (← Builtin.append_ #[t, tx] ty #[sv, xv]))) G hp al loc w id r := by
 unfold appendA at h
 split at h
 ·rename_i e he
  split at h
  ·rename_i sz by_ hz
   split at h
   ·rename_i ys hys
    have hsrc := src_rel (P := P) hM hx hys
    split at h
    ·split at h
     ·rename_i hc
      cases h; cases hs
      exact append_nil hM hf (elemO_eq he) hz hsrc hc.1 hc.2
     ·cases h
    ·split at h
     ·rename_i sz' rows ho
      split at h
      ·rename_i hc
       obtain ⟨rfl, c2, c3, c4⟩ := hc
       cases h
       exact append_own hM hf.at (elemO_eq he) hz ho c2 hs hsrc c3 c4
      ·cases h
     ·cases h
    ·cases h
   ·cases h
  ·cases h
 ·cases h
end
end Go.Gm
namespace Go.Gm
section
variable {P : Program} {G : Ghost P} {hp : AHeap} {al : Nat → Prop} {loc : Nat → Option Loc} {w : World} {id : Nat}
theorem isNotIface_run {t : TypeId} (h : isNotIface P t = true) (x : Value) : (Instr.makeInterface t x).run P w = .ok (.iface t x) w := by
 unfold isNotIface at h
 cases hu : P.underlying t with
 | none => rw [hu] at h; cases h
 | some d => rw [hu] at h; cases d <;> simp_all [Instr.makeInterface, underlying]
theorem relO_map {E : Env} {fr : Operand → AV} {ρ : Operand → Value} : ∀ (x : Option Operand), (∀ y, x = some y → Rel E (fr y) (ρ y)) → RelO E (x.map fr) (x.map ρ)
 | none, _ => .none
 | some y, h => .some (h y rfl)
theorem aop_wp {ft : FuncId → List AV → Option AV} {fr : Operand → AV} {o : Oper} {a : Act} {r : AR} {K : Act → World → Prop} {Q : Exit → Act → World → Prop} (hM : Mem G hp al loc w) (hf : Fresh al id) (hft : FtOk P ft)
  (hr : ∀ x, Rel (mkE G.m1 hp al loc w) (fr x) (a.eval x)) (h : aop P ft fr hp id o = some r)
  (hK : ∀ v w' loc', Mem G (applyEff hp r.eff) (alR al id) loc' w' → Ext (mkE G.m1 hp al loc w) (mkE G.m1 (applyEff hp r.eff) (alR al id) loc' w') →
   Rel (mkE G.m1 (applyEff hp r.eff) (alR al id) loc' w') r.v v → K (a.put o.dst v) w') : o.wp P a w K Q := by
 have hr' : ∀ x ∈ o.op.operands, Rel (mkE G.m1 hp al loc w) (fr x) (a.eval x) := fun x _ => hr x
 obtain ⟨dst, op, ty, pos, after, guard⟩ := o
 unfold aop at h
 split at h
 ·-- move
  rename_i x ho; simp only at ho; subst ho; cases h
  exact does_wp (s := pure (.value (a.eval x))) (does_pure hM rfl (hr x)) rfl hK
 ·rename_i x ho; simp only at ho; subst ho; cases h
  exact does_wp (s := pure (.value (a.eval x))) (does_pure hM rfl (hr x)) rfl hK
 ·-- pick
  rename_i c x y ho; simp only at ho; subst ho
  split at h
  ·rename_i t hc
   cases h
   have hcv : a.eval c = .bool t := rel_val (hc ▸ hr c)
   refine does_wp (s := execOp a.eval ⟨dst, .pick c x y, ty, pos, after, guard⟩) (does_pure (v := if t then a.eval x else a.eval y) hM (by cases t <;> simp [execOp, hcv, asBool]) ?_) rfl hK
   cases t
   ·exact hr y
   ·exact hr x
  ·cases h
 ·-- alloc
  rename_i e ho; simp only at ho; subst ho
  simp only [Option.map_eq_some_iff] at h
  obtain ⟨zs, hz, rfl⟩ := h
  exact does_wp (does_alloc hM hf.at hz) rfl hK
 ·-- box
  rename_i e x ho; simp only at ho; subst ho
  split at h
  ·rename_i hc
   cases h
   exact does_wp (does_box hM hf.at (hr x) hc.1 hc.2) rfl hK
  ·cases h
 ·-- build
  rename_i t ps ho; simp only at ho; subst ho
  simp only [Option.map_eq_some_iff] at h
  obtain ⟨v, hb, rfl⟩ := h
  refine does_wp (does_build (P := P) (t := t) (parts' := ps.map fun (x : Nat × Operand) => (x.1, a.eval x.2)) hM ?_ hb) rfl hK
  have := relP_map (fr := fr) (ρ := a.eval) ps.toList (fun x _ => hr x.2)
  simpa [partsF] using this
 ·-- buildSlice
  rename_i t n ps ho; simp only at ho; subst ho
  refine does_wp (does_buildSlice (P := P) (t := t) (parts' := ps.map fun (x : Nat × Operand) => (x.1, a.eval x.2)) hM hf.at ?_ h) rfl hK
  have := relP_map (fr := fr) (ρ := a.eval) ps.toList (fun x _ => hr x.2)
  simpa [partsF] using this
 ·-- load
  rename_i t x ho; simp only at ho; subst ho
  simp only [Option.bind_eq_some_iff, Option.map_eq_some_iff] at h
  obtain ⟨cs, hc, u, hu, rfl⟩ := h
  exact does_wp (does_load hM (hr x) hc hu) rfl hK
 ·-- store
  rename_i t x u ho; simp only at ho; subst ho
  simp only [Option.map_eq_some_iff] at h
  obtain ⟨eff, he, rfl⟩ := h
  exact does_wp (does_store hM (hr x) (hr u) he) rfl hK
 ·-- nilCheck
  rename_i x ho; simp only at ho; subst ho
  split at h
  ·rename_i t i off hx
   split at h
   ·rename_i hs
    cases h
    obtain ⟨ob, hob⟩ := Option.isSome_iff_exists.1 hs
    obtain ⟨l, hl, _⟩ := hM.obj t ob hob
    have hrx := hr x
    rw [hx] at hrx
    have hv : a.eval x = .pointer (some ⟨l.b, l.st + i * l.sz + off, none⟩) := by cases hrx with | ptr _ hh => exact hh l hl
    exact does_wp (s := execOp a.eval ⟨dst, .nilCheck x, ty, pos, after, guard⟩) (does_pure (v := a.eval x) hM (by simp [execOp, hv]) hrx) rfl hK
   ·cases h
  ·rename_i cs hx
   cases h
   have hrx := hr x
   rw [hx] at hrx
   have hv := rel_ip hrx
   obtain ⟨b, o, hv⟩ := hv
   exact does_wp (s := execOp a.eval ⟨dst, .nilCheck x, ty, pos, after, guard⟩) (does_pure (v := a.eval x) hM (by simp [execOp, hv]) hrx) rfl hK
  ·exact does_wp (does_plain hM hr' (by intro cs b hh; cases hh) h) rfl hK
 ·-- fieldAddr
  rename_i s x f ho; simp only at ho; subst ho
  split at h
  ·rename_i hlv
   simp only [Option.map_eq_some_iff] at h
   obtain ⟨u, hu, rfl⟩ := h
   exact does_wp (does_fieldAddr hM (hr x) hu (fun t i off e => by rw [e] at hlv; exact hlv)) rfl hK
  ·cases h
 ·-- indexAddr
  rename_i t x i ho; simp only at ho; subst ho
  simp only [Option.map_eq_some_iff] at h
  obtain ⟨u, hu, rfl⟩ := h
  exact does_wp (does_indexS hM (hr x) (hr i) hu) rfl hK
 ·-- slice
  rename_i t x lo hi ho; simp only at ho; subst ho
  split at h
  ·exact does_wp (does_plain hM hr' (by intro cs b hh; cases hh) h) rfl hK
  ·simp only [Option.map_eq_some_iff] at h
   obtain ⟨u, hu, rfl⟩ := h
   exact does_wp (does_cut hM (hr x) (relO_map lo fun y _ => hr y) (relO_map hi fun y _ => hr y) hu) rfl hK
 ·-- extract
  rename_i t i ho; simp only at ho; subst ho
  simp only [Option.map_eq_some_iff] at h
  obtain ⟨u, hu, rfl⟩ := h
  exact does_wp (does_extract hM (hr t) hu) rfl hK
 ·-- makeFunc
  rename_i fn first captured ho; simp only at ho; subst ho; cases h
  refine does_wp (s := execOp a.eval ⟨dst, .makeFunc fn first captured, ty, pos, after, guard⟩) (does_pure (v := .func fn (first.map a.eval) (captured.map a.eval)) hM (by simp [execOp, Instr.makeFunc]) ?_) rfl hK
  have h1 := relL_map (fr := fr) (ρ := a.eval) first.toList (fun x _ => hr x)
  have h2 := relL_map (fr := fr) (ρ := a.eval) captured.toList (fun x _ => hr x)
  have := Rel.clo (fn := fn) h1 h2
  have e1 : ∀ xs : Array Operand, (xs.toList.map a.eval).toArray = xs.map a.eval := fun xs => by apply Array.ext'; exact (Array.toList_map ..).symm
  rw [e1, e1] at this
  exact this
 ·-- makeInterface
  rename_i t x ho; simp only at ho; subst ho
  split at h
  ·rename_i hi
   cases h
   exact does_wp (s := execOp a.eval ⟨dst, .makeInterface t x, ty, pos, after, guard⟩) (does_pure (v := .iface t (a.eval x)) hM (by simp [execOp, isNotIface_run hi]) (mkI_rel (hr x))) rfl hK
  ·cases h
 ·-- makeMap
  rename_i t ho; simp only at ho; subst ho; cases h
  exact does_wp (does_makeMap (t := t) hM hf.at) rfl hK
 ·-- lookup
  rename_i t x k ho; simp only at ho; subst ho
  simp only [Option.map_eq_some_iff] at h
  obtain ⟨u, hu, rfl⟩ := h
  exact does_wp (does_lookup hM (hr x) (hr k) hu) rfl hK
 ·-- mapUpdate
  rename_i t m k x ho; simp only at ho; subst ho
  simp only [Option.map_eq_some_iff] at h
  obtain ⟨eff, hu, rfl⟩ := h
  exact does_wp (does_update hM (hr m) (hr k) (hr x) hu) rfl hK
 ·-- makeSlice
  rename_i t l c ho; simp only at ho; subst ho
  exact does_wp (does_make hM hf.at (hr l) (hr c) h) rfl hK
 ·-- convert
  rename_i s d x ho; simp only at ho; subst ho
  split at h
  ·exact does_wp (does_toBytes hM hf.at (hr x) h) rfl hK
  ·split at h
   ·simp only [Option.map_eq_some_iff] at h
    obtain ⟨u, hu, rfl⟩ := h
    exact does_wp (does_toStr hM (hr x) hu) rfl hK
   ·simp only [Option.map_eq_some_iff] at h
    obtain ⟨u, hu, rfl⟩ := h
    exact does_wp (does_toStr hM (hr x) hu) rfl hK
   ·rename_i t off len hx
    split at h
    ·rename_i hsd
     subst hsd
     exact does_wp (does_convS hM (hx ▸ hr x) h) rfl hK
    ·simp only [Option.map_eq_some_iff] at h
     obtain ⟨u, hu, rfl⟩ := h
     exact does_wp (does_toStr hM (hr x) hu) rfl hK
   ·exact does_wp (does_plain hM hr' (by intro cs b hh; cases hh) h) rfl hK
 ·rename_i ho; simp only at ho; subst ho
  exact does_wp (does_nilB hM hr' h) rfl hK
 ·rename_i ho; simp only at ho; subst ho
  exact does_wp (does_plain hM hr' (by intro cs b hh; cases hh) h) rfl hK
 ·rename_i ho; simp only at ho; subst ho
  exact does_wp (does_plain hM hr' (by intro cs b hh; cases hh) h) rfl hK
 ·-- a call
  rename_i c ho; simp only at ho; subst ho
  obtain ⟨callee, args, tys⟩ := c
  unfold callOp at h
  split at h
  ·-- len
   rename_i hc; simp only at hc; subst hc
   split at h
   ·rename_i x t h1 h2
    have e1 : args = #[x] := by simpa using congrArg List.toArray h1
    have e2 : tys = #[t] := by simpa using congrArg List.toArray h2
    subst e1; subst e2
    have hl : ∀ u, lenS P hp t (fr x) = some u → Does P (execOp a.eval ⟨dst, .call { callee := .builtin .len, args := #[x], argTypes := #[t] }, ty, pos, after, guard⟩) G hp al loc w id ⟨u, []⟩ := fun u hu => by
     have := does_len (P := P) (G := G) (id := id) (ty := ty) hM (hr x) hu
     simpa [execOp, resolve, invoke, builtin] using this
    unfold lenA at h
    split at h
    ·simp only [Option.map_eq_some_iff] at h
     obtain ⟨u, hu, rfl⟩ := h
     exact does_wp (hl u hu) rfl hK
    ·simp only [Option.map_eq_some_iff] at h
     obtain ⟨u, hu, rfl⟩ := h
     exact does_wp (hl u hu) rfl hK
    ·simp only [Option.map_eq_some_iff] at h
     obtain ⟨u, hu, rfl⟩ := h
     exact does_wp (hl u hu) rfl hK
    ·exact does_wp (does_plain hM hr' (by intro cs b hh; cases hh) h) rfl hK
   ·cases h
  ·-- append
   rename_i hc; simp only at hc; subst hc
   split at h
   ·rename_i s x t tx h1 h2
    have e1 : args = #[s, x] := by simpa using congrArg List.toArray h1
    have e2 : tys = #[t, tx] := by simpa using congrArg List.toArray h2
    subst e1; subst e2
    have := does_append (P := P) (G := G) (id := id) (ty := ty) hM hf (hr s) (hr x) h
    exact does_wp (s := execOp a.eval ⟨dst, .call { callee := .builtin .append, args := #[s, x], argTypes := #[t, tx] }, ty, pos, after, guard⟩) (by simpa [execOp, resolve, invoke, builtin] using this) rfl hK
   ·cases h
  ·exact does_wp (does_plain hM hr' (by intro cs b hh; cases hh) h) rfl hK
  ·exact does_wp (does_plain hM hr' (by intro cs b hh; cases hh) h) rfl hK
  ·-- a function
   rename_i f hc; simp only at hc; subst hc
   have hrl := relL_map (fr := fr) (ρ := a.eval) args.toList (fun x _ => hr x)
   have hent : ∃ xs X, ft f xs = some X := by
    unfold callA at h
    split at h
    ·split at h
     ·rename_i xs _ X hX; exact ⟨_, _, hX⟩
     ·cases h
    ·cases h
   obtain ⟨xs, X, hX⟩ := hent
   have henter := (hft f xs X hX).2
   have hc := call_rule (P := P) hM hf (f := f) (fun xs X hX => (hft f xs X hX).1) hrl h
   have hargs : (args.toList.map a.eval).toArray = args.map a.eval := by apply Array.ext'; exact (Array.toList_map ..).symm
   rw [hargs] at hc
   unfold Oper.wp
   have hrun : (execOp a.eval ⟨dst, .call { callee := .value (.func f), args := args, argTypes := tys }, ty, pos, after, guard⟩).run P w = .ok (.enter f (args.map a.eval)) w := by
    simp [execOp, resolve, Deferred.ofValue, Act.eval, invoke, henter]
   rw [hrun, Oper.upon_enter]
   refine hc.mono ?_
   rintro e w' ⟨v, loc', rfl, h1, h2, h3⟩
   exact hK v w' loc' h1 h2 h3
  ·cases h
 ·cases h
def callV (fr : Operand → AV) (o : Oper) : Option (FuncId × List AV) := match o.op with
 | .call c => match c.callee with
  | .value (.func f) => some (f, c.args.toList.map fr)
  | .value (.tmp t) => match fr (.tmp t) with
   | .clo (.func f) first captured => some (f, first ++ c.args.toList.map fr ++ captured)
   | _ => none
  | _ => none
 | _ => none
theorem call_wp {o : Oper} {a : Act} {fr : Operand → AV} {f : FuncId} {us : List AV} {r : AR} {K : Act → World → Prop} {Q : Exit → Act → World → Prop} (hM : Mem G hp al loc w) (hf : Fresh al id) (hr : ∀ x, Rel (mkE G.m1 hp al loc w) (fr x) (a.eval x))
  (hc : callV fr o = some (f, us)) (he : ∀ args w, (callFunc f args).run P w = .ok (.enter f args) w) (h : CallOk P f us hp id r)
  (hK : ∀ v w' loc', Mem G (applyEff hp r.eff) (alR al id) loc' w' → Ext (mkE G.m1 hp al loc w) (mkE G.m1 (applyEff hp r.eff) (alR al id) loc' w') → Rel (mkE G.m1 (applyEff hp r.eff) (alR al id) loc' w') r.v v → K (a.put o.dst v) w') : o.wp P a w K Q := by
 obtain ⟨dst, op, ty, pos, after, guard⟩ := o
 unfold callV at hc
 split at hc
 ·rename_i c hop
  simp only at hop; subst hop
  obtain ⟨callee, args, tys⟩ := c
  have hargs : (args.toList.map a.eval).toArray = args.map a.eval := by apply Array.ext'; exact (Array.toList_map ..).symm
  split at hc
  ·rename_i f' hce
   simp only at hce; subst hce
   cases hc
   have hrl := relL_map (fr := fr) (ρ := a.eval) args.toList (fun x _ => hr x)
   have hcc := h G al loc w _ hM hf hrl
   rw [hargs] at hcc
   unfold Oper.wp
   have hrun : (execOp a.eval ⟨dst, .call { callee := .value (.func f), args := args, argTypes := tys }, ty, pos, after, guard⟩).run P w = .ok (.enter f (args.map a.eval)) w := by
    simp [execOp, resolve, Deferred.ofValue, Act.eval, invoke, he]
   rw [hrun, Oper.upon_enter]
   refine hcc.mono ?_
   rintro e w' ⟨v, loc', rfl, h1, h2, h3⟩
   exact hK v w' loc' h1 h2 h3
  ·rename_i t hce
   simp only at hce; subst hce
   split at hc
   ·rename_i f' first captured hfr
    cases hc
    have hv := hr (.tmp t)
    rw [hfr] at hv
    generalize hev : a.eval (.tmp t) = vt at hv
    cases hv with
    | clo hfirst hcap =>
     rename_i f1 c1
     have hrl := (hfirst.append (relL_map (fr := fr) (ρ := a.eval) args.toList (fun x _ => hr x))).append hcap
     have hcc := h G al loc w _ hM hf hrl
     have hargs2 : (f1 ++ args.toList.map a.eval ++ c1).toArray = f1.toArray ++ args.map a.eval ++ c1.toArray := by
      rw [← hargs]; simp
     rw [hargs2] at hcc
     unfold Oper.wp
     have hrun : (execOp a.eval ⟨dst, .call { callee := .value (.tmp t), args := args, argTypes := tys }, ty, pos, after, guard⟩).run P w = .ok (.enter f (f1.toArray ++ args.map a.eval ++ c1.toArray)) w := by
      simp [execOp, resolve, Deferred.ofValue, hev, invoke, he]
     rw [hrun, Oper.upon_enter]
     refine hcc.mono ?_
     rintro e w' ⟨v, loc', rfl, h1, h2, h3⟩
     exact hK v w' loc' h1 h2 h3
   ·cases hc
  ·cases hc
 ·cases hc
end
end Go.Gm
namespace Go.Gm
variable {P : Program} {l n : Nat}
abbrev FR (l : Nat) : Fence := Fence.wide.inRound l
theorem calls_in {f : FuncId} {args : Array Value} {w : World} {R : Ending → World → Prop} (h : Calls P f args w R) : CallsIn (FR l) n P f args w R := CallsIn.inRound l (callsIn_wide.2 h)
theorem rows_in {row : String} {args : Array Value} {w : World} {R : Value → World → Prop} (h : Rows P row args w R) : RowsIn (FR l) n P row args w R := fun c cs _ => by
  obtain ⟨v, w', r, s⟩ := h c cs
  exact ⟨v, w', r, stepsIn_wide.2 s⟩
theorem oper_in {o : Oper} {a : Act} {w : World} {K : Act → World → Prop} {Q : Exit → Act → World → Prop} (hd : ∀ c, o.op ≠ .defer c) (h : o.wp P a w K Q) : o.wpIn (FR l) n P a w K Q := by
  refine ⟨fun _ _ => trivial, ?_⟩
  have e : o.semAt (FR l).round a.eval = execOp a.eval o := Oper.semAt_some l _ _ hd
  rw [e]
  unfold Oper.wp at h
  generalize (execOp a.eval o).run P w = r at h ⊢
  cases r with
  | ok x w' =>
    cases x <;> first
      | exact h
      | exact h.elim
      | exact ⟨(fun hh => by cases hh), calls_in h⟩
      | exact ⟨(fun hh => by cases hh), rows_in h⟩
  | halt x w' => cases x <;> first | exact h | exact h.elim
def noDefer (o : Oper) : Bool := match o.op with
  | .defer _ => false
  | _ => true
theorem noDefer_spec {o : Oper} (h : noDefer o = true) : ∀ c, o.op ≠ .defer c := fun c e => by unfold noDefer at h; rw [e] at h; cases h
theorem op_in {ops : Array Oper} {Q : Exit → Act → World → Prop} (hq : ¬ LetsOut Q) {i : Nat} {K K' : Act → World → Prop} (hd : ∀ o, ops[i]? = some o → noDefer o = true) (hk : ∀ a w, K a w → K' a w) {a : Act} {w : World} (h : wpOp P ops Q i K a w) : wpOpIn (FR l) n P ops Q i K' a w := by
  unfold wpOp at h
  unfold wpOpIn
  split
  · rename_i ho
    simp only [ho] at h
    exact hk _ _ h
  · rename_i o ho
    simp only [ho] at h
    split
    · rename_i hw
      rw [if_pos hw] at h
      rcases h with h | h
      · exact Oper.wpIn_mono hk (oper_in (noDefer_spec (hd o ho)) h)
      · exact absurd h.2 hq
    · rename_i hw
      rw [if_neg hw] at h
      exact ⟨fun _ _ => trivial, hk _ _ h⟩
theorem any_in {ops : Array Oper} {Q : Exit → Act → World → Prop} (hq : ¬ LetsOut Q) (hd : ∀ (i : Nat) o, ops[i]? = some o → noDefer o = true) {md : Region.Mode} : ∀ (k : Nat) (listed : Array Bool) (a : Act) (w : World), wpAny P md ops Q k listed a w → wpAnyIn (FR l) n P md ops Q k listed a w
  | 0, listed, a, w, h => h
  | k + 1, listed, a, w, h => ⟨h.1, fun i hi => op_in hq (hd i) (fun a w h => any_in hq hd k _ a w h) (h.2 i hi)⟩
section
variable {F : Fence} {Q : Exit → Act → World → Prop} {a : Act} {w : World}
theorem wpIn_loop_ghost {c : Code} (I : Nat → Act → World → Prop) (n₀ : Nat) (h₀ : I n₀ a w)
    (round : ∀ k a w, I k a w → c.wpIn F n P (Exit.then (fun a' w' => ∃ k', k' < k ∧ I k' a' w') Q) a w) : (Code.loop c).wpIn F n P Q a w := by
  refine wpIn_loop (fun a w => ∃ n, I n a w) (fun a w => leastOf (fun n => I n a w)) ⟨n₀, h₀⟩ ?_
  intro a w hI
  refine wpIn_mono (round _ a w (leastOf_spec hI).1) ?_
  intro e a' w' hq
  cases e with
  | normal =>
    obtain ⟨n', hlt, hI'⟩ := hq
    exact show (∃ n, I n a' w') ∧ leastOf (fun n => I n a' w') < leastOf (fun n => I n a w) from ⟨⟨n', hI'⟩, Nat.lt_of_le_of_lt ((leastOf_spec ⟨n', hI'⟩).2 n' hI') hlt⟩
  | exit id => exact hq
  | goto l => exact hq
  | ret => exact hq
  | panic ch => exact hq
  | outgrown => exact hq
end
def WP (md : Option (Nat × Nat)) (P : Program) (c : Code) (Q : Exit → Act → World → Prop) (a : Act) (w : World) : Prop := match md with
  | none => c.wp P Q a w
  | some x => c.wpIn (FR x.1) x.2 P Q a w
def WL (md : Option (Nat × Nat)) (P : Program) (ops : Array Oper) (Q : Exit → Act → World → Prop) (L : List Oper) (a : Act) (w : World) : Prop := match md with
  | none => wpList P ops Q L a w
  | some x => wpListIn (FR x.1) x.2 P ops Q L a w
section
variable {md : Option (Nat × Nat)} {Q Q' : Exit → Act → World → Prop} {a : Act} {w : World} {c x y : Code}
theorem WP.mono (h : WP md P c Q a w) (hq : ∀ e a w, Q e a w → Q' e a w) : WP md P c Q' a w := by
  cases md with
  | none => exact wp_mono h hq
  | some x => exact wpIn_mono h hq
theorem WP.skip (h : Q .normal a w) : WP md P .skip Q a w := by
  cases md with
  | none => exact wp_skip h
  | some x => exact wpIn_skip h
theorem WP.exit {t : Nat} (h : Q (.exit t) a w) : WP md P (.exit t) Q a w := by
  cases md with
  | none => exact wp_exit h
  | some x => exact wpIn_exit h
theorem WP.ret (h : Q .ret a w) : WP md P .ret Q a w := by
  cases md with
  | none => exact wp_ret h
  | some x => exact wpIn_ret h
theorem WP.seq (h : WP md P x (Exit.then (WP md P y Q) Q) a w) : WP md P (.seq x y) Q a w := by
  cases md with
  | none => exact wp_seq h
  | some x => exact wpIn_seq h
theorem WP.cond {o : Operand} {t : Bool} (hc : a.eval o = .bool t) (h : WP md P (if t then x else y) Q a w) : WP md P (.cond o x y) Q a w := by
  cases md with
  | none => exact wp_cond hc h
  | some x => exact wpIn_cond hc h
theorem WP.block {t : Nat} (h : WP md P c (Exit.inBlock t Q) a w) : WP md P (.block t c) Q a w := by
  cases md with
  | none => exact wp_block h
  | some x => exact wpIn_block h
theorem WP.loop (I : Nat → Act → World → Prop) (n₀ : Nat) (h₀ : I n₀ a w)
    (round : ∀ k a w, I k a w → WP md P c (Exit.then (fun a' w' => ∃ k', k' < k ∧ I k' a' w') Q) a w) : WP md P (.loop c) Q a w := by
  cases md with
  | none => exact wp_loop_ghost I n₀ h₀ round
  | some x => exact wpIn_loop_ghost I n₀ h₀ round
theorem WP.list {id : Nat} {ops : Array Oper} (h : WL md P ops Q ops.toList a w) : WP md P (.region id ops false) Q a w := by
  cases md with
  | none => exact wp_region_list h
  | some x => exact wpIn_region_list h
theorem WP.any {id : Nat} {ops : Array Oper} (hm : P.follows .mixedOrders = true) (hd : ∀ (i : Nat) o, ops[i]? = some o → noDefer o = true)
    (h : wpAny P .any ops (fun e a w => e = .normal ∧ Q .normal a w) ops.size (Array.replicate ops.size false) a { w with drawn := w.drawn + 1 }) : WP md P (.region id ops true) Q a w := by
  have hq : ¬ LetsOut (fun e a w => e = Exit.normal ∧ Q .normal a w) := by rintro ⟨_, _, h, _⟩; cases h
  cases md with
  | none => exact wp_mono (wp_region_any hm h) (by rintro e a w ⟨rfl, h⟩; exact h)
  | some x => exact wpIn_mono (wpIn_region_any hm (any_in hq hd _ _ _ _ h)) (by rintro e a w ⟨rfl, h⟩; exact h)
theorem WL.nil {ops : Array Oper} (h : Q .normal a w) : WL md P ops Q [] a w := by
  cases md with
  | none => exact h
  | some x => exact h
theorem WL.op {ops : Array Oper} {o : Oper} {L : List Oper} (hw : Region.wanted o (yielded ops a.tmps) = true) (hd : ∀ c, o.op ≠ .defer c) (h : o.wp P a w (WL md P ops Q L) Q) : WL md P ops Q (o :: L) a w := by
  cases md with
  | none => show wpList P ops Q (o :: L) a w; unfold wpList; rw [if_pos hw]; exact .inl h
  | some x => show wpListIn _ _ P ops Q (o :: L) a w; unfold wpListIn; rw [if_pos hw]; exact oper_in hd h
theorem WL.not {ops : Array Oper} {o : Oper} {L : List Oper} (hw : Region.wanted o (yielded ops a.tmps) = false) (h : WL md P ops Q L (a.put o.dst undef) w) : WL md P ops Q (o :: L) a w := by
  cases md with
  | none => show wpList P ops Q (o :: L) a w; unfold wpList; rw [hw]; exact h
  | some x => show wpListIn _ _ P ops Q (o :: L) a w; unfold wpListIn; rw [hw]; exact ⟨fun _ _ => trivial, h⟩
end
end Go.Gm
