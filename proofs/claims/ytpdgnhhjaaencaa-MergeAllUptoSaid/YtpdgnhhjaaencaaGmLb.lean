import Derived.Test.YtpdgnhhjaaencaaGmLa
import Derived.Deep.AppendSrc
import Derived.Laws.MakeOwn
import Derived.Laws.Tables
import Derived.Lib.ConvBytes
import Derived.Laws.BytesArg
import Derived.Scope
import Derived.Deep.LoopGhost
import Derived.OrdersIn
import Derived.TacticsIn
import Derived.RangeFuncCalls
set_option linter.all false
set_option linter.unusedVariables false
set_option linter.unusedSimpArgs false
set_option linter.unusedVariables false
set_option linter.unusedSimpArgs false
namespace Go.Gm
section
variable {P : Program} {G : Ghost P} {hp : AHeap} {al : Nat → Prop} {loc : Nat → Option Loc} {w : World} {id : Nat}

/-- An object goes on under another id, its block written. -/
theorem mem_regrow (hM : Mem G hp al loc w) (hf : ¬ al id) {o sz : Nat} {rows rows' : List (List AV)} {l : Loc} (ho : hp o = some (.row sz true rows)) (hl : loc o = some l) {w' : World}
    (hsize : w'.heap.size = w.heap.size) (hother : ∀ b, ¬ (b = l.b ∧ l.st < l.n) → w'.heap[b]? = w.heap[b]?) (hos : w'.os = w.os) (htape : w'.tape = w.tape) (hout : w'.output = w.output)
    {st' : Nat} (hst : l.st ≤ st')
    (hob : ∀ E', Ext (mkE G.m1 hp al loc w) E' → E'.w = w' → ObjAt E' ⟨l.b, st', l.sz, l.n⟩ (.row sz true rows')) :
    ∃ loc', Mem G (upd (upd hp o none) id (some (.row sz true rows'))) (alR al id) loc' w' ∧ Ext (mkE G.m1 hp al loc w) (mkE G.m1 (upd (upd hp o none) id (some (.row sz true rows'))) (alR al id) loc' w') ∧
      loc' id = some ⟨l.b, st', l.sz, l.n⟩ := by
  have hoid : o ≠ id := fun e => hf (e ▸ hM.al_ o l hl)
  let hp' : AHeap := upd (upd hp o none) id (some (.row sz true rows'))
  let loc' : Nat → Option Loc := upd (upd loc o none) id (some ⟨l.b, st', l.sz, l.n⟩)
  have hid : loc' id = some ⟨l.b, st', l.sz, l.n⟩ := upd_same ..
  have hoth : ∀ t, t ≠ id → t ≠ o → loc' t = loc t ∧ hp' t = hp t := fun t h1 h2 => ⟨by simp [loc', upd, h1, h2], by simp [hp', upd, h1, h2]⟩
  have ho' : loc' o = none ∧ hp' o = none := ⟨by simp [loc', upd, hoid], by simp [hp', upd, hoid]⟩
  have hmt : ∀ b, mtOf hp' loc' b → mtOf hp loc b := by
    rintro b ⟨t, ob, lt, h1, h2, h3, h4, h5⟩
    by_cases e : t = id
    · subst e
      rw [hid] at h3; cases h3
      exact ⟨o, _, l, ho, rfl, hl, h4, by simp only at h5; omega⟩
    · by_cases e2 : t = o
      · subst e2; rw [ho'.2] at h1; cases h1
      · rw [(hoth t e e2).1] at h3; rw [(hoth t e e2).2] at h1; exact ⟨t, ob, lt, h1, h2, h3, h4, h5⟩
  have x : Ext (mkE G.m1 hp al loc w) (mkE G.m1 hp' (alR al id) loc' w') := by
    refine mk_ext (fun t ht => .inl ht) (fun t lt ha hlt => ?_) (by simp [hsize]) (fun b _ => hmt b) (fun b hb hn => hother b fun ⟨e, hlt⟩ => hn ⟨o, _, l, ho, rfl, hl, e.symm, hlt⟩)
    by_cases e : t = id
    · subst e; exact absurd ha hf
    · by_cases e2 : t = o
      · subst e2; rw [ho'.1] at hlt; cases hlt
      · rw [(hoth t e e2).1] at hlt; exact hlt
  refine ⟨loc', hM.change x (fun t ob hob' => ?_) (fun t hn => ?_) (fun t lt hlt => ?_) (fun t1 t2 l1 l2 h1 h2 hp1 hp2 hb => ?_) hos htape hout (fun b hb => .inl (hmt b hb)) (fun t lt h1 h2 => ?_), x, hid⟩
  · by_cases e : t = id
    · subst e
      have : ob = .row sz true rows' := by
        have : hp' t = some (.row sz true rows') := upd_same ..
        exact Option.some.inj (hob'.symm.trans this)
      subst this
      exact .inr ⟨_, hid, hob _ x rfl⟩
    · by_cases e2 : t = o
      · subst e2; have := hob'.symm.trans ho'.2; cases this
      · have h2 := (hoth t e e2).2
        refine .inl ⟨h2.symm.trans hob', (hoth t e e2).1, fun lt hlt hpos => hother _ fun ⟨eb, hlp⟩ => e2 (hM.inj _ _ _ _ hlt hl hpos hlp eb)⟩
  · by_cases e : t = id
    · subst e
      have : hp' t = some (.row sz true rows') := upd_same ..
      have := hn.symm.trans this; cases this
    · by_cases e2 : t = o
      · subst e2; exact ho'.1
      · rw [(hoth t e e2).1]; exact hM.none_ t ((hoth t e e2).2.symm.trans hn)
  · by_cases e : t = id
    · subst e; exact .inr ⟨Nat.le_refl _, by omega⟩
    · by_cases e2 : t = o
      · subst e2; rw [ho'.1] at hlt; cases hlt
      · rw [(hoth t e e2).1] at hlt; exact .inl (hM.al_ t lt hlt)
  · by_cases e1 : t1 = id <;> by_cases e2 : t2 = id
    · rw [e1, e2]
    · exfalso
      rw [e1, hid] at h1; cases h1
      by_cases e3 : t2 = o
      · rw [e3, ho'.1] at h2; cases h2
      · rw [(hoth t2 e2 e3).1] at h2
        exact e3 (hM.inj _ _ _ _ h2 hl hp2 (by simp only at hp1; omega) hb.symm)
    · exfalso
      rw [e2, hid] at h2; cases h2
      by_cases e3 : t1 = o
      · rw [e3, ho'.1] at h1; cases h1
      · rw [(hoth t1 e1 e3).1] at h1
        exact e3 (hM.inj _ _ _ _ h1 hl hp1 (by simp only at hp2; omega) hb)
    · by_cases e3 : t1 = o
      · rw [e3, ho'.1] at h1; cases h1
      · by_cases e4 : t2 = o
        · rw [e4, ho'.1] at h2; cases h2
        · rw [(hoth t1 e1 e3).1] at h1; rw [(hoth t2 e2 e4).1] at h2
          exact hM.inj _ _ _ _ h1 h2 hp1 hp2 hb
  · by_cases e : t = id
    · subst e; rw [hid] at h1; cases h1
      exact .inl ⟨o, l, hl, by simp only at h2; omega, rfl⟩
    · by_cases e2 : t = o
      · rw [e2, ho'.1] at h1; cases h1
      · rw [(hoth t e e2).1] at h1; exact .inl ⟨t, lt, h1, h2, rfl⟩

/-- What is appended: rows whose cells are in memory, or a string's bytes. -/
def bytesRows (s : ByteArray) : List (List AV) := s.data.toList.map fun b => [.val (.int .u8 b.toNat)]

def infoZ (P : Program) (e : TypeId) : Option (Nat × Nat) :=     -- an element's cells and bytes
  match P.info? e, zeroC P e with
  | some i, some zs => if zs.length = i.size then some (i.size, i.bytes) else none
  | _, _ => none

/-- Rows that are appended from. -/
def SrcRows (P : Program) (E : Env) (sz : Nat) (tx : TypeId) (v : Value) (rows : List (List AV)) : Prop :=
  ∃ ws, Src P sz tx v rows.length ws E.w ∧ RelL E rows.flatten ws ∧ (∀ r ∈ rows, r.length = sz)

theorem relL_bytes {E : Env} (s : ByteArray) : RelL E (bytesRows s).flatten (byteCells s) := by
  unfold bytesRows byteCells
  induction s.data.toList with
  | nil => exact .nil
  | cons b bs ih => exact .cons (.val _) ih
theorem bytesRows_length (s : ByteArray) : (bytesRows s).length = s.size := by simp [bytesRows]

theorem src_string {E : Env} {tx : TypeId} (s : ByteArray) (hd : P.underlying tx = some .string) : SrcRows P E 1 tx (.string s) (bytesRows s) :=
  ⟨_, by rw [bytesRows_length]; exact Src.ofString E.w hd s, relL_bytes s, by simp [bytesRows]⟩

theorem src_slice {u : AV} {x : Value} {rows : List (List AV)} {tx e : TypeId} {sz : Nat} (hM : Mem G hp al loc w) (hr : Rel (mkE G.m1 hp al loc w) u x) (h : rowsOf hp u = some rows) (hd : P.underlying tx = some (.slice e)) (hsz : ∀ r ∈ rows, r.length = sz) :
    SrcRows P (mkE G.m1 hp al loc w) sz tx x rows := by
  obtain ⟨p, c, rfl, hc, hh⟩ := rel_rows hM hr h
  by_cases hne : rows = []
  · subst hne
    refine ⟨[], ⟨.inl ⟨e, hd⟩, fun _ => rfl, ?_, ?_, by simp, by simp⟩, .nil, by simp⟩ <;> cases p <;> simp [Builtin.firstCells, loadCells, loadCellsFrom]
  · obtain ⟨b, o, sz', vs, rfl, h0, hr', hl, hci, h1⟩ := hh hne
    have hzz : sz' = sz := by
      cases rows with
      | nil => exact absurd rfl hne
      | cons r rs => rw [← hr' r (by simp), hsz r (by simp)]
    subst hzz
    have hlen : vs.length = rows.length * sz' := by rw [← hl.length]; exact flatten_length hr'
    exact ⟨vs, Src.ofSlice w hd _ _ _ vs hlen (fun j u hu => by rw [add_none]; exact hci j u hu) h1, hl, hr'⟩

theorem zeroC_len {e : TypeId} {sz by_ : Nat} (h : infoZ P e = some (sz, by_)) : ∃ (i : TypeInfo) (z : Value), P.info? e = some i ∧ i.zero = some z ∧ i.size = sz ∧ i.bytes = by_ ∧ z.cells.size = sz ∧ 0 < sz := by
  unfold infoZ at h
  split at h
  · rename_i i zs hi hz
    split at h
    · rename_i hl
      cases h
      unfold zeroC at hz
      rw [hi] at hz
      simp only at hz
      split at hz
      · rename_i z hzz
        split at hz
        · rename_i hc
          cases hz
          simp at hl
          exact ⟨i, z, hi, hzz, rfl, rfl, hl, by omega⟩
        · cases hz
      · cases hz
    · cases h
  · cases h

/-- The value of an own slice. -/
def ownV (l : Loc) (off len : Nat) (v : Value) : Prop := ∃ a cap, v = .slice a len cap ∧ 0 < l.sz ∧ l.st + (off + cap) * l.sz = l.n ∧ len ≤ cap ∧ (0 < cap → a = some ⟨l.b, l.st + off * l.sz, none⟩)

theorem run_app_room {t tx ty e : TypeId} {i : TypeInfo} {b : Addr} {len cap n : Nat} {x : Value} {ws : List Value} {w' : World} (hu : P.underlying t = some (.slice e))
    (hi : P.info? e = some i) (hs : Src P i.size tx x n ws w) (hroom : len + n ≤ cap)
    (hst : (storeCells (b.add (len * i.size)) ws).run P w = .ok () w') :
    (Builtin.append_ #[t, tx] ty #[.slice (some b) len cap, x]).run P w = .ok (.slice (some b) (len + n) cap) w' := by
  rcases hs.kind with ⟨e', hk⟩ | hk <;> simp [Builtin.append_, run_underlying hu, run_underlying hk, sizeOf, typeInfo, hi, hs.len, hroom, hs.cells, hst]
theorem run_app_none {t tx ty e : TypeId} {i : TypeInfo} {len cap n : Nat} {x : Value} {ws : List Value} (hu : P.underlying t = some (.slice e))
    (hi : P.info? e = some i) (hs : Src P i.size tx x n ws w) (hroom : len + n ≤ cap) :
    (Builtin.append_ #[t, tx] ty #[.slice none len cap, x]).run P w = .ok (.slice none (len + n) cap) w := by
  rcases hs.kind with ⟨e', hk⟩ | hk <;> simp [Builtin.append_, run_underlying hu, run_underlying hk, sizeOf, typeInfo, hi, hs.len, hroom, hs.cells]

theorem append_own {t tx ty e : TypeId} {o off len sz by_ : Nat} {rows ys : List (List AV)} {v x : Value} (hM : Mem G hp al loc w) (hf : ¬ al id) (hu : P.underlying t = some (.slice e)) (hz : infoZ P e = some (sz, by_))
    (ho : hp o = some (.row sz true rows)) (hlen : off + len ≤ rows.length) (hv : Rel (mkE G.m1 hp al loc w) (.own o off len) v) (hx : SrcRows P (mkE G.m1 hp al loc w) sz tx x ys) (hby : (len + ys.length) * by_ ≤ 140737488355328) (h0 : 0 < by_) :
    Does P (do pure (.value (← Builtin.append_ #[t, tx] ty #[v, x]))) G hp al loc w id ⟨.own id 0 (len + ys.length), [(o, none), (id, some (.row sz true ((rows.drop off).take len ++ ys)))]⟩ := by
  obtain ⟨i, z, hi, hzz, hs, hb, hzs, hsz⟩ := zeroC_len hz
  subst hs hb
  obtain ⟨ws, hsrc, hwr, hyr⟩ := hx
  have hw1 := hsrc.one
  obtain ⟨l, hl, g1, g2, g3, g4, g5⟩ := mem_loc hM ho
  have hwl : ws.length = ys.length * i.size := by rw [← hwr.length]; exact flatten_length hyr
  obtain ⟨a, cap, rfl, g6, g7, g8, g9⟩ : ownV l off len v := by cases hv with | own ha hh => exact hh l hl
  have hsz63 : len + ys.length ≤ 140737488355328 := Nat.le_trans (Nat.le_mul_of_pos_right _ h0) hby
  have hrr : ∀ r ∈ (rows.drop off).take len ++ ys, r.length = i.size := fun r hr => by
    rcases List.mem_append.1 hr with h | h
    · exact g3 r (List.mem_of_mem_drop (List.mem_of_mem_take h))
    · exact hyr r h
  have hrl : ((rows.drop off).take len ++ ys).length = len + ys.length := by simp; omega
  by_cases hroom : len + ys.length ≤ cap
  · -- in place
    by_cases hcap : cap = 0
    · -- nothing at all
      have hl0 : len = 0 := by omega
      have hy0 : ys = [] := List.eq_nil_of_length_eq_zero (by omega)
      subst hl0; subst hy0
      have hws : ws = [] := List.eq_nil_of_length_eq_zero (by simpa using hwl)
      subst hws
      have hrun : (Builtin.append_ #[t, tx] ty #[.slice a 0 cap, x]).run P w = .ok (.slice a 0 cap) w := by
        subst hcap
        cases a with
        | none => exact run_app_none (P := P) (ty := ty) (len := 0) (cap := 0) hu hi hsrc (Nat.le_refl _)
        | some b => exact run_app_room (P := P) (ty := ty) (len := 0) (cap := 0) (b := b) (w' := w) hu hi hsrc (Nat.le_refl _) (by simp [storeCells, mkE])
      obtain ⟨loc', hM', xx, hid⟩ := mem_regrow hM hf (rows' := (rows.drop off).take 0 ++ []) ho hl (w' := w) rfl (fun _ _ => rfl) rfl rfl rfl (st' := l.st + off * l.sz) (by omega)
        (fun E' _ hw' => ⟨g1, g2, by simp, by simp [g1, ← g7, hcap], ⟨0, by rw [← g7, hcap]; simp⟩, fun hlt => absurd hlt (by simp only; rw [← g7, hcap]; simp)⟩)
      refine ⟨.value (.slice a 0 cap), .slice a 0 cap, w, loc', by simp [hrun], .inl rfl, hM', xx, .own (.inr ⟨Nat.le_refl _, by omega⟩) fun l' hl' => ?_⟩
      have : l' = _ := Option.some.inj (hl'.symm.trans hid)
      subst this
      exact ⟨a, cap, rfl, g6, by simp only; rw [← g7]; simp [Nat.add_mul, Nat.add_assoc], by simp, fun h => absurd h (by omega)⟩
    · have ha := g9 (by omega)
      subst ha
      have hpos : l.st < l.n := by
        rw [← g7]
        have : 0 < (off + cap) * l.sz := Nat.mul_pos (by omega) g6
        omega
      obtain ⟨l2, hl2, _, _, _, _, _, hh⟩ := hM.obj o _ ho
      have : l2 = l := Option.some.inj (hl2.symm.trans hl)
      subst this
      obtain ⟨c, ec, fz, vs, h4, h5, h7, h8, h10, h11⟩ := hh hpos
      have hfit : l2.st + off * l2.sz + len * i.size + 0 + ws.length ≤ c.size := by
        rw [h5, hwl, ← g7, g1]
        have : (len + ys.length) * i.size ≤ cap * i.size := Nat.mul_le_mul_right _ hroom
        simp only [Nat.add_mul] at this ⊢
        omega
      obtain ⟨w', hrun, hsw, hoth, a1, a2, a3, c', hc', hcs, hck⟩ := run_storeCells_gen (P := P) (g := l2.b) (o := l2.st + off * l2.sz + len * i.size) ws 0 w c ec fz h4 hfit (by rw [h5]; exact fun k hk => h11 k (.inl hk)) hw1
      have hrun2 : (Builtin.append_ #[t, tx] ty #[.slice (some ⟨l2.b, l2.st + off * l2.sz, none⟩) len cap, x]).run P w = .ok (.slice (some ⟨l2.b, l2.st + off * l2.sz, none⟩) (len + ys.length) cap) w' := by
        exact run_app_room (P := P) hu hi hsrc hroom (by rw [add_none]; exact hrun)
      have hvsl : vs.length = rows.length * i.size := by rw [← h7.length]; exact flatten_length g3
      obtain ⟨loc', hM', xx, hid⟩ := mem_regrow hM hf (rows' := (rows.drop off).take len ++ ys) ho hl (w' := w') hsw (fun b hb => hoth b fun e => hb ⟨e, hpos⟩) a1 a2 a3 (st' := l2.st + off * l2.sz) (by omega) (fun E' xE hw' => by
        refine ⟨g1, g2, hrr, by rw [hrl, ← g7, g1]; simp only [Nat.add_mul]; have : (len + ys.length) * i.size ≤ cap * i.size := Nat.mul_le_mul_right _ hroom; simp only [Nat.add_mul] at this; omega,
          ⟨cap, by simp only; rw [← g7, g1]; simp [Nat.add_mul, Nat.add_assoc]⟩, fun _ => ⟨c', ec, fz, (vs.drop (off * i.size)).take (len * i.size) ++ ws, by rw [hw']; exact hc', by rw [hcs]; exact h5, ?_, ?_, ?_, h11⟩⟩
        · rw [List.flatten_append, flatten_take (fun r hr => g3 r (List.mem_of_mem_drop hr)), flatten_drop g3]
          exact (((h7.drop _).take _).append hwr).ext xE
        · intro y hy
          rcases List.mem_append.1 hy with h | h
          · exact h8 y (List.mem_of_mem_drop (List.mem_of_mem_take h))
          · exact hw1 y h
        · intro k y hk
          rw [hck]
          have hll : ((vs.drop (off * i.size)).take (len * i.size)).length = len * i.size := by
            simp only [List.length_take, List.length_drop, hvsl]
            have : (off + len) * i.size ≤ rows.length * i.size := Nat.mul_le_mul_right _ hlen
            simp only [Nat.add_mul] at this
            omega
          simp only [Nat.add_zero]
          by_cases hk1 : k < len * i.size
          · rw [if_neg (by omega)]
            rw [List.getElem?_append_left (by omega), List.getElem?_take, if_pos hk1, List.getElem?_drop] at hk
            have := h10 _ y hk
            rw [← this, g1]; congr 1; omega
          · rw [List.getElem?_append_right (by omega), hll] at hk
            have hlt : k - len * i.size < ws.length := (List.getElem?_eq_some_iff.1 hk).1
            rw [if_pos (by omega), ← hk]; congr 1; omega)
      refine ⟨.value (.slice (some ⟨l2.b, l2.st + off * l2.sz, none⟩) (len + ys.length) cap), .slice (some ⟨l2.b, l2.st + off * l2.sz, none⟩) (len + ys.length) cap, w', loc', by simp [hrun2], .inl rfl, hM', xx, .own (.inr ⟨Nat.le_refl _, by omega⟩) fun l' hl' => ?_⟩
      have : l' = _ := Option.some.inj (hl'.symm.trans hid)
      subst this
      exact ⟨_, cap, rfl, g6, by simp only; rw [← g7]; simp [Nat.add_mul, Nat.add_assoc], by omega, fun _ => by simp⟩
  · -- a new row
    obtain ⟨hMd, xd⟩ := hM.drop o
    have hidal : ∀ t, al t → al t := fun _ h => h
    have hold : ∃ olds, RelL (mkE G.m1 hp al loc w) ((rows.drop off).take len).flatten olds ∧ (∀ v ∈ olds, v.oneCell' = true) ∧ olds.length = len * i.size ∧
        (Builtin.firstCells i.size len (.slice a len cap)).run P w.drew = .ok olds.toArray w.drew := by
      by_cases hl0 : len = 0
      · subst hl0
        refine ⟨[], by simpa using RelL.nil, by simp, by simp, ?_⟩
        cases a <;> simp [Builtin.firstCells, loadCells, loadCellsFrom]
      · have hne : rows ≠ [] := fun e => by rw [e] at hlen; simp at hlen; omega
        obtain ⟨l2, c, ec, fz, vs, hl2, _, _, _, h4, h5, _, h7, h8, h9, _⟩ := mem_row hM ho hne
        have : l2 = l := Option.some.inj (hl2.symm.trans hl)
        subst this
        have ha := g9 (by omega)
        subst ha
        have hvsl : vs.length = rows.length * i.size := by rw [← h7.length]; exact flatten_length g3
        have hll : ((vs.drop (off * i.size)).take (len * i.size)).length = len * i.size := by
          simp only [List.length_take, List.length_drop, hvsl]
          have : (off + len) * i.size ≤ rows.length * i.size := Nat.mul_le_mul_right _ hlen
          simp only [Nat.add_mul] at this
          omega
        refine ⟨(vs.drop (off * i.size)).take (len * i.size), ?_, fun v hv => h8 v (List.mem_of_mem_drop (List.mem_of_mem_take hv)), hll, ?_⟩
        · rw [flatten_take (fun r hr => g3 r (List.mem_of_mem_drop hr)), flatten_drop g3]; exact (h7.drop _).take _
        · have hci : CellsIn w.drew l2.b (l2.st + off * l2.sz) ((vs.drop (off * i.size)).take (len * i.size)) := by
            rw [g1]; exact (CellsIn.drop (w := w.drew) (fun k v hk => h9 k v hk) (off * i.size)).take _
          simp [Builtin.firstCells, run_loadCells_in (P := P) hci hll]
    obtain ⟨olds, hol, ho1, holen, hof⟩ := hold
    have hrun := run_append_grow_src (P := P) w t tx ty e i z hu hi hzz a len cap olds hof x ys.length ws hsrc (by omega) (by omega) (growslice_fits (by omega) hby)
    have hge := grownCap_ge w (len + ys.length) cap e
    have hf' : ¬ al id := hf
    obtain ⟨loc', hM', xx, hid⟩ := mem_new (vs := olds ++ ws) hMd hf' (w1 := w.drew) rfl rfl rfl rfl (c := (olds ++ ws).toArray ++ Builtin.zeroCells z.cells (grownCap w (len + ys.length) cap e - (len + ys.length))) (e := e) (fz := (0, 0)) (rows := (rows.drop off).take len ++ ys) g2 hrr
      (by rw [List.flatten_append]; exact (hol.append hwr).ext xd) (fun v hv => by rcases List.mem_append.1 hv with h | h; exact ho1 v h; exact hw1 v h)
      (fun k v hk => by
        have hlt : k < (olds ++ ws).length := (List.getElem?_eq_some_iff.1 hk).1
        rw [Array.getElem?_append_left (by simpa using hlt)]; simpa using hk)
      (by rw [hrl, Array.size_append, size_zeroCells, hzs]; simp only [List.size_toArray, List.length_append, holen, hwl, ← Nat.add_mul]; exact Nat.mul_le_mul_right _ (by omega))
      (by simp) ⟨grownCap w (len + ys.length) cap e, by rw [Array.size_append, size_zeroCells, hzs]; simp only [List.size_toArray, List.length_append, holen, hwl, ← Nat.add_mul]; congr 1; omega⟩
    refine ⟨.value (.slice (some ⟨w.heap.size, 0, none⟩) (len + ys.length) (grownCap w (len + ys.length) cap e)), _, _, loc', by simp [hrun], .inl rfl, hM', xd.trans xx, .own (.inr ⟨Nat.le_refl _, by omega⟩) fun l' hl' => ?_⟩
    have : l' = _ := Option.some.inj (hl'.symm.trans hid)
    subst this
    refine ⟨_, _, rfl, g2, ?_, hge, fun _ => by simp⟩
    rw [Array.size_append, size_zeroCells, hzs]; simp only [List.size_toArray, List.length_append, holen, hwl, ← Nat.add_mul, Nat.zero_add]; congr 1; omega

/-- nil as a slice of the call's own. -/
theorem mem_nil (hM : Mem G hp al loc w) {al' : Nat → Prop} (hf : ¬ al id) (hal : ∀ t, al t → al' t) (hid : al' id) {sz : Nat} (h0 : 0 < sz) :
    ∃ loc', Mem G (upd hp id (some (.row sz true []))) al' loc' w ∧ Ext (mkE G.m1 hp al loc w) (mkE G.m1 (upd hp id (some (.row sz true []))) al' loc' w) ∧ loc' id = some ⟨0, 0, sz, 0⟩ := by
  let loc' : Nat → Option Loc := upd loc id (some ⟨0, 0, sz, 0⟩)
  have hmt : ∀ b, mtOf (upd hp id (some (.row sz true []))) loc' b → mtOf hp loc b := by
    rintro b ⟨t, o, l, h1, h2, h3, h4, h5⟩
    by_cases e : t = id
    · subst e; have : l = ⟨0, 0, sz, 0⟩ := Option.some.inj (h3.symm.trans (upd_same ..)); subst this; simp at h5
    · rw [upd_other _ _ e] at h1; simp only [loc', upd_other _ _ e] at h3; exact ⟨t, o, l, h1, h2, h3, h4, h5⟩
  have x : Ext (mkE G.m1 hp al loc w) (mkE G.m1 (upd hp id (some (.row sz true []))) al' loc' w) := by
    refine mk_ext hal (fun t l ha hl => ?_) (Nat.le_refl _) (fun b _ => hmt b) (fun _ _ _ => rfl)
    have e : t ≠ id := fun e => hf (e ▸ ha)
    simpa [loc', upd, e] using hl
  refine ⟨loc', hM.change x (fun t o ho => ?_) (fun t ho => ?_) (fun t l hl => ?_) (fun t1 t2 l1 l2 h1 h2 hp1 hp2 hb => ?_) rfl rfl rfl (fun b hb => .inl (hmt b hb)) (fun t l h1 h2 => ?_), x, upd_same ..⟩
  · by_cases e : t = id
    · subst e; rw [upd_same] at ho; cases ho
      exact .inr ⟨⟨0, 0, sz, 0⟩, upd_same .., rfl, h0, by simp, by simp, ⟨0, by simp⟩, fun h => absurd h (by simp)⟩
    · rw [upd_other _ _ e] at ho; exact .inl ⟨ho, upd_other _ _ e, fun _ _ _ => rfl⟩
  · by_cases e : t = id
    · subst e; rw [upd_same] at ho; cases ho
    · rw [upd_other _ _ e] at ho; simp only [loc', upd_other _ _ e]; exact hM.none_ t ho
  · by_cases e : t = id
    · subst e; exact hid
    · simp only [loc', upd_other _ _ e] at hl; exact hal t (hM.al_ t l hl)
  · by_cases e1 : t1 = id
    · subst e1; have : l1 = ⟨0, 0, sz, 0⟩ := Option.some.inj (h1.symm.trans (upd_same ..)); subst this; simp at hp1
    · by_cases e2 : t2 = id
      · subst e2; have : l2 = ⟨0, 0, sz, 0⟩ := Option.some.inj (h2.symm.trans (upd_same ..)); subst this; simp at hp2
      · simp only [loc', upd_other _ _ e1] at h1; simp only [loc', upd_other _ _ e2] at h2; exact hM.inj _ _ _ _ h1 h2 hp1 hp2 hb
  · by_cases e : t = id
    · subst e; have : l = ⟨0, 0, sz, 0⟩ := Option.some.inj (h1.symm.trans (upd_same ..)); subst this; simp at h2
    · simp only [loc', upd_other _ _ e] at h1; exact .inl ⟨t, l, h1, h2, rfl⟩

theorem append_nil {t tx ty e : TypeId} {sz by_ : Nat} {ys : List (List AV)} {x : Value} (hM : Mem G hp al loc w) (hf : Fresh al id) (hu : P.underlying t = some (.slice e)) (hz : infoZ P e = some (sz, by_))
    (hx : SrcRows P (mkE G.m1 hp al loc w) sz tx x ys) (hby : ys.length * by_ ≤ 140737488355328) (h0 : 0 < by_) :
    Does P (do pure (.value (← Builtin.append_ #[t, tx] ty #[.slice none 0 0, x]))) G hp al loc w id ⟨.own id 0 ys.length, [(id + 1, none), (id, some (.row sz true ys))]⟩ := by
  obtain ⟨i, z, hi, hzz, hs, hb, hzs, hsz⟩ := zeroC_len hz
  have hal1 : ¬ al (id + 1) := hf (id + 1) (by omega) (by omega)
  obtain ⟨loc1, hM1, x1, hl1⟩ := mem_nil (id := id + 1) (al' := fun t => al t ∨ t = id + 1) (sz := sz) hM hal1 (fun t h => .inl h) (.inr rfl) hsz
  obtain ⟨ws, hsrc, hwr, hyr⟩ := hx
  have hown : Rel (mkE G.m1 (upd hp (id + 1) (some (.row sz true []))) (fun t => al t ∨ t = id + 1) loc1 w) (.own (id + 1) 0 0) (.slice none 0 0) :=
    .own (.inr rfl) fun l hl => by
      have : l = ⟨0, 0, sz, 0⟩ := Option.some.inj (hl.symm.trans hl1)
      subst this
      exact ⟨none, 0, rfl, hsz, by simp, Nat.le_refl _, fun h => absurd h (by omega)⟩
  have hd := append_own (P := P) (G := G) (id := id) (t := t) (tx := tx) (ty := ty) (len := 0) (rows := []) (off := 0) (v := .slice none 0 0) (x := x) (ys := ys) hM1 (by intro h; rcases h with h | h; exact hf id (Nat.le_refl _) (by omega) h; omega) hu hz (upd_same ..) (by simp) hown ⟨ws, hsrc, hwr.ext x1, hyr⟩ (by simpa using hby) h0
  obtain ⟨nx, v, w', loc', hrun, hv, hM', x', hr⟩ := hd
  simp only [Nat.zero_add, List.drop_nil, List.take_nil, List.nil_append, applyEff] at hM' x' hr
  have hhp : upd (upd (upd hp (id + 1) (some (.row sz true []))) (id + 1) none) id (some (.row sz true ys)) = upd (upd hp (id + 1) none) id (some (.row sz true ys)) := by
    funext t; simp [upd]
    by_cases e : t = id <;> by_cases e2 : t = id + 1 <;> simp [e, e2]
  rw [hhp] at hM' x' hr
  obtain ⟨hM2, x2⟩ := hM'.more (al' := alR al id) (fun t ht => by rcases ht with (h | h) | h; exact .inl h; exact .inr (by omega); exact .inr h)
  exact ⟨nx, v, w', loc', hrun, hv, hM2, (x1.trans x').trans x2, hr.ext x2⟩

/-! ### Slices that are made -/
def makeC (P : Program) (t : TypeId) : Option (TypeId × Nat × Nat × List AV) :=   -- element, cells, bytes, zero cells
  match elemO P t with
  | some e => match infoZ P e, zeroC P e with
    | some (sz, b), some zs => some (e, sz, b, zs)
    | _, _ => none
  | none => none
theorem makeC_eq {t e : TypeId} {sz b : Nat} {zs : List AV} (h : makeC P t = some (e, sz, b, zs)) : P.underlying t = some (.slice e) ∧ infoZ P e = some (sz, b) ∧ zeroC P e = some zs ∧ zs.length = sz := by
  unfold makeC at h
  split at h
  · rename_i e' he
    split at h
    · rename_i sz' b' zs' hi hz
      cases h
      refine ⟨elemO_eq he, hi, hz, ?_⟩
      unfold infoZ at hi
      rw [hz] at hi
      split at hi
      · rename_i i zs2 _ hz2
        cases hz2
        split at hi
        · cases hi; assumption
        · cases hi
      · cases hi
    · cases h
  · cases h

theorem flatten_replicate_vals (n : Nat) (zs : List Value) : RelL (mkE G.m1 hp al loc w) (List.replicate n (zs.map AV.val)).flatten (List.replicate n zs).flatten := by
  induction n with
  | zero => exact .nil
  | succ n ih => simp only [List.replicate_succ, List.flatten_cons]; exact (relL_vals zs).append ih

theorem modRow (z : Array Value) (hz : 0 < z.size) (n : Nat) : ((Array.range (n * z.size)).map (z[· % z.size]!)).toList = (List.replicate n z.toList).flatten := by
  induction n with
  | zero => simp
  | succ n ih =>
    rw [List.replicate_succ', List.flatten_append, ← ih]
    apply List.ext_getElem?
    intro k
    have hsz : (n + 1) * z.size = n * z.size + z.size := Nat.succ_mul ..
    by_cases h1 : k < n * z.size
    · rw [List.getElem?_append_left (by simpa using h1)]
      simp [Array.getElem?_map, Array.getElem?_range, h1, hsz, Nat.lt_of_lt_of_le h1 (Nat.le_add_right _ _)]
    · rw [List.getElem?_append_right (by simpa using h1)]
      simp only [Array.toList_map, List.getElem?_map, List.length_map, Array.length_toList, Array.size_range, List.flatten_cons, List.flatten_nil, List.append_nil]
      by_cases h2 : k < n * z.size + z.size
      · have h3 : k - n * z.size < z.size := by omega
        have h4 : k % z.size = k - n * z.size := by
          have : k = z.size * n + (k - n * z.size) := by rw [Nat.mul_comm]; omega
          rw [this, Nat.mul_add_mod, Nat.mod_eq_of_lt (by omega)]; omega
        simp [hsz, h2, h4, h3]
      · simp [hsz, h2]
        omega
end
end Go.Gm

set_option linter.unusedVariables false
set_option linter.unusedSimpArgs false
namespace Go.Gm
section
variable {P : Program} {G : Ghost P} {hp : AHeap} {al : Nat → Prop} {loc : Nat → Option Loc} {w : World} {id : Nat}

def placeF (P : Program) (t : TypeId) : Option (Nat → Option (Nat × Nat)) :=
  match P.underlying t with
  | some (.array _ e) => (P.info? e).map fun ie => fun i => some (i * ie.size, ie.size)
  | some (.struct fields) => (fields.toList.mapM (fun f => (P.info? f.type).map fun i => (f.offset, i.size))).map fun places => fun i => places.toArray[i]?
  | _ => none

def fillA (hp : AHeap) (pl : Nat → Option (Nat × Nat)) (cs : List AV) : List (Nat × AV) → Option (List AV)
  | [] => some cs
  | (i, u) :: r => match pl i with
    | none => none
    | some (off, sz) => if (cellsOf u).length = sz ∧ off + sz ≤ cs.length ∧ (cellsOf u).all (oneAV hp) = true then fillA hp pl (over cs off (cellsOf u)) r else none

inductive RelP (E : Env) : List (Nat × AV) → List (Nat × Value) → Prop
  | nil : RelP E [] []
  | cons {i : Nat} {u : AV} {v : Value} {us : List (Nat × AV)} {vs : List (Nat × Value)} (h : Rel E u v) (hs : RelP E us vs) : RelP E ((i, u) :: us) ((i, v) :: vs)

theorem foldl_set (vs : List Value) : ∀ (k off : Nat) (cs : Array Value), off + k + vs.length ≤ cs.size →
    ((vs.zipIdx k).foldl (fun cs (x : Value × Nat) => cs.setIfInBounds (off + x.2) x.1) cs).toList = cs.toList.take (off + k) ++ (vs ++ cs.toList.drop (off + k + vs.length)) := by
  induction vs with
  | nil => intro k off cs _; simp
  | cons v vs ih =>
    intro k off cs h
    simp only [List.length_cons] at h
    simp only [List.zipIdx_cons, List.foldl_cons]
    rw [ih (k + 1) off _ (by simp; omega)]
    apply List.ext_getElem?
    intro n
    have hl : off + k < cs.size := by omega
    simp only [List.getElem?_append, List.length_take, List.getElem?_take, List.getElem?_drop, Array.toList_setIfInBounds, List.getElem?_set, List.length_set, Array.length_toList, List.getElem?_cons, List.length_cons]
    grind

theorem fill_rel (hM : Mem G hp al loc w) (pl : Nat → Option (Nat × Nat)) : ∀ {parts : List (Nat × AV)} {parts' : List (Nat × Value)} {cs cs' : List AV} {cells : Array Value}, RelL (mkE G.m1 hp al loc w) cs cells.toList → (∀ v ∈ cells.toList, v.oneCell' = true) →
    RelP (mkE G.m1 hp al loc w) parts parts' → fillA hp pl cs parts = some cs' → ∃ cells', Instr.fill pl cells parts' = some cells' ∧ RelL (mkE G.m1 hp al loc w) cs' cells'.toList ∧ (∀ v ∈ cells'.toList, v.oneCell' = true)
  | _, _, cs, _, cells, hl, h1, .nil, h => by
    simp [fillA] at h; subst h
    exact ⟨cells, by simp [Instr.fill], hl, h1⟩
  | _, _, cs, cs', cells, hl, h1, .cons (i := i) (u := u) (v := v) hu hs, h => by
    simp only [fillA] at h
    split at h
    · cases h
    · rename_i off sz hpl
      split at h
      · rename_i hc
        obtain ⟨c1, c2, c3⟩ := hc
        obtain ⟨hcl, hc1⟩ := cellsOf_rel hM hu c3
        have hvl : v.cells.toList.length = sz := by rw [← hcl.length]; exact c1
        have hcs : cs.length = cells.size := by rw [hl.length]; simp
        have hf := foldl_set v.cells.toList 0 off cells (by simp only [hvl]; omega)
        simp only [Nat.add_zero, hvl] at hf
        have hzip : v.cells.zipIdx.foldl (fun cs (x : Value × Nat) => cs.setIfInBounds (off + x.2) x.1) cells = (v.cells.toList.zipIdx 0).foldl (fun cs (x : Value × Nat) => cs.setIfInBounds (off + x.2) x.1) cells := by
          rw [← Array.foldl_toList]; simp
        have hrel : RelL (mkE G.m1 hp al loc w) (over cs off (cellsOf u)) (v.cells.zipIdx.foldl (fun cs (x : Value × Nat) => cs.setIfInBounds (off + x.2) x.1) cells).toList := by
          rw [hzip, hf, over, c1]
          exact (hl.take _).append (hcl.append (hl.drop _))
        have hone : ∀ x ∈ (v.cells.zipIdx.foldl (fun cs (x : Value × Nat) => cs.setIfInBounds (off + x.2) x.1) cells).toList, x.oneCell' = true := by
          rw [hzip, hf]
          intro x hx
          simp only [List.mem_append] at hx
          rcases hx with hx | hx | hx
          · exact h1 x (List.mem_of_mem_take hx)
          · exact hc1 x hx
          · exact h1 x (List.mem_of_mem_drop hx)
        obtain ⟨cells', hf', hr', ho'⟩ := fill_rel hM pl hrel hone hs h
        refine ⟨cells', ?_, hr', ho'⟩
        have hvs : v.cells.size = sz := by simpa using hvl
        simp only [Instr.fill, hpl]
        rw [if_neg (by simp [hvs]; omega)]
        exact hf'
      · cases h

def buildA (P : Program) (hp : AHeap) (t : TypeId) (parts : List (Nat × AV)) : Option AV :=
  match zeroC P t, placeF P t with
  | some zs, some pl => (fillA hp pl zs parts).map .agg
  | _, _ => none

theorem built_eq {t : TypeId} {zs : List AV} {pl : Nat → Option (Nat × Nat)} (hz : zeroC P t = some zs) (hp : placeF P t = some pl) :
    ∃ z : Value, zs = z.cells.toList.map .val ∧ (∀ v ∈ z.cells.toList, v.oneCell' = true) ∧ ∀ parts, P.built t parts = Instr.fill pl z.cells parts := by
  unfold zeroC at hz
  split at hz
  · rename_i i hi
    split at hz
    · rename_i z hzz
      split at hz
      · rename_i hc
        cases hz
        refine ⟨z, rfl, fun v hv => ?_, fun parts => ?_⟩
        · have := Array.all_eq_true.1 hc.1
          obtain ⟨k, hk, rfl⟩ := List.getElem_of_mem hv
          exact this k (by simpa using hk)
        · unfold placeF at hp
          unfold Program.built
          rw [hi]
          split at hp
          · rename_i n e hu
            cases hie : P.info? e with
            | none => rw [hie] at hp; cases hp
            | some ie => rw [hie] at hp; cases hp; simp [hu, hzz, hie]
          · rename_i fields hu
            cases hm : fields.toList.mapM (fun f => (P.info? f.type).map fun i => (f.offset, i.size)) with
            | none => rw [hm] at hp; cases hp
            | some places => rw [hm] at hp; cases hp; simp [hu, hzz, hm]
          · cases hp
      · cases hz
    · cases hz
  · cases hz

theorem does_build {t : TypeId} {parts : List (Nat × AV)} {parts' : Array (Nat × Value)} {u : AV} (hM : Mem G hp al loc w) (hr : RelP (mkE G.m1 hp al loc w) parts parts'.toList) (h : buildA P hp t parts = some u) :
    Does P (do pure (.value (← Instr.build t parts'))) G hp al loc w id ⟨u, []⟩ := by
  unfold buildA at h
  split at h
  · rename_i zs pl hz hpl
    obtain ⟨z, rfl, h1, hb⟩ := built_eq hz hpl
    cases hfa : fillA hp pl (z.cells.toList.map .val) parts with
    | none => rw [hfa] at h; cases h
    | some cs =>
      rw [hfa] at h; cases h
      obtain ⟨cells, hf, hrel, _⟩ := fill_rel hM pl (cells := z.cells) (relL_vals _) h1 hr hfa
      have hrun := run_build (P := P) w t parts' cells (by rw [hb]; exact hf)
      refine does_pure (v := .agg cells) hM (by simp [hrun]) ?_
      have := Rel.agg hrel
      simpa using this
  · cases h

/-! ### buildSlice -/
def zrow (n : Nat) (zs : List AV) : List (List AV) := List.replicate n zs
def rowsP (hp : AHeap) (sz : Nat) (rows : List (List AV)) : List (Nat × AV) → Option (List (List AV))
  | [] => some rows
  | (i, u) :: r => if i < rows.length ∧ (cellsOf u).length = sz ∧ (cellsOf u).all (oneAV hp) = true then rowsP hp sz (rows.set i (cellsOf u)) r else none

theorem rowsP_fill : ∀ {parts : List (Nat × AV)} {rows rows' : List (List AV)} {sz : Nat}, (∀ r ∈ rows, r.length = sz) → rowsP hp sz rows parts = some rows' →
    fillA hp (fun i => some (i * sz, sz)) rows.flatten parts = some rows'.flatten ∧ (∀ r ∈ rows', r.length = sz) ∧ rows'.length = rows.length
  | [], rows, rows', sz, h, he => by simp [rowsP] at he; subst he; exact ⟨rfl, h, rfl⟩
  | (i, u) :: r, rows, rows', sz, h, he => by
    simp only [rowsP] at he
    split at he
    · rename_i hc
      obtain ⟨c1, c2, c3⟩ := hc
      have hrow : rows[i]? = some rows[i] := by simp [c1]
      have hset : ∀ q ∈ rows.set i (cellsOf u), q.length = sz := fun q hq => by
        rcases List.mem_or_eq_of_mem_set hq with hq | hq
        · exact h q hq
        · subst hq; exact c2
      obtain ⟨h1, h2, h3⟩ := rowsP_fill hset he
      refine ⟨?_, h2, by simpa using h3⟩
      simp only [fillA]
      have hle : (i + 1) * sz ≤ rows.length * sz := Nat.mul_le_mul_right _ c1
      rw [if_pos ⟨c2, by rw [flatten_length h]; rw [Nat.succ_mul] at hle; exact hle, c3⟩]
      have := flatten_set h hrow (cellsOf u) c2
      rw [over, c2, ← this]
      exact h1
    · cases he

def buildSliceA (P : Program) (hp : AHeap) (id : Nat) (t : TypeId) (len : Nat) (parts : List (Nat × AV)) : Option AR :=
  match makeC P t with
  | some (_, sz, _, zs) => if len * sz ≤ 16777216 then
      match rowsP hp sz (zrow len zs) parts with
      | some rows => some ⟨.own id 0 len, [(id, some (.row sz true rows))]⟩
      | none => none
    else none
  | none => none

theorem zeroV {e : TypeId} {zs : List AV} (h : zeroC P e = some zs) : ∃ z : Value, (∀ w, (zeroValue e).run P w = .ok z w) ∧ zs = z.cells.toList.map .val ∧ (∀ v ∈ z.cells.toList, v.oneCell' = true) ∧ 0 < z.cells.size := zeroC_run h

theorem own_new {sz : Nat} {rows : List (List AV)} {c : Array Value} {loc' : Nat → Option Loc} {hp' : AHeap} {w' : World} {cap n : Nat} (hl' : loc' id = some ⟨n, 0, sz, c.size⟩) (h0 : 0 < sz) (hc : c.size = cap * sz) (hlen : rows.length ≤ cap) :
    Rel (mkE G.m1 hp' (alR al id) loc' w') (.own id 0 rows.length) (.slice (some ⟨n, 0, none⟩) rows.length cap) :=
  .own (.inr ⟨Nat.le_refl _, by omega⟩) fun l hl => by
    have : l = _ := Option.some.inj (hl.symm.trans hl')
    subst this
    exact ⟨_, cap, rfl, h0, by simp [hc], hlen, fun _ => by simp⟩

theorem infoZ_sz {e : TypeId} {sz b : Nat} (h : infoZ P e = some (sz, b)) : szO P e = some sz := by
  obtain ⟨i, z, hi, _, hs, _⟩ := zeroC_len h
  simp [szO, hi, hs]

theorem does_buildSlice {t : TypeId} {len : Nat} {parts : List (Nat × AV)} {parts' : Array (Nat × Value)} {r : AR} (hM : Mem G hp al loc w) (hf : ¬ al id) (hr : RelP (mkE G.m1 hp al loc w) parts parts'.toList) (h : buildSliceA P hp id t len parts = some r) :
    Does P (do pure (.value (← Instr.buildSlice t len parts'))) G hp al loc w id r := by
  unfold buildSliceA at h
  split at h
  · rename_i e sz by_ zs hmk
    obtain ⟨hu, hi, hz, hzl⟩ := makeC_eq hmk
    split at h
    · rename_i hbig
      split at h
      · rename_i rows hrows
        cases h
        obtain ⟨z, hzr, hzz, hz1, hz0⟩ := zeroV hz
        have hzs : z.cells.size = sz := by rw [hzz] at hzl; simpa using hzl
        obtain ⟨hfill, hrsz, hrl⟩ := rowsP_fill (hp := hp) (sz := sz) (by simp [zrow, hzl]) hrows
        simp only [zrow, List.length_replicate] at hrl
        have hrl0 : RelL (mkE G.m1 hp al loc w) (zrow len zs).flatten ((Array.range (len * sz)).map (z.cells[· % z.cells.size]!)).toList := by
          rw [← hzs, modRow z.cells hz0, zrow, hzz]; exact flatten_replicate_vals _ _
        have hone0 : ∀ v ∈ ((Array.range (len * sz)).map (z.cells[· % z.cells.size]!)).toList, v.oneCell' = true := by
          rw [← hzs, modRow z.cells hz0]
          intro v hv
          obtain ⟨l, hl, hvl⟩ := List.mem_flatten.1 hv
          rw [List.eq_of_mem_replicate hl] at hvl
          exact hz1 v hvl
        obtain ⟨cells, hfl, hrel, hone⟩ := fill_rel hM _ hrl0 hone0 hr hfill
        have hcs : cells.size = len * sz := by
          have h1 := hrel.length
          rw [flatten_length hrsz, hrl] at h1
          simpa using h1.symm
        obtain ⟨loc', hM', x, hl'⟩ := mem_new (vs := cells.toList) hM hf (w1 := w) rfl rfl rfl rfl (c := cells) (e := e) (fz := (0, 0)) (rows := rows) (by omega) hrsz hrel hone (fun k v hk => by simpa using hk) (by rw [hcs, hrl]; exact Nat.le_refl _) (by simp) ⟨len, hcs⟩
        refine ⟨.value (.slice (some ⟨w.heap.size, 0, none⟩) len len), _, _, loc', ?_, .inl rfl, hM', x, ?_⟩
        · have hb' : ¬ (16777216 < len * sz) := by omega
          have hr0 : Array.range 0 = #[] := rfl
          by_cases h0 : len = 0
          · subst h0
            simp only [Nat.zero_mul, hr0, List.map_toArray, List.map_nil] at hfl
            simp [Instr.buildSlice, underlying, hu, run_sizeOf (infoZ_sz hi), hr0, newRow]
            simp [hfl]
          · have hne : ¬ (len * sz = 0) := Nat.mul_ne_zero h0 (by omega)
            simp only [Instr.buildSlice, underlying, hu, run_sizeOf (infoZ_sz hi), hb', hne, Sem.run_bind, Sem.run_ite, run_program, Result.andThen_ok, Sem.run_pure, if_false, hzr]
            simp [hb', hne, hzr, hfl, newRow, run_sizeOf (infoZ_sz hi)]
        · have := own_new (G := G) (al := al) (id := id) (rows := rows) (c := cells) (loc' := loc') (hp' := upd hp id (some (.row sz true rows))) (w' := w.alloc (.cells cells e)) (cap := len) hl' (by omega) hcs (by omega)
          rw [hrl] at this
          exact this
      · cases h
    · cases h
  · cases h
end
end Go.Gm

set_option linter.unusedVariables false
set_option linter.unusedSimpArgs false
namespace Go.Gm
section
variable {P : Program} {G : Ghost P} {hp : AHeap} {al : Nat → Prop} {loc : Nat → Option Loc} {w : World} {id : Nat}

def makeA (P : Program) (id : Nat) (t : TypeId) (l c : AV) : Option AR :=
  match makeC P t, natOf l, natOf c with
  | some (_, sz, by_, zs), some l, some c => if l ≤ c ∧ by_ * c ≤ 281474976710656 ∧ c ≤ 140737488355328 then some ⟨.own id 0 l, [(id, some (.row sz true (zrow l zs)))]⟩ else none
  | _, _, _ => none

theorem does_make {t : TypeId} {l c : AV} {l' c' : Value} {r : AR} (hM : Mem G hp al loc w) (hf : ¬ al id) (hl : Rel (mkE G.m1 hp al loc w) l l') (hc : Rel (mkE G.m1 hp al loc w) c c') (h : makeA P id t l c = some r) :
    Does P (do pure (.value (← Instr.makeSlice t l' c'))) G hp al loc w id r := by
  unfold makeA at h
  split at h
  · rename_i e sz by_ zs n m hmk hn hm
    obtain ⟨hu, hi, hz, hzl⟩ := makeC_eq hmk
    split at h
    · rename_i hcond
      obtain ⟨h1, h2, h3⟩ := hcond
      cases h
      obtain ⟨kl, rfl⟩ := rel_nat hl hn
      obtain ⟨kc, rfl⟩ := rel_nat hc hm
      obtain ⟨i, z, hii, hzz, hs, hb, hzs, hsz⟩ := zeroC_len hi
      obtain ⟨z2, hzr, hzl2, hz1, hz0⟩ := zeroV hz
      have hz2 : z2 = z := by
        have := hzr w
        simp [zeroValue, typeInfo, hii, hzz] at this
        exact this.symm
      subst hz2
      have hb' : (i.bytes : Int) * (m : Int) ≤ 281474976710656 := by
        have : ((by_ * m : Nat) : Int) ≤ 281474976710656 := by omega
        rw [hb]; rwa [Int.natCast_mul] at this
      have hrun := run_make (P := P) w t e i z2 hu hii hzz kl kc n m (by omega) (by omega) hb' (by omega)
      simp only [Int.toNat_natCast, hs] at hrun
      have hcs : (madeCells z2.cells (m * sz)).size = m * sz := size_madeCells _ _
      have hmt : (madeCells z2.cells (m * sz)).toList = (List.replicate m z2.cells.toList).flatten := by rw [madeCells, ← hzs]; exact modRow z2.cells hz0 m
      have hrl : RelL (mkE G.m1 hp al loc w) (zrow n zs).flatten (List.replicate n z2.cells.toList).flatten := by rw [zrow, hzl2]; exact flatten_replicate_vals _ _
      obtain ⟨loc', hM', x, hl'⟩ := mem_new (vs := (List.replicate n z2.cells.toList).flatten) hM hf (w1 := w) rfl rfl rfl rfl (c := madeCells z2.cells (m * sz)) (e := e) (fz := (0, 0)) (rows := zrow n zs) hsz (by simp [zrow, hzl]) hrl
        (fun v hv => by
          obtain ⟨q, hq, hvq⟩ := List.mem_flatten.1 hv
          rw [List.eq_of_mem_replicate hq] at hvq
          exact hz1 v hvq)
        (fun k v hk => by
          rw [← Array.getElem?_toList, hmt]
          have : (List.replicate m z2.cells.toList).flatten = (List.replicate n z2.cells.toList).flatten ++ (List.replicate (m - n) z2.cells.toList).flatten := by
            rw [← List.flatten_append, List.replicate_append_replicate]; congr 2; omega
          rw [this, List.getElem?_append_left (List.getElem?_eq_some_iff.1 hk).1]; exact hk)
        (by rw [hcs]; simp only [zrow, List.length_replicate]; exact Nat.mul_le_mul_right _ h1) (by simp) ⟨m, hcs⟩
      refine ⟨.value (.slice (some ⟨w.heap.size, 0, none⟩) n m), _, _, loc', by simp [hrun], .inl rfl, hM', x, ?_⟩
      have := own_new (G := G) (al := al) (id := id) (rows := zrow n zs) (c := madeCells z2.cells (m * sz)) (loc' := loc') (hp' := upd hp id (some (.row sz true (zrow n zs)))) (w' := w.alloc (.cells (madeCells z2.cells (m * sz)) e)) (cap := m) hl' hsz hcs (by simpa [zrow] using h1)
      simp only [zrow, List.length_replicate] at this ⊢
      exact this
    · cases h
  · cases h

/-- string to []byte. -/
def isU8 (P : Program) (e : TypeId) : Bool := match P.underlying e with
  | some (.int .u8) => true
  | _ => false
def isStrT (P : Program) (e : TypeId) : Bool := match P.underlying e with
  | some .string => true
  | _ => false
theorem isU8_eq {e : TypeId} (h : isU8 P e = true) : P.underlying e = some (.int .u8) := by unfold isU8 at h; split at h <;> simp_all
theorem isStrT_eq {e : TypeId} (h : isStrT P e = true) : P.underlying e = some .string := by unfold isStrT at h; split at h <;> simp_all

theorem bytesWorld_eq (w : World) (e : TypeId) (s : ByteArray) : Lib.bytesWorld w e s = w.drew.alloc (.cells (Lib.bytesCells w e s) e ((Lib.bytesCells w e s).size, (Lib.bytesCells w e s).size + 1)) := by
  have hh : (Lib.bytesWorld w e s).heap = (w.drew.alloc (.cells (Lib.bytesCells w e s) e ((Lib.bytesCells w e s).size, (Lib.bytesCells w e s).size + 1))).heap := by
    apply Array.ext_getElem?
    intro j
    by_cases h1 : j < w.heap.size
    · rw [Lib.bytesWorld_at_old w e s j h1, heap_alloc_lt w.drew _ j h1]; rfl
    · by_cases h2 : j = w.heap.size
      · subst h2; rw [Lib.bytesWorld_at_new]; exact (heap_alloc_new w.drew _).symm
      · rw [Array.getElem?_eq_none, Array.getElem?_eq_none]
        · simp; omega
        · rw [Lib.bytesWorld_size]; omega
  have e1 : (Lib.bytesWorld w e s) = { (Lib.bytesWorld w e s) with heap := (Lib.bytesWorld w e s).heap } := rfl
  rw [e1, hh]
  rfl

def toBytesA (P : Program) (id : Nat) (src dst : TypeId) (x : AV) : Option AR :=
  match x, elemO P dst with
  | .val (.string s), some e => if isStrT P src = true ∧ isU8 P e = true ∧ szO P e = some 1 then some ⟨.own id 0 s.size, [(id, some (.row 1 true (bytesRows s)))]⟩ else none
  | _, _ => none

theorem does_toBytes {src dst : TypeId} {x : AV} {v : Value} {r : AR} (hM : Mem G hp al loc w) (hf : ¬ al id) (hr : Rel (mkE G.m1 hp al loc w) x v) (h : toBytesA P id src dst x = some r) :
    Does P (do pure (.value (← convert src dst v))) G hp al loc w id r := by
  unfold toBytesA at h
  split at h
  · rename_i s e hd
    split at h
    · rename_i hc
      obtain ⟨c1, c2, c3⟩ := hc
      cases h
      cases hr
      have hrun := Lib.run_convert_string_bytes (P := P) w src dst e s (isStrT_eq c1) (elemO_eq hd) (isU8_eq c2)
      rw [bytesWorld_eq] at hrun
      have hge := grownCap_ge w s.size 0 e
      have hcs : (Lib.bytesCells w e s).size = grownCap w s.size 0 e * 1 := by simp [Lib.bytesCells]; omega
      obtain ⟨loc', hM', xx, hl'⟩ := mem_new (vs := byteCells s) hM hf (w1 := w.drew) rfl rfl rfl rfl (c := Lib.bytesCells w e s) (e := e) (fz := ((Lib.bytesCells w e s).size, (Lib.bytesCells w e s).size + 1)) (rows := bytesRows s) (by omega) (by simp [bytesRows])
        (relL_bytes s) (by simp [byteCells]; intro a _; rfl) (fun k u hk => by
          have hlt : k < (byteCells s).length := (List.getElem?_eq_some_iff.1 hk).1
          rw [byteCells_length] at hlt
          rw [← hk, Lib.bytesCells, Array.getElem?_append_left (by simpa using hlt), ← Array.getElem?_toList]
          simp [byteCells])
        (by rw [hcs, bytesRows_length]; omega) (fun k hk => by simp; omega) ⟨_, hcs⟩
      refine ⟨.value (.slice (some ⟨w.heap.size, 0, none⟩) s.size (grownCap w s.size 0 e)), _, _, loc', by simp [hrun], .inl rfl, hM', xx, ?_⟩
      have := own_new (G := G) (al := al) (id := id) (rows := bytesRows s) (c := Lib.bytesCells w e s) (loc' := loc') (hp' := upd hp id (some (.row 1 true (bytesRows s)))) (w' := w.drew.alloc (.cells (Lib.bytesCells w e s) e ((Lib.bytesCells w e s).size, (Lib.bytesCells w e s).size + 1))) (cap := grownCap w s.size 0 e) hl' (by omega) hcs (by rw [bytesRows_length]; exact hge)
      rw [bytesRows_length] at this
      exact this
    · cases h
  · cases h

/-- []byte to string. -/
def byteRow : List AV → Option Int
  | [.val (.int .u8 n)] => some n
  | _ => none
def byteNums : List (List AV) → Option (List Int)
  | [] => some []
  | r :: rs => match byteRow r, byteNums rs with
    | some n, some ns => some (n :: ns)
    | _, _ => none
theorem byteNums_rel {E : Env} : ∀ {rows : List (List AV)} {ns : List Int} {vs : List Value}, byteNums rows = some ns → RelL E rows.flatten vs → vs = ns.map (Value.int .u8 ·)
  | [], ns, vs, h, hl => by simp [byteNums] at h; subst h; cases hl; rfl
  | r :: rs, ns, vs, h, hl => by
    simp only [byteNums] at h
    split at h
    · rename_i n ns' hr hrs
      cases h
      unfold byteRow at hr
      split at hr
      · rename_i m
        cases hr
        simp only [List.flatten_cons, List.cons_append, List.nil_append] at hl
        cases hl with
        | cons h1 hs => cases h1; simp [byteNums_rel hrs hs]
      · cases hr
    · cases h
theorem byteNums_length : ∀ {rows : List (List AV)} {ns : List Int}, byteNums rows = some ns → ns.length = rows.length
  | [], ns, h => by simp [byteNums] at h; subst h; rfl
  | r :: rs, ns, h => by
    simp only [byteNums] at h
    split at h
    · rename_i n ns' hr hrs; cases h; simp [byteNums_length hrs]
    · cases h

def toStrA (P : Program) (hp : AHeap) (src dst : TypeId) (x : AV) : Option AV :=
  match rowsOf hp x, elemO P src with
  | some rows, some e => if isStrT P dst = true ∧ isU8 P e = true then (byteNums rows).map fun ns => .val (.string (strOfNums ns)) else none
  | _, _ => none

theorem does_toStr {src dst : TypeId} {x u : AV} {v : Value} (hM : Mem G hp al loc w) (hr : Rel (mkE G.m1 hp al loc w) x v) (h : toStrA P hp src dst x = some u) :
    Does P (do pure (.value (← convert src dst v))) G hp al loc w id ⟨u, []⟩ := by
  unfold toStrA at h
  split at h
  · rename_i rows e hrows he
    split at h
    · rename_i hc
      obtain ⟨c1, c2⟩ := hc
      cases hb : byteNums rows with
      | none => rw [hb] at h; cases h
      | some ns =>
        rw [hb] at h; cases h
        obtain ⟨p, c, rfl, hcap, hh⟩ := rel_rows hM hr hrows
        have hnl := byteNums_length hb
        refine does_pure (v := .string (strOfNums ns)) hM ?_ (.val _)
        by_cases hne : rows = []
        · subst hne
          have : ns = [] := List.eq_nil_of_length_eq_zero (by simpa using hnl)
          subst this
          cases p with
          | none => simp [convert, underlying, elemO_eq he, isStrT_eq c1, isU8_eq c2, Conv.bytesToString, strOfNums]; rfl
          | some a =>
            obtain ⟨b, o, sp⟩ := a
            simp [convert, underlying, elemO_eq he, isStrT_eq c1, isU8_eq c2, Conv.bytesToString, strOfNums, loadCells, loadCellsFrom]; rfl
        · obtain ⟨b, o, sz, vs, rfl, h0, hsz, hl, hci, h1⟩ := hh hne
          have hvs := byteNums_rel hb hl
          subst hvs
          have := run_convert_bytes_arg (P := P) w src e (elemO_eq he) (isU8_eq c2) b o rows.length c ns hnl (fun i hi => by
            refine hci i _ ?_
            rw [List.getElem?_map, List.getD_eq_getElem?_getD, List.getElem?_eq_getElem (by omega)]; rfl) dst (isStrT_eq c1)
          simp [this]
    · cases h
  · cases h
end
end Go.Gm

set_option linter.unusedVariables false
set_option linter.unusedSimpArgs false
namespace Go.Gm

/-! ### Values without ids -/
mutual
def inl : AV → Bool
  | .val _ => true
  | .agg cs => inlL cs
  | .tup cs => inlL cs
  | .sl rows => inlR rows
  | .ip cs => inlL cs
  | .clo _ f c => inlL f && inlL c
  | .ifc _ u => inl u
  | .any => true
  | _ => false
def inlL : List AV → Bool
  | [] => true
  | c :: cs => inl c && inlL cs
def inlR : List (List AV) → Bool
  | [] => true
  | r :: rs => inlL r && inlR rs
end

theorem inlL_append : ∀ (a b : List AV), inlL (a ++ b) = (inlL a && inlL b)
  | [], b => by simp [inlL]
  | c :: cs, b => by simp [inlL, inlL_append cs b, Bool.and_assoc]
theorem inlR_flatten : ∀ (rows : List (List AV)), inlR rows = inlL rows.flatten
  | [] => rfl
  | r :: rs => by simp [inlR, inlR_flatten rs, inlL_append]
theorem inlR_of_mem {rows : List (List AV)} (h : inlR rows = true) : ∀ r ∈ rows, inlL r = true := by
  induction rows with
  | nil => simp
  | cons a rs ih => simp only [inlR, Bool.and_eq_true] at h; intro r hr; cases hr with
    | head => exact h.1
    | tail _ hr => exact ih h.2 r hr
theorem inlR_of : ∀ {rows : List (List AV)}, (∀ r ∈ rows, inlL r = true) → inlR rows = true
  | [], _ => rfl
  | r :: rs, h => by
    have h2 : inlR rs = true := inlR_of fun x hx => h x (List.mem_cons_of_mem _ hx)
    simp [inlR, h r (by simp), h2]

/-- From one memory's view to another's: for what bears no ids. -/
structure Move (E E' : Env) : Prop where
  size : E.w.heap.size ≤ E'.w.heap.size
  keep : ∀ b, b < E.w.heap.size → ¬ E.mt b → ¬ E'.mt b ∧ E'.w.heap[b]? = E.w.heap[b]?

mutual
theorem Rel.move {E E' : Env} (x : Move E E') : ∀ {u : AV} {v : Value}, inl u = true → Rel E u v → Rel E' u v
  | _, _, _, .any v => .any v
  | _, _, _, .val v => .val v
  | _, _, h, .agg hl => .agg (RelL.move x (by simpa [inl] using h) hl)
  | _, _, h, .tup hl => .tup (RelL.move x (by simpa [inl] using h) hl)
  | _, _, _, .sl0 a c => .sl0 a c
  | _, _, h, .sl hb hm hr hsz h0 hcap h1 hc hl =>
    .sl (Nat.lt_of_lt_of_le hb x.size) (x.keep _ hb hm).1 hr hsz h0 hcap h1 (fun k v hk => (cell_of_heap (x.keep _ hb hm).2).trans (hc k v hk)) (RelL.move x (by rw [inl, inlR_flatten] at h; exact h) hl)
  | _, _, h, .own .. => by simp [inl] at h
  | _, _, h, .ptr .. => by simp [inl] at h
  | _, _, h, .ip hb hm h1 hc hl =>
    .ip (Nat.lt_of_lt_of_le hb x.size) (x.keep _ hb hm).1 h1 (fun k v hk => (cell_of_heap (x.keep _ hb hm).2).trans (hc k v hk)) (RelL.move x (by simpa [inl] using h) hl)
  | _, _, h, .clo hf hc => .clo (RelL.move x (by simp [inl] at h; exact h.1) hf) (RelL.move x (by simp [inl] at h; exact h.2) hc)
  | _, _, h, .ifc hu => .ifc (Rel.move x (by simpa [inl] using h) hu)
  | _, _, h, .mp .. => by simp [inl] at h
theorem RelL.move {E E' : Env} (x : Move E E') : ∀ {us : List AV} {vs : List Value}, inlL us = true → RelL E us vs → RelL E' us vs
  | _, _, _, .nil => .nil
  | _, _, h, .cons hu hs => .cons (Rel.move x (by simp [inlL] at h; exact h.1) hu) (RelL.move x (by simp [inlL] at h; exact h.2) hs)
end

mutual
/-- Does a result bear memory of others? -/
def shares : AV → Bool
  | .val _ => false
  | .fr _ _ => true
  | .agg cs => sharesL cs
  | .tup cs => sharesL cs
  | _ => true
def sharesL : List AV → Bool
  | [] => false
  | c :: cs => shares c || sharesL cs
def sharesR : List (List AV) → Bool
  | [] => false
  | r :: rs => sharesL r || sharesR rs
end
theorem sharesL_append : ∀ (a b : List AV), sharesL (a ++ b) = (sharesL a || sharesL b)
  | [], b => by simp [sharesL]
  | c :: cs, b => by simp [sharesL, sharesL_append cs b, Bool.or_assoc]
theorem sharesR_flatten : ∀ (rows : List (List AV)), sharesR rows = sharesL rows.flatten
  | [] => rfl
  | r :: rs => by simp [sharesR, sharesR_flatten rs, sharesL_append]
mutual
theorem Rel.alone {E E' : Env} : ∀ {u : AV} {v : Value}, shares u = false → Rel E u v → Rel E' u v
  | _, _, _, .val v => .val v
  | _, _, h, .agg hl => .agg (RelL.alone (by simpa [shares] using h) hl)
  | _, _, h, .tup hl => .tup (RelL.alone (by simpa [shares] using h) hl)
  | _, _, h, .any v => by simp [shares] at h
  | _, _, h, .sl0 .. => by simp [shares] at h
  | _, _, h, .sl .. => by simp [shares] at h
  | _, _, h, .own .. => by simp [shares] at h
  | _, _, h, .ptr .. => by simp [shares] at h
  | _, _, h, .ip .. => by simp [shares] at h
  | _, _, h, .clo .. => by simp [shares] at h
  | _, _, h, .ifc .. => by simp [shares] at h
  | _, _, h, .mp .. => by simp [shares] at h
theorem RelL.alone {E E' : Env} : ∀ {us : List AV} {vs : List Value}, sharesL us = false → RelL E us vs → RelL E' us vs
  | _, _, _, .nil => .nil
  | _, _, h, .cons hu hs => by
    simp only [sharesL, Bool.or_eq_false_iff] at h
    exact .cons (Rel.alone h.1 hu) (RelL.alone h.2 hs)
end

/-! ### What a call hands back -/
mutual
/-- Fresh rows are given ids, from k on. -/
def claimV : AV → Nat → AV × List AObj
  | .fr sz rows, k => (.own k 0 rows.length, [.row sz true rows])
  | .agg cs, k => (.agg (claimL cs k).1, (claimL cs k).2)
  | .tup cs, k => (.tup (claimL cs k).1, (claimL cs k).2)
  | u, _ => (u, [])
def claimL : List AV → Nat → List AV × List AObj
  | [], _ => ([], [])
  | c :: cs, k => ((claimV c k).1 :: (claimL cs (k + (claimV c k).2.length)).1, (claimV c k).2 ++ (claimL cs (k + (claimV c k).2.length)).2)
end

mutual
/-- What is handed back, with the ids whose rows go with it. -/
def sealV (hp : AHeap) : AV → Option (AV × List Nat)
  | .own t off len => match hp t with
    | some (.row sz true rows) => if off = 0 ∧ len = rows.length ∧ inlR rows = true then some (.fr sz rows, [t]) else none
    | _ => none
  | .agg cs => (sealL hp cs).map fun x => (.agg x.1, x.2)
  | .tup cs => (sealL hp cs).map fun x => (.tup x.1, x.2)
  | .val v => some (.val v, [])
  | .sl rows => if inlR rows = true then some (.sl rows, []) else none
  | .ip cs => if inlL cs = true then some (.ip cs, []) else none
  | .ifc t u => if inl u = true then some (.ifc t u, []) else none
  | .clo fn f c => if inlL f = true ∧ inlL c = true then some (.clo fn f c, []) else none
  | .any => some (.any, [])
  | _ => none
def sealL (hp : AHeap) : List AV → Option (List AV × List Nat)
  | [] => some ([], [])
  | c :: cs => match sealV hp c, sealL hp cs with
    | some (x, ts), some (xs, ts') => some (x :: xs, ts ++ ts')
    | _, _ => none
end

mutual
theorem seal_claim {hp : AHeap} {E E' : Env} : ∀ {u X : AV} {ts : List Nat} {k : Nat} {v : Value}, (shares X = true → Move E E') → sealV hp u = some (X, ts) → Rel E u v →
    (∀ (i t : Nat), ts[i]? = some t → E'.loc (k + i) = E.loc t ∧ E'.al (k + i)) →
    Rel E' (claimV X k).1 v ∧ (claimV X k).2.length = ts.length ∧ ∀ (i t : Nat), ts[i]? = some t → (claimV X k).2[i]? = hp t
  | .own t off len, X, ts, k, v, mv, h, hr, hk => by
    simp only [sealV] at h
    split at h
    · rename_i sz rows ho
      split at h
      · rename_i hc
        obtain ⟨c1, c2, c3⟩ := hc
        cases h
        subst c1
        obtain ⟨hl, ha⟩ := hk 0 t rfl
        simp only [Nat.add_zero] at hl ha
        refine ⟨?_, rfl, fun i t' hi => ?_⟩
        · cases hr with
          | own _ hh => simp only [claimV]; rw [← c2]; exact .own ha fun l hl' => hh l (hl ▸ hl')
        · cases i with
          | zero => simp at hi; subst hi; simp [claimV, ho]
          | succ i => simp at hi
      · cases h
    · cases h
  | .agg cs, X, ts, k, v, mv, h, hr, hk => by
    simp only [sealV, Option.map_eq_some_iff] at h
    obtain ⟨⟨xs, ts'⟩, h1, h2⟩ := h
    cases h2
    cases hr with
    | agg hl =>
      obtain ⟨a, b, c⟩ := sealL_claim (by simpa [shares] using mv) h1 hl hk
      exact ⟨.agg a, b, c⟩
  | .tup cs, X, ts, k, v, mv, h, hr, hk => by
    simp only [sealV, Option.map_eq_some_iff] at h
    obtain ⟨⟨xs, ts'⟩, h1, h2⟩ := h
    cases h2
    cases hr with
    | tup hl =>
      obtain ⟨a, b, c⟩ := sealL_claim (by simpa [shares] using mv) h1 hl hk
      exact ⟨.tup a, b, c⟩
  | .val v', X, ts, k, v, mv, h, hr, hk => by
    simp only [sealV, Option.some.injEq, Prod.mk.injEq] at h
    obtain ⟨rfl, rfl⟩ := h
    exact ⟨by cases hr; exact .val _, rfl, by simp⟩
  | .sl rows, X, ts, k, v, mv, h, hr, hk => by
    simp only [sealV] at h
    split at h
    · rename_i hi
      cases h
      exact ⟨by simp only [claimV]; exact Rel.move (mv rfl) (by simpa [inl] using hi) hr, rfl, by simp⟩
    · cases h
  | .ip cs, X, ts, k, v, mv, h, hr, hk => by
    simp only [sealV] at h
    split at h
    · rename_i hi
      cases h
      exact ⟨by simp only [claimV]; exact Rel.move (mv rfl) (by simpa [inl] using hi) hr, rfl, by simp⟩
    · cases h
  | .ifc t u, X, ts, k, v, mv, h, hr, hk => by
    simp only [sealV] at h
    split at h
    · rename_i hi
      cases h
      exact ⟨by simp only [claimV]; exact Rel.move (mv rfl) (by simpa [inl] using hi) hr, rfl, by simp⟩
    · cases h
  | .any, X, ts, k, v, mv, h, hr, hk => by
    simp only [sealV, Option.some.injEq, Prod.mk.injEq] at h
    obtain ⟨rfl, rfl⟩ := h
    exact ⟨.any v, rfl, by simp⟩
  | .fr .., X, ts, k, v, mv, h, hr, hk => by simp [sealV] at h
  | .ptr .., X, ts, k, v, mv, h, hr, hk => by simp [sealV] at h
  | .clo fn f c, X, ts, k, v, mv, h, hr, hk => by
    simp only [sealV] at h
    split at h
    · rename_i hi
      cases h
      exact ⟨by simp only [claimV]; exact Rel.move (mv rfl) (by simp [inl, hi.1, hi.2]) hr, rfl, by simp⟩
    · cases h
  | .mp .., X, ts, k, v, mv, h, hr, hk => by simp [sealV] at h
theorem sealL_claim {hp : AHeap} {E E' : Env} : ∀ {us Xs : List AV} {ts : List Nat} {k : Nat} {vs : List Value}, (sharesL Xs = true → Move E E') → sealL hp us = some (Xs, ts) → RelL E us vs →
    (∀ (i t : Nat), ts[i]? = some t → E'.loc (k + i) = E.loc t ∧ E'.al (k + i)) →
    RelL E' (claimL Xs k).1 vs ∧ (claimL Xs k).2.length = ts.length ∧ ∀ (i t : Nat), ts[i]? = some t → (claimL Xs k).2[i]? = hp t
  | [], Xs, ts, k, vs, mv, h, hr, hk => by
    simp only [sealL, Option.some.injEq, Prod.mk.injEq] at h
    obtain ⟨rfl, rfl⟩ := h
    cases hr
    exact ⟨.nil, rfl, by simp⟩
  | c :: cs, Xs, ts, k, vs, mv, h, hr, hk => by
    simp only [sealL] at h
    split at h
    · rename_i x t1 xs t2 h1 h2
      cases h
      cases hr with
      | cons hc hcs =>
        obtain ⟨a1, b1, c1⟩ := seal_claim (k := k) (fun hx => mv (by simp [sharesL, hx])) h1 hc (fun i t hi => hk i t (by rw [List.getElem?_append_left (List.getElem?_eq_some_iff.1 hi).1]; exact hi))
        obtain ⟨a2, b2, c2⟩ := sealL_claim (k := k + (claimV x k).2.length) (fun hx => mv (by simp [sharesL, hx])) h2 hcs (fun i t hi => by
          have := hk (t1.length + i) t (by rw [List.getElem?_append_right (by omega)]; simpa using hi)
          rw [b1, Nat.add_assoc]; exact this)
        rw [b1] at a2 b2 c2
        refine ⟨by simp only [claimL, b1]; exact .cons a1 a2, by simp [claimL, b1, b2], fun i t hi => ?_⟩
        simp only [claimL, b1]
        by_cases hlt : i < t1.length
        · rw [List.getElem?_append_left hlt] at hi
          rw [List.getElem?_append_left (by omega)]; exact c1 i t hi
        · rw [List.getElem?_append_right (by omega)] at hi
          rw [List.getElem?_append_right (by rw [b1]; omega), b1]; exact c2 _ t hi
    · cases h
end

mutual
theorem seal_obj {hp : AHeap} : ∀ {u X : AV} {ts : List Nat}, sealV hp u = some (X, ts) → ∀ t ∈ ts, ∃ sz rows, hp t = some (.row sz true rows) ∧ inlR rows = true ∧ (sharesR rows = true → shares X = true)
  | .own t off len, X, ts, h, q, hq => by
    simp only [sealV] at h
    split at h
    · rename_i sz rows ho
      split at h
      · rename_i hc
        cases h
        simp at hq; subst hq
        exact ⟨sz, rows, ho, hc.2.2, fun h => by simpa [shares] using h⟩
      · cases h
    · cases h
  | .agg cs, X, ts, h, q, hq => by
    simp only [sealV, Option.map_eq_some_iff] at h
    obtain ⟨⟨xs, ts'⟩, h1, h2⟩ := h
    cases h2
    obtain ⟨a, b, c, d, e⟩ := sealL_obj h1 q hq
    exact ⟨a, b, c, d, fun h => by simpa [shares] using e h⟩
  | .tup cs, X, ts, h, q, hq => by
    simp only [sealV, Option.map_eq_some_iff] at h
    obtain ⟨⟨xs, ts'⟩, h1, h2⟩ := h
    cases h2
    obtain ⟨a, b, c, d, e⟩ := sealL_obj h1 q hq
    exact ⟨a, b, c, d, fun h => by simpa [shares] using e h⟩
  | .val v', X, ts, h, q, hq => by simp only [sealV, Option.some.injEq, Prod.mk.injEq] at h; obtain ⟨rfl, rfl⟩ := h; cases hq
  | .sl rows, X, ts, h, q, hq => by simp only [sealV] at h; split at h <;> cases h; cases hq
  | .ip cs, X, ts, h, q, hq => by simp only [sealV] at h; split at h <;> cases h; cases hq
  | .ifc t u, X, ts, h, q, hq => by simp only [sealV] at h; split at h <;> cases h; cases hq
  | .any, X, ts, h, q, hq => by simp only [sealV, Option.some.injEq, Prod.mk.injEq] at h; obtain ⟨rfl, rfl⟩ := h; cases hq
  | .fr .., X, ts, h, q, hq => by simp [sealV] at h
  | .ptr .., X, ts, h, q, hq => by simp [sealV] at h
  | .clo fn f c, X, ts, h, q, hq => by simp only [sealV] at h; split at h <;> cases h; cases hq
  | .mp .., X, ts, h, q, hq => by simp [sealV] at h
theorem sealL_obj {hp : AHeap} : ∀ {us Xs : List AV} {ts : List Nat}, sealL hp us = some (Xs, ts) → ∀ t ∈ ts, ∃ sz rows, hp t = some (.row sz true rows) ∧ inlR rows = true ∧ (sharesR rows = true → sharesL Xs = true)
  | [], Xs, ts, h, q, hq => by simp only [sealL, Option.some.injEq, Prod.mk.injEq] at h; obtain ⟨rfl, rfl⟩ := h; cases hq
  | c :: cs, Xs, ts, h, q, hq => by
    simp only [sealL] at h
    split at h
    · rename_i x t1 xs t2 h1 h2
      cases h
      rcases List.mem_append.1 hq with hq | hq
      · obtain ⟨a, b, c, d, e⟩ := seal_obj h1 q hq
        exact ⟨a, b, c, d, fun h => by simp [sharesL, e h]⟩
      · obtain ⟨a, b, c, d, e⟩ := sealL_obj h2 q hq
        exact ⟨a, b, c, d, fun h => by simp [sharesL, e h]⟩
    · cases h
end

/-! ### Contracts -/
/-- The view of a callee: nothing of the memory there is its own; 'm': blocks that it is not told of. -/
def E0 (m : Nat → Prop) (w : World) : Env := mkE m (fun _ => none) (fun _ => False) (fun _ => none) w

/-- A call that leaves all memory as it was, and hands back X. -/
def PC (P : Program) (f : FuncId) (us : List AV) (X : AV) : Prop :=
  ∀ (m : Nat → Prop) (w : World) (vs : List Value) (hm : ∀ b, m b → b < w.heap.size) (ht : TabH P (fun _ => False) w), RelL (E0 m w) us vs → Calls P f vs.toArray w fun e w' =>
    ∃ v hp al loc r ts, e = .returned v ∧ Mem ⟨w, fun _ => False, m, hm, 0, fun _ => none, Nat.zero_le _, ht⟩ hp al loc w' ∧ Rel (mkE m hp al loc w') r v ∧ sealV hp r = some (X, ts) ∧ ts.Nodup

section
variable {P : Program} {G : Ghost P} {hp : AHeap} {al : Nat → Prop} {loc : Nat → Option Loc} {w : World} {id : Nat}

/-- Arguments: what bears ids is laid open. -/
def resV (hp : AHeap) : AV → Option AV
  | .own t off len => match hp t with
    | some (.row _ _ rows) => if off + len ≤ rows.length ∧ inlR ((rows.drop off).take len) = true then some (.sl ((rows.drop off).take len)) else none
    | _ => none
  | .val (.slice none 0 0) => some (.sl [])
  | u => if inl u = true then some u else none
def resL (hp : AHeap) : List AV → Option (List AV)
  | [] => some []
  | u :: us => match resV hp u, resL hp us with
    | some x, some xs => some (x :: xs)
    | _, _ => none

theorem move0 (m : Nat → Prop) (hm : ∀ b, m b → G.m1 b ∨ mtOf hp loc b) : Move (mkE G.m1 hp al loc w) (E0 m w) :=
  ⟨Nat.le_refl _, fun b _ hn => ⟨fun h => by
    rcases h with ⟨t, o, l, h1, _⟩ | h
    · cases h1
    · rcases hm b h with h | h
      · exact hn (.inr h)
      · exact hn (.inl h), rfl⟩⟩

theorem res_rel (hM : Mem G hp al loc w) {m : Nat → Prop} (hm : ∀ b, m b → G.m1 b ∨ mtOf hp loc b) {u x : AV} {v : Value} (hr : Rel (mkE G.m1 hp al loc w) u v) (h : resV hp u = some x)
    (hfz : ∀ t off len l, u = .own t off len → loc t = some l → l.st < l.n → ¬ m l.b) : Rel (E0 m w) x v := by
  have mv := move0 (G := G) (hp := hp) (al := al) (loc := loc) (w := w) m hm
  unfold resV at h
  split at h
  · rename_i t off len
    split at h
    · rename_i sz mu rows ho
      split at h
      · rename_i hc
        obtain ⟨hle, hin⟩ := hc
        cases h
        have hrows : rowsOf hp (.own t off len) = some ((rows.drop off).take len) := by simp [rowsOf, ho, hle]
        obtain ⟨l, hl, g1, g2, g3, g4, g5⟩ := mem_loc hM ho
        have hlen : ((rows.drop off).take len).length = len := by simp; omega
        by_cases hne : (rows.drop off).take len = []
        · obtain ⟨p, c, rfl, hc, _⟩ := rel_rows hM hr hrows
          rw [hne]; exact .sl0 _ _
        · have hne2 : rows ≠ [] := fun e => hne (by rw [e]; simp)
          obtain ⟨l2, c, ec, fz, vs, hl2, _, _, _, h4, h5, _, h7, h8, h9, _, _, _, hlt⟩ := mem_row hM ho hne2
          have : l2 = l := Option.some.inj (hl2.symm.trans hl)
          subst this
          have hv : ownV l2 off len v := by cases hr with | own _ hh => exact hh l2 hl
          obtain ⟨a, cap, rfl, q1, q2, q3, q4⟩ := hv
          have hpos : 0 < len := by
            rcases Nat.eq_zero_or_pos len with e | e
            · subst e; simp at hne
            · exact e
          have ha := q4 (by omega)
          subst ha
          have := Rel.sl (E := E0 m w) (rows := (rows.drop off).take len) (b := l2.b) (o := l2.st + off * l2.sz) (cap := cap) (sz := sz) (vs := (vs.drop (off * sz)).take (len * sz)) (Array.getElem?_eq_some_iff.1 h4).1
            (by rintro (⟨t', o', l', h1, _⟩ | h); cases h1; exact hfz t off len l2 rfl hl hlt h) hne (fun r hr => g3 r (List.mem_of_mem_drop (List.mem_of_mem_take hr))) g2 (by rw [hlen]; exact q3)
            (fun v hv => h8 v (List.mem_of_mem_drop (List.mem_of_mem_take hv))) (by rw [g1]; exact (CellsIn.drop (w := w) h9 (off * sz)).take _)
            (RelL.move mv (by rw [← inlR_flatten]; exact hin) (by rw [flatten_take (fun r hr => g3 r (List.mem_of_mem_drop hr)), flatten_drop g3]; exact (h7.drop _).take _))
          rw [hlen] at this
          exact this
      · cases h
    · cases h
  · cases h; cases hr; exact .sl0 _ _
  · split at h
    · rename_i hi
      cases h; exact Rel.move mv hi hr
    · cases h

/-- Ids at hand in a value, whose rows a callee may keep. -/
def tidV : AV → List Nat
  | .own t _ _ => [t]
  | _ => []

def freezeL (hp : AHeap) : List Nat → List (Nat × Option AObj)
  | [] => []
  | t :: ts => match hp t with
    | some (.row sz true rows) => (t, some (.row sz false rows)) :: freezeL hp ts
    | _ => freezeL hp ts

def effOf (os : List AObj) (k : Nat) : List (Nat × Option AObj) := match os with
  | [] => []
  | o :: os => (k, some o) :: effOf os (k + 1)

theorem nodup_inj {ts : List Nat} (h : ts.Nodup) : ∀ {i j t : Nat}, ts[i]? = some t → ts[j]? = some t → i = j := by
  intro i j t hi hj
  have h1 := List.getElem?_eq_some_iff.1 hi
  have h2 := List.getElem?_eq_some_iff.1 hj
  exact (List.getElem?_inj h1.1 h).1 (hi.trans hj.symm)

theorem effOf_app : ∀ (os : List AObj) (k : Nat) (hp : AHeap), (∀ (i : Nat) (o : AObj), os[i]? = some o → applyEff hp (effOf os k) (k + i) = some o) ∧ (∀ t, (t < k ∨ k + os.length ≤ t) → applyEff hp (effOf os k) t = hp t)
  | [], k, hp => ⟨by simp, fun t _ => rfl⟩
  | o :: os, k, hp => by
    obtain ⟨h1, h2⟩ := effOf_app os (k + 1) (upd hp k (some o))
    refine ⟨fun i o' hi => ?_, fun t ht => ?_⟩
    · simp only [effOf, applyEff]
      cases i with
      | zero => simp at hi; subst hi; show applyEff _ _ k = _; rw [h2 k (.inl (by omega)), upd_same]
      | succ i =>
        rw [show k + (i + 1) = k + 1 + i by omega]
        exact h1 i o' (by simpa using hi)
    · simp only [effOf, applyEff, List.length_cons] at ht ⊢
      rw [h2 t (by omega), upd_other _ _ (by omega)]

theorem call_core {f : FuncId} {us xs : List AV} {X : AV} {vs : List Value} {m : Nat → Prop} (hM : Mem G hp al loc w) (hf : Fresh al id) (hpc : PC P f xs X) (hml : ∀ b, m b → b < w.heap.size) (hx : RelL (E0 m w) xs vs)
    (hm : shares X = true → ∀ b, G.m1 b ∨ mtOf hp loc b → m b) (hn : (claimV X id).2.length ≤ 8) :
    Calls P f vs.toArray w fun e w' => ∃ v loc', e = .returned v ∧ Mem G (applyEff hp (effOf (claimV X id).2 id)) (alR al id) loc' w' ∧
      Ext (mkE G.m1 hp al loc w) (mkE G.m1 (applyEff hp (effOf (claimV X id).2 id)) (alR al id) loc' w') ∧ Rel (mkE G.m1 (applyEff hp (effOf (claimV X id).2 id)) (alR al id) loc' w') (claimV X id).1 v := by
  refine (hpc m w vs hml (hM.tab.sub fun _ h => h.elim) hx).mono ?_
  rintro e w' ⟨v, hpc, alc, locc, r, ts, rfl, hMc, hr, hs, hnd⟩
  let n := ts.length
  let loc' : Nat → Option Loc := fun t => if id ≤ t ∧ t < id + ts.length then (ts[t - id]?).bind locc else loc t
  let hp' := applyEff hp (effOf (claimV X id).2 id)
  -- what is claimed
  have hclaim := seal_claim (hp := hpc) (E := mkE m hpc alc locc w') (E' := mkE G.m1 hp' (alR al id) loc' w') (u := r) (X := X) (ts := ts) (k := id) (v := v)
  have hlen0 : (claimV X id).2.length = ts.length ∧ ∀ (i t : Nat), ts[i]? = some t → (claimV X id).2[i]? = hpc t := by
    have h1 := seal_claim (hp := hpc) (E := mkE m hpc alc locc w') (E' := ⟨w', fun t => (ts[t - id]?).bind locc, fun _ => False, fun _ => False, fun _ => True⟩) (u := r) (X := X) (ts := ts) (k := id) (v := v)
      (fun _ => ⟨Nat.le_refl _, fun b _ _ => ⟨fun h => h, rfl⟩⟩) hs hr (fun i t hi => ⟨by simp [hi, mkE], trivial⟩)
    exact h1.2
  obtain ⟨hlen, hget⟩ := hlen0
  obtain ⟨happ1, happ2⟩ := effOf_app (claimV X id).2 id hp
  have hts : ∀ (i t : Nat), ts[i]? = some t → ∃ o, hpc t = some o ∧ hp' (id + i) = some o ∧ loc' (id + i) = locc t := by
    intro i t hi
    have hlt : i < ts.length := (List.getElem?_eq_some_iff.1 hi).1
    have h1 := hget i t hi
    have h2 : i < (claimV X id).2.length := by omega
    refine ⟨(claimV X id).2[i], ?_, happ1 i _ (by simp [h2]), by simp only [loc']; rw [if_pos (by omega)]; simp [hi]⟩
    rw [← h1]; simp [h2]
  have hold : ∀ t, ¬ (id ≤ t ∧ t < id + ts.length) → hp' t = hp t ∧ loc' t = loc t := fun t ht => ⟨happ2 t (by omega), by simp only [loc']; rw [if_neg ht]⟩
  have hrange : ∀ t, id ≤ t ∧ t < id + ts.length → ∃ q, ts[t - id]? = some q ∧ hp' t = hpc q ∧ loc' t = locc q := fun t ht => by
    have hlt : t - id < ts.length := by omega
    obtain ⟨o, h1, h2, h3⟩ := hts (t - id) ts[t - id] (by simp [hlt])
    rw [show id + (t - id) = t by omega] at h2 h3
    exact ⟨ts[t - id], by simp [hlt], by rw [h2, h1], h3⟩
  have hmt : ∀ b, b < w.heap.size → mtOf hp' loc' b → mtOf hp loc b := by
    rintro b hb ⟨t, o, l, h1, h2, h3, h4, h5⟩
    by_cases ht : id ≤ t ∧ t < id + ts.length
    · obtain ⟨q, hq, e1, e2⟩ := hrange t ht
      exact (hMc.muts b ⟨q, o, l, e1 ▸ h1, h2, e2 ▸ h3, h4, h5⟩ hb).elim
    · obtain ⟨e1, e2⟩ := hold t ht
      exact ⟨t, o, l, e1 ▸ h1, h2, e2 ▸ h3, h4, h5⟩
  have hmtc : ∀ b, mtOf hp' loc' b → mtOf hpc locc b ∨ mtOf hp loc b := by
    rintro b ⟨t, o, l, h1, h2, h3, h4, h5⟩
    by_cases ht : id ≤ t ∧ t < id + ts.length
    · obtain ⟨q, hq, e1, e2⟩ := hrange t ht
      exact .inl ⟨q, o, l, e1 ▸ h1, h2, e2 ▸ h3, h4, h5⟩
    · obtain ⟨e1, e2⟩ := hold t ht
      exact .inr ⟨t, o, l, e1 ▸ h1, h2, e2 ▸ h3, h4, h5⟩
  have x : Ext (mkE G.m1 hp al loc w) (mkE G.m1 hp' (alR al id) loc' w') := by
    refine mk_ext (fun t ht => .inl ht) (fun t l ha hl => ?_) hMc.size hmt (fun b hb _ => hMc.keep b hb (fun h => h))
    have : ¬ (id ≤ t ∧ t < id + ts.length) := fun h => hf t h.1 (by omega) ha
    rw [(hold t this).2] at hl; exact hl
  have mv : shares X = true → Move (mkE m hpc alc locc w') (mkE G.m1 hp' (alR al id) loc' w') := fun hs => ⟨Nat.le_refl _, fun b _ hn => ⟨fun h => by
    rcases h with h | h
    · rcases hmtc b h with h | h
      · exact hn (.inl h)
      · exact hn (.inr (hm hs b (.inr h)))
    · exact hn (.inr (hm hs b (.inl h))), rfl⟩⟩
  have hrel := hclaim mv hs hr (fun i t hi => by
    have hlt : i < ts.length := (List.getElem?_eq_some_iff.1 hi).1
    obtain ⟨o, _, _, h3⟩ := hts i t hi
    exact ⟨h3, .inr ⟨Nat.le_add_right _ _, by omega⟩⟩)
  -- what the callee's rows are, seen from here
  have hobjc : ∀ t, id ≤ t ∧ t < id + ts.length → ∃ q sz rows, ts[t - id]? = some q ∧ hp' t = some (.row sz true rows) ∧ hpc q = some (.row sz true rows) ∧ loc' t = locc q ∧ inlR rows = true ∧ (sharesR rows = true → shares X = true) := fun t ht => by
    obtain ⟨q, hq, e1, e2⟩ := hrange t ht
    obtain ⟨sz, rows, h1, h2, h3⟩ := seal_obj hs q (List.mem_of_getElem? hq)
    exact ⟨q, sz, rows, hq, e1.trans h1, h1, e2, h2, h3⟩
  have hnew : ∀ t l, id ≤ t ∧ t < id + ts.length → loc' t = some l → l.st < l.n → ¬ l.b < w.heap.size := fun t l ht hl hpos hlt => by
    obtain ⟨q, sz, rows, hq, h1, h2, h3, _⟩ := hobjc t ht
    exact hMc.muts l.b ⟨q, _, l, h2, rfl, h3 ▸ hl, rfl, hpos⟩ hlt
  refine ⟨v, loc', rfl, ?_, x, hrel.1⟩
  refine hM.change x (fun t o ho => ?_) (fun t ho => ?_) (fun t l hl => ?_) (fun t1 t2 l1 l2 h1 h2 hp1 hp2 hb => ?_) hMc.os hMc.tape hMc.output (fun b hb => ?_) (fun t l h1 h2 => ?_)
  · by_cases ht : id ≤ t ∧ t < id + ts.length
    · obtain ⟨q, sz, rows, hq, h1, h2, h3, h4, h5⟩ := hobjc t ht
      have : o = .row sz true rows := Option.some.inj (ho.symm.trans h1)
      subst this
      obtain ⟨l, hl, g1, g2, g3, g4, g5, g6⟩ := hMc.obj q _ h2
      refine .inr ⟨l, h3.trans hl, g1, g2, g3, g4, g5, fun hpos => ?_⟩
      obtain ⟨c, e, fz, us, k1, k2, k3, k4, k5, k6⟩ := g6 hpos
      refine ⟨c, e, fz, us, k1, k2, ?_, k4, k5, k6⟩
      by_cases hsh : sharesR rows = true
      · exact RelL.move (mv (h5 hsh)) (by rw [← inlR_flatten]; exact h4) k3
      · exact RelL.alone (by rw [← sharesR_flatten]; simpa using hsh) k3
    · obtain ⟨e1, e2⟩ := hold t ht
      refine .inl ⟨e1 ▸ ho, e2, fun l hl hpos => hMc.keep _ (hM.lt hl hpos) (fun h => h)⟩
  · by_cases ht : id ≤ t ∧ t < id + ts.length
    · obtain ⟨q, hq, e1, e2⟩ := hrange t ht
      rw [e2]; exact hMc.none_ q (e1 ▸ ho)
    · obtain ⟨e1, e2⟩ := hold t ht
      rw [e2]; exact hM.none_ t (e1 ▸ ho)
  · by_cases ht : id ≤ t ∧ t < id + ts.length
    · exact .inr ⟨ht.1, by omega⟩
    · exact .inl (hM.al_ t l ((hold t ht).2 ▸ hl))
  · by_cases e1 : id ≤ t1 ∧ t1 < id + ts.length <;> by_cases e2 : id ≤ t2 ∧ t2 < id + ts.length
    · obtain ⟨q1, hq1, _, a1⟩ := hrange t1 e1
      obtain ⟨q2, hq2, _, a2⟩ := hrange t2 e2
      have hqq : q1 = q2 := hMc.inj _ _ _ _ (a1 ▸ h1) (a2 ▸ h2) hp1 hp2 hb
      subst hqq
      obtain ⟨i1, j1⟩ := List.getElem?_eq_some_iff.1 hq1
      obtain ⟨i2, j2⟩ := List.getElem?_eq_some_iff.1 hq2
      have := nodup_inj hnd hq1 hq2
      omega
    · exact absurd (hb ▸ hM.lt ((hold t2 e2).2 ▸ h2) hp2) (hnew t1 l1 e1 h1 hp1)
    · exact absurd (hb ▸ hM.lt ((hold t1 e1).2 ▸ h1) hp1) (hnew t2 l2 e2 h2 hp2)
    · exact hM.inj _ _ _ _ ((hold t1 e1).2 ▸ h1) ((hold t2 e2).2 ▸ h2) hp1 hp2 hb
  · by_cases hlt : b < w.heap.size
    · exact .inl (hmt b hlt hb)
    · exact .inr (by omega)
  · by_cases e : id ≤ t ∧ t < id + ts.length
    · exact .inr (Nat.le_of_not_lt (hnew t l e h1 h2))
    · exact .inl ⟨t, l, (hold t e).2 ▸ h1, h2, rfl⟩
end
end Go.Gm

set_option linter.unusedVariables false
set_option linter.unusedSimpArgs false
namespace Go.Gm
section
variable {P : Program} {G : Ghost P} {hp : AHeap} {al : Nat → Prop} {loc : Nat → Option Loc} {w : World} {id : Nat}

theorem applyEff_append : ∀ (a b : List (Nat × Option AObj)) (hp : AHeap), applyEff hp (a ++ b) = applyEff (applyEff hp a) b
  | [], _, _ => rfl
  | (t, o) :: a, b, hp => by simp [applyEff, applyEff_append a b]

def frz (hp : AHeap) (ts : List Nat) : AHeap := fun t => if t ∈ ts then (match hp t with
  | some (.row sz _ rows) => some (.row sz false rows)
  | o => o) else hp t

theorem applyEff_freeze (hp : AHeap) : ∀ (ts : List Nat) (h : AHeap) (t : Nat), applyEff h (freezeL hp ts) t = if t ∈ ts then (match hp t with
    | some (.row sz true rows) => some (.row sz false rows)
    | _ => h t) else h t
  | [], h, t => by simp [freezeL, applyEff]
  | q :: ts, h, t => by
    simp only [freezeL]
    split
    · rename_i sz rows hq
      simp only [applyEff]
      rw [applyEff_freeze hp ts]
      by_cases e : t = q
      · subst e; simp [hq, upd]
      · by_cases e2 : t ∈ ts <;> simp [e, e2, upd]
    · rename_i hq
      rw [applyEff_freeze hp ts]
      by_cases e : t = q
      · subst e
        by_cases e2 : t ∈ ts
        · simp [e2]
        · simp only [e2, if_false, List.mem_cons, true_or, if_true]
      · simp [e]
theorem freeze_eq (hp : AHeap) (ts : List Nat) : applyEff hp (freezeL hp ts) = frz hp ts := by
  funext t
  rw [applyEff_freeze, frz]
  split
  · split
    · rename_i hh; rw [hh]
    · rename_i hh
      split
      · rename_i sz m rows h2
        cases m with
        | true => exact absurd h2 (hh sz rows)
        | false => exact h2
      · rfl
  · rfl

theorem Mem.frz (hM : Mem G hp al loc w) (ts : List Nat) : Mem G (frz hp ts) al loc w ∧ Ext (mkE G.m1 hp al loc w) (mkE G.m1 (Gm.frz hp ts) al loc w) := by
  have hsome : ∀ t o', Gm.frz hp ts t = some o' → ∃ o, hp t = some o ∧ (o' = o ∨ ∃ sz m rows, o = .row sz m rows ∧ o' = .row sz false rows) := by
    intro t o' h
    unfold Gm.frz at h
    split at h
    · split at h
      · rename_i sz m rows h2; cases h; exact ⟨_, h2, .inr ⟨sz, m, rows, rfl, rfl⟩⟩
      · exact ⟨o', h, .inl rfl⟩
    · exact ⟨o', h, .inl rfl⟩
  have hmt : ∀ b, mtOf (Gm.frz hp ts) loc b → mtOf hp loc b := by
    rintro b ⟨t, o', l, h1, h2, h3, h4, h5⟩
    obtain ⟨o, ho, rfl | ⟨sz, m, rows, rfl, rfl⟩⟩ := hsome t o' h1
    · exact ⟨t, _, l, ho, h2, h3, h4, h5⟩
    · simp [AObj.isMut] at h2
  have x : Ext (mkE G.m1 hp al loc w) (mkE G.m1 (Gm.frz hp ts) al loc w) := mk_ext (fun _ h => h) (fun _ _ _ h => h) (Nat.le_refl _) (fun b _ => hmt b) (fun _ _ _ => rfl)
  refine ⟨hM.change x (fun t o' ho => ?_) (fun t ho => ?_) hM.al_ hM.inj rfl rfl rfl (fun b hb => .inl (hmt b hb)) (fun t l h1 h2 => .inl ⟨t, l, h1, h2, rfl⟩), x⟩
  · obtain ⟨o, h1, rfl | ⟨sz, m, rows, rfl, rfl⟩⟩ := hsome t o' ho
    · exact .inl ⟨h1, rfl, fun _ _ _ => rfl⟩
    · obtain ⟨l, hl, hob⟩ := hM.obj t _ h1
      exact .inr ⟨l, hl, ObjAt.ext (o := .row sz false rows) x (fun _ => rfl) hob⟩
  · apply hM.none_
    unfold Gm.frz at ho
    split at ho
    · split at ho
      · cases ho
      · exact ho
    · exact ho

def callA (ft : FuncId → List AV → Option AV) (hp : AHeap) (id : Nat) (f : FuncId) (us : List AV) : Option AR :=
  match resL hp us with
  | some xs => match ft f xs with
    | some X => if (claimV X id).2.length ≤ 8 then some ⟨(claimV X id).1, (if shares X = true then freezeL hp (us.flatMap tidV) else []) ++ effOf (claimV X id).2 id⟩ else none
    | none => none
  | none => none

theorem resL_rel (hM : Mem G hp al loc w) {m : Nat → Prop} (hm : ∀ b, m b → G.m1 b ∨ mtOf hp loc b) : ∀ {us xs : List AV} {vs : List Value}, RelL (mkE G.m1 hp al loc w) us vs → resL hp us = some xs →
    (∀ t ∈ us.flatMap tidV, ∀ l, loc t = some l → l.st < l.n → ¬ m l.b) → RelL (E0 m w) xs vs
  | [], xs, _, .nil, h, _ => by simp [resL] at h; subst h; exact .nil
  | u :: us, xs, _, .cons hu hus, h, hfz => by
    simp only [resL] at h
    split at h
    · rename_i x ys h1 h2
      cases h
      exact .cons (res_rel hM hm hu h1 (fun t off len l e hl hpos => hfz t (by subst e; simp [tidV]) l hl hpos)) (resL_rel hM hm hus h2 (fun t ht => hfz t (by simp only [List.flatMap_cons, List.mem_append]; exact .inr ht)))
    · cases h

theorem resV_frz (ts : List Nat) (u : AV) : resV (frz hp ts) u = resV hp u := by
  cases u with
  | own t off len =>
    simp only [resV, frz]
    by_cases e : t ∈ ts
    · simp only [e, if_true]
      cases hp t with
      | none => rfl
      | some o => cases o <;> rfl
    · simp only [e, if_false]
  | val v => cases v with
    | slice a n c => cases a <;> cases n <;> cases c <;> rfl
    | _ => rfl
  | _ => rfl
theorem resL_frz (ts : List Nat) : ∀ (us : List AV), resL (frz hp ts) us = resL hp us
  | [] => rfl
  | u :: us => by simp only [resL, resV_frz, resL_frz ts us]

theorem resL_rows : ∀ {us xs : List AV}, resL hp us = some xs → ∀ t ∈ us.flatMap tidV, ∃ sz m rows, hp t = some (.row sz m rows)
  | [], _, _, t, ht => by cases ht
  | u :: us, xs, h, t, ht => by
    simp only [resL] at h
    split at h
    · rename_i x ys h1 h2
      simp only [List.flatMap_cons, List.mem_append] at ht
      rcases ht with ht | ht
      · cases u with
        | own q off len =>
          simp [tidV] at ht; subst ht
          simp only [resV] at h1
          split at h1
          · rename_i sz m rows ho; exact ⟨sz, m, rows, ho⟩
          · cases h1
        | _ => simp [tidV] at ht
      · exact resL_rows h2 t ht
    · cases h

theorem call_rule {ft : FuncId → List AV → Option AV} {f : FuncId} {us : List AV} {vs : List Value} {r : AR} (hM : Mem G hp al loc w) (hf : Fresh al id) (hft : ∀ xs X, ft f xs = some X → PC P f xs X)
    (hr : RelL (mkE G.m1 hp al loc w) us vs) (h : callA ft hp id f us = some r) :
    Calls P f vs.toArray w fun e w' => ∃ v loc', e = .returned v ∧ Mem G (applyEff hp r.eff) (alR al id) loc' w' ∧
      Ext (mkE G.m1 hp al loc w) (mkE G.m1 (applyEff hp r.eff) (alR al id) loc' w') ∧ Rel (mkE G.m1 (applyEff hp r.eff) (alR al id) loc' w') r.v v := by
  unfold callA at h
  split at h
  · rename_i xs hres
    split at h
    · rename_i X hX
      split at h
      · rename_i hlen
        cases h
        by_cases hsh : shares X = true
        · simp only [hsh, if_true]
          obtain ⟨hM1, x1⟩ := hM.frz (us.flatMap tidV)
          have hm1 : ∀ b, (G.m1 b ∨ mtOf (frz hp (us.flatMap tidV)) loc b) → b < w.heap.size := fun b hb => by
            rcases hb with hb | ⟨t, o, l, h1, h2, h3, h4, h5⟩
            · exact Nat.lt_of_lt_of_le (G.m1lt b hb) hM.size
            · exact h4 ▸ hM1.lt h3 h5
          have hx := resL_rel (m := fun b => G.m1 b ∨ mtOf (frz hp (us.flatMap tidV)) loc b) hM1 (fun b h => h) (RelL.ext x1 hr) (by rw [resL_frz]; exact hres) (fun t ht l hl hpos hm => by
            rcases hm with hm | ⟨t', o', l', h1, h2, h3, h4, h5⟩
            · exact hM1.fgn t l hl hpos hm
            · have : t' = t := hM1.inj _ _ _ _ h3 hl h5 hpos h4
              subst this
              obtain ⟨sz, mm, rows, hrow⟩ := resL_rows hres t' ht
              simp only [frz, ht, if_true, hrow] at h1
              cases h1; simp [AObj.isMut] at h2)
          have := call_core (G := G) (id := id) (X := X) (us := us) hM1 hf (hft _ _ hX) hm1 hx (fun _ b hb => hb) hlen
          refine this.mono ?_
          rintro e w' ⟨v, loc', rfl, a, b, c⟩
          rw [← freeze_eq, ← applyEff_append] at a b c
          exact ⟨v, loc', rfl, a, (x1.trans (by rw [← freeze_eq]; exact b)), c⟩
        · have hsh' : shares X = false := by simpa using hsh
          simp only [hsh', Bool.false_eq_true, if_false, List.nil_append]
          let m : Nat → Prop := fun b => G.m1 b ∨ ∃ t o l, hp t = some o ∧ o.isMut = true ∧ loc t = some l ∧ l.b = b ∧ l.st < l.n ∧ t ∉ us.flatMap tidV
          have hml : ∀ b, m b → b < w.heap.size := fun b hb => by
            rcases hb with hb | ⟨t, o, l, h1, h2, h3, h4, h5, _⟩
            · exact Nat.lt_of_lt_of_le (G.m1lt b hb) hM.size
            · exact h4 ▸ hM.lt h3 h5
          have hx := resL_rel (m := m) hM (fun b hb => by
            rcases hb with hb | ⟨t, o, l, h1, h2, h3, h4, h5, _⟩
            · exact .inl hb
            · exact .inr ⟨t, o, l, h1, h2, h3, h4, h5⟩) hr hres (fun t ht l hl hpos hm => by
            rcases hm with hm | ⟨t', o', l', h1, h2, h3, h4, h5, h6⟩
            · exact hM.fgn t l hl hpos hm
            · have : t' = t := hM.inj _ _ _ _ h3 hl h5 hpos h4
              subst this
              exact h6 ht)
          refine (call_core (G := G) (id := id) (X := X) (us := us) hM hf (hft _ _ hX) hml hx (fun h => absurd h hsh) hlen).mono ?_
          rintro e w' ⟨v, loc', rfl, a, b, c⟩
          exact ⟨v, loc', rfl, a, b, c⟩
      · cases h
    · cases h
  · cases h

/-- What a call does to an abstract heap, whatever the rest of memory holds. -/
def CallOk (P : Program) (f : FuncId) (us : List AV) (hp : AHeap) (id : Nat) (r : AR) : Prop :=
  ∀ (G : Ghost P) (al : Nat → Prop) (loc : Nat → Option Loc) (w : World) (vs : List Value), Mem G hp al loc w → Fresh al id → RelL (mkE G.m1 hp al loc w) us vs →
    Calls P f vs.toArray w fun e w' => ∃ v loc', e = .returned v ∧ Mem G (applyEff hp r.eff) (alR al id) loc' w' ∧
      Ext (mkE G.m1 hp al loc w) (mkE G.m1 (applyEff hp r.eff) (alR al id) loc' w') ∧ Rel (mkE G.m1 (applyEff hp r.eff) (alR al id) loc' w') r.v v
theorem CallOk.of_pc {P : Program} {f : FuncId} {us xs : List AV} {X : AV} {hp : AHeap} {id : Nat} (h : PC P f xs X) (hx : resL hp us = some xs) (hl : (claimV X id).2.length ≤ 8) :
    CallOk P f us hp id ⟨(claimV X id).1, (if shares X = true then freezeL hp (us.flatMap tidV) else []) ++ effOf (claimV X id).2 id⟩ := fun G al loc w vs hM hf hr => by
  classical
  refine call_rule (ft := fun g ys => if g = f ∧ ys = xs then some X else none) hM hf (fun ys Y hY => ?_) hr ?_
  · split at hY
    · rename_i hc; cases hY; rw [hc.2]; exact h
    · cases hY
  · simp only [callA, hx, and_self, if_true, hl]
end
end Go.Gm

set_option linter.unusedVariables false
set_option linter.unusedSimpArgs false
namespace Go.Gm

def partsF (fr : Operand → AV) (ps : Array (Nat × Operand)) : List (Nat × AV) := ps.toList.map fun x => (x.1, fr x.2)
def liveV (hp : AHeap) : AV → Bool
  | .ptr t _ _ => (hp t).isSome
  | _ => true

/-- 'append(s, x)'. -/
def srcA (P : Program) (hp : AHeap) (sz : Nat) (tx : TypeId) (x : AV) : Option (List (List AV)) :=
  match x with
  | .val (.string s) => if isStrT P tx = true ∧ sz = 1 then some (bytesRows s) else none
  | x => match rowsOf hp x, elemO P tx with
    | some rows, some _ => if (∀ r ∈ rows, r.length = sz) then some rows else none
    | _, _ => none
def appendA (P : Program) (hp : AHeap) (id : Nat) (t tx : TypeId) (s x : AV) : Option AR :=
  match elemO P t with
  | some e => match infoZ P e with
    | some (sz, by_) => match srcA P hp sz tx x with
      | some ys => match s with
        | .val (.slice none 0 0) => if ys.length * by_ ≤ 140737488355328 ∧ 0 < by_ then some ⟨.own id 0 ys.length, [(id + 1, none), (id, some (.row sz true ys))]⟩ else none
        | .own o off len => match hp o with
          | some (.row sz' true rows) => if sz' = sz ∧ off + len ≤ rows.length ∧ (len + ys.length) * by_ ≤ 140737488355328 ∧ 0 < by_ then
              some ⟨.own id 0 (len + ys.length), [(o, none), (id, some (.row sz true ((rows.drop off).take len ++ ys)))]⟩ else none
          | _ => none
        | _ => none
      | none => none
    | none => none
  | none => none

def extractA (x : AV) (i : Nat) : Option AV :=
  match x with
  | .tup vs => vs[i]?
  | .val (.tuple vs) => (vs[i]?).map .val
  | _ => none

def partA (P : Program) (t : TypeId) (cs : List AV) (off : Nat) : Option AV := mkv P t (cs.drop off)

def isNotIface (P : Program) (t : TypeId) : Bool := match P.underlying t with
  | some (.interface _) => false
  | some _ => true
  | none => false

def plainA (P : Program) (fr : Operand → AV) (o : Oper) : Option AR := (plainOp P o fun x => toV (fr x)).map fun v => ⟨v, []⟩

def isStrV : AV → Bool
  | .val (.string _) => true
  | _ => false

def lenA (P : Program) (fr : Operand → AV) (hp : AHeap) (o : Oper) (x : Operand) (t : TypeId) : Option AR :=
  match fr x with
  | .val (.slice none 0 0) => (lenS P hp t (fr x)).map fun v => ⟨v, []⟩
  | .sl _ => (lenS P hp t (fr x)).map fun v => ⟨v, []⟩
  | .own _ _ _ => (lenS P hp t (fr x)).map fun v => ⟨v, []⟩
  | _ => plainA P fr o

def callOp (P : Program) (ft : FuncId → List AV → Option AV) (fr : Operand → AV) (hp : AHeap) (id : Nat) (o : Oper) (c : Call) : Option AR :=
  match c.callee with
  | .builtin .len => match c.args.toList, c.argTypes.toList with
    | [x], [t] => lenA P fr hp o x t
    | _, _ => none
  | .builtin .append => match c.args.toList, c.argTypes.toList with
    | [s, x], [t, tx] => appendA P hp id t tx (fr s) (fr x)
    | _, _ => none
  | .builtin .max => plainA P fr o
  | .builtin .min => plainA P fr o
  | .value (.func f) => callA ft hp id f (c.args.toList.map fr)
  | _ => none

/-- A pointer that is not nil, beside nil. -/
def isPtrT (P : Program) (t : TypeId) : Bool := match P.underlying t with
  | some (.pointer _) => true
  | _ => false
def nilOp (op : BinOp) (r : Option AR) : Option AR := match op with
  | .eql => some ⟨.val (.bool false), []⟩
  | .neq => some ⟨.val (.bool true), []⟩
  | _ => r
def isNilV : AV → Bool
  | .val (.pointer none) => true
  | _ => false
def nilB (P : Program) (hp : AHeap) (op : BinOp) (t : TypeId) (x y : AV) (r : Option AR) : Option AR := match x with
  | .ptr o _ _ => if isNilV y = true ∧ isPtrT P t = true ∧ (hp o).isSome = true then nilOp op r else r
  | .ip _ => if isNilV y = true ∧ isPtrT P t = true then nilOp op r else r
  | _ => r

def aop (P : Program) (ft : FuncId → List AV → Option AV) (fr : Operand → AV) (hp : AHeap) (id : Nat) (o : Oper) : Option AR :=
  match o.op with
  | .move x => some ⟨fr x, []⟩
  | .assign x => some ⟨fr x, []⟩
  | .pick c a b => match fr c with
    | .val (.bool t) => some ⟨if t then fr a else fr b, []⟩
    | _ => none
  | .alloc e => (zeroC P e).map fun zs => ⟨.ptr id 0 0, [(id, some (.row zs.length true [zs]))]⟩
  | .box _ x => if (cellsOf (fr x)).all (oneAV hp) = true ∧ 0 < (cellsOf (fr x)).length then some ⟨.ptr id 0 0, [(id, some (.row (cellsOf (fr x)).length true [cellsOf (fr x)]))]⟩ else none
  | .build t ps => (buildA P hp t (partsF fr ps)).map fun v => ⟨v, []⟩
  | .buildSlice t n ps => buildSliceA P hp id t n (partsF fr ps)
  | .load t x => (cellsP hp (fr x)).bind fun cs => (mkv P t cs).map fun v => ⟨v, []⟩
  | .store t x u => (storeP P hp t (fr x) (fr u)).map fun eff => ⟨.any, eff⟩
  | .nilCheck x => match fr x with
    | .ptr t i off => if (hp t).isSome = true then some ⟨.ptr t i off, []⟩ else none
    | .ip cs => some ⟨.ip cs, []⟩
    | _ => plainA P fr o
  | .fieldAddr s x f => if liveV hp (fr x) = true then (fieldP P s f (fr x)).map fun v => ⟨v, []⟩ else none
  | .indexAddr t x i => (indexS P hp t (fr x) (fr i)).map fun v => ⟨v, []⟩
  | .slice t x lo hi none => if isStrV (fr x) = true then plainA P fr o else (cutS P hp t (fr x) (lo.map fr) (hi.map fr)).map fun v => ⟨v, []⟩
  | .extract t i => (extractA (fr t) i).map fun v => ⟨v, []⟩
  | .makeFunc fn first captured => some ⟨.clo fn (first.toList.map fr) (captured.toList.map fr), []⟩
  | .makeInterface t x => if isNotIface P t = true then some ⟨.ifc t (fr x), []⟩ else none
  | .makeSlice t l c => makeA P id t (fr l) (fr c)
  | .convert s d x => if isStrV (fr x) = true ∧ (elemO P d).isSome = true then toBytesA P id s d (fr x) else match fr x with
    | .val (.slice none 0 0) => (toStrA P hp s d (fr x)).map fun v => ⟨v, []⟩
    | .sl _ => (toStrA P hp s d (fr x)).map fun v => ⟨v, []⟩
    | .own _ _ _ => (toStrA P hp s d (fr x)).map fun v => ⟨v, []⟩
    | _ => plainA P fr o
  | .binOp op t x y _ => nilB P hp op t (fr x) (fr y) (plainA P fr o)
  | .unOp .. => plainA P fr o
  | .index .. => plainA P fr o
  | .call c => callOp P ft fr hp id o c
  | _ => none

/-- What is known of the functions that are called. -/
def FtOk (P : Program) (ft : FuncId → List AV → Option AV) : Prop :=
  ∀ f xs X, ft f xs = some X → PC P f xs X ∧ ∀ args w, (callFunc f args).run P w = .ok (.enter f args) w

section
variable {P : Program} {G : Ghost P} {hp : AHeap} {al : Nat → Prop} {loc : Nat → Option Loc} {w : World} {id : Nat}

theorem rel_val {E : Env} {v x : Value} (h : Rel E (.val v) x) : x = v := by cases h; rfl
theorem rel_ip {E : Env} {cs : List AV} {x : Value} (h : Rel E (.ip cs) x) : ∃ b o, x = .pointer (some ⟨b, o, none⟩) := by cases h; exact ⟨_, _, rfl⟩
theorem does_wp {o : Oper} {a : Act} {r : AR} {s : Sem Next} {K : Act → World → Prop} {Q : Exit → Act → World → Prop} (h : Does P s G hp al loc w id r) (he : execOp a.eval o = s)
    (hK : ∀ v w' loc', Mem G (applyEff hp r.eff) (alR al id) loc' w' → Ext (mkE G.m1 hp al loc w) (mkE G.m1 (applyEff hp r.eff) (alR al id) loc' w') →
      Rel (mkE G.m1 (applyEff hp r.eff) (alR al id) loc' w') r.v v → K (a.put o.dst v) w') : o.wp P a w K Q := by
  obtain ⟨nx, v, w', loc', hr, hv, hM, x, hrel⟩ := h
  unfold Oper.wp
  rw [he, hr]
  rcases hv with rfl | ⟨rfl, rfl⟩
  · exact hK v w' loc' hM x hrel
  · exact hK _ w' loc' hM x hrel

theorem relL_map {E : Env} {fr : Operand → AV} {ρ : Operand → Value} : ∀ (xs : List Operand), (∀ x ∈ xs, Rel E (fr x) (ρ x)) → RelL E (xs.map fr) (xs.map ρ)
  | [], _ => .nil
  | x :: xs, h => .cons (h x (by simp)) (relL_map xs fun y hy => h y (by simp [hy]))
theorem relP_map {E : Env} {fr : Operand → AV} {ρ : Operand → Value} : ∀ (xs : List (Nat × Operand)), (∀ x ∈ xs, Rel E (fr x.2) (ρ x.2)) → RelP E (xs.map fun x => (x.1, fr x.2)) (xs.map fun x => (x.1, ρ x.2))
  | [], _ => .nil
  | x :: xs, h => .cons (h x (by simp)) (relP_map xs fun y hy => h y (by simp [hy]))

theorem does_plain {o : Oper} {a : Act} {fr : Operand → AV} {r : AR} (hM : Mem G hp al loc w) (hr : ∀ x ∈ o.op.operands, Rel (mkE G.m1 hp al loc w) (fr x) (a.eval x)) (hs : ∀ cs b, o.op ≠ .select cs b) (h : plainA P fr o = some r) :
    Does P (execOp a.eval o) G hp al loc w id r := by
  unfold plainA plainOp at h
  split at h
  · rename_i hall
    split at h
    · rename_i v hev
      cases h
      have hc : execOp a.eval o = execOp (fun x => (toV (fr x)).getD undef) o := execOp_congr o hs fun x hx => by
        have hx' : (toV (fr x)).isSome = true := by
          have := Array.all_eq_true.1 hall
          obtain ⟨k, hk, rfl⟩ := Array.mem_iff_getElem.1 hx
          exact this k hk
        obtain ⟨v, hv⟩ := Option.isSome_iff_exists.1 hx'
        rw [hv]; exact toV_rel (hr x hx) hv
      rw [hc]
      exact does_pure hM (evS_run hev w) (.val v)
    · cases h
  · cases h

theorem nil_bin {t e : TypeId} {a : Addr} {x y : Operand} (hu : P.underlying t = some (.pointer e)) (w : World) :
    (do eqGuard .eql t x y (.pointer (some a)) (.pointer none); binOp .eql t (.pointer (some a)) (.pointer none)).run P w = .ok (.bool false) w ∧
    (do eqGuard .neq t x y (.pointer (some a)) (.pointer none); binOp .neq t (.pointer (some a)) (.pointer none)).run P w = .ok (.bool true) w := by
  have he : (Op.equal t (.pointer (some a)) (.pointer none)).run P w = .ok false w := by
    have : ∀ d, (Op.equalIn (d + 1) t (.pointer (some a)) (.pointer none)).run P w = .ok false w := by
      intro d; rw [Op.equalIn]; simp [underlying, hu]
    exact this 9999
  have g1 : (eqGuard .eql t x y (.pointer (some a)) (.pointer none)) = pure () := (rfl)
  have g2 : (eqGuard .neq t x y (.pointer (some a)) (.pointer none)) = pure () := (rfl)
  have h1 : binOp .eql t (.pointer (some a)) (.pointer none) = (do pure (.bool (← Op.equal t (.pointer (some a)) (.pointer none)))) := (rfl)
  have h2 : binOp .neq t (.pointer (some a)) (.pointer none) = (do pure (.bool (!(← Op.equal t (.pointer (some a)) (.pointer none))))) := (rfl)
  rw [g1, g2, h1, h2]
  constructor <;> simp [he]
theorem isPtrT_eq {t : TypeId} (h : isPtrT P t = true) : ∃ e, P.underlying t = some (.pointer e) := by
  unfold isPtrT at h; split at h
  · exact ⟨_, by assumption⟩
  · cases h
theorem isNilV_eq {y : AV} (h : isNilV y = true) : y = .val (.pointer none) := by
  unfold isNilV at h; split at h
  · rfl
  · cases h
theorem does_nilB {op : BinOp} {t u ty : TypeId} {x y : Operand} {d : Option Tmp} {pos : String} {af : Array Edge} {g : Option (Nat × Bool)} {a : Act} {fr : Operand → AV} {r : AR} (hM : Mem G hp al loc w) (hr : ∀ z ∈ (⟨d, .binOp op t x y u, ty, pos, af, g⟩ : Oper).op.operands, Rel (mkE G.m1 hp al loc w) (fr z) (a.eval z))
    (h : nilB P hp op t (fr x) (fr y) (plainA P fr ⟨d, .binOp op t x y u, ty, pos, af, g⟩) = some r) : Does P (execOp a.eval ⟨d, .binOp op t x y u, ty, pos, af, g⟩) G hp al loc w id r := by
  have hx := hr x (by simp [Op.operands])
  have hy := hr y (by simp [Op.operands])
  have hpl : ∀ {q : Option AR}, q = plainA P fr ⟨d, .binOp op t x y u, ty, pos, af, g⟩ → q = some r → Does P (execOp a.eval ⟨d, .binOp op t x y u, ty, pos, af, g⟩) G hp al loc w id r := fun e hq => does_plain hM hr (by intro cs b hh; cases hh) (e ▸ hq)
  have key : ∀ (p : Addr), a.eval x = .pointer (some p) → isNilV (fr y) = true → isPtrT P t = true → nilOp op (plainA P fr ⟨d, .binOp op t x y u, ty, pos, af, g⟩) = some r → Does P (execOp a.eval ⟨d, .binOp op t x y u, ty, pos, af, g⟩) G hp al loc w id r := fun p hp hn ht hh => by
    obtain ⟨e, he⟩ := isPtrT_eq ht
    rw [isNilV_eq hn] at hy
    have hyv := rel_val hy
    obtain ⟨q1, q2⟩ := nil_bin (P := P) (x := x) (y := y) (a := p) he w
    cases op with
    | eql => cases hh; exact does_pure (v := .bool false) hM (by simp only [execOp, hp, hyv, Sem.run_bind, q1]; rfl) (.val _)
    | neq => cases hh; exact does_pure (v := .bool true) hM (by simp only [execOp, hp, hyv, Sem.run_bind, q2]; rfl) (.val _)
    | _ => exact hpl rfl hh
  unfold nilB at h
  split at h
  · rename_i o i off hfx
    split at h
    · rename_i hc
      obtain ⟨ob, hob⟩ := Option.isSome_iff_exists.1 hc.2.2
      obtain ⟨l, hl, _⟩ := hM.obj _ _ hob
      rw [hfx] at hx
      have hv : a.eval x = .pointer (some ⟨l.b, l.st + i * l.sz + off, none⟩) := by cases hx with | ptr _ hh => exact hh l hl
      exact key _ hv hc.1 hc.2.1 h
    · exact hpl rfl h
  · rename_i cs hfx
    split at h
    · rename_i hc
      rw [hfx] at hx
      obtain ⟨b, o, hv⟩ := rel_ip hx
      exact key _ hv hc.1 hc.2 h
    · exact hpl rfl h
  · exact hpl rfl h

theorem does_extract {x : AV} {v : Value} {i : Nat} {u : AV} (hM : Mem G hp al loc w) (hr : Rel (mkE G.m1 hp al loc w) x v) (h : extractA x i = some u) : Does P (do pure (.value (← Instr.extract v i))) G hp al loc w id ⟨u, []⟩ := by
  unfold extractA at h
  split at h
  · cases hr with
    | tup hl =>
      obtain ⟨v, hv, hrel⟩ := hl.get i u h
      exact does_pure hM (by simp [Instr.extract, hv]) hrel
  · cases hr
    rename_i vs
    cases hv : vs[i]? with
    | none => rw [hv] at h; cases h
    | some v => rw [hv] at h; cases h; exact does_pure hM (by simp [Instr.extract, hv]) (.val v)
  · cases h

theorem src_rel {sz : Nat} {tx : TypeId} {x : AV} {v : Value} {ys : List (List AV)} (hM : Mem G hp al loc w) (hr : Rel (mkE G.m1 hp al loc w) x v) (h : srcA P hp sz tx x = some ys) : SrcRows P (mkE G.m1 hp al loc w) sz tx v ys := by
  unfold srcA at h
  split at h
  · split at h
    · rename_i hc
      cases h
      cases hr
      obtain ⟨c1, rfl⟩ := hc
      exact src_string _ (isStrT_eq c1)
    · cases h
  · split at h
    · rename_i rows e h1 h2
      split at h
      · rename_i hz; cases h; exact src_slice hM hr h1 (elemO_eq h2) hz
      · cases h
    · cases h

theorem does_append {t tx ty : TypeId} {s x : AV} {sv xv : Value} {r : AR} (hM : Mem G hp al loc w) (hf : Fresh al id) (hs : Rel (mkE G.m1 hp al loc w) s sv) (hx : Rel (mkE G.m1 hp al loc w) x xv) (h : appendA P hp id t tx s x = some r) :
    Does P (do pure (.value (← Builtin.append_ #[t, tx] ty #[sv, xv]))) G hp al loc w id r := by
  unfold appendA at h
  split at h
  · rename_i e he
    split at h
    · rename_i sz by_ hz
      split at h
      · rename_i ys hys
        have hsrc := src_rel (P := P) hM hx hys
        split at h
        · split at h
          · rename_i hc
            cases h; cases hs
            exact append_nil hM hf (elemO_eq he) hz hsrc hc.1 hc.2
          · cases h
        · split at h
          · rename_i sz' rows ho
            split at h
            · rename_i hc
              obtain ⟨rfl, c2, c3, c4⟩ := hc
              cases h
              exact append_own hM hf.at (elemO_eq he) hz ho c2 hs hsrc c3 c4
            · cases h
          · cases h
        · cases h
      · cases h
    · cases h
  · cases h
end
end Go.Gm

set_option linter.unusedVariables false
set_option linter.unusedSimpArgs false
namespace Go.Gm
section
variable {P : Program} {G : Ghost P} {hp : AHeap} {al : Nat → Prop} {loc : Nat → Option Loc} {w : World} {id : Nat}

theorem isNotIface_run {t : TypeId} (h : isNotIface P t = true) (x : Value) : (Instr.makeInterface t x).run P w = .ok (.iface t x) w := by
  unfold isNotIface at h
  cases hu : P.underlying t with
  | none => rw [hu] at h; cases h
  | some d => rw [hu] at h; cases d <;> simp_all [Instr.makeInterface, underlying]

theorem relO_map {E : Env} {fr : Operand → AV} {ρ : Operand → Value} : ∀ (x : Option Operand), (∀ y, x = some y → Rel E (fr y) (ρ y)) → RelO E (x.map fr) (x.map ρ)
  | none, _ => .none
  | some y, h => .some (h y rfl)

theorem aop_wp {ft : FuncId → List AV → Option AV} {fr : Operand → AV} {o : Oper} {a : Act} {r : AR} {K : Act → World → Prop} {Q : Exit → Act → World → Prop} (hM : Mem G hp al loc w) (hf : Fresh al id) (hft : FtOk P ft)
    (hr : ∀ x, Rel (mkE G.m1 hp al loc w) (fr x) (a.eval x)) (h : aop P ft fr hp id o = some r)
    (hK : ∀ v w' loc', Mem G (applyEff hp r.eff) (alR al id) loc' w' → Ext (mkE G.m1 hp al loc w) (mkE G.m1 (applyEff hp r.eff) (alR al id) loc' w') →
      Rel (mkE G.m1 (applyEff hp r.eff) (alR al id) loc' w') r.v v → K (a.put o.dst v) w') : o.wp P a w K Q := by
  have hr' : ∀ x ∈ o.op.operands, Rel (mkE G.m1 hp al loc w) (fr x) (a.eval x) := fun x _ => hr x
  obtain ⟨dst, op, ty, pos, after, guard⟩ := o
  unfold aop at h
  split at h
  · -- move
    rename_i x ho; simp only at ho; subst ho; cases h
    exact does_wp (s := pure (.value (a.eval x))) (does_pure hM rfl (hr x)) rfl hK
  · rename_i x ho; simp only at ho; subst ho; cases h
    exact does_wp (s := pure (.value (a.eval x))) (does_pure hM rfl (hr x)) rfl hK
  · -- pick
    rename_i c x y ho; simp only at ho; subst ho
    split at h
    · rename_i t hc
      cases h
      have hcv : a.eval c = .bool t := rel_val (hc ▸ hr c)
      refine does_wp (s := execOp a.eval ⟨dst, .pick c x y, ty, pos, after, guard⟩) (does_pure (v := if t then a.eval x else a.eval y) hM (by cases t <;> simp [execOp, hcv, asBool]) ?_) rfl hK
      cases t
      · exact hr y
      · exact hr x
    · cases h
  · -- alloc
    rename_i e ho; simp only at ho; subst ho
    simp only [Option.map_eq_some_iff] at h
    obtain ⟨zs, hz, rfl⟩ := h
    exact does_wp (does_alloc hM hf.at hz) rfl hK
  · -- box
    rename_i e x ho; simp only at ho; subst ho
    split at h
    · rename_i hc
      cases h
      exact does_wp (does_box hM hf.at (hr x) hc.1 hc.2) rfl hK
    · cases h
  · -- build
    rename_i t ps ho; simp only at ho; subst ho
    simp only [Option.map_eq_some_iff] at h
    obtain ⟨v, hb, rfl⟩ := h
    refine does_wp (does_build (P := P) (t := t) (parts' := ps.map fun (x : Nat × Operand) => (x.1, a.eval x.2)) hM ?_ hb) rfl hK
    have := relP_map (fr := fr) (ρ := a.eval) ps.toList (fun x _ => hr x.2)
    simpa [partsF] using this
  · -- buildSlice
    rename_i t n ps ho; simp only at ho; subst ho
    refine does_wp (does_buildSlice (P := P) (t := t) (parts' := ps.map fun (x : Nat × Operand) => (x.1, a.eval x.2)) hM hf.at ?_ h) rfl hK
    have := relP_map (fr := fr) (ρ := a.eval) ps.toList (fun x _ => hr x.2)
    simpa [partsF] using this
  · -- load
    rename_i t x ho; simp only at ho; subst ho
    simp only [Option.bind_eq_some_iff, Option.map_eq_some_iff] at h
    obtain ⟨cs, hc, u, hu, rfl⟩ := h
    exact does_wp (does_load hM (hr x) hc hu) rfl hK
  · -- store
    rename_i t x u ho; simp only at ho; subst ho
    simp only [Option.map_eq_some_iff] at h
    obtain ⟨eff, he, rfl⟩ := h
    exact does_wp (does_store hM (hr x) (hr u) he) rfl hK
  · -- nilCheck
    rename_i x ho; simp only at ho; subst ho
    split at h
    · rename_i t i off hx
      split at h
      · rename_i hs
        cases h
        obtain ⟨ob, hob⟩ := Option.isSome_iff_exists.1 hs
        obtain ⟨l, hl, _⟩ := hM.obj t ob hob
        have hrx := hr x
        rw [hx] at hrx
        have hv : a.eval x = .pointer (some ⟨l.b, l.st + i * l.sz + off, none⟩) := by cases hrx with | ptr _ hh => exact hh l hl
        exact does_wp (s := execOp a.eval ⟨dst, .nilCheck x, ty, pos, after, guard⟩) (does_pure (v := a.eval x) hM (by simp [execOp, hv]) hrx) rfl hK
      · cases h
    · rename_i cs hx
      cases h
      have hrx := hr x
      rw [hx] at hrx
      have hv := rel_ip hrx
      obtain ⟨b, o, hv⟩ := hv
      exact does_wp (s := execOp a.eval ⟨dst, .nilCheck x, ty, pos, after, guard⟩) (does_pure (v := a.eval x) hM (by simp [execOp, hv]) hrx) rfl hK
    · exact does_wp (does_plain hM hr' (by intro cs b hh; cases hh) h) rfl hK
  · -- fieldAddr
    rename_i s x f ho; simp only at ho; subst ho
    split at h
    · rename_i hlv
      simp only [Option.map_eq_some_iff] at h
      obtain ⟨u, hu, rfl⟩ := h
      exact does_wp (does_fieldAddr hM (hr x) hu (fun t i off e => by rw [e] at hlv; exact hlv)) rfl hK
    · cases h
  · -- indexAddr
    rename_i t x i ho; simp only at ho; subst ho
    simp only [Option.map_eq_some_iff] at h
    obtain ⟨u, hu, rfl⟩ := h
    exact does_wp (does_indexS hM (hr x) (hr i) hu) rfl hK
  · -- slice
    rename_i t x lo hi ho; simp only at ho; subst ho
    split at h
    · exact does_wp (does_plain hM hr' (by intro cs b hh; cases hh) h) rfl hK
    · simp only [Option.map_eq_some_iff] at h
      obtain ⟨u, hu, rfl⟩ := h
      exact does_wp (does_cut hM (hr x) (relO_map lo fun y _ => hr y) (relO_map hi fun y _ => hr y) hu) rfl hK
  · -- extract
    rename_i t i ho; simp only at ho; subst ho
    simp only [Option.map_eq_some_iff] at h
    obtain ⟨u, hu, rfl⟩ := h
    exact does_wp (does_extract hM (hr t) hu) rfl hK
  · -- makeFunc
    rename_i fn first captured ho; simp only at ho; subst ho; cases h
    refine does_wp (s := execOp a.eval ⟨dst, .makeFunc fn first captured, ty, pos, after, guard⟩) (does_pure (v := .func fn (first.map a.eval) (captured.map a.eval)) hM (by simp [execOp, Instr.makeFunc]) ?_) rfl hK
    have h1 := relL_map (fr := fr) (ρ := a.eval) first.toList (fun x _ => hr x)
    have h2 := relL_map (fr := fr) (ρ := a.eval) captured.toList (fun x _ => hr x)
    have := Rel.clo (fn := fn) h1 h2
    have e1 : ∀ xs : Array Operand, (xs.toList.map a.eval).toArray = xs.map a.eval := fun xs => by apply Array.ext'; exact (Array.toList_map ..).symm
    rw [e1, e1] at this
    exact this
  · -- makeInterface
    rename_i t x ho; simp only at ho; subst ho
    split at h
    · rename_i hi
      cases h
      exact does_wp (s := execOp a.eval ⟨dst, .makeInterface t x, ty, pos, after, guard⟩) (does_pure (v := .iface t (a.eval x)) hM (by simp [execOp, isNotIface_run hi]) (.ifc (hr x))) rfl hK
    · cases h
  · -- makeSlice
    rename_i t l c ho; simp only at ho; subst ho
    exact does_wp (does_make hM hf.at (hr l) (hr c) h) rfl hK
  · -- convert
    rename_i s d x ho; simp only at ho; subst ho
    split at h
    · exact does_wp (does_toBytes hM hf.at (hr x) h) rfl hK
    · split at h
      · simp only [Option.map_eq_some_iff] at h
        obtain ⟨u, hu, rfl⟩ := h
        exact does_wp (does_toStr hM (hr x) hu) rfl hK
      · simp only [Option.map_eq_some_iff] at h
        obtain ⟨u, hu, rfl⟩ := h
        exact does_wp (does_toStr hM (hr x) hu) rfl hK
      · simp only [Option.map_eq_some_iff] at h
        obtain ⟨u, hu, rfl⟩ := h
        exact does_wp (does_toStr hM (hr x) hu) rfl hK
      · exact does_wp (does_plain hM hr' (by intro cs b hh; cases hh) h) rfl hK
  · rename_i ho; simp only at ho; subst ho
    exact does_wp (does_nilB hM hr' h) rfl hK
  · rename_i ho; simp only at ho; subst ho
    exact does_wp (does_plain hM hr' (by intro cs b hh; cases hh) h) rfl hK
  · rename_i ho; simp only at ho; subst ho
    exact does_wp (does_plain hM hr' (by intro cs b hh; cases hh) h) rfl hK
  · -- a call
    rename_i c ho; simp only at ho; subst ho
    obtain ⟨callee, args, tys⟩ := c
    unfold callOp at h
    split at h
    · -- len
      rename_i hc; simp only at hc; subst hc
      split at h
      · rename_i x t h1 h2
        have e1 : args = #[x] := by simpa using congrArg List.toArray h1
        have e2 : tys = #[t] := by simpa using congrArg List.toArray h2
        subst e1; subst e2
        have hl : ∀ u, lenS P hp t (fr x) = some u → Does P (execOp a.eval ⟨dst, .call { callee := .builtin .len, args := #[x], argTypes := #[t] }, ty, pos, after, guard⟩) G hp al loc w id ⟨u, []⟩ := fun u hu => by
          have := does_len (P := P) (G := G) (id := id) (ty := ty) hM (hr x) hu
          simpa [execOp, resolve, invoke, builtin] using this
        unfold lenA at h
        split at h
        · simp only [Option.map_eq_some_iff] at h
          obtain ⟨u, hu, rfl⟩ := h
          exact does_wp (hl u hu) rfl hK
        · simp only [Option.map_eq_some_iff] at h
          obtain ⟨u, hu, rfl⟩ := h
          exact does_wp (hl u hu) rfl hK
        · simp only [Option.map_eq_some_iff] at h
          obtain ⟨u, hu, rfl⟩ := h
          exact does_wp (hl u hu) rfl hK
        · exact does_wp (does_plain hM hr' (by intro cs b hh; cases hh) h) rfl hK
      · cases h
    · -- append
      rename_i hc; simp only at hc; subst hc
      split at h
      · rename_i s x t tx h1 h2
        have e1 : args = #[s, x] := by simpa using congrArg List.toArray h1
        have e2 : tys = #[t, tx] := by simpa using congrArg List.toArray h2
        subst e1; subst e2
        have := does_append (P := P) (G := G) (id := id) (ty := ty) hM hf (hr s) (hr x) h
        exact does_wp (s := execOp a.eval ⟨dst, .call { callee := .builtin .append, args := #[s, x], argTypes := #[t, tx] }, ty, pos, after, guard⟩) (by simpa [execOp, resolve, invoke, builtin] using this) rfl hK
      · cases h
    · exact does_wp (does_plain hM hr' (by intro cs b hh; cases hh) h) rfl hK
    · exact does_wp (does_plain hM hr' (by intro cs b hh; cases hh) h) rfl hK
    · -- a function
      rename_i f hc; simp only at hc; subst hc
      have hrl := relL_map (fr := fr) (ρ := a.eval) args.toList (fun x _ => hr x)
      have hent : ∃ xs X, ft f xs = some X := by
        unfold callA at h
        split at h
        · split at h
          · rename_i xs _ X hX; exact ⟨_, _, hX⟩
          · cases h
        · cases h
      obtain ⟨xs, X, hX⟩ := hent
      have henter := (hft f xs X hX).2
      have hc := call_rule (P := P) hM hf (f := f) (fun xs X hX => (hft f xs X hX).1) hrl h
      have hargs : (args.toList.map a.eval).toArray = args.map a.eval := by apply Array.ext'; exact (Array.toList_map ..).symm
      rw [hargs] at hc
      unfold Oper.wp
      have hrun : (execOp a.eval ⟨dst, .call { callee := .value (.func f), args := args, argTypes := tys }, ty, pos, after, guard⟩).run P w = .ok (.enter f (args.map a.eval)) w := by
        simp [execOp, resolve, Deferred.ofValue, Act.eval, invoke, henter]
      rw [hrun, Oper.upon_enter]
      refine hc.mono ?_
      rintro e w' ⟨v, loc', rfl, h1, h2, h3⟩
      exact hK v w' loc' h1 h2 h3
    · cases h
  · cases h

/-- Whom a call calls, with what. -/
def callV (fr : Operand → AV) (o : Oper) : Option (FuncId × List AV) := match o.op with
  | .call c => match c.callee with
    | .value (.func f) => some (f, c.args.toList.map fr)
    | .value (.tmp t) => match fr (.tmp t) with
      | .clo (.func f) first captured => some (f, first ++ c.args.toList.map fr ++ captured)
      | _ => none
    | _ => none
  | _ => none
theorem call_wp {o : Oper} {a : Act} {fr : Operand → AV} {f : FuncId} {us : List AV} {r : AR} {K : Act → World → Prop} {Q : Exit → Act → World → Prop} (hM : Mem G hp al loc w) (hf : Fresh al id) (hr : ∀ x, Rel (mkE G.m1 hp al loc w) (fr x) (a.eval x))
    (hc : callV fr o = some (f, us)) (he : ∀ args w, (callFunc f args).run P w = .ok (.enter f args) w) (h : CallOk P f us hp id r)
    (hK : ∀ v w' loc', Mem G (applyEff hp r.eff) (alR al id) loc' w' → Ext (mkE G.m1 hp al loc w) (mkE G.m1 (applyEff hp r.eff) (alR al id) loc' w') → Rel (mkE G.m1 (applyEff hp r.eff) (alR al id) loc' w') r.v v → K (a.put o.dst v) w') : o.wp P a w K Q := by
  obtain ⟨dst, op, ty, pos, after, guard⟩ := o
  unfold callV at hc
  split at hc
  · rename_i c hop
    simp only at hop; subst hop
    obtain ⟨callee, args, tys⟩ := c
    have hargs : (args.toList.map a.eval).toArray = args.map a.eval := by apply Array.ext'; exact (Array.toList_map ..).symm
    split at hc
    · rename_i f' hce
      simp only at hce; subst hce
      cases hc
      have hrl := relL_map (fr := fr) (ρ := a.eval) args.toList (fun x _ => hr x)
      have hcc := h G al loc w _ hM hf hrl
      rw [hargs] at hcc
      unfold Oper.wp
      have hrun : (execOp a.eval ⟨dst, .call { callee := .value (.func f), args := args, argTypes := tys }, ty, pos, after, guard⟩).run P w = .ok (.enter f (args.map a.eval)) w := by
        simp [execOp, resolve, Deferred.ofValue, Act.eval, invoke, he]
      rw [hrun, Oper.upon_enter]
      refine hcc.mono ?_
      rintro e w' ⟨v, loc', rfl, h1, h2, h3⟩
      exact hK v w' loc' h1 h2 h3
    · rename_i t hce
      simp only at hce; subst hce
      split at hc
      · rename_i f' first captured hfr
        cases hc
        have hv := hr (.tmp t)
        rw [hfr] at hv
        generalize hev : a.eval (.tmp t) = vt at hv
        cases hv with
        | clo hfirst hcap =>
          rename_i f1 c1
          have hrl := (hfirst.append (relL_map (fr := fr) (ρ := a.eval) args.toList (fun x _ => hr x))).append hcap
          have hcc := h G al loc w _ hM hf hrl
          have hargs2 : (f1 ++ args.toList.map a.eval ++ c1).toArray = f1.toArray ++ args.map a.eval ++ c1.toArray := by
            rw [← hargs]; simp
          rw [hargs2] at hcc
          unfold Oper.wp
          have hrun : (execOp a.eval ⟨dst, .call { callee := .value (.tmp t), args := args, argTypes := tys }, ty, pos, after, guard⟩).run P w = .ok (.enter f (f1.toArray ++ args.map a.eval ++ c1.toArray)) w := by
            simp [execOp, resolve, Deferred.ofValue, hev, invoke, he]
          rw [hrun, Oper.upon_enter]
          refine hcc.mono ?_
          rintro e w' ⟨v, loc', rfl, h1, h2, h3⟩
          exact hK v w' loc' h1 h2 h3
      · cases hc
    · cases hc
  · cases hc
end
end Go.Gm

set_option linter.all false
namespace Go.Gm
variable {P : Program} {l n : Nat}
abbrev FR (l : Nat) : Fence := Fence.wide.inRound l
theorem calls_in {f : FuncId} {args : Array Value} {w : World} {R : Ending → World → Prop} (h : Calls P f args w R) : CallsIn (FR l) n P f args w R := CallsIn.inRound l (callsIn_wide.2 h)
theorem rows_in {row : String} {args : Array Value} {w : World} {R : Value → World → Prop} (h : Rows P row args w R) : RowsIn (FR l) n P row args w R := fun c cs _ => by
  obtain ⟨v, w', r, s⟩ := h c cs
  exact ⟨v, w', r, stepsIn_wide.2 s⟩
theorem oper_in {o : Oper} {a : Act} {w : World} {K : Act → World → Prop} {Q : Exit → Act → World → Prop} (hd : ∀ c, o.op ≠ .defer c) (h : o.wp P a w K Q) : o.wpIn (FR l) n P a w K Q := by
  refine ⟨fun _ _ => trivial, ?_⟩
  have e : o.semAt (FR l).round a.eval = execOp a.eval o := Oper.semAt_some l _ _ hd
  rw [e]
  unfold Oper.wp at h
  generalize (execOp a.eval o).run P w = r at h ⊢
  cases r with
  | ok x w' =>
    cases x <;> first
      | exact h
      | exact h.elim
      | exact ⟨(fun hh => by cases hh), calls_in h⟩
      | exact ⟨(fun hh => by cases hh), rows_in h⟩
  | halt x w' => cases x <;> first | exact h | exact h.elim
def noDefer (o : Oper) : Bool := match o.op with
  | .defer _ => false
  | _ => true
theorem noDefer_spec {o : Oper} (h : noDefer o = true) : ∀ c, o.op ≠ .defer c := fun c e => by unfold noDefer at h; rw [e] at h; cases h
theorem list_in {ops : Array Oper} {Q : Exit → Act → World → Prop} (hq : ¬ LetsOut Q) : ∀ (L : List Oper) (a : Act) (w : World), L.all noDefer = true → wpList P ops Q L a w → wpListIn (FR l) n P ops Q L a w
  | [], a, w, _, h => h
  | o :: L, a, w, hd, h => by
    rw [List.all_cons, Bool.and_eq_true] at hd
    unfold wpList at h
    unfold wpListIn
    split
    · rename_i hw
      rw [if_pos hw] at h
      rcases h with h | h
      · exact Oper.wpIn_mono (fun a w h => list_in hq L a w hd.2 h) (oper_in (noDefer_spec hd.1) h)
      · exact absurd h.2 hq
    · rename_i hw
      rw [if_neg hw] at h
      exact ⟨fun _ _ => trivial, list_in hq L _ _ hd.2 h⟩
theorem op_in {ops : Array Oper} {Q : Exit → Act → World → Prop} (hq : ¬ LetsOut Q) {i : Nat} {K K' : Act → World → Prop} (hd : ∀ o, ops[i]? = some o → noDefer o = true) (hk : ∀ a w, K a w → K' a w) {a : Act} {w : World} (h : wpOp P ops Q i K a w) : wpOpIn (FR l) n P ops Q i K' a w := by
  unfold wpOp at h
  unfold wpOpIn
  split
  · rename_i ho
    simp only [ho] at h
    exact hk _ _ h
  · rename_i o ho
    simp only [ho] at h
    split
    · rename_i hw
      rw [if_pos hw] at h
      rcases h with h | h
      · exact Oper.wpIn_mono hk (oper_in (noDefer_spec (hd o ho)) h)
      · exact absurd h.2 hq
    · rename_i hw
      rw [if_neg hw] at h
      exact ⟨fun _ _ => trivial, hk _ _ h⟩
theorem any_in {ops : Array Oper} {Q : Exit → Act → World → Prop} (hq : ¬ LetsOut Q) (hd : ∀ (i : Nat) o, ops[i]? = some o → noDefer o = true) {md : Region.Mode} : ∀ (k : Nat) (listed : Array Bool) (a : Act) (w : World), wpAny P md ops Q k listed a w → wpAnyIn (FR l) n P md ops Q k listed a w
  | 0, listed, a, w, h => h
  | k + 1, listed, a, w, h => ⟨h.1, fun i hi => op_in hq (hd i) (fun a w h => any_in hq hd k _ a w h) (h.2 i hi)⟩

/-! ### Code inside of a round -/
section
variable {F : Fence} {Q : Exit → Act → World → Prop} {a : Act} {w : World}
theorem stepR_scope {b : Frame} {k : List Item} {cs : List Frame} {c : Code} : step P (lone (b.atR a (.code (.scope c) :: k)) cs w) = .next (lone (b.atR a (.code c :: .inScope c :: k)) cs w) :=
  step_lone_go (by simp [stepG, stepG.exec, Frame.atR])
theorem stepR_inScope {b : Frame} {k : List Item} {cs : List Frame} {c : Code} : step P (lone (b.atR a (.inScope c :: k)) cs w) = .next (lone (b.atR a k) cs w) :=
  step_lone_go (by simp [stepG, stepG.exec, Frame.atR])
theorem wpIn_scope_straight {c : Code} (h : c.wpIn F n P (Exit.noGoto Q) a w) : (Code.scope c).wpIn F n P Q a w := by
  intro b k cs hro hb hr
  have h0 : (lone (b.atR a (.code (.scope c) :: k)) cs w).fenced P F := fenced_calm hb hr rfl
  obtain ⟨e, a₁, w₁, hq, harr⟩ := h b (.inScope c :: k) cs hro hb hr
  have hx : ∀ id, exitTo id (.inScope c :: k) = exitTo id k := fun id => by simp [exitTo]
  cases e with
  | normal => exact ⟨.normal, a₁, w₁, hq, .head h0 stepR_scope (StepsIn.trans harr (.one (fenced_calm hb hr rfl) stepR_inScope))⟩
  | exit id => exact ⟨.exit id, a₁, w₁, hq, .of_steps (.one h0 stepR_scope) ⟨fun k' hk => harr.1 k' (by rw [hx]; exact hk), fun h1 h2 => harr.2 h1 (by rw [hx]; exact h2)⟩⟩
  | goto l => exact hq.elim
  | ret => exact ⟨_, a₁, w₁, hq, .of_steps (.one h0 stepR_scope) harr⟩
  | panic ch => exact ⟨_, a₁, w₁, hq, .of_steps (.one h0 stepR_scope) harr⟩
  | outgrown => exact ⟨_, a₁, w₁, hq, .of_steps (.one h0 stepR_scope) harr⟩
theorem wpIn_loop_ghost {c : Code} (I : Nat → Act → World → Prop) (n₀ : Nat) (h₀ : I n₀ a w)
    (round : ∀ k a w, I k a w → c.wpIn F n P (Exit.then (fun a' w' => ∃ k', k' < k ∧ I k' a' w') Q) a w) : (Code.loop c).wpIn F n P Q a w := by
  refine wpIn_loop (fun a w => ∃ n, I n a w) (fun a w => leastOf (fun n => I n a w)) ⟨n₀, h₀⟩ ?_
  intro a w hI
  refine wpIn_mono (round _ a w (leastOf_spec hI).1) ?_
  intro e a' w' hq
  cases e with
  | normal =>
    obtain ⟨n', hlt, hI'⟩ := hq
    exact show (∃ n, I n a' w') ∧ leastOf (fun n => I n a' w') < leastOf (fun n => I n a w) from ⟨⟨n', hI'⟩, Nat.lt_of_le_of_lt ((leastOf_spec ⟨n', hI'⟩).2 n' hI') hlt⟩
  | exit id => exact hq
  | goto l => exact hq
  | ret => exact hq
  | panic ch => exact hq
  | outgrown => exact hq
end

/-! ### Code outside of any round, or inside of a round of loop l -/
def WP (md : Option (Nat × Nat)) (P : Program) (c : Code) (Q : Exit → Act → World → Prop) (a : Act) (w : World) : Prop := match md with
  | none => c.wp P Q a w
  | some x => c.wpIn (FR x.1) x.2 P Q a w
def WL (md : Option (Nat × Nat)) (P : Program) (ops : Array Oper) (Q : Exit → Act → World → Prop) (L : List Oper) (a : Act) (w : World) : Prop := match md with
  | none => wpList P ops Q L a w
  | some x => wpListIn (FR x.1) x.2 P ops Q L a w
section
variable {md : Option (Nat × Nat)} {Q Q' : Exit → Act → World → Prop} {a : Act} {w : World} {c x y : Code}
theorem WP.mono (h : WP md P c Q a w) (hq : ∀ e a w, Q e a w → Q' e a w) : WP md P c Q' a w := by
  cases md with
  | none => exact wp_mono h hq
  | some x => exact wpIn_mono h hq
theorem WP.skip (h : Q .normal a w) : WP md P .skip Q a w := by
  cases md with
  | none => exact wp_skip h
  | some x => exact wpIn_skip h
theorem WP.label {t : Nat} (h : Q .normal a w) : WP md P (.label t) Q a w := by
  cases md with
  | none => exact wp_label h
  | some x => exact wpIn_label h
theorem WP.exit {t : Nat} (h : Q (.exit t) a w) : WP md P (.exit t) Q a w := by
  cases md with
  | none => exact wp_exit h
  | some x => exact wpIn_exit h
theorem WP.ret (h : Q .ret a w) : WP md P .ret Q a w := by
  cases md with
  | none => exact wp_ret h
  | some x => exact wpIn_ret h
theorem WP.seq (h : WP md P x (Exit.then (WP md P y Q) Q) a w) : WP md P (.seq x y) Q a w := by
  cases md with
  | none => exact wp_seq h
  | some x => exact wpIn_seq h
theorem WP.cond {o : Operand} {t : Bool} (hc : a.eval o = .bool t) (h : WP md P (if t then x else y) Q a w) : WP md P (.cond o x y) Q a w := by
  cases md with
  | none => exact wp_cond hc h
  | some x => exact wpIn_cond hc h
theorem WP.block {t : Nat} (h : WP md P c (Exit.inBlock t Q) a w) : WP md P (.block t c) Q a w := by
  cases md with
  | none => exact wp_block h
  | some x => exact wpIn_block h
theorem WP.scope (h : WP md P c (Exit.noGoto Q) a w) : WP md P (.scope c) Q a w := by
  cases md with
  | none => exact wp_scope_straight h
  | some x => exact wpIn_scope_straight h
theorem WP.loop (I : Nat → Act → World → Prop) (n₀ : Nat) (h₀ : I n₀ a w)
    (round : ∀ k a w, I k a w → WP md P c (Exit.then (fun a' w' => ∃ k', k' < k ∧ I k' a' w') Q) a w) : WP md P (.loop c) Q a w := by
  cases md with
  | none => exact wp_loop_ghost I n₀ h₀ round
  | some x => exact wpIn_loop_ghost I n₀ h₀ round
theorem WP.list {id : Nat} {ops : Array Oper} (h : WL md P ops Q ops.toList a w) : WP md P (.region id ops false) Q a w := by
  cases md with
  | none => exact wp_region_list h
  | some x => exact wpIn_region_list h
theorem WP.any {id : Nat} {ops : Array Oper} (hm : P.follows .mixedOrders = true) (hd : ∀ (i : Nat) o, ops[i]? = some o → noDefer o = true)
    (h : wpAny P .any ops (fun e a w => e = .normal ∧ Q .normal a w) ops.size (Array.replicate ops.size false) a { w with drawn := w.drawn + 1 }) : WP md P (.region id ops true) Q a w := by
  have hq : ¬ LetsOut (fun e a w => e = Exit.normal ∧ Q .normal a w) := by rintro ⟨_, _, h, _⟩; cases h
  cases md with
  | none => exact wp_mono (wp_region_any hm h) (by rintro e a w ⟨rfl, h⟩; exact h)
  | some x => exact wpIn_mono (wpIn_region_any hm (any_in hq hd _ _ _ _ h)) (by rintro e a w ⟨rfl, h⟩; exact h)
theorem WL.nil {ops : Array Oper} (h : Q .normal a w) : WL md P ops Q [] a w := by
  cases md with
  | none => exact h
  | some x => exact h
theorem WL.op {ops : Array Oper} {o : Oper} {L : List Oper} (hw : Region.wanted o (yielded ops a.tmps) = true) (hd : ∀ c, o.op ≠ .defer c) (h : o.wp P a w (WL md P ops Q L) Q) : WL md P ops Q (o :: L) a w := by
  cases md with
  | none => show wpList P ops Q (o :: L) a w; unfold wpList; rw [if_pos hw]; exact .inl h
  | some x => show wpListIn _ _ P ops Q (o :: L) a w; unfold wpListIn; rw [if_pos hw]; exact oper_in hd h
theorem WL.not {ops : Array Oper} {o : Oper} {L : List Oper} (hw : Region.wanted o (yielded ops a.tmps) = false) (h : WL md P ops Q L (a.put o.dst undef) w) : WL md P ops Q (o :: L) a w := by
  cases md with
  | none => show wpList P ops Q (o :: L) a w; unfold wpList; rw [hw]; exact h
  | some x => show wpListIn _ _ P ops Q (o :: L) a w; unfold wpListIn; rw [hw]; exact ⟨fun _ _ => trivial, h⟩
end
end Go.Gm
