/- What is unlike, by merging and by looking up: the same. -/
import Derived.Test.YtlonihmeikmpiaaGmY1F2
set_option linter.all false
set_option linter.unusedVariables false
set_option linter.unusedSimpArgs false
set_option linter.unusedSimpArgs false
set_option linter.unusedVariables false
namespace Go.Proofs.Y1
open Go.Gm

theorem right_tail {x : Res} {l : List Res} (h : Right (x :: l)) : Right l := fun j a b ha hb => h (j + 1) a b (by simpa using ha) (by simpa using hb)
theorem right_head {x : Res} {l : List Res} (h : Right (x :: l)) : ∀ r ∈ l, sLt x.key r.key = true := by
  induction l generalizing x with
  | nil => intro r hr; cases hr
  | cons y l ih =>
    have hxy : sLt x.key y.key = true := h 0 x y (by simp) (by simp)
    intro r hr
    rcases List.mem_cons.1 hr with rfl | hr
    · exact hxy
    · exact sLt_trans hxy (ih (right_tail h) r hr)
theorem right_cons {x : Res} {l : List Res} (h : Right l) (hx : ∀ r ∈ l, sLt x.key r.key = true) : Right (x :: l) := fun j a b ha hb => by
  cases j with
  | zero => simp at ha hb; subst ha; exact hx b (List.mem_of_getElem? hb)
  | succ j => exact h j a b (by simpa using ha) (by simpa using hb)

theorem getR_ne {x : Res} {l : List Res} {k : ByteArray} (h : x.key ≠ k) : getR (x :: l) k = getR l k := by simp [getR, h]
theorem getR_hd {x : Res} {l : List Res} {k : ByteArray} (h : x.key = k) : getR (x :: l) k = some x := by simp [getR, h]
theorem getR_no {l : List Res} {k : ByteArray} (h : ∀ r ∈ l, r.key ≠ k) : getR l k = none := by
  unfold getR; rw [List.find?_eq_none]; intro r hr; simpa using h r hr
theorem ne_lt {a b : ByteArray} (h : sLt a b = true) : a ≠ b := fun e => by subst e; rw [sLt_irr] at h; cases h
theorem ne_gt {a b : ByteArray} (h : sLt b a = true) : a ≠ b := fun e => by subst e; rw [sLt_irr] at h; cases h

def mkL : List Res → List Res → List ByteArray
  | [], [] => []
  | a :: l, [] => a.key :: mkL l []
  | [], b :: m => b.key :: mkL [] m
  | a :: l, b :: m => if sLt a.key b.key = true then a.key :: mkL l (b :: m) else if sLt b.key a.key = true then b.key :: mkL (a :: l) m else a.key :: mkL l m
termination_by l m => l.length + m.length

theorem mkL_mem (a b : List Res) : ∀ x, x ∈ mkL a b ↔ (∃ r ∈ a, r.key = x) ∨ ∃ r ∈ b, r.key = x := by
  fun_induction mkL a b with
  | case1 => simp
  | case2 a l ih => intro x; rw [List.mem_cons, ih]; simp [eq_comm]
  | case3 b m ih => intro x; rw [List.mem_cons, ih]; simp [eq_comm]
  | case4 a l b m h ih => intro x; rw [List.mem_cons, ih]; simp only [List.mem_cons, exists_eq_or_imp]; rw [eq_comm (a := x)]; exact or_assoc.symm
  | case5 a l b m h h2 ih => intro x; rw [List.mem_cons, ih]; simp only [List.mem_cons, exists_eq_or_imp]; rw [eq_comm (a := x)]; exact or_left_comm
  | case6 a l b m h h2 ih =>
    intro x
    have e : a.key = b.key := sLt_eq (by simpa using h) (by simpa using h2)
    rw [List.mem_cons, ih]; simp only [List.mem_cons, exists_eq_or_imp, ← e]; rw [eq_comm (a := x)]
    constructor
    · rintro (h | h | h) <;> simp [h]
    · rintro ((h | h) | (h | h)) <;> simp [h]

def SS (l : List ByteArray) : Prop := l.Pairwise fun a b => sLt a b = true
theorem ss_ext : ∀ {l m : List ByteArray}, SS l → SS m → (∀ x, x ∈ l ↔ x ∈ m) → l = m
  | [], [], _, _, _ => rfl
  | [], y :: m, _, _, h => by have := (h y).2 (by simp); cases this
  | x :: l, [], _, _, h => by have := (h x).1 (by simp); cases this
  | x :: l, y :: m, hl, hm, h => by
    obtain ⟨h1, h2⟩ := List.pairwise_cons.1 hl
    obtain ⟨h3, h4⟩ := List.pairwise_cons.1 hm
    have hxy : x = y := by
      rcases List.mem_cons.1 ((h x).1 (by simp)) with e | e
      · exact e
      · rcases List.mem_cons.1 ((h y).2 (by simp)) with e2 | e2
        · exact e2.symm
        · have := sLt_asymm (h1 y e2); rw [h3 x e] at this; cases this
    subst hxy
    have hx1 : x ∉ l := fun hx => by have := h1 x hx; rw [sLt_irr] at this; cases this
    have hx2 : x ∉ m := fun hx => by have := h3 x hx; rw [sLt_irr] at this; cases this
    rw [ss_ext h2 h4 fun z => ?_]
    constructor
    · intro hz
      rcases List.mem_cons.1 ((h z).1 (by simp [hz])) with e | e
      · subst e; exact absurd hz hx1
      · exact e
    · intro hz
      rcases List.mem_cons.1 ((h z).2 (by simp [hz])) with e | e
      · subst e; exact absurd hz hx2
      · exact e
theorem ss_add {s : ByteArray} {l : List ByteArray} (h : SS l) : SS (addS s l) := by
  induction l with
  | nil => simp [addS, SS]
  | cons x l ih =>
    obtain ⟨h1, h2⟩ := List.pairwise_cons.1 h
    simp only [addS]
    split
    · rename_i hx
      refine List.pairwise_cons.2 ⟨fun y hy => ?_, ih h2⟩
      rcases addS_mem.1 hy with rfl | hy
      · exact hx
      · exact h1 y hy
    · rename_i hx
      split
      · exact h
      · rename_i hne
        have hsx : sLt s x = true := by
          rcases sLt_tri x s with e | e | e
          · exact absurd e hx
          · exact absurd e hne
          · exact e
        refine List.pairwise_cons.2 ⟨fun y hy => ?_, h⟩
        rcases List.mem_cons.1 hy with rfl | hy
        · exact hsx
        · exact sLt_trans hsx (h1 y hy)
theorem ss_fold : ∀ (m l : List ByteArray), SS l → SS (m.foldl (fun l s => addS s l) l)
  | [], _, h => h
  | s :: m, l, h => ss_fold m _ (ss_add h)
theorem ss_keys (a b : List Res) : SS (keysL a b) := ss_fold _ _ (ss_fold _ _ List.Pairwise.nil)
theorem ss_mk (a b : List Res) : Right a → Right b → SS (mkL a b) := by
  have mem := mkL_mem
  fun_induction mkL a b with
  | case1 => intro _ _; exact List.Pairwise.nil
  | case2 a l ih =>
    intro ha hb
    refine List.pairwise_cons.2 ⟨fun y hy => ?_, ih (right_tail ha) hb⟩
    rcases (mem _ _ y).1 hy with ⟨r, hr, rfl⟩ | ⟨r, hr, rfl⟩
    · exact right_head ha r hr
    · cases hr
  | case3 b m ih =>
    intro ha hb
    refine List.pairwise_cons.2 ⟨fun y hy => ?_, ih ha (right_tail hb)⟩
    rcases (mem _ _ y).1 hy with ⟨r, hr, rfl⟩ | ⟨r, hr, rfl⟩
    · cases hr
    · exact right_head hb r hr
  | case4 a l b m h ih =>
    intro ha hb
    refine List.pairwise_cons.2 ⟨fun y hy => ?_, ih (right_tail ha) hb⟩
    rcases (mem _ _ y).1 hy with ⟨r, hr, rfl⟩ | ⟨r, hr, rfl⟩
    · exact right_head ha r hr
    · rcases List.mem_cons.1 hr with rfl | hr
      · exact h
      · exact sLt_trans h (right_head hb r hr)
  | case5 a l b m h h2 ih =>
    intro ha hb
    refine List.pairwise_cons.2 ⟨fun y hy => ?_, ih ha (right_tail hb)⟩
    rcases (mem _ _ y).1 hy with ⟨r, hr, rfl⟩ | ⟨r, hr, rfl⟩
    · rcases List.mem_cons.1 hr with rfl | hr
      · exact h2
      · exact sLt_trans h2 (right_head ha r hr)
    · exact right_head hb r hr
  | case6 a l b m h h2 ih =>
    intro ha hb
    have e : a.key = b.key := sLt_eq (by simpa using h) (by simpa using h2)
    refine List.pairwise_cons.2 ⟨fun y hy => ?_, ih (right_tail ha) (right_tail hb)⟩
    rcases (mem _ _ y).1 hy with ⟨r, hr, rfl⟩ | ⟨r, hr, rfl⟩
    · exact right_head ha r hr
    · rw [e]; exact right_head hb r hr
theorem keys_mk {a b : List Res} (ha : Right a) (hb : Right b) : keysL a b = mkL a b := ss_ext (ss_keys a b) (ss_mk a b ha hb) fun x => by rw [keysL_mem, mkL_mem]

theorem flat_congr {α β : Type} {f g : α → List β} {l : List α} (h : ∀ x ∈ l, f x = g x) : l.flatMap f = l.flatMap g := by
  induction l with
  | nil => rfl
  | cons a l ih => rw [List.flatMap_cons, List.flatMap_cons, h a (by simp), ih fun x hx => h x (by simp [hx])]

theorem diff_mk (a b : List Res) : Right a → Right b → diffL a b = (mkL a b).flatMap (stepR a b) := by
  have hss := ss_mk
  fun_induction mkL a b with
  | case1 => intro _ _; rw [dL_nil]; rfl
  | case2 a l ih =>
    intro ha hb
    have hs := hss (a :: l) [] ha hb
    rw [mkL] at hs
    rw [dL_cn, List.flatMap_cons, ih (right_tail ha) hb]
    rw [show stepR (a :: l) [] a.key = [⟨0, a⟩] by simp [stepR, getR_hd rfl, getR_no (l := []) (k := a.key) (by simp)]]
    rw [List.singleton_append, flat_congr fun x hx => ?_]
    simp only [stepR]
    rw [getR_ne (ne_lt ((List.pairwise_cons.1 hs).1 x hx))]
  | case3 b m ih =>
    intro ha hb
    have hs := hss [] (b :: m) ha hb
    rw [mkL] at hs
    rw [dL_nc, List.flatMap_cons, ih ha (right_tail hb)]
    rw [show stepR [] (b :: m) b.key = [⟨1, b⟩] by simp [stepR, getR_hd rfl, getR_no (l := []) (k := b.key) (by simp)]]
    rw [List.singleton_append, flat_congr fun x hx => ?_]
    simp only [stepR]
    rw [getR_ne (ne_lt ((List.pairwise_cons.1 hs).1 x hx))]
  | case4 a l b m h ih =>
    intro ha hb
    have hs := hss (a :: l) (b :: m) ha hb
    rw [mkL, if_pos h] at hs
    rw [dL_lt h, List.flatMap_cons, ih (right_tail ha) hb]
    have hno : getR (b :: m) a.key = none := getR_no fun r hr => by
      rcases List.mem_cons.1 hr with rfl | hr
      · exact ne_gt h
      · exact ne_gt (sLt_trans h (right_head hb r hr))
    rw [show stepR (a :: l) (b :: m) a.key = [⟨0, a⟩] by simp [stepR, getR_hd rfl, hno]]
    rw [List.singleton_append, flat_congr fun x hx => ?_]
    simp only [stepR]
    rw [getR_ne (x := a) (ne_lt ((List.pairwise_cons.1 hs).1 x hx))]
  | case5 a l b m h h2 ih =>
    intro ha hb
    have hs := hss (a :: l) (b :: m) ha hb
    rw [mkL, if_neg h, if_pos h2] at hs
    rw [dL_gt (by simpa using h) h2, List.flatMap_cons, ih ha (right_tail hb)]
    have hno : getR (a :: l) b.key = none := getR_no fun r hr => by
      rcases List.mem_cons.1 hr with rfl | hr
      · exact ne_gt h2
      · exact ne_gt (sLt_trans h2 (right_head ha r hr))
    rw [show stepR (a :: l) (b :: m) b.key = [⟨1, b⟩] by simp [stepR, getR_hd rfl, hno]]
    rw [List.singleton_append, flat_congr fun x hx => ?_]
    simp only [stepR]
    rw [getR_ne (x := b) (ne_lt ((List.pairwise_cons.1 hs).1 x hx))]
  | case6 a l b m h h2 ih =>
    intro ha hb
    have e : a.key = b.key := sLt_eq (by simpa using h) (by simpa using h2)
    have hs := hss (a :: l) (b :: m) ha hb
    rw [mkL, if_neg h, if_neg h2] at hs
    rw [dL_eq (by simpa using h) (by simpa using h2), List.flatMap_cons, ih (right_tail ha) (right_tail hb)]
    rw [show stepR (a :: l) (b :: m) a.key = un2 a b by simp [stepR, getR_hd rfl, getR_hd e.symm]]
    rw [flat_congr fun x hx => ?_]
    simp only [stepR]
    have hx := ne_lt ((List.pairwise_cons.1 hs).1 x hx)
    rw [getR_ne (x := a) hx, getR_ne (x := b) (e ▸ hx)]
theorem diff_ref {a b : List Res} (ha : Right a) (hb : Right b) : diffL a b = refL a b := by
  unfold refL; rw [keys_mk ha hb]; exact diff_mk a b ha hb
end Go.Proofs.Y1
