import Derived.Test.YtpdgnhhjaaencaaGmMa
import Derived.Test.YtpdgnhhjaaencaaGmM9
import Derived.Test.YtpdgnhhjaaencaaGmDVf10
set_option linter.all false
set_option linter.unusedVariables false
set_option linter.unusedSimpArgs false
set_option linter.all false
set_option maxRecDepth 8000
set_option maxHeartbeats 1000000
namespace Go.Proofs.Y5
open Go.Gm
namespace Au
theorem less {a b : ByteArray} (h : a.size ≤ 4000000000) : f17 a b = some (sLt a b) := by
  have key : ∀ (k : Nat) (i : Nat), i ≤ a.size → a.size - i ≤ k → (∀ j, j < i → (bl a)[j]? = (bl b)[j]?) → (loopO (f17_s1 a b) (i : Int)).bind (fun y => match y with | .inl y => some y | .inr _ => some (decide ((a.size : Int) < (b.size : Int)))) = some (decide ((bl a).drop i < (bl b).drop i)) := by
    intro k
    induction k with
    | zero =>
      intro i hi hk hp
      have hia : i = a.size := by omega
      have hs : f17_s1 a b (i : Int) = some (.inr (.inr ())) := by
        unfold f17_s1; rw [if_neg (by omega)]
      rw [loopO_done hs]
      simp only [Option.bind_some]
      rw [List.drop_of_length_le (l := bl a) (by rw [← size_bl]; omega)]
      by_cases hb : a.size < b.size
      · have : (bl b).drop i ≠ [] := by rw [ne_eq, List.drop_eq_nil_iff, ← size_bl]; omega
        obtain ⟨x, l, e⟩ := List.exists_cons_of_ne_nil this
        rw [e]; simp; omega
      · rw [List.drop_of_length_le (l := bl b) (by rw [← size_bl]; omega)]; simp; omega
    | succ k ih =>
      intro i hi hk hp
      by_cases hia : i < a.size
      · by_cases hib : i < b.size
        · have ha : i < (bl a).length := by rw [← size_bl]; exact hia
          have hb : i < (bl b).length := by rw [← size_bl]; exact hib
          by_cases he : (bl a)[i] = (bl b)[i]
          · have hs : f17_s1 a b (i : Int) = some (.inl ((i + 1 : Nat) : Int)) := by
              unfold f17_s1
              rw [if_pos (by omega), if_pos (by omega), ixN ha, ixN hb]
              simp only [Option.bind_some]
              rw [if_pos (by rw [he]), wrapN (by omega)]
            rw [loopO_next hs, ih (i + 1) (by omega) (by omega) (fun j hj => by
              by_cases e : j = i
              · subst e; rw [List.getElem?_eq_getElem ha, List.getElem?_eq_getElem hb, he]
              · exact hp j (by omega))]
            rw [List.drop_eq_getElem_cons ha, List.drop_eq_getElem_cons hb, he]
            simp only [List.cons_lt_cons_iff, Nat.lt_irrefl, true_and, UInt8.lt_iff_toNat_lt, false_or]
          · have hs : f17_s1 a b (i : Int) = some (.inr (.inl (decide (((bl a)[i]).toNat < ((bl b)[i]).toNat)))) := by
              unfold f17_s1
              rw [if_pos (by omega), if_pos (by omega), ixN ha, ixN hb]
              simp only [Option.bind_some]
              rw [if_neg (fun h => he (UInt8.toNat_inj.1 (by omega)))]
              simp
            rw [loopO_done hs]
            simp only [Option.bind_some]
            rw [List.drop_eq_getElem_cons ha, List.drop_eq_getElem_cons hb]
            simp only [List.cons_lt_cons_iff, he, false_and, or_false, UInt8.lt_iff_toNat_lt]
        · have hs : f17_s1 a b (i : Int) = some (.inr (.inr ())) := by
            unfold f17_s1; rw [if_pos (by omega), if_neg (by omega)]
          rw [loopO_done hs]
          simp only [Option.bind_some]
          rw [List.drop_of_length_le (l := bl b) (by rw [← size_bl]; omega)]
          simp; omega
      · have hs : f17_s1 a b (i : Int) = some (.inr (.inr ())) := by
          unfold f17_s1; rw [if_neg (by omega)]
        rw [loopO_done hs]
        simp only [Option.bind_some]
        rw [List.drop_of_length_le (l := bl a) (by rw [← size_bl]; omega)]
        by_cases hb : a.size < b.size
        · have : (bl b).drop i ≠ [] := by rw [ne_eq, List.drop_eq_nil_iff, ← size_bl]; omega
          obtain ⟨x, l, e⟩ := List.exists_cons_of_ne_nil this
          rw [e]; simp; omega
        · rw [List.drop_of_length_le (l := bl b) (by rw [← size_bl]; omega)]; simp; omega
  have := key a.size 0 (by omega) (by omega) (fun j hj => absurd hj (by omega))
  simp only [List.drop_zero] at this
  unfold f17
  refine this.trans (congrArg some ?_)
  by_cases h : sLt a b = true
  · rw [h, decide_eq_true ((sLt_iff _ _).1 h)]
  · rw [Bool.not_eq_true] at h
    rw [h, decide_eq_false (fun q => by rw [(sLt_iff _ _).2 q] at h; cases h)]
/-- How two values stand. -/
def ord (v w : Val) : Int := if v.Kind = 0 then (if w.Kind = 0 then (if v.Int < w.Int then -1 else if w.Int < v.Int then 1 else 0) else -1) else if w.Kind = 0 then 1 else cmpS v.Text w.Text
theorem bl_tri (a b : ByteArray) (h1 : sLt a b = false) (h2 : sLt b a = false) : a = b := by
  have h1' : ¬ bl a < bl b := fun h => by rw [(sLt_iff a b).2 h] at h1; cases h1
  have h2' : ¬ bl b < bl a := fun h => by rw [(sLt_iff b a).2 h] at h2; cases h2
  exact bl_inj.1 (List.le_antisymm (List.not_lt.1 h2') (List.not_lt.1 h1'))
theorem sLt_self (a : ByteArray) : sLt a a = false := by
  cases h : sLt a a with
  | false => rfl
  | true => have := sLt_asym h; rw [h] at this; cases this
theorem ltI_ne {x y : Item} (h : ltI x y = true) : x.Key ≠ y.Key := fun e => by
  unfold ltI at h; rw [e, sLt_self] at h; cases h
theorem ltI_trans {x y z : Item} (h : ltI x y = true) (k : ltI y z = true) : ltI x z = true := swoI.lt_le h (swoI.asym k)
def cls (xs : List Item) (k : ByteArray) : List Item := xs.filter fun x => decide (x.Key = k)
def mkP (c : List Item) : List Part := c.foldl (fun p x => p ++ x.Parts) []
def mkO' (c : List Item) : List Int := c.foldl (fun o x => uni o x.Offs) []
def mkI (xs : List Item) (k : ByteArray) : Item := ⟨k, mkP (cls xs k), mkO' (cls xs k)⟩
theorem cls_snoc (xs : List Item) (it : Item) (k : ByteArray) : cls (xs ++ [it]) k = if it.Key = k then cls xs k ++ [it] else cls xs k := by
  unfold cls
  rw [List.filter_append]
  split
  · rename_i h; simp [h]
  · rename_i h; simp [h]
theorem mkI_other {xs : List Item} {it : Item} {k : ByteArray} (h : it.Key ≠ k) : mkI (xs ++ [it]) k = mkI xs k := by
  unfold mkI; rw [cls_snoc, if_neg h]
theorem mkI_same (xs : List Item) (it : Item) : mkI (xs ++ [it]) it.Key = ⟨it.Key, (mkI xs it.Key).Parts ++ it.Parts, uni (mkI xs it.Key).Offs it.Offs⟩ := by
  unfold mkI; rw [cls_snoc, if_pos rfl]; simp [mkP, mkO']
theorem cls_none {xs : List Item} {k : ByteArray} (h : ∀ x ∈ xs, x.Key ≠ k) : cls xs k = [] := by
  unfold cls; rw [List.filter_eq_nil_iff]; intro x hx; simp [h x hx]
structure Rep (S xs : List Item) : Prop where
  ord : S.Pairwise fun x y => ltI x y = true
  val : ∀ y ∈ S, y = mkI xs y.Key
  key : ∀ k, (∃ y ∈ S, y.Key = k) ↔ ∃ x ∈ xs, x.Key = k
theorem Rep.nil : Rep [] [] := ⟨List.Pairwise.nil, by simp, by simp⟩
theorem Rep.same {A B xs : List Item} {y it : Item} (h : Rep (A ++ y :: B) xs) (hk : y.Key = it.Key) : Rep (A ++ ⟨y.Key, y.Parts ++ it.Parts, uni y.Offs it.Offs⟩ :: B) (xs ++ [it]) := by
  have ho := List.pairwise_append.1 h.ord
  have ho2 := List.pairwise_cons.1 ho.2.1
  have hlt : ∀ (a : Item) (p : List Part) (o : List Int), ltI a ⟨y.Key, p, o⟩ = ltI a y := fun _ _ _ => rfl
  have hlt2 : ∀ (a : Item) (p : List Part) (o : List Int), ltI ⟨y.Key, p, o⟩ a = ltI y a := fun _ _ _ => rfl
  refine ⟨?_, fun z hz => ?_, fun k => ?_⟩
  · refine List.pairwise_append.2 ⟨ho.1, List.pairwise_cons.2 ⟨fun b hb => by rw [hlt2]; exact ho2.1 b hb, ho2.2⟩, fun a ha b hb => ?_⟩
    rcases List.mem_cons.1 hb with rfl | hb
    · rw [hlt]; exact ho.2.2 a ha y List.mem_cons_self
    · exact ho.2.2 a ha b (List.mem_cons_of_mem _ hb)
  · have other : z ∈ A ++ y :: B → z.Key ≠ it.Key → z = mkI (xs ++ [it]) z.Key := fun hz hne => by rw [mkI_other (Ne.symm hne)]; exact h.val z hz
    rcases List.mem_append.1 hz with hz | hz
    · exact other (List.mem_append_left _ hz) (hk ▸ ltI_ne (ho.2.2 z hz y List.mem_cons_self))
    · rcases List.mem_cons.1 hz with rfl | hz
      · have hy := h.val y (by simp)
        simp only
        rw [hk, mkI_same, ← hk, ← hy]
      · exact other (by simp [hz]) (hk ▸ (ltI_ne (ho2.1 z hz)).symm)
  · have hkk := h.key k
    simp only [List.mem_append, List.mem_cons, List.not_mem_nil, or_false] at hkk ⊢
    constructor
    · rintro ⟨z, hz, rfl⟩
      rcases hz with hz | rfl | hz
      · obtain ⟨x, hx, e⟩ := hkk.1 ⟨z, .inl hz, rfl⟩; exact ⟨x, .inl hx, e⟩
      · exact ⟨it, .inr rfl, hk.symm⟩
      · obtain ⟨x, hx, e⟩ := hkk.1 ⟨z, .inr (.inr hz), rfl⟩; exact ⟨x, .inl hx, e⟩
    · rintro ⟨x, hx | rfl, rfl⟩
      · obtain ⟨z, hz, e⟩ := hkk.2 ⟨x, hx, rfl⟩
        rcases hz with hz | rfl | hz
        · exact ⟨z, .inl hz, e⟩
        · exact ⟨_, .inr (.inl rfl), e⟩
        · exact ⟨z, .inr (.inr hz), e⟩
      · exact ⟨_, .inr (.inl rfl), hk⟩
theorem Rep.fresh {A B xs : List Item} {it : Item} (h : Rep (A ++ B) xs) (hA : ∀ a ∈ A, ltI a it = true) (hB : ∀ b ∈ B, ltI it b = true) : Rep (A ++ ⟨it.Key, it.Parts, uni [] it.Offs⟩ :: B) (xs ++ [it]) := by
  have ho := List.pairwise_append.1 h.ord
  have hno : ∀ x ∈ xs, x.Key ≠ it.Key := fun x hx e => by
    obtain ⟨y, hy, e2⟩ := (h.key it.Key).2 ⟨x, hx, e⟩
    rcases List.mem_append.1 hy with hy | hy
    · exact ltI_ne (hA y hy) e2
    · exact ltI_ne (hB y hy) e2.symm
  refine ⟨?_, fun z hz => ?_, fun k => ?_⟩
  · refine List.pairwise_append.2 ⟨ho.1, List.pairwise_cons.2 ⟨fun b hb => hB b hb, ho.2.1⟩, fun a ha b hb => ?_⟩
    rcases List.mem_cons.1 hb with rfl | hb
    · exact hA a ha
    · exact ho.2.2 a ha b hb
  · have other : z ∈ A ++ B → z.Key ≠ it.Key → z = mkI (xs ++ [it]) z.Key := fun hz hne => by rw [mkI_other (Ne.symm hne)]; exact h.val z hz
    rcases List.mem_append.1 hz with hz | hz
    · exact other (List.mem_append_left _ hz) (ltI_ne (hA z hz))
    · rcases List.mem_cons.1 hz with rfl | hz
      · simp only
        rw [mkI_same]
        simp [mkI, cls_none hno, mkP, mkO']
      · exact other (List.mem_append_right _ hz) (ltI_ne (hB z hz)).symm
  · have hkk := h.key k
    simp only [List.mem_append, List.mem_cons, List.not_mem_nil, or_false] at hkk ⊢
    constructor
    · rintro ⟨z, hz, rfl⟩
      rcases hz with hz | rfl | hz
      · obtain ⟨x, hx, e⟩ := hkk.1 ⟨z, .inl hz, rfl⟩; exact ⟨x, .inl hx, e⟩
      · exact ⟨it, .inr rfl, rfl⟩
      · obtain ⟨x, hx, e⟩ := hkk.1 ⟨z, .inr hz, rfl⟩; exact ⟨x, .inl hx, e⟩
    · rintro ⟨x, hx | rfl, rfl⟩
      · obtain ⟨z, hz, e⟩ := hkk.2 ⟨x, hx, rfl⟩
        rcases hz with hz | hz
        · exact ⟨z, .inl hz, e⟩
        · exact ⟨z, .inr (.inr hz), e⟩
      · exact ⟨_, .inr (.inl rfl), rfl⟩
theorem cls_sf {xs xs' : List Item} (h : SF ltI xs xs') (k : ByteArray) : cls xs k = cls xs' k := by
  have e : (fun x : Item => decide (x.Key = k)) = eqv ltI ⟨k, [], []⟩ := by
    funext x
    unfold eqv ltI
    simp only
    by_cases hk : x.Key = k
    · subst hk; simp [sLt_self]
    · cases h1 : sLt k x.Key <;> cases h2 : sLt x.Key k <;> simp [hk]
      exact hk (bl_tri _ _ h2 h1)
  unfold cls
  rw [e]; exact h _
theorem Rep.sf {S xs xs' : List Item} (h : Rep S xs) (k : SF ltI xs xs') : Rep S xs' := by
  refine ⟨h.ord, fun y hy => ?_, fun q => (h.key q).trans ⟨fun ⟨x, hx, e⟩ => ⟨x, k.mem swoI hx, e⟩, fun ⟨x, hx, e⟩ => ⟨x, k.symm.mem swoI hx, e⟩⟩⟩
  have : mkI xs' y.Key = mkI xs y.Key := by unfold mkI; rw [cls_sf k]
  rw [this]; exact h.val y hy
theorem ord_uniq : ∀ {S S' : List Item}, (S.Pairwise fun x y => ltI x y = true) → (S'.Pairwise fun x y => ltI x y = true) → (∀ y, y ∈ S ↔ y ∈ S') → S = S'
  | [], [], _, _, _ => rfl
  | [], b :: m, _, _, h => by have := (h b).2 (by simp); cases this
  | a :: l, [], _, _, h => by have := (h a).1 (by simp); cases this
  | a :: l, b :: m, hl, hm, h => by
    have hl' := List.pairwise_cons.1 hl
    have hm' := List.pairwise_cons.1 hm
    have hab : a = b := by
      rcases List.mem_cons.1 ((h a).1 (by simp)) with e | h1
      · exact e
      · rcases List.mem_cons.1 ((h b).2 (by simp)) with e | h2
        · exact e.symm
        · have g1 := hm'.1 a h1
          have g2 := swoI.asym (hl'.1 b h2)
          rw [g1] at g2; cases g2
    subst hab
    rw [ord_uniq hl'.2 hm'.2 fun x => ?_]
    constructor
    · intro hx
      rcases List.mem_cons.1 ((h x).1 (List.mem_cons_of_mem _ hx)) with e | hx'
      · exact absurd (congrArg Item.Key e) (ltI_ne (hl'.1 x hx)).symm
      · exact hx'
    · intro hx
      rcases List.mem_cons.1 ((h x).2 (List.mem_cons_of_mem _ hx)) with e | hx'
      · exact absurd (congrArg Item.Key e) (ltI_ne (hm'.1 x hx)).symm
      · exact hx'
theorem Rep.uniq {S S' xs : List Item} (h : Rep S xs) (h' : Rep S' xs) : S = S' := by
  have one : ∀ {S S' : List Item}, Rep S xs → Rep S' xs → ∀ y ∈ S, y ∈ S' := fun {S S'} h h' y hy => by
    obtain ⟨z, hz, e⟩ := (h'.key y.Key).2 ((h.key y.Key).1 ⟨y, hy, rfl⟩)
    rw [h.val y hy, ← e, ← h'.val z hz]; exact hz
  exact ord_uniq h.ord h'.ord fun y => ⟨one h h' y, one h' h y⟩
/-- The merge's way to it. -/
theorem fold_rep : ∀ (n : Nat) (M : List Item), M.length = n → Srt ltI M → Rep (aout (M.foldl astepP ([], none)).1 (M.foldl astepP ([], none)).2) M ∧
    ((M.foldl astepP ([], none)).2 = none → M = [] ∧ (M.foldl astepP ([], none)).1 = []) := by
  intro n
  induction n with
  | zero => intro M hM _; obtain rfl := List.eq_nil_of_length_eq_zero hM; exact ⟨Rep.nil, fun _ => ⟨rfl, rfl⟩⟩
  | succ n ih =>
    intro M hM hs
    rcases List.eq_nil_or_concat M with rfl | ⟨M1, it, rfl⟩
    · simp at hM
    · rw [List.concat_eq_append] at *
      obtain ⟨h1, h2⟩ := ih M1 (by simpa using hM) hs.left
      have hle : ∀ x ∈ M1, ltI it x = false := fun x hx => hs.cross x hx it (by simp)
      rw [List.foldl_append]
      simp only [List.foldl_cons, List.foldl_nil]
      generalize M1.foldl astepP ([], none) = s at h1 h2
      obtain ⟨d, t⟩ := s
      cases t with
      | none =>
        obtain ⟨rfl, hd⟩ := h2 rfl
        simp only at hd; subst hd
        refine ⟨?_, fun h => by simp [astepP] at h⟩
        exact Rep.fresh (A := []) (B := []) Rep.nil (by simp) (by simp)
      | some y =>
        simp only [aout] at h1
        have hyle : ltI it y = false := by
          obtain ⟨x, hx, e⟩ := (h1.key y.Key).1 ⟨y, by simp, rfl⟩
          have := hle x hx
          unfold ltI at this ⊢
          rwa [e] at this
        have ho := List.pairwise_append.1 h1.ord
        by_cases c : y.Key = it.Key
        · simp only [astepP, if_pos c, aout]
          exact ⟨Rep.same (A := d) (B := []) h1 c, fun h => by simp at h⟩
        · simp only [astepP, if_neg c, aout]
          have hy : ltI y it = true := by
            cases hq : ltI y it with
            | true => rfl
            | false => exact absurd (bl_tri _ _ hq hyle) c
          refine ⟨Rep.fresh (A := d ++ [y]) (B := []) (by simpa using h1) (fun a ha => ?_) (by simp), fun h => by simp at h⟩
          rcases List.mem_append.1 ha with ha | ha
          · exact ltI_trans (ho.2.2 a ha y (by simp)) hy
          · simp at ha; rw [ha]; exact hy
end Au
end Go.Proofs.Y5

set_option linter.all false
set_option maxRecDepth 8000
set_option maxHeartbeats 1000000
namespace Go.Proofs.Y5
open Go.Gm
namespace Au
theorem foldU : ∀ (c : List Item) (o : List Int), (∀ x ∈ c, Small x) → (c.foldl (fun o x => uni o x.Offs) o).length ≤ o.length + 1500 * c.length
  | [], o, _ => by simp
  | x :: c, o, h => by
    have h1 := foldU c (uni o x.Offs) fun y hy => h y (List.mem_cons_of_mem _ hy)
    have h2 := uni_len o x.Offs
    have h3 := (h x List.mem_cons_self).2.1
    simp only [List.foldl_cons, List.length_cons]; omega
theorem foldP : ∀ (c : List Item) (p : List Part), (∀ x ∈ c, Ok x) → (∀ q ∈ p, q.Acc.Text.size ≤ 2000000) → (c.foldl (fun p x => p ++ x.Parts) p).length ≤ p.length + 1500 * c.length ∧ ∀ q ∈ c.foldl (fun p x => p ++ x.Parts) p, q.Acc.Text.size ≤ 2000000
  | [], p, _, hp => ⟨by simp, hp⟩
  | x :: c, p, h, hp => by
    obtain ⟨⟨_, _, i3⟩, _, ⟨_, i4⟩, _⟩ := h x List.mem_cons_self
    obtain ⟨h1, h2⟩ := foldP c (p ++ x.Parts) (fun y hy => h y (List.mem_cons_of_mem _ hy)) fun q hq => by
      rcases List.mem_append.1 hq with hq | hq
      · exact hp q hq
      · exact i4 q hq
    refine ⟨?_, h2⟩
    simp only [List.foldl_cons, List.length_cons]
    rw [List.length_append] at h1; omega
theorem foldR : ∀ (c : List Item) (o : List Int), Ris o → Ris (c.foldl (fun o x => uni o x.Offs) o)
  | [], o, h => h
  | x :: c, o, _ => foldR c (uni o x.Offs) (uni_spec o x.Offs).1
theorem Rep.bk {S xs : List Item} (h : Rep S xs) (ho : ∀ x ∈ xs, Ok x) : ∀ y ∈ S, Bk xs.length y ∧ Ris y.Offs := fun y hy => by
  obtain ⟨x, hx, e⟩ := (h.key y.Key).1 ⟨y, hy, rfl⟩
  have hc : ∀ z ∈ cls xs y.Key, Ok z := fun z hz => ho z ((List.mem_filter.1 hz).1)
  have hl : (cls xs y.Key).length ≤ xs.length := List.length_filter_le _ _
  have h1 := foldU (cls xs y.Key) [] fun z hz => (hc z hz).1
  obtain ⟨h2, h3⟩ := foldP (cls xs y.Key) [] hc (by simp)
  simp only [List.length_nil] at h1 h2
  have hk : y.Key.size ≤ 1500 := by rw [← e]; exact (ho x hx).1.1
  have hy2 := h.val y hy
  have hb : Bk xs.length (mkI xs y.Key) := ⟨hk, by simp only [mkI, mkP]; omega, by simp only [mkI, mkO']; omega, h3⟩
  have hr : Ris (mkI xs y.Key).Offs := foldR _ [] List.Pairwise.nil
  rw [← hy2] at hb hr
  exact ⟨hb, hr⟩
theorem find_eq {out : List Item} {it : Item} (hl : out.length ≤ 1000) (hs : ∀ y ∈ out, y.Key.size ≤ 1500) : ∃ n : Nat, loopO (f10_s18 out it) 0 = some (n : Int) ∧ n ≤ out.length ∧ (∀ a ∈ out.take n, ltI a it = true) ∧ ∀ h : n < out.length, ltI out[n] it = false := by
  obtain ⟨r, h1, n, rfl, h2⟩ := loopO_of (step := f10_s18 out it) (I := fun k s => ∃ n : Nat, s = (n : Int) ∧ n ≤ out.length ∧ (∀ a ∈ out.take n, ltI a it = true) ∧ k = out.length - n)
    (Q := fun r => ∃ n : Nat, r = (n : Int) ∧ n ≤ out.length ∧ (∀ a ∈ out.take n, ltI a it = true) ∧ ∀ h : n < out.length, ltI out[n] it = false) (by
    rintro k _ ⟨n, rfl, hn, ha, hk⟩
    by_cases c : n < out.length
    · have hle := less (a := out[n].Key) (b := it.Key) (by have := hs _ (List.getElem_mem c); omega)
      have hst : f10_s18 out it (n : Int) = if sLt out[n].Key it.Key = true then some (.inl ((n + 1 : Nat) : Int)) else some (.inr (n : Int)) := by
        simp only [f10_s18, if_pos (show (n : Int) < ((out.length : Nat) : Int) by omega), ixN c, Option.bind_some, hle, wrapN (show n ≤ 10000000000 by omega)]
      by_cases c2 : sLt out[n].Key it.Key = true
      · refine .inl ⟨_, out.length - (n + 1), by rw [hst, if_pos c2], by omega, n + 1, rfl, by omega, fun a h => ?_, rfl⟩
        rw [List.take_succ_eq_append_getElem c] at h
        rcases List.mem_append.1 h with h | h
        · exact ha a h
        · simp at h; rw [h]; exact c2
      · refine .inr ⟨_, by rw [hst, if_neg c2], n, rfl, hn, ha, fun h => ?_⟩
        cases hq : ltI out[n] it with
        | false => rfl
        | true => exact absurd hq c2
    · refine .inr ⟨(n : Int), ?_, n, rfl, hn, ha, fun h => absurd h c⟩
      simp only [f10_s18, if_neg (show ¬ (n : Int) < ((out.length : Nat) : Int) by omega)]) (k := out.length) ⟨0, rfl, by omega, by simp, rfl⟩
  exact ⟨n, h1, h2⟩
theorem j6_eq {out rest : List Item} {k : Nat} {it : Item} {n : Nat} {key : ByteArray} {parts : List Part} {offs : List Int} (hl : out.length ≤ 1000) (hk : k ≤ 1000) (hn : n ≤ out.length) (hr : rest.length ≤ 1000) (hp : parts.length ≤ 1000000) (ho : offs.length ≤ 500000) (hro : Ris offs) (hi : Ok it) (hri : Ris it.Offs) :
    f10_j6 out (k : Int) it (n : Int) (rest, key, parts, offs) = some (.inl (out.take n ++ ⟨key, parts ++ it.Parts, uni offs it.Offs⟩ :: rest, ((k + 1 : Nat) : Int))) := by
  obtain ⟨⟨_, i2, i3⟩, _⟩ := hi
  have hcut : cutO? out 0 (n : Int) = some (out.take n) := cutO?_some.2 ⟨⟨by omega, by omega, by omega⟩, by simp⟩
  have ht : (out.take n).length ≤ 1000 := by rw [List.length_take]; omega
  unfold f10_j6
  simp only
  rw [appO_ok' (by simp) (by omega), Option.bind_some, List.nil_append, appO_ok' (by omega) (by omega), Option.bind_some, both18 hro hri (by omega) (by omega), Option.bind_some, hcut, Option.bind_some, appO_ok' (by simp) (by omega), Option.bind_some, List.nil_append, appO_ok' (by omega) (by simp), Option.bind_some, appO_ok' (by simp; omega) (by omega), Option.bind_some, wrapN (by omega)]
  simp
theorem refins_eq {L : List (List Item)} {i k : Nat} {out xs : List Item} (hi : i < L.length) (hk : k < L[i].length) (hkl : k ≤ 1000) (h : Rep out xs) (hol : out.length ≤ xs.length) (hx : xs.length ≤ 300) (ho : ∀ x ∈ xs, Ok x) (hit : Ok L[i][k]) (hri : Ris L[i][k].Offs) :
    ∃ out', f10_s12 L (i : Int) (out, (k : Int)) = some (.inl (out', ((k + 1 : Nat) : Int))) ∧ Rep out' (xs ++ [L[i][k]]) ∧ out'.length ≤ xs.length + 1 := by
  have hbk := h.bk ho
  obtain ⟨n, f1, f2, f3, f4⟩ := find_eq (out := out) (it := L[i][k]) (by omega) fun y hy => (hbk y hy).1.1
  have hcut : cutO? out (n : Int) (out.length : Int) = some (out.drop n) := cutO?_some.2 ⟨⟨by omega, by omega, by omega⟩, by rw [Int.toNat_natCast, Int.toNat_natCast]; exact List.take_of_length_le (by rw [List.length_drop]; omega)⟩
  have hsplit : out = out.take n ++ out.drop n := (List.take_append_drop n out).symm
  have hord := h.ord
  rw [hsplit] at hord
  have hdl : (out.drop n).length ≤ 1000 := by rw [List.length_drop]; omega
  have htl : (out.take n).length + (out.drop n).length = out.length := by rw [← List.length_append, ← hsplit]
  have fresh : (∀ b ∈ out.drop n, ltI L[i][k] b = true) → f10_s12 L (i : Int) (out, (k : Int)) = f10_j6 out (k : Int) L[i][k] (n : Int) (out.drop n, L[i][k].Key, [], []) →
      ∃ out', f10_s12 L (i : Int) (out, (k : Int)) = some (.inl (out', ((k + 1 : Nat) : Int))) ∧ Rep out' (xs ++ [L[i][k]]) ∧ out'.length ≤ xs.length + 1 := fun hB he => by
    have hj := j6_eq (out := out) (rest := out.drop n) (k := k) (it := L[i][k]) (n := n) (key := L[i][k].Key) (parts := []) (offs := []) (by omega) (by omega) f2 hdl (by simp) (by simp) List.Pairwise.nil hit hri
    rw [List.nil_append] at hj
    refine ⟨_, he.trans hj, Rep.fresh (by rw [← hsplit]; exact h) f3 hB, ?_⟩
    simp only [List.length_append, List.length_cons]; omega
  by_cases c : n < out.length
  · have hd : out.drop n = out[n] :: out.drop (n + 1) := List.drop_eq_getElem_cons c
    by_cases c2 : out[n].Key = L[i][k].Key
    · have hcut2 : cutO? out ((n + 1 : Nat) : Int) (out.length : Int) = some (out.drop (n + 1)) := cutO?_some.2 ⟨⟨by omega, by omega, by omega⟩, by rw [Int.toNat_natCast, Int.toNat_natCast]; exact List.take_of_length_le (by rw [List.length_drop]; omega)⟩
      obtain ⟨⟨_, b2, b3, _⟩, b5⟩ := hbk out[n] (List.getElem_mem c)
      have hj := j6_eq (out := out) (rest := out.drop (n + 1)) (k := k) (it := L[i][k]) (n := n) (key := out[n].Key) (parts := out[n].Parts) (offs := out[n].Offs) (by omega) (by omega) f2 (by rw [List.length_drop]; omega) (by omega) (by omega) b5 hit hri
      refine ⟨_, ?_, Rep.same (y := out[n]) (by rw [← hd, ← hsplit]; exact h) c2, ?_⟩
      · rw [← hj]
        simp only [f10_s12, ixN hi, Option.bind_some, if_pos (show (k : Int) < ((L[i].length : Nat) : Int) by omega), ixN hk, f1, hcut, if_pos (show (n : Int) < ((out.length : Nat) : Int) by omega), ixN c, if_pos c2, wrapN (show n ≤ 10000000000 by omega), hcut2]
      · simp only [List.length_append, List.length_cons, List.length_take, List.length_drop]; omega
    · refine fresh (fun b hb => ?_) ?_
      · have hlt : ltI L[i][k] out[n] = true := by
          cases hq : ltI L[i][k] out[n] with
          | true => rfl
          | false => exact absurd (bl_tri _ _ (f4 c) hq) c2
        rw [hd] at hb
        rcases List.mem_cons.1 hb with rfl | hb
        · exact hlt
        · rw [hd] at hord
          exact ltI_trans hlt ((List.pairwise_cons.1 (List.pairwise_append.1 hord).2.1).1 b hb)
      · simp only [f10_s12, ixN hi, Option.bind_some, if_pos (show (k : Int) < ((L[i].length : Nat) : Int) by omega), ixN hk, f1, hcut, if_pos (show (n : Int) < ((out.length : Nat) : Int) by omega), ixN c, if_neg c2]
  · refine fresh (fun b hb => by rw [List.drop_eq_nil_of_le (by omega)] at hb; cases hb) ?_
    simp only [f10_s12, ixN hi, Option.bind_some, if_pos (show (k : Int) < ((L[i].length : Nat) : Int) by omega), ixN hk, f1, hcut, if_neg (show ¬ (n : Int) < ((out.length : Nat) : Int) by omega)]
theorem list_eq {L : List (List Item)} {i : Nat} {out xs : List Item} (hi : i < L.length) (hll : L[i].length ≤ 100) (h : Rep out xs) (hol : out.length ≤ xs.length) (hx : xs.length + L[i].length ≤ 200) (ho : ∀ x ∈ xs, Ok x) (hit : ∀ x ∈ L[i], Ok x ∧ Ris x.Offs) :
    ∃ out', loopO (f10_s12 L (i : Int)) (out, 0) = some out' ∧ Rep out' (xs ++ L[i]) ∧ out'.length ≤ xs.length + L[i].length := by
  refine loopO_of (step := f10_s12 L (i : Int)) (I := fun q s => ∃ (o : List Item) (k : Nat), s = (o, (k : Int)) ∧ k ≤ L[i].length ∧ Rep o (xs ++ L[i].take k) ∧ o.length ≤ xs.length + k ∧ q = L[i].length - k) ?_ (k := L[i].length) ⟨out, 0, rfl, by omega, by simpa using h, by omega, by omega⟩
  rintro q _ ⟨o, k, rfl, hk, hr, hl, hq⟩
  by_cases c : k < L[i].length
  · obtain ⟨a1, a2⟩ := hit _ (List.getElem_mem c)
    have htk : (L[i].take k).length = k := by rw [List.length_take]; omega
    obtain ⟨o', g1, g2, g3⟩ := refins_eq (xs := xs ++ L[i].take k) hi c (by omega) hr (by rw [List.length_append, htk]; exact hl) (by rw [List.length_append, htk]; omega) (fun x hx => by
      rcases List.mem_append.1 hx with hx | hx
      · exact ho x hx
      · exact (hit x (List.mem_of_mem_take hx)).1) a1 a2
    refine .inl ⟨_, L[i].length - (k + 1), g1, by omega, o', k + 1, rfl, by omega, ?_, ?_, rfl⟩
    · rw [List.take_succ_eq_append_getElem c, ← List.append_assoc]; exact g2
    · rw [List.length_append, htk] at g3; omega
  · refine .inr ⟨o, ?_, ?_, by omega⟩
    · simp only [f10_s12, ixN hi, Option.bind_some, if_neg (show ¬ (k : Int) < ((L[i].length : Nat) : Int) by omega)]
    · rw [List.take_of_length_le (by omega)] at hr; exact hr
theorem ref_eq {L : List (List Item)} (hL : L.length ≤ 100) (hll : ∀ l ∈ L, l.length ≤ 100) (hn : L.flatten.length ≤ 200) (ho : ∀ x ∈ L.flatten, Ok x ∧ Ris x.Offs) : ∃ out, f10 L = some out ∧ Rep out L.flatten := by
  obtain ⟨r, h1, h2⟩ := loopO_of (step := f10_s1 L) (I := fun q s => ∃ (o : List Item) (i : Nat), s = (o, (i : Int)) ∧ i ≤ L.length ∧ Rep o (L.take i).flatten ∧ o.length ≤ (L.take i).flatten.length ∧ q = L.length - i) (Q := fun r => Rep r L.flatten) (by
    rintro q _ ⟨o, i, rfl, hi, hr, hl, hq⟩
    by_cases c : i < L.length
    · have hfl : (L.take (i + 1)).flatten = (L.take i).flatten ++ L[i] := by
        rw [List.take_succ_eq_append_getElem c, List.flatten_append, List.flatten_cons, List.flatten_nil, List.append_nil]
      have hsub : ∀ x ∈ (L.take (i + 1)).flatten, x ∈ L.flatten := fun x hx => by
        obtain ⟨l, hl, hx⟩ := List.mem_flatten.1 hx
        exact List.mem_flatten.2 ⟨l, List.mem_of_mem_take hl, hx⟩
      have hlen : (L.take (i + 1)).flatten.length ≤ L.flatten.length := by
        have := congrArg (fun l => (List.flatten l).length) (List.take_append_drop (i + 1) L)
        simp only [List.flatten_append, List.length_append] at this
        omega
      rw [hfl] at hsub hlen
      rw [List.length_append] at hlen
      obtain ⟨o', g1, g2, g3⟩ := list_eq c (hll _ (List.getElem_mem c)) hr hl (by omega) (fun x hx => (ho x (hsub x (List.mem_append_left _ hx))).1) (fun x hx => ho x (hsub x (List.mem_append_right _ hx)))
      refine .inl ⟨(o', ((i + 1 : Nat) : Int)), L.length - (i + 1), ?_, by omega, o', i + 1, rfl, by omega, by rw [hfl]; exact g2, by rw [hfl, List.length_append]; exact g3, rfl⟩
      simp only [f10_s1, if_pos (show (i : Int) < ((L.length : Nat) : Int) by omega), g1, Option.bind_some, wrapN (show i ≤ 10000000000 by omega)]
    · refine .inr ⟨o, ?_, ?_⟩
      · simp only [f10_s1, if_neg (show ¬ (i : Int) < ((L.length : Nat) : Int) by omega)]
      · rw [List.take_of_length_le (by omega)] at hr; exact hr) (k := L.length) (s := ([], ((0 : Nat) : Int))) ⟨[], 0, rfl, by omega, by simpa using Rep.nil, by simp, rfl⟩
  refine ⟨r, ?_, h2⟩
  unfold f10
  rw [show ((0 : Int)) = ((0 : Nat) : Int) from rfl, h1]; rfl
end Au
end Go.Proofs.Y5
