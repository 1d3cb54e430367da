import Derived.Test.YtlonihmeikmpiaaDoorGfDN
import Derived.Test.YtlonihmeikmpiaaDoorGfW1
import Derived.Test.YtlonihmeikmpiaaDoorGfDNf33
import Derived.Test.YtlonihmeikmpiaaDoorGfQT
import Derived.Test.YtlonihmeikmpiaaDoorGfPB
import Derived.Test.YtlonihmeikmpiaaDoorGfBQ
import Derived.Handy
set_option linter.all false
set_option linter.unusedVariables false
set_option linter.unusedSimpArgs false
set_option linter.all false
set_option maxRecDepth 8000
set_option maxHeartbeats 1000000
namespace Go.Proofs.Yd
open Go.Gm Go.RowKit Go.Shelf
namespace Au
theorem bld_same {T e : TypeId} {B b : Nat} {bs : List Value} {w w' : World} (h : Lib.IsBuilderF T e B b bs w) (hs : ∀ k, k < w.heap.size → w'.heap[k]? = w.heap[k]?) : Lib.IsBuilderF T e B b bs w' := by
  have go : ∀ p, Lib.BuilderAtF T e B b p bs w → Lib.BuilderAtF T e B b p bs w' := by
    rintro p ⟨hB, v, hb, ⟨ho1, ho2⟩, hne⟩
    refine ⟨hB, v, (hs _ (Array.getElem?_eq_some_iff.1 hb).1).trans hb, ⟨ho1, ?_⟩, hne⟩
    rcases ho2 with h | ⟨g, cap, cur, fz, h1, h2, h3, h4⟩
    · exact .inl h
    · exact .inr ⟨g, cap, cur, fz, h1, h2, (hs _ (Array.getElem?_eq_some_iff.1 h3).1).trans h3, h4⟩
  exact h.elim (fun x => .inl (go _ x)) (fun x => .inr (go _ x))
theorem tab_below {P : Program} {w W : World} (h : TabH P (fun _ => False) w) (hb : Below w.heap.size w W) : TabH P (fun _ => False) W := fun g cs hg => by
  obtain ⟨h1, h2, c, t, fz, h3, h4⟩ := h g cs hg
  exact ⟨Nat.lt_of_lt_of_le h1 hb.size, h2, c, t, fz, (hb.block g h1).trans h3, h4⟩
def gho {P : Program} (W : World) (h : TabH P (fun _ => False) W) : Ghost P := ⟨W, fun _ => False, fun _ => False, fun _ h => h.elim, 0, fun _ => none, Nat.zero_le _, h⟩
theorem rel_now {m : Nat → Prop} {w W : World} {u : AV} {v : Value} (h : Rel (E0 m w) u v) (hb : Below w.heap.size w W) : Rel (mkE (fun _ => False) (hpL [] []) (fun t => t < 8) (fun _ => none) W) u v := by
  refine h.ext ⟨fun _ (h : False) => h.elim, fun _ _ (h : False) => h.elim, hb.size, fun b h => ?_, fun b _ _ h => ?_, fun b hlt h => ⟨?_, hb.block b hlt⟩⟩
  · obtain ⟨t, o, l, h, _⟩ := h; cases h
  · rcases h with ⟨t, o, l, h, _⟩ | h
    · rw [hpL_nil_ap] at h; cases h
    · exact h
  · rintro ⟨t, o, l, h, _⟩
    rw [hpL_nil_ap] at h; cases h
theorem conc_now {P : Program} {N : Nat} {W : World} (ht : TabH P (fun _ => False) W) {fr : Nat → AV} {a : Act} (hd : a.defers = []) (hs : a.tmps.size = N) (hr : ∀ d, Rel (mkE (fun _ => False) (hpL [] []) (fun t => t < 8) (fun _ => none) W) (fr d) (a.tmps.getD d undef)) : Conc (gho W ht) N ⟨fr, hpL [] [], 8⟩ a W := by
  refine ⟨hd, hs, fun _ => none, ?_, hr⟩
  constructor
  · intro t o h; rw [show (ASt.mk fr (hpL [] []) 8).hp t = none from hpL_nil_ap t] at h; cases h
  · intro t _; rfl
  · intro t l h; cases h
  · intro t t' l l' h; cases h
  · rfl
  · rfl
  · rfl
  · exact Nat.le_refl _
  · intro b _ _; rfl
  · rintro b ⟨t, o, l, h, _⟩; rw [show (ASt.mk fr (hpL [] []) 8).hp t = none from hpL_nil_ap t] at h; cases h
  · intro t l h; cases h
  · intro t h; exact absurd h (Nat.not_lt_zero t)
  · intro t l h; exact absurd h (Nat.not_lt_zero t)
theorem rel_anyF (E : Env) (t : Array Value) : ∀ d, Rel E (anyF d) (t.getD d undef) := fun d => .any _
theorem rel_upd {E : Env} {fr : Nat → AV} {t : Array Value} {i : Nat} {u : AV} (h : Rel E u (t.getD i undef)) (hr : ∀ d, Rel E (fr d) (t.getD d undef)) : ∀ d, Rel E (upd fr i u d) (t.getD d undef) := fun d => by
  unfold upd
  split
  · rename_i hd; subst hd; exact h
  · exact hr d
noncomputable def f16row (q : Res) : Option ByteArray := (f33 q.Key).bind fun x1 => (catO x1 ⟨#[32, 61, 32]⟩).bind fun x2 => (f33 q.Val).bind fun x3 => (catO x2 x3).bind fun x4 => (catO x4 ⟨#[32, 60, 32]⟩).bind fun x5 => (f8 q.Offs).bind fun x6 => (catO x5 x6).bind fun x7 => (catO x7 ⟨#[10]⟩).bind fun x8 => if x8.size ≤ 1000000000 then some x8 else none
noncomputable def f16go : List Res → Option (List UInt8)
  | [] => some []
  | q :: l => (f16row q).bind fun x => (f16go l).bind fun y => some (x.data.toList ++ y)
noncomputable def f16 (a0 : List Res) : Option ByteArray := if a0.length ≤ 100000 then (f16go a0).bind fun x => some ⟨x.toArray⟩ else none
theorem f16go_take : ∀ (l : List Res) (r : List UInt8), f16go l = some r → ∀ k, k ≤ l.length → ∃ y, f16go (l.take k) = some y ∧ y.length ≤ 1000000000 * k
  | l, r, h, 0, _ => ⟨[], by simp [f16go], by simp⟩
  | [], r, h, k + 1, hk => absurd hk (Nat.not_succ_le_zero k)
  | q :: l, r, h, k + 1, hk => by
    rw [f16go] at h
    obtain ⟨x, hx, h⟩ := Option.bind_eq_some_iff.1 h
    obtain ⟨y, hy, h⟩ := Option.bind_eq_some_iff.1 h
    obtain ⟨z, hz, hl⟩ := f16go_take l y hy k (Nat.le_of_succ_le_succ hk)
    refine ⟨x.data.toList ++ z, by simp only [List.take_succ_cons, f16go, hx, hz, Option.bind_some], ?_⟩
    have : x.size ≤ 1000000000 := by
      unfold f16row at hx
      iterate 8 (obtain ⟨_, _, hx⟩ := Option.bind_eq_some_iff.1 hx)
      split at hx
      · rename_i h; rw [← Option.some.inj hx]; exact h
      · cases hx
    have hs : x.data.toList.length = x.size := Array.length_toList
    simp only [List.length_append]; omega
theorem f16go_snoc : ∀ (l : List Res) (q : Res) (r y : List UInt8), f16go (l ++ [q]) = some r → f16go l = some y → ∃ x, f16row q = some x ∧ r = y ++ x.data.toList
  | [], q, r, y, h, hy => by
    simp only [f16go, List.nil_append] at h hy
    obtain ⟨x, hx, h⟩ := Option.bind_eq_some_iff.1 h
    simp only [Option.bind_some, Option.some.injEq, List.append_nil] at h hy
    exact ⟨x, hx, by rw [← h, ← hy]; rfl⟩
  | p :: l, q, r, y, h, hy => by
    simp only [f16go, List.cons_append] at h hy
    obtain ⟨x, hx, h⟩ := Option.bind_eq_some_iff.1 h
    obtain ⟨x', hx', hy⟩ := Option.bind_eq_some_iff.1 hy
    rw [hx] at hx'; cases hx'
    obtain ⟨z, hz, h⟩ := Option.bind_eq_some_iff.1 h
    obtain ⟨z', hz', hy⟩ := Option.bind_eq_some_iff.1 hy
    obtain ⟨v, hv, e⟩ := f16go_snoc l q z z' hz hz'
    exact ⟨v, hv, by rw [← Option.some.inj h, ← Option.some.inj hy, e, List.append_assoc]⟩
theorem arr29 {t : Array Value} (h : t.size = 29) : t = #[t.getD 0 undef, t.getD 1 undef, t.getD 2 undef, t.getD 3 undef, t.getD 4 undef, t.getD 5 undef, t.getD 6 undef, t.getD 7 undef, t.getD 8 undef, t.getD 9 undef, t.getD 10 undef, t.getD 11 undef, t.getD 12 undef, t.getD 13 undef, t.getD 14 undef, t.getD 15 undef, t.getD 16 undef, t.getD 17 undef, t.getD 18 undef, t.getD 19 undef, t.getD 20 undef, t.getD 21 undef, t.getD 22 undef, t.getD 23 undef, t.getD 24 undef, t.getD 25 undef, t.getD 26 undef, t.getD 27 undef, t.getD 28 undef] := by
  obtain ⟨l⟩ := t
  match l, h with
  | [a0, a1, a2, a3, a4, a5, a6, a7, a8, a9, a10, a11, a12, a13, a14, a15, a16, a17, a18, a19, a20, a21, a22, a23, a24, a25, a26, a27, a28], _ => rfl
theorem wpOp_call {P : Program} {ops : List Oper} {Q' : Exit → Act → World → Prop} {i : Nat} {K : Act → World → Prop} {a : Act} {w : World} {d : Option Tmp} {ty : TypeId} {pos : String} {after : Array Edge} {args : Array Operand} {tys : Array TypeId} {f : FuncId} (ho : ops[i]? = some ⟨d, .call { callee := .value (.func f), args := args, argTypes := tys }, ty, pos, after, none⟩) (he : Enter P f) (h : Calls P f (args.map a.eval) w (fun e w' => ∃ v, e = .returned v ∧ K (a.put d v) w')) : wpOp P ops.toArray Q' i K a w := by
  unfold wpOp
  simp only [List.getElem?_toArray, ho, Region.wanted, if_true]
  left
  unfold Oper.wp
  have hrun : (execOp a.eval ⟨d, .call { callee := .value (.func f), args := args, argTypes := tys }, ty, pos, after, none⟩).run P w = .ok (.enter f (args.map a.eval)) w := by
    simp [execOp, resolve, Deferred.ofValue, Act.eval, invoke, he _ _]
  rw [hrun, Oper.upon_enter]
  refine h.mono ?_
  rintro e w' ⟨v, rfl, h⟩
  exact h
theorem sl_is {E : Env} {rows : List (List AV)} {x : Value} (h : Rel E (.sl rows) x) : ∃ ad cap, x = .slice ad rows.length cap := by
  cases h with
  | sl0 a cap => exact ⟨a, cap, rfl⟩
  | sl => exact ⟨_, _, rfl⟩
theorem ok16 (a0 : List Res) (r : ByteArray) (h : f16 a0 = some r) : PC Tryd.prog 16 [.sl (List.map encRes a0)] (.val (.string r)) := by
  unfold f16 at h
  split at h
  rotate_left
  · cases h
  rename_i hl
  obtain ⟨rs, hrs, h⟩ := Option.bind_eq_some_iff.1 h
  obtain rfl := Option.some.inj h
  refine pc_read (us := []) (fun m w x ht hx => ?_) (by simp only [sealV_val])
  obtain ⟨ad, cap, rfl⟩ := sl_is hx
  rw [List.length_map] at hx ⊢
  have h0 : Lib.IsBuilderF 63 5 w.heap.size w.heap.size [] (w.alloc (.cells #[.pointer none, .slice none 0 0] 63)) := Lib.IsBuilderF.of (Lib.fresh_isBuilder 63 5 w)
  have b0 : Below w.heap.size w (w.alloc (.cells #[.pointer none, .slice none 0 0] 63)) := (Below.refl _ w).alloc (Nat.le_refl _) _
  go_enter Tryd.func16, Tryd.ntmps16
  go_wp2
  rename_i K' hK'
  refine wp_loop_ghost (fun n a W => ∃ (k : Nat) (y : List UInt8), k + n = a0.length ∧ f16go (a0.take k) = some y ∧ y.length ≤ 1000000000 * k ∧ a.defers = [] ∧ a.tmps.size = 29 ∧ a.tmps.getD 3 undef = .pointer (some ⟨w.heap.size, 0, none⟩) ∧ a.tmps.getD 6 undef = .slice ad a0.length cap ∧ a.tmps.getD 7 undef = .int .i64 a0.length ∧ a.tmps.getD 8 undef = .int .i64 k ∧ Lib.IsBuilderF 63 5 w.heap.size w.heap.size (Lib.byteCells y) W ∧ Below w.heap.size w W) a0.length ⟨0, [], by omega, by simp [f16go], by simp, rfl, rfl, rfl, rfl, rfl, rfl, h0, b0⟩ ?_
  rintro n a W ⟨k, y, hkn, hy, hyl, ad1, ad2, a3, a6, a7, a8, hI, hb⟩
  have htW := tab_below ht hb
  have hc := conc_now htW (fr := upd (upd (upd (upd anyF 8 (.val (.int .i64 k))) 7 (.val (.int .i64 a0.length))) 6 (.sl (List.map encRes a0))) 3 (.val (.pointer (some ⟨w.heap.size, 0, none⟩)))) ad1 ad2 (rel_upd (a3 ▸ .val _) (rel_upd (a6 ▸ rel_now hx hb) (rel_upd (a7 ▸ .val _) (rel_upd (a8 ▸ .val _) (rel_anyF _ _)))))
  generalize hkk : (k : Int) = kk at hc a8
  refine wp_seq (wp_mono (wp_regionF (K := fun st' => st' = ⟨upd (upd (upd (upd (upd anyF 9 (.val (.bool (decide (kk < (a0.length : Int)))))) 8 (.val (.int .i64 kk))) 7 (.val (.int .i64 a0.length))) 6 (.sl (List.map encRes a0))) 3 (.val (.pointer (some ⟨w.heap.size, 0, none⟩))), hpL [] [], 16⟩) [3, 6, 7, 8, 9] 6 (by kernel_rfl) ?_ hc) ?_)
  · simp only [go_sem, ↓reduceIte, reduceCtorEq, Nat.reduceAdd, Nat.reduceSub, Nat.reduceMul, Nat.reduceEqDiff, Nat.reduceLT, Nat.reduceLeDiff]
  rintro e a1 W1 ⟨rfl, st1, rfl, hc1, hf1⟩
  show Code.wp _ _ _ a1 W1
  obtain ⟨d1, d2, loc1, hM1, hr1⟩ := hc1
  have hb9 : a1.eval (.tmp 9) = .bool (decide (kk < (a0.length : Int))) := rel_val (show Rel _ (.val (.bool (decide (kk < (a0.length : Int))))) (a1.eval (.tmp 9)) from rel_eval hr1 (.tmp 9))
  by_cases c9 : kk < (a0.length : Int)
  · refine wp_seq (wp_cond_true (by rw [hb9, decide_eq_true c9]) (wp_skip ?_))
    show Code.wp _ _ _ a1 W1
    have hk : k < a0.length := by omega
    obtain ⟨q, hq⟩ : ∃ q, a0[kk.toNat]? = some q := ⟨a0[kk.toNat]'(by omega), by simp⟩
    have h0k : 0 ≤ kk := by omega
    refine wp_seq (wp_block (wp_seq (wp_mono (wp_regionF (K := fun st' => ∃ nx t, st' = ⟨upd (upd (upd (upd (upd anyF 8 (.val (.int .i64 kk))) 7 (.val (.int .i64 a0.length))) 6 (.sl (List.map encRes a0))) 5 (.ptr t 0 0)) 3 (.val (.pointer (some ⟨w.heap.size, 0, none⟩))), upd (upd (hpL [] []) t (some (.row 3 true [[.val (.string ⟨#[]⟩), .val (.string ⟨#[]⟩), .val (.slice none 0 0)]]))) t (some (.row 3 true [[.val (.string q.Key), .val (.string q.Val), .sl (List.map enc3 q.Offs)]])), nx⟩ ∧ nx = 48 ∧ t = 32) [3, 5, 6, 7, 8] 6 (by kernel_rfl) ?_ ⟨d1, d2, loc1, hM1, hr1⟩) ?_)))
    · simp only [go_sem, ↓reduceIte, reduceCtorEq, Nat.reduceAdd, Nat.reduceSub, Nat.reduceMul, Nat.reduceEqDiff, Nat.reduceLT, Nat.reduceLeDiff, natOf_le h0k, hq]
      exact ⟨48, 32, rfl, rfl, rfl⟩
    rintro e a4 W4 ⟨rfl, st4, ⟨_, _, rfl, rfl, rfl⟩, hc4, hf4⟩
    show Code.wp _ _ _ a4 W4
    have hk1 : kk.toNat = k := by omega
    obtain ⟨y', hy', hyl'⟩ := f16go_take a0 rs hrs (k + 1) hk
    have hqk : a0[k]? = some q := by rw [← hk1]; exact hq
    obtain ⟨x8, hx8, hyy⟩ : ∃ x, f16row q = some x ∧ y' = y ++ x.data.toList := by
      refine f16go_snoc (a0.take k) q y' y ?_ hy
      rw [← hy', List.take_succ, hqk]; rfl
    have hrow := hx8
    unfold f16row at hx8
    obtain ⟨x1, hx1, hx8⟩ := Option.bind_eq_some_iff.1 hx8
    obtain ⟨x2, hx2, hx8⟩ := Option.bind_eq_some_iff.1 hx8
    obtain ⟨x3, hx3, hx8⟩ := Option.bind_eq_some_iff.1 hx8
    obtain ⟨x4, hx4, hx8⟩ := Option.bind_eq_some_iff.1 hx8
    obtain ⟨x5, hx5, hx8⟩ := Option.bind_eq_some_iff.1 hx8
    obtain ⟨x6, hx6, hx8⟩ := Option.bind_eq_some_iff.1 hx8
    obtain ⟨x7, hx7, hx8⟩ := Option.bind_eq_some_iff.1 hx8
    obtain ⟨x9, hx9, hx8⟩ := Option.bind_eq_some_iff.1 hx8
    split at hx8
    rotate_left
    · cases hx8
    rename_i hsz
    obtain rfl := Option.some.inj hx8
    refine wp_drawT 6 (ft := noFt) (K := fun fr _ => fr 3 = .val (.pointer (some ⟨w.heap.size, 0, none⟩)) ∧ fr 6 = .sl (List.map encRes a0) ∧ fr 7 = .val (.int .i64 a0.length) ∧ fr 8 = .val (.int .i64 kk) ∧ fr 25 = .val (.string x9)) [[], [0], [0, 1], [0, 1, 2], [], [4], [0, 1, 2, 4, 5], [0, 1, 2, 3, 4, 5, 6], [0, 1, 2, 3, 4, 5, 6, 7], [], [9], [0, 1, 2, 4, 5, 6, 9, 10], [0, 1, 2, 3, 4, 5, 6, 7, 8, 9, 10, 11], [0, 1, 2, 3, 4, 5, 6, 7, 8, 9, 10, 11, 12], [0, 1, 2, 3, 4, 5, 6, 7, 8, 9, 10, 11, 12, 13]] [0, 1, 2, 3, 4, 5, 6, 7, 8, 9, 10, 11, 12, 13] 14 (fun _ _ _ h => by simp [noFt] at h) draws (by kernel_rfl) (by kernel_rfl) (by kernel_rfl) ?_ hc4 (by kernel_rfl) ?_
    · simp only [go_sem, ↓reduceIte, reduceCtorEq, Nat.reduceAdd, Nat.reduceSub, Nat.reduceMul, Nat.reduceEqDiff, Nat.reduceLT, Nat.reduceLeDiff, binV_cat hx2, binV_cat hx4, binV_cat hx5, binV_cat hx7, binV_cat hx9]
      refine adN.pc (ok33 q.Key x1 hx1) Tryd.call33 callV_fn (by simp only [go_sem, ↓reduceIte, reduceCtorEq, Nat.reduceAdd, Nat.reduceSub, Nat.reduceMul, Nat.reduceEqDiff, Nat.reduceLT, Nat.reduceLeDiff]) (by simp only [go_sem, ↓reduceIte, reduceCtorEq, Nat.reduceAdd, Nat.reduceSub, Nat.reduceMul, Nat.reduceEqDiff, Nat.reduceLT, Nat.reduceLeDiff]) ?_
      simp only [go_sem, ↓reduceIte, reduceCtorEq, Nat.reduceAdd, Nat.reduceSub, Nat.reduceMul, Nat.reduceEqDiff, Nat.reduceLT, Nat.reduceLeDiff, binV_cat hx2, binV_cat hx4, binV_cat hx5, binV_cat hx7, binV_cat hx9]
      refine adN.pc (ok33 q.Val x3 hx3) Tryd.call33 callV_fn (by simp only [go_sem, ↓reduceIte, reduceCtorEq, Nat.reduceAdd, Nat.reduceSub, Nat.reduceMul, Nat.reduceEqDiff, Nat.reduceLT, Nat.reduceLeDiff]) (by simp only [go_sem, ↓reduceIte, reduceCtorEq, Nat.reduceAdd, Nat.reduceSub, Nat.reduceMul, Nat.reduceEqDiff, Nat.reduceLT, Nat.reduceLeDiff]) ?_
      simp only [go_sem, ↓reduceIte, reduceCtorEq, Nat.reduceAdd, Nat.reduceSub, Nat.reduceMul, Nat.reduceEqDiff, Nat.reduceLT, Nat.reduceLeDiff, binV_cat hx2, binV_cat hx4, binV_cat hx5, binV_cat hx7, binV_cat hx9]
      refine adN.pc (ok8 q.Offs x6 hx6) Tryd.call8 callV_fn (by simp only [go_sem, ↓reduceIte, reduceCtorEq, Nat.reduceAdd, Nat.reduceSub, Nat.reduceMul, Nat.reduceEqDiff, Nat.reduceLT, Nat.reduceLeDiff]) (by simp only [go_sem, ↓reduceIte, reduceCtorEq, Nat.reduceAdd, Nat.reduceSub, Nat.reduceMul, Nat.reduceEqDiff, Nat.reduceLT, Nat.reduceLeDiff]) ?_
      simp only [go_sem, ↓reduceIte, reduceCtorEq, Nat.reduceAdd, Nat.reduceSub, Nat.reduceMul, Nat.reduceEqDiff, Nat.reduceLT, Nat.reduceLeDiff, binV_cat hx2, binV_cat hx4, binV_cat hx5, binV_cat hx7, binV_cat hx9]
    · rintro fr hp a5 W5 ⟨k3, k6, k7, k8, k25⟩ ⟨e1, e2, loc5, hM5, hr5⟩ hf5
      have s3 := rel_val (show Rel _ (.val _) _ from (by rw [← k3]; exact hr5 3))
      have s7 := rel_val (show Rel _ (.val _) _ from (by rw [← k7]; exact hr5 7))
      have s8 := rel_val (show Rel _ (.val _) _ from (by rw [← k8]; exact hr5 8))
      have s25 := rel_val (show Rel _ (.val _) _ from (by rw [← k25]; exact hr5 25))
      have s6 := hf5.trans (hf4.trans (hf1.trans a6))
      have hb5 : Below w.heap.size W W5 := ⟨hM5.os, hM5.tape, hM5.output, hM5.size, fun b hb' => hM5.keep b (Nat.lt_of_lt_of_le hb' hb.size) (fun h => h)⟩
      have hI5 := bld_same hI (fun b hb' => hM5.keep b hb' (fun h => h))
      have hbW5 := hb.trans hb5
      have hln : (Lib.byteCells y).length + x9.size ≤ 140737488355328 := by rw [Lib.byteCells_length]; omega
      refine wpOp_call (f := 32) rfl Tryd.call32 ?_
      rw [show Array.map a5.eval #[Operand.tmp 3, Operand.tmp 25] = #[a5.tmps.getD 3 undef, a5.tmps.getD 25 undef] by simp [Act.eval], s3, s25]
      refine (Tryd.bstring w.heap.size w.heap.size _ x9 W5 hI5 hln hbW5.size).mono ?_
      rintro e W6 ⟨rfl, h6, b6, _⟩
      refine ⟨_, rfl, ?_⟩
      have hb6 := hbW5.trans b6
      have htW6 := tab_below ht hb6
      have hr6 : ∀ d, Rel (mkE (fun _ => False) (hpL [] []) (fun t => t < 8) (fun _ => none) W6) ((upd (upd (upd (upd anyF 8 (.val (.int .i64 kk))) 7 (.val (.int .i64 a0.length))) 6 (.sl (List.map encRes a0))) 3 (.val (.pointer (some ⟨w.heap.size, 0, none⟩)))) d) (a5.tmps.getD d undef) := rel_upd (by rw [s3]; exact .val _) (rel_upd (by rw [s6]; exact rel_now hx hb6) (rel_upd (by rw [s7]; exact .val _) (rel_upd (by rw [s8]; exact .val _) (rel_anyF _ _))))
      obtain ⟨g1, g2⟩ := rel_put (N := 29) (d := some 26) (u := .any) (v := .tuple #[.int .i64 x9.size, .nilIface]) (by decide) e2 hr6 (.any _)
      have hc6 := conc_now htW6 (by rw [put_defers]; exact e1) g1 g2
      show Code.wp _ _ _ _ W6
      refine wp_mono (wp_regionF (K := fun st' => st' = ⟨upd (upd (upd (upd anyF 8 (.val (.int .i64 (IntKind.i64.wrap (kk + 1))))) 7 (.val (.int .i64 a0.length))) 6 (.sl (List.map encRes a0))) 3 (.val (.pointer (some ⟨w.heap.size, 0, none⟩))), hpL [] [], 24⟩) [3, 6, 7, 8] 6 (by kernel_rfl) ?_ hc6) ?_
      · simp only [go_sem, ↓reduceIte, reduceCtorEq, Nat.reduceAdd, Nat.reduceSub, Nat.reduceMul, Nat.reduceEqDiff, Nat.reduceLT, Nat.reduceLeDiff]
      rintro e a7 W7 ⟨rfl, st7, rfl, ⟨f1, f2, loc7, hM7, hr7⟩, hf7⟩
      have hI7 : Lib.IsBuilderF 63 5 w.heap.size w.heap.size (Lib.byteCells y') W7 := by
        refine bld_same (w := W6) (Or.inr ?_) (fun b hb' => hM7.keep b hb' (fun h => h))
        rw [hyy, Lib.byteCells_append]; exact h6
      have hb7 : Below w.heap.size W6 W7 := ⟨hM7.os, hM7.tape, hM7.output, hM7.size, fun b hb' => hM7.keep b (Nat.lt_of_lt_of_le hb' hb6.size) (fun h => h)⟩
      refine ⟨n - 1, by omega, k + 1, y', by omega, hy', hyl', f1, f2, rel_val (hr7 3), hf7.trans ((put_getD (by decide) rfl).trans s6), rel_val (hr7 7), ?_, hI7, hb6.trans hb7⟩
      rw [show a7.tmps.getD 8 undef = .int .i64 (IntKind.i64.wrap (kk + 1)) from rel_val (hr7 8), i64_id (by omega) (by omega), ← hkk]
      rfl
  · refine wp_seq (wp_cond_false (by rw [hb9, decide_eq_false c9]) (wp_exit ?_))
    show K' a1 W1
    apply hK'
    have hke : k = a0.length := by omega
    have hyr : y = rs := by
      rw [hke, List.take_length, hrs] at hy
      exact (Option.some.inj hy).symm
    subst hyr
    have hb1 : Below w.heap.size W W1 := ⟨hM1.os, hM1.tape, hM1.output, hM1.size, fun b hb' => hM1.keep b (Nat.lt_of_lt_of_le hb' hb.size) (fun h => h)⟩
    have hI1 := bld_same hI (fun b hb' => hM1.keep b hb' (fun h => h))
    have s3 : a1.tmps.getD 3 undef = .pointer (some ⟨w.heap.size, 0, none⟩) := rel_val (hr1 3)
    have hbW1 := hb.trans hb1
    have hBW := hbW1.size
    clear c9 hkn hM1 hr1 hb9 hc hf1 ad1 ad2 a3 a6 a7 a8
    obtain ⟨t, df⟩ := a1
    obtain rfl : df = [] := d1
    replace d2 : t.size = 29 := d2
    replace s3 : t.getD 3 undef = .pointer (some ⟨w.heap.size, 0, none⟩) := s3
    rw [arr29 d2, s3]
    generalize t.getD 0 undef = u0, t.getD 1 undef = u1, t.getD 2 undef = u2, t.getD 4 undef = u4, t.getD 5 undef = u5, t.getD 6 undef = u6, t.getD 7 undef = u7, t.getD 8 undef = u8, t.getD 9 undef = u9
    generalize t.getD 10 undef = u10, t.getD 11 undef = u11, t.getD 12 undef = u12, t.getD 13 undef = u13, t.getD 14 undef = u14, t.getD 15 undef = u15, t.getD 16 undef = u16, t.getD 17 undef = u17, t.getD 18 undef = u18, t.getD 19 undef = u19
    generalize t.getD 20 undef = u20, t.getD 21 undef = u21, t.getD 22 undef = u22, t.getD 23 undef = u23, t.getD 24 undef = u24, t.getD 25 undef = u25, t.getD 26 undef = u26, t.getD 27 undef = u27, t.getD 28 undef = u28
    go_wp2_with (go_at_call 34; refine (Tryd.Builder_String_any_k w.heap.size w.heap.size y W1 hI1 hBW).mono ?_)
    rintro e W3 ⟨rfl, _, b3, _⟩
    go_wp2
    go_ret
    have hB := hbW1.trans b3
    exact ⟨rfl, hB.size, fun b hb' => hB.block b hb', hB.os, hB.tape, hB.output⟩
end Au
end Go.Proofs.Yd
