/- slices.Collect(slices.Values(l)), as this library tells it. -/
import Derived.Test.YtncdjladnpogiaaGsVI2
import Derived.Test.YtncdjladnpogiaaGsSI2
set_option linter.all false
set_option linter.unusedVariables false
set_option linter.unusedSimpArgs false
set_option linter.all false
namespace Go.Gm
open Go.Proofs Go.RowKit Go.Shelf Go.Maps Go.Sort
theorem below_of {B : Nat} {w A C : World} (h : Below B w A) (k : Below B w C) (hs : A.heap.size ≤ C.heap.size) : Below B A C :=
  ⟨k.os.trans h.os.symm, k.tape.trans h.tape.symm, k.output.trans h.output.symm, hs, fun q hq => (k.block q hq).trans (h.block q hq).symm⟩
theorem calls_collect (l : List Int) (w : World) {Bs o cap : Nat} {a : Option Addr} (hBs : w.cell? ⟨Bs, o, none⟩ = some (.slice a l.length cap)) (hBlt : Bs < w.heap.size)
    (hc : l ≠ [] → ∃ b off, a = some ⟨b, off, none⟩ ∧ b < w.heap.size ∧ ∀ (j : Nat) x, l[j]? = some x → w.cell? ⟨b, off + j, none⟩ = some (.int .i64 x)) (hl : l.length ≤ 2147483648) :
    Calls Try.prog 41 #[.func (.func 43) #[] #[.pointer (some ⟨Bs, o, none⟩)]] w fun e w' => ∃ v, e = .returned v ∧ w'.ownsRow w.heap.size 3 1 v l.length (l.map (Value.int .i64)) ∧ Below w.heap.size w w' := by
  have hmax : l.length ≤ maxLen := by unfold maxLen; omega
  have h := Vi.collect_in Try.lz8 Fence.wide 3 trivial trivial rfl (by omega) 43 #[.pointer (some ⟨Bs, o, none⟩)] trivial (enters_of Try.func43 (by kernel_rfl) rfl) (fun ss => ss = l) l.length hmax (by omega) w (fun ll J W hJ hab hY h0 => by
    have hW := hJ [] W h0
    have hBs' := (hW.cell (p := ⟨Bs, o, none⟩) hBlt).trans hBs
    by_cases hn : l = []
    · subst hn
      exact (Vi.values1_nil_in Fence.wide _ trivial rfl ll Bs o a cap J W hBs' h0).mono fun e W' ⟨he, hj⟩ => ⟨he, [], rfl, hj⟩
    · obtain ⟨b, off, rfl, hb, hcs⟩ := hc hn
      refine (Vi.values1_in Fence.wide _ trivial rfl (by omega) ll Bs o w.heap.size b off l.length cap l (by omega) hb hBlt J (fun pre x W1 hp hlt => ?_) W hBs' (fun j hj => ?_) h0).mono fun e W' ⟨he, ys, hy, hj⟩ => ⟨he, ys, by rw [hy, Vi.upto_all], hj⟩
      · obtain ⟨fn, tmps, asg, body, q1, q2⟩ := hY pre x W1 hp hlt
        exact ⟨fn, tmps, asg, body, q1, q2.mono fun e W' ⟨r1, r2, r3⟩ => ⟨r1, r2, below_of (hJ _ _ hp) (hJ _ _ r2) r3.1⟩⟩
      · exact (hW.cell (p := ⟨b, off + j, none⟩) hb).trans (hcs j _ (by simp [hj])))
  refine (callsIn_wide.1 h).mono ?_
  rintro e w' ⟨v, ss, rfl, rfl, hrow, _, hb⟩
  exact ⟨v, rfl, hrow, hb⟩
theorem pc_own {P : Program} {f : FuncId} {us : List AV} {l : List Int} {ety : TypeId} {enc : Int → List AV} (he : ∀ x, enc x = [.val (.int .i64 x)])
    (h : ∀ (m : Nat → Prop) (w : World) (vs : List Value), (∀ b, m b → b < w.heap.size) → RelL (E0 m w) us vs → Calls P f vs.toArray w fun e w' => ∃ v, e = .returned v ∧ w'.ownsRow w.heap.size ety 1 v l.length (l.map (Value.int .i64)) ∧ Below w.heap.size w w') : PC P f us (.fr 1 (l.map enc)) := by
  intro m w vs hm ht hr
  refine (h m w vs hm hr).mono ?_
  rintro e w' ⟨v, rfl, hrow, hb⟩
  have hrows : l.map enc = rowsV (Value.int .i64) l := (rowsV_int he l).symm
  have hinl : inlR (l.map enc) = true := inlR_map (fun x => by rw [he]; rfl) l
  let hp : AHeap := fun t => if t = 0 then some (.row 1 true (l.map enc)) else none
  have main : ∀ (L : Loc), (L.st < L.n → w.heap.size ≤ L.b) → ObjAt (mkE m hp (fun t => t = 0) (fun t => if t = 0 then some L else none) w') L (.row 1 true (l.map enc)) →
      (∃ a cap, v = .slice a l.length cap ∧ 0 < L.sz ∧ L.st + (0 + cap) * L.sz = L.n ∧ l.length ≤ cap ∧ (0 < cap → a = some ⟨L.b, L.st + 0 * L.sz, none⟩)) →
      ∃ v' hp' al loc r ts, Ending.returned v = .returned v' ∧ Mem ⟨w, fun _ => False, m, hm, 0, fun _ => none, Nat.zero_le _, ht⟩ hp' al loc w' ∧ Rel (mkE m hp' al loc w') r v' ∧ sealV hp' r = some (.fr 1 (l.map enc), ts) ∧ ts.Nodup := fun L hLb hob hv => by
    have hz : ∀ t o, hp t = some o → t = 0 ∧ o = .row 1 true (l.map enc) := fun t o ho => by
      by_cases ht : t = 0
      · subst ht; simp [hp] at ho; exact ⟨rfl, ho.symm⟩
      · simp [hp, ht] at ho
    have hlz : ∀ t L', (if t = 0 then some L else none) = some L' → t = 0 ∧ L' = L := fun t L' hL => by
      by_cases ht : t = 0
      · subst ht; simp at hL; exact ⟨rfl, hL.symm⟩
      · simp [ht] at hL
    refine ⟨v, hp, fun t => t = 0, fun t => if t = 0 then some L else none, .own 0 0 l.length, [0], rfl, ?_, ?_, ?_, by simp⟩
    · constructor
      · intro t o ho
        obtain ⟨rfl, rfl⟩ := hz t o ho
        exact ⟨L, rfl, hob⟩
      · intro t ht
        by_cases h0 : t = 0
        · subst h0; simp [hp] at ht
        · simp [h0]
      · intro t L' hL; exact (hlz t L' hL).1
      · intro t t' L1 L2 h1 h2 _ _ _
        rw [(hlz t L1 h1).1, (hlz t' L2 h2).1]
      · exact hb.os
      · exact hb.tape
      · exact hb.output
      · exact hb.size
      · intro b hlt _; exact hb.block b hlt
      · rintro b ⟨t, o, L', h1, h2, h3, h4, h5⟩ hlt
        obtain ⟨_, rfl⟩ := hlz t L' h3
        have h9 := hLb h5
        have h10 : b < w.heap.size := hlt
        show False
        omega
      · intro t L' hL hpos hmb
        obtain ⟨_, rfl⟩ := hlz t L' hL
        have := hLb hpos
        have := hm _ hmb
        omega
      · intro t ht; exact absurd ht (Nat.not_lt_zero t)
      · intro t L' ht; exact absurd ht (Nat.not_lt_zero t)
    · refine .own rfl fun L' hL => ?_
      obtain ⟨_, rfl⟩ := hlz 0 L' hL
      exact hv
    · have := own_fr (hp := hp) (t := 0) (n := l.length) (sz := 1) (rows := l.map enc) rfl (by simp) hinl
      simpa only [resOf_1] using this
  rcases hrow.2 with ⟨rfl, hn⟩ | ⟨g, cap, cur, rfl, hbase, hg, hle, _, hcs, htk⟩
  · have : l = [] := List.eq_nil_of_length_eq_zero hn
    subst this
    exact main ⟨0, 0, 1, 0⟩ (fun h => absurd h (Nat.lt_irrefl _)) ⟨rfl, by decide, by simp, by simp, ⟨0, rfl⟩, fun h => absurd h (Nat.lt_irrefl _)⟩ ⟨none, 0, rfl, by decide, rfl, Nat.le_refl _, fun h => absurd h (Nat.lt_irrefl _)⟩
  · refine main ⟨g, 0, 1, cap⟩ (fun _ => hbase) ⟨rfl, by decide, fun r hr => ?_, ?_, ⟨cap, by simp⟩, fun _ => ⟨cur, ety, (0, 0), l.map (Value.int .i64), hg, by simpa using hcs, ?_, ?_, ?_, fun k _ => by simp⟩⟩ ⟨some ⟨g, 0, none⟩, cap, rfl, Nat.one_pos, by simp, hle, fun _ => rfl⟩
    · obtain ⟨x, _, rfl⟩ := List.mem_map.1 hr; rw [he]; rfl
    · simpa using hle
    · rw [hrows, rowsV_flat]; exact relL_vals _
    · intro u hu; obtain ⟨x, _, rfl⟩ := List.mem_map.1 hu; rfl
    · intro k u hu
      rw [← htk] at hu
      have hk : k < l.length * 1 := by
        have := (List.getElem?_eq_some_iff.1 hu).1
        rw [List.length_take] at this; omega
      rw [List.getElem?_take_of_lt hk, Array.getElem?_toList] at hu
      simpa using hu
theorem pc_collect {enc : Int → List AV} (he : ∀ x, enc x = [.val (.int .i64 x)]) (l : List Int) (hl : l.length ≤ 2147483648) : PC Try.prog 41 [.clo (.func 43) [] [.ip [.sl (l.map enc)]]] (.fr 1 (l.map enc)) := by
  refine pc_own (ety := 3) he fun m w vs hm hr => ?_
  cases hr with
  | cons h1 h2 =>
  cases h2
  rename_i v
  cases h1 with
  | clo hf hcap =>
  cases hf
  cases hcap with
  | cons h3 h4 =>
  cases h4
  cases h3 with
  | ip hb hmt h1c hcell hrl =>
  rename_i b o vs'
  cases hrl with
  | cons h5 h6 =>
  cases h6
  rename_i u
  have hBs : w.cell? ⟨b, o, none⟩ = some u := hcell 0 u rfl
  have hz : ∀ (rows : List (List AV)), Rel (E0 m w) (.sl rows) u → rows = l.map enc → ∃ a cap, u = .slice a l.length cap ∧ (l ≠ [] → ∃ b off, a = some ⟨b, off, none⟩ ∧ b < w.heap.size ∧ ∀ (j : Nat) x, l[j]? = some x → w.cell? ⟨b, off + j, none⟩ = some (.int .i64 x)) := fun rows h hr => by
    cases h with
    | sl0 a cap =>
      have : l = [] := by cases l with
        | nil => rfl
        | cons x l => cases hr
      subst this
      exact ⟨a, cap, rfl, fun h => absurd rfl h⟩
    | sl hb2 hm2 hr2 hsz h0 hcap2 h12 hc2 hl2 =>
      subst hr
      rename_i b2 o2 cap2 sz2 vs2
      refine ⟨some ⟨b2, o2, none⟩, cap2, by rw [List.length_map], fun _ => ⟨b2, o2, rfl, hb2, fun j x hx => ?_⟩⟩
      rw [← rowsV_int he, rowsV_flat] at hl2
      have := relL_vals_eq hl2
      subst this
      exact hc2 j _ (by rw [List.getElem?_map, hx]; rfl)
  obtain ⟨a, cap, rfl, hcs⟩ := hz _ h5 rfl
  exact calls_collect l w hBs hb hcs hl
end Go.Gm
