/- Contracts of strings.Index and strings.Split. -/
import Derived.Test.YtlonihmeikmpiaaDoorGfLT
import Derived.Lib.Index
import Derived.Lib.Split
set_option linter.all false
set_option linter.unusedVariables false
set_option linter.unusedSimpArgs false
set_option linter.all false
namespace Go.Gm
open Go.Sort Go.Proofs Go.RowKit Go.Maps
theorem flat_one {α : Type} {mv : α → Value} {enc : α → List AV} (he : ∀ x, enc x = [.val (mv x)]) : ∀ l : List α, (l.map enc).flatten = (l.map mv).map .val
  | [] => by simp only [List.map_nil, List.flatten_nil]
  | x :: l => by simp only [List.map_cons, List.flatten_cons, he, flat_one he l, List.cons_append, List.nil_append]
theorem pc_alloc {P : Program} {f : FuncId} {us : List Value} {α : Type} {mv : α → Value} (h1 : ∀ x, (mv x).oneCell' = true) {enc : α → List AV} (he : ∀ x, enc x = [.val (mv x)]) {l : List α} (hne : 0 < l.length)
    (h : ∀ (w : World) (vs : List Value), TabH P (fun _ => False) w → vs = us → Calls P f vs.toArray w fun e w' => e = .returned (.slice (some ⟨w.heap.size, 0, none⟩) l.length l.length) ∧ ∃ t, w' = w.alloc (.cells (l.map mv).toArray t)) : PC P f (us.map .val) (.fr 1 (l.map enc)) := by
  intro m w vs hm ht hus
  refine (h w vs ht (relL_vals_eq hus)).mono ?_
  rintro e w' ⟨rfl, t, rfl⟩
  have hinl : inlR (l.map enc) = true := inlR_map (fun x => by rw [he]; rfl) l
  let hp : AHeap := fun t => if t = 0 then some (.row 1 true (l.map enc)) else none
  let L : Loc := ⟨w.heap.size, 0, 1, l.length⟩
  have hz : ∀ t o, hp t = some o → t = 0 ∧ o = .row 1 true (l.map enc) := fun t o ho => by
    by_cases ht : t = 0
    · subst ht; simp [hp] at ho; exact ⟨rfl, ho.symm⟩
    · simp [hp, ht] at ho
  have hlz : ∀ t L', (if t = 0 then some L else none) = some L' → t = 0 ∧ L' = L := fun t L' hL => by
    by_cases ht : t = 0
    · subst ht; simp at hL; exact ⟨rfl, hL.symm⟩
    · simp [ht] at hL
  have hflat : (l.map enc).flatten = (l.map mv).map .val := flat_one he l
  refine ⟨_, hp, fun t => t = 0, fun t => if t = 0 then some L else none, .own 0 0 l.length, [0], rfl, ?_, ?_, ?_, by simp⟩
  · constructor
    · intro t' o ho
      obtain ⟨rfl, rfl⟩ := hz t' o ho
      refine ⟨L, rfl, rfl, Nat.one_pos, fun r hr => ?_, by simp [L], ⟨l.length, by simp [L]⟩, fun _ => ⟨(l.map mv).toArray, t, (0, 0), l.map mv, ?_, by simp [L], ?_, ?_, ?_, fun k _ => by simp⟩⟩
      · obtain ⟨x, _, rfl⟩ := List.mem_map.1 hr; rw [he]; rfl
      · show (w.heap.push _)[w.heap.size]? = _
        simp
      · rw [hflat]; exact relL_vals _
      · intro u hu; obtain ⟨x, _, rfl⟩ := List.mem_map.1 hu; exact h1 x
      · intro k u hu; simpa [L] using hu
    · intro t ht
      by_cases h0 : t = 0
      · subst h0; simp [hp] at ht
      · simp [h0]
    · intro t L' hL; exact (hlz t L' hL).1
    · intro t t' L1 L2 h1 h2 _ _ _
      rw [(hlz t L1 h1).1, (hlz t' L2 h2).1]
    · rfl
    · rfl
    · rfl
    · simp
    · intro b hlt _; exact heap_alloc_lt w _ b hlt
    · rintro b ⟨t, o, L', h1, h2, h3, h4, h5⟩ hlt
      obtain ⟨_, rfl⟩ := hlz t L' h3
      have h10 : b < w.heap.size := hlt
      have : w.heap.size = b := h4
      show False
      omega
    · intro t L' hL hpos hmb
      obtain ⟨_, rfl⟩ := hlz t L' hL
      have := hm _ hmb
      have : w.heap.size < w.heap.size := this
      omega
    · intro t ht; exact absurd ht (Nat.not_lt_zero t)
    · intro t L' ht; exact absurd ht (Nat.not_lt_zero t)
  · refine .own rfl fun L' hL => ?_
    obtain ⟨_, rfl⟩ := hlz 0 L' hL
    exact ⟨_, _, rfl, Nat.one_pos, by simp [L], Nat.le_refl _, fun _ => by simp [L]⟩
  · have := own_fr (hp := hp) (t := 0) (n := l.length) (sz := 1) (rows := l.map enc) rfl (by simp) hinl
    simpa only [resOf_1] using this
theorem pc_index {P : Program} (f : FuncId) {g : Nat} (hne : (P.globalNamed "internal/strconv.uint64pow10" == some g) = false) (hg : P.globalNamed "internal/bytealg.MaxLen" = some g) (s t : ByteArray) (hs : s.size < 4294967281)
    (h : ∀ (m : Int) (w : World), w.cell? ⟨g, 0, none⟩ = some (.int .i64 m) → Calls P f #[.string s, .string t] w fun e w' => e = .returned (.int .i64 (Lib.index s.data.toList t.data.toList)) ∧ w' = w) :
    PC P f [.val (.string s), .val (.string t)] (.val (.int .i64 (Lib.index s.data.toList t.data.toList))) :=
  pc_val (us := [.string s, .string t]) (fun w vs ht hv => by
    subst hv
    obtain ⟨m, hm⟩ := max_is ht hne hg
    refine (h m w hm).mono ?_
    rintro e w' ⟨rfl, rfl⟩
    exact ⟨rfl, Nat.le_refl _, fun _ _ => rfl, rfl, rfl, rfl⟩) (by simp only [sealV_val])
def splitS (s t : ByteArray) : List ByteArray := Lib.splitB t 0 (Lib.countB s t) s
theorem pc_split {P : Program} {enc : ByteArray → List AV} (he : ∀ x, enc x = [.val (.string x)]) (f : FuncId) {g : Nat} {ty : TypeId} (hne : (P.globalNamed "internal/strconv.uint64pow10" == some g) = false) (hg : P.globalNamed "internal/bytealg.MaxLen" = some g) (s t : ByteArray) (hs : s.size < 4294967281) (h1 : 1 ≤ t.size)
    (h : ∀ (m : Int) (w : World), w.cell? ⟨g, 0, none⟩ = some (.int .i64 m) → Calls P f #[.string s, .string t] w fun e w' => e = .returned (.slice (some ⟨w.heap.size, 0, none⟩) (Lib.countB s t + 1) (Lib.countB s t + 1)) ∧ w' = w.alloc (.cells ((Lib.splitB t 0 (Lib.countB s t) s).map Value.string).toArray ty)) (hl : (splitS s t).length = Lib.countB s t + 1) :
    PC P f [.val (.string s), .val (.string t)] (.fr 1 ((splitS s t).map enc)) :=
  pc_alloc (us := [.string s, .string t]) (mv := Value.string) (fun _ => rfl) he (by omega) (fun w vs ht hv => by
    subst hv
    obtain ⟨m, hm⟩ := max_is ht hne hg
    refine (h m w hm).mono ?_
    rintro e w' ⟨rfl, rfl⟩
    exact ⟨by rw [hl], ty, rfl⟩)
end Go.Gm
