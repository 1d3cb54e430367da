/- Contracts of the library's functions on plain values; those that read a table. -/
import Derived.Test.YtlonihmeikmpiaaDoorGfLB
import Derived.Lib.LaidTab
import Derived.Lib.ItoaNum
import Derived.Below
import Derived.Lib.Join
set_option linter.all false
set_option linter.unusedVariables false
set_option linter.unusedSimpArgs false
set_option linter.all false
namespace Go.Gm
open Go.Sort Go.Proofs Go.RowKit Go.Maps
theorem tab_is {P : Program} {m : Nat → Prop} {w : World} {g : Nat} (h : TabH P m w) (hg : P.globalNamed "internal/strconv.uint64pow10" = some g) : Lib.TabIs P w "internal/strconv.uint64pow10" .u64 Lib.pow10Tab := by
  have ht : tabs P g = some (fun cs => cs = (Lib.pow10Tab.map fun z => Value.int .u64 z).toArray) := by
    unfold tabs libTabs
    simp [hg]
  obtain ⟨h1, h2, cs, t, fz, h3, rfl⟩ := h g _ ht
  unfold Lib.TabIs World.var?
  simp only [hg, Option.bind_some, h3]
/-- The library's variable MaxLen holds a number. -/
theorem max_is {P : Program} {m : Nat → Prop} {w : World} {g : Nat} (h : TabH P m w) (hne : (P.globalNamed "internal/strconv.uint64pow10" == some g) = false) (hg : P.globalNamed "internal/bytealg.MaxLen" = some g) : ∃ m : Int, w.cell? ⟨g, 0, none⟩ = some (.int .i64 m) := by
  have ht : tabs P g = some (fun cs => ∃ m : Int, cs[0]? = some (.int .i64 m)) := by
    unfold tabs libTabs
    rw [List.find?_cons, hne]
    simp [hg]
  obtain ⟨h1, h2, cs, t, fz, h3, m, h4⟩ := h g _ ht
  exact ⟨m, by simp [World.cell?, h3, h4]⟩
/-- A contract on plain values: nothing that was there is touched. -/
theorem pc_val {P : Program} {f : FuncId} {us : List Value} {v : Value}
    (h : ∀ (w : World) (vs : List Value), TabH P (fun _ => False) w → vs = us → Calls P f vs.toArray w fun e w' => e = .returned v ∧ w.heap.size ≤ w'.heap.size ∧ (∀ b, b < w.heap.size → w'.heap[b]? = w.heap[b]?) ∧ w'.os = w.os ∧ w'.tape = w.tape ∧ w'.output = w.output)
    (hs : sealV (fun _ => none) (.val v) = some (.val v, [])) : PC P f (us.map .val) (.val v) := by
  intro m w vs hm ht hus
  refine (h w vs ht (relL_vals_eq hus)).mono ?_
  rintro e w' ⟨rfl, k1, k2, k3, k4, k5⟩
  refine ⟨_, fun _ => none, fun _ => False, fun _ => none, .val v, [], rfl, ?_, .val _, hs, List.nodup_nil⟩
  constructor
  · intro t o h; cases h
  · intro t _; rfl
  · intro t l h; cases h
  · intro t t' l l' h; cases h
  · exact k3
  · exact k4
  · exact k5
  · exact k1
  · intro b hb _; exact k2 b hb
  · rintro b ⟨t, o, l, h, _⟩; cases h
  · intro t l h; cases h
  · intro t h; exact absurd h (Nat.not_lt_zero t)
  · intro t l h; exact absurd h (Nat.not_lt_zero t)
/-- The same of one list and plain values behind it. -/
theorem pc_read {P : Program} {f : FuncId} {u : AV} {us : List Value} {v : Value}
    (h : ∀ (m : Nat → Prop) (w : World) (x : Value), TabH P (fun _ => False) w → Rel (E0 m w) u x → Calls P f (x :: us).toArray w fun e w' => e = .returned v ∧ w.heap.size ≤ w'.heap.size ∧ (∀ b, b < w.heap.size → w'.heap[b]? = w.heap[b]?) ∧ w'.os = w.os ∧ w'.tape = w.tape ∧ w'.output = w.output)
    (hs : sealV (fun _ => none) (.val v) = some (.val v, [])) : PC P f (u :: us.map .val) (.val v) := by
  intro m w vs hm ht hus
  cases hus with
  | cons hu hus =>
  rename_i x vs
  have e := relL_vals_eq hus
  subst e
  refine (h m w x ht hu).mono ?_
  rintro e w' ⟨rfl, k1, k2, k3, k4, k5⟩
  refine ⟨_, fun _ => none, fun _ => False, fun _ => none, .val v, [], rfl, ?_, .val _, hs, List.nodup_nil⟩
  constructor
  · intro t o h; cases h
  · intro t _; rfl
  · intro t l h; cases h
  · intro t t' l l' h; cases h
  · exact k3
  · exact k4
  · exact k5
  · exact k1
  · intro b hb _; exact k2 b hb
  · rintro b ⟨t, o, l, h, _⟩; cases h
  · intro t l h; cases h
  · intro t h; exact absurd h (Nat.not_lt_zero t)
  · intro t l h; exact absurd h (Nat.not_lt_zero t)
def joinS (l : List ByteArray) (sep : ByteArray) : ByteArray := ⟨(Lib.join (l.map (·.data.toList)) sep.data.toList).toArray⟩
theorem pc_join {P : Program} {enc : ByteArray → List AV} (he : ∀ x, enc x = [.val (.string x)]) (f : FuncId) (l : List ByteArray) (sep : ByteArray) (hl : l.length ≤ 140737488355328) (hj : (joinS l sep).size ≤ 140737488355328)
    (h : ∀ (bk o c : Nat) (xs : List ByteArray) (sep : ByteArray) (w : World), (∀ (j : Nat) x, xs[j]? = some x → w.cell? ⟨bk, o + j, none⟩ = some (.string x)) → bk < w.heap.size → xs.length ≤ 140737488355328 → xs.length ≤ c → (Lib.join (xs.map (·.data.toList)) sep.data.toList).length ≤ 140737488355328 →
      Calls P f #[.slice (some ⟨bk, o, none⟩) xs.length c, .string sep] w fun e w' => e = .returned (.string ⟨(Lib.join (xs.map (·.data.toList)) sep.data.toList).toArray⟩) ∧ Below w.heap.size w w')
    (h0 : ∀ (a : Option Addr) (c : Nat) (sep : ByteArray) (w : World), Calls P f #[.slice a 0 c, .string sep] w fun e w' => e = .returned (.string ⟨(Lib.join (([] : List ByteArray).map (·.data.toList)) sep.data.toList).toArray⟩) ∧ w' = w) :
    PC P f [.sl (l.map enc), .val (.string sep)] (.val (.string (joinS l sep))) := by
  have hj' : (Lib.join (l.map (·.data.toList)) sep.data.toList).length ≤ 140737488355328 := by simpa [joinS, ByteArray.size] using hj
  refine pc_read (us := [.string sep]) (fun m w x ht hx => ?_) (by simp only [sealV_val])
  generalize hr : l.map enc = rows at hx
  cases hx with
  | sl0 a c =>
    have : l = [] := by simpa using hr
    subst this
    refine (h0 a c sep w).mono ?_
    rintro e w' ⟨rfl, rfl⟩
    exact ⟨rfl, Nat.le_refl _, fun _ _ => rfl, rfl, rfl, rfl⟩
  | sl hb hm hne hsz hpos hcap h1 hc hrl =>
    rename_i b o cap sz vs
    have hlen : rows.length = l.length := by rw [← hr]; simp
    have hfl : rows.flatten = (l.map Value.string).map .val := by
      rw [← hr]
      clear hr hrl hne hsz hcap h1 hc hlen hj hj' hl
      induction l with
      | nil => rfl
      | cons x l ih => simp only [List.map_cons, List.flatten_cons, he, ih, List.cons_append, List.nil_append]
    rw [hfl] at hrl
    have hvs := relL_vals_eq hrl
    subst hvs
    rw [hlen] at hcap ⊢
    refine (h b o cap l sep w (fun j x hj => hc j (.string x) (by simp [hj])) hb hl hcap hj').mono ?_
    rintro e w' ⟨rfl, hB⟩
    exact ⟨rfl, hB.size, fun q hq => hB.block q hq, hB.os, hB.tape, hB.output⟩
def itoaS (n : Int) : ByteArray := ⟨(Lib.itoa n).toArray⟩
theorem pc_itoa {P : Program} (f : FuncId) {g : Nat} (hg : P.globalNamed "internal/strconv.uint64pow10" = some g) {n : Int} (h0 : -9223372036854775808 ≤ n) (h1 : n ≤ 9223372036854775807)
    (h : ∀ w, Lib.TabIs P w "internal/strconv.uint64pow10" .u64 Lib.pow10Tab → Calls P f #[.int .i64 n] w fun e w' => e = .returned (.string ⟨(Lib.itoa n).toArray⟩) ∧ ∃ k os, w' = grow (w.drewN k) os) : PC P f [.val (.int .i64 n)] (.val (.string (itoaS n))) := by
  refine pc_val (us := [.int .i64 n]) (fun w vs ht hvs => ?_) (by simp only [sealV_val])
  subst hvs
  refine (h w (tab_is ht hg)).mono ?_
  rintro e w' ⟨rfl, k, os, rfl⟩
  exact ⟨rfl, by simp, fun b hb => by rw [heap_grow_old _ _ (by simpa using hb)]; rfl, rfl, rfl, rfl⟩
end Go.Gm
