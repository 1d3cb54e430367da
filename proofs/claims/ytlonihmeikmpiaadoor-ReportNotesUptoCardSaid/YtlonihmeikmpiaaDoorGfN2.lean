import Derived.Test.YtlonihmeikmpiaaDoorGfN1
set_option linter.all false
set_option linter.unusedVariables false
set_option linter.unusedSimpArgs false
set_option linter.all false
set_option maxRecDepth 8000
namespace Go.Proofs.Yd
open Go.Gm Go.Lib
namespace Au
theorem bl_join (l : List ByteArray) (sep : ByteArray) : bl (joinS l sep) = join (l.map bl) (bl sep) := by
  show bl (lb _) = _
  rw [bl_lb]; rfl
theorem join_snoc {l : List (List UInt8)} (hl : l ≠ []) (y sep : List UInt8) : join (l ++ [y]) sep = join l sep ++ sep ++ y := by
  cases l with
  | nil => exact absurd rfl hl
  | cons x r =>
    rw [List.cons_append, join_cons, join_cons, joinTail, joinTail, List.map_append, List.flatten_append]
    simp
theorem joinS_snoc {l : List ByteArray} (hl : l ≠ []) (y sep : ByteArray) : joinS (l ++ [y]) sep = joinS l sep ++ sep ++ y := by
  apply bl_inj
  rw [bl_app, bl_app, bl_join, bl_join, List.map_append, List.map_cons, List.map_nil, join_snoc (by simpa using hl)]
theorem joinS_one (x sep : ByteArray) : joinS [x] sep = x := by
  apply bl_inj; rw [bl_join, List.map_cons, List.map_nil, join_one]
theorem joinS_nil (sep : ByteArray) : joinS [] sep = ⟨#[]⟩ := rfl
theorem tail_len {c : Nat} {sep : List UInt8} (hs : sep.length = 1) : ∀ {r : List (List UInt8)}, (∀ x ∈ r, x.length ≤ c) → (joinTail sep r).length ≤ r.length * (c + 1)
  | [], _ => by simp [joinTail]
  | x :: r, h => by
    have ih := tail_len hs (r := r) (fun y hy => h y (by simp [hy]))
    have hx := h x (by simp)
    simp only [joinTail, List.map_cons, List.flatten_cons, List.length_append, hs, List.length_cons] at ih ⊢
    rw [Nat.succ_mul]; omega
theorem joinS_size {c : Nat} {l : List ByteArray} {sep : ByteArray} (hs : sep.size = 1) (h : ∀ x ∈ l, x.size ≤ c) : (joinS l sep).size ≤ l.length * (c + 1) := by
  rw [size_bl, bl_join]
  cases l with
  | nil => simp [join_nil]
  | cons x r =>
    have ht := tail_len (c := c) (sep := bl sep) (by rw [← size_bl]; exact hs) (r := r.map bl) (fun y hy => by
      obtain ⟨z, hz, rfl⟩ := List.mem_map.1 hy
      rw [← size_bl]; exact h z (by simp [hz]))
    have hx := h x (by simp)
    rw [size_bl] at hx
    rw [List.map_cons, join_cons, List.length_append, List.length_cons, Nat.succ_mul]
    rw [List.length_map] at ht
    omega
theorem words_eq {l : List ByteArray} {sep : ByteArray} {c : Nat} (hs : sep.size = 1) (hl : l.length ≤ 1000000) (hc : c ≤ 1000000) (h : ∀ x ∈ l, x.size ≤ c) : f26 l sep = some (joinS l sep) := by
  have := joinS_size hs h
  have h2 : l.length * (c + 1) ≤ 1000000 * 1000001 := Nat.mul_le_mul hl (by omega)
  unfold f26
  rw [if_pos ⟨by omega, by omega⟩]
/-! ### entries -/
def sp : ByteArray := ⟨#[32]⟩
end Au
end Go.Proofs.Yd
