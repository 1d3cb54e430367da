import Derived.Test.YtlonihmeikmpiaaGpS3F
import Derived.Test.YtlonihmeikmpiaaGpW9
import Derived.Test.YtlonihmeikmpiaaGpDBf5
set_option linter.all false
set_option linter.unusedVariables false
set_option linter.unusedSimpArgs false
set_option linter.all false
set_option maxRecDepth 8000
namespace Go.Proofs.Y1
open Go.Gm
namespace Au
theorem f69_refl {l : List Int} (hl : l.length ≤ 1000000) : f69 l l = some true := by
  have key : ∃ r, loopO (f69_s1 l l) 0 = some r ∧ r = .inr () := by
    refine loopO_of (fun n (i : Int) => 0 ≤ i ∧ i ≤ l.length ∧ (n : Int) = l.length - i) ?_ (k := l.length) (s := 0) ⟨by omega, by omega, by omega⟩
    rintro n i ⟨h1, h2, h3⟩
    by_cases hi : i < (l.length : Int)
    · have hlt : i.toNat < l.length := by omega
      have hx : ix l i = some l[i.toNat] := ix_some.2 ⟨h1, List.getElem?_eq_getElem hlt⟩
      exact .inl ⟨i + 1, n - 1, by simp only [f69_s1, if_pos hi, hx, Option.bind_some, if_true, i64_id (show -9223372036854775808 ≤ i + 1 by omega) (by omega)], by omega, by omega, by omega, by omega⟩
    · exact .inr ⟨.inr (), by simp only [f69_s1, if_neg hi], rfl⟩
  obtain ⟨_, h, rfl⟩ := key
  simp only [f69, if_true, h, Option.bind_some]
theorem f28_refl {l : List Step} (hl : Good l) : f28 l l = some true := by
  have hlen := hl.1
  have key : ∃ r, loopO (f28_s1 l l) 0 = some r ∧ r = .inr () := by
    refine loopO_of (fun n (i : Int) => 0 ≤ i ∧ i ≤ l.length ∧ (n : Int) = l.length - i) ?_ (k := l.length) (s := 0) ⟨by omega, by omega, by omega⟩
    rintro n i ⟨h1, h2, h3⟩
    by_cases hi : i < (l.length : Int)
    · have hlt : i.toNat < l.length := by omega
      have hx : ix l i = some l[i.toNat] := ix_some.2 ⟨h1, List.getElem?_eq_getElem hlt⟩
      have hk := hl.2 _ (List.getElem_mem (show i.toNat < l.length by omega))
      exact .inl ⟨i + 1, n - 1, by simp only [f28_s1, if_pos hi, hx, Option.bind_some, if_true, f69_refl (show l[i.toNat].Keep.length ≤ 1000000 by omega), i64_id (show -9223372036854775808 ≤ i + 1 by omega) (by omega)], by omega, by omega, by omega, by omega⟩
    · exact .inr ⟨.inr (), by simp only [f28_s1, if_neg hi], rfl⟩
  obtain ⟨_, h, rfl⟩ := key
  simp only [f28, if_true, h, Option.bind_some]
theorem f26_refl {r : Run} (h : Good r.Steps) : f26 r r = some true := by
  simp only [f26, if_true, decide_true, Bool.and_self, f28_refl h, Option.bind_some]
def L3 : List Step := [⟨0, 0, 0, 0, []⟩, ⟨1, 1, 0, 0, []⟩, ⟨2, 0, 200, 0, []⟩]
theorem st0 : f29_s1 ([0, 1, 9, 2, 200], []) = some (.inl ([1, 9, 2, 200], [⟨0, 0, 0, 0, []⟩])) := by kernel_rfl
theorem st1 : f29_s1 ([1, 9, 2, 200], [⟨0, 0, 0, 0, []⟩]) = some (.inl ([2, 200], [⟨0, 0, 0, 0, []⟩, ⟨1, 1, 0, 0, []⟩])) := by kernel_rfl
theorem st2 : f29_s1 ([2, 200], [⟨0, 0, 0, 0, []⟩, ⟨1, 1, 0, 0, []⟩]) = some (.inl ([], L3)) := by kernel_rfl
theorem st3 : f29_s1 ([], L3) = some (.inr L3) := by kernel_rfl
theorem live_ok : f23 = some true := by
  have h : f29 [0, 1, 9, 2, 200] = some L3 := by
    simp only [f29]
    rw [loopO_next st0, loopO_next st1, loopO_next st2, loopO_done st3]; rfl
  have g : f28 L3 L3 = some true := f28_refl (by simp [Good, L3])
  simp only [f23, h, Option.bind_some]
  exact (congrArg (fun o => o.bind fun x2 => some x2) g).trans rfl
theorem law5 {b : List Int} (hb : Byt b) : f5 b = some true := by
  by_cases hl : 1500 < (b.length : Int)
  · simp only [f5, if_pos hl, live_ok, Option.bind_some]
  · obtain ⟨R, h1, h2, h3⟩ := get_eq hb (show b.length ≤ 1000000 by omega)
    obtain ⟨L, g1, g2, g3⟩ := run_eq (s := b) (by omega)
    simp only [f5, if_neg hl, h1, h2, Option.bind_some, f26_refl h3, if_true, f27, g1, g2, f28_refl g3, live_ok]
end Au
end Go.Proofs.Y1
