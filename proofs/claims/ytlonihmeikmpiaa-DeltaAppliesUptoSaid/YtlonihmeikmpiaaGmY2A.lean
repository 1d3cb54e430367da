import Derived.Test.YtlonihmeikmpiaaGmLf
import Derived.Test.YtlonihmeikmpiaaGmAF
import Derived.Test.YtlonihmeikmpiaaGmY1M
set_option linter.all false
set_option linter.unusedVariables false
set_option linter.unusedSimpArgs false
set_option linter.all false
set_option maxRecDepth 8000
namespace Go.Proofs.Y1
open Go.Gm
attribute [go_sem] encInt encRes encCh encI
theorem ml_encInt (l : List Int) : (∀ r ∈ l.map encInt, r.length = 1) = True := forall_map (f := encInt) (fun _ => rfl) l
theorem ir_encInt (l : List Int) : inlR (l.map encInt) = true := ir_I l
theorem ml_encRes (l : List Res) : (∀ r ∈ l.map encRes, r.length = 3) = True := forall_map (f := encRes) (fun _ => rfl) l
theorem ir_encRes (l : List Res) : inlR (l.map encRes) = true := ir_Res l
theorem ml_encCh (l : List Change) : (∀ r ∈ l.map encCh, r.length = 4) = True := forall_map (f := encCh) (fun _ => rfl) l
theorem ir_encCh (l : List Change) : inlR (l.map encCh) = true := ir_Ch l
attribute [go_sem] ml_encInt ir_encInt ml_encRes ir_encRes ml_encCh ir_encCh
open Classical in
noncomputable def x13 (l : List Res) : Option Bool := if l.length ≤ 1152921504606846976 ∧ Sane l then some (decide (Much l)) else none
open Classical in
theorem xok13 (l : List Res) (r : Bool) (h : x13 l = some r) : PC Try.prog 13 [.sl (List.map encRes l)] (.val (.bool r)) := by
  unfold x13 at h; split at h
  · rename_i hc; cases h; exact w13 l hc.1 hc.2
  · cases h
noncomputable def x14 : Option Bool := some true
theorem xok14 (r : Bool) (h : x14 = some r) : PC Try.prog 14 [] (.val (.bool r)) := by
  cases h; exact w14
open Classical in
noncomputable def x18 (l : List Res) : Option Bool := if l.length ≤ 34359738368 ∧ KeyS l then some (decide (Right l)) else none
open Classical in
theorem xok18 (l : List Res) (r : Bool) (h : x18 l = some r) : PC Try.prog 18 [.sl (List.map encRes l)] (.val (.bool r)) := by
  unfold x18 at h; split at h
  · rename_i hc; cases h; exact w18 l hc.1 hc.2
  · cases h
open Classical in
noncomputable def x19 (a : List Res) (l : List Change) : Option (List Res × Int) := if a.length + l.length ≤ 34359738368 ∧ Offs a ∧ OffsC l then some (if Right a ∧ OrdC l then applyL a l else ([], 3)) else none
open Classical in
theorem xok19 (a : List Res) (l : List Change) (r : List Res × Int) (h : x19 a l = some r) : PC Try.prog 19 [.sl (List.map encRes a), .sl (List.map encCh l)] (.tup [.fr 3 (List.map encRes r.1), .val (.int .i64 r.2)]) := by
  unfold x19 at h; split at h
  · rename_i hc
    have := w19 a l hc.1 hc.2.1 hc.2.2
    cases h
    split
    · rename_i h2; rw [if_pos h2] at this; exact this
    · rename_i h2; rw [if_neg h2] at this; exact this
  · cases h
noncomputable def x20 (n : Int) : Option Int := some n
theorem xok20 (n r : Int) (h : x20 n = some r) : PC Try.prog 20 [.val (.int .i64 n)] (.val (.int .i64 r)) := by
  cases h; exact w20 n
open Classical in
noncomputable def x21 (a b : List Res) : Option Bool := if a.length ≤ 34359738368 ∧ Offs a then some (decide (a = b)) else none
open Classical in
theorem xok21 (a b : List Res) (r : Bool) (h : x21 a b = some r) : PC Try.prog 21 [.sl (List.map encRes a), .sl (List.map encRes b)] (.val (.bool r)) := by
  unfold x21 at h; split at h
  · rename_i hc; cases h; exact w21 a b hc.1 hc.2
  · cases h
noncomputable def x70 (a b : ByteArray) : Option Bool := if a.size ≤ 9223372036854775806 then some (sLt a b) else none
theorem xok70 (a b : ByteArray) (r : Bool) (h : x70 a b = some r) : PC Try.prog 70 [.val (.string a), .val (.string b)] (.val (.bool r)) := by
  unfold x70 at h; split at h
  · rename_i hc; cases h; exact w70 a b hc
  · cases h
end Go.Proofs.Y1
