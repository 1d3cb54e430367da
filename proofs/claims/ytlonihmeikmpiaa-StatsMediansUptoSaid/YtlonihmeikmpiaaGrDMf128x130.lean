import Derived.Test.YtlonihmeikmpiaaGrDM
import Derived.Test.YtlonihmeikmpiaaGrVJ
set_option linter.all false
set_option linter.unusedVariables false
set_option linter.unusedSimpArgs false
set_option linter.all false
set_option maxRecDepth 8000
set_option maxHeartbeats 1000000
namespace Go.Proofs.Y1
open Go.Gm
namespace Au
noncomputable def f128_130 (a0 : List Int) : Option (List Int) := if a0.length ≤ 2147483648 then some a0 else none
theorem ok128_130 (a0 : List Int) (r : List Int) (h : f128_130 a0 = some r) : PC Try.prog 128 [.clo (.func 130) [] [.ip [.sl (List.map enc3 a0)]]] (.fr 1 (List.map enc3 r)) := by
  unfold f128_130 at h
  split at h
  rotate_left
  · cases h
  rename_i hl
  obtain rfl := Option.some.inj h
  exact pc_collect (fun _ => rfl) a0 hl
end Au
end Go.Proofs.Y1
