import Derived.Test.YtlonihmeikmpiaaDoorGdDH
import Derived.Test.YtlonihmeikmpiaaDoorGdLT
import Derived.Test.YtlonihmeikmpiaaDoorGdSHd
set_option linter.all false
set_option linter.unusedVariables false
set_option linter.unusedSimpArgs false
set_option linter.all false
set_option maxRecDepth 8000
set_option maxHeartbeats 1000000
namespace Go.Proofs.Yd
open Go.Gm
namespace Au
noncomputable def f36 (a0 : Int) : Option ByteArray := if -9223372036854775808 ≤ a0 ∧ a0 ≤ 9223372036854775807 then some (itoaS a0) else none
theorem ok36 (a0 : Int) (r : ByteArray) (h : f36 a0 = some r) : PC Tryd.prog 36 [.val (.int .i64 a0)] (.val (.string r)) := by
  unfold f36 at h
  split at h
  rotate_left
  · cases h
  rename_i hl
  obtain rfl := Option.some.inj h
  exact pc_itoa 36 (g := 1) (by kernel_rfl) hl.1 hl.2 (fun w ht => Tryd.strconv_Itoa a0 hl.1 hl.2 w ht)
end Au
end Go.Proofs.Yd
