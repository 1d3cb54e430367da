import Derived.Test.YtlonihmeikmpiaaGqDT
import Derived.Test.YtlonihmeikmpiaaGqLh
import Derived.Test.YtlonihmeikmpiaaGqSH
set_option linter.all false
set_option linter.unusedVariables false
set_option linter.unusedSimpArgs false
set_option linter.all false
set_option maxRecDepth 8000
set_option maxHeartbeats 1000000
namespace Go.Proofs.Y1
open Go.Gm
namespace Au
noncomputable def f103 (a0 : List ByteArray) : Option (List ByteArray) := if a0.length < 4611686018427387904 then some (compS a0) else none
theorem ok103 (a0 : List ByteArray) (r : List ByteArray) (h : f103 a0 = some r) : IC Try.prog 103 [some (.row 1 true (List.map enc9 a0))] [.own 0 0 a0.length] (.own 0 0 r.length) [some (.row 1 true (List.map enc9 r))] [] := by
  unfold f103 at h
  split at h
  rotate_left
  · cases h
  rename_i hl
  obtain rfl := Option.some.inj h
  exact ic_compS (fun _ => rfl) 103 (fun blk off cap l w hH hs hc => Try.slices_Compact_string blk off cap l w hH hs hc) (fun a cap w => Try.slices_Compact_string_empty a cap w) a0 hl
end Au
end Go.Proofs.Y1
