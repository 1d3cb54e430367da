import Derived.Test.YtlonihmeikmpiaaGqDT
import Derived.Test.YtlonihmeikmpiaaGqLh
import Derived.Test.YtlonihmeikmpiaaGqSH
set_option linter.all false
set_option linter.unusedVariables false
set_option linter.unusedSimpArgs false
set_option linter.all false
set_option maxRecDepth 8000
set_option maxHeartbeats 1000000
namespace Go.Proofs.Y1
open Go.Gm
namespace Au
noncomputable def f102 (a0 : List ByteArray) : Option (List ByteArray) := if a0.length < 4611686018427387904 then some (sortS a0) else none
theorem len102 {a r : List ByteArray} (h : f102 a = some r) : r.length = a.length := by
  unfold f102 at h
  split at h
  · rw [← Option.some.inj h]; exact sortS_len a
  · cases h
theorem ok102 (a0 : List ByteArray) (r : List ByteArray) (h : f102 a0 = some r) : IC Try.prog 102 [some (.row 1 true (List.map enc9 a0))] [.own 0 0 a0.length] (.tup []) [some (.row 1 true (List.map enc9 r))] [] := by
  unfold f102 at h
  split at h
  rotate_left
  · cases h
  rename_i hl
  obtain rfl := Option.some.inj h
  exact ic_sortS (fun _ => rfl) 102 (fun blk off cap l w hH hb hs => Try.slices_Sort_string blk off cap l w hH hb hs) (fun p cap w => Try.slices_Sort_string_none p cap w) a0 hl
end Au
end Go.Proofs.Y1
