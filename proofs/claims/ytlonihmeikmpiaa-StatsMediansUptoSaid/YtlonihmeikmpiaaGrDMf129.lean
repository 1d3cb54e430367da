import Derived.Test.YtlonihmeikmpiaaGrDM
import Derived.Test.YtlonihmeikmpiaaGrLh
import Derived.Test.YtlonihmeikmpiaaGrSH
set_option linter.all false
set_option linter.unusedVariables false
set_option linter.unusedSimpArgs false
set_option linter.all false
set_option maxRecDepth 8000
set_option maxHeartbeats 1000000
namespace Go.Proofs.Y1
open Go.Gm
namespace Au
noncomputable def f129 (a0 : List Int) : Option (List Int) := if a0.length < 4611686018427387904 then some (sortI a0) else none
theorem len129 {a r : List Int} (h : f129 a = some r) : r.length = a.length := by
  unfold f129 at h
  split at h
  · rw [← Option.some.inj h]; exact sortI_len a
  · cases h
theorem ok129 (a0 : List Int) (r : List Int) (h : f129 a0 = some r) : IC Try.prog 129 [some (.row 1 true (List.map enc3 a0))] [.own 0 0 a0.length] (.tup []) [some (.row 1 true (List.map enc3 r))] [] := by
  unfold f129 at h
  split at h
  rotate_left
  · cases h
  rename_i hl
  obtain rfl := Option.some.inj h
  exact ic_sortI (fun _ => rfl) 129 (fun blk off cap l w hH hb hs => Try.slices_Sort_int blk off cap l w hH hb hs) (fun p cap w => Try.slices_Sort_int_none p cap w) a0 hl
end Au
end Go.Proofs.Y1
