import Derived.Test.YtlonihmeikmpiaaDoorGdDH
import Derived.Test.YtlonihmeikmpiaaDoorGdLT
import Derived.Test.YtlonihmeikmpiaaDoorGdSHd
set_option linter.all false
set_option linter.unusedVariables false
set_option linter.unusedSimpArgs false
set_option linter.all false
set_option maxRecDepth 8000
set_option maxHeartbeats 1000000
namespace Go.Proofs.Yd
open Go.Gm
namespace Au
noncomputable def f26 (a0 : List ByteArray) (a1 : ByteArray) : Option ByteArray := if a0.length ≤ 140737488355328 ∧ (joinS a0 a1).size ≤ 140737488355328 then some (joinS a0 a1) else none
theorem ok26 (a0 : List ByteArray) (a1 r : ByteArray) (h : f26 a0 a1 = some r) : PC Tryd.prog 26 [.sl (List.map enc9 a0), .val (.string a1)] (.val (.string r)) := by
  unfold f26 at h
  split at h
  rotate_left
  · cases h
  rename_i hl
  obtain rfl := Option.some.inj h
  exact pc_join (fun _ => rfl) 26 a0 a1 hl.1 hl.2 (fun bk o c xs sep w h1 h2 h3 h4 h5 => Tryd.strings_Join bk o c xs sep w h1 h2 h3 h4 h5) (fun a c sep w => Tryd.strings_Join_none a c sep w)
end Au
end Go.Proofs.Yd
