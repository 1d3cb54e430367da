import Derived.Test.YtlonihmeikmpiaaGqDT
import Derived.Test.YtlonihmeikmpiaaGqLh
import Derived.Test.YtlonihmeikmpiaaGqSH
set_option linter.all false
set_option linter.unusedVariables false
set_option linter.unusedSimpArgs false
set_option linter.all false
set_option maxRecDepth 8000
set_option maxHeartbeats 1000000
namespace Go.Proofs.Y1
open Go.Gm
namespace Au
noncomputable def f176 (a0 a1 : ByteArray) : Option Int := some (cmpS a0 a1)
theorem ok176 (a0 a1 : ByteArray) (r : Int) (h : f176 a0 a1 = some r) : PC Try.prog 176 [.val (.string a0), .val (.string a1)] (.val (.int .i64 r)) := by
  obtain rfl := Option.some.inj h
  exact pc_scmp 176 (fun w => Try.strings_Compare a0 a1 w)
end Au
end Go.Proofs.Y1
