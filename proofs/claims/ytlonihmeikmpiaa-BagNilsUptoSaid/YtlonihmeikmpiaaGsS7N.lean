import Derived.Test.YtlonihmeikmpiaaGsS7A
import Derived.Test.YtlonihmeikmpiaaGsW4
set_option linter.all false
set_option linter.unusedVariables false
set_option linter.unusedSimpArgs false
set_option linter.all false
set_option maxRecDepth 8000
namespace Go.Proofs.Y1
open Go.Gm
namespace Au
/-! BagNils -/
theorem law9 (a : Act) : f9 a = some true := by
  have h36 : f36 [(⟨0, 0, []⟩ : Msg)] [⟨0, 0, []⟩] = some true := same_refl (by simp)
  have w0 : IntKind.i64.wrap 0 = 0 := i64_id (by omega) (by omega)
  simp only [f9, f35_nil, f81_nil, f42_nil, f37_nil, f38_nil, f39_nil, f50_nil, f43_nil, f49_nil, f40_nil, f41_nil, f34, Option.bind_some, h36, live7, if_true, Bool.false_eq_true, if_false, List.length_nil, Int.natCast_zero, Int.add_zero, w0]
end Au
end Go.Proofs.Y1
