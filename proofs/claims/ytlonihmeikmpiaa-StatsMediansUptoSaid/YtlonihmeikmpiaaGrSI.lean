/- A laying of the kit's shelf at this program, as its tools write it. -/
import Derived.Shelf.SlIterI.Collect
import Derived.Ground.GgzProg
import Derived.Test.YtlonihmeikmpiaaProg
set_option linter.all false
set_option linter.unusedVariables false
set_option linter.unusedSimpArgs false
namespace Go.Proofs
open Go.Shelf
def Try.lz8_ren : Go.Shelf.Ren := ⟨fun | 8 => 128 | 11 => 144 | n => n, fun | 26 => 3 | 28 => 149 | 24 => 33 | 0 => 0 | 33 => 68 | 4 => 4 | n => n, fun | n => n⟩
theorem Try.lz8 : Go.Proofs.SlLaysZI.n8 Try.prog Try.lz8_ren := {
  mixed := by kernel_rfl
  f8 := ⟨Try.f128.name, by decide, Try.func128.trans (congrArg some (by kernel_rfl))⟩
  f11 := ⟨Try.f144.name, by decide, Try.func144.trans (congrArg some (by kernel_rfl))⟩
  t0 := Try.underlying0
  a0 := Try.isAgg0
  z0 := Try.sizeOf0
  v0 := Try.zeroValue0
  t24 := Try.underlying33
  a24 := Try.isAgg33
  z24 := Try.sizeOf33
  v24 := Try.zeroValue33
  t26 := Try.underlying3
  a26 := Try.isAgg3
  z26 := Try.sizeOf3
  v26 := Try.zeroValue3
  t28 := Try.underlying149
  a28 := Try.isAgg149
  z28 := Try.sizeOf149
  v28 := Try.zeroValue149
  i26 := by kernel_rfl }
end Go.Proofs
