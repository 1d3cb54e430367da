/- A laying of the kit's shelf at this program, as its tools write it. -/
import Derived.Shelf.SlIterI.Collect
import Derived.Ground.GgzProg
import Derived.Test.YtncdjladnpogiaaProg
set_option linter.all false
set_option linter.unusedVariables false
set_option linter.unusedSimpArgs false
namespace Go.Proofs
open Go.Shelf
def Try.lz8_ren : Go.Shelf.Ren := ⟨fun | 8 => 41 | 11 => 55 | n => n, fun | 26 => 3 | 28 => 70 | 24 => 25 | 0 => 0 | 33 => 83 | 4 => 4 | n => n, fun | n => n⟩
theorem Try.lz8 : Go.Proofs.SlLaysZI.n8 Try.prog Try.lz8_ren := {
  mixed := by kernel_rfl
  f8 := ⟨Try.f41.name, by decide, Try.func41.trans (congrArg some (by kernel_rfl))⟩
  f11 := ⟨Try.f55.name, by decide, Try.func55.trans (congrArg some (by kernel_rfl))⟩
  t0 := Try.underlying0
  a0 := Try.isAgg0
  z0 := Try.sizeOf0
  v0 := Try.zeroValue0
  t24 := Try.underlying25
  a24 := Try.isAgg25
  z24 := Try.sizeOf25
  v24 := Try.zeroValue25
  t26 := Try.underlying3
  a26 := Try.isAgg3
  z26 := Try.sizeOf3
  v26 := Try.zeroValue3
  t28 := Try.underlying70
  a28 := Try.isAgg70
  z28 := Try.sizeOf70
  v28 := Try.zeroValue70
  i26 := by kernel_rfl }
end Go.Proofs
