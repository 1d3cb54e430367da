import Derived.Test.YtlonihmeikmpiaaDoorGfDN
import Derived.Test.YtlonihmeikmpiaaDoorGfLT
import Derived.Test.YtlonihmeikmpiaaDoorGfBQ
set_option linter.all false
set_option linter.unusedVariables false
set_option linter.unusedSimpArgs false
set_option linter.all false
set_option maxRecDepth 8000
set_option maxHeartbeats 1000000
namespace Go.Proofs.Yd
open Go.Gm
namespace Au
noncomputable def f33 (a0 : ByteArray) : Option ByteArray := if a0.size ≤ 1000000 then some ⟨(quoteL a0.data.toList).toArray⟩ else none
theorem ok33 (a0 : ByteArray) (r : ByteArray) (h : f33 a0 = some r) : PC Tryd.prog 33 [.val (.string a0)] (.val (.string r)) := by
  unfold f33 at h
  split at h
  rotate_left
  · cases h
  rename_i hl
  obtain rfl := Option.some.inj h
  refine pc_val (us := [.string a0]) (fun w vs ht hv => ?_) (by simp only [sealV_val])
  subst hv
  refine (Tryd.quote a0 w hl).mono ?_
  rintro e w' ⟨rfl, hB⟩
  exact ⟨rfl, hB.size, fun b hb => hB.block b hb, hB.os, hB.tape, hB.output⟩
end Au
end Go.Proofs.Yd
