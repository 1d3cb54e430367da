/-
  No cell of these rows narrows 'for every input' (looked for: loops, veiled, ifaces, maps, wideKeys, modest, calm, conditions, laid).
  DERIVED. THE GIVEN ROWS OF THIS SEAT. 10 by the template 'for every input the law returns true; each argument reads behind the call as it read before'; 0 by the template 'total and deterministic' (their statements: YtlonihmeikmpiaaTotals.lean).
  GIVEN WITH THE SEED: the statements are not yours to turn. If you find one false, say at which input.
  Laid BY PROGRAM, IN A SANDBOX (cutbox-rows.mjs): the forced cells as the released guide's own fill.sh prints them over the translation 7502628abbc61e0e… (all of the seat's roots in one cut). By AI agents, Wed Nov 11 2026. No macro, syntax, notation, axiom, sorry.
-/
import Derived.Test.YtlonihmeikmpiaaChecked
import GoSem.Claim
import GoSem.ClaimJoined
import GoSem.ClaimMapViews
import Derived.JoinedTies
import Derived.KernelRfl
namespace Go.Proofs.Ytlonihmeikmpiaa
/- THE CELL 'sum', in the pinned program and in every row, IS THE sha256 OF THE DUMP (.gsa) THAT YtlonihmeikmpiaaProg.lean LOADS. Nothing in Lean hashes anything: it is a label: what it is worth is what the hold of that sum in a sandbox is worth. -/
noncomputable def Try.pinned : Pinned := { name := "ytlonihmeikmpiaa", sum := "7502628abbc61e0ef4b59a3af58addfa1fa57879a0bfd5be2299f0eded126e29", checked := Try.checked }
namespace Rows
def none {H : Type} : Left H := { results := [], args := [] }

/-- 'gristmilllaw39.DeltaDiffs': WHATEVER THE INPUT: true; the input reads as it did. -/
def deltaDiffsSpec : ChangeSpec := { name := "deltaDiffs", fn := fun _ => fun
  | [d1, d2] => { results := [.lit (.bool true)], args := [d1, d2] }
  | _ => none }
def deltaDiffsRow : OpenClaim := { program := "ytlonihmeikmpiaa", sum := "7502628abbc61e0ef4b59a3af58addfa1fa57879a0bfd5be2299f0eded126e29", func := "gristmill/gristmilllaw39.DeltaDiffs", spec := "deltaDiffs", apart := false }
def DeltaDiffsSaid : Prop := deltaDiffsRow.holds Try.pinned (OpenSpec.ofChange deltaDiffsSpec)

/-- ITS FALSE NEIGHBOUR: 'it returns false'. Refute it at one input. -/
def deltaDiffsWrong : ChangeSpec := { name := "deltaDiffs", fn := fun _ => fun
  | [d1, d2] => { results := [.lit (.bool false)], args := [d1, d2] }
  | _ => none }
def DeltaDiffsWrongFalsely : Prop := deltaDiffsRow.holds Try.pinned (OpenSpec.ofChange deltaDiffsWrong)

/-- 'gristmilllaw39.DeltaApplies': WHATEVER THE INPUT: true; the input reads as it did. -/
def deltaAppliesSpec : ChangeSpec := { name := "deltaApplies", fn := fun _ => fun
  | [d1, d2] => { results := [.lit (.bool true)], args := [d1, d2] }
  | _ => none }
def deltaAppliesRow : OpenClaim := { program := "ytlonihmeikmpiaa", sum := "7502628abbc61e0ef4b59a3af58addfa1fa57879a0bfd5be2299f0eded126e29", func := "gristmill/gristmilllaw39.DeltaApplies", spec := "deltaApplies", apart := false }
def DeltaAppliesSaid : Prop := deltaAppliesRow.holds Try.pinned (OpenSpec.ofChange deltaAppliesSpec)

/-- ITS FALSE NEIGHBOUR: 'it returns false'. Refute it at one input. -/
def deltaAppliesWrong : ChangeSpec := { name := "deltaApplies", fn := fun _ => fun
  | [d1, d2] => { results := [.lit (.bool false)], args := [d1, d2] }
  | _ => none }
def DeltaAppliesWrongFalsely : Prop := deltaAppliesRow.holds Try.pinned (OpenSpec.ofChange deltaAppliesWrong)

/-- 'gristmilllaw31.ScriptGets': WHATEVER THE INPUT: true; the input reads as it did. -/
def scriptGetsSpec : ChangeSpec := { name := "scriptGets", fn := fun _ => fun
  | [d] => { results := [.lit (.bool true)], args := [d] }
  | _ => none }
def scriptGetsRow : OpenClaim := { program := "ytlonihmeikmpiaa", sum := "7502628abbc61e0ef4b59a3af58addfa1fa57879a0bfd5be2299f0eded126e29", func := "gristmill/gristmilllaw31.ScriptGets", spec := "scriptGets", unfollowed := true, recurses := true, apart := false }
def ScriptGetsSaid : Prop := scriptGetsRow.holds Try.pinned (OpenSpec.ofChange scriptGetsSpec)

/-- ITS FALSE NEIGHBOUR: 'it returns false'. Refute it at one input. -/
def scriptGetsWrong : ChangeSpec := { name := "scriptGets", fn := fun _ => fun
  | [d] => { results := [.lit (.bool false)], args := [d] }
  | _ => none }
def ScriptGetsWrongFalsely : Prop := scriptGetsRow.holds Try.pinned (OpenSpec.ofChange scriptGetsWrong)

/-- 'gristmilllaw07.BagKeeps': WHATEVER THE INPUT: true; the input reads as it did. -/
def bagKeepsSpec : ChangeSpec := { name := "bagKeeps", fn := fun _ => fun
  | [d] => { results := [.lit (.bool true)], args := [d] }
  | _ => none }
def bagKeepsRow : OpenClaim := { program := "ytlonihmeikmpiaa", sum := "7502628abbc61e0ef4b59a3af58addfa1fa57879a0bfd5be2299f0eded126e29", func := "gristmill/gristmilllaw07.BagKeeps", spec := "bagKeeps", inPlace := ["slices.overlaps[gristmill/api.Msg]"], apart := false }
def BagKeepsSaid : Prop := bagKeepsRow.holds Try.pinned (OpenSpec.ofChange bagKeepsSpec)

/-- ITS FALSE NEIGHBOUR: 'it returns false'. Refute it at one input. -/
def bagKeepsWrong : ChangeSpec := { name := "bagKeeps", fn := fun _ => fun
  | [d] => { results := [.lit (.bool false)], args := [d] }
  | _ => none }
def BagKeepsWrongFalsely : Prop := bagKeepsRow.holds Try.pinned (OpenSpec.ofChange bagKeepsWrong)

/-- 'gristmilllaw31.ScriptPuts': WHATEVER THE INPUT: true; the input reads as it did. -/
def scriptPutsSpec : ChangeSpec := { name := "scriptPuts", fn := fun _ => fun
  | [d1, d2] => { results := [.lit (.bool true)], args := [d1, d2] }
  | _ => none }
def scriptPutsRow : OpenClaim := { program := "ytlonihmeikmpiaa", sum := "7502628abbc61e0ef4b59a3af58addfa1fa57879a0bfd5be2299f0eded126e29", func := "gristmill/gristmilllaw31.ScriptPuts", spec := "scriptPuts", unfollowed := true, recurses := true, apart := false }
def ScriptPutsSaid : Prop := scriptPutsRow.holds Try.pinned (OpenSpec.ofChange scriptPutsSpec)

/-- ITS FALSE NEIGHBOUR: 'it returns false'. Refute it at one input. -/
def scriptPutsWrong : ChangeSpec := { name := "scriptPuts", fn := fun _ => fun
  | [d1, d2] => { results := [.lit (.bool false)], args := [d1, d2] }
  | _ => none }
def ScriptPutsWrongFalsely : Prop := scriptPutsRow.holds Try.pinned (OpenSpec.ofChange scriptPutsWrong)

/-- 'gristmilllaw07.BagPlays': WHATEVER THE INPUT: true; the input reads as it did. -/
def bagPlaysSpec : ChangeSpec := { name := "bagPlays", fn := fun _ => fun
  | [d1, d2, d3] => { results := [.lit (.bool true)], args := [d1, d2, d3] }
  | _ => none }
def bagPlaysRow : OpenClaim := { program := "ytlonihmeikmpiaa", sum := "7502628abbc61e0ef4b59a3af58addfa1fa57879a0bfd5be2299f0eded126e29", func := "gristmill/gristmilllaw07.BagPlays", spec := "bagPlays", inPlace := ["slices.overlaps[gristmill/api.Msg]"], apart := false }
def BagPlaysSaid : Prop := bagPlaysRow.holds Try.pinned (OpenSpec.ofChange bagPlaysSpec)

/-- ITS FALSE NEIGHBOUR: 'it returns false'. Refute it at one input. -/
def bagPlaysWrong : ChangeSpec := { name := "bagPlays", fn := fun _ => fun
  | [d1, d2, d3] => { results := [.lit (.bool false)], args := [d1, d2, d3] }
  | _ => none }
def BagPlaysWrongFalsely : Prop := bagPlaysRow.holds Try.pinned (OpenSpec.ofChange bagPlaysWrong)

/-- 'gristmilllaw07.BagNils': WHATEVER THE INPUT: true; the input reads as it did. -/
def bagNilsSpec : ChangeSpec := { name := "bagNils", fn := fun _ => fun
  | [d] => { results := [.lit (.bool true)], args := [d] }
  | _ => none }
def bagNilsRow : OpenClaim := { program := "ytlonihmeikmpiaa", sum := "7502628abbc61e0ef4b59a3af58addfa1fa57879a0bfd5be2299f0eded126e29", func := "gristmill/gristmilllaw07.BagNils", spec := "bagNils", inPlace := ["slices.overlaps[gristmill/api.Msg]"], apart := false }
def BagNilsSaid : Prop := bagNilsRow.holds Try.pinned (OpenSpec.ofChange bagNilsSpec)

/-- ITS FALSE NEIGHBOUR: 'it returns false'. Refute it at one input. -/
def bagNilsWrong : ChangeSpec := { name := "bagNils", fn := fun _ => fun
  | [d] => { results := [.lit (.bool false)], args := [d] }
  | _ => none }
def BagNilsWrongFalsely : Prop := bagNilsRow.holds Try.pinned (OpenSpec.ofChange bagNilsWrong)

/-- 'gristmilllaw40.StatsMedians': WHATEVER THE INPUT: true; the input reads as it did. -/
def statsMediansSpec : ChangeSpec := { name := "statsMedians", fn := fun _ => fun
  | [d] => { results := [.lit (.bool true)], args := [d] }
  | _ => none }
def statsMediansRow : OpenClaim := { program := "ytlonihmeikmpiaa", sum := "7502628abbc61e0ef4b59a3af58addfa1fa57879a0bfd5be2299f0eded126e29", func := "gristmill/gristmilllaw40.StatsMedians", spec := "statsMedians", unfollowed := true, recurses := true, apart := false }
def StatsMediansSaid : Prop := statsMediansRow.holds Try.pinned (OpenSpec.ofChange statsMediansSpec)

/-- ITS FALSE NEIGHBOUR: 'it returns false'. Refute it at one input. -/
def statsMediansWrong : ChangeSpec := { name := "statsMedians", fn := fun _ => fun
  | [d] => { results := [.lit (.bool false)], args := [d] }
  | _ => none }
def StatsMediansWrongFalsely : Prop := statsMediansRow.holds Try.pinned (OpenSpec.ofChange statsMediansWrong)

/-- 'gristmilllaw39.DeltaTouches': WHATEVER THE INPUT: true; the input reads as it did. -/
def deltaTouchesSpec : ChangeSpec := { name := "deltaTouches", fn := fun _ => fun
  | [d1, d2, d3] => { results := [.lit (.bool true)], args := [d1, d2, d3] }
  | _ => none }
def deltaTouchesRow : OpenClaim := { program := "ytlonihmeikmpiaa", sum := "7502628abbc61e0ef4b59a3af58addfa1fa57879a0bfd5be2299f0eded126e29", func := "gristmill/gristmilllaw39.DeltaTouches", spec := "deltaTouches", inPlace := ["internal/bytealg.abigen_runtime_cmpstring"], unfollowed := true, recurses := true, apart := false }
def DeltaTouchesSaid : Prop := deltaTouchesRow.holds Try.pinned (OpenSpec.ofChange deltaTouchesSpec)

/-- ITS FALSE NEIGHBOUR: 'it returns false'. Refute it at one input. -/
def deltaTouchesWrong : ChangeSpec := { name := "deltaTouches", fn := fun _ => fun
  | [d1, d2, d3] => { results := [.lit (.bool false)], args := [d1, d2, d3] }
  | _ => none }
def DeltaTouchesWrongFalsely : Prop := deltaTouchesRow.holds Try.pinned (OpenSpec.ofChange deltaTouchesWrong)

/-- 'gristmilllaw24.MergeAll': WHATEVER THE INPUT: true; the input reads as it did. -/
def mergeAllSpec : ChangeSpec := { name := "mergeAll", fn := fun _ => fun
  | [d1, d2, d3] => { results := [.lit (.bool true)], args := [d1, d2, d3] }
  | _ => none }
def mergeAllRow : OpenClaim := { program := "ytlonihmeikmpiaa", sum := "7502628abbc61e0ef4b59a3af58addfa1fa57879a0bfd5be2299f0eded126e29", func := "gristmill/gristmilllaw24.MergeAll", spec := "mergeAll", unfollowed := true, recurses := true, apart := false }
def MergeAllSaid : Prop := mergeAllRow.holds Try.pinned (OpenSpec.ofChange mergeAllSpec)

/-- ITS FALSE NEIGHBOUR: 'it returns false'. Refute it at one input. -/
def mergeAllWrong : ChangeSpec := { name := "mergeAll", fn := fun _ => fun
  | [d1, d2, d3] => { results := [.lit (.bool false)], args := [d1, d2, d3] }
  | _ => none }
def MergeAllWrongFalsely : Prop := mergeAllRow.holds Try.pinned (OpenSpec.ofChange mergeAllWrong)

/- THE SECOND FORM. 'bulk': how many values and letters a reading holds, each counted each time it is reached (what is shared counts as often as it is met; a slice's spare places count too). A statement '..UptoSaid' is the law's where the arguments, and the package variables that the reading takes, are together of bulk at most 1048576: NARROWER than '..Said'. Prove '..Said' where nothing that the law and all that it calls make is longer than what came in: it says more and counts as full. Else prove '..UptoSaid'. A law counts once. -/
mutual
def uptoBulk {H : Type} : DataW H → Nat
  | .lit (.string bytes) => bytes.length + 1
  | .lit _ => 1
  | .nil => 1
  | .ptr d => uptoBulk d + 1
  | .slice elems spare => uptoBulkAll elems + uptoBulkAll spare + 1
  | .agg parts => uptoBulkAll parts + 1
  | .iface _ d => uptoBulk d + 1
  | .map entries => uptoBulkEntries entries + 1
  | .held _ => 1
def uptoBulkAll {H : Type} : List (DataW H) → Nat
  | [] => 0
  | d :: r => uptoBulk d + uptoBulkAll r
def uptoBulkEntries {H : Type} : List (Lit × DataW H) → Nat
  | [] => 0
  | x :: r => uptoBulkEntry x + uptoBulkEntries r
def uptoBulkEntry {H : Type} : Lit × DataW H → Nat
  | (.string bytes, d) => bytes.length + uptoBulk d + 1
  | (_, d) => uptoBulk d + 1
 end
def uptoSmall : (H : Type) → List (DataW H) → Bool := fun _ ds => decide (uptoBulkAll ds ≤ 1048576)
def OpenSpec.upto (s : _root_.Go.ChangeSpec) : _root_.Go.OpenSpec := { _root_.Go.OpenSpec.ofChange s with cond := some uptoSmall }

/-- 'gristmilllaw39.DeltaDiffs', WHERE WHAT IT READS IS OF BULK AT MOST 1048576: true; the input reads as it did. -/
def deltaDiffsUptoRow : OpenClaim := { program := "ytlonihmeikmpiaa", sum := "7502628abbc61e0ef4b59a3af58addfa1fa57879a0bfd5be2299f0eded126e29", func := "gristmill/gristmilllaw39.DeltaDiffs", spec := "deltaDiffs", apart := false, narrowed := true }
def DeltaDiffsUptoSaid : Prop := deltaDiffsUptoRow.holds Try.pinned (OpenSpec.upto deltaDiffsSpec)

/-- 'gristmilllaw39.DeltaApplies', WHERE WHAT IT READS IS OF BULK AT MOST 1048576: true; the input reads as it did. -/
def deltaAppliesUptoRow : OpenClaim := { program := "ytlonihmeikmpiaa", sum := "7502628abbc61e0ef4b59a3af58addfa1fa57879a0bfd5be2299f0eded126e29", func := "gristmill/gristmilllaw39.DeltaApplies", spec := "deltaApplies", apart := false, narrowed := true }
def DeltaAppliesUptoSaid : Prop := deltaAppliesUptoRow.holds Try.pinned (OpenSpec.upto deltaAppliesSpec)

/-- 'gristmilllaw31.ScriptGets', WHERE WHAT IT READS IS OF BULK AT MOST 1048576: true; the input reads as it did. -/
def scriptGetsUptoRow : OpenClaim := { program := "ytlonihmeikmpiaa", sum := "7502628abbc61e0ef4b59a3af58addfa1fa57879a0bfd5be2299f0eded126e29", func := "gristmill/gristmilllaw31.ScriptGets", spec := "scriptGets", unfollowed := true, recurses := true, apart := false, narrowed := true }
def ScriptGetsUptoSaid : Prop := scriptGetsUptoRow.holds Try.pinned (OpenSpec.upto scriptGetsSpec)

/-- 'gristmilllaw07.BagKeeps', WHERE WHAT IT READS IS OF BULK AT MOST 1048576: true; the input reads as it did. -/
def bagKeepsUptoRow : OpenClaim := { program := "ytlonihmeikmpiaa", sum := "7502628abbc61e0ef4b59a3af58addfa1fa57879a0bfd5be2299f0eded126e29", func := "gristmill/gristmilllaw07.BagKeeps", spec := "bagKeeps", inPlace := ["slices.overlaps[gristmill/api.Msg]"], apart := false, narrowed := true }
def BagKeepsUptoSaid : Prop := bagKeepsUptoRow.holds Try.pinned (OpenSpec.upto bagKeepsSpec)

/-- 'gristmilllaw31.ScriptPuts', WHERE WHAT IT READS IS OF BULK AT MOST 1048576: true; the input reads as it did. -/
def scriptPutsUptoRow : OpenClaim := { program := "ytlonihmeikmpiaa", sum := "7502628abbc61e0ef4b59a3af58addfa1fa57879a0bfd5be2299f0eded126e29", func := "gristmill/gristmilllaw31.ScriptPuts", spec := "scriptPuts", unfollowed := true, recurses := true, apart := false, narrowed := true }
def ScriptPutsUptoSaid : Prop := scriptPutsUptoRow.holds Try.pinned (OpenSpec.upto scriptPutsSpec)

/-- 'gristmilllaw07.BagPlays', WHERE WHAT IT READS IS OF BULK AT MOST 1048576: true; the input reads as it did. -/
def bagPlaysUptoRow : OpenClaim := { program := "ytlonihmeikmpiaa", sum := "7502628abbc61e0ef4b59a3af58addfa1fa57879a0bfd5be2299f0eded126e29", func := "gristmill/gristmilllaw07.BagPlays", spec := "bagPlays", inPlace := ["slices.overlaps[gristmill/api.Msg]"], apart := false, narrowed := true }
def BagPlaysUptoSaid : Prop := bagPlaysUptoRow.holds Try.pinned (OpenSpec.upto bagPlaysSpec)

/-- 'gristmilllaw07.BagNils', WHERE WHAT IT READS IS OF BULK AT MOST 1048576: true; the input reads as it did. -/
def bagNilsUptoRow : OpenClaim := { program := "ytlonihmeikmpiaa", sum := "7502628abbc61e0ef4b59a3af58addfa1fa57879a0bfd5be2299f0eded126e29", func := "gristmill/gristmilllaw07.BagNils", spec := "bagNils", inPlace := ["slices.overlaps[gristmill/api.Msg]"], apart := false, narrowed := true }
def BagNilsUptoSaid : Prop := bagNilsUptoRow.holds Try.pinned (OpenSpec.upto bagNilsSpec)

/-- 'gristmilllaw40.StatsMedians', WHERE WHAT IT READS IS OF BULK AT MOST 1048576: true; the input reads as it did. -/
def statsMediansUptoRow : OpenClaim := { program := "ytlonihmeikmpiaa", sum := "7502628abbc61e0ef4b59a3af58addfa1fa57879a0bfd5be2299f0eded126e29", func := "gristmill/gristmilllaw40.StatsMedians", spec := "statsMedians", unfollowed := true, recurses := true, apart := false, narrowed := true }
def StatsMediansUptoSaid : Prop := statsMediansUptoRow.holds Try.pinned (OpenSpec.upto statsMediansSpec)

/-- 'gristmilllaw39.DeltaTouches', WHERE WHAT IT READS IS OF BULK AT MOST 1048576: true; the input reads as it did. -/
def deltaTouchesUptoRow : OpenClaim := { program := "ytlonihmeikmpiaa", sum := "7502628abbc61e0ef4b59a3af58addfa1fa57879a0bfd5be2299f0eded126e29", func := "gristmill/gristmilllaw39.DeltaTouches", spec := "deltaTouches", inPlace := ["internal/bytealg.abigen_runtime_cmpstring"], unfollowed := true, recurses := true, apart := false, narrowed := true }
def DeltaTouchesUptoSaid : Prop := deltaTouchesUptoRow.holds Try.pinned (OpenSpec.upto deltaTouchesSpec)

/-- 'gristmilllaw24.MergeAll', WHERE WHAT IT READS IS OF BULK AT MOST 1048576: true; the input reads as it did. -/
def mergeAllUptoRow : OpenClaim := { program := "ytlonihmeikmpiaa", sum := "7502628abbc61e0ef4b59a3af58addfa1fa57879a0bfd5be2299f0eded126e29", func := "gristmill/gristmilllaw24.MergeAll", spec := "mergeAll", unfollowed := true, recurses := true, apart := false, narrowed := true }
def MergeAllUptoSaid : Prop := mergeAllUptoRow.holds Try.pinned (OpenSpec.upto mergeAllSpec)

end Rows
end Go.Proofs.Ytlonihmeikmpiaa
