/- For any key and any offset the law TraceNils answers true and leaves its arguments as they were. Conditions: the arguments are of bulk at most 1048576 together; the one variable of the library that the row lists holds what the program's text lays (the card ties it). -/
import Derived.Test.YtbdncmljibideaaGreatDoorRows
import Derived.Test.YtbdncmljibideaaGreatDoorCards
import Derived.Test.YtbdncmljibideaaGreatDoorTie
import Derived.Test.YtbdncmljibideaaGreatDoorGnUam
import Derived.WalkKit
import Derived.ProofKit
import Derived.OpenShut
import Derived.Deep.DeepHandedRow
import Derived.Deep.DeepLaidRun
import Derived.LaidLaws
import Derived.LaidHandle
set_option linter.all false
set_option linter.unusedVariables false
set_option linter.unusedSimpArgs false
set_option linter.all false
set_option maxRecDepth 8000
namespace Go.Proofs.YtbdncmljibideaaGreatDoor
open Go.Gm Go.Proofs.Yt Go.Proofs.Yt.Au Go.ChangeShapes Go.WideShapes Go.ChangeAt Go.RowKit
theorem bulk_all {H : Type} {d : DataW H} {l : List (DataW H)} (h : d ∈ l) : Rows.uptoBulk d ≤ Rows.uptoBulkAll l := by
  induction l with
  | nil => cases h
  | cons x r ih =>
    simp only [Rows.uptoBulkAll]
    cases List.mem_cons.1 h with
    | inl e => subst e; omega
    | inr e => have := ih e; omega
theorem bulk_one {H : Type} (d : DataW H) : 1 ≤ Rows.uptoBulk d := by
  cases d with
  | lit l => cases l <;> simp [Rows.uptoBulk]
  | _ => simp [Rows.uptoBulk]
theorem bulk_len {H : Type} (l : List (DataW H)) : l.length ≤ Rows.uptoBulkAll l := by
  induction l with
  | nil => simp [Rows.uptoBulkAll]
  | cons x r ih => have := bulk_one x; simp only [Rows.uptoBulkAll, List.length_cons]; omega
theorem bulkOk : BulkOk (fun _ d => Rows.uptoBulk d) where
  str := fun bs => by simp [Rows.uptoBulk]
  len := fun l s => by have := bulk_len l; simp only [Rows.uptoBulk]; omega
  elem := fun l s d h => by have := bulk_all h; simp only [Rows.uptoBulk]; omega
  part := fun l d h => by have := bulk_all h; simp only [Rows.uptoBulk]; omega
  ptr := fun d => by simp only [Rows.uptoBulk]; omega
def V9 (n : Nat) (x : ByteArray) : Prop := x.size ≤ n
theorem t9 : TypR (fun _ d => Rows.uptoBulk d) Tryz.prog 9 enc9 V9 :=
  typ_str bulkOk Tryz.underlying9
def V3 (n : Nat) (x : Int) : Prop := IntKind.min .i64 ≤ x ∧ x ≤ IntKind.max .i64
theorem t3 : TypR (fun _ d => Rows.uptoBulk d) Tryz.prog 3 enc3 V3 :=
  typ_int Tryz.underlying3
theorem tables {W : World} (h : laidMetH Tryz.prog Rows.traceNilsUptoRow.laid W) (hsh : W.ShapedOpen Tryz.prog) : TabH Tryz.prog (fun _ => False) W := tables_of h hsh
theorem contract (H : Type) (enc : TypeId × Value → H) (W : World) (base : Nat) (args : Array Value) (ds gs : List (DataW H)) (before : List MemPlace)
    (hval : ∀ (j : Nat) t v, Tryz.f5.params[j]? = some t → args[j]? = some v → Value.okWide Tryz.prog W .any base t v)
    (hW : DataW.Whole enc Tryz.prog Tryz.f5.params.toList Rows.traceNilsSpec.vars false W args.toList ds gs before) (hk : Rows.uptoSmall H (ds ++ gs) = true) (hL : laidMetH Tryz.prog Rows.traceNilsUptoRow.laid W) (hsh : W.ShapedOpen Tryz.prog) :
    Calls Tryz.prog 5 args W fun e W' => ∃ v, e = .returned v ∧ Rows.traceNilsSpec.post enc Tryz.prog Tryz.f5 false true false false W args v W' := by
  have hb : Rows.uptoBulkAll (ds ++ gs) ≤ 1048576 := of_decide_eq_true hk
  have h1 : laidOutB Tryz.prog = true := by kernel_rfl
  have h2 : ([9, 3].all fun t => Tryz.prog.readableRec t && decide (t < Tryz.prog.types.size)) = true := by kernel_rfl
  have h3 : Tryz.f5.resultTypes = #[4] := by kernel_rfl
  refine law_end (P := Tryz.prog) (enc := enc) (W := W) (base := base) (args := args) (ds := ds) (gs := gs) (before := before) (f := 5) (fn := Tryz.f5) (s := Rows.traceNilsSpec) (ts := [9, 3]) (n := 1048576) (arg_cons Tryz.underlying9 rfl t9 (arg_cons Tryz.underlying3 rfl t3 arg_nil)) (fun x hx => ?_) h1 h2 rfl h3 Tryz.underlying4 Tryz.params5 ?_ ?_ ?_ ?_ (tables hL hsh)
  rotate_left 2
  · exact @hval
  · exact hW
  · exact fun d hd => Nat.le_trans (bulk_all (List.mem_append_left _ hd)) hb
  · obtain ⟨x, n, _⟩ := x
    exact ok5 x n true (law5 x n)
  · intro ds hl
    match ds, hl with
    | [_, _], _ => rfl

noncomputable def laidWorld (os : Os) : World :=
  { World.holding Tryz.prog os ⟨#[], #[], []⟩ with heap := ((World.holding Tryz.prog os ⟨#[], #[], []⟩).heap.modify 0 fun | .cells _ t frozen => .cells #[.iface 137 (.agg #[.pointer (some ⟨2, 28, none⟩)])] t frozen | o => o) }
theorem laid_met (os : Os) : laidMetH Tryz.prog Rows.traceNilsUptoRow.laid ((laidWorld os).forCall (fun _ _ => 0) ⟨#[], #[.string ⟨#[]⟩, .int .i64 0], []⟩).memory :=
  laidMetH_of_parts (laidMet_nil _ _) (by kernel_rfl)
theorem reads (os : Os) {H : Type} (enc : TypeId × Value → H) : ∃ places, DataW.whole enc Tryz.prog ((laidWorld os).forCall (fun _ _ => 0) ⟨#[], #[.string ⟨#[]⟩, .int .i64 0], []⟩).memory Tryz.f5.params.toList Rows.traceNilsSpec.vars false (#[.string ⟨#[]⟩, .int .i64 0] : Array Value).toList 8 = some ([.lit (.string []), .lit (.int .i64 0)], [], places) :=
  ⟨[], by kernel_rfl⟩
theorem own : ownKnob Tryz.prog.godebug = none := by kernel_rfl

set_option maxRecDepth 100000 in
theorem lifted (os : Os) (started : os.Started) (H : Type) (enc : TypeId × Value → H) (F : Stop.Interp) :
    ReturnsInHanded {} Tryz.checked os 5 .any ((Rows.OpenSpec.upto Rows.traceNilsSpec).preRow enc Tryz.prog Tryz.f5 Rows.traceNilsUptoRow.domain false Rows.traceNilsUptoRow.laid) (((Rows.OpenSpec.upto Rows.traceNilsSpec).at F).post enc Tryz.prog Tryz.f5 false true false false) := by
  obtain ⟨places, hx⟩ := reads os enc
  refine returnsInHanded_of_row (C := Tryz.checked) (s := Rows.OpenSpec.upto Rows.traceNilsSpec) own started (by kernel_rfl) Tryz.func5
    (witness_row_at (enc := enc) (C := Tryz.checked) false (laidWorld os) #[.string ⟨#[]⟩, .int .i64 0] rfl (by kernel_rfl) (by kernel_rfl) (by kernel_rfl)
      (OpenSpec.preRow_of_cond 8 hx (by kernel_rfl) (fun k hk => by cases hk; kernel_rfl) (by kernel_rfl) (laid_met os))) ?_
  intro W base args ds gs before hval hW _ hcond _ hL hsh _
  exact contract H enc W base args ds gs before @hval hW (hcond _ rfl) hL hsh

theorem over : Rows.traceNilsUptoRow.holds Tryz.pinned (Rows.OpenSpec.upto Rows.traceNilsSpec) :=
  OpenClaim.holds_of_cond 5 Tryz.f5 rfl rfl rfl rfl rfl rfl rfl ⟨rfl, rfl, rfl, rfl, rfl⟩ rfl rfl rfl rfl rfl (by kernel_rfl) Tryz.func5 (by kernel_rfl)
    (of_decide_eq_true (by kernel_rfl)) (by unfold Func.isWrapper; first | (rw [if_pos (by decide +kernel)]; kernel_rfl) | (rw [if_neg (by decide +kernel)]; exact ⟨rfl, rfl⟩))
    (fun os started H enc _ F => by rw [OpenClaim.pre_eq_preRow]; exact lifted os started H enc F)

theorem plain (f : FuncId) (fn : Func) (hf : Tryz.pinned.checked.prog.funcNamed "gristmill/gristmilllaw32.TraceNils" = some f) (hfn : Tryz.pinned.checked.prog.funcs[f]? = some fn) :
    true = Tryz.pinned.checked.prog.looks [] ∧ ∀ (j : Nat) t, fn.params[j]? = some t → Tryz.pinned.checked.prog.wantsStandIn t = false := by
  obtain rfl : f = 5 := Option.some.inj ((show Tryz.prog.funcNamed "gristmill/gristmilllaw32.TraceNils" = some 5 by kernel_rfl).symm.trans hf) |>.symm
  obtain rfl : fn = Tryz.f5 := (Option.some.inj (Tryz.func5.symm.trans hfn)).symm
  refine ⟨by kernel_rfl, fun j t ht => ?_⟩
  have hm := Array.mem_of_getElem? ht
  rw [Tryz.params5] at hm
  have hall : (([9, 3] : List Nat).all fun t => Tryz.prog.wantsStandIn t == false) = true := by kernel_rfl
  have hm' : t ∈ ([9, 3] : List Nat) := by simpa using hm
  have := List.all_eq_true.1 hall t hm'
  exact (show Tryz.prog.wantsStandIn t = false by simpa using this)

theorem traceNils_proved : Rows.TraceNilsUptoCardSaid :=
  Claim7.holds_tied_plain_at .later [] _ _ _ _ over (fun _ h => by cases h) (by kernel_rfl) (fun _ h => by cases h) traceNilsUpto_row_tie rfl ⟨rfl, rfl⟩ (by kernel_rfl) rfl plain (by kernel_rfl)
end Go.Proofs.YtbdncmljibideaaGreatDoor
