/- For any bytes, of bulk at most 1048576, the law ScriptGets answers true and leaves its argument as it was. Conditions: none but that bound. -/
import Derived.Test.YtlonihmeikmpiaaRows
import Derived.Test.YtlonihmeikmpiaaGnS3G
import Derived.WalkKit
import Derived.ProofKit
import Derived.OpenShut
import Derived.JoinedCond
set_option linter.all false
set_option linter.unusedVariables false
set_option linter.unusedSimpArgs false
set_option maxRecDepth 8000
namespace Go.Proofs.Ytlonihmeikmpiaa
open Go.Gm Go.Proofs.Y1 Go.Proofs.Y1.Au Go.ChangeShapes Go.WideShapes Go.ChangeAt Go.RowKit
theorem bulk_all {H : Type} {d : DataW H} {l : List (DataW H)} (h : d ∈ l) : Rows.uptoBulk d ≤ Rows.uptoBulkAll l := by
  induction l with
  | nil => cases h
  | cons x r ih =>
    simp only [Rows.uptoBulkAll]
    cases List.mem_cons.1 h with
    | inl e => subst e; omega
    | inr e => have := ih e; omega
theorem bulk_one {H : Type} (d : DataW H) : 1 ≤ Rows.uptoBulk d := by
  cases d with
  | lit l => cases l <;> simp [Rows.uptoBulk]
  | _ => simp [Rows.uptoBulk]
theorem bulk_len {H : Type} (l : List (DataW H)) : l.length ≤ Rows.uptoBulkAll l := by
  induction l with
  | nil => simp [Rows.uptoBulkAll]
  | cons x r ih => have := bulk_one x; simp only [Rows.uptoBulkAll, List.length_cons]; omega
theorem bulkOk : BulkOk (fun _ d => Rows.uptoBulk d) where
  str := fun bs => by simp [Rows.uptoBulk]
  len := fun l s => by have := bulk_len l; simp only [Rows.uptoBulk]; omega
  elem := fun l s d h => by have := bulk_all h; simp only [Rows.uptoBulk]; omega
  part := fun l d h => by have := bulk_all h; simp only [Rows.uptoBulk]; omega
  ptr := fun d => by simp only [Rows.uptoBulk]; omega
def V5 (n : Nat) (x : Int) : Prop := IntKind.min .u8 ≤ x ∧ x ≤ IntKind.max .u8
theorem t5 : TypR (fun _ d => Rows.uptoBulk d) Try.prog 5 enc5 V5 :=
  typ_int Try.underlying5
def V41 (n : Nat) (x : List Int) : Prop := x.length ≤ n ∧ ∀ y ∈ x, V5 n y
theorem t41 : TypR (fun _ d => Rows.uptoBulk d) Try.prog 41 (fun l => [.sl (List.map enc5 l)]) V41 :=
  typ_slice (sz := 1) bulkOk Try.underlying41 t5 (by kernel_rfl) (by decide)
theorem contract (H : Type) (enc : TypeId × Value → H) (W : World) (base : Nat) (args : Array Value) (ds gs : List (DataW H)) (before : List MemPlace)
    (hval : ∀ (j : Nat) t v, Try.f5.params[j]? = some t → args[j]? = some v → Value.okWide Try.prog W .any base t v)
    (hW : DataW.Whole enc Try.prog Try.f5.params.toList Rows.scriptGetsSpec.vars false W args.toList ds gs before) (hk : Rows.uptoSmall H (ds ++ gs) = true) :
    Calls Try.prog 5 args W fun e W' => ∃ v, e = .returned v ∧ Rows.scriptGetsSpec.post enc Try.prog Try.f5 false true false false W args v W' := by
  have hb : Rows.uptoBulkAll (ds ++ gs) ≤ 1048576 := of_decide_eq_true hk
  have h1 : laidOutB Try.prog = true := by kernel_rfl
  have h2 : ([41].all fun t => Try.prog.readableRec t && decide (t < Try.prog.types.size)) = true := by kernel_rfl
  have h3 : Try.f5.resultTypes = #[4] := by kernel_rfl
  refine law_end (P := Try.prog) (enc := enc) (W := W) (base := base) (args := args) (ds := ds) (gs := gs) (before := before) (f := 5) (fn := Try.f5) (s := Rows.scriptGetsSpec) (ts := [41]) (n := 1048576) (arg_cons Try.underlying41 rfl t41 arg_nil) (fun x hx => ?_) h1 h2 rfl h3 Try.underlying4 Try.params5 ?_ ?_ ?_ ?_
  rotate_left 2
  · exact @hval
  · exact hW
  · exact fun d hd => Nat.le_trans (bulk_all (List.mem_append_left _ hd)) hb
  · obtain ⟨a, _⟩ := x
    obtain ⟨⟨_, ha⟩, _⟩ := hx
    refine ok5 a true (law5 fun y hy => ?_)
    have h := ha y hy
    have e1 : IntKind.min .u8 = 0 := rfl
    have e2 : IntKind.max .u8 = 255 := rfl
    unfold V5 at h
    rw [e1, e2] at h
    exact ⟨by omega, by omega⟩
  · intro ds hl
    match ds, hl with
    | [_], _ => rfl

set_option maxRecDepth 100000 in
theorem lifted (os : Os) (started : os.Started) (H : Type) (enc : TypeId × Value → H) (F : Stop.Interp) :
    ReturnsInHanded {} Try.checked os 5 .any ((Rows.OpenSpec.upto Rows.scriptGetsSpec).pre6 enc Try.prog Try.f5 Rows.scriptGetsUptoRow.domain false) (((Rows.OpenSpec.upto Rows.scriptGetsSpec).at F).post enc Try.prog Try.f5 false true false false) := by
  refine returnsInHanded_of_cond (C := Try.checked) (s := Rows.OpenSpec.upto Rows.scriptGetsSpec) (k := Rows.uptoSmall) rfl (by kernel_rfl) started (by kernel_rfl) Try.func5
    (OpenSpec.witness (enc := enc) (C := Try.checked) (s := Rows.OpenSpec.upto Rows.scriptGetsSpec) (k := Rows.uptoSmall) rfl false ⟨#[], #[.slice none 0 0], []⟩ 8 (by kernel_rfl) (by kernel_rfl) (by kernel_rfl)
      (x := ([.nil], [], [])) (by kernel_rfl) rfl (by kernel_rfl)) ?_
  intro W base args ds gs before hval hW _ hk _
  exact contract H enc W base args ds gs before @hval hW hk

theorem over : Rows.scriptGetsUptoRow.holds Try.pinned (Rows.OpenSpec.upto Rows.scriptGetsSpec) :=
  OpenClaim.holds_of_cond 5 Try.f5 rfl rfl rfl rfl rfl rfl rfl ⟨rfl, rfl, rfl, rfl, rfl⟩ rfl rfl rfl rfl rfl (by kernel_rfl) Try.func5 (by kernel_rfl)
    (of_decide_eq_true (by kernel_rfl)) (by unfold Func.isWrapper; first | (rw [if_pos (by decide +kernel)]; kernel_rfl) | (rw [if_neg (by decide +kernel)]; exact ⟨rfl, rfl⟩))
    (fun os started H enc _ F => lifted os started H enc F)

theorem scriptGets_proved : Rows.ScriptGetsUptoSaid := over
end Go.Proofs.Ytlonihmeikmpiaa
