/- For any two lists of results, of bulk at most 1048576 together, the law DeltaDiffs answers true and leaves its arguments as they were. Conditions: none but that bound. -/
import Derived.Test.YtlonihmeikmpiaaRows
import Derived.Test.YtlonihmeikmpiaaGmY1M
import Derived.WalkKit
import Derived.ProofKit
import Derived.OpenShut
import Derived.JoinedCond
set_option linter.all false
set_option linter.unusedVariables false
set_option linter.unusedSimpArgs false
namespace Go.Proofs.Ytlonihmeikmpiaa
open Go.Gm Go.Proofs.Y1 Go.ChangeShapes Go.WideShapes Go.ChangeAt Go.RowKit

theorem bulk_all {H : Type} {d : DataW H} {l : List (DataW H)} (h : d ∈ l) : Rows.uptoBulk d ≤ Rows.uptoBulkAll l := by
  induction l with
  | nil => cases h
  | cons x r ih =>
    simp only [Rows.uptoBulkAll]
    cases List.mem_cons.1 h with
    | inl e => subst e; omega
    | inr e => have := ih e; omega
theorem bulk_one {H : Type} (d : DataW H) : 1 ≤ Rows.uptoBulk d := by
  cases d with
  | lit l => cases l <;> simp [Rows.uptoBulk]
  | _ => simp [Rows.uptoBulk]
theorem bulk_len {H : Type} (l : List (DataW H)) : l.length ≤ Rows.uptoBulkAll l := by
  induction l with
  | nil => simp [Rows.uptoBulkAll]
  | cons x r ih => have := bulk_one x; simp only [Rows.uptoBulkAll, List.length_cons]; omega
theorem bulkOk : BulkOk (fun _ d => Rows.uptoBulk d) where
  str := fun bs => by simp [Rows.uptoBulk]
  len := fun l s => by have := bulk_len l; simp only [Rows.uptoBulk]; omega
  elem := fun l s d h => by have := bulk_all h; simp only [Rows.uptoBulk]; omega
  part := fun l d h => by have := bulk_all h; simp only [Rows.uptoBulk]; omega
  ptr := fun d => by simp only [Rows.uptoBulk]; omega

theorem tRes : TypR (fun _ d => Rows.uptoBulk d) Try.prog 35 encRes (fun n r => r.key.size ≤ n ∧ r.val.size ≤ n ∧ r.offs.length ≤ n) :=
  TypR.map (typ_struct (L := 3) bulkOk Try.underlying35 rfl (by kernel_rfl) (fld_cons (s := 1) (typ_str bulkOk Try.underlying9) (by kernel_rfl) (by decide) (fld_cons (s := 1) (typ_str bulkOk Try.underlying9) (by kernel_rfl) (by decide)
    (fld_cons (s := 1) (typ_slice (sz := 1) bulkOk Try.underlying33 (typ_int Try.underlying3) (by kernel_rfl) (by decide)) (by kernel_rfl) (by decide) fld_nil)))) (fun x => ⟨x.1, x.2.1, x.2.2.1⟩) (fun _ => rfl) (fun n x h => ⟨h.1, h.2.1, h.2.2.1.1⟩)
theorem tResL : TypR (fun _ d => Rows.uptoBulk d) Try.prog 22 (fun l => [encL l]) (fun n l => l.length ≤ n ∧ ∀ r ∈ l, r.key.size ≤ n ∧ r.val.size ≤ n ∧ r.offs.length ≤ n) :=
  typ_slice (sz := 3) bulkOk Try.underlying22 tRes (by kernel_rfl) (by decide)

theorem diffs_contract (H : Type) (enc : TypeId × Value → H) (W : World) (base : Nat) (args : Array Value) (ds gs : List (DataW H)) (before : List MemPlace)
    (hval : ∀ (j : Nat) t v, Try.f3.params[j]? = some t → args[j]? = some v → Value.okWide Try.prog W .any base t v)
    (hW : DataW.Whole enc Try.prog Try.f3.params.toList Rows.deltaDiffsSpec.vars false W args.toList ds gs before) (hk : Rows.uptoSmall H (ds ++ gs) = true) :
    Calls Try.prog 3 args W fun e W' => ∃ v, e = .returned v ∧ Rows.deltaDiffsSpec.post enc Try.prog Try.f3 false true false false W args v W' := by
  have hb : Rows.uptoBulkAll (ds ++ gs) ≤ 1048576 := of_decide_eq_true hk
  have hA : ArgR (fun _ d => Rows.uptoBulk d) Try.prog [22, 22] _ _ := arg_cons Try.underlying22 rfl tResL (arg_cons Try.underlying22 rfl tResL arg_nil)
  have h1 : laidOutB Try.prog = true := by kernel_rfl
  have h2 : ([22, 22].all fun t => Try.prog.readableRec t && decide (t < Try.prog.types.size)) = true := by kernel_rfl
  have h3 : Try.f3.resultTypes = #[4] := by kernel_rfl
  refine law_end (P := Try.prog) (enc := enc) (W := W) (base := base) (args := args) (ds := ds) (gs := gs) (before := before) (f := 3) (fn := Try.f3) (s := Rows.deltaDiffsSpec) (ts := [22, 22]) (n := 1048576) hA (fun x hx => ?_) h1 h2 rfl h3 Try.underlying4 Try.params3 ?_ ?_ ?_ ?_
  rotate_left 2
  · exact @hval
  · exact hW
  · exact fun d hd => Nat.le_trans (bulk_all (List.mem_append_left _ hd)) hb
  · obtain ⟨a, b, _⟩ := x
    obtain ⟨⟨hal, ha⟩, ⟨hbl, hb⟩, _⟩ := hx
    exact w3 a b (Nat.le_trans hal (by decide)) (Nat.le_trans hbl (by decide)) (fun r hr => by have := ha r hr; omega) (fun r hr => by have := hb r hr; omega)
  · intro ds hl
    match ds, hl with
    | [_, _], _ => rfl

set_option maxRecDepth 100000 in
theorem diffs_lifted (os : Os) (started : os.Started) (H : Type) (enc : TypeId × Value → H) (F : Stop.Interp) :
    ReturnsInHanded {} Try.checked os 3 .any ((Rows.OpenSpec.upto Rows.deltaDiffsSpec).pre6 enc Try.prog Try.f3 Rows.deltaDiffsUptoRow.domain false) (((Rows.OpenSpec.upto Rows.deltaDiffsSpec).at F).post enc Try.prog Try.f3 false true false false) := by
  refine returnsInHanded_of_cond (C := Try.checked) (s := Rows.OpenSpec.upto Rows.deltaDiffsSpec) (k := Rows.uptoSmall) rfl (by kernel_rfl) started (by kernel_rfl) Try.func3
    (OpenSpec.witness (enc := enc) (C := Try.checked) (s := Rows.OpenSpec.upto Rows.deltaDiffsSpec) (k := Rows.uptoSmall) rfl false ⟨#[], #[.slice none 0 0, .slice none 0 0], []⟩ 8 (by kernel_rfl) (by kernel_rfl) (by kernel_rfl)
      (x := ([.nil, .nil], [], [])) (by kernel_rfl) rfl (by kernel_rfl)) ?_
  intro W base args ds gs before hval hW _ hk _
  exact diffs_contract H enc W base args ds gs before @hval hW hk

theorem diffs_over : Rows.deltaDiffsUptoRow.holds Try.pinned (Rows.OpenSpec.upto Rows.deltaDiffsSpec) :=
  OpenClaim.holds_of_cond 3 Try.f3 rfl rfl rfl rfl rfl rfl rfl ⟨rfl, rfl, rfl, rfl, rfl⟩ rfl rfl rfl rfl rfl (by kernel_rfl) Try.func3 (by kernel_rfl)
    (of_decide_eq_true (by kernel_rfl)) (by unfold Func.isWrapper; first | (rw [if_pos (by decide +kernel)]; kernel_rfl) | (rw [if_neg (by decide +kernel)]; exact ⟨rfl, rfl⟩))
    (fun os started H enc _ F => diffs_lifted os started H enc F)

theorem deltaDiffs_proved : Rows.DeltaDiffsUptoSaid := diffs_over
end Go.Proofs.Ytlonihmeikmpiaa
