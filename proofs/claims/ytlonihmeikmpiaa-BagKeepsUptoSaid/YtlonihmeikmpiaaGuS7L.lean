/- For any list of calls, of bulk at most 1048576, the law BagKeeps answers true and leaves its argument as it was. Conditions: none but that bound. -/
import Derived.Test.YtlonihmeikmpiaaRows
import Derived.Test.YtlonihmeikmpiaaGuS7K
import Derived.WalkKit
import Derived.ProofKit
import Derived.OpenShut
import Derived.JoinedCond
set_option linter.all false
set_option linter.unusedVariables false
set_option linter.unusedSimpArgs false
set_option maxRecDepth 8000
namespace Go.Proofs.Ytlonihmeikmpiaa
open Go.Gm Go.Proofs.Y1 Go.Proofs.Y1.Au Go.ChangeShapes Go.WideShapes Go.ChangeAt Go.RowKit
theorem bulk_all {H : Type} {d : DataW H} {l : List (DataW H)} (h : d ∈ l) : Rows.uptoBulk d ≤ Rows.uptoBulkAll l := by
  induction l with
  | nil => cases h
  | cons x r ih =>
    simp only [Rows.uptoBulkAll]
    cases List.mem_cons.1 h with
    | inl e => subst e; omega
    | inr e => have := ih e; omega
theorem bulk_one {H : Type} (d : DataW H) : 1 ≤ Rows.uptoBulk d := by
  cases d with
  | lit l => cases l <;> simp [Rows.uptoBulk]
  | _ => simp [Rows.uptoBulk]
theorem bulk_len {H : Type} (l : List (DataW H)) : l.length ≤ Rows.uptoBulkAll l := by
  induction l with
  | nil => simp [Rows.uptoBulkAll]
  | cons x r ih => have := bulk_one x; simp only [Rows.uptoBulkAll, List.length_cons]; omega
theorem bulkOk : BulkOk (fun _ d => Rows.uptoBulk d) where
  str := fun bs => by simp [Rows.uptoBulk]
  len := fun l s => by have := bulk_len l; simp only [Rows.uptoBulk]; omega
  elem := fun l s d h => by have := bulk_all h; simp only [Rows.uptoBulk]; omega
  part := fun l d h => by have := bulk_all h; simp only [Rows.uptoBulk]; omega
  ptr := fun d => by simp only [Rows.uptoBulk]; omega
def V3 (n : Nat) (x : Int) : Prop := IntKind.min .i64 ≤ x ∧ x ≤ IntKind.max .i64
theorem t3 : TypR (fun _ d => Rows.uptoBulk d) Try.prog 3 enc3 V3 :=
  typ_int Try.underlying3
def V4 (n : Nat) (x : Bool) : Prop := True
theorem t4 : TypR (fun _ d => Rows.uptoBulk d) Try.prog 4 enc4 V4 :=
  typ_bool Try.underlying4
def V5 (n : Nat) (x : Int) : Prop := IntKind.min .u8 ≤ x ∧ x ≤ IntKind.max .u8
theorem t5 : TypR (fun _ d => Rows.uptoBulk d) Try.prog 5 enc5 V5 :=
  typ_int Try.underlying5
def V41 (n : Nat) (x : List Int) : Prop := x.length ≤ n ∧ ∀ y ∈ x, V5 n y
theorem t41 : TypR (fun _ d => Rows.uptoBulk d) Try.prog 41 (fun l => [.sl (List.map enc5 l)]) V41 :=
  typ_slice (sz := 1) bulkOk Try.underlying41 t5 (by kernel_rfl) (by decide)
def V61 (n : Nat) (x : Au.Act) : Prop := (V3 n x.Do) ∧ (V3 n x.I) ∧ (V3 n x.J) ∧ (V4 n x.Up) ∧ (V41 n x.B) ∧ True
theorem t62 : TypR (fun _ d => Rows.uptoBulk d) Try.prog 62 encAct V61 :=
  TypR.map (typ_struct (L := 5) bulkOk Try.underlying62 rfl (by kernel_rfl) (fld_cons (s := 1) t3 (by kernel_rfl) (by decide) (fld_cons (s := 1) t3 (by kernel_rfl) (by decide) (fld_cons (s := 1) t3 (by kernel_rfl) (by decide) (fld_cons (s := 1) t4 (by kernel_rfl) (by decide) (fld_cons (s := 1) t41 (by kernel_rfl) (by decide) fld_nil)))))) (fun x => ⟨x.1, x.2.1, x.2.2.1, x.2.2.2.1, x.2.2.2.2.1⟩) (fun _ => rfl) (fun n x h => h)
def V55 (n : Nat) (x : List Au.Act) : Prop := x.length ≤ n ∧ ∀ y ∈ x, V61 n y
theorem t55 : TypR (fun _ d => Rows.uptoBulk d) Try.prog 55 (fun l => [.sl (List.map encAct l)]) V55 :=
  typ_slice (sz := 5) bulkOk Try.underlying55 t62 (by kernel_rfl) (by decide)
theorem contract (H : Type) (enc : TypeId × Value → H) (W : World) (base : Nat) (args : Array Value) (ds gs : List (DataW H)) (before : List MemPlace)
    (hval : ∀ (j : Nat) t v, Try.f6.params[j]? = some t → args[j]? = some v → Value.okWide Try.prog W .any base t v)
    (hW : DataW.Whole enc Try.prog Try.f6.params.toList Rows.bagKeepsSpec.vars false W args.toList ds gs before) (hk : Rows.uptoSmall H (ds ++ gs) = true) :
    Calls Try.prog 6 args W fun e W' => ∃ v, e = .returned v ∧ Rows.bagKeepsSpec.post enc Try.prog Try.f6 false true false false W args v W' := by
  have hb : Rows.uptoBulkAll (ds ++ gs) ≤ 1048576 := of_decide_eq_true hk
  have h1 : laidOutB Try.prog = true := by kernel_rfl
  have h2 : ([55].all fun t => Try.prog.readableRec t && decide (t < Try.prog.types.size)) = true := by kernel_rfl
  have h3 : Try.f6.resultTypes = #[4] := by kernel_rfl
  refine law_end (P := Try.prog) (enc := enc) (W := W) (base := base) (args := args) (ds := ds) (gs := gs) (before := before) (f := 6) (fn := Try.f6) (s := Rows.bagKeepsSpec) (ts := [55]) (n := 1048576) (arg_cons Try.underlying55 rfl t55 arg_nil) (fun x hx => ?_) h1 h2 rfl h3 Try.underlying4 Try.params6 ?_ ?_ ?_ ?_
  rotate_left 2
  · exact @hval
  · exact hW
  · exact fun d hd => Nat.le_trans (bulk_all (List.mem_append_left _ hd)) hb
  · obtain ⟨l, _⟩ := x
    obtain ⟨hl, _⟩ := hx
    exact ok6 l true (law6 hl.1 (fun a ha => (hl.2 a ha).2.2.2.2.1.1))
  · intro ds hl
    match ds, hl with
    | [_], _ => rfl

set_option maxRecDepth 100000 in
theorem lifted (os : Os) (started : os.Started) (H : Type) (enc : TypeId × Value → H) (F : Stop.Interp) :
    ReturnsInHanded {} Try.checked os 6 .any ((Rows.OpenSpec.upto Rows.bagKeepsSpec).pre6 enc Try.prog Try.f6 Rows.bagKeepsUptoRow.domain false) (((Rows.OpenSpec.upto Rows.bagKeepsSpec).at F).post enc Try.prog Try.f6 false true false false) := by
  refine returnsInHanded_of_cond (C := Try.checked) (s := Rows.OpenSpec.upto Rows.bagKeepsSpec) (k := Rows.uptoSmall) rfl (by kernel_rfl) started (by kernel_rfl) Try.func6
    (OpenSpec.witness (enc := enc) (C := Try.checked) (s := Rows.OpenSpec.upto Rows.bagKeepsSpec) (k := Rows.uptoSmall) rfl false ⟨#[], #[.slice none 0 0], []⟩ 8 (by kernel_rfl) (by kernel_rfl) (by kernel_rfl)
      (x := ([.nil], [], [])) (by kernel_rfl) rfl (by kernel_rfl)) ?_
  intro W base args ds gs before hval hW _ hk _
  exact contract H enc W base args ds gs before @hval hW hk

theorem over : Rows.bagKeepsUptoRow.holds Try.pinned (Rows.OpenSpec.upto Rows.bagKeepsSpec) :=
  OpenClaim.holds_of_cond 6 Try.f6 rfl rfl rfl rfl rfl rfl rfl ⟨rfl, rfl, rfl, rfl, rfl⟩ rfl rfl rfl rfl rfl (by kernel_rfl) Try.func6 (by kernel_rfl)
    (of_decide_eq_true (by kernel_rfl)) (by unfold Func.isWrapper; first | (rw [if_pos (by decide +kernel)]; kernel_rfl) | (rw [if_neg (by decide +kernel)]; exact ⟨rfl, rfl⟩))
    (fun os started H enc _ F => lifted os started H enc F)

theorem bagKeeps_proved : Rows.BagKeepsUptoSaid := over
end Go.Proofs.Ytlonihmeikmpiaa
