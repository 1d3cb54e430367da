/- For any three lists of items, of bulk at most 1048576, the law DeltaTouches answers true and leaves its arguments as they were. Conditions: none but that bound. -/
import Derived.Test.YtlonihmeikmpiaaRows
import Derived.Test.YtlonihmeikmpiaaGqS5C
import Derived.WalkKit
import Derived.ProofKit
import Derived.OpenShut
import Derived.JoinedCond
set_option linter.all false
set_option linter.unusedVariables false
set_option linter.unusedSimpArgs false
set_option maxRecDepth 8000
namespace Go.Proofs.Ytlonihmeikmpiaa
open Go.Gm Go.Proofs.Y1 Go.Proofs.Y1.Au Go.ChangeShapes Go.WideShapes Go.ChangeAt Go.RowKit
theorem bulk_all {H : Type} {d : DataW H} {l : List (DataW H)} (h : d ∈ l) : Rows.uptoBulk d ≤ Rows.uptoBulkAll l := by
  induction l with
  | nil => cases h
  | cons x r ih =>
    simp only [Rows.uptoBulkAll]
    cases List.mem_cons.1 h with
    | inl e => subst e; omega
    | inr e => have := ih e; omega
theorem bulk_one {H : Type} (d : DataW H) : 1 ≤ Rows.uptoBulk d := by
  cases d with
  | lit l => cases l <;> simp [Rows.uptoBulk]
  | _ => simp [Rows.uptoBulk]
theorem bulk_len {H : Type} (l : List (DataW H)) : l.length ≤ Rows.uptoBulkAll l := by
  induction l with
  | nil => simp [Rows.uptoBulkAll]
  | cons x r ih => have := bulk_one x; simp only [Rows.uptoBulkAll, List.length_cons]; omega
theorem bulkOk : BulkOk (fun _ d => Rows.uptoBulk d) where
  str := fun bs => by simp [Rows.uptoBulk]
  len := fun l s => by have := bulk_len l; simp only [Rows.uptoBulk]; omega
  elem := fun l s d h => by have := bulk_all h; simp only [Rows.uptoBulk]; omega
  part := fun l d h => by have := bulk_all h; simp only [Rows.uptoBulk]; omega
  ptr := fun d => by simp only [Rows.uptoBulk]; omega
def V9 (n : Nat) (x : ByteArray) : Prop := x.size ≤ n
theorem t9 : TypR (fun _ d => Rows.uptoBulk d) Try.prog 9 enc9 V9 :=
  typ_str bulkOk Try.underlying9
def V5 (n : Nat) (x : Int) : Prop := IntKind.min .u8 ≤ x ∧ x ≤ IntKind.max .u8
theorem t5 : TypR (fun _ d => Rows.uptoBulk d) Try.prog 5 enc5 V5 :=
  typ_int Try.underlying5
def V3 (n : Nat) (x : Int) : Prop := IntKind.min .i64 ≤ x ∧ x ≤ IntKind.max .i64
theorem t3 : TypR (fun _ d => Rows.uptoBulk d) Try.prog 3 enc3 V3 :=
  typ_int Try.underlying3
def V154 (n : Nat) (x : Val) : Prop := (V5 n x.Kind) ∧ (V3 n x.Int) ∧ (V9 n x.Text) ∧ True
theorem t155 : TypR (fun _ d => Rows.uptoBulk d) Try.prog 155 encVal V154 :=
  TypR.map (typ_struct (L := 3) bulkOk Try.underlying155 rfl (by kernel_rfl) (fld_cons (s := 1) t5 (by kernel_rfl) (by decide) (fld_cons (s := 1) t3 (by kernel_rfl) (by decide) (fld_cons (s := 1) t9 (by kernel_rfl) (by decide) fld_nil)))) (fun x => ⟨x.1, x.2.1, x.2.2.1⟩) (fun _ => rfl) (fun n x h => h)
def V156 (n : Nat) (x : Part) : Prop := (V154 n x.Acc) ∧ (V3 n x.N) ∧ True
theorem t157 : TypR (fun _ d => Rows.uptoBulk d) Try.prog 157 encPart V156 :=
  TypR.map (typ_struct (L := 4) bulkOk Try.underlying157 rfl (by kernel_rfl) (fld_cons (s := 3) t155 (by kernel_rfl) (by decide) (fld_cons (s := 1) t3 (by kernel_rfl) (by decide) fld_nil))) (fun x => ⟨x.1, x.2.1⟩) (fun _ => rfl) (fun n x h => h)
def V151 (n : Nat) (x : List Part) : Prop := x.length ≤ n ∧ ∀ y ∈ x, V156 n y
theorem t151 : TypR (fun _ d => Rows.uptoBulk d) Try.prog 151 (fun l => [.sl (List.map encPart l)]) V151 :=
  typ_slice (sz := 4) bulkOk Try.underlying151 t157 (by kernel_rfl) (by decide)
def V33 (n : Nat) (x : List Int) : Prop := x.length ≤ n ∧ ∀ y ∈ x, V3 n y
theorem t33 : TypR (fun _ d => Rows.uptoBulk d) Try.prog 33 (fun l => [.sl (List.map enc3 l)]) V33 :=
  typ_slice (sz := 1) bulkOk Try.underlying33 t3 (by kernel_rfl) (by decide)
def V152 (n : Nat) (x : Au.Item) : Prop := (V9 n x.Key) ∧ (V151 n x.Parts) ∧ (V33 n x.Offs) ∧ True
theorem t153 : TypR (fun _ d => Rows.uptoBulk d) Try.prog 153 encItem V152 :=
  TypR.map (typ_struct (L := 3) bulkOk Try.underlying153 rfl (by kernel_rfl) (fld_cons (s := 1) t9 (by kernel_rfl) (by decide) (fld_cons (s := 1) t151 (by kernel_rfl) (by decide) (fld_cons (s := 1) t33 (by kernel_rfl) (by decide) fld_nil)))) (fun x => ⟨x.1, x.2.1, x.2.2.1⟩) (fun _ => rfl) (fun n x h => h)
def V90 (n : Nat) (x : List Au.Item) : Prop := x.length ≤ n ∧ ∀ y ∈ x, V152 n y
theorem t90 : TypR (fun _ d => Rows.uptoBulk d) Try.prog 90 (fun l => [.sl (List.map encItem l)]) V90 :=
  typ_slice (sz := 3) bulkOk Try.underlying90 t153 (by kernel_rfl) (by decide)
theorem ty_list {l : List Au.Item} (h : V90 1048576 l) : SzL l := ⟨h.1, fun x hx => by
  obtain ⟨h1, h2, h3, _⟩ := h.2 x hx
  refine ⟨h1, h2.1, h3.1, fun p hp => ?_⟩
  obtain ⟨⟨_, _, g, _⟩, _⟩ := h2.2 p hp
  exact g⟩
theorem contract (H : Type) (enc : TypeId × Value → H) (W : World) (base : Nat) (args : Array Value) (ds gs : List (DataW H)) (before : List MemPlace)
    (hval : ∀ (j : Nat) t v, Try.f11.params[j]? = some t → args[j]? = some v → Value.okWide Try.prog W .any base t v)
    (hW : DataW.Whole enc Try.prog Try.f11.params.toList Rows.deltaTouchesSpec.vars false W args.toList ds gs before) (hk : Rows.uptoSmall H (ds ++ gs) = true) :
    Calls Try.prog 11 args W fun e W' => ∃ v, e = .returned v ∧ Rows.deltaTouchesSpec.post enc Try.prog Try.f11 false true false false W args v W' := by
  have hb : Rows.uptoBulkAll (ds ++ gs) ≤ 1048576 := of_decide_eq_true hk
  have h1 : laidOutB Try.prog = true := by kernel_rfl
  have h2 : ([90, 90, 90].all fun t => Try.prog.readableRec t && decide (t < Try.prog.types.size)) = true := by kernel_rfl
  have h3 : Try.f11.resultTypes = #[4] := by kernel_rfl
  refine law_end (P := Try.prog) (enc := enc) (W := W) (base := base) (args := args) (ds := ds) (gs := gs) (before := before) (f := 11) (fn := Try.f11) (s := Rows.deltaTouchesSpec) (ts := [90, 90, 90]) (n := 1048576) (arg_cons Try.underlying90 rfl t90 (arg_cons Try.underlying90 rfl t90 (arg_cons Try.underlying90 rfl t90 arg_nil))) (fun x hx => ?_) h1 h2 rfl h3 Try.underlying4 Try.params11 ?_ ?_ ?_ ?_
  rotate_left 2
  · exact @hval
  · exact hW
  · exact fun d hd => Nat.le_trans (bulk_all (List.mem_append_left _ hd)) hb
  · obtain ⟨a, b, c, _⟩ := x
    obtain ⟨ha, hb, hc, _⟩ := hx
    exact ok11 a b c true (law11 (ty_list ha) (ty_list hb) (ty_list hc))
  · intro ds hl
    match ds, hl with
    | [_, _, _], _ => rfl

set_option maxRecDepth 100000 in
theorem lifted (os : Os) (started : os.Started) (H : Type) (enc : TypeId × Value → H) (F : Stop.Interp) :
    ReturnsInHanded {} Try.checked os 11 .any ((Rows.OpenSpec.upto Rows.deltaTouchesSpec).pre6 enc Try.prog Try.f11 Rows.deltaTouchesUptoRow.domain false) (((Rows.OpenSpec.upto Rows.deltaTouchesSpec).at F).post enc Try.prog Try.f11 false true false false) := by
  refine returnsInHanded_of_cond (C := Try.checked) (s := Rows.OpenSpec.upto Rows.deltaTouchesSpec) (k := Rows.uptoSmall) rfl (by kernel_rfl) started (by kernel_rfl) Try.func11
    (OpenSpec.witness (enc := enc) (C := Try.checked) (s := Rows.OpenSpec.upto Rows.deltaTouchesSpec) (k := Rows.uptoSmall) rfl false ⟨#[], #[.slice none 0 0, .slice none 0 0, .slice none 0 0], []⟩ 8 (by kernel_rfl) (by kernel_rfl) (by kernel_rfl)
      (x := ([.nil, .nil, .nil], [], [])) (by kernel_rfl) rfl (by kernel_rfl)) ?_
  intro W base args ds gs before hval hW _ hk _
  exact contract H enc W base args ds gs before @hval hW hk

theorem over : Rows.deltaTouchesUptoRow.holds Try.pinned (Rows.OpenSpec.upto Rows.deltaTouchesSpec) :=
  OpenClaim.holds_of_cond 11 Try.f11 rfl rfl rfl rfl rfl rfl rfl ⟨rfl, rfl, rfl, rfl, rfl⟩ rfl rfl rfl rfl rfl (by kernel_rfl) Try.func11 (by kernel_rfl)
    (of_decide_eq_true (by kernel_rfl)) (by unfold Func.isWrapper; first | (rw [if_pos (by decide +kernel)]; kernel_rfl) | (rw [if_neg (by decide +kernel)]; exact ⟨rfl, rfl⟩))
    (fun os started H enc _ F => lifted os started H enc F)

theorem deltaTouches_proved : Rows.DeltaTouchesUptoSaid := over
end Go.Proofs.Ytlonihmeikmpiaa
