/- For any three lists of items of bulk at most 1048576, the law MergeAll answers true and leaves its arguments as they were. Conditions: none but that bound. -/
import Derived.Test.YtpdgnhhjaaencaaRows
import Derived.Test.YtpdgnhhjaaencaaGmMe
import Derived.WalkKit
import Derived.ProofKit
import Derived.OpenShut
import Derived.JoinedCond
set_option linter.all false
set_option linter.unusedVariables false
set_option linter.unusedSimpArgs false
set_option maxRecDepth 8000
namespace Go.Proofs.Ytpdgnhhjaaencaa
open Go.Gm Go.Proofs.Y5 Go.Proofs.Y5.Au Go.ChangeShapes Go.WideShapes Go.ChangeAt Go.RowKit
theorem bulk_all {H : Type} {d : DataW H} {l : List (DataW H)} (h : d ∈ l) : Rows.uptoBulk d ≤ Rows.uptoBulkAll l := by
  induction l with
  | nil => cases h
  | cons x r ih =>
    simp only [Rows.uptoBulkAll]
    cases List.mem_cons.1 h with
    | inl e => subst e; omega
    | inr e => have := ih e; omega
theorem bulk_one {H : Type} (d : DataW H) : 1 ≤ Rows.uptoBulk d := by
  cases d with
  | lit l => cases l <;> simp [Rows.uptoBulk]
  | _ => simp [Rows.uptoBulk]
theorem bulk_len {H : Type} (l : List (DataW H)) : l.length ≤ Rows.uptoBulkAll l := by
  induction l with
  | nil => simp [Rows.uptoBulkAll]
  | cons x r ih => have := bulk_one x; simp only [Rows.uptoBulkAll, List.length_cons]; omega
theorem bulkOk : BulkOk (fun _ d => Rows.uptoBulk d) where
  str := fun bs => by simp [Rows.uptoBulk]
  len := fun l s => by have := bulk_len l; simp only [Rows.uptoBulk]; omega
  elem := fun l s d h => by have := bulk_all h; simp only [Rows.uptoBulk]; omega
  part := fun l d h => by have := bulk_all h; simp only [Rows.uptoBulk]; omega
  ptr := fun d => by simp only [Rows.uptoBulk]; omega
def V9 (n : Nat) (x : ByteArray) : Prop := x.size ≤ n
theorem t9 : TypR (fun _ d => Rows.uptoBulk d) Try.prog 9 enc9 V9 :=
  typ_str bulkOk Try.underlying9
def V5 (n : Nat) (x : Int) : Prop := IntKind.min .u8 ≤ x ∧ x ≤ IntKind.max .u8
theorem t5 : TypR (fun _ d => Rows.uptoBulk d) Try.prog 5 enc5 V5 :=
  typ_int Try.underlying5
def V3 (n : Nat) (x : Int) : Prop := IntKind.min .i64 ≤ x ∧ x ≤ IntKind.max .i64
theorem t3 : TypR (fun _ d => Rows.uptoBulk d) Try.prog 3 enc3 V3 :=
  typ_int Try.underlying3
def V34 (n : Nat) (x : Val) : Prop := (V5 n x.Kind) ∧ (V3 n x.Int) ∧ (V9 n x.Text) ∧ True
theorem t35 : TypR (fun _ d => Rows.uptoBulk d) Try.prog 35 encVal V34 :=
  TypR.map (typ_struct (L := 3) bulkOk Try.underlying35 rfl (by kernel_rfl) (fld_cons (s := 1) t5 (by kernel_rfl) (by decide) (fld_cons (s := 1) t3 (by kernel_rfl) (by decide) (fld_cons (s := 1) t9 (by kernel_rfl) (by decide) fld_nil)))) (fun x => ⟨x.1, x.2.1, x.2.2.1⟩) (fun _ => rfl) (fun n x h => h)
def V36 (n : Nat) (x : Part) : Prop := (V34 n x.Acc) ∧ (V3 n x.N) ∧ True
theorem t37 : TypR (fun _ d => Rows.uptoBulk d) Try.prog 37 encPart V36 :=
  TypR.map (typ_struct (L := 4) bulkOk Try.underlying37 rfl (by kernel_rfl) (fld_cons (s := 3) t35 (by kernel_rfl) (by decide) (fld_cons (s := 1) t3 (by kernel_rfl) (by decide) fld_nil))) (fun x => ⟨x.1, x.2.1⟩) (fun _ => rfl) (fun n x h => h)
def V30 (n : Nat) (x : List Part) : Prop := x.length ≤ n ∧ ∀ y ∈ x, V36 n y
theorem t30 : TypR (fun _ d => Rows.uptoBulk d) Try.prog 30 (fun l => [.sl (List.map encPart l)]) V30 :=
  typ_slice (sz := 4) bulkOk Try.underlying30 t37 (by kernel_rfl) (by decide)
def V31 (n : Nat) (x : List Int) : Prop := x.length ≤ n ∧ ∀ y ∈ x, V3 n y
theorem t31 : TypR (fun _ d => Rows.uptoBulk d) Try.prog 31 (fun l => [.sl (List.map enc3 l)]) V31 :=
  typ_slice (sz := 1) bulkOk Try.underlying31 t3 (by kernel_rfl) (by decide)
def V32 (n : Nat) (x : Go.Proofs.Y5.Au.Item) : Prop := (V9 n x.Key) ∧ (V30 n x.Parts) ∧ (V31 n x.Offs) ∧ True
theorem t33 : TypR (fun _ d => Rows.uptoBulk d) Try.prog 33 encItem V32 :=
  TypR.map (typ_struct (L := 3) bulkOk Try.underlying33 rfl (by kernel_rfl) (fld_cons (s := 1) t9 (by kernel_rfl) (by decide) (fld_cons (s := 1) t30 (by kernel_rfl) (by decide) (fld_cons (s := 1) t31 (by kernel_rfl) (by decide) fld_nil)))) (fun x => ⟨x.1, x.2.1, x.2.2.1⟩) (fun _ => rfl) (fun n x h => h)
def V22 (n : Nat) (x : List Go.Proofs.Y5.Au.Item) : Prop := x.length ≤ n ∧ ∀ y ∈ x, V32 n y
theorem t22 : TypR (fun _ d => Rows.uptoBulk d) Try.prog 22 (fun l => [.sl (List.map encItem l)]) V22 :=
  typ_slice (sz := 3) bulkOk Try.underlying22 t33 (by kernel_rfl) (by decide)
theorem contract (H : Type) (enc : TypeId × Value → H) (W : World) (base : Nat) (args : Array Value) (ds gs : List (DataW H)) (before : List MemPlace)
    (hval : ∀ (j : Nat) t v, Try.f3.params[j]? = some t → args[j]? = some v → Value.okWide Try.prog W .any base t v)
    (hW : DataW.Whole enc Try.prog Try.f3.params.toList Rows.mergeAllSpec.vars false W args.toList ds gs before) (hk : Rows.uptoSmall H (ds ++ gs) = true) :
    Calls Try.prog 3 args W fun e W' => ∃ v, e = .returned v ∧ Rows.mergeAllSpec.post enc Try.prog Try.f3 false true false false W args v W' := by
  have hb : Rows.uptoBulkAll (ds ++ gs) ≤ 1048576 := of_decide_eq_true hk
  have h1 : laidOutB Try.prog = true := by kernel_rfl
  have h2 : ([22, 22, 22].all fun t => Try.prog.readableRec t && decide (t < Try.prog.types.size)) = true := by kernel_rfl
  have h3 : Try.f3.resultTypes = #[4] := by kernel_rfl
  refine law_end (P := Try.prog) (enc := enc) (W := W) (base := base) (args := args) (ds := ds) (gs := gs) (before := before) (f := 3) (fn := Try.f3) (s := Rows.mergeAllSpec) (ts := [22, 22, 22]) (n := 1048576) (arg_cons Try.underlying22 rfl t22 (arg_cons Try.underlying22 rfl t22 (arg_cons Try.underlying22 rfl t22 arg_nil))) (fun x hx => ?_) h1 h2 rfl h3 Try.underlying4 Try.params3 ?_ ?_ ?_ ?_ (tab_none (by kernel_rfl))
  rotate_left 2
  · exact @hval
  · exact hW
  · exact fun d hd => Nat.le_trans (bulk_all (List.mem_append_left _ hd)) hb
  · obtain ⟨l, m, n, _⟩ := x
    obtain ⟨hl, hm, hn, _⟩ := hx
    exact ok3 l m n true (law3 (fun q hq => ⟨Nat.le_trans (hl.2 q hq).1 (by decide), ⟨Nat.le_trans (hl.2 q hq).2.1.1 (by decide), fun p hp => Nat.le_trans (((hl.2 q hq).2.1.2 p hp).1.2.2.1) (by decide)⟩, Nat.le_trans (hl.2 q hq).2.2.1.1 (by decide)⟩) (fun q hq => ⟨Nat.le_trans (hm.2 q hq).1 (by decide), ⟨Nat.le_trans (hm.2 q hq).2.1.1 (by decide), fun p hp => Nat.le_trans (((hm.2 q hq).2.1.2 p hp).1.2.2.1) (by decide)⟩, Nat.le_trans (hm.2 q hq).2.2.1.1 (by decide)⟩) (fun q hq => ⟨Nat.le_trans (hn.2 q hq).1 (by decide), ⟨Nat.le_trans (hn.2 q hq).2.1.1 (by decide), fun p hp => Nat.le_trans (((hn.2 q hq).2.1.2 p hp).1.2.2.1) (by decide)⟩, Nat.le_trans (hn.2 q hq).2.2.1.1 (by decide)⟩))
  · intro ds hl
    match ds, hl with
    | [_, _, _], _ => rfl

set_option maxRecDepth 100000 in
theorem lifted (os : Os) (started : os.Started) (H : Type) (enc : TypeId × Value → H) (F : Stop.Interp) :
    ReturnsInHanded {} Try.checked os 3 .any ((Rows.OpenSpec.upto Rows.mergeAllSpec).pre6 enc Try.prog Try.f3 Rows.mergeAllUptoRow.domain false) (((Rows.OpenSpec.upto Rows.mergeAllSpec).at F).post enc Try.prog Try.f3 false true false false) := by
  refine returnsInHanded_of_cond (C := Try.checked) (s := Rows.OpenSpec.upto Rows.mergeAllSpec) (k := Rows.uptoSmall) rfl (by kernel_rfl) started (by kernel_rfl) Try.func3
    (OpenSpec.witness (enc := enc) (C := Try.checked) (s := Rows.OpenSpec.upto Rows.mergeAllSpec) (k := Rows.uptoSmall) rfl false ⟨#[], #[.slice none 0 0, .slice none 0 0, .slice none 0 0], []⟩ 8 (by kernel_rfl) (by kernel_rfl) (by kernel_rfl)
      (x := ([.nil, .nil, .nil], [], [])) (by kernel_rfl) rfl (by kernel_rfl)) ?_
  intro W base args ds gs before hval hW _ hk _
  exact contract H enc W base args ds gs before @hval hW hk

theorem over : Rows.mergeAllUptoRow.holds Try.pinned (Rows.OpenSpec.upto Rows.mergeAllSpec) :=
  OpenClaim.holds_of_cond 3 Try.f3 rfl rfl rfl rfl rfl rfl rfl ⟨rfl, rfl, rfl, rfl, rfl⟩ rfl rfl rfl rfl rfl (by kernel_rfl) Try.func3 (by kernel_rfl)
    (of_decide_eq_true (by kernel_rfl)) (by unfold Func.isWrapper; first | (rw [if_pos (by decide +kernel)]; kernel_rfl) | (rw [if_neg (by decide +kernel)]; exact ⟨rfl, rfl⟩))
    (fun os started H enc _ F => lifted os started H enc F)

theorem mergeAll_proved : Rows.MergeAllUptoSaid := over
end Go.Proofs.Ytpdgnhhjaaencaa
