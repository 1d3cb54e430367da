/- For any two runs, of bulk at most 1048576, the law ScriptPuts answers true and leaves its arguments as they were. Conditions: none but that bound. -/
import Derived.Test.YtlonihmeikmpiaaRows
import Derived.Test.YtlonihmeikmpiaaGpS4E
import Derived.WalkKit
import Derived.ProofKit
import Derived.OpenShut
import Derived.JoinedCond
set_option linter.all false
set_option linter.unusedVariables false
set_option linter.unusedSimpArgs false
set_option maxRecDepth 8000
namespace Go.Proofs.Ytlonihmeikmpiaa
open Go.Gm Go.Proofs.Y1 Go.Proofs.Y1.Au Go.ChangeShapes Go.WideShapes Go.ChangeAt Go.RowKit
theorem bulk_all {H : Type} {d : DataW H} {l : List (DataW H)} (h : d ∈ l) : Rows.uptoBulk d ≤ Rows.uptoBulkAll l := by
  induction l with
  | nil => cases h
  | cons x r ih =>
    simp only [Rows.uptoBulkAll]
    cases List.mem_cons.1 h with
    | inl e => subst e; omega
    | inr e => have := ih e; omega
theorem bulk_one {H : Type} (d : DataW H) : 1 ≤ Rows.uptoBulk d := by
  cases d with
  | lit l => cases l <;> simp [Rows.uptoBulk]
  | _ => simp [Rows.uptoBulk]
theorem bulk_len {H : Type} (l : List (DataW H)) : l.length ≤ Rows.uptoBulkAll l := by
  induction l with
  | nil => simp [Rows.uptoBulkAll]
  | cons x r ih => have := bulk_one x; simp only [Rows.uptoBulkAll, List.length_cons]; omega
theorem bulkOk : BulkOk (fun _ d => Rows.uptoBulk d) where
  str := fun bs => by simp [Rows.uptoBulk]
  len := fun l s => by have := bulk_len l; simp only [Rows.uptoBulk]; omega
  elem := fun l s d h => by have := bulk_all h; simp only [Rows.uptoBulk]; omega
  part := fun l d h => by have := bulk_all h; simp only [Rows.uptoBulk]; omega
  ptr := fun d => by simp only [Rows.uptoBulk]; omega
def V5 (n : Nat) (x : Int) : Prop := IntKind.min .u8 ≤ x ∧ x ≤ IntKind.max .u8
theorem t5 : TypR (fun _ d => Rows.uptoBulk d) Try.prog 5 enc5 V5 :=
  typ_int Try.underlying5
def V41 (n : Nat) (x : List Int) : Prop := x.length ≤ n ∧ ∀ y ∈ x, V5 n y
theorem t41 : TypR (fun _ d => Rows.uptoBulk d) Try.prog 41 (fun l => [.sl (List.map enc5 l)]) V41 :=
  typ_slice (sz := 1) bulkOk Try.underlying41 t5 (by kernel_rfl) (by decide)
def V3 (n : Nat) (x : Int) : Prop := IntKind.min .i64 ≤ x ∧ x ≤ IntKind.max .i64
theorem t3 : TypR (fun _ d => Rows.uptoBulk d) Try.prog 3 enc3 V3 :=
  typ_int Try.underlying3
def V42 (n : Nat) (x : Cfg) : Prop := (V3 n x.Workers) ∧ (V3 n x.Per) ∧ (V3 n x.Timeout) ∧ (V3 n x.Tries) ∧ (V3 n x.Room) ∧ True
theorem t43 : TypR (fun _ d => Rows.uptoBulk d) Try.prog 43 encCfg V42 :=
  TypR.map (typ_struct (L := 5) bulkOk Try.underlying43 rfl (by kernel_rfl) (fld_cons (s := 1) t3 (by kernel_rfl) (by decide) (fld_cons (s := 1) t3 (by kernel_rfl) (by decide) (fld_cons (s := 1) t3 (by kernel_rfl) (by decide) (fld_cons (s := 1) t3 (by kernel_rfl) (by decide) (fld_cons (s := 1) t3 (by kernel_rfl) (by decide) fld_nil)))))) (fun x => ⟨x.1, x.2.1, x.2.2.1, x.2.2.2.1, x.2.2.2.2.1⟩) (fun _ => rfl) (fun n x h => h)
def V33 (n : Nat) (x : List Int) : Prop := x.length ≤ n ∧ ∀ y ∈ x, V3 n y
theorem t33 : TypR (fun _ d => Rows.uptoBulk d) Try.prog 33 (fun l => [.sl (List.map enc3 l)]) V33 :=
  typ_slice (sz := 1) bulkOk Try.underlying33 t3 (by kernel_rfl) (by decide)
def V108 (n : Nat) (x : Step) : Prop := (V3 n x.Do) ∧ (V3 n x.Node) ∧ (V3 n x.I) ∧ (V3 n x.J) ∧ (V33 n x.Keep) ∧ True
theorem t109 : TypR (fun _ d => Rows.uptoBulk d) Try.prog 109 encStep V108 :=
  TypR.map (typ_struct (L := 5) bulkOk Try.underlying109 rfl (by kernel_rfl) (fld_cons (s := 1) t3 (by kernel_rfl) (by decide) (fld_cons (s := 1) t3 (by kernel_rfl) (by decide) (fld_cons (s := 1) t3 (by kernel_rfl) (by decide) (fld_cons (s := 1) t3 (by kernel_rfl) (by decide) (fld_cons (s := 1) t33 (by kernel_rfl) (by decide) fld_nil)))))) (fun x => ⟨x.1, x.2.1, x.2.2.1, x.2.2.2.1, x.2.2.2.2.1⟩) (fun _ => rfl) (fun n x h => h)
def V44 (n : Nat) (x : List Step) : Prop := x.length ≤ n ∧ ∀ y ∈ x, V108 n y
theorem t44 : TypR (fun _ d => Rows.uptoBulk d) Try.prog 44 (fun l => [.sl (List.map encStep l)]) V44 :=
  typ_slice (sz := 5) bulkOk Try.underlying44 t109 (by kernel_rfl) (by decide)
def V45 (n : Nat) (x : Run) : Prop := (V41 n x.Text) ∧ (V41 n x.Input) ∧ (V42 n x.Cfg) ∧ (V44 n x.Steps) ∧ True
theorem t46 : TypR (fun _ d => Rows.uptoBulk d) Try.prog 46 encRun V45 :=
  TypR.map (typ_struct (L := 8) bulkOk Try.underlying46 rfl (by kernel_rfl) (fld_cons (s := 1) t41 (by kernel_rfl) (by decide) (fld_cons (s := 1) t41 (by kernel_rfl) (by decide) (fld_cons (s := 5) t43 (by kernel_rfl) (by decide) (fld_cons (s := 1) t44 (by kernel_rfl) (by decide) fld_nil))))) (fun x => ⟨x.1, x.2.1, x.2.2.1, x.2.2.2.1⟩) (fun _ => rfl) (fun n x h => h)
theorem ty_i64 {n : Nat} {x : Int} (h : V3 n x) : I64 x := by
  have e1 : IntKind.min .i64 = -9223372036854775808 := rfl
  have e2 : IntKind.max .i64 = 9223372036854775807 := rfl
  unfold V3 at h
  rw [e1, e2] at h
  exact ⟨by omega, by omega⟩
theorem ty_byt {n : Nat} {l : List Int} (h : V41 n l) : Byt l := fun y hy => by
  have h := h.2 y hy
  have e1 : IntKind.min .u8 = 0 := rfl
  have e2 : IntKind.max .u8 = 255 := rfl
  unfold V5 at h
  rw [e1, e2] at h
  exact ⟨by omega, by omega⟩
theorem ty_run {n : Nat} {r : Run} (h : V45 n r) : TyRun r := by
  obtain ⟨h1, h2, h3, h4, _⟩ := h
  obtain ⟨c1, c2, c3, c4, c5, _⟩ := h3
  refine ⟨ty_byt h1, ty_byt h2, ?_, fun x hx => ?_⟩
  · simp only [cfgL, List.mem_cons, List.not_mem_nil, or_false]
    rintro n (rfl | rfl | rfl | rfl | rfl)
    · exact ty_i64 c1
    · exact ty_i64 c2
    · exact ty_i64 c3
    · exact ty_i64 c4
    · exact ty_i64 c5
  · obtain ⟨d1, d2, d3, d4, d5, _⟩ := h4.2 x hx
    refine ⟨?_, fun n hn => ty_i64 (d5.2 n hn)⟩
    simp only [List.mem_cons, List.not_mem_nil, or_false]
    rintro n (rfl | rfl | rfl | rfl)
    · exact ty_i64 d1
    · exact ty_i64 d2
    · exact ty_i64 d3
    · exact ty_i64 d4
theorem contract (H : Type) (enc : TypeId × Value → H) (W : World) (base : Nat) (args : Array Value) (ds gs : List (DataW H)) (before : List MemPlace)
    (hval : ∀ (j : Nat) t v, Try.f7.params[j]? = some t → args[j]? = some v → Value.okWide Try.prog W .any base t v)
    (hW : DataW.Whole enc Try.prog Try.f7.params.toList Rows.scriptPutsSpec.vars false W args.toList ds gs before) (hk : Rows.uptoSmall H (ds ++ gs) = true) :
    Calls Try.prog 7 args W fun e W' => ∃ v, e = .returned v ∧ Rows.scriptPutsSpec.post enc Try.prog Try.f7 false true false false W args v W' := by
  have hb : Rows.uptoBulkAll (ds ++ gs) ≤ 1048576 := of_decide_eq_true hk
  have h1 : laidOutB Try.prog = true := by kernel_rfl
  have h2 : ([46, 46].all fun t => Try.prog.readableRec t && decide (t < Try.prog.types.size)) = true := by kernel_rfl
  have h3 : Try.f7.resultTypes = #[4] := by kernel_rfl
  refine law_end (P := Try.prog) (enc := enc) (W := W) (base := base) (args := args) (ds := ds) (gs := gs) (before := before) (f := 7) (fn := Try.f7) (s := Rows.scriptPutsSpec) (ts := [46, 46]) (n := 1048576) (arg_cons Try.underlying46 rfl t46 (arg_cons Try.underlying46 rfl t46 arg_nil)) (fun x hx => ?_) h1 h2 rfl h3 Try.underlying4 Try.params7 ?_ ?_ ?_ ?_
  rotate_left 2
  · exact @hval
  · exact hW
  · exact fun d hd => Nat.le_trans (bulk_all (List.mem_append_left _ hd)) hb
  · obtain ⟨r, s, _⟩ := x
    obtain ⟨hr, hs, _⟩ := hx
    exact ok7 r s true (law7 (ty_run hr) (ty_run hs))
  · intro ds hl
    match ds, hl with
    | [_, _], _ => rfl

set_option maxRecDepth 100000 in
theorem lifted (os : Os) (started : os.Started) (H : Type) (enc : TypeId × Value → H) (F : Stop.Interp) :
    ReturnsInHanded {} Try.checked os 7 .any ((Rows.OpenSpec.upto Rows.scriptPutsSpec).pre6 enc Try.prog Try.f7 Rows.scriptPutsUptoRow.domain false) (((Rows.OpenSpec.upto Rows.scriptPutsSpec).at F).post enc Try.prog Try.f7 false true false false) := by
  refine returnsInHanded_of_cond (C := Try.checked) (s := Rows.OpenSpec.upto Rows.scriptPutsSpec) (k := Rows.uptoSmall) rfl (by kernel_rfl) started (by kernel_rfl) Try.func7
    (OpenSpec.witness (enc := enc) (C := Try.checked) (s := Rows.OpenSpec.upto Rows.scriptPutsSpec) (k := Rows.uptoSmall) rfl false ⟨#[], #[.agg #[.slice none 0 0, .slice none 0 0, .int .i64 0, .int .i64 0, .int .i64 0, .int .i64 0, .int .i64 0, .slice none 0 0], .agg #[.slice none 0 0, .slice none 0 0, .int .i64 0, .int .i64 0, .int .i64 0, .int .i64 0, .int .i64 0, .slice none 0 0]], []⟩ 8 (by kernel_rfl) (by kernel_rfl) (by kernel_rfl)
      (x := ([.agg [.nil, .nil, .agg [.lit (.int .i64 0), .lit (.int .i64 0), .lit (.int .i64 0), .lit (.int .i64 0), .lit (.int .i64 0)], .nil], .agg [.nil, .nil, .agg [.lit (.int .i64 0), .lit (.int .i64 0), .lit (.int .i64 0), .lit (.int .i64 0), .lit (.int .i64 0)], .nil]], [], [])) (by kernel_rfl) rfl (by kernel_rfl)) ?_
  intro W base args ds gs before hval hW _ hk _
  exact contract H enc W base args ds gs before @hval hW hk

theorem over : Rows.scriptPutsUptoRow.holds Try.pinned (Rows.OpenSpec.upto Rows.scriptPutsSpec) :=
  OpenClaim.holds_of_cond 7 Try.f7 rfl rfl rfl rfl rfl rfl rfl ⟨rfl, rfl, rfl, rfl, rfl⟩ rfl rfl rfl rfl rfl (by kernel_rfl) Try.func7 (by kernel_rfl)
    (of_decide_eq_true (by kernel_rfl)) (by unfold Func.isWrapper; first | (rw [if_pos (by decide +kernel)]; kernel_rfl) | (rw [if_neg (by decide +kernel)]; exact ⟨rfl, rfl⟩))
    (fun os started H enc _ F => lifted os started H enc F)

theorem scriptPuts_proved : Rows.ScriptPutsUptoSaid := over
end Go.Proofs.Ytlonihmeikmpiaa
