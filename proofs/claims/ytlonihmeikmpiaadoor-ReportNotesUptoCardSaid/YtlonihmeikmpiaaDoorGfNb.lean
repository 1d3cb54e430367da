/- For any message, any list of results and any two numbers, of bulk at most 1048576 together, the law ReportNotes answers true and leaves its arguments as they were. Conditions: that bound; the three tables of the library that the row lists hold what the program's text lays (the card ties them). -/
import Derived.Test.YtlonihmeikmpiaaDoorRows
import Derived.Test.YtlonihmeikmpiaaDoorCards
import Derived.Test.YtlonihmeikmpiaaDoorTie
import Derived.Test.YtlonihmeikmpiaaDoorGfNa
import Derived.Test.YtlonihmeikmpiaaDoorGfRA
import Derived.WalkKit
import Derived.ProofKit
import Derived.OpenShut
import Derived.Deep.DeepHandedRow
import Derived.Deep.DeepLaidRun
set_option linter.all false
set_option linter.unusedVariables false
set_option linter.unusedSimpArgs false
set_option linter.all false
set_option maxRecDepth 8000
namespace Go.Proofs.YtlonihmeikmpiaaDoor
open Go.Gm Go.Proofs.Yd Go.Proofs.Yd.Au Go.ChangeShapes Go.WideShapes Go.ChangeAt Go.RowKit
theorem bulk_all {H : Type} {d : DataW H} {l : List (DataW H)} (h : d ∈ l) : Rows.uptoBulk d ≤ Rows.uptoBulkAll l := by
  induction l with
  | nil => cases h
  | cons x r ih =>
    simp only [Rows.uptoBulkAll]
    cases List.mem_cons.1 h with
    | inl e => subst e; omega
    | inr e => have := ih e; omega
theorem bulk_one {H : Type} (d : DataW H) : 1 ≤ Rows.uptoBulk d := by
  cases d with
  | lit l => cases l <;> simp [Rows.uptoBulk]
  | _ => simp [Rows.uptoBulk]
theorem bulk_len {H : Type} (l : List (DataW H)) : l.length ≤ Rows.uptoBulkAll l := by
  induction l with
  | nil => simp [Rows.uptoBulkAll]
  | cons x r ih => have := bulk_one x; simp only [Rows.uptoBulkAll, List.length_cons]; omega
theorem bulkOk : BulkOk (fun _ d => Rows.uptoBulk d) where
  str := fun bs => by simp [Rows.uptoBulk]
  len := fun l s => by have := bulk_len l; simp only [Rows.uptoBulk]; omega
  elem := fun l s d h => by have := bulk_all h; simp only [Rows.uptoBulk]; omega
  part := fun l d h => by have := bulk_all h; simp only [Rows.uptoBulk]; omega
  ptr := fun d => by simp only [Rows.uptoBulk]; omega
def V3 (n : Nat) (x : Int) : Prop := IntKind.min .i64 ≤ x ∧ x ≤ IntKind.max .i64
theorem t3 : TypR (fun _ d => Rows.uptoBulk d) Tryd.prog 3 enc3 V3 :=
  typ_int Tryd.underlying3
def V5 (n : Nat) (x : Int) : Prop := IntKind.min .u8 ≤ x ∧ x ≤ IntKind.max .u8
theorem t5 : TypR (fun _ d => Rows.uptoBulk d) Tryd.prog 5 enc5 V5 :=
  typ_int Tryd.underlying5
def V34 (n : Nat) (x : List Int) : Prop := x.length ≤ n ∧ ∀ y ∈ x, V5 n y
theorem t34 : TypR (fun _ d => Rows.uptoBulk d) Tryd.prog 34 (fun l => [.sl (List.map enc5 l)]) V34 :=
  typ_slice (sz := 1) bulkOk Tryd.underlying34 t5 (by kernel_rfl) (by decide)
def V35 (n : Nat) (x : Msg) : Prop := (V3 n x.From) ∧ (V3 n x.To) ∧ (V34 n x.Data) ∧ True
theorem t36 : TypR (fun _ d => Rows.uptoBulk d) Tryd.prog 36 encMsg V35 :=
  TypR.map (typ_struct (L := 3) bulkOk Tryd.underlying36 rfl (by kernel_rfl) (fld_cons (s := 1) t3 (by kernel_rfl) (by decide) (fld_cons (s := 1) t3 (by kernel_rfl) (by decide) (fld_cons (s := 1) t34 (by kernel_rfl) (by decide) fld_nil)))) (fun x => ⟨x.1, x.2.1, x.2.2.1⟩) (fun _ => rfl) (fun n x h => h)
def V9 (n : Nat) (x : ByteArray) : Prop := x.size ≤ n
theorem t9 : TypR (fun _ d => Rows.uptoBulk d) Tryd.prog 9 enc9 V9 :=
  typ_str bulkOk Tryd.underlying9
def V25 (n : Nat) (x : List Int) : Prop := x.length ≤ n ∧ ∀ y ∈ x, V3 n y
theorem t25 : TypR (fun _ d => Rows.uptoBulk d) Tryd.prog 25 (fun l => [.sl (List.map enc3 l)]) V25 :=
  typ_slice (sz := 1) bulkOk Tryd.underlying25 t3 (by kernel_rfl) (by decide)
def V38 (n : Nat) (x : Res) : Prop := (V9 n x.Key) ∧ (V9 n x.Val) ∧ (V25 n x.Offs) ∧ True
theorem t39 : TypR (fun _ d => Rows.uptoBulk d) Tryd.prog 39 encRes V38 :=
  TypR.map (typ_struct (L := 3) bulkOk Tryd.underlying39 rfl (by kernel_rfl) (fld_cons (s := 1) t9 (by kernel_rfl) (by decide) (fld_cons (s := 1) t9 (by kernel_rfl) (by decide) (fld_cons (s := 1) t25 (by kernel_rfl) (by decide) fld_nil)))) (fun x => ⟨x.1, x.2.1, x.2.2.1⟩) (fun _ => rfl) (fun n x h => h)
def V37 (n : Nat) (x : List Res) : Prop := x.length ≤ n ∧ ∀ y ∈ x, V38 n y
theorem t37 : TypR (fun _ d => Rows.uptoBulk d) Tryd.prog 37 (fun l => [.sl (List.map encRes l)]) V37 :=
  typ_slice (sz := 3) bulkOk Tryd.underlying37 t39 (by kernel_rfl) (by decide)
theorem okR {q : Res} (h : V38 1048576 q) : q.Key.size ≤ 2000000 ∧ q.Val.size ≤ 2000000 ∧ q.Offs.length ≤ 2000000 ∧ In64 q.Offs := ⟨Nat.le_trans h.1 (by decide), Nat.le_trans h.2.1 (by decide), Nat.le_trans h.2.2.1.1 (by decide), fun v hv => h.2.2.1.2 v hv⟩
theorem tables {W : World} (h : laidMetH Tryd.prog Rows.reportNotesUptoRow.laid W) (hsh : W.ShapedOpen Tryd.prog) : TabH Tryd.prog (fun _ => False) W :=
  tab_laid (g := 1) (t := 104) (e := 78) (by kernel_rfl) (by kernel_rfl) (by kernel_rfl) (by kernel_rfl) Tryd.underlying104 Tryd.underlying78 (by kernel_rfl) (by kernel_rfl) (.inr ⟨0, by kernel_rfl, max_shaped (g := 0) (t := 3) (zero := #[.int .i64 0]) hsh (by decide +kernel) (by kernel_rfl) rfl (by kernel_rfl) (by kernel_rfl) Tryd.underlying3⟩) h
theorem contract (H : Type) (enc : TypeId × Value → H) (W : World) (base : Nat) (args : Array Value) (ds gs : List (DataW H)) (before : List MemPlace)
    (hval : ∀ (j : Nat) t v, Tryd.f4.params[j]? = some t → args[j]? = some v → Value.okWide Tryd.prog W .any base t v)
    (hW : DataW.Whole enc Tryd.prog Tryd.f4.params.toList Rows.reportNotesSpec.vars false W args.toList ds gs before) (hk : Rows.uptoSmall H (ds ++ gs) = true) (hL : laidMetH Tryd.prog Rows.reportNotesUptoRow.laid W) (hsh : W.ShapedOpen Tryd.prog) :
    Calls Tryd.prog 4 args W fun e W' => ∃ v, e = .returned v ∧ Rows.reportNotesSpec.post enc Tryd.prog Tryd.f4 false true false false W args v W' := by
  have hb : Rows.uptoBulkAll (ds ++ gs) ≤ 1048576 := of_decide_eq_true hk
  have h1 : laidOutB Tryd.prog = true := by kernel_rfl
  have h2 : ([36, 37, 3, 3].all fun t => Tryd.prog.readableRec t && decide (t < Tryd.prog.types.size)) = true := by kernel_rfl
  have h3 : Tryd.f4.resultTypes = #[4] := by kernel_rfl
  refine law_end (P := Tryd.prog) (enc := enc) (W := W) (base := base) (args := args) (ds := ds) (gs := gs) (before := before) (f := 4) (fn := Tryd.f4) (s := Rows.reportNotesSpec) (ts := [36, 37, 3, 3]) (n := 1048576) (arg_cons Tryd.underlying36 rfl t36 (arg_cons Tryd.underlying37 rfl t37 (arg_cons Tryd.underlying3 rfl t3 (arg_cons Tryd.underlying3 rfl t3 arg_nil)))) (fun x hx => ?_) h1 h2 rfl h3 Tryd.underlying4 Tryd.params4 ?_ ?_ ?_ ?_ (tables hL hsh)
  rotate_left 2
  · exact @hval
  · exact hW
  · exact fun d hd => Nat.le_trans (bulk_all (List.mem_append_left _ hd)) hb
  · obtain ⟨x, l, a, b, _⟩ := x
    obtain ⟨hx, hl, ha, hb, _⟩ := hx
    exact ok4 x l a b true (law4 hx.1 hx.2.1 (fun v hv => ⟨(hx.2.2.1.2 v hv).1, by have h : v ≤ 255 := (hx.2.2.1.2 v hv).2; omega⟩) (fun q hq => okR (hl.2 q hq)) hb)
  · intro ds hl
    match ds, hl with
    | [_, _, _, _], _ => rfl

/-- A world for the witness: the listed variables hold what the row lists. -/
noncomputable def laidWorld (os : Os) : World :=
  { World.holding Tryd.prog os ⟨#[], #[], []⟩ with heap := ((((World.holding Tryd.prog os ⟨#[], #[], []⟩).heap.modify 1 fun | .cells _ t frozen => .cells #[.int .u64 1, .int .u64 10, .int .u64 100, .int .u64 1000, .int .u64 10000, .int .u64 100000, .int .u64 1000000, .int .u64 10000000, .int .u64 100000000, .int .u64 1000000000, .int .u64 10000000000, .int .u64 100000000000, .int .u64 1000000000000, .int .u64 10000000000000, .int .u64 100000000000000, .int .u64 1000000000000000, .int .u64 10000000000000000, .int .u64 100000000000000000, .int .u64 1000000000000000000, .int .u64 10000000000000000000] t frozen | o => o).modify 2 fun | .cells _ t frozen => .cells #[.int .u8 0, .int .u8 1, .int .u8 28, .int .u8 2, .int .u8 29, .int .u8 14, .int .u8 24, .int .u8 3, .int .u8 30, .int .u8 22, .int .u8 20, .int .u8 15, .int .u8 25, .int .u8 17, .int .u8 4, .int .u8 8, .int .u8 31, .int .u8 27, .int .u8 13, .int .u8 23, .int .u8 21, .int .u8 19, .int .u8 16, .int .u8 7, .int .u8 26, .int .u8 12, .int .u8 18, .int .u8 6, .int .u8 11, .int .u8 5, .int .u8 10, .int .u8 9] t frozen | o => o).modify 3 fun | .cells _ t frozen => .cells #[.int .u8 0, .int .u8 1, .int .u8 56, .int .u8 2, .int .u8 57, .int .u8 49, .int .u8 28, .int .u8 3, .int .u8 61, .int .u8 58, .int .u8 42, .int .u8 50, .int .u8 38, .int .u8 29, .int .u8 17, .int .u8 4, .int .u8 62, .int .u8 47, .int .u8 59, .int .u8 36, .int .u8 45, .int .u8 43, .int .u8 51, .int .u8 22, .int .u8 53, .int .u8 39, .int .u8 33, .int .u8 30, .int .u8 24, .int .u8 18, .int .u8 12, .int .u8 5, .int .u8 63, .int .u8 55, .int .u8 48, .int .u8 27, .int .u8 60, .int .u8 41, .int .u8 37, .int .u8 16, .int .u8 46, .int .u8 35, .int .u8 44, .int .u8 21, .int .u8 52, .int .u8 32, .int .u8 23, .int .u8 11, .int .u8 54, .int .u8 26, .int .u8 40, .int .u8 15, .int .u8 34, .int .u8 20, .int .u8 31, .int .u8 10, .int .u8 25, .int .u8 14, .int .u8 19, .int .u8 9, .int .u8 13, .int .u8 8, .int .u8 7, .int .u8 6] t frozen | o => o) }
theorem laid_met (os : Os) : laidMet Tryd.prog Rows.reportNotesUptoRow.laid ((laidWorld os).forCall (fun _ _ => 0) ⟨#[], #[.agg #[.int .i64 0, .int .i64 0, .slice none 0 0], .slice none 0 0, .int .i64 0, .int .i64 0], []⟩).memory :=
  laidMet_of_run3 8 (by kernel_rfl) (by kernel_rfl) (by kernel_rfl)
theorem reads (os : Os) {H : Type} (enc : TypeId × Value → H) : ∃ places, DataW.whole enc Tryd.prog ((laidWorld os).forCall (fun _ _ => 0) ⟨#[], #[.agg #[.int .i64 0, .int .i64 0, .slice none 0 0], .slice none 0 0, .int .i64 0, .int .i64 0], []⟩).memory Tryd.f4.params.toList Rows.reportNotesSpec.vars false (#[.agg #[.int .i64 0, .int .i64 0, .slice none 0 0], .slice none 0 0, .int .i64 0, .int .i64 0] : Array Value).toList 8 = some ([.agg [.lit (.int .i64 0), .lit (.int .i64 0), .nil], .nil, .lit (.int .i64 0), .lit (.int .i64 0)], [], places) :=
  ⟨[], by kernel_rfl⟩
theorem own : ownKnob Tryd.prog.godebug = none := by kernel_rfl

set_option maxRecDepth 100000 in
theorem lifted (os : Os) (started : os.Started) (H : Type) (enc : TypeId × Value → H) (F : Stop.Interp) :
    ReturnsInHanded {} Tryd.checked os 4 .any ((Rows.OpenSpec.upto Rows.reportNotesSpec).preRow enc Tryd.prog Tryd.f4 Rows.reportNotesUptoRow.domain false Rows.reportNotesUptoRow.laid) (((Rows.OpenSpec.upto Rows.reportNotesSpec).at F).post enc Tryd.prog Tryd.f4 false true false false) := by
  obtain ⟨places, hx⟩ := reads os enc
  refine returnsInHanded_of_row (C := Tryd.checked) (s := Rows.OpenSpec.upto Rows.reportNotesSpec) own started (by kernel_rfl) Tryd.func4
    (witness_row_at (enc := enc) (C := Tryd.checked) false (laidWorld os) #[.agg #[.int .i64 0, .int .i64 0, .slice none 0 0], .slice none 0 0, .int .i64 0, .int .i64 0] rfl (by kernel_rfl) (by kernel_rfl) (by kernel_rfl)
      (OpenSpec.preRow_of_cond 8 hx (by kernel_rfl) (fun k hk => by cases hk; kernel_rfl) (by kernel_rfl) (laid_met os))) ?_
  intro W base args ds gs before hval hW _ hcond _ hL hsh _
  exact contract H enc W base args ds gs before @hval hW (hcond _ rfl) hL hsh

theorem over : Rows.reportNotesUptoRow.holds Tryd.pinned (Rows.OpenSpec.upto Rows.reportNotesSpec) :=
  OpenClaim.holds_of_cond 4 Tryd.f4 rfl rfl rfl rfl rfl rfl rfl ⟨rfl, rfl, rfl, rfl, rfl⟩ rfl rfl rfl rfl rfl (by kernel_rfl) Tryd.func4 (by kernel_rfl)
    (of_decide_eq_true (by kernel_rfl)) (by unfold Func.isWrapper; first | (rw [if_pos (by decide +kernel)]; kernel_rfl) | (rw [if_neg (by decide +kernel)]; exact ⟨rfl, rfl⟩))
    (fun os started H enc _ F => by rw [OpenClaim.pre_eq_preRow]; exact lifted os started H enc F)

theorem plain (f : FuncId) (fn : Func) (hf : Tryd.pinned.checked.prog.funcNamed "gristmill/gristmilllaw36.ReportNotes" = some f) (hfn : Tryd.pinned.checked.prog.funcs[f]? = some fn) :
    false = Tryd.pinned.checked.prog.looks [] ∧ ∀ (j : Nat) t, fn.params[j]? = some t → Tryd.pinned.checked.prog.wantsStandIn t = false := by
  obtain rfl : f = 4 := Option.some.inj ((show Tryd.prog.funcNamed "gristmill/gristmilllaw36.ReportNotes" = some 4 by kernel_rfl).symm.trans hf) |>.symm
  obtain rfl : fn = Tryd.f4 := (Option.some.inj (Tryd.func4.symm.trans hfn)).symm
  refine ⟨by kernel_rfl, fun j t ht => ?_⟩
  have hm := Array.mem_of_getElem? ht
  rw [Tryd.params4] at hm
  have hall : (([36, 37, 3, 3] : List Nat).all fun t => Tryd.prog.wantsStandIn t == false) = true := by kernel_rfl
  have hm' : t ∈ ([36, 37, 3, 3] : List Nat) := by simpa using hm
  have := List.all_eq_true.1 hall t hm'
  exact (show Tryd.prog.wantsStandIn t = false by simpa using this)

theorem reportNotes_proved : Rows.ReportNotesUptoCardSaid :=
  Claim7.holds_tied_plain_at .later [] _ _ _ _ over (fun _ h => by cases h) (by kernel_rfl) (fun _ h => by cases h) reportNotesUpto_row_tie rfl ⟨rfl, rfl⟩ (by kernel_rfl) rfl plain (by kernel_rfl)
end Go.Proofs.YtlonihmeikmpiaaDoor
