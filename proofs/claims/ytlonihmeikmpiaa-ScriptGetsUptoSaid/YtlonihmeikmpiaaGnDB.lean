import Derived.Test.YtlonihmeikmpiaaGnAF
import Derived.Test.YtlonihmeikmpiaaGnLg
set_option linter.all false
set_option linter.unusedVariables false
set_option linter.unusedSimpArgs false
set_option linter.all false
set_option maxRecDepth 8000
namespace Go.Proofs.Y1
open Go.Gm
namespace Au
def enc3 (x : Int) : List AV := [.val (.int .i64 x)]
attribute [go_sem] enc3
theorem inl_enc3 (x : Int) : inlL (enc3 x) = true := by simp only [go_sem]
theorem ml_enc3 (l : List Int) : (∀ r ∈ l.map enc3, r.length = 1) = True := forall_map (f := enc3) (fun _ => rfl) l
theorem ir_enc3 (l : List Int) : inlR (l.map enc3) = true := inlR_map inl_enc3 l
theorem mr_enc3 (τ : Nat → Nat) (l : List Int) : (l.map enc3).map (mapTL τ) = l.map enc3 := mapR_inl τ (ir_enc3 l)
theorem to_enc3 (m : Nat) (l : List Int) : (l.map enc3).all (tokLL m) = true := tokR_inl m (ir_enc3 l)
theorem no_enc3 (x : Int) : normL (enc3 x) = enc3 x := by simp [enc3, normL, norm, go_sem]
theorem nr_enc3 (l : List Int) : normR (l.map enc3) = l.map enc3 := normR_map no_enc3 l
attribute [go_sem] ml_enc3 ir_enc3 mr_enc3 to_enc3 nr_enc3
def enc5 (x : Int) : List AV := [.val (.int .u8 x)]
attribute [go_sem] enc5
theorem inl_enc5 (x : Int) : inlL (enc5 x) = true := by simp only [go_sem]
theorem ml_enc5 (l : List Int) : (∀ r ∈ l.map enc5, r.length = 1) = True := forall_map (f := enc5) (fun _ => rfl) l
theorem ir_enc5 (l : List Int) : inlR (l.map enc5) = true := inlR_map inl_enc5 l
theorem mr_enc5 (τ : Nat → Nat) (l : List Int) : (l.map enc5).map (mapTL τ) = l.map enc5 := mapR_inl τ (ir_enc5 l)
theorem to_enc5 (m : Nat) (l : List Int) : (l.map enc5).all (tokLL m) = true := tokR_inl m (ir_enc5 l)
theorem no_enc5 (x : Int) : normL (enc5 x) = enc5 x := by simp [enc5, normL, norm, go_sem]
theorem nr_enc5 (l : List Int) : normR (l.map enc5) = l.map enc5 := normR_map no_enc5 l
attribute [go_sem] ml_enc5 ir_enc5 mr_enc5 to_enc5 nr_enc5
structure Tape where
  b : List Int
def encTape (x : Tape) : List AV := [.sl (List.map enc5 x.b)]
attribute [go_sem] encTape
theorem inl_encTape (x : Tape) : inlL (encTape x) = true := by simp only [go_sem]
theorem ml_encTape (l : List Tape) : (∀ r ∈ l.map encTape, r.length = 1) = True := forall_map (f := encTape) (fun _ => rfl) l
theorem ir_encTape (l : List Tape) : inlR (l.map encTape) = true := inlR_map inl_encTape l
theorem mr_encTape (τ : Nat → Nat) (l : List Tape) : (l.map encTape).map (mapTL τ) = l.map encTape := mapR_inl τ (ir_encTape l)
theorem to_encTape (m : Nat) (l : List Tape) : (l.map encTape).all (tokLL m) = true := tokR_inl m (ir_encTape l)
theorem no_encTape (x : Tape) : normL (encTape x) = encTape x := by simp [encTape, normL, norm, go_sem]
theorem nr_encTape (l : List Tape) : normR (l.map encTape) = l.map encTape := normR_map no_encTape l
attribute [go_sem] ml_encTape ir_encTape mr_encTape to_encTape nr_encTape
structure Reader where
  b : List Int
  at_ : Int
  e : Int
def encReader (x : Reader) : List AV := [.sl (List.map enc5 x.b), .val (.int .i64 x.at_), .val (.int .i64 x.e)]
attribute [go_sem] encReader
theorem inl_encReader (x : Reader) : inlL (encReader x) = true := by simp only [go_sem]
theorem ml_encReader (l : List Reader) : (∀ r ∈ l.map encReader, r.length = 3) = True := forall_map (f := encReader) (fun _ => rfl) l
theorem ir_encReader (l : List Reader) : inlR (l.map encReader) = true := inlR_map inl_encReader l
theorem mr_encReader (τ : Nat → Nat) (l : List Reader) : (l.map encReader).map (mapTL τ) = l.map encReader := mapR_inl τ (ir_encReader l)
theorem to_encReader (m : Nat) (l : List Reader) : (l.map encReader).all (tokLL m) = true := tokR_inl m (ir_encReader l)
theorem no_encReader (x : Reader) : normL (encReader x) = encReader x := by simp [encReader, normL, norm, go_sem]
theorem nr_encReader (l : List Reader) : normR (l.map encReader) = l.map encReader := normR_map no_encReader l
attribute [go_sem] ml_encReader ir_encReader mr_encReader to_encReader nr_encReader
structure Step where
  Do : Int
  Node : Int
  I : Int
  J : Int
  Keep : List Int
def encStep (x : Step) : List AV := [.val (.int .i64 x.Do), .val (.int .i64 x.Node), .val (.int .i64 x.I), .val (.int .i64 x.J), .sl (List.map enc3 x.Keep)]
attribute [go_sem] encStep
theorem inl_encStep (x : Step) : inlL (encStep x) = true := by simp only [go_sem]
theorem ml_encStep (l : List Step) : (∀ r ∈ l.map encStep, r.length = 5) = True := forall_map (f := encStep) (fun _ => rfl) l
theorem ir_encStep (l : List Step) : inlR (l.map encStep) = true := inlR_map inl_encStep l
theorem mr_encStep (τ : Nat → Nat) (l : List Step) : (l.map encStep).map (mapTL τ) = l.map encStep := mapR_inl τ (ir_encStep l)
theorem to_encStep (m : Nat) (l : List Step) : (l.map encStep).all (tokLL m) = true := tokR_inl m (ir_encStep l)
theorem no_encStep (x : Step) : normL (encStep x) = encStep x := by simp [encStep, normL, norm, go_sem]
theorem nr_encStep (l : List Step) : normR (l.map encStep) = l.map encStep := normR_map no_encStep l
attribute [go_sem] ml_encStep ir_encStep mr_encStep to_encStep nr_encStep
structure Cfg where
  Workers : Int
  Per : Int
  Timeout : Int
  Tries : Int
  Room : Int
def encCfg (x : Cfg) : List AV := [.val (.int .i64 x.Workers), .val (.int .i64 x.Per), .val (.int .i64 x.Timeout), .val (.int .i64 x.Tries), .val (.int .i64 x.Room)]
attribute [go_sem] encCfg
theorem inl_encCfg (x : Cfg) : inlL (encCfg x) = true := by simp only [go_sem]
theorem ml_encCfg (l : List Cfg) : (∀ r ∈ l.map encCfg, r.length = 5) = True := forall_map (f := encCfg) (fun _ => rfl) l
theorem ir_encCfg (l : List Cfg) : inlR (l.map encCfg) = true := inlR_map inl_encCfg l
theorem mr_encCfg (τ : Nat → Nat) (l : List Cfg) : (l.map encCfg).map (mapTL τ) = l.map encCfg := mapR_inl τ (ir_encCfg l)
theorem to_encCfg (m : Nat) (l : List Cfg) : (l.map encCfg).all (tokLL m) = true := tokR_inl m (ir_encCfg l)
theorem no_encCfg (x : Cfg) : normL (encCfg x) = encCfg x := by simp [encCfg, normL, norm, go_sem]
theorem nr_encCfg (l : List Cfg) : normR (l.map encCfg) = l.map encCfg := normR_map no_encCfg l
attribute [go_sem] ml_encCfg ir_encCfg mr_encCfg to_encCfg nr_encCfg
structure Run where
  Text : List Int
  Input : List Int
  Cfg : Cfg
  Steps : List Step
def encRun (x : Run) : List AV := [.sl (List.map enc5 x.Text), .sl (List.map enc5 x.Input), .val (.int .i64 x.Cfg.Workers), .val (.int .i64 x.Cfg.Per), .val (.int .i64 x.Cfg.Timeout), .val (.int .i64 x.Cfg.Tries), .val (.int .i64 x.Cfg.Room), .sl (List.map encStep x.Steps)]
attribute [go_sem] encRun
theorem inl_encRun (x : Run) : inlL (encRun x) = true := by simp only [go_sem]
theorem ml_encRun (l : List Run) : (∀ r ∈ l.map encRun, r.length = 8) = True := forall_map (f := encRun) (fun _ => rfl) l
theorem ir_encRun (l : List Run) : inlR (l.map encRun) = true := inlR_map inl_encRun l
theorem mr_encRun (τ : Nat → Nat) (l : List Run) : (l.map encRun).map (mapTL τ) = l.map encRun := mapR_inl τ (ir_encRun l)
theorem to_encRun (m : Nat) (l : List Run) : (l.map encRun).all (tokLL m) = true := tokR_inl m (ir_encRun l)
theorem no_encRun (x : Run) : normL (encRun x) = encRun x := by simp [encRun, normL, norm, go_sem]
theorem nr_encRun (l : List Run) : normR (l.map encRun) = l.map encRun := normR_map no_encRun l
attribute [go_sem] ml_encRun ir_encRun mr_encRun to_encRun nr_encRun
theorem se43 {x y : Operand} {a0 b0 a1 b1 a2 b2 a3 b3 a4 b4 : Int} : binV Try.prog .eql 43 x y (.agg #[.int .i64 a0, .int .i64 a1, .int .i64 a2, .int .i64 a3, .int .i64 a4]) (.agg #[.int .i64 b0, .int .i64 b1, .int .i64 b2, .int .i64 b3, .int .i64 b4]) = some (.bool (decide (a0 = b0) && (decide (a1 = b1) && (decide (a2 = b2) && (decide (a3 = b3) && decide (a4 = b4)))))) :=
  (binV_cmp (L := [(0, 3), (1, 3), (2, 3), (3, 3), (4, 3)]) (by kernel_rfl) (.int (k := .i64) (by kernel_rfl) rfl rfl (.int (k := .i64) (by kernel_rfl) rfl rfl (.int (k := .i64) (by kernel_rfl) rfl rfl (.int (k := .i64) (by kernel_rfl) rfl rfl (.int (k := .i64) (by kernel_rfl) rfl rfl .nil)))))).trans (by simp only [Bool.and_true])
end Au
end Go.Proofs.Y1
