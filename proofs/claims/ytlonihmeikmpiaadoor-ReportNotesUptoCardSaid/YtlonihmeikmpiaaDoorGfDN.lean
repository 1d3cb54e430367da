import Derived.Test.YtlonihmeikmpiaaDoorGfAFd
import Derived.Test.YtlonihmeikmpiaaDoorGfLg
import Derived.Test.YtlonihmeikmpiaaDoorGfLh
set_option linter.all false
set_option linter.unusedVariables false
set_option linter.unusedSimpArgs false
set_option linter.all false
set_option maxRecDepth 8000
set_option maxHeartbeats 1000000
namespace Go.Proofs.Yd
open Go.Gm
namespace Au
structure Msg where
  From : Int
  To : Int
  Data : List Int
def enc5 (x : Int) : List AV := [.val (.int .u8 x)]
attribute [go_sem] enc5
theorem inl_enc5 (x : Int) : inlL (enc5 x) = true := by simp only [go_sem]
theorem ml_enc5 (l : List Int) : (∀ r ∈ l.map enc5, r.length = 1) = True := forall_map (f := enc5) (fun _ => rfl) l
theorem ir_enc5 (l : List Int) : inlR (l.map enc5) = true := inlR_map inl_enc5 l
theorem mr_enc5 (τ : Nat → Nat) (l : List Int) : (l.map enc5).map (mapTL τ) = l.map enc5 := mapR_inl τ (ir_enc5 l)
theorem to_enc5 (m : Nat) (l : List Int) : (l.map enc5).all (tokLL m) = true := tokR_inl m (ir_enc5 l)
theorem no_enc5 (x : Int) : normL (enc5 x) = enc5 x := by simp [enc5, normL, norm, go_sem]
theorem nr_enc5 (l : List Int) : normR (l.map enc5) = l.map enc5 := normR_map no_enc5 l
attribute [go_sem] ml_enc5 ir_enc5 mr_enc5 to_enc5 nr_enc5
def encMsg (x : Msg) : List AV := [.val (.int .i64 x.From), .val (.int .i64 x.To), .sl (List.map enc5 x.Data)]
attribute [go_sem] encMsg
theorem inl_encMsg (x : Msg) : inlL (encMsg x) = true := by simp only [go_sem]
theorem ml_encMsg (l : List Msg) : (∀ r ∈ l.map encMsg, r.length = 3) = True := forall_map (f := encMsg) (fun _ => rfl) l
theorem ir_encMsg (l : List Msg) : inlR (l.map encMsg) = true := inlR_map inl_encMsg l
theorem mr_encMsg (τ : Nat → Nat) (l : List Msg) : (l.map encMsg).map (mapTL τ) = l.map encMsg := mapR_inl τ (ir_encMsg l)
theorem to_encMsg (m : Nat) (l : List Msg) : (l.map encMsg).all (tokLL m) = true := tokR_inl m (ir_encMsg l)
theorem no_encMsg (x : Msg) : normL (encMsg x) = encMsg x := by simp [encMsg, normL, norm, go_sem]
theorem nr_encMsg (l : List Msg) : normR (l.map encMsg) = l.map encMsg := normR_map no_encMsg l
attribute [go_sem] ml_encMsg ir_encMsg mr_encMsg to_encMsg nr_encMsg
structure Res where
  Key : ByteArray
  Val : ByteArray
  Offs : List Int
def enc3 (x : Int) : List AV := [.val (.int .i64 x)]
attribute [go_sem] enc3
theorem inl_enc3 (x : Int) : inlL (enc3 x) = true := by simp only [go_sem]
theorem ml_enc3 (l : List Int) : (∀ r ∈ l.map enc3, r.length = 1) = True := forall_map (f := enc3) (fun _ => rfl) l
theorem ir_enc3 (l : List Int) : inlR (l.map enc3) = true := inlR_map inl_enc3 l
theorem mr_enc3 (τ : Nat → Nat) (l : List Int) : (l.map enc3).map (mapTL τ) = l.map enc3 := mapR_inl τ (ir_enc3 l)
theorem to_enc3 (m : Nat) (l : List Int) : (l.map enc3).all (tokLL m) = true := tokR_inl m (ir_enc3 l)
theorem no_enc3 (x : Int) : normL (enc3 x) = enc3 x := by simp [enc3, normL, norm, go_sem]
theorem nr_enc3 (l : List Int) : normR (l.map enc3) = l.map enc3 := normR_map no_enc3 l
attribute [go_sem] ml_enc3 ir_enc3 mr_enc3 to_enc3 nr_enc3
def encRes (x : Res) : List AV := [.val (.string x.Key), .val (.string x.Val), .sl (List.map enc3 x.Offs)]
attribute [go_sem] encRes
theorem inl_encRes (x : Res) : inlL (encRes x) = true := by simp only [go_sem]
theorem ml_encRes (l : List Res) : (∀ r ∈ l.map encRes, r.length = 3) = True := forall_map (f := encRes) (fun _ => rfl) l
theorem ir_encRes (l : List Res) : inlR (l.map encRes) = true := inlR_map inl_encRes l
theorem mr_encRes (τ : Nat → Nat) (l : List Res) : (l.map encRes).map (mapTL τ) = l.map encRes := mapR_inl τ (ir_encRes l)
theorem to_encRes (m : Nat) (l : List Res) : (l.map encRes).all (tokLL m) = true := tokR_inl m (ir_encRes l)
theorem no_encRes (x : Res) : normL (encRes x) = encRes x := by simp [encRes, normL, norm, go_sem]
theorem nr_encRes (l : List Res) : normR (l.map encRes) = l.map encRes := normR_map no_encRes l
attribute [go_sem] ml_encRes ir_encRes mr_encRes to_encRes nr_encRes
def enc9 (x : ByteArray) : List AV := [.val (.string x)]
attribute [go_sem] enc9
theorem inl_enc9 (x : ByteArray) : inlL (enc9 x) = true := by simp only [go_sem]
theorem ml_enc9 (l : List ByteArray) : (∀ r ∈ l.map enc9, r.length = 1) = True := forall_map (f := enc9) (fun _ => rfl) l
theorem ir_enc9 (l : List ByteArray) : inlR (l.map enc9) = true := inlR_map inl_enc9 l
theorem mr_enc9 (τ : Nat → Nat) (l : List ByteArray) : (l.map enc9).map (mapTL τ) = l.map enc9 := mapR_inl τ (ir_enc9 l)
theorem to_enc9 (m : Nat) (l : List ByteArray) : (l.map enc9).all (tokLL m) = true := tokR_inl m (ir_enc9 l)
theorem no_enc9 (x : ByteArray) : normL (enc9 x) = enc9 x := by simp [enc9, normL, norm, go_sem]
theorem nr_enc9 (l : List ByteArray) : normR (l.map enc9) = l.map enc9 := normR_map no_enc9 l
attribute [go_sem] ml_enc9 ir_enc9 mr_enc9 to_enc9 nr_enc9
structure Note where
  Kind : Int
  Task : Int
  Try : Int
  Part : Int
  Where : List Int
  A : List Int
  B : List Int
def encNote (x : Note) : List AV := [.val (.int .i64 x.Kind), .val (.int .i64 x.Task), .val (.int .i64 x.Try), .val (.int .i64 x.Part), .sl (List.map enc3 x.Where), .sl (List.map enc5 x.A), .sl (List.map enc5 x.B)]
attribute [go_sem] encNote
theorem inl_encNote (x : Note) : inlL (encNote x) = true := by simp only [go_sem]
theorem ml_encNote (l : List Note) : (∀ r ∈ l.map encNote, r.length = 7) = True := forall_map (f := encNote) (fun _ => rfl) l
theorem ir_encNote (l : List Note) : inlR (l.map encNote) = true := inlR_map inl_encNote l
theorem mr_encNote (τ : Nat → Nat) (l : List Note) : (l.map encNote).map (mapTL τ) = l.map encNote := mapR_inl τ (ir_encNote l)
theorem to_encNote (m : Nat) (l : List Note) : (l.map encNote).all (tokLL m) = true := tokR_inl m (ir_encNote l)
theorem no_encNote (x : Note) : normL (encNote x) = encNote x := by simp [encNote, normL, norm, go_sem]
theorem nr_encNote (l : List Note) : normR (l.map encNote) = l.map encNote := normR_map no_encNote l
attribute [go_sem] ml_encNote ir_encNote mr_encNote to_encNote nr_encNote
structure Reader where
  b : List Int
  at_ : Int
  e : Int
def encReader (x : Reader) : List AV := [.sl (List.map enc5 x.b), .val (.int .i64 x.at_), .val (.int .i64 x.e)]
attribute [go_sem] encReader
theorem inl_encReader (x : Reader) : inlL (encReader x) = true := by simp only [go_sem]
theorem ml_encReader (l : List Reader) : (∀ r ∈ l.map encReader, r.length = 3) = True := forall_map (f := encReader) (fun _ => rfl) l
theorem ir_encReader (l : List Reader) : inlR (l.map encReader) = true := inlR_map inl_encReader l
theorem mr_encReader (τ : Nat → Nat) (l : List Reader) : (l.map encReader).map (mapTL τ) = l.map encReader := mapR_inl τ (ir_encReader l)
theorem to_encReader (m : Nat) (l : List Reader) : (l.map encReader).all (tokLL m) = true := tokR_inl m (ir_encReader l)
theorem no_encReader (x : Reader) : normL (encReader x) = encReader x := by simp [encReader, normL, norm, go_sem]
theorem nr_encReader (l : List Reader) : normR (l.map encReader) = l.map encReader := normR_map no_encReader l
attribute [go_sem] ml_encReader ir_encReader mr_encReader to_encReader nr_encReader
def fuel : Nat := 4000000
end Au
end Go.Proofs.Yd
