import Derived.Test.YtncdjladnpogiaaGsAF2
import Derived.Test.YtncdjladnpogiaaGsLg
import Derived.Test.YtncdjladnpogiaaGsLh
set_option linter.all false
set_option linter.unusedVariables false
set_option linter.unusedSimpArgs false
set_option linter.all false
set_option maxRecDepth 8000
set_option maxHeartbeats 1000000
namespace Go.Proofs.Y2
open Go.Gm
namespace Au
structure Res where
  Key : ByteArray
  Val : ByteArray
  Offs : List Int
def enc3 (x : Int) : List AV := [.val (.int .i64 x)]
attribute [go_sem] enc3
theorem inl_enc3 (x : Int) : inlL (enc3 x) = true := by simp only [go_sem]
theorem ml_enc3 (l : List Int) : (∀ r ∈ l.map enc3, r.length = 1) = True := forall_map (f := enc3) (fun _ => rfl) l
theorem ir_enc3 (l : List Int) : inlR (l.map enc3) = true := inlR_map inl_enc3 l
theorem mr_enc3 (τ : Nat → Nat) (l : List Int) : (l.map enc3).map (mapTL τ) = l.map enc3 := mapR_inl τ (ir_enc3 l)
theorem to_enc3 (m : Nat) (l : List Int) : (l.map enc3).all (tokLL m) = true := tokR_inl m (ir_enc3 l)
theorem no_enc3 (x : Int) : normL (enc3 x) = enc3 x := by simp [enc3, normL, norm, go_sem]
theorem nr_enc3 (l : List Int) : normR (l.map enc3) = l.map enc3 := normR_map no_enc3 l
attribute [go_sem] ml_enc3 ir_enc3 mr_enc3 to_enc3 nr_enc3
def encRes (x : Res) : List AV := [.val (.string x.Key), .val (.string x.Val), .sl (List.map enc3 x.Offs)]
attribute [go_sem] encRes
theorem inl_encRes (x : Res) : inlL (encRes x) = true := by simp only [go_sem]
theorem ml_encRes (l : List Res) : (∀ r ∈ l.map encRes, r.length = 3) = True := forall_map (f := encRes) (fun _ => rfl) l
theorem ir_encRes (l : List Res) : inlR (l.map encRes) = true := inlR_map inl_encRes l
theorem mr_encRes (τ : Nat → Nat) (l : List Res) : (l.map encRes).map (mapTL τ) = l.map encRes := mapR_inl τ (ir_encRes l)
theorem to_encRes (m : Nat) (l : List Res) : (l.map encRes).all (tokLL m) = true := tokR_inl m (ir_encRes l)
theorem no_encRes (x : Res) : normL (encRes x) = encRes x := by simp [encRes, normL, norm, go_sem]
theorem nr_encRes (l : List Res) : normR (l.map encRes) = l.map encRes := normR_map no_encRes l
attribute [go_sem] ml_encRes ir_encRes mr_encRes to_encRes nr_encRes
def enc5 (x : Int) : List AV := [.val (.int .u8 x)]
attribute [go_sem] enc5
theorem inl_enc5 (x : Int) : inlL (enc5 x) = true := by simp only [go_sem]
theorem ml_enc5 (l : List Int) : (∀ r ∈ l.map enc5, r.length = 1) = True := forall_map (f := enc5) (fun _ => rfl) l
theorem ir_enc5 (l : List Int) : inlR (l.map enc5) = true := inlR_map inl_enc5 l
theorem mr_enc5 (τ : Nat → Nat) (l : List Int) : (l.map enc5).map (mapTL τ) = l.map enc5 := mapR_inl τ (ir_enc5 l)
theorem to_enc5 (m : Nat) (l : List Int) : (l.map enc5).all (tokLL m) = true := tokR_inl m (ir_enc5 l)
theorem no_enc5 (x : Int) : normL (enc5 x) = enc5 x := by simp [enc5, normL, norm, go_sem]
theorem nr_enc5 (l : List Int) : normR (l.map enc5) = l.map enc5 := normR_map no_enc5 l
attribute [go_sem] ml_enc5 ir_enc5 mr_enc5 to_enc5 nr_enc5
structure Record where
  Off : Int
  Line : ByteArray
def encRecord (x : Record) : List AV := [.val (.int .i64 x.Off), .val (.string x.Line)]
attribute [go_sem] encRecord
theorem inl_encRecord (x : Record) : inlL (encRecord x) = true := by simp only [go_sem]
theorem ml_encRecord (l : List Record) : (∀ r ∈ l.map encRecord, r.length = 2) = True := forall_map (f := encRecord) (fun _ => rfl) l
theorem ir_encRecord (l : List Record) : inlR (l.map encRecord) = true := inlR_map inl_encRecord l
theorem mr_encRecord (τ : Nat → Nat) (l : List Record) : (l.map encRecord).map (mapTL τ) = l.map encRecord := mapR_inl τ (ir_encRecord l)
theorem to_encRecord (m : Nat) (l : List Record) : (l.map encRecord).all (tokLL m) = true := tokR_inl m (ir_encRecord l)
theorem no_encRecord (x : Record) : normL (encRecord x) = encRecord x := by simp [encRecord, normL, norm, go_sem]
theorem nr_encRecord (l : List Record) : normR (l.map encRecord) = l.map encRecord := normR_map no_encRecord l
attribute [go_sem] ml_encRecord ir_encRecord mr_encRecord to_encRecord nr_encRecord
structure Ranked where
  r : Res
def encRanked (x : Ranked) : List AV := [.val (.string x.r.Key), .val (.string x.r.Val), .sl (List.map enc3 x.r.Offs)]
attribute [go_sem] encRanked
theorem inl_encRanked (x : Ranked) : inlL (encRanked x) = true := by simp only [go_sem]
theorem ml_encRanked (l : List Ranked) : (∀ r ∈ l.map encRanked, r.length = 3) = True := forall_map (f := encRanked) (fun _ => rfl) l
theorem ir_encRanked (l : List Ranked) : inlR (l.map encRanked) = true := inlR_map inl_encRanked l
theorem mr_encRanked (τ : Nat → Nat) (l : List Ranked) : (l.map encRanked).map (mapTL τ) = l.map encRanked := mapR_inl τ (ir_encRanked l)
theorem to_encRanked (m : Nat) (l : List Ranked) : (l.map encRanked).all (tokLL m) = true := tokR_inl m (ir_encRanked l)
theorem no_encRanked (x : Ranked) : normL (encRanked x) = encRanked x := by simp [encRanked, normL, norm, go_sem]
theorem nr_encRanked (l : List Ranked) : normR (l.map encRanked) = l.map encRanked := normR_map no_encRanked l
attribute [go_sem] ml_encRanked ir_encRanked mr_encRanked to_encRanked nr_encRanked
def enc4 (x : Bool) : List AV := [.val (.bool x)]
attribute [go_sem] enc4
theorem inl_enc4 (x : Bool) : inlL (enc4 x) = true := by simp only [go_sem]
theorem ml_enc4 (l : List Bool) : (∀ r ∈ l.map enc4, r.length = 1) = True := forall_map (f := enc4) (fun _ => rfl) l
theorem ir_enc4 (l : List Bool) : inlR (l.map enc4) = true := inlR_map inl_enc4 l
theorem mr_enc4 (τ : Nat → Nat) (l : List Bool) : (l.map enc4).map (mapTL τ) = l.map enc4 := mapR_inl τ (ir_enc4 l)
theorem to_enc4 (m : Nat) (l : List Bool) : (l.map enc4).all (tokLL m) = true := tokR_inl m (ir_enc4 l)
theorem no_enc4 (x : Bool) : normL (enc4 x) = enc4 x := by simp [enc4, normL, norm, go_sem]
theorem nr_enc4 (l : List Bool) : normR (l.map enc4) = l.map enc4 := normR_map no_enc4 l
attribute [go_sem] ml_enc4 ir_enc4 mr_enc4 to_enc4 nr_enc4
def enc9 (x : ByteArray) : List AV := [.val (.string x)]
attribute [go_sem] enc9
theorem inl_enc9 (x : ByteArray) : inlL (enc9 x) = true := by simp only [go_sem]
theorem ml_enc9 (l : List ByteArray) : (∀ r ∈ l.map enc9, r.length = 1) = True := forall_map (f := enc9) (fun _ => rfl) l
theorem ir_enc9 (l : List ByteArray) : inlR (l.map enc9) = true := inlR_map inl_enc9 l
theorem mr_enc9 (τ : Nat → Nat) (l : List ByteArray) : (l.map enc9).map (mapTL τ) = l.map enc9 := mapR_inl τ (ir_enc9 l)
theorem to_enc9 (m : Nat) (l : List ByteArray) : (l.map enc9).all (tokLL m) = true := tokR_inl m (ir_enc9 l)
theorem no_enc9 (x : ByteArray) : normL (enc9 x) = enc9 x := by simp [enc9, normL, norm, go_sem]
theorem nr_enc9 (l : List ByteArray) : normR (l.map enc9) = l.map enc9 := normR_map no_enc9 l
attribute [go_sem] ml_enc9 ir_enc9 mr_enc9 to_enc9 nr_enc9
def fuel : Nat := 4000000
end Au
end Go.Proofs.Y2
