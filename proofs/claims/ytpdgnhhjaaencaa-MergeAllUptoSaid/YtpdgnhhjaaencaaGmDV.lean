import Derived.Test.YtpdgnhhjaaencaaGmAF5
import Derived.Test.YtpdgnhhjaaencaaGmLg
import Derived.Test.YtpdgnhhjaaencaaGmLh
set_option linter.all false
set_option linter.unusedVariables false
set_option linter.unusedSimpArgs false
set_option linter.all false
set_option maxRecDepth 8000
set_option maxHeartbeats 1000000
namespace Go.Proofs.Y5
open Go.Gm
namespace Au
structure Val where
  Kind : Int
  Int : Int
  Text : ByteArray
def encVal (x : Val) : List AV := [.val (.int .u8 x.Kind), .val (.int .i64 x.Int), .val (.string x.Text)]
attribute [go_sem] encVal
theorem inl_encVal (x : Val) : inlL (encVal x) = true := by simp only [go_sem]
theorem ml_encVal (l : List Val) : (∀ r ∈ l.map encVal, r.length = 3) = True := forall_map (f := encVal) (fun _ => rfl) l
theorem ir_encVal (l : List Val) : inlR (l.map encVal) = true := inlR_map inl_encVal l
theorem mr_encVal (τ : Nat → Nat) (l : List Val) : (l.map encVal).map (mapTL τ) = l.map encVal := mapR_inl τ (ir_encVal l)
theorem to_encVal (m : Nat) (l : List Val) : (l.map encVal).all (tokLL m) = true := tokR_inl m (ir_encVal l)
theorem no_encVal (x : Val) : normL (encVal x) = encVal x := by simp [encVal, normL, norm, go_sem]
theorem nr_encVal (l : List Val) : normR (l.map encVal) = l.map encVal := normR_map no_encVal l
attribute [go_sem] ml_encVal ir_encVal mr_encVal to_encVal nr_encVal
structure Part where
  Acc : Val
  N : Int
def encPart (x : Part) : List AV := [.val (.int .u8 x.Acc.Kind), .val (.int .i64 x.Acc.Int), .val (.string x.Acc.Text), .val (.int .i64 x.N)]
attribute [go_sem] encPart
theorem inl_encPart (x : Part) : inlL (encPart x) = true := by simp only [go_sem]
theorem ml_encPart (l : List Part) : (∀ r ∈ l.map encPart, r.length = 4) = True := forall_map (f := encPart) (fun _ => rfl) l
theorem ir_encPart (l : List Part) : inlR (l.map encPart) = true := inlR_map inl_encPart l
theorem mr_encPart (τ : Nat → Nat) (l : List Part) : (l.map encPart).map (mapTL τ) = l.map encPart := mapR_inl τ (ir_encPart l)
theorem to_encPart (m : Nat) (l : List Part) : (l.map encPart).all (tokLL m) = true := tokR_inl m (ir_encPart l)
theorem no_encPart (x : Part) : normL (encPart x) = encPart x := by simp [encPart, normL, norm, go_sem]
theorem nr_encPart (l : List Part) : normR (l.map encPart) = l.map encPart := normR_map no_encPart l
attribute [go_sem] ml_encPart ir_encPart mr_encPart to_encPart nr_encPart
structure Item where
  Key : ByteArray
  Parts : List Part
  Offs : List Int
def enc3 (x : Int) : List AV := [.val (.int .i64 x)]
attribute [go_sem] enc3
theorem inl_enc3 (x : Int) : inlL (enc3 x) = true := by simp only [go_sem]
theorem ml_enc3 (l : List Int) : (∀ r ∈ l.map enc3, r.length = 1) = True := forall_map (f := enc3) (fun _ => rfl) l
theorem ir_enc3 (l : List Int) : inlR (l.map enc3) = true := inlR_map inl_enc3 l
theorem mr_enc3 (τ : Nat → Nat) (l : List Int) : (l.map enc3).map (mapTL τ) = l.map enc3 := mapR_inl τ (ir_enc3 l)
theorem to_enc3 (m : Nat) (l : List Int) : (l.map enc3).all (tokLL m) = true := tokR_inl m (ir_enc3 l)
theorem no_enc3 (x : Int) : normL (enc3 x) = enc3 x := by simp [enc3, normL, norm, go_sem]
theorem nr_enc3 (l : List Int) : normR (l.map enc3) = l.map enc3 := normR_map no_enc3 l
attribute [go_sem] ml_enc3 ir_enc3 mr_enc3 to_enc3 nr_enc3
def encItem (x : Item) : List AV := [.val (.string x.Key), .sl (List.map encPart x.Parts), .sl (List.map enc3 x.Offs)]
attribute [go_sem] encItem
theorem inl_encItem (x : Item) : inlL (encItem x) = true := by simp only [go_sem]
theorem ml_encItem (l : List Item) : (∀ r ∈ l.map encItem, r.length = 3) = True := forall_map (f := encItem) (fun _ => rfl) l
theorem ir_encItem (l : List Item) : inlR (l.map encItem) = true := inlR_map inl_encItem l
theorem mr_encItem (τ : Nat → Nat) (l : List Item) : (l.map encItem).map (mapTL τ) = l.map encItem := mapR_inl τ (ir_encItem l)
theorem to_encItem (m : Nat) (l : List Item) : (l.map encItem).all (tokLL m) = true := tokR_inl m (ir_encItem l)
theorem no_encItem (x : Item) : normL (encItem x) = encItem x := by simp [encItem, normL, norm, go_sem]
theorem nr_encItem (l : List Item) : normR (l.map encItem) = l.map encItem := normR_map no_encItem l
attribute [go_sem] ml_encItem ir_encItem mr_encItem to_encItem nr_encItem
def enc31 (x : List Int) : List AV := [.sl (List.map enc3 x)]
attribute [go_sem] enc31
theorem inl_enc31 (x : List Int) : inlL (enc31 x) = true := by simp only [go_sem]
theorem ml_enc31 (l : List (List Int)) : (∀ r ∈ l.map enc31, r.length = 1) = True := forall_map (f := enc31) (fun _ => rfl) l
theorem ir_enc31 (l : List (List Int)) : inlR (l.map enc31) = true := inlR_map inl_enc31 l
theorem mr_enc31 (τ : Nat → Nat) (l : List (List Int)) : (l.map enc31).map (mapTL τ) = l.map enc31 := mapR_inl τ (ir_enc31 l)
theorem to_enc31 (m : Nat) (l : List (List Int)) : (l.map enc31).all (tokLL m) = true := tokR_inl m (ir_enc31 l)
theorem no_enc31 (x : List Int) : normL (enc31 x) = enc31 x := by simp [enc31, normL, norm, go_sem]
theorem nr_enc31 (l : List (List Int)) : normR (l.map enc31) = l.map enc31 := normR_map no_enc31 l
attribute [go_sem] ml_enc31 ir_enc31 mr_enc31 to_enc31 nr_enc31
def enc22 (x : List Item) : List AV := [.sl (List.map encItem x)]
attribute [go_sem] enc22
theorem inl_enc22 (x : List Item) : inlL (enc22 x) = true := by simp only [go_sem]
theorem ml_enc22 (l : List (List Item)) : (∀ r ∈ l.map enc22, r.length = 1) = True := forall_map (f := enc22) (fun _ => rfl) l
theorem ir_enc22 (l : List (List Item)) : inlR (l.map enc22) = true := inlR_map inl_enc22 l
theorem mr_enc22 (τ : Nat → Nat) (l : List (List Item)) : (l.map enc22).map (mapTL τ) = l.map enc22 := mapR_inl τ (ir_enc22 l)
theorem to_enc22 (m : Nat) (l : List (List Item)) : (l.map enc22).all (tokLL m) = true := tokR_inl m (ir_enc22 l)
theorem no_enc22 (x : List Item) : normL (enc22 x) = enc22 x := by simp [enc22, normL, norm, go_sem]
theorem nr_enc22 (l : List (List Item)) : normR (l.map enc22) = l.map enc22 := normR_map no_enc22 l
attribute [go_sem] ml_enc22 ir_enc22 mr_enc22 to_enc22 nr_enc22
def enc9 (x : ByteArray) : List AV := [.val (.string x)]
attribute [go_sem] enc9
theorem inl_enc9 (x : ByteArray) : inlL (enc9 x) = true := by simp only [go_sem]
theorem ml_enc9 (l : List ByteArray) : (∀ r ∈ l.map enc9, r.length = 1) = True := forall_map (f := enc9) (fun _ => rfl) l
theorem ir_enc9 (l : List ByteArray) : inlR (l.map enc9) = true := inlR_map inl_enc9 l
theorem mr_enc9 (τ : Nat → Nat) (l : List ByteArray) : (l.map enc9).map (mapTL τ) = l.map enc9 := mapR_inl τ (ir_enc9 l)
theorem to_enc9 (m : Nat) (l : List ByteArray) : (l.map enc9).all (tokLL m) = true := tokR_inl m (ir_enc9 l)
theorem no_enc9 (x : ByteArray) : normL (enc9 x) = enc9 x := by simp [enc9, normL, norm, go_sem]
theorem nr_enc9 (l : List ByteArray) : normR (l.map enc9) = l.map enc9 := normR_map no_enc9 l
attribute [go_sem] ml_enc9 ir_enc9 mr_enc9 to_enc9 nr_enc9
def enc5 (x : Int) : List AV := [.val (.int .u8 x)]
attribute [go_sem] enc5
theorem inl_enc5 (x : Int) : inlL (enc5 x) = true := by simp only [go_sem]
theorem ml_enc5 (l : List Int) : (∀ r ∈ l.map enc5, r.length = 1) = True := forall_map (f := enc5) (fun _ => rfl) l
theorem ir_enc5 (l : List Int) : inlR (l.map enc5) = true := inlR_map inl_enc5 l
theorem mr_enc5 (τ : Nat → Nat) (l : List Int) : (l.map enc5).map (mapTL τ) = l.map enc5 := mapR_inl τ (ir_enc5 l)
theorem to_enc5 (m : Nat) (l : List Int) : (l.map enc5).all (tokLL m) = true := tokR_inl m (ir_enc5 l)
theorem no_enc5 (x : Int) : normL (enc5 x) = enc5 x := by simp [enc5, normL, norm, go_sem]
theorem nr_enc5 (l : List Int) : normR (l.map enc5) = l.map enc5 := normR_map no_enc5 l
attribute [go_sem] ml_enc5 ir_enc5 mr_enc5 to_enc5 nr_enc5
def fuel : Nat := 4000000
end Au
end Go.Proofs.Y5
