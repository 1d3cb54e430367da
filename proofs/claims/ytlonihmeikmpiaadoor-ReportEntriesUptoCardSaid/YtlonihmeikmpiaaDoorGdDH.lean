import Derived.Test.YtlonihmeikmpiaaDoorGdAFd
import Derived.Test.YtlonihmeikmpiaaDoorGdLg
import Derived.Test.YtlonihmeikmpiaaDoorGdLh
set_option linter.all false
set_option linter.unusedVariables false
set_option linter.unusedSimpArgs false
set_option linter.all false
set_option maxRecDepth 8000
set_option maxHeartbeats 1000000
namespace Go.Proofs.Yd
open Go.Gm
namespace Au
structure Entry where
  Kind : Int
  A : Int
  B : Int
  C : Int
  Sums : List (A32 Int)
def enc46 (x : A32 Int) : List AV := [.val (.int .u8 x.e0), .val (.int .u8 x.e1), .val (.int .u8 x.e2), .val (.int .u8 x.e3), .val (.int .u8 x.e4), .val (.int .u8 x.e5), .val (.int .u8 x.e6), .val (.int .u8 x.e7), .val (.int .u8 x.e8), .val (.int .u8 x.e9), .val (.int .u8 x.e10), .val (.int .u8 x.e11), .val (.int .u8 x.e12), .val (.int .u8 x.e13), .val (.int .u8 x.e14), .val (.int .u8 x.e15), .val (.int .u8 x.e16), .val (.int .u8 x.e17), .val (.int .u8 x.e18), .val (.int .u8 x.e19), .val (.int .u8 x.e20), .val (.int .u8 x.e21), .val (.int .u8 x.e22), .val (.int .u8 x.e23), .val (.int .u8 x.e24), .val (.int .u8 x.e25), .val (.int .u8 x.e26), .val (.int .u8 x.e27), .val (.int .u8 x.e28), .val (.int .u8 x.e29), .val (.int .u8 x.e30), .val (.int .u8 x.e31)]
attribute [go_sem] enc46
theorem inl_enc46 (x : A32 Int) : inlL (enc46 x) = true := by simp only [go_sem]
theorem ml_enc46 (l : List (A32 Int)) : (∀ r ∈ l.map enc46, r.length = 32) = True := forall_map (f := enc46) (fun _ => rfl) l
theorem ir_enc46 (l : List (A32 Int)) : inlR (l.map enc46) = true := inlR_map inl_enc46 l
theorem mr_enc46 (τ : Nat → Nat) (l : List (A32 Int)) : (l.map enc46).map (mapTL τ) = l.map enc46 := mapR_inl τ (ir_enc46 l)
theorem to_enc46 (m : Nat) (l : List (A32 Int)) : (l.map enc46).all (tokLL m) = true := tokR_inl m (ir_enc46 l)
theorem no_enc46 (x : A32 Int) : normL (enc46 x) = enc46 x := by simp [enc46, normL, norm, go_sem]
theorem nr_enc46 (l : List (A32 Int)) : normR (l.map enc46) = l.map enc46 := normR_map no_enc46 l
attribute [go_sem] ml_enc46 ir_enc46 mr_enc46 to_enc46 nr_enc46
def encEntry (x : Entry) : List AV := [.val (.int .i64 x.Kind), .val (.int .i64 x.A), .val (.int .i64 x.B), .val (.int .i64 x.C), .sl (List.map enc46 x.Sums)]
attribute [go_sem] encEntry
theorem inl_encEntry (x : Entry) : inlL (encEntry x) = true := by simp only [go_sem]
theorem ml_encEntry (l : List Entry) : (∀ r ∈ l.map encEntry, r.length = 5) = True := forall_map (f := encEntry) (fun _ => rfl) l
theorem ir_encEntry (l : List Entry) : inlR (l.map encEntry) = true := inlR_map inl_encEntry l
theorem mr_encEntry (τ : Nat → Nat) (l : List Entry) : (l.map encEntry).map (mapTL τ) = l.map encEntry := mapR_inl τ (ir_encEntry l)
theorem to_encEntry (m : Nat) (l : List Entry) : (l.map encEntry).all (tokLL m) = true := tokR_inl m (ir_encEntry l)
theorem no_encEntry (x : Entry) : normL (encEntry x) = encEntry x := by simp [encEntry, normL, norm, go_sem]
theorem nr_encEntry (l : List Entry) : normR (l.map encEntry) = l.map encEntry := normR_map no_encEntry l
attribute [go_sem] ml_encEntry ir_encEntry mr_encEntry to_encEntry nr_encEntry
def enc3 (x : Int) : List AV := [.val (.int .i64 x)]
attribute [go_sem] enc3
theorem inl_enc3 (x : Int) : inlL (enc3 x) = true := by simp only [go_sem]
theorem ml_enc3 (l : List Int) : (∀ r ∈ l.map enc3, r.length = 1) = True := forall_map (f := enc3) (fun _ => rfl) l
theorem ir_enc3 (l : List Int) : inlR (l.map enc3) = true := inlR_map inl_enc3 l
theorem mr_enc3 (τ : Nat → Nat) (l : List Int) : (l.map enc3).map (mapTL τ) = l.map enc3 := mapR_inl τ (ir_enc3 l)
theorem to_enc3 (m : Nat) (l : List Int) : (l.map enc3).all (tokLL m) = true := tokR_inl m (ir_enc3 l)
theorem no_enc3 (x : Int) : normL (enc3 x) = enc3 x := by simp [enc3, normL, norm, go_sem]
theorem nr_enc3 (l : List Int) : normR (l.map enc3) = l.map enc3 := normR_map no_enc3 l
attribute [go_sem] ml_enc3 ir_enc3 mr_enc3 to_enc3 nr_enc3
def enc9 (x : ByteArray) : List AV := [.val (.string x)]
attribute [go_sem] enc9
theorem inl_enc9 (x : ByteArray) : inlL (enc9 x) = true := by simp only [go_sem]
theorem ml_enc9 (l : List ByteArray) : (∀ r ∈ l.map enc9, r.length = 1) = True := forall_map (f := enc9) (fun _ => rfl) l
theorem ir_enc9 (l : List ByteArray) : inlR (l.map enc9) = true := inlR_map inl_enc9 l
theorem mr_enc9 (τ : Nat → Nat) (l : List ByteArray) : (l.map enc9).map (mapTL τ) = l.map enc9 := mapR_inl τ (ir_enc9 l)
theorem to_enc9 (m : Nat) (l : List ByteArray) : (l.map enc9).all (tokLL m) = true := tokR_inl m (ir_enc9 l)
theorem no_enc9 (x : ByteArray) : normL (enc9 x) = enc9 x := by simp [enc9, normL, norm, go_sem]
theorem nr_enc9 (l : List ByteArray) : normR (l.map enc9) = l.map enc9 := normR_map no_enc9 l
attribute [go_sem] ml_enc9 ir_enc9 mr_enc9 to_enc9 nr_enc9
def enc5 (x : Int) : List AV := [.val (.int .u8 x)]
attribute [go_sem] enc5
theorem inl_enc5 (x : Int) : inlL (enc5 x) = true := by simp only [go_sem]
theorem ml_enc5 (l : List Int) : (∀ r ∈ l.map enc5, r.length = 1) = True := forall_map (f := enc5) (fun _ => rfl) l
theorem ir_enc5 (l : List Int) : inlR (l.map enc5) = true := inlR_map inl_enc5 l
theorem mr_enc5 (τ : Nat → Nat) (l : List Int) : (l.map enc5).map (mapTL τ) = l.map enc5 := mapR_inl τ (ir_enc5 l)
theorem to_enc5 (m : Nat) (l : List Int) : (l.map enc5).all (tokLL m) = true := tokR_inl m (ir_enc5 l)
theorem no_enc5 (x : Int) : normL (enc5 x) = enc5 x := by simp [enc5, normL, norm, go_sem]
theorem nr_enc5 (l : List Int) : normR (l.map enc5) = l.map enc5 := normR_map no_enc5 l
attribute [go_sem] ml_enc5 ir_enc5 mr_enc5 to_enc5 nr_enc5
theorem nb4 {x y : Operand} {a b : Bool} : binV Tryd.prog .neq 4 x y (.bool a) (.bool b) = some (.bool (!decide (a = b))) := binV_nbool (by kernel_rfl)
def fuel : Nat := 4000000
end Au
end Go.Proofs.Yd
