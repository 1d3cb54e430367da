import Derived.Test.YtlonihmeikmpiaaGpS4B
import Derived.Test.YtlonihmeikmpiaaGpS3E
import Derived.Test.YtlonihmeikmpiaaGpW6
set_option linter.all false
set_option linter.unusedVariables false
set_option linter.unusedSimpArgs false
set_option linter.all false
set_option maxRecDepth 8000
namespace Go.Proofs.Y1
open Go.Gm
namespace Au
theorem strI {l : List Int} (h : Byt l) : bytesI (strOfNums l) = l := by
  unfold bytesI bl
  rw [strOfNums_data, List.map_map]
  conv => rhs; rw [← List.map_id l]
  apply List.map_congr_left
  intro x hx
  obtain ⟨h0, h1⟩ := h x hx
  simp only [Function.comp, UInt8.toNat_ofNat', id]
  omega
/-- a number with its sign, as one without -/
def zz (n : Int) : Int := if n < 0 then 2 * (-(n + 1)) + 1 else 2 * n
def I64 (n : Int) : Prop := -9223372036854775808 ≤ n ∧ n < 9223372036854775808
theorem zz_rng {n : Int} (h : I64 n) : 0 ≤ zz n ∧ zz n < 18446744073709551616 := by
  unfold I64 at h; unfold zz; split <;> omega
theorem xorU0 {v : Int} (h0 : 0 ≤ v) (h1 : v < 18446744073709551616) : xorV .u64 v 0 = v := by
  obtain ⟨n, rfl⟩ := Int.eq_ofNat_of_zero_le h0
  show IntKind.u64.wrap (((BitVec.ofInt 64 (n : Int) ^^^ BitVec.ofInt 64 0).toNat : Nat) : Int) = _
  have : BitVec.ofInt 64 0 = 0#64 := by decide
  rw [this, BitVec.xor_zero, BitVec.ofInt_natCast, BitVec.toNat_ofNat, Nat.mod_eq_of_lt (by omega), u64_wrap]
  omega
theorem xorU1 {v : Int} (h0 : 0 ≤ v) (h1 : v < 18446744073709551616) : xorV .u64 v 18446744073709551615 = 18446744073709551615 - v := by
  obtain ⟨n, rfl⟩ := Int.eq_ofNat_of_zero_le h0
  show IntKind.u64.wrap (((BitVec.ofInt 64 (n : Int) ^^^ BitVec.ofInt 64 18446744073709551615).toNat : Nat) : Int) = _
  have : BitVec.ofInt 64 18446744073709551615 = BitVec.allOnes 64 := by decide
  rw [this, BitVec.xor_allOnes, BitVec.toNat_not, BitVec.ofInt_natCast, BitVec.toNat_ofNat, Nat.mod_eq_of_lt (by omega), u64_wrap]
  omega
theorem zz_put {n : Int} (h : I64 n) : xorV .u64 (shlV .u64 (IntKind.u64.wrap n) 1) (IntKind.u64.wrap (shrV .i64 n 63)) = zz n := by
  obtain ⟨h0, h1⟩ := h
  have e1 : shrV .i64 n 63 = n / 9223372036854775808 := by
    show n.fdiv (2 ^ (min 63 64)) = _
    rw [Int.fdiv_eq_ediv_of_nonneg _ (by decide)]; rfl
  have e2 : shlV .u64 (IntKind.u64.wrap n) 1 = (n % 18446744073709551616 * 2) % 18446744073709551616 := by
    show IntKind.u64.wrap (IntKind.u64.wrap n * 2 ^ (min 1 64)) = _
    rw [u64_wrap, u64_wrap]; rfl
  rw [e1, e2, u64_wrap]
  unfold zz
  by_cases hn : n < 0
  · rw [if_pos hn, show n / 9223372036854775808 % 18446744073709551616 = 18446744073709551615 by omega, xorU1 (by omega) (by omega)]; omega
  · rw [if_neg hn, show n / 9223372036854775808 % 18446744073709551616 = 0 by omega, xorU0 (by omega) (by omega)]; omega
theorem zz_ref {n : Int} (h : I64 n) : f126 n = some (zz n) := by
  obtain ⟨h0, h1⟩ := h
  unfold f126 zz
  by_cases hn : n < 0
  · rw [if_pos hn, if_pos hn, i64_id (show -9223372036854775808 ≤ n + 1 by omega) (by omega), i64_id (by omega) (by omega)]
    simp only [u64_wrap]; congr 1; omega
  · rw [if_neg hn, if_neg hn]
    simp only [u64_wrap]; congr 1; omega
noncomputable def Z (n : Int) : List Int := N (zz n)
theorem sgn {n : Int} (h : I64 n) : (Z n).length ≤ 9 ∧ Byt (Z n) ∧ (∃ u, f126 n = some u ∧ f91 u = some (Z n)) ∧ (∀ b, b.length ≤ 1000000 → f125 b n = some (b ++ Z n)) ∧
    ∀ B a, B.length ≤ 1000000 → At B a (Z n) → f116 B a = some (n, (a : Int) + (Z n).length, 0) := by
  obtain ⟨z0, z1⟩ := zz_rng h
  obtain ⟨h1, h2, h3, h4, h5, h6⟩ := num z0 z1
  refine ⟨h2, h3, ⟨_, zz_ref h, h4⟩, fun b hl => ?_, fun B a hl hA => ?_⟩
  · rw [f125, zz_put h, h5 b hl]; rfl
  · rw [f116, h6 B a hl hA]
    simp only [Option.bind_some, if_true]
    obtain ⟨g0, g1⟩ := h
    rw [Int.tmod_eq_emod_of_nonneg z0, Int.tdiv_eq_ediv_of_nonneg z0]
    unfold Z
    by_cases hn : n < 0
    · have e : zz n = 2 * (-(n + 1)) + 1 := if_pos hn
      have e2 : zz n / 2 = -(n + 1) := by omega
      rw [if_pos (by omega), e2, u64_wrap, show (-(n + 1)) % 18446744073709551616 = -(n + 1) by omega, i64_id (show -9223372036854775808 ≤ -(n + 1) by omega) (by omega), i64_id (show -9223372036854775808 ≤ 0 - -(n + 1) by omega) (by omega), i64_id (by omega) (by omega), show 0 - -(n + 1) - 1 = n by omega]
    · have e : zz n = 2 * n := if_neg hn
      have e2 : zz n / 2 = n := by omega
      rw [if_neg (by omega), e2, u64_wrap, show n % 18446744073709551616 = n by omega, i64_id (by omega) (by omega)]
noncomputable def Zs : List Int → List Int
  | [] => []
  | n :: l => Z n ++ Zs l
theorem Zs_append : ∀ (l m : List Int), Zs (l ++ m) = Zs l ++ Zs m
  | [], m => rfl
  | n :: l, m => by simp only [List.cons_append, Zs, Zs_append l m, List.append_assoc]
theorem Zs_len : ∀ {l : List Int}, (∀ n ∈ l, I64 n) → (Zs l).length ≤ 9 * l.length
  | [], _ => by simp [Zs]
  | n :: l, h => by
    have := (sgn (h n (by simp))).1
    have := Zs_len (l := l) fun x hx => h x (by simp [hx])
    simp only [Zs, List.length_append, List.length_cons]; omega
theorem byt_append {a b : List Int} (ha : Byt a) (hb : Byt b) : Byt (a ++ b) := fun x hx => (List.mem_append.1 hx).elim (ha x) (hb x)
theorem Zs_byt : ∀ {l : List Int}, (∀ n ∈ l, I64 n) → Byt (Zs l)
  | [], _ => fun x hx => by cases hx
  | n :: l, h => byt_append (sgn (h n (by simp))).2.1 (Zs_byt fun x hx => h x (by simp [hx]))
theorem take_succ_ix {l : List Int} {i : Nat} (h : i < l.length) : l.take (i + 1) = l.take i ++ [l[i]] := (List.take_append_getElem h).symm
theorem puts_ok {b l : List Int} (hl : ∀ n ∈ l, I64 n) (h1 : b.length + 9 * l.length ≤ 1000000) : f88 b l = some (b ++ Zs l) := by
  have key : ∃ r, loopO (f88_s1 l) (b, 0) = some r ∧ r = b ++ Zs l := by
    refine loopO_of (fun n s => ∃ i : Nat, s = (b ++ Zs (l.take i), (i : Int)) ∧ i ≤ l.length ∧ n = l.length - i) ?_ (k := l.length) ⟨0, by simp [Zs], by omega, by omega⟩
    rintro n _ ⟨i, rfl, hi, hn⟩
    by_cases hlt : i < l.length
    · have hx : ix l (i : Int) = some l[i] := ix_some.2 ⟨by omega, by simp [List.getElem?_eq_getElem hlt]⟩
      have hz := Zs_len (l := l.take i) fun x hx => hl x (List.mem_of_mem_take hx)
      rw [List.length_take] at hz
      have hp := (sgn (hl _ (List.getElem_mem hlt))).2.2.2.1 (b ++ Zs (l.take i)) (by simp; omega)
      refine .inl ⟨(b ++ Zs (l.take (i + 1)), ((i + 1 : Nat) : Int)), n - 1, ?_, by omega, i + 1, rfl, by omega, by omega⟩
      simp only [f88_s1, if_pos (show (i : Int) < l.length by omega), hx, Option.bind_some, hp, i64_id (show -9223372036854775808 ≤ (i : Int) + 1 by omega) (by omega), take_succ_ix hlt, Zs_append, Zs, List.append_nil, List.append_assoc]
      rfl
    · have : i = l.length := by omega
      subst this
      exact .inr ⟨_, by simp only [f88_s1, if_neg (show ¬ ((l.length : Nat) : Int) < l.length by omega), List.take_length], rfl⟩
  obtain ⟨r, h, rfl⟩ := key
  rw [f88, h]; rfl
theorem refs_ok {l : List Int} (hl : ∀ n ∈ l, I64 n) (h1 : l.length ≤ 100000) : f90 l = some (Zs l) := by
  have key : ∃ r, loopO (f90_s1 l) ([], 0) = some r ∧ r = Zs l := by
    refine loopO_of (fun n s => ∃ i : Nat, s = (Zs (l.take i), (i : Int)) ∧ i ≤ l.length ∧ n = l.length - i) ?_ (k := l.length) ⟨0, by simp [Zs], by omega, by omega⟩
    rintro n _ ⟨i, rfl, hi, hn⟩
    by_cases hlt : i < l.length
    · have hx : ix l (i : Int) = some l[i] := ix_some.2 ⟨by omega, by simp [List.getElem?_eq_getElem hlt]⟩
      have hz := Zs_len (l := l.take i) fun x hx => hl x (List.mem_of_mem_take hx)
      rw [List.length_take] at hz
      obtain ⟨s1, s2, ⟨u, s3, s4⟩, s5, s6⟩ := sgn (hl _ (List.getElem_mem hlt))
      refine .inl ⟨(Zs (l.take (i + 1)), ((i + 1 : Nat) : Int)), n - 1, ?_, by omega, i + 1, rfl, by omega, by omega⟩
      simp only [f90_s1, if_pos (show (i : Int) < l.length by omega), hx, Option.bind_some, s3, s4, appO_two' (show (Zs (l.take i)).length ≤ 2000000 by omega) (show (Z l[i]).length ≤ 2000000 by omega), i64_id (show -9223372036854775808 ≤ (i : Int) + 1 by omega) (by omega), take_succ_ix hlt, Zs_append, Zs, List.append_nil]
      rfl
    · have : i = l.length := by omega
      subst this
      exact .inr ⟨_, by simp only [f90_s1, if_neg (show ¬ ((l.length : Nat) : Int) < l.length by omega), List.take_length], rfl⟩
  obtain ⟨r, h, rfl⟩ := key
  rw [f90, h]; rfl
theorem many_read {l : List Int} (hl : ∀ n ∈ l, I64 n) (h1 : l.length ≤ 100000) {B : List Int} {a : Nat} (hB : B.length ≤ 1000000) (hA : At B a (Zs l)) : f76 B a (l.length : Int) = some (l, (a : Int) + (Zs l).length, 0) := by
  have key : ∃ r, loopO (f76_s1 B l.length) (a, [], 0) = some r ∧ r = .inr ((a : Int) + (Zs l).length, l) := by
    refine loopO_of (fun n s => ∃ i : Nat, s = ((a : Int) + (Zs (l.take i)).length, l.take i, (i : Int)) ∧ i ≤ l.length ∧ n = l.length - i) ?_ (k := l.length) ⟨0, by simp [Zs], by omega, by omega⟩
    rintro n _ ⟨i, rfl, hi, hn⟩
    by_cases hlt : i < l.length
    · obtain ⟨s1, s2, s3, s5, s6⟩ := sgn (hl _ (List.getElem_mem hlt))
      have hd : l = l.take i ++ ([l[i]] ++ l.drop (i + 1)) := by
        rw [← List.append_assoc, ← take_succ_ix hlt, List.take_append_drop]
      have hA' : At B (a + (Zs (l.take i)).length) (Z l[i]) := by
        have h := hA
        rw [hd, Zs_append, Zs_append] at h
        have h2 := h.right.left
        simpa [Zs] using h2
      have hr := s6 B _ hB hA'
      refine .inl ⟨((a : Int) + (Zs (l.take (i + 1))).length, l.take (i + 1), ((i + 1 : Nat) : Int)), n - 1, ?_, by omega, i + 1, rfl, by omega, by omega⟩
      rw [Int.natCast_add] at hr
      simp only [f76_s1, if_pos (show (i : Int) < l.length by omega), hr, Option.bind_some, if_true, appO_one' (show (l.take i).length ≤ 2000000 by rw [List.length_take]; omega), i64_id (show -9223372036854775808 ≤ (i : Int) + 1 by omega) (by omega), take_succ_ix hlt, Zs_append, Zs, List.append_nil, List.length_append, Int.natCast_add, Int.add_assoc]
      rfl
    · have : i = l.length := by omega
      subst this
      exact .inr ⟨_, by simp only [f76_s1, if_neg (show ¬ ((l.length : Nat) : Int) < l.length by omega), List.take_length], rfl⟩
  obtain ⟨r, h, rfl⟩ := key
  rw [f76, h]; rfl
/-- a text's bytes -/
noncomputable def Tx (t : List Int) : List Int := N (t.length : Int) ++ t
theorem text_put {t b : List Int} (ht : Byt t) (h1 : t.length ≤ 100000) (hb : b.length ≤ 1000000) : f86 b (strOfNums t) = some (b ++ Tx t) := by
  obtain ⟨g1, g2, g3, g4, g5, g6⟩ := num (v := (t.length : Int)) (by omega) (by omega)
  rw [f86, strOfNums_size, u64_wrap, show (t.length : Int) % 18446744073709551616 = t.length by omega, g5 b hb, strI ht]
  simp only [Option.bind_some]
  rw [appO_two' (by simp; omega) (by omega), Tx, List.append_assoc]; rfl
theorem text_ref {t : List Int} (ht : Byt t) (h1 : t.length ≤ 100000) : f89 (strOfNums t) = some (Tx t) := by
  obtain ⟨g1, g2, g3, g4, g5, g6⟩ := num (v := (t.length : Int)) (by omega) (by omega)
  rw [f89, strOfNums_size, u64_wrap, show (t.length : Int) % 18446744073709551616 = t.length by omega, g4, strI ht]
  simp only [Option.bind_some]
  rw [appO_two' (by omega) (by omega), Tx]; rfl
theorem text_read {t : List Int} (h1 : t.length ≤ 100000) {B : List Int} {a : Nat} (hB : B.length ≤ 1000000) (hA : At B a (Tx t)) : f75 B a 1048576 = some (strOfNums t, (a : Int) + (Tx t).length, 0) := by
  obtain ⟨g1, g2, g3, g4, g5, g6⟩ := num (v := (t.length : Int)) (by omega) (by omega)
  have hlen := hA.len
  have e : (Tx t).length = (N (t.length : Int)).length + t.length := by simp [Tx]
  rw [f75, g6 B a hB hA.left]
  simp only [Option.bind_some, if_true, if_neg (show ¬ (1048576 : Int) < 0 by decide)]
  have w1 : IntKind.u64.wrap 1048576 = 1048576 := by decide
  have w2 : IntKind.u64.wrap (IntKind.i64.wrap ((B.length : Int) - ((a : Int) + (N (t.length : Int)).length))) = (B.length : Int) - ((a : Int) + (N (t.length : Int)).length) := by
    rw [i64_id (by omega) (by omega), u64_wrap]; omega
  have w3 : IntKind.i64.wrap (t.length : Int) = t.length := i64_id (by omega) (by omega)
  have w4 : IntKind.i64.wrap ((a : Int) + (N (t.length : Int)).length + t.length) = (a : Int) + (N (t.length : Int)).length + t.length := i64_id (by omega) (by omega)
  rw [w1, w2, w3, w4, if_neg (by omega), if_neg (by omega), hA.right.cut (by omega) (by omega), e]
  simp only [Option.bind_some, Int.natCast_add, Int.add_assoc]
theorem Tx_byt {t : List Int} (ht : Byt t) (h1 : t.length ≤ 100000) : Byt (Tx t) := byt_append (num (v := (t.length : Int)) (by omega) (by omega)).2.2.1 ht
theorem Tx_len {t : List Int} (h1 : t.length ≤ 100000) : (Tx t).length ≤ 9 + t.length := by
  have := (num (v := (t.length : Int)) (by omega) (by omega)).2.1
  simp only [Tx, List.length_append]; omega
end Au
end Go.Proofs.Y1
