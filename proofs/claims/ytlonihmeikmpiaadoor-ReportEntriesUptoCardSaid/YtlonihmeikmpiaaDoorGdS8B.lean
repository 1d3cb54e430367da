import Derived.Test.YtlonihmeikmpiaaDoorGdS8A
set_option linter.all false
set_option linter.unusedVariables false
set_option linter.unusedSimpArgs false
set_option linter.all false
set_option maxRecDepth 8000
namespace Go.Proofs.Yd
open Go.Gm Go.Lib
namespace Au
def D16 : ByteArray := ⟨#[48, 49, 50, 51, 52, 53, 54, 55, 56, 57, 97, 98, 99, 100, 101, 102]⟩
def hx (d : Nat) : UInt8 := (bl D16).getD d 0
theorem hexAll : ((List.range 256).all fun v => decide (ix (bl D16) (shrV .u8 (v : Int) 4) = some (hx (v / 16))) && decide (ix (bl D16) (andV .u8 (v : Int) 15) = some (hx (v % 16))) &&
    decide (cutSO? D16 (IntKind.i64.wrap ((IntKind.i64.wrap (v : Int)).tdiv 16)) (IntKind.i64.wrap ((IntKind.i64.wrap ((IntKind.i64.wrap (v : Int)).tdiv 16)) + 1)) = some (lb [hx (v / 16)])) &&
    decide (cutSO? D16 ((IntKind.i64.wrap (v : Int)).tmod 16) (IntKind.i64.wrap (((IntKind.i64.wrap (v : Int)).tmod 16) + 1)) = some (lb [hx (v % 16)]))) = true := by kernel_rfl
theorem hexAt {v : Nat} (h : v < 256) : ix (bl D16) (shrV .u8 (v : Int) 4) = some (hx (v / 16)) ∧ ix (bl D16) (andV .u8 (v : Int) 15) = some (hx (v % 16)) ∧
    cutSO? D16 (IntKind.i64.wrap ((IntKind.i64.wrap (v : Int)).tdiv 16)) (IntKind.i64.wrap ((IntKind.i64.wrap ((IntKind.i64.wrap (v : Int)).tdiv 16)) + 1)) = some (lb [hx (v / 16)]) ∧
    cutSO? D16 ((IntKind.i64.wrap (v : Int)).tmod 16) (IntKind.i64.wrap (((IntKind.i64.wrap (v : Int)).tmod 16) + 1)) = some (lb [hx (v % 16)]) := by
  have := List.all_eq_true.1 hexAll v (List.mem_range.2 h)
  simp only [Bool.and_eq_true, decide_eq_true_eq] at this
  exact ⟨this.1.1.1, this.1.1.2, this.1.2, this.2⟩
def Ok32 (x : A32 Int) : Prop := ∀ k, k < 32 → 0 ≤ x.get k ∧ x.get k ≤ 255
def hexB (x : A32 Int) (k : Nat) : List UInt8 := (List.range k).flatMap fun i => [hx ((x.get i).toNat / 16), hx ((x.get i).toNat % 16)]
theorem hexB_succ (x : A32 Int) (k : Nat) : hexB x (k + 1) = hexB x k ++ [hx ((x.get k).toNat / 16), hx ((x.get k).toNat % 16)] := by simp [hexB, List.range_succ]
theorem hexB_len (x : A32 Int) : ∀ k, (hexB x k).length = 2 * k
  | 0 => rfl
  | k + 1 => by rw [hexB_succ, List.length_append, hexB_len x k]; simp; omega
def nums (l : List UInt8) : List Int := l.map fun b => (b.toNat : Int)
theorem strOfNums_nums (l : List UInt8) : strOfNums (nums l) = lb l := by
  apply bl_inj
  have e : ((fun n => UInt8.ofNat n.toNat) ∘ fun (b : UInt8) => (b.toNat : Int)) = id := funext fun b => by simp
  simp [strOfNums, nums, bl, lb, e]
theorem hex1 {x : A32 Int} (h : Ok32 x) : f21 x = some (lb (hexB x 32)) := by
  have key : ∃ r, loopO (f21_s1 x) ([], 0) = some r ∧ r = nums (hexB x 32) := by
    refine loopO_of (fun n s => ∃ i : Nat, s = (nums (hexB x i), (i : Int)) ∧ i ≤ 32 ∧ n = 32 - i) ?_ (k := 32) ⟨0, rfl, by omega, by omega⟩
    rintro n _ ⟨i, rfl, hi, hn⟩
    by_cases hlt : i < 32
    · obtain ⟨v0, v1⟩ := h i hlt
      obtain ⟨v, hv⟩ := Int.eq_ofNat_of_zero_le v0
      obtain ⟨h1, h2, _, _⟩ := hexAt (v := v) (by omega)
      have hl := hexB_len x i
      refine .inl ⟨(nums (hexB x (i + 1)), ((i + 1 : Nat) : Int)), n - 1, ?_, by omega, i + 1, rfl, by omega, by omega⟩
      have hw := wrapN (show i ≤ 10000000000 by omega)
      have ht : ((i : Nat) : Int).toNat = i := by simp
      show f21_s1 x (nums (hexB x i), (i : Int)) = _
      simp only [f21_s1, if_pos (show (i : Int) < 32 by omega), guard_ok (show 0 ≤ (i : Int) ∧ (i : Int) < 32 by omega), Option.bind_some, ht, hv]
      rw [show (⟨#[48, 49, 50, 51, 52, 53, 54, 55, 56, 57, 97, 98, 99, 100, 101, 102]⟩ : ByteArray) = D16 from rfl, h1, h2]
      simp only [Option.bind_some]
      rw [appO_ok' (by simp [nums]; omega) (by simp), Option.bind_some, hw, hexB_succ, hv]
      simp [nums]
    · have : i = 32 := by omega
      subst this
      exact .inr ⟨_, by simp [f21_s1], rfl⟩
  obtain ⟨r, hr, rfl⟩ := key
  unfold f21
  rw [hr, Option.bind_some, strOfNums_nums]
theorem hex2 {x : A32 Int} (h : Ok32 x) : f24 x = some (lb (hexB x 32)) := by
  have key : ∃ r, loopO (f24_s1 x) (⟨#[]⟩, 0) = some r ∧ r = lb (hexB x 32) := by
    refine loopO_of (fun n s => ∃ i : Nat, s = (lb (hexB x i), (i : Int)) ∧ i ≤ 32 ∧ n = 32 - i) ?_ (k := 32) ⟨0, rfl, by omega, by omega⟩
    rintro n _ ⟨i, rfl, hi, hn⟩
    by_cases hlt : i < 32
    · obtain ⟨v0, v1⟩ := h i hlt
      obtain ⟨v, hv⟩ := Int.eq_ofNat_of_zero_le v0
      obtain ⟨_, _, h1, h2⟩ := hexAt (v := v) (by omega)
      have hl := hexB_len x i
      refine .inl ⟨(lb (hexB x (i + 1)), ((i + 1 : Nat) : Int)), n - 1, ?_, by omega, i + 1, rfl, by omega, by omega⟩
      have hw := wrapN (show i ≤ 10000000000 by omega)
      have ht : ((i : Nat) : Int).toNat = i := by simp
      show f24_s1 x (lb (hexB x i), (i : Int)) = _
      simp only [f24_s1, if_pos (show (i : Int) < 32 by omega), guard_ok (show 0 ≤ (i : Int) ∧ (i : Int) < 32 by omega), Option.bind_some, ht, hv]
      rw [show (⟨#[48, 49, 50, 51, 52, 53, 54, 55, 56, 57, 97, 98, 99, 100, 101, 102]⟩ : ByteArray) = D16 from rfl, h1, h2]
      simp only [Option.bind_some]
      rw [cat_ok (by rw [lb_size]; omega) (by rw [lb_size]; simp), Option.bind_some, lb_app, cat_ok (by rw [lb_size]; simp; omega) (by rw [lb_size]; simp), Option.bind_some, lb_app, hw, hexB_succ, hv]
      simp
    · have : i = 32 := by omega
      subst this
      exact .inr ⟨_, by simp [f24_s1], rfl⟩
  obtain ⟨r, hr, rfl⟩ := key
  unfold f24
  rw [hr, Option.bind_some]
/-! ### joining -/
theorem bl_join (l : List ByteArray) (sep : ByteArray) : bl (joinS l sep) = join (l.map bl) (bl sep) := by
  show bl (lb _) = _
  rw [bl_lb]; rfl
theorem join_snoc {l : List (List UInt8)} (hl : l ≠ []) (y sep : List UInt8) : join (l ++ [y]) sep = join l sep ++ sep ++ y := by
  cases l with
  | nil => exact absurd rfl hl
  | cons x r =>
    rw [List.cons_append, join_cons, join_cons, joinTail, joinTail, List.map_append, List.flatten_append]
    simp
theorem joinS_snoc {l : List ByteArray} (hl : l ≠ []) (y sep : ByteArray) : joinS (l ++ [y]) sep = joinS l sep ++ sep ++ y := by
  apply bl_inj
  rw [bl_app, bl_app, bl_join, bl_join, List.map_append, List.map_cons, List.map_nil, join_snoc (by simpa using hl)]
theorem joinS_one (x sep : ByteArray) : joinS [x] sep = x := by
  apply bl_inj; rw [bl_join, List.map_cons, List.map_nil, join_one]
theorem joinS_nil (sep : ByteArray) : joinS [] sep = ⟨#[]⟩ := rfl
theorem tail_len {c : Nat} {sep : List UInt8} (hs : sep.length = 1) : ∀ {r : List (List UInt8)}, (∀ x ∈ r, x.length ≤ c) → (joinTail sep r).length ≤ r.length * (c + 1)
  | [], _ => by simp [joinTail]
  | x :: r, h => by
    have ih := tail_len hs (r := r) (fun y hy => h y (by simp [hy]))
    have hx := h x (by simp)
    simp only [joinTail, List.map_cons, List.flatten_cons, List.length_append, hs, List.length_cons] at ih ⊢
    rw [Nat.succ_mul]; omega
theorem joinS_size {c : Nat} {l : List ByteArray} {sep : ByteArray} (hs : sep.size = 1) (h : ∀ x ∈ l, x.size ≤ c) : (joinS l sep).size ≤ l.length * (c + 1) := by
  rw [size_bl, bl_join]
  cases l with
  | nil => simp [join_nil]
  | cons x r =>
    have ht := tail_len (c := c) (sep := bl sep) (by rw [← size_bl]; exact hs) (r := r.map bl) (fun y hy => by
      obtain ⟨z, hz, rfl⟩ := List.mem_map.1 hy
      rw [← size_bl]; exact h z (by simp [hz]))
    have hx := h x (by simp)
    rw [size_bl] at hx
    rw [List.map_cons, join_cons, List.length_append, List.length_cons, Nat.succ_mul]
    rw [List.length_map] at ht
    omega
theorem words_eq {l : List ByteArray} {sep : ByteArray} {c : Nat} (hs : sep.size = 1) (hl : l.length ≤ 1000000) (hc : c ≤ 1000000) (h : ∀ x ∈ l, x.size ≤ c) : f26 l sep = some (joinS l sep) := by
  have := joinS_size hs h
  have h2 : l.length * (c + 1) ≤ 1000000 * 1000001 := Nat.mul_le_mul hl (by omega)
  unfold f26
  rw [if_pos ⟨by omega, by omega⟩]
/-! ### entries -/
def sp : ByteArray := ⟨#[32]⟩
structure OkE (x : Entry) : Prop where
  a : -9223372036854775808 ≤ x.A ∧ x.A ≤ 9223372036854775807
  b : -9223372036854775808 ≤ x.B ∧ x.B ≤ 9223372036854775807
  c : -9223372036854775808 ≤ x.C ∧ x.C ≤ 9223372036854775807
  sums : ∀ s ∈ x.Sums, Ok32 s
def sum8 (s : A32 Int) : ByteArray := (lb (hexB s 32)).extract 0 8
theorem sum8_eq (s : A32 Int) : cutSO? (lb (hexB s 32)) 0 8 = some (sum8 s) := by
  refine cutSO?_some.2 ⟨⟨by omega, by omega, ?_⟩, rfl⟩
  rw [lb_size, hexB_len]; decide
theorem sum8_size (s : A32 Int) : (sum8 s).size ≤ 8 := by
  unfold sum8; rw [ByteArray.size_extract]; omega
def wordsOf (x : Entry) (name : ByteArray) (k : Nat) : List ByteArray := [name, itoaS x.A, itoaS x.B, itoaS x.C] ++ (x.Sums.take k).map sum8
theorem wordsOf_succ {x : Entry} {name : ByteArray} {k : Nat} (h : k < x.Sums.length) : wordsOf x name (k + 1) = wordsOf x name k ++ [sum8 x.Sums[k]] := by
  unfold wordsOf
  rw [List.take_add_one, List.getElem?_eq_getElem h, List.map_append, ← List.append_assoc]; rfl
theorem wordsOf_len {x : Entry} {name : ByteArray} {k : Nat} : (wordsOf x name k).length ≤ 4 + k := by
  simp [wordsOf]; omega
theorem wordsOf_size {x : Entry} (hx : OkE x) {name : ByteArray} (hn : name.size ≤ 21) {k : Nat} : ∀ w ∈ wordsOf x name k, w.size ≤ 21 := by
  intro w hw
  simp only [wordsOf, List.mem_append, List.mem_cons, List.not_mem_nil, or_false, List.mem_map] at hw
  rcases hw with (rfl | rfl | rfl | rfl) | ⟨s, _, rfl⟩
  · exact hn
  · exact (itoa_size hx.a.1 hx.a.2).1
  · exact (itoa_size hx.b.1 hx.b.2).1
  · exact (itoa_size hx.c.1 hx.c.2).1
  · have := sum8_size s; omega
theorem entry1 {x : Entry} (hx : OkE x) (hl : x.Sums.length ≤ 10) {name : ByteArray} (hn : name.size ≤ 21) : f6_j1 x name = some (joinS (wordsOf x name x.Sums.length) sp) := by
  have key : ∃ r, loopO (f6_s1 x) (wordsOf x name 0, 0) = some r ∧ r = wordsOf x name x.Sums.length := by
    refine loopO_of (fun n s => ∃ i : Nat, s = (wordsOf x name i, (i : Int)) ∧ i ≤ x.Sums.length ∧ n = x.Sums.length - i) ?_ (k := x.Sums.length) ⟨0, rfl, by omega, by omega⟩
    rintro n _ ⟨i, rfl, hi, hn'⟩
    by_cases hlt : i < x.Sums.length
    · have hg := ixN hlt
      have hs := hex1 (hx.sums _ (List.getElem_mem hlt))
      have hwl := wordsOf_len (x := x) (name := name) (k := i)
      refine .inl ⟨(wordsOf x name (i + 1), ((i + 1 : Nat) : Int)), n - 1, ?_, by omega, i + 1, rfl, by omega, by omega⟩
      show f6_s1 x (wordsOf x name i, (i : Int)) = _
      simp only [f6_s1, if_pos (show (i : Int) < (x.Sums.length : Int) by omega), hg, Option.bind_some, hs, sum8_eq, wrapN (show i ≤ 10000000000 by omega)]
      rw [appO_ok' (by omega) (by simp), wordsOf_succ hlt]; rfl
    · have : i = x.Sums.length := by omega
      subst this
      exact .inr ⟨_, by simp [f6_s1], rfl⟩
  obtain ⟨r, hr, rfl⟩ := key
  have e0 : ([name, itoaS x.A, itoaS x.B, itoaS x.C] : List ByteArray) = wordsOf x name 0 := by simp [wordsOf]
  have hwl := wordsOf_len (x := x) (name := name) (k := x.Sums.length)
  simp only [f6_j1, (num_eq hx.a.1 hx.a.2).1, (num_eq hx.b.1 hx.b.2).1, (num_eq hx.c.1 hx.c.2).1, Option.bind_some, e0, hr, f22]
  rw [words_eq (c := 21) rfl (by omega) (by omega) (wordsOf_size hx hn)]; rfl
theorem entry2 {x : Entry} (hx : OkE x) (hl : x.Sums.length ≤ 10) {name : ByteArray} (hn : name.size ≤ 21) : f7_j1 x name = some (joinS (wordsOf x name x.Sums.length) sp) := by
  have hsz : ∀ k, k ≤ x.Sums.length → (joinS (wordsOf x name k) sp).size ≤ 1000 := fun k hk => by
    have h1 := joinS_size (c := 21) (sep := sp) rfl (wordsOf_size hx hn (k := k))
    have h2 := wordsOf_len (x := x) (name := name) (k := k)
    have : (wordsOf x name k).length * (21 + 1) ≤ 14 * 22 := Nat.mul_le_mul (by omega) (by omega)
    omega
  have key : ∃ r, loopO (f7_s1 x) (joinS (wordsOf x name 0) sp, 0) = some r ∧ r = joinS (wordsOf x name x.Sums.length) sp := by
    refine loopO_of (fun n s => ∃ i : Nat, s = (joinS (wordsOf x name i) sp, (i : Int)) ∧ i ≤ x.Sums.length ∧ n = x.Sums.length - i) ?_ (k := x.Sums.length) ⟨0, rfl, by omega, by omega⟩
    rintro n _ ⟨i, rfl, hi, hn'⟩
    by_cases hlt : i < x.Sums.length
    · have hg := ixN hlt
      have hs := hex2 (hx.sums _ (List.getElem_mem hlt))
      have h1 := hsz i hi
      have h8 := sum8_size x.Sums[i]
      have hc1 : catO (joinS (wordsOf x name i) sp) ⟨#[32]⟩ = some (joinS (wordsOf x name i) sp ++ sp) := cat_ok (by omega) (by decide)
      have hc2 : catO (joinS (wordsOf x name i) sp ++ sp) (sum8 x.Sums[i]) = some (joinS (wordsOf x name i) sp ++ sp ++ sum8 x.Sums[i]) := cat_ok (by rw [ByteArray.size_append]; have : sp.size = 1 := rfl; omega) (by omega)
      refine .inl ⟨(joinS (wordsOf x name (i + 1)) sp, ((i + 1 : Nat) : Int)), n - 1, ?_, by omega, i + 1, rfl, by omega, by omega⟩
      show f7_s1 x (joinS (wordsOf x name i) sp, (i : Int)) = _
      simp only [f7_s1, if_pos (show (i : Int) < (x.Sums.length : Int) by omega), hg, Option.bind_some, hs, sum8_eq, wrapN (show i ≤ 10000000000 by omega), hc1, hc2]
      rw [wordsOf_succ hlt, joinS_snoc (by simp [wordsOf])]
    · have : i = x.Sums.length := by omega
      subst this
      exact .inr ⟨_, by simp [f7_s1], rfl⟩
  obtain ⟨r, hr, rfl⟩ := key
  have za := (itoa_size hx.a.1 hx.a.2).1; have zb := (itoa_size hx.b.1 hx.b.2).1; have zc := (itoa_size hx.c.1 hx.c.2).1
  have s1 : sp.size = 1 := rfl
  have e0 : name ++ sp ++ itoaS x.A ++ sp ++ itoaS x.B ++ sp ++ itoaS x.C = joinS (wordsOf x name 0) sp := by
    have : wordsOf x name 0 = [name] ++ [itoaS x.A] ++ [itoaS x.B] ++ [itoaS x.C] := by simp [wordsOf]
    rw [this, joinS_snoc (by simp), joinS_snoc (by simp), joinS_snoc (by simp), joinS_one]
  have c1 : catO name ⟨#[32]⟩ = some (name ++ sp) := cat_ok (by omega) (by decide)
  have c2 : catO (name ++ sp) (itoaS x.A) = some (name ++ sp ++ itoaS x.A) := cat_ok (by simp only [ByteArray.size_append]; omega) (by omega)
  have c3 : catO (name ++ sp ++ itoaS x.A) ⟨#[32]⟩ = some (name ++ sp ++ itoaS x.A ++ sp) := cat_ok (by simp only [ByteArray.size_append]; omega) (by decide)
  have c4 : catO (name ++ sp ++ itoaS x.A ++ sp) (itoaS x.B) = some (name ++ sp ++ itoaS x.A ++ sp ++ itoaS x.B) := cat_ok (by simp only [ByteArray.size_append]; omega) (by omega)
  have c5 : catO (name ++ sp ++ itoaS x.A ++ sp ++ itoaS x.B) ⟨#[32]⟩ = some (name ++ sp ++ itoaS x.A ++ sp ++ itoaS x.B ++ sp) := cat_ok (by simp only [ByteArray.size_append]; omega) (by decide)
  have c6 : catO (name ++ sp ++ itoaS x.A ++ sp ++ itoaS x.B ++ sp) (itoaS x.C) = some (name ++ sp ++ itoaS x.A ++ sp ++ itoaS x.B ++ sp ++ itoaS x.C) := cat_ok (by simp only [ByteArray.size_append]; omega) (by omega)
  simp only [f7_j1, (num_eq hx.a.1 hx.a.2).2, (num_eq hx.b.1 hx.b.2).2, (num_eq hx.c.1 hx.c.2).2, Option.bind_some, c1, c2, c3, c4, c5, c6, e0, hr]
def nameOf (k : Int) : ByteArray := if 0 ≤ k ∧ k < 6 then ([⟨#[98, 101, 103, 105, 110]⟩, ⟨#[97, 115, 115, 105, 103, 110]⟩, ⟨#[109, 97, 112, 112, 101, 100]⟩, ⟨#[99, 111, 109, 109, 105, 116]⟩, ⟨#[100, 111, 110, 101]⟩, ⟨#[102, 97, 105, 108, 101, 100]⟩] : List ByteArray).getD k.toNat ⟨#[63]⟩ else ⟨#[63]⟩
def textE (x : Entry) : ByteArray := joinS (wordsOf x (nameOf x.Kind) x.Sums.length) sp
theorem name6 {n : Nat} (h : n < 6) : ∀ {l : List ByteArray}, l = [⟨#[98, 101, 103, 105, 110]⟩, ⟨#[97, 115, 115, 105, 103, 110]⟩, ⟨#[109, 97, 112, 112, 101, 100]⟩, ⟨#[99, 111, 109, 109, 105, 116]⟩, ⟨#[100, 111, 110, 101]⟩, ⟨#[102, 97, 105, 108, 101, 100]⟩] → ix l (n : Int) = some (nameOf n) ∧ (nameOf n).size ≤ 21 := by
  intro l hl
  subst hl
  match n, h with
  | 0, _ => exact ⟨by kernel_rfl, by decide⟩
  | 1, _ => exact ⟨by kernel_rfl, by decide⟩
  | 2, _ => exact ⟨by kernel_rfl, by decide⟩
  | 3, _ => exact ⟨by kernel_rfl, by decide⟩
  | 4, _ => exact ⟨by kernel_rfl, by decide⟩
  | 5, _ => exact ⟨by kernel_rfl, by decide⟩
theorem entry_eq {x : Entry} (hx : OkE x) (hl : x.Sums.length ≤ 10) : f6 x = some (textE x) ∧ f7 x = some (textE x) := by
  have h0 : ¬ (0 ≤ x.Kind ∧ x.Kind < 6) → nameOf x.Kind = ⟨#[63]⟩ := fun h => by simp only [nameOf, if_neg h]
  unfold f6 f7 textE
  by_cases c1 : 0 ≤ x.Kind
  · by_cases c2 : x.Kind < 6
    · obtain ⟨n, hn⟩ := Int.eq_ofNat_of_zero_le c1
      obtain ⟨e1, e2⟩ := name6 (n := n) (by omega) rfl
      rw [← hn] at e1 e2
      simp only [c1, c2, if_true, e1, Option.bind_some, entry1 hx hl e2, entry2 hx hl e2, and_self]
    · have hz : (⟨#[63]⟩ : ByteArray).size ≤ 21 := by decide
      simp only [c1, c2, if_true, if_false, h0 (fun h => c2 h.2), entry1 hx hl hz, entry2 hx hl hz, and_self]
  · have hz : (⟨#[63]⟩ : ByteArray).size ≤ 21 := by decide
    simp only [c1, if_false, h0 (fun h => c1 h.1), entry1 hx hl hz, entry2 hx hl hz, and_self]
end Au
end Go.Proofs.Yd
