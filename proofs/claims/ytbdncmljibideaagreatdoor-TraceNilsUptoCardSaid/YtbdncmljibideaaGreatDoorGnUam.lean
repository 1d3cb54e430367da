import Derived.Test.YtbdncmljibideaaGreatDoorGnUaf
import Derived.Test.YtbdncmljibideaaGreatDoorGnUag
import Derived.Test.YtbdncmljibideaaGreatDoorGnUah
import Derived.Test.YtbdncmljibideaaGreatDoorGnUaj
import Derived.Test.YtbdncmljibideaaGreatDoorGnUai
import Derived.Test.YtbdncmljibideaaGreatDoorGnUak
import Derived.Test.YtbdncmljibideaaGreatDoorGnUal
import Derived.KernelRfl
import Derived.Test.YtbdncmljibideaaGreatDoorGnUad
import Derived.Test.YtbdncmljibideaaGreatDoorGnUae
import Derived.OpenShut
import Derived.Lib.LaidTab
import Derived.LaidSub
import Derived.LaidHandle
import Derived.Shelf.Vars
set_option linter.all false
set_option linter.unusedVariables false
set_option linter.unusedSimpArgs false
set_option linter.all false
set_option maxRecDepth 8000
namespace Go.Gm
def itO {σ ρ : Type} (step : σ → Option (σ ⊕ ρ)) (s : σ) : Option ρ := iterO step 5000 s
def Le {α : Type} (a b : Option α) : Prop := ∀ r, a = some r → b = some r
theorem Le.refl {α : Type} (a : Option α) : Le a a := fun _ h => h
theorem Le.bind {α β : Type} {a b : Option α} {f g : α → Option β} (h : Le a b) (k : ∀ x, Le (f x) (g x)) : Le (a.bind f) (b.bind g) := fun r hr => by
  obtain ⟨x, hx, hr⟩ := Option.bind_eq_some_iff.1 hr
  rw [h x hx]; exact k x r hr
theorem Le.ite {α : Type} {c : Prop} [Decidable c] {a a' b b' : Option α} (h : Le a a') (k : Le b b') : Le (if c then a else b) (if c then a' else b') := by
  split
  · exact h
  · exact k
theorem Le.iter {σ ρ : Type} {f g : σ → Option (σ ⊕ ρ)} (h : ∀ s, Le (f s) (g s)) : ∀ (n : Nat) (s : σ), Le (iterO f n s) (iterO g n s)
  | 0, s => Le.refl _
  | n + 1, s => fun r hr => by
    simp only [iterO] at hr ⊢
    cases hs : f s with
    | none => rw [hs] at hr; cases hr
    | some x =>
      rw [hs] at hr
      rw [h s x hs]
      cases x with
      | inl s' => exact Le.iter h n s' r hr
      | inr q => exact hr
theorem Le.loop {σ ρ : Type} {f g : σ → Option (σ ⊕ ρ)} (h : ∀ s, Le (f s) (g s)) (s : σ) : Le (itO f s) (loopO g s) := fun r hr => loopO_iff.2 ⟨_, Le.iter h _ _ r hr⟩
end Go.Gm
namespace Go.Proofs.Yt
open Go.Gm
namespace Au
noncomputable def g45 (a0 : List Res) (a1 : ByteArray) : Option (Res × Bool) := ((itO (f45_s1 a0 a1) 0).bind fun y19 => match y19 with | .inl y20 => some y20 | .inr _ => some (⟨⟨#[]⟩, ⟨#[]⟩, []⟩, false))
theorem mf45 (a0 : List Res) (a1 : ByteArray) : Le (g45 a0 a1) (f45 a0 a1) := by
  rw [g45, f45]
  with_reducible repeat' (first | exact Le.refl _ | exact Le.loop (fun _ => Le.refl _) _ | refine Le.bind ?_ (fun _ => ?_) | refine Le.ite ?_ ?_ | (rename_i y; rcases y with _ | _ <;> dsimp only))
noncomputable def g46 (a0 : List Res) (a1 : ByteArray) : Option (List Int) := ((g45 a0 a1).bind fun x1 => some x1.1.Offs)
theorem mf46 (a0 : List Res) (a1 : ByteArray) : Le (g46 a0 a1) (f46 a0 a1) := by
  rw [g46, f46]
  with_reducible repeat' (first | exact mf45 _ _ | exact Le.loop (mf45 _) _ | exact Le.refl _ | exact Le.loop (fun _ => Le.refl _) _ | refine Le.bind ?_ (fun _ => ?_) | refine Le.ite ?_ ?_)
noncomputable def g18 (a0 : Trace) (a1 : ByteArray) : Option ((List Int) × Trace) := ((g46 a0.l a1).bind fun x1 => some (x1, a0))
theorem mf18 (a0 : Trace) (a1 : ByteArray) : Le (g18 a0 a1) (f18 a0 a1) := by
  rw [g18, f18]
  with_reducible repeat' (first | exact mf46 _ _ | exact Le.loop (mf46 _) _ | exact Le.refl _ | exact Le.loop (fun _ => Le.refl _) _ | refine Le.bind ?_ (fun _ => ?_) | refine Le.ite ?_ ?_)
noncomputable def g107 (a0 : List Int) (a1 : Int) : Option Int := ((itO (f107_s1 a0 a1) 0).bind fun y16 => match y16 with | .inl y17 => some y17 | .inr _ => some (-1))
theorem mf107 (a0 : List Int) (a1 : Int) : Le (g107 a0 a1) (f107 a0 a1) := by
  rw [g107, f107]
  with_reducible repeat' (first | exact Le.refl _ | exact Le.loop (fun _ => Le.refl _) _ | refine Le.bind ?_ (fun _ => ?_) | refine Le.ite ?_ ?_ | (rename_i y; rcases y with _ | _ <;> dsimp only))
noncomputable def g77 (a0 : List Int) (a1 : Int) : Option Bool := ((g107 a0 a1).bind fun x1 => some (decide (0 ≤ x1)))
theorem mf77 (a0 : List Int) (a1 : Int) : Le (g77 a0 a1) (f77 a0 a1) := by
  rw [g77, f77]
  with_reducible repeat' (first | exact mf107 _ _ | exact Le.loop (mf107 _) _ | exact Le.refl _ | exact Le.loop (fun _ => Le.refl _) _ | refine Le.bind ?_ (fun _ => ?_) | refine Le.ite ?_ ?_)
noncomputable def g47_s1 (a0 : List Res) (a1 : Int) : (List ByteArray) × Int → Option (((List ByteArray) × Int) ⊕ (List ByteArray))
  | (s1_0, s1_1) => (if s1_1 < (a0.length : Int) then ((ix a0 s1_1).bind fun x17 => ((g77 x17.Offs a1).bind fun x18 => (if x18 = true then ((appO? s1_0 [x17.Key]).bind fun x20 => some (.inl (x20, IntKind.i64.wrap (s1_1 + 1)))) else some (.inl (s1_0, IntKind.i64.wrap (s1_1 + 1)))))) else some (.inr s1_0))
theorem mf47_s1 (a0 : List Res) (a1 : Int) : ∀ s, Le (g47_s1 a0 a1 s) (f47_s1 a0 a1 s) := by
  rintro ⟨s1_0, s1_1⟩
  rw [g47_s1, f47_s1]
  with_reducible repeat' (first | exact mf77 _ _ | exact Le.loop (mf77 _) _ | exact Le.refl _ | exact Le.loop (fun _ => Le.refl _) _ | refine Le.bind ?_ (fun _ => ?_) | refine Le.ite ?_ ?_)
noncomputable def g47 (a0 : List Res) (a1 : Int) : Option (List ByteArray) := ((itO (g47_s1 a0 a1) ([], 0)).bind fun y22 => some y22)
theorem mf47 (a0 : List Res) (a1 : Int) : Le (g47 a0 a1) (f47 a0 a1) := by
  rw [g47, f47]
  with_reducible repeat' (first | exact Le.loop (mf47_s1 _ _) _ | exact mf47_s1 _ _ _ | exact Le.refl _ | exact Le.loop (fun _ => Le.refl _) _ | refine Le.bind ?_ (fun _ => ?_) | refine Le.ite ?_ ?_)
noncomputable def g19 (a0 : Trace) (a1 : Int) : Option ((List ByteArray) × Er × Trace) := (if a1 ∈ a0.offs then ((g47 a0.l a1).bind fun x2 => some (x2, Er.nil, a0)) else ((f44 320).bind fun x3 => some ([], x3, a0)))
theorem mf19 (a0 : Trace) (a1 : Int) : Le (g19 a0 a1) (f19 a0 a1) := by
  rw [g19, f19]
  with_reducible repeat' (first | exact mf47 _ _ | exact Le.loop (mf47 _) _ | exact Le.refl _ | exact Le.loop (fun _ => Le.refl _) _ | refine Le.bind ?_ (fun _ => ?_) | refine Le.ite ?_ ?_)
noncomputable def g21 (a0 : List Int) (a1 : List Int) : Option Bool := (if (a0.length : Int) = (a1.length : Int) then ((itO (f21_s1 a0 a1) 0).bind fun y18 => match y18 with | .inl y19 => some y19 | .inr _ => some true) else some false)
theorem mf21 (a0 : List Int) (a1 : List Int) : Le (g21 a0 a1) (f21 a0 a1) := by
  rw [g21, f21]
  with_reducible repeat' (first | exact Le.refl _ | exact Le.loop (fun _ => Le.refl _) _ | refine Le.bind ?_ (fun _ => ?_) | refine Le.ite ?_ ?_ | (rename_i y; rcases y with _ | _ <;> dsimp only))
noncomputable def g22 (a0 : List ByteArray) (a1 : List ByteArray) : Option Bool := (if (a0.length : Int) = (a1.length : Int) then ((itO (f22_s1 a0 a1) 0).bind fun y18 => match y18 with | .inl y19 => some y19 | .inr _ => some true) else some false)
theorem mf22 (a0 : List ByteArray) (a1 : List ByteArray) : Le (g22 a0 a1) (f22 a0 a1) := by
  rw [g22, f22]
  with_reducible repeat' (first | exact Le.refl _ | exact Le.loop (fun _ => Le.refl _) _ | refine Le.bind ?_ (fun _ => ?_) | refine Le.ite ?_ ?_ | (rename_i y; rcases y with _ | _ <;> dsimp only))
noncomputable def g148 (a0 : Int) (a1 : Int) : Option Int := ((itO f148_s1 (xorV .u32 a0 (IntKind.u32.wrap a1), 0)).bind fun y9 => some y9)
theorem mf148 (a0 : Int) (a1 : Int) : Le (g148 a0 a1) (f148 a0 a1) := by
  rw [g148, f148]
  with_reducible repeat' (first | exact Le.refl _ | exact Le.loop (fun _ => Le.refl _) _ | refine Le.bind ?_ (fun _ => ?_) | refine Le.ite ?_ ?_)
noncomputable def g127_s1 (a0 : List Int) : Int × Int → Option ((Int × Int) ⊕ Int)
  | (s1_0, s1_1) => (if s1_1 < (a0.length : Int) then ((ix a0 s1_1).bind fun x11 => ((g148 s1_0 x11).bind fun x12 => some (.inl (x12, IntKind.i64.wrap (s1_1 + 1))))) else some (.inr s1_0))
theorem mf127_s1 (a0 : List Int) : ∀ s, Le (g127_s1 a0 s) (f127_s1 a0 s) := by
  rintro ⟨s1_0, s1_1⟩
  rw [g127_s1, f127_s1]
  with_reducible repeat' (first | exact mf148 _ _ | exact Le.loop (mf148 _) _ | exact Le.refl _ | exact Le.loop (fun _ => Le.refl _) _ | refine Le.bind ?_ (fun _ => ?_) | refine Le.ite ?_ ?_)
noncomputable def g127 (a0 : List Int) : Option Int := ((itO (g127_s1 a0) (4294967295, 0)).bind fun y14 => some (IntKind.u32.wrap (4294967295 - y14)))
theorem mf127 (a0 : List Int) : Le (g127 a0) (f127 a0) := by
  rw [g127, f127]
  with_reducible repeat' (first | exact Le.loop (mf127_s1 _) _ | exact mf127_s1 _ _ | exact Le.refl _ | exact Le.loop (fun _ => Le.refl _) _ | refine Le.bind ?_ (fun _ => ?_) | refine Le.ite ?_ ?_)
noncomputable def g100 (a0 : List Int) : Option (List Int) := ((g127 a0).bind fun x1 => ((appO? ([] : List Int) a0).bind fun x2 => ((itO f100_s1 (x1, x2, 0)).bind fun y11 => some y11)))
theorem mf100 (a0 : List Int) : Le (g100 a0) (f100 a0) := by
  rw [g100, f100]
  with_reducible repeat' (first | exact mf127 _ | exact Le.loop (mf127) _ | exact Le.refl _ | exact Le.loop (fun _ => Le.refl _) _ | refine Le.bind ?_ (fun _ => ?_) | refine Le.ite ?_ ?_)
noncomputable def g118 (a0 : Int) : Option Int := ((itO (f118_s1 a0) (1, 0)).bind fun y5 => some y5)
theorem mf118 (a0 : Int) : Le (g118 a0) (f118 a0) := by
  rw [g118, f118]
  with_reducible repeat' (first | exact Le.refl _ | exact Le.loop (fun _ => Le.refl _) _ | refine Le.bind ?_ (fun _ => ?_) | refine Le.ite ?_ ?_)
noncomputable def g117_s1 (a0 : Int) : Int → Option (Int ⊕ (Int ⊕ Unit))
  | s1_0 => (if s1_0 ≤ 8 then ((g118 (IntKind.i64.wrap (7 * s1_0))).bind fun x9 => (if a0 < x9 then some (.inr (.inl s1_0)) else some (.inl (IntKind.i64.wrap (s1_0 + 1))))) else some (.inr (.inr ())))
theorem mf117_s1 (a0 : Int) : ∀ s, Le (g117_s1 a0 s) (f117_s1 a0 s) := by
  rintro s1_0
  rw [g117_s1, f117_s1]
  with_reducible repeat' (first | exact mf118 _ | exact Le.loop (mf118) _ | exact Le.refl _ | exact Le.loop (fun _ => Le.refl _) _ | refine Le.bind ?_ (fun _ => ?_) | refine Le.ite ?_ ?_)
noncomputable def g117 (a0 : Int) : Option Int := ((itO (g117_s1 a0) 1).bind fun y11 => match y11 with | .inl y12 => some y12 | .inr _ => some 9)
theorem mf117 (a0 : Int) : Le (g117 a0) (f117 a0) := by
  rw [g117, f117]
  with_reducible repeat' (first | exact Le.loop (mf117_s1 _) _ | exact mf117_s1 _ _ | exact Le.refl _ | exact Le.loop (fun _ => Le.refl _) _ | refine Le.bind ?_ (fun _ => ?_) | refine Le.ite ?_ ?_ | (rename_i y; rcases y with _ | _ <;> dsimp only))
noncomputable def g88_j1 (a0 : Int) (x1 : Int) : Int × Int → Option (List Int)
  | (j1_0, j1_1) => ((mkO j1_0 (0 : Int)).bind fun x4 => ((itO f88_s2 (a0, x4, IntKind.i64.wrap (j1_0 - 1))).bind fun y23 => (if x1 = 9 then ((appO? [255] y23).bind fun x27 => some x27) else ((y23[0]?).bind fun x28 => some (y23.set 0 (IntKind.u8.wrap (IntKind.i64.wrap (j1_1 + (IntKind.i64.wrap x28)))))))))
theorem mf88_j1 (a0 : Int) (x1 : Int) : ∀ s, Le (g88_j1 a0 x1 s) (f88_j1 a0 x1 s) := by
  rintro ⟨j1_0, j1_1⟩
  rw [g88_j1, f88_j1]
  with_reducible repeat' (first | exact Le.refl _ | exact Le.loop (fun _ => Le.refl _) _ | refine Le.bind ?_ (fun _ => ?_) | refine Le.ite ?_ ?_)
noncomputable def g88 (a0 : Int) : Option (List Int) := ((g117 a0).bind fun x1 => ((g118 (IntKind.i64.wrap (9 - x1))).bind fun x2 => (if x1 = 9 then g88_j1 a0 x1 (8, 0) else g88_j1 a0 x1 (x1, (IntKind.i64.wrap (256 - (IntKind.i64.wrap x2)))))))
theorem mf88 (a0 : Int) : Le (g88 a0) (f88 a0) := by
  rw [g88, f88]
  with_reducible repeat' (first | exact mf117 _ | exact Le.loop (mf117) _ | exact mf118 _ | exact Le.loop (mf118) _ | exact Le.loop (mf88_j1 _ _) _ | exact mf88_j1 _ _ _ | exact Le.refl _ | exact Le.loop (fun _ => Le.refl _) _ | refine Le.bind ?_ (fun _ => ?_) | refine Le.ite ?_ ?_)
noncomputable def g90 (a0 : List Int) : Option (List Int) := ((g88 (IntKind.u64.wrap (a0.length : Int))).bind fun x1 => ((appO? x1 a0).bind fun x2 => ((g100 x2).bind fun x3 => some x3)))
theorem mf90 (a0 : List Int) : Le (g90 a0) (f90 a0) := by
  rw [g90, f90]
  with_reducible repeat' (first | exact mf100 _ | exact Le.loop (mf100) _ | exact mf88 _ | exact Le.loop (mf88) _ | exact Le.refl _ | exact Le.loop (fun _ => Le.refl _) _ | refine Le.bind ?_ (fun _ => ?_) | refine Le.ite ?_ ?_)
noncomputable def g51 (a0 : ByteArray) : Option (List Int) := ((g88 (IntKind.u64.wrap (a0.size : Int))).bind fun x1 => ((appO? x1 (bytesI a0)).bind fun x2 => some x2))
theorem mf51 (a0 : ByteArray) : Le (g51 a0) (f51 a0) := by
  rw [g51, f51]
  with_reducible repeat' (first | exact mf88 _ | exact Le.loop (mf88) _ | exact Le.refl _ | exact Le.loop (fun _ => Le.refl _) _ | refine Le.bind ?_ (fun _ => ?_) | refine Le.ite ?_ ?_)
noncomputable def g91_s1 (a0 : List Pair) : (List Int) × Int → Option (((List Int) × Int) ⊕ (List Int))
  | (s1_0, s1_1) => (if s1_1 < (a0.length : Int) then ((ix a0 s1_1).bind fun x18 => ((g51 x18.Key).bind fun x19 => ((appO? s1_0 x19).bind fun x20 => ((g51 x18.Val).bind fun x21 => ((appO? x20 x21).bind fun x22 => some (.inl (x22, IntKind.i64.wrap (s1_1 + 1)))))))) else some (.inr s1_0))
theorem mf91_s1 (a0 : List Pair) : ∀ s, Le (g91_s1 a0 s) (f91_s1 a0 s) := by
  rintro ⟨s1_0, s1_1⟩
  rw [g91_s1, f91_s1]
  with_reducible repeat' (first | exact mf51 _ | exact Le.loop (mf51) _ | exact Le.refl _ | exact Le.loop (fun _ => Le.refl _) _ | refine Le.bind ?_ (fun _ => ?_) | refine Le.ite ?_ ?_)
noncomputable def g91 (a0 : List Pair) : Option (List Int) := ((g88 (IntKind.u64.wrap (a0.length : Int))).bind fun x1 => ((itO (g91_s1 a0) (x1, 0)).bind fun y24 => some y24))
theorem mf91 (a0 : List Pair) : Le (g91 a0) (f91 a0) := by
  rw [g91, f91]
  with_reducible repeat' (first | exact mf88 _ | exact Le.loop (mf88) _ | exact Le.loop (mf91_s1 _) _ | exact mf91_s1 _ _ | exact Le.refl _ | exact Le.loop (fun _ => Le.refl _) _ | refine Le.bind ?_ (fun _ => ?_) | refine Le.ite ?_ ?_)
noncomputable def g92 (a0 : List Res) : Option (List Pair) := ((itO (f92_s1 a0) ([], 0)).bind fun y13 => some y13)
theorem mf92 (a0 : List Res) : Le (g92 a0) (f92 a0) := by
  rw [g92, f92]
  with_reducible repeat' (first | exact Le.refl _ | exact Le.loop (fun _ => Le.refl _) _ | refine Le.bind ?_ (fun _ => ?_) | refine Le.ite ?_ ?_)
noncomputable def g89 (a0 : List Int) (a1 : Int) : Option Int := ((itO (f89_s2 a0 a1) 2).bind fun y34 => (if y34 < 3 then some 0 else (if (a0.length : Int) ≤ (IntKind.i64.wrap (a1 + 2)) then some 0 else some y34)))
theorem mf89 (a0 : List Int) (a1 : Int) : Le (g89 a0 a1) (f89 a0 a1) := by
  rw [g89, f89]
  with_reducible repeat' (first | exact Le.refl _ | exact Le.loop (fun _ => Le.refl _) _ | refine Le.bind ?_ (fun _ => ?_) | refine Le.ite ?_ ?_)
noncomputable def g52_s18 (a0 : List Int) (s1_3 : Int) : Int → Option (Int ⊕ Int)
  | s18_0 => (if (IntKind.i64.wrap (s1_3 + s18_0)) < (a0.length : Int) then ((g89 a0 (IntKind.i64.wrap (s1_3 + s18_0))).bind fun x232 => (if x232 = 0 then some (.inl (IntKind.i64.wrap (s18_0 + 1))) else some (.inr s18_0))) else some (.inr s18_0))
theorem mf52_s18 (a0 : List Int) (s1_3 : Int) : ∀ s, Le (g52_s18 a0 s1_3 s) (f52_s18 a0 s1_3 s) := by
  rintro s18_0
  rw [g52_s18, f52_s18]
  with_reducible repeat' (first | exact mf89 _ _ | exact Le.loop (mf89 _) _ | exact Le.refl _ | exact Le.loop (fun _ => Le.refl _) _ | refine Le.bind ?_ (fun _ => ?_) | refine Le.ite ?_ ?_)
noncomputable def g52_s19 (a0 : List Int) (s1_3 : Int) (y235 : Int) : (List Int) × Int × Int → Option (((List Int) × Int × Int) ⊕ (List Int))
  | (s19_0, s19_1, s19_2) => (if s19_2 < (IntKind.i64.wrap (s1_3 + y235)) then ((ix a0 s19_2).bind fun x250 => ((g88 (IntKind.u64.wrap (IntKind.i64.wrap ((IntKind.i64.wrap (x250 - s19_1)) - 1)))).bind fun x251 => ((appO? s19_0 x251).bind fun x252 => some (.inl (x252, x250, IntKind.i64.wrap (s19_2 + 1)))))) else some (.inr s19_0))
theorem mf52_s19 (a0 : List Int) (s1_3 : Int) (y235 : Int) : ∀ s, Le (g52_s19 a0 s1_3 y235 s) (f52_s19 a0 s1_3 y235 s) := by
  rintro ⟨s19_0, s19_1, s19_2⟩
  rw [g52_s19, f52_s19]
  with_reducible repeat' (first | exact mf88 _ | exact Le.loop (mf88) _ | exact Le.refl _ | exact Le.loop (fun _ => Le.refl _) _ | refine Le.bind ?_ (fun _ => ?_) | refine Le.ite ?_ ?_)
noncomputable def g52_s1 (a0 : List Int) : (List Int) × Int × Int × Int → Option (((List Int) × Int × Int × Int) ⊕ (Int × (List Int)))
  | (s1_0, s1_1, s1_2, s1_3) => (if s1_3 < (a0.length : Int) then ((g89 a0 s1_3).bind fun x167 => (if 0 < x167 then ((g88 (IntKind.u64.wrap (IntKind.i64.wrap ((IntKind.i64.wrap (2 * x167)) + 1)))).bind fun x209 => ((appO? s1_0 x209).bind fun x210 => ((ix a0 s1_3).bind fun x211 => ((g88 (IntKind.u64.wrap (IntKind.i64.wrap ((IntKind.i64.wrap (x211 - s1_2)) - 1)))).bind fun x212 => ((appO? x210 x212).bind fun x213 => ((ix a0 (IntKind.i64.wrap (s1_3 + 1))).bind fun x214 => ((g88 (IntKind.u64.wrap (IntKind.i64.wrap ((IntKind.i64.wrap (x214 - x211)) - 1)))).bind fun x215 => ((appO? x213 x215).bind fun x216 => f52_j3 a0 s1_1 s1_3 (x216, x167))))))))) else ((itO (g52_s18 a0 s1_3) 1).bind fun y235 => ((g88 (IntKind.u64.wrap (IntKind.i64.wrap (2 * y235)))).bind fun x236 => ((appO? s1_0 x236).bind fun x237 => ((itO (g52_s19 a0 s1_3 y235) (x237, s1_2, s1_3)).bind fun y254 => f52_j3 a0 s1_1 s1_3 (y254, y235))))))) else some (.inr (s1_1, s1_0)))
theorem mf52_s1 (a0 : List Int) : ∀ s, Le (g52_s1 a0 s) (f52_s1 a0 s) := by
  rintro ⟨s1_0, s1_1, s1_2, s1_3⟩
  rw [g52_s1, f52_s1]
  with_reducible repeat' (first | exact Le.loop (mf52_s18 _ _) _ | exact mf52_s18 _ _ _ | exact Le.loop (mf52_s19 _ _ _) _ | exact mf52_s19 _ _ _ _ | exact mf88 _ | exact Le.loop (mf88) _ | exact mf89 _ _ | exact Le.loop (mf89 _) _ | exact Le.refl _ | exact Le.loop (fun _ => Le.refl _) _ | refine Le.bind ?_ (fun _ => ?_) | refine Le.ite ?_ ?_)
noncomputable def g52 (a0 : List Int) : Option (List Int) := ((itO (g52_s1 a0) ([], 0, (-1), 0)).bind fun y255 => match y255 with | (y256, y257) => ((g88 (IntKind.u64.wrap y256)).bind fun x258 => ((appO? x258 y257).bind fun x259 => some x259)))
theorem mf52 (a0 : List Int) : Le (g52 a0) (f52 a0) := by
  rw [g52, f52]
  with_reducible repeat' (first | exact Le.loop (mf52_s1 _) _ | exact mf52_s1 _ _ | exact mf88 _ | exact Le.loop (mf88) _ | exact Le.refl _ | exact Le.loop (fun _ => Le.refl _) _ | refine Le.bind ?_ (fun _ => ?_) | refine Le.ite ?_ ?_ | (rename_i y; rcases y with ⟨_, _⟩ <;> dsimp only))
noncomputable def g93_s1 (a0 : List Res) : (List Int) × Int → Option (((List Int) × Int) ⊕ (List Int))
  | (s1_0, s1_1) => (if s1_1 < (a0.length : Int) then ((ix a0 s1_1).bind fun x20 => ((g51 x20.Key).bind fun x21 => ((appO? s1_0 x21).bind fun x22 => ((g52 x20.Offs).bind fun x23 => ((g51 (strOfNums x23)).bind fun x24 => ((appO? x22 x24).bind fun x25 => some (.inl (x25, IntKind.i64.wrap (s1_1 + 1))))))))) else some (.inr s1_0))
theorem mf93_s1 (a0 : List Res) : ∀ s, Le (g93_s1 a0 s) (f93_s1 a0 s) := by
  rintro ⟨s1_0, s1_1⟩
  rw [g93_s1, f93_s1]
  with_reducible repeat' (first | exact mf51 _ | exact Le.loop (mf51) _ | exact mf52 _ | exact Le.loop (mf52) _ | exact Le.refl _ | exact Le.loop (fun _ => Le.refl _) _ | refine Le.bind ?_ (fun _ => ?_) | refine Le.ite ?_ ?_)
noncomputable def g93 (a0 : List Res) : Option (List Int) := ((g88 (IntKind.u64.wrap (a0.length : Int))).bind fun x1 => ((itO (g93_s1 a0) (x1, 0)).bind fun y27 => some y27))
theorem mf93 (a0 : List Res) : Le (g93 a0) (f93 a0) := by
  rw [g93, f93]
  with_reducible repeat' (first | exact mf88 _ | exact Le.loop (mf88) _ | exact Le.loop (mf93_s1 _) _ | exact mf93_s1 _ _ | exact Le.refl _ | exact Le.loop (fun _ => Le.refl _) _ | refine Le.bind ?_ (fun _ => ?_) | refine Le.ite ?_ ?_)
noncomputable def g55 (a0 : List Res) : Option ((List Int) × (List Int)) := ((g92 a0).bind fun x1 => ((g91 x1).bind fun x2 => ((g90 x2).bind fun x3 => ((g93 a0).bind fun x4 => ((g90 x4).bind fun x5 => some (x3, x5))))))
theorem mf55 (a0 : List Res) : Le (g55 a0) (f55 a0) := by
  rw [g55, f55]
  with_reducible repeat' (first | exact mf90 _ | exact Le.loop (mf90) _ | exact mf91 _ | exact Le.loop (mf91) _ | exact mf92 _ | exact Le.loop (mf92) _ | exact mf93 _ | exact Le.loop (mf93) _ | exact Le.refl _ | exact Le.loop (fun _ => Le.refl _) _ | refine Le.bind ?_ (fun _ => ?_) | refine Le.ite ?_ ?_)
noncomputable def g29 (a0 : List Res) : Option (List (A2 (List Int))) := ((g55 a0).bind fun x1 => some [⟨x1.1, x1.2⟩])
theorem mf29 (a0 : List Res) : Le (g29 a0) (f29 a0) := by
  rw [g29, f29]
  with_reducible repeat' (first | exact mf55 _ | exact Le.loop (mf55) _ | exact Le.refl _ | exact Le.loop (fun _ => Le.refl _) _ | refine Le.bind ?_ (fun _ => ?_) | refine Le.ite ?_ ?_)
noncomputable def g132 (a0 : Int) : Option Int := ((itO (f132_s1 a0) 1).bind fun y11 => match y11 with | .inl y12 => some y12 | .inr _ => some 9)
theorem mf132 (a0 : Int) : Le (g132 a0) (f132 a0) := by
  rw [g132, f132]
  with_reducible repeat' (first | exact Le.refl _ | exact Le.loop (fun _ => Le.refl _) _ | refine Le.bind ?_ (fun _ => ?_) | refine Le.ite ?_ ?_ | (rename_i y; rcases y with _ | _ <;> dsimp only))
noncomputable def g122_j1 (a0 : List Int) (a1 : Int) (x8 : Int) : Int → Option (Int × Int × Int)
  | j1_0 => ((cutO? a0 (IntKind.i64.wrap (a1 + 1)) (IntKind.i64.wrap (a1 + (IntKind.i64.wrap (1 + x8))))).bind fun x24 => ((itO (f122_s2 x24) (j1_0, 0)).bind fun y38 => ((g132 y38).bind fun x39 => (if x39 = (IntKind.i64.wrap (1 + x8)) then some (y38, IntKind.i64.wrap (a1 + (IntKind.i64.wrap (1 + x8))), 0) else some (0, 0, 3)))))
theorem mf122_j1 (a0 : List Int) (a1 : Int) (x8 : Int) : ∀ s, Le (g122_j1 a0 a1 x8 s) (f122_j1 a0 a1 x8 s) := by
  rintro j1_0
  rw [g122_j1, f122_j1]
  with_reducible repeat' (first | exact mf132 _ | exact Le.loop (mf132) _ | exact Le.refl _ | exact Le.loop (fun _ => Le.refl _) _ | refine Le.bind ?_ (fun _ => ?_) | refine Le.ite ?_ ?_)
noncomputable def g122 (a0 : List Int) (a1 : Int) : Option (Int × Int × Int) := (if a1 < 0 then some (0, 0, 8) else (if (a0.length : Int) < a1 then some (0, 0, 8) else (if a1 = (a0.length : Int) then some (0, 0, 2) else ((ix a0 a1).bind fun x7 => ((f144 (xorV .u8 (allV .u8) x7)).bind fun x8 => (if (IntKind.i64.wrap ((a0.length : Int) - a1)) < (IntKind.i64.wrap (1 + x8)) then some (0, 0, 2) else (if (IntKind.i64.wrap (1 + x8)) < 9 then ((guardO (0 ≤ (IntKind.i64.wrap (1 + x8)))).bind fun x42 => g122_j1 a0 a1 x8 (andV .u64 (IntKind.u64.wrap x7) (shrV .u64 255 (IntKind.i64.wrap (1 + x8)).toNat))) else g122_j1 a0 a1 x8 0)))))))
theorem mf122 (a0 : List Int) (a1 : Int) : Le (g122 a0 a1) (f122 a0 a1) := by
  rw [g122, f122]
  with_reducible repeat' (first | exact Le.loop (mf122_j1 _ _ _) _ | exact mf122_j1 _ _ _ _ | exact Le.refl _ | exact Le.loop (fun _ => Le.refl _) _ | refine Le.bind ?_ (fun _ => ?_) | refine Le.ite ?_ ?_)
noncomputable def g161 (a0 : List Int) (a1 : List Int) : Option Bool := (if (a0.length : Int) = (a1.length : Int) then ((itO (f161_s1 a0 a1) 0).bind fun y21 => match y21 with | .inl y22 => some y22 | .inr _ => some true) else some false)
theorem mf161 (a0 : List Int) (a1 : List Int) : Le (g161 a0 a1) (f161 a0 a1) := by
  rw [g161, f161]
  with_reducible repeat' (first | exact Le.refl _ | exact Le.loop (fun _ => Le.refl _) _ | refine Le.bind ?_ (fun _ => ?_) | refine Le.ite ?_ ?_ | (rename_i y; rcases y with _ | _ <;> dsimp only))
noncomputable def g180 (a0 : Int) (a1 : Int) : Option Int := ((itO f180_s1 (xorV .u32 a0 (IntKind.u32.wrap a1), 0)).bind fun y8 => some y8)
theorem mf180 (a0 : Int) (a1 : Int) : Le (g180 a0 a1) (f180 a0 a1) := by
  rw [g180, f180]
  with_reducible repeat' (first | exact Le.refl _ | exact Le.loop (fun _ => Le.refl _) _ | refine Le.bind ?_ (fun _ => ?_) | refine Le.ite ?_ ?_)
noncomputable def g179 (a0 : Int) (a1 : Int) : Option Int := ((g180 a1 a0).bind fun x1 => some x1)
theorem mf179 (a0 : Int) (a1 : Int) : Le (g179 a0 a1) (f179 a0 a1) := by
  rw [g179, f179]
  with_reducible repeat' (first | exact mf180 _ _ | exact Le.loop (mf180 _) _ | exact Le.refl _ | exact Le.loop (fun _ => Le.refl _) _ | refine Le.bind ?_ (fun _ => ?_) | refine Le.ite ?_ ?_)
noncomputable def g178_s1 (a1 : List Int) : Int × Int → Option ((Int × Int) ⊕ Int)
  | (s1_0, s1_1) => (if s1_1 < (a1.length : Int) then ((ix a1 s1_1).bind fun x14 => ((g179 x14 s1_0).bind fun x15 => some (.inl (x15, IntKind.i64.wrap (s1_1 + 1))))) else some (.inr s1_0))
theorem mf178_s1 (a1 : List Int) : ∀ s, Le (g178_s1 a1 s) (f178_s1 a1 s) := by
  rintro ⟨s1_0, s1_1⟩
  rw [g178_s1, f178_s1]
  with_reducible repeat' (first | exact mf179 _ _ | exact Le.loop (mf179 _) _ | exact Le.refl _ | exact Le.loop (fun _ => Le.refl _) _ | refine Le.bind ?_ (fun _ => ?_) | refine Le.ite ?_ ?_)
noncomputable def g178 (a0 : Int) (a1 : List Int) : Option Int := ((itO (g178_s1 a1) (xorV .u32 (allV .u32) a0, 0)).bind fun y17 => some (xorV .u32 (allV .u32) y17))
theorem mf178 (a0 : Int) (a1 : List Int) : Le (g178 a0 a1) (f178 a0 a1) := by
  rw [g178, f178]
  with_reducible repeat' (first | exact Le.loop (mf178_s1 _) _ | exact mf178_s1 _ _ | exact Le.refl _ | exact Le.loop (fun _ => Le.refl _) _ | refine Le.bind ?_ (fun _ => ?_) | refine Le.ite ?_ ?_)
noncomputable def g175 (a0 : List Int) : Option Int := ((g178 0 a0).bind fun x1 => some x1)
theorem mf175 (a0 : List Int) : Le (g175 a0) (f175 a0) := by
  rw [g175, f175]
  with_reducible repeat' (first | exact mf178 _ _ | exact Le.loop (mf178 _) _ | exact Le.refl _ | exact Le.loop (fun _ => Le.refl _) _ | refine Le.bind ?_ (fun _ => ?_) | refine Le.ite ?_ ?_)
noncomputable def g162 (a0 : List Int) : Option (List Int) := ((g175 a0).bind fun x1 => ((f133 a0).bind fun x2 => ((itO (f162_s1 x1) (x2, 0)).bind fun y16 => some y16)))
theorem mf162 (a0 : List Int) : Le (g162 a0) (f162 a0) := by
  rw [g162, f162]
  with_reducible repeat' (first | exact mf175 _ | exact Le.loop (mf175) _ | exact Le.refl _ | exact Le.loop (fun _ => Le.refl _) _ | refine Le.bind ?_ (fun _ => ?_) | refine Le.ite ?_ ?_)
noncomputable def g139 (a0 : List Int) : Option ((List Int) × Int) := (if (a0.length : Int) < 4 then some ([], 2) else ((cutO? a0 0 (IntKind.i64.wrap ((a0.length : Int) - 4))).bind fun x3 => ((f133 x3).bind fun x4 => ((g162 x4).bind fun x5 => ((g161 x5 a0).bind fun x6 => (if x6 = true then some (x4, 0) else some ([], 4)))))))
theorem mf139 (a0 : List Int) : Le (g139 a0) (f139 a0) := by
  rw [g139, f139]
  with_reducible repeat' (first | exact mf161 _ _ | exact Le.loop (mf161 _) _ | exact mf162 _ | exact Le.loop (mf162) _ | exact Le.refl _ | exact Le.loop (fun _ => Le.refl _) _ | refine Le.bind ?_ (fun _ => ?_) | refine Le.ite ?_ ?_)
noncomputable def g119 (a0 : List Int) (a1 : Int) : Option ((List Int) × Int × Int) := ((g122 a0 a1).bind fun x1 => (if x1.2.2 = 0 then (if 1048576 < x1.1 then some ([], 0, 5) else (if (IntKind.i64.wrap ((a0.length : Int) - x1.2.1)) < (IntKind.i64.wrap ((IntKind.i64.wrap x1.1) + 4)) then some ([], 0, 2) else ((cutO? a0 a1 (IntKind.i64.wrap ((IntKind.i64.wrap (x1.2.1 + (IntKind.i64.wrap x1.1))) + 4))).bind fun x8 => ((g139 x8).bind fun x9 => (if x9.2 = 0 then ((cutO? a0 x1.2.1 (IntKind.i64.wrap ((IntKind.i64.wrap ((IntKind.i64.wrap (x1.2.1 + (IntKind.i64.wrap x1.1))) + 4)) - 4))).bind fun x11 => ((f133 x11).bind fun x12 => some (x12, IntKind.i64.wrap ((IntKind.i64.wrap (x1.2.1 + (IntKind.i64.wrap x1.1))) + 4), 0))) else some ([], 0, x9.2)))))) else some ([], 0, x1.2.2)))
theorem mf119 (a0 : List Int) (a1 : Int) : Le (g119 a0 a1) (f119 a0 a1) := by
  rw [g119, f119]
  with_reducible repeat' (first | exact mf122 _ _ | exact Le.loop (mf122 _) _ | exact mf139 _ | exact Le.loop (mf139) _ | exact Le.refl _ | exact Le.loop (fun _ => Le.refl _) _ | refine Le.bind ?_ (fun _ => ?_) | refine Le.ite ?_ ?_)
noncomputable def g145 (a0 : List Int) (a1 : Int) (a2 : Int) : Option (ByteArray × Int × Int) := ((g122 a0 a1).bind fun x1 => (if x1.2.2 = 0 then (if a2 < 0 then some (⟨#[]⟩, 0, 5) else (if (IntKind.u64.wrap a2) < x1.1 then some (⟨#[]⟩, 0, 5) else (if (IntKind.u64.wrap (IntKind.i64.wrap ((a0.length : Int) - x1.2.1))) < x1.1 then some (⟨#[]⟩, 0, 2) else ((cutO? a0 x1.2.1 (IntKind.i64.wrap (x1.2.1 + (IntKind.i64.wrap x1.1)))).bind fun x10 => some (strOfNums x10, IntKind.i64.wrap (x1.2.1 + (IntKind.i64.wrap x1.1)), 0))))) else some (⟨#[]⟩, 0, x1.2.2)))
theorem mf145 (a0 : List Int) (a1 : Int) (a2 : Int) : Le (g145 a0 a1 a2) (f145 a0 a1 a2) := by
  rw [g145, f145]
  with_reducible repeat' (first | exact mf122 _ _ | exact Le.loop (mf122 _) _ | exact Le.refl _ | exact Le.loop (fun _ => Le.refl _) _ | refine Le.bind ?_ (fun _ => ?_) | refine Le.ite ?_ ?_)
noncomputable def g140_141_s4 (a0 : List Int) (a2 : Int) : Int × (List ByteArray) × Int → Option ((Int × (List ByteArray) × Int) ⊕ (((List Pair) × Int × Int) ⊕ (Int × (List ByteArray))))
  | (s4_0, s4_1, s4_2) => (if s4_2 < a2 then ((g145 a0 s4_0 65536).bind fun x62 => (if x62.2.2 = 0 then ((appO? s4_1 [x62.1]).bind fun x64 => some (.inl (x62.2.1, x64, IntKind.i64.wrap (s4_2 + 1)))) else some (.inr (.inl ([], 0, x62.2.2))))) else some (.inr (.inr (s4_0, s4_1))))
theorem mf140_141_s4 (a0 : List Int) (a2 : Int) : ∀ s, Le (g140_141_s4 a0 a2 s) (f140_141_s4 a0 a2 s) := by
  rintro ⟨s4_0, s4_1, s4_2⟩
  rw [g140_141_s4, f140_141_s4]
  with_reducible repeat' (first | exact mf145 _ _ _ | exact Le.loop (mf145 _ _) _ | exact Le.refl _ | exact Le.loop (fun _ => Le.refl _) _ | refine Le.bind ?_ (fun _ => ?_) | refine Le.ite ?_ ?_)
noncomputable def g140_141_s1 (a0 : List Int) (a2 : Int) (x1 : Int × Int × Int) : Int × (List Pair) × Int → Option ((Int × (List Pair) × Int) ⊕ (((List Pair) × Int × Int) ⊕ (Int × (List Pair))))
  | (s1_0, s1_1, s1_2) => (if s1_2 < x1.1 then ((itO (g140_141_s4 a0 a2) (s1_0, [], 0)).bind fun y65 => match y65 with | .inl y66 => some (.inr (.inl y66)) | .inr (y67, y68) => ((f141 y68).bind fun x69 => ((appO? s1_1 [x69]).bind fun x70 => some (.inl (y67, x70, IntKind.u64.wrap (s1_2 + 1)))))) else some (.inr (.inr (s1_0, s1_1))))
theorem mf140_141_s1 (a0 : List Int) (a2 : Int) (x1 : Int × Int × Int) : ∀ s, Le (g140_141_s1 a0 a2 x1 s) (f140_141_s1 a0 a2 x1 s) := by
  rintro ⟨s1_0, s1_1, s1_2⟩
  rw [g140_141_s1, f140_141_s1]
  with_reducible repeat' (first | exact Le.loop (mf140_141_s4 _ _) _ | exact mf140_141_s4 _ _ _ | exact Le.refl _ | exact Le.loop (fun _ => Le.refl _) _ | refine Le.bind ?_ (fun _ => ?_) | refine Le.ite ?_ ?_ | (rename_i y; rcases y with _ | ⟨_, _⟩ <;> dsimp only))
noncomputable def g140_141_j1 (a0 : List Int) (a2 : Int) (x1 : Int × Int × Int) : Int → Option ((List Pair) × Int × Int)
  | j1_0 => (if j1_0 = 0 then ((itO (g140_141_s1 a0 a2 x1) (x1.2.1, [], 0)).bind fun y71 => match y71 with | .inl y72 => some y72 | .inr (y73, y74) => some (y74, y73, 0)) else some ([], 0, j1_0))
theorem mf140_141_j1 (a0 : List Int) (a2 : Int) (x1 : Int × Int × Int) : ∀ s, Le (g140_141_j1 a0 a2 x1 s) (f140_141_j1 a0 a2 x1 s) := by
  rintro j1_0
  rw [g140_141_j1, f140_141_j1]
  with_reducible repeat' (first | exact Le.loop (mf140_141_s1 _ _ _) _ | exact mf140_141_s1 _ _ _ _ | exact Le.refl _ | exact Le.loop (fun _ => Le.refl _) _ | refine Le.bind ?_ (fun _ => ?_) | refine Le.ite ?_ ?_ | (rename_i y; rcases y with _ | ⟨_, _⟩ <;> dsimp only))
noncomputable def g140_141 (a0 : List Int) (a1 : Int) (a2 : Int) : Option ((List Pair) × Int × Int) := ((g122 a0 a1).bind fun x1 => (if x1.2.2 = 0 then (if 65536 < x1.1 then g140_141_j1 a0 a2 x1 9 else g140_141_j1 a0 a2 x1 x1.2.2) else g140_141_j1 a0 a2 x1 x1.2.2))
theorem mf140_141 (a0 : List Int) (a1 : Int) (a2 : Int) : Le (g140_141 a0 a1 a2) (f140_141 a0 a1 a2) := by
  rw [g140_141, f140_141]
  with_reducible repeat' (first | exact mf122 _ _ | exact Le.loop (mf122 _) _ | exact Le.loop (mf140_141_j1 _ _ _) _ | exact mf140_141_j1 _ _ _ _ | exact Le.refl _ | exact Le.loop (fun _ => Le.refl _) _ | refine Le.bind ?_ (fun _ => ?_) | refine Le.ite ?_ ?_)
noncomputable def g120 (a0 : List Int) (a1 : Int) : Option ((List Pair) × Int × Int) := ((g140_141 a0 a1 2).bind fun x1 => some (x1.1, x1.2.1, x1.2.2))
theorem mf120 (a0 : List Int) (a1 : Int) : Le (g120 a0 a1) (f120 a0 a1) := by
  rw [g120, f120]
  with_reducible repeat' (first | exact mf140_141 _ _ _ | exact Le.loop (mf140_141 _ _) _ | exact Le.refl _ | exact Le.loop (fun _ => Le.refl _) _ | refine Le.bind ?_ (fun _ => ?_) | refine Le.ite ?_ ?_)
noncomputable def g163 (a0 : List Int) : Option Int := ((itO (f163_s1 a0) 0).bind fun y16 => match y16 with | .inl y17 => some y17 | .inr _ => some 0)
theorem mf163 (a0 : List Int) : Le (g163 a0) (f163 a0) := by
  rw [g163, f163]
  with_reducible repeat' (first | exact Le.refl _ | exact Le.loop (fun _ => Le.refl _) _ | refine Le.bind ?_ (fun _ => ?_) | refine Le.ite ?_ ?_ | (rename_i y; rcases y with _ | _ <;> dsimp only))
noncomputable def g143 (a0 : Pair) (a1 : Pair) : Option Int := ((f76 a0.Key a1.Key).bind fun x1 => ((f76 a0.Val a1.Val).bind fun x2 => ((g163 [x1, x2]).bind fun x3 => some x3)))
theorem mf143 (a0 : Pair) (a1 : Pair) : Le (g143 a0 a1) (f143 a0 a1) := by
  rw [g143, f143]
  with_reducible repeat' (first | exact mf163 _ | exact Le.loop (mf163) _ | exact Le.refl _ | exact Le.loop (fun _ => Le.refl _) _ | refine Le.bind ?_ (fun _ => ?_) | refine Le.ite ?_ ?_)
noncomputable def g142_143_s1 (a0 : List Pair) : Int → Option (Int ⊕ (Bool ⊕ Unit))
  | s1_0 => (if 0 < s1_0 then ((ix a0 s1_0).bind fun x15 => ((ix a0 (IntKind.i64.wrap (s1_0 - 1))).bind fun x16 => ((g143 x15 x16).bind fun x17 => (if x17 < 0 then some (.inr (.inl false)) else some (.inl (IntKind.i64.wrap (s1_0 - 1))))))) else some (.inr (.inr ())))
theorem mf142_143_s1 (a0 : List Pair) : ∀ s, Le (g142_143_s1 a0 s) (f142_143_s1 a0 s) := by
  rintro s1_0
  rw [g142_143_s1, f142_143_s1]
  with_reducible repeat' (first | exact mf143 _ _ | exact Le.loop (mf143 _) _ | exact Le.refl _ | exact Le.loop (fun _ => Le.refl _) _ | refine Le.bind ?_ (fun _ => ?_) | refine Le.ite ?_ ?_)
noncomputable def g142_143 (a0 : List Pair) : Option Bool := ((itO (g142_143_s1 a0) (IntKind.i64.wrap ((a0.length : Int) - 1))).bind fun y19 => match y19 with | .inl y20 => some y20 | .inr _ => some true)
theorem mf142_143 (a0 : List Pair) : Le (g142_143 a0) (f142_143 a0) := by
  rw [g142_143, f142_143]
  with_reducible repeat' (first | exact Le.loop (mf142_143_s1 _) _ | exact mf142_143_s1 _ _ | exact Le.refl _ | exact Le.loop (fun _ => Le.refl _) _ | refine Le.bind ?_ (fun _ => ?_) | refine Le.ite ?_ ?_ | (rename_i y; rcases y with _ | _ <;> dsimp only))
noncomputable def g121 (a0 : List Pair) : Option Bool := ((itO (f121_s1 a0) 0).bind fun y18 => match y18 with | .inl y19 => some y19 | .inr _ => ((g142_143 a0).bind fun x20 => some x20))
theorem mf121 (a0 : List Pair) : Le (g121 a0) (f121 a0) := by
  rw [g121, f121]
  with_reducible repeat' (first | exact mf142_143 _ | exact Le.loop (mf142_143) _ | exact Le.refl _ | exact Le.loop (fun _ => Le.refl _) _ | refine Le.bind ?_ (fun _ => ?_) | refine Le.ite ?_ ?_ | (rename_i y; rcases y with _ | _ <;> dsimp only))
noncomputable def g95 (a0 : List Int) : Option ((List Pair) × Int) := ((g120 a0 0).bind fun x1 => (if x1.2.2 = 0 then (if x1.2.1 < (a0.length : Int) then some ([], 3) else ((g121 x1.1).bind fun x4 => (if x4 = true then some (x1.1, x1.2.2) else some ([], 3)))) else some (x1.1, x1.2.2)))
theorem mf95 (a0 : List Int) : Le (g95 a0) (f95 a0) := by
  rw [g95, f95]
  with_reducible repeat' (first | exact mf120 _ _ | exact Le.loop (mf120 _) _ | exact mf121 _ | exact Le.loop (mf121) _ | exact Le.refl _ | exact Le.loop (fun _ => Le.refl _) _ | refine Le.bind ?_ (fun _ => ?_) | refine Le.ite ?_ ?_)
noncomputable def g94_95_j1 (x1 : (List Int) × Int × Int) : Int → Option ((List Pair) × Int)
  | j1_0 => (if j1_0 = 0 then ((g95 x1.1).bind fun x5 => some (x5.1, x5.2)) else some ([], j1_0))
theorem mf94_95_j1 (x1 : (List Int) × Int × Int) : ∀ s, Le (g94_95_j1 x1 s) (f94_95_j1 x1 s) := by
  rintro j1_0
  rw [g94_95_j1, f94_95_j1]
  with_reducible repeat' (first | exact mf95 _ | exact Le.loop (mf95) _ | exact Le.refl _ | exact Le.loop (fun _ => Le.refl _) _ | refine Le.bind ?_ (fun _ => ?_) | refine Le.ite ?_ ?_)
noncomputable def g94_95 (a0 : List Int) : Option ((List Pair) × Int) := ((g119 a0 0).bind fun x1 => (if x1.2.2 = 0 then (if x1.2.1 < (a0.length : Int) then g94_95_j1 x1 3 else g94_95_j1 x1 x1.2.2) else g94_95_j1 x1 x1.2.2))
theorem mf94_95 (a0 : List Int) : Le (g94_95 a0) (f94_95 a0) := by
  rw [g94_95, f94_95]
  with_reducible repeat' (first | exact mf119 _ _ | exact Le.loop (mf119 _) _ | exact Le.loop (mf94_95_j1 _) _ | exact mf94_95_j1 _ _ | exact Le.refl _ | exact Le.loop (fun _ => Le.refl _) _ | refine Le.bind ?_ (fun _ => ?_) | refine Le.ite ?_ ?_)
noncomputable def g58 (a0 : List Int) : Option Bool := (if 65536 < (a0.length : Int) then some false else ((itO (f58_s1 a0) 0).bind fun y27 => match y27 with | .inl y28 => some y28 | .inr _ => some true))
theorem mf58 (a0 : List Int) : Le (g58 a0) (f58 a0) := by
  rw [g58, f58]
  with_reducible repeat' (first | exact Le.refl _ | exact Le.loop (fun _ => Le.refl _) _ | refine Le.bind ?_ (fun _ => ?_) | refine Le.ite ?_ ?_ | (rename_i y; rcases y with _ | _ <;> dsimp only))
noncomputable def g32_s1 (a0 : List Res) : Int → Option (Int ⊕ (Bool ⊕ Unit))
  | s1_0 => (if s1_0 < (a0.length : Int) then ((ix a0 s1_0).bind fun x18 => (if (x18.Offs.length : Int) = 0 then some (.inr (.inl false)) else ((g58 x18.Offs).bind fun x20 => (if x20 = true then some (.inl (IntKind.i64.wrap (s1_0 + 1))) else some (.inr (.inl false)))))) else some (.inr (.inr ())))
theorem mf32_s1 (a0 : List Res) : ∀ s, Le (g32_s1 a0 s) (f32_s1 a0 s) := by
  rintro s1_0
  rw [g32_s1, f32_s1]
  with_reducible repeat' (first | exact mf58 _ | exact Le.loop (mf58) _ | exact Le.refl _ | exact Le.loop (fun _ => Le.refl _) _ | refine Le.bind ?_ (fun _ => ?_) | refine Le.ite ?_ ?_)
noncomputable def g59_60 (a0 : List Res) : Option Bool := ((itO (f59_60_s1 a0) 0).bind fun y22 => match y22 with | .inl y23 => some y23 | .inr _ => some true)
theorem mf59_60 (a0 : List Res) : Le (g59_60 a0) (f59_60 a0) := by
  rw [g59_60, f59_60]
  with_reducible repeat' (first | exact Le.refl _ | exact Le.loop (fun _ => Le.refl _) _ | refine Le.bind ?_ (fun _ => ?_) | refine Le.ite ?_ ?_ | (rename_i y; rcases y with _ | _ <;> dsimp only))
noncomputable def g32 (a0 : List Res) : Option Bool := ((itO (g32_s1 a0) 0).bind fun y22 => match y22 with | .inl y23 => some y23 | .inr _ => ((g59_60 a0).bind fun x24 => some x24))
theorem mf32 (a0 : List Res) : Le (g32 a0) (f32 a0) := by
  rw [g32, f32]
  with_reducible repeat' (first | exact Le.loop (mf32_s1 _) _ | exact mf32_s1 _ _ | exact mf59_60 _ | exact Le.loop (mf59_60) _ | exact Le.refl _ | exact Le.loop (fun _ => Le.refl _) _ | refine Le.bind ?_ (fun _ => ?_) | refine Le.ite ?_ ?_ | (rename_i y; rcases y with _ | _ <;> dsimp only))
noncomputable def g135 (a0 : List Int) : Option Int := (if (a0.length : Int) < 3 then some 0 else ((a0[2]?).bind fun x7 => ((a0[1]?).bind fun x8 => ((a0[0]?).bind fun x9 => (if (IntKind.i64.wrap (x7 - x8)) = (IntKind.i64.wrap (x8 - x9)) then ((itO (f135_s1 a0 x8 x9) 3).bind fun y24 => some y24) else some 0)))))
theorem mf135 (a0 : List Int) : Le (g135 a0) (f135 a0) := by
  rw [g135, f135]
  with_reducible repeat' (first | exact Le.refl _ | exact Le.loop (fun _ => Le.refl _) _ | refine Le.bind ?_ (fun _ => ?_) | refine Le.ite ?_ ?_)
noncomputable def gcut_s (l : List Int) (is : Bool) (n : Int) : Option (Int ⊕ Int) :=
  if n = 0 then some (.inl (IntKind.i64.wrap (n + 1))) else if is = true then some (.inr n) else if n < (l.length : Int) then (cutO? l n (l.length : Int)).bind fun tl => (g135 tl).bind fun e => if e = 0 then some (.inl (IntKind.i64.wrap (n + 1))) else some (.inr n) else some (.inr n)
theorem mcut_s (l : List Int) (is : Bool) (n : Int) : Le (gcut_s l is n) (cut_s l is n) := by
  rw [gcut_s, cut_s]
  with_reducible repeat' (first | exact mf135 _ | exact Le.loop (mf135) _ | exact Le.refl _ | exact Le.loop (fun _ => Le.refl _) _ | refine Le.bind ?_ (fun _ => ?_) | refine Le.ite ?_ ?_)
noncomputable def g109_j1 (a1 : Int) : (List Int) × Int × Int → Option (List Int)
  | (j1_0, j1_1, j1_2) => ((itO (f109_s1 a1 j1_1 j1_2) (j1_0, 0)).bind fun y26 => some y26)
theorem mf109_j1 (a1 : Int) : ∀ s, Le (g109_j1 a1 s) (f109_j1 a1 s) := by
  rintro ⟨j1_0, j1_1, j1_2⟩
  rw [g109_j1, f109_j1]
  with_reducible repeat' (first | exact Le.refl _ | exact Le.loop (fun _ => Le.refl _) _ | refine Le.bind ?_ (fun _ => ?_) | refine Le.ite ?_ ?_)
noncomputable def g109 (a0 : List Int) (a1 : Int) : Option (List Int) := ((g132 a1).bind fun x1 => ((f133 a0).bind fun x2 => ((guardO (0 ≤ (IntKind.i64.wrap (9 - x1)))).bind fun x3 => (if x1 = 9 then ((appO? x2 [255]).bind fun x28 => g109_j1 a1 (x28, 8, 0)) else g109_j1 a1 (x2, x1, (shlV .u8 255 (IntKind.i64.wrap (9 - x1)).toNat))))))
theorem mf109 (a0 : List Int) (a1 : Int) : Le (g109 a0 a1) (f109 a0 a1) := by
  rw [g109, f109]
  with_reducible repeat' (first | exact Le.loop (mf109_j1 _) _ | exact mf109_j1 _ _ | exact mf132 _ | exact Le.loop (mf132) _ | exact Le.refl _ | exact Le.loop (fun _ => Le.refl _) _ | refine Le.bind ?_ (fun _ => ?_) | refine Le.ite ?_ ?_)
noncomputable def g108 (a0 : Int) (a1 : List Int) : Option (List Int) := ((g109 a1 (IntKind.u64.wrap a0)).bind fun x1 => some x1)
theorem mf108 (a0 : Int) (a1 : List Int) : Le (g108 a0 a1) (f108 a0 a1) := by
  rw [g108, f108]
  with_reducible repeat' (first | exact mf109 _ _ | exact Le.loop (mf109 _) _ | exact Le.refl _ | exact Le.loop (fun _ => Le.refl _) _ | refine Le.bind ?_ (fun _ => ?_) | refine Le.ite ?_ ?_)
noncomputable def gput_a (run : List Int) (b : List Int) (last : Int) : Option (List Int) := (g108 (IntKind.i64.wrap (IntKind.i64.wrap (2 * (run.length : Int)) + 1)) b).bind fun b1 => (run[0]?).bind fun r0 => (g108 (IntKind.i64.wrap (IntKind.i64.wrap (r0 - last) - 1)) b1).bind fun b2 => (run[1]?).bind fun r1 => g108 (IntKind.i64.wrap (IntKind.i64.wrap (r1 - r0) - 1)) b2
theorem mput_a (run : List Int) (b : List Int) (last : Int) : Le (gput_a run b last) (put_a run b last) := by
  rw [gput_a, put_a]
  with_reducible repeat' (first | exact mf108 _ _ | exact Le.loop (mf108 _) _ | exact Le.refl _ | exact Le.loop (fun _ => Le.refl _) _ | refine Le.bind ?_ (fun _ => ?_) | refine Le.ite ?_ ?_)
noncomputable def gput_s (run : List Int) : Int × List Int × Int → Option ((Int × List Int × Int) ⊕ (List Int × Int))
  | (i, b, last) => if i < (run.length : Int) then (ix run i).bind fun n => (g108 (IntKind.i64.wrap (IntKind.i64.wrap (n - last) - 1)) b).bind fun b1 => some (.inl (IntKind.i64.wrap (i + 1), b1, n)) else some (.inr (b, last))
theorem mput_s (run : List Int) : ∀ s, Le (gput_s run s) (put_s run s) := by
  rintro ⟨i, b, last⟩
  rw [gput_s, put_s]
  with_reducible repeat' (first | exact mf108 _ _ | exact Le.loop (mf108 _) _ | exact Le.refl _ | exact Le.loop (fun _ => Le.refl _) _ | refine Le.bind ?_ (fun _ => ?_) | refine Le.ite ?_ ?_)
noncomputable def gput_b (run : List Int) (b : List Int) (last : Int) : Option (List Int × Int) := (g108 (IntKind.i64.wrap (2 * (run.length : Int))) b).bind fun b1 => itO (gput_s run) (0, b1, last)
theorem mput_b (run : List Int) (b : List Int) (last : Int) : Le (gput_b run b last) (put_b run b last) := by
  rw [gput_b, put_b]
  with_reducible repeat' (first | exact mf108 _ _ | exact Le.loop (mf108 _) _ | exact Le.loop (mput_s _) _ | exact mput_s _ _ | exact Le.refl _ | exact Le.loop (fun _ => Le.refl _) _ | refine Le.bind ?_ (fun _ => ?_) | refine Le.ite ?_ ?_)
noncomputable def gput_r (run : List Int) (is : Bool) (b : List Int) (many last : Int) : Option (List Int × Int × Int) :=
  (if is = true then gput_a run b last else (gput_b run b last).bind fun q => some q.1).bind fun b' => (ix run (IntKind.i64.wrap ((run.length : Int) - 1))).bind fun z => some (b', IntKind.i64.wrap (many + 1), z)
theorem mput_r (run : List Int) (is : Bool) (b : List Int) (many last : Int) : Le (gput_r run is b many last) (put_r run is b many last) := by
  rw [gput_r, put_r]
  with_reducible repeat' (first | exact mput_a _ _ _ | exact Le.loop (mput_a _ _) _ | exact mput_b _ _ _ | exact Le.loop (mput_b _ _) _ | exact Le.refl _ | exact Le.loop (fun _ => Le.refl _) _ | refine Le.bind ?_ (fun _ => ?_) | refine Le.ite ?_ ?_)
noncomputable def gcuts_s : List Int × List Int × Int × Int → Option ((List Int × List Int × Int × Int) ⊕ (List Int × Int × Int × List Int))
  | (l, b, many, last) => if 0 < (l.length : Int) then (g135 l).bind fun n0 => (itO (gcut_s l (decide (0 < n0))) n0).bind fun n => (cutO? l 0 n).bind fun run => (gput_r run (decide (0 < n0)) b many last).bind fun r => (cutO? l n (l.length : Int)).bind fun tl => some (.inl (tl, r.1, r.2.1, r.2.2)) else some (.inr (b, many, last, l))
theorem mcuts_s  : ∀ s, Le (gcuts_s  s) (cuts_s  s) := by
  rintro ⟨l, b, many, last⟩
  rw [gcuts_s, cuts_s]
  with_reducible repeat' (first | exact mcut_s _ _ _ | exact Le.loop (mcut_s _ _) _ | exact mf135 _ | exact Le.loop (mf135) _ | exact mput_r _ _ _ _ _ | exact Le.loop (mput_r _ _ _ _) _ | exact Le.refl _ | exact Le.loop (fun _ => Le.refl _) _ | refine Le.bind ?_ (fun _ => ?_) | refine Le.ite ?_ ?_)
noncomputable def g80 (a0 : List Int) : Option (List Int × Int) := (g58 a0).bind fun ok => (guardO (ok = true)).bind fun _ => (itO gcuts_s (a0, [], 0, -1)).bind fun r => (g109 [] (IntKind.u64.wrap r.2.1)).bind fun h => (appO? h r.1).bind fun o => some (o, 0)
theorem mf80 (a0 : List Int) : Le (g80 a0) (f80 a0) := by
  rw [g80, f80]
  with_reducible repeat' (first | exact Le.loop (mcuts_s) _ | exact mcuts_s _ | exact mf109 _ _ | exact Le.loop (mf109 _) _ | exact mf58 _ | exact Le.loop (mf58) _ | exact Le.refl _ | exact Le.loop (fun _ => Le.refl _) _ | refine Le.bind ?_ (fun _ => ?_) | refine Le.ite ?_ ?_)
noncomputable def g146_j1 (a0 : List Int) (y26 : List Int) : Int → Option ((List Int) × Int)
  | j1_0 => (if j1_0 = 0 then ((g80 y26).bind fun x31 => (if x31.2 = 0 then ((f167 a0 x31.1).bind fun x33 => (if x33 = true then some (y26, 0) else some ([], 3))) else some ([], 3))) else some ([], j1_0))
theorem mf146_j1 (a0 : List Int) (y26 : List Int) : ∀ s, Le (g146_j1 a0 y26 s) (f146_j1 a0 y26 s) := by
  rintro j1_0
  rw [g146_j1, f146_j1]
  with_reducible repeat' (first | exact mf80 _ | exact Le.loop (mf80) _ | exact Le.refl _ | exact Le.loop (fun _ => Le.refl _) _ | refine Le.bind ?_ (fun _ => ?_) | refine Le.ite ?_ ?_)
noncomputable def g165 (a0 : Reader) : Option (Int × Reader) := (if a0.e = 0 then ((g122 a0.b a0.at_).bind fun x3 => some (IntKind.i64.wrap (minI x3.1 1099511627776), ⟨a0.b, x3.2.1, x3.2.2⟩)) else some (0, a0))
theorem mf165 (a0 : Reader) : Le (g165 a0) (f165 a0) := by
  rw [g165, f165]
  with_reducible repeat' (first | exact mf122 _ _ | exact Le.loop (mf122 _) _ | exact Le.refl _ | exact Le.loop (fun _ => Le.refl _) _ | refine Le.bind ?_ (fun _ => ?_) | refine Le.ite ?_ ?_)
noncomputable def g166_s2 (x1 : Int × Reader) : (List Int) × Int × Int × (List Int) × Int → Option (((List Int) × Int × Int × (List Int) × Int) ⊕ ((List Int) × Int × Int × (List Int)))
  | (s2_0, s2_1, s2_2, s2_3, s2_4) => (if s2_4 < (IntKind.i64.wrap (x1.1.tdiv 2)) then (if s2_2 = 0 then ((g165 ⟨s2_0, s2_1, s2_2⟩).bind fun x39 => ((f176 x39.2 s2_3 x39.1).bind fun x40 => some (.inl (x40.2.b, x40.2.at_, x40.2.e, x40.1, IntKind.i64.wrap (s2_4 + 1))))) else some (.inl (s2_0, s2_1, s2_2, s2_3, IntKind.i64.wrap (s2_4 + 1)))) else some (.inr (s2_0, s2_1, s2_2, s2_3)))
theorem mf166_s2 (x1 : Int × Reader) : ∀ s, Le (g166_s2 x1 s) (f166_s2 x1 s) := by
  rintro ⟨s2_0, s2_1, s2_2, s2_3, s2_4⟩
  rw [g166_s2, f166_s2]
  with_reducible repeat' (first | exact mf165 _ | exact Le.loop (mf165) _ | exact Le.refl _ | exact Le.loop (fun _ => Le.refl _) _ | refine Le.bind ?_ (fun _ => ?_) | refine Le.ite ?_ ?_)
noncomputable def g166_j1 (a1 : List Int) (x1 : Int × Reader) : Int → Option ((List Int) × Reader)
  | j1_0 => (if j1_0 = 0 then (if (x1.1.tmod 2) = 0 then ((itO (g166_s2 x1) (x1.2.b, x1.2.at_, j1_0, a1, 0)).bind fun y41 => match y41 with | (y42, y43, y44, y45) => some (y45, ⟨y42, y43, y44⟩)) else ((g165 ⟨x1.2.b, x1.2.at_, j1_0⟩).bind fun x46 => ((g165 x46.2).bind fun x47 => ((itO (f166_s3 x1 x46 x47) (x47.2.b, x47.2.at_, x47.2.e, a1, 0)).bind fun y70 => match y70 with | (y71, y72, y73, y74) => some (y74, ⟨y71, y72, y73⟩))))) else some (a1, ⟨x1.2.b, x1.2.at_, j1_0⟩))
theorem mf166_j1 (a1 : List Int) (x1 : Int × Reader) : ∀ s, Le (g166_j1 a1 x1 s) (f166_j1 a1 x1 s) := by
  rintro j1_0
  rw [g166_j1, f166_j1]
  with_reducible repeat' (first | exact mf165 _ | exact Le.loop (mf165) _ | exact Le.loop (mf166_s2 _) _ | exact mf166_s2 _ _ | exact Le.refl _ | exact Le.loop (fun _ => Le.refl _) _ | refine Le.bind ?_ (fun _ => ?_) | refine Le.ite ?_ ?_ | (rename_i y; rcases y with ⟨_, _, _, _⟩ <;> dsimp only))
noncomputable def g166 (a0 : Reader) (a1 : List Int) : Option ((List Int) × Reader) := ((g165 a0).bind fun x1 => (if 65536 < (IntKind.i64.wrap (x1.1.tdiv 2)) then (if x1.2.e = 0 then g166_j1 a1 x1 9 else g166_j1 a1 x1 x1.2.e) else g166_j1 a1 x1 x1.2.e))
theorem mf166 (a0 : Reader) (a1 : List Int) : Le (g166 a0 a1) (f166 a0 a1) := by
  rw [g166, f166]
  with_reducible repeat' (first | exact mf165 _ | exact Le.loop (mf165) _ | exact Le.loop (mf166_j1 _ _) _ | exact mf166_j1 _ _ _ | exact Le.refl _ | exact Le.loop (fun _ => Le.refl _) _ | refine Le.bind ?_ (fun _ => ?_) | refine Le.ite ?_ ?_)
noncomputable def g146_s2 (x1 : Int × Reader) : (List Int) × Int × Int × (List Int) × Int → Option (((List Int) × Int × Int × (List Int) × Int) ⊕ ((List Int) × Int × Int × (List Int)))
  | (s2_0, s2_1, s2_2, s2_3, s2_4) => (if s2_4 < x1.1 then (if s2_2 = 0 then ((g166 ⟨s2_0, s2_1, s2_2⟩ s2_3).bind fun x21 => some (.inl (x21.2.b, x21.2.at_, x21.2.e, x21.1, IntKind.i64.wrap (s2_4 + 1)))) else some (.inr (s2_0, s2_1, s2_2, s2_3))) else some (.inr (s2_0, s2_1, s2_2, s2_3)))
theorem mf146_s2 (x1 : Int × Reader) : ∀ s, Le (g146_s2 x1 s) (f146_s2 x1 s) := by
  rintro ⟨s2_0, s2_1, s2_2, s2_3, s2_4⟩
  rw [g146_s2, f146_s2]
  with_reducible repeat' (first | exact mf166 _ _ | exact Le.loop (mf166 _) _ | exact Le.refl _ | exact Le.loop (fun _ => Le.refl _) _ | refine Le.bind ?_ (fun _ => ?_) | refine Le.ite ?_ ?_)
noncomputable def g146 (a0 : List Int) : Option ((List Int) × Int) := ((g165 ⟨a0, 0, 0⟩).bind fun x1 => ((itO (g146_s2 x1) (x1.2.b, x1.2.at_, x1.2.e, [], 0)).bind fun y22 => match y22 with | (y23, y24, y25, y26) => (if y25 = 0 then (if y24 < (a0.length : Int) then g146_j1 a0 y26 3 else g146_j1 a0 y26 y25) else g146_j1 a0 y26 y25)))
theorem mf146 (a0 : List Int) : Le (g146 a0) (f146 a0) := by
  rw [g146, f146]
  with_reducible repeat' (first | exact Le.loop (mf146_j1 _ _) _ | exact mf146_j1 _ _ _ | exact Le.loop (mf146_s2 _) _ | exact mf146_s2 _ _ | exact mf165 _ | exact Le.loop (mf165) _ | exact Le.refl _ | exact Le.loop (fun _ => Le.refl _) _ | refine Le.bind ?_ (fun _ => ?_) | refine Le.ite ?_ ?_ | (rename_i y; rcases y with ⟨_, _, _, _⟩ <;> dsimp only))
noncomputable def g123 (a0 : List Int) (a1 : Int) : Option (Res × Int × Int) := ((g145 a0 a1 65536).bind fun x1 => (if x1.2.2 = 0 then ((g145 a0 x1.2.1 65536).bind fun x4 => (if x4.2.2 = 0 then ((g146 (bytesI x4.1)).bind fun x7 => some (⟨x1.1, ⟨#[]⟩, x7.1⟩, x4.2.1, x7.2)) else some (⟨⟨#[]⟩, ⟨#[]⟩, []⟩, 0, x4.2.2))) else some (⟨⟨#[]⟩, ⟨#[]⟩, []⟩, 0, x1.2.2)))
theorem mf123 (a0 : List Int) (a1 : Int) : Le (g123 a0 a1) (f123 a0 a1) := by
  rw [g123, f123]
  with_reducible repeat' (first | exact mf145 _ _ _ | exact Le.loop (mf145 _ _) _ | exact mf146 _ | exact Le.loop (mf146) _ | exact Le.refl _ | exact Le.loop (fun _ => Le.refl _) _ | refine Le.bind ?_ (fun _ => ?_) | refine Le.ite ?_ ?_)
noncomputable def g97_s2 (a0 : List Int) (x1 : Int × Int × Int) : Int × (List Res) × Int → Option ((Int × (List Res) × Int) ⊕ (((List Res) × Int) ⊕ (Int × (List Res))))
  | (s2_0, s2_1, s2_2) => (if s2_2 < x1.1 then ((g123 a0 s2_0).bind fun x35 => (if x35.2.2 = 0 then ((appO? s2_1 [x35.1]).bind fun x37 => some (.inl (x35.2.1, x37, IntKind.u64.wrap (s2_2 + 1)))) else some (.inr (.inl ([], x35.2.2))))) else some (.inr (.inr (s2_0, s2_1))))
theorem mf97_s2 (a0 : List Int) (x1 : Int × Int × Int) : ∀ s, Le (g97_s2 a0 x1 s) (f97_s2 a0 x1 s) := by
  rintro ⟨s2_0, s2_1, s2_2⟩
  rw [g97_s2, f97_s2]
  with_reducible repeat' (first | exact mf123 _ _ | exact Le.loop (mf123 _) _ | exact Le.refl _ | exact Le.loop (fun _ => Le.refl _) _ | refine Le.bind ?_ (fun _ => ?_) | refine Le.ite ?_ ?_)
noncomputable def g97 (a0 : List Int) : Option ((List Res) × Int) := ((g122 a0 0).bind fun x1 => (if x1.2.2 = 0 then (if 65536 < x1.1 then some ([], 9) else ((itO (g97_s2 a0 x1) (x1.2.1, [], 0)).bind fun y38 => match y38 with | .inl y39 => some y39 | .inr (y40, y41) => (if y40 < (a0.length : Int) then some ([], 3) else ((g32 y41).bind fun x43 => (if x43 = true then some (y41, 0) else some ([], 3)))))) else some ([], x1.2.2)))
theorem mf97 (a0 : List Int) : Le (g97 a0) (f97 a0) := by
  rw [g97, f97]
  with_reducible repeat' (first | exact mf122 _ _ | exact Le.loop (mf122 _) _ | exact mf32 _ | exact Le.loop (mf32) _ | exact Le.loop (mf97_s2 _ _) _ | exact mf97_s2 _ _ _ | exact Le.refl _ | exact Le.loop (fun _ => Le.refl _) _ | refine Le.bind ?_ (fun _ => ?_) | refine Le.ite ?_ ?_ | (rename_i y; rcases y with _ | ⟨_, _⟩ <;> dsimp only))
noncomputable def g96_97_j1 (x1 : (List Int) × Int × Int) : Int → Option ((List Res) × Int)
  | j1_0 => (if j1_0 = 0 then ((g97 x1.1).bind fun x5 => some (x5.1, x5.2)) else some ([], j1_0))
theorem mf96_97_j1 (x1 : (List Int) × Int × Int) : ∀ s, Le (g96_97_j1 x1 s) (f96_97_j1 x1 s) := by
  rintro j1_0
  rw [g96_97_j1, f96_97_j1]
  with_reducible repeat' (first | exact mf97 _ | exact Le.loop (mf97) _ | exact Le.refl _ | exact Le.loop (fun _ => Le.refl _) _ | refine Le.bind ?_ (fun _ => ?_) | refine Le.ite ?_ ?_)
noncomputable def g96_97 (a0 : List Int) : Option ((List Res) × Int) := ((g119 a0 0).bind fun x1 => (if x1.2.2 = 0 then (if x1.2.1 < (a0.length : Int) then g96_97_j1 x1 3 else g96_97_j1 x1 x1.2.2) else g96_97_j1 x1 x1.2.2))
theorem mf96_97 (a0 : List Int) : Le (g96_97 a0) (f96_97 a0) := by
  rw [g96_97, f96_97]
  with_reducible repeat' (first | exact mf119 _ _ | exact Le.loop (mf119 _) _ | exact Le.loop (mf96_97_j1 _) _ | exact mf96_97_j1 _ _ | exact Le.refl _ | exact Le.loop (fun _ => Le.refl _) _ | refine Le.bind ?_ (fun _ => ?_) | refine Le.ite ?_ ?_)
noncomputable def g56 (a0 : List Int) (a1 : List Int) : Option ((List Res) × Int) := ((g94_95 a0).bind fun x1 => (if x1.2 = 0 then ((g96_97 a1).bind fun x4 => (if x4.2 = 0 then (if ((x1.1.length : Nat) : Int) = ((x4.1.length : Nat) : Int) then ((itO (f56_s1 x1) (x4.1, 0)).bind fun y27 => match y27 with | .inl y28 => some y28 | .inr y29 => some (y29, 0)) else some ([], 3)) else some ([], x4.2))) else some ([], x1.2)))
theorem mf56 (a0 : List Int) (a1 : List Int) : Le (g56 a0 a1) (f56 a0 a1) := by
  rw [g56, f56]
  with_reducible repeat' (first | exact mf94_95 _ | exact Le.loop (mf94_95) _ | exact mf96_97 _ | exact Le.loop (mf96_97) _ | exact Le.refl _ | exact Le.loop (fun _ => Le.refl _) _ | refine Le.bind ?_ (fun _ => ?_) | refine Le.ite ?_ ?_ | (rename_i y; rcases y with _ | _ <;> dsimp only))
noncomputable def g30_s1 (a0 : List (A2 (List Int))) : (List (List Res)) × Int → Option (((List (List Res)) × Int) ⊕ (((List Res) × Er) ⊕ (List (List Res))))
  | (s1_0, s1_1) => (if s1_1 < (a0.length : Int) then ((ix a0 s1_1).bind fun x19 => ((g56 x19.e0 x19.e1).bind fun x20 => (if x20.2 = 0 then ((appO? s1_0 [x20.1]).bind fun x22 => some (.inl (x22, IntKind.i64.wrap (s1_1 + 1)))) else ((f33 ⟨#[112, 97, 114, 116]⟩ s1_1 x20.2).bind fun x23 => some (.inr (.inl ([], x23))))))) else some (.inr (.inr s1_0)))
theorem mf30_s1 (a0 : List (A2 (List Int))) : ∀ s, Le (g30_s1 a0 s) (f30_s1 a0 s) := by
  rintro ⟨s1_0, s1_1⟩
  rw [g30_s1, f30_s1]
  with_reducible repeat' (first | exact mf56 _ _ | exact Le.loop (mf56 _) _ | exact Le.refl _ | exact Le.loop (fun _ => Le.refl _) _ | refine Le.bind ?_ (fun _ => ?_) | refine Le.ite ?_ ?_)
noncomputable def g72 (a0 : List (List Res)) : Option (List Res) := ((itO (f72_s2 a0) (0, 0)).bind fun y29 => ((f104 [] y29).bind fun x30 => ((itO (f72_s3 a0) (x30, 0)).bind fun y47 => some y47)))
theorem mf72 (a0 : List (List Res)) : Le (g72 a0) (f72 a0) := by
  rw [g72, f72]
  with_reducible repeat' (first | exact Le.refl _ | exact Le.loop (fun _ => Le.refl _) _ | refine Le.bind ?_ (fun _ => ?_) | refine Le.ite ?_ ?_)
noncomputable def g129_75_s1 (a1 : Int) (a2 : Int) : (List Res) × Int → Option (((List Res) × Int) ⊕ (List Res))
  | (s1_0, s1_1) => (if s1_1 < a2 then ((itO (f129_75_s4 a1) (s1_0, s1_1)).bind fun y89 => some (.inl (y89, IntKind.i64.wrap (s1_1 + 1)))) else some (.inr s1_0))
theorem mf129_75_s1 (a1 : Int) (a2 : Int) : ∀ s, Le (g129_75_s1 a1 a2 s) (f129_75_s1 a1 a2 s) := by
  rintro ⟨s1_0, s1_1⟩
  rw [g129_75_s1, f129_75_s1]
  with_reducible repeat' (first | exact Le.refl _ | exact Le.loop (fun _ => Le.refl _) _ | refine Le.bind ?_ (fun _ => ?_) | refine Le.ite ?_ ?_)
noncomputable def g129_75 (a0 : List Res) (a1 : Int) (a2 : Int) : Option (List Res) := ((itO (g129_75_s1 a1 a2) (a0, IntKind.i64.wrap (a1 + 1))).bind fun y91 => some y91)
theorem mf129_75 (a0 : List Res) (a1 : Int) (a2 : Int) : Le (g129_75 a0 a1 a2) (f129_75 a0 a1 a2) := by
  rw [g129_75, f129_75]
  with_reducible repeat' (first | exact Le.loop (mf129_75_s1 _ _) _ | exact mf129_75_s1 _ _ _ | exact Le.refl _ | exact Le.loop (fun _ => Le.refl _) _ | refine Le.bind ?_ (fun _ => ?_) | refine Le.ite ?_ ?_)
noncomputable def g105_75_s2 (a1 : Int) : (List Res) × Int × Int → Option (((List Res) × Int × Int) ⊕ (Int × (List Res)))
  | (s2_0, s2_1, s2_2) => (if s2_2 ≤ a1 then ((g129_75 s2_0 s2_1 s2_2).bind fun x22 => ((guardO (x22.length = s2_0.length)).bind fun x23 => some (.inl (x22, s2_2, IntKind.i64.wrap (s2_2 + 20))))) else some (.inr (s2_1, s2_0)))
theorem mf105_75_s2 (a1 : Int) : ∀ s, Le (g105_75_s2 a1 s) (f105_75_s2 a1 s) := by
  rintro ⟨s2_0, s2_1, s2_2⟩
  rw [g105_75_s2, f105_75_s2]
  with_reducible repeat' (first | exact mf129_75 _ _ _ | exact Le.loop (mf129_75 _ _) _ | exact Le.refl _ | exact Le.loop (fun _ => Le.refl _) _ | refine Le.bind ?_ (fun _ => ?_) | refine Le.ite ?_ ?_)
noncomputable def g105_75_s3 (a1 : Int) : (List Res) × Int → Option (((List Res) × Int) ⊕ (List Res))
  | (s3_0, s3_1) => (if s3_1 < a1 then ((itO (f105_75_s9 a1 s3_1) (s3_0, 0, IntKind.i64.wrap (2 * s3_1))).bind fun y108 => match y108 with | (y109, y110) => (if (IntKind.i64.wrap (y109 + s3_1)) < a1 then ((f130_75 fuel y110 y109 (IntKind.i64.wrap (y109 + s3_1)) a1).bind fun x112 => ((guardO (x112.length = y110.length)).bind fun x113 => some (.inl (x112, IntKind.i64.wrap (s3_1 * 2))))) else some (.inl (y110, IntKind.i64.wrap (s3_1 * 2))))) else some (.inr s3_0))
theorem mf105_75_s3 (a1 : Int) : ∀ s, Le (g105_75_s3 a1 s) (f105_75_s3 a1 s) := by
  rintro ⟨s3_0, s3_1⟩
  rw [g105_75_s3, f105_75_s3]
  with_reducible repeat' (first | exact Le.refl _ | exact Le.loop (fun _ => Le.refl _) _ | refine Le.bind ?_ (fun _ => ?_) | refine Le.ite ?_ ?_ | (rename_i y; rcases y with ⟨_, _⟩ <;> dsimp only))
noncomputable def g105_75 (a0 : List Res) (a1 : Int) : Option (List Res) := ((itO (g105_75_s2 a1) (a0, 0, 20)).bind fun y24 => match y24 with | (y25, y26) => ((g129_75 y26 y25 a1).bind fun x27 => ((guardO (x27.length = y26.length)).bind fun x28 => ((itO (g105_75_s3 a1) (x27, 20)).bind fun y115 => some y115))))
theorem mf105_75 (a0 : List Res) (a1 : Int) : Le (g105_75 a0 a1) (f105_75 a0 a1) := by
  rw [g105_75, f105_75]
  with_reducible repeat' (first | exact Le.loop (mf105_75_s2 _) _ | exact mf105_75_s2 _ _ | exact Le.loop (mf105_75_s3 _) _ | exact mf105_75_s3 _ _ | exact mf129_75 _ _ _ | exact Le.loop (mf129_75 _ _) _ | exact Le.refl _ | exact Le.loop (fun _ => Le.refl _) _ | refine Le.bind ?_ (fun _ => ?_) | refine Le.ite ?_ ?_ | (rename_i y; rcases y with ⟨_, _⟩ <;> dsimp only))
noncomputable def g74_75 (a0 : List Res) : Option (List Res) := ((g105_75 a0 ((a0.length : Nat) : Int)).bind fun x1 => ((guardO (x1.length = a0.length)).bind fun x2 => some x1))
theorem mf74_75 (a0 : List Res) : Le (g74_75 a0) (f74_75 a0) := by
  rw [g74_75, f74_75]
  with_reducible repeat' (first | exact mf105_75 _ _ | exact Le.loop (mf105_75 _) _ | exact Le.refl _ | exact Le.loop (fun _ => Le.refl _) _ | refine Le.bind ?_ (fun _ => ?_) | refine Le.ite ?_ ?_)
noncomputable def g43 (a0 : List (List Res)) : Option (List Res) := ((g72 a0).bind fun x1 => ((itO (f43_s1 x1) (x1, 0)).bind fun y18 => ((g74_75 y18).bind fun x19 => ((guardO (x19.length = y18.length)).bind fun x20 => some x19))))
theorem mf43 (a0 : List (List Res)) : Le (g43 a0) (f43 a0) := by
  rw [g43, f43]
  with_reducible repeat' (first | exact mf72 _ | exact Le.loop (mf72) _ | exact mf74_75 _ | exact Le.loop (mf74_75) _ | exact Le.refl _ | exact Le.loop (fun _ => Le.refl _) _ | refine Le.bind ?_ (fun _ => ?_) | refine Le.ite ?_ ?_)
noncomputable def g30 (a0 : List (A2 (List Int))) : Option ((List Res) × Er) := ((itO (g30_s1 a0) ([], 0)).bind fun y24 => match y24 with | .inl y25 => some y25 | .inr y26 => ((g43 y26).bind fun x27 => some (x27, Er.nil)))
theorem mf30 (a0 : List (A2 (List Int))) : Le (g30 a0) (f30 a0) := by
  rw [g30, f30]
  with_reducible repeat' (first | exact Le.loop (mf30_s1 _) _ | exact mf30_s1 _ _ | exact mf43 _ | exact Le.loop (mf43) _ | exact Le.refl _ | exact Le.loop (fun _ => Le.refl _) _ | refine Le.bind ?_ (fun _ => ?_) | refine Le.ite ?_ ?_ | (rename_i y; rcases y with _ | _ <;> dsimp only))
noncomputable def g57 (a0 : List Int) : Option (List Record × Int × Int) := (guardO (a0.length ≤ 1048576)).bind fun _ => (itO (lines_s a0) (0, [])).bind fun l => some (l, (a0.length : Int), 0)
theorem mf57 (a0 : List Int) : Le (g57 a0) (f57 a0) := by
  rw [g57, f57]
  with_reducible repeat' (first | exact Le.refl _ | exact Le.loop (fun _ => Le.refl _) _ | refine Le.bind ?_ (fun _ => ?_) | refine Le.ite ?_ ?_)
noncomputable def g31 (a0 : List Int) : Option ((List Int) × Er) := ((g57 a0).bind fun x1 => (if x1.2.2 = 0 then ((itO (f31_s1 x1) ([], 0)).bind fun y18 => some (y18, Er.nil)) else ((f33 ⟨#[105, 110, 112, 117, 116]⟩ 0 x1.2.2).bind fun x19 => some ([], x19))))
theorem mf31 (a0 : List Int) : Le (g31 a0) (f31 a0) := by
  rw [g31, f31]
  with_reducible repeat' (first | exact mf57 _ | exact Le.loop (mf57) _ | exact Le.refl _ | exact Le.loop (fun _ => Le.refl _) _ | refine Le.bind ?_ (fun _ => ?_) | refine Le.ite ?_ ?_)
noncomputable def g62_35 (a0 : List Int) (c1_0 : List Int) : Option Int := ((itO (f62_35_s1 a0 c1_0) 0).bind fun y19 => match y19 with | .inl y20 => some y20 | .inr _ => some (-1))
theorem mf62_35 (a0 : List Int) (c1_0 : List Int) : Le (g62_35 a0 c1_0) (f62_35 a0 c1_0) := by
  rw [g62_35, f62_35]
  with_reducible repeat' (first | exact Le.refl _ | exact Le.loop (fun _ => Le.refl _) _ | refine Le.bind ?_ (fun _ => ?_) | refine Le.ite ?_ ?_ | (rename_i y; rcases y with _ | _ <;> dsimp only))
noncomputable def g34_35 (a0 : List Int) (c1_0 : List Int) : Option Bool := ((g62_35 a0 c1_0).bind fun x1 => some (decide (0 ≤ x1)))
theorem mf34_35 (a0 : List Int) (c1_0 : List Int) : Le (g34_35 a0 c1_0) (f34_35 a0 c1_0) := by
  rw [g34_35, f34_35]
  with_reducible repeat' (first | exact mf62_35 _ _ | exact Le.loop (mf62_35 _) _ | exact Le.refl _ | exact Le.loop (fun _ => Le.refl _) _ | refine Le.bind ?_ (fun _ => ?_) | refine Le.ite ?_ ?_)
noncomputable def g8_s2 (x1 : (List Res) × Er) (x4 : (List Int) × Er) : Int → Option (Int ⊕ (((Option Trace) × Er) ⊕ Unit))
  | s2_0 => (if s2_0 < ((x1.1.length : Nat) : Int) then ((ix x1.1 s2_0).bind fun x36 => ((g34_35 x36.Offs x4.1).bind fun x37 => (if x37 = true then ((f33 ⟨#[107, 101, 121]⟩ s2_0 320).bind fun x39 => some (.inr (.inl (none, x39)))) else some (.inl (IntKind.i64.wrap (s2_0 + 1)))))) else some (.inr (.inr ())))
theorem mf8_s2 (x1 : (List Res) × Er) (x4 : (List Int) × Er) : ∀ s, Le (g8_s2 x1 x4 s) (f8_s2 x1 x4 s) := by
  rintro s2_0
  rw [g8_s2, f8_s2]
  with_reducible repeat' (first | exact mf34_35 _ _ | exact Le.loop (mf34_35 _) _ | exact Le.refl _ | exact Le.loop (fun _ => Le.refl _) _ | refine Le.bind ?_ (fun _ => ?_) | refine Le.ite ?_ ?_)
noncomputable def g8 (a0 : List (A2 (List Int))) (a1 : List Int) : Option ((Option Trace) × Er) := ((g30 a0).bind fun x1 => (if (Er.isNil x1.2) = true then ((g31 a1).bind fun x4 => (if (Er.isNil x4.2) = true then ((g32 x1.1).bind fun x10 => (if x10 = true then ((itO (g8_s2 x1 x4) 0).bind fun y40 => match y40 with | .inl y41 => some y41 | .inr _ => some ((some ⟨x1.1, x4.1⟩), Er.nil)) else ((f33 ⟨#[106, 111, 105, 110]⟩ 0 3).bind fun x42 => some (none, x42)))) else some (none, x4.2))) else some (none, x1.2)))
theorem mf8 (a0 : List (A2 (List Int))) (a1 : List Int) : Le (g8 a0 a1) (f8 a0 a1) := by
  rw [g8, f8]
  with_reducible repeat' (first | exact mf30 _ | exact Le.loop (mf30) _ | exact mf31 _ | exact Le.loop (mf31) _ | exact mf32 _ | exact Le.loop (mf32) _ | exact Le.loop (mf8_s2 _ _) _ | exact mf8_s2 _ _ _ | exact Le.refl _ | exact Le.loop (fun _ => Le.refl _) _ | refine Le.bind ?_ (fun _ => ?_) | refine Le.ite ?_ ?_ | (rename_i y; rcases y with _ | _ <;> dsimp only))
noncomputable def g7 : Option Bool := ((g29 [⟨⟨#[120]⟩, ⟨#[50]⟩, [0, 4]⟩, ⟨⟨#[121]⟩, ⟨#[49]⟩, [0]⟩]).bind fun x1 => ((g8 x1 [120, 32, 121, 10, 120, 10]).bind fun x2 => (match x2 with | (none, e3) => (if (Er.isNil e3) = true then some false else some false) | (some b4, e3) => (if (Er.isNil e3) = true then ((g19 b4 4).bind fun x9 => ((g19 x9.2.2 1).bind fun x10 => ((g18 x10.2.2 ⟨#[120]⟩).bind fun x11 => ((g21 x11.1 [0, 4]).bind fun x12 => (if x12 = true then (if (Er.isNil x9.2.1) = true then ((g22 x9.1 [⟨#[120]⟩]).bind fun x15 => (if x15 = true then ((f10 x10.2.1).bind fun x17 => some (decide (x17 = 320))) else some false)) else some false) else some false))))) else some false))))
theorem mf7  : Le (g7 ) (f7 ) := by
  rw [g7, f7]
  with_reducible repeat' (first | exact mf18 _ _ | exact Le.loop (mf18 _) _ | exact mf19 _ _ | exact Le.loop (mf19 _) _ | exact mf21 _ _ | exact Le.loop (mf21 _) _ | exact mf22 _ _ | exact Le.loop (mf22 _) _ | exact mf29 _ | exact Le.loop (mf29) _ | exact mf8 _ _ | exact Le.loop (mf8 _) _ | exact Le.refl _ | exact Le.loop (fun _ => Le.refl _) _ | refine Le.bind ?_ (fun _ => ?_) | refine Le.ite ?_ ?_ | (rename_i y; rcases y with ⟨_ | _, _⟩ <;> dsimp only))
end Au
end Go.Proofs.Yt

set_option linter.all false
namespace Go.Proofs.Yt
open Go.Gm
namespace Au
theorem g7_true : g7 = some true := by kernel_rfl
theorem f7_true : f7 = some true := mf7 _ g7_true
end Au
end Go.Proofs.Yt

set_option linter.all false
set_option maxRecDepth 8000
set_option maxHeartbeats 1000000
namespace Go.Proofs.Yt
open Go.Gm
namespace Au
noncomputable def f16_nil (a1 : ByteArray) : Option (ByteArray × Er) := ((f44 7).bind fun x2 => some (⟨#[]⟩, x2))
theorem ok16_nil (a1 : ByteArray) (r : ByteArray × Er) (h : f16_nil a1 = some r) : PC Tryz.prog 16 [.val (.pointer none), .val (.string a1)] (.tup [.val (.string r.1), .val (erV r.2)]) := by
 rw [f16_nil] at h
 refine pc_of8 (N := 25) (rs := [.tmp 4, .tmp 5]) Tryz.func16 rfl rfl rfl (Nat.le_of_ble_eq_true rfl) ?_
 refine AW.rX [0, 1] ?_
 refine AW.seq ?_
 refine AW.rX [0, 1, 9] ?_
 refine AW.ifBT rfl rfl ?_
 obtain ⟨x2, hx2, h⟩ := Option.bind_eq_some_iff.1 h
 refine AW.regL [4, 5] ?_
 generalize hK : AW Tryz.prog _ _ _ = K
 simp only [go_sem, ↓reduceIte, reduceCtorEq, Nat.reduceAdd, Nat.reduceSub, Nat.reduceMul, Nat.reduceEqDiff, Nat.reduceLT, Nat.reduceLeDiff]
 refine arC.of (ok44 7 x2 hx2) Tryz.call44 ?_
 simp only [go_sem, ↓reduceIte, reduceCtorEq, Nat.reduceAdd, Nat.reduceSub, Nat.reduceMul, Nat.reduceEqDiff, Nat.reduceLT, Nat.reduceLeDiff]
 subst hK
 refine AW.ret ?_
 refine thenA_r ?_
 obtain rfl := Option.some.inj h
 (simp only [go_sem, ↓reduceIte, reduceCtorEq, Nat.reduceAdd, Nat.reduceSub, Nat.reduceMul, Nat.reduceEqDiff, Nat.reduceLT, Nat.reduceLeDiff, finA] <;> try simp)
end Au
end Go.Proofs.Yt

set_option linter.all false
set_option maxRecDepth 8000
set_option maxHeartbeats 1000000
namespace Go.Proofs.Yt
open Go.Gm
namespace Au
noncomputable def f19_nil (a1 : Int) : Option ((List ByteArray) × Er) := ((f44 7).bind fun x2 => some ([], x2))
theorem ok19_nil (a1 : Int) (r : (List ByteArray) × Er) (h : f19_nil a1 = some r) : PC Tryz.prog 19 [.val (.pointer none), .val (.int .i64 a1)] (.tup [.sl (List.map enc9 r.1), .val (erV r.2)]) := by
 rw [f19_nil] at h
 refine pc_of8 (N := 23) (rs := [.tmp 4, .tmp 5]) Tryz.func19 rfl rfl rfl (Nat.le_of_ble_eq_true rfl) ?_
 refine AW.rX [0, 1] ?_
 refine AW.seq ?_
 refine AW.rX [0, 1, 7] ?_
 refine AW.ifBT rfl rfl ?_
 obtain ⟨x2, hx2, h⟩ := Option.bind_eq_some_iff.1 h
 refine AW.regL [4, 5] ?_
 generalize hK : AW Tryz.prog _ _ _ = K
 simp only [go_sem, ↓reduceIte, reduceCtorEq, Nat.reduceAdd, Nat.reduceSub, Nat.reduceMul, Nat.reduceEqDiff, Nat.reduceLT, Nat.reduceLeDiff]
 refine arC.of (ok44 7 x2 hx2) Tryz.call44 ?_
 simp only [go_sem, ↓reduceIte, reduceCtorEq, Nat.reduceAdd, Nat.reduceSub, Nat.reduceMul, Nat.reduceEqDiff, Nat.reduceLT, Nat.reduceLeDiff]
 subst hK
 refine AW.ent (Ent.w (FrW.put1 (d := 4) Weak.nil)) ?_
 refine AW.ret ?_
 refine thenA_r ?_
 obtain rfl := Option.some.inj h
 (simp only [go_sem, ↓reduceIte, reduceCtorEq, Nat.reduceAdd, Nat.reduceSub, Nat.reduceMul, Nat.reduceEqDiff, Nat.reduceLT, Nat.reduceLeDiff, finA] <;> try simp)
end Au
end Go.Proofs.Yt

set_option linter.all false
set_option maxRecDepth 8000
set_option maxHeartbeats 1000000
namespace Go.Proofs.Yt
open Go.Gm
namespace Au
noncomputable def f25_nil : Option ((List Int) × Er) := ((f44 7).bind fun x2 => some ([], x2))
theorem ok25_nil (r : (List Int) × Er) (h : f25_nil = some r) : PC Tryz.prog 25 [.val (.pointer none)] (.tup [.sl (List.map enc5 r.1), .val (erV r.2)]) := by
 rw [f25_nil] at h
 refine pc_of8 (N := 21) (rs := [.tmp 2, .tmp 3]) Tryz.func25 rfl rfl rfl (Nat.le_of_ble_eq_true rfl) ?_
 refine AW.rX [0] ?_
 refine AW.seq ?_
 refine AW.rX [0, 7] ?_
 refine AW.ifBT rfl rfl ?_
 obtain ⟨x2, hx2, h⟩ := Option.bind_eq_some_iff.1 h
 refine AW.regL [2, 3] ?_
 generalize hK : AW Tryz.prog _ _ _ = K
 simp only [go_sem, ↓reduceIte, reduceCtorEq, Nat.reduceAdd, Nat.reduceSub, Nat.reduceMul, Nat.reduceEqDiff, Nat.reduceLT, Nat.reduceLeDiff]
 refine arC.of (ok44 7 x2 hx2) Tryz.call44 ?_
 simp only [go_sem, ↓reduceIte, reduceCtorEq, Nat.reduceAdd, Nat.reduceSub, Nat.reduceMul, Nat.reduceEqDiff, Nat.reduceLT, Nat.reduceLeDiff]
 subst hK
 refine AW.ent (Ent.w (FrW.put1 (d := 2) Weak.nil)) ?_
 refine AW.ret ?_
 refine thenA_r ?_
 obtain rfl := Option.some.inj h
 (simp only [go_sem, ↓reduceIte, reduceCtorEq, Nat.reduceAdd, Nat.reduceSub, Nat.reduceMul, Nat.reduceEqDiff, Nat.reduceLT, Nat.reduceLeDiff, finA] <;> try simp)
end Au
end Go.Proofs.Yt

set_option linter.all false
set_option maxRecDepth 8000
set_option maxHeartbeats 1000000
namespace Go.Proofs.Yt
open Go.Gm
namespace Au
noncomputable def f26_nil : Option (List ByteArray) := some []
theorem ok26_nil (r : (List ByteArray)) (h : f26_nil = some r) : PC Tryz.prog 26 [.val (.pointer none)] (.sl (List.map enc9 r)) := by
 rw [f26_nil] at h
 refine pc_of8 (N := 24) (rs := [.tmp 2]) Tryz.func26 rfl rfl rfl (Nat.le_of_ble_eq_true rfl) ?_
 refine AW.rX [0] ?_
 refine AW.seq ?_
 refine AW.rX [0, 7] ?_
 refine AW.ifBT rfl rfl ?_
 refine AW.rX [2] ?_
 refine AW.ent (Ent.w (FrW.put1 (d := 2) Weak.nil)) ?_
 refine AW.ret ?_
 refine thenA_r ?_
 obtain rfl := Option.some.inj h
 (simp only [go_sem, ↓reduceIte, reduceCtorEq, Nat.reduceAdd, Nat.reduceSub, Nat.reduceMul, Nat.reduceEqDiff, Nat.reduceLT, Nat.reduceLeDiff, finA] <;> try simp)
end Au
end Go.Proofs.Yt

set_option linter.all false
set_option maxRecDepth 8000
set_option maxHeartbeats 1000000
namespace Go.Proofs.Yt
open Go.Gm
namespace Au
noncomputable def f18_nil (a1 : ByteArray) : Option (List Int) := some []
theorem ok18_nil (a1 : ByteArray) (r : (List Int)) (h : f18_nil a1 = some r) : PC Tryz.prog 18 [.val (.pointer none), .val (.string a1)] (.sl (List.map enc3 r)) := by
 rw [f18_nil] at h
 refine pc_of8 (N := 13) (rs := [.tmp 4]) Tryz.func18 rfl rfl rfl (Nat.le_of_ble_eq_true rfl) ?_
 refine AW.rX [0, 1] ?_
 refine AW.seq ?_
 refine AW.rX [0, 1, 6] ?_
 refine AW.ifBT rfl rfl ?_
 refine AW.rX [4] ?_
 refine AW.ent (Ent.w (FrW.put1 (d := 4) Weak.nil)) ?_
 refine AW.ret ?_
 refine thenA_r ?_
 obtain rfl := Option.some.inj h
 (simp only [go_sem, ↓reduceIte, reduceCtorEq, Nat.reduceAdd, Nat.reduceSub, Nat.reduceMul, Nat.reduceEqDiff, Nat.reduceLT, Nat.reduceLeDiff, finA] <;> try simp)
end Au
end Go.Proofs.Yt

set_option linter.all false
set_option maxRecDepth 8000
set_option maxHeartbeats 1000000
namespace Go.Proofs.Yt
open Go.Gm
namespace Au
noncomputable def f14_nil : Option (List Res) := some []
theorem ok14_nil (r : (List Res)) (h : f14_nil = some r) : PC Tryz.prog 14 [.val (.pointer none)] (.sl (List.map encRes r)) := by
 rw [f14_nil] at h
 refine pc_of8 (N := 11) (rs := [.tmp 2]) Tryz.func14 rfl rfl rfl (Nat.le_of_ble_eq_true rfl) ?_
 refine AW.rX [0] ?_
 refine AW.seq ?_
 refine AW.rX [0, 4] ?_
 refine AW.ifBT rfl rfl ?_
 refine AW.rX [2] ?_
 refine AW.ent (Ent.w (FrW.put1 (d := 2) Weak.nil)) ?_
 refine AW.ret ?_
 refine thenA_r ?_
 obtain rfl := Option.some.inj h
 (simp only [go_sem, ↓reduceIte, reduceCtorEq, Nat.reduceAdd, Nat.reduceSub, Nat.reduceMul, Nat.reduceEqDiff, Nat.reduceLT, Nat.reduceLeDiff, finA] <;> try simp)
end Au
end Go.Proofs.Yt

set_option linter.all false
set_option maxRecDepth 8000
set_option maxHeartbeats 1000000
namespace Go.Proofs.Yt
open Go.Gm
namespace Au
noncomputable def f5 (a0 : ByteArray) (a1 : Int) : Option Bool := ((f16_nil a0).bind fun x1 => ((f19_nil a1).bind fun x2 => ((f25_nil ).bind fun x3 => (if x1.1 = ⟨#[]⟩ then ((f26_nil ).bind fun x5 => ((f18_nil a0).bind fun x6 => ((f14_nil ).bind fun x7 => (if (IntKind.i64.wrap ((IntKind.i64.wrap ((IntKind.i64.wrap ((IntKind.i64.wrap ((x2.1.length : Int) + (x3.1.length : Int))) + (x5.length : Int))) + (x6.length : Int))) + (x7.length : Int))) = 0 then ((f10 x1.2).bind fun x9 => (if x9 = 7 then ((f10 x2.2).bind fun x11 => (if x11 = 7 then ((f10 x3.2).bind fun x13 => (if x13 = 7 then ((f7 ).bind fun x15 => some x15) else some false)) else some false)) else some false)) else some false)))) else some false))))
theorem ok5 (a0 : ByteArray) (a1 : Int) (r : Bool) (h : f5 a0 a1 = some r) : PC Tryz.prog 5 [.val (.string a0), .val (.int .i64 a1)] (.val (.bool r)) := by
 rw [f5] at h
 refine pc_of8 (N := 70) (rs := [.tmp 4]) Tryz.func5 rfl rfl rfl (Nat.le_of_ble_eq_true rfl) ?_
 refine AW.regL [0, 1] ?_
 generalize hK : AW Tryz.prog _ _ _ = K
 simp only [go_sem, ↓reduceIte, reduceCtorEq, Nat.reduceAdd, Nat.reduceSub, Nat.reduceMul, Nat.reduceEqDiff, Nat.reduceLT, Nat.reduceLeDiff]
 subst hK
 refine AW.regL [0, 1, 5] ?_
 generalize hK : AW Tryz.prog _ _ _ = K
 simp only [go_sem, ↓reduceIte, reduceCtorEq, Nat.reduceAdd, Nat.reduceSub, Nat.reduceMul, Nat.reduceEqDiff, Nat.reduceLT, Nat.reduceLeDiff]
 subst hK
 obtain ⟨x1, hx1, h⟩ := Option.bind_eq_some_iff.1 h
 refine AW.regL [0, 1, 5, 6, 7] ?_
 generalize hK : AW Tryz.prog _ _ _ = K
 simp only [go_sem, ↓reduceIte, reduceCtorEq, Nat.reduceAdd, Nat.reduceSub, Nat.reduceMul, Nat.reduceEqDiff, Nat.reduceLT, Nat.reduceLeDiff]
 refine arC.of (ok16_nil a0 x1 hx1) Tryz.call16 ?_
 simp only [go_sem, ↓reduceIte, reduceCtorEq, Nat.reduceAdd, Nat.reduceSub, Nat.reduceMul, Nat.reduceEqDiff, Nat.reduceLT, Nat.reduceLeDiff]
 subst hK
 obtain ⟨x2, hx2, h⟩ := Option.bind_eq_some_iff.1 h
 refine AW.regL [0, 5, 6, 7, 8, 9] ?_
 generalize hK : AW Tryz.prog _ _ _ = K
 simp only [go_sem, ↓reduceIte, reduceCtorEq, Nat.reduceAdd, Nat.reduceSub, Nat.reduceMul, Nat.reduceEqDiff, Nat.reduceLT, Nat.reduceLeDiff]
 refine arC.of (ok19_nil a1 x2 hx2) Tryz.call19 ?_
 simp only [go_sem, ↓reduceIte, reduceCtorEq, Nat.reduceAdd, Nat.reduceSub, Nat.reduceMul, Nat.reduceEqDiff, Nat.reduceLT, Nat.reduceLeDiff]
 subst hK
 obtain ⟨x3, hx3, h⟩ := Option.bind_eq_some_iff.1 h
 refine AW.regL [0, 5, 6, 7, 8, 9, 10, 11] ?_
 generalize hK : AW Tryz.prog _ _ _ = K
 simp only [go_sem, ↓reduceIte, reduceCtorEq, Nat.reduceAdd, Nat.reduceSub, Nat.reduceMul, Nat.reduceEqDiff, Nat.reduceLT, Nat.reduceLeDiff]
 refine arC.of (ok25_nil  x3 hx3) Tryz.call25 ?_
 simp only [go_sem, ↓reduceIte, reduceCtorEq, Nat.reduceAdd, Nat.reduceSub, Nat.reduceMul, Nat.reduceEqDiff, Nat.reduceLT, Nat.reduceLeDiff]
 subst hK
 by_cases c4 : x1.1 = ⟨#[]⟩
 ·rw [if_pos c4] at h
  obtain ⟨x5, hx5, h⟩ := Option.bind_eq_some_iff.1 h
  obtain ⟨x6, hx6, h⟩ := Option.bind_eq_some_iff.1 h
  obtain ⟨x7, hx7, h⟩ := Option.bind_eq_some_iff.1 h
  by_cases c8 : (IntKind.i64.wrap ((IntKind.i64.wrap ((IntKind.i64.wrap ((IntKind.i64.wrap ((x2.1.length : Int) + (x3.1.length : Int))) + (x5.length : Int))) + (x6.length : Int))) + (x7.length : Int))) = 0
  ·rw [if_pos c8] at h
   obtain ⟨x9, hx9, h⟩ := Option.bind_eq_some_iff.1 h
   by_cases c10 : x9 = 7
   ·rw [if_pos c10] at h
    obtain ⟨x11, hx11, h⟩ := Option.bind_eq_some_iff.1 h
    by_cases c12 : x11 = 7
    ·rw [if_pos c12] at h
     obtain ⟨x13, hx13, h⟩ := Option.bind_eq_some_iff.1 h
     by_cases c14 : x13 = 7
     ·rw [if_pos c14] at h
      obtain ⟨x15, hx15, h⟩ := Option.bind_eq_some_iff.1 h
      refine AW.regL [4] ?_
      generalize hK : AW Tryz.prog _ _ _ = K
      simp only [go_sem, ↓reduceIte, reduceCtorEq, Nat.reduceAdd, Nat.reduceSub, Nat.reduceMul, Nat.reduceEqDiff, Nat.reduceLT, Nat.reduceLeDiff, eq_true c4, eq_true c8, eq_true c10, eq_true c12, eq_true c14]
      refine arC.of (ok26_nil  x5 hx5) Tryz.call26 ?_
      simp only [go_sem, ↓reduceIte, reduceCtorEq, Nat.reduceAdd, Nat.reduceSub, Nat.reduceMul, Nat.reduceEqDiff, Nat.reduceLT, Nat.reduceLeDiff, eq_true c4, eq_true c8, eq_true c10, eq_true c12, eq_true c14]
      refine arC.of (ok18_nil a0 x6 hx6) Tryz.call18 ?_
      simp only [go_sem, ↓reduceIte, reduceCtorEq, Nat.reduceAdd, Nat.reduceSub, Nat.reduceMul, Nat.reduceEqDiff, Nat.reduceLT, Nat.reduceLeDiff, eq_true c4, eq_true c8, eq_true c10, eq_true c12, eq_true c14]
      refine arC.of (ok14_nil  x7 hx7) Tryz.call14 ?_
      simp only [go_sem, ↓reduceIte, reduceCtorEq, Nat.reduceAdd, Nat.reduceSub, Nat.reduceMul, Nat.reduceEqDiff, Nat.reduceLT, Nat.reduceLeDiff, eq_true c4, eq_true c8, eq_true c10, eq_true c12, eq_true c14]
      refine arC.of (ok10 x1.2 x9 hx9) Tryz.call10 ?_
      simp only [go_sem, ↓reduceIte, reduceCtorEq, Nat.reduceAdd, Nat.reduceSub, Nat.reduceMul, Nat.reduceEqDiff, Nat.reduceLT, Nat.reduceLeDiff, eq_true c4, eq_true c8, eq_true c10, eq_true c12, eq_true c14]
      refine arC.of (ok10 x2.2 x11 hx11) Tryz.call10 ?_
      simp only [go_sem, ↓reduceIte, reduceCtorEq, Nat.reduceAdd, Nat.reduceSub, Nat.reduceMul, Nat.reduceEqDiff, Nat.reduceLT, Nat.reduceLeDiff, eq_true c4, eq_true c8, eq_true c10, eq_true c12, eq_true c14]
      refine arC.of (ok10 x3.2 x13 hx13) Tryz.call10 ?_
      simp only [go_sem, ↓reduceIte, reduceCtorEq, Nat.reduceAdd, Nat.reduceSub, Nat.reduceMul, Nat.reduceEqDiff, Nat.reduceLT, Nat.reduceLeDiff, eq_true c4, eq_true c8, eq_true c10, eq_true c12, eq_true c14]
      refine arC.of (ok7  x15 hx15) Tryz.call7 ?_
      simp only [go_sem, ↓reduceIte, reduceCtorEq, Nat.reduceAdd, Nat.reduceSub, Nat.reduceMul, Nat.reduceEqDiff, Nat.reduceLT, Nat.reduceLeDiff, eq_true c4, eq_true c8, eq_true c10, eq_true c12, eq_true c14]
      subst hK
      refine AW.ret ?_
      obtain rfl := Option.some.inj h
      (simp only [go_sem, ↓reduceIte, reduceCtorEq, Nat.reduceAdd, Nat.reduceSub, Nat.reduceMul, Nat.reduceEqDiff, Nat.reduceLT, Nat.reduceLeDiff, eq_true c4, eq_true c8, eq_true c10, eq_true c12, eq_true c14, finA] <;> try simp)
     ·rw [if_neg c14] at h
      refine AW.regL [4] ?_
      generalize hK : AW Tryz.prog _ _ _ = K
      simp only [go_sem, ↓reduceIte, reduceCtorEq, Nat.reduceAdd, Nat.reduceSub, Nat.reduceMul, Nat.reduceEqDiff, Nat.reduceLT, Nat.reduceLeDiff, eq_true c4, eq_true c8, eq_true c10, eq_true c12, eq_false c14]
      refine arC.of (ok26_nil  x5 hx5) Tryz.call26 ?_
      simp only [go_sem, ↓reduceIte, reduceCtorEq, Nat.reduceAdd, Nat.reduceSub, Nat.reduceMul, Nat.reduceEqDiff, Nat.reduceLT, Nat.reduceLeDiff, eq_true c4, eq_true c8, eq_true c10, eq_true c12, eq_false c14]
      refine arC.of (ok18_nil a0 x6 hx6) Tryz.call18 ?_
      simp only [go_sem, ↓reduceIte, reduceCtorEq, Nat.reduceAdd, Nat.reduceSub, Nat.reduceMul, Nat.reduceEqDiff, Nat.reduceLT, Nat.reduceLeDiff, eq_true c4, eq_true c8, eq_true c10, eq_true c12, eq_false c14]
      refine arC.of (ok14_nil  x7 hx7) Tryz.call14 ?_
      simp only [go_sem, ↓reduceIte, reduceCtorEq, Nat.reduceAdd, Nat.reduceSub, Nat.reduceMul, Nat.reduceEqDiff, Nat.reduceLT, Nat.reduceLeDiff, eq_true c4, eq_true c8, eq_true c10, eq_true c12, eq_false c14]
      refine arC.of (ok10 x1.2 x9 hx9) Tryz.call10 ?_
      simp only [go_sem, ↓reduceIte, reduceCtorEq, Nat.reduceAdd, Nat.reduceSub, Nat.reduceMul, Nat.reduceEqDiff, Nat.reduceLT, Nat.reduceLeDiff, eq_true c4, eq_true c8, eq_true c10, eq_true c12, eq_false c14]
      refine arC.of (ok10 x2.2 x11 hx11) Tryz.call10 ?_
      simp only [go_sem, ↓reduceIte, reduceCtorEq, Nat.reduceAdd, Nat.reduceSub, Nat.reduceMul, Nat.reduceEqDiff, Nat.reduceLT, Nat.reduceLeDiff, eq_true c4, eq_true c8, eq_true c10, eq_true c12, eq_false c14]
      refine arC.of (ok10 x3.2 x13 hx13) Tryz.call10 ?_
      simp only [go_sem, ↓reduceIte, reduceCtorEq, Nat.reduceAdd, Nat.reduceSub, Nat.reduceMul, Nat.reduceEqDiff, Nat.reduceLT, Nat.reduceLeDiff, eq_true c4, eq_true c8, eq_true c10, eq_true c12, eq_false c14]
      subst hK
      refine AW.ret ?_
      obtain rfl := Option.some.inj h
      (simp only [go_sem, ↓reduceIte, reduceCtorEq, Nat.reduceAdd, Nat.reduceSub, Nat.reduceMul, Nat.reduceEqDiff, Nat.reduceLT, Nat.reduceLeDiff, eq_true c4, eq_true c8, eq_true c10, eq_true c12, eq_false c14, finA] <;> try simp)
    ·rw [if_neg c12] at h
     refine AW.regL [4] ?_
     generalize hK : AW Tryz.prog _ _ _ = K
     simp only [go_sem, ↓reduceIte, reduceCtorEq, Nat.reduceAdd, Nat.reduceSub, Nat.reduceMul, Nat.reduceEqDiff, Nat.reduceLT, Nat.reduceLeDiff, eq_true c4, eq_true c8, eq_true c10, eq_false c12]
     refine arC.of (ok26_nil  x5 hx5) Tryz.call26 ?_
     simp only [go_sem, ↓reduceIte, reduceCtorEq, Nat.reduceAdd, Nat.reduceSub, Nat.reduceMul, Nat.reduceEqDiff, Nat.reduceLT, Nat.reduceLeDiff, eq_true c4, eq_true c8, eq_true c10, eq_false c12]
     refine arC.of (ok18_nil a0 x6 hx6) Tryz.call18 ?_
     simp only [go_sem, ↓reduceIte, reduceCtorEq, Nat.reduceAdd, Nat.reduceSub, Nat.reduceMul, Nat.reduceEqDiff, Nat.reduceLT, Nat.reduceLeDiff, eq_true c4, eq_true c8, eq_true c10, eq_false c12]
     refine arC.of (ok14_nil  x7 hx7) Tryz.call14 ?_
     simp only [go_sem, ↓reduceIte, reduceCtorEq, Nat.reduceAdd, Nat.reduceSub, Nat.reduceMul, Nat.reduceEqDiff, Nat.reduceLT, Nat.reduceLeDiff, eq_true c4, eq_true c8, eq_true c10, eq_false c12]
     refine arC.of (ok10 x1.2 x9 hx9) Tryz.call10 ?_
     simp only [go_sem, ↓reduceIte, reduceCtorEq, Nat.reduceAdd, Nat.reduceSub, Nat.reduceMul, Nat.reduceEqDiff, Nat.reduceLT, Nat.reduceLeDiff, eq_true c4, eq_true c8, eq_true c10, eq_false c12]
     refine arC.of (ok10 x2.2 x11 hx11) Tryz.call10 ?_
     simp only [go_sem, ↓reduceIte, reduceCtorEq, Nat.reduceAdd, Nat.reduceSub, Nat.reduceMul, Nat.reduceEqDiff, Nat.reduceLT, Nat.reduceLeDiff, eq_true c4, eq_true c8, eq_true c10, eq_false c12]
     subst hK
     refine AW.ret ?_
     obtain rfl := Option.some.inj h
     (simp only [go_sem, ↓reduceIte, reduceCtorEq, Nat.reduceAdd, Nat.reduceSub, Nat.reduceMul, Nat.reduceEqDiff, Nat.reduceLT, Nat.reduceLeDiff, eq_true c4, eq_true c8, eq_true c10, eq_false c12, finA] <;> try simp)
   ·rw [if_neg c10] at h
    refine AW.regL [4] ?_
    generalize hK : AW Tryz.prog _ _ _ = K
    simp only [go_sem, ↓reduceIte, reduceCtorEq, Nat.reduceAdd, Nat.reduceSub, Nat.reduceMul, Nat.reduceEqDiff, Nat.reduceLT, Nat.reduceLeDiff, eq_true c4, eq_true c8, eq_false c10]
    refine arC.of (ok26_nil  x5 hx5) Tryz.call26 ?_
    simp only [go_sem, ↓reduceIte, reduceCtorEq, Nat.reduceAdd, Nat.reduceSub, Nat.reduceMul, Nat.reduceEqDiff, Nat.reduceLT, Nat.reduceLeDiff, eq_true c4, eq_true c8, eq_false c10]
    refine arC.of (ok18_nil a0 x6 hx6) Tryz.call18 ?_
    simp only [go_sem, ↓reduceIte, reduceCtorEq, Nat.reduceAdd, Nat.reduceSub, Nat.reduceMul, Nat.reduceEqDiff, Nat.reduceLT, Nat.reduceLeDiff, eq_true c4, eq_true c8, eq_false c10]
    refine arC.of (ok14_nil  x7 hx7) Tryz.call14 ?_
    simp only [go_sem, ↓reduceIte, reduceCtorEq, Nat.reduceAdd, Nat.reduceSub, Nat.reduceMul, Nat.reduceEqDiff, Nat.reduceLT, Nat.reduceLeDiff, eq_true c4, eq_true c8, eq_false c10]
    refine arC.of (ok10 x1.2 x9 hx9) Tryz.call10 ?_
    simp only [go_sem, ↓reduceIte, reduceCtorEq, Nat.reduceAdd, Nat.reduceSub, Nat.reduceMul, Nat.reduceEqDiff, Nat.reduceLT, Nat.reduceLeDiff, eq_true c4, eq_true c8, eq_false c10]
    subst hK
    refine AW.ret ?_
    obtain rfl := Option.some.inj h
    (simp only [go_sem, ↓reduceIte, reduceCtorEq, Nat.reduceAdd, Nat.reduceSub, Nat.reduceMul, Nat.reduceEqDiff, Nat.reduceLT, Nat.reduceLeDiff, eq_true c4, eq_true c8, eq_false c10, finA] <;> try simp)
  ·rw [if_neg c8] at h
   refine AW.regL [4] ?_
   generalize hK : AW Tryz.prog _ _ _ = K
   simp only [go_sem, ↓reduceIte, reduceCtorEq, Nat.reduceAdd, Nat.reduceSub, Nat.reduceMul, Nat.reduceEqDiff, Nat.reduceLT, Nat.reduceLeDiff, eq_true c4, eq_false c8]
   refine arC.of (ok26_nil  x5 hx5) Tryz.call26 ?_
   simp only [go_sem, ↓reduceIte, reduceCtorEq, Nat.reduceAdd, Nat.reduceSub, Nat.reduceMul, Nat.reduceEqDiff, Nat.reduceLT, Nat.reduceLeDiff, eq_true c4, eq_false c8]
   refine arC.of (ok18_nil a0 x6 hx6) Tryz.call18 ?_
   simp only [go_sem, ↓reduceIte, reduceCtorEq, Nat.reduceAdd, Nat.reduceSub, Nat.reduceMul, Nat.reduceEqDiff, Nat.reduceLT, Nat.reduceLeDiff, eq_true c4, eq_false c8]
   refine arC.of (ok14_nil  x7 hx7) Tryz.call14 ?_
   simp only [go_sem, ↓reduceIte, reduceCtorEq, Nat.reduceAdd, Nat.reduceSub, Nat.reduceMul, Nat.reduceEqDiff, Nat.reduceLT, Nat.reduceLeDiff, eq_true c4, eq_false c8]
   subst hK
   refine AW.ret ?_
   obtain rfl := Option.some.inj h
   (simp only [go_sem, ↓reduceIte, reduceCtorEq, Nat.reduceAdd, Nat.reduceSub, Nat.reduceMul, Nat.reduceEqDiff, Nat.reduceLT, Nat.reduceLeDiff, eq_true c4, eq_false c8, finA] <;> try simp)
 ·rw [if_neg c4] at h
  refine AW.regL [4] ?_
  generalize hK : AW Tryz.prog _ _ _ = K
  simp only [go_sem, ↓reduceIte, reduceCtorEq, Nat.reduceAdd, Nat.reduceSub, Nat.reduceMul, Nat.reduceEqDiff, Nat.reduceLT, Nat.reduceLeDiff, eq_false c4]
  subst hK
  refine AW.ret ?_
  obtain rfl := Option.some.inj h
  (simp only [go_sem, ↓reduceIte, reduceCtorEq, Nat.reduceAdd, Nat.reduceSub, Nat.reduceMul, Nat.reduceEqDiff, Nat.reduceLT, Nat.reduceLeDiff, eq_false c4, finA] <;> try simp)
end Au
end Go.Proofs.Yt

set_option linter.all false
namespace Go.Proofs.Yt
open Go.Gm
namespace Au
theorem law5 (a0 : ByteArray) (a1 : Int) : f5 a0 a1 = some true := by
  simp only [f5, f16_nil, f19_nil, f25_nil, f26_nil, f18_nil, f14_nil, f44, f10, f12asN, f7_true, Option.bind_some, Er.isNil]
  decide
end Au
end Go.Proofs.Yt

set_option linter.all false
set_option maxRecDepth 8000
namespace Go.Gm
theorem max_shapedT {P : Program} {W : World} {g : Nat} {t : TypeId} {zero : Array Value} (hsh : W.ShapedOpen P) (hgs : g < P.globals.size) (hz : ((begin P (fun _ _ => 0) default).world.heap[g]?).bind Obj.row? = some (zero, t)) (hsz : zero.size = 1)
    (hb : P.buildable t = true) (hc : P.cellTypes P.depth t = some [t]) (hu : P.underlying t = some (.int .i64)) : g < W.heap.size ∧ ∃ cs t fz, ∃ m : Int, W.heap[g]? = some (.cells cs t fz) ∧ cs[0]? = some (.int .i64 m) := by
  obtain ⟨cs, h1, h2, _⟩ := hsh.1 g zero t hgs hz
  obtain ⟨m, hm⟩ := Go.Proofs.cell_of_shapedOpen_int hsh hgs hz hsz hb hc hu
  refine ⟨(Array.getElem?_eq_some_iff.1 h1).1, cs, _, _, m, h1, ?_⟩
  simpa [World.cell?, h1] using hm
end Go.Gm
namespace Go.Proofs.Yt
open Go.Gm
namespace Au
theorem g_pow : Tryz.prog.globalNamed "internal/strconv.uint64pow10" = none := by kernel_rfl
theorem g_max : Tryz.prog.globalNamed "internal/bytealg.MaxLen" = some 1 := by kernel_rfl
theorem g_err : Tryz.prog.globalNamed "errors.errorType" = some 0 := by kernel_rfl
theorem t_rt : (Tryz.prog.cutTypes.find? (·.1 == "internal/reflectlite.rtype")).map (·.2) = some 137 := by kernel_rfl
theorem t_size : Tryz.prog.types.size = 290 := by kernel_rfl
theorem t_one : ((List.range 290).filter fun t => Tryz.prog.rowNamed t [101, 114, 114, 111, 114]) = [28] := by kernel_rfl
theorem errT_val : errT Tryz.prog = some (.iface 137 (.agg #[.pointer (some ⟨2, 28, none⟩)])) := by kernel_rfl
def laidE {H : Type} : DataW H := .iface "internal/reflectlite.rtype" (.agg [.ptr (.lit (.string [101, 114, 114, 111, 114]))])
theorem tables_of {W : World} (h : laidMetH Tryz.prog [("errors.errorType", laidE)] W) (hsh : W.ShapedOpen Tryz.prog) : TabH Tryz.prog (fun _ => False) W := by
  have h' : laidMet Tryz.prog [] W ∧ handlesMet Tryz.prog [("errors.errorType", laidE)] W := h
  obtain ⟨name, u, ty, e1, e2, e3, e4, e5⟩ := h'.2 _ (List.mem_singleton.2 rfl)
  have en : name = [101, 114, 114, 111, 114] := (Option.some.inj e1).symm
  subst en
  obtain rfl := Option.some.inj (t_rt.symm.trans e2)
  have hm : ty ∈ (List.range 290).filter fun t => Tryz.prog.rowNamed t [101, 114, 114, 111, 114] := List.mem_filter.2 ⟨List.mem_range.2 (by rw [← t_size]; exact e3), e4⟩
  rw [t_one] at hm
  obtain rfl := List.mem_singleton.1 hm
  have hh : typeHandle Tryz.prog 28 = .pointer (some ⟨2, 28, none⟩) := by kernel_rfl
  rw [hh] at e5
  have hmax := max_shapedT (g := 1) (t := 3) (zero := #[.int .i64 0]) hsh (by decide +kernel) (by kernel_rfl) rfl (by kernel_rfl) (by kernel_rfl) Tryz.underlying3
  intro g p hg
  have k1 : (Tryz.prog.globalNamed "internal/strconv.uint64pow10" == some g) = false := by rw [g_pow]; rfl
  simp only [tabs, libTabs, List.find?_cons, k1, g_max, g_err] at hg
  by_cases h1 : g = 1
  · subst h1
    have e : ((some 1 : Option Nat) == some 1) = true := rfl
    simp only [e, Option.map_some, Option.some.injEq] at hg
    subst hg
    obtain ⟨a1, cs, t, fz, m, a2, a3⟩ := hmax
    exact ⟨a1, fun h => h, _, t, fz, a2, m, a3⟩
  · have e : ((some 1 : Option Nat) == some g) = false := by simp; exact fun h => h1 h.symm
    simp only [e] at hg
    by_cases h0 : g = 0
    · subst h0
      have e : ((some 0 : Option Nat) == some 0) = true := rfl
      simp only [e, Option.map_some, Option.some.injEq] at hg
      subst hg
      unfold World.var? at e5
      rw [g_err, Option.bind_some] at e5
      cases hq : W.heap[0]? with
      | none => rw [hq] at e5; cases e5
      | some o =>
        rw [hq] at e5
        cases o with
        | cells cs t fz =>
          simp only [Option.some.injEq] at e5
          subst e5
          exact ⟨(Array.getElem?_eq_some_iff.1 hq).1, fun h => h, _, t, fz, rfl, by rw [errT_val]; rfl, by rw [errT_val]; rfl⟩
        | _ => cases e5
    · have e : ((some 0 : Option Nat) == some g) = false := by simp; exact fun h => h0 h.symm
      simp only [e, List.find?_nil, Option.map_none] at hg
      cases hg
end Au
end Go.Proofs.Yt
