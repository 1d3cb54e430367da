/- What is unlike, applied, makes the second list. -/
import Derived.Test.YtlonihmeikmpiaaGmY1K
set_option linter.all false
set_option linter.unusedVariables false
set_option linter.unusedSimpArgs false
set_option linter.unusedSimpArgs false
set_option linter.unusedVariables false
namespace Go.Proofs.Y1
open Go.Gm
theorem diffL_keys (a b : List Res) : ∀ c ∈ diffL a b, (∃ r ∈ a, r.key = c.res.key) ∨ ∃ r ∈ b, r.key = c.res.key := by
  fun_induction diffL a b with
  | case1 => intro c hc; cases hc
  | case2 a l ih =>
    intro c hc
    rcases List.mem_cons.1 hc with rfl | hc
    · exact .inl ⟨a, by simp, rfl⟩
    · rcases ih c hc with ⟨r, hr, e⟩ | ⟨r, hr, e⟩
      · exact .inl ⟨r, by simp [hr], e⟩
      · exact .inr ⟨r, hr, e⟩
  | case3 b m ih =>
    intro c hc
    rcases List.mem_cons.1 hc with rfl | hc
    · exact .inr ⟨b, by simp, rfl⟩
    · rcases ih c hc with ⟨r, hr, e⟩ | ⟨r, hr, e⟩
      · exact .inl ⟨r, hr, e⟩
      · exact .inr ⟨r, by simp [hr], e⟩
  | case4 a l b m h ih =>
    intro c hc
    rcases List.mem_cons.1 hc with rfl | hc
    · exact .inl ⟨a, by simp, rfl⟩
    · rcases ih c hc with ⟨r, hr, e⟩ | ⟨r, hr, e⟩
      · exact .inl ⟨r, by simp [hr], e⟩
      · exact .inr ⟨r, hr, e⟩
  | case5 a l b m h h2 ih =>
    intro c hc
    rcases List.mem_cons.1 hc with rfl | hc
    · exact .inr ⟨b, by simp, rfl⟩
    · rcases ih c hc with ⟨r, hr, e⟩ | ⟨r, hr, e⟩
      · exact .inl ⟨r, hr, e⟩
      · exact .inr ⟨r, by simp [hr], e⟩
  | case6 a l b m h h2 ih =>
    intro c hc
    rcases List.mem_append.1 hc with hc | hc
    · have : c.res = b := by
        unfold un2 at hc
        split at hc
        · simp at hc; rw [hc]
        · split at hc
          · simp at hc; rw [hc]
          · cases hc
      exact .inr ⟨b, by simp, by rw [this]⟩
    · rcases ih c hc with ⟨r, hr, e⟩ | ⟨r, hr, e⟩
      · exact .inl ⟨r, by simp [hr], e⟩
      · exact .inr ⟨r, by simp [hr], e⟩
theorem app_pass {out l : List Res} {x : Res} {D : List Change} (h : ∀ c ∈ D, sLt x.key c.res.key = true) : appGo out (x :: l) D = appGo (out ++ [x]) l D := by
  cases D with
  | nil => simp [appGo]
  | cons c D => exact app_skip (h c (by simp))
theorem app_diff (a b : List Res) : ∀ out, Right a → Right b → appGo out a (diffL a b) = (out ++ b, 0) := by
  fun_induction diffL a b with
  | case1 => intro out _ _; simp [appGo]
  | case2 a l ih =>
    intro out ha hb
    have hs : Stop (a :: l) (⟨0, a⟩ : Change).res.key := fun x m h => by cases h; exact sLt_irr _
    rw [app_stop hs]
    simp [has]
    rw [ih out (right_tail ha) hb]; simp
  | case3 b m ih =>
    intro out ha hb
    have hs : Stop [] (⟨1, b⟩ : Change).res.key := fun x m h => by cases h
    rw [app_stop hs]
    simp [has]
    rw [ih (out ++ [b]) ha (right_tail hb)]; simp
  | case4 a l b m h ih =>
    intro out ha hb
    have hs : Stop (a :: l) (⟨0, a⟩ : Change).res.key := fun x m h => by cases h; exact sLt_irr _
    rw [app_stop hs]
    simp [has]
    rw [ih out (right_tail ha) hb]
  | case5 a l b m h h2 ih =>
    intro out ha hb
    have hs : Stop (a :: l) (⟨1, b⟩ : Change).res.key := fun x m h => by cases h; exact sLt_asymm h2
    rw [app_stop hs]
    simp [has, ne_gt h2]
    rw [ih (out ++ [b]) ha (right_tail hb)]; simp
  | case6 a l b m h h2 ih =>
    intro out ha hb
    have e : a.key = b.key := sLt_eq (by simpa using h) (by simpa using h2)
    have hs : ∀ k, Stop (a :: l) (⟨k, b⟩ : Change).res.key := fun k x m h => by cases h; rw [e]; exact sLt_irr _
    by_cases hv : a.val = b.val
    · by_cases ho : a.offs = b.offs
      · have : a = b := res_ext e hv ho
        subst this
        rw [un2_none ⟨rfl, rfl⟩, List.nil_append]
        rw [app_pass fun c hc => ?_, ih (out ++ [a]) (right_tail ha) (right_tail hb)]
        · simp
        · rcases diffL_keys l m c hc with ⟨r, hr, e⟩ | ⟨r, hr, e⟩
          · rw [← e]; exact right_head ha r hr
          · rw [← e]; exact right_head hb r hr
      · rw [un2_some (fun _ => ho)]
        rw [List.singleton_append, app_stop (hs _)]
        simp [has, e, hv, ho]
        rw [ih (out ++ [b]) (right_tail ha) (right_tail hb)]; simp
    · rw [un2_some (fun h => absurd h hv)]
      rw [List.singleton_append, app_stop (hs _)]
      simp [has, e, hv]
      rw [ih (out ++ [b]) (right_tail ha) (right_tail hb)]; simp
end Go.Proofs.Y1
