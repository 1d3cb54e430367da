import Derived.Test.YtlonihmeikmpiaaGpS4C
import Derived.Test.YtlonihmeikmpiaaGpW7
set_option linter.all false
set_option linter.unusedVariables false
set_option linter.unusedSimpArgs false
set_option linter.all false
set_option maxRecDepth 8000
namespace Go.Proofs.Y1
open Go.Gm
namespace Au
def OkStep (s : Step) : Prop := (∀ n ∈ [s.Do, s.Node, s.I, s.J], I64 n) ∧ s.Keep.length ≤ 30 ∧ ∀ n ∈ s.Keep, I64 n
def cfgL (c : Cfg) : List Int := [c.Workers, c.Per, c.Timeout, c.Tries, c.Room]
structure OkRun (r : Run) : Prop where
  t : Byt r.Text
  tl : r.Text.length ≤ 1000
  i : Byt r.Input
  il : r.Input.length ≤ 1000
  c : ∀ n ∈ cfgL r.Cfg, I64 n
  sl : r.Steps.length ≤ 300
  s : ∀ x ∈ r.Steps, OkStep x
noncomputable def S (s : Step) : List Int := Zs [s.Do, s.Node, s.I, s.J] ++ (N (s.Keep.length : Int) ++ Zs s.Keep)
noncomputable def Ss : List Step → List Int
  | [] => []
  | s :: l => S s ++ Ss l
theorem Ss_append : ∀ (l m : List Step), Ss (l ++ m) = Ss l ++ Ss m
  | [], m => rfl
  | n :: l, m => by simp only [List.cons_append, Ss, Ss_append l m, List.append_assoc]
theorem kn {s : Step} (h : OkStep s) : 1 ≤ (N (s.Keep.length : Int)).length ∧ (N (s.Keep.length : Int)).length ≤ 9 ∧ Byt (N (s.Keep.length : Int)) ∧ f91 (s.Keep.length : Int) = some (N (s.Keep.length : Int)) ∧ (∀ b, b.length ≤ 1000000 → f87 b (s.Keep.length : Int) = some (b ++ N (s.Keep.length : Int))) ∧
    ∀ B a, B.length ≤ 1000000 → At B a (N (s.Keep.length : Int)) → f77 B a = some ((s.Keep.length : Int), (a : Int) + (N (s.Keep.length : Int)).length, 0) :=
  num (v := (s.Keep.length : Int)) (by omega) (by have := h.2.1; omega)
theorem S_len {s : Step} (h : OkStep s) : (S s).length ≤ 315 := by
  have h1 := Zs_len h.1
  have h2 := Zs_len h.2.2
  have h3 := (kn h).2.1
  have h4 := h.2.1
  simp only [List.length_cons, List.length_nil] at h1
  simp only [S, List.length_append]; omega
theorem S_byt {s : Step} (h : OkStep s) : Byt (S s) := byt_append (Zs_byt h.1) (byt_append (kn h).2.2.1 (Zs_byt h.2.2))
theorem Ss_len : ∀ {l : List Step}, (∀ s ∈ l, OkStep s) → (Ss l).length ≤ 315 * l.length
  | [], _ => by simp [Ss]
  | n :: l, h => by
    have := S_len (h n (by simp))
    have := Ss_len (l := l) fun x hx => h x (by simp [hx])
    simp only [Ss, List.length_append, List.length_cons]; omega
theorem Ss_byt : ∀ {l : List Step}, (∀ s ∈ l, OkStep s) → Byt (Ss l)
  | [], _ => fun x hx => by cases hx
  | n :: l, h => byt_append (S_byt (h n (by simp))) (Ss_byt fun x hx => h x (by simp [hx]))
noncomputable def Hd (r : Run) : List Int := Tx r.Text ++ (Tx r.Input ++ (Zs (cfgL r.Cfg) ++ N (r.Steps.length : Int)))
noncomputable def By (r : Run) : List Int := Hd r ++ Ss r.Steps
theorem sn {r : Run} (h : OkRun r) : 1 ≤ (N (r.Steps.length : Int)).length ∧ (N (r.Steps.length : Int)).length ≤ 9 ∧ Byt (N (r.Steps.length : Int)) ∧ f91 (r.Steps.length : Int) = some (N (r.Steps.length : Int)) ∧ (∀ b, b.length ≤ 1000000 → f87 b (r.Steps.length : Int) = some (b ++ N (r.Steps.length : Int))) ∧
    ∀ B a, B.length ≤ 1000000 → At B a (N (r.Steps.length : Int)) → f77 B a = some ((r.Steps.length : Int), (a : Int) + (N (r.Steps.length : Int)).length, 0) :=
  num (v := (r.Steps.length : Int)) (by omega) (by have := h.sl; omega)
theorem Hd_len {r : Run} (h : OkRun r) : (Hd r).length ≤ 3000 := by
  have h1 := h.tl
  have h2 := h.il
  have h3 := Tx_len (t := r.Text) (by omega)
  have h4 := Tx_len (t := r.Input) (by omega)
  have h5 := Zs_len h.c
  have h6 := (sn h).2.1
  simp only [cfgL, List.length_cons, List.length_nil] at h5
  simp only [Hd, cfgL, List.length_append]; omega
theorem By_len {r : Run} (h : OkRun r) : (By r).length ≤ 200000 := by
  have := Hd_len h
  have := Ss_len h.s
  have := h.sl
  simp only [By, List.length_append]; omega
theorem By_byt {r : Run} (h : OkRun r) : Byt (By r) := by
  have h1 := h.tl
  have h2 := h.il
  exact byt_append (byt_append (Tx_byt h.t (by omega)) (byt_append (Tx_byt h.i (by omega)) (byt_append (Zs_byt h.c) (sn h).2.2.1))) (Ss_byt h.s)
theorem take_succ_st {l : List Step} {i : Nat} (h : i < l.length) : l.take (i + 1) = l.take i ++ [l[i]] := (List.take_append_getElem h).symm
theorem put_run {r : Run} (h : OkRun r) : f45 r = some (By r, 0) := by
  have h1 := h.tl
  have h2 := h.il
  have h3 := h.sl
  have hh := Hd_len h
  have hs := Ss_len h.s
  have hm : ¬ (1048576 : Int) < maxI (r.Text.length : Int) (r.Input.length : Int) := by unfold maxI; split <;> omega
  have l1 := Tx_len (t := r.Text) (by omega)
  have l2 := Tx_len (t := r.Input) (by omega)
  have l3 := Zs_len h.c
  simp only [cfgL, List.length_cons, List.length_nil] at l3
  have key : ∃ q, loopO (f45_s1 r) (Hd r, 0) = some q ∧ q = .inr (By r) := by
    refine loopO_of (fun n s => ∃ i : Nat, s = (Hd r ++ Ss (r.Steps.take i), (i : Int)) ∧ i ≤ r.Steps.length ∧ n = r.Steps.length - i) ?_ (k := r.Steps.length) ⟨0, by simp [Ss], by omega, by omega⟩
    rintro n _ ⟨i, rfl, hi, hn⟩
    by_cases hlt : i < r.Steps.length
    · have hx : ix r.Steps (i : Int) = some r.Steps[i] := ix_some.2 ⟨by omega, by simp [List.getElem?_eq_getElem hlt]⟩
      have ho := h.s _ (List.getElem_mem hlt)
      have hz := Ss_len (l := r.Steps.take i) fun x hx => h.s x (List.mem_of_mem_take hx)
      rw [List.length_take] at hz
      have ho1 := ho.2.1
      have z4 := Zs_len ho.1
      simp only [List.length_cons, List.length_nil] at z4
      have p1 := puts_ok (b := []) ho.1 (by simp)
      have p2 := (kn ho).2.2.2.2.1 ([] ++ Zs [r.Steps[i].Do, r.Steps[i].Node, r.Steps[i].I, r.Steps[i].J]) (by simp only [List.nil_append]; omega)
      have k9 := (kn ho).2.1
      have p3 := puts_ok (b := [] ++ Zs [r.Steps[i].Do, r.Steps[i].Node, r.Steps[i].I, r.Steps[i].J] ++ N (r.Steps[i].Keep.length : Int)) ho.2.2 (by simp only [List.nil_append, List.length_append]; omega)
      have sl := S_len ho
      have w : IntKind.u64.wrap (r.Steps[i].Keep.length : Int) = r.Steps[i].Keep.length := by rw [u64_wrap]; omega
      have p4 : [] ++ Zs [r.Steps[i].Do, r.Steps[i].Node, r.Steps[i].I, r.Steps[i].J] ++ N (r.Steps[i].Keep.length : Int) ++ Zs r.Steps[i].Keep = S r.Steps[i] := by simp only [S, List.nil_append, List.append_assoc]
      refine .inl ⟨(Hd r ++ Ss (r.Steps.take (i + 1)), ((i + 1 : Nat) : Int)), n - 1, ?_, by omega, i + 1, rfl, by omega, by omega⟩
      simp only [f45_s1, if_pos (show (i : Int) < r.Steps.length by omega), hx, Option.bind_some, if_neg (show ¬ (65536 : Int) < r.Steps[i].Keep.length by omega), p1, w, p2, p3, p4, appO_two' (show (Hd r ++ Ss (r.Steps.take i)).length ≤ 2000000 by simp only [List.length_append]; omega) (show (S r.Steps[i]).length ≤ 2000000 by omega), i64_id (show -9223372036854775808 ≤ (i : Int) + 1 by omega) (by omega)]
      simp only [take_succ_st hlt, Ss_append, Ss, List.append_nil, List.append_assoc]
      rfl
    · have : i = r.Steps.length := by omega
      subst this
      exact .inr ⟨_, by simp only [f45_s1, if_neg (show ¬ ((r.Steps.length : Nat) : Int) < r.Steps.length by omega), List.take_length, By], rfl⟩
  obtain ⟨q, hq, rfl⟩ := key
  have q1 := text_put (b := []) h.t (by omega) (by simp)
  have q2 := text_put (b := [] ++ Tx r.Text) h.i (by omega) (by simp only [List.nil_append]; omega)
  have q3 := puts_ok (b := [] ++ Tx r.Text ++ Tx r.Input) h.c (by simp only [cfgL, List.nil_append, List.length_append, List.length_cons, List.length_nil]; omega)
  have q4 := (sn h).2.2.2.2.1 ([] ++ Tx r.Text ++ Tx r.Input ++ Zs (cfgL r.Cfg)) (by simp only [cfgL, List.nil_append, List.length_append]; omega)
  have w : IntKind.u64.wrap (r.Steps.length : Int) = r.Steps.length := by rw [u64_wrap]; omega
  have q5 : [] ++ Tx r.Text ++ Tx r.Input ++ Zs (cfgL r.Cfg) ++ N (r.Steps.length : Int) = Hd r := by simp only [Hd, List.nil_append, List.append_assoc]
  unfold cfgL at q3 q4 q5
  simp only [f45, if_neg hm, if_neg (show ¬ (16384 : Int) < r.Steps.length by omega), q1, q2, q3, w, q4, q5, hq, Option.bind_some]
theorem ref_run {r : Run} (h : OkRun r) : f46 r = some (By r) := by
  have h1 := h.tl
  have h2 := h.il
  have h3 := h.sl
  have hh := Hd_len h
  have hs := Ss_len h.s
  have l1 := Tx_len (t := r.Text) (by omega)
  have l2 := Tx_len (t := r.Input) (by omega)
  have l3 := Zs_len h.c
  have l4 := (sn h).2.1
  simp only [cfgL, List.length_cons, List.length_nil] at l3
  have key : ∃ q, loopO (f46_s1 r) (Hd r, 0) = some q ∧ q = By r := by
    refine loopO_of (fun n s => ∃ i : Nat, s = (Hd r ++ Ss (r.Steps.take i), (i : Int)) ∧ i ≤ r.Steps.length ∧ n = r.Steps.length - i) ?_ (k := r.Steps.length) ⟨0, by simp [Ss], by omega, by omega⟩
    rintro n _ ⟨i, rfl, hi, hn⟩
    by_cases hlt : i < r.Steps.length
    · have hx : ix r.Steps (i : Int) = some r.Steps[i] := ix_some.2 ⟨by omega, by simp [List.getElem?_eq_getElem hlt]⟩
      have ho := h.s _ (List.getElem_mem hlt)
      have hz := Ss_len (l := r.Steps.take i) fun x hx => h.s x (List.mem_of_mem_take hx)
      rw [List.length_take] at hz
      have ho1 := ho.2.1
      have z4 := Zs_len ho.1
      simp only [List.length_cons, List.length_nil] at z4
      have zk := Zs_len ho.2.2
      have p1 := refs_ok ho.1 (by simp)
      have p2 := (kn ho).2.2.2.1
      have k9 := (kn ho).2.1
      have p3 := refs_ok ho.2.2 (by omega)
      have sl := S_len ho
      have w : IntKind.u64.wrap (r.Steps[i].Keep.length : Int) = r.Steps[i].Keep.length := by rw [u64_wrap]; omega
      refine .inl ⟨(Hd r ++ Ss (r.Steps.take (i + 1)), ((i + 1 : Nat) : Int)), n - 1, ?_, by omega, i + 1, rfl, by omega, by omega⟩
      have a1 := appO_two' (l := Hd r ++ Ss (r.Steps.take i)) (r := Zs [r.Steps[i].Do, r.Steps[i].Node, r.Steps[i].I, r.Steps[i].J]) (by simp only [List.length_append]; omega) (by omega)
      have a2 := appO_two' (l := Hd r ++ Ss (r.Steps.take i) ++ Zs [r.Steps[i].Do, r.Steps[i].Node, r.Steps[i].I, r.Steps[i].J]) (r := N (r.Steps[i].Keep.length : Int)) (by simp only [List.length_append]; omega) (by omega)
      have a3 := appO_two' (l := Hd r ++ Ss (r.Steps.take i) ++ Zs [r.Steps[i].Do, r.Steps[i].Node, r.Steps[i].I, r.Steps[i].J] ++ N (r.Steps[i].Keep.length : Int)) (r := Zs r.Steps[i].Keep) (by simp only [List.length_append]; omega) (by omega)
      simp only [f46_s1, if_pos (show (i : Int) < r.Steps.length by omega), hx, Option.bind_some, p1, w, p2, p3, a1, a2, a3, i64_id (show -9223372036854775808 ≤ (i : Int) + 1 by omega) (by omega)]
      simp only [take_succ_st hlt, Ss_append, Ss, S, List.append_nil, List.append_assoc]
      rfl
    · have : i = r.Steps.length := by omega
      subst this
      exact .inr ⟨_, by simp only [f46_s1, if_neg (show ¬ ((r.Steps.length : Nat) : Int) < r.Steps.length by omega), List.take_length, By], rfl⟩
  obtain ⟨q, hq, rfl⟩ := key
  have q1 := text_ref h.t (by omega)
  have q2 := text_ref h.i (by omega)
  have q3 := refs_ok h.c (by simp [cfgL])
  have q4 := (sn h).2.2.2.1
  have w : IntKind.u64.wrap (r.Steps.length : Int) = r.Steps.length := by rw [u64_wrap]; omega
  have q5 : Tx r.Text ++ Tx r.Input ++ Zs (cfgL r.Cfg) ++ N (r.Steps.length : Int) = Hd r := by simp only [Hd, List.append_assoc]
  have a1 := appO_two' (l := Tx r.Text) (r := Tx r.Input) (by omega) (by omega)
  have a2 := appO_two' (l := Tx r.Text ++ Tx r.Input) (r := Zs (cfgL r.Cfg)) (by simp only [List.length_append]; omega) (by simp only [cfgL]; omega)
  have a3 := appO_two' (l := Tx r.Text ++ Tx r.Input ++ Zs (cfgL r.Cfg)) (r := N (r.Steps.length : Int)) (by simp only [cfgL, List.length_append]; omega) (by omega)
  unfold cfgL at q3 a2 a3 q5
  simp only [f46, q1, q2, a1, q3, a2, w, q4, a3, q5, hq, Option.bind_some]
theorem step_read {s : Step} (h : OkStep s) {B : List Int} {a : Nat} (hB : B.length ≤ 1000000) (hA : At B a (S s)) : f78 B a = some (s, (a : Int) + (S s).length, 0) := by
  have ho1 := h.2.1
  have r1 := many_read h.1 (by simp) hB hA.left
  simp only [List.length_cons, List.length_nil] at r1
  have r2 := (kn h).2.2.2.2.2 B _ hB hA.right.left
  have r3 := many_read h.2.2 (by omega) hB hA.right.right
  simp only [Int.natCast_add] at r2 r3
  have w : IntKind.i64.wrap (s.Keep.length : Int) = s.Keep.length := i64_id (by omega) (by omega)
  have e : (S s).length = (Zs [s.Do, s.Node, s.I, s.J]).length + ((N (s.Keep.length : Int)).length + (Zs s.Keep).length) := by simp only [S, List.length_append]
  rw [f78]
  rw [show (4 : Int) = ((0 + 1 + 1 + 1 + 1 : Nat) : Int) from rfl, r1]
  simp only [Option.bind_some, if_true, r2, if_neg (show ¬ (65536 : Int) < s.Keep.length by omega), w, r3, List.getElem?_cons_zero, List.getElem?_cons_succ]
  simp only [e, Int.natCast_add, Int.add_assoc]
theorem get_run {r : Run} (h : OkRun r) : f25 (By r) = some (r, 0) := by
  have h1 := h.tl
  have h2 := h.il
  have h3 := h.sl
  have hl := By_len h
  have hA : At (By r) 0 (By r) := ⟨[], [], by simp, rfl⟩
  have hB : (By r).length ≤ 1000000 := by omega
  have hH : At (By r) 0 (Hd r) := At.left (M := Ss r.Steps) (by exact hA)
  have hS : At (By r) (0 + (Hd r).length) (Ss r.Steps) := At.right (L := Hd r) (by exact hA)
  unfold Hd at hH
  have r1 := text_read (by omega) hB hH.left
  have r2 := text_read (by omega) hB hH.right.left
  have r3 := many_read h.c (by simp [cfgL]) hB hH.right.right.left
  have r4 := (sn h).2.2.2.2.2 (By r) _ hB hH.right.right.right
  have e : 0 + (Hd r).length = 0 + (Tx r.Text).length + (Tx r.Input).length + (Zs (cfgL r.Cfg)).length + (N (r.Steps.length : Int)).length := by simp only [Hd, List.length_append]; omega
  rw [e] at hS
  generalize hp : 0 + (Tx r.Text).length + (Tx r.Input).length + (Zs (cfgL r.Cfg)).length + (N (r.Steps.length : Int)).length = p at *
  have hpl : p + (Ss r.Steps).length = (By r).length := by simp only [By, List.length_append]; omega
  have w : IntKind.i64.wrap (r.Steps.length : Int) = r.Steps.length := i64_id (by omega) (by omega)
  have key : ∃ q, loopO (f25_s2 (By r) ((r.Steps.length : Int), (p : Int), 0)) ([], (p : Int), 0) = some q ∧ q = .inr (((p + (Ss r.Steps).length : Nat) : Int), r.Steps) := by
    refine loopO_of (fun n s => ∃ i : Nat, s = (r.Steps.take i, ((p + (Ss (r.Steps.take i)).length : Nat) : Int), (i : Int)) ∧ i ≤ r.Steps.length ∧ n = r.Steps.length - i) ?_ (k := r.Steps.length) ⟨0, by simp [Ss], by omega, by omega⟩
    rintro n _ ⟨i, rfl, hi, hn⟩
    by_cases hlt : i < r.Steps.length
    · have ho := h.s _ (List.getElem_mem hlt)
      have hd : r.Steps = r.Steps.take i ++ ([r.Steps[i]] ++ r.Steps.drop (i + 1)) := by
        rw [← List.append_assoc, ← take_succ_st hlt, List.take_append_drop]
      have hA' : At (By r) (p + (Ss (r.Steps.take i)).length) (S r.Steps[i]) := by
        have h := hS
        rw [hd, Ss_append, Ss_append] at h
        have h2 := h.right.left
        simpa [Ss] using h2
      have hr := step_read ho hB hA'
      refine .inl ⟨(r.Steps.take (i + 1), ((p + (Ss (r.Steps.take (i + 1))).length : Nat) : Int), ((i + 1 : Nat) : Int)), n - 1, ?_, by omega, i + 1, rfl, by omega, by omega⟩
      simp only [f25_s2, w, if_pos (show (i : Int) < r.Steps.length by omega), hr, Option.bind_some, if_true, appO_one' (show (r.Steps.take i).length ≤ 2000000 by rw [List.length_take]; omega), i64_id (show -9223372036854775808 ≤ (i : Int) + 1 by omega) (by omega)]
      simp only [take_succ_st hlt, Ss_append, Ss, List.append_nil, List.length_append, Int.natCast_add, Int.add_assoc]
      rfl
    · have : i = r.Steps.length := by omega
      subst this
      exact .inr ⟨_, by simp only [f25_s2, w, if_neg (show ¬ ((r.Steps.length : Nat) : Int) < r.Steps.length by omega), List.take_length], rfl⟩
  obtain ⟨q, hq, rfl⟩ := key
  rw [show (0 : Nat) = 0 from rfl] at r1
  simp only [Int.natCast_add, Nat.zero_add, Int.natCast_zero, Int.zero_add] at r1 r2 r3 r4 hp
  have r3' : f76 (By r) (((Tx r.Text).length : Int) + (Tx r.Input).length) 5 = some (cfgL r.Cfg, ((Tx r.Text).length : Int) + (Tx r.Input).length + (Zs (cfgL r.Cfg)).length, 0) := r3
  have hp' : ((Tx r.Text).length : Int) + (Tx r.Input).length + (Zs (cfgL r.Cfg)).length + (N (r.Steps.length : Int)).length = p := by omega
  rw [hp'] at r4
  rw [f25, r1]
  unfold cfgL at r3' r4
  simp only [Option.bind_some, if_true, r2, r3', cfgL, List.getElem?_cons_zero, List.getElem?_cons_succ]
  simp only [r4, Option.bind_some, if_true, if_neg (show ¬ (16384 : Int) < r.Steps.length by omega), hq, if_neg (show ¬ (((p + (Ss r.Steps).length : Nat) : Int)) < (By r).length by omega), strI h.t, strI h.i]
theorem good_run {r : Run} (h : OkRun r) : Good r.Steps := ⟨by have := h.sl; omega, fun s hs => by have := (h.s s hs).2.1; omega⟩
theorem get_run' {r : Run} (h : OkRun r) : f24 (By r) = some (r, 0) := by
  obtain ⟨R, a, b, _⟩ := get_eq (By_byt h) (by have := By_len h; omega)
  rw [get_run h] at b
  rw [a, ← b]
end Au
end Go.Proofs.Y1
