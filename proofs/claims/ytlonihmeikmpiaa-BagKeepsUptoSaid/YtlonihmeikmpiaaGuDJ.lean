/- Delete and Insert, as this library tells them; rows that are let go. -/
import Derived.Test.YtlonihmeikmpiaaGuDI
import Derived.Test.YtlonihmeikmpiaaGuLh
set_option linter.all false
set_option linter.unusedVariables false
set_option linter.unusedSimpArgs false
set_option linter.all false
namespace Go.Gm
theorem Ent.trim {N nx sz : Nat} {mu : Bool} {fr : Nat → AV} {hp : AHeap} {r1 r2 : List (List AV)} (t : Nat) (h : hp t = some (.row sz mu (r1 ++ r2))) : Ent N ⟨fr, hp, nx⟩ ⟨fr, upd hp t (some (.row sz mu r1)), nx⟩ := fun G a w hc => by
  obtain ⟨h1, h2, loc, hM, hr⟩ := conc_iff.1 hc
  clear hc
  have hmt : ∀ b, mtOf (upd hp t (some (.row sz mu r1))) loc b → mtOf hp loc b := by
    rintro b ⟨t', o', l', q1, q2, q3, q4, q5⟩
    by_cases e : t' = t
    · subst e; rw [upd_same] at q1; cases q1; exact ⟨t', _, l', h, q2, q3, q4, q5⟩
    · rw [upd_other _ _ e] at q1; exact ⟨t', o', l', q1, q2, q3, q4, q5⟩
  have x : Ext (mkE G.m1 hp (fun t => t < nx) loc w) (mkE G.m1 (upd hp t (some (.row sz mu r1))) (fun t => t < nx) loc w) :=
    mk_ext (fun _ h => h) (fun _ _ _ h => h) (Nat.le_refl _) (fun b _ => hmt b) (fun _ _ _ => rfl)
  refine conc_iff.2 ⟨h1, h2, loc, hM.change x (fun t' o' ho => ?_) (fun t' ho => ?_) hM.al_ hM.inj rfl rfl rfl (fun b hb => .inl (hmt b hb)) (fun t l q1 q2 => .inl ⟨t, l, q1, q2, rfl⟩), fun d => (hr d).ext x⟩
  · by_cases e : t' = t
    · subst e; rw [upd_same] at ho; cases ho
      obtain ⟨l, hl, g1, g2, g3, g4, g5, g6⟩ := hM.obj t' _ h
      refine .inr ⟨l, hl, g1, g2, fun r hr => g3 r (List.mem_append_left _ hr), ?_, g5, fun hpos => ?_⟩
      · have : r1.length * sz ≤ (r1 ++ r2).length * sz := Nat.mul_le_mul_right _ (by simp)
        omega
      · obtain ⟨c, e, fz, vs, k1, k2, k3, k4, k5, k6⟩ := g6 hpos
        rw [List.flatten_append] at k3
        obtain ⟨v1, v2, rfl, r1', _⟩ := k3.split
        refine ⟨c, e, fz, v1, k1, k2, r1'.ext x, fun v hv => k4 v (List.mem_append_left _ hv), fun k v hk => k5 k v ?_, k6⟩
        have : k < v1.length := (List.getElem?_eq_some_iff.1 hk).1
        rwa [List.getElem?_append_left this]
    · rw [upd_other _ _ e] at ho; exact .inl ⟨ho, rfl, fun _ _ _ => rfl⟩
  · by_cases e : t' = t
    · subst e; rw [upd_same] at ho; cases ho
    · rw [upd_other _ _ e] at ho; exact hM.none_ t' ho
theorem set_heap {w : World} {b o : Nat} {vs : List Value} {c : Array Value} {e : TypeId} {fz : Nat × Nat} (h : w.heap[b]? = some (.cells c e fz)) (hlen : o + vs.length ≤ c.size) (hfz : ∀ k, k < c.size → ¬ (fz.1 ≤ k ∧ k < fz.2)) (h1 : ∀ v ∈ vs, v.oneCell' = true) :
    (w.setCells b o vs).heap.size = w.heap.size ∧ (∀ b', b' ≠ b → (w.setCells b o vs).heap[b']? = w.heap[b']?) ∧ (w.setCells b o vs).os = w.os ∧ (w.setCells b o vs).tape = w.tape ∧ (w.setCells b o vs).output = w.output ∧
      ∃ c', (w.setCells b o vs).heap[b]? = some (.cells c' e fz) ∧ c'.size = c.size ∧ ∀ k, c'[k]? = if o ≤ k ∧ k < o + vs.length then vs[k - o]? else c[k]? := by
  obtain ⟨w', hr, hs, ho, a1, a2, a3, c', hc', hcs, hck⟩ := run_storeCells_gen (P := Go.Proofs.Try.prog) (g := b) (o := o) vs 0 w c e fz h (by omega) hfz h1
  have hcell : ∀ j, j < vs.length → (w.cell? ⟨b, o + 0 + j, none⟩).isSome = true := fun j hj => by
    simp only [World.cell?, h, Option.isSome_none, Bool.false_eq_true, if_false]
    rw [Array.getElem?_eq_getElem (by omega)]; rfl
  have hfr : ∀ j, j < vs.length → w.frozen? ⟨b, o + 0 + j, none⟩ = false := fun j hj => by
    simp only [World.frozen?, h]
    have := hfz (o + 0 + j) (by omega)
    simp only [Bool.and_eq_false_imp, decide_eq_true_eq, decide_eq_false_iff_not]
    first | (intro h; omega) | (simp; omega) | omega
  have h2 := run_storeCells_cells (P := Go.Proofs.Try.prog) b o vs 0 w hcell hfr h1
  rw [hr] at h2
  have e2 : w' = w.setCells b o vs := by
    have := Result.ok.inj h2
    simpa using this.2
  subst e2
  exact ⟨hs, ho, a1, a2, a3, c', hc', hcs, by simpa using hck⟩
theorem hpL_upd0 (o o' : Option AObj) : upd (hpL [o] []) 0 o' = hpL [o'] [] := by
  funext t
  by_cases ht : t = 0
  · subst ht; simp [upd, hpL]
  · have : ∀ q : Option AObj, hpL [q] [] t = none := fun q => by
      simp only [hpL]
      split
      · rw [List.getElem?_eq_none (by simp; omega)]; rfl
      · simp
    rw [upd_other _ _ ht, this, this]
theorem hpL_upd01 (o p o' : Option AObj) : upd (upd (hpL [o, p] []) 0 o') 1 none = hpL [o'] [] := by
  funext t
  by_cases h1 : t = 1
  · subst h1; simp [upd, hpL]
  · rw [upd_other _ _ h1]
    by_cases ht : t = 0
    · subst ht; simp [upd, hpL]
    · rw [upd_other _ _ ht]
      simp only [hpL]
      split
      · rw [List.getElem?_eq_none (by simp; omega), List.getElem?_eq_none (by simp; omega)]
      · simp
def zMsg : List AV := [.val (.int .i64 0), .val (.int .i64 0), .val (.slice none 0 0)]
theorem zMsg_tok (m : Nat) : tokLL m zMsg = true := by simp [zMsg, tokLL, tokL]
theorem zMsg_inl : inlL zMsg = true := by simp [zMsg, inlL, inl]
theorem zMsg_map (τ : Nat → Nat) : mapTL τ zMsg = zMsg := by simp [zMsg, mapTL, mapT]
theorem zMsg_rows (τ : Nat → Nat) (l : List (List AV)) : List.map (mapTL τ) (l ++ [zMsg]) = List.map (mapTL τ) l ++ [zMsg] := by simp [zMsg_map]
theorem zMsg_all (m : Nat) (l : List (List AV)) : (l ++ [zMsg]).all (tokLL m) = l.all (tokLL m) := by simp [zMsg_tok]
theorem zMsg_inlR (l : List (List AV)) : inlR (l ++ [zMsg]) = inlR l := by simp [inlR_append, inlR, zMsg_inl]
attribute [go_sem] zMsg_tok zMsg_inl zMsg_map zMsg_rows zMsg_all zMsg_inlR
theorem del_cells {vs zs : List Value} {c c1 c2 : Array Value} {st n i : Nat} (hi : i < n) (hvl : vs.length = n * 3) (k5 : ∀ k v, vs[k]? = some v → c[st + k]? = some v)
    (s8 : ∀ k, c1[k]? = if st + i * 3 ≤ k ∧ k < st + i * 3 + (vs.drop ((i + 1) * 3)).length then (vs.drop ((i + 1) * 3))[k - (st + i * 3)]? else c[k]?)
    (t8 : ∀ k, c2[k]? = if st + (n - 1) * 3 ≤ k ∧ k < st + (n - 1) * 3 + zs.length then zs[k - (st + (n - 1) * 3)]? else c1[k]?) :
    ∀ k v, (vs.take (i * 3) ++ vs.drop ((i + 1) * 3) ++ zs)[k]? = some v → c2[st + k]? = some v := fun k v hk => by
  have hd : (vs.drop ((i + 1) * 3)).length = (n - (i + 1)) * 3 := by rw [List.length_drop, hvl]; omega
  have ht : (vs.take (i * 3)).length = i * 3 := by rw [List.length_take, hvl]; omega
  have hlt : (vs.take (i * 3) ++ vs.drop ((i + 1) * 3)).length = (n - 1) * 3 := by rw [List.length_append, ht, hd]; omega
  rw [t8, s8, hd]
  by_cases hb : k < (n - 1) * 3
  · rw [if_neg (by omega)]
    rw [List.getElem?_append_left (by omega)] at hk
    by_cases ha : k < i * 3
    · rw [if_neg (by omega)]
      rw [List.getElem?_append_left (by omega), List.getElem?_take_of_lt ha] at hk
      exact k5 k v hk
    · rw [if_pos (by omega)]
      rw [List.getElem?_append_right (by omega), ht] at hk
      rw [← hk]; congr 1; omega
  · rw [List.getElem?_append_right (by omega), hlt] at hk
    have := (List.getElem?_eq_some_iff.1 hk).1
    rw [if_pos (by omega), ← hk]; congr 1; omega
theorem ins_cells {cs vs : List Value} {c c1 c2 : Array Value} {st n i : Nat} (hi : i ≤ n) (hcl : cs.length = n * 3) (hvl : vs.length = 3) (k5 : ∀ k v, cs[k]? = some v → c[st + k]? = some v)
    (s8 : ∀ k, c1[k]? = if st + (i + 1) * 3 ≤ k ∧ k < st + (i + 1) * 3 + (cs.drop (i * 3)).length then (cs.drop (i * 3))[k - (st + (i + 1) * 3)]? else c[k]?)
    (t8 : ∀ k, c2[k]? = if st + i * 3 ≤ k ∧ k < st + i * 3 + vs.length then vs[k - (st + i * 3)]? else c1[k]?) :
    ∀ k v, (cs.take (i * 3) ++ vs ++ cs.drop (i * 3))[k]? = some v → c2[st + k]? = some v := fun k v hk => by
  have hd : (cs.drop (i * 3)).length = (n - i) * 3 := by rw [List.length_drop, hcl]; omega
  have ht : (cs.take (i * 3)).length = i * 3 := by rw [List.length_take, hcl]; omega
  have hlt : (cs.take (i * 3) ++ vs).length = (i + 1) * 3 := by rw [List.length_append, ht, hvl]; omega
  rw [t8, s8, hd, hvl]
  by_cases hb : k < (i + 1) * 3
  · rw [List.getElem?_append_left (by omega)] at hk
    by_cases ha : k < i * 3
    · rw [if_neg (by omega), if_neg (by omega)]
      rw [List.getElem?_append_left (by omega), List.getElem?_take_of_lt ha] at hk
      exact k5 k v hk
    · rw [if_pos (by omega)]
      rw [List.getElem?_append_right (by omega), ht] at hk
      rw [← hk]; congr 1; omega
  · rw [List.getElem?_append_right (by omega), hlt] at hk
    have := (List.getElem?_eq_some_iff.1 hk).1
    rw [if_neg (by omega), if_pos (by omega), ← hk]; congr 1; omega
section
variable {α : Type} {enc : α → List AV}
theorem flat_len (he : ∀ x, (enc x).length = 3) (l : List α) : (l.map enc).flatten.length = l.length * 3 := by
  have := flatten_length (sz := 3) (rows := l.map enc) (fun r hr => by obtain ⟨x, _, rfl⟩ := List.mem_map.1 hr; exact he x)
  simpa using this
theorem ic_del (he : ∀ x, (enc x).length = 3) (l : List α) (i : Nat) (hi : i < l.length) (hn : l.length < 4611686018427387904) :
    IC Go.Proofs.Try.prog 120 [some (.row 3 true (l.map enc))] [.own 0 0 l.length, .val (.int .i64 i), .val (.int .i64 ((i : Int) + 1))] (.own 0 0 (l.eraseIdx i).length) [some (.row 3 true ((l.eraseIdx i).map enc ++ [zMsg]))] [] := by
  intro m w loc vs hm h8 hM hus
  have hle : (l.eraseIdx i).length = l.length - 1 := by rw [List.length_eraseIdx_of_lt hi]
  cases hus with
  | cons hv hus =>
  cases hus with
  | cons hv1 hus =>
  cases hus with
  | cons hv2 hus =>
  cases hus
  cases hv1; cases hv2
  rename_i v
  cases hv with
  | own ha hh =>
  obtain ⟨ld, hloc, hob⟩ := hM.obj 0 _ rfl
  obtain ⟨a, cap, rfl, hsz0, hcap, hlen, hadr⟩ := hh ld hloc
  obtain ⟨g1, g2, g3, g4, g5, g6⟩ := hob
  rw [g1, Nat.zero_add] at hcap
  rw [List.length_map] at g4
  have hlt : ld.st < ld.n := by omega
  obtain ⟨c, e, fz, vs, k1, k2, k3, k4, k5, k6⟩ := g6 hlt
  simp only [Nat.zero_mul, Nat.add_zero] at hadr
  have ha' := hadr (by omega)
  subst ha'
  have k1' : w.heap[ld.b]? = some (.cells c e fz) := k1
  have hvl : vs.length = l.length * 3 := by rw [← k3.length]; exact flat_len he l
  have hfz0 : ∀ k, k < c.size → ¬ (fz.1 ≤ k ∧ k < fz.2) := fun k hk => k6 k (.inl (by omega))
  have hcs : ∀ k v, vs[k]? = some v → w.cell? ⟨ld.b, ld.st + k, none⟩ = some v := fun k v hk => by
    simp only [World.cell?, k1', Option.isSome_none, Bool.false_eq_true, if_false]; exact k5 k v hk
  have hfr : ∀ k, k < l.length * 3 → w.frozen? ⟨ld.b, ld.st + k, none⟩ = false := fun k hk => by
    simp only [World.frozen?, k1']
    have := hfz0 (ld.st + k) (by omega)
    simp only [Bool.and_eq_false_imp, decide_eq_true_eq, decide_eq_false_iff_not]
    first | (intro h; omega) | (simp; omega) | omega
  refine (Go.Proofs.Di.del ld.b ld.st cap l.length i vs w hvl hcs k4 hfr hlen hi hn).mono ?_
  rintro e' w' ⟨rfl, rfl⟩
  have hd : (vs.drop ((i + 1) * 3)).length = (l.length - (i + 1)) * 3 := by rw [List.length_drop, hvl]; omega
  have hone2 : ∀ v ∈ Go.Proofs.Di.zs, v.oneCell' = true := by intro v hv; simp [Go.Proofs.Di.zs] at hv; rcases hv with rfl | rfl | rfl <;> rfl
  have k1d : w.drew.heap[ld.b]? = some (.cells c e fz) := k1'
  obtain ⟨s1, s2, s3, s4, s5, c1, s6, s7, s8⟩ := set_heap (w := w.drew) (o := ld.st + i * 3) (vs := vs.drop ((i + 1) * 3)) k1d (by rw [hd]; omega) hfz0 (fun v hv => k4 v (List.mem_of_mem_drop hv))
  obtain ⟨t1, t2, t3, t4, t5, c2, t6, t7, t8⟩ := set_heap (o := ld.st + (l.length - 1) * 3) (vs := Go.Proofs.Di.zs) s6 (by simp [Go.Proofs.Di.zs]; omega) (by rw [s7]; exact hfz0) hone2
  have hhp : hpL [some (.row 3 true (l.map enc))] [] 0 = some (.row 3 true (l.map enc)) := rfl
  have hw := hM.write (t := 0) (ob' := .row 3 true ((l.eraseIdx i).map enc ++ [zMsg])) hhp rfl rfl hloc hlt (w' := (w.drew.setCells ld.b (ld.st + i * 3) (vs.drop ((i + 1) * 3))).setCells ld.b (ld.st + (l.length - 1) * 3) Go.Proofs.Di.zs)
    (t1.trans s1) (fun b hb => (t2 b hb).trans (s2 b hb)) (t3.trans s3) (t4.trans s4) (t5.trans s5) (fun xx => ?_)
  · obtain ⟨hM', x'⟩ := hw
    rw [hpL_upd0] at hM' x'
    refine ⟨_, loc, rfl, hM', .own (by show 0 < 8 + 0; omega) fun l' hl' => ?_⟩
    have : l' = ld := by have h3 : loc 0 = some l' := hl'; rw [hloc] at h3; exact (Option.some.inj h3).symm
    subst this
    rw [hle]
    exact ⟨_, cap, rfl, by omega, by rw [g1, Nat.zero_add]; exact hcap, by omega, fun _ => by simp⟩
  · refine ⟨g1, g2, fun r hr => ?_, ?_, g5, fun _ => ⟨c2, e, fz, vs.take (i * 3) ++ vs.drop ((i + 1) * 3) ++ Go.Proofs.Di.zs, t6, by rw [t7, s7]; exact k2, ?_, ?_, ?_, k6⟩⟩
    · rcases List.mem_append.1 hr with h | h
      · obtain ⟨x, _, rfl⟩ := List.mem_map.1 h; exact he x
      · simp at h; subst h; rfl
    · simp [hle]; omega
    · have hz : RelL (mkE m (hpL [some (.row 3 true (l.map enc))] []) (fun t => t < 8) loc w) zMsg Go.Proofs.Di.zs := relL_vals Go.Proofs.Di.zs
      have hall : ∀ r ∈ l.map enc, r.length = 3 := fun r hr => by obtain ⟨x, _, rfl⟩ := List.mem_map.1 hr; exact he x
      have h1 := ((k3.take (i * 3)).append (k3.drop ((i + 1) * 3))).append hz
      have ee : ((l.eraseIdx i).map enc ++ [zMsg]).flatten = (l.map enc).flatten.take (i * 3) ++ (l.map enc).flatten.drop ((i + 1) * 3) ++ zMsg := by
        rw [← flatten_take hall, ← flatten_drop hall, List.eraseIdx_eq_take_drop_succ]
        simp only [List.map_append, List.map_take, List.map_drop, List.flatten_append, List.flatten_cons, List.flatten_nil, List.append_nil]
      rw [ee]
      exact h1.ext xx
    · intro v hv
      simp only [List.mem_append] at hv
      rcases hv with (hv | hv) | hv
      · exact k4 v (List.mem_of_mem_take hv)
      · exact k4 v (List.mem_of_mem_drop hv)
      · exact hone2 v hv
    · exact del_cells hi hvl k5 s8 t8
set_option maxHeartbeats 1000000 in
theorem ic_ins (he : ∀ x, (enc x).length = 3) (l : List α) (x : α) (j : Nat) (hj : j ≤ l.length) (hn : l.length < 4611686018427387904) {mu : Bool} :
    IC Go.Proofs.Try.prog 84 [some (.row 3 true (l.map enc ++ [zMsg])), some (.row 3 mu [enc x])] [.own 0 0 l.length, .val (.int .i64 j), .own 1 0 1] (.own 0 0 (l.length + 1)) [some (.row 3 true ((l.take j ++ x :: l.drop j).map enc))] [] := by
  intro m w loc vs hm h8 hM hus
  cases hus with
  | cons hv hus =>
  cases hus with
  | cons hv1 hus =>
  cases hus with
  | cons hv2 hus =>
  cases hus
  cases hv1
  rename_i v v2
  cases hv with
  | own ha hh =>
  cases hv2 with
  | own ha2 hh2 =>
  obtain ⟨ld, hloc, hob⟩ := hM.obj 0 _ rfl
  obtain ⟨le, hloc2, hob2⟩ := hM.obj 1 _ rfl
  obtain ⟨a, cap, rfl, hsz0, hcap, hlen, hadr⟩ := hh ld hloc
  obtain ⟨a2, cap2, rfl, hsz02, hcap2, hlen2, hadr2⟩ := hh2 le hloc2
  obtain ⟨g1, g2, g3, g4, g5, g6⟩ := hob
  obtain ⟨f1, f2, f3, f4, f5, f6⟩ := hob2
  rw [g1, Nat.zero_add] at hcap
  rw [f1, Nat.zero_add] at hcap2
  rw [List.length_append, List.length_map] at g4
  simp only [List.length_cons, List.length_nil] at g4 f4
  have hlt : ld.st < ld.n := by omega
  have hlt2 : le.st < le.n := by omega
  obtain ⟨c, e, fz, vs, k1, k2, k3, k4, k5, k6⟩ := g6 hlt
  obtain ⟨c', e', fz', vx, q1, q2, q3, q4, q5, q6⟩ := f6 hlt2
  simp only [Nat.zero_mul, Nat.add_zero] at hadr hadr2
  have ha' := hadr (by omega)
  subst ha'
  have ha2' := hadr2 (by omega)
  subst ha2'
  have hne : le.b ≠ ld.b := fun h => by have := hM.inj 1 0 le ld hloc2 hloc hlt2 hlt h; omega
  have k1' : w.heap[ld.b]? = some (.cells c e fz) := k1
  have q1' : w.heap[le.b]? = some (.cells c' e' fz') := q1
  simp only [List.flatten_cons, List.flatten_nil, List.append_nil] at q3
  have hvx : vx.length = 3 := by rw [← q3.length]; exact he x
  rw [List.flatten_append] at k3
  obtain ⟨cs, v2s, rfl, r1, _⟩ := k3.split
  have hcl : cs.length = l.length * 3 := by rw [← r1.length]; exact flat_len he l
  have k5' : ∀ k v, cs[k]? = some v → c[ld.st + k]? = some v := fun k v hk => k5 k v (by
    have : k < cs.length := (List.getElem?_eq_some_iff.1 hk).1
    rwa [List.getElem?_append_left this])
  have k4' : ∀ v ∈ cs, v.oneCell' = true := fun v hv => k4 v (List.mem_append_left _ hv)
  have hfz0 : ∀ k, k < c.size → ¬ (fz.1 ≤ k ∧ k < fz.2) := fun k hk => k6 k (.inl (by omega))
  have hcs : ∀ k v, cs[k]? = some v → w.cell? ⟨ld.b, ld.st + k, none⟩ = some v := fun k v hk => by
    simp only [World.cell?, k1', Option.isSome_none, Bool.false_eq_true, if_false]; exact k5' k v hk
  have hvs : ∀ k v, vx[k]? = some v → w.cell? ⟨le.b, le.st + k, none⟩ = some v := fun k v hk => by
    simp only [World.cell?, q1', Option.isSome_none, Bool.false_eq_true, if_false]; exact q5 k v hk
  have hfr : ∀ k, k < (l.length + 1) * 3 → w.frozen? ⟨ld.b, ld.st + k, none⟩ = false := fun k hk => by
    simp only [World.frozen?, k1']
    have := hfz0 (ld.st + k) (by omega)
    simp only [Bool.and_eq_false_imp, decide_eq_true_eq, decide_eq_false_iff_not]
    first | (intro h; omega) | (simp; omega) | omega
  have hsp : ∀ k, k < (l.length + 1) * 3 → (w.cell? ⟨ld.b, ld.st + k, none⟩).isSome = true := fun k hk => by
    simp only [World.cell?, k1', Option.isSome_none, Bool.false_eq_true, if_false]
    rw [Array.getElem?_eq_getElem (by omega)]; rfl
  have hfa : w.frozen? ⟨le.b, le.st, none⟩ = false := by
    simp only [World.frozen?, q1']
    have := q6 le.st (.inl hlt2)
    simp only [Bool.and_eq_false_imp, decide_eq_true_eq, decide_eq_false_iff_not]
    first | (intro h; omega) | (simp; omega) | omega
  have hfe : w.frozen? ⟨le.b, c'.size, none⟩ = false := by
    simp only [World.frozen?, q1']
    have := q6 le.n (.inr ⟨by omega, rfl⟩)
    rw [q2]
    simp only [Bool.and_eq_false_imp, decide_eq_true_eq, decide_eq_false_iff_not]
    first | (intro h; omega) | (simp; omega) | omega
  have hsa : w.shape? le.b = some (e', c'.size) := by simp only [World.shape?, q1']
  have hsb : w.shape? ld.b = some (e, c.size) := by simp only [World.shape?, k1']
  have hroom : l.length + 1 ≤ cap := by omega
  have hlenx : (l.take j ++ x :: l.drop j).length = l.length + 1 := by simp; omega
  -- what is there afterwards
  have fin : ∀ (w2 : World) (c2 : Array Value), w2.heap.size = w.heap.size → (∀ b, b ≠ ld.b → w2.heap[b]? = w.heap[b]?) → w2.os = w.os → w2.tape = w.tape → w2.output = w.output → w2.heap[ld.b]? = some (.cells c2 e fz) → c2.size = c.size →
      (∀ k v, (cs.take (j * 3) ++ vx ++ cs.drop (j * 3))[k]? = some v → c2[ld.st + k]? = some v) →
      ∃ v loc', Ending.returned (.slice (some ⟨ld.b, ld.st, none⟩) (l.length + 1) cap) = Ending.returned v ∧
        Mem ⟨w, mtOf (hpL [some (.row 3 true (l.map enc ++ [zMsg])), some (.row 3 mu [enc x])] []) loc, m, hm, _, loc, h8⟩ (hpL [some (.row 3 true ((l.take j ++ x :: l.drop j).map enc))] []) (fun t => t < 8 + ([] : List (Option AObj)).length) loc' w2 ∧
        Rel (mkE m (hpL [some (.row 3 true ((l.take j ++ x :: l.drop j).map enc))] []) (fun t => t < 8 + ([] : List (Option AObj)).length) loc' w2) (.own 0 0 (l.length + 1)) v := by
    intro w2 c2 t1 t2 t3 t4 t5 t6 t7 t8
    have hhp : hpL [some (.row 3 true (l.map enc ++ [zMsg])), some (.row 3 mu [enc x])] [] 0 = some (.row 3 true (l.map enc ++ [zMsg])) := rfl
    have hw := hM.write (t := 0) (ob' := .row 3 true ((l.take j ++ x :: l.drop j).map enc)) hhp rfl rfl hloc hlt (w' := w2) t1 t2 t3 t4 t5 (fun xx => ?_)
    · obtain ⟨hM', x'⟩ := hw
      obtain ⟨hM2, _⟩ := hM'.drop 1
      rw [hpL_upd01] at hM2
      refine ⟨_, _, rfl, hM2, .own (by show 0 < 8 + 0; omega) fun l' hl' => ?_⟩
      have : l' = ld := by
        have h3 : upd loc 1 none 0 = some l' := hl'
        rw [upd_other _ _ (by omega), hloc] at h3; exact (Option.some.inj h3).symm
      subst this
      exact ⟨_, cap, rfl, by omega, by rw [g1, Nat.zero_add]; exact hcap, by omega, fun _ => by simp⟩
    · refine ⟨g1, g2, fun r hr => ?_, ?_, g5, fun _ => ⟨c2, e, fz, cs.take (j * 3) ++ vx ++ cs.drop (j * 3), t6, by rw [t7]; exact k2, ?_, ?_, t8, k6⟩⟩
      · obtain ⟨y, _, rfl⟩ := List.mem_map.1 hr; exact he y
      · rw [List.length_map, hlenx]; omega
      · have hall : ∀ r ∈ l.map enc, r.length = 3 := fun r hr => by obtain ⟨y, _, rfl⟩ := List.mem_map.1 hr; exact he y
        have h1 := ((r1.take (j * 3)).append q3).append (r1.drop (j * 3))
        have ee : ((l.take j ++ x :: l.drop j).map enc).flatten = (l.map enc).flatten.take (j * 3) ++ enc x ++ (l.map enc).flatten.drop (j * 3) := by
          rw [← flatten_take hall, ← flatten_drop hall]
          simp only [List.map_append, List.map_cons, List.map_take, List.map_drop, List.flatten_append, List.flatten_cons, List.append_assoc]
        rw [ee]
        exact h1.ext xx
      · intro v hv
        simp only [List.mem_append] at hv
        rcases hv with (hv | hv) | hv
        · exact k4' v (List.mem_of_mem_take hv)
        · exact q4 v hv
        · exact k4' v (List.mem_of_mem_drop hv)
  by_cases hjn : j < l.length
  · refine (Go.Proofs.Di.ins_shift ld.b ld.st l.length cap j le.b le.st cap2 cs vx w hjn hroom hn hne hcl hvx hcs hsp hfr hvs k4' q4 e' e c'.size c.size hsa hsb (by omega) hfa hfe).mono ?_
    rintro e1 w' ⟨rfl, rfl⟩
    have k1d : w.drew.heap[ld.b]? = some (.cells c e fz) := k1'
    have hd : (cs.drop (j * 3)).length = (l.length - j) * 3 := by rw [List.length_drop, hcl]; omega
    obtain ⟨s1, s2, s3, s4, s5, c1, s6, s7, s8⟩ := set_heap (w := w.drew) (o := ld.st + (j + 1) * 3) (vs := cs.drop (j * 3)) k1d (by rw [hd]; omega) hfz0 (fun v hv => k4' v (List.mem_of_mem_drop hv))
    obtain ⟨t1, t2, t3, t4, t5, c2, t6, t7, t8⟩ := set_heap (o := ld.st + j * 3) (vs := vx) s6 (by rw [s7]; omega) (by rw [s7]; exact hfz0) q4
    exact fin _ c2 (t1.trans s1) (fun b hb => (t2 b hb).trans (s2 b hb)) (t3.trans s3) (t4.trans s4) (t5.trans s5) t6 (t7.trans s7) (ins_cells hj hcl hvx k5' s8 t8)
  · obtain rfl : j = l.length := by omega
    refine (Go.Proofs.Di.ins_end ld.b ld.st l.length cap le.b le.st cap2 vx w hroom hn hvx (fun k hk => by rw [Nat.add_assoc]; exact hsp _ (by omega)) (fun k hk => by rw [Nat.add_assoc]; exact hfr _ (by omega)) hvs q4).mono ?_
    rintro e1 w' ⟨rfl, rfl⟩
    obtain ⟨t1, t2, t3, t4, t5, c2, t6, t7, t8⟩ := set_heap (o := ld.st + l.length * 3) (vs := vx) k1' (by omega) hfz0 q4
    refine fin _ c2 t1 t2 t3 t4 t5 t6 t7 fun k v hk => ?_
    have ht : cs.take (l.length * 3) = cs := List.take_of_length_le (by omega)
    have hdd : cs.drop (l.length * 3) = [] := List.drop_of_length_le (by omega)
    rw [ht, hdd, List.append_nil] at hk
    rw [t8, hvx]
    by_cases hb : k < l.length * 3
    · rw [if_neg (by omega)]
      rw [List.getElem?_append_left (by omega)] at hk
      exact k5' k v hk
    · rw [List.getElem?_append_right (by omega)] at hk
      have := (List.getElem?_eq_some_iff.1 hk).1
      rw [if_pos (by omega), ← hk]; congr 1; omega
end
end Go.Gm
