import Derived.Test.YtpdgnhhjaaencaaGmLc
import Derived.Scope
set_option linter.all false
set_option linter.unusedVariables false
set_option linter.unusedSimpArgs false
set_option linter.unusedVariables false
set_option linter.unusedSimpArgs false
namespace Go.Gm

def anyF : Nat → AV := fun _ => .any

/-! ### The run in text order -/
section
variable {P : Program} {N : Nat} {ops rest : List Oper} {d : Option Tmp} {op : Op} {ty : TypeId} {pos : String} {af : Array Edge} {fr : Nat → AV} {hp : AHeap} {nx : Nat} {Q : ASt → Prop}

def arK (P : Program) (N : Nat) (ops rest : List Oper) (d : Option Tmp) (fr : Nat → AV) (hp : AHeap) (nx : Nat) (Q : ASt → Prop) (r : Option AR) : Prop := match r with
  | some r => okD N d = true ∧ arun P N ops rest ⟨putF fr d r.v, applyEff hp r.eff, nx + 8⟩ Q
  | none => False
theorem arK_some {v : AV} {eff : List (Nat × Option AObj)} : arK P N ops rest d fr hp nx Q (some ⟨v, eff⟩) = (okD N d = true ∧ arun P N ops rest ⟨putF fr d v, applyEff hp eff, nx + 8⟩ Q) := (rfl)
theorem ar_o (h : callV (evF fr) ⟨d, op, ty, pos, af, none⟩ = none) : arun P N ops (⟨d, op, ty, pos, af, none⟩ :: rest) ⟨fr, hp, nx⟩ Q = arK P N ops rest d fr hp nx Q (aop P noFt (evF fr) hp nx ⟨d, op, ty, pos, af, none⟩) := by
  simp only [arun, wantedA, h, if_true]
  rfl

theorem ar_move {x : Operand} : arun P N ops (⟨d, .move x, ty, pos, af, none⟩ :: rest) ⟨fr, hp, nx⟩ Q = arK P N ops rest d fr hp nx Q (aop P noFt (evF fr) hp nx ⟨d, .move x, ty, pos, af, none⟩) := ar_o rfl
theorem ar_assign {x : Operand} : arun P N ops (⟨d, .assign x, ty, pos, af, none⟩ :: rest) ⟨fr, hp, nx⟩ Q = arK P N ops rest d fr hp nx Q (aop P noFt (evF fr) hp nx ⟨d, .assign x, ty, pos, af, none⟩) := ar_o rfl
theorem ar_pick {x y z : Operand} : arun P N ops (⟨d, .pick x y z, ty, pos, af, none⟩ :: rest) ⟨fr, hp, nx⟩ Q = arK P N ops rest d fr hp nx Q (aop P noFt (evF fr) hp nx ⟨d, .pick x y z, ty, pos, af, none⟩) := ar_o rfl
theorem ar_alloc {e : TypeId} : arun P N ops (⟨d, .alloc e, ty, pos, af, none⟩ :: rest) ⟨fr, hp, nx⟩ Q = arK P N ops rest d fr hp nx Q (aop P noFt (evF fr) hp nx ⟨d, .alloc e, ty, pos, af, none⟩) := ar_o rfl
theorem ar_box {e : TypeId} {x : Operand} : arun P N ops (⟨d, .box e x, ty, pos, af, none⟩ :: rest) ⟨fr, hp, nx⟩ Q = arK P N ops rest d fr hp nx Q (aop P noFt (evF fr) hp nx ⟨d, .box e x, ty, pos, af, none⟩) := ar_o rfl
theorem ar_build {e : TypeId} {x : Array (Nat × Operand)} : arun P N ops (⟨d, .build e x, ty, pos, af, none⟩ :: rest) ⟨fr, hp, nx⟩ Q = arK P N ops rest d fr hp nx Q (aop P noFt (evF fr) hp nx ⟨d, .build e x, ty, pos, af, none⟩) := ar_o rfl
theorem ar_buildSlice {e : TypeId} {n : Nat} {x : Array (Nat × Operand)} : arun P N ops (⟨d, .buildSlice e n x, ty, pos, af, none⟩ :: rest) ⟨fr, hp, nx⟩ Q = arK P N ops rest d fr hp nx Q (aop P noFt (evF fr) hp nx ⟨d, .buildSlice e n x, ty, pos, af, none⟩) := ar_o rfl
theorem ar_load {e : TypeId} {x : Operand} : arun P N ops (⟨d, .load e x, ty, pos, af, none⟩ :: rest) ⟨fr, hp, nx⟩ Q = arK P N ops rest d fr hp nx Q (aop P noFt (evF fr) hp nx ⟨d, .load e x, ty, pos, af, none⟩) := ar_o rfl
theorem ar_store {e : TypeId} {x y : Operand} : arun P N ops (⟨d, .store e x y, ty, pos, af, none⟩ :: rest) ⟨fr, hp, nx⟩ Q = arK P N ops rest d fr hp nx Q (aop P noFt (evF fr) hp nx ⟨d, .store e x y, ty, pos, af, none⟩) := ar_o rfl
theorem ar_nilCheck {x : Operand} : arun P N ops (⟨d, .nilCheck x, ty, pos, af, none⟩ :: rest) ⟨fr, hp, nx⟩ Q = arK P N ops rest d fr hp nx Q (aop P noFt (evF fr) hp nx ⟨d, .nilCheck x, ty, pos, af, none⟩) := ar_o rfl
theorem ar_fieldAddr {e : TypeId} {x : Operand} {f : Nat} : arun P N ops (⟨d, .fieldAddr e x f, ty, pos, af, none⟩ :: rest) ⟨fr, hp, nx⟩ Q = arK P N ops rest d fr hp nx Q (aop P noFt (evF fr) hp nx ⟨d, .fieldAddr e x f, ty, pos, af, none⟩) := ar_o rfl
theorem ar_field {e : TypeId} {x : Operand} {f : Nat} : arun P N ops (⟨d, .field e x f, ty, pos, af, none⟩ :: rest) ⟨fr, hp, nx⟩ Q = arK P N ops rest d fr hp nx Q (aop P noFt (evF fr) hp nx ⟨d, .field e x f, ty, pos, af, none⟩) := ar_o rfl
theorem ar_indexAddr {e : TypeId} {x y : Operand} : arun P N ops (⟨d, .indexAddr e x y, ty, pos, af, none⟩ :: rest) ⟨fr, hp, nx⟩ Q = arK P N ops rest d fr hp nx Q (aop P noFt (evF fr) hp nx ⟨d, .indexAddr e x y, ty, pos, af, none⟩) := ar_o rfl
theorem ar_index {e : TypeId} {x y : Operand} : arun P N ops (⟨d, .index e x y, ty, pos, af, none⟩ :: rest) ⟨fr, hp, nx⟩ Q = arK P N ops rest d fr hp nx Q (aop P noFt (evF fr) hp nx ⟨d, .index e x y, ty, pos, af, none⟩) := ar_o rfl
theorem ar_slice {e : TypeId} {x : Operand} {l h m : Option Operand} : arun P N ops (⟨d, .slice e x l h m, ty, pos, af, none⟩ :: rest) ⟨fr, hp, nx⟩ Q = arK P N ops rest d fr hp nx Q (aop P noFt (evF fr) hp nx ⟨d, .slice e x l h m, ty, pos, af, none⟩) := ar_o rfl
theorem ar_extract {x : Operand} {i : Nat} : arun P N ops (⟨d, .extract x i, ty, pos, af, none⟩ :: rest) ⟨fr, hp, nx⟩ Q = arK P N ops rest d fr hp nx Q (aop P noFt (evF fr) hp nx ⟨d, .extract x i, ty, pos, af, none⟩) := ar_o rfl
theorem ar_bin {o : BinOp} {t u : TypeId} {x y : Operand} : arun P N ops (⟨d, .binOp o t x y u, ty, pos, af, none⟩ :: rest) ⟨fr, hp, nx⟩ Q = arK P N ops rest d fr hp nx Q (aop P noFt (evF fr) hp nx ⟨d, .binOp o t x y u, ty, pos, af, none⟩) := ar_o rfl
theorem ar_un {o : UnOp} {t : TypeId} {x : Operand} : arun P N ops (⟨d, .unOp o t x, ty, pos, af, none⟩ :: rest) ⟨fr, hp, nx⟩ Q = arK P N ops rest d fr hp nx Q (aop P noFt (evF fr) hp nx ⟨d, .unOp o t x, ty, pos, af, none⟩) := ar_o rfl
theorem ar_convert {s t : TypeId} {x : Operand} : arun P N ops (⟨d, .convert s t x, ty, pos, af, none⟩ :: rest) ⟨fr, hp, nx⟩ Q = arK P N ops rest d fr hp nx Q (aop P noFt (evF fr) hp nx ⟨d, .convert s t x, ty, pos, af, none⟩) := ar_o rfl
theorem ar_makeFunc {f : Fn} {x y : Array Operand} : arun P N ops (⟨d, .makeFunc f x y, ty, pos, af, none⟩ :: rest) ⟨fr, hp, nx⟩ Q = arK P N ops rest d fr hp nx Q (aop P noFt (evF fr) hp nx ⟨d, .makeFunc f x y, ty, pos, af, none⟩) := ar_o rfl
theorem ar_makeInterface {t : TypeId} {x : Operand} : arun P N ops (⟨d, .makeInterface t x, ty, pos, af, none⟩ :: rest) ⟨fr, hp, nx⟩ Q = arK P N ops rest d fr hp nx Q (aop P noFt (evF fr) hp nx ⟨d, .makeInterface t x, ty, pos, af, none⟩) := ar_o rfl
theorem ar_makeSlice {t : TypeId} {x y : Operand} : arun P N ops (⟨d, .makeSlice t x y, ty, pos, af, none⟩ :: rest) ⟨fr, hp, nx⟩ Q = arK P N ops rest d fr hp nx Q (aop P noFt (evF fr) hp nx ⟨d, .makeSlice t x y, ty, pos, af, none⟩) := ar_o rfl
theorem ar_builtin {b : Builtin} {args : Array Operand} {tys : Array TypeId} : arun P N ops (⟨d, .call ⟨.builtin b, args, tys⟩, ty, pos, af, none⟩ :: rest) ⟨fr, hp, nx⟩ Q = arK P N ops rest d fr hp nx Q (aop P noFt (evF fr) hp nx ⟨d, .call ⟨.builtin b, args, tys⟩, ty, pos, af, none⟩) := ar_o rfl
/-- A call under a contract. -/
def arC (P : Program) (N : Nat) (ops rest : List Oper) (d : Option Tmp) (fr : Nat → AV) (hp : AHeap) (nx : Nat) (Q : ASt → Prop) (f : FuncId) (us : List AV) (o : Option (List AV)) : Prop :=
  CallK P f us hp nx o fun v hp' => okD N d = true ∧ arun P N ops rest ⟨putF fr d v, hp', nx + 8⟩ Q
theorem ar_call {f : FuncId} {args : Array Operand} {tys : Array TypeId} : arun P N ops (⟨d, .call ⟨.value (.func f), args, tys⟩, ty, pos, af, none⟩ :: rest) ⟨fr, hp, nx⟩ Q = arC P N ops rest d fr hp nx Q f (args.toList.map (evF fr)) (resL hp (args.toList.map (evF fr))) := by
  simp only [arun, wantedA, callV, if_true]
  rfl
/-- A call of a function value. -/
def arV (P : Program) (N : Nat) (ops rest : List Oper) (d : Option Tmp) (fr : Nat → AV) (hp : AHeap) (nx : Nat) (Q : ASt → Prop) (args : List AV) (v : AV) (other : Prop) : Prop := match v with
  | .clo (.func f) first captured => arC P N ops rest d fr hp nx Q f (first ++ args ++ captured) (resL hp (first ++ args ++ captured))
  | _ => other
theorem ar_callV {t : Tmp} {args : Array Operand} {tys : Array TypeId} : arun P N ops (⟨d, .call ⟨.value (.tmp t), args, tys⟩, ty, pos, af, none⟩ :: rest) ⟨fr, hp, nx⟩ Q = arV P N ops rest d fr hp nx Q (args.toList.map (evF fr)) (fr t) (arK P N ops rest d fr hp nx Q (aop P noFt (evF fr) hp nx ⟨d, .call ⟨.value (.tmp t), args, tys⟩, ty, pos, af, none⟩)) := by
  unfold arV
  split
  · rename_i f first captured h
    have hv : callV (evF fr) ⟨d, .call ⟨.value (.tmp t), args, tys⟩, ty, pos, af, none⟩ = some (f, first ++ args.toList.map (evF fr) ++ captured) := by
      simp only [callV, evF, h]
    simp only [arun, wantedA, hv, if_true]
    rfl
  · rename_i h
    refine ar_o ?_
    show (match fr t with
      | .clo (.func f) first captured => some (f, first ++ args.toList.map (evF fr) ++ captured)
      | _ => none) = none
    split
    · rename_i f first captured h2; exact absurd h2 (h f first captured)
    · rfl
theorem arC.of {f : FuncId} {us xs : List AV} {X : AV} (h : PC P f xs X) (he : Enter P f) (hk : okD N d = true ∧ (claimV X nx).2.length ≤ 8 ∧ arun P N ops rest ⟨putF fr d (claimV X nx).1, afterCall us X hp nx, nx + 8⟩ Q) : arC P N ops rest d fr hp nx Q f us (some xs) := .inl ⟨xs, X, rfl, h, he, hk.2.1, hk.1, hk.2.2⟩
theorem arC.ok {f : FuncId} {us : List AV} {o : Option (List AV)} {r : AR} (h : CallOk P f us hp nx r) (he : Enter P f) (hk : okD N d = true ∧ arun P N ops rest ⟨putF fr d r.v, applyEff hp r.eff, nx + 8⟩ Q) : arC P N ops rest d fr hp nx Q f us o := .inr ⟨r, h, he, hk⟩

/-- A guarded operation. -/
def gval (fr : Nat → AV) : Option Tmp → AV
  | some d => fr d
  | none => .any
theorem gval_some {d : Tmp} : gval fr (some d) = fr d := (rfl)
def arG (P : Program) (N : Nat) (ops : List Oper) (d : Option Tmp) (op : Op) (ty : TypeId) (pos : String) (af : Array Edge) (rest : List Oper) (fr : Nat → AV) (hp : AHeap) (nx : Nat) (Q : ASt → Prop) (w : AV) (b : Bool) : Prop := match w with
  | .val (.bool c) => if (c == b) = true then arun P N ops (⟨d, op, ty, pos, af, none⟩ :: rest) ⟨fr, hp, nx⟩ Q else okD N d = true ∧ arun P N ops rest ⟨putF fr d (.val undef), hp, nx + 8⟩ Q
  | .val (.tuple _) => okD N d = true ∧ arun P N ops rest ⟨putF fr d (.val undef), hp, nx + 8⟩ Q
  | _ => False
theorem ar_g {j : Nat} {b : Bool} : arun P N ops (⟨d, op, ty, pos, af, some (j, b)⟩ :: rest) ⟨fr, hp, nx⟩ Q = arG P N ops d op ty pos af rest fr hp nx Q (gval fr ((ops[j]?).bind (·.dst))) b := by
  unfold arG
  conv => lhs; unfold arun
  simp only [wantedA]
  cases hj : (ops[j]?).bind (·.dst) with
  | none => simp [gval]
  | some dj =>
    simp only [gval]
    cases hv : fr dj with
    | val v =>
      cases v with
      | bool c =>
        simp only
        by_cases hcb : (c == b) = true
        · rw [if_pos hcb, if_pos hcb, arun]; rfl
        · rw [if_neg hcb, if_neg hcb]
      | tuple vs => simp
      | _ => rfl
    | _ => rfl
theorem arG_tt : arG P N ops d op ty pos af rest fr hp nx Q (.val (.bool true)) true = arun P N ops (⟨d, op, ty, pos, af, none⟩ :: rest) ⟨fr, hp, nx⟩ Q := (rfl)
theorem arG_ff : arG P N ops d op ty pos af rest fr hp nx Q (.val (.bool false)) false = arun P N ops (⟨d, op, ty, pos, af, none⟩ :: rest) ⟨fr, hp, nx⟩ Q := (rfl)
theorem arG_un {b : Bool} : arG P N ops d op ty pos af rest fr hp nx Q (.val undef) b = (okD N d = true ∧ arun P N ops rest ⟨putF fr d (.val undef), hp, nx + 8⟩ Q) := (rfl)
theorem arG_tf : arG P N ops d op ty pos af rest fr hp nx Q (.val (.bool true)) false = (okD N d = true ∧ arun P N ops rest ⟨putF fr d (.val undef), hp, nx + 8⟩ Q) := (rfl)
theorem arG_ft : arG P N ops d op ty pos af rest fr hp nx Q (.val (.bool false)) true = (okD N d = true ∧ arun P N ops rest ⟨putF fr d (.val undef), hp, nx + 8⟩ Q) := (rfl)
end
theorem ar_nil {P : Program} {N : Nat} {ops : List Oper} {fr : Nat → AV} {hp : AHeap} {nx : Nat} {Q : ASt → Prop} : arun P N ops [] ⟨fr, hp, nx⟩ Q = Q ⟨fr, hp, nx⟩ := (rfl)
theorem applyEff_nil (hp : AHeap) : applyEff hp [] = hp := (rfl)
theorem applyEff_cons (hp : AHeap) (t : Nat) (o : Option AObj) (l : List (Nat × Option AObj)) : applyEff hp ((t, o) :: l) = applyEff (upd hp t o) l := (rfl)

/-! ### The run of a region that draws -/
section
variable {P : Program} {ft : FuncId → List AV → Option AV} {N : Nat} {ops : List Oper} {rest : List (Nat × Oper)} {A : List (List Nat)} {base i : Nat} {d : Option Tmp} {op : Op} {ty : TypeId} {pos : String} {af : Array Edge} {fr : Nat → AV} {hp : AHeap}
  {acc : List (Nat × List Nat × List Nat)} {Q : (Nat → AV) → AHeap → Prop}

theorem pick_nil : pick ops [] = [] := (rfl)
def pickO (ops : List Oper) (i : Nat) (l : List Nat) (o : Option Oper) : List (Nat × Oper) := match o with
  | some o => (i, o) :: pick ops l
  | none => pick ops l
theorem pick_cons {l : List Nat} : pick ops (i :: l) = pickO ops i l (ops[i]?) := (rfl)
theorem pickO_some {l : List Nat} {o : Oper} : pickO ops i l (some o) = (i, o) :: pick ops l := (rfl)
def adN (P : Program) (ft : FuncId → List AV → Option AV) (N : Nat) (ops : List Oper) (A : List (List Nat)) (base : Nat) (rest : List (Nat × Oper)) (i : Nat) (d : Option Tmp) (fr : Nat → AV) (hp : AHeap) (acc : List (Nat × List Nat × List Nat)) (Q : (Nat → AV) → AHeap → Prop) (o : Oper) : Prop :=
  ∃ f us r T, callV (evF fr) o = some (f, us) ∧ Enter P f ∧ (∀ hp', Agree hp hp' T → CallOk P f us hp' (base + 8 * i) r) ∧ okD N d = true ∧ OkPair A i T (r.eff.map (·.1)) acc ∧
    adrun P ft N ops A base rest (putF fr d r.v) (applyEff hp r.eff) (accE i T (r.eff.map (·.1)) acc) Q
def adK (P : Program) (ft : FuncId → List AV → Option AV) (N : Nat) (ops : List Oper) (A : List (List Nat)) (base : Nat) (rest : List (Nat × Oper)) (i : Nat) (d : Option Tmp) (fr : Nat → AV) (hp : AHeap) (acc : List (Nat × List Nat × List Nat)) (Q : (Nat → AV) → AHeap → Prop) (o : Oper) (T : List Nat) (r : Option AR) : Prop := match r with
  | some r => okD N d = true ∧ OkPair A i T (r.eff.map (·.1)) acc ∧ adrun P ft N ops A base rest (putF fr d r.v) (applyEff hp r.eff) (accE i T (r.eff.map (·.1)) acc) Q
  | none => adN P ft N ops A base rest i d fr hp acc Q o
theorem adK_some {T : List Nat} {o : Oper} {v : AV} {eff : List (Nat × Option AObj)} : adK P ft N ops A base rest i d fr hp acc Q o T (some ⟨v, eff⟩) = (okD N d = true ∧ OkPair A i T (eff.map (·.1)) acc ∧ adrun P ft N ops A base rest (putF fr d v) (applyEff hp eff) (accE i T (eff.map (·.1)) acc) Q) := (rfl)
theorem adK_none {T : List Nat} {o : Oper} : adK P ft N ops A base rest i d fr hp acc Q o T none = adN P ft N ops A base rest i d fr hp acc Q o := (rfl)
theorem ad_o : adrun P ft N ops A base ((i, ⟨d, op, ty, pos, af, none⟩) :: rest) fr hp acc Q = adK P ft N ops A base rest i d fr hp acc Q ⟨d, op, ty, pos, af, none⟩ (touch (evF fr) ⟨d, op, ty, pos, af, none⟩) (aop P ft (evF fr) hp (base + 8 * i) ⟨d, op, ty, pos, af, none⟩) := by
  simp only [adrun, wantedA, if_true]
  rfl
def adG (P : Program) (ft : FuncId → List AV → Option AV) (N : Nat) (ops : List Oper) (A : List (List Nat)) (base : Nat) (d : Option Tmp) (op : Op) (ty : TypeId) (pos : String) (af : Array Edge) (rest : List (Nat × Oper)) (i : Nat) (fr : Nat → AV) (hp : AHeap) (acc : List (Nat × List Nat × List Nat)) (Q : (Nat → AV) → AHeap → Prop) (w : AV) (b : Bool) : Prop := match w with
  | .val (.bool c) => if (c == b) = true then adrun P ft N ops A base ((i, ⟨d, op, ty, pos, af, none⟩) :: rest) fr hp acc Q else okD N d = true ∧ adrun P ft N ops A base rest (putF fr d (.val undef)) hp acc Q
  | .val (.tuple _) => okD N d = true ∧ adrun P ft N ops A base rest (putF fr d (.val undef)) hp acc Q
  | _ => False
theorem ad_g {j : Nat} {b : Bool} : adrun P ft N ops A base ((i, ⟨d, op, ty, pos, af, some (j, b)⟩) :: rest) fr hp acc Q = adG P ft N ops A base d op ty pos af rest i fr hp acc Q (gval fr ((ops[j]?).bind (·.dst))) b := by
  unfold adG
  conv => lhs; unfold adrun
  simp only [wantedA]
  cases hj : (ops[j]?).bind (·.dst) with
  | none => simp [gval]
  | some dj =>
    simp only [gval]
    cases hv : fr dj with
    | val v =>
      cases v with
      | bool c =>
        simp only
        by_cases hcb : (c == b) = true
        · rw [if_pos hcb, if_pos hcb, adrun]; rfl
        · rw [if_neg hcb, if_neg hcb]
      | tuple vs => simp
      | _ => rfl
    | _ => rfl
theorem adG_tt : adG P ft N ops A base d op ty pos af rest i fr hp acc Q (.val (.bool true)) true = adrun P ft N ops A base ((i, ⟨d, op, ty, pos, af, none⟩) :: rest) fr hp acc Q := (rfl)
theorem adG_ff : adG P ft N ops A base d op ty pos af rest i fr hp acc Q (.val (.bool false)) false = adrun P ft N ops A base ((i, ⟨d, op, ty, pos, af, none⟩) :: rest) fr hp acc Q := (rfl)
theorem adG_un {b : Bool} : adG P ft N ops A base d op ty pos af rest i fr hp acc Q (.val undef) b = (okD N d = true ∧ adrun P ft N ops A base rest (putF fr d (.val undef)) hp acc Q) := (rfl)
theorem adG_tf : adG P ft N ops A base d op ty pos af rest i fr hp acc Q (.val (.bool true)) false = (okD N d = true ∧ adrun P ft N ops A base rest (putF fr d (.val undef)) hp acc Q) := (rfl)
theorem adG_ft : adG P ft N ops A base d op ty pos af rest i fr hp acc Q (.val (.bool false)) true = (okD N d = true ∧ adrun P ft N ops A base rest (putF fr d (.val undef)) hp acc Q) := (rfl)
theorem ad_nil : adrun P ft N ops A base [] fr hp acc Q = Q fr hp := (rfl)

theorem okPair_nil {j : Nat} {T W : List Nat} : OkPair A j T W [] = True := by simp [OkPair]
theorem okPair_cons {j k : Nat} {T W t w : List Nat} : OkPair A j T W ((k, t, w) :: acc) = ((k ∈ A.getD j [] ∨ (Disj w T ∧ Disj w W ∧ Disj W t)) ∧ OkPair A j T W acc) := by simp [OkPair]
theorem disj_nil {l : List Nat} : Disj [] l = True := by simp [Disj]
theorem disj_nil2 {l : List Nat} : Disj l [] = True := by simp [Disj]
theorem disj_cons {t : Nat} {l m : List Nat} : Disj (t :: l) m = (t ∉ m ∧ Disj l m) := by simp [Disj]
theorem accE_nil {j : Nat} : accE j [] [] acc = acc := (rfl)
theorem accE_t {j t : Nat} {T W : List Nat} : accE j (t :: T) W acc = (j, t :: T, W) :: acc := (rfl)
theorem accE_w {j t : Nat} {T W : List Nat} : accE j T (t :: W) acc = (j, T, t :: W) :: acc := by cases T <;> rfl
end
/-! What the operations touch. -/
def touchO (fr : Operand → AV) : Option Operand → List Nat
  | none => []
  | some x => tidA (fr x)
theorem touchO_none (fr : Operand → AV) : touchO fr none = [] := (rfl)
theorem touchO_some (fr : Operand → AV) (x : Operand) : touchO fr (some x) = tidA (fr x) := (rfl)
section
variable {d : Option Tmp} {ty : TypeId} {pos : String} {af : Array Edge} {g : Option (Nat × Bool)} {fr : Operand → AV}
theorem touch_move {x : Operand} : touch fr ⟨d, .move x, ty, pos, af, g⟩ = [] := (rfl)
theorem touch_assign {x : Operand} : touch fr ⟨d, .assign x, ty, pos, af, g⟩ = [] := (rfl)
theorem touch_un {o : UnOp} {t : TypeId} {x : Operand} : touch fr ⟨d, .unOp o t x, ty, pos, af, g⟩ = tidA (fr x) := by simp [touch, movesO, Op.operands]
theorem touch_bin {o : BinOp} {t u : TypeId} {x y : Operand} : touch fr ⟨d, .binOp o t x y u, ty, pos, af, g⟩ = tidA (fr x) ++ tidA (fr y) := by simp [touch, movesO, Op.operands]
theorem touch_pick {x y z : Operand} : touch fr ⟨d, .pick x y z, ty, pos, af, g⟩ = tidA (fr x) ++ (tidA (fr y) ++ tidA (fr z)) := by simp [touch, movesO, Op.operands]
theorem touch_load {t : TypeId} {x : Operand} : touch fr ⟨d, .load t x, ty, pos, af, g⟩ = tidA (fr x) := by simp [touch, movesO, Op.operands]
theorem touch_nilCheck {x : Operand} : touch fr ⟨d, .nilCheck x, ty, pos, af, g⟩ = tidA (fr x) := by simp [touch, movesO, Op.operands]
theorem touch_store {t : TypeId} {x y : Operand} : touch fr ⟨d, .store t x y, ty, pos, af, g⟩ = tidA (fr x) ++ tidA (fr y) := by simp [touch, movesO, Op.operands]
theorem touch_fieldAddr {t : TypeId} {x : Operand} {f : Nat} : touch fr ⟨d, .fieldAddr t x f, ty, pos, af, g⟩ = tidA (fr x) := by simp [touch, movesO, Op.operands]
theorem touch_indexAddr {t : TypeId} {x y : Operand} : touch fr ⟨d, .indexAddr t x y, ty, pos, af, g⟩ = tidA (fr x) ++ tidA (fr y) := by simp [touch, movesO, Op.operands]
theorem touch_index {t : TypeId} {x y : Operand} : touch fr ⟨d, .index t x y, ty, pos, af, g⟩ = tidA (fr x) ++ tidA (fr y) := by simp [touch, movesO, Op.operands]
theorem touch_extract {x : Operand} {i : Nat} : touch fr ⟨d, .extract x i, ty, pos, af, g⟩ = tidA (fr x) := by simp [touch, movesO, Op.operands]
theorem touch_field {t : TypeId} {x : Operand} {i : Nat} : touch fr ⟨d, .field t x i, ty, pos, af, g⟩ = tidA (fr x) := by simp [touch, movesO, Op.operands]
theorem touch_convert {s t : TypeId} {x : Operand} : touch fr ⟨d, .convert s t x, ty, pos, af, g⟩ = tidA (fr x) := by simp [touch, movesO, Op.operands]
theorem touch_builtin {b : Builtin} {args : Array Operand} {tys : Array TypeId} : touch fr ⟨d, .call ⟨.builtin b, args, tys⟩, ty, pos, af, g⟩ = args.toList.flatMap fun x => tidA (fr x) := by simp [touch, movesO, Op.operands, Call.operands]
theorem touch_call {f : FuncId} {fr : Nat → AV} {args : Array Operand} {tys : Array TypeId} : touch (evF fr) ⟨d, .call ⟨.value (.func f), args, tys⟩, ty, pos, af, g⟩ = args.toList.flatMap fun x => tidA (evF fr x) := by simp [touch, movesO, Op.operands, Call.operands, evF_func, tidA]
theorem touch_slice {t : TypeId} {x : Operand} {l h : Option Operand} : touch fr ⟨d, .slice t x l h none, ty, pos, af, g⟩ = tidA (fr x) ++ (touchO fr l ++ touchO fr h) := by
  cases l <;> cases h <;> simp [touch, movesO, Op.operands, touchO]
theorem touch_alloc {t : TypeId} : touch fr ⟨d, .alloc t, ty, pos, af, g⟩ = [] := by simp [touch, movesO, Op.operands]
theorem touch_box {t : TypeId} {x : Operand} : touch fr ⟨d, .box t x, ty, pos, af, g⟩ = tidA (fr x) := by simp [touch, movesO, Op.operands]
theorem touch_build {t : TypeId} {x : List (Nat × Operand)} : touch fr ⟨d, .build t x.toArray, ty, pos, af, g⟩ = x.flatMap fun y => tidA (fr y.2) := by simp [touch, movesO, Op.operands, List.flatMap_map]
theorem touch_buildSlice {t : TypeId} {n : Nat} {x : List (Nat × Operand)} : touch fr ⟨d, .buildSlice t n x.toArray, ty, pos, af, g⟩ = x.flatMap fun y => tidA (fr y.2) := by simp [touch, movesO, Op.operands, List.flatMap_map]
theorem touch_makeSlice {t : TypeId} {x y : Operand} : touch fr ⟨d, .makeSlice t x y, ty, pos, af, g⟩ = tidA (fr x) ++ tidA (fr y) := by simp [touch, movesO, Op.operands]
theorem touch_makeInterface {t : TypeId} {x : Operand} : touch fr ⟨d, .makeInterface t x, ty, pos, af, g⟩ = tidA (fr x) := by simp [touch, movesO, Op.operands]
theorem tidA_val (v : Value) : tidA (.val v) = [] := by simp [tidA]
theorem tidA_sl (r : List (List AV)) : tidA (.sl r) = [] := by simp [tidA]
theorem tidA_ip (r : List AV) : tidA (.ip r) = [] := by simp [tidA]
theorem tidA_own (t o l : Nat) : tidA (.own t o l) = [t] := by simp [tidA]
theorem tidA_ptr (t o l : Nat) : tidA (.ptr t o l) = [t] := by simp [tidA]
theorem tidA_agg (l : List AV) : tidA (.agg l) = tidL l := by simp [tidA]
theorem tidA_tup (l : List AV) : tidA (.tup l) = tidL l := by simp [tidA]
theorem tidA_any : tidA .any = [] := by simp [tidA]
theorem tidA_clo (f : Fn) (x y : List AV) : tidA (.clo f x y) = [] := by simp [tidA]
theorem tidL_nil : tidL [] = [] := by simp [tidL]
theorem tidL_cons (u : AV) (l : List AV) : tidL (u :: l) = tidA u ++ tidL l := by simp [tidL]
end

/-! ### Where code goes on -/
section
variable {P : Program} {N : Nat} {Q : Exit → ASt → Prop} {k : ASt → Prop} {st : ASt} {id j : Nat}
theorem thenA_n (h : k st) : thenA k Q .normal st := h
theorem thenA_x (h : Q (.exit id) st) : thenA k Q (.exit id) st := h
theorem thenA_r (h : Q .ret st) : thenA k Q .ret st := h
theorem block_n (h : Q .normal st) : inBlockA id Q .normal st := h
theorem block_r (h : Q .ret st) : inBlockA id Q .ret st := h
theorem block_x (h : Q .normal st) : inBlockA id Q (.exit id) st := by simpa [inBlockA] using h
theorem block_y (hj : (j == id) = false) (h : Q (.exit j) st) : inBlockA id Q (.exit j) st := by
  simp only [inBlockA, beq_eq_false_iff_ne.1 hj, if_false]; exact h
theorem AW.reg {ops : List Oper} {y : Code} (h : arun P N ops ops st (AW P N y Q)) : AW P N (.seq (.region id ops.toArray false) y) Q st := AW.seq (AW.region h)
theorem AW.regd {ops : List Oper} {y : Code} (A : List (List Nat)) (ord : List Nat) (ft : FuncId → List AV → Option AV) (hft : FtOk P ft) (hm : P.follows .mixedOrders = true) (hs : statB A ord ops = true) (hp : pairB A ord ops = true)
    (h : adrun P ft N ops A st.nx (pick ops ord) st.fr st.hp [] fun fr hp => AW P N y Q ⟨fr, hp, st.nx + 8 * ops.length⟩) : AW P N (.seq (.region id ops.toArray true) y) Q st := AW.seq (AW.draw A ord ft hft hm hs hp h)
theorem AW.if {c : Operand} {x y : Code} {b : Bool} (hc : evF st.fr c = .val (.bool b)) (h1 : b = true → AW P N x Q st) (h2 : b = false → AW P N y Q st) : AW P N (.cond c x y) Q st :=
  AW.cond hc (by cases b; exact h2 rfl; exact h1 rfl)
end

/-! ### To tell less -/
def FrLe (fr fr' : Nat → AV) : Prop := ∀ d, fr' d = fr d ∨ fr' d = .any
theorem FrLe.any {fr : Nat → AV} : FrLe fr anyF := fun _ => .inr rfl
theorem FrLe.put {fr fr' : Nat → AV} {d : Nat} {v : AV} (h : FrLe fr fr') (hv : fr d = v) : FrLe fr (upd fr' d v) := fun d' => by
  simp only [upd]; split
  · rename_i e; subst e; exact .inl hv.symm
  · exact h d'
theorem Ent.fr {N nx : Nat} {fr fr' : Nat → AV} {hp : AHeap} (h : FrLe fr fr') : Ent N ⟨fr, hp, nx⟩ ⟨fr', hp, nx⟩ := fun P G a w ⟨h1, h2, loc, hM, hr⟩ => ⟨h1, h2, loc, hM, fun d => by
  rcases h d with e | e
  · simp only [e]; exact hr d
  · simp only [e]; exact .any _⟩
theorem Ent.refl {N : Nat} {st : ASt} : Ent N st st := fun _ _ _ _ h => h
theorem Ent.trans {N : Nat} {st st' st'' : ASt} (h : Ent N st st') (k : Ent N st' st'') : Ent N st st'' := fun P G a w hc => k P G a w (h P G a w hc)
end Go.Gm

set_option linter.unusedVariables false
set_option linter.unusedSimpArgs false
namespace Go.Gm
section
variable {P : Program} {ft : FuncId → List AV → Option AV} {fr : Operand → AV} {hp : AHeap} {id : Nat} {d : Option Tmp} {ty : TypeId} {pos : String} {af : Array Edge} {g : Option (Nat × Bool)}

theorem evS_program : evS P program = some P := (rfl)
theorem plainA_of {o : Oper} {v : Value} (h : o.op.operands.all (fun x => (toV (fr x)).isSome) = true) (he : evS P (execOp (fun x => (toV (fr x)).getD undef) o) = some (.value v)) : plainA P fr o = some ⟨.val v, []⟩ := by
  unfold plainA plainOp; rw [if_pos h, he]; rfl

/-- 'len'. -/
def lenO (P : Program) (hp : AHeap) (t : TypeId) (x : AV) (pl : Option AR) : Option AR := match x with
  | .val (.slice none 0 0) => if (elemO P t).isSome = true then some ⟨I 0, []⟩ else none
  | .sl rows => if (elemO P t).isSome = true then some ⟨I rows.length, []⟩ else none
  | .own o off n => (lenS P hp t (.own o off n)).map fun v => ⟨v, []⟩
  | .val (.string s) => if isStrT P t = true then some ⟨I s.size, []⟩ else pl
  | _ => pl
theorem plain_len_str {x : Operand} {t : TypeId} {s : ByteArray} (h : fr x = .val (.string s)) (hu : isStrT P t = true) : plainA P fr ⟨d, .call ⟨.builtin .len, #[x], #[t]⟩, ty, pos, af, g⟩ = some ⟨.val (.int .i64 s.size), []⟩ := by
  have hu := isStrT_eq hu
  refine plainA_of (by simp [Op.operands, Call.operands, h, toV_val]) ?_
  simp [execOp, resolve, invoke, builtin, Builtin.len_, evS_bind, evS_pure, evS_map, evS_program, h, toV_val, underlying, hu, evS, goInt]
theorem aop_len {x : Operand} {t : TypeId} : aop P ft fr hp id ⟨d, .call ⟨.builtin .len, #[x], #[t]⟩, ty, pos, af, g⟩ = lenO P hp t (fr x) (plainA P fr ⟨d, .call ⟨.builtin .len, #[x], #[t]⟩, ty, pos, af, g⟩) := by
  show lenA P fr hp _ x t = _
  unfold lenA lenO
  split
  · rename_i h; rw [h]; simp only [lenS, lenOf]; cases elemO P t <;> rfl
  · rename_i rows h; rw [h]; simp only [lenS, lenOf]; cases elemO P t <;> rfl
  · rename_i h; rw [h]
  · rename_i h1 h2 h3
    split
    · exact absurd ‹_› h1
    · exact absurd ‹_› (h2 _)
    · exact absurd ‹_› (h3 _ _ _)
    · rename_i s hs
      split
      · rename_i hu; rw [plain_len_str hs hu]
      · rfl
    · rfl
theorem lenO_nil {t : TypeId} {pl : Option AR} : lenO P hp t (.val (.slice none 0 0)) pl = if (elemO P t).isSome = true then some ⟨I 0, []⟩ else none := (rfl)
theorem lenO_sl {t : TypeId} {rows : List (List AV)} {pl : Option AR} : lenO P hp t (.sl rows) pl = if (elemO P t).isSome = true then some ⟨I rows.length, []⟩ else none := (rfl)
theorem lenO_own {t : TypeId} {o off n : Nat} {pl : Option AR} : lenO P hp t (.own o off n) pl = (lenS P hp t (.own o off n)).map fun v => ⟨v, []⟩ := (rfl)
theorem lenO_str {t : TypeId} {s : ByteArray} {pl : Option AR} : lenO P hp t (.val (.string s)) pl = if isStrT P t = true then some ⟨I s.size, []⟩ else pl := (rfl)

/-- Indexing a string. -/
def idxE (s : ByteArray) (i : Int) : Option AR := if 0 ≤ i then (s[i.toNat]?).map fun b => ⟨.val (.int .u8 b.toNat), []⟩ else none
theorem aop_index_str {x y : Operand} {t : TypeId} {s : ByteArray} {k : IntKind} {i : Int} {r : AR} (h : fr x = .val (.string s)) (hy : fr y = .val (.int k i)) (hu : isStrT P t = true) (hr : idxE s i = some r) : aop P ft fr hp id ⟨d, .index t x y, ty, pos, af, g⟩ = some r := by
  show plainA P fr _ = _
  have hu := isStrT_eq hu
  unfold idxE at hr
  split at hr
  · rename_i hi
    cases hb : s[i.toNat]? with
    | none => rw [hb] at hr; cases hr
    | some b =>
      rw [hb] at hr; cases hr
      refine plainA_of (by simp [Op.operands, h, hy, toV_val]) ?_
      simp [execOp, Instr.index, evS_bind, evS_pure, evS_map, evS_program, h, hy, toV_val, underlying, hu, evS, asIntOf, hi, hb]
  · cases hr

/-- Cutting a string. -/
theorem aop_slice_str {x : Operand} {lo hi : Option Operand} {t : TypeId} {s : ByteArray} {l n : Nat} (h : fr x = .val (.string s)) (hl : (lo = none ∧ l = 0) ∨ ∃ y k, lo = some y ∧ fr y = .val (.int k (l : Int)))
    (hh : (hi = none ∧ n = s.size) ∨ ∃ y k, hi = some y ∧ fr y = .val (.int k (n : Int))) (hb : l ≤ n ∧ n ≤ s.size) (hu : isStrT P t = true) : aop P ft fr hp id ⟨d, .slice t x lo hi none, ty, pos, af, g⟩ = some ⟨.val (.string (s.extract l n)), []⟩ := by
  show (if isStrV (fr x) = true then plainA P fr _ else _) = _
  rw [if_pos (by rw [h]; rfl)]
  have hu := isStrT_eq hu
  obtain ⟨b1, b2⟩ := hb
  have q1 : ¬ ((n : Int) < 0) := by omega
  have q2 : ¬ ((l : Int) < 0) := by omega
  rcases hl with ⟨rfl, rfl⟩ | ⟨y, k, rfl, hy⟩ <;> rcases hh with ⟨rfl, rfl⟩ | ⟨z, k', rfl, hz⟩
  · refine plainA_of (by simp [Op.operands, h, toV_val]) ?_
    simp [execOp, Instr.sliceAt, Instr.slice, Instr.sliceBounds, Instr.sliceBound, evS_bind, evS_pure, evS_map, evS_program, h, toV_val, underlying, hu, evS]
  · refine plainA_of (by simp [Op.operands, h, hz, toV_val]) ?_
    simp [execOp, Instr.sliceAt, Instr.slice, Instr.sliceBounds, Instr.sliceBound, evS_bind, evS_pure, evS_map, evS_program, h, hz, toV_val, underlying, hu, evS, asIntOf, q1, q2, b1, b2]
  · refine plainA_of (by simp [Op.operands, h, hy, toV_val]) ?_
    simp [execOp, Instr.sliceAt, Instr.slice, Instr.sliceBounds, Instr.sliceBound, evS_bind, evS_pure, evS_map, evS_program, h, hy, toV_val, underlying, hu, evS, asIntOf, q1, q2, b1, b2]
  · refine plainA_of (by simp [Op.operands, h, hy, hz, toV_val]) ?_
    simp [execOp, Instr.sliceAt, Instr.slice, Instr.sliceBounds, Instr.sliceBound, evS_bind, evS_pure, evS_map, evS_program, h, hy, hz, toV_val, underlying, hu, evS, asIntOf, q1, q2, b1, b2]
end
theorem binE_some {P : Program} {op : BinOp} {t : TypeId} {x y : Operand} {a b : Value} : binE P op t x y (some a) (some b) = (binV P op t x y a b).map fun v => ⟨.val v, []⟩ := (rfl)
theorem initF_ap (us : List AV) (d : Nat) : initF us d = (us[d]?).getD .any := (rfl)
theorem pc_of {P : Program} {f : FuncId} {fn : Func} {c : Code} {us : List AV} {X : AV} {N : Nat} {rs : List ResultVar} (hf : P.funcs[f]? = some fn) (hb : fn.body = some c) (hN : fn.ntmps = N) (hr : fn.results.toList = rs) (hn : us.length ≤ N)
    (h : AW P N c (finA P rs X) ⟨initF us, fun _ => none, 0⟩) : PC P f us X := by
  subst hN; subst hr; exact pc_of_body hf hb hn h
theorem natOf_cast {k : IntKind} {n : Nat} : natOf (.val (.int k (n : Int))) = some n := by simp [natOf]
theorem natOf_0 {k : IntKind} : natOf (.val (.int k 0)) = some 0 := (rfl)
theorem natOf_1 {k : IntKind} : natOf (.val (.int k 1)) = some 1 := (rfl)

/-- The end of a function. -/
theorem fin_of {P : Program} {rs : List ResultVar} {X Y : AV} {e : Exit} {st : ASt} {l : List AV} {ts : List Nat} (he : e = .ret ∨ e = .normal) (hr : resA P st rs = some l) (hs : sealV st.hp (resOf l) = some (Y, ts)) (hn : ts.Nodup) (hY : Y = X) : finA P rs X e st := by
  rcases he with rfl | rfl <;> · simp only [finA, hr, hs]; exact ⟨hY, hn⟩
theorem fin_val {P : Program} {X : AV} {e : Exit} {st : ASt} {t : Nat} {v : Value} (he : e = .ret ∨ e = .normal) (hr : st.fr t = .val v) (hY : .val v = X) : finA P [.tmp t] X e st :=
  fin_of (l := [.val v]) he (by simp only [resA, hr, Option.map_some]) (by simp only [resOf, sealV]) List.nodup_nil hY
/-- Numbers that fit. -/
theorem wrap_id {n : Int} (h1 : -9223372036854775808 ≤ n) (h2 : n ≤ 9223372036854775807) : IntKind.i64.wrap n = n := by
  simp only [IntKind.wrap, IntKind.bits, IntKind.signed]
  simp
  omega
end Go.Gm

set_option linter.unusedVariables false
set_option linter.unusedSimpArgs false
namespace Go.Gm

/-! ### To tell less -/
def Weak (u u' : AV) : Prop := ∀ E v, Rel E u v → Rel E u' v
theorem Weak.of {u u' : AV} (h : u = u') : Weak u u' := fun _ _ k => h ▸ k
theorem Weak.any {u : AV} : Weak u .any := fun _ v _ => .any v
theorem Weak.nil : Weak (.val (.slice none 0 0)) (.sl []) := fun _ _ h => by cases h; exact .sl0 _ _
def FrW (fr fr' : Nat → AV) : Prop := ∀ d, Weak (fr d) (fr' d)
theorem FrW.any {fr : Nat → AV} : FrW fr anyF := fun _ => .any
theorem FrW.put {fr fr' : Nat → AV} {d : Nat} {v : AV} (h : FrW fr fr') (hv : Weak (fr d) v) : FrW fr (upd fr' d v) := fun d' => by
  simp only [upd]; split
  · rename_i e; subst e; exact hv
  · exact h d'
theorem FrW.put' {fr fr' : Nat → AV} {d : Nat} {v : AV} (h : FrW fr fr') (hv : fr d = v) : FrW fr (upd fr' d v) := h.put (.of hv)
theorem FrW.putN {fr fr' : Nat → AV} {d : Nat} (h : FrW fr fr') (hv : fr d = .val (.slice none 0 0)) : FrW fr (upd fr' d (.sl [])) := h.put (by rw [hv]; exact Weak.nil)
theorem FrW.refl {fr : Nat → AV} : FrW fr fr := fun _ => .of rfl
def HpLe (hp hp' : AHeap) : Prop := ∀ t, hp' t = hp t ∨ hp' t = none
theorem HpLe.refl {hp : AHeap} : HpLe hp hp := fun _ => .inl rfl
theorem HpLe.none_ {hp : AHeap} : HpLe hp (fun _ => none) := fun _ => .inr rfl
theorem HpLe.put {hp hp' : AHeap} {t : Nat} {o : Option AObj} (h : HpLe hp hp') (hv : hp t = o) : HpLe hp (upd hp' t o) := fun t' => by
  simp only [upd]; split
  · rename_i e; subst e; exact .inl hv.symm
  · exact h t'

section
variable {P : Program} {G : Ghost P} {hp hp' : AHeap} {al : Nat → Prop} {loc : Nat → Option Loc} {w : World}
/-- Objects are let go. -/
theorem Mem.some_ (h : Mem G hp al loc w) (hl : HpLe hp hp') : ∃ loc', Mem G hp' al loc' w ∧ Ext (mkE G.m1 hp al loc w) (mkE G.m1 hp' al loc' w) := by
  classical
  let loc' : Nat → Option Loc := fun t => if hp' t = none then none else loc t
  have hsome : ∀ t l, loc' t = some l → loc t = some l ∧ hp' t = hp t := fun t l h' => by
    simp only [loc'] at h'
    split at h'
    · cases h'
    · rename_i hn; rcases hl t with e | e
      · exact ⟨h', e⟩
      · exact absurd e hn
  have hmt : ∀ b, mtOf hp' loc' b → mtOf hp loc b := by
    rintro b ⟨t', o', l', h1, h2, h3, h4, h5⟩
    obtain ⟨a, e⟩ := hsome _ _ h3
    exact ⟨t', o', l', e ▸ h1, h2, a, h4, h5⟩
  have x : Ext (mkE G.m1 hp al loc w) (mkE G.m1 hp' al loc' w) := mk_ext (fun _ h => h) (fun t' l' _ hl' => (hsome _ _ hl').1) (Nat.le_refl _) (fun b _ => hmt b) (fun _ _ _ => rfl)
  refine ⟨loc', h.change x (fun t o ho => ?_) (fun t ho => by simp only [loc', ho, if_true]) (fun t l hl' => h.al_ t l (hsome _ _ hl').1) (fun t1 t2 l1 l2 h1 h2 => h.inj _ _ _ _ (hsome _ _ h1).1 (hsome _ _ h2).1) rfl rfl rfl (fun b hb => .inl (hmt b hb)) (fun t l h1 h2 => .inl ⟨t, l, (hsome _ _ h1).1, h2, rfl⟩), x⟩
  rcases hl t with e | e
  · exact .inl ⟨e ▸ ho, by simp only [loc', ho]; simp, fun _ _ _ => rfl⟩
  · rw [e] at ho; cases ho
end
theorem conc_iff {P : Program} {G : Ghost P} {N nx : Nat} {fr : Nat → AV} {hp : AHeap} {a : Act} {w : World} : Conc G N ⟨fr, hp, nx⟩ a w ↔ a.defers = [] ∧ a.tmps.size = N ∧ ∃ loc, Mem G hp (fun t => t < nx) loc w ∧ ∀ d, Rel (mkE G.m1 hp (fun t => t < nx) loc w) (fr d) (a.tmps.getD d undef) := Iff.rfl
theorem Ent.st {N nx nx' : Nat} {fr fr' : Nat → AV} {hp hp' : AHeap} (h : FrW fr fr') (hh : HpLe hp hp') (hn : nx ≤ nx') : Ent N ⟨fr, hp, nx⟩ ⟨fr', hp', nx'⟩ := fun P G a w hc => by
  obtain ⟨h1, h2, loc, hM, hr⟩ := conc_iff.1 hc
  obtain ⟨loc', hM1, x1⟩ := hM.some_ hh
  obtain ⟨hM2, x2⟩ := hM1.more (al' := fun t => t < nx') (fun t ht => by omega)
  exact conc_iff.2 ⟨h1, h2, loc', hM2, fun d => h d _ _ (((hr d).ext x1).ext x2)⟩
theorem Ent.w {N nx : Nat} {fr fr' : Nat → AV} {hp : AHeap} (h : FrW fr fr') : Ent N ⟨fr, hp, nx⟩ ⟨fr', hp, nx⟩ := .st h .refl (Nat.le_refl _)

/-- A nil slice as rows of one's own. -/
theorem Ent.nilOwn {N nx : Nat} {fr : Nat → AV} {hp : AHeap} (d sz : Nat) (hz : 0 < sz) (hd : fr d = .val (.slice none 0 0)) : Ent N ⟨fr, hp, nx⟩ ⟨upd fr d (.own nx 0 0), upd hp nx (some (.row sz true [])), nx + 1⟩ := fun P G a w hc => by
  obtain ⟨h1, h2, loc, hM, hr⟩ := conc_iff.1 hc
  clear hc
  refine conc_iff.2 ?_
  have hno : hp nx = none := by
    cases ho : hp nx with
    | none => rfl
    | some o => obtain ⟨l, hl, _⟩ := hM.obj nx o ho; exact absurd (hM.al_ nx l hl) (Nat.lt_irrefl _)
  have hl0 := hM.none_ nx hno
  let l0 : Loc := ⟨0, 0, sz, 0⟩
  have hmt : ∀ b, mtOf (upd hp nx (some (.row sz true []))) (upd loc nx (some l0)) b → mtOf hp loc b := by
    rintro b ⟨t', o', l', h1, h2, h3, h4, h5⟩
    by_cases e : t' = nx
    · subst e; rw [upd_same] at h3; cases h3; exact absurd h5 (Nat.lt_irrefl _)
    · rw [upd_other _ _ e] at h1 h3; exact ⟨t', o', l', h1, h2, h3, h4, h5⟩
  have x : Ext (mkE G.m1 hp (fun t => t < nx) loc w) (mkE G.m1 (upd hp nx (some (.row sz true []))) (fun t => t < nx + 1) (upd loc nx (some l0)) w) :=
    mk_ext (fun _ h => Nat.lt_succ_of_lt h) (fun t' l' ha hl' => by rwa [upd_other _ _ (Nat.ne_of_lt ha)] at hl') (Nat.le_refl _) (fun b _ => hmt b) (fun _ _ _ => rfl)
  refine ⟨h1, h2, upd loc nx (some l0), hM.change x (fun t o ho => ?_) (fun t ho => ?_) (fun t l hl => ?_) (fun t1 t2 l1 l2 k1 k2 p1 p2 hb => ?_) rfl rfl rfl (fun b hb => .inl (hmt b hb)) (fun t l k1 k2 => ?_), fun d' => ?_⟩
  · by_cases e : t = nx
    · subst e; rw [upd_same] at ho; cases ho
      exact .inr ⟨l0, upd_same .., rfl, hz, by simp, by simp [l0], ⟨0, by simp [l0]⟩, fun h => absurd h (Nat.lt_irrefl _)⟩
    · rw [upd_other _ _ e] at ho; exact .inl ⟨ho, upd_other _ _ e, fun _ _ _ => rfl⟩
  · by_cases e : t = nx
    · subst e; rw [upd_same] at ho; cases ho
    · rw [upd_other _ _ e] at ho; rw [upd_other _ _ e]; exact hM.none_ t ho
  · by_cases e : t = nx
    · subst e; exact Nat.lt_succ_self _
    · rw [upd_other _ _ e] at hl; exact Nat.lt_succ_of_lt (hM.al_ t l hl)
  · by_cases e1 : t1 = nx
    · subst e1; rw [upd_same] at k1; cases k1; exact absurd p1 (Nat.lt_irrefl _)
    · by_cases e2 : t2 = nx
      · subst e2; rw [upd_same] at k2; cases k2; exact absurd p2 (Nat.lt_irrefl _)
      · rw [upd_other _ _ e1] at k1; rw [upd_other _ _ e2] at k2; exact hM.inj _ _ _ _ k1 k2 p1 p2 hb
  · by_cases e : t = nx
    · subst e; rw [upd_same] at k1; cases k1; exact absurd k2 (Nat.lt_irrefl _)
    · rw [upd_other _ _ e] at k1; exact .inl ⟨t, l, k1, k2, rfl⟩
  · by_cases e : d' = d
    · subst e
      show Rel _ (upd fr d' _ d') _
      rw [upd_same]
      have := hr d'
      have hv := rel_val (show Rel _ (.val (.slice none 0 0)) _ from hd ▸ this)
      rw [hv]
      refine .own (Nat.lt_succ_self _) fun l hl => ?_
      have : l = l0 := by simpa [mkE, upd] using hl.symm
      subst this
      exact ⟨none, 0, rfl, hz, by simp [l0], Nat.le_refl _, fun h => absurd h (Nat.lt_irrefl _)⟩
    · show Rel _ (upd fr d _ d') _
      rw [upd_other _ _ e]; exact (hr d').ext x

/-- Rows of one's own that are written no more. -/
theorem Ent.still {N nx : Nat} {fr : Nat → AV} {hp : AHeap} {x : AV} {t off len : Nat} (d : Nat) (hd : fr d = .own t off len) (hx : resV hp (.own t off len) = some x) : Ent N ⟨fr, hp, nx⟩ ⟨upd fr d x, upd hp t none, nx⟩ := fun P G a w hc => by
  obtain ⟨h1, h2, loc, hM, hr⟩ := conc_iff.1 hc
  clear hc
  refine conc_iff.2 ?_
  obtain ⟨hM', x'⟩ := hM.drop t
  refine ⟨h1, h2, _, hM', fun d' => ?_⟩
  by_cases e : d' = d
  · subst e
    show Rel _ (upd fr d' x d') _
    rw [upd_same]
    have hb := res_rel (G := G) hM (m := fun b => G.m1 b ∨ mtOf (upd hp t none) (upd loc t none) b) (fun b hb => hb.imp id fun ⟨t', o', l', k1, k2, k3, k4, k5⟩ => by
      by_cases e : t' = t
      · subst e; rw [upd_same] at k1; cases k1
      · rw [upd_other _ _ e] at k1 k3; exact ⟨t', o', l', k1, k2, k3, k4, k5⟩) (hd ▸ hr d') hx (fun t1 o1 n1 l he hl hlt => by
        cases he
        rintro (hb | ⟨t', o', l', k1, k2, k3, k4, k5⟩)
        · exact hM.fgn t l hl hlt hb
        · by_cases e : t' = t
          · subst e; rw [upd_same] at k1; cases k1
          · rw [upd_other _ _ e] at k3; exact e (hM.inj _ _ _ _ k3 hl k5 hlt k4))
    have mv : Move (E0 (fun b => G.m1 b ∨ mtOf (upd hp t none) (upd loc t none) b) w) (mkE G.m1 (upd hp t none) (fun t => t < nx) (upd loc t none) w) :=
      ⟨Nat.le_refl _, fun b _ hn => ⟨fun hm => hn (Or.inr (hm.elim Or.inr Or.inl)), rfl⟩⟩
    refine Rel.move mv ?_ hb
    simp only [resV] at hx
    split at hx
    · split at hx
      · rename_i hc; cases hx; simp [inl, hc.2]
      · cases hx
    · cases hx
  · show Rel _ (upd fr d x d') _
    rw [upd_other _ _ e]; exact (hr d').ext x'
end Go.Gm

set_option linter.unusedVariables false
set_option linter.unusedSimpArgs false
namespace Go.Gm

/-! ### A scope through which the run goes straight -/
def straightA (Q : Exit → ASt → Prop) : Exit → ASt → Prop
  | .goto _, _ => False
  | e, st => Q e st
section
variable {P : Program} {N : Nat} {Q : Exit → ASt → Prop} {st : ASt} {id : Nat}
theorem AW.scope {c : Code} (h : AW P N c (straightA Q) st) : AW P N (.scope c) Q st := fun md G a w hc => by
  refine WP.scope ((h md G a w hc).mono ?_)
  rintro e a' w' ⟨st', hq, hc'⟩
  cases e with
  | goto l => exact hq.elim
  | _ => exact ⟨st', hq, hc'⟩
theorem scope_n (h : Q .normal st) : straightA Q .normal st := h
theorem scope_r (h : Q .ret st) : straightA Q .ret st := h
theorem scope_x (h : Q (.exit id) st) : straightA Q (.exit id) st := h

/-! ### Is a slice nil? -/
theorem equal_nil {t e : TypeId} {a : Option Addr} {n c : Nat} (he : elemO P t = some e) (w : World) : (Op.equal t (.slice a n c) (.slice none 0 0)).run P w = .ok a.isNone w := by
  have hu := elemO_eq he
  have : ∀ d, (Op.equalIn (d + 1) t (.slice a n c) (.slice none 0 0)).run P w = .ok a.isNone w := by
    intro d; rw [Op.equalIn]; cases a <;> simp [underlying, hu]
  exact this 9999
theorem nil_run {t e u : TypeId} {x y : Operand} {a : Option Addr} {n c : Nat} (he : elemO P t = some e) (w : World) :
    (do let r ← (do eqGuard .eql t x y (.slice a n c) (.slice none 0 0); binOp .eql t (.slice a n c) (.slice none 0 0)); pure (Next.value r) : Sem Next).run P w = .ok (.value (.bool a.isNone)) w := by
  have h1 : (eqGuard .eql t x y (.slice a n c) (.slice none 0 0)) = pure () := (rfl)
  have h2 : binOp .eql t (.slice a n c) (.slice none 0 0) = (do pure (.bool (← Op.equal t (.slice a n c) (.slice none 0 0)))) := (rfl)
  rw [h1, h2]
  simp [equal_nil he w]

theorem AW.nilq {d1 d2 : Nat} {x : Operand} {rows : List (List AV)} {t e u ty1 ty2 : TypeId} {pos1 pos2 : String} {af1 af2 : Array Edge} {y : Code} (he : elemO P t = some e) (hx : evF st.fr x = .sl rows) (h1 : d1 < N) (h2 : d2 < N)
    (h : ∀ b : Bool, (b = true → rows = []) → AW P N y Q ⟨upd (upd st.fr d1 (.sl rows)) d2 (.val (.bool b)), st.hp, st.nx + 8 + 8⟩) :
    AW P N (.seq (.region id #[⟨some d1, .move x, ty1, pos1, af1, none⟩, ⟨some d2, .binOp .eql t (.tmp d1) (.const (.slice none 0 0)) u, ty2, pos2, af2, none⟩] false) y) Q st := by
  refine AW.seq fun md G a w hc => WP.list ?_
  obtain ⟨c1, c2, loc, hM, hrel⟩ := hc
  have hxr := hx ▸ rel_eval hrel x
  show WL md P _ _ [_, _] a w
  refine WL.op rfl (by intro c e; cases e) ?_
  refine aop_wp (ft := noFt) hM fresh_nx (fun _ _ _ h => by simp [noFt] at h) (rel_eval hrel) (r := ⟨evF st.fr x, []⟩) rfl fun v w1 loc1 hM1 x1 hv => ?_
  obtain ⟨hM1, xx⟩ := hM1.more (al' := fun t => t < st.nx + 8) (fun t ht => by rcases ht with ht | ht <;> omega)
  have hv := hv.ext xx
  obtain ⟨g1, g2⟩ := rel_put (d := some d1) (u := evF st.fr x) (v := v) (by simpa [okD] using h1) c2 (fun d => (hrel d).ext (x1.trans xx)) hv
  refine WL.op rfl (by intro c e; cases e) ?_
  have hslice : ∃ p n c, v = .slice p n c ∧ (p.isNone = true → rows = []) := by
    rw [hx] at hv
    cases hv with
    | sl0 p c => exact ⟨p, 0, c, rfl, fun _ => rfl⟩
    | sl => exact ⟨_, _, _, rfl, fun h => by cases h⟩
  obtain ⟨p, n, c, rfl, hp⟩ := hslice
  have hev : (a.put (some d1) (.slice p n c)).eval (.tmp d1) = .slice p n c := by
    simp [Act.put, Act.eval, c2, h1]
  have hD : Does P (execOp (a.put (some d1) (.slice p n c)).eval ⟨some d2, .binOp .eql t (.tmp d1) (.const (.slice none 0 0)) u, ty2, pos2, af2, none⟩) G (applyEff st.hp []) (fun t => t < st.nx + 8) loc1 w1 (st.nx + 8) ⟨.val (.bool p.isNone), []⟩ := by
    refine does_pure hM1 ?_ (.val _)
    have := nil_run (P := P) (u := u) (x := .tmp d1) (y := .const (.slice none 0 0)) (a := p) (n := n) (c := c) he w1
    simp only [execOp, hev]
    exact this
  refine does_wp hD rfl fun v2 w2 loc2 hM2 x2 hv2 => ?_
  obtain ⟨hM2, xy⟩ := hM2.more (al' := fun t => t < st.nx + 8 + 8) (fun t ht => by rcases ht with ht | ht <;> omega)
  obtain ⟨k1, k2⟩ := rel_put (d := some d2) (u := .val (.bool p.isNone)) (v := v2) (by simpa [okD] using h2) g1 (fun d => (g2 d).ext (x2.trans xy)) (hv2.ext xy)
  refine WL.nil ⟨_, h p.isNone hp, ?_⟩
  refine ⟨by rw [put_defers, put_defers]; exact c1, k1, loc2, hM2, fun d => ?_⟩
  have := k2 d
  simp only [putF, hx] at this
  exact this
end
end Go.Gm

set_option linter.unusedVariables false
set_option linter.unusedSimpArgs false
namespace Go.Gm

/-! ### Calls -/
theorem claimV_val (v : Value) (k : Nat) : claimV (.val v) k = (.val v, []) := by simp [claimV]
theorem claimV_sl (r : List (List AV)) (k : Nat) : claimV (.sl r) k = (.sl r, []) := by simp [claimV]
theorem claimV_ip (r : List AV) (k : Nat) : claimV (.ip r) k = (.ip r, []) := by simp [claimV]
theorem claimV_any (k : Nat) : claimV .any k = (.any, []) := by simp [claimV]
theorem claimV_fr (sz : Nat) (r : List (List AV)) (k : Nat) : claimV (.fr sz r) k = (.own k 0 r.length, [.row sz true r]) := by simp [claimV]
theorem claimV_agg (l : List AV) (k : Nat) : claimV (.agg l) k = (.agg (claimL l k).1, (claimL l k).2) := by simp [claimV]
theorem claimV_tup (l : List AV) (k : Nat) : claimV (.tup l) k = (.tup (claimL l k).1, (claimL l k).2) := by simp [claimV]
theorem claimL_nil (k : Nat) : claimL [] k = ([], []) := by simp [claimL]
theorem claimL_cons (c : AV) (cs : List AV) (k : Nat) : claimL (c :: cs) k = ((claimV c k).1 :: (claimL cs (k + (claimV c k).2.length)).1, (claimV c k).2 ++ (claimL cs (k + (claimV c k).2.length)).2) := by simp [claimL]
theorem shares_val (v : Value) : shares (.val v) = false := by simp [shares]
theorem shares_sl (r : List (List AV)) : shares (.sl r) = true := by simp [shares]
theorem shares_ip (r : List AV) : shares (.ip r) = true := by simp [shares]
theorem shares_any : shares .any = true := by simp [shares]
theorem shares_fr (sz : Nat) (r : List (List AV)) : shares (.fr sz r) = true := by simp [shares]
theorem shares_agg (l : List AV) : shares (.agg l) = sharesL l := by simp [shares]
theorem shares_tup (l : List AV) : shares (.tup l) = sharesL l := by simp [shares]
theorem sharesL_nil : sharesL [] = false := by simp [sharesL]
theorem sharesL_cons (c : AV) (l : List AV) : sharesL (c :: l) = (shares c || sharesL l) := by simp [sharesL]
theorem sharesR_nil : sharesR [] = false := by simp [sharesR]
theorem sharesR_cons (c : List AV) (l : List (List AV)) : sharesR (c :: l) = (sharesL c || sharesR l) := by simp [sharesR]
theorem tidV_own (t o n : Nat) : tidV (.own t o n) = [t] := (rfl)
theorem tidV_val (v : Value) : tidV (.val v) = [] := (rfl)
theorem tidV_sl (r : List (List AV)) : tidV (.sl r) = [] := (rfl)
theorem tidV_ip (r : List AV) : tidV (.ip r) = [] := (rfl)
theorem tidV_agg (r : List AV) : tidV (.agg r) = [] := (rfl)
theorem tidV_any : tidV .any = [] := (rfl)
theorem freezeL_nil (hp : AHeap) : freezeL hp [] = [] := (rfl)
theorem freezeL_cons (hp : AHeap) (t : Nat) (ts : List Nat) : freezeL hp (t :: ts) = match hp t with
    | some (.row sz true rows) => (t, some (.row sz false rows)) :: freezeL hp ts
    | _ => freezeL hp ts := (rfl)
theorem effOf_nil (k : Nat) : effOf [] k = [] := (rfl)
theorem effOf_cons (o : AObj) (os : List AObj) (k : Nat) : effOf (o :: os) k = (k, some o) :: effOf os (k + 1) := (rfl)
theorem afterCall_eq (us : List AV) (X : AV) (hp : AHeap) (nx : Nat) : afterCall us X hp nx = applyEff hp ((if shares X = true then freezeL hp (us.flatMap tidV) else []) ++ effOf (claimV X nx).2 nx) := (rfl)
theorem resV_int (hp : AHeap) (k : IntKind) (n : Int) : resV hp (.val (.int k n)) = some (.val (.int k n)) := (rfl)
theorem resV_bool (hp : AHeap) (b : Bool) : resV hp (.val (.bool b)) = some (.val (.bool b)) := (rfl)
theorem resV_str (hp : AHeap) (s : ByteArray) : resV hp (.val (.string s)) = some (.val (.string s)) := (rfl)
theorem resV_nil (hp : AHeap) : resV hp (.val (.slice none 0 0)) = some (.sl []) := (rfl)
theorem resV_sl (hp : AHeap) (r : List (List AV)) : resV hp (.sl r) = if inlR r = true then some (.sl r) else none := by simp only [resV, inl]; rfl
theorem resV_ip (hp : AHeap) (r : List AV) : resV hp (.ip r) = if inlL r = true then some (.ip r) else none := by simp only [resV, inl]; rfl
theorem resV_agg (hp : AHeap) (r : List AV) : resV hp (.agg r) = if inlL r = true then some (.agg r) else none := by simp only [resV, inl]; rfl
theorem resV_own (hp : AHeap) (t o n : Nat) : resV hp (.own t o n) = match hp t with
    | some (.row _ _ rows) => if o + n ≤ rows.length ∧ inlR ((rows.drop o).take n) = true then some (.sl ((rows.drop o).take n)) else none
    | _ => none := (rfl)
theorem resL_nil (hp : AHeap) : resL hp [] = some [] := (rfl)
theorem resL_cons (hp : AHeap) (u : AV) (us : List AV) : resL hp (u :: us) = match resV hp u, resL hp us with
    | some x, some xs => some (x :: xs)
    | _, _ => none := (rfl)
theorem inl_val (v : Value) : inl (.val v) = true := by simp [inl]
theorem inl_sl (r : List (List AV)) : inl (.sl r) = inlR r := by simp [inl]
theorem inl_agg (r : List AV) : inl (.agg r) = inlL r := by simp [inl]
theorem inl_ip (r : List AV) : inl (.ip r) = inlL r := by simp [inl]
theorem inlL_nil : inlL [] = true := by simp [inlL]
theorem inlL_cons (c : AV) (l : List AV) : inlL (c :: l) = (inl c && inlL l) := by simp [inlL]
theorem inlR_nil : inlR [] = true := by simp [inlR]
theorem inlR_cons (c : List AV) (l : List (List AV)) : inlR (c :: l) = (inlL c && inlR l) := by simp [inlR]
theorem inlR_append (a b : List (List AV)) : inlR (a ++ b) = (inlR a && inlR b) := by simp [inlR_flatten, inlL_append]
theorem inlR_map {α : Type} {f : α → List AV} (h : ∀ x, inlL (f x) = true) : ∀ l : List α, inlR (l.map f) = true := fun l => inlR_of fun r hr => by
  obtain ⟨x, _, rfl⟩ := List.mem_map.1 hr; exact h x

/-- What a function hands back. -/
theorem sealV_val (hp : AHeap) (v : Value) : sealV hp (.val v) = some (.val v, []) := by simp [sealV]
theorem sealV_sl (hp : AHeap) (r : List (List AV)) : sealV hp (.sl r) = if inlR r = true then some (.sl r, []) else none := by simp [sealV]
theorem sealV_ip (hp : AHeap) (r : List AV) : sealV hp (.ip r) = if inlL r = true then some (.ip r, []) else none := by simp [sealV]
theorem sealV_agg (hp : AHeap) (r : List AV) : sealV hp (.agg r) = (sealL hp r).map fun x => (.agg x.1, x.2) := by simp [sealV]
theorem sealV_tup (hp : AHeap) (r : List AV) : sealV hp (.tup r) = (sealL hp r).map fun x => (.tup x.1, x.2) := by simp [sealV]
theorem sealV_own (hp : AHeap) (t o n : Nat) : sealV hp (.own t o n) = match hp t with
    | some (.row sz true rows) => if o = 0 ∧ n = rows.length ∧ inlR rows = true then some (.fr sz rows, [t]) else none
    | _ => none := by simp only [sealV]; rfl
theorem sealL_nil (hp : AHeap) : sealL hp [] = some ([], []) := by simp [sealL]
theorem sealL_cons (hp : AHeap) (u : AV) (us : List AV) : sealL hp (u :: us) = match sealV hp u, sealL hp us with
    | some (x, ts), some (xs, ts') => some (x :: xs, ts ++ ts')
    | _, _ => none := by simp only [sealL]; rfl
theorem resOf_1 (u : AV) : resOf [u] = u := (rfl)
theorem resOf_2 (u v : AV) (l : List AV) : resOf (u :: v :: l) = .tup (u :: v :: l) := (rfl)

/-! ### Tables of contracts -/
open Classical in
noncomputable def tab : List (FuncId × List AV × AV) → FuncId → List AV → Option AV
  | [], _, _ => none
  | (g, xs, X) :: l, f, us => if f = g ∧ us = xs then some X else tab l f us
theorem tab_nil {P : Program} : FtOk P (tab []) := fun _ _ _ h => by cases h
theorem tab_cons {P : Program} {g : FuncId} {xs : List AV} {X : AV} {l : List (FuncId × List AV × AV)} (h : PC P g xs X) (he : Enter P g) (hl : FtOk P (tab l)) : FtOk P (tab ((g, xs, X) :: l)) := fun f us Y hY => by
  simp only [tab] at hY
  split at hY
  · rename_i hc; obtain ⟨rfl, rfl⟩ := hc; cases hY; exact ⟨h, he⟩
  · exact hl f us Y hY
theorem tab_head {f : FuncId} {xs : List AV} {X : AV} {l : List (FuncId × List AV × AV)} : tab ((f, xs, X) :: l) f xs = some X := by simp [tab]
theorem tab_next {f g : FuncId} {xs us : List AV} {X : AV} {l : List (FuncId × List AV × AV)} (h : (f == g) = false) : tab ((g, xs, X) :: l) f us = tab l f us := by
  have : f ≠ g := by simpa using h
  simp [tab, this]
def callR (hp : AHeap) (id : Nat) (us : List AV) (X : Option AV) : Option AR := match X with
  | some X => if (claimV X id).2.length ≤ 8 then some ⟨(claimV X id).1, (if shares X = true then freezeL hp (us.flatMap tidV) else []) ++ effOf (claimV X id).2 id⟩ else none
  | none => none
def callQ (ft : FuncId → List AV → Option AV) (hp : AHeap) (id : Nat) (f : FuncId) (us : List AV) (o : Option (List AV)) : Option AR := match o with
  | some xs => callR hp id us (ft f xs)
  | none => none
theorem callA_eq (ft : FuncId → List AV → Option AV) (hp : AHeap) (id : Nat) (f : FuncId) (us : List AV) : callA ft hp id f us = callQ ft hp id f us (resL hp us) := by
  unfold callA callQ callR
  cases resL hp us <;> rfl
theorem callQ_some (ft : FuncId → List AV → Option AV) (hp : AHeap) (id : Nat) (f : FuncId) (us xs : List AV) : callQ ft hp id f us (some xs) = callR hp id us (ft f xs) := (rfl)
theorem callR_some (hp : AHeap) (id : Nat) (us : List AV) (X : AV) : callR hp id us (some X) = if (claimV X id).2.length ≤ 8 then some ⟨(claimV X id).1, (if shares X = true then freezeL hp (us.flatMap tidV) else []) ++ effOf (claimV X id).2 id⟩ else none := (rfl)

/-! ### Values that are put together -/
def plf (l : List (Nat × Nat)) : Nat → Option (Nat × Nat) := fun i => l[i]?
def placeL (P : Program) (t : TypeId) : Option (List (Nat × Nat)) := match P.underlying t with
  | some (.struct fields) => fields.toList.mapM (fun f => (P.info? f.type).map fun i => (f.offset, i.size))
  | _ => none
theorem buildA_of {P : Program} {hp : AHeap} {t : TypeId} {zs : List AV} {l : List (Nat × Nat)} {parts : List (Nat × AV)} (hz : zeroC P t = some zs) (hl : placeL P t = some l) : buildA P hp t parts = (fillA hp (plf l) zs parts).map .agg := by
  have : placeF P t = some (plf l) := by
    unfold placeL at hl
    unfold placeF
    split at hl
    · rename_i fields hu
      rw [hu]
      simp only [hl, Option.map_some]
      congr 1
      funext i
      simp [plf]
    · cases hl
  unfold buildA
  rw [hz, this]
theorem fillA_nil (hp : AHeap) (pl : Nat → Option (Nat × Nat)) (cs : List AV) : fillA hp pl cs [] = some cs := (rfl)
theorem fillA_cons (hp : AHeap) (pl : Nat → Option (Nat × Nat)) (cs : List AV) (i : Nat) (u : AV) (r : List (Nat × AV)) : fillA hp pl cs ((i, u) :: r) = match pl i with
    | none => none
    | some (off, sz) => if (cellsOf u).length = sz ∧ off + sz ≤ cs.length ∧ (cellsOf u).all (oneAV hp) = true then fillA hp pl (over cs off (cellsOf u)) r else none := (rfl)
theorem plf_ap (l : List (Nat × Nat)) (i : Nat) : plf l i = l[i]? := (rfl)
theorem cellsOf_val (v : Value) : cellsOf (.val v) = [.val v] := (rfl)
theorem cellsOf_sl (r : List (List AV)) : cellsOf (.sl r) = [.sl r] := (rfl)
theorem cellsOf_own (t o n : Nat) : cellsOf (.own t o n) = [.own t o n] := (rfl)
theorem cellsOf_ptr (t o n : Nat) : cellsOf (.ptr t o n) = [.ptr t o n] := (rfl)
theorem cellsOf_ip (l : List AV) : cellsOf (.ip l) = [.ip l] := (rfl)
theorem cellsOf_agg (l : List AV) : cellsOf (.agg l) = l := (rfl)
theorem oneAV_int (hp : AHeap) (k : IntKind) (n : Int) : oneAV hp (.val (.int k n)) = true := (rfl)
theorem oneAV_bool (hp : AHeap) (b : Bool) : oneAV hp (.val (.bool b)) = true := (rfl)
theorem oneAV_str (hp : AHeap) (s : ByteArray) : oneAV hp (.val (.string s)) = true := (rfl)
theorem oneAV_slice (hp : AHeap) (p : Option Addr) (n c : Nat) : oneAV hp (.val (.slice p n c)) = true := (rfl)
theorem oneAV_ptr0 (hp : AHeap) : oneAV hp (.val (.pointer none)) = true := (rfl)
theorem oneAV_sl (hp : AHeap) (r : List (List AV)) : oneAV hp (.sl r) = true := (rfl)
theorem oneAV_ip (hp : AHeap) (r : List AV) : oneAV hp (.ip r) = true := (rfl)
theorem oneAV_own (hp : AHeap) (t o n : Nat) : oneAV hp (.own t o n) = (hp t).isSome := (rfl)
theorem oneAV_ptr (hp : AHeap) (t o n : Nat) : oneAV hp (.ptr t o n) = (hp t).isSome := (rfl)
theorem over_eq (r : List AV) (off : Nat) (cs : List AV) : over r off cs = r.take off ++ (cs ++ r.drop (off + cs.length)) := (rfl)
theorem storeP_ptr (P : Program) (hp : AHeap) (t : TypeId) (o i off : Nat) (u : AV) : storeP P hp t (.ptr o i off) u = match hp o, szO P t with
    | some (.row sz true rows), some n => match rows[i]? with
      | some r => if (cellsOf u).length = n ∧ off + n ≤ r.length ∧ (cellsOf u).all (oneAV hp) = true then some [(o, some (.row sz true (rows.set i (over r off (cellsOf u)))))] else none
      | none => none
    | _, _ => none := (rfl)
theorem partsF_eq (fr : Operand → AV) (l : List (Nat × Operand)) : partsF fr l.toArray = l.map fun x => (x.1, fr x.2) := (rfl)

theorem forall_nil {sz : Nat} : (∀ r ∈ ([] : List (List AV)), r.length = sz) = True := by simp
theorem forall_map {α : Type} {f : α → List AV} {sz : Nat} (h : ∀ x, (f x).length = sz) (l : List α) : (∀ r ∈ l.map f, r.length = sz) = True := by
  refine eq_true fun r hr => ?_
  obtain ⟨x, _, rfl⟩ := List.mem_map.1 hr
  exact h x

theorem own_sl {hp : AHeap} {t n sz : Nat} {m : Bool} {rows : List (List AV)} (h : hp t = some (.row sz m rows)) (hn : n = rows.length) (hi : inlR rows = true) : resV hp (.own t 0 n) = some (.sl rows) := by
  subst hn
  simp only [resV, h, List.drop_zero, List.take_length]
  rw [if_pos ⟨by omega, hi⟩]

theorem forall_one {sz : Nat} {r0 : List AV} : (∀ r ∈ [r0], r.length = sz) = (r0.length = sz) := by simp
theorem own_fr {hp : AHeap} {t n sz : Nat} {rows : List (List AV)} (h : hp t = some (.row sz true rows)) (hn : n = rows.length) (hi : inlR rows = true) : sealV hp (resOf [.own t 0 n]) = some (.fr sz rows, [t]) := by
  subst hn
  simp only [resOf_1, sealV_own, h]
  rw [if_pos ⟨trivial, trivial, hi⟩]

theorem fin_own {P : Program} {X : AV} {e : Exit} {fr : Nat → AV} {hp : AHeap} {nx t k n sz : Nat} {rows : List (List AV)} (he : e = .ret ∨ e = .normal) (hr : fr t = .own k 0 n) (hh : hp k = some (.row sz true rows)) (hn : n = rows.length) (hi : inlR rows = true) (hX : AV.fr sz rows = X) : finA P [.tmp t] X e ⟨fr, hp, nx⟩ :=
  fin_of (l := [.own k 0 n]) he (by simp only [resA, hr, Option.map_some]) (own_fr hh hn hi) (by simp) hX

/-! ### Cuts -/
section
variable {P : Program} {ft : FuncId → List AV → Option AV} {fr : Operand → AV} {hp : AHeap} {id : Nat} {d : Option Tmp} {ty : TypeId} {pos : String} {af : Array Edge} {g : Option (Nat × Bool)}
theorem aop_slice {t : TypeId} {x : Operand} {lo hi : Option Operand} : aop P ft fr hp id ⟨d, .slice t x lo hi none, ty, pos, af, g⟩ = if isStrV (fr x) = true then plainA P fr ⟨d, .slice t x lo hi none, ty, pos, af, g⟩ else (cutS P hp t (fr x) (lo.map fr) (hi.map fr)).map fun v => ⟨v, []⟩ := (rfl)
theorem isStrV_sl (r : List (List AV)) : isStrV (.sl r) = false := (rfl)
theorem isStrV_own (t o n : Nat) : isStrV (.own t o n) = false := (rfl)
theorem isStrV_nil : isStrV (.val (.slice none 0 0)) = false := (rfl)
theorem isStrV_str (s : ByteArray) : isStrV (.val (.string s)) = true := (rfl)
theorem cut_take {t e sz : Nat} {k : IntKind} {n : Nat} {rows : List (List AV)} (he : elemO P t = some e) (hz : szO P e = some sz) (h : ∀ r ∈ rows, r.length = sz) (hn : n ≤ rows.length) : cutS P hp t (.sl rows) none (some (.val (.int k (n : Int)))) = some (.sl (rows.take n)) := by
  have : natOf (.val (.int k (n : Int))) = some n := natOf_cast
  unfold cutS
  simp only [he, loOf, this, lenOf, hz, hiOf]
  rw [if_pos ⟨Nat.zero_le _, hn⟩, if_pos h]
  simp
theorem cut_drop {t e sz : Nat} {k : IntKind} {n : Nat} {rows : List (List AV)} (he : elemO P t = some e) (hz : szO P e = some sz) (h : ∀ r ∈ rows, r.length = sz) (hn : n ≤ rows.length) : cutS P hp t (.sl rows) (some (.val (.int k (n : Int)))) none = some (.sl (rows.drop n)) := by
  have : natOf (.val (.int k (n : Int))) = some n := natOf_cast
  unfold cutS
  simp only [he, loOf, this, lenOf, hz, hiOf]
  rw [if_pos ⟨hn, Nat.le_refl _⟩, if_pos h, List.take_of_length_le (by simp)]
theorem cut_tail {t e sz : Nat} {k : IntKind} {r0 : List AV} {rows : List (List AV)} (he : elemO P t = some e) (hz : szO P e = some sz) (h : ∀ r ∈ r0 :: rows, r.length = sz) : cutS P hp t (.sl (r0 :: rows)) (some (.val (.int k 1))) none = some (.sl rows) := by
  have : natOf (.val (.int k 1)) = some 1 := (rfl)
  unfold cutS
  simp only [he, loOf, this, lenOf, hz, hiOf]
  rw [if_pos ⟨by simp, Nat.le_refl _⟩, if_pos h]
  simp
end
theorem nat_pos (n : Nat) : ((0 : Int) < ((n + 1 : Nat) : Int)) = True := eq_true (by omega)
theorem nat_nz (n : Nat) : (((n + 1 : Nat) : Int) = 0) = False := eq_false (by omega)
theorem nat_zero : ((0 : Nat) : Int) = 0 := (rfl)
theorem int_irr : ((0 : Int) < 0) = False := by simp

/-! ### Slices that grow -/
def appO (sz by_ id : Nat) (ys : List (List AV)) (off len o : Nat) (ob : Option AObj) : Option AR := match ob with
  | some (.row sz' true rows) => if sz' = sz ∧ off + len ≤ rows.length ∧ (len + ys.length) * by_ ≤ 140737488355328 ∧ 0 < by_ then
      some ⟨.own id 0 (len + ys.length), [(o, none), (id, some (.row sz true ((rows.drop off).take len ++ ys)))]⟩ else none
  | _ => none
def appS (sz by_ : Nat) (hp : AHeap) (id : Nat) (s : AV) (src : Option (List (List AV))) : Option AR := match src with
  | some ys => match s with
    | .val (.slice none 0 0) => if ys.length * by_ ≤ 140737488355328 ∧ 0 < by_ then some ⟨.own id 0 ys.length, [(id + 1, none), (id, some (.row sz true ys))]⟩ else none
    | .own o off len => appO sz by_ id ys off len o (hp o)
    | _ => none
  | none => none
theorem appendA_of {P : Program} {hp : AHeap} {id : Nat} {t tx e : TypeId} {sz by_ : Nat} {s x : AV} (he : elemO P t = some e) (hi : infoZ P e = some (sz, by_)) : appendA P hp id t tx s x = appS sz by_ hp id s (srcA P hp sz tx x) := by
  unfold appendA appS
  simp only [he, hi]
  rfl
theorem appS_nil {sz by_ : Nat} {hp : AHeap} {id : Nat} {ys : List (List AV)} (h : ys.length ≤ 34359738368) (hb : 0 < by_ ∧ by_ ≤ 4096) : appS sz by_ hp id (.val (.slice none 0 0)) (some ys) = some ⟨.own id 0 ys.length, [(id + 1, none), (id, some (.row sz true ys))]⟩ := by
  have : ys.length * by_ ≤ 34359738368 * 4096 := Nat.mul_le_mul h hb.2
  simp only [appS]
  rw [if_pos ⟨by omega, hb.1⟩]
theorem appS_own {sz by_ : Nat} {hp : AHeap} {id o off len : Nat} {ys : List (List AV)} : appS sz by_ hp id (.own o off len) (some ys) = appO sz by_ id ys off len o (hp o) := (rfl)
theorem appO_ok {sz by_ id o len : Nat} {rows ys : List (List AV)} (hl : len = rows.length) (h : len + ys.length ≤ 34359738368) (hb : 0 < by_ ∧ by_ ≤ 4096) : appO sz by_ id ys 0 len o (some (.row sz true rows)) = some ⟨.own id 0 (len + ys.length), [(o, none), (id, some (.row sz true (rows ++ ys)))]⟩ := by
  have : (len + ys.length) * by_ ≤ 34359738368 * 4096 := Nat.mul_le_mul h hb.2
  subst hl
  unfold appO
  refine (if_pos ⟨rfl, by omega, by omega, hb.1⟩).trans ?_
  simp
theorem srcA_own {P : Program} {hp : AHeap} {sz tx o off len : Nat} : srcA P hp sz tx (.own o off len) = match (match hp o with
    | some (.row _ _ rows) => if off + len ≤ rows.length then some ((rows.drop off).take len) else none
    | _ => none), elemO P tx with
  | some rows, some _ => if (∀ r ∈ rows, r.length = sz) then some rows else none
  | _, _ => none := (rfl)
theorem srcA_sl {P : Program} {hp : AHeap} {sz tx : Nat} {rows : List (List AV)} : srcA P hp sz tx (.sl rows) = if (∀ r ∈ rows, r.length = sz) ∧ (elemO P tx).isSome = true then some rows else none := by
  simp only [srcA, rowsOf]
  cases elemO P tx with
  | none => simp
  | some e => simp
theorem srcA_nil {P : Program} {hp : AHeap} {sz tx : Nat} : srcA P hp sz tx (.val (.slice none 0 0)) = if (elemO P tx).isSome = true then some [] else none := by
  simp only [srcA, rowsOf]
  cases elemO P tx with
  | none => simp
  | some e => simp
theorem srcA_str {P : Program} {hp : AHeap} {sz tx : Nat} {s : ByteArray} : srcA P hp sz tx (.val (.string s)) = if isStrT P tx = true ∧ sz = 1 then some (bytesRows s) else none := (rfl)
end Go.Gm

set_option linter.unusedVariables false
set_option linter.unusedSimpArgs false
namespace Go.Gm

/-- The bytes of a string. -/
def bl (s : ByteArray) : List UInt8 := s.data.toList
theorem bl_len (s : ByteArray) : (bl s).length = s.size := (rfl)
theorem bl_inj {a b : ByteArray} : bl a = bl b ↔ a = b := by
  constructor
  · intro h; cases a; cases b; simp [bl] at h; simp [h]
  · intro h; rw [h]
theorem bl_get (s : ByteArray) (i : Nat) : s[i]? = (bl s)[i]? := by
  unfold bl
  by_cases h : i < s.size
  · have h' : i < s.data.toList.length := h
    rw [getElem?_pos s i h, List.getElem?_eq_getElem h']
    rfl
  · have h' : ¬ i < s.data.toList.length := h
    rw [getElem?_neg s i h, List.getElem?_eq_none (by omega)]
theorem bl_append (a b : ByteArray) : bl (a ++ b) = bl a ++ bl b := by simp [bl]

theorem u8_ord (a b : UInt8) : a < b ∨ a = b ∨ b < a := by
  simp only [UInt8.lt_iff_toNat_lt, ← UInt8.toNat_inj]; omega
theorem less_eq : ∀ (x y : List UInt8), Op.bytesLess x y = true ↔ x < y
  | [], [] => by simp [Op.bytesLess]
  | _ :: _, [] => by simp [Op.bytesLess]
  | [], _ :: _ => by simp [Op.bytesLess]
  | a :: x, b :: y => by
    have ih := less_eq x y
    simp only [Op.bytesLess, Bool.or_eq_true, decide_eq_true_eq, Bool.and_eq_true, beq_iff_eq, ih]
    exact List.cons_lt_cons_iff.symm
theorem sLt_iff {a b : ByteArray} : sLt a b = true ↔ bl a < bl b := by
  unfold sLt; rw [less_eq, ByteArray.toList_eq, ByteArray.toList_eq]; rfl
theorem l_irr (x : List UInt8) : ¬ x < x := by
  induction x with
  | nil => simp
  | cons a x ih => rw [List.cons_lt_cons_iff]; rintro (h | ⟨_, h⟩); exact absurd h (by simp [UInt8.lt_iff_toNat_lt]); exact ih h
theorem l_trans : ∀ {x y z : List UInt8}, x < y → y < z → x < z
  | _, [], _, h, _ => by simp at h
  | [], _ :: _, [], _, h => by simp at h
  | _ :: _, _ :: _, [], _, h => by simp at h
  | [], _ :: _, _ :: _, _, _ => by simp
  | a :: x, b :: y, c :: z, h, k => by
    rw [List.cons_lt_cons_iff] at h k ⊢
    rcases h with h | ⟨rfl, h⟩
    · rcases k with k | ⟨rfl, k⟩
      · exact .inl (by simp only [UInt8.lt_iff_toNat_lt] at *; omega)
      · exact .inl h
    · rcases k with k | ⟨rfl, k⟩
      · exact .inl k
      · exact .inr ⟨rfl, l_trans h k⟩
theorem l_tri : ∀ (x y : List UInt8), x < y ∨ x = y ∨ y < x
  | [], [] => .inr (.inl rfl)
  | [], _ :: _ => .inl (by simp)
  | _ :: _, [] => .inr (.inr (by simp))
  | a :: x, b :: y => by
    rw [List.cons_lt_cons_iff, List.cons_lt_cons_iff]
    rcases u8_ord a b with h | rfl | h
    · exact .inl (.inl h)
    · rcases l_tri x y with h | rfl | h
      · exact .inl (.inr ⟨rfl, h⟩)
      · exact .inr (.inl rfl)
      · exact .inr (.inr (.inr ⟨rfl, h⟩))
    · exact .inr (.inr (.inl h))
theorem sLt_irr (a : ByteArray) : sLt a a = false := by
  rw [Bool.eq_false_iff]; intro h; exact l_irr _ (sLt_iff.1 h)
theorem sLt_trans {a b c : ByteArray} (h : sLt a b = true) (k : sLt b c = true) : sLt a c = true := sLt_iff.2 (l_trans (sLt_iff.1 h) (sLt_iff.1 k))
theorem sLt_tri (a b : ByteArray) : sLt a b = true ∨ a = b ∨ sLt b a = true := by
  rcases l_tri (bl a) (bl b) with h | h | h
  · exact .inl (sLt_iff.2 h)
  · exact .inr (.inl (bl_inj.1 h))
  · exact .inr (.inr (sLt_iff.2 h))
theorem sLt_asymm {a b : ByteArray} (h : sLt a b = true) : sLt b a = false := by
  rw [Bool.eq_false_iff]; intro k; have := sLt_trans h k; rw [sLt_irr] at this; cases this
theorem sLt_eq {a b : ByteArray} (h : sLt a b = false) (k : sLt b a = false) : a = b := by
  rcases sLt_tri a b with h' | h' | h'
  · rw [h] at h'; cases h'
  · exact h'
  · rw [k] at h'; cases h'
/-- Where two strings first part. -/
theorem l_at {x y : List UInt8} {i : Nat} {a b : UInt8} (ht : x.take i = y.take i) (ha : x[i]? = some a) (hb : y[i]? = some b) (hne : a ≠ b) : x < y ↔ a < b := by
  induction i generalizing x y with
  | zero =>
    cases x <;> cases y <;> simp at ha hb
    subst ha; subst hb
    rw [List.cons_lt_cons_iff]
    simp [hne]
  | succ i ih =>
    cases x <;> cases y <;> simp at ha hb
    simp only [List.take_succ_cons, List.cons.injEq] at ht
    obtain ⟨rfl, ht⟩ := ht
    rw [List.cons_lt_cons_iff, ih ht ha hb]
    simp
theorem l_pre {x y : List UInt8} (ht : x.take (min x.length y.length) = y.take (min x.length y.length)) : x < y ↔ x.length < y.length := by
  induction x generalizing y with
  | nil => cases y <;> simp
  | cons a x ih =>
    cases y with
    | nil => simp
    | cons b y =>
      have hm : min (a :: x).length (b :: y).length = min x.length y.length + 1 := by simp only [List.length_cons]; omega
      rw [hm] at ht
      simp only [List.take_succ_cons, List.cons.injEq] at ht
      obtain ⟨rfl, ht⟩ := ht
      rw [List.cons_lt_cons_iff, ih ht]
      simp

/-! ### Reading bytes -/
section
variable {P : Program} {ft : FuncId → List AV → Option AV} {fr : Operand → AV} {hp : AHeap} {id : Nat} {d : Option Tmp} {ty : TypeId} {pos : String} {af : Array Edge} {g : Option (Nat × Bool)}
abbrev U8 (b : UInt8) : AV := .val (.int .u8 (b.toNat : Int))
def idxO (P : Program) (t : TypeId) (x y : AV) (pl : Option AR) : Option AR := match x, y with
  | .val (.string s), .val (.int _ i) => if isStrT P t = true ∧ (idxE s i).isSome = true then idxE s i else pl
  | _, _ => pl
theorem aop_index {x y : Operand} {t : TypeId} : aop P ft fr hp id ⟨d, .index t x y, ty, pos, af, g⟩ = idxO P t (fr x) (fr y) (plainA P fr ⟨d, .index t x y, ty, pos, af, g⟩) := by
  unfold idxO
  split
  · rename_i s k i hx hy
    split
    · rename_i hc
      obtain ⟨r, hr⟩ := Option.isSome_iff_exists.1 hc.2
      rw [aop_index_str hx hy hc.1 hr, hr]
    · rfl
  · rfl
theorem idxO_nat {t : TypeId} {s : ByteArray} {k : IntKind} {n : Nat} {pl : Option AR} : idxO P t (.val (.string s)) (.val (.int k (n : Int))) pl = if isStrT P t = true ∧ ((bl s)[n]?).isSome = true then ((bl s)[n]?).map fun b => ⟨U8 b, []⟩ else pl := by
  have h0 : (0 : Int) ≤ (n : Int) := by omega
  simp only [idxO, idxE, Int.toNat_natCast, bl_get, h0, if_true]
  cases (bl s)[n]? <;> simp
end
theorem u8_ne (a b : UInt8) : ((a.toNat : Int) ≠ (b.toNat : Int)) = (a ≠ b) := by
  simp only [ne_eq, eq_iff_iff]
  rw [← UInt8.toNat_inj]; omega
theorem u8_eq (a b : UInt8) : ((a.toNat : Int) = (b.toNat : Int)) = (a = b) := by
  rw [eq_iff_iff, ← UInt8.toNat_inj]; omega
theorem u8_lt (a b : UInt8) : ((a.toNat : Int) < (b.toNat : Int)) = (a < b) := by
  rw [eq_iff_iff, UInt8.lt_iff_toNat_lt]; omega
end Go.Gm

set_option linter.unusedVariables false
set_option linter.unusedSimpArgs false
namespace Go.Gm
mutual
def norm : AV → AV
  | .val (.slice none 0 0) => .sl []
  | .val (.func f ⟨[]⟩ ⟨[]⟩) => .clo f [] []
  | .sl rows => .sl (normR rows)
  | .agg cs => .agg (normL cs)
  | .tup cs => .tup (normL cs)
  | .ip cs => .ip (normL cs)
  | u => u
def normL : List AV → List AV
  | [] => []
  | c :: cs => norm c :: normL cs
def normR : List (List AV) → List (List AV)
  | [] => []
  | r :: rs => normL r :: normR rs
end
theorem normL_append : ∀ (a b : List AV), normL (a ++ b) = normL a ++ normL b
  | [], b => by simp [normL]
  | c :: cs, b => by simp [normL, normL_append cs b]
theorem normL_length : ∀ (a : List AV), (normL a).length = a.length
  | [] => by simp [normL]
  | c :: cs => by simp [normL, normL_length cs]
theorem normR_length : ∀ (a : List (List AV)), (normR a).length = a.length
  | [] => by simp [normR]
  | c :: cs => by simp [normR, normR_length cs]
theorem normR_flatten : ∀ (a : List (List AV)), (normR a).flatten = normL a.flatten
  | [] => by simp [normR, normL]
  | c :: cs => by simp [normR, normR_flatten cs, normL_append]
theorem normR_sz : ∀ {a : List (List AV)} {sz : Nat}, (∀ r ∈ a, r.length = sz) → ∀ r ∈ normR a, r.length = sz
  | [], _, _, r, hr => by simp [normR] at hr
  | c :: cs, sz, h, r, hr => by
    simp only [normR, List.mem_cons] at hr
    rcases hr with rfl | hr
    · rw [normL_length]; exact h c (by simp)
    · exact normR_sz (fun x hx => h x (by simp [hx])) r hr
mutual
theorem rel_norm {E : Env} : ∀ {u : AV} {v : Value}, Rel E u v → Rel E (norm u) v
  | _, _, .any v => by simp only [norm]; exact .any v
  | _, _, .val v => by
    unfold norm
    split
    · rename_i h; cases h; exact .sl0 _ _
    · rename_i h; cases h; exact .clo (f' := []) (c' := []) .nil .nil
    · rename_i h; cases h
    · rename_i h; cases h
    · rename_i h; cases h
    · rename_i h; cases h
    · exact .val v
  | _, _, .agg hl => by simp only [norm]; exact .agg (relL_norm hl)
  | _, _, .tup hl => by simp only [norm]; exact .tup (relL_norm hl)
  | _, _, .sl0 a c => by simp only [norm, normR]; exact .sl0 a c
  | _, _, .sl (rows := rows) hb hm hr hsz h0 hcap h1 hc hl => by
    simp only [norm]
    have hlen := normR_length rows
    rw [← hlen] at hcap ⊢
    exact .sl hb hm (fun h => hr (by rw [h] at hlen; exact List.eq_nil_of_length_eq_zero hlen.symm)) (normR_sz hsz) h0 hcap h1 hc (by rw [normR_flatten]; exact relL_norm hl)
  | _, _, .own ha h => by simp only [norm]; exact .own ha h
  | _, _, .ptr ha h => by simp only [norm]; exact .ptr ha h
  | _, _, .ip hb hm h1 hc hl => by simp only [norm]; exact .ip hb hm h1 hc (relL_norm hl)
  | _, _, .clo hf hc => by simp only [norm]; exact .clo hf hc
  | _, _, .ifc hu => by simp only [norm]; exact .ifc hu
  | _, _, .mp ha h => by simp only [norm]; exact .mp ha h
theorem relL_norm {E : Env} : ∀ {us : List AV} {vs : List Value}, RelL E us vs → RelL E (normL us) vs
  | _, _, .nil => by simp only [normL]; exact .nil
  | _, _, .cons h hs => by simp only [normL]; exact .cons (rel_norm h) (relL_norm hs)
end
theorem PC.norm {P : Program} {f : FuncId} {us xs : List AV} {X : AV} (h : PC P f xs X) (hx : normL us = xs) : PC P f us X := fun m w vs hm ht hr => h m w vs hm ht (hx ▸ relL_norm hr)
end Go.Gm
