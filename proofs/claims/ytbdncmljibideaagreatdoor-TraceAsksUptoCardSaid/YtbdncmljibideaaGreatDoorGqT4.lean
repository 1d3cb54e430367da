/- For any list of pairs of files, any input, any key and any offset the law TraceAsks answers true and leaves its arguments as they were. Conditions: the arguments are of bulk at most 1048576 together; the one variable of the library that the row lists holds what the program's text lays (the card ties it). -/
import Derived.Test.YtbdncmljibideaaGreatDoorRows
import Derived.Test.YtbdncmljibideaaGreatDoorCards
import Derived.Test.YtbdncmljibideaaGreatDoorTie
import Derived.Test.YtbdncmljibideaaGreatDoorGqUao
import Derived.WalkKit
import Derived.ProofKit
import Derived.OpenShut
import Derived.Deep.DeepHandedRow
import Derived.Deep.DeepLaidRun
import Derived.LaidLaws
import Derived.LaidHandle
set_option linter.all false
set_option maxRecDepth 8000
namespace Go.Proofs.YtbdncmljibideaaGreatDoor
open Go.Gm Go.Proofs.Yt Go.Proofs.Yt.Au Go.ChangeShapes Go.WideShapes Go.ChangeAt Go.RowKit
theorem bulk_all {H:Type} {d:DataW H} {l:List (DataW H)} (h:d∈l):Rows.uptoBulk d≤Rows.uptoBulkAll l:=by
  induction l with
  | nil=>cases h
  | cons x r ih =>
    simp only [Rows.uptoBulkAll]
    cases List.mem_cons.1 h with
    | inl e=>subst e;omega
    | inr e=>have:=ih e;omega
theorem bulk_one {H:Type} (d:DataW H):1≤Rows.uptoBulk d:=by
  cases d with
  | lit l=>cases l<;>simp [Rows.uptoBulk]
  | _=>simp [Rows.uptoBulk]
theorem bulk_len {H:Type} (l:List (DataW H)):l.length≤Rows.uptoBulkAll l:=by
  induction l with
  | nil=>simp [Rows.uptoBulkAll]
  | cons x r ih=>have:=bulk_one x;simp only [Rows.uptoBulkAll,List.length_cons];omega
theorem bulkOk:BulkOk (fun _ d=>Rows.uptoBulk d) where
  str:=fun bs=>by simp [Rows.uptoBulk]
  len:=fun l s=>by have:=bulk_len l;simp only [Rows.uptoBulk];omega
  elem:=fun l s d h=>by have:=bulk_all h;simp only [Rows.uptoBulk];omega
  part:=fun l d h=>by have:=bulk_all h;simp only [Rows.uptoBulk];omega
  ptr:=fun d=>by simp only [Rows.uptoBulk];omega
def V5 (n:Nat) (x:Int):Prop:=IntKind.min .u8≤x∧x≤IntKind.max .u8
theorem t5:Wq (fun _ d=>Rows.uptoBulk d) Tryz.prog 5 Aw V5 :=
  typ_int Tryz.underlying5
def V23 (n:Nat) (x:List Int):Prop:=x.length≤n∧∀y∈x,V5 n y
theorem t23:Wq (fun _ d=>Rows.uptoBulk d) Tryz.prog 23 (fun l=>[.sl (List.map Aw l)]) V23 :=
  typ_slice (sz:=1) bulkOk Tryz.underlying23 t5 (by kernel_rfl) (by decide)
def V71 (n:Nat) (x:A2 (List Int)):Prop:=(V23 n x.e0)∧(V23 n x.e1)
theorem t71:Wq (fun _ d=>Rows.uptoBulk d) Tryz.prog 71 Md V71 :=
  typ_arr2 (fun l=>.sl (List.map Aw l)) bulkOk Tryz.underlying71 t23 (by kernel_rfl) (by kernel_rfl)
def V22 (n:Nat) (x:List (A2 (List Int))):Prop:=x.length≤n∧∀y∈x,V71 n y
theorem t22:Wq (fun _ d=>Rows.uptoBulk d) Tryz.prog 22 (fun l=>[.sl (List.map Md l)]) V22 :=
  typ_slice (sz:=2) bulkOk Tryz.underlying22 t71 (by kernel_rfl) (by decide)
def V9 (n:Nat) (x:ByteArray):Prop:=x.size≤n
theorem t9:Wq (fun _ d=>Rows.uptoBulk d) Tryz.prog 9 Cr V9 :=
  typ_str bulkOk Tryz.underlying9
def V3 (n:Nat) (x:Int):Prop:=IntKind.min .i64≤x∧x≤IntKind.max .i64
theorem t3:Wq (fun _ d=>Rows.uptoBulk d) Tryz.prog 3 Bk V3 :=
  typ_int Tryz.underlying3
theorem byt_v {n:Nat} {l:List Int} (h:∀y∈l,V5 n y):Byt l:=fun x hx=>by
  have h1:0≤x:=(h x hx).1
  have h2:x≤255:=(h x hx).2
  omega
theorem tables {W:World} (h:laidMetH Tryz.prog Rows.traceAsksUptoRow.laid W) (hsh:W.ShapedOpen Tryz.prog):TabH Tryz.prog (fun _=>False) W:=tables_of h hsh
theorem Ug (H:Type) (enc:TypeId×Value→H) (W:World) (base:Nat) (args:Array Value) (ds gs:List (DataW H)) (before:List MemPlace)
    (hval:∀(j:Nat) t v,Tryz.f4.params[j]?=some t→args[j]?=some v→Value.okWide Tryz.prog W .any base t v)
    (hW:DataW.Whole enc Tryz.prog Tryz.f4.params.toList Rows.traceAsksSpec.vars false W args.toList ds gs before) (hk:Rows.uptoSmall H (ds++gs)=true) (hL:laidMetH Tryz.prog Rows.traceAsksUptoRow.laid W) (hsh:W.ShapedOpen Tryz.prog) :
    Calls Tryz.prog 4 args W fun e W'=>∃v,e=.returned v∧Rows.traceAsksSpec.post enc Tryz.prog Tryz.f4 false true false false W args v W':=by
  have hb:Rows.uptoBulkAll (ds++gs)≤1048576:=of_decide_eq_true hk
  have h1:laidOutB Tryz.prog=true:=by kernel_rfl
  have h2:([22,23,9,3].all fun t=>Tryz.prog.readableRec t && decide (t<Tryz.prog.types.size))=true:=by kernel_rfl
  have h3:Tryz.f4.resultTypes = #[4]:=by kernel_rfl
  refine law_end (P:=Tryz.prog) (enc:=enc) (W:=W) (base:=base) (args:=args) (ds:=ds) (gs:=gs) (before:=before) (f:=4) (fn:=Tryz.f4) (s:=Rows.traceAsksSpec) (ts:=[22,23,9,3]) (n:=1048576) (Ul Tryz.underlying22 rfl t22 (Ul Tryz.underlying23 rfl t23 (Ul Tryz.underlying9 rfl t9 (Ul Tryz.underlying3 rfl t3 arg_nil)))) (fun x hx=>?_) h1 h2 rfl h3 Tryz.underlying4 Tryz.params4 ?_ ?_ ?_ ?_ (tables hL hsh)
  rotate_left 2
  · exact @hval
  · exact hW
  · exact fun d hd=>Nat.le_trans (bulk_all (List.mem_append_left _ hd)) hb
  · obtain ⟨x,l,k,n,_⟩:=x
    obtain ⟨hx,hl,hk,hn,_⟩:=hx
    exact ok4 x l k n (law4 ⟨hx.1,fun p hp=>⟨(hx.2 p hp).1.1,(hx.2 p hp).2.1⟩,fun p hp=>⟨byt_v (hx.2 p hp).1.2,byt_v (hx.2 p hp).2.2⟩,hl.1,byt_v hl.2⟩ k n)
  · intro ds hl
    match ds,hl with
    | [_,_,_,_],_=>rfl
noncomputable def Vg (os:Os):World :=
  { World.holding Tryz.prog os ⟨#[],#[],[]⟩ with heap:=((World.holding Tryz.prog os ⟨#[],#[],[]⟩).heap.modify 0 fun|.cells _ t frozen=>.cells #[.iface 137 (.agg #[.pointer (some ⟨2,28,none⟩)])] t frozen|o=>o) }
theorem laid_met (os:Os):laidMetH Tryz.prog Rows.traceAsksUptoRow.laid ((Vg os).forCall (fun _ _=>0) ⟨#[],#[.slice none 0 0,.slice none 0 0,.string ⟨#[]⟩,.int .i64 0],[]⟩).memory :=
  laidMetH_of_parts (laidMet_nil _ _) (by kernel_rfl)
theorem reads (os:Os) {H:Type} (enc:TypeId×Value→H):∃places,DataW.whole enc Tryz.prog ((Vg os).forCall (fun _ _=>0) ⟨#[],#[.slice none 0 0,.slice none 0 0,.string ⟨#[]⟩,.int .i64 0],[]⟩).memory Tryz.f4.params.toList Rows.traceAsksSpec.vars false (#[.slice none 0 0,.slice none 0 0,.string ⟨#[]⟩,.int .i64 0]:Array Value).toList 8=some ([.nil,.nil,.lit (.string []),.lit (.int .i64 0)],[],places) :=
  ⟨[],by kernel_rfl⟩
theorem own:ownKnob Tryz.prog.godebug=none:=by kernel_rfl
set_option maxRecDepth 100000 in
theorem lifted (os:Os) (started:os.Started) (H:Type) (enc:TypeId×Value→H) (F:Stop.Interp) :
    ReturnsInHanded {} Tryz.checked os 4 .any ((Rows.OpenSpec.upto Rows.traceAsksSpec).preRow enc Tryz.prog Tryz.f4 Rows.traceAsksUptoRow.domain false Rows.traceAsksUptoRow.laid) (((Rows.OpenSpec.upto Rows.traceAsksSpec).at F).post enc Tryz.prog Tryz.f4 false true false false):=by
  obtain ⟨places,hx⟩:=reads os enc
  refine returnsInHanded_of_row (C:=Tryz.checked) (s:=Rows.OpenSpec.upto Rows.traceAsksSpec) own started (by kernel_rfl) Tryz.func4
    (witness_row_at (enc:=enc) (C:=Tryz.checked) false (Vg os) #[.slice none 0 0,.slice none 0 0,.string ⟨#[]⟩,.int .i64 0] rfl (by kernel_rfl) (by kernel_rfl) (by kernel_rfl)
      (OpenSpec.preRow_of_cond 8 hx (by kernel_rfl) (fun k hk=>by cases hk;kernel_rfl) (by kernel_rfl) (laid_met os))) ?_
  intro W base args ds gs before hval hW _ hcond _ hL hsh _
  exact Ug H enc W base args ds gs before @hval hW (hcond _ rfl) hL hsh
theorem Ld:Rows.traceAsksUptoRow.holds Tryz.pinned (Rows.OpenSpec.upto Rows.traceAsksSpec) :=
  OpenClaim.holds_of_cond 4 Tryz.f4 rfl rfl rfl rfl rfl rfl rfl ⟨rfl,rfl,rfl,rfl,rfl⟩ rfl rfl rfl rfl rfl (by kernel_rfl) Tryz.func4 (by kernel_rfl)
    (of_decide_eq_true (by kernel_rfl)) (by unfold Func.isWrapper;first|(rw [if_pos (by decide +kernel)];kernel_rfl)|(rw [if_neg (by decide +kernel)];exact ⟨rfl,rfl⟩))
    (fun os started H enc _ F=>by rw [OpenClaim.pre_eq_preRow];exact lifted os started H enc F)
theorem plain (f : FuncId) (fn : Func) (hf : Tryz.pinned.checked.prog.funcNamed "gristmill/gristmilllaw32.TraceAsks" = some f) (hfn : Tryz.pinned.checked.prog.funcs[f]? = some fn) :
    true=Tryz.pinned.checked.prog.looks []∧∀(j:Nat) t,fn.params[j]?=some t→Tryz.pinned.checked.prog.wantsStandIn t=false:=by
  obtain rfl : f = 4 := Option.some.inj ((show Tryz.prog.funcNamed "gristmill/gristmilllaw32.TraceAsks" = some 4 by kernel_rfl).symm.trans hf) |>.symm
  obtain rfl:fn=Tryz.f4:=(Option.some.inj (Tryz.func4.symm.trans hfn)).symm
  refine ⟨by kernel_rfl,fun j t ht=>?_⟩
  have hm:=Array.mem_of_getElem? ht
  rw [Tryz.params4] at hm
  have hall:(([22,23,9,3]:List Nat).all fun t=>Tryz.prog.wantsStandIn t == false)=true:=by kernel_rfl
  have hm':t∈([22,23,9,3]:List Nat):=by simpa using hm
  have:=List.all_eq_true.1 hall t hm'
  exact (show Tryz.prog.wantsStandIn t=false by simpa using this)
theorem traceAsks_proved:Rows.TraceAsksUptoCardSaid :=
  Claim7.holds_tied_plain_at .later [] _ _ _ _ Ld (fun _ h=>by cases h) (by kernel_rfl) (fun _ h=>by cases h) traceAsksUpto_row_tie rfl ⟨rfl,rfl⟩ (by kernel_rfl) rfl plain (by kernel_rfl)
end Go.Proofs.YtbdncmljibideaaGreatDoor
