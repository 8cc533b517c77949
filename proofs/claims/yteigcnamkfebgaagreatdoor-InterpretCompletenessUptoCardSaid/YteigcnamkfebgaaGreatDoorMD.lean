/-
  PROVED HERE: the law InterpretCompleteness returns true for every input of bulk at most 1048576, and the argument reads behind the call as it read before. Its conditions: those of the given second row and card, nothing more. (A slice of edits; the package-level variables as the card ties them to the program's text.)
-/
import Derived.Test.YteigcnamkfebgaaGreatDoorMA
import Derived.Test.YteigcnamkfebgaaGreatDoorMC
import Derived.Test.YteigcnamkfebgaaGreatDoorCards
import Derived.Test.YteigcnamkfebgaaGreatDoorTie
import Derived.Deep.DeepHandedRow
import Derived.ChangeSame
import Derived.LaidMore
import Derived.Lib.SmallJoins
import Derived.ChangeMaps5
import Derived.LaidLaws
set_option linter.all false
set_option maxHeartbeats 25600000
namespace Go.Proofs.YteigcnamkfebgaaGreatDoor
open Go.Joins Go.ChangeShapes Go.WideShapes Go.ChangeAt Go.RowKit Go.Deep
theorem lout:laidOutB Tryz.prog=true:=by kernel_rfl
theorem ownK:ownKnob Tryz.prog.godebug=none:=by kernel_rfl
set_option maxRecDepth 100000 in
theorem com_contract (H:Type) (enc:TypeId×Value→H) (W:World) (base:Nat) (args:Array Value) (ds gs:List (DataW H)) (before:List MemPlace)
  (hval:∀(j:Nat) t v,Tryz.f6.params[j]? =some t→args[j]? =some v→Value.okWide Tryz.prog W .any base t v)
  (hW:DataW.Whole enc Tryz.prog Tryz.f6.params.toList Rows.interpretCompletenessSpec.vars false W args.toList ds gs before) (hk:Rows.uptoSmall H (ds++gs)=true) (hL:laidMetH Tryz.prog Rows.interpretCompletenessUptoRow.laid W) (hS:W.ShapedOpen Tryz.prog):
  Calls Tryz.prog 6 args W fun e W'=>∃v,e=.returned v∧Rows.interpretCompletenessSpec.post enc Tryz.prog Tryz.f6 false true false false W args v W':=by
 have hW':=hW;obtain⟨p,q,hA0,hV,rfl,hfz,hnd⟩:=hW;have hA:DataW.TrodAll enc Tryz.prog W 0 (fun _=>true) true Tryz.f6.params.toList args.toList ds p:=hA0;rw [Tryz.params6]at hA hval;obtain⟨v0,vs0,d0,ds0,p0,q0,hargs,rfl,rfl,h0,r0⟩:=trodAll_cons hA;obtain⟨rfl,rfl,rfl⟩:=trodAll_nil r0;obtain rfl:args=#[v0]:=by cases args;simp_all
 obtain⟨rfl,rfl⟩:=trodVars_none hV;clear hA0;simp only [List.append_nil]at hW'
 have hb0:Rows.uptoBulk d0≤1048576:=by
  have h:=of_decide_eq_true hk;exact Nat.le_trans (bulk_part (by simp)) h
 have hL2:laidMet Tryz.prog Rows.interpretCompletenessUptoRow.laid W:=hL;have hK:=kindsFull_up hL2;obtain⟨E,hE1,hE2,hE3⟩:=open_edits (hval 0 22 v0 rfl rfl) h0 hb0;refine(compl_any E v0 W hE1 (Nat.le_trans hE2 (by decide)) hE3 hK.at hK.all (globs_of hL2 hS)).mono fun e W' ⟨he,hb⟩=>?_
 subst he;have hlt:∀x∈p0,x.block < W.heap.size:=fun x hx=>hW'.lt x (by simpa using hx)
 refine⟨_,rfl,_,_,_, [],p0, [],hW',trodAll_mk1 (shut_bool Tryz.underlying4 _),?_,rfl,hb.frame _,fun h=>by cases h⟩;exact trodAll_mk1 (Below.trod lout (by kernel_rfl) (of_decide_eq_true (by kernel_rfl)) h0 hb hlt)
theorem witness_ref {H:Type} {enc:TypeId×Value→H} {C:Checked} {os:Os} {f:FuncId} {fn:Func} {s:OpenSpec} {conds:List PathCond} {apart:Bool} {laid:List (String×DataW Unit)} (modest:Bool) (w0:World) (args:Array Value) (hos:w0.os=os)
  (hv:(w0.forCall (fun _ _=>0) ⟨#[],args, []⟩).variablesRefB C.prog=true)
  (hr:((w0.forCall (fun _ _=>0) ⟨#[],args, []⟩).heap.toList.drop C.prog.globals.size).take ((begin C.prog (fun _ _=>0) default).world.heap.size - C.prog.globals.size)=
   (begin C.prog (fun _ _=>0) default).world.heap.toList.drop C.prog.globals.size)
  (hok:Input.okWideB C.prog (w0.forCall (fun _ _=>0) ⟨#[],args, []⟩) f ⟨#[],args, []⟩=true)
  (hrow:s.preRow enc C.prog fn conds apart laid (w0.forCall (fun _ _=>0) ⟨#[],args, []⟩).memory args):
  ∃(w:World) (tape:Tape) (i:Input),w.os=os∧(w.forCall tape i).Shaped C.prog∧i.vars= []∧Input.okWide C.prog (w.forCall tape i) .any w.heap.size f i∧
   s.preRow enc C.prog fn conds apart laid (w.forCall tape i).memory i.args∧({modest:=modest}:Assume).holds C.prog (lone (Frame.enter C.prog f i.args .normal) [] (w.forCall tape i)):=
 ⟨w0,fun _ _=>0,⟨#[],args, []⟩,hos,World.shaped_of_RefB hv hr,(Input.okWide_of_okWideB (base:=0) hok).1,(Input.okWide_of_okWideB hok).2,hrow,by
  simp only [Assume.holds]
  exact⟨by simp,by simp,fun _=>Modest.zero,by simp,by simp⟩⟩
/-- A world for the witness:the heap that the door's own run leaves,with the pinned table laid. -/
noncomputable def laidWorld (os:Os):World:=
 {World.doorLaid Tryz.prog 98 os with heap:=(World.doorLaid Tryz.prog 98 os).heap.modify 6 fun
   | .cells _ t frozen=>.cells (Go.Pinned.utf8FirstZ.map fun(n:Nat)=>Value.int .u8 n).toArray t frozen
   |o=>o}
def comArgs:Array Value:=#[.slice none 0 0]
theorem com_met (os:Os):laidMet Tryz.prog Rows.interpretCompletenessUptoRow.laid ((laidWorld os).forCall (fun _ _=>0) ⟨#[],comArgs, []⟩).memory:=
 laidMet_of_run' 8 (by kernel_rfl) (by kernel_rfl)
theorem com_reads (os:Os) {H:Type} (enc:TypeId×Value→H):∃places,DataW.whole enc Tryz.prog ((laidWorld os).forCall (fun _ _=>0) ⟨#[],comArgs, []⟩).memory Tryz.f6.params.toList Rows.interpretCompletenessSpec.vars false comArgs.toList 8=some ([.nil], [],places):=
 ⟨[],by kernel_rfl⟩
set_option maxRecDepth 100000 in
theorem com_lifted (os:Os) (started:os.Started) (H:Type) (enc:TypeId×Value→H) (F:Stop.Interp):
  ReturnsInHanded {} Tryz.checked os 6 .any ((Rows.OpenSpec.upto Rows.interpretCompletenessSpec).preRow enc Tryz.prog Tryz.f6 Rows.interpretCompletenessUptoRow.domain false Rows.interpretCompletenessUptoRow.laid) (((Rows.OpenSpec.upto Rows.interpretCompletenessSpec).at F).post enc Tryz.prog Tryz.f6 false true false false):=by
 obtain⟨places,hx⟩:=com_reads os enc
 refine returnsInHanded_of_row (C:=Tryz.checked) (s:=Rows.OpenSpec.upto Rows.interpretCompletenessSpec) ownK started (by kernel_rfl) Tryz.func6
  (witness_ref (enc:=enc) (C:=Tryz.checked) false (laidWorld os) comArgs rfl (by kernel_rfl) (by kernel_rfl) (by kernel_rfl)
   (OpenSpec.preRow_of_cond 8 hx (by kernel_rfl) (fun k hk=>by cases hk;kernel_rfl) (by kernel_rfl) (com_met os))) ?_
 intro W base args ds gs before hval hW _ hcond _ hL hS _;exact com_contract H enc W base args ds gs before hval hW (hcond _ rfl) hL hS
theorem com_named:Tryz.pinned.checked.prog.funcNamed Rows.interpretCompletenessUptoRow.func=some 6:=by kernel_rfl
theorem com_inst:Tryz.f6.isInstance Tryz.pinned.checked.prog Rows.interpretCompletenessUptoRow.origin Rows.interpretCompletenessUptoRow.targs:=of_decide_eq_true (by kernel_rfl)
theorem com_wrap:Tryz.f6.isWrapper Tryz.pinned.checked.prog Rows.interpretCompletenessUptoRow.wrapper Rows.interpretCompletenessUptoRow.mainSum:=by
 unfold Func.isWrapper
 first|(rw [if_pos (by decide+kernel)];kernel_rfl)|(rw [if_neg (by decide+kernel)];exact⟨rfl,rfl⟩)
theorem com_said:Rows.InterpretCompletenessUptoSaid:=
 OpenClaim.holds_of_cond 6 Tryz.f6 rfl rfl rfl rfl rfl rfl rfl ⟨rfl,rfl,rfl,rfl,rfl⟩ rfl rfl rfl rfl rfl com_named Tryz.func6 com_closed
  com_inst com_wrap
  (fun os started H enc _ F=>by rw [OpenClaim.pre_eq_preRow];exact com_lifted os started H enc F)
theorem com_plain (f:FuncId) (fn:Func) (hf:Tryz.pinned.checked.prog.funcNamed "voussoir/voussoirlaw50.InterpretCompleteness" =some f) (hfn:Tryz.pinned.checked.prog.funcs[f]? =some fn):
  true=Tryz.pinned.checked.prog.looks []∧∀(j:Nat) t,fn.params[j]? =some t→Tryz.pinned.checked.prog.wantsStandIn t=false:=by
 obtain rfl:f=6:=Option.some.inj ((show Tryz.prog.funcNamed "voussoir/voussoirlaw50.InterpretCompleteness" =some 6 by kernel_rfl).symm.trans hf)|>.symm;obtain rfl:fn=Tryz.f6:=(Option.some.inj (Tryz.func6.symm.trans hfn)).symm;refine⟨by kernel_rfl,fun j t ht=>?_⟩;rw [Tryz.params6]at ht;obtain rfl:t=22:=by simpa using Array.mem_of_getElem? ht
 exact(show Tryz.prog.wantsStandIn 22=false by kernel_rfl)
/-- The card:true for every input of small bulk,the argument as before. -/
theorem completenessCard:Rows.InterpretCompletenessUptoCardSaid:=
 Claim7.holds_tied_plain_at .later [] _ _ _ _ com_said (fun _ h=>by cases h) (by as_aux_lemma=>kernel_rfl) (fun _ h=>by cases h) interpretCompletenessUpto_row_tie rfl ⟨rfl,rfl⟩ (by as_aux_lemma=>kernel_rfl) rfl com_plain (by as_aux_lemma=>kernel_rfl)
end Go.Proofs.YteigcnamkfebgaaGreatDoor
