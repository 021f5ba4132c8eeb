/- The card of this law, proved: whatever the input, the call answers true, and each argument reads as it did; no condition but the row's own. -/
import Derived.Test.YthjlffhckgaboaaGreatDoorW14
import Derived.Test.YthjlffhckgaboaaGreatDoorW15
import Derived.Test.YthjlffhckgaboaaGreatDoorW20
import Derived.OpenShut
import Derived.Lay
import Derived.SizedLaws
set_option linter.unusedVariables false
set_option linter.unusedSimpArgs false
set_option linter.unusedSectionVars false
namespace Go.Proofs.YthjlffhckgaboaaGreatDoor.fnGrpSteal
open Go Go.ChangeShapes Go.WideShapes Go.ChangeAt Go.RowKit
theorem own:ownKnob Tryz.prog.godebug=none:=by kernel_rfl
theorem akK:laidOutB Tryz.prog=true:=by kernel_rfl
theorem aqG:Tryz.prog.cellsOf 5=1:=by kernel_rfl
theorem enter(args:Array Value)(W:World):(callFunc 6 args).run Tryz.prog W=.ok (.enter 6 args) W:=Kw.cE (c:=Kw.body Tryz.f6) Tryz.func6 (by kernel_rfl) (by kernel_rfl) _ _
theorem gN1:Tryz.prog.globalNamed "strconv.ErrSyntax" =some 1:=by kernel_rfl
theorem gT1:(Tryz.prog.globals[1]?).map (·.type)=some 179:=by kernel_rfl
theorem gN2:Tryz.prog.globalNamed "strconv.ErrRange" =some 2:=by kernel_rfl
theorem gT2:(Tryz.prog.globals[2]?).map (·.type)=some 179:=by kernel_rfl
theorem axL{W:World}(h:laidMet Tryz.prog Rows.fnGrpStealRow.laid W):Kw.yE (Kw.EB W) W:=fun v m e=>by
 match v,e with
 |0,e=>cases e
 |1,e=>
  cases e;exact Kw.awZ h (.tail _ (.tail _ (.tail _ (.tail _ (.head _))))) gN1 gT1 Tryz.underlying179
 |2,e=>
  cases e;exact Kw.awZ h (.tail _ (.tail _ (.tail _ (.head _)))) gN2 gT2 Tryz.underlying179
 |_+3,e=>cases e
set_option maxRecDepth 100000 in
theorem aqH(os:Os)(started:os.Started)(H:Type)(enc:TypeId×Value->H):
 ReturnsInHanded {} Tryz.checked os 6 .any (fun w args=>(Rows.fnGrpStealSpec.pre enc Tryz.prog Tryz.f6 Rows.fnGrpStealRow.domain false w args/\laidMetH Tryz.prog Rows.fnGrpStealRow.laid w)/\sizedMet enc Tryz.prog Tryz.f6 (OpenSpec.ofChange Rows.fnGrpStealSpec) false w args)
  (Rows.fnGrpStealSpec.post enc Tryz.prog Tryz.f6 false true false false):=by
 refine returnsInHanded_of_change_and (C:=Tryz.checked) (X:=fun w _=>laidMetH Tryz.prog Rows.fnGrpStealRow.laid w) (fun _ _ _ hh h=>h.of_heap hh) own started (by kernel_rfl) Tryz.func6
  (ChangeSpec.witness_shaped (enc:=enc) (C:=Tryz.checked) (os:=os) (X:=fun w _=>laidMetH Tryz.prog Rows.fnGrpStealRow.laid w) false (World.laidAll Tryz.prog os Rows.fnGrpStealRow.laid) #[.slice none 0 0] 8 (World.laidAll_os _ _ _)
   (World.shaped_of_ZipB (by kernel_rfl) (by kernel_rfl)) (by kernel_rfl) (by kernel_rfl) (by kernel_rfl)
   (by rw[MakeChecks.laidMetH_plain _ _ _ (by kernel_rfl)];exact laidMet_laidAll _ (by kernel_rfl) (by kernel_rfl))) ?_
 intro W base args ds gs before hval0 hW hcnd _ hX _;have hval:∀(j:Nat) t v,Tryz.f6.params[j]?=some t->args[j]?=some v->Value.okWide Tryz.prog W .any base t v:=hval0;have hW':=hW;obtain⟨p,q,hA0,hV,rfl,hfz,hnd⟩:=hW;have hA:DataW.TrodAll enc Tryz.prog W 0 (fun _=>true) true Tryz.f6.params.toList args.toList ds p:=hA0
 rw[Tryz.params6]at hA hval;obtain⟨v0,vs0,d0,ds0,p0,q0,hargs,rfl,rfl,h0,r0⟩:=trodAll_cons hA;obtain⟨rfl,rfl,rfl⟩:=trodAll_nil r0;obtain rfl:args= #[v0]:=by cases args;simp_all
 obtain⟨rfl,rfl⟩:=trodVars_none hV;obtain⟨l0,s0⟩:=Kw.ax0 Tryz.underlying22 Tryz.underlying5 aqG (hval 0 22 v0 rfl rfl) h0;clear hA0 hval0;have lt0:∀x∈p0,x.block<W.heap.size:=by
  obtain⟨fuel,hf⟩:=h0;exact fun x hx=>DataW.trod_lt _ _ _ _ hf x hx
 rw[MakeChecks.laidMetH_plain _ _ _ (by kernel_rfl)]at hX
 have law:=Kw.aAA (Kw.aAR 610) (Kw.aA5 1099511627776 0 (Nat.le_refl _) l0) (.cons s0 .nil) (enter _ W) (axL hX);refine law.mono fun e W' ⟨he,bel⟩=>?_
 subst he;exact⟨_,rfl,_,_,_,[],_,[],hW',trodAll_mk1 (shut_bool Tryz.underlying4 _),(trodAll_cons_mk (bel.trod akK (by kernel_rfl) (of_decide_eq_true (by kernel_rfl)) h0 (fun x hx=>lt0 x hx)) trodAll_mk0),rfl,bel.frame _,fun h=>by cases h⟩
theorem T5:Rows.FnGrpStealSaid:=
 OpenClaim.holds_of_wide 6 Tryz.f6 rfl rfl rfl rfl rfl rfl rfl ⟨rfl,rfl,rfl,rfl,rfl⟩ rfl rfl rfl rfl rfl ag7 Tryz.func6 ag6
  (of_decide_eq_true (by kernel_rfl)) (by unfold Func.isWrapper;first|(rw[if_pos (by decide+kernel)];kernel_rfl)|(rw[if_neg (by decide+kernel)];exact⟨rfl,rfl⟩))
  (fun os started H enc _=>aqH os started H enc)
theorem card:Rows.FnGrpStealCardSaid:=
 Claim7.holds_tied_plain_at .later [] [.data,.data,.data,.sentinel,.sentinel] true (true, "5a6aa569f3e32293fa79b78af068962a46264e90ce5b049ce0f621ee7a44bd99") true T5 (fun _ h=>by cases h) cWf (fun _ h=>by cases h) fnGrpSteal_row_tie rfl ⟨rfl,rfl⟩ axN rfl
  (fun f fn hf hfn=>by
   obtain rfl:f=6:=Option.some.inj ((show Tryz.prog.funcNamed _=some 6 from ag7).symm.trans hf)|>.symm
   obtain rfl:fn=Tryz.f6:=(Option.some.inj (Tryz.func6.symm.trans hfn)).symm;exact⟨aqJ,fun j t ht=>by
    rw[Tryz.params6]at ht;have hm:t∈[22]:=by simpa using Array.mem_of_getElem? ht
    have hall:([22].all fun u=>!Tryz.prog.wantsStandIn u)=true:=aqK
    exact(show Tryz.prog.wantsStandIn t=false by simpa using List.all_eq_true.1 hall t hm)⟩)
  axM
#print axioms card
end Go.Proofs.YthjlffhckgaboaaGreatDoor.fnGrpSteal
namespace Go.Proofs.YthjlffhckgaboaaGreatDoor
theorem fnGrpSteal_card_holds:Rows.FnGrpStealCardSaid:=fnGrpSteal.card
end Go.Proofs.YthjlffhckgaboaaGreatDoor
