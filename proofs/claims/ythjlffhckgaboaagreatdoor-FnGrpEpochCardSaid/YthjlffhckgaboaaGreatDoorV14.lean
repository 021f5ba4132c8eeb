import Derived.Test.YthjlffhckgaboaaGreatDoorCards
import Derived.Test.YthjlffhckgaboaaGreatDoorTie
import Derived.ProofKit
import Derived.Stop.Joined
import Derived.SevenTiedAt
import Derived.KernelRfl
set_option linter.unusedVariables false
set_option linter.unusedSimpArgs false
set_option linter.unusedSectionVars false
namespace Go.Proofs.YthjlffhckgaboaaGreatDoor.fnGrpEpoch
open Go Go.ChangeShapes Go.WideShapes Go.ChangeAt Go.RowKit
theorem acI:(Rows.fnGrpEpochRow.inPlace==Tryz.pinned.checked.prog.inPlace 3)=true:=by kernel_rfl
theorem avB:(Rows.fnGrpEpochRow.unfollowed==Tryz.pinned.checked.prog.unfollowed 3)=true:=by kernel_rfl
theorem avC:(Rows.fnGrpEpochRow.recurses==Tryz.pinned.checked.prog.recurses 3)=true:=by kernel_rfl
theorem am5:(Rows.fnGrpEpochRow.named==Tryz.pinned.checked.prog.varsNamed 3)=true:=by kernel_rfl
theorem am6:joinedFacts Tryz.pinned.checked.prog 3 Tryz.f3 Rows.fnGrpEpochSpec Rows.fnGrpEpochRow=true:=by
 unfold joinedFacts;rw[acI,avB,avC,am5]
 kernel_rfl
theorem acJ:Tryz.pinned.checked.prog.funcNamed Rows.fnGrpEpochRow.func=some 3:=by kernel_rfl
theorem am7:true=Tryz.pinned.checked.prog.looks []:=by kernel_rfl
theorem asZ:false=Rows.fnGrpEpochRow.goesBy Tryz.pinned.checked.prog:=by kernel_rfl
theorem at1:Tryz.pinned.checked.prog.mainIs=some (true,("5a6aa569f3e32293fa79b78af068962a46264e90ce5b049ce0f621ee7a44bd99").toList):=by kernel_rfl
theorem cWf:Rows.fnGrpEpochRow.wfByText (OpenSpec.ofChange Rows.fnGrpEpochSpec)=true:=by kernel_rfl
theorem am8:([22].all fun u=>!Tryz.prog.wantsStandIn u)=true:=by kernel_rfl
end Go.Proofs.YthjlffhckgaboaaGreatDoor.fnGrpEpoch
