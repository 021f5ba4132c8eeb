import Derived.Test.YthjlffhckgaboaaGreatDoorCards
import Derived.Test.YthjlffhckgaboaaGreatDoorTie
import Derived.ProofKit
import Derived.Stop.Joined
import Derived.SevenTiedAt
import Derived.KernelRfl
set_option linter.unusedVariables false
set_option linter.unusedSimpArgs false
set_option linter.unusedSectionVars false
namespace Go.Proofs.YthjlffhckgaboaaGreatDoor.fnGrpBad
open Go Go.ChangeShapes Go.WideShapes Go.ChangeAt Go.RowKit
theorem YJ:(Rows.fnGrpBadRow.inPlace==Tryz.pinned.checked.prog.inPlace 4)=true:=by kernel_rfl
theorem alU:(Rows.fnGrpBadRow.unfollowed==Tryz.pinned.checked.prog.unfollowed 4)=true:=by kernel_rfl
theorem alV:(Rows.fnGrpBadRow.recurses==Tryz.pinned.checked.prog.recurses 4)=true:=by kernel_rfl
theorem aeW:(Rows.fnGrpBadRow.named==Tryz.pinned.checked.prog.varsNamed 4)=true:=by kernel_rfl
theorem aeX:joinedFacts Tryz.pinned.checked.prog 4 Tryz.f4 Rows.fnGrpBadSpec Rows.fnGrpBadRow=true:=by
 unfold joinedFacts;rw[YJ,alU,alV,aeW]
 kernel_rfl
theorem YK:Tryz.pinned.checked.prog.funcNamed Rows.fnGrpBadRow.func=some 4:=by kernel_rfl
theorem aeY:true=Tryz.pinned.checked.prog.looks []:=by kernel_rfl
theorem ajG:false=Rows.fnGrpBadRow.goesBy Tryz.pinned.checked.prog:=by kernel_rfl
theorem ajH:Tryz.pinned.checked.prog.mainIs=some (true,("5a6aa569f3e32293fa79b78af068962a46264e90ce5b049ce0f621ee7a44bd99").toList):=by kernel_rfl
theorem cWf:Rows.fnGrpBadRow.wfByText (OpenSpec.ofChange Rows.fnGrpBadSpec)=true:=by kernel_rfl
theorem aeZ:([22].all fun u=>!Tryz.prog.wantsStandIn u)=true:=by kernel_rfl
end Go.Proofs.YthjlffhckgaboaaGreatDoor.fnGrpBad
