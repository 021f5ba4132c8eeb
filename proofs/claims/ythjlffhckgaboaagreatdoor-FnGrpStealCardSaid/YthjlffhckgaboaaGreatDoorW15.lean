import Derived.Test.YthjlffhckgaboaaGreatDoorCards
import Derived.Test.YthjlffhckgaboaaGreatDoorTie
import Derived.ProofKit
import Derived.Stop.Joined
import Derived.SevenTiedAt
import Derived.KernelRfl
set_option linter.unusedVariables false
set_option linter.unusedSimpArgs false
set_option linter.unusedSectionVars false
namespace Go.Proofs.YthjlffhckgaboaaGreatDoor.fnGrpSteal
open Go Go.ChangeShapes Go.WideShapes Go.ChangeAt Go.RowKit
theorem ag5:(Rows.fnGrpStealRow.inPlace==Tryz.pinned.checked.prog.inPlace 6)=true:=by kernel_rfl
theorem aAB:(Rows.fnGrpStealRow.unfollowed==Tryz.pinned.checked.prog.unfollowed 6)=true:=by kernel_rfl
theorem aAC:(Rows.fnGrpStealRow.recurses==Tryz.pinned.checked.prog.recurses 6)=true:=by kernel_rfl
theorem aqI:(Rows.fnGrpStealRow.named==Tryz.pinned.checked.prog.varsNamed 6)=true:=by kernel_rfl
theorem ag6:joinedFacts Tryz.pinned.checked.prog 6 Tryz.f6 Rows.fnGrpStealSpec Rows.fnGrpStealRow=true:=by
 unfold joinedFacts;rw[ag5,aAB,aAC,aqI]
 kernel_rfl
theorem ag7:Tryz.pinned.checked.prog.funcNamed Rows.fnGrpStealRow.func=some 6:=by kernel_rfl
theorem aqJ:true=Tryz.pinned.checked.prog.looks []:=by kernel_rfl
theorem axM:false=Rows.fnGrpStealRow.goesBy Tryz.pinned.checked.prog:=by kernel_rfl
theorem axN:Tryz.pinned.checked.prog.mainIs=some (true,("5a6aa569f3e32293fa79b78af068962a46264e90ce5b049ce0f621ee7a44bd99").toList):=by kernel_rfl
theorem cWf:Rows.fnGrpStealRow.wfByText (OpenSpec.ofChange Rows.fnGrpStealSpec)=true:=by kernel_rfl
theorem aqK:([22].all fun u=>!Tryz.prog.wantsStandIn u)=true:=by kernel_rfl
end Go.Proofs.YthjlffhckgaboaaGreatDoor.fnGrpSteal
