/- Steps. -/
import Derived.Test.YtncebikgoleolaaGreatDoorK0
import Derived.Test.YtncebikgoleolaaGreatDoorRows
import Derived.ProofKit
import Derived.JoinedOf
import Derived.SevenTiedAt
import Derived.LaidLaws
import Derived.LaidHandle
import Derived.LaidMore
set_option maxRecDepth 100000
set_option maxHeartbeats 8000000
set_option linter.all false
namespace Go.Proofs.YtncebikgoleolaaGreatDoor
open Go.Proofs.Tryz
section
open Go.ChangeShapes Go.WideShapes Go.ChangeAt Go.RowKit
noncomputable def En:List (String×DataW Unit):=Rows.controlListsRow.laid
theorem Jh(os:Os)(args:Array Value):laidMetH prog En ((World.doorLaid prog 400 os).forCall (fun _ _=>0) ⟨#[],args,[]⟩).memory:=
 laidMetH_of_parts3 (fuel:=8) (laidMet_of_run' 8 bC bC) bC bC
theorem JQ:(laidOutB Tryz.pinned.checked.prog)=true:=bC
theorem R7:(mapsRowed Tryz.pinned.checked.prog)=true:=bC
theorem RB:(Tryz.pinned.checked.prog.stopsHeard)=true:=bC
theorem RA:((Tryz.pinned.checked.prog.stops==[]))=true:=bC
theorem R8:((Tryz.pinned.checked.prog.stopKnobs==[]))=true:=bC
theorem R5:((Tryz.pinned.checked.prog.make==some Rows.controlListsRow.make))=true:=bC
theorem R4:(Tryz.pinned.checked.prog.mayEnter)=true:=bC
theorem R9:((Rows.controlListsRow.plainKeys==Tryz.pinned.checked.prog.plainKeys))=true:=bC
theorem R1:((Rows.controlListsRow.lifted==Tryz.pinned.checked.prog.liftsFinal))=true:=bC
theorem R6:Tryz.pinned.checked.prog.mainIs=some (true, "dd7f32c1959a76bf46b3062965ebd43ad50527f473b9a7f2776f8a1a0e13ef81".toList):=bC
theorem R3:true=Tryz.pinned.checked.prog.looks []:=bC
theorem R0:Tryz.pinned.checked.prog.funcs.any Func.goes=false:=bC
theorem kO(os:Os)(args:Array Value):World.variablesRefB checked.prog ((World.doorLaid prog 400 os).forCall (fun _ _=>0) ⟨#[],args,[]⟩)=true:=bC
theorem FT(os:Os)(args:Array Value):World.Shaped checked.prog ((World.doorLaid prog 400 os).forCall (fun _ _=>0) ⟨#[],args,[]⟩):=
 World.shaped_of_RefB (kO os args) bC
end
end Go.Proofs.YtncebikgoleolaaGreatDoor
