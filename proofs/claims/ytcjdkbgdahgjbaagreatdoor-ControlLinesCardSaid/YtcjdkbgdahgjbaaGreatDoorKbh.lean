/- Steps of the proof: FactP4, FactP1, FactP2, FxLines, FactP3. -/
import Derived.Test.YtcjdkbgdahgjbaaGreatDoorK0
import Derived.Test.YtcjdkbgdahgjbaaGreatDoorRows
import Derived.ProofKit
import Derived.JoinedOf
import Derived.SevenTiedAt
import Derived.LaidLaws
import Derived.LaidHandle
import Derived.LaidMore
set_option maxRecDepth 100000
set_option maxHeartbeats 8000000
set_option linter.all false
namespace Go.Proofs.YtcjdkbgdahgjbaaGreatDoor
open Value renaming string→CZ
section
open Go.ChangeShapes Go.WideShapes Go.ChangeAt Go.RowKit
noncomputable def GM:List (String×DataW Unit):=Rows.controlLinesRow.laid
theorem Ur(os:Os)(args:Array Value):laidMetH Tryz.prog GM ((World.doorLaid Tryz.prog 400 os).forCall (fun _ _=>0) ⟨#[],args,[]⟩).memory:=
 laidMetH_of_parts3 (fuel:=8) (laidMet_of_run' 8 bC bC) bC bC
theorem Xg:(laidOutB Tryz.pinned.checked.prog)=true:=by kernel_rfl
theorem YQ:(mapsRowed Tryz.pinned.checked.prog)=true:=by kernel_rfl
theorem YV:(Tryz.pinned.checked.prog.stopsHeard)=true:=by kernel_rfl
theorem YT:((Tryz.pinned.checked.prog.stops==[]))=true:=by kernel_rfl
theorem YR:((Tryz.pinned.checked.prog.stopKnobs==[]))=true:=by kernel_rfl
theorem YO:((Tryz.pinned.checked.prog.make==some Rows.controlLinesRow.make))=true:=by kernel_rfl
theorem YN:(Tryz.pinned.checked.prog.mayEnter)=true:=by kernel_rfl
theorem YS:((Rows.controlLinesRow.plainKeys==Tryz.pinned.checked.prog.plainKeys))=true:=by kernel_rfl
theorem YL:((Rows.controlLinesRow.lifted==Tryz.pinned.checked.prog.liftsFinal))=true:=by kernel_rfl
theorem YP:Tryz.pinned.checked.prog.mainIs=some (true, "0f9566b8570ac9c117c6c298b8092e6a3c507f5e2cc2cf10fa5788a11bd9e403".toList):=by kernel_rfl
theorem YM:true=Tryz.pinned.checked.prog.looks []:=by kernel_rfl
theorem YK:Tryz.pinned.checked.prog.funcs.any Func.goes=false:=by kernel_rfl
namespace controlLines
theorem aY:(Rows.controlLinesRow.wf (OpenSpec.ofChange Rows.controlLinesSpec))=true:=by kernel_rfl
theorem aR:(Tryz.f4.params.all (Tryz.pinned.checked.prog.readableRec ·))=true:=by kernel_rfl
theorem aO:(namedTie Tryz.pinned.checked.prog Rows.controlLinesRow.named Rows.controlLinesSpec.vars)=true:=by kernel_rfl
theorem aL:((Rows.controlLinesRow.inPlace==Tryz.pinned.checked.prog.inPlace 4))=true:=by kernel_rfl
theorem aU:((Rows.controlLinesRow.unfollowed==Tryz.pinned.checked.prog.unfollowed 4))=true:=by kernel_rfl
theorem aQ:((Rows.controlLinesRow.recurses==Tryz.pinned.checked.prog.recurses 4))=true:=by kernel_rfl
theorem aX:((Rows.controlLinesRow.named==Tryz.pinned.checked.prog.varsNamed 4))=true:=by kernel_rfl
theorem aN:((Rows.controlLinesRow.maps==(Tryz.f4.params.toList++Rows.controlLinesSpec.plain.varTypes Tryz.pinned.checked.prog).any (Tryz.pinned.checked.prog.mapsRec ·)))=true:=by kernel_rfl
theorem YW:((Rows.controlLinesRow.ifaces==(Tryz.f4.params.toList++Rows.controlLinesSpec.plain.varTypes Tryz.pinned.checked.prog).any (Tryz.pinned.checked.prog.ifacesRec ·)))=true:=by kernel_rfl
theorem aM:((Rows.controlLinesRow.loops==(Tryz.f4.params.toList++Rows.controlLinesSpec.plain.varTypes Tryz.pinned.checked.prog).any (Tryz.pinned.checked.prog.loopsFrom ·)))=true:=by kernel_rfl
theorem aZ:((Rows.controlLinesRow.wideKeys==(Tryz.f4.params.toList++Rows.controlLinesSpec.plain.varTypes Tryz.pinned.checked.prog++Tryz.f4.resultTypes.toList).any (Tryz.pinned.checked.prog.wideKeysFrom ·)))=true:=by kernel_rfl
theorem aS:(Tryz.f4.resultTypes.all (fun t=>Tryz.pinned.checked.prog.readableRec t&&decide (t<Tryz.pinned.checked.prog.types.size)))=true:=by kernel_rfl
theorem aV:((Rows.controlLinesRow.veiled==(Tryz.f4.params.toList++Rows.controlLinesSpec.plain.varTypes Tryz.pinned.checked.prog++Tryz.f4.resultTypes.toList).any (Tryz.pinned.checked.prog.veiledRec ·)))=true:=by kernel_rfl
theorem aW:(Rows.controlLinesRow.veiledFits Tryz.pinned.checked.prog Tryz.f4.params.toList (Tryz.f4.params.toList++Rows.controlLinesSpec.plain.varTypes Tryz.pinned.checked.prog++Tryz.f4.resultTypes.toList))=true:=by kernel_rfl
theorem XA:Tryz.pinned.checked.prog.funcNamed Rows.controlLinesRow.func=some 4:=by kernel_rfl
theorem aJ:((Tryz.pinned.checked.prog.closure 4).any fun g=>(Tryz.pinned.checked.prog.funcs[g]?).any Func.goes)=false:=by kernel_rfl
theorem aK:false=Rows.controlLinesRow.goesBy Tryz.pinned.checked.prog:=by
 show false=(((Tryz.pinned.checked.prog.funcNamed Rows.controlLinesRow.func).any Tryz.pinned.checked.prog.goes)||false);rw [XA,Option.any_some];unfold Program.goes;rw [aJ,YK];simp
theorem Ek{a b:Bool}(h:a=true)(k:b=true):(a&&b)=true:=by rw [h,k];rfl
theorem XJ:joinedFacts Tryz.pinned.checked.prog 4 Tryz.f4 Rows.controlLinesSpec Rows.controlLinesRow=true:=by
 unfold joinedFacts;exact Ek (Ek (Ek (Ek (Ek (Ek (Ek (Ek (Ek (Ek (Ek (Ek (Ek (Ek (Ek (Ek (Ek (Ek (Ek (Ek (Ek (Ek (Ek (Ek (Ek (Ek (Ek (Ek (Ek (Ek (Ek aY Xg) YQ) aR) aO) bC) YT) bC) YR) aL) aU) aQ) aX) aN) YW) bC) aM) aZ) bC) aS) bC) bC) YS) bC) YV) YN) YL) YO) bC) bC) aV) aW
theorem aP(W:World):Input.okWideB Tryz.checked.prog W 4 ⟨#[],#[CZ ByteArray.empty],[]⟩=true:=by kernel_rfl
theorem YX(H:Type)(enc:TypeId×Value→H)(W:World):ChangeSpec.preB enc Tryz.checked.prog Tryz.f4 Rows.controlLinesSpec [] false W #[CZ ByteArray.empty] 8=true:=by kernel_rfl
theorem aT(H:Type)(enc:TypeId×Value→H)(W:World):ChangeSpec.sizedB enc Tryz.checked.prog Tryz.f4 Rows.controlLinesSpec false W #[CZ ByteArray.empty] 8=true:=by kernel_rfl
end controlLines
theorem YU(os:Os)(args:Array Value):World.variablesRefB Tryz.checked.prog ((World.doorLaid Tryz.prog 400 os).forCall (fun _ _=>0) ⟨#[],args,[]⟩)=true:=by kernel_rfl
theorem Pv(os:Os)(args:Array Value):World.Shaped Tryz.checked.prog ((World.doorLaid Tryz.prog 400 os).forCall (fun _ _=>0) ⟨#[],args,[]⟩):=
 World.shaped_of_RefB (YU os args) bC
end
end Go.Proofs.YtcjdkbgdahgjbaaGreatDoor
