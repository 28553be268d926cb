/- Steps. -/
import Derived.Test.YtncebikgoleolaaGreatDoorKbh
import Derived.ProofKit
import Derived.JoinedOf
import Derived.SevenTiedAt
import Derived.LaidLaws
import Derived.LaidHandle
import Derived.LaidMore
set_option maxRecDepth 100000
set_option maxHeartbeats 8000000
set_option linter.all false
namespace Go.Proofs.YtncebikgoleolaaGreatDoor
open Go.Proofs.Tryz
open IntKind renaming i64→pK
open Value renaming int→pE,slice→pF
section
open Go.ChangeShapes Go.WideShapes Go.ChangeAt Go.RowKit
namespace controlOrder
theorem Qr:(Rows.controlOrderRow.wf (OpenSpec.ofChange Rows.controlOrderSpec))=true:=bC
theorem Qk:(f5.params.all (Tryz.pinned.checked.prog.readableRec ·))=true:=bC
theorem Qh:(namedTie Tryz.pinned.checked.prog Rows.controlOrderRow.named Rows.controlOrderSpec.vars)=true:=bC
theorem Qe:((Rows.controlOrderRow.inPlace==Tryz.pinned.checked.prog.inPlace 5))=true:=bC
theorem Qn:((Rows.controlOrderRow.unfollowed==Tryz.pinned.checked.prog.unfollowed 5))=true:=bC
theorem Qj:((Rows.controlOrderRow.recurses==Tryz.pinned.checked.prog.recurses 5))=true:=bC
theorem Qq:((Rows.controlOrderRow.named==Tryz.pinned.checked.prog.varsNamed 5))=true:=bC
theorem Qg:((Rows.controlOrderRow.maps==(f5.params.toList++Rows.controlOrderSpec.plain.varTypes Tryz.pinned.checked.prog).any (Tryz.pinned.checked.prog.mapsRec ·)))=true:=bC
theorem KJ:((Rows.controlOrderRow.ifaces==(f5.params.toList++Rows.controlOrderSpec.plain.varTypes Tryz.pinned.checked.prog).any (Tryz.pinned.checked.prog.ifacesRec ·)))=true:=bC
theorem Qf:((Rows.controlOrderRow.loops==(f5.params.toList++Rows.controlOrderSpec.plain.varTypes Tryz.pinned.checked.prog).any (Tryz.pinned.checked.prog.loopsFrom ·)))=true:=bC
theorem Qs:((Rows.controlOrderRow.wideKeys==(f5.params.toList++Rows.controlOrderSpec.plain.varTypes Tryz.pinned.checked.prog++f5.resultTypes.toList).any (Tryz.pinned.checked.prog.wideKeysFrom ·)))=true:=bC
theorem Ql:(f5.resultTypes.all (fun t=>Tryz.pinned.checked.prog.readableRec t&&decide (t<Tryz.pinned.checked.prog.types.size)))=true:=bC
theorem Qo:((Rows.controlOrderRow.veiled==(f5.params.toList++Rows.controlOrderSpec.plain.varTypes Tryz.pinned.checked.prog++f5.resultTypes.toList).any (Tryz.pinned.checked.prog.veiledRec ·)))=true:=bC
theorem Qp:(Rows.controlOrderRow.veiledFits Tryz.pinned.checked.prog f5.params.toList (f5.params.toList++Rows.controlOrderSpec.plain.varTypes Tryz.pinned.checked.prog++f5.resultTypes.toList))=true:=bC
theorem It:Tryz.pinned.checked.prog.funcNamed Rows.controlOrderRow.func=some 5:=bC
theorem Qc:((Tryz.pinned.checked.prog.closure 5).any fun g=>(Tryz.pinned.checked.prog.funcs[g]?).any Func.goes)=false:=bC
theorem Qd:false=Rows.controlOrderRow.goesBy Tryz.pinned.checked.prog:=by
 show false=(((Tryz.pinned.checked.prog.funcNamed Rows.controlOrderRow.func).any Tryz.pinned.checked.prog.goes)||false);rw [It,Option.any_some];unfold Program.goes;rw [Qc,R0];simp
theorem AE{a b:Bool}(h:a=true)(k:b=true):(a&&b)=true:=by rw [h,k];rfl
theorem Iu:joinedFacts Tryz.pinned.checked.prog 5 f5 Rows.controlOrderSpec Rows.controlOrderRow=true:=by
 unfold joinedFacts;exact AE (AE (AE (AE (AE (AE (AE (AE (AE (AE (AE (AE (AE (AE (AE (AE (AE (AE (AE (AE (AE (AE (AE (AE (AE (AE (AE (AE (AE (AE (AE Qr JQ) R7) Qk) Qh) bC) RA) bC) R8) Qe) Qn) Qj) Qq) Qg) KJ) bC) Qf) Qs) bC) Ql) bC) bC) R9) bC) RB) R4) R1) R5) bC) bC) Qo) Qp
theorem Qi(W:World):Input.okWideB checked.prog W 5 ⟨#[],#[pF none 0 0,I_ 0,pF none 0 0],[]⟩=true:=bC
theorem KK(H:Type)(enc:TypeId×Value->H)(W:World):ChangeSpec.preB enc checked.prog f5 Rows.controlOrderSpec [] false W #[pF none 0 0,I_ 0,pF none 0 0] 8=true:=bC
theorem Qm(H:Type)(enc:TypeId×Value->H)(W:World):ChangeSpec.sizedB enc checked.prog f5 Rows.controlOrderSpec false W #[pF none 0 0,I_ 0,pF none 0 0] 8=true:=bC
end controlOrder
end
end Go.Proofs.YtncebikgoleolaaGreatDoor
