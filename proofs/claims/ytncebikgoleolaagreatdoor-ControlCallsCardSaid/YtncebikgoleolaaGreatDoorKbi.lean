/- Steps. -/
import Derived.Test.YtncebikgoleolaaGreatDoorKbh
import Derived.ProofKit
import Derived.JoinedOf
import Derived.SevenTiedAt
import Derived.LaidLaws
import Derived.LaidHandle
import Derived.LaidMore
set_option maxRecDepth 100000
set_option maxHeartbeats 8000000
set_option linter.all false
namespace Go.Proofs.YtncebikgoleolaaGreatDoor
open Go.Proofs.Tryz
open _root_.ByteArray renaming empty→Bh
open IntKind renaming i64→pK
open Value renaming agg→pH,int→pE,slice→pF,string→Dz
section
open Go.ChangeShapes Go.WideShapes Go.ChangeAt Go.RowKit
namespace controlCalls
theorem Qr:(Rows.controlCallsRow.wf (OpenSpec.ofChange Rows.controlCallsSpec))=true:=bC
theorem Qk:(f4.params.all (Tryz.pinned.checked.prog.readableRec ·))=true:=bC
theorem Qh:(namedTie Tryz.pinned.checked.prog Rows.controlCallsRow.named Rows.controlCallsSpec.vars)=true:=bC
theorem Qe:((Rows.controlCallsRow.inPlace==Tryz.pinned.checked.prog.inPlace 4))=true:=bC
theorem Qn:((Rows.controlCallsRow.unfollowed==Tryz.pinned.checked.prog.unfollowed 4))=true:=bC
theorem Qj:((Rows.controlCallsRow.recurses==Tryz.pinned.checked.prog.recurses 4))=true:=bC
theorem Qq:((Rows.controlCallsRow.named==Tryz.pinned.checked.prog.varsNamed 4))=true:=bC
theorem Qg:((Rows.controlCallsRow.maps==(f4.params.toList++Rows.controlCallsSpec.plain.varTypes Tryz.pinned.checked.prog).any (Tryz.pinned.checked.prog.mapsRec ·)))=true:=bC
theorem KJ:((Rows.controlCallsRow.ifaces==(f4.params.toList++Rows.controlCallsSpec.plain.varTypes Tryz.pinned.checked.prog).any (Tryz.pinned.checked.prog.ifacesRec ·)))=true:=bC
theorem Qf:((Rows.controlCallsRow.loops==(f4.params.toList++Rows.controlCallsSpec.plain.varTypes Tryz.pinned.checked.prog).any (Tryz.pinned.checked.prog.loopsFrom ·)))=true:=bC
theorem Qs:((Rows.controlCallsRow.wideKeys==(f4.params.toList++Rows.controlCallsSpec.plain.varTypes Tryz.pinned.checked.prog++f4.resultTypes.toList).any (Tryz.pinned.checked.prog.wideKeysFrom ·)))=true:=bC
theorem Ql:(f4.resultTypes.all (fun t=>Tryz.pinned.checked.prog.readableRec t&&decide (t<Tryz.pinned.checked.prog.types.size)))=true:=bC
theorem Qo:((Rows.controlCallsRow.veiled==(f4.params.toList++Rows.controlCallsSpec.plain.varTypes Tryz.pinned.checked.prog++f4.resultTypes.toList).any (Tryz.pinned.checked.prog.veiledRec ·)))=true:=bC
theorem Qp:(Rows.controlCallsRow.veiledFits Tryz.pinned.checked.prog f4.params.toList (f4.params.toList++Rows.controlCallsSpec.plain.varTypes Tryz.pinned.checked.prog++f4.resultTypes.toList))=true:=bC
theorem It:Tryz.pinned.checked.prog.funcNamed Rows.controlCallsRow.func=some 4:=bC
theorem Qc:((Tryz.pinned.checked.prog.closure 4).any fun g=>(Tryz.pinned.checked.prog.funcs[g]?).any Func.goes)=false:=bC
theorem Qd:false=Rows.controlCallsRow.goesBy Tryz.pinned.checked.prog:=by
 show false=(((Tryz.pinned.checked.prog.funcNamed Rows.controlCallsRow.func).any Tryz.pinned.checked.prog.goes)||false);rw [It,Option.any_some];unfold Program.goes;rw [Qc,R0];simp
theorem AE{a b:Bool}(h:a=true)(k:b=true):(a&&b)=true:=by rw [h,k];rfl
theorem Iu:joinedFacts Tryz.pinned.checked.prog 4 f4 Rows.controlCallsSpec Rows.controlCallsRow=true:=by
 unfold joinedFacts;exact AE (AE (AE (AE (AE (AE (AE (AE (AE (AE (AE (AE (AE (AE (AE (AE (AE (AE (AE (AE (AE (AE (AE (AE (AE (AE (AE (AE (AE (AE (AE Qr JQ) R7) Qk) Qh) bC) RA) bC) R8) Qe) Qn) Qj) Qq) Qg) KJ) bC) Qf) Qs) bC) Ql) bC) bC) R9) bC) RB) R4) R1) R5) bC) bC) Qo) Qp
theorem Qi(W:World):Input.okWideB checked.prog W 4 ⟨#[],#[pH #[pF none 0 0,pF none 0 0,pF none 0 0,pF none 0 0,pF none 0 0,I_ 0,pF none 0 0,I_ 0,pF none 0 0,pF none 0 0],I_ 0,I_ 0,Dz Bh],[]⟩=true:=bC
theorem KK(H:Type)(enc:TypeId×Value->H)(W:World):ChangeSpec.preB enc checked.prog f4 Rows.controlCallsSpec [] false W #[pH #[pF none 0 0,pF none 0 0,pF none 0 0,pF none 0 0,pF none 0 0,I_ 0,pF none 0 0,I_ 0,pF none 0 0,pF none 0 0],I_ 0,I_ 0,Dz Bh] 8=true:=bC
theorem Qm(H:Type)(enc:TypeId×Value->H)(W:World):ChangeSpec.sizedB enc checked.prog f4 Rows.controlCallsSpec false W #[pH #[pF none 0 0,pF none 0 0,pF none 0 0,pF none 0 0,pF none 0 0,I_ 0,pF none 0 0,I_ 0,pF none 0 0,pF none 0 0],I_ 0,I_ 0,Dz Bh] 8=true:=bC
end controlCalls
end
end Go.Proofs.YtncebikgoleolaaGreatDoor
