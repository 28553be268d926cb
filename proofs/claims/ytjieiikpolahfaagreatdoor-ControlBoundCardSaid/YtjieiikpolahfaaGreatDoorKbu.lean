/- Steps. -/
import Derived.Test.YtjieiikpolahfaaGreatDoorKbo
import Derived.ProofKit
import Derived.JoinedOf
import Derived.SevenTiedAt
import Derived.LaidLaws
import Derived.LaidHandle
import Derived.LaidMore
set_option maxRecDepth 100000
set_option maxHeartbeats 8000000
set_option linter.all false
namespace Go.Proofs.YtjieiikpolahfaaGreatDoor
open Go.Proofs.Tryz
open _root_.ByteArray renaming empty→Bh
open IntKind renaming i64→pK
open Value renaming agg→pH,int→pE,slice→pF,string→Dz
section
open Go.ChangeShapes Go.WideShapes Go.ChangeAt Go.RowKit
namespace controlBound
theorem Qr:(Rows.controlBoundRow.wf (OpenSpec.ofChange Rows.controlBoundSpec))=true:=bC
theorem Qk:(f3.params.all (Tryz.pinned.checked.prog.readableRec ·))=true:=by kernel_rfl
theorem Qh:(namedTie Tryz.pinned.checked.prog Rows.controlBoundRow.named Rows.controlBoundSpec.vars)=true:=bC
theorem Qe:((Rows.controlBoundRow.inPlace==Tryz.pinned.checked.prog.inPlace 3))=true:=bC
theorem Qn:((Rows.controlBoundRow.unfollowed==Tryz.pinned.checked.prog.unfollowed 3))=true:=bC
theorem Qj:((Rows.controlBoundRow.recurses==Tryz.pinned.checked.prog.recurses 3))=true:=bC
theorem Qq:((Rows.controlBoundRow.named==Tryz.pinned.checked.prog.varsNamed 3))=true:=bC
theorem Qg:((Rows.controlBoundRow.maps==(f3.params.toList++Rows.controlBoundSpec.plain.varTypes Tryz.pinned.checked.prog).any (Tryz.pinned.checked.prog.mapsRec ·)))=true:=by kernel_rfl
theorem KJ:((Rows.controlBoundRow.ifaces==(f3.params.toList++Rows.controlBoundSpec.plain.varTypes Tryz.pinned.checked.prog).any (Tryz.pinned.checked.prog.ifacesRec ·)))=true:=by kernel_rfl
theorem Qf:((Rows.controlBoundRow.loops==(f3.params.toList++Rows.controlBoundSpec.plain.varTypes Tryz.pinned.checked.prog).any (Tryz.pinned.checked.prog.loopsFrom ·)))=true:=by kernel_rfl
theorem Qs:((Rows.controlBoundRow.wideKeys==(f3.params.toList++Rows.controlBoundSpec.plain.varTypes Tryz.pinned.checked.prog++f3.resultTypes.toList).any (Tryz.pinned.checked.prog.wideKeysFrom ·)))=true:=by kernel_rfl
theorem Ql:(f3.resultTypes.all (fun t=>Tryz.pinned.checked.prog.readableRec t&&decide (t<Tryz.pinned.checked.prog.types.size)))=true:=by kernel_rfl
theorem Qo:((Rows.controlBoundRow.veiled==(f3.params.toList++Rows.controlBoundSpec.plain.varTypes Tryz.pinned.checked.prog++f3.resultTypes.toList).any (Tryz.pinned.checked.prog.veiledRec ·)))=true:=by kernel_rfl
theorem Qp:(Rows.controlBoundRow.veiledFits Tryz.pinned.checked.prog f3.params.toList (f3.params.toList++Rows.controlBoundSpec.plain.varTypes Tryz.pinned.checked.prog++f3.resultTypes.toList))=true:=by kernel_rfl
theorem It:Tryz.pinned.checked.prog.funcNamed Rows.controlBoundRow.func=some 3:=bC
theorem Qc:((Tryz.pinned.checked.prog.closure 3).any fun g=>(Tryz.pinned.checked.prog.funcs[g]?).any Func.goes)=false:=bC
theorem Qd:false=Rows.controlBoundRow.goesBy Tryz.pinned.checked.prog:=by
 show false=(((Tryz.pinned.checked.prog.funcNamed Rows.controlBoundRow.func).any Tryz.pinned.checked.prog.goes)||false);rw [It,Option.any_some];unfold Program.goes;rw [Qc,R0];simp
theorem AE{a b:Bool}(h:a=true)(k:b=true):(a&&b)=true:=by rw [h,k];rfl
theorem Iu:joinedFacts Tryz.pinned.checked.prog 3 f3 Rows.controlBoundSpec Rows.controlBoundRow=true:=by
 unfold joinedFacts;exact AE (AE (AE (AE (AE (AE (AE (AE (AE (AE (AE (AE (AE (AE (AE (AE (AE (AE (AE (AE (AE (AE (AE (AE (AE (AE (AE (AE (AE (AE (AE Qr JQ) R7) Qk) Qh) bC) RA) bC) R8) Qe) Qn) Qj) Qq) Qg) KJ) bC) Qf) Qs) bC) Ql) bC) bC) R9) bC) RB) R4) R1) R5) bC) bC) Qo) Qp
theorem Qi(W:World):Input.okWideB checked.prog W 3 ⟨#[],#[pH #[pF none 0 0,pF none 0 0,pF none 0 0,pF none 0 0,pF none 0 0,pE pK 0,pF none 0 0,pE pK 0,pF none 0 0,pF none 0 0],pE pK 0,pE pK 0,Dz Bh,pE pK 0],[]⟩=true:=by kernel_rfl
theorem KK(H:Type)(enc:TypeId×Value->H)(W:World):ChangeSpec.preB enc checked.prog f3 Rows.controlBoundSpec [] false W #[pH #[pF none 0 0,pF none 0 0,pF none 0 0,pF none 0 0,pF none 0 0,pE pK 0,pF none 0 0,pE pK 0,pF none 0 0,pF none 0 0],pE pK 0,pE pK 0,Dz Bh,pE pK 0] 8=true:=by kernel_rfl
theorem Qm(H:Type)(enc:TypeId×Value->H)(W:World):ChangeSpec.sizedB enc checked.prog f3 Rows.controlBoundSpec false W #[pH #[pF none 0 0,pF none 0 0,pF none 0 0,pF none 0 0,pF none 0 0,pE pK 0,pF none 0 0,pE pK 0,pF none 0 0,pF none 0 0],pE pK 0,pE pK 0,Dz Bh,pE pK 0] 8=true:=by kernel_rfl
end controlBound
end
end Go.Proofs.YtjieiikpolahfaaGreatDoor
