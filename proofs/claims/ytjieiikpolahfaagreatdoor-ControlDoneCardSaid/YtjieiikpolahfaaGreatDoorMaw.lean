/- Steps. -/
import Derived.Test.YtjieiikpolahfaaGreatDoorMau
set_option maxRecDepth 100000
set_option maxHeartbeats 8000000
set_option linter.all false
namespace Go.Proofs.YtjieiikpolahfaaGreatDoor
open Go.Proofs.Tryz
open _root_.ByteArray renaming empty→Bh
open IntKind renaming i64→pK
open Value renaming agg→pH,int→pE,slice→pF,string→Dz
section
open Go.ChangeShapes Go.WideShapes Go.ChangeAt Go.RowKit
namespace controlDone
theorem Qr:(Rows.controlDoneRow.wf (OpenSpec.ofChange Rows.controlDoneSpec))=true:=bC
theorem Qk:(f7.params.all (Tryz.pinned.checked.prog.readableRec ·))=true:=by kernel_rfl
theorem Qh:(namedTie Tryz.pinned.checked.prog Rows.controlDoneRow.named Rows.controlDoneSpec.vars)=true:=bC
theorem Qe:((Rows.controlDoneRow.inPlace==Tryz.pinned.checked.prog.inPlace 7))=true:=bC
theorem Qn:((Rows.controlDoneRow.unfollowed==Tryz.pinned.checked.prog.unfollowed 7))=true:=bC
theorem Qj:((Rows.controlDoneRow.recurses==Tryz.pinned.checked.prog.recurses 7))=true:=bC
theorem Qq:((Rows.controlDoneRow.named==Tryz.pinned.checked.prog.varsNamed 7))=true:=bC
theorem Qg:((Rows.controlDoneRow.maps==(f7.params.toList++Rows.controlDoneSpec.plain.varTypes Tryz.pinned.checked.prog).any (Tryz.pinned.checked.prog.mapsRec ·)))=true:=by kernel_rfl
theorem KJ:((Rows.controlDoneRow.ifaces==(f7.params.toList++Rows.controlDoneSpec.plain.varTypes Tryz.pinned.checked.prog).any (Tryz.pinned.checked.prog.ifacesRec ·)))=true:=by kernel_rfl
theorem Qf:((Rows.controlDoneRow.loops==(f7.params.toList++Rows.controlDoneSpec.plain.varTypes Tryz.pinned.checked.prog).any (Tryz.pinned.checked.prog.loopsFrom ·)))=true:=by kernel_rfl
theorem Qs:((Rows.controlDoneRow.wideKeys==(f7.params.toList++Rows.controlDoneSpec.plain.varTypes Tryz.pinned.checked.prog++f7.resultTypes.toList).any (Tryz.pinned.checked.prog.wideKeysFrom ·)))=true:=by kernel_rfl
theorem Ql:(f7.resultTypes.all (fun t=>Tryz.pinned.checked.prog.readableRec t&&decide (t<Tryz.pinned.checked.prog.types.size)))=true:=by kernel_rfl
theorem Qo:((Rows.controlDoneRow.veiled==(f7.params.toList++Rows.controlDoneSpec.plain.varTypes Tryz.pinned.checked.prog++f7.resultTypes.toList).any (Tryz.pinned.checked.prog.veiledRec ·)))=true:=by kernel_rfl
theorem Qp:(Rows.controlDoneRow.veiledFits Tryz.pinned.checked.prog f7.params.toList (f7.params.toList++Rows.controlDoneSpec.plain.varTypes Tryz.pinned.checked.prog++f7.resultTypes.toList))=true:=by kernel_rfl
theorem It:Tryz.pinned.checked.prog.funcNamed Rows.controlDoneRow.func=some 7:=bC
theorem Qc:((Tryz.pinned.checked.prog.closure 7).any fun g=>(Tryz.pinned.checked.prog.funcs[g]?).any Func.goes)=false:=bC
theorem Qd:false=Rows.controlDoneRow.goesBy Tryz.pinned.checked.prog:=by
 show false=(((Tryz.pinned.checked.prog.funcNamed Rows.controlDoneRow.func).any Tryz.pinned.checked.prog.goes)||false);rw [It,Option.any_some];unfold Program.goes;rw [Qc,R0];simp
theorem AE{a b:Bool}(h:a=true)(k:b=true):(a&&b)=true:=by rw [h,k];rfl
theorem Iu:joinedFacts Tryz.pinned.checked.prog 7 f7 Rows.controlDoneSpec Rows.controlDoneRow=true:=by
 unfold joinedFacts;exact AE (AE (AE (AE (AE (AE (AE (AE (AE (AE (AE (AE (AE (AE (AE (AE (AE (AE (AE (AE (AE (AE (AE (AE (AE (AE (AE (AE (AE (AE (AE Qr JQ) R7) Qk) Qh) bC) RA) bC) R8) Qe) Qn) Qj) Qq) Qg) KJ) bC) Qf) Qs) bC) Ql) bC) bC) R9) bC) RB) R4) R1) R5) bC) bC) Qo) Qp
theorem Qi(W:World):Input.okWideB checked.prog W 7 ⟨#[],#[pH #[pF none 0 0,pF none 0 0,pF none 0 0,pF none 0 0,pF none 0 0,pE pK 0,pF none 0 0,pE pK 0,pF none 0 0,pF none 0 0],pE pK 0,pE pK 0,Dz Bh],[]⟩=true:=by kernel_rfl
theorem KK(H:Type)(enc:TypeId×Value->H)(W:World):ChangeSpec.preB enc checked.prog f7 Rows.controlDoneSpec [] false W #[pH #[pF none 0 0,pF none 0 0,pF none 0 0,pF none 0 0,pF none 0 0,pE pK 0,pF none 0 0,pE pK 0,pF none 0 0,pF none 0 0],pE pK 0,pE pK 0,Dz Bh] 8=true:=by kernel_rfl
theorem Qm(H:Type)(enc:TypeId×Value->H)(W:World):ChangeSpec.sizedB enc checked.prog f7 Rows.controlDoneSpec false W #[pH #[pF none 0 0,pF none 0 0,pF none 0 0,pF none 0 0,pF none 0 0,pE pK 0,pF none 0 0,pE pK 0,pF none 0 0,pF none 0 0],pE pK 0,pE pK 0,Dz Bh] 8=true:=by kernel_rfl
end controlDone
end
end Go.Proofs.YtjieiikpolahfaaGreatDoor
