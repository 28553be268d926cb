/- Steps. -/
import Derived.Test.YtjieiikpolahfaaGreatDoorMau
set_option maxRecDepth 100000
set_option maxHeartbeats 8000000
set_option linter.all false
namespace Go.Proofs.YtjieiikpolahfaaGreatDoor
open Go.Proofs.Tryz
open _root_.ByteArray renaming empty→Bh
open IntKind renaming i64→pK
open Value renaming agg→pH,int→pE,slice→pF,string→Dz
section
open Go.ChangeShapes Go.WideShapes Go.ChangeAt Go.RowKit
namespace controlReplies
theorem Qr:(Rows.controlRepliesRow.wf (OpenSpec.ofChange Rows.controlRepliesSpec))=true:=bC
theorem Qk:(f6.params.all (Tryz.pinned.checked.prog.readableRec ·))=true:=by kernel_rfl
theorem Qh:(namedTie Tryz.pinned.checked.prog Rows.controlRepliesRow.named Rows.controlRepliesSpec.vars)=true:=bC
theorem Qe:((Rows.controlRepliesRow.inPlace==Tryz.pinned.checked.prog.inPlace 6))=true:=bC
theorem Qn:((Rows.controlRepliesRow.unfollowed==Tryz.pinned.checked.prog.unfollowed 6))=true:=bC
theorem Qj:((Rows.controlRepliesRow.recurses==Tryz.pinned.checked.prog.recurses 6))=true:=bC
theorem Qq:((Rows.controlRepliesRow.named==Tryz.pinned.checked.prog.varsNamed 6))=true:=bC
theorem Qg:((Rows.controlRepliesRow.maps==(f6.params.toList++Rows.controlRepliesSpec.plain.varTypes Tryz.pinned.checked.prog).any (Tryz.pinned.checked.prog.mapsRec ·)))=true:=by kernel_rfl
theorem KJ:((Rows.controlRepliesRow.ifaces==(f6.params.toList++Rows.controlRepliesSpec.plain.varTypes Tryz.pinned.checked.prog).any (Tryz.pinned.checked.prog.ifacesRec ·)))=true:=by kernel_rfl
theorem Qf:((Rows.controlRepliesRow.loops==(f6.params.toList++Rows.controlRepliesSpec.plain.varTypes Tryz.pinned.checked.prog).any (Tryz.pinned.checked.prog.loopsFrom ·)))=true:=by kernel_rfl
theorem Qs:((Rows.controlRepliesRow.wideKeys==(f6.params.toList++Rows.controlRepliesSpec.plain.varTypes Tryz.pinned.checked.prog++f6.resultTypes.toList).any (Tryz.pinned.checked.prog.wideKeysFrom ·)))=true:=by kernel_rfl
theorem Ql:(f6.resultTypes.all (fun t=>Tryz.pinned.checked.prog.readableRec t&&decide (t<Tryz.pinned.checked.prog.types.size)))=true:=by kernel_rfl
theorem Qo:((Rows.controlRepliesRow.veiled==(f6.params.toList++Rows.controlRepliesSpec.plain.varTypes Tryz.pinned.checked.prog++f6.resultTypes.toList).any (Tryz.pinned.checked.prog.veiledRec ·)))=true:=by kernel_rfl
theorem Qp:(Rows.controlRepliesRow.veiledFits Tryz.pinned.checked.prog f6.params.toList (f6.params.toList++Rows.controlRepliesSpec.plain.varTypes Tryz.pinned.checked.prog++f6.resultTypes.toList))=true:=by kernel_rfl
theorem It:Tryz.pinned.checked.prog.funcNamed Rows.controlRepliesRow.func=some 6:=bC
theorem Qc:((Tryz.pinned.checked.prog.closure 6).any fun g=>(Tryz.pinned.checked.prog.funcs[g]?).any Func.goes)=false:=bC
theorem Qd:false=Rows.controlRepliesRow.goesBy Tryz.pinned.checked.prog:=by
 show false=(((Tryz.pinned.checked.prog.funcNamed Rows.controlRepliesRow.func).any Tryz.pinned.checked.prog.goes)||false);rw [It,Option.any_some];unfold Program.goes;rw [Qc,R0];simp
theorem AE{a b:Bool}(h:a=true)(k:b=true):(a&&b)=true:=by rw [h,k];rfl
theorem Iu:joinedFacts Tryz.pinned.checked.prog 6 f6 Rows.controlRepliesSpec Rows.controlRepliesRow=true:=by
 unfold joinedFacts;exact AE (AE (AE (AE (AE (AE (AE (AE (AE (AE (AE (AE (AE (AE (AE (AE (AE (AE (AE (AE (AE (AE (AE (AE (AE (AE (AE (AE (AE (AE (AE Qr JQ) R7) Qk) Qh) bC) RA) bC) R8) Qe) Qn) Qj) Qq) Qg) KJ) bC) Qf) Qs) bC) Ql) bC) bC) R9) bC) RB) R4) R1) R5) bC) bC) Qo) Qp
theorem Qi(W:World):Input.okWideB checked.prog W 6 ⟨#[],#[pH #[pF none 0 0,pF none 0 0,pF none 0 0,pF none 0 0,pF none 0 0,pE pK 0,pF none 0 0,pE pK 0,pF none 0 0,pF none 0 0],pE pK 0,pE pK 0,Dz Bh],[]⟩=true:=by kernel_rfl
theorem KK(H:Type)(enc:TypeId×Value->H)(W:World):ChangeSpec.preB enc checked.prog f6 Rows.controlRepliesSpec [] false W #[pH #[pF none 0 0,pF none 0 0,pF none 0 0,pF none 0 0,pF none 0 0,pE pK 0,pF none 0 0,pE pK 0,pF none 0 0,pF none 0 0],pE pK 0,pE pK 0,Dz Bh] 8=true:=by kernel_rfl
theorem Qm(H:Type)(enc:TypeId×Value->H)(W:World):ChangeSpec.sizedB enc checked.prog f6 Rows.controlRepliesSpec false W #[pH #[pF none 0 0,pF none 0 0,pF none 0 0,pF none 0 0,pF none 0 0,pE pK 0,pF none 0 0,pE pK 0,pF none 0 0,pF none 0 0],pE pK 0,pE pK 0,Dz Bh] 8=true:=by kernel_rfl
end controlReplies
end
end Go.Proofs.YtjieiikpolahfaaGreatDoor
