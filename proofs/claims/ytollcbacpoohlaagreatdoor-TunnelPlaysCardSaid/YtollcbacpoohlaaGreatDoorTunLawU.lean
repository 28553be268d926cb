/- From a statement's walk to its row and to its card: what the listed variable gives. -/
import Derived.Test.YtollcbacpoohlaaGreatDoorTunPl
import Derived.Test.YtollcbacpoohlaaGreatDoorLaw
import Derived.Test.YtollcbacpoohlaaGreatDoorTie
import Derived.Test.YtollcbacpoohlaaGreatDoorCards
import Derived.LaidMore
import Derived.LaidHandle
import Derived.Stop.Joined
import Derived.SevenTiedAt
namespace Go.Proofs.YtollcbacpoohlaaGreatDoor
open Go.ChangeShapes Go.WideShapes Go.ChangeAt Go.RowKit

theorem own : ownKnob Tryz.prog.godebug = none := by kernel_rfl
noncomputable def wlaid : List (String × DataW Unit) := [("errors.errorType", Rows.laid_errors_errorType)]
theorem w_et : Tryz.prog.globalNamed "errors.errorType" = some 0 := by kernel_rfl
theorem w_rt : (Tryz.prog.cutTypes.find? (·.1 == "internal/reflectlite.rtype")).map (·.2) = some 139 := by kernel_rfl
theorem w_oneRow : ((List.range Tryz.prog.types.size).filter fun t => Tryz.prog.rowNamed t [101, 114, 114, 111, 114]) = [72] := by kernel_rfl
theorem et_of_laid {W : World} (h : laidMetH Tryz.prog wlaid W) : Et W := by
  have h' : laidMet Tryz.prog [] W ∧ handlesMet Tryz.prog wlaid W := h
  obtain ⟨name, u, ty, e1, e2, e3, e4, e5⟩ := h'.2 _ (List.mem_singleton.2 rfl)
  have en : name = [101, 114, 114, 111, 114] := (Option.some.inj e1).symm
  subst en
  obtain rfl := Option.some.inj (w_rt.symm.trans e2)
  have hm : ty ∈ (List.range Tryz.prog.types.size).filter fun t => Tryz.prog.rowNamed t [101, 114, 114, 111, 114] := List.mem_filter.2 ⟨List.mem_range.2 e3, e4⟩
  rw [w_oneRow] at hm
  obtain rfl := List.mem_singleton.1 hm
  have hh : typeHandle Tryz.prog 72 = .pointer (some ⟨1, 72, none⟩) := by kernel_rfl
  rw [hh] at e5
  simpa [Et] using World.var?_cell w_et e5 0
theorem door_met (os : Os) (args : Array Value) : laidMetH Tryz.prog wlaid ((World.doorLaid Tryz.prog 400 os).forCall (fun _ _ => 0) ⟨#[], args, []⟩).memory :=
  laidMetH_of_parts (laidMet_nil _ _) (by kernel_rfl)
end Go.Proofs.YtollcbacpoohlaaGreatDoor
