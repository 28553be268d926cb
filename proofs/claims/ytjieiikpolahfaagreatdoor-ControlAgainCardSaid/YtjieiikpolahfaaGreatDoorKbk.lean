/- Steps. -/
import Derived.Test.YtjieiikpolahfaaGreatDoorKal
set_option maxRecDepth 100000
set_option maxHeartbeats 8000000
set_option linter.all false
namespace Go.Proofs.YtjieiikpolahfaaGreatDoor
open Lib renaming toList_data→C9
open _root_.List renaming isEmpty_eq_false_iff→E9
section
open Go.RowKit Go.Shelf
theorem Nw{u:ByteArray}(h:u≠⟨#[]⟩):u.toList.isEmpty=false:=by
 rw [C9];exact E9.2 fun e=>h (by cases u with | mk d=>cases d with | mk l=>simp at e;subst e;rfl)
end
end Go.Proofs.YtjieiikpolahfaaGreatDoor
