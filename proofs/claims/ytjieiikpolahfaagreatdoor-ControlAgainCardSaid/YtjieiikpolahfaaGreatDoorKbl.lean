/- Steps. -/
import Derived.Test.YtjieiikpolahfaaGreatDoorKal
import Derived.Test.YtjieiikpolahfaaGreatDoorKau
import Derived.Test.YtjieiikpolahfaaGreatDoorKbc
set_option maxRecDepth 100000
set_option maxHeartbeats 8000000
set_option linter.all false
namespace Go.Proofs.YtjieiikpolahfaaGreatDoor
open Lib renaming toList_data→C9
section
open Go.RowKit Go.Shelf
theorem Vj{a b:ByteArray}(h:a.toList=b.toList):a=b:=by
 rw [C9,C9] at h;cases a with | mk x=>cases b with | mk y=>cases x;cases y;simp at h;subst h;rfl
theorem NX{a b:ByteArray}(h:a≠b):(a.toList==b.toList)=false:=by simpa using fun e=>h (Vj e)
end
end Go.Proofs.YtjieiikpolahfaaGreatDoor
