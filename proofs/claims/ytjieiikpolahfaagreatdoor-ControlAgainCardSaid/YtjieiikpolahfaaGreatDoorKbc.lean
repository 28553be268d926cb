/- Steps. -/
import Derived.Test.YtjieiikpolahfaaGreatDoorKba
set_option maxRecDepth 100000
set_option maxHeartbeats 8000000
set_option linter.all false
namespace Go.Proofs.YtjieiikpolahfaaGreatDoor
section
theorem Es{l:List IA}{B:ByteArray}{id:Int}: Bf l B id=none↔∀a∈l,¬(a.who=B/\a.id=id):=by
 unfold Bf;rw [Option.map_eq_none_iff,List.find?_eq_none];simp
end
end Go.Proofs.YtjieiikpolahfaaGreatDoor
