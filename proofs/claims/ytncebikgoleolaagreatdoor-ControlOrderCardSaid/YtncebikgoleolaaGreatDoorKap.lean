/- Steps. -/
import Derived.Test.YtncebikgoleolaaGreatDoorKao
import Derived.Lib.AtoiAll
import Derived.Lib.ItoaNum
set_option maxRecDepth 100000
set_option maxHeartbeats 8000000
set_option linter.all false
namespace Go.Proofs.YtncebikgoleolaaGreatDoor
open _root_.List renaming findIdx?_eq_some_iff_getElem→Dx
section
open Go
def Ma(c:BN)(conn:Int):Bq×Bool:=match BF c.jobs conn with
 | some i=>(c.jobs.getD i job0,true)
 | none=>(job0,false)
end
section
theorem rJ{l:List Bq}{conn:Int}{i:Nat}(h:BF l conn=some i):∃hi:i<l.length,l[i].conn=conn:=by
 obtain⟨hi,h1,_⟩:=Dx.1 h;exact⟨hi,by simpa using h1⟩
end
end Go.Proofs.YtncebikgoleolaaGreatDoor
