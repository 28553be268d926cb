/- Steps. -/
import Derived.Test.YtncebikgoleolaaGreatDoorKay
set_option maxRecDepth 100000
set_option maxHeartbeats 8000000
set_option linter.all false
namespace Go.Proofs.YtncebikgoleolaaGreatDoor
open IntKind renaming i64→pK
open Value renaming int→pE
section
open Go.RowKit Go.Shelf
theorem Fu{n k:Nat}(i:wrap64 ((k:Int)+1)=(k:Int)+1)(h:k<n):n - (intOf (I_ (wrap64 ((k:Int)+1)))).toNat<n - (intOf (I_ (k:Int))).toNat:=by
 rw [i];simp only [intOf];omega
end
end Go.Proofs.YtncebikgoleolaaGreatDoor
