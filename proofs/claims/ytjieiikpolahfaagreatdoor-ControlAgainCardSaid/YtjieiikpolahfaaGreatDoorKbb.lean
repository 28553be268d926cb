/- Steps. -/
import Derived.Test.YtjieiikpolahfaaGreatDoorKba
set_option maxRecDepth 100000
set_option maxHeartbeats 8000000
set_option linter.all false
namespace Go.Proofs.YtjieiikpolahfaaGreatDoor
section
theorem K1{c:BN}{conn now:Int}{line:ByteArray}(h:(askC c conn line now).2≠⟨#[]⟩):(Fj c conn line).2=0/\(0<=now/\now<=1000000000000)/\askC c conn line now=Mv c conn line now:=by
 by_cases hc:(Fj c conn line).2=0
 ·by_cases hn:0<=now/\now<=1000000000000
  ·exact⟨hc,hn,XI hc hn⟩
  ·exfalso
   apply h;have hb:=(G1 _).2 (K6 hc).1;unfold askC;rw [if_pos hc];unfold D9;have hs:(EC (Fj c conn line).1 conn now 0).2.2≠0:=by
    unfold EC;rw [if_pos hb,if_pos bB];decide
   rw [if_pos hs]
 ·exfalso
  apply h;unfold askC;rw [if_neg hc]
end
end Go.Proofs.YtjieiikpolahfaaGreatDoor
