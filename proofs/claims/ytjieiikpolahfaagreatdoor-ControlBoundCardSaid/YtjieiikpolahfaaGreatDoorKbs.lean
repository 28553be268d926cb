/- Steps. -/
import Derived.Test.YtjieiikpolahfaaGreatDoorKah
import Derived.Test.YtjieiikpolahfaaGreatDoorKar
import Derived.Deep.RegionHeld
set_option maxRecDepth 100000
set_option maxHeartbeats 8000000
set_option linter.all false
namespace Go.Proofs.YtjieiikpolahfaaGreatDoor
open _root_.Go renaming undef→UD
open Value renaming pointer→pG
section
open Go.RowKit
theorem Kq{P:Program}{ops:Array Oper}{rest:List Oper}{o:Oper}{a:Act}{w:World}{Q:Exit->Act->World->Prop}(hgd:o.guard=none)(ty:TypeId)(x y:Operand)(ho:o.op = .store ty x y)
 (b off:Nat)(cells:Array Value)(hx:a.eval x = p_ b off)(hy:a.eval y = .agg cells)(t:TypeId)(old:Array Value)(hb:Blk w b t old)(hs:off+cells.size<=old.size)
 (hi:(P.info? ty).map (·.size)=some cells.size)(h1:cells.all (·.oneCell')=true)(new:Array Value)(hn:Ht old off cells.toList=new)(h:∀W',Blk W' b t new->Aa [b] w W'->wpList P ops Q rest (a.put o.dst UD) W'):wpList P ops Q (o::rest) a w:=
 wpList_store_mid hgd ty x y ho b off cells hx hy (Blk.there hb off cells.size hs) hi h1 (h _ (hn▸Blk.puts cells.toList off hb) (Bb b off _ w))
end
end Go.Proofs.YtjieiikpolahfaaGreatDoor
