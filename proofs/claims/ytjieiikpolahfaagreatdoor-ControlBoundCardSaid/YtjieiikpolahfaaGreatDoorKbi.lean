/- Steps. -/
import Derived.Test.YtjieiikpolahfaaGreatDoorKal
set_option maxRecDepth 100000
set_option maxHeartbeats 8000000
set_option linter.all false
namespace Go.Proofs.YtjieiikpolahfaaGreatDoor
open IntKind renaming i64→pK
open Oper renaming semAt_some→pN
open Region renaming wanted→CQ
open Value renaming int→pE,pointer→pG
section
open Go.RowKit Go.Shelf
attribute [local go_sem] pN Lr Ls Lp Lq
attribute [local go_sem ↓] wp_at_zero wp_at_succ
theorem LP{P:Program}{ops:Array Oper}{rest:List Oper}{op:Oper}{a:Act}{w:World}{Q:Exit->Act->World->Prop}(hw:CQ op (yielded ops a.tmps)=true)(ty:TypeId)(x:Operand)(ho:op.op = .load ty x)
 (b o:Nat)(hx:a.eval x = p_ b o)(cs:Array Value)(d:TypeDesc)(hc:w.rangeAt b o cs.toList)
 (hu:P.underlying ty=some d)(hd:d.isRow=true)(hi:(P.info? ty).map (·.size)=some cs.toList.length)
 (h:wpList P ops Q rest (a.put op.dst (.agg cs)) w):wpList P ops Q (op::rest) a w:=
 wpList_step fun K hK=>by
  rw [if_pos hw];unfold Oper.wp;rw [EO (P:=P) ty x ho b o hx cs d hc hu hd hi];exact hK _ _ h
end
section
open Go.RowKit Go.Shelf
theorem Fu{n k:Nat}(i:wrap64 ((k:Int)+1)=(k:Int)+1)(h:k<n):n - (intOf (I_ (wrap64 ((k:Int)+1)))).toNat<n - (intOf (I_ (k:Int))).toNat:=by
 rw [i];simp only [intOf];omega
theorem I7{P:Program}{ops:Array Oper}{rest:List Oper}{op:Oper}{a:Act}{w:World}{Q:Exit->Act->World->Prop}(ty:TypeId)(x:Operand)(ho:op.op = .load ty x)(hw:CQ op (yielded ops a.tmps)=true)
 (b o:Nat)(hx:a.eval x = p_ b o)(cs:Array Value)(d:TypeDesc)(hc:w.rangeAt b o cs.toList)
 (hu:P.underlying ty=some d)(hd:d.isRow=true)(hi:(P.info? ty).map (·.size)=some cs.toList.length)
 (h:wpList P ops Q rest (a.put op.dst (.agg cs)) w):wpList P ops Q (op::rest) a w:=LP hw ty x ho b o hx cs d hc hu hd hi h
end
end Go.Proofs.YtjieiikpolahfaaGreatDoor
