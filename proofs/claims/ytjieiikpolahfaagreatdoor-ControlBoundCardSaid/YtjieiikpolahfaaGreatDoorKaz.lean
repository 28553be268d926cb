/- Steps. -/
import Derived.Test.YtjieiikpolahfaaGreatDoorKam
set_option maxRecDepth 100000
set_option maxHeartbeats 8000000
set_option linter.all false
namespace Go.Proofs.YtjieiikpolahfaaGreatDoor
open _root_.List renaming length_drop→B1
section
theorem Sl(l:List Sn)(now:Int):(JO l now).Sublist l:=by
 unfold JO;split
 ·exact(List.drop_sublist _ _).trans List.filter_sublist
 ·exact List.filter_sublist
theorem Zl{l:List Sn}(now:Int)(h:l.length<=3):(JO l now).length<=2:=by
 have:=List.length_filter_le (Fs now) l;unfold JO;split
 ·rw [B1];omega
 ·omega
theorem SP.pin{p:Po}{now:Int}(h:SP p now)(xs:List ByteArray)(hx:Dd xs=true)(hn:p.next<1000000000000):SP ⟨JO p.l now++[⟨p.next,xs,now⟩],p.next+1⟩ now:=
 h.add (Sl _ _) (Zl _ h.ok.len) ⟨p.next,xs,now⟩ (p.next+1) bB bB ⟨h.ok.n1,by dsimp only;omega⟩ (fun t ht=>by have:=h.ok.cur t ((Sl _ _).subset ht);dsimp only;omega) rfl hx
theorem Zk{p:Po}{now:Int}(h:SP p now){xs:List ByteArray}(hx:Dd xs=true)(hn:p.next<1000000000000):IV p xs now=(⟨JO p.l now++[⟨p.next,xs,now⟩],p.next+1⟩,p.next,0):=by
 unfold IV;rw [(Hj p now).2 h,hx];simp [hn]
end
end Go.Proofs.YtjieiikpolahfaaGreatDoor
