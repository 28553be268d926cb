/- Steps. -/
import Derived.Test.YtncebikgoleolaaGreatDoorKan
set_option maxRecDepth 100000
set_option maxHeartbeats 8000000
set_option linter.all false
namespace Go.Proofs.YtncebikgoleolaaGreatDoor
section
theorem rY{r:CJ}(h:CE r)(now:Int):∀(m k:Nat) (c:CJ),k+m=r.l.length->X8 r k c->X8 r r.l.length ((r.l.drop k).foldl (GS now) c)
 | 0,k,c,hm,hc=>by
  have:k=r.l.length:=bB;subst this;simpa using hc
 | m+1,k,c,hm,hc=>by
  have hk:k<r.l.length:=bB;rw [List.drop_eq_getElem_cons hk,List.foldl_cons];exact rY h now m (k+1) _ bB (hc.step hk now)
theorem sP{r:CJ}(h:CE r)(now:Int):X8 r r.l.length (Hx r now):=by
 unfold Hx;rw [if_pos ((Z4 r).2 h)];have:=rY h now r.l.length 0 r bB ⟨h,rfl,rfl,fun _ _=>rfl,rfl,Int.le_refl _⟩;simpa using this
theorem uQ{r:CJ}(h:CE r)(now:Int):CE (Hx r now):=(sP h now).ok
theorem uG{r:CJ}(h:CE r)(now:Int):(Hx r now).l.length=r.l.length:=by
 have:=congrArg List.length (sP h now).hs;simpa using this
end
end Go.Proofs.YtncebikgoleolaaGreatDoor
