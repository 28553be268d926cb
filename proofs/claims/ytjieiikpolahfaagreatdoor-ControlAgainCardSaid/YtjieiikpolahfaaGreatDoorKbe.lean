/- Steps. -/
import Derived.Test.YtjieiikpolahfaaGreatDoorKbd
set_option maxRecDepth 100000
set_option maxHeartbeats 8000000
set_option linter.all false
namespace Go.Proofs.YtjieiikpolahfaaGreatDoor
open _root_.Bool renaming and_eq_true→Af
section
theorem Vw{c:BN}{conn other now:Int}{line:ByteArray}(h:(askC c conn line now).2≠⟨#[]⟩)(O:(askC (askC c conn line now).1 other line now).2≠⟨#[]⟩)(hq:(parseR line).2=0):
  (askC (askC c conn line now).1 other line now).2=(askC c conn line now).2/\(askC (askC c conn line now).1 other line now).1=(askC c conn line now).1:=by
 obtain⟨h1,h2,h3⟩:=K1 h;obtain⟨_,N,_⟩:=K6 h1;obtain⟨X,Y,U⟩:=K1 O;rw [U];by_cases hf:(BM c.ops (parseR line).1.who).2=0
 ·cases ha:Bf c.done (parseR line).1.who (parseR line).1.id with
  | some t=>
   have he:∀o,Mv c o line now=(c,t):=fun o=>by
    unfold Mv;rw [if_neg Tb,if_neg Tc];have D:Bf c.done (comJ o line c).req.who (comJ o line c).req.id=some t:=ha;unfold commitC;rw [D];rfl
   rw [h3,he conn];dsimp only;rw [he other];exact⟨rfl,rfl⟩
  | none=>
   have G:=(Rr h).2.2 hq (fun⟨a,h4,h5⟩=>Es.1 ha a h4 h5) ((LB N.ops).1 hf);have B:(askC c conn line now).1.ops=c.ops:=by
    rw [h3];unfold Mv;rw [if_neg Tb,if_neg Tc];exact(Jf _ _ _).2
   generalize (askC c conn line now).1=d at G B ⊢;generalize (askC c conn line now).2=s at G ⊢;obtain⟨m,J,M,_,_⟩:=Jm G.1 ⟨(parseR line).1.who,(parseR line).1.id,s⟩;have D:Bf d.done (comJ other line d).req.who (comJ other line d).req.id=some s:=by
    rw [G.2,J];unfold Bf;rw [List.find?_append];have E:m.find? (fun a=>a.who==(comJ other line d).req.who&&a.id==(comJ other line d).req.id)=none:=by
     rw [List.find?_eq_none];intro a F;have:a∈c.done:=by rw [M] at F;exact List.mem_of_mem_drop F
     have T:=Es.1 ha a this;simp only [Af,beq_iff_eq];exact T
    rw [E];have h1:(comJ other line d).req=(parseR line).1:=rfl;rw [h1];simp
   unfold Mv;rw [if_neg Tb,B,if_neg Tc];unfold commitC;rw [D];exact⟨rfl,rfl⟩
 ·have he:∀o,Mv c o line now=(c,Ex [Eh,numS (parseR line).1.id,numS (BM c.ops (parseR line).1.who).2]):=fun o=>by
   unfold Mv;rw [if_neg Tb,if_pos Tc]
  rw [h3,he conn];dsimp only;rw [he other];exact⟨rfl,rfl⟩
end
end Go.Proofs.YtjieiikpolahfaaGreatDoor
