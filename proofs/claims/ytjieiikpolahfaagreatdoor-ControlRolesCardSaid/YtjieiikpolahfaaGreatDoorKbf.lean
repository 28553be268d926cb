/- Steps. -/
import Derived.Test.YtjieiikpolahfaaGreatDoorKbb
set_option maxRecDepth 100000
set_option maxHeartbeats 8000000
set_option linter.all false
namespace Go.Proofs.YtjieiikpolahfaaGreatDoor
section
theorem WP{c:BN}{conn now:Int}{line:ByteArray}(h:(askC c conn line now).2≠⟨#[]⟩)(hm:¬((parseR line).2=0/\(BM c.ops (parseR line).1.who).2=0/\LJ (BM c.ops (parseR line).1.who).1 (parseR line).1.com.verb=true)):
  (askC c conn line now).1.reg.slots=c.reg.slots/\(askC c conn line now).1.reg.l=c.reg.l/\((parseR line).2≠0->(askC c conn line now).1=c):=by
 obtain⟨h1,h2,h3⟩:=K1 h;rw [h3];unfold Mv;by_cases hq:(parseR line).2=0
 ·rw [if_neg Tb]
  by_cases hf:(BM c.ops (parseR line).1.who).2=0
  ·rw [if_neg Tc]
   have D:LJ (BM c.ops (parseR line).1.who).1 (parseR line).1.com.verb=false:=by
    cases hb:LJ (BM c.ops (parseR line).1.who).1 (parseR line).1.com.verb with
    | false=>rfl
    | true=>exact absurd ⟨hq,hf,hb⟩ hm
   refine⟨?_,?_,fun e=>absurd hq e⟩;all_goals
    unfold commitC;cases Bf c.done (comJ conn line c).req.who (comJ conn line c).req.id with
    | some t=>rfl
    | none=>
     dsimp only;have B:(applyR c.reg (comJ conn line c).role (comJ conn line c).req.com now).1.slots=c.reg.slots/\(applyR c.reg (comJ conn line c).role (comJ conn line c).req.com now).1.l=c.reg.l\/(applyR c.reg (comJ conn line c).role (comJ conn line c).req.com now).2.err=150:=by
      unfold applyR;split
      ·right;rfl
      ·left
       dsimp only;have E:LJ (comJ conn line c).role (comJ conn line c).req.com.verb=false:=D;rw [if_pos E];exact⟨rfl,rfl⟩
     split
     ·rename_i hne
      rcases B with B | B
      ·first | exact B.1 | exact B.2
      ·exact absurd B hne
     ·rfl
  ·rw [if_pos Tc]
   exact⟨rfl,rfl,fun e=>absurd hq e⟩
 ·rw [if_pos Tb]
  exact⟨rfl,rfl,fun _=>rfl⟩
end
end Go.Proofs.YtjieiikpolahfaaGreatDoor
