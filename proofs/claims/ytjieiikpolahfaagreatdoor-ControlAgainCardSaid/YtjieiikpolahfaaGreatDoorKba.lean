/- Steps. -/
import Derived.Test.YtjieiikpolahfaaGreatDoorKaq
set_option maxRecDepth 100000
set_option maxHeartbeats 8000000
set_option linter.all false
namespace Go.Proofs.YtjieiikpolahfaaGreatDoor
open _root_.List renaming mem_singleton→Ag
section
theorem Iw{c:BN}{j:Bq}{now:Int}(k:Nat)(h:Gd (c.put j))(hn:0<=now/\now<=1000000000000)(hp:BF c.jobs j.conn=none)(B:j.phase=5):D9 (k+1) (c.put j) j.conn now=(c,j.reply):=by
 unfold D9;rw [JI h ⟨hn.1,hn.2,by decide⟩ hp];rw [QE B];rfl
theorem Gs{c:BN}{j k:Bq}{B:BN}{now:Int}(n:Nat)(h:Gd (c.put j))(hn:0<=now/\now<=1000000000000)(hp:BF c.jobs j.conn=none)(hs:Co j (c.put j) now 0=(k,B,Cp)):
  D9 (n+1) (c.put j) j.conn now=D9 n (BN.put ⟨B.ops,B.reg,B.pool,c.jobs,B.done⟩ k) j.conn now:=by
 conv=>lhs;unfold D9
 rw [JI h ⟨hn.1,hn.2,by decide⟩ hp];rw [hs];rfl
def comJ(conn:Int)(line:ByteArray)(c:BN):Bq:={ DN conn line with phase:=3,req:=(parseR line).1,role:=(BM c.ops (parseR line).1.who).1 }
def Mv(c:BN)(conn:Int)(line:ByteArray)(now:Int):BN×ByteArray:=
 if(parseR line).2≠0 then(c,Ex [Eh,numS 0,numS 193]) else
  if(BM c.ops (parseR line).1.who).2≠0 then(c,Ex [Eh,numS (parseR line).1.id,numS (BM c.ops (parseR line).1.who).2]) else
   ((commitC (comJ conn line c) c now).2,(commitC (comJ conn line c) c now).1.reply)
theorem XI{c:BN}{conn now:Int}{line:ByteArray}(hc:(Fj c conn line).2=0)(hn:0<=now/\now<=1000000000000):askC c conn line now=Mv c conn line now:=by
 obtain⟨h1,h2,h3,h4,h5,h6⟩:=K6 hc;unfold askC;rw [if_pos hc,h6];have D:Gd (c.put (DN conn line)):=by rw [h6] at h1;exact h1
 show D9 6 (c.put (DN conn line)) (DN conn line).conn now=_;have ah:Gn (DN conn line)=true:=D.job _ (List.mem_append_right _ (Ag.2 rfl));have N:=Jz D ah now 0;unfold Mv;by_cases hq:(parseR line).2=0
 ·rw [if_neg Tb]
  have hs:Co (DN conn line) (c.put (DN conn line)) now 0=({ DN conn line with req:=(parseR line).1,phase:=2 },c.put (DN conn line),Cp):=by
   rw [Le rfl,show(DN conn line).line=line from rfl,if_neg Tb];rfl
  rw [Gs 5 D hn h5 hs];have hk:Gn { DN conn line with req:=(parseR line).1,phase:=2 } = true:=by rw [hs] at N;exact N.job
  have O:=Kh (k:={ DN conn line with req:=(parseR line).1,phase:=2 }) (r:=c.reg) (p:=c.pool) (d:=c.done) D hk rfl h2.reg h2.pool h2.done;generalize hk2:({ DN conn line with req:=(parseR line).1,phase:=2 } : Bq)=k2 at O hk ⊢;have J:k2.conn=conn:=by rw [<- hk2];rfl
  have X:k2.req=(parseR line).1:=by rw [<- hk2]
  have ai:k2.phase=2:=by rw [<- hk2]
  show D9 5 (c.put k2) (DN conn line).conn now=_;have ae:(DN conn line).conn=k2.conn:=J.symm;rw [ae];have aa:BF c.jobs k2.conn=none:=by rw [J];exact h5
  have al:=Jz O hk now 0;by_cases hf:(BM c.ops (parseR line).1.who).2=0
  ·rw [if_neg Tc]
   have M:Co k2 (c.put k2) now 0=(comJ conn line c,c.put k2,Cp):=by
    have F:(c.put k2).ops=c.ops:=rfl;rw [Lf ai,X,F,if_neg Tc,<- hk2];rfl
   rw [Gs 4 O hn aa M];have hk3:Gn (comJ conn line c)=true:=by
    have:MF k2 (Co k2 (c.put k2) now 0):=al;rw [M] at this;exact this.job
   have h8:=Kh (k:=comJ conn line c) (r:=c.reg) (p:=c.pool) (d:=c.done) O hk3 (by rw [J];rfl) h2.reg h2.pool h2.done;show D9 4 (c.put (comJ conn line c)) k2.conn now=_;have af:k2.conn=(comJ conn line c).conn:=J;rw [af];have aj:BF c.jobs (comJ conn line c).conn=none:=h5;have ag:=MQ (comJ conn line c) c (comJ conn line c) now;have ak:Co (comJ conn line c) (c.put (comJ conn line c)) now 0=((commitC (comJ conn line c) c now).1,(commitC (comJ conn line c) c now).2.put (comJ conn line c),Cp):=by
    rw [QD rfl,ag.1,ag.2]
   have am:=Jz h8 hk3 now 0;have B:MF (comJ conn line c) ((commitC (comJ conn line c) c now).1,(commitC (comJ conn line c) c now).2.put (comJ conn line c),Cp):=by rw [<- ak];exact am
   have E:=Jf (comJ conn line c) c now;rw [Gs 3 h8 hn aj ak];have U:=KE (comJ conn line c) c now;generalize (commitC (comJ conn line c) c now).1=k4 at B U ⊢;generalize hc4:(commitC (comJ conn line c) c now).2=c4 at B E ⊢;have h9:=Kh (k:=k4) (r:=c4.reg) (p:=c4.pool) (d:=c4.done) h8 B.job B.conn B.reg B.pool B.done;have ac:(⟨c4.ops,c4.reg,c4.pool,c.jobs,c4.done⟩:BN)=c4:=by rw [<- E.1]
   have ad:(⟨c.ops,c4.reg,c4.pool,c.jobs,c4.done⟩:BN)=c4:=by rw [<- E.1,<- E.2]
   show D9 3 (BN.put ⟨c4.ops,c4.reg,c4.pool,c.jobs,c4.done⟩ k4) _ now=_;rw [ac];have Y:Gd (c4.put k4):=by rw [<- ad];exact h9
   have T:(comJ conn line c).conn=k4.conn:=B.conn.symm;rw [T];have G:BF c4.jobs k4.conn=none:=by rw [E.1,<- T];exact h5
   rcases U with ao | an
   ·exact Iw 2 Y hn G ao
   ·have hs5:Co k4 (c4.put k4) now 0=({ k4 with phase:=5 },c4.put k4,Cp):=by
     rw [M9 an];rfl
    rw [Gs 2 Y hn G hs5];have h10:=Kh (k:={ k4 with phase:=5 }) (r:=c4.reg) (p:=c4.pool) (d:=c4.done) Y (Fe 5 B.job rfl rfl bE rfl) rfl B.reg B.pool B.done;exact Iw (c:=c4) (j:={ k4 with phase:=5 }) 1 h10 hn G rfl
  ·rw [if_pos Tc]
   have M:Co k2 (c.put k2) now 0=(Bq.refuses { k2 with role:=(BM c.ops (parseR line).1.who).1 } (parseR line).1.id (BM c.ops (parseR line).1.who).2,c.put k2,Cp):=by
    have F:(c.put k2).ops=c.ops:=rfl;rw [Lf ai,X,F,if_pos Tc]
   rw [Gs 4 O hn aa M];have h8:=Kh (k:=Bq.refuses { k2 with role:=(BM c.ops (parseR line).1.who).1 } (parseR line).1.id (BM c.ops (parseR line).1.who).2) (r:=c.reg) (p:=c.pool) (d:=c.done) O (Fe 5 hk rfl rfl bE rfl) rfl h2.reg h2.pool h2.done;exact Iw (c:=c) 3 h8 hn aa rfl
 ·rw [if_pos Tb]
  have hs:Co (DN conn line) (c.put (DN conn line)) now 0=(Bq.refuses { DN conn line with req:=(parseR line).1 } 0 193,c.put (DN conn line),Cp):=by
   rw [Le rfl,show(DN conn line).line=line from rfl,if_pos Tb];rfl
  rw [Gs 5 D hn h5 hs];have hk:Gn (Bq.refuses { DN conn line with req:=(parseR line).1 } 0 193)=true:=by rw [hs] at N;exact N.job
  have O:=Kh (k:=Bq.refuses { DN conn line with req:=(parseR line).1 } 0 193) (r:=c.reg) (p:=c.pool) (d:=c.done) D hk rfl h2.reg h2.pool h2.done;exact Iw (c:=c) 4 O hn h5 rfl
end
end Go.Proofs.YtjieiikpolahfaaGreatDoor
