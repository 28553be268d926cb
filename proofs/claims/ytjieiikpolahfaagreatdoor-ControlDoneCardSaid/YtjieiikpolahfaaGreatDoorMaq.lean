/- Steps. -/
import Derived.Test.YtjieiikpolahfaaGreatDoorMae
set_option maxRecDepth 100000
set_option maxHeartbeats 8000000
set_option linter.all false
namespace Go.Proofs.YtjieiikpolahfaaGreatDoor
open _root_.List renaming drop_zero→BC,length_append→Al,length_drop→B1
section
theorem K1{c:BN}{conn now:Int}{line:ByteArray}(h:(pY c conn line now).2≠⟨#[]⟩):(Fj c conn line).2=0/\(0<=now/\now<=1000000000000)/\pY c conn line now=Mv c conn line now:=by
 by_cases hc:(Fj c conn line).2=0
 ·by_cases hn:0<=now/\now<=1000000000000
  ·exact⟨hc,hn,XI hc hn⟩
  ·exfalso
   apply h;have hb:=(G1 _).2 (K6 hc).1;unfold pY;rw [if_pos hc];unfold D9;have hs:(EC (Fj c conn line).1 conn now 0).2.2≠0:=by
    unfold EC;rw [if_pos hb,if_pos bB];decide
   rw [if_pos hs]
 ·exfalso
  apply h;unfold pY;rw [if_neg hc]
theorem LB{l:List GF}{B:ByteArray}(h:G9 l=true):(BM l B).2=0↔∃o∈l,o.name=B:=by
 unfold BM;rw [if_pos h];cases hf:l.find? (fun o=>o.name==B) with
 | none=>
  rw [List.find?_eq_none] at hf;simp only [beq_iff_eq] at hf;constructor
  ·intro h;simp at h
  ·rintro⟨o,ho,e⟩;exact absurd e (hf o ho)
 | some o=>
  have h1:=List.find?_some hf;exact⟨fun _=>⟨o,List.mem_of_find?_eq_some hf,by simpa using h1⟩,fun _=>rfl⟩
theorem Rr{c:BN}{conn now:Int}{line:ByteArray}(h:(pY c conn line now).2≠⟨#[]⟩):
  ((parseR line).2≠0->(pY c conn line now).1=c)/\
  ((parseR line).2=0->((∃a∈c.done,a.who=(parseR line).1.who/\a.id=(parseR line).1.id)\/¬ ∃o∈c.ops,o.name=(parseR line).1.who)->(pY c conn line now).1=c)/\
  ((parseR line).2=0->¬(∃a∈c.done,a.who=(parseR line).1.who/\a.id=(parseR line).1.id)->(∃o∈c.ops,o.name=(parseR line).1.who)->
   c.done.length<=8/\(pY c conn line now).1.done=Do (c.done++[⟨(parseR line).1.who,(parseR line).1.id,(pY c conn line now).2⟩])):=by
 obtain⟨h1,h2,h3⟩:=K1 h;obtain⟨_,B,_⟩:=K6 h1;rw [h3];unfold Mv;by_cases hq:(parseR line).2=0
 ·rw [if_neg Tb]
  refine⟨fun e=>absurd hq e,fun _ hk=>?_,fun _ hk hr=>?_⟩
  ·by_cases hf:(BM c.ops (parseR line).1.who).2=0
   ·rw [if_neg Tc]
    have hr:=(LB B.ops).1 hf;rcases hk with hk | hk
    ·unfold commitC
     cases D:Bf c.done (comJ conn line c).req.who (comJ conn line c).req.id with
     | some t=>rfl
     | none=>
      obtain⟨a,E,F⟩:=hk;exact absurd F (Es.1 D a E)
    ·exact absurd hr hk
   ·rw [if_pos Tc]
  ·have hf:=(LB B.ops).2 hr
   rw [if_neg Tc];refine⟨B.done,?_⟩;have D:Bf c.done (comJ conn line c).req.who (comJ conn line c).req.id=none:=Es.2 fun a D e=>hk ⟨a,D,e⟩;unfold commitC;rw [D];rfl
 ·rw [if_pos Tb]
  exact⟨fun _=>rfl,fun e=>absurd e hq,fun e=>absurd e hq⟩
theorem Jm{l:List IA}(h:l.length<=8)(a:IA):∃m,Do (l++[a])=m++[a]/\m=l.drop (l.length - m.length)/\m.length<=7/\(l.length=m.length\/l.length=8/\m.length=7):=by
 unfold Do;by_cases h8:l.length=8
 ·refine⟨l.drop 1,?_,?_,?_,?_⟩
  ·rw [Al,h8,List.drop_append_of_le_length bG];rfl
  ·rw [B1,h8]
  ·rw [B1,h8];omega
  ·right;rw [B1,h8];exact⟨rfl,rfl⟩
 ·refine⟨l,?_,?_,by omega,.inl rfl⟩
  ·rw [Al]
   have:l.length + [a].length - 8=0:=by simp;omega
   rw [this,BC]
  ·simp
end
end Go.Proofs.YtjieiikpolahfaaGreatDoor
