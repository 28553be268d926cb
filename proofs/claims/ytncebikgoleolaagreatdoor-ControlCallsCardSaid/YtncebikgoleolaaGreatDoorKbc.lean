/- Steps. -/
import Derived.Test.YtncebikgoleolaaGreatDoorKap
set_option maxRecDepth 100000
set_option maxHeartbeats 8000000
set_option linter.all false
namespace Go.Proofs.YtncebikgoleolaaGreatDoor
section
theorem tG{c:BN}{conn:Int}{line:ByteArray}(h:(Fj c conn line).2≠0):(Fj c conn line).1=Hl/\(JY c=false\/(Ma c conn).2=true\/conn<0\/3<conn):=by
 unfold Fj at h ⊢;split at h
 ·rename_i h1
  rw [if_pos h1];split at h
  ·rename_i h2;rw [if_pos h2];exact⟨rfl,.inr (.inr bB)⟩
  ·rename_i h2;rw [if_neg h2]
   split at h
   ·rename_i h3;rw [if_pos h3]
    refine⟨rfl,.inr (.inl ?_)⟩;unfold Ma;cases hp:BF c.jobs conn with
    | none=>rw [hp] at h3;cases h3
    | some i=>rfl
   ·exact absurd rfl h
 ·rename_i h1
  rw [if_neg h1];exact⟨rfl,.inl bR⟩
theorem sR{c:BN}{conn other:Int}{line:ByteArray}(h:(Fj c conn line).2=0):
  (Ma c conn).2=false/\Ma (Fj c conn line).1 conn=(DN conn line,true)/\(other=conn\/Ma (Fj c conn line).1 other=Ma c other)/\(Fj (Fj c conn line).1 conn line).2=191/\JY (Fj c conn line).1=true:=by
 obtain⟨h1,h2,h3,h4,F,D⟩:=K6 h;have hb:=(G1 _).2 h1;have B:BF (Fj c conn line).1.jobs conn=some c.jobs.length:=by
  rw [D];unfold BF;rw [List.findIdx?_append];have G:c.jobs.findIdx? (fun x=>x.conn==conn)=none:=F;rw [G];simp
 refine⟨by unfold Ma;rw [F],?_,?_,?_,hb⟩
 ·unfold Ma
  rw [B,D];simp [DN]
 ·by_cases ho:other=conn
  ·exact .inl ho
  ·right
   unfold Ma;have E:BF (Fj c conn line).1.jobs other=BF c.jobs other:=by
    rw [D];unfold BF;rw [List.findIdx?_append];cases hq:c.jobs.findIdx? (fun x=>x.conn==other) with
    | some i=>rfl
    | none=>
     have:¬conn=other:=fun e=>ho e.symm;simp [this]
   rw [E];cases hq:BF c.jobs other with
   | none=>rfl
   | some i=>
    obtain⟨hi,_⟩:=rJ hq;rw [D];simp [List.getElem?_append_left hi]
 ·generalize (Fj c conn line).1=d at hb B ⊢
  unfold Fj;rw [if_pos hb,if_neg bB,B];rfl
end
end Go.Proofs.YtncebikgoleolaaGreatDoor
