/- Steps. -/
import Derived.Test.YtncebikgoleolaaGreatDoorKap
import Derived.Test.YtncebikgoleolaaGreatDoorKbd
import Derived.Lib.AtoiAll
import Derived.Lib.ItoaNum
set_option maxRecDepth 100000
set_option maxHeartbeats 8000000
set_option linter.all false
namespace Go.Proofs.YtncebikgoleolaaGreatDoor
open _root_.Int renaming toNat_natCast→pW
open _root_.List renaming getD_eq_getElem?_getD→AO,getElem?_eq_getElem→Aq,getElem_mem→pS,mem_map→BO,replicate→D6
section
open Go
def qF:List Ten->List Ten->List (Int×Int)
 | t::l,u::m=>(if u.state≠t.state then [(u.slot,u.gen)] else [])++qF l m
 | _,_=>[]
def rS(c:BN)(now:Int):BN×List (Int×Int):=
 if JY c then({ c with reg:=Hx c.reg now },qF c.reg.l (Hx c.reg now).l) else(c,[])
end
section
theorem uO{c:BN}{conn now left:Int}(he:(EC c conn now left).2.2=0):Gd (EC c conn now left).1:=by
 unfold EC at he ⊢;split at he
 ·rename_i hc
  rw [if_pos hc];have h:=(G1 c).1 hc;split at he
  ·simp at he
  ·rename_i hn
   rw [if_neg hn];cases hp:BF c.jobs conn with
   | none=>rw [hp] at he;simp at he
   | some i=>
    dsimp only;obtain⟨hi,D⟩:=rJ hp;have hg:c.jobs.getD i job0=c.jobs[i]:=by rw [AO,Aq hi];rfl
    rw [hg];have hs:=Jz h (h.job _ (pS hi)) now left;generalize Co c.jobs[i] c now left=s at hs ⊢;have B:(∀j∈c.jobs.set i s.1,Gn j=true)/\(c.jobs.set i s.1).Pairwise (fun a b=>a.conn≠b.conn):=by
     refine⟨fun j hj=>?_,?_⟩
     ·rcases List.mem_or_eq_of_mem_set hj with h1 | rfl
      ·exact h.job j h1
      ·exact hs.job
     ·have h1:(c.jobs.map Bq.conn).Pairwise (fun a b=>a≠b):=(List.pairwise_map).2 h.conn
      have h2:(c.jobs.set i s.1).map Bq.conn=c.jobs.map Bq.conn:=by
       rw [List.map_set,hs.conn];have:(c.jobs.map Bq.conn)[i]'(by simpa using hi)=c.jobs[i].conn:=bA;rw [<- this,List.set_getElem_self]
      rw [<- h2] at h1;exact(List.pairwise_map).1 h1
    refine⟨fun j hj=>?_,?_,hs.done,hs.ops,hs.reg,hs.pool⟩
    ·dsimp only at hj
     split at hj
     ·exact B.1 j (List.mem_of_mem_eraseIdx hj)
     ·exact B.1 j hj
    ·dsimp only
     split
     ·exact B.2.sublist (List.eraseIdx_sublist ..)
     ·exact B.2
 ·simp at he
theorem uV{ops:List GF}{n:Int}(h:(W6 ops n).2=0):Gd (W6 ops n).1:=by
 unfold W6 at h ⊢;split at h
 ·rename_i h1
  rw [if_pos h1];split at h
  ·rename_i h2
   rw [if_pos h2];have hs:LS (Qz n).1.slots:=by
    unfold Qz IU at h2 ⊢;split at h2
    ·simp at h2
    ·rename_i h3
     rw [if_neg h3];obtain⟨k,rfl⟩:∃k:Nat,n=k:=⟨n.toNat,by omega⟩;refine⟨by simp;omega,by simp;omega,by simp,fun g hg=>?_,fun i hi=>?_,?_,?_⟩
     ·have:=List.eq_of_mem_replicate hg;omega
     ·obtain⟨j,hj,rfl⟩:=BO.1 hi
      simp only [pW,List.mem_range] at hj;refine⟨by omega,by simp;omega,?_⟩;rw [AO,List.getElem?_replicate_of_lt bG];rfl
     ·rw [List.nodup_iff_pairwise_ne,List.pairwise_map]
      exact(List.nodup_iff_pairwise_ne.1 List.nodup_range).imp (fun D=>by omega)
     ·simp [List.count_replicate]
   refine⟨by simp,by simp,by simp,h1,⟨hs,⟨(by decide:(0:Int)<=0),(by decide:(0:Int)<=1000000000000)⟩,?_,by intro t B;unfold Qz at B;simp at B,by unfold Qz;simp⟩,(LM _).1 (show Ej ⟨[],1⟩=true by decide)⟩;unfold Qz IU at h2 ⊢;split at h2
   ·simp at h2
   ·rename_i h3
    rw [if_neg h3];unfold Dt;split
    ·have:∀(k i:Nat) (g:List Int),usedL i (D6 k false) g = []:=by
      intro k;induction k with
      | zero=>intro i g;simp [usedL]
      | succ k ih=>
       intro i g;cases g with
       | nil=>simp [List.replicate_succ,usedL]
       | cons x m=>rw [List.replicate_succ];exact ih (i+1) m
     dsimp only;rw [this];rfl
    ·rfl
  ·rename_i h2;exact absurd h h2
 ·simp at h
theorem uF{c:BN}(h:Gd c)(now:Int):Gd (rS c now).1/\(rS c now).1.reg=Hx c.reg now:=by
 unfold rS;rw [if_pos ((G1 c).2 h)];exact⟨⟨h.job,h.conn,h.done,h.ops,uQ h.reg now,h.pool⟩,rfl⟩
theorem uD{c:BN}{conn now left:Int}(he:(EC c conn now left).2.2=0):
  (EC c conn now left).1.reg=c.reg\/((Ma c conn).1.phase=3/\(EC c conn now left).1.reg=(pY c.reg (Ma c conn).1.role (Ma c conn).1.req.com now).1):=by
 unfold EC at he ⊢;split at he
 ·rename_i h1;rw [if_pos h1]
  split at he
  ·simp at he
  ·rename_i h2;rw [if_neg h2]
   unfold Ma;cases hp:BF c.jobs conn with
   | none=>rw [hp] at he;simp at he
   | some i=>
    dsimp only;generalize c.jobs.getD i job0=j;unfold Co;split
    ·exact .inl rfl
    ·split
     ·exact .inl rfl
     ·split
      ·rename_i h3
       dsimp only;unfold commitC;cases Bf c.done j.req.who j.req.id with
       | some t=>exact .inl rfl
       | none=>
        dsimp only;split
        ·exact .inr ⟨h3,rfl⟩
        ·exact .inl rfl
      ·split<;>exact .inl rfl
 ·simp at he
end
end Go.Proofs.YtncebikgoleolaaGreatDoor
