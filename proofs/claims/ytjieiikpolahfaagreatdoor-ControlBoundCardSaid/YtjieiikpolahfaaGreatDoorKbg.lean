/- Steps. -/
import Derived.Test.YtjieiikpolahfaaGreatDoorKar
import Derived.Test.YtjieiikpolahfaaGreatDoorKaz
set_option maxRecDepth 100000
set_option maxHeartbeats 8000000
set_option linter.all false
namespace Go.Proofs.YtjieiikpolahfaaGreatDoor
open _root_.Bool renaming and_eq_true→Af
open _root_.Classical renaming not_not→BB
open _root_.List renaming cons_append→AL,getElem?_cons_zero→Aj,length_cons→Av,length_map→Bd,length_take→Ax,map_cons→CR,mem_cons_of_mem→Ca,mem_cons_self→Bo,mem_cons→Ac,mem_singleton→Ag,nil_append→BH,pairwise_append→BK
open _root_.Nat renaming le_trans→A8,mul_le_mul_right→Ch
section
theorem OR:∀(w:List UInt8),(CM w).length<=2*w.length
 | []=>by simp [CM]
 | b::l=>by
  have:=OR l;unfold CM;split
  ·simp;omega
  ·split
   ·simp;omega
   ·simp;omega
theorem Us(w:List UInt8):(textW w).length<=2*w.length+2:=by
 unfold textW;split
 ·have:=OR w;simp;omega
 ·omega
theorem Yo:Kr 14 endT.data.toList:=⟨by decide,by decide,by decide,by decide⟩
def KT(t:ByteArray):Bool:=match Ce t.data.toList with
 | .ok _=>true
 | .error _=>false
def EG:Nat->BN->Int->Int->Int->Bool
 | 0,_,_,_,_=>false
 | k+1,d,conn,now,left=>
  if(EC d conn now left).2.2≠0\/JY (EC d conn now left).1=false then false else
   if(EC d conn now left).2.1.kind=2 then !(Ma (EC d conn now left).1 conn).2&&KT (EC d conn now left).2.1.text&&decide ((EC d conn now left).2.1.text≠⟨#[]⟩)
   else EG k (EC d conn now left).1 conn now (if(EC d conn now left).2.1.kind=1 then left - 1 else left)
theorem TO{l:List ByteArray}(h:(Je l).2=0)(hv:(Je l).1.com.verb=9):1<=(Je l).1.count/\(Je l).1.count<=3:=by
 have G:=U8 h;unfold Je at h hv ⊢;dsimp only at h hv ⊢;split at h
 ·simp at h
 ·rename_i hvb
  rw [if_neg hvb] at hv ⊢;split at h
  ·simp at h
  ·rename_i hb
   rw [if_neg hb] at hv ⊢;generalize hp1:({ (Pr.next ⟨req0,l,false⟩).2 with q:={ (Pr.next ⟨req0,l,false⟩).2.q with who:=(Pr.next ⟨req0,l,false⟩).1 } } : Pr)=p1 at hvb hb hv ⊢;generalize hp2:({ (p1.number 1 1000000).2 with q:={ (p1.number 1 1000000).2.q with id:=(p1.number 1 1000000).1 } } : Pr)=p2 at hvb hb hv ⊢;generalize hp3:p2.next.2.com { p2.next.2.q.com with verb:=(verbR p2.next.1).1 } = p3 at hb hv ⊢;have hk:=T6 _ (UZ (verbR p2.next.1).1) p3;have E:(verbR p2.next.1).1=9:=by
    rw [hk.verb,<- hp3] at hv;exact hv
   rw [E] at hb ⊢;have he:(partsR 9).foldl (fun p f=>f p) p3=p3.page:=rfl;rw [he] at hb ⊢;have B:p3.page.bad=false:=by
    cases hb':p3.page.bad with
    | false=>rfl
    | true=>exact absurd (.inl hb') hb
   have F:p3.page.q.count=(p3.number 1 3).1/\(p3.number 1 3).2.bad=false:=by
    unfold Pr.page at B ⊢;dsimp only at B ⊢;split at B
    ·rename_i h0;rw [if_pos h0];exact⟨rfl,B⟩
    ·rename_i h0;rw [if_neg h0]
     have h2:=Pr.number_k { (p3.number 1 3).2 with q:={ (p3.number 1 3).2.q with count:=(p3.number 1 3).1 } } 1 1000000000000;have h3:=Pr.any_k (Pr.number { (p3.number 1 3).2 with q:={ (p3.number 1 3).2.q with count:=(p3.number 1 3).1 } } 1 1000000000000).2;refine⟨?_,h2.bad (h3.bad B)⟩;have D:∀(p:Pr) (a b:Int),(p.number a b).2.q.count=p.q.count:=fun p a b=>by
      have hn:p.next.2.q.count=p.q.count:=by
       unfold Pr.next;cases p.l with
       | nil=>rfl
       | cons s l=>rfl
      unfold Pr.number;cases Ny p.next.1 a b with
      | none=>exact hn
      | some n=>exact hn
     dsimp only;unfold Pr.any;rw [D,D]
   rw [F.1];exact Pr.number_in F.2
theorem Sk{s:ByteArray}(h:(parseR s).2=0)(hv:(parseR s).1.com.verb=9):1<=(parseR s).1.count/\(parseR s).1.count<=3:=by
 unfold parseR at h hv ⊢;cases hs:Ce s.data.toList with
 | error e=>rw [hs] at h;exact absurd (show e=0 from h) (JG hs)
 | ok l=>rw [hs] at h hv;exact TO h hv
structure Vq(c:BN)(j:Bq):Prop where
 ok:Gd (c.put j)
 here:BF c.jobs j.conn=none
theorem Fa{c:BN}{j k:Bq}{B:BN}{e:GJ}{now left:Int}(n:Nat)(h:Vq c j)(hn:0<=now/\now<=1000000000000/\0<=left)(hs:Co j (c.put j) now left=(k,B,e))(he:e.kind≠2)(ho:B.ops=c.ops)(hk:k.conn=j.conn):
  EG (n+1) (c.put j) j.conn now left=EG n (BN.put ⟨c.ops,B.reg,B.pool,c.jobs,B.done⟩ k) k.conn now (if e.kind=1 then left - 1 else left)/\Vq ⟨c.ops,B.reg,B.pool,c.jobs,B.done⟩ k:=by
 have hst:=JI h.ok hn h.here;rw [hs] at hst;dsimp only at hst;rw [if_neg he] at hst;have D:=Jz h.ok (h.ok.job j (List.mem_append_right _ (Ag.2 rfl))) now left;rw [hs] at D;have hput:=Kh (k:=k) (r:=B.reg) (p:=B.pool) (d:=B.done) h.ok D.job hk D.reg D.pool D.done;have E:({ B with jobs:=c.jobs++[k] } : BN)=BN.put ⟨c.ops,B.reg,B.pool,c.jobs,B.done⟩ k:=by
  rw [<- ho];rfl
 refine⟨?_,hput,by rw [hk];exact h.here⟩
 conv=>lhs;unfold EG
 rw [hst];dsimp only;rw [E,(G1 _).2 hput,hk];rw [if_neg bA,if_neg he]
theorem M4{c:BN}{j:Bq}{now left:Int}(n:Nat)(h:Vq c j)(hn:0<=now/\now<=1000000000000/\0<=left)(hp:j.phase=5)(hg:∃l,IC j.reply l):EG (n+1) (c.put j) j.conn now left=true:=by
 have hst:=JI h.ok hn h.here;rw [QE hp] at hst;dsimp only at hst;rw [if_pos rfl] at hst;have B:Gd { c.put j with jobs:=c.jobs }:=⟨fun x hx=>h.ok.job x (List.mem_append_left _ hx),(BK.1 h.ok.conn).1,h.ok.done,h.ok.ops,h.ok.reg,h.ok.pool⟩;obtain⟨l,hl⟩:=hg;unfold EG;rw [hst];dsimp only;rw [(G1 _).2 B,if_neg bA,if_pos rfl];have hf:(Ma { c.put j with jobs:=c.jobs } j.conn).2=false:=by
  unfold Ma;dsimp only;rw [h.here]
 rw [hf];unfold KT;rw [hl.split];simp [hl.ne]
theorem UA{now:Int}(hn:0<=now/\now<=1000000000000):∀(left n:Nat) (c:BN) (j:Bq),left+2<=n->Vq c j->j.phase=4->(∃l,IC j.reply l)->EG n (c.put j) j.conn now left=true
 | 0,n,c,j,hl,h,hp,hg=>by
  obtain⟨n,rfl⟩:∃m,n=m+2:=⟨n - 2,by omega⟩;have hs:Co j (c.put j) now ((0:Nat):Int)=({ j with phase:=5 },c.put j,Cp):=M9 hp;obtain⟨h1,h2⟩:=Fa (n+1) h ⟨hn.1,hn.2,by simp⟩ hs bE rfl rfl;rw [h1];exact M4 n h2 ⟨hn.1,hn.2,by simp [Cp]⟩ rfl hg
 | left+1,n,c,j,hl,h,hp,hg=>by
  obtain⟨n,rfl⟩:∃m,n=m+1:=⟨n - 1,by omega⟩;have hs:Co j (c.put j) now ((left+1:Nat):Int)=(j,c.put j,⟨1,j.slot,j.gen,⟨#[]⟩⟩):=by
   rw [M9 hp,if_neg bB,if_neg bB]
  obtain⟨h1,h2⟩:=Fa n h ⟨hn.1,hn.2,by omega⟩ hs (by show ¬(1:Int)=2;decide) rfl rfl;rw [h1];have:=UA hn left n _ j bB h2 hp hg;have he:(if(⟨1,j.slot,j.gen,⟨#[]⟩⟩:GJ).kind=1 then((left+1:Nat):Int) - 1 else((left+1:Nat):Int))=(left:Int):=by
   rw [if_pos rfl];push_cast;omega
  rw [he];exact this
theorem KP{n:Int}(m:Nat)(h0:0<=n)(h1:n<((10 ^ m:Nat):Int))(hm:0<m)(B:n<100000000000000):(textW (numS n).data.toList).length<=m:=by
 have hb:=CZ h0 B;rw [hb.text];unfold numS;rw [Lg];unfold itoaL;rw [if_neg bB];exact L9 20 m n.toNat bB hm
theorem Ww{j:Bq}{r:CJ}{seq now:Int}(hr:CE r)(hn:0<=now/\now<=1000000000000)(hid:0<=j.req.id/\j.req.id<=1000000)(hs:0<=seq/\seq<=1000000000000)(hc:1<=j.req.count/\j.req.count<=3):
  ∃t l,(Ft j ⟨[],1⟩ (Bz r) seq now).1=j.answers t/\IC t l:=by
 obtain⟨hi,hnm⟩:=Mk hr;have E:SP ⟨[],1⟩ now:=⟨(LM _).1 (show Ej ⟨[],1⟩=true by decide),hn.1,hn.2,by simp⟩;have hck:=(Hj _ _).2 E;have N:=Zk E hi bE;have F:∀e:Int,e=2\/e=160\/e=161->∃l,IC (Ex [Eh,numS j.req.id,numS e]) l:=fun e he=>⟨_,FQ hid bB⟩;unfold Ft;by_cases h0:j.req.cursor=0
 ·rw [if_pos h0,N]
  dsimp only;rw [if_neg bE];generalize hP:(⟨JO [] now++[⟨1,Bz r,now⟩],1+1⟩:Po)=P;have O:P.l = [⟨1,Bz r,now⟩]:=by rw [<- hP];rfl
  have T:Db P now=true:=by rw [<- hP];exact(Hj _ _).2 (E.pin (Bz r) hi bE)
  have B:(∃e,(pageA P 1 j.req.from_ j.req.count now).2.2.2=e/\(e=2\/e=160\/e=161))\/((pageA P 1 j.req.from_ j.req.count now).2.2.2=0/\(∀x∈(pageA P 1 j.req.from_ j.req.count now).2.1,x∈Bz r)/\(pageA P 1 j.req.from_ j.req.count now).2.1.length<=3/\(pageA P 1 j.req.from_ j.req.count now).2.2.1<=64):=by
   unfold pageA;rw [if_pos T,if_neg bB,O];by_cases hh:Ga 1 j.req.from_ now ⟨1,Bz r,now⟩=true
   ·right
    have hf:CN (Ga 1 j.req.from_ now) [⟨1,Bz r,now⟩]=some 0:=by unfold CN;rw [if_pos hh]
    rw [hf];dsimp only [Aj];simp only [Ga,Af,decide_eq_true_eq] at hh;have X:(Bz r).length<=64:=by unfold Bz;rw [Bd];exact hr.len
    refine⟨rfl,fun x hx=>List.mem_of_mem_drop (List.mem_of_mem_take hx),?_,?_⟩
    ·rw [Ax]
     have:(IL (Bz r).length j.req.from_ j.req.count - j.req.from_).toNat<=3:=by
      unfold IL;split<;>omega
     omega
    ·split
     ·omega
     ·unfold IL;split<;>omega
   ·left
    have hf:CN (Ga 1 j.req.from_ now) [⟨1,Bz r,now⟩]=none:=by unfold CN CN;rw [if_neg hh];rfl
    rw [hf];exact⟨161,rfl,by omega⟩
  rcases B with⟨e,G,J⟩ | ⟨h1,h2,h3,h4⟩
  ·rw [G,if_pos bB]
   obtain⟨l,hl⟩:=F e J;exact⟨_,l,rfl,hl⟩
  ·rw [h1,if_neg bE]
   suffices hh:∃l,IC (Ex ([okT,numS j.req.id,numS seq,numS 1,if 0<=(pageA P 1 j.req.from_ j.req.count now).2.2.1 then numS (pageA P 1 j.req.from_ j.req.count now).2.2.1 else endT]++(pageA P 1 j.req.from_ j.req.count now).2.1)) l by
    obtain⟨l,hl⟩:=hh;exact⟨_,l,rfl,hl⟩
   have a1:=KP (n:=j.req.id) 7 bB bB bE bB;have a2:=KP (n:=seq) 13 bB bB bE bB;have a3:=KP (n:=1) 1 bB bB bE bB;have D:(textW (if 0<=(pageA P 1 j.req.from_ j.req.count now).2.2.1 then numS (pageA P 1 j.req.from_ j.req.count now).2.2.1 else endT).data.toList).length<=3/\Kr 14 (if 0<=(pageA P 1 j.req.from_ j.req.count now).2.2.1 then numS (pageA P 1 j.req.from_ j.req.count now).2.2.1 else endT).data.toList:=by
    split
    ·exact⟨KP 3 bB bB bE bB,CZ bB bB⟩
    ·exact⟨by decide,Yo⟩
   generalize (if 0<=(pageA P 1 j.req.from_ j.req.count now).2.2.1 then numS (pageA P 1 j.req.from_ j.req.count now).2.2.1 else endT)=ew at D ⊢;generalize (pageA P 1 j.req.from_ j.req.count now).2.1=pg at h2 h3 ⊢;have Y:(pg.map (fun x=>(textW x.data.toList).length+1)).sum<=pg.length*83:=by
    clear h3;induction pg with
    | nil=>simp
    | cons y m ih=>
     have h5:=ih (fun x hx=>h2 x (Ca _ hx));have h6:=(hnm y (h2 y Bo)).1;have h7:=Us y.data.toList;rw [CR,List.sum_cons,Av,Nat.add_mul];omega
   have U:(textW okT.data.toList).length=2:=bE;refine⟨_,P1 (w:=okT) (l:=[numS j.req.id,numS seq,numS 1,ew]++pg) bG (fun x hx=>?_) ?_⟩
   ·simp only [AL,BH,Ac] at hx
    have M:∀ {y:ByteArray},Kr 14 y.data.toList->y.data.toList.length<=64/\y.data.toList.all Cw=true:=fun h=>⟨A8 h.len h.small,h.plain⟩;rcases hx with rfl | rfl | rfl | rfl | rfl | hx
    ·exact M UU
    ·exact M (CZ bB bB)
    ·exact M (CZ bB bB)
    ·exact M (CZ bB bB)
    ·exact M D.2
    ·have:=hnm x (h2 x hx);exact⟨by omega,this.2⟩
   ·simp only [AL,BH,CR,List.sum_cons]
    rw [U];have:=D.1;have h8:pg.length*83<=249:=by have:=Ch 83 h3;omega
    omega
 ·rw [if_neg h0]
  dsimp only;rw [if_neg bE];have B:∃e,(pageA ⟨[],1⟩ j.req.cursor j.req.from_ j.req.count now).2.2.2=e/\(e=2\/e=160\/e=161):=by
   unfold pageA;rw [if_pos hck,if_neg bB];exact⟨161,rfl,by omega⟩
  obtain⟨e,G,J⟩:=B;rw [G,if_pos bB];obtain⟨l,hl⟩:=F e J;exact⟨_,l,rfl,hl⟩
theorem V8{c:BN}{conn now:Int}{line:ByteArray}{left:Nat}(hl:left<=20)(hd:c.done = [])(hp:c.pool=⟨[],1⟩)(hc:(Fj c conn line).2=0)(hn:0<=now/\now<=1000000000000):
  EG 25 (Fj c conn line).1 conn now left=true:=by
 obtain⟨h1,h2,_,_,h5,h6⟩:=K6 hc;rw [h6];rw [h6] at h1;show EG 25 (c.put (DN conn line)) (DN conn line).conn now left=true;have hn3:0<=now/\now<=1000000000000/\(0:Int)<=(left:Int):=⟨hn.1,hn.2,by omega⟩;have hg1:Vq c (DN conn line):=⟨h1,h5⟩;by_cases hq:(parseR line).2=0
 ·have ar:=N9 hq
  have hs:Co (DN conn line) (c.put (DN conn line)) now left=({ DN conn line with req:=(parseR line).1,phase:=2 },c.put (DN conn line),Cp):=by
   rw [Le rfl,show(DN conn line).line=line from rfl,if_neg Tb];rfl
  obtain⟨e1,hg2⟩:=Fa 24 hg1 hn3 hs bE rfl rfl;rw [e1,show(if Cp.kind=1 then(left:Int) - 1 else(left:Int))=left from rfl];clear e1;generalize hk2:({ DN conn line with req:=(parseR line).1,phase:=2 } : Bq)=k2 at hg2 ⊢;have G:k2.req=(parseR line).1:=by rw [<- hk2]
  have ac:k2.phase=2:=by rw [<- hk2]
  generalize hc2:(⟨c.ops,(c.put (DN conn line)).reg,(c.put (DN conn line)).pool,c.jobs,(c.put (DN conn line)).done⟩:BN)=c2 at hg2 ⊢;have X:c2=c:=by rw [<- hc2];rfl
  subst X;clear hc2;by_cases hf:(BM c2.ops (parseR line).1.who).2=0
  ·have T:Co k2 (c2.put k2) now left=({ k2 with role:=(BM c2.ops (parseR line).1.who).1,phase:=3 },c2.put k2,Cp):=by
    rw [Lf ac,G,show(c2.put k2).ops=c2.ops from rfl,if_neg Tc]
   obtain⟨e2,B⟩:=Fa 23 hg2 hn3 T bE rfl rfl;rw [e2,show(if Cp.kind=1 then(left:Int) - 1 else(left:Int))=left from rfl];clear e2;generalize hk3:({ k2 with role:=(BM c2.ops (parseR line).1.who).1,phase:=3 } : Bq)=k3 at B ⊢;have D:k3.req=(parseR line).1:=by rw [<- hk3];exact G
   have ad:k3.phase=3:=by rw [<- hk3]
   change EG 23 (c2.put k3) k3.conn now left=true
   replace B:Vq c2 k3:=B;have Y:=MQ k3 c2 k3 now;have ae:Co k3 (c2.put k3) now left=((commitC k3 c2 now).1,(commitC k3 c2 now).2.put k3,Cp):=by
    rw [QD ad,Y.1,Y.2]
   have aj:=Jf k3 c2 now;have O:=Jz B.ok (B.ok.job k3 (List.mem_append_right _ (Ag.2 rfl))) now left;rw [ae] at O;obtain⟨e3,aa⟩:=Fa 22 B hn3 ae bE aj.2 O.conn;rw [e3,show(if Cp.kind=1 then(left:Int) - 1 else(left:Int))=left from rfl];clear e3;have E:∃l,IC (commitC k3 c2 now).1.reply l:=by
    unfold commitC;have ha:Bf c2.done k3.req.who k3.req.id=none:=by rw [hd];rfl
    rw [ha,D];dsimp only;have J:=LA c2.reg k3.role (parseR line).1.com now;have af:=Jc h2.reg k3.role (parseR line).1.com now;have N:=MI h2.reg k3.role (parseR line).1.com now;generalize applyR c2.reg k3.role (parseR line).1.com now=a at J af N ⊢;split
    ·exact⟨_,FQ ⟨by omega,by omega⟩ J⟩
    ·rename_i h0
     have U:a.2.err=0:=BB.1 h0;have M:=af U;have F:a.2.err≠150:=by rw [U];decide
     rw [if_pos F];split
     ·rename_i hv
      obtain⟨t,l,ht,ak⟩:=Ww (j:=k3) (r:=a.1) (seq:=a.2.seq) (now:=now) (N F) hn (by rw [D];omega) M.seq (by rw [D];exact Sk hq hv);rw [hp,ht];exact⟨l,ak⟩
     ·have ab:=UV (id:=(parseR line).1.id) ⟨by omega,by omega⟩ M
      split
      ·exact⟨_,ab⟩
      ·exact⟨_,ab⟩
   rcases KE k3 c2 now with ai | ah
   ·exact M4 21 aa hn3 ai E
   ·exact UA hn left 22 _ _ bB aa ah E
  ·have T:Co k2 (c2.put k2) now left=(Bq.refuses { k2 with role:=(BM c2.ops (parseR line).1.who).1 } (parseR line).1.id (BM c2.ops (parseR line).1.who).2,c2.put k2,Cp):=by
    rw [Lf ac,G,show(c2.put k2).ops=c2.ops from rfl,if_pos Tc]
   obtain⟨e2,B⟩:=Fa 23 hg2 hn3 T bE rfl rfl;rw [e2];refine M4 22 B hn3 rfl ⟨_,FQ ⟨by omega,by omega⟩ ?_⟩;unfold BM;split
   ·cases c2.ops.find? (fun o=>o.name==(parseR line).1.who)<;>simp
   ·simp
 ·have hs:Co (DN conn line) (c.put (DN conn line)) now left=(Bq.refuses { DN conn line with req:=(parseR line).1 } 0 193,c.put (DN conn line),Cp):=by
   rw [Le rfl,show(DN conn line).line=line from rfl,if_pos Tb];rfl
  obtain⟨e1,hg2⟩:=Fa 24 hg1 hn3 hs bE rfl rfl;rw [e1];exact M4 23 hg2 hn3 rfl ⟨_,FQ (id:=0) (e:=193) ⟨by decide,by decide⟩ ⟨by decide,by decide⟩⟩
end
end Go.Proofs.YtjieiikpolahfaaGreatDoor
