/- Steps. -/
import Derived.Test.YtjieiikpolahfaaGreatDoorMad
import Derived.Test.YtjieiikpolahfaaGreatDoorMae
set_option maxRecDepth 100000
set_option maxHeartbeats 8000000
set_option linter.all false
namespace Go.Proofs.YtjieiikpolahfaaGreatDoor
open _root_.Bool renaming and_eq_true→Af
open _root_.List renaming all_eq_true→Bm,length_append→Al,length_cons→Av,map_cons→CR,mem_append→AQ,mem_cons_of_mem→Ca,mem_cons_self→Bo,mem_cons→Ac,mem_map→BO,mem_singleton→Ag,not_mem_nil→Ab
open _root_.Nat renaming le_trans→A8
section
open Go
def Ma(c:BN)(conn:Int):Bq×Bool:=match BF c.jobs conn with
 | some i=>(c.jobs.getD i job0,true)
 | none=>(job0,false)
end
section
theorem L9:∀(k m u:Nat),u<10 ^ m->0<m->(IS k u).length<=m
 | 0,m,u,_,_=>by simp [IS]
 | k+1,m,u,h,hm=>by
  unfold IS;split
  ·simp;omega
  ·rename_i h1
   match m,hm with
   | 1,_=>exact absurd bK h1
   | m+2,_=>
    have:=L9 k (m+1) (u / 10) (Nat.div_lt_of_lt_mul (by rw [Nat.pow_succ] at h;omega)) bB;simp;omega
theorem Rq(d:Nat)(h:d<10):48<=(UInt8.ofNat (48+d)).toNat/\(UInt8.ofNat (48+d)).toNat<=57:=by
 have:(UInt8.ofNat (48+d)).toNat=48+d:=by
  rw [UInt8.toNat_ofNat'];omega
 omega
theorem Rp:∀(k u:Nat),∀b∈IS k u,48<=b.toNat/\b.toNat<=57
 | 0,u,b,h=>by simp [IS] at h
 | k+1,u,b,h=>by
  unfold IS at h;split at h
  ·simp only [Ag] at h;subst h;exact Rq u K3
  ·rcases AQ.1 h with h1 | h1
   ·exact Rp k (u / 10) b h1
   ·simp only [Ag] at h1;subst h1;exact Rq _ bB
theorem cG(k u:Nat):IS (k+1) u≠[]:=by
 unfold IS;split<;>simp
structure Kr(n:Nat)(w:List UInt8):Prop where
 len:w.length≤n
 small:n≤64
 plain:w.all Cw=true
 text:textW w=w
theorem YV{n:Int}(h0:0<=n)(h1:n<100000000000000):Kr 14 (itoaL n):=by
 unfold itoaL;rw [if_neg bB];have hm:=Rp 20 n.toNat;refine⟨L9 20 14 n.toNat bB bE,by decide,?_,?_⟩
 ·rw [Bm]
  intro b hb;have:=hm b hb;simp only [Cw,Af,decide_eq_true_eq];omega
 ·have hq:G7 (IS 20 n.toNat)=false:=by
   unfold G7;rw [Bool.or_eq_false_iff];refine⟨by have:=cG 19 n.toNat;simpa using this,?_⟩;rw [List.any_eq_false];intro b hb;have:=hm b hb;have B:b≠32:=fun e=>by subst e;exact absurd this.1 bE
   have D:b≠34:=fun e=>by subst e;exact absurd this.1 bE
   have E:b≠92:=fun e=>by subst e;exact absurd this.2 bE
   simp [B,D,E]
  unfold textW;rw [hq];rfl
theorem ZN(w:List UInt8):textW w≠[]:=by
 unfold textW;split
 ·simp
 ·rename_i h
  intro e;subst e;exact h rfl
theorem Ms:∀ {l:List (List UInt8)},(∀w∈l,w.length<=64/\w.all Cw=true)->Dl l = .ok (l.map textW)
 | [],_=>rfl
 | w::l,h=>by
  obtain⟨h1,h2⟩:=h w Bo;unfold Dl Gj;rw [if_neg bB,if_neg (by rw [h2];decide)];show(Dl l).bind _=_;rw [Ms (fun x hx=>h x (Ca _ hx))];rfl
theorem RX:∀(l:List (List UInt8)),(D5 l).length<=(l.map (fun w=>w.length+1)).sum
 | []=>by simp [D5]
 | [w]=>by simp [D5]
 | w::x::l=>by
  have:=RX (x::l);show(w++32::D5 (x::l)).length<=_;rw [Al,Av,CR,List.sum_cons];omega
theorem cX{w:List UInt8}{l:List (List UInt8)}(h:w≠[]):D5 (w::l)≠[]:=by
 cases l with
 | nil=>exact h
 | cons x l=>show w++32::D5 (x::l)≠[];simp
structure IC(t:ByteArray)(l:List (List UInt8)):Prop where
 ne:t≠⟨#[]⟩
 split:Ce t.data.toList = .ok l
theorem Lg(l:List UInt8):(str l).data.toList=l:=by simp [str]
theorem P1{w:ByteArray}{l:List ByteArray}(B:l.length<=11)(hw:∀x∈w::l,x.data.toList.length<=64/\x.data.toList.all Cw=true)(hs:((w::l).map (fun x=>(textW x.data.toList).length+1)).sum<=300):
  IC (Ex (w::l)) ((w::l).map fun s=>s.data.toList):=by
 have hp:Gc ((w::l).map fun s=>s.data.toList) = .ok (D5 (((w::l).map fun s=>s.data.toList).map textW)):=by
  unfold Gc;rw [if_neg bG,Ms (fun y hy=>by
   obtain⟨x,hx,rfl⟩:=BO.1 hy;exact hw x hx)]
  show(if _ then _ else _)=_;rw [if_neg];have:=RX (((w::l).map fun s=>s.data.toList).map textW);rw [List.map_map,List.map_map] at this;have h2:((w::l).map ((fun w=>w.length+1) ∘ textW ∘ fun s=>s.data.toList)).sum=((w::l).map (fun x=>(textW x.data.toList).length+1)).sum:=rfl;rw [<- List.map_map] at this;simp only [List.map_map] at this ⊢;omega
 unfold Ex;rw [hp];refine⟨fun e=>?_,?_⟩
 ·have h1:=congrArg (fun b:ByteArray=>b.data.toList) e
  simp only [Lg] at h1;exact cX (ZN _) h1
 ·dsimp only
  rw [Lg];exact SC hp
theorem P0{w:ByteArray}{l:List ByteArray}(B:l.length<=11)(n:Nat)(hw:∀x∈w::l,Kr n x.data.toList)(hn:(l.length+1)*(n+1)<=300):IC (Ex (w::l)) ((w::l).map fun s=>s.data.toList):=by
 refine P1 B (fun x hx=>⟨A8 (hw x hx).len (hw x hx).small,(hw x hx).plain⟩) ?_;have:∀(m:List ByteArray),(∀x∈m,Kr n x.data.toList)->(m.map (fun x=>(textW x.data.toList).length+1)).sum<=m.length*(n+1):=by
  intro m;induction m with
  | nil=>intro _;simp
  | cons y m ih=>
   intro h;have h1:=ih (fun x hx=>h x (Ca _ hx));have h2:=h y Bo;rw [CR,List.sum_cons,h2.text,Av,Nat.add_mul];have:=h2.len;omega
 have h3:=this (w::l) hw;rw [Av] at h3;omega
theorem CZ{n:Int}(h0:0<=n)(h1:n<100000000000000):Kr 14 (pX n).data.toList:=by
 unfold pX;rw [Lg];exact YV h0 h1
theorem Tx:Kr 14 Eh.data.toList:=⟨by decide,by decide,by decide,by decide⟩
theorem UU:Kr 14 okT.data.toList:=⟨by decide,by decide,by decide,by decide⟩
theorem FQ{id e:Int}(h1:0<=id/\id<=1000000)(h2:0<=e/\e<=1000):IC (Ex [Eh,pX id,pX e]) [Eh.data.toList,(pX id).data.toList,(pX e).data.toList]:=by
 refine P0 (w:=Eh) (l:=[pX id,pX e]) bA 14 (fun x hx=>?_) bA;simp only [Ac,Ab,or_false] at hx;rcases hx with rfl | rfl | rfl
 ·exact Tx
 ·exact CZ bB bB
 ·exact CZ bB bB
theorem UV{id:Int}{p:lA}(h1:0<=id/\id<=1000000)(h2:fO p):
  IC (Ex [okT,pX id,pX p.seq,pX p.slot,pX p.gen,pX p.version,pX p.state]) [okT.data.toList,(pX id).data.toList,(pX p.seq).data.toList,(pX p.slot).data.toList,(pX p.gen).data.toList,(pX p.version).data.toList,(pX p.state).data.toList]:=by
 have B:=h2.seq;have a2:=h2.slot;have D:=h2.gen;have E:=h2.version;have F:=h2.state;refine P0 (w:=okT) (l:=[pX id,pX p.seq,pX p.slot,pX p.gen,pX p.version,pX p.state]) bA 14 (fun x hx=>?_) bA;simp only [Ac,Ab,or_false] at hx;rcases hx with rfl | rfl | rfl | rfl | rfl | rfl | rfl
 ·exact UU
 ·exact CZ bB bB
 ·exact CZ bB bB
 ·exact CZ bB bB
 ·exact CZ bB bB
 ·exact CZ bB bB
 ·exact CZ bB bB
def roleL(l:List GF)(who:ByteArray):Int:=l.foldl (fun r o=>if o.name=who then o.role else r) 0
theorem LV:∀(l:List GF) (met:List ByteArray),Cn met l=true->(∀o∈l,o.name∉met)/\l.Pairwise (fun a b=>a.name≠b.name)
 | [],met,_=>by simp
 | o::l,met,h=>by
  unfold Cn at h;simp only [Af,Bool.not_eq_true',List.contains_eq_mem,decide_eq_false_iff_not] at h;obtain⟨⟨_,h2⟩,h3⟩:=h;obtain⟨h4,h5⟩:=LV l _ h3;refine⟨fun x hx=>?_,List.Pairwise.cons (fun x hx e=>?_) h5⟩
  ·rcases Ac.1 hx with rfl | hx
   ·exact h2
   ·exact fun hm=>h4 x hx (List.mem_append_left _ hm)
  ·exact h4 x hx (List.mem_append_right _ (by rw [<- e];simp))
theorem eC{l:List GF}{B:ByteArray}(h:G9 l=true)(hr:roleL l B≠0):BM l B=(roleL l B,0):=by
 have hp:l.Pairwise (fun a b=>a.name≠b.name):=by
  unfold G9 at h;simp only [Af] at h;exact(LV l [] h.1.1).2
 have E:∀(l:List GF) (z:Int),l.Pairwise (fun a b=>a.name≠b.name)->(l.foldl (fun r o=>if o.name=B then o.role else r) z=match l.find? (fun o=>o.name==B) with
   | some o=>o.role
   | none=>z):=by
  intro l;induction l with
  | nil=>intro z _;rfl
  | cons o l ih=>
   intro z hp;rw [List.foldl_cons,ih _ hp.of_cons,List.find?_cons];by_cases e:o.name=B
   ·have D:l.find? (fun o=>o.name==B)=none:=by
     rw [List.find?_eq_none];intro x hx;have:=List.rel_of_pairwise_cons hp hx;simp only [beq_iff_eq];exact fun F=>this (e.trans F.symm)
    rw [D,if_pos e];simp [e]
   ·rw [if_neg e]
    have:(o.name==B)=false:=by simpa using e
    rw [this]
 have hk:=E l 0 hp;unfold BM;rw [if_pos h];unfold roleL at hr ⊢;rw [hk] at hr ⊢;cases hf:l.find? (fun o=>o.name==B) with
 | none=>rw [hf] at hr;exact absurd rfl hr
 | some o=>rfl
theorem S1{c:BN}{conn now:Int}{line:ByteArray}(J:JY c=true)(hq:(parseR line).2=0)(hn:0<=now/\now<=1000000000000)(O:∀a∈c.done,¬(a.who=(parseR line).1.who/\a.id=(parseR line).1.id))
 (hb:(Ma c conn).2=false)(N:0<=conn/\conn<=3)(hr:roleL c.ops (parseR line).1.who≠0)(hv:(parseR line).1.com.verb≠9):
  let a:=applyR c.reg (roleL c.ops (parseR line).1.who) (parseR line).1.com now
  (a.2.err≠0->∃x y,IC (pY c conn line now).2 [Eh.data.toList,x,y]/\(a.2.err=150\/(pY c conn line now).1.reg=a.1))/\
  (a.2.err=0->∃l,l.length=6/\IC (pY c conn line now).2 (okT.data.toList::l)/\(pY c conn line now).1.reg=a.1):=by
 have h:=(G1 c).1 J;have G:BF c.jobs conn=none:=by
  unfold Ma at hb;cases hp:BF c.jobs conn with
  | none=>rfl
  | some i=>rw [hp] at hb;cases hb
 have hcall:(Fj c conn line).2=0:=by
  unfold Fj;rw [if_pos J,if_neg bB,G];rfl
 have hf:=eC h.ops hr;have hid:=N9 hq;rw [XI hcall hn];unfold Mv;rw [if_neg Tb,hf];dsimp only;rw [if_neg bE];have M:Bf c.done (comJ conn line c).req.who (comJ conn line c).req.id=none:=Es.2 O;have D:(comJ conn line c).role=roleL c.ops (parseR line).1.who:=by
  show(BM c.ops (parseR line).1.who).1=_;rw [hf]
 have E:(comJ conn line c).req=(parseR line).1:=rfl;unfold commitC;rw [M,D,E];dsimp only;have B:=LA c.reg (roleL c.ops (parseR line).1.who) (parseR line).1.com now;have F:=Jc h.reg (roleL c.ops (parseR line).1.who) (parseR line).1.com now;generalize applyR c.reg (roleL c.ops (parseR line).1.who) (parseR line).1.com now=a at B F ⊢;refine⟨fun he=>?_,fun he=>?_⟩
 ·rw [if_pos he]
  refine⟨_,_,FQ ⟨by omega,by omega⟩ B,?_⟩;by_cases h150:a.2.err=150
  ·exact .inl h150
  ·right;rw [if_pos h150]
 ·rw [if_neg (by simpa using he),if_neg hv]
  have hg:=UV (id:=(parseR line).1.id) ⟨by omega,by omega⟩ (F he);refine⟨[(pX (parseR line).1.id).data.toList,(pX a.2.seq).data.toList,(pX a.2.slot).data.toList,(pX a.2.gen).data.toList,(pX a.2.version).data.toList,(pX a.2.state).data.toList],rfl,?_,by rw [he];rfl⟩;split<;>exact hg
end
end Go.Proofs.YtjieiikpolahfaaGreatDoor
