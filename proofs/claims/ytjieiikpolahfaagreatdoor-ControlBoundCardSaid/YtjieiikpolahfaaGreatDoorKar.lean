/- Steps. -/
import Derived.Test.YtjieiikpolahfaaGreatDoorKap
import Derived.Test.YtjieiikpolahfaaGreatDoorKaq
import Derived.Lib.AtoiAll
import Derived.Lib.ItoaNum
set_option maxRecDepth 100000
set_option maxHeartbeats 8000000
set_option linter.all false
namespace Go.Proofs.YtjieiikpolahfaaGreatDoor
open _root_.Bool renaming and_eq_true→Af
open _root_.List renaming all_eq_true→Bm,length_append→Al,length_cons→Av,map_cons→CR,mem_append→AQ,mem_cons_of_mem→Ca,mem_cons_self→Bo,mem_cons→Ac,mem_map→BO,mem_singleton→Ag,not_mem_nil→Ab
open _root_.Nat renaming le_trans→A8
section
open Go
def Ma(c:BN)(conn:Int):Bq×Bool:=match BF c.jobs conn with
 | some i=>(c.jobs.getD i job0,true)
 | none=>(job0,false)
end
section
theorem L9:∀(k m u:Nat),u<10 ^ m->0<m->(IS k u).length<=m
 | 0,m,u,_,_=>by simp [IS]
 | k+1,m,u,h,hm=>by
  unfold IS;split
  ·simp;omega
  ·rename_i h1
   match m,hm with
   | 1,_=>exact absurd bK h1
   | m+2,_=>
    have:=L9 k (m+1) (u / 10) (Nat.div_lt_of_lt_mul (by rw [Nat.pow_succ] at h;omega)) bB;simp;omega
theorem Rq(d:Nat)(h:d<10):48<=(UInt8.ofNat (48+d)).toNat/\(UInt8.ofNat (48+d)).toNat<=57:=by
 have:(UInt8.ofNat (48+d)).toNat=48+d:=by
  rw [UInt8.toNat_ofNat'];omega
 omega
theorem Rp:∀(k u:Nat),∀b∈IS k u,48<=b.toNat/\b.toNat<=57
 | 0,u,b,h=>by simp [IS] at h
 | k+1,u,b,h=>by
  unfold IS at h;split at h
  ·simp only [Ag] at h;subst h;exact Rq u K3
  ·rcases AQ.1 h with h1 | h1
   ·exact Rp k (u / 10) b h1
   ·simp only [Ag] at h1;subst h1;exact Rq _ bB
theorem cG(k u:Nat):IS (k+1) u≠[]:=by
 unfold IS;split<;>simp
structure Kr(n:Nat)(w:List UInt8):Prop where
 len:w.length≤n
 small:n≤64
 plain:w.all Cw=true
 text:textW w=w
theorem YV{n:Int}(h0:0<=n)(h1:n<100000000000000):Kr 14 (itoaL n):=by
 unfold itoaL;rw [if_neg bB];have hm:=Rp 20 n.toNat;refine⟨L9 20 14 n.toNat bB bE,by decide,?_,?_⟩
 ·rw [Bm]
  intro b hb;have:=hm b hb;simp only [Cw,Af,decide_eq_true_eq];omega
 ·have hq:G7 (IS 20 n.toNat)=false:=by
   unfold G7;rw [Bool.or_eq_false_iff];refine⟨by have:=cG 19 n.toNat;simpa using this,?_⟩;rw [List.any_eq_false];intro b hb;have:=hm b hb;have B:b≠32:=fun e=>by subst e;exact absurd this.1 bE
   have D:b≠34:=fun e=>by subst e;exact absurd this.1 bE
   have E:b≠92:=fun e=>by subst e;exact absurd this.2 bE
   simp [B,D,E]
  unfold textW;rw [hq];rfl
theorem ZN(w:List UInt8):textW w≠[]:=by
 unfold textW;split
 ·simp
 ·rename_i h
  intro e;subst e;exact h rfl
theorem Ms:∀ {l:List (List UInt8)},(∀w∈l,w.length<=64/\w.all Cw=true)->Dl l = .ok (l.map textW)
 | [],_=>rfl
 | w::l,h=>by
  obtain⟨h1,h2⟩:=h w Bo;unfold Dl Gj;rw [if_neg bB,if_neg (by rw [h2];decide)];show(Dl l).bind _=_;rw [Ms (fun x hx=>h x (Ca _ hx))];rfl
theorem RX:∀(l:List (List UInt8)),(D5 l).length<=(l.map (fun w=>w.length+1)).sum
 | []=>by simp [D5]
 | [w]=>by simp [D5]
 | w::x::l=>by
  have:=RX (x::l);show(w++32::D5 (x::l)).length<=_;rw [Al,Av,CR,List.sum_cons];omega
theorem cX{w:List UInt8}{l:List (List UInt8)}(h:w≠[]):D5 (w::l)≠[]:=by
 cases l with
 | nil=>exact h
 | cons x l=>show w++32::D5 (x::l)≠[];simp
structure IC(t:ByteArray)(l:List (List UInt8)):Prop where
 ne:t≠⟨#[]⟩
 split:Ce t.data.toList = .ok l
theorem Lg(l:List UInt8):(str l).data.toList=l:=by simp [str]
theorem P1{w:ByteArray}{l:List ByteArray}(B:l.length<=11)(hw:∀x∈w::l,x.data.toList.length<=64/\x.data.toList.all Cw=true)(hs:((w::l).map (fun x=>(textW x.data.toList).length+1)).sum<=300):
  IC (Ex (w::l)) ((w::l).map fun s=>s.data.toList):=by
 have hp:Gc ((w::l).map fun s=>s.data.toList) = .ok (D5 (((w::l).map fun s=>s.data.toList).map textW)):=by
  unfold Gc;rw [if_neg bG,Ms (fun y hy=>by
   obtain⟨x,hx,rfl⟩:=BO.1 hy;exact hw x hx)]
  show(if _ then _ else _)=_;rw [if_neg];have:=RX (((w::l).map fun s=>s.data.toList).map textW);rw [List.map_map,List.map_map] at this;have h2:((w::l).map ((fun w=>w.length+1) ∘ textW ∘ fun s=>s.data.toList)).sum=((w::l).map (fun x=>(textW x.data.toList).length+1)).sum:=rfl;rw [<- List.map_map] at this;simp only [List.map_map] at this ⊢;omega
 unfold Ex;rw [hp];refine⟨fun e=>?_,?_⟩
 ·have h1:=congrArg (fun b:ByteArray=>b.data.toList) e
  simp only [Lg] at h1;exact cX (ZN _) h1
 ·dsimp only
  rw [Lg];exact SC hp
theorem P0{w:ByteArray}{l:List ByteArray}(B:l.length<=11)(n:Nat)(hw:∀x∈w::l,Kr n x.data.toList)(hn:(l.length+1)*(n+1)<=300):IC (Ex (w::l)) ((w::l).map fun s=>s.data.toList):=by
 refine P1 B (fun x hx=>⟨A8 (hw x hx).len (hw x hx).small,(hw x hx).plain⟩) ?_;have:∀(m:List ByteArray),(∀x∈m,Kr n x.data.toList)->(m.map (fun x=>(textW x.data.toList).length+1)).sum<=m.length*(n+1):=by
  intro m;induction m with
  | nil=>intro _;simp
  | cons y m ih=>
   intro h;have h1:=ih (fun x hx=>h x (Ca _ hx));have h2:=h y Bo;rw [CR,List.sum_cons,h2.text,Av,Nat.add_mul];have:=h2.len;omega
 have h3:=this (w::l) hw;rw [Av] at h3;omega
theorem CZ{n:Int}(h0:0<=n)(h1:n<100000000000000):Kr 14 (numS n).data.toList:=by
 unfold numS;rw [Lg];exact YV h0 h1
theorem Tx:Kr 14 Eh.data.toList:=⟨by decide,by decide,by decide,by decide⟩
theorem UU:Kr 14 okT.data.toList:=⟨by decide,by decide,by decide,by decide⟩
theorem FQ{id e:Int}(h1:0<=id/\id<=1000000)(h2:0<=e/\e<=1000):IC (Ex [Eh,numS id,numS e]) [Eh.data.toList,(numS id).data.toList,(numS e).data.toList]:=by
 refine P0 (w:=Eh) (l:=[numS id,numS e]) bA 14 (fun x hx=>?_) bA;simp only [Ac,Ab,or_false] at hx;rcases hx with rfl | rfl | rfl
 ·exact Tx
 ·exact CZ bB bB
 ·exact CZ bB bB
theorem UV{id:Int}{p:lA}(h1:0<=id/\id<=1000000)(h2:fO p):
  IC (Ex [okT,numS id,numS p.seq,numS p.slot,numS p.gen,numS p.version,numS p.state]) [okT.data.toList,(numS id).data.toList,(numS p.seq).data.toList,(numS p.slot).data.toList,(numS p.gen).data.toList,(numS p.version).data.toList,(numS p.state).data.toList]:=by
 have B:=h2.seq;have a2:=h2.slot;have D:=h2.gen;have E:=h2.version;have F:=h2.state;refine P0 (w:=okT) (l:=[numS id,numS p.seq,numS p.slot,numS p.gen,numS p.version,numS p.state]) bA 14 (fun x hx=>?_) bA;simp only [Ac,Ab,or_false] at hx;rcases hx with rfl | rfl | rfl | rfl | rfl | rfl | rfl
 ·exact UU
 ·exact CZ bB bB
 ·exact CZ bB bB
 ·exact CZ bB bB
 ·exact CZ bB bB
 ·exact CZ bB bB
 ·exact CZ bB bB
end
end Go.Proofs.YtjieiikpolahfaaGreatDoor
