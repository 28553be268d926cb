/- Steps of the proof: SnapG, SnapH, SnapI, SnapJ, SnapK, SnapL. -/
import Derived.Test.YtcjdkbgdahgjbaaGreatDoorK0
import Derived.Test.YtcjdkbgdahgjbaaGreatDoorKak
import Derived.Test.YtcjdkbgdahgjbaaGreatDoorKaq
import Derived.Deep.AppendSrc
import Derived.Deep.RegionLaw
set_option maxRecDepth 100000
set_option maxHeartbeats 8000000
set_option linter.all false
namespace Go.Proofs.YtcjdkbgdahgjbaaGreatDoor
open _root_.Array renaming getElem?_eq_some_iff→Aj
open _root_.Bool renaming and_eq_true→Af
open Builtin renaming append_→Bo,zeroCells→A5
open Ending renaming returned→dM
open Instr renaming slice→AG
open IntKind renaming i64→dN
open _root_.List renaming all_eq_true→BB,eq_nil_of_length_eq_zero→Er,filter_append→DK,flatMap_append→Bt,getElem?_append_right→Dc,getElem?_cons_succ→Al,getElem?_cons_zero→Ah,getElem?_eq_getElem→Au,getElem?_eq_some_iff→Ad,getElem?_toArray→Ai,length_append→Ag,length_cons→Ao,length_drop→Bi,length_take→A7,map_cons→Cn,mem_append→AF,mem_cons→Ac,mem_flatMap→DL,mem_singleton→Am,not_mem_nil→Ab,setIfInBounds_toArray→An,set_cons_succ→Aw,set_cons_zero→Av,size_toArray→Cx,take_append_drop→Bj,take_of_length_le→Ax,take_succ_eq_append_getElem→AR
open _root_.Nat renaming add_assoc→CM,add_zero→CG,le_refl→Ap,le_trans→As,min_eq_left→DP,zero_add→BI,zero_le→Cy
open _root_.Option renaming isSome_iff_exists→BJ
open Result renaming andThen→AI
open Value renaming agg→dK,bool→dL,int→dH,pointer→dJ,slice→dI
open World renaming block_lt_of_cell?→A4,cell?_alloc_lt→BD,cell?_of_block→Cq
section
open Go.RowKit Go.Shelf
attribute [local go_sem ↓] Go.wp_at_zero Go.wp_at_succ
structure Dq(B:Nat)(W W':World):Prop where
 low:Below B W W'
 strs:∀(k:Nat) (cs:Array Value) (fz:Nat×Nat),W.heap[k]? = some (Obj.cells cs 9 fz)→W'.heap[k]? = some (Obj.cells cs 9 fz)
theorem Dq.refl(B:Nat)(W:World):Dq B W W:=⟨Below.refl B W,fun _ _ _ h=>h⟩
theorem Dq.trans{B:Nat}{X Y Z:World}(h:Dq B X Y)(k:Dq B Y Z):Dq B X Z:=⟨h.low.trans k.low,fun i cs fz hi=>k.strs i cs fz (h.strs i cs fz hi)⟩
theorem Dq.of_keeps{B:Nat}{W W':World}(h:Aa [] W W')(hB:B≤W.heap.size):Dq B W W':=
 ⟨h.below hB bA,fun k _ _ hk=>(h.block k (Aj.1 hk).1 bA).trans hk⟩
theorem Dq.of_one{B g:Nat}{W W':World}(h:Aa [g] W W')(hB:B≤W.heap.size)(hg:B≤g)(hn:∃cs,W.heap[g]? = some (.cells cs 43 (0,0))):Dq B W W':=
 ⟨h.below hB (by simp;exact hg),fun k cs fz hk=>(h.block k (Aj.1 hk).1 (by
  simp;rintro rfl;obtain⟨c2,h2⟩:=hn;rw [h2] at hk;injection hk with hk
  injection hk with _ h3 _
  exact absurd h3 bE)).trans hk⟩
theorem EB.strK{B:Nat}{w w':World}{a:Option Addr}{L:List ByteArray}(h:EB w a L)(hk:Dq B w w'):EB w' a L:=fun hn=>by
 obtain⟨g,off,cs,fz,ha,hg,hat⟩:=h hn;have hg':=hk.strs g cs fz hg;exact⟨g,off,cs,fz,ha,hg',fun i hi=>(Cq (a:=⟨g,off+i,none⟩) (hg'.trans hg.symm)).trans (hat i hi)⟩
theorem BR.strK{B:Nat}{w w':World}{a:Option Addr}{c:Nat}{xs:List ByteArray}(h:BR w a c xs)(hk:Dq B w w'):BR w' a c xs:=⟨h.le,h.at_.strK hk,h.small,h.size,h.nil⟩
theorem Nc.strK{B:Nat}{w w':World}{v:SV}{s:Sn}(h:Nc w v s)(hk:Dq B w w'):Nc w' v s:=⟨h.1,h.2.1,h.2.2.1,h.2.2.2.strK hk⟩
theorem Mt.strK{B:Nat}{w w':World}(hk:Dq B w w'):∀ {V:List SV} {L:List Sn},Mt w V L→Mt w' V L
 | [],[],_=>trivial
 | _::_,_::_,h=>⟨h.1.strK hk,Mt.strK hk h.2⟩
 | [],_::_,h=>h.elim
 | _::_,[],h=>h.elim
structure Rf(W:World)(g off n:Nat):Prop where
 blk:∃cs,W.heap[g]? = some (.cells cs 43 (0,0))
 cells:∀j,j<n→(W.cell? ⟨g,off+j,none⟩).isSome=true
def BH(W:World)(g off:Nat)(vs:List Value):Prop:=∀j (h:j<vs.length),W.cell? ⟨g,off+j,none⟩=some vs[j]
theorem Rf.lt{W:World}{g off n:Nat}(h:Rf W g off n):g<W.heap.size:=by obtain⟨cs,h⟩:=h.blk;exact(Aj.1 h).1
theorem Rf.frozen{W:World}{g off n:Nat}(h:Rf W g off n)(j:Nat):W.frozen? ⟨g,j,none⟩=false:=by
 obtain⟨cs,h⟩:=h.blk;exact Blk.frozen (show Blk W g 43 cs from h) j
theorem Rf.same{W W':World}{g off n:Nat}(h:Rf W g off n)(hb:W'.heap[g]? = W.heap[g]?):Rf W' g off n:=by
 obtain⟨⟨cs,h1⟩,h2⟩:=h;exact⟨⟨cs,hb.trans h1⟩,fun j hj=>by rw [Cq (a:=⟨g,off+j,none⟩) hb];exact h2 j hj⟩
theorem BH.same{W W':World}{g off:Nat}{vs:List Value}(h:BH W g off vs)(hb:W'.heap[g]? = W.heap[g]?):BH W' g off vs:=fun j hj=>by
 rw [Cq (a:=⟨g,off+j,none⟩) hb];exact h j hj
theorem Ji{t:TypeId}{z:Nat×Nat}(b:Nat):∀(vs:List Value) (o:Nat) (W:World) (g:Nat),(∃cs,W.heap[g]? = some (.cells cs t z))→∃cs,(W.setCells b o vs).heap[g]? = some (.cells cs t z)
 | [],_,_,_,h=>h
 | v::vs,o,W,g,⟨cs,h⟩=>by
  refine Ji b vs (o+1) _ g ?_;by_cases e:g=b
  ·subst e
   exact⟨cs.setIfInBounds o v,by simp [World.setCell,Array.getElem?_modify,h]⟩
  ·exact⟨cs,(Below.heap_setCell W ⟨b,o,none⟩ v g e).trans h⟩
theorem GD(b:Nat):∀(vs:List Value) (o:Nat) (W:World) (x:Addr),(W.cell? x).isSome=true→((W.setCells b o vs).cell? x).isSome=true
 | [],_,_,_,h=>h
 | v::vs,o,W,x,h=>by
  refine GD b vs (o+1) _ x ?_;by_cases e:x=⟨b,o,none⟩
  ·subst e
   obtain⟨u,hu⟩:=BJ.1 h;rw [World.cell?_setCell_same _ _ _ hu];rfl
  ·rw [World.cell?_setCell_other _ _ _ _ (by simpa using Ne.symm e)];exact h
theorem Rf.setCells{W:World}{g off n:Nat}(h:Rf W g off n)(o:Nat)(vs:List Value):Rf (W.setCells g o vs) g off n:=
 ⟨Ji g vs o W g h.blk,fun j hj=>GD g vs o W _ (h.cells j hj)⟩
theorem AM(g o:Nat)(vs:List Value)(W:World):Aa [g] W (W.setCells g o vs):=Aa.setCells (.inl bA) vs o (Aa.refl [g] W)
def Dy(W:World)(B:Nat)(v:Value)(V:List SV):Prop:=(v = dI none 0 0∧V = [])∨
 ∃g off cap,v = dI (some ⟨g,off,none⟩) V.length cap∧B≤g∧Rf W g off (cap*3)∧V.length≤cap∧cap≤maxLen∧BH W g off (V.flatMap SV.cells)
theorem Dy.keeps{W W':World}{B:Nat}{v:Value}{V:List SV}(h:Dy W B v V)(hk:Aa [] W W'):Dy W' B v V:=by
 rcases h with h | ⟨g,off,cap,h1,h2,h3,h4,h5,h6⟩
 ·exact .inl h
 ·have hb:=hk.block g h3.lt bA
  exact .inr ⟨g,off,cap,h1,h2,h3.same hb,h4,h5,h6.same hb⟩
theorem Du:∀(V:List SV),(V.flatMap SV.cells).length=V.length*3
 | []=>rfl
 | s::V=>by rw [List.flatMap_cons,Ag,Du V,Ao];simp [SV.cells];omega
theorem Rq:∀(V:List SV) (i:Nat) (h:i<V.length),(V.flatMap SV.cells)[i*3]? = some (dH dN V[i].cur)∧(V.flatMap SV.cells)[i*3+1]? = some (.slice V[i].ia V[i].il V[i].ic)∧(V.flatMap SV.cells)[i*3+2]? = some (dH dN V[i].used)
 | x::L,0,_=>⟨rfl,rfl,rfl⟩
 | x::L,i+1,h=>by
  obtain⟨h0,h1,h2⟩:=Rq L i bK;rw [List.flatMap_cons];have hl:x.cells.length=3:=rfl;refine⟨?_,?_,?_⟩
  ·rw [Dc bB,hl,show(i+1)*3 - 3=i*3 by omega,h0];rfl
  ·rw [Dc bB,hl,show(i+1)*3+1 - 3=i*3+1 by omega,h1];rfl
  ·rw [Dc bB,hl,show(i+1)*3+2 - 3=i*3+2 by omega,h2];rfl
theorem BH.get{W:World}{g off:Nat}{vs:List Value}(h:BH W g off vs){j:Nat}{u:Value}(hj:vs[j]? = some u):W.cell? ⟨g,off+j,none⟩=some u:=by
 obtain⟨hl,rfl⟩:=Ad.1 hj;exact h j hl
theorem Dy.row{W:World}{B:Nat}{v:Value}{V:List SV}(h:Dy W B v V):∃a c,v = dI a V.length c∧V.length≤c∧Fd W a V:=by
 rcases h with⟨rfl,rfl⟩ | ⟨g,off,cap,rfl,h2,h3,h4,h5,h6⟩
 ·exact⟨none,0,rfl,Ap _,fun h=>absurd rfl h⟩
 ·obtain⟨cs,hcs⟩:=h3.blk
  refine⟨_,cap,rfl,h4,fun _=>⟨g,off,cs,(0,0),rfl,hcs,fun i hi=>?_⟩⟩;obtain⟨f0,f1,f2⟩:=Rq V i hi;exact⟨h6.get f0,by rw [CM];exact h6.get f1,by rw [CM];exact h6.get f2⟩
theorem MG(V:List SV):∀u∈V.flatMap SV.cells,u.oneCell'=true:=by
 intro u hu;obtain⟨f,_,h⟩:=DL.1 hu;simp only [SV.cells,Ac,Ab,or_false] at h;rcases h with rfl | rfl | rfl<;>rfl
def NG:Value→List Nat
 | dI (some a) _ _=>[a.block]
 | _=>[]
theorem Dy.pushK{W:World}{B:Nat}{v:Value}{V:List SV}(h:Dy W B v V)(hl:V.length≤1000)(hB:B≤W.heap.size)(b:Nat)(x:SV)(hg:Blk W b 43 x.arr)(ty:TypeId):
  ∃v' W',(Bo #[30,30] ty #[v,dI (some ⟨b,0,none⟩) 1 1]).run Tryz.prog W = .ok v' W'∧Dy W' B v' (V++[x])∧Dq B W W'∧Aa (NG v) W W':=by
 obtain⟨i0,hi,hz0,hz1,hz2⟩:=info_parts MQ;have hsrc:Src Tryz.prog i0.size 30 (dI (some ⟨b,0,none⟩) 1 1) 1 x.cells W:=
  Src.ofSlice W Tryz.underlying30 _ 1 1 _ (by rw [hz1];rfl) (fun j u hj=>by
   rw [EO,hg.cell,BI];have:x.arr[j]? = x.cells[j]?:=by simp [SV.arr,SV.cells]
   rw [this];exact hj) (fun u hu=>MG [x] u (by simpa using hu))
 have hfl:(V++[x]).flatMap SV.cells=V.flatMap SV.cells++x.cells:=by simp
 have hvl:(V.flatMap SV.cells).length=V.length*3:=Du V;have grow:∀(a:Option Addr) (sLen sCap:Nat) (olds:List Value),sLen=V.length→olds=V.flatMap SV.cells→sCap<sLen+1→sCap≤1000→(Builtin.firstCells i0.size sLen (dI a sLen sCap)).run Tryz.prog W.drew = .ok olds.toArray W.drew→
   ∃v' W',(Bo #[30,30] ty #[dI a sLen sCap,dI (some ⟨b,0,none⟩) 1 1]).run Tryz.prog W = .ok v' W'∧Dy W' B v' (V++[x])∧Dq B W W'∧∀S,Aa S W W':=by
  rintro a sLen sCap olds rfl rfl hcap hc2 hold;have hrun:=run_append_grow_src (P:=Tryz.prog) W 30 30 ty 43 i0 _ Tryz.underlying30 hi hz0 a V.length sCap _ hold _ 1 _ hsrc hcap bB (by
   rw [hz2];exact growslice_fits bB bB)
  obtain⟨c,hc⟩:=eX (grownCap W (V.length+1) sCap 43);have hge:V.length+1≤c:=by rw [← hc];exact grownCap_ge _ _ _ _
  have hle:c≤maxLen:=by rw [← hc];exact grownCap_le_maxLen _ _ _ _ bZ
  rw [hc] at hrun;refine⟨_,_,hrun,?_,?_⟩
  ·obtain⟨A,hA⟩:=eX (((V.flatMap SV.cells++x.cells).toArray++A5 (dK #[dH dN 0,dI none 0 0,dH dN 0]).cells (c - (V.length+1))))
   have hAs:A.size=c*3:=by
    rw [← hA];simp only [Array.size_append,Cx,Ag,hvl];have:x.cells.length=3:=rfl;rw [this,size_zeroCells];have:(dK #[dH dN 0,dI none 0 0,dH dN 0]).cells.size=3:=rfl;rw [this];omega
   rw [hA];have hb:=Blk.new W.drew 43 A;refine .inr ⟨W,0,c,by simp,hB,⟨⟨A,hb⟩,fun j hj=>?_⟩,by simpa using hge,hle,fun j hj=>?_⟩
   ·have:=hb.cell (0+j)
    rw [show W.drew.heap.size=W.heap.size from rfl] at this;rw [this,Array.getElem?_eq_getElem bB];rfl
   ·have:=hb.cell (0+j)
    rw [show W.drew.heap.size=W.heap.size from rfl] at this;rw [this,← hA,BI];have hj':j<(V.flatMap SV.cells++x.cells).length:=by rw [← hfl];exact hj
    rw [Array.getElem?_append_left (by simpa using hj')];simp only [Ai];rw [Au hj']
    congr 1
    simp only [hfl]
  ·exact⟨⟨(Below.refl B W).drew.alloc hB _,fun k cs fz hk=>(Below.heap_alloc W.drew _ k (Aj.1 hk).1).trans hk⟩,fun S=>(Aa.refl S W).drew.alloc _⟩
 rcases h with⟨rfl,rfl⟩ | ⟨g,off,cap,rfl,h2,h3,h4,h5,h6⟩
 ·obtain⟨v',W',h1,h2,h3,h4⟩:=grow none 0 0 [] rfl rfl bB bB (run_firstCells_none W.drew i0.size 0 0 0)
  exact⟨v',W',h1,h2,h3,h4 _⟩
 ·by_cases hroom:V.length+1≤cap
  ·have hin:∀j,j<x.cells.length→V.length*3+j<cap*3:=fun j hj=>by have:x.cells.length=3:=rfl;omega
   have hcl:∀j,j<x.cells.length→(W.cell? ⟨g,off+V.length*3+j,none⟩).isSome=true:=fun j hj=>by
    have:=h3.cells (V.length*3+j) (hin j hj)
    rwa [← CM] at this
   refine⟨_,_,run_append_room_src (P:=Tryz.prog) W 30 30 ty 43 i0 Tryz.underlying30 hi g off V.length cap _ 1 _ hsrc hroom (fun j hj=>by rw [hz1];exact hcl j hj) (fun j hj=>h3.frozen _),?_,?_⟩
   ·rw [hz1]
    refine .inr ⟨g,off,cap,by simp,h2,h3.setCells _ _,by simpa using hroom,h5,fun j hj=>?_⟩;have hj':j<(V.flatMap SV.cells++x.cells).length:=by rw [← hfl];exact hj
    have he:((V++[x]).flatMap SV.cells)[j]=(V.flatMap SV.cells++x.cells)[j]:=by simp only [hfl]
    rw [he];rcases Nat.lt_or_ge j (V.length*3) with hlt | hge
    ·rw [World.cell?_setCells_out _ _ _ _ _ (fun _ _=>.inl bH),List.getElem_append_left bB]
     exact h6 j bB
    ·obtain⟨r,rfl⟩:∃r,j=V.length*3+r:=⟨j - V.length*3,by omega⟩
     rw [← CM,World.cell?_setCells_in g x.cells (off+V.length*3) W hcl r (by simp only [Ag,hvl] at hj';omega),List.getElem_append_right bB]
     congr 2
     omega
   ·rw [hz1]
    exact⟨Dq.of_one (AM g _ _ W) hB h2 h3.blk,AM g _ _ W⟩
  ·have hce:cap=V.length:=by omega
   subst hce;obtain⟨v',W',q1,q2,q3,q4⟩:=grow (some ⟨g,off,none⟩) V.length V.length (V.flatMap SV.cells) rfl rfl bB bB (run_firstCells_some W.drew i0.size V.length _ _ _ _ (by rw [hz1,hvl]) (fun j u hj=>by
    rw [EO];exact h6.get hj))
   exact⟨v',W',q1,q2,q3,q4 _⟩
theorem Dy.push{W:World}{B:Nat}{v:Value}{V:List SV}(h:Dy W B v V)(hl:V.length≤1000)(hB:B≤W.heap.size)(b:Nat)(x:SV)(hg:Blk W b 43 x.arr)(ty:TypeId):
  ∃v' W',(Bo #[30,30] ty #[v,dI (some ⟨b,0,none⟩) 1 1]).run Tryz.prog W = .ok v' W'∧Dy W' B v' (V++[x])∧Dq B W W':=by
 obtain⟨v',W',h1,h2,h3,_⟩:=h.pushK hl hB b x hg ty;exact⟨v',W',h1,h2,h3⟩
theorem Eo{α:Type}{L:List α}{k:Nat}{s:α}(h:L[k]? = some s):L.take (k+1)=L.take k++[s]:=by
 obtain⟨hk,rfl⟩:=Ad.1 h;rw [AR hk]
def PB(B:Nat)(v:SV):Prop:=Fr B v.ia v.il
theorem UR(a:Option Addr)(c:Nat)(V:List SV)(L:List Sn)(n:Nat)(hn:V.length=n)(hs:n≤1000)(w:World)(hR:Fd w a V)(hM:Mt w V L):
  Calls Tryz.prog 289 #[dI a n c] w fun r w'=>∃v V',r = dM v∧Dy w' w.heap.size v V'∧Mt w' V' L∧Below w.heap.size w w'∧∀x∈V',PB w.heap.size x:=by
 have HR:=lH hR;have HM:=lH hM;have HN:=lH hn;clear hR hM hn;go_enter Tryz.func289,Tryz.ntmps289;go_wp2;go_loopw [3,8] (fun u i wr=>∃(k:Nat) (V':List SV),k≤n∧i = dH dN k∧V'.length=k∧Hid (Dy wr w.heap.size u V')∧Hid (Mt wr V' (L.take k))∧Hid (Below w.heap.size w wr)∧Hid (∀x∈V',PB w.heap.size x)) (fun _ i _=>n - (intOf i).toNat)
 case atStart=>exact⟨0,[],Cy _,rfl,rfl,lH (.inl ⟨rfl,rfl⟩),lH trivial,lH (Below.refl _ w),lH (fun x hx=>by cases hx)⟩
 case round=>
  obtain⟨k,V',hk,rfl,hvk,HS,HT,HB,HF⟩:=hrel;have HVK:=lH hvk;clear hvk;by_cases hlt:k<n
  ·have hk1:k<V.length:=by rw [HN.out];exact hlt
   have hkL:k<L.length:=by rw [← HM.out.len];exact hk1
   have hm:=HM.out.get k hk1 hkL;obtain⟨g,off,cs0,fz0,rfl,hgb,hat⟩:=HR.out YA;have hg:=(Aj.1 hgb).1;clear hgb;obtain⟨y,hy⟩:=eX (V[k]);obtain⟨s,hs2⟩:=eX (L[k]);have q1:=hat k hk1;rw [hy] at q1 hm;rw [hs2] at hm;obtain⟨p0,p1,p2⟩:=q1;have hkw:=Aa.of_below HB.out [];rw [← hkw.cell (by exact hg) bA] at p0 p1 p2;have i1:(0:Int)≤(k:Int):=by omega
   have i2:(k:Int)<(n:Int):=by omega
   have hb:=Blk.new wr 43 (N_ y);have d1:=hb.cell 1;have hk0:=(Aa.refl [] wr).alloc (.cells (N_ y) 43);have HST:=lH (hm.2.2.2.keeps (hkw.trans hk0));have HIL:=lH hm.2.2.1;have HM1:=lH hm;have HLS:Hid (L[k]? = some s):=lH (by rw [Au hkL,hs2]);have HBX:=lH hb;have HK0:=lH hk0;clear hat hy hs2 hm hkw hb hk0 hk1 hkL;go_wp2_with (fail);refine(Ft y.ia y.ic s.items y.il HIL.out.symm _ HST.out).mono ?_;rintro r w2 ⟨a',c',rfl,hst,hkc,hfr⟩;have HFR:=lH (hfr.down (B':=w.heap.size) (by have:=HB.out.size;simp;omega));clear hfr;have HST2:=lH hst;have hb2:=HBX.out.keeps hkc bA;have e0:=hb2.cell 0;have e1:=hb2.cell 1;have e2:=hb2.cell 2;have f1:=hb2.frozen 1;have HB2:=lH (hb2.set_ 1 (.slice a' y.il c'));have HK2:=lH ((HK0.out.trans hkc).setCell (p:=⟨wr,1,none⟩) (.inr (Ap _)) (.slice a' y.il c'));have HK3:=lH (Aa.setCell (S:=[wr.heap.size]) (Aa.refl _ w2) (p:=⟨wr,1,none⟩) (.inl bA) (.slice a' y.il c'));have HNS:Hid (GS w2 [wr.heap.size]):=lH (fun k hk cs fz h=>by
    simp at hk;subst hk;have h':w2.heap[wr.heap.size]? = some (.cells (N_ y) 43 (0,0)):=hb2;rw [h'] at h;injection h with h;injection h with _ h3 _
    exact absurd h3 bE)
   clear hst hkc hb2 d1 p0 p1 p2;obtain⟨x,hx⟩:∃x:SV,x=⟨y.cur,a',y.il,c',y.used⟩:=⟨_,rfl⟩;have hx1:Nc (w2.setCell ⟨wr,1,none⟩ (.slice a' y.il c')) x s:=by
    rw [hx];exact⟨HM1.out.1,HM1.out.2.1,HIL.out,HST2.out.keepsS HK3.out HNS.out⟩
   have hk4:=(Aa.refl [] (w2.setCell ⟨wr,1,none⟩ (.slice a' y.il c'))).alloc (.cells x.arr 43);have hsz:w.heap.size≤wr.heap.size:=HB.out.size;have hsr:=(HS.out.keeps HK2.out).keeps hk4;obtain⟨v9,w9,hrun,hs9,hk9⟩:=hsr.push (by rw [HVK.out];omega) (by have:=HK2.out.size;simp [World.setCell] at this ⊢;omega) _ x (Blk.new (w2.setCell ⟨wr,1,none⟩ (.slice a' y.il c')) 43 x.arr) 30;have hm9:Mt w9 (V'++[x]) (L.take (k+1)):=by
    rw [Eo HLS.out];exact((HT.out.keeps HK2.out).keeps hk4 |>.strK hk9).app ⟨(hx1.keeps hk4).strK hk9,trivial⟩
   have hb9:Below w.heap.size w w9:=(HB.out.trans ((HK2.out.trans hk4).below hsz bA)).trans hk9.low;rw [hx] at hrun;simp only [SV.arr] at hrun;rw [show(w2.setCell ⟨wr,1,none⟩ (.slice a' y.il c')).heap.size=w2.heap.size by simp [World.setCell]] at hrun;have HS9:=lH hs9;have HM9:=lH hm9;have HB9:=lH hb9;have g0:=HB2.out.cell 0;have g1:=HB2.out.cell 1;have g2:=HB2.out.cell 2;simp only [An,Aw,Av,Ai,Ah,Al] at g0 g1 g2;have hlen9:(V'++[x]).length=k+1:=by rw [Ag,HVK.out];rfl
   have HL9:=lH hlen9;have HF9:Hid (∀z∈V'++[x],PB w.heap.size z):=lH (fun z hz=>by
    rcases AF.1 hz with hz | hz
    ·exact HF.out z hz
    ·obtain rfl:=Am.1 hz
     rw [hx];exact HFR.out)
   clear hx1 hk4 hsr hs9 hk9 hm9 hb9 hlen9 hx;go_wp2_with (at_builtin;refine wpList_append_run _ rfl _ _ 30 rfl rfl rfl hrun ?_);go_roundw;case rel=>exact⟨k+1,V'++[x],by omega,by go_num,HL9.out,HS9,HM9,HB9,HF9⟩
   case measure=>simp [intOf];omega
  ·obtain rfl:k=n:=by omega
   have ht:L.take k=L:=Ax (by rw [← HM.out.len,HN.out];exact Ap _);have hm:=HT.out;rw [ht] at hm;have HM9:=lH hm;clear ht hm;go_wp2;go_ret;exact⟨_,V',rfl,HS.out,HM9.out,HB.out,HF.out⟩
def D0(now:Int)(x:SV):Bool:=decide (now - x.used<1000)
def FO(t:Int):Prop:=-1000000000000≤t∧t≤1000000000000
theorem Ie(x:SV)(hu:FO x.used)(now:Int)(hn:FO now)(pb:Nat)(b:Bool)(hb:D0 now x=b)(w:World)(hp:w.cell? ⟨pb,0,none⟩=some (dH dN now)):
  Calls Tryz.prog 287 #[dK (N_ x),dJ (some ⟨pb,0,none⟩)] w fun r w'=>r = dM (dL (!b))∧Aa [] w w':=by
 obtain⟨u,hux⟩:=eX (x.used);unfold D0 at hb;rw [hux] at hb hu ⊢;obtain⟨u1,u2⟩:=hu;obtain⟨n1,n2⟩:=hn;have hp2:(w.alloc (.cells #[dH dN x.cur,dI x.ia x.il x.ic,dH dN u] 43)).cell? ⟨pb,0,none⟩=some (dH dN now):=by
  rw [BD w _ _ (A4 w _ hp)];exact hp
 have hbx:=Blk.new w 43 #[dH dN x.cur,dI x.ia x.il x.ic,dH dN u];have hu2:=hbx.cell 2;clear hbx hp;have hw:IntKind.i64.wrap (now - u)=now - u:=IntWalk.i64_in _ bB;clear hux;by_cases h:now - u<1000
 ·obtain rfl:b=true:=by rw [← hb];exact decide_eq_true h
  have h1:¬(1000:Int)≤now - u:=by omega
  clear hb h;go_enter Tryz.func287,Tryz.ntmps287;go_wp2;go_ret;exact⟨rfl,(Aa.refl [] w).alloc _⟩
 ·obtain rfl:b=false:=by rw [← hb];exact decide_eq_false h
  have h1:(1000:Int)≤now - u:=by omega
  clear hb h;go_enter Tryz.func287,Tryz.ntmps287;go_wp2;go_ret;exact⟨rfl,(Aa.refl [] w).alloc _⟩
def Yl(now:Int)(V:List SV)(i:Int):Prop:=(i = -1∧V.all (D0 now)=true)∨∃(k:Nat) (x:SV),i=k∧V[k]? = some x∧(V.take k).all (D0 now)=true∧D0 now x=false
theorem KY(a:Option Addr)(c:Nat)(V:List SV)(n:Nat)(hn:V.length=n)(hs:n≤1000)(now:Int)(hnow:FO now)(hu:∀x∈V,FO x.used)(pb:Nat)(w:World)(hp:w.cell? ⟨pb,0,none⟩=some (dH dN now))(hR:Fd w a V):
  Calls Tryz.prog 333 #[dI a n c,.func (.func 287) #[] #[dJ (some ⟨pb,0,none⟩)]] w fun r w'=>∃i:Int,r = dM (dH dN i)∧Yl now V i∧Aa [] w w':=by
 have HR:=lH hR;have HN:=lH hn;have HT:=lH hnow;have HU:=lH hu;have hpl:=A4 w _ hp;have HP:=lH hp;have HPL:=lH hpl;clear hR hn hnow hu hp hpl;go_enter Tryz.func333,Tryz.ntmps333;go_wp2;go_loopw [5,8] (fun _ i wr=>∃k:Nat,k≤n∧i = dH dN k∧Hid ((V.take k).all (D0 now)=true)∧Hid (Aa [] w wr)) (fun _ i _=>n - (intOf i).toNat)
 case atStart=>exact⟨0,Cy _,rfl,lH rfl,lH (Aa.refl [] w)⟩
 case round=>
  obtain⟨k,hk,rfl,HO,HK⟩:=hrel;by_cases hlt:k<n
  ·have hk1:k<V.length:=by rw [HN.out];exact hlt
   obtain⟨g,off,cs0,fz0,rfl,hgb,hat⟩:=HR.out YA;have hg:=(Aj.1 hgb).1;clear hgb;obtain⟨x,hx⟩:=eX (V[k]);have q1:=hat k hk1;rw [hx] at q1;obtain⟨p0,p1,p2⟩:=q1;rw [← HK.out.cell (by exact hg) bA] at p0 p1 p2;have i1:(0:Int)≤(k:Int):=by omega
   have i2:(k:Int)<(n:Int):=by omega
   have HX:Hid (V[k]? = some x):=lH (by rw [Au hk1,hx]);have HXU:Hid (FO x.used):=lH (HU.out x Zu);have HPC:Hid (wr.cell? ⟨pb,0,none⟩=some (dH dN now)):=lH ((HK.out.cell HPL.out bA).trans HP.out);clear hat hx hk1;cases hr:D0 now x with
   | true=>
    have HO2:Hid ((V.take (k+1)).all (D0 now)=true):=lH (by rw [Eo HX.out,List.all_append,HO.out];simp [hr]);have HF:=lH hr;clear hr;go_wp2_with (fail);refine(Ie x HXU.out now HT.out pb true HF.out _ HPC.out).mono ?_;rintro r w2 ⟨rfl,hk2⟩;have HK2:=lH (HK.out.trans hk2);clear hk2 p0 p1 p2;go_wp2;go_roundw;case rel=>exact⟨k+1,by omega,by go_num,HO2,HK2⟩
    case measure=>simp [intOf];omega
   | false=>
    have HF:=lH hr;clear hr;go_wp2_with (fail);refine(Ie x HXU.out now HT.out pb false HF.out _ HPC.out).mono ?_;rintro r w2 ⟨rfl,hk2⟩;have HK2:=lH (HK.out.trans hk2);clear hk2 p0 p1 p2;go_wp2;go_ret;exact⟨_,rfl,.inr ⟨k,x,rfl,HX.out,HO.out,HF.out⟩,HK2.out⟩
  ·obtain rfl:k=n:=by omega
   have hall:=HO.out;rw [Ax bL] at hall;have HA:=lH hall;clear hall;go_wp2;go_ret;exact⟨_,rfl,.inl ⟨rfl,HA.out⟩,HK.out⟩
def Hs:List Value:=[dH dN 0,dI none 0 0,dH dN 0]
def DG:Nat→List Value
 | 0=>[]
 | n+1=>Hs++DG n
theorem G8:∀n,(DG n).length=n*3
 | 0=>rfl
 | n+1=>by unfold DG;rw [Ag,G8 n];simp [Hs];omega
theorem LQ:∀n,∀u∈DG n,u.oneCell'=true
 | 0,_,h=>by cases h
 | n+1,u,h=>by
  unfold DG at h;rcases AF.1 h with h | h
  ·simp only [Hs,Ac,Ab,or_false] at h
   rcases h with rfl | rfl | rfl<;>rfl
  ·exact LQ n u h
theorem Tx(W:World):(zeroValue 43).run Tryz.prog W = .ok (dK #[dH dN 0,dI none 0 0,dH dN 0]) W:=by kernel_rfl
theorem Ty(n:Nat):(A5 (dK #[dH dN 0,dI none 0 0,dH dN 0]).cells n).toList=DG n:=by
 have hc:(dK #[dH dN 0,dI none 0 0,dH dN 0]).cells=#[dH dN 0,dI none 0 0,dH dN 0]:=rfl;have hz:∀n j,j<n*3→(DG n)[j]? = some (#[dH .i64 0,dI none 0 0,dH dN 0][j % 3]!):=by
  intro n;induction n with
  | zero=>intro j hj;omega
  | succ n ih=>
   intro j hj;unfold DG;rcases Nat.lt_or_ge j 3 with h | h
   ·have:j=0∨j=1∨j=2:=by omega
    rcases this with rfl | rfl | rfl<;>rfl
   ·rw [Dc (by simp [Hs];omega)]
    have:Hs.length=3:=rfl;rw [this,ih (j - 3) bB,show(j - 3) % 3=j % 3 by omega]
 rw [hc];apply List.ext_getElem?;intro j;rcases Nat.lt_or_ge j (n*3) with h | h
 ·rw [hz n j h]
  simp [A5,h]
 ·rw [List.getElem?_eq_none (l:=DG n) (by rw [G8];exact h),List.getElem?_eq_none (by simp [A5];omega)]
theorem GI(W:World)(ty:TypeId)(g o n c:Nat)(hn:0<n)(hc:∀j,j<n*3→(W.cell? ⟨g,o+j,none⟩).isSome=true)(hf:∀j,j<n*3→W.frozen? ⟨g,o+j,none⟩=false):
  (Builtin.clear_ #[30] ty #[dI (some ⟨g,o,none⟩) n c]).run Tryz.prog W = .ok (.tuple #[]) (W.setCells g o (DG n)):=by
 have hst:=run_storeCells_cells (P:=Tryz.prog) g o (DG n) 0 W (by simpa [G8] using hc) (by simpa [G8] using hf) (LQ n);simp only [CG] at hst;have hzz:=Ty n;obtain⟨m,rfl⟩:∃m,n=m+1:=⟨n - 1,by omega⟩;simp only [Builtin.clear_,Ai,Ah,Sem.run_bind,run_underlying Tryz.underlying30,Result.andThen_ok,Tx,hzz,hst,Sem.run_pure]
theorem EK(W:World):(sizeOf (Tryz.prog.elem 30)).run Tryz.prog W = .ok 3 W:=by kernel_rfl
theorem EJ:Tryz.prog.underlying 30=some (.slice (Tryz.prog.elem 30)):=by kernel_rfl
theorem E1(W:World)(g off n cap l:Nat)(h1:l≤n)(h2:l<cap):
  (AG 30 (dI (some ⟨g,off,none⟩) n cap) (some (dH dN (l:Int))) none none).run Tryz.prog W = .ok (dI (some ⟨g,off+l*3,none⟩) (n - l) (cap - l)) W:=by
 have h:=run_slice_l (P:=Tryz.prog) W 30 (some ⟨g,off,none⟩) n cap EJ .i64 l bB bB;rw [h,EK];simp [sliced,show ¬cap=l by omega,EO,AI]
theorem Jk(W:World)(g off n cap l:Nat)(h2:l≤cap):
  (AG 30 (dI (some ⟨g,off,none⟩) n cap) none (some (dH dN (l:Int))) none).run Tryz.prog W = .ok (dI (some ⟨g,off,none⟩) l cap) W:=by
 have h:=run_slice_h (P:=Tryz.prog) W 30 (some ⟨g,off,none⟩) n cap EJ .i64 l bB bB;rw [h,EK];simp [sliced,EO,AI]
theorem KT{α:Type}{p:α→Bool}{l:List α}(h:l.all p=true):l.filter p=l:=List.filter_eq_self.2 (by simpa [BB] using h)
theorem BH.app{W:World}{g off:Nat}{a b:List Value}(h1:BH W g off a)(h2:BH W g (off+a.length) b):BH W g off (a++b):=fun j hj=>by
 rcases Nat.lt_or_ge j a.length with h | h
 ·rw [List.getElem_append_left h];exact h1 j h
 ·rw [List.getElem_append_right h]
  have:=h2 (j - a.length) (by rw [Ag] at hj;omega)
  rwa [show off+a.length+(j - a.length)=off+j by omega] at this
theorem BH.left{W:World}{g off:Nat}{a b:List Value}(h:BH W g off (a++b)):BH W g off a:=fun j hj=>by
 have:=h j (by rw [Ag];omega)
 rwa [List.getElem_append_left hj] at this
theorem BH.right{W:World}{g off:Nat}{a b:List Value}(h:BH W g off (a++b)):BH W g (off+a.length) b:=fun j hj=>by
 have:=h (a.length+j) (by rw [Ag];omega);rw [List.getElem_append_right bB] at this;rw [CM,this]
 congr 2
 omega
theorem BH.out{W:World}{g off o:Nat}{vs ws:List Value}(h:BH W g off vs)(ho:off+vs.length≤o∨o+ws.length≤off):BH (W.setCells g o ws) g off vs:=fun j hj=>by
 rw [World.cell?_setCells_out _ _ _ _ _ (fun _ _=>by dsimp only;omega)];exact h j hj
theorem BH.into{W:World}{g o:Nat}{vs:List Value}(h:∀j,j<vs.length→(W.cell? ⟨g,o+j,none⟩).isSome=true):BH (W.setCells g o vs) g o vs:=fun j hj=>World.cell?_setCells_in g vs o W h j hj
theorem Nu(v:Value)(V:List SV)(B:Nat)(hs:V.length≤1000)(now:Int)(hnow:FO now)(hu:∀x∈V,FO x.used)(pb:Nat)(w:World)(hB:B≤w.heap.size)(hpb:pb<B)(hp:w.cell? ⟨pb,0,none⟩=some (dH dN now))(hR:Dy w B v V):
  Calls Tryz.prog 288 #[v,.func (.func 287) #[] #[dJ (some ⟨pb,0,none⟩)]] w fun r w'=>∃v',r = dM v'∧Dy w' B v' (V.filter (D0 now))∧Dq B w w':=by
 obtain⟨a0,c0,rfl,hc0,hrow⟩:=hR.row;obtain⟨n,hn⟩:=eX (V.length);rw [hn] at hs hR ⊢;have HI:=lH (KY a0 c0 V n hn hs now hnow hu pb w hp hrow);have HR:=lH hR;have HN:=lH hn;have HT:=lH hnow;have HU:=lH hu;have HP:=lH hp;clear hR hn hnow hu hp hrow hc0;go_enter Tryz.func288,Tryz.ntmps288;go_wp2_with (fail);refine HI.out.mono ?_;rintro r w1 ⟨i,rfl,hidx,hk1⟩;clear HI;have HK1:=lH hk1;rcases hidx with⟨rfl,hall⟩ | ⟨k0,x0,rfl,hx0,htk,hfx⟩
 ·have HF:=lH (KT hall)
  clear hall hk1;go_wp2;go_ret;exact⟨_,rfl,by rw [HF.out];exact HR.out.keeps HK1.out,Dq.of_keeps HK1.out hB⟩
 ·have hne:((k0:Int) == -1)=false:=by simp
  have hkl:k0<n:=by rw [← HN.out];exact(Ad.1 hx0).1
  have hf0:(V.take (k0+1)).filter (D0 now)=V.take k0:=by
   rw [Eo hx0,DK,KT htk];simp [hfx]
  rcases(HR.out.keeps hk1) with⟨_,hnil⟩ | ⟨g,off,cap,hv,hg,hseg,hlc,hcm,his⟩
  ·exact absurd HN.out (by rw [hnil];simp;omega)
  ·injection hv with e1 e2 e3
   subst e1;subst e3;clear e2;rw [HN.out] at hlc;have his0:BH w1 g off ((V.take k0).flatMap SV.cells):=by
    have:=his;rw [← Bj k0 V,Bt] at this;exact this.left
   have hisd:BH w1 g (off+(k0+1)*3) ((V.drop (k0+1)).flatMap SV.cells):=by
    have:=his;rw [← Bj (k0+1) V,Bt] at this;have h2:=this.right
    rwa [Du,A7,DP (by rw [HN.out];omega)] at h2
   have HF0:=lH hf0;have HS0:=lH his0;have HSD:=lH hisd;have HSG:=lH hseg;have HST:=lH (Dq.of_keeps hk1 hB);have hk0n:(V.take k0).length=k0:=by rw [A7,HN.out];omega
   have HK0:=lH hk0n;clear hx0 htk hfx hf0 his his0 hisd hseg hk1 hk0n;go_wp2;go_loopw [5,6] (fun i j wr=>∃(k1 k2:Nat) (K:List SV),i = dH dN k1∧j = dH dN k2∧k1<k2∧k2≤n∧Hid (K.length=k1)∧Hid ((V.take k2).filter (D0 now)=K)∧Hid (BH wr g off (K.flatMap SV.cells))∧Hid (BH wr g (off+k2*3) ((V.drop k2).flatMap SV.cells))∧Hid (Rf wr g off (c0*3))∧Hid (Dq B w wr)) (fun _ j _=>n - (intOf j).toNat)
   case atStart=>exact⟨k0,k0+1,V.take k0,rfl,by go_num,by omega,by omega,HK0,HF0,HS0,HSD,HSG,HST⟩
   case round=>
    obtain⟨k1,k2,K,rfl,rfl,h12,h2n,HKL,HKF,HSK,HSR,HSG2,HST2⟩:=hrel;by_cases hlt:k2<n
    ·have hk2:k2<V.length:=by rw [HN.out];exact hlt
     obtain⟨x,hx⟩:=eX (V[k2]);have hdr:V.drop k2=x::V.drop (k2+1):=by rw [List.drop_eq_getElem_cons hk2,hx]
     have hsr:=HSR.out;rw [hdr,List.flatMap_cons] at hsr;have p0:wr.cell? ⟨g,off+k2*3,none⟩=some (dH dN x.cur):=hsr 0 ZS;have p1:wr.cell? ⟨g,off+k2*3+1,none⟩=some (dI x.ia x.il x.ic):=hsr 1 ZS;have p2:wr.cell? ⟨g,off+k2*3+2,none⟩=some (dH dN x.used):=hsr 2 ZS;have hsr2:BH wr g (off+(k2+1)*3) ((V.drop (k2+1)).flatMap SV.cells):=by
      have:=hsr.right
      rwa [show off+k2*3+x.cells.length=off+(k2+1)*3 by simp [SV.cells];omega] at this
     have HSR2:=lH hsr2;have HX:Hid (V[k2]? = some x):=lH (by rw [Au hk2,hx]);have HXU:Hid (FO x.used):=lH (HU.out x Zu);have i1:(0:Int)≤(k2:Int):=by omega
     have i2:(k2:Int)<(n:Int):=by omega
     have i3:(0:Int)≤(k1:Int):=by omega
     have i4:(k1:Int)<(n:Int):=by omega
     have hb:=Blk.new wr 43 (N_ x);have hk3:=(Aa.refl [] wr).alloc (.cells (N_ x) 43);have hwp:w.heap.size≤wr.heap.size:=HST2.out.low.size;have HPC:Hid ((wr.alloc (.cells (N_ x) 43)).cell? ⟨pb,0,none⟩=some (dH dN now)):=lH (by
      rw [BD _ _ _ bH];exact(Cq (a:=⟨pb,0,none⟩) (HST2.out.low.block pb hpb)).trans HP.out)
     have HBX:=lH hb;have HK3:=lH hk3;have d0:=hb.cell 0;have d1:=hb.cell 1;have d2:=hb.cell 2;clear hsr hsr2 hdr hx hk2 hb hk3;cases hr:D0 now x with
     | false=>
      have HF:=lH hr;have HKF2:Hid ((V.take (k2+1)).filter (D0 now)=K):=lH (by rw [Eo HX.out,DK,HKF.out];simp [hr]);clear hr;go_wp2_with (fail);refine(Ie x HXU.out now HT.out pb false HF.out _ HPC.out).mono ?_;rintro r w2 ⟨rfl,hkc⟩;have HKC:=lH (HK3.out.trans hkc);clear hkc p0 p1 p2 d0 d1 d2;go_wp2;go_roundw;case rel=>
       have hbk:=HKC.out.block g HSG2.out.lt bA;exact⟨k1,k2+1,K,rfl,by go_num,by omega,by omega,HKL,HKF2,lH (HSK.out.same hbk),lH (HSR2.out.same hbk),lH (HSG2.out.same hbk),lH (HST2.out.trans (Dq.of_keeps HKC.out bB))⟩
      case measure=>simp [intOf];omega
     | true=>
      have HF:=lH hr;have HKF2:Hid ((V.take (k2+1)).filter (D0 now)=K++[x]):=lH (by rw [Eo HX.out,DK,HKF.out];simp [hr]);clear hr;go_wp2_with (fail);refine(Ie x HXU.out now HT.out pb true HF.out _ HPC.out).mono ?_;rintro r w2 ⟨rfl,hkc⟩;have hbk:=(HK3.out.trans hkc).block g HSG2.out.lt bA;have hsg:=HSG2.out.same hbk;have HSG3:=lH hsg;have HSK3:=lH (HSK.out.same hbk);have HSR3:=lH (HSR2.out.same hbk);have HKC:=lH (HK3.out.trans hkc);have hb2:=HBX.out.keeps hkc bA;have d0:=hb2.cell 0;have d1:=hb2.cell 1;have d2:=hb2.cell 2;obtain⟨u0,q0⟩:=BJ.1 (hsg.cells (k1*3) bB);obtain⟨u1,q1⟩:=BJ.1 (hsg.cells (k1*3+1) bB);obtain⟨u2,q2⟩:=BJ.1 (hsg.cells (k1*3+2) bB);rw [← CM] at q1 q2;have f0:=hsg.frozen (off+k1*3);have f1:=hsg.frozen (off+k1*3+1);have f2:=hsg.frozen (off+k1*3+2);clear hkc hbk hsg hb2 p0 p1 p2;go_wp2;go_roundw;case rel=>
       refine⟨k1+1,k2+1,K++[x],by go_num,by go_num,by omega,by omega,lH (by rw [Ag,HKL.out];rfl),HKF2,?_⟩;show Hid (BH (w2.setCells g (off+k1*3) x.cells) g off ((K++[x]).flatMap SV.cells))∧Hid (BH (w2.setCells g (off+k1*3) x.cells) g (off+(k2+1)*3) _)∧Hid (Rf (w2.setCells g (off+k1*3) x.cells) g off (c0*3))∧Hid (Dq B w (w2.setCells g (off+k1*3) x.cells));have hxl:x.cells.length=3:=rfl;have hfl:(K.flatMap SV.cells).length=k1*3:=by rw [Du,HKL.out]
       refine⟨lH ?_,lH (HSR3.out.out (.inr bB)),lH (HSG3.out.setCells _ _),lH ((HST2.out.trans (Dq.of_keeps HKC.out bB)).trans (Dq.of_one (AM g _ _ w2) (by have:=HKC.out.size;omega) hg HSG3.out.blk))⟩;rw [Bt];refine BH.app (HSK3.out.out (.inl bB)) ?_;rw [hfl];have e : [x].flatMap SV.cells=x.cells:=by simp
       rw [e];exact BH.into (fun j hj=>by have:=HSG3.out.cells (k1*3+j) bB;rwa [← CM] at this)
      case measure=>simp [intOf];omega
    ·obtain rfl:k2=n:=by omega
     have hsl:=E1 wr g off k2 c0 k1 bB bB;have hcl:=fun ty=>GI wr ty g (off+k1*3) (k2 - k1) (c0 - k1) bB (fun j hj=>by
      have:=HSG2.out.cells (k1*3+j) bB
      rwa [← CM] at this) (fun j _=>HSG2.out.frozen _)
     obtain⟨W9,hW9⟩:=eX (wr.setCells g (off+k1*3) (DG (k2 - k1)));rw [hW9] at hcl;have hsh:=Jk W9 g off k2 c0 k1 bB;have hKF:=HKF.out;rw [Ax bL] at hKF;have HKF2:=lH hKF;have HW9:=lH hW9;have i2:¬((k2:Int)<(k2:Int)):=by omega
     clear hKF hW9;go_wp2;go_ret;refine⟨dI (some ⟨g,off,none⟩) k1 c0,rfl,?_,?_⟩
     ·rw [HKF2.out,← HW9.out]
      refine .inr ⟨g,off,c0,by rw [HKL.out],hg,HSG2.out.setCells _ _,by rw [HKL.out];omega,hcm,HSK.out.out (.inl (by rw [Du,HKL.out];omega))⟩
     ·rw [← HW9.out]
      exact HST2.out.trans (Dq.of_one (AM g _ _ wr) (by have:=HST2.out.low.size;omega) hg HSG2.out.blk)
theorem LA(W:World)(g off n cap l h m:Nat)(h0:l≤h)(h1:h≤m)(h2:m≤cap):
  (AG 30 (dI (some ⟨g,off,none⟩) n cap) (some (dH dN (l:Int))) (some (dH dN (h:Int))) (some (dH dN (m:Int)))).run Tryz.prog W = .ok (sliced (some ⟨g,off,none⟩) l h m 3) W:=by
 have hh:=run_slice_lhm (P:=Tryz.prog) W 30 (some ⟨g,off,none⟩) n cap EJ .i64 .i64 .i64 l h m bB bB bB bB;rw [hh,EK];rfl
theorem Mk(W:World)(g off n cap l h:Nat)(h0:l≤h)(h1:h≤cap)(h2:l<cap):
  (AG 30 (dI (some ⟨g,off,none⟩) n cap) (some (dH dN (l:Int))) (some (dH dN (h:Int))) none).run Tryz.prog W = .ok (dI (some ⟨g,off+l*3,none⟩) (h - l) (cap - l)) W:=by
 have hh:=run_slice_lh (P:=Tryz.prog) W 30 (some ⟨g,off,none⟩) n cap EJ .i64 .i64 l h bB bB bB;rw [hh,EK];simp [sliced,show ¬cap=l by omega,EO,AI]
theorem GJ(W:World)(g off n cap l:Nat)(h1:l≤n)(h2:n≤cap):
  ∃A:Addr,(AG 30 (dI (some ⟨g,off,none⟩) n cap) (some (dH dN (l:Int))) none none).run Tryz.prog W = .ok (dI (some A) (n - l) (cap - l)) W∧(l<n→A=⟨g,off+l*3,none⟩):=by
 by_cases h:l<cap
 ·exact⟨_,E1 W g off n cap l h1 h,fun _=>rfl⟩
 ·have hh:=run_slice_l (P:=Tryz.prog) W 30 (some ⟨g,off,none⟩) n cap EJ .i64 l bB bB
  rw [EK] at hh;refine⟨⟨g,off,none⟩,?_,fun hl=>by omega⟩;rw [hh];simp [sliced,show cap=l by omega,AI]
theorem CJ{P:Program}{w:World}{o:Oper}{a:Act}{K:Act→World→Prop}{Q:Exit→Act→World→Prop}(s x:Operand)(t:TypeId)
 (ho:o.op = .call { callee:=.builtin .append,args:=#[s,x],argTypes:=#[t,t] }){d:Nat}(hd:o.dst=some d){v u v':Value}{w':World}(hs:a.eval s=v)(hx:a.eval x=u)
 (hr:(Bo #[t,t] o.type #[v,u]).run P w = .ok v' w')(h:K (a.put (some d) v') w'):o.wp P a w K Q:=by
 rw [← hd] at h;unfold Oper.wp execOp;simp only [ho,resolve,invoke,builtin,Sem.run_bind,Sem.run_pure,Result.andThen_ok,List.map_toArray,Cn,List.map_nil,hs,hx,hr];exact h
theorem Um(v:Value)(V:List SV)(B:Nat)(hs:V.length≤1000)(i:Nat)(hi:i<V.length)(w:World)(hB:B≤w.heap.size)(hR:Dy w B v V):
  Calls Tryz.prog 291 #[v,dH dN (i:Int),dH dN ((i:Int)+1)] w fun r w'=>∃v',r = dM v'∧Dy w' B v' (V.eraseIdx i)∧Dq B w w'∧Aa (NG v) w w'∧NG v'=NG v:=by
 rcases hR with⟨_,rfl⟩ | ⟨g,off,cap,rfl,hg,hseg,hlc,hcm,his⟩
 ·simp at hi
 obtain⟨n,hn⟩:=eX (V.length);rw [hn] at hs hi hlc ⊢;obtain⟨i0,hii,hz0,hz1,hz2⟩:=info_parts MQ;obtain⟨news,hnews⟩:=eX ((V.drop (i+1)).flatMap SV.cells);have hnl:news.length=(n - (i+1))*3:=by rw [← hnews,Du,Bi,hn]
 have hsplit:V.flatMap SV.cells=(V.take (i+1)).flatMap SV.cells++news:=by rw [← hnews,← Bt,Bj]
 have hnc:BH w g (off+(i+1)*3) news:=by
  rw [hsplit] at his;have:=his.right
  rwa [Du,A7,DP bB] at this
 obtain⟨A,hA,hAeq⟩:=GJ w g off n cap (i+1) hi hlc;have hs3:∀W:World,(AG 30 (dI (some ⟨g,off,none⟩) n cap) (some (dH dN ((i:Int)+1))) none none).run Tryz.prog W = .ok (dI (some A) (n - (i+1)) (cap - (i+1))) W:=fun W=>by
  obtain⟨A',hA',hAeq'⟩:=GJ W g off n cap (i+1) hi hlc;have e:A'=A:=by
   by_cases h:i+1<cap
   ·have h1:=E1 w g off n cap (i+1) hi h
    have h2:=E1 W g off n cap (i+1) hi h;rw [hA] at h1;rw [hA'] at h2;injection h1 with h1 _;injection h1 with h1 _ _;injection h1 with h1
    injection h2 with h2 _;injection h2 with h2 _ _;injection h2 with h2
    rw [h1,h2]
   ·have q1:=run_slice_l (P:=Tryz.prog) w 30 (some ⟨g,off,none⟩) n cap EJ .i64 (i+1:Nat) bB bB
    have q2:=run_slice_l (P:=Tryz.prog) W 30 (some ⟨g,off,none⟩) n cap EJ .i64 (i+1:Nat) bB bB;rw [hA,EK] at q1;rw [hA',EK] at q2;simp [sliced,show cap=i+1 by omega,AI] at q1 q2;rw [q1,q2]
  rw [← e];exact hA'
 have hs2:∀W:World,(AG 30 (dI (some ⟨g,off,none⟩) n cap) none (some (dH dN (i:Int))) none).run Tryz.prog W = .ok (dI (some ⟨g,off,none⟩) i cap) W:=fun W=>Jk W g off n cap i bB;have hs1:∀W:World,(AG 30 (dI (some ⟨g,off,none⟩) n cap) (some (dH dN (i:Int))) (some (dH dN ((i:Int)+1))) (some (dH dN (n:Int)))).run Tryz.prog W = .ok (sliced (some ⟨g,off,none⟩) i (i+1) n 3) W:=fun W=>LA W g off n cap i (i+1) n bB hi hlc;have hs4:∀W:World,(AG 30 (dI (some ⟨g,off,none⟩) (n - 1) cap) (some (dH dN ((n - 1:Nat):Int))) (some (dH dN (n:Int))) none).run Tryz.prog W = .ok (dI (some ⟨g,off+(n - 1)*3,none⟩) 1 (cap - (n - 1))) W:=fun W=>by
  have:=Mk W g off (n - 1) cap (n - 1) n bB bB bB
  rwa [show n - (n - 1)=1 by omega] at this
 obtain⟨X,hX⟩:=eX (sliced (some ⟨g,off,none⟩) i (i+1) n 3);rw [hX] at hs1;have hcl0:∀j,j<news.length→(w.cell? ⟨g,off+i*3+j,none⟩).isSome=true:=fun j hj=>by
  have:=hseg.cells (i*3+j) bB
  rwa [← CM] at this
 have happ:∀(k:Nat) (ty:TypeId),(Bo #[30,30] ty #[dI (some ⟨g,off,none⟩) i cap,dI (some A) (n - (i+1)) (cap - (i+1))]).run Tryz.prog (w.drewN k) = .ok (dI (some ⟨g,off,none⟩) (n - 1) cap) ((w.drewN k).setCells g (off+i*3) news):=fun k ty=>by
  have hsrc:Src Tryz.prog i0.size 30 (dI (some A) (n - (i+1)) (cap - (i+1))) (n - (i+1)) news (w.drewN k):=
   Src.ofSlice _ Tryz.underlying30 _ _ _ _ (by rw [hz1];exact hnl) (fun j u hj=>by
    have hjl:=(Ad.1 hj).1;rw [hAeq bB,EO];exact hnc.get hj) (fun u hu=>MG (V.drop (i+1)) u (by rw [hnews];exact hu))
  have:=run_append_room_src (P:=Tryz.prog) (w.drewN k) 30 30 ty 43 i0 Tryz.underlying30 hii g off i cap _ _ _ hsrc bB (fun j hj=>by rw [hz1];exact hcl0 j hj) (fun j hj=>hseg.frozen _);rw [hz1,show i+(n - (i+1))=n - 1 by omega] at this;exact this
 have hw1:IntKind.i64.wrap ((i:Int)+1)=(i:Int)+1:=IntWalk.i64_in _ bB;have hij:((i:Int)==(i:Int)+1)=false:=by simp;omega
 have HSEG:=lH hseg;have HSP:=lH hsplit;have HIS:=lH his;have HNL:=lH hnl;have HNW:=lH hnews;have HCL0:=lH hcl0;have HN:=lH hn;have HAPP:=lH happ;obtain⟨W1,hW1⟩:=eX ((w.drewN 1).setCells g (off+i*3) news);have happ1:∀ty,(Bo #[30,30] ty #[dI (some ⟨g,off,none⟩) i cap,dI (some A) (n - (i+1)) (cap - (i+1))]).run Tryz.prog w.drew = .ok (dI (some ⟨g,off,none⟩) (n - 1) cap) W1:=fun ty=>by rw [← hW1];exact happ 1 ty
 have hseg1:Rf W1 g off (cap*3):=by rw [← hW1];exact(hseg.same (W':=w.drewN 1) rfl).setCells _ _
 have hcl:∀ty,(Builtin.clear_ #[30] ty #[dI (some ⟨g,off+(n - 1)*3,none⟩) 1 (cap - (n - 1))]).run Tryz.prog W1 = .ok (.tuple #[]) (W1.setCells g (off+(n - 1)*3) (DG 1)):=fun ty=>
  GI W1 ty g _ 1 _ bB (fun j hj=>by have:=hseg1.cells ((n - 1)*3+j) bB;rwa [← CM] at this) (fun j _=>hseg1.frozen _)
 have HSEG1:=lH hseg1;have HW1:=lH hW1;clear hW1 hseg1 hseg hsplit his hnl hnews hnc hA hAeq hcl0 happ hX hn hii hz0 hz1 hz2;have fin:∃v',dM (dI (some ⟨g,off,none⟩) (n - 1) cap) = dM v'∧Dy (W1.setCells g (off+(n - 1)*3) (DG 1)) B v' (V.eraseIdx i)∧Dq B w (W1.setCells g (off+(n - 1)*3) (DG 1))∧Aa (NG (dI (some ⟨g,off,none⟩) n cap)) w (W1.setCells g (off+(n - 1)*3) (DG 1))∧NG v'=NG (dI (some ⟨g,off,none⟩) n cap):=by
  have hel:(V.eraseIdx i).length=n - 1:=by rw [List.length_eraseIdx,if_pos (by rw [HN.out];exact hi),HN.out]
  have hz:(DG 1).length=3:=rfl;have htl:((V.take i).flatMap SV.cells).length=i*3:=by rw [Du,A7,HN.out,DP bB]
  have hx:BH W1 g off ((V.eraseIdx i).flatMap SV.cells):=by
   rw [List.eraseIdx_eq_take_drop_succ,Bt,HNW.out];have h1:BH w g off ((V.take i).flatMap SV.cells):=by
    have:=HIS.out;rw [← Bj i V,Bt] at this;exact this.left
   rw [← HW1.out];refine BH.app (BH.out (W:=w.drewN 1) (h1.same rfl) (.inl (by rw [htl];omega))) ?_;rw [htl];exact BH.into (W:=w.drewN 1) HCL0.out
  refine⟨_,rfl,.inr ⟨g,off,cap,by rw [hel],hg,HSEG1.out.setCells _ _,by rw [hel];omega,hcm,hx.out (.inl (by rw [Du,hel];omega))⟩,?_⟩;have k1:Dq B w (w.drewN 1):=⟨(Below.refl B w).drew,fun _ _ _ h=>h⟩;have k2:Dq B (w.drewN 1) W1:=by rw [← HW1.out];exact Dq.of_one (AM g _ _ _) hB hg HSEG.out.blk
  refine⟨(k1.trans k2).trans (Dq.of_one (AM g _ _ W1) (As hB (k1.trans k2).low.size) hg HSEG1.out.blk),?_,rfl⟩;have q1:Aa [g] w W1:=by rw [← HW1.out];exact((Aa.refl [g] w).drewN 1).trans (AM g _ _ _)
  exact q1.trans (AM g _ _ W1)
 go_enter Tryz.func291,Tryz.ntmps291;go_wp2;refine wp_region_held_drew (S:=(fun _:World=>True)) bC trivial (fun hHeld=>?_);refine rQ 0 ?_;refine rQ 1 ?_;refine rQ 2 ?_;refine rQ 3 ?_;refine rQ 4 ?_;refine rQ 5 ?_;refine rC 6 fun K hK=>?_
 (refine CJ _ _ 30 bD bD bD bD (happ1 _) ?_)
 refine rO hK (trivial) fun hHeld=>?_;clear hK K;refine rQ 7 ?_;refine wpAnyH_done bC ?_ _
 ((try simp only [List.getElem_toArray,List.getElem_cons_succ,List.getElem_cons_zero,An,Aw,Av]);go_wp2;go_ret;exact fin)
theorem Dy.tail{W:World}{B:Nat}{v:Value}{V:List SV}(h:Dy W B v V)(h1:1<V.length):
  ∃g off cap,v = dI (some ⟨g,off,none⟩) V.length cap∧1<cap∧Dy W B (dI (some ⟨g,off+1*3,none⟩) (V.length - 1) (cap - 1)) (V.drop 1):=by
 rcases h with⟨_,rfl⟩ | ⟨g,off,cap,rfl,h2,h3,h4,h5,h6⟩
 ·simp at h1
 ·refine⟨g,off,cap,rfl,by omega,.inr ⟨g,off+1*3,cap - 1,by rw [Bi],h2,⟨h3.blk,fun j hj=>?_⟩,by rw [Bi];omega,by omega,?_⟩⟩
  ·have:=h3.cells (1*3+j) bB
   rwa [← CM] at this
  ·have:=h6
   rw [← Bj 1 V,Bt] at this;have h7:=this.right
   rwa [Du,A7,DP bB] at h7
theorem Mt.filter{w:World}(now:Int):∀ {V:List SV} {L:List Sn},Mt w V L→Mt w (V.filter (D0 now)) (L.filter (EG now))
 | [],[],_=>trivial
 | v::V,s::L,h=>by
  have e:D0 now v=EG now s:=by unfold D0 EG;rw [h.1.2.1]
  rw [List.filter_cons,List.filter_cons,e];split
  ·exact⟨h.1,Mt.filter now h.2⟩
  ·exact Mt.filter now h.2
 | [],_::_,h=>h.elim
 | _::_,[],h=>h.elim
theorem Mt.used{w:World}{Q:Int→Prop}: ∀ {V:List SV} {L:List Sn},Mt w V L→(∀s∈L,Q s.used)→∀x∈V,Q x.used
 | v::V,s::L,h,hq,x,hx=>by
  rcases Ac.1 hx with rfl | hx
  ·rw [h.1.2.1];exact hq s bA
  ·exact Mt.used h.2 (fun s hs=>hq s (by simp [hs])) x hx
 | [],_,_,_,_,hx=>by cases hx
 | _::_,[],h,_,_,_=>h.elim
theorem Jm:∀(L:List Sn) (last:Int),Bq last L=true→0≤last→∀s∈L,0≤s.used∧s.used≤1000000000000
 | s::L,last,h,h0,x,hx=>by
  simp only [Bq,Gj,Af,decide_eq_true_eq] at h;rcases Ac.1 hx with rfl | hx
  ·omega
  ·exact Jm L s.used h.2 bB x hx
 | [],_,_,_,_,hx=>by cases hx
theorem Pm{p:Po}(h:DC p=true):(∀s∈p.l,0≤s.used∧s.used≤1000000000000)∧0≤Eb p.l:=by
 have hs:Bq 0 p.l=true:=by
  simp only [DC,Af] at h;exact h.1.2
 have ht:=Jm p.l 0 hs (Int.le_refl _);refine⟨ht,?_⟩;unfold Eb;cases hl:p.l.getLast? with
 | none=>simp
 | some s=>
  have:=ht s (List.mem_of_getLast? hl);simp;omega
theorem JN{p:Po}{now:Int}(h:Cr p now=true):(∀s∈p.l,FO s.used)∧FO now∧0≤now:=by
 have h2:=Gt h;have hr:DC p=true:=by
  simp only [Cr,Af] at h;exact h.1.1
 obtain⟨h3,h4⟩:=Pm hr;refine⟨fun s hs=>?_,?_,by omega⟩
 ·have:=h3 s hs
  exact⟨by omega,by omega⟩
 ·exact⟨by omega,by omega⟩
theorem Vc{p:Po}{xs:List ByteArray}{now:Int}(h:(Cr p now&&Dl xs&&decide (p.next<1000000000000))=false):I7 p xs now=(QH,0,160):=by
 unfold I7;rw [h];rfl
theorem WA{p:Po}{xs:List ByteArray}{now:Int}(h:(Cr p now&&Dl xs&&decide (p.next<1000000000000))=true):I7 p xs now=(⟨N9 p.l now++[⟨p.next,xs,now⟩],p.next+1⟩,p.next,0):=by
 unfold I7;rw [h];rfl
theorem Ia(w:World):BF w none 0 [] QH:=⟨Ap _,by simp,fun h=>absurd rfl h,trivial⟩
def Xn(w:World)(q:Po)(cur err:Int)(r:Ending)(w':World):Prop:=
 ∃a n c V,r = dM (.tuple #[dK #[dI a n c,dH dN q.next],dH dN cur,dH dN err])∧V.length=n∧BF w' a c V q∧Aa [] w w'
def Re(w:World)(q:Po)(cur err:Int)(r:Ending)(w':World):Prop:=
 ∃a n c V,r = dM (.tuple #[dK #[dI a n c,dH dN q.next],dH dN cur,dH dN err])∧V.length=n∧BF w' a c V q∧Aa [] w w'∧∀x∈V,PB w.heap.size x
theorem Xn.fresh0{w:World}{cur err:Int}{r:Ending}{w':World}(h:Xn w QH cur err r w'):Re w QH cur err r w':=by
 obtain⟨a,n,c,V,h1,h2,h3,h4⟩:=h;obtain rfl:V = []:=Er h3.mt.len;exact⟨a,n,c,_,h1,h2,h3,h4,fun x hx=>by cases hx⟩
theorem WB(a:Option Addr)(c:Nat)(V:List SV)(p:Po)(n:Nat)(hn:V.length=n)(ia:Option Addr)(ic m:Nat)(xs:List ByteArray)(hm:xs.length=m)(now:Int)(w:World)(hP:BF w a c V p)(hI:BR w ia ic xs)(e:Nat→Addr)(he:Kn w e)
 (hbad:(Cr p now&&Dl xs&&decide (p.next<1000000000000))=false):
  Calls Tryz.prog 238 #[dK #[dI a n c,dH dN p.next],dI ia m ic,dH dN now] w (Xn w QH 0 160):=by
 obtain⟨x,hx⟩:=eX (p.next);obtain⟨y,hy⟩:=eX (Cr p now);obtain⟨z,hz⟩:=eX (Dl xs);rw [hy,hz,hx] at hbad;have hcc:=fun W (hk:Aa [] w W)=>J6 a c V p n hn now W (hP.keeps hk) e (he.keep hk) y hy;have hci:=fun W (hk:Aa [] w W)=>Fl ia ic xs z hz W (hI.at_.keeps hk) hI.small hI.size;rw [hm] at hci;rw [hx] at hcc ⊢;have hsm:=hI.small;have HCC:=lH hcc;have HCI:=lH hci;have HE:=lH he;have hk0:=(((Aa.refl [] w).alloc (.cells #[dI a n c,dH dN x] 32)).alloc (.cells #[dH dN now] 3)).alloc (.cells #[dI none 0 0,dH dN 0] 32);have HK:=lH hk0;have hb0:Blk (((w.alloc (.cells #[dI a n c,dH dN x] 32)).alloc (.cells #[dH dN now] 3)).alloc (.cells #[dI none 0 0,dH dN 0] 32)) w.heap.size 32 #[dI a n c,dH dN x]:=((Blk.new w _ _).alloc _).alloc _;have hb1:Blk (((w.alloc (.cells #[dI a n c,dH dN x] 32)).alloc (.cells #[dH dN now] 3)).alloc (.cells #[dI none 0 0,dH dN 0] 32)) (w.heap.size+1) 3 #[dH dN now]:=(Aq _ _ _ _ bA).alloc _;have hb2:Blk (((w.alloc (.cells #[dI a n c,dH dN x] 32)).alloc (.cells #[dH dN now] 3)).alloc (.cells #[dI none 0 0,dH dN 0] 32)) (w.heap.size+1+1) 32 #[dI none 0 0,dH dN 0]:=Aq _ _ _ _ bA;have HB0:=lH hb0;have HB2:=lH hb2;clear hcc hci he hk0 hP hI hx hy hz hn hm hb0 hb1 hb2;go_enter Tryz.func238,Tryz.ntmps238;go_wp2_with (fail);refine(HCC.out _ HK.out).mono ?_;rintro r w1 ⟨rfl,hk⟩;have HB0:=lH (HB0.out.keeps hk bA);have HB2:=lH (HB2.out.keeps hk bA);have HK:=lH (HK.out.trans hk);clear hk;cases y with
 | false=>
  have e0:=(HE.out.keep HK.out).c0;unfold GZ;go_wp2_with (fail);refine(H9 (some 0) e bA _ (HE.out.keep HK.out) 160 rfl).mono ?_;rintro r w2 ⟨rfl,rfl⟩;have c0:=HB2.out.cell 0;have c1:=HB2.out.cell 1;have f0:=HB2.out.frozen 0;have f1:=HB2.out.frozen 1;have HBF:=lH ((HB2.out.set_ 0 (dI none 0 0)).set_ 1 (dH dN 0));have HKF:=lH ((HK.out.setCell (p:=⟨w.heap.size+1+1,0,none⟩) (.inr bH) (dI none 0 0)).setCell (p:=⟨w.heap.size+1+1,1,none⟩) (.inr bH) (dH dN 0));go_wp2;have q0:_=some (dI none 0 0):=HBF.out.cell 0;have q1:_=some (dH .i64 0):=HBF.out.cell 1;refine bodyPost_ret (v:=.tuple #[dK #[dI none 0 0,dH dN 0],dH dN 0,dH dN 160]) (by simp [results,Tryz.results238,go_sem,q0,q1]) rfl ?_;exact⟨none,0,0,[],rfl,rfl,Ia _,HKF.out⟩
 | true=>
  unfold GZ;go_wp2_with (fail);refine(HCI.out _ HK.out).mono ?_;rintro r w2 ⟨rfl,hk⟩;have HB0:=lH (HB0.out.keeps hk bA);have HB2:=lH (HB2.out.keeps hk bA);have HK:=lH (HK.out.trans hk);clear hk;cases z with
  | false=>
   have e0:=(HE.out.keep HK.out).c0;go_wp2_with (fail);refine(H9 (some 0) e bA _ (HE.out.keep HK.out) 160 rfl).mono ?_;rintro r w2 ⟨rfl,rfl⟩;have c0:=HB2.out.cell 0;have c1:=HB2.out.cell 1;have f0:=HB2.out.frozen 0;have f1:=HB2.out.frozen 1;have HBF:=lH ((HB2.out.set_ 0 (dI none 0 0)).set_ 1 (dH dN 0));have HKF:=lH ((HK.out.setCell (p:=⟨w.heap.size+1+1,0,none⟩) (.inr bH) (dI none 0 0)).setCell (p:=⟨w.heap.size+1+1,1,none⟩) (.inr bH) (dH dN 0));go_wp2;have q0:_=some (dI none 0 0):=HBF.out.cell 0;have q1:_=some (dH .i64 0):=HBF.out.cell 1;refine bodyPost_ret (v:=.tuple #[dK #[dI none 0 0,dH dN 0],dH dN 0,dH dN 160]) (by simp [results,Tryz.results238,go_sem,q0,q1]) rfl ?_;exact⟨none,0,0,[],rfl,rfl,Ia _,HKF.out⟩
  | true=>
   have hx:(1000000000000:Int)≤x:=by simpa using hbad
   have p1:_=some (dH .i64 x):=HB0.out.cell 1;clear hbad;have e0:=(HE.out.keep HK.out).c0;go_wp2_with (fail);refine(H9 (some 0) e bA _ (HE.out.keep HK.out) 160 rfl).mono ?_;rintro r w2 ⟨rfl,rfl⟩;have c0:=HB2.out.cell 0;have c1:=HB2.out.cell 1;have f0:=HB2.out.frozen 0;have f1:=HB2.out.frozen 1;have HBF:=lH ((HB2.out.set_ 0 (dI none 0 0)).set_ 1 (dH dN 0));have HKF:=lH ((HK.out.setCell (p:=⟨w.heap.size+1+1,0,none⟩) (.inr bH) (dI none 0 0)).setCell (p:=⟨w.heap.size+1+1,1,none⟩) (.inr bH) (dH dN 0));go_wp2;have q0:_=some (dI none 0 0):=HBF.out.cell 0;have q1:_=some (dH .i64 0):=HBF.out.cell 1;refine bodyPost_ret (v:=.tuple #[dK #[dI none 0 0,dH dN 0],dH dN 0,dH dN 160]) (by simp [results,Tryz.results238,go_sem,q0,q1]) rfl ?_;exact⟨none,0,0,[],rfl,rfl,Ia _,HKF.out⟩
end
end Go.Proofs.YtcjdkbgdahgjbaaGreatDoor
