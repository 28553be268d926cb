/- Steps of the proof: SloF, SloG, SloH. -/
import Derived.Test.YtcjdkbgdahgjbaaGreatDoorK0
import Derived.Test.YtcjdkbgdahgjbaaGreatDoorKah
import Derived.Test.YtcjdkbgdahgjbaaGreatDoorKak
set_option maxRecDepth 100000
set_option maxHeartbeats 8000000
set_option linter.all false
namespace Go.Proofs.YtcjdkbgdahgjbaaGreatDoor
open _root_.And renaming intro→AZ
open _root_.Bool renaming and_eq_true→Af
open Ending renaming returned→dM
open IntKind renaming i64→dN
open _root_.List renaming all_eq_true→BB,eq_nil_of_length_eq_zero→Er,getD_eq_getElem?_getD→AE,getElem?_cons_zero→Ah,getElem?_eq_getElem→Au,getElem?_toArray→Ai,length_take→A7,mem_cons→Ac,mem_of_getElem?→Ex,not_mem_nil→Ab,range_succ→AY,range→A0,replicate→CL
open _root_.Nat renaming add_zero→CG,zero_le→Cy
open Value renaming agg→dK,bool→dL,int→dH,pointer→dJ,slice→dI
open World renaming ownsRow_nil→Bz
section
open Go.RowKit Go.Shelf
attribute [local go_sem] Oper.semAt_some
attribute [local go_sem ↓] Go.wp_at_zero Go.wp_at_succ
theorem Wa(n:Int)(w:World):Calls Tryz.prog 145 #[dH dN n] w fun e w'=>∃x,e = dM (.tuple #[x,dH dN (GQ n).2])∧CS w.heap.size w' (GQ n).1 x∧Aa [] w w':=by
 by_cases h1:n<1∨64<n
 ·have hs:GQ n=(DF,2):=by unfold GQ;rw [if_pos h1]
  rw [hs];have h0:Calls Tryz.prog 145 #[dH dN n] w fun e w'=>e = dM (.tuple #[.agg Hu.k,dH dN 2])∧Aa [] w w':=by
   clear hs;have hB:=lH (Blk.new w 26 Hu.k);by_cases h2:n<1
   ·clear h1
    go_enter Tryz.func145,Tryz.ntmps145;go_wp2;exact bodyPost_ret (v:=.tuple #[.agg Hu.k,dH dN 2]) (by simp [results,Tryz.results145,go_sem]) rfl ⟨rfl,(Aa.refl [] w).alloc _⟩
   ·have h3:64<n:=by omega
    have h2':1≤n:=by omega
    clear h1 h2;go_enter Tryz.func145,Tryz.ntmps145;go_wp2;exact bodyPost_ret (v:=.tuple #[.agg Hu.k,dH dN 2]) (by simp [results,Tryz.results145,go_sem]) rfl ⟨rfl,(Aa.refl [] w).alloc _⟩
  refine h0.mono ?_;rintro e w' ⟨rfl,hk⟩;exact⟨_,rfl,CS.zero _ _,hk⟩
 ·obtain⟨m,rfl⟩:∃m:Nat,n=m:=⟨n.toNat,by omega⟩
  have i1:(1:Int)≤(m:Int):=by omega
  have i2:(m:Int)≤64:=by omega
  have hs:GQ (m:Int)=(⟨CL m 0,CL m false,(A0 m).map fun i:Nat=>(m:Int) - 1 - (i:Int)⟩,0):=by unfold GQ;rw [if_neg h1];simp
  rw [hs];clear h1 hs;have hmk:=fun W=>JC (t:=23) (e:=3) (z:=dH dN 0) Tryz.underlying23 bC m bB W;have hmk2:=fun W=>JC (t:=24) (e:=4) (z:=dL false) Tryz.underlying24 bC m bB W;go_enter Tryz.func145,Tryz.ntmps145;go_wp2;obtain⟨wz,hwz⟩:=eX (w.alloc (.cells Hu.k 26));have HZ:Hid (Aa [] w wz):=lH Y7;have HB:Hid (Blk wz w.heap.size 26 Hu.k):=lH aD;have HSZ:Hid (wz.heap.size=w.heap.size+1):=lH X4;simp only [hwz];clear hwz;go_cut [4] (fun x wc=>∃B g1 g2,x = dJ (some ⟨B,0,none⟩)∧Hid (Blk wc B 26 #[dI (some ⟨g1,0,none⟩) m m,dI (some ⟨g2,0,none⟩) m m,dI none 0 0])∧Hid (Blk wc g1 3 (madeCells #[dH dN 0] m))∧Hid (Blk wc g2 4 (madeCells #[dL false] m))∧Hid (Aa [] wz wc)∧Hid (wz.heap.size≤B∧wz.heap.size≤g1∧wz.heap.size≤g2))
  case first=>
   refine wp_region_held_drew (S:=(fun _:World=>True)) bC trivial (fun hHeld=>?_)
   repeat' (first | exact rZ | refine rX ?_ | ((first | (refine rA 1 (fun K hK=>?_) ?_;go_simp) | (refine rA 3 (fun K hK=>?_) ?_;go_simp) | (refine rA 5 (fun K hK=>?_) ?_;go_simp) | (refine rA 6 (fun K hK=>?_) ?_;go_simp));refine rO hK trivial fun hHeld=>?_;clear hK K) | (refine rQ 0 ?_;refine rQ 2 ?_) | (refine rQ 4 ?_) | refine rB [1,3,5,6] ?_ | (refine wpAnyH_done bC ?_ _;(go_wp2_with (fail);go_meet;exact⟨_,_,_,rfl,lH ZH,lH ZH,lH ZH,lH (by(repeat(first | exact Aa.refl _ _ | refine Aa.drew ?_ | refine Aa.alloc ?_ _ | refine Aa.setCell ?_ (.inr bA) _))),lH (by simp<;>omega)⟩)))
  case rest=>
   obtain⟨B,g1,g2,rfl,HBB,HG1,HG2,HKZ,HGE⟩:=hcut;obtain⟨L,hL⟩:∃L:Nat→List Int,L=fun k=>(A0 k).map fun i:Nat=>(m:Int) - 1 - (i:Int):=⟨_,rfl⟩;have hLk:∀k,(L k).length=k:=fun k=>by rw [hL];simp
   have hLs:∀k,L (k+1)=L k++[(m:Int) - 1 - (k:Int)]:=fun k=>by rw [hL];simp [AY]
   have hr0:Hid (∃u,Blk wc B 26 #[dI (some ⟨g1,0,none⟩) m m,dI (some ⟨g2,0,none⟩) m m,u]∧wc.ownsRow wc.heap.size 3 1 u 0 ((L 0).flatMap EY)):=lH ⟨_,HBB.out,by rw [hL];simpa using Bz _ _ _ _⟩;have HL1:=lH hLk;have HL2:=lH hLs;have HLE:=lH hL;clear hL hLk hLs;have HBL:Hid (B<wc.heap.size):=lH HBB.out.lt;go_wp2_with (fail);go_loopw [19] (fun i wr=>∃k:Nat,i = dH dN k∧k≤m∧Hid (∃u,Blk wr B 26 #[dI (some ⟨g1,0,none⟩) m m,dI (some ⟨g2,0,none⟩) m m,u]∧wr.ownsRow wc.heap.size 3 1 u k ((L k).flatMap EY))∧Hid (Aa [B] wc wr)) (fun i _=>m - (intOf i).toNat)
   case atStart=>exact⟨0,rfl,Cy _,hr0,lH (Aa.refl _ _)⟩
   case round=>
    obtain⟨k,rfl,hk,HR,HK⟩:=hrel;by_cases hlt:k<m
    ·obtain⟨u,hb,hrow⟩:=HR.out
     obtain⟨ys,hys⟩:=eX (L k);have hyl:ys.length=k:=by rw [← hys];exact HL1.out k
     rw [hys] at hrow;have hsn:L (k+1)=ys++[(m:Int) - 1 - (k:Int)]:=by rw [HL2.out,hys]
     have hrow':wr.ownsRow wc.heap.size 3 1 u ys.length (ys.flatMap EY):=by rw [hyl];exact hrow
     obtain⟨g,c,W3,hrun,hrow3,hk3,hge⟩:=C8 (enc:=EY) Tryz.prog (t:=23) Tryz.underlying23 KZ bE DZ IU hrow' HK.out.size ((m:Int) - 1 - (k:Int)) bB 23;have hgeS:=AP hrow;have hbs:=HBL.out;have hb3:=hb.keeps hk3 (fun hm=>by have:=hgeS _ hm;omega);have q2:=hb.ce 2;have t2:=hb3.ce 2;have f2:=hb3.frozen 2;have HB4:=lH (hb3.set_ 2 (dI (some ⟨g,0,none⟩) (k+1) c));rw [← hsn,HL1.out (k+1),hyl] at hrow3;have HROW:=lH (Ak hrow3 (Ae W3 B 2 (dI (some ⟨g,0,none⟩) (k+1) c)) (fun y hy hm=>by have:=(hrow3.lt y hy).1;simp only [Ac,Ab,or_false] at hm;omega));have HK4:Hid (Aa [B] wc (W3.setCell ⟨B,2,none⟩ (dI (some ⟨g,0,none⟩) (k+1) c))):=lH ((HK.out.trans' hk3 (fun y hy=>.inr (hgeS y hy))).trans (Ae W3 B 2 _));have hw1:IntKind.i64.wrap ((m:Int) - 1)=(m:Int) - 1:=IntWalk.i64_in _ bB;have hw2:IntKind.i64.wrap ((m:Int) - 1 - (k:Int))=(m:Int) - 1 - (k:Int):=IntWalk.i64_in _ bB;have i3:(k:Int)<(m:Int):=by omega
     rw [hyl] at hrun;simp only [EY] at hrun;clear hb hrow hys hyl hsn hrow' hrow3 hk3 hge hgeS hbs hb3;go_wp2_with (at_builtin;refine Ar _ rfl _ _ 23 rfl rfl rfl hrun ?_);go_roundw;case rel=>exact⟨k+1,by go_num,by omega,lH ⟨_,HB4.out,HROW.out⟩,HK4⟩
     case measure=>simp [intOf];omega
    ·obtain rfl:k=m:=by omega
     obtain⟨u,hb,hrow⟩:=HR.out;have hLr:=HLE.out;obtain⟨ys,hys⟩:=eX (L k);have hyl:ys.length=k:=by rw [← hys];exact HL1.out k
     rw [hys] at hrow;obtain⟨a,c,rfl,hs,hge⟩:=AJ.of_row DZ (show wr.ownsRow wc.heap.size 3 1 u ys.length (ys.flatMap EY) by rw [hyl];exact hrow);have hz:=HGE.out;have hsz:=HSZ.out;have hkz:=HKZ.out;have hne1:g1≠B:=HG1.out.ne_ HBB.out bE;have hne2:g2≠B:=HG2.out.ne_ HBB.out bE;have hrb:=(HB.out.keeps hkz bA).keeps HK.out bI;have hrb2:=hrb.put3 (dI (some ⟨g1,0,none⟩) k k) (dI (some ⟨g2,0,none⟩) k k) (dI a k c);have hkr:=F1 wr w.heap.size (dI (some ⟨g1,0,none⟩) k k) (dI (some ⟨g2,0,none⟩) k k) (dI a k c);have e1:madeCells #[dH .i64 0] k=((CL k (0:Int)).map (dH .i64)).toArray:=by rw [← Array.toList_inj,toList_madeCells_one];simp
     have e2:madeCells #[dL false] k=((CL k false).map dL).toArray:=by rw [← Array.toList_inj,toList_madeCells_one];simp
     have hG1:=HG1.out.keeps HK.out (by simp only [Ac,Ab,or_false];exact hne1);have hG2:=HG2.out.keeps HK.out (by simp only [Ac,Ab,or_false];exact hne2);rw [e1] at hG1;rw [e2] at hG2;have hin:∀y,wz.heap.size≤y→y∉[w.heap.size]:=fun y hy hm=>by simp only [Ac,Ab,or_false] at hm;omega
     have hM:Dp wr ⟨some ⟨g1,0,none⟩,k,some ⟨g2,0,none⟩,k,a,c⟩ ⟨CL k 0,CL k false,ys⟩:=⟨AJ.of_blk (fun _=>rfl) bA hG1,AJ.of_blk (fun _=>rfl) bA hG2,hs,by simp;omega,by simp;omega,by dsimp only;omega⟩;have hM2:Dp ((((wr.setCell ⟨w,0,none⟩ (dI (some ⟨g1,0,none⟩) k k)).setCell ⟨w,1,none⟩ (dI (some ⟨g2,0,none⟩) k k)).setCell ⟨w,2,none⟩ (dI a k c))) ⟨some ⟨g1,0,none⟩,k,some ⟨g2,0,none⟩,k,a,c⟩ ⟨CL k 0,CL k false,ys⟩:=
      { hM with g:=hM.g.keepsS hkr (fun g off e=>by injection e with e;injection e with e _ _;subst e;exact hin _ hz.2.1),u:=hM.u.keepsS hkr (fun g off e=>by injection e with e;injection e with e _ _;subst e;exact hin _ hz.2.2),f:=hM.f.keepsS hkr (fun g off e=>hin _ (by have:=(hrow.lt g (by rw [show a=_ from e];rfl)).1;have:=hkz.size;omega)) }
     have hKF:Aa [] w (((wr.setCell ⟨w,0,none⟩ (dI (some ⟨g1,0,none⟩) k k)).setCell ⟨w,1,none⟩ (dI (some ⟨g2,0,none⟩) k k)).setCell ⟨w,2,none⟩ (dI a k c)):=
      ((HZ.out.trans hkz).own HK.out bF).own hkr bF
     have q0:=hb.ce 0;have q1:=hb.ce 1;have q2:=hb.ce 2;have r0:=hrb2.ce 0;have r1:=hrb2.ce 1;have r2:=hrb2.ce 2;have c0:=hrb.ce 0;have c1:=hrb.ce 1;have c2:=hrb.ce 2;have f0:=hrb.frozen 0;have f1:=hrb.frozen 1;have f2:=hrb.frozen 2;rw [hyl] at q2;have HR0:=lH r0;have HR1:=lH r1;have HR2:=lH r2;have HM2:=lH hM2;have HKF:=lH hKF;have HYS:Hid (ys=(A0 k).map fun i:Nat=>(k:Int) - 1 - (i:Int)):=lH (by rw [← hys,hLr]);have HYL:=lH hyl;have HGV:Hid (GV w.heap.size ⟨some ⟨g1,0,none⟩,k,some ⟨g2,0,none⟩,k,a,c⟩):=lH ⟨fun g o e=>by injection e with e;injection e with e _ _;subst e;omega,fun g o e=>by injection e with e;injection e with e _ _;subst e;omega,fun g o e=>by have:=hge g o e;have:=hkz.size;omega⟩;clear hb hrow hys hyl hs hge hz hsz hkz hne1 hne2 hrb hrb2 hkr e1 e2 hG1 hG2 hin hM hM2 hKF r0 r1 r2 hLr;go_wp2_with (fail);refine bodyPost_ret (v:=.tuple #[dK #[dI (some ⟨g1,0,none⟩) k k,dI (some ⟨g2,0,none⟩) k k,dI a k c],dH dN 0]) (by have r0:=HR0.out;have r1:=HR1.out;have r2:=HR2.out;simp [results,Tryz.results145,go_sem,r0,r1,r2]) rfl ⟨_,rfl,⟨⟨some ⟨g1,0,none⟩,k,some ⟨g2,0,none⟩,k,a,c⟩,k,k,k,rfl,by simp,by simp,by simp,?_⟩,HKF.out⟩;rw [← HYS.out];exact⟨HM2.out,HGV.out⟩
theorem J9(used:List Bool):∀(L met:List Int),Es used met L=true→∀x∈L,0≤x∧x<used.length∧used.getD x.toNat true=false
 | [],_,_,x,hx=>by simp at hx
 | y::L,met,h,x,hx=>by
  simp only [Es,Af,decide_eq_true_eq,Bool.not_eq_true'] at h;rcases Ac.1 hx with rfl | hx
  ·exact⟨h.1.1.1.1,h.1.1.1.2,h.1.1.2⟩
  ·exact J9 used L _ h.2 x hx
theorem AJ.cap{α:Type}{enc:α→List Value}{n:Nat}{w:World}{p:Addr}{c c2:Nat}{xs:List α}(h:AJ enc n w (some p) c xs)(hc:xs.length≤c2):AJ enc n w (some p) c2 xs:=⟨hc,(fun e=>by cases e),h.at_⟩
theorem AJ.set1{α:Type}{f:α→Value}{enc:α→List Value}(he:∀x,enc x = [f x]){w:World}{g o c j:Nat}{xs:List α}(h:AJ enc 1 w (some ⟨g,o,none⟩) c xs)(hj:j<xs.length)(y:α):AJ enc 1 (w.setCell ⟨g,o+j,none⟩ (f y)) (some ⟨g,o,none⟩) c (xs.set j y):=by
 obtain⟨g',o',e,hg,hc⟩:=h.at_ bB;injection e with e
 obtain⟨rfl,rfl⟩:g=g'∧o=o':=by injection e with e1 e2;exact⟨e1,e2⟩
 refine⟨by simpa using h.le,(fun e=>by cases e),fun _=>⟨g,o,rfl,by simpa [World.setCell] using hg,fun i hi k u hk=>?_⟩⟩;rw [List.length_set] at hi;rw [he] at hk;cases k with
 | succ k=>simp at hk
 | zero=>
  simp only [Ah,Option.some.injEq] at hk;have h0:=hc i hi 0 (f xs[i]) (by rw [he];rfl);by_cases e2:i=j
  ·subst e2
   rw [List.getElem_set_self] at hk;rw [← hk];simp only [Nat.mul_one,CG] at h0 ⊢;exact World.cell?_setCell_same _ _ _ h0
  ·rw [List.getElem_set_ne (fun e3=>e2 e3.symm)] at hk
   rw [← hk,World.cell?_setCell_other _ _ _ _ (by intro e3;injection e3 with _ e4;omega)];exact h0
theorem MR{m un fc j:Nat}(hj:j<un)(hc:m+1≤fc)(hm:m+1≤1000):IntKind.i64.wrap (((m+1:Nat):Int) - 1)=(m:Int)∧wrap64 (m:Int)=(m:Int)∧(0:Int)≤(j:Int)∧(j:Int)<(un:Int)∧(0:Int)≤(m:Int)∧decide ((m:Int)<0)=false∧(m:Int)<((m+1:Nat):Int)∧(m:Int)≤(fc:Int):=
 ⟨by rw [show((m+1:Nat):Int) - 1=(m:Int) by omega];exact IntWalk.i64_in _ bB,IntWalk.wrap64_in _ ⟨by omega,by omega⟩,by omega,by omega,by omega,decide_eq_false bB,by omega,by omega⟩
theorem Kx{i:Int}{u:Nat}(h0:0≤i)(h1:i<u):∃j:Nat,i=(j:Int)∧j<u:=⟨i.toNat,by omega,by omega⟩
theorem TC(v:D3)(s:Ff)(gn un fn:Nat)(hg:s.gens.length=gn)(hu:s.used.length=un)(hf:s.free.length=fn)(hb:CA s=false)(w:World)(h:Dp w v s):
  Calls Tryz.prog 196 #[dK (S_ v gn un fn)] w fun e w'=>∃x,e = dM (.tuple #[x,dK #[dH dN (AO s).2.1.1,dH dN (AO s).2.1.2],dH dN (AO s).2.2])∧CS w.heap.size w' (AO s).1 x∧Aa [] w w':=by
 obtain⟨wz,hwz⟩:=eX (((w.alloc (.cells (S_ v gn un fn) 26)).alloc (.cells Hu.k 26)).alloc (.cells #[dH dN 0,dH dN 0] 72));have hK0:Aa [] w wz:=by rw [← hwz];exact(((Aa.refl [] w).alloc _).alloc _).alloc _
 have hB0:Blk wz w.heap.size 26 (S_ v gn un fn):=by rw [← hwz];exact((Blk.new w _ _).alloc _).alloc _
 have hBR:Blk wz (w.heap.size+1) 26 Hu.k:=by rw [← hwz];exact(Aq _ _ _ _ bA).alloc _
 have hBH:Blk wz (w.heap.size+1+1) 72 #[dH dN 0,dH dN 0]:=by rw [← hwz];exact Aq _ _ _ _ bA
 have HR:=lH (fun W (hkk:Aa [] wz W)=>Dn v s gn un fn hg hu hf false hb W (h.keeps (hK0.trans hkk)));have HO:=lH (fun W (hkk:Aa [] wz W)=>G0 v s gn un fn hg hu hf W (h.keeps (hK0.trans hkk)));have HB:=lH hb;have HG:=lH hg;have HU:=lH hu;have HF:=lH hf;have HSM:=lH (AZ h.sg (AZ h.su h.sf));have HK0:=lH hK0;have HB0:=lH hB0;have HBR:=lH hBR;have HBH:=lH hBH;have p0:=hB0.ce 0;have p1:=hB0.ce 1;have p2:=hB0.ce 2;clear h hg hu hf hb hK0 hB0 hBR hBH;go_enter Tryz.func196,Tryz.ntmps196;go_wp2_with (fail);clear hwz p0 p1 p2;refine(HR.out wz (Aa.refl [] wz)).mono ?_;rintro e w1 ⟨rfl,hk1⟩;have HK1:=lH hk1;have p0:=(HB0.out.keeps hk1 bA).ce 0;have p1:=(HB0.out.keeps hk1 bA).ce 1;have p2:=(HB0.out.keeps hk1 bA).ce 2;have HBR1:=lH (HBR.out.keeps hk1 bA);have HBH1:=lH (HBH.out.keeps hk1 bA);have hlt1:Hid (w.heap.size+1+1<w1.heap.size):=lH HBH1.out.lt;clear hk1;have HKW:=lH (HK0.out.trans HK1.out);have HERR:Hid (∀(er:Int) (W:World),Aa [] w1 W→AO s=(DF,(0,0),er)→∀W',Aa [w.heap.size+1,w.heap.size+1+1] W W'→CS w.heap.size W' (AO s).1 (.agg Hu.k)∧Aa [] w W'):=lH fun er W hW ht W' hk=>by
  rw [ht];exact⟨CS.zero _ _,(HKW.out.trans hW).own hk bF⟩
 have ht:AO s=(DF,(0,0),90):=by unfold AO;rw [if_neg Z2]
 have HT:=lH ht;clear ht p0 p1 p2;have c0:=HBR1.out.ce 0;have c1:=HBR1.out.ce 1;have c2:=HBR1.out.ce 2;have d0:=HBH1.out.ce 0;have d1:=HBH1.out.ce 1;have f0:=HBR1.out.frozen 0;have f1:=HBR1.out.frozen 1;have f2:=HBR1.out.frozen 2;have g0:=HBH1.out.frozen 0;have g1:=HBH1.out.frozen 1;go_wp2_with (fail);exact bodyPost_ret (v:=.tuple #[.agg Hu.k,dK #[dH dN 0,dH dN 0],dH dN 90]) (by simp [results,Tryz.results196,go_sem,c0,c1,c2,d0,d1]) rfl ⟨_,by rw [HT.out],HERR.out 90 w1 ZT HT.out _ bY⟩
theorem PG(v:D3)(s:Ff)(gn un fn:Nat)(hg:s.gens.length=gn)(hu:s.used.length=un)(hf:s.free.length=fn)(hb:CA s=true)(hfn:Hid (fn=0))(w:World)(h:Dp w v s):
  Calls Tryz.prog 196 #[dK (S_ v gn un fn)] w fun e w'=>∃x,e = dM (.tuple #[x,dK #[dH dN (AO s).2.1.1,dH dN (AO s).2.1.2],dH dN (AO s).2.2])∧CS w.heap.size w' (AO s).1 x∧Aa [] w w':=by
 obtain⟨wz,hwz⟩:=eX (((w.alloc (.cells (S_ v gn un fn) 26)).alloc (.cells Hu.k 26)).alloc (.cells #[dH dN 0,dH dN 0] 72));have hK0:Aa [] w wz:=by rw [← hwz];exact(((Aa.refl [] w).alloc _).alloc _).alloc _
 have hB0:Blk wz w.heap.size 26 (S_ v gn un fn):=by rw [← hwz];exact((Blk.new w _ _).alloc _).alloc _
 have hBR:Blk wz (w.heap.size+1) 26 Hu.k:=by rw [← hwz];exact(Aq _ _ _ _ bA).alloc _
 have hBH:Blk wz (w.heap.size+1+1) 72 #[dH dN 0,dH dN 0]:=by rw [← hwz];exact Aq _ _ _ _ bA
 have HR:=lH (fun W (hkk:Aa [] wz W)=>Dn v s gn un fn hg hu hf true hb W (h.keeps (hK0.trans hkk)));have HO:=lH (fun W (hkk:Aa [] wz W)=>G0 v s gn un fn hg hu hf W (h.keeps (hK0.trans hkk)));have HB:=lH hb;have HG:=lH hg;have HU:=lH hu;have HF:=lH hf;have HSM:=lH (AZ h.sg (AZ h.su h.sf));have HK0:=lH hK0;have HB0:=lH hB0;have HBR:=lH hBR;have HBH:=lH hBH;have p0:=hB0.ce 0;have p1:=hB0.ce 1;have p2:=hB0.ce 2;clear h hg hu hf hb hK0 hB0 hBR hBH;go_enter Tryz.func196,Tryz.ntmps196;go_wp2_with (fail);clear hwz p0 p1 p2;refine(HR.out wz (Aa.refl [] wz)).mono ?_;rintro e w1 ⟨rfl,hk1⟩;have HK1:=lH hk1;have p0:=(HB0.out.keeps hk1 bA).ce 0;have p1:=(HB0.out.keeps hk1 bA).ce 1;have p2:=(HB0.out.keeps hk1 bA).ce 2;have HBR1:=lH (HBR.out.keeps hk1 bA);have HBH1:=lH (HBH.out.keeps hk1 bA);have hlt1:Hid (w.heap.size+1+1<w1.heap.size):=lH HBH1.out.lt;clear hk1;have HKW:=lH (HK0.out.trans HK1.out);have HERR:Hid (∀(er:Int) (W:World),Aa [] w1 W→AO s=(DF,(0,0),er)→∀W',Aa [w.heap.size+1,w.heap.size+1+1] W W'→CS w.heap.size W' (AO s).1 (.agg Hu.k)∧Aa [] w W'):=lH fun er W hW ht W' hk=>by
  rw [ht];exact⟨CS.zero _ _,(HKW.out.trans hW).own hk bF⟩
 have hsb:=HB.out;unfold CA at hsb;simp only [Af,decide_eq_true_eq] at hsb;obtain⟨⟨⟨⟨⟨h1g,h64⟩,hug⟩,hgens⟩,hfree⟩,hcount⟩:=hsb;obtain rfl:un=gn:=by rw [← HU.out,← HG.out];exact hug
 have HFR:=lH hfree;have HGE:=lH hgens;clear h1g h64 hgens hcount hug hfree;go_wp2_with (fail);clear p0 p1 p2;refine(HO.out w1 HK1.out).mono ?_;rintro e w2 ⟨tb,g,ua,uc,fa,fc,rfl,hO⟩;have t0:=hO.blk.ce 0;have t1:=hO.blk.ce 1;have t2:=hO.blk.ce 2;have HOT:=lH hO;have HBR2:=lH (HBR1.out.keeps hO.kw bA);have HBH2:=lH (HBH1.out.keeps hO.kw bA);clear hO;have HTK:Hid (AO s=(match s.free.getLast? with
  | none=>(DF,(0,0),92)
  | some i=>if s.gens.getD i.toNat 0=1000000000 then(DF,(0,0),92) else(⟨s.gens.set i.toNat (s.gens.getD i.toNat 0+1),s.used.set i.toNat true,s.free.dropLast⟩,(i,s.gens.getD i.toNat 0+1),0))):=lH ZY
 have ht:AO s=(DF,(0,0),92):=by rw [HTK.out,Er (HF.out.trans hfn.out)];rfl
 have HT:=lH ht;clear ht;obtain rfl:fn=0:=hfn.out;go_wp2_with (fail);go_quiet (fail);clear t0 t1 t2;have c0:=HBR2.out.ce 0;have c1:=HBR2.out.ce 1;have c2:=HBR2.out.ce 2;have d0:=HBH2.out.ce 0;have d1:=HBH2.out.ce 1;have f0:=HBR2.out.frozen 0;have f1:=HBR2.out.frozen 1;have f2:=HBR2.out.frozen 2;have g0:=HBH2.out.frozen 0;have g1:=HBH2.out.frozen 1;go_wp2_with (fail);exact bodyPost_ret (v:=.tuple #[.agg Hu.k,dK #[dH dN 0,dH dN 0],dH dN 92]) (by simp [results,Tryz.results196,go_sem,c0,c1,c2,d0,d1]) rfl ⟨_,by rw [HT.out],HERR.out 92 w2 ZT HT.out _ bY⟩
theorem RJ(v:D3)(s:Ff)(gn un fn:Nat)(hg:s.gens.length=gn)(hu:s.used.length=un)(hf:s.free.length=fn)(hb:CA s=true)(m:Nat)(hfn:Hid (fn=m+1))(hfull:Hid (AO s=(DF,(0,0),92)))(w:World)(h:Dp w v s):
  Calls Tryz.prog 196 #[dK (S_ v gn un fn)] w fun e w'=>∃x,e = dM (.tuple #[x,dK #[dH dN (AO s).2.1.1,dH dN (AO s).2.1.2],dH dN (AO s).2.2])∧CS w.heap.size w' (AO s).1 x∧Aa [] w w':=by
 obtain⟨wz,hwz⟩:=eX (((w.alloc (.cells (S_ v gn un fn) 26)).alloc (.cells Hu.k 26)).alloc (.cells #[dH dN 0,dH dN 0] 72));have hK0:Aa [] w wz:=by rw [← hwz];exact(((Aa.refl [] w).alloc _).alloc _).alloc _
 have hB0:Blk wz w.heap.size 26 (S_ v gn un fn):=by rw [← hwz];exact((Blk.new w _ _).alloc _).alloc _
 have hBR:Blk wz (w.heap.size+1) 26 Hu.k:=by rw [← hwz];exact(Aq _ _ _ _ bA).alloc _
 have hBH:Blk wz (w.heap.size+1+1) 72 #[dH dN 0,dH dN 0]:=by rw [← hwz];exact Aq _ _ _ _ bA
 have HR:=lH (fun W (hkk:Aa [] wz W)=>Dn v s gn un fn hg hu hf true hb W (h.keeps (hK0.trans hkk)));have HO:=lH (fun W (hkk:Aa [] wz W)=>G0 v s gn un fn hg hu hf W (h.keeps (hK0.trans hkk)));have HB:=lH hb;have HG:=lH hg;have HU:=lH hu;have HF:=lH hf;have HSM:=lH (AZ h.sg (AZ h.su h.sf));have HK0:=lH hK0;have HB0:=lH hB0;have HBR:=lH hBR;have HBH:=lH hBH;have p0:=hB0.ce 0;have p1:=hB0.ce 1;have p2:=hB0.ce 2;clear h hg hu hf hb hK0 hB0 hBR hBH;go_enter Tryz.func196,Tryz.ntmps196;go_wp2_with (fail);clear hwz p0 p1 p2;refine(HR.out wz (Aa.refl [] wz)).mono ?_;rintro e w1 ⟨rfl,hk1⟩;have HK1:=lH hk1;have p0:=(HB0.out.keeps hk1 bA).ce 0;have p1:=(HB0.out.keeps hk1 bA).ce 1;have p2:=(HB0.out.keeps hk1 bA).ce 2;have HBR1:=lH (HBR.out.keeps hk1 bA);have HBH1:=lH (HBH.out.keeps hk1 bA);have hlt1:Hid (w.heap.size+1+1<w1.heap.size):=lH HBH1.out.lt;clear hk1;have HKW:=lH (HK0.out.trans HK1.out);have HERR:Hid (∀(er:Int) (W:World),Aa [] w1 W→AO s=(DF,(0,0),er)→∀W',Aa [w.heap.size+1,w.heap.size+1+1] W W'→CS w.heap.size W' (AO s).1 (.agg Hu.k)∧Aa [] w W'):=lH fun er W hW ht W' hk=>by
  rw [ht];exact⟨CS.zero _ _,(HKW.out.trans hW).own hk bF⟩
 have hsb:=HB.out;unfold CA at hsb;simp only [Af,decide_eq_true_eq] at hsb;obtain⟨⟨⟨⟨⟨h1g,h64⟩,hug⟩,hgens⟩,hfree⟩,hcount⟩:=hsb;obtain rfl:un=gn:=by rw [← HU.out,← HG.out];exact hug
 have HFR:=lH hfree;have HGE:=lH hgens;clear h1g h64 hgens hcount hug hfree;go_wp2_with (fail);clear p0 p1 p2;refine(HO.out w1 HK1.out).mono ?_;rintro e w2 ⟨tb,g,ua,uc,fa,fc,rfl,hO⟩;have t0:=hO.blk.ce 0;have t1:=hO.blk.ce 1;have t2:=hO.blk.ce 2;have HOT:=lH hO;have HBR2:=lH (HBR1.out.keeps hO.kw bA);have HBH2:=lH (HBH1.out.keeps hO.kw bA);clear hO;have HTK:Hid (AO s=(match s.free.getLast? with
  | none=>(DF,(0,0),92)
  | some i=>if s.gens.getD i.toNat 0=1000000000 then(DF,(0,0),92) else(⟨s.gens.set i.toNat (s.gens.getD i.toNat 0+1),s.used.set i.toNat true,s.free.dropLast⟩,(i,s.gens.getD i.toNat 0+1),0))):=lH ZY
 have HFU:=hfull;clear hfull;obtain rfl:fn=m+1:=hfn.out;have hfm:=AJ.row DZ (show w2.ownsRow w1.heap.size 3 1 (dI fa s.free.length fc) s.free.length (s.free.flatMap EY) by rw [HF.out];exact HOT.out.f);obtain⟨g3,o3,i,rfl,hg3,hx,hat⟩:=hfm.at_k (k:=m) (by rw [HF.out];exact Nat.lt_succ_self m);have q3:=hat 0 (dH dN i) rfl;rw [CG,Nat.mul_one] at q3;obtain⟨hi0,hi1,hi2⟩:=J9 s.used s.free [] HFR.out i (Ex hx);rw [HU.out] at hi1;obtain⟨j,rfl,hj⟩:=Kx hi0 hi1;rw [Int.toNat_natCast] at hi2;have hlast:s.free.getLast? = some (j:Int):=by rw [List.getLast?_eq_getElem?,HF.out];exact hx
 obtain⟨z,hz⟩:∃z,s.gens[j]? = some z:=⟨_,Au (by rw [HG.out];exact hj)⟩;have hzd:s.gens.getD j 0=z:=by rw [AE,hz];rfl
 have qg:=HOT.out.gb.cell j;rw [Ai,List.getElem?_map,hz,Option.map_some] at qg;have HT1:Hid (AO s=if z=1000000000 then(DF,(0,0),92) else(⟨s.gens.set j (z+1),s.used.set j true,s.free.dropLast⟩,((j:Int),z+1),0)):=lH (by rw [HTK.out,hlast];simp only [Int.toNat_natCast,hzd]);have hcap:m+1≤fc:=by have:=hfm.le;rw [HF.out] at this;exact this
 obtain⟨hw1,hw2,ij0,ij1,im0,im3,im1,im2⟩:=MR hj hcap (by have:=HSM.out.2.2;rw [HF.out] at this;exact this);have HFM:=lH hfm;have HZ:=lH hz;have HJ:=lH hj;have HHI:=lH hi2;clear hat hx hi0 hi1 hi2 hlast hz hzd hfm hg3 hcap hj;have hz9:z=1000000000:=by
  by_cases e:z=1000000000
  ·exact e
  ·have h1:=HT1.out
   rw [if_neg e,HFU.out] at h1;injection h1 with _ h1;injection h1 with _ h1;exact absurd h1 bE
 subst hz9;have HT:=HFU;clear HT1;go_wp2_with (fail);go_quiet (fail);clear t0 t1 t2 q3 qg;have c0:=HBR2.out.ce 0;have c1:=HBR2.out.ce 1;have c2:=HBR2.out.ce 2;have d0:=HBH2.out.ce 0;have d1:=HBH2.out.ce 1;have f0:=HBR2.out.frozen 0;have f1:=HBR2.out.frozen 1;have f2:=HBR2.out.frozen 2;have g0:=HBH2.out.frozen 0;have g1:=HBH2.out.frozen 1;go_wp2_with (fail);exact bodyPost_ret (v:=.tuple #[.agg Hu.k,dK #[dH dN 0,dH dN 0],dH dN 92]) (by simp [results,Tryz.results196,go_sem,c0,c1,c2,d0,d1]) rfl ⟨_,by rw [HT.out],HERR.out 92 w2 ZT HT.out _ bY⟩
theorem Dp.keepsS{w w':World}{v:D3}{s:Ff}{S:List Nat}(h:Dp w v s)(hk:Aa S w w')(h1:∀g o,v.ga=some ⟨g,o,none⟩→g∉S)(h2:∀g o,v.ua=some ⟨g,o,none⟩→g∉S)(h3:∀g o,v.fa=some ⟨g,o,none⟩→g∉S):Dp w' v s:={ h with g:=h.g.keepsS hk h1,u:=h.u.keepsS hk h2,f:=h.f.keepsS hk h3 }
theorem Wc(v:D3)(s:Ff)(gn un fn:Nat)(hg:s.gens.length=gn)(hu:s.used.length=un)(hf:s.free.length=fn)(hb:CA s=true)(m:Nat)(hfn:Hid (fn=m+1))(hno:Hid (AO s≠(DF,(0,0),92)))(w:World)(h:Dp w v s):
  Calls Tryz.prog 196 #[dK (S_ v gn un fn)] w fun e w'=>∃x,e = dM (.tuple #[x,dK #[dH dN (AO s).2.1.1,dH dN (AO s).2.1.2],dH dN (AO s).2.2])∧CS w.heap.size w' (AO s).1 x∧Aa [] w w':=by
 obtain⟨wz,hwz⟩:=eX (((w.alloc (.cells (S_ v gn un fn) 26)).alloc (.cells Hu.k 26)).alloc (.cells #[dH dN 0,dH dN 0] 72));have hK0:Aa [] w wz:=by rw [← hwz];exact(((Aa.refl [] w).alloc _).alloc _).alloc _
 have hB0:Blk wz w.heap.size 26 (S_ v gn un fn):=by rw [← hwz];exact((Blk.new w _ _).alloc _).alloc _
 have hBR:Blk wz (w.heap.size+1) 26 Hu.k:=by rw [← hwz];exact(Aq _ _ _ _ bA).alloc _
 have hBH:Blk wz (w.heap.size+1+1) 72 #[dH dN 0,dH dN 0]:=by rw [← hwz];exact Aq _ _ _ _ bA
 have HR:=lH (fun W (hkk:Aa [] wz W)=>Dn v s gn un fn hg hu hf true hb W (h.keeps (hK0.trans hkk)));have HO:=lH (fun W (hkk:Aa [] wz W)=>G0 v s gn un fn hg hu hf W (h.keeps (hK0.trans hkk)));have HB:=lH hb;have HG:=lH hg;have HU:=lH hu;have HF:=lH hf;have HSM:=lH (AZ h.sg (AZ h.su h.sf));have HK0:=lH hK0;have HB0:=lH hB0;have HBR:=lH hBR;have HBH:=lH hBH;have p0:=hB0.ce 0;have p1:=hB0.ce 1;have p2:=hB0.ce 2;clear h hg hu hf hb hK0 hB0 hBR hBH;go_enter Tryz.func196,Tryz.ntmps196;go_wp2_with (fail);clear hwz p0 p1 p2;refine(HR.out wz (Aa.refl [] wz)).mono ?_;rintro e w1 ⟨rfl,hk1⟩;have HK1:=lH hk1;have p0:=(HB0.out.keeps hk1 bA).ce 0;have p1:=(HB0.out.keeps hk1 bA).ce 1;have p2:=(HB0.out.keeps hk1 bA).ce 2;have HBR1:=lH (HBR.out.keeps hk1 bA);have HBH1:=lH (HBH.out.keeps hk1 bA);have hlt1:Hid (w.heap.size+1+1<w1.heap.size):=lH HBH1.out.lt;clear hk1;have HKW:=lH (HK0.out.trans HK1.out);have HERR:Hid (∀(er:Int) (W:World),Aa [] w1 W→AO s=(DF,(0,0),er)→∀W',Aa [w.heap.size+1,w.heap.size+1+1] W W'→CS w.heap.size W' (AO s).1 (.agg Hu.k)∧Aa [] w W'):=lH fun er W hW ht W' hk=>by
  rw [ht];exact⟨CS.zero _ _,(HKW.out.trans hW).own hk bF⟩
 have hsb:=HB.out;unfold CA at hsb;simp only [Af,decide_eq_true_eq] at hsb;obtain⟨⟨⟨⟨⟨h1g,h64⟩,hug⟩,hgens⟩,hfree⟩,hcount⟩:=hsb;obtain rfl:un=gn:=by rw [← HU.out,← HG.out];exact hug
 have HFR:=lH hfree;have HGE:=lH hgens;clear h1g h64 hgens hcount hug hfree;go_wp2_with (fail);clear p0 p1 p2;refine(HO.out w1 HK1.out).mono ?_;rintro e w2 ⟨tb,g,ua,uc,fa,fc,rfl,hO⟩;have t0:=hO.blk.ce 0;have t1:=hO.blk.ce 1;have t2:=hO.blk.ce 2;have HOT:=lH hO;have HBR2:=lH (HBR1.out.keeps hO.kw bA);have HBH2:=lH (HBH1.out.keeps hO.kw bA);clear hO;have HTK:Hid (AO s=(match s.free.getLast? with
  | none=>(DF,(0,0),92)
  | some i=>if s.gens.getD i.toNat 0=1000000000 then(DF,(0,0),92) else(⟨s.gens.set i.toNat (s.gens.getD i.toNat 0+1),s.used.set i.toNat true,s.free.dropLast⟩,(i,s.gens.getD i.toNat 0+1),0))):=lH ZY
 have HNO:=hno;clear hno;obtain rfl:fn=m+1:=hfn.out;have hfm:=AJ.row DZ (show w2.ownsRow w1.heap.size 3 1 (dI fa s.free.length fc) s.free.length (s.free.flatMap EY) by rw [HF.out];exact HOT.out.f);obtain⟨g3,o3,i,rfl,hg3,hx,hat⟩:=hfm.at_k (k:=m) (by rw [HF.out];exact Nat.lt_succ_self m);have q3:=hat 0 (dH dN i) rfl;rw [CG,Nat.mul_one] at q3;obtain⟨hi0,hi1,hi2⟩:=J9 s.used s.free [] HFR.out i (Ex hx);rw [HU.out] at hi1;obtain⟨j,rfl,hj⟩:=Kx hi0 hi1;rw [Int.toNat_natCast] at hi2;have hlast:s.free.getLast? = some (j:Int):=by rw [List.getLast?_eq_getElem?,HF.out];exact hx
 obtain⟨z,hz⟩:∃z,s.gens[j]? = some z:=⟨_,Au (by rw [HG.out];exact hj)⟩;have hzd:s.gens.getD j 0=z:=by rw [AE,hz];rfl
 have qg:=HOT.out.gb.cell j;rw [Ai,List.getElem?_map,hz,Option.map_some] at qg;have HT1:Hid (AO s=if z=1000000000 then(DF,(0,0),92) else(⟨s.gens.set j (z+1),s.used.set j true,s.free.dropLast⟩,((j:Int),z+1),0)):=lH (by rw [HTK.out,hlast];simp only [Int.toNat_natCast,hzd]);have hcap:m+1≤fc:=by have:=hfm.le;rw [HF.out] at this;exact this
 obtain⟨hw1,hw2,ij0,ij1,im0,im3,im1,im2⟩:=MR hj hcap (by have:=HSM.out.2.2;rw [HF.out] at this;exact this);have HFM:=lH hfm;have HZ:=lH hz;have HJ:=lH hj;have HHI:=lH hi2;have hz9:z≠1000000000:=fun e=>HNO.out (by rw [HT1.out,if_pos e]);have HT:Hid (AO s=(⟨s.gens.set j (z+1),s.used.set j true,s.free.dropLast⟩,((j:Int),z+1),0)):=lH (by rw [HT1.out,if_neg hz9]);have fz:(z==1000000000)=false:=by simpa using hz9
 have hzw:IntKind.i64.wrap (z+1)=z+1:=by
  have:=BB.1 HGE.out z (Ex hz);simp only [Af,decide_eq_true_eq] at this;exact IntWalk.i64_in _ bB
 clear hat hx hi0 hi1 hi2 hlast hz hzd hfm hg3 hcap hj HT1 hz9;have hut:=AJ.row KO (show w2.ownsRow w1.heap.size 4 1 (dI ua s.used.length uc) s.used.length (s.used.flatMap KN) by rw [HU.out];exact HOT.out.u);obtain⟨ug,uo,b0,rfl,hug,hxu,hatu⟩:=hut.at_k (k:=j) Zx;have HNE:Hid (ug≠tb∧g≠tb∧ug≠g∧g3≠tb∧g3≠g∧g3≠ug):=lH ⟨C9 HOT.out.u HOT.out.blk bE ug rfl,Blk.ne_ HOT.out.gb HOT.out.blk bE,HOT.out.nu ug rfl,C9 HOT.out.f HOT.out.blk bE g3 rfl,HOT.out.ne g3 rfl,ER HOT.out.f HOT.out.u bE g3 ug rfl rfl⟩;have HUG:=lH (Em HOT.out.u rfl);have HUT:=lH hut;have HUC:=lH (hatu 0 _ rfl);clear hut hug hxu hatu;go_wp2_with (fail);go_quiet (fail);go_upto_region 8 with(fail)
 go_cut [57] (fun _ wc=>Hid (Blk wc tb 252 #[dI (some ⟨g,0,none⟩) un un,dI (some ⟨ug,uo,none⟩) un uc,dI (some ⟨g3,o3,none⟩) m m]∧Aa [tb] w2 wc))
 case first=>
  have hfz:=HOT.out.blk.frozen 2;go_wp2_with (fail);go_meet;exact lH ⟨by simpa using(HOT.out.blk.keeps ((Aa.refl [] w2).drewN _) bA).set_ 2 (dI (some ⟨g3,o3,none⟩) m m),((Aa.refl [tb] w2).drewN _).setCell (.inl bA) _⟩
 case rest=>
  rename World=>wc
  have HC1:=hcut;clear t0 t1 t2 q3 qg hcut;have t1:=HC1.out.1.ce 1;obtain⟨cu,hcu⟩:=HUG.out;have hcu1:=hcu.keeps HC1.out.2 (by simpa using HNE.out.1);have q1:=(HC1.out.2.cell (p:=⟨ug,uo+j*1+0,none⟩) hcu.lt (by simpa using HNE.out.1)).trans HUC.out;rw [CG,Nat.mul_one] at q1;have hfz:=hcu1.frozen (uo+j);clear hcu hcu1;go_upto_region 9 with(fail)
  go_cut [69] (fun _ wd=>Hid (wd=wc.setCell ⟨ug,uo+j,none⟩ (dL true)))
  case first=>
   go_wp2_with (fail);go_meet;exact lH rfl
  case rest=>
   rename World=>wd
   have HC2:=hcut;have hk2:Aa [ug] wc wd:=by rw [HC2.out];exact Ae _ _ _ _
   have HB2:=lH (HC1.out.1.keeps hk2 (by simpa using HNE.out.1.symm));have hg0:=HOT.out.gb.keeps HC1.out.2 (by simpa using HNE.out.2.1);have HG2:=lH (hg0.keeps hk2 (by simpa using HNE.out.2.2.1.symm));have HU2:Hid (Jv wd (some ⟨ug,uo,none⟩) uc (s.used.set j true)):=lH (by
    rw [HC2.out];exact(HUT.out.keepsS HC1.out.2 (fun g' o' e=>by injection e with e;injection e with e _;subst e;simpa using HNE.out.1)).set1 (f:=dL) (fun _=>rfl) Zx true)
   have HK2:=lH hk2;clear hcut t1 q1 hfz hk2 hg0 HC2;have t0:=HB2.out.ce 0;have q2:=HG2.out.cell j;have hfz:=HG2.out.frozen j;rw [Ai,List.getElem?_map,HZ.out,Option.map_some] at q2;go_upto_region 10 with(fail)
   go_cut [80] (fun _ wf=>Hid (wf=wd.setCell ⟨g,j,none⟩ (dH dN (z+1))))
   case first=>
    go_wp2_with (fail);go_meet;exact lH rfl
   case rest=>
    rename World=>wf
    have HC3:=hcut;have hk3:Aa [g] wd wf:=by rw [HC3.out];exact Ae _ _ _ _
    have HB3:=lH (HB2.out.keeps hk3 (by simpa using HNE.out.2.1.symm));have HG3:Hid (Blk wf g 3 ((s.gens.set j (z+1)).map (dH .i64)).toArray):=lH (by rw [HC3.out,List.map_set];simpa using HG2.out.set_ j (dH dN (z+1)));have hk13:Aa [tb,ug,g] w2 wf:=((HC1.out.2.mono bA).trans (HK2.out.mono bA)).trans (hk3.mono bA);have HKF:Hid (Aa [tb,ug,g] w2 wf):=lH hk13;have HU3:Hid (Jv wf (some ⟨ug,uo,none⟩) uc (s.used.set j true)):=lH (HU2.out.keepsS hk3 (fun g' o' e=>by injection e with e;injection e with e _;subst e;simpa using HNE.out.2.2.1));have HF3:Hid (Ik wf (some ⟨g3,o3,none⟩) m s.free.dropLast):=lH (by
     rw [List.dropLast_eq_take,HF.out];exact((HFM.out.take m).cap (by rw [A7,HF.out];simp)).keepsS hk13 (fun g' o' e=>by
      injection e with e;injection e with e _;subst e
      have:=HNE.out;simp only [Ac,Ab,or_false,not_or];exact⟨this.2.2.2.1,this.2.2.2.2.2,this.2.2.2.2.1⟩))
    clear hcut t0 q2 hfz hk3 hk13 HC3;have t0:=HB3.out.ce 0;have t1:=HB3.out.ce 1;have t2:=HB3.out.ce 2;have q2:=HG3.out.cell j;rw [Ai,List.getElem?_map,List.getElem?_set_self (by rw [HG.out];exact HJ.out),Option.map_some] at q2;have HGE1:Hid (w.heap.size+1+1<tb∧w.heap.size+1+1<ug∧w.heap.size+1+1<g):=lH (by
     have h0:=hlt1.out;have h1:=HOT.out.te;have h2:=HOT.out.ge;have h3:=AP HOT.out.u ug Yg;omega)
    have hn1:w.heap.size+1∉[tb,ug,g]:=by have:=HGE1.out;simp only [Ac,Ab,or_false];omega
    have hn2:w.heap.size+1+1∉[tb,ug,g]:=by have:=HGE1.out;simp only [Ac,Ab,or_false];omega
    have HBR3:=lH (HBR2.out.keeps HKF.out hn1);have HBH3:=lH (HBH2.out.keeps HKF.out hn2);have c0:=HBR3.out.ce 0;have c1:=HBR3.out.ce 1;have c2:=HBR3.out.ce 2;have d0:=HBH3.out.ce 0;have d1:=HBH3.out.ce 1;have f0:=HBR3.out.frozen 0;have f1:=HBR3.out.frozen 1;have f2:=HBR3.out.frozen 2;have g0:=HBH3.out.frozen 0;have g1:=HBH3.out.frozen 1;have x1:¬g=w.heap.size+1:=by have:=HGE1.out;omega
    have x2:¬g=w.heap.size+1+1:=by have:=HGE1.out;omega
    have x3:¬tb=w.heap.size+1:=by have:=HGE1.out;omega
    have x4:¬tb=w.heap.size+1+1:=by have:=HGE1.out;omega
    have x5:¬w.heap.size+1=g:=by have:=HGE1.out;omega
    have x6:¬w.heap.size+1+1=g:=by have:=HGE1.out;omega
    have x7:¬w.heap.size+1=tb:=by have:=HGE1.out;omega
    have x8:¬w.heap.size+1+1=tb:=by have:=HGE1.out;omega
    clear hn1 hn2;go_wp2_with (fail);go_region;go_wp2_with (fail);refine bodyPost_ret (v:=.tuple #[dK #[dI (some ⟨g,0,none⟩) un un,dI (some ⟨ug,uo,none⟩) un uc,dI (some ⟨g3,o3,none⟩) m m],dK #[dH dN (j:Int),dH dN (z+1)],dH dN 0]) (by simp [results,Tryz.results196,go_sem,c0,c1,c2,d0,d1]) rfl ⟨_,by rw [HT.out],?_,?_⟩
    ·rw [HT.out]
     have hm:Dp wf ⟨some ⟨g,0,none⟩,un,some ⟨ug,uo,none⟩,uc,some ⟨g3,o3,none⟩,m⟩ ⟨s.gens.set j (z+1),s.used.set j true,s.free.dropLast⟩:=⟨AJ.of_blk (f:=dH .i64) (fun _=>rfl) (by simpa using HG.out) HG3.out,HU3.out,HF3.out,by simpa using HSM.out.1,by simpa using HSM.out.2.1,by have:=HSM.out.2.2;simp only [List.length_dropLast];omega⟩;have h5:=HGE1.out;have h6:=AP HOT.out.f g3 Yg;have h7:=hlt1.out;refine⟨_,un,un,m,rfl,by simpa using HG.out,by simpa using HU.out,by simp [HF.out],hm.keepsS (S:=[w.heap.size+1,w.heap.size+1+1]) bY ?_ ?_ ?_,?_,?_,?_⟩<;>
     ·intro g' o' e
      injection e with e;injection e with e _;subst e
      try simp only [Ac,Ab,or_false]
      omega
    ·refine(((HKW.out.trans HOT.out.kw).own HKF.out (fun y hy=>?_))).own (S:=[w.heap.size+1,w.heap.size+1+1]) bY (fun y hy=>?_)
     ·have:=HGE1.out
      simp only [Ac,Ab,or_false] at hy;omega
     ·simp only [Ac,Ab,or_false] at hy
      omega
theorem TA(v:D3)(s:Ff)(gn un fn:Nat)(hg:s.gens.length=gn)(hu:s.used.length=un)(hf:s.free.length=fn)(w:World)(h:Dp w v s):
  Calls Tryz.prog 196 #[dK (S_ v gn un fn)] w fun e w'=>∃x,e = dM (.tuple #[x,dK #[dH dN (AO s).2.1.1,dH dN (AO s).2.1.2],dH dN (AO s).2.2])∧CS w.heap.size w' (AO s).1 x∧Aa [] w w':=by
 cases hb:CA s with
 | false=>exact TC v s gn un fn hg hu hf hb w h
 | true=>
  cases hn:fn with
  | zero=>subst hn;exact PG v s gn un 0 hg hu hf hb (lH rfl) w h
  | succ m=>
   subst hn;by_cases ht:AO s=(DF,(0,0),92)
   ·exact RJ v s gn un (m+1) hg hu hf hb m (lH rfl) (lH ht) w h
   ·exact Wc v s gn un (m+1) hg hu hf hb m (lH rfl) (lH ht) w h
end
end Go.Proofs.YtcjdkbgdahgjbaaGreatDoor
