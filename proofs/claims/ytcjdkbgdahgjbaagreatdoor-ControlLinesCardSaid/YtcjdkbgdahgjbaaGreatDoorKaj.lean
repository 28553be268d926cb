/- Steps of the proof: SloI, RegD. -/
import Derived.Test.YtcjdkbgdahgjbaaGreatDoorK0
import Derived.Test.YtcjdkbgdahgjbaaGreatDoorKac
import Derived.Test.YtcjdkbgdahgjbaaGreatDoorKad
import Derived.Test.YtcjdkbgdahgjbaaGreatDoorKah
import Derived.Test.YtcjdkbgdahgjbaaGreatDoorKai
import Derived.Test.YtcjdkbgdahgjbaaGreatDoorKak
import Derived.Test.YtcjdkbgdahgjbaaGreatDoorKap
import Derived.Stop.RegionWithIn
set_option maxRecDepth 100000
set_option maxHeartbeats 8000000
set_option linter.all false
namespace Go.Proofs.YtcjdkbgdahgjbaaGreatDoor
open _root_.And renaming intro→AZ
open _root_.Array renaming replicate_succ→Bc,replicate_zero→Bd
open _root_.Bool renaming and_assoc→DW,and_eq_true→Af,false_and→D4
open Ending renaming returned→dM
open Instr renaming lookup→Dx
open IntKind renaming i64→dN
open _root_.List renaming append_assoc→CO,append_toArray→B0,cons_append→A6,getD_eq_getElem?_getD→AE,getElem?_eq_getElem→Au,getElem?_eq_some_iff→Ad,length_append→Ag,length_cons→Ao,length_nil→Eh,length_range→A8,length_singleton→AW,map_cons→Cn,mem_append→AF,mem_cons→Ac,mem_of_getElem?→Ex,nil_append→AX,not_mem_nil→Ab,push_toArray→By,range→A0,size_toArray→Cx,take_append_drop→Bj,take_of_length_le→Ax
open _root_.Nat renaming add_zero→CG,le_refl→Ap,le_trans→As,lt_of_lt_of_le→AT
open Value renaming agg→dK,bool→dL,int→dH,pointer→dJ,slice→dI,string→CZ
section
open Go.RowKit Go.Shelf
attribute [local go_sem] Oper.semAt_some
attribute [local go_sem ↓] Go.wp_at_zero Go.wp_at_succ
theorem JH:∀(u:List Bool) (g:List Int) (i:Nat) (x y:Int),(x,y)∈usedL i u g→(i:Int)≤x∧x<((i+u.length:Nat):Int)
 | true::l,g::m,i,x,y,h=>by
  simp only [usedL,Ac,Prod.mk.injEq] at h;rcases h with h | h
  ·obtain⟨rfl,-⟩:=h
   simp only [Ao];omega
  ·have:=JH l m (i+1) x y h
   simp only [Ao];omega
 | false::l,_::m,i,x,y,h=>by
  simp only [usedL] at h;have:=JH l m (i+1) x y h;simp only [Ao];omega
 | [],_,_,_,_,h=>by simp [usedL] at h
 | true::_,[],_,_,_,h=>by simp [usedL] at h
 | false::_,[],_,_,_,h=>by simp [usedL] at h
theorem Sx{s:Ff}(h:CA s=true):s.free.length≤64:=by
 unfold CA at h;simp only [Af,decide_eq_true_eq] at h;omega
theorem U7{s:Ff}{x y:Int}(h:(C6 s).contains (x,y)=true):∃j:Nat,x=(j:Int)∧j<s.used.length:=by
 have h1:(x,y)∈C6 s:=by simpa using h
 unfold C6 at h1;split at h1
 ·have:=JH _ _ _ _ _ h1
  exact Kx bB bB
 ·simp at h1
theorem T6(v:D3)(s:Ff)(gn un fn:Nat)(hg:s.gens.length=gn)(hu:s.used.length=un)(hf:s.free.length=fn)(x y:Int)(hb:CA s=false)(w:World)(h:Dp w v s):
  Calls Tryz.prog 199 #[dK (S_ v gn un fn),dK #[dH dN x,dH dN y]] w fun e w'=>∃r,e = dM (.tuple #[r,dH dN (Cf s (x,y)).2])∧CS w.heap.size w' (Cf s (x,y)).1 r∧Aa [] w w':=by
 obtain⟨wz,hwz⟩:=eX (((w.alloc (.cells (S_ v gn un fn) 26)).alloc (.cells #[dH dN x,dH dN y] 72)).alloc (.cells Hu.k 26));have hK0:Aa [] w wz:=by rw [← hwz];exact(((Aa.refl [] w).alloc _).alloc _).alloc _
 have hB0:Blk wz w.heap.size 26 (S_ v gn un fn):=by rw [← hwz];exact((Blk.new w _ _).alloc _).alloc _
 have hBH:Blk wz (w.heap.size+1) 72 #[dH dN x,dH dN y]:=by rw [← hwz];exact(Aq _ _ _ _ bA).alloc _
 have hBR:Blk wz (w.heap.size+1+1) 26 Hu.k:=by rw [← hwz];exact Aq _ _ _ _ bA
 have HR:=lH (fun W (hkk:Aa [] wz W)=>Dn v s gn un fn hg hu hf false hb W (h.keeps (hK0.trans hkk)));have HV:=lH (fun b hb2 W (hkk:Aa [] wz W)=>J4 v s gn un fn hg hu hf x y b hb2 W (h.keeps (hK0.trans hkk)));have HO:=lH (fun W (hkk:Aa [] wz W)=>G0 v s gn un fn hg hu hf W (h.keeps (hK0.trans hkk)));have HB:=lH hb;have HG:=lH hg;have HU:=lH hu;have HF:=lH hf;have HSM:=lH (AZ h.sg (AZ h.su h.sf));have HK0:=lH hK0;have HB0:=lH hB0;have HBR:=lH hBR;have HBH:=lH hBH;have p0:=hB0.ce 0;have p1:=hB0.ce 1;have p2:=hB0.ce 2;clear h hg hu hf hb hK0 hB0 hBR hBH;go_enter Tryz.func199,Tryz.ntmps199;go_wp2_with (fail);clear hwz p0 p1 p2;refine(HR.out wz (Aa.refl [] wz)).mono ?_;rintro e w1 ⟨rfl,hk1⟩;have HK1:=lH hk1;have p0:=(HB0.out.keeps hk1 bA).ce 0;have p1:=(HB0.out.keeps hk1 bA).ce 1;have p2:=(HB0.out.keeps hk1 bA).ce 2;have r0:=(HBH.out.keeps hk1 bA).ce 0;have r1:=(HBH.out.keeps hk1 bA).ce 1;have HBR1:=lH (HBR.out.keeps hk1 bA);have HBH1:=lH (HBH.out.keeps hk1 bA);have HB01:=lH (HB0.out.keeps hk1 bA);have hlt1:Hid (w.heap.size+1+1<w1.heap.size):=lH HBR1.out.lt;clear hk1;have HKW:=lH (HK0.out.trans HK1.out);have HERR:Hid (∀(er:Int) (W:World),Aa [] w1 W→Cf s (x,y)=(DF,er)→∀W',Aa [w.heap.size+1+1] W W'→CS w.heap.size W' (Cf s (x,y)).1 (.agg Hu.k)∧Aa [] w W'):=lH fun er W hW ht W' hk=>by
  rw [ht];exact⟨CS.zero _ _,(HKW.out.trans hW).own hk bF⟩
 have ht:Cf s (x,y)=(DF,90):=by unfold Cf;rw [if_neg Z2]
 have HT:=lH ht;clear ht p0 p1 p2 r0 r1;have c0:=HBR1.out.ce 0;have c1:=HBR1.out.ce 1;have c2:=HBR1.out.ce 2;have f0:=HBR1.out.frozen 0;have f1:=HBR1.out.frozen 1;have f2:=HBR1.out.frozen 2;go_wp2_with (fail);exact bodyPost_ret (v:=.tuple #[.agg Hu.k,dH dN 90]) (by simp [results,Tryz.results199,go_sem,c0,c1,c2]) rfl ⟨_,by rw [HT.out],HERR.out 90 w1 (Aa.refl _ _) HT.out _ bY⟩
theorem RH(v:D3)(s:Ff)(gn un fn:Nat)(hg:s.gens.length=gn)(hu:s.used.length=un)(hf:s.free.length=fn)(x y:Int)(hb:CA s=true)(hc:Hid ((C6 s).contains (x,y)=false))(w:World)(h:Dp w v s):
  Calls Tryz.prog 199 #[dK (S_ v gn un fn),dK #[dH dN x,dH dN y]] w fun e w'=>∃r,e = dM (.tuple #[r,dH dN (Cf s (x,y)).2])∧CS w.heap.size w' (Cf s (x,y)).1 r∧Aa [] w w':=by
 obtain⟨wz,hwz⟩:=eX (((w.alloc (.cells (S_ v gn un fn) 26)).alloc (.cells #[dH dN x,dH dN y] 72)).alloc (.cells Hu.k 26));have hK0:Aa [] w wz:=by rw [← hwz];exact(((Aa.refl [] w).alloc _).alloc _).alloc _
 have hB0:Blk wz w.heap.size 26 (S_ v gn un fn):=by rw [← hwz];exact((Blk.new w _ _).alloc _).alloc _
 have hBH:Blk wz (w.heap.size+1) 72 #[dH dN x,dH dN y]:=by rw [← hwz];exact(Aq _ _ _ _ bA).alloc _
 have hBR:Blk wz (w.heap.size+1+1) 26 Hu.k:=by rw [← hwz];exact Aq _ _ _ _ bA
 have HR:=lH (fun W (hkk:Aa [] wz W)=>Dn v s gn un fn hg hu hf true hb W (h.keeps (hK0.trans hkk)));have HV:=lH (fun b hb2 W (hkk:Aa [] wz W)=>J4 v s gn un fn hg hu hf x y b hb2 W (h.keeps (hK0.trans hkk)));have HO:=lH (fun W (hkk:Aa [] wz W)=>G0 v s gn un fn hg hu hf W (h.keeps (hK0.trans hkk)));have HB:=lH hb;have HG:=lH hg;have HU:=lH hu;have HF:=lH hf;have HSM:=lH (AZ h.sg (AZ h.su h.sf));have HK0:=lH hK0;have HB0:=lH hB0;have HBR:=lH hBR;have HBH:=lH hBH;have p0:=hB0.ce 0;have p1:=hB0.ce 1;have p2:=hB0.ce 2;clear h hg hu hf hb hK0 hB0 hBR hBH;go_enter Tryz.func199,Tryz.ntmps199;go_wp2_with (fail);clear hwz p0 p1 p2;refine(HR.out wz (Aa.refl [] wz)).mono ?_;rintro e w1 ⟨rfl,hk1⟩;have HK1:=lH hk1;have p0:=(HB0.out.keeps hk1 bA).ce 0;have p1:=(HB0.out.keeps hk1 bA).ce 1;have p2:=(HB0.out.keeps hk1 bA).ce 2;have r0:=(HBH.out.keeps hk1 bA).ce 0;have r1:=(HBH.out.keeps hk1 bA).ce 1;have HBR1:=lH (HBR.out.keeps hk1 bA);have HBH1:=lH (HBH.out.keeps hk1 bA);have HB01:=lH (HB0.out.keeps hk1 bA);have hlt1:Hid (w.heap.size+1+1<w1.heap.size):=lH HBR1.out.lt;clear hk1;have HKW:=lH (HK0.out.trans HK1.out);have HERR:Hid (∀(er:Int) (W:World),Aa [] w1 W→Cf s (x,y)=(DF,er)→∀W',Aa [w.heap.size+1+1] W W'→CS w.heap.size W' (Cf s (x,y)).1 (.agg Hu.k)∧Aa [] w W'):=lH fun er W hW ht W' hk=>by
  rw [ht];exact⟨CS.zero _ _,(HKW.out.trans hW).own hk bF⟩
 have ht:Cf s (x,y)=(DF,91):=by unfold Cf;rw [if_pos HB.out,if_neg (by rw [hc.out];decide)]
 have HT:=lH ht;clear ht;go_wp2_with (fail);refine(HV.out false (by have:=hc.out;simp only [List.contains_eq_mem] at this;exact this) w1 HK1.out).mono ?_;rintro e w2 ⟨rfl,hk2⟩;have HK2:=lH hk2;have HBR2:=lH (HBR1.out.keeps hk2 bA);have HBH2:=lH (HBH1.out.keeps hk2 bA);have HB02:=lH (HB01.out.keeps hk2 bA);clear hk2 p0 p1 p2 r0 r1;have c0:=HBR2.out.ce 0;have c1:=HBR2.out.ce 1;have c2:=HBR2.out.ce 2;have f0:=HBR2.out.frozen 0;have f1:=HBR2.out.frozen 1;have f2:=HBR2.out.frozen 2;go_wp2_with (fail);exact bodyPost_ret (v:=.tuple #[.agg Hu.k,dH dN 91]) (by simp [results,Tryz.results199,go_sem,c0,c1,c2]) rfl ⟨_,by rw [HT.out],HERR.out 91 w2 HK2.out HT.out _ bY⟩
theorem VY(v:D3)(s:Ff)(gn un fn:Nat)(hg:s.gens.length=gn)(hu:s.used.length=un)(hf:s.free.length=fn)(x y:Int)(hb:CA s=true)(hc:Hid ((C6 s).contains (x,y)=true))(w:World)(h:Dp w v s):
  Calls Tryz.prog 199 #[dK (S_ v gn un fn),dK #[dH dN x,dH dN y]] w fun e w'=>∃r,e = dM (.tuple #[r,dH dN (Cf s (x,y)).2])∧CS w.heap.size w' (Cf s (x,y)).1 r∧Aa [] w w':=by
 obtain⟨wz,hwz⟩:=eX (((w.alloc (.cells (S_ v gn un fn) 26)).alloc (.cells #[dH dN x,dH dN y] 72)).alloc (.cells Hu.k 26));have hK0:Aa [] w wz:=by rw [← hwz];exact(((Aa.refl [] w).alloc _).alloc _).alloc _
 have hB0:Blk wz w.heap.size 26 (S_ v gn un fn):=by rw [← hwz];exact((Blk.new w _ _).alloc _).alloc _
 have hBH:Blk wz (w.heap.size+1) 72 #[dH dN x,dH dN y]:=by rw [← hwz];exact(Aq _ _ _ _ bA).alloc _
 have hBR:Blk wz (w.heap.size+1+1) 26 Hu.k:=by rw [← hwz];exact Aq _ _ _ _ bA
 have HR:=lH (fun W (hkk:Aa [] wz W)=>Dn v s gn un fn hg hu hf true hb W (h.keeps (hK0.trans hkk)));have HV:=lH (fun b hb2 W (hkk:Aa [] wz W)=>J4 v s gn un fn hg hu hf x y b hb2 W (h.keeps (hK0.trans hkk)));have HO:=lH (fun W (hkk:Aa [] wz W)=>G0 v s gn un fn hg hu hf W (h.keeps (hK0.trans hkk)));have HB:=lH hb;have HG:=lH hg;have HU:=lH hu;have HF:=lH hf;have HSM:=lH (AZ h.sg (AZ h.su h.sf));have HK0:=lH hK0;have HB0:=lH hB0;have HBR:=lH hBR;have HBH:=lH hBH;have p0:=hB0.ce 0;have p1:=hB0.ce 1;have p2:=hB0.ce 2;clear h hg hu hf hb hK0 hB0 hBR hBH;go_enter Tryz.func199,Tryz.ntmps199;go_wp2_with (fail);clear hwz p0 p1 p2;refine(HR.out wz (Aa.refl [] wz)).mono ?_;rintro e w1 ⟨rfl,hk1⟩;have HK1:=lH hk1;have p0:=(HB0.out.keeps hk1 bA).ce 0;have p1:=(HB0.out.keeps hk1 bA).ce 1;have p2:=(HB0.out.keeps hk1 bA).ce 2;have r0:=(HBH.out.keeps hk1 bA).ce 0;have r1:=(HBH.out.keeps hk1 bA).ce 1;have HBR1:=lH (HBR.out.keeps hk1 bA);have HBH1:=lH (HBH.out.keeps hk1 bA);have HB01:=lH (HB0.out.keeps hk1 bA);have hlt1:Hid (w.heap.size+1+1<w1.heap.size):=lH HBR1.out.lt;clear hk1;have HKW:=lH (HK0.out.trans HK1.out);have HERR:Hid (∀(er:Int) (W:World),Aa [] w1 W→Cf s (x,y)=(DF,er)→∀W',Aa [w.heap.size+1+1] W W'→CS w.heap.size W' (Cf s (x,y)).1 (.agg Hu.k)∧Aa [] w W'):=lH fun er W hW ht W' hk=>by
  rw [ht];exact⟨CS.zero _ _,(HKW.out.trans hW).own hk bF⟩
 have HFL:Hid (s.free.length+1≤1000):=lH (by have:=Sx HB.out;omega);have HT:Hid (Cf s (x,y)=(⟨s.gens,s.used.set x.toNat false,s.free++[x]⟩,0)):=lH (by unfold Cf;rw [if_pos HB.out,if_pos hc.out]);obtain⟨j,rfl,hj⟩:=U7 hc.out;rw [HU.out] at hj;have HJ:=lH hj;have ij0:(0:Int)≤(j:Int):=by omega
 have ij1:(j:Int)<(un:Int):=by omega
 clear hj;go_wp2_with (fail);refine(HV.out true (by have:=hc.out;simp only [List.contains_eq_mem] at this;exact this) w1 HK1.out).mono ?_;rintro e w2 ⟨rfl,hk2⟩;have HK2:=lH hk2;have HBR2:=lH (HBR1.out.keeps hk2 bA);have HBH2:=lH (HBH1.out.keeps hk2 bA);have HB02:=lH (HB01.out.keeps hk2 bA);clear hk2 p0 p1 p2 r0 r1;have p0:=HB02.out.ce 0;have p1:=HB02.out.ce 1;have p2:=HB02.out.ce 2;go_wp2_with (fail);clear p0 p1 p2;refine(HO.out w2 (HK1.out.trans HK2.out)).mono ?_;rintro e w3 ⟨tb,g,ua,uc,fa,fc,rfl,hO⟩;have HOT:=lH hO;have HBR3:=lH (HBR2.out.keeps hO.kw bA);have HBH3:=lH (HBH2.out.keeps hO.kw bA);have t0:=hO.blk.ce 0;have t1:=hO.blk.ce 1;have t2:=hO.blk.ce 2;have r0:=HBH3.out.ce 0;have r1:=HBH3.out.ce 1;clear hO;have hut:=AJ.row KO (show w3.ownsRow w2.heap.size 4 1 (dI ua s.used.length uc) s.used.length (s.used.flatMap KN) by rw [HU.out];exact HOT.out.u);obtain⟨ug,uo,b0,rfl,hug,hxu,hatu⟩:=hut.at_k (k:=j) Zx;have HNE:Hid (ug≠tb∧g≠tb∧ug≠g):=lH ⟨C9 HOT.out.u HOT.out.blk bE ug rfl,Blk.ne_ HOT.out.gb HOT.out.blk bE,HOT.out.nu ug rfl⟩;obtain⟨cu,hcu⟩:=Em HOT.out.u rfl;have q1:=hatu 0 _ rfl;rw [CG,Nat.mul_one] at q1;have hfz:=hcu.frozen (uo+j);have HUG:=lH hcu;have HUT:=lH hut;have HGE1:Hid (w.heap.size+1+1<w2.heap.size∧w2.heap.size≤tb∧w2.heap.size≤ug∧w2.heap.size≤g):=lH ⟨AT hlt1.out HK2.out.size,HOT.out.te,AP HOT.out.u ug Yg,HOT.out.ge⟩;clear hut hug hxu hatu hcu;go_upto_region 6 with(fail)
 go_cut [27] (fun _ wc=>Hid (Aa [ug] w3 wc∧Jv wc (some ⟨ug,uo,none⟩) uc (s.used.set j false)))
 case first=>
  go_region;go_wp2_with (fail);go_meet;refine lH ⟨?_,?_⟩
  ·first | exact(((Aa.refl [ug] w3).drew).setCell (.inl bA) _) | exact(((Aa.refl [ug] w3)).setCell (.inl bA) _).drew
  ·have h9:=HUT.out.set1 (f:=dL) (j:=j) (fun _=>rfl) Zx false
   exact h9.keeps ((Aa.refl [] _).drew)
 case rest=>
  rename World=>wc
  have HC:=hcut;clear hcut t0 t1 t2 r0 r1 q1 hfz;obtain⟨hkc,huc⟩:=HC.out;have htb:=HOT.out.blk.keeps hkc (by simpa using HNE.out.1.symm);have HU1:=lH huc;have HKC:=lH hkc;have HTB:=lH htb;have hbh:=HBH3.out.keeps hkc (by have:=HGE1.out;simp only [Ac,Ab,or_false];omega);have t2:=htb.ce 2;have r0:=hbh.ce 0;have hfr:wc.drew.ownsRow w2.heap.size 3 1 (dI fa s.free.length fc) s.free.length (s.free.flatMap EY):=by
   rw [HF.out];exact Ak HOT.out.f hkc.drew (fun z hz=>by
    have:=ER HOT.out.f HOT.out.u bE z ug hz rfl;simpa using this)
  obtain⟨g9,c9,w9,hrun,hrow9,hk9,hge9⟩:=C8 (enc:=EY) Tryz.prog (t:=23) Tryz.underlying23 KZ bE DZ IU hfr (As HOT.out.kw.size hkc.drew.size) (j:Int) (by have:=HSM.out.2.2;omega) 23;have hntb:tb∉(dI fa s.free.length fc).ownBlock.toList:=fun hm=>(C9 HOT.out.f HOT.out.blk bE tb (by rw [HF.out] at hm;simpa using hm)) rfl;have ht9:=htb.drew.keeps hk9 hntb;have e2:=ht9.ce 2;have f2:=ht9.frozen 2;have hb9:Blk (w9.setCell ⟨tb,2,none⟩ (dI (some ⟨g9,0,none⟩) (s.free.length+1) c9)) tb 252 #[dI (some ⟨g,0,none⟩) gn gn,dI (some ⟨ug,uo,none⟩) un uc,dI (some ⟨g9,0,none⟩) (s.free.length+1) c9]:=by simpa using ht9.set_ 2 (dI (some ⟨g9,0,none⟩) (s.free.length+1) c9)
  have HB9:=lH hb9;have HH9:=lH hk9;have HR9:=lH hrow9;have HFB:Hid (∀z,(dI fa s.free.length fc).ownBlock=some z→w2.heap.size≤z∧z≠ug∧z≠g∧z≠tb):=lH fun z hz=>by
   rw [HF.out] at hz;exact⟨AP HOT.out.f z (by simpa using hz),ER HOT.out.f HOT.out.u bE z ug hz rfl,HOT.out.ne z hz,C9 HOT.out.f HOT.out.blk bE z hz⟩
  rw [HF.out] at hrun hb9;simp only [EY] at hrun;obtain⟨n9,hn9⟩:=eX (fn+1);rw [hn9] at hrun hb9;have HN9:=lH hn9;have HRUN:=lH hrun;have HG9:Hid (g9≠tb):=lH (by
   have h1:=hrow9;rw [HF.out] at h1;exact C9 h1 ht9 bE g9 rfl)
  have HB10:=lH hb9;clear hrow9 hk9 hntb ht9 hkc huc htb hbh hn9 hb9 hfr hge9 HB9 hrun;have d2:=DX t2 (.cells #[dH dN (j:Int)] 3);go_upto_region 7 with(fail)
  go_cut [40] (fun _ wd=>Hid (wd=w9.setCell ⟨tb,2,none⟩ (dI (some ⟨g9,0,none⟩) n9 c9)))
  case first=>
   go_region_law (refine BA _ _ 23 bD bD bD bD HRUN.out ?_)
   all_goals
    go_wp2_with (fail);go_meet;exact lH rfl
  case rest=>
   rename World=>wd
   have HC2:=hcut;clear hcut;have HWD:=HC2;have hkd:Aa [tb] w9 wd:=by rw [HWD.out];exact Ae _ _ _ _
   have hB:Blk wd tb 252 #[dI (some ⟨g,0,none⟩) gn gn,dI (some ⟨ug,uo,none⟩) un uc,dI (some ⟨g9,0,none⟩) n9 c9]:=by rw [HWD.out];exact HB10.out
   have hk3d:Aa ((dI fa s.free.length fc).ownBlock.toList++[tb,ug]) w3 wd:=((HKC.out.mono bA).trans ((((Aa.refl (dI fa s.free.length fc).ownBlock.toList wc).drew).trans HH9.out).mono (fun y hy=>List.mem_append_left _ hy))).trans (hkd.mono bA);have hlow:∀y∈(dI fa s.free.length fc).ownBlock.toList++[tb,ug],w2.heap.size≤y:=fun y hy=>by
    rcases AF.1 hy with hy | hy
    ·exact(HFB.out y bU).1
    ·have:=HGE1.out
     simp only [Ac,Ab,or_false] at hy;omega
   have hnin:w.heap.size+1+1∉(dI fa s.free.length fc).ownBlock.toList++[tb,ug]:=fun hm=>by have:=hlow _ hm;have:=HGE1.out;omega
   have hbr:=HBR3.out.keeps hk3d hnin;have hgb:=HOT.out.gb.keeps hk3d (fun hm=>by
    rcases AF.1 hm with hm | hm
    ·exact(HFB.out g bT).2.2.1 rfl
    ·have:=HNE.out
     simp only [Ac,Ab,or_false] at hm;rcases hm with hm | hm
     ·exact this.2.1 hm
     ·exact this.2.2 hm.symm)
   have hu3:Jv wd (some ⟨ug,uo,none⟩) uc (s.used.set j false):=((HU1.out.keeps ((Aa.refl [] wc).drew)).keepsS HH9.out (fun g' o' e hm=>by
    injection e with e;injection e with e _;subst e
    exact(HFB.out _ bT).2.1 rfl)).keepsS hkd (fun g' o' e=>by injection e with e;injection e with e _;subst e;simpa using HNE.out.1)
   have hf3:Ik wd (some ⟨g9,0,none⟩) c9 (s.free++[(j:Int)]):=(AJ.row DZ (show w9.ownsRow w2.heap.size 3 1 (dI (some ⟨g9,0,none⟩) (s.free++[(j:Int)]).length c9) (s.free++[(j:Int)]).length ((s.free++[(j:Int)]).flatMap EY) by simpa using HR9.out)).keepsS hkd (fun g' o' e=>by injection e with e;injection e with e _;subst e;simpa using HG9.out);have hm:Dp wd ⟨some ⟨g,0,none⟩,gn,some ⟨ug,uo,none⟩,uc,some ⟨g9,0,none⟩,c9⟩ ⟨s.gens,s.used.set j false,s.free++[(j:Int)]⟩:=⟨AJ.of_blk (f:=dH .i64) (fun _=>rfl) HG.out hgb,hu3,hf3,HSM.out.1,by simpa using HSM.out.2.1,by have h1:=HFL.out;simp only [Ag,AW];omega⟩;have t0:=hB.ce 0;have t1:=hB.ce 1;have t2:=hB.ce 2;have c0:=hbr.ce 0;have c1:=hbr.ce 1;have c2:=hbr.ce 2;have f0:=hbr.frozen 0;have f1:=hbr.frozen 1;have f2:=hbr.frozen 2;have HM:=lH hm;have HK3D:=lH hk3d;have HLOW:=lH hlow;have HG9L:Hid (w2.heap.size≤g9):=lH (AP HR9.out g9 Yg);have x1:¬tb=w.heap.size+1+1:=by have:=HGE1.out;omega
   have x2:¬w.heap.size+1+1=tb:=by have:=HGE1.out;omega
   clear hkd hB hk3d hlow hnin hbr hgb hu3 hf3 hm;go_wp2_with (fail);refine bodyPost_ret (v:=.tuple #[dK #[dI (some ⟨g,0,none⟩) gn gn,dI (some ⟨ug,uo,none⟩) un uc,dI (some ⟨g9,0,none⟩) n9 c9],dH dN 0]) (by simp [results,Tryz.results199,go_sem,c0,c1,c2]) rfl ⟨_,by rw [HT.out],?_,?_⟩
   ·rw [HT.out]
    have h5:=HGE1.out;have h7:=HG9L.out;refine⟨_,gn,un,n9,rfl,HG.out,by simpa using HU.out,by simp [HF.out,HN9.out],HM.out.keepsS (S:=[w.heap.size+1+1]) bY ?_ ?_ ?_,?_,?_,?_⟩<;>
    ·intro g' o' e
     injection e with e;injection e with e _;subst e
     try simp only [Ac,Ab,or_false]
     omega
   ·refine(((HKW.out.trans HK2.out).trans HOT.out.kw).own HK3D.out (fun y hy=>?_)).own (S:=[w.heap.size+1+1]) bY (fun y hy=>?_)
    ·have:=HGE1.out
     have:=HLOW.out y hy;omega
    ·simp only [Ac,Ab,or_false] at hy
     omega
theorem T5(v:D3)(s:Ff)(gn un fn:Nat)(hg:s.gens.length=gn)(hu:s.used.length=un)(hf:s.free.length=fn)(x y:Int)(w:World)(h:Dp w v s):
  Calls Tryz.prog 199 #[dK (S_ v gn un fn),dK #[dH dN x,dH dN y]] w fun e w'=>∃r,e = dM (.tuple #[r,dH dN (Cf s (x,y)).2])∧CS w.heap.size w' (Cf s (x,y)).1 r∧Aa [] w w':=by
 cases hb:CA s with
 | false=>exact T6 v s gn un fn hg hu hf x y hb w h
 | true=>
  cases hc:(C6 s).contains (x,y) with
  | false=>exact RH v s gn un fn hg hu hf x y hb (lH hc) w h
  | true=>exact VY v s gn un fn hg hu hf x y hb (lH hc) w h
def Ig(seq:Int)(met:List ByteArray)(h:Int×Int)(t:Ten):Bool:=decide ((t.slot,t.gen)=h)&&(!met.contains t.name&&FE seq t)
theorem LI(seq:Int):∀(A:List (Int×Int)) (X:List Ten) (B:List (Int×Int)) (Y:List Ten) (met:List ByteArray),A.length=X.length→Ck seq met (A++B) (X++Y)=(Ck seq met A X&&Ck seq (met++X.map (·.name)) B Y)
 | [],[],B,Y,met,_=>by simp [Ck]
 | a::A,x::X,B,Y,met,h=>by
  simp only [A6,Ck,Cn];rw [LI seq A X B Y _ bK,CO];simp only [DW];rfl
 | [],_::_,_,_,_,h=>by simp at h
 | _::_,[],_,_,_,h=>by simp at h
theorem MU{seq:Int}{A:List (Int×Int)}{X:List Ten}{k:Nat}{h:Int×Int}{t:Ten}(h1:A[k]? = some h)(h2:X[k]? = some t):Ck seq [] (A.take (k+1)) (X.take (k+1))=(Ck seq [] (A.take k) (X.take k)&&Ig seq ((X.take k).map (·.name)) h t):=by
 have l1:k<A.length:=(Ad.1 h1).1;have l2:k<X.length:=(Ad.1 h2).1;rw [AB h1,AB h2,LI _ _ _ _ _ _ ZU];simp [Ck,Ig,DW]
theorem VE{seq:Int}{A:List (Int×Int)}{X:List Ten}{k:Nat}{h:Int×Int}{t:Ten}(h1:A[k]? = some h)(h2:X[k]? = some t)(hb:Ig seq ((X.take k).map (·.name)) h t=false):Ck seq [] A X=false:=by
 have l1:k<A.length:=(Ad.1 h1).1;have l2:k<X.length:=(Ad.1 h2).1;have h3:=MU (seq:=seq) h1 h2;rw [hb,Bool.and_false] at h3;have:=LI seq (A.take (k+1)) (X.take (k+1)) (A.drop (k+1)) (X.drop (k+1)) [] ZU;rw [Bj,Bj,h3,D4] at this;exact this
theorem Jq{seq:Int}: ∀ {A:List (Int×Int)} {X:List Ten} {met:List ByteArray},Ck seq met A X=true→A.length=X.length
 | [],[],_,_=>rfl
 | a::A,x::X,met,h=>by
  simp only [Ck,Af] at h;have:=Jq h.2;simp [this]
 | [],_::_,_,h=>by simp [Ck] at h
 | _::_,[],_,h=>by simp [Ck] at h
theorem AC.get?{w:World}{V:List TV}{L:List Ten}(h:AC w V L){k:Nat}{u:TV}(hu:V[k]? = some u):∃t,L[k]? = some t∧BU w u t:=by
 obtain⟨h1,rfl⟩:=Ad.1 hu;have h2:k<L.length:=by rw [← h.len];exact h1
 exact⟨L[k],Au h2,h.get k h1 h2⟩
theorem XD(a b x y:Int)(w:World):(binOp .neq 72 (dK #[dH dN a,dH dN x]) (dK #[dH dN b,dH dN y])).run Tryz.prog w = .ok (dL (!decide ((a,x)=(b,y)))) w:=by
 have hS:Tryz.prog.underlying 72=some (.struct (Tryz.prog.fieldsOf 72)):=by kernel_rfl
 have hp:Tryz.prog.stoodInHeld 72=false:=by kernel_rfl
 rw [run_neq_struct,show(10000:Nat)=9999+1 from rfl,run_equalIn_agg w 9999 72 _ _ hS hp];simp only [Program.fieldsOf,Tryz.underlying72];go_simp;by_cases h1:a=b<;>by_cases h2:x=y<;>simp [h1,h2]
theorem G3{α:Type}{B:Nat}{I Ix:List α→World→Prop}{xs:List α}{W2 WX WF:World}{S:List Nat}{a:Act}(hk:Aa [] W2 WX)(hk2:Aa S WX WF)(hB:B+1<W2.heap.size)(h1:B∉S)(h2:B+1∉S)(hx:Ix xs WF):Hm B I Ix xs W2 .ret a WF:=
 ⟨As hk.size hk2.size,fun y hy=>by
  have:=hk.size;simp only [Ac,Ab,or_false] at hy;rcases hy with rfl | rfl
  ·exact(hk2.block _ bB h1).trans (hk.block _ bB bA)
  ·exact(hk2.block _ bB h2).trans (hk.block _ bB bA),hx⟩
theorem EM{α:Type}{B:Nat}{I Ix:List α→World→Prop}{xs:List α}{W2 WX WF:World}{S:List Nat}{a:Act}(hk:Aa [] W2 WX)(hk2:Aa S WX WF)(hB:B+1<W2.heap.size)(h1:B∉S)(h2:B+1∉S)(hx:I xs WF):Hm B I Ix xs W2 .normal a WF:=
 ⟨As hk.size hk2.size,fun y hy=>by
  have:=hk.size;simp only [Ac,Ab,or_false] at hy;rcases hy with rfl | rfl
  ·exact(hk2.block _ bB h1).trans (hk.block _ bB bA)
  ·exact(hk2.block _ bB h2).trans (hk.block _ bB bA),hx⟩
structure Yr(w2:World)(v:Bm)(gn un fn ln:Nat)(seq:Int)(met:List ByteArray)(A:World):Prop where
 mp:Do CZ A w2.heap.size met
 mx:Blk A (w2.heap.size+1) 178 #[.map (some w2.heap.size)]
 pb:Blk A (w2.heap.size+1+1) 29 (R_ v gn un fn ln seq)
 kw:Aa [] w2 A
theorem Yr.keeps{w2:World}{v:Bm}{gn un fn ln:Nat}{seq:Int}{met:List ByteArray}{A A':World}{S:List Nat}(h:Yr w2 v gn un fn ln seq met A)(hk:Aa S A A')(hS:∀y∈S,w2.heap.size+2<y):Yr w2 v gn un fn ln seq met A':=
 have hn:∀y,y≤w2.heap.size+2→y∉S:=fun y hy hm=>by have:=hS y hm;omega
 ⟨h.mp.keeps hk (hn _ bB),h.mx.keeps hk (hn _ bB),h.pb.keeps hk (hn _ bB),h.kw.own hk bM⟩
theorem I3(v:Bm)(r:CE)(gn un fn ln:Nat)(hg:r.slots.gens.length=gn)(hu:r.slots.used.length=un)(hf:r.slots.free.length=fn)(hln:v.lv.length=ln)(seq:Int)(hsq:r.seq=seq)(b:Bool)(hb:G1 r=b)(w:World)(h:Co w v r):
  Calls Tryz.prog 45 #[dK (R_ v gn un fn ln seq)] w fun x w'=>x = dM (dL b)∧Aa [] w w':=by
 subst hsq;obtain⟨seq,hseq⟩:=eX (r.seq);have htn:=fun W=>ET v r gn un fn ln W;rw [hseq] at htn ⊢;obtain⟨wz,hwz⟩:=eX ((w.alloc (.cells (R_ v gn un fn ln seq) 29)).alloc (.cells #[dL false] 4));have HZ:Hid (Aa [] w wz):=lH (by rw [← hwz];exact((Aa.refl [] w).alloc _).alloc _);have HB0:Hid (Blk wz w.heap.size 29 (R_ v gn un fn ln seq)):=lH ZW;have HB1:Hid (Blk wz (w.heap.size+1) 4 #[dL false]):=lH Xe;obtain⟨b1,hb1⟩:=eX (CA r.slots);have HAL:=lH (fun W (hk:Aa [] w W)=>Rc v.s r.slots gn un fn hg hu hf W (h.s.keeps hk));have HSR:=lH (fun W (hk:Aa [] w W)=>Dn v.s r.slots gn un fn hg hu hf b1 hb1 W (h.s.keeps hk));have HM:=lH h;have HLN:=lH hln;have HTN:=lH htn;have HB:=lH hb;have HS1:=lH hb1;have HSQ:=lH hseq;have hl1000:ln≤1000:=by rw [← hln,h.t.len];exact h.sl
 obtain⟨hs,hhs⟩:=eX (C6 r.slots);rw [hhs] at HAL;have HHS:=lH hhs;clear h hg hu hf hln htn hb hb1 hseq hhs;refine(callsIn_wide (n:=9)).1 ?_;refine callsIn_of_wp_marks Tryz.func45 rfl trivial ?_ rfl;simp only [Tryz.ntmps45,Cx,Ao,Eh,Nat.reduceAdd,Nat.reduceSub,Bc,Bd,By,B0,AX,A6];have p0:=HB0.out.ce 0;have p1:=HB0.out.ce 1;have p2:=HB0.out.ce 2;gi_wp2_with (fail);clear hwz p0 p1 p2;refine⟨trivial,(callsIn_wide.2 (HAL.out wz HZ.out)).mono ?_⟩;rintro e w1 ⟨a,c,rfl,hsl,hk1⟩;obtain⟨wa,hwa⟩:=eX (w1.alloc (.cells #[dI a hs.length c] 83));have hka:Aa [] wz wa:=by rw [← hwa];exact hk1.alloc _
 have HA0:=lH (HB0.out.keeps hka bA);have HA1:=lH (HB1.out.keeps hka bA);have HA3:Hid (Blk wa w1.heap.size 83 #[dI a hs.length c]):=lH (by rw [← hwa];exact Blk.new w1 _ _);have HSL:Hid (AJ Ov 2 wa a c hs):=lH (hsl.keeps (by rw [← hwa];exact(Aa.refl [] w1).alloc _));have HKA:=lH (HZ.out.trans hka);have p0:=HA0.out.ce 0;have p1:=HA0.out.ce 1;have p2:=HA0.out.ce 2;clear hsl hk1 hka;gi_wp2_with (fail);clear hwa p0 p1 p2;refine⟨trivial,(callsIn_wide.2 (HSR.out wa HKA.out)).mono ?_⟩;rintro e w2 ⟨rfl,hk2⟩;have HR0:=lH (HA0.out.keeps hk2 bA);have HR1:=lH (HA1.out.keeps hk2 bA);have HR3:=lH (HA3.out.keeps hk2 bA);have HSL2:=lH (HSL.out.keeps hk2);have HK2:=lH (HKA.out.trans hk2);clear hk2;have c0:=HR1.out.ce 0;have f0:=HR1.out.frozen 0;have r0:=HR0.out.ce 0;have r1:=HR0.out.ce 1;have r2:=HR0.out.ce 2;have r3:=HR0.out.ce 3;have r4:=HR0.out.ce 4;have s0:=HR3.out.ce 0;have HFALSE:Hid (b=false→∀K:Prop,True):=lH (fun _ _=>trivial);have hkF:Aa [w.heap.size+1] w2 (w2.setCell ⟨w.heap.size+1,0,none⟩ (dL false)):=Ae _ _ _ _;have HKF:Hid (Aa [] w (w2.setCell ⟨w.heap.size+1,0,none⟩ (dL false))):=lH (HK2.out.own hkF bF);clear hkF HFALSE;have hgood:b1=true∧0≤seq∧seq≤1000000000000∧hs.length=ln∨b=false:=by
  by_cases hx:b1=true∧0≤seq∧seq≤1000000000000∧hs.length=ln
  ·exact .inl hx
  ·refine .inr ?_
   cases hbb:b with
   | false=>rfl
   | true=>
    exfalso;have h1:=HB.out;rw [hbb] at h1;unfold G1 at h1;rw [HS1.out,HSQ.out,HHS.out] at h1;simp only [Af,decide_eq_true_eq] at h1;exact hx ⟨h1.1.1.1,h1.1.1.2,h1.1.2,by rw [Jq h1.2,← HM.out.t.len,HLN.out]⟩
 have HGD:=lH hgood;clear hgood;cases b1 with
 | false=>
  obtain rfl:b=false:=HGD.out.resolve_left bA;gi_wp2_with (fail);exact⟨dL false,by simp [results,Tryz.results45,go_sem,c0],rfl,HKF.out⟩
 | true=>
  by_cases h1:seq<0
  ·obtain rfl:b=false:=HGD.out.resolve_left bB
   gi_wp2_with (fail);exact⟨dL false,by simp [results,Tryz.results45,go_sem,c0],rfl,HKF.out⟩
  ·by_cases h2:1000000000000<seq
   ·obtain rfl:b=false:=HGD.out.resolve_left bB
    gi_wp2_with (fail);exact⟨dL false,by simp [results,Tryz.results45,go_sem,c0],rfl,HKF.out⟩
   ·by_cases h3:hs.length=ln
    rotate_left
    ·obtain rfl:b=false:=HGD.out.resolve_left bB
     have f3:((hs.length:Int) != (ln:Int))=true:=by simp;omega
     gi_wp2_with (fail);exact⟨dL false,by simp [results,Tryz.results45,go_sem,c0],rfl,HKF.out⟩
    ·have f3:((hs.length:Int) != (ln:Int))=false:=by simp;omega
     have hmk:=fun W=>run_makeMap (P:=Tryz.prog) 178 W;have HLH:=lH h3;clear h3;have hkm:Aa [] w2 ((w2.alloc (.map #[] 0)).alloc (.cells #[.map (some w2.heap.size)] 178)):=((Aa.refl [] w2).alloc _).alloc _;have hbm:=HR0.out.keeps hkm bA;have t0:=hbm.ce 0;have t1:=hbm.ce 1;have t2:=hbm.ce 2;have t3:=hbm.ce 3;have t4:=hbm.ce 4;clear hbm hkm;gi_wp2_with (fail);refine⟨trivial,(callsIn_wide.2 (HTN.out _)).mono ?_⟩;rintro e w3 ⟨rfl,hw3⟩;clear t0 t1 t2 t3 t4 r0 r1 r2 r3 r4 s0;gi_wp2_with (fail);have hsz:w3.heap.size=w2.heap.size+3:=by rw [← hw3];simp
     have hI0:Yr w2 v gn un fn ln seq [] w3:=by
      have hk:Aa [] w2 w3:=by rw [← hw3];exact(((Aa.refl [] w2).alloc _).alloc _).alloc _
      refine⟨?_,?_,?_,hk⟩<;>rw [← hw3]
      ·exact((Do.new w2).keeps ((Aa.refl [] _).alloc _) bA).keeps ((Aa.refl [] _).alloc _) bA
      ·exact(Aq _ _ _ _ bA).alloc _
      ·exact Aq _ _ _ _ bA
     have HI0:=lH hI0;clear hI0 hw3;have hw12:w.heap.size+1<w2.heap.size:=HR1.out.lt;have hgd0:Tryz.prog.eqGuardType Tryz.prog.depth 72=false:=by kernel_rfl
     refine Bx rfl bB (gf:=101) (lb:=#[dJ (some ⟨w2.heap.size+1+1,0,none⟩)]) rfl trivial (enters_of Tryz.func101 bC rfl) (EU 8 (w2.heap.size+1+1) v.la v.lc ln v.lv HLN.out hl1000 seq) (fun _=>rfl)
      (fun pre A=>Ck seq [] (hs.take pre.length) (r.l.take pre.length)=true∧Yr w2 v gn un fn ln seq ((r.l.take pre.length).map (·.name)) A) (fun _ A=>Ck seq [] hs r.l=false∧Blk A (w.heap.size+1) 4 #[dL false]∧Aa [] w A)
      (fun pre A A' h hk=>⟨h.1,h.2.keeps hk bF⟩)
      (fun pre A A' h hk=>⟨h.1,h.2.1.keeps hk (by have:=HR1.out.lt;simp only [Ac,Ab,or_false];omega),h.2.2.own hk ZI⟩)
      (fun pre A h=>⟨h.2.pb.cell 3,h.2.pb.cell 4,HM.out.l.keeps (HK2.out.trans h.2.kw)⟩) ⟨rfl,HI0.out⟩
      (fun k W=>(fun u:TV=>(({ tmps:=#[dK (R_ v gn un fn ln seq),dJ (some ⟨w,0,none⟩),dJ (some ⟨w.heap.size+1,0,none⟩),dJ (some ⟨w1,0,none⟩),dJ (some ⟨w2.heap.size+1,0,none⟩),dH dN (k:Int),dJ (some ⟨W,0,none⟩),dJ (some ⟨w,0,none⟩),dK (S_ v.s gn un fn),dI a hs.length c,dJ (some ⟨w,0,none⟩),dK (S_ v.s gn un fn),dL true,dL false,dL false,dJ (some ⟨w,4,none⟩),dH dN seq,dL (decide (seq<0)),dL (decide (seq<0)),dL (decide (seq<0)),dJ (some ⟨w,4,none⟩),dH dN seq,dL (decide (1000000000000<seq)),dL (decide (seq<0)||decide (1000000000000<seq)),dL (decide (seq<0)||decide (1000000000000<seq)),dI a hs.length c,dH dN (hs.length:Int),dJ (some ⟨w,3,none⟩),dI v.la ln v.lc,dH dN (ln:Int),dL false,dL (decide (seq<0)||decide (1000000000000<seq)),.map (some w2.heap.size),dK (R_ v gn un fn ln seq),.func (.func 101) #[] #[dJ (some ⟨w2.heap.size+1+1,0,none⟩)],dH dN (k:Int),dK (U_ u seq),undef,undef,undef,undef,undef,undef,undef,undef,undef,undef,undef,undef,undef,undef,undef,undef,undef,undef,undef,undef,undef,undef,undef,undef,undef],defers:=[] } : Act),W.alloc (.cells (U_ u seq) 126))) (v.lv.getD k tv0))
      (fun k W=>(Aa.refl [] W).alloc _) ?assign ?body ?done ?stop
     case assign=>
      intro l k W K hK;simp only [JV];dsimp only at hK;generalize v.lv.getD k tv0=u at hK ⊢;gi_wp2;exact hK
     case body=>
      rintro l pre k W W2 ⟨hN,hI⟩ hpre hsz2 hk2;obtain⟨rfl,hkn⟩:=DN hpre;obtain⟨u,hu⟩:∃u,v.lv[k]? = some u:=⟨_,Au Yf⟩;have hgd:v.lv.getD k tv0=u:=by rw [AE,hu];rfl
      dsimp only at hk2 ⊢;rw [hgd] at hk2 ⊢;rw [A8] at hN hI;obtain⟨t,ht,htm⟩:=HM.out.t.get? hu;obtain⟨g1,o1,⟨hx,hy⟩,rfl,hg1,hx1,hat1⟩:=HSL2.out.at_k (k:=k) (by rw [HLH.out];exact hkn);have hszW:W.heap.size≤W2.heap.size:=by have:=hk2.size;rw [World.size_alloc] at this;omega
      have hI2:=(hI.keeps ((Aa.refl [] W).alloc (.cells (U_ u seq) 126)) bA).keeps hk2 bF;have hb:=(Blk.new W 126 (U_ u seq)).keeps hk2 bI;have d0:=hb.ce 0;have d1:=hb.ce 1;have d2:=hb.ce 2;have d3:=hb.ce 3;have d4:=hb.ce 4;have d5:=hb.ce 5;have d6:=hb.ce 6;have d7:=hb.ce 7;have d8:=hb.ce 8;have s0:=(HR3.out.keeps hI2.kw bA).ce 0;have m0:=hI2.mx.ce 0;have hres:=HR1.out.keeps hI2.kw bA;have q0:=hres.ce 0;have qf:=hres.frozen 0;have z0:=(hI2.kw.cell (p:=⟨g1,o1+k*2+0,none⟩) hg1 bA).trans (hat1 0 _ rfl);have z1:=(hI2.kw.cell (p:=⟨g1,o1+k*2+1,none⟩) hg1 bA).trans (hat1 1 _ rfl);rw [CG] at z0;have i1:(0:Int)≤(k:Int):=by omega
      have i2:(k:Int)<(hs.length:Int):=by rw [HLH.out];omega
      have hlk:=QP hI2.mp u.name;obtain⟨y1,hy1⟩:=eX (decide ((u.slot,u.gen)=(hx,hy)));obtain⟨y2,hy2⟩:=eX (decide (u.name∈(r.l.take k).map (·.name)));obtain⟨y3,hy3⟩:=eX (FE seq t);have hne:=fun W=>XD u.slot hx u.gen hy W;rw [hy1] at hne;rw [hy2] at hlk;have HST:Hid (Ig seq ((r.l.take k).map (·.name)) (hx,hy) t=(y1&&(!y2&&y3))):=lH (by
       unfold Ig;rw [← htm.slot,← htm.gen,hy1,← htm.name,List.contains_eq_mem,hy2,hy3])
      have HTI:=lH (fun W3 (hk:Aa [] w W3) fb ty hf=>QU u t seq (HM.out.small t (Ex ht)) fb ty y3 hy3 W3 (htm.keeps hk) hf);have HI2:=lH hI2;have HN:=lH hN;have HX1:=lH hx1;have HTT:=lH ht;have HY2:=lH hy2;have HNM:=lH htm.name;have hres0:=hres;clear hI hpre hk2 hI2 hb hgd hu hN hat1 hx1 ht htm hres hg1 hy1 hy2 hy3;have HSS:Hid (∀w':World,Aa [] W2 w'→(Aa [] W2 w'∧w'.cell? ⟨W,0,none⟩=some (dH dN u.slot)∧w'.cell? ⟨W,1,none⟩=some (dH dN u.gen)∧w'.cell? ⟨W,2,none⟩=some (CZ u.name)∧w'.cell? ⟨W,3,none⟩=some (dH dN u.state)∧w'.cell? ⟨W,4,none⟩=some (dH dN u.version)∧w'.cell? ⟨W,5,none⟩=some (dI u.ra u.rl u.rc)∧w'.cell? ⟨W,6,none⟩=some (dI u.ca u.cl u.cc)∧w'.cell? ⟨W,7,none⟩=some (dH dN u.deadline)∧w'.cell? ⟨W,8,none⟩=some (dH dN seq)∧w'.cell? ⟨w1,0,none⟩=some (dI (some ⟨g1,o1,none⟩) hs.length c)∧w'.cell? ⟨w2.heap.size+1,0,none⟩=some (.map (some w2.heap.size))∧w'.cell? ⟨g1,o1+k*2,none⟩=some (dH dN hx)∧w'.cell? ⟨g1,o1+k*2+1,none⟩=some (dH dN hy)∧(Dx 178 (.map (some w2.heap.size)) (CZ u.name) false).run Tryz.prog w' = .ok (dL y2) w'∧w'.cell? ⟨w.heap.size+1,0,none⟩=some (dL false)∧w'.frozen? ⟨w.heap.size+1,0,none⟩=false)):=lH fun w' hk=>⟨hk,(hk.cellsV _ _ d0),(hk.cellsV _ _ d1),(hk.cellsV _ _ d2),(hk.cellsV _ _ d3),(hk.cellsV _ _ d4),(hk.cellsV _ _ d5),(hk.cellsV _ _ d6),(hk.cellsV _ _ d7),(hk.cellsV _ _ d8),(hk.cellsV _ _ s0),(hk.cellsV _ _ m0),(hk.cellsV _ _ z0),(hk.cellsV _ _ z1),by rw [← HY2.out];exact QP (HI2.out.mp.keeps hk bA) u.name,hk.cellsV _ _ q0,(hres0.keeps hk bA).frozen 0⟩;have HRES:=lH hres0;have HBAD:Hid (Ig seq ((r.l.take k).map (·.name)) (hx,hy) t=false→Ck seq [] hs r.l=false):=lH (fun h=>VE HX1.out HTT.out h);have hBW:w3.heap.size+1<W2.heap.size:=by omega
      clear d0 d1 d2 d3 d4 d5 d6 d7 d8 s0 m0 z0 z1 hlk q0 qf hres0;cases y1 with
      | false=>
       simp only [Bool.not_false] at hne;have HBD:Hid (Ck seq [] hs r.l=false):=lH (HBAD.out YE);gi_wp2;refine Be (S:=(fun w':World=>Aa [] W2 w'∧w'.cell? ⟨W,0,none⟩=some (dH dN u.slot)∧w'.cell? ⟨W,1,none⟩=some (dH dN u.gen)∧w'.cell? ⟨W,2,none⟩=some (CZ u.name)∧w'.cell? ⟨W,3,none⟩=some (dH dN u.state)∧w'.cell? ⟨W,4,none⟩=some (dH dN u.version)∧w'.cell? ⟨W,5,none⟩=some (dI u.ra u.rl u.rc)∧w'.cell? ⟨W,6,none⟩=some (dI u.ca u.cl u.cc)∧w'.cell? ⟨W,7,none⟩=some (dH dN u.deadline)∧w'.cell? ⟨W,8,none⟩=some (dH dN seq)∧w'.cell? ⟨w1,0,none⟩=some (dI (some ⟨g1,o1,none⟩) hs.length c)∧w'.cell? ⟨w2.heap.size+1,0,none⟩=some (.map (some w2.heap.size))∧w'.cell? ⟨g1,o1+k*2,none⟩=some (dH dN hx)∧w'.cell? ⟨g1,o1+k*2+1,none⟩=some (dH dN hy)∧(Dx 178 (.map (some w2.heap.size)) (CZ u.name) false).run Tryz.prog w' = .ok (dL y2) w'∧w'.cell? ⟨w.heap.size+1,0,none⟩=some (dL false)∧w'.frozen? ⟨w.heap.size+1,0,none⟩=false)) bC bC (fun _ _ h=>h) bQ (fun hHeld=>?_);refine rQ 0 ?_;refine rQ 1 ?_;refine rQ 2 ?_;refine rQ 3 ?_;refine rQ 4 ?_;refine rQ 5 ?_;refine rQ 6 ?_;refine rQ 7 ?_;refine rQ 8 ?_;refine rN 9 ?_;refine rN 10 ?_;refine rN 11 ?_;refine rN 12 ?_;refine rN 13 ?_;refine rQ 14 ?_;refine rQ 15 ?_;refine rN 16 ?_;refine rN 17 ?_;refine rN 18 ?_;refine rN 19 ?_;refine rQ 20 ?_;refine wpAnyH_done bC ?_ _
       (gi_wp2;exact G3 (S:=[w.heap.size+1]) hHeld.1 (Ae _ (w.heap.size+1) 0 (dL false)) bB bI bI ⟨HBD.out,(HRES.out.keeps hHeld.1 bA).set_ 0 (dL false),((HK2.out.trans HI2.out.kw).trans hHeld.1).own (Ae _ (w.heap.size+1) 0 (dL false)) bF⟩)
      | true=>
       simp only [Bool.not_true] at hne;cases y2 with
       | true=>
        have HBD:Hid (Ck seq [] hs r.l=false):=lH (HBAD.out YE);gi_wp2;refine Be (S:=(fun w':World=>Aa [] W2 w'∧w'.cell? ⟨W,0,none⟩=some (dH dN u.slot)∧w'.cell? ⟨W,1,none⟩=some (dH dN u.gen)∧w'.cell? ⟨W,2,none⟩=some (CZ u.name)∧w'.cell? ⟨W,3,none⟩=some (dH dN u.state)∧w'.cell? ⟨W,4,none⟩=some (dH dN u.version)∧w'.cell? ⟨W,5,none⟩=some (dI u.ra u.rl u.rc)∧w'.cell? ⟨W,6,none⟩=some (dI u.ca u.cl u.cc)∧w'.cell? ⟨W,7,none⟩=some (dH dN u.deadline)∧w'.cell? ⟨W,8,none⟩=some (dH dN seq)∧w'.cell? ⟨w1,0,none⟩=some (dI (some ⟨g1,o1,none⟩) hs.length c)∧w'.cell? ⟨w2.heap.size+1,0,none⟩=some (.map (some w2.heap.size))∧w'.cell? ⟨g1,o1+k*2,none⟩=some (dH dN hx)∧w'.cell? ⟨g1,o1+k*2+1,none⟩=some (dH dN hy)∧(Dx 178 (.map (some w2.heap.size)) (CZ u.name) false).run Tryz.prog w' = .ok (dL true) w'∧w'.cell? ⟨w.heap.size+1,0,none⟩=some (dL false)∧w'.frozen? ⟨w.heap.size+1,0,none⟩=false)) bC bC (fun _ _ h=>h) bQ (fun hHeld=>?_);refine rQ 0 ?_;refine rQ 1 ?_;refine rQ 2 ?_;refine rQ 3 ?_;refine rQ 4 ?_;refine rQ 5 ?_;refine rQ 6 ?_;refine rQ 7 ?_;refine rQ 8 ?_;refine rQ 9 ?_;refine rQ 10 ?_;refine rQ 11 ?_;refine rQ 12 ?_;refine rC 13 fun K hK=>?_;go_simp;refine rO hK bQ fun hHeld=>?_;clear hK K;refine rQ 14 ?_;refine rQ 15 ?_;refine rN 16 ?_;refine rN 17 ?_;refine rN 18 ?_;refine rN 19 ?_;refine rQ 20 ?_;refine wpAnyH_done bC ?_ _
        (gi_wp2;exact G3 (S:=[w.heap.size+1]) hHeld.1 (Ae _ (w.heap.size+1) 0 (dL false)) bB bI bI ⟨HBD.out,(HRES.out.keeps hHeld.1 bA).set_ 0 (dL false),((HK2.out.trans HI2.out.kw).trans hHeld.1).own (Ae _ (w.heap.size+1) 0 (dL false)) bF⟩)
       | false=>
        cases y3 with
        | false=>
         have HBD:Hid (Ck seq [] hs r.l=false):=lH (HBAD.out YE);gi_wp2;refine Be (S:=(fun w':World=>Aa [] W2 w'∧w'.cell? ⟨W,0,none⟩=some (dH dN u.slot)∧w'.cell? ⟨W,1,none⟩=some (dH dN u.gen)∧w'.cell? ⟨W,2,none⟩=some (CZ u.name)∧w'.cell? ⟨W,3,none⟩=some (dH dN u.state)∧w'.cell? ⟨W,4,none⟩=some (dH dN u.version)∧w'.cell? ⟨W,5,none⟩=some (dI u.ra u.rl u.rc)∧w'.cell? ⟨W,6,none⟩=some (dI u.ca u.cl u.cc)∧w'.cell? ⟨W,7,none⟩=some (dH dN u.deadline)∧w'.cell? ⟨W,8,none⟩=some (dH dN seq)∧w'.cell? ⟨w1,0,none⟩=some (dI (some ⟨g1,o1,none⟩) hs.length c)∧w'.cell? ⟨w2.heap.size+1,0,none⟩=some (.map (some w2.heap.size))∧w'.cell? ⟨g1,o1+k*2,none⟩=some (dH dN hx)∧w'.cell? ⟨g1,o1+k*2+1,none⟩=some (dH dN hy)∧(Dx 178 (.map (some w2.heap.size)) (CZ u.name) false).run Tryz.prog w' = .ok (dL false) w'∧w'.cell? ⟨w.heap.size+1,0,none⟩=some (dL false)∧w'.frozen? ⟨w.heap.size+1,0,none⟩=false)) bC bC (fun _ _ h=>h) bQ (fun hHeld=>?_);refine rQ 0 ?_;refine rQ 1 ?_;refine rQ 2 ?_;refine rQ 3 ?_;refine rQ 4 ?_;refine rQ 5 ?_;refine rQ 6 ?_;refine rQ 7 ?_;refine rQ 8 ?_;refine rQ 9 ?_;refine rQ 10 ?_;refine rQ 11 ?_;refine rQ 12 ?_;refine rC 13 fun K hK=>?_;go_simp;refine rO hK bQ fun hHeld=>?_;clear hK K;refine rQ 14 ?_;refine rQ 15 ?_;refine rQ 16 ?_;refine rC 17 fun K hK=>?_;go_simp;refine rO hK bQ fun hHeld=>?_;clear hK K;refine rC 18 fun K hK=>?_;go_simp
         (refine(HTI.out _ ((HK2.out.trans HI2.out.kw).trans hHeld.1) _ 186 (by first | exact Blk.new _ _ _ | exact(Blk.new _ _ _).drew)).mono ?_;rintro e5 w5 ⟨rfl,hk5⟩)
         refine rO hK bQ fun hHeld=>?_;clear hK K;refine rQ 19 ?_;refine rQ 20 ?_;refine wpAnyH_done bC ?_ _
         (gi_wp2;exact G3 (S:=[w.heap.size+1]) hHeld.1 (Ae _ (w.heap.size+1) 0 (dL false)) bB bI bI ⟨HBD.out,(HRES.out.keeps hHeld.1 bA).set_ 0 (dL false),((HK2.out.trans HI2.out.kw).trans hHeld.1).own (Ae _ (w.heap.size+1) 0 (dL false)) bF⟩)
        | true=>
         have HTN2:Hid (Ck seq [] (hs.take (A0 k++[k]).length) (r.l.take (A0 k++[k]).length)=true):=lH (by rw [Ag,A8,AW,MU HX1.out HTT.out,HN.out,HST.out];rfl);have HMET:Hid ((r.l.take (A0 k++[k]).length).map (·.name)=(r.l.take k).map (·.name)++[u.name]):=lH (by rw [Ag,A8,AW,AB HTT.out,List.map_append,HNM.out];rfl);gi_wp2;refine Be (S:=(fun w':World=>Aa [] W2 w'∧w'.cell? ⟨W,0,none⟩=some (dH dN u.slot)∧w'.cell? ⟨W,1,none⟩=some (dH dN u.gen)∧w'.cell? ⟨W,2,none⟩=some (CZ u.name)∧w'.cell? ⟨W,3,none⟩=some (dH dN u.state)∧w'.cell? ⟨W,4,none⟩=some (dH dN u.version)∧w'.cell? ⟨W,5,none⟩=some (dI u.ra u.rl u.rc)∧w'.cell? ⟨W,6,none⟩=some (dI u.ca u.cl u.cc)∧w'.cell? ⟨W,7,none⟩=some (dH dN u.deadline)∧w'.cell? ⟨W,8,none⟩=some (dH dN seq)∧w'.cell? ⟨w1,0,none⟩=some (dI (some ⟨g1,o1,none⟩) hs.length c)∧w'.cell? ⟨w2.heap.size+1,0,none⟩=some (.map (some w2.heap.size))∧w'.cell? ⟨g1,o1+k*2,none⟩=some (dH dN hx)∧w'.cell? ⟨g1,o1+k*2+1,none⟩=some (dH dN hy)∧(Dx 178 (.map (some w2.heap.size)) (CZ u.name) false).run Tryz.prog w' = .ok (dL false) w'∧w'.cell? ⟨w.heap.size+1,0,none⟩=some (dL false)∧w'.frozen? ⟨w.heap.size+1,0,none⟩=false)) bC bC (fun _ _ h=>h) bQ (fun hHeld=>?_);refine rQ 0 ?_;refine rQ 1 ?_;refine rQ 2 ?_;refine rQ 3 ?_;refine rQ 4 ?_;refine rQ 5 ?_;refine rQ 6 ?_;refine rQ 7 ?_;refine rQ 8 ?_;refine rQ 9 ?_;refine rQ 10 ?_;refine rQ 11 ?_;refine rQ 12 ?_;refine rC 13 fun K hK=>?_;go_simp;refine rO hK bQ fun hHeld=>?_;clear hK K;refine rQ 14 ?_;refine rQ 15 ?_;refine rQ 16 ?_;refine rC 17 fun K hK=>?_;go_simp;refine rO hK bQ fun hHeld=>?_;clear hK K;refine rC 18 fun K hK=>?_;go_simp
         (refine(HTI.out _ ((HK2.out.trans HI2.out.kw).trans hHeld.1) _ 186 (by first | exact Blk.new _ _ _ | exact(Blk.new _ _ _).drew)).mono ?_;rintro e5 w5 ⟨rfl,hk5⟩)
         refine rO hK bQ fun hHeld=>?_;clear hK K;refine rQ 19 ?_;refine rQ 20 ?_;refine wpAnyH_done bC ?_ _
         (obtain⟨o,hup,hset2⟩:=R6 (HI2.out.mp.keeps hHeld.1 bA) u.name (of_decide_eq_false HY2.out);gi_wp2;exact EM (S:=[w2.heap.size]) hHeld.1 (Dw _ w2.heap.size o) bB bI bI ⟨HTN2.out,by(rw [HMET.out];exact⟨hset2,(HI2.out.mx.keeps hHeld.1 bA).keeps (Dw _ w2.heap.size o) bA,(HI2.out.pb.keeps hHeld.1 bA).keeps (Dw _ w2.heap.size o) bG,(HI2.out.kw.trans hHeld.1).own (Dw _ w2.heap.size o) bF⟩)⟩)
     case done=>
      rintro W ⟨hN,hI⟩ hsz2 hK;rw [A8] at hN;have hbt:b=true:=by
       rw [← HB.out];unfold G1;rw [HS1.out,HSQ.out,HHS.out];rw [Ax (by rw [HLH.out];exact Ap _),Ax (by rw [← HM.out.t.len,HLN.out];exact Ap _)] at hN;rw [hN,decide_eq_true bB,decide_eq_true bB];rfl
      subst hbt;have hres:=HR1.out.keeps hI.kw bA;have q0:=hres.ce 0;have qf:=hres.frozen 0;have HI:=lH hI;have HRES:=lH hres;clear hI hN hres;gi_wp2;have hk3:=Ae W (w.heap.size+1) 0 (dL true);have hK1:(W.setCell ⟨w.heap.size+1,0,none⟩ (dL true)).heap[w3.heap.size]? = some (.deferred (some [])):=(hk3.block _ bB bI).trans hK;refine⟨by simp,.inl ⟨_,_,rfl,run_takeDeferred hK1,?_⟩⟩;have hk4:=Az (S:=[w3.heap.size]) (W.setCell ⟨w.heap.size+1,0,none⟩ (dL true)) (.deferred none) (l:=w3.heap.size) bA;have d2:Blk (W.setCell ⟨w.heap.size+1,0,none⟩ (dL true)) (w.heap.size+1) 4 #[dL true]:=by simpa using HRES.out.set_ 0 (dL true)
      have e2:=(d2.keeps hk4 bG).ce 0;exact⟨dL true,by simp [results,Tryz.results45,go_sem,e2],rfl,(((HK2.out.trans HI.out.kw).own hk3 bF).own hk4 ZI)⟩
     case stop=>
      rintro pre W hpre ⟨hbad,hres,hkw⟩ hsz2 hK;have hbf:b=false:=by
       rw [← HB.out];unfold G1;rw [HS1.out,HSQ.out,HHS.out,hbad,Bool.and_false]
      subst hbf;have HRES:=lH hres;have HKW:=lH hkw;have HSZ:=lH hsz;clear hbad hres hkw hsz;gi_wp2;have hsz:=HSZ.out;refine⟨by simp,.inl ⟨_,_,rfl,run_takeDeferred hK,?_⟩⟩;have hk4:=Az (S:=[w3.heap.size]) W (.deferred none) (l:=w3.heap.size) bA;have e2:=(HRES.out.keeps hk4 bG).ce 0;exact⟨dL false,by simp [results,Tryz.results45,go_sem,e2],rfl,HKW.out.own hk4 ZI⟩
end
end Go.Proofs.YtcjdkbgdahgjbaaGreatDoor
