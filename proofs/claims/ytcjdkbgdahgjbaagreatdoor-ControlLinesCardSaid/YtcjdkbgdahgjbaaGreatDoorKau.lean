/- Steps of the proof: SnapM, SnapN. -/
import Derived.Test.YtcjdkbgdahgjbaaGreatDoorK0
import Derived.Test.YtcjdkbgdahgjbaaGreatDoorKak
import Derived.Test.YtcjdkbgdahgjbaaGreatDoorKat
import Derived.Deep.DeepCutAuto
set_option maxRecDepth 100000
set_option maxHeartbeats 8000000
set_option linter.all false
namespace Go.Proofs.YtcjdkbgdahgjbaaGreatDoor
open _root_.And renaming intro→AZ
open _root_.Array renaming replicate_succ→Bc,replicate_zero→Bd
open _root_.Bool renaming and_eq_true→Af
open Ending renaming returned→dM
open Instr renaming slice→AG
open IntKind renaming i64→dN
open _root_.List renaming append_toArray→B0,cons_append→A6,getElem?_eq_some_iff→Ad,length_append→Ag,length_cons→Ao,length_drop→Bi,length_nil→Eh,length_singleton→AW,length_take→A7,mem_append→AF,mem_singleton→Am,nil_append→AX,push_toArray→By,size_toArray→Cx,take_append_drop→Bj,take_of_length_le→Ax
open _root_.Nat renaming le_refl→Ap,le_trans→As
open Value renaming agg→dK,bool→dL,int→dH,pointer→dJ,slice→dI
open World renaming block_lt_of_cell?→A4,cell?_of_block→Cq
section
open Go.RowKit Go.Shelf
attribute [local go_sem ↓] Go.wp_at_zero Go.wp_at_succ
theorem Mc{α:Type}(p:α→Bool)(l:List α):(l.filter p).length≤l.length:=List.length_filter_le p l
theorem BF.keepsS{S:List Nat}{w w':World}{a:Option Addr}{c:Nat}{V:List SV}{p:Po}(h:BF w a c V p)(hk:Aa S w w')(hS:∀k∈S,∃cs,Blk w k 32 cs∧32≠9∧32≠43):BF w' a c V p:=by
 have key:∀k∈S,∀(cs:Array Value) (t:TypeId) (fz:Nat×Nat),w.heap[k]? = some (Obj.cells cs t fz)→t=32:=fun k hk cs t fz h=>by
  obtain⟨cs',hb,_⟩:=hS k hk;have hb':w.heap[k]? = some (Obj.cells cs' 32 (0,0)):=hb;rw [hb'] at h;injection h with h
  injection h with _ h3 _
  exact h3.symm
 exact⟨h.le,h.small,h.row.keepsS hk (fun k hm cs fz hb=>by
  obtain⟨_,_,_,hne⟩:=hS k hm;exact hne (key k hm cs _ fz hb).symm),h.mt.keepsS hk (fun k hm cs fz hb=>by
  obtain⟨_,_,hne,_⟩:=hS k hm;exact hne (key k hm cs _ fz hb).symm)⟩
theorem R3{w A A9:World}{B:Nat}{v9:Value}{F2:List SV}{L:List Sn}{x now:Int}{a5:Option Addr}{c5 m:Nat}{xs:List ByteArray}{a:Option Addr}{n c:Nat}
 (hs:Dy A9 B v9 (F2++[⟨x,a5,m,c5,now⟩]))(hk:Dq B A A9)(hM:Mt A F2 L)(hS:BR A a5 c5 xs)(hm:xs.length=m)(hl:F2.length≤1000)(hw:Aa [] w A)
 (h0:Blk A w.heap.size 32 #[dI a n c,dH dN x])(h2:Blk A (w.heap.size+1+1) 32 #[dI none 0 0,dH dN 0])(hz:w.heap.size+1+1<B)(_:B≤A.heap.size)(hfv:∀z∈F2,PB w.heap.size z)(hf5:Fr w.heap.size a5 m):
  ∃a9 k9 c9 V9,v9 = dI a9 k9 c9∧Hid (V9.length=k9)∧Hid (BF A9 a9 c9 V9 ⟨L++[⟨x,xs,now⟩],x+1⟩)∧Hid (Aa [] w A9)∧Hid (Blk A9 w.heap.size 32 #[dI a n c,dH dN x])∧Hid (Blk A9 (w.heap.size+1+1) 32 #[dI none 0 0,dH dN 0])∧Hid (∀z∈V9,PB w.heap.size z):=by
 obtain⟨a9,c9,rfl,hc9,hr9⟩:=hs.row;refine⟨a9,_,c9,_,rfl,lH rfl,lH ⟨hc9,by rw [Ag,AW];omega,hr9,?_⟩,lH (Aa.of_below ((hw.below (Ap _) bA).trans (hk.low.mono bB)) []),lH ((hk.low.block _ bB).trans h0),lH ((hk.low.block _ hz).trans h2),lH (fun z hzz=>by
  rcases AF.1 hzz with hzz | hzz
  ·exact hfv z hzz
  ·obtain rfl:=Am.1 hzz
   exact hf5)⟩
 exact(hM.strK hk).app ⟨⟨rfl,rfl,hm.symm,hS.strK hk⟩,trivial⟩
theorem WC(a:Option Addr)(c:Nat)(V:List SV)(p:Po)(n:Nat)(hn:V.length=n)(ia:Option Addr)(ic m:Nat)(xs:List ByteArray)(hm:xs.length=m)(now:Int)(w:World)(hP:BF w a c V p)(hI:BR w ia ic xs)(e:Nat→Addr)(he:Kn w e)
 (hy:Cr p now=true)(hz:Dl xs=true)(hx:p.next<1000000000000):
  Calls Tryz.prog 238 #[dK #[dI a n c,dH dN p.next],dI ia m ic,dH dN now] w (Re w ⟨N9 p.l now++[⟨p.next,xs,now⟩],p.next+1⟩ p.next 0):=by
 have hsml:=Gt hy;obtain⟨htk,hnow,hnow0⟩:=JN hy;obtain⟨x,hxx⟩:=eX (p.next);have hn3:n≤3:=by rw [← hn,hP.mt.len];exact hsml.1
 have hx1:1≤x:=by rw [← hxx];exact hsml.2.1
 have hcc:=fun W (hk:Aa [] w W)=>J6 a c V p n hn now W (hP.keeps hk) e (he.keep hk) true hy;have hci:=fun W (hk:Aa [] w W)=>Fl ia ic xs true hz W (hI.at_.keeps hk) hI.small hI.size;have hco:=fun W (hk:Aa [] w W)=>UR a c V p.l n hn bB W (hP.row.keeps hk) (hP.mt.keeps hk);rw [hm] at hci;rw [hxx] at hcc hx ⊢;have hx2:¬(1000000000000:Int)≤x:=by omega
 have HCC:=lH hcc;have HCI:=lH hci;have HCO:=lH hco;have HI:=lH hI;have HM:=lH hm;have HT:=lH htk;have HNO:=lH hnow;have HLN:Hid (p.l.length=n):=lH (by rw [← hn,hP.mt.len]);have HB0:=lH ((((Blk.new w 32 #[dI a n c,dH dN x]).alloc (.cells #[dH dN now] 3)).alloc (.cells #[dI none 0 0,dH dN 0] 32)));have HB1:=lH ((Aq (w.alloc (.cells #[dI a n c,dH dN x] 32)) 3 #[dH dN now] (w.heap.size+1) bA).alloc (.cells #[dI none 0 0,dH dN 0] 32));have HB2:=lH (Aq ((w.alloc (.cells #[dI a n c,dH dN x] 32)).alloc (.cells #[dH dN now] 3)) 32 #[dI none 0 0,dH dN 0] (w.heap.size+1+1) bA);have HK:=lH ((((Aa.refl [] w).alloc (.cells #[dI a n c,dH dN x] 32)).alloc (.cells #[dH dN now] 3)).alloc (.cells #[dI none 0 0,dH dN 0] 32));clear hcc hci hco he hP hI hxx hn hm hsml htk hnow hy hz;go_enter Tryz.func238,Tryz.ntmps238;go_wp2_with (fail);refine(HCC.out _ HK.out).mono ?_;rintro r w1 ⟨rfl,hk⟩;have HB0:=lH (HB0.out.keeps hk bA);have HB1:=lH (HB1.out.keeps hk bA);have HB2:=lH (HB2.out.keeps hk bA);have HK:=lH (HK.out.trans hk);clear hk;unfold GZ;go_wp2_with (fail);refine(HCI.out _ HK.out).mono ?_;rintro r w2 ⟨rfl,hk⟩;have HB0:=lH (HB0.out.keeps hk bA);have HB1:=lH (HB1.out.keeps hk bA);have HB2:=lH (HB2.out.keeps hk bA);have HK:=lH (HK.out.trans hk);clear hk;have HSZ:Hid (w.heap.size+1+1<w2.heap.size):=lH HB2.out.lt;have p0:_=some (dI a n c):=HB0.out.cell 0;have p1:_=some (dH .i64 x):=HB0.out.cell 1;go_wp2_with (fail);refine(HCO.out _ HK.out).mono ?_;rintro r w3 ⟨v0,V0,rfl,hs0,hm0,hb0,hf0⟩;have HF0:Hid (∀z∈V0,PB w.heap.size z):=lH (fun z hz=>Fr.down (hf0 z hz) HK.out.size);clear hf0;have hk:=Aa.of_below hb0 [];have HB0:=lH (HB0.out.keeps hk bA);have HB1:=lH (HB1.out.keeps hk bA);have HB2:=lH (HB2.out.keeps hk bA);have HK:=lH (HK.out.trans hk);have HDL:=lH (Nu v0 V0 w2.heap.size (by rw [hm0.len,HLN.out];omega) now HNO.out (Mt.used hm0 HT.out) (w.heap.size+1) w3 hb0.size bP (HB1.out.cell 0) hs0);have HM0:=lH hm0;have HW3:=lH hb0.size;clear hk hs0 hm0 hb0 p0 p1;go_wp2_with (fail);refine HDL.out.mono ?_;clear HDL;rintro r w4 ⟨v1,rfl,hs1,hk1⟩;obtain⟨F,hF⟩:=eX (V0.filter (D0 now));have hmf:Mt w4 F (p.l.filter (EG now)):=by rw [← hF];exact(HM0.out.strK hk1).filter now
 have HFF:Hid (∀z∈F,PB w.heap.size z):=lH (fun z hz=>HF0.out z (List.mem_filter.1 (by rw [← hF] at hz;exact hz)).1);rw [hF] at hs1;have hlow:∀ {g:Nat} {ty:TypeId} {cs:Array Value},Blk w3 g ty cs→g<w2.heap.size→Blk w4 g ty cs:=fun h hg=>(hk1.low.block _ hg).trans h;have HB0:=lH (hlow HB0.out bP);have HB1:=lH (hlow HB1.out bP);have HB2:=lH (hlow HB2.out HSZ.out);have HK4:Hid (Aa [] w w4):=lH (Aa.of_below ((HK.out.below (Ap _) bA).trans (hk1.low.mono bP)) []);have HIS4:Hid (BR w4 ia ic xs):=lH (HI.out.keeps HK4.out);have HSB:Hid (w2.heap.size≤w4.heap.size):=lH (As HW3.out hk1.low.size);have hFl:F.length≤3:=by rw [hmf.len];exact As (Mc _ _) (by rw [HLN.out];exact hn3)
 obtain⟨k,hk⟩:=eX (F.length);have HKF:=lH hk;have HMF:=lH hmf;have pn:w4.cell? ⟨w,1,none⟩=some (dH dN x):=HB0.out.cell 1;have pw:w4.cell? ⟨w.heap.size+1,0,none⟩=some (dH dN now):=HB1.out.cell 0;obtain⟨a1,c1,hv1,hc1,-⟩:=hs1.row;rw [hk] at hv1 hc1 hFl;subst hv1;clear hmf hF hk;by_cases hk3:k=3
 ·subst hk3
  obtain⟨g,off,cap,hv,h1c,hs2⟩:=hs1.tail (by rw [HKF.out];omega);injection hv with e1 e2 e3
  subst e1;subst e3;clear e2;have hsl:(AG 30 (dI (some ⟨g,off,none⟩) 3 c1) (some (dH dN 1)) none none).run Tryz.prog w4 = .ok (dI (some ⟨g,off+3,none⟩) 2 (c1 - 1)) w4:=by
   have:=E1 w4 g off 3 c1 1 bB h1c;simpa using this
  have HS4:Hid (Dy w4 w2.heap.size (dI (some ⟨g,off+3,none⟩) 2 (c1 - 1)) (F.drop 1)):=lH (by rw [HKF.out] at hs2;simpa using hs2);have HM4:Hid (Mt w4 (F.drop 1) (N9 p.l now)):=lH (by unfold N9;rw [← HMF.out.len,HKF.out,if_pos rfl];exact HMF.out.drop 1);have HL4:Hid ((F.drop 1).length≤1000):=lH (by rw [Bi,HKF.out];omega);have HF4:Hid (∀z∈F.drop 1,PB w.heap.size z):=lH (fun z hz=>HFF.out z (List.mem_of_mem_drop hz));obtain⟨F2,hF2⟩:=eX (F.drop 1);rw [hF2] at HS4 HM4 HL4 HF4;clear hs1 hs2 hc1 hk1 hF2;go_wp2;have hss:∀w':World,w'.heap[w.heap.size]? = w4.heap[w.heap.size]?→w'.heap[w.heap.size+1]? = w4.heap[w.heap.size+1]?→(w'.cell? ⟨w,1,none⟩=some (dH dN x)∧w'.cell? ⟨w.heap.size+1,0,none⟩=some (dH dN now)):=fun w' h0 h1=>⟨(Cq (a:=⟨w,1,none⟩) h0).trans pn,(Cq (a:=⟨w.heap.size+1,0,none⟩) h1).trans pw⟩;have HSS:=lH hss;clear hss pn pw hlow;go_cut [11] (fun v wx=>∃a9 k9 c9 V9,v = dI a9 k9 c9∧Hid (V9.length=k9)∧Hid (BF wx a9 c9 V9 ⟨N9 p.l now++[⟨x,xs,now⟩],x+1⟩)∧Hid (Aa [] w wx)∧Hid (Blk wx w.heap.size 32 #[dI a n c,dH dN x])∧Hid (Blk wx (w.heap.size+1+1) 32 #[dI none 0 0,dH dN 0])∧Hid (∀z∈V9,PB w.heap.size z))
  case first=>
   refine wp_region_held_drew (S:=(fun w':World=>w'.cell? ⟨w,1,none⟩=some (dH dN x)∧w'.cell? ⟨w.heap.size+1,0,none⟩=some (dH dN now))) bC Xd (fun hHeld=>?_);refine rQ 0 ?_;refine rQ 1 ?_;refine rQ 2 ?_;refine rQ 3 ?_;refine rQ 5 ?_;refine rC 4 fun K hK=>?_;go_simp
   (first | ((with_reducible refine(Ft ia ic xs m HM.out _ (HIS4.out.keeps ((Aa.refl [] w4).drew))).mono ?_);rintro e5 w5 ⟨a5,c5,rfl,hst5,hk5,hfr5⟩;have HFR5:Hid (Fr w.heap.size a5 m):=lH (hfr5.down HK4.out.size);have HK5:=lH (((Aa.refl [] w4).drew).trans hk5);have HST5:=lH hst5;have hS5:=HSS.out w5 (HK5.out.block _ HB0.out.lt bA) (HK5.out.block _ HB1.out.lt bA);have hS5a:=fun o=>HSS.out (w5.alloc o) ((HK5.out.alloc o).block _ HB0.out.lt bA) ((HK5.out.alloc o).block _ HB1.out.lt bA);clear hst5 hk5 hfr5) | (obtain⟨v9,w9,hrun,hs9,hk9⟩:=Dy.push ((HS4.out.keeps HK5.out).keeps ((Aa.refl [] w5).alloc (.cells (SV.arr (⟨x,a5,m,c5,now⟩:SV)) 43))) HL4.out Ye w5.heap.size (⟨x,a5,m,c5,now⟩:SV) (Blk.new w5 43 (SV.arr (⟨x,a5,m,c5,now⟩:SV))) 30;simp only [SV.arr] at hrun;refine CJ _ _ 30 bD bD bD bD hrun ?_;have hS9:=HSS.out w9 ((hk9.low.block _ bP).trans ((HK5.out.alloc _).block _ HB0.out.lt bA)) ((hk9.low.block _ bP).trans ((HK5.out.alloc _).block _ HB1.out.lt bA));have HS9:=lH hs9;have HK9:=lH hk9;clear hs9 hk9 hrun))
   refine rO hK Xd fun hHeld=>?_;clear hK K;refine rQ 6 ?_;refine rC 7 fun K hK=>?_;go_simp;refine rO hK Xd fun hHeld=>?_;clear hK K;refine rC 8 fun K hK=>?_
   (first | ((with_reducible refine(Ft ia ic xs m HM.out _ (HIS4.out.keeps ((Aa.refl [] w4).drew))).mono ?_);rintro e5 w5 ⟨a5,c5,rfl,hst5,hk5,hfr5⟩;have HFR5:Hid (Fr w.heap.size a5 m):=lH (hfr5.down HK4.out.size);have HK5:=lH (((Aa.refl [] w4).drew).trans hk5);have HST5:=lH hst5;have hS5:=HSS.out w5 (HK5.out.block _ HB0.out.lt bA) (HK5.out.block _ HB1.out.lt bA);have hS5a:=fun o=>HSS.out (w5.alloc o) ((HK5.out.alloc o).block _ HB0.out.lt bA) ((HK5.out.alloc o).block _ HB1.out.lt bA);clear hst5 hk5 hfr5) | (obtain⟨v9,w9,hrun,hs9,hk9⟩:=Dy.push ((HS4.out.keeps HK5.out).keeps ((Aa.refl [] w5).alloc (.cells (SV.arr (⟨x,a5,m,c5,now⟩:SV)) 43))) HL4.out Ye w5.heap.size (⟨x,a5,m,c5,now⟩:SV) (Blk.new w5 43 (SV.arr (⟨x,a5,m,c5,now⟩:SV))) 30;simp only [SV.arr] at hrun;refine CJ _ _ 30 bD bD bD bD hrun ?_;have hS9:=HSS.out w9 ((hk9.low.block _ bP).trans ((HK5.out.alloc _).block _ HB0.out.lt bA)) ((hk9.low.block _ bP).trans ((HK5.out.alloc _).block _ HB1.out.lt bA));have HS9:=lH hs9;have HK9:=lH hk9;clear hs9 hk9 hrun))
   refine rO hK Xd fun hHeld=>?_;clear hK K;refine rQ 9 ?_;refine wpAnyH_done bC ?_ _
   (go_wp2_with (fail);go_meet;exact R3 HS9.out HK9.out (HM4.out.keeps (HK5.out.alloc _)) (HST5.out.keeps ((Aa.refl [] w5).alloc _)) HM.out HL4.out ((HK4.out.trans HK5.out).alloc _) ((HB0.out.keeps HK5.out bA).alloc _) ((HB2.out.keeps HK5.out bA).alloc _) HSZ.out Ye HF4.out HFR5.out)
  case rest=>
   obtain⟨a9,k9,c9,V9,rfl,HV9,HP9,HK9,HB09,HB29,HF9⟩:=hcut;have pn:wc.cell? ⟨w,1,none⟩=some (dH dN x):=HB09.out.cell 1;have q0:wc.cell? ⟨w.heap.size+1+1,0,none⟩=some (dI none 0 0):=HB29.out.cell 0;have q1:wc.cell? ⟨w.heap.size+1+1,1,none⟩=some (dH dN 0):=HB29.out.cell 1;have f0:=HB29.out.frozen 0;have f1:=HB29.out.frozen 1;have hwx:IntKind.i64.wrap (x+1)=x+1:=IntWalk.i64_in _ bB;have hw1:∀u v,((wc.drew.setCell ⟨w.heap.size+1+1,0,none⟩ u).setCell ⟨w.heap.size+1+1,1,none⟩ v).cell? ⟨w,1,none⟩=some (dH dN x):=fun u v=>(((HB09.out.drew).far (p:=⟨w.heap.size+1+1,0,none⟩) bH u).far (p:=⟨w.heap.size+1+1,1,none⟩) bH v).cell 1;have HW1:=lH hw1;have HBF:=lH (AZ (HB29.out.set_ 0 (dI a9 k9 c9)) ((HB29.out.set_ 0 (dI a9 k9 c9)).set_ 1 (dH dN (x+1))));have HKF:=lH ((HK9.out.drew.setCell (p:=⟨w.heap.size+1+1,0,none⟩) (.inr bH) (dI a9 k9 c9)).setCell (p:=⟨w.heap.size+1+1,1,none⟩) (.inr bH) (dH dN (x+1)));have HPF:=lH ((HP9.out.keepsS (Aa.drew (Aa.refl [w.heap.size+1+1] wc) |>.setCell (p:=⟨w.heap.size+1+1,0,none⟩) (.inl bA) (dI a9 k9 c9) |>.setCell (p:=⟨w.heap.size+1+1,1,none⟩) (.inl bA) (dH dN (x+1))) (fun k hk=>by simp at hk;subst hk;exact⟨_,HB29.out,by decide,by decide⟩)));clear hw1;go_wp2_with (fail);refine wp_region_held_drew (S:=(fun w':World=>w'.cell? ⟨w,1,none⟩=some (dH dN x))) bC Zp (fun hHeld=>?_);refine rQ 0 ?_;refine rQ 1 ?_;refine rQ 2 ?_;refine rQ 3 ?_;refine rQ 4 ?_;refine rQ 5 ?_;refine rQ 6 ?_;refine rC 7 fun K hK=>?_;go_simp;refine rO hK Zp fun hHeld=>?_;clear hK K;refine rQ 8 ?_;refine rQ 9 ?_;refine wpAnyH_done bC ?_ _
   (go_wp2;refine bodyPost_ret (v:=.tuple #[dK #[dI a9 k9 c9,dH dN (x+1)],dH dN x,dH dN 0]) (by have q0:_=some (dI a9 k9 c9):=HBF.out.1.cell 0;have q1:_=some (dH .i64 (x+1)):=HBF.out.2.cell 1;simp [results,Tryz.results238,go_sem,q0,q1]) rfl ?_;exact⟨a9,k9,c9,V9,rfl,HV9.out,HPF.out,HKF.out,HF9.out⟩)
 ·have hk3':((k:Int)==3)=false:=by simp;omega
  have HS4:Hid (Dy w4 w2.heap.size (dI a1 k c1) F):=lH hs1;have HM4:Hid (Mt w4 F (N9 p.l now)):=lH (by unfold N9;rw [← HMF.out.len,HKF.out,if_neg hk3];exact HMF.out);have HF4:=HFF;have HL4:Hid (F.length≤1000):=lH (by rw [HKF.out];omega);clear hs1 hc1 hk1;go_wp2;have hss:∀w':World,w'.heap[w.heap.size]? = w4.heap[w.heap.size]?→w'.heap[w.heap.size+1]? = w4.heap[w.heap.size+1]?→(w'.cell? ⟨w,1,none⟩=some (dH dN x)∧w'.cell? ⟨w.heap.size+1,0,none⟩=some (dH dN now)):=fun w' h0 h1=>⟨(Cq (a:=⟨w,1,none⟩) h0).trans pn,(Cq (a:=⟨w.heap.size+1,0,none⟩) h1).trans pw⟩;have HSS:=lH hss;clear hss pn pw hlow;go_cut [11] (fun v wx=>∃a9 k9 c9 V9,v = dI a9 k9 c9∧Hid (V9.length=k9)∧Hid (BF wx a9 c9 V9 ⟨N9 p.l now++[⟨x,xs,now⟩],x+1⟩)∧Hid (Aa [] w wx)∧Hid (Blk wx w.heap.size 32 #[dI a n c,dH dN x])∧Hid (Blk wx (w.heap.size+1+1) 32 #[dI none 0 0,dH dN 0])∧Hid (∀z∈V9,PB w.heap.size z))
  case first=>
   refine wp_region_held_drew (S:=(fun w':World=>w'.cell? ⟨w,1,none⟩=some (dH dN x)∧w'.cell? ⟨w.heap.size+1,0,none⟩=some (dH dN now))) bC Xd (fun hHeld=>?_);refine rQ 0 ?_;refine rQ 1 ?_;refine rQ 2 ?_;refine rQ 3 ?_;refine rQ 5 ?_;refine rC 4 fun K hK=>?_;go_simp
   (first | ((with_reducible refine(Ft ia ic xs m HM.out _ (HIS4.out.keeps ((Aa.refl [] w4).drew))).mono ?_);rintro e5 w5 ⟨a5,c5,rfl,hst5,hk5,hfr5⟩;have HFR5:Hid (Fr w.heap.size a5 m):=lH (hfr5.down HK4.out.size);have HK5:=lH (((Aa.refl [] w4).drew).trans hk5);have HST5:=lH hst5;have hS5:=HSS.out w5 (HK5.out.block _ HB0.out.lt bA) (HK5.out.block _ HB1.out.lt bA);have hS5a:=fun o=>HSS.out (w5.alloc o) ((HK5.out.alloc o).block _ HB0.out.lt bA) ((HK5.out.alloc o).block _ HB1.out.lt bA);clear hst5 hk5 hfr5) | (obtain⟨v9,w9,hrun,hs9,hk9⟩:=Dy.push ((HS4.out.keeps HK5.out).keeps ((Aa.refl [] w5).alloc (.cells (SV.arr (⟨x,a5,m,c5,now⟩:SV)) 43))) HL4.out Ye w5.heap.size (⟨x,a5,m,c5,now⟩:SV) (Blk.new w5 43 (SV.arr (⟨x,a5,m,c5,now⟩:SV))) 30;simp only [SV.arr] at hrun;refine CJ _ _ 30 bD bD bD bD hrun ?_;have hS9:=HSS.out w9 ((hk9.low.block _ bP).trans ((HK5.out.alloc _).block _ HB0.out.lt bA)) ((hk9.low.block _ bP).trans ((HK5.out.alloc _).block _ HB1.out.lt bA));have HS9:=lH hs9;have HK9:=lH hk9;clear hs9 hk9 hrun))
   refine rO hK Xd fun hHeld=>?_;clear hK K;refine rQ 6 ?_;refine rC 7 fun K hK=>?_;go_simp;refine rO hK Xd fun hHeld=>?_;clear hK K;refine rC 8 fun K hK=>?_
   (first | ((with_reducible refine(Ft ia ic xs m HM.out _ (HIS4.out.keeps ((Aa.refl [] w4).drew))).mono ?_);rintro e5 w5 ⟨a5,c5,rfl,hst5,hk5,hfr5⟩;have HFR5:Hid (Fr w.heap.size a5 m):=lH (hfr5.down HK4.out.size);have HK5:=lH (((Aa.refl [] w4).drew).trans hk5);have HST5:=lH hst5;have hS5:=HSS.out w5 (HK5.out.block _ HB0.out.lt bA) (HK5.out.block _ HB1.out.lt bA);have hS5a:=fun o=>HSS.out (w5.alloc o) ((HK5.out.alloc o).block _ HB0.out.lt bA) ((HK5.out.alloc o).block _ HB1.out.lt bA);clear hst5 hk5 hfr5) | (obtain⟨v9,w9,hrun,hs9,hk9⟩:=Dy.push ((HS4.out.keeps HK5.out).keeps ((Aa.refl [] w5).alloc (.cells (SV.arr (⟨x,a5,m,c5,now⟩:SV)) 43))) HL4.out Ye w5.heap.size (⟨x,a5,m,c5,now⟩:SV) (Blk.new w5 43 (SV.arr (⟨x,a5,m,c5,now⟩:SV))) 30;simp only [SV.arr] at hrun;refine CJ _ _ 30 bD bD bD bD hrun ?_;have hS9:=HSS.out w9 ((hk9.low.block _ bP).trans ((HK5.out.alloc _).block _ HB0.out.lt bA)) ((hk9.low.block _ bP).trans ((HK5.out.alloc _).block _ HB1.out.lt bA));have HS9:=lH hs9;have HK9:=lH hk9;clear hs9 hk9 hrun))
   refine rO hK Xd fun hHeld=>?_;clear hK K;refine rQ 9 ?_;refine wpAnyH_done bC ?_ _
   (go_wp2_with (fail);go_meet;exact R3 HS9.out HK9.out (HM4.out.keeps (HK5.out.alloc _)) (HST5.out.keeps ((Aa.refl [] w5).alloc _)) HM.out HL4.out ((HK4.out.trans HK5.out).alloc _) ((HB0.out.keeps HK5.out bA).alloc _) ((HB2.out.keeps HK5.out bA).alloc _) HSZ.out Ye HF4.out HFR5.out)
  case rest=>
   obtain⟨a9,k9,c9,V9,rfl,HV9,HP9,HK9,HB09,HB29,HF9⟩:=hcut;have pn:wc.cell? ⟨w,1,none⟩=some (dH dN x):=HB09.out.cell 1;have q0:wc.cell? ⟨w.heap.size+1+1,0,none⟩=some (dI none 0 0):=HB29.out.cell 0;have q1:wc.cell? ⟨w.heap.size+1+1,1,none⟩=some (dH dN 0):=HB29.out.cell 1;have f0:=HB29.out.frozen 0;have f1:=HB29.out.frozen 1;have hwx:IntKind.i64.wrap (x+1)=x+1:=IntWalk.i64_in _ bB;have hw1:∀u v,((wc.drew.setCell ⟨w.heap.size+1+1,0,none⟩ u).setCell ⟨w.heap.size+1+1,1,none⟩ v).cell? ⟨w,1,none⟩=some (dH dN x):=fun u v=>(((HB09.out.drew).far (p:=⟨w.heap.size+1+1,0,none⟩) bH u).far (p:=⟨w.heap.size+1+1,1,none⟩) bH v).cell 1;have HW1:=lH hw1;have HBF:=lH (AZ (HB29.out.set_ 0 (dI a9 k9 c9)) ((HB29.out.set_ 0 (dI a9 k9 c9)).set_ 1 (dH dN (x+1))));have HKF:=lH ((HK9.out.drew.setCell (p:=⟨w.heap.size+1+1,0,none⟩) (.inr bH) (dI a9 k9 c9)).setCell (p:=⟨w.heap.size+1+1,1,none⟩) (.inr bH) (dH dN (x+1)));have HPF:=lH ((HP9.out.keepsS (Aa.drew (Aa.refl [w.heap.size+1+1] wc) |>.setCell (p:=⟨w.heap.size+1+1,0,none⟩) (.inl bA) (dI a9 k9 c9) |>.setCell (p:=⟨w.heap.size+1+1,1,none⟩) (.inl bA) (dH dN (x+1))) (fun k hk=>by simp at hk;subst hk;exact⟨_,HB29.out,by decide,by decide⟩)));clear hw1;go_wp2_with (fail);refine wp_region_held_drew (S:=(fun w':World=>w'.cell? ⟨w,1,none⟩=some (dH dN x))) bC Zp (fun hHeld=>?_);refine rQ 0 ?_;refine rQ 1 ?_;refine rQ 2 ?_;refine rQ 3 ?_;refine rQ 4 ?_;refine rQ 5 ?_;refine rQ 6 ?_;refine rC 7 fun K hK=>?_;go_simp;refine rO hK Zp fun hHeld=>?_;clear hK K;refine rQ 8 ?_;refine rQ 9 ?_;refine wpAnyH_done bC ?_ _
   (go_wp2;refine bodyPost_ret (v:=.tuple #[dK #[dI a9 k9 c9,dH dN (x+1)],dH dN x,dH dN 0]) (by have q0:_=some (dI a9 k9 c9):=HBF.out.1.cell 0;have q1:_=some (dH .i64 (x+1)):=HBF.out.2.cell 1;simp [results,Tryz.results238,go_sem,q0,q1]) rfl ?_;exact⟨a9,k9,c9,V9,rfl,HV9.out,HPF.out,HKF.out,HF9.out⟩)
end
section
open Go.RowKit Go.Shelf
attribute [local go_sem] Oper.semAt_some
attribute [local go_sem ↓] Go.wp_at_zero Go.wp_at_succ
theorem XN(a:Option Addr)(c:Nat)(V:List SV)(p:Po)(n:Nat)(hn:V.length=n)(ia:Option Addr)(ic m:Nat)(xs:List ByteArray)(hm:xs.length=m)(now:Int)(w:World)(hP:BF w a c V p)(hI:BR w ia ic xs)(e:Nat→Addr)(he:Kn w e)
 (q:Po)(cur err:Int)(hA:I7 p xs now=(q,cur,err)):
  Calls Tryz.prog 238 #[dK #[dI a n c,dH dN p.next],dI ia m ic,dH dN now] w (Re w q cur err):=by
 cases hc:(Cr p now&&Dl xs&&decide (p.next<1000000000000)) with
 | false=>
  rw [Vc hc] at hA;cases hA;exact(WB a c V p n hn ia ic m xs hm now w hP hI e he hc).mono fun _ _ h=>h.fresh0
 | true=>
  rw [WA hc] at hA;cases hA;simp only [Af,decide_eq_true_eq] at hc;exact WC a c V p n hn ia ic m xs hm now w hP hI e he hc.1.1 hc.1.2 hc.2
def Ha(p:Po)(cursor from_ n now:Int):Int×Option Nat:=
 if Cr p now then(if n<1∨10<n then(0,some 1) else match CW (Gb cursor from_ now) p.l with
  | none=>(0,some 2)
  | some i=>(i,none)) else(0,some 0)
theorem KV{f:Sn→Bool}: ∀ {l:List Sn} (s:Sn),CW f l=none→CW f (l++[s])=if f s then some l.length else none
 | [],s,_=>by simp only [AX,CW];split<;>rfl
 | x::l,s,h=>by
  unfold CW at h;split at h
  ·cases h
  ·rename_i hx
   have h2:CW f l=none:=by
    cases hf:CW f l with
    | none=>rfl
    | some i=>rw [hf] at h;cases h
   rw [A6,CW,if_neg hx,KV s h2];split<;>rfl
theorem M3{f:Sn→Bool}{k:Nat}: ∀ {l:List Sn} (m:List Sn),CW f l=some k→CW f (l++m)=some k
 | [],_,h=>by cases h
 | x::l,m,h=>by
  unfold CW at h;rw [A6,CW];split at h
  ·rename_i hx;rw [if_pos hx];exact h
  ·rename_i hx
   rw [if_neg hx];cases hf:CW f l with
   | none=>rw [hf] at h;cases h
   | some i=>
    rw [hf] at h;rw [M3 m hf];exact h
theorem KW{f:Sn→Bool}{L:List Sn}{k:Nat}{s:Sn}(h:L[k]? = some s)(hn:CW f (L.take k)=none):CW f (L.take (k+1))=if f s then some k else none:=by
 rw [Eo h,KV s hn];have:(L.take k).length=k:=by rw [A7];have:=(Ad.1 h).1;omega
 rw [this]
theorem Ss{f:Sn→Bool}{L:List Sn}{k:Nat}{s:Sn}(h:L[k]? = some s)(hn:CW f (L.take k)=none)(hf:f s=true):CW f L=some k:=by
 have:=KW h hn;rw [if_pos hf] at this;have h2:=M3 (L.drop (k+1)) this
 rwa [Bj] at h2
structure JJ(w A:World)(a:Option Addr)(n c:Nat)(x cursor from_ now:Int):Prop where
 b0:Blk A w.heap.size 32 #[dI a n c,dH dN x]
 b1:Blk A (w.heap.size+1) 3 #[dH dN cursor]
 b2:Blk A (w.heap.size+1+1) 3 #[dH dN from_]
 b3:Blk A (w.heap.size+1+1+1) 3 #[dH dN now]
 b4:Blk A (w.heap.size+1+1+1+1) 3 #[dH dN 0]
 b5:Blk A (w.heap.size+1+1+1+1+1) 128 #[.nilIface]
theorem JJ.keeps{w A A':World}{a:Option Addr}{n c:Nat}{x cursor from_ now:Int}(h:JJ w A a n c x cursor from_ now)(hk:Aa [] A A'):JJ w A' a n c x cursor from_ now:=
 ⟨h.b0.keeps hk bA,h.b1.keeps hk bA,h.b2.keeps hk bA,h.b3.keeps hk bA,h.b4.keeps hk bA,h.b5.keeps hk bA⟩
theorem JJ.low{B:Nat}{w A A':World}{a:Option Addr}{n c:Nat}{x cursor from_ now:Int}(h:JJ w A a n c x cursor from_ now)(hB:w.heap.size+6≤B)(hk:Below B A A'):JJ w A' a n c x cursor from_ now:=
 ⟨Cl h.b0 bB hk,Cl h.b1 bB hk,Cl h.b2 bB hk,Cl h.b3 bB hk,Cl h.b4 bB hk,Cl h.b5 bB hk⟩
theorem Sr(w:World)(a:Option Addr)(n c:Nat)(x cursor from_ now:Int):
  JJ w ((((((w.alloc (.cells #[dI a n c,dH dN x] 32)).alloc (.cells #[dH dN cursor] 3)).alloc (.cells #[dH dN from_] 3)).alloc (.cells #[dH dN now] 3)).alloc (.cells #[dH dN 0] 3)).alloc (.cells #[.nilIface] 128)) a n c x cursor from_ now:=
 ⟨((((((Aq _ _ _ _ rfl).alloc _).alloc _).alloc _).alloc _).alloc _),((((Aq _ _ _ _ bA).alloc _).alloc _).alloc _).alloc _,(((Aq _ _ _ _ bA).alloc _).alloc _).alloc _,((Aq _ _ _ _ bA).alloc _).alloc _,(Aq _ _ _ _ bA).alloc _,Aq _ _ _ _ bA⟩
theorem O0(a:Option Addr)(c:Nat)(V:List SV)(p:Po)(n:Nat)(hn:V.length=n)(cursor from_ num now:Int)(w:World)(hP:BF w a c V p)(e:Nat→Addr)(he:Kn w e)
 (i:Int)(o:Option Nat)(hA:Ha p cursor from_ num now=(i,o)):
  Calls Tryz.prog 290 #[dK #[dI a n c,dH dN p.next],dH dN cursor,dH dN from_,dH dN num,dH dN now] w fun r w'=>r = dM (.tuple #[dH dN i,GZ e o])∧Aa [] w w':=by
 refine(callsIn_wide (n:=9)).1 ?_;obtain⟨x,hx⟩:=eX (p.next);obtain⟨y,hy⟩:=eX (Cr p now);have hcc:=fun W (hk:Aa [] w W)=>J6 a c V p n hn now W (hP.keeps hk) e (he.keep hk) y hy;rw [hx] at hcc ⊢;have hsm:n≤1000000:=by rw [← hn];exact hP.small
 have HCC:=lH hcc;have HE:=lH he;have HP:=lH hP;have HN:=lH hn;have HA:=lH hA;have HY:=lH hy;have HB:=lH (Sr w a n c x cursor from_ now);have HK:=lH ((((((Aa.refl [] w).alloc (.cells #[dI a n c,dH dN x] 32)).alloc (.cells #[dH dN cursor] 3)).alloc (.cells #[dH dN from_] 3)).alloc (.cells #[dH dN now] 3)).alloc (.cells #[dH dN 0] 3) |>.alloc (.cells #[.nilIface] 128));clear hcc he hP hx hn hA hy;refine callsIn_of_wp_marks Tryz.func290 rfl trivial ?_ rfl;simp only [Tryz.ntmps290,Cx,Ao,Eh,Nat.reduceAdd,Nat.reduceSub,Bc,Bd,By,B0,AX,A6];gi_wp2_with (fail);refine⟨trivial,(callsIn_wide.2 (HCC.out _ HK.out)).mono ?_⟩;rintro r w1 ⟨rfl,hk⟩;have HB:=lH (HB.out.keeps hk);have HK:=lH (HK.out.trans hk);clear hk;have r0:w1.cell? ⟨w.heap.size+1+1+1+1,0,none⟩=some (dH dN 0):=HB.out.b4.cell 0;have r1:w1.cell? ⟨w.heap.size+1+1+1+1+1,0,none⟩=some .nilIface:=HB.out.b5.cell 0;have g0:=HB.out.b4.frozen 0;have g1:=HB.out.b5.frozen 0;have hst:∀u,Hid (Aa [] w ((w1.setCell ⟨w.heap.size+1+1+1+1,0,none⟩ (dH dN 0)).setCell ⟨w.heap.size+1+1+1+1+1,0,none⟩ u)):=fun u=>lH ((HK.out.setCell (p:=⟨w.heap.size+1+1+1+1,0,none⟩) (.inr bH) (dH dN 0)).setCell (p:=⟨w.heap.size+1+1+1+1+1,0,none⟩) (.inr bH) u);have HST:=lH hst;clear hst;cases y with
 | false=>
  have hA:=HA.out;unfold Ha at hA;rw [HY.out] at hA;cases hA;unfold GZ;gi_wp2;have q0:_=some (dH .i64 0):=((HB.out.b4.set_ 0 (dH dN 0)).far (p:=⟨w.heap.size+1+1+1+1+1,0,none⟩) bH (.iface 447 (dJ (some (e 0))))).cell 0;have q1:_=some (Value.iface 447 (dJ (some (e 0)))):=((HB.out.b5.far (p:=⟨w.heap.size+1+1+1+1,0,none⟩) bH (dH dN 0)).set_ 0 (.iface 447 (dJ (some (e 0))))).cell 0;exact⟨.tuple #[dH dN 0,.iface 447 (dJ (some (e 0)))],by simp [results,Tryz.results290,go_sem,q0,q1],rfl,(HST.out _).out⟩
 | true=>
  unfold GZ;have e1:=(HE.out.keep HK.out).c1;have hue1:=A4 w _ (HE.out.c1);have n4e1:¬w.heap.size+1+1+1+1=13:=by dsimp only at hue1;omega
  have n5e1:¬w.heap.size+1+1+1+1+1=13:=by dsimp only at hue1;omega
  by_cases hnn:num<1∨10<num
  ·have hA:=HA.out
   unfold Ha at hA;rw [HY.out,if_pos rfl,if_pos hnn] at hA;cases hA;rcases(show num<1∨(¬num<1∧10<num) by omega) with h1 | ⟨h1,h2⟩
   all_goals
    clear hnn;gi_wp2;gi_region;gi_wp2;have q0:_=some (dH .i64 0):=(HB.out.b4.set_ 0 (dH dN 0)).cell 0;have q1:_=some (Value.iface 447 (dJ (some (e 1)))):=((HB.out.b5.far (p:=⟨w.heap.size+1+1+1+1,0,none⟩) bH (dH dN 0)).set_ 0 (.iface 447 (dJ (some (e 1))))).cell 0;exact⟨.tuple #[dH dN 0,.iface 447 (dJ (some (e 1)))],by simp [results,Tryz.results290,go_sem,q0,q1],rfl,(HST.out _).out.drew⟩
  ·have h1:¬num<1:=by omega
   have h2:¬10<num:=by omega
   have hA:=HA.out;unfold Ha at hA;rw [HY.out,if_pos rfl,if_neg hnn] at hA;have HA:=lH hA;have p0:w1.cell? ⟨w,0,none⟩=some (dI a n c):=HB.out.b0.cell 0;have p1:w1.cell? ⟨w,1,none⟩=some (dH dN x):=HB.out.b0.cell 1;clear hnn hA r0 r1 g0 g1 e1;gi_wp2_with (fail);refine⟨trivial,(callsIn_wide.2 (Gg _ _ _ _ _)).mono ?_⟩;rintro r w2 ⟨rfl,rfl⟩;gi_wp2_with (fail);obtain⟨W0,hW0⟩:=eX (w1.alloc (.cells #[dI a n c,dH dN x] 188));have hs0:W0.heap.size=w1.heap.size+1:=by rw [← hW0];simp
   have hw6:w.heap.size+6≤w1.heap.size:=HB.out.b5.lt;have hkW:Aa [] w1 W0:=by rw [← hW0];exact(Aa.refl [] w1).alloc _
   have hB0:Below w.heap.size w W0:=(HK.out.trans hkW).below (Ap _) bA;have hF0:=HB.out.keeps hkW;have bp:W0.cell? ⟨w1,0,none⟩=some (dI a V.length c):=by
    rw [← hW0,HN.out];exact(Blk.new w1 188 _).cell 0
   rw [hW0];have HTK:=lH (JN HY.out);clear hW0 hkW p0 p1;refine Ew rfl bB (gf:=213) (lb:=#[dJ (some ⟨w1,0,none⟩)]) rfl trivial (enters_of Tryz.func213 bC rfl) (Gh 8 w1.heap.size a c V (by rw [HN.out];exact hsm) W0 bp) (Below.refl _ _) (fun _=>rfl)
    (fun pre A=>Below w.heap.size w A∧JJ w A a n c x cursor from_ now∧CW (Gb cursor from_ now) (p.l.take pre.length)=none)
    (fun _ A=>Below w.heap.size w A∧∃k:Nat,Blk A (w.heap.size+1+1+1+1) 3 #[dH dN (k:Int)]∧Blk A (w.heap.size+1+1+1+1+1) 128 #[.nilIface]∧CW (Gb cursor from_ now) p.l=some k)
    (fun s A A' h hb=>⟨h.1.trans (hb.mono bB),h.2.1.low bB hb,h.2.2⟩)
    (fun s A A' h hb=>by
     obtain⟨h1,k,h2,h3,h4⟩:=h;exact⟨h1.trans (hb.mono bB),k,Cl h2 bB hb,Cl h3 bB hb,h4⟩)
    (fun s A h=>HP.out.row.keeps (Aa.of_below h.1 [])) ⟨hB0,hF0,rfl⟩
    (fun x' b=>{ tmps:=#[dK #[dI a n c,dH dN x],dH dN cursor,dH dN from_,dH dN num,dH dN now,dJ (some ⟨w,0,none⟩),dJ (some ⟨w.heap.size+1,0,none⟩),dJ (some ⟨w.heap.size+1+1,0,none⟩),undef,dJ (some ⟨w.heap.size+1+1+1,0,none⟩),dJ (some ⟨w.heap.size+1+1+1+1,0,none⟩),dJ (some ⟨w.heap.size+1+1+1+1+1,0,none⟩),.nilIface,dH dN (x'.2:Int),dJ (some ⟨b,0,none⟩),dK #[dI a n c,dH dN x],dH dN now,.nilIface,.nilIface,dL false,undef,dH dN num,dL (decide (num<1)),dL (decide (num<1)),dH dN num,dL (decide (10<num)),dL (decide (num<1)||decide (10<num)),undef,dK #[dI a n c,dH dN x],dK #[dI a n c,dH dN x],.func (.func 213) #[] #[dJ (some ⟨w1,0,none⟩)],dH dN (x'.2:Int),dK (N_ x'.1),undef,undef,undef,undef,undef,undef,undef,undef,undef,undef,undef,undef,undef,undef,undef,undef,undef,undef,undef,undef,undef,undef,undef,undef],defers:=[] })
    (fun x'=>.cells (N_ x'.1) 43) ?assign ?body ?done ?stop
   case assign=>
    intro l x' W K hK;unfold JU;gi_wp2;exact hK
   case body=>
    rintro l pre x' b W ⟨hB,hF,hI⟩ hpre hb hbx;obtain⟨hk,hpr,rfl⟩:=Ky hpre;obtain⟨k,hkk⟩:=eX (pre.length);have hkL:k<p.l.length:=by rw [← HP.out.mt.len,← hkk];exact hk
    have hm0:=HP.out.mt.get pre.length hk Z3;obtain⟨y,hy⟩:=eX (V[pre.length]);obtain⟨s,hs⟩:=eX (p.l[k]);have hm:Nc w y s:=by
     simp only [hkk] at hm0 hy;rw [hy,hs] at hm0;exact hm0
    have hb2:Blk W b 43 (N_ y):=by
     have:=hbx;simp only [hy] at this;exact this
    simp only [hy];have HL1:Hid ((pre++[(y,pre.length)]).length=k+1):=lH (by rw [Ag,hkk];rfl);have HS:Hid (p.l[k]? = some s):=lH Zs;have HKK:=lH hkk;have HNO:Hid (CW (Gb cursor from_ now) (p.l.take k)=none):=lH (by rw [← hkk];exact hI);obtain⟨u0,hu0⟩:=eX (y.cur);obtain⟨u2,hu2⟩:=eX (y.used);obtain⟨il,hil⟩:=eX (y.il);have d0:W.cell? ⟨b,0,none⟩=some (dH dN u0):=by rw [← hu0];exact hb2.cell 0
    have d1:W.cell? ⟨b,1,none⟩=some (dI y.ia il y.ic):=by rw [← hil];exact hb2.cell 1
    have d2:W.cell? ⟨b,2,none⟩=some (dH dN u2):=by rw [← hu2];exact hb2.cell 2
    have e1:W.cell? ⟨w.heap.size+1,0,none⟩=some (dH dN cursor):=hF.b1.cell 0;have e2:W.cell? ⟨w.heap.size+1+1,0,none⟩=some (dH dN from_):=hF.b2.cell 0;have e3:W.cell? ⟨w.heap.size+1+1+1,0,none⟩=some (dH dN now):=hF.b3.cell 0;have r0:W.cell? ⟨w.heap.size+1+1+1+1,0,none⟩=some (dH dN 0):=hF.b4.cell 0;have r1:W.cell? ⟨w.heap.size+1+1+1+1+1,0,none⟩=some .nilIface:=hF.b5.cell 0;have g0:=hF.b4.frozen 0;have g1:=hF.b5.frozen 0;have HU0:Hid (s.cur=u0):=lH (by rw [← hu0];exact hm.1.symm);have HU2:Hid (s.used=u2):=lH (by rw [← hu2];exact hm.2.1.symm);have HIL:Hid (s.items.length=il):=lH (by rw [← hil];exact hm.2.2.1.symm);have hwr:IntKind.i64.wrap (now - u2)=now - u2:=by
     obtain⟨ht1,⟨n1,n2⟩,_⟩:=HTK.out;obtain⟨t1,t2⟩:=ht1 s (by rw [← hs];exact List.getElem_mem _);rw [HU2.out] at t1 t2;exact IntWalk.i64_in _ bB
    have HBL:=lH hB;have HFL:=lH hF;have hs1:w.heap.size+7≤W0.heap.size:=by omega
    clear hs hpr hk hpre hkL hy hkk hs0 hB0 bp hm0 hm hb2 hbx hB hF hI hF0 hu0 hu2 hil hw6;have hmiss:Gb cursor from_ now s=false→CW (Gb cursor from_ now) (p.l.take (pre++[(y,pre.length)]).length)=none:=fun hh=>by
     rw [HL1.out,KW HS.out HNO.out,if_neg (by rw [hh];simp)]
    have HMISS:=lH hmiss;clear hmiss;by_cases c1:u0=cursor
    ·subst c1
     by_cases c2:now - u2<1000
     ·by_cases c3:0≤from_
      ·by_cases c4:from_≤(il:Int)
       ·have hhit:Gb u0 from_ now s=true:=by unfold Gb EG;rw [HU0.out,HU2.out,HIL.out];simp;omega
        have HHIT:=lH (Ss HS.out HNO.out hhit);have HKV:Hid (((pre.length:Nat):Int)=(k:Int)):=lH (by rw [HKK.out]);clear hhit;gi_wp2;refine⟨(BZ.setCell (p:=⟨w.heap.size+1+1+1+1,0,none⟩) bH W _).trans (BZ.setCell (p:=⟨w.heap.size+1+1+1+1+1,0,none⟩) bH _ _),(HBL.out.setCell (p:=⟨w.heap.size+1+1+1+1,0,none⟩) bH _).setCell (p:=⟨w.heap.size+1+1+1+1+1,0,none⟩) bH _,k,?_,?_,HHIT.out⟩
        ·rw [← HKV.out]
         exact(HFL.out.b4.set_ 0 _).far (p:=⟨w.heap.size+1+1+1+1+1,0,none⟩) bH _
        ·exact(HFL.out.b5.far (p:=⟨w.heap.size+1+1+1+1,0,none⟩) bH _).set_ 0 .nilIface
       ·have hbad:Gb u0 from_ now s=false:=by unfold Gb EG;rw [HU0.out,HU2.out,HIL.out];simp;omega
        have HBAD:=lH hbad;clear hbad;gi_wp2;exact⟨BZ.refl _ _,HBL.out,HFL.out,HMISS.out HBAD.out⟩
      ·have hbad:Gb u0 from_ now s=false:=by unfold Gb EG;rw [HU0.out,HU2.out,HIL.out];simp;omega
       have HBAD:=lH hbad;clear hbad;gi_wp2;exact⟨BZ.refl _ _,HBL.out,HFL.out,HMISS.out HBAD.out⟩
     ·have hbad:Gb u0 from_ now s=false:=by unfold Gb EG;rw [HU0.out,HU2.out,HIL.out];simp;omega
      have HBAD:=lH hbad;clear hbad;gi_wp2;exact⟨BZ.refl _ _,HBL.out,HFL.out,HMISS.out HBAD.out⟩
    ·have hbad:Gb cursor from_ now s=false:=by unfold Gb;rw [HU0.out];simp [c1]
     have HBAD:=lH hbad;have hc1:(u0==cursor)=false:=by simp [c1]
     clear hbad c1;gi_wp2;exact⟨BZ.refl _ _,HBL.out,HFL.out,HMISS.out HBAD.out⟩
   case done=>
    rintro D W hD ⟨hB,hF,hI⟩ hK;have hD2:w.heap.size+7≤D:=by omega
    have hA:=HA.out;rw [Ax (by rw [List.length_zipIdx,HP.out.mt.len];exact Ap _)] at hI;rw [hI] at hA;cases hA;have e2:=(HE.out.keep (Aa.of_below hB [])).c2;have hue2:=A4 w _ (HE.out.c2);have n4e2:¬w.heap.size+1+1+1+1=14:=by dsimp only at hue2;omega
    have n5e2:¬w.heap.size+1+1+1+1+1=14:=by dsimp only at hue2;omega
    have r0:W.cell? ⟨w.heap.size+1+1+1+1,0,none⟩=some (dH dN 0):=hF.b4.cell 0;have r1:W.cell? ⟨w.heap.size+1+1+1+1+1,0,none⟩=some .nilIface:=hF.b5.cell 0;have g0:=hF.b4.frozen 0;have g1:=hF.b5.frozen 0;have HB:=lH hB;have HF:=lH hF;have hKD:∀u,((W.drew.setCell ⟨w.heap.size+1+1+1+1,0,none⟩ (dH dN 0)).setCell ⟨w.heap.size+1+1+1+1+1,0,none⟩ u).heap[D]? = some (.deferred (some [])):=fun u=>by
     rw [Below.heap_setCell _ _ _ _ bH,Below.heap_setCell _ _ _ _ bH];exact hK
    have HKD:=lH hKD;clear hB hF hI hs0 hB0 bp hF0 hK hKD;gi_wp2;gi_region;gi_wp2;refine⟨by simp,.inl ⟨_,_,rfl,run_takeDeferred (HKD.out _),?_⟩⟩;have q0:=Dt (((HF.out.b4.set_ 0 (dH dN 0)).far (p:=⟨w.heap.size+1+1+1+1+1,0,none⟩) bH (.iface 447 (dJ (some (e 2))))).drew) (D:=D) bB;have q1:=Dt (((HF.out.b5.far (p:=⟨w.heap.size+1+1+1+1,0,none⟩) bH (dH dN 0)).set_ 0 (.iface 447 (dJ (some (e 2))))).drew) (D:=D) bB;have q0:_=some (dH .i64 0):=q0;have q1:_=some (Value.iface 447 (dJ (some (e 2)))):=q1;refine⟨.tuple #[dH dN 0,.iface 447 (dJ (some (e 2)))],by simp [results,Tryz.results290,go_sem,q0,q1],rfl,Aa.of_below ((((HB.out.setCell (p:=⟨w.heap.size+1+1+1+1,0,none⟩) bH (dH dN 0)).setCell (p:=⟨w.heap.size+1+1+1+1+1,0,none⟩) bH (.iface 447 (dJ (some (e 2))))).drew).trans (belowK_b (n₀:=w.heap.size) (w:=w) (Ap _) _ D _ _ bB (HKD.out _) rfl rfl)) []⟩
   case stop=>
    rintro D pre W hD _ ⟨hB,k,b4,b5,hh⟩ hK;have hD2:w.heap.size+7≤D:=by omega
    have hA:=HA.out;rw [hh] at hA;cases hA;have HB:=lH hB;clear hB hs0 hB0 hh bp hF0;gi_wp2;refine⟨by simp,.inl ⟨_,_,rfl,run_takeDeferred hK,?_⟩⟩;have q0:=Dt b4 (D:=D) bB;have q1:=Dt b5 (D:=D) bB;refine⟨.tuple #[dH dN (k:Int),.nilIface],by simp [results,Tryz.results290,go_sem,q0,q1],rfl,Aa.of_below (HB.out.trans (belowK_b (n₀:=w.heap.size) (w:=w) (Ap _) _ D _ _ bB hK rfl rfl)) []⟩
end
end Go.Proofs.YtcjdkbgdahgjbaaGreatDoor
