/- Steps of the proof: CtH, CtI, CtJ, RdrG, CtK. -/
import Derived.Test.YtcjdkbgdahgjbaaGreatDoorK0
import Derived.Test.YtcjdkbgdahgjbaaGreatDoorKak
import Derived.Test.YtcjdkbgdahgjbaaGreatDoorKas
import Derived.Test.YtcjdkbgdahgjbaaGreatDoorKav
import Derived.Test.YtcjdkbgdahgjbaaGreatDoorKaz
set_option maxRecDepth 100000
set_option maxHeartbeats 8000000
set_option linter.all false
namespace Go.Proofs.YtcjdkbgdahgjbaaGreatDoor
open _root_.And renaming intro→AZ
open _root_.Array renaming getElem?_eq_some_iff→Aj
open _root_.Bool renaming and_eq_true→Af
open Ending renaming returned→dM
open Instr renaming typeAssert→Cw
open IntKind renaming i64→dN
open _root_.List renaming cons_append→A6,getElem?_cons_zero→Ah,length_append→Ag,length_cons→Ao,length_map→BX,length_nil→Eh,mem_append→AF,mem_cons→Ac,mem_map→Ee,mem_singleton→Am,nil_append→AX,not_mem_nil→Ab,take_append_drop→Bj,take_of_length_le→Ax
open _root_.Nat renaming add_zero→CG,le_refl→Ap,le_trans→As,lt_of_lt_of_le→AT,zero_add→BI,zero_le→Cy
open Value renaming agg→dK,bool→dL,int→dH,pointer→dJ,slice→dI,string→CZ
open World renaming ownsRow_nil→Bz
section
open Go.RowKit Go.Shelf
attribute [local go_sem] Oper.semAt_some N5 N6 N3 N4
attribute [local go_sem ↓] Go.wp_at_zero Go.wp_at_succ
def cv0:CV:=⟨none,0,0,⟨⟨none,0,none,0,none,0⟩,none,0,[]⟩,0,0,0,0,0,none,0,0,[],0,none,0,0,none,0,0⟩
theorem Fu(w:World):Cm w cv0 FX:=
 { o:=AJ.none_,on:=rfl,ol:=by decide,os:=fun o ho=>(by cases ho),r:=⟨⟨AJ.none_,AJ.none_,AJ.none_,by decide,by decide,by decide⟩,AJ.none_,trivial,by decide,fun t ht=>by cases ht⟩,g:=rfl,u:=rfl,f:=rfl,l:=rfl,q:=rfl,p:=⟨Ap _,by decide,fun h=>absurd rfl h,trivial⟩,pn:=rfl,pl:=by decide,nx:=rfl,j:=AJ.none_,jn:=rfl,jl:=by decide,js:=fun j hj=>(by cases hj),d:=AJ.none_,dn:=rfl,dl:=by decide }
def E9(B:Nat)(v:CV)(c:D2):Prop:=FV (· < B) v c∧EA (· < B) v.ja v.jn
theorem Fv(B:Nat):E9 B cv0 FX:=
 ⟨⟨fun h0=>absurd h0 bE,⟨fun h0=>absurd h0 bE,fun h0=>absurd h0 bE,fun h0=>absurd h0 bE,fun h0=>absurd h0 bE,fun u hu=>by cases hu⟩,fun h0=>absurd h0 bE⟩,fun h0=>absurd h0 bE⟩
theorem E9.down{B B':Nat}{v:CV}{c:D2}(h:E9 B v c)(hb:B'≤B):E9 B' v c:=
 ⟨⟨h.1.o.mono (fun _ hy=>AT hy hb),h.1.r.mono (fun _ hy=>AT hy hb),h.1.d.mono (fun _ hy=>AT hy hb)⟩,h.2.mono (fun _ hy=>AT hy hb)⟩
def T3(w:World)(R:D2×Int):Ending→World→Prop:=fun e w'=>∃v,e = dM (.tuple #[dK (ctlA v),dH dN R.2])∧Cm w' v R.1∧E9 w.heap.size v R.1∧Aa [] w w'
theorem Ub(a:Option Addr)(c:Nat)(ops:List Kp)(k:Nat)(hk:ops.length=k)(h1000:k≤1000)(hs:∀o∈ops,o.name.size≤maxLen)(n:Int)(w:World)(h:Mo w a c ops):
  Calls Tryz.prog 36 #[dI a k c,dH dN n] w (T3 w (SC ops n)):=by
 obtain⟨w0,hw0⟩:=eX (w.alloc (.cells K3.k 36));have hk0:Aa [] w w0:=by rw [← hw0];exact(Aa.refl [] w).alloc _
 have hs0:w0.heap.size=w.heap.size+1:=by rw [← hw0];simp
 have HB0:Hid (Blk w0 w.heap.size 36 (ctlA cv0)):=lH Y9;have HK0:=lH hk0;have HS0:=lH hs0;obtain⟨b,hb⟩:=eX (He ops);obtain⟨R,hR⟩:=eX (SC ops n);rw [hR];unfold SC at hR;rw [hb] at hR;have HR:=lH hR;have HO:=I6 a c ops k hk bB hs b hb w0 (h.keeps hk0);have H:=lH h;have HKN:=lH hk;have HSZ:=lH hs;clear hk0 hb hR h hk hs hs0;go_enter Tryz.func36,Tryz.ntmps36;go_wp2_with (fail);refine HO.mono ?_;rintro e w1 ⟨rfl,hk1⟩;have HK1:=lH (HK0.out.trans hk1);have HB1:=lH (HB0.out.keeps hk1 bA);clear hw0 hk1 HO;cases b with
 | false=>
  obtain rfl:R=(FX,190):=by rw [← HR.out];rfl
  go_wp2_with (refine wpList_store_row bD 36 _ _ bD w.heap.size (ctlA cv0) bD bD 36 (ctlA cv0) HB1.out (AQ cv0) rfl (Bl cv0) ?_);refine bodyPost_ret (v:=.tuple #[dK (ctlA cv0),dH dN 190]) ?_ rfl ⟨cv0,rfl,Fu _,Fv _,?_⟩
  ·exact AA rfl _ _ w.heap.size 36 (ctlA cv0) _ (dH dN 190) rfl rfl (HB1.out.row _) Tryz.underlying36 rfl (AQ _)
  ·exact HK1.out.own (Bh _ _ _) bF
 | true=>
  have HR2:Hid ((if(GQ n).2=0 then((⟨ops,(N2 n).1,⟨[],1⟩,[],[]⟩,0):D2×Int) else(FX,(GQ n).2))=R):=lH HR.out;go_wp2_with (fail);refine(U6 n _).mono ?_;rintro e w2 ⟨v,gn,un,fn,rfl,hg,hu,hf,hm,hge,hk2⟩;obtain⟨w3,hw3⟩:=eX (w2.alloc (.cells #[dI v.ga gn v.gc,dI v.ua un v.uc,dI v.fa fn v.fc,dI none 0 0,dH dN 0] 29));have hk3:Aa [] w1 w3:=by rw [← hw3];exact hk2.alloc _
  have hk23:Aa [] w2 w3:=by rw [← hw3];exact(Aa.refl [] w2).alloc _
  have HB3:=lH (HB1.out.keeps hk3 bA);have HG3:Hid (Blk w3 w2.heap.size 29 #[dI v.ga gn v.gc,dI v.ua un v.uc,dI v.fa fn v.fc,dI none 0 0,dH dN 0]):=lH (by rw [← hw3];exact Blk.new w2 _ _);have HK3:=lH (HK1.out.trans hk3);have HM3:=lH (hm.keeps hk23);have HLEN:=lH (AZ hg (AZ hu hf));have HGE:=lH hge;have HSW:Hid (w.heap.size<w1.heap.size):=lH HB1.out.lt;obtain⟨er,her⟩:=eX ((GQ n).2);rw [her] at HR2 ⊢;have HER:=lH her;clear hk3 hk23 hg hu hf hm hge her hk2;go_upto_region 4 with(refine wpList_store_row bD 29 _ _ bD w2.heap.size #[dI v.ga gn v.gc,dI v.ua un v.uc,dI v.fa fn v.fc,dI none 0 0,dH dN 0] bD bD 29 LU.k (Blk.new w2 _ _) bC rfl YB ?_;rw [World.setRow_alloc_new])
  clear hw3;by_cases h0:er=0;rotate_left
  ·have f1:(er != 0)=true:=by simpa using h0
   obtain rfl:R=(FX,er):=by rw [← HR2.out,if_neg h0]
   clear h0;go_wp2_with (refine wpList_store_row bD 36 _ _ bD w.heap.size (ctlA cv0) bD bD 36 (ctlA cv0) HB3.out (AQ cv0) rfl (Bl cv0) ?_);refine bodyPost_ret (v:=.tuple #[dK (ctlA cv0),dH dN er]) ?_ rfl ⟨cv0,rfl,Fu _,Fv _,?_⟩
   ·exact AA rfl _ _ w.heap.size 36 (ctlA cv0) _ (dH dN er) rfl rfl (HB3.out.row _) Tryz.underlying36 rfl (AQ _)
   ·exact HK3.out.own (Bh _ _ _) bF
  ·subst h0
   obtain rfl:R=(⟨ops,(N2 n).1,⟨[],1⟩,[],[]⟩,0):=by rw [← HR2.out,if_pos rfl]
   obtain⟨v',hv'⟩:∃f:Option Addr→Nat→CV,(fun a4 c4=>(⟨a4,k,c4,⟨v,none,0,[]⟩,gn,un,fn,0,0,none,0,0,[],1,none,0,0,none,0,0⟩:CV))=f:=⟨_,rfl⟩;have HFIN:Hid (∀w4 w5 a4 c4,Aa [] w3 w4→w4.ownsRow w3.heap.size 40 2 (dI a4 k c4) k (ops.flatMap Fw)→Aa [] w4 w5→
     Blk (w5.setCells w.heap.size 0 (ctlA (v' a4 c4)).toList) w.heap.size 36 (ctlA (v' a4 c4))∧Cm (w5.setCells w.heap.size 0 (ctlA (v' a4 c4)).toList) (v' a4 c4) ⟨ops,(N2 n).1,⟨[],1⟩,[],[]⟩∧E9 w.heap.size (v' a4 c4) ⟨ops,(N2 n).1,⟨[],1⟩,[],[]⟩∧Aa [] w (w5.setCells w.heap.size 0 (ctlA (v' a4 c4)).toList)):=lH (by
    intro w4 w5 a4 c4 k4 o4 k5;have o5:=Ak o4 k5 bA;have hb5:Blk w5 w.heap.size 36 (ctlA cv0):=(HB3.out.keeps k4 bA).keeps k5 bA;have hF:=(hb5.putAll (ds:=ctlA (v' a4 c4)) rfl);have hkF:Aa [w.heap.size] w5 (w5.setCells w.heap.size 0 (ctlA (v' a4 c4)).toList):=AM _ _ _ _;have hM:Cm w5 (v' a4 c4) ⟨ops,(N2 n).1,⟨[],1⟩,[],[]⟩:=by
     rw [← hv'];have hm5:=(HM3.out.keeps k4).keeps k5;exact { o:=AJ.row (xs:=ops) Gw (by rw [HKN.out];exact o5),on:=HKN.out,ol:=h1000,os:=HSZ.out,r:=⟨hm5,AJ.none_,trivial,by show 0≤1000;omega,fun t ht=>by cases ht⟩,g:=HLEN.out.1,u:=HLEN.out.2.1,f:=HLEN.out.2.2,l:=rfl,q:=rfl,p:=⟨Ap _,by show 0≤1000000;omega,fun h=>absurd rfl h,trivial⟩,pn:=rfl,pl:=by show 0≤1000;omega,nx:=rfl,j:=AJ.none_,jn:=rfl,jl:=by show 0≤900;omega,js:=fun j hj=>(by cases hj),d:=AJ.none_,dn:=rfl,dl:=by show 0≤900;omega }
    have hQ:FV (·≤w.heap.size) (v' a4 c4) ⟨ops,(N2 n).1,⟨[],1⟩,[],[]⟩:=by
     rw [← hv'];have hlt:=HB3.out.lt;refine⟨DE o5 (fun g hg e=>by have:=(o5.lt g hg).1;omega),GA.no (B:=w1.heap.size) ⟨HGE.out,(fun g o e=>by cases e),(fun u hu=>by cases hu)⟩ (fun y hy=>Nat.lt_of_le_of_lt hy HSW.out),fun h0=>absurd h0 (by show ¬0<0;omega)⟩
    have hJ:EA (·≤w.heap.size) (v' a4 c4).ja (v' a4 c4).jn:=by rw [← hv'];exact fun h0=>absurd h0 (by show ¬0<0;omega)
    exact⟨hF,hM.stay hQ hJ hkF Yd (Jy.blk hb5 bE bE),⟨⟨hQ.o.mono (fun _ h=>Nat.le_of_lt h),hQ.r.mono (fun _ h=>Nat.le_of_lt h),hQ.d.mono (fun _ h=>Nat.le_of_lt h)⟩,hJ.mono (fun _ h=>Nat.le_of_lt h)⟩,((HK3.out.trans k4).trans k5).own hkF bF⟩)
   have r3:=HG3.out.rl;go_upto_region 6 with(fail)
   refine CD (b:=5) (S:=(Aa [] w3)) bC ZF (fun hHeld=>?_);refine tK 0 ?_;refine tK 2 ?_;refine tC 1 fun K hK=>?_;go_simp
   (refine(IQ a c ops k HKN.out bB _ (H.out.keeps (HK3.out.trans hHeld))).mono ?_;rintro e w4 ⟨a4,c4,rfl,hs4,ho4,hk4⟩;clear hs4;have hk34:=((Aa.refl [] w3).drew).trans hk4)
   (try clear rH);refine tP hK ZF fun rH hHeld=>?_;clear hK K
   refine tC 3 fun K hK=>?_;go_simp
   (refine(ZA _).mono ?_;rintro e w5 ⟨rfl,hk5⟩;have hk35:=hk34.trans hk5;have r5:=(show Blk w5 w.heap.size 36 K3.k from HB3.out.keeps hk35 bA).rl)
   (try clear rH);refine tP hK ZF fun rH hHeld=>?_;clear hK K
   refine tK 4 ?_;refine tS fun K hK=>?_;go_simp
   (try clear rH);(try clear hHeld);refine tT hK fun hHeld=>?_;clear hK K
   refine rQ 6 ?_;refine wpAnyH_done bC ?_ _
   (go_wp2_with (fail);have hF:=HFIN.out w4 w5 a4 c4 hk34 ho4 hk5;exact bodyPost_ret (v:=.tuple #[dK (ctlA (v' a4 c4)),dH dN 0]) (by rw [← hv'] at hF ⊢;exact AA rfl _ _ w.heap.size 36 _ _ (dH dN 0) rfl rfl hF.1 Tryz.underlying36 rfl (AQ _)) rfl ⟨v' a4 c4,rfl,by rw [← hv'] at hF ⊢;exact hF.2.1,by rw [← hv'] at hF ⊢;exact hF.2.2.1,by rw [← hv'] at hF;exact hF.2.2.2⟩)
def Xh(met:List Int):Nat:=(if met.contains 0 then 0 else 1)+(if met.contains 1 then 0 else 1)+(if met.contains 2 then 0 else 1)+(if met.contains 3 then 0 else 1)
theorem OH:∀(L:List BC) (met:List Int),DQ met L=true→L.length≤Xh met
 | [],_,_=>Cy _
 | j::l,met,h=>by
  simp only [DQ,Af,Bool.not_eq_true'] at h;obtain⟨⟨hj,hm⟩,hl⟩:=h;have ih:=OH l _ hl;simp only [Mf,Af,decide_eq_true_eq] at hj;have hc:j.conn=0∨j.conn=1∨j.conn=2∨j.conn=3:=by omega
  have hx:∀k:Int,(met++[j.conn]).contains k=(met.contains k||decide (k=j.conn)):=fun k=>by
   simp only [List.contains_eq_mem,AF,Am,Bool.decide_or]
  unfold Xh at ih ⊢;simp only [hx] at ih;rw [Ao];rcases hc with e | e | e | e<;>rw [e] at ih hm<;>simp only [hm]<;>simp at ih ⊢<;>omega
theorem S3{L:List BC}(h:DQ [] L=true):L.length≤4:=OH L [] h
theorem Uj{c:D2}(h:Nr c=true):DQ [] c.jobs=true:=by
 unfold Nr at h;simp only [Af] at h;exact h.1.1.1.1
theorem Sa(v:CV)(c:D2)(conn:Int)(line:ByteArray)(hline:line.size≤1000000)(w:World)(hE:Et w)(h:Cm w v c):
  Calls Tryz.prog 23 #[dK (C_ v),dH dN conn,CZ line] w (T3 w (KF c conn line)):=by
 obtain⟨w0,hw0⟩:=eX ((w.alloc (.cells (C_ v) 36)).alloc (.cells K3.k 36));have hk0:Aa [] w w0:=by rw [← hw0];exact((Aa.refl [] w).alloc _).alloc _
 have hs0:w0.heap.size=w.heap.size+2:=by rw [← hw0];simp
 have hb0:Blk w0 w.heap.size 36 (C_ v):=by rw [← hw0];exact(Blk.new w _ _).alloc _
 have HB1:Hid (Blk w0 (w.heap.size+1) 36 (ctlA cv0)):=lH ZV;have q:=hb0.rl;have HB0:=lH hb0;have HK0:=lH hk0;have HS0:=lH hs0;have HC:=KJ (dI v.oa v.on v.oc) (dI v.r.s.ga v.gn v.r.s.gc) (dI v.r.s.ua v.un v.r.s.uc) (dI v.r.s.fa v.fn v.r.s.fc) (dI v.r.la v.ln v.r.lc) (dH dN v.seq) (dI v.pa v.pn v.pc) (dH dN v.nx) (dI v.da v.dn v.dc) v.ja v.jn v.jc c.jobs h.jn (by have:=h.jl;omega) conn w0 (h.j.keeps hk0);obtain⟨b,hb⟩:=eX (Nr c);obtain⟨bz,hbz⟩:=eX ((DU c.jobs conn).isSome);obtain⟨pz,hpz⟩:=eX ((DU c.jobs conn).getD 0);obtain⟨R,hR⟩:=eX (KF c conn line);rw [hR];unfold KF at hR;rw [hb,hbz] at hR;rw [hbz,hpz] at HC;have HR:=lH hR;have H:=lH h;have HB:=lH hb;have HLINE:=lH hline;have HE:Hid (∀W,Aa [] w W→Et W):=lH fun W hk=>hE.keeps hk bA;clear hk0 hs0 hb0 h hb hbz hpz hR hline hE;go_enter Tryz.func23,Tryz.ntmps23;go_wp2_with (fail);refine NL 0 rfl ?_;go_wp2_with (fail);refine HC.mono ?_;rintro e w1 ⟨rfl,hk1⟩;have HK1:=lH (HK0.out.trans hk1);have HC0:=lH (HB0.out.keeps hk1 bA);have HC1:=lH (HB1.out.keeps hk1 bA);clear hw0 hk1 HC q;have q:=HC0.out.rl;go_wp2_with (fail);refine(KE v c b HB.out _ (H.out.keeps HK1.out)).mono ?_;rintro e w2 ⟨rfl,hk2⟩;have HK2:=lH (HK1.out.trans hk2);have HD0:=lH (HC0.out.keeps hk2 bA);have HD1:=lH (HC1.out.keeps hk2 bA);clear hk2 q HC0 HC1;have q:=HD0.out.rl;cases b with
 | false=>
  obtain rfl:R=(FX,190):=by rw [← HR.out];rfl
  go_wp2_with (fail);go_step3;refine(show(0:Nat)=0∧Code.wp _ _ _ _ _ from⟨rfl,?_⟩);go_wp2_with (fail);refine(ErC.told_why 190 _ (HE.out _ HK2.out)).mono ?_;rintro e wy ⟨rfl,hky⟩;have HKY:=lH (HK2.out.trans hky);have HCY:=lH (HD1.out.keeps hky bA);clear hky;go_wp2_with (refine wpList_store_row bD 36 _ _ bD (w.heap.size+1) (ctlA cv0) bD bD 36 (ctlA cv0) HCY.out (AQ cv0) rfl (Bl cv0) ?_);rw [Exit.noGoto_ret];refine bodyPost_ret (v:=.tuple #[dK (ctlA cv0),dH dN 190]) ?_ rfl ⟨cv0,rfl,Fu _,Fv _,?_⟩
  ·exact AA rfl _ _ (w.heap.size+1) 36 (ctlA cv0) _ (dH dN 190) rfl rfl (HCY.out.row _) Tryz.underlying36 rfl (AQ _)
  ·exact HKY.out.own (Bh _ _ _) bF
 | true=>
  have HR2:Hid ((if conn<0∨4≤conn then((FX,2):D2×Int) else if bz=true then(FX,191) else({ c with jobs:=c.jobs++[{ job0 with conn:=conn,phase:=1,line:=line }] },0))=R):=lH HR.out;by_cases h1:conn<0
  ·obtain rfl:R=(FX,2):=by rw [← HR2.out,if_pos (.inl h1)]
   go_wp2_with (fail);go_step3;refine(show(0:Nat)=0∧Code.wp _ _ _ _ _ from⟨rfl,?_⟩);go_wp2_with (fail);refine(ErC.told_why 2 _ (HE.out _ HK2.out)).mono ?_;rintro e wy ⟨rfl,hky⟩;have HKY:=lH (HK2.out.trans hky);have HCY:=lH (HD1.out.keeps hky bA);clear hky;go_wp2_with (refine wpList_store_row bD 36 _ _ bD (w.heap.size+1) (ctlA cv0) bD bD 36 (ctlA cv0) HCY.out (AQ cv0) rfl (Bl cv0) ?_);rw [Exit.noGoto_ret];refine bodyPost_ret (v:=.tuple #[dK (ctlA cv0),dH dN 2]) ?_ rfl ⟨cv0,rfl,Fu _,Fv _,?_⟩
   ·exact AA rfl _ _ (w.heap.size+1) 36 (ctlA cv0) _ (dH dN 2) rfl rfl (HCY.out.row _) Tryz.underlying36 rfl (AQ _)
   ·exact HKY.out.own (Bh _ _ _) bF
  ·by_cases h2:4≤conn
   ·obtain rfl:R=(FX,2):=by rw [← HR2.out,if_pos (.inr h2)]
    go_wp2_with (fail);go_step3;refine(show(0:Nat)=0∧Code.wp _ _ _ _ _ from⟨rfl,?_⟩);go_wp2_with (fail);refine(ErC.told_why 2 _ (HE.out _ HK2.out)).mono ?_;rintro e wy ⟨rfl,hky⟩;have HKY:=lH (HK2.out.trans hky);have HCY:=lH (HD1.out.keeps hky bA);clear hky;go_wp2_with (refine wpList_store_row bD 36 _ _ bD (w.heap.size+1) (ctlA cv0) bD bD 36 (ctlA cv0) HCY.out (AQ cv0) rfl (Bl cv0) ?_);rw [Exit.noGoto_ret];refine bodyPost_ret (v:=.tuple #[dK (ctlA cv0),dH dN 2]) ?_ rfl ⟨cv0,rfl,Fu _,Fv _,?_⟩
    ·exact AA rfl _ _ (w.heap.size+1) 36 (ctlA cv0) _ (dH dN 2) rfl rfl (HCY.out.row _) Tryz.underlying36 rfl (AQ _)
    ·exact HKY.out.own (Bh _ _ _) bF
   ·have HN:Hid (¬(conn<0∨4≤conn)):=lH bB
    cases bz with
    | true=>
     obtain rfl:R=(FX,191):=by rw [← HR2.out,if_neg HN.out,if_pos rfl]
     go_wp2_with (fail);go_step3;refine(show(0:Nat)=0∧Code.wp _ _ _ _ _ from⟨rfl,?_⟩);go_wp2_with (fail);refine(ErC.told_why 191 _ (HE.out _ HK2.out)).mono ?_;rintro e wy ⟨rfl,hky⟩;have HKY:=lH (HK2.out.trans hky);have HCY:=lH (HD1.out.keeps hky bA);clear hky;go_wp2_with (refine wpList_store_row bD 36 _ _ bD (w.heap.size+1) (ctlA cv0) bD bD 36 (ctlA cv0) HCY.out (AQ cv0) rfl (Bl cv0) ?_);rw [Exit.noGoto_ret];refine bodyPost_ret (v:=.tuple #[dK (ctlA cv0),dH dN 191]) ?_ rfl ⟨cv0,rfl,Fu _,Fv _,?_⟩
     ·exact AA rfl _ _ (w.heap.size+1) 36 (ctlA cv0) _ (dH dN 191) rfl rfl (HCY.out.row _) Tryz.underlying36 rfl (AQ _)
     ·exact HKY.out.own (Bh _ _ _) bF
    | false=>
     obtain rfl:R=({ c with jobs:=c.jobs++[{ job0 with conn:=conn,phase:=1,line:=line }] },0):=by rw [← HR2.out,if_neg HN.out,if_neg bA]
     go_wp2_with (fail);refine(Om v c _ (H.out.keeps HK2.out)).mono ?_;rintro e w3 ⟨v',rfl,hm,hjn,ho,hs,hlo,hk3⟩;obtain⟨w4,hw4⟩:=eX (w3.setRow w.heap.size (ctlA v'));have hb3:=HD0.out.keeps hk3 bA;have hk4:Aa [w.heap.size] w3 w4:=by rw [← hw4];exact Bh _ _ _
     have hlt:w.heap.size<w2.heap.size:=HD0.out.lt;have hm4:Cm w4 v' c:=hm.stay (Q:=(· < w2.heap.size)) hlo (DE ho (fun g hg=>by have:=(ho.lt g hg).1;omega)) hk4 (fun y hy=>by obtain rfl:=Am.1 hy;exact hlt) (Jy.blk hb3 bE bE);have ho4:=Ak ho hk4 (fun g hg hmm=>by have:=(ho.lt g hg).1;simp only [Ac,Ab,or_false] at hmm;omega);have HB4:Hid (Blk w4 w.heap.size 36 (ctlA v')):=lH (by rw [← hw4];exact hb3.row _);have HB41:=lH ((HD1.out.keeps hk3 bA).keeps hk4 bI);have HK4:=lH ((HK2.out.trans hk3).own hk4 bF);have HB3:=lH hb3;have hz34:w2.heap.size≤w4.heap.size:=As hk3.size hk4.size;have hjn4:c.jobs.length=v'.jn:=hm4.jn;have hjl4:=hm4.jl;obtain⟨x,hx⟩:∃x,({ job0 with conn:=conn,phase:=1,line:=line } : BC)=x:=⟨_,rfl⟩;obtain⟨g,gc,w5,hrun,ho5,hk5,hge⟩:=C8 (enc:=encJob) Tryz.prog (t:=33) Tryz.underlying33 bC bE D8 I2 (v:=.slice v'.ja v'.jn v'.jc) (ys:=c.jobs) (by rw [hjn4];exact ho4) hz34 x bB 33;have HJL:Hid (c.jobs.length+1≤900):=lH (by have:=S3 (Uj HB.out);omega);rw [hjn4] at hrun ho5;have hnb:∀y∈(dI v'.ja v'.jn v'.jc).ownBlock.toList,w2.heap.size≤y:=AP ho4;have hlt1:w.heap.size+1<w2.heap.size:=HD1.out.lt;have HB5:Hid (Blk w5 w.heap.size 36 (ctlA v')):=lH (HB4.out.keeps hk5 (fun hmm=>by have:=hnb _ hmm;omega));have HB51:Hid (Blk w5 (w.heap.size+1) 36 (ctlA cv0)):=lH (HB41.out.keeps hk5 (fun hmm=>by have:=hnb _ hmm;omega));obtain⟨v'',hv''⟩:∃v'':CV,({ v' with ja:=some ⟨g,0,none⟩,jn:=v'.jn+1,jc:=gc } : CV)=v'':=⟨_,rfl⟩;have hoff:Jy w4 (dI v'.ja v'.jn v'.jc).ownBlock.toList:=fun y hy=>by
      obtain⟨cs,hcs⟩:=Em ho4 bU;exact⟨cs,_,_,hcs,by decide,by decide⟩
     have hQ:FV (·∈(dI v'.ja v'.jn v'.jc).ownBlock.toList) v' c:=by
      cases e:(dI v'.ja v'.jn v'.jc).ownBlock with
      | none=>exact(hm4.later (fun y hy=>by simp at hy)).1
      | some g0=>
       have:=hs g0 e;exact⟨this.o.mono aH,this.r.mono aH,this.d.mono aH⟩
     have HM5:Hid (Cm w5 v'' { c with jobs:=c.jobs++[x] }):=lH (by
      rw [← hv''];refine hm4.jobs hQ hk5 (fun y hy=>hy) hoff (AJ.row (xs:=c.jobs++[x]) D8 (by simpa [hjn4] using ho5)) (by simp [hjn4]) (by have:=HJL.out;omega) (fun j hj=>?_);rcases AF.1 hj with hj | hj
      ·exact hm4.js j hj
      ·obtain rfl:=Am.1 hj
       rw [← hx];exact⟨HLINE.out,(by decide:(-9223372036854775808:Int)≤0),(by decide:(0:Int)≤9223372036854775807)⟩)
     have HQ5:Hid (FV (· < w2.heap.size) v'' { c with jobs:=c.jobs++[x] }∧EA (· < w2.heap.size) v''.ja v''.jn):=lH (by
      rw [← hv''];exact⟨⟨hlo.o,hlo.r,hlo.d⟩,fun h0 g' o e hq=>by injection e with e;injection e with e _ _;omega⟩)
     have HK5:=lH (HK4.out.own hk5 (fun y hy=>by have:=hnb y hy;have:=HK2.out.size;omega));have HLT:=lH (AZ hlt hlt1);have HX:=lH hx;have r4:=HB4.out.rl;simp only [ctlA] at r4;clear hm hm4 hjn hs hlo ho ho4 hb3 hk4 hz34 hjn4 hjl4 hlt hk3 ho5 hk5 hnb hlt1 hoff hQ;obtain⟨w6,hw6⟩:=eX (w5.setCell ⟨w,8,none⟩ (dI (some ⟨g,0,none⟩) (v'.jn+1:Nat) gc));have hb6:Blk w6 w.heap.size 36 (ctlA v''):=by rw [← hw6,← hv''];exact HB5.out.set_ 8 _
     have HB6:=lH hb6;have HRG:=lH (hb6.rng 0 (ctlA v'') (fun j x hx=>by rw [BI];simpa using hx));have r5:=(show Blk w5 w.heap.size 36 (ctlA v') from HB5.out).rl;simp only [ctlA] at r5;have HB61:=lH (HB51.out.keeps (show Aa [w.heap.size] w5 w6 by rw [← hw6];exact Ae _ _ _ _) bI);have HK6:Hid (Aa [w.heap.size,w.heap.size+1] w5 w6):=lH (by rw [← hw6];exact(Ae w5 w.heap.size 8 _).mono bA);rw [← hx] at hrun;simp only [encJob,Qe,Qc,B7,A6,AX,job0,req0,Uf,Hn] at hrun;clear hb6 hv'';go_wp2_with (first | (refine wpList_store_row bD 36 _ _ bD w.heap.size (ctlA v') bD bD 36 _ HB3.out (AQ v') rfl (Bl v') ?_) | (at_builtin;refine Ar _ rfl _ _ 33 rfl rfl rfl hrun ?_) | (refine BV bD 36 _ bD w.heap.size 0 bD (ctlA v'') _ HRG.out Tryz.underlying36 rfl (AQ v'') ?_) | (refine wpList_store_row bD 36 _ _ bD (w.heap.size+1) (ctlA v'') bD bD 36 (ctlA cv0) HB61.out (AQ v'') rfl (Bl v'') ?_));simp only [Exit.jump];have hkF:Aa [w.heap.size,w.heap.size+1] w5 (w6.setRow (w.heap.size+1) (ctlA v'')):=HK6.out.trans ((Bh _ _ _).mono bA);refine bodyPost_ret (v:=.tuple #[dK (ctlA v''),dH dN 0]) ?_ rfl ⟨v'',rfl,?_,?_,HK5.out.own hkF bF⟩
     ·exact AA rfl _ _ (w.heap.size+1) 36 (ctlA v'') _ (dH dN 0) rfl rfl (HB61.out.row _) Tryz.underlying36 rfl (AQ _)
     ·have hlt:=HLT.out
      refine HM5.out.stay HQ5.out.1 HQ5.out.2 hkF bF (fun y hy=>?_);rcases Ac.1 hy with rfl | hy
      ·exact⟨_,_,_,HB5.out,by decide,by decide⟩
      ·obtain rfl:=Am.1 hy
       exact⟨_,_,_,HB51.out,by decide,by decide⟩
     ·exact E9.down HQ5.out (by have:=HLT.out;omega)
theorem Y0(v:Value)(w:World):(Cw (.iface 9 v) 20 9 true).run Tryz.prog w = .ok (.tuple #[v,dL true]) w:=by kernel_rfl
theorem Yw(v:Value)(w:World):(Cw (.iface 3 v) 20 9 true).run Tryz.prog w = .ok (.tuple #[CZ ⟨#[]⟩,dL false]) w:=by kernel_rfl
theorem Yz(v:Value)(w:World):(Cw (.iface 41 v) 20 9 true).run Tryz.prog w = .ok (.tuple #[CZ ⟨#[]⟩,dL false]) w:=by kernel_rfl
theorem Yv(v:Value)(w:World):(Cw (.iface 3 v) 20 3 true).run Tryz.prog w = .ok (.tuple #[v,dL true]) w:=by kernel_rfl
theorem Yx(v:Value)(w:World):(Cw (.iface 41 v) 20 3 true).run Tryz.prog w = .ok (.tuple #[dH dN 0,dL false]) w:=by kernel_rfl
theorem Yy(v:Value)(w:World):(Cw (.iface 41 v) 20 41 true).run Tryz.prog w = .ok (.tuple #[v,dL true]) w:=by kernel_rfl
def X7(v:Value):List Value:=[v]
abbrev NN:=AJ X7 1
def T2(w:World)(v:Value)(ws:List ByteArray):Prop:=
 (∃x,v = .iface 9 (CZ x)∧ws = [x])∨(∃n:Int,v = .iface 3 (dH dN n)∧ws = [AU n]∧-9223372036854775808≤n∧n≤9223372036854775807)∨
 (∃a n c,v = .iface 41 (dI a n c)∧ws.length=n∧IF w a c ws)
theorem T2.keeps{w w':World}{v:Value}{ws:List ByteArray}(h:T2 w v ws)(hk:Aa [] w w'):T2 w' v ws:=
 h.imp id (fun h=>h.imp id (fun⟨a,n,c,h1,h2,h3⟩=>⟨a,n,c,h1,h2,h3.keeps hk⟩))
def G9(w:World):List Value→List (List ByteArray)→Prop
 | [],[]=>True
 | v::V,x::X=>T2 w v x∧G9 w V X
 | _,_=>False
theorem G9.keeps{w w':World}(hk:Aa [] w w'):∀ {V:List Value} {X:List (List ByteArray)},G9 w V X→G9 w' V X
 | [],[],_=>trivial
 | _::_,_::_,h=>⟨h.1.keeps hk,G9.keeps hk h.2⟩
 | [],_::_,h=>h.elim
 | _::_,[],h=>h.elim
theorem G9.len{w:World}: ∀ {V:List Value} {X:List (List ByteArray)},G9 w V X→V.length=X.length
 | [],[],_=>rfl
 | _::_,_::_,h=>by simp [G9.len h.2]
 | [],_::_,h=>h.elim
 | _::_,[],h=>h.elim
theorem G9.get{w:World}: ∀ {V:List Value} {X:List (List ByteArray)},G9 w V X→∀ {k:Nat} {v:Value},V[k]? = some v→∃x,X[k]? = some x∧T2 w v x
 | v::V,x::X,h,0,u,hu=>⟨x,rfl,by simp only [Ah,Option.some.injEq] at hu;rw [← hu];exact h.1⟩
 | v::V,x::X,h,k+1,u,hu=>G9.get h.2 (by simpa using hu)
 | [],[],_,_,_,hu=>by simp at hu
 | [],_::_,h,_,_,_=>h.elim
 | _::_,[],h,_,_,_=>h.elim
theorem St{α:Type}{X:List (List α)}{k:Nat}{x:List α}(h:X[k]? = some x):(X.take (k+1)).flatten=(X.take k).flatten++x:=by
 rw [AB h,List.flatten_append];simp
theorem Rr{α:Type}{X:List (List α)}{k:Nat}: (X.take k).flatten.length≤X.flatten.length:=by
 have:X.flatten=(X.take k).flatten++(X.drop k).flatten:=by rw [← List.flatten_append,Bj]
 rw [this,Ag];omega
theorem WH(L:List ByteArray):(Hi L).1=Gf L:=by
 unfold Hi Gf;rw [show L.map JP=L.map (fun s=>s.data.toList) from rfl];cases DB (L.map fun s=>s.data.toList)<;>rfl
structure IE(w:World):Prop where
 et:Et w
 tab:Gp w
theorem IE.keeps{w w':World}(h:IE w)(hk:Aa [] w w'):IE w':=⟨h.et.keeps hk bA,h.tab.keeps hk⟩
theorem L8(a:Option Addr)(c n:Nat)(V:List Value)(X:List (List ByteArray))(hn:V.length=n)(h100:n≤100)(hx:X.flatten.length≤1000)(w:World)(hE:IE w)(hV:NN w a c V)(hX:G9 w V X):
  Calls Tryz.prog 183 #[dI a n c] w fun e w'=>e = dM (CZ (Gf X.flatten))∧Aa [] w w':=by
 have HV:=lH hV;have HX:=lH hX;have HN:=lH hn;have HFL:=lH hx;have HE:Hid (∀W,Aa [] w W→IE W):=lH fun W hk=>hE.keeps hk;clear hV hX hn hx hE;go_enter Tryz.func183,Tryz.ntmps183;go_wp2;go_loopw [3,13] (fun u i wr=>∃(k:Nat),k≤n∧i = dH dN k∧Hid (wr.ownsRow w.heap.size 9 1 u (X.take k).flatten.length ((X.take k).flatten.flatMap EZ))∧Hid (Aa [] w wr)) (fun _ i _=>n - (intOf i).toNat)
 case atStart=>exact⟨0,Cy _,rfl,lH (Bz _ _ _ _),lH (Aa.refl [] w)⟩
 case round=>
  obtain⟨k,hk,rfl,HS,HK⟩:=hrel;by_cases hlt:k<n
  ·obtain⟨g1,o1,y,rfl,hg1,hx1,hat1⟩:=(HV.out.keeps HK.out).at_k (k:=k) bO
   have q0:=hat1 0 y rfl;rw [CG,Nat.mul_one] at q0;obtain⟨x,hxk,hm⟩:=(HX.out.keeps HK.out).get hx1;have HFS:=lH (St hxk);have HL1:Hid ((X.take k).flatten.length≤1000):=lH (As Rr HFL.out);have HL2:Hid ((X.take (k+1)).flatten.length≤1000):=lH (As Rr HFL.out);obtain⟨Y,hY⟩:=eX ((X.take k).flatten);rw [hY] at HS HFS HL1;have hsz:w.heap.size≤wr.heap.size:=HK.out.size;have i1:(0:Int)≤(k:Int):=by omega
   have i2:(k:Int)<(n:Int):=by omega
   clear hat1 hx1 hxk hY hg1;rcases hm with⟨s,rfl,rfl⟩ | ⟨m,rfl,rfl,hm0,hm1⟩ | ⟨la,ll,lc,rfl,hll,hls⟩
   ·have ha:=fun W=>Y0 (CZ s) W
    obtain⟨g,gc,w3,hrun,hrow3,hk3,hge⟩:=C8 (enc:=EZ) Tryz.prog (t:=41) Tryz.underlying41 Fm bE D9 FZ HS.out hsz s (by have:=HL1.out;omega) 41;have HK3:=lH (HK.out.own hk3 (fun y hy=>AP HS.out y hy));have HR3:=lH hrow3;simp only [EZ] at hrun;clear hrow3 hk3 hge;go_wp2_with (at_builtin;refine Ar _ rfl _ _ 41 rfl rfl rfl hrun ?_);go_roundw;case rel=>exact⟨k+1,by omega,by go_num,lH (by rw [HFS.out];simpa using HR3.out),HK3⟩
    case measure=>simp [intOf];omega
   ·have ha:=fun W=>Yw (dH dN m) W
    have hb:=fun W=>Yv (dH dN m) W;go_wp2_with (fail);refine(F0 m hm0 hm1 _ (HE.out _ HK.out).tab).mono ?_;rintro e w2 ⟨rfl,hk2⟩;have hrow2:=Ak HS.out hk2 bA;obtain⟨g,gc,w3,hrun,hrow3,hk3,hge⟩:=C8 (enc:=EZ) Tryz.prog (t:=41) Tryz.underlying41 Fm bE D9 FZ hrow2 (As hsz hk2.size) (AU m) (by have:=HL1.out;omega) 41;have HK3:=lH ((HK.out.trans hk2).own hk3 (fun y hy=>AP hrow2 y hy));have HR3:=lH hrow3;simp only [EZ] at hrun;clear hrow3 hk3 hge hrow2 hk2;go_wp2_with (at_builtin;refine Ar _ rfl _ _ 41 rfl rfl rfl hrun ?_);go_roundw;case rel=>exact⟨k+1,by omega,by go_num,lH (by rw [HFS.out];simpa using HR3.out),HK3⟩
    case measure=>simp [intOf];omega
   ·have ha:=fun W=>Yz (dI la ll lc) W
    have hb:=fun W=>Yx (dI la ll lc) W;have hc:=fun W=>Yy (dI la ll lc) W;subst hll;obtain⟨i0,z,hi1,hi2,hi3,hi4,hi5⟩:=BK Fm;obtain⟨v',w3,hrun,hrow3,hgr⟩:=AJ.app Tryz.prog Tryz.underlying41 hi1 hi2 hi3 rfl hi4 bE D9 FZ HS.out hsz hls (by have h2:=HL2.out;rw [HFS.out,Ag] at h2;omega) hi5 41;have HK3:Hid (Aa [] w w3):=lH (HK.out.own ((Aa.refl (Value.ownBlock _).toList wr).grown hgr (fun k hk=>.inl Yi)) (fun y hy=>AP HS.out y hy));have HR3:=lH hrow3;clear hrow3 hgr;go_wp2_with (at_builtin;refine Ar _ rfl _ _ 41 rfl rfl rfl hrun ?_);go_roundw;case rel=>exact⟨k+1,by omega,by go_num,lH (by rw [HFS.out];exact HR3.out),HK3⟩
    case measure=>simp [intOf];omega
  ·obtain rfl:k=n:=by omega
   have ht:X.take k=X:=Ax (by rw [← HX.out.len,HN.out];exact Ap _);rw [ht] at HS;obtain⟨a9,c9,rfl,hs9,_⟩:=AJ.of_row D9 HS.out;have HS9:=lH hs9;obtain⟨m,hm⟩:=eX (X.flatten.length);rw [hm];have HM:=lH hm;clear ht hs9 hm;go_wp2_with (fail);refine(Jz a9 c9 m X.flatten HM.out (by rw [← HM.out];exact HFL.out) _ (HE.out _ HK.out).et HS9.out).mono ?_;rintro e w2 ⟨rfl,hk2⟩;have HK2:=lH (HK.out.trans hk2);clear hk2;go_wp2_with (fail);go_ret;exact⟨by rw [WH];rfl,HK2.out⟩
theorem BQ.rng{w:World}{rb:Nat}{p:Pr}(h:BQ w rb p):w.rangeAt rb 0 (reqA p.q).toList:=by
 obtain⟨a,c,hb,_⟩:=h;refine hb.rng 0 (reqA p.q) (fun j v hv=>?_);rw [BI,show Kl p.q (dI a p.l.length c) (Gs p.bad)=reqA p.q++#[dI a p.l.length c,Gs p.bad] from rfl];rw [Array.getElem?_toList] at hv;rw [Array.getElem?_append_left (Aj.1 hv).1];exact hv
theorem Sb(E:Nat→Addr)(s:ByteArray)(hs:s.size≤1000000)(w:World)(hE:Kz E w)(l:List (List UInt8))(hsp:BG s.data.toList = .ok l):
  Calls Tryz.prog 21 #[CZ s] w fun e w'=>e = dM (.tuple #[dK (reqA (Bk s).1),dH dN (Bk s).2])∧Aa [] w w':=by
 obtain⟨w0,hw0⟩:=eX (w.alloc (.cells Xt.k 63));have HK0:Hid (Aa [] w w0):=lH Zr;have HB0:Hid (Blk w0 w.heap.size 63 (reqA req0)):=lH Y9;have HE:Hid (∀W,Aa [] w W→Kz E W):=lH fun W hW=>hE.keeps hW;have HSP:=Ht s hs w0 (HE.out w0 HK0.out).r.a.et;obtain⟨V,hV⟩:=eX (Bk s);rw [hV];unfold Bk at hV;unfold Ir at HSP;clear hE;rw [hsp] at HSP hV;have hgw:=LF hsp;clear hsp;simp only [] at HSP hV;have hstr:∀x:List UInt8,CB x=str x:=fun _=>rfl;have hmap:l.map CB=l.map str:=rfl;rw [hmap] at HSP;obtain⟨L,hL⟩:=eX (l.map str);have hLn:L.length=l.length:=by rw [← hL,BX]
 have hLg:∀s∈L,s.size≤64∧GR s.data.toList:=by
  intro s hs;rw [← hL] at hs;obtain⟨x,hx,rfl⟩:=Ee.1 hs;exact⟨by rw [CC];exact(hgw x hx).1,hgw x hx⟩
 rw [hL] at HSP hV;rw [← hLn] at HSP;unfold K8 at hV;dsimp only at hV;obtain⟨p0,hp0⟩:∃p0:Pr,(⟨req0,L,false⟩:Pr)=p0:=⟨_,rfl⟩;rw [hp0] at hV;obtain⟨a,a2,ha⟩:∃a a2,p0.next=(a,a2):=⟨_,_,rfl⟩;rw [ha] at hV;simp only [] at hV;obtain⟨p1,hp1⟩:∃p1:Pr,({ a2 with q:={ a2.q with who:=a } } : Pr)=p1:=⟨_,rfl⟩;rw [hp1] at hV;obtain⟨b,b2,hb⟩:∃a a2,p1.number 1 1000000=(a,a2):=⟨_,_,rfl⟩;rw [hb] at hV;simp only [] at hV;obtain⟨p2,hp2⟩:∃p1:Pr,({ b2 with q:={ b2.q with id:=b } } : Pr)=p1:=⟨_,rfl⟩;rw [hp2] at hV;obtain⟨c,c2,hc⟩:∃a a2,p2.next=(a,a2):=⟨_,_,rfl⟩;rw [hc] at hV;simp only [] at hV;obtain⟨vb,ve,hv⟩:∃vb ve,verbR c=(vb,ve):=⟨_,_,rfl⟩;rw [hv] at hV;simp only [] at hV;obtain⟨p3,hp3⟩:∃p1:Pr,({ c2 with q:={ c2.q with com:={ c2.q.com with verb:=vb } } } : Pr)=p1:=⟨_,rfl⟩;have hp3':c2.com { c2.q.com with verb:=vb } = p3:=hp3;rw [hp3'] at hV;have HV:=lH hV;have HP0:=lH hp0;have HA:=lH ha;have HP1:=lH hp1;have HB:=lH hb;have HP2:=lH hp2;have HC:=lH hc;have HVB:=lH hv;have HP3:=lH hp3;have HLG:=lH hLg;clear hV hp0 ha hp1 hb hp2 hc hv hp3 hp3' hL hmap hstr hLg hgw hLn;obtain⟨n,hn⟩:=eX (L.length);rw [hn] at HSP;have HN:=lH hn;clear hn;go_enter Tryz.func21,Tryz.ntmps21;go_wp2_with (fail);refine HSP.mono ?_;rintro x w1 ⟨sa,sc,rfl,hm,hk1⟩;have HK1:=lH (HK0.out.trans hk1);have HB1:=lH (HB0.out.keeps hk1 bA);have HM:=lH hm;clear hk1 hw0 hm;obtain⟨wr,hwr⟩:=eX (w1.alloc (.cells #[CZ ⟨#[]⟩,dH dN 0,dH dN 0,CZ ⟨#[]⟩,dH dN 0,dH dN 0,dL false,dH dN 0,dH dN 0,dH dN 0,dH dN 0,CZ ⟨#[]⟩,dH dN 0,dH dN 0,dH dN 0,dH dN 0,dH dN 0,dI sa n sc,.nilIface] 134));have HR0:Hid (BQ wr w1.heap.size p0):=lH (by
  rw [← HP0.out];refine⟨sa,sc,?_,?_,fun h0 g o e=>?_,HLG.out⟩
  ·rw [← hwr]
   show Blk _ _ _ (Kl req0 (dI sa L.length sc) .nilIface);rw [HN.out];exact Blk.new w1 _ _
  ·rw [← hwr];exact HM.out.keeps ((Aa.refl [] w1).alloc _)
  ·obtain⟨g2,o2,e2,hlt,_⟩:=HM.out.at_ h0
   rw [e] at e2;injection e2 with e2
   injection e2 with e2
   omega)
 have HKR:Hid (Aa [] w1 wr):=lH (by rw [← hwr];exact(Aa.refl [] w1).alloc _);have HBS:Hid (Bs E w1 wr w1.heap.size):=lH ⟨HKR.out,Ap _,(HE.out w1 HK1.out).r⟩;have HN1:=EI w1.heap.size p0 wr HR0.out;rw [HA.out] at HN1;simp only [] at HN1;go_wp2_with (fail);clear hwr
 with_reducible refine HN1.mono ?_
 rintro e w2 ⟨rfl,hr2,hk2⟩;obtain⟨aa,ac,q2⟩:=hr2.rl;simp only [Kl] at q2;obtain⟨w3,hw3⟩:=eX (w2.setCell ⟨w1,0,none⟩ (CZ a));have HR3:Hid (BQ w3 w1.heap.size p1):=lH (by rw [← hw3,← HP1.out];exact hr2.set 0 (CZ a) { a2.q with who:=a } (fun _ _=>rfl));have HK3:Hid (Aa [w1.heap.size] wr w3):=lH (by rw [← hw3];exact hk2.trans (Ae w2 w1.heap.size 0 _));have HN2:=FJ E w1 w1.heap.size p1 1 1000000 w3 (HBS.out.go HK3.out) HR3.out;rw [HB.out] at HN2;simp only [] at HN2;clear hr2 hk2;go_wp2_with (fail);clear hw3 q2
 with_reducible refine HN2.mono ?_
 rintro e w4 ⟨rfl,hr4,hk4⟩;obtain⟨aa4,ac4,q4⟩:=hr4.rl;simp only [Kl] at q4;obtain⟨w5,hw5⟩:=eX (w4.setCell ⟨w1,1,none⟩ (dH dN b));have HR5:Hid (BQ w5 w1.heap.size p2):=lH (by rw [← hw5,← HP2.out];exact hr4.set 1 (dH dN b) { b2.q with id:=b } (fun _ _=>rfl));have HK5:Hid (Aa [w1.heap.size] wr w5):=lH (by rw [← hw5];exact HK3.out.trans (hk4.trans (Ae w4 w1.heap.size 1 _)));have HN3:=EI w1.heap.size p2 w5 HR5.out;rw [HC.out] at HN3;simp only [] at HN3;clear hr4 hk4;go_wp2_with (fail);clear hw5 q4
 with_reducible refine HN3.mono ?_
 rintro e w6 ⟨rfl,hr6,hk6⟩;have HK6:=lH (HK5.out.trans hk6);have HR6:=lH hr6;have HVA:=TF c w6 (HE.out w6 (HK1.out.trans (HBS.out.go HK6.out).kw)).v;rw [HVB.out] at HVA;simp only [] at HVA;clear hr6 hk6;go_wp2_with (fail)
 with_reducible refine HVA.mono ?_
 rintro e w7 ⟨rfl,hk7⟩;have hr7:=HR6.out.keep hk7;obtain⟨aa7,ac7,q7⟩:=hr7.rl;simp only [Kl] at q7;obtain⟨w8,hw8⟩:=eX (w7.setCell ⟨w1,2,none⟩ (dH dN vb));have HR8:Hid (BQ w8 w1.heap.size p3):=lH (by rw [← hw8,← HP3.out];exact hr7.set 2 (dH dN vb) { c2.q with com:={ c2.q.com with verb:=vb } } (fun _ _=>rfl));have HK8:Hid (Aa [w1.heap.size] wr w8):=lH (by rw [← hw8];exact(HK6.out.trans (hk7.mono bA)).trans (Ae w7 w1.heap.size 2 _));clear hr7 hk7 HN1 HN2 HN3 HVA;have HSZ:Hid (w.heap.size<w1.heap.size):=lH HB1.out.lt;have HBX:Hid (∀W,Aa [w1.heap.size] wr W→Aa [] w W∧Blk W w.heap.size 63 (reqA req0)∧Kz E W):=lH fun W hW=>
  have h1:=HK1.out.trans (HBS.out.go hW).kw
  ⟨h1,(HB1.out.keeps HKR.out bA).keeps hW (by simp;have:=HSZ.out;omega),HE.out W h1⟩
 by_cases hve:ve=0
 ·subst hve
  go_wp2_with (fail);clear hw8 q7;refine(SL vb w8).mono ?_;rintro e w9 ⟨g,m,rfl,hm,hbf,hk9⟩;have HRD:=Vl E w1 w1.heap.size g p3 (IW vb) m hm (by
   rw [← hm];unfold IW
   repeat' split
   all_goals (simp only [Ao,Eh];omega)) (XB E vb) w9 (HBS.out.go (HK8.out.trans (hk9.mono bA))) (HR8.out.keep hk9) hbf (by
    rintro rfl;obtain⟨_,_,hb8,_⟩:=HR8.out.keep hk9;unfold Blk at hb8 hbf;rw [hb8] at hbf;injection hbf with hbf
    injection hbf with _ ht
    exact absurd ht bE)
  have HFE:Hid ((IW vb).foldl (fun p x=>x.2 p) p3=(partsR vb).foldl (fun p f=>f p) p3):=lH (by rw [← Qo,List.foldl_map]);obtain⟨p4,hp4⟩:=eX ((IW vb).foldl (fun p x=>x.2 p) p3);rw [hp4] at HRD;have HP4:Hid ((partsR vb).foldl (fun p f=>f p) p3=p4):=lH (by rw [← HFE.out,hp4]);have HK9:Hid (Aa [w1.heap.size] wr w9):=lH (HK8.out.trans (hk9.mono bA));clear hp4 hk9 hbf hm HFE;go_wp2_with (fail)
  with_reducible refine HRD.mono ?_
  rintro e wA ⟨rfl,hrA,hkA⟩;have HKA:=lH (HK9.out.trans hkA);obtain⟨aA,cA,qA⟩:=hrA.rl;simp only [Kl] at qA;obtain⟨nA,hnA⟩:=eX (p4.l.length);rw [hnA] at qA;have HW:Hid (V=if p4.bad=true∨0<nA then(req0,193) else(p4.q,0)):=lH (by rw [← HV.out,if_neg bA,HP4.out,hnA]);obtain⟨bd,hbd⟩:=eX (p4.bad);rw [hbd] at qA HW;have hrn:=hrA.rng;obtain⟨q4,hq4⟩:=eX (p4.q);rw [hq4] at qA HW hrn;have HRN:=lH hrn;clear hrn;have HBA:=lH (HBX.out wA HKA.out).2.1;clear hrA hkA hnA hbd hq4 HRD;cases bd with
  | true=>
   have HNN:Hid (V=(req0,193)):=lH (by rw [HW.out];simp);simp only [Gs,if_true] at qA;go_wp2_with ((refine wpList_store_row bD 63 _ _ bD w.heap.size (reqA req0) bD bD 63 (reqA req0) HBA.out (B1 _) rfl (CQ _) ?_));refine bodyPost_ret (v:=.tuple #[dK (reqA req0),dH dN 193]) ?_ rfl ⟨by rw [HNN.out],?_⟩
   ·exact AA rfl _ _ w.heap.size 63 (reqA req0) _ (dH dN 193) rfl rfl (HBA.out.row _) Tryz.underlying63 rfl (B1 _)
   ·exact(HBX.out wA HKA.out).1.own (Bh _ _ _) bF
  | false=>
   simp only [Gs,Bool.false_eq_true,if_false] at qA;by_cases hnp:0<nA
   ·have HNN:Hid (V=(req0,193)):=lH (by rw [HW.out];simp [hnp])
    have f1:(0:Int)<(nA:Int):=by omega
    clear hnp;go_wp2_with ((refine wpList_store_row bD 63 _ _ bD w.heap.size (reqA req0) bD bD 63 (reqA req0) HBA.out (B1 _) rfl (CQ _) ?_));refine bodyPost_ret (v:=.tuple #[dK (reqA req0),dH dN 193]) ?_ rfl ⟨by rw [HNN.out],?_⟩
    ·exact AA rfl _ _ w.heap.size 63 (reqA req0) _ (dH dN 193) rfl rfl (HBA.out.row _) Tryz.underlying63 rfl (B1 _)
    ·exact(HBX.out wA HKA.out).1.own (Bh _ _ _) bF
   ·obtain rfl:nA=0:=by omega
    have HNN:Hid (V=(q4,0)):=lH (by rw [HW.out];simp);clear hnp;go_wp2_with (first | (refine wpList_store_row bD 63 _ _ bD w.heap.size (reqA q4) bD bD 63 (reqA req0) HBA.out (B1 _) rfl (CQ _) ?_) | (refine BV bD 63 _ bD w1.heap.size 0 bD (reqA q4) _ HRN.out Tryz.underlying63 rfl (B1 q4) ?_));refine bodyPost_ret (v:=.tuple #[dK (reqA q4),dH dN 0]) ?_ rfl ⟨by rw [HNN.out],?_⟩
    ·exact AA rfl _ _ w.heap.size 63 (reqA q4) _ (dH dN 0) rfl rfl (HBA.out.row _) Tryz.underlying63 rfl (B1 _)
    ·exact(HBX.out wA HKA.out).1.own (Bh _ _ _) bF
 ·have f1:(ve==0)=false:=by simpa using hve
  have f2:(ve != 0)=true:=by simpa using hve
  have HNN:Hid (V=(req0,193)):=lH (by rw [← HV.out,if_pos hve]);have HBA:=lH (HBX.out w8 HK8.out).2.1;clear hve;go_wp2_with ((refine wpList_store_row bD 63 _ _ bD w.heap.size (reqA req0) bD bD 63 (reqA req0) HBA.out (B1 _) rfl (CQ _) ?_));refine bodyPost_ret (v:=.tuple #[dK (reqA req0),dH dN 193]) ?_ rfl ⟨by rw [HNN.out],?_⟩
  ·exact AA rfl _ _ w.heap.size 63 (reqA req0) _ (dH dN 193) rfl rfl (HBA.out.row _) Tryz.underlying63 rfl (B1 _)
  ·exact(HBX.out w8 HK8.out).1.own (Bh _ _ _) bF
theorem Iv(E:Nat→Addr)(s:ByteArray)(hs:s.size≤1000000)(w:World)(hE:Kz E w):
  Calls Tryz.prog 21 #[CZ s] w fun e w'=>e = dM (.tuple #[dK (reqA (Bk s).1),dH dN (Bk s).2])∧Aa [] w w':=by
 cases hsp:BG s.data.toList with
 | error k=>exact PS E s hs w hE k hsp
 | ok l=>exact Sb E s hs w hE l hsp
theorem K7(w:World)(V:List Value)(n:Nat)(hn:V.length=n)(t:TypeId):NN (w.alloc (.cells V.toArray t)) (some ⟨w,0,none⟩) n V:=by
 have hb:=Blk.new w t V.toArray;exact AJ.of_blk (f:=id) (fun _=>rfl) hn (by rw [List.map_id];exact hb)
def A1(w:World)(sb:Nat)(j:BC)(v:CV)(now left:Int)(e:Gm):Prop:=
 Blk w sb 149 (I9 j (dI v.oa v.on v.oc) (dI v.r.s.ga v.gn v.r.s.gc) (dI v.r.s.ua v.un v.r.s.uc) (dI v.r.s.fa v.fn v.r.s.fc) (dI v.r.la v.ln v.r.lc) (dH dN v.seq) (dI v.pa v.pn v.pc) (dH dN v.nx) (dI v.ja v.jn v.jc) (dI v.da v.dn v.dc) now left e)
theorem A1.keeps{w w':World}{sb:Nat}{j:BC}{v:CV}{now left:Int}{e:Gm}{S:List Nat}(h:A1 w sb j v now left e)(hk:Aa S w w')(hS:sb∉S):A1 w' sb j v now left e:=Blk.keeps h hk hS
theorem ES(sb:Nat)(j:BC)(v:CV)(now left:Int)(e:Gm)(id er:Int)(hid : -9223372036854775808≤id∧id≤9223372036854775807)(her : -9223372036854775808≤er∧er≤9223372036854775807)(w:World)(hE:IE w)(h:A1 w sb j v now left e):
  Calls Tryz.prog 179 #[dJ (some ⟨sb,0,none⟩),dH dN id,dH dN er] w fun r w'=>r = dM (.tuple #[])∧A1 w' sb (j.refuses id er) v now left e∧Aa [sb] w w':=by
 obtain⟨w0,hw0⟩:=eX (w.alloc (.cells #[.iface 9 (CZ J8),.iface 3 (dH dN id),.iface 3 (dH dN er)] 20));have hk0:Aa [] w w0:=by rw [← hw0];exact(Aa.refl [] w).alloc _
 have hV:NN w0 (some ⟨w,0,none⟩) 3 [.iface 9 (CZ J8),.iface 3 (dH dN id),.iface 3 (dH dN er)]:=by rw [← hw0];exact K7 w _ 3 rfl 20
 have HS:=L8 (some ⟨w,0,none⟩) 3 3 [.iface 9 (CZ J8),.iface 3 (dH dN id),.iface 3 (dH dN er)] [[J8],[AU id],[AU er]] rfl bE bA w0 (hE.keeps hk0) hV ⟨.inl ⟨_,rfl,rfl⟩,.inr (.inl ⟨_,rfl,rfl,hid⟩),.inr (.inl ⟨_,rfl,rfl,her⟩),trivial⟩;have HB:=lH (h.keeps hk0 bA);have HK0:=lH hk0;have hew:J8=⟨#[101,114,114,111,114]⟩:=rfl;rw [hew] at hw0;clear hk0 hV h hew hid her;go_enter Tryz.func179,Tryz.ntmps179;go_wp2_with (fail);clear hw0;refine HS.mono ?_;rintro r w1 ⟨rfl,hk1⟩;have HB1:=lH (HB.out.keeps hk1 bA);have HK1:=lH (HK0.out.trans hk1);clear hk1;go_wp2_with (fail);refine(FG sb j _ _ _ _ _ _ _ _ _ _ now left e _ _ HB1.out).mono ?_;rintro r w2 ⟨rfl,hb2,hk2⟩;have HB2:=lH hb2;have HK2:=lH (Aa.trans (HK1.out.mono bA) hk2);clear hb2 hk2;go_wp2_with (fail)
 go_end0
 exact⟨rfl,HB2.out,HK2.out⟩
def QA(j:BC):BC:=if(Bk j.line).2≠0 then BC.refuses { j with req:=(Bk j.line).1 } 0 193 else { j with req:=(Bk j.line).1,phase:=2 }
theorem V8(j:BC)(x0 x1 x2 x3 x4 x5 x6 x7 x8 x9:Value)(now left:Int)(e:Gm):(I9 j x0 x1 x2 x3 x4 x5 x6 x7 x8 x9 now left e).size=40:=by kernel_rfl
theorem WU(j:BC)(x0 x1 x2 x3 x4 x5 x6 x7 x8 x9:Value)(now left:Int)(e:Gm)(q:PC):Im (I9 j x0 x1 x2 x3 x4 x5 x6 x7 x8 x9 now left e) 3 (reqA q).toList=I9 { j with req:=q } x0 x1 x2 x3 x4 x5 x6 x7 x8 x9 now left e:=by kernel_rfl
theorem Tf(j:BC)(x0 x1 x2 x3 x4 x5 x6 x7 x8 x9:Value)(now left:Int)(e:Gm)(k:Int):(I9 j x0 x1 x2 x3 x4 x5 x6 x7 x8 x9 now left e).setIfInBounds 1 (dH dN k)=I9 { j with phase:=k } x0 x1 x2 x3 x4 x5 x6 x7 x8 x9 now left e:=by kernel_rfl
theorem V7(j:BC)(x0 x1 x2 x3 x4 x5 x6 x7 x8 x9:Value)(now left:Int)(e:Gm)(k:Int):(I9 j x0 x1 x2 x3 x4 x5 x6 x7 x8 x9 now left e).setIfInBounds 20 (dH dN k)=I9 { j with role:=k } x0 x1 x2 x3 x4 x5 x6 x7 x8 x9 now left e:=by kernel_rfl
theorem A1.req{w:World}{sb:Nat}{j:BC}{v:CV}{now left:Int}{e:Gm}(h:A1 w sb j v now left e)(q:PC):A1 (w.setCells sb 3 (reqA q).toList) sb { j with req:=q } v now left e:=by
 unfold A1;rw [← WU];exact Blk.puts (reqA q).toList 3 h
theorem A1.phase{w:World}{sb:Nat}{j:BC}{v:CV}{now left:Int}{e:Gm}(h:A1 w sb j v now left e)(k:Int):A1 (w.setCell ⟨sb,1,none⟩ (dH dN k)) sb { j with phase:=k } v now left e:=by
 unfold A1;rw [← Tf];exact Blk.set_ h 1 _
theorem A1.role{w:World}{sb:Nat}{j:BC}{v:CV}{now left:Int}{e:Gm}(h:A1 w sb j v now left e)(k:Int):A1 (w.setCell ⟨sb,20,none⟩ (dH dN k)) sb { j with role:=k } v now left e:=by
 unfold A1;rw [← V7];exact Blk.set_ h 20 _
theorem A1.there{w:World}{sb:Nat}{j:BC}{v:CV}{now left:Int}{e:Gm}(h:A1 w sb j v now left e)(o n:Nat)(hn:o+n≤40):w.there sb o n:=Blk.there h o n (by rw [V8];exact hn)
theorem A1.cell{w:World}{sb:Nat}{j:BC}{v:CV}{now left:Int}{e:Gm}(h:A1 w sb j v now left e)(i:Nat):w.cell? ⟨sb,i,none⟩=(I9 j (dI v.oa v.on v.oc) (dI v.r.s.ga v.gn v.r.s.gc) (dI v.r.s.ua v.un v.r.s.uc) (dI v.r.s.fa v.fn v.r.s.fc) (dI v.r.la v.ln v.r.lc) (dH dN v.seq) (dI v.pa v.pn v.pc) (dH dN v.nx) (dI v.ja v.jn v.jc) (dI v.da v.dn v.dc) now left e)[i]?:=Blk.cell h i
theorem A1.lit{w:World}{sb:Nat}{j:BC}{v:CV}{now left:Int}{e:Gm}(h:A1 w sb j v now left e):Blk w sb 149 #[dH dN j.conn,dH dN j.phase,CZ j.line,CZ j.req.who,dH dN j.req.id,dH dN j.req.com.verb,CZ j.req.com.name,dH dN j.req.com.want,dH dN j.req.com.at_,dL j.req.com.rule.allow,dH dN j.req.com.rule.addr,dH dN j.req.com.rule.bits,dH dN j.req.com.rule.from_,dH dN j.req.com.rule.to_,CZ j.req.com.key,dH dN j.req.com.n,dH dN j.req.com.m,dH dN j.req.count,dH dN j.req.cursor,dH dN j.req.from_,dH dN j.role,CZ j.reply,dH dN j.slot,dH dN j.gen,dI v.oa v.on v.oc,dI v.r.s.ga v.gn v.r.s.gc,dI v.r.s.ua v.un v.r.s.uc,dI v.r.s.fa v.fn v.r.s.fc,dI v.r.la v.ln v.r.lc,dH dN v.seq,dI v.pa v.pn v.pc,dH dN v.nx,dI v.ja v.jn v.jc,dI v.da v.dn v.dc,dH dN now,dH dN left,dH dN e.kind,dH dN e.slot,dH dN e.gen,CZ e.text]:=h
theorem Mh(E:Nat→Addr)(sb:Nat)(j:BC)(v:CV)(now left:Int)(e:Gm)(hl:j.line.size≤1000000)(wb w:World)(hE:Kz E wb)(hbw:Aa [] wb w)(hsb:wb.heap.size≤sb)(h:A1 w sb j v now left e):
  Calls Tryz.prog 122 #[dJ (some ⟨sb,0,none⟩)] w fun r w'=>r = dM (.tuple #[])∧A1 w' sb (QA j) v now left e∧Aa [sb] w w':=by
 have HP:=Iv E j.line hl w (hE.keeps hbw);have c2:w.cell? ⟨sb,2,none⟩=some (CZ j.line):=Blk.cell h 2;have HE:Hid (∀W,Aa [] wb W→IE W):=lH fun W hk=>⟨(hE.keeps hk).r.a.et,(hE.keeps hk).r.a.tab⟩;have HBW:=lH hbw;have HSB:=lH hsb;have HB:=lH h;obtain⟨R,hR⟩:=eX (Bk j.line);have HJ:Hid (QA j=if R.2≠0 then BC.refuses { j with req:=R.1 } 0 193 else { j with req:=R.1,phase:=2 }):=lH (by unfold QA;rw [hR]);rw [hR] at HP;obtain⟨q,er⟩:=R;clear h hR hl hE hbw hsb;go_enter Tryz.func122,Tryz.ntmps122;go_wp2_with (fail);refine HP.mono ?_;rintro r w1 ⟨rfl,hk1⟩;obtain⟨w2,hw2⟩:=eX (w1.alloc (.cells (reqA q) 63));have hk2:Aa [] w1 w2:=by rw [← hw2];exact(Aa.refl [] w1).alloc _
 have HQ:Hid (Blk w2 w1.heap.size 63 (reqA q)):=lH (by rw [← hw2];exact Blk.new w1 _ _);have HRG:=lH (HQ.out.rng 0 (reqA q) (fun j x hx=>by rw [BI];simpa using hx));have HB2:Hid (A1 w2 sb j v now left e):=lH (A1.keeps HB.out (hk1.trans hk2) bA);have HT:=lH (A1.there HB2.out 3 17 bE);have HK2:=lH (hk1.trans hk2);have HB3:=lH (HB2.out.req q);have HK3:=lH (AM sb 3 (reqA q).toList w2);obtain⟨w3,hw3⟩:=eX (w2.setCells sb 3 (reqA q).toList);rw [hw3] at HB3 HK3;clear hk1 hk2 c2 HP;by_cases h0:er=0
 ·subst h0
  have r3:=(A1.lit HB3.out).rl;go_wp2_with (first | (refine wpList_store_row bD 63 _ _ bD w1.heap.size (reqA q) bD bD 63 (reqA req0) (Blk.new w1 _ _) (B1 _) rfl (CQ _) ?_;rw [World.setRow_alloc_new]) | (refine BV bD 63 _ bD w1.heap.size 0 bD (reqA q) _ HRG.out Tryz.underlying63 rfl (B1 q) ?_) | (refine wpList_store_mid bD 63 _ _ bD sb 3 (reqA q) bD bD HT.out (B1 q) (CQ q) ?_))
  go_end0
  refine⟨rfl,by rw [HJ.out,if_neg bA];exact A1.phase HB3.out 2,Aa.trans (Aa.trans (HK2.out.mono bA) HK3.out) (Ae _ _ _ _)⟩
 ·have f1:(er != 0)=true:=by simpa using h0
  have HN0:=lH h0;clear h0;go_wp2_with (first | (refine wpList_store_row bD 63 _ _ bD w1.heap.size (reqA q) bD bD 63 (reqA req0) (Blk.new w1 _ _) (B1 _) rfl (CQ _) ?_;rw [World.setRow_alloc_new]) | (refine BV bD 63 _ bD w1.heap.size 0 bD (reqA q) _ HRG.out Tryz.underlying63 rfl (B1 q) ?_) | (refine wpList_store_mid bD 63 _ _ bD sb 3 (reqA q) bD bD HT.out (B1 q) (CQ q) ?_));refine(ES sb { j with req:=q } v now left e 0 193 ⟨by decide,by decide⟩ ⟨by decide,by decide⟩ _ (HE.out _ ?_) HB3.out).mono ?_
  ·exact(HBW.out.trans HK2.out).own HK3.out (fun y hy=>by obtain rfl:=Am.1 hy;exact HSB.out)
  rintro r w4 ⟨rfl,hb4,hk4⟩;have HB4:=lH hb4;have HK4:=lH (Aa.trans (Aa.trans (HK2.out.mono bA) HK3.out) hk4);clear hb4 hk4;go_wp2_with (fail);exact bodyPost_ret (results_none rfl _ _ _) rfl ⟨rfl,by rw [HJ.out,if_pos HN0.out];exact HB4.out,HK4.out⟩
def Xw(j:BC)(ops:List Kp):BC:=if(Fh ops j.req.who).2≠0 then BC.refuses { j with role:=(Fh ops j.req.who).1 } j.req.id (Fh ops j.req.who).2 else { j with role:=(Fh ops j.req.who).1,phase:=3 }
theorem U4(L:List Kp)(name:ByteArray): -9223372036854775808≤(Fh L name).2∧(Fh L name).2≤9223372036854775807:=by
 unfold Fh
 repeat' split
 all_goals (simp;try omega)
theorem NZ(sb:Nat)(j:BC)(v:CV)(c:D2)(now left:Int)(e:Gm)(hid : -9223372036854775808≤j.req.id∧j.req.id≤9223372036854775807)(wb w:World)(hE:IE wb)(hbw:Aa [] wb w)(hsb:wb.heap.size≤sb)(hm:Cm w v c)(h:A1 w sb j v now left e):
  Calls Tryz.prog 123 #[dJ (some ⟨sb,0,none⟩)] w fun r w'=>r = dM (.tuple #[])∧A1 w' sb (Xw j c.ops) v now left e∧Aa [sb] w w':=by
 have HE:Hid (∀W,Aa [] wb W→IE W):=lH fun W hk=>hE.keeps hk;have HBW:=lH hbw;have HSB:=lH hsb;have HB:=lH h;have HM:=lH hm;have HID:=lH hid;have HFE:=lH (U4 c.ops j.req.who);obtain⟨R,hR⟩:=eX (Fh c.ops j.req.who);have HJ:Hid (Xw j c.ops=if R.2≠0 then BC.refuses { j with role:=R.1 } j.req.id R.2 else { j with role:=R.1,phase:=3 }):=lH (by unfold Xw;rw [hR]);rw [hR] at HFE;obtain⟨ro,er⟩:=R;have HF:=lH (fun W (hk:Aa [] w W)=>SG v.oa v.oc c.ops v.on HM.out.on (by have:=HM.out.ol;omega) HM.out.os j.req.who ro er hR W (HM.out.o.keeps hk));have r:=(A1.lit h).rl;clear h hE hbw hsb hm hid hR;go_enter Tryz.func123,Tryz.ntmps123;go_upto_region 0 with(fail)
 go_cut [2,3] (fun x y wc=>x = dH dN ro∧y = dH dN er∧Hid (Aa [] w wc))
 case first=>
  refine wp_region_held_drew (S:=(Aa [] w)) bC (by((try dsimp only);((try with_reducible refine Aa.drew ?_);with_reducible (first | exact hk1 | exact Aa.refl _ _)))) (fun hHeld=>?_);refine rK 0 ?_;refine rK 1 ?_;refine rK 2 ?_;refine rK 3 ?_;refine rK 4 ?_;refine rK 5 ?_;refine rK 6 ?_;refine rK 7 ?_;refine rK 8 ?_;refine rK 9 ?_;refine rK 10 ?_;refine rC 11 fun K hK=>?_;go_simp
  (refine(HF.out _ hHeld).mono ?_;rintro e1 w1 ⟨rfl,hk1⟩;have hk1:=((Aa.refl [] w).drew).trans hk1)
  (try clear rH);refine rP hK (by((try dsimp only);((try with_reducible refine Aa.drew ?_);with_reducible (first | exact hk1 | exact Aa.refl _ _)))) fun rH hHeld=>?_;clear hK K
  refine rK 12 ?_;refine rK 13 ?_;refine rK 14 ?_;refine rK 15 ?_;refine rK 16 ?_;refine wpAnyH_done bC ?_ _
  (go_wp2_with (fail);go_meet;exact⟨rfl,rfl,lH hk1⟩)
 case rest=>
  obtain⟨rfl,rfl,HK1⟩:=hcut
  rename World=>w1
  clear r;have HB1:Hid (A1 w1 sb j v now left e):=lH (HB.out.keeps HK1.out bA);have r1:=(A1.lit HB1.out).rl;obtain⟨w2,hw2⟩:=eX (w1.setCell ⟨sb,20,none⟩ (dH dN ro));have HB2:Hid (A1 w2 sb { j with role:=ro } v now left e):=lH (by rw [← hw2];exact A1.role HB1.out ro);have HK2:Hid (Aa [sb] w w2):=lH ((HK1.out.mono bA).trans (by rw [← hw2];exact Ae _ _ _ _));have r2:=(A1.lit HB2.out).rl;by_cases h0:er=0
  ·subst h0
   go_wp2_with (fail)
   go_end0
   exact⟨rfl,by rw [HJ.out,if_neg bA];exact A1.phase HB2.out 3,HK2.out.trans (Ae _ _ _ _)⟩
  ·have f1:(er != 0)=true:=by simpa using h0
   have HN0:=lH h0;clear h0;go_wp2_with (fail);refine(ES sb { j with role:=ro } v now left e j.req.id er HID.out HFE.out _ (HE.out _ (HBW.out.own HK2.out (fun y hy=>by obtain rfl:=Am.1 hy;exact HSB.out))) HB2.out).mono ?_;rintro r w4 ⟨rfl,hb4,hk4⟩;have HB4:=lH hb4;have HK4:=lH (HK2.out.trans hk4);clear hb4 hk4;go_wp2_with (fail);exact bodyPost_ret (results_none rfl _ _ _) rfl ⟨rfl,by rw [HJ.out,if_pos HN0.out];exact HB4.out,HK4.out⟩
end
end Go.Proofs.YtcjdkbgdahgjbaaGreatDoor
