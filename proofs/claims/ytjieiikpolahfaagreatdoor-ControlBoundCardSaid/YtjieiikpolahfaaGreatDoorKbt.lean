/- ControlBound: a job is replied to behind four steps, and one for each tunnel that it stops; what is right stays right. -/
import Derived.Test.YtjieiikpolahfaaGreatDoorKax
import Derived.Test.YtjieiikpolahfaaGreatDoorKay
import Derived.Test.YtjieiikpolahfaaGreatDoorKbg
import Derived.Test.YtjieiikpolahfaaGreatDoorKbk
import Derived.Test.YtjieiikpolahfaaGreatDoorKbs
import Derived.Test.YtjieiikpolahfaaGreatDoorKbu
import Derived.BigRegion
set_option maxRecDepth 100000
set_option maxHeartbeats 8000000
set_option linter.all false
namespace Go.Proofs.YtjieiikpolahfaaGreatDoor
open Go.Proofs.Tryz
open Act renaming put→By
open _root_.ByteArray renaming empty→Bh
open Ending renaming returned→pJ
open IntKind renaming i64→pK
open _root_.List renaming all_eq_true→Bm
open _root_.Nat renaming le_refl→Aw,zero_add→AW,zero_le→Ba
open Oper renaming semAt_some→pN
open Value renaming agg→pH,bool→pI,int→pE,slice→pF,string→Dz
section
open Go.RowKit Go.Shelf
attribute [local go_sem] pN Lr Ls Lp Lq
attribute [local go_sem ↓] wp_at_zero wp_at_succ
theorem Kn(v0:CV)(k0:BN)(conn now:Int)(s:ByteArray)(left:Int)(w:World)(hA:GY w v0 k0)(hE:Gu w):
  Calls prog 3 #[pH (ctlA v0),I_ conn,I_ now,Dz s,I_ left] w fun r w'=>r = pJ (pI true)/\Aa [] w w':=by
 rw [show ctlA v0=(C_ v0) from rfl];obtain⟨c,hc⟩:=eX (MU k0);have HC:=lH hc;obtain⟨t,ht⟩:=eX (F0 s);have HT:=lH ht;have HTS:Hi (t.size<=310):=lH kN;clear ht;have HA:=lH hA;have HE:Hi (∀W,Aa [] w W->Gu W):=lH fun W hk=>hE.keeps hk;obtain⟨w0,hw0⟩:=eX (w.alloc (.cells (C_ v0) 36));have HK0:Hi (Aa [] w w0):=lH aX;have hb:Blk w0 w 36 (ctlA v0):=by rw [<- hw0];exact Blk.new w _ _
 obtain⟨bc,hbc⟩:=eX w.heap.size;have HLc:Hi (w.heap.size<=bc):=lH (Nat.le_of_eq hbc);rw [hbc] at hb;have a9:Hi (Blk w0 bc 36 (ctlA v0)):=lH hb;clear hA hE hb hc;go_enter func3,ntmps3;go_wp2_with fail;try rw [hbc]
 clear hw0 hbc;refine(GD w0 (HE.o _ HK0.o)).mono ?_;rintro r w1 ⟨rfl,hk⟩;have HK1:=lH (HK0.o.trans hk);have ac:=lH (a9.o.keeps hk bA);clear hk HK0 a9;have HG:=lH (Blk.rng (cs:=(ctlA v0)) ac.o 0 (ctlA v0) (fun j x hx=>by rw [AW];simpa using hx));go_wp2_with (refine Ay bD 36 _ bD bc 0 bD (ctlA v0) _ HG.o underlying36 rfl (AD _) ?_);clear HG;refine(Hm v0 k0 w HA.o w1 HK1.o).mono ?_;rw [HC.o];rintro r w2 ⟨v,rfl,hm,hn,hk⟩;have HN:Hi ((DU (fun y=>w.heap.size<=y/\y<w1.heap.size) v c)/\DW (fun y=>w.heap.size<=y/\y<w1.heap.size) v.ja v.jn):=lH hn;have HLT:Hi (bc<w1.heap.size):=lH ac.o.lt;have av:=lH hm;clear hn hm;have HK2:=lH (HK1.o.trans hk);have ah:=lH (ac.o.keeps hk bA);clear hk HK1 ac;go_upto_region 3 with(refine As bD 36 _ _ bD bc (ctlA v) bD bD 36 (ctlA v0) ah.o rfl (AD _) (Bc _) ?_;intro w3 hb hk)
 try simp only [By]
 have b7:=lH (av.o.stay HN.o.1 HN.o.2 hk gI (H9.blk ah.o bE bE));have b6:=lH (HK2.o.own hk gJ);have J:=lH hb;clear hb hk HK2 ah av HA;go_wp2_with fail;refine(EU s _).mono ?_;rintro r w' ⟨rfl,rfl⟩;rw [HT.o];obtain⟨x0,bw⟩:=eX ((if left<0 then(0:Int) else left));have hx1:max left 0=x0:=by rw [<- bw];split<;>omega
 obtain⟨m,hm⟩:∃m:Nat,(if(20:Int)<x0 then(20:Int) else x0)=(m:Int):=⟨(if(20:Int)<x0 then(20:Int) else x0).toNat,by split<;>split at bw<;>omega⟩;have cv:min x0 20=(m:Int):=by rw [<- hm];split<;>omega
 have bh:Hi (m<=20):=lH (by split at hm<;>omega);have f9:w3.frozen? (A_ bc 9)=false:=J.o.frozen 9;have c9:w3.cell? (A_ bc 9)=some (pF v.da v.dn v.dc):=J.o.cell 9;go_upto_region 6 with fail
 try simp only [By]
 clear bw hx1 hm cv f9 c9;have hb:=J.o.set_ 9 (pF none 0 0);have hk:=Ae w3 bc 9 (pF none 0 0);generalize w3.setCell (A_ bc 9) (pF none 0 0)=w4 at hb hk ⊢;have HM4:=lH (b7.o.stay HN.o.1 HN.o.2 hk gI (H9.blk J.o bE bE));have HK4:=lH (b6.o.own hk gJ);have HB4:=lH hb;clear hb hk b7 b6 J;obtain⟨v2,hv2⟩:∃y,({ v with da:=none,dn:=0,dc:=0,pa:=none,pn:=0,pc:=0,pv:=[],nx:=1 } : CV)=y:=⟨_,rfl⟩;obtain⟨c2,bu⟩:∃y,({ c with done:=[],pool:=⟨[],1⟩ } : BN)=y:=⟨_,rfl⟩;go_upto_region 7 with(refine Kq bD 32 _ _ bD bc 6 #[pF none 0 0,I_ 1] bD bD 36 _ HB4.o (by simp [ctlA]) bC aG (ctlA { v with da:=none,dn:=0,dc:=0,pa:=none,pn:=0,pc:=0,pv:=[],nx:=1 }) bD ?_;intro w5 hb hk)
 try simp only [By]
 rw [hv2] at hb;have b8:=HM4.o.stay HN.o.1 HN.o.2 hk gI (H9.blk HB4.o bE bE);have X:Hi (Cg w5 v2 c2):=lH (by rw [<- hv2,<- bu];exact { b8 with p:=⟨Aw _,Ba _,fun h=>absurd rfl h,trivial⟩,pn:=rfl,pl:=Ba _,nx:=rfl,d:=AR.none_,dn:=rfl,dl:=Ba _ });have b2:Hi (c2.done = []/\c2.pool=⟨[],1⟩):=lH (by rw [<- bu];exact⟨rfl,rfl⟩);have HK5:=lH (HK4.o.own hk gJ);have ai:=lH hb;clear hb hk HM4 b8 HK4 HB4 hv2 bu HN HLT HC;have HG:=lH (Blk.rng (cs:=(ctlA v2)) ai.o 0 (ctlA v2) (fun j x hx=>by rw [AW];simpa using hx));obtain⟨d,e1,hd⟩:∃x1 x2,Fj c2 conn t=(x1,x2):=⟨_,_,rfl⟩;have cd:=lH hd;have bl:=OH v2 c2 conn t aH w5 (HE.o _ HK5.o).s.et X.o;rw [hd] at bl;clear hd;go_wp2_with (refine Ay bD 36 _ bD bc 0 bD (ctlA v2) _ HG.o underlying36 rfl (AD _) ?_);clear HG;refine bl.mono ?_;rintro r w6 ⟨vd,rfl,hm,_,hk⟩;have ay:=lH hm;clear hm bl;have bq:=lH (HK5.o.trans hk);have ba:=lH (ai.o.keeps hk bA);have ax:=lH (X.o.keeps hk);clear hk HK5 ai X;have ca:=ay;have cg:Hi (Aa [] w6 w6):=lH (Aa.refl [] w6);go_upto_region 8 with(refine As bD 36 _ _ bD w6 (ctlA vd) bD bD 36 Hh.k (Blk.new w6 _ _) rfl (AD _) (Bc _) ?_;intro w7 hb hk)
 try simp only [By]
 have HLd:Hi (w.heap.size<=w6.heap.size):=lH bq.o.size;obtain⟨bd,bs⟩:=eX w6.heap.size;have HLz:Hi (w6.heap.size<=bd):=lH (Nat.le_of_eq bs);replace hk:Aa [] w6 w7:=((Aa.refl [] w6).alloc _).own hk QW;rw [bs] at hb HLd ⊢;clear bs;have HK7:=lH (bq.o.trans hk);have c3:=lH (ba.o.keeps hk bA);have cr:=lH (ax.o.keeps hk);have c4:=lH (ay.o.keeps hk);have HZ7:=lH (cg.o.trans hk);clear hk bq ba ax ay cg;have b1:Hi (Blk w7 bd 36 (ctlA vd)):=lH hb;clear hb;by_cases he:e1=0;rotate_left
 ·have f1:(e1 != 0)=true:=by simpa using he
  clear he;go_wp2_with fail;go_ret;exact⟨rfl,HK7.o⟩
 subst he;by_cases n1:now<0
 ·have f3:decide (now<0)=true:=decide_eq_true n1
  clear n1;go_wp2_with fail;go_ret;exact⟨rfl,HK7.o⟩
 have f3:decide (now<0)=false:=decide_eq_false n1;by_cases n2:now>1000000000000
 ·have f4:decide (now>1000000000000)=true:=decide_eq_true n2
  clear n2;go_wp2_with fail;go_ret;exact⟨rfl,HK7.o⟩
 have f4:decide (now>1000000000000)=false:=decide_eq_false n2;have b0:Hi (EG 25 d conn now m=true):=lH (by have h:=V8 (c:=c2) (conn:=conn) (now:=now) (line:=t) bh.o b2.o.1 b2.o.2 (by rw [cd.o]) ⟨by omega,by omega⟩;rw [cd.o] at h;exact h);clear n1 n2;have b9:Hi (∀W,Aa [bd] w7 W->Cg W vd d):=lH fun W hW=>ca.o.keeps (HZ7.o.own hW nX);go_wp2_with fail;clear f3 f4;go_loopw [4,14] (fun s4 bz wr=>∃(k:Nat) (l:Int) (vk:CV) (ck:BN),k<=25/\s4 = I_ l/\bz = I_ k/\Hi (-(k:Int)<=l/\l<=20)/\Hi (Blk wr bd 36 (ctlA vk))/\Hi (∀W,Aa [bd] wr W->Cg W vk ck)/\Hi (EG (25 - k) ck conn now l=true)/\Hi (Aa [] w wr)) (fun _ bz _=>25 - (intOf bz).toNat)
 case atStart=>exact⟨0,m,vd,d,by omega,rfl,rfl,lH ⟨by omega,by have:=bh.o;omega⟩,b1,b9,b0,HK7⟩
 case round=>
  obtain⟨k,l,vk,ck,df,rfl,rfl,HLB,HBD,U,bm,HKR⟩:=hrel;clear b0 b9;by_cases hlt:k<25;rotate_left
  ·obtain rfl:k=25:=bB;have h:=bm.o;rw [Nat.sub_self] at h;exact absurd h (by simp [EG])
  have i1:(k:Int)<25:=bB;obtain⟨m2,cl⟩:∃y,25 - k=y+1:=⟨24 - k,by omega⟩;have av:Hi (25 - (k+1)=m2):=lH bB;obtain⟨⟨n,D,fe⟩,hS⟩:∃S,EC ck conn now l=S:=⟨_,rfl⟩;have hB:=bm.o;rw [cl] at hB;unfold EG at hB;rw [hS] at hB;dsimp only at hB;have hg:¬(fe≠0\/JY n=false):=fun h=>by rw [if_pos h] at hB;cases hB
  rw [if_neg hg] at hB;obtain rfl:fe=0:=Classical.byContradiction fun h=>hg (.inl h);have ci:JY n=true:=by cases h:JY n with | true=>rfl | false=>exact absurd (.inr h) hg
  have HBN:=lH hB;have HST:=OJ vk ck conn now l wr (HE.o _ HKR.o) (U.o wr ((Aa.refl [] wr).mono bA));rw [hS] at HST;clear hS hg hB cl hlt;have HG:=lH (Blk.rng (cs:=(ctlA vk)) HBD.o 0 (ctlA vk) (fun j x hx=>by rw [AW];simpa using hx));go_wp2_with (refine Ay bD 36 _ bD bd 0 bD (ctlA vk) _ HG.o underlying36 rfl (AD _) ?_);clear HG;refine HST.mono ?_;rintro e ab ⟨B,rfl,cm,hn3,hk⟩;have cc:Hi (Fo wr B n/\bd<wr.heap.size):=lH ⟨hn3,HBD.o.lt⟩;have aw:=lH cm;have bb:=lH (HKR.o.trans hk);have M:=lH (HBD.o.keeps hk bA);clear cm hn3 hk HST HKR HBD U bm;go_upto_region 14 with(first | (refine As bD 36 _ _ bD ab (ctlA B) bD bD 36 Hh.k ((Blk.new ab _ _).alloc _) rfl (AD B) (Bc B) ?_;intro w4 hb4 hk4) | (refine As bD 46 _ _ bD (ab+1) (effA D) bD bD 46 #[pE pK 0,I_ 0,I_ 0,Dz ⟨#[]⟩] ((Ar _ _ _ _ bA).keeps hk4 bA) rfl (Ji _) (J7 _) ?_;intro w21 br hk5))
  try simp only [By]
  have hk:Aa [] ab w21:=((((Aa.refl [] ab).alloc _).alloc _).own hk4 bF).own hk5 bF;have a5:Blk w21 ab 36 (ctlA B):=hb4.keeps hk5 bA;obtain⟨bx,bt⟩:=eX ab.heap.size;have cf:Hi (bd<bx):=lH (bt▸M.o.lt);rw [bt] at a5 br ⊢;clear bt hb4 hk4 hk5;have az:=aw;clear aw;have be:=lH (bb.o.trans hk);have aj:=lH (M.o.keeps hk bA);have Y:=lH (az.o.keeps hk);clear hk bb M az;have O:=lH a5;have ao:Hi (Blk w21 (bx+1) 46 #[pE pK D.kind,I_ D.slot,I_ D.gen,Dz D.text]):=lH br;clear a5 br;have HR:=Ij B n true ci w21 Y.o;clear ci;have b4:=lH (Blk.rng (cs:=(ctlA B)) O.o 0 (ctlA B) (fun j x hx=>by rw [AW];simpa using hx));go_wp2_with (refine I7 36 _ bD bD bx 0 bD (ctlA B) _ b4.o underlying36 rfl (AD _) ?_);refine HR.mono ?_;rintro r dp ⟨rfl,hk⟩;clear HR b4;have bg:=lH (be.o.trans hk);have N:=lH (aj.o.keeps hk bA);have a0:=lH (Y.o.keeps hk);have an:=lH (O.o.keeps hk bA);have ap:=lH (ao.o.keeps hk bA);clear hk be aj Y O ao;have HG:=lH (Blk.rng (cs:=(ctlA B)) an.o 0 (ctlA B) (fun j x hx=>by rw [AW];simpa using hx));go_upto_region 17 with(first | (refine Ay bD 36 _ bD bx 0 bD (ctlA B) _ HG.o underlying36 rfl (AD _) ?_) | (refine As bD 36 _ _ bD bd (ctlA B) bD bD 36 (ctlA vk) N.o rfl (AD B) (Bc B) ?_;intro ae hb hk))
  try simp only [By]
  clear HG;have ne1:¬bx=bd:=by have:=cf.o;omega
  have ne2:¬bx+1=bd:=by have:=cf.o;omega
  have ad:=lH (bg.o.own hk nY);have G:=lH (ap.o.keeps hk (by simpa using ne2));have U:Hi (∀W,Aa [bd] ae W->Cg W B n):=lH fun W hW=>a0.o.put cc.o.1 cc.o.2 N.o bE bE (hk.trans hW);have E:=lH hb;clear hb hk bg ap an a0 N ne1 ne2;have y0:ae.cell? ⟨bx+1,0,none⟩=some (I_ D.kind):=G.o.cell 0;by_cases k1:D.kind=1
  ·have f1:(D.kind==1)=true:=by simpa using k1
   have f2:(D.kind==2)=false:=by rw [k1];rfl
   have hB:EG m2 n conn now (l - 1)=true:=by have h:=HBN.o;rw [if_neg (by rw [k1];decide),if_pos k1] at h;exact h
   have HB2:=lH hB;have i2:wrap64 (l - 1)=l - 1:=IntWalk.wrap64_in _ mC;have i3:IntKind.i64.wrap (l - 1)=l - 1:=IntWalk.i64_in _ mC;clear hB k1;go_wp2_with fail;go_roundw;case rel=>exact⟨k+1,l - 1,B,n,by omega,rfl,by go_num,lH mC,E,U,lH (by rw [av.o];exact HB2.o),ad⟩
   case measure=>(first | exact Fu K3 K3 | (simp [intOf];omega))
  have f1:(D.kind==1)=false:=by simpa using k1
  by_cases k2:D.kind=2;rotate_left
  ·have f2:(D.kind==2)=false:=by simpa using k2
   have hB:EG m2 n conn now l=true:=by have h:=HBN.o;rw [if_neg k2,if_neg k1] at h;exact h
   have HB2:=lH hB;clear hB k1 k2;go_wp2_with fail;go_roundw;case rel=>exact⟨k+1,l,B,n,by omega,rfl,by go_num,lH mC,E,U,lH (by rw [av.o];exact HB2.o),ad⟩
   case measure=>(first | exact Fu K3 K3 | (simp [intOf];omega))
  have f2:(D.kind==2)=true:=by simpa using k2
  have HB2:Hi ((!(Ma n conn).2&&KT D.text&&decide (D.text≠⟨#[]⟩))=true):=lH (by have h:=HBN.o;rw [if_pos k2] at h;exact h);clear k1 k2 HBN;have F:=lH (U.o ae ((Aa.refl [] ae).mono bA));clear U y0;have y0:ae.cell? ⟨bx+1,0,none⟩=some (I_ D.kind):=G.o.cell 0;have HG:=lH (Blk.rng (cs:=(ctlA B)) E.o 0 (ctlA B) (fun j x hx=>by rw [AW];simpa using hx));obtain⟨j0,bi,bv⟩:∃x1 x2,Ma n conn=(x1,x2):=⟨_,_,rfl⟩;have b3:=lH bv;have bp:=OI (pF B.oa B.on B.oc) (pF B.r.s.ga B.gn B.r.s.gc) (pF B.r.s.ua B.un B.r.s.uc) (pF B.r.s.fa B.fn B.r.s.fc) (pF B.r.la B.ln B.r.lc) (I_ B.seq) (pF B.pa B.pn B.pc) (I_ B.nx) (pF B.da B.dn B.dc) B.ja B.jn B.jc n.jobs F.o.jn (by have:=F.o.jl;omega) conn ae F.o.j;rw [show OV n.jobs conn=(j0,bi) from bv] at bp;clear bv;go_wp2_with (refine Ay bD 36 _ bD bd 0 bD (ctlA B) _ HG.o underlying36 rfl (AD _) ?_);clear HG;refine bp.mono ?_;rintro r af ⟨rfl,hk⟩;clear bp;have ar:=lH (ad.o.trans hk);have aq:=lH (G.o.keeps hk bA);have ak:=lH (E.o.keeps hk bA);have a3:=lH (F.o.keeps hk);clear hk ad G E F;go_upto_region 21 with(refine As bD 61 _ _ bD af (jobA j0) bD bD 61 #[pE pK 0,I_ 0,Dz ⟨#[]⟩,Dz ⟨#[]⟩,I_ 0,I_ 0,Dz ⟨#[]⟩,I_ 0,I_ 0,pI false,I_ 0,I_ 0,I_ 0,I_ 0,Dz ⟨#[]⟩,I_ 0,I_ 0,I_ 0,I_ 0,I_ 0,I_ 0,Dz ⟨#[]⟩,I_ 0,I_ 0] (Blk.new af _ _) rfl (D2 _) (Gp _) ?_;intro w25 hb hk)
  try simp only [By]
  have cq:Hi (w.heap.size<=af.heap.size):=lH ar.o.size;obtain⟨bf,cj⟩:=eX af.heap.size;replace hk:Aa [] af w25:=((Aa.refl [] af).alloc _).own hk QW;rw [cj] at hb cq ⊢;clear cj;have au:=lH (ar.o.trans hk);have T:=lH (aq.o.keeps hk bA);have al:=lH (ak.o.keeps hk bA);have a4:=lH (a3.o.keeps hk);clear hk ar aq ak a3;have am:Hi (Blk w25 bf 61 (jobA j0)):=lH hb;clear hb;obtain⟨g1,g2⟩:bi=false/\KT D.text=true/\D.text≠⟨#[]⟩:=by
   have h:=HB2.o;rw [b3.o] at h;simpa [and_assoc] using h
  obtain⟨g2,g3⟩:=g2;subst g1;have y3:w25.cell? ⟨bx+1,3,none⟩=some (Dz D.text):=T.o.cell 3;cases hsp:Ce D.text.data.toList with
  | error e=>unfold KT at g2;rw [hsp] at g2;cases g2
  | ok l9=>
   have HSP:=Gr D.text nZ w25 (HE.o _ au.o).s.et;unfold Ic at HSP;rw [hsp] at HSP;have f5:D.text.toList.isEmpty=false:=Nw g3;have f6:(D.text.toList != [])=true:=by cases h:D.text.toList with | nil=>rw [h] at f5;cases f5 | cons a b=>rfl
   clear hsp g2 g3 y0;go_wp2_with fail;refine HSP.mono ?_;rintro r cz ⟨a1,c1,rfl,_,hk⟩;clear HSP y3;have b5:=lH (au.o.trans hk);have bo:=lH (T.o.keeps hk bA);have co:=lH (al.o.keeps hk bA);have ct:=lH (a4.o.keeps hk);have cp:=lH (am.o.keeps hk bA);clear hk au T al a4 am;have y3:cz.cell? ⟨bx+1,3,none⟩=some (Dz D.text):=bo.o.cell 3;go_wp2_with fail;go_ret;exact⟨rfl,b5.o⟩
end
section
open Go.RowKit
namespace controlBound
open Go.ChangeShapes Go.WideShapes Go.ChangeAt
open Go.ChangeMaps (open_string)
theorem lifted(os:Os)(D:os.Started)(H:Type)(enc:TypeId×Value->H):
  ReturnsInHanded {} checked os 3 .any (fun w args=>(Rows.controlBoundSpec.pre enc prog f3 [] false w args/\laidMetH prog En w)/\sizedMet enc prog f3 (OpenSpec.ofChange Rows.controlBoundSpec) false w args)
   (Rows.controlBoundSpec.post enc prog f3 false true false false):=by
 refine FO (C:=checked) (X:=fun w _=>laidMetH prog En w) (fun _ _ _ hh h=>h.of_heap hh) own D bC func3
  (ChangeSpec.witness_shaped (enc:=enc) (C:=checked) (os:=os) (X:=fun w _=>laidMetH prog En w) false (World.doorLaid prog 400 os) #[.agg Hh.k,I_ 0,I_ 0,Dz Bh,I_ 0] 8 rfl (FT os _) (Qi _) (KK H enc _) (Qm H enc _) (Jh os _)) ?_
 intro W F args ds gs G E hW hL O;have B:∀(j:Nat) t v,f3.params[j]? = some t->args[j]? = some v->Value.okWide prog W .any F t v:=E;have M:=hW;obtain⟨p,q,J,hV,rfl,al,an⟩:=hW;have hA:DataW.TrodAll enc prog W 0 (fun _=>true) true f3.params.toList args.toList ds p:=J;rw [params3] at hA B;obtain⟨T,aw,d0,ag,p0,q0,N,rfl,rfl,h0,r0⟩:=trodAll_cons hA;obtain⟨U,ax,d1,ah,p1,q1,rfl,rfl,rfl,h1,r1⟩:=trodAll_cons r0;obtain⟨v2,ay,d2,ai,p2,q2,rfl,rfl,rfl,h2,r2⟩:=trodAll_cons r1;obtain⟨Y,az,d3,aj,p3,q3,rfl,rfl,rfl,h3,r3⟩:=trodAll_cons r2;obtain⟨v4,a0,d4,ak,p4,q4,rfl,rfl,rfl,h4,r4⟩:=trodAll_cons r3;obtain⟨rfl,rfl,rfl⟩:=trodAll_nil r4;obtain rfl:args=#[T,U,v2,Y,v4]:=by cases args;simp_all
 obtain⟨rfl,rfl⟩:=trodVars_none hV;obtain⟨u0,c0,rfl,w0⟩:=Jp (B 0 36 T rfl rfl) h0;obtain⟨a1,rfl,rfl,rfl,w1⟩:=open_int underlying3 (B 1 3 U rfl rfl) h1;obtain⟨a2,rfl,rfl,rfl,w2⟩:=open_int underlying3 (B 2 3 v2 rfl rfl) h2;obtain⟨a3,rfl,rfl,rfl,w3⟩:=open_string underlying9 (B 3 9 Y rfl rfl) h3;obtain⟨a4,rfl,rfl,rfl,w4⟩:=open_int underlying3 (B 4 3 v4 rfl rfl) h4;refine(Kn u0 c0 a1 a2 a3 a4 W w0 (KI hL O)).mono fun e W' ⟨he,hk⟩=>?_;subst he;exact⟨_,rfl,Jn JQ kL rfl rfl underlying4 M (hk.below (Aw _) bA) ⟨rfl,rfl,rfl⟩⟩
theorem Q2:Rows.controlBoundRow.holds Tryz.pinned (OpenSpec.ofChange Rows.controlBoundSpec):=
 OpenClaim.holds_of_wide 3 f3 rfl rfl rfl rfl rfl rfl rfl ⟨rfl,rfl,rfl,rfl,rfl⟩ rfl rfl rfl rfl rfl It func3 Iu
  (of_decide_eq_true bC) kM
  (fun os started H enc _=>lifted os started H enc)
theorem proved:Rows.ControlBoundCardSaid:=
 Claim7.holds_tied_plain_at .later [] [.data,.data,.data,.handle,.sentinel,.sentinel,.sentinel,.sentinel,.sentinel,.sentinel,.sentinel,.sentinel,.data,.sentinel,.sentinel,.sentinel] true (true, "9d4973d1f79925bda66def5f531134a83d5180b9df96d65c859a6aae5ae06539") true
  Q2 (fun _ h=>by cases h) bC (fun _ h=>by cases h) controlBound_row_tie rfl ⟨rfl,rfl⟩ R6 rfl
  (fun f fn hf hfn=>by
   obtain rfl:f=3:=Option.some.inj (It.symm.trans hf) |>.symm;obtain rfl:fn=f3:=(Option.some.inj (func3.symm.trans hfn)).symm;exact⟨R3,fun j t ht=>by
    rw [params3] at ht;have hm:t∈[36,3,3,9,3]:=by simpa using Array.mem_of_getElem? ht
    have hall:([36,3,3,9,3].all fun u=>!prog.wantsStandIn u)=true:=bC;exact(show prog.wantsStandIn t=false by simpa using Bm.1 hall t hm)⟩)
  Qd
end controlBound
end
end Go.Proofs.YtjieiikpolahfaaGreatDoor
