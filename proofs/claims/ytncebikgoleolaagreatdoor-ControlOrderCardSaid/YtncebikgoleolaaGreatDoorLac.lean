/- ControlOrder: whatever steps lie between those of others: at each step the registry is as it was, or as the one command of that step makes it, that the job asks for. -/
import Derived.Test.YtncebikgoleolaaGreatDoorKau
import Derived.Test.YtncebikgoleolaaGreatDoorKaz
import Derived.Test.YtncebikgoleolaaGreatDoorKbf
import Derived.Test.YtncebikgoleolaaGreatDoorKbk
import Derived.Deep.Slices
import Derived.Deep.Fields
import Derived.Lib.SmallJoins
import Derived.BigRegion
import Derived.Deep.DeepCutAuto
import Derived.BigGuard
set_option maxRecDepth 100000
set_option maxHeartbeats 8000000
set_option linter.all false
namespace Go.Proofs.YtncebikgoleolaaGreatDoor
open Go.Proofs.Tryz
open Act renaming put→By
open _root_.And renaming intro→Bl
open DataW renaming trod→AJ
open Ending renaming returned→pJ
open IntKind renaming i64→pK
open _root_.List renaming all_eq_true→Bm,append_assoc→CC,drop_eq_nil_of_le→AI,drop_zero→BC,getD_eq_getElem?_getD→AO,getElem?_cons_succ→Ao,getElem?_cons_zero→Aj,getElem?_eq_getElem→Aq,getElem?_eq_some_iff→Ad,getElem_mem→pS,length_append→Al,length_cons→Av,length_map→Bd,length_singleton→Bp,length_take→Ax,mem_map→BO,mem_of_getElem?→CD,mem_singleton→Ag,take_of_length_le→Ak
open _root_.Nat renaming add_zero→AT,le_of_eq→qJ,le_refl→Aw,le_trans→A8,lt_of_lt_of_le→BS,zero_add→AW,zero_le→Ba
open Oper renaming semAt_some→pN
open Value renaming agg→pH,bool→pI,int→pE,slice→pF,string→Dz
open World renaming ownsRow_nil→BQ
section
open Go.RowKit Go.Shelf Go.WideShapes Go.ChangeShapes Go.ChangeAt Go.Deep
section
variable {H:Type} {enc:TypeId×Value->H} {W:World} {base:Nat} {spare:Nat->Bool} {held:Bool}
theorem sV{v:Value}{d:DataW H}{p:List MemPlace}(hv:Value.okWide prog W .any 0 22 v)(h:DataW.Trod enc prog W base spare held 22 v d p):
  ∃(a:Option Addr) (xs:List GF) (c:Nat),v = pF a xs.length c/\IE W a c xs/\xs.length<=9223372036854775807/\∀z∈xs,z.name.size<=maxLen:=by
 obtain⟨B,len,cap,rfl⟩:=okWide_slice underlying22 hv;obtain⟨fuel,hf⟩:=h;obtain⟨⟨a,xs,c⟩,e,hs⟩:=Z0 hf;exact⟨a,xs,c,by simpa [Value.cells] using e,hs⟩
end
end
section
open Go.RowKit Go.Shelf
attribute [local go_sem] pN Lr Ls Lp Lq
attribute [local go_sem ↓] wp_at_zero wp_at_succ
theorem rM:∀(l m:List Ten) (k:Nat) (t u:Ten),l[k]? = some t->m[k]? = some u->qF (l.take (k+1)) (m.take (k+1))=qF (l.take k) (m.take k)++(if u.state≠t.state then [(u.slot,u.gen)] else [])
 | x::l,y::m,0,t,u,h1,h2=>by
  simp only [Aj,Option.some.injEq] at h1 h2;subst h1;subst h2;simp [qF]
 | x::l,y::m,k+1,t,u,h1,h2=>by
  rw [Ao] at h1 h2;rw [List.take_succ_cons,List.take_succ_cons,List.take_succ_cons,List.take_succ_cons,qF,qF,rM l m k t u h1 h2,CC]
 | [],_,_,_,_,h1,_=>by simp at h1
 | _::_,[],_,_,_,_,h2=>by simp at h2
theorem sJ:∀(l m:List Ten),(qF l m).length<=l.length
 | x::l,y::m=>by
  have:=sJ l m;rw [qF,Al,Av];split<;>simp<;>omega
 | [],_=>by simp [qF]
 | _::_,[]=>by simp [qF]
theorem uT(y:TV):(prog.info? 112).map (·.size)=some (BE y).toArray.size:=by
 show _=some 8;kernel_rfl
theorem uX(y:TV):(BE y).toArray.all (·.oneCell')=true:=by simp [BE,Value.oneCell']
def uU(w:World)(R:BN×List (Int×Int)):Ending->World->Prop:=fun e w'=>∃v a n k,e = pJ (.tuple #[pH (ctlA v),pF a n k])/\Cg w' v R.1/\Fo w.heap.size v R.1/\R.2.length=n/\AR Rt 2 w' a k R.2/\Aa [] w w'
theorem tF(v:CV)(c:BN)(now:Int)(w:World)(h:Cg w v c):
  Calls prog 22 #[pH (C_ v),I_ now] w (uU w (rS c now)):=by
 obtain⟨w0,hw0⟩:=eX ((w.alloc (.cells (C_ v) 36)).alloc (.cells Hh.k 36));have hk0:Aa [] w w0:=by rw [<- hw0];exact((Aa.refl [] w).alloc _).alloc _
 have bb:w0.heap.size=w.heap.size+2:=by rw [<- hw0];simp
 have hb0:Blk w0 w 36 (C_ v):=by rw [<- hw0];exact(Blk.new w _ _).alloc _
 have HB1:Hi (Blk w0 (w+1) 36 Hh.k):=lH (by rw [<- hw0];exact Ar _ _ _ _ bA);have q:=hb0.rl;have HB0:=lH hb0;have HK0:=lH hk0;have HS0:=lH bb;have a2:=Rh v c w0 (h.keeps hk0);obtain⟨b,hb⟩:=eX (JY c);obtain⟨T,hT⟩:=eX (rS c now);rw [hT];unfold rS at hT;rw [hb] at hT;have HT:=lH hT;have HB:=lH hb;clear hk0 hb0 bb h hb hT;go_enter func22,ntmps22;go_wp2_with fail;clear hw0;refine a2.mono ?_;rintro e w1 ⟨v',rfl,hm,hjn,hrow,hjb,hno,hpf,hk1⟩;have HC0:=lH (HB0.o.keeps hk1 bA);have au:=lH (HB1.o.keeps hk1 bA);have a1:=lH hm;have E:Hi (Fo w0 v' c):=lH ⟨hno,Ey hrow (fun g hg hq=>by have:=(hrow.lt g hg).1;omega),hpf⟩;have HK1:=lH (HK0.o.trans hk1);have hlt:w.heap.size<w0.heap.size/\w.heap.size+1<w0.heap.size:=by have:=HS0.o;omega
 have HLT:=lH hlt;clear hm hjn hrow hjb hno hpf hk1 q hlt a2;go_upto_region 2 with(refine As bD 36 _ _ bD w (ctlA v') bD bD 36 (C_ v) HC0.o rfl (AD v') (Bc v') ?_;intro w2 hb2 hk2)
 try simp only [By]
 have HB2:Hi (Blk w2 w 36 (C_ v')):=lH hb2;have HM2:Hi (Cg w2 v' c):=lH (a1.o.put E.o HLT.o.1 HC0.o bE bE hk2);have av:=lH (au.o.keeps hk2 bA);have HK2:Hi (Aa [] w w2):=lH (HK1.o.own hk2 bF);clear hb2 hk2 a1 HC0 au HK1;have q:=HB2.o.rl;go_wp2_with fail;refine(Ij v' c b HB.o _ HM2.o).mono ?_;rintro e w3 ⟨rfl,hk3⟩;have ae:=lH (HB2.o.keeps hk3 bA);have HM3:=lH (HM2.o.keeps hk3);have J:=lH (av.o.keeps hk3 bA);have HK3:=lH (HK2.o.trans hk3);clear hk3 q HB2 HM2 av HK2;have q:=ae.o.rl;cases b with
 | false=>
  go_wp2_with (refine As bD 36 _ _ bD (w+1) (ctlA v') bD bD 36 Hh.k J.o rfl (AD v') (Bc v') ?_;intro w9 bz hk9);exact bodyPost_ret (v:=.tuple #[pH (ctlA v'),pF none 0 0]) (AS rfl _ _ (w+1) 36 (ctlA v') _ (pF none 0 0) rfl rfl bz underlying36 rfl (AD _)) rfl (by
   rw [<- HT.o];exact⟨v',none,0,0,rfl,HM3.o.put E.o HLT.o.2 J.o bE bE hk9,E.o.down (by have:=HS0.o;omega),rfl,AR.none_,HK3.o.own hk9 bF⟩)
 | true=>
  obtain⟨D,hD⟩:=eX (Hx c.reg now);have HTK:=Wh v'.r c.reg v'.gn v'.un v'.fn v'.ln HM3.o.g HM3.o.u HM3.o.f HM3.o.l v'.seq HM3.o.q now w3 HM3.o.r;rw [hD] at HTK;have af:Hi (D.l.length=c.reg.l.length):=lH (by rw [<- hD];exact uG ((G1 c).1 HB.o).reg now);have bs:Hi (({ c with reg:=D },qF c.reg.l D.l)=T):=lH (by rw [<- HT.o,if_pos rfl,hD]);clear hD;go_wp2_with fail;refine HTK.mono ?_;rintro e w4 ⟨F,ga,ua,fa,la,O,rfl,hs,hg,hu,hf,hl,hR,a4,hk4⟩;have HSA:=lH (Bl hs (Bl hg (Bl hu (Bl hf hl))));have al:Hi (CL (· < w0.heap.size) F D):=lH (a4.mono (fun y hy=>BS hy (by have:=J.o.lt;have:=HS0.o;omega)));have HB4:=lH (ae.o.keeps hk4 bA);have HM4:=lH (HM3.o.keeps hk4);have HR4:=lH hR;have ag:=lH (J.o.keeps hk4 bA);have HK4:=lH (HK3.o.trans hk4);clear hs hg hu hf hl hR a4 hk4 HTK q ae HM3 J HK3;go_upto_region 6 with(refine As bD 29 _ _ bD w4 (R_ F ga ua fa la O) bD bD 29 LU.k (Blk.new w4 _ _) rfl bC aG ?_;intro w5 ao hk5)
  try simp only [By]
  have hk:Aa [] w4 w5:=((Aa.refl [] w4).alloc _).own hk5 bF;obtain⟨rb,ap⟩:=eX w4.heap.size;have cd:Hi (w.heap.size+1<rb):=lH (by rw [<- ap];exact ag.o.lt);rw [ap] at ao ⊢;have ax:=lH ao;have HB5:=lH (HB4.o.keeps hk bA);have HM5:=lH (HM4.o.keeps hk);have aj:=lH (HR4.o.keeps hk);have ah:=lH (ag.o.keeps hk bA);have HK5:=lH (HK4.o.trans hk);clear ao hk5 ap hk HB4 HM4 HR4 ag HK4;have ab:F.lv.length=la:=by rw [aj.o.t.len];exact HSA.o.2.2.2.2
  have a0:=lH ab;have cf:(la:Int)<=1000:=by have:=aj.o.sl;have:=HSA.o.2.2.2.2;omega
  have q:=ax.o.rl;clear ab;go_wp2_with fail;go_loopw [6,23] (fun s6 ar wr=>∃k:Nat,k<=la/\ar = I_ k/\Hi (wr.ownsRow w5 65 2 s6 (qF (c.reg.l.take k) (D.l.take k)).length ((qF (c.reg.l.take k) (D.l.take k)).flatMap Rt))/\Hi (Aa [] w5 wr)) (fun _ ar _=>la - (intOf ar).toNat)
  case atStart=>exact⟨0,Ba _,rfl,lH (BQ _ _ _ _),lH (Aa.refl _ _)⟩
  case round=>
   obtain⟨k,hkn,rfl,HRO,HKR⟩:=hrel;clear q;have ay:=lH (ax.o.keeps HKR.o bA);have HB6:=lH (HB5.o.keeps HKR.o bA);have HM6:=lH (HM5.o.keeps HKR.o);have ak:=lH (aj.o.keeps HKR.o);have bj:=lH (ah.o.keeps HKR.o bA);have HK6:=lH (HK5.o.trans HKR.o);by_cases hlt:k<la
   ·have hk2:k<c.reg.l.length:=by rw [<- af.o,HSA.o.2.2.2.2];exact hlt
    obtain⟨t,ht⟩:∃t,c.reg.l[k]? = some t:=⟨_,Aq hk2⟩;obtain⟨u,hu⟩:∃u,D.l[k]? = some u:=⟨_,Aq (by rw [af.o];exact hk2)⟩;obtain⟨g1,o1,U,bw,hg1,bg,hat1⟩:=ak.o.l.at_k (k:=k) (by rw [a0.o];exact hlt);obtain⟨g2,o2,y2,a6,b1,bh,Y⟩:=HM6.o.r.l.at_k (k:=k) (by rw [HM6.o.r.t.len];exact hk2);have G:Cj wr U u:=by
     have h1:=Ad.1 bg;have h2:=Ad.1 hu;obtain⟨h1,rfl⟩:=h1;obtain⟨h2,rfl⟩:=h2;exact ak.o.t.get k h1 h2
    have ad:Cj wr y2 t:=by
     obtain⟨h1,rfl⟩:=Ad.1 bh;obtain⟨h2,rfl⟩:=Ad.1 ht;exact HM6.o.r.t.get k h1 h2
    have p0:wr.cell? (A_ g2 (o2+k*8+3))=some (I_ t.state):=by rw [<- ad.state];exact Y 3 _ rfl
    have an:Hi (U.slot=u.slot/\U.gen=u.gen/\U.state=u.state):=lH ⟨G.slot,G.gen,G.state⟩;have c3:wr.cell? (A_ w 4)=some (pF (some (A_ g2 o2)) v'.ln v'.r.lc):=by rw [<- a6];exact HB6.o.cell 4
    have ba:wr.rangeAt g1 (o1+k*8) (BE U).toArray.toList:=fun j x hx=>hat1 j x (by simpa using hx);have bq:=lH ba;have e3:wr.cell? (A_ rb 3)=some (pF F.la la F.lc):=ay.o.cell 3;have i1:(0:Int)<=(k:Int):=bB;have i2:(k:Int)<(la:Int):=bB;have i3:(k:Int)<(v'.ln:Int):=by have:=HM6.o.l;omega
    have i4:wrap64 ((k:Int)+1)=(k:Int)+1:=IntWalk.wrap64_in _ bB;have am:=lH (rM c.reg.l D.l k t u ht hu);obtain⟨ys,hys⟩:=eX (qF (c.reg.l.take k) (D.l.take k));rw [hys] at HRO am;have HYL:Hi (ys.length<=1000):=lH (by rw [<- hys];have:=sJ (c.reg.l.take k) (D.l.take k);rw [Ax] at this;omega);have b8:g1<wr.heap.size:=hg1;have b9:g2<wr.heap.size:=b1;rw [bw];have bo:=lH (Q5 (enc:=Rt) (t:=88) underlying88 bC bE Ru Yn HRO.o HKR.o.size (u.slot,u.gen) (by have:=HYL.o;omega) 88);have bl:Hi (∀W,Aa u6.ownBlock.toList wr W->Aa [] w5 W):=lH fun W hW=>HKR.o.own hW (AZ HRO.o);clear ht hu bg hat1 bh Y G ad hys a6 hk2 ba;go_upto_region 9 with(first | (refine Ay bD 112 _ bD g1 (o1+k*8) bD (BE U).toArray _ bq.o underlying112 rfl (uT U) ?_) | (refine As bD 112 _ _ bD wr (BE U).toArray bD bD 112 OC.k (Blk.new wr _ _) rfl (uT U) (uX U) ?_;intro w6 M hk6))
    try simp only [By]
    have X:Aa [] wr w6:=((Aa.refl [] wr).alloc _).own hk6 bF;obtain⟨tb,bf⟩:=eX wr.heap.size;rw [bf] at M ⊢;have d0:w6.cell? (A_ tb 0)=some (I_ u.slot):=by rw [<- an.o.1];exact M.cell 0
    have d1:w6.cell? (A_ tb 1)=some (I_ u.gen):=by rw [<- an.o.2.1];exact M.cell 1
    have d3:w6.cell? (A_ tb 3)=some (I_ u.state):=by rw [<- an.o.2.2];exact M.cell 3
    have p1:=X.cellsV _ _ p0;have c4:=X.cellsV _ _ c3;have ai:=lH X;clear M hk6 bf X p0 c3;by_cases hs:u.state=t.state
    ·have f1:(u.state != t.state)=false:=by simpa using hs
     have HSS:=lH hs;clear hs;go_region;go_wp2_with fail;go_roundw;case rel=>exact⟨k+1,by omega,by go_num,lH (by rw [am.o,if_neg (fun h=>h HSS.o),List.append_nil];exact Ah HRO.o ai.o.drew (fun _ _=>by simp)),lH (HKR.o.trans ai.o.drew)⟩
     case measure=>(simp [intOf];omega)
    ·have f1:(u.state != t.state)=true:=by simpa using hs
     have HSS:=lH hs;obtain⟨g4,c5,W4,hrun,a9,hk4⟩:=bo.o w6.drew ai.o.drew;have HR4:=lH a9;have HK4:=lH (bl.o _ hk4);clear hs a9 hk4;go_region;go_wp2_with (at_builtin;refine Au _ rfl _ _ 88 rfl rfl rfl hrun ?_);go_roundw;case rel=>exact⟨k+1,by omega,by go_num,lH (by rw [am.o,if_pos HSS.o,Al,Bp];exact HR4.o),HK4⟩
     case measure=>(simp [intOf];omega)
   ·have i2:¬(k:Int)<(la:Int):=bB;have hend:qF (c.reg.l.take k) (D.l.take k)=qF c.reg.l D.l:=by
     have h1:=af.o;have h2:=HSA.o.2.2.2.2;rw [Ak bB,Ak bB]
    rw [hend] at HRO;obtain⟨a',c',rfl,be,a7⟩:=AR.of_row Ru HRO.o;have br:=lH be;have az:=lH a7;obtain⟨N,hN⟩:=eX ((qF c.reg.l D.l).length);rw [hN];have HLE:=lH hN;have q:=ay.o.rl;clear hend be hN hlt HRO a7;go_upto_region 13 with(refine Kq bD 29 _ _ bD w 1 (R_ F ga ua fa la O) bD bD 36 (C_ v') HB6.o bA bC aG (ctlA { v' with r:=F,gn:=ga,un:=ua,fn:=fa,ln:=la,seq:=O }) bD ?_;intro w7 hb7 hk7)
    try simp only [By]
    have aw:=lH (bj.o.keeps hk7 bA);have bm:Hi (Cg w7 v' c):=lH (HM6.o.put E.o HLT.o.1 HB6.o bE bE hk7);have bp:Hi (CH w7 F D):=lH (ak.o.stay al.o hk7 (fun y hy=>by obtain rfl:=Ag.1 hy;exact HLT.o.1));have a3:=lH (br.o.keepsN hk7 (fun _ g o e hm=>by have:=az.o g o e;have:=ah.o.lt;have:=Ag.1 hm;omega));have HK7:Hi (Aa [] w w7):=lH (HK6.o.own hk7 bF);have HG:=lH (Blk.rng (cs:=(ctlA { v' with r:=F,gn:=ga,un:=ua,fn:=fa,ln:=la,seq:=O })) hb7 0 (ctlA { v' with r:=F,gn:=ga,un:=ua,fn:=fa,ln:=la,seq:=O }) (fun j x hx=>by rw [AW];simpa using hx));clear q hb7 hk7;go_wp2_with (first | (refine Ay bD 36 _ bD w 0 bD (ctlA { v' with r:=F,gn:=ga,un:=ua,fn:=fa,ln:=la,seq:=O }) _ HG.o underlying36 rfl (AD _) ?_) | (refine As bD 36 _ _ bD (w+1) (ctlA { v' with r:=F,gn:=ga,un:=ua,fn:=fa,ln:=la,seq:=O }) bD bD 36 Hh.k aw.o rfl (AD _) (Bc _) ?_;intro w8 bx hk8));exact bodyPost_ret (v:=.tuple #[pH (ctlA { v' with r:=F,gn:=ga,un:=ua,fn:=fa,ln:=la,seq:=O }),.slice a' N c']) (AS rfl _ _ (w+1) 36 (ctlA { v' with r:=F,gn:=ga,un:=ua,fn:=fa,ln:=la,seq:=O }) _ (.slice a' N c') rfl rfl bx underlying36 rfl (AD _)) rfl (by
     rw [<- bs.o];have b2:=bm.o.put E.o HLT.o.2 aw.o bE bE hk8;have b3:=bp.o.stay al.o hk8 (fun y hy=>by obtain rfl:=Ag.1 hy;exact HLT.o.2);have hs8:=a3.o.keepsN hk8 (fun _ g o e hm=>by have:=az.o g o e;have:=ah.o.lt;have:=Ag.1 hm;omega);exact⟨{ v' with r:=F,gn:=ga,un:=ua,fn:=fa,ln:=la,seq:=O },a',N,c',rfl,{ b2 with r:=b3,g:=HSA.o.2.1,u:=HSA.o.2.2.1,f:=HSA.o.2.2.2.1,l:=HSA.o.2.2.2.2,q:=HSA.o.1.symm },Fo.down (B:=w0.heap.size) ⟨⟨E.o.1.o,al.o,E.o.1.d⟩,E.o.2⟩ (by have:=HS0.o;omega),HLE.o,hs8,HK7.o.own hk8 bF⟩)
theorem tX(q:Bq)(j:Nat)(x:Value)(h:(comA q.req.com).toList[j]? = some x):(jobA q)[5+j]? = some x:=by
 match j with
 | 0=>exact h
 | 1=>exact h
 | 2=>exact h
 | 3=>exact h
 | 4=>exact h
 | 5=>exact h
 | 6=>exact h
 | 7=>exact h
 | 8=>exact h
 | 9=>exact h
 | 10=>exact h
 | 11=>exact h
 | k+12=>cases h
theorem tW{w:World}{v:CV}{c:BN}(h:Cg w v c){conn:Int}{j:Bq}{b:Bool}(hf:Ma c conn=(j,b)): -9223372036854775808<=j.req.com.at_/\j.req.com.at_<=9223372036854775807:=by
 unfold Ma at hf;split at hf
 ·rename_i i hi
  injection hf with h1 h2
  have hlt:i<c.jobs.length:=Pu hi;have hj:j∈c.jobs:=by rw [<- h1,AO,Aq hlt];exact pS hlt
  exact(h.js j hj).2
 ·injection hf with h1 h2
  rw [<- h1];exact⟨by decide,by decide⟩
theorem rF(a0:Option Addr)(xs:List GF)(c0:Nat)(n:Int)(b0:Option Addr)(L:List sZ)(d0:Nat)(w:World)(hO:IE w a0 c0 xs/\xs.length<=9223372036854775807/\∀z∈xs,z.name.size<=maxLen)(hL:sD w b0 d0 L/\L.length<=9223372036854775807)(hE:Gu w):
  Calls prog 5 #[pF a0 xs.length c0,I_ n,pF b0 L.length d0] w fun r w'=>r = pJ (pI true)/\Aa [] w w':=by
 have HE:Hi (∀W,Aa [] w W->Gu W):=lH fun W hk=>hE.keeps hk;have HO:=lH hO;have HL:=lH hL;have HK0:Hi (Aa [] w w):=lH (Aa.refl [] w);clear hO hL hE;obtain⟨nx,dw⟩:=eX xs.length;obtain⟨nl,hnl⟩:=eX L.length;rw [dw,hnl];have dr:=lH dw;have HNL:=lH hnl;clear dw hnl;go_enter func5,ntmps5;go_wp2_with fail;refine(GD w (HE.o _ HK0.o)).mono ?_;rintro r w1 ⟨rfl,hk⟩;have HK1:=lH (HK0.o.trans hk);clear hk HK0;go_wp2_with fail;refine(tI b0 d0 L nl HNL.o (by have:=HL.o.2;have:=HNL.o;omega) w1 (HL.o.1.keeps HK1.o)).mono ?_;rintro r w2 ⟨b1,m,d1,rfl,hs,hm,hk⟩;obtain⟨LL,cx⟩:=eX (rI L);have hsz:∀z∈LL,z.s.size<=310:=by
  rw [<- cx];intro z hz;obtain⟨y,_,rfl⟩:=BO.1 hz;exact OQ _
 have df:LL.length<=90:=by rw [<- cx];unfold rI;rw [Bd,Ax];omega
 rw [cx] at hs hm;have fd:=lH hs;have ct:=lH (Bl hm (Bl df hsz));have HK2:=lH (HK1.o.trans hk);clear hs hm df hsz cx hk HK1 HL HNL;have HY2:Hi (Aa [] w2 w2):=lH (Aa.refl [] w2);go_wp2_with fail;refine(Wb a0 c0 xs nx dr.o (by have:=HO.o.2.1;have:=dr.o;omega) HO.o.2.2 w2 (HO.o.1.keeps HK2.o)).mono ?_;rintro r w3 ⟨a1,n1,c1,rfl,ho,cy,_,hk⟩;have ev:n1<=12:=by rw [<- cy];unfold Jg;rw [Bd,Ax];omega
 have dx:∀o∈Jg xs,o.name.size<=maxLen:=by
  intro z hz;obtain⟨y,_,rfl⟩:=BO.1 hz;have:=VS 66 y.name;unfold maxLen;show(Rl 66 y.name).size<=_;omega
 have HK3:=lH (HK2.o.trans hk);have ed:=lH (HY2.o.trans hk);clear hk HK2 HY2;obtain⟨OO,el⟩:=eX (Jg xs);rw [el] at ho cy dx;obtain⟨d,e1,hd⟩:∃d e,W6 OO n=(d,e):=⟨_,_,rfl⟩;have dk:=XU a1 c1 OO n1 cy bB dx n w3 ho;rw [hd] at dk;have d9:Hi (e1=0->Gd d):=lH fun h=>by have h2:=uV (ops:=OO) (n:=n) (by rw [hd];exact h);rw [hd] at h2;exact h2
 clear hd el ho cy dx ev HO dr;go_wp2_with fail;refine dk.mono ?_;rintro r w4 ⟨vd,rfl,hm,_,hk⟩;have ch:=lH hm;clear hm dk;have HK4:=lH (HK3.o.trans hk);have dt:=lH (ed.o.trans hk);clear hk HK3 ed;have HMdz:=ch;have ei:Hi (Aa [] w4 w4):=lH (Aa.refl [] w4);have ff:=dt.o.size;go_upto_region 4 with(refine As bD 36 _ _ bD w4 (ctlA vd) bD bD 36 Hh.k (Blk.new w4 _ _) rfl (AD _) (Bc _) ?_;intro w5 hb hk)
 try simp only [By]
 have HLc:Hi (w.heap.size<=w4.heap.size):=lH HK4.o.size;obtain⟨bc,hbc⟩:=eX w4.heap.size;have HLz:Hi (w4.heap.size<=bc):=lH (qJ hbc);replace hk:Aa [] w4 w5:=((Aa.refl [] w4).alloc _).own hk QW;rw [hbc] at hb HLc ⊢;clear hbc;have HK5:=lH (HK4.o.trans hk);have eh:=lH (dt.o.trans hk);have d6:=lH (ch.o.keeps hk);have ej:=lH (ei.o.trans hk);clear hk HK4 dt ch ei;have HBc5:Hi (Blk w5 bc 36 (ctlA vd)):=lH hb;clear hb;have HLy:Hi (w2.heap.size<=bc):=lH (A8 ff HLz.o);by_cases he:e1=0;rotate_left
 ·have f1:(e1 != 0)=true:=by simpa using he
  clear he;go_wp2_with fail;go_ret;exact⟨rfl,HK5.o⟩
 subst he;have d8:=lH (d9.o rfl);have HMD:Hi (∀W,Aa [bc] w5 W->Cg W vd d):=lH fun W hW=>HMdz.o.keeps (ej.o.own hW nX);clear HMdz ej d9 d6;go_wp2_with fail;go_loopw [10,11] (fun s10 s11 wr=>∃(k:Nat) (nw:Int) (vk:CV) (ck:BN),k<=m/\s10 = I_ nw/\s11 = I_ k/\Hi (0<=nw/\nw<=1000*(k:Int))/\Hi (Gd ck)/\Hi (Blk wr bc 36 (ctlA vk))/\Hi (∀W,Aa [bc] wr W->Cg W vk ck)/\Hi (Aa [] w2 wr)/\Hi (Aa [] w wr)) (fun _ s11 _=>m - (intOf s11).toNat)
 case atStart=>exact⟨0,0,vd,d,Ba _,rfl,rfl,lH ⟨by omega,by omega⟩,d8,HBc5,HMD,eh,HK5⟩
 case round=>
  obtain⟨k,nw,vk,ck,gi,rfl,rfl,HNW,HCO,bw,HMK,cn,HK20⟩:=hrel
  rename World=>w20
  clear HMD d8 HBc5 eh HK5;by_cases hlt:k<m;rotate_left
  ·have i5:¬(k:Int)<(m:Int):=bB;go_wp2_with fail;go_ret;exact⟨rfl,HK20.o⟩
  obtain⟨g,off,z,ha,hg,hz,hat⟩:=(fd.o.keeps cn.o).at_k (k:=k) (by rw [ct.o.1];exact hlt);have z0:=hat 0 _ rfl;have z1:=hat 1 _ rfl;have z2:=hat 2 _ rfl;have z3:=hat 3 _ rfl;rw [AT] at z0;have fg:Hi (z.s.size<=310):=lH (ct.o.2.2 z (CD hz));rw [ha];have i4:(0:Int)<=(k:Int):=bB;have i5:(k:Int)<(m:Int):=bB;have i6:wrap64 ((k:Int)+1)=(k:Int)+1:=IntWalk.wrap64_in _ ⟨by omega,by have:=ct.o;omega⟩;have HZ20:Hi (Aa [] w20 w20):=lH (Aa.refl [] w20);have c5:=lH (HMK.o w20 ((Aa.refl [] w20).mono bA));clear hat hz hg;go_upto_region 11 with(refine As bD 78 _ _ bD w20 #[pE pK z.kind,I_ z.a,I_ z.b,Dz z.s] bD bD 78 #[pE pK 0,I_ 0,I_ 0,Dz ⟨#[]⟩] (Blk.new w20 _ _) rfl bC aG ?_;intro w21 hb hk)
  try simp only [By]
  have e8:Hi (w.heap.size<=w20.heap.size):=lH HK20.o.size;obtain⟨bo,es⟩:=eX w20.heap.size;replace hk:Aa [] w20 w21:=((Aa.refl [] w20).alloc _).own hk QW;rw [es] at hb e8 ⊢;clear es;have HK21:=lH (HK20.o.trans hk);have ax:=lH (cn.o.trans hk);have M:=lH (bw.o.keeps hk bA);have HZ21:=lH (HZ20.o.trans hk);have ag:=lH (c5.o.keeps hk);clear hk HK20 cn bw HZ20 c5;have U:Hi (Blk w21 bo 78 #[pE pK z.kind,I_ z.a,I_ z.b,Dz z.s]):=lH hb;clear hb;clear z0 z1 z2 z3 ha i4 i5;have fm:w21.cell? (A_ bo 0)=some (I_ z.kind):=U.o.cell 0;by_cases k0:z.kind=0
  ·have f0:(z.kind==0)=true:=by simpa using k0
   clear k0;have dy:w21.cell? (A_ bo 1)=some (I_ z.a):=U.o.cell 1;have fr:w21.cell? (A_ bo 3)=some (Dz z.s):=U.o.cell 3;obtain⟨e,ee,he⟩:∃x1 x2,Fj ck z.a z.s=(x1,x2):=⟨_,_,rfl⟩;have eb:=lH he;have HAK:=OH vk ck z.a z.s (by have:=fg.o;omega) w21 (HE.o _ HK21.o).s.et ag.o;rw [he] at HAK;clear he;have HG:=lH (Blk.rng (cs:=(ctlA vk)) M.o 0 (ctlA vk) (fun j x hx=>by rw [AW];simpa using hx));go_wp2_with (refine Ay bD 36 _ bD bc 0 bD (ctlA vk) _ HG.o underlying36 rfl (AD _) ?_);clear HG;refine(HAK).mono ?_;rintro r w22 ⟨B,rfl,hm,hn,hk⟩;have aw:=lH hm;have a2:Hi (Fo w21 B e/\bc<w21.heap.size):=lH ⟨hn,M.o.lt⟩;clear hm hn;have HK22:=lH (HK21.o.trans hk);have ar:=lH (ax.o.trans hk);have ab:=lH (M.o.keeps hk bA);have HZ22:=lH (HZ21.o.trans hk);have HM22:=lH (ag.o.keeps hk);have af:=lH (U.o.keeps hk bA);clear hk HK21 ax M HZ21 ag U;go_upto_region 14 with(refine As bD 36 _ _ bD w22 (ctlA B) bD bD 36 Hh.k (Blk.new w22 _ _) rfl (AD _) (Bc _) ?_;intro w23 hb hk)
   try simp only [By]
   have dp:Hi (w.heap.size<=w22.heap.size):=lH HK22.o.size;obtain⟨be,bf⟩:=eX w22.heap.size;replace hk:Aa [] w22 w23:=((Aa.refl [] w22).alloc _).own hk QW;rw [bf] at hb dp ⊢;clear bf;have ai:=lH (HK22.o.trans hk);have am:=lH (ar.o.trans hk);have F:=lH (ab.o.keeps hk bA);have HZ23:=lH (HZ22.o.trans hk);have J:=lH (HM22.o.keeps hk);have X:=lH (af.o.keeps hk bA);have G:=lH (aw.o.keeps hk);clear hk HK22 ar ab HZ22 HM22 af aw;have O:Hi (Blk w23 be 36 (ctlA B)):=lH hb;clear hb;clear HAK;by_cases hee:ee=0;rotate_left
   ·have f1:(ee==0)=false:=by simpa using hee
    clear hee;go_wp2_with fail;go_roundw;case rel=>exact⟨k+1,nw,vk,ck,by omega,rfl,by go_num,lH uY,HCO,F,lH (fun W hW=>HMK.o W ((HZ23.o.mono bA).trans hW)),am,ai⟩
    case measure=>(first | exact Fu K3 K3 | (simp [intOf];omega))
   subst hee;obtain⟨h1,_,_,_,_,h6⟩:=K6 (c:=ck) (conn:=z.a) (line:=z.s) (by rw [eb.o]);rw [eb.o] at h1 h6;dsimp only at h1 h6;have cu:=lH h1;have hs:decide (e.reg=ck.reg)=true:=decide_eq_true (by rw [h6]);have cc_1:w23.cell? (A_ bc 1)=some (pF vk.r.s.ga vk.gn vk.r.s.gc):=F.o.cell 1;have cc_2:w23.cell? (A_ bc 2)=some (pF vk.r.s.ua vk.un vk.r.s.uc):=F.o.cell 2;have cc_3:w23.cell? (A_ bc 3)=some (pF vk.r.s.fa vk.fn vk.r.s.fc):=F.o.cell 3;have cc_4:w23.cell? (A_ bc 4)=some (pF vk.r.la vk.ln vk.r.lc):=F.o.cell 4;have cc_5:w23.cell? (A_ bc 5)=some (I_ vk.seq):=F.o.cell 5;have bm:w23.cell? (A_ be 1)=some (pF B.r.s.ga B.gn B.r.s.gc):=O.o.cell 1;have bp:w23.cell? (A_ be 2)=some (pF B.r.s.ua B.un B.r.s.uc):=O.o.cell 2;have bq:w23.cell? (A_ be 3)=some (pF B.r.s.fa B.fn B.r.s.fc):=O.o.cell 3;have bs:w23.cell? (A_ be 4)=some (pF B.r.la B.ln B.r.lc):=O.o.cell 4;have bt:w23.cell? (A_ be 5)=some (I_ B.seq):=O.o.cell 5;have HG:=FC B.r vk.r e.reg ck.reg B.gn B.un B.fn B.ln vk.gn vk.un vk.fn vk.ln G.o.g G.o.u G.o.f G.o.lv J.o.g J.o.u J.o.f J.o.lv B.seq vk.seq G.o.q J.o.q true hs w23 G.o.r J.o.r;clear h1 h6 hs;go_wp2_with fail;refine(HG).mono ?_;rintro r w24 ⟨rfl,hk⟩;clear HG;have HK24:=lH (ai.o.trans hk);have a3:=lH (am.o.trans hk);have ad:=lH (F.o.keeps hk bA);have HZ24:=lH (HZ23.o.trans hk);have HM24:=lH (J.o.keeps hk);have a7:=lH (X.o.keeps hk bA);have an:=lH (G.o.keeps hk);have bg:=lH (O.o.keeps hk bA);clear hk ai am F HZ23 J X G O;have HG:=lH (Blk.rng (cs:=(ctlA B)) bg.o 0 (ctlA B) (fun j x hx=>by rw [AW];simpa using hx));go_upto_region 9 with(first | go_big_skip | ((with_reducible show wpList _ _ _ (_::_) _ _);refine Ay bD 36 _ bD be 0 bD (ctlA B) _ HG.o underlying36 rfl (AD _) ?_) | ((with_reducible show wpList _ _ _ (_::_) _ _);refine As bD 36 _ _ bD bc (ctlA B) bD bD 36 (ctlA vk) ad.o rfl (AD _) (Bc _) ?_;intro w25 hb hk))
   try simp only [By]
   have bj:Hi (∀W,Aa [bc] w25 W->Cg W B e):=lH fun W hW=>an.o.put a2.o.1 a2.o.2 ad.o bE bE (hk.trans hW);have ao:=lH (HK24.o.own hk gJ);have ay:=lH (a3.o.own hk uZ);have N:=lH hb;clear hb hk HG;go_wp2_with fail;go_roundw;case rel=>exact⟨k+1,nw,B,e,by omega,rfl,by go_num,lH uY,cu,N,bj,ay,ao⟩
   case measure=>(first | exact Fu K3 K3 | (simp [intOf];omega))
  have f0:(z.kind==0)=false:=by simpa using k0
  clear k0;by_cases k1:z.kind=1
  ·have f1:(z.kind==1)=true:=by simpa using k1
   clear k1;have dy:w21.cell? (A_ bo 1)=some (I_ z.a):=U.o.cell 1;have HG:=lH (Blk.rng (cs:=(ctlA vk)) M.o 0 (ctlA vk) (fun j x hx=>by rw [AW];simpa using hx));obtain⟨j0,b9,du⟩:∃x1 x2,Ma ck z.a=(x1,x2):=⟨_,_,rfl⟩;have cz:=lH du;have dm:=OI (pF vk.oa vk.on vk.oc) (pF vk.r.s.ga vk.gn vk.r.s.gc) (pF vk.r.s.ua vk.un vk.r.s.uc) (pF vk.r.s.fa vk.fn vk.r.s.fc) (pF vk.r.la vk.ln vk.r.lc) (I_ vk.seq) (pF vk.pa vk.pn vk.pc) (I_ vk.nx) (pF vk.da vk.dn vk.dc) vk.ja vk.jn vk.jc ck.jobs ag.o.jn (by have:=ag.o.jl;omega) z.a w21 ag.o.j;rw [show OV ck.jobs z.a=(j0,b9) from du] at dm;clear du;go_wp2_with (refine Ay bD 36 _ bD bc 0 bD (ctlA vk) _ HG.o underlying36 rfl (AD _) ?_);clear HG;refine dm.mono ?_;rintro r w22 ⟨rfl,hk⟩;clear dm;have HK22:=lH (HK21.o.trans hk);have ar:=lH (ax.o.trans hk);have ab:=lH (M.o.keeps hk bA);have HZ22:=lH (HZ21.o.trans hk);have HM22:=lH (ag.o.keeps hk);have af:=lH (U.o.keeps hk bA);clear hk HK21 ax M HZ21 ag U;go_upto_region 20 with(refine As bD 67 _ _ bD w22 (jobA j0) bD bD 67 #[pE pK 0,I_ 0,Dz ⟨#[]⟩,Dz ⟨#[]⟩,I_ 0,I_ 0,Dz ⟨#[]⟩,I_ 0,I_ 0,pI false,I_ 0,I_ 0,I_ 0,I_ 0,Dz ⟨#[]⟩,I_ 0,I_ 0,I_ 0,I_ 0,I_ 0,I_ 0,Dz ⟨#[]⟩,I_ 0,I_ 0] (Blk.new w22 _ _) rfl (D2 _) (Gp _) ?_;intro w23 hb hk)
   try simp only [By]
   have e7:Hi (w.heap.size<=w22.heap.size):=lH HK22.o.size;obtain⟨bi,eo⟩:=eX w22.heap.size;replace hk:Aa [] w22 w23:=((Aa.refl [] w22).alloc _).own hk QW;rw [eo] at hb e7 ⊢;clear eo;have ai:=lH (HK22.o.trans hk);have am:=lH (ar.o.trans hk);have F:=lH (ab.o.keeps hk bA);have HZ23:=lH (HZ22.o.trans hk);have J:=lH (HM22.o.keeps hk);have X:=lH (af.o.keeps hk bA);clear hk HK22 ar ab HZ22 HM22 af;have b3:Hi (Blk w23 bi 67 (jobA j0)):=lH hb;clear hb;have fo:w23.cell? (A_ bo 1)=some (I_ z.a):=X.o.cell 1;have fq:w23.cell? (A_ bo 2)=some (I_ z.b):=X.o.cell 2;obtain⟨⟨e,ef,fe⟩,hS⟩:∃S,EC ck z.a nw z.b=S:=⟨_,rfl⟩;have HST:=OJ vk ck z.a nw z.b w23 (HE.o _ ai.o) J.o;rw [hS] at HST;have cv:=lH hS;clear hS;have HG:=lH (Blk.rng (cs:=(ctlA vk)) F.o 0 (ctlA vk) (fun j x hx=>by rw [AW];simpa using hx));go_wp2_with (refine Ay bD 36 _ bD bc 0 bD (ctlA vk) _ HG.o underlying36 rfl (AD _) ?_);clear HG;refine HST.mono ?_;rintro r w24 ⟨B,rfl,hm,hn,hk⟩;have an:=lH hm;have a2:Hi (Fo w23 B e/\bc<w23.heap.size):=lH ⟨hn,F.o.lt⟩;clear hm hn HST;have HK24:=lH (ai.o.trans hk);have a3:=lH (am.o.trans hk);have ad:=lH (F.o.keeps hk bA);have HZ24:=lH (HZ23.o.trans hk);have HM24:=lH (J.o.keeps hk);have a7:=lH (X.o.keeps hk bA);have b4:=lH (b3.o.keeps hk bA);clear hk ai am F HZ23 J X b3;go_upto_region 21 with(first | (refine As bD 36 _ _ bD w24 (ctlA B) bD bD 36 Hh.k ((Blk.new w24 _ _).alloc _) rfl (AD B) (Bc B) ?_;intro w4 hb4 hk4) | (refine As bD 81 _ _ bD (w24+1) (effA ef) bD bD 81 #[pE pK 0,I_ 0,I_ 0,Dz ⟨#[]⟩] ((Ar _ _ _ _ bA).keeps hk4 bA) rfl (Ji _) (J7 _) ?_;intro w25 cr hk5))
   try simp only [By]
   have hk:Aa [] w24 w25:=((((Aa.refl [] w24).alloc _).alloc _).own hk4 bF).own hk5 bF;have az:Blk w25 w24 36 (ctlA B):=hb4.keeps hk5 bA;obtain⟨be,bf⟩:=eX w24.heap.size;rw [bf] at az cr ⊢;clear bf hb4 hk4 hk5 cr;have ao:=lH (HK24.o.trans hk);have ay:=lH (a3.o.trans hk);have N:=lH (ad.o.keeps hk bA);have cq:=lH (HZ24.o.trans hk);have HM25:=lH (HM24.o.keeps hk);have b7:=lH (a7.o.keeps hk bA);have a6:=lH (b4.o.keeps hk bA);have ci:=lH (an.o.keeps hk);clear hk HK24 a3 ad HZ24 HM24 a7 b4 an;have bz:=lH az;clear az;by_cases hfe:fe=0;rotate_left
   ·have f2:(fe != 0)=true:=by simpa using hfe
    clear hfe;go_wp2_with fail;go_roundw;case rel=>exact⟨k+1,nw,vk,ck,by omega,rfl,by go_num,lH uY,HCO,N,lH (fun W hW=>HMK.o W ((cq.o.mono bA).trans hW)),ay,ao⟩
    case measure=>(first | exact Fu K3 K3 | (simp [intOf];omega))
   subst hfe;have cu:Hi (Gd e):=lH (by have h:=uO (c:=ck) (conn:=z.a) (now:=nw) (left:=z.b) (by rw [cv.o]);rw [cv.o] at h;exact h);have ec:Hi (e.reg=ck.reg\/(j0.phase=3/\e.reg=(pY ck.reg j0.role j0.req.com nw).1)):=lH (by have h:=uD (c:=ck) (conn:=z.a) (now:=nw) (left:=z.b) (by rw [cv.o]);rw [cv.o,cz.o] at h;exact h);obtain⟨E,em⟩:=(HE.o _ ao.o).r;obtain⟨D,hD⟩:=eX (pY ck.reg j0.role j0.req.com nw);have hat : -9223372036854775808<=j0.req.com.at_/\j0.req.com.at_<=9223372036854775807:=tW HM25.o cz.o;have dh:=Ng vk.r ck.reg vk.gn vk.un vk.fn vk.ln HM25.o.g HM25.o.u HM25.o.f HM25.o.l vk.seq HM25.o.q j0.role j0.req.com nw hat w25 E em HM25.o.r;rw [hD] at dh ec;clear em hat hD;have cc_1:w25.cell? (A_ bc 1)=some (pF vk.r.s.ga vk.gn vk.r.s.gc):=N.o.cell 1;have cc_2:w25.cell? (A_ bc 2)=some (pF vk.r.s.ua vk.un vk.r.s.uc):=N.o.cell 2;have cc_3:w25.cell? (A_ bc 3)=some (pF vk.r.s.fa vk.fn vk.r.s.fc):=N.o.cell 3;have cc_4:w25.cell? (A_ bc 4)=some (pF vk.r.la vk.ln vk.r.lc):=N.o.cell 4;have cc_5:w25.cell? (A_ bc 5)=some (I_ vk.seq):=N.o.cell 5;have jr:w25.cell? (A_ bi 20)=some (I_ j0.role):=a6.o.cell 20;have d4:=lH (Blk.rng (cs:=jobA j0) a6.o 5 (comA j0.req.com) (tX j0));go_wp2_with (refine Ay bD 61 _ bD bi 5 bD (comA j0.req.com) _ d4.o underlying61 rfl (Tn _) ?_);clear d4 cc_1 cc_2 cc_3 cc_4 cc_5 jr;refine dh.mono ?_;rintro r bl ⟨va,bu,ua,fa,la,sa,rfl,hs,hg,hu,hf,hl,hR,_,hk⟩;have HSA:=lH (Bl hs (Bl hg (Bl hu (Bl hf hl))));have cl:=lH hR;clear hs hg hu hf hl hR dh;have c3:=lH (ao.o.trans hk);have c7:=lH (ay.o.trans hk);have bx:=lH (N.o.keeps hk bA);have c9:=lH (cq.o.trans hk);have HM26:=lH (HM25.o.keeps hk);have b8:=lH (b7.o.keeps hk bA);have b5:=lH (a6.o.keeps hk bA);have cj:=lH (ci.o.keeps hk);have b2:=lH (bz.o.keeps hk bA);clear hk ao ay N cq HM25 b7 a6 ci bz;go_upto_region 23 with(first | (refine As bD 29 _ _ bD bl (R_ va bu ua fa la sa) bD bD 29 LU.k ((Blk.new bl _ _).alloc _) rfl bC aG ?_;intro w4 hb4 hk4) | (refine As bD 85 _ _ bD (bl+1) #[pE pK D.2.err,I_ D.2.seq,I_ D.2.slot,I_ D.2.gen,I_ D.2.version,I_ D.2.state] bD bD 85 fS.k ((Ar _ _ _ _ bA).keeps hk4 bA) rfl bC aG ?_;intro w27 cr hk5))
   try simp only [By]
   have hk:Aa [] bl w27:=((((Aa.refl [] bl).alloc _).alloc _).own hk4 bF).own hk5 bF;have az:Blk w27 bl 29 (R_ va bu ua fa la sa):=hb4.keeps hk5 bA;obtain⟨br,eu⟩:=eX bl.heap.size;rw [eu] at az cr ⊢;clear eu hb4 hk4 hk5 cr;have c4:=lH (c3.o.trans hk);have c8:=lH (c7.o.trans hk);have aj:=lH (bx.o.keeps hk bA);have db:=lH (c9.o.trans hk);have ap:=lH (HM26.o.keeps hk);have ca:=lH (b8.o.keeps hk bA);have b6:=lH (b5.o.keeps hk bA);have ah:=lH (cj.o.keeps hk);have ak:=lH (b2.o.keeps hk bA);have cm:=lH (cl.o.keeps hk);clear hk c3 c7 bx c9 HM26 b8 b5 cj b2 cl;have cd:=lH az;clear az;have cc_1:w27.cell? (A_ bc 1)=some (pF vk.r.s.ga vk.gn vk.r.s.gc):=aj.o.cell 1;have cc_2:w27.cell? (A_ bc 2)=some (pF vk.r.s.ua vk.un vk.r.s.uc):=aj.o.cell 2;have cc_3:w27.cell? (A_ bc 3)=some (pF vk.r.s.fa vk.fn vk.r.s.fc):=aj.o.cell 3;have cc_4:w27.cell? (A_ bc 4)=some (pF vk.r.la vk.ln vk.r.lc):=aj.o.cell 4;have cc_5:w27.cell? (A_ bc 5)=some (I_ vk.seq):=aj.o.cell 5;have bm:w27.cell? (A_ be 1)=some (pF B.r.s.ga B.gn B.r.s.gc):=ak.o.cell 1;have bp:w27.cell? (A_ be 2)=some (pF B.r.s.ua B.un B.r.s.uc):=ak.o.cell 2;have bq:w27.cell? (A_ be 3)=some (pF B.r.s.fa B.fn B.r.s.fc):=ak.o.cell 3;have bs:w27.cell? (A_ be 4)=some (pF B.r.la B.ln B.r.lc):=ak.o.cell 4;have bt:w27.cell? (A_ be 5)=some (I_ B.seq):=ak.o.cell 5;obtain⟨b,hb⟩:=eX (decide (e.reg=ck.reg));have HG:=FC B.r vk.r e.reg ck.reg B.gn B.un B.fn B.ln vk.gn vk.un vk.fn vk.ln ah.o.g ah.o.u ah.o.f ah.o.lv ap.o.g ap.o.u ap.o.f ap.o.lv B.seq vk.seq ah.o.q ap.o.q b hb w27 ah.o.r ap.o.r;have HBB:=lH hb;clear hb;go_wp2_with fail;refine(HG).mono ?_;rintro r au ⟨rfl,hk⟩;clear HG;clear cc_1 cc_2 cc_3 cc_4 cc_5 bm bp bq bs bt;have cf:=lH (c4.o.trans hk);have co:=lH (c8.o.trans hk);have a4:=lH (aj.o.keeps hk bA);have dd:=lH (db.o.trans hk);have c6:=lH (ap.o.keeps hk);have cc:=lH (ca.o.keeps hk bA);have bh:=lH (b6.o.keeps hk bA);have Y:=lH (ah.o.keeps hk);have ae:=lH (ak.o.keeps hk bA);have a9:=lH (cm.o.keeps hk);have al:=lH (cd.o.keeps hk bA);clear hk c4 c8 aj db ap ca b6 ah ak cm cd;by_cases hbt:b=true
   ·subst hbt
    have HG:=lH (Blk.rng (cs:=(ctlA B)) ae.o 0 (ctlA B) (fun j x hx=>by rw [AW];simpa using hx));go_upto_region 9 with(first | go_big_skip | ((with_reducible show wpList _ _ _ (_::_) _ _);refine Ay bD 36 _ bD be 0 bD (ctlA B) _ HG.o underlying36 rfl (AD _) ?_) | ((with_reducible show wpList _ _ _ (_::_) _ _);refine As bD 36 _ _ bD bc (ctlA B) bD bD 36 (ctlA vk) a4.o rfl (AD _) (Bc _) ?_;intro ew hb hk))
    try simp only [By]
    have bj:Hi (∀W,Aa [bc] ew W->Cg W B e):=lH fun W hW=>Y.o.put a2.o.1 a2.o.2 a4.o bE bE (hk.trans hW);have cg:=lH (cf.o.own hk gJ);have cp:=lH (co.o.own hk uZ);have a5:=lH hb;clear hb hk HG;go_wp2_with fail;go_roundw;case rel=>exact⟨k+1,nw,B,e,by omega,rfl,by go_num,lH uY,cu,a5,bj,cp,cg⟩
    case measure=>(first | exact Fu K3 K3 | (simp [intOf];omega))
   obtain rfl:b=false:=by simpa using hbt
   have ea:=lH (ec.o.resolve_left (of_decide_eq_false HBB.o));have f3:(j0.phase != 3)=false:=by rw [ea.o.1];rfl
   have jp:au.cell? (A_ bi 1)=some (I_ j0.phase):=bh.o.cell 1;have bm:au.cell? (A_ be 1)=some (pF B.r.s.ga B.gn B.r.s.gc):=ae.o.cell 1;have bp:au.cell? (A_ be 2)=some (pF B.r.s.ua B.un B.r.s.uc):=ae.o.cell 2;have bq:au.cell? (A_ be 3)=some (pF B.r.s.fa B.fn B.r.s.fc):=ae.o.cell 3;have bs:au.cell? (A_ be 4)=some (pF B.r.la B.ln B.r.lc):=ae.o.cell 4;have bt:au.cell? (A_ be 5)=some (I_ B.seq):=ae.o.cell 5;have fs:au.cell? (A_ br 0)=some (pF va.s.ga bu va.s.gc):=al.o.cell 0;have ft:au.cell? (A_ br 1)=some (pF va.s.ua ua va.s.uc):=al.o.cell 1;have fu:au.cell? (A_ br 2)=some (pF va.s.fa fa va.s.fc):=al.o.cell 2;have fv:au.cell? (A_ br 3)=some (pF va.la la va.lc):=al.o.cell 3;have fw:au.cell? (A_ br 4)=some (I_ sa):=al.o.cell 4;have HG:=FC B.r va e.reg D.1 B.gn B.un B.fn B.ln bu ua fa la Y.o.g Y.o.u Y.o.f Y.o.lv HSA.o.2.1 HSA.o.2.2.1 HSA.o.2.2.2.1 (by rw [a9.o.t.len];exact HSA.o.2.2.2.2) B.seq sa Y.o.q HSA.o.1.symm true (decide_eq_true ea.o.2) au Y.o.r a9.o;clear hbt;go_wp2_with fail;refine(HG).mono ?_;rintro r ew ⟨rfl,hk⟩;clear HG;clear jp fs ft fu fv fw bm bp bq bs bt;have cg:=lH (cf.o.trans hk);have cp:=lH (co.o.trans hk);have a5:=lH (a4.o.keeps hk bA);have f5:=lH (dd.o.trans hk);have fy:=lH (c6.o.keeps hk);have e3:=lH (cc.o.keeps hk bA);have e0:=lH (bh.o.keeps hk bA);have dq:=lH (Y.o.keeps hk);have dj:=lH (ae.o.keeps hk bA);have fb:=lH (a9.o.keeps hk);have e4:=lH (al.o.keeps hk bA);clear hk cf co a4 dd c6 cc bh Y ae a9 al;have HG:=lH (Blk.rng (cs:=(ctlA B)) dj.o 0 (ctlA B) (fun j x hx=>by rw [AW];simpa using hx));go_upto_region 9 with(first | go_big_skip | ((with_reducible show wpList _ _ _ (_::_) _ _);refine Ay bD 36 _ bD be 0 bD (ctlA B) _ HG.o underlying36 rfl (AD _) ?_) | ((with_reducible show wpList _ _ _ (_::_) _ _);refine As bD 36 _ _ bD bc (ctlA B) bD bD 36 (ctlA vk) a5.o rfl (AD _) (Bc _) ?_;intro fx hb hk))
   try simp only [By]
   have bj:Hi (∀W,Aa [bc] fx W->Cg W B e):=lH fun W hW=>dq.o.put a2.o.1 a2.o.2 a5.o bE bE (hk.trans hW);have d5:=lH (cg.o.own hk gJ);have eg:=lH (cp.o.own hk uZ);have di:=lH hb;clear hb hk HG;go_wp2_with fail;go_roundw;case rel=>exact⟨k+1,nw,B,e,by omega,rfl,by go_num,lH uY,cu,di,bj,eg,d5⟩
   case measure=>(first | exact Fu K3 K3 | (simp [intOf];omega))
  have f1:(z.kind==1)=false:=by simpa using k1
  clear k1;by_cases k2:z.kind=2;rotate_left
  ·have f2:(z.kind==2)=false:=by simpa using k2
   clear k2;go_wp2_with fail;go_roundw;case rel=>exact⟨k+1,nw,vk,ck,by omega,rfl,by go_num,lH uY,HCO,M,lH (fun W hW=>HMK.o W ((HZ21.o.mono bA).trans hW)),ax,HK21⟩
   case measure=>(first | exact Fu K3 K3 | (simp [intOf];omega))
  have f2:(z.kind==2)=true:=by simpa using k2
  clear k2;have fp:w21.cell? (A_ bo 2)=some (I_ z.b):=U.o.cell 2;obtain⟨x0,hx0⟩:=eX ((if z.b<0 then(0:Int) else z.b));have hx1:max z.b 0=x0:=by rw [<- hx0];split<;>omega
  obtain⟨m1,hm⟩:=eX ((if(1000:Int)<x0 then(1000:Int) else x0));have hm1:min x0 1000=m1:=by rw [<- hm];split<;>omega
  obtain⟨nw2,dv⟩:=eX (nw+m1);have d7:Hi (0<=nw2/\nw2<=1000*((k:Int)+1)):=lH (by have:=HNW.o;rw [<- dv,<- hm];split<;>split at hx0<;>omega);have i2:IntKind.i64.wrap (nw+m1)=nw2:=by rw [dv];exact IntWalk.i64_in _ (by have:=d7.o;have:=ct.o;omega)
  clear dv;obtain⟨T,hT⟩:=eX (rS ck nw2);have ds:=tF vk ck nw2 w21 ag.o;rw [hT] at ds;have cw:=lH (uF HCO.o nw2);rw [hT] at cw;obtain⟨e,hl⟩:=T;dsimp only at cw;clear hT;have HG:=lH (Blk.rng (cs:=(ctlA vk)) M.o 0 (ctlA vk) (fun j x hx=>by rw [AW];simpa using hx));go_wp2_with (refine Ay bD 36 _ bD bc 0 bD (ctlA vk) _ HG.o underlying36 rfl (AD _) ?_);clear HG hx0 hx1 hm hm1 i2;refine ds.mono ?_;rintro r w22 ⟨B,ta,tn,tc,rfl,hm,hn,_,_,hk⟩;have aw:=lH hm;have a2:Hi (Fo w21 B e/\bc<w21.heap.size):=lH ⟨hn,M.o.lt⟩;clear hm hn ds;have HK22:=lH (HK21.o.trans hk);have ar:=lH (ax.o.trans hk);have ab:=lH (M.o.keeps hk bA);have HZ22:=lH (HZ21.o.trans hk);have HM22:=lH (ag.o.keeps hk);have af:=lH (U.o.keeps hk bA);clear hk HK21 ax M HZ21 ag U;go_upto_region 29 with(refine As bD 36 _ _ bD w22 (ctlA B) bD bD 36 Hh.k (Blk.new w22 _ _) rfl (AD _) (Bc _) ?_;intro w23 hb hk)
  try simp only [By]
  have dp:Hi (w.heap.size<=w22.heap.size):=lH HK22.o.size;obtain⟨be,bf⟩:=eX w22.heap.size;replace hk:Aa [] w22 w23:=((Aa.refl [] w22).alloc _).own hk QW;rw [bf] at hb dp ⊢;clear bf;have ai:=lH (HK22.o.trans hk);have am:=lH (ar.o.trans hk);have F:=lH (ab.o.keeps hk bA);have HZ23:=lH (HZ22.o.trans hk);have J:=lH (HM22.o.keeps hk);have X:=lH (af.o.keeps hk bA);have G:=lH (aw.o.keeps hk);clear hk HK22 ar ab HZ22 HM22 af aw;have O:Hi (Blk w23 be 36 (ctlA B)):=lH hb;clear hb;obtain⟨D,hD⟩:=eX (Hx ck.reg nw2);have e5:Hi (e.reg=D):=lH (by rw [<- hD];exact cw.o.2);have HTK:Hi (∀W,Aa [] w23 W->Calls prog 23 #[pH (R_ vk.r vk.gn vk.un vk.fn vk.ln vk.seq),I_ nw2] W (XA W D)):=lH fun W hk=>by rw [<- hD];exact Wh vk.r ck.reg vk.gn vk.un vk.fn vk.ln J.o.g J.o.u J.o.f J.o.l vk.seq J.o.q nw2 W (J.o.r.keeps hk)
  clear hD;have rc:=(show Blk w23 bc 36 (C_ vk) from F.o).rl;have re:=(show Blk w23 be 36 (C_ B) from O.o).rl;go_cut [143] (fun y wd=>y = pI false/\Hi (Aa [] w23 wd))
  case first=>
   refine wp_region_held_drew (S:=(Aa [] w23)) bC vF (fun hHeld=>?_);refine rK 0 ?_;refine rK 1 ?_;refine rK 2 ?_;refine rK 3 ?_;refine rK 4 ?_;refine rC 5 fun K hK=>?_;go_simp
   (refine(HTK.o _ hHeld).mono ?_;rintro er wT ⟨va,bu,ua,fa,la,sa,rfl,hs,hg,hu,hf,hl,hR,_,hkT⟩;have HSA:=lH (Bl hs (Bl hg (Bl hu (Bl hf hl))));clear hs hg hu hf hl;have hkT':=hHeld.trans hkT)
   (try clear rH);refine rP hK vF fun rH hHeld=>?_;clear hK K
   refine rC 6 fun K hK=>?_;go_simp
   (refine(FC B.r va e.reg D B.gn B.un B.fn B.ln bu ua fa la G.o.g G.o.u G.o.f G.o.lv HSA.o.2.1 HSA.o.2.2.1 HSA.o.2.2.2.1 (by rw [hR.t.len];exact HSA.o.2.2.2.2) B.seq sa G.o.q HSA.o.1.symm true (decide_eq_true e5.o) _ (G.o.r.keeps hHeld) hR).mono ?_;rintro er wU ⟨rfl,fl⟩;have hkU':=hHeld.trans fl)
   (try clear rH);refine rP hK vF fun rH hHeld=>?_;clear hK K
   refine rK 7 ?_;refine wpAnyH_done bC ?_ _
   (go_wp2_with fail;go_meet;exact⟨rfl,lH hkU'⟩)
  case rest=>
   obtain⟨rfl,HKD⟩:=hcut
   rename World=>w24
   have hk:=HKD.o;clear rc re HTK HKD;have HK24:=lH (ai.o.trans hk);have a3:=lH (am.o.trans hk);have ad:=lH (F.o.keeps hk bA);have HZ24:=lH (HZ23.o.trans hk);have HM24:=lH (J.o.keeps hk);have a7:=lH (X.o.keeps hk bA);have an:=lH (G.o.keeps hk);have bg:=lH (O.o.keeps hk bA);clear hk ai am F HZ23 J X G O;have HG:=lH (Blk.rng (cs:=(ctlA B)) bg.o 0 (ctlA B) (fun j x hx=>by rw [AW];simpa using hx));go_upto_region 9 with(first | go_big_skip | ((with_reducible show wpList _ _ _ (_::_) _ _);refine Ay bD 36 _ bD be 0 bD (ctlA B) _ HG.o underlying36 rfl (AD _) ?_) | ((with_reducible show wpList _ _ _ (_::_) _ _);refine As bD 36 _ _ bD bc (ctlA B) bD bD 36 (ctlA vk) ad.o rfl (AD _) (Bc _) ?_;intro w25 hb hk))
   try simp only [By]
   have bj:Hi (∀W,Aa [bc] w25 W->Cg W B e):=lH fun W hW=>an.o.put a2.o.1 a2.o.2 ad.o bE bE (hk.trans hW);have ao:=lH (HK24.o.own hk gJ);have ay:=lH (a3.o.own hk uZ);have N:=lH hb;clear hb hk HG;go_wp2_with fail;go_roundw;case rel=>exact⟨k+1,nw2,B,e,by omega,rfl,by go_num,lH (by have:=d7.o;omega),lH cw.o.1,N,bj,ay,ao⟩
   case measure=>(first | exact Fu K3 K3 | (simp [intOf];omega))
end
section
open Go.RowKit Go.Shelf Go.WideShapes Go.ChangeShapes Go.ChangeAt Go.Deep
section
variable {H:Type} {enc:TypeId×Value->H} {W:World} {base:Nat} {spare:Nat->Bool} {held:Bool}
theorem uS:prog.cellsOf 78=4:=bC
theorem uW{fuel:Nat}{cs:List Value}{x:DataW H×List MemPlace}(h:AJ enc prog W base spare held fuel 78 cs=some x):∃y:sZ,cs=qR y/\True:=by
 have hl:=EH underlying78 uS h;obtain⟨_,_,h0⟩:=Az underlying78 0 rfl bE (ft:=3) (o:=0) (c:=1) rfl rfl ki h;obtain⟨M,F,q0⟩:=Fg h0;have B:=Cb cs 0 1 1 rfl;rw [F] at B;obtain⟨_,_,h1⟩:=Az underlying78 1 rfl bE (ft:=3) (o:=1) (c:=1) rfl rfl ki h;obtain⟨N,e1,q1⟩:=Fg h1;have g1:=Cb cs 1 1 2 rfl;rw [e1] at g1;obtain⟨_,_,h2⟩:=Az underlying78 2 rfl bE (ft:=3) (o:=2) (c:=1) rfl rfl ki h;obtain⟨O,e2,q2⟩:=Fg h2;have D:=Cb cs 2 1 3 rfl;rw [e2] at D;obtain⟨_,_,h3⟩:=Az underlying78 3 rfl bE (ft:=9) (o:=3) (c:=1) rfl rfl ks h;obtain⟨y3,G,q3⟩:=NG h3;have E:=Cb cs 3 1 4 rfl;rw [G] at E;have J:cs.drop 4 = []:=AI bB;rw [BC] at B;refine⟨⟨M,N,O,y3⟩,?_,trivial⟩;rw [B,g1,D,E,J];rfl
theorem uN{fuel:Nat}{cs:List Value}{x:DataW H×List MemPlace}(h:AJ enc prog W base spare held fuel 73 cs=some x):
  ∃y:Option Addr×List sZ×Nat,cs = [pF y.1 y.2.1.length y.2.2]/\AR qR 4 W y.1 y.2.2 y.2.1/\y.2.1.length<=9223372036854775807/\∀z∈y.2.1,True:=by
 obtain⟨a,B,c,e,hs,hl,hz⟩:=ES (α:=sZ) (en:=qR) (ok:=fun z=>True) underlying73 uS bE qZ (fun fuel cs x h=>uW h) h;exact⟨(a,B,c),e,hs,hl,hz⟩
theorem tN{v:Value}{d:DataW H}{p:List MemPlace}(hv:Value.okWide prog W .any 0 73 v)(h:DataW.Trod enc prog W base spare held 73 v d p):
  ∃(a:Option Addr) (xs:List sZ) (c:Nat),v = pF a xs.length c/\sD W a c xs/\xs.length<=9223372036854775807:=by
 obtain⟨B,len,cap,rfl⟩:=okWide_slice underlying73 hv;obtain⟨fuel,hf⟩:=h;obtain⟨⟨a,xs,c⟩,e,hs,hl,_⟩:=uN hf;exact⟨a,xs,c,by simpa [Value.cells] using e,hs,hl⟩
end
end
section
open Go.RowKit
namespace controlOrder
open Go.ChangeShapes Go.WideShapes Go.ChangeAt
open Go.ChangeMaps (open_string)
theorem lifted(os:Os)(D:os.Started)(H:Type)(enc:TypeId×Value->H):
  ReturnsInHanded {} checked os 5 .any (fun w args=>(Rows.controlOrderSpec.pre enc prog f5 [] false w args/\laidMetH prog En w)/\sizedMet enc prog f5 (OpenSpec.ofChange Rows.controlOrderSpec) false w args)
   (Rows.controlOrderSpec.post enc prog f5 false true false false):=by
 refine FO (C:=checked) (X:=fun w _=>laidMetH prog En w) (fun _ _ _ hh h=>h.of_heap hh) own D bC func5
  (ChangeSpec.witness_shaped (enc:=enc) (C:=checked) (os:=os) (X:=fun w _=>laidMetH prog En w) false (World.doorLaid prog 400 os) #[pF none 0 0,I_ 0,pF none 0 0] 8 rfl (FT os _) (Qi _) (KK H enc _) (Qm H enc _) (Jh os _)) ?_
 intro W F args ds gs G E hW hL O;have B:∀(j:Nat) t v,f5.params[j]? = some t->args[j]? = some v->Value.okWide prog W .any F t v:=E;have M:=hW;obtain⟨p,q,J,hV,rfl,aj,al⟩:=hW;have hA:DataW.TrodAll enc prog W 0 (fun _=>true) true f5.params.toList args.toList ds p:=J;rw [params5] at hA B;obtain⟨v0,ao,d0,ag,p0,q0,N,rfl,rfl,h0,r0⟩:=trodAll_cons hA;obtain⟨v1,ap,d1,ah,p1,q1,rfl,rfl,rfl,h1,r1⟩:=trodAll_cons r0;obtain⟨v2,ar,d2,ai,p2,q2,rfl,rfl,rfl,h2,r2⟩:=trodAll_cons r1;obtain⟨rfl,rfl,rfl⟩:=trodAll_nil r2;obtain rfl:args=#[v0,v1,v2]:=by cases args;simp_all
 obtain⟨rfl,rfl⟩:=trodVars_none hV;obtain⟨Y,T,c0,rfl,w0⟩:=sV (B 0 22 v0 rfl rfl) h0;obtain⟨a1,rfl,rfl,rfl,w1⟩:=open_int underlying3 (B 1 3 v1 rfl rfl) h1;obtain⟨a2,U,c2,rfl,w2⟩:=tN (B 2 73 v2 rfl rfl) h2;refine(rF Y T c0 a1 a2 U c2 W w0 w2 (KI hL O)).mono fun e W' ⟨he,hk⟩=>?_;subst he;exact⟨_,rfl,Jn JQ kL rfl rfl underlying4 M (hk.below (Aw _) bA) ⟨rfl,rfl,rfl⟩⟩
theorem Q2:Rows.controlOrderRow.holds Tryz.pinned (OpenSpec.ofChange Rows.controlOrderSpec):=
 OpenClaim.holds_of_wide 5 f5 rfl rfl rfl rfl rfl rfl rfl ⟨rfl,rfl,rfl,rfl,rfl⟩ rfl rfl rfl rfl rfl It func5 Iu
  (of_decide_eq_true bC) kM
  (fun os started H enc _=>lifted os started H enc)
theorem proved:Rows.ControlOrderCardSaid:=
 Claim7.holds_tied_plain_at .later [] [.data,.data,.data,.handle,.sentinel,.sentinel,.sentinel,.sentinel,.sentinel,.sentinel,.sentinel,.sentinel,.data,.sentinel,.sentinel,.sentinel] true (true, "dd7f32c1959a76bf46b3062965ebd43ad50527f473b9a7f2776f8a1a0e13ef81") true
  Q2 (fun _ h=>by cases h) bC (fun _ h=>by cases h) controlOrder_row_tie rfl ⟨rfl,rfl⟩ R6 rfl
  (fun f fn hf hfn=>by
   obtain rfl:f=5:=Option.some.inj (It.symm.trans hf) |>.symm;obtain rfl:fn=f5:=(Option.some.inj (func5.symm.trans hfn)).symm;exact⟨R3,fun j t ht=>by
    rw [params5] at ht;have hm:t∈[22,3,73]:=by simpa using Array.mem_of_getElem? ht
    have hall:([22,3,73].all fun u=>!prog.wantsStandIn u)=true:=bC;exact(show prog.wantsStandIn t=false by simpa using Bm.1 hall t hm)⟩)
  Qd
end controlOrder
end
end Go.Proofs.YtncebikgoleolaaGreatDoor
