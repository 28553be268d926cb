/- ControlReplies: a reply to a command that was done tells what a registry, that does one after the other, tells. -/
import Derived.Test.YtjieiikpolahfaaGreatDoorMaf
import Derived.Test.YtjieiikpolahfaaGreatDoorMar
import Derived.Test.YtjieiikpolahfaaGreatDoorMav
set_option maxRecDepth 100000
set_option maxHeartbeats 8000000
set_option linter.all false
namespace Go.Proofs.YtjieiikpolahfaaGreatDoor
open Go.Proofs.Tryz
open Act renaming put→By
open _root_.And renaming intro→Bl
open _root_.ByteArray renaming empty→Bh
open Ending renaming returned→pJ
open IntKind renaming i64→pK
open Lib renaming toList_data→C9
open _root_.List renaming all_eq_true→Bm,getD_eq_getElem?_getD→AO,length_cons→Av,mem_append→AQ,mem_singleton→Ag,take_of_length_le→Ak
open _root_.Nat renaming add_zero→AT,le_refl→Aw,zero_add→AW,zero_le→Ba
open Oper renaming semAt_some→pN
open Value renaming agg→pH,bool→pI,int→pE,slice→pF,string→Dz
section
open Go.RowKit Go.Shelf
attribute [local go_sem] pN Lr Ls Lp Lq
attribute [local go_sem ↓] wp_at_zero wp_at_succ
def OV(js:List Bq)(conn:Int):Bq×Bool:=match BF js conn with
 | some i=>(js.getD i job0,true)
 | none=>(job0,false)
theorem OI(G J M N O T U X Y:Value)(ja:Option Addr)(ln jc:Nat)(js:List Bq)(hln:js.length=ln)(B:ln<=1000)(conn:Int)(w:World)(hl:Kt w ja jc js):
  Calls prog 14 #[pH #[G,J,M,N,O,T,U,X,pF ja ln jc,Y],I_ conn] w fun x w'=>x = pJ (.tuple #[pH (jobA (OV js conn).1),pI (OV js conn).2])/\Aa [] w w':=by
 obtain⟨w0,hw0⟩:=eX ((w.alloc (.cells #[G,J,M,N,O,T,U,X,pF ja ln jc,Y] 36)).alloc (.cells #[pE pK 0,I_ 0,Dz ⟨#[]⟩,Dz ⟨#[]⟩,I_ 0,I_ 0,Dz ⟨#[]⟩,I_ 0,I_ 0,pI false,I_ 0,I_ 0,I_ 0,I_ 0,Dz ⟨#[]⟩,I_ 0,I_ 0,I_ 0,I_ 0,I_ 0,I_ 0,Dz ⟨#[]⟩,I_ 0,I_ 0] 61));have hk0:Aa [] w w0:=by rw [<- hw0];exact((Aa.refl [] w).alloc _).alloc _
 have hb0:Blk w0 w 36 #[G,J,M,N,O,T,U,X,pF ja ln jc,Y]:=by rw [<- hw0];exact(Blk.new w _ _).alloc _
 have hb1:Blk w0 (w+1) 61 (jobA job0):=by rw [<- hw0];exact Ar _ _ _ _ bA
 have q0:=hb0.rl;have HP:=JX G J M N O T U X Y ja ln jc js hln B conn w0 (hl.keeps hk0);have HB0:=lH hb0;have HB1:=lH hb1;have HK0:=lH hk0;have HL:=lH hl;have HLN:=lH hln;obtain⟨R,hR⟩:=eX (OV js conn);rw [hR];unfold OV at hR;have HLT:=lH (fun k (h:BF js conn=some k)=>Pu h);obtain⟨pl,E⟩:=eX (BF js conn);rw [E] at hR HP HLT;have HR:=lH hR;clear hk0 hb0 hb1 hl hln hR E;go_enter func14,ntmps14;go_wp2_with fail;refine HP.mono ?_;rintro e w1 ⟨rfl,hk1⟩;have HK1:=lH (HK0.o.trans hk1);have q1:=(HB0.o.keeps hk1 bA).rl;have HB:=lH (HB1.o.keeps hk1 bA);clear hw0 q0 hk1 HB0 HB1 HP;cases pl with
 | none=>
  have F:Hi ((job0,false)=R):=lH HR.o;simp only [Option.getD_none,Option.isSome_none];go_wp2_with (refine wpList_store_row bD 61 _ _ bD (w+1) (jobA job0) bD bD 61 (jobA job0) HB.o (D2 _) rfl (Gp _) ?_);refine bodyPost_ret (v:=.tuple #[pH (jobA job0),pI false]) ?_ rfl ⟨by rw [<- F.o],?_⟩
  ·exact AS rfl _ _ (w+1) 61 (jobA job0) _ (pI false) rfl rfl (HB.o.row _) underlying61 rfl (D2 _)
  ·exact HK1.o.own (Br _ _ _) bF
 | some k=>
  have D:k<js.length:=HLT.o k rfl;have F:Hi ((js.getD k job0,true)=R):=lH HR.o;obtain⟨g1,o1,v,rfl,hg1,hx1,hat1⟩:=(HL.o.keeps HK1.o).at_k (k:=k) D;have HQ:=lH (JC hat1);have hgd:js.getD k job0=v:=by rw [AO,hx1];rfl
  rw [hgd] at F;have i1:(0:Int)<=(k:Int):=bB;have i2:(k:Int)<(ln:Int):=by have:=HLN.o;omega
  simp only [Option.getD_some,Option.isSome_some];clear hat1 hx1 hgd D;go_wp2_with (first | (refine Ay bD 61 _ bD g1 (o1+k*24) bD (jobA v) _ HQ.o underlying61 rfl (D2 v) ?_) | (refine wpList_store_row bD 61 _ _ bD (w+1) (jobA v) bD bD 61 (jobA job0) HB.o (D2 v) rfl (Gp v) ?_));refine bodyPost_ret (v:=.tuple #[pH (jobA v),pI true]) ?_ rfl ⟨by rw [<- F.o],?_⟩
  ·exact AS rfl _ _ (w+1) 61 (jobA v) _ (pI true) rfl rfl (HB.o.row _) underlying61 rfl (D2 _)
  ·exact HK1.o.own (Br _ _ _) bF
end
section
open Go.RowKit Go.Shelf
theorem Up{u:ByteArray}{l:List (List UInt8)}(h:Ce u.data.toList = .ok l):u.size<=300:=by
 unfold Ce at h;split at h
 ·cases h
 ·rename_i hl
  have:u.size=u.data.toList.length:=bA;omega
end
section
open Go.RowKit Go.Shelf
attribute [local go_sem] pN Lr Ls Lp Lq
attribute [local go_sem ↓] wp_at_zero wp_at_succ
theorem NJ(l:List GF)(z:GF)(B:ByteArray):roleL (l++[z]) B=if z.name=B then z.role else roleL l B:=by unfold roleL;rw [List.foldl_append];rfl
theorem eA(q:QK)(j:Nat)(x:Value)(h:(comA q.com).toList[j]? = some x):(reqA q)[2+j]? = some x:=by
 match j with
 | 0=>exact h
 | 1=>exact h
 | 2=>exact h
 | 3=>exact h
 | 4=>exact h
 | 5=>exact h
 | 6=>exact h
 | 7=>exact h
 | 8=>exact h
 | 9=>exact h
 | 10=>exact h
 | 11=>exact h
 | k+12=>cases h
theorem J2(v0:CV)(k0:BN)(conn now:Int)(s:ByteArray)(w:World)(hA:GY w v0 k0)(hE:Gu w):
  Calls prog 6 #[pH (ctlA v0),I_ conn,I_ now,Dz s] w fun r w'=>r = pJ (pI true)/\Aa [] w w':=by
 rw [show ctlA v0=(C_ v0) from rfl];obtain⟨c,hc⟩:=eX (MU k0);have HC:=lH hc;obtain⟨t,ht⟩:=eX (F0 s);have HT:=lH ht;have HTS:Hi (t.size<=310):=lH (by rw [<- ht];exact OQ s);clear ht;have HA:=lH hA;have HE:Hi (∀W,Aa [] w W->Gu W):=lH fun W hk=>hE.keeps hk;obtain⟨w0,hw0⟩:=eX (w.alloc (.cells (C_ v0) 36));have HK0:Hi (Aa [] w w0):=lH aX;have hb:Blk w0 w 36 (ctlA v0):=by rw [<- hw0];exact Blk.new w _ _
 obtain⟨bc,hbc⟩:=eX w.heap.size;have dt:Hi (w.heap.size<=bc):=lH (Nat.le_of_eq hbc);rw [hbc] at hb;have cl:Hi (Blk w0 bc 36 (ctlA v0)):=lH hb;clear hA hE hb hc;go_enter func6,ntmps6;go_wp2_with fail;try rw [hbc]
 clear hw0 hbc;refine(GD w0 (HE.o _ HK0.o)).mono ?_;rintro r w1 ⟨rfl,hk⟩;have HK1:=lH (HK0.o.trans hk);have a6:=lH (cl.o.keeps hk bA);clear hk HK0 cl;have HG:=lH (Blk.rng (cs:=(ctlA v0)) a6.o 0 (ctlA v0) (fun j x hx=>by rw [AW];simpa using hx));go_wp2_with (refine Ay bD 36 _ bD bc 0 bD (ctlA v0) _ HG.o underlying36 rfl (AD _) ?_);clear HG;refine(Hm v0 k0 w HA.o w1 HK1.o).mono ?_;rw [HC.o];rintro r w2 ⟨v,rfl,hm,hn,hk⟩;have HN:Hi ((DU (fun y=>w.heap.size<=y/\y<w1.heap.size) v c)/\DW (fun y=>w.heap.size<=y/\y<w1.heap.size) v.ja v.jn):=lH hn;have HLT:Hi (bc<w1.heap.size):=lH a6.o.lt;have dv:=lH hm;clear hn hm;have HK2:=lH (HK1.o.trans hk);have bj:=lH (a6.o.keeps hk bA);clear hk HK1 a6;go_upto_region 3 with(refine As bD 36 _ _ bD bc (ctlA v) bD bD 36 (ctlA v0) bj.o rfl (AD _) (Bc _) ?_;intro w3 hb hk)
 try simp only [By]
 have dw:=lH (dv.o.stay HN.o.1 HN.o.2 hk (fun y hy=>by obtain rfl:=Ag.1 hy;exact⟨dt.o,HLT.o⟩) (H9.blk bj.o bE bE));have c7:=lH (HK2.o.own hk (fun y hy=>by obtain rfl:=Ag.1 hy;exact dt.o));have cm:=lH hb;clear hb hk HK2 bj dv HA HN HLT;go_wp2_with fail;refine(EU s _).mono ?_;rintro r w' ⟨rfl,rfl⟩;rw [HT.o];obtain⟨q,er,hq⟩:∃q er,parseR t=(q,er):=⟨_,_,rfl⟩;have HPQ:=lH hq;obtain⟨E,hC⟩:=(HE.o _ c7.o).c;have HP:=Gw E t aH w3 hC;rw [hq] at HP;clear hC hq;go_wp2_with fail;refine(HP).mono ?_;rintro r w4 ⟨rfl,hk⟩;clear HP;have HK4:=lH (c7.o.trans hk);have cn:=lH (cm.o.keeps hk bA);have HM4:=lH (dw.o.keeps hk);clear hk c7 cm dw;go_upto_region 5 with(refine As bD 59 _ _ bD w4 (reqA q) bD bD 59 aQ.k (Blk.new w4 _ _) rfl (Cr _) (Dg _) ?_;intro w5 hb hk)
 try simp only [By]
 have eq:Hi (w.heap.size<=w4.heap.size):=lH HK4.o.size;obtain⟨bq,ee⟩:=eX w4.heap.size;replace hk:Aa [] w4 w5:=((Aa.refl [] w4).alloc _).own hk QW;rw [ee] at hb eq ⊢;clear ee;have HK5:=lH (HK4.o.trans hk);have bl:=lH (cn.o.keeps hk bA);have c9:=lH (HM4.o.keeps hk);clear hk HK4 cn HM4;have cq:Hi (Blk w5 bq 59 (reqA q)):=lH hb;clear hb;by_cases he:er=0;rotate_left
 ·have f1:(er != 0)=true:=by simpa using he
  clear he;go_wp2_with fail;go_ret;exact⟨rfl,HK5.o⟩
 subst he;obtain⟨b,hb⟩:=eX (JY c);have ek:=lH hb;have HR:=Ij v c b hb w5 c9.o;clear hb;have ds:=lH (Blk.rng (cs:=(ctlA v)) bl.o 0 (ctlA v) (fun j x hx=>by rw [AW];simpa using hx));go_wp2_with (refine I7 36 _ bD bD bc 0 bD (ctlA v) _ ds.o underlying36 rfl (AD _) ?_);refine HR.mono ?_;rintro r w6 ⟨rfl,hk⟩;clear HR ds;have b4:=lH (HK5.o.trans hk);have co:=lH (bl.o.keeps hk bA);have dx:=lH (c9.o.keeps hk);have cr:=lH (cq.o.keeps hk bA);clear hk HK5 bl c9 cq;by_cases hbt:b=true;rotate_left
 ·obtain rfl:b=false:=by simpa using hbt
  go_wp2_with fail;go_ret;exact⟨rfl,b4.o⟩
 subst hbt;by_cases n1:now<0
 ·have f3:decide (now<0)=true:=decide_eq_true n1
  clear n1;go_wp2_with fail;go_ret;exact⟨rfl,b4.o⟩
 have f3:decide (now<0)=false:=decide_eq_false n1;by_cases n2:now>1000000000000
 ·have f4:decide (now>1000000000000)=true:=decide_eq_true n2
  clear n2;go_wp2_with fail;go_ret;exact⟨rfl,b4.o⟩
 have f4:decide (now>1000000000000)=false:=decide_eq_false n2;have es:Hi (0<=now/\now<=1000000000000):=lH ⟨by omega,by omega⟩;clear n1 n2;go_wp2_with fail;clear f3 f4;go_loopw [12] (fun dj wr=>∃k:Nat,k<=v.dn/\dj = I_ k/\Hi (∀a∈c.done.take k,¬(a.who=q.who/\a.id=q.id))/\Hi (Aa [] w6 wr)) (fun dj _=>v.dn - (intOf dj).toNat)
 case atStart=>exact⟨0,Ba _,rfl,lH bA,lH (Aa.refl _ _)⟩
 case round=>
  obtain⟨k,hkn,rfl,HD,aq⟩:=hrel
  rename World=>w7
  have hk:=aq.o;have HK7:=lH (b4.o.trans hk);have ag:=lH (co.o.keeps hk bA);have ba:=lH (dx.o.keeps hk);have ae:=lH (cr.o.keeps hk bA);clear hk b4 co dx cr;have cx:w7.cell? (A_ bc 9)=some (pF v.da v.dn v.dc):=ag.o.cell 9;by_cases hlt:k<v.dn
  ·obtain⟨ga,oa,z,ha,dg,hz,hat⟩:=ba.o.d.at_k (k:=k) (by rw [ba.o.dn];exact hlt)
   have z0:=hat 0 _ rfl;have z1:=hat 1 _ rfl;rw [AT] at z0;rw [ha] at cx;have HZ:=lH hz;have i4:(0:Int)<=(k:Int):=bB;have i5:(k:Int)<(v.dn:Int):=bB;have di:v.dn<=900:=ba.o.dl;have i6:wrap64 ((k:Int)+1)=(k:Int)+1:=IntWalk.wrap64_in _ ⟨by omega,by omega⟩;clear di;have q0:w7.cell? (A_ bq 0)=some (Dz q.who):=ae.o.cell 0;have q1:w7.cell? (A_ bq 1)=some (I_ q.id):=ae.o.cell 1;clear hat ha hz;go_wp2_with fail;by_cases hw:z.who=q.who;rotate_left
   ·have f6:(z.who.toList==q.who.toList)=false:=NX hw
    have db:Hi (¬(z.who=q.who/\z.id=q.id)):=lH fun h=>hw h.1;clear hw;have ci:=ag.o.lt;have cj:=ae.o.lt;try(rename ∀(a:Act) (w:World),_->_=>G;replace G:=AU.mk G)
    try(rename ∀(a:Act) (w:World),_->_=>J;replace J:=AU.mk J)
    iterate 4 (try(rename ∀(a:Act) (w:World),_->_=>U;replace U:=AU.mk U))
    refine wp_region_held_drew (S:=(Aa [] w7)) bC Td (fun hHeld=>?_);refine rK 0 ?_;refine rK 1 ?_;refine rK 2 ?_;refine rK 3 ?_;refine rK 4 ?_;refine rK 5 ?_;refine rK 6 ?_;refine rK 7 ?_;refine rK 8 ?_;refine rK 9 ?_;refine rN 10 ?_;refine rN 11 ?_;refine rN 12 ?_;refine rN 13 ?_;refine rN 14 ?_;refine rN 15 ?_;refine rN 16 ?_;refine rN 17 ?_;refine rN 18 ?_;refine rK 19 ?_;refine wpAnyH_done bC ?_ _
    ((try replace J:=J.out);(try replace G:=G.out);go_wp2_with fail;go_roundw;(case rel=>exact⟨k+1,by omega,by go_num,lH (fun a ha=>by rw [A0 HZ.o] at ha;rcases AQ.1 ha with h | h;(exact HD.o a h);(obtain rfl:=Ag.1 h;exact db.o)),lH (aq.o.trans hHeld)⟩);(case measure=>(first | exact Fu K3 K3 | (simp [intOf];omega))))
   have f6:(z.who.toList==q.who.toList)=true:=by rw [hw];simp
   by_cases hi:z.id=q.id
   ·have f5:(z.id==q.id)=true:=by simpa using hi
    clear hw hi;have ci:=ag.o.lt;have cj:=ae.o.lt;try(rename ∀(a:Act) (w:World),_->_=>G;replace G:=AU.mk G)
    try(rename ∀(a:Act) (w:World),_->_=>J;replace J:=AU.mk J)
    iterate 4 (try(rename ∀(a:Act) (w:World),_->_=>U;replace U:=AU.mk U))
    refine wp_region_held_drew (S:=(Aa [] w7)) bC Td (fun hHeld=>?_);refine rK 0 ?_;refine rK 1 ?_;refine rK 2 ?_;refine rK 3 ?_;refine rK 4 ?_;refine rK 5 ?_;refine rK 6 ?_;refine rK 7 ?_;refine rK 8 ?_;refine rK 9 ?_;refine rK 10 ?_;refine rK 11 ?_;refine rK 12 ?_;refine rK 13 ?_;refine rK 14 ?_;refine rK 15 ?_;refine rK 16 ?_;refine rK 17 ?_;refine rK 18 ?_;refine rK 19 ?_;refine wpAnyH_done bC ?_ _
    ((try replace J:=J.out);(try replace G:=G.out);go_wp2_with fail;go_ret;exact⟨rfl,HK7.o.trans hHeld⟩)
   have f5:(z.id==q.id)=false:=by simpa using hi
   have db:Hi (¬(z.who=q.who/\z.id=q.id)):=lH fun h=>hi h.2;clear hw hi;have ci:=ag.o.lt;have cj:=ae.o.lt;try(rename ∀(a:Act) (w:World),_->_=>G;replace G:=AU.mk G)
   try(rename ∀(a:Act) (w:World),_->_=>J;replace J:=AU.mk J)
   iterate 4 (try(rename ∀(a:Act) (w:World),_->_=>U;replace U:=AU.mk U))
   refine wp_region_held_drew (S:=(Aa [] w7)) bC Td (fun hHeld=>?_);refine rK 0 ?_;refine rK 1 ?_;refine rK 2 ?_;refine rK 3 ?_;refine rK 4 ?_;refine rK 5 ?_;refine rK 6 ?_;refine rK 7 ?_;refine rK 8 ?_;refine rK 9 ?_;refine rK 10 ?_;refine rK 11 ?_;refine rK 12 ?_;refine rK 13 ?_;refine rK 14 ?_;refine rK 15 ?_;refine rK 16 ?_;refine rK 17 ?_;refine rK 18 ?_;refine rK 19 ?_;refine wpAnyH_done bC ?_ _
   ((try replace J:=J.out);(try replace G:=G.out);go_wp2_with fail;go_roundw;(case rel=>exact⟨k+1,by omega,by go_num,lH (fun a ha=>by rw [A0 HZ.o] at ha;rcases AQ.1 ha with h | h;(exact HD.o a h);(obtain rfl:=Ag.1 h;exact db.o)),lH (aq.o.trans hHeld)⟩);(case measure=>(first | exact Fu K3 K3 | (simp [intOf];omega))))
  have i5:¬(k:Int)<(v.dn:Int):=bB;have em:Hi (∀a∈c.done,¬(a.who=q.who/\a.id=q.id)):=lH (by have h:=HD.o;rw [Ak (by rw [ba.o.dn];omega)] at h;exact h);clear HD aq hkn hlt;go_wp2_with fail;clear i5 cx;go_loopw [13,14] (fun e6 dk wr=>∃(k:Nat) (r0:Int),k<=v.on/\e6 = I_ r0/\dk = I_ k/\Hi (roleL (c.ops.take k) q.who=r0)/\Hi (Aa [] w7 wr)) (fun _ dk _=>v.on - (intOf dk).toNat)
  case atStart=>exact⟨0,0,Ba _,rfl,rfl,lH rfl,lH (Aa.refl _ _)⟩
  case round=>
   obtain⟨k,r0,hkn,rfl,rfl,HD,aq⟩:=hrel
   rename World=>w8
   have hk:=aq.o;have HK8:=lH (HK7.o.trans hk);have ah:=lH (ag.o.keeps hk bA);have ar:=lH (ba.o.keeps hk);have aw:=lH (ae.o.keeps hk bA);clear hk HK7 ag ba ae;have cw:w8.cell? (A_ bc 0)=some (pF v.oa v.on v.oc):=ah.o.cell 0;by_cases hlt:k<v.on
   ·obtain⟨ga,oa,z,ha,dg,hz,hat⟩:=ar.o.o.at_k (k:=k) (by rw [ar.o.on];exact hlt)
    have z0:=hat 0 _ rfl;have z1:=hat 1 _ rfl;rw [AT] at z0;rw [ha] at cw;have HZ:=lH hz;have i4:(0:Int)<=(k:Int):=bB;have i5:(k:Int)<(v.on:Int):=bB;have di:v.on<=1000:=ar.o.ol;have i6:wrap64 ((k:Int)+1)=(k:Int)+1:=IntWalk.wrap64_in _ ⟨by omega,by omega⟩;clear di;have q0:w8.cell? (A_ bq 0)=some (Dz q.who):=aw.o.cell 0;clear hat ha hz;go_wp2_with fail;by_cases hw:z.name=q.who
    ·have f6:(z.name.toList==q.who.toList)=true:=by rw [hw];simp
     have HW:=lH hw;clear hw;have ci:=ah.o.lt;have cj:=aw.o.lt;try(rename ∀(a:Act) (w:World),_->_=>G;replace G:=AU.mk G)
     try(rename ∀(a:Act) (w:World),_->_=>J;replace J:=AU.mk J)
     iterate 4 (try(rename ∀(a:Act) (w:World),_->_=>U;replace U:=AU.mk U))
     refine wp_region_held_drew (S:=(Aa [] w8)) bC Td (fun hHeld=>?_);refine rK 0 ?_;refine rK 1 ?_;refine rK 2 ?_;refine rK 3 ?_;refine rK 4 ?_;refine rK 5 ?_;refine rK 6 ?_;refine rK 7 ?_;refine rK 8 ?_;refine wpAnyH_done bC ?_ _
     ((try replace J:=J.out);(try replace G:=G.out);have rH:=Aa.rl hHeld;go_wp2_with fail;go_roundw;(case rel=>exact⟨k+1,z.role,by omega,rfl,by go_num,lH (by rw [A0 HZ.o,NJ,if_pos HW.o]),lH (aq.o.trans hHeld)⟩);(case measure=>(first | exact Fu K3 K3 | (simp [intOf];omega))))
    ·have f6:(z.name.toList==q.who.toList)=false:=NX hw
     have HW:=lH hw;clear hw;have ci:=ah.o.lt;have cj:=aw.o.lt;try(rename ∀(a:Act) (w:World),_->_=>G;replace G:=AU.mk G)
     try(rename ∀(a:Act) (w:World),_->_=>J;replace J:=AU.mk J)
     iterate 4 (try(rename ∀(a:Act) (w:World),_->_=>U;replace U:=AU.mk U))
     refine wp_region_held_drew (S:=(Aa [] w8)) bC Td (fun hHeld=>?_);refine rK 0 ?_;refine rK 1 ?_;refine rK 2 ?_;refine rK 3 ?_;refine rK 4 ?_;refine rK 5 ?_;refine rK 6 ?_;refine rK 7 ?_;refine rK 8 ?_;refine wpAnyH_done bC ?_ _
     ((try replace J:=J.out);(try replace G:=G.out);go_wp2_with fail;go_roundw;(case rel=>exact⟨k+1,r0,by omega,rfl,by go_num,lH (by rw [A0 HZ.o,NJ,if_neg HW.o,HD.o]),lH (aq.o.trans hHeld)⟩);(case measure=>(first | exact Fu K3 K3 | (simp [intOf];omega))))
   have i5:¬(k:Int)<(v.on:Int):=bB;have dz:Hi (roleL c.ops q.who=r0):=lH (by have h:=HD.o;rw [Ak (by rw [ar.o.on];omega)] at h;exact h);clear HD aq hkn hlt;have HG:=lH (Blk.rng (cs:=(ctlA v)) ah.o 0 (ctlA v) (fun j x hx=>by rw [AW];simpa using hx));obtain⟨j0,cc,dh⟩:∃x1 x2,Ma c conn=(x1,x2):=⟨_,_,rfl⟩;have dq:=lH dh;have c6:=OI (pF v.oa v.on v.oc) (pF v.r.s.ga v.gn v.r.s.gc) (pF v.r.s.ua v.un v.r.s.uc) (pF v.r.s.fa v.fn v.r.s.fc) (pF v.r.la v.ln v.r.lc) (I_ v.seq) (pF v.pa v.pn v.pc) (I_ v.nx) (pF v.da v.dn v.dc) v.ja v.jn v.jc c.jobs ar.o.jn (by have:=ar.o.jl;omega) conn w8 ar.o.j;rw [show OV c.jobs conn=(j0,cc) from dh] at c6;clear dh;go_wp2_with (refine Ay bD 36 _ bD bc 0 bD (ctlA v) _ HG.o underlying36 rfl (AD _) ?_);clear HG;refine c6.mono ?_;rintro r w9 ⟨rfl,hk⟩;clear c6;have HK9:=lH (HK8.o.trans hk);have cp:=lH (ah.o.keeps hk bA);have dy:=lH (ar.o.keeps hk);have ct:=lH (aw.o.keeps hk bA);clear hk HK8 ah ar aw;go_upto_region 19 with(refine As bD 61 _ _ bD w9 (jobA j0) bD bD 61 #[pE pK 0,I_ 0,Dz ⟨#[]⟩,Dz ⟨#[]⟩,I_ 0,I_ 0,Dz ⟨#[]⟩,I_ 0,I_ 0,pI false,I_ 0,I_ 0,I_ 0,I_ 0,Dz ⟨#[]⟩,I_ 0,I_ 0,I_ 0,I_ 0,I_ 0,I_ 0,Dz ⟨#[]⟩,I_ 0,I_ 0] (Blk.new w9 _ _) rfl (D2 _) (Gp _) ?_;intro w10 hb hk)
   try simp only [By]
   have ep:Hi (w.heap.size<=w9.heap.size):=lH HK9.o.size;obtain⟨bi,ed⟩:=eX w9.heap.size;replace hk:Aa [] w9 w10:=((Aa.refl [] w9).alloc _).own hk QW;rw [ed] at hb ep ⊢;clear ed;have ab:=lH (HK9.o.trans hk);have T:=lH (cp.o.keeps hk bA);have ac:=lH (dy.o.keeps hk);have an:=lH (ct.o.keeps hk bA);clear hk HK9 cp dy ct;have bm:Hi (Blk w10 bi 61 (jobA j0)):=lH hb;clear hb;clear i5 cw;have q2:w10.cell? (A_ bq 2)=some (I_ q.com.verb):=an.o.cell 2;by_cases hbu:cc=false;rotate_left
   ·obtain rfl:cc=true:=by simpa using hbu
    go_wp2_with fail;go_ret;exact⟨rfl,ab.o⟩
   subst hbu;by_cases n1:conn<0
   ·have f1:decide (conn<0)=true:=decide_eq_true n1
    clear n1;go_wp2_with fail;go_ret;exact⟨rfl,ab.o⟩
   have f1:decide (conn<0)=false:=decide_eq_false n1;by_cases n2:conn>3
   ·have f2:decide (conn>3)=true:=decide_eq_true n2
    clear n2;go_wp2_with fail;go_ret;exact⟨rfl,ab.o⟩
   have f2:decide (conn>3)=false:=decide_eq_false n2;have el:Hi (0<=conn/\conn<=3):=lH ⟨by omega,by omega⟩;clear n1 n2;by_cases n3:r0=0
   ·have f3:(r0==0)=true:=by simpa using n3
    clear n3;go_wp2_with fail;go_ret;exact⟨rfl,ab.o⟩
   have f3:(r0==0)=false:=by simpa using n3
   by_cases n4:q.com.verb=9
   ·have f4:(q.com.verb==9)=true:=by simpa using n4
    clear n4;go_wp2_with fail;go_ret;exact⟨rfl,ab.o⟩
   have f4:(q.com.verb==9)=false:=by simpa using n4
   have HL:=lH (S1 (c:=c) (conn:=conn) (now:=now) (line:=t) ek.o (by rw [HPQ.o]) es.o (by rw [HPQ.o];exact em.o) (by rw [dq.o]) el.o (by rw [HPQ.o,dz.o];exact n3) (by rw [HPQ.o];exact n4));rw [HPQ.o,dz.o] at HL;dsimp only at HL;clear n3 n4;obtain⟨E,eb⟩:=(HE.o _ ab.o).r;obtain⟨D,hD⟩:=eX (applyR c.reg r0 q.com now);have hat : -9223372036854775808<=q.com.at_/\q.com.at_<=9223372036854775807:=by have h:=Sj t;rw [HPQ.o] at h;dsimp only at h;omega
   have cz:=Ng v.r c.reg v.gn v.un v.fn v.ln ac.o.g ac.o.u ac.o.f ac.o.l v.seq ac.o.q r0 q.com now hat w10 E eb ac.o.r;rw [hD] at cz HL;clear eb hat hD;have d0:w10.cell? (A_ bc 1)=some (pF v.r.s.ga v.gn v.r.s.gc):=T.o.cell 1;have d1:w10.cell? (A_ bc 2)=some (pF v.r.s.ua v.un v.r.s.uc):=T.o.cell 2;have d2:w10.cell? (A_ bc 3)=some (pF v.r.s.fa v.fn v.r.s.fc):=T.o.cell 3;have d3:w10.cell? (A_ bc 4)=some (pF v.r.la v.ln v.r.lc):=T.o.cell 4;have d4:w10.cell? (A_ bc 5)=some (I_ v.seq):=T.o.cell 5;have dr:=lH (Blk.rng (cs:=reqA q) an.o 2 (comA q.com) (eA q));go_wp2_with (refine Ay bD 57 _ bD bq 2 bD (comA q.com) _ dr.o underlying57 rfl (Tn _) ?_);clear dr d0 d1 d2 d3 d4 q2;refine cz.mono ?_;rintro r a5 ⟨va,bb,ua,fa,la,sa,rfl,hs,hg,hu,hf,hl,hR,_,hk⟩;have HSA:=lH (Bl hs (Bl hg (Bl hu (Bl hf hl))));have b7:=lH hR;clear hs hg hu hf hl hR cz;have b1:=lH (ab.o.trans hk);have bg:=lH (T.o.keeps hk bA);have cu:=lH (ac.o.keeps hk);have bv:=lH (an.o.keeps hk bA);have bo:=lH (bm.o.keeps hk bA);clear hk ab T ac an bm;go_upto_region 22 with(first | (refine As bD 29 _ _ bD a5 (R_ va bb ua fa la sa) bD bD 29 LU.k ((Blk.new a5 _ _).alloc _) rfl bC aG ?_;intro w4 hb4 hk4) | (refine As bD 83 _ _ bD (a5+1) #[pE pK D.2.err,I_ D.2.seq,I_ D.2.slot,I_ D.2.gen,I_ D.2.version,I_ D.2.state] bD bD 83 fS.k ((Ar _ _ _ _ bA).keeps hk4 bA) rfl bC aG ?_;intro w12 de hk5))
   try simp only [By]
   have hk:Aa [] a5 w12:=((((Aa.refl [] a5).alloc _).alloc _).own hk4 bF).own hk5 bF;have cd:Blk w12 a5 29 (R_ va bb ua fa la sa):=hb4.keeps hk5 bA;obtain⟨br,df⟩:=eX a5.heap.size;have fb:Hi (w.heap.size<=br):=lH (df▸b1.o.size);rw [df] at cd de ⊢;clear df hb4 hk4 hk5;have b2:=lH (b1.o.trans hk);have ax:=lH (bg.o.keeps hk bA);have b5:=lH (cu.o.keeps hk);have bw:=lH (bv.o.keeps hk bA);have bp:=lH (bo.o.keeps hk bA);have b8:=lH (b7.o.keeps hk);clear hk b1 bg cu bv bo b7;have bz:=lH cd;have bt:Hi (Blk w12 (br+1) 83 #[pE pK D.2.err,I_ D.2.seq,I_ D.2.slot,I_ D.2.gen,I_ D.2.version,I_ D.2.state]):=lH de;clear cd de;have HG:=lH (Blk.rng (cs:=(ctlA v)) ax.o 0 (ctlA v) (fun j x hx=>by rw [AW];simpa using hx));obtain⟨d,u,hd⟩:∃x1 x2,pY c conn t now=(x1,x2):=⟨_,_,rfl⟩;have eu:=lH hd;have cy:=FH v c conn t now aH w12 (HE.o _ b2.o) b5.o;rw [hd] at cy;clear hd;go_wp2_with (refine Ay bD 36 _ bD bc 0 bD (ctlA v) _ HG.o underlying36 rfl (AD _) ?_);clear HG;refine cy.mono ?_;rintro r be ⟨O,rfl,hm,_,hk⟩;have b6:=lH hm;clear hm cy;have b3:=lH (b2.o.trans hk);have bh:=lH (ax.o.keeps hk bA);have cv:=lH (b5.o.keeps hk);have bx:=lH (bw.o.keeps hk bA);have bs:=lH (bp.o.keeps hk bA);have b9:=lH (b8.o.keeps hk);have b0:=lH (bz.o.keeps hk bA);have bu:=lH (bt.o.keeps hk bA);clear hk b2 ax b5 bw bp b8 bz bt;go_upto_region 23 with(refine As bD 36 _ _ bD be (ctlA O) bD bD 36 Hh.k (Blk.new be _ _) rfl (AD _) (Bc _) ?_;intro w14 hb hk)
   try simp only [By]
   have eo:Hi (w.heap.size<=be.heap.size):=lH b3.o.size;obtain⟨bd,ec⟩:=eX be.heap.size;replace hk:Aa [] be w14:=((Aa.refl [] be).alloc _).own hk QW;rw [ec] at hb eo ⊢;clear ec;have ai:=lH (b3.o.trans hk);have ak:=lH (bh.o.keeps hk bA);have a9:=lH (cv.o.keeps hk);have ao:=lH (bx.o.keeps hk bA);have am:=lH (bs.o.keeps hk bA);have av:=lH (b9.o.keeps hk);have ap:=lH (b0.o.keeps hk bA);have ad:=lH (bu.o.keeps hk bA);have au:=lH (b6.o.keeps hk);clear hk b3 bh cv bx bs b9 b0 bu b6;have al:Hi (Blk w14 bd 36 (ctlA O)):=lH hb;clear hb;rw [eu.o] at HL;dsimp only at HL;have p0:w14.cell? ⟨br+1,0,none⟩=some (I_ D.2.err):=ad.o.cell 0;by_cases hde:D.2.err=0;rotate_left
   ·have f5:(D.2.err != 0)=true:=by simpa using hde
    obtain⟨l1,l2,hG,cg⟩:=HL.o.1 hde;have a3:=hG.split;have HSP:=Gr u (by have:=Up a3;omega) w14 (HE.o _ ai.o).s.et;unfold Ic at HSP;rw [a3] at HSP;dsimp only at HSP;have cf : [Eh.data.toList,l1,l2].length=3:=rfl;have dd:=lH cg;rw [cf] at HSP;clear hG a3 cf hde cg;go_wp2_with fail;refine HSP.mono ?_;rintro r F ⟨a1,c1,rfl,hst,hk⟩;clear HSP p0;have a7:=lH (ai.o.trans hk);have c0:=lH (ak.o.keeps hk bA);have du:=lH (a9.o.keeps hk);have c4:=lH (ao.o.keeps hk bA);have c3:=lH (am.o.keeps hk bA);have af:=lH (av.o.keeps hk);have N:=lH (ap.o.keeps hk bA);have ay:=lH (ad.o.keeps hk bA);have B:=lH (au.o.keeps hk);have M:=lH (al.o.keeps hk bA);clear hk ai ak a9 ao am av ap ad au al;obtain⟨ga,oa,z,ha,dg,hz,hat⟩:=hst.at_k (k:=0) bA;have z0:=hat 0 _ rfl;obtain rfl:Dk Eh.data.toList=z:=by simpa using hz
    obtain rfl:=ha;simp only [Nat.zero_mul,AT] at z0;obtain⟨y0,a4⟩:=eX (Dk Eh.data.toList);have f7:(y0.toList==[101,114,114,111,114])=true:=by rw [<- a4,C9];decide
    rw [a4] at z0;clear hat hz hst a4;have p0:F.cell? ⟨br+1,0,none⟩=some (I_ D.2.err):=ay.o.cell 0;have d5:F.cell? (A_ bd 1)=some (pF O.r.s.ga O.gn O.r.s.gc):=M.o.cell 1;have d6:F.cell? (A_ bd 2)=some (pF O.r.s.ua O.un O.r.s.uc):=M.o.cell 2;have d7:F.cell? (A_ bd 3)=some (pF O.r.s.fa O.fn O.r.s.fc):=M.o.cell 3;have d8:F.cell? (A_ bd 4)=some (pF O.r.la O.ln O.r.lc):=M.o.cell 4;have d9:F.cell? (A_ bd 5)=some (I_ O.seq):=M.o.cell 5;have e0:F.cell? (A_ br 0)=some (pF va.s.ga bb va.s.gc):=N.o.cell 0;have e2:F.cell? (A_ br 1)=some (pF va.s.ua ua va.s.uc):=N.o.cell 1;have e3:F.cell? (A_ br 2)=some (pF va.s.fa fa va.s.fc):=N.o.cell 2;have e4:F.cell? (A_ br 3)=some (pF va.la la va.lc):=N.o.cell 3;have e5:F.cell? (A_ br 4)=some (I_ sa):=N.o.cell 4;by_cases h150:D.2.err=150
    ·have f6:(D.2.err==150)=true:=by simpa using h150
     clear h150;go_wp2_with fail;go_ret;exact⟨rfl,a7.o⟩
    have f6:(D.2.err==150)=false:=by simpa using h150
    have c5:Hi (d.reg=D.1):=lH (dd.o.resolve_left h150);clear h150;have HG:=FC O.r va d.reg D.1 O.gn O.un O.fn O.ln bb ua fa la B.o.g B.o.u B.o.f B.o.lv HSA.o.2.1 HSA.o.2.2.1 HSA.o.2.2.2.1 (by rw [af.o.t.len];exact HSA.o.2.2.2.2) O.seq sa B.o.q HSA.o.1.symm true (decide_eq_true c5.o) F B.o.r af.o;go_wp2_with fail;refine HG.mono ?_;rintro r w' ⟨rfl,hk⟩;go_wp2_with fail;go_ret;exact⟨rfl,a7.o.trans hk⟩
   ·have f5:(D.2.err != 0)=false:=by simpa using hde
    obtain⟨l,ef,hG,cg⟩:=HL.o.2 hde;have a3:=hG.split;have HSP:=Gr u (by have:=Up a3;omega) w14 (HE.o _ ai.o).s.et;unfold Ic at HSP;rw [a3] at HSP;dsimp only at HSP;have cf:(okT.data.toList::l).length=7:=by rw [Av,ef]
    have dd:=lH cg;rw [cf] at HSP;clear hG a3 cf hde cg ef;go_wp2_with fail;refine HSP.mono ?_;rintro r F ⟨a1,c1,rfl,hst,hk⟩;clear HSP p0;have a7:=lH (ai.o.trans hk);have c0:=lH (ak.o.keeps hk bA);have du:=lH (a9.o.keeps hk);have c4:=lH (ao.o.keeps hk bA);have c3:=lH (am.o.keeps hk bA);have af:=lH (av.o.keeps hk);have N:=lH (ap.o.keeps hk bA);have ay:=lH (ad.o.keeps hk bA);have B:=lH (au.o.keeps hk);have M:=lH (al.o.keeps hk bA);clear hk ai ak a9 ao am av ap ad au al;obtain⟨ga,oa,z,ha,dg,hz,hat⟩:=hst.at_k (k:=0) bA;have z0:=hat 0 _ rfl;obtain rfl:Dk okT.data.toList=z:=by simpa using hz
    obtain rfl:=ha;simp only [Nat.zero_mul,AT] at z0;obtain⟨y0,a4⟩:=eX (Dk okT.data.toList);have f7:(y0.toList==[111,107])=true:=by rw [<- a4,C9];decide
    rw [a4] at z0;clear hat hz hst a4;have p0:F.cell? ⟨br+1,0,none⟩=some (I_ D.2.err):=ay.o.cell 0;have d5:F.cell? (A_ bd 1)=some (pF O.r.s.ga O.gn O.r.s.gc):=M.o.cell 1;have d6:F.cell? (A_ bd 2)=some (pF O.r.s.ua O.un O.r.s.uc):=M.o.cell 2;have d7:F.cell? (A_ bd 3)=some (pF O.r.s.fa O.fn O.r.s.fc):=M.o.cell 3;have d8:F.cell? (A_ bd 4)=some (pF O.r.la O.ln O.r.lc):=M.o.cell 4;have d9:F.cell? (A_ bd 5)=some (I_ O.seq):=M.o.cell 5;have e0:F.cell? (A_ br 0)=some (pF va.s.ga bb va.s.gc):=N.o.cell 0;have e2:F.cell? (A_ br 1)=some (pF va.s.ua ua va.s.uc):=N.o.cell 1;have e3:F.cell? (A_ br 2)=some (pF va.s.fa fa va.s.fc):=N.o.cell 2;have e4:F.cell? (A_ br 3)=some (pF va.la la va.lc):=N.o.cell 3;have e5:F.cell? (A_ br 4)=some (I_ sa):=N.o.cell 4;have c5:Hi (d.reg=D.1):=dd;have HG:=FC O.r va d.reg D.1 O.gn O.un O.fn O.ln bb ua fa la B.o.g B.o.u B.o.f B.o.lv HSA.o.2.1 HSA.o.2.2.1 HSA.o.2.2.2.1 (by rw [af.o.t.len];exact HSA.o.2.2.2.2) O.seq sa B.o.q HSA.o.1.symm true (decide_eq_true c5.o) F B.o.r af.o;go_wp2_with fail;refine HG.mono ?_;rintro r w' ⟨rfl,hk⟩;go_wp2_with fail;go_ret;exact⟨rfl,a7.o.trans hk⟩
end
section
open Go.RowKit
namespace controlReplies
open Go.ChangeShapes Go.WideShapes Go.ChangeAt
open Go.ChangeMaps (open_string)
theorem lifted(os:Os)(D:os.Started)(H:Type)(enc:TypeId×Value->H):
  ReturnsInHanded {} checked os 6 .any (fun w args=>(Rows.controlRepliesSpec.pre enc prog f6 [] false w args/\laidMetH prog En w)/\sizedMet enc prog f6 (OpenSpec.ofChange Rows.controlRepliesSpec) false w args)
   (Rows.controlRepliesSpec.post enc prog f6 false true false false):=by
 refine FO (C:=checked) (X:=fun w _=>laidMetH prog En w) (fun _ _ _ hh h=>h.of_heap hh) own D bC func6
  (ChangeSpec.witness_shaped (enc:=enc) (C:=checked) (os:=os) (X:=fun w _=>laidMetH prog En w) false (World.doorLaid prog 400 os) #[.agg Hh.k,I_ 0,I_ 0,Dz Bh] 8 rfl (FT os _) (Qi _) (KK H enc _) (Qm H enc _) (Jh os _)) ?_
 intro W F args ds gs G E hW hL O;have B:∀(j:Nat) t v,f6.params[j]? = some t->args[j]? = some v->Value.okWide prog W .any F t v:=E;have M:=hW;obtain⟨p,q,J,hV,rfl,ai,ak⟩:=hW;have hA:DataW.TrodAll enc prog W 0 (fun _=>true) true f6.params.toList args.toList ds p:=J;rw [params6] at hA B;obtain⟨T,aq,d0,ae,p0,q0,N,rfl,rfl,h0,r0⟩:=trodAll_cons hA;obtain⟨U,ar,d1,af,p1,q1,rfl,rfl,rfl,h1,r1⟩:=trodAll_cons r0;obtain⟨v2,au,d2,ag,p2,q2,rfl,rfl,rfl,h2,r2⟩:=trodAll_cons r1;obtain⟨Y,av,d3,ah,p3,q3,rfl,rfl,rfl,h3,r3⟩:=trodAll_cons r2;obtain⟨rfl,rfl,rfl⟩:=trodAll_nil r3;obtain rfl:args=#[T,U,v2,Y]:=by cases args;simp_all
 obtain⟨rfl,rfl⟩:=trodVars_none hV;obtain⟨u0,c0,rfl,w0⟩:=Jp (B 0 36 T rfl rfl) h0;obtain⟨a1,rfl,rfl,rfl,w1⟩:=open_int underlying3 (B 1 3 U rfl rfl) h1;obtain⟨a2,rfl,rfl,rfl,w2⟩:=open_int underlying3 (B 2 3 v2 rfl rfl) h2;obtain⟨a3,rfl,rfl,rfl,w3⟩:=open_string underlying9 (B 3 9 Y rfl rfl) h3;refine(J2 u0 c0 a1 a2 a3 W w0 (KI hL O)).mono fun e W' ⟨he,hk⟩=>?_;subst he;exact⟨_,rfl,Jn JQ kL rfl rfl underlying4 M (hk.below (Aw _) bA) ⟨rfl,rfl,rfl⟩⟩
theorem Q2:Rows.controlRepliesRow.holds Tryz.pinned (OpenSpec.ofChange Rows.controlRepliesSpec):=
 OpenClaim.holds_of_wide 6 f6 rfl rfl rfl rfl rfl rfl rfl ⟨rfl,rfl,rfl,rfl,rfl⟩ rfl rfl rfl rfl rfl It func6 Iu
  (of_decide_eq_true bC) (by unfold Func.isWrapper;first | (rw [if_pos kL];kernel_rfl) | (rw [if_neg kL];exact⟨rfl,rfl⟩))
  (fun os started H enc _=>lifted os started H enc)
theorem proved:Rows.ControlRepliesCardSaid:=
 Claim7.holds_tied_plain_at .later [] [.data,.data,.data,.handle,.sentinel,.sentinel,.sentinel,.sentinel,.sentinel,.sentinel,.sentinel,.sentinel,.data,.sentinel,.sentinel,.sentinel] true (true, "9d4973d1f79925bda66def5f531134a83d5180b9df96d65c859a6aae5ae06539") true
  Q2 (fun _ h=>by cases h) bC (fun _ h=>by cases h) controlReplies_row_tie rfl ⟨rfl,rfl⟩ R6 rfl
  (fun f fn hf hfn=>by
   obtain rfl:f=6:=Option.some.inj (It.symm.trans hf) |>.symm;obtain rfl:fn=f6:=(Option.some.inj (func6.symm.trans hfn)).symm;exact⟨R3,fun j t ht=>by
    rw [params6] at ht;have hm:t∈[36,3,3,9]:=by simpa using Array.mem_of_getElem? ht
    have hall:([36,3,3,9].all fun u=>!prog.wantsStandIn u)=true:=bC;exact(show prog.wantsStandIn t=false by simpa using Bm.1 hall t hm)⟩)
  Qd
end controlReplies
end
end Go.Proofs.YtjieiikpolahfaaGreatDoor
