/- ControlRoles: who is no operator, or may not what they ask, changes no tenant: for every control, connection, tick and line. No condition beyond the card's. -/
import Derived.Test.YtjieiikpolahfaaGreatDoorKau
import Derived.Test.YtjieiikpolahfaaGreatDoorKax
import Derived.Test.YtjieiikpolahfaaGreatDoorKbf
import Derived.Test.YtjieiikpolahfaaGreatDoorKbk
import Derived.Test.YtjieiikpolahfaaGreatDoorKbp
set_option maxRecDepth 100000
set_option maxHeartbeats 8000000
set_option linter.all false
namespace Go.Proofs.YtjieiikpolahfaaGreatDoor
open Go.Proofs.Tryz
open Act renaming put→By
open _root_.ByteArray renaming empty→Bh
open Ending renaming returned→pJ
open IntKind renaming i64→pK
open _root_.List renaming all_eq_true→Bm
open _root_.Nat renaming le_refl→Aw,zero_add→AW
open Oper renaming semAt_some→pN
open Value renaming agg→pH,bool→pI,int→pE,slice→pF,string→Dz
section
open Go.RowKit Go.Shelf
attribute [local go_sem] pN Lr Ls Lp Lq
attribute [local go_sem ↓] wp_at_zero wp_at_succ
theorem Ko(v0:CV)(k0:BN)(conn now:Int)(s:ByteArray)(w:World)(hA:GY w v0 k0)(hE:Gu w):
  Calls prog 5 #[pH (ctlA v0),I_ conn,I_ now,Dz s] w fun r w'=>r = pJ (pI true)/\Aa [] w w':=by
 rw [show ctlA v0=(C_ v0) from rfl];obtain⟨c,hc⟩:=eX (MU k0);have HC:=lH hc;obtain⟨t,ht⟩:=eX (F0 s);have HT:=lH ht;have HTS:Hi (t.size<=310):=lH kN;clear ht;have HA:=lH hA;have HE:Hi (∀W,Aa [] w W->Gu W):=lH fun W hk=>hE.keeps hk;obtain⟨w0,hw0⟩:=eX (w.alloc (.cells (C_ v0) 36));have HK0:Hi (Aa [] w w0):=lH aX;have hb:Blk w0 w 36 (ctlA v0):=by rw [<- hw0];exact Blk.new w _ _
 obtain⟨bc,hbc⟩:=eX w.heap.size;have HLc:Hi (w.heap.size<=bc):=lH (Nat.le_of_eq hbc);rw [hbc] at hb;have aj:Hi (Blk w0 bc 36 (ctlA v0)):=lH hb;clear hA hE hb hc;go_enter func5,ntmps5;go_wp2_with fail;try rw [hbc]
 clear hw0 hbc;refine(GD w0 (HE.o _ HK0.o)).mono ?_;rintro r w1 ⟨rfl,hk⟩;have HK1:=lH (HK0.o.trans hk);have Y:=lH (aj.o.keeps hk bA);clear hk HK0 aj;have HG:=lH (Blk.rng (cs:=(ctlA v0)) Y.o 0 (ctlA v0) (fun j x hx=>by rw [AW];simpa using hx));go_wp2_with (refine Ay bD 36 _ bD bc 0 bD (ctlA v0) _ HG.o underlying36 rfl (AD _) ?_);clear HG;refine(Hm v0 k0 w HA.o w1 HK1.o).mono ?_;rw [HC.o];rintro r w2 ⟨v,rfl,hm,hn,hk⟩;have HN:Hi ((DU (fun y=>w.heap.size<=y/\y<w1.heap.size) v c)/\DW (fun y=>w.heap.size<=y/\y<w1.heap.size) v.ja v.jn):=lH hn;have HLT:Hi (bc<w1.heap.size):=lH Y.o.lt;have bl:=lH hm;clear hn hm;have HK2:=lH (HK1.o.trans hk);have ac:=lH (Y.o.keeps hk bA);clear hk HK1 Y;go_upto_region 3 with(refine As bD 36 _ _ bD bc (ctlA v) bD bD 36 (ctlA v0) ac.o rfl (AD _) (Bc _) ?_;intro w3 hb hk)
 try simp only [By]
 have bm:=lH (bl.o.stay HN.o.1 HN.o.2 hk gI (H9.blk ac.o bE bE));have a5:=lH (HK2.o.own hk gJ);have ak:=lH hb;clear hb hk HK2 ac bl HA HN HLT;go_wp2_with fail;refine(EU s _).mono ?_;rintro r w' ⟨rfl,rfl⟩;rw [HT.o];obtain⟨q,er,hq⟩:∃q er,parseR t=(q,er):=⟨_,_,rfl⟩;have HPQ:=lH hq;obtain⟨E,hC⟩:=(HE.o _ a5.o).c;have HP:=Gw E t aH w3 hC;rw [hq] at HP;clear hC hq;go_wp2_with fail;refine(HP).mono ?_;rintro r w4 ⟨rfl,hk⟩;clear HP;have HK4:=lH (a5.o.trans hk);have al:=lH (ak.o.keeps hk bA);have HM4:=lH (bm.o.keeps hk);clear hk a5 ak bm;go_upto_region 5 with(refine As bD 59 _ _ bD w4 (reqA q) bD bD 59 aQ.k (Blk.new w4 _ _) rfl (Cr _) (Dg _) ?_;intro w5 hb hk)
 try simp only [By]
 have bx:Hi (w.heap.size<=w4.heap.size):=lH HK4.o.size;obtain⟨bq,bu⟩:=eX w4.heap.size;replace hk:Aa [] w4 w5:=((Aa.refl [] w4).alloc _).own hk QW;rw [bu] at hb bx ⊢;clear bu;have HK5:=lH (HK4.o.trans hk);have ad:=lH (al.o.keeps hk bA);have a7:=lH (HM4.o.keeps hk);clear hk HK4 al HM4;have am:Hi (Blk w5 bq 59 (reqA q)):=lH hb;clear hb;have HG:=lH (Blk.rng (cs:=(ctlA v)) ad.o 0 (ctlA v) (fun j x hx=>by rw [AW];simpa using hx));obtain⟨d,u,hd⟩:∃x1 x2,askC c conn t now=(x1,x2):=⟨_,_,rfl⟩;have bz:=lH hd;have a4:=FH v c conn t now aH w5 (HE.o _ HK5.o) a7.o;rw [hd] at a4;clear hd;go_wp2_with (refine Ay bD 36 _ bD bc 0 bD (ctlA v) _ HG.o underlying36 rfl (AD _) ?_);clear HG;refine a4.mono ?_;rintro r w6 ⟨B,rfl,hm,_,hk⟩;have ag:=lH hm;clear hm a4;have a6:=lH (HK5.o.trans hk);have ae:=lH (ad.o.keeps hk bA);have a9:=lH (a7.o.keeps hk);have an:=lH (am.o.keeps hk bA);clear hk HK5 ad a7 am;have br:=a9;have ap:=ag;have bs:Hi (Aa [] w6 w6):=lH (Aa.refl [] w6);have bj:Hi (bc<w6.heap.size):=lH ae.o.lt;go_upto_region 6 with(refine As bD 36 _ _ bD w6 (ctlA B) bD bD 36 Hh.k (Blk.new w6 _ _) rfl (AD _) (Bc _) ?_;intro w7 hb hk)
 try simp only [By]
 have HLd:Hi (w.heap.size<=w6.heap.size):=lH a6.o.size;obtain⟨bd,be⟩:=eX w6.heap.size;have HLz:Hi (w6.heap.size<=bd):=lH (Nat.le_of_eq be);replace hk:Aa [] w6 w7:=((Aa.refl [] w6).alloc _).own hk QW;rw [be] at hb HLd ⊢;clear be;have HK7:=lH (a6.o.trans hk);have G:=lH (ae.o.keeps hk bA);have N:=lH (a9.o.keeps hk);have aa:=lH (an.o.keeps hk bA);have M:=lH (ag.o.keeps hk);have HZ7:=lH (bs.o.trans hk);clear hk a6 ae a9 an ag bs;have T:Hi (Blk w7 bd 36 (ctlA B)):=lH hb;clear hb;have HL:=lH (WP (c:=c) (conn:=conn) (now:=now) (line:=t));rw [bz.o,HPQ.o] at HL;dsimp only at HL;have b6:w7.cell? (A_ bc 0)=some (pF v.oa v.on v.oc):=G.o.cell 0;have aq:w7.cell? (A_ bc 1)=some (pF v.r.s.ga v.gn v.r.s.gc):=G.o.cell 1;have ar:w7.cell? (A_ bc 2)=some (pF v.r.s.ua v.un v.r.s.uc):=G.o.cell 2;have au:w7.cell? (A_ bc 3)=some (pF v.r.s.fa v.fn v.r.s.fc):=G.o.cell 3;have av:w7.cell? (A_ bc 4)=some (pF v.r.la v.ln v.r.lc):=G.o.cell 4;have aw:w7.cell? (A_ bc 5)=some (I_ v.seq):=G.o.cell 5;have ax:w7.cell? (A_ bd 1)=some (pF B.r.s.ga B.gn B.r.s.gc):=T.o.cell 1;have ay:w7.cell? (A_ bd 2)=some (pF B.r.s.ua B.un B.r.s.uc):=T.o.cell 2;have az:w7.cell? (A_ bd 3)=some (pF B.r.s.fa B.fn B.r.s.fc):=T.o.cell 3;have a0:w7.cell? (A_ bd 4)=some (pF B.r.la B.ln B.r.lc):=T.o.cell 4;have a3:w7.cell? (A_ bd 5)=some (I_ B.seq):=T.o.cell 5;have q0:w7.cell? (A_ bq 0)=some (Dz q.who):=aa.o.cell 0;have q2:w7.cell? (A_ bq 2)=some (I_ q.com.verb):=aa.o.cell 2;by_cases hu:u=⟨#[]⟩
 ·subst hu
  go_wp2_with fail;go_ret;exact⟨rfl,HK7.o⟩
 ·have f1:u.toList.isEmpty=false:=Nw hu
  by_cases he:er=0;rotate_left
  ·have f2:(er != 0)=true:=by simpa using he
   have hd:d=c:=(HL.o hu (fun h=>he h.1)).2.2 he;have hs:decide (c.reg=d.reg)=true:=decide_eq_true (by rw [hd]);have HG:=FC v.r B.r c.reg d.reg v.gn v.un v.fn v.ln B.gn B.un B.fn B.ln N.o.g N.o.u N.o.f N.o.lv M.o.g M.o.u M.o.f M.o.lv v.seq B.seq N.o.q M.o.q true hs w7 N.o.r M.o.r;clear he hu hd hs;go_wp2_with fail;refine HG.mono ?_;rintro r w' ⟨rfl,hk⟩;go_wp2_with fail;go_ret;exact⟨rfl,HK7.o.trans hk⟩
  subst he;obtain⟨ro,ee,hr⟩:∃ro ee,BM c.ops q.who=(ro,ee):=⟨_,_,rfl⟩;have HF:=Pj v.oa v.oc c.ops v.on N.o.on (by have:=N.o.ol;omega) N.o.os q.who ro ee hr w7 N.o.o;have HR:Hi (¬(ee=0/\LJ ro q.com.verb=true)->c.reg = { d.reg with seq:=c.reg.seq }):=lH fun h=>by
   obtain⟨a1,a2,_⟩:=HL.o hu (fun h'=>h (by rw [hr] at h';exact h'.2));rw [show c.reg=⟨c.reg.slots,c.reg.l,c.reg.seq⟩ from rfl,<- a1,<- a2]
  clear hr hu;go_wp2_with fail;refine(HF).mono ?_;rintro r w8 ⟨rfl,hk⟩;clear HF;have HK8:=lH (HK7.o.trans hk);have O:=lH (G.o.keeps hk bA);have bo:=lH (N.o.keeps hk);have af:=lH (aa.o.keeps hk bA);have ao:=lH (M.o.keeps hk);have bb:=lH (HZ7.o.trans hk);have J:=lH (T.o.keeps hk bA);clear hk HK7 G N aa M HZ7 T;by_cases hee:ee=0;rotate_left
  ·have f3:(ee==0)=false:=by simpa using hee
   have ba:=lH (HR.o (fun h=>hee h.1));clear hee;have aq:w8.cell? (A_ bc 1)=some (pF v.r.s.ga v.gn v.r.s.gc):=O.o.cell 1;have ar:w8.cell? (A_ bc 2)=some (pF v.r.s.ua v.un v.r.s.uc):=O.o.cell 2;have au:w8.cell? (A_ bc 3)=some (pF v.r.s.fa v.fn v.r.s.fc):=O.o.cell 3;have av:w8.cell? (A_ bc 4)=some (pF v.r.la v.ln v.r.lc):=O.o.cell 4;have aw:w8.cell? (A_ bc 5)=some (I_ v.seq):=O.o.cell 5;have ax:w8.cell? (A_ bd 1)=some (pF B.r.s.ga B.gn B.r.s.gc):=J.o.cell 1;have ay:w8.cell? (A_ bd 2)=some (pF B.r.s.ua B.un B.r.s.uc):=J.o.cell 2;have az:w8.cell? (A_ bd 3)=some (pF B.r.s.fa B.fn B.r.s.fc):=J.o.cell 3;have a0:w8.cell? (A_ bd 4)=some (pF B.r.la B.ln B.r.lc):=J.o.cell 4;have a3:w8.cell? (A_ bd 5)=some (I_ B.seq):=J.o.cell 5;have f5:w8.frozen? (A_ bd 5)=false:=J.o.frozen 5;have ne1:¬bc=bd:=by have:=bj.o;have:=HLz.o;omega
   have ne2:¬bd=bc:=fun e=>ne1 e.symm;go_wp2_with fail;have hk6:Aa [bd] w8 (w8.setCell (A_ bd 5) (I_ v.seq)):=Ae _ _ _ _;have ah:=bb.o.own hk6 nX;have hkw:=HK8.o.own hk6 nY;have F:=br.o.keeps ah;have D:=ap.o.keeps ah;have bf:=ba.o;refine(FC v.r B.r c.reg { d.reg with seq:=c.reg.seq } v.gn v.un v.fn v.ln B.gn B.un B.fn B.ln F.g F.u F.f F.lv D.g D.u D.f D.lv v.seq v.seq F.q F.q true (decide_eq_true bf) _ F.r ⟨D.r.s,D.r.l,D.r.t,D.r.sl,D.r.small⟩).mono ?_;rintro r w' ⟨rfl,hk⟩;go_wp2_with fail;go_ret;exact⟨rfl,hkw.trans hk⟩
  ·subst hee
   obtain⟨b,hb⟩:=eX (LJ ro q.com.verb);obtain⟨E,bt⟩:=(HE.o _ HK8.o).r;have b5:w8.cell? (A_ bq 2)=some (I_ q.com.verb):=af.o.cell 2;have bp:=U1 ro q.com.verb b hb w8 bt.v;have HBB:=lH hb;clear bt hb;go_wp2_with fail;refine(bp).mono ?_;rintro r w9 ⟨rfl,hk⟩;clear bp;have HK9:=lH (HK8.o.trans hk);have X:=lH (O.o.keeps hk bA);have b9:=lH (bo.o.keeps hk);have b2:=lH (af.o.keeps hk bA);have b4:=lH (ao.o.keeps hk);have b0:=lH (bb.o.trans hk);have U:=lH (J.o.keeps hk bA);clear hk HK8 O bo af ao bb J;cases b with
   | true=>
    go_wp2_with fail;go_ret;exact⟨rfl,HK9.o⟩
   | false=>
    have ba:=lH (HR.o (fun h=>by rw [HBB.o] at h;cases h.2));have aq:w9.cell? (A_ bc 1)=some (pF v.r.s.ga v.gn v.r.s.gc):=X.o.cell 1;have ar:w9.cell? (A_ bc 2)=some (pF v.r.s.ua v.un v.r.s.uc):=X.o.cell 2;have au:w9.cell? (A_ bc 3)=some (pF v.r.s.fa v.fn v.r.s.fc):=X.o.cell 3;have av:w9.cell? (A_ bc 4)=some (pF v.r.la v.ln v.r.lc):=X.o.cell 4;have aw:w9.cell? (A_ bc 5)=some (I_ v.seq):=X.o.cell 5;have ax:w9.cell? (A_ bd 1)=some (pF B.r.s.ga B.gn B.r.s.gc):=U.o.cell 1;have ay:w9.cell? (A_ bd 2)=some (pF B.r.s.ua B.un B.r.s.uc):=U.o.cell 2;have az:w9.cell? (A_ bd 3)=some (pF B.r.s.fa B.fn B.r.s.fc):=U.o.cell 3;have a0:w9.cell? (A_ bd 4)=some (pF B.r.la B.ln B.r.lc):=U.o.cell 4;have a3:w9.cell? (A_ bd 5)=some (I_ B.seq):=U.o.cell 5;have f5:w9.frozen? (A_ bd 5)=false:=U.o.frozen 5;have ne1:¬bc=bd:=by have:=bj.o;have:=HLz.o;omega
    have ne2:¬bd=bc:=fun e=>ne1 e.symm;go_wp2_with fail;have hk6:Aa [bd] w9 (w9.setCell (A_ bd 5) (I_ v.seq)):=Ae _ _ _ _;have ah:=b0.o.own hk6 nX;have hkw:=HK9.o.own hk6 nY;have F:=br.o.keeps ah;have D:=ap.o.keeps ah;have bf:=ba.o;refine(FC v.r B.r c.reg { d.reg with seq:=c.reg.seq } v.gn v.un v.fn v.ln B.gn B.un B.fn B.ln F.g F.u F.f F.lv D.g D.u D.f D.lv v.seq v.seq F.q F.q true (decide_eq_true bf) _ F.r ⟨D.r.s,D.r.l,D.r.t,D.r.sl,D.r.small⟩).mono ?_;rintro r w' ⟨rfl,hk⟩;go_wp2_with fail;go_ret;exact⟨rfl,hkw.trans hk⟩
end
section
open Go.RowKit
namespace controlRoles
open Go.ChangeShapes Go.WideShapes Go.ChangeAt
open Go.ChangeMaps (open_string)
theorem lifted(os:Os)(D:os.Started)(H:Type)(enc:TypeId×Value->H):
  ReturnsInHanded {} checked os 5 .any (fun w args=>(Rows.controlRolesSpec.pre enc prog f5 [] false w args/\laidMetH prog En w)/\sizedMet enc prog f5 (OpenSpec.ofChange Rows.controlRolesSpec) false w args)
   (Rows.controlRolesSpec.post enc prog f5 false true false false):=by
 refine FO (C:=checked) (X:=fun w _=>laidMetH prog En w) (fun _ _ _ hh h=>h.of_heap hh) own D bC func5
  (ChangeSpec.witness_shaped (enc:=enc) (C:=checked) (os:=os) (X:=fun w _=>laidMetH prog En w) false (World.doorLaid prog 400 os) #[.agg Hh.k,I_ 0,I_ 0,Dz Bh] 8 rfl (FT os _) (Qi _) (KK H enc _) (Qm H enc _) (Jh os _)) ?_
 intro W F args ds gs G E hW hL O;have B:∀(j:Nat) t v,f5.params[j]? = some t->args[j]? = some v->Value.okWide prog W .any F t v:=E;have M:=hW;obtain⟨p,q,J,hV,rfl,ai,ak⟩:=hW;have hA:DataW.TrodAll enc prog W 0 (fun _=>true) true f5.params.toList args.toList ds p:=J;rw [params5] at hA B;obtain⟨T,aq,d0,ae,p0,q0,N,rfl,rfl,h0,r0⟩:=trodAll_cons hA;obtain⟨U,ar,d1,af,p1,q1,rfl,rfl,rfl,h1,r1⟩:=trodAll_cons r0;obtain⟨v2,au,d2,ag,p2,q2,rfl,rfl,rfl,h2,r2⟩:=trodAll_cons r1;obtain⟨Y,av,d3,ah,p3,q3,rfl,rfl,rfl,h3,r3⟩:=trodAll_cons r2;obtain⟨rfl,rfl,rfl⟩:=trodAll_nil r3;obtain rfl:args=#[T,U,v2,Y]:=by cases args;simp_all
 obtain⟨rfl,rfl⟩:=trodVars_none hV;obtain⟨u0,c0,rfl,w0⟩:=Jp (B 0 36 T rfl rfl) h0;obtain⟨a1,rfl,rfl,rfl,w1⟩:=open_int underlying3 (B 1 3 U rfl rfl) h1;obtain⟨a2,rfl,rfl,rfl,w2⟩:=open_int underlying3 (B 2 3 v2 rfl rfl) h2;obtain⟨a3,rfl,rfl,rfl,w3⟩:=open_string underlying9 (B 3 9 Y rfl rfl) h3;refine(Ko u0 c0 a1 a2 a3 W w0 (KI hL O)).mono fun e W' ⟨he,hk⟩=>?_;subst he;exact⟨_,rfl,Jn JQ kL rfl rfl underlying4 M (hk.below (Aw _) bA) ⟨rfl,rfl,rfl⟩⟩
theorem Q2:Rows.controlRolesRow.holds Tryz.pinned (OpenSpec.ofChange Rows.controlRolesSpec):=
 OpenClaim.holds_of_wide 5 f5 rfl rfl rfl rfl rfl rfl rfl ⟨rfl,rfl,rfl,rfl,rfl⟩ rfl rfl rfl rfl rfl It func5 Iu
  (of_decide_eq_true bC) kM
  (fun os started H enc _=>lifted os started H enc)
theorem proved:Rows.ControlRolesCardSaid:=
 Claim7.holds_tied_plain_at .later [] [.data,.data,.data,.handle,.sentinel,.sentinel,.sentinel,.sentinel,.sentinel,.sentinel,.sentinel,.sentinel,.data,.sentinel,.sentinel,.sentinel] true (true, "9d4973d1f79925bda66def5f531134a83d5180b9df96d65c859a6aae5ae06539") true
  Q2 (fun _ h=>by cases h) bC (fun _ h=>by cases h) controlRoles_row_tie rfl ⟨rfl,rfl⟩ R6 rfl
  (fun f fn hf hfn=>by
   obtain rfl:f=5:=Option.some.inj (It.symm.trans hf) |>.symm;obtain rfl:fn=f5:=(Option.some.inj (func5.symm.trans hfn)).symm;exact⟨R3,fun j t ht=>by
    rw [params5] at ht;have hm:t∈[36,3,3,9]:=by simpa using Array.mem_of_getElem? ht
    have hall:([36,3,3,9].all fun u=>!prog.wantsStandIn u)=true:=bC;exact(show prog.wantsStandIn t=false by simpa using Bm.1 hall t hm)⟩)
  Qd
end controlRoles
end
end Go.Proofs.YtjieiikpolahfaaGreatDoor
