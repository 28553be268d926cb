/- ControlAgain: a number that was answered is answered alike, and changes nothing: for every control, two connections, tick and line. No condition beyond the card's. -/
import Derived.Test.YtjieiikpolahfaaGreatDoorKax
import Derived.Test.YtjieiikpolahfaaGreatDoorKbe
import Derived.Test.YtjieiikpolahfaaGreatDoorKbk
import Derived.Test.YtjieiikpolahfaaGreatDoorKbl
import Derived.Test.YtjieiikpolahfaaGreatDoorKbq
import Derived.BigRegion
set_option maxRecDepth 100000
set_option maxHeartbeats 8000000
set_option linter.all false
namespace Go.Proofs.YtjieiikpolahfaaGreatDoor
open Go.Proofs.Tryz
open Act renaming put→By
open _root_.ByteArray renaming empty→Bh
open Ending renaming returned→pJ
open IntKind renaming i64→pK
open _root_.List renaming all_eq_true→Bm
open _root_.Nat renaming add_zero→AT,le_refl→Aw,zero_add→AW
open Oper renaming semAt_some→pN
open Value renaming agg→pH,bool→pI,int→pE,slice→pF,string→Dz
section
open Go.RowKit Go.Shelf
theorem iO{a b:ByteArray}(h:a≠b):(a.toList != b.toList)=true:=by simpa using fun e=>h (Vj e)
end
section
open Go.RowKit Go.Shelf
attribute [local go_sem] pN Lr Ls Lp Lq
attribute [local go_sem ↓] wp_at_zero wp_at_succ
theorem Km(X:CV)(k0:BN)(conn other now:Int)(s:ByteArray)(w:World)(hA:GY w X k0)(hE:Gu w):
  Calls prog 4 #[pH (ctlA X),I_ conn,I_ other,I_ now,Dz s] w fun r w'=>r = pJ (pI true)/\Aa [] w w':=by
 rw [show ctlA X=(C_ X) from rfl];obtain⟨c,hc⟩:=eX (MU k0);have HC:=lH hc;obtain⟨t,ht⟩:=eX (F0 s);have HT:=lH ht;have HTS:Hi (t.size<=310):=lH kN;clear ht;have HA:=lH hA;have HE:Hi (∀W,Aa [] w W->Gu W):=lH fun W hk=>hE.keeps hk;obtain⟨w0,hw0⟩:=eX (w.alloc (.cells (C_ X) 36));have HK0:Hi (Aa [] w w0):=lH aX;have hb:Blk w0 w 36 (ctlA X):=by rw [<- hw0];exact Blk.new w _ _
 obtain⟨bc,hbc⟩:=eX w.heap.size;have HLc:Hi (w.heap.size<=bc):=lH (Nat.le_of_eq hbc);rw [hbc] at hb;have ai:Hi (Blk w0 bc 36 (ctlA X)):=lH hb;clear hA hE hb hc;go_enter func4,ntmps4;go_wp2_with fail;try rw [hbc]
 clear hw0 hbc;refine(GD w0 (HE.o _ HK0.o)).mono ?_;rintro r w1 ⟨rfl,hk⟩;have HK1:=lH (HK0.o.trans hk);have T:=lH (ai.o.keeps hk bA);clear hk HK0 ai;have HG:=lH (Blk.rng (cs:=(ctlA X)) T.o 0 (ctlA X) (fun j x hx=>by rw [AW];simpa using hx));go_wp2_with (refine Ay bD 36 _ bD bc 0 bD (ctlA X) _ HG.o underlying36 rfl (AD _) ?_);clear HG;refine(Hm X k0 w HA.o w1 HK1.o).mono ?_;rw [HC.o];rintro r w2 ⟨v,rfl,hm,hn,hk⟩;have HN:Hi ((DU (fun y=>w.heap.size<=y/\y<w1.heap.size) v c)/\DW (fun y=>w.heap.size<=y/\y<w1.heap.size) v.ja v.jn):=lH hn;have HLT:Hi (bc<w1.heap.size):=lH T.o.lt;have bm:=lH hm;clear hn hm;have HK2:=lH (HK1.o.trans hk);have aa:=lH (T.o.keeps hk bA);clear hk HK1 T;go_upto_region 3 with(refine As bD 36 _ _ bD bc (ctlA v) bD bD 36 (ctlA X) aa.o rfl (AD _) (Bc _) ?_;intro w3 hb hk)
 try simp only [By]
 have bg:=lH (bm.o.stay HN.o.1 HN.o.2 hk gI (H9.blk aa.o bE bE));have bb:=lH (HK2.o.own hk gJ);have ab:=lH hb;clear hb hk HK2 aa bm HA HN HLT;go_wp2_with fail;refine(EU s _).mono ?_;rintro r w' ⟨rfl,rfl⟩;rw [HT.o];have HG:=lH (Blk.rng (cs:=(ctlA v)) ab.o 0 (ctlA v) (fun j x hx=>by rw [AW];simpa using hx));obtain⟨d,u,hd⟩:∃x1 x2,askC c conn t now=(x1,x2):=⟨_,_,rfl⟩;have b6:=lH hd;have O:=FH v c conn t now aH w3 (HE.o _ bb.o) bg.o;rw [hd] at O;clear hd;go_wp2_with (refine Ay bD 36 _ bD bc 0 bD (ctlA v) _ HG.o underlying36 rfl (AD _) ?_);clear HG;refine O.mono ?_;rintro r w4 ⟨B,rfl,hm,_,hk⟩;have az:=lH hm;clear hm O;have HK4:=lH (bb.o.trans hk);have aj:=lH (ab.o.keeps hk bA);have HM4:=lH (bg.o.keeps hk);clear hk bb ab bg;go_upto_region 5 with(refine As bD 36 _ _ bD w4 (ctlA B) bD bD 36 Hh.k (Blk.new w4 _ _) rfl (AD _) (Bc _) ?_;intro w5 hb hk)
 try simp only [By]
 have HLd:Hi (w.heap.size<=w4.heap.size):=lH HK4.o.size;obtain⟨bd,bu⟩:=eX w4.heap.size;replace hk:Aa [] w4 w5:=((Aa.refl [] w4).alloc _).own hk QW;rw [bu] at hb HLd ⊢;clear bu;have HK5:=lH (HK4.o.trans hk);have ak:=lH (aj.o.keeps hk bA);have bo:=lH (HM4.o.keeps hk);have af:=lH (az.o.keeps hk);clear hk HK4 aj HM4 az;have ac:Hi (Blk w5 bd 36 (ctlA B)):=lH hb;clear hb;have HG:=lH (Blk.rng (cs:=(ctlA B)) ac.o 0 (ctlA B) (fun j x hx=>by rw [AW];simpa using hx));obtain⟨e,y,he⟩:∃x1 x2,askC d other t now=(x1,x2):=⟨_,_,rfl⟩;have b7:=lH he;have O:=FH B d other t now aH w5 (HE.o _ HK5.o) af.o;rw [he] at O;clear he;go_wp2_with (refine Ay bD 36 _ bD bd 0 bD (ctlA B) _ HG.o underlying36 rfl (AD _) ?_);clear HG;refine O.mono ?_;rintro r w6 ⟨M,rfl,hm,_,hk⟩;have a4:=lH hm;clear hm O;have bf:=lH (HK5.o.trans hk);have al:=lH (ak.o.keeps hk bA);have bp:=lH (bo.o.keeps hk);have a0:=lH (af.o.keeps hk);have ap:=lH (ac.o.keeps hk bA);clear hk HK5 ak bo af ac;go_upto_region 6 with(refine As bD 36 _ _ bD w6 (ctlA M) bD bD 36 Hh.k (Blk.new w6 _ _) rfl (AD _) (Bc _) ?_;intro w7 hb hk)
 try simp only [By]
 have b2:Hi (w.heap.size<=w6.heap.size):=lH bf.o.size;obtain⟨be,bv⟩:=eX w6.heap.size;replace hk:Aa [] w6 w7:=((Aa.refl [] w6).alloc _).own hk QW;rw [bv] at hb b2 ⊢;clear bv;have HK7:=lH (bf.o.trans hk);have am:=lH (al.o.keeps hk bA);have br:=lH (bp.o.keeps hk);have a1:=lH (a0.o.keeps hk);have aq:=lH (ap.o.keeps hk bA);have a5:=lH (a4.o.keeps hk);clear hk bf al bp a0 ap a4;have au:Hi (Blk w7 be 36 (ctlA M)):=lH hb;clear hb;obtain⟨q,er,hq⟩:∃q er,parseR t=(q,er):=⟨_,_,rfl⟩;have HPQ:=lH hq;obtain⟨E,hC⟩:=(HE.o _ HK7.o).c;have HP:=Gw E t aH w7 hC;rw [hq] at HP;clear hC hq;go_wp2_with fail;refine(HP).mono ?_;rintro r w8 ⟨rfl,hk⟩;clear HP;have HK8:=lH (HK7.o.trans hk);have an:=lH (am.o.keeps hk bA);have bs:=lH (br.o.keeps hk);have a3:=lH (a1.o.keeps hk);have ar:=lH (aq.o.keeps hk bA);have a6:=lH (a5.o.keeps hk);have av:=lH (au.o.keeps hk bA);clear hk HK7 am br a1 aq a5 au;go_upto_region 7 with(refine As bD 59 _ _ bD w8 (reqA q) bD bD 59 aQ.k (Blk.new w8 _ _) rfl (Cr _) (Dg _) ?_;intro w9 hb hk)
 try simp only [By]
 have b3:Hi (w.heap.size<=w8.heap.size):=lH HK8.o.size;obtain⟨bq,bw⟩:=eX w8.heap.size;replace hk:Aa [] w8 w9:=((Aa.refl [] w8).alloc _).own hk QW;rw [bw] at hb b3 ⊢;clear bw;have HK9:=lH (HK8.o.trans hk);have ao:=lH (an.o.keeps hk bA);have bt:=lH (bs.o.keeps hk);have N:=lH (a3.o.keeps hk);have ad:=lH (ar.o.keeps hk bA);have a7:=lH (a6.o.keeps hk);have aw:=lH (av.o.keeps hk bA);clear hk HK8 an bs a3 ar a6 av;have U:Hi (Blk w9 bq 59 (reqA q)):=lH hb;clear hb;have HL:=lH (Vw (c:=c) (conn:=conn) (other:=other) (now:=now) (line:=t));rw [b6.o] at HL;dsimp only at HL;rw [b7.o,HPQ.o] at HL;dsimp only at HL;by_cases hu:u=⟨#[]⟩
 ·subst hu
  go_region;go_wp2_with fail;go_ret;exact⟨rfl,(HK9.o).drew⟩
 have f1:u.toList.isEmpty=false:=Nw hu;by_cases hy:y=⟨#[]⟩
 ·subst hy
  go_region;go_wp2_with fail;go_ret;exact⟨rfl,(HK9.o).drew⟩
 have f2:y.toList.isEmpty=false:=Nw hy;by_cases he:er=0;rotate_left
 ·have f3:(er != 0)=true:=by simpa using he
  clear he;go_region;go_wp2_with fail;go_ret;exact⟨rfl,(HK9.o).drew⟩
 have HY:=lH (HL.o hu hy he);subst he;clear hu hy;have ag:w9.cell? (A_ bd 9)=some (pF B.da B.dn B.dc):=ad.o.cell 9;by_cases h0:B.dn=0
 ·have f4:((B.dn:Int)==0)=true:=by simpa using h0
  clear h0;go_region;go_wp2_with fail;go_ret;exact⟨rfl,(HK9.o).drew⟩
 have f4:((B.dn:Int)==0)=false:=by simpa using h0
 obtain⟨k,hk1⟩:∃k,B.dn=k+1:=⟨B.dn - 1,by omega⟩;have ca:(B.dn:Int)<=900:=by have:=N.o.dl;omega
 have bx:k<d.done.length:=by rw [N.o.dn,hk1];omega
 obtain⟨ga,oa,z,ha,c0,hz,hat⟩:=N.o.d.at_k (k:=k) bx;have z0:=hat 0 _ rfl;have z1:=hat 1 _ rfl;rw [AT] at z0;rw [ha] at ag;have i1:(B.dn:Int) - 1=(k:Int):=bB;have i2:wrap64 ((B.dn:Int) - 1)=(k:Int):=by rw [i1];exact IntWalk.wrap64_in _ ⟨by omega,by omega⟩
 have i3:IntKind.i64.wrap ((B.dn:Int) - 1)=(k:Int):=by rw [i1];exact IntWalk.i64_in _ ⟨by omega,by omega⟩
 have i4:(0:Int)<=(k:Int):=bB;have i5:(k:Int)<(B.dn:Int):=bB;have q0:w9.cell? (A_ bq 0)=some (Dz q.who):=U.o.cell 0;have q1:w9.cell? (A_ bq 1)=some (I_ q.id):=U.o.cell 1;clear h0 hk1 ca i1 bx hat ha hz;by_cases hi:z.id=q.id;rotate_left
 ·have f5:(z.id != q.id)=true:=by simpa using hi
  clear hi;go_region;go_wp2_with fail;go_ret;exact⟨rfl,(HK9.o).drew⟩
 have f5:(z.id != q.id)=false:=by simpa using hi
 clear hi;by_cases hw:z.who=q.who;rotate_left
 ·have f6:(z.who.toList==q.who.toList)=false:=NX hw
  have f9:(z.who.toList != q.who.toList)=true:=iO hw;clear hw;go_region;go_wp2_with fail;go_ret;exact⟨rfl,(HK9.o).drew⟩
 have f6:(z.who.toList==q.who.toList)=true:=by rw [hw];simp
 have f9:(z.who.toList != q.who.toList)=false:=by rw [hw];simp
 clear hw;go_region;have hk:Aa [] w9 w9.drew:=(Aa.refl [] _).drew;generalize w9.drew=w10 at hk ⊢;have ax:=lH (HK9.o.trans hk);have Y:=lH (ao.o.keeps hk bA);have ay:=lH (bt.o.keeps hk);have D:=lH (N.o.keeps hk);have G:=lH (ad.o.keeps hk bA);have F:=lH (a7.o.keeps hk);have J:=lH (aw.o.keeps hk bA);have ae:=lH (U.o.keeps hk bA);clear hk HK9 ao bt N ad a7 aw U;obtain⟨h1,h2⟩:=HY.o;have f7:(u.toList==y.toList)=true:=by rw [h1];simp
 have f8:((B.dn:Int)==(M.dn:Int))=true:=by rw [<- D.o.dn,<- F.o.dn,h2];simp
 have hs:decide (d.reg=e.reg)=true:=decide_eq_true (by rw [h2]);have cf:w10.cell? (A_ bd 1)=some (pF B.r.s.ga B.gn B.r.s.gc):=G.o.cell 1;have cg:w10.cell? (A_ bd 2)=some (pF B.r.s.ua B.un B.r.s.uc):=G.o.cell 2;have ch:w10.cell? (A_ bd 3)=some (pF B.r.s.fa B.fn B.r.s.fc):=G.o.cell 3;have ci:w10.cell? (A_ bd 4)=some (pF B.r.la B.ln B.r.lc):=G.o.cell 4;have cj:w10.cell? (A_ bd 5)=some (I_ B.seq):=G.o.cell 5;have ck:w10.cell? (A_ be 1)=some (pF M.r.s.ga M.gn M.r.s.gc):=J.o.cell 1;have cl:w10.cell? (A_ be 2)=some (pF M.r.s.ua M.un M.r.s.uc):=J.o.cell 2;have cm:w10.cell? (A_ be 3)=some (pF M.r.s.fa M.fn M.r.s.fc):=J.o.cell 3;have cn:w10.cell? (A_ be 4)=some (pF M.r.la M.ln M.r.lc):=J.o.cell 4;have co:w10.cell? (A_ be 5)=some (I_ M.seq):=J.o.cell 5;have HG:=FC B.r M.r d.reg e.reg B.gn B.un B.fn B.ln M.gn M.un M.fn M.ln D.o.g D.o.u D.o.f D.o.lv F.o.g F.o.u F.o.f F.o.lv B.seq M.seq D.o.q F.o.q true hs w10 D.o.r F.o.r;clear h1 h2 hs ag z0 z1 q0 q1;go_wp2_with fail;refine(HG).mono ?_;rintro r bz ⟨rfl,hk⟩;clear HG;have bj:=lH (ax.o.trans hk);have b0:=lH (Y.o.keeps hk bA);have cd:=lH (ay.o.keeps hk);have b4:=lH (D.o.keeps hk);have a9:=lH (G.o.keeps hk bA);have b5:=lH (F.o.keeps hk);have ba:=lH (J.o.keeps hk bA);have b1:=lH (ae.o.keeps hk bA);clear hk ax Y ay D G F J ae;have ag:bz.cell? (A_ bd 9)=some (pF B.da B.dn B.dc):=a9.o.cell 9;have cp:bz.cell? (A_ be 9)=some (pF M.da M.dn M.dc):=ba.o.cell 9;go_wp2_with fail;go_ret;exact⟨rfl,bj.o⟩
end
section
open Go.RowKit
namespace controlAgain
open Go.ChangeShapes Go.WideShapes Go.ChangeAt
open Go.ChangeMaps (open_string)
theorem lifted(os:Os)(D:os.Started)(H:Type)(enc:TypeId×Value->H):
  ReturnsInHanded {} checked os 4 .any (fun w args=>(Rows.controlAgainSpec.pre enc prog f4 [] false w args/\laidMetH prog En w)/\sizedMet enc prog f4 (OpenSpec.ofChange Rows.controlAgainSpec) false w args)
   (Rows.controlAgainSpec.post enc prog f4 false true false false):=by
 refine FO (C:=checked) (X:=fun w _=>laidMetH prog En w) (fun _ _ _ hh h=>h.of_heap hh) own D bC func4
  (ChangeSpec.witness_shaped (enc:=enc) (C:=checked) (os:=os) (X:=fun w _=>laidMetH prog En w) false (World.doorLaid prog 400 os) #[.agg Hh.k,I_ 0,I_ 0,I_ 0,Dz Bh] 8 rfl (FT os _) (Qi _) (KK H enc _) (Qm H enc _) (Jh os _)) ?_
 intro W F args ds gs G E hW hL O;have B:∀(j:Nat) t v,f4.params[j]? = some t->args[j]? = some v->Value.okWide prog W .any F t v:=E;have M:=hW;obtain⟨p,q,J,hV,rfl,al,an⟩:=hW;have hA:DataW.TrodAll enc prog W 0 (fun _=>true) true f4.params.toList args.toList ds p:=J;rw [params4] at hA B;obtain⟨T,aw,d0,ag,p0,q0,N,rfl,rfl,h0,r0⟩:=trodAll_cons hA;obtain⟨U,ax,d1,ah,p1,q1,rfl,rfl,rfl,h1,r1⟩:=trodAll_cons r0;obtain⟨v2,ay,d2,ai,p2,q2,rfl,rfl,rfl,h2,r2⟩:=trodAll_cons r1;obtain⟨Y,az,d3,aj,p3,q3,rfl,rfl,rfl,h3,r3⟩:=trodAll_cons r2;obtain⟨v4,a0,d4,ak,p4,q4,rfl,rfl,rfl,h4,r4⟩:=trodAll_cons r3;obtain⟨rfl,rfl,rfl⟩:=trodAll_nil r4;obtain rfl:args=#[T,U,v2,Y,v4]:=by cases args;simp_all
 obtain⟨rfl,rfl⟩:=trodVars_none hV;obtain⟨u0,c0,rfl,w0⟩:=Jp (B 0 36 T rfl rfl) h0;obtain⟨a1,rfl,rfl,rfl,w1⟩:=open_int underlying3 (B 1 3 U rfl rfl) h1;obtain⟨a2,rfl,rfl,rfl,w2⟩:=open_int underlying3 (B 2 3 v2 rfl rfl) h2;obtain⟨a3,rfl,rfl,rfl,w3⟩:=open_int underlying3 (B 3 3 Y rfl rfl) h3;obtain⟨a4,rfl,rfl,rfl,w4⟩:=open_string underlying9 (B 4 9 v4 rfl rfl) h4;refine(Km u0 c0 a1 a2 a3 a4 W w0 (KI hL O)).mono fun e W' ⟨he,hk⟩=>?_;subst he;exact⟨_,rfl,Jn JQ kL rfl rfl underlying4 M (hk.below (Aw _) bA) ⟨rfl,rfl,rfl⟩⟩
theorem Q2:Rows.controlAgainRow.holds Tryz.pinned (OpenSpec.ofChange Rows.controlAgainSpec):=
 OpenClaim.holds_of_wide 4 f4 rfl rfl rfl rfl rfl rfl rfl ⟨rfl,rfl,rfl,rfl,rfl⟩ rfl rfl rfl rfl rfl It func4 Iu
  (of_decide_eq_true bC) kM
  (fun os started H enc _=>lifted os started H enc)
theorem proved:Rows.ControlAgainCardSaid:=
 Claim7.holds_tied_plain_at .later [] [.data,.data,.data,.handle,.sentinel,.sentinel,.sentinel,.sentinel,.sentinel,.sentinel,.sentinel,.sentinel,.data,.sentinel,.sentinel,.sentinel] true (true, "9d4973d1f79925bda66def5f531134a83d5180b9df96d65c859a6aae5ae06539") true
  Q2 (fun _ h=>by cases h) bC (fun _ h=>by cases h) controlAgain_row_tie rfl ⟨rfl,rfl⟩ R6 rfl
  (fun f fn hf hfn=>by
   obtain rfl:f=4:=Option.some.inj (It.symm.trans hf) |>.symm;obtain rfl:fn=f4:=(Option.some.inj (func4.symm.trans hfn)).symm;exact⟨R3,fun j t ht=>by
    rw [params4] at ht;have hm:t∈[36,3,3,3,9]:=by simpa using Array.mem_of_getElem? ht
    have hall:([36,3,3,3,9].all fun u=>!prog.wantsStandIn u)=true:=bC;exact(show prog.wantsStandIn t=false by simpa using Bm.1 hall t hm)⟩)
  Qd
end controlAgain
end
end Go.Proofs.YtjieiikpolahfaaGreatDoor
