/- ControlCalls: a job that begins is there, and no other one is touched; a second one of its connection is refused. -/
import Derived.Test.YtncebikgoleolaaGreatDoorKaz
import Derived.Test.YtncebikgoleolaaGreatDoorKba
import Derived.Test.YtncebikgoleolaaGreatDoorKbc
import Derived.Test.YtncebikgoleolaaGreatDoorKbi
import Derived.BigGuard
set_option maxRecDepth 100000
set_option maxHeartbeats 8000000
set_option linter.all false
namespace Go.Proofs.YtncebikgoleolaaGreatDoor
open Go.Proofs.Tryz
open Act renaming put→By
open _root_.ByteArray renaming empty→Bh
open Ending renaming returned→pJ
open IntKind renaming i64→pK
open _root_.List renaming all_eq_true→Bm
open _root_.Nat renaming le_of_eq→qJ,le_refl→Aw,zero_add→AW
open Oper renaming semAt_some→pN
open Program renaming fieldsOf→CK
open Region renaming wanted→CQ
open Value renaming agg→pH,bool→pI,int→pE,pointer→pG,slice→pF,string→Dz
section
open Go.RowKit Go.Shelf
attribute [local go_sem] pN Lr Ls Lp Lq
attribute [local go_sem ↓] wp_at_zero wp_at_succ
theorem LP{P:Program}{ops:Array Oper}{rest:List Oper}{op:Oper}{a:Act}{w:World}{Q:Exit->Act->World->Prop}(hw:CQ op (yielded ops a.tmps)=true)(ty:TypeId)(x:Operand)(ho:op.op = .load ty x)
 (b o:Nat)(hx:a.eval x = p_ b o)(cs:Array Value)(d:TypeDesc)(hc:w.rangeAt b o cs.toList)
 (hu:P.underlying ty=some d)(hd:d.isRow=true)(hi:(P.info? ty).map (·.size)=some cs.toList.length)
 (h:wpList P ops Q rest (a.put op.dst (.agg cs)) w):wpList P ops Q (op::rest) a w:=
 wpList_step fun K hK=>by
  rw [if_pos hw];unfold Oper.wp;rw [EO (P:=P) ty x ho b o hx cs d hc hu hd hi];exact hK _ _ h
theorem sY{P:Program}{ops:Array Oper}{rest:List Oper}{op:Oper}{a:Act}{w:World}{Q:Exit->Act->World->Prop}(hw:CQ op (yielded ops a.tmps)=true)(ty:TypeId)(x y:Operand)(ho:op.op = .binOp .eql ty x y ty)(u v:Array Value)(r:Value)
 (hx:a.eval x = .agg u)(hy:a.eval y = .agg v)(hm:P.eqGuardType P.depth ty=false)(hr:(binOp .eql ty (.agg u) (.agg v)).run P w = .ok r w)(h:wpList P ops Q rest (a.put op.dst r) w):wpList P ops Q (op::rest) a w:=
 wpList_step fun K hK=>by
  rw [if_pos hw];unfold Oper.wp execOp;simp only [ho,hx,hy,run_eqGuard_agg (hm:=hm),Sem.run_bind,Sem.run_pure,Result.andThen_ok,hr];exact hK _ _ h
end
section
open Go.RowKit Go.Shelf
theorem cU(q:Bq)(w:World):(Op.equalIn 10000 67 (pH (jobA q)) (pH (jobA q))).run prog w = .ok true w:=by
 have B:prog.underlying 67=some (.struct (prog.fieldsOf 67)):=bC;have hp0:prog.stoodInHeld 67=false:=bC;have D:prog.underlying 63=some (.struct (prog.fieldsOf 63)):=bC;have hp1:prog.stoodInHeld 63=false:=bC;have E:prog.underlying 61=some (.struct (prog.fieldsOf 61)):=bC;have hp2:prog.stoodInHeld 61=false:=bC;have F:prog.underlying 59=some (.struct (prog.fieldsOf 59)):=bC;have hp3:prog.stoodInHeld 59=false:=bC;have G:prog.underlying 55=some (.struct (prog.fieldsOf 55)):=bC;have J:prog.stoodInHeld 55=false:=bC;have hS5:prog.underlying 57=some (.struct (prog.fieldsOf 57)):=bC;have M:prog.stoodInHeld 57=false:=bC;unfold jobA;rw [show(10000:Nat)=9999+1 from rfl,run_equalIn_agg w 9999 67 _ _ B hp0];simp only [CK,underlying67,underlying63,underlying61,underlying59,underlying55,underlying57];simp only [CK,underlying67,underlying63,underlying61,underlying59,underlying55,underlying57] at B D E F G hS5;simp [go_sem,CK,underlying67,underlying63,underlying61,underlying59,underlying55,underlying57,hp1,hp2,hp3,J,M]
theorem tY(q:Bq)(w:World):(binOp .eql 67 (pH (jobA q)) (pH (jobA q))).run prog w = .ok (pI true) w:=by rw [run_eql_struct,cU];rfl
theorem I7{P:Program}{ops:Array Oper}{rest:List Oper}{op:Oper}{a:Act}{w:World}{Q:Exit->Act->World->Prop}(ty:TypeId)(x:Operand)(ho:op.op = .load ty x)(hw:CQ op (yielded ops a.tmps)=true)
 (b o:Nat)(hx:a.eval x = p_ b o)(cs:Array Value)(d:TypeDesc)(hc:w.rangeAt b o cs.toList)
 (hu:P.underlying ty=some d)(hd:d.isRow=true)(hi:(P.info? ty).map (·.size)=some cs.toList.length)
 (h:wpList P ops Q rest (a.put op.dst (.agg cs)) w):wpList P ops Q (op::rest) a w:=LP hw ty x ho b o hx cs d hc hu hd hi h
theorem qW{ops:Array Oper}{rest:List Oper}{op:Oper}{a:Act}{w:World}{Q:Exit->Act->World->Prop}(j:Bq)(x y:Operand)(ho:op.op = .binOp .eql 67 x y 67)(hw:CQ op (yielded ops a.tmps)=true)
 (hx:a.eval x = pH (jobA j))(hy:a.eval y = pH (jobA j))(h:wpList prog ops Q rest (a.put op.dst (pI true)) w):wpList prog ops Q (op::rest) a w:=
 sY hw 67 x y ho (jobA j) (jobA j) (pI true) hx hy bC (tY j w) h
theorem qY{P:Program}{ops:Array Oper}{rest:List Oper}{op:Oper}{a:Act}{w:World}{Q:Exit->Act->World->Prop}(v:Value){ty:TypeId}{fs:Array (Nat×Operand)}(ho:op.op = .build ty fs)(hw:CQ op (yielded ops a.tmps)=true)
 (hr:(execOp a.eval op).run P w = .ok (.value v) w)(h:wpList P ops Q rest (a.put op.dst v) w):wpList P ops Q (op::rest) a w:=
 wpList_step fun K hK=>by
  rw [if_pos hw];unfold Oper.wp;rw [hr];exact hK _ _ h
end
section
open Go.RowKit Go.Shelf
attribute [local go_sem] pN Lr Ls Lp Lq
attribute [local go_sem ↓] wp_at_zero wp_at_succ
theorem rD(v0:CV)(k0:BN)(conn other:Int)(s:ByteArray)(w:World)(hA:GY w v0 k0)(hE:Gu w):
  Calls prog 4 #[pH (ctlA v0),I_ conn,I_ other,Dz s] w fun r w'=>r = pJ (pI true)/\Aa [] w w':=by
 rw [show ctlA v0=(C_ v0) from rfl];obtain⟨c,hc⟩:=eX (MU k0);have HC:=lH hc;obtain⟨t,ht⟩:=eX (F0 s);have HT:=lH ht;have ci:Hi (t.size<=310):=lH (by rw [<- ht];exact OQ s);clear ht;have HA:=lH hA;have HE:Hi (∀W,Aa [] w W->Gu W):=lH fun W hk=>hE.keeps hk;obtain⟨w0,hw0⟩:=eX (w.alloc (.cells (C_ v0) 36));have HK0:Hi (Aa [] w w0):=lH (by rw [<- hw0];exact(Aa.refl [] w).alloc _);have hb:Blk w0 w 36 (ctlA v0):=by rw [<- hw0];exact Blk.new w _ _
 obtain⟨bc,hbc⟩:=eX w.heap.size;have HLc:Hi (w.heap.size<=bc):=lH (qJ hbc);rw [hbc] at hb;have HBc0:Hi (Blk w0 bc 36 (ctlA v0)):=lH hb;clear hA hE hb hc;go_enter func4,ntmps4;go_wp2_with fail;try rw [hbc]
 clear hw0 hbc;refine(GD w0 (HE.o _ HK0.o)).mono ?_;rintro r w1 ⟨rfl,hk⟩;have HK1:=lH (HK0.o.trans hk);have HBc1:=lH (HBc0.o.keeps hk bA);clear hk HK0 HBc0;have HG:=lH (Blk.rng (cs:=(ctlA v0)) HBc1.o 0 (ctlA v0) (fun j x hx=>by rw [AW];simpa using hx));go_wp2_with (refine Ay bD 36 _ bD bc 0 bD (ctlA v0) _ HG.o underlying36 rfl (AD _) ?_);clear HG;refine(Hm v0 k0 w HA.o w1 HK1.o).mono ?_;rw [HC.o];rintro r w2 ⟨v,rfl,hm,hn,hk⟩;have HN:Hi ((DU (fun y=>w.heap.size<=y/\y<w1.heap.size) v c)/\DW (fun y=>w.heap.size<=y/\y<w1.heap.size) v.ja v.jn):=lH hn;have HLT:Hi (bc<w1.heap.size):=lH HBc1.o.lt;have HM2:=lH hm;clear hn hm;have HK2:=lH (HK1.o.trans hk);have HBc2:=lH (HBc1.o.keeps hk bA);clear hk HK1 HBc1;go_upto_region 3 with(refine As bD 36 _ _ bD bc (ctlA v) bD bD 36 (ctlA v0) HBc2.o rfl (AD _) (Bc _) ?_;intro w3 hb hk)
 try simp only [By]
 have HM3:=lH (HM2.o.stay HN.o.1 HN.o.2 hk gI (H9.blk HBc2.o bE bE));have HK3:=lH (HK2.o.own hk gJ);have HBc3:=lH hb;clear hb hk HK2 HBc2 HM2 HA HN HLT;go_wp2_with fail;refine(EU s _).mono ?_;rintro r w' ⟨rfl,rfl⟩;rw [HT.o];have HG:=lH (Blk.rng (cs:=(ctlA v)) HBc3.o 0 (ctlA v) (fun j x hx=>by rw [AW];simpa using hx));obtain⟨j0,a4,b6⟩:∃x1 x2,Ma c conn=(x1,x2):=⟨_,_,rfl⟩;have bf:=lH b6;have B:=OI (pF v.oa v.on v.oc) (pF v.r.s.ga v.gn v.r.s.gc) (pF v.r.s.ua v.un v.r.s.uc) (pF v.r.s.fa v.fn v.r.s.fc) (pF v.r.la v.ln v.r.lc) (I_ v.seq) (pF v.pa v.pn v.pc) (I_ v.nx) (pF v.da v.dn v.dc) v.ja v.jn v.jc c.jobs HM3.o.jn (by have:=HM3.o.jl;omega) conn w3 HM3.o.j;rw [show OV c.jobs conn=(j0,a4) from b6] at B;clear b6;go_wp2_with (refine Ay bD 36 _ bD bc 0 bD (ctlA v) _ HG.o underlying36 rfl (AD _) ?_);clear HG;refine B.mono ?_;rintro r w4 ⟨rfl,hk⟩;clear B;have HK4:=lH (HK3.o.trans hk);have HBc4:=lH (HBc3.o.keeps hk bA);have HM4:=lH (HM3.o.keeps hk);clear hk HK3 HBc3 HM3;go_upto_region 5 with(refine As bD 67 _ _ bD w4 (jobA j0) bD bD 67 #[pE pK 0,I_ 0,Dz ⟨#[]⟩,Dz ⟨#[]⟩,I_ 0,I_ 0,Dz ⟨#[]⟩,I_ 0,I_ 0,pI false,I_ 0,I_ 0,I_ 0,I_ 0,Dz ⟨#[]⟩,I_ 0,I_ 0,I_ 0,I_ 0,I_ 0,I_ 0,Dz ⟨#[]⟩,I_ 0,I_ 0] (Blk.new w4 _ _) rfl (D2 _) (Gp _) ?_;intro w5 hb hk)
 try simp only [By]
 have cv:Hi (w.heap.size<=w4.heap.size):=lH HK4.o.size;obtain⟨bi,cj⟩:=eX w4.heap.size;replace hk:Aa [] w4 w5:=((Aa.refl [] w4).alloc _).own hk QW;rw [cj] at hb cv ⊢;clear cj;have HK5:=lH (HK4.o.trans hk);have HBc5:=lH (HBc4.o.keeps hk bA);have HM5:=lH (HM4.o.keeps hk);clear hk HK4 HBc4 HM4;have a9:Hi (Blk w5 bi 67 (jobA j0)):=lH hb;clear hb;have HG:=lH (Blk.rng (cs:=(ctlA v)) HBc5.o 0 (ctlA v) (fun j x hx=>by rw [AW];simpa using hx));obtain⟨d,e1,hd⟩:∃x1 x2,Fj c conn t=(x1,x2):=⟨_,_,rfl⟩;have a5:=lH hd;have HAK:=OH v c conn t (by have:=ci.o;omega) w5 (HE.o _ HK5.o).s.et HM5.o;rw [hd] at HAK;clear hd;go_wp2_with (refine Ay bD 36 _ bD bc 0 bD (ctlA v) _ HG.o underlying36 rfl (AD _) ?_);clear HG;refine HAK.mono ?_;rintro r w6 ⟨vd,rfl,hm,_,hk⟩;have br:=lH hm;clear hm HAK;have HK6:=lH (HK5.o.trans hk);have a6:=lH (HBc5.o.keeps hk bA);have HM6:=lH (HM5.o.keeps hk);have ba:=lH (a9.o.keeps hk bA);clear hk HK5 HBc5 HM5 a9;go_upto_region 6 with(refine As bD 36 _ _ bD w6 (ctlA vd) bD bD 36 Hh.k (Blk.new w6 _ _) rfl (AD _) (Bc _) ?_;intro w7 hb hk)
 try simp only [By]
 have HLd:Hi (w.heap.size<=w6.heap.size):=lH HK6.o.size;obtain⟨bd,hbd⟩:=eX w6.heap.size;replace hk:Aa [] w6 w7:=((Aa.refl [] w6).alloc _).own hk QW;rw [hbd] at hb HLd ⊢;clear hbd;have HK7:=lH (HK6.o.trans hk);have HBc7:=lH (a6.o.keeps hk bA);have ay:=lH (HM6.o.keeps hk);have M:=lH (ba.o.keeps hk bA);have D:=lH (br.o.keeps hk);clear hk HK6 a6 HM6 ba br;have E:Hi (Blk w7 bd 36 (ctlA vd)):=lH hb;clear hb;by_cases he:e1=0;rotate_left
 ·have f1:(e1 != 0)=true:=by simpa using he
  have HB:=lH (tG (c:=c) (conn:=conn) (line:=t) (by rw [a5.o];exact he));rw [a5.o,bf.o] at HB;dsimp only at HB;have f2:((vd.jn:Int)==0)=true:=by rw [<- D.o.jn,HB.o.1];rfl
  have dd:w7.cell? (A_ bd 8)=some (pF vd.ja vd.jn vd.jc):=E.o.cell 8;obtain⟨b,hb⟩:=eX (JY c);have HCB:=lH hb;have HR:=Ij v c b hb w7 ay.o;clear he hb;have cf:=lH (Blk.rng (cs:=(ctlA v)) HBc7.o 0 (ctlA v) (fun j x hx=>by rw [AW];simpa using hx));go_wp2_with (refine I7 36 _ bD bD bc 0 bD (ctlA v) _ cf.o underlying36 rfl (AD _) ?_);refine HR.mono ?_;rintro r w8 ⟨rfl,hk⟩;clear HR cf;have HK8:=lH (HK7.o.trans hk);have HBc8:=lH (HBc7.o.keeps hk bA);have b4:=lH (ay.o.keeps hk);have ah:=lH (M.o.keeps hk bA);have a2:=lH (D.o.keeps hk);have Y:=lH (E.o.keeps hk bA);clear hk HK7 HBc7 ay M D E;cases b with
  | false=>
   go_wp2_with fail;go_ret;exact⟨rfl,HK8.o⟩
  | true=>
   cases a4 with
   | true=>
    go_wp2_with fail;go_ret;exact⟨rfl,HK8.o⟩
   | false=>
    by_cases h1:conn<0
    ·have f3:decide (conn<0)=true:=decide_eq_true h1
     go_wp2_with fail;go_ret;exact⟨rfl,HK8.o⟩
    ·have f3:decide (conn<0)=false:=decide_eq_false h1
     have h2:3<conn:=by
      rcases HB.o.2 with h | h | h | h
      ·rw [HCB.o] at h;cases h
      ·cases h
      ·exact absurd h h1
      ·exact h
     have f4:decide (conn>3)=true:=decide_eq_true h2;go_wp2_with fail;go_ret;exact⟨rfl,HK8.o⟩
 subst he;have bz:=lH (sR (c:=c) (conn:=conn) (other:=other) (line:=t) (by rw [a5.o]));rw [a5.o,bf.o] at bz;dsimp only at bz;have HG:=lH (Blk.rng (cs:=(ctlA vd)) E.o 0 (ctlA vd) (fun j x hx=>by rw [AW];simpa using hx));obtain⟨j1,b1,b7⟩:∃x1 x2,Ma d conn=(x1,x2):=⟨_,_,rfl⟩;have ca:=lH b7;have B:=OI (pF vd.oa vd.on vd.oc) (pF vd.r.s.ga vd.gn vd.r.s.gc) (pF vd.r.s.ua vd.un vd.r.s.uc) (pF vd.r.s.fa vd.fn vd.r.s.fc) (pF vd.r.la vd.ln vd.r.lc) (I_ vd.seq) (pF vd.pa vd.pn vd.pc) (I_ vd.nx) (pF vd.da vd.dn vd.dc) vd.ja vd.jn vd.jc d.jobs D.o.jn (by have:=D.o.jl;omega) conn w7 D.o.j;rw [show OV d.jobs conn=(j1,b1) from b7] at B;clear b7;go_wp2_with (refine Ay bD 36 _ bD bd 0 bD (ctlA vd) _ HG.o underlying36 rfl (AD _) ?_);clear HG;refine B.mono ?_;rintro r w8 ⟨rfl,hk⟩;clear B;have HK8:=lH (HK7.o.trans hk);have HBc8:=lH (HBc7.o.keeps hk bA);have b4:=lH (ay.o.keeps hk);have ah:=lH (M.o.keeps hk bA);have a2:=lH (D.o.keeps hk);have Y:=lH (E.o.keeps hk bA);clear hk HK7 HBc7 ay M D E;go_upto_region 9 with(refine As bD 67 _ _ bD w8 (jobA j1) bD bD 67 #[pE pK 0,I_ 0,Dz ⟨#[]⟩,Dz ⟨#[]⟩,I_ 0,I_ 0,Dz ⟨#[]⟩,I_ 0,I_ 0,pI false,I_ 0,I_ 0,I_ 0,I_ 0,Dz ⟨#[]⟩,I_ 0,I_ 0,I_ 0,I_ 0,I_ 0,I_ 0,Dz ⟨#[]⟩,I_ 0,I_ 0] (Blk.new w8 _ _) rfl (D2 _) (Gp _) ?_;intro w9 hb hk)
 try simp only [By]
 have cw:Hi (w.heap.size<=w8.heap.size):=lH HK8.o.size;obtain⟨bk,hbk⟩:=eX w8.heap.size;replace hk:Aa [] w8 w9:=((Aa.refl [] w8).alloc _).own hk QW;rw [hbk] at hb cw ⊢;clear hbk;have HK9:=lH (HK8.o.trans hk);have HBc9:=lH (HBc8.o.keeps hk bA);have az:=lH (b4.o.keeps hk);have bb:=lH (ah.o.keeps hk bA);have bs:=lH (a2.o.keeps hk);have a7:=lH (Y.o.keeps hk bA);clear hk HK8 HBc8 b4 ah a2 Y;have be:Hi (Blk w9 bk 67 (jobA j1)):=lH hb;clear hb;have HG:=lH (Blk.rng (cs:=(ctlA v)) HBc9.o 0 (ctlA v) (fun j x hx=>by rw [AW];simpa using hx));obtain⟨j2,b2,b8⟩:∃x1 x2,Ma c other=(x1,x2):=⟨_,_,rfl⟩;have cc:=lH b8;have B:=OI (pF v.oa v.on v.oc) (pF v.r.s.ga v.gn v.r.s.gc) (pF v.r.s.ua v.un v.r.s.uc) (pF v.r.s.fa v.fn v.r.s.fc) (pF v.r.la v.ln v.r.lc) (I_ v.seq) (pF v.pa v.pn v.pc) (I_ v.nx) (pF v.da v.dn v.dc) v.ja v.jn v.jc c.jobs az.o.jn (by have:=az.o.jl;omega) other w9 az.o.j;rw [show OV c.jobs other=(j2,b2) from b8] at B;clear b8;go_wp2_with (refine Ay bD 36 _ bD bc 0 bD (ctlA v) _ HG.o underlying36 rfl (AD _) ?_);clear HG;refine B.mono ?_;rintro r w10 ⟨rfl,hk⟩;clear B;have HK10:=lH (HK9.o.trans hk);have HBc10:=lH (HBc9.o.keeps hk bA);have bh:=lH (az.o.keeps hk);have ab:=lH (bb.o.keeps hk bA);have a0:=lH (bs.o.keeps hk);have U:=lH (a7.o.keeps hk bA);have ai:=lH (be.o.keeps hk bA);clear hk HK9 HBc9 az bb bs a7 be;go_upto_region 10 with(refine As bD 67 _ _ bD w10 (jobA j2) bD bD 67 #[pE pK 0,I_ 0,Dz ⟨#[]⟩,Dz ⟨#[]⟩,I_ 0,I_ 0,Dz ⟨#[]⟩,I_ 0,I_ 0,pI false,I_ 0,I_ 0,I_ 0,I_ 0,Dz ⟨#[]⟩,I_ 0,I_ 0,I_ 0,I_ 0,I_ 0,I_ 0,Dz ⟨#[]⟩,I_ 0,I_ 0] (Blk.new w10 _ _) rfl (D2 _) (Gp _) ?_;intro w11 hb hk)
 try simp only [By]
 have cx:Hi (w.heap.size<=w10.heap.size):=lH HK10.o.size;obtain⟨bl,cl⟩:=eX w10.heap.size;replace hk:Aa [] w10 w11:=((Aa.refl [] w10).alloc _).own hk QW;rw [cl] at hb cx ⊢;clear cl;have HK11:=lH (HK10.o.trans hk);have HBc11:=lH (HBc10.o.keeps hk bA);have bj:=lH (bh.o.keeps hk);have ad:=lH (ab.o.keeps hk bA);have HMd11:=lH (a0.o.keeps hk);have F:=lH (U.o.keeps hk bA);have aj:=lH (ai.o.keeps hk bA);clear hk HK10 HBc10 bh ab a0 U ai;have an:Hi (Blk w11 bl 67 (jobA j2)):=lH hb;clear hb;have HG:=lH (Blk.rng (cs:=(ctlA vd)) F.o 0 (ctlA vd) (fun j x hx=>by rw [AW];simpa using hx));obtain⟨j3,b3,b9⟩:∃x1 x2,Ma d other=(x1,x2):=⟨_,_,rfl⟩;have cd:=lH b9;have B:=OI (pF vd.oa vd.on vd.oc) (pF vd.r.s.ga vd.gn vd.r.s.gc) (pF vd.r.s.ua vd.un vd.r.s.uc) (pF vd.r.s.fa vd.fn vd.r.s.fc) (pF vd.r.la vd.ln vd.r.lc) (I_ vd.seq) (pF vd.pa vd.pn vd.pc) (I_ vd.nx) (pF vd.da vd.dn vd.dc) vd.ja vd.jn vd.jc d.jobs HMd11.o.jn (by have:=HMd11.o.jl;omega) other w11 HMd11.o.j;rw [show OV d.jobs other=(j3,b3) from b9] at B;clear b9;go_wp2_with (refine Ay bD 36 _ bD bd 0 bD (ctlA vd) _ HG.o underlying36 rfl (AD _) ?_);clear HG;refine B.mono ?_;rintro r w12 ⟨rfl,hk⟩;clear B;have HK12:=lH (HK11.o.trans hk);have HBc12:=lH (HBc11.o.keeps hk bA);have bo:=lH (bj.o.keeps hk);have ae:=lH (ad.o.keeps hk bA);have HMd12:=lH (HMd11.o.keeps hk);have HBd12:=lH (F.o.keeps hk bA);have ak:=lH (aj.o.keeps hk bA);have ao:=lH (an.o.keeps hk bA);clear hk HK11 HBc11 bj ad HMd11 F aj an;go_upto_region 11 with(refine As bD 67 _ _ bD w12 (jobA j3) bD bD 67 #[pE pK 0,I_ 0,Dz ⟨#[]⟩,Dz ⟨#[]⟩,I_ 0,I_ 0,Dz ⟨#[]⟩,I_ 0,I_ 0,pI false,I_ 0,I_ 0,I_ 0,I_ 0,Dz ⟨#[]⟩,I_ 0,I_ 0,I_ 0,I_ 0,I_ 0,I_ 0,Dz ⟨#[]⟩,I_ 0,I_ 0] (Blk.new w12 _ _) rfl (D2 _) (Gp _) ?_;intro w13 hb hk)
 try simp only [By]
 have cy:Hi (w.heap.size<=w12.heap.size):=lH HK12.o.size;obtain⟨bm,cm⟩:=eX w12.heap.size;replace hk:Aa [] w12 w13:=((Aa.refl [] w12).alloc _).own hk QW;rw [cm] at hb cy ⊢;clear cm;have aw:=lH (HK12.o.trans hk);have O:=lH (HBc12.o.keeps hk bA);have bp:=lH (bo.o.keeps hk);have af:=lH (ae.o.keeps hk bA);have J:=lH (HMd12.o.keeps hk);have G:=lH (HBd12.o.keeps hk bA);have al:=lH (ak.o.keeps hk bA);have ap:=lH (ao.o.keeps hk bA);clear hk HK12 HBc12 bo ae HMd12 HBd12 ak ao;have au:Hi (Blk w13 bm 67 (jobA j3)):=lH hb;clear hb;have HG:=lH (Blk.rng (cs:=(ctlA vd)) G.o 0 (ctlA vd) (fun j x hx=>by rw [AW];simpa using hx));obtain⟨x,e2,hx⟩:∃x1 x2,Fj d conn t=(x1,x2):=⟨_,_,rfl⟩;have c1:=lH hx;have HAK:=OH vd d conn t (by have:=ci.o;omega) w13 (HE.o _ aw.o).s.et J.o;rw [hx] at HAK;clear hx;go_wp2_with (refine Ay bD 36 _ bD bd 0 bD (ctlA vd) _ HG.o underlying36 rfl (AD _) ?_);clear HG;refine HAK.mono ?_;rintro r N ⟨vx,rfl,hm,_,hk⟩;have a3:=lH hm;clear hm HAK;have ax:=lH (aw.o.trans hk);have T:=lH (O.o.keeps hk bA);have bq:=lH (bp.o.keeps hk);have ag:=lH (af.o.keeps hk bA);have a1:=lH (J.o.keeps hk);have X:=lH (G.o.keeps hk bA);have am:=lH (al.o.keeps hk bA);have ar:=lH (ap.o.keeps hk bA);have av:=lH (au.o.keeps hk bA);clear hk aw O bp af J G al ap au;go_upto_region 12 with(refine As bD 36 _ _ bD N (ctlA vx) bD bD 36 Hh.k (Blk.new N _ _) rfl (AD _) (Bc _) ?_;intro w15 hb hk)
 try simp only [By]
 have cz:Hi (w.heap.size<=N.heap.size):=lH ax.o.size;obtain⟨bx,cn⟩:=eX N.heap.size;replace hk:Aa [] N w15:=((Aa.refl [] N).alloc _).own hk QW;rw [cn] at hb cz ⊢;clear cn;have bg:=lH (ax.o.trans hk);have cp:=lH (T.o.keeps hk bA);have c6:=lH (bq.o.keeps hk);have cq:=lH (ag.o.keeps hk bA);have b5:=lH (a1.o.keeps hk);have bt:=lH (X.o.keeps hk bA);have bu:=lH (am.o.keeps hk bA);have bv:=lH (ar.o.keeps hk bA);have bw:=lH (av.o.keeps hk bA);have c0:=lH (a3.o.keeps hk);clear hk ax T bq ag a1 X am ar av a3;have cr:Hi (Blk w15 bx 36 (ctlA vx)):=lH hb;clear hb;obtain⟨g1,g2,g3,g4,g5⟩:=bz.o;obtain rfl:a4=false:=g1;rw [ca.o] at g2;rw [cc.o,cd.o] at g3;rw [c1.o] at g4;obtain rfl:e2=191:=g4;obtain⟨rfl,rfl⟩:j1=DN conn t/\b1=true:=by injection g2 with a b;exact⟨a,b⟩
 have HR:=Ij vd d true g5 w15 b5.o;clear g2 g5;have ch:=lH (Blk.rng (cs:=(jobA (DN conn t))) bu.o 0 (jobA (DN conn t)) (fun j x hx=>by rw [AW];simpa using hx));have cg:=lH (Blk.rng (cs:=(ctlA vd)) bt.o 0 (ctlA vd) (fun j x hx=>by rw [AW];simpa using hx));by_cases ho:other=conn
 ·have f1:(other==conn)=true:=by simpa using ho
  clear ho g3
  iterate 40 (first | go_big_skip | (refine I7 67 _ bD bD bk 0 bD (jobA (DN conn t)) _ ch.o underlying67 rfl (D2 _) ?_) | (refine qY (pH (jobA (DN conn t))) bD bD bC ?_) | (refine qW (DN conn t) _ _ bD bD bD bD ?_) | go_step)
  go_wp2_with (first | go_big_skip | (refine I7 36 _ bD bD bd 0 bD (ctlA vd) _ cg.o underlying36 rfl (AD _) ?_));refine HR.mono ?_;rintro r w' ⟨rfl,hk⟩;go_wp2_with fail;go_ret;exact⟨rfl,bg.o.trans hk⟩
 ·have f1:(other==conn)=false:=by simpa using ho
  obtain⟨rfl,rfl⟩:j3=j2/\b3=b2:=by
   rcases g3 with h | h
   ·exact absurd h ho
   ·injection h with a b;exact⟨a,b⟩
  clear ho g3;have ct:=lH (Blk.rng (cs:=(jobA j3)) bv.o 0 (jobA j3) (fun j x hx=>by rw [AW];simpa using hx));have cu:=lH (Blk.rng (cs:=(jobA j3)) bw.o 0 (jobA j3) (fun j x hx=>by rw [AW];simpa using hx))
  iterate 40 (first | (refine I7 67 _ bD bD bk 0 bD (jobA (DN conn t)) _ ch.o underlying67 rfl (D2 _) ?_) | (refine qY (pH (jobA (DN conn t))) bD bD bC ?_) | (refine qW (DN conn t) _ _ bD bD bD bD ?_) | go_step)
  iterate 6 go_step
  (refine I7 67 _ bD bD bl 0 bD (jobA j3) _ ct.o underlying67 rfl (D2 _) ?_)
  (refine I7 67 _ bD bD bm 0 bD (jobA j3) _ cu.o underlying67 rfl (D2 _) ?_)
  refine qW j3 _ _ bD bD bD bD ?_;go_wp2_with (refine I7 36 _ bD bD bd 0 bD (ctlA vd) _ cg.o underlying36 rfl (AD _) ?_);refine HR.mono ?_;rintro r w' ⟨rfl,hk⟩;go_wp2_with fail;go_ret;exact⟨rfl,bg.o.trans hk⟩
end
section
open Go.RowKit
namespace controlCalls
open Go.ChangeShapes Go.WideShapes Go.ChangeAt
open Go.ChangeMaps (open_string)
theorem lifted(os:Os)(D:os.Started)(H:Type)(enc:TypeId×Value->H):
  ReturnsInHanded {} checked os 4 .any (fun w args=>(Rows.controlCallsSpec.pre enc prog f4 [] false w args/\laidMetH prog En w)/\sizedMet enc prog f4 (OpenSpec.ofChange Rows.controlCallsSpec) false w args)
   (Rows.controlCallsSpec.post enc prog f4 false true false false):=by
 refine FO (C:=checked) (X:=fun w _=>laidMetH prog En w) (fun _ _ _ hh h=>h.of_heap hh) own D bC func4
  (ChangeSpec.witness_shaped (enc:=enc) (C:=checked) (os:=os) (X:=fun w _=>laidMetH prog En w) false (World.doorLaid prog 400 os) #[.agg Hh.k,I_ 0,I_ 0,Dz Bh] 8 rfl (FT os _) (Qi _) (KK H enc _) (Qm H enc _) (Jh os _)) ?_
 intro W F args ds gs G E hW hL O;have B:∀(j:Nat) t v,f4.params[j]? = some t->args[j]? = some v->Value.okWide prog W .any F t v:=E;have M:=hW;obtain⟨p,q,J,hV,rfl,aj,al⟩:=hW;have hA:DataW.TrodAll enc prog W 0 (fun _=>true) true f4.params.toList args.toList ds p:=J;rw [params4] at hA B;obtain⟨v0,ar,d0,af,p0,q0,N,rfl,rfl,h0,r0⟩:=trodAll_cons hA;obtain⟨v1,au,d1,ag,p1,q1,rfl,rfl,rfl,h1,r1⟩:=trodAll_cons r0;obtain⟨v2,av,d2,ah,p2,q2,rfl,rfl,rfl,h2,r2⟩:=trodAll_cons r1;obtain⟨T,aw,d3,ai,p3,q3,rfl,rfl,rfl,h3,r3⟩:=trodAll_cons r2;obtain⟨rfl,rfl,rfl⟩:=trodAll_nil r3;obtain rfl:args=#[v0,v1,v2,T]:=by cases args;simp_all
 obtain⟨rfl,rfl⟩:=trodVars_none hV;obtain⟨u0,c0,rfl,w0⟩:=Jp (B 0 36 v0 rfl rfl) h0;obtain⟨U,rfl,rfl,rfl,w1⟩:=open_int underlying3 (B 1 3 v1 rfl rfl) h1;obtain⟨Y,rfl,rfl,rfl,w2⟩:=open_int underlying3 (B 2 3 v2 rfl rfl) h2;obtain⟨a3,rfl,rfl,rfl,w3⟩:=open_string underlying9 (B 3 9 T rfl rfl) h3;refine(rD u0 c0 U Y a3 W w0 (KI hL O)).mono fun e W' ⟨he,hk⟩=>?_;subst he;exact⟨_,rfl,Jn JQ kL rfl rfl underlying4 M (hk.below (Aw _) bA) ⟨rfl,rfl,rfl⟩⟩
theorem Q2:Rows.controlCallsRow.holds Tryz.pinned (OpenSpec.ofChange Rows.controlCallsSpec):=
 OpenClaim.holds_of_wide 4 f4 rfl rfl rfl rfl rfl rfl rfl ⟨rfl,rfl,rfl,rfl,rfl⟩ rfl rfl rfl rfl rfl It func4 Iu
  (of_decide_eq_true bC) kM
  (fun os started H enc _=>lifted os started H enc)
theorem proved:Rows.ControlCallsCardSaid:=
 Claim7.holds_tied_plain_at .later [] [.data,.data,.data,.handle,.sentinel,.sentinel,.sentinel,.sentinel,.sentinel,.sentinel,.sentinel,.sentinel,.data,.sentinel,.sentinel,.sentinel] true (true, "dd7f32c1959a76bf46b3062965ebd43ad50527f473b9a7f2776f8a1a0e13ef81") true
  Q2 (fun _ h=>by cases h) bC (fun _ h=>by cases h) controlCalls_row_tie rfl ⟨rfl,rfl⟩ R6 rfl
  (fun f fn hf hfn=>by
   obtain rfl:f=4:=Option.some.inj (It.symm.trans hf) |>.symm;obtain rfl:fn=f4:=(Option.some.inj (func4.symm.trans hfn)).symm;exact⟨R3,fun j t ht=>by
    rw [params4] at ht;have hm:t∈[36,3,3,9]:=by simpa using Array.mem_of_getElem? ht
    have hall:([36,3,3,9].all fun u=>!prog.wantsStandIn u)=true:=bC;exact(show prog.wantsStandIn t=false by simpa using Bm.1 hall t hm)⟩)
  Qd
end controlCalls
end
end Go.Proofs.YtncebikgoleolaaGreatDoor
