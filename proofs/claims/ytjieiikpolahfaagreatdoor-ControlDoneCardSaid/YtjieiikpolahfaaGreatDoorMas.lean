/- ControlDone: the reply to a command that was done is noted last, at most eight are, and the others stay in order. -/
import Derived.Test.YtjieiikpolahfaaGreatDoorMaj
import Derived.Test.YtjieiikpolahfaaGreatDoorMaq
import Derived.Test.YtjieiikpolahfaaGreatDoorMar
import Derived.Test.YtjieiikpolahfaaGreatDoorMaw
set_option maxRecDepth 100000
set_option maxHeartbeats 8000000
set_option linter.all false
namespace Go.Proofs.YtjieiikpolahfaaGreatDoor
open Go.Proofs.Tryz
open Act renaming put→By
open _root_.And renaming intro→Bl
open _root_.Array renaming getElem?_eq_some_iff→Ai
open _root_.Bool renaming and_eq_true→Af
open _root_.ByteArray renaming empty→Bh
open Ending renaming returned→pJ
open IntKind renaming i64→pK
open Lib renaming toList_data→C9
open _root_.List renaming all_eq_true→Bm,getElem?_append_right→Ee,getElem?_eq_getElem→Aq,getElem?_eq_some_iff→Ad,isEmpty_eq_false_iff→E9,length_append→Al,mem_singleton→Ag,take_of_length_le→Ak
open _root_.Nat renaming add_zero→AT,le_refl→Aw,lt_of_lt_of_le→BS,zero_add→AW,zero_le→Ba
open Oper renaming semAt_some→pN
open Program renaming fieldsOf→CK
open Value renaming agg→pH,bool→pI,int→pE,slice→pF,string→Dz
section
open Go.RowKit Go.Shelf
theorem cU(q:Bq)(w:World):(Op.equalIn 10000 61 (pH (jobA q)) (pH (jobA q))).run prog w = .ok true w:=by
 have B:prog.underlying 61=some (.struct (prog.fieldsOf 61)):=bC;have J:prog.stoodInHeld 61=false:=bC;have D:prog.underlying 59=some (.struct (prog.fieldsOf 59)):=bC;have M:prog.stoodInHeld 59=false:=bC;have E:prog.underlying 57=some (.struct (prog.fieldsOf 57)):=bC;have N:prog.stoodInHeld 57=false:=bC;have F:prog.underlying 55=some (.struct (prog.fieldsOf 55)):=bC;have O:prog.stoodInHeld 55=false:=bC;have G:prog.underlying 51=some (.struct (prog.fieldsOf 51)):=bC;have T:prog.stoodInHeld 51=false:=bC;have hS5:prog.underlying 53=some (.struct (prog.fieldsOf 53)):=bC;have U:prog.stoodInHeld 53=false:=bC;unfold jobA;rw [show(10000:Nat)=9999+1 from rfl,run_equalIn_agg w 9999 61 _ _ B J];simp only [CK,underlying61,underlying59,underlying57,underlying55,underlying51,underlying53];simp only [CK,underlying61,underlying59,underlying57,underlying55,underlying51,underlying53] at B D E F G hS5;simp [go_sem,CK,underlying61,underlying59,underlying57,underlying55,underlying51,underlying53,M,N,O,T,U]
theorem cW(q:Bq)(w:World):(binOp .neq 61 (pH (jobA q)) (pH (jobA q))).run prog w = .ok (pI false) w:=by rw [run_neq_struct,cU];rfl
theorem Nw{u:ByteArray}(h:u≠⟨#[]⟩):u.toList.isEmpty=false:=by
 rw [C9];exact E9.2 fun e=>h (by cases u with | mk d=>cases d with | mk l=>simp at e;subst e;rfl)
end
section
open Go.RowKit Go.Shelf
attribute [local go_sem] pN Lr Ls Lp Lq
attribute [local go_sem ↓] wp_at_zero wp_at_succ
theorem Qb{B:Oper}{a:Act}(q:Bq)(x y:Operand)(w:World)(ho:B.op = .binOp .neq 61 x y 61)(hx:a.eval x = pH (jobA q))(hy:a.eval y = pH (jobA q)):(execOp a.eval B).run prog w = .ok (.value (pI false)) w:=by
 have hm:prog.eqGuardType prog.depth 61=false:=bC;unfold execOp;simp only [ho,hx,hy,run_eqGuard_agg (hm:=hm),Sem.run_bind,Sem.run_pure,Result.andThen_ok,cW]
theorem Wn(x y:SV)(s:Sn)(w:World)(h1:Oh w x s)(h2:Oh w y s):
  Calls prog 115 #[pH (N_ x),pH (N_ y)] w fun r w'=>r = pJ (pI true)/\Aa [] w w':=by
 obtain⟨w0,hw0⟩:=eX ((w.alloc (.cells (N_ x) 147)).alloc (.cells (N_ y) 147));have hk0:Aa [] w w0:=by rw [<- hw0];exact((Aa.refl [] w).alloc _).alloc _
 have hb0:Blk w0 w 147 (N_ x):=by rw [<- hw0];exact(Blk.new w _ _).alloc _
 have hb1:Blk w0 (w+1) 147 (N_ y):=by rw [<- hw0];exact Ar _ _ _ _ bA
 have B:(x.cur==y.cur)=true:=by simp [h1.1,h2.1]
 have hu:(x.used==y.used)=true:=by simp [h1.2.1,h2.2.1]
 have HQ:=VV x.ia y.ia x.ic y.ic s.items s.items x.il y.il h1.2.2.1.symm h2.2.2.1.symm (by rw [h1.2.2.1];exact h1.2.2.2.small) (by rw [h2.2.2.1];exact h2.2.2.2.small) true bA w0 (NY (h1.2.2.2.keeps hk0)) (NY (h2.2.2.2.keeps hk0));have D:=hb0.rl;have E:=hb1.rl;have HK0:=lH hk0;clear hk0 hb0 hb1 h1 h2;go_enter func115,ntmps115;go_wp2_with fail;clear hw0;refine HQ.mono ?_;rintro r w1 ⟨rfl,hk⟩;go_wp2;go_ret;exact⟨rfl,HK0.o.trans hk⟩
theorem Qa(a1 a2:Option Addr)(c1 c2:Nat)(G J:List SV)(L:List Sn)(n:Nat)(hn:G.length=n)(hm:J.length=n)(w:World)(O:F3 w a1 G)(F:Mt w G L)(T:F3 w a2 J)(N:Mt w J L)(hs1:n<=1000000)(f:Value)(hf:f=(.func (.func 115) #[] #[])):
  Calls prog 114 #[pF a1 n c1,pF a2 n c2,f] w fun r w'=>r = pJ (pI true)/\Aa [] w w':=by
 subst hf;have ae:=lH O;have af:=lH T;have aa:=lH F;have ab:=lH N;have ac:=lH hn;have ad:=lH hm;have Y:Hi (L.length=n):=lH (by rw [<- hn];exact F.len.symm);clear O T F N hn hm;go_enter func114,ntmps114;go_wp2;go_loopw [17] (fun i wr=>∃k:Nat,k<=n/\i = I_ k/\Hi (Aa [] w wr)) (fun i _=>n - (intOf i).toNat)
 case atStart=>exact⟨0,Ba _,rfl,lH (Aa.refl [] w)⟩
 case round=>
  obtain⟨k,hk,rfl,HK⟩:=hrel;by_cases hlt:k<n
  ·have hk1:k<G.length:=by rw [ac.o];exact hlt
   have hk2:k<J.length:=by rw [ad.o];exact hlt
   have E:k<L.length:=by rw [Y.o];exact hlt
   obtain⟨g1,o1,av,a4,rfl,hb1,hat1⟩:=ae.o gC;obtain⟨g2,o2,aw,a5,rfl,hb2,hat2⟩:=af.o (by rintro rfl;simp at hk2);obtain⟨x,hx⟩:=eX (G[k]);obtain⟨y,hy⟩:=eX (J[k]);obtain⟨s,hs⟩:=eX (L[k]);have q1:=hat1 k hk1;have q2:=hat2 k hk2;have e1:=aa.o.get k hk1 E;have e2:=ab.o.get k hk2 E;rw [hx,hs] at e1;rw [hy,hs] at e2;rw [hx] at q1;rw [hy] at q2;obtain⟨x0,x1,x2⟩:=q1;obtain⟨y0,y1,y2⟩:=q2;rw [<- HK.o.cell (Ai.1 hb1).1 bA] at x0 x1 x2;rw [<- HK.o.cell (Ai.1 hb2).1 bA] at y0 y1 y2;have i1:(0:Int)<=(k:Int):=bB;have i2:(k:Int)<(n:Int):=bB;have M:=(Blk.new wr 147 (N_ x));have U:=((Aa.refl [] wr).alloc (.cells (N_ x) 147));have hg2:g2<wr.heap.size:=BS (Ai.1 hb2).1 HK.o.size;have z0:=(U.cell (p:=A_ g2 (o2+k*3)) hg2 bA).trans y0;have z1:=(U.cell (p:=A_ g2 (o2+k*3+1)) hg2 bA).trans y1;have z2:=(U.cell (p:=A_ g2 (o2+k*3+2)) hg2 bA).trans y2;have B:=lH (M.alloc (.cells (N_ y) 147));have D:=lH (Ar (wr.alloc (.cells (N_ x) 147)) 147 (N_ y) (wr+1) bA);have HK2:=lH (HK.o.trans (U.alloc (.cells (N_ y) 147)));have d0:=B.o.cell 0;have d1:=B.o.cell 1;have d2:=B.o.cell 2;have f0:=D.o.cell 0;have f1:=D.o.cell 1;have f2:=D.o.cell 2;have E1:=lH (e1.keeps HK2.o);have E2:=lH (e2.keeps HK2.o);clear hx hy hs hat1 hat2 hb1 hb2 hk1 hk2 E e1 e2 M U hg2;go_wp2_with fail;refine(Wn x y s _ E1.out E2.out).mono ?_;rintro r w1 ⟨rfl,hk1⟩;have X:=lH (HK2.o.trans hk1);clear hk1 x0 x1 x2 y0 y1 y2 z0 z1 z2 d0 d1 d2 f0 f1 f2;go_wp2;go_roundw;case rel=>exact⟨k+1,by omega,by go_num,X⟩
   case measure=>simp [intOf];omega
  ·obtain rfl:k=n:=bB;go_wp2;go_ret;exact⟨rfl,HK.o⟩
theorem YU(D a2:Option Addr)(E c2:Nat)(F G:List SV)(L:Po)(n:Nat)(B:Int)(hn:F.length=n)(hm:G.length=n)(w:World)(h1:BP w D E F L)(h2:BP w a2 c2 G L):
  Calls prog 56 #[pH #[pF D n E,I_ B],pH #[pF a2 n c2,I_ B]] w fun r w'=>r = pJ (pI true)/\Aa [] w w':=by
 obtain⟨w0,hw0⟩:=eX ((w.alloc (.cells #[pF D n E,I_ B] 32)).alloc (.cells #[pF a2 n c2,I_ B] 32));have hk0:Aa [] w w0:=by rw [<- hw0];exact((Aa.refl [] w).alloc _).alloc _
 have hb0:Blk w0 w 32 #[pF D n E,I_ B]:=by rw [<- hw0];exact(Blk.new w _ _).alloc _
 have hb1:Blk w0 (w+1) 32 #[pF a2 n c2,I_ B]:=by rw [<- hw0];exact Ar _ _ _ _ bA
 have HQ:=Qa D a2 E c2 F G L.l n hn hm w0 (h1.keeps hk0).row (h1.keeps hk0).mt (h2.keeps hk0).row (h2.keeps hk0).mt (by have:=h1.small;omega) _ rfl;have J:=hb0.rl;have M:=hb1.rl;have HK0:=lH hk0;clear hk0 hb0 hb1 h1 h2 hn hm;go_enter func56,ntmps56;go_wp2_with fail;clear hw0;refine HQ.mono ?_;rintro r w1 ⟨rfl,hk⟩;go_wp2;go_ret;exact⟨rfl,HK0.o.trans hk⟩
theorem Yp(a a2:Option Addr)(c c2:Nat)(xs:List Bq)(n:Nat)(hn:xs.length=n)(hL:n<=1000000)(w:World)(h:Kt w a c xs)(h2:Kt w a2 c2 xs):
  Calls prog 54 #[.slice a n c,.slice a2 n c2] w fun e w'=>e = .returned (.bool true)/\Aa [] w w':=by
 have HH:=lH h;have H2:=lH h2;have HN:=lH hn;clear h h2 hn;go_enter func54,ntmps54;go_wp2;go_loopw [13] (fun i wr=>∃k:Nat,i = .int .i64 k/\k<=n/\Hi (Aa [] w wr)) (fun i _=>n - (intOf i).toNat)
 case atStart=>exact⟨0,rfl,Nat.zero_le _,lH (Aa.refl [] w)⟩
 case round=>
  obtain⟨k,rfl,hk,HK⟩:=hrel;by_cases hlt:k<n
  ·obtain⟨g1,o1,z,rfl,hg1,hx1,hat1⟩:=(HH.o.keeps HK.o).at_k (k:=k) bO
   obtain⟨g2,o2,z2,rfl,hg2,hx2,hat2⟩:=(H2.o.keeps HK.o).at_k (k:=k) bO;obtain rfl:z2=z:=by rw [hx1] at hx2;injection hx2 with h;exact h.symm
   have HQ1:Hi (∀W,Aa [] wr W->W.rangeAt g1 (o1+k*24) (jobA z2).toList):=lH (fun W hk=>JC (fun j x hx=>(hk.cell (p:=A_ g1 (o1+k*24+j)) hg1 bA).trans (hat1 j x hx)));have HQ2:Hi (∀W,Aa [] wr W->W.rangeAt g2 (o2+k*24) (jobA z2).toList):=lH (fun W hk=>JC (fun j x hx=>(hk.cell (p:=A_ g2 (o2+k*24+j)) hg2 bA).trans (hat2 j x hx)));have i1:(0:Int)<=(k:Int):=bB;have i2:(k:Int)<(n:Int):=bB;clear hat1 hat2 hg1 hg2 hx1 hx2;go_wp2_with fail;refine wp_region_held_drew (S:=(Aa [] wr)) bC Td (fun hHeld=>?_);refine rK 0 ?_;refine rK 1 ?_;refine rK 2 ?_;refine rQ 3 ?_ (hy:=by(intro wS hSw;refine(EO (P:=prog) 61 _ bD g1 (o1+k*24) bD (jobA z2) _ (HQ1.o wS hSw) underlying61 rfl (D2 _)).trans ?_;with_reducible rfl));refine rK 4 ?_;refine rK 5 ?_;refine rK 6 ?_;refine rQ 7 ?_ (hy:=by(intro wS hSw;refine(EO (P:=prog) 61 _ bD g2 (o2+k*24) bD (jobA z2) _ (HQ2.o wS hSw) underlying61 rfl (D2 _)).trans ?_;with_reducible rfl));refine rQ 8 ?_ (hy:=by(intro wS hSw;refine(Qb z2 _ _ wS bD bD bD).trans ?_;with_reducible rfl));refine wpAnyH_done bC ?_ _
   (go_wp2_with fail;go_roundw;(case rel=>exact⟨k+1,by go_num,by omega,lH (HK.o.trans hHeld)⟩);(case measure=>(simp [intOf];omega)))
  ·obtain rfl:k=n:=bB;go_wp2;go_ret;exact⟨rfl,HK.o⟩
theorem XV(v u:CV)(c:BN)(w:World)(h1:Cg w v c)(h2:Cg w u c):
  Calls prog 22 #[pH (C_ v),pH (C_ u)] w fun r w'=>r = pJ (pI true)/\Aa [] w w':=by
 obtain⟨w0,hw0⟩:=eX ((w.alloc (.cells (C_ v) 36)).alloc (.cells (C_ u) 36));have hk0:Aa [] w w0:=by rw [<- hw0];exact((Aa.refl [] w).alloc _).alloc _
 have HB0:Hi (Blk w0 w 36 (C_ v)):=lH (by rw [<- hw0];exact(Blk.new w _ _).alloc _);have HB1:Hi (Blk w0 (w+1) 36 (C_ u)):=lH lW;have T:u.on=v.on:=by rw [<- h2.on,h1.on]
 have e1:u.jn=v.jn:=by rw [<- h2.jn,h1.jn]
 have U:u.dn=v.dn:=by rw [<- h2.dn,h1.dn]
 have M:u.pn=v.pn:=by rw [<- h2.pn,<- h1.pn,h2.p.mt.len,h1.p.mt.len]
 have O:u.nx=v.nx:=by rw [<- h2.nx,h1.nx]
 have N:c.ops.length=u.on:=h2.on;have F:Hi (∀W,Aa [] w0 W->Calls prog 53 #[pF v.oa v.on v.oc,pF u.oa u.on u.oc] W fun r w'=>r = pJ (pI true)/\Aa [] W w'):=lH fun W hk=>Rw v.oa u.oa v.oc u.oc c.ops c.ops v.on u.on h1.on h2.on (by have:=h1.ol;omega) (by have:=h2.ol;omega) true bA W (h1.o.keeps (hk0.trans hk)) (h2.o.keeps (hk0.trans hk));have HQ1:Hi (∀W,Aa [] w0 W->Calls prog 54 #[pF v.ja v.jn v.jc,pF u.ja u.jn u.jc] W fun r w'=>r = pJ (pI true)/\Aa [] W w'):=lH fun W hk=>by rw [e1];exact Yp v.ja u.ja v.jc u.jc c.jobs v.jn h1.jn (by have:=h1.jl;omega) W (h1.j.keeps (hk0.trans hk)) (h2.j.keeps (hk0.trans hk))
 have HQ2:Hi (∀W,Aa [] w0 W->Calls prog 55 #[pF v.da v.dn v.dc,pF u.da u.dn u.dc] W fun r w'=>r = pJ (pI true)/\Aa [] W w'):=lH fun W hk=>Rv v.da u.da v.dc u.dc c.done c.done v.dn u.dn h1.dn h2.dn (by have:=h1.dl;omega) (by have:=h2.dl;omega) true bA W (h1.d.keeps (hk0.trans hk)) (h2.d.keeps (hk0.trans hk));have G:Hi (∀W,Aa [] w0 W->Calls prog 18 #[pH (R_ v.r v.gn v.un v.fn v.ln v.seq),pH (R_ u.r u.gn u.un u.fn u.ln u.seq)] W fun r w'=>r = pJ (pI true)/\Aa [] W w'):=lH fun W hk=>FC v.r u.r c.reg c.reg v.gn v.un v.fn v.ln u.gn u.un u.fn u.ln h1.g h1.u h1.f h1.lv h2.g h2.u h2.f h2.lv v.seq u.seq h1.q h2.q true bA W (h1.r.keeps (hk0.trans hk)) (h2.r.keeps (hk0.trans hk));have J:Hi (∀W,Aa [] w0 W->Calls prog 56 #[pH #[pF v.pa v.pn v.pc,I_ v.nx],pH #[pF u.pa u.pn u.pc,I_ u.nx]] W fun r w'=>r = pJ (pI true)/\Aa [] W w'):=lH fun W hk=>by rw [M,O];exact YU v.pa u.pa v.pc u.pc v.pv u.pv c.pool v.pn v.nx h1.pn (by rw [h2.pn,M]) W (h1.p.keeps (hk0.trans hk)) (h2.p.keeps (hk0.trans hk))
 have HK0:=lH hk0;have D:=HB0.o.rl;have E:=HB1.o.rl;clear hk0 h1 h2 T e1 U M O N;go_enter func22,ntmps22;go_wp2_with fail;clear hw0;refine(F.o _ (Aa.refl _ _)).mono ?_;rintro r w1 ⟨rfl,hk⟩;have HK1:=lH hk;clear hk D E;have D:=(HB0.o.keeps HK1.o bA).rl;have E:=(HB1.o.keeps HK1.o bA).rl;go_wp2_with fail;refine(HQ1.o _ HK1.o).mono ?_;rintro r w2 ⟨rfl,hk⟩;have HK2:=lH (HK1.o.trans hk);clear hk D E;have D:=(HB0.o.keeps HK2.o bA).rl;have E:=(HB1.o.keeps HK2.o bA).rl;go_wp2_with fail;refine(HQ2.o _ HK2.o).mono ?_;rintro r w3 ⟨rfl,hk⟩;have B:=lH (HK2.o.trans hk);clear hk D E;have D:=(HB0.o.keeps B.o bA).rl;have E:=(HB1.o.keeps B.o bA).rl;go_wp2_with fail;refine(G.o _ B.o).mono ?_;rintro r w4 ⟨rfl,hk⟩;have HK4:=lH (B.o.trans hk);clear hk D E;have D:=(HB0.o.keeps HK4.o bA).rl;have E:=(HB1.o.keeps HK4.o bA).rl;go_wp2_with fail;refine(J.o _ HK4.o).mono ?_;rintro r w5 ⟨rfl,hk⟩;go_wp2_with fail;go_ret;exact⟨rfl,(HK0.o.trans HK4.o).trans hk⟩
theorem Ln(v0:CV)(k0:BN)(conn now:Int)(s:ByteArray)(w:World)(hA:GY w v0 k0)(hE:Gu w):
  Calls prog 7 #[pH (ctlA v0),I_ conn,I_ now,Dz s] w fun r w'=>r = pJ (pI true)/\Aa [] w w':=by
 rw [show ctlA v0=(C_ v0) from rfl];obtain⟨c,hc⟩:=eX (MU k0);have HC:=lH hc;obtain⟨t,ht⟩:=eX (F0 s);have HT:=lH ht;have HTS:Hi (t.size<=310):=lH (by rw [<- ht];exact OQ s);clear ht;have HA:=lH hA;have HE:Hi (∀W,Aa [] w W->Gu W):=lH fun W hk=>hE.keeps hk;obtain⟨w0,hw0⟩:=eX (w.alloc (.cells (C_ v0) 36));have HK0:Hi (Aa [] w w0):=lH aX;have hb:Blk w0 w 36 (ctlA v0):=by rw [<- hw0];exact Blk.new w _ _
 obtain⟨bc,hbc⟩:=eX w.heap.size;have ck:Hi (w.heap.size<=bc):=lH (Nat.le_of_eq hbc);rw [hbc] at hb;have ba:Hi (Blk w0 bc 36 (ctlA v0)):=lH hb;clear hA hE hb hc;go_enter func7,ntmps7;go_wp2_with fail;try rw [hbc]
 clear hw0 hbc;refine(GD w0 (HE.o _ HK0.o)).mono ?_;rintro r w1 ⟨rfl,hk⟩;have HK1:=lH (HK0.o.trans hk);have aj:=lH (ba.o.keeps hk bA);clear hk HK0 ba;have HG:=lH (Blk.rng (cs:=(ctlA v0)) aj.o 0 (ctlA v0) (fun j x hx=>by rw [AW];simpa using hx));go_wp2_with (refine Ay bD 36 _ bD bc 0 bD (ctlA v0) _ HG.o underlying36 rfl (AD _) ?_);clear HG;refine(Hm v0 k0 w HA.o w1 HK1.o).mono ?_;rw [HC.o];rintro r w2 ⟨v,rfl,hm,hn,hk⟩;have HN:Hi ((DU (fun y=>w.heap.size<=y/\y<w1.heap.size) v c)/\DW (fun y=>w.heap.size<=y/\y<w1.heap.size) v.ja v.jn):=lH hn;have HLT:Hi (bc<w1.heap.size):=lH aj.o.lt;have cl:=lH hm;clear hn hm;have HK2:=lH (HK1.o.trans hk);have ar:=lH (aj.o.keeps hk bA);clear hk HK1 aj;go_upto_region 3 with(refine As bD 36 _ _ bD bc (ctlA v) bD bD 36 (ctlA v0) ar.o rfl (AD _) (Bc _) ?_;intro w3 hb hk)
 try simp only [By]
 have cm:=lH (cl.o.stay HN.o.1 HN.o.2 hk (fun y hy=>by obtain rfl:=Ag.1 hy;exact⟨ck.o,HLT.o⟩) (H9.blk ar.o bE bE));have bu:=lH (HK2.o.own hk (fun y hy=>by obtain rfl:=Ag.1 hy;exact ck.o));have bb:=lH hb;clear hb hk HK2 ar cl HA HN HLT;go_wp2_with fail;refine(EU s _).mono ?_;rintro r w' ⟨rfl,rfl⟩;rw [HT.o];obtain⟨q,er,hq⟩:∃q er,parseR t=(q,er):=⟨_,_,rfl⟩;have HPQ:=lH hq;obtain⟨E,hC⟩:=(HE.o _ bu.o).c;have HP:=Gw E t aH w3 hC;rw [hq] at HP;clear hC hq;go_wp2_with fail;refine(HP).mono ?_;rintro r w4 ⟨rfl,hk⟩;clear HP;have HK4:=lH (bu.o.trans hk);have be:=lH (bb.o.keeps hk bA);have HM4:=lH (cm.o.keeps hk);clear hk bu bb cm;go_upto_region 5 with(refine As bD 59 _ _ bD w4 (reqA q) bD bD 59 aQ.k (Blk.new w4 _ _) rfl (Cr _) (Dg _) ?_;intro w5 hb hk)
 try simp only [By]
 have c4:Hi (w.heap.size<=w4.heap.size):=lH HK4.o.size;obtain⟨bq,cv⟩:=eX w4.heap.size;replace hk:Aa [] w4 w5:=((Aa.refl [] w4).alloc _).own hk QW;rw [cv] at hb c4 ⊢;clear cv;have HK5:=lH (HK4.o.trans hk);have au:=lH (be.o.keeps hk bA);have bw:=lH (HM4.o.keeps hk);clear hk HK4 be HM4;have bg:Hi (Blk w5 bq 59 (reqA q)):=lH hb;clear hb;have HG:=lH (Blk.rng (cs:=(ctlA v)) au.o 0 (ctlA v) (fun j x hx=>by rw [AW];simpa using hx));obtain⟨d,u,hd⟩:∃x1 x2,pY c conn t now=(x1,x2):=⟨_,_,rfl⟩;have co:=lH hd;have bs:=FH v c conn t now aH w5 (HE.o _ HK5.o) bw.o;rw [hd] at bs;clear hd;go_wp2_with (refine Ay bD 36 _ bD bc 0 bD (ctlA v) _ HG.o underlying36 rfl (AD _) ?_);clear HG;refine bs.mono ?_;rintro r w6 ⟨Y,rfl,hm,_,hk⟩;have bp:=lH hm;clear hm bs;have bv:=lH (HK5.o.trans hk);have bf:=lH (au.o.keeps hk bA);have cn:=lH (bw.o.keeps hk);have bh:=lH (bg.o.keeps hk bA);clear hk HK5 au bw bg;go_upto_region 6 with(refine As bD 36 _ _ bD w6 (ctlA Y) bD bD 36 Hh.k (Blk.new w6 _ _) rfl (AD _) (Bc _) ?_;intro w7 hb hk)
 try simp only [By]
 have c3:Hi (w.heap.size<=w6.heap.size):=lH bv.o.size;obtain⟨bd,cu⟩:=eX w6.heap.size;replace hk:Aa [] w6 w7:=((Aa.refl [] w6).alloc _).own hk QW;rw [cu] at hb c3 ⊢;clear cu;have HK7:=lH (bv.o.trans hk);have av:=lH (bf.o.keeps hk bA);have bx:=lH (cn.o.keeps hk);have bi:=lH (bh.o.keeps hk bA);have ak:=lH (bp.o.keeps hk);clear hk bv bf cn bh bp;have ay:Hi (Blk w7 bd 36 (ctlA Y)):=lH hb;clear hb;by_cases hu:u=⟨#[]⟩
 ·subst hu
  go_wp2_with fail;go_ret;exact⟨rfl,HK7.o⟩
 have f1:u.toList.isEmpty=false:=Nw hu;have HL:=lH (Rr (c:=c) (conn:=conn) (now:=now) (line:=t) (by rw [co.o];exact hu));rw [co.o,HPQ.o] at HL;dsimp only at HL;clear hu;have ad:w7.cell? (A_ bc 9)=some (pF v.da v.dn v.dc):=av.o.cell 9;have ae:w7.cell? (A_ bd 9)=some (pF Y.da Y.dn Y.dc):=ay.o.cell 9;by_cases he:er=0;rotate_left
 ·have f2:(er != 0)=true:=by simpa using he
  have hd:=HL.o.1 he;have f3:((Y.dn:Int)==(v.dn:Int))=true:=by rw [<- ak.o.dn,<- bx.o.dn,hd];simp
  clear he hd;go_wp2_with fail;go_ret;exact⟨rfl,HK7.o⟩
 subst he;obtain⟨lst,al⟩:=eX ((Y.dn:Int) - 1);have c6:(Y.dn:Int)<=900:=by have:=ak.o.dl;omega
 have cj:=lH al;have i2:wrap64 ((Y.dn:Int) - 1)=lst:=by rw [al];exact IntWalk.wrap64_in _ ⟨by omega,by omega⟩
 have i3:IntKind.i64.wrap ((Y.dn:Int) - 1)=lst:=by rw [al];exact IntWalk.i64_in _ ⟨by omega,by omega⟩
 clear al c6;go_wp2_with fail;clear i2 i3 f1 ad ae;go_loopw [15,16] (fun de b7 wr=>∃(k:Nat) (b:Bool),k<=v.dn/\de = pI b/\b7 = I_ k/\Hi (((c.done.take k).any fun a=>decide (a.who=q.who)&&decide (a.id=q.id))=b)/\Hi (Aa [] w7 wr)) (fun _ b7 _=>v.dn - (intOf b7).toNat)
 case atStart=>exact⟨0,false,Ba _,rfl,rfl,lH rfl,lH (Aa.refl _ _)⟩
 case round=>
  obtain⟨k,b,hkn,rfl,rfl,HD,N⟩:=hrel
  rename World=>w8
  have hk:=N.o;have HK8:=lH (HK7.o.trans hk);have aa:=lH (av.o.keeps hk bA);have am:=lH (bx.o.keeps hk);have X:=lH (bi.o.keeps hk bA);have br:=lH (ak.o.keeps hk);have ab:=lH (ay.o.keeps hk bA);clear hk HK7 av bx bi ak ay;have ad:w8.cell? (A_ bc 9)=some (pF v.da v.dn v.dc):=aa.o.cell 9;by_cases hlt:k<v.dn
  ·obtain⟨ga,oa,z,ha,cw,hz,hat⟩:=am.o.d.at_k (k:=k) (by rw [am.o.dn];exact hlt)
   have z0:=hat 0 _ rfl;have z1:=hat 1 _ rfl;rw [AT] at z0;rw [ha] at ad;have HZ:=lH hz;have i4:(0:Int)<=(k:Int):=bB;have i5:(k:Int)<(v.dn:Int):=bB;have a4:v.dn<=900:=am.o.dl;have i6:wrap64 ((k:Int)+1)=(k:Int)+1:=IntWalk.wrap64_in _ ⟨by omega,by omega⟩;clear a4;have q0:w8.cell? (A_ bq 0)=some (Dz q.who):=X.o.cell 0;have q1:w8.cell? (A_ bq 1)=some (I_ q.id):=X.o.cell 1;clear hat ha hz;go_wp2_with fail;cases b with
   | true=>
    have ag:=aa.o.lt;have ai:=X.o.lt;have ah:=ab.o.lt;try(rename ∀(a:Act) (w:World),_->_=>B;replace B:=AU.mk B)
    try(rename ∀(a:Act) (w:World),_->_=>D;replace D:=AU.mk D)
    iterate 4 (try(rename ∀(a:Act) (w:World),_->_=>F;replace F:=AU.mk F))
    refine wp_region_held_drew (S:=(Aa [] w8)) bC Td (fun hHeld=>?_);refine rK 0 ?_;refine rK 1 ?_;refine rN 2 ?_;refine rN 3 ?_;refine rN 4 ?_;refine rN 5 ?_;refine rN 6 ?_;refine rN 7 ?_;refine rN 8 ?_;refine rN 9 ?_;refine rN 10 ?_;refine rN 11 ?_;refine rN 12 ?_;refine rN 13 ?_;refine rN 14 ?_;refine rN 15 ?_;refine rN 16 ?_;refine rN 17 ?_;refine rN 18 ?_;refine rN 19 ?_;refine rN 20 ?_;refine rN 21 ?_;refine rK 22 ?_;refine rK 23 ?_;refine wpAnyH_done bC ?_ _
    ((try replace D:=D.out);(try replace B:=B.out);go_wp2_with fail;go_roundw;(case rel=>exact⟨k+1,true,by omega,rfl,by go_num,lH (by rw [A0 HZ.o,List.any_append,HD.o];rfl),lH (N.o.trans hHeld)⟩);(case measure=>(first | exact Fu K3 K3 | (simp [intOf];omega))))
   | false=>
    by_cases hw:z.who=q.who;rotate_left
    ·have f6:(z.who.toList==q.who.toList)=false:=NX hw
     have HW:=lH hw;clear hw;have ag:=aa.o.lt;have ai:=X.o.lt;have ah:=ab.o.lt;try(rename ∀(a:Act) (w:World),_->_=>B;replace B:=AU.mk B)
     try(rename ∀(a:Act) (w:World),_->_=>D;replace D:=AU.mk D)
     iterate 4 (try(rename ∀(a:Act) (w:World),_->_=>F;replace F:=AU.mk F))
     refine wp_region_held_drew (S:=(Aa [] w8)) bC Td (fun hHeld=>?_);refine rK 0 ?_;refine rK 1 ?_;refine rK 2 ?_;refine rK 3 ?_;refine rK 4 ?_;refine rK 5 ?_;refine rK 6 ?_;refine rK 7 ?_;refine rK 8 ?_;refine rK 9 ?_;refine rK 10 ?_;refine rK 11 ?_;refine rN 12 ?_;refine rN 13 ?_;refine rN 14 ?_;refine rN 15 ?_;refine rN 16 ?_;refine rN 17 ?_;refine rN 18 ?_;refine rN 19 ?_;refine rN 20 ?_;refine rK 21 ?_;refine rK 22 ?_;refine rK 23 ?_;refine wpAnyH_done bC ?_ _
     ((try replace D:=D.out);(try replace B:=B.out);go_wp2_with fail;go_roundw;(case rel=>exact⟨k+1,false,by omega,rfl,by go_num,lH nW,lH (N.o.trans hHeld)⟩);(case measure=>(first | exact Fu K3 K3 | (simp [intOf];omega))))
    have f6:(z.who.toList==q.who.toList)=true:=by rw [hw];simp
    have HW:=lH hw;clear hw;by_cases hi:z.id=q.id
    ·have f5:(z.id==q.id)=true:=by simpa using hi
     have HI:=lH hi;clear hi;have ag:=aa.o.lt;have ai:=X.o.lt;have ah:=ab.o.lt;try(rename ∀(a:Act) (w:World),_->_=>B;replace B:=AU.mk B)
     try(rename ∀(a:Act) (w:World),_->_=>D;replace D:=AU.mk D)
     iterate 4 (try(rename ∀(a:Act) (w:World),_->_=>F;replace F:=AU.mk F))
     refine wp_region_held_drew (S:=(Aa [] w8)) bC Td (fun hHeld=>?_);refine rK 0 ?_;refine rK 1 ?_;refine rK 2 ?_;refine rK 3 ?_;refine rK 4 ?_;refine rK 5 ?_;refine rK 6 ?_;refine rK 7 ?_;refine rK 8 ?_;refine rK 9 ?_;refine rK 10 ?_;refine rK 11 ?_;refine rK 12 ?_;refine rK 13 ?_;refine rK 14 ?_;refine rK 15 ?_;refine rK 16 ?_;refine rK 17 ?_;refine rK 18 ?_;refine rK 19 ?_;refine rK 20 ?_;refine rK 21 ?_;refine rK 22 ?_;refine rK 23 ?_;refine wpAnyH_done bC ?_ _
     ((try replace D:=D.out);(try replace B:=B.out);go_wp2_with fail;go_roundw;(case rel=>exact⟨k+1,true,by omega,rfl,by go_num,lH (by rw [A0 HZ.o,List.any_append,HD.o];simp [HW.o,HI.o]),lH (N.o.trans hHeld)⟩);(case measure=>(first | exact Fu K3 K3 | (simp [intOf];omega))))
    ·have f5:(z.id==q.id)=false:=by simpa using hi
     have HI:=lH hi;clear hi;have ag:=aa.o.lt;have ai:=X.o.lt;have ah:=ab.o.lt;try(rename ∀(a:Act) (w:World),_->_=>B;replace B:=AU.mk B)
     try(rename ∀(a:Act) (w:World),_->_=>D;replace D:=AU.mk D)
     iterate 4 (try(rename ∀(a:Act) (w:World),_->_=>F;replace F:=AU.mk F))
     refine wp_region_held_drew (S:=(Aa [] w8)) bC Td (fun hHeld=>?_);refine rK 0 ?_;refine rK 1 ?_;refine rK 2 ?_;refine rK 3 ?_;refine rK 4 ?_;refine rK 5 ?_;refine rK 6 ?_;refine rK 7 ?_;refine rK 8 ?_;refine rK 9 ?_;refine rK 10 ?_;refine rK 11 ?_;refine rK 12 ?_;refine rK 13 ?_;refine rK 14 ?_;refine rK 15 ?_;refine rK 16 ?_;refine rK 17 ?_;refine rK 18 ?_;refine rK 19 ?_;refine rK 20 ?_;refine rK 21 ?_;refine rK 22 ?_;refine rK 23 ?_;refine wpAnyH_done bC ?_ _
     ((try replace D:=D.out);(try replace B:=B.out);go_wp2_with fail;go_roundw;(case rel=>exact⟨k+1,false,by omega,rfl,by go_num,lH (by rw [A0 HZ.o,List.any_append,HD.o];simp [HI.o]),lH (N.o.trans hHeld)⟩);(case measure=>(first | exact Fu K3 K3 | (simp [intOf];omega))))
  have i5:¬(k:Int)<(v.dn:Int):=bB;have ch:Hi ((c.done.any fun a=>decide (a.who=q.who)&&decide (a.id=q.id))=b):=lH (by have h:=HD.o;rw [Ak (by rw [am.o.dn];omega)] at h;exact h);clear HD N hkn hlt;go_wp2_with fail;clear i5 ad;go_loopw [17,18] (fun df b8 wr=>∃(k:Nat) (b2:Bool),k<=v.on/\df = pI b2/\b8 = I_ k/\Hi (((c.ops.take k).any fun o=>decide (o.name=q.who))=b2)/\Hi (Aa [] w8 wr)) (fun _ b8 _=>v.on - (intOf b8).toNat)
  case atStart=>exact⟨0,false,Ba _,rfl,rfl,lH rfl,lH (Aa.refl _ _)⟩
  case round=>
   obtain⟨k,b2,hkn,rfl,rfl,HD,N⟩:=hrel
   rename World=>w9
   have hk:=N.o;have HK9:=lH (HK8.o.trans hk);have T:=lH (aa.o.keeps hk bA);have af:=lH (am.o.keeps hk);have O:=lH (X.o.keeps hk bA);have ac:=lH (br.o.keeps hk);have U:=lH (ab.o.keeps hk bA);clear hk HK8 aa am X br ab;have cq:w9.cell? (A_ bc 0)=some (pF v.oa v.on v.oc):=T.o.cell 0;by_cases hlt:k<v.on
   ·obtain⟨ga,oa,z,ha,cw,hz,hat⟩:=af.o.o.at_k (k:=k) (by rw [af.o.on];exact hlt)
    have z0:=hat 0 _ rfl;rw [AT] at z0;rw [ha] at cq;have HZ:=lH hz;have i4:(0:Int)<=(k:Int):=bB;have i5:(k:Int)<(v.on:Int):=bB;have a4:v.on<=1000:=af.o.ol;have i6:wrap64 ((k:Int)+1)=(k:Int)+1:=IntWalk.wrap64_in _ ⟨by omega,by omega⟩;clear a4;have q0:w9.cell? (A_ bq 0)=some (Dz q.who):=O.o.cell 0;clear hat ha hz;go_wp2_with fail;cases b2 with
    | true=>
     have ag:=T.o.lt;have ai:=O.o.lt;have ah:=U.o.lt;try(rename ∀(a:Act) (w:World),_->_=>B;replace B:=AU.mk B)
     try(rename ∀(a:Act) (w:World),_->_=>D;replace D:=AU.mk D)
     iterate 4 (try(rename ∀(a:Act) (w:World),_->_=>F;replace F:=AU.mk F))
     refine wp_region_held_drew (S:=(Aa [] w9)) bC Td (fun hHeld=>?_);refine rK 0 ?_;refine rK 1 ?_;refine rN 2 ?_;refine rN 3 ?_;refine rN 4 ?_;refine rN 5 ?_;refine rN 6 ?_;refine rN 7 ?_;refine rN 8 ?_;refine rN 9 ?_;refine rN 10 ?_;refine rK 11 ?_;refine rK 12 ?_;refine wpAnyH_done bC ?_ _
     ((try replace D:=D.out);(try replace B:=B.out);go_wp2_with fail;go_roundw;(case rel=>exact⟨k+1,true,by omega,rfl,by go_num,lH (by rw [A0 HZ.o,List.any_append,HD.o];rfl),lH (N.o.trans hHeld)⟩);(case measure=>(first | exact Fu K3 K3 | (simp [intOf];omega))))
    | false=>
     by_cases hw:z.name=q.who
     ·have f6:(z.name.toList==q.who.toList)=true:=by rw [hw];simp
      have HW:=lH hw;clear hw;have ag:=T.o.lt;have ai:=O.o.lt;have ah:=U.o.lt;try(rename ∀(a:Act) (w:World),_->_=>B;replace B:=AU.mk B)
      try(rename ∀(a:Act) (w:World),_->_=>D;replace D:=AU.mk D)
      iterate 4 (try(rename ∀(a:Act) (w:World),_->_=>F;replace F:=AU.mk F))
      refine wp_region_held_drew (S:=(Aa [] w9)) bC Td (fun hHeld=>?_);refine rK 0 ?_;refine rK 1 ?_;refine rK 2 ?_;refine rK 3 ?_;refine rK 4 ?_;refine rK 5 ?_;refine rK 6 ?_;refine rK 7 ?_;refine rK 8 ?_;refine rK 9 ?_;refine rK 10 ?_;refine rK 11 ?_;refine rK 12 ?_;refine wpAnyH_done bC ?_ _
      ((try replace D:=D.out);(try replace B:=B.out);go_wp2_with fail;go_roundw;(case rel=>exact⟨k+1,true,by omega,rfl,by go_num,lH nW,lH (N.o.trans hHeld)⟩);(case measure=>(first | exact Fu K3 K3 | (simp [intOf];omega))))
     ·have f6:(z.name.toList==q.who.toList)=false:=NX hw
      have HW:=lH hw;clear hw;have ag:=T.o.lt;have ai:=O.o.lt;have ah:=U.o.lt;try(rename ∀(a:Act) (w:World),_->_=>B;replace B:=AU.mk B)
      try(rename ∀(a:Act) (w:World),_->_=>D;replace D:=AU.mk D)
      iterate 4 (try(rename ∀(a:Act) (w:World),_->_=>F;replace F:=AU.mk F))
      refine wp_region_held_drew (S:=(Aa [] w9)) bC Td (fun hHeld=>?_);refine rK 0 ?_;refine rK 1 ?_;refine rK 2 ?_;refine rK 3 ?_;refine rK 4 ?_;refine rK 5 ?_;refine rK 6 ?_;refine rK 7 ?_;refine rK 8 ?_;refine rK 9 ?_;refine rK 10 ?_;refine rK 11 ?_;refine rK 12 ?_;refine wpAnyH_done bC ?_ _
      ((try replace D:=D.out);(try replace B:=B.out);go_wp2_with fail;go_roundw;(case rel=>exact⟨k+1,false,by omega,rfl,by go_num,lH nW,lH (N.o.trans hHeld)⟩);(case measure=>(first | exact Fu K3 K3 | (simp [intOf];omega))))
   have i5:¬(k:Int)<(v.on:Int):=bB;have cp:Hi ((c.ops.any fun o=>decide (o.name=q.who))=b2):=lH (by have h:=HD.o;rw [Ak (by rw [af.o.on];omega)] at h;exact h);clear HD N hkn hlt;by_cases hkr:b=true\/b2=false
   ·have hd:d=c:=HL.o.2.1 trivial (by
     rcases hkr with h | h
     ·left;have hk:=ch.o;rw [h,List.any_eq_true] at hk;obtain⟨a,ha,hb⟩:=hk;simp only [Af,decide_eq_true_eq] at hb;exact⟨a,ha,hb⟩
     ·right;rintro⟨o,ho,hb⟩;have hk:=cp.o;rw [h,List.any_eq_false] at hk;exact hk o ho (by simpa using hb))
    have HG:=XV v Y c w9 af.o (hd▸ac.o);have rc:=(show Blk w9 bc 36 (C_ v) from T.o).rl;have cg:=lH (Blk.rng (cs:=(ctlA Y)) U.o 0 (ctlA Y) (fun j x hx=>by rw [AW];simpa using hx));clear hd;cases b with
    | true=>
     go_wp2_with (refine I7 36 _ bD bD bd 0 bD (ctlA Y) _ cg.o underlying36 rfl (AD _) ?_);refine HG.mono ?_;rintro r w' ⟨rfl,hk⟩;go_wp2_with fail;go_ret;exact⟨rfl,HK9.o.trans hk⟩
    | false=>
     obtain rfl:b2=false:=by rcases hkr with h | h;(· cases h);exact h
     go_wp2_with (refine I7 36 _ bD bD bd 0 bD (ctlA Y) _ cg.o underlying36 rfl (AD _) ?_);refine HG.mono ?_;rintro r w' ⟨rfl,hk⟩;go_wp2_with fail;go_ret;exact⟨rfl,HK9.o.trans hk⟩
   obtain rfl:b=false:=by cases b with | false=>rfl | true=>exact absurd (.inl rfl) hkr
   obtain rfl:b2=true:=by cases b2 with | true=>rfl | false=>exact absurd (.inr rfl) hkr
   have i9:=i5;clear hkr i5;obtain⟨h8,a3⟩:=HL.o.2.2 trivial (by rintro⟨a,ha,h1,h2⟩;have hk:=ch.o;rw [List.any_eq_false] at hk;exact hk a ha (by simp [h1,h2])) (by have hk:=cp.o;rw [List.any_eq_true] at hk;obtain⟨o,ho,hb⟩:=hk;exact⟨o,ho,by simpa using hb⟩);obtain⟨m,cx,b0,b1,b3⟩:=Jm h8 ⟨q.who,q.id,u⟩;rw [cx] at a3;obtain⟨j,hj⟩:=eX m.length;rw [hj] at b0 b1 b3;have b4:Y.dn=j+1:=by rw [<- ac.o.dn,a3,Al,hj];rfl
   have cy:v.dn=c.done.length:=af.o.dn.symm;obtain rfl:lst=(j:Int):=by have:=cj.o;rw [b4] at this;omega
   have HEQ:Hi (∀i,i<j->∃y,d.done[i]? = some y/\c.done[c.done.length - j+i]? = some y):=lH fun i hi=>by
    have bz:i<m.length:=by rw [hj];exact hi
    refine⟨m[i],?_,?_⟩
    ·rw [a3,List.getElem?_append_left bz,Aq bz]
    ·rw [<- List.getElem?_drop,<- b0]
     exact Aq bz
   have c1:Hi (d.done[j]? = some ⟨q.who,q.id,u⟩):=lH (by rw [a3,Ee bB,hj,Nat.sub_self];rfl);have HJN:=lH (Bl b4 (Bl cy (Bl b1 b3)));clear a3 cx b0 b1 b3 h8 hj b4 cy;obtain⟨ga,oa,z,ha,cw,hz,hat⟩:=ac.o.d.at_k (k:=j) (by rw [ac.o.dn,HJN.o.1];omega);obtain rfl:z=⟨q.who,q.id,u⟩:=by have h:=c1.o;rw [hz] at h;injection h
   have z0:=hat 0 (Dz q.who) rfl;have z1:=hat 1 (I_ q.id) rfl;have z2:=hat 2 (Dz u) rfl;rw [AT] at z0;have ae:w9.cell? (A_ bd 9)=some (pF Y.da Y.dn Y.dc):=U.o.cell 9;rw [ha] at ae;have q0:w9.cell? (A_ bq 0)=some (Dz q.who):=O.o.cell 0;have q1:w9.cell? (A_ bq 1)=some (I_ q.id):=O.o.cell 1;have i1:decide ((j:Int)<0)=false:=decide_eq_false bB;have i2:decide ((j:Int)>7)=false:=decide_eq_false (by have:=HJN.o.2.2.1;omega);have i4:(0:Int)<=(j:Int):=bB;have i5:(j:Int)<(Y.dn:Int):=by have:=HJN.o.1;omega
   have hgd:prog.eqGuardType prog.depth 73=false:=bC;have hne:=fun W=>Iz q.who q.who q.id q.id u u W;simp only [decide_true,Bool.not_true] at hne;clear hat ha hz;go_wp2_with fail;go_cut [151] (fun y wd=>y = pI false/\Hi (Aa [] w9 wd))
   case first=>
    have ag:=T.o.lt;have ai:=O.o.lt;have ah:=U.o.lt;try(rename ∀(a:Act) (w:World),_->_=>B;replace B:=AU.mk B)
    try(rename ∀(a:Act) (w:World),_->_=>D;replace D:=AU.mk D)
    iterate 4 (try(rename ∀(a:Act) (w:World),_->_=>F;replace F:=AU.mk F))
    refine wp_region_held_drew (S:=(Aa [] w9)) bC Td (fun hHeld=>?_);refine rK 0 ?_;refine rK 1 ?_;refine rK 2 ?_;refine rK 3 ?_;refine rK 4 ?_;refine rK 5 ?_;refine rK 6 ?_;refine rK 7 ?_;refine rK 8 ?_;refine rK 9 ?_;refine rK 10 ?_;refine rK 11 ?_;refine rK 12 ?_;refine rK 13 ?_;refine rK 14 ?_;refine rK 15 ?_;refine rK 16 ?_;refine rK 17 ?_;refine rK 18 ?_;refine rK 19 ?_;refine wpAnyH_done bC ?_ _
    ((try replace D:=D.out);(try replace B:=B.out);go_wp2_with fail;go_meet;exact⟨rfl,lH hHeld⟩)
   case rest=>
    obtain⟨rfl,HKD⟩:=hcut
    rename World=>w10
    have hk:=HKD.o;clear i1 i2 i5 z0 z1 z2 hne q0 q1 ae HKD;have bj:=lH (HK9.o.trans hk);have ap:=lH (T.o.keeps hk bA);have bm:=lH (af.o.keeps hk);have az:=lH (O.o.keeps hk bA);have a0:=lH (ac.o.keeps hk);have aw:=lH (U.o.keeps hk bA);clear hk HK9 T af O ac U;go_wp2_with fail;go_loopw [19] (fun b9 wr=>∃k:Nat,k<=j/\b9 = I_ k/\Hi (Aa [] w10 wr)) (fun b9 _=>j - (intOf b9).toNat)
    case atStart=>exact⟨0,Ba _,rfl,lH (Aa.refl _ _)⟩
    case round=>
     obtain⟨k,hkn,rfl,N⟩:=hrel
     rename World=>w11
     have hk:=N.o;have bl:=lH (bj.o.trans hk);have aq:=lH (ap.o.keeps hk bA);have bo:=lH (bm.o.keeps hk);have bt:=lH (az.o.keeps hk bA);have a1:=lH (a0.o.keeps hk);have ax:=lH (aw.o.keeps hk bA);clear hk bj ap bm az a0 aw;have ad:w11.cell? (A_ bc 9)=some (pF v.da v.dn v.dc):=aq.o.cell 9;have ae:w11.cell? (A_ bd 9)=some (pF Y.da Y.dn Y.dc):=ax.o.cell 9;by_cases hlt:k<j
     ·obtain⟨y,cz,a5⟩:=HEQ.o k hlt
      obtain⟨g1,o1,z1,cr,hg1,b5,hat1⟩:=a1.o.d.at_k (k:=k) (by rw [a1.o.dn,HJN.o.1];omega);obtain rfl:z1=y:=by rw [cz] at b5;injection b5 with h;exact h.symm
      obtain⟨r,hr⟩:=eX (c.done.length - j+k);rw [hr] at a5;obtain⟨g2,o2,z2,ct,hg2,b6,hat2⟩:=bo.o.d.at_k (k:=r) (Ad.1 a5).1;obtain rfl:z2=z1:=by rw [a5] at b6;injection b6 with h;exact h.symm
      have p0:=hat1 0 (Dz z2.who) rfl;have p1:=hat1 1 (I_ z2.id) rfl;have p2:=hat1 2 (Dz z2.text) rfl;rw [AT] at p0;have q0:=hat2 0 (Dz z2.who) rfl;have q1:=hat2 1 (I_ z2.id) rfl;have q2:=hat2 2 (Dz z2.text) rfl;rw [AT] at q0;rw [cr] at ae;rw [ct] at ad;have c8:r<v.dn:=by rw [HJN.o.2.1];exact(Ad.1 a5).1
      have c7:j<=v.dn:=by have h1:=HJN.o.2.1;rcases HJN.o.2.2.2 with h | h<;>omega
      have a4:v.dn<=900:=bo.o.dl;have e1:(v.dn:Int) - (j:Int)=((v.dn - j:Nat):Int):=bB;have e2:((v.dn - j:Nat):Int)+(k:Int)=(r:Int):=by rw [<- hr,<- HJN.o.2.1];omega
      have i1:IntKind.i64.wrap ((v.dn:Int) - (j:Int))=((v.dn - j:Nat):Int):=by rw [e1];exact IntWalk.i64_in _ ⟨by omega,by omega⟩
      have i2:IntKind.i64.wrap (((v.dn - j:Nat):Int)+(k:Int))=(r:Int):=by rw [e2];exact IntWalk.i64_in _ ⟨by omega,by omega⟩
      have i3:(0:Int)<=(r:Int):=bB;have i5:(r:Int)<(v.dn:Int):=bB;have i6:(0:Int)<=(k:Int):=bB;have i7:(k:Int)<(Y.dn:Int):=by have:=HJN.o.1;omega
      have i8:(k:Int)<(j:Int):=bB;have i9:wrap64 ((k:Int)+1)=(k:Int)+1:=IntWalk.wrap64_in _ ⟨by omega,by omega⟩;have hne:=fun W=>Iz z2.who z2.who z2.id z2.id z2.text z2.text W;simp only [decide_true,Bool.not_true] at hne;clear e1 e2 hat1 hat2 cr ct b5 b6 cz a5 hr c8 c7 a4;go_wp2_with fail;have ag:=aq.o.lt;have ai:=bt.o.lt;have ah:=ax.o.lt;try(rename ∀(a:Act) (w:World),_->_=>B;replace B:=AU.mk B)
      try(rename ∀(a:Act) (w:World),_->_=>D;replace D:=AU.mk D)
      iterate 4 (try(rename ∀(a:Act) (w:World),_->_=>F;replace F:=AU.mk F))
      refine wp_region_held_drew (S:=(Aa [] w11)) bC Td (fun hHeld=>?_);refine rK 0 ?_;refine rK 1 ?_;refine rK 2 ?_;refine rK 3 ?_;refine rK 4 ?_;refine rK 5 ?_;refine rK 6 ?_;refine rK 7 ?_;refine rK 8 ?_;refine rK 9 ?_;refine rK 10 ?_;refine rK 11 ?_;refine rK 12 ?_;refine rK 13 ?_;refine rK 14 ?_;refine rK 15 ?_;refine rK 16 ?_;refine wpAnyH_done bC ?_ _
      ((try replace D:=D.out);(try replace B:=B.out);go_wp2_with fail;go_roundw;(case rel=>exact⟨k+1,hlt,by go_num,lH (N.o.trans hHeld)⟩);(case measure=>(first | exact Fu K3 K3 | (simp [intOf];omega))))
     obtain rfl:k=j:=bB;have i8:¬(k:Int)<(k:Int):=bB;rcases HJN.o.2.2.2 with h | h
     ·have f3:((v.dn:Int)==(k:Int))=true:=by rw [HJN.o.2.1,h];simp
      clear h hkn hlt;go_wp2_with fail;go_ret;exact⟨rfl,bl.o⟩
     ·have f3:((v.dn:Int)==(k:Int))=false:=by rw [HJN.o.2.1,h.1,h.2];rfl
      have f4:((v.dn:Int)==8)=true:=by rw [HJN.o.2.1,h.1];rfl
      have f5:((k:Int)==7)=true:=by rw [h.2];rfl
      clear h hkn hlt;go_wp2_with fail;go_ret;exact⟨rfl,bl.o⟩
end
section
open Go.RowKit
namespace controlDone
open Go.ChangeShapes Go.WideShapes Go.ChangeAt
open Go.ChangeMaps (open_string)
theorem lifted(os:Os)(D:os.Started)(H:Type)(enc:TypeId×Value->H):
  ReturnsInHanded {} checked os 7 .any (fun w args=>(Rows.controlDoneSpec.pre enc prog f7 [] false w args/\laidMetH prog En w)/\sizedMet enc prog f7 (OpenSpec.ofChange Rows.controlDoneSpec) false w args)
   (Rows.controlDoneSpec.post enc prog f7 false true false false):=by
 refine FO (C:=checked) (X:=fun w _=>laidMetH prog En w) (fun _ _ _ hh h=>h.of_heap hh) own D bC func7
  (ChangeSpec.witness_shaped (enc:=enc) (C:=checked) (os:=os) (X:=fun w _=>laidMetH prog En w) false (World.doorLaid prog 400 os) #[.agg Hh.k,I_ 0,I_ 0,Dz Bh] 8 rfl (FT os _) (Qi _) (KK H enc _) (Qm H enc _) (Jh os _)) ?_
 intro W F args ds gs G E hW hL O;have B:∀(j:Nat) t v,f7.params[j]? = some t->args[j]? = some v->Value.okWide prog W .any F t v:=E;have M:=hW;obtain⟨p,q,J,hV,rfl,ai,ak⟩:=hW;have hA:DataW.TrodAll enc prog W 0 (fun _=>true) true f7.params.toList args.toList ds p:=J;rw [params7] at hA B;obtain⟨T,aq,d0,ae,p0,q0,N,rfl,rfl,h0,r0⟩:=trodAll_cons hA;obtain⟨U,ar,d1,af,p1,q1,rfl,rfl,rfl,h1,r1⟩:=trodAll_cons r0;obtain⟨v2,au,d2,ag,p2,q2,rfl,rfl,rfl,h2,r2⟩:=trodAll_cons r1;obtain⟨Y,av,d3,ah,p3,q3,rfl,rfl,rfl,h3,r3⟩:=trodAll_cons r2;obtain⟨rfl,rfl,rfl⟩:=trodAll_nil r3;obtain rfl:args=#[T,U,v2,Y]:=by cases args;simp_all
 obtain⟨rfl,rfl⟩:=trodVars_none hV;obtain⟨u0,c0,rfl,w0⟩:=Jp (B 0 36 T rfl rfl) h0;obtain⟨a1,rfl,rfl,rfl,w1⟩:=open_int underlying3 (B 1 3 U rfl rfl) h1;obtain⟨a2,rfl,rfl,rfl,w2⟩:=open_int underlying3 (B 2 3 v2 rfl rfl) h2;obtain⟨a3,rfl,rfl,rfl,w3⟩:=open_string underlying9 (B 3 9 Y rfl rfl) h3;refine(Ln u0 c0 a1 a2 a3 W w0 (KI hL O)).mono fun e W' ⟨he,hk⟩=>?_;subst he;exact⟨_,rfl,Jn JQ kL rfl rfl underlying4 M (hk.below (Aw _) bA) ⟨rfl,rfl,rfl⟩⟩
theorem Q2:Rows.controlDoneRow.holds Tryz.pinned (OpenSpec.ofChange Rows.controlDoneSpec):=
 OpenClaim.holds_of_wide 7 f7 rfl rfl rfl rfl rfl rfl rfl ⟨rfl,rfl,rfl,rfl,rfl⟩ rfl rfl rfl rfl rfl It func7 Iu
  (of_decide_eq_true bC) (by unfold Func.isWrapper;first | (rw [if_pos kL];kernel_rfl) | (rw [if_neg kL];exact⟨rfl,rfl⟩))
  (fun os started H enc _=>lifted os started H enc)
theorem proved:Rows.ControlDoneCardSaid:=
 Claim7.holds_tied_plain_at .later [] [.data,.data,.data,.handle,.sentinel,.sentinel,.sentinel,.sentinel,.sentinel,.sentinel,.sentinel,.sentinel,.data,.sentinel,.sentinel,.sentinel] true (true, "9d4973d1f79925bda66def5f531134a83d5180b9df96d65c859a6aae5ae06539") true
  Q2 (fun _ h=>by cases h) bC (fun _ h=>by cases h) controlDone_row_tie rfl ⟨rfl,rfl⟩ R6 rfl
  (fun f fn hf hfn=>by
   obtain rfl:f=7:=Option.some.inj (It.symm.trans hf) |>.symm;obtain rfl:fn=f7:=(Option.some.inj (func7.symm.trans hfn)).symm;exact⟨R3,fun j t ht=>by
    rw [params7] at ht;have hm:t∈[36,3,3,9]:=by simpa using Array.mem_of_getElem? ht
    have hall:([36,3,3,9].all fun u=>!prog.wantsStandIn u)=true:=bC;exact(show prog.wantsStandIn t=false by simpa using Bm.1 hall t hm)⟩)
  Qd
end controlDone
end
end Go.Proofs.YtjieiikpolahfaaGreatDoor
