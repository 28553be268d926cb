/- Steps of the proof: AclQ, RdrA, RdrB, RdrC, RdrD, RdrE, RdrF, CtB. -/
import Derived.Test.YtcjdkbgdahgjbaaGreatDoorK0
import Derived.Test.YtcjdkbgdahgjbaaGreatDoorKaf
import Derived.Test.YtcjdkbgdahgjbaaGreatDoorKan
import Derived.Test.YtcjdkbgdahgjbaaGreatDoorKap
import Derived.Test.YtcjdkbgdahgjbaaGreatDoorKar
import Derived.Test.YtcjdkbgdahgjbaaGreatDoorKaz
import Derived.Test.YtcjdkbgdahgjbaaGreatDoorKbb
import Derived.Test.YtcjdkbgdahgjbaaGreatDoorKbc
import Derived.Test.YtcjdkbgdahgjbaaGreatDoorKbe
import Derived.Deep.DeepCutAuto
set_option maxRecDepth 100000
set_option maxHeartbeats 8000000
set_option linter.all false
namespace Go.Proofs.YtcjdkbgdahgjbaaGreatDoor
open _root_.And renaming intro→AZ
open _root_.Array renaming getElem?_eq_some_iff→Aj,getElem?_setIfInBounds→AL,replicate_succ→Bc,replicate_zero→Bd
open _root_.Bool renaming and_eq_true→Af
open Ending renaming returned→dM
open Exit renaming noGoto_normal→AH
open Fence renaming wide→Ba
open Instr renaming findNow→AV,lookup→Dx,slice→AG
open IntKind renaming i64→dN
open Lib renaming toList_data→Ce
open _root_.List renaming all_eq_true→BB,append_toArray→B0,cons_append→A6,forall_mem_cons→Ay,getD_eq_getElem?_getD→AE,getElem?_eq_getElem→Au,getElem?_toArray→Ai,length_cons→Ao,length_nil→Eh,mem_cons_of_mem→Ci,mem_cons→Ac,nil_append→AX,not_mem_nil→Ab,push_toArray→By,range_succ→AY,range→A0,size_toArray→Cx,take_of_length_le→Ax,take_succ_eq_append_getElem→AR
open _root_.Nat renaming add_zero→CG,le_refl→Ap,zero_add→BI,zero_le→Cy
open Result renaming andThen→AI
open Value renaming agg→dK,bool→dL,int→dH,pointer→dJ,slice→dI,string→CZ
open World renaming block_lt_of_cell?→A4
section
open Go.RowKit Go.Shelf
attribute [local go_sem] Oper.semAt_some N5 N6 N3 N4
attribute [local go_sem ↓] Go.wp_at_zero Go.wp_at_succ
structure RD(E:Nat→Addr)(w:World):Prop where
 et:Et w
 tab:Gp w
 mx:Iq w
 snt:Ez w E
theorem RD.keeps{E:Nat→Addr}{w w':World}(h:RD E w)(hk:Aa [] w w'):RD E w':=⟨h.et.keeps hk bA,h.tab.keeps hk,h.mx.keeps hk,h.snt.keep hk⟩
theorem GR.ascii{l:List UInt8}(h:GR l):Dz l:=fun b hb=>by
 have:=(BB.1 h.2) b hb;unfold Cs at this;simp only [Af,decide_eq_true_eq] at this;omega
def Fj(r:EW×Int):Value:=.tuple #[dK (L_ r.1),dH dN r.2]
theorem F7{W:World}{b:Nat}(h:Blk W b 59 #[dL false,dH dN 0,dH dN 0,dH dN 0,dH dN 0])(v0 v1 v2 v3 v4:Value):
  Blk (((((W.setCell ⟨b,0,none⟩ v0).setCell ⟨b,1,none⟩ v1).setCell ⟨b,2,none⟩ v2).setCell ⟨b,3,none⟩ v3).setCell ⟨b,4,none⟩ v4) b 59 #[v0,v1,v2,v3,v4]∧
  Aa [b] W (((((W.setCell ⟨b,0,none⟩ v0).setCell ⟨b,1,none⟩ v1).setCell ⟨b,2,none⟩ v2).setCell ⟨b,3,none⟩ v3).setCell ⟨b,4,none⟩ v4):=
 ⟨((((h.set_ 0 v0).set_ 1 v1).set_ 2 v2).set_ 3 v3).set_ 4 v4,(((((Aa.refl [b] W).setCell (.inl bA) _).setCell (.inl bA) _).setCell (.inl bA) _).setCell (.inl bA) _).setCell (.inl bA) _⟩
theorem PI(s:ByteArray)(hs:s.size≤1000000)(w:World)(E:Nat→Addr)(hE:RD E w):
  Calls Tryz.prog 172 #[CZ s] w fun e w'=>e = dM (Fj (L4 s.data.toList))∧Aa [] w w':=by
 obtain⟨w0,hw0⟩:=eX (w.alloc (.cells #[dL false,dH dN 0,dH dN 0,dH dN 0,dH dN 0] 59));have HK0:Hid (Aa [] w w0):=lH Zr;have HB0:Hid (Blk w0 w.heap.size 59 #[dL false,dH dN 0,dH dN 0,dH dN 0,dH dN 0]):=lH Y9;have HE:Hid (∀W,Aa [] w W→RD E W):=lH fun W hW=>hE.keeps hW;have HSP:=Ht s hs w0 (HE.out w0 HK0.out).et;obtain⟨V,hV⟩:=eX (L4 s.data.toList);rw [hV];unfold L4 at hV;unfold Ir at HSP;clear hE;cases hsp:BG s.data.toList with
 | error k=>
  rw [hsp] at HSP hV;have HN:Hid (V=(Hn,80)):=lH hV.symm;have hk0:(k != 0)=true:=by simpa using Ic hsp
  clear hV hsp;simp only [] at HSP;go_enter Tryz.func172,Tryz.ntmps172;go_wp2_with (fail);refine HSP.mono ?_;rintro x w1 ⟨rfl,hk1⟩;have HK1:=lH (HK0.out.trans hk1);have HB1:=lH (HB0.out.keeps hk1 bA);have q1:=HB1.out.rl;have e1:=(HE.out w1 HK1.out).snt.cell 2 bA;clear hk1 hw0;go_wp2_with (fail);refine(Dd w1 (HE.out w1 HK1.out).snt).mono ?_;rintro e w2 ⟨rfl,rfl⟩;go_wp2_with (fail);obtain⟨f,kf⟩:=F7 HB1.out (dL false) (dH dN 0) (dH dN 0) (dH dN 0) (dH dN 0);have f5:=f.cell;refine bodyPost_ret (v:=Fj V) (by rw [HN.out];simp [results,Tryz.results172,go_sem,f5,Fj,Hn]) rfl ⟨rfl,?_⟩;exact HK1.out.own kf bF
 | ok l=>
  rw [hsp] at HSP hV;have hgw:=LF hsp;clear hsp;simp only [] at HSP;obtain⟨n,hn⟩:=eX (l.length);have HL:=lH hn;rw [hn] at HSP;by_cases h3:n=3
  ·subst h3
   match l,hn with
   | [a,b,c],_=>
    have ha:=hgw a bA;have hb:=hgw b bA;have hc:=hgw c bA;have HPB:=lH (fun W (hW:Aa [] w W)=>JA (CB b) (by show b.toArray.size≤1000;have:=hb.1;simp;omega) hb.ascii W (HE.out W hW).tab (HE.out W hW).mx);have HPC:=lH (fun W (hW:Aa [] w W)=>Q9 (CB c) (by show c.toArray.size≤1000;have:=hc.1;simp;omega) hc.ascii W (HE.out W hW).tab (HE.out W hW).mx E (HE.out W hW).snt);rw [show(CB b).data.toList=b from rfl] at HPB;rw [show(CB c).data.toList=c from rfl] at HPC;simp only [] at hV;obtain⟨p1,p2,pe,hp⟩:∃p1 p2 pe,E0 b=((p1,p2),pe):=⟨_,_,_,rfl⟩;obtain⟨f,t,fe,hf⟩:∃p1 p2 pe,Ef c=((p1,p2),pe):=⟨_,_,_,rfl⟩;rw [hp] at HPB hV;rw [hf] at HPC hV;simp only [] at HPB HPC hV;obtain⟨al,hal⟩:=eX ((a==Nh));rw [hal] at hV;obtain⟨r,hr⟩:∃r:EW,(⟨al,p1,p2,f,t⟩:EW)=r:=⟨_,rfl⟩;rw [hr] at hV;obtain⟨v,re,hv⟩:∃v re,F6 r=(v,re):=⟨_,_,rfl⟩;rw [hv] at hV;have HPR:=lH (fun W (hW:Aa [] w W)=>PJ r W (HE.out W hW).tab E (HE.out W hW).snt);rw [hv,← hr] at HPR;simp only [] at HPR hV;have HV:=lH hV;have HR:=lH hr;have HAL:Hid (((CB a).toList==[97,108,108,111,119])=al):=lH (by rw [← hal,Ce];rfl);clear hV hr hv hal hp hf ha hb hc hgw;go_enter Tryz.func172,Tryz.ntmps172;go_wp2_with (fail);refine HSP.mono ?_;rintro x w1 ⟨sa,sc,rfl,hm,hk1⟩;obtain⟨g,off,rfl,hg,hc⟩:=hm.at_ bA;have c0:=hc 0 bA 0 (CZ (CB a)) rfl;have c1:=hc 1 bA 0 (CZ (CB b)) rfl;have c2:=hc 2 bA 0 (CZ (CB c)) rfl;simp only [Nat.zero_mul,CG,Nat.one_mul,Nat.mul_one] at c0 c1 c2;have HK1:=lH (HK0.out.trans hk1);have HB1:=lH (HB0.out.keeps hk1 bA);have q1:=HB1.out.rl;clear hk1 hw0 hc hm HSP;go_wp2_with (fail);refine(HPB.out w1 HK1.out).mono ?_;rintro e w2 ⟨rfl,hk2⟩;obtain⟨w3,hw3⟩:=eX (w2.alloc (.cells #[dH dN p1,dH dN p2] 55));have HP3:Hid (Blk w3 w2.heap.size 55 #[dH dN p1,dH dN p2]):=lH (by rw [← hw3];exact Blk.new _ _ _);have HK3:Hid (Aa [] w1 w3):=lH (by rw [← hw3];exact hk2.alloc _);have r3:=HK3.out.rl;clear hk2;go_wp2_with (fail);clear hw3;refine(HPC.out w3 (HK1.out.trans HK3.out)).mono ?_;rintro e w4 ⟨rfl,hk4⟩;obtain⟨w5,hw5⟩:=eX (w4.alloc (.cells #[dH dN f,dH dN t] 57));have HQ5:Hid (Blk w5 w4.heap.size 57 #[dH dN f,dH dN t]):=lH (by rw [← hw5];exact Blk.new _ _ _);have HP5:Hid (Blk w5 w2.heap.size 55 #[dH dN p1,dH dN p2]):=lH (by rw [← hw5];exact(HP3.out.keeps hk4 bA).alloc _);have HK5:Hid (Aa [] w1 w5):=lH (by rw [← hw5];exact(HK3.out.trans hk4).alloc _);have r5:=HK5.out.rl;have s5:=HQ5.out.rl;have t5:=HP5.out.rl;clear hk4 r3;go_upto_region 6 with(fail)
    clear hw5;have hal2:=HAL.out;go_region;clear hal2;obtain⟨w6,hw6⟩:=eX ((w5.alloc (.cells #[dL al,dH dN p1,dH dN p2,dH dN f,dH dN t] 59)).drew);have HR6:Hid (Blk w6 w5.heap.size 59 #[dL al,dH dN p1,dH dN p2,dH dN f,dH dN t]):=lH (by rw [← hw6];exact(Blk.new w5 _ _).drew);have HK6:Hid (Aa [] w1 w6):=lH (by rw [← hw6];exact(HK5.out.alloc _).drew);have r6:=HR6.out.rl;clear r5 s5 t5;go_wp2_with (fail);clear hw6;refine(HPR.out w6 (HK1.out.trans HK6.out)).mono ?_;rintro e w7 ⟨rfl,hk7⟩;have HK7:=lH (HK1.out.trans (HK6.out.trans hk7));have HB7:=lH (HB1.out.keeps (HK6.out.trans hk7) bA);have HR7:=lH (HR6.out.keeps hk7 bA);have r7:=HR7.out.rl;have q7:=HB7.out.rl;clear hk7 r6 q1 c0 c1 c2;obtain⟨b1,hb1⟩:=eX ((pe != 0));obtain⟨b2,hb2⟩:=eX ((fe != 0));obtain⟨b3,hb3⟩:=eX ((re != 0));obtain⟨x,hx⟩:=eX (str v);rw [hx];obtain⟨d,hd⟩:=eX ((x.toList==s.toList));have HC:Hid (V=if b1=false∧b2=false∧b3=false∧d=true then(r,0) else(Hn,80)):=lH (by
     rw [← HV.out,← hb1,← hb2,← hb3,← hd,← hx,Ce,Ce];simp [str])
    have HHR:=lH HR.out;clear hx;cases b1 with
    | true=>
     have HN:Hid (V=(Hn,80)):=lH YF;have e1:=(HE.out w7 HK7.out).snt.cell 2 bA;go_wp2_with (fail);refine(Dd w7 (HE.out w7 HK7.out).snt).mono ?_;rintro e w9 ⟨rfl,rfl⟩;go_wp2_with (fail);obtain⟨f,kf⟩:=F7 HB7.out (dL false) (dH dN 0) (dH dN 0) (dH dN 0) (dH dN 0);have f5:=f.cell;refine bodyPost_ret (v:=Fj V) (by rw [HN.out];simp [results,Tryz.results172,go_sem,f5,Fj,Hn]) rfl ⟨rfl,?_⟩;exact HK7.out.own kf bF
    | false=>
     cases b2 with
     | true=>
      have HN:Hid (V=(Hn,80)):=lH YF;have e1:=(HE.out w7 HK7.out).snt.cell 2 bA;go_wp2_with (fail);refine(Dd w7 (HE.out w7 HK7.out).snt).mono ?_;rintro e w9 ⟨rfl,rfl⟩;go_wp2_with (fail);obtain⟨f,kf⟩:=F7 HB7.out (dL false) (dH dN 0) (dH dN 0) (dH dN 0) (dH dN 0);have f5:=f.cell;refine bodyPost_ret (v:=Fj V) (by rw [HN.out];simp [results,Tryz.results172,go_sem,f5,Fj,Hn]) rfl ⟨rfl,?_⟩;exact HK7.out.own kf bF
     | false=>
      cases b3 with
      | true=>
       have HN:Hid (V=(Hn,80)):=lH YF;have e1:=(HE.out w7 HK7.out).snt.cell 2 bA;go_wp2_with (fail);refine(Dd w7 (HE.out w7 HK7.out).snt).mono ?_;rintro e w9 ⟨rfl,rfl⟩;go_wp2_with (fail);obtain⟨f,kf⟩:=F7 HB7.out (dL false) (dH dN 0) (dH dN 0) (dH dN 0) (dH dN 0);have f5:=f.cell;refine bodyPost_ret (v:=Fj V) (by rw [HN.out];simp [results,Tryz.results172,go_sem,f5,Fj,Hn]) rfl ⟨rfl,?_⟩;exact HK7.out.own kf bF
      | false=>
       cases d with
       | false=>
        have HN:Hid (V=(Hn,80)):=lH YF;have e1:=(HE.out w7 HK7.out).snt.cell 2 bA;go_wp2_with (fail);refine(Dd w7 (HE.out w7 HK7.out).snt).mono ?_;rintro e w9 ⟨rfl,rfl⟩;go_wp2_with (fail);obtain⟨f,kf⟩:=F7 HB7.out (dL false) (dH dN 0) (dH dN 0) (dH dN 0) (dH dN 0);have f5:=f.cell;refine bodyPost_ret (v:=Fj V) (by rw [HN.out];simp [results,Tryz.results172,go_sem,f5,Fj,Hn]) rfl ⟨rfl,?_⟩;exact HK7.out.own kf bF
       | true=>
        have HN:Hid (V=(r,0)):=lH YF;go_wp2_with (fail);obtain⟨f,kf⟩:=F7 HB7.out (dL al) (dH dN p1) (dH dN p2) (dH dN f) (dH dN t);have f5:=f.cell;refine bodyPost_ret (v:=Fj V) (by rw [HN.out,← HR.out];simp [results,Tryz.results172,go_sem,f5,Fj]) rfl ⟨rfl,?_⟩;exact HK7.out.own kf bF
  ·have HN:Hid (V=(Hn,80)):=lH (by
    rw [← hV]
    match l,hn,h3 with
    | [],_,_=>rfl
    | [_],_,_=>rfl
    | [_,_],_,_=>rfl
    | [_,_,_],h,h3=>exact absurd h.symm (by simpa using h3)
    | _::_::_::_::_,_,_=>rfl)
   have f1:((n:Int) != 3)=true:=by simp;omega
   clear hV hgw;go_enter Tryz.func172,Tryz.ntmps172;go_wp2_with (fail);refine HSP.mono ?_;rintro x w1 ⟨sa,sc,rfl,hm,hk1⟩;have HK1:=lH (HK0.out.trans hk1);have HB1:=lH (HB0.out.keeps hk1 bA);have q1:=HB1.out.rl;clear hk1 hw0 hm;have e1:=(HE.out w1 HK1.out).snt.cell 2 bA;go_wp2_with (fail);refine(Dd w1 (HE.out w1 HK1.out).snt).mono ?_;rintro e w9 ⟨rfl,rfl⟩;go_wp2_with (fail);obtain⟨f,kf⟩:=F7 HB1.out (dL false) (dH dN 0) (dH dN 0) (dH dN 0) (dH dN 0);have f5:=f.cell;refine bodyPost_ret (v:=Fj V) (by rw [HN.out];simp [results,Tryz.results172,go_sem,f5,Fj,Hn]) rfl ⟨rfl,?_⟩;exact HK1.out.own kf bF
def RG(w:World):Prop:=(∃ev,w.cell? ⟨3,0,none⟩=some ev∧(ev = .nilIface∨∃te pe,ev = .iface te pe))∧(∃ev,w.cell? ⟨4,0,none⟩=some ev∧(ev = .nilIface∨∃te pe,ev = .iface te pe))
theorem RG.keeps{w w':World}(h:RG w)(hk:Aa [] w w'):RG w':=by
 obtain⟨⟨e,h1,h2⟩,⟨f,h3,h4⟩⟩:=h;exact⟨⟨e,(hk.cell (p:=⟨3,0,none⟩) (A4 w _ h1) bA).trans h1,h2⟩,⟨f,(hk.cell (p:=⟨4,0,none⟩) (A4 w _ h3) bA).trans h3,h4⟩⟩
structure RE(E:Nat→Addr)(w:World):Prop where
 a:RD E w
 es:RG w
theorem RE.keeps{E:Nat→Addr}{w w':World}(h:RE E w)(hk:Aa [] w w'):RE E w':=⟨h.a.keeps hk,h.es.keeps hk⟩
theorem TQ(s:ByteArray)(hs:s.size≤1000)(w:World)(hX:RG w):Calls Tryz.prog 107 #[CZ s] w fun e w'=>∃n ev,e = dM (.tuple #[dH dN n,ev])∧((Lib.atoiAll s.data.toList = .ok n∧ev = .nilIface)∨((∀m,Lib.atoiAll s.data.toList≠.ok m)∧∃t p,ev = .iface t p))∧Aa [] w w':=by
 obtain⟨⟨ev,h1,h2⟩,⟨fv,h3,h4⟩⟩:=hX;cases hR:Lib.atoiAll s.data.toList with
 | ok v=>
  refine(Tryz.strconv_Atoi_ok s bB v hR w).mono ?_;rintro e w' ⟨rfl,h⟩;refine⟨v,.nilIface,rfl,.inl ⟨rfl,rfl⟩,?_⟩;rcases h with rfl | ⟨t,rfl⟩
  ·exact Aa.refl [] _
  ·exact Aa.of_below (Joins.below_bytesWorld w.heap.size w 5 t (Ap _)) []
 | range=>
  refine(Tryz.strconv_Atoi_range s bB hR fv w h3 h4).mono ?_;rintro e w' ⟨N,rfl,_,_,hb⟩;exact⟨_,_,rfl,.inr ⟨(fun m h=>by cases h),_,_,rfl⟩,Aa.of_below hb []⟩
 | _=>
  refine(Tryz.strconv_Atoi_syntax s bB hR ev w h1 h2).mono ?_;rintro e w' ⟨N,rfl,_,_,hb⟩;exact⟨_,_,rfl,.inr ⟨(fun m h=>by cases h),_,_,rfl⟩,Aa.of_below hb []⟩
def Kl(q:PC)(l e:Value):Array Value:=#[CZ q.who,dH dN q.id,dH dN q.com.verb,CZ q.com.name,dH dN q.com.want,dH dN q.com.at_,dL q.com.rule.allow,dH dN q.com.rule.addr,dH dN q.com.rule.bits,dH dN q.com.rule.from_,dH dN q.com.rule.to_,CZ q.com.key,dH dN q.com.n,dH dN q.com.m,dH dN q.count,dH dN q.cursor,dH dN q.from_,l,e]
def Gs(b:Bool):Value:=if b then .iface 146 (dK #[dH dN 193]) else .nilIface
def BQ(w:World)(rb:Nat)(p:Pr):Prop:=∃a c,Blk w rb 134 (Kl p.q (dI a p.l.length c) (Gs p.bad))∧IF w a c p.l∧(0<p.l.length→∀g o,a=some ⟨g,o,none⟩→g≠rb)∧(∀s∈p.l,s.size≤64∧GR s.data.toList)
theorem Kr:Jw Tryz.prog 41 9 1 (CZ ⟨#[]⟩):=⟨by kernel_rfl,by kernel_rfl,by kernel_rfl,fun W=>by kernel_rfl,fun W=>by kernel_rfl,by kernel_rfl,by intro u hu;simp [Value.cells] at hu;subst hu;rfl⟩
theorem EI(rb:Nat)(p:Pr)(w:World)(h:BQ w rb p):Calls Tryz.prog 50 #[dJ (some ⟨rb,0,none⟩)] w fun e w'=>e = dM (CZ p.next.1)∧BQ w' rb p.next.2∧Aa [rb] w w':=by
 obtain⟨a,c,hb,hl,hne,hg⟩:=h;have q:=hb.rl;simp only [Kl] at q;cases hp:p.l with
 | nil=>
  have HN:Hid (p.next=(⟨#[]⟩,{ p with bad:=true })):=lH (by unfold Pr.next;rw [hp]);rw [hp] at q;have HF:Hid (BQ (w.setCell ⟨rb,18,none⟩ (Gs true)) rb { p with bad:=true }):=lH ⟨a,c,hb.set_ 18 _,hl.keepsN (Ae w rb 18 _) (fun h0 g o e=>by simpa using hne h0 g o e),hne,hg⟩;have HK:=lH (Ae w rb 18 (Gs true));simp only [Gs,if_true] at HF HK;clear hb hl hne hg;go_enter Tryz.func50,Tryz.ntmps50;go_wp2_with (fail);go_ret;exact⟨by rw [HN.out];rfl,by rw [HN.out];exact HF.out,HK.out⟩
 | cons s l=>
  have HN:Hid (p.next=(s,{ p with l:=l })):=lH (by unfold Pr.next;rw [hp]);rw [hp] at hl hg q hb;obtain⟨g,off,rfl,hlt,hc⟩:=hl.at_ bA;have c0:=hc 0 bA 0 (CZ s) rfl;simp only [Nat.zero_mul,CG] at c0;obtain⟨ra,rc,hrun,hdl⟩:=AJ.drop_run Kr (fun W=>by kernel_rfl) hl 1 bA;obtain⟨n,hn⟩:=eX (l.length);rw [show(s::l).length=n+1 by rw [Ao,hn]] at hrun q hb;rw [show n+1 - 1=n by omega] at hrun;have hrun1:∀W,(AG 41 (dI (some ⟨g,off,none⟩) (n+1) c) (some (dH dN 1)) none none).run Tryz.prog W = .ok (dI ra n rc) W:=hrun;have hra:∀g' o,ra=some ⟨g',o,none⟩→g'≠rb:=by
   intro g' o e;have hh:=run_slice_l (P:=Tryz.prog) w 41 (some ⟨g,off,none⟩) (n+1) c Kr.ht' .i64 1 bB bB;rw [hrun1 w,Kr.el,Kr.sz] at hh;simp only [sliced,AI] at hh;injection hh with hh
   injection hh with hh
   rw [e] at hh;have hgr:=hne (by rw [hp];simp) g off rfl;split at hh
   ·injection hh with hh;injection hh with hh;rw [hh];exact hgr
   ·simp only [Option.map_some,Bn] at hh
    injection hh with hh;injection hh with hh;rw [hh];exact hgr
  have HF:Hid (BQ (w.setCell ⟨rb,17,none⟩ (dI ra n rc)) rb { p with l:=l }):=lH ⟨ra,rc,by rw [hn];exact hb.set_ 17 _,hdl.keepsN (Ae w rb 17 _) (fun _ g o e=>by simpa using hra g o e),fun _=>hra,fun x hx=>hg x (Ci _ hx)⟩;have HK:=lH (Ae w rb 17 (dI ra n rc));have i1:(((n+1:Nat):Int)==0)=false:=by simp;omega
  have i2:(0:Int)<((n+1:Nat):Int):=by omega
  clear hb hl hne hg hc hdl hra hrun hlt hn;go_enter Tryz.func50,Tryz.ntmps50;go_wp2_with (fail);go_ret;exact⟨by rw [HN.out];rfl,by rw [HN.out];exact HF.out,HK.out⟩
theorem Wh{l:List UInt8}{n:Int}(h:Lib.atoiAll l = .ok n): -9223372036854775808≤n∧n≤9223372036854775807:=by
 unfold Lib.atoiAll at h;split at h
 ·cases h
 ·simp only [] at h
  split at h
  ·cases h
  ·cases h
  ·rename_i u hu
   split at h
   ·cases h
   ·split at h
    ·cases h
    ·injection h with h
     subst h;split<;>omega
structure Bs(E:Nat→Addr)(v w:World)(rb:Nat):Prop where
 kw:Aa [] v w
 ge:v.heap.size≤rb
 env:RE E v
theorem Bs.go{E:Nat→Addr}{v w w':World}{rb:Nat}(h:Bs E v w rb)(hk:Aa [rb] w w'):Bs E v w' rb:=⟨h.kw.own hk (fun y hy=>by simp only [Ac,Ab,or_false] at hy;have:=h.ge;omega),h.ge,h.env⟩
theorem Bs.en{E:Nat→Addr}{v w:World}{rb:Nat}(h:Bs E v w rb):RE E w:=h.env.keeps h.kw
theorem BQ.keep{w w':World}{rb:Nat}{p:Pr}(h:BQ w rb p)(hk:Aa [] w w'):BQ w' rb p:=by
 obtain⟨a,c,h1,h2,h3,h4⟩:=h;exact⟨a,c,h1.keeps hk bA,h2.keeps hk,h3,h4⟩
theorem MD{w:World}{rb:Nat}{p:Pr}(h:BQ w rb p):p.next.1.size≤64∧GR p.next.1.data.toList:=by
 obtain⟨a,c,_,_,_,h4⟩:=h;unfold Pr.next;cases hp:p.l with
 | nil=>exact⟨by show(0:Nat)≤64;omega,by show GR [];exact⟨by simp,rfl⟩⟩
 | cons s l=>exact h4 s (by rw [hp];simp)
theorem BQ.bad{w:World}{rb:Nat}{p:Pr}(h:BQ w rb p):BQ (w.setCell ⟨rb,18,none⟩ (Gs true)) rb { p with bad:=true }:=by
 obtain⟨a,c,hb,hl,hne,hg⟩:=h;exact⟨a,c,hb.set_ 18 _,hl.keepsN (Ae w rb 18 _) (fun h0 g o e=>by simpa using hne h0 g o e),hne,hg⟩
theorem BQ.rl{w:World}{rb:Nat}{p:Pr}(h:BQ w rb p):∃a c,(∀i,w.cell? ⟨rb,i,none⟩=(Kl p.q (dI a p.l.length c) (Gs p.bad))[i]?)∧(∀i,w.frozen? ⟨rb,i,none⟩=false)∧rb<w.heap.size:=by
 obtain⟨a,c,hb,_⟩:=h;exact⟨a,c,hb.rl⟩
theorem FJ(E:Nat→Addr)(v:World)(rb:Nat)(p:Pr)(least most:Int)(w:World)(hB:Bs E v w rb)(h:BQ w rb p):Calls Tryz.prog 51 #[dJ (some ⟨rb,0,none⟩),dH dN least,dH dN most] w fun e w'=>e = dM (dH dN (p.number least most).1)∧BQ w' rb (p.number least most).2∧Aa [rb] w w':=by
 have HNX:=EI rb p w h;have hgd:=MD h;obtain⟨s,p2,hp⟩:∃s p2,p.next=(s,p2):=⟨_,_,rfl⟩;obtain⟨V,hV⟩:=eX (p.number least most);rw [hV];unfold Pr.number at hV;rw [hp] at HNX hgd hV;simp only [] at HNX hgd hV;have HB:=lH hB;obtain⟨R,hR⟩:=eX (Mg s least most);rw [hR] at hV;have HV:=lH hV;have HR:=lH hR;clear hp h hB hV hR;go_enter Tryz.func51,Tryz.ntmps51;go_wp2_with (fail)
 with_reducible refine HNX.mono ?_
 rintro e w1 ⟨rfl,hr1,hk1⟩;have HB1:=lH (HB.out.go hk1);have HAT:=TQ s bB w1 HB1.out.en.es;have HK1:=lH hk1;have HR1:=lH hr1;clear hk1 hr1;go_wp2_with (fail)
 with_reducible refine HAT.mono ?_
 rintro e w2 ⟨n,ev,rfl,hn,hk2⟩;have HB2:=lH (HB1.out.go (hk2.mono bA));have HK2:=lH (HK1.out.trans (hk2.mono bA));have HR2:=lH (HR1.out.keep hk2);clear hk2;obtain⟨a,c,q⟩:=HR2.out.rl;simp only [Kl] at q;have HBAD:=HR2.out.bad;have HKB:=HK2.out.trans (Ae w2 rb 18 (Gs true));simp only [Gs,if_true] at HBAD HKB;have HBAD:=lH HBAD;have HKB:=lH HKB;rcases hn with⟨hok,rfl⟩ | ⟨hno,t,q2,rfl⟩
 ·have hin:=Wh hok
  have HIT:=F0 n hin.1 hin.2 w2 HB2.out.en.a.tab;obtain⟨x,hx⟩:=eX (AU n);rw [hx] at HIT;obtain⟨d,hd⟩:=eX ((x.toList==s.toList));have HD:Hid (decide (str (itoaL n)=s)=d):=lH (by
   rw [← hd,← hx,Ce,Ce,Bool.eq_iff_iff,decide_eq_true_iff,beq_iff_eq];constructor
   ·intro h;rw [← h];rfl
   ·intro h;apply ByteArray.ext;show(itoaL n).toArray=s.data;rw [← DM (itoaL n)];rw [show(str (itoaL n)).data.toList=s.data.toList from h])
  have HOK:=lH hok;clear hok hx;go_wp2_with (fail)
  with_reducible refine HIT.mono ?_
  rintro e w3 ⟨rfl,hk3⟩;have HK3:=lH (HK2.out.trans (hk3.mono bA));have HR3:=lH (HR2.out.keep hk3);obtain⟨a3,c3,q3⟩:=HR3.out.rl;simp only [Kl] at q3;have HBAD3:=HR3.out.bad;have HKB3:=HK3.out.trans (Ae w3 rb 18 (Gs true));simp only [Gs,if_true] at HBAD3 HKB3;have HBAD3:=lH HBAD3;have HKB3:=lH HKB3;clear hk3 q HBAD HKB;by_cases hgood:d=true∧least≤n∧n≤most
  ·obtain⟨rfl,h1,h2⟩:=hgood
   have HN:Hid (V=(n,p2)):=lH (by
    have:R=some n:=by
     rw [← HR.out];unfold Mg;rw [HOK.out];simp only [];rw [if_pos ⟨of_decide_eq_true HD.out,h1,h2⟩]
    rw [← HV.out,this])
   have f1:¬n<least:=by omega
   have f2:¬most<n:=by omega
   clear h1 h2;go_wp2_with (fail);go_ret;exact⟨by rw [HN.out];rfl,by rw [HN.out];exact HR3.out,HK3.out⟩
  ·have HN:Hid (V=(0,{ p2 with bad:=true })):=lH (by
    have:R=none:=by
     rw [← HR.out];unfold Mg;rw [HOK.out];simp only [];rw [if_neg];rintro⟨h1,h2,h3⟩;exact hgood ⟨by rw [← HD.out];exact decide_eq_true h1,h2,h3⟩
    rw [← HV.out,this])
   have hb3:d=false∨(d=true∧n<least)∨(d=true∧¬n<least∧most<n):=by
    cases d
    ·exact .inl rfl
    ·right
     by_cases h:n<least
     ·exact .inl ⟨rfl,h⟩
     ·refine .inr ⟨rfl,h,?_⟩
      by_cases h2:most<n
      ·exact h2
      ·exact absurd ⟨rfl,by omega,by omega⟩ hgood
   clear hgood;rcases hb3 with rfl | ⟨rfl,f1⟩ | ⟨rfl,f1,f2⟩
   all_goals
    go_wp2_with (fail);go_ret;exact⟨by rw [HN.out];rfl,by rw [HN.out];exact HBAD3.out,HKB3.out⟩
 ·have HN:Hid (V=(0,{ p2 with bad:=true })):=lH (by
   have:R=none:=by
    rw [← HR.out];unfold Mg;split
    ·rename_i m hm;exact absurd hm (hno m)
    ·rfl
   rw [← HV.out,this])
  clear hno;go_wp2_with (fail);go_ret;exact⟨by rw [HN.out];rfl,by rw [HN.out];exact HBAD.out,HKB.out⟩
theorem Hk(E:Nat→Addr)(v:World)(rb:Nat)(p:Pr)(w:World)(hB:Bs E v w rb)(h:BQ w rb p):Calls Tryz.prog 171 #[dJ (some ⟨rb,0,none⟩)] w fun e w'=>e = dM (dH dN p.any.1)∧BQ w' rb p.any.2∧Aa [rb] w w':=by
 have HN:=FJ E v rb p 0 1000000000000 w hB h;clear h hB;go_enter Tryz.func171,Tryz.ntmps171;go_wp2_with (fail)
 with_reducible refine HN.mono ?_
 rintro e w1 ⟨rfl,h1,h2⟩;have H:=lH (AZ h1 h2);clear h1 h2;go_wp2_with (fail);go_ret;exact⟨rfl,H.out.1,H.out.2⟩
theorem BQ.set{w:World}{rb:Nat}{p:Pr}(h:BQ w rb p)(i:Nat)(u:Value)(q:PC)(hq:∀l e,(Kl p.q l e).setIfInBounds i u=Kl q l e):BQ (w.setCell ⟨rb,i,none⟩ u) rb { p with q:=q }:=by
 obtain⟨a,c,hb,hl,hne,hg⟩:=h;refine⟨a,c,?_,hl.keepsN (Ae w rb i u) (fun h0 g o e=>by simpa using hne h0 g o e),hne,hg⟩;have:=hb.set_ i u
 rwa [hq] at this
theorem SW(E:Nat→Addr)(v:World)(rb:Nat)(p:Pr)(w:World)(hB:Bs E v w rb)(h:BQ w rb p):Calls Tryz.prog 111 #[dJ (some ⟨rb,0,none⟩)] w fun e w'=>e = dM (.tuple #[])∧BQ w' rb p.name∧Aa [rb] w w':=by
 have HN:=EI rb p w h;obtain⟨s,p2,hp⟩:∃s p2,p.next=(s,p2):=⟨_,_,rfl⟩;have HV:Hid (p.name = { p2 with q:={ p2.q with com:={ p2.q.com with name:=s } } }):=lH (by unfold Pr.name;rw [hp];rfl);rw [hp] at HN;simp only [] at HN;clear h hB hp;go_enter Tryz.func111,Tryz.ntmps111;go_wp2_with (fail)
 with_reducible refine HN.mono ?_
 rintro e w1 ⟨rfl,h1,h2⟩;obtain⟨a,c,q⟩:=h1.rl;simp only [Kl] at q;have HF:=lH (h1.set 3 (CZ s) { p2.q with com:={ p2.q.com with name:=s } } (fun _ _=>rfl));have HK:=lH (h2.trans (Ae w1 rb 3 (CZ s)));clear h1 h2;go_wp2_with (fail)
 go_end0
 exact⟨rfl,by rw [HV.out];exact HF.out,HK.out⟩
theorem Ta(E:Nat→Addr)(v:World)(rb:Nat)(p:Pr)(w:World)(hB:Bs E v w rb)(h:BQ w rb p):Calls Tryz.prog 112 #[dJ (some ⟨rb,0,none⟩)] w fun e w'=>e = dM (.tuple #[])∧BQ w' rb p.want∧Aa [rb] w w':=by
 have HN:=Hk E v rb p w hB h;obtain⟨s,p2,hp⟩:∃s p2,p.any=(s,p2):=⟨_,_,rfl⟩;have HV:Hid (p.want = { p2 with q:={ p2.q with com:={ p2.q.com with want:=s } } }):=lH (by unfold Pr.want;rw [hp];rfl);rw [hp] at HN;simp only [] at HN;clear h hB hp;go_enter Tryz.func112,Tryz.ntmps112;go_wp2_with (fail)
 with_reducible refine HN.mono ?_
 rintro e w1 ⟨rfl,h1,h2⟩;obtain⟨a,c,q⟩:=h1.rl;simp only [Kl] at q;have HF:=lH (h1.set 4 (dH dN s) { p2.q with com:={ p2.q.com with want:=s } } (fun _ _=>rfl));have HK:=lH (h2.trans (Ae w1 rb 4 (dH dN s)));clear h1 h2;go_wp2_with (fail)
 go_end0
 exact⟨rfl,by rw [HV.out];exact HF.out,HK.out⟩
theorem Vp(E:Nat→Addr)(v:World)(rb:Nat)(p:Pr)(w:World)(hB:Bs E v w rb)(h:BQ w rb p):Calls Tryz.prog 113 #[dJ (some ⟨rb,0,none⟩)] w fun e w'=>e = dM (.tuple #[])∧BQ w' rb p.key∧Aa [rb] w w':=by
 have HN:=EI rb p w h;obtain⟨s,p2,hp⟩:∃s p2,p.next=(s,p2):=⟨_,_,rfl⟩;have HV:Hid (p.key = { p2 with q:={ p2.q with com:={ p2.q.com with key:=s } } }):=lH (by unfold Pr.key;rw [hp];rfl);rw [hp] at HN;simp only [] at HN;clear h hB hp;go_enter Tryz.func113,Tryz.ntmps113;go_wp2_with (fail)
 with_reducible refine HN.mono ?_
 rintro e w1 ⟨rfl,h1,h2⟩;obtain⟨a,c,q⟩:=h1.rl;simp only [Kl] at q;have HF:=lH (h1.set 11 (CZ s) { p2.q with com:={ p2.q.com with key:=s } } (fun _ _=>rfl));have HK:=lH (h2.trans (Ae w1 rb 11 (CZ s)));clear h1 h2;go_wp2_with (fail)
 go_end0
 exact⟨rfl,by rw [HV.out];exact HF.out,HK.out⟩
theorem XR(E:Nat→Addr)(v:World)(rb:Nat)(p:Pr)(w:World)(hB:Bs E v w rb)(h:BQ w rb p):Calls Tryz.prog 114 #[dJ (some ⟨rb,0,none⟩)] w fun e w'=>e = dM (.tuple #[])∧BQ w' rb p.n∧Aa [rb] w w':=by
 have HN:=Hk E v rb p w hB h;obtain⟨s,p2,hp⟩:∃s p2,p.any=(s,p2):=⟨_,_,rfl⟩;have HV:Hid (p.n = { p2 with q:={ p2.q with com:={ p2.q.com with n:=s } } }):=lH (by unfold Pr.n;rw [hp];rfl);rw [hp] at HN;simp only [] at HN;clear h hB hp;go_enter Tryz.func114,Tryz.ntmps114;go_wp2_with (fail)
 with_reducible refine HN.mono ?_
 rintro e w1 ⟨rfl,h1,h2⟩;obtain⟨a,c,q⟩:=h1.rl;simp only [Kl] at q;have HF:=lH (h1.set 12 (dH dN s) { p2.q with com:={ p2.q.com with n:=s } } (fun _ _=>rfl));have HK:=lH (h2.trans (Ae w1 rb 12 (dH dN s)));clear h1 h2;go_wp2_with (fail)
 go_end0
 exact⟨rfl,by rw [HV.out];exact HF.out,HK.out⟩
theorem XQ(E:Nat→Addr)(v:World)(rb:Nat)(p:Pr)(w:World)(hB:Bs E v w rb)(h:BQ w rb p):Calls Tryz.prog 115 #[dJ (some ⟨rb,0,none⟩)] w fun e w'=>e = dM (.tuple #[])∧BQ w' rb p.m∧Aa [rb] w w':=by
 have HN:=Hk E v rb p w hB h;obtain⟨s,p2,hp⟩:∃s p2,p.any=(s,p2):=⟨_,_,rfl⟩;have HV:Hid (p.m = { p2 with q:={ p2.q with com:={ p2.q.com with m:=s } } }):=lH (by unfold Pr.m;rw [hp];rfl);rw [hp] at HN;simp only [] at HN;clear h hB hp;go_enter Tryz.func115,Tryz.ntmps115;go_wp2_with (fail)
 with_reducible refine HN.mono ?_
 rintro e w1 ⟨rfl,h1,h2⟩;obtain⟨a,c,q⟩:=h1.rl;simp only [Kl] at q;have HF:=lH (h1.set 13 (dH dN s) { p2.q with com:={ p2.q.com with m:=s } } (fun _ _=>rfl));have HK:=lH (h2.trans (Ae w1 rb 13 (dH dN s)));clear h1 h2;go_wp2_with (fail)
 go_end0
 exact⟨rfl,by rw [HV.out];exact HF.out,HK.out⟩
theorem BQ.rule{w:World}{rb:Nat}{p:Pr}(h:BQ w rb p)(r:EW):BQ (((((w.setCell ⟨rb,6,none⟩ (dL r.allow)).setCell ⟨rb,7,none⟩ (dH dN r.addr)).setCell ⟨rb,8,none⟩ (dH dN r.bits)).setCell ⟨rb,9,none⟩ (dH dN r.from_)).setCell ⟨rb,10,none⟩ (dH dN r.to_)) rb { p with q:={ p.q with com:={ p.q.com with rule:=r } } }:=by
 obtain⟨a,c,hb,hl,hne,hg⟩:=h;have hk:Aa [rb] w (((((w.setCell ⟨rb,6,none⟩ (dL r.allow)).setCell ⟨rb,7,none⟩ (dH dN r.addr)).setCell ⟨rb,8,none⟩ (dH dN r.bits)).setCell ⟨rb,9,none⟩ (dH dN r.from_)).setCell ⟨rb,10,none⟩ (dH dN r.to_)):=(((((Aa.refl [rb] w).setCell (.inl bA) _).setCell (.inl bA) _).setCell (.inl bA) _).setCell (.inl bA) _).setCell (.inl bA) _;exact⟨a,c,((((hb.set_ 6 _).set_ 7 _).set_ 8 _).set_ 9 _).set_ 10 _,hl.keepsN hk (fun h0 g o e=>by simpa using hne h0 g o e),hne,hg⟩
theorem Lf(w:World)(rb:Nat)(v0 v1 v2 v3 v4:Value):Aa [rb] w (((((w.setCell ⟨rb,6,none⟩ v0).setCell ⟨rb,7,none⟩ v1).setCell ⟨rb,8,none⟩ v2).setCell ⟨rb,9,none⟩ v3).setCell ⟨rb,10,none⟩ v4):=(((((Aa.refl [rb] w).setCell (.inl bA) _).setCell (.inl bA) _).setCell (.inl bA) _).setCell (.inl bA) _).setCell (.inl bA) _
theorem Xv(p:Pr):0≤p.any.1∧p.any.1≤1000000000000:=by
 unfold Pr.any Pr.number Mg;split
 ·rename_i n hn
  split at hn
  ·split at hn
   ·rename_i h
    injection hn with hn
    subst hn;exact h.2
   ·cases hn
  ·cases hn
 ·exact⟨Int.le_refl 0,by show(0:Int)≤1000000000000;omega⟩
theorem RA(s:ByteArray)(l:List UInt8):(s.toList==l)=decide (s=str l):=by
 rw [Ce,Bool.eq_iff_iff,beq_iff_eq,decide_eq_true_iff];constructor
 ·intro h;apply ByteArray.ext;show s.data=l.toArray;rw [← h]
 ·intro h;rw [h];rfl
theorem QO(E:Nat→Addr)(v:World)(rb:Nat)(p:Pr)(w:World)(hB:Bs E v w rb)(h:BQ w rb p):Calls Tryz.prog 116 #[dJ (some ⟨rb,0,none⟩)] w fun e w'=>e = dM (.tuple #[])∧BQ w' rb p.rules∧Aa [rb] w w':=by
 have HN:=EI rb p w h;obtain⟨s,p2,hp⟩:∃s p2,p.next=(s,p2):=⟨_,_,rfl⟩;obtain⟨n,p3,hp3⟩:∃s p3,p2.any=(s,p3):=⟨_,_,rfl⟩;have hn:=Xv p2;rw [hp3] at hn;obtain⟨pa,hpa⟩:=eX (p.at_);have hpa2:pa = { p3 with q:={ p3.q with com:={ p3.q.com with at_:=n } } }:=by rw [← hpa];unfold Pr.at_;rw [hp,hp3];rfl
 obtain⟨V,hV⟩:=eX (p.rules);rw [hV];unfold Pr.rules at hV;rw [hpa,hp] at hV;rw [hp] at HN;simp only [] at HN hV hn;obtain⟨b1,hb1⟩:=eX ((s.toList==[105,110,115,101,114,116]));obtain⟨b2,hb2⟩:=eX ((s.toList==[114,101,109,111,118,101]));have h1:decide (s=Kt)=b1:=by rw [← hb1,RA];rfl
 have h2:decide (s=Kv)=b2:=by rw [← hb2,RA];rfl
 have HV:=lH hV;have HB:=lH hB;have HP3:=lH hp3;have HPA:=lH hpa2;have H1:=lH h1;have H2:=lH h2;clear h hB hp hp3 hpa hpa2 hV h1 h2;go_enter Tryz.func116,Tryz.ntmps116;go_wp2_with (fail)
 with_reducible refine HN.mono ?_
 rintro e w1 ⟨rfl,hr1,hk1⟩;have HB1:=lH (HB.out.go hk1);have HN2:=Hk E v rb p2 w1 HB1.out hr1;rw [HP3.out] at HN2;have HK1:=lH hk1;clear hr1 hk1;go_wp2_with (fail)
 with_reducible refine HN2.mono ?_
 rintro e w2 ⟨rfl,hr2,hk2⟩;obtain⟨wz,hwz⟩:=eX (w2.setCell ⟨rb,5,none⟩ (dH dN n));have HRZ:Hid (BQ wz rb pa):=lH (by rw [← hwz,HPA.out];exact hr2.set 5 (dH dN n) { p3.q with com:={ p3.q.com with at_:=n } } (fun _ _=>rfl));have HKZ:Hid (Aa [rb] w wz):=lH (by rw [← hwz];exact(HK1.out.trans hk2).trans (Ae w2 rb 5 _));have HBZ:=lH (HB.out.go HKZ.out);obtain⟨a2,c2,q2⟩:=hr2.rl;simp only [Kl] at q2;obtain⟨az,cz,qz⟩:=HRZ.out.rl;rw [HPA.out] at qz;simp only [Kl] at qz;clear hr2 hk2;cases b1 with
 | true=>
  have hs:s=Kt:=of_decide_eq_true H1.out;have HNX:=EI rb pa wz HRZ.out;have hgd:=MD HRZ.out;obtain⟨x,px,hpx⟩:∃s p2,pa.next=(s,p2):=⟨_,_,rfl⟩;rw [hpx] at HNX hgd;simp only [] at HNX hgd;obtain⟨r,e9,hre⟩:∃r e,L4 x.data.toList=(r,e):=⟨_,_,rfl⟩;have HRE:=lH hre;have HW:Hid (V = { (if e9=0 then px else { px with bad:=true }) with q:={ (if e9=0 then px else { px with bad:=true } : Pr).q with com:={ (if e9=0 then px else { px with bad:=true } : Pr).q.com with rule:=r } } }):=lH (by
   rw [← HV.out,if_pos hs,hpx];simp only [];rw [hre];rfl)
  clear hs hpx hre;go_wp2_with (fail);clear hwz
  with_reducible refine HNX.mono ?_
  rintro e w3 ⟨rfl,hr3,hk3⟩;have HK3:=lH (HKZ.out.trans hk3);have HB3:=lH (HB.out.go HK3.out);have HR3:=lH hr3;have HPA3:=PI x bB w3 E HB3.out.en.a;unfold Fj at HPA3;rw [HRE.out] at HPA3;simp only [] at HPA3;clear hr3 hk3 qz q2;go_wp2_with (fail)
  with_reducible refine HPA3.mono ?_
  rintro e w4 ⟨rfl,hk4⟩;obtain⟨w5,hw5⟩:=eX (w4.alloc (.cells (L_ r) 59));have HR5:Hid (BQ w5 rb px):=lH (by rw [← hw5];exact HR3.out.keep (hk4.alloc _));have HK5:Hid (Aa [rb] w w5):=lH (by rw [← hw5];exact HK3.out.trans ((hk4.mono bA).alloc _));have HX5:Hid (Blk w5 w4.heap.size 59 (L_ r)):=lH (by rw [← hw5];exact Blk.new _ _ _);have x5:=HX5.out.rl;have hne:Hid (w4.heap.size≠rb):=lH (by have:=HR3.out;obtain⟨_,_,hb,_⟩:=this;have:=hb.lt;have:=hk4.size;omega);obtain⟨a5,c5,q5⟩:=HR5.out.rl;simp only [Kl] at q5;clear hk4;by_cases he:e9=0
  ·subst he
   have HF:=HR5.out.rule r;have HKF:=HK5.out.trans (Lf w5 rb (dL r.allow) (dH dN r.addr) (dH dN r.bits) (dH dN r.from_) (dH dN r.to_));have HF:=lH HF;have HKF:=lH HKF;go_wp2_with (fail);first | go_end0 | (refine bodyPost_ret (results_none rfl _ _ _) rfl ?_)
   exact⟨rfl,by rw [HW.out];simpa using HF.out,HKF.out⟩
  ·have f1:(e9 != 0)=true:=by simpa using he
   have hbad:=HR5.out.bad;have hk6:=Ae w5 rb 18 (Gs true);obtain⟨w6,hw6⟩:=eX (w5.setCell ⟨rb,18,none⟩ (Gs true));rw [hw6] at hbad hk6;have x6:=(HX5.out.keeps hk6 (by simpa using hne.out)).rl;obtain⟨a6,c6,q6⟩:=hbad.rl;simp only [Kl] at q6;have HF:=lH (hbad.rule r);have HKF:=lH ((HK5.out.trans hk6).trans (Lf w6 rb (dL r.allow) (dH dN r.addr) (dH dN r.bits) (dH dN r.from_) (dH dN r.to_)));simp only [Gs,if_true] at hw6;have HE:=lH he;clear hbad hk6 he;go_wp2_with (fail);first | go_end0 | (refine bodyPost_ret (results_none rfl _ _ _) rfl ?_)
   exact⟨rfl,by rw [HW.out,if_neg HE.out];exact HF.out,HKF.out⟩
 | false=>
  have hs:¬s=Kt:=of_decide_eq_false H1.out;cases b2 with
  | true=>
   have hs2:s=Kv:=of_decide_eq_true H2.out;have HW:Hid (V = { pa with q:={ pa.q with com:={ pa.q.com with at_:=-n - 1 } } }):=lH (by
    rw [← HV.out,if_neg hs,if_pos hs2,HPA.out];rfl)
   have HF:=lH (HRZ.out.set 5 (dH dN (-n - 1)) { pa.q with com:={ pa.q.com with at_:=-n - 1 } } (fun _ _=>rfl));have HKF:=lH (HKZ.out.trans (Ae wz rb 5 (dH dN (-n - 1))));have e1:IntKind.i64.wrap (-n - 1) = -n - 1:=IntWalk.i64_in _ bB;have e2:IntKind.i64.wrap (-n) = -n:=IntWalk.i64_in _ bB;clear hs hs2;go_wp2_with (fail);first | go_end0 | (refine bodyPost_ret (results_none rfl _ _ _) rfl ?_)
   exact⟨rfl,by rw [HW.out];exact HF.out,HKF.out⟩
  | false=>
   have hs2:¬s=Kv:=of_decide_eq_false H2.out;have HW:Hid (V = { pa with bad:=true }):=lH (by rw [← HV.out,if_neg hs,if_neg hs2]);have HF:=HRZ.out.bad;have HKF:=HKZ.out.trans (Ae wz rb 18 (Gs true));simp only [Gs,if_true] at HF HKF;have HF:=lH HF;have HKF:=lH HKF;clear hs hs2;go_wp2_with (fail);first | go_end0 | (refine bodyPost_ret (results_none rfl _ _ _) rfl ?_)
   exact⟨rfl,by rw [HW.out];exact HF.out,HKF.out⟩
theorem SY(E:Nat→Addr)(v:World)(rb:Nat)(p:Pr)(w:World)(hB:Bs E v w rb)(h:BQ w rb p):Calls Tryz.prog 117 #[dJ (some ⟨rb,0,none⟩)] w fun e w'=>e = dM (.tuple #[])∧BQ w' rb p.page∧Aa [rb] w w':=by
 have HN:=FJ E v rb p 1 3 w hB h;obtain⟨n,p2,hp⟩:∃s p2,p.number 1 3=(s,p2):=⟨_,_,rfl⟩;obtain⟨V,hV⟩:=eX (p.page);rw [hV];unfold Pr.page at hV;rw [hp] at HN hV;simp only [] at HN hV;obtain⟨p1,hp1⟩:∃p1:Pr,({ p2 with q:={ p2.q with count:=n } } : Pr)=p1:=⟨_,rfl⟩;rw [hp1] at hV;have HV:=lH hV;have HP1:=lH hp1;have HB:=lH hB;clear h hB hp hV hp1;go_enter Tryz.func117,Tryz.ntmps117;go_wp2_with (fail)
 with_reducible refine HN.mono ?_
 rintro e w1 ⟨rfl,hr1,hk1⟩;obtain⟨wz,hwz⟩:=eX (w1.setCell ⟨rb,14,none⟩ (dH dN n));have HRZ:Hid (BQ wz rb p1):=lH (by rw [← hwz,← HP1.out];exact hr1.set 14 (dH dN n) { p2.q with count:=n } (fun _ _=>rfl));have HKZ:Hid (Aa [rb] w wz):=lH (by rw [← hwz];exact hk1.trans (Ae w1 rb 14 _));have HBZ:=lH (HB.out.go HKZ.out);obtain⟨a2,c2,q2⟩:=hr1.rl;simp only [Kl] at q2;obtain⟨az,cz,qz⟩:=HRZ.out.rl;simp only [Kl] at qz;obtain⟨m,hm⟩:=eX (p1.l.length);rw [hm] at qz;clear hr1 hk1;by_cases h0:m=0
 ·have HW:Hid (V=p1):=lH (by rw [← HV.out,if_pos (by rw [show p2.l=p1.l by rw [← HP1.out],hm];exact h0)])
  subst h0;go_wp2_with (fail)
  go_end0
  exact⟨rfl,by rw [HW.out];exact HRZ.out,HKZ.out⟩
 ·have f1:(0:Int)<(m:Int):=by omega
  have HN2:=FJ E v rb p1 1 1000000000000 wz HBZ.out HRZ.out;obtain⟨b,p3,hp3⟩:∃s p2,p1.number 1 1000000000000=(s,p2):=⟨_,_,rfl⟩;obtain⟨c,p4,hp4⟩:∃s p2,p3.any=(s,p2):=⟨_,_,rfl⟩;rw [hp3] at HN2;simp only [] at HN2;have HW:Hid (V = { p4 with q:={ p4.q with cursor:=b,from_:=c } }):=lH (by
   rw [← HV.out,if_neg (by rw [show p2.l=p1.l by rw [← HP1.out],hm];exact h0)];simp only [];rw [hp3];simp only [];rw [hp4])
  have HP4:=lH hp4;clear h0 hp3 hp4 hm;go_wp2_with (fail);clear hwz
  with_reducible refine HN2.mono ?_
  rintro e w3 ⟨rfl,hr3,hk3⟩;have HK3:=lH (HKZ.out.trans hk3);have HN3:=Hk E v rb p3 w3 (HB.out.go HK3.out) hr3;rw [HP4.out] at HN3;simp only [] at HN3;clear hr3 hk3 qz q2;go_wp2_with (fail)
  with_reducible refine HN3.mono ?_
  rintro e w4 ⟨rfl,hr4,hk4⟩;obtain⟨a4,c4,q4⟩:=hr4.rl;simp only [Kl] at q4;have HF:=lH ((hr4.set 15 (dH dN b) { p4.q with cursor:=b } (fun _ _=>rfl)).set 16 (dH dN c) { p4.q with cursor:=b,from_:=c } (fun _ _=>rfl));have HKF:=lH (((HK3.out.trans hk4).trans (Ae w4 rb 15 (dH dN b))).trans (Ae _ rb 16 (dH dN c)));clear hr4 hk4;go_wp2_with (fail)
  go_end0
  exact⟨rfl,by rw [HW.out];exact HF.out,HKF.out⟩
def YY(l:List Nat):Array Value:=(l.map fun f=>Value.func (.func f) #[] #[]).toArray
def IW(verb:Int):List (Nat×(Pr→Pr)):=
 if verb=1 then [(111,Pr.name),(113,Pr.key),(114,Pr.n)] else if verb=4 then [(111,Pr.name),(112,Pr.want),(114,Pr.n)]
 else if verb=6 then [(111,Pr.name),(112,Pr.want),(113,Pr.key),(114,Pr.n),(115,Pr.m)]
 else if verb=7 then [(111,Pr.name),(112,Pr.want),(116,Pr.rules)] else if verb=9 then [(117,Pr.page)] else [(111,Pr.name),(112,Pr.want)]
theorem Qo(verb:Int):(IW verb).map (·.2)=partsR verb:=by
 unfold IW partsR
 repeat' split
 all_goals rfl
def QI(k:Int)(g n b:Nat):MapEntry:={ key:=dH dN k,val:=dI (some ⟨g,0,none⟩) n n,born:=b }
theorem Gd(W:World)(m:Nat)(es:Array MapEntry)(c:Nat)(k:Int)(fs:Array Value)(n:Nat)(hm:W.heap[m]? = some (.map es c))(hf:AV (.int .i64) (dH dN k) es.toList 0=some none):
  ∃W',(Instr.mapUpdate 221 (.map (some m)) (dH dN k) (dI (some ⟨W,0,none⟩) n n)).run Tryz.prog (W.alloc (.cells fs 220)) = .ok () W'∧W'.heap[m]? = some (.map (es.push (QI k W.heap.size n c)) (c+1))∧Blk W' W.heap.size 220 fs∧Aa [m] W W':=by
 have hlt:m<W.heap.size:=(Aj.1 hm).1;have hm2:(W.alloc (.cells fs 220)).heap[m]? = some (.map es c):=(Below.heap_alloc W _ m hlt).trans hm;have hlt2:m<(W.alloc (.cells fs 220)).heap.size:=(Aj.1 hm2).1;have hr:=CR (P:=Tryz.prog) (t:=221) (val:=dI (some ⟨W,0,none⟩) n n) Tryz.underlying221 Tryz.underlying3 hm2 (key:=dH dN k) bS hf;have hk:Aa [m] (W.alloc (.cells fs 220)) { (W.alloc (.cells fs 220)) with heap:=(W.alloc (.cells fs 220)).heap.setIfInBounds m (.map (es.push { key:=dH dN k,val:=dI (some ⟨W,0,none⟩) n n,born:=c }) (c+1)) }:=
  ⟨rfl,rfl,rfl,by simp,fun i _ hn=>by
   show((W.alloc (.cells fs 220)).heap.setIfInBounds m _)[i]? = _;rw [AL,if_neg (fun e=>hn (by simp [e]))]⟩
 refine⟨_,hr,?_,(Blk.new W _ fs).keeps hk bG,((Aa.refl [m] W).alloc _).trans hk⟩;show((W.alloc (.cells fs 220)).heap.setIfInBounds m _)[m]? = _;rw [AL,if_pos rfl,if_pos hlt2];rfl
theorem SL(verb:Int)(w:World):Calls Tryz.prog 54 #[dH dN verb] w fun e w'=>∃g n,e = dM (dI (some ⟨g,0,none⟩) n n)∧(IW verb).length=n∧Blk w' g 220 (YY ((IW verb).map (·.1)))∧Aa [] w w':=by
 obtain⟨W0,hW0⟩:=eX (w.alloc (.map #[] 0));have hm0:W0.heap[w.heap.size]? = some (.map #[] 0):=by rw [← hW0];exact heap_alloc_new w _
 have hk0:Aa [] w W0:=by rw [← hW0];exact(Aa.refl [] w).alloc _
 have hs0:W0.heap.size=w.heap.size+1:=by rw [← hW0];simp
 have hmk:=fun W=>run_makeMap (P:=Tryz.prog) 221 W;obtain⟨W1,hr1,hm1,hb1,hk1⟩:=Gd W0 w.heap.size #[] 0 1 #[.func (.func 111) #[] #[],.func (.func 113) #[] #[],.func (.func 114) #[] #[]] 3 hm0 bD;obtain⟨W2,hr2,hm2,hb2,hk2⟩:=Gd W1 w.heap.size _ 1 4 #[.func (.func 111) #[] #[],.func (.func 112) #[] #[],.func (.func 114) #[] #[]] 3 hm1 bD;obtain⟨W3,hr3,hm3,hb3,hk3⟩:=Gd W2 w.heap.size _ 2 6 #[.func (.func 111) #[] #[],.func (.func 112) #[] #[],.func (.func 113) #[] #[],.func (.func 114) #[] #[],.func (.func 115) #[] #[]] 5 hm2 bD;obtain⟨W4,hr4,hm4,hb4,hk4⟩:=Gd W3 w.heap.size _ 3 7 #[.func (.func 111) #[] #[],.func (.func 112) #[] #[],.func (.func 116) #[] #[]] 3 hm3 bD;obtain⟨W5,hr5,hm5,hb5,hk5⟩:=Gd W4 w.heap.size _ 4 9 #[.func (.func 117) #[] #[]] 1 hm4 bD;have hs1:=hk1.size;have hs2:=hk2.size;have hs3:=hk3.size;have hs4:=hk4.size;have hb15:=(((hb1.keeps hk2 bG).keeps hk3 bG).keeps hk4 bG).keeps hk5 bG;have hb25:=((hb2.keeps hk3 bG).keeps hk4 bG).keeps hk5 bG;have hb35:=(hb3.keeps hk4 bG).keeps hk5 bG;have hb45:=hb4.keeps hk5 bG;have hK:Aa [] w W5:=hk0.own ((((hk1.trans hk2).trans hk3).trans hk4).trans hk5) bF;have HK:=lH hK;have hl:∀(k:Int) (g n i:Nat),AV (.int .i64) (dH dN k) (((((#[].push (QI 1 W0.heap.size 3 0)).push (QI 4 W1.heap.size 3 1)).push (QI 6 W2.heap.size 5 2)).push (QI 7 W3.heap.size 3 3)).push (QI 9 W4.heap.size 1 4)).toList 0=some (some (i,dI (some ⟨g,0,none⟩) n n))→(Dx 221 (.map (some w.heap.size)) (dH dN k) true).run Tryz.prog W5 = .ok (.tuple #[dI (some ⟨g,0,none⟩) n n,dL true]) W5:=
  fun k g n i hf=>(CY Tryz.underlying221 Tryz.underlying3 hm5 bS hf).1
 have HH:Hid (∀g n,(∃W',W'=W5∧(IW verb).length=n∧Blk W' g 220 (YY ((IW verb).map (·.1))))→∃g n',dM (dI (some ⟨g,0,none⟩) n n)=dM (dI (some ⟨g,0,none⟩) n' n')∧True):=lH (fun g n _=>⟨g,n,rfl,trivial⟩);clear HH;by_cases h1:verb=1
 ·subst h1
  have hlk:=hl 1 W0.heap.size 3 0 bD;have HB:=lH hb15;clear hm0 hm1 hm2 hm3 hm4 hm5 hb1 hb2 hb3 hb4 hb5 hb15 hb25 hb35 hb45 hk0 hk1 hk2 hk3 hk4 hk5 hl hK hs0 hs1 hs2 hs3 hs4;go_enter Tryz.func54,Tryz.ntmps54;go_wp2_with (fail);go_ret;exact⟨_,_,rfl,rfl,HB.out,HK.out⟩
 by_cases h4:verb=4
 ·subst h4
  have hlk:=hl 4 W1.heap.size 3 1 bD;have HB:=lH hb25;clear hm0 hm1 hm2 hm3 hm4 hm5 hb1 hb2 hb3 hb4 hb5 hb15 hb25 hb35 hb45 hk0 hk1 hk2 hk3 hk4 hk5 hl hK hs0 hs1 hs2 hs3 hs4;go_enter Tryz.func54,Tryz.ntmps54;go_wp2_with (fail);go_ret;exact⟨_,_,rfl,rfl,HB.out,HK.out⟩
 by_cases h6:verb=6
 ·subst h6
  have hlk:=hl 6 W2.heap.size 5 2 bD;have HB:=lH hb35;clear hm0 hm1 hm2 hm3 hm4 hm5 hb1 hb2 hb3 hb4 hb5 hb15 hb25 hb35 hb45 hk0 hk1 hk2 hk3 hk4 hk5 hl hK hs0 hs1 hs2 hs3 hs4;go_enter Tryz.func54,Tryz.ntmps54;go_wp2_with (fail);go_ret;exact⟨_,_,rfl,rfl,HB.out,HK.out⟩
 by_cases h7:verb=7
 ·subst h7
  have hlk:=hl 7 W3.heap.size 3 3 bD;have HB:=lH hb45;clear hm0 hm1 hm2 hm3 hm4 hm5 hb1 hb2 hb3 hb4 hb5 hb15 hb25 hb35 hb45 hk0 hk1 hk2 hk3 hk4 hk5 hl hK hs0 hs1 hs2 hs3 hs4;go_enter Tryz.func54,Tryz.ntmps54;go_wp2_with (fail);go_ret;exact⟨_,_,rfl,rfl,HB.out,HK.out⟩
 by_cases h9:verb=9
 ·subst h9
  have hlk:=hl 9 W4.heap.size 1 4 bD;have HB:=lH hb5;clear hm0 hm1 hm2 hm3 hm4 hm5 hb1 hb2 hb3 hb4 hb5 hb15 hb25 hb35 hb45 hk0 hk1 hk2 hk3 hk4 hk5 hl hK hs0 hs1 hs2 hs3 hs4;go_enter Tryz.func54,Tryz.ntmps54;go_wp2_with (fail);go_ret;exact⟨_,_,rfl,rfl,HB.out,HK.out⟩
 have hz:(zeroValue 139).run Tryz.prog W5 = .ok (dI none 0 0) W5:=by kernel_rfl
 have hlk:=(Eg Tryz.underlying221 Tryz.underlying3 hm5 (key:=dH dN verb) bS (by simp [QI,AV,Instr.sameNow,beq_eq_false_iff_ne.2 h1,beq_eq_false_iff_ne.2 h4,beq_eq_false_iff_ne.2 h6,beq_eq_false_iff_ne.2 h7,beq_eq_false_iff_ne.2 h9]) hz).1;have HF:Hid (IW verb = [(111,Pr.name),(112,Pr.want)]):=lH (by unfold IW;rw [if_neg h1,if_neg h4,if_neg h6,if_neg h7,if_neg h9]);clear hm0 hm1 hm2 hm3 hm4 hm5 hb1 hb2 hb3 hb4 hb5 hb15 hb25 hb35 hb45 hk0 hk1 hk2 hk3 hk4 hk5 hl hK hs0 hs1 hs2 hs3 hs4 h1 h4 h6 h7 h9 hz;go_enter Tryz.func54,Tryz.ntmps54;go_wp2_with (fail);go_ret;exact⟨_,_,rfl,by rw [HF.out];rfl,by rw [HF.out];exact Blk.new _ _ _,HK.out.alloc _⟩
def Gn(E:Nat→Addr)(x:Nat×(Pr→Pr)):Prop:=(∀(W:World) args,(callFunc x.1 args).run Tryz.prog W = .ok (.enter x.1 args) W)∧∀(v:World) (rb:Nat) (p:Pr) (w:World),Bs E v w rb→BQ w rb p→Calls Tryz.prog x.1 #[dJ (some ⟨rb,0,none⟩)] w fun e w'=>e = dM (.tuple #[])∧BQ w' rb (x.2 p)∧Aa [rb] w w'
theorem XB(E:Nat→Addr)(verb:Int):∀x∈IW verb,Gn E x:=by
 have hname:Gn E (111,Pr.name):=⟨fun W args=>enters_of Tryz.func111 bC rfl args W,fun v rb p w hB h=>SW E v rb p w hB h⟩;have hwant:Gn E (112,Pr.want):=⟨fun W args=>enters_of Tryz.func112 bC rfl args W,fun v rb p w hB h=>Ta E v rb p w hB h⟩;have hkey:Gn E (113,Pr.key):=⟨fun W args=>enters_of Tryz.func113 bC rfl args W,fun v rb p w hB h=>Vp E v rb p w hB h⟩;have hn:Gn E (114,Pr.n):=⟨fun W args=>enters_of Tryz.func114 bC rfl args W,fun v rb p w hB h=>XR E v rb p w hB h⟩;have hm:Gn E (115,Pr.m):=⟨fun W args=>enters_of Tryz.func115 bC rfl args W,fun v rb p w hB h=>XQ E v rb p w hB h⟩;have hrules:Gn E (116,Pr.rules):=⟨fun W args=>enters_of Tryz.func116 bC rfl args W,fun v rb p w hB h=>QO E v rb p w hB h⟩;have hpage:Gn E (117,Pr.page):=⟨fun W args=>enters_of Tryz.func117 bC rfl args W,fun v rb p w hB h=>SY E v rb p w hB h⟩;unfold IW;by_cases h1:verb=1
 ·rw [if_pos h1];exact Ay.2 ⟨hname,Ay.2 ⟨hkey,Ay.2 ⟨hn,fun _ h=>by cases h⟩⟩⟩
 rw [if_neg h1];by_cases h4:verb=4
 ·rw [if_pos h4];exact Ay.2 ⟨hname,Ay.2 ⟨hwant,Ay.2 ⟨hn,fun _ h=>by cases h⟩⟩⟩
 rw [if_neg h4];by_cases h6:verb=6
 ·rw [if_pos h6];exact Ay.2 ⟨hname,Ay.2 ⟨hwant,Ay.2 ⟨hkey,Ay.2 ⟨hn,Ay.2 ⟨hm,fun _ h=>by cases h⟩⟩⟩⟩⟩
 rw [if_neg h6];by_cases h7:verb=7
 ·rw [if_pos h7];exact Ay.2 ⟨hname,Ay.2 ⟨hwant,Ay.2 ⟨hrules,fun _ h=>by cases h⟩⟩⟩
 rw [if_neg h7];by_cases h9:verb=9
 ·rw [if_pos h9];exact Ay.2 ⟨hpage,fun _ h=>by cases h⟩
 rw [if_neg h9];exact Ay.2 ⟨hname,Ay.2 ⟨hwant,fun _ h=>by cases h⟩⟩
theorem Vl(E:Nat→Addr)(v:World)(rb fb:Nat)(p:Pr)(L:List (Nat×(Pr→Pr)))(n:Nat)(hn:L.length=n)(h10:n≤10)(hOk:∀x∈L,Gn E x)(w:World)(hB:Bs E v w rb)(h:BQ w rb p)(hf:Blk w fb 220 (YY (L.map (·.1))))(hne:fb≠rb):
  Calls Tryz.prog 53 #[dJ (some ⟨rb,0,none⟩),dI (some ⟨fb,0,none⟩) n n] w fun e w'=>e = dM (.tuple #[])∧BQ w' rb (L.foldl (fun p x=>x.2 p) p)∧Aa [rb] w w':=by
 have HB:=lH hB;have HF:=lH hf;have HN:=lH hn;have HOK:=lH hOk;have HR0:Hid (BQ w rb ((L.take 0).foldl (fun p x=>x.2 p) p)):=lH h;clear hB hf hn hOk h;go_enter Tryz.func53,Tryz.ntmps53;go_wp2_with (fail);go_loopw [8] (fun i wr=>∃k:Nat,i = dH dN k∧k≤n∧Hid (BQ wr rb ((L.take k).foldl (fun p x=>x.2 p) p))∧Hid (Aa [rb] w wr)) (fun i _=>n - (intOf i).toNat)
 case atStart=>exact⟨0,rfl,Cy _,HR0,lH (Aa.refl _ _)⟩
 case round=>
  clear HR0;obtain⟨k,rfl,hk,HR,HK⟩:=hrel;by_cases hlt:k<n
  ·have hkl:k<L.length:=by rw [HN.out];exact hlt
   obtain⟨x,hx⟩:=eX (L[k]);have hok:=HOK.out x Zu;have q:=(HF.out.keeps HK.out Wi).rl;have hq:(YY (L.map (·.1)))[k]? = some (.func (.func x.1) #[] #[]):=by
    unfold YY;simp only [Ai,List.getElem?_map,Au hkl,Option.map_some,hx]
   have i1:(0:Int)≤(k:Int):=by omega
   have i2:(k:Int)<(n:Int):=by omega
   have HC:=hok.2 v rb _ wr (HB.out.go HK.out) HR.out;have HS:Hid ((L.take (k+1)).foldl (fun p x=>x.2 p) p=x.2 ((L.take k).foldl (fun p x=>x.2 p) p)):=lH (by rw [AR hkl,List.foldl_append,hx];rfl);have HE:=lH hok.1;clear hok hkl hx;go_wp2_with (fail);rw [HE.out,Oper.upon_enter];refine HC.mono ?_;rintro e w3 ⟨rfl,hr3,hk3⟩;have HR3:=lH hr3;have HK3:=lH (HK.out.trans hk3);clear hr3 hk3 HC q hq;go_wp2_with (fail);go_roundw;case rel=>exact⟨k+1,by go_num,by omega,by rw [HS.out];exact HR3,HK3⟩
   case measure=>simp [intOf];omega
  ·obtain rfl:k=n:=by omega
   rw [Ax bL] at HR;go_wp2_with (fail)
   go_end0
   exact⟨rfl,HR.out,HK.out⟩
def reqA(q:PC):Array Value:=(Q_ q)
theorem CQ(q:PC):(reqA q).all (·.oneCell')=true:=by simp [reqA,Value.oneCell']
theorem B1(q:PC):(Tryz.prog.info? 63).map (·.size)=some (reqA q).size:=by
 have:(Tryz.prog.info? 63).map (·.size)=some 17:=by kernel_rfl
 exact this
structure Kz(E:Nat→Addr)(w:World):Prop where
 r:RE E w
 v:D5 w
theorem Kz.keeps{E:Nat→Addr}{w w':World}(h:Kz E w)(hk:Aa [] w w'):Kz E w':=⟨h.r.keeps hk,h.v.keeps hk bA⟩
theorem PS(E:Nat→Addr)(s:ByteArray)(hs:s.size≤1000000)(w:World)(hE:Kz E w)(k:Int)(hsp:BG s.data.toList = .error k):
  Calls Tryz.prog 21 #[CZ s] w fun e w'=>e = dM (.tuple #[dK (reqA (Bk s).1),dH dN (Bk s).2])∧Aa [] w w':=by
 obtain⟨w0,hw0⟩:=eX (w.alloc (.cells Xt.k 63));have HK0:Hid (Aa [] w w0):=lH Zr;have HB0:Hid (Blk w0 w.heap.size 63 (reqA req0)):=lH Y9;have HE:Hid (∀W,Aa [] w W→Kz E W):=lH fun W hW=>hE.keeps hW;have HSP:=Ht s hs w0 (HE.out w0 HK0.out).r.a.et;obtain⟨V,hV⟩:=eX (Bk s);rw [hV];unfold Bk at hV;unfold Ir at HSP;clear hE;rw [hsp] at HSP hV;have HN:Hid (V=(req0,k)):=lH hV.symm;have hk0:(k != 0)=true:=by simpa using Ic hsp
 clear hV hsp;simp only [] at HSP;go_enter Tryz.func21,Tryz.ntmps21;go_wp2_with (fail);refine HSP.mono ?_;rintro x w1 ⟨rfl,hk1⟩;have HK1:=lH (HK0.out.trans hk1);have HB1:=lH (HB0.out.keeps hk1 bA);clear hk1 hw0;go_wp2_with (refine wpList_store_row bD 63 _ _ bD w.heap.size (reqA req0) bD bD 63 (reqA req0) HB1.out (B1 _) rfl (CQ _) ?_);refine bodyPost_ret (v:=.tuple #[dK (reqA req0),dH dN k]) ?_ rfl ⟨by rw [HN.out],?_⟩
 ·exact AA rfl _ _ w.heap.size 63 (reqA req0) _ (dH dN k) rfl rfl (HB1.out.row _) Tryz.underlying63 rfl (B1 _)
 ·exact HK1.out.own (Bh _ _ _) bF
def jobA(j:BC):Array Value:=#[dH dN j.conn,dH dN j.phase,CZ j.line,CZ j.req.who,dH dN j.req.id,dH dN j.req.com.verb,CZ j.req.com.name,dH dN j.req.com.want,dH dN j.req.com.at_,dL j.req.com.rule.allow,dH dN j.req.com.rule.addr,dH dN j.req.com.rule.bits,dH dN j.req.com.rule.from_,dH dN j.req.com.rule.to_,CZ j.req.com.key,dH dN j.req.com.n,dH dN j.req.com.m,dH dN j.req.count,dH dN j.req.cursor,dH dN j.req.from_,dH dN j.role,CZ j.reply,dH dN j.slot,dH dN j.gen]
theorem Gx(q:BC):(Tryz.prog.info? 78).map (·.size)=some (jobA q).size:=by
 have:(Tryz.prog.info? 78).map (·.size)=some 24:=by kernel_rfl
 exact this
theorem Ku(q:BC):(jobA q).all (·.oneCell')=true:=by simp [jobA,Value.oneCell']
def OE(lv:List BC)(k:Nat):Array Value:=#[dH dN (k:Int),dK (jobA (lv.getD k job0))]
theorem OG(x0 x1 x2 x3 x4 x5 x6 x7 x9:Value)(ja:Option Addr)(ln jc:Nat)(w:World):Calls Tryz.prog 42 #[dK #[x0,x1,x2,x3,x4,x5,x6,x7,dI ja ln jc,x9]] w fun e w'=>e = dM (.func (.func 86) #[] #[dJ (some ⟨w,0,none⟩)])∧w.alloc (.cells #[x0,x1,x2,x3,x4,x5,x6,x7,dI ja ln jc,x9] 36)=w':=by
 go_enter Tryz.func42,Tryz.ntmps42;go_wp2;go_ret;exact⟨rfl,rfl⟩
def Ym(pb:Nat)(la:Option Addr)(lc ln:Nat)(lv:List BC)(A:World):Prop:=A.cell? ⟨pb,8,none⟩=some (dI la ln lc)∧AJ encJob 24 A la lc lv
theorem Rx{A:World}{g o:Nat}{v:BC}(h:∀j u,(encJob v)[j]? = some u→A.cell? ⟨g,o+j,none⟩=some u):A.rangeAt g o (jobA v).toList:=h
theorem UG(n l pb:Nat)(la:Option Addr)(lc ln:Nat)(lv:List BC)(hln:lv.length=ln)(h1000:ln≤1000)(J Jx:List Nat→World→Prop)(W:World)(hJ:Nf [] J)(hV:∀z A,J z A→Ym pb la lc ln lv A)
 (hY:∀pre x W1,J pre W1→pre++[x] <+: A0 ln→YieldAt Ba (n - 1) Tryz.prog l (OE lv x) W1 fun e W'=>
   (e = dM (dL true)∧J (pre++[x]) W')∨(e = dM (dL false)∧Jx (pre++[x]) W'))
 (h0:J [] W):
  CallsIn Ba n Tryz.prog 86 #[.func (.yield l) #[] #[],dJ (some ⟨pb,0,none⟩)] W fun e W'=>(∃v,e = dM v)∧
   (J (A0 ln) W'∨(∃pre,pre <+: A0 ln∧Jx pre W')):=by
 have HV:=lH hV;have HY:=lH hY;have HST:=lH hJ;have HLN:=lH hln;have HJ0:Hid (J (A0 0) W):=lH (by simpa using h0);obtain⟨c3,_⟩:=hV _ _ h0;clear hV hY h0 hJ hln;have hn1:Fence.wide.depth.isSome=true→1≤n:=by intro h;cases h
 refine callsIn_of_wp Tryz.func86 rfl trivial ?_ rfl;simp only [Tryz.ntmps86,Cx,Ao,Eh,Nat.reduceAdd,Nat.reduceSub,Bc,Bd,By,B0,AX,A6];gi_wp2;refine Br (wpIn_seq (wpIn_label ?_));gi_wp2
 gi_loopw [8] (fun i wr=>∃k:Nat,i = dH dN k∧k≤ln∧Hid (J (A0 k) wr)) (fun i _=>ln - (intOf i).toNat)
 case atStart=>exact⟨0,rfl,Cy _,HJ0⟩
 case round=>
  obtain⟨k,rfl,hk,HJs⟩:=hrel;clear c3;by_cases hlt:k<ln
  ·have i1:(0:Int)≤(k:Int):=by omega
   have i2:(k:Int)<(ln:Int):=by omega
   obtain⟨c3,hS⟩:=HV.out _ _ HJs.out;obtain⟨g1,o1,v,rfl,hg1,hx1,hat1⟩:=hS.at_k (k:=k) (by rw [HLN.out];exact hlt);have HQ:=lH (Rx hat1);have hk0:=(Aa.refl [] wr).alloc (.cells (jobA v) 78);have hJ2:=HST.out _ _ _ HJs.out hk0;have hgd:lv.getD k job0=v:=by rw [AE,hx1];rfl
   have hy0:=Cv (HY.out _ _ _ hJ2 (Bv hlt));rw [← AY] at hy0;obtain⟨fnn,tmps,assign,body,hy,hR⟩:=hy0;simp only [OE,hgd] at hy;have HB2:=lH (Blk.new wr 78 (jobA v));clear hS hat1 hx1 hg1 hk0 hJ2 hgd;gi_wp2_with (first | (refine E4 bD 78 _ bD g1 (o1+k*24) bD (jobA v) _ HQ.out Tryz.underlying78 rfl (Gx v) ?_) | (refine Ep bD 78 _ _ bD wr.heap.size (jobA v) bD bD 78 _ (Blk.new wr _ _) (Gx v) rfl (Ku v) ?_;rw [World.setRow_alloc_new]) | (refine E4 bD 78 _ bD wr.heap.size 0 bD (jobA v) _ (HB2.out.rng 0 _ (fun j u hj=>by rw [BI];simpa using hj)) Tryz.underlying78 rfl (Gx v) ?_));refine⟨hn1,?_⟩;refine hR.mono ?_;rintro e W3 ⟨g,rfl,hT,hF⟩;clear hR hy c3 HQ HB2;cases g with
   | false=>
    have hJx:=lH (hF.out rfl);clear hT hF;gi_wp2;try rw [AH]
    go_end0
    exact⟨⟨_,rfl⟩,.inr ⟨_,by rw [AY];exact Bv hlt,hJx.out⟩⟩
   | true=>
    have HJ3:=lH (hT.out rfl);clear hT hF;gi_wp2;go_roundw;case rel=>exact⟨k+1,by go_num,by omega,HJ3⟩
    case measure=>simp [intOf];omega
  ·obtain rfl:k=ln:=by omega
   gi_wp2;try rw [AH]
   go_end0
   exact⟨⟨_,rfl⟩,.inl HJs.out⟩
theorem OI(n pb:Nat)(la:Option Addr)(lc ln:Nat)(lv:List BC)(hln:lv.length=ln)(h1000:ln≤1000):
  NQ Ba n Tryz.prog 86 #[dJ (some ⟨pb,0,none⟩)] (OE lv) (A0 ln) (Ym pb la lc ln lv):=fun l J Jx W hJ _ hV hY h0=>
 UG n l pb la lc ln lv hln h1000 J Jx W hJ hV hY h0
end
end Go.Proofs.YtcjdkbgdahgjbaaGreatDoor
