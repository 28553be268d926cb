/- Steps. -/
import Derived.Test.YtncebikgoleolaaGreatDoorKak
import Derived.Test.YtncebikgoleolaaGreatDoorKbh
import Derived.KernelRfl
import Derived.Test.YtncebikgoleolaaGreatDoorTie
import Derived.Test.YtncebikgoleolaaGreatDoorCards
import Derived.LaidMore
import Derived.LaidHandle
import Derived.LaidSub
import Derived.Stop.Joined
import Derived.SevenTiedAt
import Derived.Shelf.Vars
import Derived.Lib.LaidTab
import Derived.Deep.Strs
import Derived.Deep.Slices
import Derived.Deep.Fields
import Derived.Lib.SmallJoins
import Derived.Deep.RegionHeld
import Derived.BigRegion
import Derived.Deep.DeepCutAuto
import Derived.ProofKit
import Derived.JoinedOf
import Derived.LaidLaws
set_option maxRecDepth 100000
set_option maxHeartbeats 8000000
set_option linter.all false
namespace Go.Proofs.YtncebikgoleolaaGreatDoor
open Go.Proofs.Tryz
open _root_.Go renaming undef→UD
open Act renaming put→By
open _root_.Array renaming getElem?_eq_some_iff→Ai
open DataW renaming trod→AJ
open Ending renaming returned→pJ
open IntKind renaming i64→pK
open _root_.List renaming append_assoc→CC,drop_eq_nil_of_le→AI,drop_zero→BC,eq_nil_of_length_eq_zero→Ds,flatMap_append→BY,getElem?_append_right→Ee,getElem?_eq_getElem→Aq,getElem?_eq_some_iff→Ad,getElem?_map→qH,getElem?_take→Dh,length_append→Al,length_cons→Av,length_drop→B1,length_map→Bd,length_take→Ax,mem_cons→Ac,mem_map→BO,mem_singleton→Ag,not_mem_nil→Ab,range→AC,take_append_drop→Dn
open _root_.Nat renaming add_mul→qL,min_eq_left→DE,mul_le_mul_right→Ch,zero_add→AW
open Oper renaming semAt_some→pN
open _root_.Option renaming map_eq_some_iff→Ci
open Result renaming andThen→Bg
open Value renaming agg→pH,bool→pI,int→pE,pointer→pG,slice→pF,string→Dz
open World renaming block_lt_of_cell?→Be,cell?_of_block→BL
section
open Go.RowKit Go.Shelf
attribute [local go_sem] pN Lr Ls Lp Lq
attribute [local go_sem ↓] wp_at_zero wp_at_succ
theorem eE{α:Type}{enc:α->List Value}{w:World}{B L g c i n:Nat}{e:TypeId}(hn:∀x,(enc x).length=n){xs:List α}(hL:xs.length=L)(hi:i<L)(h:w.ownsRow B e n (pF (some (A_ g 0)) L c) L (xs.flatMap enc))(x:α):
  w.there g (i*n) n/\(w.setCells g (i*n) (enc x)).ownsRow B e n (pF (some (A_ g 0)) L c) L ((xs.set i x).flatMap enc):=by
 rcases h.2 with⟨h1,_⟩ | ⟨T,cap,cur,h1,hb,hg,G,J,hsz,M⟩
 ·cases h1
 injection h1 with h1 _ h3
 injection h1 with h1
 injection h1 with h1 _ _
 subst h1;subst h3;have O:i*n+n<=L*n:=by rw [<- Nat.succ_mul];exact Ch n hi
 have N:L*n<=cur.size:=by rw [hsz];exact Ch n G
 have hbk:Blk w g e cur:=hg;have hF:(xs.flatMap enc).length=L*n:=h.1;have D:(xs.set i x).flatMap enc=(xs.flatMap enc).take (i*n)++enc x++(xs.flatMap enc).drop ((i+1)*n):=by
  rw [List.set_eq_take_append_cons_drop,if_pos bB,BY,List.flatMap_cons,J9 hn xs i bB,J8 hn xs (i+1) bB,CC]
 have E:((xs.set i x).flatMap enc).length=L*n:=by
  rw [D,Al,Al,Ax,B1,hF,hn,Nat.succ_mul];omega
 refine⟨Blk.there hbk _ _ bB,E,.inr ⟨g,c,Ht cur (i*n) (enc x),rfl,hb,Blk.puts (enc x) (i*n) hbk,G,J,by rw [NF,hsz],?_⟩⟩;apply List.ext_getElem?;intro p;have F:∀q,q<L*n->cur[q]? = (xs.flatMap enc)[q]?:=fun q hq=>by
  rw [<- M,Dh,if_pos hq,Array.getElem?_toList]
 rw [Dh,D];by_cases hp:p<L*n
 ·rw [if_pos hp,Array.getElem?_toList,LL _ _ _ _ kE]
  by_cases h1:i*n<=p/\p<i*n+(enc x).length
  ·rw [if_pos h1,CC,Ee nO,List.getElem?_append_left nO,Ax,hF,DE bB]
  ·rw [if_neg h1,F p hp]
   rw [hn] at h1;by_cases h2:p<i*n
   ·rw [CC,List.getElem?_append_left nO,Dh,if_pos h2]
   ·rw [Ee (by rw [Al,Ax,hF,hn];omega),List.getElem?_drop,Al,Ax,hF,hn,DE bB,Nat.succ_mul]
    congr 1;omega
 ·rw [if_neg hp]
  exact(List.getElem?_eq_none (by rw [<- D,E];omega)).symm
theorem KY{fn:Func}{p q u:Tmp}{B D:TypeId}(h:fn.results=#[.cell p B,.cell q D,.tmp u])(tmps:Array Value)(P:Program)(w:World):
  (results fn tmps).run P w=((asAddr (tmps.getD p UD)).run P w).andThen fun a w₁=>((loadVar B a).run P w₁).andThen fun v w₂=>((asAddr (tmps.getD q UD)).run P w₂).andThen fun b w₃=>((loadVar D b).run P w₃).andThen fun x w₄=>.ok (.tuple #[v,x,tmps.getD u UD]) w₄:=by
 simp only [results,h];simp [Sem.run_bind,Bg]
theorem Hu{P:Program}{fn:Func}{p q u:Tmp}{tp tq:TypeId}(h:fn.results=#[.cell p tp,.cell q tq,.tmp u])(tmps:Array Value)(w:World)(g1 E:Nat)(T U:TypeId)(cs ds:Array Value)(B D:TypeDesc)(y:Value)
 (hp:tmps.getD p UD = p_ g1 0)(hq:tmps.getD q UD = p_ E 0)(hy:tmps.getD u UD=y)(hb1:Blk w g1 T cs)(hb2:Blk w E U ds)
 (N:P.underlying tp=some B)(F:(match B with | .struct _ | .array _ _=>true | _=>false)=true)(J:(P.info? tp).map (·.size)=some cs.size)
 (O:P.underlying tq=some D)(G:(match D with | .struct _ | .array _ _=>true | _=>false)=true)(M:(P.info? tq).map (·.size)=some ds.size):
  (results fn tmps).run P w = .ok (.tuple #[.agg cs,.agg ds,y]) w:=by
 rw [KY h,hp,hq,hy];simp [asAddr,run_loadVar_row w g1 T tp cs (0,0) B hb1 N F J,run_loadVar_row w E U tq ds (0,0) D hb2 O G M,Bg]
def effA(e:GJ):Array Value:=#[pE pK e.kind,pE pK e.slot,pE pK e.gen,Dz e.text]
theorem Ji(e:GJ):(prog.info? 81).map (·.size)=some (effA e).size:=by
 have:(prog.info? 81).map (·.size)=some 4:=bC;exact this
theorem J7(e:GJ):(effA e).all (·.oneCell')=true:=by simp [effA,Value.oneCell']
theorem AH.jobs{w:World}{sb:Nat}{j:Bq}{v:CV}{now left:Int}{e:GJ}(h:AH w sb j v now left e):w.rangeAt sb 0 (jobA j).toList:=fun i u hu=>by
 rw [AW,AH.cell h i];have he:Kj j (pF v.oa v.on v.oc) (pF v.r.s.ga v.gn v.r.s.gc) (pF v.r.s.ua v.un v.r.s.uc) (pF v.r.s.fa v.fn v.r.s.fc) (pF v.r.la v.ln v.r.lc) (I_ v.seq) (pF v.pa v.pn v.pc) (I_ v.nx) (pF v.ja v.jn v.jc) (pF v.da v.dn v.dc) now left e=jobA j++(ctlA v++#[pE pK now,I_ left]++effA e):=bC;rw [Array.getElem?_toList] at hu;rw [he,Array.getElem?_append_left (Ai.1 hu).1];exact hu
theorem AH.put{w:World}{sb:Nat}{j:Bq}{v:CV}{now left:Int}{e:GJ}(h:AH w sb j v now left e)(a:Option Addr)(n k:Nat):AH (w.setCell (A_ sb 32) (pF a n k)) sb j { v with ja:=a,jn:=n,jc:=k } now left e:=Blk.set_ h 32 (pF a n k)
def SQ(w:World)(R:BN×GJ×Int):Ending->World->Prop:=fun r w'=>∃v,r = pJ (.tuple #[pH (ctlA v),pH (effA R.2.1),pE pK R.2.2])/\Cg w' v R.1/\Fo w.heap.size v R.1/\Aa [] w w'
theorem OJ(v:CV)(c:BN)(conn now left:Int)(w:World)(hE:Gu w)(h:Cg w v c):
  Calls prog 20 #[.agg (C_ v),.int .i64 conn,.int .i64 now,.int .i64 left] w (SQ w (EC c conn now left)):=by
 obtain⟨w0,hw0⟩:=eX (((w.alloc (.cells (C_ v) 36)).alloc (.cells Hh.k 36)).alloc (.cells #[.int .i64 0,.int .i64 0,.int .i64 0,.string ⟨#[]⟩] 81));have hk0:Aa [] w w0:=by rw [<- hw0];exact(((Aa.refl [] w).alloc _).alloc _).alloc _
 have hb0:Blk w0 w 36 (C_ v):=by rw [<- hw0];exact((Blk.new w _ _).alloc _).alloc _
 have HB1:Hi (Blk w0 (w+1) 36 (ctlA cv0)):=lH (by rw [<- hw0];exact(Ar _ _ _ _ bA).alloc _);have HB2:Hi (Blk w0 (w+1+1) 81 (effA Cp)):=lH lW;have q:=hb0.rl;have HB0:=lH hb0;have HK0:=lH hk0;have HC:=JX (.slice v.oa v.on v.oc) (.slice v.r.s.ga v.gn v.r.s.gc) (.slice v.r.s.ua v.un v.r.s.uc) (.slice v.r.s.fa v.fn v.r.s.fc) (.slice v.r.la v.ln v.r.lc) (.int .i64 v.seq) (.slice v.pa v.pn v.pc) (.int .i64 v.nx) (.slice v.da v.dn v.dc) v.ja v.jn v.jc c.jobs h.jn (by have:=h.jl;omega) conn w0 (h.j.keeps hk0);obtain⟨b,hb⟩:=eX (JY c);obtain⟨Z,hZ⟩:=eX (BF c.jobs conn);obtain⟨R,hR⟩:=eX (EC c conn now left);rw [hR];unfold EC at hR;rw [hb,hZ] at hR;rw [hZ] at HC;have HR:=lH hR;have H:=lH h;have HB:=lH hb;have HZ:=lH hZ;have HE:Hi (∀W,Aa [] w W->Gu W):=lH fun W hk=>hE.keeps hk;have HFIN:Hi (∀(k:Int) (W:World) (tmps:Array Value),Aa [] w0 W->tmps.getD 8 UD = .pointer (some (A1 w 0))->tmps.getD 9 UD = .pointer (some (A2 w 0))->tmps.getD 10 UD = .int .i64 k->
   R=(Hl,Cp,k)->bodyPost prog f20 (SQ w R) .ret { tmps:=tmps,defers:=[] } ((W.setRow (w+1) (ctlA cv0)).setRow (w+1+1) (effA Cp))):=lH (by
  rintro k W tmps hk h8 h9 h10 rfl;have hb1:=(HB1.o.keeps hk bA).row (ctlA cv0);have hb2:=((HB2.o.keeps hk bA).keeps (Br _ (w+1) (ctlA cv0)) bA).row (effA Cp);refine bodyPost_ret (v:=.tuple #[.agg (ctlA cv0),.agg (effA Cp),.int .i64 k]) (Hu rfl _ _ (w+1) (w+1+1) 36 81 (ctlA cv0) (effA Cp) _ _ _ h8 h9 h10 (hb1.keeps (Br _ _ _) bA) hb2 underlying36 rfl (AD _) underlying81 rfl (Ji _)) rfl ⟨cv0,rfl,Gz _,G0 _,?_⟩;exact((HK0.o.trans hk).own (Br _ _ _) bF).own (Br _ _ _) bF)
 clear hk0 hb0 h hb hZ hR hE;go_enter func20,ntmps20;go_wp2_with fail;refine HC.mono ?_;rintro e w1 ⟨rfl,hk1⟩;have HK1:=lH hk1;have HC0:=lH (HB0.o.keeps hk1 bA);clear hw0 hk1 HC q;have q:=HC0.o.rl;go_wp2_with fail;refine(Ij v c b HB.o _ (H.o.keeps (HK0.o.trans HK1.o))).mono ?_;rintro e w2 ⟨rfl,hk2⟩;have HK2:=lH (HK1.o.trans hk2);have HD0:=lH (HC0.o.keeps hk2 bA);have HZ1:=lH (HB1.o.keeps HK2.o bA);have HZ2:=lH ((HB2.o.keeps HK2.o bA).keeps (Br _ (w+1) (ctlA cv0)) bA);clear hk2 q HC0;have q:=HD0.o.rl;cases b with
 | false=>
  go_wp2_with (first | (refine wpList_store_row bD 36 _ _ bD (w+1) (ctlA cv0) bD bD 36 (ctlA cv0) HZ1.o (AD cv0) rfl (Bc cv0) ?_) | (refine wpList_store_row bD 81 _ _ bD (w+1+1) (effA Cp) bD bD 81 (effA Cp) HZ2.o (Ji Cp) rfl (J7 Cp) ?_));exact HFIN.o 190 w2 _ HK2.o rfl rfl rfl (by rw [<- HR.o];rfl)
 | true=>
  have hcase:now<0\/(¬now<0/\1000000000000<now)\/(¬now<0/\¬1000000000000<now/\left<0)\/(¬now<0/\¬1000000000000<now/\¬left<0):=bB;rcases hcase with h1 | ⟨h1,h2⟩ | ⟨h1,h2,h3⟩ | ⟨h1,h2,h3⟩
  rotate_left 3
  ·have HA:Hi (¬(now<0\/1000000000000<now\/left<0)):=lH bB
   cases Z with
   | none=>
    simp only [Option.getD_none,Option.isSome_none];go_wp2_with (first | (refine wpList_store_row bD 36 _ _ bD (w+1) (ctlA cv0) bD bD 36 (ctlA cv0) HZ1.o (AD cv0) rfl (Bc cv0) ?_) | (refine wpList_store_row bD 81 _ _ bD (w+1+1) (effA Cp) bD bD 81 (effA Cp) HZ2.o (Ji Cp) rfl (J7 Cp) ?_));exact HFIN.o 192 w2 _ HK2.o rfl rfl rfl (by rw [<- HR.o,if_pos True.intro,if_neg HA.o])
   | some i=>
    simp only [Option.getD_some,Option.isSome_some];have hi:i<c.jobs.length:=Pu HZ.o;have HI:=lH hi;obtain⟨u,hu⟩:∃u,c.jobs[i]? = some u:=⟨_,List.getElem?_eq_getElem hi⟩;have hgd:c.jobs.getD i job0=u:=by rw [List.getD_eq_getElem?_getD,hu];rfl
    have HCO:=lH ((G1 c).1 HB.o);have hum:u∈c.jobs:=List.mem_of_getElem? hu;have HUJ:=lH (And.intro (HCO.o.job u hum) (H.o.js u hum));obtain⟨S,hS⟩:=eX (Co u c now left);have HS:=lH hS;have HR3:Hi (({ S.2.1 with jobs:=if S.2.2.kind=2 then(c.jobs.set i S.1).eraseIdx i else c.jobs.set i S.1 },S.2.2,(0:Int))=R):=lH (by rw [<- HR.o,if_pos rfl,if_neg HA.o];simp only [hgd,hS]);have HSO:Hi (O9 S.1):=lH (by
     have:=eK (j:=u) (c:=c) (now:=now) (left:=left) HUJ.o.2.2;rw [hS] at this;exact⟨by rw [this.2];exact HUJ.o.2.1,this.1⟩)
    have HU:=lH hu;have HJN:Hi (c.jobs.length=v.jn/\v.jn<=900):=lH ⟨H.o.jn,H.o.jl⟩;clear hi hu hgd hS hum;go_wp2_with fail;refine(Rh v c _ (H.o.keeps (HK0.o.trans HK2.o))).mono ?_;rintro e w3 ⟨v',rfl,hm,hjn,hrow,hjb,hno,hpf,hk3⟩;have HD3:=lH (HD0.o.keeps hk3 bA);obtain⟨w4,hw4⟩:=eX (w3.setRow w (ctlA v'));have hk4:Aa [w.heap.size] w3 w4:=by rw [<- hw4];exact Br _ _ _
    have hlt:w.heap.size<w2.heap.size:=HD0.o.lt;have HB4:Hi (Blk w4 w 36 (C_ v')):=lH (by rw [<- hw4];exact HD3.o.row _);have HRW:Hi (w4.ownsRow w2 67 24 (.slice v'.ja v'.jn v'.jc) v'.jn (c.jobs.flatMap encJob)):=lH (Ah hrow hk4 (fun g hg hm'=>by have:=(hrow.lt g hg).1;have:=List.mem_singleton.1 hm';omega));have HM4:Hi (Cg w4 v' c):=lH (hm.stay (Q:=(· < w2.heap.size)) hno (Ey hrow (fun g hg hq=>by have:=(hrow.lt g hg).1;omega)) hk4 (fun y hy=>by obtain rfl:=List.mem_singleton.1 hy;exact hlt) (H9.blk HD3.o bE bE));have HK4:Hi (Aa [] w w4):=lH (((HK0.o.trans HK2.o).trans hk3).own hk4 bF);have HY1:Hi (Blk w4 (w+1) 36 Hh.k):=lH (((HB1.o.keeps HK2.o bA).keeps hk3 bA).keeps hk4 bA);have HY2:Hi (Blk w4 (w+1+1) 81 #[.int .i64 0,.int .i64 0,.int .i64 0,.string ⟨#[]⟩]):=lH (((HB2.o.keeps HK2.o bA).keeps hk3 bA).keeps hk4 bG);have HJB:=lH hjb;have HJ2:=lH hjn;have HLT:=lH hlt;have HNO:=lH hno;have HPF:=lH (hpf.down (B':=w.heap.size) (by have:=HK0.o.size;have:=HK2.o.size;omega));have HLW:Hi (∀y,y<w.heap.size+3->y<w2.heap.size):=lH (fun y hy=>by have:=(HB2.o.keeps HK2.o bA).lt;omega);clear hm hjn hrow hjb hno hk3 hk4 hlt h1 h2 h3;go_upto_region 9 with(refine wpList_store_row bD 36 _ _ bD w (ctlA v') bD bD 36 (ctlA v) HD3.o (AD v') rfl (Bc v') ?_)
    simp only [Act.put];rw [hw4];clear hw4 q;obtain⟨g1,o1,u1,hja,hg1,hx1,hat1⟩:=HM4.o.j.at_k (k:=i) HI.o;obtain rfl:u1=u:=by have:=HU.o;rw [hx1] at this;injection this
    have HQ:Hi (∀W,Aa [] w4 W->W.rangeAt g1 (o1+i*24) (jobA u1).toList):=lH (fun W hk=>JC (fun j x hx=>(hk.cell (p:=A_ g1 (o1+i*24+j)) hg1 bA).trans (hat1 j x hx)));have q:=HB4.o.rl;have i1:(0:Int)<=(i:Int):=bB;have i2:(i:Int)<(v'.jn:Int):=by have:=HI.o;have:=HJN.o.1;have:=HJ2.o;omega
    clear hx1 hat1;go_cut [13] (fun x wc=>∃sb,x = .pointer (some (A_ sb 0))/\Hi (AH wc sb u1 v' now left Cp)/\Hi (Aa [] w4 wc)/\Hi (w4.heap.size<=sb))
    case first=>
     refine wp_region_held_drew (S:=(Aa [] w4)) bC (by((try dsimp only);(repeat(with_reducible first | exact Aa.refl _ _ | refine Aa.drew ?_ | refine Aa.alloc ?_ _)))) (fun hHeld=>?_);refine rK 0 ?_;refine rK 1 ?_;refine rK 2 ?_;refine rK 3 ?_;refine rQ 4 ?_ (hy:=by(intro wS hSw;refine(EO (P:=prog) 67 _ bD g1 (o1+i*24) bD (jobA u1) _ (HQ.o wS hSw) underlying67 rfl (D2 _)).trans ?_;with_reducible rfl));refine rK 5 ?_;refine rK 6 ?_;refine rK 7 ?_;refine rQ 8 ?_ (hy:=by(intro wS hSw;refine Eq.trans (b:=.ok (.value (.agg (Kj u1 (.slice v'.oa v'.on v'.oc) (.slice v'.r.s.ga v'.gn v'.r.s.gc) (.slice v'.r.s.ua v'.un v'.r.s.uc) (.slice v'.r.s.fa v'.fn v'.r.s.fc) (.slice v'.r.la v'.ln v'.r.lc) (.int .i64 v'.seq) (.slice v'.pa v'.pn v'.pc) (.int .i64 v'.nx) (.slice (some (A_ g1 o1)) v'.jn v'.jc) (.slice v'.da v'.dn v'.dc) now left Cp))) wS) ?_ ?_;(· kernel_rfl);(· with_reducible rfl)));refine rC 9 fun K hK=>?_;go_simp
     (try clear rH);refine rP hK (by((try dsimp only);(repeat(with_reducible first | exact Aa.refl _ _ | refine Aa.drew ?_ | refine Aa.alloc ?_ _)))) fun rH hHeld=>?_;clear hK K
     refine rK 10 ?_;refine wpAnyH_done bC ?_ _
     (go_wp2_with fail;go_meet;exact⟨w4.heap.size,rfl,lH (by unfold AH;rw [hja];exact Blk.drew (Blk.new w4 _ _)),lH hHeld,lH (Nat.le_refl _)⟩)
    case rest=>
     obtain⟨sb,rfl,HST,HKC,HSB⟩:=hcut
     rename World=>wc
     have hz4:w.heap.size+3<=w4.heap.size:=by have:=HY2.o.lt;omega
     have HSI:Hi (SI w sb wc v' c):=lH ⟨HK4.o.trans HKC.o,by have:=HSB.o;omega,HM4.o.keeps HKC.o,
      ⟨(HM4.o.o.no HM4.o.on (Q:=(· = sb)) nM).and2 (HNO.o.o.mono (Q:=(· < w.heap.size+3)) HLW.o) (fun _ h=>h),
       (HM4.o.r.later (Q:=(· = sb)) nM).and2 (HNO.o.r.mono (Q:=(· < w.heap.size+3)) HLW.o) (fun _ h=>h),
       (HM4.o.d.no HM4.o.dn (Q:=(· = sb)) nM).and2 (HNO.o.d.mono (Q:=(· < w.heap.size+3)) HLW.o) (fun _ h=>h)⟩,
      Ey HRW.o (fun g hg hq=>by have h1:=(HRW.o.lt g hg);have h2:=HSB.o;rcases hq with h | h;(· omega);(· have:=HLW.o g h;omega)),HPF.o⟩
     obtain⟨f,hlk,hent,hcall⟩:=Ua w sb u1 c now left (HE.o w (Aa.refl [] w)) HUJ.o.1 HUJ.o.2 HCO.o;rw [HS.o] at hcall;have HENT:=lH hent;have HCALL:=lH hcall;have r:=(AH.lit HST.o).rl;clear q i1 i2 hja hg1 hent hcall hz4;go_upto_region 10 with fail
     go_cut [14] (fun x wd=>x = .func (.func f) #[] #[]/\Hi (Aa [] wc wd))
     case first=>
      refine wp_region_held_drew (S:=(Aa [] wc)) bC mP (fun hHeld=>?_);refine rK 1 ?_;refine rK 2 ?_;refine rK 3 ?_;refine rK 4 ?_;refine rK 5 ?_;refine rC 0 fun K hK=>?_;go_simp
      (refine(Ub _).mono ?_;rintro er w5 ⟨rfl,hw5⟩;have hk5:Aa [] wc w5:=(by rw [<- hw5];exact((Aa.refl [] wc).drew).alloc _);have hl5:=hlk w5 wc (by subst hw5;exact heap_alloc_new _ _);clear hw5)
      (try clear rH);refine rP hK mP fun rH hHeld=>?_;clear hK K
      refine rC 6 fun K hK=>?_;go_simp
      (try clear rH);refine rP hK mP fun rH hHeld=>?_;clear hK K
      refine rK 7 ?_;refine wpAnyH_done bC ?_ _
      (go_wp2_with fail;go_meet;exact⟨rfl,lH hk5⟩)
     case rest=>
      obtain⟨rfl,HKD⟩:=hcut
      rename World=>wd
      clear r hlk;have HSD:Hi (AH wd sb u1 v' now left Cp):=lH (AH.keeps HST.o HKD.o bA);go_wp2_with fail;rw [HENT.o,Oper.upon_enter];refine(HCALL.o _ v' (HSI.o.keeps HKD.o) HSD.o).mono ?_;rintro er w7 ⟨v7,rfl,hb7,hi7,hk7⟩;have HST7:=lH hb7;have HSI7:=lH hi7;have HK7:Hi (Aa [sb] w4 w7):=lH (((HKC.o.trans HKD.o).mono bA).trans hk7);have hsz:w4.heap.size<=sb:=HSB.o;have hb0:w.heap.size<w4.heap.size:=HB4.o.lt;have HB7:=lH (HB4.o.keeps HK7.o bG);have HY1':=lH (HY1.o.keeps HK7.o (by have:=HY1.o.lt;simp;omega));have HY2':=lH (HY2.o.keeps HK7.o (by have:=HY2.o.lt;simp;omega));have HRW7:=lH (Ah HRW.o HK7.o (fun g hg hm'=>by have:=(HRW.o.lt g hg).2;have:=List.mem_singleton.1 hm';omega));have HJL:Hi (c.jobs.length=v'.jn/\v'.jn<=900):=lH ⟨HJN.o.1.trans HJ2.o.symm,by have:=HJN.o.2;have:=HJ2.o;omega⟩;have q:=HB7.o.rl;clear hb7 hi7 hk7 hsz hb0;go_wp2_with fail;refine(UE v'.ja v'.jc c.jobs v'.jn HJL.o.1 (by have:=HJL.o.2;omega) _ (AR.row Dc (by rw [HJL.o.1];exact HRW7.o))).mono ?_;rintro er w8 ⟨a8,k8,rfl,hs8,ho8,hk8⟩;obtain⟨g8,rfl⟩:∃g8,a8=some (A_ g8 0):=by
       rcases ho8.2 with⟨_,h2⟩ | ⟨g,cap,cur,h1,_⟩
       ·have:=HJL.o.1;have:=HI.o;omega
       ·injection h1 with h1 _ _
        exact⟨g,h1⟩
      have hput:=eE Dc HJL.o.1 (i:=i) (by have:=HJL.o.1;have:=HI.o;omega) ho8 S.1;have hg8:=ho8.lt g8 rfl;have HTH:=lH hput.1;have HROW:=lH hput.2;have HST8:Hi (AH w8 sb S.1 v7 now left S.2.2):=lH (AH.keeps HST7.o hk8 bA);have HJR:=lH (AH.jobs HST8.o);have hsb8:sb<w7.heap.size:=Blk.lt HST7.o;have HG8:Hi (w7.heap.size<=g8/\g8<w8.heap.size/\¬sb=g8):=lH ⟨hg8.1,hg8.2,by omega⟩;have HK8:=lH hk8;obtain⟨w9,hw9⟩:=eX (w8.setCells g8 (i*24) (jobA S.1).toList);have HR9:Hi (w9.ownsRow w7 67 24 (.slice (some (A_ g8 0)) v'.jn k8) v'.jn ((c.jobs.set i S.1).flatMap encJob)):=lH (by rw [<- hw9];exact hput.2);have HK9:Hi (Aa [g8] w8 w9):=lH (by rw [<- hw9];exact Bb _ _ _ _);have HK79:Hi (Aa [] w7 w9):=lH (hk8.own HK9.o (fun y hy=>by obtain rfl:=List.mem_singleton.1 hy;exact hg8.1));have HST9:Hi (AH w9 sb S.1 v7 now left S.2.2):=lH (AH.keeps HST7.o HK79.o bA);have r:=(AH.lit HST8.o).rl;have i1:(0:Int)<=(i:Int):=bB;have i2:(i:Int)<(v'.jn:Int):=by have:=HI.o;have:=HJL.o.1;omega
      obtain⟨bk,hbk⟩:=eX ((S.2.2.kind==2));have HBK:=lH hbk;clear hs8 ho8 hk8 hput hg8 hsb8 q hbk;go_upto_region 14 with(first | (refine Ay bD 67 _ bD sb 0 bD (jobA S.1) _ HJR.o underlying67 rfl (D2 _) ?_) | (refine wpList_store_mid bD 67 _ _ bD g8 (i*24) (jobA S.1) bD bD HTH.o (D2 _) (Gp _) ?_))
      simp only [Act.put];rw [hw9];clear hw9 r;have r:=(AH.lit HST9.o).rl;have hbk:=HBK.o;have hw1:IntKind.i64.wrap ((i:Int)+1)=(i:Int)+1:=IntWalk.i64_in _ (by have:=HJL.o.2;omega);obtain⟨JL,hJL⟩:=eX ((if S.2.2.kind=2 then(c.jobs.set i S.1).eraseIdx i else c.jobs.set i S.1));rw [hJL] at HR3;have HJQ:=lH hJL;clear hJL;go_upto_if 83 with fail
      clear hbk;go_cut [15] (fun x we=>∃n k,x = .slice (some (A_ g8 0)) n k/\Hi (Kt we (some (A_ g8 0)) k JL/\JL.length=n/\n<=v'.jn)/\Hi (Aa [g8] w9 we))
      case first=>
       cases bk
       ·have hE:JL=c.jobs.set i S.1:=by rw [<- HJQ.o,if_neg (by simpa using HBK.o)]
        have HEQ:=lH hE;clear hE;go_wp2_with fail;go_meet;exact⟨v'.jn,k8,rfl,lH ⟨by rw [HEQ.o];exact AR.row Dc (by rw [List.length_set,HJL.o.1];exact HR9.o),by rw [HEQ.o,List.length_set,HJL.o.1],Nat.le_refl _⟩,lH (Aa.refl _ _)⟩
       ·have hE:JL=(c.jobs.set i S.1).eraseIdx i:=by rw [<- HJQ.o,if_pos (by simpa using HBK.o)]
        have HEQ:=lH hE;clear hE;go_wp2_with fail;refine(cF (c.jobs.set i S.1) v'.jn i g8 k8 w7 (by rw [List.length_set,HJL.o.1]) bB (by have:=HJL.o.2;omega) _ HR9.o).mono ?_;rintro er w5 ⟨rfl,hs5,hk5⟩;have HS5:=lH hs5;have HK5:=lH hk5;clear hs5 hk5;go_wp2_with fail;go_meet;exact⟨v'.jn - 1,k8,rfl,lH ⟨by rw [HEQ.o];exact HS5.o,by rw [HEQ.o,List.length_eraseIdx,List.length_set,HJL.o.1,if_pos bB],by omega⟩,HK5⟩
      case rest=>
       obtain⟨n,k,rfl,HJM,HKE⟩:=hcut
       rename World=>we
       clear r;have HKE0:Hi (Aa [] w7 we):=lH (HK79.o.own HKE.o (fun y hy=>by obtain rfl:=List.mem_singleton.1 hy;exact HG8.o.1));have HSTE:Hi (AH we sb S.1 v7 now left S.2.2):=lH (AH.keeps HST7.o HKE0.o bA);obtain⟨v8,hv8⟩:∃v8:CV,{ v7 with ja:=some (A_ g8 0),jn:=n,jc:=k } = v8:=⟨_,rfl⟩;obtain⟨wr,hwr⟩:=eX (we.setCell (A_ sb 32) (.slice (some (A_ g8 0)) n k));have HSTR:Hi (AH wr sb S.1 v8 now left S.2.2):=lH (by rw [<- hwr,<- hv8];exact AH.put HSTE.o _ n k);have HKR:Hi (Aa [sb] w7 wr):=lH ((HKE0.o.mono bA).trans (by rw [<- hwr];exact Ae _ sb 32 _));have hz:=HSI7.o.lo;have HZ7:Hi (w.heap.size+3<=w4.heap.size/\w4.heap.size<=sb/\sb<w7.heap.size):=lH ⟨by have:=HY2.o.lt;omega,HSB.o,Blk.lt HST7.o⟩;have HYR1:=lH (HY1'.o.keeps HKR.o bG);have HYR2:=lH (HY2'.o.keeps HKR.o bG);have HFIN2:Hi (∀W,Aa [w.heap.size+1,w.heap.size+1+1] wr W->SQ w R (.returned (.tuple #[.agg (ctlA v8),.agg (effA S.2.2),.int .i64 0])) W):=lH (fun W hk=>by
        have hk7:Aa [sb,w.heap.size+1,w.heap.size+1+1] w7 W:=(HKR.o.mono bA).trans (hk.mono (by intro y hy;simp only [List.mem_cons,List.not_mem_nil,or_false] at hy ⊢;omega));have hkw:Aa [sb,w.heap.size+1,w.heap.size+1+1] we W:=((Ae we sb 32 (.slice (some (A_ g8 0)) n k)).mono bA).trans ((by rw [hwr];exact hk.mono (by intro y hy;simp only [List.mem_cons,List.not_mem_nil,or_false] at hy ⊢;omega)));have hz7:=HZ7.o;have hg8:=HG8.o;have hjm:Kt W (some (A_ g8 0)) k JL:=HJM.o.1.keepsN hkw (fun _ g o e hm'=>by
         injection e with e;injection e with e _ _
         subst e;simp only [List.mem_cons,List.not_mem_nil,or_false] at hm';omega)
        have hjs:∀x∈JL,O9 x:=fun x hx=>by
         have hx2:x∈c.jobs.set i S.1:=by
          rw [<- HJQ.o] at hx;split at hx
          ·exact List.mem_of_mem_eraseIdx hx
          ·exact hx
         rcases List.mem_or_eq_of_mem_set hx2 with h | h
         ·exact H.o.js x h
         ·rw [h];exact HSO.o
        have hoff:H9 w7 [sb,w.heap.size+1,w.heap.size+1+1]:=fun y hy=>by
         simp only [List.mem_cons,List.not_mem_nil,or_false] at hy;rcases hy with rfl | rfl | rfl
         ·exact N1 HST7.o y bA
         ·exact H9.blk HY1'.o bE bE _ bA
         ·exact H9.blk HY2'.o bE bE _ bA
        have hM:=HSI7.o.m.jobs HSI7.o.no hk7 (fun y hy=>by simp only [List.mem_cons,List.not_mem_nil,or_false] at hy;show y=sb\/_;omega) hoff hjm HJM.o.2.1 (by have:=HJM.o.2.2;have:=HJL.o.2;omega) hjs;rw [hv8] at hM;have hno:Fo w { v7 with ja:=some (A_ g8 0),jn:=n,jc:=k } { S.2.1 with jobs:=JL }:=
         ⟨⟨HSI7.o.no.o.mono (fun y (hy:y<_)=>.inr bB),HSI7.o.no.r.mono (fun y (hy:y<_)=>.inr bB),HSI7.o.no.d.mono (fun y (hy:y<_)=>.inr bB)⟩,fun _ g o e (hq:g<_)=>by
          injection e with e;injection e with e _ _
          omega,HSI7.o.pf⟩
        rw [hv8] at hno;refine⟨v8,by rw [<- HR3.o],by rw [<- HR3.o];exact hM,by rw [<- HR3.o];exact hno,?_⟩;exact(((HK4.o.own HK7.o (fun y hy=>by obtain rfl:=List.mem_singleton.1 hy;omega)).own HKR.o (fun y hy=>by obtain rfl:=List.mem_singleton.1 hy;omega)).own hk bF))
       have r:=(AH.lit HSTE.o).rl;have hsb1:¬sb=w.heap.size+1:=bB;have hsb2:¬sb=w.heap.size+1+1:=bB;clear hz hv8;go_step;go_step;go_upto_region 17 with fail
       clear hwr r;have r:=(AH.lit HSTR.o).rl;refine wp_region_held_drew (S:=(Aa [w.heap.size+1,w.heap.size+1+1] wr)) bC mT (fun hHeld=>?_);refine rK 0 ?_;refine rK 1 ?_;refine rK 2 ?_;refine rK 3 ?_;refine rK 4 ?_;refine rK 5 ?_;refine rK 6 ?_;refine rK 7 ?_;refine rC 8 fun K hK=>?_
       (refine DT 36 _ _ bD (w+1) (ctlA v8) bD bD 36 Hh.k (Blk.drew HYR1.o) rfl (AD _) (Bc _) ?_;intro wS HRB hkS;have hkS':Aa [w.heap.size+1,w.heap.size+1+1] wr wS:=((Aa.refl _ wr).drew).trans (hkS.mono bA))
       (try clear rH);refine rP hK mT fun rH hHeld=>?_;clear hK K
       refine rC 9 fun K hK=>?_
       (refine DT 81 _ _ bD (w+1+1) (effA S.2.2) bD bD 81 #[.int .i64 0,.int .i64 0,.int .i64 0,.string ⟨#[]⟩] ((Blk.drew HYR2.o).keeps hkS bA) rfl (Ji _) (J7 _) ?_;intro wT HAB hkT;have hkT':Aa [w.heap.size+1,w.heap.size+1+1] wr wT:=hkS'.trans (hkT.mono bA))
       (try clear rH);refine rP hK mT fun rH hHeld=>?_;clear hK K
       refine rK 10 ?_;refine wpAnyH_done bC ?_ _
       (go_wp2_with fail;exact bodyPost_ret (v:=.tuple #[.agg (ctlA v8),.agg (effA S.2.2),.int .i64 0]) (Hu rfl _ _ (w+1) (w+1+1) 36 81 (ctlA v8) (effA S.2.2) _ _ _ rfl rfl rfl (HRB.keeps hkT bA) HAB underlying36 rfl (AD _) underlying81 rfl (Ji _)) rfl (HFIN2.o wT hkT'))
  all_goals
   have HA:Hi (now<0\/1000000000000<now\/left<0):=lH bB;go_wp2_with (first | (refine wpList_store_row bD 36 _ _ bD (w+1) (ctlA cv0) bD bD 36 (ctlA cv0) HZ1.o (AD cv0) rfl (Bc cv0) ?_) | (refine wpList_store_row bD 81 _ _ bD (w+1+1) (effA Cp) bD bD 81 (effA Cp) HZ2.o (Ji Cp) rfl (J7 Cp) ?_));exact HFIN.o 2 w2 _ HK2.o rfl rfl rfl (by rw [<- HR.o,if_pos True.intro,if_pos HA.o])
def Xw(w:World)(R:BN×ByteArray):Ending->World->Prop:=fun r w'=>∃v,r = pJ (.tuple #[pH (ctlA v),Dz R.2])/\Cg w' v R.1/\Fo w.heap.size v R.1/\Aa [] w w'
theorem Cg.put{w w':World}{B b:Nat}{v:CV}{c:BN}{t:TypeId}{cs:Array Value}(h:Cg w v c)(hn:Fo B v c)(hb:b<B)(hB:Blk w b t cs)(h1:t≠43)(h2:t≠9)(hk:Aa [b] w w'):Cg w' v c:=
 h.stay hn.1 hn.2.1 hk (fun y hy=>by obtain rfl:=Ag.1 hy;exact hb) (H9.blk hB h1 h2)
theorem FH(v:CV)(c:BN)(conn:Int)(line:ByteArray)(now:Int)(Y:line.size<=1000000)(w:World)(hE:Gu w)(h:Cg w v c):
  Calls prog 10 #[pH (C_ v),I_ conn,Dz line,I_ now] w (Xw w (pZ c conn line now)):=by
 obtain⟨w0,hw0⟩:=eX ((w.alloc (.cells (C_ v) 36)).alloc (.cells Hh.k 36));have hk0:Aa [] w w0:=by rw [<- hw0];exact((Aa.refl [] w).alloc _).alloc _
 have al:w0.heap.size=w.heap.size+2:=by rw [<- hw0];simp
 have hb0:Blk w0 w 36 (C_ v):=by rw [<- hw0];exact(Blk.new w _ _).alloc _
 have HB1:Hi (Blk w0 (w+1) 36 Hh.k):=lH lW;have q:=hb0.rl;have HB0:=lH hb0;have HK0:=lH hk0;have HS0:=lH al;have HE:Hi (∀W,Aa [] w W->Gu W):=lH fun W hk=>hE.keeps hk;have HC:=OH v c conn line Y w0 (hE.keeps hk0).s.et (h.keeps hk0);obtain⟨R,hR⟩:=eX (pZ c conn line now);rw [hR];unfold pZ at hR;obtain⟨C,hC⟩:=eX (Fj c conn line);rw [hC] at hR HC;obtain⟨C1,er⟩:=C;have HR:=lH hR;clear hk0 hb0 al h hE hR hC;go_enter func10,ntmps10;go_wp2_with fail;clear hw0;refine HC.mono ?_;rintro e w1 ⟨v1,rfl,ai,ak,hk1⟩;have aq:=lH ai;have ae:=lH ak;have HK1:=lH hk1;have HC0:=lH (HB0.o.keeps hk1 bA);have an:=lH (HB1.o.keeps hk1 bA);have hlt:w.heap.size<w0.heap.size/\w.heap.size+1<w0.heap.size:=by have:=HS0.o;omega
 have HLT:=lH hlt;clear ai ak hk1 HC q hlt;go_wp2_with (refine As bD 36 _ _ bD w (ctlA v1) bD bD 36 (C_ v) HC0.o rfl (AD v1) (Bc v1) ?_;intro w2 hb2 hk2);have HB2:=lH hb2;have HK2:=lH hk2;have ar:Hi (Cg w2 v1 C1):=lH (aq.o.put ae.o HLT.o.1 HC0.o bE bE hk2);have ao:Hi (Blk w2 (w+1) 36 Hh.k):=lH (an.o.keeps hk2 bA);have HKW:Hi (Aa [] w w2):=lH ((HK0.o.trans HK1.o).own hk2 bF);clear hb2 hk2;go_loopw [11] (fun i wr=>∃(k:Nat) (B:CV) (F:BN),k<=6/\i = I_ k/\Hi (Blk wr w 36 (ctlA B)/\Blk wr (w+1) 36 Hh.k)/\Hi (Cg wr B F/\Fo w0 B F)/\Hi ((if er=0 then D9 (6 - k) F conn now else(F,⟨#[]⟩))=R)/\Hi (Aa [] w wr)) (fun i _=>6 - (intOf i).toNat)
 case atStart=>exact⟨0,v1,C1,by omega,rfl,lH ⟨HB2.o,ao.o⟩,lH ⟨ar.o,ae.o⟩,lH HR.o,HKW⟩
 case round=>
  obtain⟨k,B,F,hk,rfl,HBB,M,U,HKR⟩:=hrel;have T:Hi (∀W W9,Aa [] wr W->(F,⟨#[]⟩)=R->Aa [w.heap.size+1] W W9->Xw w R (pJ (.tuple #[pH (ctlA B),Dz ⟨#[]⟩])) W9):=lH (fun W W9 hk hR hk9=>by
   rw [<- hR];exact⟨B,rfl,(M.o.1.keeps hk).put M.o.2 HLT.o.2 (HBB.o.2.keeps hk bA) bE bE hk9,M.o.2.down vC,(HKR.o.trans hk).own hk9 bF⟩)
  have q:=(show Blk wr w 36 (C_ B) from HBB.o.1).rl;by_cases hlt:k<6;rotate_left
  ·obtain rfl:k=6:=bB;have hR:(F,⟨#[]⟩)=R:=by have:=U.o;split at this<;>exact this
   have D:=lH hR;clear hR hk hlt;go_wp2_with (refine As bD 36 _ _ bD (w+1) (ctlA B) bD bD 36 Hh.k HBB.o.2 rfl (AD B) (Bc B) ?_;intro w9 G hk9);exact bodyPost_ret (v:=.tuple #[pH (ctlA B),Dz ⟨#[]⟩]) (AS rfl _ _ (w+1) 36 (ctlA B) _ (Dz ⟨#[]⟩) rfl rfl G underlying36 rfl (AD _)) rfl (T.o wr _ (Aa.refl _ _) D.o hk9)
  have i1:(k:Int)<6:=bB;by_cases he:er=0;rotate_left
  ·have f0:(er==0)=false:=by simpa using he
   have hR:(F,⟨#[]⟩)=R:=by have:=U.o;rwa [if_neg he] at this
   have D:=lH hR;clear hR hk hlt he;go_wp2_with (refine As bD 36 _ _ bD (w+1) (ctlA B) bD bD 36 Hh.k HBB.o.2 rfl (AD B) (Bc B) ?_;intro w9 G hk9);exact bodyPost_ret (v:=.tuple #[pH (ctlA B),Dz ⟨#[]⟩]) (AS rfl _ _ (w+1) 36 (ctlA B) _ (Dz ⟨#[]⟩) rfl rfl G underlying36 rfl (AD _)) rfl (T.o wr _ (Aa.refl _ _) D.o hk9)
  ·have f0:(er==0)=true:=by simpa using he
   obtain⟨m,hm⟩:∃m,6 - k=m+1:=⟨5 - k,by omega⟩;obtain⟨S,hS⟩:=eX (EC F conn now 0);have af:Hi ((if S.2.2≠0 then(F,⟨#[]⟩) else if S.2.1.kind=2 then(S.1,S.2.1.text) else D9 m S.1 conn now)=R):=lH (by
    have:=U.o;rw [if_pos he,hm] at this;rw [<- this,<- hS];rfl)
   have HM:=lH (show 6 - (k+1)=m/\k+1<=6 from⟨by omega,by omega⟩);have ap:=lH he;have HST:=OJ B F conn now 0 wr (HE.o _ HKR.o) M.o.1;rw [hS] at HST;clear hm hS hk hlt he;go_wp2_with fail;refine HST.mono ?_;rintro e w3 ⟨E,rfl,aj,hn3,hk3⟩;have au:=lH aj;have N:Hi (Fo w0 E S.1):=lH (hn3.down (by have:=HBB.o.2.lt;have:=HS0.o;omega));have ab:=lH hk3;clear aj hn3 hk3 HST q;go_upto_region 6 with(first | (refine As bD 36 _ _ bD w3 (ctlA E) bD bD 36 Hh.k ((Blk.new w3 _ _).alloc _) rfl (AD E) (Bc E) ?_;intro w4 hb4 hk4) | (refine As bD 81 _ _ bD (w3+1) (effA S.2.1) bD bD 81 #[pE pK 0,I_ 0,I_ 0,Dz ⟨#[]⟩] ((Ar _ _ _ _ bA).keeps hk4 bA) rfl (Ji _) (J7 _) ?_;intro w5 ag hk5))
   try simp only [By]
   have hk35:Aa [] w3 w5:=((((Aa.refl [] w3).alloc _).alloc _).own hk4 bF).own hk5 bF;have J:Hi (Aa [] wr w5):=lH (ab.o.trans hk35);have av:=lH (au.o.keeps hk35);have aw:Hi (Blk w5 w3 36 (C_ E)):=lH (hb4.keeps hk5 bA);have ax:Hi (Blk w5 (w3+1) 81 #[pE pK S.2.1.kind,I_ S.2.1.slot,I_ S.2.1.gen,Dz S.2.1.text]):=lH ag;have X:Hi (Blk w5 w 36 (C_ B)):=lH (HBB.o.1.keeps J.o bA);have HX1:=lH (HBB.o.2.keeps J.o bA);have hsz:w.heap.size+1<w3.heap.size:=by have:=HBB.o.2.lt;have:=ab.o.size;omega
   clear hk35 hb4 hk4 ag hk5;have q0:=X.o.rl;have q4:=aw.o.rl;by_cases h2:S.2.2=0;rotate_left
   ·have f2:(S.2.2 != 0)=true:=kC;have hR:(F,⟨#[]⟩)=R:=by have:=af.o;rwa [if_pos h2] at this
    have D:=lH hR;clear hR h2;go_wp2_with (refine As bD 36 _ _ bD (w+1) (ctlA B) bD bD 36 Hh.k HX1.o rfl (AD B) (Bc B) ?_;intro w9 G hk9);exact bodyPost_ret (v:=.tuple #[pH (ctlA B),Dz ⟨#[]⟩]) (AS rfl _ _ (w+1) 36 (ctlA B) _ (Dz ⟨#[]⟩) rfl rfl G underlying36 rfl (AD _)) rfl (T.o w5 _ J.o D.o hk9)
   ·have f2:(S.2.2 != 0)=false:=kC;have HR3:Hi ((if S.2.1.kind=2 then(S.1,S.2.1.text) else D9 m S.1 conn now)=R):=lH (by have:=af.o;rwa [if_neg (by simp [h2])] at this);clear h2;go_upto_region 9 with(refine As bD 36 _ _ bD w (ctlA E) bD bD 36 (C_ B) X.o rfl (AD E) (Bc E) ?_;intro O ah hk6)
    try simp only [By]
    have aa:Hi (Blk O w 36 (C_ E)):=lH ah;have ac:Hi (Aa [] w O):=lH ((HKR.o.trans J.o).own hk6 bF);have ad:Hi (Cg O E S.1):=lH (av.o.put N.o HLT.o.1 X.o bE bE hk6);have HY1:=lH (HX1.o.keeps hk6 bA);have ay:=lH (ax.o.keeps hk6 bG);clear q0 q4 ah hk6;have q0:=aa.o.rl;have q5:=ay.o.rl;by_cases h3:S.2.1.kind=2
    ·have f3:(S.2.1.kind==2)=true:=by simpa using h3
     have hR:(S.1,S.2.1.text)=R:=by have:=HR3.o;rwa [if_pos h3] at this
     have D:=lH hR;have hne:¬w3.heap.size=w.heap.size:=bB;clear hR h3;go_upto_region 10 with fail
     refine wp_region_held_drew (S:=(Aa [w.heap.size+1] O)) bC (by((try dsimp only);(first | exact hkS' | exact(Aa.refl _ O).drew))) (fun hHeld=>?_);refine rK 0 ?_;refine rK 1 ?_;refine rK 2 ?_;refine rC 3 fun K hK=>?_
     (refine DT 36 _ _ bD (w+1) (ctlA E) bD bD 36 Hh.k (Blk.drew HY1.o) rfl (AD _) (Bc _) ?_;intro wS HRB hkS;have hkS':Aa [w.heap.size+1] O wS:=((Aa.refl _ O).drew).trans hkS)
     (try clear rH);refine rP hK (by((try dsimp only);(first | exact hkS' | exact(Aa.refl _ O).drew))) fun rH hHeld=>?_;clear hK K
     refine rK 4 ?_;refine wpAnyH_done bC ?_ _
     (go_wp2_with fail;exact bodyPost_ret (v:=.tuple #[pH (ctlA E),Dz S.2.1.text]) (AS rfl _ _ (w+1) 36 (ctlA E) _ (Dz S.2.1.text) rfl rfl HRB underlying36 rfl (AD _)) rfl (by rw [<- D.o];exact⟨E,rfl,ad.o.put N.o HLT.o.2 HY1.o bE bE hkS',N.o.down vC,ac.o.own hkS' bF⟩))
    ·have f3:(S.2.1.kind==2)=false:=by simpa using h3
     have HR4:Hi ((if er=0 then D9 (6 - (k+1)) S.1 conn now else(S.1,⟨#[]⟩))=R):=lH (by have:=HR3.o;rw [if_neg h3] at this;rw [if_pos ap.o,HM.o.1];exact this);clear h3;go_wp2_with fail;go_roundw;case rel=>exact⟨k+1,E,S.1,HM.o.2,by go_num,lH ⟨aa.o,HY1.o⟩,lH ⟨ad.o,N.o⟩,HR4,ac⟩
     case measure=>have:=HM.o.2;simp [intOf];omega
def ZF:BN:=(W6 [⟨⟨#[97,110,110]⟩,3⟩] 2).1
theorem iK:(W6 [⟨⟨#[97,110,110]⟩,3⟩] 2).2=0:=bC
theorem iL:(pZ ZF 0 ⟨#[97,110,110,32,49,32,99,114,101,97,116,101,32,97,99,109,101,32,107,32,49,48,48]⟩ 5).2=⟨#[111,107,32,49,32,49,32,48,32,49,32,49,32,49]⟩:=bC
theorem iM:(pZ (pZ ZF 0 ⟨#[97,110,110,32,49,32,99,114,101,97,116,101,32,97,99,109,101,32,107,32,49,48,48]⟩ 5).1 1 ⟨#[97,110,110,32,50,32,108,105,115,116,32,51]⟩ 5).2=⟨#[111,107,32,50,32,50,32,49,32,101,110,100,32,97,99,109,101]⟩:=bC
theorem ZG:(pZ (pZ (pZ ZF 0 ⟨#[97,110,110,32,49,32,99,114,101,97,116,101,32,97,99,109,101,32,107,32,49,48,48]⟩ 5).1 1 ⟨#[97,110,110,32,50,32,108,105,115,116,32,51]⟩ 5).1 0 ⟨#[97,110,110,32,49,32,99,114,101,97,116,101,32,97,99,109,101,32,107,32,49,48,48]⟩ 5).2=⟨#[111,107,32,49,32,49,32,48,32,49,32,49,32,49]⟩:=bC
theorem eI:(pZ (pZ (pZ (pZ ZF 0 ⟨#[97,110,110,32,49,32,99,114,101,97,116,101,32,97,99,109,101,32,107,32,49,48,48]⟩ 5).1 1 ⟨#[97,110,110,32,50,32,108,105,115,116,32,51]⟩ 5).1 0 ⟨#[97,110,110,32,49,32,99,114,101,97,116,101,32,97,99,109,101,32,107,32,49,48,48]⟩ 5).1 0 ⟨#[98,111,98,32,51,32,115,104,111,119,32,97,99,109,101,32,48]⟩ 5).2=⟨#[101,114,114,111,114,32,51,32,49,50,48]⟩:=bC
theorem eH:(pZ (pZ (pZ (pZ ZF 0 ⟨#[97,110,110,32,49,32,99,114,101,97,116,101,32,97,99,109,101,32,107,32,49,48,48]⟩ 5).1 1 ⟨#[97,110,110,32,50,32,108,105,115,116,32,51]⟩ 5).1 0 ⟨#[97,110,110,32,49,32,99,114,101,97,116,101,32,97,99,109,101,32,107,32,49,48,48]⟩ 5).1 0 ⟨#[119,104,97,116]⟩ 5).2=⟨#[101,114,114,111,114,32,48,32,49,57,51]⟩:=bC
theorem iJ:∃C0 C1 C2 C3 C4 C5,W6 [⟨⟨#[97,110,110]⟩,3⟩] 2=(C0,0)/\pZ C0 0 ⟨#[97,110,110,32,49,32,99,114,101,97,116,101,32,97,99,109,101,32,107,32,49,48,48]⟩ 5=(C1,⟨#[111,107,32,49,32,49,32,48,32,49,32,49,32,49]⟩)/\pZ C1 1 ⟨#[97,110,110,32,50,32,108,105,115,116,32,51]⟩ 5=(C2,⟨#[111,107,32,50,32,50,32,49,32,101,110,100,32,97,99,109,101]⟩)/\pZ C2 0 ⟨#[97,110,110,32,49,32,99,114,101,97,116,101,32,97,99,109,101,32,107,32,49,48,48]⟩ 5=(C3,⟨#[111,107,32,49,32,49,32,48,32,49,32,49,32,49]⟩)/\pZ C3 0 ⟨#[98,111,98,32,51,32,115,104,111,119,32,97,99,109,101,32,48]⟩ 5=(C4,⟨#[101,114,114,111,114,32,51,32,49,50,48]⟩)/\pZ C3 0 ⟨#[119,104,97,116]⟩ 5=(C5,⟨#[101,114,114,111,114,32,48,32,49,57,51]⟩):=
 ⟨_,_,_,_,_,_,Prod.ext rfl iK,Prod.ext rfl iL,Prod.ext rfl iM,Prod.ext rfl ZG,Prod.ext rfl eI,Prod.ext rfl eH⟩
theorem GD(w:World)(hE:Gu w):Calls prog 6 #[] w fun r w'=>r = pJ (pI true)/\Aa [] w w':=by
 obtain⟨C0,C1,C2,C3,C4,C5,h0,h1,h2,h3,h4,h5⟩:=iJ;have H1:=lH h1;have H2:=lH h2;have H3:=lH h3;have H4:=lH h4;have H5:=lH h5;have HE:Hi (∀W,Aa [] w W->Gu W):=lH fun W hk=>hE.keeps hk;obtain⟨wa,T⟩:=eX (w.alloc (.cells #[Dz ⟨#[97,110,110]⟩,I_ 3] 40));have ah:Aa [] w wa:=by rw [<- T];exact(Aa.refl [] w).alloc _
 have aj:IE wa (some (A_ w 0)) 1 [⟨⟨#[97,110,110]⟩,3⟩]:=by rw [<- T];exact AR.one (enc:=Eg) w ⟨⟨#[97,110,110]⟩,3⟩ 40 (Fc _)
 have HN:=XU (some (A_ w 0)) 1 [⟨⟨#[97,110,110]⟩,3⟩] 1 rfl bE bE 2 wa aj;rw [h0] at HN;have am:=lH ah;clear h0 h1 h2 h3 h4 h5 hE ah aj;go_enter func6,ntmps6;go_wp2_with fail;clear T;refine HN.mono ?_;rintro r w0 ⟨Y,rfl,ai,ar,hk0⟩;have ao:=lH ai;have HK0:=lH (am.o.trans hk0);clear ai ar hk0 HN;go_upto_region 2 with(refine As bD 36 _ _ bD w0 (ctlA Y) bD bD 36 Hh.k (Blk.new w0 _ _) rfl (AD Y) (Bc Y) ?_;intro u0 hb0 B)
 try simp only [By]
 obtain⟨O,hb1⟩:=eX w0.heap.size;have HB0:Hi (Blk u0 O 36 (C_ Y)):=lH (by rw [<- hb1];exact hb0);have D:Aa [] w0 u0:=((Aa.refl [] w0).alloc _).own B QW;have an:=lH (HK0.o.trans D);have ap:=lH (ao.o.keeps D);have HBB:Hi (w.heap.size<=O):=lH (by rw [<- hb1];exact HK0.o.size);rw [hb1];have q:=HB0.o.rl;clear hb1 hb0 B D;have ac:=ap;have E:=an;have HA:=FH Y C0 0 ⟨#[97,110,110,32,49,32,99,114,101,97,116,101,32,97,99,109,101,32,107,32,49,48,48]⟩ 5 bE u0 (HE.o _ E.o) ac.o;rw [H1.o] at HA;go_wp2_with fail;refine HA.mono ?_;rintro r w1 ⟨U,rfl,hm,hn,hk⟩;have HB:=lH (HB0.o.keeps hk bA);have HM:=lH hm;have HN:=lH hn;have HK:=lH hk;clear hm hn hk HA q;go_upto_region 5 with(refine As bD 36 _ _ bD O (ctlA U) bD bD 36 (C_ Y) HB.o rfl (AD U) (Bc U) ?_;intro u1 hb1 B)
 try simp only [By]
 have HB1:Hi (Blk u1 O 36 (C_ U)):=lH hb1;have ad:Hi (Cg u1 U C1):=lH (HM.o.put HN.o HB0.o.lt HB.o bE bE B);have F:Hi (Aa [] w u1):=lH ((E.o.trans HK.o).own B nC);clear hb1 B HB HM HN HK;have q:=HB1.o.rl;have HA:=FH U C1 1 ⟨#[97,110,110,32,50,32,108,105,115,116,32,51]⟩ 5 bE u1 (HE.o _ F.o) ad.o;rw [H2.o] at HA;go_wp2_with fail;refine HA.mono ?_;rintro r w2 ⟨v2,rfl,hm,hn,hk⟩;have HB:=lH (HB1.o.keeps hk bA);have HM:=lH hm;have HN:=lH hn;have HK:=lH hk;clear hm hn hk HA q;go_upto_region 6 with(refine As bD 36 _ _ bD O (ctlA v2) bD bD 36 (C_ U) HB.o rfl (AD v2) (Bc v2) ?_;intro u2 hb2 B)
 try simp only [By]
 have HB2:Hi (Blk u2 O 36 (C_ v2)):=lH hb2;have ae:Hi (Cg u2 v2 C2):=lH (HM.o.put HN.o HB1.o.lt HB.o bE bE B);have G:Hi (Aa [] w u2):=lH ((F.o.trans HK.o).own B nC);clear hb2 B HB HM HN HK;have q:=HB2.o.rl;have HA:=FH v2 C2 0 ⟨#[97,110,110,32,49,32,99,114,101,97,116,101,32,97,99,109,101,32,107,32,49,48,48]⟩ 5 bE u2 (HE.o _ G.o) ae.o;rw [H3.o] at HA;go_wp2_with fail;refine HA.mono ?_;rintro r w3 ⟨X,rfl,hm,hn,hk⟩;have HB:=lH (HB2.o.keeps hk bA);have HM:=lH hm;have HN:=lH hn;have HK:=lH hk;clear hm hn hk HA q;go_upto_region 7 with(refine As bD 36 _ _ bD O (ctlA X) bD bD 36 (C_ v2) HB.o rfl (AD X) (Bc X) ?_;intro u3 ag B)
 try simp only [By]
 have aa:Hi (Blk u3 O 36 (C_ X)):=lH ag;have N:Hi (Cg u3 X C3):=lH (HM.o.put HN.o HB2.o.lt HB.o bE bE B);have J:Hi (Aa [] w u3):=lH ((G.o.trans HK.o).own B nC);clear ag B HB HM HN HK;have q:=aa.o.rl;have HA:=FH X C3 0 ⟨#[98,111,98,32,51,32,115,104,111,119,32,97,99,109,101,32,48]⟩ 5 bE u3 (HE.o _ J.o) N.o;rw [H4.o] at HA;go_wp2_with fail;refine HA.mono ?_;rintro r w4 ⟨v4,rfl,hm,hn,hk⟩;have HK:=lH hk;clear hm hn hk HA q;go_upto_region 8 with(refine As bD 36 _ _ bD w4 (ctlA v4) bD bD 36 Hh.k (Blk.new w4 _ _) rfl (AD v4) (Bc v4) ?_;intro u4 hb4 B)
 try simp only [By]
 have hk4:Aa [] u3 u4:=HK.o.trans (((Aa.refl [] w4).alloc _).own B QW);have M:=lH (J.o.trans hk4);have af:=lH (N.o.keeps hk4);have q:=(aa.o.keeps hk4 bA).rl;clear hb4 B HK hk4;have HA:=FH X C3 0 ⟨#[119,104,97,116]⟩ 5 bE u4 (HE.o _ M.o) af.o;rw [H5.o] at HA;go_wp2_with fail;refine HA.mono ?_;rintro r w5 ⟨v5,rfl,hm,hn,hk⟩;have HK:=lH hk;clear hm hn hk HA q;go_upto_region 9 with(refine As bD 36 _ _ bD w5 (ctlA v5) bD bD 36 Hh.k (Blk.new w5 _ _) rfl (AD v5) (Bc v5) ?_;intro u5 aq B)
 try simp only [By]
 have ab:=lH ((M.o.trans HK.o).trans (((Aa.refl [] w5).alloc _).own B QW));clear aq B HK;go_wp2_with fail;go_ret;exact⟨rfl,ab.o⟩
end
section
open Go.ChangeShapes Go.WideShapes Go.ChangeAt Go.RowKit Go.Deep
theorem own:ownKnob prog.godebug=none:=bC
section
variable {H:Type} {enc:TypeId×Value->H}
theorem FO{a:Assume}{C:Checked}{os:Os}{f:FuncId}{fn:Func}{s:ChangeSpec}{G:List PathCond}{B J D F:Bool}{X:World->Array Value->Prop}
 (hX:∀(w w':World) (args:Array Value),w.heap=w'.heap->X w args->X w' args)
 (own:ownKnob C.prog.godebug=none)(M:os.Started)(O:C.prog.inits.idxOf? f=none)(ab:C.prog.funcs[f]? = some fn)
 (N:∃(w:World) (tape:Tape) (i:Input),w.os=os/\(w.forCall tape i).Shaped C.prog/\i.vars = []/\Input.okWide C.prog (w.forCall tape i) .any w f i/\
   ((s.pre enc C.prog fn G B (w.forCall tape i).memory i.args/\X (w.forCall tape i).memory i.args)/\sizedMet enc C.prog fn (OpenSpec.ofChange s) B (w.forCall tape i).memory i.args)/\a.holds C.prog (lone (Frame.enter C.prog f i.args .normal) [] (w.forCall tape i)))
 (E:∀(W:World) (base:Nat) (args:Array Value) (ds gs:List (DataW H)) (before:List MemPlace),
   (∀(j:Nat) t v,fn.params[j]? = some t->args[j]? = some v->Value.okWide C.prog W .any base t v)->
   DataW.Whole enc C.prog fn.params.toList s.vars B W args.toList ds gs before->X W args->W.ShapedOpen C.prog->
   Calls C.prog f args W fun e W'=>∃v,e = pJ v/\s.post enc C.prog fn B J D F W args v W'):
  ReturnsInHanded a C os f .any (fun w args=>(s.pre enc C.prog fn G B w args/\X w args)/\sizedMet enc C.prog fn (OpenSpec.ofChange s) B w args) (s.post enc C.prog fn B J D F):=by
 refine returnsInHanded_of_calls own M O N ?_;intro w tape i _ ad _ ac U _;obtain⟨_,_,_,aa,T,_,_,_,_,Y⟩:=ac;have e:aa=fn:=Option.some.inj (T.symm.trans ab);subst e;obtain⟨⟨⟨ds,gs,before,hw,_⟩,hx⟩,_⟩:=U;have hw':=DataW.Whole.of_heap (w':=w.forCall tape i) bD hw;refine(E (w.forCall tape i) w i.args ds gs before Y hw' (hX _ _ _ bD hx) ad).mono fun e W' ⟨v,he,hp⟩=>?_;subst he;exact ChangeSpec.post_blind hp
end
theorem Zpk{P:Program}{W:World}{n:String}{d:DataW Unit}: ∀ {l:List (String×DataW Unit)} {ps:List MemPlace},DataW.LaidVars P W l ps->(n,d)∈l->
  ∃g t cs fuel p,P.globalNamed n=some g/\(P.globals[g]?).map (·.type)=some t/\W.var? P n=some cs/\AJ (fun _=>()) P W 0 (fun _=>true) false fuel t cs.toList=some (d,p)
 | (_,_)::_,_,h,hm=>by
  obtain⟨g,t,cs,fuel,p,q,e1,e2,e3,e4,hr,_⟩:=h;rcases Ac.1 hm with e | hm
  ·cases e;exact⟨g,t,cs,fuel,p,e1,e2,e3,e4⟩
  ·exact Zpk hr hm
section
variable {P:Program} {W:World} {n:String}
theorem TK{l:List (String×DataW Unit)}{M:List MemPlace}(h:DataW.LaidVars P W l M){nm:String}{d:DataW Unit}(hm:(n,DataW.iface nm d)∈l){g:Nat}{t:TypeId}{J:Array (String×TypeId)}(hg:P.globalNamed n=some g)(G:(P.globals[g]?).map (·.type)=some t)(hi:P.underlying t=some (.interface J)):
  ∃u v,W.cell? (A_ g 0)=some (.iface u v):=by
 obtain⟨N,O,cs,fuel,p,e1,D,E,F⟩:=Zpk h hm;obtain rfl:=Option.some.inj (hg.symm.trans e1);obtain rfl:=Option.some.inj (G.symm.trans D);obtain⟨_,u,v,B,_,_⟩:=iface_of_trod hi F;refine⟨u,v,?_⟩;have:=World.var?_cell hg E 0;obtain⟨cs⟩:=cs;simp only at B;subst B;simpa using this
theorem UM{α:Type}{k:Nat}{en:α->List Value}: ∀(X:List α) (cs:List Value),cs.length=X.length*k->(∀i (h:i<X.length),(cs.drop (i*k)).take k=en X[i])->cs=X.flatMap en
 | [],cs,hl,_=>Ds bc9
 | x::X,cs,hl,h=>by
  rw [List.flatMap_cons,<- Dn k cs];have h0:=h 0 bA;rw [Nat.zero_mul,BC] at h0
  congr 1
  rw [Av,qL,Nat.one_mul] at hl;refine UM (k:=k) X (cs.drop k) (by rw [B1];omega) fun i hi=>?_;have:=h (i+1) (by simpa using hi);rw [qL,Nat.one_mul,Nat.add_comm,<- List.drop_drop] at this;simpa using this
theorem QS{H:Type}{enc:TypeId×Value->H}{base:Nat}{M:Nat->Bool}{B:Bool}{fuel:Nat}{t e:TypeId}{m k:Nat}{cs:List Value}{ds:List (DataW H)}{p:List MemPlace}(O:P.underlying t=some (.array m e))(F:P.cellsOf e=k)(G:P.cellsOf t=m*k)
 (h:AJ enc P W base M B fuel t cs=some (.agg ds,p)):ds.length=m/\cs.length=m*k/\∀i d,ds[i]? = some d->∃fu p',AJ enc P W base M B fu e ((cs.drop (i*k)).take k)=some (d,p'):=by
 cases fuel with
 | zero=>simp [AJ] at h
 | succ fuel=>
  simp only [AJ,O,F,G] at h;split at h
  ·rename_i hl
   obtain⟨N,hm,hx⟩:=Ci.1 h;have D:N.map (·.1)=ds:=by
    have:=congrArg Prod.fst hx;simpa using this
   have E:N.length=m:=by simpa using Lib.mapM_length hm
   refine⟨by rw [<- D,Bd];exact E,by simpa using hl,fun i d J=>?_⟩;rw [<- D,qH] at J;obtain⟨y,hy,rfl⟩:=Ci.1 J;have hi:i<m:=by rw [<- E];exact(Ad.1 hy).1
   obtain⟨b,hb,hf⟩:=Lib.mapM_at hm i i (by simp [hi]);rw [hy] at hb;obtain rfl:=Option.some.inj hb;exact⟨fuel,y.2,by simpa using hf⟩
  ·cases h
end
section
variable {W:World}
def mD:List (String×Nat×List UInt8):=[("wicketgate/ports.errPorts",11,[110,111,32,112,111,114,116,115]),("wicketgate/ports.errTarget",13,[110,111,32,116,97,114,103,101,116]),("wicketgate/acl.errRules",5,[110,111,32,114,117,108,101,115]),("wicketgate/acl.errRule",6,[110,111,32,114,117,108,101]),("wicketgate/acl.errPlace",7,[110,111,32,112,108,97,99,101]),("wicketgate/acl.errTarget",8,[110,111,32,116,97,114,103,101,116])]
def mF:List (String×Nat×List UInt8):=[("wicketgate/snaps.errArg",3,[110,111,32,110,117,109,98,101,114]),("wicketgate/snaps.errPool",2,[110,111,32,112,111,111,108]),("wicketgate/snaps.errCursor",4,[110,111,32,99,117,114,115,111,114])]
theorem oB:((En.filter fun x=>x.2.handleName?.isNone).filter fun x=>(mD.map (·.1)).contains x.1)=mD.map (S5 "*errors.errorString"):=bC
theorem oD:((En.filter fun x=>x.2.handleName?.isNone).filter fun x=>(mF.map (·.1)).contains x.1)=mF.map (S5 "*errors.errorString"):=bC
theorem oG:((En.filter fun x=>x.2.handleName?.isNone).filter fun x=>x.1 == "internal/strconv.uint64pow10") = [("internal/strconv.uint64pow10",Lib.tabData .u64 Lib.pow10Tab)]:=bC
noncomputable def fI:DataW Unit:=.agg (B7.map fun v=>.agg [.lit (.int .i64 v.1),.lit (.string v.2.1),.lit (.int .i64 (v.2.2:Nat))])
theorem oH:((En.filter fun x=>x.2.handleName?.isNone).filter fun x=>x.1 == "wicketgate/roles.verbs") = [("wicketgate/roles.verbs",fI)]:=bC
noncomputable def oI(l:List UInt8):DataW Unit:=.iface "*errors.errorString" (.ptr (.agg [.lit (.string l)]))
theorem oF:((En.filter fun x=>x.2.handleName?.isNone).filter fun x=>x.1 == "strconv.ErrSyntax") = [("strconv.ErrSyntax",Rows.laid_strconv_ErrSyntax)]:=bC
theorem oE:((En.filter fun x=>x.2.handleName?.isNone).filter fun x=>x.1 == "strconv.ErrRange") = [("strconv.ErrRange",Rows.laid_strconv_ErrRange)]:=bC
theorem oC:(En.filter fun x=>x.2.handleName?.isSome) = [("errors.errorType",Rows.laid_errors_errorType)]:=bC
theorem oJ:prog.globalNamed "errors.errorType" = some 0:=bC
theorem oK:(prog.cutTypes.find? (·.1 == "internal/reflectlite.rtype")).map (·.2)=some 286:=bC
theorem ZZ:((AC prog.types.size).filter fun t=>prog.rowNamed t [101,114,114,111,114]) = [116]:=bC
theorem Tz(h:handlesMet prog [("errors.errorType",Rows.laid_errors_errorType)] W):Et W:=by
 obtain⟨name,u,ty,e1,e2,e3,e4,e5⟩:=h _ (Ag.2 rfl);have en:name = [101,114,114,111,114]:=(Option.some.inj e1).symm;subst en;obtain rfl:=Option.some.inj (oK.symm.trans e2);have hm:ty∈(AC prog.types.size).filter fun t=>prog.rowNamed t [101,114,114,111,114]:=List.mem_filter.2 ⟨List.mem_range.2 e3,e4⟩;rw [ZZ] at hm;obtain rfl:=Ag.1 hm;have hh:typeHandle prog 116 = pG (some (A_ 17 116)):=bC;rw [hh] at e5;simpa [Et] using World.var?_cell oJ e5 0
theorem kS: "*" ++ "errors.errorString" = "*errors.errorString":=bE
theorem eD(u:TypeId)(h:prog.typeName? 3 u=some "*errors.errorString"):u=438:=
 typeName_ptr_named (nm:= "errors.errorString") (by rw [kS];kernel_rfl) bC bE u (by rw [kS];exact h)
theorem S6{l:List (String×Nat×List UInt8)}(h:laidMet prog (l.map (S5 "*errors.errorString")) W) (hg:∀x∈l,prog.globalNamed x.1=some x.2.1/\(prog.globals[x.2.1]?).map (·.type)=some 116) (hn:(l.map (·.2.1)).Nodup):∃e,Ge W 438 (l.map (·.2.1)) e:=
 Sa h underlying116 eD underlying438 underlying440 rfl rfl underlying9 bC bC hg hn
theorem Ge.some_{gs gs':List Nat}{e:Nat->Addr}(h:Ge W 438 gs e)(hm:∀g∈gs',g∈gs):Ge W 438 gs' e:=⟨fun g hg=>h.cell g (hm g hg),fun g hg=>h.row g (hm g hg),fun g hg g' hg'=>h.ne g (hm g hg) g' (hm g' hg')⟩
theorem UJ{n:String}{g:Nat}{l:List UInt8}(hg:prog.globalNamed n=some g)(D:(prog.globals[g]?).map (·.type)=some 116)(h:laidMet prog [(n,oI l)] W):∃ev,W.cell? (A_ g 0)=some ev/\(ev = .nilIface\/∃te pe,ev = .iface te pe):=by
 obtain⟨E,h,_⟩:=h;obtain⟨u,v,B⟩:=TK h (Ag.2 rfl) hg D underlying116;exact⟨_,B,.inr ⟨u,v,rfl⟩⟩
theorem Ux{fuel:Nat}{cs:List Value}{v:Int×List UInt8×Nat}{p:List MemPlace}(h:AJ (fun _=>()) prog W 0 (fun _=>true) false fuel 253 cs=some (.agg [.lit (.int .i64 v.1),.lit (.string v.2.1),.lit (.int .i64 (v.2.2:Nat))],p)):cs=My v:=by
 obtain⟨X,Y,y2,n,hx,hl,h0,h1,h2⟩:=trod_struct3 underlying253 h;have B:prog.cellsOf 3=1:=bC;have F:prog.cellsOf 9=1:=bC;have G:prog.cellsOf 253=3:=bC;rw [G] at hl;obtain⟨a,D,J,_⟩:=DataW.trod_int underlying3 h0;obtain⟨s,e1,M,_⟩:=DataW.trod_string underlying9 h1;obtain⟨b,E,N,_⟩:=DataW.trod_int underlying3 h2;rw [J,M,N] at hx;simp only [Prod.mk.injEq,DataW.agg.injEq,List.cons.injEq,DataW.lit.injEq,Lit.int.injEq,Lit.string.injEq,true_and,and_true] at hx;obtain⟨⟨O,T,U⟩,_⟩:=hx
 match cs,hl with
 | [c0,c1,c2],_=>
  obtain rfl:c0 = I_ a:=by simpa [B] using D
  obtain rfl:c1 = Dz s:=by simpa [F] using e1
  obtain rfl:c2 = I_ b:=by simpa [B] using E
  unfold My;rw [O,T,U]
theorem ZX(h:laidMet prog [("wicketgate/roles.verbs",fI)] W):Er W:=by
 obtain⟨ps,h,_⟩:=h;obtain⟨g,t,cs,fuel,p,e1,e2,e3,e4⟩:=Zpk h (Ag.2 rfl);have hg:prog.globalNamed "wicketgate/roles.verbs" = some 1:=bC;have ht:(prog.globals[(1:Nat)]?).map (·.type)=some 315:=bC;obtain rfl:=Option.some.inj (hg.symm.trans e1);obtain rfl:=Option.some.inj (ht.symm.trans e2);obtain⟨h1,h2,h3⟩:=QS (k:=3) underlying315 bC bC e4;have hc:cs.toList=B7.flatMap My:=UM (k:=3) B7 cs.toList h2 fun i hi=>by
  obtain⟨fu,p',hf⟩:=h3 i _ (by rw [qH,Aq hi];rfl);exact Ux hf
 intro j u hj;have:=World.var?_cell hg e3 j;rw [this,<- Array.getElem?_toList,hc];exact hj
theorem KI(h:laidMetH prog En W)(hs:W.ShapedOpen prog):Gu W:=by
 obtain⟨hp,hh⟩:=laidMetH_iff.1 h;rw [oC] at hh;have et:=Tz hh;have hA:=hp.filter fun x=>(mD.map (·.1)).contains x.1;have hN:=hp.filter fun x=>(mF.map (·.1)).contains x.1;have hT:=hp.filter fun x=>x.1 == "internal/strconv.uint64pow10";have hV:=hp.filter fun x=>x.1 == "wicketgate/roles.verbs";have hS:=hp.filter fun x=>x.1 == "strconv.ErrSyntax";have hR:=hp.filter fun x=>x.1 == "strconv.ErrRange";rw [oB] at hA;rw [oD] at hN;rw [oG] at hT;rw [oH] at hV;rw [oF] at hS;rw [oE] at hR;obtain⟨E,sA⟩:=S6 hA (fun x hx=>by
  simp only [mD,Ac,Ab,or_false] at hx;rcases hx with rfl | rfl | rfl | rfl | rfl | rfl<;>exact⟨by kernel_rfl,by kernel_rfl⟩) bE
 obtain⟨e,sN⟩:=S6 hN (fun x hx=>by
  simp only [mF,Ac,Ab,or_false] at hx;rcases hx with rfl | rfl | rfl<;>exact⟨by kernel_rfl,by kernel_rfl⟩) bE
 have hsA:Fp W E:=sA.some_ bE;have hv:=ZX hV;have htab:Ie W:=Lib.tabIs_of_head (g:=12) (t:=415) bC bC underlying415 underlying382 bC bC hT;have hes:Vo W:=⟨UJ bC bC hS,UJ bC bC hR⟩;have hmx:JT W:=cell_of_shapedOpen_int hs (g:=16) (t:=3) (zero:=#[pE pK 0]) (by rw [show prog.globals.size=17 by kernel_rfl];decide) bC rfl bC bC underlying3;exact⟨⟨E,⟨⟨et,htab,hmx,hsA⟩,hes⟩,hv⟩,⟨fun k=>if k=0 then e 2 else if k=1 then e 3 else e 4,e,sN.some_ bE,rfl,rfl,rfl⟩,⟨E,hv,hsA,et⟩⟩
end
end
section
open Go.RowKit Go.Shelf Go.WideShapes Go.ChangeShapes Go.ChangeAt Go.Deep
theorem Cb(cs:List Value)(o c B:Nat)(h:o+c=B):cs.drop o=(cs.drop o).take c++cs.drop B:=by
 rw [<- h,<- List.drop_drop,Dn]
theorem AR.map{α β:Type}{enc:β->List Value}{n:Nat}{w:World}{a:Option Addr}{c:Nat}(f:α->β){xs:List α}(h:AR (fun x=>enc (f x)) n w a c xs):AR enc n w a c (xs.map f):=
 ⟨by rw [Bd];exact h.le,h.nil,fun h0=>by
  rw [Bd] at h0;obtain⟨g,off,ha,hg,hat⟩:=h.at_ h0;refine⟨g,off,ha,hg,fun i hi j u hu=>?_⟩;rw [Bd] at hi;rw [List.getElem_map] at hu;exact hat i hi j u hu⟩
section
variable {H:Type} {enc:TypeId×Value->H} {W:World} {base:Nat} {spare:Nat->Bool} {held:Bool}
theorem Az{B:Array Field}{t ft:TypeId}{o c fuel:Nat}{cs:List Value}{x:DataW H×List MemPlace}(E:prog.underlying t=some (.struct B))(i:Nat){f:Field}(hi:B[i]? = some f)(hl:i<B.size)(he:f.type=ft)(ho:f.offset=o)(D:prog.cellsOf ft=c)
 (h:AJ enc prog W base spare held fuel t cs=some x):∃n y,AJ enc prog W base spare held n ft ((cs.drop o).take c)=some y:=by
 obtain⟨G,n,_,_,_,F,hf⟩:=DataW.trod_struct E h;have:=hf i f hi;rw [he,ho,D,Aq bB] at this;exact⟨n,_,this⟩
theorem EH{B:Array Field}{t:TypeId}{c fuel:Nat}{cs:List Value}{x:DataW H×List MemPlace}(E:prog.underlying t=some (.struct B))(D:prog.cellsOf t=c)(h:AJ enc prog W base spare held fuel t cs=some x):cs.length=c:=by
 obtain⟨F,n,_,_,hl,_,_⟩:=DataW.trod_struct E h;rw [<- D];exact hl
theorem ES{α:Type}[Inhabited α]{t e:TypeId}{n:Nat}{en:α->List Value}{ok:α->Prop}(ht:prog.underlying t=some (.slice e))(Y:prog.cellsOf e=n)(h0:0<n)(hn:∀y,(en y).length=n)
 (hr:∀fuel cs x,AJ enc prog W base spare held fuel e cs=some x->∃y,cs=en y/\ok y){fuel:Nat}{cs:List Value}{x:DataW H×List MemPlace}(h:AJ enc prog W base spare held fuel t cs=some x):
  ∃(a:Option Addr) (xs:List α) (c:Nat),cs = [pF a xs.length c]/\AR en n W a c xs/\xs.length<=9223372036854775807/\∀y∈xs,ok y:=by
 rcases open_slice ht h with⟨F,_⟩ | ⟨a,len,cap,m,n',D,Pl,F,_,hl,hm,O,_,hx⟩
 ·exact⟨none,[],0,F,.none_,by simp,fun _ h=>by cases h⟩
 ·have ab:len<=m:=by rw [O];split<;>omega
  have M:∀i,i<len->∃y:α,ok y/\∀j,j<n->W.cell? ((a.add (i*n)).add j)=(en y)[j]?:=fun i hi=>by
   obtain⟨U,h1,h2⟩:=hx i bB;rw [Y] at h1;obtain⟨_,aa,hat⟩:=World.cells?_some h1;obtain⟨y,rfl,hy⟩:=hr _ _ _ h2;exact⟨y,hy,fun j hj=>hat j hj⟩
  obtain⟨X,J⟩:=choose_lt M;refine⟨some a,(AC len).map X,cap,by rw [F];simp,⟨by simpa using hl,(fun e=>by cases e),fun hp=>?_⟩,by unfold maxLen at hm;simp;omega,fun y hy=>?_⟩
  ·have G:0<len:=kD;obtain⟨b,off,E⟩:=a;have hne:(en (X 0))[0]?≠none:=by
    have:=hn (X 0);rw [Aq bB];simp
   have T:E=none:=by
    have:=(J 0 G).2 0 h0;simp only [Nat.zero_mul,Addr.add,if_true] at this;rcases hz:W.cell? ⟨b,off,E⟩ with _ | v
    ·rw [hz] at this;exact absurd this.symm hne
    ·unfold World.cell? at hz
     split at hz
     ·split at hz
      ·cases hz
      ·rename_i hn';simpa using hn'
     ·cases hz
   subst T;have B:∀i j,(((A_ b off):Addr).add (i*n)).add j=(A_ b (off+i*n+j)):=fun i j=>by
    unfold Addr.add;split<;>split<;>simp_all
   refine⟨b,off,rfl,?_,fun i hi j u hu=>?_⟩
   ·have:=(J 0 G).2 0 h0
    rw [B,Aq (by have:=hn (X 0);omega)] at this;exact Be W _ this
   ·have N:i<len:=by simpa using hi
    have hj:j<n:=by rw [<- hn (X i)];simp only [List.getElem_map,List.getElem_range] at hu;exact(Ad.1 hu).1
    have:=(J i N).2 j hj;rw [B] at this;rw [this];simpa only [List.getElem_map,List.getElem_range] using hu
  ·obtain⟨i,hi,rfl⟩:=BO.1 hy
   exact(J i (List.mem_range.1 hi)).1
theorem ki:prog.cellsOf 3=1:=bC
theorem ks:prog.cellsOf 9=1:=bC
theorem Fg{fuel:Nat}{cs:List Value}{x:DataW H×List MemPlace}(h:AJ enc prog W base spare held fuel 3 cs=some x):∃n,cs=Fb n/\(-9223372036854775808<=n/\n<=9223372036854775807):=by
 obtain⟨n,e,_,hw⟩:=DataW.trod_int underlying3 h;have e1:IntKind.i64.min = -9223372036854775808:=bE;have B:IntKind.i64.max=9223372036854775807:=bE;exact⟨n,e,by simpa [Lit.wf,e1,B] using hw⟩
theorem NG{fuel:Nat}{cs:List Value}{x:DataW H×List MemPlace}(h:AJ enc prog W base spare held fuel 9 cs=some x):∃s:ByteArray,cs=Fd s/\s.size<=maxLen:=by
 obtain⟨s,e,_,hw⟩:=DataW.trod_string underlying9 h;exact⟨s,e,hw⟩
theorem YH:prog.cellsOf 40=2:=bC
theorem dQ{fuel:Nat}{cs:List Value}{x:DataW H×List MemPlace}(h:AJ enc prog W base spare held fuel 40 cs=some x):∃y:GF,cs=Eg y/\y.name.size<=maxLen:=by
 have hl:=EH underlying40 YH h;obtain⟨_,_,h0⟩:=Az underlying40 0 rfl bE (ft:=9) (o:=0) (c:=1) rfl rfl ks h;obtain⟨G,D,F⟩:=NG h0;have B:=Cb cs 0 1 1 rfl;rw [D] at B;obtain⟨_,_,h1⟩:=Az underlying40 1 rfl bE (ft:=3) (o:=1) (c:=1) rfl rfl ki h;obtain⟨J,e1,M⟩:=Fg h1;have g1:=Cb cs 1 1 2 rfl;rw [e1] at g1;have E:cs.drop 2 = []:=AI bB;rw [BC] at B;refine⟨⟨G,J⟩,?_,F⟩;rw [B,g1,E];rfl
instance:Inhabited EX:=⟨IW⟩
instance:Inhabited El:=⟨⟨0,⟨#[]⟩,0,0⟩⟩
instance:Inhabited GF:=⟨⟨⟨#[]⟩,0⟩⟩
instance:Inhabited Bq:=⟨job0⟩
instance:Inhabited IA:=⟨⟨⟨#[]⟩,0,⟨#[]⟩⟩⟩
theorem Z0{fuel:Nat}{cs:List Value}{x:DataW H×List MemPlace}(h:AJ enc prog W base spare held fuel 22 cs=some x):
  ∃y:Option Addr×List GF×Nat,cs = [pF y.1 y.2.1.length y.2.2]/\AR Eg 2 W y.1 y.2.2 y.2.1/\y.2.1.length<=9223372036854775807/\∀z∈y.2.1,z.name.size<=maxLen:=by
 obtain⟨a,B,c,e,hs,hl,hz⟩:=ES (α:=GF) (en:=Eg) (ok:=fun z=>z.name.size<=maxLen) underlying22 YH bE Fc (fun fuel cs x h=>dQ h) h;exact⟨(a,B,c),e,hs,hl,hz⟩
instance:Inhabited (TV×Ten):=⟨(⟨0,0,⟨#[]⟩,0,0,none,0,0,none,0,0,0⟩,IX)⟩
instance:Inhabited (SV×Sn):=⟨(⟨0,none,0,0,0⟩,⟨0,[],0⟩)⟩
end
section
variable {H:Type} {enc:TypeId×Value->H} {W:World} {base:Nat} {spare:Nat->Bool} {held:Bool}
instance:Inhabited sZ:=⟨⟨0,0,0,⟨#[]⟩⟩⟩
end
end
section
open Go.RowKit Go.Shelf
theorem Cy.far{w w':World}{a:Option Addr}{c:Nat}{xs:List ByteArray}{B:Nat}{S:List Nat}(h:Cy w a c xs)(hf:Fr B a xs.length)(hk:Aa S w w')(hS:∀k∈S,k<B):Cy w' a c xs:=
 ⟨h.le,fun hn=>by
  obtain⟨g,off,cs,fz,ha,hg,hat⟩:=h.at_ hn;have hgB:B<=g:=hf g off ha (List.length_pos_iff.2 hn);have hb:=hk.block g (Ai.1 hg).1 (fun hm=>by have:=hS g hm;omega);exact⟨g,off,cs,fz,ha,hb.trans hg,fun i hi=>(BL (a:=A_ g (off+i)) hb).trans (hat i hi)⟩,h.small,h.size,h.nil⟩
theorem Mt.far{w w':World}{B:Nat}{S:List Nat}(hk:Aa S w w')(hS:∀k∈S,k<B):∀ {V:List SV} {L:List Sn},Mt w V L->(∀v∈V,SO B v)->Mt w' V L
 | [],[],_,_=>trivial
 | v::V,s::L,h,hf=>⟨⟨h.1.1,h.1.2.1,h.1.2.2.1,h.1.2.2.2.far (by have:=hf v bA;unfold SO at this;rw [h.1.2.2.1] at this;exact this) hk hS⟩,Mt.far hk hS h.2 (fun x hx=>hf x (by simp [hx]))⟩
 | [],_::_,h,_=>h.elim
 | _::_,[],h,_=>h.elim
theorem BP.far{w w':World}{a:Option Addr}{c:Nat}{V:List SV}{p:Po}{B:Nat}{S:List Nat}(h:BP w a c V p)(hf:∀v∈V,SO B v)(hk:Aa S w w')(hS:∀k∈S,k<B/\∃cs t fz,w.heap[k]? = some (.cells cs t fz)/\t≠43):BP w' a c V p:=
 ⟨h.le,h.small,h.row.keepsS hk (fun k hm cs fz hb=>by
  obtain⟨_,cs',t,fz',hb',ht⟩:=hS k hm;rw [hb'] at hb;injection hb with hb
  injection hb with _ h3 _
  exact ht h3),Mt.far hk (fun k hm=>(hS k hm).1) h.mt hf⟩
theorem Cg.far{w w':World}{B:Nat}{v:CV}{c:BN}{S:List Nat}(h:Cg w v c)(hn:DU (· < B) v c)(hj:DW (· < B) v.ja v.jn)(hf:∀x∈v.pv,SO B x)(hk:Aa S w w')(hS:∀k∈S,k<B/\∃cs t fz,w.heap[k]? = some (.cells cs t fz)/\t≠43):Cg w' v c:=
 { h with o:=h.o.keepsN hk (fun h0 g o e hm=>hn.o (by rw [<- h.on];exact h0) g o e (hS g hm).1),r:=h.r.stay hn.r hk (fun y hy=>(hS y hy).1),p:=h.p.far hf hk hS,j:=h.j.keepsN hk (fun h0 g o e hm=>hj (by rw [<- h.jn];exact h0) g o e (hS g hm).1),d:=h.d.keepsN hk (fun h0 g o e hm=>hn.d (by rw [<- h.dn];exact h0) g o e (hS g hm).1) }
end
section
open Go.RowKit Go.Shelf
attribute [local go_sem] pN Lr Ls Lp Lq
attribute [local go_sem ↓] wp_at_zero wp_at_succ
theorem Kv.from_{w:World}{a:Option Addr}{c:Nat}{xs:List ByteArray}(h:Kv w a c xs)(k:Nat)(hk:k<xs.length):∃g off,a=some (A_ g off)/\Kv w (some (A_ g (off+k))) (c - k) (xs.drop k):=by
 obtain⟨g,off,B,hg,hat⟩:=h.at_ bB;refine⟨g,off,B,by rw [B1];have:=h.le;omega,(fun e=>by cases e),fun _=>⟨g,off+k,rfl,hg,fun i hi j u hj=>?_⟩⟩;rw [B1] at hi;have:=hat (k+i) bB j u (by rw [List.getElem_drop] at hj;exact hj);rw [show off+k+i*1+j=off+(k+i)*1+j by omega];exact this
end
section
theorem u3:True:=trivial
end
end Go.Proofs.YtncebikgoleolaaGreatDoor
