/- Steps. -/
import Derived.Test.YtjieiikpolahfaaGreatDoorMap
import Derived.Test.YtjieiikpolahfaaGreatDoorMau
import Derived.Test.YtjieiikpolahfaaGreatDoorTie
import Derived.Test.YtjieiikpolahfaaGreatDoorCards
set_option maxRecDepth 100000
set_option maxHeartbeats 8000000
set_option linter.all false
namespace Go.Proofs.YtjieiikpolahfaaGreatDoor
open Go.Proofs.Tryz
open _root_.Go renaming undef→UD
open Act renaming put→By
open _root_.And renaming intro→Bl
open _root_.Array renaming getElem?_eq_some_iff→Ai,getElem?_toList→qD
open DataW renaming trod→AJ
open Ending renaming returned→pJ
open Instr renaming findNow→B0,lookup→Ed
open IntKind renaming i64→pK
open Lib renaming toList_data→C9
open _root_.List renaming append_assoc→CC,cons_append→AL,drop_eq_nil_of_le→AI,drop_zero→BC,eq_nil_of_length_eq_zero→Ds,flatMap_append→BY,getElem?_append_right→Ee,getElem?_eq_getElem→Aq,getElem?_eq_some_iff→Ad,getElem?_take→Dh,getElem_mem→pS,length_append→Al,length_cons→Av,length_drop→B1,length_map→Bd,length_take→Ax,mem_cons→Ac,mem_map→BO,mem_singleton→Ag,nil_append→BH,not_mem_nil→Ab,push_toArray→Cd,range→AC,take_append_drop→Dn
open _root_.Nat renaming add_zero→AT,le_refl→Aw,lt_of_lt_of_le→BS,min_eq_left→DE,mul_le_mul_right→Ch,mul_one→pR,reduceAdd→pL,zero_add→AW
open Oper renaming semAt_some→pN
open _root_.Option renaming map_eq_some_iff→Ci
open Region renaming wanted→CQ
open Result renaming andThen→Bg
open Value renaming agg→pH,bool→pI,int→pE,pointer→pG,slice→pF,string→Dz
open World renaming block_lt_of_cell?→Be,setRow_alloc_new→pQ
section
open Go.RowKit Go.Shelf
attribute [local go_sem] pN Lr Ls Lp Lq
attribute [local go_sem ↓] wp_at_zero wp_at_succ
theorem Tq(sb:Nat)(j:Bq)(v:CV)(c:BN)(now left:Int)(e:GJ)(t:ByteArray)(hZ:Bf c.done j.req.who j.req.id=some t)(wb w:World)(hI:SI wb sb w v c)(h:AH w sb j v now left e):
  Calls prog 70 #[pG (some (A_ sb 0))] w (Lz wb sb w now left ((commitC j c now).1,(commitC j c now).2,e)):=by
 have HA:=K0 sb j v c now left e w hI.m h;rw [hZ] at HA;simp only [Option.getD_some,Option.isSome_some] at HA;rw [Rd hZ];have HI:=lH hI;have HB:=lH h;clear hI h hZ;go_enter func70,ntmps70;go_wp2_with fail;refine HA.mono ?_;rintro B w1 ⟨rfl,hk1⟩;have HB1:Hi (AH w1 sb j v now left e):=lH (AH.keeps HB.o hk1 bA);have HK1:=lH hk1;clear hk1 HA;go_wp2_with fail;refine(GL sb j _ _ _ _ _ _ _ _ _ _ now left e t _ HB1.o).mono ?_;rintro B w2 ⟨rfl,hb2,hk2⟩;have HB2:Hi (AH w2 sb (j.answers t) v now left e):=lH hb2;have HK2:=lH hk2;clear hb2 hk2;go_wp2_with fail;exact bodyPost_ret (results_none rfl _ _ _) rfl ⟨v,rfl,HB2.o,(HI.o.keeps HK1.o).put HB1.o HK2.o,(HK1.o.mono bA).trans HK2.o⟩
theorem Tp(E eN:Nat->Addr)(sb:Nat)(j:Bq)(v:CV)(c:BN)(now left:Int)(e:GJ)(hid:0<=j.req.id/\j.req.id<=1000000)(hat : -9223372036854775808<=j.req.com.at_/\j.req.com.at_<=9223372036854775807)(hc:Gd c)(hZ:Bf c.done j.req.who j.req.id=none)
 (wb w:World)(hE:Ks wb)(hR:Lx wb E)(hN:M1 wb eN)(hI:SI wb sb w v c)(h:AH w sb j v now left e):
  Calls prog 70 #[pG (some (A_ sb 0))] w (Lz wb sb w now left ((commitC j c now).1,(commitC j c now).2,e)):=by
 have HA:=K0 sb j v c now left e w hI.m h;rw [hZ] at HA;simp only [Option.getD_none,Option.isSome_none] at HA;rw [Rc hZ];have HE:Hi (∀W,Aa [] wb W->Ks W):=lH fun W hk=>hE.keeps hk;have HN:=lH hN;have bl:=lH hE;have HI:=lH hI;have HB:=lH h;have HID:=lH hid;have HC:=lH hc;obtain⟨D,hD⟩:=eX (applyR c.reg j.role j.req.com now);obtain⟨G,hG⟩:=eX (Yc j c now);obtain⟨O,al⟩:=eX (cB j c now);have HG:Hi ((if D.2.err≠150 then D.1 else c.reg)=G):=lH (by rw [<- hG,<- hD];rfl);have ag:Hi ((if D.2.err≠0 then(j.refuses j.req.id D.2.err,c.pool)
  else if j.req.com.verb=9 then Ft j c.pool (Bz G) D.2.seq now
  else(if Lh j.req.com.verb then { j.answers (Ex [okT,pX j.req.id,pX D.2.seq,pX D.2.slot,pX D.2.gen,pX D.2.version,pX D.2.state]) with phase:=4,slot:=D.2.slot,gen:=D.2.gen }
   else j.answers (Ex [okT,pX j.req.id,pX D.2.seq,pX D.2.slot,pX D.2.gen,pX D.2.version,pX D.2.state]),c.pool))=O):=lH (by rw [<- al,<- hG,<- hD];rfl)
 have bo:Hi (CE G):=lH (by rw [<- hG];exact aZ hc.reg);have HER:Hi (0<=D.2.err/\D.2.err<=1000):=lH (by rw [<- hD];exact LA _ _ _ _);have bq:Hi (D.2.err=0->fO D.2):=lH (by rw [<- hD];exact Jc hc.reg _ _ _);have bh:Hi (∀W,Aa [] w W->Calls prog 21 #[pH (R_ v.r v.gn v.un v.fn v.ln v.seq),I_ j.role,pH (K_ j.req.com),I_ now] W (Lt W D)):=lH fun W hk=>by
  rw [<- hD];exact Ng v.r c.reg v.gn v.un v.fn v.ln hI.m.g hI.m.u hI.m.f hI.m.l v.seq hI.m.q j.role j.req.com now hat W E (hR.keeps (hI.kw.trans hk)) (hI.m.r.keeps hk)
 rw [hG,al];have bz:Hi (w.rangeAt sb 3 (reqA j.req).toList->∀W,Aa [] w W->W.rangeAt sb 3 (reqA j.req).toList):=lH fun _ W hk=>AH.reqs (AH.keeps h hk bA);have HSB:Hi (sb<w.heap.size):=lH (Blk.lt h);clear hE hR hN hI h hid hat hc hZ hD hG al;go_enter func70,ntmps70;go_wp2_with fail;refine HA.mono ?_;rintro r0 w1 ⟨rfl,hk1⟩;have HB1:Hi (AH w1 sb j v now left e):=lH (AH.keeps HB.o hk1 bA);have bp:=lH (AH.reqs HB1.o);obtain⟨w2,Y⟩:=eX (w1.alloc (.cells (reqA j.req) 59));have ae:Aa [] w1 w2:=by rw [<- Y];exact(Aa.refl [] w1).alloc _
 have HQ2:Hi (Blk w2 w1 59 (Q_ j.req)):=lH (by rw [<- Y];exact Blk.new w1 _ _);have HK2:=lH (hk1.trans ae);have HB2:Hi (AH w2 sb j v now left e):=lH (AH.keeps HB.o HK2.o bA);have HSQ:Hi (sb<w1.heap.size/\w1.heap.size<w2.heap.size):=lH ⟨BS HSB.o hk1.size,by rw [<- Y];simp⟩;clear hk1 ae HA;go_upto_region 4 with(first | (refine Ay bD 59 _ bD sb 3 bD (reqA j.req) _ bp.o underlying59 rfl (Cr _) ?_) | (refine wpList_store_row bD 59 _ _ bD w1 (reqA j.req) bD bD 59 (reqA req0) (Blk.new w1 _ _) (Cr _) rfl (Dg _) ?_;rw [pQ]))
 simp only [By];rw [Y];clear Y;obtain⟨qb,ba⟩:=eX w1.heap.size;rw [ba] at HQ2 HSQ ⊢;have r2:=(AH.lit HB2.o).rl;have rq:=HQ2.o.rl;clear ba;go_cut [5,6] (fun x y wd=>∃rb ab rv gn un fn ln q,x = p_ rb 0/\y = p_ ab 0/\Hi (Blk wd rb 29 (R_ rv gn un fn ln q))/\Hi (Blk wd ab 83 #[pE pK D.2.err,I_ D.2.seq,I_ D.2.slot,I_ D.2.gen,I_ D.2.version,I_ D.2.state])/\
  Hi (q=D.1.seq/\D.1.slots.gens.length=gn/\D.1.slots.used.length=un/\D.1.slots.free.length=fn/\D.1.l.length=ln)/\Hi (CH wd rv D.1/\CL (fun y=>y=sb\/y<wb.heap.size+3) rv D.1)/\Hi (Aa [] w2 wd)/\Hi (w2.heap.size<=rb/\w2.heap.size<=ab))
 case first=>
  refine wp_region_held_drew (S:=(Aa [] w2)) bC (by((try dsimp only);(repeat(with_reducible first | exact X | exact Aa.refl _ _ | refine Aa.drew ?_ | refine Aa.alloc ?_ _ | refine Aa.own ?_ hkT (fun y hy=>fC) | refine Aa.own ?_ hkS (fun y hy=>fC))))) (fun hHeld=>?_)
  repeat' (first | exact rZ | refine rX ?_ | ((first | (refine rA 16 (fun K hK=>?_) ?_;go_simp;(refine(bh.o _ (HK2.o.trans hHeld)).mono ?_;rintro er w3 ⟨rv,gn,un,fn,ln,q,rfl,hq,hg,hu,hf,hl,hm,hno,hk3⟩;have HLN:=lH (Bl hq (Bl hg (Bl hu (Bl hf hl))));clear hq hg hu hf hl;have X:=hHeld.trans hk3;have b7:=X.size;have b6:=hHeld.size;have bv:=hk3.size;(try simp at bv);have a7:CL (fun y=>y=sb\/y<wb.heap.size+3) rv D.1:=hno.mono (fun y hy=>by have:=hHeld.size;have:=HSQ.o;have:=HI.o.lo;show y<_;omega))) | (refine rA 20 (fun K hK=>?_) ?_;go_simp) | (refine rA 21 (fun K hK=>?_) ?_;go_simp) | (refine rA 22 (fun K hK=>?_) ?_;(refine DT 29 _ _ bD _ (R_ rv gn un fn ln q) bD bD 29 LU.k ?_ rfl bC aG ?_;(· (repeat(with_reducible first | exact Blk.new _ _ _ | exact Ar _ _ _ _ bA | refine Blk.alloc ?_ _ | refine Blk.drew ?_ | refine Blk.keeps ?_ hk3 bA)));intro wS HRB hkS)) | (refine rA 23 (fun K hK=>?_) ?_;(refine DT 83 _ _ bD _ #[pE pK D.2.err,I_ D.2.seq,I_ D.2.slot,I_ D.2.gen,I_ D.2.version,I_ D.2.state] bD bD 83 fS.k ?_ rfl bC aG ?_;(· refine Blk.keeps ?_ hkS gE;(repeat(with_reducible first | exact Blk.new _ _ _ | exact Ar _ _ _ _ bA | refine Blk.alloc ?_ _ | refine Blk.drew ?_ | refine Blk.keeps ?_ hk3 bA)));intro wT HAB hkT)));(try clear rH);refine rP hK ((by((try dsimp only);(repeat(with_reducible first | exact X | exact Aa.refl _ _ | refine Aa.drew ?_ | refine Aa.alloc ?_ _ | refine Aa.own ?_ hkT (fun y hy=>fC) | refine Aa.own ?_ hkS (fun y hy=>fC)))))) fun rH hHeld=>?_;clear hK K) | (refine rK 0 ?_;refine rK 1 ?_;refine rK 2 ?_;refine rK 3 ?_;refine rK 4 ?_;refine rK 5 ?_;refine rK 6 ?_;refine rK 7 ?_;refine rK 8 ?_;refine rK 9 ?_;refine rK 10 ?_;refine rK 11 ?_;refine rK 12 ?_;refine rK 13 ?_;refine rK 14 ?_;refine rK 15 ?_) | (refine rK 17 ?_;refine rK 18 ?_;refine rK 19 ?_) | refine rB [16,20,21,22,23] ?_ | (refine wpAnyH_done bC ?_ _;(go_wp2_with fail;go_meet;refine⟨_,_,rv,gn,un,fn,ln,q,rfl,rfl,lH (Blk.keeps HRB hkT gE),lH HAB,HLN,lH ⟨?_,a7⟩,lH hHeld,lH ⟨gE,gE⟩⟩;refine CH.stayO hm hno (Aa.two ?_ hkS hkT) ?_;(· repeat(with_reducible first | exact Aa.refl _ _ | refine Aa.drew ?_ | refine Aa.alloc ?_ _));(· intro y hy;simp only [Ac,Ab,or_false] at hy;rcases hy with rfl | rfl<;>first | (simp;done) | (simp;omega) | omega))))
 case rest=>
  obtain⟨rb,ab,rv,gn,un,fn,ln,q,rfl,rfl,HRB,HAB,HLN,ak,HKD,bm⟩:=hcut
  rename World=>wd
  clear r2 rq;have HKW:Hi (Aa [] w wd):=lH (HK2.o.trans HKD.o);have HBD:Hi (AH wd sb j v now left e):=lH (AH.keeps HB.o HKW.o bA);have HQD:=lH (HQ2.o.keeps HKD.o bA);have ne1:¬qb=sb:=by have:=HSQ.o;omega
  have ne2:¬ab=sb:=by have:=HSQ.o;have:=bm.o;omega
  have ra:=HAB.o.rl;have rg:=HRB.o.rl;have r:=(AH.lit HBD.o).rl;obtain⟨b5,az⟩:=eX ((D.2.err != 150));have HB5:=lH az;go_upto_if 44 with fail
  clear az;go_cut [] (fun we=>∃v',Hi (AH we sb j v' now left e)/\Hi (SI wb sb we v' { c with reg:=G })/\Hi (Aa [sb] wd we))
  case first=>
   cases b5
   ·have h0:D.2.err=150:=by simpa using HB5.o
    have ah:Hi (c.reg=G):=lH (by rw [<- HG.o,if_neg (by simp [h0])]);clear h0;go_wp2_with fail;go_meet;exact⟨v,HBD,lH (by rw [<- ah.o];exact HI.o.keeps HKW.o),lH (Aa.refl _ _)⟩
   ·have ah:Hi (D.1=G):=lH (by rw [<- HG.o,if_pos (by simpa using HB5.o)])
    go_wp2_with fail;go_meet;exact⟨{ v with r:=rv,gn:=gn,un:=un,fn:=fn,ln:=ln,seq:=q },lH (AH.reg HBD.o rv gn un fn ln q),lH (by
     rw [<- ah.o];exact((HI.o.keeps HKW.o).put HBD.o (FN _ sb 25 _ _ _ _ _)).reg (ak.o.1.stay ak.o.2 (FN _ sb 25 _ _ _ _ _) bA) ak.o.2 HLN.o.1 HLN.o.2.1 HLN.o.2.2.1 HLN.o.2.2.2.1 HLN.o.2.2.2.2),lH (FN _ sb 25 _ _ _ _ _)⟩
  case rest=>
   obtain⟨v5,HBE,T,HKE⟩:=hcut
   rename World=>we
   clear r ra rg;have HQE:=lH (HQD.o.keeps HKE.o bG);have au:=lH (HAB.o.keeps HKE.o bG);go_step;go_step;go_cut [] (fun wf=>∃v',Hi (AH wf sb O.1 v' now left e)/\Hi (SI wb sb wf v' { c with reg:=G,pool:=O.2 })/\Hi (Aa [sb] we wf))
   case first=>
    have ra:=au.o.rl;have rq:=HQE.o.rl;have r:=(AH.lit HBE.o).rl;by_cases h0:D.2.err=0;rotate_left
    ·have HCQ:Hi (O=(j.refuses j.req.id D.2.err,c.pool)):=lH (by rw [<- ag.o,if_pos h0])
     have f1:(D.2.err != 0)=true:=by simpa using h0
     clear h0;go_wp2_with fail;refine(FR sb j v5 now left e j.req.id D.2.err ⟨by have:=HID.o;omega,by have:=HID.o;omega⟩ ⟨by have:=HER.o;omega,by have:=HER.o;omega⟩ _ (HE.o _ T.o.kw) HBE.o).mono ?_;rintro r0 w4 ⟨rfl,hb4,hk4⟩;have HB4:=lH hb4;have HK4:=lH hk4;clear hb4 hk4;go_wp2_with fail;go_meet;exact⟨v5,lH nQ,lH (by rw [HCQ.o];exact T.o.put HBE.o HK4.o),HK4⟩
    ·have f1:(D.2.err != 0)=false:=by simpa using h0
     have hS:=bq.o h0;have B:=lH hS;have H0:=lH h0;clear h0 hS;obtain⟨b9,a0⟩:=eX ((j.req.com.verb==9));cases b9;rotate_left
     ·have h9:j.req.com.verb=9:=by simpa using a0
      have HCQ:Hi (O=Ft j c.pool (Bz G) D.2.seq now):=lH (by rw [<- ag.o,if_neg (by simp [H0.o]),if_pos h9]);clear h9;go_wp2_with fail;refine(YP sb j v5 { c with reg:=G } now left e D.2.seq ⟨by have:=HID.o;omega,by have:=HID.o;omega⟩ ⟨by have:=B.o.seq;omega,by have:=B.o.seq;omega⟩ (Wz bo.o) wb _ eN bl.o HN.o T.o HBE.o).mono ?_;rintro r0 w4 ⟨M,rfl,hb4,a4,hk4⟩;have HB4:=lH hb4;have ac:=lH a4;have HK4:=lH hk4;clear hb4 a4 hk4;go_wp2_with fail;go_meet;exact⟨M,lH nQ,lH (by rw [HCQ.o];exact ac.o),HK4⟩
     ·have h9:¬j.req.com.verb=9:=by simpa using a0
      obtain⟨TX,am⟩:=eX (Ex [okT,pX j.req.id,pX D.2.seq,pX D.2.slot,pX D.2.gen,pX D.2.version,pX D.2.state]);obtain⟨bs,ao⟩:=eX (Lh j.req.com.verb);have HCQ:Hi (O=(if bs then { j.answers TX with phase:=4,slot:=D.2.slot,gen:=D.2.gen } else j.answers TX,c.pool)):=lH (by rw [<- ag.o,if_neg (by simp [H0.o]),if_neg h9,am,ao]);have bi:=lH ao;obtain⟨wh,hwh⟩:=eX (we.alloc (.cells #[.iface 9 (Dz okT),.iface 3 (I_ j.req.id),.iface 3 (I_ D.2.seq),.iface 3 (I_ D.2.slot),.iface 3 (I_ D.2.gen),.iface 3 (I_ D.2.version),.iface 3 (I_ D.2.state)] 20));have hkh:Aa [] we wh:=by rw [<- hwh];exact(Aa.refl [] we).alloc _
      have hV:QJ wh (some (A_ we 0)) 7 [.iface 9 (Dz okT),.iface 3 (I_ j.req.id),.iface 3 (I_ D.2.seq),.iface 3 (I_ D.2.slot),.iface 3 (I_ D.2.gen),.iface 3 (I_ D.2.version),.iface 3 (I_ D.2.state)]:=by rw [<- hwh];exact MH we _ 7 rfl 20
      have HS:=NP (some (A_ we 0)) 7 7 _ [[okT],[pX j.req.id],[pX D.2.seq],[pX D.2.slot],[pX D.2.gen],[pX D.2.version],[pX D.2.state]] rfl bE bA wh (HE.o _ (T.o.kw.trans hkh)) hV
       ⟨.inl ⟨_,rfl,rfl⟩,.inr (.inl ⟨_,rfl,rfl,by have:=HID.o;omega,by have:=HID.o;omega⟩),.inr (.inl ⟨_,rfl,rfl,by have:=B.o.seq;omega,by have:=B.o.seq;omega⟩),.inr (.inl ⟨_,rfl,rfl,by have:=B.o.slot;omega,by have:=B.o.slot;omega⟩),.inr (.inl ⟨_,rfl,rfl,by have:=B.o.gen;omega,by have:=B.o.gen;omega⟩),.inr (.inl ⟨_,rfl,rfl,by have:=B.o.version;omega,by have:=B.o.version;omega⟩),.inr (.inl ⟨_,rfl,rfl,by have:=B.o.state;omega,by have:=B.o.state;omega⟩),trivial⟩
      simp only [List.flatten_cons,List.flatten_nil,AL,BH,am] at HS;have HKH:=lH hkh;have HBH:Hi (AH wh sb j v5 now left e):=lH (AH.keeps HBE.o hkh bA);have hew:okT=⟨#[111,107]⟩:=rfl;rw [hew] at hwh;clear hkh hV hew h9 ao am;go_wp2_with fail;clear hwh ra rq r;refine HS.mono ?_;rintro r0 w1 ⟨rfl,hk1⟩;have HB1:Hi (AH w1 sb j v5 now left e):=lH (AH.keeps HBH.o hk1 bA);have HK1:=lH (HKH.o.trans hk1);clear hk1 HS;go_wp2_with fail;refine(GL sb j _ _ _ _ _ _ _ _ _ _ now left e TX _ HB1.o).mono ?_;rintro r0 w4 ⟨rfl,hb4,hk4⟩;have HB4:Hi (AH w4 sb (j.answers TX) v5 now left e):=lH hb4;have HK4:Hi (Aa [sb] we w4):=lH ((HK1.o.mono bA).trans hk4);have ac:Hi (SI wb sb w4 v5 { c with reg:=G }):=lH (T.o.put HBE.o HK4.o);have rq:=(HQE.o.keeps HK4.o bG).rl;have ra:=(au.o.keeps HK4.o bG).rl;have r:=(AH.lit HB4.o).rl;clear hb4 hk4;go_wp2_with fail;refine(Ur _ bs bi.o _).mono ?_;rintro r0 w5 ⟨rfl,rfl⟩;cases bs
      ·go_wp2_with fail
       go_meet;exact⟨v5,lH nQ,lH (by rw [HCQ.o];exact ac.o),HK4⟩
      ·go_upto_region 9 with fail
       refine wp_region_held_drew (S:=(Aa [sb] w4)) bC kH (fun hHeld=>?_);refine rK 0 ?_;refine rK 1 ?_;refine rK 2 ?_;refine rK 3 ?_;refine rK 4 ?_;refine rK 5 ?_;refine rK 6 ?_;refine rC 7 fun K hK=>?_;go_simp
       (try clear rH);refine rP hK kH fun rH hHeld=>?_;clear hK K
       refine rK 8 ?_;refine rK 9 ?_;refine rK 10 ?_;refine rC 11 fun K hK=>?_;go_simp
       (try clear rH);refine rP hK kH fun rH hHeld=>?_;clear hK K
       refine wpAnyH_done bC ?_ _
       (go_wp2_with fail;go_meet;exact⟨v5,lH (by rw [HCQ.o];exact Blk.drew (AH.sweep HB4.o D.2.slot D.2.gen)),lH (by rw [HCQ.o];exact ac.o.put HB4.o hHeld),lH (HK4.o.trans hHeld)⟩)
   case rest=>
    obtain⟨M,HBF,U,HKF⟩:=hcut
    rename World=>wf
    have HQF:=lH (HQE.o.keeps HKF.o bG);have aw:Hi (Aa [sb] w wf):=lH (((HKW.o.mono bA).trans HKE.o).trans HKF.o);have F:Hi (c.done.length=M.dn/\M.dn<=900/\M.dn<=8):=lH ⟨U.o.m.dn,U.o.m.dl,by have h1:c.done.length=M.dn:=U.o.m.dn;have:=HC.o.done;omega⟩;have av:=lH (fun W (hk:Aa [] wf W)=>K8 M.da M.dc c.done M.dn F.o.1 (by have:=F.o.2.1;omega) W (U.o.m.d.keeps hk));obtain⟨an,ay⟩:∃an:IA,⟨j.req.who,j.req.id,O.1.reply⟩=an:=⟨_,rfl⟩;have af:=lH ay;have r:=(AH.lit HBF.o).rl;have rq:=HQF.o.rl;clear ay;go_step;go_step;go_upto_region 14 with fail
    go_cut [7] (fun x wg=>∃g k,x = pF (some (A_ g 0)) (M.dn+1) k/\Hi (wg.ownsRow wf 73 3 (pF (some (A_ g 0)) (M.dn+1) k) (M.dn+1) ((c.done++[an]).flatMap Cu))/\Hi (Aa [] wf wg))
    case first=>
     refine wp_region_held_drew (S:=(Aa [] wf)) bC fZ (fun hHeld=>?_);refine rK 0 ?_;refine rK 1 ?_;refine rK 2 ?_;refine rK 3 ?_;refine rK 4 ?_;refine rK 6 ?_;refine rK 7 ?_;refine rK 8 ?_;refine rK 9 ?_;refine rK 10 ?_;refine rK 11 ?_;refine rK 12 ?_;refine rK 13 ?_;refine rK 14 ?_;refine rK 15 ?_;refine wpAnyH_ready (rs:=[5,16]) bC bA ?_;refine AllReadyH.cons rfl (fun K hK=>?_) ?_
     ·go_simp
      (refine(av.o _ hHeld).mono ?_;rintro er w5 ⟨a5,k5,rfl,hs5,J,hk5⟩;have hk5':=hHeld.trans hk5;have J:=Bw J hHeld.size)
      (try clear rH);refine rP hK fZ fun rH hHeld=>?_;clear hK K
      refine rC 16 fun K hK=>?_;go_simp
      (try clear rH);refine rP hK fZ fun rH hHeld=>?_;clear hK K
      refine rC 17 fun K hK=>?_
      (obtain⟨g6,k6,w6,N,aq,hkk⟩:=QN (J.alloc (.cells #[Dz j.req.who,I_ j.req.id,Dz O.1.reply] 73)) F.o.1 F.o.2.1 (by have:=hk5'.size;simp;omega) (x:=an) (by rw [<- af.o];exact AR.one (enc:=Cu) w5 ⟨j.req.who,j.req.id,O.1.reply⟩ 73 (DL _)) 34;refine BG _ _ 34 bD bD bD bD N ?_;have hk6:=hkk wf (hk5'.alloc _) (Aw _))
      (try clear rH);refine rP hK fZ fun rH hHeld=>?_;clear hK K
      refine rK 18 ?_;refine wpAnyH_done bC ?_ _
      (go_wp2_with fail;go_meet;exact⟨g6,k6,rfl,lH aq,lH hk6⟩)
     refine AllReadyH.cons rfl (fun K hK=>?_) ?_
     ·go_simp
      (try clear rH);refine rP hK fZ fun rH hHeld=>?_;clear hK K
      refine rC 5 fun K hK=>?_;go_simp
      (refine(av.o _ hHeld).mono ?_;rintro er w5 ⟨a5,k5,rfl,hs5,J,hk5⟩;have hk5':=hHeld.trans hk5;have J:=Bw J hHeld.size;have a9:AR Cu 3 w5 (some (A_ wf 0)) 1 [an]:=AR.keeps (by rw [<- af.o];exact(AR.one (enc:=Cu) wf ⟨j.req.who,j.req.id,O.1.reply⟩ 73 (DL _)).keeps ((Aa.refl [] _).drew)) hk5)
      (try clear rH);refine rP hK fZ fun rH hHeld=>?_;clear hK K
      refine rC 17 fun K hK=>?_
      (obtain⟨g6,k6,w6,N,aq,hkk⟩:=QN J F.o.1 F.o.2.1 hk5'.size a9 34;refine BG _ _ 34 bD bD bD bD N ?_;have hk6:=hkk wf hk5' (Aw _))
      (try clear rH);refine rP hK fZ fun rH hHeld=>?_;clear hK K
      refine rK 18 ?_;refine wpAnyH_done bC ?_ _
      (go_wp2_with fail;go_meet;exact⟨g6,k6,rfl,lH aq,lH hk6⟩)
     exact AllReadyH.nil
    case rest=>
     obtain⟨g,k,rfl,aj,HKG⟩:=hcut
     rename World=>wg
     clear r rq;have HBG:Hi (AH wg sb O.1 M now left e):=lH (AH.keeps HBF.o HKG.o bA);have bu:wf.heap.size<=g:=(aj.o.lt g rfl).1;have ai:Hi (¬g=sb/\¬g<wb.heap.size+3):=lH (by have:=aw.o.size;have:=HSB.o;have:=HI.o.lo;omega);obtain⟨m,hm⟩:=eX (M.dn+1);have HM:Hi (M.dn+1=m/\m<=9):=lH ⟨hm,by have:=F.o.2.2;omega⟩;rw [hm] at aj ⊢;obtain⟨o,rc,N,a1⟩:=Yl (m:=m) (by rw [Al,F.o.1];exact HM.o.1) (by have:=HM.o.1;omega) aj.o;have bj:=lH a1;have hw1:IntKind.i64.wrap ((m:Int) - 8)=(m:Int) - 8:=IntWalk.i64_in _ (by have:=HM.o.2;omega);have b4:max ((m:Int) - 8) 0=((m - 8:Nat):Int):=bB;have r:=(AH.lit HBG.o).rl;clear bu hm a1;go_wp2_with fail
     go_end0
     rw [af.o];have ap:=Ae wg sb 33 (pF (some (A_ g o)) (m - (m - 8)) rc);have a3:O8 (wg.setCell (A_ sb 33) (pF (some (A_ g o)) (m - (m - 8)) rc)) (some (A_ g o)) rc (Do (c.done++[an])):=bj.o.keepsN ap (fun _ g' o' e hm'=>by
      injection e with e;injection e with e _ _
      exact ai.o.1 (by rw [e];simpa using hm'))
     have a6:(Do (c.done++[an])).length=m - (m - 8):=by
      have h1:(c.done++[an]).length=m:=by rw [Al,F.o.1];exact HM.o.1
      unfold Do;rw [B1,h1]
     refine⟨_,rfl,AH.done HBG.o _ _ _,(((U.o.keeps HKG.o).put HBG.o ap).done a3 a6 bB (fun _ g' o' e hq=>?_)),(aw.o.trans (HKG.o.mono bA)).trans ap⟩;injection e with e;injection e with e _ _
     exact hq.elim (fun h=>ai.o.1 (by rw [e];exact h)) (fun h=>ai.o.2 (by rw [e];exact h))
theorem AH.eff{w:World}{sb:Nat}{j:Bq}{v:CV}{now left:Int}{e:GJ}(h:AH w sb j v now left e)(k s g:Int)(t:ByteArray):
  AH ((((w.setCell (A_ sb 36) (I_ k)).setCell (A_ sb 37) (I_ s)).setCell (A_ sb 38) (I_ g)).setCell (A_ sb 39) (Dz t)) sb j v now left ⟨k,s,g,t⟩:=
 (((Blk.set_ h 36 (I_ k)).set_ 37 (I_ s)).set_ 38 (I_ g)).set_ 39 (Dz t)
theorem GO(w:World)(b o:Nat)(x0 x1 x2 x3:Value):Aa [b] w ((((w.setCell (A_ b o) x0).setCell (A_ b (o+1)) x1).setCell (A_ b (o+2)) x2).setCell (A_ b (o+3)) x3):=
 (((Ae w b o x0).trans (Ae _ b (o+1) x1)).trans (Ae _ b (o+2) x2)).trans (Ae _ b (o+3) x3)
theorem O6(sb:Nat)(j:Bq)(v:CV)(c:BN)(now left:Int)(hp:j.phase=4)(wb w:World)(hI:SI wb sb w v c)(h:AH w sb j v now left Cp):
  Calls prog 71 #[pG (some (A_ sb 0))] w (Lz wb sb w now left (Co j c now left)):=by
 have HI:=lH hI;have HB:=lH h;rw [M9 hp];have r:=(AH.lit h).rl;clear hI h hp;go_enter func71,ntmps71;by_cases h0:left=0
 ·subst h0
  go_wp2_with fail
  go_end0
  exact⟨v,rfl,AH.phase HB.o 5,HI.o.put HB.o (Ae _ _ _ _),Ae _ _ _ _⟩
 ·have B:(left==0)=false:=by simpa using h0
  simp only [if_neg h0];go_wp2_with fail
  go_end0
  exact⟨v,rfl,AH.eff HB.o 1 j.slot j.gen ⟨#[]⟩,HI.o.put HB.o (GO _ sb 36 _ _ _ _),GO _ sb 36 _ _ _ _⟩
theorem O4(sb:Nat)(j:Bq)(v:CV)(c:BN)(now left:Int)(hp:j.phase=5)(wb w:World)(hI:SI wb sb w v c)(h:AH w sb j v now left Cp):
  Calls prog 72 #[pG (some (A_ sb 0))] w (Lz wb sb w now left (Co j c now left)):=by
 have HI:=lH hI;have HB:=lH h;rw [QE hp];have r:=(AH.lit h).rl;clear hI h hp;go_enter func72,ntmps72;go_wp2_with fail
 go_end0
 exact⟨v,rfl,AH.eff HB.o 2 0 0 j.reply,HI.o.put HB.o (GO _ sb 36 _ _ _ _),GO _ sb 36 _ _ _ _⟩
def WG(k:Int)(f n:Nat):MapEntry:={ key:=pE pK k,val:=.func (.func f) #[] #[],born:=n }
def KV:Array MapEntry:=#[WG 1 68 0,WG 2 69 1,WG 3 70 2,WG 4 71 3,WG 5 72 4]
theorem KW(es:Array MapEntry)(c:Nat)(k:Int)(f:Nat)(hf:B0 (.int .i64) (I_ k) es.toList 0=some none)(w:World):
  (Instr.mapUpdate 103 (.map (some w)) (I_ k) (.func (.func f) #[] #[])).run prog (w.alloc (.map es c)) = .ok () (w.alloc (.map (es.push (WG k f c)) (c+1))):=
 Fh underlying103 underlying3 rfl hf
theorem Ub(w:World):Calls prog 31 #[] w fun r w'=>r = pJ (.map (some w))/\w.alloc (.map KV 5)=w':=by
 have hm:=fun W=>run_makeMap (P:=prog) 103 W;have h1:=KW #[] 0 1 68 rfl w;have h2:=KW (KV.extract 0 1) 1 2 69 rfl w;have h3:=KW (KV.extract 0 2) 2 3 70 rfl w;have h4:=KW (KV.extract 0 3) 3 4 71 rfl w;have B:=KW (KV.extract 0 4) 4 5 72 rfl w;simp only [KV,List.extract_toArray,List.extract_eq_take_drop,BC,Nat.sub_zero,List.take_succ_cons,List.take_zero,Cd,BH,AL,pL] at h1 h2 h3 h4 B;go_enter func31,ntmps31;go_wp2;go_ret;exact⟨rfl,rfl⟩
structure Gu(w:World):Prop where
 c:∃E,MC E w
 n:∃E,M1 w E
 r:∃E,Lx w E
theorem Gu.keeps{w w':World}(h:Gu w)(hk:Aa [] w w'):Gu w':=⟨h.c.imp fun _ h=>h.keeps hk,h.n.imp fun _ h=>M1.keep h hk,h.r.imp fun _ h=>h.keeps hk⟩
theorem Gu.s{w:World}(h:Gu w):Ks w:=by
 obtain⟨E,h⟩:=h.c;exact⟨h.r.a.et,h.r.a.tab⟩
theorem Ua(wb:World)(sb:Nat)(j:Bq)(c:BN)(now left:Int)(hE:Gu wb)(hj:Gn j=true)(B:O9 j)(G:Gd c):
  ∃f,(∀(W:World) (b:Nat),W.heap[b]? = some (.map KV 5)->(Ed 103 (.map (some b)) (I_ j.phase) false).run prog W = .ok (.func (.func f) #[] #[]) W)/\(∀(W:World) args,(callFunc f args).run prog W = .ok (.enter f args) W)/\
   ∀(w:World) (v:CV),SI wb sb w v c->AH w sb j v now left Cp->Calls prog f #[pG (some (A_ sb 0))] w (Lz wb sb w now left (Co j c now left)):=by
 have hl:∀(k:Int) (f i:Nat),B0 (.int .i64) (I_ k) KV.toList 0=some (some (i,.func (.func f) #[] #[]))->∀(W:World) (b:Nat),W.heap[b]? = some (.map KV 5)->(Ed 103 (.map (some b)) (I_ k) false).run prog W = .ok (.func (.func f) #[] #[]) W:=
  fun k f i hf W b hb=>(DD underlying103 underlying3 hb bS hf).2
 obtain⟨_,_,h1,h2,D,F⟩:=(Hq j).1 hj;have hid : -9223372036854775808<=j.req.id/\j.req.id<=9223372036854775807:=⟨by omega,by omega⟩;have hv:j.phase=1\/j.phase=2\/j.phase=3\/j.phase=4\/j.phase=5:=bB;rcases hv with h | h | h | h | h
 ·refine⟨68,by rw [h];exact hl _ _ _ rfl,fun W args=>enters_of func68 bC rfl args W,fun w v hI hs=>?_⟩
  rw [Le h];obtain⟨E,hC⟩:=hE.c;exact(O2 E sb j v now left Cp B.1 wb w hC hI.kw (by have:=hI.lo;omega) hs).mono fun r w' ⟨h1,h2,h3⟩=>⟨v,h1,h2,hI.put hs h3,h3⟩
 ·refine⟨69,by rw [h];exact hl _ _ _ rfl,fun W args=>enters_of func69 bC rfl args W,fun w v hI hs=>?_⟩
  rw [Lf h];exact(QU sb j v c now left Cp hid wb w hE.s hI.kw (by have:=hI.lo;omega) hI.m hs).mono fun r w' ⟨h1,h2,h3⟩=>⟨v,h1,h2,hI.put hs h3,h3⟩
 ·refine⟨70,by rw [h];exact hl _ _ _ rfl,fun W args=>enters_of func70 bC rfl args W,fun w v hI hs=>?_⟩
  rw [QD h];obtain⟨E,hR⟩:=hE.r;obtain⟨eN,hN⟩:=hE.n;cases hZ:Bf c.done j.req.who j.req.id with
  | some t=>exact Tq sb j v c now left Cp t hZ wb w hI hs
  | none=>exact Tp E eN sb j v c now left Cp ⟨D,F⟩ B.2 G hZ wb w hE.s hR hN hI hs
 ·refine⟨71,by rw [h];exact hl _ _ _ rfl,fun W args=>enters_of func71 bC rfl args W,fun w v hI hs=>O6 sb j v c now left h wb w hI hs⟩
 ·refine⟨72,by rw [h];exact hl _ _ _ rfl,fun W args=>enters_of func72 bC rfl args W,fun w v hI hs=>O4 sb j v c now left h wb w hI hs⟩
theorem eE{α:Type}{enc:α->List Value}{w:World}{B L g c i n:Nat}{e:TypeId}(hn:∀x,(enc x).length=n){xs:List α}(hL:xs.length=L)(hi:i<L)(h:w.ownsRow B e n (pF (some (A_ g 0)) L c) L (xs.flatMap enc))(x:α):
  w.there g (i*n) n/\(w.setCells g (i*n) (enc x)).ownsRow B e n (pF (some (A_ g 0)) L c) L ((xs.set i x).flatMap enc):=by
 rcases h.2 with⟨h1,_⟩ | ⟨T,cap,cur,h1,hb,hg,G,J,hsz,M⟩
 ·cases h1
 injection h1 with h1 _ h3
 injection h1 with h1
 injection h1 with h1 _ _
 subst h1;subst h3;have O:i*n+n<=L*n:=by rw [<- Nat.succ_mul];exact Ch n hi
 have N:L*n<=cur.size:=by rw [hsz];exact Ch n G
 have hbk:Blk w g e cur:=hg;have hF:(xs.flatMap enc).length=L*n:=h.1;have D:(xs.set i x).flatMap enc=(xs.flatMap enc).take (i*n)++enc x++(xs.flatMap enc).drop ((i+1)*n):=by
  rw [List.set_eq_take_append_cons_drop,if_pos bB,BY,List.flatMap_cons,J9 hn xs i bB,J8 hn xs (i+1) bB,CC]
 have E:((xs.set i x).flatMap enc).length=L*n:=by
  rw [D,Al,Al,Ax,B1,hF,hn,Nat.succ_mul];omega
 refine⟨Blk.there hbk _ _ bB,E,.inr ⟨g,c,Ht cur (i*n) (enc x),rfl,hb,Blk.puts (enc x) (i*n) hbk,G,J,by rw [NF,hsz],?_⟩⟩;apply List.ext_getElem?;intro p;have F:∀q,q<L*n->cur[q]? = (xs.flatMap enc)[q]?:=fun q hq=>by
  rw [<- M,Dh,if_pos hq,qD]
 rw [Dh,D];by_cases hp:p<L*n
 ·rw [if_pos hp,qD,LL _ _ _ _ kE]
  by_cases h1:i*n<=p/\p<i*n+(enc x).length
  ·rw [if_pos h1,CC,Ee nO,List.getElem?_append_left nO,Ax,hF,DE bB]
  ·rw [if_neg h1,F p hp]
   rw [hn] at h1;by_cases h2:p<i*n
   ·rw [CC,List.getElem?_append_left nO,Dh,if_pos h2]
   ·rw [Ee (by rw [Al,Ax,hF,hn];omega),List.getElem?_drop,Al,Ax,hF,hn,DE bB,Nat.succ_mul]
    congr 1;omega
 ·rw [if_neg hp]
  exact(List.getElem?_eq_none (by rw [<- D,E];omega)).symm
theorem KY{fn:Func}{p q u:Tmp}{B D:TypeId}(h:fn.results=#[.cell p B,.cell q D,.tmp u])(tmps:Array Value)(P:Program)(w:World):
  (results fn tmps).run P w=((asAddr (tmps.getD p UD)).run P w).andThen fun a w₁=>((loadVar B a).run P w₁).andThen fun v w₂=>((asAddr (tmps.getD q UD)).run P w₂).andThen fun b w₃=>((loadVar D b).run P w₃).andThen fun x w₄=>.ok (.tuple #[v,x,tmps.getD u UD]) w₄:=by
 simp only [results,h];simp [Sem.run_bind,Bg]
theorem Hu{P:Program}{fn:Func}{p q u:Tmp}{tp tq:TypeId}(h:fn.results=#[.cell p tp,.cell q tq,.tmp u])(tmps:Array Value)(w:World)(g1 g2:Nat)(O T:TypeId)(cs ds:Array Value)(B D:TypeDesc)(y:Value)
 (hp:tmps.getD p UD = p_ g1 0)(hq:tmps.getD q UD = p_ g2 0)(hy:tmps.getD u UD=y)(hb1:Blk w g1 O cs)(hb2:Blk w g2 T ds)
 (M:P.underlying tp=some B)(E:(match B with | .struct _ | .array _ _=>true | _=>false)=true)(G:(P.info? tp).map (·.size)=some cs.size)
 (N:P.underlying tq=some D)(F:(match D with | .struct _ | .array _ _=>true | _=>false)=true)(J:(P.info? tq).map (·.size)=some ds.size):
  (results fn tmps).run P w = .ok (.tuple #[.agg cs,.agg ds,y]) w:=by
 rw [KY h,hp,hq,hy];simp [asAddr,run_loadVar_row w g1 O tp cs (0,0) B hb1 M E G,run_loadVar_row w g2 T tq ds (0,0) D hb2 N F J,Bg]
def effA(e:GJ):Array Value:=#[pE pK e.kind,pE pK e.slot,pE pK e.gen,Dz e.text]
theorem Ji(e:GJ):(prog.info? 46).map (·.size)=some (effA e).size:=by
 have:(prog.info? 46).map (·.size)=some 4:=bC;exact this
theorem J7(e:GJ):(effA e).all (·.oneCell')=true:=by simp [effA,Value.oneCell']
theorem AH.jobs{w:World}{sb:Nat}{j:Bq}{v:CV}{now left:Int}{e:GJ}(h:AH w sb j v now left e):w.rangeAt sb 0 (jobA j).toList:=fun i u hu=>by
 rw [AW,AH.cell h i];have he:Kj j (pF v.oa v.on v.oc) (pF v.r.s.ga v.gn v.r.s.gc) (pF v.r.s.ua v.un v.r.s.uc) (pF v.r.s.fa v.fn v.r.s.fc) (pF v.r.la v.ln v.r.lc) (I_ v.seq) (pF v.pa v.pn v.pc) (I_ v.nx) (pF v.ja v.jn v.jc) (pF v.da v.dn v.dc) now left e=jobA j++(ctlA v++#[pE pK now,I_ left]++effA e):=bC;rw [qD] at hu;rw [he,Array.getElem?_append_left (Ai.1 hu).1];exact hu
theorem AH.put{w:World}{sb:Nat}{j:Bq}{v:CV}{now left:Int}{e:GJ}(h:AH w sb j v now left e)(a:Option Addr)(n k:Nat):AH (w.setCell (A_ sb 32) (pF a n k)) sb j { v with ja:=a,jn:=n,jc:=k } now left e:=Blk.set_ h 32 (pF a n k)
def SQ(w:World)(R:BN×GJ×Int):Ending->World->Prop:=fun r w'=>∃v,r = pJ (.tuple #[pH (ctlA v),pH (effA R.2.1),pE pK R.2.2])/\Cg w' v R.1/\Fo w.heap.size v R.1/\Aa [] w w'
theorem OJ(v:CV)(c:BN)(conn now left:Int)(w:World)(hE:Gu w)(h:Cg w v c):
  Calls prog 12 #[.agg (C_ v),.int .i64 conn,.int .i64 now,.int .i64 left] w (SQ w (EC c conn now left)):=by
 obtain⟨w0,hw0⟩:=eX (((w.alloc (.cells (C_ v) 36)).alloc (.cells Hh.k 36)).alloc (.cells #[.int .i64 0,.int .i64 0,.int .i64 0,.string ⟨#[]⟩] 46));have hk0:Aa [] w w0:=by rw [<- hw0];exact(((Aa.refl [] w).alloc _).alloc _).alloc _
 have hb0:Blk w0 w 36 (C_ v):=by rw [<- hw0];exact((Blk.new w _ _).alloc _).alloc _
 have HB1:Hi (Blk w0 (w+1) 36 (ctlA cv0)):=lH (by rw [<- hw0];exact(Ar _ _ _ _ bA).alloc _);have HB2:Hi (Blk w0 (w+1+1) 46 (effA Cp)):=lH lW;have q:=hb0.rl;have HB0:=lH hb0;have HK0:=lH hk0;have HC:=JX (.slice v.oa v.on v.oc) (.slice v.r.s.ga v.gn v.r.s.gc) (.slice v.r.s.ua v.un v.r.s.uc) (.slice v.r.s.fa v.fn v.r.s.fc) (.slice v.r.la v.ln v.r.lc) (.int .i64 v.seq) (.slice v.pa v.pn v.pc) (.int .i64 v.nx) (.slice v.da v.dn v.dc) v.ja v.jn v.jc c.jobs h.jn (by have:=h.jl;omega) conn w0 (h.j.keeps hk0);obtain⟨b,hb⟩:=eX (JY c);obtain⟨Z,hZ⟩:=eX (BF c.jobs conn);obtain⟨R,hR⟩:=eX (EC c conn now left);rw [hR];unfold EC at hR;rw [hb,hZ] at hR;rw [hZ] at HC;have HR:=lH hR;have H:=lH h;have HB:=lH hb;have HZ:=lH hZ;have HE:Hi (∀W,Aa [] w W->Gu W):=lH fun W hk=>hE.keeps hk;have HFIN:Hi (∀(k:Int) (W:World) (tmps:Array Value),Aa [] w0 W->tmps.getD 8 UD = .pointer (some (A1 w 0))->tmps.getD 9 UD = .pointer (some (A2 w 0))->tmps.getD 10 UD = .int .i64 k->
   R=(Hl,Cp,k)->bodyPost prog f12 (SQ w R) .ret { tmps:=tmps,defers:=[] } ((W.setRow (w+1) (ctlA cv0)).setRow (w+1+1) (effA Cp))):=lH (by
  rintro k W tmps hk h8 h9 h10 rfl;have hb1:=(HB1.o.keeps hk bA).row (ctlA cv0);have hb2:=((HB2.o.keeps hk bA).keeps (Br _ (w+1) (ctlA cv0)) bA).row (effA Cp);refine bodyPost_ret (v:=.tuple #[.agg (ctlA cv0),.agg (effA Cp),.int .i64 k]) (Hu rfl _ _ (w+1) (w+1+1) 36 46 (ctlA cv0) (effA Cp) _ _ _ h8 h9 h10 (hb1.keeps (Br _ _ _) bA) hb2 underlying36 rfl (AD _) underlying46 rfl (Ji _)) rfl ⟨cv0,rfl,Gz _,G0 _,?_⟩;exact((HK0.o.trans hk).own (Br _ _ _) bF).own (Br _ _ _) bF)
 clear hk0 hb0 h hb hZ hR hE;go_enter func12,ntmps12;go_wp2_with fail;refine HC.mono ?_;rintro e w1 ⟨rfl,hk1⟩;have HK1:=lH hk1;have HC0:=lH (HB0.o.keeps hk1 bA);clear hw0 hk1 HC q;have q:=HC0.o.rl;go_wp2_with fail;refine(Ij v c b HB.o _ (H.o.keeps (HK0.o.trans HK1.o))).mono ?_;rintro e w2 ⟨rfl,hk2⟩;have HK2:=lH (HK1.o.trans hk2);have HD0:=lH (HC0.o.keeps hk2 bA);have HZ1:=lH (HB1.o.keeps HK2.o bA);have HZ2:=lH ((HB2.o.keeps HK2.o bA).keeps (Br _ (w+1) (ctlA cv0)) bA);clear hk2 q HC0;have q:=HD0.o.rl;cases b with
 | false=>
  go_wp2_with (first | (refine wpList_store_row bD 36 _ _ bD (w+1) (ctlA cv0) bD bD 36 (ctlA cv0) HZ1.o (AD cv0) rfl (Bc cv0) ?_) | (refine wpList_store_row bD 46 _ _ bD (w+1+1) (effA Cp) bD bD 46 (effA Cp) HZ2.o (Ji Cp) rfl (J7 Cp) ?_));exact HFIN.o 190 w2 _ HK2.o rfl rfl rfl (by rw [<- HR.o];rfl)
 | true=>
  have hcase:now<0\/(¬now<0/\1000000000000<now)\/(¬now<0/\¬1000000000000<now/\left<0)\/(¬now<0/\¬1000000000000<now/\¬left<0):=bB;rcases hcase with h1 | ⟨h1,h2⟩ | ⟨h1,h2,h3⟩ | ⟨h1,h2,h3⟩
  rotate_left 3
  ·have HA:Hi (¬(now<0\/1000000000000<now\/left<0)):=lH bB
   cases Z with
   | none=>
    simp only [Option.getD_none,Option.isSome_none];go_wp2_with (first | (refine wpList_store_row bD 36 _ _ bD (w+1) (ctlA cv0) bD bD 36 (ctlA cv0) HZ1.o (AD cv0) rfl (Bc cv0) ?_) | (refine wpList_store_row bD 46 _ _ bD (w+1+1) (effA Cp) bD bD 46 (effA Cp) HZ2.o (Ji Cp) rfl (J7 Cp) ?_));exact HFIN.o 192 w2 _ HK2.o rfl rfl rfl (by rw [<- HR.o,if_pos True.intro,if_neg HA.o])
   | some i=>
    simp only [Option.getD_some,Option.isSome_some];have hi:i<c.jobs.length:=Pu HZ.o;have HI:=lH hi;obtain⟨u,hu⟩:∃u,c.jobs[i]? = some u:=⟨_,List.getElem?_eq_getElem hi⟩;have hgd:c.jobs.getD i job0=u:=by rw [List.getD_eq_getElem?_getD,hu];rfl
    have HCO:=lH ((G1 c).1 HB.o);have hum:u∈c.jobs:=List.mem_of_getElem? hu;have HUJ:=lH (And.intro (HCO.o.job u hum) (H.o.js u hum));obtain⟨S,hS⟩:=eX (Co u c now left);have HS:=lH hS;have HR3:Hi (({ S.2.1 with jobs:=if S.2.2.kind=2 then(c.jobs.set i S.1).eraseIdx i else c.jobs.set i S.1 },S.2.2,(0:Int))=R):=lH (by rw [<- HR.o,if_pos rfl,if_neg HA.o];simp only [hgd,hS]);have HSO:Hi (O9 S.1):=lH (by
     have:=eK (j:=u) (c:=c) (now:=now) (left:=left) HUJ.o.2.2;rw [hS] at this;exact⟨by rw [this.2];exact HUJ.o.2.1,this.1⟩)
    have HU:=lH hu;have HJN:Hi (c.jobs.length=v.jn/\v.jn<=900):=lH ⟨H.o.jn,H.o.jl⟩;clear hi hu hgd hS hum;go_wp2_with fail;refine(Rh v c _ (H.o.keeps (HK0.o.trans HK2.o))).mono ?_;rintro e w3 ⟨v',rfl,hm,hjn,hrow,hjb,hno,hk3⟩;have HD3:=lH (HD0.o.keeps hk3 bA);obtain⟨w4,hw4⟩:=eX (w3.setRow w (ctlA v'));have hk4:Aa [w.heap.size] w3 w4:=by rw [<- hw4];exact Br _ _ _
    have hlt:w.heap.size<w2.heap.size:=HD0.o.lt;have HB4:Hi (Blk w4 w 36 (C_ v')):=lH (by rw [<- hw4];exact HD3.o.row _);have HRW:Hi (w4.ownsRow w2 61 24 (.slice v'.ja v'.jn v'.jc) v'.jn (c.jobs.flatMap encJob)):=lH (Ah hrow hk4 (fun g hg hm'=>by have:=(hrow.lt g hg).1;have:=List.mem_singleton.1 hm';omega));have HM4:Hi (Cg w4 v' c):=lH (hm.stay (Q:=(· < w2.heap.size)) hno (Ey hrow (fun g hg hq=>by have:=(hrow.lt g hg).1;omega)) hk4 (fun y hy=>by obtain rfl:=List.mem_singleton.1 hy;exact hlt) (H9.blk HD3.o bE bE));have HK4:Hi (Aa [] w w4):=lH (((HK0.o.trans HK2.o).trans hk3).own hk4 bF);have HY1:Hi (Blk w4 (w+1) 36 Hh.k):=lH (((HB1.o.keeps HK2.o bA).keeps hk3 bA).keeps hk4 bA);have HY2:Hi (Blk w4 (w+1+1) 46 #[.int .i64 0,.int .i64 0,.int .i64 0,.string ⟨#[]⟩]):=lH (((HB2.o.keeps HK2.o bA).keeps hk3 bA).keeps hk4 bG);have HJB:=lH hjb;have HJ2:=lH hjn;have HLT:=lH hlt;have HNO:=lH hno;have HLW:Hi (∀y,y<w.heap.size+3->y<w2.heap.size):=lH (fun y hy=>by have:=(HB2.o.keeps HK2.o bA).lt;omega);clear hm hjn hrow hjb hno hk3 hk4 hlt h1 h2 h3;go_upto_region 9 with(refine wpList_store_row bD 36 _ _ bD w (ctlA v') bD bD 36 (ctlA v) HD3.o (AD v') rfl (Bc v') ?_)
    simp only [Act.put];rw [hw4];clear hw4 q;obtain⟨g1,o1,u1,hja,hg1,hx1,hat1⟩:=HM4.o.j.at_k (k:=i) HI.o;obtain rfl:u1=u:=by have:=HU.o;rw [hx1] at this;injection this
    have HQ:Hi (∀W,Aa [] w4 W->W.rangeAt g1 (o1+i*24) (jobA u1).toList):=lH (fun W hk=>JC (fun j x hx=>(hk.cell (p:=A_ g1 (o1+i*24+j)) hg1 bA).trans (hat1 j x hx)));have q:=HB4.o.rl;have i1:(0:Int)<=(i:Int):=bB;have i2:(i:Int)<(v'.jn:Int):=by have:=HI.o;have:=HJN.o.1;have:=HJ2.o;omega
    clear hx1 hat1;go_cut [13] (fun x wc=>∃sb,x = .pointer (some (A_ sb 0))/\Hi (AH wc sb u1 v' now left Cp)/\Hi (Aa [] w4 wc)/\Hi (w4.heap.size<=sb))
    case first=>
     refine wp_region_held_drew (S:=(Aa [] w4)) bC (by((try dsimp only);(repeat(with_reducible first | exact Aa.refl _ _ | refine Aa.drew ?_ | refine Aa.alloc ?_ _)))) (fun hHeld=>?_);refine rK 0 ?_;refine rK 1 ?_;refine rK 2 ?_;refine rK 3 ?_;refine rQ 4 ?_ (hy:=by(intro wS hSw;refine(EO (P:=prog) 61 _ bD g1 (o1+i*24) bD (jobA u1) _ (HQ.o wS hSw) underlying61 rfl (D2 _)).trans ?_;with_reducible rfl));refine rK 5 ?_;refine rK 6 ?_;refine rK 7 ?_;refine rQ 8 ?_ (hy:=by(intro wS hSw;refine Eq.trans (b:=.ok (.value (.agg (Kj u1 (.slice v'.oa v'.on v'.oc) (.slice v'.r.s.ga v'.gn v'.r.s.gc) (.slice v'.r.s.ua v'.un v'.r.s.uc) (.slice v'.r.s.fa v'.fn v'.r.s.fc) (.slice v'.r.la v'.ln v'.r.lc) (.int .i64 v'.seq) (.slice v'.pa v'.pn v'.pc) (.int .i64 v'.nx) (.slice (some (A_ g1 o1)) v'.jn v'.jc) (.slice v'.da v'.dn v'.dc) now left Cp))) wS) ?_ ?_;(· kernel_rfl);(· with_reducible rfl)));refine rC 9 fun K hK=>?_;go_simp
     (try clear rH);refine rP hK (by((try dsimp only);(repeat(with_reducible first | exact Aa.refl _ _ | refine Aa.drew ?_ | refine Aa.alloc ?_ _)))) fun rH hHeld=>?_;clear hK K
     refine rK 10 ?_;refine wpAnyH_done bC ?_ _
     (go_wp2_with fail;go_meet;exact⟨w4.heap.size,rfl,lH (by unfold AH;rw [hja];exact Blk.drew (Blk.new w4 _ _)),lH hHeld,lH (Nat.le_refl _)⟩)
    case rest=>
     obtain⟨sb,rfl,HST,HKC,HSB⟩:=hcut
     rename World=>wc
     have hz4:w.heap.size+3<=w4.heap.size:=by have:=HY2.o.lt;omega
     have HSI:Hi (SI w sb wc v' c):=lH ⟨HK4.o.trans HKC.o,by have:=HSB.o;omega,HM4.o.keeps HKC.o,
      ⟨(HM4.o.o.no HM4.o.on (Q:=(· = sb)) nM).and2 (HNO.o.o.mono (Q:=(· < w.heap.size+3)) HLW.o) (fun _ h=>h),
       (HM4.o.r.later (Q:=(· = sb)) nM).and2 (HNO.o.r.mono (Q:=(· < w.heap.size+3)) HLW.o) (fun _ h=>h),
       (HM4.o.d.no HM4.o.dn (Q:=(· = sb)) nM).and2 (HNO.o.d.mono (Q:=(· < w.heap.size+3)) HLW.o) (fun _ h=>h)⟩,
      Ey HRW.o (fun g hg hq=>by have h1:=(HRW.o.lt g hg);have h2:=HSB.o;rcases hq with h | h;(· omega);(· have:=HLW.o g h;omega))⟩
     obtain⟨f,hlk,hent,hcall⟩:=Ua w sb u1 c now left (HE.o w (Aa.refl [] w)) HUJ.o.1 HUJ.o.2 HCO.o;rw [HS.o] at hcall;have HENT:=lH hent;have HCALL:=lH hcall;have r:=(AH.lit HST.o).rl;clear q i1 i2 hja hg1 hent hcall hz4;go_upto_region 10 with fail
     go_cut [14] (fun x wd=>x = .func (.func f) #[] #[]/\Hi (Aa [] wc wd))
     case first=>
      refine wp_region_held_drew (S:=(Aa [] wc)) bC mP (fun hHeld=>?_);refine rK 1 ?_;refine rK 2 ?_;refine rK 3 ?_;refine rK 4 ?_;refine rK 5 ?_;refine rC 0 fun K hK=>?_;go_simp
      (refine(Ub _).mono ?_;rintro er w5 ⟨rfl,hw5⟩;have hk5:Aa [] wc w5:=(by rw [<- hw5];exact((Aa.refl [] wc).drew).alloc _);have hl5:=hlk w5 wc (by subst hw5;exact heap_alloc_new _ _);clear hw5)
      (try clear rH);refine rP hK mP fun rH hHeld=>?_;clear hK K
      refine rC 6 fun K hK=>?_;go_simp
      (try clear rH);refine rP hK mP fun rH hHeld=>?_;clear hK K
      refine rK 7 ?_;refine wpAnyH_done bC ?_ _
      (go_wp2_with fail;go_meet;exact⟨rfl,lH hk5⟩)
     case rest=>
      obtain⟨rfl,HKD⟩:=hcut
      rename World=>wd
      clear r hlk;have HSD:Hi (AH wd sb u1 v' now left Cp):=lH (AH.keeps HST.o HKD.o bA);go_wp2_with fail;rw [HENT.o,Oper.upon_enter];refine(HCALL.o _ v' (HSI.o.keeps HKD.o) HSD.o).mono ?_;rintro er w7 ⟨v7,rfl,hb7,hi7,hk7⟩;have HST7:=lH hb7;have HSI7:=lH hi7;have HK7:Hi (Aa [sb] w4 w7):=lH (((HKC.o.trans HKD.o).mono bA).trans hk7);have hsz:w4.heap.size<=sb:=HSB.o;have hb0:w.heap.size<w4.heap.size:=HB4.o.lt;have HB7:=lH (HB4.o.keeps HK7.o bG);have HY1':=lH (HY1.o.keeps HK7.o (by have:=HY1.o.lt;simp;omega));have HY2':=lH (HY2.o.keeps HK7.o (by have:=HY2.o.lt;simp;omega));have HRW7:=lH (Ah HRW.o HK7.o (fun g hg hm'=>by have:=(HRW.o.lt g hg).2;have:=List.mem_singleton.1 hm';omega));have HJL:Hi (c.jobs.length=v'.jn/\v'.jn<=900):=lH ⟨HJN.o.1.trans HJ2.o.symm,by have:=HJN.o.2;have:=HJ2.o;omega⟩;have q:=HB7.o.rl;clear hb7 hi7 hk7 hsz hb0;go_wp2_with fail;refine(UE v'.ja v'.jc c.jobs v'.jn HJL.o.1 (by have:=HJL.o.2;omega) _ (AR.row Dc (by rw [HJL.o.1];exact HRW7.o))).mono ?_;rintro er w8 ⟨a8,k8,rfl,hs8,ho8,hk8⟩;obtain⟨g8,rfl⟩:∃g8,a8=some (A_ g8 0):=by
       rcases ho8.2 with⟨_,h2⟩ | ⟨g,cap,cur,h1,_⟩
       ·have:=HJL.o.1;have:=HI.o;omega
       ·injection h1 with h1 _ _
        exact⟨g,h1⟩
      have hput:=eE Dc HJL.o.1 (i:=i) (by have:=HJL.o.1;have:=HI.o;omega) ho8 S.1;have hg8:=ho8.lt g8 rfl;have HTH:=lH hput.1;have HROW:=lH hput.2;have HST8:Hi (AH w8 sb S.1 v7 now left S.2.2):=lH (AH.keeps HST7.o hk8 bA);have HJR:=lH (AH.jobs HST8.o);have hsb8:sb<w7.heap.size:=Blk.lt HST7.o;have HG8:Hi (w7.heap.size<=g8/\g8<w8.heap.size/\¬sb=g8):=lH ⟨hg8.1,hg8.2,by omega⟩;have HK8:=lH hk8;obtain⟨w9,hw9⟩:=eX (w8.setCells g8 (i*24) (jobA S.1).toList);have HR9:Hi (w9.ownsRow w7 61 24 (.slice (some (A_ g8 0)) v'.jn k8) v'.jn ((c.jobs.set i S.1).flatMap encJob)):=lH (by rw [<- hw9];exact hput.2);have HK9:Hi (Aa [g8] w8 w9):=lH (by rw [<- hw9];exact Bb _ _ _ _);have HK79:Hi (Aa [] w7 w9):=lH (hk8.own HK9.o (fun y hy=>by obtain rfl:=List.mem_singleton.1 hy;exact hg8.1));have HST9:Hi (AH w9 sb S.1 v7 now left S.2.2):=lH (AH.keeps HST7.o HK79.o bA);have r:=(AH.lit HST8.o).rl;have i1:(0:Int)<=(i:Int):=bB;have i2:(i:Int)<(v'.jn:Int):=by have:=HI.o;have:=HJL.o.1;omega
      obtain⟨bk,hbk⟩:=eX ((S.2.2.kind==2));have HBK:=lH hbk;clear hs8 ho8 hk8 hput hg8 hsb8 q hbk;go_upto_region 14 with(first | (refine Ay bD 61 _ bD sb 0 bD (jobA S.1) _ HJR.o underlying61 rfl (D2 _) ?_) | (refine wpList_store_mid bD 61 _ _ bD g8 (i*24) (jobA S.1) bD bD HTH.o (D2 _) (Gp _) ?_))
      simp only [Act.put];rw [hw9];clear hw9 r;have r:=(AH.lit HST9.o).rl;have hbk:=HBK.o;have hw1:IntKind.i64.wrap ((i:Int)+1)=(i:Int)+1:=IntWalk.i64_in _ (by have:=HJL.o.2;omega);obtain⟨JL,hJL⟩:=eX ((if S.2.2.kind=2 then(c.jobs.set i S.1).eraseIdx i else c.jobs.set i S.1));rw [hJL] at HR3;have HJQ:=lH hJL;clear hJL;go_upto_if 83 with fail
      clear hbk;go_cut [15] (fun x we=>∃n k,x = .slice (some (A_ g8 0)) n k/\Hi (Kt we (some (A_ g8 0)) k JL/\JL.length=n/\n<=v'.jn)/\Hi (Aa [g8] w9 we))
      case first=>
       cases bk
       ·have hE:JL=c.jobs.set i S.1:=by rw [<- HJQ.o,if_neg (by simpa using HBK.o)]
        have HEQ:=lH hE;clear hE;go_wp2_with fail;go_meet;exact⟨v'.jn,k8,rfl,lH ⟨by rw [HEQ.o];exact AR.row Dc (by rw [List.length_set,HJL.o.1];exact HR9.o),by rw [HEQ.o,List.length_set,HJL.o.1],Nat.le_refl _⟩,lH (Aa.refl _ _)⟩
       ·have hE:JL=(c.jobs.set i S.1).eraseIdx i:=by rw [<- HJQ.o,if_pos (by simpa using HBK.o)]
        have HEQ:=lH hE;clear hE;go_wp2_with fail;refine(cF (c.jobs.set i S.1) v'.jn i g8 k8 w7 (by rw [List.length_set,HJL.o.1]) bB (by have:=HJL.o.2;omega) _ HR9.o).mono ?_;rintro er w5 ⟨rfl,hs5,hk5⟩;have HS5:=lH hs5;have HK5:=lH hk5;clear hs5 hk5;go_wp2_with fail;go_meet;exact⟨v'.jn - 1,k8,rfl,lH ⟨by rw [HEQ.o];exact HS5.o,by rw [HEQ.o,List.length_eraseIdx,List.length_set,HJL.o.1,if_pos bB],by omega⟩,HK5⟩
      case rest=>
       obtain⟨n,k,rfl,HJM,HKE⟩:=hcut
       rename World=>we
       clear r;have HKE0:Hi (Aa [] w7 we):=lH (HK79.o.own HKE.o (fun y hy=>by obtain rfl:=List.mem_singleton.1 hy;exact HG8.o.1));have HSTE:Hi (AH we sb S.1 v7 now left S.2.2):=lH (AH.keeps HST7.o HKE0.o bA);obtain⟨v8,hv8⟩:∃v8:CV,{ v7 with ja:=some (A_ g8 0),jn:=n,jc:=k } = v8:=⟨_,rfl⟩;obtain⟨wr,hwr⟩:=eX (we.setCell (A_ sb 32) (.slice (some (A_ g8 0)) n k));have HSTR:Hi (AH wr sb S.1 v8 now left S.2.2):=lH (by rw [<- hwr,<- hv8];exact AH.put HSTE.o _ n k);have HKR:Hi (Aa [sb] w7 wr):=lH ((HKE0.o.mono bA).trans (by rw [<- hwr];exact Ae _ sb 32 _));have hz:=HSI7.o.lo;have HZ7:Hi (w.heap.size+3<=w4.heap.size/\w4.heap.size<=sb/\sb<w7.heap.size):=lH ⟨by have:=HY2.o.lt;omega,HSB.o,Blk.lt HST7.o⟩;have HYR1:=lH (HY1'.o.keeps HKR.o bG);have HYR2:=lH (HY2'.o.keeps HKR.o bG);have HFIN2:Hi (∀W,Aa [w.heap.size+1,w.heap.size+1+1] wr W->SQ w R (.returned (.tuple #[.agg (ctlA v8),.agg (effA S.2.2),.int .i64 0])) W):=lH (fun W hk=>by
        have hk7:Aa [sb,w.heap.size+1,w.heap.size+1+1] w7 W:=(HKR.o.mono bA).trans (hk.mono (by intro y hy;simp only [List.mem_cons,List.not_mem_nil,or_false] at hy ⊢;omega));have hkw:Aa [sb,w.heap.size+1,w.heap.size+1+1] we W:=((Ae we sb 32 (.slice (some (A_ g8 0)) n k)).mono bA).trans ((by rw [hwr];exact hk.mono (by intro y hy;simp only [List.mem_cons,List.not_mem_nil,or_false] at hy ⊢;omega)));have hz7:=HZ7.o;have hg8:=HG8.o;have hjm:Kt W (some (A_ g8 0)) k JL:=HJM.o.1.keepsN hkw (fun _ g o e hm'=>by
         injection e with e;injection e with e _ _
         subst e;simp only [List.mem_cons,List.not_mem_nil,or_false] at hm';omega)
        have hjs:∀x∈JL,O9 x:=fun x hx=>by
         have hx2:x∈c.jobs.set i S.1:=by
          rw [<- HJQ.o] at hx;split at hx
          ·exact List.mem_of_mem_eraseIdx hx
          ·exact hx
         rcases List.mem_or_eq_of_mem_set hx2 with h | h
         ·exact H.o.js x h
         ·rw [h];exact HSO.o
        have hoff:H9 w7 [sb,w.heap.size+1,w.heap.size+1+1]:=fun y hy=>by
         simp only [List.mem_cons,List.not_mem_nil,or_false] at hy;rcases hy with rfl | rfl | rfl
         ·exact N1 HST7.o y bA
         ·exact H9.blk HY1'.o bE bE _ bA
         ·exact H9.blk HY2'.o bE bE _ bA
        have hM:=HSI7.o.m.jobs HSI7.o.no hk7 (fun y hy=>by simp only [List.mem_cons,List.not_mem_nil,or_false] at hy;show y=sb\/_;omega) hoff hjm HJM.o.2.1 (by have:=HJM.o.2.2;have:=HJL.o.2;omega) hjs;rw [hv8] at hM;have hno:Fo w { v7 with ja:=some (A_ g8 0),jn:=n,jc:=k } { S.2.1 with jobs:=JL }:=
         ⟨⟨HSI7.o.no.o.mono (fun y (hy:y<_)=>.inr bB),HSI7.o.no.r.mono (fun y (hy:y<_)=>.inr bB),HSI7.o.no.d.mono (fun y (hy:y<_)=>.inr bB)⟩,fun _ g o e (hq:g<_)=>by
          injection e with e;injection e with e _ _
          omega⟩
        rw [hv8] at hno;refine⟨v8,by rw [<- HR3.o],by rw [<- HR3.o];exact hM,by rw [<- HR3.o];exact hno,?_⟩;exact(((HK4.o.own HK7.o (fun y hy=>by obtain rfl:=List.mem_singleton.1 hy;omega)).own HKR.o (fun y hy=>by obtain rfl:=List.mem_singleton.1 hy;omega)).own hk bF))
       have r:=(AH.lit HSTE.o).rl;have hsb1:¬sb=w.heap.size+1:=bB;have hsb2:¬sb=w.heap.size+1+1:=bB;clear hz hv8;go_step;go_step;go_upto_region 17 with fail
       clear hwr r;have r:=(AH.lit HSTR.o).rl;refine wp_region_held_drew (S:=(Aa [w.heap.size+1,w.heap.size+1+1] wr)) bC mT (fun hHeld=>?_);refine rK 0 ?_;refine rK 1 ?_;refine rK 2 ?_;refine rK 3 ?_;refine rK 4 ?_;refine rK 5 ?_;refine rK 6 ?_;refine rK 7 ?_;refine rC 8 fun K hK=>?_
       (refine DT 36 _ _ bD (w+1) (ctlA v8) bD bD 36 Hh.k (Blk.drew HYR1.o) rfl (AD _) (Bc _) ?_;intro wS HRB hkS;have hkS':Aa [w.heap.size+1,w.heap.size+1+1] wr wS:=((Aa.refl _ wr).drew).trans (hkS.mono bA))
       (try clear rH);refine rP hK mT fun rH hHeld=>?_;clear hK K
       refine rC 9 fun K hK=>?_
       (refine DT 46 _ _ bD (w+1+1) (effA S.2.2) bD bD 46 #[.int .i64 0,.int .i64 0,.int .i64 0,.string ⟨#[]⟩] ((Blk.drew HYR2.o).keeps hkS bA) rfl (Ji _) (J7 _) ?_;intro wT HAB hkT;have hkT':Aa [w.heap.size+1,w.heap.size+1+1] wr wT:=hkS'.trans (hkT.mono bA))
       (try clear rH);refine rP hK mT fun rH hHeld=>?_;clear hK K
       refine rK 10 ?_;refine wpAnyH_done bC ?_ _
       (go_wp2_with fail;exact bodyPost_ret (v:=.tuple #[.agg (ctlA v8),.agg (effA S.2.2),.int .i64 0]) (Hu rfl _ _ (w+1) (w+1+1) 36 46 (ctlA v8) (effA S.2.2) _ _ _ rfl rfl rfl (HRB.keeps hkT bA) HAB underlying36 rfl (AD _) underlying46 rfl (Ji _)) rfl (HFIN2.o wT hkT'))
  all_goals
   have HA:Hi (now<0\/1000000000000<now\/left<0):=lH bB;go_wp2_with (first | (refine wpList_store_row bD 36 _ _ bD (w+1) (ctlA cv0) bD bD 36 (ctlA cv0) HZ1.o (AD cv0) rfl (Bc cv0) ?_) | (refine wpList_store_row bD 46 _ _ bD (w+1+1) (effA Cp) bD bD 46 (effA Cp) HZ2.o (Ji Cp) rfl (J7 Cp) ?_));exact HFIN.o 2 w2 _ HK2.o rfl rfl rfl (by rw [<- HR.o,if_pos True.intro,if_pos HA.o])
def Xw(w:World)(R:BN×ByteArray):Ending->World->Prop:=fun r w'=>∃v,r = pJ (.tuple #[pH (ctlA v),Dz R.2])/\Cg w' v R.1/\Fo w.heap.size v R.1/\Aa [] w w'
theorem Cg.put{w w':World}{B b:Nat}{v:CV}{c:BN}{t:TypeId}{cs:Array Value}(h:Cg w v c)(hn:Fo B v c)(hb:b<B)(hB:Blk w b t cs)(h1:t≠147)(h2:t≠9)(hk:Aa [b] w w'):Cg w' v c:=
 h.stay hn.1 hn.2 hk (fun y hy=>by obtain rfl:=Ag.1 hy;exact hb) (H9.blk hB h1 h2)
theorem FH(v:CV)(c:BN)(conn:Int)(line:ByteArray)(now:Int)(aa:line.size<=1000000)(w:World)(hE:Gu w)(h:Cg w v c):
  Calls prog 16 #[pH (C_ v),I_ conn,Dz line,I_ now] w (Xw w (pY c conn line now)):=by
 obtain⟨w0,hw0⟩:=eX ((w.alloc (.cells (C_ v) 36)).alloc (.cells Hh.k 36));have hk0:Aa [] w w0:=by rw [<- hw0];exact((Aa.refl [] w).alloc _).alloc _
 have am:w0.heap.size=w.heap.size+2:=by rw [<- hw0];simp
 have hb0:Blk w0 w 36 (C_ v):=by rw [<- hw0];exact(Blk.new w _ _).alloc _
 have HB1:Hi (Blk w0 (w+1) 36 Hh.k):=lH lW;have q:=hb0.rl;have HB0:=lH hb0;have HK0:=lH hk0;have O:=lH am;have HE:Hi (∀W,Aa [] w W->Gu W):=lH fun W hk=>hE.keeps hk;have HC:=OH v c conn line aa w0 (hE.keeps hk0).s.et (h.keeps hk0);obtain⟨R,hR⟩:=eX (pY c conn line now);rw [hR];unfold pY at hR;obtain⟨C,hC⟩:=eX (Fj c conn line);rw [hC] at hR HC;obtain⟨C1,er⟩:=C;have HR:=lH hR;clear hk0 hb0 am h hE hR hC;go_enter func16,ntmps16;go_wp2_with fail;clear hw0;refine HC.mono ?_;rintro e w1 ⟨v1,rfl,aj,al,hk1⟩;have ar:=lH aj;have af:=lH al;have HK1:=lH hk1;have HC0:=lH (HB0.o.keeps hk1 bA);have ao:=lH (HB1.o.keeps hk1 bA);have hlt:w.heap.size<w0.heap.size/\w.heap.size+1<w0.heap.size:=by have:=O.o;omega
 have HLT:=lH hlt;clear aj al hk1 HC q hlt;go_wp2_with (refine As bD 36 _ _ bD w (ctlA v1) bD bD 36 (C_ v) HC0.o rfl (AD v1) (Bc v1) ?_;intro w2 hb2 hk2);have HB2:=lH hb2;have HK2:=lH hk2;have au:Hi (Cg w2 v1 C1):=lH (ar.o.put af.o HLT.o.1 HC0.o bE bE hk2);have ap:Hi (Blk w2 (w+1) 36 Hh.k):=lH (ao.o.keeps hk2 bA);have HKW:Hi (Aa [] w w2):=lH ((HK0.o.trans HK1.o).own hk2 bF);clear hb2 hk2;go_loopw [11] (fun i wr=>∃(k:Nat) (B:CV) (F:BN),k<=6/\i = I_ k/\Hi (Blk wr w 36 (ctlA B)/\Blk wr (w+1) 36 Hh.k)/\Hi (Cg wr B F/\Fo w0 B F)/\Hi ((if er=0 then D9 (6 - k) F conn now else(F,⟨#[]⟩))=R)/\Hi (Aa [] w wr)) (fun i _=>6 - (intOf i).toNat)
 case atStart=>exact⟨0,v1,C1,by omega,rfl,lH ⟨HB2.o,ap.o⟩,lH ⟨au.o,af.o⟩,lH HR.o,HKW⟩
 case round=>
  obtain⟨k,B,F,hk,rfl,HBB,M,X,HKR⟩:=hrel;have U:Hi (∀W W9,Aa [] wr W->(F,⟨#[]⟩)=R->Aa [w.heap.size+1] W W9->Xw w R (pJ (.tuple #[pH (ctlA B),Dz ⟨#[]⟩])) W9):=lH (fun W W9 hk hR hk9=>by
   rw [<- hR];exact⟨B,rfl,(M.o.1.keeps hk).put M.o.2 HLT.o.2 (HBB.o.2.keeps hk bA) bE bE hk9,M.o.2.down (by have:=O.o;omega),(HKR.o.trans hk).own hk9 bF⟩)
  have q:=(show Blk wr w 36 (C_ B) from HBB.o.1).rl;by_cases hlt:k<6;rotate_left
  ·obtain rfl:k=6:=bB;have hR:(F,⟨#[]⟩)=R:=by have:=X.o;split at this<;>exact this
   have D:=lH hR;clear hR hk hlt;go_wp2_with (refine As bD 36 _ _ bD (w+1) (ctlA B) bD bD 36 Hh.k HBB.o.2 rfl (AD B) (Bc B) ?_;intro w9 G hk9);exact bodyPost_ret (v:=.tuple #[pH (ctlA B),Dz ⟨#[]⟩]) (AS rfl _ _ (w+1) 36 (ctlA B) _ (Dz ⟨#[]⟩) rfl rfl G underlying36 rfl (AD _)) rfl (U.o wr _ (Aa.refl _ _) D.o hk9)
  have i1:(k:Int)<6:=bB;by_cases he:er=0;rotate_left
  ·have f0:(er==0)=false:=by simpa using he
   have hR:(F,⟨#[]⟩)=R:=by have:=X.o;rwa [if_neg he] at this
   have D:=lH hR;clear hR hk hlt he;go_wp2_with (refine As bD 36 _ _ bD (w+1) (ctlA B) bD bD 36 Hh.k HBB.o.2 rfl (AD B) (Bc B) ?_;intro w9 G hk9);exact bodyPost_ret (v:=.tuple #[pH (ctlA B),Dz ⟨#[]⟩]) (AS rfl _ _ (w+1) 36 (ctlA B) _ (Dz ⟨#[]⟩) rfl rfl G underlying36 rfl (AD _)) rfl (U.o wr _ (Aa.refl _ _) D.o hk9)
  ·have f0:(er==0)=true:=by simpa using he
   obtain⟨m,hm⟩:∃m,6 - k=m+1:=⟨5 - k,by omega⟩;obtain⟨S,hS⟩:=eX (EC F conn now 0);have ag:Hi ((if S.2.2≠0 then(F,⟨#[]⟩) else if S.2.1.kind=2 then(S.1,S.2.1.text) else D9 m S.1 conn now)=R):=lH (by
    have:=X.o;rw [if_pos he,hm] at this;rw [<- this,<- hS];rfl)
   have HM:=lH (show 6 - (k+1)=m/\k+1<=6 from⟨by omega,by omega⟩);have aq:=lH he;have HST:=OJ B F conn now 0 wr (HE.o _ HKR.o) M.o.1;rw [hS] at HST;clear hm hS hk hlt he;go_wp2_with fail;refine HST.mono ?_;rintro e w3 ⟨E,rfl,ak,hn3,hk3⟩;have av:=lH ak;have N:Hi (Fo w0 E S.1):=lH (hn3.down (by have:=HBB.o.2.lt;have:=O.o;omega));have ac:=lH hk3;clear ak hn3 hk3 HST q;go_upto_region 6 with(first | (refine As bD 36 _ _ bD w3 (ctlA E) bD bD 36 Hh.k ((Blk.new w3 _ _).alloc _) rfl (AD E) (Bc E) ?_;intro w4 hb4 hk4) | (refine As bD 46 _ _ bD (w3+1) (effA S.2.1) bD bD 46 #[pE pK 0,I_ 0,I_ 0,Dz ⟨#[]⟩] ((Ar _ _ _ _ bA).keeps hk4 bA) rfl (Ji _) (J7 _) ?_;intro w5 ah hk5))
   try simp only [By]
   have hk35:Aa [] w3 w5:=((((Aa.refl [] w3).alloc _).alloc _).own hk4 bF).own hk5 bF;have J:Hi (Aa [] wr w5):=lH (ac.o.trans hk35);have aw:=lH (av.o.keeps hk35);have ay:Hi (Blk w5 w3 36 (C_ E)):=lH (hb4.keeps hk5 bA);have az:Hi (Blk w5 (w3+1) 46 #[pE pK S.2.1.kind,I_ S.2.1.slot,I_ S.2.1.gen,Dz S.2.1.text]):=lH ah;have Y:Hi (Blk w5 w 36 (C_ B)):=lH (HBB.o.1.keeps J.o bA);have HX1:=lH (HBB.o.2.keeps J.o bA);have hsz:w.heap.size+1<w3.heap.size:=by have:=HBB.o.2.lt;have:=ac.o.size;omega
   clear hk35 hb4 hk4 ah hk5;have q0:=Y.o.rl;have q4:=ay.o.rl;by_cases h2:S.2.2=0;rotate_left
   ·have f2:(S.2.2 != 0)=true:=kC;have hR:(F,⟨#[]⟩)=R:=by have:=ag.o;rwa [if_pos h2] at this
    have D:=lH hR;clear hR h2;go_wp2_with (refine As bD 36 _ _ bD (w+1) (ctlA B) bD bD 36 Hh.k HX1.o rfl (AD B) (Bc B) ?_;intro w9 G hk9);exact bodyPost_ret (v:=.tuple #[pH (ctlA B),Dz ⟨#[]⟩]) (AS rfl _ _ (w+1) 36 (ctlA B) _ (Dz ⟨#[]⟩) rfl rfl G underlying36 rfl (AD _)) rfl (U.o w5 _ J.o D.o hk9)
   ·have f2:(S.2.2 != 0)=false:=kC;have HR3:Hi ((if S.2.1.kind=2 then(S.1,S.2.1.text) else D9 m S.1 conn now)=R):=lH (by have:=ag.o;rwa [if_neg (by simp [h2])] at this);clear h2;go_upto_region 9 with(refine As bD 36 _ _ bD w (ctlA E) bD bD 36 (C_ B) Y.o rfl (AD E) (Bc E) ?_;intro T ai hk6)
    try simp only [By]
    have ab:Hi (Blk T w 36 (C_ E)):=lH ai;have ad:Hi (Aa [] w T):=lH ((HKR.o.trans J.o).own hk6 bF);have ae:Hi (Cg T E S.1):=lH (aw.o.put N.o HLT.o.1 Y.o bE bE hk6);have HY1:=lH (HX1.o.keeps hk6 bA);have a0:=lH (az.o.keeps hk6 bG);clear q0 q4 ai hk6;have q0:=ab.o.rl;have q5:=a0.o.rl;by_cases h3:S.2.1.kind=2
    ·have f3:(S.2.1.kind==2)=true:=by simpa using h3
     have hR:(S.1,S.2.1.text)=R:=by have:=HR3.o;rwa [if_pos h3] at this
     have D:=lH hR;have hne:¬w3.heap.size=w.heap.size:=bB;clear hR h3;go_upto_region 10 with fail
     refine wp_region_held_drew (S:=(Aa [w.heap.size+1] T)) bC (by((try dsimp only);(first | exact hkS' | exact(Aa.refl _ T).drew))) (fun hHeld=>?_);refine rK 0 ?_;refine rK 1 ?_;refine rK 2 ?_;refine rC 3 fun K hK=>?_
     (refine DT 36 _ _ bD (w+1) (ctlA E) bD bD 36 Hh.k (Blk.drew HY1.o) rfl (AD _) (Bc _) ?_;intro wS HRB hkS;have hkS':Aa [w.heap.size+1] T wS:=((Aa.refl _ T).drew).trans hkS)
     (try clear rH);refine rP hK (by((try dsimp only);(first | exact hkS' | exact(Aa.refl _ T).drew))) fun rH hHeld=>?_;clear hK K
     refine rK 4 ?_;refine wpAnyH_done bC ?_ _
     (go_wp2_with fail;exact bodyPost_ret (v:=.tuple #[pH (ctlA E),Dz S.2.1.text]) (AS rfl _ _ (w+1) 36 (ctlA E) _ (Dz S.2.1.text) rfl rfl HRB underlying36 rfl (AD _)) rfl (by rw [<- D.o];exact⟨E,rfl,ae.o.put N.o HLT.o.2 HY1.o bE bE hkS',N.o.down (by have:=O.o;omega),ad.o.own hkS' bF⟩))
    ·have f3:(S.2.1.kind==2)=false:=by simpa using h3
     have ax:Hi ((if er=0 then D9 (6 - (k+1)) S.1 conn now else(S.1,⟨#[]⟩))=R):=lH (by have:=HR3.o;rw [if_neg h3] at this;rw [if_pos aq.o,HM.o.1];exact this);clear h3;go_wp2_with fail;go_roundw;case rel=>exact⟨k+1,E,S.1,HM.o.2,by go_num,lH ⟨ab.o,HY1.o⟩,lH ⟨ae.o,N.o⟩,ax,ad⟩
     case measure=>have:=HM.o.2;simp [intOf];omega
def ZF:BN:=(W6 [⟨⟨#[97,110,110]⟩,3⟩] 2).1
theorem iK:(W6 [⟨⟨#[97,110,110]⟩,3⟩] 2).2=0:=bC
theorem iL:(pY ZF 0 ⟨#[97,110,110,32,49,32,99,114,101,97,116,101,32,97,99,109,101,32,107,32,49,48,48]⟩ 5).2=⟨#[111,107,32,49,32,49,32,48,32,49,32,49,32,49]⟩:=bC
theorem iM:(pY (pY ZF 0 ⟨#[97,110,110,32,49,32,99,114,101,97,116,101,32,97,99,109,101,32,107,32,49,48,48]⟩ 5).1 1 ⟨#[97,110,110,32,50,32,108,105,115,116,32,51]⟩ 5).2=⟨#[111,107,32,50,32,50,32,49,32,101,110,100,32,97,99,109,101]⟩:=bC
theorem ZG:(pY (pY (pY ZF 0 ⟨#[97,110,110,32,49,32,99,114,101,97,116,101,32,97,99,109,101,32,107,32,49,48,48]⟩ 5).1 1 ⟨#[97,110,110,32,50,32,108,105,115,116,32,51]⟩ 5).1 0 ⟨#[97,110,110,32,49,32,99,114,101,97,116,101,32,97,99,109,101,32,107,32,49,48,48]⟩ 5).2=⟨#[111,107,32,49,32,49,32,48,32,49,32,49,32,49]⟩:=bC
theorem eI:(pY (pY (pY (pY ZF 0 ⟨#[97,110,110,32,49,32,99,114,101,97,116,101,32,97,99,109,101,32,107,32,49,48,48]⟩ 5).1 1 ⟨#[97,110,110,32,50,32,108,105,115,116,32,51]⟩ 5).1 0 ⟨#[97,110,110,32,49,32,99,114,101,97,116,101,32,97,99,109,101,32,107,32,49,48,48]⟩ 5).1 0 ⟨#[98,111,98,32,51,32,115,104,111,119,32,97,99,109,101,32,48]⟩ 5).2=⟨#[101,114,114,111,114,32,51,32,49,50,48]⟩:=bC
theorem eH:(pY (pY (pY (pY ZF 0 ⟨#[97,110,110,32,49,32,99,114,101,97,116,101,32,97,99,109,101,32,107,32,49,48,48]⟩ 5).1 1 ⟨#[97,110,110,32,50,32,108,105,115,116,32,51]⟩ 5).1 0 ⟨#[97,110,110,32,49,32,99,114,101,97,116,101,32,97,99,109,101,32,107,32,49,48,48]⟩ 5).1 0 ⟨#[119,104,97,116]⟩ 5).2=⟨#[101,114,114,111,114,32,48,32,49,57,51]⟩:=bC
theorem iJ:∃C0 C1 C2 C3 C4 C5,W6 [⟨⟨#[97,110,110]⟩,3⟩] 2=(C0,0)/\pY C0 0 ⟨#[97,110,110,32,49,32,99,114,101,97,116,101,32,97,99,109,101,32,107,32,49,48,48]⟩ 5=(C1,⟨#[111,107,32,49,32,49,32,48,32,49,32,49,32,49]⟩)/\pY C1 1 ⟨#[97,110,110,32,50,32,108,105,115,116,32,51]⟩ 5=(C2,⟨#[111,107,32,50,32,50,32,49,32,101,110,100,32,97,99,109,101]⟩)/\pY C2 0 ⟨#[97,110,110,32,49,32,99,114,101,97,116,101,32,97,99,109,101,32,107,32,49,48,48]⟩ 5=(C3,⟨#[111,107,32,49,32,49,32,48,32,49,32,49,32,49]⟩)/\pY C3 0 ⟨#[98,111,98,32,51,32,115,104,111,119,32,97,99,109,101,32,48]⟩ 5=(C4,⟨#[101,114,114,111,114,32,51,32,49,50,48]⟩)/\pY C3 0 ⟨#[119,104,97,116]⟩ 5=(C5,⟨#[101,114,114,111,114,32,48,32,49,57,51]⟩):=
 ⟨_,_,_,_,_,_,Prod.ext rfl iK,Prod.ext rfl iL,Prod.ext rfl iM,Prod.ext rfl ZG,Prod.ext rfl eI,Prod.ext rfl eH⟩
theorem GD(w:World)(hE:Gu w):Calls prog 8 #[] w fun r w'=>r = pJ (pI true)/\Aa [] w w':=by
 obtain⟨C0,C1,C2,C3,C4,C5,h0,h1,h2,h3,h4,h5⟩:=iJ;have H1:=lH h1;have H2:=lH h2;have H3:=lH h3;have H4:=lH h4;have H5:=lH h5;have HE:Hi (∀W,Aa [] w W->Gu W):=lH fun W hk=>hE.keeps hk;obtain⟨wa,T⟩:=eX (w.alloc (.cells #[Dz ⟨#[97,110,110]⟩,I_ 3] 81));have ah:Aa [] w wa:=by rw [<- T];exact(Aa.refl [] w).alloc _
 have aj:IE wa (some (A_ w 0)) 1 [⟨⟨#[97,110,110]⟩,3⟩]:=by rw [<- T];exact AR.one (enc:=Eg) w ⟨⟨#[97,110,110]⟩,3⟩ 81 (Fc _)
 have HN:=XU (some (A_ w 0)) 1 [⟨⟨#[97,110,110]⟩,3⟩] 1 rfl bE bE 2 wa aj;rw [h0] at HN;have an:=lH ah;clear h0 h1 h2 h3 h4 h5 hE ah aj;go_enter func8,ntmps8;go_wp2_with fail;clear T;refine HN.mono ?_;rintro r w0 ⟨Y,rfl,ai,au,hk0⟩;have ap:=lH ai;have HK0:=lH (an.o.trans hk0);clear ai au hk0 HN;go_upto_region 2 with(refine As bD 36 _ _ bD w0 (ctlA Y) bD bD 36 Hh.k (Blk.new w0 _ _) rfl (AD Y) (Bc Y) ?_;intro u0 hb0 B)
 try simp only [By]
 obtain⟨O,hb1⟩:=eX w0.heap.size;have HB0:Hi (Blk u0 O 36 (C_ Y)):=lH (by rw [<- hb1];exact hb0);have D:Aa [] w0 u0:=((Aa.refl [] w0).alloc _).own B QW;have ao:=lH (HK0.o.trans D);have aq:=lH (ap.o.keeps D);have HBB:Hi (w.heap.size<=O):=lH (by rw [<- hb1];exact HK0.o.size);rw [hb1];have q:=HB0.o.rl;clear hb1 hb0 B D;have ac:=aq;have E:=ao;have HA:=FH Y C0 0 ⟨#[97,110,110,32,49,32,99,114,101,97,116,101,32,97,99,109,101,32,107,32,49,48,48]⟩ 5 bE u0 (HE.o _ E.o) ac.o;rw [H1.o] at HA;go_wp2_with fail;refine HA.mono ?_;rintro r w1 ⟨U,rfl,hm,hn,hk⟩;have HB:=lH (HB0.o.keeps hk bA);have HM:=lH hm;have HN:=lH hn;have HK:=lH hk;clear hm hn hk HA q;go_upto_region 5 with(refine As bD 36 _ _ bD O (ctlA U) bD bD 36 (C_ Y) HB.o rfl (AD U) (Bc U) ?_;intro u1 hb1 B)
 try simp only [By]
 have HB1:Hi (Blk u1 O 36 (C_ U)):=lH hb1;have ad:Hi (Cg u1 U C1):=lH (HM.o.put HN.o HB0.o.lt HB.o bE bE B);have F:Hi (Aa [] w u1):=lH ((E.o.trans HK.o).own B nC);clear hb1 B HB HM HN HK;have q:=HB1.o.rl;have HA:=FH U C1 1 ⟨#[97,110,110,32,50,32,108,105,115,116,32,51]⟩ 5 bE u1 (HE.o _ F.o) ad.o;rw [H2.o] at HA;go_wp2_with fail;refine HA.mono ?_;rintro r w2 ⟨v2,rfl,hm,hn,hk⟩;have HB:=lH (HB1.o.keeps hk bA);have HM:=lH hm;have HN:=lH hn;have HK:=lH hk;clear hm hn hk HA q;go_upto_region 6 with(refine As bD 36 _ _ bD O (ctlA v2) bD bD 36 (C_ U) HB.o rfl (AD v2) (Bc v2) ?_;intro u2 hb2 B)
 try simp only [By]
 have HB2:Hi (Blk u2 O 36 (C_ v2)):=lH hb2;have ae:Hi (Cg u2 v2 C2):=lH (HM.o.put HN.o HB1.o.lt HB.o bE bE B);have G:Hi (Aa [] w u2):=lH ((F.o.trans HK.o).own B nC);clear hb2 B HB HM HN HK;have q:=HB2.o.rl;have HA:=FH v2 C2 0 ⟨#[97,110,110,32,49,32,99,114,101,97,116,101,32,97,99,109,101,32,107,32,49,48,48]⟩ 5 bE u2 (HE.o _ G.o) ae.o;rw [H3.o] at HA;go_wp2_with fail;refine HA.mono ?_;rintro r w3 ⟨X,rfl,hm,hn,hk⟩;have HB:=lH (HB2.o.keeps hk bA);have HM:=lH hm;have HN:=lH hn;have HK:=lH hk;clear hm hn hk HA q;go_upto_region 7 with(refine As bD 36 _ _ bD O (ctlA X) bD bD 36 (C_ v2) HB.o rfl (AD X) (Bc X) ?_;intro u3 ag B)
 try simp only [By]
 have aa:Hi (Blk u3 O 36 (C_ X)):=lH ag;have N:Hi (Cg u3 X C3):=lH (HM.o.put HN.o HB2.o.lt HB.o bE bE B);have J:Hi (Aa [] w u3):=lH ((G.o.trans HK.o).own B nC);clear ag B HB HM HN HK;have q:=aa.o.rl;have HA:=FH X C3 0 ⟨#[98,111,98,32,51,32,115,104,111,119,32,97,99,109,101,32,48]⟩ 5 bE u3 (HE.o _ J.o) N.o;rw [H4.o] at HA;go_wp2_with fail;refine HA.mono ?_;rintro r w4 ⟨v4,rfl,hm,hn,hk⟩;have HK:=lH hk;clear hm hn hk HA q;go_upto_region 8 with(refine As bD 36 _ _ bD w4 (ctlA v4) bD bD 36 Hh.k (Blk.new w4 _ _) rfl (AD v4) (Bc v4) ?_;intro u4 hb4 B)
 try simp only [By]
 have hk4:Aa [] u3 u4:=HK.o.trans (((Aa.refl [] w4).alloc _).own B QW);have M:=lH (J.o.trans hk4);have af:=lH (N.o.keeps hk4);have q:=(aa.o.keeps hk4 bA).rl;clear hb4 B HK hk4;have HA:=FH X C3 0 ⟨#[119,104,97,116]⟩ 5 bE u4 (HE.o _ M.o) af.o;rw [H5.o] at HA;go_wp2_with fail;refine HA.mono ?_;rintro r w5 ⟨v5,rfl,hm,hn,hk⟩;have HK:=lH hk;clear hm hn hk HA q;go_upto_region 9 with(refine As bD 36 _ _ bD w5 (ctlA v5) bD bD 36 Hh.k (Blk.new w5 _ _) rfl (AD v5) (Bc v5) ?_;intro u5 ar B)
 try simp only [By]
 have ab:=lH ((M.o.trans HK.o).trans (((Aa.refl [] w5).alloc _).own B QW));clear ar B HK;go_wp2_with fail;go_ret;exact⟨rfl,ab.o⟩
theorem LP{P:Program}{ops:Array Oper}{rest:List Oper}{op:Oper}{a:Act}{w:World}{Q:Exit->Act->World->Prop}(hw:CQ op (yielded ops a.tmps)=true)(ty:TypeId)(x:Operand)(ho:op.op = .load ty x)
 (b o:Nat)(hx:a.eval x = p_ b o)(cs:Array Value)(d:TypeDesc)(hc:w.rangeAt b o cs.toList)
 (hu:P.underlying ty=some d)(hd:d.isRow=true)(hi:(P.info? ty).map (·.size)=some cs.toList.length)
 (h:wpList P ops Q rest (a.put op.dst (.agg cs)) w):wpList P ops Q (op::rest) a w:=
 wpList_step fun K hK=>by
  rw [if_pos hw];unfold Oper.wp;rw [EO (P:=P) ty x ho b o hx cs d hc hu hd hi];exact hK _ _ h
end
section
open Go.RowKit Go.Shelf
theorem Vj{a b:ByteArray}(h:a.toList=b.toList):a=b:=by
 rw [C9,C9] at h;cases a with | mk x=>cases b with | mk y=>cases x;cases y;simp at h;subst h;rfl
theorem NX{a b:ByteArray}(h:a≠b):(a.toList==b.toList)=false:=by simpa using fun e=>h (Vj e)
theorem Fu{n k:Nat}(i:wrap64 ((k:Int)+1)=(k:Int)+1)(h:k<n):n - (intOf (I_ (wrap64 ((k:Int)+1)))).toNat<n - (intOf (I_ (k:Int))).toNat:=by
 rw [i];simp only [intOf];omega
theorem I7{P:Program}{ops:Array Oper}{rest:List Oper}{op:Oper}{a:Act}{w:World}{Q:Exit->Act->World->Prop}(ty:TypeId)(x:Operand)(ho:op.op = .load ty x)(hw:CQ op (yielded ops a.tmps)=true)
 (b o:Nat)(hx:a.eval x = p_ b o)(cs:Array Value)(d:TypeDesc)(hc:w.rangeAt b o cs.toList)
 (hu:P.underlying ty=some d)(hd:d.isRow=true)(hi:(P.info? ty).map (·.size)=some cs.toList.length)
 (h:wpList P ops Q rest (a.put op.dst (.agg cs)) w):wpList P ops Q (op::rest) a w:=LP hw ty x ho b o hx cs d hc hu hd hi h
end
section
open Go.ChangeShapes Go.WideShapes Go.ChangeAt Go.RowKit Go.Deep
theorem own:ownKnob prog.godebug=none:=bC
section
variable {H:Type} {enc:TypeId×Value->H}
theorem FO{a:Assume}{C:Checked}{os:Os}{f:FuncId}{fn:Func}{s:ChangeSpec}{G:List PathCond}{B J D F:Bool}{X:World->Array Value->Prop}
 (hX:∀(w w':World) (args:Array Value),w.heap=w'.heap->X w args->X w' args)
 (own:ownKnob C.prog.godebug=none)(M:os.Started)(O:C.prog.inits.idxOf? f=none)(ab:C.prog.funcs[f]? = some fn)
 (N:∃(w:World) (tape:Tape) (i:Input),w.os=os/\(w.forCall tape i).Shaped C.prog/\i.vars = []/\Input.okWide C.prog (w.forCall tape i) .any w f i/\
   ((s.pre enc C.prog fn G B (w.forCall tape i).memory i.args/\X (w.forCall tape i).memory i.args)/\sizedMet enc C.prog fn (OpenSpec.ofChange s) B (w.forCall tape i).memory i.args)/\a.holds C.prog (lone (Frame.enter C.prog f i.args .normal) [] (w.forCall tape i)))
 (E:∀(W:World) (base:Nat) (args:Array Value) (ds gs:List (DataW H)) (before:List MemPlace),
   (∀(j:Nat) t v,fn.params[j]? = some t->args[j]? = some v->Value.okWide C.prog W .any base t v)->
   DataW.Whole enc C.prog fn.params.toList s.vars B W args.toList ds gs before->X W args->W.ShapedOpen C.prog->
   Calls C.prog f args W fun e W'=>∃v,e = pJ v/\s.post enc C.prog fn B J D F W args v W'):
  ReturnsInHanded a C os f .any (fun w args=>(s.pre enc C.prog fn G B w args/\X w args)/\sizedMet enc C.prog fn (OpenSpec.ofChange s) B w args) (s.post enc C.prog fn B J D F):=by
 refine returnsInHanded_of_calls own M O N ?_;intro w tape i _ ad _ ac U _;obtain⟨_,_,_,aa,T,_,_,_,_,Y⟩:=ac;have e:aa=fn:=Option.some.inj (T.symm.trans ab);subst e;obtain⟨⟨⟨ds,gs,before,hw,_⟩,hx⟩,_⟩:=U;have hw':=DataW.Whole.of_heap (w':=w.forCall tape i) bD hw;refine(E (w.forCall tape i) w i.args ds gs before Y hw' (hX _ _ _ bD hx) ad).mono fun e W' ⟨v,he,hp⟩=>?_;subst he;exact ChangeSpec.post_blind hp
end
theorem LI{P:Program}{W:World}{n:String}{d:DataW Unit}: ∀ {l:List (String×DataW Unit)} {ps:List MemPlace},DataW.LaidVars P W l ps->(n,d)∈l->
  ∃g t cs fuel p,P.globalNamed n=some g/\(P.globals[g]?).map (·.type)=some t/\W.var? P n=some cs/\AJ (fun _=>()) P W 0 (fun _=>true) false fuel t cs.toList=some (d,p)
 | (_,_)::_,_,h,hm=>by
  obtain⟨g,t,cs,fuel,p,q,e1,e2,e3,e4,hr,_⟩:=h;rcases Ac.1 hm with e | hm
  ·cases e;exact⟨g,t,cs,fuel,p,e1,e2,e3,e4⟩
  ·exact LI hr hm
section
variable {P:Program} {W:World} {n:String}
theorem TK{l:List (String×DataW Unit)}{M:List MemPlace}(h:DataW.LaidVars P W l M){nm:String}{d:DataW Unit}(hm:(n,DataW.iface nm d)∈l){g:Nat}{t:TypeId}{J:Array (String×TypeId)}(hg:P.globalNamed n=some g)(G:(P.globals[g]?).map (·.type)=some t)(hi:P.underlying t=some (.interface J)):
  ∃u v,W.cell? (A_ g 0)=some (.iface u v):=by
 obtain⟨N,O,cs,fuel,p,e1,D,E,F⟩:=LI h hm;obtain rfl:=Option.some.inj (hg.symm.trans e1);obtain rfl:=Option.some.inj (G.symm.trans D);obtain⟨_,u,v,B,_,_⟩:=iface_of_trod hi F;refine⟨u,v,?_⟩;have:=World.var?_cell hg E 0;obtain⟨cs⟩:=cs;simp only at B;subst B;simpa using this
theorem UM{α:Type}{k:Nat}{en:α->List Value}: ∀(X:List α) (cs:List Value),cs.length=X.length*k->(∀i (h:i<X.length),(cs.drop (i*k)).take k=en X[i])->cs=X.flatMap en
 | [],cs,hl,_=>Ds bc9
 | x::X,cs,hl,h=>by
  rw [List.flatMap_cons,<- Dn k cs];have h0:=h 0 bA;rw [Nat.zero_mul,BC] at h0
  congr 1
  rw [Av,Nat.add_mul,Nat.one_mul] at hl;refine UM (k:=k) X (cs.drop k) (by rw [B1];omega) fun i hi=>?_;have:=h (i+1) (by simpa using hi);rw [Nat.add_mul,Nat.one_mul,Nat.add_comm,<- List.drop_drop] at this;simpa using this
theorem QS{H:Type}{enc:TypeId×Value->H}{base:Nat}{M:Nat->Bool}{B:Bool}{fuel:Nat}{t e:TypeId}{m k:Nat}{cs:List Value}{ds:List (DataW H)}{p:List MemPlace}(N:P.underlying t=some (.array m e))(F:P.cellsOf e=k)(G:P.cellsOf t=m*k)
 (h:AJ enc P W base M B fuel t cs=some (.agg ds,p)):ds.length=m/\cs.length=m*k/\∀i d,ds[i]? = some d->∃fu p',AJ enc P W base M B fu e ((cs.drop (i*k)).take k)=some (d,p'):=by
 cases fuel with
 | zero=>simp [AJ] at h
 | succ fuel=>
  simp only [AJ,N,F,G] at h;split at h
  ·rename_i hl
   obtain⟨xs,hm,hx⟩:=Ci.1 h;have D:xs.map (·.1)=ds:=by
    have:=congrArg Prod.fst hx;simpa using this
   have E:xs.length=m:=by simpa using Lib.mapM_length hm
   refine⟨by rw [<- D,Bd];exact E,by simpa using hl,fun i d J=>?_⟩;rw [<- D,List.getElem?_map] at J;obtain⟨y,hy,rfl⟩:=Ci.1 J;have hi:i<m:=by rw [<- E];exact(Ad.1 hy).1
   obtain⟨b,hb,hf⟩:=Lib.mapM_at hm i i (by simp [hi]);rw [hy] at hb;obtain rfl:=Option.some.inj hb;exact⟨fuel,y.2,by simpa using hf⟩
  ·cases h
end
section
variable {W:World}
def mD:List (String×Nat×List UInt8):=[("wicketgate/ports.errPorts",9,[110,111,32,112,111,114,116,115]),("wicketgate/ports.errTarget",13,[110,111,32,116,97,114,103,101,116]),("wicketgate/acl.errRules",6,[110,111,32,114,117,108,101,115]),("wicketgate/acl.errRule",2,[110,111,32,114,117,108,101]),("wicketgate/acl.errPlace",7,[110,111,32,112,108,97,99,101]),("wicketgate/acl.errTarget",8,[110,111,32,116,97,114,103,101,116])]
def mF:List (String×Nat×List UInt8):=[("wicketgate/snaps.errArg",10,[110,111,32,110,117,109,98,101,114]),("wicketgate/snaps.errPool",3,[110,111,32,112,111,111,108]),("wicketgate/snaps.errCursor",11,[110,111,32,99,117,114,115,111,114])]
theorem oB:((En.filter fun x=>x.2.handleName?.isNone).filter fun x=>(mD.map (·.1)).contains x.1)=mD.map (S5 "*errors.errorString"):=bC
theorem oD:((En.filter fun x=>x.2.handleName?.isNone).filter fun x=>(mF.map (·.1)).contains x.1)=mF.map (S5 "*errors.errorString"):=bC
theorem oG:((En.filter fun x=>x.2.handleName?.isNone).filter fun x=>x.1 == "internal/strconv.uint64pow10") = [("internal/strconv.uint64pow10",Lib.tabData .u64 Lib.pow10Tab)]:=bC
noncomputable def fI:DataW Unit:=.agg (B7.map fun v=>.agg [.lit (.int .i64 v.1),.lit (.string v.2.1),.lit (.int .i64 (v.2.2:Nat))])
theorem oH:((En.filter fun x=>x.2.handleName?.isNone).filter fun x=>x.1 == "wicketgate/roles.verbs") = [("wicketgate/roles.verbs",fI)]:=bC
noncomputable def oI(l:List UInt8):DataW Unit:=.iface "*errors.errorString" (.ptr (.agg [.lit (.string l)]))
theorem oF:((En.filter fun x=>x.2.handleName?.isNone).filter fun x=>x.1 == "strconv.ErrSyntax") = [("strconv.ErrSyntax",Rows.laid_strconv_ErrSyntax)]:=bC
theorem oE:((En.filter fun x=>x.2.handleName?.isNone).filter fun x=>x.1 == "strconv.ErrRange") = [("strconv.ErrRange",Rows.laid_strconv_ErrRange)]:=bC
theorem oC:(En.filter fun x=>x.2.handleName?.isSome) = [("errors.errorType",Rows.laid_errors_errorType)]:=bC
theorem oJ:prog.globalNamed "errors.errorType" = some 0:=bC
theorem oK:(prog.cutTypes.find? (·.1 == "internal/reflectlite.rtype")).map (·.2)=some 285:=bC
theorem ZZ:((AC prog.types.size).filter fun t=>prog.rowNamed t [101,114,114,111,114]) = [95]:=bC
theorem Tz(h:handlesMet prog [("errors.errorType",Rows.laid_errors_errorType)] W):Et W:=by
 obtain⟨name,u,ty,e1,e2,e3,e4,e5⟩:=h _ (Ag.2 rfl);have en:name = [101,114,114,111,114]:=(Option.some.inj e1).symm;subst en;obtain rfl:=Option.some.inj (oK.symm.trans e2);have hm:ty∈(AC prog.types.size).filter fun t=>prog.rowNamed t [101,114,114,111,114]:=List.mem_filter.2 ⟨List.mem_range.2 e3,e4⟩;rw [ZZ] at hm;obtain rfl:=Ag.1 hm;have hh:typeHandle prog 95 = pG (some (A_ 17 95)):=bC;rw [hh] at e5;simpa [Et] using World.var?_cell oJ e5 0
theorem kS: "*" ++ "errors.errorString" = "*errors.errorString":=bE
theorem eD(u:TypeId)(h:prog.typeName? 3 u=some "*errors.errorString"):u=402:=
 typeName_ptr_named (nm:= "errors.errorString") (by rw [kS];kernel_rfl) bC bE u (by rw [kS];exact h)
theorem S6{l:List (String×Nat×List UInt8)}(h:laidMet prog (l.map (S5 "*errors.errorString")) W) (hg:∀x∈l,prog.globalNamed x.1=some x.2.1/\(prog.globals[x.2.1]?).map (·.type)=some 95) (hn:(l.map (·.2.1)).Nodup):∃e,Ge W 402 (l.map (·.2.1)) e:=
 Sa h underlying95 eD underlying402 underlying404 rfl rfl underlying9 bC bC hg hn
theorem Ge.some_{gs gs':List Nat}{e:Nat->Addr}(h:Ge W 402 gs e)(hm:∀g∈gs',g∈gs):Ge W 402 gs' e:=⟨fun g hg=>h.cell g (hm g hg),fun g hg=>h.row g (hm g hg),fun g hg g' hg'=>h.ne g (hm g hg) g' (hm g' hg')⟩
theorem UJ{n:String}{g:Nat}{l:List UInt8}(hg:prog.globalNamed n=some g)(D:(prog.globals[g]?).map (·.type)=some 95)(h:laidMet prog [(n,oI l)] W):∃ev,W.cell? (A_ g 0)=some ev/\(ev = .nilIface\/∃te pe,ev = .iface te pe):=by
 obtain⟨E,h,_⟩:=h;obtain⟨u,v,B⟩:=TK h (Ag.2 rfl) hg D underlying95;exact⟨_,B,.inr ⟨u,v,rfl⟩⟩
theorem Ux{fuel:Nat}{cs:List Value}{v:Int×List UInt8×Nat}{p:List MemPlace}(h:AJ (fun _=>()) prog W 0 (fun _=>true) false fuel 199 cs=some (.agg [.lit (.int .i64 v.1),.lit (.string v.2.1),.lit (.int .i64 (v.2.2:Nat))],p)):cs=My v:=by
 obtain⟨U,X,Y,n,hx,hl,h0,h1,h2⟩:=trod_struct3 underlying199 h;have B:prog.cellsOf 3=1:=bC;have F:prog.cellsOf 9=1:=bC;have G:prog.cellsOf 199=3:=bC;rw [G] at hl;obtain⟨a,D,J,_⟩:=DataW.trod_int underlying3 h0;obtain⟨s,e1,M,_⟩:=DataW.trod_string underlying9 h1;obtain⟨b,E,N,_⟩:=DataW.trod_int underlying3 h2;rw [J,M,N] at hx;simp only [Prod.mk.injEq,DataW.agg.injEq,List.cons.injEq,DataW.lit.injEq,Lit.int.injEq,Lit.string.injEq,true_and,and_true] at hx;obtain⟨⟨O,T,z2⟩,_⟩:=hx
 match cs,hl with
 | [c0,c1,c2],_=>
  obtain rfl:c0 = I_ a:=by simpa [B] using D
  obtain rfl:c1 = Dz s:=by simpa [F] using e1
  obtain rfl:c2 = I_ b:=by simpa [B] using E
  unfold My;rw [O,T,z2]
theorem ZX(h:laidMet prog [("wicketgate/roles.verbs",fI)] W):Er W:=by
 obtain⟨ps,h,_⟩:=h;obtain⟨g,t,cs,fuel,p,e1,e2,e3,e4⟩:=LI h (Ag.2 rfl);have hg:prog.globalNamed "wicketgate/roles.verbs" = some 1:=bC;have ht:(prog.globals[(1:Nat)]?).map (·.type)=some 267:=bC;obtain rfl:=Option.some.inj (hg.symm.trans e1);obtain rfl:=Option.some.inj (ht.symm.trans e2);obtain⟨h1,h2,h3⟩:=QS (k:=3) underlying267 bC bC e4;have hc:cs.toList=B7.flatMap My:=UM (k:=3) B7 cs.toList h2 fun i hi=>by
  obtain⟨fu,p',hf⟩:=h3 i _ (by rw [List.getElem?_map,Aq hi];rfl);exact Ux hf
 intro j u hj;have:=World.var?_cell hg e3 j;rw [this,<- qD,hc];exact hj
theorem KI(h:laidMetH prog En W)(hs:W.ShapedOpen prog):Gu W:=by
 obtain⟨hp,hh⟩:=laidMetH_iff.1 h;rw [oC] at hh;have et:=Tz hh;have hA:=hp.filter fun x=>(mD.map (·.1)).contains x.1;have hN:=hp.filter fun x=>(mF.map (·.1)).contains x.1;have hT:=hp.filter fun x=>x.1 == "internal/strconv.uint64pow10";have hV:=hp.filter fun x=>x.1 == "wicketgate/roles.verbs";have hS:=hp.filter fun x=>x.1 == "strconv.ErrSyntax";have hR:=hp.filter fun x=>x.1 == "strconv.ErrRange";rw [oB] at hA;rw [oD] at hN;rw [oG] at hT;rw [oH] at hV;rw [oF] at hS;rw [oE] at hR;obtain⟨E,sA⟩:=S6 hA (fun x hx=>by
  simp only [mD,Ac,Ab,or_false] at hx;rcases hx with rfl | rfl | rfl | rfl | rfl | rfl<;>exact⟨by kernel_rfl,by kernel_rfl⟩) bE
 obtain⟨e,sN⟩:=S6 hN (fun x hx=>by
  simp only [mF,Ac,Ab,or_false] at hx;rcases hx with rfl | rfl | rfl<;>exact⟨by kernel_rfl,by kernel_rfl⟩) bE
 have hsA:Fp W E:=sA.some_ bE;have hv:=ZX hV;have htab:Ie W:=Lib.tabIs_of_head (g:=12) (t:=407) bC bC underlying407 underlying357 bC bC hT;have hes:Vo W:=⟨UJ bC bC hS,UJ bC bC hR⟩;have hmx:JT W:=cell_of_shapedOpen_int hs (g:=16) (t:=3) (zero:=#[pE pK 0]) (by rw [show prog.globals.size=17 by kernel_rfl];decide) bC rfl bC bC underlying3;exact⟨⟨E,⟨⟨et,htab,hmx,hsA⟩,hes⟩,hv⟩,⟨fun k=>if k=0 then e 3 else if k=1 then e 10 else e 11,e,sN.some_ bE,rfl,rfl,rfl⟩,⟨E,hv,hsA,et⟩⟩
end
end
section
open Go.RowKit Go.Shelf Go.WideShapes Go.ChangeShapes Go.ChangeAt Go.Deep
theorem Cb(cs:List Value)(o c B:Nat)(h:o+c=B):cs.drop o=(cs.drop o).take c++cs.drop B:=by
 rw [<- h,<- List.drop_drop,Dn]
theorem AR.map{α β:Type}{enc:β->List Value}{n:Nat}{w:World}{a:Option Addr}{c:Nat}(f:α->β){xs:List α}(h:AR (fun x=>enc (f x)) n w a c xs):AR enc n w a c (xs.map f):=
 ⟨by rw [Bd];exact h.le,h.nil,fun h0=>by
  rw [Bd] at h0;obtain⟨g,off,ha,hg,hat⟩:=h.at_ h0;refine⟨g,off,ha,hg,fun i hi j u hu=>?_⟩;rw [Bd] at hi;rw [List.getElem_map] at hu;exact hat i hi j u hu⟩
section
variable {H:Type} {enc:TypeId×Value->H} {W:World} {base:Nat} {spare:Nat->Bool} {held:Bool}
theorem Az{B:Array Field}{t ft:TypeId}{o c fuel:Nat}{cs:List Value}{x:DataW H×List MemPlace}(E:prog.underlying t=some (.struct B))(i:Nat){f:Field}(hi:B[i]? = some f)(hl:i<B.size)(he:f.type=ft)(ho:f.offset=o)(D:prog.cellsOf ft=c)
 (h:AJ enc prog W base spare held fuel t cs=some x):∃n y,AJ enc prog W base spare held n ft ((cs.drop o).take c)=some y:=by
 obtain⟨xs,n,_,_,_,F,hf⟩:=DataW.trod_struct E h;have:=hf i f hi;rw [he,ho,D,Aq bB] at this;exact⟨n,_,this⟩
theorem EH{B:Array Field}{t:TypeId}{c fuel:Nat}{cs:List Value}{x:DataW H×List MemPlace}(E:prog.underlying t=some (.struct B))(D:prog.cellsOf t=c)(h:AJ enc prog W base spare held fuel t cs=some x):cs.length=c:=by
 obtain⟨xs,n,_,_,hl,_,_⟩:=DataW.trod_struct E h;rw [<- D];exact hl
theorem ES{α:Type}[Inhabited α]{t e:TypeId}{n:Nat}{en:α->List Value}{ok:α->Prop}(ht:prog.underlying t=some (.slice e))(Y:prog.cellsOf e=n)(h0:0<n)(hn:∀y,(en y).length=n)
 (hr:∀fuel cs x,AJ enc prog W base spare held fuel e cs=some x->∃y,cs=en y/\ok y){fuel:Nat}{cs:List Value}{x:DataW H×List MemPlace}(h:AJ enc prog W base spare held fuel t cs=some x):
  ∃(a:Option Addr) (xs:List α) (c:Nat),cs = [pF a xs.length c]/\AR en n W a c xs/\xs.length<=9223372036854775807/\∀y∈xs,ok y:=by
 rcases open_slice ht h with⟨F,_⟩ | ⟨a,len,cap,m,n',D,Pl,F,_,hl,hm,O,_,hx⟩
 ·exact⟨none,[],0,F,.none_,by simp,fun _ h=>by cases h⟩
 ·have ab:len<=m:=by rw [O];split<;>omega
  have M:∀i,i<len->∃y:α,ok y/\∀j,j<n->W.cell? ((a.add (i*n)).add j)=(en y)[j]?:=fun i hi=>by
   obtain⟨U,h1,h2⟩:=hx i bB;rw [Y] at h1;obtain⟨_,aa,hat⟩:=World.cells?_some h1;obtain⟨y,rfl,hy⟩:=hr _ _ _ h2;exact⟨y,hy,fun j hj=>hat j hj⟩
  obtain⟨X,J⟩:=choose_lt M;refine⟨some a,(AC len).map X,cap,by rw [F];simp,⟨by simpa using hl,(fun e=>by cases e),fun hp=>?_⟩,by unfold maxLen at hm;simp;omega,fun y hy=>?_⟩
  ·have G:0<len:=kD;obtain⟨b,off,E⟩:=a;have hne:(en (X 0))[0]?≠none:=by
    have:=hn (X 0);rw [Aq bB];simp
   have T:E=none:=by
    have:=(J 0 G).2 0 h0;simp only [Nat.zero_mul,Addr.add,if_true] at this;rcases hz:W.cell? ⟨b,off,E⟩ with _ | v
    ·rw [hz] at this;exact absurd this.symm hne
    ·unfold World.cell? at hz
     split at hz
     ·split at hz
      ·cases hz
      ·rename_i hn';simpa using hn'
     ·cases hz
   subst T;have B:∀i j,(((A_ b off):Addr).add (i*n)).add j=(A_ b (off+i*n+j)):=fun i j=>by
    unfold Addr.add;split<;>split<;>simp_all
   refine⟨b,off,rfl,?_,fun i hi j u hu=>?_⟩
   ·have:=(J 0 G).2 0 h0
    rw [B,Aq (by have:=hn (X 0);omega)] at this;exact Be W _ this
   ·have N:i<len:=by simpa using hi
    have hj:j<n:=by rw [<- hn (X i)];simp only [List.getElem_map,List.getElem_range] at hu;exact(Ad.1 hu).1
    have:=(J i N).2 j hj;rw [B] at this;rw [this];simpa only [List.getElem_map,List.getElem_range] using hu
  ·obtain⟨i,hi,rfl⟩:=BO.1 hy
   exact(J i (List.mem_range.1 hi)).1
theorem ki:prog.cellsOf 3=1:=bC
theorem ks:prog.cellsOf 9=1:=bC
theorem kb:prog.cellsOf 4=1:=bC
theorem Fg{fuel:Nat}{cs:List Value}{x:DataW H×List MemPlace}(h:AJ enc prog W base spare held fuel 3 cs=some x):∃n,cs=Fb n/\(-9223372036854775808<=n/\n<=9223372036854775807):=by
 obtain⟨n,e,_,hw⟩:=DataW.trod_int underlying3 h;have e1:IntKind.i64.min = -9223372036854775808:=bE;have B:IntKind.i64.max=9223372036854775807:=bE;exact⟨n,e,by simpa [Lit.wf,e1,B] using hw⟩
theorem NG{fuel:Nat}{cs:List Value}{x:DataW H×List MemPlace}(h:AJ enc prog W base spare held fuel 9 cs=some x):∃s:ByteArray,cs=Fd s/\s.size<=maxLen:=by
 obtain⟨s,e,_,hw⟩:=DataW.trod_string underlying9 h;exact⟨s,e,hw⟩
theorem kR{fuel:Nat}{cs:List Value}{x:DataW H×List MemPlace}(h:AJ enc prog W base spare held fuel 4 cs=some x):∃b,cs=JM b/\True:=by
 obtain⟨s,e,_⟩:=DataW.trod_bool underlying4 h;exact⟨s,e,trivial⟩
theorem RY:prog.cellsOf 51=2:=bC
theorem WL{fuel:Nat}{cs:List Value}{x:DataW H×List MemPlace}(h:AJ enc prog W base spare held fuel 51 cs=some x):∃y:Int×Int,cs = [pE pK y.1,I_ y.2]/\True:=by
 have hl:=EH underlying51 RY h;obtain⟨_,_,h0⟩:=Az underlying51 0 rfl bE (ft:=3) (o:=0) (c:=1) rfl rfl ki h;obtain⟨F,D,J⟩:=Fg h0;have B:=Cb cs 0 1 1 rfl;rw [D] at B;obtain⟨_,_,h1⟩:=Az underlying51 1 rfl bE (ft:=3) (o:=1) (c:=1) rfl rfl ki h;obtain⟨G,e1,M⟩:=Fg h1;have g1:=Cb cs 1 1 2 rfl;rw [e1] at g1;have E:cs.drop 2 = []:=AI bB;rw [BC] at B;refine⟨(F,G),?_,trivial⟩;rw [B,g1,E];rfl
theorem UR:prog.cellsOf 53=2:=bC
theorem Zv{fuel:Nat}{cs:List Value}{x:DataW H×List MemPlace}(h:AJ enc prog W base spare held fuel 53 cs=some x):∃y:Int×Int,cs = [pE pK y.1,I_ y.2]/\True:=by
 have hl:=EH underlying53 UR h;obtain⟨_,_,h0⟩:=Az underlying53 0 rfl bE (ft:=3) (o:=0) (c:=1) rfl rfl ki h;obtain⟨F,D,J⟩:=Fg h0;have B:=Cb cs 0 1 1 rfl;rw [D] at B;obtain⟨_,_,h1⟩:=Az underlying53 1 rfl bE (ft:=3) (o:=1) (c:=1) rfl rfl ki h;obtain⟨G,e1,M⟩:=Fg h1;have g1:=Cb cs 1 1 2 rfl;rw [e1] at g1;have E:cs.drop 2 = []:=AI bB;rw [BC] at B;refine⟨(F,G),?_,trivial⟩;rw [B,g1,E];rfl
theorem Nq:prog.cellsOf 44=2:=bC
theorem Py{fuel:Nat}{cs:List Value}{x:DataW H×List MemPlace}(h:AJ enc prog W base spare held fuel 44 cs=some x):∃y:Int×Int,cs = [pE pK y.1,I_ y.2]/\True:=by
 have hl:=EH underlying44 Nq h;obtain⟨_,_,h0⟩:=Az underlying44 0 rfl bE (ft:=3) (o:=0) (c:=1) rfl rfl ki h;obtain⟨F,D,J⟩:=Fg h0;have B:=Cb cs 0 1 1 rfl;rw [D] at B;obtain⟨_,_,h1⟩:=Az underlying44 1 rfl bE (ft:=3) (o:=1) (c:=1) rfl rfl ki h;obtain⟨G,e1,M⟩:=Fg h1;have g1:=Cb cs 1 1 2 rfl;rw [e1] at g1;have E:cs.drop 2 = []:=AI bB;rw [BC] at B;refine⟨(F,G),?_,trivial⟩;rw [B,g1,E];rfl
theorem TJ:prog.cellsOf 55=5:=bC
theorem Vb{fuel:Nat}{cs:List Value}{x:DataW H×List MemPlace}(h:AJ enc prog W base spare held fuel 55 cs=some x):∃y:EX,cs=B8 y/\True:=by
 have hl:=EH underlying55 TJ h;obtain⟨_,_,h0⟩:=Az underlying55 0 rfl bE (ft:=4) (o:=0) (c:=1) rfl rfl kb h;obtain⟨M,F,N⟩:=kR h0;have B:=Cb cs 0 1 1 rfl;rw [F] at B;obtain⟨_,_,h1⟩:=Az underlying55 1 rfl bE (ft:=51) (o:=1) (c:=2) rfl rfl RY h;obtain⟨D,e1,O⟩:=WL h1;have g1:=Cb cs 1 2 3 rfl;rw [e1] at g1;obtain⟨_,_,h2⟩:=Az underlying55 2 rfl bE (ft:=53) (o:=3) (c:=2) rfl rfl UR h;obtain⟨E,G,T⟩:=Zv h2;have g2:=Cb cs 3 2 5 rfl;rw [G] at g2;have J:cs.drop 5 = []:=AI bB;rw [BC] at B;refine⟨⟨M,D.1,D.2,E.1,E.2⟩,?_,trivial⟩;rw [B,g1,g2,J];rfl
theorem YH:prog.cellsOf 81=2:=bC
theorem dQ{fuel:Nat}{cs:List Value}{x:DataW H×List MemPlace}(h:AJ enc prog W base spare held fuel 81 cs=some x):∃y:GF,cs=Eg y/\y.name.size<=maxLen:=by
 have hl:=EH underlying81 YH h;obtain⟨_,_,h0⟩:=Az underlying81 0 rfl bE (ft:=9) (o:=0) (c:=1) rfl rfl ks h;obtain⟨G,D,F⟩:=NG h0;have B:=Cb cs 0 1 1 rfl;rw [D] at B;obtain⟨_,_,h1⟩:=Az underlying81 1 rfl bE (ft:=3) (o:=1) (c:=1) rfl rfl ki h;obtain⟨J,e1,M⟩:=Fg h1;have g1:=Cb cs 1 1 2 rfl;rw [e1] at g1;have E:cs.drop 2 = []:=AI bB;rw [BC] at B;refine⟨⟨G,J⟩,?_,F⟩;rw [B,g1,E];rfl
theorem YG:prog.cellsOf 209=4:=bC
theorem dP{fuel:Nat}{cs:List Value}{x:DataW H×List MemPlace}(h:AJ enc prog W base spare held fuel 209 cs=some x):∃y:El,cs=BT y/\y.key.size<=maxLen:=by
 have hl:=EH underlying209 YG h;obtain⟨_,_,h0⟩:=Az underlying209 0 rfl bE (ft:=3) (o:=0) (c:=1) rfl rfl ki h;obtain⟨N,E,X⟩:=Fg h0;have B:=Cb cs 0 1 1 rfl;rw [E] at B;obtain⟨_,_,h1⟩:=Az underlying209 1 rfl bE (ft:=9) (o:=1) (c:=1) rfl rfl ks h;obtain⟨O,e1,M⟩:=NG h1;have g1:=Cb cs 1 1 2 rfl;rw [e1] at g1;obtain⟨_,_,h2⟩:=Az underlying209 2 rfl bE (ft:=3) (o:=2) (c:=1) rfl rfl ki h;obtain⟨T,F,Y⟩:=Fg h2;have g2:=Cb cs 2 1 3 rfl;rw [F] at g2;obtain⟨_,_,h3⟩:=Az underlying209 3 rfl bE (ft:=3) (o:=3) (c:=1) rfl rfl ki h;obtain⟨U,G,q3⟩:=Fg h3;have D:=Cb cs 3 1 4 rfl;rw [G] at D;have J:cs.drop 4 = []:=AI bB;rw [BC] at B;refine⟨⟨N,O,T,U⟩,?_,M⟩;rw [B,g1,g2,D,J];rfl
theorem YE:prog.cellsOf 73=3:=bC
theorem dN{fuel:Nat}{cs:List Value}{x:DataW H×List MemPlace}(h:AJ enc prog W base spare held fuel 73 cs=some x):∃y:IA,cs=Cu y/\True:=by
 have hl:=EH underlying73 YE h;obtain⟨_,_,h0⟩:=Az underlying73 0 rfl bE (ft:=9) (o:=0) (c:=1) rfl rfl ks h;obtain⟨G,D,N⟩:=NG h0;have B:=Cb cs 0 1 1 rfl;rw [D] at B;obtain⟨_,_,h1⟩:=Az underlying73 1 rfl bE (ft:=3) (o:=1) (c:=1) rfl rfl ki h;obtain⟨J,e1,O⟩:=Fg h1;have g1:=Cb cs 1 1 2 rfl;rw [e1] at g1;obtain⟨_,_,h2⟩:=Az underlying73 2 rfl bE (ft:=9) (o:=2) (c:=1) rfl rfl ks h;obtain⟨M,E,T⟩:=NG h2;have g2:=Cb cs 2 1 3 rfl;rw [E] at g2;have F:cs.drop 3 = []:=AI bB;rw [BC] at B;refine⟨⟨G,J,M⟩,?_,trivial⟩;rw [B,g1,g2,F];rfl
theorem YF:prog.cellsOf 57=12:=bC
theorem dO{fuel:Nat}{cs:List Value}{x:DataW H×List MemPlace}(h:AJ enc prog W base spare held fuel 57 cs=some x):∃y:FW,cs=PY y/\-9223372036854775808<=y.at_/\y.at_<=9223372036854775807:=by
 have hl:=EH underlying57 YF h;obtain⟨_,_,h0⟩:=Az underlying57 0 rfl bE (ft:=3) (o:=0) (c:=1) rfl rfl ki h;obtain⟨y0,M,q0⟩:=Fg h0;have B:=Cb cs 0 1 1 rfl;rw [M] at B;obtain⟨_,_,h1⟩:=Az underlying57 1 rfl bE (ft:=9) (o:=1) (c:=1) rfl rfl ks h;obtain⟨y1,e1,q1⟩:=NG h1;have g1:=Cb cs 1 1 2 rfl;rw [e1] at g1;obtain⟨_,_,h2⟩:=Az underlying57 2 rfl bE (ft:=3) (o:=2) (c:=1) rfl rfl ki h;obtain⟨y2,N,q2⟩:=Fg h2;have g2:=Cb cs 2 1 3 rfl;rw [N] at g2;obtain⟨_,_,h3⟩:=Az underlying57 3 rfl bE (ft:=3) (o:=3) (c:=1) rfl rfl ki h;obtain⟨y3,O,q3⟩:=Fg h3;have D:=Cb cs 3 1 4 rfl;rw [O] at D;obtain⟨_,_,h4⟩:=Az underlying57 4 rfl bE (ft:=55) (o:=4) (c:=5) rfl rfl TJ h;obtain⟨y4,T,q4⟩:=Vb h4;have E:=Cb cs 4 5 9 rfl;rw [T] at E;obtain⟨_,_,h5⟩:=Az underlying57 5 rfl bE (ft:=9) (o:=9) (c:=1) rfl rfl ks h;obtain⟨y5,U,q5⟩:=NG h5;have F:=Cb cs 9 1 10 rfl;rw [U] at F;obtain⟨_,_,h6⟩:=Az underlying57 6 rfl bE (ft:=3) (o:=10) (c:=1) rfl rfl ki h;obtain⟨y6,X,q6⟩:=Fg h6;have G:=Cb cs 10 1 11 rfl;rw [X] at G;obtain⟨_,_,h7⟩:=Az underlying57 7 rfl bE (ft:=3) (o:=11) (c:=1) rfl rfl ki h;obtain⟨y7,Y,q7⟩:=Fg h7;have J:=Cb cs 11 1 12 rfl;rw [Y] at J;have gz:cs.drop 12 = []:=AI bB;rw [BC] at B;refine⟨⟨y0,y1,y2,y3,y4,y5,y6,y7⟩,?_,q3⟩;rw [B,g1,g2,D,E,F,G,J,gz];rfl
theorem YK:prog.cellsOf 59=17:=bC
theorem dT{fuel:Nat}{cs:List Value}{x:DataW H×List MemPlace}(h:AJ enc prog W base spare held fuel 59 cs=some x):∃y:QK,cs=PZ y/\-9223372036854775808<=y.com.at_/\y.com.at_<=9223372036854775807:=by
 have hl:=EH underlying59 YK h;obtain⟨_,_,h0⟩:=Az underlying59 0 rfl bE (ft:=9) (o:=0) (c:=1) rfl rfl ks h;obtain⟨Y,G,q0⟩:=NG h0;have B:=Cb cs 0 1 1 rfl;rw [G] at B;obtain⟨_,_,h1⟩:=Az underlying59 1 rfl bE (ft:=3) (o:=1) (c:=1) rfl rfl ki h;obtain⟨y1,e1,q1⟩:=Fg h1;have g1:=Cb cs 1 1 2 rfl;rw [e1] at g1;obtain⟨_,_,h2⟩:=Az underlying59 2 rfl bE (ft:=57) (o:=2) (c:=12) rfl rfl YF h;obtain⟨y2,J,X⟩:=dO h2;have g2:=Cb cs 2 12 14 rfl;rw [J] at g2;obtain⟨_,_,h3⟩:=Az underlying59 3 rfl bE (ft:=3) (o:=14) (c:=1) rfl rfl ki h;obtain⟨y3,M,q3⟩:=Fg h3;have D:=Cb cs 14 1 15 rfl;rw [M] at D;obtain⟨_,_,h4⟩:=Az underlying59 4 rfl bE (ft:=3) (o:=15) (c:=1) rfl rfl ki h;obtain⟨y4,N,q4⟩:=Fg h4;have E:=Cb cs 15 1 16 rfl;rw [N] at E;obtain⟨_,_,U⟩:=Az underlying59 5 rfl bE (ft:=3) (o:=16) (c:=1) rfl rfl ki h;obtain⟨y5,O,q5⟩:=Fg U;have F:=Cb cs 16 1 17 rfl;rw [O] at F;have T:cs.drop 17 = []:=AI bB;rw [BC] at B;refine⟨⟨Y,y1,y2,y3,y4,y5⟩,?_,X⟩;rw [B,g1,g2,D,E,F,T];rfl
theorem fG:prog.cellsOf 61=24:=bC
theorem iF{fuel:Nat}{cs:List Value}{x:DataW H×List MemPlace}(h:AJ enc prog W base spare held fuel 61 cs=some x):∃y:Bq,cs=encJob y/\-9223372036854775808<=y.req.com.at_/\y.req.com.at_<=9223372036854775807:=by
 have hl:=EH underlying61 fG h;obtain⟨_,_,h0⟩:=Az underlying61 0 rfl bE (ft:=3) (o:=0) (c:=1) rfl rfl ki h;obtain⟨y0,M,q0⟩:=Fg h0;have B:=Cb cs 0 1 1 rfl;rw [M] at B;obtain⟨_,_,h1⟩:=Az underlying61 1 rfl bE (ft:=3) (o:=1) (c:=1) rfl rfl ki h;obtain⟨y1,e1,q1⟩:=Fg h1;have g1:=Cb cs 1 1 2 rfl;rw [e1] at g1;obtain⟨_,_,h2⟩:=Az underlying61 2 rfl bE (ft:=9) (o:=2) (c:=1) rfl rfl ks h;obtain⟨y2,N,q2⟩:=NG h2;have g2:=Cb cs 2 1 3 rfl;rw [N] at g2;obtain⟨_,_,h3⟩:=Az underlying61 3 rfl bE (ft:=59) (o:=3) (c:=17) rfl rfl YK h;obtain⟨y3,O,q3⟩:=dT h3;have D:=Cb cs 3 17 20 rfl;rw [O] at D;obtain⟨_,_,h4⟩:=Az underlying61 4 rfl bE (ft:=3) (o:=20) (c:=1) rfl rfl ki h;obtain⟨y4,T,q4⟩:=Fg h4;have E:=Cb cs 20 1 21 rfl;rw [T] at E;obtain⟨_,_,h5⟩:=Az underlying61 5 rfl bE (ft:=9) (o:=21) (c:=1) rfl rfl ks h;obtain⟨y5,U,q5⟩:=NG h5;have F:=Cb cs 21 1 22 rfl;rw [U] at F;obtain⟨_,_,h6⟩:=Az underlying61 6 rfl bE (ft:=44) (o:=22) (c:=2) rfl rfl Nq h;obtain⟨J,X,q6⟩:=Py h6;have G:=Cb cs 22 2 24 rfl;rw [X] at G;have Y:cs.drop 24 = []:=AI bB;rw [BC] at B;refine⟨⟨y0,y1,y2,y3,y4,y5,J.1,J.2⟩,?_,q3⟩;rw [B,g1,g2,D,E,F,G,Y];rfl
instance:Inhabited EX:=⟨IW⟩
instance:Inhabited El:=⟨⟨0,⟨#[]⟩,0,0⟩⟩
instance:Inhabited GF:=⟨⟨⟨#[]⟩,0⟩⟩
instance:Inhabited Bq:=⟨job0⟩
instance:Inhabited IA:=⟨⟨⟨#[]⟩,0,⟨#[]⟩⟩⟩
theorem YN:prog.cellsOf 23=1:=bC
theorem Vc{fuel:Nat}{cs:List Value}{x:DataW H×List MemPlace}(h:AJ enc prog W base spare held fuel 23 cs=some x):
  ∃y:Option Addr×List Int×Nat,cs = [pF y.1 y.2.1.length y.2.2]/\AR Fb 1 W y.1 y.2.2 y.2.1/\y.2.1.length<=9223372036854775807/\∀z∈y.2.1,(-9223372036854775808<=z/\z<=9223372036854775807):=by
 obtain⟨a,xs,c,e,hs,hl,hz⟩:=ES (α:=Int) (en:=Fb) (ok:=fun z=>(-9223372036854775808<=z/\z<=9223372036854775807)) underlying23 ki bE Eu (fun fuel cs x h=>Fg h) h;exact⟨(a,xs,c),e,hs,hl,hz⟩
theorem cZ:prog.cellsOf 24=1:=bC
theorem Zy{fuel:Nat}{cs:List Value}{x:DataW H×List MemPlace}(h:AJ enc prog W base spare held fuel 24 cs=some x):
  ∃y:Option Addr×List Bool×Nat,cs = [pF y.1 y.2.1.length y.2.2]/\AR JM 1 W y.1 y.2.2 y.2.1/\y.2.1.length<=9223372036854775807/\∀z∈y.2.1,True:=by
 obtain⟨a,xs,c,e,hs,hl,hz⟩:=ES (α:=Bool) (en:=JM) (ok:=fun z=>True) underlying24 kb bE KG (fun fuel cs x h=>kR h) h;exact⟨(a,xs,c),e,hs,hl,hz⟩
theorem gZ:prog.cellsOf 64=1:=bC
theorem dX{fuel:Nat}{cs:List Value}{x:DataW H×List MemPlace}(h:AJ enc prog W base spare held fuel 64 cs=some x):
  ∃y:Option Addr×List ByteArray×Nat,cs = [pF y.1 y.2.1.length y.2.2]/\AR Fd 1 W y.1 y.2.2 y.2.1/\y.2.1.length<=9223372036854775807/\∀z∈y.2.1,z.size<=maxLen:=by
 obtain⟨a,xs,c,e,hs,hl,hz⟩:=ES (α:=ByteArray) (en:=Fd) (ok:=fun z=>z.size<=maxLen) underlying64 ks bE DY (fun fuel cs x h=>NG h) h;exact⟨(a,xs,c),e,hs,hl,hz⟩
theorem dC:prog.cellsOf 128=1:=bC
theorem Z1{fuel:Nat}{cs:List Value}{x:DataW H×List MemPlace}(h:AJ enc prog W base spare held fuel 128 cs=some x):
  ∃y:Option Addr×List EX×Nat,cs = [pF y.1 y.2.1.length y.2.2]/\AR B8 5 W y.1 y.2.2 y.2.1/\y.2.1.length<=9223372036854775807/\∀z∈y.2.1,True:=by
 obtain⟨a,xs,c,e,hs,hl,hz⟩:=ES (α:=EX) (en:=B8) (ok:=fun z=>True) underlying128 TJ bE Cv (fun fuel cs x h=>Vb h) h;exact⟨(a,xs,c),e,hs,hl,hz⟩
theorem dA:prog.cellsOf 129=1:=bC
theorem Zz{fuel:Nat}{cs:List Value}{x:DataW H×List MemPlace}(h:AJ enc prog W base spare held fuel 129 cs=some x):
  ∃y:Option Addr×List El×Nat,cs = [pF y.1 y.2.1.length y.2.2]/\AR BT 4 W y.1 y.2.2 y.2.1/\y.2.1.length<=9223372036854775807/\∀z∈y.2.1,z.key.size<=maxLen:=by
 obtain⟨a,xs,c,e,hs,hl,hz⟩:=ES (α:=El) (en:=BT) (ok:=fun z=>z.key.size<=maxLen) underlying129 YG bE D0 (fun fuel cs x h=>dP h) h;exact⟨(a,xs,c),e,hs,hl,hz⟩
theorem dB:prog.cellsOf 22=1:=bC
theorem Z0{fuel:Nat}{cs:List Value}{x:DataW H×List MemPlace}(h:AJ enc prog W base spare held fuel 22 cs=some x):
  ∃y:Option Addr×List GF×Nat,cs = [pF y.1 y.2.1.length y.2.2]/\AR Eg 2 W y.1 y.2.2 y.2.1/\y.2.1.length<=9223372036854775807/\∀z∈y.2.1,z.name.size<=maxLen:=by
 obtain⟨a,xs,c,e,hs,hl,hz⟩:=ES (α:=GF) (en:=Eg) (ok:=fun z=>z.name.size<=maxLen) underlying22 YH bE Fc (fun fuel cs x h=>dQ h) h;exact⟨(a,xs,c),e,hs,hl,hz⟩
theorem cY:prog.cellsOf 34=1:=bC
theorem Zx{fuel:Nat}{cs:List Value}{x:DataW H×List MemPlace}(h:AJ enc prog W base spare held fuel 34 cs=some x):
  ∃y:Option Addr×List IA×Nat,cs = [pF y.1 y.2.1.length y.2.2]/\AR Cu 3 W y.1 y.2.2 y.2.1/\y.2.1.length<=9223372036854775807/\∀z∈y.2.1,True:=by
 obtain⟨a,xs,c,e,hs,hl,hz⟩:=ES (α:=IA) (en:=Cu) (ok:=fun z=>True) underlying34 YE bE DL (fun fuel cs x h=>dN h) h;exact⟨(a,xs,c),e,hs,hl,hz⟩
theorem gY:prog.cellsOf 33=1:=bC
theorem dW{fuel:Nat}{cs:List Value}{x:DataW H×List MemPlace}(h:AJ enc prog W base spare held fuel 33 cs=some x):
  ∃y:Option Addr×List Bq×Nat,cs = [pF y.1 y.2.1.length y.2.2]/\AR encJob 24 W y.1 y.2.2 y.2.1/\y.2.1.length<=9223372036854775807/\∀z∈y.2.1,(-9223372036854775808<=z.req.com.at_/\z.req.com.at_<=9223372036854775807):=by
 obtain⟨a,xs,c,e,hs,hl,hz⟩:=ES (α:=Bq) (en:=encJob) (ok:=fun z=>(-9223372036854775808<=z.req.com.at_/\z.req.com.at_<=9223372036854775807)) underlying33 fG bE Dc (fun fuel cs x h=>iF h) h;exact⟨(a,xs,c),e,hs,hl,hz⟩
theorem YM:prog.cellsOf 131=8:=bC
theorem dV{fuel:Nat}{cs:List Value}{x:DataW H×List MemPlace}(h:AJ enc prog W base spare held fuel 131 cs=some x):∃y:TV×Ten,cs=BE y.1/\(Cj W y.1 y.2/\y.2.name.size<=maxLen/\y.2.rules.length<=9223372036854775807/\y.2.creds.length<=9223372036854775807/\∀c∈y.2.creds,c.key.size<=maxLen):=by
 have hl:=EH underlying131 YM h;obtain⟨_,_,h0⟩:=Az underlying131 0 rfl bE (ft:=44) (o:=0) (c:=2) rfl rfl Nq h;obtain⟨B,e0,q0⟩:=Py h0;have F:=Cb cs 0 2 2 rfl;rw [e0] at F;obtain⟨_,_,h1⟩:=Az underlying131 1 rfl bE (ft:=9) (o:=2) (c:=1) rfl rfl ks h;obtain⟨U,e1,q1⟩:=NG h1;have g1:=Cb cs 2 1 3 rfl;rw [e1] at g1;obtain⟨_,_,h2⟩:=Az underlying131 2 rfl bE (ft:=3) (o:=3) (c:=1) rfl rfl ki h;obtain⟨X,e2,q2⟩:=Fg h2;have g2:=Cb cs 3 1 4 rfl;rw [e2] at g2;obtain⟨_,_,h3⟩:=Az underlying131 3 rfl bE (ft:=3) (o:=4) (c:=1) rfl rfl ki h;obtain⟨Y,e3,q3⟩:=Fg h3;have J:=Cb cs 4 1 5 rfl;rw [e3] at J;obtain⟨_,_,h4⟩:=Az underlying131 4 rfl bE (ft:=128) (o:=5) (c:=1) rfl rfl dC h;obtain⟨D,e4,T⟩:=Z1 h4;have M:=Cb cs 5 1 6 rfl;rw [e4] at M;obtain⟨_,_,h5⟩:=Az underlying131 5 rfl bE (ft:=129) (o:=6) (c:=1) rfl rfl dA h;obtain⟨E,e5,G⟩:=Zz h5;have N:=Cb cs 6 1 7 rfl;rw [e5] at N;obtain⟨_,_,h6⟩:=Az underlying131 6 rfl bE (ft:=3) (o:=7) (c:=1) rfl rfl ki h;obtain⟨y6,e6,q6⟩:=Fg h6;have O:=Cb cs 7 1 8 rfl;rw [e6] at O;have gz:cs.drop 8 = []:=AI bB;rw [BC] at F;refine⟨(⟨B.1,B.2,U,X,Y,D.1,D.2.1.length,D.2.2,E.1,E.2.1.length,E.2.2,y6⟩,⟨B.1,B.2,U,X,Y,D.2.1,E.2.1,y6⟩),?_,⟨⟨rfl,rfl,rfl,rfl,rfl,rfl,rfl,rfl,T.1,G.1⟩,q1,T.2.1,G.2.1,G.2.2⟩⟩;rw [F,g1,g2,J,M,N,O,gz];rfl
instance:Inhabited (TV×Ten):=⟨(⟨0,0,⟨#[]⟩,0,0,none,0,0,none,0,0,0⟩,IX)⟩
theorem hH:prog.cellsOf 27=1:=bC
theorem dY{fuel:Nat}{cs:List Value}{x:DataW H×List MemPlace}(h:AJ enc prog W base spare held fuel 27 cs=some x):
  ∃y:Option Addr×List (TV×Ten)×Nat,cs = [pF y.1 y.2.1.length y.2.2]/\AR (fun y:TV×Ten=>BE y.1) 8 W y.1 y.2.2 y.2.1/\y.2.1.length<=9223372036854775807/\∀z∈y.2.1,(Cj W z.1 z.2/\z.2.name.size<=maxLen/\z.2.rules.length<=9223372036854775807/\z.2.creds.length<=9223372036854775807/\∀c∈z.2.creds,c.key.size<=maxLen):=by
 obtain⟨a,xs,c,e,hs,hl,hz⟩:=ES (α:=(TV×Ten)) (en:=(fun y:TV×Ten=>BE y.1)) (ok:=fun z=>(Cj W z.1 z.2/\z.2.name.size<=maxLen/\z.2.rules.length<=9223372036854775807/\z.2.creds.length<=9223372036854775807/\∀c∈z.2.creds,c.key.size<=maxLen)) underlying27 YM bE (fun y=>CF y.1) (fun fuel cs x h=>dV h) h;exact⟨(a,xs,c),e,hs,hl,hz⟩
theorem eR{a:Option Addr}{c:Nat}{xs:List ByteArray}(h:AR Fd 1 W a c xs)(hl:xs.length<=9223372036854775807)(hz:∀z∈xs,z.size<=maxLen):J5 W a xs:=
 ⟨hz,hl,fun h0=>by
  obtain⟨g,off,ha,hg,hat⟩:=h.at_ h0;exact⟨g,off,ha,hg,fun i hi=>by
   have:=hat i hi 0 _ rfl
   rwa [pR,AT] at this⟩⟩
theorem YL:prog.cellsOf 147=3:=bC
theorem dU{fuel:Nat}{cs:List Value}{x:DataW H×List MemPlace}(h:AJ enc prog W base spare held fuel 147 cs=some x):∃y:SV×Sn,cs=y.1.cells/\X5 W y.1 y.2:=by
 have hl:=EH underlying147 YL h;obtain⟨_,_,h0⟩:=Az underlying147 0 rfl bE (ft:=3) (o:=0) (c:=1) rfl rfl ki h;obtain⟨F,J,O⟩:=Fg h0;have D:=Cb cs 0 1 1 rfl;rw [J] at D;obtain⟨_,_,h1⟩:=Az underlying147 1 rfl bE (ft:=64) (o:=1) (c:=1) rfl rfl gZ h;obtain⟨B,e1,E⟩:=dX h1;have g1:=Cb cs 1 1 2 rfl;rw [e1] at g1;obtain⟨_,_,h2⟩:=Az underlying147 2 rfl bE (ft:=3) (o:=2) (c:=1) rfl rfl ki h;obtain⟨G,M,T⟩:=Fg h2;have g2:=Cb cs 2 1 3 rfl;rw [M] at g2;have N:cs.drop 3 = []:=AI bB;rw [BC] at D;refine⟨(⟨F,B.1,B.2.1.length,B.2.2,G⟩,⟨F,B.2.1,G⟩),?_,⟨rfl,rfl,rfl,eR E.1 E.2.1 E.2.2⟩⟩;rw [D,g1,g2,N];rfl
instance:Inhabited (SV×Sn):=⟨(⟨0,none,0,0,0⟩,⟨0,[],0⟩)⟩
theorem dD:prog.cellsOf 30=1:=bC
theorem Z2{fuel:Nat}{cs:List Value}{x:DataW H×List MemPlace}(h:AJ enc prog W base spare held fuel 30 cs=some x):
  ∃y:Option Addr×List (SV×Sn)×Nat,cs = [pF y.1 y.2.1.length y.2.2]/\AR (fun y:SV×Sn=>y.1.cells) 3 W y.1 y.2.2 y.2.1/\y.2.1.length<=9223372036854775807/\∀z∈y.2.1,X5 W z.1 z.2:=by
 obtain⟨a,xs,c,e,hs,hl,hz⟩:=ES (α:=(SV×Sn)) (en:=(fun y:SV×Sn=>y.1.cells)) (ok:=fun z=>X5 W z.1 z.2) underlying30 YL bE (fun _=>rfl) (fun fuel cs x h=>dU h) h;exact⟨(a,xs,c),e,hs,hl,hz⟩
theorem dM{a:Option Addr}{c:Nat}{xs:List (SV×Sn)}(h:AR (fun y:SV×Sn=>y.1.cells) 3 W a c xs)(hl:xs.length<=9223372036854775807)(hz:∀z∈xs,X5 W z.1 z.2):Ib W a (xs.map (·.1)) (xs.map (·.2)):=
 ⟨by simpa using hl,fun hn=>by
  have h0:0<xs.length:=by cases xs with
   | nil=>exact absurd rfl hn
   | cons _ _=>simp
  obtain⟨g,off,D,hg,hat⟩:=h.at_ h0;refine⟨g,off,D,hg,fun i hi=>?_⟩;have B:i<xs.length:=by simpa using hi
  simp only [List.getElem_map];exact⟨hat i B 0 _ rfl,hat i B 1 _ rfl,hat i B 2 _ rfl⟩,by simp,fun i h1 h2=>by
  have B:i<xs.length:=bR;simp only [List.getElem_map];exact hz _ (pS B)⟩
theorem fH:∀ {xs:List (TV×Ten)},(∀z∈xs,Cj W z.1 z.2)->AX W (xs.map (·.1)) (xs.map (·.2))
 | [],_=>trivial
 | x::l,h=>⟨h x bA,fH fun z hz=>h z (by simp [hz])⟩
theorem US:prog.cellsOf 26=3:=bC
theorem Zw{fuel:Nat}{cs:List Value}{x:DataW H×List MemPlace}(h:AJ enc prog W base spare held fuel 26 cs=some x):∃y:DF×Fz,cs = [pF y.1.ga y.2.gens.length y.1.gc,pF y.1.ua y.2.used.length y.1.uc,pF y.1.fa y.2.free.length y.1.fc]/\(F1 W y.1.ga y.1.gc y.2.gens/\GX W y.1.ua y.1.uc y.2.used/\F1 W y.1.fa y.1.fc y.2.free):=by
 have hl:=EH underlying26 US h;obtain⟨_,_,h0⟩:=Az underlying26 0 rfl bE (ft:=23) (o:=0) (c:=1) rfl rfl YN h;obtain⟨D,G,N⟩:=Vc h0;have B:=Cb cs 0 1 1 rfl;rw [G] at B;obtain⟨_,_,h1⟩:=Az underlying26 1 rfl bE (ft:=24) (o:=1) (c:=1) rfl rfl cZ h;obtain⟨E,e1,O⟩:=Zy h1;have g1:=Cb cs 1 1 2 rfl;rw [e1] at g1;obtain⟨_,_,h2⟩:=Az underlying26 2 rfl bE (ft:=23) (o:=2) (c:=1) rfl rfl YN h;obtain⟨F,J,T⟩:=Vc h2;have g2:=Cb cs 2 1 3 rfl;rw [J] at g2;have M:cs.drop 3 = []:=AI bB;rw [BC] at B;refine⟨(⟨D.1,D.2.2,E.1,E.2.2,F.1,F.2.2⟩,⟨D.2.1,E.2.1,F.2.1⟩),?_,⟨N.1,O.1,T.1⟩⟩;rw [B,g1,g2,M];rfl
theorem YJ:prog.cellsOf 29=5:=bC
theorem dS{fuel:Nat}{cs:List Value}{x:DataW H×List MemPlace}(h:AJ enc prog W base spare held fuel 29 cs=some x):∃y:B6×CJ,cs = [pF y.1.s.ga y.2.slots.gens.length y.1.s.gc,pF y.1.s.ua y.2.slots.used.length y.1.s.uc,pF y.1.s.fa y.2.slots.free.length y.1.s.fc,pF y.1.la y.1.lv.length y.1.lc,I_ y.2.seq]/\(Lw W y.1 y.2/\y.1.lv.length<=9223372036854775807):=by
 have hl:=EH underlying29 YJ h;obtain⟨_,_,h0⟩:=Az underlying29 0 rfl bE (ft:=26) (o:=0) (c:=3) rfl rfl US h;obtain⟨G,J,F⟩:=Zw h0;have E:=Cb cs 0 3 3 rfl;rw [J] at E;obtain⟨_,_,h1⟩:=Az underlying29 1 rfl bE (ft:=27) (o:=3) (c:=1) rfl rfl hH h;obtain⟨D,e1,B⟩:=dY h1;have g1:=Cb cs 3 1 4 rfl;rw [e1] at g1;obtain⟨_,_,h2⟩:=Az underlying29 2 rfl bE (ft:=3) (o:=4) (c:=1) rfl rfl ki h;obtain⟨T,M,U⟩:=Fg h2;have g2:=Cb cs 4 1 5 rfl;rw [M] at g2;have N:cs.drop 5 = []:=AI bB;rw [BC] at E;refine⟨(⟨G.1,D.1,D.2.2,D.2.1.map (·.1)⟩,⟨G.2,D.2.1.map (·.2),T⟩),?_,⟨⟨F.1,F.2.1,F.2.2,AR.map (α:=TV×Ten) (enc:=BE) (fun z=>z.1) B.1,fH fun z hz=>(B.2.2 z hz).1,fun t O=>by
  obtain⟨z,hz,rfl⟩:=BO.1 O;exact(B.2.2 z hz).2⟩,by simpa using B.2.1⟩⟩
 rw [E,g1,g2,N];simp [Fb]
theorem YI:prog.cellsOf 32=2:=bC
theorem dR{fuel:Nat}{cs:List Value}{x:DataW H×List MemPlace}(h:AJ enc prog W base spare held fuel 32 cs=some x):∃y:(Option Addr×List (SV×Sn)×Nat)×Int,cs = [pF y.1.1 y.1.2.1.length y.1.2.2,I_ y.2]/\(Ib W y.1.1 (y.1.2.1.map (·.1)) (y.1.2.1.map (·.2))):=by
 have hl:=EH underlying32 YI h;obtain⟨_,_,h0⟩:=Az underlying32 0 rfl bE (ft:=30) (o:=0) (c:=1) rfl rfl dD h;obtain⟨G,E,D⟩:=Z2 h0;have B:=Cb cs 0 1 1 rfl;rw [E] at B;obtain⟨_,_,h1⟩:=Az underlying32 1 rfl bE (ft:=3) (o:=1) (c:=1) rfl rfl ki h;obtain⟨J,e1,M⟩:=Fg h1;have g1:=Cb cs 1 1 2 rfl;rw [e1] at g1;have F:cs.drop 2 = []:=AI bB;rw [BC] at B;refine⟨(G,J),?_,dM D.1 D.2.1 D.2.2⟩;rw [B,g1,F];rfl
theorem kQ:prog.cellsOf 36=10:=bC
theorem Jp{v:Value}{d:DataW H}{p:List MemPlace}(hv:Value.okWide prog W .any 0 36 v)(h:DataW.Trod enc prog W base spare held 36 v d p):∃(u:CV) (c:BN),v = pH (ctlA u)/\GY W u c:=by
 obtain⟨B,rfl,_⟩:=okWide_struct underlying36 hv;obtain⟨fuel,h⟩:=h;obtain⟨cs,D⟩:=eX ((pH B).cells.toList);rw [D] at h;have hl:=EH underlying36 kQ h;obtain⟨_,_,h0⟩:=Az underlying36 0 rfl bE (ft:=22) (o:=0) (c:=1) rfl rfl dB h;obtain⟨G,e0,O⟩:=Z0 h0;have N:=Cb cs 0 1 1 rfl;rw [e0] at N;obtain⟨_,_,h1⟩:=Az underlying36 1 rfl bE (ft:=29) (o:=1) (c:=5) rfl rfl YJ h;obtain⟨E,e1,Y⟩:=dS h1;have g1:=Cb cs 1 5 6 rfl;rw [e1] at g1;obtain⟨_,_,h2⟩:=Az underlying36 2 rfl bE (ft:=32) (o:=6) (c:=2) rfl rfl YI h;obtain⟨F,e2,q2⟩:=dR h2;have g2:=Cb cs 6 2 8 rfl;rw [e2] at g2;obtain⟨_,_,h3⟩:=Az underlying36 3 rfl bE (ft:=33) (o:=8) (c:=1) rfl rfl gY h;obtain⟨J,e3,T⟩:=dW h3;have U:=Cb cs 8 1 9 rfl;rw [e3] at U;obtain⟨_,_,h4⟩:=Az underlying36 4 rfl bE (ft:=34) (o:=9) (c:=1) rfl rfl cY h;obtain⟨M,e4,q4⟩:=Zx h4;have X:=Cb cs 9 1 10 rfl;rw [e4] at X;have gz:cs.drop 10 = []:=AI bB;rw [BC] at N;refine⟨⟨G.1,G.2.1.length,G.2.2,E.1,E.2.slots.gens.length,E.2.slots.used.length,E.2.slots.free.length,E.1.lv.length,E.2.seq,F.1.1,F.1.2.1.length,F.1.2.2,F.1.2.1.map (·.1),F.2,J.1,J.2.1.length,J.2.2,M.1,M.2.1.length,M.2.2⟩,⟨G.2.1,E.2,⟨F.1.2.1.map (·.2),F.2⟩,J.2.1,M.2.1⟩,?_,?_⟩
 ·rw [N,g1,g2,U,X,gz] at D
  refine congrArg pH ?_;show B=_;obtain⟨l⟩:=B;rw [show l=_ from D];rfl
 ·exact { o:=O.1,on:=rfl,ol:=O.2.1,os:=O.2.2,r:=Y.1,g:=rfl,u:=rfl,f:=rfl,l:=rfl,ll:=Y.2,q:=rfl,p:=q2,pn:=by simp,nx:=rfl,j:=T.1,jn:=rfl,jl:=T.2.1,js:=T.2.2,d:=q4.1,dn:=rfl,dl:=q4.2.1 }
end
end
section
theorem u5:True:=trivial
end
end Go.Proofs.YtjieiikpolahfaaGreatDoor
