/- Steps of the proof: CtR, CtT, CtV. -/
import Derived.Test.YtcjdkbgdahgjbaaGreatDoorK0
import Derived.Test.YtcjdkbgdahgjbaaGreatDoorKak
import Derived.Test.YtcjdkbgdahgjbaaGreatDoorKam
import Derived.Test.YtcjdkbgdahgjbaaGreatDoorKav
import Derived.Test.YtcjdkbgdahgjbaaGreatDoorKaw
import Derived.Test.YtcjdkbgdahgjbaaGreatDoorKax
import Derived.Test.YtcjdkbgdahgjbaaGreatDoorKbc
set_option maxRecDepth 100000
set_option maxHeartbeats 8000000
set_option linter.all false
namespace Go.Proofs.YtcjdkbgdahgjbaaGreatDoor
open Act renaming put→BP
open _root_.And renaming intro→AZ
open _root_.Array renaming getElem?_eq_some_iff→Aj
open Ending renaming returned→dM
open Instr renaming findNow→AV,lookup→Dx
open IntKind renaming i64→dN
open _root_.List renaming append_assoc→CO,cons_append→A6,flatMap_append→Bt,getElem?_append_right→Dc,getElem?_take→Ds,length_append→Ag,length_drop→Bi,length_take→A7,mem_cons→Ac,nil_append→AX,not_mem_nil→Ab,push_toArray→By
open _root_.Nat renaming le_refl→Ap,lt_of_lt_of_le→AT,min_eq_left→DP,mul_le_mul_right→BW,zero_add→BI
open Result renaming andThen→AI
open Value renaming agg→dK,int→dH,pointer→dJ,slice→dI,string→CZ
section
open Go.RowKit Go.Shelf
attribute [local go_sem] Oper.semAt_some N5 N6 N3 N4
attribute [local go_sem ↓] Go.wp_at_zero Go.wp_at_succ
theorem PZ(sb:Nat)(j:BC)(v:CV)(c:D2)(now left:Int)(e:Gm)(t:ByteArray)(hZ:Cg c.done j.req.who j.req.id=some t)(wb w:World)(hI:SI wb sb w v c)(h:A1 w sb j v now left e):
  Calls Tryz.prog 124 #[dJ (some ⟨sb,0,none⟩)] w (J2 wb sb w now left ((Df j c now).1,(Df j c now).2,e)):=by
 have HA:=IJ sb j v c now left e w hI.m h;rw [hZ] at HA;simp only [Option.getD_some,Option.isSome_some] at HA;rw [Oh hZ];have HI:=lH hI;have HB:=lH h;clear hI h hZ;go_enter Tryz.func124,Tryz.ntmps124;go_wp2_with (fail);refine HA.mono ?_;rintro r0 w1 ⟨rfl,hk1⟩;have HB1:Hid (A1 w1 sb j v now left e):=lH (A1.keeps HB.out hk1 bA);have HK1:=lH hk1;clear hk1 HA;go_wp2_with (fail);refine(FG sb j _ _ _ _ _ _ _ _ _ _ now left e t _ HB1.out).mono ?_;rintro r0 w2 ⟨rfl,hb2,hk2⟩;have HB2:Hid (A1 w2 sb (j.answers t) v now left e):=lH hb2;have HK2:=lH hk2;clear hb2 hk2;go_wp2_with (fail);exact bodyPost_ret (results_none rfl _ _ _) rfl ⟨v,rfl,HB2.out,(HI.out.keeps HK1.out).put HB1.out HK2.out,(HK1.out.mono bA).trans HK2.out⟩
theorem PY(E eN:Nat→Addr)(sb:Nat)(j:BC)(v:CV)(c:D2)(now left:Int)(e:Gm)(hid:0≤j.req.id∧j.req.id≤1000000)(hat : -9223372036854775808≤j.req.com.at_∧j.req.com.at_≤9223372036854775807)(hc:T4 c)(hZ:Cg c.done j.req.who j.req.id=none)
 (wb w:World)(hE:IE wb)(hR:J0 wb E)(hN:Kn wb eN)(hI:SI wb sb w v c)(h:A1 w sb j v now left e):
  Calls Tryz.prog 124 #[dJ (some ⟨sb,0,none⟩)] w (J2 wb sb w now left ((Df j c now).1,(Df j c now).2,e)):=by
 have HA:=IJ sb j v c now left e w hI.m h;rw [hZ] at HA;simp only [Option.getD_none,Option.isSome_none] at HA;rw [Og hZ];have HE:Hid (∀W,Aa [] wb W→IE W):=lH fun W hk=>hE.keeps hk;have HN:=lH hN;have HEB:=lH hE;have HI:=lH hI;have HB:=lH h;have HID:=lH hid;have HC:=lH hc;obtain⟨D,hD⟩:=eX (Bu c.reg j.role j.req.com now);obtain⟨G,hG⟩:=eX (Ug j c now);obtain⟨CP,hCP⟩:=eX (Wl j c now);have HG:Hid ((if D.2.err≠150 then D.1 else c.reg)=G):=lH (by rw [← hG,← hD];rfl);have HCP:Hid ((if D.2.err≠0 then(j.refuses j.req.id D.2.err,c.pool)
  else if j.req.com.verb=9 then F4 j c.pool (BN G) D.2.seq now
  else(if Jo j.req.com.verb then { j.answers (Gf [okT,AU j.req.id,AU D.2.seq,AU D.2.slot,AU D.2.gen,AU D.2.version,AU D.2.state]) with phase:=4,slot:=D.2.slot,gen:=D.2.gen }
   else j.answers (Gf [okT,AU j.req.id,AU D.2.seq,AU D.2.slot,AU D.2.gen,AU D.2.version,AU D.2.state]),c.pool))=CP):=lH (by rw [← hCP,← hG,← hD];rfl)
 have HGO:Hid (Cz G):=lH (by rw [← hG];exact Wk hc.reg);have HER:Hid (0≤D.2.err∧D.2.err≤1000):=lH (by rw [← hD];exact Sm _ _ _ _);have HRS:Hid (D.2.err=0→Yq D.2):=lH (by rw [← hD];exact NU hc.reg _ _ _);have HAP:Hid (∀W,Aa [] w W→Calls Tryz.prog 33 #[dK (R_ v.r v.gn v.un v.fn v.ln v.seq),dH dN j.role,dK (K_ j.req.com),dH dN now] W (Ju W D)):=lH fun W hk=>by
  rw [← hD];exact Qp v.r c.reg v.gn v.un v.fn v.ln hI.m.g hI.m.u hI.m.f hI.m.l v.seq hI.m.q j.role j.req.com now hat W E (hR.keeps (hI.kw.trans hk)) (hI.m.r.keeps hk)
 rw [hG,hCP];have HRG:Hid (w.rangeAt sb 3 (reqA j.req).toList→∀W,Aa [] w W→W.rangeAt sb 3 (reqA j.req).toList):=lH fun _ W hk=>A1.reqs (A1.keeps h hk bA);have HSB:Hid (sb<w.heap.size):=lH (Blk.lt h);clear hE hR hN hI h hid hat hc hZ hD hG hCP;go_enter Tryz.func124,Tryz.ntmps124;go_wp2_with (fail);refine HA.mono ?_;rintro r0 w1 ⟨rfl,hk1⟩;have HB1:Hid (A1 w1 sb j v now left e):=lH (A1.keeps HB.out hk1 bA);have HR1:=lH (A1.reqs HB1.out);obtain⟨w2,hw2⟩:=eX (w1.alloc (.cells (reqA j.req) 63));have hk12:Aa [] w1 w2:=by rw [← hw2];exact(Aa.refl [] w1).alloc _
 have HQ2:Hid (Blk w2 w1.heap.size 63 (Q_ j.req)):=lH (by rw [← hw2];exact Blk.new w1 _ _);have HK2:=lH (hk1.trans hk12);have HB2:Hid (A1 w2 sb j v now left e):=lH (A1.keeps HB.out HK2.out bA);have HSQ:Hid (sb<w1.heap.size∧w1.heap.size<w2.heap.size):=lH ⟨AT HSB.out hk1.size,by rw [← hw2];simp⟩;clear hk1 hk12 HA;go_upto_region 4 with(first | (refine BV bD 63 _ bD sb 3 bD (reqA j.req) _ HR1.out Tryz.underlying63 rfl (B1 _) ?_) | (refine wpList_store_row bD 63 _ _ bD w1.heap.size (reqA j.req) bD bD 63 (reqA req0) (Blk.new w1 _ _) (B1 _) rfl (CQ _) ?_;rw [World.setRow_alloc_new]))
 simp only [BP];rw [hw2];clear hw2;obtain⟨qb,hqb⟩:=eX (w1.heap.size);rw [hqb] at HQ2 HSQ ⊢;have r2:=(A1.lit HB2.out).rl;have rq:=HQ2.out.rl;clear hqb;go_cut [5,6] (fun x y wd=>∃rb ab rv gn un fn ln q,x = dJ (some ⟨rb,0,none⟩)∧y = dJ (some ⟨ab,0,none⟩)∧Hid (Blk wd rb 29 (R_ rv gn un fn ln q))∧Hid (Blk wd ab 96 #[dH dN D.2.err,dH dN D.2.seq,dH dN D.2.slot,dH dN D.2.gen,dH dN D.2.version,dH dN D.2.state])∧
  Hid (q=D.1.seq∧D.1.slots.gens.length=gn∧D.1.slots.used.length=un∧D.1.slots.free.length=fn∧D.1.l.length=ln)∧Hid (Co wd rv D.1∧CK (fun y=>y=sb∨y<wb.heap.size+3) rv D.1)∧Hid (Aa [] w2 wd)∧Hid (w2.heap.size≤rb∧w2.heap.size≤ab))
 case first=>
  refine wp_region_held_drew (S:=(Aa [] w2)) bC (by((try dsimp only);(repeat(with_reducible first | exact hk3' | exact Aa.refl _ _ | refine Aa.drew ?_ | refine Aa.alloc ?_ _ | refine Aa.own ?_ hkT (fun y hy=>Zn) | refine Aa.own ?_ hkS (fun y hy=>Zn))))) (fun hHeld=>?_)
  repeat' (first | exact rZ | refine rX ?_ | ((first | (refine rA 16 (fun K hK=>?_) ?_;go_simp;(refine(HAP.out _ (HK2.out.trans hHeld)).mono ?_;rintro er w3 ⟨rv,gn,un,fn,ln,q,rfl,hq,hg,hu,hf,hl,hm,hno,hk3⟩;have HLN:=lH (AZ hq (AZ hg (AZ hu (AZ hf hl))));clear hq hg hu hf hl;have hk3':=hHeld.trans hk3;have hz3:=hk3'.size;have hz0:=hHeld.size;have hz1:=hk3.size;(try simp at hz1);have hno':CK (fun y=>y=sb∨y<wb.heap.size+3) rv D.1:=hno.mono (fun y hy=>by have:=hHeld.size;have:=HSQ.out;have:=HI.out.lo;show y<_;omega))) | (refine rA 20 (fun K hK=>?_) ?_;go_simp) | (refine rA 21 (fun K hK=>?_) ?_;go_simp) | (refine rA 22 (fun K hK=>?_) ?_;(refine E5 29 _ _ bD _ (R_ rv gn un fn ln q) bD bD 29 LU.k ?_ rfl bC YB ?_;(· (repeat(with_reducible first | exact Blk.new _ _ _ | exact Aq _ _ _ _ bA | refine Blk.alloc ?_ _ | refine Blk.drew ?_ | refine Blk.keeps ?_ hk3 bA)));intro wS HRB hkS)) | (refine rA 23 (fun K hK=>?_) ?_;(refine E5 96 _ _ bD _ #[dH dN D.2.err,dH dN D.2.seq,dH dN D.2.slot,dH dN D.2.gen,dH dN D.2.version,dH dN D.2.state] bD bD 96 Yb.k ?_ rfl bC YB ?_;(· refine Blk.keeps ?_ hkS Zq;(repeat(with_reducible first | exact Blk.new _ _ _ | exact Aq _ _ _ _ bA | refine Blk.alloc ?_ _ | refine Blk.drew ?_ | refine Blk.keeps ?_ hk3 bA)));intro wT HAB hkT)));(try clear rH);refine rP hK ((by((try dsimp only);(repeat(with_reducible first | exact hk3' | exact Aa.refl _ _ | refine Aa.drew ?_ | refine Aa.alloc ?_ _ | refine Aa.own ?_ hkT (fun y hy=>Zn) | refine Aa.own ?_ hkS (fun y hy=>Zn)))))) fun rH hHeld=>?_;clear hK K) | (refine rK 0 ?_;refine rK 1 ?_;refine rK 2 ?_;refine rK 3 ?_;refine rK 4 ?_;refine rK 5 ?_;refine rK 6 ?_;refine rK 7 ?_;refine rK 8 ?_;refine rK 9 ?_;refine rK 10 ?_;refine rK 11 ?_;refine rK 12 ?_;refine rK 13 ?_;refine rK 14 ?_;refine rK 15 ?_) | (refine rK 17 ?_;refine rK 18 ?_;refine rK 19 ?_) | refine rB [16,20,21,22,23] ?_ | (refine wpAnyH_done bC ?_ _;(go_wp2_with (fail);go_meet;refine⟨_,_,rv,gn,un,fn,ln,q,rfl,rfl,lH (Blk.keeps HRB hkT Zq),lH HAB,HLN,lH ⟨?_,hno'⟩,lH hHeld,lH ⟨Zq,Zq⟩⟩;refine Co.stayO hm hno (Aa.two ?_ hkS hkT) ?_;(· repeat(with_reducible first | exact Aa.refl _ _ | refine Aa.drew ?_ | refine Aa.alloc ?_ _));(· intro y hy;simp only [Ac,Ab,or_false] at hy;rcases hy with rfl | rfl<;>first | (simp;done) | (simp;omega) | omega))))
 case rest=>
  obtain⟨rb,ab,rv,gn,un,fn,ln,q,rfl,rfl,HRB,HAB,HLN,HRM,HKD,HGE⟩:=hcut
  rename World=>wd
  clear r2 rq;have HKW:Hid (Aa [] w wd):=lH (HK2.out.trans HKD.out);have HBD:Hid (A1 wd sb j v now left e):=lH (A1.keeps HB.out HKW.out bA);have HQD:=lH (HQ2.out.keeps HKD.out bA);have ne1:¬qb=sb:=by have:=HSQ.out;omega
  have ne2:¬ab=sb:=by have:=HSQ.out;have:=HGE.out;omega
  have ra:=HAB.out.rl;have rg:=HRB.out.rl;have r:=(A1.lit HBD.out).rl;obtain⟨b5,hb5⟩:=eX ((D.2.err != 150));have HB5:=lH hb5;go_upto_if 44 with(fail)
  clear hb5;go_cut [] (fun we=>∃v',Hid (A1 we sb j v' now left e)∧Hid (SI wb sb we v' { c with reg:=G })∧Hid (Aa [sb] wd we))
  case first=>
   cases b5
   ·have h0:D.2.err=150:=by simpa using HB5.out
    have HGG:Hid (c.reg=G):=lH (by rw [← HG.out,if_neg (by simp [h0])]);clear h0;go_wp2_with (fail);go_meet;exact⟨v,HBD,lH (by rw [← HGG.out];exact HI.out.keeps HKW.out),lH (Aa.refl _ _)⟩
   ·have HGG:Hid (D.1=G):=lH (by rw [← HG.out,if_pos (by simpa using HB5.out)])
    go_wp2_with (fail);go_meet;exact⟨{ v with r:=rv,gn:=gn,un:=un,fn:=fn,ln:=ln,seq:=q },lH (A1.reg HBD.out rv gn un fn ln q),lH (by
     rw [← HGG.out];exact((HI.out.keeps HKW.out).put HBD.out (Hc _ sb 25 _ _ _ _ _)).reg (HRM.out.1.stay HRM.out.2 (Hc _ sb 25 _ _ _ _ _) bA) HRM.out.2 HLN.out.1 HLN.out.2.1 HLN.out.2.2.1 HLN.out.2.2.2.1 HLN.out.2.2.2.2),lH (Hc _ sb 25 _ _ _ _ _)⟩
  case rest=>
   obtain⟨v5,HBE,HIE,HKE⟩:=hcut
   rename World=>we
   clear r ra rg;have HQE:=lH (HQD.out.keeps HKE.out bG);have HAE:=lH (HAB.out.keeps HKE.out bG);go_step;go_step;go_cut [] (fun wf=>∃v',Hid (A1 wf sb CP.1 v' now left e)∧Hid (SI wb sb wf v' { c with reg:=G,pool:=CP.2 })∧Hid (Aa [sb] we wf))
   case first=>
    have ra:=HAE.out.rl;have rq:=HQE.out.rl;have r:=(A1.lit HBE.out).rl;by_cases h0:D.2.err=0;rotate_left
    ·have HCQ:Hid (CP=(j.refuses j.req.id D.2.err,c.pool)):=lH (by rw [← HCP.out,if_pos h0])
     have f1:(D.2.err != 0)=true:=by simpa using h0
     clear h0;go_wp2_with (fail);refine(ES sb j v5 now left e j.req.id D.2.err ⟨by have:=HID.out;omega,by have:=HID.out;omega⟩ ⟨by have:=HER.out;omega,by have:=HER.out;omega⟩ _ (HE.out _ HIE.out.kw) HBE.out).mono ?_;rintro r0 w4 ⟨rfl,hb4,hk4⟩;have HB4:=lH hb4;have HK4:=lH hk4;clear hb4 hk4;go_wp2_with (fail);go_meet;exact⟨v5,lH aG,lH (by rw [HCQ.out];exact HIE.out.put HBE.out HK4.out),HK4⟩
    ·have f1:(D.2.err != 0)=false:=by simpa using h0
     have hS:=HRS.out h0;have HRX:=lH hS;have H0:=lH h0;clear h0 hS;obtain⟨b9,hb9⟩:=eX ((j.req.com.verb==9));cases b9;rotate_left
     ·have h9:j.req.com.verb=9:=by simpa using hb9
      have HCQ:Hid (CP=F4 j c.pool (BN G) D.2.seq now):=lH (by rw [← HCP.out,if_neg (by simp [H0.out]),if_pos h9]);clear h9;go_wp2_with (fail);refine(UL sb j v5 { c with reg:=G } now left e D.2.seq ⟨by have:=HID.out;omega,by have:=HID.out;omega⟩ ⟨by have:=HRX.out.seq;omega,by have:=HRX.out.seq;omega⟩ (SB HGO.out) wb _ eN HEB.out HN.out HIE.out HBE.out).mono ?_;rintro r0 w4 ⟨v6,rfl,hb4,hi4,hk4⟩;have HB4:=lH hb4;have HI4:=lH hi4;have HK4:=lH hk4;clear hb4 hi4 hk4;go_wp2_with (fail);go_meet;exact⟨v6,lH aG,lH (by rw [HCQ.out];exact HI4.out),HK4⟩
     ·have h9:¬j.req.com.verb=9:=by simpa using hb9
      obtain⟨TX,hTX⟩:=eX (Gf [okT,AU j.req.id,AU D.2.seq,AU D.2.slot,AU D.2.gen,AU D.2.version,AU D.2.state]);obtain⟨bs,hbs⟩:=eX (Jo j.req.com.verb);have HCQ:Hid (CP=(if bs then { j.answers TX with phase:=4,slot:=D.2.slot,gen:=D.2.gen } else j.answers TX,c.pool)):=lH (by rw [← HCP.out,if_neg (by simp [H0.out]),if_neg h9,hTX,hbs]);have HBS:=lH hbs;obtain⟨wh,hwh⟩:=eX (we.alloc (.cells #[.iface 9 (CZ okT),.iface 3 (dH dN j.req.id),.iface 3 (dH dN D.2.seq),.iface 3 (dH dN D.2.slot),.iface 3 (dH dN D.2.gen),.iface 3 (dH dN D.2.version),.iface 3 (dH dN D.2.state)] 20));have hkh:Aa [] we wh:=by rw [← hwh];exact(Aa.refl [] we).alloc _
      have hV:NN wh (some ⟨we,0,none⟩) 7 [.iface 9 (CZ okT),.iface 3 (dH dN j.req.id),.iface 3 (dH dN D.2.seq),.iface 3 (dH dN D.2.slot),.iface 3 (dH dN D.2.gen),.iface 3 (dH dN D.2.version),.iface 3 (dH dN D.2.state)]:=by rw [← hwh];exact K7 we _ 7 rfl 20
      have HS:=L8 (some ⟨we,0,none⟩) 7 7 _ [[okT],[AU j.req.id],[AU D.2.seq],[AU D.2.slot],[AU D.2.gen],[AU D.2.version],[AU D.2.state]] rfl bE bA wh (HE.out _ (HIE.out.kw.trans hkh)) hV
       ⟨.inl ⟨_,rfl,rfl⟩,.inr (.inl ⟨_,rfl,rfl,by have:=HID.out;omega,by have:=HID.out;omega⟩),.inr (.inl ⟨_,rfl,rfl,by have:=HRX.out.seq;omega,by have:=HRX.out.seq;omega⟩),.inr (.inl ⟨_,rfl,rfl,by have:=HRX.out.slot;omega,by have:=HRX.out.slot;omega⟩),.inr (.inl ⟨_,rfl,rfl,by have:=HRX.out.gen;omega,by have:=HRX.out.gen;omega⟩),.inr (.inl ⟨_,rfl,rfl,by have:=HRX.out.version;omega,by have:=HRX.out.version;omega⟩),.inr (.inl ⟨_,rfl,rfl,by have:=HRX.out.state;omega,by have:=HRX.out.state;omega⟩),trivial⟩
      simp only [List.flatten_cons,List.flatten_nil,A6,AX,hTX] at HS;have HKH:=lH hkh;have HBH:Hid (A1 wh sb j v5 now left e):=lH (A1.keeps HBE.out hkh bA);have hew:okT=⟨#[111,107]⟩:=rfl;rw [hew] at hwh;clear hkh hV hew h9 hbs hTX;go_wp2_with (fail);clear hwh ra rq r;refine HS.mono ?_;rintro r0 w1 ⟨rfl,hk1⟩;have HB1:Hid (A1 w1 sb j v5 now left e):=lH (A1.keeps HBH.out hk1 bA);have HK1:=lH (HKH.out.trans hk1);clear hk1 HS;go_wp2_with (fail);refine(FG sb j _ _ _ _ _ _ _ _ _ _ now left e TX _ HB1.out).mono ?_;rintro r0 w4 ⟨rfl,hb4,hk4⟩;have HB4:Hid (A1 w4 sb (j.answers TX) v5 now left e):=lH hb4;have HK4:Hid (Aa [sb] we w4):=lH ((HK1.out.mono bA).trans hk4);have HI4:Hid (SI wb sb w4 v5 { c with reg:=G }):=lH (HIE.out.put HBE.out HK4.out);have rq:=(HQE.out.keeps HK4.out bG).rl;have ra:=(HAE.out.keeps HK4.out bG).rl;have r:=(A1.lit HB4.out).rl;clear hb4 hk4;go_wp2_with (fail);refine(QS _ bs HBS.out _).mono ?_;rintro r0 w5 ⟨rfl,rfl⟩;cases bs
      ·go_wp2_with (fail)
       go_meet;exact⟨v5,lH aG,lH (by rw [HCQ.out];exact HI4.out),HK4⟩
      ·go_upto_region 9 with(fail)
       refine wp_region_held_drew (S:=(Aa [sb] w4)) bC ZE (fun hHeld=>?_);refine rK 0 ?_;refine rK 1 ?_;refine rK 2 ?_;refine rK 3 ?_;refine rK 4 ?_;refine rK 5 ?_;refine rK 6 ?_;refine rC 7 fun K hK=>?_;go_simp
       (try clear rH);refine rP hK ZE fun rH hHeld=>?_;clear hK K
       refine rK 8 ?_;refine rK 9 ?_;refine rK 10 ?_;refine rC 11 fun K hK=>?_;go_simp
       (try clear rH);refine rP hK ZE fun rH hHeld=>?_;clear hK K
       refine wpAnyH_done bC ?_ _
       (go_wp2_with (fail);go_meet;exact⟨v5,lH (by rw [HCQ.out];exact Blk.drew (A1.sweep HB4.out D.2.slot D.2.gen)),lH (by rw [HCQ.out];exact HI4.out.put HB4.out hHeld),lH (HK4.out.trans hHeld)⟩)
   case rest=>
    obtain⟨v6,HBF,HIF,HKF⟩:=hcut
    rename World=>wf
    have HQF:=lH (HQE.out.keeps HKF.out bG);have HKZ:Hid (Aa [sb] w wf):=lH (((HKW.out.mono bA).trans HKE.out).trans HKF.out);have HN6:Hid (c.done.length=v6.dn∧v6.dn≤900∧v6.dn≤8):=lH ⟨HIF.out.m.dn,HIF.out.m.dl,by have h1:c.done.length=v6.dn:=HIF.out.m.dn;have:=HC.out.done;omega⟩;have HCL:=lH (fun W (hk:Aa [] wf W)=>IP v6.da v6.dc c.done v6.dn HN6.out.1 (by have:=HN6.out.2.1;omega) W (HIF.out.m.d.keeps hk));obtain⟨an,han⟩:∃an:Mn,⟨j.req.who,j.req.id,CP.1.reply⟩=an:=⟨_,rfl⟩;have HAN:=lH han;have r:=(A1.lit HBF.out).rl;have rq:=HQF.out.rl;clear han;go_step;go_step;go_upto_region 14 with(fail)
    go_cut [7] (fun x wg=>∃g k,x = dI (some ⟨g,0,none⟩) (v6.dn+1) k∧Hid (wg.ownsRow wf.heap.size 89 3 (dI (some ⟨g,0,none⟩) (v6.dn+1) k) (v6.dn+1) ((c.done++[an]).flatMap D7))∧Hid (Aa [] wf wg))
    case first=>
     refine wp_region_held_drew (S:=(Aa [] wf)) bC X0 (fun hHeld=>?_);refine rK 0 ?_;refine rK 1 ?_;refine rK 2 ?_;refine rK 3 ?_;refine rK 4 ?_;refine rK 6 ?_;refine rK 7 ?_;refine rK 8 ?_;refine rK 9 ?_;refine rK 10 ?_;refine rK 11 ?_;refine rK 12 ?_;refine rK 13 ?_;refine rK 14 ?_;refine rK 15 ?_;refine wpAnyH_ready (rs:=[5,16]) bC bA ?_;refine AllReadyH.cons rfl (fun K hK=>?_) ?_
     ·go_simp
      (refine(HCL.out _ hHeld).mono ?_;rintro er w5 ⟨a5,k5,rfl,hs5,ho5,hk5⟩;have hk5':=hHeld.trans hk5;have ho5:=Bg ho5 hHeld.size)
      (try clear rH);refine rP hK X0 fun rH hHeld=>?_;clear hK K
      refine rC 16 fun K hK=>?_;go_simp
      (try clear rH);refine rP hK X0 fun rH hHeld=>?_;clear hK K
      refine rC 17 fun K hK=>?_
      (obtain⟨g6,k6,w6,hrun,ho6,hkk⟩:=NS (ho5.alloc (.cells #[CZ j.req.who,dH dN j.req.id,CZ CP.1.reply] 89)) HN6.out.1 HN6.out.2.1 (by have:=hk5'.size;simp;omega) (x:=an) (by rw [← HAN.out];exact AJ.one (enc:=D7) w5 ⟨j.req.who,j.req.id,CP.1.reply⟩ 89 (EE _)) 34;refine BA _ _ 34 bD bD bD bD hrun ?_;have hk6:=hkk wf (hk5'.alloc _) (Ap _))
      (try clear rH);refine rP hK X0 fun rH hHeld=>?_;clear hK K
      refine rK 18 ?_;refine wpAnyH_done bC ?_ _
      (go_wp2_with (fail);go_meet;exact⟨g6,k6,rfl,lH ho6,lH hk6⟩)
     refine AllReadyH.cons rfl (fun K hK=>?_) ?_
     ·go_simp
      (try clear rH);refine rP hK X0 fun rH hHeld=>?_;clear hK K
      refine rC 5 fun K hK=>?_;go_simp
      (refine(HCL.out _ hHeld).mono ?_;rintro er w5 ⟨a5,k5,rfl,hs5,ho5,hk5⟩;have hk5':=hHeld.trans hk5;have ho5:=Bg ho5 hHeld.size;have hone:AJ D7 3 w5 (some ⟨wf,0,none⟩) 1 [an]:=AJ.keeps (by rw [← HAN.out];exact(AJ.one (enc:=D7) wf ⟨j.req.who,j.req.id,CP.1.reply⟩ 89 (EE _)).keeps ((Aa.refl [] _).drew)) hk5)
      (try clear rH);refine rP hK X0 fun rH hHeld=>?_;clear hK K
      refine rC 17 fun K hK=>?_
      (obtain⟨g6,k6,w6,hrun,ho6,hkk⟩:=NS ho5 HN6.out.1 HN6.out.2.1 hk5'.size hone 34;refine BA _ _ 34 bD bD bD bD hrun ?_;have hk6:=hkk wf hk5' (Ap _))
      (try clear rH);refine rP hK X0 fun rH hHeld=>?_;clear hK K
      refine rK 18 ?_;refine wpAnyH_done bC ?_ _
      (go_wp2_with (fail);go_meet;exact⟨g6,k6,rfl,lH ho6,lH hk6⟩)
     exact AllReadyH.nil
    case rest=>
     obtain⟨g,k,rfl,HOW,HKG⟩:=hcut
     rename World=>wg
     clear r rq;have HBG:Hid (A1 wg sb CP.1 v6 now left e):=lH (A1.keeps HBF.out HKG.out bA);have hgs:wf.heap.size≤g:=(HOW.out.lt g rfl).1;have HNG:Hid (¬g=sb∧¬g<wb.heap.size+3):=lH (by have:=HKZ.out.size;have:=HSB.out;have:=HI.out.lo;omega);obtain⟨m,hm⟩:=eX (v6.dn+1);have HM:Hid (v6.dn+1=m∧m≤9):=lH ⟨hm,by have:=HN6.out.2.2;omega⟩;rw [hm] at HOW ⊢;obtain⟨o,rc,hrun,hda⟩:=Uq (m:=m) (by rw [Ag,HN6.out.1];exact HM.out.1) (by have:=HM.out.1;omega) HOW.out;have HDA:=lH hda;have hw1:IntKind.i64.wrap ((m:Int) - 8)=(m:Int) - 8:=IntWalk.i64_in _ (by have:=HM.out.2;omega);have hmx:max ((m:Int) - 8) 0=((m - 8:Nat):Int):=by omega
     have r:=(A1.lit HBG.out).rl;clear hgs hm hda;go_wp2_with (fail)
     go_end0
     rw [HAN.out];have hkp:=Ae wg sb 33 (dI (some ⟨g,o,none⟩) (m - (m - 8)) rc);have hda2:NM (wg.setCell ⟨sb,33,none⟩ (dI (some ⟨g,o,none⟩) (m - (m - 8)) rc)) (some ⟨g,o,none⟩) rc (EH (c.done++[an])):=HDA.out.keepsN hkp (fun _ g' o' e hm'=>by
      injection e with e;injection e with e _ _
      exact HNG.out.1 (by rw [e];simpa using hm'))
     have hlen:(EH (c.done++[an])).length=m - (m - 8):=by
      have h1:(c.done++[an]).length=m:=by rw [Ag,HN6.out.1];exact HM.out.1
      unfold EH;rw [Bi,h1]
     refine⟨_,rfl,A1.done HBG.out _ _ _,(((HIF.out.keeps HKG.out).put HBG.out hkp).done hda2 hlen bB (fun _ g' o' e hq=>?_)),(HKZ.out.trans (HKG.out.mono bA)).trans hkp⟩;injection e with e;injection e with e _ _
     exact hq.elim (fun h=>HNG.out.1 (by rw [e];exact h)) (fun h=>HNG.out.2 (by rw [e];exact h))
theorem A1.eff{w:World}{sb:Nat}{j:BC}{v:CV}{now left:Int}{e:Gm}(h:A1 w sb j v now left e)(k s g:Int)(t:ByteArray):
  A1 ((((w.setCell ⟨sb,36,none⟩ (dH dN k)).setCell ⟨sb,37,none⟩ (dH dN s)).setCell ⟨sb,38,none⟩ (dH dN g)).setCell ⟨sb,39,none⟩ (CZ t)) sb j v now left ⟨k,s,g,t⟩:=
 (((Blk.set_ h 36 (dH dN k)).set_ 37 (dH dN s)).set_ 38 (dH dN g)).set_ 39 (CZ t)
theorem FI(w:World)(b o:Nat)(x0 x1 x2 x3:Value):Aa [b] w ((((w.setCell ⟨b,o,none⟩ x0).setCell ⟨b,o+1,none⟩ x1).setCell ⟨b,o+2,none⟩ x2).setCell ⟨b,o+3,none⟩ x3):=
 (((Ae w b o x0).trans (Ae _ b (o+1) x1)).trans (Ae _ b (o+2) x2)).trans (Ae _ b (o+3) x3)
theorem Ml(sb:Nat)(j:BC)(v:CV)(c:D2)(now left:Int)(hp:j.phase=4)(wb w:World)(hI:SI wb sb w v c)(h:A1 w sb j v now left Dh):
  Calls Tryz.prog 125 #[dJ (some ⟨sb,0,none⟩)] w (J2 wb sb w now left (E2 j c now left)):=by
 have HI:=lH hI;have HB:=lH h;rw [WP hp];have r:=(A1.lit h).rl;clear hI h hp;go_enter Tryz.func125,Tryz.ntmps125;by_cases h0:left=0
 ·subst h0
  go_wp2_with (fail)
  go_end0
  exact⟨v,rfl,A1.phase HB.out 5,HI.out.put HB.out (Ae _ _ _ _),Ae _ _ _ _⟩
 ·have f0:(left==0)=false:=by simpa using h0
  simp only [if_neg h0];go_wp2_with (fail)
  go_end0
  exact⟨v,rfl,A1.eff HB.out 1 j.slot j.gen ⟨#[]⟩,HI.out.put HB.out (FI _ sb 36 _ _ _ _),FI _ sb 36 _ _ _ _⟩
theorem Mj(sb:Nat)(j:BC)(v:CV)(c:D2)(now left:Int)(hp:j.phase=5)(wb w:World)(hI:SI wb sb w v c)(h:A1 w sb j v now left Dh):
  Calls Tryz.prog 126 #[dJ (some ⟨sb,0,none⟩)] w (J2 wb sb w now left (E2 j c now left)):=by
 have HI:=lH hI;have HB:=lH h;rw [WQ hp];have r:=(A1.lit h).rl;clear hI h hp;go_enter Tryz.func126,Tryz.ntmps126;go_wp2_with (fail)
 go_end0
 exact⟨v,rfl,A1.eff HB.out 2 0 0 j.reply,HI.out.put HB.out (FI _ sb 36 _ _ _ _),FI _ sb 36 _ _ _ _⟩
def SM(k:Int)(f n:Nat):MapEntry:={ key:=dH dN k,val:=.func (.func f) #[] #[],born:=n }
def Je:Array MapEntry:=#[SM 1 122 0,SM 2 123 1,SM 3 124 2,SM 4 125 3,SM 5 126 4]
theorem Jf(es:Array MapEntry)(c:Nat)(k:Int)(f:Nat)(hf:AV (.int .i64) (dH dN k) es.toList 0=some none)(w:World):
  (Instr.mapUpdate 151 (.map (some w.heap.size)) (dH dN k) (.func (.func f) #[] #[])).run Tryz.prog (w.alloc (.map es c)) = .ok () (w.alloc (.map (es.push (SM k f c)) (c+1))):=
 En Tryz.underlying151 Tryz.underlying3 rfl hf
theorem QD(w:World):Calls Tryz.prog 59 #[] w fun r w'=>r = dM (.map (some w.heap.size))∧w.alloc (.map Je 5)=w':=by
 have hm:=fun W=>run_makeMap (P:=Tryz.prog) 151 W;have h1:=Jf #[] 0 1 122 rfl w;have h2:=Jf (Je.extract 0 1) 1 2 123 rfl w;have h3:=Jf (Je.extract 0 2) 2 3 124 rfl w;have h4:=Jf (Je.extract 0 3) 3 4 125 rfl w;have h5:=Jf (Je.extract 0 4) 4 5 126 rfl w;simp only [Je,List.extract_toArray,List.extract_eq_take_drop,List.drop_zero,Nat.sub_zero,List.take_succ_cons,List.take_zero,By,AX,A6,Nat.reduceAdd] at h1 h2 h3 h4 h5;go_enter Tryz.func59,Tryz.ntmps59;go_wp2;go_ret;exact⟨rfl,rfl⟩
structure Ip(w:World):Prop where
 c:∃E,Kz E w
 n:∃E,Kn w E
 r:∃E,J0 w E
theorem Ip.keeps{w w':World}(h:Ip w)(hk:Aa [] w w'):Ip w':=⟨h.c.imp fun _ h=>h.keeps hk,h.n.imp fun _ h=>Kn.keep h hk,h.r.imp fun _ h=>h.keeps hk⟩
theorem Ip.s{w:World}(h:Ip w):IE w:=by
 obtain⟨E,h⟩:=h.c;exact⟨h.r.a.et,h.r.a.tab⟩
theorem QC(wb:World)(sb:Nat)(j:BC)(c:D2)(now left:Int)(hE:Ip wb)(hj:Mf j=true)(hjo:NO j)(hc:T4 c):
  ∃f,(∀(W:World) (b:Nat),W.heap[b]? = some (.map Je 5)→(Dx 151 (.map (some b)) (dH dN j.phase) false).run Tryz.prog W = .ok (.func (.func f) #[] #[]) W)∧(∀(W:World) args,(callFunc f args).run Tryz.prog W = .ok (.enter f args) W)∧
   ∀(w:World) (v:CV),SI wb sb w v c→A1 w sb j v now left Dh→Calls Tryz.prog f #[dJ (some ⟨sb,0,none⟩)] w (J2 wb sb w now left (E2 j c now left)):=by
 have hl:∀(k:Int) (f i:Nat),AV (.int .i64) (dH dN k) Je.toList 0=some (some (i,.func (.func f) #[] #[]))→∀(W:World) (b:Nat),W.heap[b]? = some (.map Je 5)→(Dx 151 (.map (some b)) (dH dN k) false).run Tryz.prog W = .ok (.func (.func f) #[] #[]) W:=
  fun k f i hf W b hb=>(CY Tryz.underlying151 Tryz.underlying3 hb bS hf).2
 obtain⟨_,_,h1,h2,hi0,hi1⟩:=(UF j).1 hj;have hid : -9223372036854775808≤j.req.id∧j.req.id≤9223372036854775807:=⟨by omega,by omega⟩;have hv:j.phase=1∨j.phase=2∨j.phase=3∨j.phase=4∨j.phase=5:=by omega
 rcases hv with h | h | h | h | h
 ·refine⟨122,by rw [h];exact hl _ _ _ rfl,fun W args=>enters_of Tryz.func122 bC rfl args W,fun w v hI hs=>?_⟩
  rw [WM h];obtain⟨E,hC⟩:=hE.c;exact(Mh E sb j v now left Dh hjo.1 wb w hC hI.kw (by have:=hI.lo;omega) hs).mono fun r w' ⟨h1,h2,h3⟩=>⟨v,h1,h2,hI.put hs h3,h3⟩
 ·refine⟨123,by rw [h];exact hl _ _ _ rfl,fun W args=>enters_of Tryz.func123 bC rfl args W,fun w v hI hs=>?_⟩
  rw [WN h];exact(NZ sb j v c now left Dh hid wb w hE.s hI.kw (by have:=hI.lo;omega) hI.m hs).mono fun r w' ⟨h1,h2,h3⟩=>⟨v,h1,h2,hI.put hs h3,h3⟩
 ·refine⟨124,by rw [h];exact hl _ _ _ rfl,fun W args=>enters_of Tryz.func124 bC rfl args W,fun w v hI hs=>?_⟩
  rw [WO h];obtain⟨E,hR⟩:=hE.r;obtain⟨eN,hN⟩:=hE.n;cases hZ:Cg c.done j.req.who j.req.id with
  | some t=>exact PZ sb j v c now left Dh t hZ wb w hI hs
  | none=>exact PY E eN sb j v c now left Dh ⟨hi0,hi1⟩ hjo.2 hc hZ wb w hE.s hR hN hI hs
 ·refine⟨125,by rw [h];exact hl _ _ _ rfl,fun W args=>enters_of Tryz.func125 bC rfl args W,fun w v hI hs=>Ml sb j v c now left h wb w hI hs⟩
 ·refine⟨126,by rw [h];exact hl _ _ _ rfl,fun W args=>enters_of Tryz.func126 bC rfl args W,fun w v hI hs=>Mj sb j v c now left h wb w hI hs⟩
theorem WG{α:Type}{enc:α→List Value}{w:World}{B L g c i n:Nat}{e:TypeId}(hn:∀x,(enc x).length=n){xs:List α}(hL:xs.length=L)(hi:i<L)(h:w.ownsRow B e n (dI (some ⟨g,0,none⟩) L c) L (xs.flatMap enc))(x:α):
  w.there g (i*n) n∧(w.setCells g (i*n) (enc x)).ownsRow B e n (dI (some ⟨g,0,none⟩) L c) L ((xs.set i x).flatMap enc):=by
 rcases h.2 with⟨h1,_⟩ | ⟨g',cap,cur,h1,hb,hg,hle,hmax,hsz,htk⟩
 ·cases h1
 injection h1 with h1 _ h3
 injection h1 with h1
 injection h1 with h1 _ _
 subst h1;subst h3;have hin:i*n+n≤L*n:=by rw [← Nat.succ_mul];exact BW n hi
 have hcn:L*n≤cur.size:=by rw [hsz];exact BW n hle
 have hbk:Blk w g e cur:=hg;have hF:(xs.flatMap enc).length=L*n:=h.1;have hset:(xs.set i x).flatMap enc=(xs.flatMap enc).take (i*n)++enc x++(xs.flatMap enc).drop ((i+1)*n):=by
  rw [List.set_eq_take_append_cons_drop,if_pos bB,Bt,List.flatMap_cons,Hy hn xs i bB,Hx hn xs (i+1) bB,CO]
 have hlen:((xs.set i x).flatMap enc).length=L*n:=by
  rw [hset,Ag,Ag,A7,Bi,hF,hn,Nat.succ_mul];omega
 refine⟨Blk.there hbk _ _ bB,hlen,.inr ⟨g,c,Im cur (i*n) (enc x),rfl,hb,Blk.puts (enc x) (i*n) hbk,hle,hmax,by rw [Lx,hsz],?_⟩⟩;apply List.ext_getElem?;intro p;have hcur:∀q,q<L*n→cur[q]? = (xs.flatMap enc)[q]?:=fun q hq=>by
  rw [← htk,Ds,if_pos hq,Array.getElem?_toList]
 rw [Ds,hset];by_cases hp:p<L*n
 ·rw [if_pos hp,Array.getElem?_toList,JF _ _ _ _ YJ]
  by_cases h1:i*n≤p∧p<i*n+(enc x).length
  ·rw [if_pos h1,CO,Dc aE,List.getElem?_append_left aE,A7,hF,DP bB]
  ·rw [if_neg h1,hcur p hp]
   rw [hn] at h1;by_cases h2:p<i*n
   ·rw [CO,List.getElem?_append_left aE,Ds,if_pos h2]
   ·rw [Dc (by rw [Ag,A7,hF,hn];omega),List.getElem?_drop,Ag,A7,hF,hn,DP bB,Nat.succ_mul]
    congr 1;omega
 ·rw [if_neg hp]
  exact(List.getElem?_eq_none (by rw [← hset,hlen];omega)).symm
theorem Jh{fn:Func}{p q u:Tmp}{tp tq:TypeId}(h:fn.results=#[.cell p tp,.cell q tq,.tmp u])(tmps:Array Value)(P:Program)(w:World):
  (results fn tmps).run P w=((asAddr (tmps.getD p undef)).run P w).andThen fun a w₁=>((loadVar tp a).run P w₁).andThen fun v w₂=>((asAddr (tmps.getD q undef)).run P w₂).andThen fun b w₃=>((loadVar tq b).run P w₃).andThen fun x w₄=>.ok (.tuple #[v,x,tmps.getD u undef]) w₄:=by
 simp only [results,h];simp [Sem.run_bind,AI]
theorem Ge{P:Program}{fn:Func}{p q u:Tmp}{tp tq:TypeId}(h:fn.results=#[.cell p tp,.cell q tq,.tmp u])(tmps:Array Value)(w:World)(g1 g2:Nat)(t1 t2:TypeId)(cs ds:Array Value)(d1 d2:TypeDesc)(y:Value)
 (hp:tmps.getD p undef = dJ (some ⟨g1,0,none⟩))(hq:tmps.getD q undef = dJ (some ⟨g2,0,none⟩))(hy:tmps.getD u undef=y)(hb1:Blk w g1 t1 cs)(hb2:Blk w g2 t2 ds)
 (hu1:P.underlying tp=some d1)(hd1:(match d1 with | .struct _ | .array _ _=>true | _=>false)=true)(hi1:(P.info? tp).map (·.size)=some cs.size)
 (hu2:P.underlying tq=some d2)(hd2:(match d2 with | .struct _ | .array _ _=>true | _=>false)=true)(hi2:(P.info? tq).map (·.size)=some ds.size):
  (results fn tmps).run P w = .ok (.tuple #[.agg cs,.agg ds,y]) w:=by
 rw [Jh h,hp,hq,hy];simp [asAddr,run_loadVar_row w g1 t1 tp cs (0,0) d1 hb1 hu1 hd1 hi1,run_loadVar_row w g2 t2 tq ds (0,0) d2 hb2 hu2 hd2 hi2,AI]
def effA(e:Gm):Array Value:=#[dH dN e.kind,dH dN e.slot,dH dN e.gen,CZ e.text]
theorem I0(e:Gm):(Tryz.prog.info? 74).map (·.size)=some (effA e).size:=by
 have:(Tryz.prog.info? 74).map (·.size)=some 4:=by kernel_rfl
 exact this
theorem IT(e:Gm):(effA e).all (·.oneCell')=true:=by simp [effA,Value.oneCell']
theorem A1.jobs{w:World}{sb:Nat}{j:BC}{v:CV}{now left:Int}{e:Gm}(h:A1 w sb j v now left e):w.rangeAt sb 0 (jobA j).toList:=fun i u hu=>by
 rw [BI,A1.cell h i];have he:I9 j (dI v.oa v.on v.oc) (dI v.r.s.ga v.gn v.r.s.gc) (dI v.r.s.ua v.un v.r.s.uc) (dI v.r.s.fa v.fn v.r.s.fc) (dI v.r.la v.ln v.r.lc) (dH dN v.seq) (dI v.pa v.pn v.pc) (dH dN v.nx) (dI v.ja v.jn v.jc) (dI v.da v.dn v.dc) now left e=jobA j++(ctlA v++#[dH dN now,dH dN left]++effA e):=by kernel_rfl
 rw [Array.getElem?_toList] at hu;rw [he,Array.getElem?_append_left (Aj.1 hu).1];exact hu
theorem A1.put{w:World}{sb:Nat}{j:BC}{v:CV}{now left:Int}{e:Gm}(h:A1 w sb j v now left e)(a:Option Addr)(n k:Nat):A1 (w.setCell ⟨sb,32,none⟩ (dI a n k)) sb j { v with ja:=a,jn:=n,jc:=k } now left e:=Blk.set_ h 32 (dI a n k)
def PD(w:World)(R:D2×Gm×Int):Ending→World→Prop:=fun r w'=>∃v,r = dM (.tuple #[dK (ctlA v),dK (effA R.2.1),dH dN R.2.2])∧Cm w' v R.1∧E9 w.heap.size v R.1∧Aa [] w w'
theorem Sc(v:CV)(c:D2)(conn now left:Int)(w:World)(hE:Ip w)(h:Cm w v c):
  Calls Tryz.prog 24 #[.agg (C_ v),.int .i64 conn,.int .i64 now,.int .i64 left] w (PD w (Jn c conn now left)):=by
 obtain⟨w0,hw0⟩:=eX (((w.alloc (.cells (C_ v) 36)).alloc (.cells K3.k 36)).alloc (.cells #[.int .i64 0,.int .i64 0,.int .i64 0,.string ⟨#[]⟩] 74));have hk0:Aa [] w w0:=by rw [← hw0];exact(((Aa.refl [] w).alloc _).alloc _).alloc _
 have hb0:Blk w0 w.heap.size 36 (C_ v):=by rw [← hw0];exact((Blk.new w _ _).alloc _).alloc _
 have HB1:Hid (Blk w0 (w.heap.size+1) 36 (ctlA cv0)):=lH (by rw [← hw0];exact(Aq _ _ _ _ bA).alloc _);have HB2:Hid (Blk w0 (w.heap.size+1+1) 74 (effA Dh)):=lH ZV;have q:=hb0.rl;have HB0:=lH hb0;have HK0:=lH hk0;have HC:=KJ (.slice v.oa v.on v.oc) (.slice v.r.s.ga v.gn v.r.s.gc) (.slice v.r.s.ua v.un v.r.s.uc) (.slice v.r.s.fa v.fn v.r.s.fc) (.slice v.r.la v.ln v.r.lc) (.int .i64 v.seq) (.slice v.pa v.pn v.pc) (.int .i64 v.nx) (.slice v.da v.dn v.dc) v.ja v.jn v.jc c.jobs h.jn (by have:=h.jl;omega) conn w0 (h.j.keeps hk0);obtain⟨b,hb⟩:=eX (Nr c);obtain⟨Z,hZ⟩:=eX (DU c.jobs conn);obtain⟨R,hR⟩:=eX (Jn c conn now left);rw [hR];unfold Jn at hR;rw [hb,hZ] at hR;rw [hZ] at HC;have HR:=lH hR;have H:=lH h;have HB:=lH hb;have HZ:=lH hZ;have HE:Hid (∀W,Aa [] w W→Ip W):=lH fun W hk=>hE.keeps hk;have HFIN:Hid (∀(k:Int) (W:World) (tmps:Array Value),Aa [] w0 W→tmps.getD 8 undef = .pointer (some ⟨w.heap.size+1,0,none⟩)→tmps.getD 9 undef = .pointer (some ⟨w.heap.size+1+1,0,none⟩)→tmps.getD 10 undef = .int .i64 k→
   R=(FX,Dh,k)→bodyPost Tryz.prog Tryz.f24 (PD w R) .ret { tmps:=tmps,defers:=[] } ((W.setRow (w.heap.size+1) (ctlA cv0)).setRow (w.heap.size+1+1) (effA Dh))):=lH (by
  rintro k W tmps hk h8 h9 h10 rfl;have hb1:=(HB1.out.keeps hk bA).row (ctlA cv0);have hb2:=((HB2.out.keeps hk bA).keeps (Bh _ (w.heap.size+1) (ctlA cv0)) bA).row (effA Dh);refine bodyPost_ret (v:=.tuple #[.agg (ctlA cv0),.agg (effA Dh),.int .i64 k]) (Ge rfl _ _ (w.heap.size+1) (w.heap.size+1+1) 36 74 (ctlA cv0) (effA Dh) _ _ _ h8 h9 h10 (hb1.keeps (Bh _ _ _) bA) hb2 Tryz.underlying36 rfl (AQ _) Tryz.underlying74 rfl (I0 _)) rfl ⟨cv0,rfl,Fu _,Fv _,?_⟩;exact((HK0.out.trans hk).own (Bh _ _ _) bF).own (Bh _ _ _) bF)
 clear hk0 hb0 h hb hZ hR hE;go_enter Tryz.func24,Tryz.ntmps24;go_wp2_with (fail);refine HC.mono ?_;rintro e w1 ⟨rfl,hk1⟩;have HK1:=lH hk1;have HC0:=lH (HB0.out.keeps hk1 bA);clear hw0 hk1 HC q;have q:=HC0.out.rl;go_wp2_with (fail);refine(KE v c b HB.out _ (H.out.keeps (HK0.out.trans HK1.out))).mono ?_;rintro e w2 ⟨rfl,hk2⟩;have HK2:=lH (HK1.out.trans hk2);have HD0:=lH (HC0.out.keeps hk2 bA);have HZ1:=lH (HB1.out.keeps HK2.out bA);have HZ2:=lH ((HB2.out.keeps HK2.out bA).keeps (Bh _ (w.heap.size+1) (ctlA cv0)) bA);clear hk2 q HC0;have q:=HD0.out.rl;cases b with
 | false=>
  go_wp2_with (first | (refine wpList_store_row bD 36 _ _ bD (w.heap.size+1) (ctlA cv0) bD bD 36 (ctlA cv0) HZ1.out (AQ cv0) rfl (Bl cv0) ?_) | (refine wpList_store_row bD 74 _ _ bD (w.heap.size+1+1) (effA Dh) bD bD 74 (effA Dh) HZ2.out (I0 Dh) rfl (IT Dh) ?_));exact HFIN.out 190 w2 _ HK2.out rfl rfl rfl (by rw [← HR.out];rfl)
 | true=>
  have hcase:now<0∨(¬now<0∧1000000000000<now)∨(¬now<0∧¬1000000000000<now∧left<0)∨(¬now<0∧¬1000000000000<now∧¬left<0):=by omega
  rcases hcase with h1 | ⟨h1,h2⟩ | ⟨h1,h2,h3⟩ | ⟨h1,h2,h3⟩
  rotate_left 3
  ·have HA:Hid (¬(now<0∨1000000000000<now∨left<0)):=lH bB
   cases Z with
   | none=>
    simp only [Option.getD_none,Option.isSome_none];go_wp2_with (first | (refine wpList_store_row bD 36 _ _ bD (w.heap.size+1) (ctlA cv0) bD bD 36 (ctlA cv0) HZ1.out (AQ cv0) rfl (Bl cv0) ?_) | (refine wpList_store_row bD 74 _ _ bD (w.heap.size+1+1) (effA Dh) bD bD 74 (effA Dh) HZ2.out (I0 Dh) rfl (IT Dh) ?_));exact HFIN.out 192 w2 _ HK2.out rfl rfl rfl (by rw [← HR.out,if_pos True.intro,if_neg HA.out])
   | some i=>
    simp only [Option.getD_some,Option.isSome_some];have hi:i<c.jobs.length:=SP HZ.out;have HI:=lH hi;obtain⟨u,hu⟩:∃u,c.jobs[i]? = some u:=⟨_,List.getElem?_eq_getElem hi⟩;have hgd:c.jobs.getD i job0=u:=by rw [List.getD_eq_getElem?_getD,hu];rfl
    have HCO:=lH ((Ui c).1 HB.out);have hum:u∈c.jobs:=List.mem_of_getElem? hu;have HUJ:=lH (And.intro (HCO.out.job u hum) (H.out.js u hum));obtain⟨S,hS⟩:=eX (E2 u c now left);have HS:=lH hS;have HR3:Hid (({ S.2.1 with jobs:=if S.2.2.kind=2 then(c.jobs.set i S.1).eraseIdx i else c.jobs.set i S.1 },S.2.2,(0:Int))=R):=lH (by rw [← HR.out,if_pos rfl,if_neg HA.out];simp only [hgd,hS]);have HSO:Hid (NO S.1):=lH (by
     have:=WR (j:=u) (c:=c) (now:=now) (left:=left) HUJ.out.2.2;rw [hS] at this;exact⟨by rw [this.2];exact HUJ.out.2.1,this.1⟩)
    have HU:=lH hu;have HJN:Hid (c.jobs.length=v.jn∧v.jn≤900):=lH ⟨H.out.jn,H.out.jl⟩;clear hi hu hgd hS hum;go_wp2_with (fail);refine(Om v c _ (H.out.keeps (HK0.out.trans HK2.out))).mono ?_;rintro e w3 ⟨v',rfl,hm,hjn,hrow,hjb,hno,hk3⟩;have HD3:=lH (HD0.out.keeps hk3 bA);obtain⟨w4,hw4⟩:=eX (w3.setRow w.heap.size (ctlA v'));have hk4:Aa [w.heap.size] w3 w4:=by rw [← hw4];exact Bh _ _ _
    have hlt:w.heap.size<w2.heap.size:=HD0.out.lt;have HB4:Hid (Blk w4 w.heap.size 36 (C_ v')):=lH (by rw [← hw4];exact HD3.out.row _);have HRW:Hid (w4.ownsRow w2.heap.size 78 24 (.slice v'.ja v'.jn v'.jc) v'.jn (c.jobs.flatMap encJob)):=lH (Ak hrow hk4 (fun g hg hm'=>by have:=(hrow.lt g hg).1;have:=List.mem_singleton.1 hm';omega));have HM4:Hid (Cm w4 v' c):=lH (hm.stay (Q:=(· < w2.heap.size)) hno (DE hrow (fun g hg hq=>by have:=(hrow.lt g hg).1;omega)) hk4 (fun y hy=>by obtain rfl:=List.mem_singleton.1 hy;exact hlt) (Jy.blk HD3.out bE bE));have HK4:Hid (Aa [] w w4):=lH (((HK0.out.trans HK2.out).trans hk3).own hk4 bF);have HY1:Hid (Blk w4 (w.heap.size+1) 36 K3.k):=lH (((HB1.out.keeps HK2.out bA).keeps hk3 bA).keeps hk4 bA);have HY2:Hid (Blk w4 (w.heap.size+1+1) 74 #[.int .i64 0,.int .i64 0,.int .i64 0,.string ⟨#[]⟩]):=lH (((HB2.out.keeps HK2.out bA).keeps hk3 bA).keeps hk4 bG);have HJB:=lH hjb;have HJ2:=lH hjn;have HLT:=lH hlt;have HNO:=lH hno;have HLW:Hid (∀y,y<w.heap.size+3→y<w2.heap.size):=lH (fun y hy=>by have:=(HB2.out.keeps HK2.out bA).lt;omega);clear hm hjn hrow hjb hno hk3 hk4 hlt h1 h2 h3;go_upto_region 9 with(refine wpList_store_row bD 36 _ _ bD w.heap.size (ctlA v') bD bD 36 (ctlA v) HD3.out (AQ v') rfl (Bl v') ?_)
    simp only [Act.put];rw [hw4];clear hw4 q;obtain⟨g1,o1,u1,hja,hg1,hx1,hat1⟩:=HM4.out.j.at_k (k:=i) HI.out;obtain rfl:u1=u:=by have:=HU.out;rw [hx1] at this;injection this
    have HQ:Hid (∀W,Aa [] w4 W→W.rangeAt g1 (o1+i*24) (jobA u1).toList):=lH (fun W hk=>Rx (fun j x hx=>(hk.cell (p:=⟨g1,o1+i*24+j,none⟩) hg1 bA).trans (hat1 j x hx)));have q:=HB4.out.rl;have i1:(0:Int)≤(i:Int):=by omega
    have i2:(i:Int)<(v'.jn:Int):=by have:=HI.out;have:=HJN.out.1;have:=HJ2.out;omega
    clear hx1 hat1;go_cut [13] (fun x wc=>∃sb,x = .pointer (some ⟨sb,0,none⟩)∧Hid (A1 wc sb u1 v' now left Dh)∧Hid (Aa [] w4 wc)∧Hid (w4.heap.size≤sb))
    case first=>
     refine wp_region_held_drew (S:=(Aa [] w4)) bC (by((try dsimp only);(repeat(with_reducible first | exact Aa.refl _ _ | refine Aa.drew ?_ | refine Aa.alloc ?_ _)))) (fun hHeld=>?_);refine rK 0 ?_;refine rK 1 ?_;refine rK 2 ?_;refine rK 3 ?_;refine rQ 4 ?_ (hy:=by(intro wS hSw;refine(FP (P:=Tryz.prog) 78 _ bD g1 (o1+i*24) bD (jobA u1) _ (HQ.out wS hSw) Tryz.underlying78 rfl (Gx _)).trans ?_;with_reducible rfl));refine rK 5 ?_;refine rK 6 ?_;refine rK 7 ?_;refine rQ 8 ?_ (hy:=by(intro wS hSw;refine Eq.trans (b:=.ok (.value (.agg (I9 u1 (.slice v'.oa v'.on v'.oc) (.slice v'.r.s.ga v'.gn v'.r.s.gc) (.slice v'.r.s.ua v'.un v'.r.s.uc) (.slice v'.r.s.fa v'.fn v'.r.s.fc) (.slice v'.r.la v'.ln v'.r.lc) (.int .i64 v'.seq) (.slice v'.pa v'.pn v'.pc) (.int .i64 v'.nx) (.slice (some ⟨g1,o1,none⟩) v'.jn v'.jc) (.slice v'.da v'.dn v'.dc) now left Dh))) wS) ?_ ?_;(· kernel_rfl);(· with_reducible rfl)));refine rC 9 fun K hK=>?_;go_simp
     (try clear rH);refine rP hK (by((try dsimp only);(repeat(with_reducible first | exact Aa.refl _ _ | refine Aa.drew ?_ | refine Aa.alloc ?_ _)))) fun rH hHeld=>?_;clear hK K
     refine rK 10 ?_;refine wpAnyH_done bC ?_ _
     (go_wp2_with (fail);go_meet;exact⟨w4.heap.size,rfl,lH (by unfold A1;rw [hja];exact Blk.drew (Blk.new w4 _ _)),lH hHeld,lH (Nat.le_refl _)⟩)
    case rest=>
     obtain⟨sb,rfl,HST,HKC,HSB⟩:=hcut
     rename World=>wc
     have hz4:w.heap.size+3≤w4.heap.size:=by have:=HY2.out.lt;omega
     have HSI:Hid (SI w sb wc v' c):=lH ⟨HK4.out.trans HKC.out,by have:=HSB.out;omega,HM4.out.keeps HKC.out,
      ⟨(HM4.out.o.no HM4.out.on (Q:=(· = sb)) aC).and2 (HNO.out.o.mono (Q:=(· < w.heap.size+3)) HLW.out) (fun _ h=>h),
       (HM4.out.r.later (Q:=(· = sb)) aC).and2 (HNO.out.r.mono (Q:=(· < w.heap.size+3)) HLW.out) (fun _ h=>h),
       (HM4.out.d.no HM4.out.dn (Q:=(· = sb)) aC).and2 (HNO.out.d.mono (Q:=(· < w.heap.size+3)) HLW.out) (fun _ h=>h)⟩,
      DE HRW.out (fun g hg hq=>by have h1:=(HRW.out.lt g hg);have h2:=HSB.out;rcases hq with h | h;(· omega);(· have:=HLW.out g h;omega))⟩
     obtain⟨f,hlk,hent,hcall⟩:=QC w sb u1 c now left (HE.out w (Aa.refl [] w)) HUJ.out.1 HUJ.out.2 HCO.out;rw [HS.out] at hcall;have HENT:=lH hent;have HCALL:=lH hcall;have r:=(A1.lit HST.out).rl;clear q i1 i2 hja hg1 hent hcall hz4;go_upto_region 10 with(fail)
     go_cut [14] (fun x wd=>x = .func (.func f) #[] #[]∧Hid (Aa [] wc wd))
     case first=>
      refine wp_region_held_drew (S:=(Aa [] wc)) bC ZG (fun hHeld=>?_);refine rK 1 ?_;refine rK 2 ?_;refine rK 3 ?_;refine rK 4 ?_;refine rK 5 ?_;refine rC 0 fun K hK=>?_;go_simp
      (refine(QD _).mono ?_;rintro er w5 ⟨rfl,hw5⟩;have hk5:Aa [] wc w5:=(by rw [← hw5];exact((Aa.refl [] wc).drew).alloc _);have hl5:=hlk w5 wc.heap.size (by subst hw5;exact heap_alloc_new _ _);clear hw5)
      (try clear rH);refine rP hK ZG fun rH hHeld=>?_;clear hK K
      refine rC 6 fun K hK=>?_;go_simp
      (try clear rH);refine rP hK ZG fun rH hHeld=>?_;clear hK K
      refine rK 7 ?_;refine wpAnyH_done bC ?_ _
      (go_wp2_with (fail);go_meet;exact⟨rfl,lH hk5⟩)
     case rest=>
      obtain⟨rfl,HKD⟩:=hcut
      rename World=>wd
      clear r hlk;have HSD:Hid (A1 wd sb u1 v' now left Dh):=lH (A1.keeps HST.out HKD.out bA);go_wp2_with (fail);rw [HENT.out,Oper.upon_enter];refine(HCALL.out _ v' (HSI.out.keeps HKD.out) HSD.out).mono ?_;rintro er w7 ⟨v7,rfl,hb7,hi7,hk7⟩;have HST7:=lH hb7;have HSI7:=lH hi7;have HK7:Hid (Aa [sb] w4 w7):=lH (((HKC.out.trans HKD.out).mono bA).trans hk7);have hsz:w4.heap.size≤sb:=HSB.out;have hb0:w.heap.size<w4.heap.size:=HB4.out.lt;have HB7:=lH (HB4.out.keeps HK7.out bG);have HY1':=lH (HY1.out.keeps HK7.out (by have:=HY1.out.lt;simp;omega));have HY2':=lH (HY2.out.keeps HK7.out (by have:=HY2.out.lt;simp;omega));have HRW7:=lH (Ak HRW.out HK7.out (fun g hg hm'=>by have:=(HRW.out.lt g hg).2;have:=List.mem_singleton.1 hm';omega));have HJL:Hid (c.jobs.length=v'.jn∧v'.jn≤900):=lH ⟨HJN.out.1.trans HJ2.out.symm,by have:=HJN.out.2;have:=HJ2.out;omega⟩;have q:=HB7.out.rl;clear hb7 hi7 hk7 hsz hb0;go_wp2_with (fail);refine(Rl v'.ja v'.jc c.jobs v'.jn HJL.out.1 (by have:=HJL.out.2;omega) _ (AJ.row D8 (by rw [HJL.out.1];exact HRW7.out))).mono ?_;rintro er w8 ⟨a8,k8,rfl,hs8,ho8,hk8⟩;obtain⟨g8,rfl⟩:∃g8,a8=some ⟨g8,0,none⟩:=by
       rcases ho8.2 with⟨_,h2⟩ | ⟨g,cap,cur,h1,_⟩
       ·have:=HJL.out.1;have:=HI.out;omega
       ·injection h1 with h1 _ _
        exact⟨g,h1⟩
      have hput:=WG D8 HJL.out.1 (i:=i) (by have:=HJL.out.1;have:=HI.out;omega) ho8 S.1;have hg8:=ho8.lt g8 rfl;have HTH:=lH hput.1;have HROW:=lH hput.2;have HST8:Hid (A1 w8 sb S.1 v7 now left S.2.2):=lH (A1.keeps HST7.out hk8 bA);have HJR:=lH (A1.jobs HST8.out);have hsb8:sb<w7.heap.size:=Blk.lt HST7.out;have HG8:Hid (w7.heap.size≤g8∧g8<w8.heap.size∧¬sb=g8):=lH ⟨hg8.1,hg8.2,by omega⟩;have HK8:=lH hk8;obtain⟨w9,hw9⟩:=eX (w8.setCells g8 (i*24) (jobA S.1).toList);have HR9:Hid (w9.ownsRow w7.heap.size 78 24 (.slice (some ⟨g8,0,none⟩) v'.jn k8) v'.jn ((c.jobs.set i S.1).flatMap encJob)):=lH (by rw [← hw9];exact hput.2);have HK9:Hid (Aa [g8] w8 w9):=lH (by rw [← hw9];exact AM _ _ _ _);have HK79:Hid (Aa [] w7 w9):=lH (hk8.own HK9.out (fun y hy=>by obtain rfl:=List.mem_singleton.1 hy;exact hg8.1));have HST9:Hid (A1 w9 sb S.1 v7 now left S.2.2):=lH (A1.keeps HST7.out HK79.out bA);have r:=(A1.lit HST8.out).rl;have i1:(0:Int)≤(i:Int):=by omega
      have i2:(i:Int)<(v'.jn:Int):=by have:=HI.out;have:=HJL.out.1;omega
      obtain⟨bk,hbk⟩:=eX ((S.2.2.kind==2));have HBK:=lH hbk;clear hs8 ho8 hk8 hput hg8 hsb8 q hbk;go_upto_region 14 with(first | (refine BV bD 78 _ bD sb 0 bD (jobA S.1) _ HJR.out Tryz.underlying78 rfl (Gx _) ?_) | (refine wpList_store_mid bD 78 _ _ bD g8 (i*24) (jobA S.1) bD bD HTH.out (Gx _) (Ku _) ?_))
      simp only [Act.put];rw [hw9];clear hw9 r;have r:=(A1.lit HST9.out).rl;have hbk:=HBK.out;have hw1:IntKind.i64.wrap ((i:Int)+1)=(i:Int)+1:=IntWalk.i64_in _ (by have:=HJL.out.2;omega);obtain⟨JL,hJL⟩:=eX ((if S.2.2.kind=2 then(c.jobs.set i S.1).eraseIdx i else c.jobs.set i S.1));rw [hJL] at HR3;have HJQ:=lH hJL;clear hJL;go_upto_if 83 with(fail)
      clear hbk;go_cut [15] (fun x we=>∃n k,x = .slice (some ⟨g8,0,none⟩) n k∧Hid (NP we (some ⟨g8,0,none⟩) k JL∧JL.length=n∧n≤v'.jn)∧Hid (Aa [g8] w9 we))
      case first=>
       cases bk
       ·have hE:JL=c.jobs.set i S.1:=by rw [← HJQ.out,if_neg (by simpa using HBK.out)]
        have HEQ:=lH hE;clear hE;go_wp2_with (fail);go_meet;exact⟨v'.jn,k8,rfl,lH ⟨by rw [HEQ.out];exact AJ.row D8 (by rw [List.length_set,HJL.out.1];exact HR9.out),by rw [HEQ.out,List.length_set,HJL.out.1],Nat.le_refl _⟩,lH (Aa.refl _ _)⟩
       ·have hE:JL=(c.jobs.set i S.1).eraseIdx i:=by rw [← HJQ.out,if_pos (by simpa using HBK.out)]
        have HEQ:=lH hE;clear hE;go_wp2_with (fail);refine(Wo (c.jobs.set i S.1) v'.jn i g8 k8 w7.heap.size (by rw [List.length_set,HJL.out.1]) bB (by have:=HJL.out.2;omega) _ HR9.out).mono ?_;rintro er w5 ⟨rfl,hs5,hk5⟩;have HS5:=lH hs5;have HK5:=lH hk5;clear hs5 hk5;go_wp2_with (fail);go_meet;exact⟨v'.jn - 1,k8,rfl,lH ⟨by rw [HEQ.out];exact HS5.out,by rw [HEQ.out,List.length_eraseIdx,List.length_set,HJL.out.1,if_pos bB],by omega⟩,HK5⟩
      case rest=>
       obtain⟨n,k,rfl,HJM,HKE⟩:=hcut
       rename World=>we
       clear r;have HKE0:Hid (Aa [] w7 we):=lH (HK79.out.own HKE.out (fun y hy=>by obtain rfl:=List.mem_singleton.1 hy;exact HG8.out.1));have HSTE:Hid (A1 we sb S.1 v7 now left S.2.2):=lH (A1.keeps HST7.out HKE0.out bA);obtain⟨v8,hv8⟩:∃v8:CV,{ v7 with ja:=some ⟨g8,0,none⟩,jn:=n,jc:=k } = v8:=⟨_,rfl⟩;obtain⟨wr,hwr⟩:=eX (we.setCell ⟨sb,32,none⟩ (.slice (some ⟨g8,0,none⟩) n k));have HSTR:Hid (A1 wr sb S.1 v8 now left S.2.2):=lH (by rw [← hwr,← hv8];exact A1.put HSTE.out _ n k);have HKR:Hid (Aa [sb] w7 wr):=lH ((HKE0.out.mono bA).trans (by rw [← hwr];exact Ae _ sb 32 _));have hz:=HSI7.out.lo;have HZ7:Hid (w.heap.size+3≤w4.heap.size∧w4.heap.size≤sb∧sb<w7.heap.size):=lH ⟨by have:=HY2.out.lt;omega,HSB.out,Blk.lt HST7.out⟩;have HYR1:=lH (HY1'.out.keeps HKR.out bG);have HYR2:=lH (HY2'.out.keeps HKR.out bG);have HFIN2:Hid (∀W,Aa [w.heap.size+1,w.heap.size+1+1] wr W→PD w R (.returned (.tuple #[.agg (ctlA v8),.agg (effA S.2.2),.int .i64 0])) W):=lH (fun W hk=>by
        have hk7:Aa [sb,w.heap.size+1,w.heap.size+1+1] w7 W:=(HKR.out.mono bA).trans (hk.mono (by intro y hy;simp only [List.mem_cons,List.not_mem_nil,or_false] at hy ⊢;omega));have hkw:Aa [sb,w.heap.size+1,w.heap.size+1+1] we W:=((Ae we sb 32 (.slice (some ⟨g8,0,none⟩) n k)).mono bA).trans ((by rw [hwr];exact hk.mono (by intro y hy;simp only [List.mem_cons,List.not_mem_nil,or_false] at hy ⊢;omega)));have hz7:=HZ7.out;have hg8:=HG8.out;have hjm:NP W (some ⟨g8,0,none⟩) k JL:=HJM.out.1.keepsN hkw (fun _ g o e hm'=>by
         injection e with e;injection e with e _ _
         subst e;simp only [List.mem_cons,List.not_mem_nil,or_false] at hm';omega)
        have hjs:∀x∈JL,NO x:=fun x hx=>by
         have hx2:x∈c.jobs.set i S.1:=by
          rw [← HJQ.out] at hx;split at hx
          ·exact List.mem_of_mem_eraseIdx hx
          ·exact hx
         rcases List.mem_or_eq_of_mem_set hx2 with h | h
         ·exact H.out.js x h
         ·rw [h];exact HSO.out
        have hoff:Jy w7 [sb,w.heap.size+1,w.heap.size+1+1]:=fun y hy=>by
         simp only [List.mem_cons,List.not_mem_nil,or_false] at hy;rcases hy with rfl | rfl | rfl
         ·exact Lm HST7.out y bA
         ·exact Jy.blk HY1'.out bE bE _ bA
         ·exact Jy.blk HY2'.out bE bE _ bA
        have hM:=HSI7.out.m.jobs HSI7.out.no hk7 (fun y hy=>by simp only [List.mem_cons,List.not_mem_nil,or_false] at hy;show y=sb∨_;omega) hoff hjm HJM.out.2.1 (by have:=HJM.out.2.2;have:=HJL.out.2;omega) hjs;rw [hv8] at hM;have hno:E9 w.heap.size { v7 with ja:=some ⟨g8,0,none⟩,jn:=n,jc:=k } { S.2.1 with jobs:=JL }:=
         ⟨⟨HSI7.out.no.o.mono (fun y (hy:y<_)=>.inr bB),HSI7.out.no.r.mono (fun y (hy:y<_)=>.inr bB),HSI7.out.no.d.mono (fun y (hy:y<_)=>.inr bB)⟩,fun _ g o e (hq:g<_)=>by
          injection e with e;injection e with e _ _
          omega⟩
        rw [hv8] at hno;refine⟨v8,by rw [← HR3.out],by rw [← HR3.out];exact hM,by rw [← HR3.out];exact hno,?_⟩;exact(((HK4.out.own HK7.out (fun y hy=>by obtain rfl:=List.mem_singleton.1 hy;omega)).own HKR.out (fun y hy=>by obtain rfl:=List.mem_singleton.1 hy;omega)).own hk bF))
       have r:=(A1.lit HSTE.out).rl;have hsb1:¬sb=w.heap.size+1:=by omega
       have hsb2:¬sb=w.heap.size+1+1:=by omega
       clear hz hv8;go_step;go_step;go_upto_region 17 with(fail)
       clear hwr r;have r:=(A1.lit HSTR.out).rl;refine wp_region_held_drew (S:=(Aa [w.heap.size+1,w.heap.size+1+1] wr)) bC ZJ (fun hHeld=>?_);refine rK 0 ?_;refine rK 1 ?_;refine rK 2 ?_;refine rK 3 ?_;refine rK 4 ?_;refine rK 5 ?_;refine rK 6 ?_;refine rK 7 ?_;refine rC 8 fun K hK=>?_
       (refine E5 36 _ _ bD (w.heap.size+1) (ctlA v8) bD bD 36 K3.k (Blk.drew HYR1.out) rfl (AQ _) (Bl _) ?_;intro wS HRB hkS;have hkS':Aa [w.heap.size+1,w.heap.size+1+1] wr wS:=((Aa.refl _ wr).drew).trans (hkS.mono bA))
       (try clear rH);refine rP hK ZJ fun rH hHeld=>?_;clear hK K
       refine rC 9 fun K hK=>?_
       (refine E5 74 _ _ bD (w.heap.size+1+1) (effA S.2.2) bD bD 74 #[.int .i64 0,.int .i64 0,.int .i64 0,.string ⟨#[]⟩] ((Blk.drew HYR2.out).keeps hkS bA) rfl (I0 _) (IT _) ?_;intro wT HAB hkT;have hkT':Aa [w.heap.size+1,w.heap.size+1+1] wr wT:=hkS'.trans (hkT.mono bA))
       (try clear rH);refine rP hK ZJ fun rH hHeld=>?_;clear hK K
       refine rK 10 ?_;refine wpAnyH_done bC ?_ _
       (go_wp2_with (fail);exact bodyPost_ret (v:=.tuple #[.agg (ctlA v8),.agg (effA S.2.2),.int .i64 0]) (Ge rfl _ _ (w.heap.size+1) (w.heap.size+1+1) 36 74 (ctlA v8) (effA S.2.2) _ _ _ rfl rfl rfl (HRB.keeps hkT bA) HAB Tryz.underlying36 rfl (AQ _) Tryz.underlying74 rfl (I0 _)) rfl (HFIN2.out wT hkT'))
  all_goals
   have HA:Hid (now<0∨1000000000000<now∨left<0):=lH bB;go_wp2_with (first | (refine wpList_store_row bD 36 _ _ bD (w.heap.size+1) (ctlA cv0) bD bD 36 (ctlA cv0) HZ1.out (AQ cv0) rfl (Bl cv0) ?_) | (refine wpList_store_row bD 74 _ _ bD (w.heap.size+1+1) (effA Dh) bD bD 74 (effA Dh) HZ2.out (I0 Dh) rfl (IT Dh) ?_));exact HFIN.out 2 w2 _ HK2.out rfl rfl rfl (by rw [← HR.out,if_pos True.intro,if_pos HA.out])
end
end Go.Proofs.YtcjdkbgdahgjbaaGreatDoor
