/- Steps of the proof: RegX, RegY, RegZ, CtA. -/
import Derived.Test.YtcjdkbgdahgjbaaGreatDoorK0
import Derived.Test.YtcjdkbgdahgjbaaGreatDoorKak
import Derived.Test.YtcjdkbgdahgjbaaGreatDoorKao
set_option maxRecDepth 100000
set_option maxHeartbeats 8000000
set_option linter.all false
namespace Go.Proofs.YtcjdkbgdahgjbaaGreatDoor
open _root_.Array renaming replicate_succ→Bc,replicate_zero→Bd
open _root_.Bool renaming and_eq_true→Af,false_and→D4,true_and→De
open Ending renaming returned→dM
open IntKind renaming i64→dN
open _root_.List renaming append_toArray→B0,cons_append→A6,getD_eq_getElem?_getD→AE,getElem?_eq_getElem→Au,length_append→Ag,length_cons→Ao,length_nil→Eh,length_range→A8,length_singleton→AW,mem_cons→Ac,mem_of_getElem?→Ex,nil_append→AX,not_mem_nil→Ab,push_toArray→By,range→A0,size_toArray→Cx,take_of_length_le→Ax
open _root_.Nat renaming le_refl→Ap,le_trans→As,lt_of_lt_of_le→AT
open Value renaming agg→dK,bool→dL,int→dH,pointer→dJ,slice→dI,string→CZ
section
open Go.RowKit Go.Shelf
attribute [local go_sem] Oper.semAt_some N5 N6 N3 N4
attribute [local go_sem ↓] Go.wp_at_zero Go.wp_at_succ
theorem Mp.down{w w':World}{v v':Bm}{r r':CE}(h:Mp w' v r v' r')(hs:w.heap.size≤w'.heap.size):Mp w v r v' r':=fun Q hQ hn=>h Q (fun y hy=>AT (hQ y hy) hs) hn
theorem CN.up{v:Bm}{r:CE}{w wz w9 WF:World}{R:CE×Ten×Int}{e:Ending}{S:List Nat}(hm:Co w v r)(hz:Aa [] w wz)(h:CN v r wz R e w9)(hk:Aa S w9 WF)(hS:∀y∈S,w.heap.size≤y∧y<wz.heap.size):CN v r w R e WF:=by
 obtain⟨v9,n1,n2,n3,n4,sq,u9,he,hok,hk9⟩:=h;refine⟨v9,n1,n2,n3,n4,sq,u9,he,fun h0=>?_,(hz.trans hk9).own hk (fun y hy=>(hS y hy).1)⟩;obtain⟨a1,a2,a3,a4,a5,a6,a7,a8⟩:=hok h0;exact⟨a1,a2,a3,a4,a5,a6.stay (a7 (·∈S) (fun y hy=>(hS y hy).2) (hm.later (fun y hy=>(hS y hy).1))) hk (fun y hy=>hy),a7.down hz.size,a8⟩
theorem Ws(v:Bm)(r:CE)(gn un fn ln:Nat)(hg:r.slots.gens.length=gn)(hu:r.slots.used.length=un)(hf:r.slots.free.length=fn)(hln:r.l.length=ln)(seq:Int)(hsq:r.seq=seq)(c:FF)(now:Int)
 (hv:1≤c.verb∧c.verb≤10)(hnow:0≤now∧now≤1000000000000)(hat : -9223372036854775808≤c.at_∧c.at_≤9223372036854775807)
 (hsm:r.l.length≤900∧(∀t∈r.l,t.rules.length≤900∧t.creds.length≤900∧0≤t.version∧t.version≤1000000000000))(w:World)(E:Nat→Addr)(hE:Ez w E)(hEt:Et w)(h:Co w v r):
  Calls Tryz.prog 71 #[dK (R_ v gn un fn ln seq),dK (K_ c),dH dN now] w (CN v r w (T0 r c now)):=by
 obtain⟨wz,hwz⟩:=eX ((((w.alloc (.cells (R_ v gn un fn ln seq) 29)).alloc (.cells (K_ c) 61)).alloc (.cells LU.k 29)).alloc (.cells Mr.k 124));have hz:Aa [] w wz:=by rw [← hwz];exact((((Aa.refl [] w).alloc _).alloc _).alloc _).alloc _
 have hsz:wz.heap.size=w.heap.size+4:=by rw [← hwz];simp
 have rb0:=Blk.rl (show Blk wz w.heap.size 29 (R_ v gn un fn ln seq) by rw [← hwz];exact(((Blk.new w _ _).alloc _).alloc _).alloc _);have rb1:=Blk.rl (show Blk wz (w.heap.size+1) 61 (K_ c) by rw [← hwz];exact((Aq _ _ _ _ bA).alloc _).alloc _);have rb2:=Blk.rl (show Blk wz (w.heap.size+1+1) 29 LU.k by rw [← hwz];exact(Aq _ _ _ _ bA).alloc _);have rb3:=Blk.rl (show Blk wz (w.heap.size+1+1+1) 124 Mr.k by rw [← hwz];exact Aq _ _ _ _ bA);have HUP:Hid (∀(R:CE×Ten×Int) (e:Ending) (w9 WF:World),CN v r wz R e w9→Aa [w.heap.size+1+1,w.heap.size+1+1+1] w9 WF→CN v r w R e WF):=lH fun R e w9 WF h1 h2=>h1.up h hz h2 ZM;obtain⟨R,hR⟩:=eX (T0 r c now);rw [hR];unfold T0 at hR;by_cases h1:c.verb=1
 ·rw [if_pos h1] at hR
  have f1:(c.verb==1)=true:=by simpa using h1
  have HC:=lH (O4 v r gn un fn ln hg hu hf hln seq hsq c now hsm.1 wz (hEt.keeps hz bA) (h.keeps hz));rw [hR] at HC;clear hg hu hf hln hsq hz hsz h hsm hE hEt hR h1;go_enter Tryz.func71,Tryz.ntmps71;go_wp2_with (fail);clear hwz;refine HC.out.mono ?_;rintro e w9 ⟨v9,n1,n2,n3,n4,sq,u9,rfl,hok,hk9⟩;have HPO:Hid (CN v r wz R (dM (.tuple #[dK (R_ v9 n1 n2 n3 n4 sq),dK (T_ u9),Fa R.2.2])) w9):=lH ⟨v9,n1,n2,n3,n4,sq,u9,rfl,hok,hk9⟩;have r9:=hk9.rl;clear hok hk9;go_wp2_with (fail);exact bodyPost_ret (v:=.tuple #[dK (R_ v9 n1 n2 n3 n4 sq),dK (T_ u9),Fa R.2.2]) (by simp [results,Tryz.results71,go_sem,rb2,rb3,r9]) rfl (HUP.out _ _ w9 _ HPO.out bJ)
 ·rw [if_neg h1] at hR
  have f1:(c.verb==1)=false:=by simpa using h1
  by_cases h9:c.verb=9
  ·rw [if_pos h9] at hR
   have f9:(c.verb==9)=true:=by simpa using h9
   have HFN:Hid (∀WF,Aa [w.heap.size+1+1,w.heap.size+1+1+1] wz WF→CN v r w R (dM (.tuple #[dK (R_ v gn un fn ln seq),.agg Mr.k,.nilIface])) WF):=lH fun WF hk=>by
    have hkW:=hz.own hk bF;exact KH (u:=Za) hR.symm ⟨v,gn,un,fn,ln,by rw [hsq],hg,hu,hf,hln,h.keeps hkW,fun _ _ h=>h⟩ rfl rfl rfl rfl hkW
   clear hg hu hf hln hsq hz hsz h hsm hE hEt hR h1 h9;go_enter Tryz.func71,Tryz.ntmps71;go_wp2_with (fail);clear hwz;exact bodyPost_ret (v:=.tuple #[dK (R_ v gn un fn ln seq),.agg Mr.k,.nilIface]) (by simp [results,Tryz.results71,go_sem,rb2,rb3]) rfl (HFN.out _ bJ)
  ·rw [if_neg h9] at hR
   have f9:(c.verb==9)=false:=by simpa using h9
   have HC:=lH (Nx v r gn un fn ln hg hu hf hln seq hsq c now bB hnow hat hsm wz E (hE.keep hz) (hEt.keeps hz bA) (h.keeps hz));rw [hR] at HC;clear hg hu hf hln hsq hz hsz h hsm hE hEt hR h1 h9;go_enter Tryz.func71,Tryz.ntmps71;go_wp2_with (fail);clear hwz;refine HC.out.mono ?_;rintro e w9 ⟨v9,n1,n2,n3,n4,sq,u9,rfl,hok,hk9⟩;have HPO:Hid (CN v r wz R (dM (.tuple #[dK (R_ v9 n1 n2 n3 n4 sq),dK (T_ u9),Fa R.2.2])) w9):=lH ⟨v9,n1,n2,n3,n4,sq,u9,rfl,hok,hk9⟩;have r9:=hk9.rl;clear hok hk9;go_wp2_with (fail);exact bodyPost_ret (v:=.tuple #[dK (R_ v9 n1 n2 n3 n4 sq),dK (T_ u9),Fa R.2.2]) (by simp [results,Tryz.results71,go_sem,rb2,rb3,r9]) rfl (HUP.out _ _ w9 _ HPO.out bJ)
structure J0(w:World)(E:Nat→Addr):Prop where
 v:D5 w
 e:Ez w E
 t:Et w
theorem J0.keeps{w w':World}{E:Nat→Addr}(h:J0 w E)(hk:Aa [] w w'):J0 w' E:=⟨h.v.keeps hk bA,h.e.keep hk,h.t.keeps hk bA⟩
def Ju(w:World)(R:CE×ZB):Ending→World→Prop:=fun e w'=>∃(v:Bm) (gn un fn ln:Nat) (seq:Int),e = dM (.tuple #[dK (R_ v gn un fn ln seq),dK #[dH dN R.2.err,dH dN R.2.seq,dH dN R.2.slot,dH dN R.2.gen,dH dN R.2.version,dH dN R.2.state]])∧
 seq=R.1.seq∧R.1.slots.gens.length=gn∧R.1.slots.used.length=un∧R.1.slots.free.length=fn∧R.1.l.length=ln∧Co w' v R.1∧CK (· < w.heap.size) v R.1∧Aa [] w w'
theorem UN{role verb:Int}(h:Q3 role verb=true):1≤verb∧verb≤10:=by
 unfold Q3 Bb at h;simp only [List.any_cons,List.any_nil,Bool.or_eq_true,Af,beq_iff_eq,Bool.or_false] at h;omega
theorem P5(n:Int)(w:World)(hg:Et w):Calls Tryz.prog 72 #[Fa n] w fun e w'=>e = dM (dH dN n)∧Aa [] w w':=by
 by_cases h:n=0
 ·subst h
  exact ErG.told_nil w
 ·rw [Fa,if_neg h]
  exact ErG.told_why n w hg
theorem Jt:∀(i:Nat) (u:List Bool) (g:List Int),(usedL i u g).length≤u.length
 | i,true::u,x::g=>by
  have:=Jt (i+1) u g;simp only [usedL,Ao];omega
 | i,false::u,x::g=>by
  have:=Jt (i+1) u g;simp only [usedL,Ao];omega
 | i,[],g=>by cases g<;>simp [usedL]
 | i,true::u,[]=>by simp [usedL]
 | i,false::u,[]=>by simp [usedL]
theorem LJ{seq:Int}: ∀ {A:List (Int×Int)} {X:List Ten} {met:List ByteArray},Ck seq met A X=true→∀t∈X,FE seq t=true
 | [],[],_,_,t,ht=>by simp at ht
 | a::A,x::X,met,h,t,ht=>by
  simp only [Ck,Af] at h;rcases Ac.1 ht with rfl | ht
  ·exact h.1.2
  ·exact LJ h.2 t ht
 | [],_::_,_,h,_,_=>by simp [Ck] at h
 | _::_,[],_,h,_,_=>by simp [Ck] at h
theorem Ly{r:CE}(h:G1 r=true):r.l.length≤900∧(∀t∈r.l,t.rules.length≤900∧t.creds.length≤900∧0≤t.version∧t.version≤1000000000000):=by
 unfold G1 at h;simp only [Af,decide_eq_true_eq] at h;obtain⟨⟨⟨hs,h0⟩,h1⟩,ht⟩:=h;have hlen:=Jq ht;have hall:(C6 r.slots).length≤64:=by
  unfold C6;rw [if_pos hs];unfold CA at hs;simp only [Af,decide_eq_true_eq] at hs;exact As (Jt _ _ _) bB
 refine⟨by omega,fun t htm=>?_⟩;have:=LJ ht t htm;unfold FE EQ FU at this;simp only [Af,decide_eq_true_eq] at this;have hr:=this.2.1.2;have hc:=this.2.2;unfold DD at hr;unfold Dg at hc;simp only [Af,decide_eq_true_eq] at hr hc;omega
theorem Qp(v:Bm)(r:CE)(gn un fn ln:Nat)(hg:r.slots.gens.length=gn)(hu:r.slots.used.length=un)(hf:r.slots.free.length=fn)(hln:r.l.length=ln)(seq:Int)(hsq:r.seq=seq)(role:Int)(c:FF)(now:Int)
 (hat : -9223372036854775808≤c.at_∧c.at_≤9223372036854775807)(w:World)(E:Nat→Addr)(hE:J0 w E)(h:Co w v r):
  Calls Tryz.prog 33 #[dK (R_ v gn un fn ln seq),dH dN role,dK (K_ c),dH dN now] w (Ju w (Bu r role c now)):=by
 obtain⟨wz,hwz⟩:=eX ((((w.alloc (.cells (R_ v gn un fn ln seq) 29)).alloc (.cells (K_ c) 61)).alloc (.cells LU.k 29)).alloc (.cells Yb.k 96));have hz:Aa [] w wz:=by rw [← hwz];exact((((Aa.refl [] w).alloc _).alloc _).alloc _).alloc _
 have hsz:wz.heap.size=w.heap.size+4:=by rw [← hwz];simp
 have HB0:Hid (Blk wz w.heap.size 29 (R_ v gn un fn ln seq)):=lH ZQ;have HB1:Hid (Blk wz (w.heap.size+1) 61 (K_ c)):=lH ZP;have HB2:Hid (Blk wz (w.heap.size+1+1) 29 LU.k):=lH Y6;have HB3:Hid (Blk wz (w.heap.size+1+1+1) 96 Yb.k):=lH Xe;have rb0:=HB0.out.rl;have rb1:=HB1.out.rl;have rb2:=HB2.out.rl;have rb3:=HB3.out.rl;obtain⟨bo,hbo⟩:=eX (G1 r);have HRT:=lH (I3 v r gn un fn ln hg hu hf Zy seq hsq bo hbo wz (h.keeps hz));obtain⟨R,hR⟩:=eX (Bu r role c now);rw [hR];unfold Bu at hR;rw [hbo,hsq] at hR;by_cases hbad:bo=false∨1000000000000≤seq∨now<0∨1000000000000<now
 ·rw [if_pos hbad] at hR
  have HFN:Hid (∀w1 WF,Aa [] wz w1→Aa [w.heap.size+1+1,w.heap.size+1+1+1] w1 WF→Ju w R (dM (.tuple #[.agg LU.k,dK #[dH dN 150,dH dN 0,dH dN 0,dH dN 0,dH dN 0,dH dN 0]])) WF):=lH fun w1 WF h1 h2=>by
   rw [← hR];refine⟨⟨⟨none,0,none,0,none,0⟩,none,0,[]⟩,0,0,0,0,0,rfl,rfl,rfl,rfl,rfl,rfl,⟨Dp.zero _,AJ.none_,trivial,by decide,fun t ht=>by simp [ST] at ht⟩,⟨fun h=>by simp [ST,DF] at h,fun h=>by simp [ST,DF] at h,fun h=>by simp [ST,DF] at h,fun h=>by simp at h,fun u hu=>by simp at hu⟩,(hz.trans h1).own h2 bF⟩
  clear hg hu hf hln hsq hz hsz h hE hR hbo HB0 HB1 HB2 HB3;go_enter Tryz.func33,Tryz.ntmps33;go_wp2_with (fail);clear hwz;refine HRT.out.mono ?_;rintro e w1 ⟨rfl,hk1⟩;have r1:=hk1.rl;have HK1:=lH hk1;have hbad:bo=false∨(bo=true∧decide (seq≥1000000000000)=true)∨(bo=true∧decide (seq≥1000000000000)=false∧decide (now<0)=true)∨(bo=true∧decide (seq≥1000000000000)=false∧decide (now<0)=false∧decide (now>1000000000000)=true):=by
   cases bo
   ·exact .inl rfl
   ·simp only [Bool.true_eq_false,false_or] at hbad
    simp only [decide_eq_true_eq,decide_eq_false_iff_not,Bool.true_eq_false,false_or,true_and];omega
  clear hk1 HRT;rcases hbad with rfl | ⟨rfl,f1⟩ | ⟨rfl,f1,f2⟩ | ⟨rfl,f1,f2,f3⟩
  all_goals
   go_wp2_with (fail);exact bodyPost_ret (v:=.tuple #[.agg LU.k,dK #[dH dN 150,dH dN 0,dH dN 0,dH dN 0,dH dN 0,dH dN 0]]) (by simp [results,Tryz.results33,go_sem,rb2,rb3,r1]) rfl (HFN.out w1 _ HK1.out bJ)
 ·rw [if_neg hbad] at hR
  obtain rfl:bo=true:=by cases bo<;>simp_all
  have hbd:seq<1000000000000∧0≤now∧now≤1000000000000:=by omega
  have hs0:0≤seq:=by unfold G1 at hbo;simp only [Af,decide_eq_true_eq] at hbo;omega
  have f1:decide (seq≥1000000000000)=false:=decide_eq_false bB;have f2:decide (now<0)=false:=decide_eq_false bB;have f3:decide (now>1000000000000)=false:=decide_eq_false bB;have hw:IntKind.i64.wrap (seq+1)=seq+1:=IntWalk.i64_in _ bB;have HBD:=lH hbd;have HG:=lH hg;have HU:=lH hu;have HF:=lH hf;have HLN:=lH hln;have HSQ:=lH hsq;have HZ:=lH hz;have HSZ:=lH hsz;have HM:=lH h;have HE:=lH hE;have HSM:=lH (Ly hbo);obtain⟨bm,hbm⟩:=eX (Q3 role c.verb);rw [hbm] at hR;have HBM:=lH hbm;have HR:=lH hR;clear hg hu hf hln hsq hz hsz h hE hR hbo hbad hbd hbm hs0;go_enter Tryz.func33,Tryz.ntmps33;go_wp2_with (fail);clear hwz;refine HRT.out.mono ?_;rintro e w1 ⟨rfl,hk1⟩;have r1:=hk1.rl;clear HRT;go_wp2_with (fail);refine(O5 v r gn un fn ln HG.out HU.out HF.out HLN.out seq HSQ.out w1 (HM.out.keeps (HZ.out.trans hk1))).mono ?_;rintro e w2 ⟨v1,rfl,hm1,hge1,hk2⟩;have hkz2:=hk1.trans hk2;have hlt:w.heap.size+4≤w1.heap.size:=by have:=hk1.size;have:=HSZ.out;omega
  obtain⟨wa,hwa⟩:=eX (((((w2.setCell ⟨w,0,none⟩ (dI v1.s.ga gn v1.s.gc)).setCell ⟨w,1,none⟩ (dI v1.s.ua un v1.s.uc)).setCell ⟨w,2,none⟩ (dI v1.s.fa fn v1.s.fc)).setCell ⟨w,3,none⟩ (dI v1.la ln v1.lc)).setCell ⟨w,4,none⟩ (dH dN seq));have hka:Aa [w.heap.size] w2 wa:=by rw [← hwa];exact F3 _ _ _ _ _ _ _
  obtain⟨wb,hwb⟩:=eX (wa.setCell ⟨w,4,none⟩ (dH dN (seq+1)));have hkb:Aa [w.heap.size] wa wb:=by rw [← hwb];exact Ae _ _ _ _
  have hba:Blk wa w.heap.size 29 (R_ v1 gn un fn ln seq):=by rw [← hwa];exact(HB0.out.keeps hkz2 bA).put5 _ _ _ _ _
  have HBB:Hid (Blk wb w.heap.size 29 (R_ v1 gn un fn ln (seq+1))):=lH (by rw [← hwb];exact hba.set_ 4 _);have hkab:Aa [w.heap.size] w2 wb:=hka.trans hkb;have HM1:Hid (Co wb v1 ⟨r.slots,r.l,seq+1⟩):=lH { (hm1.ge hge1 hkab ZM) with };have HGE1:Hid (GA w1.heap.size v1):=lH hge1;have HKB:Hid (Aa [] w wb):=lH ((HZ.out.trans hkz2).own hkab bF);have HLT:=lH hlt;have HWB:Hid (w1.heap.size≤wb.heap.size):=lH (As hk2.size hkab.size);have hkzb:Aa [w.heap.size] wz wb:=(hkz2.mono bA).trans hkab;have HZB:=lH hkzb;have HB1:=lH (HB1.out.keeps hkzb bI);have HB2:=lH (HB2.out.keeps hkzb bI);have HB3:=lH (HB3.out.keeps hkzb bI);have r2:=hkz2.rl;have ba:=hba.rl;have bb:=HB1.out.rl;clear r1 hk1 hk2 hkz2 hlt hka hkb hba hkab hkzb hm1 hge1;go_wp2_with (fail);clear hwb hwa rb0 rb1 rb2 rb3 r2 ba bb;have rb0:=HBB.out.rl;have rb1:=HB1.out.rl;have rb2:=HB2.out.rl;have rb3:=HB3.out.rl;refine(VZ role c.verb bm HBM.out wb (HE.out.keeps HKB.out).v).mono ?_;rintro e w3 ⟨rfl,hk3⟩;have hR:=HR.out;cases bm with
  | false=>
   rw [if_pos rfl] at hR;have HSA:Hid (∀A,Aa [w.heap.size+1+1,w.heap.size+1+1+1] w3 A→Ju w R (dM (.tuple #[dK (R_ v1 gn un fn ln (seq+1)),dK #[dH dN 151,dH dN (seq+1),dH dN 0,dH dN 0,dH dN 0,dH dN 0]])) A):=lH fun A hk=>by
    rw [← hR];have hl:=HLT.out;have hS:∀y∈[w.heap.size+1+1,w.heap.size+1+1+1],w.heap.size≤y∧y<w1.heap.size:=fun y hy=>by simp only [Ac,Ab,or_false] at hy;omega
    exact⟨v1,gn,un,fn,ln,_,rfl,rfl,HG.out,HU.out,HF.out,HLN.out,(HM1.out.keeps hk3).ge HGE1.out hk (fun y hy=>(hS y hy).2),HGE1.out.no YG,(HKB.out.trans hk3).own hk (fun y hy=>(hS y hy).1)⟩
   have z2:=(HB2.out.keeps hk3 bA).rl;have z3:=(HB3.out.keeps hk3 bA).rl;have z0:=(HBB.out.keeps hk3 bA).rl;clear rb0 rb1 rb2 rb3 hk3 hR;go_wp2_with (fail);refine wp_region_held_drew (S:=(Aa [w.heap.size+1+1,w.heap.size+1+1+1] w3)) bC bX (fun hHeld=>?_);refine rK 0 ?_;refine rK 1 ?_;refine rK 2 ?_;refine rK 3 ?_;refine rC 4 fun K hK=>?_;go_simp
   (try clear rH);refine rP hK bX fun rH hHeld=>?_;clear hK K
   refine rC 5 fun K hK=>?_;go_simp
   (try clear rH);refine rP hK bX fun rH hHeld=>?_;clear hK K
   refine wpAnyH_done bC ?_ _
   (go_wp2_with (fail);exact bodyPost_ret (v:=.tuple #[dK (R_ v1 gn un fn ln (seq+1)),dK #[dH dN 151,dH dN (seq+1),dH dN 0,dH dN 0,dH dN 0,dH dN 0]]) (by simp [results,Tryz.results33,go_sem,z2,z3]) rfl (HSA.out _ hHeld))
  | true=>
   rw [if_neg bE] at hR;have HR2:=lH hR;have r3:=hk3.rl;have HK3:=lH hk3;clear hk3 hR;go_wp2_with (fail);refine(Ws v1 ⟨r.slots,r.l,seq+1⟩ gn un fn ln HG.out HU.out HF.out HLN.out (seq+1) rfl c now (UN HBM.out) HBD.out.2 hat HSM.out w3 E (HE.out.keeps (HKB.out.trans HK3.out)).e (HE.out.keeps (HKB.out.trans HK3.out)).t (HM1.out.keeps HK3.out)).mono ?_;rintro e w4 ⟨v9,n1,n2,n3,n4,sq,u9,rfl,hok,hk4⟩;obtain⟨⟨d1,d2,er⟩,hD⟩:∃d,T0 ⟨r.slots,r.l,seq+1⟩ c now=d:=⟨_,rfl⟩;have hR:=HR2.out;rw [hD] at hR hok ⊢;dsimp only at hR hok ⊢;obtain⟨wc,hwc⟩:=eX ((w4.alloc (.cells (R_ v9 n1 n2 n3 n4 sq) 29)).alloc (.cells (T_ u9) 124));have hkc:Aa [] w4 wc:=by rw [← hwc];exact((Aa.refl [] w4).alloc _).alloc _
   have hkbc:Aa [] wb wc:=(HK3.out.trans hk4).trans hkc;have HKC:=lH (HKB.out.trans hkbc);have HK34:=lH (hk4.trans hkc);have HOUT:Hid (Blk wc w4.heap.size 29 (R_ v9 n1 n2 n3 n4 sq)):=lH (by rw [← hwc];exact(Blk.new w4 _ _).alloc _);have HTEN:Hid (Blk wc (w4.heap.size+1) 124 (T_ u9)):=lH (by rw [← hwc];exact Aq _ _ _ _ bA);have HOK:Hid (er=0→sq=d1.seq∧d1.slots.gens.length=n1∧d1.slots.used.length=n2∧d1.slots.free.length=n3∧d1.l.length=n4∧Co wc v9 d1∧Mp w3 v1 ⟨r.slots,r.l,seq+1⟩ v9 d1∧u9.slot=d2.slot∧u9.gen=d2.gen∧u9.version=d2.version∧u9.state=d2.state):=lH fun h0=>by
    obtain⟨a1,a2,a3,a4,a5,a6,a7⟩:=hok h0;exact⟨a1,a2,a3,a4,a5,a6.keeps hkc,a7⟩
   have HB0:=lH (HBB.out.keeps hkbc bA);have HB2:=lH (HB2.out.keeps hkbc bA);have HB3:=lH (HB3.out.keeps hkbc bA);have HR3:=lH hR;have HW3:Hid (w1.heap.size≤w3.heap.size∧w.heap.size+4≤w4.heap.size):=lH ⟨by have:=HWB.out;have:=HK3.out.size;omega,by have:=HWB.out;have:=HK3.out.size;have:=hk4.size;have:=HLT.out;omega⟩;clear hok hk4 hR hD hkc hkbc;go_upto_region 8 with(fail)
   clear hwc rb0 rb1 rb2 rb3 r3;have z0:=HB0.out.rl;have z5:=HTEN.out.rl;go_cut [13] (fun x wd=>∃g,x = dJ (some ⟨g,0,none⟩)∧Hid (Blk wd g 96 #[dH dN er,dH dN (seq+1),dH dN u9.slot,dH dN u9.gen,dH dN u9.version,dH dN u9.state]∧Aa [] wc wd∧wc.heap.size≤g))
   case first=>
    refine wp_region_held_drew (S:=(Aa [] wc)) bC Xx (fun hHeld=>?_);refine rK 0 ?_;refine rK 2 ?_;refine rK 3 ?_;refine rK 4 ?_;refine rK 5 ?_;refine rK 6 ?_;refine rK 7 ?_;refine rK 8 ?_;refine rK 9 ?_;refine wpAnyH_ready (rs:=[1,11]) bC bA ?_;refine AllReadyH.cons rfl (fun K hK=>?_) ?_
    ·go_simp
     (refine(P5 er _ (HE.out.keeps (HKC.out.trans hHeld)).t).mono ?_;rintro e w5 ⟨rfl,hk5⟩;have hk5':Aa [] wc w5:=hHeld.trans hk5)
     (try clear rH);refine rP hK Xx fun rH hHeld=>?_;clear hK K
     refine rK 10 ?_;refine rC 11 fun K hK=>?_;go_simp
     (try clear rH);refine rP hK Xx fun rH hHeld=>?_;clear hK K
     refine rC 12 fun K hK=>?_;go_simp
     (try clear rH);refine rP hK Xx fun rH hHeld=>?_;clear hK K
     refine wpAnyH_done bC ?_ _
     (go_wp2_with (fail);go_meet;exact⟨_,rfl,lH ⟨by first | with_reducible exact Blk.new _ _ _ | exact(((((hz5.set_ 0 _).set_ 1 _).set_ 2 _).set_ 3 _).set_ 4 _).set_ 5 _,by(try with_reducible refine Aa.drew ?_);(repeat with_reducible refine Aa.setCell ?_ (.inr (Ap _)) _);(try with_reducible refine Aa.alloc ?_ _);with_reducible (first | exact hk5' | exact Aa.refl _ _),by first | exact hk5'.size | exact Ap _⟩⟩)
    refine AllReadyH.cons rfl (fun K hK=>?_) ?_
    ·go_simp
     (try clear rH);refine rP hK Xx fun rH hHeld=>?_;clear hK K
     refine rC 1 fun K hK=>?_;go_simp
     (refine(P5 er _ (HE.out.keeps (HKC.out.trans hHeld)).t).mono ?_;rintro e w5 ⟨rfl,hk5⟩;have hk5':Aa [] wc w5:=hHeld.trans hk5;have hz5:Blk w5 wc.heap.size 96 Yb.k:=(Blk.new wc 96 Yb.k).drew.keeps hk5 bA;have rz5:=hz5.rl)
     (try clear rH);refine rP hK Xx fun rH hHeld=>?_;clear hK K
     refine rK 10 ?_;refine rC 12 fun K hK=>?_;go_simp
     (try clear rH);refine rP hK Xx fun rH hHeld=>?_;clear hK K
     refine wpAnyH_done bC ?_ _
     (go_wp2_with (fail);go_meet;exact⟨_,rfl,lH ⟨by first | with_reducible exact Blk.new _ _ _ | exact(((((hz5.set_ 0 _).set_ 1 _).set_ 2 _).set_ 3 _).set_ 4 _).set_ 5 _,by(try with_reducible refine Aa.drew ?_);(repeat with_reducible refine Aa.setCell ?_ (.inr (Ap _)) _);(try with_reducible refine Aa.alloc ?_ _);with_reducible (first | exact hk5' | exact Aa.refl _ _),by first | exact hk5'.size | exact Ap _⟩⟩)
    exact AllReadyH.nil
   case rest=>
    obtain⟨g,rfl,HGR⟩:=hcut
    rename World=>wd
    clear z0 z5;have z0:=(HB0.out.keeps HGR.out.2.1 bA).rl;have z1:=HGR.out.1.rl;go_upto_region 9 with(fail)
    go_cut [14] (fun x we=>∃n0,x = dJ (some ⟨n0,0,none⟩)∧Hid (Blk we n0 96 #[dH dN er,dH dN (seq+1),dH dN 0,dH dN 0,dH dN 0,dH dN 0]∧Aa [] wd we∧wd.heap.size≤n0))
    case first=>
     go_wp2_with (fail);go_meet;exact⟨_,rfl,lH ⟨Blk.new wd _ _,(Aa.refl [] wd).alloc _,Ap _⟩⟩
    case rest=>
    obtain⟨n0,rfl,HNN⟩:=hcut
    rename World=>we
    have hkde:=HNN.out.2.1;have hkce:Aa [] wc we:=HGR.out.2.1.trans hkde;have HNO:=lH HNN.out.1;have HGE:=lH (HGR.out.1.keeps hkde bA);have HOUT:=lH (HOUT.out.keeps hkce bA);have HB2:=lH (HB2.out.keeps hkce bA);have HB3:=lH (HB3.out.keeps hkce bA);have HB0e:=lH (HB0.out.keeps hkce bA);have HKE:=lH (HKC.out.trans hkce);have HCE:=lH hkce;have HKCE:=lH (HK34.out.trans hkce);have HSS:Hid (∀y∈[w.heap.size+1+1,w.heap.size+1+1+1],w.heap.size≤y∧y<w1.heap.size∧y<w3.heap.size):=lH (fun y hy=>by have h1:=HLT.out;have h2:=HW3.out;simp only [Ac,Ab,or_false] at hy;omega);have hgg:=HGR.out.2.2;have hlw:=HW3.out.2;have hcw:=HOUT.out.lt;have hcs:w4.heap.size<wc.heap.size:=HTEN.out.lt |> fun h=>by omega
    have e1:¬g=w.heap.size+1+1:=by omega
    have e2:¬g=w.heap.size+1+1+1:=by omega
    have e3:¬w4.heap.size=w.heap.size+1+1:=by omega
    have e4:¬w4.heap.size=w.heap.size+1+1+1:=by omega
    have hde:wc.heap.size≤wd.heap.size:=HGR.out.2.1.size;have hnn:=HNN.out.2.2;have e5:¬n0=w.heap.size+1+1:=by omega
    have e6:¬n0=w.heap.size+1+1+1:=by omega
    clear hkde hkce hgg hlw hcw hcs hde hnn;have hR:=HR3.out;by_cases he:er=0
    ·subst he
     rw [if_neg bA] at hR;have HFN:Hid (∀WF,Aa [w.heap.size+1+1,w.heap.size+1+1+1] we WF→Ju w R (dM (.tuple #[dK (R_ v9 n1 n2 n3 n4 sq),dK #[dH dN 0,dH dN (seq+1),dH dN u9.slot,dH dN u9.gen,dH dN u9.version,dH dN u9.state]])) WF):=lH fun WF hk=>by
      obtain⟨a1,a2,a3,a4,a5,a6,a7,a8,a9,a10,a11⟩:=HOK.out rfl;rw [← hR];refine⟨v9,n1,n2,n3,n4,sq,by rw [a8,a9,a10,a11],a1,a2,a3,a4,a5,?_,?_,HKE.out.own hk (fun y hy=>(HSS.out y hy).1)⟩
      ·exact(a6.keeps HCE.out).stay (a7 (·∈[w.heap.size+1+1,w.heap.size+1+1+1]) (fun y hy=>(HSS.out y hy).2.2) (HGE1.out.no (fun y hy=>(HSS.out y hy).2.1))) hk (fun y hy=>hy)
      ·exact a7 (· < w.heap.size) (fun y hy=>by have:=HW3.out;have:=HLT.out;omega) (HGE1.out.no (fun y hy=>by have:=HLT.out;omega))
     clear hR;simp only [Fa,if_true];go_wp2_with (fail);clear z0 z1;have z2:=HB2.out.rl;have z3:=HB3.out.rl;have z4:=HOUT.out.rl;have z5:=HGE.out.rl;refine wp_region_held_drew (S:=(Aa [w.heap.size+1+1,w.heap.size+1+1+1] we)) bC bX (fun hHeld=>?_);refine rK 0 ?_;refine rK 1 ?_;refine rC 2 fun K hK=>?_;go_simp
     (try clear rH);refine rP hK bX fun rH hHeld=>?_;clear hK K
     refine rC 3 fun K hK=>?_;go_simp
     (try clear rH);refine rP hK bX fun rH hHeld=>?_;clear hK K
     refine wpAnyH_done bC ?_ _
     (go_wp2_with (fail);exact bodyPost_ret (v:=.tuple #[dK (R_ v9 n1 n2 n3 n4 sq),dK #[dH dN 0,dH dN (seq+1),dH dN u9.slot,dH dN u9.gen,dH dN u9.version,dH dN u9.state]]) (by simp [results,Tryz.results33,go_sem,z2,z3]) rfl (HFN.out _ hHeld))
    ·rw [if_pos he] at hR
     have HFN:Hid (∀WF,Aa [w.heap.size+1+1,w.heap.size+1+1+1] we WF→Ju w R (dM (.tuple #[dK (R_ v1 gn un fn ln (seq+1)),dK #[dH dN er,dH dN (seq+1),dH dN 0,dH dN 0,dH dN 0,dH dN 0]])) WF):=lH fun WF hk=>by
      rw [← hR];exact⟨v1,gn,un,fn,ln,_,rfl,rfl,HG.out,HU.out,HF.out,HLN.out,((HM1.out.keeps HK3.out).keeps HKCE.out).ge HGE1.out hk (fun y hy=>(HSS.out y hy).2.1),HGE1.out.no (fun y hy=>by have:=HLT.out;omega),HKE.out.own hk (fun y hy=>(HSS.out y hy).1)⟩
     clear hR;simp only [Fa,if_neg he];go_wp2_with (fail);clear z0 z1;have z2:=HB2.out.rl;have z3:=HB3.out.rl;have z4:=HB0e.out.rl;have z5:=HNO.out.rl;refine wp_region_held_drew (S:=(Aa [w.heap.size+1+1,w.heap.size+1+1+1] we)) bC bX (fun hHeld=>?_);refine rK 0 ?_;refine rK 1 ?_;refine rC 2 fun K hK=>?_;go_simp
     (try clear rH);refine rP hK bX fun rH hHeld=>?_;clear hK K
     refine rC 3 fun K hK=>?_;go_simp
     (try clear rH);refine rP hK bX fun rH hHeld=>?_;clear hK K
     refine wpAnyH_done bC ?_ _
     (go_wp2_with (fail);exact bodyPost_ret (v:=.tuple #[dK (R_ v1 gn un fn ln (seq+1)),dK #[dH dN er,dH dN (seq+1),dH dN 0,dH dN 0,dH dN 0,dH dN 0]]) (by simp [results,Tryz.results33,go_sem,z2,z3]) rfl (HFN.out _ hHeld))
theorem Pj{r:CE}(h:G1 r=true):r.l.length≤64∧0≤r.seq:=by
 unfold G1 at h;simp only [Af,decide_eq_true_eq] at h;obtain⟨⟨⟨hs,h0⟩,h1⟩,ht⟩:=h;have hlen:=Jq ht;have hall:(C6 r.slots).length≤64:=by
  unfold C6;rw [if_pos hs];unfold CA at hs;simp only [Af,decide_eq_true_eq] at hs;exact As (Jt _ _ _) bB
 omega
def TE(w:World)(R:CE):Ending→World→Prop:=fun e w'=>∃(v:Bm) (gn un fn ln:Nat) (seq:Int),e = dM (dK (R_ v gn un fn ln seq))∧seq=R.seq∧R.slots.gens.length=gn∧R.slots.used.length=un∧R.slots.free.length=fn∧R.l.length=ln∧Co w' v R∧CK (· < w.heap.size) v R∧Aa [] w w'
structure TD(w w4:World)(pb gn un fn ln:Nat)(now:Int)(v1:Bm)(r:CE)(seq:Int)(n:Nat)(vk:Bm)(nk:Nat)(rk:CE)(A:World):Prop where
 b0:Blk A w.heap.size 29 (R_ vk gn un fn nk rk.seq)
 b1:Blk A (w.heap.size+1) 3 #[dH dN now]
 b2:Blk A (w.heap.size+1+1) 29 LU.k
 pb:Blk A pb 29 (R_ v1 gn un fn ln seq)
 m:Co A vk rk
 slots:rk.slots=r.slots
 len:rk.l.length=nk
 sz:nk≤ln+n
 go_:∀Q:Nat→Prop,(∀y,Q y→y<w4.heap.size+2)→CK Q v1 r→CK Q vk rk
 sq:0≤rk.seq
 kw:Aa [w.heap.size] w4 A
theorem TD.keeps{w w4:World}{pb gn un fn ln:Nat}{now:Int}{v1:Bm}{r:CE}{seq:Int}{n:Nat}{vk:Bm}{nk:Nat}{rk:CE}{A A':World}{S:List Nat}(h:TD w w4 pb gn un fn ln now v1 r seq n vk nk rk A)(h1:Co w4 v1 r)(hp:w.heap.size+3≤pb∧pb<w4.heap.size)(hk:Aa S A A')(hS:∀y∈S,w4.heap.size≤y∧y<w4.heap.size+2):TD w w4 pb gn un fn ln now v1 r seq n vk nk rk A':=by
 have hn:∀y,y<w4.heap.size→y∉S:=fun y hy hm=>by have:=hS y hm;omega
 exact { h with b0:=h.b0.keeps hk (hn _ bB),b1:=h.b1.keeps hk (hn _ bB),b2:=h.b2.keeps hk (hn _ bB),pb:=h.pb.keeps hk (hn _ bB),m:=h.m.stay (h.go_ (·∈S) (fun y hy=>(hS y hy).2) (h1.later (fun y hy=>(hS y hy).1))) hk (fun y hy=>hy),kw:=h.kw.trans' hk (fun y hy=>.inr (hS y hy).1) }
theorem EA.and2{P Q R:Nat→Prop}{a:Option Addr}{n:Nat}(h1:EA P a n)(h2:EA Q a n)(h:∀y,R y→P y∨Q y):EA R a n:=fun h0 g o e hr=>(h g hr).elim (h1 h0 g o e) (h2 h0 g o e)
theorem CK.and2{P Q R:Nat→Prop}{v:Bm}{r:CE}(h1:CK P v r)(h2:CK Q v r)(h:∀y,R y→P y∨Q y):CK R v r:=
 ⟨h1.g.and2 h2.g h,h1.u.and2 h2.u h,h1.f.and2 h2.f h,h1.l.and2 h2.l h,fun u hu=>⟨(h1.t u hu).1.and2 (h2.t u hu).1 h,(h1.t u hu).2.and2 (h2.t u hu).2 h⟩⟩
theorem TD.next{w w4:World}{pb gn un fn ln:Nat}{now:Int}{v1:Bm}{r:CE}{seq:Int}{n:Nat}{vk:Bm}{nk:Nat}{rk:CE}{wf w6:World}{u U:TV}{T:Ten}{a6:Option Addr}{c6 B:Nat}(h:TD w w4 pb gn un fn ln now v1 r seq n vk nk rk wf)(hge:GA (w.heap.size+3) v1)(hp:w.heap.size+3≤pb∧pb<w4.heap.size)(hu:u∈v1.lv)(hU:BU wf U T)(hs:EC B u U)(hB:w4.heap.size+2≤B)(hwf:w4.heap.size+2≤wf.heap.size)
 (hk6:Aa [] wf w6)(hs6:AJ BM 8 w6 a6 c6 (CX vk.lv U))(hg6:Cp wf.heap.size a6)(hl:nk≤900)(hsm:T.rules.length≤1000∧T.creds.length≤1000):
  TD w w4 pb gn un fn ln now v1 r seq (n+1) ⟨vk.s,a6,c6,CX vk.lv U⟩ (CX vk.lv U).length ⟨rk.slots,FD rk.l T,rk.seq+1⟩ ((((((w6.setCell ⟨w,0,none⟩ (dI vk.s.ga gn vk.s.gc)).setCell ⟨w,1,none⟩ (dI vk.s.ua un vk.s.uc)).setCell ⟨w,2,none⟩ (dI vk.s.fa fn vk.s.fc)).setCell ⟨w,3,none⟩ (dI a6 (CX vk.lv U).length c6)).setCell ⟨w,4,none⟩ (dH dN rk.seq)).setCell ⟨w,4,none⟩ (dH dN (rk.seq+1))):=by
 have hkF:Aa [w.heap.size] w6 ((((((w6.setCell ⟨w,0,none⟩ (dI vk.s.ga gn vk.s.gc)).setCell ⟨w,1,none⟩ (dI vk.s.ua un vk.s.uc)).setCell ⟨w,2,none⟩ (dI vk.s.fa fn vk.s.fc)).setCell ⟨w,3,none⟩ (dI a6 (CX vk.lv U).length c6)).setCell ⟨w,4,none⟩ (dH dN rk.seq)).setCell ⟨w,4,none⟩ (dH dN (rk.seq+1))):=(F3 _ _ _ _ _ _ _).trans (Ae _ _ _ _);have hn:∀y,w.heap.size<y→y∉[w.heap.size]:=fun y hy=>by simp only [Ac,Ab,or_false];omega
 have hQ:∀y,(fun y=>y=w.heap.size) y→y<w4.heap.size+2:=fun y hy=>by dsimp only at hy;omega
 have hn1:CK (fun y=>y=w.heap.size) v1 r:=hge.no YG;have hUn:IH (fun y=>y=w.heap.size) U:=hs.no (hn1.t u hu) YG;have hmF:Co ((((((w6.setCell ⟨w,0,none⟩ (dI vk.s.ga gn vk.s.gc)).setCell ⟨w,1,none⟩ (dI vk.s.ua un vk.s.uc)).setCell ⟨w,2,none⟩ (dI vk.s.fa fn vk.s.fc)).setCell ⟨w,3,none⟩ (dI a6 (CX vk.lv U).length c6)).setCell ⟨w,4,none⟩ (dH dN rk.seq)).setCell ⟨w,4,none⟩ (dH dN (rk.seq+1))) vk rk:=(h.m.keeps hk6).stay (h.go_ _ hQ hn1) hkF bA;have hUF:BU ((((((w6.setCell ⟨w,0,none⟩ (dI vk.s.ga gn vk.s.gc)).setCell ⟨w,1,none⟩ (dI vk.s.ua un vk.s.uc)).setCell ⟨w,2,none⟩ (dI vk.s.fa fn vk.s.fc)).setCell ⟨w,3,none⟩ (dI a6 (CX vk.lv U).length c6)).setCell ⟨w,4,none⟩ (dH dN rk.seq)).setCell ⟨w,4,none⟩ (dH dN (rk.seq+1))) U T:=(hU.keeps hk6).stay hUn hkF bA;obtain⟨q1,q3⟩:=hmF.put (Aa.refl [] _) (hs6.keepsS hkF (hg6.out bF)) hUF (by rw [h.len];exact hl) hsm (rk.seq+1);exact⟨((h.b0.keeps hk6 bA).put5 _ _ _ _ _).set_ 4 _,(h.b1.keeps hk6 bA).keeps hkF (hn _ bB),(h.b2.keeps hk6 bA).keeps hkF (hn _ bB),(h.pb.keeps hk6 bA).keeps hkF (hn _ bB),q1,h.slots,q3,by have:=Pf rk.l T;rw [q3,h.len] at this;have:=h.sz;omega,
  fun Q hQ hn=>(h.go_ Q hQ hn).put (hg6.no bN) (hs.no (hn.t u hu) bN),by have:=h.sq;dsimp only;omega,(h.kw.trans (hk6.mono bA)).trans hkF⟩
theorem TD.up{w w4:World}{pb gn un fn ln:Nat}{now:Int}{v1:Bm}{r:CE}{seq:Int}{n n':Nat}{vk:Bm}{nk:Nat}{rk:CE}{A:World}(h:TD w w4 pb gn un fn ln now v1 r seq n vk nk rk A)(hn:n≤n'):TD w w4 pb gn un fn ln now v1 r seq n' vk nk rk A:={ h with sz:=by have:=h.sz;omega }
theorem Sw(v:Bm)(r:CE)(gn un fn ln:Nat)(hg:r.slots.gens.length=gn)(hu:r.slots.used.length=un)(hf:r.slots.free.length=fn)(hln:r.l.length=ln)(seq:Int)(hsq:r.seq=seq)(now:Int)(w:World)(h:Co w v r):
  Calls Tryz.prog 38 #[dK (R_ v gn un fn ln seq),dH dN now] w (TE w (Gi r now)):=by
 obtain⟨wz,hwz⟩:=eX (((w.alloc (.cells (R_ v gn un fn ln seq) 29)).alloc (.cells #[dH dN now] 3)).alloc (.cells LU.k 29));have hz:Aa [] w wz:=by rw [← hwz];exact(((Aa.refl [] w).alloc _).alloc _).alloc _
 have hsz:wz.heap.size=w.heap.size+3:=by rw [← hwz];simp
 have HB0:Hid (Blk wz w.heap.size 29 (R_ v gn un fn ln seq)):=lH (by rw [← hwz];exact((Blk.new w _ _).alloc _).alloc _);have HB1:Hid (Blk wz (w.heap.size+1) 3 #[dH dN now]):=lH Y6;have HB2:Hid (Blk wz (w.heap.size+1+1) 29 LU.k):=lH Xe;have rb0:=HB0.out.rl;have HG:=lH hg;have HU:=lH hu;have HF:=lH hf;have HLN:=lH hln;have HSQ:=lH hsq;have HZ:=lH hz;have HSZ:=lH hsz;have HM:=lH h;obtain⟨R,hR⟩:=eX (Gi r now);rw [hR];have HR:=lH hR;clear hg hu hf hln hsq hz hsz h hR;have HTN0:=lH (fun v1=>fun W=>ET v1 r gn un fn ln W);rw [HSQ.out] at HTN0;refine(callsIn_wide (n:=9)).1 ?_;refine callsIn_of_wp_marks Tryz.func38 rfl trivial ?_ rfl;simp only [Tryz.ntmps38,Cx,Ao,Eh,Nat.reduceAdd,Nat.reduceSub,Bc,Bd,By,B0,AX,A6];gi_wp2_with (fail);clear hwz;refine⟨trivial,(callsIn_wide.2 (O5 v r gn un fn ln HG.out HU.out HF.out HLN.out seq HSQ.out wz (HM.out.keeps HZ.out))).mono ?_⟩;rintro e w1 ⟨v1,rfl,hm1,hge1,hk1⟩;obtain⟨wa,hwa⟩:=eX (((((w1.setCell ⟨w,0,none⟩ (dI v1.s.ga gn v1.s.gc)).setCell ⟨w,1,none⟩ (dI v1.s.ua un v1.s.uc)).setCell ⟨w,2,none⟩ (dI v1.s.fa fn v1.s.fc)).setCell ⟨w,3,none⟩ (dI v1.la ln v1.lc)).setCell ⟨w,4,none⟩ (dH dN seq));have hka:Aa [w.heap.size] w1 wa:=by rw [← hwa];exact F3 _ _ _ _ _ _ _
 have HBA:Hid (Blk wa w.heap.size 29 (R_ v1 gn un fn ln seq)):=lH (by rw [← hwa];exact(HB0.out.keeps hk1 bA).put5 _ _ _ _ _);have HM1:Hid (Co wa v1 r):=lH (hm1.ge hge1 hka (by intro y hy;have:=HSZ.out;simp only [Ac,Ab,or_false] at hy;omega));have HGE1:Hid (GA wz.heap.size v1):=lH hge1;have hkza:Aa [w.heap.size] wz wa:=(hk1.mono bA).trans hka;have HKA:Hid (Aa [] w wa):=lH (HZ.out.own hkza bF);have HB1:=lH (HB1.out.keeps hkza bI);have HB2:=lH (HB2.out.keeps hkza bI);have r1:=hk1.rl;have ra:=HBA.out.rl;obtain⟨bo,hbo⟩:=eX (G1 r);have HBO:=lH hbo;clear hm1 hge1 hka hkza hk1 hbo;gi_wp2_with (fail);clear hwa r1 rb0;refine⟨trivial,(callsIn_wide.2 (I3 v1 r gn un fn ln HG.out HU.out HF.out (by rw [AC.len HM1.out.t,HLN.out]) seq HSQ.out bo HBO.out wa HM1.out)).mono ?_⟩;rintro e w3 ⟨rfl,hk3⟩;have r3:=hk3.rl;have HK3:=lH hk3;have HTN:=lH (HTN0.out v1);have hR:=HR.out;unfold Gi at hR;rw [HBO.out] at hR;cases bo with
 | false=>
  rw [if_neg bE] at hR;have z2:=(HB2.out.keeps hk3 bA).rl;have HFN:Hid (∀WF,Aa [w.heap.size+1+1] w3 WF→TE w R (dM (dK (R_ v1 gn un fn ln seq))) WF):=lH fun WF hk=>by
   have hs:=HSZ.out;rw [← hR];exact⟨v1,gn,un,fn,ln,seq,rfl,HSQ.out.symm,HG.out,HU.out,HF.out,HLN.out,(HM1.out.keeps HK3.out).ge HGE1.out hk bF,HGE1.out.no YG,(HKA.out.trans HK3.out).own hk bF⟩
  clear hk3;gi_wp2_with (fail);exact⟨dK (R_ v1 gn un fn ln seq),by simp [results,Tryz.results38,go_sem,z2],HFN.out _ bJ⟩
 | true=>
  rw [if_pos rfl] at hR;have HR2:=lH hR;clear hR;gi_wp2_with (fail);refine⟨trivial,(callsIn_wide.2 (HTN.out w3)).mono ?_⟩;rintro e w4 ⟨rfl,hw4⟩;gi_wp2_with (fail);have hs4:w4.heap.size=w3.heap.size+1:=by rw [← hw4];simp
  have hk4:Aa [] w3 w4:=by rw [← hw4];exact(Aa.refl [] w3).alloc _
  have hka4:=HK3.out.trans hk4;have HM4:Hid (Co w4 v1 r):=lH (HM1.out.keeps hka4);have hI0:TD w w4 w3.heap.size gn un fn ln now v1 r seq 0 v1 ln r w4:=⟨by rw [HSQ.out];exact HBA.out.keeps hka4 bA,HB1.out.keeps hka4 bA,HB2.out.keeps hka4 bA,by rw [← hw4];exact Blk.new w3 _ _,HM4.out,rfl,HLN.out,by omega,fun _ _ h=>h,(Pj HBO.out).2,Aa.refl _ _⟩;have HI0:=lH hI0;have HPB:Hid (w.heap.size+3≤w3.heap.size∧w3.heap.size<w4.heap.size):=lH ⟨by have h1:=HK3.out.size;have h2:=HB2.out.lt;omega,by omega⟩;have HL64:=lH (Ly HBO.out);have HKA4:=lH (HKA.out.trans hka4);clear hI0 hw4 hk4 hka4 hk3 ra r3;refine Bx rfl bB (gf:=101) (lb:=#[dJ (some ⟨w3,0,none⟩)]) rfl trivial (enters_of Tryz.func101 bC rfl) (EU 8 w3.heap.size v1.la v1.lc ln v1.lv (by rw [AC.len HM1.out.t,HLN.out]) (by have:=HL64.out.1;have:=HLN.out;omega) seq) (fun _=>rfl)
   (fun pre A=>∃vk nk,TD w w4 w3.heap.size gn un fn ln now v1 r seq pre.length vk nk ((r.l.take pre.length).foldl (GK now) r) A) (fun _ _=>False)
   (fun pre A A' h hk=>by obtain⟨vk,nk,h⟩:=h;exact⟨vk,nk,h.keeps HM4.out HPB.out hk bF⟩)
   (fun pre A A' h hk=>h)
   (fun pre A h=>by obtain⟨_,_,h⟩:=h;exact⟨h.pb.cell 3,h.pb.cell 4,(HM4.out.l.keepsS h.kw (fun g o e=>by have h1:=HGE1.out.l g o e;have h2:=HSZ.out;simp only [Ac,Ab,or_false];omega))⟩) ⟨_,_,HI0.out⟩
   (fun k W=>(fun u:TV=>(({ tmps:=#[dK (R_ v gn un fn ln seq),dH dN now,dJ (some ⟨w,0,none⟩),dJ (some ⟨w.heap.size+1,0,none⟩),dJ (some ⟨w.heap.size+1+1,0,none⟩),undef,dJ (some ⟨W,0,none⟩),undef,undef,dK (R_ v gn un fn ln seq),dK (R_ v1 gn un fn ln seq),dK (R_ v1 gn un fn ln seq),dL true,dL false,undef,dK (R_ v1 gn un fn ln seq),
      .func (.func 101) #[] #[dJ (some ⟨w3,0,none⟩)],dH dN (k:Int),dK (U_ u seq),undef,undef,undef,undef,undef,undef,undef,undef,undef,undef,undef,undef,undef,undef,undef,undef,undef,undef,undef,undef,undef,undef,undef,undef,undef,undef,undef,undef,undef,undef,undef,undef,undef,undef,undef,undef,undef,undef,undef,undef,undef,undef,undef,undef,undef,undef,undef,undef,undef,undef],defers:=[] } : Act),W.alloc (.cells (U_ u seq) 126))) (v1.lv.getD k tv0))
   (fun k W=>(Aa.refl [] W).alloc _) ?assign ?body ?done ?stop
  case assign=>
   intro l k W K hK;simp only [JV];dsimp only at hK;generalize v1.lv.getD k tv0=u at hK ⊢;gi_wp2;exact hK
  case body=>
   rintro l pre k W W2 ⟨vk,nk,hI⟩ hpre hsz2 hk2;obtain⟨rfl,hkn⟩:=DN hpre;obtain⟨u,hu⟩:∃u,v1.lv[k]? = some u:=⟨_,Au (by rw [AC.len HM4.out.t,HLN.out];exact hkn)⟩;have hgd:v1.lv.getD k tv0=u:=by rw [AE,hu];rfl
   obtain⟨t,ht,htm⟩:=HM4.out.t.get? hu;dsimp only at hk2 ⊢;rw [hgd] at hk2 ⊢;rw [A8] at hI;have hI2:=(hI.keeps HM4.out HPB.out ((Aa.refl [] W).alloc (.cells (U_ u seq) 126)) bA).keeps HM4.out HPB.out hk2 bF;have hszW:W.heap.size+1≤W2.heap.size:=by have:=hk2.size;rw [World.size_alloc] at this;exact this
   have hb:=(Blk.new W 126 (U_ u seq)).keeps hk2 bI;obtain⟨rk,hrk⟩:=eX ((r.l.take k).foldl (GK now) r);rw [hrk] at hI2;have HNX:Hid ((r.l.take (A0 k++[k]).length).foldl (GK now) r=GK now rk t):=lH (by rw [Ag,A8,AW,AB ht,List.foldl_append,hrk];rfl);have HJ:=lH hI2;have HTM:=lH htm;have HHB:=lH hb;have HTT:=lH (HL64.out.2 t (Ex ht));have HW2:Hid (w4.heap.size+2≤W.heap.size∧W.heap.size<W2.heap.size):=lH ⟨hsz2,by omega⟩;have HUM:=lH (Ex hu);have rb:=hb.rl;have r0:=hI2.b0.rl;have r1:=hI2.b1.rl;clear hI hI2 hszW hb hrk hgd hu ht htm hk2 hsz2;by_cases hst:u.state≠3∨now<u.deadline∨1000000000000≤rk.seq
   ·have HN2:Hid (GK now rk t=rk):=lH (by unfold GK;rw [if_pos (by rw [← HTM.out.state,← HTM.out.deadline];exact hst)])
    have hc:(u.state != 3)=true∨((u.state != 3)=false∧decide (u.deadline>now)=true)∨((u.state != 3)=false∧decide (u.deadline>now)=false∧decide (rk.seq≥1000000000000)=true):=by
     by_cases h1:u.state=3
     ·have f1:(u.state != 3)=false:=by simpa using h1
      by_cases h2:now<u.deadline
      ·exact .inr (.inl ⟨f1,decide_eq_true h2⟩)
      ·exact .inr (.inr ⟨f1,decide_eq_false bB,decide_eq_true bB⟩)
     ·exact .inl bR
    clear hst;rcases hc with f1 | ⟨f1,f2⟩ | ⟨f1,f2,f3⟩
    all_goals
     gi_wp2_with (fail);refine⟨(fun _ h=>by cases h),?_⟩;gi_wp2_with (fail);refine EM (S:=[]) ((Aa.refl [] W2).alloc _) (Aa.refl [] _) (by have:=HW2.out;omega) bA bA ⟨vk,nk,?_⟩;rw [HNX.out,HN2.out];exact(HJ.out.keeps HM4.out HPB.out ((Aa.refl [] W2).alloc _) bA).up bA
   ·have hs3:u.state=3:=by omega
    have hs4:¬now<u.deadline:=by omega
    have hs5:¬1000000000000≤rk.seq:=by omega
    have HN2:Hid (GK now rk t=⟨rk.slots,FD rk.l { t with state:=2,deadline:=0,version:=t.version+1 },rk.seq+1⟩):=lH (by unfold GK;rw [if_neg (by rw [← HTM.out.state,← HTM.out.deadline];exact hst)]);have f1:(u.state != 3)=false:=by simpa using hs3
    have f2:decide (u.deadline>now)=false:=decide_eq_false bB;have f3:decide (rk.seq≥1000000000000)=false:=decide_eq_false bB;have HST:Hid (t.state=3):=lH (by rw [← HTM.out.state];exact hs3);have HSQ2:Hid (rk.seq<1000000000000):=lH bB;clear hst hs3 hs4 hs5;obtain⟨W3,hW3⟩:=eX (W2.alloc (.cells #[dH dN u.slot,dH dN u.gen,CZ u.name,dH dN u.state,dH dN u.version,dI u.ra u.rl u.rc,dI u.ca u.cl u.cc,dH dN u.deadline,dH dN seq,dH dN 0,CZ ⟨#[]⟩,dH dN 0,dH dN 0,dL false,dH dN 0,dH dN 0,dH dN 0,dH dN 0,CZ ⟨#[]⟩,dH dN 0,dH dN 0,dH dN now] 170));have hk3:Aa [] W2 W3:=by rw [← hW3];exact(Aa.refl [] W2).alloc _
    have HCB:Hid (Blk W3 W2.heap.size 170 (IM u seq Uf now)):=lH (by rw [← hW3];exact Blk.new W2 _ _);have r3:=hk3.rl;have HK3:=lH hk3;have HT3:Hid (BU W3 u t):=lH (HTM.out.ge (HGE1.out.t u HUM.out) (HJ.out.kw.trans (hk3.mono bA)) (by intro y hy;have:=HSZ.out;simp only [Ac,Ab,or_false] at hy;omega));have hsus:=Kf W2.heap.size u t seq Uf now W3 HCB.out HT3.out (EX.of HTM.out (by have:=HW2.out;omega));rw [if_pos (by rw [HST.out];decide)] at hsus;have HSUS:=lH hsus;clear hsus;clear hk3;gi_wp2_with (fail);clear hW3;refine⟨trivial,CallsIn.inRound l (callsIn_wide.2 (HSUS.out.mono ?_))⟩;rintro e w5 ⟨rfl,hok,hk5⟩;obtain⟨u2,hb5,ht5,hs5⟩:=hok rfl;have hver:u2.version=t.version:=ht5.version;have hw1:IntKind.i64.wrap (u2.version+1)=u2.version+1:=IntWalk.i64_in _ (by have:=HTT.out;omega);obtain⟨wf,hwf⟩:=eX (w5.setCell ⟨W2,4,none⟩ (dH dN (u2.version+1)));have hkf:Aa [W2.heap.size] w5 wf:=by rw [← hwf];exact Ae _ _ _ _
    have hk3f:Aa [W2.heap.size] W3 wf:=hk5.trans hkf;have hk2f:Aa [] W2 wf:=HK3.out.own hk3f bA;have HBF:Hid (Blk wf W2.heap.size 170 (IM { u2 with version:=u2.version+1 } seq Uf now)):=lH (by rw [← hwf];exact hb5.set_ 4 _);have HTF:Hid (BU wf { u2 with version:=u2.version+1 } { t with state:=2,deadline:=0,version:=t.version+1 }):=lH (by
     have h:=HTM.out.src ht5 hs5 hkf (by intro y hy;have h1:=HW2.out;have h2:=HCB.out.lt;simp only [Ac,Ab,or_false] at hy;omega);exact { h with version:=by dsimp only;rw [hver] })
    have HSF:Hid (EC W3.heap.size u { u2 with version:=u2.version+1 }):=lH hs5;have HJF:=lH (HJ.out.keeps HM4.out HPB.out hk2f bA);have HK2F:=lH hk2f;have x5:=hb5.rl;simp only [IM] at x5;clear hok hk5 hb5 ht5 hs5 hver hkf hk3f hk2f rb r0 r1 r3;simp only [Fa,if_true];gi_wp2_with (fail);clear hwf x5;have hvl:vk.lv.length=nk:=by rw [AC.len HJF.out.m.t,HJF.out.len]
    have hnk:nk≤ln+k∧ln≤64∧k<64:=by have h1:=HJF.out.sz;have h2:=(Pj HBO.out).1;have h3:=HLN.out;omega
    have hw2:IntKind.i64.wrap (rk.seq+1)=rk.seq+1:=IntWalk.i64_in _ (by have h1:=HSQ2.out;have h2:=HJF.out.sq;omega);have e1:¬W2.heap.size=w.heap.size:=by have h1:=HW2.out;have h2:=HPB.out;omega
    have z0:=HJF.out.b0.rl;have zc:=HBF.out.rl;simp only [IM] at zc;have HNK:=lH hnk;clear hnk;refine Be (S:=(Aa [w.heap.size] wf)) bC bC (fun _ _ h=>h) Xc (fun hHeld=>?_);refine rK 1 ?_;refine rK 2 ?_;refine rK 3 ?_;refine rK 4 ?_;refine rK 5 ?_;refine rC 0 fun K hK=>?_;go_simp
    (try clear rH);refine rP hK Xc fun rH hHeld=>?_;clear hK K
    refine rC 6 fun K hK=>?_;go_simp
    (refine(NB vk gn un fn nk hvl (by have:=HNK.out;omega) rk.seq { u2 with version:=u2.version+1 } _ (HJF.out.m.l.keeps ((Aa.refl [] wf).drew))).mono ?_;rintro e w6 ⟨a6,c6,rfl,hs6,hg6,hk6⟩;have hkw6:Aa [w.heap.size] wf w6:=hHeld.trans (hk6.mono bA);have hk6':Aa [] wf w6:=((Aa.refl [] wf).drew).trans hk6;clear z0;have z0:=(HJF.out.b0.keeps hk6' bA).rl)
    (try clear rH);refine rP hK Xc fun rH hHeld=>?_;clear hK K
    refine rC 7 fun K hK=>?_;go_simp
    (try clear rH);refine rP hK Xc fun rH hHeld=>?_;clear hK K
    refine wpAnyH_done bC ?_ _
    (gi_wp2_with (fail);refine EM (S:=[w.heap.size]) (HK2F.out.trans hk6') bJ (by have:=HW2.out;omega) Zo Zo ⟨⟨vk.s,a6,c6,CX vk.lv { u2 with version:=u2.version+1 }⟩,(CX vk.lv { u2 with version:=u2.version+1 }).length,?_⟩;rw [HNX.out,HN2.out];exact(HJF.out.next (HGE1.out.mono bP) HPB.out HUM.out HTF.out HSF.out (by have h1:=HW2.out;have h2:=HK3.out.size;omega) (by have h1:=HW2.out;have h2:=HK2F.out.size;omega) hk6' hs6 hg6 (by have:=HNK.out;omega) (by have:=HTT.out;dsimp only;omega)).up bA)
  case done=>
   rintro W ⟨vk,nk,hI⟩ hsz2 hK;rw [A8,Ax Zv] at hI;obtain⟨rk,hrk⟩:=eX (r.l.foldl (GK now) r);rw [hrk] at hI;have HRK:Hid (rk=R):=lH (by rw [← HR2.out,hrk]);have z0:=hI.b0.rl;have z2:=hI.b2.rl;have HJ:=lH hI;have HK:=lH hK;have HWS:Hid (w4.heap.size+2≤W.heap.size):=lH hsz2;clear hI hrk hK;gi_wp2_with (fail);have hkF:=F3 W (w.heap.size+1+1) (dI vk.s.ga gn vk.s.gc) (dI vk.s.ua un vk.s.uc) (dI vk.s.fa fn vk.s.fc) (dI vk.la nk vk.lc) (dH dN rk.seq);have hbF:=(HJ.out.b2.put5 (dI vk.s.ga gn vk.s.gc) (dI vk.s.ua un vk.s.uc) (dI vk.s.fa fn vk.s.fc) (dI vk.la nk vk.lc) (dH dN rk.seq)).keeps (Az (S:=[w4.heap.size]) (l:=w4.heap.size) _ (.deferred none) bA) Zo;have zF:=hbF.cell;refine⟨by simp,.inl ⟨_,_,rfl,run_takeDeferred ((hkF.block _ (by have:=HWS.out;omega) Zo).trans HK.out),?_⟩⟩;refine⟨dK (R_ vk gn un fn nk rk.seq),by simp [results,Tryz.results38,go_sem,zF],?_⟩;rw [← HRK.out];have hkT:=(hkF.mono (S':=[w.heap.size+1+1,w4.heap.size]) bA).trans (Az (S:=[w.heap.size+1+1,w4.heap.size]) (l:=w4.heap.size) _ (.deferred none) bA);have hS:∀y∈[w.heap.size+1+1,w4.heap.size],w.heap.size≤y∧y<w4.heap.size+2:=fun y hy=>by have:=HPB.out;simp only [Ac,Ab,or_false] at hy;omega
   have hn1:CK (·∈[w.heap.size+1+1,w4.heap.size]) v1 r:=(HM4.out.later (Q:=(w4.heap.size≤·)) (fun _ h=>h)).and2 (HGE1.out.no (Q:=(· < wz.heap.size)) (fun _ h=>h)) (fun y hy=>by have:=HSZ.out;simp only [Ac,Ab,or_false] at hy;omega);exact⟨vk,gn,un,fn,nk,_,rfl,rfl,by rw [HJ.out.slots];exact HG.out,by rw [HJ.out.slots];exact HU.out,by rw [HJ.out.slots];exact HF.out,HJ.out.len,HJ.out.m.stay (HJ.out.go_ _ (fun y hy=>(hS y hy).2) hn1) hkT (fun y hy=>hy),HJ.out.go_ _ (fun y hy=>by have:=HPB.out;omega) (HGE1.out.no (fun y hy=>by have:=HSZ.out;omega)),(HKA4.out.own HJ.out.kw bF).own hkT (fun y hy=>(hS y hy).1)⟩
  case stop=>
   rintro pre W hpre hX hsz2 hK;exact hX.elim
theorem S1(j:BC)(b:Bool)(hb:Mf j=b)(w:World):Calls Tryz.prog 43 #[dK #[dH dN j.conn,dH dN j.phase,CZ j.line,CZ j.req.who,dH dN j.req.id,dH dN j.req.com.verb,CZ j.req.com.name,dH dN j.req.com.want,dH dN j.req.com.at_,dL j.req.com.rule.allow,dH dN j.req.com.rule.addr,dH dN j.req.com.rule.bits,dH dN j.req.com.rule.from_,dH dN j.req.com.rule.to_,CZ j.req.com.key,dH dN j.req.com.n,dH dN j.req.com.m,dH dN j.req.count,dH dN j.req.cursor,dH dN j.req.from_,dH dN j.role,CZ j.reply,dH dN j.slot,dH dN j.gen]] w fun e w'=>e = dM (dL b)∧Aa [] w w':=by
 obtain⟨a1,h1⟩:=eX (decide (j.conn≥0));obtain⟨a2,h2⟩:=eX (decide (j.conn<4));obtain⟨a3,h3⟩:=eX (decide (j.phase≥1));obtain⟨a4,h4⟩:=eX (decide (j.phase≤5));obtain⟨a5,h5⟩:=eX (decide (j.req.id≥0));obtain⟨a6,h6⟩:=eX (decide (j.req.id≤1000000));have HB:Hid ((a1&&a2&&a3&&a4&&a5&&a6)=b):=lH (by rw [← hb,← h1,← h2,← h3,← h4,← h5,← h6];rfl);have HK:Hid (∀o,Aa [] w (w.alloc o)):=lH fun o=>(Aa.refl [] w).alloc o;clear hb;have hb:=HB.out;go_enter Tryz.func43,Tryz.ntmps43;cases a1<;>cases a2<;>cases a3<;>cases a4<;>cases a5<;>(simp only [De,D4,Bool.and_true,Bool.and_false] at hb;subst hb;go_wp2;go_ret;exact⟨rfl,HK.out _⟩)
theorem QS(k:Int)(b:Bool)(hb:Jo k=b)(w:World):Calls Tryz.prog 184 #[dH dN k] w fun e w'=>e = dM (dL b)∧w=w':=by
 obtain⟨a1,h1⟩:=eX ((k==2));obtain⟨a2,h2⟩:=eX ((k==5));obtain⟨a3,h3⟩:=eX ((k==8));have hb:(a1||a2||a3)=b:=by rw [← hb,← h1,← h2,← h3];rfl
 go_enter Tryz.func184,Tryz.ntmps184;cases a1<;>cases a2<;>(simp only [Bool.true_or,Bool.false_or] at hb;subst hb;go_wp2;go_ret;exact⟨rfl,rfl⟩)
def I9(j:BC)(x0 x1 x2 x3 x4 x5 x6 x7 x8 x9:Value)(now left:Int)(e:Gm):Array Value:=#[dH dN j.conn,dH dN j.phase,CZ j.line,CZ j.req.who,dH dN j.req.id,dH dN j.req.com.verb,CZ j.req.com.name,dH dN j.req.com.want,dH dN j.req.com.at_,dL j.req.com.rule.allow,dH dN j.req.com.rule.addr,dH dN j.req.com.rule.bits,dH dN j.req.com.rule.from_,dH dN j.req.com.rule.to_,CZ j.req.com.key,dH dN j.req.com.n,dH dN j.req.com.m,dH dN j.req.count,dH dN j.req.cursor,dH dN j.req.from_,dH dN j.role,CZ j.reply,dH dN j.slot,dH dN j.gen,x0,x1,x2,x3,x4,x5,x6,x7,x8,x9,dH dN now,dH dN left,dH dN e.kind,dH dN e.slot,dH dN e.gen,CZ e.text]
theorem FG(sb:Nat)(j:BC)(x0 x1 x2 x3 x4 x5 x6 x7 x8 x9:Value)(now left:Int)(e:Gm)(t:ByteArray)(w:World)(h:Blk w sb 149 (I9 j x0 x1 x2 x3 x4 x5 x6 x7 x8 x9 now left e)):
  Calls Tryz.prog 181 #[dJ (some ⟨sb,0,none⟩),CZ t] w fun r w'=>r = dM (.tuple #[])∧Blk w' sb 149 (I9 (j.answers t) x0 x1 x2 x3 x4 x5 x6 x7 x8 x9 now left e)∧Aa [sb] w w':=by
 have q:=h.rl;simp only [I9] at q;have HB:Hid (Blk ((w.setCell ⟨sb,21,none⟩ (CZ t)).setCell ⟨sb,1,none⟩ (dH dN 5)) sb 149 (I9 (j.answers t) x0 x1 x2 x3 x4 x5 x6 x7 x8 x9 now left e)):=lH ((h.set_ 21 _).set_ 1 _);have HK:=lH ((Ae w sb 21 (CZ t)).trans (Ae _ sb 1 (dH dN 5)));clear h;go_enter Tryz.func181,Tryz.ntmps181;go_wp2
 go_end0
 exact⟨rfl,HB.out,HK.out⟩
end
end Go.Proofs.YtcjdkbgdahgjbaaGreatDoor
