/- Steps of the proof: RegE, RegG, CreC, CreD, RowE. -/
import Derived.Test.YtcjdkbgdahgjbaaGreatDoorK0
import Derived.Test.YtcjdkbgdahgjbaaGreatDoorKac
import Derived.Test.YtcjdkbgdahgjbaaGreatDoorKag
import Derived.Test.YtcjdkbgdahgjbaaGreatDoorKah
import Derived.Test.YtcjdkbgdahgjbaaGreatDoorKai
import Derived.Test.YtcjdkbgdahgjbaaGreatDoorKaj
import Derived.Test.YtcjdkbgdahgjbaaGreatDoorKak
import Derived.Test.YtcjdkbgdahgjbaaGreatDoorKaz
import Derived.Deep.AppendSrc
import Derived.Deep.RegionLaw
set_option maxRecDepth 100000
set_option maxHeartbeats 8000000
set_option linter.all false
namespace Go.Proofs.YtcjdkbgdahgjbaaGreatDoor
open _root_.And renaming intro→AZ
open _root_.Array renaming length_toList→BL,replicate_succ→Bc,replicate_zero→Bd
open _root_.Bool renaming and_assoc→DW,and_eq_true→Af,true_and→De
open Builtin renaming append_→Bo,zeroCells→A5
open Ending renaming returned→dM
open Instr renaming slice→AG
open IntKind renaming i64→dN
open _root_.List renaming all_eq_true→BB,append_assoc→CO,append_toArray→B0,cons_append→A6,flatMap_append→Bt,getD_eq_getElem?_getD→AE,getElem?_cons_succ→Al,getElem?_cons_zero→Ah,getElem?_eq_getElem→Au,getElem?_eq_some_iff→Ad,getElem?_take→Ds,getElem?_toArray→Ai,length_append→Ag,length_cons→Ao,length_drop→Bi,length_map→BX,length_nil→Eh,length_range→A8,length_singleton→AW,length_take→A7,map_cons→Cn,mem_cons→Ac,mem_flatMap→DL,mem_of_getElem?→Ex,nil_append→AX,not_mem_nil→Ab,push_toArray→By,range→A0,size_toArray→Cx,take_append_drop→Bj,take_append_of_le_length→DJ,take_of_length_le→Ax
open _root_.Nat renaming add_zero→CG,le_trans→As,lt_of_lt_of_le→AT,min_eq_left→DP,mul_le_mul_right→BW,zero_add→BI,zero_le→Cy
open Result renaming andThen→AI
open Value renaming agg→dK,bool→dL,int→dH,pointer→dJ,slice→dI,string→CZ
open World renaming block_lt_of_cell?→A4,ownsRow_nil→Bz
section
open Go.RowKit Go.Shelf
attribute [local go_sem] Oper.semAt_some
attribute [local go_sem ↓] Go.wp_at_zero Go.wp_at_succ
theorem ON{w:World}: ∀ {V:List TV} {L:List Ten},AC w V L→V.map (·.name)=L.map (·.name)
 | [],[],_=>rfl
 | v::V,t::L,h=>by rw [Cn,Cn,ON h.2,h.1.name]
 | [],_::_,h=>h.elim
 | _::_,[],h=>h.elim
structure XY(w:World)(v:Bm)(gn un fn ln:Nat)(seq:Int)(ns:List ByteArray)(A:World):Prop where
 run:∃x,A.ownsRow (w.heap.size+5) 9 1 x ns.length (ns.flatMap EZ)∧Blk A (w.heap.size+1) 41 #[x]
 pb:Blk A (w.heap.size+1+1) 29 (R_ v gn un fn ln seq)
 kw:Aa [] w A
theorem XY.keeps{w:World}{v:Bm}{gn un fn ln:Nat}{seq:Int}{ns:List ByteArray}{A A':World}{S:List Nat}(h:XY w v gn un fn ln seq ns A)(hk:Aa S A A')(hS:∀y∈S,w.heap.size+3≤y∧y<w.heap.size+5):XY w v gn un fn ln seq ns A':=by
 obtain⟨x,h1,h2⟩:=h.run;have hn:∀y,y<w.heap.size+3→y∉S:=fun y hy hm=>by have:=hS y hm;omega
 exact⟨⟨x,Ak h1 hk (fun g hg2 hm=>by have:=(h1.lt g hg2).1;have:=hS g hm;omega),h2.keeps hk (hn _ bB)⟩,h.pb.keeps hk (hn _ bB),h.kw.own hk bM⟩
theorem RI(v:Bm)(r:CE)(gn un fn ln:Nat)(hln:v.lv.length=ln)(h1000:ln≤1000)(seq:Int)(hsq:r.seq=seq)(w:World)(hl:AJ BM 8 w v.la v.lc v.lv)(ht:AC w v.lv r.l):
  Calls Tryz.prog 16 #[dK (R_ v gn un fn ln seq)] w fun x w'=>∃a c,x = dM (dI a ln c)∧IF w' a c (BN r)∧w'.ownsRow w.heap.size 9 1 (dI a ln c) (BN r).length ((BN r).flatMap EZ)∧Aa [] w w':=by
 subst hsq;obtain⟨seq,hseq⟩:=eX (r.seq);have htn:=fun W=>ET v r gn un fn ln W;rw [hseq] at htn ⊢;refine(callsIn_wide (n:=9)).1 ?_;have HL:=lH hl;have HT:=lH ht;have HLN:=lH hln;have HTN:=lH htn;clear hl ht hln htn hseq;refine callsIn_of_wp_marks Tryz.func16 rfl trivial ?_ rfl;simp only [Tryz.ntmps16,Cx,Ao,Eh,Nat.reduceAdd,Nat.reduceSub,Bc,Bd,By,B0,AX,A6];gi_wp2_with (fail);refine⟨trivial,(callsIn_wide.2 (HTN.out _)).mono ?_⟩;rintro e w1 ⟨rfl,hw1⟩;gi_wp2_with (fail);have hsz:w1.heap.size=w.heap.size+3:=by rw [← hw1];simp
 have hI0:XY w v gn un fn ln seq [] w1:=by
  have hk:Aa [] w w1:=by rw [← hw1];exact(((Aa.refl [] w).alloc _).alloc _).alloc _
  refine⟨⟨dI none 0 0,Bz _ _ _ _,?_⟩,?_,hk⟩<;>rw [← hw1]
  ·exact(Aq _ _ _ _ bA).alloc _
  ·exact Aq _ _ _ _ bA
 have HI0:=lH hI0;clear hI0 hw1;refine Bx rfl bB (gf:=101) (lb:=#[dJ (some ⟨w.heap.size+1+1,0,none⟩)]) rfl trivial (enters_of Tryz.func101 bC rfl) (EU 8 (w.heap.size+1+1) v.la v.lc ln v.lv HLN.out h1000 seq) (fun _=>rfl)
  (fun pre A=>XY w v gn un fn ln seq ((v.lv.take pre.length).map (fun t:TV=>t.name)) A) (fun _ _=>False)
  (fun pre A A' h hk=>h.keeps hk bF)
  (fun pre A A' h hk=>h)
  (fun pre A h=>⟨h.pb.cell 3,h.pb.cell 4,HL.out.keeps h.kw⟩) HI0.out
  (fun k W=>(fun u:TV=>(({ tmps:=#[dK (R_ v gn un fn ln seq),dJ (some ⟨w,0,none⟩),dI none 0 0,dJ (some ⟨w.heap.size+1,0,none⟩),undef,dJ (some ⟨W,0,none⟩),dK (R_ v gn un fn ln seq),
     .func (.func 101) #[] #[dJ (some ⟨w.heap.size+1+1,0,none⟩)],dH dN (k:Int),dK (U_ u seq),undef,undef,undef,undef,undef,undef,undef],defers:=[] } : Act),W.alloc (.cells (U_ u seq) 126))) (v.lv.getD k tv0))
  (fun k W=>(Aa.refl [] W).alloc _) ?assign ?body ?done ?stop
 case assign=>
  intro l k W K hK;simp only [JV];dsimp only at hK;generalize v.lv.getD k tv0=u at hK ⊢;gi_wp2;exact hK
 case body=>
  rintro l pre k W W2 hI hpre hsz2 hk2;obtain⟨rfl,hkn⟩:=DN hpre;obtain⟨u,hu⟩:∃u,v.lv[k]? = some u:=⟨_,Au Yf⟩;have hgd:v.lv.getD k tv0=u:=by rw [AE,hu];rfl
  dsimp only at hk2 ⊢;rw [hgd] at hk2 ⊢;rw [A8] at hI;have hszW:W.heap.size+1≤W2.heap.size:=by have:=hk2.size;rw [World.size_alloc] at this;exact this
  have hI2:=(hI.keeps ((Aa.refl [] W).alloc (.cells (U_ u seq) 126)) bA).keeps hk2 bF;have hb:=(Blk.new W 126 (U_ u seq)).keeps hk2 bI;have HNS:Hid ((v.lv.take (A0 k++[k]).length).map (·.name)=(v.lv.take k).map (·.name)++[u.name]):=lH (by rw [Ag,A8,AW,AB hu,List.map_append];rfl);obtain⟨ns,hns⟩:=eX ((v.lv.take k).map (·.name));have hlen:ns.length≤1000:=by rw [← hns,BX,A7];omega
  rw [hns] at hI2 HNS;obtain⟨x,hrow,hob⟩:=hI2.run;obtain⟨g,c,W3,hrun,hrow3,hk3,hge⟩:=C8 (enc:=EZ) Tryz.prog (t:=41) Tryz.underlying41 Fm bE D9 FZ hrow bB u.name bB 41;have d2:=hb.ce 2;have q0:=hob.ce 0;have hgeS:=AP hrow;have hob3:=hob.keeps hk3 (fun hm=>by have:=hgeS _ hm;omega);have q3:=hob3.ce 0;have f3:=hob3.frozen 0;have HOB3:=lH (hob3.set_ 0 (dI (some ⟨g,0,none⟩) (ns.length+1) c));obtain⟨m,hm⟩:=eX (ns.length+1);have HPB:=lH (hI2.pb.keeps hk3 (fun hm=>by have:=hgeS _ hm;omega));have HKW:=lH (hI2.kw.own hk3 Y8);have HROW:=lH hrow3;have HSZ:Hid (W2.heap.size≤W3.heap.size):=lH hk3.size;have HBL:Hid (∀k∈[w1.heap.size,w1.heap.size+1],W3.heap[k]? = W2.heap[k]?):=lH (fun k hk=>hk3.block k ZO (fun hm=>by have:=hgeS k hm;simp only [Ac,Ab,or_false] at hk;omega));rw [hm] at hrun HOB3 HROW;simp only [EZ] at hrun;clear hI hpre hk2 hI2 hb hrow hob hlen hrow3 hk3 hge hgeS hob3 hm hgd hu hns;gi_wp2_with (gi_at_builtin;refine DV _ rfl _ _ 41 rfl rfl rfl hrun ?_);have hk4:Aa [w.heap.size+1] W3 (W3.setCell ⟨w.heap.size+1,0,none⟩ (dI (some ⟨g,0,none⟩) m c)):=Ae _ _ _ _;have h9:=Ak HROW.out hk4 (fun g' hg' hm'=>by have:=(HROW.out.lt g' hg').1;simp only [Ac,Ab,or_false] at hm';omega);refine⟨As HSZ.out hk4.size,fun y hy=>(hk4.block y ZL Yc).trans (HBL.out y hy),?_⟩;show XY w v gn un fn ln seq ((v.lv.take (A0 k++[k]).length).map (fun t:TV=>t.name)) _;rw [HNS.out];exact⟨⟨_,h9,HOB3.out⟩,HPB.out.keeps hk4 bA,HKW.out.own hk4 bF⟩
 case done=>
  rintro W hI hsz2 hK;rw [A8,Ax Zv] at hI;have HNR:Hid (v.lv.map (·.name)=BN r):=lH (ON HT.out);have HNL:Hid ((v.lv.map (·.name)).length=ln):=lH (by rw [BX];exact HLN.out);obtain⟨ns,hns⟩:=eX (v.lv.map (·.name));rw [hns] at hI HNR HNL;obtain⟨x,hrow,hob⟩:=hI.run;have q0:=hob.ce 0;have HROW:=lH hrow;have HKW:=lH hI.kw;clear hI hrow hob hns;gi_wp2;refine⟨by simp,.inl ⟨_,_,rfl,run_takeDeferred hK,?_⟩⟩;have hk4:=Az (S:=[w1.heap.size]) W (.deferred none) (l:=w1.heap.size) bA;have hrow2:=Ak HROW.out hk4 (fun g hg hm=>by have:=(HROW.out.lt g hg).1;simp only [Ac,Ab,or_false] at hm;omega);obtain⟨a,c,rfl,hsl,_⟩:=AJ.of_row D9 hrow2;have hrow3:=Ak HROW.out hk4 (fun g hg hm=>by have:=(HROW.out.lt g hg).1;simp only [Ac,Ab,or_false] at hm;omega);refine⟨_,by simp [results,Tryz.results16,go_sem];rfl,?_⟩;exact⟨a,c,by rw [HNL.out],by rw [← HNR.out];exact hsl,by rw [← HNR.out,← HNL.out];exact Bg hrow3 bB,HKW.out.own hk4 bF⟩
 case stop=>
  rintro pre W hpre hX hsz2 hK;exact hX.elim
def Fa(n:Int):Value:=if n=0 then .nilIface else .iface 239 (dK #[dH dN n])
def IM(u:TV)(seq:Int)(c:FF)(now:Int):Array Value:=#[dH dN u.slot,dH dN u.gen,CZ u.name,dH dN u.state,dH dN u.version,dI u.ra u.rl u.rc,dI u.ca u.cl u.cc,dH dN u.deadline,dH dN seq,
 dH dN c.verb,CZ c.name,dH dN c.want,dH dN c.at_,dL c.rule.allow,dH dN c.rule.addr,dH dN c.rule.bits,dH dN c.rule.from_,dH dN c.rule.to_,CZ c.key,dH dN c.n,dH dN c.m,dH dN now]
def Cp(B:Nat)(a:Option Addr):Prop:=∀g o,a=some ⟨g,o,none⟩→B≤g
def K2(B:Nat)(u:TV):Prop:=Cp B u.ra∧Cp B u.ca
theorem Cp.mono{B B':Nat}{a:Option Addr}(h:Cp B a)(hb:B'≤B):Cp B' a:=fun g o e=>As hb (h g o e)
theorem Cp.out{B:Nat}{a:Option Addr}(h:Cp B a){S:List Nat}(hS:∀y∈S,y<B):∀g o,a=some ⟨g,o,none⟩→g∉S:=fun g o e hm=>by
 have:=h g o e;have:=hS g hm;omega
theorem Cp.none_(B:Nat):Cp B none:=fun _ _ e=>by cases e
theorem K2.mono{B B':Nat}{u:TV}(h:K2 B u)(hb:B'≤B):K2 B' u:=⟨h.1.mono hb,h.2.mono hb⟩
def EC(B:Nat)(u u':TV):Prop:=((u'.ra=u.ra∧u'.rl=u.rl)∨Cp B u'.ra)∧((u'.ca=u.ca∧u'.cl=u.cl)∨Cp B u'.ca)
def Fq(cb:Nat)(u:TV)(seq:Int)(c:FF)(now:Int)(res:Ten×Int)(w:World):Ending→World→Prop:=fun e w'=>e = dM (Fa res.2)∧(res.2=0→∃u',Blk w' cb 170 (IM u' seq c now)∧BU w' u' res.1∧EC w.heap.size u u')∧Aa [cb] w w'
theorem BU.keepsS{w w':World}{v:TV}{t:Ten}{S:List Nat}(h:BU w v t)(hk:Aa S w w')(h1:∀g o,v.ra=some ⟨g,o,none⟩→g∉S)(h2:∀g o,v.ca=some ⟨g,o,none⟩→g∉S):BU w' v t:={ h with rs:=h.rs.keepsS hk h1,cs:=h.cs.keepsS hk h2 }
def EX(cb:Nat)(u:TV):Prop:=(0<u.rl→∀g o,u.ra=some ⟨g,o,none⟩→g≠cb)∧(0<u.cl→∀g o,u.ca=some ⟨g,o,none⟩→g≠cb)
theorem AJ.keepsN{α:Type}{enc:α→List Value}{n:Nat}{w w':World}{a:Option Addr}{c:Nat}{xs:List α}{S:List Nat}(h:AJ enc n w a c xs)(hk:Aa S w w')(hS:0<xs.length→∀g off,a=some ⟨g,off,none⟩→g∉S):AJ enc n w' a c xs:=
 ⟨h.le,h.nil,fun h0=>by
  obtain⟨g,off,ha,hg,hc⟩:=h.at_ h0;exact⟨g,off,ha,AT hg hk.size,fun i hi j u hj=>(hk.cell (p:=⟨g,off+i*n+j,none⟩) hg (hS h0 g off ha)).trans (hc i hi j u hj)⟩⟩
theorem BU.far{w w':World}{v:TV}{t:Ten}{cb:Nat}(h:BU w v t)(hk:Aa [cb] w w')(hf:EX cb v):BU w' v t:={ h with rs:=h.rs.keepsN hk (fun h0 g o e=>by simpa using hf.1 (by rw [← h.rl];exact h0) g o e),cs:=h.cs.keepsN hk (fun h0 g o e=>by simpa using hf.2 (by rw [← h.cl];exact h0) g o e) }
theorem BU.src{w0 W w':World}{B:Nat}{u u':TV}{t t':Ten}{S:List Nat}(h0:BU w0 u t)(h:BU W u' t')(hs:EC B u u')(hk:Aa S W w')(hS:∀y∈S,w0.heap.size≤y∧y<B):BU w' u' t':=
 { h with rs:=h.rs.keepsN hk (fun hp g o e hm=>by
   have hy:=hS g hm;rcases hs.1 with e1 | e1
   ·obtain⟨g',o',e',hl,_⟩:=h0.rs.at_ (by rw [h0.rl,← e1.2,← h.rl];exact hp)
    rw [← e1.1,e] at e';injection e' with e';injection e' with e' _ _
    omega
   ·have:=e1 g o e;omega),cs:=h.cs.keepsN hk (fun hp g o e hm=>by
   have hy:=hS g hm;rcases hs.2 with e1 | e1
   ·obtain⟨g',o',e',hl,_⟩:=h0.cs.at_ (by rw [h0.cl,← e1.2,← h.cl];exact hp)
    rw [← e1.1,e] at e';injection e' with e';injection e' with e' _ _
    omega
   ·have:=e1 g o e;omega) }
theorem EX.of{w:World}{v:TV}{t:Ten}{cb:Nat}(h:BU w v t)(hc:w.heap.size≤cb):EX cb v:=
 ⟨fun h0 g o e=>by
  obtain⟨g',o',e',hl,_⟩:=h.rs.at_ (by rw [h.rl];exact h0);rw [e'] at e;injection e with e;injection e with e _ _
  omega,fun h0 g o e=>by
  obtain⟨g',o',e',hl,_⟩:=h.cs.at_ (by rw [h.cl];exact h0);rw [e'] at e;injection e with e;injection e with e _ _
  omega⟩
theorem NI(cb:Nat)(st:Int)(w:World):Calls Tryz.prog 146 #[dJ (some ⟨cb,0,none⟩),dH dN st,dL false] w fun e w'=>e = dM (.iface 239 (dK #[dH dN 156]))∧w=w':=by
 go_enter Tryz.func146,Tryz.ntmps146;go_wp2;go_ret;exact⟨rfl,rfl⟩
theorem LK(cb:Nat)(u:TV)(seq:Int)(c:FF)(now st:Int)(w:World)(h:Blk w cb 170 (IM u seq c now)):Calls Tryz.prog 146 #[dJ (some ⟨cb,0,none⟩),dH dN st,dL true] w fun e w'=>e = dM .nilIface∧Blk w' cb 170 (IM { u with state:=st,deadline:=0 } seq c now)∧Aa [cb] w w':=by
 have c3:=h.cell 3;have c7:=h.cell 7;have f3:=h.frozen 3;have f7:=h.frozen 7;simp only [IM,Ai,Ah,Al] at c3 c7;have HB:Hid (Blk ((w.setCell ⟨cb,3,none⟩ (dH dN st)).setCell ⟨cb,7,none⟩ (dH dN 0)) cb 170 (IM { u with state:=st,deadline:=0 } seq c now)):=lH ((h.set_ 3 (dH dN st)).set_ 7 (dH dN 0));have HK:Hid (Aa [cb] w ((w.setCell ⟨cb,3,none⟩ (dH dN st)).setCell ⟨cb,7,none⟩ (dH dN 0))):=lH ((Ae w cb 3 _).trans (Ae _ cb 7 _));clear h;go_enter Tryz.func146,Tryz.ntmps146;go_wp2;go_ret;exact⟨rfl,HB.out,HK.out⟩
theorem Kf(cb:Nat)(u:TV)(t:Ten)(seq:Int)(c:FF)(now:Int)(w:World)(h:Blk w cb 170 (IM u seq c now))(ht:BU w u t)(hf:EX cb u):Calls Tryz.prog 80 #[dJ (some ⟨cb,0,none⟩)] w (Fq cb u seq c now (if t.state≠2 then({ t with state:=2,deadline:=0 },0) else(t,156)) w):=by
 have c3:=h.cell 3;simp only [IM,Ai,Ah,Al] at c3;have HB:=lH h;have HT:=lH ht;have HF:=lH hf;have hst:=ht.state;by_cases hs:u.state=2
 ·rw [if_neg (by rw [← hst];simpa using hs)]
  have f1:(u.state != 2)=false:=by simpa using hs
  clear h ht hf hst hs;go_enter Tryz.func80,Tryz.ntmps80;go_wp2_with (fail);refine(NI cb 2 w).mono ?_;rintro e w1 ⟨rfl,rfl⟩;go_wp2;go_ret;exact⟨rfl,(fun e=>by cases e),Aa.refl _ _⟩
 ·rw [if_pos YC]
  have f1:(u.state != 2)=true:=by simpa using hs
  clear h ht hf hst hs;go_enter Tryz.func80,Tryz.ntmps80;go_wp2_with (fail);refine(LK cb u seq c now 2 w HB.out).mono ?_;rintro e w1 ⟨rfl,hb,hk⟩;have HB1:=lH hb;have HK:=lH hk;clear hb hk;go_wp2;go_ret;exact⟨rfl,fun _=>⟨_,HB1.out,{ HT.out.far HK.out HF.out with state:=rfl,deadline:=rfl },⟨.inl ⟨rfl,rfl⟩,.inl ⟨rfl,rfl⟩⟩⟩,HK.out⟩
theorem QL(cb:Nat)(u:TV)(t:Ten)(seq:Int)(c:FF)(now:Int)(w:World)(h:Blk w cb 170 (IM u seq c now))(ht:BU w u t)(hf:EX cb u):Calls Tryz.prog 247 #[dJ (some ⟨cb,0,none⟩)] w (Fq cb u seq c now (if t.state=2 then({ t with state:=1,deadline:=0 },0) else(t,156)) w):=by
 have c3:=h.cell 3;simp only [IM,Ai,Ah,Al] at c3;have HB:=lH h;have HT:=lH ht;have HF:=lH hf;have hst:=ht.state;by_cases hs:u.state=2
 ·rw [if_pos YC]
  have f1:(u.state==2)=true:=by simpa using hs
  clear h ht hf hst hs;go_enter Tryz.func247,Tryz.ntmps247;go_wp2_with (fail);refine(LK cb u seq c now 1 w HB.out).mono ?_;rintro e w1 ⟨rfl,hb,hk⟩;have HB1:=lH hb;have HK:=lH hk;clear hb hk;go_wp2;go_ret;exact⟨rfl,fun _=>⟨_,HB1.out,{ HT.out.far HK.out HF.out with state:=rfl,deadline:=rfl },⟨.inl ⟨rfl,rfl⟩,.inl ⟨rfl,rfl⟩⟩⟩,HK.out⟩
 ·rw [if_neg YC]
  have f1:(u.state==2)=false:=by simpa using hs
  clear h ht hf hst hs;go_enter Tryz.func247,Tryz.ntmps247;go_wp2_with (fail);refine(NI cb 1 w).mono ?_;rintro e w1 ⟨rfl,rfl⟩;go_wp2;go_ret;exact⟨rfl,(fun e=>by cases e),Aa.refl _ _⟩
theorem Hd(cb:Nat)(u:TV)(t:Ten)(seq:Int)(c:FF)(now:Int)(w:World)(h:Blk w cb 170 (IM u seq c now))(ht:BU w u t):Calls Tryz.prog 251 #[dJ (some ⟨cb,0,none⟩)] w (Fq cb u seq c now (t,0) w):=by
 have HB:=lH h;have HT:=lH ht;clear h ht;go_enter Tryz.func251,Tryz.ntmps251;go_wp2;go_ret;exact⟨rfl,fun _=>⟨u,HB.out,HT.out,⟨.inl ⟨rfl,rfl⟩,.inl ⟨rfl,rfl⟩⟩⟩,Aa.refl _ _⟩
theorem IA(n:Int)(w:World):Calls Tryz.prog 296 #[dH dN n] w fun e w'=>e = dM (Fa n)∧w=w':=by
 by_cases h:n=0
 ·subst h
  go_enter Tryz.func296,Tryz.ntmps296;go_wp2;go_ret;exact⟨rfl,rfl⟩
 ·have f1:(n != 0)=true:=by simpa using h
  simp only [Fa,if_neg h];clear h;go_enter Tryz.func296,Tryz.ntmps296;go_wp2;go_ret;exact⟨rfl,rfl⟩
theorem Blk.put4{w:World}{g:Nat}{t:TypeId}{x0 x1 x2 x3:Value}(h:Blk w g t #[x0,x1,x2,x3])(a b c d:Value):Blk ((((w.setCell ⟨g,0,none⟩ a).setCell ⟨g,1,none⟩ b).setCell ⟨g,2,none⟩ c).setCell ⟨g,3,none⟩ d) g t #[a,b,c,d]:=(((h.set_ 0 a).set_ 1 b).set_ 2 c).set_ 3 d
theorem Gy(w:World)(g:Nat)(a b c d:Value):Aa [g] w ((((w.setCell ⟨g,0,none⟩ a).setCell ⟨g,1,none⟩ b).setCell ⟨g,2,none⟩ c).setCell ⟨g,3,none⟩ d):=(F1 w g a b c).trans (Ae _ g 3 d)
def E8(now ov:Int)(c:Ey):Ey:=if c.to_≤now then⟨0,⟨#[]⟩,0,0⟩ else { c with to_:=if now+ov<c.to_ then now+ov else c.to_ }
theorem Lo(l:List Ey)(now ov:Int):BE l now ov=l.filterMap fun c=>if(E8 now ov c).from_<(E8 now ov c).to_ then some (E8 now ov c) else none:=by
 unfold BE
 congr 1
 funext c
 unfold E8;split
 ·simp
 ·rfl
theorem Ln{L:List Ey}{k:Nat}{c:Ey}(h:L[k]? = some c)(now ov:Int):BE (L.take (k+1)) now ov=BE (L.take k) now ov++(if(E8 now ov c).from_<(E8 now ov c).to_ then [E8 now ov c] else []):=by
 rw [Lo,Lo,AB h,List.filterMap_append]
 congr 1
 by_cases hl:(E8 now ov c).from_<(E8 now ov c).to_<;>simp [hl]
theorem ME(L:List Ey)(now ov:Int):(BE L now ov).length≤L.length:=List.length_filterMap_le _ _
theorem SF{L:List Ey}{k:Nat}{c:Ey}(h:L[k]? = some c):Dm (L.take (k+1))=c.id+1:=by
 rw [AB h];simp [Dm]
theorem Vr(c:Ey)(ib nb ob:Nat)(i0 now ov:Int)(hi:wrap64 (c.id+1)=c.id+1)(hs:IntKind.i64.wrap (now+ov)=now+ov)(w:World)(h:Blk w ib 3 #[dH dN i0])(hn:w.cell? ⟨nb,0,none⟩=some (dH dN now))(ho:w.cell? ⟨ob,0,none⟩=some (dH dN ov))(hne:nb≠ib)(hoe:ob≠ib):
  Calls Tryz.prog 295 #[dK #[dH dN c.id,CZ c.key,dH dN c.from_,dH dN c.to_],dJ (some ⟨ib,0,none⟩),dJ (some ⟨nb,0,none⟩),dJ (some ⟨ob,0,none⟩)] w
   fun e w'=>e = dM (dK #[dH dN (E8 now ov c).id,CZ (E8 now ov c).key,dH dN (E8 now ov c).from_,dH dN (E8 now ov c).to_])∧Blk w' ib 3 #[dH dN (c.id+1)]∧Aa [ib] w w':=by
 obtain⟨i,ky,fr,tt⟩:=c;dsimp only at hi ⊢;obtain⟨wz,hwz⟩:=eX ((w.alloc (.cells #[dH dN i,CZ ky,dH dN fr,dH dN tt] 233)).alloc (.cells #[dH dN 0,CZ ⟨#[]⟩,dH dN 0,dH dN 0] 233));have hK0:Aa [] w wz:=by rw [← hwz];exact((Aa.refl [] w).alloc _).alloc _
 have hB4:Blk wz w.heap.size 233 #[dH dN i,CZ ky,dH dN fr,dH dN tt]:=by rw [← hwz];exact(Blk.new w _ _).alloc _
 have hB5:Blk wz (w.heap.size+1) 233 #[dH dN 0,CZ ⟨#[]⟩,dH dN 0,dH dN 0]:=by rw [← hwz];exact Aq _ _ _ _ bA
 have hil:=h.lt;have hI:=h.keeps hK0 bA;have hnl:=A4 w _ hn;have hol:=A4 w _ ho;have hk1:=Ae wz ib 0 (dH dN (i+1));have a4:=hB4.keeps hk1 bI;have a5:=hB5.keeps hk1 bI;have p0:=hI.ce 0;have pf:=hI.frozen 0;have z0:=hB4.ce 0;have c0:=a4.ce 0;have c1:=a4.ce 1;have c2:=a4.ce 2;have c3:=a4.ce 3;have f3:=a4.frozen 3;have d0:=a5.ce 0;have d1:=a5.ce 1;have d2:=a5.ce 2;have d3:=a5.ce 3;have g0:=a5.frozen 0;have g1:=a5.frozen 1;have g2:=a5.frozen 2;have g3:=a5.frozen 3;have n1:=(hk1.cell (p:=⟨nb,0,none⟩) (AT hnl hK0.size) Wi).trans ((hK0.cell (p:=⟨nb,0,none⟩) hnl bA).trans hn);have o1:=(hk1.cell (p:=⟨ob,0,none⟩) (AT hol hK0.size) (by simpa using hoe)).trans ((hK0.cell (p:=⟨ob,0,none⟩) hol bA).trans ho);have HB1:Hid (Blk (wz.setCell ⟨ib,0,none⟩ (dH dN (i+1))) ib 3 #[dH dN (i+1)]):=lH (by simpa using hI.set_ 0 (dH dN (i+1)));have HA4:=lH a4;have HA5:=lH a5;have HK0:=lH hK0;have HK1:Hid (Aa [ib] w (wz.setCell ⟨ib,0,none⟩ (dH dN (i+1)))):=lH ((hK0.mono bA).trans hk1);have HIL:=lH hil;have HZL:Hid (wz.heap.size=w.heap.size+1+1):=lH X4;clear h hn ho hK0 hB4 hB5 hI hk1 a4 a5 hil hnl hol;have x1:¬w.heap.size=w.heap.size+1:=by omega
 by_cases hto:tt≤now
 ·have ht:E8 now ov ⟨i,ky,fr,tt⟩=⟨0,⟨#[]⟩,0,0⟩:=by unfold E8;rw [if_pos hto]
  rw [ht];clear ht;go_enter Tryz.func295,Tryz.ntmps295;go_wp2_with (fail);exact bodyPost_ret (v:=dK #[dH dN 0,CZ ⟨#[]⟩,dH dN 0,dH dN 0]) (by simp [results,Tryz.results295,go_sem,d0,d1,d2,d3]) rfl ⟨rfl,HB1.out.keeps (Gy _ (w.heap.size+1) _ _ _ _) (by have:=HIL.out;simp only [Ac,Ab,or_false];omega),HK1.out.trans' (Gy _ (w.heap.size+1) _ _ _ _) (fun y hy=>by simp only [Ac,Ab,or_false] at hy;exact .inr bB)⟩
 ·obtain⟨m,hm⟩:=eX ((if now+ov<tt then now+ov else tt))
  have ht:E8 now ov ⟨i,ky,fr,tt⟩=⟨i,ky,fr,m⟩:=by unfold E8;rw [if_neg hto,hm]
  rw [ht];have hmin:(if now+ov<tt then now+ov else tt)=m:=hm;clear ht hm;go_enter Tryz.func295,Tryz.ntmps295;go_wp2_with (fail);have hkk:Aa [w.heap.size,w.heap.size+1] (wz.setCell ⟨ib,0,none⟩ (dH dN (i+1))) (((((((wz.setCell ⟨ib,0,none⟩ (dH dN (i+1))).setCell ⟨w,3,none⟩ (dH dN m)).setCell ⟨w.heap.size+1,0,none⟩ (dH dN i)).setCell ⟨w.heap.size+1,1,none⟩ (CZ ky)).setCell ⟨w.heap.size+1,2,none⟩ (dH dN fr)).setCell ⟨w.heap.size+1,3,none⟩ (dH dN m))):=((Ae _ w.heap.size 3 _).mono bA).trans ((Gy _ (w.heap.size+1) _ _ _ _).mono bA);have hd:∀y∈[w.heap.size,w.heap.size+1],w.heap.size≤y:=fun y hy=>by simp only [Ac,Ab,or_false] at hy;omega
  exact bodyPost_ret (v:=dK #[dH dN i,CZ ky,dH dN fr,dH dN m]) (by simp [results,Tryz.results295,go_sem,d0,d1,d2,d3]) rfl ⟨rfl,HB1.out.keeps hkk (fun hm=>by have:=hd _ hm;have:=HIL.out;omega),HK1.out.trans' hkk (fun y hy=>.inr (hd y hy))⟩
theorem Mz:Dj (Tryz.prog.info? 233) 4=true:=by kernel_rfl
theorem Oe(a:Option Addr)(c:Nat)(L:List Ey)(n:Nat)(hn:L.length=n)(hL:n≤1000)(ib nb ob:Nat)(now ov:Int)(hid:∀x∈L,-1000000000000≤x.id∧x.id≤1000000000000)(hs:IntKind.i64.wrap (now+ov)=now+ov)(w:World)(h:ID w a c L)(hi:Blk w ib 3 #[dH dN 1])(hnb:w.cell? ⟨nb,0,none⟩=some (dH dN now))(hob:w.cell? ⟨ob,0,none⟩=some (dH dN ov))(hne:nb≠ib)(hoe:ob≠ib)(hoa:0<n→∀g o,a=some ⟨g,o,none⟩→g≠ib):
  Calls Tryz.prog 294 #[dI a n c,.func (.func 295) #[] #[dJ (some ⟨ib,0,none⟩),dJ (some ⟨nb,0,none⟩),dJ (some ⟨ob,0,none⟩)]] w
   fun e w'=>∃u,e = dM u∧w'.ownsRow w.heap.size 233 4 u (BE L now ov).length ((BE L now ov).flatMap CH)∧Blk w' ib 3 #[dH dN (Dm L)]∧Aa [ib] w w':=by
 have HH:=lH h;have HN:=lH hn;have HID:=lH hid;have HNB:=lH hnb;have HOB:=lH hob;have HOA:=lH hoa;have HI0:Hid (Blk w ib 3 #[dH dN (Dm (L.take 0))]):=lH hi;have HIL:=lH hi.lt;have HNE:=lH (AZ hne hoe);have HSS:=lH hs;clear h hn hid hnb hob hoa hi hne hoe hs;go_enter Tryz.func294,Tryz.ntmps294;go_wp2;go_loopw [10,5] (fun i u wr=>∃k:Nat,i = dH dN k∧k≤n∧Hid (wr.ownsRow w.heap.size 233 4 u (BE (L.take k) now ov).length ((BE (L.take k) now ov).flatMap CH))∧Hid (Blk wr ib 3 #[dH dN (Dm (L.take k))])∧Hid (Aa [ib] w wr)) (fun i _ _=>n - (intOf i).toNat)
 case atStart=>exact⟨0,rfl,Cy _,lH (Bz _ _ _ _),HI0,lH (Aa.refl _ _)⟩
 case round=>
  obtain⟨k,rfl,hk,HR,HB,HK⟩:=hrel;by_cases hlt:k<n
  ·obtain⟨g,off,⟨i,ky,fr,tt⟩,rfl,hg,hx,hat⟩:=HH.out.at_k (k:=k) bO
   have q0:=hat 0 (dH dN i) rfl;have q1:=hat 1 (CZ ky) rfl;have q2:=hat 2 (dH dN fr) rfl;have q3:=hat 3 (dH dN tt) rfl;have hgi:g≠ib:=HOA.out bB g off rfl;rw [CG] at q0;rw [← HK.out.cell (p:=⟨g,off+k*4,none⟩) hg (by simpa using hgi)] at q0;rw [← HK.out.cell (p:=⟨g,off+k*4+1,none⟩) hg (by simpa using hgi)] at q1;rw [← HK.out.cell (p:=⟨g,off+k*4+2,none⟩) hg (by simpa using hgi)] at q2;rw [← HK.out.cell (p:=⟨g,off+k*4+3,none⟩) hg (by simpa using hgi)] at q3;have i1:(0:Int)≤(k:Int):=by omega
   have i2:(k:Int)<(n:Int):=by omega
   have HX:=lH hx;have hk0:=(Aa.refl [] wr).alloc (.cells #[dH dN i,CZ ky,dH dN fr,dH dN tt] 233);have HBX:=lH (Blk.new wr 233 #[dH dN i,CZ ky,dH dN fr,dH dN tt]);have HK0:=lH hk0;have HWI:Hid (wrap64 (i+1)=i+1):=lH (by have:=HID.out _ (Ex hx);dsimp only at this;exact IntWalk.wrap64_in _ ⟨by omega,by omega⟩);have d0:=HBX.out.ce 0;have d1:=HBX.out.ce 1;have d2:=HBX.out.ce 2;have d3:=HBX.out.ce 3;have HILR:Hid (ib<wr.heap.size):=lH HB.out.lt;clear hat hg hgi hx hk0;go_wp2_with (fail);refine(Vr ⟨i,ky,fr,tt⟩ ib nb ob (Dm (L.take k)) now ov HWI.out HSS.out _ (HB.out.keeps HK0.out bA) ((HK0.out.cell (p:=⟨nb,0,none⟩) (AT (A4 w _ HNB.out) HK.out.size) bA).trans ((HK.out.cell (p:=⟨nb,0,none⟩) (A4 w _ HNB.out) (by simpa using HNE.out.1)).trans HNB.out)) ((HK0.out.cell (p:=⟨ob,0,none⟩) (AT (A4 w _ HOB.out) HK.out.size) bA).trans ((HK.out.cell (p:=⟨ob,0,none⟩) (A4 w _ HOB.out) (by simpa using HNE.out.2)).trans HOB.out)) HNE.out.1 HNE.out.2).mono ?_;rintro e w1 ⟨rfl,hb1,hk1⟩;clear d0 d1 d2 d3 q0 q1 q2 q3;obtain⟨⟨ti,tk,tf,to_⟩,hT⟩:∃t,E8 now ov ⟨i,ky,fr,tt⟩=t:=⟨_,rfl⟩;rw [hT];dsimp only;have hbx:=HBX.out.keeps hk1 (by have:=HILR.out;simp only [Ac,Ab,or_false];omega);have d0:=hbx.ce 0;have d1:=hbx.ce 1;have d2:=hbx.ce 2;have d3:=hbx.ce 3;have f0:=hbx.frozen 0;have f1:=hbx.frozen 1;have f2:=hbx.frozen 2;have f3:=hbx.frozen 3;have HT:=lH hT;obtain⟨w2,hw2⟩:=eX ((((w1.setCell ⟨wr,0,none⟩ (dH dN ti)).setCell ⟨wr,1,none⟩ (CZ tk)).setCell ⟨wr,2,none⟩ (dH dN tf)).setCell ⟨wr,3,none⟩ (dH dN to_));have hk2:Aa [wr.heap.size] w1 w2:=by rw [← hw2];exact Gy _ _ _ _ _ _
   have hbx2:Blk w2 wr.heap.size 233 #[dH dN ti,CZ tk,dH dN tf,dH dN to_]:=by rw [← hw2];exact hbx.put4 _ _ _ _
   have hkr2:Aa [ib] wr w2:=((HK0.out.mono bA).trans hk1).trans' hk2 (fun y hy=>.inr Y5);have hrow2:=Ak HR.out hkr2 (fun g9 hg9 hm=>by
    simp only [Ac,Ab,or_false] at hm;have h1:=(HR.out.lt g9 hg9).1;have:=HIL.out;omega)
   have HROW:=lH hrow2;have HB2:Hid (Blk w2 ib 3 #[dH dN (Dm (L.take (k+1)))]):=lH (by rw [SF HX.out];exact hb1.keeps hk2 (by have:=HILR.out;simp only [Ac,Ab,or_false];omega));have HK2:Hid (Aa [ib] w w2):=lH (HK.out.trans hkr2);have e0:=hbx2.ce 0;have e1:=hbx2.ce 1;have e2:=hbx2.ce 2;have e3:=hbx2.ce 3;clear hbx hk1 hb1 hk2 hbx2 hkr2 hrow2 hT;by_cases hlo:tf<to_
   ·have HS2:Hid (BE (L.take (k+1)) now ov=BE (L.take k) now ov++[⟨ti,tk,tf,to_⟩]):=lH (by rw [Ln HX.out,HT.out,if_pos hlo])
    obtain⟨ys,hys⟩:=eX (BE (L.take k) now ov);have hyl:ys.length≤k:=by rw [← hys];exact As (ME _ _ _) aF
    rw [hys] at HROW HS2;obtain⟨g9,c9,w9,hrun,hrow9,hk9,hge9⟩:=C8 (enc:=CH) Tryz.prog (t:=122) Tryz.underlying122 Mz bE EF I1 HROW.out (HK2.out.size) ⟨ti,tk,tf,to_⟩ bB 122;have HR9:Hid (w9.ownsRow w.heap.size 233 4 (dI (some ⟨g9,0,none⟩) (ys.length+1) c9) (BE (L.take (k+1)) now ov).length ((BE (L.take (k+1)) now ov).flatMap CH)):=lH (by rw [HS2.out];exact hrow9);have hge:=AP HROW.out;have HB9:=lH (HB2.out.keeps hk9 (fun hm=>by have:=hge _ hm;have:=HIL.out;omega));have HK9:Hid (Aa [ib] w w9):=lH (HK2.out.trans' hk9 (fun y hy=>.inr (hge y hy)));simp only [CH] at hrun;have hsz:w2.heap.size=w1.heap.size:=by rw [← hw2];simp [World.setCell]
    rw [hsz,← hw2] at hrun;rw [← hw2] at e2 e3;clear hsz;clear hrow9 hk9 hge9 hge hw2 hys hyl e0 e1;go_wp2_with (first | (at_builtin;refine Ar _ rfl _ _ 122 rfl rfl rfl hrun ?_) | fail);go_roundw;case rel=>exact⟨k+1,by go_num,by omega,HR9,HB9,HK9⟩
    case measure=>simp [intOf];omega
   ·have HS2:Hid (BE (L.take (k+1)) now ov=BE (L.take k) now ov):=lH (by rw [Ln HX.out,HT.out,if_neg hlo,List.append_nil])
    rw [← HS2.out] at HROW;rw [← hw2] at HROW HB2 HK2 e2 e3;clear hw2 e0 e1;go_wp2_with (fail);go_roundw;case rel=>exact⟨k+1,by go_num,by omega,HROW,HB2,HK2⟩
    case measure=>simp [intOf];omega
  ·obtain rfl:k=n:=by omega
   have ht:L.take k=L:=Ax bL;rw [ht] at HR HB;clear ht;go_wp2;go_ret;exact⟨_,rfl,HR.out,HB.out,HK.out⟩
def Uv(n:Int):Value:=if n=0 then .nilIface else .iface 430 (dK #[dH dN n])
def Db(B:Nat)(w:World)(u:Value)(l:List Ey):Prop:=∃a c,u = dI a l.length c∧ID w a c l∧∀g o,a=some ⟨g,o,none⟩→B≤g
theorem Db.none_(B:Nat)(w:World):Db B w (dI none 0 0) []:=⟨none,0,rfl,AJ.none_,fun _ _ e=>by cases e⟩
theorem Db.of_row{w:World}{B B':Nat}{u:Value}{l:List Ey}(h:w.ownsRow B 233 4 u l.length (l.flatMap CH))(hb:B'≤B):Db B' w u l:=by
 obtain⟨a,c,rfl,hs,hg⟩:=AJ.of_row EF h;exact⟨a,c,rfl,hs,fun g o e=>As hb (hg g o e)⟩
theorem Db.keeps{B:Nat}{w w':World}{u:Value}{l:List Ey}(h:Db B w u l)(hk:Aa [] w w'):Db B w' u l:=by
 obtain⟨a,c,h1,h2,h3⟩:=h;exact⟨a,c,h1,h2.keeps hk,h3⟩
theorem QN(a:Option Addr)(c:Nat)(L:List Ey)(n:Nat)(hn:L.length=n)(hL:n≤1000)(key:ByteArray)(now ov span:Int)(hbad:Hid ((Dg L&&(Lg key&&(D1 now 0 1000000000000&&(D1 ov 0 1000000000&&(D1 span 1 1000000000&&decide (now+span≤1000000000000))))))=false))(w:World)(h:ID w a c L):
  Calls Tryz.prog 245 #[dI a n c,CZ key,dH dN now,dH dN ov,dH dN span] w (fun e w'=>∃u,e = dM (.tuple #[u,dH dN (AN L key now ov span).2.1,Uv (AN L key now ov span).2.2])∧Db w.heap.size w' u (AN L key now ov span).1∧Aa [] w w'):=by
 obtain⟨wz,hwz⟩:=eX ((w.alloc (.cells #[dH dN now] 3)).alloc (.cells #[dH dN ov] 3));have hK0:Aa [] w wz:=by rw [← hwz];exact((Aa.refl [] w).alloc _).alloc _
 have hB0:Blk wz w.heap.size 3 #[dH dN now]:=by rw [← hwz];exact(Blk.new w _ _).alloc _
 have hB1:Blk wz (w.heap.size+1) 3 #[dH dN ov]:=by rw [← hwz];exact Aq _ _ _ _ bA
 obtain⟨b1,hb1⟩:=eX (Dg L);obtain⟨b2,hb2⟩:=eX (Lg key);obtain⟨p1,hp1⟩:=eX (D1 now 0 1000000000000);obtain⟨p2,hp2⟩:=eX (D1 ov 0 1000000000);obtain⟨p3,hp3⟩:=eX (D1 span 1 1000000000);have HR:=lH (fun W (hkk:Aa [] wz W)=>Iz a c L n hn bB b1 hb1 W (h.keeps (hK0.trans hkk)));have HRC:Hid (AN L key now ov span=([],0,if b1 then if b2 then 2 else 50 else 110)):=lH (by
  have hx:=hbad.out;rw [hb1,hb2,hp1,hp2,hp3] at hx;unfold AN;rw [hb1,hb2,hp1,hp2,hp3];cases b1<;>cases b2<;>simp only [Bool.false_eq_true,if_false,if_true,De,DW] at hx ⊢;rw [hx];rfl)
 have HBAD:Hid ((b1&&(b2&&(p1&&(p2&&(p3&&decide (now+span≤1000000000000))))))=false):=lH (by rw [← hb1,← hb2,← hp1,← hp2,← hp3];exact hbad.out);have H2:=lH hb2;have HP1:=lH hp1;have HP2:=lH hp2;have HP3:=lH hp3;have HK0:=lH hK0;have HB0:=lH hB0;have HB1:=lH hB1;clear h hn hb1 hb2 hp1 hp2 hp3 hK0 hB0 hB1 hbad;rw [HRC.out];dsimp only;go_enter Tryz.func245,Tryz.ntmps245;go_wp2_with (fail);refine(HR.out wz (Aa.refl [] wz)).mono ?_;rintro e w1 ⟨rfl,hk1⟩;have HK1:=lH (HK0.out.trans hk1);have c0:=(HB0.out.keeps hk1 bA).ce 0;have c1:=(HB1.out.keeps hk1 bA).ce 0;clear hk1 hwz;cases b1 with
 | false=>
  go_wp2_with (fail);exact bodyPost_ret (v:=.tuple #[dI none 0 0,dH dN 0,.iface 430 (dK #[dH dN 110])]) (by simp [results,Tryz.results245,go_sem]) rfl ⟨_,rfl,Db.none_ _ _,HK1.out⟩
 | true=>
  go_wp2_with (fail);refine(I5 key b2 H2.out _).mono ?_;rintro e w2 ⟨rfl,rfl⟩;cases b2 with
  | false=>
   go_wp2_with (fail);exact bodyPost_ret (v:=.tuple #[dI none 0 0,dH dN 0,.iface 430 (dK #[dH dN 50])]) (by simp [results,Tryz.results245,go_sem]) rfl ⟨_,rfl,Db.none_ _ _,HK1.out⟩
  | true=>
   go_wp2_with (fail);refine(Fz now _ _ p1 HP1.out _).mono ?_;rintro e w2 ⟨rfl,rfl⟩;cases p1 with
   | false=>
    go_wp2_with (fail);exact bodyPost_ret (v:=.tuple #[dI none 0 0,dH dN 0,.iface 430 (dK #[dH dN 2])]) (by simp [results,Tryz.results245,go_sem]) rfl ⟨_,rfl,Db.none_ _ _,HK1.out⟩
   | true=>
    go_wp2_with (fail);refine(Fz ov _ _ p2 HP2.out _).mono ?_;rintro e w2 ⟨rfl,rfl⟩;cases p2 with
    | false=>
     go_wp2_with (fail);exact bodyPost_ret (v:=.tuple #[dI none 0 0,dH dN 0,.iface 430 (dK #[dH dN 2])]) (by simp [results,Tryz.results245,go_sem]) rfl ⟨_,rfl,Db.none_ _ _,HK1.out⟩
    | true=>
     go_wp2_with (fail);refine(Fz span _ _ p3 HP3.out _).mono ?_;rintro e w2 ⟨rfl,rfl⟩;cases p3 with
     | false=>
      go_wp2_with (fail);exact bodyPost_ret (v:=.tuple #[dI none 0 0,dH dN 0,.iface 430 (dK #[dH dN 2])]) (by simp [results,Tryz.results245,go_sem]) rfl ⟨_,rfl,Db.none_ _ _,HK1.out⟩
     | true=>
      have i9:(1000000000000:Int)<now+span:=by
       have:=HBAD.out;simp only [De] at this;have:=of_decide_eq_false this;omega
      have hws:IntKind.i64.wrap (now+span)=now+span:=by
       have h1:=HP1.out;have h3:=HP3.out;unfold D1 at h1 h3;simp only [Af,decide_eq_true_eq] at h1 h3;exact IntWalk.i64_in _ bB
      go_wp2_with (fail);exact bodyPost_ret (v:=.tuple #[dI none 0 0,dH dN 0,.iface 430 (dK #[dH dN 2])]) (by simp [results,Tryz.results245,go_sem]) rfl ⟨_,rfl,Db.none_ _ _,HK1.out⟩
theorem SX(a:Option Addr)(c:Nat)(L:List Ey)(n:Nat)(hn:L.length=n)(hL:n≤1000)(key:ByteArray)(now ov span:Int)(hb1:Dg L=true)(hb2:Lg key=true)(hp1:D1 now 0 1000000000000=true)(hp2:D1 ov 0 1000000000=true)(hp3:D1 span 1 1000000000=true)(hp4:now+span≤1000000000000)(w:World)(h:ID w a c L):
  Calls Tryz.prog 245 #[dI a n c,CZ key,dH dN now,dH dN ov,dH dN span] w (fun e w'=>∃u,e = dM (.tuple #[u,dH dN (AN L key now ov span).2.1,Uv (AN L key now ov span).2.2])∧Db w.heap.size w' u (AN L key now ov span).1∧Aa [] w w'):=by
 obtain⟨wz,hwz⟩:=eX ((w.alloc (.cells #[dH dN now] 3)).alloc (.cells #[dH dN ov] 3));have hK0:Aa [] w wz:=by rw [← hwz];exact((Aa.refl [] w).alloc _).alloc _
 have hB0:Blk wz w.heap.size 3 #[dH dN now]:=by rw [← hwz];exact(Blk.new w _ _).alloc _
 have hB1:Blk wz (w.heap.size+1) 3 #[dH dN ov]:=by rw [← hwz];exact Aq _ _ _ _ bA
 have HR:=lH (fun W (hkk:Aa [] wz W)=>Iz a c L n hn bB true hb1 W (h.keeps (hK0.trans hkk)));have HRC:Hid (AN L key now ov span=if 4<(BE L now ov).length+1∨1000000000<Dm L then([],0,92) else(BE L now ov++[⟨Dm L,key,now,now+span⟩],Dm L,0)):=lH (by
  unfold AN;rw [hb1,hb2,hp1,hp2,hp3,decide_eq_true hp4];rfl)
 have HH:=lH h;have HN:=lH hn;have HC1:=lH hb1;have H2:=lH hb2;have HP1:=lH hp1;have HP2:=lH hp2;have HP3:=lH hp3;have HK0:=lH hK0;have HB0:=lH hB0;have HB1:=lH hB1;have HNUM:Hid (0≤now∧now≤1000000000000∧0≤ov∧ov≤1000000000∧1≤span∧span≤1000000000):=lH (by
  unfold D1 at hp1 hp2 hp3;simp only [Af,decide_eq_true_eq] at hp1 hp2 hp3;omega)
 have hws:IntKind.i64.wrap (now+span)=now+span:=IntWalk.i64_in _ (by have:=HNUM.out;omega);have HWO:Hid (IntKind.i64.wrap (now+ov)=now+ov):=lH (IntWalk.i64_in _ (by have:=HNUM.out;omega));have i9:¬(1000000000000:Int)<now+span:=by omega
 clear h hn hb1 hb2 hp1 hp2 hp3 hp4 hK0 hB0 hB1;go_enter Tryz.func245,Tryz.ntmps245;go_wp2_with (fail);refine(HR.out wz (Aa.refl [] wz)).mono ?_;rintro e w1 ⟨rfl,hk1⟩;have HK1:=lH (HK0.out.trans hk1);have HKZ:=lH hk1;have c0:=(HB0.out.keeps hk1 bA).ce 0;have c1:=(HB1.out.keeps hk1 bA).ce 0;clear hk1 hwz;go_wp2_with (fail);refine(I5 key true H2.out _).mono ?_;rintro e w2 ⟨rfl,rfl⟩;go_wp2_with (fail);refine(Fz now _ _ true HP1.out _).mono ?_;rintro e w2 ⟨rfl,rfl⟩;go_wp2_with (fail);refine(Fz ov _ _ true HP2.out _).mono ?_;rintro e w2 ⟨rfl,rfl⟩;go_wp2_with (fail);refine(Fz span _ _ true HP3.out _).mono ?_;rintro e w2 ⟨rfl,rfl⟩;go_wp2_with (fail);have hlt01:w.heap.size+1<w1.heap.size:=AT HB1.out.lt HKZ.out.size;have HLT:=lH hlt01;have hid:∀x∈L,-1000000000000≤x.id∧x.id≤1000000000000:=fun x hx=>by
  have h1:=HC1.out;unfold Dg at h1;rw [Af] at h1;have h2:=BB.1 h1.2 x hx;unfold GO at h2;simp only [Af,decide_eq_true_eq] at h2;omega
 have hA:=(Aa.refl [] w1).alloc (.cells #[dH dN 1] 3);refine(Oe a c L n HN.out hL w1.heap.size w.heap.size (w.heap.size+1) now ov hid HWO.out (w1.alloc (.cells #[dH dN 1] 3)) (HH.out.keeps (HK1.out.trans hA)) (Blk.new w1 _ _) (DX c0 _) (DX c1 _) bB bB (fun h0 g o e=>by
  intro hg;subst hg;obtain⟨g',o',e1,hlt,_⟩:=HH.out.at_ (by rw [HN.out];exact h0);rw [e] at e1;injection e1 with e1;injection e1 with e1 _
  have:=HK1.out.size;omega)).mono ?_
 rintro e w3 ⟨u,rfl,hrow,hib,hk3⟩;have HK3:Hid (Aa [] w w3):=lH (HK1.out.own (((Aa.refl [w1.heap.size] w1).alloc _).trans hk3) (fun y hy=>by simp only [Ac,Ab,or_false] at hy;have:=HK1.out.size;omega));have hlow:∀g∈u.ownBlock.toList,w1.heap.size<g:=fun g hg=>by
  have:=AP hrow g hg;simp at this;omega
 have d0:=(hk3.cell (p:=⟨w,0,none⟩) bG bG).trans (DX c0 _);have d2:=hib.ce 0;obtain⟨ys,hys⟩:=eX (BE L now ov);obtain⟨id,hidv⟩:=eX (Dm L);have hyl:ys.length≤n:=by rw [← hys,← HN.out];exact ME _ _ _
 rw [hys] at hrow HRC;rw [hidv] at d2 HRC hib;obtain⟨g9,c9,w9,hrun,hrow9,hk9,hge9⟩:=C8 (enc:=CH) Tryz.prog (t:=122) Tryz.underlying122 Mz bE EF I1 hrow (As bA hk3.size) ⟨id,key,now,now+span⟩ bB 122;have e2:=(hib.keeps hk9 (fun hm=>by have:=hlow _ hm;omega)).ce 0;have HK9:Hid (Aa [] w w9):=lH (HK3.out.own hk9 (fun y hy=>by have:=hlow y hy;have:=HK1.out.size;omega));have HR9:=lH hrow9;have HLY:Hid (ys.length≤1000):=lH bB;simp only [CH] at hrun;obtain⟨m,hm⟩:=eX (ys.length+1);rw [hm] at hrun HRC;have HM:=lH hm;have HC9:Hid (Db w.heap.size w9 (dI (some ⟨g9,0,none⟩) m c9) (ys++[⟨id,key,now,now+span⟩])):=lH (by rw [← hm];exact Db.of_row hrow9 (by have:=HK1.out.size;simp;omega));clear c0 c1 hlt01 hid hA hrow hib hk3 hlow hys hidv hyl hrow9 hk9 hge9 hm;have hm64:m≤1001:=by rw [← HM.out];have:=HLY.out;omega
 by_cases h4:4<m
 ·have HE:=lH (HRC.out.trans (if_pos (.inl h4)))
  have i4:(4:Int)<(m:Int):=by omega
  clear h4;go_wp2_with (at_builtin;refine Ar _ rfl _ _ 122 rfl rfl rfl hrun ?_);exact bodyPost_ret (v:=.tuple #[dI none 0 0,dH dN 0,.iface 430 (dK #[dH dN 92])]) (by simp [results,Tryz.results245,go_sem]) rfl ⟨_,by rw [HE.out];rfl,by rw [HE.out];exact Db.none_ _ _,HK9.out⟩
 ·have i4:¬(4:Int)<(m:Int):=by omega
  by_cases h5:1000000000<id
  ·have HE:=lH (HRC.out.trans (if_pos (.inr h5)))
   clear h4;go_wp2_with (at_builtin;refine Ar _ rfl _ _ 122 rfl rfl rfl hrun ?_);exact bodyPost_ret (v:=.tuple #[dI none 0 0,dH dN 0,.iface 430 (dK #[dH dN 92])]) (by simp [results,Tryz.results245,go_sem]) rfl ⟨_,by rw [HE.out];rfl,by rw [HE.out];exact Db.none_ _ _,HK9.out⟩
  ·have HE:=lH (HRC.out.trans (if_neg bB))
   clear h4;go_wp2_with (at_builtin;refine Ar _ rfl _ _ 122 rfl rfl rfl hrun ?_);go_quiet (fail);go_wp2_with (fail);exact bodyPost_ret (v:=.tuple #[dI (some ⟨g9,0,none⟩) m c9,dH dN id,.nilIface]) (by simp [results,Tryz.results245,go_sem]) rfl ⟨_,by rw [HE.out];rfl,by rw [HE.out];exact HC9.out.keeps (by repeat(first | exact Aa.refl _ _ | refine Aa.drewN ?_ _ | refine Aa.drew ?_)),by first | exact HK9.out | exact HK9.out.drewN _ | exact HK9.out.drew⟩
theorem QM(a:Option Addr)(c:Nat)(L:List Ey)(n:Nat)(hn:L.length=n)(hL:n≤1000)(key:ByteArray)(now ov span:Int)(w:World)(h:ID w a c L):
  Calls Tryz.prog 245 #[dI a n c,CZ key,dH dN now,dH dN ov,dH dN span] w (fun e w'=>∃u,e = dM (.tuple #[u,dH dN (AN L key now ov span).2.1,Uv (AN L key now ov span).2.2])∧Db w.heap.size w' u (AN L key now ov span).1∧Aa [] w w'):=by
 cases hb:(Dg L&&(Lg key&&(D1 now 0 1000000000000&&(D1 ov 0 1000000000&&(D1 span 1 1000000000&&decide (now+span≤1000000000000)))))) with
 | false=>exact QN a c L n hn hL key now ov span (lH hb) w h
 | true=>
  simp only [Af,decide_eq_true_eq] at hb;obtain⟨h1,h2,h3,h4,h5,h6⟩:=hb;exact SX a c L n hn hL key now ov span h1 h2 h3 h4 h5 h6 w h
theorem K1(a:Option Addr)(c:Nat)(L:List Ey)(n:Nat)(hn:L.length=n)(hL:n≤1000)(key:ByteArray)(now ov span:Int)(w:World)(hg:Et w)(hg0:0<w.heap.size)(h:ID w a c L):
  Calls Tryz.prog 197 #[dI a n c,CZ key,dH dN now,dH dN ov,dH dN span] w (fun e w'=>∃u,e = dM (.tuple #[u,dH dN (AN L key now ov span).2.1,dH dN (AN L key now ov span).2.2])∧Db w.heap.size w' u (AN L key now ov span).1∧Aa [] w w'):=by
 have HR:=lH (QM a c L n hn hL key now ov span w h);obtain⟨⟨l,id,er⟩,hr⟩:∃r,AN L key now ov span=r:=⟨_,rfl⟩;rw [hr] at HR ⊢;dsimp only at HR ⊢;have HG:=lH hg;clear hr h hn hg;go_enter Tryz.func197,Tryz.ntmps197;go_wp2_with (fail);refine HR.out.mono ?_;rintro e w1 ⟨u,rfl,hu,hk⟩;have HU:=lH hu;have HK:=lH hk;have HG1:=lH (HG.out.keeps hk bA);clear hu hk;by_cases he:er=0
 ·subst he
  simp only [Uv,if_pos];go_wp2_with (fail);refine(ErD.told_nil w1).mono ?_;rintro e w2 ⟨rfl,hk2⟩;have HK2:=lH hk2;clear hk2;go_wp2_with (fail);exact bodyPost_ret (v:=.tuple #[u,dH dN id,dH dN 0]) (by simp [results,Tryz.results197,go_sem]) rfl ⟨_,rfl,HU.out.keeps HK2.out,HK.out.trans HK2.out⟩
 ·simp only [Uv,if_neg he]
  go_wp2_with (fail);refine(ErD.told_why er w1 HG1.out).mono ?_;rintro e w2 ⟨rfl,hk2⟩;have HK2:=lH hk2;clear hk2;go_wp2_with (fail);exact bodyPost_ret (v:=.tuple #[u,dH dN id,dH dN er]) (by simp [results,Tryz.results197,go_sem]) rfl ⟨_,rfl,HU.out.keeps HK2.out,HK.out.trans HK2.out⟩
end
section
open Go.RowKit Go.Shelf
structure Jw(P:Program)(t e:TypeId)(n:Nat)(z:Value):Prop where
 ht:P.underlying t=some (.slice e)
 hi:Dj (P.info? e) n=true
 el:P.elem t=e
 sz:∀W,(sizeOf e).run P W = .ok n W
 zv:∀W,(zeroValue e).run P W = .ok z W
 zc:z.cells.size=n
 z1:∀u∈z.cells.toList,u.oneCell'=true
section
variable {P:Program} {t e:TypeId} {n:Nat} {z:Value}
theorem Jw.ht'(h:Jw P t e n z):P.underlying t=some (.slice (P.elem t)):=by rw [h.el];exact h.ht
theorem Jw.s_h(h:Jw P t e n z)(W:World)(g off k cap l:Nat)(h2:l≤cap):
  (AG t (dI (some ⟨g,off,none⟩) k cap) none (some (dH dN (l:Int))) none).run P W = .ok (dI (some ⟨g,off,none⟩) l cap) W:=by
 have hh:=run_slice_h (P:=P) W t (some ⟨g,off,none⟩) k cap h.ht' .i64 l bB bB;rw [hh,h.el,h.sz];simp [sliced,Bn,AI]
theorem Jw.s_l(h:Jw P t e n z)(W:World)(g off k cap l:Nat)(h1:l≤k)(h2:k≤cap):
  (AG t (dI (some ⟨g,off,none⟩) k cap) (some (dH dN (l:Int))) none none).run P W = .ok (dI (some (if cap=l then⟨g,off,none⟩ else⟨g,off+l*n,none⟩)) (k - l) (cap - l)) W:=by
 have hh:=run_slice_l (P:=P) W t (some ⟨g,off,none⟩) k cap h.ht' .i64 l bB bB;rw [hh,h.el,h.sz];by_cases hc:cap=l
 ·simp [sliced,hc,AI]
 ·simp [sliced,hc,Bn,AI]
theorem Jw.s_lh(h:Jw P t e n z)(W:World)(g off k cap l m:Nat)(h0:l≤m)(h1:m≤cap)(h2:l<cap):
  (AG t (dI (some ⟨g,off,none⟩) k cap) (some (dH dN (l:Int))) (some (dH dN (m:Int))) none).run P W = .ok (dI (some ⟨g,off+l*n,none⟩) (m - l) (cap - l)) W:=by
 have hh:=run_slice_lh (P:=P) W t (some ⟨g,off,none⟩) k cap h.ht' .i64 .i64 l m bB bB bB;rw [hh,h.el,h.sz];simp [sliced,show ¬cap=l by omega,Bn,AI]
theorem Jw.s_lhm(h:Jw P t e n z)(W:World)(g off k cap l m r:Nat)(h0:l≤m)(h1:m≤r)(h2:r≤cap):
  (AG t (dI (some ⟨g,off,none⟩) k cap) (some (dH dN (l:Int))) (some (dH dN (m:Int))) (some (dH dN (r:Int)))).run P W = .ok (sliced (some ⟨g,off,none⟩) l m r n) W:=by
 have hh:=run_slice_lhm (P:=P) W t (some ⟨g,off,none⟩) k cap h.ht' .i64 .i64 .i64 l m r bB bB bB bB;rw [hh,h.el,h.sz];rfl
theorem Jw.clear1(h:Jw P t e n z)(W:World)(ty:TypeId)(g o c:Nat)(cs:Array Value)(hb:Blk W g e cs)(hc:o+n≤cs.size):
  (Builtin.clear_ #[t] ty #[dI (some ⟨g,o,none⟩) 1 c]).run P W = .ok (.tuple #[]) (W.setCells g o (A5 z.cells 1).toList):=by
 have hl:(A5 z.cells 1).toList.length=n:=by simp [A5,h.zc]
 have hst:=run_storeCells_cells (P:=P) g o (A5 z.cells 1).toList 0 W (fun j hj=>by
   rw [hl] at hj;rw [hb.cell,Array.getElem?_eq_getElem bB];rfl) (fun j _=>hb.frozen _) (fun u hu=>by
   refine h.z1 u ?_;have:(A5 z.cells 1).toList=z.cells.toList:=by
    apply List.ext_getElem?;intro j;rcases Nat.lt_or_ge j n with hj | hj
    ·simp [A5,h.zc,hj,Nat.mod_eq_of_lt hj]
    ·rw [List.getElem?_eq_none (by rw [hl];exact hj),List.getElem?_eq_none (by rw [BL,h.zc];exact hj)]
   rw [← this];exact hu)
 simp only [CG] at hst;simp only [Builtin.clear_,Ai,Ah,Sem.run_bind,run_underlying h.ht,Result.andThen_ok,h.zv,hst,Sem.run_pure]
structure Z7(P:Program)(t:TypeId)(n:Nat){α:Type}(enc:α→List Value)(xs:List α)(L i g c:Nat)(w:World)(X A:Value)(W1 W2:World):Prop where
 s1:∀W,(AG t (dI (some ⟨g,0,none⟩) L c) (some (dH dN (i:Int))) (some (dH dN ((i:Int)+1))) (some (dH dN (L:Int)))).run P W = .ok X W
 s2:∀W,(AG t (dI (some ⟨g,0,none⟩) L c) none (some (dH dN (i:Int))) none).run P W = .ok (dI (some ⟨g,0,none⟩) i c) W
 s3:∀W,(AG t (dI (some ⟨g,0,none⟩) L c) (some (dH dN ((i:Int)+1))) none none).run P W = .ok A W
 s4:∀W,(AG t (dI (some ⟨g,0,none⟩) (L - 1) c) (some (dH dN ((L - 1:Nat):Int))) (some (dH dN (L:Int))) none).run P W = .ok (dI (some ⟨g,(L - 1)*n,none⟩) 1 (c - (L - 1))) W
 ap:∀ty,(Bo #[t,t] ty #[dI (some ⟨g,0,none⟩) i c,A]).run P w.drew = .ok (dI (some ⟨g,0,none⟩) (L - 1) c) W1
 cl:∀ty,(Builtin.clear_ #[t] ty #[dI (some ⟨g,(L - 1)*n,none⟩) 1 (c - (L - 1))]).run P W1 = .ok (.tuple #[]) W2
 fin:AJ enc n W2 (some ⟨g,0,none⟩) c (xs.eraseIdx i)
 keep:Aa [g] w W2
theorem Hy{α:Type}{enc:α→List Value}(hn:∀x,(enc x).length=n)(xs:List α)(k:Nat)(hk:k≤xs.length):(xs.take k).flatMap enc=(xs.flatMap enc).take (k*n):=by
 have h:xs.flatMap enc=(xs.take k).flatMap enc++(xs.drop k).flatMap enc:=by rw [← Bt,Bj]
 have hl:((xs.take k).flatMap enc).length=k*n:=by rw [Ea hn,A7,DP hk]
 rw [h,DJ bB];exact(Ax bB).symm
theorem Hx{α:Type}{enc:α→List Value}(hn:∀x,(enc x).length=n)(xs:List α)(k:Nat)(hk:k≤xs.length):(xs.drop k).flatMap enc=(xs.flatMap enc).drop (k*n):=by
 have h:xs.flatMap enc=(xs.take k).flatMap enc++(xs.drop k).flatMap enc:=by rw [← Bt,Bj]
 have hl:((xs.take k).flatMap enc).length=k*n:=by rw [Ea hn,A7,DP hk]
 rw [h,List.drop_append_of_le_length bB,List.drop_of_length_le (l:=(xs.take k).flatMap enc) bB,AX]
theorem AJ.of_cells{α:Type}{enc:α→List Value}(hn:∀x,(enc x).length=n){w:World}{g c:Nat}{cs:Array Value}{xs:List α}(hb:Blk w g e cs)(hc:xs.length≤c)(h:cs.toList.take (xs.length*n)=xs.flatMap enc):AJ enc n w (some ⟨g,0,none⟩) c xs:=
 ⟨hc,(fun e=>by cases e),fun _=>⟨g,0,rfl,hb.lt,fun i hi j u hj=>by
  have hjn:j<n:=by have:=(Ad.1 hj).1;rwa [hn] at this
  rw [BI,hb.cell];have h1:=IV hn xs i hi j hjn;have hlt:i*n+j<xs.length*n:=by
   have:(i+1)*n≤xs.length*n:=BW n hi;rw [Nat.add_mul] at this;omega
  rw [hj,← h,Ds,if_pos hlt] at h1;simpa using h1⟩⟩
theorem Jw.del(h:Jw P t e n z){α:Type}{enc:α→List Value}(hn:∀x,(enc x).length=n)(hone:∀x,∀u∈enc x,u.oneCell'=true){xs:List α}{L i g c B:Nat}(hL:xs.length=L)(hi:i<L)(h1000:L≤1000)(w:World)
 (hr:w.ownsRow B e n (dI (some ⟨g,0,none⟩) L c) L (xs.flatMap enc)):∃X A W1 W2,Z7 P t n enc xs L i g c w X A W1 W2:=by
 rcases hr.2 with⟨h0,_⟩ | ⟨g',c',cur,e1,hb,hg,hle,hcm,hs,htk⟩
 ·cases h0
 injection e1 with e1 _ e2
 injection e1 with e1;injection e1 with e1 _
 subst e1;subst e2;have hblk:Blk w g e cur:=hg;obtain⟨i0,zz,hii,hiz,his,hizs,hib⟩:=BK h.hi;obtain⟨news,hnews⟩:=eX ((xs.drop (i+1)).flatMap enc);have hnl:news.length=(L - (i+1))*n:=by rw [← hnews,Ea hn,Bi,hL]
 have hcn:L*n≤cur.size:=by rw [hs];exact BW n hle
 have hin:(i+1)*n≤L*n:=BW n hi;have hin2:(i+1)*n=i*n+n:=by rw [Nat.add_mul];omega
 have hLs:(L - (i+1))*n=L*n - (i+1)*n:=Nat.sub_mul _ _ _;have hL1:(L - 1)*n=L*n - n:=by rw [Nat.sub_mul];omega
 have hnewc:∀j u,news[j]? = some u→cur[(i+1)*n+j]? = some u:=fun j u hj=>by
  have hjl:=(Ad.1 hj).1;rw [← hnews,Hx hn xs (i+1) bB,List.getElem?_drop,← htk,Ds] at hj;rw [if_pos bB] at hj;simpa using hj
 obtain⟨A,hA⟩:=eX (dI (some (if c=i+1 then⟨g,0,none⟩ else⟨g,0+(i+1)*n,none⟩)) (L - (i+1)) (c - (i+1)));have hsrc:Src P i0.size t A (L - (i+1)) news w.drew:=by
  rw [← hA];refine Src.ofSlice _ h.ht _ _ _ _ (by rw [his];exact hnl) (fun j u hj=>?_) (fun u hu=>?_)
  ·have hjl:=(Ad.1 hj).1
   have hc0:c≠i+1:=fun hc0=>by
    have:L - (i+1)=0:=by omega
    rw [this] at hnl;omega
   rw [if_neg hc0,Bn,hblk.drew.cell,BI];exact hnewc j u hj
  ·rw [← hnews] at hu
   obtain⟨x,_,hx⟩:=DL.1 hu;exact hone x u hx
 have happ:=run_append_room_src (P:=P) w.drew t t;obtain⟨cs1,hb1,hc1⟩:=Blk.setAll news (i*n) w.drew cur hblk.drew bB;have hb1s:cs1.size=cur.size:=by rw [← BL,hc1];simp;omega
 obtain⟨cs2,hb2,hc2⟩:=Blk.setAll (A5 z.cells 1).toList ((L - 1)*n) _ cs1 hb1 (by
  have:(A5 z.cells 1).toList.length=n:=by simp [A5,h.zc]
  rw [this,hb1s];omega)
 refine⟨_,A,_,_,⟨fun W=>h.s_lhm W g 0 L c i (i+1) L bB bB hle,fun W=>h.s_h W g 0 L c i bB,fun W=>?_,fun W=>?_,fun ty=>?_,fun ty=>h.clear1 _ ty g _ _ cs1 hb1 (by rw [hb1s];omega),?_,?_⟩⟩
 ·rw [← hA];exact h.s_l W g 0 L c (i+1) hi hle
 ·have:=h.s_lh W g 0 (L - 1) c (L - 1) L bB hle bB
  rw [BI,show L - (L - 1)=1 by omega] at this;exact this
 ·have:=happ ty e i0 h.ht hii g 0 i c _ _ _ hsrc bB (fun j hj=>by
   rw [his,BI,hblk.drew.cell,Array.getElem?_eq_getElem bB];rfl) (fun j hj=>hblk.drew.frozen _)
  rw [his,show i+(L - (i+1))=L - 1 by omega,BI] at this;exact this
 ·have hel:(xs.eraseIdx i).length=L - 1:=by rw [List.length_eraseIdx,if_pos bB,hL]
  refine AJ.of_cells hn hb2 bB ?_;rw [hel,hc2,hc1];have e1:cur.toList.take (i*n)=(xs.take i).flatMap enc:=by
   rw [Hy hn xs i bB,← htk,List.take_take,DP bB]
  have hl1:(cur.toList.take (i*n)).length=i*n:=by rw [A7,BL];omega
  have hl2:(cur.toList.take (i*n)++news).length=(L - 1)*n:=by rw [Ag,hl1,hnl];omega
  rw [CO,CO,DJ (by rw [A7];simp only [Ag,Bi,BL,hl1,hnl];omega),List.take_take,Nat.min_self,← CO,DJ bB,Ax bB,e1,← hnews,← Bt,List.eraseIdx_eq_take_drop_succ]
 ·exact((((Aa.refl [g] w).drew)).trans (Aa.setCells (.inl bA) _ _ (Aa.refl [g] _))).trans (Aa.setCells (.inl bA) _ _ (Aa.refl [g] _))
end
end
end Go.Proofs.YtcjdkbgdahgjbaaGreatDoor
